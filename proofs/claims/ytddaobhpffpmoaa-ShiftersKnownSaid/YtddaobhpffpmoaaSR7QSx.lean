/- A part of the proof. -/
import Derived.Test.YtddaobhpffpmoaaSR7QSq
import Derived.Test.YtddaobhpffpmoaaSR7QGv
set_option linter.all false
namespace Go.Proofs.Ytddaobhpffpmoaa
open Go.Abs
namespace Sf
open Gf
theorem bz_inj{x y:Nat}(h:bz x=bz y):x=y:=Ay λi=>congrFun h i
theorem nx_xor{n T:Nat}(hn:n<=64)(a b:Nat):nx n T (a^^^b)=nx n T a^^^nx n T b:=by apply bz_inj;rw[bz_nx hn,bz_xor,sb_xr,bz_xor,bz_nx hn,bz_nx hn]
theorem tmod_nat(a b:Nat):(a:Int).tmod (b:Int)=((a%b:Nat):Int):=rfl
theorem run16(n t sa sb ka kb:Nat)(ht:t<2^64)(hka:ka<2^64)(hkb:kb<2^64):M16.m ⟨n,t,sa,sb,ka,kb⟩=some true:=by
 have hN:1<=1+n%16/\1+n%16<=64:=by have:=Aq n (show 0<16 by omega);omega
 have hv:=Lt_vd (t:=t) hN;have h54:=of54 n t;generalize hNe:1+n%16=N at*
 generalize Lt N t=T at*
 have hpos:=BG N;have hN64:N<64:=by have:=Aq n (show 0<16 by omega);omega
 have hp:=pow_u hN64;have ha:sa%2^N<2^N:=Aq _ hpos;have hb:sb%2^N<2^N:=Aq _ hpos;have hab:sa%2^N^^^sb%2^N<2^N:=Nat.xor_lt_two_pow ha hb;have h2:=pow_le hN.2;have a1:decide (0<=(N:Int))=true:=A5 (by omega);have e1:=step58 hv ha;have e2:=step58 hv hb;have e3:=step58 hv hab;have x1:=Kx (AL ha h2) (AL hb h2);have m1:=matrix70 hv;have b1:=bits66 hN.2 ha;have hna:=nx_lt (T:=T) (s:=sa%2^N) hN.2;have hnb:=nx_lt (T:=T) (s:=sb%2^N) hN.2;have b2:=bits66 hN.2 hna;have ap:M29.m ⟨(N:Int),mr N (Mx N (bz T)),(N:Int),vw N (bz (sa%2^N))⟩=some ((N:Int),vw N (bz (nx N T (sa%2^N))),0):=by have:=apply (c:=N) (R:=Mx N (bz T)) (v:=bz (sa%2^N)) (by omega) (by rw[Mx_length];omega) (Mx_sup _ _) (ZG ha);rw[Mx_length,Mx_app hN.2 (ZG ha),<-bz_nx hN.2]at this;exact this
 have n1:=next57 (n:=N) (T:=T) (s:=sa%2^N) hN hv.T64 (AL ha h2);have x2:=Kx (AL hna h2) (AL hnb h2);have tx:=text (n:=N) (b:=bz (nx N T (sa%2^N))) (by omega) (ZG hna);have l1:((mr N (Mx N (bz T))).length:Int)=(N:Int):=by rw[QD,Mx_length]
 have k0:IntKind.i64.wrap ((ka:Int).tmod 200)=((ka%200:Nat):Int):=by have e:(ka:Int).tmod 200=((ka%200:Nat):Int):=rfl;have:=Aq ka (show 0<200 by omega);rw[e,w64 (by omega) (by omega)]
 have k1:IntKind.u64.wrap ((ka%200:Nat):Int)=((ka%200:Nat):Int):=by have:=Aq ka (show 0<200 by omega);exact Zq (by omega) (by omega)
 have k2:IntKind.u64.wrap ((ka:Int).tdiv 2)=((ka / 2:Nat):Int):=by have e:(ka:Int).tdiv 2=((ka / 2:Nat):Int):=rfl;rw[e,Zq (by omega) (by omega)]
 have k3:IntKind.u64.wrap ((kb:Int).tdiv 2)=((kb / 2:Nat):Int):=by have e:(kb:Int).tdiv 2=((kb / 2:Nat):Int):=rfl;rw[e,Zq (by omega) (by omega)]
 have k4:IntKind.u64.wrap (((ka / 2:Nat):Int)+((kb / 2:Nat):Int))=((ka / 2+kb / 2:Nat):Int):=by rw[Zq (by omega) (by omega)];omega
 have hk:=Aq ka (show 0<200 by omega);have j1:=jump69 (k:=ka%200) hv ha (by omega);have j2:=jump69 (k:=ka / 2) hv ha (by omega);have j3:=jump69 (k:=kb / 2) hv (nk_lt (T:=T) (k:=ka / 2) hN.2 ha) (by omega);have j4:=jump69 (k:=ka / 2+kb / 2) hv ha (by omega);have af:=after56 (k:=ka%200) hN hv.T64 ha (by omega);rw[nk_add]at j3;unfold M16.m;simp only[h54,bindO,a1,A8,hp,nz_pow,A7,tmod_nat,e1,e2,x1,e3,m1,b1,ap,n1,b2,tx,nx_xor hN.2,x2,l1,k0,k1,k2,k3,k4,j1,j2,j3,j4,af,lives59,Gf.nz,X5,AA,BB,Bq,Bl]
theorem run16'{n t sa sb ka kb:Int}(hn:0<=n/\n<256)(ht:0<=t/\t<18446744073709551616)(ha:0<=sa/\sa<18446744073709551616)(hb:0<=sb/\sb<18446744073709551616)(hka:0<=ka/\ka<18446744073709551616)(hkb:0<=kb/\kb<18446744073709551616):M16.m ⟨n,t,sa,sb,ka,kb⟩=some true:=by obtain⟨n,rfl⟩:=AH hn.1;obtain⟨t,rfl⟩:=AH ht.1;obtain⟨sa,rfl⟩:=AH ha.1;obtain⟨sb,rfl⟩:=AH hb.1;obtain⟨ka,rfl⟩:=AH hka.1;obtain⟨kb,rfl⟩:=AH hkb.1;exact run16 n t sa sb ka kb (by omega) (by omega) (by omega)
end Sf
namespace Sf
open Gf
theorem top_bit{n T:Nat}(h:Vd n T):bz T (n - 1)=true:=by
 show T.testBit (n - 1)=true;have h1:=h.top;have h2:=h.bot;have h3:=h.lo;have e:2^n=2*2^(n - 1):=by rw[<-Nat.pow_succ'];congr 1;omega
 rw[Cd];have hpos:=BG (n - 1);have:T / 2^(n - 1)=1:=by
  apply Nat.div_eq_of_lt_le
  ·omega
  ·omega
 rw[this];rfl
theorem sb_zero{n T:Nat}(h:Vd n T){x:Q7}(hx:Sup n x)(h0:sb n (bz T) x=λ_=>false):x=λ_=>false:=by
 have h1:=h.lo;have h2:=h.hi;have lo:∀i,i<n - 1->x i=false:=λi hi=>by have:=congrFun h0 (i+1);unfold sb at this;rw[A5 (by omega),AE (by omega),BF]at this;exact this
 have top:x (n - 1)=false:=by
  have:=congrFun h0 0;unfold sb at this;rw[A5 (by omega),AB rfl,BF]at this;rw[dot_one (j:=n - 1) (λi hi hne=>by
   by_cases hl:i<n - 1
   ·rw[lo i hl,C2]
   ·rw[hx i (by omega),C2]),A5 (by omega),top_bit h,Bool.and_true,BF]at this
  exact this
 funext i;by_cases hl:i<n - 1
 ·exact lo i hl
 ·by_cases e:i=n - 1
  ·rw[e];exact top
  ·exact hx i (by omega)
theorem nx_inj{n T:Nat}(h:Vd n T){a b:Nat}(ha:a<2^n)(hb:b<2^n)(he:nx n T a=nx n T b):a=b:=by
 have h1:nx n T (a^^^b)=0:=by rw[nx_xor h.hi,he,Nat.xor_self]
 have h2:sb n (bz T) (bz (a^^^b))=λ_=>false:=by rw[<-bz_nx h.hi,h1];funext i;show(0:Nat).testBit i=false;simp
 have h3:=sb_zero h (ZG (Nat.xor_lt_two_pow ha hb)) h2;have h4:a^^^b=0:=bz_inj (Eq.trans h3 (funext λi=>by show false=(0:Nat).testBit i;simp));have h5:a^^^b^^^b=0^^^b:=by rw[h4]
 rwa [Nat.xor_assoc,Nat.xor_self,Nat.xor_zero,Nat.zero_xor]at h5
theorem nk_inj{n T:Nat}(h:Vd n T){a b:Nat}(ha:a<2^n)(hb:b<2^n)(k:Nat):nk n T k a=nk n T k b->a=b:=by
 induction k with
 |zero=>exact id
 |succ k ih=>exact λhe=>ih (nx_inj h (nk_lt h.hi ha) (nk_lt h.hi hb) he)
structure Per(n T a k:Nat):Prop where
 pos:1<=k
 ret:nk n T k a=a
 min:∀i,1<=i->i<k->nk n T i a≠a
theorem some_ret{n T:Nat}(h:Vd n T){a:Nat}(ha:a<2^n):∃k,1<=k/\k<=2^n/\nk n T k a=a:=by
 apply Ax;intro hno;have hne:∀k,1<=k->k<=2^n->nk n T k a≠a:=λk h1 h2 h3=>hno ⟨k,h1,h2,h3⟩;have inj:∀i j,i<j->j<=2^n->nk n T i a≠nk n T j a:=λi j hij hj he=>by have e:nk n T j a=nk n T i (nk n T (j - i) a):=(by rw[nk_add,Nat.sub_add_cancel (by omega)]);rw[e]at he;exact hne (j - i) (by omega) (by omega) (nk_inj h ha (nk_lt h.hi ha) i he).symm
 have hnd:((List.range (2^n+1)).map λk=>nk n T k a).Nodup:=by rw[List.nodup_iff_pairwise_ne,List.pairwise_map];refine(List.pairwise_lt_range (n:=2^n+1)).imp_of_mem λ{i j} hi hj hij=> ?_;exact inj i j hij (by have:=BK.1 hj;omega)
 have:=nodup_le hnd (k:=List.range (2^n)) λx hx=>by obtain⟨k,_,rfl⟩:=Am.1 hx;exact BK.2 (nk_lt h.hi ha)
 rw[AG,Bn,Bn]at this;omega
theorem least{p:Nat->Prop}:∀k,p k->∃m,m<=k/\p m/\∀i,i<m->¬p i:=by
 intro k
 induction k using Nat.strongRecOn with
 |_ k ih=>
  intro hk;by_cases h:∃i,i<k/\p i
  ·obtain⟨i,h1,h2⟩:=h;obtain⟨m,h3,h4,h5⟩:=ih i h1 h2;exact⟨m,by omega,h4,h5⟩
  ·exact⟨k,A9 _,hk,λi hi hp=>h ⟨i,hi,hp⟩⟩
theorem per_ex{n T:Nat}(h:Vd n T){a:Nat}(ha:a<2^n):∃k,Per n T a k/\k<=2^n:=by obtain⟨k,h1,h2,h3⟩:=some_ret h ha;obtain⟨m,h4,⟨h5,h6⟩,h7⟩:=least (p:=λk=>1<=k/\nk n T k a=a) k ⟨h1,h3⟩;exact⟨m,⟨h5,h6,λi hi hm he=>h7 i hm ⟨hi,he⟩⟩,by omega⟩
theorem per_next{n T:Nat}(h:Vd n T){a k:Nat}(ha:a<2^n)(hp:Per n T a k):Per n T (nx n T a) k:=by
 have hc:∀i,nk n T i (nx n T a)=nx n T (nk n T i a):=λi=>by show nk n T i (nk n T 1 a)=nk n T (i+1) a;rw[nk_add,Nat.add_comm]
 refine⟨hp.pos,by rw[hc,hp.ret],λi h1 h2 he=> ?_⟩;rw[hc]at he;exact hp.min i h1 h2 (nx_inj h (nk_lt h.hi ha) ha he)
theorem per55{n T:Nat}(h:Vd n T){a k l:Nat}(ha:a<2^n)(hp:Per n T a k)(hl:l<=1048576):M55.m ⟨n,T,a,l⟩=some (if k<=l then ((k:Int),0) else (0,3)):=by
 have a1:decide ((l:Int)<0)=false:=A6 (by omega);have a2:decide ((1048576:Int)<(l:Int))=false:=A6 (by omega);have a3:decide (0<=(n:Int))=true:=A5 (by omega);unfold M55.m;simp only[begin91 h ha,bindO,a1,a2,a3,A7,AA];show some (M55.res ⟨n,T,a,l⟩)=_;unfold M55.res;obtain⟨f1,f2,f3⟩:=firstP_spec (lim:=(l:Int)) (by omega) (M61.st n T a) (a:Int);show some (bif decide ((l:Int)<(firstP l (M61.st n T a) a:Int)) then ((0:Int),(3:Int)) else ((firstP l (M61.st n T a) a:Int),0))=_;generalize firstP (l:Int) (M61.st n T a) (a:Int)=M at f1 f2 f3⊢;have st:∀i,(M61.st n T a i==(a:Int))=decide (nk n T i a=a):=λi=>by
  rw[st_nk h ha];by_cases e:nk n T i a=a
  ·rw[A5 e,e];simp
  ·rw[A6 e,At];omega
 have sp:∀i,stopP (l:Int) (M61.st n T a) (a:Int) i=true↔(l<i\/(1<=i/\nk n T i a=a)):=λi=>by unfold stopP;rw[st,By,AC,Aj,Aj,Aj];omega
 have f1:=(sp M).1 f1;have f2:∀j,j<M->¬(l<j\/(1<=j/\nk n T j a=a)):=λj hj hh=>by have h1:=f2 j hj;rw[(sp j).2 hh]at h1;cases h1
 by_cases hkl:k<=l
 ·have h1:M<=k:=by
   rcases BV k M with h|h
   ·exact absurd (.inr ⟨hp.pos,hp.ret⟩) (f2 k h)
   ·exact h
  have h2:M=k:=by
   rcases f1 with h3|⟨h3,h4⟩
   ·omega
   ·rcases BV M k with h5|h5
    ·exact absurd h4 (hp.min M h3 h5)
    ·omega
  subst h2;rw[AB hkl,A6 (show¬(l:Int)<M by omega)];rfl
 ·have h1:l<M:=by
   rcases f1 with h3|⟨h3,h4⟩
   ·exact h3
   ·rcases BV M k with h5|h5
    ·exact absurd h4 (hp.min M h3 h5)
    ·omega
  rw[AE hkl,A5 (show(l:Int)<M by omega)];rfl
theorem pow_i{n:Nat}(hn:n<60):IntKind.i64.wrap (1*2^min n 64)=((2^n:Nat):Int):=by have h:2^n<2^60:=BJ (by omega) hn;rw[B1 (by omega),Jv,Int.one_mul];generalize 2^n=q at h;exact w64 (by omega) (by omega)
theorem pow_i2{n:Nat}(hn:n<60):IntKind.i64.wrap (2*2^min n 64)=((2^(n+1):Nat):Int):=by have h:2^n<2^60:=BJ (by omega) hn;rw[B1 (by omega),Jv,Nat.pow_succ];generalize 2^n=q at h;rw[w64 (by omega) (by omega)];omega
theorem run11(n t sa sb l:Nat)(hl:l<65536):M11.m ⟨n,t,sa,sb,l⟩=some true:=by
 have hn8:=Aq n (show 0<8 by omega);have e0:(n:Int).tmod 8=((n%8:Nat):Int):=rfl;have h54:=of54 (n%8) t;have hN:1<=1+n%8%16/\1+n%8%16<=64:=by have:=Aq (n%8) (show 0<16 by omega);omega
 have hN8:1+n%8%16<=8:=by omega
 have hv:=Lt_vd (t:=t) hN;generalize 1+n%8%16=N at*
 generalize Lt N t=T at*
 have hpos:=BG N;have hp8:2^N<=2^8:=Bh (by omega) hN8;have hpu:=pow_u (n:=N) (by omega);have hpi:=pow_i (n:=N) (by omega);have hpi2:=pow_i2 (n:=N) (by omega);have ha:sa%2^N<2^N:=Aq _ hpos;have hb:sb%2^N<2^N:=Aq _ hpos;have h2:=pow_le hN.2;have a1:decide (0<=(N:Int))=true:=A5 (by omega);obtain⟨k,hp,hk⟩:=per_ex hv ha;have hk1:=hp.pos;have p1:M55.m ⟨(N:Int),(T:Int),((sa%2^N:Nat):Int),((2^N:Nat):Int)⟩=some ((k:Int),0):=by rw[per55 hv ha hp (by omega),AB hk]
 have a2:decide ((k:Int)<1)=false:=A6 (by omega);have a3:decide ((k:Int)>((2^N:Nat):Int))=false:=A6 (by omega);have f1:M56.m ⟨(N:Int),(T:Int),((sa%2^N:Nat):Int),(k:Int)⟩=some ((sa%2^N:Nat):Int):=by rw[after56 hN hv.T64 ha (by omega),hp.ret]
 have n1:=next57 (n:=N) (T:=T) (s:=sa%2^N) hN hv.T64 (AL ha h2);have hna:=nx_lt (T:=T) (s:=sa%2^N) hN.2;have p2:M55.m ⟨(N:Int),(T:Int),((nx N T (sa%2^N):Nat):Int),((2^N:Nat):Int)⟩=some ((k:Int),0):=by rw[per55 hv hna (per_next hv ha hp) (by omega),AB hk]
 have wl:IntKind.i64.wrap (l:Int)=(l:Int):=w64 (by omega) (by omega);have hml:=Aq l (BG (N+1));have hp9:2^(N+1)<=2^9:=Bh (by omega) (by omega);have p3:=per55 (l:=l%2^(N+1)) hv ha hp (by omega);have per0:Per N T 0 1:=⟨A9 _,bz_inj (by
  show bz (nx N T 0)=_;rw[bz_nx hN.2];have:bz 0=λ_=>false:=by funext i;show(0:Nat).testBit i=false;simp
  rw[this,sb_no]),λi h1 h2=>by omega⟩
 have p4:M55.m ⟨(N:Int),(T:Int),0,1⟩=some (1,0):=per55 (a:=0) (l:=1) hv hpos per0 (by omega);have s1:=step58 hv ha;have s2:=step58 hv hb;have inj:(((nx N T (sa%2^N):Nat):Int)==((nx N T (sb%2^N):Nat):Int))=(((sa%2^N:Nat):Int)==((sb%2^N:Nat):Int)):=by
  by_cases e:sa%2^N=sb%2^N
  ·rw[e];simp
  ·have:nx N T (sa%2^N)≠nx N T (sb%2^N):=λh=>e (nx_inj hv ha hb h);rw[At.2 (by omega),At.2 (by omega)]
 have hi:iter M11.s0 ⟨(l:Int),((sa%2^N:Nat):Int),((sb%2^N:Nat):Int),(k:Int),((nx N T (sa%2^N):Nat):Int),1,(N:Int),(T:Int)⟩=some (.inl ⟨(l:Int),((sa%2^N:Nat):Int),((sb%2^N:Nat):Int),(k:Int),(N:Int),(T:Int)⟩):=by
  have:=QV (step:=M11.s0) (λi=>(⟨(l:Int),((sa%2^N:Nat):Int),((sb%2^N:Nat):Int),(k:Int),((nk N T (i+1) (sa%2^N):Nat):Int),((i+1:Nat):Int),(N:Int),(T:Int)⟩:M11.p0X)) (k - 1) (y:=.inl ⟨(l:Int),((sa%2^N:Nat):Int),((sb%2^N:Nat):Int),(k:Int),(N:Int),(T:Int)⟩) (λi hi=> ?_) ?_
  ·exact this
  ·unfold M11.s0;have b1:decide (((i+1:Nat):Int)<(k:Int))=true:=A5 (by omega);have b2:(((nk N T (i+1) (sa%2^N):Nat):Int)==((sa%2^N:Nat):Int))=false:=(by have:=hp.min (i+1) (by omega) (by omega);rw[At];omega);have b3:=next57 (n:=N) (T:=T) (s:=nk N T (i+1) (sa%2^N)) hN hv.T64 (AL (nk_lt hN.2 ha) h2);have b4:IntKind.i64.wrap (((i+1:Nat):Int)+1)=((i+1+1:Nat):Int):=suc (by omega);simp only[b1,b2,b3,b4,bindO,A7,AA];rfl
  ·unfold M11.s0;have b1:decide (((k - 1+1:Nat):Int)<(k:Int))=false:=A6 (by omega);simp only[b1,AA]
 unfold M11.m;simp only[e0,h54,bindO,a1,A8,hpu,hpi,nz_pow,A7,tmod_nat,p1,Gf.nz,a2,a3,f1,n1,hi,sumC,p2,hpi2,wl,p3,p4,s1,s2,inj,lives59,X5,AA,BB,Bq,Bl,Bd];by_cases hkl:k<=l%2^(N+1)
 ·have b1:decide ((k:Int)<=((l%2^(N+1):Nat):Int))=true:=A5 (by omega);simp only[AB hkl,b1,Bq,X5,Gf.nz,A7,AA,Bl]
 ·have b1:decide ((k:Int)<=((l%2^(N+1):Nat):Int))=false:=A6 (by omega);simp only[AE hkl,b1];rfl
theorem run11'{n t sa sb l:Int}(hn:0<=n/\n<256)(ht:0<=t/\t<18446744073709551616)(ha:0<=sa/\sa<18446744073709551616)(hb:0<=sb/\sb<18446744073709551616)(hl:0<=l/\l<65536):M11.m ⟨n,t,sa,sb,l⟩=some true:=by obtain⟨n,rfl⟩:=AH hn.1;obtain⟨t,rfl⟩:=AH ht.1;obtain⟨sa,rfl⟩:=AH ha.1;obtain⟨sb,rfl⟩:=AH hb.1;obtain⟨l,rfl⟩:=AH hl.1;exact run11 n t sa sb l (by omega)
end Sf
namespace Sf
open Gf
theorem take_one{α:Type}{l:List α}{i:Nat}(h:i<l.length):l.take (i+1)=l.take i++[l[i]]:=by rw[List.take_add_one,A3 h];rfl
def cut(N:Nat)(Q:List Nat):List Nat:=Q.map λp=>p%2^N
theorem of60(n t c:Nat){Q:List Nat}(hQ:Q.length<=1000000):
  M60.m ⟨n,t,ints Q,c⟩=some (((1+n%16:Nat):Int),((Lt (1+n%16) t:Nat):Int),ints (cut (1+n%16) Q),((c%13:Nat):Int)):=by
 have hlt:=Aq n (show 0<16 by omega);unfold M60.m;simp only[of54 n t,bindO];generalize hN:1+n%16=N at*
 have e1:(c:Int).tmod 13=((c%13:Nat):Int):=rfl;have hc:=Aq c (show 0<13 by omega);have e2:IntKind.i64.wrap ((c%13:Nat):Int)=((c%13:Nat):Int):=w64 (by omega) (by omega);have hpu:=pow_u (n:=N) (by omega);have hi:iter M60.s0 ⟨((0:Nat):Int),n,t,ints Q,c,(N:Int),(Lt N t:Int),(N:Int),(Lt N t:Int),0,0,((c%13:Nat):Int),ints (cut N (Q.take 0))⟩=some ⟨n,t,ints Q,c,(N:Int),(Lt N t:Int),(N:Int),(Lt N t:Int),ints (cut N Q),((c%13:Nat):Int)⟩:=by
  refine QV (λi=>(⟨(i:Int),n,t,ints Q,c,(N:Int),(Lt N t:Int),(N:Int),(Lt N t:Int),0,i,((c%13:Nat):Int),ints (cut N (Q.take i))⟩:M60.p0X)) Q.length (λi hi=> ?_) ?_
  ·unfold M60.s0;have b1:decide ((i:Int)<((ints Q).length:Int))=true:=A5 (by rw[Q4];omega);have b2:inR (i:Int) (ints Q).length=true:=Q6 (by rw[Q4];exact hi);have b3:decide (0<=(N:Int))=true:=A5 (by omega);have b4:IntKind.i64.wrap ((i:Int)+1)=((i+1:Nat):Int):=suc (by omega);have b5:eqN (ints (cut N (Q.take i))).length i=true:=(by simp[eqN,Q4,cut];omega);have b6:Ql (i+1) 8=true:=room (by omega);have b7:eqN 0 0=true:=rfl;have b8:ints (cut N (Q.take (i+1)))=ints (cut N (Q.take i))++[((Q[i]%2^N:Nat):Int)]:=(by unfold ints cut;rw[take_one hi,AZ,AZ];rfl);simp only[b1,b2,b3,b4,b5,b6,b7,b8,A8,ints_get Q hi,hpu,nz_pow,tmod_nat,A7,AY]
  ·unfold M60.s0;have b1:decide ((Q.length:Int)<((ints Q).length:Int))=false:=A6 (by rw[Q4];omega);have b2:leB (0+Q.length) (ints (cut N (Q.take Q.length))).length=true:=(by simp[leB,Q4,cut]);have b3:List.take Q.length (List.drop 0 (ints (cut N (Q.take Q.length))))=ints (cut N Q):=(by rw[An,AS (by simp[Q4,cut]),Bj]);simp only[b1,b2,b3,AA,A7,AY]
 rw[e1,e2];have hi:iter M60.s0 ⟨0,n,t,ints Q,c,(N:Int),(Lt N t:Int),(N:Int),(Lt N t:Int),0,0,((c%13:Nat):Int),[]⟩=some ⟨n,t,ints Q,c,(N:Int),(Lt N t:Int),(N:Int),(Lt N t:Int),ints (cut N Q),((c%13:Nat):Int)⟩:=hi;simp only[hi]
theorem cut_length(N:Nat)(Q:List Nat):(cut N Q).length=Q.length:=by simp[cut]
theorem dc_of{n t c:Nat}{Q:List Nat}(hQ:Q.length<=64):Dc (1+n%16) (Lt (1+n%16) t) (cut (1+n%16) Q) (c%13):=by
 have hlt:=Aq n (show 0<16 by omega);have hc:=Aq c (show 0<13 by omega);refine⟨Lt_vd ⟨by omega,by omega⟩,λp hp=> ?_,by rw[cut_length];exact hQ,λhne=> ?_,by omega⟩
 ·obtain⟨q,_,rfl⟩:=Am.1 hp;exact Aq _ (BG _)
 ·rw[cut_length];have hpos:0<Q.length:=(by have:=List.length_pos_iff.2 hne;rwa [cut_length]at this);have:4096 / 64<=4096 / Q.length:=Nat.div_le_div_left hQ hpos;omega
theorem xor8(a b:Bool):IntKind.u8.wrap (↑(BitVec.ofInt 8 (i01 a)^^^BitVec.ofInt 8 (i01 b)).toNat:Int)=i01 (Bool.xor a b):=by cases a<;>cases b<;>rfl
theorem u64_i01(b:Bool):IntKind.u64.wrap (i01 b)=i01 b:=by cases b<;>rfl
theorem cells_row{n T:Nat}{P:List Nat}{c s j:Nat}(hj:j<P.length):((cellsB n T P c s)[j]?.getD []).length=c:=by simp[cellsB,hj]
theorem cells_cell{n T:Nat}{P:List Nat}{c s j i:Nat}(hj:j<P.length)(hi:i<c):((cellsB n T P c s)[j]?.getD [])[i]?.getD 0=i01 (fb n T P c j i (bz s)):=cellsB_at s hj hi
theorem fb_run{n T:Nat}{P:List Nat}{c s j i:Nat}(h:Dc n T P c)(hs:s<2^n)(hj:j<P.length):
  M67.m ⟨IntKind.u64.wrap (↑(BitVec.ofInt 64 ((nk n T (c - 1 - i) s:Nat):Int)&&&BitVec.ofInt 64 ((P[j]:Nat):Int)).toNat:Int)⟩=some (i01 (fb n T P c j i (bz s))):=by
 have hn:=h.vd.hi;have hk:=AL (nk_lt (T:=T) (k:=c - 1 - i) hn hs) (pow_le hn);have hp:=AL (h.ph _ (AJ hj)) (pow_le hn);rw[XC hk hp,odd67 (CJ Cb hk),pz_and,bz_nk hn];unfold fb fc;rw[A3 hj];rfl
theorem loop14{N T C a b:Nat}{P:List Nat}(h:Dc N T P C)(ha:a<2^N)(hb:b<2^N)(hC:C<=4096):
  iter M14.s0 ⟨(a:Int),cellsB N T P C a,cellsB N T P C b,cellsB N T P C (a^^^b),0,(N:Int),(T:Int),ints P,(C:Int),((P.length*C:Nat):Int),vw (P.length*C) (app N (Rq N T P C) (bz a))⟩=some (.inl PUnit.unit):=by
 have hall:=h.all;have hl:=h.len;have hv:=h.vd;have hN:1<=N/\N<=64:=⟨hv.lo,hv.hi⟩;have inner:∀j,j<P.length->iter M14.s1 ⟨(a:Int),cellsB N T P C a,cellsB N T P C b,cellsB N T P C (a^^^b),(j:Int),((0:Nat):Int),(N:Int),(T:Int),ints P,(C:Int),((P.length*C:Nat):Int),vw (P.length*C) (app N (Rq N T P C) (bz a))⟩=
   some (.inl ⟨(a:Int),cellsB N T P C a,cellsB N T P C b,cellsB N T P C (a^^^b),(j:Int),(N:Int),(T:Int),ints P,(C:Int),((P.length*C:Nat):Int),vw (P.length*C) (app N (Rq N T P C) (bz a))⟩):=λj hj=>by
  refine QV (λi=>(⟨(a:Int),cellsB N T P C a,cellsB N T P C b,cellsB N T P C (a^^^b),(j:Int),(i:Int),(N:Int),(T:Int),ints P,(C:Int),((P.length*C:Nat):Int),vw (P.length*C) (app N (Rq N T P C) (bz a))⟩:M14.p1X)) C (λi hi=> ?_) ?_
  ·have hr:j*C+i<P.length*C:=(by have:=Ae C (show j+1<=P.length by omega);rw[As]at this;omega);have hdv:=divmod (j:=j) hi;unfold M14.s1;have b1:decide ((i:Int)<(C:Int))=true:=A5 (by omega);have b2:IntKind.i64.wrap (IntKind.i64.wrap ((C:Int) - 1) - (i:Int))=((C - 1 - i:Nat):Int):=(by rw[w64 (x:=(C:Int) - 1) (by omega) (by omega),w64 (by omega) (by omega)];omega);have b3:=after56 (n:=N) (T:=T) (s:=a) (k:=C - 1 - i) hN hv.T64 ha (by omega);have b4:inR (j:Int) (ints P).length=true:=Q6 (by rw[Q4];exact hj);have b5:=fb_run (i:=i) h ha hj;have b6:inR (j:Int) (cellsB N T P C a).length=true:=Q6 (by rw[cellsB_length];exact hj);have b7:inR (i:Int) ((cellsB N T P C a)[j]?.getD []).length=true:=Q6 (by rw[cells_row hj];exact hi);have b8:inR (j:Int) (cellsB N T P C (a^^^b)).length=true:=Q6 (by rw[cellsB_length];exact hj);have b9:inR (i:Int) ((cellsB N T P C (a^^^b))[j]?.getD []).length=true:=Q6 (by rw[cells_row hj];exact hi);have b10:inR (j:Int) (cellsB N T P C b).length=true:=Q6 (by rw[cellsB_length];exact hj);have b11:inR (i:Int) ((cellsB N T P C b)[j]?.getD []).length=true:=Q6 (by rw[cells_row hj];exact hi);have c1:=cells_cell (n:=N) (T:=T) (s:=a) hj hi;have c2:=cells_cell (n:=N) (T:=T) (s:=b) hj hi;have c3:((cellsB N T P C (a^^^b))[j]?.getD [])[i]?.getD 0=i01 (Bool.xor (fb N T P C j i (bz a)) (fb N T P C j i (bz b))):=(by rw[cells_cell hj hi,bz_xor];unfold fb;rw[fc_xr]);have b12:IntKind.i64.wrap (IntKind.i64.wrap ((j:Int)*(C:Int))+(i:Int))=((j*C+i:Nat):Int):=(by have e:(j:Int)*(C:Int)=((j*C:Nat):Int):=(by simp);rw[e,w64 (x:=((j*C:Nat):Int)) (by omega) (by omega),w64 (by omega) (by omega)];omega);have b13:M37.m ⟨((P.length*C:Nat):Int),vw (P.length*C) (app N (Rq N T P C) (bz a)),((j*C+i:Nat):Int)⟩=some (i01 (fb N T P C j i (bz a))):=(by have hs:=V2 N (Rq N T P C) (bz a);rw[Rq_length]at hs;rw[at_in hall hs hr,app_at _ (by rw[Rq_length];exact hr)];have e:(Rq N T P C)[j*C+i]'(by rw[Rq_length];exact hr)=Rr N T P C (j*C+i):=(by simp[Rq]);rw[e,Rr_dot (ZG ha),hdv.1,hdv.2]);have b14:IntKind.i64.wrap ((i:Int)+1)=((i+1:Nat):Int):=suc (by omega);simp only[b1,b2,b3,bindO,b4,A8,ints_get P hj,b5,b6,b7,b8,b9,b10,b11,c1,c2,c3,u64_i01,X5,xor8,b12,b13,b14,A7,AA,Bd,BB]
  ·unfold M14.s1;have b1:decide ((C:Int)<(C:Int))=false:=A6 (by omega);simp only[b1,AA]
 have:=QV (step:=M14.s0) (λj=>(⟨(a:Int),cellsB N T P C a,cellsB N T P C b,cellsB N T P C (a^^^b),(j:Int),(N:Int),(T:Int),ints P,(C:Int),((P.length*C:Nat):Int),vw (P.length*C) (app N (Rq N T P C) (bz a))⟩:M14.p0X)) P.length (y:=.inl PUnit.unit) (λj hj=> ?_) ?_
 ·exact this
 ·unfold M14.s0;have b1:decide ((j:Int)<((cellsB N T P C a).length:Int))=true:=A5 (by rw[cellsB_length];omega);have b2:inR (j:Int) (cellsB N T P C a).length=true:=Q6 (by rw[cellsB_length];exact hj);have b3:inR (j:Int) (cellsB N T P C b).length=true:=Q6 (by rw[cellsB_length];exact hj);have b4:inR (j:Int) (cellsB N T P C (a^^^b)).length=true:=Q6 (by rw[cellsB_length];exact hj);have b5:IntKind.i64.wrap ((j:Int)+1)=((j+1:Nat):Int):=suc (by omega);have hin:iter M14.s1 ⟨(a:Int),cellsB N T P C a,cellsB N T P C b,cellsB N T P C (a^^^b),(j:Int),0,(N:Int),(T:Int),ints P,(C:Int),((P.length*C:Nat):Int),vw (P.length*C) (app N (Rq N T P C) (bz a))⟩=_:=inner j hj;simp only[b1,b2,b3,b4,b5,A8,cells_row hj,X5,hin,bindO,sumC,A7,AA,Bd]
 ·unfold M14.s0;have b1:decide ((P.length:Int)<((cellsB N T P C a).length:Int))=false:=A6 (by rw[cellsB_length];omega);simp only[b1,AA]
theorem run14(n t c sa sb:Nat)(Q:List Nat):M14.m ⟨n,t,ints Q,c,sa,sb⟩=some true:=by
 unfold M14.m;by_cases hQ:Q.length<=8
 ·have a0:decide ((Q.length:Int)>8)=false:=A6 (by omega);have h60:=of60 n t c (Q:=Q) (by omega);have hd:=dc_of (n:=n) (t:=t) (c:=c) (Q:=Q) (by omega);have hc:=Aq c (show 0<13 by omega);have hN64:1+n%16<64:=(by have:=Aq n (show 0<16 by omega);omega);have hPl:=cut_length (1+n%16) Q;generalize 1+n%16=N at*
  generalize Lt N t=T at*
  generalize cut N Q=P at*
  generalize c%13=C at*
  have hv:=hd.vd;have hN:1<=N/\N<=64:=⟨hv.lo,hv.hi⟩;have hpos:=BG N;have hp:=pow_u hN64;have ha:sa%2^N<2^N:=Aq _ hpos;have hb:sb%2^N<2^N:=Aq _ hpos;have hab:sa%2^N^^^sb%2^N<2^N:=Nat.xor_lt_two_pow ha hb;have h2:=pow_le hN.2;have a1:decide (0<=(N:Int))=true:=A5 (by omega);have x1:=Kx (AL ha h2) (AL hb h2);have e1:=exp61 hd ha;have e2:=exp61 hd hb;have e3:=exp61 hd hab;have e4:=eqs65 hd;have b1:=bits66 hN.2 ha;have hall:=hd.all;have ap:=apply (c:=N) (R:=Rq N T P C) (v:=bz (sa%2^N)) (by omega) (by rw[Rq_length];exact hall) (Rq_sup _ _ _ _) (ZG ha);rw[Rq_length]at ap;have l1:IntKind.i64.wrap ((P.length:Int)*(C:Int))=((P.length*C:Nat):Int):=(by have e:(P.length:Int)*(C:Int)=((P.length*C:Nat):Int):=(by simp);rw[e,w64 (by omega) (by omega)]);have lp:=loop14 hd ha hb (by omega);simp only[a0,AA,h60,bindO,a1,A8,hp,nz_pow,A7,tmod_nat,e1,e2,x1,e3,e4,b1,ap,l1,cellsB_length,Q4,Gf.nz,X5,lp,sumC,lives59]
 ·have a0:decide ((Q.length:Int)>8)=true:=A5 (by omega);simp only[Q4,a0,A7,lives59,bindO]
theorem ints_of{l:List Int}(h:∀p∈l,0<=p/\p<18446744073709551616):∃Q:List Nat,l=ints Q/\∀p∈Q,p<2^64:=by
 refine⟨l.map Int.toNat,?_,λp hp=> ?_⟩
 ·unfold ints;rw[B0];have:∀x∈l,((λ(x:Nat)=>(x:Int))∘Int.toNat) x=x:=λx hx=>(by have:=h x hx;show((x.toNat:Nat):Int)=x;omega);rw[Aa this,List.map_id']
 ·obtain⟨x,hx,rfl⟩:=Am.1 hp;have:=h x hx;omega
theorem run14'{n t c sa sb:Int}{ph:List Int}(hn:0<=n/\n<256)(ht:0<=t/\t<18446744073709551616)(hp:∀p∈ph,0<=p/\p<18446744073709551616)(hc:0<=c/\c<256)(ha:0<=sa/\sa<18446744073709551616)(hb:0<=sb/\sb<18446744073709551616):M14.m ⟨n,t,ph,c,sa,sb⟩=some true:=by obtain⟨n,rfl⟩:=AH hn.1;obtain⟨t,rfl⟩:=AH ht.1;obtain⟨c,rfl⟩:=AH hc.1;obtain⟨sa,rfl⟩:=AH ha.1;obtain⟨sb,rfl⟩:=AH hb.1;obtain⟨Q,rfl,_⟩:=ints_of hp;exact run14 n t c sa sb Q
end Sf
namespace Sf
open Gf
def wv(v:List Int)(k:Nat):Int:=bif decide ((k:Int)<(v.length:Int)) then if 2<Int.tmod (v[k]?.getD 0) 4 then 2 else Int.tmod (v[k]?.getD 0) 4 else 2
def wr_(v:List Int)(C j m:Nat):List Int:=(List.range m).map λi=>wv v (j*C+i)
def wl(v:List Int)(C m:Nat):List (List Int):=(List.range m).map λj=>wr_ v C j C
theorem wr_length(v:List Int)(C j m:Nat):(wr_ v C j m).length=m:=by simp[wr_]
theorem wl_length(v:List Int)(C m:Nat):(wl v C m).length=m:=by simp[wl]
theorem wv_val{v:List Int}(hv:∀x∈v,0<=x/\x<256)(k:Nat):wv v k=0\/wv v k=1\/wv v k=2:=by
 unfold wv;by_cases h:(k:Int)<(v.length:Int)
 ·have hk:k<v.length:=(by omega);have hx:=hv _ (AJ hk);rw[A5 h,A3 hk,Al,A7];generalize v[k]=x at hx;obtain⟨x,rfl⟩:=AH hx.1;have e:Int.tmod (x:Int) 4=((x%4:Nat):Int):=rfl;rw[e];split<;>omega
 ·rw[A6 h];exact .inr (.inr rfl)
theorem wl_cl{v:List Int}(hv:∀x∈v,0<=x/\x<256)(P:List Nat)(C:Nat):Cl P C (wl v C P.length):=by
 refine⟨wl_length _ _ _,λl hl=> ?_,λl hl x hx=> ?_⟩
 ·obtain⟨j,_,rfl⟩:=Am.1 hl;exact wr_length _ _ _ _
 ·obtain⟨j,_,rfl⟩:=Am.1 hl;obtain⟨i,_,rfl⟩:=Am.1 hx;exact wv_val hv _
theorem loop13{v:List Int}{N T C:Nat}{P:List Nat}(hP:P.length<=1000)(hC:C<=1000):
  iter M13.s0 ⟨v,0,0,0,0,(N:Int),(T:Int),ints P,(C:Int),[]⟩=some ⟨wl v C P.length,(N:Int),(T:Int),ints P,(C:Int)⟩:=by
 have inner:∀j,j<P.length->iter M13.s1 ⟨v,0,j,((j*C+0:Nat):Int),(j:Int),0,0,((0:Nat):Int),(N:Int),(T:Int),ints P,(C:Int),wl v C j,wr_ v C j 0⟩=some ⟨v,0,j,((j*C+C:Nat):Int),(j:Int),wr_ v C j C,(N:Int),(T:Int),ints P,(C:Int),wl v C j⟩:=λj hj=>by
  have hjc:j*C<=1000*1000:=Nat.mul_le_mul (by omega) hC;refine QV (λi=>(⟨v,0,j,((j*C+i:Nat):Int),(j:Int),0,i,(i:Int),(N:Int),(T:Int),ints P,(C:Int),wl v C j,wr_ v C j i⟩:M13.p1X)) C (λi hi=> ?_) ?_
  ·unfold M13.s1;have b1:decide ((i:Int)<(C:Int))=true:=A5 (by omega);have b2:(bif inR ((j*C+i:Nat):Int) v.length&&true then true else bif decide (((j*C+i:Nat):Int)<(v.length:Int)) then false else true)=true:=by
    by_cases h:j*C+i<v.length
    ·rw[Q6 h];rfl
    ·rw[inR_not h,A6 (by omega)];rfl
   have b3:eqN (wr_ v C j i).length i=true:=(by simp[eqN,wr_length]);have b4:Ql (i+1) 1=true:=room (by omega);have b5:eqN 0 0=true:=rfl;have b6:IntKind.i64.wrap (((j*C+i:Nat):Int)+1)=((j*C+(i+1):Nat):Int):=suc (by omega);have b7:IntKind.i64.wrap ((i:Int)+1)=((i+1:Nat):Int):=suc (by omega);have b8:wr_ v C j (i+1)=wr_ v C j i++[bif decide (((j*C+i:Nat):Int)<(v.length:Int)) then if 2<Int.tmod (v[j*C+i]?.getD 0) 4 then 2 else Int.tmod (v[j*C+i]?.getD 0) 4 else 2]:=(by unfold wr_;rw[Bp,AZ];rfl);simp only[b1,b2,b3,b4,b5,b6,b7,b8,A8,A7,AY]
  ·unfold M13.s1;have b1:decide ((C:Int)<(C:Int))=false:=A6 (by omega);have b2:leB (0+C) (wr_ v C j C).length=true:=(by simp[leB,wr_length]);have b3:List.take C (List.drop 0 (wr_ v C j C))=wr_ v C j C:=(by rw[An,AS (by rw[wr_length];omega)]);simp only[b1,b2,b3,AA,A7,AY]
 have:=QV (step:=M13.s0) (λj=>(⟨v,0,j,((j*C:Nat):Int),(j:Int),(N:Int),(T:Int),ints P,(C:Int),wl v C j⟩:M13.p0X)) P.length (y:=⟨wl v C P.length,(N:Int),(T:Int),ints P,(C:Int)⟩) (λj hj=> ?_) ?_
 ·simp only[B6]at this;exact this
 ·unfold M13.s0;have b1:decide ((j:Int)<((ints P).length:Int))=true:=A5 (by rw[Q4];omega);have hin:iter M13.s1 ⟨v,0,j,((j*C:Nat):Int),(j:Int),0,0,0,(N:Int),(T:Int),ints P,(C:Int),wl v C j,[]⟩=_:=inner j hj;have b2:eqN 0 0=true:=rfl;have b3:eqN (wl v C j).length j=true:=(by simp[eqN,wl_length]);have b4:Ql (j+1) 24=true:=room (by omega);have b5:IntKind.i64.wrap ((j:Int)+1)=((j+1:Nat):Int):=suc (by omega);have b6:wl v C (j+1)=wl v C j++[wr_ v C j C]:=(by unfold wl;rw[Bp,AZ];rfl);have b7:(j+1)*C=j*C+C:=(by rw[As,Nat.one_mul]);simp only[b1,hin,bindO,b2,b3,b4,b5,b6,b7,A7,AY]
 ·unfold M13.s0;have b1:decide ((P.length:Int)<((ints P).length:Int))=false:=A6 (by rw[Q4];omega);have b2:leB (0+P.length) (wl v C P.length).length=true:=(by simp[leB,wl_length]);have b3:List.take P.length (List.drop 0 (wl v C P.length))=wl v C P.length:=(by rw[An,AS (by rw[wl_length];omega)]);simp only[b1,b2,b3,AA,A7,AY]
open Classical in
noncomputable def sm(N T:Nat)(P:List Nat)(C:Nat)(L:List (List Int))(s:Nat):Bool:=decide (∃s',s'<s/\Ins N T P C s' L)
open Classical in
theorem sm_iff{N T:Nat}{P:List Nat}{C:Nat}{L:List (List Int)}{s:Nat}:sm N T P C L s=true↔∃s',s'<s/\Ins N T P C s' L:=by unfold sm;rw[Aj]
theorem sm_no{N T:Nat}{P:List Nat}{C:Nat}{L:List (List Int)}{s:Nat}(h:¬∃s',s'<s/\Ins N T P C s' L):sm N T P C L s=false:=by
 cases e:sm N T P C L s with
 |true=>exact absurd (sm_iff.1 e) h
 |false=>rfl
theorem loop13b{N T C:Nat}{P:List Nat}{L:List (List Int)}(h:Dc N T P C)(hL:Cl P C L)(hC:C<=1000)(hN:N<60):
  iter M13.s2 ⟨L,false,0,(N:Int),(T:Int),ints P,(C:Int)⟩=some (.inl ⟨L,sm N T P C L (2^N),(N:Int),(T:Int),ints P,(C:Int)⟩):=by
 have hp60:2^N<=2^60:=Bh (by omega) (by omega);have hpu:=pow_u (n:=N) (by omega);have a1:decide (0<=(N:Int))=true:=A5 (by omega);have:=QV (step:=M13.s2) (λs=>(⟨L,sm N T P C L s,(s:Int),(N:Int),(T:Int),ints P,(C:Int)⟩:M13.p2X)) (2^N) (y:=.inl ⟨L,sm N T P C L (2^N),(N:Int),(T:Int),ints P,(C:Int)⟩) (λs hs=> ?_) ?_
 ·have e:sm N T P C L 0=false:=sm_no λ⟨_,h,_⟩=>absurd h (BA _);rw[e]at this;exact this
 ·unfold M13.s2;have b1:decide ((s:Int)<((2^N:Nat):Int))=true:=A5 (by omega);have b2:=exp61 (s:=s) h hs;have b3:IntKind.u64.wrap ((s:Int)+1)=((s+1:Nat):Int):=(by rw[Zq (by omega) (by omega)];omega);obtain⟨r,hr,hri⟩:=inside_ins h hL (by omega) s;simp only[a1,A8,hpu,b1,b2,bindO,b3,Gf.nz,A7,AA]
  cases hsm:sm N T P C L s with
  |true=>have e:sm N T P C L (s+1)=true:=(by obtain⟨s',h1,h2⟩:=sm_iff.1 hsm;exact sm_iff.2 ⟨s',by omega,h2⟩);simp only[Bl,A7,AA,e]
  |false=>
   have e:sm N T P C L (s+1)=r:=by
    cases r with
    |true=>exact sm_iff.2 ⟨s,by omega,hri.1 rfl⟩
    |false=>
     refine sm_no ?_;rintro⟨s',h1,h2⟩;by_cases e:s'=s
     ·subst e;have:=hri.2 h2;cases this
     ·rw[sm_iff.2 ⟨s',by omega,h2⟩]at hsm;cases hsm
   simp only[BB,A7,AA,hr,e]
 ·unfold M13.s2;have b1:decide (((2^N:Nat):Int)<((2^N:Nat):Int))=false:=A6 (by omega);simp only[a1,A8,hpu,b1,A7,AA]
theorem run13(n t c:Nat)(Q:List Nat)(v:List Int)(hv:∀x∈v,0<=x/\x<256):M13.m ⟨n,t,ints Q,c,v⟩=some true:=by
 unfold M13.m;by_cases hQ:Q.length<=4/\v.length<=60
 ·have a0:decide ((Q.length:Int)>4)=false:=A6 (by omega);have a1:decide ((v.length:Int)>60)=false:=A6 (by omega);have e6:(n:Int).tmod 6=((n%6:Nat):Int):=rfl;have h60:=of60 (n%6) t c (Q:=Q) (by omega);have hd:=dc_of (n:=n%6) (t:=t) (c:=c) (Q:=Q) (by omega);have hc:=Aq c (show 0<13 by omega);have hN64:1+n%6%16<60:=(by have:=Aq (n%6) (show 0<16 by omega);omega);have hPl:=cut_length (1+n%6%16) Q;generalize 1+n%6%16=N at*
  generalize Lt N t=T at*
  generalize cut N Q=P at*
  generalize c%13=C at*
  have hL:=wl_cl hv P C;have l1:=loop13 (v:=v) (N:=N) (T:=T) (C:=C) (P:=P) (by omega) (by omega);have l2:=loop13b hd hL (by omega) hN64;generalize wl v C P.length=L at*
  simp only[Q4,a0,a1,AA,e6,h60,bindO,l1,l2,sumC];rcases enc63 hd hL (by omega) with ⟨h1,h2⟩|⟨s,h1,h2,h3⟩
  ·have e:sm N T P C L (2^N)=false:=sm_no λ⟨s,h3,h4⟩=>h2 s h3 h4;simp only[h1,e,BB,Bq,A7,lives59]
  ·have e:sm N T P C L (2^N)=true:=sm_iff.2 ⟨s,h1,h3⟩;have x1:=exp61 hd h1;obtain⟨r,hr,hri⟩:=inside_ins hd hL (by omega) s;have hrt:=hri.2 h3;subst hrt;simp only[h2,e,Bl,Bq,A7,AA,x1,hr,lives59]
 ·have a0:(bif decide ((Q.length:Int)>4) then true else decide ((v.length:Int)>60))=true:=by
   by_cases h:Q.length<=4
   ·rw[A6 (by omega),A5 (by omega)];rfl
   ·rw[A5 (by omega)];rfl
  simp only[Q4,a0,A7,lives59,bindO]
theorem run13'{n t c:Int}{ph v:List Int}(hn:0<=n/\n<256)(ht:0<=t/\t<18446744073709551616)(hp:∀p∈ph,0<=p/\p<18446744073709551616)(hc:0<=c/\c<256)(hv:∀x∈v,0<=x/\x<256):M13.m ⟨n,t,ph,c,v⟩=some true:=by obtain⟨n,rfl⟩:=AH hn.1;obtain⟨t,rfl⟩:=AH ht.1;obtain⟨c,rfl⟩:=AH hc.1;obtain⟨Q,rfl,_⟩:=ints_of hp;exact run13 n t c Q v hv
end Sf
