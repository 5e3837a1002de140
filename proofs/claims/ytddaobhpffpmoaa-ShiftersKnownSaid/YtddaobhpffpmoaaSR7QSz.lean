/- A part of the proof. -/
import Derived.Test.YtddaobhpffpmoaaSR7QSx
import Derived.Test.YtddaobhpffpmoaaSR7QGw
set_option linter.all false
noncomputable section
namespace Go.Proofs.Ytddaobhpffpmoaa
open Go.Abs
namespace Sf
open Gf
section
variable {n T:Nat}{P:List Nat}{c:Nat}{L:List (List Int)}
theorem loop63o(h:Dc n T P c)(hL:Cl P c L):
  iter M63o.s0 ⟨0,0,L,(L.length:Int),((0:Nat):Int),ints P,n,T,0,P.length,c,n,mr n (Rq n T P c),n,0,0,[],[]⟩=
   some ⟨sdE c L (P.length*c),ints P,n,T,0,P.length,c,n,mr n (Rq n T P c),n,rsE n T P c L (P.length*c)⟩:=by
 have hall:=h.all;have hl:=h.len;have hlen:=hL.len;let S1:Nat->Nat->M63o.p1X:=λj i=>⟨0,(sel (cv L c) (j*c+i)).length,L,(L.length:Int),(j:Int),(j:Int),L[j]?.getD [],(c:Int),(i:Int),ints P,n,T,0,P.length,c,n,mr n (Rq n T P c),n,0,(sel (cv L c) (j*c+i)).length,rsE n T P c L (j*c+i),sdE c L (j*c+i)⟩;have inner:∀j,j<L.length->iter M63o.s1 (S1 j 0)=some ⟨0,(sel (cv L c) ((j+1)*c)).length,L,(L.length:Int),(j:Int),ints P,n,T,0,P.length,c,n,mr n (Rq n T P c),n,0,(sel (cv L c) ((j+1)*c)).length,rsE n T P c L ((j+1)*c),sdE c L ((j+1)*c)⟩:=λj hj=>by
  have hrow:(L[j]?.getD []).length=c:=(by rw[A3 hj];exact hL.row _ (AJ hj));refine QV (S1 j) c (λi hi=> ?_) ?_
  ·have hr:j*c+i<P.length*c:=(by have:=Ae c (show j+1<=P.length by omega);rw[As]at this;omega);have hdv:=divmod (j:=j) hi;have b1:decide ((i:Int)<(c:Int))=true:=A5 (by omega);have b2:inR (i:Int) (L[j]?.getD []).length=true:=Q6 (by rw[hrow];exact hi);have b3:(L[j]?.getD [])[i]?.getD 0=cv L c (j*c+i):=(by unfold cv;rw[hdv.1,hdv.2]);have b4:IntKind.i64.wrap ((i:Int)+1)=((i+1:Nat):Int):=suc (by omega);have b5:IntKind.i64.wrap (IntKind.i64.wrap ((j:Int)*(c:Int))+(i:Int))=((j*c+i:Nat):Int):=(by have e:(j:Int)*(c:Int)=((j*c:Nat):Int):=(by simp);rw[e,w64 (x:=((j*c:Nat):Int)) (by omega) (by omega),w64 (by omega) (by omega)];omega);have b6:inR ((j*c+i:Nat):Int) (mr n (Rq n T P c)).length=true:=Q6 (by rw[QD,Rq_length];exact hr);have hsl:=sel_le (cv L c) (j*c+i);have b7:eqN (rsE n T P c L (j*c+i)).length (sel (cv L c) (j*c+i)).length=true:=(by simp[eqN,rsE_length]);have b8:eqN (sdE c L (j*c+i)).length (sel (cv L c) (j*c+i)).length=true:=(by simp[eqN,sdE_length]);have b9:Ql ((sel (cv L c) (j*c+i)).length+1) 32=true:=room (by omega);have b10:Ql ((sel (cv L c) (j*c+i)).length+1) 1=true:=room (by omega);have b11:eqN 0 0=true:=rfl;have b12:=Rq_get (n:=n) (T:=T) hr;have hsucc:j*c+(i+1)=(j*c+i)+1:=(by omega);show M63o.s1 (S1 j i)=some (.inl (S1 j (i+1)));simp only[S1,hsucc];unfold M63o.s1;by_cases hv:cv L c (j*c+i) !=2
   ·have e1:sel (cv L c) (j*c+i+1)=sel (cv L c) (j*c+i)++[j*c+i]:=(by rw[sel_succ,AB hv]);have e2:rsE n T P c L (j*c+i+1)=rsE n T P c L (j*c+i)++[((n:Int),vw n (Rr n T P c (j*c+i)))]:=(by unfold rsE;rw[e1];simp[mr]);have e3:sdE c L (j*c+i+1)=sdE c L (j*c+i)++[cv L c (j*c+i)]:=(by unfold sdE;rw[e1];simp);simp only[b1,b2,b3,b4,b5,b6,b7,b8,b9,b10,b11,hv,e1,e2,e3,A8,b12,AY,A7,Ab,List.length_singleton]
   ·have hv:(cv L c (j*c+i) !=2)=false:=(by simpa using hv);have e1:sel (cv L c) (j*c+i+1)=sel (cv L c) (j*c+i):=(by rw[sel_succ,hv];simp);have e2:rsE n T P c L (j*c+i+1)=rsE n T P c L (j*c+i):=(by unfold rsE;rw[e1]);have e3:sdE c L (j*c+i+1)=sdE c L (j*c+i):=(by unfold sdE;rw[e1]);simp only[b1,b2,A8,b3,b4,hv,e1,e2,e3,A7,AA]
  ·have b1:decide ((c:Int)<(c:Int))=false:=A6 (by omega);have e:j*c+c=(j+1)*c:=(by rw[As,Nat.one_mul]);simp only[S1,e];unfold M63o.s1;simp only[b1,AA]
 have zero:sel (cv L c) 0=[]:=rfl;have:=QV (step:=M63o.s0) (λj=>(⟨0,(sel (cv L c) (j*c)).length,L,(L.length:Int),(j:Int),ints P,n,T,0,P.length,c,n,mr n (Rq n T P c),n,0,(sel (cv L c) (j*c)).length,rsE n T P c L (j*c),sdE c L (j*c)⟩:M63o.p0X)) L.length
  (y:=⟨sdE c L (P.length*c),ints P,n,T,0,P.length,c,n,mr n (Rq n T P c),n,rsE n T P c L (P.length*c)⟩) (λj hj=> ?_) ?_
 ·simp only[B6]at this;exact this
 ·have b1:decide ((j:Int)<(L.length:Int))=true:=A5 (by omega);have b2:inR (j:Int) L.length=true:=Q6 hj;have b4:IntKind.i64.wrap ((j:Int)+1)=((j+1:Nat):Int):=suc (by omega);have hrow:(L[j]?.getD []).length=c:=(by rw[A3 hj];exact hL.row _ (AJ hj));have hin:=inner j hj;unfold M63o.s0;simp only[b1,b2,A8,hrow,A7];show bindO (iter M63o.s1 (S1 j 0)) _=_;rw[hin];simp only[bindO,b4]
 ·have b1:decide ((L.length:Int)<(L.length:Int))=false:=A6 (by omega);rw[hlen];have e1:leB (0+(sel (cv L c) (P.length*c)).length) (sdE c L (P.length*c)).length=true:=(by simp[leB,sdE_length]);have e2:leB (0+(sel (cv L c) (P.length*c)).length) (rsE n T P c L (P.length*c)).length=true:=(by simp[leB,rsE_length]);have e3:List.take (sel (cv L c) (P.length*c)).length (List.drop 0 (sdE c L (P.length*c)))=sdE c L (P.length*c):=(by rw[An,AS (by rw[sdE_length];omega)]);have e4:List.take (sel (cv L c) (P.length*c)).length (List.drop 0 (rsE n T P c L (P.length*c)))=rsE n T P c L (P.length*c):=(by rw[An,AS (by rw[rsE_length];omega)]);rw[hlen]at b1;unfold M63o.s0;simp only[b1,e1,e2,e3,e4,AY,A7,AA]
theorem enc_runo(h:Dc n T P c)(hL:Cl P c L)(h96:M96.m ⟨n,T,ints P,c,L⟩=some 0):
  M63o.m ⟨n,T,0,P.length,c,L,ints P⟩=some (if bad (rdR n T P c L).2.1 (rdR n T P c L).2.2.length (rsR n T P c L).length=true then (0,9,ints P) else (((nb (sol (rdR n T P c L).2.1 (rdR n T P c L).2.2) 64:Nat):Int),0,ints P)):=by
 have hn:1<=n/\n<=64:=⟨h.vd.lo,h.vd.hi⟩;have hall:=h.all;have hsl:=sel_le (cv L c) (P.length*c);have h01:B01 (sdE c L (P.length*c)):=λx hx=>by unfold sdE at hx;obtain⟨r,hr,rfl⟩:=Am.1 hx;obtain⟨h1,h2⟩:=mem_sel.1 hr;have:=hL.at h1;omega
 have h52:=of52 (l:=sdE c L (P.length*c)) (by rw[sdE_length];omega) h01;have hlen:(rsR n T P c L).length=(sdE c L (P.length*c)).length:=by simp[sdE,rsR]
 have sR:Y8 n (rsR n T P c L):=λb hb=>by obtain⟨r,_,rfl⟩:=Am.1 hb;exact Rr_sup _ _ _ _ _
 have sb:Sup (rsR n T P c L).length (bsR P c L):=by rw[hlen];exact UR _
 have h22:=solve22 (c:=n) (R:=rsR n T P c L) (b:=bsR P c L) (by omega) (by unfold rsR;rw[AG];omega) sR sb;have hM:M63o.m ⟨n,T,0,P.length,c,L,ints P⟩=bindO (M22.m ⟨n,rsE n T P c L (P.length*c),((sdE c L (P.length*c)).length:Int),vw (sdE c L (P.length*c)).length (bt (sdE c L (P.length*c)))⟩) λy=>bif y.2.2 !=0 then some (0,y.2.2,ints P) else bif inR 0 y.2.1.length then some (y.2.1[0]?.getD 0,0,ints P) else none:=by unfold M63o.m;have hl':iter M63o.s0 ⟨0,0,L,(L.length:Int),0,ints P,n,T,0,P.length,c,n,mr n (Rq n T P c),n,0,0,[],[]⟩=some ⟨sdE c L (P.length*c),ints P,n,T,0,P.length,c,n,mr n (Rq n T P c),n,rsE n T P c L (P.length*c)⟩:=loop63o h hL;have t1:(leB (0+P.length) (ints P).length&&true&&true)=true:=(by simp[leB,Q4]);have t2:List.take P.length (List.drop 0 (ints P))=ints P:=(by rw[An,AS (by rw[Q4];omega)]);have t3:M97o.m ⟨n,T,0,P.length,c,ints P⟩=some ((n:Int),mr n (Rq n T P c),ints P):=(by unfold M97o.m;have e1:(eqN 0 0&&eqN P.length (ints P).length)=true:=(by simp[eqN,Q4]);simp only[e1,A7,eqs97 h,bindO]);simp only[t1,t2,t3,valid72 h,h96,bindO,A7,hl',h52];rfl
 rw[hM];show bindO (M22.m ⟨n,mr n (rsR n T P c L),((sdE c L (P.length*c)).length:Int),vw (sdE c L (P.length*c)).length (bsR P c L)⟩) _=_;rw[<-hlen,h22];unfold rdR;by_cases hb:bad (rd (rsR n T P c L) (sd (bsR P c L) (rsR n T P c L).length) n).2.1 (rd (rsR n T P c L) (sd (bsR P c L) (rsR n T P c L).length) n).2.2.length (rsR n T P c L).length=true
 ·rw[AB hb,AB hb];rfl
 ·rw[AE hb,AE hb];have hinv:=(Yf (d:=1) (S:=sd (bsR P c L) (rsR n T P c L).length) sR (.inr (JZ _ _)) n).1;have hsx:=Un hinv;have hbz:bz (nb (sol (rd (rsR n T P c L) (sd (bsR P c L) (rsR n T P c L).length) n).2.1 (rd (rsR n T P c L) (sd (bsR P c L) (rsR n T P c L).length) n).2.2) 64)=_:=tb_nb 64 (sup_le hsx hn.2);have hv:=vw1 hn (x:=nb (sol (rd (rsR n T P c L) (sd (bsR P c L) (rsR n T P c L).length) n).2.1 (rd (rsR n T P c L) (sd (bsR P c L) (rsR n T P c L).length) n).2.2) 64) (WM _ _);rw[hbz]at hv;show bindO (some ((n:Int),vw n _,(0:Int))) _=_;rw[hv];rfl
theorem enc63o(h:Dc n T P c)(hL:Cl P c L)(h96:M96.m ⟨n,T,ints P,c,L⟩=some 0):
  (M63o.m ⟨n,T,0,P.length,c,L,ints P⟩=some (0,9,ints P)/\∀s,s<2^n->¬Ins n T P c s L)\/(∃s:Nat,s<2^n/\M63o.m ⟨n,T,0,P.length,c,L,ints P⟩=some ((s:Int),0,ints P)/\Ins n T P c s L):=by
 have hn:1<=n/\n<=64:=⟨h.vd.lo,h.vd.hi⟩;have hlen:(rsR n T P c L).length=(sdE c L (P.length*c)).length:=by simp[sdE,rsR]
 have sR:Y8 n (rsR n T P c L):=λb hb=>by obtain⟨r,_,rfl⟩:=Am.1 hb;exact Rr_sup _ _ _ _ _
 have sb:Sup (rsR n T P c L).length (bsR P c L):=by rw[hlen];exact UR _
 obtain⟨ok1,ok2⟩:=solve_ok (c:=n) sR sb;rw[enc_runo h hL h96];by_cases hb:bad (rdR n T P c L).2.1 (rdR n T P c L).2.2.length (rsR n T P c L).length=true
 ·rw[AB hb];exact .inl ⟨rfl,λs hs hi=>ok2 hb (bz s) ((ins_app hL hs).1 hi)⟩
 ·rw[AE hb];have hx:=ok1 (Bool.eq_false_iff.2 hb);have hinv:=(Yf (d:=1) (S:=sd (bsR P c L) (rsR n T P c L).length) sR (.inr (JZ _ _)) n).1;have hsx:=Un hinv;unfold rdR;generalize sol (rd (rsR n T P c L) (sd (bsR P c L) (rsR n T P c L).length) n).2.1 (rd (rsR n T P c L) (sd (bsR P c L) (rsR n T P c L).length) n).2.2=x at hx hsx⊢;have hbz:bz (nb x 64)=x:=tb_nb 64 (sup_le hsx hn.2);have hlt:nb x 64<2^n:=lt_of_sup λi hi=>(by have:=congrFun hbz i;rw[hsx i hi]at this;exact this);exact .inr ⟨nb x 64,hlt,rfl,(ins_app hL hlt).2 (by rw[hbz];exact hx)⟩
end
end Sf
namespace Sf
open Gf
theorem fnd_any{α:Type}(L:List α)(d:α)(p:α->Bool):(fnd (λj=>p (L[j]?.getD d)) L.length 0).isSome=L.any p:=by
 cases h:fnd (λj=>p (L[j]?.getD d)) L.length 0 with
 |some j=>obtain⟨_,h2,h3,_⟩:=Zz h;have hj:j<L.length:=(by omega);have h3:p (L[j]?.getD d)=true:=h3;rw[A3 hj,Al]at h3;exact(List.any_eq_true.2 ⟨_,AJ hj,h3⟩).symm
 |none=>
  have h2:=Y0 h
  symm
  rw[Option.isSome_none];apply Bool.eq_false_iff.2;intro ha;obtain⟨x,hx,hp⟩:=List.any_eq_true.1 ha;obtain⟨j,hj,rfl⟩:=List.getElem_of_mem hx;have:=h2 j (B4 _) (by omega);rw[A3 hj,Al,hp]at this;cases this
theorem iter_any2{X Y:Type}{step:X->Option (X⊕Y)}(S:Nat->X)(N:Nat)(P:Nat->Bool)(z:Y){y:Y}(h0:∀i,i<N->P i=false->step (S i)=some (.inl (S (i+1))))
  (h1:∀i,i<N->P i=true->step (S i)=some (.inr z)) (he:step (S N)=some (.inr y)):iter step (S 0)=some (bif (fnd P N 0).isSome then z else y):=by
 rw[iter_fnd S N P (λ_=>z) h0 h1 he N 0 (by omega)];cases fnd P N 0<;>rfl
theorem beyond68{n x:Nat}(hn:n<=64)(hx:x<2^64):M68.m ⟨x,n⟩=some (decide (2^n<=x)):=by
 unfold M68.m;have a2:decide (0<=(n:Int))=true:=A5 (by omega);by_cases h:n<64
 ·have a1:decide ((n:Int)<64)=true:=A5 (by omega);have hd:decide ((x:Int).fdiv (2^min n 64)>0)=decide (2^n<=x):=by
   rw[B1 (by omega),Jv,JD];have hpos:0<2^n:=BG n;by_cases h:2^n<=x
   ·have:0<x / 2^n:=Nat.div_pos h hpos;rw[A5 h];generalize x / 2^n=q at this;exact A5 (by omega)
   ·rw[A6 h,Nat.div_eq_of_lt (by omega)];rfl
  simp only[a1,a2,A8,hd,A7,Bd]
 ·have:n=64:=(by omega);subst this;rw[A6 (show¬2^64<=x by omega)];rfl
def chk(n:Int)(t:Nat):Int:=if n<1 then 1 else if 64<n then 3 else if 2^n.toNat<=t\/t<2^(n.toNat - 1) then 1 else 0
theorem chk_zero{n:Int}{t:Nat}(h:chk n t=0):∃N:Nat,n=(N:Int)/\Vd N t:=by
 unfold chk at h;by_cases h1:n<1
 ·rw[AB h1]at h;cases h
 ·by_cases h2:64<n
  ·rw[AE h1,AB h2]at h;cases h
  ·by_cases h3:2^n.toNat<=t\/t<2^(n.toNat - 1)
   ·rw[AE h1,AE h2,AB h3]at h;cases h
   ·exact⟨n.toNat,by omega,by omega,by omega,by omega,by omega⟩
theorem low_bits{n t:Nat}(h:1<=n/\n<=64):((t:Int).fdiv (2^min (n - 1) 64)==0)=decide (t<2^(n - 1)):=by
 rw[B1 (by omega),Jv,JD];have hpos:=BG (n - 1);by_cases h4:t<2^(n - 1)
 ·rw[A5 h4,Nat.div_eq_of_lt h4];rfl
 ·have:0<t / 2^(n - 1):=Nat.div_pos (by omega) hpos;rw[A6 h4,At];omega
theorem chk_run{n t:Nat}(h:1<=n/\n<=64):(bif bif decide (2^n<=t) then true else decide (t<2^(n - 1)) then (1:Int) else 0)=chk n t:=by
 unfold chk;rw[AE (by omega),AE (by omega),A8];by_cases h1:2^n<=t
 ·rw[A5 h1,AB (.inl h1)];rfl
 ·by_cases h2:t<2^(n - 1)
  ·rw[A6 h1,A5 h2,AB (.inr h2)];rfl
  ·rw[A6 h1,A6 h2,AE (by omega)];rfl
theorem chk71(n:Int){t:Nat}(ht:t<2^64):M71.m ⟨n,t⟩=some (chk n t):=by
 unfold M71.m;by_cases h1:n<1
 ·have:chk n t=1:=(by unfold chk;rw[AB h1]);rw[this];simp only[A5 h1,A7]
 ·by_cases h2:n>64
  ·have:chk n t=3:=(by unfold chk;rw[AE h1,AB h2]);rw[this];simp only[A6 h1,A5 h2,A7,AA]
  ·obtain⟨N,rfl⟩:=AH (show 0<=n by omega);have hN:1<=N/\N<=64:=(by omega);have a4:IntKind.i64.wrap ((N:Int) - 1)=((N - 1:Nat):Int):=(by rw[w64 (by omega) (by omega)];omega);have a5:decide (0<=((N - 1:Nat):Int))=true:=A5 (by omega);rw[<-chk_run hN];simp only[A6 h1,A6 h2,AA,wide100 hN.2 ht,bindO,a4,a5,Bd,A7,A8,low_bits hN];cases (bif decide (2^N<=t) then true else decide (t<2^(N - 1)))<;>rfl
section
variable {n:Int}{t:Nat}{e:Int}
theorem beg_err(s:Int)(ht:t<2^64)(h:chk n t≠0):M91.m ⟨n,t,s⟩=some (0,0,0,chk n t):=by
 unfold M91.m;have:(chk n t !=0)=true:=by simpa using h
 simp only[chk71 n ht,bindO,this,A7]
theorem beg_wide{N s:Nat}(h:Vd N t)(hs:2^N<=s)(hs64:s<2^64):M91.m ⟨N,t,s⟩=some (0,0,0,1):=by unfold M91.m;have a3:=wide100 (n:=N) (x:=s) h.hi hs64;rw[A5 hs]at a3;simp only[check71 h,a3,bindO];rfl
theorem err58{s:Int}(h:M91.m ⟨n,t,s⟩=some (0,0,0,e))(he:e≠0):M58.m ⟨n,t,s⟩=some (0,e):=by
 unfold M58.m;have:(e !=0)=true:=by simpa using he
 simp only[h,bindO,this,A7]
theorem err69{s:Int}(k:Int)(h:M91.m ⟨n,t,s⟩=some (0,0,0,e))(he:e≠0):M69.m ⟨n,t,s,k⟩=some (0,e):=by
 unfold M69.m;have:(e !=0)=true:=by simpa using he
 simp only[h,bindO,this,A7]
theorem err55{s:Int}(l:Int)(h:M91.m ⟨n,t,s⟩=some (0,0,0,e))(he:e≠0):M55.m ⟨n,t,s,l⟩=some (0,e):=by
 unfold M55.m;have:(e !=0)=true:=by simpa using he
 simp only[h,bindO,this,A7]
theorem err70(ht:t<2^64)(h:chk n t≠0):M70.m ⟨n,t⟩=some (0,[],chk n t):=by
 unfold M70.m;have:(chk n t !=0)=true:=by simpa using h
 simp only[chk71 n ht,bindO,this,A7]
theorem err72(ph:List Int)(c:Int)(ht:t<2^64)(h:chk n t≠0):M72.m ⟨n,t,ph,c⟩=some (chk n t):=by
 unfold M72.m;have:(chk n t !=0)=true:=by simpa using h
 simp only[chk71 n ht,bindO,this,A7]
variable {ph:List Int}{c:Int}
theorem err61(s:Int)(h:M72.m ⟨n,t,ph,c⟩=some e)(he:e≠0):M61.m ⟨n,t,ph,c,s⟩=some ([],e):=by
 unfold M61.m;have:(e !=0)=true:=by simpa using he
 simp only[h,bindO,this,A7]
theorem err61s{s:Int}(h:M72.m ⟨n,t,ph,c⟩=some 0)(hb:M91.m ⟨n,t,s⟩=some (0,0,0,e))(he:e≠0):M61.m ⟨n,t,ph,c,s⟩=some ([],e):=by
 unfold M61.m;have:(e !=0)=true:=by simpa using he
 simp only[h,hb,bindO,this,A7];rfl
theorem err65(h:M72.m ⟨n,t,ph,c⟩=some e)(he:e≠0):M65.m ⟨n,t,ph,c⟩=some (0,[],e):=by
 unfold M65.m;have:(e !=0)=true:=by simpa using he
 simp only[h,bindO,this,A7]
theorem tk(l:List Int):(leB (0+l.length) l.length&&true&&true)=true/\List.take l.length (List.drop 0 l)=l:=
 ⟨by simp[leB],by rw[An,Bj]⟩
theorem err63o(L:List (List Int))(h:M72.m ⟨n,t,ph,c⟩=some e)(he:e≠0):M63o.m ⟨n,t,0,ph.length,c,L,ph⟩=some (0,e,ph):=by
 unfold M63o.m;have:(e !=0)=true:=by simpa using he
 simp only[(tk ph).1,(tk ph).2,h,bindO,this,A7]
theorem err63s{L:List (List Int)}(h:M72.m ⟨n,t,ph,c⟩=some 0)(h96:M96.m ⟨n,t,ph,c,L⟩=some e)(he:e≠0):M63o.m ⟨n,t,0,ph.length,c,L,ph⟩=some (0,e,ph):=by
 unfold M63o.m;have:(e !=0)=true:=by simpa using he
 simp only[(tk ph).1,(tk ph).2,h,h96,bindO,this,A7];rfl
theorem run61o{t s:Int}{o:List (List Int)}(h:M61.m ⟨n,t,ph,c,s⟩=some (o,e)):M61o.m ⟨n,t,0,ph.length,c,s,ph⟩=some (o,e,ph):=by
 unfold M61o.m;have:(eqN 0 0&&eqN ph.length ph.length)=true:=by simp[eqN]
 simp only[this,A7,h,bindO]
theorem run65o{t v:Int}{c8:Int}{q8:List (Int×List Int)}(hv:M72.m ⟨n,t,ph,c⟩=some v)(h:M65.m ⟨n,t,ph,c⟩=some (c8,q8,e)):M65o.m ⟨n,t,0,ph.length,c,ph⟩=some (c8,q8,e,ph):=by
 unfold M65.m at h;unfold M65o.m M97o.m;have:(eqN 0 0&&eqN ph.length ph.length)=true:=by simp[eqN]
 simp only[(tk ph).1,(tk ph).2,hv,bindO,this,A7]at h⊢
 cases hz:(v !=0) with
 |true=>rw[hz]at h;cases h;rfl
 |false=>
  rw[hz]at h;simp only[AA]at h⊢
  cases h97:M97.m ⟨n,t,ph,c⟩ with
  |none=>rw[h97]at h;cases h
  |some y=>rw[h97]at h;cases h;rfl
end
def wideM(N:Nat)(P:List Nat):Bool:=P.any λp=>decide (2^N<=p)
def vld(N:Nat)(P:List Nat)(c:Int):Int:=if 64<P.length then 3 else if wideM N P=true then 1 else if c<0 then 1 else if P≠[]/\c>((4096 / P.length:Nat):Int) then 3 else 0
theorem ints_getD(P:List Nat)(j:Nat):(ints P)[j]?.getD 0=((P[j]?.getD 0:Nat):Int):=by unfold ints;rw[AX];cases P[j]? <;>rfl
theorem vld72{N t:Nat}{P:List Nat}(hv:Vd N t)(hP:∀p∈P,p<2^64)(c:Int):M72.m ⟨N,t,ints P,c⟩=some (vld N P c):=by
 unfold M72.m;simp only[check71 hv,bindO];by_cases h1:64<P.length
 ·have:vld N P c=3:=(by unfold vld;rw[AB h1]);rw[this];have a1:decide (((ints P).length:Int)>64)=true:=A5 (by rw[Q4];omega);simp only[a1];rfl
 ·have a1:decide (((ints P).length:Int)>64)=false:=A6 (by rw[Q4];omega);have hi:=iter_any2 (step:=M72.s0) (λi=>(⟨ints P,((ints P).length:Int),(i:Int),N,t,ints P,c⟩:M72.p0X)) P.length (λj=>decide (2^N<=P[j]?.getD 0)) (.inr ⟨1⟩) (y:=.inl ⟨N,t,ints P,c⟩)
   (λi hi hp=>by
    unfold M72.s0;have b1:decide ((i:Int)<((ints P).length:Int))=true:=A5 (by rw[Q4];omega);have b2:inR (i:Int) (ints P).length=true:=Q6 (by rw[Q4];exact hi);have hlt:P[i]?.getD 0<2^64:=(by rw[A3 hi];exact hP _ (AJ hi));have b3:=wide100 (n:=N) (x:=P[i]?.getD 0) hv.hi hlt;have hp:decide (2^N<=P[i]?.getD 0)=false:=hp;have b4:IntKind.i64.wrap ((i:Int)+1)=((i+1:Nat):Int):=suc (by omega);simp only[b1,b2,A8,ints_getD,b3,hp,b4,bindO,A7,AA])
   (λi hi hp=>by
    unfold M72.s0;have b1:decide ((i:Int)<((ints P).length:Int))=true:=A5 (by rw[Q4];omega);have b2:inR (i:Int) (ints P).length=true:=Q6 (by rw[Q4];exact hi);have hlt:P[i]?.getD 0<2^64:=(by rw[A3 hi];exact hP _ (AJ hi));have b3:=wide100 (n:=N) (x:=P[i]?.getD 0) hv.hi hlt;have hp:decide (2^N<=P[i]?.getD 0)=true:=hp;simp only[b1,b2,A8,ints_getD,b3,hp,bindO,A7])
   (by
    unfold M72.s0;have b1:decide ((P.length:Int)<((ints P).length:Int))=false:=A6 (by rw[Q4];omega);simp only[b1,AA])
  rw[fnd_any P 0 (λp=>decide (2^N<=p))]at hi;have hi:iter M72.s0 ⟨ints P,((ints P).length:Int),0,N,t,ints P,c⟩=some (bif wideM N P then .inr ⟨1⟩ else .inl ⟨N,t,ints P,c⟩):=hi;simp only[a1,hi,Gf.nz,AA]
  cases hw:wideM N P with
  |true=>have:vld N P c=1:=(by unfold vld;rw[AE h1,AB hw]);rw[this];rfl
  |false=>
   simp only[AA,sumC,Q4];have hw':¬wideM N P=true:=(by rw[hw];simp);by_cases hc:c<0
   ·have:vld N P c=1:=(by unfold vld;rw[AE h1,AE hw',AB hc]);rw[this];simp only[A5 hc,A7]
   ·simp only[A6 hc,AA];by_cases hp:P=[]
    ·have:vld N P c=0:=(by unfold vld;rw[AE h1,AE hw',AE hc,AE (λh=>h.1 hp)]);rw[this];subst hp;rfl
    ·have hpos:0<P.length:=List.length_pos_iff.2 hp;have c2:Go.Abs.nz (P.length:Int)=true:=(by unfold Go.Abs.nz;rw[At.2 (show(P.length:Int)≠0 by omega)];rfl);have c3:decide ((P.length:Int)>0)=true:=A5 (by omega);have c4:IntKind.i64.wrap (Int.tdiv 4096 (P.length:Int))=((4096 / P.length:Nat):Int):=(by have e:Int.tdiv 4096 (P.length:Int)=((4096 / P.length:Nat):Int):=rfl;have:=Nat.div_le_self 4096 P.length;rw[e];generalize 4096 / P.length=q at this;exact w64 (by omega) (by omega));simp only[c2,c3,c4,Bd,A7];by_cases h4:c>((4096 / P.length:Nat):Int)
     ·have:vld N P c=3:=(by unfold vld;rw[AE h1,AE hw',AE hc,AB ⟨hp,h4⟩]);rw[this,A5 h4];rfl
     ·have:vld N P c=0:=(by unfold vld;rw[AE h1,AE hw',AE hc,AE (λh=>h4 h.2)]);rw[this,A6 h4];rfl
theorem vld_dc{N t:Nat}{P:List Nat}{c:Int}(hv:Vd N t)(hc:c<=9223372036854775807)(h:vld N P c=0):∃C:Nat,c=(C:Int)/\Dc N t P C:=by
 unfold vld at h;by_cases h1:64<P.length
 ·rw[AB h1]at h;cases h
 ·by_cases h2:wideM N P=true
  ·rw[AE h1,AB h2]at h;cases h
  ·by_cases h3:c<0
   ·rw[AE h1,AE h2,AB h3]at h;cases h
   ·by_cases h4:P≠[]/\c>((4096 / P.length:Nat):Int)
    ·rw[AE h1,AE h2,AE h3,AB h4]at h;cases h
    ·refine⟨c.toNat,by omega,hv,λp hp=> ?_,by omega,λhp=> ?_,by omega⟩
     ·apply Ax;intro hn;exact h2 (List.any_eq_true.2 ⟨p,hp,A5 (by omega)⟩)
     ·have:¬c>((4096 / P.length:Nat):Int):=λh=>h4 ⟨hp,h⟩;generalize 4096 / P.length=q at*
      omega
end Sf
namespace Sf
open Gf
def anyLen(L:List (List Int))(c:Int):Bool:=L.any λl=>(l.length:Int) !=c
def anyBad(L:List (List Int)):Bool:=L.any λl=>l.any λv=>decide (v>2)
def shp(P:List Nat)(c:Int)(L:List (List Int)):Int:=bif (L.length:Int) !=(P.length:Int) then 8 else bif anyLen L c then 8 else bif anyBad L then 1 else 0
theorem shp96(P:List Nat)(c:Int)(L:List (List Int))(n t:Int)(hL:L.length<=1000)(hl:∀l∈L,l.length<=1000):M96.m ⟨n,t,ints P,c,L⟩=some (shp P c L):=by
 have i2:∀j,j<L.length->iter M96.s2 ⟨L,(L.length:Int),(j:Int),L[j]?.getD [],((L[j]?.getD []).length:Int),0⟩=some (bif (L[j]?.getD []).any (λv=>decide (v>2)) then .inr ⟨1⟩ else .inl ⟨L,(L.length:Int),(j:Int)⟩):=λj hj=>by
  have hr:(L[j]?.getD []).length<=1000:=(by rw[A3 hj];exact hl _ (AJ hj));generalize L[j]?.getD []=r at hr⊢;have:=iter_any2 (step:=M96.s2) (λi=>(⟨L,(L.length:Int),(j:Int),r,(r.length:Int),(i:Int)⟩:M96.p2X)) r.length (λi=>decide (r[i]?.getD 0>2)) (.inr ⟨1⟩) (y:=.inl ⟨L,(L.length:Int),(j:Int)⟩)
   (λi hi hp=>by
    unfold M96.s2;have b1:decide ((i:Int)<(r.length:Int))=true:=A5 (by omega);have b2:inR (i:Int) r.length=true:=Q6 hi;have hp:decide (r[i]?.getD 0>2)=false:=hp;have b4:IntKind.i64.wrap ((i:Int)+1)=((i+1:Nat):Int):=suc (by omega);simp only[b1,b2,A8,hp,b4,A7,AA])
   (λi hi hp=>by
    unfold M96.s2;have b1:decide ((i:Int)<(r.length:Int))=true:=A5 (by omega);have b2:inR (i:Int) r.length=true:=Q6 hi;have hp:decide (r[i]?.getD 0>2)=true:=hp;simp only[b1,b2,A8,hp,A7])
   (by
    unfold M96.s2;have b1:decide ((r.length:Int)<(r.length:Int))=false:=A6 (by omega);simp only[b1,AA])
  rw[fnd_any r 0 (λv=>decide (v>2))]at this;exact this
 have i1:iter M96.s1 ⟨L,(L.length:Int),0⟩=some (bif anyBad L then .inr ⟨1⟩ else .inl PUnit.unit):=by
  have:=iter_any2 (step:=M96.s1) (λj=>(⟨L,(L.length:Int),(j:Int)⟩:M96.p1X)) L.length (λj=>(L[j]?.getD []).any (λv=>decide (v>2))) (.inr ⟨1⟩) (y:=.inl PUnit.unit)
   (λj hj hp=>by
    unfold M96.s1;have b1:decide ((j:Int)<(L.length:Int))=true:=A5 (by omega);have b2:inR (j:Int) L.length=true:=Q6 hj;have b4:IntKind.i64.wrap ((j:Int)+1)=((j+1:Nat):Int):=suc (by omega);have b5:=i2 j hj;rw[hp]at b5;simp only[b1,b2,b4,A8,b5,bindO,sumC,A7,AA])
   (λj hj hp=>by
    unfold M96.s1;have b1:decide ((j:Int)<(L.length:Int))=true:=A5 (by omega);have b2:inR (j:Int) L.length=true:=Q6 hj;have b5:=i2 j hj;rw[hp]at b5;simp only[b1,b2,A8,b5,bindO,sumC,A7])
   (by
    unfold M96.s1;have b1:decide ((L.length:Int)<(L.length:Int))=false:=A6 (by omega);simp only[b1,AA])
  rw[fnd_any L [] (λl=>l.any λv=>decide (v>2))]at this;exact this
 have i0:iter M96.s0 ⟨L,L,(L.length:Int),0,n,t,ints P,c⟩=some (bif anyLen L c then .inr ⟨8⟩ else .inl ⟨L⟩):=by
  have:=iter_any2 (step:=M96.s0) (λj=>(⟨L,L,(L.length:Int),(j:Int),n,t,ints P,c⟩:M96.p0X)) L.length (λj=>((L[j]?.getD []).length:Int) !=c) (.inr ⟨8⟩) (y:=.inl ⟨L⟩)
   (λj hj hp=>by
    unfold M96.s0;have b1:decide ((j:Int)<(L.length:Int))=true:=A5 (by omega);have b2:inR (j:Int) L.length=true:=Q6 hj;have b4:IntKind.i64.wrap ((j:Int)+1)=((j+1:Nat):Int):=suc (by omega);simp only[b1,b2,b4,A8,hp,A7,AA])
   (λj hj hp=>by
    unfold M96.s0;have b1:decide ((j:Int)<(L.length:Int))=true:=A5 (by omega);have b2:inR (j:Int) L.length=true:=Q6 hj;simp only[b1,b2,A8,hp,A7])
   (by
    unfold M96.s0;have b1:decide ((L.length:Int)<(L.length:Int))=false:=A6 (by omega);simp only[b1,AA])
  rw[fnd_any L [] (λl=>(l.length:Int) !=c)]at this;exact this
 unfold M96.m shp;rw[Q4]
 cases h:((L.length:Int) !=(P.length:Int)) with
 |true=>rfl
 |false=>
  simp only[AA,i0,bindO]
  cases anyLen L c with
  |true=>rfl
  |false=>simp only[AA,sumC,i1,bindO];cases anyBad L<;>rfl
theorem shp_cl {P : List Nat} {C : Nat} {L : List (List Int)} (h : shp P C L = 0) (hv : ∀ l ∈ L,∀ v ∈ l,0 <= v) : Cl P C L := by
 unfold shp at h
 cases h1 : ((L.length : Int) != (P.length : Int)) with
 | true => rw [h1] at h; cases h
 | false =>
   cases h2 : anyLen L C with
   | true => rw [h1,h2] at h; cases h
   | false =>
     cases h3 : anyBad L with
     | true => rw [h1,h2,h3] at h; cases h
     | false =>
       have h1 : L.length = P.length := by have : (L.length : Int) = (P.length : Int) := by simpa using h1
                                           omega
       refine ⟨h1,λl hl => ?_,λl hl v hv' => ?_⟩
       · have := List.any_eq_false.1 h2 l hl
         have : (l.length : Int) = (C : Int) := (by simpa using this);omega
       · have := List.any_eq_false.1 h3 l hl
         have := List.any_eq_false.1 (Bool.eq_false_iff.2 this) v hv';have h0 := hv l hl v hv';simp at this;omega
theorem kB_ok{y:M15.q1X}{s3 s4 c5 k6 e6 c8 u9 e9:Int}{m5 q8:List (Int×List Int)}{o7:List (List Int)}
  (h3:M58.m ⟨y.ln,y.lt,y.rs⟩=some (s3,y.step)) (h4:M69.m ⟨y.ln,y.lt,y.rs,3⟩=some (s4,y.step)) (z3:y.step=0\/(s3=0/\s4=0))
  (h5:M70.m ⟨y.ln,y.lt⟩=some (c5,m5,y.check)) (z5:y.check=0\/m5=[])
  (h6:M55.m ⟨y.ln,y.lt,y.rs,y.rl⟩=some (k6,e6)) (g6:e6=y.period\/(y.period=0/\e6=3)) (z6:e6=0\/k6=0)
  (h7:M61.m ⟨y.dn,y.dt,y.pc,y.dc,y.rs⟩=some (o7,y.expand)) (z7:y.expand=0\/o7=[])
  (h8:M65.m ⟨y.dn,y.dt,y.pc,y.dc⟩=some (c8,q8,y.valid)) (z8:y.valid=0\/q8=[])
  (h9:M63o.m ⟨y.dn,y.dt,0,y.pc.length,y.dc,y.all,y.pc⟩=some (u9,e9,y.pc)) {f:Int} (hf:f=bif bif y.enc==0 then y.bad else false then 1 else y.enc) (g9:e9=f\/(f=0/\e9=9)) (z9:e9=0\/u9=0)
  (h10:M71.m ⟨y.ln,y.lt⟩=some y.check) (h11:M72.m ⟨y.dn,y.dt,y.pc,y.dc⟩=some y.valid) (hd:y.dph_lo=0) (hl:y.dph_len=y.pc.length):M15.kB y=some true:=by
 obtain⟨cells,check,valid,step,expand,enc,period,bad,all,rn,rt,rph,rc,rs,rl,ln,lt,pc,dn,dt,lo,len,dc⟩:=y;simp only at*
 subst hd;subst hl;have x7:M61o.m ⟨dn,dt,0,pc.length,dc,rs,pc⟩=some (o7,expand,pc):=run61o (n:=dn) (t:=dt) (ph:=pc) (c:=dc) (s:=rs) (o:=o7) (e:=expand) h7;have x8:M65o.m ⟨dn,dt,0,pc.length,dc,pc⟩=some (c8,q8,valid,pc):=run65o (n:=dn) (t:=dt) (ph:=pc) (c:=dc) (v:=valid) (c8:=c8) (q8:=q8) (e:=valid) h11 h8;have c6:(bif e6==period then true else bif period==0 then e6==3 else false)=true:=by
  rcases g6 with rfl|⟨rfl,rfl⟩
  ·simp
  ·rfl
 have c9:(bif e9==f then true else bif f==0 then e9==9 else false)=true:=by
  rcases g9 with rfl|⟨rfl,rfl⟩
  ·simp
  ·rfl
 have w3:(bif step==0 then true else bif s3==0 then s4==0 else false)=true:=by
  rcases z3 with rfl|⟨rfl,rfl⟩
  ·rfl
  ·cases (step==0)<;>rfl
 have w5:(bif check==0 then true else (m5.length:Int)==0)=true:=by
  rcases z5 with rfl|rfl
  ·rfl
  ·cases (check==0)<;>rfl
 have w6:(bif e6==0 then true else k6==0)=true:=by
  rcases z6 with rfl|rfl
  ·rfl
  ·cases (e6==0)<;>rfl
 have w7:(bif expand==0 then true else (o7.length:Int)==0)=true:=by
  rcases z7 with rfl|rfl
  ·rfl
  ·cases (expand==0)<;>rfl
 have w8:(bif valid==0 then true else (q8.length:Int)==0)=true:=by
  rcases z8 with rfl|rfl
  ·rfl
  ·cases (valid==0)<;>rfl
 have w9:(bif e9==0 then true else u9==0)=true:=by
  rcases z9 with rfl|rfl
  ·rfl
  ·cases (e9==0)<;>rfl
 unfold M15.kB;simp only[h3,h4,h5,h6,x7,x8,h9,h10,bindO,X5,BB,A7,AA,(tk pc).1,(tk pc).2,h11,<-hf,c6,c9,Bl,w3,w5,w6,w7,w8,w9,lives59]
theorem loop15a(cells:List (List Int))(check rc rs rl:Int){N:Nat}(t:Int){P:List Nat}(hN:N<=64)(hP:∀p∈P,p<2^64)(hl:P.length<=1000):
  ∀f i,i+f=P.length->iter M15.s0 ⟨cells,check,0,(i:Int),(N:Int),t,ints P,rc,rs,rl,(N:Int),t,ints P,(N:Int),t,0,(ints P).length,rc⟩=
   some ⟨cells,check,bif (fnd (λj=>decide (2^N<=P[j]?.getD 0)) f i).isSome then 1 else 0,(N:Int),t,ints P,rc,rs,rl,(N:Int),t,ints P,(N:Int),t,0,(ints P).length,rc⟩
 |0,i,hi=>by rw[iter_eq];have b1:decide ((i:Int)<((ints P).length:Int))=false:=A6 (by rw[Q4];omega);unfold M15.s0;simp only[b1,AA];rfl
 |f+1,i,hi=>by
  have hil:i<P.length:=(by omega);have b1:decide ((i:Int)<((ints P).length:Int))=true:=A5 (by rw[Q4];omega);have b2:inR (i:Int) (ints P).length=true:=Q6 (by rw[Q4];exact hil);have hlt:P[i]?.getD 0<2^64:=(by rw[A3 hil];exact hP _ (AJ hil));have b3:=beyond68 (n:=N) (x:=P[i]?.getD 0) hN hlt;have b4:IntKind.i64.wrap ((i:Int)+1)=((i+1:Nat):Int):=suc (by omega);rw[iter_eq];unfold fnd
  cases hp:decide (2^N<=P[i]?.getD 0) with
  |false=>rw[hp]at b3;have hs:M15.s0 ⟨cells,check,0,(i:Int),(N:Int),t,ints P,rc,rs,rl,(N:Int),t,ints P,(N:Int),t,0,(ints P).length,rc⟩=some (.inl ⟨cells,check,0,((i+1:Nat):Int),(N:Int),t,ints P,rc,rs,rl,(N:Int),t,ints P,(N:Int),t,0,(ints P).length,rc⟩):=(by unfold M15.s0;simp only[b1,b2,A8,ints_getD,b3,b4,bindO,A7,AA,Bq]);rw[hs];show iter M15.s0 _=_;rw[loop15a cells check rc rs rl t hN hP hl f (i+1) (by omega)];simp
  |true=>rw[hp]at b3;have hs:M15.s0 ⟨cells,check,0,(i:Int),(N:Int),t,ints P,rc,rs,rl,(N:Int),t,ints P,(N:Int),t,0,(ints P).length,rc⟩=some (.inl ⟨cells,check,1,((i+1:Nat):Int),(N:Int),t,ints P,rc,rs,rl,(N:Int),t,ints P,(N:Int),t,0,(ints P).length,rc⟩):=(by unfold M15.s0;simp only[b1,b2,A8,ints_getD,b3,b4,bindO,A7,Bq]);rw[hs];show iter M15.s0 _=_;rw[iter_eq];have hs2:M15.s0 ⟨cells,check,1,((i+1:Nat):Int),(N:Int),t,ints P,rc,rs,rl,(N:Int),t,ints P,(N:Int),t,0,(ints P).length,rc⟩=some (.inr ⟨cells,check,1,(N:Int),t,ints P,rc,rs,rl,(N:Int),t,ints P,(N:Int),t,0,(ints P).length,rc⟩):=(by unfold M15.s0;cases decide (((i+1:Nat):Int)<((ints P).length:Int))<;>rfl);rw[hs2];simp
theorem loop15e(cells:List (List Int))(check valid n t rc rs rl:Int)(ph:List Int)(hv:valid≠0):
  iter M15.s0 ⟨cells,check,valid,0,n,t,ph,rc,rs,rl,n,t,ph,n,t,0,ph.length,rc⟩=some ⟨cells,check,valid,n,t,ph,rc,rs,rl,n,t,ph,n,t,0,ph.length,rc⟩:=by
 rw[iter_eq];have hs:M15.s0 ⟨cells,check,valid,0,n,t,ph,rc,rs,rl,n,t,ph,n,t,0,ph.length,rc⟩=some (.inr ⟨cells,check,valid,n,t,ph,rc,rs,rl,n,t,ph,n,t,0,ph.length,rc⟩):=by unfold M15.s0;have:(valid==0)=false:=(by simpa using hv);simp only[this];cases decide ((0:Int)<(ph.length:Int))<;>rfl
 rw[hs]
theorem loop15b(cells:List (List Int))(check valid step expand enc period rn rt rc rs rl ln lt dn dt dc:Int)(rph pc:List Int)(lo len:Nat)(hL:cells.length<=1000):
  iter M15.s1 ⟨cells,check,valid,step,expand,enc,period,false,0,0,0,rn,rt,rph,rc,rs,rl,ln,lt,pc,dn,dt,lo,len,dc,[]⟩=
   some (bif cells.any (λl=>decide ((l.length:Int)>50)) then .inr ⟨true⟩ else
    .inl ⟨cells,check,valid,step,expand,bif bif enc==0 then anyLen cells rc else false then 8 else enc,period,anyBad cells,cells,rn,rt,rph,rc,rs,rl,ln,lt,pc,dn,dt,lo,len,dc⟩):=by
 let E:Nat->Int:=λj=>bif bif enc==0 then anyLen (cells.take j) rc else false then 8 else enc
 let S:Nat->M15.p1X:=λj=>⟨cells,check,valid,step,expand,E j,period,anyBad (cells.take j),0,j,(j:Int),rn,rt,rph,rc,rs,rl,ln,lt,pc,dn,dt,lo,len,dc,cells.take j⟩;have row:∀j (hj:j<cells.length),cells[j].length<=50->iter M15.s2 ⟨cells,check,valid,step,expand,E j,period,anyBad (cells.take j),0,j,(j:Int),0,0,0,rn,rt,rph,rc,rs,rl,ln,lt,pc,dn,dt,lo,len,dc,cells.take j,[]⟩=
   some ⟨cells,check,valid,step,expand,E j,period,anyBad (cells.take (j+1)),0,j,(j:Int),cells[j],rn,rt,rph,rc,rs,rl,ln,lt,pc,dn,dt,lo,len,dc,cells.take j⟩:=λj hj h50=>by
  have hr:cells[j]?.getD []=cells[j]:=(by rw[A3 hj];rfl);let B:Nat->Bool:=λi=>anyBad (cells.take j)||(cells[j].take i).any λv=>decide (v>2)
  have:=QV (step:=M15.s2) (λi=>(⟨cells,check,valid,step,expand,E j,period,B i,0,j,(j:Int),0,i,(i:Int),rn,rt,rph,rc,rs,rl,ln,lt,pc,dn,dt,lo,len,dc,cells.take j,cells[j].take i⟩:M15.p2X)) cells[j].length
   (y:=⟨cells,check,valid,step,expand,E j,period,anyBad (cells.take (j+1)),0,j,(j:Int),cells[j],rn,rt,rph,rc,rs,rl,ln,lt,pc,dn,dt,lo,len,dc,cells.take j⟩) (λi hi=> ?_) ?_
  ·have e0:B 0=anyBad (cells.take j):=(by simp[B]);simp only[e0]at this;exact this
  ·unfold M15.s2;have b1:inR (j:Int) cells.length=true:=Q6 hj;have b2:decide ((i:Int)<(cells[j].length:Int))=true:=A5 (by omega);have b3:inR (i:Int) cells[j].length=true:=Q6 hi;have b4:eqN 0 0=true:=rfl;have b5:eqN (cells[j].take i).length i=true:=(by simp[eqN];omega);have b6:Ql (i+1) 1=true:=room (by omega);have b7:IntKind.i64.wrap ((i:Int)+1)=((i+1:Nat):Int):=suc (by omega);have b8:cells[j][i]?.getD 0=cells[j][i]:=(by rw[A3 hi];rfl);have b9:cells[j].take (i+1)=cells[j].take i++[cells[j][i]]:=take_one hi;have b10:(bif B i then true else decide (cells[j][i]>2))=B (i+1):=(by simp only[B,b9,List.any_append,List.any_cons,List.any_nil,Bool.or_false];cases anyBad (cells.take j)<;>cases (cells[j].take i).any (λv=>decide (v>2))<;>rfl);simp only[A8,hr,b1,b2,b3,b4,b5,b6,b7,b8,b9,Bd,AY,A7,b10]
  ·unfold M15.s2;have b1:inR (j:Int) cells.length=true:=Q6 hj;have b2:decide ((cells[j].length:Int)<(cells[j].length:Int))=false:=A6 (by omega);have b3:leB (0+cells[j].length) (cells[j].take cells[j].length).length=true:=(by simp[leB]);have b4:List.take cells[j].length (List.drop 0 (cells[j].take cells[j].length))=cells[j]:=(by rw[An,Bj,Bj]);have b5:B cells[j].length=anyBad (cells.take (j+1)):=(by simp only[B,Bj];unfold anyBad;rw[take_one hj,List.any_append,List.any_cons,List.any_nil,Bool.or_false]);simp only[A8,hr,b1,b2,b3,b4,b5,AY,A7,AA]
 have key:=iter_any2 (step:=M15.s1) S cells.length (λj=>decide (((cells[j]?.getD []).length:Int)>50)) (.inr ⟨true⟩)
  (y:=.inl ⟨cells,check,valid,step,expand,bif bif enc==0 then anyLen cells rc else false then 8 else enc,period,anyBad cells,cells,rn,rt,rph,rc,rs,rl,ln,lt,pc,dn,dt,lo,len,dc⟩)
  (λj hj hp=>by
   have hp:decide (((cells[j]?.getD []).length:Int)>50)=false:=hp;have hr:cells[j]?.getD []=cells[j]:=(by rw[A3 hj];rfl);rw[hr]at hp;have h50:cells[j].length<=50:=(by have:=of_decide_eq_false hp;omega);have hro:=row j hj h50;have b1:decide ((j:Int)<(cells.length:Int))=true:=A5 (by omega);have b2:inR (j:Int) cells.length=true:=Q6 hj;have b3:eqN 0 0=true:=rfl;have b4:eqN (cells.take j).length j=true:=(by simp[eqN];omega);have b5:Ql (j+1) 24=true:=room (by omega);have b6:IntKind.i64.wrap ((j:Int)+1)=((j+1:Nat):Int):=suc (by omega);have b7:cells.take (j+1)=cells.take j++[cells[j]]:=take_one hj;have b8:(bif bif E j==0 then (cells[j].length:Int) !=rc else false then 8 else E j)=E (j+1):=by
    simp only[E]
    cases he:(enc==0) with
    |false=>simp only[AA,he]
    |true=>
     unfold anyLen;rw[b7,List.any_append,List.any_cons,List.any_nil,Bool.or_false]
     cases (cells.take j).any (λl=>(l.length:Int) !=rc) with
     |true=>rfl
     |false=>simp only[AA,A7,he,Bool.false_or]
   simp only[S];unfold M15.s1;simp only[A8,hr,hp,b1,b2,hro,b3,b4,b5,b6,b8,bindO,AY,A7,AA];rw[<-b7])
  (λj hj hp=>by
   have hp:decide (((cells[j]?.getD []).length:Int)>50)=true:=hp;have b1:decide ((j:Int)<(cells.length:Int))=true:=A5 (by omega);have b2:inR (j:Int) cells.length=true:=Q6 hj;simp only[S];unfold M15.s1;simp only[A8,hp,b1,b2,lives59,bindO,A7])
  (by
   have b1:decide ((cells.length:Int)<(cells.length:Int))=false:=A6 (by omega);simp only[S];unfold M15.s1;have b2:(leB (0+cells.length) cells.length&&true&&true)=true:=(by simp[leB]);have b3:List.take cells.length (List.drop 0 cells)=cells:=(by rw[An,Bj]);simp only[b1,AA,E,Bj,b2,b3,A7])
 rw[fnd_any cells [] (λl=>decide ((l.length:Int)>50))]at key;have e0:S 0=⟨cells,check,valid,step,expand,enc,period,false,0,0,0,rn,rt,rph,rc,rs,rl,ln,lt,pc,dn,dt,lo,len,dc,[]⟩:=by have e1:E 0=enc:=(by simp only[E,List.take_zero];cases (enc==0)<;>rfl);simp only[S,e1,List.take_zero];rfl
 rw[e0]at key;exact key
end Sf
namespace Sf
open Gf
theorem per_any{N t s:Nat}(hv:Vd N t)(hs:s<2^N)(l:Int):∃k e,M55.m ⟨N,t,s,l⟩=some (k,e)/\(e=(bif decide (l<0) then 1 else 0)\/((bif decide (l<0) then (1:Int) else 0)=0/\e=3))/\(e=0\/k=0):=by
 unfold M55.m;have a3:decide (0<=(N:Int))=true:=A5 (by omega);simp only[begin91 hv hs,bindO,a3,A7];by_cases h1:l<0
 ·refine⟨0,1,?_,.inl ?_,.inr rfl⟩
  ·simp only[A5 h1];rfl
  ·simp only[A5 h1];rfl
 ·by_cases h2:1048576<l
  ·refine⟨0,3,?_,.inr ⟨?_,rfl⟩,.inr rfl⟩
   ·simp only[A6 h1,A5 h2];rfl
   ·simp only[A6 h1];rfl
  ·simp only[A6 h1,A6 h2,AA];unfold M55.res
   cases decide (l<(firstP l (M61.st N t s) s:Int)) with
   |true=>exact⟨0,3,rfl,by simp,.inr rfl⟩
   |false=>exact⟨_,0,rfl,by simp,.inl rfl⟩
def v1(N:Nat)(P:List Nat):Int:=bif decide ((P.length:Int)>64) then 3 else bif wideM N P then 1 else 0
def v2(N:Nat)(P:List Nat)(c:Int):Int:=bif bif v1 N P==0 then decide (c<0) else false then 1 else v1 N P
theorem v3_eq(N:Nat)(P:List Nat)(c:Int):(bif bif bif v2 N P c==0 then decide ((P.length:Int)>0) else false then decide (c>IntKind.i64.wrap (Int.tdiv 4096 (P.length:Int))) else false then 3 else v2 N P c)=vld N P c:=by
 unfold vld;by_cases h1:64<P.length
 ·have e1:v1 N P=3:=(by unfold v1;rw[A5 (by omega)];rfl);have e2:v2 N P c=3:=(by unfold v2;rw[e1];rfl);rw[e2,AB h1];rfl
 ·by_cases h2:wideM N P=true
  ·have e1:v1 N P=1:=(by unfold v1;rw[A6 (by omega),h2];rfl);have e2:v2 N P c=1:=(by unfold v2;rw[e1];rfl);rw[e2,AE h1,AB h2];rfl
  ·have h2':wideM N P=false:=(by simpa using h2);have e1:v1 N P=0:=(by unfold v1;rw[A6 (by omega),h2'];rfl);by_cases h3:c<0
   ·have e2:v2 N P c=1:=(by unfold v2;rw[e1,A5 h3];rfl);rw[e2,AE h1,AE h2,AB h3];rfl
   ·have e2:v2 N P c=0:=(by unfold v2;rw[e1,A6 h3];rfl);rw[e2,AE h1,AE h2,AE h3];by_cases hp:P=[]
    ·rw[AE (λh=>h.1 hp)];subst hp;rfl
    ·have hpos:0<P.length:=List.length_pos_iff.2 hp;have c4:IntKind.i64.wrap (Int.tdiv 4096 (P.length:Int))=((4096 / P.length:Nat):Int):=(by have e:Int.tdiv 4096 (P.length:Int)=((4096 / P.length:Nat):Int):=rfl;have:=Nat.div_le_self 4096 P.length;rw[e];generalize 4096 / P.length=q at this;exact w64 (by omega) (by omega));rw[c4,A5 (show(P.length:Int)>0 by omega)];by_cases h4:c>((4096 / P.length:Nat):Int)
     ·rw[AB ⟨hp,h4⟩,A5 h4];rfl
     ·rw[AE (λh=>h4 h.2),A6 h4];rfl
theorem enc_shp(P:List Nat)(c:Int)(L:List (List Int)):
  (bif bif (bif bif (bif (L.length:Int) !=(P.length:Int) then (8:Int) else 0)==0 then anyLen L c else false then (8:Int) else bif (L.length:Int) !=(P.length:Int) then (8:Int) else 0)==0 then anyBad L else false then (1:Int)
   else bif bif (bif (L.length:Int) !=(P.length:Int) then (8:Int) else 0)==0 then anyLen L c else false then (8:Int) else bif (L.length:Int) !=(P.length:Int) then (8:Int) else 0)=shp P c L:=by
 unfold shp;cases ((L.length:Int) !=(P.length:Int))<;>cases anyLen L c<;>cases anyBad L<;>rfl
theorem nz_len(P:List Int)(v:Int):(Go.Abs.nz (P.length:Int)||!bif v==0 then decide ((P.length:Int)>0) else false)=true:=by
 cases P with
 |nil=>cases (v==0)<;>rfl
 |cons a l=>have:Go.Abs.nz (((a::l).length:Nat):Int)=true:=(by unfold Go.Abs.nz;rw[At.2 (by simp;omega)];rfl);rw[this,Bd]
theorem kA_bad(cells:List (List Int)){n:Int}{t:Nat}(ph:List Int)(c s l:Int)(ht:t<2^64)(he:chk n t≠0)(hL:cells.length<=1000):
  M15.kA ⟨cells,chk n t,chk n t,n,t,ph,c,s,l,n,t,ph,n,t,0,ph.length,c⟩=some true:=by
 have hz:(chk n t==0)=false:=by simpa using he
 have hb:=beg_err s ht he;have h72:=err72 ph c ht he;unfold M15.kA;simp only[hz,AA,BB,CY,sumC,A7,bindO,loop15b cells _ _ _ _ _ _ _ _ _ _ _ _ _ _ _ _ _ _ _ _ hL]
 cases hany:cells.any (λl=>decide ((l.length:Int)>50)) with
 |true=>rfl
 |false=>
  simp only[AA,sumC];exact kB_ok (err58 hb he) (err69 3 hb he) (.inr ⟨rfl,rfl⟩) (err70 ht he) (.inr rfl) (err55 l hb he) (.inl rfl) (.inr rfl) (err61 s h72 he) (.inr rfl) (err65 h72 he) (.inr rfl) (err63o cells h72 he)
   (f:=chk n t) (by simp only[hz,AA]) (.inl rfl) (.inr rfl) (chk71 n ht) h72 rfl rfl
theorem kA_good(cells:List (List Int)){N t s:Nat}{P:List Nat}{c l:Int}(hv:Vd N t)(hs:s<2^64)(hP:∀p∈P,p<2^64)(hc:c<=9223372036854775807)(hL:cells.length<=1000)(hpos:∀r∈cells,∀v∈r,0<=v):
  M15.kA ⟨cells,0,v1 N P,N,t,ints P,c,s,l,N,t,ints P,N,t,0,(ints P).length,c⟩=some true:=by
 have h68:=beyond68 (n:=N) (x:=s) hv.hi hs;have h72:=vld72 hv hP c;have e2:(bif bif v1 N P==0 then decide (c<0) else false then 1 else v1 N P)=v2 N P c:=rfl;have e3:∀x:Int,(bif bif bif v2 N P c==0 then decide (((ints P).length:Int)>0) else false then decide (c>IntKind.i64.wrap (Int.tdiv 4096 ((ints P).length:Int))) else false then 3 else v2 N P c)=vld N P c:=λ_=>by rw[Q4];exact v3_eq N P c
 have e3:=e3 0;have y2:(bif vld N P c==0 then some (decide (2^N<=s)) else some false)=some (bif vld N P c==0 then decide (2^N<=s) else false):=by cases (vld N P c==0)<;>rfl
 have y3:(bif vld N P c==0 then bif vld N P c==0 then decide (2^N<=s) else false else false)=(bif vld N P c==0 then decide (2^N<=s) else false):=by cases (vld N P c==0)<;>rfl
 unfold M15.kA;simp only[Bq,A7,h68,e2,nz_len,e3,y2,bindO,y3,sumC,loop15b cells _ _ _ _ _ _ _ _ _ _ _ _ _ _ _ _ _ _ _ _ hL]
 cases hany:cells.any (λl=>decide ((l.length:Int)>50)) with
 |true=>rfl
 |false=>
  have h50:∀r∈cells,r.length<=50:=λr hr=>(by have:=List.any_eq_false.1 hany r hr;have:=of_decide_eq_false (Bool.eq_false_iff.2 this);omega);simp only[AA,sumC];have h70:=matrix70 hv;have h71:M71.m ⟨N,t⟩=some 0:=check71 hv
  -- the functions of a state
  obtain⟨s3,s4,k6,e6,h3,h4,z3,h6,g6,z6⟩:∃s3 s4 k6 e6:Int,M58.m ⟨N,t,s⟩=some (s3,bif decide (2^N<=s) then 1 else 0)/\M69.m ⟨N,t,s,3⟩=some (s4,bif decide (2^N<=s) then 1 else 0)/\((bif decide (2^N<=s) then (1:Int) else 0)=0\/(s3=0/\s4=0))/\
    M55.m ⟨N,t,s,l⟩=some (k6,e6)/\(e6=(bif bif (bif decide (2^N<=s) then (1:Int) else 0)==0 then decide (l<0) else false then 1 else bif decide (2^N<=s) then 1 else 0)\/((bif bif (bif decide (2^N<=s) then (1:Int) else 0)==0 then decide (l<0) else false then (1:Int) else bif decide (2^N<=s) then 1 else 0)=0/\e6=3))/\(e6=0\/k6=0):=by
   by_cases hw:2^N<=s
   ·have hb:=beg_wide hv hw hs;rw[A5 hw];exact⟨0,0,0,1,err58 hb (by decide),err69 3 hb (by decide),.inr ⟨rfl,rfl⟩,err55 l hb (by decide),.inl rfl,.inr rfl⟩
   ·obtain⟨k,e,h1,h2,h3⟩:=per_any hv (show s<2^N by omega) l;rw[A6 hw];refine⟨_,_,k,e,step58 hv (by omega),jump69 (k:=3) hv (by omega) (by decide),.inl rfl,h1,?_,h3⟩
    cases hl:decide (l<0) with
    |true=>rw[hl]at h2;exact h2
    |false=>rw[hl]at h2;exact h2
  by_cases hvz:vld N P c=0
  ·obtain⟨C,rfl,hd⟩:=vld_dc hv hc hvz;rw[hvz]at h72⊢;obtain⟨o7,h7,z7⟩:∃o7,M61.m ⟨N,t,ints P,C,s⟩=some (o7,bif decide (2^N<=s) then 1 else 0)/\((bif decide (2^N<=s) then (1:Int) else 0)=0\/o7=[]):=by
    by_cases hw:2^N<=s
    ·rw[A5 hw];exact⟨[],err61s h72 (beg_wide hv hw hs) (by decide),.inr rfl⟩
    ·rw[A6 hw];exact⟨_,exp61 hd (by omega),.inl rfl⟩
   have h96:=shp96 P (C:Int) cells (N:Int) (t:Int) hL (λr hr=>by have:=h50 r hr;omega);have hen:=enc_shp P (C:Int) cells;obtain⟨u9,e9,h9,g9,z9⟩:∃u9 e9:Int,M63o.m ⟨N,t,0,(ints P).length,C,cells,ints P⟩=some (u9,e9,ints P)/\(e9=shp P C cells\/(shp P C cells=0/\e9=9))/\(e9=0\/u9=0):=by
    by_cases hsz:shp P C cells=0
    ·rw[hsz]at h96⊢;have hcl:=shp_cl hsz hpos;rw[Q4];rcases enc63o hd hcl h96 with ⟨h1,_⟩|⟨u,_,h1,_⟩
     ·exact⟨0,9,h1,.inr ⟨rfl,rfl⟩,.inr rfl⟩
     ·exact⟨u,0,h1,.inl rfl,.inl rfl⟩
    ·exact⟨0,_,err63s h72 h96 hsz,.inl rfl,.inr rfl⟩
   rw[<-Q4 P]at hen;simp only[Bq,A7];exact kB_ok h3 h4 z3 h70 (.inl rfl) h6 g6 z6 h7 z7 (eqs65 hd) (.inl rfl) h9 (f:=shp P C cells) (by dsimp only;exact hen.symm) g9 z9 h71 h72 rfl (by rw[Q4])
  ·have hz:(vld N P c==0)=false:=(by simpa using hvz);simp only[hz,AA];exact kB_ok h3 h4 z3 h70 (.inl rfl) h6 g6 z6 (err61 s h72 hvz) (.inr rfl) (err65 h72 hvz) (.inr rfl) (err63o cells h72 hvz) (f:=vld N P c) (by simp only[hz,AA]) (.inl rfl) (.inr rfl) h71 h72 rfl rfl
theorem run15(n:Int)(t s:Nat)(P:List Nat)(c l:Int)(cells:List (List Int))(ht:t<2^64)(hs:s<2^64)(hP:∀p∈P,p<2^64)(hn: -9223372036854775808<=n/\n<=9223372036854775807)(hc:c<=9223372036854775807)(hpos:∀r∈cells,∀v∈r,0<=v):
  M15.m ⟨n,t,ints P,c,s,l,cells⟩=some true:=by
 unfold M15.m;simp only[lives59,bindO];by_cases hg:P.length<=70/\cells.length<=8
 ·have g1:decide (((ints P).length:Int)>70)=false:=A6 (by rw[Q4];omega);have g2:decide ((cells.length:Int)>8)=false:=A6 (by omega);have g3:Ql (ints P).length 8=true:=room (by rw[Q4];omega);simp only[g1,g2,g3,A7,AA];have key:(bif decide (n<1) then M15.kC ⟨n,t,ints P,c,s,l,cells⟩ 1 1
   else bif decide (n>64) then M15.kC ⟨n,t,ints P,c,s,l,cells⟩ 3 3
   else bindO (M68.m ⟨t,n⟩) λy=>(bif decide (0<=IntKind.i64.wrap (n - 1))||!!y then M15.kC ⟨n,t,ints P,c,s,l,cells⟩ (M15.chB ⟨n,t,ints P,c,s,l,cells⟩ y) (bif bif M15.chB ⟨n,t,ints P,c,s,l,cells⟩ y==0 then decide (((ints P).length:Int)>64) else false then 3 else M15.chB ⟨n,t,ints P,c,s,l,cells⟩ y) else none))=some true:=by
   have bad:∀v,chk n t=v->v≠0->M15.kC ⟨n,t,ints P,c,s,l,cells⟩ v v=some true:=λv h0 he=>(by subst h0;unfold M15.kC;simp only[loop15e _ _ _ _ _ _ _ _ _ he,bindO];exact kA_bad cells (ints P) c s l ht he (by omega));by_cases h1:n<1
   ·rw[A5 h1];exact bad 1 (by unfold chk;rw[AB h1]) (by decide)
   ·by_cases h2:n>64
    ·rw[A6 h1,A5 h2];exact bad 3 (by unfold chk;rw[AE h1,AB h2]) (by decide)
    ·rw[A6 h1,A6 h2];obtain⟨N,rfl⟩:=AH (show 0<=n by omega);have hN:1<=N/\N<=64:=(by omega);have a4:IntKind.i64.wrap ((N:Int) - 1)=((N - 1:Nat):Int):=(by rw[w64 (by omega) (by omega)];omega);have a5:decide (0<=((N - 1:Nat):Int))=true:=A5 (by omega);have hch:M15.chB ⟨N,t,ints P,c,s,l,cells⟩ (decide (2^N<=t))=chk N t:=(by unfold M15.chB;simp only[a4,A8,low_bits hN];exact chk_run hN);simp only[AA,bindO,beyond68 hN.2 ht,a4,a5,Bd,A7,hch];by_cases h0:chk N t=0
     ·obtain⟨N',hN',hv⟩:=chk_zero h0;have:N=N':=(by omega);subst this;rw[h0];have e64:(bif bif (0:Int)==0 then decide (((ints P).length:Int)>64) else false then (3:Int) else 0)=bif decide ((P.length:Int)>64) then 3 else 0:=by rw[Q4];rfl
      rw[e64];unfold M15.kC;by_cases h64:(P.length:Int)>64
      ·have e1:v1 N P=3:=(by unfold v1;rw[A5 h64];rfl);rw[A5 h64];simp only[A7,loop15e _ _ _ _ _ _ _ _ _ (show(3:Int)≠0 by decide),bindO];have:=kA_good cells (c:=c) (l:=l) hv hs hP hc (by omega) hpos;rw[e1]at this;exact this
      ·have e1:v1 N P=bif wideM N P then 1 else 0:=by unfold v1;rw[A6 h64];rfl
       rw[A6 h64];have hlo:=loop15a cells 0 c s l (t:Int) hN.2 hP (by omega) P.length 0 (by omega);rw[fnd_any P 0 (λp=>decide (2^N<=p))]at hlo;have hlo:iter M15.s0 ⟨cells,0,0,0,(N:Int),t,ints P,c,s,l,(N:Int),t,ints P,(N:Int),t,0,(ints P).length,c⟩=some ⟨cells,0,bif wideM N P then 1 else 0,(N:Int),t,ints P,c,s,l,(N:Int),t,ints P,(N:Int),t,0,(ints P).length,c⟩:=hlo;simp only[AA,hlo,bindO];have:=kA_good cells (c:=c) (l:=l) hv hs hP hc (by omega) hpos;rw[e1]at this;exact this
     ·have hz:(chk N t==0)=false:=(by simpa using h0);simp only[hz,AA];exact bad _ rfl h0
  cases (bif bif decide (c>40) then decide (c<=4096) else false then true else bif decide (l>300) then decide (l<=1048576) else false) with
  |true=>rfl
  |false=>simp only[AA];simp only[bindO]at key;exact key
 ·have:(bif bif decide (((ints P).length:Int)>70) then true else decide ((cells.length:Int)>8) then true else bif decide (c>40) then decide (c<=4096) else false)=true:=by
   by_cases h:P.length<=70
   ·have h2:¬cells.length<=8:=λh2=>hg ⟨h,h2⟩;rw[A6 (show¬((ints P).length:Int)>70 by rw[Q4];omega),A5 (show(cells.length:Int)>8 by omega)];rfl
   ·rw[A5 (show((ints P).length:Int)>70 by rw[Q4];omega)];rfl
  simp only[this,A7]
theorem run15'{n t c s l:Int}{ph:List Int}{cells:List (List Int)}(hn: -9223372036854775808<=n/\n<=9223372036854775807)(ht:0<=t/\t<18446744073709551616)(hp:∀p∈ph,0<=p/\p<18446744073709551616)(hc: -9223372036854775808<=c/\c<=9223372036854775807)(hs:0<=s/\s<18446744073709551616)(hpos:∀r∈cells,∀v∈r,0<=v/\v<256):
  M15.m ⟨n,t,ph,c,s,l,cells⟩=some true:=by
 obtain⟨t,rfl⟩:=AH ht.1;obtain⟨s,rfl⟩:=AH hs.1;obtain⟨Q,rfl,hQ⟩:=ints_of hp;exact run15 n t s Q c l cells (by omega) (by omega) hQ hn hc.2 λr hr v hv=>(hpos r hr v hv).1
end Sf
