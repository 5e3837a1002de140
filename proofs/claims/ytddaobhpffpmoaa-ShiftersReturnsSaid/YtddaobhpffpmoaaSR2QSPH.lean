/-
  Shifters: the law Returns.
-/
import Derived.Test.YtddaobhpffpmoaaSR2QSPG
import Derived.Test.YtddaobhpffpmoaaSR2QGS8
set_option linter.all false
namespace Go.Proofs.Ytddaobhpffpmoaa
open Go.Abs
namespace Sf
open Gf
theorem top_bit{n T:Nat}(h:Vd n T):bz T (n - 1)=true:=by
 show T.testBit (n - 1)=true
 have h1:=h.top
 have h2:=h.bot
 have h3:=h.lo
 have e:2^n=2*2^(n - 1):=by
  rw[←Nat.pow_succ']
  congr 1
  omega
 rw[Nat.testBit_eq_decide_div_mod_eq]
 have hpos:=Nat.two_pow_pos (n - 1)
 have:T / 2^(n - 1)=1:=by
  apply Nat.div_eq_of_lt_le
  ·omega
  ·omega
 rw[this];rfl
theorem sb_zero{n T:Nat}(h:Vd n T){x:Bits}(hx:Sup n x)(h0:sb n (bz T) x=fun _=>false):x=fun _=>false:=by
 have h1:=h.lo
 have h2:=h.hi
 have lo:∀i,i<n - 1→x i=false:=fun i hi=>by
  have:=congrFun h0 (i+1)
  unfold sb at this
  rw[decide_eq_true (by omega),if_neg (by omega),Bool.true_and]at this
  exact this
 have top:x (n - 1)=false:=by
  have:=congrFun h0 0
  unfold sb at this
  rw[decide_eq_true (by omega),if_pos rfl,Bool.true_and]at this
  rw[dot_one (j:=n - 1) (fun i hi hne=>by
   by_cases hl:i<n - 1
   ·rw[lo i hl,Bool.false_and]
   ·rw[hx i (by omega),Bool.false_and]),decide_eq_true (by omega),top_bit h,Bool.and_true,Bool.true_and]at this
  exact this
 funext i
 by_cases hl:i<n - 1
 ·exact lo i hl
 ·by_cases e:i=n - 1
  ·rw[e];exact top
  ·exact hx i (by omega)
theorem nx_inj{n T:Nat}(h:Vd n T){a b:Nat}(ha:a<2^n)(hb:b<2^n)(he:nx n T a=nx n T b):a=b:=by
 have h1:nx n T (a^^^b)=0:=by rw[nx_xor h.hi,he,Nat.xor_self]
 have h2:sb n (bz T) (bz (a^^^b))=fun _=>false:=by
  rw[←bz_nx h.hi,h1]
  funext i
  show(0:Nat).testBit i=false
  simp
 have h3:=sb_zero h (tb_sup (Nat.xor_lt_two_pow ha hb)) h2
 have h4:a^^^b=0:=bz_inj (Eq.trans h3 (funext fun i=>by show false=(0:Nat).testBit i;simp))
 have h5:a^^^b^^^b=0^^^b:=by rw[h4]
 rwa [Nat.xor_assoc,Nat.xor_self,Nat.xor_zero,Nat.zero_xor]at h5
theorem nk_inj{n T:Nat}(h:Vd n T){a b:Nat}(ha:a<2^n)(hb:b<2^n)(k:Nat):nk n T k a=nk n T k b→a=b:=by
 induction k with
 |zero=>exact id
 |succ k ih=>exact fun he=>ih (nx_inj h (nk_lt h.hi ha) (nk_lt h.hi hb) he)
structure Per(n T a k:Nat):Prop where
 pos:1≤k
 ret:nk n T k a=a
 min:∀i,1≤i→i<k→nk n T i a≠a
theorem some_ret{n T:Nat}(h:Vd n T){a:Nat}(ha:a<2^n):∃k,1≤k∧k≤2^n∧nk n T k a=a:=by
 apply Classical.byContradiction
 intro hno
 have hne:∀k,1≤k→k≤2^n→nk n T k a≠a:=fun k h1 h2 h3=>hno ⟨k,h1,h2,h3⟩
 have inj:∀i j,i<j→j≤2^n→nk n T i a≠nk n T j a:=fun i j hij hj he=>by
  have e:nk n T j a=nk n T i (nk n T (j - i) a):=by rw[nk_add,Nat.sub_add_cancel (by omega)]
  rw[e]at he
  exact hne (j - i) (by omega) (by omega) (nk_inj h ha (nk_lt h.hi ha) i he).symm
 have hnd:((List.range (2^n+1)).map fun k=>nk n T k a).Nodup:=by
  rw[List.nodup_iff_pairwise_ne,List.pairwise_map]
  refine(List.pairwise_lt_range (n:=2^n+1)).imp_of_mem fun{i j} hi hj hij=> ?_
  exact inj i j hij (by have:=List.mem_range.1 hj;omega)
 have:=nodup_le hnd (k:=List.range (2^n)) fun x hx=>by
  obtain⟨k,_,rfl⟩:=List.mem_map.1 hx
  exact List.mem_range.2 (nk_lt h.hi ha)
 rw[List.length_map,List.length_range,List.length_range]at this
 omega
theorem least{p:Nat→Prop}:∀k,p k→∃m,m≤k∧p m∧∀i,i<m→¬p i:=by
 intro k
 induction k using Nat.strongRecOn with
 |_ k ih=>
  intro hk
  by_cases h:∃i,i<k∧p i
  ·obtain⟨i,h1,h2⟩:=h
   obtain⟨m,h3,h4,h5⟩:=ih i h1 h2
   exact⟨m,by omega,h4,h5⟩
  ·exact⟨k,Nat.le_refl _,hk,fun i hi hp=>h ⟨i,hi,hp⟩⟩
theorem per_ex{n T:Nat}(h:Vd n T){a:Nat}(ha:a<2^n):∃k,Per n T a k∧k≤2^n:=by
 obtain⟨k,h1,h2,h3⟩:=some_ret h ha
 obtain⟨m,h4,⟨h5,h6⟩,h7⟩:=least (p:=fun k=>1≤k∧nk n T k a=a) k ⟨h1,h3⟩
 exact⟨m,⟨h5,h6,fun i hi hm he=>h7 i hm ⟨hi,he⟩⟩,by omega⟩
theorem per_next{n T:Nat}(h:Vd n T){a k:Nat}(ha:a<2^n)(hp:Per n T a k):Per n T (nx n T a) k:=by
 have hc:∀i,nk n T i (nx n T a)=nx n T (nk n T i a):=fun i=>by
  show nk n T i (nk n T 1 a)=nk n T (i+1) a
  rw[nk_add,Nat.add_comm]
 refine⟨hp.pos,by rw[hc,hp.ret],fun i h1 h2 he=> ?_⟩
 rw[hc]at he
 exact hp.min i h1 h2 (nx_inj h (nk_lt h.hi ha) ha he)
theorem per55{n T:Nat}(h:Vd n T){a k l:Nat}(ha:a<2^n)(hp:Per n T a k)(hl:l≤1048576):M55.m ⟨n,T,a,l⟩=some (if k≤l then ((k:Int),0) else (0,3)):=by
 have a1:decide ((l:Int)<0)=false:=decide_eq_false (by omega)
 have a2:decide ((1048576:Int)<(l:Int))=false:=decide_eq_false (by omega)
 have a3:decide (0≤(n:Int))=true:=decide_eq_true (by omega)
 unfold M55.m
 simp only[begin91 h ha,bindO,a1,a2,a3,cond_true,cond_false]
 show some (M55.res ⟨n,T,a,l⟩)=_
 unfold M55.res
 obtain⟨f1,f2,f3⟩:=firstP_spec (lim:=(l:Int)) (by omega) (M61.st n T a) (a:Int)
 show some (bif decide ((l:Int)<(firstP l (M61.st n T a) a:Int)) then ((0:Int),(3:Int)) else ((firstP l (M61.st n T a) a:Int),0))=_
 generalize firstP (l:Int) (M61.st n T a) (a:Int)=M at f1 f2 f3⊢
 have st:∀i,(M61.st n T a i==(a:Int))=decide (nk n T i a=a):=fun i=>by
  rw[st_nk h ha]
  by_cases e:nk n T i a=a
  ·rw[decide_eq_true e,e];simp
  ·rw[decide_eq_false e,beq_eq_false_iff_ne];omega
 have sp:∀i,stopP (l:Int) (M61.st n T a) (a:Int) i=true↔(l<i∨(1≤i∧nk n T i a=a)):=fun i=>by
  unfold stopP
  rw[st,Bool.or_eq_true,Bool.and_eq_true,decide_eq_true_eq,decide_eq_true_eq,decide_eq_true_eq]
  omega
 have f1:=(sp M).1 f1
 have f2:∀j,j<M→¬(l<j∨(1≤j∧nk n T j a=a)):=fun j hj hh=>by
  have h1:=f2 j hj
  rw[(sp j).2 hh]at h1;cases h1
 by_cases hkl:k≤l
 ·have h1:M≤k:=by
   rcases Nat.lt_or_ge k M with h|h
   ·exact absurd (.inr ⟨hp.pos,hp.ret⟩) (f2 k h)
   ·exact h
  have h2:M=k:=by
   rcases f1 with h3|⟨h3,h4⟩
   ·omega
   ·rcases Nat.lt_or_ge M k with h5|h5
    ·exact absurd h4 (hp.min M h3 h5)
    ·omega
  subst h2
  rw[if_pos hkl,decide_eq_false (show¬(l:Int)<M by omega)];rfl
 ·have h1:l<M:=by
   rcases f1 with h3|⟨h3,h4⟩
   ·exact h3
   ·rcases Nat.lt_or_ge M k with h5|h5
    ·exact absurd h4 (hp.min M h3 h5)
    ·omega
  rw[if_neg hkl,decide_eq_true (show(l:Int)<M by omega)];rfl
theorem pow_i{n:Nat}(hn:n<60):IntKind.i64.wrap (1*2^min n 64)=((2^n:Nat):Int):=by
 have h:2^n<2^60:=Nat.pow_lt_pow_right (by omega) hn
 rw[Nat.min_eq_left (by omega),pow_int,Int.one_mul]
 generalize 2^n=q at h
 exact w64 (by omega) (by omega)
theorem pow_i2{n:Nat}(hn:n<60):IntKind.i64.wrap (2*2^min n 64)=((2^(n+1):Nat):Int):=by
 have h:2^n<2^60:=Nat.pow_lt_pow_right (by omega) hn
 rw[Nat.min_eq_left (by omega),pow_int,Nat.pow_succ]
 generalize 2^n=q at h
 rw[w64 (by omega) (by omega)];omega
theorem run11(n t sa sb l:Nat)(hl:l<65536):M11.m ⟨n,t,sa,sb,l⟩=some true:=by
 have hn8:=Nat.mod_lt n (show 0<8 by omega)
 have e0:(n:Int).tmod 8=((n%8:Nat):Int):=rfl
 have h54:=of54 (n%8) t
 have hN:1≤1+n%8%16∧1+n%8%16≤64:=by have:=Nat.mod_lt (n%8) (show 0<16 by omega);omega
 have hN8:1+n%8%16≤8:=by omega
 have hv:=Lt_vd (t:=t) hN
 generalize 1+n%8%16=N at*
 generalize Lt N t=T at*
 have hpos:=Nat.two_pow_pos N
 have hp8:2^N≤2^8:=Nat.pow_le_pow_right (by omega) hN8
 have hpu:=pow_u (n:=N) (by omega)
 have hpi:=pow_i (n:=N) (by omega)
 have hpi2:=pow_i2 (n:=N) (by omega)
 have ha:sa%2^N<2^N:=Nat.mod_lt _ hpos
 have hb:sb%2^N<2^N:=Nat.mod_lt _ hpos
 have h2:=pow_le hN.2
 have a1:decide (0≤(N:Int))=true:=decide_eq_true (by omega)
 obtain⟨k,hp,hk⟩:=per_ex hv ha
 have hk1:=hp.pos
 have p1:M55.m ⟨(N:Int),(T:Int),((sa%2^N:Nat):Int),((2^N:Nat):Int)⟩=some ((k:Int),0):=by rw[per55 hv ha hp (by omega),if_pos hk]
 have a2:decide ((k:Int)<1)=false:=decide_eq_false (by omega)
 have a3:decide ((k:Int)>((2^N:Nat):Int))=false:=decide_eq_false (by omega)
 have f1:M56.m ⟨(N:Int),(T:Int),((sa%2^N:Nat):Int),(k:Int)⟩=some ((sa%2^N:Nat):Int):=by rw[after56 hN hv.T64 ha (by omega),hp.ret]
 have n1:=next57 (n:=N) (T:=T) (s:=sa%2^N) hN hv.T64 (Nat.lt_of_lt_of_le ha h2)
 have hna:=nx_lt (T:=T) (s:=sa%2^N) hN.2
 have p2:M55.m ⟨(N:Int),(T:Int),((nx N T (sa%2^N):Nat):Int),((2^N:Nat):Int)⟩=some ((k:Int),0):=by rw[per55 hv hna (per_next hv ha hp) (by omega),if_pos hk]
 have wl:IntKind.i64.wrap (l:Int)=(l:Int):=w64 (by omega) (by omega)
 have hml:=Nat.mod_lt l (Nat.two_pow_pos (N+1))
 have hp9:2^(N+1)≤2^9:=Nat.pow_le_pow_right (by omega) (by omega)
 have p3:=per55 (l:=l%2^(N+1)) hv ha hp (by omega)
 have per0:Per N T 0 1:=⟨Nat.le_refl _,bz_inj (by
  show bz (nx N T 0)=_
  rw[bz_nx hN.2]
  have:bz 0=fun _=>false:=by funext i;show(0:Nat).testBit i=false;simp
  rw[this,sb_no]),fun i h1 h2=>by omega⟩
 have p4:M55.m ⟨(N:Int),(T:Int),0,1⟩=some (1,0):=per55 (a:=0) (l:=1) hv hpos per0 (by omega)
 have s1:=step58 hv ha
 have s2:=step58 hv hb
 have inj:(((nx N T (sa%2^N):Nat):Int)==((nx N T (sb%2^N):Nat):Int))=(((sa%2^N:Nat):Int)==((sb%2^N:Nat):Int)):=by
  by_cases e:sa%2^N=sb%2^N
  ·rw[e];simp
  ·have:nx N T (sa%2^N)≠nx N T (sb%2^N):=fun h=>e (nx_inj hv ha hb h)
   rw[beq_eq_false_iff_ne.2 (by omega),beq_eq_false_iff_ne.2 (by omega)]
 have hi:iter M11.s0 ⟨(l:Int),((sa%2^N:Nat):Int),((sb%2^N:Nat):Int),(k:Int),((nx N T (sa%2^N):Nat):Int),1,(N:Int),(T:Int)⟩=some (.inl ⟨(l:Int),((sa%2^N:Nat):Int),((sb%2^N:Nat):Int),(k:Int),(N:Int),(T:Int)⟩):=by
  have:=iter_up (step:=M11.s0) (fun i=>(⟨(l:Int),((sa%2^N:Nat):Int),((sb%2^N:Nat):Int),(k:Int),((nk N T (i+1) (sa%2^N):Nat):Int),((i+1:Nat):Int),(N:Int),(T:Int)⟩:M11.p0X)) (k - 1) (y:=.inl ⟨(l:Int),((sa%2^N:Nat):Int),((sb%2^N:Nat):Int),(k:Int),(N:Int),(T:Int)⟩) (fun i hi=> ?_) ?_
  ·exact this
  ·unfold M11.s0
   have b1:decide (((i+1:Nat):Int)<(k:Int))=true:=decide_eq_true (by omega)
   have b2:(((nk N T (i+1) (sa%2^N):Nat):Int)==((sa%2^N:Nat):Int))=false:=by
    have:=hp.min (i+1) (by omega) (by omega)
    rw[beq_eq_false_iff_ne];omega
   have b3:=next57 (n:=N) (T:=T) (s:=nk N T (i+1) (sa%2^N)) hN hv.T64 (Nat.lt_of_lt_of_le (nk_lt hN.2 ha) h2)
   have b4:IntKind.i64.wrap (((i+1:Nat):Int)+1)=((i+1+1:Nat):Int):=suc (by omega)
   simp only[b1,b2,b3,b4,bindO,cond_true,cond_false]
   rfl
  ·unfold M11.s0
   have b1:decide (((k - 1+1:Nat):Int)<(k:Int))=false:=decide_eq_false (by omega)
   simp only[b1,cond_false]
 unfold M11.m
 simp only[e0,h54,bindO,a1,Int.toNat_natCast,hpu,hpi,nz_pow,cond_true,tmod_nat,p1,Gf.nz,a2,a3,f1,n1,hi,sumC,p2,hpi2,wl,p3,p4,s1,s2,inj,lives59,neq_self,cond_false,Bool.not_false,beq_self_eq_true,Bool.not_true,Bool.true_or]
 by_cases hkl:k≤l%2^(N+1)
 ·have b1:decide ((k:Int)≤((l%2^(N+1):Nat):Int))=true:=decide_eq_true (by omega)
  simp only[if_pos hkl,b1,beq_self_eq_true,neq_self,Gf.nz,cond_true,cond_false,Bool.not_true]
 ·have b1:decide ((k:Int)≤((l%2^(N+1):Nat):Int))=false:=decide_eq_false (by omega)
  simp only[if_neg hkl,b1]
  rfl
theorem run11'{n t sa sb l:Int}(hn:0≤n∧n<256)(ht:0≤t∧t<18446744073709551616)(ha:0≤sa∧sa<18446744073709551616)(hb:0≤sb∧sb<18446744073709551616)(hl:0≤l∧l<65536):M11.m ⟨n,t,sa,sb,l⟩=some true:=by
 obtain⟨n,rfl⟩:=Int.eq_ofNat_of_zero_le hn.1
 obtain⟨t,rfl⟩:=Int.eq_ofNat_of_zero_le ht.1
 obtain⟨sa,rfl⟩:=Int.eq_ofNat_of_zero_le ha.1
 obtain⟨sb,rfl⟩:=Int.eq_ofNat_of_zero_le hb.1
 obtain⟨l,rfl⟩:=Int.eq_ofNat_of_zero_le hl.1
 exact run11 n t sa sb l (by omega)
end Sf
end Go.Proofs.Ytddaobhpffpmoaa
