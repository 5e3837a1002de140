/-
  What the proof stands on.
-/
import Derived.Test.YtddaobhpffpmoaaSR6QSp
import Derived.Test.YtddaobhpffpmoaaSR6QGu
set_option linter.all false
namespace Go.Proofs.Ytddaobhpffpmoaa
open Go.Abs
namespace Sf
open Gf
def sk(n:Nat)(t:Bits):Nat→Bits→Bits
 |0,x=>x
 |k+1,x=>sb n t (sk n t k x)
theorem sb_xr(n:Nat)(t a b:Bits):sb n t (xr a b)=xr (sb n t a) (sb n t b):=by
 funext i
 unfold sb
 show _=Bool.xor (decide (i<n)&&(if i=0 then dot 64 a t else a (i - 1))) (decide (i<n)&&(if i=0 then dot 64 b t else b (i - 1)))
 by_cases h:i<n
 ·simp only[decide_eq_true h,Bool.true_and]
  by_cases h0:i=0
  ·rw[if_pos h0,if_pos h0,if_pos h0,xr_dot]
  ·rw[if_neg h0,if_neg h0,if_neg h0];rfl
 ·simp only[decide_eq_false h,Bool.false_and];rfl
theorem sk_xr(n:Nat)(t a b:Bits):∀k,sk n t k (xr a b)=xr (sk n t k a) (sk n t k b)
 |0=>rfl
 |k+1=>by show sb n t (sk n t k (xr a b))=_;rw[sk_xr n t a b k,sb_xr];rfl
theorem sb_no(n:Nat)(t:Bits):sb n t (fun _=>false)=fun _=>false:=by
 funext i
 unfold sb
 by_cases h0:i=0
 ·rw[if_pos h0,no_dot,Bool.and_false]
 ·rw[if_neg h0,Bool.and_false]
theorem sk_no(n:Nat)(t:Bits):∀k,sk n t k (fun _=>false)=fun _=>false
 |0=>rfl
 |k+1=>by show sb n t (sk n t k _)=_;rw[sk_no n t k,sb_no]
theorem bz_nk{n T:Nat}(hn:n≤64)(s:Nat):∀k,bz (nk n T k s)=sk n (bz T) k (bz s)
 |0=>rfl
 |k+1=>by show bz (nx n T (nk n T k s))=sb n (bz T) (sk n (bz T) k (bz s));rw[bz_nx hn,bz_nk hn s k]
def fc(n:Nat)(t p:Bits)(k:Nat)(x:Bits):Bool:=dot 64 (sk n t k x) p
theorem fc_xr(n:Nat)(t p:Bits)(k:Nat)(a b:Bits):fc n t p k (xr a b)=Bool.xor (fc n t p k a) (fc n t p k b):=by unfold fc;rw[sk_xr,xr_dot]
theorem fc_no(n:Nat)(t p:Bits)(k:Nat):fc n t p k (fun _=>false)=false:=by unfold fc;rw[sk_no,no_dot]
theorem lin_dot{f:Bits→Bool}(hx:∀a b,f (xr a b)=Bool.xor (f a) (f b))(h0:f (fun _=>false)=false):∀(n:Nat) (x:Bits),Sup n x→f x=dot n (fun k=>f (un k)) x
 |0,x,h=>by
  have:x=fun _=>false:=by funext i;exact h i (Nat.zero_le _)
  rw[this,h0,dot_no]
 |n+1,x,h=>by
  have hy:Sup n (fun i=>decide (i<n)&&x i):=fun i hi=>by simp only[decide_eq_false (show¬i<n by omega),Bool.false_and]
  have hd:dot n (fun k=>f (un k)) (fun i=>decide (i<n)&&x i)=dot n (fun k=>f (un k)) x:=dot_congr fun i hi=>by rw[decide_eq_true hi,Bool.true_and]
  have ih:=lin_dot hx h0 n _ hy
  have hs:dot (n+1) (fun k=>f (un k)) x=Bool.xor (dot n (fun k=>f (un k)) x) (f (un n)&&x n):=by rw[dot_par,dot_par];rfl
  rw[hs,←hd,←ih]
  cases hxn:x n with
  |false=>
   rw[Bool.and_false,Bool.xor_false]
   congr 1
   funext i
   by_cases hi:i<n
   ·rw[decide_eq_true hi,Bool.true_and]
   ·rw[decide_eq_false hi,Bool.false_and]
    by_cases e:i=n
    ·rw[e,hxn]
    ·exact h i (by omega)
  |true=>
   rw[Bool.and_true,←hx]
   congr 1
   funext i
   show x i=Bool.xor (decide (i<n)&&x i) (i==n)
   by_cases hi:i<n
   ·rw[decide_eq_true hi,Bool.true_and,beq_eq_false_iff_ne.2 (show i≠n by omega),Bool.xor_false]
   ·rw[decide_eq_false hi,Bool.false_and]
    by_cases e:i=n
    ·subst e;rw[hxn];simp
    ·rw[beq_eq_false_iff_ne.2 e,h i (by omega)];rfl
theorem fc_dot(n:Nat)(t p:Bits)(k:Nat){x:Bits}(hx:Sup n x):fc n t p k x=dot n (fun i=>fc n t p k (un i)) x:=lin_dot (fc_xr n t p k) (fc_no n t p k) n x hx
theorem st_nk{n T s:Nat}(h:Vd n T)(hs:s<2^n):∀k,M61.st n T s k=((nk n T k s:Nat):Int)
 |0=>rfl
 |k+1=>by
  show M61.nx n T (M61.st n T s k)=_
  rw[st_nk h hs k]
  unfold M61.nx
  rw[next93 ⟨h.lo,h.hi⟩ h.T64 (Nat.lt_of_lt_of_le (nk_lt h.hi hs) (pow_le h.hi))]
  rfl
theorem pr_band{a b:Nat}(ha:a<2^64)(hb:b<2^64):M61.pr (band a b)=i01 (dot 64 (bz a) (bz b)):=by
 unfold band M61.pr
 rw[and_run ha hb,par110 (Nat.lt_of_le_of_lt Nat.and_le_left ha),pz_and]
 rfl
structure Dc(n T:Nat)(P:List Nat)(c:Nat):Prop where
 vd:Vd n T
 ph:∀p∈P,p<2^n
 len:P.length≤64
 cap:P≠[]→c≤4096 / P.length
 c64:c≤9223372036854775807
theorem ints_get(P:List Nat){j:Nat}(h:j<P.length):(ints P)[j]?.getD 0=((P[j]:Nat):Int):=by simp[ints,h]
theorem Dc.c4{n T:Nat}{P:List Nat}{c:Nat}(h:Dc n T P c)(hp:P≠[]):c≤4096:=Nat.le_trans (h.cap hp) (Nat.div_le_self _ _)
theorem Dc.all{n T:Nat}{P:List Nat}{c:Nat}(h:Dc n T P c):P.length*c≤4096:=by
 by_cases hp:P=[]
 ·subst hp;simp
 ·have:=Nat.mul_le_mul_left P.length (h.cap hp)
  exact Nat.le_trans this (Nat.mul_div_le _ _)
theorem valid72{n T:Nat}{P:List Nat}{c:Nat}(h:Dc n T P c):M72.m ⟨n,T,ints P,c⟩=some 0:=by
 unfold M72.m
 have hl:=h.len
 have hc:=h.c64
 have a1:decide (((ints P).length:Int)>64)=false:=decide_eq_false (by rw[ints_length];omega)
 have hi:iter M72.s0 ⟨ints P,((ints P).length:Int),((0:Nat):Int),n,T,ints P,c⟩=some (.inl ⟨n,T,ints P,c⟩):=by
  refine iter_up (fun i=>(⟨ints P,((ints P).length:Int),(i:Int),n,T,ints P,c⟩:M72.p0X)) P.length (fun i hi=> ?_) ?_
  ·unfold M72.s0
   have b1:decide ((i:Int)<((ints P).length:Int))=true:=decide_eq_true (by rw[ints_length];omega)
   have b2:inR (i:Int) (ints P).length=true:=inR_nat (by rw[ints_length];exact hi)
   have b3:M100.m ⟨(ints P)[(i:Int).toNat]?.getD 0,n⟩=some false:=by
    rw[Int.toNat_natCast,ints_get P hi]
    have hp:=h.ph _ (List.getElem_mem hi)
    rw[wide100 h.vd.hi (Nat.lt_of_lt_of_le hp (pow_le h.vd.hi)),decide_eq_false (by omega)]
   have b4:IntKind.i64.wrap ((i:Int)+1)=((i+1:Nat):Int):=suc (by omega)
   simp only[b1,b2,b3,b4,bindO,cond_true,cond_false]
  ·unfold M72.s0
   have b1:decide ((P.length:Int)<((ints P).length:Int))=false:=decide_eq_false (by rw[ints_length];omega)
   simp only[b1,cond_false]
 simp only[check71 h.vd,bindO,a1,cond_false]
 show bindO (iter M72.s0 ⟨ints P,((ints P).length:Int),((0:Nat):Int),n,T,ints P,c⟩) _=_
 rw[hi]
 have c1:decide ((c:Int)<0)=false:=decide_eq_false (by omega)
 simp only[bindO,sumC,c1,ints_length]
 by_cases hp:P=[]
 ·subst hp;rfl
 ·have hpos:0<P.length:=List.length_pos_iff.2 hp
  have c2:Go.Abs.nz (P.length:Int)=true:=by
   unfold Go.Abs.nz
   rw[beq_eq_false_iff_ne.2 (show(P.length:Int)≠0 by omega)];rfl
  have c3:decide ((P.length:Int)>0)=true:=decide_eq_true (by omega)
  have c4:IntKind.i64.wrap (Int.tdiv 4096 (P.length:Int))=((4096 / P.length:Nat):Int):=by
   have e:Int.tdiv 4096 (P.length:Int)=((4096 / P.length:Nat):Int):=rfl
   have:=Nat.div_le_self 4096 P.length
   rw[e]
   generalize 4096 / P.length=q at this
   exact w64 (by omega) (by omega)
  have c5:decide ((c:Int)>((4096 / P.length:Nat):Int))=false:=decide_eq_false (by have:=h.cap hp;omega)
  simp only[cond_false,c2,c3,c4,c5,Bool.true_or,cond_true]
def fb(n T:Nat)(P:List Nat)(c j i:Nat):Bits→Bool:=fc n (bz T) (bz (P[j]?.getD 0)) (c - 1 - i)
def cellsB(n T:Nat)(P:List Nat)(c s:Nat):List (List Int):=(List.range P.length).map fun j=>(List.range c).map fun i=>i01 (fb n T P c j i (bz s))
theorem u8_i01(b:Bool):IntKind.u8.wrap (i01 b)=i01 b:=by cases b<;>rfl
theorem exp61{n T:Nat}{P:List Nat}{c s:Nat}(h:Dc n T P c)(hs:s<2^n):M61.m ⟨n,T,ints P,c,s⟩=some (cellsB n T P c s,0):=by
 have hn:=h.vd.hi
 have hl:=h.len
 have hc:=h.c64
 have hok:M61.okE ⟨n,T,ints P,c,s⟩=true:=by
  have a1:decide (0≤(n:Int))=true:=decide_eq_true (by omega)
  have a2:(decide ((ints P)=[])||(decide (0≤(c:Int))&&decide ((c:Int)≤4096)))=true:=by
   by_cases hp:P=[]
   ·subst hp;rfl
   ·have:=h.c4 hp
    rw[decide_eq_true (show(0:Int)≤c by omega),decide_eq_true (show(c:Int)≤4096 by omega),Bool.and_self,Bool.or_true]
  have a3:decide ((ints P).length≤4096)=true:=decide_eq_true (by rw[ints_length];omega)
  have a4:decide (-9223372036854775808≤(c:Int))=true:=decide_eq_true (by omega)
  have a5:decide ((c:Int)≤9223372036854775807)=true:=decide_eq_true (by omega)
  simp only[M61.okE,a1,a2,a3,a4,a5,Bool.and_self]
 unfold M61.m
 simp only[valid72 h,begin91 h.vd hs,bindO,hok,cond_true]
 show some (M61.cells ⟨n,T,ints P,c,s⟩,(0:Int))=_
 unfold M61.cells cellsB
 rw[ints_length,Int.toNat_natCast]
 congr 2
 refine List.map_congr_left fun j hj=>List.map_congr_left fun i hi=> ?_
 have hj:=List.mem_range.1 hj
 unfold cellV
 have hk:=nk_lt (T:=T) hn (k:=c - 1 - i) hs
 have hp:=h.ph _ (List.getElem_mem hj)
 rw[st_nk h.vd hs,ints_get P hj,pr_band (Nat.lt_of_lt_of_le hk (pow_le hn)) (Nat.lt_of_lt_of_le hp (pow_le hn)),u8_i01,bz_nk hn]
 unfold fb fc
 rw[List.getElem?_eq_getElem hj];rfl
def Rr(n T:Nat)(P:List Nat)(c r:Nat):Bits:=fun k=>decide (k<n)&&fb n T P c (r / c) (r%c) (un k)
def Rq(n T:Nat)(P:List Nat)(c:Nat):List Bits:=(List.range (P.length*c)).map (Rr n T P c)
theorem Rq_length(n T:Nat)(P:List Nat)(c:Nat):(Rq n T P c).length=P.length*c:=by simp[Rq]
theorem Rr_sup(n T:Nat)(P:List Nat)(c r:Nat):Sup n (Rr n T P c r):=fun i hi=>by unfold Rr;rw[decide_eq_false (by omega)];rfl
theorem Rr_dot{n T:Nat}{P:List Nat}{c r:Nat}{x:Bits}(hx:Sup n x):dot n (Rr n T P c r) x=fb n T P c (r / c) (r%c) x:=by
 have e:dot n x (Rr n T P c r)=dot n x (fun i=>fb n T P c (r / c) (r%c) (un i)):=dot_congr fun i hi=>by unfold Rr;rw[decide_eq_true hi,Bool.true_and]
 rw[dot_comm,e,dot_comm]
 exact(fc_dot n _ _ _ hx).symm
theorem rowV_eq{n T:Nat}{P:List Nat}{c r:Nat}(h:Dc n T P c)(hr:r<P.length*c) (k:Nat):k≤n→rowV (M61.st n T) M61.pr (ints P) c k r=((nb (fun j=>decide (j<k)&&fb n T P c (r / c) (r%c) (un j)) 64:Nat):Int):=by
 induction k with
 |zero=>
  intro _
  have e:(fun j=>decide (j<0)&&fb n T P c (r / c) (r%c) (un j))=fun _=>false:=by funext j;simp
  rw[e]
  have:nb (fun _=>false) 64=0:=Nat.eq_of_testBit_eq fun i=>by rw[nb_bit];simp
  rw[this];rfl
 |succ k ih=>
  intro hk
  have hn:=h.vd.hi
  have hj:r / c<P.length:=Nat.div_lt_of_lt_mul (by rwa [Nat.mul_comm])
  have hp:=h.ph _ (List.getElem_mem hj)
  have hpk:2^k<2^n:=Nat.pow_lt_pow_right (by omega) (by omega)
  have hsk:=nk_lt (T:=T) hn (k:=c - 1 - r%c) hpk
  show bor (rowV (M61.st n T) M61.pr (ints P) c k r) (IntKind.u64.wrap (M61.pr (band (M61.st n T (IntKind.u64.wrap (1*2^min k 64)) (c - 1 - r%c)) ((ints P)[r / c]?.getD 0))*2^min k 64))=_
  rw[ih (by omega),pow_u (by omega),st_nk h.vd hpk,ints_get P hj,pr_band (Nat.lt_of_lt_of_le hsk (pow_le hn)) (Nat.lt_of_lt_of_le hp (pow_le hn)),bz_nk hn,bz_pow]
  have hfb:dot 64 (sk n (bz T) (c - 1 - r%c) (un k)) (bz P[r / c])=fb n T P c (r / c) (r%c) (un k):=by
   unfold fb fc
   rw[List.getElem?_eq_getElem hj];rfl
  rw[hfb]
  generalize fb n T P c (r / c) (r%c)=g
  have e1:IntKind.u64.wrap (i01 (g (un k))*2^min k 64)=(((g (un k)).toNat*2^k:Nat):Int):=by
   cases g (un k)
   ·show IntKind.u64.wrap (0*2^min k 64)=((0*2^k:Nat):Int)
    rw[Int.zero_mul,Nat.zero_mul];rfl
   ·show IntKind.u64.wrap (1*2^min k 64)=_
    rw[pow_u (by omega)];simp
  have hlt:(g (un k)).toNat*2^k<2^64:=by
   have:2^k<2^64:=Nat.pow_lt_pow_right (by omega) (by omega)
   cases g (un k)
   ·simp
   ·simpa using this
  rw[e1]
  unfold bor
  have key:(nb (fun j=>decide (j<k)&&g (un j)) 64|||(g (un k)).toNat*2^k)=nb (fun j=>decide (j<k+1)&&g (un j)) 64:=by
   refine Nat.eq_of_testBit_eq fun i=> ?_
   rw[Nat.testBit_or,nb_bit,nb_bit]
   have hb:((g (un k)).toNat*2^k).testBit i=(decide (i=k)&&g (un k)):=by
    cases g (un k)
    ·simp
    ·simp only[Bool.toNat_true,Nat.one_mul,Bool.and_true]
     rw[Nat.testBit_two_pow]
     congr 1
     exact propext ⟨Eq.symm,Eq.symm⟩
   rw[hb]
   by_cases e:i=k
   ·subst e
    simp[show i<64 by omega]
   ·have h2:decide (i<k+1)=decide (i<k):=by congr 1;apply propext;omega
    rw[h2,decide_eq_false e,Bool.false_and,Bool.or_false]
  rw[or_run (nb_lt _ _) hlt,key]
theorem eqs97{n T:Nat}{P:List Nat}{c:Nat}(h:Dc n T P c):M97.m ⟨n,T,ints P,c⟩=some ((n:Int),mr n (Rq n T P c)):=by
 have hn:1≤n∧n≤64:=⟨h.vd.lo,h.vd.hi⟩
 have hl:=h.len
 unfold M97.m
 by_cases hp:P=[]
 ·subst hp
  have:(Rq n T [] c)=[]:=by unfold Rq;simp
  rw[this];rfl
 ·have e:(ints P).isEmpty=false:=by
   cases P with
   |nil=>exact absurd rfl hp
   |cons a l=>rfl
  have hok:M97.okE ⟨n,T,ints P,c⟩=true:=by
   have hc:=h.c4 hp
   have a1:decide (1≤(n:Int))=true:=decide_eq_true (by omega)
   have a2:decide ((n:Int)≤64)=true:=decide_eq_true (by omega)
   have a3:decide (0≤(c:Int))=true:=decide_eq_true (by omega)
   have a4:decide ((c:Int)≤4096)=true:=decide_eq_true (by omega)
   have a5:decide ((ints P).length≤4096)=true:=decide_eq_true (by rw[ints_length];omega)
   simp only[M97.okE,a1,a2,a3,a4,a5,Bool.and_self]
  simp only[e,hok,cond_true,cond_false]
  congr 2
  unfold M97.rows mr Rq
  rw[ints_length,Int.toNat_natCast,List.map_map]
  refine List.map_congr_left fun r hr=> ?_
  have hr:=List.mem_range.1 hr
  show((n:Int),[rowV (M61.st n T) M61.pr (ints P) c (n:Int).toNat r])=((n:Int),vw n (Rr n T P c r))
  rw[Int.toNat_natCast,rowV_eq h hr n (Nat.le_refl _)]
  have hv:=vw1 hn (x:=nb (Rr n T P c r) 64) (nb_lt _ _)
  rw[show bz (nb (Rr n T P c r) 64)=Rr n T P c r from tb_nb 64 (sup_le (Rr_sup n T P c r) hn.2)]at hv
  rw[hv];rfl
end Sf
end Go.Proofs.Ytddaobhpffpmoaa
namespace Go.Proofs.Ytddaobhpffpmoaa
open Go.Abs
namespace Sf
open Gf
def cv(L:List (List Int))(c r:Nat):Int:=(L[r / c]?.getD [])[r%c]?.getD 0
structure Cl(P:List Nat)(c:Nat)(L:List (List Int)):Prop where
 len:L.length=P.length
 row:∀l∈L,l.length=c
 val:∀l∈L,∀v∈l,v=0∨v=1∨v=2
theorem Cl.at{P:List Nat}{c:Nat}{L:List (List Int)}(h:Cl P c L){r:Nat}(hr:r<P.length*c):cv L c r=0∨cv L c r=1∨cv L c r=2:=by
 have hc:0<c:=Nat.pos_of_ne_zero fun e=>by rw[e,Nat.mul_zero]at hr;omega
 have hj:r / c<L.length:=by rw[h.len];exact Nat.div_lt_of_lt_mul (by rwa [Nat.mul_comm])
 have hm:=List.getElem_mem hj
 have hi:r%c<L[r / c].length:=by rw[h.row _ hm];exact Nat.mod_lt _ hc
 unfold cv
 rw[List.getElem?_eq_getElem hj,Option.getD_some,List.getElem?_eq_getElem hi,Option.getD_some]
 exact h.val _ hm _ (List.getElem_mem hi)
theorem shape96{P:List Nat}{c:Nat}{L:List (List Int)}(h:Cl P c L)(hl:P.length≤64)(hc:c≤9000000000000)(n t:Int):M96.m ⟨n,t,ints P,c,L⟩=some 0:=by
 have hL:=h.len
 have i2:∀j,j<L.length→iter M96.s2 ⟨L,(L.length:Int),(j:Int),L[j]?.getD [],((L[j]?.getD []).length:Int),((0:Nat):Int)⟩=some (.inl ⟨L,(L.length:Int),(j:Int)⟩):=fun j hj=>by
  rw[List.getElem?_eq_getElem hj,Option.getD_some]
  have hm:=List.getElem_mem hj
  have hr:=h.row _ hm
  refine iter_up (fun i=>(⟨L,(L.length:Int),(j:Int),L[j],(L[j].length:Int),(i:Int)⟩:M96.p2X)) L[j].length (fun i hi=> ?_) ?_
  ·unfold M96.s2
   have b1:decide ((i:Int)<(L[j].length:Int))=true:=decide_eq_true (by omega)
   have b2:inR (i:Int) L[j].length=true:=inR_nat hi
   have b3:decide (L[j][(i:Int).toNat]?.getD 0>2)=false:=decide_eq_false (by
    rw[Int.toNat_natCast,List.getElem?_eq_getElem hi,Option.getD_some]
    have:=h.val _ hm _ (List.getElem_mem hi)
    omega)
   have b4:IntKind.i64.wrap ((i:Int)+1)=((i+1:Nat):Int):=suc (by omega)
   simp only[b1,b2,b3,b4,cond_true,cond_false]
  ·unfold M96.s2
   have b1:decide ((L[j].length:Int)<(L[j].length:Int))=false:=decide_eq_false (by omega)
   simp only[b1,cond_false]
 have i1:iter M96.s1 ⟨L,(L.length:Int),((0:Nat):Int)⟩=some (.inl PUnit.unit):=by
  refine iter_up (fun j=>(⟨L,(L.length:Int),(j:Int)⟩:M96.p1X)) L.length (fun j hj=> ?_) ?_
  ·unfold M96.s1
   have b1:decide ((j:Int)<(L.length:Int))=true:=decide_eq_true (by omega)
   have b2:inR (j:Int) L.length=true:=inR_nat hj
   have b4:IntKind.i64.wrap ((j:Int)+1)=((j+1:Nat):Int):=suc (by omega)
   have b5:=i2 j hj
   simp only[b1,b2,b4,Int.toNat_natCast,cond_true]
   show bindO (iter M96.s2 ⟨L,(L.length:Int),(j:Int),L[j]?.getD [],((L[j]?.getD []).length:Int),((0:Nat):Int)⟩) _=_
   rw[b5]
   simp only[bindO,sumC,b4]
  ·unfold M96.s1
   have b1:decide ((L.length:Int)<(L.length:Int))=false:=decide_eq_false (by omega)
   simp only[b1,cond_false]
 have i0:iter M96.s0 ⟨L,L,(L.length:Int),((0:Nat):Int),n,t,ints P,c⟩=some (.inl ⟨L⟩):=by
  refine iter_up (fun j=>(⟨L,L,(L.length:Int),(j:Int),n,t,ints P,c⟩:M96.p0X)) L.length (fun j hj=> ?_) ?_
  ·unfold M96.s0
   have b1:decide ((j:Int)<(L.length:Int))=true:=decide_eq_true (by omega)
   have b2:inR (j:Int) L.length=true:=inR_nat hj
   have b4:IntKind.i64.wrap ((j:Int)+1)=((j+1:Nat):Int):=suc (by omega)
   have b5:(((List.length (L[(j:Int).toNat]?.getD [])):Int) !=(c:Int))=false:=by
    rw[Int.toNat_natCast,List.getElem?_eq_getElem hj,Option.getD_some,h.row _ (List.getElem_mem hj)];simp
   simp only[b1,b2,b4,b5,cond_true,cond_false]
  ·unfold M96.s0
   have b1:decide ((L.length:Int)<(L.length:Int))=false:=decide_eq_false (by omega)
   simp only[b1,cond_false]
 unfold M96.m
 have a1:((L.length:Int) !=((ints P).length:Int))=false:=by rw[ints_length,hL];simp
 simp only[a1,cond_false]
 show bindO (iter M96.s0 ⟨L,L,(L.length:Int),((0:Nat):Int),n,t,ints P,c⟩) _=_
 rw[i0]
 have i1':iter M96.s1 ⟨L,(L.length:Int),0⟩=some (.inl PUnit.unit):=i1
 simp only[bindO,sumC,i1']
def sel(v:Nat→Int)(m:Nat):List Nat:=(List.range m).filter fun r=>v r !=2
theorem sel_succ(v:Nat→Int)(m:Nat):sel v (m+1)=if v m !=2 then sel v m++[m] else sel v m:=by
 unfold sel
 rw[List.range_succ,List.filter_append,List.filter_cons]
 split<;>simp
theorem sel_le(v:Nat→Int)(m:Nat):(sel v m).length≤m:=by
 unfold sel
 have:=List.length_filter_le (fun r=>v r !=2) (List.range m)
 rwa [List.length_range]at this
theorem mem_sel{v:Nat→Int}{m r:Nat}:r∈sel v m↔r<m∧v r≠2:=by
 unfold sel
 rw[List.mem_filter,List.mem_range]
 simp
section
variable {n T:Nat}{P:List Nat}{c:Nat}{L:List (List Int)}
def rsE(n T:Nat)(P:List Nat)(c:Nat)(L:List (List Int))(m:Nat):List (Int×List Int):=mr n ((sel (cv L c) m).map (Rr n T P c))
def sdE(c:Nat)(L:List (List Int))(m:Nat):List Int:=(sel (cv L c) m).map (cv L c)
theorem rsE_length(n T:Nat)(P:List Nat)(m:Nat):(rsE n T P c L m).length=(sel (cv L c) m).length:=by simp[rsE,mr_length]
theorem sdE_length(m:Nat):(sdE c L m).length=(sel (cv L c) m).length:=by simp[sdE]
theorem Rq_get{r:Nat}(hr:r<P.length*c):(mr n (Rq n T P c))[r]?.getD (0,[])=((n:Int),vw n (Rr n T P c r)):=by
 rw[mr_at' (by rw[Rq_length];exact hr)]
 simp[Rq]
theorem loop63(h:Dc n T P c)(hL:Cl P c L):
  iter M63.s0 ⟨0,0,L,(L.length:Int),((0:Nat):Int),n,T,ints P,c,n,mr n (Rq n T P c),n,0,0,[],[]⟩=
   some ⟨sdE c L (P.length*c),n,T,ints P,c,n,mr n (Rq n T P c),n,rsE n T P c L (P.length*c)⟩:=by
 have hall:=h.all
 have hl:=h.len
 have hlen:=hL.len
 let S1:Nat→Nat→M63.p1X:=fun j i=>⟨0,(sel (cv L c) (j*c+i)).length,L,(L.length:Int),(j:Int),(j:Int),L[j]?.getD [],(c:Int),(i:Int),n,T,ints P,c,n,mr n (Rq n T P c),n,0,(sel (cv L c) (j*c+i)).length,rsE n T P c L (j*c+i),sdE c L (j*c+i)⟩
 have inner:∀j,j<L.length→iter M63.s1 (S1 j 0)=some ⟨0,(sel (cv L c) ((j+1)*c)).length,L,(L.length:Int),(j:Int),n,T,ints P,c,n,mr n (Rq n T P c),n,0,(sel (cv L c) ((j+1)*c)).length,rsE n T P c L ((j+1)*c),sdE c L ((j+1)*c)⟩:=fun j hj=>by
  have hrow:(L[j]?.getD []).length=c:=by rw[List.getElem?_eq_getElem hj];exact hL.row _ (List.getElem_mem hj)
  refine iter_up (S1 j) c (fun i hi=> ?_) ?_
  ·have hr:j*c+i<P.length*c:=by
    have:=Nat.mul_le_mul_right c (show j+1≤P.length by omega)
    rw[Nat.add_mul]at this
    omega
   have hdv:=divmod (j:=j) hi
   have b1:decide ((i:Int)<(c:Int))=true:=decide_eq_true (by omega)
   have b2:inR (i:Int) (L[j]?.getD []).length=true:=inR_nat (by rw[hrow];exact hi)
   have b3:(L[j]?.getD [])[i]?.getD 0=cv L c (j*c+i):=by unfold cv;rw[hdv.1,hdv.2]
   have b4:IntKind.i64.wrap ((i:Int)+1)=((i+1:Nat):Int):=suc (by omega)
   have b5:IntKind.i64.wrap (IntKind.i64.wrap ((j:Int)*(c:Int))+(i:Int))=((j*c+i:Nat):Int):=by
    have e:(j:Int)*(c:Int)=((j*c:Nat):Int):=by simp
    rw[e,w64 (x:=((j*c:Nat):Int)) (by omega) (by omega),w64 (by omega) (by omega)];omega
   have b6:inR ((j*c+i:Nat):Int) (mr n (Rq n T P c)).length=true:=inR_nat (by rw[mr_length,Rq_length];exact hr)
   have hsl:=sel_le (cv L c) (j*c+i)
   have b7:eqN (rsE n T P c L (j*c+i)).length (sel (cv L c) (j*c+i)).length=true:=by simp[eqN,rsE_length]
   have b8:eqN (sdE c L (j*c+i)).length (sel (cv L c) (j*c+i)).length=true:=by simp[eqN,sdE_length]
   have b9:roomB ((sel (cv L c) (j*c+i)).length+1) 32=true:=room (by omega)
   have b10:roomB ((sel (cv L c) (j*c+i)).length+1) 1=true:=room (by omega)
   have b11:eqN 0 0=true:=rfl
   have b12:=Rq_get (n:=n) (T:=T) hr
   have hsucc:j*c+(i+1)=(j*c+i)+1:=by omega
   show M63.s1 (S1 j i)=some (.inl (S1 j (i+1)))
   simp only[S1,hsucc]
   unfold M63.s1
   by_cases hv:cv L c (j*c+i) !=2
   ·have e1:sel (cv L c) (j*c+i+1)=sel (cv L c) (j*c+i)++[j*c+i]:=by rw[sel_succ,if_pos hv]
    have e2:rsE n T P c L (j*c+i+1)=rsE n T P c L (j*c+i)++[((n:Int),vw n (Rr n T P c (j*c+i)))]:=by unfold rsE;rw[e1];simp[mr]
    have e3:sdE c L (j*c+i+1)=sdE c L (j*c+i)++[cv L c (j*c+i)]:=by unfold sdE;rw[e1];simp
    simp only[b1,b2,b3,b4,b5,b6,b7,b8,b9,b10,b11,hv,e1,e2,e3,Int.toNat_natCast,b12,Bool.and_self,cond_true,List.length_append,List.length_singleton]
   ·have hv:(cv L c (j*c+i) !=2)=false:=by simpa using hv
    have e1:sel (cv L c) (j*c+i+1)=sel (cv L c) (j*c+i):=by rw[sel_succ,hv];simp
    have e2:rsE n T P c L (j*c+i+1)=rsE n T P c L (j*c+i):=by unfold rsE;rw[e1]
    have e3:sdE c L (j*c+i+1)=sdE c L (j*c+i):=by unfold sdE;rw[e1]
    simp only[b1,b2,Int.toNat_natCast,b3,b4,hv,e1,e2,e3,cond_true,cond_false]
  ·have b1:decide ((c:Int)<(c:Int))=false:=decide_eq_false (by omega)
   have e:j*c+c=(j+1)*c:=by rw[Nat.add_mul,Nat.one_mul]
   simp only[S1,e]
   unfold M63.s1
   simp only[b1,cond_false]
 have zero:sel (cv L c) 0=[]:=rfl
 have:=iter_up (step:=M63.s0) (fun j=>(⟨0,(sel (cv L c) (j*c)).length,L,(L.length:Int),(j:Int),n,T,ints P,c,n,mr n (Rq n T P c),n,0,(sel (cv L c) (j*c)).length,rsE n T P c L (j*c),sdE c L (j*c)⟩:M63.p0X)) L.length
  (y:=⟨sdE c L (P.length*c),n,T,ints P,c,n,mr n (Rq n T P c),n,rsE n T P c L (P.length*c)⟩) (fun j hj=> ?_) ?_
 ·simp only[Nat.zero_mul]at this
  exact this
 ·have b1:decide ((j:Int)<(L.length:Int))=true:=decide_eq_true (by omega)
  have b2:inR (j:Int) L.length=true:=inR_nat hj
  have b4:IntKind.i64.wrap ((j:Int)+1)=((j+1:Nat):Int):=suc (by omega)
  have hrow:(L[j]?.getD []).length=c:=by rw[List.getElem?_eq_getElem hj];exact hL.row _ (List.getElem_mem hj)
  have hin:=inner j hj
  unfold M63.s0
  simp only[b1,b2,Int.toNat_natCast,hrow,cond_true]
  show bindO (iter M63.s1 (S1 j 0)) _=_
  rw[hin]
  simp only[bindO,b4]
 ·have b1:decide ((L.length:Int)<(L.length:Int))=false:=decide_eq_false (by omega)
  rw[hlen]
  have e1:leB (0+(sel (cv L c) (P.length*c)).length) (sdE c L (P.length*c)).length=true:=by simp[leB,sdE_length]
  have e2:leB (0+(sel (cv L c) (P.length*c)).length) (rsE n T P c L (P.length*c)).length=true:=by simp[leB,rsE_length]
  have e3:List.take (sel (cv L c) (P.length*c)).length (List.drop 0 (sdE c L (P.length*c)))=sdE c L (P.length*c):=by rw[List.drop_zero,List.take_of_length_le (by rw[sdE_length];omega)]
  have e4:List.take (sel (cv L c) (P.length*c)).length (List.drop 0 (rsE n T P c L (P.length*c)))=rsE n T P c L (P.length*c):=by rw[List.drop_zero,List.take_of_length_le (by rw[rsE_length];omega)]
  rw[hlen]at b1
  unfold M63.s0
  simp only[b1,e1,e2,e3,e4,Bool.and_self,cond_true,cond_false]
def Ins(n T:Nat)(P:List Nat)(c s:Nat)(L:List (List Int)):Prop:=∀r,r<P.length*c→cv L c r=2∨cv L c r=i01 (fb n T P c (r / c) (r%c) (bz s))
theorem ins_app(hL:Cl P c L){s:Nat}(hs:s<2^n):Ins n T P c s L↔app n ((sel (cv L c) (P.length*c)).map (Rr n T P c)) (bz s)=bt (sdE c L (P.length*c)):=by
 have key:∀r,r<P.length*c→cv L c r≠2→(cv L c r=i01 (fb n T P c (r / c) (r%c) (bz s))↔dot n (Rr n T P c r) (bz s)=(cv L c r==1)):=fun r hr hv=>by
  rw[Rr_dot (tb_sup hs)]
  rcases hL.at hr with h|h|h
  ·rw[h];cases fb n T P c (r / c) (r%c) (bz s)<;>simp[i01]
  ·rw[h];cases fb n T P c (r / c) (r%c) (bz s)<;>simp[i01]
  ·exact absurd h hv
 have hlen:((sel (cv L c) (P.length*c)).map (Rr n T P c)).length=(sdE c L (P.length*c)).length:=by simp[sdE]
 have at1:∀k (hk:k<(sel (cv L c) (P.length*c)).length),app n ((sel (cv L c) (P.length*c)).map (Rr n T P c)) (bz s) k=dot n (Rr n T P c (sel (cv L c) (P.length*c))[k]) (bz s):=fun k hk=>by
  rw[app_at _ (by simpa using hk)]
  simp
 have at2:∀k (hk:k<(sel (cv L c) (P.length*c)).length),bt (sdE c L (P.length*c)) k=(cv L c (sel (cv L c) (P.length*c))[k]==1):=fun k hk=>by
  unfold bt sdE
  rw[List.getElem?_map,List.getElem?_eq_getElem hk];rfl
 constructor
 ·intro h
  refine bits_eq (n:=(sdE c L (P.length*c)).length) (by have:=app_sup n ((sel (cv L c) (P.length*c)).map (Rr n T P c)) (bz s);rwa [hlen]at this) (bt_sup _) fun k hk=> ?_
  have hk:k<(sel (cv L c) (P.length*c)).length:=by rwa [sdE_length]at hk
  obtain⟨h1,h2⟩:=mem_sel.1 (List.getElem_mem hk)
  rw[at1 k hk,at2 k hk]
  exact(key _ h1 h2).1 ((h _ h1).resolve_left h2)
 ·intro h r hr
  by_cases hv:cv L c r=2
  ·exact .inl hv
  ·obtain⟨k,hk,rfl⟩:=List.getElem_of_mem (mem_sel.2 ⟨hr,hv⟩)
   refine .inr ((key _ hr hv).2 ?_)
   rw[←at1 k hk,←at2 k hk,h]
def rsR(n T:Nat)(P:List Nat)(c:Nat)(L:List (List Int)):List Bits:=(sel (cv L c) (P.length*c)).map (Rr n T P c)
def bsR(P:List Nat)(c:Nat)(L:List (List Int)):Bits:=bt (sdE c L (P.length*c))
def rdR(n T:Nat)(P:List Nat)(c:Nat)(L:List (List Int)):Gf.St:=rd (rsR n T P c L) (sd (bsR P c L) (rsR n T P c L).length) n
theorem enc_run(h:Dc n T P c)(hL:Cl P c L)(hc:c≤9000000000000):
  M63.m ⟨n,T,ints P,c,L⟩=some (if bad (rdR n T P c L).2.1 (rdR n T P c L).2.2.length (rsR n T P c L).length=true then (0,9) else (((nb (sol (rdR n T P c L).2.1 (rdR n T P c L).2.2) 64:Nat):Int),0)):=by
 have hn:1≤n∧n≤64:=⟨h.vd.lo,h.vd.hi⟩
 have hall:=h.all
 have hsl:=sel_le (cv L c) (P.length*c)
 have h01:B01 (sdE c L (P.length*c)):=fun x hx=>by
  unfold sdE at hx
  obtain⟨r,hr,rfl⟩:=List.mem_map.1 hx
  obtain⟨h1,h2⟩:=mem_sel.1 hr
  have:=hL.at h1
  omega
 have h52:=of52 (l:=sdE c L (P.length*c)) (by rw[sdE_length];omega) h01
 have hlen:(rsR n T P c L).length=(sdE c L (P.length*c)).length:=by simp[sdE,rsR]
 have sR:SupM n (rsR n T P c L):=fun b hb=>by
  obtain⟨r,_,rfl⟩:=List.mem_map.1 hb
  exact Rr_sup _ _ _ _ _
 have sb:Sup (rsR n T P c L).length (bsR P c L):=by rw[hlen];exact bt_sup _
 have h22:=solve22 (c:=n) (R:=rsR n T P c L) (b:=bsR P c L) (by omega) (by unfold rsR;rw[List.length_map];omega) sR sb
 have hM:M63.m ⟨n,T,ints P,c,L⟩=bindO (M22.m ⟨n,rsE n T P c L (P.length*c),((sdE c L (P.length*c)).length:Int),vw (sdE c L (P.length*c)).length (bt (sdE c L (P.length*c)))⟩) fun y=>bif y.2.2 !=0 then some (0,y.2.2) else bif inR 0 y.2.1.length then some (y.2.1[0]?.getD 0,0) else none:=by
  unfold M63.m
  have hl':iter M63.s0 ⟨0,0,L,(L.length:Int),0,n,T,ints P,c,n,mr n (Rq n T P c),n,0,0,[],[]⟩=some ⟨sdE c L (P.length*c),n,T,ints P,c,n,mr n (Rq n T P c),n,rsE n T P c L (P.length*c)⟩:=loop63 h hL
  simp only[valid72 h,shape96 hL h.len hc,eqs97 h,bindO,hl',h52]
  rfl
 rw[hM]
 show bindO (M22.m ⟨n,mr n (rsR n T P c L),((sdE c L (P.length*c)).length:Int),vw (sdE c L (P.length*c)).length (bsR P c L)⟩) _=_
 rw[←hlen,h22]
 unfold rdR
 by_cases hb:bad (rd (rsR n T P c L) (sd (bsR P c L) (rsR n T P c L).length) n).2.1 (rd (rsR n T P c L) (sd (bsR P c L) (rsR n T P c L).length) n).2.2.length (rsR n T P c L).length=true
 ·rw[if_pos hb,if_pos hb];rfl
 ·rw[if_neg hb,if_neg hb]
  have hinv:=(rd_inv (d:=1) (S:=sd (bsR P c L) (rsR n T P c L).length) sR (.inr (sd_length _ _)) n).1
  have hsx:=sol_sup hinv
  have hbz:bz (nb (sol (rd (rsR n T P c L) (sd (bsR P c L) (rsR n T P c L).length) n).2.1 (rd (rsR n T P c L) (sd (bsR P c L) (rsR n T P c L).length) n).2.2) 64)=_:=tb_nb 64 (sup_le hsx hn.2)
  have hv:=vw1 hn (x:=nb (sol (rd (rsR n T P c L) (sd (bsR P c L) (rsR n T P c L).length) n).2.1 (rd (rsR n T P c L) (sd (bsR P c L) (rsR n T P c L).length) n).2.2) 64) (nb_lt _ _)
  rw[hbz]at hv
  show bindO (some ((n:Int),vw n _,(0:Int))) _=_
  rw[hv];rfl
theorem enc63(h:Dc n T P c)(hL:Cl P c L)(hc:c≤9000000000000):
  (M63.m ⟨n,T,ints P,c,L⟩=some (0,9)∧∀s,s<2^n→¬Ins n T P c s L)∨(∃s:Nat,s<2^n∧M63.m ⟨n,T,ints P,c,L⟩=some ((s:Int),0)∧Ins n T P c s L):=by
 have hn:1≤n∧n≤64:=⟨h.vd.lo,h.vd.hi⟩
 have hlen:(rsR n T P c L).length=(sdE c L (P.length*c)).length:=by simp[sdE,rsR]
 have sR:SupM n (rsR n T P c L):=fun b hb=>by
  obtain⟨r,_,rfl⟩:=List.mem_map.1 hb
  exact Rr_sup _ _ _ _ _
 have sb:Sup (rsR n T P c L).length (bsR P c L):=by rw[hlen];exact bt_sup _
 obtain⟨ok1,ok2⟩:=solve_ok (c:=n) sR sb
 rw[enc_run h hL hc]
 by_cases hb:bad (rdR n T P c L).2.1 (rdR n T P c L).2.2.length (rsR n T P c L).length=true
 ·rw[if_pos hb]
  exact .inl ⟨rfl,fun s hs hi=>ok2 hb (bz s) ((ins_app hL hs).1 hi)⟩
 ·rw[if_neg hb]
  have hx:=ok1 (Bool.eq_false_iff.2 hb)
  have hinv:=(rd_inv (d:=1) (S:=sd (bsR P c L) (rsR n T P c L).length) sR (.inr (sd_length _ _)) n).1
  have hsx:=sol_sup hinv
  unfold rdR
  generalize sol (rd (rsR n T P c L) (sd (bsR P c L) (rsR n T P c L).length) n).2.1 (rd (rsR n T P c L) (sd (bsR P c L) (rsR n T P c L).length) n).2.2=x at hx hsx⊢
  have hbz:bz (nb x 64)=x:=tb_nb 64 (sup_le hsx hn.2)
  have hlt:nb x 64<2^n:=lt_of_sup fun i hi=>by
   have:=congrFun hbz i
   rw[hsx i hi]at this
   exact this
  exact .inr ⟨nb x 64,hlt,rfl,(ins_app hL hlt).2 (by rw[hbz];exact hx)⟩
end
end Sf
end Go.Proofs.Ytddaobhpffpmoaa
namespace Go.Proofs.Ytddaobhpffpmoaa
open Go.Abs
namespace Sf
open Gf
def ce(A:List (List Int))(j i:Nat):Int:=(A[j]?.getD [])[i]?.getD 0
def badc(A B:List (List Int))(j i:Nat):Bool:=(ce B j i !=2)&&(ce B j i !=ce A j i)
theorem inside64{A B:List (List Int)}{m c:Nat}(hA:A.length=m)(hB:B.length=m)(rA:∀l∈A,l.length=c)(rB:∀l∈B,l.length=c)(hm:m≤1000000)(hc:c≤1000000):
  ∃r:Bool,M64.m ⟨A,B⟩=some r∧(r=true↔∀j,j<m→∀i,i<c→ce B j i=2∨ce B j i=ce A j i):=by
 have la:∀j,j<m→(A[j]?.getD []).length=c:=fun j hj=>by rw[List.getElem?_eq_getElem (by omega)];exact rA _ (List.getElem_mem _)
 have lb:∀j,j<m→(B[j]?.getD []).length=c:=fun j hj=>by rw[List.getElem?_eq_getElem (by omega)];exact rB _ (List.getElem_mem _)
 have inner:∀j,j<m→iter M64.s1 ⟨A,B,(j:Int),((0:Nat):Int)⟩=some (match fnd (badc A B j) c 0 with|some _=>.inr ⟨false⟩|none=>.inl ⟨A,B,(j:Int)⟩):=fun j hj=>by
  have common:∀i,i<c→M64.s1 ⟨A,B,(j:Int),(i:Int)⟩=some (bif badc A B j i then .inr (.inr ⟨false⟩) else .inl ⟨A,B,(j:Int),((i+1:Nat):Int)⟩):=fun i hi=>by
   unfold M64.s1
   have b1:inR (j:Int) B.length=true:=inR_nat (by omega)
   have b2:inR (j:Int) A.length=true:=inR_nat (by omega)
   have b3:decide ((i:Int)<(((B[j]?.getD []).length:Nat):Int))=true:=decide_eq_true (by rw[lb j hj];omega)
   have b4:inR (i:Int) (B[j]?.getD []).length=true:=inR_nat (by rw[lb j hj];exact hi)
   have b5:inR (i:Int) (A[j]?.getD []).length=true:=inR_nat (by rw[la j hj];exact hi)
   have b6:IntKind.i64.wrap ((i:Int)+1)=((i+1:Nat):Int):=suc (by omega)
   simp only[Int.toNat_natCast,b1,b2,b3,b4,b5,b6,Bool.true_or,cond_true]
   unfold badc ce
   cases ((B[j]?.getD [])[i]?.getD 0 !=2)<;>cases ((B[j]?.getD [])[i]?.getD 0 !=(A[j]?.getD [])[i]?.getD 0)<;>rfl
  have he:M64.s1 ⟨A,B,(j:Int),(c:Int)⟩=some (.inr (.inl ⟨A,B,(j:Int)⟩)):=by
   unfold M64.s1
   have b1:inR (j:Int) B.length=true:=inR_nat (by omega)
   have b3:decide ((c:Int)<(((B[j]?.getD []).length:Nat):Int))=false:=decide_eq_false (by rw[lb j hj];omega)
   simp only[Int.toNat_natCast,b1,b3,cond_true,cond_false]
  have:=iter_fnd (step:=M64.s1) (fun i=>⟨A,B,(j:Int),(i:Int)⟩) c (badc A B j) (fun _=>.inr ⟨false⟩) (y:=.inl ⟨A,B,(j:Int)⟩) (fun i hi hp=>by rw[common i hi,hp];rfl) (fun i hi hp=>by rw[common i hi,hp];rfl) he c 0 (by omega)
  exact this
 have outer:∀j,j<m→M64.s0 ⟨A,B,(j:Int)⟩=some (bif (fnd (badc A B j) c 0).isSome then .inr (.inr ⟨false⟩) else .inl ⟨A,B,((j+1:Nat):Int)⟩):=fun j hj=>by
  unfold M64.s0
  have b0:decide ((j:Int)<(B.length:Int))=true:=decide_eq_true (by omega)
  have b1:inR (j:Int) B.length=true:=inR_nat (by omega)
  have b2:inR (j:Int) A.length=true:=inR_nat (by omega)
  have b3:((((A[j]?.getD []).length:Nat):Int) !=(((B[j]?.getD []).length:Nat):Int))=false:=by rw[la j hj,lb j hj];simp
  have b6:IntKind.i64.wrap ((j:Int)+1)=((j+1:Nat):Int):=suc (by omega)
  have hin:iter M64.s1 ⟨A,B,(j:Int),0⟩=_:=inner j hj
  simp only[Int.toNat_natCast,b0,b1,b2,b3,cond_true,cond_false,hin,bindO]
  cases fnd (badc A B j) c 0 with
  |some k=>rfl
  |none=>simp only[sumC,b6];rfl
 have he:M64.s0 ⟨A,B,(m:Int)⟩=some (.inr (.inl PUnit.unit)):=by
  unfold M64.s0
  have b0:decide ((m:Int)<(B.length:Int))=false:=decide_eq_false (by omega)
  simp only[b0,cond_false]
 have hout:=iter_fnd (step:=M64.s0) (fun j=>⟨A,B,(j:Int)⟩) m (fun j=>(fnd (badc A B j) c 0).isSome) (fun _=>.inr ⟨false⟩) (y:=.inl PUnit.unit) (fun i hi hp=>by rw[outer i hi,hp];rfl) (fun i hi hp=>by rw[outer i hi,hp];rfl) he m 0 (by omega)
 have a1:((A.length:Int) !=(B.length:Int))=false:=by rw[hA,hB];simp
 have hout:iter M64.s0 ⟨A,B,0⟩=_:=hout
 have good:∀j i,badc A B j i=false↔(ce B j i=2∨ce B j i=ce A j i):=fun j i=>by
  unfold badc
  by_cases h1:ce B j i=2
  ·simp[h1]
  ·by_cases h2:ce B j i=ce A j i
   ·simp[h2]
   ·simp[h1,h2]
 unfold M64.m
 simp only[a1,cond_false,hout,bindO]
 cases hf:fnd (fun j=>(fnd (badc A B j) c 0).isSome) m 0 with
 |some j=>
  refine⟨false,rfl,⟨fun h=>(by cases h),fun h=> ?_⟩⟩
  obtain⟨_,h2,h3,_⟩:=fnd_some hf
  cases hg:fnd (badc A B j) c 0 with
  |none=>simp only[hg]at h3;cases h3
  |some i=>
   obtain⟨_,h5,h6,_⟩:=fnd_some hg
   have:=(good j i).2 (h j (by omega) i (by omega))
   rw[h6]at this;cases this
 |none=>
  refine⟨true,rfl,⟨fun _ j hj i hi=> ?_,fun _=>rfl⟩⟩
  have h1:=fnd_none hf j (Nat.zero_le _) (by omega)
  cases hg:fnd (badc A B j) c 0 with
  |some i=>simp only[hg]at h1;cases h1
  |none=>exact(good j i).1 (fnd_none hg i (Nat.zero_le _) (by omega))
section
variable {n T:Nat}{P:List Nat}{c:Nat}{L:List (List Int)}
theorem cellsB_length(s:Nat):(cellsB n T P c s).length=P.length:=by simp[cellsB]
theorem cellsB_row(s:Nat):∀l∈cellsB n T P c s,l.length=c:=fun l hl=>by
 unfold cellsB at hl
 obtain⟨j,_,rfl⟩:=List.mem_map.1 hl
 simp
theorem cellsB_at(s:Nat){j i:Nat}(hj:j<P.length)(hi:i<c):ce (cellsB n T P c s) j i=i01 (fb n T P c j i (bz s)):=by
 simp[ce,cellsB,hj,hi]
theorem inside_ins(h:Dc n T P c)(hL:Cl P c L)(hc:c≤1000000)(s:Nat):∃r:Bool,M64.m ⟨cellsB n T P c s,L⟩=some r∧(r=true↔Ins n T P c s L):=by
 have hl:=h.len
 obtain⟨r,h1,h2⟩:=inside64 (m:=P.length) (c:=c) (cellsB_length s) hL.len (cellsB_row s) hL.row (by omega) hc
 refine⟨r,h1,h2.trans ⟨fun h r hr=> ?_,fun h j hj i hi=> ?_⟩⟩
 ·have hc0:0<c:=Nat.pos_of_ne_zero fun e=>by rw[e,Nat.mul_zero]at hr;omega
  have hj:r / c<P.length:=Nat.div_lt_of_lt_mul (by rwa [Nat.mul_comm])
  have hi:=Nat.mod_lt r hc0
  have:=h _ hj _ hi
  rw[cellsB_at s hj hi]at this
  exact this
 ·have hr:j*c+i<P.length*c:=by
   have:=Nat.mul_le_mul_right c (show j+1≤P.length by omega)
   rw[Nat.add_mul]at this
   omega
  have hdv:=divmod (j:=j) hi
  have:=h _ hr
  unfold cv at this
  rw[hdv.1,hdv.2]at this
  rw[cellsB_at s hj hi]
  exact this
end
theorem vd412:Vd 4 12:=⟨by omega,by omega,by omega,by omega⟩
theorem dc1:Dc 4 12 [1,6] 3:=⟨vd412,fun p hp=>by simp at hp;omega,by decide,fun _=>by decide,by decide⟩
theorem dc2:Dc 4 12 [1,1] 3:=⟨vd412,fun p hp=>by simp at hp;omega,by decide,fun _=>by decide,by decide⟩
set_option maxRecDepth 100000 in
theorem lives59:M59.m PUnit.unit=some true:=by
 have s1:M58.m ⟨4,12,1⟩=some (2,0):=by kernel_rfl
 have s2:M58.m ⟨4,12,4⟩=some (9,0):=by kernel_rfl
 have s3:M58.m ⟨4,12,13⟩=some (10,0):=by kernel_rfl
 have s4:M58.m ⟨4,12,16⟩=some (0,1):=by kernel_rfl
 have j1:M69.m ⟨4,12,1,7⟩=some (10,0):=by
  have:=jump69 (n:=4) (T:=12) (s:=1) (k:=7) vd412 (by decide) (by decide)
  have e:nk 4 12 7 1=10:=by kernel_rfl
  rw[e]at this
  exact this
 have p1:M55.m ⟨4,12,1,20⟩=some (15,0):=by kernel_rfl
 have p2:M55.m ⟨4,12,1,14⟩=some (0,3):=by kernel_rfl
 have x1:M61.m ⟨4,12,[1,6],3,5⟩=some (cellsB 4 12 [1,6] 3 5,0):=exp61 (s:=5) dc1 (by decide)
 have x2:cellsB 4 12 [1,6] 3 5=[[1,1,1],[0,1,1]]:=by kernel_rfl
 rw[x2]at x1
 have i1:M64.m ⟨[[1,1,1],[0,1,1]],[[1,1,1],[0,1,1]]⟩=some true:=by
  obtain⟨r,h1,h2⟩:=inside64 (A:=[[1,1,1],[0,1,1]]) (B:=[[1,1,1],[0,1,1]]) (m:=2) (c:=3) rfl rfl (by simp) (by simp) (by omega) (by omega)
  rw[h1,h2.2 fun j _ i _=>.inr rfl]
 have e1:M63.m ⟨4,12,[1,6],3,[[2,1,2],[1,2,2]]⟩=some (4,0):=by
  have:=enc_run (L:=[[2,1,2],[1,2,2]]) dc1 ⟨rfl,by simp,by simp⟩ (by decide)
  have e:(if bad (rdR 4 12 [1,6] 3 [[2,1,2],[1,2,2]]).2.1 (rdR 4 12 [1,6] 3 [[2,1,2],[1,2,2]]).2.2.length (rsR 4 12 [1,6] 3 [[2,1,2],[1,2,2]]).length=true then ((0:Int),(9:Int)) else (((nb (sol (rdR 4 12 [1,6] 3 [[2,1,2],[1,2,2]]).2.1 (rdR 4 12 [1,6] 3 [[2,1,2],[1,2,2]]).2.2) 64:Nat):Int),0))=(4,0):=by kernel_rfl
  rw[e]at this
  exact this
 have e2:M63.m ⟨4,12,[1,1],3,[[1,2,2],[0,2,2]]⟩=some (0,9):=by
  have:=enc_run (L:=[[1,2,2],[0,2,2]]) dc2 ⟨rfl,by simp,by simp⟩ (by decide)
  have e:bad (rdR 4 12 [1,1] 3 [[1,2,2],[0,2,2]]).2.1 (rdR 4 12 [1,1] 3 [[1,2,2],[0,2,2]]).2.2.length (rsR 4 12 [1,1] 3 [[1,2,2],[0,2,2]]).length=true:=by kernel_rfl
  rw[if_pos e]at this
  exact this
 have c1:M71.m ⟨4,3⟩=some 1:=by kernel_rfl
 unfold M59.m
 simp only[s1,s2,s3,s4,j1,p1,p2,x1,i1,e1,e2,c1,bindO]
 rfl
end Sf
end Go.Proofs.Ytddaobhpffpmoaa
