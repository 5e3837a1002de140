/-
  What the proof stands on.
-/
import Derived.Test.YtddaobhpffpmoaaGRAQGe
import Derived.Test.YtddaobhpffpmoaaGRAQGa
import Derived.Test.YtddaobhpffpmoaaGRAQGb
import Derived.Test.YtddaobhpffpmoaaGRAQGc
import Derived.Test.YtddaobhpffpmoaaGRAQGd
import Derived.Test.YtddaobhpffpmoaaGRAQGW2
import Derived.Test.YtddaobhpffpmoaaGRAQGW3
import Derived.Test.YtddaobhpffpmoaaGRAQGW7
import Derived.Test.YtddaobhpffpmoaaGRAQGW6
set_option linter.all false
namespace Go.Proofs.Ytddaobhpffpmoaa
open Go.Abs
namespace Gf
def sw(R:List Q7)(i k:Nat):List Q7:=(R.set i (R[k]?.getD fun _=>false)).set k (R[i]?.getD fun _=>false)
theorem QX(R:List Q7)(i k:Nat):(sw R i k).length=R.length:=by simp[sw]
theorem mr_set(c:Nat)(R:List Q7)(i:Nat)(b:Q7):(mr c R).set i ((c:Int),vw c b)=mr c (R.set i b):=by
 unfold mr
 rw[List.map_set]
theorem mr_sw{c:Nat}{R:List Q7}{i k:Nat}(hi:i<R.length)(hk:k<R.length):
  ((mr c R).set (0+i) (((mr c R)[0+k]?.getD (0,[])).1,((mr c R)[0+k]?.getD (0,[])).2)).set (0+k) (((mr c R)[0+i]?.getD (0,[])).1,((mr c R)[0+i]?.getD (0,[])).2)=mr c (sw R i k):=by
 rw[Nat.zero_add,Nat.zero_add,mr_at' hi,mr_at' hk,mr_set,mr_set]
 unfold sw
 rw[List.getElem?_eq_getElem hi,List.getElem?_eq_getElem hk];rfl
theorem swap101{c d i k cp cq pl pn:Nat}{R S:List Q7}{ps:List Int}(hi:i<R.length)(hk:k<R.length)(hS:S=[]∨S.length=R.length):
  M101.m ⟨i,k,0,R.length,cp,0,S.length,cq,pl,pn,mr c R,mr d S,ps⟩=some (0,R.length,cp,0,S.length,cq,pl,pn,mr c (sw R i k),mr d (sw S i k),ps):=by
 have e1:decide (0+i<(mr c R).length)=true:=by rw[Q6];simpa using hi
 have e2:decide (0+k<(mr c R).length)=true:=by rw[Q6];simpa using hk
 have e3:∀v:Int×List Int,decide (0+k<((mr c R).set (0+i) v).length)=true:=fun v=>by rw[List.length_set];exact e2
 unfold M101.m
 simp only[QD hi,QD hk,Int.toNat_natCast,e1,e2,e3,cond_true,mr_sw hi hk]
 rcases hS with rfl|hS
 ·rfl
 ·by_cases h0:S.length=0
  ·have:S=[]:=List.length_eq_zero_iff.1 h0
   subst this
   rfl
  ·have hi':i<S.length:=by omega
   have hk':k<S.length:=by omega
   have f0:decide ((S.length:Int)>0)=true:=by simp;omega
   have f1:decide (0+i<(mr d S).length)=true:=by rw[Q6];simpa using hi'
   have f2:decide (0+k<(mr d S).length)=true:=by rw[Q6];simpa using hk'
   have f3:∀v:Int×List Int,decide (0+k<((mr d S).set (0+i) v).length)=true:=fun v=>by rw[List.length_set];exact f2
   simp only[f0,QD hi',QD hk',f1,f2,f3,cond_true,mr_sw hi' hk']
def row(R:List Q7)(i:Nat):Q7:=R[i]?.getD fun _=>false
theorem Jf{R:List Q7}{i:Nat}(h:i<R.length):row R i=R[i]:=by unfold row;rw[List.getElem?_eq_getElem h];rfl
def clS(top k:Nat)(p:List Q7×List Q7)(i:Nat):List Q7×List Q7:=
 if i≠top∧row p.1 i k=true then (p.1.set i (xr (row p.1 i) (row p.1 top)),p.2.set i (xr (row p.2 i) (row p.2 top))) else p
def clN(top k:Nat)(p:List Q7×List Q7):Nat→List Q7×List Q7
 |0=>p
 |i+1=>clS top k (clN top k p i) i
theorem clS_length(top k:Nat)(p:List Q7×List Q7)(i:Nat):(clS top k p i).1.length=p.1.length∧(clS top k p i).2.length=p.2.length:=by
 unfold clS
 split<;>simp
theorem Z8(top k:Nat)(p:List Q7×List Q7):∀i,(clN top k p i).1.length=p.1.length∧(clN top k p i).2.length=p.2.length
 |0=>⟨rfl,rfl⟩
 |i+1=>by
  have h1:=clS_length top k (clN top k p i) i
  have h2:=Z8 top k p i
  exact⟨h1.1.trans h2.1,h1.2.trans h2.2⟩
theorem cl_step {c d i top k cp cq pl pn : Nat} {P : List Q7 × List Q7} {ps : List Int} (hc : c ≤ 4096) (hd : d ≤ 4096) (hR : P.1.length ≤ 4096) (hi : i < P.1.length) (ht : top < P.1.length) (hk : k < c) (hS : P.2 = [] ∨ P.2.length = P.1.length) :
   M102.s0 ⟨top,k,P.1.length,i,0,P.1.length,cp,0,P.2.length,cq,pl,pn,mr c P.1,mr d P.2,ps⟩ =
     some (.inl ⟨top,k,P.1.length,((i + 1 : Nat) : Int),0,P.1.length,cp,0,P.2.length,cq,pl,pn,mr c (clS top k P i).1,mr d (clS top k P i).2,ps⟩) := by
 obtain ⟨R,S⟩ := P
 simp only at hR hi ht hS ⊢
 have e0 : decide ((i : Int) < (R.length : Int)) = true := by simpa using hi
 have e1 : decide (i < (mr c R).length) = true := by rw [Q6]; simpa using hi
 have e2 : decide (top < (mr c R).length) = true := by rw [Q6]; simpa using ht
 unfold M102.s0
 simp only [e0,QD hi,QD ht,Int.toNat_natCast,e1,e2,Bool.true_or,cond_true,Nat.zero_add,mr_at' hi,mr_at' ht,has (n := c) (i := k) (c : Int) R[i] (by omega) (by unfold nw; omega),suc (show i < 9000000000000000000 by omega)]
 by_cases hit : i = top
 · subst hit
   have f : ((i : Int) == (i : Int)) = true := by simp
   simp only [f,cond_true,Bool.not_true,cond_false,Q0]
   unfold clS
   simp
 · have f : ((i : Int) == (top : Int)) = false := by simp; omega
   simp only [f,cond_false,Bool.not_false,cond_true,Q0]
   unfold clS
   simp only [Jf hi]
   cases hb : R[i] k with
   | false => simp
   | true =>
     simp only [Bool.not_true,cond_false,sum R[i] R[top] (c : Int) (show c ≤ 1000000 by omega),Jf ht,ne_eq,hit,not_false_eq_true,and_self,if_true,mr_set]
     by_cases h0 : S.length = 0
     · have : S = [] := List.length_eq_zero_iff.1 h0
       subst this
       rfl
     · have hS : S.length = R.length := by rcases hS with h | h; · subst h; exact absurd rfl h0
                                           · exact h
       have hi' : i < S.length := by omega
       have ht' : top < S.length := by omega
       have f0 : decide ((S.length : Int) > 0) = true := by simp; omega
       have f1 : decide (i < (mr d S).length) = true := by rw [Q6]; simpa using hi'
       have f2 : decide (top < (mr d S).length) = true := by rw [Q6]; simpa using ht'
       simp only [f0,QD hi',QD ht',f1,f2,cond_true,mr_at' hi',mr_at' ht',sum S[i] S[top] (d : Int) (show d ≤ 1000000 by omega),Jf hi',Jf ht',mr_set]
theorem j7{c d top k cp cq pl pn:Nat}{R S:List Q7}{ps:List Int}(hc:c≤4096)(hd:d≤4096)(hR:R.length≤4096)(ht:top<R.length)(hk:k<c)(hS:S=[]∨S.length=R.length):
  M102.m ⟨top,k,0,R.length,cp,0,S.length,cq,pl,pn,mr c R,mr d S,ps⟩=some (0,R.length,cp,0,S.length,cq,pl,pn,mr c (clN top k (R,S) R.length).1,mr d (clN top k (R,S) R.length).2,ps):=by
 have key:=QR (step:=M102.s0) (fun i=>⟨top,k,R.length,i,0,R.length,cp,0,S.length,cq,pl,pn,mr c (clN top k (R,S) i).1,mr d (clN top k (R,S) i).2,ps⟩) R.length
  (y:=⟨0,R.length,cp,0,S.length,cq,pl,pn,mr c (clN top k (R,S) R.length).1,mr d (clN top k (R,S) R.length).2,ps⟩) (fun i hi=>by
   obtain⟨h1,h2⟩:=Z8 top k (R,S) i
   have h1:(clN top k (R,S) i).1.length=R.length:=h1
   have h2:(clN top k (R,S) i).2.length=S.length:=h2
   have:=cl_step (cp:=cp) (cq:=cq) (pl:=pl) (pn:=pn) (P:=clN top k (R,S) i) (ps:=ps) hc hd (by omega) (show i<_ by omega) (show top<_ by omega) hk (by
    rcases hS with h|h
    ·exact .inl (List.length_eq_zero_iff.1 (by rw[h2,h];rfl))
    ·exact .inr (by omega))
   rw[h1,h2]at this
   exact this) (by
   have e1:decide ((R.length:Int)<(R.length:Int))=false:=by simp
   unfold M102.s0
   simp only[e1,cond_false])
 have key:iter M102.s0 ⟨top,k,R.length,0,0,R.length,cp,0,S.length,cq,pl,pn,mr c R,mr d S,ps⟩=_:=key
 unfold M102.m
 simp only[key,Q0]
end Gf
end Go.Proofs.Ytddaobhpffpmoaa
namespace Go.Proofs.Ytddaobhpffpmoaa
open Go.Abs
namespace Gf
def fnd(P:Nat→Bool):Nat→Nat→Option Nat
 |0,_=>none
 |f+1,i=>if P i=true then some i else fnd P f (i+1)
theorem KM{P:Nat→Bool}:∀{f i j:Nat},fnd P f i=some j→i≤j∧j<i+f∧P j=true∧∀t,i≤t→t<j→P t=false
 |0,i,j,h=>by cases h
 |f+1,i,j,h=>by
  unfold fnd at h
  split at h
  ·rename_i hp
   cases h
   exact⟨Nat.le_refl _,by omega,hp,fun t h1 h2=>by omega⟩
  ·rename_i hp
   obtain⟨h1,h2,h3,h4⟩:=KM h
   exact⟨by omega,by omega,h3,fun t h5 h6=>by
    by_cases e:t=i
    ·subst e;simpa using hp
    ·exact h4 t (by omega) h6⟩
theorem UE{P:Nat→Bool}:∀{f i:Nat},fnd P f i=none→∀t,i≤t→t<i+f→P t=false
 |0,i,_,t,h1,h2=>by omega
 |f+1,i,h,t,h1,h2=>by
  unfold fnd at h
  split at h
  ·cases h
  ·rename_i hp
   by_cases e:t=i
   ·subst e;simpa using hp
   ·exact UE h t (by omega) (by omega)
theorem KF{X Y:Type}{step:X→Option (X⊕Y)}(S:Nat→X)(N:Nat)(P:Nat→Bool)(Z:Nat→Y){y:Y}(h0:∀i,i<N→P i=false→step (S i)=some (.inl (S (i+1))))
  (h1:∀i,i<N→P i=true→step (S i)=some (.inr (Z i))) (he:step (S N)=some (.inr y)):∀f i,i+f=N→iter step (S i)=some (match fnd P f i with|some j=>Z j|none=>y)
 |0,i,hi=>by
  have:i=N:=by omega
  subst this
  rw[iter_eq,he];rfl
 |f+1,i,hi=>by
  unfold fnd
  rw[iter_eq]
  cases hp:P i with
  |true=>rw[h1 i (by omega) hp];rfl
  |false=>
   rw[h0 i (by omega) hp]
   simpa using KF S N P Z h0 h1 he f (i+1) (by omega)
theorem find76{c d k cp cq:Nat}{R S:List Q7}{ps:List Int}{r0:List (Int×List Int)}(hc:c≤4096)(hd:d≤4096)(hR:R.length≤4096)(hk:k<c)(hS:S=[]∨S.length=R.length)(hp:ps.length≤R.length):
  iter M76.s1 ⟨c,k,k,((ps.length:Nat):Int),((ps.length:Nat):Int),c,r0,mr c R,mr d S,0,R.length,cp,0,S.length,cq,0,ps.length,ps⟩=
   some (match fnd (fun i=>row R i k) (R.length - ps.length) ps.length with
    |some i=>.inr ⟨c,k,c,r0,mr c (clN ps.length k (sw R i ps.length,sw S i ps.length) R.length).1,mr d (clN ps.length k (sw R i ps.length,sw S i ps.length) R.length).2,0,R.length,cp,0,S.length,cq,0,ps.length+1,ps++[(k:Int)]⟩
    |none=>.inl ⟨c,k,c,r0,mr c R,mr d S,0,R.length,cp,0,S.length,cq,0,ps.length,ps⟩):=by
 have hend:M76.s1 ⟨c,k,k,((ps.length:Nat):Int),((R.length:Nat):Int),c,r0,mr c R,mr d S,0,R.length,cp,0,S.length,cq,0,ps.length,ps⟩=some (.inr (.inl ⟨c,k,c,r0,mr c R,mr d S,0,R.length,cp,0,S.length,cq,0,ps.length,ps⟩)):=by
  have e0:decide ((R.length:Int)<(R.length:Int))=false:=by simp
  unfold M76.s1
  simp only[e0,cond_false]
 rcases Nat.lt_or_ge ps.length R.length with ht|ht
 rotate_left
 ·have e:ps.length=R.length:=by omega
  have e2:R.length - ps.length=0:=by omega
  rw[e2]
  unfold fnd
  have hend':=hend
  rw[←e]at hend'⊢
  rw[iter_eq,hend']
 refine KF (step:=M76.s1) (fun i=>⟨c,k,k,((ps.length:Nat):Int),(i:Int),c,r0,mr c R,mr d S,0,R.length,cp,0,S.length,cq,0,ps.length,ps⟩) R.length (fun i=>row R i k)
  (fun i=>.inr ⟨c,k,c,r0,mr c (clN ps.length k (sw R i ps.length,sw S i ps.length) R.length).1,mr d (clN ps.length k (sw R i ps.length,sw S i ps.length) R.length).2,0,R.length,cp,0,S.length,cq,0,ps.length+1,ps++[(k:Int)]⟩) (fun i hi hP=> ?_) (fun i hi hP=> ?_) ?_ _ _ (by omega)
 ·have e0:decide ((i:Int)<(R.length:Int))=true:=by simpa using hi
  have e1:decide (0+i<(mr c R).length)=true:=by rw[Q6];simpa using hi
  rw[Jf hi]at hP
  have e1':decide (i<(mr c R).length)=true:=by rw[Q6];simpa using hi
  unfold M76.s1
  simp only[e0,QD hi,Int.toNat_natCast,e1',cond_true,Nat.zero_add,mr_at' hi,has (n:=c) (i:=k) (c:Int) R[i] (by omega) (by unfold nw;omega),Q0,hP,Bool.not_false,suc (show i<9000000000000000000 by omega)]
 ·have e0:decide ((i:Int)<(R.length:Int))=true:=by simpa using hi
  have e1':decide (i<(mr c R).length)=true:=by rw[Q6];simpa using hi
  rw[Jf hi]at hP
  have hsw:(sw S i ps.length)=[]∨(sw S i ps.length).length=(sw R i ps.length).length:=by
   rcases hS with rfl|h
   ·exact .inl rfl
   ·exact .inr (by rw[QX,QX];exact h)
  have hcl:=j7 (cp:=cp) (cq:=cq) (pl:=0) (pn:=ps.length) (R:=sw R i ps.length) (S:=sw S i ps.length) (ps:=ps) (top:=ps.length) (k:=k) hc hd (by rw[QX];exact hR) (by rw[QX];exact ht) hk hsw
  rw[QX,QX]at hcl
  have e5:(eqN 0 0&&eqN ps.length ps.length&&QP (ps.length+1) 8)=true:=by
   have g1:eqN ps.length ps.length=true:=by simp[eqN]
   have g2:QP (ps.length+1) 8=true:=by simp[QP,leB];omega
   rw[g1,g2];rfl
  unfold M76.s1
  simp only[e0,QD hi,Int.toNat_natCast,e1',cond_true,Nat.zero_add,mr_at' hi,has (n:=c) (i:=k) (c:Int) R[i] (by omega) (by unfold nw;omega),Q0,hP,Bool.not_true,cond_false,swap101 (R:=R) (S:=S) hi ht hS,hcl,e5]
 ·exact hend
end Gf
end Go.Proofs.Ytddaobhpffpmoaa
namespace Go.Proofs.Ytddaobhpffpmoaa
open Go.Abs
namespace Gf
def par(f:Q7):Nat→Bool
 |0=>false
 |n+1=>Bool.xor (par f n) (f n)
theorem par_cnt(f:Q7):∀n,(cnt f n%2==1)=par f n
 |0=>rfl
 |n+1=>by
  have h:=par_cnt f n
  simp only[par,cnt]
  rw[←h]
  rcases Nat.mod_two_eq_zero_or_one (cnt f n) with e|e
  ·cases f n
   ·simp[e]
   ·have:(cnt f n+1)%2=1:=by omega
    simp[e,this]
  ·cases f n
   ·simp[e]
   ·have:(cnt f n+1)%2=0:=by omega
    simp[e,this]
theorem X4(n:Nat)(a b:Q7):dot n a b=par (an a b) n:=par_cnt _ _
theorem Xf{f g:Q7}:∀{n:Nat},(∀i,i<n→f i=g i)→par f n=par g n
 |0,_=>rfl
 |n+1,h=>by simp only[par];rw[Xf fun i hi=>h i (by omega),h n (by omega)]
theorem par_xr(f g:Q7):∀n,par (xr f g) n=Bool.xor (par f n) (par g n)
 |0=>rfl
 |n+1=>by
  simp only[par,par_xr f g n,xr]
  cases par f n<;>cases par g n<;>cases f n<;>cases g n<;>rfl
theorem par_no:∀n,par (fun _=>false) n=false
 |0=>rfl
 |n+1=>by simp only[par,par_no n];rfl
theorem qV{f:Q7}{n:Nat}(h:∀i,i<n→f i=false):par f n=false:=by rw[Xf h,par_no]
theorem Ve{f:Q7}{j:Nat}:∀{n:Nat},(∀i,i<n→i≠j→f i=false)→par f n=(decide (j<n)&&f j)
 |0,_=>by simp[par]
 |n+1,h=>by
  simp only[par]
  rw[Ve fun i hi=>h i (by omega)]
  by_cases e:n=j
  ·subst e;simp
  ·have e1:=h n (by omega) e
   have e2:(j<n+1)=(j<n):=by simp;omega
   simp only[e1,e2,Bool.xor_false]
theorem ZJ(n:Nat)(a b:Q7):dot n a b=dot n b a:=by
 rw[X4,X4]
 exact Xf fun i _=>Bool.and_comm _ _
theorem dot_xr(n:Nat)(a b c:Q7):dot n a (xr b c)=Bool.xor (dot n a b) (dot n a c):=by
 rw[X4,X4,X4,←par_xr]
 refine Xf fun i _=> ?_
 show(a i&&Bool.xor (b i) (c i))=Bool.xor (a i&&b i) (a i&&c i)
 cases a i<;>cases b i<;>cases c i<;>rfl
theorem xr_dot(n:Nat)(a b c:Q7):dot n (xr a b) c=Bool.xor (dot n a c) (dot n b c):=by rw[ZJ,dot_xr,ZJ n c a,ZJ n c b]
theorem VA(n:Nat)(a:Q7):dot n a (fun _=>false)=false:=by
 rw[X4]
 exact qV fun i _=>by unfold an;simp
theorem WW(n:Nat)(a:Q7):dot n (fun _=>false) a=false:=by rw[ZJ,VA]
theorem VB{n:Nat}{a b x:Q7}(h:∀i,i<n→a i=b i):dot n x a=dot n x b:=by
 rw[X4,X4]
 exact Xf fun i hi=>by unfold an;rw[h i hi]
theorem dot_one{n j:Nat}{a b:Q7}(h:∀i,i<n→i≠j→(a i&&b i)=false):dot n a b=(decide (j<n)&&(a j&&b j)):=by
 rw[X4]
 exact Ve h
def un(j:Nat):Q7:=fun i=>i==j
theorem Zz{n j:Nat}(a:Q7)(h:j<n):dot n a (un j)=a j:=by
 rw[dot_one (j:=j) fun i _ hi=>by unfold un;simp[hi]]
 unfold un
 simp[h]
theorem ZB{R:List Q7}{i:Nat}(h:R.length≤i):row R i=fun _=>false:=by unfold row;rw[List.getElem?_eq_none h];rfl
theorem row_lt{R:List Q7}{i k:Nat}(h:row R i k=true):i<R.length:=by
 rcases Nat.lt_or_ge i R.length with h'|h'
 ·exact h'
 ·rw[ZB h']at h;cases h
theorem row_nil(i:Nat):row [] i=fun _=>false:=rfl
theorem VZ{R:List Q7}{i:Nat}(b:Q7)(j:Nat)(h:i<R.length):row (R.set i b) j=if j=i then b else row R j:=by
 unfold row
 rw[List.getElem?_set]
 by_cases e:i=j
 ·subst e;simp[h]
 ·rw[if_neg e,if_neg (fun h=>e h.symm)]
theorem ZV{c:Nat}{R:List Q7}(h:Ql c R)(i:Nat):Sup c (row R i):=by
 rcases Nat.lt_or_ge i R.length with h'|h'
 ·rw[Jf h'];exact h _ (List.getElem_mem h')
 ·rw[ZB h'];exact fun _ _=>rfl
theorem supM_rows{c:Nat}{R:List Q7}(h:∀i,Sup c (row R i)):Ql c R:=fun b hb=>by
 obtain⟨i,hi,rfl⟩:=List.getElem_of_mem hb
 rw[←Jf hi];exact h i
def Mt(R S:List Q7):Prop:=S=[]∨S.length=R.length
def pm(i t j:Nat):Nat:=if j=t then i else if j=i then t else j
theorem row_sw{R:List Q7}{i t:Nat}(hi:i<R.length)(ht:t<R.length)(j:Nat):row (sw R i t) j=row R (pm i t j):=by
 unfold sw
 rw[VZ _ _ (by rw[List.length_set];exact ht),VZ _ _ hi]
 unfold pm
 by_cases h1:j=t
 ·rw[if_pos h1,if_pos h1];rfl
 ·rw[if_neg h1,if_neg h1]
  by_cases h2:j=i
  ·rw[if_pos h2,if_pos h2];rfl
  ·rw[if_neg h2,if_neg h2]
theorem row_sw2{R S:List Q7}{i t:Nat}(hi:i<R.length)(ht:t<R.length)(hS:Mt R S)(j:Nat):row (sw S i t) j=row S (pm i t j):=by
 rcases hS with rfl|h
 ·rfl
 ·exact row_sw (by omega) (by omega) j
def clR(F G:Nat→Q7)(t k i j:Nat):Q7:=if j<i∧j≠t∧F j k=true then xr (G j) (G t) else G j
theorem set_rows{R S:List Q7}(hS:Mt R S){i:Nat}(hi:i<R.length)(b:Q7)(hb:S=[]→b=fun _=>false)(j:Nat):row (S.set i b) j=if j=i then b else row S j:=by
 rcases hS with rfl|h
 ·rw[hb rfl]
  split<;>rfl
 ·exact VZ _ _ (by omega)
theorem row_clN{R S:List Q7}{t:Nat}(hS:Mt R S)(ht:t<R.length)(k:Nat):∀i,i≤R.length→(∀j,row (clN t k (R,S) i).1 j=clR (row R) (row R) t k i j)∧(∀j,row (clN t k (R,S) i).2 j=clR (row R) (row S) t k i j)
 |0,_=>by
  constructor<;>intro j<;>unfold clR<;>rw[if_neg (fun h=>absurd h.1 (Nat.not_lt_zero _))]<;>rfl
 |i+1,hi=>by
  obtain⟨h1,h2⟩:=row_clN hS ht k i (by omega)
  obtain⟨l1,l2⟩:=Z8 t k (R,S) i
  have l1:(clN t k (R,S) i).1.length=R.length:=l1
  have l2:(clN t k (R,S) i).2.length=S.length:=l2
  have hS':Mt (clN t k (R,S) i).1 (clN t k (R,S) i).2:=by
   rcases hS with h|h
   ·exact .inl (List.length_eq_zero_iff.1 (by rw[l2,h];rfl))
   ·exact .inr (by omega)
  have hii:clR (row R) (row R) t k i i=row R i:=by unfold clR;rw[if_neg (fun h=>absurd h.1 (Nat.lt_irrefl _))]
  have htt:∀G:Nat→Q7,clR (row R) G t k i t=G t:=fun G=>by unfold clR;rw[if_neg (fun h=>absurd rfl h.2.1)]
  have hii2:clR (row R) (row S) t k i i=row S i:=by unfold clR;rw[if_neg (fun h=>absurd h.1 (Nat.lt_irrefl _))]
  have main:∀(G:Nat→Q7) (j:Nat),clR (row R) G t k (i+1) j=if i≠t∧row R i k=true then (if j=i then xr (G i) (G t) else clR (row R) G t k i j) else clR (row R) G t k i j:=by
   intro G j
   unfold clR
   by_cases e:j=i
   ·subst e
    by_cases c:j≠t∧row R j k=true
    ·simp[c]
    ·simp only[c,and_false,if_false]
   ·have:(j<i+1)=(j<i):=by simp;omega
    simp only[this,e,if_false,ite_self]
  simp only[clN]
  unfold clS
  rw[h1 i,hii]
  refine⟨fun j=> ?_,fun j=> ?_⟩
  ·rw[main]
   by_cases c:i≠t∧row R i k=true
   ·rw[if_pos c,if_pos c]
    show row (List.set _ _ _) j=_
    rw[VZ _ _ (by omega),h1 t,htt,h1 j]
   ·rw[if_neg c,if_neg c,h1 j]
  ·rw[main]
   by_cases c:i≠t∧row R i k=true
   ·rw[if_pos c,if_pos c]
    show row (List.set _ _ _) j=_
    rw[set_rows hS' (by omega),h2 t,h2 i,htt,hii2,h2 j]
    intro hn
    rw[hn];rfl
   ·rw[if_neg c,if_neg c,h2 j]
abbrev St:=List Q7×List Q7×List Nat
def Xe(k:Nat)(s:St):St:=
 match fnd (fun i=>row s.1 i k) (s.1.length - s.2.2.length) s.2.2.length with
 |some i=>((clN s.2.2.length k (sw s.1 i s.2.2.length,sw s.2.1 i s.2.2.length) s.1.length).1,(clN s.2.2.length k (sw s.1 i s.2.2.length,sw s.2.1 i s.2.2.length) s.1.length).2,s.2.2++[k])
 |none=>s
def rd(R S:List Q7):Nat→St
 |0=>(R,S,[])
 |k+1=>Xe k (rd R S k)
def pv(ps:List Nat)(s:Nat):Nat:=ps[s]?.getD 0
def Eqs(c d:Nat)(R S:List Q7)(x y:Q7):Prop:=∀i,dot c (row R i) x=dot d (row S i) y
structure Inv(c k r s:Nat)(st:St):Prop where
 lr:st.1.length=r
 ls:st.2.1.length=s
 lt:st.2.2.length≤r
 lk:∀p,p<st.2.2.length→pv st.2.2 p<k
 inc:∀p q,p<q→q<st.2.2.length→pv st.2.2 p<pv st.2.2 q
 own:∀p,p<st.2.2.length→∀j,row st.1 j (pv st.2.2 p)=(j==p)
 zero:∀i j,st.2.2.length≤i→j<k→row st.1 i j=false
 sup:∀i,Sup c (row st.1 i)
theorem pv_old{ps:List Nat}{k p:Nat}(h:p<ps.length):pv (ps++[k]) p=pv ps p:=by
 unfold pv
 rw[List.getElem?_append_left h]
theorem pv_new{ps:List Nat}{k:Nat}:pv (ps++[k]) ps.length=k:=by
 unfold pv
 rw[List.getElem?_append_right (Nat.le_refl _)];simp
theorem Yh{c d k r s:Nat}{st:St}(h:Inv c k r s st)(hs:s=0∨s=r){i:Nat}(hf:fnd (fun i=>row st.1 i k) (st.1.length - st.2.2.length) st.2.2.length=some i):
  Inv c (k+1) r s (Xe k st)∧(∀x y,Eqs c d (Xe k st).1 (Xe k st).2.1 x y↔Eqs c d st.1 st.2.1 x y)∧(Xe k st).2.2=st.2.2++[k]∧((∀i,Sup d (row st.2.1 i))→∀i,Sup d (row (Xe k st).2.1 i)):=by
 obtain⟨R,S,ps⟩:=st
 obtain⟨f1,f2,f3,_⟩:=KM hf
 simp only at f1 f2 f3 hf
 have lr:R.length=r:=h.lr
 have ls:S.length=s:=h.ls
 have lt:ps.length≤r:=h.lt
 have hi:i<R.length:=row_lt f3
 have ht:ps.length<R.length:=by omega
 have hS:Mt R S:=by
  rcases hs with e|e
  ·exact .inl (List.length_eq_zero_iff.1 (by omega))
  ·exact .inr (by omega)
 have hS':Mt (sw R i ps.length) (sw S i ps.length):=by
  rcases hS with rfl|e
  ·exact .inl rfl
  ·exact .inr (by rw[QX,QX];exact e)
 have e0:Xe k (R,S,ps)=((clN ps.length k (sw R i ps.length,sw S i ps.length) R.length).1,(clN ps.length k (sw R i ps.length,sw S i ps.length) R.length).2,ps++[k]):=by
  unfold Xe
  simp only[hf]
 obtain⟨c1,c2⟩:=row_clN (t:=ps.length) hS' (by rw[QX];exact ht) k R.length (by rw[QX];exact Nat.le_refl _)
 obtain⟨l1,l2⟩:=Z8 ps.length k (sw R i ps.length,sw S i ps.length) R.length
 have l1:(clN ps.length k (sw R i ps.length,sw S i ps.length) R.length).1.length=R.length:=l1.trans (QX _ _ _)
 have l2:(clN ps.length k (sw R i ps.length,sw S i ps.length) R.length).2.length=S.length:=l2.trans (QX _ _ _)
 have q1:row (sw R i ps.length)=fun j=>row R (pm i ps.length j):=funext fun j=>row_sw hi ht j
 have q2:row (sw S i ps.length)=fun j=>row S (pm i ps.length j):=funext fun j=>row_sw2 hi ht hS j
 rw[q1]at c1
 rw[q1,q2]at c2
 generalize (clN ps.length k (sw R i ps.length,sw S i ps.length) R.length).1=R' at*
 generalize (clN ps.length k (sw R i ps.length,sw S i ps.length) R.length).2=S' at*
 have ptt:pm i ps.length ps.length=i:=by unfold pm;rw[if_pos rfl]
 have pge:∀j,ps.length≤pm i ps.length j↔ps.length≤j:=fun j=>by
  unfold pm
  split
  ·omega
  ·split<;>omega
 have plt:∀j,j<ps.length→pm i ps.length j=j:=fun j hj=>by
  unfold pm
  rw[if_neg (by omega),if_neg (by omega)]
 have val:∀j m,row R' j m=if j≠ps.length∧row R (pm i ps.length j) k=true then Bool.xor (row R (pm i ps.length j) m) (row R i m) else row R (pm i ps.length j) m:=fun j m=>by
  rw[c1]
  unfold clR
  by_cases hc:j≠ps.length∧row R (pm i ps.length j) k=true
  ·have hj:j<R.length:=by
    have:=row_lt hc.2
    unfold pm at this
    split at this
    ·omega
    ·split at this<;>omega
   rw[if_pos ⟨hj,hc⟩,if_pos hc]
   show xr _ _ m=_
   unfold xr
   simp only[]
   rw[ptt]
  ·rw[if_neg (fun h=>hc h.2),if_neg hc]
 have own:∀p,p<ps.length→∀j,row R' j (pv ps p)=(j==p):=fun p hp j=>by
  have o:=h.own p hp
  have o1:row R (pm i ps.length j) (pv ps p)=(j==p):=by
   have:=o (pm i ps.length j)
   simp only at this
   rw[this]
   by_cases hj:j<ps.length
   ·rw[plt j hj]
   ·have h1:=(pge j).2 (by omega)
    have h2:(pm i ps.length j==p)=false:=by simp;omega
    have h3:(j==p)=false:=by simp;omega
    rw[h2,h3]
  have o2:row R i (pv ps p)=false:=by
   have:=o i
   simp only at this
   rw[this];simp;omega
  rw[val,o1,o2]
  simp
 have new:∀j,row R' j k=(j==ps.length):=fun j=>by
  rw[val,f3]
  by_cases e:j=ps.length
  ·subst e
   rw[if_neg (fun h=>absurd rfl h.1),ptt,f3];simp
  ·have e':(j==ps.length)=false:=by simp;omega
   rw[e']
   cases hv:row R (pm i ps.length j) k with
   |true=>simp[e]
   |false=>simp
 refine⟨?_,?_,?_,?_⟩
 rotate_left 3
 ·intro hd j
  rw[e0]
  simp only
  rw[c2]
  unfold clR
  split
  ·exact WG (hd _) (hd _)
  ·exact hd _
 ·rw[e0]
  refine⟨l1.trans lr,l2.trans ls,?_,?_,?_,?_,?_,?_⟩
  ·simp only[List.length_append,List.length_cons,List.length_nil];omega
  ·intro p hp
   simp only[List.length_append,List.length_cons,List.length_nil]at hp⊢
   by_cases e:p=ps.length
   ·subst e;rw[pv_new];omega
   ·rw[pv_old (by omega)]
    have:=h.lk p (show p<ps.length by omega)
    simp only at this
    omega
  ·intro p q hpq hq
   simp only[List.length_append,List.length_cons,List.length_nil]at hq⊢
   rw[pv_old (show p<ps.length by omega)]
   by_cases e:q=ps.length
   ·subst e;rw[pv_new]
    exact h.lk p (show p<ps.length by omega)
   ·rw[pv_old (show q<ps.length by omega)]
    exact h.inc p q hpq (show q<ps.length by omega)
  ·intro p hp j
   simp only[List.length_append,List.length_cons,List.length_nil]at hp⊢
   by_cases e:p=ps.length
   ·subst e;rw[pv_new];exact new j
   ·rw[pv_old (show p<ps.length by omega)];exact own p (by omega) j
  ·intro a j ha hj
   simp only[List.length_append,List.length_cons,List.length_nil]at ha⊢
   by_cases e:j=k
   ·subst e;rw[new];simp;omega
   ·have z1:=h.zero (pm i ps.length a) j ((pge a).2 (by omega)) (by omega)
    have z2:=h.zero i j f1 (by omega)
    simp only at z1 z2
    rw[val,z1,z2];simp
  ·intro a m hm
   have z1:=h.sup (pm i ps.length a) m hm
   have z2:=h.sup i m hm
   simp only at z1 z2⊢
   rw[val,z1,z2];simp
 ·intro x y
  rw[e0]
  show(∀j,_)↔∀j,_
  simp only
  have t1:∀j,(dot c (row R' j) x=dot d (row S' j) y)↔((if j<R.length∧j≠ps.length∧row R (pm i ps.length j) k=true then (Bool.xor (dot c (row R (pm i ps.length j)) x) (dot c (row R i) x)=Bool.xor (dot d (row S (pm i ps.length j)) y) (dot d (row S i) y)) else dot c (row R (pm i ps.length j)) x=dot d (row S (pm i ps.length j)) y)):=fun j=>by
   rw[c1,c2]
   unfold clR
   split
   ·rw[xr_dot,xr_dot]
    simp only[]
    rw[ptt]
   ·rfl
  constructor
  ·intro H
   have Ht:dot c (row R i) x=dot d (row S i) y:=by
    have:=(t1 ps.length).1 (H ps.length)
    rw[if_neg (fun h=>absurd rfl h.2.1),ptt]at this
    exact this
   have Hp:∀j,dot c (row R (pm i ps.length j)) x=dot d (row S (pm i ps.length j)) y:=fun j=>by
    have:=(t1 j).1 (H j)
    split at this
    ·rw[Ht]at this
     exact Bool.xor_left_inj.1 this
    ·exact this
   intro j
   have hpp:pm i ps.length (pm i ps.length j)=j:=by
    unfold pm
    by_cases h1:j=ps.length
    ·subst h1
     rw[if_pos rfl]
     by_cases h2:i=ps.length
     ·rw[if_pos h2,h2]
     ·rw[if_neg h2,if_pos rfl]
    ·rw[if_neg h1]
     by_cases h2:j=i
     ·rw[if_pos h2,if_pos rfl,h2]
     ·rw[if_neg h2,if_neg h1,if_neg h2]
   have:=Hp (pm i ps.length j)
   rw[hpp]at this
   exact this
  ·intro H j
   rw[t1]
   split
   ·rw[H,H]
   ·exact H _
 ·rw[e0]
theorem Yi{c k r s:Nat}{st:St}(h:Inv c k r s st)(hf:fnd (fun i=>row st.1 i k) (st.1.length - st.2.2.length) st.2.2.length=none):
  Inv c (k+1) r s st∧Xe k st=st:=by
 have hn:=UE hf
 have lt:=h.lt
 have lr:=h.lr
 refine⟨⟨h.lr,h.ls,h.lt,fun p hp=>by have:=h.lk p hp;omega,h.inc,h.own,fun i j hi hj=> ?_,h.sup⟩,?_⟩
 ·by_cases e:j=k
  ·subst e
   rcases Nat.lt_or_ge i st.1.length with hl|hl
   ·exact hn i hi (by omega)
   ·rw[ZB hl]
  ·exact h.zero i j hi (by omega)
 ·unfold Xe
  rw[hf]
theorem JP{c d:Nat}{R S:List Q7}(sR:Ql c R)(hS:Mt R S):∀k,Inv c k R.length S.length (rd R S k)∧∀x y,Eqs c d (rd R S k).1 (rd R S k).2.1 x y↔Eqs c d R S x y
 |0=>⟨⟨rfl,rfl,Nat.zero_le _,fun p hp=>absurd hp (Nat.not_lt_zero _),fun p q _ hq=>absurd hq (Nat.not_lt_zero _),fun p hp=>absurd hp (Nat.not_lt_zero _),fun i j _ hj=>absurd hj (Nat.not_lt_zero _),ZV sR⟩,fun x y=>Iff.rfl⟩
 |k+1=>by
  obtain⟨h1,h2⟩:=JP (d:=d) sR hS k
  simp only[rd]
  cases hf:fnd (fun i=>row (rd R S k).1 i k) ((rd R S k).1.length - (rd R S k).2.2.length) (rd R S k).2.2.length with
  |some i=>
   have:=Yh (d:=d) h1 (by
    rcases hS with e|e
    ·left;rw[e];rfl
    ·right;exact e) hf
   exact⟨this.1,fun x y=>(this.2.1 x y).trans (h2 x y)⟩
  |none=>
   have:=Yi h1 hf
   rw[this.2]
   exact⟨this.1,h2⟩
theorem rd_sup{c d:Nat}{R S:List Q7}(sR:Ql c R)(sS:Ql d S)(hS:Mt R S):∀k i,Sup d (row (rd R S k).2.1 i)
 |0=>ZV sS
 |k+1=>by
  have ih:=rd_sup sR sS hS k
  have inv:=(JP (d:=d) sR hS k).1
  simp only[rd]
  cases hf:fnd (fun i=>row (rd R S k).1 i k) ((rd R S k).1.length - (rd R S k).2.2.length) (rd R S k).2.2.length with
  |some i=>
   exact(Yh (d:=d) inv (by
    rcases hS with e|e
    ·left;rw[e];rfl
    ·right;exact e) hf).2.2.2 ih
  |none=>
   rw[(Yi inv hf).2]
   exact ih
end Gf
end Go.Proofs.Ytddaobhpffpmoaa
namespace Go.Proofs.Ytddaobhpffpmoaa
open Go.Abs
namespace Gf
theorem red76{c d:Nat}{R S:List Q7}(hc:c≤4096)(hd:d≤4096)(hR:R.length≤4096)(sR:Ql c R)(hS:Mt R S):
  M76.m ⟨c,mr c R,mr d S⟩=some (mr c (rd R S c).1,mr d (rd R S c).2.1,0,R.length,R.length,0,S.length,S.length,0,(rd R S c).2.2.length,(rd R S c).2.2.map fun(x:Nat)=>(x:Int)):=by
 have key:=QR (step:=M76.s0) (fun k=>⟨c,k,c,mr c R,mr c (rd R S k).1,mr d (rd R S k).2.1,0,R.length,R.length,0,S.length,S.length,0,(rd R S k).2.2.length,(rd R S k).2.2.map fun(x:Nat)=>(x:Int)⟩) c
  (y:=⟨c,mr c R,mr c (rd R S c).1,mr d (rd R S c).2.1,0,R.length,R.length,0,S.length,S.length,0,(rd R S c).2.2.length,(rd R S c).2.2.map fun(x:Nat)=>(x:Int)⟩) (fun k hk=>by
   have e1:decide ((k:Int)<(c:Int))=true:=by simpa using hk
   have inv:=(JP (d:=d) sR hS k).1
   have l1:=inv.lr
   have l2:=inv.ls
   have l3:=inv.lt
   have hS':Mt (rd R S k).1 (rd R S k).2.1:=by
    rcases hS with e|e
    ·exact .inl (List.length_eq_zero_iff.1 (by rw[l2,e];rfl))
    ·exact .inr (by omega)
   simp only[rd]
   generalize rd R S k=st at*
   obtain⟨R',S',ps⟩:=st
   simp only at l1 l2 l3 hS'⊢
   have f:=find76 (c:=c) (d:=d) (k:=k) (cp:=R.length) (cq:=S.length) (R:=R') (S:=S') (ps:=ps.map fun(x:Nat)=>(x:Int)) (r0:=mr c R) hc hd (by omega) hk hS' (by rw[List.length_map];omega)
   rw[List.length_map,l1,l2]at f
   unfold M76.s0
   simp only[e1,cond_true,f,Q0]
   unfold Xe
   simp only[l1]
   cases fnd (fun i=>row R' i k) (R.length - ps.length) ps.length with
   |some i=>simp only[J6,suc (show k<9000000000000000000 by omega),List.map_append,List.map_cons,List.map_nil,List.length_append,List.length_cons,List.length_nil,Nat.zero_add]
   |none=>simp only[J6,suc (show k<9000000000000000000 by omega)]) (by
   have e1:decide ((c:Int)<(c:Int))=false:=by simp
   unfold M76.s0
   simp only[e1,cond_false])
 have key:iter M76.s0 ⟨c,0,c,mr c R,mr c R,mr d S,0,R.length,R.length,0,S.length,S.length,0,0,[]⟩=_:=key
 have hSl:S.length≤4096:=by
  rcases hS with e|e
  ·rw[e];simp
  ·omega
 have e1:∀n:Nat,n≤4096→(decide (0≤(n:Int))&&decide ((n:Int)≤(n:Int))&&decide ((n:Int)*(↑32:Int)≤281474976710656)&&decide ((n:Int)≤9223372036854775807))=true:=fun n hn=>by simp;omega
 have e2:∀n:Nat,leB (0+n) (List.replicate n ((0,[]):Int×List Int)).length=true:=fun n=>by simp[leB]
 have e3:∀(k:Nat) (Q:List Q7),List.take 0 (List.replicate Q.length ((0,[]):Int×List Int))++List.take (min Q.length Q.length) (mr k Q)++List.drop (0+min Q.length Q.length) (List.replicate Q.length (0,[]))=mr k Q:=fun k Q=>by
  rw[Nat.min_self,List.take_zero,List.nil_append,List.take_of_length_le (l:=mr k Q) (by rw[Q6];exact Nat.le_refl _),List.drop_of_length_le (by simp),List.append_nil]
 unfold M76.m
 simp only[Q6,Int.toNat_natCast,e1 _ hR,e1 _ hSl,e2,cond_true,e3,key,Q0]
theorem find76o{c d k cp cq:Nat}{R S:List Q7}{ps:List Int}{r0 m0:List (Int×List Int)}(hc:c≤4096)(hd:d≤4096)(hR:R.length≤4096)(hk:k<c)(hS:S=[]∨S.length=R.length)(hp:ps.length≤R.length):
  iter M76o.s1 ⟨c,k,k,((ps.length:Nat):Int),((ps.length:Nat):Int),m0,c,r0,mr c R,mr d S,0,R.length,cp,0,S.length,cq,0,ps.length,ps⟩=
   some (match fnd (fun i=>row R i k) (R.length - ps.length) ps.length with
    |some i=>.inr ⟨c,k,m0,c,r0,mr c (clN ps.length k (sw R i ps.length,sw S i ps.length) R.length).1,mr d (clN ps.length k (sw R i ps.length,sw S i ps.length) R.length).2,0,R.length,cp,0,S.length,cq,0,ps.length+1,ps++[(k:Int)]⟩
    |none=>.inl ⟨c,k,m0,c,r0,mr c R,mr d S,0,R.length,cp,0,S.length,cq,0,ps.length,ps⟩):=by
 have hend:M76o.s1 ⟨c,k,k,((ps.length:Nat):Int),((R.length:Nat):Int),m0,c,r0,mr c R,mr d S,0,R.length,cp,0,S.length,cq,0,ps.length,ps⟩=some (.inr (.inl ⟨c,k,m0,c,r0,mr c R,mr d S,0,R.length,cp,0,S.length,cq,0,ps.length,ps⟩)):=by
  have e0:decide ((R.length:Int)<(R.length:Int))=false:=by simp
  unfold M76o.s1
  simp only[e0,cond_false]
 rcases Nat.lt_or_ge ps.length R.length with ht|ht
 rotate_left
 ·have e:ps.length=R.length:=by omega
  have e2:R.length - ps.length=0:=by omega
  rw[e2]
  unfold fnd
  have hend':=hend
  rw[←e]at hend'⊢
  rw[iter_eq,hend']
 refine KF (step:=M76o.s1) (fun i=>⟨c,k,k,((ps.length:Nat):Int),(i:Int),m0,c,r0,mr c R,mr d S,0,R.length,cp,0,S.length,cq,0,ps.length,ps⟩) R.length (fun i=>row R i k)
  (fun i=>.inr ⟨c,k,m0,c,r0,mr c (clN ps.length k (sw R i ps.length,sw S i ps.length) R.length).1,mr d (clN ps.length k (sw R i ps.length,sw S i ps.length) R.length).2,0,R.length,cp,0,S.length,cq,0,ps.length+1,ps++[(k:Int)]⟩) (fun i hi hP=> ?_) (fun i hi hP=> ?_) ?_ _ _ (by omega)
 ·have e0:decide ((i:Int)<(R.length:Int))=true:=by simpa using hi
  have e1:decide (0+i<(mr c R).length)=true:=by rw[Q6];simpa using hi
  rw[Jf hi]at hP
  have e1':decide (i<(mr c R).length)=true:=by rw[Q6];simpa using hi
  unfold M76o.s1
  simp only[e0,QD hi,Int.toNat_natCast,e1',cond_true,Nat.zero_add,mr_at' hi,has (n:=c) (i:=k) (c:Int) R[i] (by omega) (by unfold nw;omega),Q0,hP,Bool.not_false,suc (show i<9000000000000000000 by omega)]
 ·have e0:decide ((i:Int)<(R.length:Int))=true:=by simpa using hi
  have e1':decide (i<(mr c R).length)=true:=by rw[Q6];simpa using hi
  rw[Jf hi]at hP
  have hsw:(sw S i ps.length)=[]∨(sw S i ps.length).length=(sw R i ps.length).length:=by
   rcases hS with rfl|h
   ·exact .inl rfl
   ·exact .inr (by rw[QX,QX];exact h)
  have hcl:=j7 (cp:=cp) (cq:=cq) (pl:=0) (pn:=ps.length) (R:=sw R i ps.length) (S:=sw S i ps.length) (ps:=ps) (top:=ps.length) (k:=k) hc hd (by rw[QX];exact hR) (by rw[QX];exact ht) hk hsw
  rw[QX,QX]at hcl
  have e5:(eqN 0 0&&eqN ps.length ps.length&&QP (ps.length+1) 8)=true:=by
   have g1:eqN ps.length ps.length=true:=by simp[eqN]
   have g2:QP (ps.length+1) 8=true:=by simp[QP,leB];omega
   rw[g1,g2];rfl
  unfold M76o.s1
  simp only[e0,QD hi,Int.toNat_natCast,e1',cond_true,Nat.zero_add,mr_at' hi,has (n:=c) (i:=k) (c:Int) R[i] (by omega) (by unfold nw;omega),Q0,hP,Bool.not_true,cond_false,swap101 (R:=R) (S:=S) hi ht hS,hcl,e5]
 ·exact hend
theorem red76o{c d q:Nat}{R S:List Q7}(hc:c≤4096)(hd:d≤4096)(hR:R.length≤4096)(sR:Ql c R)(hS:Mt R S):
  M76o.m ⟨c,mr c R,0,S.length,q,mr d S⟩=some (mr d S,mr c (rd R S c).1,mr d (rd R S c).2.1,0,R.length,R.length,0,S.length,S.length,0,(rd R S c).2.2.length,(rd R S c).2.2.map fun(x:Nat)=>(x:Int)):=by
 have key:=QR (step:=M76o.s0) (fun k=>⟨c,k,mr d S,c,mr c R,mr c (rd R S k).1,mr d (rd R S k).2.1,0,R.length,R.length,0,S.length,S.length,0,(rd R S k).2.2.length,(rd R S k).2.2.map fun(x:Nat)=>(x:Int)⟩) c
  (y:=⟨mr d S,c,mr c R,mr c (rd R S c).1,mr d (rd R S c).2.1,0,R.length,R.length,0,S.length,S.length,0,(rd R S c).2.2.length,(rd R S c).2.2.map fun(x:Nat)=>(x:Int)⟩) (fun k hk=>by
   have e1:decide ((k:Int)<(c:Int))=true:=by simpa using hk
   have inv:=(JP (d:=d) sR hS k).1
   have l1:=inv.lr
   have l2:=inv.ls
   have l3:=inv.lt
   have hS':Mt (rd R S k).1 (rd R S k).2.1:=by
    rcases hS with e|e
    ·exact .inl (List.length_eq_zero_iff.1 (by rw[l2,e];rfl))
    ·exact .inr (by omega)
   simp only[rd]
   generalize rd R S k=st at*
   obtain⟨R',S',ps⟩:=st
   simp only at l1 l2 l3 hS'⊢
   have f:=find76o (c:=c) (d:=d) (k:=k) (cp:=R.length) (cq:=S.length) (R:=R') (S:=S') (ps:=ps.map fun(x:Nat)=>(x:Int)) (r0:=mr c R) (m0:=mr d S) hc hd (by omega) hk hS' (by rw[List.length_map];omega)
   rw[List.length_map,l1,l2]at f
   unfold M76o.s0
   simp only[e1,cond_true,f,Q0]
   unfold Xe
   simp only[l1]
   cases fnd (fun i=>row R' i k) (R.length - ps.length) ps.length with
   |some i=>simp only[J6,suc (show k<9000000000000000000 by omega),List.map_append,List.map_cons,List.map_nil,List.length_append,List.length_cons,List.length_nil,Nat.zero_add]
   |none=>simp only[J6,suc (show k<9000000000000000000 by omega)]) (by
   have e1:decide ((c:Int)<(c:Int))=false:=by simp
   unfold M76o.s0
   simp only[e1,cond_false])
 have key:iter M76o.s0 ⟨c,0,mr d S,c,mr c R,mr c R,mr d S,0,R.length,R.length,0,S.length,S.length,0,0,[]⟩=_:=key
 have hSl:S.length≤4096:=by
  rcases hS with e|e
  ·rw[e];simp
  ·omega
 have e1:∀n:Nat,n≤4096→(decide (0≤(n:Int))&&decide ((n:Int)≤(n:Int))&&decide ((n:Int)*(↑32:Int)≤281474976710656)&&decide ((n:Int)≤9223372036854775807))=true:=fun n hn=>by simp;omega
 have e2:∀n:Nat,leB (0+n) (List.replicate n ((0,[]):Int×List Int)).length=true:=fun n=>by simp[leB]
 have e3:∀(k:Nat) (Q:List Q7),List.take 0 (List.replicate Q.length ((0,[]):Int×List Int))++List.take (min Q.length Q.length) (mr k Q)++List.drop (0+min Q.length Q.length) (List.replicate Q.length (0,[]))=mr k Q:=fun k Q=>by
  rw[Nat.min_self,List.take_zero,List.nil_append,List.take_of_length_le (l:=mr k Q) (by rw[Q6];exact Nat.le_refl _),List.drop_of_length_le (by simp),List.append_nil]
 have e4:leB (0+S.length) S.length=true:=by simp[leB]
 have e5:List.take S.length (List.drop 0 (mr d S))=mr d S:=by rw[List.drop_zero,List.take_of_length_le (by rw[Q6];exact Nat.le_refl _)]
 unfold M76o.m
 simp only[Q6,Int.toNat_natCast,e1 _ hR,e1 _ hSl,e2,e4,e5,Bool.and_self,cond_true,e3,key,Q0]
end Gf
end Go.Proofs.Ytddaobhpffpmoaa
namespace Go.Proofs.Ytddaobhpffpmoaa
open Go.Abs
namespace Gf
theorem iter_to{X Y:Type}{step:X→Option (X⊕Y)}(S:Nat→X):∀k,(∀i,i<k→step (S i)=some (.inl (S (i+1))))→iter step (S 0)=iter step (S k)
 |0,_=>rfl
 |k+1,h=>by
  rw[iter_to S k fun i hi=>h i (by omega),iter_eq,h k (by omega)]
def ints(ps:List Nat):List Int:=ps.map fun(x:Nat)=>(x:Int)
theorem Qw(ps:List Nat):(ints ps).length=ps.length:=by simp[ints]
theorem ints_at{ps:List Nat}{s:Nat}(h:s<ps.length):(ints ps)[s]?.getD 0=((pv ps s:Nat):Int):=by
 unfold ints pv
 rw[List.getElem?_map,List.getElem?_eq_getElem h];rfl
theorem contains{ps:List Nat}(k:Nat)(hl:ps.length≤4096):M77.m ⟨ints ps,k⟩=some (decide (k∈ps)):=by
 have he:M103.s0 ⟨ints ps,k,((ps.length:Nat):Int),((ps.length:Nat):Int)⟩=some (.inr (.inl PUnit.unit)):=by
  have e1:decide (((ps.length:Nat):Int)<((ps.length:Nat):Int))=false:=by simp
  unfold M103.s0
  simp only[e1,cond_false]
 have st:∀i (hi:i<ps.length),M103.s0 ⟨ints ps,k,((ps.length:Nat):Int),(i:Int)⟩=if ps[i]=k then some (.inr (.inr ⟨(i:Int)⟩)) else some (.inl ⟨ints ps,k,((ps.length:Nat):Int),((i+1:Nat):Int)⟩):=fun i hi=>by
  have e1:decide ((i:Int)<((ps.length:Nat):Int))=true:=by simpa using hi
  have e2:inR (i:Int) (ints ps).length=true:=QD (by rw[Qw];exact hi)
  have e3:pv ps i=ps[i]:=by unfold pv;rw[List.getElem?_eq_getElem hi];rfl
  unfold M103.s0
  simp only[e1,e2,cond_true,Int.toNat_natCast,ints_at hi,suc (show i<9000000000000000000 by omega),e3]
  by_cases e:ps[i]=k
  ·have:((k:Int)==((ps[i]:Nat):Int))=true:=by rw[e];simp
   rw[if_pos e,this,cond_true]
  ·have:((k:Int)==((ps[i]:Nat):Int))=false:=by simp;omega
   rw[if_neg e,this,cond_false]
 have key:=KF (step:=M103.s0) (fun i=>⟨ints ps,k,((ps.length:Nat):Int),(i:Int)⟩) ps.length (fun i=>decide (ps[i]? =some k)) (fun i=>.inr ⟨(i:Int)⟩) (y:=.inl PUnit.unit) (fun i hi hP=>by
   rw[st i hi,if_neg]
   intro e
   rw[List.getElem?_eq_getElem hi,e]at hP
   simp at hP) (fun i hi hP=>by
   rw[st i hi,if_pos]
   rw[List.getElem?_eq_getElem hi]at hP
   simpa using hP) he ps.length 0 (by omega)
 have key:iter M103.s0 ⟨ints ps,k,((ps.length:Nat):Int),0⟩=_:=key
 unfold M77.m M103.m
 simp only[Qw,key]
 cases hf:fnd (fun i=>decide (ps[i]? =some k)) ps.length 0 with
 |some i=>
  obtain⟨_,h2,h3,_⟩:=KM hf
  have:k∈ps:=List.mem_of_getElem? (of_decide_eq_true h3)
  have e4:decide ((i:Int)≥0)=true:=by simp
  simp only[Q0,J6,e4,this,decide_true]
 |none=>
  have:¬k∈ps:=fun hm=>by
   obtain⟨i,hi,e⟩:=List.getElem_of_mem hm
   have:=UE hf i (by omega) (by omega)
   rw[List.getElem?_eq_getElem hi,e]at this
   simp at this
  simp only[Q0,J6,this,decide_false]
  rfl
theorem fl_xr(b:Q7)(i:Nat):fl b i=xr b (un i):=by
 funext k
 unfold fl xr un
 by_cases h:k=i
 ·subst h;simp
 ·have:(k==i)=false:=by simp[h]
  rw[if_neg h,this,Bool.xor_false]
theorem no_xr(b:Q7):xr (fun _=>false) b=b:=by funext k;unfold xr;simp
theorem fl_no(i:Nat):fl (fun _=>false) i=un i:=by rw[fl_xr,no_xr]
theorem Vw{c j:Nat}(h:j<c):Sup c (un j):=fun i hi=>by unfold un;simp;omega
def cmb(b:Q7)(g:Nat→Bool)(ps:List Nat):Nat→Q7
 |0=>b
 |s+1=>if g s=true then fl (cmb b g ps s) (pv ps s) else cmb b g ps s
theorem cmb_sup{c:Nat}{b:Q7}{g:Nat→Bool}{ps:List Nat}(hb:Sup c b):∀{s:Nat},(∀p,p<s→pv ps p<c)→Sup c (cmb b g ps s)
 |0,_=>hb
 |s+1,h=>by
  have ih:=cmb_sup (g:=g) (s:=s) hb fun p hp=>h p (show p<s+1 by omega)
  unfold cmb
  split
  ·rw[fl_xr];exact WG ih (Vw (h s (by omega)))
  ·exact ih
theorem Vp{c:Nat}{a b:Q7}{g:Nat→Bool}{ps:List Nat}:∀{s:Nat},(∀p,p<s→pv ps p<c)→dot c a (cmb b g ps s)=Bool.xor (dot c a b) (par (fun p=>g p&&a (pv ps p)) s)
 |0,_=>by simp[cmb,par]
 |s+1,h=>by
  have ih:=Vp (a:=a) (b:=b) (g:=g) (s:=s) fun p hp=>h p (show p<s+1 by omega)
  unfold cmb
  simp only[par]
  cases hg:g s with
  |true=>
   rw[if_pos rfl,fl_xr,dot_xr,ih,Zz _ (h s (by omega))]
   simp
  |false=>
   rw[if_neg (by simp),ih]
   simp
theorem cmb_off{b:Q7}{g:Nat→Bool}{ps:List Nat}{j:Nat}:∀{s:Nat},(∀p,p<s→pv ps p≠j)→cmb b g ps s j=b j
 |0,_=>rfl
 |s+1,h=>by
  have ih:=cmb_off (b:=b) (g:=g) (s:=s) fun p hp=>h p (show p<s+1 by omega)
  unfold cmb
  split
  ·unfold fl
   rw[if_neg (fun e=>h s (by omega) e.symm),ih]
  ·exact ih
theorem WY{ps:List Nat}{j:Nat}:j∈ps↔∃p,p<ps.length∧pv ps p=j:=by
 constructor
 ·intro h
  obtain⟨i,hi,e⟩:=List.getElem_of_mem h
  exact⟨i,hi,by unfold pv;rw[List.getElem?_eq_getElem hi];exact e⟩
 ·rintro⟨p,hp,rfl⟩
  unfold pv
  rw[List.getElem?_eq_getElem hp]
  exact List.getElem_mem hp
def fr(ps:List Nat)(k:Nat):List Nat:=(List.range k).filter fun j=>decide (¬j∈ps)
theorem Kq(ps:List Nat)(k:Nat):fr ps (k+1)=if k∈ps then fr ps k else fr ps k++[k]:=by
 unfold fr
 rw[List.range_succ,List.filter_append]
 by_cases h:k∈ps
 ·rw[if_pos h];simp[h]
 ·rw[if_neg h];simp[h]
theorem fr_le (ps : List Nat) {k c : Nat} (h : k ≤ c) : (fr ps k).length ≤ (fr ps c).length := by
 induction c with
 | zero => have : k = 0 := by omega
           subst this; exact Nat.le_refl _
 | succ c ih =>
   by_cases e : k = c + 1
   · subst e; exact Nat.le_refl _
   · have := ih (by omega)
     rw [Kq]
     split
     · exact this
     · simp; omega
theorem mem_fr{ps:List Nat}{c j:Nat}:j∈fr ps c↔j<c∧¬j∈ps:=by
 unfold fr
 rw[List.mem_filter,List.mem_range];simp
theorem YU{c:Nat}{R S:List Q7}(sR:Ql c R)(hS:Mt R S):∀k,(fr (rd R S k).2.2 k).length+(rd R S k).2.2.length=k
 |0=>rfl
 |k+1=>by
  have ih:=YU sR hS k
  have inv:=(JP (d:=0) sR hS k).1
  have hk:¬k∈(rd R S k).2.2:=fun h=>by
   obtain⟨p,hp,e⟩:=WY.1 h
   have:=inv.lk p hp
   omega
  simp only[rd]
  cases hf:fnd (fun i=>row (rd R S k).1 i k) ((rd R S k).1.length - (rd R S k).2.2.length) (rd R S k).2.2.length with
  |some i=>
   have h3:=(Yh (d:=0) inv (by
    rcases hS with e|e
    ·left;rw[e];rfl
    ·right;exact e) hf).2.2.1
   rw[h3,Kq,if_pos (by simp),List.length_append]
   have:fr ((rd R S k).2.2++[k]) k=fr (rd R S k).2.2 k:=by
    unfold fr
    refine List.filter_congr fun j hj=> ?_
    have:=List.mem_range.1 hj
    have e:j≠k:=by omega
    simp[e]
   rw[this]
   simp;omega
  |none=>
   rw[(Yi inv hf).2,Kq,if_neg hk]
   simp;omega
def rk(c:Nat)(R:List Q7):Nat:=(rd R [] c).2.2.length
theorem K8{c:Nat}{R:List Q7}(hc:c≤4096)(hR:R.length≤4096)(sR:Ql c R):M26.m ⟨c,mr c R⟩=some (((rk c R:Nat):Int),0):=by
 have h:=red76 (d:=0) (S:=[]) hc (by omega) hR sR (.inl rfl)
 have h:M76.m ⟨c,mr c R,[]⟩=_:=h
 unfold M26.m
 simp only[valid hc hR sR,Q0,nz,cond_false,h]
 rfl
def kv(R:List Q7)(ps:List Nat)(f:Nat):Q7:=cmb (un f) (fun s=>row R s f) ps ps.length
theorem qi{c:Nat}{R:List Q7}(hc:c≤4096)(hR:R.length≤4096)(sR:Ql c R):
  M25.m ⟨c,mr c R⟩=some (mr c ((fr (rd R [] c).2.2 c).map (kv (rd R [] c).1 (rd R [] c).2.2)),0):=by
 have h:=red76 (d:=0) (S:=[]) hc (by omega) hR sR (.inl rfl)
 have h:M76.m ⟨c,mr c R,[]⟩=_:=h
 have inv:=(JP (d:=0) (S:=[]) sR (.inl rfl) c).1
 have cn:=YU (S:=[]) sR (.inl rfl) c
 have l3:=inv.lt
 have l1:=inv.lr
 generalize rd R [] c=st at*
 obtain⟨R',S',ps⟩:=st
 simp only at l1 l3 cn h
 have hpc:∀p,p<ps.length→pv ps p<c:=inv.lk
 have sR':∀i,Sup c (row R' i):=inv.sup
 have inner:∀(k:Nat),k<c→∀(ol oc:Nat) (out:List (Int×List Int)),iter M25.s1 ⟨0,ol,oc,c,k,k,0,ps.length,((ps.length:Nat):Int),0,c,mr c R,mr c R',mr 0 S',0,R.length,R.length,0,0,0,0,ps.length,ints ps,out,vw c (un k),c,0,nw c,nw c⟩=
   some ⟨0,ol,oc,c,k,c,mr c R,mr c R',mr 0 S',0,R.length,R.length,0,0,0,0,ps.length,ints ps,out,vw c (kv R' ps k),c,0,nw c,nw c⟩:=fun k hk ol oc out=>by
  have key:=QR (step:=M25.s1) (fun s=>⟨0,ol,oc,c,k,k,0,ps.length,((ps.length:Nat):Int),s,c,mr c R,mr c R',mr 0 S',0,R.length,R.length,0,0,0,0,ps.length,ints ps,out,vw c (cmb (un k) (fun s=>row R' s k) ps s),c,0,nw c,nw c⟩) ps.length
   (y:=⟨0,ol,oc,c,k,c,mr c R,mr c R',mr 0 S',0,R.length,R.length,0,0,0,0,ps.length,ints ps,out,vw c (kv R' ps k),c,0,nw c,nw c⟩) (fun s hs=>by
    have e1:decide ((s:Int)<((ps.length:Nat):Int))=true:=by simpa using hs
    have e2:decide (s<(ints ps).length)=true:=by rw[Qw];simpa using hs
    have e3:inR (s:Int) R.length=true:=QD (by omega)
    have e4:decide (s<(mr c R').length)=true:=by rw[Q6];simp;omega
    have e5:=has (n:=c) (i:=k) (c:Int) (row R' s) (by omega) (by unfold nw;omega)
    have e6:(mr c R')[s]?.getD (0,[])=((c:Int),vw c (row R' s)):=by rw[mr_at' (show s<R'.length by omega),Jf (show s<R'.length by omega)]
    have e7:=hpc s hs
    unfold M25.s1
    simp only[e1,QD hs,e2,e3,e4,cond_true,Int.toNat_natCast,Nat.zero_add,e6,e5,Q0,ints_at hs,suc (show s<9000000000000000000 by omega)]
    cases hb:row R' s k with
    |true=>simp only[cond_true,turn (n:=c) (i:=pv ps s) (c:Int) (nw c) _ (by omega) (show pv ps s / 64<nw c by unfold nw;omega),cmb,hb,if_true]
    |false=>simp only[cond_false,cmb,hb,Bool.false_eq_true,if_false]) (by
    have e1:decide (((ps.length:Nat):Int)<((ps.length:Nat):Int))=false:=by simp
    unfold M25.s1
    simp only[e1,cond_false]
    rfl)
  exact key
 have hcap:IntKind.i64.wrap ((c:Int) - ((ps.length:Nat):Int))=(((fr ps c).length:Nat):Int):=by rw[w64 (by omega) (by omega)];omega
 have key:=QR (step:=M25.s0) (fun k=>⟨0,(fr ps k).length,(fr ps c).length,c,k,c,mr c R,mr c R',mr 0 S',0,R.length,R.length,0,0,0,0,ps.length,ints ps,mr c ((fr ps k).map (kv R' ps))++List.replicate ((fr ps c).length - (fr ps k).length) (0,[])⟩) c
  (y:=⟨0,(fr ps c).length,(fr ps c).length,c,mr c R,mr c R',mr 0 S',0,R.length,R.length,0,0,0,0,ps.length,ints ps,mr c ((fr ps c).map (kv R' ps))⟩) (fun k hk=>by
   have e1:decide ((k:Int)<(c:Int))=true:=by simpa using hk
   have e2:leB (0+ps.length) (ints ps).length=true:=by simp[leB,Qw]
   have e3:List.take ps.length (List.drop 0 (ints ps))=ints ps:=by rw[List.drop_zero,List.take_of_length_le (by rw[Qw];exact Nat.le_refl _)]
   have hle:=fr_le ps (show k+1≤c by omega)
   unfold M25.s0
   simp only[e1,e2,e3,Bool.and_self,cond_true,contains k (show ps.length≤4096 by omega),Q0]
   rw[Kq]at hle⊢
   by_cases hm:k∈ps
   ·simp only[hm,decide_true,cond_true,if_true,suc (show k<9000000000000000000 by omega)]
   ·rw[if_neg hm]at hle
    simp only[List.length_append,List.length_cons,List.length_nil]at hle
    have e4:leB ((fr ps k).length+1) (fr ps c).length=true:=by simp[leB];omega
    have e5:leB (0+(fr ps c).length) (mr c ((fr ps k).map (kv R' ps))++List.replicate ((fr ps c).length - (fr ps k).length) ((0,[]):Int×List Int)).length=true:=by simp[leB,Q6];omega
    have e6:List.take (0+(fr ps k).length) (mr c ((fr ps k).map (kv R' ps))++List.replicate ((fr ps c).length - (fr ps k).length) ((0,[]):Int×List Int))++((c:Int),vw c (kv R' ps k))::List.drop (0+(fr ps k).length+1) (mr c ((fr ps k).map (kv R' ps))++List.replicate ((fr ps c).length - (fr ps k).length) ((0,[]):Int×List Int))=
      mr c ((fr ps k++[k]).map (kv R' ps))++List.replicate ((fr ps c).length - ((fr ps k).length+1)) (0,[]):=by
     have hl:(fr ps k).length=(mr c ((fr ps k).map (kv R' ps))).length:=by rw[Q6,List.length_map]
     rw[Nat.zero_add]
     conv=>lhs;rw[hl]
     rw[List.take_left',List.drop_append,List.drop_of_length_le (by omega)]
     ·have:mr c ((fr ps k++[k]).map (kv R' ps))=mr c ((fr ps k).map (kv R' ps))++[((c:Int),vw c (kv R' ps k))]:=by unfold mr;rw[List.map_append,List.map_append];rfl
      rw[this,List.append_assoc]
      congr 1
      simp only[List.nil_append,List.cons_append,List.drop_replicate]
      congr 2
      omega
     ·rfl
    simp only[hm,decide_false,cond_false,if_false,blank c (show c≤1000000 by omega),turn (n:=c) (i:=k) (c:Int) (nw c) _ (show c≤1000000 by omega) (show k / 64<nw c by unfold nw;omega),fl_no,inner k hk,e4,e5,e6,Jr,JD,Bool.and_self,cond_true,suc (show k<9000000000000000000 by omega)]
    simp only[List.length_append,List.length_cons,List.length_nil,Nat.zero_add]) (by
   have e1:decide ((c:Int)<(c:Int))=false:=by simp
   unfold M25.s0
   simp only[e1,cond_false,Nat.sub_self,List.replicate_zero,List.append_nil])
 have key:iter M25.s0 ⟨0,0,(fr ps c).length,c,0,c,mr c R,mr c R',mr 0 S',0,R.length,R.length,0,0,0,0,ps.length,ints ps,List.replicate (fr ps c).length (0,[])⟩=_:=key
 have e7:(decide (0≤(((fr ps c).length:Nat):Int))&&decide ((((fr ps c).length:Nat):Int)*(↑32:Int)≤281474976710656)&&decide ((((fr ps c).length:Nat):Int)≤9223372036854775807))=true:=by simp;omega
 have e8:leB (0+(fr ps c).length) (mr c ((fr ps c).map (kv R' ps))).length=true:=by simp[leB,Q6]
 have e9:List.take (fr ps c).length (List.drop 0 (mr c ((fr ps c).map (kv R' ps))))=mr c ((fr ps c).map (kv R' ps)):=by rw[List.drop_zero,List.take_of_length_le (by rw[Q6,List.length_map];exact Nat.le_refl _)]
 have h:M76.m ⟨c,mr c R,[]⟩=some (mr c R',mr 0 S',0,R.length,R.length,0,0,0,0,ps.length,ints ps):=h
 unfold M25.m
 simp only[valid hc hR sR,Q0,nz,cond_false,h,hcap,e7,cond_true,Int.toNat_natCast,key,e8,e9,Bool.and_self]
end Gf
end Go.Proofs.Ytddaobhpffpmoaa
namespace Go.Proofs.Ytddaobhpffpmoaa
open Go.Abs
namespace Gf
def sd(b:Q7)(r:Nat):List Q7:=(List.range r).map fun i=>fun j=>j==0&&b i
theorem Jk(b:Q7)(r:Nat):(sd b r).length=r:=by simp[sd]
theorem sd_row(b:Q7){r i:Nat}(h:i<r)(j:Nat):row (sd b r) i j=(j==0&&b i):=by
 unfold row sd
 rw[List.getElem?_map,List.getElem?_range h];rfl
def sol(S:List Q7)(ps:List Nat):Q7:=cmb (fun _=>false) (fun s=>row S s 0) ps ps.length
theorem side22{c r:Nat}{R:List (Int×List Int)}{b:Q7}(hr:r≤4096):
  iter M22.s0 ⟨0,r,r,r,0,c,R,r,vw r b,List.replicate r (0,[])⟩=some ⟨0,r,r,c,R,r,vw r b,mr 1 (sd b r)⟩:=by
 have hm:∀i,i<r→(fun j=>j==0&&b i)=(if b i=true then fl (fun _=>false) 0 else fun _=>false):=fun i _=>by
  funext j
  cases hb:b i with
  |true=>rw[if_pos rfl,fl_no];unfold un;simp
  |false=>simp
 have key:=QR (step:=M22.s0) (fun i=>⟨0,r,r,r,(i:Int),c,R,r,vw r b,mix (fun i=>((1:Int),vw 1 (fun j=>j==0&&b i))) (fun _=>(0,[])) i r⟩) r
  (y:=⟨0,r,r,c,R,r,vw r b,mr 1 (sd b r)⟩) (fun i hi=>by
   have e1:decide ((i:Int)<(r:Int))=true:=by simpa using hi
   have ms:=Y3 (fun i=>((1:Int),vw 1 (fun j=>j==0&&b i))) (fun _=>((0:Int),([]:List Int))) hi
   have ml:=JW (fun i=>((1:Int),vw 1 (fun j=>j==0&&b i))) (fun _=>((0:Int),([]:List Int))) i r
   rw[←ms]
   generalize mix (fun i=>((1:Int),vw 1 (fun j=>j==0&&b i))) (fun _=>((0:Int),([]:List Int))) i r=out at ml⊢
   have e2:decide (0+i<out.length)=true:=by rw[ml];simpa using hi
   have e3:eqN (0+i) (List.take (0+i) out).length=true:=by simp[eqN,ml];omega
   have e4:=blank 1 (show 1≤1000000 by omega)
   have e4:M73.m ⟨1⟩=some (1,0,nw 1,nw 1,vw 1 fun _=>false):=e4
   have e5:=turn (n:=1) (i:=0) (1:Int) (nw 1) (fun _=>false) (by omega) (by decide)
   have e5:M75.m ⟨1,0,nw 1,nw 1,0,vw 1 fun _=>false⟩=some (vw 1 (fl (fun _=>false) 0)):=e5
   have e6:=hm i hi
   unfold M22.s0
   simp only[e1,e4,Q0,QD hi,e2,e3,cond_true,Int.toNat_natCast,has (n:=r) (i:=i) (r:Int) b (by omega) (by unfold nw;omega),e5,suc (show i<9000000000000000000 by omega)]
   rw[e6]
   cases hb:b i with
   |true=>
    have l1:leB (0+nw 1) (vw 1 (fl (fun _=>false) 0)).length=true:=Jr 1 _
    simp only[cond_true,l1,JD,Bool.and_self,if_true]
    rw[Nat.zero_add,Z1 (by omega)]
   |false=>
    have l1:leB (0+nw 1) (vw 1 (fun _=>false)).length=true:=Jr 1 _
    simp only[cond_false,l1,JD,Bool.and_self,cond_true,Bool.false_eq_true,if_false]
    rw[Nat.zero_add,Z1 (by omega)]) (by
   have e1:decide ((r:Int)<(r:Int))=false:=by simp
   have e2:mix (fun i=>((1:Int),vw 1 (fun j=>j==0&&b i))) (fun _=>((0:Int),([]:List Int))) r r=mr 1 (sd b r):=by
    rw[ZG]
    unfold mr sd
    rw[List.map_map];rfl
   unfold M22.s0
   simp only[e1,cond_false,e2])
 rw[ZF,XH (fun _=>((0:Int),([]:List Int)))]at key
 exact key
def bad(S:List Q7)(t r:Nat):Bool:=(fnd (fun i=>row S i 0) (r - t) t).isSome
theorem VX{c:Nat}{R:List Q7}{b:Q7}(hc:c≤4096)(hR:R.length≤4096)(sR:Ql c R)(sb:Sup R.length b):
  M22.m ⟨c,mr c R,R.length,vw R.length b⟩=
   some (if bad (rd R (sd b R.length) c).2.1 (rd R (sd b R.length) c).2.2.length R.length=true then (0,[],9) else ((c:Int),vw c (sol (rd R (sd b R.length) c).2.1 (rd R (sd b R.length) c).2.2),0)):=by
 have hS:Mt R (sd b R.length):=.inr (Jk _ _)
 have h:=red76o (q:=R.length) (d:=1) hc (show 1≤4096 by omega) hR sR hS
 rw[Jk]at h
 have inv:=(JP (d:=1) sR hS c).1
 have l1:=inv.lr
 have l2:=inv.ls
 have l3:=inv.lt
 rw[Jk]at l2
 have h:=h
 generalize rd R (sd b R.length) c=st at*
 obtain⟨R',S',ps⟩:=st
 simp only at l1 l2 l3 h
 have hpc:∀p,p<ps.length→pv ps p<c:=inv.lk
 have to:=iter_to (step:=M22.s1) (fun i=>⟨0,R.length,R.length,R.length,(i:Int),c,mr c R,R.length,vw R.length b,mr 1 (sd b R.length),mr c R',mr 1 S',0,R.length,R.length,0,R.length,R.length,0,ps.length,ints ps,vw c (cmb (fun _=>false) (fun s=>row S' s 0) ps i),c,0,nw c,nw c⟩) ps.length (fun i hi=>by
  have e1:decide ((i:Int)<(R.length:Int))=true:=by simp;omega
  have e2:inR (i:Int) R.length=true:=QD (by omega)
  have e3:decide (i<(mr 1 S').length)=true:=by rw[Q6];simp;omega
  have e4:(mr 1 S')[i]?.getD (0,[])=(((1:Nat):Int),vw 1 (row S' i)):=by rw[mr_at' (show i<S'.length by omega),Jf (show i<S'.length by omega)]
  have e5:M74.m ⟨((1:Nat):Int),vw 1 (row S' i),0⟩=some (row S' i 0):=has (n:=1) (i:=0) (1:Int) (row S' i) (by omega) (by decide)
  have e6:decide ((i:Int)≥(ps.length:Int))=false:=by simp;omega
  have e7:decide (i<(ints ps).length)=true:=by rw[Qw];simpa using hi
  have e8:=hpc i hi
  unfold M22.s1
  simp only[e1,e2,Int.toNat_natCast,Nat.zero_add,e3,cond_true,e4,e5,Q0,e6,QD hi,e7,cond_false,ints_at hi,turn (n:=c) (i:=pv ps i) (c:Int) (nw c) _ (show c≤1000000 by omega) (show pv ps i / 64<nw c by unfold nw;omega),suc (show i<9000000000000000000 by omega),cmb]
  by_cases hb:row S' i 0=true
  ·simp only[hb,Bool.not_true,cond_false,if_true]
  ·simp only[eq_false_of_ne_true hb,Bool.not_false,cond_true,Bool.false_eq_true,if_false])
 have en:M22.s1 ⟨0,R.length,R.length,R.length,((R.length:Nat):Int),c,mr c R,R.length,vw R.length b,mr 1 (sd b R.length),mr c R',mr 1 S',0,R.length,R.length,0,R.length,R.length,0,ps.length,ints ps,vw c (sol S' ps),c,0,nw c,nw c⟩=some (.inr (.inl ⟨c,mr c R,R.length,vw R.length b,mr 1 (sd b R.length),mr c R',mr 1 S',0,R.length,R.length,0,R.length,R.length,0,ps.length,ints ps,vw c (sol S' ps),c,0,nw c,nw c⟩)):=by
  have e1:decide ((R.length:Int)<(R.length:Int))=false:=by simp
  unfold M22.s1
  simp only[e1,cond_false]
 have st:∀i,i<R.length→ps.length≤i→M22.s1 ⟨0,R.length,R.length,R.length,(i:Int),c,mr c R,R.length,vw R.length b,mr 1 (sd b R.length),mr c R',mr 1 S',0,R.length,R.length,0,R.length,R.length,0,ps.length,ints ps,vw c (sol S' ps),c,0,nw c,nw c⟩=
   if row S' i 0=true then some (.inr (.inr ⟨9,0⟩)) else some (.inl ⟨0,R.length,R.length,R.length,((i+1:Nat):Int),c,mr c R,R.length,vw R.length b,mr 1 (sd b R.length),mr c R',mr 1 S',0,R.length,R.length,0,R.length,R.length,0,ps.length,ints ps,vw c (sol S' ps),c,0,nw c,nw c⟩):=fun i hi hp=>by
  have e1:decide ((i:Int)<(R.length:Int))=true:=by simp;omega
  have e2:inR (i:Int) R.length=true:=QD (by omega)
  have e3:decide (i<(mr 1 S').length)=true:=by rw[Q6];simp;omega
  have e4:(mr 1 S')[i]?.getD (0,[])=(((1:Nat):Int),vw 1 (row S' i)):=by rw[mr_at' (show i<S'.length by omega),Jf (show i<S'.length by omega)]
  have e5:M74.m ⟨((1:Nat):Int),vw 1 (row S' i),0⟩=some (row S' i 0):=has (n:=1) (i:=0) (1:Int) (row S' i) (by omega) (by decide)
  have e6:decide ((i:Int)≥(ps.length:Int))=true:=by simp;omega
  unfold M22.s1
  simp only[e1,e2,Int.toNat_natCast,Nat.zero_add,e3,cond_true,e4,e5,Q0,e6,suc (show i<9000000000000000000 by omega)]
  cases row S' i 0 with
  |true=>simp only[Bool.not_true,cond_false,if_true]
  |false=>simp only[Bool.not_false,cond_true,Bool.false_eq_true,if_false]
 have from_:iter M22.s1 ⟨0,R.length,R.length,R.length,((ps.length:Nat):Int),c,mr c R,R.length,vw R.length b,mr 1 (sd b R.length),mr c R',mr 1 S',0,R.length,R.length,0,R.length,R.length,0,ps.length,ints ps,vw c (sol S' ps),c,0,nw c,nw c⟩=
   some (match fnd (fun i=>row S' i 0) (R.length - ps.length) ps.length with|some _=>.inr ⟨9,0⟩|none=>.inl ⟨c,mr c R,R.length,vw R.length b,mr 1 (sd b R.length),mr c R',mr 1 S',0,R.length,R.length,0,R.length,R.length,0,ps.length,ints ps,vw c (sol S' ps),c,0,nw c,nw c⟩):=by
  have gen:∀f i,i+f=R.length→ps.length≤i→iter M22.s1 ⟨0,R.length,R.length,R.length,(i:Int),c,mr c R,R.length,vw R.length b,mr 1 (sd b R.length),mr c R',mr 1 S',0,R.length,R.length,0,R.length,R.length,0,ps.length,ints ps,vw c (sol S' ps),c,0,nw c,nw c⟩=
    some (match fnd (fun i=>row S' i 0) f i with|some _=>.inr ⟨9,0⟩|none=>.inl ⟨c,mr c R,R.length,vw R.length b,mr 1 (sd b R.length),mr c R',mr 1 S',0,R.length,R.length,0,R.length,R.length,0,ps.length,ints ps,vw c (sol S' ps),c,0,nw c,nw c⟩):=by
   intro f
   induction f with
   |zero=>
    intro i hi _
    have:i=R.length:=by omega
    subst this
    rw[iter_eq,en];rfl
   |succ f ih=>
    intro i hi hp
    rw[iter_eq,st i (by omega) hp]
    unfold fnd
    cases row S' i 0 with
    |true=>rfl
    |false=>
     simp only[Bool.false_eq_true,if_false]
     exact ih (i+1) (by omega) (by omega)
  exact gen _ _ (by omega) (Nat.le_refl _)
 have h:M76o.m ⟨c,mr c R,0,R.length,R.length,mr 1 (sd b R.length)⟩=some (mr 1 (sd b R.length),mr c R',mr 1 S',0,R.length,R.length,0,R.length,R.length,0,ps.length,ints ps):=h
 have all:iter M22.s1 ⟨0,R.length,R.length,R.length,0,c,mr c R,R.length,vw R.length b,mr 1 (sd b R.length),mr c R',mr 1 S',0,R.length,R.length,0,R.length,R.length,0,ps.length,ints ps,vw c (fun _=>false),c,0,nw c,nw c⟩=_:=to.trans from_
 have e1:(decide (0≤(R.length:Int))&&decide ((R.length:Int)≤(R.length:Int))&&decide ((R.length:Int)*(↑32:Int)≤281474976710656)&&decide ((R.length:Int)≤9223372036854775807))=true:=by simp;omega
 unfold M22.m
 simp only[valid hc hR sR,check hR sb,Q0,nz,J2,cond_false,Q6,e1,cond_true,Int.toNat_natCast,side22 hR,h,blank c (show c≤1000000 by omega),all]
 unfold bad
 cases fnd (fun i=>row S' i 0) (R.length - ps.length) ps.length with
 |some i=>rfl
 |none=>simp only[J6,Jr,JD,Bool.and_self,cond_true,Option.isSome_none,Bool.false_eq_true,if_false]
def idm(n:Nat):List Q7:=(List.range n).map un
theorem Qj(n:Nat):(idm n).length=n:=by simp[idm]
theorem idm_row{n i:Nat}(h:i<n):row (idm n) i=un i:=by
 unfold row idm
 rw[List.getElem?_map,List.getElem?_range h];rfl
theorem UB(n:Nat):Ql n (idm n):=fun b hb=>by
 obtain⟨i,hi,rfl⟩:=List.mem_map.1 hb
 exact Vw (List.mem_range.1 hi)
theorem one45{n:Nat}(hn:n≤4096):M45.m ⟨n⟩=some ((n:Int),mr n (idm n),0):=by
 have key:=QR (step:=M45.s0) (fun i=>⟨n,n,(i:Int),mix (fun i=>((n:Int),vw n (un i))) (fun _=>(0,[])) i n,n,0,n,n⟩) n
  (y:=⟨mr n (idm n),n,0,n,n⟩) (fun i hi=>by
   have e1:decide ((i:Int)<(n:Int))=true:=by simpa using hi
   have ms:=Y3 (fun i=>((n:Int),vw n (un i))) (fun _=>((0:Int),([]:List Int))) hi
   have ml:=JW (fun i=>((n:Int),vw n (un i))) (fun _=>((0:Int),([]:List Int))) i n
   rw[←ms]
   generalize mix (fun i=>((n:Int),vw n (un i))) (fun _=>((0:Int),([]:List Int))) i n=out at ml⊢
   have e2:decide (0+i<out.length)=true:=by rw[ml];simpa using hi
   have e3:eqN (0+i) (List.take (0+i) out).length=true:=by simp[eqN,ml];omega
   unfold M45.s0
   simp only[e1,blank n (show n≤1000000 by omega),Q0,QD hi,e2,e3,cond_true,Int.toNat_natCast,turn (n:=n) (i:=i) (n:Int) (nw n) _ (show n≤1000000 by omega) (show i / 64<nw n by unfold nw;omega),fl_no,Jr,JD,Bool.and_self,suc (show i<9000000000000000000 by omega)]
   rw[Nat.zero_add,Z1 (by omega)]) (by
   have e1:decide ((n:Int)<(n:Int))=false:=by simp
   have e2:mix (fun i=>((n:Int),vw n (un i))) (fun _=>((0:Int),([]:List Int))) n n=mr n (idm n):=by
    rw[ZG]
    unfold mr idm
    rw[List.map_map];rfl
   unfold M45.s0
   simp only[e1,cond_false,e2])
 rw[ZF,XH (fun _=>((0:Int),([]:List Int)))]at key
 have key:iter M45.s0 ⟨n,n,0,List.replicate n (0,[]),n,0,n,n⟩=_:=key
 have e1:(decide (0≤(n:Int))&&decide ((n:Int)≤(n:Int))&&decide ((n:Int)*(↑32:Int)≤281474976710656)&&decide ((n:Int)≤9223372036854775807))=true:=by simp;omega
 have e2:leB (0+n) (mr n (idm n)).length=true:=by simp[leB,Q6,Qj]
 have e3:List.take n (List.drop 0 (mr n (idm n)))=mr n (idm n):=by rw[List.drop_zero,List.take_of_length_le (by rw[Q6,Qj];exact Nat.le_refl _)]
 unfold M45.m
 simp only[size hn,Q0,nz,cond_false,e1,cond_true,Int.toNat_natCast,key,e2,e3,Bool.and_self]
theorem rd_ps(R:List Q7){S T:List Q7}:∀k,(rd R S k).1=(rd R T k).1∧(rd R S k).2.2=(rd R T k).2.2
 |0=>⟨rfl,rfl⟩
 |k+1=>by
  obtain⟨h1,h2⟩:=rd_ps R (S:=S) (T:=T) k
  have cl:∀(t k:Nat) (A B C:List Q7) i,(clN t k (A,B) i).1=(clN t k (A,C) i).1:=by
   intro t k A B C i
   induction i with
   |zero=>rfl
   |succ i ih=>
    simp only[clN]
    unfold clS
    rw[ih]
    by_cases hc:i≠t∧row (clN t k (A,C) i).1 i k=true
    ·rw[if_pos hc,if_pos hc]
    ·rw[if_neg hc,if_neg hc,ih]
  simp only[rd]
  unfold Xe
  rw[←h1,←h2]
  cases fnd (fun i=>row (rd R S k).1 i k) ((rd R S k).1.length - (rd R S k).2.2.length) (rd R S k).2.2.length with
  |some i=>exact⟨cl _ _ _ _ _ _,rfl⟩
  |none=>exact⟨h1,h2⟩
theorem inv47{n:Nat}{R:List Q7}(hn:n≤4096)(hR:R.length=n)(sR:Ql n R):
  M47.m ⟨n,mr n R⟩=some (if rk n R<n then (0,[],9) else ((n:Int),mr n (rd R (idm n) n).2.1,0)):=by
 have hS:Mt R (idm n):=.inr (by rw[Qj,hR])
 have h:=red76 (d:=n) hn hn (by omega) sR hS
 rw[Qj,hR]at h
 have l2:=(JP (d:=n) sR hS n).1.ls
 rw[Qj]at l2
 have e0:rk n R=(rd R (idm n) n).2.2.length:=by unfold rk;rw[(rd_ps R n).2]
 have e1:decide (((rk n R:Nat):Int)<(n:Int))=decide (rk n R<n):=by simp
 have e2:leB (0+n) (mr n (rd R (idm n) n).2.1).length=true:=by simp[leB,Q6,l2]
 have e3:List.take n (List.drop 0 (mr n (rd R (idm n) n).2.1))=mr n (rd R (idm n) n).2.1:=by rw[List.drop_zero,List.take_of_length_le (by rw[Q6,l2];exact Nat.le_refl _)]
 have ne:((n:Int) !=((mr n R).length:Int))=false:=by rw[Q6,hR];simp
 rw[←e0]at h
 unfold M47.m
 simp only[valid hn (show R.length≤4096 by omega) sR,Q0,nz,cond_false,ne,one45 hn,h,e1,e2,e3,Bool.and_self,cond_true]
 by_cases hl:rk n R<n
 ·rw[if_pos hl,decide_eq_true hl,cond_true]
 ·rw[if_neg hl,decide_eq_false hl,cond_false]
theorem same90(l:List Int)(hl:l.length≤1000000):M90.m ⟨l,l⟩=some true:=by
 have key:=QR (step:=M90.s0) (fun i=>⟨l,l,((l.length:Nat):Int),(i:Int)⟩) l.length (y:=.inl PUnit.unit) (fun i hi=>by
  have e1:decide ((i:Int)<((l.length:Nat):Int))=true:=by simpa using hi
  unfold M90.s0
  simp only[e1,QD hi,cond_true,J2,cond_false,suc (show i<9000000000000000000 by omega)]) (by
  have e1:decide (((l.length:Nat):Int)<((l.length:Nat):Int))=false:=by simp
  unfold M90.s0
  simp only[e1,cond_false])
 have key:iter M90.s0 ⟨l,l,((l.length:Nat):Int),0⟩=_:=key
 unfold M90.m
 simp only[J2,cond_false,key,Q0,J6]
theorem same46(c:Int)(l:List (Int×List Int))(hl:l.length≤1000000)(h:∀v∈l,v.2.length≤1000000):M46.m ⟨c,l,c,l⟩=some true:=by
 have key:=QR (step:=M88.s0) (fun i=>⟨l,l,((l.length:Nat):Int),(i:Int)⟩) l.length (y:=.inl PUnit.unit) (fun i hi=>by
  have e1:decide ((i:Int)<((l.length:Nat):Int))=true:=by simpa using hi
  have e2:((l[i]).1==(l[i]).1)=true:=by simp
  have e3:M89.m ⟨(l[i]).1,(l[i]).2,(l[i]).1,(l[i]).2⟩=some true:=by
   unfold M89.m
   simp only[e2,cond_true,same90 _ (h _ (List.getElem_mem hi)),Q0]
  unfold M88.s0
  simp only[e1,QD hi,cond_true,XJ hi,e3,Q0,Bool.not_true,cond_false,suc (show i<9000000000000000000 by omega)]) (by
  have e1:decide (((l.length:Nat):Int)<((l.length:Nat):Int))=false:=by simp
  unfold M88.s0
  simp only[e1,cond_false])
 have key:iter M88.s0 ⟨l,l,((l.length:Nat):Int),0⟩=_:=key
 have e2:(c==c)=true:=by simp
 unfold M46.m M88.m
 simp only[e2,cond_true,J2,cond_false,key,Q0,J6]
theorem same{c:Nat}{A:List Q7}(hc:c≤4096)(hA:A.length≤4096):M46.m ⟨c,mr c A,c,mr c A⟩=some true:=by
 refine same46 _ _ (by rw[Q6];omega) fun v hv=> ?_
 obtain⟨b,_,rfl⟩:=List.mem_map.1 hv
 rw[J1]
 unfold nw
 omega
end Gf
end Go.Proofs.Ytddaobhpffpmoaa
namespace Go.Proofs.Ytddaobhpffpmoaa
open Go.Abs
namespace Gf
theorem find76g{c d k cp cq rl rq:Nat}{R S:List Q7}{ps:List Int}{r0:List (Int×List Int)}(hc:c≤4096)(hd:d≤4096)(hR:R.length≤4096)(hk:k<c)(hS:S=[]∨S.length=R.length)(hp:ps.length≤R.length):
  iter M76g.s1 ⟨c,k,k,((ps.length:Nat):Int),((ps.length:Nat):Int),r0,c,0,rl,rq,mr c R,mr d S,0,R.length,cp,0,S.length,cq,0,ps.length,ps⟩=
   some (match fnd (fun i=>row R i k) (R.length - ps.length) ps.length with
    |some i=>.inr ⟨c,k,r0,c,0,rl,rq,mr c (clN ps.length k (sw R i ps.length,sw S i ps.length) R.length).1,mr d (clN ps.length k (sw R i ps.length,sw S i ps.length) R.length).2,0,R.length,cp,0,S.length,cq,0,ps.length+1,ps++[(k:Int)]⟩
    |none=>.inl ⟨c,k,r0,c,0,rl,rq,mr c R,mr d S,0,R.length,cp,0,S.length,cq,0,ps.length,ps⟩):=by
 have hend:M76g.s1 ⟨c,k,k,((ps.length:Nat):Int),((R.length:Nat):Int),r0,c,0,rl,rq,mr c R,mr d S,0,R.length,cp,0,S.length,cq,0,ps.length,ps⟩=some (.inr (.inl ⟨c,k,r0,c,0,rl,rq,mr c R,mr d S,0,R.length,cp,0,S.length,cq,0,ps.length,ps⟩)):=by
  have e0:decide ((R.length:Int)<(R.length:Int))=false:=by simp
  unfold M76g.s1
  simp only[e0,cond_false]
 rcases Nat.lt_or_ge ps.length R.length with ht|ht
 rotate_left
 ·have e:ps.length=R.length:=by omega
  have e2:R.length - ps.length=0:=by omega
  rw[e2]
  unfold fnd
  have hend':=hend
  rw[←e]at hend'⊢
  rw[iter_eq,hend']
 refine KF (step:=M76g.s1) (fun i=>⟨c,k,k,((ps.length:Nat):Int),(i:Int),r0,c,0,rl,rq,mr c R,mr d S,0,R.length,cp,0,S.length,cq,0,ps.length,ps⟩) R.length (fun i=>row R i k)
  (fun i=>.inr ⟨c,k,r0,c,0,rl,rq,mr c (clN ps.length k (sw R i ps.length,sw S i ps.length) R.length).1,mr d (clN ps.length k (sw R i ps.length,sw S i ps.length) R.length).2,0,R.length,cp,0,S.length,cq,0,ps.length+1,ps++[(k:Int)]⟩) (fun i hi hP=> ?_) (fun i hi hP=> ?_) ?_ _ _ (by omega)
 ·have e0:decide ((i:Int)<(R.length:Int))=true:=by simpa using hi
  have e1:decide (0+i<(mr c R).length)=true:=by rw[Q6];simpa using hi
  rw[Jf hi]at hP
  have e1':decide (i<(mr c R).length)=true:=by rw[Q6];simpa using hi
  unfold M76g.s1
  simp only[e0,QD hi,Int.toNat_natCast,e1',cond_true,Nat.zero_add,mr_at' hi,has (n:=c) (i:=k) (c:Int) R[i] (by omega) (by unfold nw;omega),Q0,hP,Bool.not_false,suc (show i<9000000000000000000 by omega)]
 ·have e0:decide ((i:Int)<(R.length:Int))=true:=by simpa using hi
  have e1':decide (i<(mr c R).length)=true:=by rw[Q6];simpa using hi
  rw[Jf hi]at hP
  have hsw:(sw S i ps.length)=[]∨(sw S i ps.length).length=(sw R i ps.length).length:=by
   rcases hS with rfl|h
   ·exact .inl rfl
   ·exact .inr (by rw[QX,QX];exact h)
  have hcl:=j7 (cp:=cp) (cq:=cq) (pl:=0) (pn:=ps.length) (R:=sw R i ps.length) (S:=sw S i ps.length) (ps:=ps) (top:=ps.length) (k:=k) hc hd (by rw[QX];exact hR) (by rw[QX];exact ht) hk hsw
  rw[QX,QX]at hcl
  have e5:(eqN 0 0&&eqN ps.length ps.length&&QP (ps.length+1) 8)=true:=by
   have g1:eqN ps.length ps.length=true:=by simp[eqN]
   have g2:QP (ps.length+1) 8=true:=by simp[QP,leB];omega
   rw[g1,g2];rfl
  unfold M76g.s1
  simp only[e0,QD hi,Int.toNat_natCast,e1',cond_true,Nat.zero_add,mr_at' hi,has (n:=c) (i:=k) (c:Int) R[i] (by omega) (by unfold nw;omega),Q0,hP,Bool.not_true,cond_false,swap101 (R:=R) (S:=S) hi ht hS,hcl,e5]
 ·exact hend
theorem red76g{c d q:Nat}{R S:List Q7}(hc:c≤4096)(hd:d≤4096)(hR:R.length≤4096)(sR:Ql c R)(hS:Mt R S):
  M76g.m ⟨c,0,R.length,q,mr d S,mr c R⟩=some (mr c R,mr c (rd R S c).1,mr d (rd R S c).2.1,0,R.length,R.length,0,S.length,S.length,0,(rd R S c).2.2.length,(rd R S c).2.2.map fun(x:Nat)=>(x:Int)):=by
 have key:=QR (step:=M76g.s0) (fun k=>⟨c,k,mr c R,c,0,R.length,q,mr c (rd R S k).1,mr d (rd R S k).2.1,0,R.length,R.length,0,S.length,S.length,0,(rd R S k).2.2.length,(rd R S k).2.2.map fun(x:Nat)=>(x:Int)⟩) c
  (y:=⟨mr c R,c,0,R.length,q,mr c (rd R S c).1,mr d (rd R S c).2.1,0,R.length,R.length,0,S.length,S.length,0,(rd R S c).2.2.length,(rd R S c).2.2.map fun(x:Nat)=>(x:Int)⟩) (fun k hk=>by
   have e1:decide ((k:Int)<(c:Int))=true:=by simpa using hk
   have inv:=(JP (d:=d) sR hS k).1
   have l1:=inv.lr
   have l2:=inv.ls
   have l3:=inv.lt
   have hS':Mt (rd R S k).1 (rd R S k).2.1:=by
    rcases hS with e|e
    ·exact .inl (List.length_eq_zero_iff.1 (by rw[l2,e];rfl))
    ·exact .inr (by omega)
   simp only[rd]
   generalize rd R S k=st at*
   obtain⟨R',S',ps⟩:=st
   simp only at l1 l2 l3 hS'⊢
   have f:=find76g (c:=c) (d:=d) (k:=k) (cp:=R.length) (cq:=S.length) (R:=R') (S:=S') (ps:=ps.map fun(x:Nat)=>(x:Int)) (r0:=mr c R) (rl:=R.length) (rq:=q) hc hd (by omega) hk hS' (by rw[List.length_map];omega)
   rw[List.length_map,l1,l2]at f
   unfold M76g.s0
   simp only[e1,cond_true,f,Q0]
   unfold Xe
   simp only[l1]
   cases fnd (fun i=>row R' i k) (R.length - ps.length) ps.length with
   |some i=>simp only[J6,suc (show k<9000000000000000000 by omega),List.map_append,List.map_cons,List.map_nil,List.length_append,List.length_cons,List.length_nil,Nat.zero_add]
   |none=>simp only[J6,suc (show k<9000000000000000000 by omega)]) (by
   have e1:decide ((c:Int)<(c:Int))=false:=by simp
   unfold M76g.s0
   simp only[e1,cond_false])
 have key:iter M76g.s0 ⟨c,0,mr c R,c,0,R.length,q,mr c R,mr d S,0,R.length,R.length,0,S.length,S.length,0,0,[]⟩=_:=key
 have hSl:S.length≤4096:=by
  rcases hS with e|e
  ·rw[e];simp
  ·omega
 have e1:∀n:Nat,n≤4096→(decide (0≤(n:Int))&&decide ((n:Int)≤(n:Int))&&decide ((n:Int)*(↑32:Int)≤281474976710656)&&decide ((n:Int)≤9223372036854775807))=true:=fun n hn=>by simp;omega
 have e2:∀n:Nat,leB (0+n) (List.replicate n ((0,[]):Int×List Int)).length=true:=fun n=>by simp[leB]
 have e3:∀(k:Nat) (Q:List Q7),List.take 0 (List.replicate Q.length ((0,[]):Int×List Int))++List.take (min Q.length Q.length) (mr k Q)++List.drop (0+min Q.length Q.length) (List.replicate Q.length (0,[]))=mr k Q:=fun k Q=>by
  rw[Nat.min_self,List.take_zero,List.nil_append,List.take_of_length_le (l:=mr k Q) (by rw[Q6];exact Nat.le_refl _),List.drop_of_length_le (by simp),List.append_nil]
 have e4:leB (0+R.length) R.length=true:=by simp[leB]
 have e5:List.take R.length (List.drop 0 (mr c R))=mr c R:=by rw[List.drop_zero,List.take_of_length_le (by rw[Q6];exact Nat.le_refl _)]
 unfold M76g.m
 simp only[Q6,Int.toNat_natCast,e1 _ hR,e1 _ hSl,e2,e4,e5,Bool.and_self,cond_true,e3,key,Q0]
theorem inv47g{n q:Nat}{R:List Q7}(hn:n≤4096)(hR:R.length=n)(sR:Ql n R):
  M47g.m ⟨n,0,n,q,mr n R⟩=some (if rk n R<n then (0,[],9,mr n R) else ((n:Int),mr n (rd R (idm n) n).2.1,0,mr n R)):=by
 have hS:Mt R (idm n):=.inr (by rw[Qj,hR])
 have h:=red76g (q:=q) (d:=n) hn hn (by omega) sR hS
 rw[Qj,hR]at h
 have l2:=(JP (d:=n) sR hS n).1.ls
 rw[Qj]at l2
 have e0:rk n R=(rd R (idm n) n).2.2.length:=by unfold rk;rw[(rd_ps R n).2]
 have e1:decide (((rk n R:Nat):Int)<(n:Int))=decide (rk n R<n):=by simp
 have e2:leB (0+n) (mr n (rd R (idm n) n).2.1).length=true:=by simp[leB,Q6,l2]
 have e3:List.take n (List.drop 0 (mr n (rd R (idm n) n).2.1))=mr n (rd R (idm n) n).2.1:=by rw[List.drop_zero,List.take_of_length_le (by rw[Q6,l2];exact Nat.le_refl _)]
 have ne:((n:Int) !=(n:Int))=false:=by simp
 have e4:leB (0+n) (mr n R).length=true:=by simp[leB,Q6,hR]
 have e5:List.take n (List.drop 0 (mr n R))=mr n R:=by rw[List.drop_zero,List.take_of_length_le (by rw[Q6,hR];exact Nat.le_refl _)]
 rw[←e0]at h
 unfold M47g.m
 simp only[e4,e5,Bool.and_self,cond_true,valid hn (show R.length≤4096 by omega) sR,Q0,nz,cond_false,ne,one45 hn,h,e1,e2,e3,Bool.and_self,cond_true]
 by_cases hl:rk n R<n
 ·rw[if_pos hl,decide_eq_true hl,cond_true]
 ·rw[if_neg hl,decide_eq_false hl,cond_false]
theorem side22j{c r:Nat}{R:List (Int×List Int)}{b:Q7}(hr:r≤4096):
  iter M22j.s0 ⟨0,r,r,r,0,c,R,r,vw r b,List.replicate r (0,[])⟩=some ⟨0,r,r,c,R,r,vw r b,mr 1 (sd b r)⟩:=by
 have hm:∀i,i<r→(fun j=>j==0&&b i)=(if b i=true then fl (fun _=>false) 0 else fun _=>false):=fun i _=>by
  funext j
  cases hb:b i with
  |true=>rw[if_pos rfl,fl_no];unfold un;simp
  |false=>simp
 have key:=QR (step:=M22j.s0) (fun i=>⟨0,r,r,r,(i:Int),c,R,r,vw r b,mix (fun i=>((1:Int),vw 1 (fun j=>j==0&&b i))) (fun _=>(0,[])) i r⟩) r
  (y:=⟨0,r,r,c,R,r,vw r b,mr 1 (sd b r)⟩) (fun i hi=>by
   have e1:decide ((i:Int)<(r:Int))=true:=by simpa using hi
   have ms:=Y3 (fun i=>((1:Int),vw 1 (fun j=>j==0&&b i))) (fun _=>((0:Int),([]:List Int))) hi
   have ml:=JW (fun i=>((1:Int),vw 1 (fun j=>j==0&&b i))) (fun _=>((0:Int),([]:List Int))) i r
   rw[←ms]
   generalize mix (fun i=>((1:Int),vw 1 (fun j=>j==0&&b i))) (fun _=>((0:Int),([]:List Int))) i r=out at ml⊢
   have e2:decide (0+i<out.length)=true:=by rw[ml];simpa using hi
   have e3:eqN (0+i) (List.take (0+i) out).length=true:=by simp[eqN,ml];omega
   have e4:=blank 1 (show 1≤1000000 by omega)
   have e4:M73.m ⟨1⟩=some (1,0,nw 1,nw 1,vw 1 fun _=>false):=e4
   have e5:=turn (n:=1) (i:=0) (1:Int) (nw 1) (fun _=>false) (by omega) (by decide)
   have e5:M75.m ⟨1,0,nw 1,nw 1,0,vw 1 fun _=>false⟩=some (vw 1 (fl (fun _=>false) 0)):=e5
   have e6:=hm i hi
   unfold M22j.s0
   simp only[e1,e4,Q0,QD hi,e2,e3,cond_true,Int.toNat_natCast,has (n:=r) (i:=i) (r:Int) b (by omega) (by unfold nw;omega),e5,suc (show i<9000000000000000000 by omega)]
   rw[e6]
   cases hb:b i with
   |true=>
    have l1:leB (0+nw 1) (vw 1 (fl (fun _=>false) 0)).length=true:=Jr 1 _
    simp only[cond_true,l1,JD,Bool.and_self,if_true]
    rw[Nat.zero_add,Z1 (by omega)]
   |false=>
    have l1:leB (0+nw 1) (vw 1 (fun _=>false)).length=true:=Jr 1 _
    simp only[cond_false,l1,JD,Bool.and_self,cond_true,Bool.false_eq_true,if_false]
    rw[Nat.zero_add,Z1 (by omega)]) (by
   have e1:decide ((r:Int)<(r:Int))=false:=by simp
   have e2:mix (fun i=>((1:Int),vw 1 (fun j=>j==0&&b i))) (fun _=>((0:Int),([]:List Int))) r r=mr 1 (sd b r):=by
    rw[ZG]
    unfold mr sd
    rw[List.map_map];rfl
   unfold M22j.s0
   simp only[e1,cond_false,e2])
 rw[ZF,XH (fun _=>((0:Int),([]:List Int)))]at key
 exact key
theorem solve22j{c:Nat}{R:List Q7}{b:Q7}(hc:c≤4096)(hR:R.length≤4096)(sR:Ql c R)(sb:Sup R.length b):
  M22j.m ⟨c,mr c R,R.length,vw R.length b⟩=
   some (if bad (rd R (sd b R.length) c).2.1 (rd R (sd b R.length) c).2.2.length R.length=true then 9 else 0):=by
 have hS:Mt R (sd b R.length):=.inr (Jk _ _)
 have h:=red76o (q:=R.length) (d:=1) hc (show 1≤4096 by omega) hR sR hS
 rw[Jk]at h
 have inv:=(JP (d:=1) sR hS c).1
 have l1:=inv.lr
 have l2:=inv.ls
 have l3:=inv.lt
 rw[Jk]at l2
 have h:=h
 generalize rd R (sd b R.length) c=st at*
 obtain⟨R',S',ps⟩:=st
 simp only at l1 l2 l3 h
 have hpc:∀p,p<ps.length→pv ps p<c:=inv.lk
 have to:=iter_to (step:=M22j.s1) (fun i=>⟨0,R.length,R.length,R.length,(i:Int),c,mr c R,R.length,vw R.length b,mr 1 (sd b R.length),mr c R',mr 1 S',0,R.length,R.length,0,R.length,R.length,0,ps.length,ints ps,vw c (cmb (fun _=>false) (fun s=>row S' s 0) ps i),c,0,nw c,nw c⟩) ps.length (fun i hi=>by
  have e1:decide ((i:Int)<(R.length:Int))=true:=by simp;omega
  have e2:inR (i:Int) R.length=true:=QD (by omega)
  have e3:decide (i<(mr 1 S').length)=true:=by rw[Q6];simp;omega
  have e4:(mr 1 S')[i]?.getD (0,[])=(((1:Nat):Int),vw 1 (row S' i)):=by rw[mr_at' (show i<S'.length by omega),Jf (show i<S'.length by omega)]
  have e5:M74.m ⟨((1:Nat):Int),vw 1 (row S' i),0⟩=some (row S' i 0):=has (n:=1) (i:=0) (1:Int) (row S' i) (by omega) (by decide)
  have e6:decide ((i:Int)≥(ps.length:Int))=false:=by simp;omega
  have e7:decide (i<(ints ps).length)=true:=by rw[Qw];simpa using hi
  have e8:=hpc i hi
  unfold M22j.s1
  simp only[e1,e2,Int.toNat_natCast,Nat.zero_add,e3,cond_true,e4,e5,Q0,e6,QD hi,e7,cond_false,ints_at hi,turn (n:=c) (i:=pv ps i) (c:Int) (nw c) _ (show c≤1000000 by omega) (show pv ps i / 64<nw c by unfold nw;omega),suc (show i<9000000000000000000 by omega),cmb]
  by_cases hb:row S' i 0=true
  ·simp only[hb,Bool.not_true,cond_false,if_true]
  ·simp only[eq_false_of_ne_true hb,Bool.not_false,cond_true,Bool.false_eq_true,if_false])
 have en:M22j.s1 ⟨0,R.length,R.length,R.length,((R.length:Nat):Int),c,mr c R,R.length,vw R.length b,mr 1 (sd b R.length),mr c R',mr 1 S',0,R.length,R.length,0,R.length,R.length,0,ps.length,ints ps,vw c (sol S' ps),c,0,nw c,nw c⟩=some (.inr (.inl ⟨c,mr c R,R.length,vw R.length b,mr 1 (sd b R.length),mr c R',mr 1 S',0,R.length,R.length,0,R.length,R.length,0,ps.length,ints ps,vw c (sol S' ps),c,0,nw c,nw c⟩)):=by
  have e1:decide ((R.length:Int)<(R.length:Int))=false:=by simp
  unfold M22j.s1
  simp only[e1,cond_false]
 have st:∀i,i<R.length→ps.length≤i→M22j.s1 ⟨0,R.length,R.length,R.length,(i:Int),c,mr c R,R.length,vw R.length b,mr 1 (sd b R.length),mr c R',mr 1 S',0,R.length,R.length,0,R.length,R.length,0,ps.length,ints ps,vw c (sol S' ps),c,0,nw c,nw c⟩=
   if row S' i 0=true then some (.inr (.inr ⟨9,0⟩)) else some (.inl ⟨0,R.length,R.length,R.length,((i+1:Nat):Int),c,mr c R,R.length,vw R.length b,mr 1 (sd b R.length),mr c R',mr 1 S',0,R.length,R.length,0,R.length,R.length,0,ps.length,ints ps,vw c (sol S' ps),c,0,nw c,nw c⟩):=fun i hi hp=>by
  have e1:decide ((i:Int)<(R.length:Int))=true:=by simp;omega
  have e2:inR (i:Int) R.length=true:=QD (by omega)
  have e3:decide (i<(mr 1 S').length)=true:=by rw[Q6];simp;omega
  have e4:(mr 1 S')[i]?.getD (0,[])=(((1:Nat):Int),vw 1 (row S' i)):=by rw[mr_at' (show i<S'.length by omega),Jf (show i<S'.length by omega)]
  have e5:M74.m ⟨((1:Nat):Int),vw 1 (row S' i),0⟩=some (row S' i 0):=has (n:=1) (i:=0) (1:Int) (row S' i) (by omega) (by decide)
  have e6:decide ((i:Int)≥(ps.length:Int))=true:=by simp;omega
  unfold M22j.s1
  simp only[e1,e2,Int.toNat_natCast,Nat.zero_add,e3,cond_true,e4,e5,Q0,e6,suc (show i<9000000000000000000 by omega)]
  cases row S' i 0 with
  |true=>simp only[Bool.not_true,cond_false,if_true]
  |false=>simp only[Bool.not_false,cond_true,Bool.false_eq_true,if_false]
 have from_:iter M22j.s1 ⟨0,R.length,R.length,R.length,((ps.length:Nat):Int),c,mr c R,R.length,vw R.length b,mr 1 (sd b R.length),mr c R',mr 1 S',0,R.length,R.length,0,R.length,R.length,0,ps.length,ints ps,vw c (sol S' ps),c,0,nw c,nw c⟩=
   some (match fnd (fun i=>row S' i 0) (R.length - ps.length) ps.length with|some _=>.inr ⟨9,0⟩|none=>.inl ⟨c,mr c R,R.length,vw R.length b,mr 1 (sd b R.length),mr c R',mr 1 S',0,R.length,R.length,0,R.length,R.length,0,ps.length,ints ps,vw c (sol S' ps),c,0,nw c,nw c⟩):=by
  have gen:∀f i,i+f=R.length→ps.length≤i→iter M22j.s1 ⟨0,R.length,R.length,R.length,(i:Int),c,mr c R,R.length,vw R.length b,mr 1 (sd b R.length),mr c R',mr 1 S',0,R.length,R.length,0,R.length,R.length,0,ps.length,ints ps,vw c (sol S' ps),c,0,nw c,nw c⟩=
    some (match fnd (fun i=>row S' i 0) f i with|some _=>.inr ⟨9,0⟩|none=>.inl ⟨c,mr c R,R.length,vw R.length b,mr 1 (sd b R.length),mr c R',mr 1 S',0,R.length,R.length,0,R.length,R.length,0,ps.length,ints ps,vw c (sol S' ps),c,0,nw c,nw c⟩):=by
   intro f
   induction f with
   |zero=>
    intro i hi _
    have:i=R.length:=by omega
    subst this
    rw[iter_eq,en];rfl
   |succ f ih=>
    intro i hi hp
    rw[iter_eq,st i (by omega) hp]
    unfold fnd
    cases row S' i 0 with
    |true=>rfl
    |false=>
     simp only[Bool.false_eq_true,if_false]
     exact ih (i+1) (by omega) (by omega)
  exact gen _ _ (by omega) (Nat.le_refl _)
 have h:M76o.m ⟨c,mr c R,0,R.length,R.length,mr 1 (sd b R.length)⟩=some (mr 1 (sd b R.length),mr c R',mr 1 S',0,R.length,R.length,0,R.length,R.length,0,ps.length,ints ps):=h
 have all:iter M22j.s1 ⟨0,R.length,R.length,R.length,0,c,mr c R,R.length,vw R.length b,mr 1 (sd b R.length),mr c R',mr 1 S',0,R.length,R.length,0,R.length,R.length,0,ps.length,ints ps,vw c (fun _=>false),c,0,nw c,nw c⟩=_:=to.trans from_
 have e1:(decide (0≤(R.length:Int))&&decide ((R.length:Int)≤(R.length:Int))&&decide ((R.length:Int)*(↑32:Int)≤281474976710656)&&decide ((R.length:Int)≤9223372036854775807))=true:=by simp;omega
 unfold M22j.m
 simp only[valid hc hR sR,check hR sb,Q0,nz,J2,cond_false,Q6,e1,cond_true,Int.toNat_natCast,side22j hR,h,blank c (show c≤1000000 by omega),all]
 unfold bad
 cases fnd (fun i=>row S' i 0) (R.length - ps.length) ps.length with
 |some i=>rfl
 |none=>simp only[J6,Jr,JD,Bool.and_self,cond_true,Option.isSome_none,Bool.false_eq_true,if_false]
theorem zero51t{n:Nat}(hn:n≤4096):M51t.m ⟨n⟩=some ((n:Int),vw n (fun _=>false),0):=by
 unfold M51t.m
 simp only[size hn,blank n (by omega),Q0,nz,cond_false,Jr,JD,Bool.and_self,cond_true]
theorem live_solve{c r:Nat}{R:List Q7}{b:Q7}(hc:c≤4096)(hR:R.length=r)(hr:r≤4096)(sR:Ql c R)(sb:Sup r b)(hb:bad (rd R (sd b r) c).2.1 (rd R (sd b r) c).2.2.length r=false):
  M22.m ⟨c,mr c R,r,vw r b⟩=some ((c:Int),vw c (sol (rd R (sd b r) c).2.1 (rd R (sd b r) c).2.2),0):=by
 subst hR
 have:=VX hc hr sR sb
 rw[hb,if_neg (by simp)]at this
 exact this
theorem live_unsat{c r:Nat}{R:List Q7}{b:Q7}(hc:c≤4096)(hR:R.length=r)(hr:r≤4096)(sR:Ql c R)(sb:Sup r b)(hb:bad (rd R (sd b r) c).2.1 (rd R (sd b r) c).2.2.length r=true):
  M22j.m ⟨c,mr c R,r,vw r b⟩=some 9:=by
 subst hR
 have:=solve22j hc hr sR sb
 rw[hb,if_pos rfl]at this
 exact this
theorem sup2{c:Nat}{a b:Q7}(ha:Sup c a)(hb:Sup c b):Ql c [a,b]:=fun x hx=>by
 rcases List.mem_cons.1 hx with rfl|hx
 ·exact ha
 ·rw[List.mem_singleton]at hx
  subst hx
  exact hb
theorem JJ:M19.m PUnit.unit=some true:=by
 have b01:∀l:List Int,l.all (fun v=>v==0||v==1)=true→B01 l:=fun l h x hx=>by
  have:=List.all_eq_true.1 h x hx
  simpa using this
 have v (n:Nat) (l:List Int) (hl:l.length=n) (hn:n≤4096) (h:l.all (fun v=>v==0||v==1)=true):M24.m ⟨l⟩=some ((n:Int),vw n (bt l)):=by
  subst hl
  exact vec hn (b01 l h)
 have s (n:Nat) (l:List Int) (hl:l.length=n):Sup n (bt l):=hl▸KT l
 have tx (n:Nat) (b:Q7) (hn:n≤4096) (sb:Sup n b) (t:List UInt8) (ht:XK (lb n b)=t):M32.m ⟨n,vw n b⟩=some t:=ht▸text hn sb
 have sA:=s 3 [1,1,0] rfl
 have sB:=s 3 [0,1,1] rfl
 have sC:=s 3 [1,0,1] rfl
 have sD:=s 2 [1,0] rfl
 have sE:=s 4 [1,0,1,1] rfl
 have sF:=s 2 [1,1] rfl
 have sG:=s 2 [0,1] rfl
 have sAB:=sup2 sA sB
 have q1:M24.m ⟨[1,1,0]⟩=some (3,vw 3 (bt [1,1,0])):=v 3 _ rfl (by decide) rfl
 have q2:M24.m ⟨[0,1,1]⟩=some (3,vw 3 (bt [0,1,1])):=v 3 _ rfl (by decide) rfl
 have q3:M24.m ⟨[1,0,1]⟩=some (3,vw 3 (bt [1,0,1])):=v 3 _ rfl (by decide) rfl
 have q4:M24.m ⟨[1,0]⟩=some (2,vw 2 (bt [1,0])):=v 2 _ rfl (by decide) rfl
 have q5:M24.m ⟨[1,0,1,1]⟩=some (4,vw 4 (bt [1,0,1,1])):=v 4 _ rfl (by decide) rfl
 have q6:M24.m ⟨[1,1]⟩=some (2,vw 2 (bt [1,1])):=v 2 _ rfl (by decide) rfl
 have q7:M24.m ⟨[0,1]⟩=some (2,vw 2 (bt [0,1])):=v 2 _ rfl (by decide) rfl
 have a1:M28.m ⟨3,vw 3 (bt [1,1,0]),3,vw 3 (bt [0,1,1])⟩=some (3,vw 3 (xr (bt [1,1,0]) (bt [0,1,1])),0):=add (n:=3) (by decide) sA sB
 have a2:M33.m ⟨3,vw 3 (bt [1,1,0]),3,vw 3 (bt [0,1,1])⟩=some (1,0):=dot33 (n:=3) (by decide) sA sB
 have a3:M29.m ⟨3,[(3,vw 3 (bt [1,1,0])),(3,vw 3 (bt [0,1,1]))],3,vw 3 (bt [1,0,1])⟩=some (2,vw 2 (app 3 [bt [1,1,0],bt [0,1,1]] (bt [1,0,1])),0):=apply (c:=3) (R:=[bt [1,1,0],bt [0,1,1]]) (by decide) (by decide) sAB sC
 have a4:M40.m ⟨3,[(3,vw 3 (bt [1,1,0])),(3,vw 3 (bt [0,1,1]))]⟩=some (2,mr 2 (tr 3 [bt [1,1,0],bt [0,1,1]]),0):=Vx (c:=3) (R:=[bt [1,1,0],bt [0,1,1]]) (by decide) (by decide) sAB
 have a5:M26.m ⟨3,[(3,vw 3 (bt [1,1,0])),(3,vw 3 (bt [0,1,1]))]⟩=some (2,0):=by
  have h:=K8 (c:=3) (R:=[bt [1,1,0],bt [0,1,1]]) (by decide) (by decide) sAB
  have e:rk 3 [bt [1,1,0],bt [0,1,1]]=2:=by kernel_rfl
  rw[e]at h
  exact h
 have a6:M25.m ⟨3,[(3,vw 3 (bt [1,1,0])),(3,vw 3 (bt [0,1,1]))]⟩=some ([(3,[7])],0):=by
  have h:=qi (c:=3) (R:=[bt [1,1,0],bt [0,1,1]]) (by decide) (by decide) sAB
  have e:mr 3 ((fr (rd [bt [1,1,0],bt [0,1,1]] [] 3).2.2 3).map (kv (rd [bt [1,1,0],bt [0,1,1]] [] 3).1 (rd [bt [1,1,0],bt [0,1,1]] [] 3).2.2))=[(3,[7])]:=by kernel_rfl
  rw[e]at h
  exact h
 have a7:M22.m ⟨3,[(3,vw 3 (bt [1,1,0])),(3,vw 3 (bt [0,1,1]))],2,vw 2 (bt [1,0])⟩=some (3,[1],0):=by
  have h:=live_solve (c:=3) (r:=2) (R:=[bt [1,1,0],bt [0,1,1]]) (b:=bt [1,0]) (by decide) rfl (by decide) sAB sD (by kernel_rfl)
  have e:vw 3 (sol (rd [bt [1,1,0],bt [0,1,1]] (sd (bt [1,0]) 2) 3).2.1 (rd [bt [1,1,0],bt [0,1,1]] (sd (bt [1,0]) 2) 3).2.2)=[1]:=by kernel_rfl
  rw[e]at h
  exact h
 have t1:M32.m ⟨3,vw 3 (bt [1,0,1])⟩=some [49,48,49]:=tx 3 _ (by decide) sC _ (by kernel_rfl)
 have t2:M32.m ⟨3,vw 3 (xr (bt [1,1,0]) (bt [0,1,1]))⟩=some [49,48,49]:=tx 3 _ (by decide) (WG sA sB) _ (by kernel_rfl)
 have t3:M36.m ⟨4,vw 4 (bt [1,0,1,1])⟩=some 3:=wt (n:=4) (by decide) sE
 have t4:M32.m ⟨2,vw 2 (app 3 [bt [1,1,0],bt [0,1,1]] (bt [1,0,1]))⟩=some [49,49]:=tx 2 _ (by decide) (Vr 3 [bt [1,1,0],bt [0,1,1]] _) _ (by kernel_rfl)
 have t5:(mr 2 (tr 3 [bt [1,1,0],bt [0,1,1]]))[1]?.getD (0,[])=(2,vw 2 (col [bt [1,1,0],bt [0,1,1]] 1)):=rfl
 have t6:M32.m ⟨2,vw 2 (col [bt [1,1,0],bt [0,1,1]] 1)⟩=some [49,49]:=tx 2 _ (by decide) (col_sup [bt [1,1,0],bt [0,1,1]] 1) _ (by kernel_rfl)
 have t7:M32.m ⟨3,[7]⟩=some [49,49,49]:=by
  have:=tx 3 (bt [1,1,1]) (by decide) (s 3 [1,1,1] rfl) [49,49,49] (by kernel_rfl)
  have e:vw 3 (bt [1,1,1])=[7]:=by kernel_rfl
  rw[e]at this
  exact this
 have t8:M32.m ⟨3,[1]⟩=some [49,48,48]:=by
  have:=tx 3 (bt [1,0,0]) (by decide) (s 3 [1,0,0] rfl) [49,48,48] (by kernel_rfl)
  have e:vw 3 (bt [1,0,0])=[1]:=by kernel_rfl
  rw[e]at this
  exact this
 have f1:M22j.m ⟨2,List.take 2 (List.drop 0 [(2,vw 2 (bt [1,1])),(2,vw 2 (bt [1,1]))]),2,vw 2 (bt [1,0])⟩=some 9:=live_unsat (c:=2) (r:=2) (R:=[bt [1,1],bt [1,1]]) (b:=bt [1,0]) (by decide) rfl (by decide) (sup2 sF sF) sD (by kernel_rfl)
 have f2:M47g.m ⟨2,0,2,2,[(2,vw 2 (bt [1,1])),(2,vw 2 (bt [1,1]))].set 1 (2,vw 2 (bt [0,1]))⟩=some (2,[(2,[3]),(2,[2])],0,[(2,[3]),(2,[2])]):=by
  have h:=inv47g (n:=2) (q:=2) (R:=[bt [1,1],bt [0,1]]) (by decide) rfl (sup2 sF sG)
  have e1:¬rk 2 [bt [1,1],bt [0,1]]<2:=by
   have:rk 2 [bt [1,1],bt [0,1]]=2:=by kernel_rfl
   omega
  have e2:mr 2 (rd [bt [1,1],bt [0,1]] (idm 2) 2).2.1=[(2,[3]),(2,[2])]:=by kernel_rfl
  have e3:mr 2 [bt [1,1],bt [0,1]]=[(2,[3]),(2,[2])]:=by kernel_rfl
  rw[if_neg e1,e2]at h
  refine Eq.trans h ?_
  rw[e3];rfl
 have f3:M52.m ⟨[2]⟩=some (0,[],1):=by
  have z:M51.m ⟨1⟩=some (1,0,nw 1,nw 1,0,vw 1 fun _=>false):=zero (n:=1) (by decide)
  unfold M52.m
  show Q0 (M51.m ⟨1⟩) _=_
  rw[z]
  simp only[Q0,nz,cond_false]
  rw[iter_eq]
  rfl
 have f4:M51t.m ⟨-1⟩=some (0,[],1):=rfl
 have f5:M51t.m ⟨4097⟩=some (0,[],3):=rfl
 have f6:M46.m ⟨2,[(2,[3]),(2,[2])],2,List.take 2 (List.drop 0 [(2,[3]),(2,[2])])⟩=some true:=same46 2 [(2,[3]),(2,[2])] (by decide) (by decide)
 have l1:(((mr 2 (tr 3 [bt [1,1,0],bt [0,1,1]])).length:Nat):Int)=3:=rfl
 have l2:inR 1 (mr 2 (tr 3 [bt [1,1,0],bt [0,1,1]])).length=true:=rfl
 have l3:inR 0 ([((3:Int),[(7:Int)])]:List (Int×List Int)).length=true:=rfl
 have l4:((([((3:Int),[(7:Int)])]:List (Int×List Int)).length:Nat):Int)=1:=rfl
 have l5:([((3:Int),[(7:Int)])]:List (Int×List Int))[0]?.getD (0,[])=(3,[7]):=rfl
 have l6:leB 2 ([((2:Int),[(3:Int)]),(2,[2])]:List (Int×List Int)).length=true:=rfl
 have l7:decide (1<2)=true:=rfl
 unfold M19.m
 simp only[q1,q2,Q0,a1,a2,q3,a3,a4,a5,a6,q4,a7,t1,t2,BEq.rfl,Bool.not_true,cond_false,nz,J2,q5,t3,t4,Bool.not_false,cond_true,l1,l2,Bool.true_or,t5,t6,l3,l4,l5,t7,t8,q6,f1,q7,l7,f2,f3,f4,f5,l6,Bool.and_self,f6]
end Gf
end Go.Proofs.Ytddaobhpffpmoaa
namespace Go.Proofs.Ytddaobhpffpmoaa
open Go.Abs
namespace Gf
theorem lb_suc(n:Nat)(b:Nat→Bool):lb (n+1) b=lb n b++[i01 (b n)]:=by
 unfold lb
 rw[List.range_succ,List.map_append];rfl
theorem bt_val{l:List Int}(h:B01 l){i:Nat}(hi:i<l.length):l[i]=i01 (bt l i):=by
 unfold bt
 rw[List.getElem?_eq_getElem hi,Option.getD_some]
 rcases h _ (List.getElem_mem hi) with e|e<;>rw[e]<;>rfl
theorem xor8(p q:Bool):IntKind.u8.wrap (↑(BitVec.ofInt 8 (i01 p)^^^BitVec.ofInt 8 (i01 q)).toNat:Int)=i01 (Bool.xor p q):=by
 cases p<;>cases q<;>rfl
theorem run4(mr mc:Nat)(ma:List Int)(ix:Int):M4.m ⟨mr,mc,ma,ix⟩=some true:=by
 obtain⟨r,hr⟩:=small [((mr:Int),(mc:Int),ma)] (by simp)
 unfold M4.m
 simp only[hr,Q0]
 cases r with
 |false=>simp only[Bool.not_false,cond_true,JJ]
 |true=>
  have hc:mc%140≤139:=by omega
  generalize hcc:mc%140=c at hc
  have h21:M21.m ⟨(mr:Int),(mc:Int),ma,2,(c:Int)⟩=some [(List.range c).map fun(j:Nat)=>cell ma ((0:Nat):Int) c j,(List.range c).map fun(j:Nat)=>cell ma ((1:Nat):Int) c j]:=rows (n:=2) mr mc ma (by omega) (show c≤1000 by omega)
  have hl:∀i:Nat,((List.range c).map fun(j:Nat)=>cell ma (i:Int) c j).length=c∧B01 ((List.range c).map fun(j:Nat)=>cell ma (i:Int) c j):=fun i=>⟨by simp,fun x hx=>by
   obtain⟨j,_,rfl⟩:=List.mem_map.1 hx
   exact j9 _ _ _ _⟩
  obtain⟨h0,b0⟩:=hl 0
  obtain⟨h1,b1⟩:=hl 1
  generalize ((List.range c).map fun(j:Nat)=>cell ma ((0:Nat):Int) c j)=l0 at*
  generalize ((List.range c).map fun(j:Nat)=>cell ma ((1:Nat):Int) c j)=l1 at*
  have s0:Sup c (bt l0):=h0▸KT l0
  have s1:Sup c (bt l1):=h1▸KT l1
  have v0:M24.m ⟨l0⟩=some ((c:Int),vw c (bt l0)):=by have:=vec (l:=l0) (by omega) b0;rw[h0]at this;exact this
  have v1:M24.m ⟨l1⟩=some ((c:Int),vw c (bt l1)):=by have:=vec (l:=l1) (by omega) b1;rw[h1]at this;exact this
  have e0:lb c (bt l0)=l0:=by have:=lb_bt b0;rw[h0]at this;exact this
  have e1:lb c (bt l1)=l1:=by have:=lb_bt b1;rw[h1]at this;exact this
  have q0:M30.m ⟨(c:Int),vw c (bt l0),l0⟩=some true:=by have:=equal (b:=bt l0) (show c≤4096 by omega) s0;rw[e0]at this;exact this
  have q1:M30.m ⟨(c:Int),vw c (bt l1),l1⟩=some true:=by have:=equal (b:=bt l1) (show c≤4096 by omega) s1;rw[e1]at this;exact this
  have r35:M35.m ⟨l0,l1⟩=some (i01 (dot c (bt l0) (bt l1))):=by have:=ref35 (a:=l0) (v:=l1) (by omega) (by omega) b0 b1;rw[h0]at this;exact this
  have k34:M34.m ⟨(c:Int),vw c (bt l0)⟩=some l0:=by have:=bits (b:=bt l0) (show c≤4096 by omega) s0;rw[e0]at this;exact this
  have hk:iter M4.s0 ⟨ix,(c:Int),[l0,l1],0,i01 (dot c (bt l0) (bt l1)),0,0,0,0,0,(mr:Int),(mc:Int),ma,(c:Int),vw c (bt l0),(c:Int),vw c (bt l1),(c:Int),vw c (xr (bt l0) (bt l1)),[]⟩=
    some ⟨ix,(c:Int),[l0,l1],0,i01 (dot c (bt l0) (bt l1)),0,lb c (xr (bt l0) (bt l1)),((cnt (bt l0) c:Nat):Int),(mr:Int),(mc:Int),ma,(c:Int),vw c (bt l0),(c:Int),vw c (bt l1),(c:Int),vw c (xr (bt l0) (bt l1))⟩:=by
   have key:=QR (step:=M4.s0) (fun k=>⟨ix,(c:Int),[l0,l1],0,i01 (dot c (bt l0) (bt l1)),0,0,k,((cnt (bt l0) k:Nat):Int),(k:Int),(mr:Int),(mc:Int),ma,(c:Int),vw c (bt l0),(c:Int),vw c (bt l1),(c:Int),vw c (xr (bt l0) (bt l1)),lb k (xr (bt l0) (bt l1))⟩) c
    (y:=⟨ix,(c:Int),[l0,l1],0,i01 (dot c (bt l0) (bt l1)),0,lb c (xr (bt l0) (bt l1)),((cnt (bt l0) c:Nat):Int),(mr:Int),(mc:Int),ma,(c:Int),vw c (bt l0),(c:Int),vw c (bt l1),(c:Int),vw c (xr (bt l0) (bt l1))⟩) (fun k hk=>by
     have hk0:k<l0.length:=by omega
     have hk1:k<l1.length:=by omega
     have f1:decide ((k:Int)<(c:Int))=true:=by simpa using hk
     have f2:(eqN 0 0&&eqN (lb k (xr (bt l0) (bt l1))).length k&&QP (k+1) 1)=true:=by
      have g1:eqN (lb k (xr (bt l0) (bt l1))).length k=true:=by simp[eqN,Qd]
      have g2:QP (k+1) 1=true:=by simp[QP,leB];omega
      rw[g1,g2];rfl
     have f3:=cnt_le (bt l0) k
     have f4:IntKind.i64.wrap (((cnt (bt l0) k:Nat):Int)+IntKind.i64.wrap (i01 (bt l0 k)))=((cnt (bt l0) (k+1):Nat):Int):=by
      simp only[cnt]
      cases bt l0 k with
      |true=>rw[show IntKind.i64.wrap (i01 true)=1 from rfl,w64 (by omega) (by omega)];simp
      |false=>rw[show IntKind.i64.wrap (i01 false)=0 from rfl,w64 (by omega) (by omega)];simp
     have f5:([l0,l1]:List (List Int))[0]?.getD []=l0:=rfl
     have f6:([l0,l1]:List (List Int))[1]?.getD []=l1:=rfl
     have f7:inR 0 ([l0,l1]:List (List Int)).length=true:=rfl
     have f8:inR 1 ([l0,l1]:List (List Int)).length=true:=rfl
     unfold M4.s0
     rw[lb_suc]
     simp only[f1,f2,f5,f6,f7,f8,QD hk0,QD hk1,XJ hk0,XJ hk1,bt_val b0 hk0,bt_val b1 hk1,xor8,f4,cond_true,suc (show k<9000000000000000000 by omega)]
     rfl) (by
     have f1:decide ((c:Int)<(c:Int))=false:=by simp
     have f2:leB (0+c) (lb c (xr (bt l0) (bt l1))).length=true:=by simp[leB,Qd]
     have f3:List.take c (List.drop 0 (lb c (xr (bt l0) (bt l1))))=lb c (xr (bt l0) (bt l1)):=by rw[List.drop_zero,List.take_of_length_le (by rw[Qd];exact Nat.le_refl _)]
     unfold M4.s0
     simp only[f1,f2,f3,cond_false,cond_true,Bool.and_self])
   exact key
  have hk1:iter M4.s1 ⟨(c:Int),[l0,l1],l0,0,(mr:Int),(mc:Int),ma,(c:Int),vw c (bt l0)⟩=some (.inl PUnit.unit):=by
   have key:=QR (step:=M4.s1) (fun k=>⟨(c:Int),[l0,l1],l0,(k:Int),(mr:Int),(mc:Int),ma,(c:Int),vw c (bt l0)⟩) c (y:=.inl PUnit.unit) (fun k hk=>by
    have hk0:k<l0.length:=by omega
    have f1:decide ((k:Int)<(c:Int))=true:=by simpa using hk
    have f5:([l0,l1]:List (List Int))[0]?.getD []=l0:=rfl
    have f7:inR 0 ([l0,l1]:List (List Int)).length=true:=rfl
    have f9:(l0[k] !=l0[k])=false:=by simp
    have f10:(i01 (bt l0 k) !=i01 (bt l0 k))=false:=by simp
    unfold M4.s1
    simp only[f1,f5,f7,QD hk0,XJ hk0,cond_true,f9,Bool.not_false,at_in (show c≤4096 by omega) s0 hk,Q0,Bool.true_or,cond_false,suc (show k<9000000000000000000 by omega)]
    rw[bt_val b0 hk0,f10,cond_false]) (by
    have f1:decide ((c:Int)<(c:Int))=false:=by simp
    unfold M4.s1
    simp only[f1,cond_false])
   exact key
  have h20:M20.m ⟨(mr:Int),(mc:Int),ma⟩=some (((mr%10:Nat):Int),(c:Int)):=by rw[VH,hcc]
  have g0:inR 0 (List.length [l0,l1])=true:=rfl
  have g1:inR 1 (List.length [l0,l1])=true:=rfl
  have g2:([l0,l1]:List (List Int))[0]?.getD []=l0:=rfl
  have g3:([l0,l1]:List (List Int))[1]?.getD []=l1:=rfl
  have g4:((l0.length:Int) !=(c:Int))=false:=by rw[h0];simp
  have g5:((0:Int) !=0)=false:=rfl
  have g6:(i01 (dot c (bt l0) (bt l1)) !=i01 (dot c (bt l0) (bt l1)))=false:=by simp
  have g7:(((cnt (bt l0) c:Nat):Int) !=((cnt (bt l0) c:Nat):Int))=false:=by simp
  have qx:M30.m ⟨(c:Int),vw c (xr (bt l0) (bt l1)),lb c (xr (bt l0) (bt l1))⟩=some true:=equal (by omega) (WG s0 s1)
  have hat:M37.m ⟨(c:Int),vw c (bt l0),ix⟩=some (bif bif decide (ix≥0) then decide (ix<(c:Int)) else false then l0[ix.toNat]?.getD 0 else 0):=by
   by_cases h:0≤ix∧ix<(c:Int)
   ·obtain⟨i,rfl⟩:=Int.eq_ofNat_of_zero_le h.1
    have hi:i<c:=by omega
    have hi0:i<l0.length:=by omega
    have f1:decide ((i:Int)≥0)=true:=by simp
    have f2:decide ((i:Int)<(c:Int))=true:=by simpa using hi
    rw[f1,f2,cond_true,cond_true,at_in (show c≤4096 by omega) s0 hi,Int.toNat_natCast,List.getElem?_eq_getElem hi0,Option.getD_some,bt_val b0 hi0]
   ·have f:(bif decide (ix≥0) then decide (ix<(c:Int)) else false)=false:=by
     cases h':decide (ix≥0) with
     |false=>rfl
     |true=>simp at h';simp;omega
    rw[at_out (show c≤4096 by omega) s0 h,f];rfl
  have hg:(bif inR ix l0.length&&true then true else bif bif decide (ix≥0) then decide (ix<(c:Int)) else false then false else true)=true:=by
   by_cases h:0≤ix∧ix<(c:Int)
   ·obtain⟨i,rfl⟩:=Int.eq_ofNat_of_zero_le h.1
    rw[QD (show i<l0.length by omega)];rfl
   ·have f:(bif decide (ix≥0) then decide (ix<(c:Int)) else false)=false:=by
     cases h':decide (ix≥0) with
     |false=>rfl
     |true=>simp at h';simp;omega
    rw[f]
    cases inR ix l0.length&&true<;>rfl
  simp only[Bool.not_true,cond_false,h20,h21,g0,cond_true,g2,v0,g1,g3,v1,add (show c≤4096 by omega) s0 s1,dot33 (show c≤4096 by omega) s0 s1,hk,Bool.true_and,hg,k34,Bool.true_or,g4,Bool.not_false,q0,q1,g5,qx,r35,g6,wt (show c≤4096 by omega) s0,g7,hat]
  have hv:∀v:Int,(v !=v)=false:=fun v=>by simp
  simp only[hv,cond_false,hk1,J6,JJ]
theorem run4'{mr mc:Int}(ma:List Int)(ix:Int)(hr:0≤mr)(hc:0≤mc):M4.m ⟨mr,mc,ma,ix⟩=some true:=by
 obtain⟨r,rfl⟩:=Int.eq_ofNat_of_zero_le hr
 obtain⟨c,rfl⟩:=Int.eq_ofNat_of_zero_le hc
 exact run4 r c ma ix
end Gf
end Go.Proofs.Ytddaobhpffpmoaa
namespace Go.Proofs.Ytddaobhpffpmoaa
open Go.Abs
namespace Gf
theorem par_swap(f:Nat→Nat→Bool)(n:Nat):∀m,par (fun j=>par (fun t=>f t j) n) m=par (fun t=>par (fun j=>f t j) m) n
 |0=>(par_no n).symm
 |m+1=>by
  have ih:=par_swap f n m
  simp only[par]
  rw[ih,←par_xr]
  rfl
theorem par_and(b:Bool)(f:Q7):∀n,par (fun i=>b&&f i) n=(b&&par f n)
 |0=>by simp[par]
 |n+1=>by
  simp only[par,par_and b f n]
  cases b<;>simp
theorem bit_row(B:List Q7)(t j:Nat):bit B t j=row B t j:=by
 unfold bit row
 cases B[t]? <;>rfl
theorem KC(a:Q7)(B:List Q7)(j:Nat):Jq a B j=dot B.length a (col B j):=by
 unfold Jq xs
 rw[X4,par_cnt]
 rfl
theorem Za(B:List Q7)(j t:Nat):col B j t=row B t j:=bit_row B t j
theorem mulr_app(m:Nat)(a:Q7)(B:List Q7)(y:Q7):dot m (Jq a B) y=dot B.length a (fun t=>dot m (row B t) y):=by
 have e1:dot m (Jq a B) y=par (fun j=>par (fun t=>(a t&&row B t j)&&y j) B.length) m:=by
  rw[X4]
  refine Xf fun j _=> ?_
  unfold an
  rw[KC,X4]
  have:(fun t=>(a t&&row B t j)&&y j)=fun t=>y j&&an a (col B j) t:=by
   funext t;unfold an;rw[Za,Bool.and_comm]
  rw[this,par_and,Bool.and_comm]
 rw[e1,par_swap,X4]
 refine Xf fun t _=> ?_
 show _=(a t&&dot m (row B t) y)
 rw[X4,←par_and]
 refine Xf fun j _=> ?_
 unfold an
 rw[Bool.and_assoc]
theorem J9(c:Nat)(R:List Q7)(x:Q7)(i:Nat):app c R x i=dot c (row R i) x:=by
 unfold app row
 cases R[i]? with
 |some b=>rfl
 |none=>exact(WW _ _).symm
def J7(A B:List Q7):List Q7:=A.map fun a=>Jq a B
theorem Qe(A B:List Q7):(J7 A B).length=A.length:=by simp[J7]
theorem no_mulr(B:List Q7):Jq (fun _=>false) B=fun _=>false:=by
 funext j
 rw[KC,WW]
theorem Wz(A B:List Q7)(i:Nat):row (J7 A B) i=Jq (row A i) B:=by
 unfold J7 row
 rw[List.getElem?_map]
 cases A[i]? with
 |some a=>rfl
 |none=>exact(no_mulr B).symm
theorem JC(c:Nat)(A B:List Q7)(x:Q7):app c (J7 A B) x=app B.length A (app c B x):=by
 funext i
 rw[J9,J9,Wz,mulr_app]
 exact VB fun t _=>(J9 c B x t).symm
theorem Ja{c:Nat}{A B:List Q7}(sB:Ql c B):Ql c (J7 A B):=fun b hb=>by
 obtain⟨a,_,rfl⟩:=List.mem_map.1 hb
 exact xs_sup sB _
theorem VY{A B:List Q7}(hl:A.length=B.length)(h:∀i,i<A.length→row A i=row B i):A=B:=by
 refine List.ext_getElem hl fun i h1 h2=> ?_
 have:=h i h1
 rw[Jf h1,Jf h2]at this
 exact this
theorem Zc{n:Nat}{a b:Q7}(ha:Sup n a)(hb:Sup n b)(h:∀i,i<n→a i=b i):a=b:=by
 funext i
 rcases Nat.lt_or_ge i n with hi|hi
 ·exact h i hi
 ·rw[ha i hi,hb i hi]
theorem qe{c:Nat}{A B:List Q7}(hl:A.length=B.length)(sA:Ql c A)(sB:Ql c B)(h:∀x,Sup c x→app c A x=app c B x):A=B:=by
 refine VY hl fun i _=>Zc (ZV sA i) (ZV sB i) fun j hj=> ?_
 have:=congrFun (h (un j) (Vw hj)) i
 rw[J9,J9,Zz _ hj,Zz _ hj]at this
 exact this
theorem app_sup'{c r:Nat}{R:List Q7}(h:R.length=r)(x:Q7):Sup r (app c R x):=h▸Vr c R x
theorem app_xr(c:Nat)(R:List Q7)(x y:Q7):app c R (xr x y)=xr (app c R x) (app c R y):=by
 funext i
 unfold xr
 rw[J9,J9,J9]
 exact dot_xr _ _ _ _
theorem xr_self(a:Q7):xr a a=fun _=>false:=by funext i;unfold xr;simp
theorem eq_of_xr{a b:Q7}(h:xr a b=fun _=>false):a=b:=by
 funext i
 have:=congrFun h i
 unfold xr at this
 simpa using this
theorem xr_comm(a b:Q7):xr a b=xr b a:=by funext i;unfold xr;rw[Bool.xor_comm]
theorem idm_app{n:Nat}{x:Q7}(hx:Sup n x):app n (idm n) x=x:=by
 refine Zc (app_sup' (Qj n) x) hx fun i hi=> ?_
 rw[J9,idm_row hi,ZJ,Zz _ hi]
section
variable {c r s:Nat}{R S:List Q7}{ps:List Nat}
theorem low(inv:Inv c c r s (R,S,ps)){i:Nat}(h:ps.length≤i):row R i=fun _=>false:=by
 funext j
 rcases Nat.lt_or_ge j c with hj|hj
 ·exact inv.zero i j h hj
 ·exact inv.sup i j hj
theorem kv_dot(inv:Inv c c r s (R,S,ps)){f:Nat}(hf:f<c)(i:Nat):dot c (row R i) (kv R ps f)=false:=by
 have own:∀p,p<ps.length→∀j,row R j (pv ps p)=(j==p):=inv.own
 have hp:∀p,p<ps.length→pv ps p<c:=inv.lk
 unfold kv
 rw[Vp hp,Zz _ hf]
 rcases Nat.lt_or_ge i ps.length with hi|hi
 ·rw[Ve (j:=i) fun p h1 h2=>by
   have:(i==p)=false:=by simp;omega
   rw[own p h1,this,Bool.and_false]]
  rw[own i hi]
  simp[hi]
 ·have z:=low inv hi
  rw[z,qV fun p h1=>by rw[Bool.and_false]]
  rfl
theorem kv_sup(inv:Inv c c r s (R,S,ps)){f:Nat}(hf:f<c):Sup c (kv R ps f):=cmb_sup (Vw hf) inv.lk
theorem kv_free{f k:Nat}(hk:¬k∈ps):kv R ps f k=(k==f):=by
 unfold kv
 rw[cmb_off fun p hp e=>hk (WY.2 ⟨p,hp,e⟩)]
 rfl
theorem sol_sup(inv:Inv c c r s (R,S,ps)):Sup c (sol S ps):=cmb_sup (fun _ _=>rfl) inv.lk
theorem sol_free{k:Nat}(hk:¬k∈ps):sol S ps k=false:=by
 unfold sol
 rw[cmb_off fun p hp e=>hk (WY.2 ⟨p,hp,e⟩)]
theorem j6(inv:Inv c c r s (R,S,ps))(g:Nat→Bool)(i:Nat):dot c (row R i) (cmb (fun _=>false) g ps ps.length)=(decide (i<ps.length)&&g i):=by
 have own:∀p,p<ps.length→∀j,row R j (pv ps p)=(j==p):=inv.own
 rw[Vp inv.lk,VA,Bool.false_xor]
 rw[Ve (j:=i) fun p h1 h2=>by
  have:(i==p)=false:=by simp;omega
  rw[own p h1,this,Bool.and_false]]
 rcases Nat.lt_or_ge i ps.length with hi|hi
 ·rw[own i hi];simp
 ·have:decide (i<ps.length)=false:=by simp;omega
  rw[this];rfl
theorem only_zero(inv:Inv c c r s (R,S,ps)){w:Q7}(hw:Sup c w)(hf:∀k,k<c→¬k∈ps→w k=false)(hk:∀i,dot c (row R i) w=false):w=fun _=>false:=by
 have own:∀p,p<ps.length→∀j,row R j (pv ps p)=(j==p):=inv.own
 refine Zc hw (fun _ _=>rfl) fun j hj=> ?_
 by_cases hm:j∈ps
 ·obtain⟨p,hp,rfl⟩:=WY.1 hm
  have:=hk p
  rw[dot_one (j:=pv ps p) fun i hi hne=>by
   by_cases h:i∈ps
   ·obtain⟨q,hq,rfl⟩:=WY.1 h
    have hpq:p≠q:=fun e=>hne (by rw[e])
    have:(p==q)=false:=by simp[hpq]
    rw[own q hq,this];rfl
   ·rw[hf i hi h,Bool.and_false]]at this
  rw[own p hp]at this
  simpa [hj] using this
 ·exact hf j hj hm
end
theorem eqs_no{c d:Nat}{R:List Q7}{x y:Q7}:Eqs c d R [] x y↔app c R x=fun _=>false:=by
 unfold Eqs
 constructor
 ·intro h
  funext i
  rw[J9,h i,row_nil,WW]
 ·intro h i
  rw[←J9,h,row_nil,WW]
theorem Wa{c:Nat}{R:List Q7}(sR:Ql c R)(x:Q7):app c R x=(fun _=>false)↔∀i,dot c (row (rd R [] c).1 i) x=false:=by
 have h:=(JP (d:=0) (S:=[]) sR (.inl rfl) c)
 have l2:(rd R [] c).2.1=[]:=List.length_eq_zero_iff.1 (by rw[h.1.ls];rfl)
 have h2:=h.2 x (fun _=>false)
 rw[l2,eqs_no,eqs_no]at h2
 rw[←h2]
 constructor
 ·intro e i
  rw[←J9,e]
 ·intro e
  funext i
  rw[J9,e]
theorem Y8{c:Nat}{R:List Q7}(sR:Ql c R){f:Nat}(hf:f<c):app c R (kv (rd R [] c).1 (rd R [] c).2.2 f)=fun _=>false:=
 (Wa sR _).2 fun i=>kv_dot (JP (d:=0) (S:=[]) sR (.inl rfl) c).1 hf i
theorem eqs_sd{c:Nat}{R:List Q7}{b x:Q7}(sb:Sup R.length b):Eqs c 1 R (sd b R.length) x (un 0)↔app c R x=b:=by
 have e:∀i,dot 1 (row (sd b R.length) i) (un 0)=b i:=fun i=>by
  rw[Zz _ (by omega)]
  rcases Nat.lt_or_ge i R.length with hi|hi
  ·rw[sd_row b hi];simp
  ·rw[ZB (by rw[Jk];exact hi),sb i hi]
 unfold Eqs
 constructor
 ·intro h
  funext i
  rw[J9,h i,e]
 ·intro h i
  rw[←J9,h,e]
theorem solve_ok{c:Nat}{R:List Q7}{b:Q7}(sR:Ql c R)(sb:Sup R.length b):
  (bad (rd R (sd b R.length) c).2.1 (rd R (sd b R.length) c).2.2.length R.length=false→app c R (sol (rd R (sd b R.length) c).2.1 (rd R (sd b R.length) c).2.2)=b)∧
  (bad (rd R (sd b R.length) c).2.1 (rd R (sd b R.length) c).2.2.length R.length=true→∀x,app c R x≠b):=by
 obtain⟨inv,eqs⟩:=JP (d:=1) (S:=sd b R.length) sR (.inr (Jk _ _)) c
 have l2:=inv.ls
 rw[Jk]at l2
 have l3:=inv.lt
 generalize rd R (sd b R.length) c=st at*
 obtain⟨R',S',ps⟩:=st
 simp only at l2 l3 eqs⊢
 constructor
 ·intro hb
  rw[←eqs_sd sb,←eqs]
  intro i
  unfold sol
  rw[j6 inv,Zz _ (by omega)]
  rcases Nat.lt_or_ge i ps.length with hi|hi
  ·simp[hi]
  ·have h1:decide (i<ps.length)=false:=by simp;omega
   rw[h1,Bool.false_and]
   rcases Nat.lt_or_ge i R.length with hr|hr
   ·unfold bad at hb
    cases hf:fnd (fun i=>row S' i 0) (R.length - ps.length) ps.length with
    |some j=>rw[hf]at hb;cases hb
    |none=>exact(UE hf i hi (by omega)).symm
   ·rw[ZB (by omega)]
 ·intro hb x hx
  rw[←eqs_sd sb,←eqs]at hx
  unfold bad at hb
  cases hf:fnd (fun i=>row S' i 0) (R.length - ps.length) ps.length with
  |none=>rw[hf]at hb;cases hb
  |some j=>
   obtain⟨h1,_,h3,_⟩:=KM hf
   have:=hx j
   rw[low inv h1,WW,Zz _ (by omega)]at this
   rw[h3]at this
   cases this
theorem pv_gap{ps:List Nat}(inc:∀p q,p<q→q<ps.length→pv ps p<pv ps q)(p:Nat):∀d,p+d<ps.length→pv ps p+d≤pv ps (p+d)
 |0,_=>Nat.le_refl _
 |d+1,h=>by
  have h1:=pv_gap inc p d (by omega)
  have h2:=inc (p+d) (p+(d+1)) (by omega) h
  omega
theorem full_pv{c r s:Nat}{R S:List Q7}{ps:List Nat}(inv:Inv c c r s (R,S,ps))(hf:ps.length=c){p:Nat}(hp:p<c):pv ps p=p:=by
 have inc:∀p q,p<q→q<ps.length→pv ps p<pv ps q:=inv.inc
 have h1:=pv_gap inc 0 p (by omega)
 have h2:=pv_gap inc p (c - 1 - p) (by omega)
 have h3:pv ps (p+(c - 1 - p))<c:=inv.lk _ (by show _<ps.length;omega)
 rw[Nat.zero_add]at h1
 omega
theorem U8{n:Nat}{R:List Q7}(hR:R.length=n)(sR:Ql n R)(hf:rk n R=n){x y:Q7}(hx:Sup n x)(hy:Sup n y):
  app n R x=y↔x=app n (rd R (idm n) n).2.1 y:=by
 have hS:Mt R (idm n):=.inr (by rw[Qj,hR])
 obtain⟨inv,eqs⟩:=JP (d:=n) sR hS n
 have e0:(rd R (idm n) n).2.2.length=n:=by rw[←(rd_ps R (S:=[]) (T:=idm n) n).2];exact hf
 have l2:=inv.ls
 rw[Qj]at l2
 have l1:=inv.lr
 have eqs:=eqs x y
 generalize rd R (idm n) n=st at*
 obtain⟨R',S',ps⟩:=st
 simp only at e0 l1 l2 eqs⊢
 have own:∀p,p<ps.length→∀j,row R' j (pv ps p)=(j==p):=inv.own
 have e1:Eqs n n R (idm n) x y↔app n R x=y:=by
  have e:∀i,dot n (row (idm n) i) y=y i:=fun i=>by
   rcases Nat.lt_or_ge i n with hi|hi
   ·rw[idm_row hi,ZJ,Zz _ hi]
   ·rw[ZB (by rw[Qj];exact hi),WW,hy i hi]
  unfold Eqs
  constructor
  ·intro h
   funext i
   rw[J9,h i,e]
  ·intro h i
   rw[←J9,h,e]
 rw[←e1,←eqs]
 have e2:∀i,dot n (row R' i) x=x i:=fun i=>by
  rcases Nat.lt_or_ge i n with hi|hi
  ·have hu:row R' i=un i:=by
    refine Zc (inv.sup i) (Vw hi) fun j hj=> ?_
    have:=own j (by omega) i
    rw[full_pv inv e0 hj]at this
    rw[this]
    unfold un
    by_cases e:i=j
    ·subst e;rfl
    ·have h1:(i==j)=false:=by simp[e]
     have h2:(j==i)=false:=by simp;omega
     rw[h1,h2]
   rw[hu,ZJ,Zz _ hi]
  ·rw[ZB (by omega),WW,hx i hi]
 unfold Eqs
 constructor
 ·intro h
  funext i
  rw[←e2,h i,J9]
 ·intro h i
  rw[e2,←J9]
  exact congrFun h i
theorem rk_le{c:Nat}{R:List Q7}(sR:Ql c R):rk c R≤c:=by
 have:=YU (S:=[]) sR (.inl rfl) c
 unfold rk
 omega
theorem ql{n:Nat}{R:List Q7}(hR:R.length=n)(sR:Ql n R):rk n R=n↔∀x,Sup n x→app n R x=(fun _=>false)→x=fun _=>false:=by
 constructor
 ·intro h x hx h0
  rw[(U8 hR sR h hx (fun _ _=>rfl)).1 h0]
  funext i
  rw[J9,VA]
 ·intro h
  have cn:=YU (S:=[]) sR (.inl rfl) n
  have hl:=rk_le sR
  refine Classical.byContradiction fun hne=> ?_
  have:0<(fr (rd R [] n).2.2 n).length:=by unfold rk at hne hl;omega
  obtain⟨f,hf⟩:=List.exists_mem_of_length_pos this
  obtain⟨hf,hm⟩:=mem_fr.1 hf
  have inv:=(JP (d:=0) (S:=[]) sR (.inl rfl) n).1
  have h1:=h _ (kv_sup inv hf) (Y8 sR hf)
  have h2:=kv_free (R:=(rd R [] n).1) (f:=f) hm
  rw[h1]at h2
  simp at h2
end Gf
end Go.Proofs.Ytddaobhpffpmoaa
namespace Go.Proofs.Ytddaobhpffpmoaa
open Go.Abs
namespace Gf
theorem lb_congr{n:Nat}{a b:Q7}(h:∀i,i<n→a i=b i):lb n a=lb n b:=by
 unfold lb
 exact List.map_congr_left fun i hi=>by rw[h i (List.mem_range.1 hi)]
theorem Uj(c:Nat)(R:List Q7):Ql R.length (tr c R):=fun b hb=>by
 unfold tr at hb
 obtain⟨k,_,rfl⟩:=List.mem_map.1 hb
 exact col_sup R k
theorem app_tr{c:Nat}{a:Q7}{B:List Q7}{j:Nat}(hj:j<c):app B.length (tr c B) a j=Jq a B j:=by
 have h:j<(tr c B).length:=by rw[Qi];exact hj
 rw[app_at a h]
 unfold dot Jq xs
 have e:(tr c B)[j]=col B j:=by
  have e1:(tr c B)[j]? =some (col B j):=by unfold tr;rw[List.getElem?_map,List.getElem?_range hj];rfl
  rw[List.getElem?_eq_getElem h]at e1
  exact Option.some.inj e1
 rw[e]
 have e2:an (col B j) a=fun t=>a t&&bit B t j:=by
  funext t
  unfold an col
  rw[Bool.and_comm]
 rw[e2]
theorem ref42{c:Nat}{A B:List Q7}(hB:B.length≤4096)(hc:c≤4096)(hA:A.length≤4096)(sA:Ql B.length A):M42.m ⟨lr B.length A,lr c B,c⟩=some (lr c (A.map fun a=>Jq a B)):=by
 have row:∀i (hi:i<A.length),M44.m ⟨lr B.length (tr c B),lb B.length A[i]⟩=some (lb c (Jq A[i] B)):=fun i hi=>by
  have:=ref44 (c:=B.length) (R:=tr c B) (v:=A[i]) hB (by rw[Qi];exact hc) (Uj c B) (sA _ (List.getElem_mem hi))
  rw[Qi]at this
  rw[this]
  exact congrArg some (lb_congr fun j hj=>app_tr hj)
 have ts:∀i (hi:i<A.length),lr c ((A.take (i+1)).map fun a=>Jq a B)=lr c ((A.take i).map fun a=>Jq a B)++[lb c (Jq A[i] B)]:=fun i hi=>by
  unfold lr
  rw[List.take_succ_eq_append_getElem hi,List.map_append,List.map_append];rfl
 have key:=QR (step:=M42.s0) (fun i=>⟨lr B.length A,0,i,lr B.length (tr c B),(i:Int),lr c ((A.take i).map fun a=>Jq a B)⟩) A.length (y:=⟨0,A.length,lr c (A.map fun a=>Jq a B)⟩) (fun i hi=>by
  have e1:decide ((i:Int)<((lr B.length A).length:Int))=true:=by rw[Qt];simpa using hi
  have e3:inR (i:Int) (lr B.length A).length=true:=QD (by rw[Qt];exact hi)
  have e5:(eqN 0 0&&eqN (lr c ((A.take i).map fun a=>Jq a B)).length i&&QP (i+1) 24)=true:=by
   have g1:eqN (lr c ((A.take i).map fun a=>Jq a B)).length i=true:=by
    rw[Qt,List.length_map,List.length_take,Nat.min_eq_left (by omega)];simp[eqN]
   have g2:QP (i+1) 24=true:=by simp[QP,leB];omega
   rw[g1,g2];rfl
  unfold M42.s0
  rw[ts i hi]
  simp only[e1,e3,lr_at hi,row i hi,Q0,e5,cond_true,suc (show i<9000000000000000000 by omega)]) (by
  have e1:decide ((A.length:Int)<((lr B.length A).length:Int))=false:=by rw[Qt];simp
  unfold M42.s0
  simp only[e1,cond_false,List.take_length])
 have key:iter M42.s0 ⟨lr B.length A,0,0,lr B.length (tr c B),0,[]⟩=_:=key
 have e5:leB (0+A.length) (lr c (A.map fun a=>Jq a B)).length=true:=by simp[leB,Qt]
 unfold M42.m
 simp only[ref43 hc hB,Q0,key,e5,Bool.and_self,cond_true,List.drop_zero]
 rw[List.take_of_length_le (by rw[Qt];simp)]
theorem mulr_sup{c:Nat}{A B:List Q7}(sB:Ql c B):Ql c (A.map fun a=>Jq a B):=fun b hb=>by
 obtain⟨a,_,rfl⟩:=List.mem_map.1 hb
 exact xs_sup sB _
theorem XF(a:List Int)(n k:Nat):Ql k ((rowsN a n k).map bt)∧lr k ((rowsN a n k).map bt)=rowsN a n k∧((rowsN a n k).map bt).length=n:=by
 refine⟨fun b hb=> ?_,lr_bt fun r hr=>JY a n k hr,by rw[List.length_map,Qp]⟩
 obtain⟨r,hr,rfl⟩:=List.mem_map.1 hb
 have:=KT r
 rw[(JY a n k hr).1]at this
 exact this
theorem run6(ar ac br bc:Nat)(aa ba v:List Int):M6.m ⟨ar,ac,aa,br,bc,ba,v⟩=some true:=by
 obtain⟨r,hr⟩:=small [((ar:Int),(ac:Int),aa),((br:Int),(bc:Int),ba)] (by simp)
 unfold M6.m
 simp only[hr,Q0]
 cases hg:(bif !r then true else decide ((v.length:Int)>40)) with
 |true=>simp only[cond_true,JJ]
 |false=>
  have h20a:M20.m ⟨(ar:Int),(ac:Int),aa⟩=some (((ar%10:Nat):Int),((ac%140:Nat):Int)):=VH ar ac aa
  have h20b:M20.m ⟨(br:Int),(bc:Int),ba⟩=some (((br%10:Nat):Int),((bc%140:Nat):Int)):=VH br bc ba
  have e12:Int.tmod ((ac%140:Nat):Int) 12=((ac%140%12:Nat):Int):=rfl
  simp only[cond_false,h20a,h20b,e12]
  have hm:ar%10≤9:=by omega
  have hn:ac%140%12≤11:=by omega
  have hc:bc%140≤139:=by omega
  generalize ar%10=m at*
  generalize ac%140%12=n at*
  generalize bc%140=c at*
  obtain⟨sA,lA,nA⟩:=XF aa m n
  obtain⟨sB,lB,nB⟩:=XF ba n c
  have hz:M21.m ⟨0,0,v,1,(n:Int)⟩=some (rowsN v 1 n):=rows' (n:=1) 0 0 v (by omega) (by omega)
  have z0:(rowsN v 1 n)[0]?.getD []=(List.range n).map fun(j:Nat)=>cell v ((0:Nat):Int) n j:=rfl
  have hzl:((List.range n).map fun(j:Nat)=>cell v ((0:Nat):Int) n j).length=n∧B01 ((List.range n).map fun(j:Nat)=>cell v ((0:Nat):Int) n j):=⟨by simp,fun x hx=>by
   obtain⟨j,_,rfl⟩:=List.mem_map.1 hx
   exact j9 _ _ _ _⟩
  have zin:inR 0 (List.length (rowsN v 1 n))=true:=by rw[Qp];rfl
  have h23a:=of23 (L:=rowsN aa m n) (c:=n) (by omega) (by rw[Qp];omega) (fun r hr=>JY aa m n hr) (n:Int)
  have h23b:=of23 (L:=rowsN ba n c) (c:=c) (by omega) (by rw[Qp];omega) (fun r hr=>JY ba n c hr) (c:Int)
  have hvec:=vec (l:=(List.range n).map fun(j:Nat)=>cell v ((0:Nat):Int) n j) (by rw[hzl.1];omega) hzl.2
  simp only[rows' (n:=m) (ar:Int) (ac:Int) aa (by omega) (show n≤1000 by omega),rows' (n:=n) (br:Int) (bc:Int) ba (by omega) (show c≤1000 by omega),hz,zin,cond_true,z0,h23a,h23b,hvec]
  generalize (List.range n).map (fun(j:Nat)=>cell v ((0:Nat):Int) n j)=z at*
  obtain⟨hzn,hz01⟩:=hzl
  have sz:Sup n (bt z):=hzn▸KT z
  have lz:lb n (bt z)=z:=by have:=lb_bt hz01;rw[hzn]at this;exact this
  generalize (rowsN aa m n).map bt=A at*
  generalize (rowsN ba n c).map bt=B at*
  rw[←lA,←lB]
  simp only[hzn]
  have h39:=mul (n:=n) (c:=c) (A:=A) (B:=B) nB.symm (by omega) (by omega) (by omega) sA sB
  have h40:=Vx (c:=c) (R:=B) (by omega) (by omega) sB
  have h29:=apply (c:=n) (R:=A) (v:=bt z) (by omega) (by omega) sA sz
  have h42:=ref42 (c:=c) (A:=A) (B:=B) (by omega) (by omega) (by omega) (nB▸sA)
  have h43:=ref43 (c:=c) (R:=B) (by omega) (by omega)
  have h44:=ref44 (c:=n) (R:=A) (v:=bt z) (by omega) (by omega) sA sz
  rw[lz]at h44
  have q1:=matches' (c:=c) (R:=A.map fun a=>Jq a B) (by omega) (by rw[List.length_map];omega) (mulr_sup sB)
  have q2:=matches' (c:=B.length) (R:=tr c B) (by omega) (by rw[Qi];omega) (Uj c B)
  have q3:=equal (n:=A.length) (b:=app n A (bt z)) (by omega) (Vr n A (bt z))
  rw[nB]at h40 h42 h43 q2
  have z00:((0:Int)==0)=true:=rfl
  simp only[h39,h40,h29,h42,q1,cond_true,h43,q2,z00,h44,q3,JJ]
theorem run6'{ar ac br bc:Int}(aa ba v:List Int)(h1:0≤ar)(h2:0≤ac)(h3:0≤br)(h4:0≤bc):M6.m ⟨ar,ac,aa,br,bc,ba,v⟩=some true:=by
 obtain⟨ar,rfl⟩:=Int.eq_ofNat_of_zero_le h1
 obtain⟨ac,rfl⟩:=Int.eq_ofNat_of_zero_le h2
 obtain⟨br,rfl⟩:=Int.eq_ofNat_of_zero_le h3
 obtain⟨bc,rfl⟩:=Int.eq_ofNat_of_zero_le h4
 exact run6 ar ac br bc aa ba v
end Gf
end Go.Proofs.Ytddaobhpffpmoaa
namespace Go.Proofs.Ytddaobhpffpmoaa
open Go.Abs
namespace Gf
def trn(m:Nat)(b:Q7):Q7:=fun j=>decide (j<m)&&b j
theorem trn_sup(m:Nat)(b:Q7):Sup m (trn m b):=fun i hi=>by
 unfold trn
 have:decide (i<m)=false:=by simp;omega
 rw[this];rfl
theorem bt_take(l:List Int)(m:Nat):bt (l.take m)=trn m (bt l):=by
 funext i
 unfold bt trn
 by_cases h:i<m
 ·rw[List.getElem?_take_of_lt h];simp[h]
 ·rw[List.getElem?_eq_none (by rw[List.length_take];omega)];simp[h]
def Agr(m:Nat)(A B:List Q7):Prop:=A.length=B.length∧∀i x,x<m→row A i x=row B i x
theorem rstep_row{k:Nat}{R S:List Q7}{ps:List Nat}(hS:Mt R S){i:Nat}(hf:fnd (fun i=>row R i k) (R.length - ps.length) ps.length=some i)(j m:Nat):
  row (Xe k (R,S,ps)).1 j m=if j<R.length∧j≠ps.length∧row R (pm i ps.length j) k=true then Bool.xor (row R (pm i ps.length j) m) (row R i m) else row R (pm i ps.length j) m:=by
 obtain⟨f1,f2,f3,_⟩:=KM hf
 have hi:i<R.length:=row_lt f3
 have ht:ps.length<R.length:=by omega
 have hS':Mt (sw R i ps.length) (sw S i ps.length):=by
  rcases hS with rfl|e
  ·exact .inl rfl
  ·exact .inr (by rw[QX,QX];exact e)
 have e0:Xe k (R,S,ps)=((clN ps.length k (sw R i ps.length,sw S i ps.length) R.length).1,(clN ps.length k (sw R i ps.length,sw S i ps.length) R.length).2,ps++[k]):=by
  unfold Xe
  simp only[hf]
 obtain⟨c1,_⟩:=row_clN (t:=ps.length) hS' (by rw[QX];exact ht) k R.length (by rw[QX];exact Nat.le_refl _)
 rw[e0,c1]
 unfold clR
 rw[row_sw hi ht,row_sw hi ht]
 have ptt:pm i ps.length ps.length=i:=by unfold pm;rw[if_pos rfl]
 rw[ptt]
 split
 ·rfl
 ·rfl
theorem rd_nil{c:Nat}{R:List Q7}(sR:Ql c R)(k:Nat):(rd R [] k).2.1=[]:=
 List.length_eq_zero_iff.1 (by rw[(JP (d:=0) (S:=[]) sR (.inl rfl) k).1.ls];rfl)
theorem rd_agr{c m:Nat}{A B:List Q7}(sA:Ql m A)(sB:Ql c B)(h:Agr m A B):∀k,k≤m→Agr m (rd A [] k).1 (rd B [] k).1∧(rd A [] k).2.2=(rd B [] k).2.2
 |0,_=>⟨h,rfl⟩
 |k+1,hk=>by
  obtain⟨⟨h1,h2⟩,h3⟩:=rd_agr sA sB h k (by omega)
  have nA:=rd_nil sA k
  have nB:=rd_nil sB k
  simp only[rd]
  generalize rd A [] k=a at*
  generalize rd B [] k=b at*
  obtain⟨A',S,ps⟩:=a
  obtain⟨B',T,qs⟩:=b
  simp only at h1 h2 h3 nA nB
  subst h3 nA nB
  have ef:fnd (fun i=>row A' i k) (A'.length - ps.length) ps.length=fnd (fun i=>row B' i k) (B'.length - ps.length) ps.length:=by
   rw[h1]
   congr 1
   funext i
   exact h2 i k (by omega)
  cases hf:fnd (fun i=>row B' i k) (B'.length - ps.length) ps.length with
  |some i=>
   rw[hf]at ef
   refine⟨⟨?_,fun j x hx=> ?_⟩,?_⟩
   ·have l1:=Z8 ps.length k (sw A' i ps.length,sw [] i ps.length) A'.length
    have l2:=Z8 ps.length k (sw B' i ps.length,sw [] i ps.length) B'.length
    unfold Xe
    simp only[ef,hf]
    rw[l1.1,l2.1]
    simp only[QX]
    exact h1
   ·rw[rstep_row (.inl rfl) ef,rstep_row (.inl rfl) hf,h1,h2 _ x hx,h2 _ x hx,h2 _ k (by omega)]
   ·unfold Xe
    simp only[ef,hf]
  |none=>
   rw[hf]at ef
   unfold Xe
   simp only[ef,hf]
   exact⟨⟨h1,h2⟩,trivial⟩
def pc(R:List Q7)(k:Nat):Nat:=(rd R [] k).2.2.length
theorem rk_cut{c m:Nat}{B:List Q7}(sB:Ql c B):rk m (B.map (trn m))=pc B m:=by
 have sA:Ql m (B.map (trn m)):=fun b hb=>by
  obtain⟨x,_,rfl⟩:=List.mem_map.1 hb
  exact trn_sup m x
 have:=(rd_agr (A:=B.map (trn m)) sA sB ⟨by simp,fun i x hx=>by
  unfold row
  rw[List.getElem?_map]
  cases B[i]? with
  |some b=>unfold trn;simp[hx]
  |none=>rfl⟩ m (Nat.le_refl _)).2
 unfold rk pc
 rw[this]
def fk(R:List Q7)(k:Nat):List Nat:=fr (rd R [] k).2.2 k
theorem fk_step{c k:Nat}{R:List Q7}(sR:Ql c R):(pc R (k+1)=pc R k∧fk R (k+1)=fk R k++[k])∨(pc R (k+1)=pc R k+1∧fk R (k+1)=fk R k):=by
 have inv:=(JP (d:=0) (S:=[]) sR (.inl rfl) k).1
 have hk:¬k∈(rd R [] k).2.2:=fun h=>by
  obtain⟨p,hp,e⟩:=WY.1 h
  have:=inv.lk p hp
  omega
 unfold pc fk
 simp only[rd]
 cases hf:fnd (fun i=>row (rd R [] k).1 i k) ((rd R [] k).1.length - (rd R [] k).2.2.length) (rd R [] k).2.2.length with
 |some i=>
  have h3:=(Yh (d:=0) inv (.inl rfl) hf).2.2.1
  right
  rw[h3,Kq,if_pos (by simp),List.length_append]
  refine⟨rfl,?_⟩
  unfold fr
  refine List.filter_congr fun j hj=> ?_
  have:=List.mem_range.1 hj
  have e:j≠k:=by omega
  simp[e]
 |none=>
  left
  rw[(Yi inv hf).2,Kq,if_neg hk]
  exact⟨rfl,rfl⟩
theorem fk_len{c:Nat}{R:List Q7}(sR:Ql c R)(k:Nat):(fk R k).length≤k∧pc R k≤k:=by
 have:=YU (S:=[]) sR (.inl rfl) k
 unfold fk pc
 omega
theorem fr_inj{ps:List Nat}{c:Nat}:(fr ps c).Nodup:=List.Pairwise.filter _ List.nodup_range
theorem nd_inj{l:List Nat}(h:l.Nodup){i j:Nat}(hi:i<l.length)(hj:j<l.length)(e:l[i]=l[j]):i=j:=by
 rcases Nat.lt_trichotomy i j with h1|h1|h1
 ·exact absurd e (List.pairwise_iff_getElem.1 h i j hi hj h1)
 ·exact h1
 ·exact absurd e.symm (List.pairwise_iff_getElem.1 h j i hj hi h1)
section
variable {side ma:List Int}{nr:Nat}{c:Nat}{L:List (List Int)}{mr0 mc0:Int}{wr:List (Int×List Int)}
theorem cut5(hL:L.length=nr)(hn:nr≤100)(hc:c≤1000)(hl:∀r∈L,r.length=c∧B01 r){k:Nat}(hk:k<c)(fl last:Int)(free:List Int)(fn:Nat):
  iter M5.s1 ⟨side,nr,c,L,0,fn,last,k,0,0,0,mr0,mc0,ma,c,wr,free,[]⟩=some ⟨side,nr,c,L,0,fn,last,k,L.map (List.take (k+1)),mr0,mc0,ma,c,wr,free⟩:=by
 have hm:∀i (hi:i<L.length),(L.take (i+1)).map (List.take (k+1))=(L.take i).map (List.take (k+1))++[L[i].take (k+1)]:=fun i hi=>by
  rw[List.take_succ_eq_append_getElem hi,List.map_append];rfl
 have key:=QR (step:=M5.s1) (fun i=>⟨side,nr,c,L,0,fn,last,k,0,i,(i:Int),mr0,mc0,ma,c,wr,free,(L.take i).map (List.take (k+1))⟩) nr
  (y:=⟨side,nr,c,L,0,fn,last,k,L.map (List.take (k+1)),mr0,mc0,ma,c,wr,free⟩) (fun i hi=>by
   have hi':i<L.length:=by omega
   have e1:decide ((i:Int)<(nr:Int))=true:=by simpa using hi
   have e3:(eqN 0 0&&eqN ((L.take i).map (List.take (k+1))).length i&&QP (i+1) 24)=true:=by
    have g1:eqN ((L.take i).map (List.take (k+1))).length i=true:=by
     rw[List.length_map,List.length_take,Nat.min_eq_left (by omega)];simp[eqN]
    have g2:QP (i+1) 24=true:=by simp[QP,leB];omega
    rw[g1,g2];rfl
   have e4:decide ((0:Int)≤((k+1:Nat):Int))=true:=by simp;omega
   have e5:decide (((k+1:Nat):Int)≤((L[i].length:Nat):Int))=true:=by rw[(hl _ (List.getElem_mem hi')).1];simp;omega
   have e6:L[i]?.getD []=L[i]:=by rw[List.getElem?_eq_getElem hi'];rfl
   unfold M5.s1
   rw[hm i hi']
   simp only[e1,QD hi',e6,suc (show k<9000000000000000000 by omega),e4,e5,e3,Bool.and_self,cond_true,Int.toNat_natCast,Nat.sub_zero,List.drop_zero,suc (show i<9000000000000000000 by omega)]) (by
   have e1:decide ((nr:Int)<(nr:Int))=false:=by simp
   have e2:leB (0+nr) ((L.take nr).map (List.take (k+1))).length=true:=by simp[leB];omega
   have e3:List.take nr (List.drop 0 ((L.take nr).map (List.take (k+1))))=L.map (List.take (k+1)):=by
    rw[List.drop_zero,List.take_of_length_le (by simp;omega),List.take_of_length_le (by omega)]
   unfold M5.s1
   simp only[e1,cond_false,e2,e3,Bool.and_self,cond_true])
 exact key
theorem free5(hL:L.length=nr)(hn:nr≤100)(hc:c≤1000)(hl:∀r∈L,r.length=c∧B01 r)(sR:Ql c (L.map bt)):
  iter M5.s0 ⟨side,nr,c,L,0,0,0,0,mr0,mc0,ma,c,wr,[]⟩=some (.inl ⟨side,nr,c,L,ints (fk (L.map bt) c),mr0,mc0,ma,c,wr⟩):=by
 have key:=QR (step:=M5.s0) (fun k=>⟨side,nr,c,L,0,(fk (L.map bt) k).length,((pc (L.map bt) k:Nat):Int),k,mr0,mc0,ma,c,wr,ints (fk (L.map bt) k)⟩) c
  (y:=.inl ⟨side,nr,c,L,ints (fk (L.map bt) c),mr0,mc0,ma,c,wr⟩) (fun k hk=>by
   have e1:decide ((k:Int)<(c:Int))=true:=by simpa using hk
   have hcut:=cut5 (side:=side) (ma:=ma) (mr0:=mr0) (mc0:=mc0) (wr:=wr) hL hn hc hl hk 0 ((pc (L.map bt) k:Nat):Int) (ints (fk (L.map bt) k)) (fk (L.map bt) k).length
   have eb:(L.map (List.take (k+1))).map bt=(L.map bt).map (trn (k+1)):=by
    rw[List.map_map,List.map_map]
    exact List.map_congr_left fun l _=>bt_take l (k+1)
   have h23:=of23 (L:=L.map (List.take (k+1))) (c:=k+1) (by omega) (by simp;omega) (fun r hr=>by
    obtain⟨l,hm,rfl⟩:=List.mem_map.1 hr
    obtain⟨h1,h2⟩:=hl l hm
    exact⟨by rw[List.length_take];omega,fun x hx=>h2 x (List.mem_of_mem_take hx)⟩) ((k+1:Nat):Int)
   rw[eb]at h23
   have sC:Ql (k+1) ((L.map bt).map (trn (k+1))):=fun b hb=>by
    obtain⟨x,_,rfl⟩:=List.mem_map.1 hb
    exact trn_sup _ x
   have h26:=K8 (c:=k+1) (R:=(L.map bt).map (trn (k+1))) (by omega) (by simp;omega) sC
   rw[rk_cut sR]at h26
   have hlen:=fk_len sR k
   have w1:IntKind.i64.wrap (((pc (L.map bt) k:Nat):Int)+1)=((pc (L.map bt) k+1:Nat):Int):=by rw[w64 (by omega) (by omega)];omega
   unfold M5.s0
   simp only[e1,cond_true,hcut,Q0,suc (show k<9000000000000000000 by omega),h23,h26,nz,cond_false,w1]
   rcases fk_step (k:=k) sR with ⟨h1,h2⟩|⟨h1,h2⟩
   ·rw[h1,h2]
    have g1:decide (((pc (L.map bt) k:Nat):Int)<((pc (L.map bt) k:Nat):Int))=false:=by simp
    have g2:decide (((pc (L.map bt) k:Nat):Int)>((pc (L.map bt) k+1:Nat):Int))=false:=by simp;omega
    have g3:(((pc (L.map bt) k:Nat):Int)==((pc (L.map bt) k:Nat):Int))=true:=by simp
    have g4:(eqN 0 0&&eqN (ints (fk (L.map bt) k)).length (fk (L.map bt) k).length&&QP ((fk (L.map bt) k).length+1) 8)=true:=by
     have a1:eqN (ints (fk (L.map bt) k)).length (fk (L.map bt) k).length=true:=by rw[Qw];simp[eqN]
     have a2:QP ((fk (L.map bt) k).length+1) 8=true:=by simp[QP,leB];omega
     rw[a1,a2];rfl
    have g5:ints (fk (L.map bt) k++[k])=ints (fk (L.map bt) k)++[(k:Int)]:=by simp[ints]
    simp only[g1,g2,g3,g4,g5,cond_true,cond_false,List.length_append,List.length_cons,List.length_nil,Nat.zero_add]
   ·rw[h1,h2]
    have g1:decide (((pc (L.map bt) k+1:Nat):Int)<((pc (L.map bt) k:Nat):Int))=false:=by simp;omega
    have g2:decide (((pc (L.map bt) k+1:Nat):Int)>((pc (L.map bt) k+1:Nat):Int))=false:=by simp
    have g3:(((pc (L.map bt) k+1:Nat):Int)==((pc (L.map bt) k:Nat):Int))=false:=by simp;omega
    simp only[g1,g2,g3,cond_false]) (by
   have e1:decide ((c:Int)<(c:Int))=false:=by simp
   have e2:leB (0+(fk (L.map bt) c).length) (ints (fk (L.map bt) c)).length=true:=by simp[leB,Qw]
   have e3:List.take (fk (L.map bt) c).length (List.drop 0 (ints (fk (L.map bt) c)))=ints (fk (L.map bt) c):=by
    rw[List.drop_zero,List.take_of_length_le (by rw[Qw];exact Nat.le_refl _)]
   unfold M5.s0
   simp only[e1,cond_false,e2,e3,Bool.and_self,cond_true])
 exact key
end
theorem run5(mr0 mc0:Nat)(ma side:List Int):M5.m ⟨mr0,mc0,ma,side⟩=some true:=by
 obtain⟨r,hr⟩:=small [((mr0:Int),(mc0:Int),ma)] (by simp)
 unfold M5.m
 simp only[hr,Q0]
 cases hg:(bif !r then true else decide ((side.length:Int)>40)) with
 |true=>simp only[cond_true,JJ]
 |false=>
  have h20a:M20.m ⟨(mr0:Int),(mc0:Int),ma⟩=some (((mr0%10:Nat):Int),((mc0%140:Nat):Int)):=VH mr0 mc0 ma
  simp only[cond_false,h20a]
  have hm:mr0%10≤9:=by omega
  have hc:mc0%140≤139:=by omega
  generalize mr0%10=n at*
  generalize mc0%140=c at*
  obtain⟨sX,lX,nX⟩:=XF ma n c
  have h23a:=of23 (L:=rowsN ma n c) (c:=c) (by omega) (by rw[Qp];omega) (fun r hr=>JY ma n c hr) (c:Int)
  have hz:M21.m ⟨0,0,side,1,(n:Int)⟩=some (rowsN side 1 n):=rows' (n:=1) 0 0 side (by omega) (by omega)
  have z0:(rowsN side 1 n)[0]?.getD []=(List.range n).map fun(j:Nat)=>cell side ((0:Nat):Int) n j:=rfl
  have hzl:((List.range n).map fun(j:Nat)=>cell side ((0:Nat):Int) n j).length=n∧B01 ((List.range n).map fun(j:Nat)=>cell side ((0:Nat):Int) n j):=⟨by simp,fun x hx=>by
   obtain⟨j,_,rfl⟩:=List.mem_map.1 hx
   exact j9 _ _ _ _⟩
  have zin:inR 0 (List.length (rowsN side 1 n))=true:=by rw[Qp];rfl
  have hvec:=vec (l:=(List.range n).map fun(j:Nat)=>cell side ((0:Nat):Int) n j) (by rw[hzl.1];omega) hzl.2
  have hfree:=free5 (side:=side) (ma:=ma) (nr:=n) (c:=c) (L:=rowsN ma n c) (mr0:=mr0) (mc0:=mc0) (wr:=mr c ((rowsN ma n c).map bt)) (Qp _ _ _) (by omega) (by omega) (fun r hr=>JY ma n c hr) sX
  simp only[rows' (n:=n) (mr0:Int) (mc0:Int) ma (by omega) (show c≤1000 by omega),hz,zin,cond_true,z0,h23a,hvec,hfree,J6]
  generalize (List.range n).map (fun(j:Nat)=>cell side ((0:Nat):Int) n j)=z at*
  obtain⟨hzn,hz01⟩:=hzl
  have sz:Sup n (bt z):=hzn▸KT z
  have lz:lb n (bt z)=z:=by have:=lb_bt hz01;rw[hzn]at this;exact this
  generalize (rowsN ma n c).map bt=X at*
  simp only[hzn]
  have h25:=qi (c:=c) (R:=X) (by omega) (by omega) sX
  have h22:=VX (c:=c) (R:=X) (b:=bt z) (by omega) (by omega) sX (nX▸sz)
  have hok:=solve_ok (c:=c) (R:=X) (b:=bt z) sX (nX▸sz)
  have inv1:=(JP (d:=1) (S:=sd (bt z) X.length) sX (.inr (Jk _ _)) c).1
  have eps:(rd X (sd (bt z) X.length) c).2.2=(rd X [] c).2.2:=(rd_ps X c).2
  have inv0:=(JP (d:=0) (S:=[]) sX (.inl rfl) c).1
  have hker:∀f,f<c→app c X (kv (rd X [] c).1 (rd X [] c).2.2 f)=fun _=>false:=fun f hf=>Y8 sX hf
  rw[nX]at h22 hok inv1 eps
  have efr:fk X c=fr (rd X [] c).2.2 c:=rfl
  have ssol:Sup c (sol (rd X (sd (bt z) n) c).2.1 (rd X (sd (bt z) n) c).2.2):=by
   generalize rd X (sd (bt z) n) c=st at inv1
   obtain⟨R',S',ps⟩:=st
   exact sol_sup inv1
  have fsol:∀k,¬k∈(rd X [] c).2.2→sol (rd X (sd (bt z) n) c).2.1 (rd X (sd (bt z) n) c).2.2 k=false:=fun k hk=>by
   rw[←eps]at hk
   exact sol_free hk
  have skv:∀f,f<c→Sup c (kv (rd X [] c).1 (rd X [] c).2.2 f):=fun f hf=>by
   generalize rd X [] c=st at inv0
   obtain⟨R',S',ps⟩:=st
   exact kv_sup inv0 hf
  rw[efr,h22,h25]
  generalize sol (rd X (sd (bt z) n) c).2.1 (rd X (sd (bt z) n) c).2.2=x at*
  generalize bad (rd X (sd (bt z) n) c).2.1 (rd X (sd (bt z) n) c).2.2.length n=bd at*
  have kfr:∀f k,¬k∈(rd X [] c).2.2→kv (rd X [] c).1 (rd X [] c).2.2 f k=(k==f):=fun f k hk=>kv_free hk
  have mfr:∀k,k∈fr (rd X [] c).2.2 c→k<c∧¬k∈(rd X [] c).2.2:=fun k=>mem_fr.1
  have nfr:(fr (rd X [] c).2.2 c).Nodup:=fr_inj
  have lfr:=(fk_len sX c).1
  rw[efr]at lfr
  generalize (rd X [] c).2.2=ps at*
  generalize (rd X [] c).1=R' at*
  generalize fr ps c=F at*
  -- the loop over the kernel
  have gv:(if bd=true then ((0:Int),([]:List Int),(9:Int)) else ((c:Int),vw c x,0)).2.2=if bd=true then 9 else 0:=by cases bd<;>rfl
  have el:((((mr c (F.map (kv R' ps))).length:Nat):Int) !=(((ints F).length:Nat):Int))=false:=by rw[Q6,List.length_map,Qw];simp
  have kat:∀i (hi:i<F.length),(mr c (F.map (kv R' ps)))[i]?.getD (0,[])=((c:Int),vw c (kv R' ps F[i])):=fun i hi=>by
   unfold mr
   rw[List.getElem?_map,List.getElem?_map,List.getElem?_eq_getElem hi];rfl
  have klen:(mr c (F.map (kv R' ps))).length=F.length:=by rw[Q6,List.length_map]
  have fat:∀i (hi:i<F.length),(ints F)[i]?.getD 0=((F[i]:Nat):Int):=fun i hi=>by
   unfold ints
   rw[List.getElem?_map,List.getElem?_eq_getElem hi];rfl
  have inner:∀(xn:Int) (xw:List Int) (g:Int),(g=0→xn=(c:Int)∧xw=vw c x)→∀i (hi:i<F.length),
    iter M5.s3 ⟨n,c,ints F,mr c (F.map (kv R' ps)),z,g,(i:Int),0,mr0,mc0,ma,c,mr c X,xn,xw⟩=some (.inl ⟨n,c,ints F,mr c (F.map (kv R' ps)),z,g,(i:Int),mr0,mc0,ma,c,mr c X,xn,xw⟩):=fun xn xw g hg i hi=>by
   have key:=QR (step:=M5.s3) (fun k=>⟨n,c,ints F,mr c (F.map (kv R' ps)),z,g,(i:Int),(k:Int),mr0,mc0,ma,c,mr c X,xn,xw⟩) F.length
    (y:=.inl ⟨n,c,ints F,mr c (F.map (kv R' ps)),z,g,(i:Int),mr0,mc0,ma,c,mr c X,xn,xw⟩) (fun k hk=>by
     obtain⟨b1,b2⟩:=mfr _ (List.getElem_mem hk)
     obtain⟨a1,a2⟩:=mfr _ (List.getElem_mem hi)
     have e1:decide ((k:Int)<(((ints F).length:Nat):Int))=true:=by rw[Qw];simpa using hk
     have e2:inR (i:Int) (mr c (F.map (kv R' ps))).length=true:=QD (by rw[klen];exact hi)
     have e3:inR (k:Int) (ints F).length=true:=QD (by rw[Qw];exact hk)
     have e4:=at_in (n:=c) (i:=F[k]) (show c≤4096 by omega) (skv _ a1) b1
     have e5:kv R' ps F[i] F[k]=decide (i=k):=by
      rw[kfr _ _ b2]
      by_cases e:i=k
      ·subst e;simp
      ·have:F[k]≠F[i]:=fun h=>e (nd_inj nfr hk hi h).symm
       simp[this,e]
     have e6:(i01 (decide (i=k)) !=bif ((i:Int)==(k:Int)) then 1 else 0)=false:=by
      by_cases e:i=k
      ·subst e;simp[i01]
      ·have:((i:Int)==(k:Int))=false:=by simp;omega
       rw[this];simp[i01,e]
     unfold M5.s3
     simp only[e1,e2,e3,cond_true,Int.toNat_natCast,kat i hi,fat k hk,e4,Q0,e5,e6,Bool.true_or,Bool.not_false,Bool.true_and,cond_false,suc (show k<9000000000000000000 by omega)]
     by_cases h0:g=0
     ·obtain⟨rfl,rfl⟩:=hg h0
      have e7:=at_in (n:=c) (i:=F[k]) (show c≤4096 by omega) ssol b1
      rw[fsol _ b2]at e7
      subst h0
      simp only[BEq.rfl,cond_true,e7]
      rfl
     ·have e8:(g==0)=false:=by simp[h0]
      simp only[e8,cond_false]) (by
     have e1:decide (((F.length:Nat):Int)<(((ints F).length:Nat):Int))=false:=by rw[Qw];simp
     unfold M5.s3
     simp only[e1,cond_false])
   exact key
  have outer:∀(xn:Int) (xw:List Int) (g:Int),(g=0→xn=(c:Int)∧xw=vw c x)→
    iter M5.s2 ⟨n,c,ints F,mr c (F.map (kv R' ps)),z,g,0,mr0,mc0,ma,c,mr c X,xn,xw⟩=some (.inl ⟨z,g,mr0,mc0,ma,c,mr c X,xn,xw⟩):=fun xn xw g hg=>by
   have key:=QR (step:=M5.s2) (fun i=>⟨n,c,ints F,mr c (F.map (kv R' ps)),z,g,(i:Int),mr0,mc0,ma,c,mr c X,xn,xw⟩) F.length
    (y:=.inl ⟨z,g,mr0,mc0,ma,c,mr c X,xn,xw⟩) (fun i hi=>by
     obtain⟨a1,a2⟩:=mfr _ (List.getElem_mem hi)
     have e1:decide ((i:Int)<(((mr c (F.map (kv R' ps))).length:Nat):Int))=true:=by rw[klen];simpa using hi
     have e2:inR (i:Int) (mr c (F.map (kv R' ps))).length=true:=QD (by rw[klen];exact hi)
     have e3:=check (n:=c) (show c≤4096 by omega) (skv _ a1)
     have e4:=apply (c:=c) (R:=X) (v:=kv R' ps F[i]) (by omega) (by omega) sX (skv _ a1)
     rw[hker _ a1,nX]at e4
     have e5:=wt (n:=n) (b:=fun _=>false) (by omega) (fun _ _=>rfl)
     rw[UT (fun _ _=>rfl)]at e5
     have e6:=inner xn xw g hg i hi
     unfold M5.s2
     simp only[e1,e2,cond_true,Int.toNat_natCast,kat i hi,J2,Bool.true_or,Bool.not_false,e3,Q0,cond_false,nz,e6,J6,e4,e5,suc (show i<9000000000000000000 by omega)]
     rfl) (by
     have e1:decide (((F.length:Nat):Int)<(((mr c (F.map (kv R' ps))).length:Nat):Int))=false:=by rw[klen];simp
     unfold M5.s2
     simp only[e1,cond_false])
   exact key
  cases bd with
  |true=>
   have o:=outer 0 [] 9 (fun h=>by cases h)
   have n9:((9:Int) !=9)=false:=rfl
   have n90:((9:Int) !=0)=true:=rfl
   have m9:((9:Int)==0)=false:=rfl
   simp only[if_true,nz,cond_false,el,n9,n90,cond_true,o,m9,JJ]
  |false=>
   have o:=outer c (vw c x) 0 (fun _=>⟨rfl,rfl⟩)
   have e1:=apply (c:=c) (R:=X) (v:=x) (by omega) (by omega) sX ssol
   rw[hok.1 rfl,nX]at e1
   have e2:=equal (n:=n) (b:=bt z) (by omega) sz
   rw[lz]at e2
   simp only[Bool.false_eq_true,if_false,nz,cond_false,el,o,BEq.rfl,cond_true,e1,e2,JJ]
theorem run5'{ar ac:Int}(aa v:List Int)(h1:0≤ar)(h2:0≤ac):M5.m ⟨ar,ac,aa,v⟩=some true:=by
 obtain⟨ar,rfl⟩:=Int.eq_ofNat_of_zero_le h1
 obtain⟨ac,rfl⟩:=Int.eq_ofNat_of_zero_le h2
 exact run5 ar ac aa v
end Gf
end Go.Proofs.Ytddaobhpffpmoaa
namespace Go.Proofs.Ytddaobhpffpmoaa
open Go.Abs
namespace Gf
theorem Wy{α:Type}[DecidableEq α]:∀{l k:List α},l.Nodup→(∀x∈l,x∈k)→l.length≤k.length
 |[],_,_,_=>Nat.zero_le _
 |a::l,k,hn,h=>by
  have ha:=h a (by simp)
  have hn':=List.nodup_cons.1 hn
  have:=Wy (l:=l) (k:=k.erase a) hn'.2 fun x hx=>by
   have hne:x≠a:=fun e=>hn'.1 (e▸hx)
   exact(List.mem_erase_of_ne hne).2 (h x (by simp[hx]))
  rw[List.length_erase_of_mem ha]at this
  have:0<k.length:=List.length_pos_of_mem ha
  simp only[List.length_cons]
  omega
def tb(n:Nat):Q7:=fun j=>n.testBit j
theorem WE{n c:Nat}(h:n<2^c):Sup c (tb n):=fun i hi=>Nat.testBit_lt_two_pow (Nat.lt_of_lt_of_le h (Nat.pow_le_pow_right (by omega) hi))
theorem tb_nb(c:Nat){b:Q7}(hb:Sup c b):tb (nb b c)=b:=by
 funext i
 unfold tb
 rw[qZ]
 by_cases h:i<c
 ·simp[h]
 ·simp[h,hb i (by omega)]
theorem nb_tb{n c:Nat}(h:n<2^c):nb (tb n) c=n:=by
 refine Nat.eq_of_testBit_eq fun i=> ?_
 rw[qZ]
 by_cases hi:i<c
 ·simp[hi,tb]
 ·have:=WE h i (by omega)
  unfold tb at this
  simp[hi,this]
theorem chrs_inj{n:Nat}{a b:Q7}(h:XK (lb n a)=XK (lb n b)):∀i,i<n→a i=b i:=fun i hi=>by
 have:=congrArg (fun l=>l[i]?) h
 simp only[XK,List.getElem?_map,lb_at n a hi,lb_at n b hi,Option.map_some,Option.some.injEq]at this
 revert this
 cases a i<;>cases b i<;>decide
theorem chrs_eq{n:Nat}{a b:Q7}(ha:Sup n a)(hb:Sup n b):(XK (lb n a)==XK (lb n b))=true↔a=b:=by
 constructor
 ·intro h
  exact Zc ha hb (chrs_inj (by simpa using h))
 ·rintro rfl
  simp
theorem bitW{n i:Nat}(hn:n<2^64)(hi:i<64):IntKind.i64.wrap (↑(BitVec.ofInt 64 (Int.fdiv (n:Int) (2^min i 64))&&&BitVec.ofInt 64 1).toNat:Int)=i01 (tb n i):=by
 rw[Nat.min_eq_left (by omega),Kg,XQ]
 have h1:n / 2^i<2^64:=Nat.lt_of_le_of_lt (Nat.div_le_self _ _) hn
 rw[show(1:Int)=((1:Nat):Int) from rfl,KQ,KQ,BitVec.toNat_and,BitVec.toNat_ofNat,BitVec.toNat_ofNat,Nat.mod_eq_of_lt h1,Nat.mod_eq_of_lt (show 1<2^64 by decide),Nat.and_one_is_mod]
 unfold tb
 rw[Nat.testBit_eq_decide_div_mod_eq]
 rcases Nat.mod_two_eq_zero_or_one (n / 2^i) with e|e<;>rw[e]<;>rfl
theorem i01_one(b:Bool):(i01 b==1)=b:=by cases b<;>rfl
theorem Un{c:Nat}(h:c≤8):IntKind.i64.wrap (1*2^min (c:Int).toNat 64)=((2^c:Nat):Int):=by
 rw[Int.toNat_natCast,Nat.min_eq_left (by omega),Kg,Int.one_mul]
 have:2^c≤256:=Nat.pow_le_pow_right (by omega) h
 generalize 2^c=m at*
 rw[w64 (by omega) (by omega)]
theorem pow8{c:Nat}(h:c≤8):2^c≤256:=Nat.pow_le_pow_right (by omega) h
def Xa(c:Nat)(X:List Q7)(b:Q7)(n:Nat):Bool:=XK (lb X.length (app c X (tb n)))==XK (lb X.length b)
theorem sols27{c:Nat}{X:List Q7}{b:Q7}(hc:c≤8)(hX:X.length≤100)(sX:Ql c X):
  M27.m ⟨lr c X,c,lb X.length b⟩=some (((List.range (2^c)).filter (Xa c X b)).map fun n=>lb c (tb n)):=by
 have h8:=pow8 hc
 have hfl:∀n,((List.range n).filter (Xa c X b)).length≤n:=fun n=>by
  have:=List.length_filter_le (Xa c X b) (List.range n)
  rw[List.length_range]at this
  exact this
 have inner:∀(n:Nat),n<2^c→∀(ol:Nat) (out:List (List Int)),iter M27.s1 ⟨lr c X,c,lb X.length b,0,ol,n,0,0,0,out,[]⟩=some ⟨lr c X,c,lb X.length b,0,ol,n,lb c (tb n),out⟩:=fun n hn ol out=>by
  have key:=QR (step:=M27.s1) (fun i=>⟨lr c X,c,lb X.length b,0,ol,n,0,i,(i:Int),out,lb i (tb n)⟩) c (y:=⟨lr c X,c,lb X.length b,0,ol,n,lb c (tb n),out⟩) (fun i hi=>by
   have e1:decide ((i:Int)<(c:Int))=true:=by simpa using hi
   have e2:decide ((0:Int)≤(i:Int))=true:=by simp
   have e3:(eqN 0 0&&eqN (lb i (tb n)).length i&&QP (i+1) 1)=true:=by
    have g1:eqN (lb i (tb n)).length i=true:=by rw[Qd];simp[eqN]
    have g2:QP (i+1) 1=true:=by simp[QP,leB];omega
    rw[g1,g2];rfl
   have e4:IntKind.u8.wrap (i01 (tb n i))=i01 (tb n i):=by cases tb n i<;>rfl
   unfold M27.s1
   rw[lb_more]
   simp only[e1,e2,e3,cond_true,Int.toNat_natCast,bitW (show n<2^64 by omega) (show i<64 by omega),e4,suc (show i<9000000000000000000 by omega)]) (by
   have e1:decide ((c:Int)<(c:Int))=false:=by simp
   have e2:leB (0+c) (lb c (tb n)).length=true:=by simp[leB,Qd]
   have e3:List.take c (List.drop 0 (lb c (tb n)))=lb c (tb n):=by rw[List.drop_zero,List.take_of_length_le (by rw[Qd];exact Nat.le_refl _)]
   unfold M27.s1
   simp only[e1,cond_false,e2,e3,Bool.and_self,cond_true])
  exact key
 have key:=QR (step:=M27.s0) (fun n=>⟨lr c X,c,lb X.length b,0,((List.range n).filter (Xa c X b)).length,n,((List.range n).filter (Xa c X b)).map fun n=>lb c (tb n)⟩) (2^c)
  (y:=⟨0,((List.range (2^c)).filter (Xa c X b)).length,((List.range (2^c)).filter (Xa c X b)).map fun n=>lb c (tb n)⟩) (fun n hn=>by
   have e0:decide ((0:Int)≤(c:Int))=true:=by simp
   have e1:decide ((n:Int)<((2^c:Nat):Int))=true:=decide_eq_true (Int.ofNat_lt.2 hn)
   have h44:=ref44 (c:=c) (R:=X) (v:=tb n) (by omega) (by omega) sX (WE hn)
   have hx:=text78 (l:=lb X.length (app c X (tb n))) (by rw[Qd];omega) (lb01 _ _)
   have hb:=text78 (l:=lb X.length b) (by rw[Qd];omega) (lb01 _ _)
   have hl:=hfl n
   have e3:(eqN 0 0&&eqN (((List.range n).filter (Xa c X b)).map fun n=>lb c (tb n)).length ((List.range n).filter (Xa c X b)).length&&QP (((List.range n).filter (Xa c X b)).length+1) 24)=true:=by
    have g1:eqN (((List.range n).filter (Xa c X b)).map fun n=>lb c (tb n)).length ((List.range n).filter (Xa c X b)).length=true:=by rw[List.length_map];simp[eqN]
    have g2:QP (((List.range n).filter (Xa c X b)).length+1) 24=true:=by simp[QP,leB];omega
    rw[g1,g2];rfl
   unfold M27.s0
   simp only[e0,Un hc,e1,cond_true,inner n hn,Q0,h44,hx,hb,e3,suc (show n<9000000000000000000 by omega)]
   rw[List.range_succ,List.filter_append]
   cases hi:Xa c X b n with
   |true=>
    have hi':(XK (lb X.length (app c X (tb n)))==XK (lb X.length b))=true:=hi
    have hs:List.filter (Xa c X b) [n]=[n]:=by simp[hi]
    simp only[hi',cond_true,hs,List.length_append,List.length_cons,List.length_nil,Nat.zero_add,List.map_append,List.map_cons,List.map_nil]
   |false=>
    have hi':(XK (lb X.length (app c X (tb n)))==XK (lb X.length b))=false:=hi
    have hs:List.filter (Xa c X b) [n]=[]:=by simp[hi]
    simp only[hi',cond_false,hs,List.append_nil]) (by
   have e0:decide ((0:Int)≤(c:Int))=true:=by simp
   have e1:decide (((2^c:Nat):Int)<((2^c:Nat):Int))=false:=by simp
   unfold M27.s0
   simp only[e0,Un hc,e1,cond_true,cond_false])
 have key:iter M27.s0 ⟨lr c X,c,lb X.length b,0,0,0,[]⟩=_:=key
 have e2:leB (0+((List.range (2^c)).filter (Xa c X b)).length) (((List.range (2^c)).filter (Xa c X b)).map fun n=>lb c (tb n)).length=true:=by rw[List.length_map];simp[leB]
 have e3:List.take ((List.range (2^c)).filter (Xa c X b)).length (List.drop 0 (((List.range (2^c)).filter (Xa c X b)).map fun n=>lb c (tb n)))=((List.range (2^c)).filter (Xa c X b)).map fun n=>lb c (tb n):=by
  rw[List.drop_zero,List.take_of_length_le (by rw[List.length_map];exact Nat.le_refl _)]
 unfold M27.m
 simp only[key,Q0,e2,e3,Bool.and_self,cond_true]
def yv(x:Q7)(K:List Q7)(n:Nat):Nat→Q7
 |0=>x
 |k+1=>if tb n k=true then xr (yv x K n k) (row K k) else yv x K n k
theorem Ud{c:Nat}{x:Q7}{K:List Q7}(hx:Sup c x)(hK:Ql c K)(n:Nat):∀k,Sup c (yv x K n k)
 |0=>hx
 |k+1=>by
  unfold yv
  split
  ·exact WG (Ud hx hK n k) (ZV hK k)
  ·exact Ud hx hK n k
theorem yv_app{c:Nat}{X K:List Q7}{x b:Q7}(hx:app c X x=b)(hK:∀k,app c X (row K k)=fun _=>false)(n:Nat):∀k,app c X (yv x K n k)=b
 |0=>hx
 |k+1=>by
  unfold yv
  split
  ·rw[app_xr,yv_app hx hK n k,hK k,xr_comm,no_xr]
  ·exact yv_app hx hK n k
theorem yv_free{x:Q7}{K:List Q7}{F:List Nat}(hx:∀j (hj:j<F.length),x F[j]=false)(hK:∀k,k<F.length→∀j (hj:j<F.length),row K k F[j]=decide (j=k))(n:Nat){j:Nat}(hj:j<F.length):
  ∀k,k≤F.length→yv x K n k F[j]=(decide (j<k)&&tb n j)
 |0,_=>by simp[yv,hx j hj]
 |k+1,hk=>by
  have ih:=yv_free hx hK n hj k (by omega)
  unfold yv
  by_cases e:j=k
  ·subst e
   have h1:decide (j<j)=false:=by simp
   have h2:decide (j<j+1)=true:=by simp
   rw[h1,Bool.false_and]at ih
   rw[h2,Bool.true_and]
   by_cases ht:tb n j=true
   ·rw[if_pos ht,ht]
    unfold xr
    rw[ih,hK j hj j hj];simp
   ·rw[if_neg ht,ih,eq_false_of_ne_true ht]
  ·have h1:decide (j<k+1)=decide (j<k):=decide_eq_decide.2 ⟨fun h=>by omega,fun h=>by omega⟩
   rw[h1]
   split
   ·unfold xr
    rw[ih,hK k (by omega) j hj];simp[e]
   ·exact ih
section
variable {c f:Nat}{x:Q7}{K:List Q7}
theorem sum31(hc:c≤4096)(hx:Sup c x)(hK:Ql c K)(hf:K.length=f)(hf8:f≤8){n:Nat}(hn:n<2^64):
  M31.m ⟨c,vw c x,mr c K,n⟩=some (XK (lb c (yv x K n f))):=by
 have key:=QR (step:=M31.s0) (fun k=>⟨mr c K,n,(k:Int),c,vw c (yv x K n k)⟩) f (y:=⟨c,vw c (yv x K n f)⟩) (fun k hk=>by
  have e1:decide ((k:Int)<(((mr c K).length:Nat):Int))=true:=by rw[Q6,hf];simpa using hk
  have e2:decide ((0:Int)≤(k:Int))=true:=by simp
  have e3:inR (k:Int) (mr c K).length=true:=QD (by rw[Q6,hf];exact hk)
  have e4:(mr c K)[k]?.getD (0,[])=((c:Int),vw c (row K k)):=by rw[mr_at' (show k<K.length by omega),Jf (show k<K.length by omega)]
  unfold M31.s0
  simp only[e1,e2,cond_true,Int.toNat_natCast,bitW hn (show k<64 by omega),i01_one,e3,e4,add hc (Ud hx hK n k) (ZV hK k),Q0,suc (show k<9000000000000000000 by omega),yv]
  by_cases ht:tb n k=true
  ·simp only[ht,cond_true,if_true]
  ·simp only[eq_false_of_ne_true ht,cond_false,Bool.false_eq_true,if_false]) (by
  have e1:decide ((f:Int)<(((mr c K).length:Nat):Int))=false:=by rw[Q6,hf];simp
  unfold M31.s0
  simp only[e1,cond_false])
 have key:iter M31.s0 ⟨mr c K,n,0,c,vw c x⟩=_:=key
 unfold M31.m
 simp only[key,Q0,text hc (Ud hx hK n f)]
theorem sum3(hc:c≤4096)(hx:Sup c x)(hK:Ql c K)(hf:K.length=f)(hf8:f≤8){n:Nat}(hn:n<2^64)(l all:List (List Int))(b ma:List Int)(m0 m1:Int):
  iter M3.s1 ⟨c,l,b,mr c K,all,n,0,m0,m1,ma,c,vw c x,c,vw c x⟩=some ⟨c,l,b,mr c K,all,n,m0,m1,ma,c,vw c x,c,vw c (yv x K n f)⟩:=by
 have key:=QR (step:=M3.s1) (fun k=>⟨c,l,b,mr c K,all,n,(k:Int),m0,m1,ma,c,vw c x,c,vw c (yv x K n k)⟩) f (y:=⟨c,l,b,mr c K,all,n,m0,m1,ma,c,vw c x,c,vw c (yv x K n f)⟩) (fun k hk=>by
  have e1:decide ((k:Int)<(((mr c K).length:Nat):Int))=true:=by rw[Q6,hf];simpa using hk
  have e2:decide ((0:Int)≤(k:Int))=true:=by simp
  have e3:inR (k:Int) (mr c K).length=true:=QD (by rw[Q6,hf];exact hk)
  have e4:(mr c K)[k]?.getD (0,[])=((c:Int),vw c (row K k)):=by rw[mr_at' (show k<K.length by omega),Jf (show k<K.length by omega)]
  unfold M3.s1
  simp only[e1,e2,cond_true,Int.toNat_natCast,bitW hn (show k<64 by omega),i01_one,e3,e4,add hc (Ud hx hK n k) (ZV hK k),Q0,suc (show k<9000000000000000000 by omega),yv]
  by_cases ht:tb n k=true
  ·simp only[ht,cond_true,if_true]
  ·simp only[eq_false_of_ne_true ht,cond_false,Bool.false_eq_true,if_false]) (by
  have e1:decide ((f:Int)<(((mr c K).length:Nat):Int))=false:=by rw[Q6,hf];simp
  unfold M3.s1
  simp only[e1,cond_false])
 exact key
end
theorem run3(mr0 mc0:Nat)(ma side:List Int):M3.m ⟨mr0,mc0,ma,side⟩=some true:=by
 obtain⟨r,hr⟩:=small [((mr0:Int),(mc0:Int),ma)] (by simp)
 unfold M3.m
 simp only[hr,Q0]
 cases hg:(bif !r then true else decide ((side.length:Int)>40)) with
 |true=>simp only[cond_true,JJ]
 |false=>
  have h20a:M20.m ⟨(mr0:Int),(mc0:Int),ma⟩=some (((mr0%10:Nat):Int),((mc0%140:Nat):Int)):=VH mr0 mc0 ma
  have e9:Int.tmod ((mc0%140:Nat):Int) 9=((mc0%140%9:Nat):Int):=rfl
  simp only[cond_false,h20a,e9]
  have hm:mr0%10≤9:=by omega
  have hc:mc0%140%9≤8:=by omega
  generalize mr0%10=n at*
  generalize mc0%140%9=c at*
  obtain⟨sX,lX,nX⟩:=XF ma n c
  have h23a:=of23 (L:=rowsN ma n c) (c:=c) (by omega) (by rw[Qp];omega) (fun r hr=>JY ma n c hr) (c:Int)
  have hz:M21.m ⟨0,0,side,1,(n:Int)⟩=some (rowsN side 1 n):=rows' (n:=1) 0 0 side (by omega) (by omega)
  have z0:(rowsN side 1 n)[0]?.getD []=(List.range n).map fun(j:Nat)=>cell side ((0:Nat):Int) n j:=rfl
  have hzl:((List.range n).map fun(j:Nat)=>cell side ((0:Nat):Int) n j).length=n∧B01 ((List.range n).map fun(j:Nat)=>cell side ((0:Nat):Int) n j):=⟨by simp,fun x hx=>by
   obtain⟨j,_,rfl⟩:=List.mem_map.1 hx
   exact j9 _ _ _ _⟩
  have zin:inR 0 (List.length (rowsN side 1 n))=true:=by rw[Qp];rfl
  have hvec:=vec (l:=(List.range n).map fun(j:Nat)=>cell side ((0:Nat):Int) n j) (by rw[hzl.1];omega) hzl.2
  simp only[rows' (n:=n) (mr0:Int) (mc0:Int) ma (by omega) (show c≤1000 by omega),hz,zin,cond_true,z0,h23a,hvec]
  generalize (List.range n).map (fun(j:Nat)=>cell side ((0:Nat):Int) n j)=z at*
  obtain⟨hzn,hz01⟩:=hzl
  have sz:Sup n (bt z):=hzn▸KT z
  have lz:lb n (bt z)=z:=by have:=lb_bt hz01;rw[hzn]at this;exact this
  have h23:M23.m ⟨lr c ((rowsN ma n c).map bt),c⟩=some ((c:Int),mr c ((rowsN ma n c).map bt)):=by rw[lX];exact h23a
  generalize (rowsN ma n c).map bt=X at*
  rw[←lX]
  simp only[hzn]
  have h25:=qi (c:=c) (R:=X) (by omega) (by omega) sX
  have h26:=K8 (c:=c) (R:=X) (by omega) (by omega) sX
  have h22:=VX (c:=c) (R:=X) (b:=bt z) (by omega) (by omega) sX (nX▸sz)
  have h27:=sols27 (c:=c) (X:=X) (b:=bt z) hc (by omega) sX
  have hok:=solve_ok (c:=c) (R:=X) (b:=bt z) sX (nX▸sz)
  have cn:=YU (S:=[]) sX (.inl rfl) c
  have hrk:rk c X=(rd X [] c).2.2.length:=rfl
  rw[←hrk]at cn
  rw[nX]at h22 h27 hok
  rw[lz]at h27
  have sXt:∀t,t<2^c→(Xa c X (bt z) t=true↔app c X (tb t)=bt z):=fun t _=>by
   unfold Xa
   rw[nX]
   exact chrs_eq (app_sup' nX _) sz
  have klen:(((mr c ((fr (rd X [] c).2.2 c).map (kv (rd X [] c).1 (rd X [] c).2.2))).length:Nat):Int)=(((fr (rd X [] c).2.2 c).length:Nat):Int):=by rw[Q6,List.length_map]
  have w1:IntKind.i64.wrap ((((fr (rd X [] c).2.2 c).length:Nat):Int)+((rk c X:Nat):Int))=(c:Int):=by rw[w64 (by omega) (by omega)];omega
  have ecc:((c:Int) !=(c:Int))=false:=by simp
  have ell:∀L:List Nat,(L.map fun n=>lb c (tb n)).length=L.length:=fun L=>List.length_map _
  simp only[h22,h25,h26,h27,klen,w1,ecc,nz,cond_false,ell]
  cases hbd:bad (rd X (sd (bt z) n) c).2.1 (rd X (sd (bt z) n) c).2.2.length n with
  |true=>
   have hno:=hok.2 hbd
   have e1:(List.range (2^c)).filter (Xa c X (bt z))=[]:=List.filter_eq_nil_iff.2 fun t ht h=>hno _ ((sXt t (List.mem_range.1 ht)).1 h)
   rw[e1]
   have n9:((9:Int) !=9)=false:=rfl
   have n90:((9:Int) !=0)=true:=rfl
   have m9:((9:Int)==0)=false:=rfl
   have d0:decide ((((([]:List Nat).length):Nat):Int)>0)=false:=rfl
   have d1:decide ((((([]:List Int).length):Nat):Int)>0)=false:=rfl
   simp only[if_true,n9,n90,m9,d0,d1,nz,BEq.rfl,Bool.not_true,cond_false,cond_true,JJ]
  |false=>
   have hx:=hok.1 hbd
   -- what is known of the parts
   have inv1:=(JP (d:=1) (S:=sd (bt z) X.length) sX (.inr (Jk _ _)) c).1
   have eps:(rd X (sd (bt z) n) c).2.2=(rd X [] c).2.2:=(rd_ps X c).2
   have inv0:=(JP (d:=0) (S:=[]) sX (.inl rfl) c).1
   have hker:∀f,f<c→app c X (kv (rd X [] c).1 (rd X [] c).2.2 f)=fun _=>false:=fun f hf=>Y8 sX hf
   have kapp:∀w,app c X w=(fun _=>false)↔∀i,dot c (row (rd X [] c).1 i) w=false:=fun w=>Wa sX w
   rw[nX]at inv1
   have ssol:Sup c (sol (rd X (sd (bt z) n) c).2.1 (rd X (sd (bt z) n) c).2.2):=by
    generalize rd X (sd (bt z) n) c=st at inv1
    obtain⟨R',S',ps⟩:=st
    exact sol_sup inv1
   have fsol:∀k,¬k∈(rd X [] c).2.2→sol (rd X (sd (bt z) n) c).2.1 (rd X (sd (bt z) n) c).2.2 k=false:=fun k hk=>by
    rw[←eps]at hk
    exact sol_free hk
   have skv:∀f,f<c→Sup c (kv (rd X [] c).1 (rd X [] c).2.2 f):=fun f hf=>by
    generalize rd X [] c=st at inv0
    obtain⟨R',S',ps⟩:=st
    exact kv_sup inv0 hf
   have zero0:∀w,Sup c w→(∀k,k<c→¬k∈(rd X [] c).2.2→w k=false)→app c X w=(fun _=>false)→w=fun _=>false:=fun w h1 h2 h3=>by
    have h3:=(kapp w).1 h3
    generalize rd X [] c=st at*
    obtain⟨R',S',ps⟩:=st
    exact only_zero inv0 h1 h2 h3
   generalize sol (rd X (sd (bt z) n) c).2.1 (rd X (sd (bt z) n) c).2.2=x at*
   have kfr:∀f k,¬k∈(rd X [] c).2.2→kv (rd X [] c).1 (rd X [] c).2.2 f k=(k==f):=fun f k hk=>kv_free hk
   have mfr:∀k,k∈fr (rd X [] c).2.2 c↔k<c∧¬k∈(rd X [] c).2.2:=fun k=>mem_fr
   have nfr:(fr (rd X [] c).2.2 c).Nodup:=fr_inj
   generalize hps:(rd X [] c).2.2=ps at*
   generalize (rd X [] c).1=R' at*
   generalize hF:fr ps c=F at*
   have hf8:F.length≤8:=by omega
   have h2f:=pow8 hf8
   have h2c:=pow8 hc
   have rowK:∀k (hk:k<F.length),row (F.map (kv R' ps)) k=kv R' ps F[k]:=fun k hk=>by
    unfold row
    rw[List.getElem?_map,List.getElem?_eq_getElem hk];rfl
   have sK:Ql c (F.map (kv R' ps)):=fun b hb=>by
    obtain⟨f,hf,rfl⟩:=List.mem_map.1 hb
    exact skv f ((mfr f).1 hf).1
   have lK:(F.map (kv R' ps)).length=F.length:=List.length_map _
   have aK:∀k,app c X (row (F.map (kv R' ps)) k)=fun _=>false:=fun k=>by
    rcases Nat.lt_or_ge k F.length with hk|hk
    ·rw[rowK k hk]
     exact hker _ ((mfr _).1 (List.getElem_mem hk)).1
    ·rw[ZB (by rw[lK];exact hk)]
     funext i
     rw[J9,VA]
   have fx:∀j (hj:j<F.length),x F[j]=false:=fun j hj=>fsol _ ((mfr _).1 (List.getElem_mem hj)).2
   have fK:∀k,k<F.length→∀j (hj:j<F.length),row (F.map (kv R' ps)) k F[j]=decide (j=k):=fun k hk j hj=>by
    rw[rowK k hk,kfr _ _ ((mfr _).1 (List.getElem_mem hj)).2]
    by_cases e:j=k
    ·subst e;simp
    ·have:F[j]≠F[k]:=fun h=>e (nd_inj nfr hj hk h)
     simp[this,e]
   generalize F.map (kv R' ps)=K at*
   have ysup:∀t,Sup c (yv x K t F.length):=fun t=>Ud ssol sK t _
   have yapp:∀t,app c X (yv x K t F.length)=bt z:=fun t=>yv_app hx aK t _
   have yfr:∀t j (hj:j<F.length),yv x K t F.length F[j]=tb t j:=fun t j hj=>by
    rw[yv_free fx fK t hj F.length (Nat.le_refl _)];simp[hj]
   have yinj:∀s t,s<2^F.length→t<2^F.length→yv x K s F.length=yv x K t F.length→s=t:=fun s t hs ht h=>by
    have:tb s=tb t:=Zc (WE hs) (WE ht) fun j hj=>by rw[←yfr s j hj,←yfr t j hj,h]
    rw[←nb_tb hs,←nb_tb ht,this]
   -- the number of solutions
   have cnt_:((List.range (2^c)).filter (Xa c X (bt z))).length=2^F.length:=by
    have a1:((List.range (2^c)).filter (Xa c X (bt z))).Nodup:=List.Pairwise.filter _ List.nodup_range
    have a2:((List.range (2^F.length)).map fun t=>nb (yv x K t F.length) c).Nodup:=by
     refine List.pairwise_map.2 ?_
     refine List.Pairwise.imp_of_mem ?_ (List.nodup_range (n:=2^F.length))
     intro s t hs ht hne h
     refine hne (yinj s t (List.mem_range.1 hs) (List.mem_range.1 ht) ?_)
     rw[←tb_nb c (ysup s),←tb_nb c (ysup t),h]
    refine Nat.le_antisymm ?_ ?_
    ·have:=Wy a1 (k:=(List.range (2^F.length)).map fun t=>nb (yv x K t F.length) c) fun s hs=>by
      obtain⟨h1,h2⟩:=List.mem_filter.1 hs
      have h1:=List.mem_range.1 h1
      have h2:=(sXt s h1).1 h2
      refine List.mem_map.2 ⟨nb (fun j=>tb s (F[j]?.getD 0)) F.length,List.mem_range.2 (VM _ _),?_⟩
      generalize hu:nb (fun j=>tb s (F[j]?.getD 0)) F.length=u
      have hw:xr (tb s) (yv x K u F.length)=fun _=>false:=zero0 _ (WG (WE h1) (ysup u)) (fun k hk hm=>by
       have hkF:=(mfr k).2 ⟨hk,hm⟩
       obtain⟨j,hj,rfl⟩:=List.getElem_of_mem hkF
       unfold xr
       rw[yfr u j hj,←hu]
       unfold tb
       rw[qZ]
       simp[hj]) (by rw[app_xr,h2,yapp,xr_self])
      rw[←eq_of_xr hw,nb_tb h1]
     rw[List.length_map,List.length_range]at this
     exact this
    ·have:=Wy a2 (k:=(List.range (2^c)).filter (Xa c X (bt z))) fun s hs=>by
      obtain⟨t,_,rfl⟩:=List.mem_map.1 hs
      refine List.mem_filter.2 ⟨List.mem_range.2 (VM _ _),(sXt _ (VM _ _)).2 ?_⟩
      rw[tb_nb c (ysup t),yapp]
     rw[List.length_map,List.length_range]at this
     exact this
   have hpos:0<2^F.length:=Nat.pos_of_ne_zero (by simp)
   -- the loop
   have allen:(((List.range (2^c)).filter (Xa c X (bt z))).map fun n=>lb c (tb n)).length=2^F.length:=by rw[List.length_map,cnt_]
   have d0:decide (((((List.range (2^c)).filter (Xa c X (bt z))).length:Nat):Int)>0)=true:=by rw[cnt_];exact decide_eq_true (Int.ofNat_lt.2 hpos)
   have d1:(((((List.range (2^c)).filter (Xa c X (bt z))).length:Nat):Int) !=((2^F.length:Nat):Int))=false:=by rw[cnt_];simp
   generalize (((List.range (2^c)).filter (Xa c X (bt z))).map fun n=>lb c (tb n))=all at*
   have inner:∀t:Nat,t<2^F.length→iter M3.s2 ⟨c,lr c X,z,mr c K,all,t,0,mr0,mc0,ma,c,vw c x,c,vw c (yv x K t F.length)⟩=some (.inl ⟨c,lr c X,z,mr c K,all,t,mr0,mc0,ma,c,vw c x⟩):=fun t ht=>by
    have key:=QR (step:=M3.s2) (fun o=>⟨c,lr c X,z,mr c K,all,t,(o:Int),mr0,mc0,ma,c,vw c x,c,vw c (yv x K t F.length)⟩) (2^F.length) (y:=.inl ⟨c,lr c X,z,mr c K,all,t,mr0,mc0,ma,c,vw c x⟩) (fun o ho=>by
     have e1:decide ((o:Int)<(((all.length:Nat)):Int))=true:=by rw[allen];exact decide_eq_true (Int.ofNat_lt.2 ho)
     have e2:=sum31 (c:=c) (f:=F.length) (x:=x) (K:=K) (by omega) ssol sK lK hf8 (show o<2^64 by omega)
     have e3:=text (n:=c) (b:=yv x K t F.length) (by omega) (ysup t)
     unfold M3.s2
     simp only[e1,cond_true,suc (show o<9000000000000000000 by omega)]
     by_cases hot:o<t
     ·have e4:decide ((o:Int)<(t:Int))=true:=decide_eq_true (Int.ofNat_lt.2 hot)
      have e5:(XK (lb c (yv x K o F.length))==XK (lb c (yv x K t F.length)))=false:=by
       refine eq_false_of_ne_true fun h=> ?_
       have:=yinj o t ho ht ((chrs_eq (ysup o) (ysup t)).1 h)
       omega
      simp only[e4,cond_true,e2,e3,Q0,e5,cond_false]
     ·have e4:decide ((o:Int)<(t:Int))=false:=decide_eq_false fun h=>hot (Int.ofNat_lt.1 h)
      simp only[e4,cond_false,Q0]) (by
     have e1:decide (((2^F.length:Nat):Int)<(((all.length:Nat)):Int))=false:=by rw[allen];simp
     unfold M3.s2
     simp only[e1,cond_false])
    exact key
   have outer:iter M3.s0 ⟨c,lr c X,z,mr c K,all,0,mr0,mc0,ma,c,vw c x⟩=some (.inl PUnit.unit):=by
    have key:=QR (step:=M3.s0) (fun t=>⟨c,lr c X,z,mr c K,all,(t:Int),mr0,mc0,ma,c,vw c x⟩) (2^F.length) (y:=.inl PUnit.unit) (fun t ht=>by
     have e1:decide ((t:Int)<(((all.length:Nat)):Int))=true:=by rw[allen];exact decide_eq_true (Int.ofNat_lt.2 ht)
     have e2:=sum3 (c:=c) (f:=F.length) (x:=x) (K:=K) (by omega) ssol sK lK hf8 (show t<2^64 by omega) (lr c X) all z ma mr0 mc0
     have e3:=apply (c:=c) (R:=X) (v:=yv x K t F.length) (by omega) (by omega) sX (ysup t)
     rw[yapp,nX]at e3
     have e4:=equal (n:=n) (b:=bt z) (by omega) sz
     rw[lz]at e4
     unfold M3.s0
     simp only[e1,cond_true,e2,Q0,h23,e3,nz,Bool.not_false,e4,Bool.not_true,cond_false,inner t ht,J6,suc (show t<9000000000000000000 by omega)]) (by
     have e1:decide (((2^F.length:Nat):Int)<(((all.length:Nat)):Int))=false:=by rw[allen];simp
     unfold M3.s0
     simp only[e1,cond_false])
    exact key
   have d2:decide ((0:Int)≤((F.length:Nat):Int))=true:=by simp
   simp only[Bool.false_eq_true,if_false,d0,d1,d2,BEq.rfl,Bool.not_true,nz,cond_false,cond_true,Un hf8,outer,J6,JJ]
theorem run3'{ar ac:Int}(aa v:List Int)(h1:0≤ar)(h2:0≤ac):M3.m ⟨ar,ac,aa,v⟩=some true:=by
 obtain⟨ar,rfl⟩:=Int.eq_ofNat_of_zero_le h1
 obtain⟨ac,rfl⟩:=Int.eq_ofNat_of_zero_le h2
 exact run3 ar ac aa v
end Gf
end Go.Proofs.Ytddaobhpffpmoaa
