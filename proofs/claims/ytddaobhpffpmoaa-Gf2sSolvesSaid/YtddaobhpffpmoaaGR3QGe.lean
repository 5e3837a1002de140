/-
  What the proof stands on.
-/
import Derived.Test.YtddaobhpffpmoaaGR3QGd
import Derived.Test.YtddaobhpffpmoaaGR3QGa
import Derived.Test.YtddaobhpffpmoaaGR3QGb
import Derived.Test.YtddaobhpffpmoaaGR3QGc
set_option linter.all false
namespace Go.Proofs.Ytddaobhpffpmoaa
open Go.Abs
namespace Gf
abbrev Bits := Nat → Bool
def mr (c : Nat) (R : List Bits) : List (Int × List Int) := R.map fun b => ((c : Int),vw c b)
theorem mr_length (c : Nat) (R : List Bits) : (mr c R).length = R.length := by simp [mr]
theorem mr_at {c : Nat} {R : List Bits} {i : Nat} (h : i < R.length) : (mr c R)[(i : Int).toNat]?.getD (0,[]) = ((c : Int),vw c R[i]) := by
 unfold mr
 rw [Int.toNat_natCast,List.getElem?_map,List.getElem?_eq_getElem h]; rfl
theorem mr_at' {c : Nat} {R : List Bits} {i : Nat} (h : i < R.length) : (mr c R)[i]?.getD (0,[]) = ((c : Int),vw c R[i]) := by
 unfold mr
 rw [List.getElem?_map,List.getElem?_eq_getElem h]; rfl
def SupM (c : Nat) (R : List Bits) : Prop := ∀ b ∈ R,Sup c b
theorem nz : ((0 : Int) != 0) = false := rfl
theorem neq_self (v : Int) : (v != v) = false := by simp
theorem valid {c : Nat} {R : List Bits} (hc : c ≤ 4096) (hR : R.length ≤ 4096) (h : SupM c R) : M50.m ⟨c,mr c R⟩ = some 0 := by
 have key := iter_up (step := M50.s0) (fun i => ⟨mr c R,(R.length : Int),(i : Int),(c : Int),mr c R⟩) R.length (y := .inl PUnit.unit) (fun i hi => by
  have e1 : decide ((i : Int) < (R.length : Int)) = true := by simpa using hi
  have e2 : inR (i : Int) (mr c R).length = true := inR_nat (by rw [mr_length]; exact hi)
  unfold M50.s0
  simp only [e1,e2,mr_at hi,check hc (h _ (List.getElem_mem hi)),bindO,nz,neq_self,cond_true,cond_false,suc (show i < 9000000000000000000 by omega)]) (by
  have e1 : decide ((R.length : Int) < (R.length : Int)) = false := by simp
  unfold M50.s0
  simp only [e1,cond_false])
 have key : iter M50.s0 ⟨mr c R,(R.length : Int),0,(c : Int),mr c R⟩ = _ := key
 unfold M50.m
 simp only [size hc,mr_length,size hR,bindO,nz,cond_false,key,sumC]
def app (c : Nat) (R : List Bits) (v : Bits) : Bits := fun i => match R[i]? with | some b => dot c b v | none => false
theorem app_sup (c : Nat) (R : List Bits) (v : Bits) : Sup R.length (app c R v) := fun i hi => by unfold app; rw [List.getElem?_eq_none hi]
theorem app_at {c : Nat} {R : List Bits} (v : Bits) {i : Nat} (h : i < R.length) : app c R v i = dot c R[i] v := by unfold app; rw [List.getElem?_eq_getElem h]
theorem upto {b : Bits} {i : Nat} : (b i = false → (fun k => decide (k < i) && b k) = fun k => decide (k < i + 1) && b k) ∧ (b i = true → fl (fun k => decide (k < i) && b k) i = fun k => decide (k < i + 1) && b k) := by
 constructor
 ·intro h
  funext k
  by_cases hk : k = i
  ·subst hk; simp [h]
  ·have : (k < i) = (k < i + 1) := by simp; omega
   simp only [this]
 ·intro h
  funext k
  unfold fl
  by_cases hk : k = i
  ·subst hk; simp [h]
  ·have : (k < i) = (k < i + 1) := by simp; omega
   rw [if_neg hk]
   simp only [this]
theorem upto_all {b : Bits} {n : Nat} (h : Sup n b) : (fun k => decide (k < n) && b k) = b := by
 funext k
 by_cases hk : k < n
 ·simp [hk]
 ·simp [hk,h k (by omega)]
theorem upto_no {b : Bits} : (fun k => decide (k < 0) && b k) = fun _ => false := by funext k; simp
theorem apply {c : Nat} {R : List Bits} {v : Bits} (hc : c ≤ 4096) (hR : R.length ≤ 4096) (h : SupM c R) (hv : Sup c v) : M29.m ⟨c,mr c R,c,vw c v⟩ = some ((R.length : Int),vw R.length (app c R v),0) := by
 have hnw : nw R.length ≤ 100 := by unfold nw; omega
 have key := iter_up (step := M29.s0) (fun i => ⟨mr c R,(R.length : Int),(i : Int),(c : Int),mr c R,(c : Int),vw c v,vw R.length (fun k => decide (k < i) && app c R v k),(R.length : Int),0,nw R.length,nw R.length⟩) R.length (y := ⟨(c : Int),mr c R,(c : Int),vw c v,vw R.length (app c R v),(R.length : Int),0,nw R.length,nw R.length⟩) (fun i hi => by
  have e1 : decide ((i : Int) < (R.length : Int)) = true := by simpa using hi
  have e2 : inR (i : Int) (mr c R).length = true := inR_nat (by rw [mr_length]; exact hi)
  have e3 := app_at (c := c) v hi
  unfold M29.s0
  simp only [e1,e2,mr_at hi,odd (b := v) (c : Int) (show c ≤ 1000000 by omega) (h _ (List.getElem_mem hi)),bindO,cond_true,suc (show i < 9000000000000000000 by omega)]
  cases hd : dot c R[i] v with
  | true =>
   rw [← (upto (b := app c R v) (i := i)).2 (e3.trans hd)]
   simp only [cond_true,turn (n := R.length) (i := i) (R.length : Int) (nw R.length) _ (by omega) (show i / 64 < nw R.length by unfold nw; omega)]
  | false =>
   rw [← (upto (b := app c R v) (i := i)).1 (e3.trans hd)]
   rfl) (by
  have e1 : decide ((R.length : Int) < (R.length : Int)) = false := by simp
  unfold M29.s0
  simp only [e1,cond_false,upto_all (app_sup c R v)])
 rw [upto_no] at key
 have key : iter M29.s0 ⟨mr c R,(R.length : Int),0,(c : Int),mr c R,(c : Int),vw c v,vw R.length (fun _ => false),(R.length : Int),0,nw R.length,nw R.length⟩ = _ := key
 unfold M29.m
 simp only [valid hc hR h,check hc hv,bindO,nz,neq_self,cond_false,mr_length,blank R.length (show R.length ≤ 1000000 by omega),key,leB_all,Bool.and_self,cond_true,slice_all]
theorem of23 {L : List (List Int)} {c : Nat} (hc : c ≤ 4096) (hL : L.length ≤ 4096) (h : ∀ r ∈ L,r.length = c ∧ B01 r) (k : Int) : M23.m ⟨L,k⟩ = some (k,mr c (L.map bt)) := by
 have hm : ∀ i,i < L.length → mr c ((L.take (i + 1)).map bt) = mr c ((L.take i).map bt) ++ [((c : Int),vw c (bt L[i]!))] := fun i hi => by
  unfold mr
  rw [List.take_succ_eq_append_getElem hi,List.map_append,List.map_append,getElem!_pos L i hi]; rfl
 have key := iter_up (step := M23.s0) (fun i => ⟨L,(i : Int),k,0,i,mr c ((L.take i).map bt)⟩) L.length (y := ⟨k,0,L.length,mr c (L.map bt)⟩) (fun i hi => by
  have e1 : decide ((i : Int) < (L.length : Int)) = true := by simpa using hi
  obtain ⟨h1,h2⟩ := h _ (List.getElem_mem hi)
  have e2 : M24.m ⟨L[i]⟩ = some ((c : Int),vw c (bt L[i])) := by have := vec (l := L[i]) (by omega) h2; rw [h1] at this; exact this
  have e3 : (eqN 0 0 && eqN (mr c ((L.take i).map bt)).length i && roomB (i + 1) 32) = true := by
   have g1 : eqN (mr c ((L.take i).map bt)).length i = true := by
    rw [mr_length]; simp [eqN]; omega
   have g2 : roomB (i + 1) 32 = true := by simp [roomB,leB]; omega
   rw [g1,g2]; rfl
  have e4 := hm i hi
  rw [getElem!_pos L i hi] at e4
  unfold M23.s0
  rw [e4]
  simp only [e1,inR_nat hi,getD_at hi,e2,bindO,e3,cond_true,suc (show i < 9000000000000000000 by omega)]) (by
  have e1 : decide ((L.length : Int) < (L.length : Int)) = false := by simp
  unfold M23.s0
  simp only [e1,cond_false,List.take_length])
 have key : iter M23.s0 ⟨L,0,k,0,0,[]⟩ = _ := key
 have e5 : leB (0 + L.length) (mr c (L.map bt)).length = true := by simp [leB,mr_length]
 unfold M23.m
 simp only [key,bindO,e5,Bool.and_self,cond_true,List.drop_zero]
 rw [List.take_of_length_le (by rw [mr_length]; simp)]
end Gf
end Go.Proofs.Ytddaobhpffpmoaa
namespace Go.Proofs.Ytddaobhpffpmoaa
open Go.Abs
namespace Gf
def bit (B : List Bits) (t j : Nat) : Bool := match B[t]? with | some b => b j | none => false
theorem bit_at {B : List Bits} {t : Nat} (h : t < B.length) (j : Nat) : bit B t j = B[t] j := by unfold bit; rw [List.getElem?_eq_getElem h]
def xs (a : Bits) (B : List Bits) (i : Nat) : Bits := fun j => cnt (fun t => a t && bit B t j) i % 2 == 1
theorem set_split {α : Type} {l : List α} {i : Nat} (h : i < l.length) (x : α) : List.take i l ++ x :: List.drop (i + 1) l = l.set i x := by
 rw [List.set_eq_take_append_cons_drop,if_pos h]
end Gf
end Go.Proofs.Ytddaobhpffpmoaa
namespace Go.Proofs.Ytddaobhpffpmoaa
open Go.Abs
namespace Gf
def col (R : List Bits) (k : Nat) : Bits := fun i => bit R i k
theorem col_sup (R : List Bits) (k : Nat) : Sup R.length (col R k) := fun i hi => by unfold col bit; rw [List.getElem?_eq_none hi]
def tr (c : Nat) (R : List Bits) : List Bits := (List.range c).map (col R)
theorem tr_length (c : Nat) (R : List Bits) : (tr c R).length = c := by simp [tr]
theorem turned {c : Nat} {R : List Bits} (hc : c ≤ 4096) (hR : R.length ≤ 4096) : M87.m ⟨c,mr c R⟩ = some ((R.length : Int),mr R.length (tr c R)) := by
 have inner : ∀ (k : Nat) (hk : k < c) (out out_r : List (Int × List Int)),out.length = k →
   iter M87.s1 ⟨(c : Int),(k : Int),(k : Int),mr c R,(R.length : Int),0,(c : Int),mr c R,out,(R.length : Int),0,nw R.length,nw R.length,out_r,(R.length : Int),0,c,c,vw R.length (fun _ => false)⟩ =
    some ⟨(c : Int),(k : Int),(c : Int),mr c R,out,(R.length : Int),0,nw R.length,nw R.length,out_r,(R.length : Int),0,c,c,vw R.length (col R k)⟩ := fun k hk out out_r ho => by
  have key := iter_up (step := M87.s1) (fun i => ⟨(c : Int),(k : Int),(k : Int),mr c R,(R.length : Int),(i : Int),(c : Int),mr c R,out,(R.length : Int),0,nw R.length,nw R.length,out_r,(R.length : Int),0,c,c,vw R.length (fun t => decide (t < i) && col R k t)⟩) R.length
   (y := ⟨(c : Int),(k : Int),(c : Int),mr c R,out,(R.length : Int),0,nw R.length,nw R.length,out_r,(R.length : Int),0,c,c,vw R.length (col R k)⟩) (fun i hi => by
    have e1 : decide ((i : Int) < (R.length : Int)) = true := by simpa using hi
    have e2 : inR (i : Int) (mr c R).length = true := inR_nat (by rw [mr_length]; exact hi)
    have e3 : eqN (0 + k) out.length = true := by simp [eqN,ho]
    have e4 : col R k i = R[i] k := bit_at hi k
    unfold M87.s1
    simp only [e1,e2,mr_at hi,has (n := c) (i := k) (c : Int) R[i] (by omega) (by unfold nw; omega),bindO,cond_true,suc (show i < 9000000000000000000 by omega)]
    cases ha : R[i] k with
    | true =>
     rw [← (upto (b := col R k) (i := i)).2 (e4.trans ha)]
     simp only [cond_true,inR_nat hk,Int.toNat_natCast,e3,turn (n := R.length) (i := i) (R.length : Int) (nw R.length) _ (by omega) (show i / 64 < nw R.length by unfold nw; omega)]
    | false =>
     rw [← (upto (b := col R k) (i := i)).1 (e4.trans ha)]
     rfl) (by
    have e1 : decide ((R.length : Int) < (R.length : Int)) = false := by simp
    unfold M87.s1
    simp only [e1,cond_false,upto_all (col_sup R k)])
  rw [upto_no] at key
  exact key
 have key := iter_up (step := M87.s0) (fun k => ⟨(c : Int),(k : Int),(c : Int),mr c R,mix (fun k => ((R.length : Int),vw R.length (col R k))) (fun _ => (0,[])) k c,(R.length : Int),0,c,c⟩) c
  (y := ⟨(c : Int),mr c R,mr R.length (tr c R),(R.length : Int),0,c,c⟩) (fun k hk => by
   have e1 : decide ((k : Int) < (c : Int)) = true := by simpa using hk
   have hm := mix_set (fun k => ((R.length : Int),vw R.length (col R k))) (fun _ => ((0 : Int),([] : List Int))) hk
   have hl := mix_length (fun k => ((R.length : Int),vw R.length (col R k))) (fun _ => ((0 : Int),([] : List Int))) k c
   rw [← hm]
   generalize mix (fun k => ((R.length : Int),vw R.length (col R k))) (fun _ => ((0 : Int),([] : List Int))) k c = out at hl ⊢
   have e3 : decide (0 + k < out.length) = true := by rw [hl]; simpa using hk
   have e5 := inner k hk (List.take k out) (List.drop (k + 1) out) (by rw [List.length_take]; omega)
   unfold M87.s0
   simp only [e1,blank R.length (show R.length ≤ 1000000 by omega),bindO,cond_true,inR_nat hk,Int.toNat_natCast,e3,mr_length]
   rw [Nat.zero_add,e5]
   simp only [leB_all,Bool.and_self,cond_true,slice_all,suc (show k < 9000000000000000000 by omega)]
   rw [set_split (by omega)]) (by
   have e1 : decide ((c : Int) < (c : Int)) = false := by simp
   have e2 : mix (fun k => ((R.length : Int),vw R.length (col R k))) (fun _ => ((0 : Int),([] : List Int))) c c = mr R.length (tr c R) := by
    rw [mix_full]
    unfold mr tr
    rw [List.map_map]; rfl
   unfold M87.s0
   simp only [e1,cond_false,e2])
 rw [mix_zero,mix_const (fun _ => ((0 : Int),([] : List Int)))] at key
 have key : iter M87.s0 ⟨(c : Int),0,(c : Int),mr c R,List.replicate c (0,[]),(R.length : Int),0,c,c⟩ = _ := key
 have e2 : (decide (0 ≤ (c : Int)) && decide ((c : Int) ≤ (c : Int)) && decide ((c : Int) * (↑32 : Int) ≤ 281474976710656) && decide ((c : Int) ≤ 9223372036854775807)) = true := by simp; omega
 have e3 : leB (0 + c) (mr R.length (tr c R)).length = true := by simp [leB,mr_length,tr_length]
 unfold M87.m
 simp only [e2,cond_true,Int.toNat_natCast,mr_length,key,bindO]
 have e3 : leB (0 + c) (tr c R).length = true := by simp [leB,tr_length]
 simp only [e3,Bool.and_self,cond_true,List.drop_zero]
 rw [List.take_of_length_le (by rw [mr_length,tr_length]; exact Nat.le_refl _)]
end Gf
end Go.Proofs.Ytddaobhpffpmoaa
namespace Go.Proofs.Ytddaobhpffpmoaa
open Go.Abs
namespace Gf
theorem lb_more (n : Nat) (b : Nat → Bool) : lb (n + 1) b = lb n b ++ [i01 (b n)] := by
 unfold lb
 rw [List.range_succ,List.map_append]; rfl
def lr (c : Nat) (R : List Bits) : List (List Int) := R.map (lb c)
theorem lr_length (c : Nat) (R : List Bits) : (lr c R).length = R.length := by simp [lr]
theorem lr_at {c : Nat} {R : List Bits} {i : Nat} (h : i < R.length) : (lr c R)[(i : Int).toNat]?.getD [] = lb c R[i] := by
 unfold lr
 rw [Int.toNat_natCast,List.getElem?_map,List.getElem?_eq_getElem h]; rfl
theorem lr_bt {L : List (List Int)} {c : Nat} (h : ∀ r ∈ L,r.length = c ∧ B01 r) : lr c (L.map bt) = L := by
 unfold lr
 rw [List.map_map]
 conv => rhs; rw [← List.map_id L]
 refine List.map_congr_left fun r hr => ?_
 obtain ⟨h1,h2⟩ := h r hr
 have := lb_bt h2
 rw [h1] at this
 exact this
theorem ref44 {c : Nat} {R : List Bits} {v : Bits} (hc : c ≤ 4096) (hR : R.length ≤ 4096) (h : SupM c R) (hv : Sup c v) : M44.m ⟨lr c R,lb c v⟩ = some (lb R.length (app c R v)) := by
 have key := iter_up (step := M44.s0) (fun i => ⟨lr c R,lb c v,0,i,(i : Int),lb i (app c R v)⟩) R.length (y := ⟨0,R.length,lb R.length (app c R v)⟩) (fun i hi => by
  have e1 : decide ((i : Int) < ((lr c R).length : Int)) = true := by rw [lr_length]; simpa using hi
  have e3 : inR (i : Int) (lr c R).length = true := inR_nat (by rw [lr_length]; exact hi)
  have e4 : M35.m ⟨lb c R[i],lb c v⟩ = some (i01 (dot c R[i] v)) := by
   have := ref35 (a := lb c R[i]) (v := lb c v) (by rw [lb_length]; omega) (by rw [lb_length,lb_length]; exact Nat.le_refl _) (lb01 _ _) (lb01 _ _)
   rw [lb_length,bt_lb c _ (h _ (List.getElem_mem hi)),bt_lb c _ hv] at this
   exact this
  have e5 : (eqN 0 0 && eqN (lb i (app c R v)).length i && roomB (i + 1) 1) = true := by
   have g1 : eqN (lb i (app c R v)).length i = true := by simp [eqN,lb_length]
   have g2 : roomB (i + 1) 1 = true := by simp [roomB,leB]; omega
   rw [g1,g2]; rfl
  unfold M44.s0
  rw [lb_more,app_at v hi]
  simp only [e1,e3,lr_at hi,e4,e5,bindO,cond_true,suc (show i < 9000000000000000000 by omega)]) (by
  have e1 : decide ((R.length : Int) < ((lr c R).length : Int)) = false := by rw [lr_length]; simp
  unfold M44.s0
  simp only [e1,cond_false])
 have key : iter M44.s0 ⟨lr c R,lb c v,0,0,0,[]⟩ = _ := key
 have e5 : leB (0 + R.length) (lb R.length (app c R v)).length = true := by simp [leB,lb_length]
 unfold M44.m
 simp only [key,bindO,e5,Bool.and_self,cond_true,List.drop_zero]
 rw [List.take_of_length_le (by rw [lb_length]; exact Nat.le_refl _)]
end Gf
end Go.Proofs.Ytddaobhpffpmoaa
