/-
  What the proof stands on.
-/
import Derived.Test.YtogkpjhkpgdbkaaDoorWR2QWu
import Derived.Test.YtogkpjhkpgdbkaaDoorWR2QWU7
set_option linter.all false
namespace Go.Proofs.YtogkpjhkpgdbkaaDoor
open Go.Abs
def Le {α : Type} (a b : Option α) : Prop := ∀ y,a = some y → b = some y
theorem Le.refl {α : Type} (a : Option α) : Le a a := fun _ h => h
theorem Le.bind {α β : Type} {a b : Option α} {f g : α → Option β} (h : Le a b) (h' : ∀ y,Le (f y) (g y)) : Le (bindO a f) (bindO b g) := fun z hz => by
 obtain ⟨y,h1,h2⟩ := bindO_some hz
 rw [h y h1]; exact h' y z h2
theorem Le.cond {α : Type} {p : Bool} {a b c d : Option α} (h : Le a b) (h' : Le c d) : Le (bif p then a else c) (bif p then b else d) := by cases p <;> assumption
theorem Le.sum {α β γ : Type} {s : α ⊕ β} {f f' : α → Option γ} {g g' : β → Option γ} (h : ∀ y,Le (f y) (f' y)) (h' : ∀ y,Le (g y) (g' y)) : Le (sumC s f g) (sumC s f' g') := by
 cases s with
 | inl y => exact h y
 | inr y => exact h' y
theorem iterN_le {X Y : Type} {s s' : X → Option (X ⊕ Y)} (h : ∀ x,Le (s x) (s' x)) : ∀ (n : Nat) (x : X),Le (iterN s n x) (iterN s' n x)
 | 0,x => fun y hy => by cases hy
 | n + 1,x => fun y hy => by
  unfold iterN at hy ⊢
  split at hy
  ·rename_i x' e; rw [h x _ e]; exact iterN_le h n x' y hy
  ·rename_i y' e; rw [h x _ e]; exact hy
  ·cases hy
theorem Le.iter {X Y : Type} {s s' : X → Option (X ⊕ Y)} {n : Nat} (h : ∀ x,Le (s x) (s' x)) (x : X) : Le (iterN s n x) (Go.Abs.iter s' x) := fun y hy => iter_of (iterN_le h n x y hy)
namespace M25
def s0' (x : p0X) : Option (p0X ⊕ (q0X ⊕ z0X)) := bif decide (x.k < x.n) then bif inR x.k x.addr.length then bindO (M23.m { v := x.addr[x.k.toNat]?.getD 0 }) fun y => bif bif y then IntKind.i64.wrap (x.addr[x.k.toNat]?.getD 0) != IntKind.i64.wrap (↑(BitVec.ofInt 64 x.i &&& BitVec.ofInt 64 1).toNat : Int) else false then some (Sum.inr (Sum.inr { r := false })) else some (Sum.inl { i := x.i.fdiv (2 ^ 1),addr := x.addr,n := x.n,k := IntKind.i64.wrap (x.k + 1) }) else none
else some (Sum.inr (Sum.inl { i := x.i }))
theorem s0_le (x : _) : Le (s0' x) (s0 x) := by
 unfold s0' s0
 repeat' first | with_reducible exact Le.refl _ | with_reducible apply Le.bind | with_reducible apply Le.cond | with_reducible apply Le.sum | intro _
def m' (x : gX) : Option fY := bindO (iterN s0' 200 { i := x.i,addr := x.addr,n := (↑x.addr.length : Int),k := 0 }) fun s => sumC s (fun y => some (y.i == 0)) fun z => some z.r
theorem m_le (x : _) : Le (m' x) (m x) := by
 unfold m' m
 repeat' first | with_reducible exact Le.refl _ | with_reducible exact Le.iter s0_le _ | with_reducible apply Le.bind | with_reducible apply Le.cond | with_reducible apply Le.sum | intro _
end M25
namespace M38b
def s0' (x : p0X) : Option (p0X ⊕ (q0X ⊕ z0X)) := bif decide (x.i < x.n) then bif inR x.i x.s.length then bindO (M22.m { v := x.s[x.i.toNat]?.getD 0 }) fun y => bif y then some (Sum.inr (Sum.inr { r := x.i })) else some (Sum.inl { s := x.s,n := x.n,i := IntKind.i64.wrap (x.i + 1) }) else none
else some (Sum.inr (Sum.inl PUnit.unit))
theorem s0_le (x : _) : Le (s0' x) (s0 x) := by
 unfold s0' s0
 repeat' first | with_reducible exact Le.refl _ | with_reducible apply Le.bind | with_reducible apply Le.cond | with_reducible apply Le.sum | intro _
def m' (x : gX) : Option fY := bindO (iterN s0' 200 { s := x.s,n := (↑x.s.length : Int),i := 0 }) fun s => sumC s (fun y => some (-1)) fun z => some z.r
theorem m_le (x : _) : Le (m' x) (m x) := by
 unfold m' m
 repeat' first | with_reducible exact Le.refl _ | with_reducible exact Le.iter s0_le _ | with_reducible apply Le.bind | with_reducible apply Le.cond | with_reducible apply Le.sum | intro _
end M38b
namespace M13b
def m' (x : gX) : Option fY := bindO (M38b.m' { s := x.s }) fun y => some (decide (y ≥ 0))
theorem m_le (x : _) : Le (m' x) (m x) := by
 unfold m' m
 repeat' first | with_reducible exact Le.refl _ | with_reducible exact M38b.m_le _ | with_reducible apply Le.bind | with_reducible apply Le.cond | with_reducible apply Le.sum | intro _
end M13b
namespace To
def bits (a : Nat) : List Int := [((a % 2 : Nat) : Int),((a / 2 % 2 : Nat) : Int),((a / 4 % 2 : Nat) : Int)]
theorem all8 {p : Nat → Bool} (h : (List.range 8).all p = true) {a : Nat} (ha : a < 8) : p a = true := List.all_eq_true.1 h a (List.mem_range.2 ha)
theorem mat_ev : (List.range 8).all (fun i => (List.range 8).all fun a => M25.m' ⟨(i : Int),bits a⟩ == some (decide (i = a))) = true := by kernel_rfl
theorem mat {i a : Nat} (hi : i < 8) (ha : a < 8) : M25.m ⟨(i : Int),bits a⟩ = some (decide (i = a)) := M25.m_le _ _ (eq_of_beq (all8 (all8 mat_ev hi) ha))
theorem sure_ev : (List.range 8).all (fun a => M13b.m' ⟨bits a⟩ == some false) = true := by kernel_rfl
theorem sure {a : Nat} (ha : a < 8) : M13b.m ⟨bits a⟩ = some false := M13b.m_le _ _ (eq_of_beq (all8 sure_ev ha))
end To
end Go.Proofs.YtogkpjhkpgdbkaaDoor
namespace Go.Proofs.YtogkpjhkpgdbkaaDoor
open Go.Abs
namespace To
theorem w64 {x : Int} (h : -9223372036854775808 ≤ x) (h' : x ≤ 9223372036854775807) : IntKind.i64.wrap x = x := by
 simp [IntKind.wrap,IntKind.signed,IntKind.bits]; omega
theorem inR_nat {i n : Nat} (h : i < n) : inR (i : Int) n = true := by simp [inR]; omega
theorem suc {i : Nat} (h : i < 9000000000000000000) : IntKind.i64.wrap ((i : Int) + 1) = ((i + 1 : Nat) : Int) := by rw [w64 (by omega) (by omega)]; omega
theorem eqN_of {a b : Nat} (h : a = b) : eqN a b = true := by simp [eqN,h]
theorem iter_count {X Y : Type} {step : X → Option (X ⊕ Y)} (S : Nat → X) {y : Y} : ∀ n : Nat,(∀ i,i < n → step (S i) = some (.inl (S (i + 1)))) → step (S n) = some (.inr y) → iter step (S 0) = some y := by
 have key : ∀ j i n : Nat,i + j = n → (∀ i,i < n → step (S i) = some (.inl (S (i + 1)))) → step (S n) = some (.inr y) → iter step (S i) = some y := by
   intro j
   induction j with
   | zero => intro i n hi _ he; have e : i = n := by omega
             subst e; rw [iter_eq,he]
   | succ j ih => intro i n hi h he; rw [iter_eq,h i (by omega)]; exact ih (i + 1) n (by omega) h he
 exact fun n => key n 0 n (by omega)
abbrev Bt (z : Int) : Prop := z = 0 ∨ z = 1
theorem m24 {z : Int} (h : Bt z) : M24.m ⟨[z],0⟩ = some z := by
 rcases h with rfl | rfl <;> rfl
abbrev Wd (zs : List Int) : List (List Int) := zs.map fun z => [z]
theorem Wd_at' {zs : List Int} {i : Nat} (h : i < zs.length) : (Wd zs)[i]?.getD [] = [zs[i]] := by
 simp [Wd,h]
def put (en : Int) (a i : Nat) (v z : Int) : Int := if en = 1 ∧ i = a then v else z
theorem s1_run {zs : List Int} {a i : Nat} {v z en : Int} {sr : Bool} {T R : List (List Int)} (hi : i < 8) (ha : a < 8) (hz : Bt z) (hv : Bt v) (he : Bt en) (hs : en = 1 → sr = true) (hT : T.length = i) :
  iter M7.s1 ⟨bits a,[v],en,sr,0,8,8,Wd zs,8,i,i,[z],1,0,T,0,1,1,R,[z]⟩ = some ⟨bits a,[v],en,sr,0,8,8,Wd zs,8,i,T,0,1,1,R,[put en a i v z]⟩ := by
 have h0 : M7.s1 ⟨bits a,[v],en,sr,0,8,8,Wd zs,8,i,i,[z],1,0,T,0,1,1,R,[z]⟩ = some (.inl ⟨bits a,[v],en,sr,0,8,8,Wd zs,8,i,i,[z],1,1,T,0,1,1,R,[put en a i v z]⟩) := by
  have e1 : eqN (0 + (i : Int).toNat) T.length = true := eqN_of (by simp [hT])
  have e2 : inR 0 1 = true := rfl
  have e3 : IntKind.i64.wrap (0 + 1) = 1 := rfl
  unfold M7.s1
  simp only [m24 hz,m24 hv,mat hi ha,bindO,inR_nat hi,e1,e2,e3,cond_true,show decide ((0 : Int) < 1) = true from rfl]
  rcases he with rfl | rfl
  ·simp [put]
  ·have hs := hs rfl
   subst hs
   by_cases hia : i = a <;> simp [put,hia]
 have h1 : M7.s1 ⟨bits a,[v],en,sr,0,8,8,Wd zs,8,i,i,[z],1,1,T,0,1,1,R,[put en a i v z]⟩ = some (.inr ⟨bits a,[v],en,sr,0,8,8,Wd zs,8,i,T,0,1,1,R,[put en a i v z]⟩) := by
  unfold M7.s1; rfl
 rw [iter_eq,h0]
 show iter M7.s1 _ = _
 rw [iter_eq,h1]
def stored (en : Int) (a : Nat) (v : Int) (zs : List Int) : List Int := if en = 1 then zs.set a v else zs
theorem stored_len (en : Int) (a : Nat) (v : Int) (zs : List Int) : (stored en a v zs).length = zs.length := by unfold stored; split <;> simp
theorem stored_at {en v : Int} {a i : Nat} {zs : List Int} (h : i < zs.length) : (stored en a v zs)[i]'(by rw [stored_len]; exact h) = put en a i v zs[i] := by
 unfold stored put
 by_cases he : en = 1
 ·simp only [he,if_true,List.getElem_set,true_and]
  by_cases e : a = i
  ·simp [e]
  ·simp [e,Ne.symm e]
 ·simp [he]
theorem m7_run {zs : List Int} {a : Nat} {v en : Int} {sr : Bool} (hl : zs.length = 8) (hz : ∀ z ∈ zs,Bt z) (ha : a < 8) (hv : Bt v) (he : Bt en) (hs : en = 1 → sr = true) :
  iter M7.s0 ⟨bits a,[v],en,sr,0,8,8,Wd zs,8,0,List.replicate 8 []⟩ = some ⟨0,8,8,Wd (stored en a v zs)⟩ := by
 have hlS := stored_len en a v zs
 have hO : ∀ i,i ≤ 8 → ((Wd (stored en a v zs)).take i ++ List.replicate (8 - i) ([] : List Int)).length = 8 := fun i hi => by simp [Wd,hlS,hl]; omega
 have key := iter_count (step := M7.s0) (fun i => ⟨bits a,[v],en,sr,0,8,8,Wd zs,8,(i : Int),(Wd (stored en a v zs)).take i ++ List.replicate (8 - i) []⟩) (y := ⟨0,8,8,Wd (stored en a v zs)⟩) 8 (fun i hi => by
  have hi' : i < zs.length := by omega
  have e1 : decide ((i : Int) < 8) = true := decide_eq_true (by omega)
  have e2 : inR (i : Int) (Wd zs).length = true := inR_nat (by simp [Wd,hl]; exact hi)
  have hOl := hO i (by omega)
  have hT : (((Wd (stored en a v zs)).take i ++ List.replicate (8 - i) ([] : List Int)).take i) = (Wd (stored en a v zs)).take i := by
   rw [List.take_append_of_le_length (by simp [Wd,hlS,hl]; omega),List.take_take,Nat.min_self]
  have hTl : ((Wd (stored en a v zs)).take i).length = i := by simp [Wd,hlS,hl]; omega
  have hR : (((Wd (stored en a v zs)).take i ++ List.replicate (8 - i) ([] : List Int)).drop (i + 1)) = List.replicate (8 - (i + 1)) [] := by
   rw [List.drop_append,hTl,List.drop_eq_nil_of_le (by omega),List.nil_append,List.drop_replicate]
   congr 1; omega
  have hs1 := s1_run (zs := zs) (R := List.replicate (8 - (i + 1)) []) hi ha (hz _ (List.getElem_mem hi')) hv he hs hTl
  have hnew : (Wd (stored en a v zs)).take (i + 1) = (Wd (stored en a v zs)).take i ++ [[put en a i v zs[i]]] := by
   rw [List.take_succ_eq_append_getElem (by simp [Wd,hlS,hl]; omega)]
   simp [Wd,stored_at hi']
  unfold M7.s0
  simp only [e1,e2,Int.toNat_natCast,Wd_at' hi',cond_true,List.length_singleton,Nat.zero_add,hT,hR,hTl,hOl,inR_nat hi,eqN_of rfl,show decide (i < 8) = true from decide_eq_true hi]
  have hs1' : iter M7.s1 ⟨bits a,[v],en,sr,0,8,8,Wd zs,8,i,i,[zs[i]],((1 : Nat) : Int),0,(Wd (stored en a v zs)).take i,0,1,1,List.replicate (8 - (i + 1)) [],List.take 0 (List.replicate 1 (0 : Int)) ++ List.take (min 1 1) [zs[i]] ++ List.drop (min 1 1) (List.replicate 1 (0 : Int))⟩ = _ := hs1
  simp only [hs1',bindO]
  have e3 : IntKind.i64.wrap ((i : Int) + 1) = ((i + 1 : Nat) : Int) := suc (by omega)
  simp [e3,hnew,leB]) (by
  unfold M7.s0
  have : (Wd (stored en a v zs)).take 8 = Wd (stored en a v zs) := List.take_of_length_le (by simp [Wd,hlS,hl])
  simp [this])
 exact key
theorem m7 {zs : List Int} {a : Nat} {v en : Int} (hl : zs.length = 8) (hz : ∀ z ∈ zs,Bt z) (ha : a < 8) (hv : Bt v) (he : Bt en) : M7.m ⟨Wd zs,bits a,[v],en⟩ = some (Wd (stored en a v zs)) := by
 have hw : (Wd zs).length = 8 := by simp [Wd,hl]
 have hw2 : (Wd (stored en a v zs)).length = 8 := by simp [Wd,stored_len,hl]
 have hT : (Wd (stored en a v zs)).take 8 = Wd (stored en a v zs) := List.take_of_length_le (by omega)
 unfold M7.m
 rcases he with rfl | rfl
 ·have h : iter M7.s0 ⟨bits a,[v],0,false,0,((8 : Nat) : Int).toNat,((8 : Nat) : Int).toNat,Wd zs,((8 : Nat) : Int),0,List.replicate ((8 : Nat) : Int).toNat []⟩ = _ := m7_run (sr := false) hl hz ha hv (.inl rfl) (fun h => by cases h)
  simp only [hw,bindO,show ((0 : Int) == 1) = false from rfl,cond_false,h]
  simp [leB,hw2,hT]
 ·have h : iter M7.s0 ⟨bits a,[v],1,true,0,((8 : Nat) : Int).toNat,((8 : Nat) : Int).toNat,Wd zs,((8 : Nat) : Int),0,List.replicate ((8 : Nat) : Int).toNat []⟩ = _ := m7_run (sr := true) hl hz ha hv (.inr rfl) (fun h => rfl)
  simp only [hw,bindO,show ((1 : Int) == 1) = true from rfl,cond_true,sure ha,Bool.not_false,h]
  simp [leB,hw2,hT]
theorem m27 : M27o.m ⟨1⟩ = some (0,1,1,[2]) := by
 have h1 : M47.m ⟨IntKind.u64.wrap ((1 : Nat) : Int),IntKind.u64.wrap 1⟩ = some (0,1) := by kernel_rfl
 have h2 : iter M42o.s0 ⟨0,1,1,1,[2]⟩ = some ⟨0,1,1,[2]⟩ := by
  rw [iter_eq]; rfl
 unfold M27o.m M42o.m
 simp only [List.length_singleton,h1,bindO]
 have h3 : iter M42o.s0 ⟨0,(IntKind.i64.wrap 1).toNat,(IntKind.i64.wrap 1).toNat,((min 1 (IntKind.i64.wrap 1).toNat : Nat) : Int),List.take 0 (List.replicate (IntKind.i64.wrap 1).toNat (0 : Int)) ++ List.take (min 1 (IntKind.i64.wrap 1).toNat) [2] ++ List.drop (0 + min 1 (IntKind.i64.wrap 1).toNat) (List.replicate (IntKind.i64.wrap 1).toNat (0 : Int))⟩ = some ⟨0,1,1,[2]⟩ := h2
 simp only [h3]
 rfl
theorem s1_look {zs : List Int} {a i : Nat} {z : Int} (hz : Bt z) : iter M9.s1 ⟨bits a,0,1,1,true,Wd zs,8,i,[z],1,0,[2]⟩ = some ⟨bits a,0,1,1,true,Wd zs,8,i,[z]⟩ := by
 have h0 : M9.s1 ⟨bits a,0,1,1,true,Wd zs,8,i,[z],1,0,[2]⟩ = some (.inl ⟨bits a,0,1,1,true,Wd zs,8,i,[z],1,1,[z]⟩) := by
  unfold M9.s1
  simp only [m24 hz,bindO]
  rfl
 have h1 : M9.s1 ⟨bits a,0,1,1,true,Wd zs,8,i,[z],1,1,[z]⟩ = some (.inr ⟨bits a,0,1,1,true,Wd zs,8,i,[z]⟩) := rfl
 rw [iter_eq,h0]
 show iter M9.s1 _ = _
 rw [iter_eq,h1]
theorem m9 {zs : List Int} {a : Nat} (hl : zs.length = 8) (hz : ∀ z ∈ zs,Bt z) (ha : a < 8) : M9.m ⟨Wd zs,bits a⟩ = some [zs[a]'(by omega)] := by
 have ha' : a < zs.length := by omega
 have hw : (Wd zs).length = 8 := by simp [Wd,hl]
 have key := iter_count (step := M9.s0) (fun i => ⟨bits a,0,1,1,decide (i ≤ a),Wd zs,8,(i : Int),if i ≤ a then [2] else [zs[a]]⟩) (y := ⟨0,1,1,[zs[a]]⟩) 8 (fun i hi => by
  have hi' : i < zs.length := by omega
  have e1 : decide ((i : Int) < 8) = true := decide_eq_true (by omega)
  have e2 : inR (i : Int) (Wd zs).length = true := inR_nat (by omega)
  have e3 : IntKind.i64.wrap ((i : Int) + 1) = ((i + 1 : Nat) : Int) := suc (by omega)
  unfold M9.s0
  simp only [e1,e2,mat hi ha,bindO,cond_true,e3]
  by_cases h : i = a
  ·subst h
   have hk := s1_look (zs := zs) (a := i) (i := i) (hz _ (List.getElem_mem hi'))
   have hn : ¬ (i + 1 ≤ i) := by omega
   have hk' : iter M9.s1 ⟨bits i,0,1,1,true,Wd zs,8,i,[zs[i]],((1 : Nat) : Int),0,[2]⟩ = _ := hk
   simp only [Int.toNat_natCast,Wd_at' hi',Nat.le_refl,decide_true,Bool.not_true,cond_false,if_true,hk',e3,hn,decide_false,if_false]
  ·have h1 : decide (i = a) = false := decide_eq_false h
   have h2 : (i + 1 ≤ a) ↔ (i ≤ a) := by omega
   simp only [h1,Bool.not_false,cond_true,h2]) (by
  have hn : ¬ (8 ≤ a) := by omega
  unfold M9.s0
  simp [hn])
 have e0 : ((List.length ((Wd zs)[0]?.getD []) : Nat) : Int) = 1 := by
  rw [Wd_at' (show 0 < zs.length by omega)]; rfl
 have key' : iter M9.s0 ⟨bits a,0,1,1,true,Wd zs,((8 : Nat) : Int),0,[2]⟩ = some ⟨0,1,1,[zs[a]]⟩ := by
  have := key
  simpa using this
 unfold M9.m
 simp only [hw,e0,m27,bindO,key']
 simp [inR,leB]
end To
end Go.Proofs.YtogkpjhkpgdbkaaDoor
namespace Go.Proofs.YtogkpjhkpgdbkaaDoor
open Go.Abs
namespace To
theorem getD_at {α : Type} {l : List α} {i : Nat} (h : i < l.length) (d : α) : l[(i : Int).toNat]?.getD d = l[i] := by simp [h]
theorem m13a {s : List Int} (hl : s.length ≤ 1000) (h : ∀ z ∈ s,Bt z) : M13a.m ⟨s⟩ = some false := by
 have key := iter_count (step := M38a.s0) (fun i => ⟨s,(s.length : Int),(i : Int)⟩) (y := .inl ()) s.length (fun i hi => by
  have e1 : decide ((i : Int) < (s.length : Int)) = true := decide_eq_true (by omega)
  have e3 : IntKind.i64.wrap ((i : Int) + 1) = ((i + 1 : Nat) : Int) := suc (by omega)
  have hb := h _ (List.getElem_mem hi)
  have e4 : M14.m ⟨s[i]⟩ = some false := by
   unfold M14.m M15.m
   rcases hb with e | e <;> rw [e] <;> rfl
  unfold M38a.s0
  simp only [e1,inR_nat hi,getD_at hi,e4,bindO,e3,cond_true,cond_false]) (by
  unfold M38a.s0
  simp)
 have key' : iter M38a.s0 ⟨s,(s.length : Int),0⟩ = some (.inl ()) := key
 unfold M13a.m M38a.m
 simp only [key',bindO,sumC]
 rfl
theorem m16 {s : List Int} (hl : s.length = 8) : M16.m ⟨s⟩ = some (0,8,s) := by
 unfold M16.m
 simp [hl,eqN,roomB,leB]
theorem m5 {s : List Int} (hl : s.length = 8) (h : ∀ z ∈ s,Bt z) : M5.m ⟨s,[]⟩ = some (0,0,0,0,0,8,true,s) := by
 have h1 : iter M5.s0 ⟨s,[],((0 : Nat) : Int),0,s,0,0,0,0,8,true⟩ = some (.inl ⟨s,0,0,0,0,8,true⟩) := by
  rw [iter_eq]; rfl
 have h1' : iter M5.s0 ⟨s,[],((0 : Nat) : Int),0,s,0,0,0,0,8,((0 : Nat) : Int) == 0⟩ = some (.inl ⟨s,0,0,0,0,8,true⟩) := h1
 unfold M5.m
 simp only [m13a (by omega) h,m16 hl,hl,List.length_nil,bindO,h1',sumC]
 rfl
theorem m19 {a : Nat} (ha : a < 8) (zs : List Int) : M19.m ⟨(a : Int),0,0,0,0,8,true,zs⟩ = some (0,0,0,0,0,8,true,zs) := by
 have h1 : decide ((a : Int) < 0) = false := decide_eq_false (by omega)
 have h2 : decide ((a : Int) ≥ ((8 : Nat) : Int)) = false := decide_eq_false (by omega)
 unfold M19.m
 simp only [h1,h2]
 rfl
theorem m6 {a : Nat} {v : Int} {zs : List Int} (hl : zs.length = 8) (ha : a < 8) (hv : Bt v) : M6.m ⟨(a : Int),v,0,0,0,0,8,true,zs⟩ = some (0,0,0,0,0,8,true,zs.set a v) := by
 have h15 : M15.m ⟨v⟩ = some true := by unfold M15.m; rcases hv with rfl | rfl <;> rfl
 have h20 : M20.m ⟨(a : Int),0,0,0,0,8,true,zs⟩ = some ([(a : Int)],0,0,0,0,8,true,zs) := rfl
 have h21 : M21.m ⟨(a : Int),v,0,0,0,0,8,true,zs⟩ = some (0,0,0,0,8,true,zs.set a v) := by
  unfold M21.m
  simp [inR_nat ha,hl,ha]
 have h0 : iter M6.s0 ⟨v,[(a : Int)],((1 : Nat) : Int),0,0,0,0,0,8,true,zs⟩ = some ⟨0,0,0,0,8,true,zs.set a v⟩ := by
  have e0 : M6.s0 ⟨v,[(a : Int)],((1 : Nat) : Int),0,0,0,0,0,8,true,zs⟩ = some (.inl ⟨v,[(a : Int)],((1 : Nat) : Int),1,0,0,0,0,8,true,zs.set a v⟩) := by
   unfold M6.s0
   have : ([(a : Int)])[(0 : Int).toNat]?.getD 0 = (a : Int) := rfl
   simp only [this,h21,bindO]
   rfl
  rw [iter_eq,e0]
  show iter M6.s0 _ = _
  rw [iter_eq]; rfl
 unfold M6.m
 simp only [m19 ha,h15,bindO,show ((0 : Int) == 0) = true from rfl,cond_true,Bool.not_true,cond_false,show ((0 : Int) != 0) = false from rfl,h20,List.length_singleton,h0]
theorem m8 {a : Nat} {zs : List Int} (hl : zs.length = 8) (ha : a < 8) : M8.m ⟨(a : Int),0,0,0,0,8,true,zs⟩ = some (zs[a]'(by omega),0,0,0,0,0,8,true,zs) := by
 have h20 : M20.m ⟨(a : Int),0,0,0,0,8,true,zs⟩ = some ([(a : Int)],0,0,0,0,8,true,zs) := rfl
 have ha' : a < zs.length := by omega
 unfold M8.m
 simp [m19 ha,h20,bindO,inR_nat ha,hl,ha,ha']
 rfl
end To
end Go.Proofs.YtogkpjhkpgdbkaaDoor
namespace Go.Proofs.YtogkpjhkpgdbkaaDoor
open Go.Abs
namespace To
def cbit (s : Int) (i : Nat) : Int := IntKind.u8.wrap (IntKind.u16.wrap (↑(BitVec.ofInt 16 (s.fdiv (2 ^ min i 16)) &&& BitVec.ofInt 16 1).toNat : Int))
theorem cbit_Bt (s : Int) (i : Nat) : Bt (cbit s i) := by
 unfold cbit
 generalize BitVec.ofInt 16 (s.fdiv (2 ^ min i 16)) = b
 have h : (b &&& BitVec.ofInt 16 1).toNat = b.toNat % 2 := by
  rw [BitVec.toNat_and]
  exact Nat.and_one_is_mod _
 rw [h]
 have h2 : b.toNat % 2 < 2 := Nat.mod_lt _ (by decide)
 generalize b.toNat % 2 = k at h2
 match k,h2 with
 | 0,_ => exact .inl rfl
 | 1,_ => exact .inr rfl
def cs (s : Int) : List Int := (List.range 8).map (cbit s)
theorem cs_len (s : Int) : (cs s).length = 8 := by simp [cs]
theorem cs_Bt (s : Int) : ∀ z ∈ cs s,Bt z := fun z hz => by
 simp only [cs,List.mem_map] at hz
 obtain ⟨i,_,rfl⟩ := hz
 exact cbit_Bt s i
theorem run0 (s : Int) (l : List (Bool × Int × Int)) : iter M3.s0 ⟨s,l,0,0,0,0,0,[],[]⟩ = some ⟨l,cs s,Wd (cs s)⟩ := by
 have hc := cs_len s
 have key := iter_count (step := M3.s0) (fun i => ⟨s,l,0,i,0,i,(i : Int),(cs s).take i,Wd ((cs s).take i)⟩) (y := ⟨l,cs s,Wd (cs s)⟩) 8 (fun i hi => by
  have hi' : i < (cs s).length := by omega
  have e1 : decide ((i : Int) < 8) = true := decide_eq_true (by omega)
  have e2 : decide (0 ≤ (i : Int)) = true := decide_eq_true (by omega)
  have e3 : IntKind.i64.wrap ((i : Int) + 1) = ((i + 1 : Nat) : Int) := suc (by omega)
  have e4 : (eqN 0 0 && eqN ((cs s).take i).length i && roomB (i + 1) 1) = true := by
   have h1 : eqN ((cs s).take i).length i = true := eqN_of (by simp; omega)
   have h2 : roomB (i + 1) 1 = true := by simp [roomB,leB]; omega
   rw [h1,h2]; rfl
  have e5 : (eqN 0 0 && eqN (Wd ((cs s).take i)).length i && roomB (i + 1) 24) = true := by
   have h1 : eqN (Wd ((cs s).take i)).length i = true := eqN_of (by simp [Wd]; omega)
   have h2 : roomB (i + 1) 24 = true := by simp [roomB,leB]; omega
   rw [h1,h2]; rfl
  have e6 : (cs s).take (i + 1) = (cs s).take i ++ [cbit s i] := by
   rw [List.take_succ_eq_append_getElem hi']
   simp [cs]
  have e7 : Wd ((cs s).take (i + 1)) = Wd ((cs s).take i) ++ [[cbit s i]] := by rw [e6]; simp [Wd]
  have e8 : IntKind.u8.wrap (IntKind.u16.wrap (↑(BitVec.ofInt 16 (s.fdiv (2 ^ min (i : Int).toNat 16)) &&& BitVec.ofInt 16 1).toNat : Int)) = cbit s i := by rw [Int.toNat_natCast]; rfl
  unfold M3.s0
  simp only [e1,e2,e3,e4,e5,e8,cond_true,e6]
  simp [Wd]) (by
  have e1 : (cs s).take 8 = cs s := List.take_of_length_le (by omega)
  have hw : (Wd (cs s)).length = 8 := by simp [Wd,hc]
  have e2 : List.take 8 (Wd (cs s)) = Wd (cs s) := List.take_of_length_le (by omega)
  have e3 : leB (0 + 8) (cs s).length = true := by rw [hc]; rfl
  have e4 : leB (0 + 8) (Wd (cs s)).length = true := by rw [hw]; rfl
  unfold M3.s0
  simp only [e1,e3,e4,List.drop_zero,e2]
  rfl)
 exact key
theorem iter_all {X Y A : Type} {step : X → Option (X ⊕ Y)} (S : Nat → A → X) (I : A → Prop) {y : Y} : ∀ n : Nat,(∀ i,i < n → ∀ a,I a → ∃ a',I a' ∧ step (S i a) = some (.inl (S (i + 1) a'))) → (∀ a,I a → step (S n a) = some (.inr y)) → ∀ a,I a → iter step (S 0 a) = some y := by
 have key : ∀ j i n : Nat,i + j = n → (∀ i,i < n → ∀ a,I a → ∃ a',I a' ∧ step (S i a) = some (.inl (S (i + 1) a'))) → (∀ a,I a → step (S n a) = some (.inr y)) → ∀ a,I a → iter step (S i a) = some y := by
   intro j
   induction j with
   | zero => intro i n hi _ he a ha; have e : i = n := by omega
             subst e; rw [iter_eq,he a ha]
   | succ j ih =>
     intro i n hi h he a ha
     obtain ⟨a',h1,h2⟩ := h i (by omega) a ha
     rw [iter_eq,h2]; exact ih (i + 1) n (by omega) h he a' h1
 exact fun n => key n 0 n (by omega)
theorem abits {a : Nat} (ha : a < 8) : [IntKind.u8.wrap (IntKind.i64.wrap (↑(BitVec.ofInt 64 (a : Int) &&& BitVec.ofInt 64 1).toNat : Int)),IntKind.u8.wrap (IntKind.i64.wrap (↑(BitVec.ofInt 64 ((a : Int).fdiv (2 ^ 1)) &&& BitVec.ofInt 64 1).toNat : Int)),IntKind.u8.wrap (IntKind.i64.wrap (↑(BitVec.ofInt 64 ((a : Int).fdiv (2 ^ 2)) &&& BitVec.ofInt 64 1).toNat : Int))] = bits a := by
 have h : a = 0 ∨ a = 1 ∨ a = 2 ∨ a = 3 ∨ a = 4 ∨ a = 5 ∨ a = 6 ∨ a = 7 := by omega
 rcases h with rfl | rfl | rfl | rfl | rfl | rfl | rfl | rfl <;> rfl
theorem tmod2 {v : Int} (h : 0 ≤ v) : Bt (Int.tmod v 2) := by
 have : Int.tmod v 2 = v % 2 := Int.tmod_eq_emod_of_nonneg h
 rw [this]; unfold Bt; omega
theorem tmod8 {v : Int} (h : 0 ≤ v) : ∃ a : Nat,a < 8 ∧ IntKind.i64.wrap (Int.tmod v 8) = (a : Int) := by
 have h1 : Int.tmod v 8 = v % 8 := Int.tmod_eq_emod_of_nonneg h
 refine ⟨(v % 8).toNat,by omega,?_⟩
 rw [h1,w64 (by omega) (by omega)]; omega
structure St (zs : List Int) : Prop where
 len : zs.length = 8
 bt : ∀ z ∈ zs,Bt z
theorem St.set {zs : List Int} (h : St zs) {a : Nat} {v : Int} (hv : Bt v) : St (zs.set a v) :=
 ⟨by simp [h.len],fun z hz => by
  rcases List.mem_or_eq_of_mem_set hz with h1 | h1
  ·exact h.bt z h1
  ·rw [h1]; exact hv⟩
theorem round {l : List (Bool × Int × Int)} (hp : ∀ p ∈ l,0 ≤ p.2.1 ∧ 0 ≤ p.2.2) (hl : l.length ≤ 60) {i : Nat} (hi : i < l.length) {zs : List Int} (h : St zs) :
  ∃ zs',St zs' ∧ M3.s1 ⟨l,Wd zs,(i : Int),0,0,0,0,8,true,zs⟩ = some (.inl ⟨l,Wd zs',((i + 1 : Nat) : Int),0,0,0,0,8,true,zs'⟩) := by
 have hq := hp _ (List.getElem_mem hi)
 have hv := tmod2 hq.2
 obtain ⟨a,ha,ea⟩ := tmod8 hq.1
 have e1 : decide ((i : Int) < (l.length : Int)) = true := decide_eq_true (by omega)
 have e2 : inR (i : Int) l.length = true := inR_nat hi
 have e3 : IntKind.i64.wrap ((i : Int) + 1) = ((i + 1 : Nat) : Int) := suc (by omega)
 have hb := abits ha
 cases hw : l[i].1 with
 | true =>
  have hS := h.set (a := a) hv
  refine ⟨_,hS,?_⟩
  have h6 := m6 h.len ha hv
  have h7 : M7.m ⟨Wd zs,bits a,[Int.tmod l[i].2.2 2],1⟩ = some (Wd (zs.set a (Int.tmod l[i].2.2 2))) := m7 h.len h.bt ha hv (.inr rfl)
  have h8 := m8 hS.len ha
  have h9 := m9 hS.len hS.bt ha
  have hwl : (Wd (zs.set a (Int.tmod l[i].2.2 2))).length = 8 := by simp [Wd,h.len]
  unfold M3.s1
  simp only [e1,e2,getD_at hi,hw,cond_true,ea,hb,h6,bindO,h7,h8,h9,hwl,e3]
  simp [inR]
 | false =>
  refine ⟨zs,h,?_⟩
  have h7 : M7.m ⟨Wd zs,bits a,[Int.tmod l[i].2.2 2],0⟩ = some (Wd zs) := m7 h.len h.bt ha hv (.inl rfl)
  have h8 := m8 h.len ha
  have h9 := m9 h.len h.bt ha
  have hwl : (Wd zs).length = 8 := by simp [Wd,h.len]
  unfold M3.s1
  simp only [e1,e2,getD_at hi,hw,cond_true,cond_false,ea,hb,bindO,h7,h8,h9,hwl,e3]
  simp [inR]
theorem run3 {s : Int} {l : List (Bool × Int × Int)} (hp : ∀ p ∈ l,0 ≤ p.2.1 ∧ 0 ≤ p.2.2) : M3.m ⟨s,l⟩ = some true := by
 unfold M3.m
 by_cases hl : l.length > 60
 ·have : decide ((l.length : Int) > 60) = true := decide_eq_true (by omega)
  simp only [this,cond_true,bindO]
 ·have e0 : decide ((l.length : Int) > 60) = false := decide_eq_false (by omega)
  have key := iter_all (step := M3.s1) (fun i zs => ⟨l,Wd zs,(i : Int),0,0,0,0,8,true,zs⟩) St (y := .inl ()) l.length (fun i hi zs h => round hp (by omega) hi h) (fun zs h => by
   unfold M3.s1
   simp) (cs s) ⟨cs_len s,cs_Bt s⟩
  have key' : iter M3.s1 ⟨l,Wd (cs s),0,0,0,0,0,8,true,cs s⟩ = some (.inl ()) := key
  simp only [e0,cond_false,run0,bindO,m5 (cs_len s) (cs_Bt s),key',sumC]
  rfl
end To
end Go.Proofs.YtogkpjhkpgdbkaaDoor
