/-
  The names of the classes: DefectsNames, walked by hand over the given library's laws of maps.
-/
import Derived.Test.YthchfbanjeiieaaNR8QNU1
import Derived.Test.YthchfbanjeiieaaNR8QMn
import Derived.Test.YthchfbanjeiieaaNR8QAbsY
import Derived.WalkKit
import Derived.BigCall
import Derived.Maps.OwnSet
set_option linter.all false
namespace Go.Proofs.Ythchfbanjeiieaa
open Go.RowKit Go.Maps Go.WideMaps
namespace Nm
structure Bel (B : Nat) (w w' : World) : Prop where
 os : w'.os = w.os
 out : w'.output = w.output
 size : w.heap.size ≤ w'.heap.size
 block : ∀ k,k < B → w'.heap[k]? = w.heap[k]?
theorem Bel.refl (B : Nat) (w : World) : Bel B w w := ⟨rfl,rfl,Nat.le_refl _,fun _ _ => rfl⟩
theorem Bel.trans {B : Nat} {w w1 w2 : World} (h : Bel B w w1) (h' : Bel B w1 w2) : Bel B w w2 := ⟨h'.os.trans h.os,h'.out.trans h.out,Nat.le_trans h.size h'.size,fun k hk => (h'.block k hk).trans (h.block k hk)⟩
theorem Bel.le {B B' : Nat} {w w' : World} (h : Bel B w w') (hB : B' ≤ B) : Bel B' w w' := ⟨h.os,h.out,h.size,fun k hk => h.block k (by omega)⟩
theorem Bel.grown {B b : Nat} {w w1 w2 : World} (h : Bel B w w1) (hg : w1.grownBy w2 (some b)) (hB : B ≤ w.heap.size) (hb : B ≤ b) : Bel B w w2 :=
 h.trans ⟨hg.os,hg.output,hg.size,fun k hk => hg.block k (Nat.lt_of_lt_of_le hk (Nat.le_trans hB h.size)) (fun e => by cases e; omega)⟩
theorem Bel.map {P : Program} {k : TypeId} {R : Value → Option (DataW Unit × List MemPlace)} {b n : Nat} {D : DataW Unit} {w w' : World} (h : Bel w.heap.size w w') (ho : w.ownsMap P k R b n D) : w'.ownsMap P k R b n D := by
 have hlt := ho.lt
 obtain ⟨es,clock,hb,F,hs,hD⟩ := ho
 exact ⟨es,clock,(h.block b hlt).trans hb,F,hs,hD⟩
open Go.Abs in
theorem calls_val {f : FuncId} {ts : List AV} {args : Array Value} {W : World} {v : AV} {cv : Value} (h : FnOk Try.prog f ts [] fun u σ' => u = v ∧ σ' = []) (ha : argsR noMap W ts args) (hcv : ∀ ι w u,VR ι w v u → u = cv) :
  Calls Try.prog f args W fun e W' => e = .returned cv ∧ Bel W.heap.size W W' := by
 rw [← callsIn_wide (n := 0)]
 refine CallsIn.mono (h.2 noMap W args (fun _ _ _ h => by cases h) (noMap_HR W) ha) ?_
 rintro e w' ⟨v',σ',ι',u,rfl,⟨rfl,rfl⟩,hv,_,hs⟩
 rw [hcv _ _ _ hv]
 exact ⟨rfl,hs.os,hs.out,hs.size,fun b hb => hs.frame b hb (noMap_un b)⟩
def nms : List (List UInt8) := [[83,116,117,99,107,65,116,48],[83,116,117,99,107,65,116,49],[78,111,82,105,115,101],[78,111,70,97,108,108],[73,110,118,101,114,116,82,105,115,101],[73,110,118,101,114,116,70,97,108,108],[82,105,115,101,48],[82,105,115,101,49],[70,97,108,108,48],[70,97,108,108,49],[72,111,108,100,48,48],[72,111,108,100,48,49],[72,111,108,100,49,48],[72,111,108,100,49,49],[78,111,67,101,108,108,48],[78,111,67,101,108,108,49],[87,114,111,110,103],[66,111,116,104,65,110,100],[66,111,116,104,79,114]]
def nm (c : Int) : List UInt8 := if 19 ≤ c then [63] else nms[c.toNat]?.getD []
def iv (c : Int) : Int := if 19 ≤ c then c else ([1,0,3,2,5,4,9,8,7,6,13,12,11,10,15,14,16,18,17] : List Int)[c.toNat]?.getD 0
def Dk : Nat → DataW Unit
 | 0 => .map []
 | k + 1 => (Dk k).put (.string (nm k)) (.lit (.bool true))
theorem law9 : Keyed Try.prog 9 := string_keyed Try.underlying9
theorem zero4 (w : World) : (zeroValue 4).run Try.prog w = .ok (.bool false) w := by kernel_rfl
theorem und61 : Try.prog.underlying 61 = some (.map 9 4) := by kernel_rfl
theorem key_ok (k : Nat) (hk : k < 19) : keyOf Try.prog 9 (.string ⟨(nm k).toArray⟩) = some (.string (nm k)) := by
 have h := keyOf_string_mk (s := ⟨(nm k).toArray⟩) Try.underlying9 (by
  have : (nm k).length ≤ 100 := by
   revert k
   decide
  show (nm k).toArray.size ≤ _
  simp [maxLen]; omega)
 simpa using h
theorem seen_no : ∀ k,k < 19 → (Dk k).atKey (.string (nm k)) (.lit (.bool false)) = .lit (.bool false) := by
 intro k hk
 have : k = 0 ∨ k = 1 ∨ k = 2 ∨ k = 3 ∨ k = 4 ∨ k = 5 ∨ k = 6 ∨ k = 7 ∨ k = 8 ∨ k = 9 ∨ k = 10 ∨ k = 11 ∨ k = 12 ∨ k = 13 ∨ k = 14 ∨ k = 15 ∨ k = 16 ∨ k = 17 ∨ k = 18 := by omega
 rcases this with rfl | rfl | rfl | rfl | rfl | rfl | rfl | rfl | rfl | rfl | rfl | rfl | rfl | rfl | rfl | rfl | rfl | rfl | rfl <;> rfl
theorem cases19 {Q : Nat → Prop} (h0 : Q 0) (h1 : Q 1) (h2 : Q 2) (h3 : Q 3) (h4 : Q 4) (h5 : Q 5) (h6 : Q 6) (h7 : Q 7) (h8 : Q 8) (h9 : Q 9) (h10 : Q 10) (h11 : Q 11) (h12 : Q 12) (h13 : Q 13) (h14 : Q 14) (h15 : Q 15) (h16 : Q 16) (h17 : Q 17) (h18 : Q 18) (k : Nat) (hk : k < 19) : Q k := by
 have : k = 0 ∨ k = 1 ∨ k = 2 ∨ k = 3 ∨ k = 4 ∨ k = 5 ∨ k = 6 ∨ k = 7 ∨ k = 8 ∨ k = 9 ∨ k = 10 ∨ k = 11 ∨ k = 12 ∨ k = 13 ∨ k = 14 ∨ k = 15 ∨ k = 16 ∨ k = 17 ∨ k = 18 := by omega
 rcases this with rfl | rfl | rfl | rfl | rfl | rfl | rfl | rfl | rfl | rfl | rfl | rfl | rfl | rfl | rfl | rfl | rfl | rfl | rfl <;> assumption
theorem name_ne (k : Nat) (hk : k < 19) : nm (k : Int) ≠ [] := by
 revert k
 decide
theorem name_q (k : Nat) (hk : k < 19) : nm (k : Int) ≠ [63] := by
 revert k
 decide
theorem inv_lt (k : Nat) (hk : k < 19) : 0 ≤ iv (k : Int) ∧ iv (k : Int) ≤ 255 := by
 revert k
 decide
theorem inv_inv (k : Nat) (hk : k < 19) : iv (iv (k : Int)) = k := by
 revert k
 decide
theorem all_no (k : Nat) (hk : k < 19) : (((nm (k : Int)).isEmpty = true ∨ (nm (k : Int) == [63]) = true) ∨ (!(iv (k : Int) == (k : Int)) == ((k : Int) == 16)) = true) = False := by
 revert k
 have : ∀ k : Nat,k < 19 → ¬ (((nm (k : Int)).isEmpty = true ∨ (nm (k : Int) == [63]) = true) ∨ (!(iv (k : Int) == (k : Int)) == ((k : Int) == 16)) = true) := by decide
 exact fun k hk => eq_false (this k hk)
theorem bool_inv {v : Value} {ps : List MemPlace} {x : Bool} (h : plainElem (H := Unit) Try.prog 4 v = some (.lit (.bool x),ps)) : v = .bool x := by
 unfold plainElem at h
 rw [Try.underlying4] at h
 cases v <;> simp at h
 rw [h.1]
set_option maxHeartbeats 4000000 in
set_option maxRecDepth 1000000 in
theorem names_walk (c : Int) (w : World)
  (hname : ∀ (x : Int) w1,0 ≤ x → x ≤ 255 → Calls Try.prog 25 #[.int .u8 x] w1 fun e w' => e = .returned (.string ⟨(nm x).toArray⟩) ∧ Bel w1.heap.size w1 w')
  (hinv : ∀ (x : Int) w1,0 ≤ x → x ≤ 255 → Calls Try.prog 23 #[.int .u8 x] w1 fun e w' => e = .returned (.int .u8 (iv x)) ∧ Bel w1.heap.size w1 w')
  (hliv : ∀ w1,Calls Try.prog 9 #[] w1 fun e w' => e = .returned (.bool true) ∧ Bel w1.heap.size w1 w') (h0 : 0 ≤ c) (h1 : c ≤ 255) :
  Calls Try.prog 8 #[.int .u8 c] w fun e w' => e = .returned (.bool true) ∧ Bel w.heap.size w w' := by
 have hmm := @run_makeMap Try.prog
 go_enter Try.func8,Try.ntmps8
 go_wp2
 go_loopw [4] (fun i wr => ∃ k : Nat,k ≤ 19 ∧ i = .int .i64 k ∧ wr.ownsMap Try.prog 9 (plainElem (H := Unit) Try.prog 4) w.heap.size k (Dk k) ∧ Bel w.heap.size w wr)
  (fun i _ => 19 - (intOf i).toNat)
 case atStart =>
  have hB : Below w.heap.size w (w.alloc (.map #[] 0)) := (Below.refl _ _).alloc (Nat.le_refl _) _
  exact ⟨0,Nat.zero_le _,rfl,World.ownsMap_made _ _ _ _,hB.os,hB.output,hB.size,hB.block⟩
 case round =>
  obtain ⟨k,hk,rfl,hown,hnx⟩ := hrel
  have hsz := hnx.size
  by_cases hlt : k < 19
  ·have hnm := hname (k : Int)
   go_wp2_with (go_at_call 25; refine (hname _ _ (by omega) (by omega)).mono ?_)
   rintro e w1 ⟨rfl,hb1⟩
   have hown1 := hb1.map hown
   have hkey := key_ok k hlt
   have hne : nm (k : Int) ≠ [] := name_ne k hlt
   have hq : nm (k : Int) ≠ [63] := name_q k hlt
   obtain ⟨v,ps,hrun,hv⟩ := hown1.lookup law9 und61 (zero4 _) (plainElem_bool (H := Unit) Try.underlying4 false) hkey
   rw [seen_no k hlt] at hv
   obtain rfl := bool_inv hv
   go_wp2_with (go_at_call 23; refine (hinv _ _ (by omega) (by omega)).mono ?_)
   rintro e w2 ⟨rfl,hb2⟩
   have hi := inv_lt k hlt
   go_wp2_with (go_at_call 23; refine (hinv _ _ (by omega) (by omega)).mono ?_)
   rintro e w3 ⟨rfl,hb3⟩
   have hii := inv_inv k hlt
   rw [hii]
   go_wp2_with (go_at_call 23; refine (hinv _ _ (by omega) (by omega)).mono ?_)
   rintro e w4 ⟨rfl,hb4⟩
   have hown4 := hb4.map (hb3.map (hb2.map hown1))
   have hB4 : Bel w.heap.size w w4 := (((hnx.trans (hb1.le hsz)).trans (hb2.le (Nat.le_trans hsz hb1.size))).trans (hb3.le (Nat.le_trans hsz (Nat.le_trans hb1.size hb2.size)))).trans (hb4.le (Nat.le_trans hsz (Nat.le_trans hb1.size (Nat.le_trans hb2.size hb3.size))))
   have hall := all_no k hlt
   clear hrun hown hown1 hb1 hb2 hb3 hb4
   go_wp2_with (first
    | (at_mapUpdate; refine wpList_mapUpdate_own _ rfl _ _ _ 61 rfl 9 4 law9 und61 (plainElem (H := Unit) Try.prog 4) w.heap.size k _ rfl hown4 (by unfold maxLen; omega) _ _ _ rfl rfl hkey _ [] (plainElem_bool Try.underlying4 true) ?_; intro w5 hown5 hgrow5)
    | go_in)
   ·have h := ‹_ ∨ _›
    rw [hall] at h
    exact h.elim
   ·go_roundw
    case rel => exact ⟨k + 1,by omega,by go_num,hown5,hB4.grown hgrow5 (Nat.le_refl _) (Nat.le_refl _)⟩
    case measure => simp [intOf]; omega
  ·have : k = 19 := by omega
   subst this
   go_wp2_with (first
    | (go_at_call 25; refine (hname _ _ (by omega) (by omega)).mono ?_)
    | (go_at_call 9; refine (hliv _).mono ?_)
    | go_in)
   ·have hc : 19 ≤ c := by have := ‹18 < c›; omega
    have hn : nm c = [63] := by unfold nm; rw [if_pos hc]
    have hv : iv c = c := by unfold iv; rw [if_pos hc]
    rintro e wa ⟨rfl,hba⟩
    rw [hn]
    go_wp2_with (go_at_call 23; refine (hinv _ _ (by omega) (by omega)).mono ?_)
    rintro e wb ⟨rfl,hbb⟩
    rw [hv]
    go_wp2_with (go_at_call 9; refine (hliv _).mono ?_)
    rintro e wc ⟨rfl,hbc⟩
    go_wp2
    go_ret
    exact ⟨rfl,((hnx.trans (hba.le hsz)).trans (hbb.le (Nat.le_trans hsz hba.size))).trans (hbc.le (Nat.le_trans hsz (Nat.le_trans hba.size hbb.size)))⟩
   ·rintro e wa ⟨rfl,hba⟩
    go_wp2
    go_ret
    exact ⟨rfl,hnx.trans (hba.le hsz)⟩
theorem w64 {x : Int} (h : -9223372036854775808 ≤ x) (h' : x ≤ 9223372036854775807) : IntKind.i64.wrap x = x := by
 simp [IntKind.wrap,IntKind.signed,IntKind.bits]; omega
open Go.Abs in
theorem name_val {x : Int} (h0 : 0 ≤ x) (h1 : x ≤ 255) : F25.m ⟨x⟩ = some (nm x) := by
 have ew : IntKind.i64.wrap x = x := w64 (by omega) (by omega)
 unfold F25.m nm
 simp only [ew]
 by_cases h : 19 ≤ x
 ·have e : decide (x ≥ (↑19 : Int)) = true := decide_eq_true h
  rw [if_pos h,e]; rfl
 ·have e : decide (x ≥ (↑19 : Int)) = false := decide_eq_false h
  have e2 : inR x 19 = true := by simp [inR]; omega
  rw [if_neg h,e,cond_false,e2]; rfl
theorem inv_val {x : Int} (h0 : 0 ≤ x) (h1 : x ≤ 255) : F23.m ⟨x⟩ = some (iv x) := by
 by_cases h : 19 ≤ x
 ·have e : ∀ n : Int,n < 19 → (x == n) = false := fun n hn => by simp; omega
  have e2 : decide (x ≥ (19 : Int)) = true := decide_eq_true h
  unfold F23.m iv
  simp only [e 6 (by decide),e 7 (by decide),e 8 (by decide),e 9 (by decide),e 10 (by decide),e 11 (by decide),e 12 (by decide),e 13 (by decide),e 16 (by decide),e 17 (by decide),e 18 (by decide),cond_false,e2,cond_true,if_pos h]
 ·obtain ⟨k,rfl⟩ := Int.eq_ofNat_of_zero_le h0
  have hk : k < 19 := by omega
  exact cases19 (Q := fun k => F23.m ⟨(k : Int)⟩ = some (iv (k : Int))) rfl rfl rfl rfl rfl rfl rfl rfl rfl rfl rfl rfl rfl rfl rfl rfl rfl rfl rfl k hk
open Go.Abs in
theorem arg_u8 (x : Int) (W : World) : argsR noMap W [.c (.t (.int .u8 x))] #[.int .u8 x] := ⟨rfl,fun i hi => by
 match i,hi with
 | 0,_ => exact ⟨_,rfl,TR.int .u8 x⟩⟩
open Go.Abs in
theorem arg_no (W : World) : argsR noMap W [] #[] := ⟨rfl,fun i hi => absurd hi (Nat.not_lt_zero i)⟩
theorem names (c : Int) (w : World) (h0 : 0 ≤ c) (h1 : c ≤ 255) : Calls Try.prog 8 #[.int .u8 c] w fun e w' => e = .returned (.bool true) ∧ Bel w.heap.size w w' :=
 names_walk c w (fun x w1 h0 h1 => calls_val (F25.known.ok ⟨x⟩ _ (name_val h0 h1)) (arg_u8 x w1) (fun _ _ _ h => by cases h; rfl))
  (fun x w1 h0 h1 => calls_val (F23.known.ok ⟨x⟩ _ (inv_val h0 h1)) (arg_u8 x w1) (fun _ _ _ h => by cases h; rfl))
  (fun w1 => calls_val F9.ok0 (arg_no w1) (fun _ _ _ h => by cases h; rfl)) h0 h1
end Nm
end Go.Proofs.Ythchfbanjeiieaa
