/-
  What the proof stands on.
-/
import Derived.Test.YtcnlccpihknehaaDoorMT6QMu
import Derived.Test.YtcnlccpihknehaaDoorLSyJ
set_option linter.all false
namespace Go.Proofs.YtcnlccpihknehaaDoor
open Go.Abs
namespace Pl
theorem w8 {x : Int} (h : 0 ≤ x) (h' : x ≤ 255) : IntKind.u8.wrap x = x := by
 simp [IntKind.wrap,IntKind.signed,IntKind.bits]; omega
theorem w64 {x : Int} (h : -9223372036854775808 ≤ x) (h' : x ≤ 9223372036854775807) : IntKind.i64.wrap x = x := by
 simp [IntKind.wrap,IntKind.signed,IntKind.bits]; omega
theorem inR_nat {i n : Nat} (h : i < n) : inR (i : Int) n = true := by simp [inR]; omega
def sing (c : Int) : Bool := decide (c ≤ 3) || decide (c = 14) || decide (c = 15)
def at0 (c : List Int) (i : Nat) : Int := c[i]?.getD 0
def hold (k : Int) (p q : Nat) (c : List Int) : List Int := if 10 ≤ k ∧ k ≤ 13 ∧ at0 c q = (k - 10) / 2 then c.set p ((k - 10) % 2) else c
def couple (k : Int) (p : Nat) (c : List Int) (v : Int) : List Int := if k = 4 ∧ v = 1 ∨ k = 5 ∧ v = 0 then c.set p (1 - at0 c p) else if (k = 6 ∨ k = 7) ∧ v = 1 then c.set p (k - 6) else if (k = 8 ∨ k = 9) ∧ v = 0 then c.set p (k - 8) else c
def st (k : Int) (p q : Nat) (c : List Int) (x : Nat) (v : Int) : List Int := if x = p ∧ (k ≤ 1 ∨ k = 2 ∧ v = 1 ∨ k = 3 ∧ v = 0) then c else hold k p q (if x = q ∧ v ≠ at0 c x ∧ sing k = false then couple k p (c.set x v) v else c.set x v)
def Bin (c : List Int) : Prop := ∀ i,at0 c i = 0 ∨ at0 c i = 1
def Bit (v : Int) : Prop := v = 0 ∨ v = 1
theorem Bit.at {c : List Int} (h : Bin c) (i : Nat) : Bit (at0 c i) := h i
theorem at_set (c : List Int) (i j : Nat) (v : Int) : at0 (c.set i v) j = if i = j ∧ j < c.length then v else at0 c j := by
 unfold at0
 rw [List.getElem?_set]
 by_cases h : i = j
 · subst h
   by_cases h2 : i < c.length
   · simp [h2]
   · simp [h2]
 · simp [h]
theorem Bin.set {c : List Int} (h : Bin c) {v : Int} (hv : Bit v) (i : Nat) : Bin (c.set i v) := fun j => by
 rw [at_set]; split
 · exact hv
 · exact h j
theorem Bit.inv {v : Int} (h : Bit v) : Bit (1 - v) := by rcases h with h | h <;> subst h <;> unfold Bit <;> omega
theorem couple_bin {k : Int} {p : Nat} {c : List Int} {v : Int} (h : Bin c) : Bin (couple k p c v) := by
 unfold couple
 split
 · exact h.set (Bit.inv (h p)) p
 · split
   · rename_i h1; exact h.set (by unfold Bit; omega) p
   · split
     · rename_i h1; exact h.set (by unfold Bit; omega) p
     · exact h
theorem hold_bin {k : Int} {p q : Nat} {c : List Int} (h : Bin c) : Bin (hold k p q c) := by
 unfold hold
 split
 · exact h.set (by unfold Bit; omega) p
 · exact h
theorem couple_len (k : Int) (p : Nat) (c : List Int) (v : Int) : (couple k p c v).length = c.length := by
 unfold couple; repeat' split
 all_goals simp
theorem hold_len (k : Int) (p q : Nat) (c : List Int) : (hold k p q c).length = c.length := by
 unfold hold; split <;> simp
theorem st_len (k : Int) (p q : Nat) (c : List Int) (x : Nat) (v : Int) : (st k p q c x v).length = c.length := by
 unfold st; repeat' split
 all_goals simp [hold_len,couple_len]
theorem st_bin {k : Int} {p q : Nat} {c : List Int} {x : Nat} {v : Int} (h : Bin c) (hv : Bit v) : Bin (st k p q c x v) := by
 unfold st; split
 · exact h
 · refine hold_bin ?_
   split
   · exact couple_bin (h.set hv x)
   · exact h.set hv x
end Pl
end Go.Proofs.YtcnlccpihknehaaDoor
namespace Go.Proofs.YtcnlccpihknehaaDoor
open Go.Abs
namespace Pl
structure Ok (b : Bool) (k : Int) (p q n : Nat) : Prop where
 lo : 0 ≤ k
 hi : k ≤ 18
 pl : p < n
 ql : q < n
 ne : b = false → sing k = false → q ≠ p
 size : n ≤ 1024
def sto (b : Bool) (k : Int) (p q : Nat) (c : List Int) (x : Nat) (v : Int) : List Int := if b = true then c.set x v else st k p q c x v
def accs (b : Bool) (k : Int) (p q a : Nat) : List Nat := if b = false ∧ a = p then (if k = 14 ∨ k = 15 then [] else if k = 16 then [q] else if k = 17 ∨ k = 18 then [p,q] else [a]) else [a]
def wrt (b : Bool) (k : Int) (p q : Nat) (c : List Int) (a : Nat) (v : Int) : List Int := (accs b k p q a).foldl (fun c x => sto b k p q c x v) c
def rdv (b : Bool) (k : Int) (p q : Nat) (c : List Int) (a : Nat) : Int := if b = false ∧ a = p then (if k = 14 ∨ k = 15 then k - 14 else if k = 16 then at0 c q else if k = 17 then at0 c p * at0 c q else if k = 18 then (if at0 c q > at0 c p then at0 c q else at0 c p) else at0 c a) else at0 c a
theorem sto_len (b : Bool) (k : Int) (p q : Nat) (c : List Int) (x : Nat) (v : Int) : (sto b k p q c x v).length = c.length := by
 unfold sto; split <;> simp [st_len]
theorem sto_bin {b : Bool} {k : Int} {p q : Nat} {c : List Int} {x : Nat} {v : Int} (h : Bin c) (hv : Bit v) : Bin (sto b k p q c x v) := by
 unfold sto; split
 · exact h.set hv x
 · exact st_bin h hv
theorem fold_ok {b : Bool} {k : Int} {p q : Nat} {v : Int} (hv : Bit v) : ∀ (l : List Nat) {c : List Int},Bin c → Bin (l.foldl (fun c x => sto b k p q c x v) c) ∧ (l.foldl (fun c x => sto b k p q c x v) c).length = c.length
 | [],c,h => ⟨h,rfl⟩
 | x :: l,c,h => by
   have := fold_ok (b := b) (k := k) (p := p) (q := q) hv l (sto_bin (b := b) (k := k) (p := p) (q := q) (x := x) h hv)
   exact ⟨this.1,this.2.trans (sto_len ..)⟩
theorem wrt_bin {b : Bool} {k : Int} {p q a : Nat} {c : List Int} {v : Int} (h : Bin c) (hv : Bit v) : Bin (wrt b k p q c a v) := (fold_ok hv _ h).1
theorem wrt_len {b : Bool} {k : Int} {p q a : Nat} {c : List Int} {v : Int} (h : Bin c) (hv : Bit v) : (wrt b k p q c a v).length = c.length := (fold_ok hv _ h).2
section
variable {b : Bool} {k : Int} {p q n : Nat} (ok : Ok b k p q n)
include ok
end
end Pl
end Go.Proofs.YtcnlccpihknehaaDoor
namespace Go.Proofs.YtcnlccpihknehaaDoor
open Go.Abs
namespace Pl
def bitAt (start : Int) (i : Nat) : Int := IntKind.u8.wrap (IntKind.u16.wrap ((BitVec.ofInt 16 (start.fdiv (2 ^ min i 16)) &&& BitVec.ofInt 16 1).toNat : Int))
def content (start : Int) (n : Nat) : List Int := (List.range n).map (bitAt start)
structure OkD (b : Bool) (k : Int) (p q n : Nat) : Prop extends Ok b k p q n where
 sg : sing k = true → q = 0
 no : b = true → k = 0 ∧ p = 0 ∧ q = 0
def ini (b : Bool) (k : Int) (p q : Nat) (c : List Int) : List Int := if b = true then c else hold k p q (if k ≤ 1 then c.set p k else c)
theorem ini_len (b : Bool) (k : Int) (p q : Nat) (c : List Int) : (ini b k p q c).length = c.length := by
 unfold ini; repeat' split
 all_goals simp [hold_len]
theorem ini_bin {b : Bool} {k : Int} {p q : Nat} {c : List Int} (h0 : 0 ≤ k) (h : Bin c) : Bin (ini b k p q c) := by
 unfold ini; repeat' split
 · exact h
 · exact hold_bin (h.set (by unfold Bit; omega) p)
 · exact hold_bin h
end Pl
end Go.Proofs.YtcnlccpihknehaaDoor
namespace Go.Proofs.YtcnlccpihknehaaDoor
open Go.Abs
namespace Pl
theorem hold_at {k : Int} {p q j : Nat} {c : List Int} (h : j ≠ p) : at0 (hold k p q c) j = at0 c j := by
 unfold hold; split
 · rw [at_set,if_neg (by omega)]
 · rfl
theorem couple_at {k : Int} {p j : Nat} {c : List Int} {v : Int} (h : j ≠ p) : at0 (couple k p c v) j = at0 c j := by
 unfold couple; repeat' split
 all_goals first | rfl | rw [at_set,if_neg (by omega)]
theorem st_at {k : Int} {p q x j : Nat} {c : List Int} {v : Int} (h : j ≠ p) (hj : j < c.length) : at0 (st k p q c x v) j = if x = j then v else at0 c j := by
 unfold st; split
 · rw [if_neg (by omega)]
 · rw [hold_at h]
   split
   · rw [couple_at h,at_set]; simp [hj]
   · rw [at_set]; simp [hj]
def far (b : Bool) (k : Int) (p q j : Nat) : Prop := b = true ∨ j ≠ p ∧ (sing k = true ∨ j ≠ q)
theorem wrt_at {b : Bool} {k : Int} {p q a j : Nat} {c : List Int} {v : Int} (hf : far b k p q j) (hj : j < c.length) : at0 (wrt b k p q c a v) j = if a = j then v else at0 c j := by
 unfold wrt accs
 cases b with
 | true => simp [sto,at_set,hj]
 | false =>
   rcases hf with h | ⟨h1,h2⟩
   · cases h
   · by_cases ha : a = p
     · subst ha
       have hne : ¬ a = j := by omega
       simp only [true_and,if_true]
       have len1 : ∀ x,j < (st k a q c x v).length := fun x => (st_len ..).symm ▸ hj
       split
       · simp [hne]
       · split
         · rename_i e
           have hq : ¬ q = j := by
             rcases h2 with h | h
             · rw [e] at h; exact absurd h (by decide)
             · exact Ne.symm h
           simp [sto,st_at h1 hj,hne,hq]
         · split
           · rename_i e
             have hq : ¬ q = j := by
               rcases h2 with h | h
               · rcases e with e | e <;> (rw [e] at h; exact absurd h (by decide))
               · exact Ne.symm h
             simp [sto,st_at h1 hj,st_at h1 (len1 _),hne,hq]
           · simp [sto,st_at h1 hj,hne]
     · simp [ha,sto,st_at h1 hj]
theorem rdv_at {b : Bool} {k : Int} {p q j : Nat} {c : List Int} (hf : far b k p q j) : rdv b k p q c j = at0 c j := by
 unfold rdv
 rw [if_neg]
 rintro ⟨rfl,rfl⟩
 rcases hf with h | ⟨h,_⟩
 · cases h
 · exact h rfl
end Pl
end Go.Proofs.YtcnlccpihknehaaDoor
namespace Go.Proofs.YtcnlccpihknehaaDoor
open Go.Abs
namespace Pl
end Pl
end Go.Proofs.YtcnlccpihknehaaDoor
