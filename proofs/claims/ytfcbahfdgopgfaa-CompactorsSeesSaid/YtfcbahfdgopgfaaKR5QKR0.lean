/-
  Rows of a compactor and of slices.
-/
import Derived.Test.YtfcbahfdgopgfaaKR5QMq
import Derived.Test.YtfcbahfdgopgfaaKR5QSyL
import Derived.Test.YtfcbahfdgopgfaaKR5QAbsY
set_option linter.unusedSimpArgs false
set_option linter.unusedVariables false
namespace Go.Proofs.Ytfcbahfdgopgfaa
open Go.ChangeShapes Go.WideShapes Go.ChangeAt Go.RowKit
open Go.Abs

theorem Try.own : ownKnob Try.prog.godebug = none := by kernel_rfl
theorem Try.laidOut : laidOutB Try.prog = true := by kernel_rfl
abbrev kL : Ly := .pair (.int .u8) (.sl (.int .u32))
abbrev sL : Ly := .pair (.sl (.int .u8)) (.pair (.sl (.int .u8)) (.int .u64))
theorem kO : TyO Try.prog kL 24 := tyB_ok (n := 5) (by kernel_rfl)
theorem sO : TyO Try.prog sL 28 := tyB_ok (n := 5) (by kernel_rfl)
theorem kS : ∃ fs, Try.prog.underlying 24 = some (.struct fs) := isSt_yes (by kernel_rfl)
theorem sS : ∃ fs, Try.prog.underlying 28 = some (.struct fs) := isSt_yes (by kernel_rfl)
theorem wf_u32 {n : Int} (h : (Lit.int .u32 n).wf = true) : 0 ≤ n ∧ n ≤ 4294967295 := by
  simp [Lit.wf, IntKind.has, IntKind.min, IntKind.max, IntKind.signed, IntKind.bits] at h
  omega
theorem wf_u64 {n : Int} (h : (Lit.int .u64 n).wf = true) : 0 ≤ n ∧ n < 18446744073709551616 := by
  simp [Lit.wf, IntKind.has, IntKind.min, IntKind.max, IntKind.signed, IntKind.bits] at h
  omega
theorem in_u8 {l : List Int} (h : ∀ x ∈ l, (Lit.int .u8 x).wf = true) (i : Nat) : 0 ≤ Pl.at0 l i := by
  unfold Pl.at0
  by_cases g : i < l.length
  · rw [List.getElem?_eq_getElem g]; exact (wf_u8 (h _ (List.getElem_mem g))).1
  · rw [List.getElem?_eq_none (by omega)]; exact Int.le_refl _
theorem in_u32 {l : List Int} (h : ∀ x ∈ l, (Lit.int .u32 x).wf = true) (i : Nat) : 0 ≤ Pl.at0 l i ∧ Pl.at0 l i < 4294967296 := by
  unfold Pl.at0
  by_cases g : i < l.length
  · rw [List.getElem?_eq_getElem g]
    have := wf_u32 (h _ (List.getElem_mem g))
    show 0 ≤ l[i] ∧ l[i] < 4294967296
    omega
  · rw [List.getElem?_eq_none (by omega)]; exact ⟨Int.le_refl _, by decide⟩

/-- a law of a compactor and of slices -/
theorem comp_slices {H : Type} {enc : TypeId × Value → H} {W : World} {args : Array Value} {ds : List (DataW H)} {p : List MemPlace}
    (hA : DataW.TrodAll enc Try.prog W 0 (fun _ => true) true [24, 28] args.toList ds p) (hval : ∀ (j : Nat) t v, #[(24 : TypeId), 28][j]? = some t → args[j]? = some v → Value.okWide Try.prog W .any 0 t v) :
    ∃ (x : kL.ty) (y : sL.ty), (∃ d0 d1, ds = [d0, d1]) ∧ kL.inr x ∧ sL.inr y ∧ argsR noMap W [.agg ((kL.trees x).map Cell.t), .agg ((sL.trees y).map Cell.t)] args := by
  obtain ⟨v0, v1, d0, d1, p0, p1, rfl, rfl, rfl, h0, h1⟩ := trodAll_two hA
  obtain ⟨x, hx, h2⟩ := arg_agg kS kO (hval 0 24 v0 rfl rfl) h0
  obtain ⟨y, hy, h3⟩ := arg_agg sS sO (hval 1 28 v1 rfl rfl) h1
  exact ⟨x, y, ⟨d0, d1, rfl⟩, hx, hy, argsR2 h2 h3⟩
end Go.Proofs.Ytfcbahfdgopgfaa
