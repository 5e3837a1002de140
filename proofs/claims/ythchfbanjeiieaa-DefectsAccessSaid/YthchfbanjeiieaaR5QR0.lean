/-
  Rows of a case and of accesses.
-/
import Derived.Test.YthchfbanjeiieaaR5QMp
import Derived.Test.YthchfbanjeiieaaR5QSyL
set_option linter.unusedSimpArgs false
set_option linter.unusedVariables false
namespace Go.Proofs.Ythchfbanjeiieaa
open Go.ChangeShapes Go.WideShapes Go.ChangeAt Go.RowKit
open Go.Abs

theorem Try.own : ownKnob Try.prog.godebug = none := by kernel_rfl
theorem Try.laidOut : laidOutB Try.prog = true := by kernel_rfl
abbrev caseL : Ly := .pair (.int .u8) (.pair (.int .u16) (.pair (.int .u8) (.pair (.int .u8) (.int .u8))))
abbrev actsL : Ly := .sl (.pair .bool (.pair (.int .u8) (.int .u8)))
theorem caseO : TyO Try.prog caseL 24 := tyB_ok (n := 5) (by kernel_rfl)
theorem actsO : TyO Try.prog actsL 25 := tyB_ok (n := 5) (by kernel_rfl)
theorem caseS : ∃ fs, Try.prog.underlying 24 = some (.struct fs) := isSt_yes (by kernel_rfl)
theorem actsS : ∀ fs, Try.prog.underlying 25 ≠ some (.struct fs) := isSt_no (by kernel_rfl)

/-- a law of a case and of accesses -/
theorem case_acts {H : Type} {enc : TypeId × Value → H} {W : World} {args : Array Value} {ds : List (DataW H)} {p : List MemPlace}
    (hA : DataW.TrodAll enc Try.prog W 0 (fun _ => true) true [24, 25] args.toList ds p) (hval : ∀ (j : Nat) t v, #[(24 : TypeId), 25][j]? = some t → args[j]? = some v → Value.okWide Try.prog W .any 0 t v) :
    ∃ (x : caseL.ty) (l : actsL.ty), (∃ d0 d1, ds = [d0, d1]) ∧ caseL.inr x ∧ actsL.inr l ∧ argsR noMap W [.agg ((caseL.trees x).map Cell.t), .c (.t (.imm (l.flatMap (Ly.pair .bool (.pair (.int .u8) (.int .u8))).trees) l.length none))] args := by
  obtain ⟨v0, v1, d0, d1, p0, p1, rfl, rfl, rfl, h0, h1⟩ := trodAll_two hA
  obtain ⟨x, hx, h2⟩ := arg_agg caseS caseO (hval 0 24 v0 rfl rfl) h0
  obtain ⟨l, hl, tr, h3, h4⟩ := arg_one actsS actsO (hval 1 25 v1 rfl rfl) h1
  refine ⟨x, l, ⟨d0, d1, rfl⟩, hx, hl, argsR2 h2 ?_⟩
  have e : tr = T.imm (l.flatMap (Ly.pair .bool (.pair (.int .u8) (.int .u8))).trees) l.length none := by
    have : actsL.trees l = [T.imm (l.flatMap (Ly.pair .bool (.pair (.int .u8) (.int .u8))).trees) l.length none] := rfl
    rw [this] at h3
    exact (List.cons.inj h3).1.symm
  rw [← e]; exact h4
theorem acts_ok {l : actsL.ty} (h : actsL.inr l) : ∀ t ∈ (l : List (Bool × Int × Int)), Pl.ActOk t := fun t ht => ⟨wf_u8 (h.2 t ht).2.1, wf_u8 (h.2 t ht).2.2⟩
end Go.Proofs.Ythchfbanjeiieaa
