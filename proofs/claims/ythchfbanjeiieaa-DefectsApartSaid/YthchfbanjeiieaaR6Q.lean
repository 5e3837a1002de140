/-
  DefectsApart answers true for every input, leaves the input as it is, and never panics; there is no condition.
-/
import Derived.Test.YthchfbanjeiieaaR6QMp
import Derived.Test.YthchfbanjeiieaaR6QSyL
/-
  The row DefectsApart.
-/
set_option linter.unusedSimpArgs false
set_option linter.unusedVariables false
namespace Go.Proofs.Ythchfbanjeiieaa
open Go.ChangeShapes Go.WideShapes Go.ChangeAt Go.RowKit
open Go.Abs

theorem Try.own : ownKnob Try.prog.godebug = none := by kernel_rfl
theorem Try.laidOut : laidOutB Try.prog = true := by kernel_rfl
abbrev caseL : Ly := .pair (.int .u8) (.pair (.int .u16) (.pair (.int .u8) (.pair (.int .u8) (.int .u8))))
abbrev actsL : Ly := .sl (.pair .bool (.pair (.int .u8) (.int .u8)))
theorem caseO : TyO Try.prog caseL 24 := tyB_ok (n := 5) (by kernel_rfl)
theorem actsO : TyO Try.prog actsL 25 := tyB_ok (n := 5) (by kernel_rfl)
theorem caseS : ∃ fs, Try.prog.underlying 24 = some (.struct fs) := isSt_yes (by kernel_rfl)
theorem actsS : ∀ fs, Try.prog.underlying 25 ≠ some (.struct fs) := isSt_no (by kernel_rfl)

/-- a law of a case and of accesses -/
theorem case_acts {H : Type} {enc : TypeId × Value → H} {W : World} {args : Array Value} {ds : List (DataW H)} {p : List MemPlace}
    (hA : DataW.TrodAll enc Try.prog W 0 (fun _ => true) true [24, 25] args.toList ds p) (hval : ∀ (j : Nat) t v, #[(24 : TypeId), 25][j]? = some t → args[j]? = some v → Value.okWide Try.prog W .any 0 t v) :
    ∃ (x : caseL.ty) (l : actsL.ty), (∃ d0 d1, ds = [d0, d1]) ∧ caseL.inr x ∧ actsL.inr l ∧ argsR noMap W [.agg ((caseL.trees x).map Cell.t), .c (.t (.imm (l.flatMap (Ly.pair .bool (.pair (.int .u8) (.int .u8))).trees) l.length none))] args := by
  obtain ⟨v0, v1, d0, d1, p0, p1, rfl, rfl, rfl, h0, h1⟩ := trodAll_two hA
  obtain ⟨x, hx, h2⟩ := arg_agg caseS caseO (hval 0 24 v0 rfl rfl) h0
  obtain ⟨l, hl, tr, h3, h4⟩ := arg_one actsS actsO (hval 1 25 v1 rfl rfl) h1
  refine ⟨x, l, ⟨d0, d1, rfl⟩, hx, hl, argsR2 h2 ?_⟩
  have e : tr = T.imm (l.flatMap (Ly.pair .bool (.pair (.int .u8) (.int .u8))).trees) l.length none := by
    have : actsL.trees l = [T.imm (l.flatMap (Ly.pair .bool (.pair (.int .u8) (.int .u8))).trees) l.length none] := rfl
    rw [this] at h3
    exact (List.cons.inj h3).1.symm
  rw [← e]; exact h4
theorem acts_ok {l : actsL.ty} (h : actsL.inr l) : ∀ t ∈ (l : List (Bool × Int × Int)), Pl.ActOk t := fun t ht => ⟨wf_u8 (h.2 t ht).2.1, wf_u8 (h.2 t ht).2.2⟩
theorem Try.params6 : Try.f6.params = #[24, 25] := by kernel_rfl

set_option maxRecDepth 100000 in
theorem defectsApart_lifted (os : Os) (started : os.Started) (H : Type) (enc : TypeId × Value → H) :
    ReturnsInHanded {} Try.checked os 6 .any (Rows.defectsApartSpec.pre6 enc Try.prog Try.f6 Rows.defectsApartRow.domain false) (Rows.defectsApartSpec.post enc Try.prog Try.f6 false true false false) := by
  refine returnsInHanded_of_change (C := Try.checked) Try.own started (by kernel_rfl) Try.func6
    (ChangeSpec.witness6 (enc := enc) (C := Try.checked) false ⟨#[], #[.agg #[.int .u8 0, .int .u16 0, .int .u8 0, .int .u8 0, .int .u8 0], .slice none 0 0], []⟩ 8 (by kernel_rfl) (by kernel_rfl) (by kernel_rfl) (by kernel_rfl)) ?_
  intro W base args ds gs before hval0 hW hcnd _
  have hval : ∀ (j : Nat) t v, Try.f6.params[j]? = some t → args[j]? = some v → Value.okWide Try.prog W .any base t v := hval0
  have hW' := hW
  obtain ⟨p, q, hA0, hV, rfl, hfz, hnd⟩ := hW
  have hA : DataW.TrodAll enc Try.prog W 0 (fun _ => true) true Try.f6.params.toList args.toList ds p := hA0
  rw [Try.params6] at hA hval
  obtain ⟨x, l, ⟨d0, d1, rfl⟩, hx, hl, hargs⟩ := case_acts hA hval
  have hr := F6.known.ok ⟨x.1, x.2.1, x.2.2.1, x.2.2.2.1, x.2.2.2.2, l⟩ true (Pl.apart (wf_u8 hx.1) (wf_u8 hx.2.2.1) (wf_u8 hx.2.2.2.1) (wf_u8 hx.2.2.2.2) (acts_ok hl))
  refine (fn_calls hr hargs).mono fun e W' ⟨he, _, hsame, hos, hout⟩ => ?_
  subst he
  refine ⟨_, rfl, post_true Try.laidOut ?_ rfl rfl Try.underlying4 ?_ hW' hsame hos hout⟩
  · intro t ht
    rw [Try.params6] at ht
    simp at ht
    rcases ht with rfl | rfl <;> exact ⟨by kernel_rfl, of_decide_eq_true (by kernel_rfl)⟩
  · rfl

theorem defectsApart_holds : Rows.DefectsApartSaid :=
  OpenClaim.holds_of_wide 6 Try.f6 rfl rfl rfl rfl rfl rfl rfl ⟨rfl, rfl, rfl, rfl, rfl⟩ rfl rfl rfl rfl rfl (by kernel_rfl) Try.func6 (by kernel_rfl)
    (of_decide_eq_true (by kernel_rfl)) (by unfold Func.isWrapper; first | (rw [if_pos (by decide +kernel)]; kernel_rfl) | (rw [if_neg (by decide +kernel)]; exact ⟨rfl, rfl⟩))
    (fun os started H enc _ => defectsApart_lifted os started H enc)
end Go.Proofs.Ythchfbanjeiieaa
