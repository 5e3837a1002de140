/-
  DefectsAccess answers true for every input, leaves the input as it is, and never panics; there is no condition.
-/
import Derived.Test.YthchfbanjeiieaaR5QMp
import Derived.Test.YthchfbanjeiieaaR5QR0
/-
  The row DefectsAccess.
-/
set_option linter.unusedSimpArgs false
set_option linter.unusedVariables false
namespace Go.Proofs.Ythchfbanjeiieaa
open Go.ChangeShapes Go.WideShapes Go.ChangeAt Go.RowKit
open Go.Abs
theorem Try.params5 : Try.f5.params = #[24, 3, 5] := by kernel_rfl
theorem intO : TyO Try.prog (.int .i64) 3 := tyB_ok (n := 5) (by kernel_rfl)
theorem byteO : TyO Try.prog (.int .u8) 5 := tyB_ok (n := 5) (by kernel_rfl)
theorem intS : ∀ fs, Try.prog.underlying 3 ≠ some (.struct fs) := isSt_no (by kernel_rfl)
theorem byteS : ∀ fs, Try.prog.underlying 5 ≠ some (.struct fs) := isSt_no (by kernel_rfl)

set_option maxRecDepth 100000 in
theorem defectsAccess_lifted (os : Os) (started : os.Started) (H : Type) (enc : TypeId × Value → H) :
    ReturnsInHanded {} Try.checked os 5 .any (Rows.defectsAccessSpec.pre6 enc Try.prog Try.f5 Rows.defectsAccessRow.domain false) (Rows.defectsAccessSpec.post enc Try.prog Try.f5 false true false false) := by
  refine returnsInHanded_of_change (C := Try.checked) Try.own started (by kernel_rfl) Try.func5
    (ChangeSpec.witness6 (enc := enc) (C := Try.checked) false ⟨#[], #[.agg #[.int .u8 0, .int .u16 0, .int .u8 0, .int .u8 0, .int .u8 0], .int .i64 0, .int .u8 0], []⟩ 8 (by kernel_rfl) (by kernel_rfl) (by kernel_rfl) (by kernel_rfl)) ?_
  intro W base args ds gs before hval0 hW hcnd _
  have hval : ∀ (j : Nat) t v, Try.f5.params[j]? = some t → args[j]? = some v → Value.okWide Try.prog W .any base t v := hval0
  have hW' := hW
  obtain ⟨p, q, hA0, hV, rfl, hfz, hnd⟩ := hW
  have hA : DataW.TrodAll enc Try.prog W 0 (fun _ => true) true Try.f5.params.toList args.toList ds p := hA0
  rw [Try.params5] at hA hval
  obtain ⟨v0, v1, v2, d0, d1, d2, p0, p1, p2, rfl, rfl, rfl, h0, h1, h2⟩ := trodAll_three hA
  obtain ⟨x, hx, g0⟩ := arg_agg caseS caseO (hval 0 24 v0 rfl rfl) h0
  obtain ⟨l, hl, tr, h3, h4⟩ := arg_one intS intO (hval 1 3 v1 rfl rfl) h1
  obtain ⟨m, hm, tr', h5, h6⟩ := arg_one byteS byteO (hval 2 5 v2 rfl rfl) h2
  have e3 : tr = T.int .i64 l := (List.cons.inj h3).1.symm
  have e5 : tr' = T.int .u8 m := (List.cons.inj h5).1.symm
  subst e3
  subst e5
  have hargs := argsR3 g0 h4 h6
  have hr := F5.known.ok ⟨x.1, x.2.1, x.2.2.1, x.2.2.2.1, x.2.2.2.2, l, m⟩ true (Pl.access (wf_u8 hx.1) (wf_u8 hx.2.2.1) (wf_u8 hx.2.2.2.1) (wf_u8 hx.2.2.2.2) (wf_u8 hm))
  refine (fn_calls hr hargs).mono fun e W' ⟨he, _, hsame, hos, hout⟩ => ?_
  subst he
  refine ⟨_, rfl, post_true Try.laidOut ?_ rfl rfl Try.underlying4 ?_ hW' hsame hos hout⟩
  · intro t ht
    rw [Try.params5] at ht
    simp at ht
    rcases ht with rfl | rfl | rfl <;> exact ⟨by kernel_rfl, of_decide_eq_true (by kernel_rfl)⟩
  · rfl

theorem defectsAccess_holds : Rows.DefectsAccessSaid :=
  OpenClaim.holds_of_wide 5 Try.f5 rfl rfl rfl rfl rfl rfl rfl ⟨rfl, rfl, rfl, rfl, rfl⟩ rfl rfl rfl rfl rfl (by kernel_rfl) Try.func5 (by kernel_rfl)
    (of_decide_eq_true (by kernel_rfl)) (by unfold Func.isWrapper; first | (rw [if_pos (by decide +kernel)]; kernel_rfl) | (rw [if_neg (by decide +kernel)]; exact ⟨rfl, rfl⟩))
    (fun os started H enc _ => defectsAccess_lifted os started H enc)
end Go.Proofs.Ythchfbanjeiieaa
