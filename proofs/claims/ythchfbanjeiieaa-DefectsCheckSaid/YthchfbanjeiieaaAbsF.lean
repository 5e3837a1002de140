/-
  A general library: regions, the weakest precondition of code, functions from their bodies.
-/
import Derived.Test.YthchfbanjeiieaaAbsE
set_option linter.unusedSimpArgs false
set_option linter.unusedVariables false
namespace Go.Abs

section
variable {P : Program} {N : Nat} {ro : Option Nat}

theorem guard_ok {ops : Array Oper} {ι : Map} {w : World} {r : Regs} {a : Act} (hr : RegR N ι w r a) {o : Oper} {b : Bool} (h : guardE ops r o.guard = some b) : Region.wanted o (yielded ops a.tmps) = b := by
  unfold Region.wanted
  cases hg : o.guard with
  | none => rw [hg] at h; simp only [guardE, Option.some.injEq] at h; exact h
  | some p =>
    obtain ⟨j, want⟩ := p
    rw [hg] at h
    simp only [guardE] at h
    split at h
    · rename_i d hd
      split at h
      · rename_i v hb'
        unfold guardV at h
        split at h
        · rename_i b'
          injection h with h
          have hv := bool_of (hr.get d _ hb')
          have ht : a.tmps[d]? = some (.bool b') := by
            by_cases hlt : d < a.tmps.size
            · simp only [Array.getD, hlt, dif_pos] at hv
              rw [Array.getElem?_eq_getElem hlt]
              exact congrArg some hv
            · simp [Array.getD, hlt, undef] at hv
          have : yielded ops a.tmps j = some b' := by
            simp only [yielded, hd, Option.bind_some, ht]
          simp only [this]
          rw [← h]
          cases b' <;> cases want <;> rfl
        · rename_i xs
          split at h
          · injection h with h
            subst h
            obtain ⟨arr, e, _, _⟩ := hr.get d _ hb'
            have hne : ∀ b, a.tmps[d]? ≠ some (.bool b) := fun b hb => by
              have : a.tmps.getD d undef = .bool b := by simp [Array.getD_eq_getD_getElem?, hb]
              rw [e] at this
              cases this
            have : yielded ops a.tmps j = none := by
              simp only [yielded, hd, Option.bind_some]
            simp only [this]
            rfl
          · cases h
        · cases h
      · cases h
    · cases h

theorem dst_ok {dst : Option Nat} (h : dstOk N dst = true) : ∀ d, dst = some d → d < N := fun d hd => by
  subst hd
  simpa [dstOk] using h

theorem nilTest_ok {ι : Map} {σ : Heap} {w : World} {r : Regs} {a : Act} (hh : HR ι σ w) (hr : RegR N ι w r a) {o : Oper} {n : Nat} {ne : Bool} (h : nilTest P r o.op = some (n, ne)) :
    ∃ b, (execOp a.eval o).run P w = .ok (.value (.bool b)) w ∧ (b = ne ∨ (b = !ne ∧ n = 0)) := by
  obtain ⟨dst, op, type, pos, after, guard⟩ := o
  simp only at h
  unfold nilTest at h
  split at h
  · rename_i op xT x y yT
    split at h
    · rename_i hy
      split at h
      · rename_i i v ne' hi hx hop
        split at h
        · rename_i e n' hk hl
          injection h with h
          injection h with e1 e2
          subst e1; subst e2
          have hu := kind_slice hi hk
          have hye : a.eval y = .slice none 0 0 := by
            unfold isNilConst at hy
            split at hy
            · rfl
            · cases hy
          obtain ⟨ad, c, hxe, hs⟩ : ∃ ad c, a.eval x = .slice ad n' c ∧ (n' = 0 ∨ ad.isSome = true) := by
            have hv := ev_ok hr hx
            unfold slLen at hl
            split at hl
            · injection hl with hl; subst hl
              obtain ⟨ad, c, e1, hs, _⟩ := hv
              exact ⟨ad, c, e1, hs⟩
            · injection hl with hl; subst hl
              generalize a.eval x = u at hv
              cases hv with
              | imm0 => exact ⟨_, _, rfl, .inl rfl⟩
              | imm => exact ⟨_, _, rfl, .inr rfl⟩
            · cases hl
          have heq : ∀ d, (Op.equalIn (d + 1) xT (.slice ad n' c) (.slice none 0 0)).run P w = .ok ad.isNone w := fun d => by cases ad <;> simp [Op.equalIn, run_underlying hu]
          have heq' : (Op.equal xT (.slice ad n' c) (.slice none 0 0)).run P w = .ok ad.isNone w := heq 9999
          have hfin : ∀ b : Bool, b = (ad.isNone != ne') → (b = ne' ∨ (b = !ne' ∧ n' = 0)) := fun b hb => by
            cases ad with
            | none =>
              rcases hs with hs | hs
              · right; exact ⟨by rw [hb]; simp, hs⟩
              · simp at hs
            | some _ => left; rw [hb]; simp
          cases op <;> simp only [eqOp, Option.some.injEq, reduceCtorEq] at hop
          · subst hop
            refine ⟨ad.isNone, ?_, hfin _ (by simp)⟩
            have hg : (eqGuard .eql xT x y (.slice ad n' c) (.slice none 0 0)).run P w = .ok () w := by unfold eqGuard; simp
            have hb : (binOp .eql xT (.slice ad n' c) (.slice none 0 0)).run P w = .ok (.bool ad.isNone) w := by
              show (do pure (Value.bool (← Op.equal xT (.slice ad n' c) (.slice none 0 0))) : Sem Value).run P w = _
              rw [Sem.run_bind, heq']
              rfl
            simp only [execOp, hxe, hye, Sem.run_bind, hg, Result.andThen_ok, hb, Sem.run_pure]
          · subst hop
            refine ⟨!ad.isNone, ?_, hfin _ (by simp)⟩
            have hg : (eqGuard .neq xT x y (.slice ad n' c) (.slice none 0 0)).run P w = .ok () w := by unfold eqGuard; simp
            have hb : (binOp .neq xT (.slice ad n' c) (.slice none 0 0)).run P w = .ok (.bool (!ad.isNone)) w := by
              show (do pure (Value.bool (!(← Op.equal xT (.slice ad n' c) (.slice none 0 0)))) : Sem Value).run P w = _
              rw [Sem.run_bind, heq']
              rfl
            simp only [execOp, hxe, hye, Sem.run_bind, hg, Result.andThen_ok, hb, Sem.run_pure]
        · cases h
      · cases h
    · cases h
  · cases h

theorem semAt_call {ρ : Operand → Value} {o : Oper} (h : ∀ c, o.op ≠ .defer c) : o.semAt ro ρ = execOp ρ o := Oper.semAt_eq ro ρ o h

theorem opE_defer {r : Regs} {σ : Heap} {op : Op} {x : Option AV × Heap} (h : opE P r σ op = some x) : ∀ c, op ≠ .defer c := fun c e => by
  subst e
  simp [opE] at h

/-- the call of a function value -/
theorem run_call {ρ : Operand → Value} {o : Oper} {f : Operand} {args : Array Operand} {ts : Array TypeId} (ho : o.op = .call { callee := .value f, args := args, argTypes := ts }) {g : FuncId} {arr : Array Value} (hf : ρ f = .func (.func g) #[] arr)
    (hc : callable P g) (w : World) : (execOp ρ o).run P w = .ok (.enter g (args.map ρ ++ arr)) w := by
  obtain ⟨fn, h1, h2, h3⟩ := hc
  have h2' : ¬ fn.name = "runtime.NumGoroutine" := fun e => by rw [e] at h2; simp at h2
  have h3' : ¬ fn.body = none := fun e => by rw [e] at h3; simp at h3
  simp only [execOp, ho, resolve, hf, Deferred.ofValue, invoke, callFunc]
  simp [h1, h2', h3']

theorem step_ok {ι : Map} {σ : Heap} {w : World} {r : Regs} {a : Act} (hh : HR ι σ w) (hr : RegR N ι w r a) {o : Oper} (hd : dstOk N o.dst = true) {K : Option AV → Heap → Prop} (h : stepOk P r σ o K)
    {next : Act → World → Prop} {Q : Exit → Act → World → Prop}
    (hn : ∀ res σ' ι' w' a', K res σ' → HR ι' σ' w' → RegR N ι' w' (r.putR o.dst res) a' → Step ι σ w ι' σ' w' → a'.defers = a.defers → next a' w') :
    o.wpIn (wr ro) 0 P a w next Q := by
  refine ⟨fun _ _ => trivial, ?_⟩
  have hput : ∀ (v : Value), (a.put o.dst v).defers = a.defers := fun v => by cases o.dst <;> rfl
  unfold stepOk at h
  split at h
  · rename_i f args ts hop
    split at h
    · rename_i fv as hf has
      split at h
      · rename_i g caps ht
        obtain ⟨hcal, hcall⟩ := h
        have hfv := ev_ok hr hf
        obtain ⟨us, hus, hu1, hu2⟩ := evl_vals hr has
        have hargs : args.map a.eval = us.toArray := by apply Array.ext'; simpa using hus
        -- the function's value and what it has captured
        obtain ⟨arr, e1, hsz, harr⟩ : ∃ arr, a.eval f = .func (.func g) #[] arr ∧ arr.size = caps.length ∧ ∀ i (hi : i < caps.length), ∃ u, arr[i]? = some u ∧ VR ι w caps[i] u := by
          unfold callTarget at ht
          split at ht
          · rename_i f' cs
            injection ht with ht
            injection ht with e1 e2
            subst e1; subst e2
            generalize a.eval f = u at hfv
            cases hfv with
            | fn f' cs arr h1 h2 =>
              refine ⟨arr, rfl, by simpa using h1, fun i hi => ?_⟩
              have hi' : i < cs.length := by simpa using hi
              have hlt : i < arr.size := by omega
              refine ⟨arr[i], by simp [hlt], ?_⟩
              have := h2 i hi'
              simp only [Array.getD, hlt, dif_pos] at this
              simpa [VR, CR] using this
          · rename_i f' rs
            injection ht with ht
            injection ht with e1 e2
            subst e1; subst e2
            obtain ⟨arr, e, h1, h2⟩ := hfv
            refine ⟨arr, e, by simpa using h1, fun i hi => ?_⟩
            have hi' : i < rs.length := by simpa using hi
            have hlt : i < arr.size := by omega
            obtain ⟨ad, h3, h4⟩ := h2 i hi'
            have h3' : arr[i] = .pointer (some ad) := by simp only [Array.getD, hlt, dif_pos] at h3; exact h3
            refine ⟨arr[i], by simp [hlt], ?_⟩
            rw [List.getElem_map]
            exact ⟨ad, h3', h4⟩
          · cases ht
        have hrun := run_call (P := P) (ρ := a.eval) hop e1 hcal w
        rw [semAt_call (by rw [hop]; intro c e; cases e), hrun, Oper.uponIn_enter]
        refine ⟨(fun e => by cases e), ?_⟩
        have hc2 := hcall ι w (args.map a.eval ++ arr) hh ⟨by simp [hargs, hu1, hsz], fun i hi => by
          by_cases hlt : i < as.length
          · obtain ⟨u, h3, h4⟩ := hu2 i hlt
            refine ⟨u, ?_, by rw [List.getElem_append_left hlt]; exact h4⟩
            rw [Array.getElem?_append_left (by simp [hargs, hu1, hlt]), hargs]
            simpa using h3
          · have hi' : i - as.length < caps.length := by simp at hi; omega
            obtain ⟨u, h3, h4⟩ := harr (i - as.length) hi'
            refine ⟨u, ?_, by rw [List.getElem_append_right (by omega)]; exact h4⟩
            rw [Array.getElem?_append_right (by simp [hargs, hu1]; omega)]
            rw [show (args.map a.eval).size = as.length by simp [hargs, hu1]]
            exact h3⟩
        refine CallsIn.mono (show CallsIn (wr ro) 0 P g (args.map a.eval ++ arr) w _ from hc2) ?_
        rintro e w' ⟨v, σ', ι', cv, rfl, hK, hv, hh', hs'⟩
        exact hn (some v) σ' ι' w' _ hK hh' ((hr.step hs').put (dst_ok hd) hv) hs' (hput _)
      · cases h
    · cases h
  · split at h
    · rename_i op _ n ne hnil
      obtain ⟨b, h1, h2⟩ := nilTest_ok hh hr hnil
      rw [semAt_call (fun c e => by rw [e] at hnil; simp [nilTest] at hnil), h1, Oper.uponIn_value]
      obtain ⟨h3, h4⟩ := h
      rcases h2 with rfl | ⟨rfl, hn0⟩
      · exact hn _ σ ι w _ h3 hh (hr.put (dst_ok hd) (TR.bool _)) (Step.refl ι σ w) (hput _)
      · exact hn _ σ ι w _ (h4 hn0) hh (hr.put (dst_ok hd) (TR.bool _)) (Step.refl ι σ w) (hput _)
    · split at h
      · rename_i res σ' hop
        obtain ⟨ι', w', nx, h1, h2, h3, h4⟩ := opE_ok hh hr hop
        rw [semAt_call (opE_defer hop), h1]
        cases res with
        | none =>
          subst h2
          rw [Oper.uponIn_skip]
          exact hn none σ' ι' w' _ h h4 ((hr.step h3).drop _) h3 (hput _)
        | some v =>
          obtain ⟨u, rfl, hv⟩ := h2
          rw [Oper.uponIn_value]
          exact hn (some v) σ' ι' w' _ h h4 ((hr.step h3).put (dst_ok hd) hv) h3 (hput _)
      · exact h.elim

end
end Go.Abs
