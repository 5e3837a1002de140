/-
  A general library: each operation of the abstract heap is what the machine does. Part 11: every operation that calls no Go function.
-/
import Derived.Test.YthchfbanjeiieaaAbsC
set_option linter.unusedSimpArgs false
set_option linter.unusedVariables false
namespace Go.Abs

section
variable {P : Program} {ι : Map} {σ : Heap} {w : World}

theorem tsOfAV_ok : ∀ {vs : List AV} {ts : List T}, tsOfAV vs = some ts → ts.length = vs.length ∧ ∀ i (h : i < ts.length), ∃ hq, vs[i]'hq = .c (.t ts[i])
  | [], ts, h => by
    simp only [tsOfAV, Option.some.injEq] at h
    subst h
    exact ⟨rfl, fun i hi => absurd hi (by simp)⟩
  | v :: vs, ts, h => by
    unfold tsOfAV at h
    split at h
    · rename_i heq; cases heq
    · rename_i x rest heq
      injection heq with e1 e2
      subst e1; subst e2
      simp only [Option.map_eq_some_iff] at h
      obtain ⟨ts', h1, rfl⟩ := h
      obtain ⟨h2, h3⟩ := tsOfAV_ok h1
      refine ⟨by simp [h2], fun i hi => ?_⟩
      cases i with
      | zero => exact ⟨by simp, rfl⟩
      | succ i =>
        obtain ⟨h', h4⟩ := h3 i (by simpa using hi)
        exact ⟨by simpa using h', by simpa using h4⟩
    · cases h

theorem refsOf_ok : ∀ {vs : List AV} {ts : List Ref}, refsOf vs = some ts → ts.length = vs.length ∧ ∀ i (h : i < ts.length), ∃ hq, vs[i]'hq = .c (.ptr ts[i])
  | [], ts, h => by
    simp only [refsOf, Option.some.injEq] at h
    subst h
    exact ⟨rfl, fun i hi => absurd hi (by simp)⟩
  | v :: vs, ts, h => by
    unfold refsOf at h
    split at h
    · rename_i heq; cases heq
    · rename_i x rest heq
      injection heq with e1 e2
      subst e1; subst e2
      simp only [Option.map_eq_some_iff] at h
      obtain ⟨ts', h1, rfl⟩ := h
      obtain ⟨h2, h3⟩ := refsOf_ok h1
      refine ⟨by simp [h2], fun i hi => ?_⟩
      cases i with
      | zero => exact ⟨by simp, rfl⟩
      | succ i =>
        obtain ⟨h', h4⟩ := h3 i (by simpa using hi)
        exact ⟨by simpa using h', by simpa using h4⟩
    · cases h

theorem makeFuncE_ok {f : FuncId} {caps : List AV} {y : AV} (h : makeFuncE f caps = some y) {us : List Value}
    (hu : us.length = caps.length ∧ ∀ i (hi : i < caps.length), ∃ u, us[i]? = some u ∧ VR ι w caps[i] u) : VR ι w y (.func (.func f) #[] us.toArray) := by
  unfold makeFuncE at h
  split at h
  · rename_i ts hts
    injection h with h
    subst h
    obtain ⟨h1, h2⟩ := tsOfAV_ok hts
    refine TR.fn f ts us.toArray (by simp [hu.1, h1]) (fun i hi => ?_)
    obtain ⟨h', e⟩ := h2 i hi
    obtain ⟨u, h3, h4⟩ := hu.2 i h'
    rw [e] at h4
    have : us.toArray.getD i undef = u := by simp [h3]
    rw [this]
    exact h4
  · split at h
    · rename_i rs hrs
      injection h with h
      subst h
      obtain ⟨h1, h2⟩ := refsOf_ok hrs
      refine ⟨us.toArray, rfl, by simp [hu.1, h1], fun i hi => ?_⟩
      obtain ⟨h', e⟩ := h2 i hi
      obtain ⟨u, h3, h4⟩ := hu.2 i h'
      rw [e] at h4
      obtain ⟨ad, rfl, h5⟩ := h4
      exact ⟨ad, by simp [h3], h5⟩
    · cases h

/-- what an operation does -/
def Did (P : Program) (ι : Map) (σ : Heap) (w : World) (s : Sem Next) (res : Option AV) (σ' : Heap) : Prop :=
  ∃ ι' w' nx, s.run P w = .ok nx w' ∧ (match res with | some x => ∃ v, nx = .value v ∧ VR ι' w' x v | none => nx = .skip) ∧ Step ι σ w ι' σ' w' ∧ HR ι' σ' w'

theorem DidV.did {s : Sem Value} {x : AV} {σ' : Heap} (h : DidV P ι σ w s x σ') {s2 : Sem Next} (e : ∀ v w', s.run P w = Result.ok v w' → s2.run P w = Result.ok (Next.value v) w') : Did P ι σ w s2 (some x) σ' := by
  obtain ⟨ι', w', v, h1, h2, h3, h4⟩ := h
  exact ⟨ι', w', _, e v w' h1, ⟨v, rfl, h2⟩, h3, h4⟩

theorem did_pure (h : HR ι σ w) {s : Sem Next} {x : AV} {v : Value} (hr : s.run P w = Result.ok (Next.value v) w) (hv : VR ι w x v) : Did P ι σ w s (some x) σ :=
  ⟨ι, w, _, hr, ⟨v, rfl, hv⟩, Step.refl ι σ w, h⟩

theorem fn_of {f : FuncId} {cs : List T} {v : Value} (h : VR ι w (.c (.t (.fn f cs))) v) : ∃ arr, v = .func (.func f) #[] arr := by
  cases h
  exact ⟨_, rfl⟩

theorem opE_ok {N : Nat} {r : Regs} {a : Act} (h : HR ι σ w) (hr : RegR N ι w r a) {o : Oper} {res : Option AV} {σ' : Heap} (ho : opE P r σ o.op = some (res, σ')) :
    Did P ι σ w (execOp a.eval o) res σ' := by
  obtain ⟨dst, op, type, pos, after, guard⟩ := o
  simp only at ho
  unfold opE at ho
  split at ho
  · -- move
    rename_i x
    simp only [Option.map_eq_some_iff, Prod.mk.injEq] at ho
    obtain ⟨v, h1, rfl, rfl⟩ := ho
    exact did_pure h rfl (ev_ok hr h1)
  · -- assign
    rename_i x
    simp only [Option.map_eq_some_iff, Prod.mk.injEq] at ho
    obtain ⟨v, h1, rfl, rfl⟩ := ho
    exact did_pure h rfl (ev_ok hr h1)
  · -- pick
    rename_i c x y
    split at ho
    · rename_i t hc
      simp only [Option.map_eq_some_iff, Prod.mk.injEq] at ho
      obtain ⟨v, h1, rfl, rfl⟩ := ho
      have hb := bool_of (ev_ok hr hc)
      have hv := ev_ok hr h1
      refine did_pure h (v := a.eval (if t then x else y)) ?_ hv
      simp only [execOp, Sem.run_bind, hb, asBool, Sem.run_pure, Result.andThen_ok]
      cases t <;> rfl
    · cases ho
  · -- alloc
    rename_i e
    split at ho
    · rename_i i hi
      split at ho
      · rename_i z hz
        injection ho with ho; injection ho with e1 e2; subst e1; subst e2
        exact (alloc_ok h hi hz).did (fun v' w' hv' => by simp only [execOp]; rw [Sem.run_bind, hv']; rfl)
      · cases ho
    · cases ho
  · -- box
    rename_i t x
    split at ho
    · rename_i v hv
      split at ho
      · rename_i hf
        injection ho with ho; injection ho with e1 e2; subst e1; subst e2
        exact (box_ok h hf (ev_ok hr hv) t).did (fun v' w' hv' => by simp only [execOp]; rw [Sem.run_bind, hv']; rfl)
      · cases ho
    · cases ho
  · -- build
    rename_i t ps
    split at ho
    · rename_i vs hvs
      simp only [Option.map_eq_some_iff, Prod.mk.injEq] at ho
      obtain ⟨v, h1, rfl, rfl⟩ := ho
      have hps := evs_ok hr hvs
      obtain ⟨z, h2, h3⟩ := buildE_ok (w := w) h1 (vs := ps.map fun (i, x) => (i, a.eval x)) (by simpa using hps)
      exact did_pure h (by simp only [execOp]; rw [Sem.run_bind, h2]; rfl) h3
    · cases ho
  · -- buildSlice
    rename_i t n ps
    split at ho
    · rename_i vs hvs
      simp only [Option.map_eq_some_iff, Prod.mk.injEq] at ho
      obtain ⟨⟨v, σ1⟩, h1, rfl, rfl⟩ := ho
      have hps := evs_ok hr hvs
      exact (buildSliceE_ok h h1 (vs := ps.map fun (i, x) => (i, a.eval x)) (by simpa using hps)).did (fun v' w' hv' => by simp only [execOp]; rw [Sem.run_bind, hv']; rfl)
    · cases ho
  · -- load
    rename_i t x
    split at ho
    · rename_i i v hi hv
      simp only [Option.map_eq_some_iff, Prod.mk.injEq] at ho
      obtain ⟨u, h1, rfl, rfl⟩ := ho
      obtain ⟨z, h2, h3⟩ := loadE_ok (P := P) hi h (ev_ok hr hv) h1
      exact did_pure h (by simp only [execOp]; rw [Sem.run_bind, h2]; rfl) h3
    · cases ho
  · -- store
    rename_i t x y
    split at ho
    · rename_i i v u hi hv hu
      simp only [Option.map_eq_some_iff, Prod.mk.injEq] at ho
      obtain ⟨σ1, h1, rfl, rfl⟩ := ho
      obtain ⟨ι', w', h2, h3, h4⟩ := storeE_ok (P := P) h hi (ev_ok hr hv) (ev_ok hr hu) h1
      exact ⟨ι', w', _, by simp [execOp, h2], rfl, h3, h4⟩
    · cases ho
  · -- nilCheck
    rename_i x
    split at ho
    · rename_i p hx
      injection ho with ho; injection ho with e1 e2; subst e1; subst e2
      have hv := ev_ok hr hx
      have hv' := hv
      obtain ⟨ad, e, _⟩ := hv
      exact did_pure h (v := a.eval x) (by simp only [execOp, e]; rfl) hv'
    · rename_i cs hx
      injection ho with ho; injection ho with e1 e2; subst e1; subst e2
      have hv := ev_ok hr hx
      obtain ⟨b, off, e, _⟩ := iptr_row hv
      exact did_pure h (v := a.eval x) (by simp only [execOp, e]; rfl) hv
    · rename_i f cs hx
      injection ho with ho; injection ho with e1 e2; subst e1; subst e2
      have hv := ev_ok hr hx
      obtain ⟨arr, e⟩ := fn_of hv
      exact did_pure h (v := a.eval x) (by simp only [execOp, e]; rfl) hv
    · rename_i f cs hx
      injection ho with ho; injection ho with e1 e2; subst e1; subst e2
      have hv := ev_ok hr hx
      have hv' := hv
      obtain ⟨arr, e, _⟩ := hv
      exact did_pure h (v := a.eval x) (by simp only [execOp, e]; rfl) hv'
    · cases ho
  · -- binOp
    rename_i op xT x y yT
    split at ho
    · rename_i u v hu hv
      simp only [Option.map_eq_some_iff, Prod.mk.injEq] at ho
      obtain ⟨t, h1, rfl, rfl⟩ := ho
      obtain ⟨z, h2, h3⟩ := binE_ok h1 (ev_ok hr hu) (ev_ok hr hv) x y
      exact did_pure h (by simp only [execOp]; rw [Sem.run_bind, h2]; rfl) h3
    · cases ho
  · -- unOp
    rename_i op xT x
    split at ho
    · rename_i u hu
      simp only [Option.map_eq_some_iff, Prod.mk.injEq] at ho
      obtain ⟨t, h1, rfl, rfl⟩ := ho
      obtain ⟨z, h2, h3⟩ := unE_ok (P := P) h1 (ev_ok hr hu)
      exact did_pure h (by simp only [execOp]; rw [Sem.run_bind, h2]; rfl) h3
    · cases ho
  · -- convert
    rename_i src d x
    split at ho
    · rename_i u hu
      simp only [Option.map_eq_some_iff, Prod.mk.injEq] at ho
      obtain ⟨t, h1, rfl, rfl⟩ := ho
      obtain ⟨z, h2, h3⟩ := convE_ok h1 (ev_ok hr hu)
      exact did_pure h (by simp only [execOp]; rw [Sem.run_bind, h2]; rfl) h3
    · cases ho
  · -- makeFunc
    rename_i f first caps
    split at ho
    · rename_i hf
      split at ho
      · rename_i vs hvs
        simp only [Option.map_eq_some_iff, Prod.mk.injEq] at ho
        obtain ⟨y, h1, rfl, rfl⟩ := ho
        obtain ⟨us, hus, h2⟩ := evl_vals hr hvs
        have hfirst : first = #[] := Array.eq_empty_of_size_eq_zero hf
        subst hfirst
        refine did_pure h ?_ (makeFuncE_ok h1 h2)
        simp only [execOp, Instr.makeFunc, Sem.run_bind, Sem.run_pure, Result.andThen_ok]
        congr 3
        · simp
        · apply Array.ext'; simpa using hus
      · cases ho
    · cases ho
  · -- makeSlice
    rename_i t l c
    split at ho
    · rename_i u v hu hv
      simp only [Option.map_eq_some_iff, Prod.mk.injEq] at ho
      obtain ⟨⟨y, σ1⟩, h1, rfl, rfl⟩ := ho
      exact (makeSliceE_ok h h1 (ev_ok hr hu) (ev_ok hr hv)).did (fun v' w' hv' => by simp only [execOp]; rw [Sem.run_bind, hv']; rfl)
    · cases ho
  · -- slice
    rename_i t x lo hi mx
    split at ho
    · rename_i v l hh m hv hl hhi hm
      simp only [Option.map_eq_some_iff, Prod.mk.injEq] at ho
      obtain ⟨y, h1, rfl, rfl⟩ := ho
      obtain ⟨z, h2, h3⟩ := sliceE_ok h h1 (ev_ok hr hv) (evo_ok hr hl) (evo_ok hr hhi) (evo_ok hr hm)
      exact did_pure h (by simp only [execOp]; rw [Sem.run_bind, h2]; rfl) h3
    · cases ho
  · -- fieldAddr
    rename_i t x f
    split at ho
    · rename_i v hv
      simp only [Option.map_eq_some_iff, Prod.mk.injEq] at ho
      obtain ⟨y, h1, rfl, rfl⟩ := ho
      obtain ⟨z, h2, h3⟩ := fieldAddrE_ok h1 (ev_ok hr hv)
      exact did_pure h (by simp only [execOp]; rw [Sem.run_bind, h2]; rfl) h3
    · cases ho
  · -- field
    rename_i t x f
    split at ho
    · rename_i v hv
      simp only [Option.map_eq_some_iff, Prod.mk.injEq] at ho
      obtain ⟨y, h1, rfl, rfl⟩ := ho
      obtain ⟨z, h2, h3⟩ := fieldE_ok h1 (ev_ok hr hv)
      exact did_pure h (by simp only [execOp]; rw [Sem.run_bind, h2]; rfl) h3
    · cases ho
  · -- indexAddr
    rename_i t x i
    split at ho
    · rename_i v n hv hn
      simp only [Option.map_eq_some_iff, Prod.mk.injEq] at ho
      obtain ⟨y, h1, rfl, rfl⟩ := ho
      obtain ⟨z, h2, h3⟩ := indexAddrE_ok h h1 (ev_ok hr hv) (ev_ok hr hn)
      exact did_pure h (by simp only [execOp]; rw [Sem.run_bind, h2]; rfl) h3
    · cases ho
  · -- index
    rename_i t x i
    split at ho
    · rename_i v n hv hn
      simp only [Option.map_eq_some_iff, Prod.mk.injEq] at ho
      obtain ⟨y, h1, rfl, rfl⟩ := ho
      obtain ⟨z, h2, h3⟩ := indexE_ok h1 (ev_ok hr hv) (ev_ok hr hn)
      exact did_pure h (by simp only [execOp]; rw [Sem.run_bind, h2]; rfl) h3
    · cases ho
  · -- extract
    rename_i x i
    split at ho
    · rename_i v hv
      simp only [Option.map_eq_some_iff, Prod.mk.injEq] at ho
      obtain ⟨y, h1, rfl, rfl⟩ := ho
      obtain ⟨z, h2, h3⟩ := extractE_ok (P := P) h1 (ev_ok hr hv)
      exact did_pure h (by simp only [execOp]; rw [Sem.run_bind, h2]; rfl) h3
    · cases ho
  · -- a built-in function
    rename_i b args ts
    split at ho
    · rename_i vs hvs
      simp only [Option.map_eq_some_iff, Prod.mk.injEq] at ho
      obtain ⟨⟨y, σ1⟩, h1, rfl, rfl⟩ := ho
      obtain ⟨us, hus, h2⟩ := evl_vals hr hvs
      have hargs : args.map a.eval = us.toArray := by apply Array.ext'; simpa using hus
      obtain ⟨s, h3, h4⟩ := builtinE_ok h h1 h2 type (args.map fun | .const _ => true | _ => false)
      have : execOp a.eval { dst := dst, op := .call { callee := .builtin b, args := args, argTypes := ts }, type := type, pos := pos, after := after, guard := guard } = (s >>= fun v => Pure.pure (Next.value v)) := by
        have h3' : builtin b ts type (args.map fun | .const _ => true | _ => false) us.toArray = (s >>= fun v => Pure.pure (Next.value v)) := h3
        rw [← h3']
        simp only [execOp, resolve, hargs]
        rfl
      rw [this]
      exact h4.did (fun v' w' hv' => by rw [Sem.run_bind, hv']; rfl)
    · cases ho
  · cases ho

end
end Go.Abs
