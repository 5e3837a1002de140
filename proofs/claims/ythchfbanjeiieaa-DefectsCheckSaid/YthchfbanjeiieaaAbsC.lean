/-
  A general library: each operation of the abstract heap is what the machine does. Part 10: copy, the other built-in functions, closures; every operation.
-/
import Derived.Test.YthchfbanjeiieaaAbsB
set_option linter.unusedSimpArgs false
set_option linter.unusedVariables false
namespace Go.Abs

section
variable {P : Program} {ι : Map} {σ : Heap} {w : World}

theorem run_copy {t e : TypeId} {j : TInf} (ht : P.underlying t = some (.slice e)) (hj : tinf P e = some j) (ts : Array TypeId) (hts : ts[0]? = some t) (rest : TypeId) {a : Option Addr} {len c m : Nat} {x : Value} {new : Array Value}
    (hlen : (Builtin.lenOf x).run P w = .ok m w) (hfirst : (Builtin.firstCells j.size (min m len) x).run P w = .ok new w) {w' : World}
    (hst : ∀ b, a = some b → (storeCells b new.toList).run P w = .ok () w') (hst' : a = none → w' = w) :
    (Builtin.copy_ ts rest #[.slice a len c, x]).run P w = .ok (.int .i64 ((min m len : Nat) : Int)) w' := by
  have hmin : Nat.min m len = min m len := rfl
  cases a with
  | none =>
    obtain rfl := hst' rfl
    simp only [Builtin.copy_, hts, List.getElem?_toArray, List.getElem?_cons_zero, List.getElem?_cons_succ, Sem.run_bind, run_underlying ht, Result.andThen_ok, tinf_size hj, Sem.run_pure, hlen, hmin, hfirst]
    rfl
  | some b =>
    simp only [Builtin.copy_, hts, List.getElem?_toArray, List.getElem?_cons_zero, List.getElem?_cons_succ, Sem.run_bind, run_underlying ht, Result.andThen_ok, tinf_size hj, Sem.run_pure, hlen, hmin, hfirst, hst b rfl]
    rfl

theorem copyE_ok (h : HR ι σ w) {t : TypeId} {d x y : AV} {σ' : Heap} (ha : copyE P σ t d x = some (y, σ')) (ts : Array TypeId) (hts : ts[0]? = some t) {dv xv : Value}
    (hd : VR ι w d dv) (hx : VR ι w x xv) (rest : TypeId) : DidV P ι σ w (Builtin.copy_ ts rest #[dv, xv]) y σ' := by
  unfold copyE at ha
  split at ha
  · rename_i i hi
    split at ha
    · rename_i e hk
      have ht := kind_slice hi hk
      split at ha
      · rename_i j hj
        split at ha
        · rename_i r len cap m hm
          split at ha
          · rename_i o new ho hnew
            split at ha
            · rename_i hc
              obtain ⟨hoes, hfit⟩ := hc
              injection ha with ha
              injection ha with e1 e2
              subst e1; subst e2
              obtain ⟨hnl, vs, hvs, hfirst⟩ := firstE_ok h (P := P) hnew hx
              obtain ⟨a, c, rfl, hsome, hr⟩ := hd
              obtain ⟨sp, hsp, ho', hep, hor, hok⟩ := h.ref ho hr
              obtain ⟨hlc, hcap, hok⟩ := hok
              have hlen := lenE_ok (P := P) hm hx w
              have hmul : min m len * j.size ≤ len * j.size := Nat.mul_le_mul_right _ (by omega)
              cases hl : sp.loc with
              | none =>
                rw [hl] at hok
                have hl0 : len = 0 := hok.1
                subst hl0
                have hn0 : new = [] := List.eq_nil_of_length_eq_zero (by rw [hnl]; simp)
                have hv0 : vs = [] := by
                  have := hvs.1
                  rw [hn0] at this
                  exact List.eq_nil_of_length_eq_zero (by simpa using this)
                subst hn0; subst hv0
                rw [splice_nil]
                have : ({ o with cs := o.cs } : Obj) = o := rfl
                rw [this, set_self _ _ _ ho']
                exact DidV.pure h (run_copy ht hj ts hts rest hlen (hfirst w rfl) (fun b _ => by simp [storeCells]) (fun _ => rfl)) (TR.int _ _)
              | some l =>
                rw [hl] at hok
                obtain ⟨rfl, hle, heq⟩ := hok
                obtain ⟨w', h1, h2, h3⟩ := HR.write h hsp hl ho' P r.off new vs (by simpa using hvs.1) (fun k hk => by simpa using hvs.2 k hk) (by omega)
                refine ⟨ι, w', _, run_copy ht hj ts hts rest hlen (hfirst w rfl) (fun b hb => ?_) (fun e => by cases e), TR.int _ _, h2, h3⟩
                injection hb with hb
                subst hb
                simpa using h1
            · cases ha
          · cases ha
        · rename_i m hm
          injection ha with ha
          injection ha with e1 e2
          subst e1; subst e2
          obtain ⟨a, c, rfl, _, _⟩ := imm_len hd
          have hlen := lenE_ok (P := P) hm hx w
          rename_i cs cap
          have hf0 : (Builtin.firstCells j.size (min m 0) xv).run P w = .ok #[] w := by
            rw [Nat.min_zero]
            unfold lenE at hm
            split at hm
            · obtain ⟨a', c', rfl, _⟩ := hx
              cases a' <;> simp [Builtin.firstCells, loadCells, loadCellsFrom]
            · obtain ⟨a', c', rfl, _⟩ := imm_len hx
              cases a' <;> simp [Builtin.firstCells, loadCells, loadCellsFrom]
            · obtain rfl := str_of hx
              simp only [Builtin.firstCells, bytes_take]
              rfl
            · cases hm
          have := run_copy (a := a) (c := c) ht hj ts hts rest hlen hf0 (w' := w) (fun b _ => by simp [storeCells]) (fun _ => rfl)
          exact DidV.pure h this (by rw [Nat.min_zero]; exact TR.int _ _)
        · cases ha
      · cases ha
    · cases ha
  · cases ha

theorem evl_vals {N : Nat} {r : Regs} {a : Act} (hr : RegR N ι w r a) {xs : List Operand} {vs : List AV} (h : evl r xs = some vs) : ∃ us : List Value, xs.map a.eval = us ∧ us.length = vs.length ∧ ∀ i (hi : i < vs.length), ∃ u, us[i]? = some u ∧ VR ι w vs[i] u := by
  obtain ⟨h1, h2⟩ := evl_ok hr h
  refine ⟨_, rfl, by simp [h1], fun i hi => ?_⟩
  obtain ⟨x, h3, h4⟩ := h2 i hi
  exact ⟨_, by simp [h3], h4⟩

theorem vals1 {vs : AV} {us : List Value} (h : us.length = [vs].length ∧ ∀ i (hi : i < [vs].length), ∃ u, us[i]? = some u ∧ VR ι w [vs][i] u) : ∃ u, us = [u] ∧ VR ι w vs u := by
  obtain ⟨h1, h2⟩ := h
  match us, h1 with
  | [u], _ =>
    obtain ⟨u', h3, h4⟩ := h2 0 (by simp)
    simp at h3
    subst h3
    exact ⟨_, rfl, h4⟩

theorem vals2 {x y : AV} {us : List Value} (h : us.length = [x, y].length ∧ ∀ i (hi : i < [x, y].length), ∃ u, us[i]? = some u ∧ VR ι w [x, y][i] u) : ∃ u v, us = [u, v] ∧ VR ι w x u ∧ VR ι w y v := by
  obtain ⟨h1, h2⟩ := h
  match us, h1 with
  | [u, v], _ =>
    obtain ⟨u', h3, h4⟩ := h2 0 (by simp)
    obtain ⟨v', h5, h6⟩ := h2 1 (by simp)
    simp at h3 h5
    subst h3; subst h5
    exact ⟨_, _, rfl, h4, h6⟩

theorem builtinE_ok (h : HR ι σ w) {b : Builtin} {ts : Array TypeId} {args : List AV} {y : AV} {σ' : Heap} (hb : builtinE P σ b ts args = some (y, σ')) {us : List Value}
    (hu : us.length = args.length ∧ ∀ i (hi : i < args.length), ∃ u, us[i]? = some u ∧ VR ι w args[i] u) (rest : TypeId) (consts : Array Bool) :
    ∃ s : Sem Value, builtin b ts rest consts us.toArray = (do pure (.value (← s))) ∧ DidV P ι σ w s y σ' := by
  unfold builtinE at hb
  split at hb
  · rename_i x
    obtain ⟨u, rfl, hx⟩ := vals1 hu
    refine ⟨Builtin.len_ ts rest #[u], rfl, ?_⟩
    split at hb
    · rename_i t ht
      split at hb
      · rename_i i hi
        split at hb
        · rename_i e r n cap hk
          injection hb with hb; injection hb with e1 e2; subst e1; subst e2
          obtain ⟨a, c, rfl, _⟩ := hx
          exact DidV.pure h (by simp [Builtin.len_, ht, run_underlying (kind_slice hi hk)]; rfl) (TR.int _ _)
        · rename_i e cs n cap hk
          injection hb with hb; injection hb with e1 e2; subst e1; subst e2
          obtain ⟨a, c, rfl, _⟩ := imm_len hx
          exact DidV.pure h (by simp [Builtin.len_, ht, run_underlying (kind_slice hi hk)]; rfl) (TR.int _ _)
        · rename_i s hk
          injection hb with hb; injection hb with e1 e2; subst e1; subst e2
          obtain rfl := str_of hx
          exact DidV.pure h (by simp [Builtin.len_, ht, run_underlying (kind_string hi hk)]; rfl) (TR.int _ _)
        · rename_i n e hk
          injection hb with hb; injection hb with e1 e2; subst e1; subst e2
          exact DidV.pure h (by simp [Builtin.len_, ht, run_underlying (kind_array hi hk)]; rfl) (TR.int _ _)
        · cases hb
      · cases hb
    · cases hb
  · rename_i x
    obtain ⟨u, rfl, hx⟩ := vals1 hu
    refine ⟨Builtin.cap_ ts rest #[u], rfl, ?_⟩
    split at hb
    · rename_i t ht
      split at hb
      · rename_i i hi
        split at hb
        · rename_i e hk
          split at hb
          · rename_i r len c0
            split at hb
            · rename_i o ho
              injection hb with hb; injection hb with e1 e2; subst e1; subst e2
              obtain ⟨a, c', rfl, hsome, hr⟩ := hx
              obtain ⟨sp, hsp, ho', hep, hor, hok⟩ := h.ref ho hr
              have hcap : c' = c0 := hok.2.1
              subst hcap
              exact DidV.pure h (by simp [Builtin.cap_, ht, run_underlying (kind_slice hi hk)]; rfl) (TR.int _ _)
            · cases hb
          · rename_i cs len c0
            injection hb with hb; injection hb with e1 e2; subst e1; subst e2
            obtain ⟨a, c', rfl, hcap, _⟩ := imm_len hx
            simp only [capOk] at hcap
            subst hcap
            exact DidV.pure h (by simp [Builtin.cap_, ht, run_underlying (kind_slice hi hk)]; rfl) (TR.int _ _)
          · cases hb
        · cases hb
      · cases hb
    · cases hb
  · rename_i s x
    obtain ⟨u, v, rfl, hs, hx⟩ := vals2 hu
    refine ⟨Builtin.append_ ts rest #[u, v], rfl, ?_⟩
    split at hb
    · rename_i t u' ht hu'
      split at hb
      · rename_i i hi
        split at hb
        · rename_i e hk
          exact appendE_ok h hb (.inl ⟨e, kind_slice hi hk⟩) hs hx ht hu' rest
        · rename_i hk
          exact appendE_ok h hb (.inr (kind_string hi hk)) hs hx ht hu' rest
        · cases hb
      · cases hb
    · cases hb
  · rename_i d s
    obtain ⟨u, v, rfl, hd, hs⟩ := vals2 hu
    refine ⟨Builtin.copy_ ts rest #[u, v], rfl, ?_⟩
    split at hb
    · rename_i t ht
      exact copyE_ok h hb ts ht hd hs rest
    · cases hb
  · refine ⟨Builtin.min_ ts rest us.toArray, rfl, ?_⟩
    simp only [Option.map_eq_some_iff, Prod.mk.injEq] at hb
    obtain ⟨x, hm, rfl, rfl⟩ := hb
    unfold minmaxE at hm
    split at hm
    · obtain ⟨u, v, rfl, h1, h2⟩ := vals2 hu
      obtain rfl := int_of h1
      obtain rfl := int_of h2
      split at hm
      · rename_i hk
        subst hk
        injection hm with hm
        subst hm
        simp only [Bool.false_eq_true, if_false]
        exact DidV.pure h (by simp [Builtin.min_, Builtin.min2]) (TR.int _ _)
      · cases hm
    · cases hm
  · refine ⟨Builtin.max_ ts rest us.toArray, rfl, ?_⟩
    simp only [Option.map_eq_some_iff, Prod.mk.injEq] at hb
    obtain ⟨x, hm, rfl, rfl⟩ := hb
    unfold minmaxE at hm
    split at hm
    · obtain ⟨u, v, rfl, h1, h2⟩ := vals2 hu
      obtain rfl := int_of h1
      obtain rfl := int_of h2
      split at hm
      · rename_i hk
        subst hk
        injection hm with hm
        subst hm
        simp only [if_true]
        exact DidV.pure h (by simp [Builtin.max_, Builtin.max2]) (TR.int _ _)
      · cases hm
    · cases hm
  · cases hb

end
end Go.Abs
