/-
  A general library: symbolic values: lemmas.
-/
import Derived.Test.YtfcbahfdgopgfaaKR5QSy4
set_option linter.unusedSimpArgs false
set_option linter.unusedVariables false
namespace Go.Abs

theorem eqB {a b : Nat} (h : Nat.beq a b = true) : a = b := Nat.eq_of_beq_eq_true h
theorem leB' {a b : Nat} (h : Nat.ble a b = true) : a ≤ b := Nat.le_of_ble_eq_true h
theorem ltB {a b : Nat} (h : Nat.blt a b = true) : a < b := Nat.le_of_ble_eq_true h

theorem scOfT_den {t : T} {c : SC} (h : scOfT t = some c) : c.den = .t t := by
  unfold scOfT at h
  split at h <;> first | (injection h with h; subst h; rfl) | cases h

theorem scOfTs_den : ∀ {z : List T} {cs : List SC}, mapO scOfT z = some cs → cs.map SC.den = z.map .t
  | [], cs, h => by simp only [mapO, Option.some.injEq] at h; subst h; rfl
  | t :: z, cs, h => by
    simp only [mapO] at h
    split at h
    · rename_i y ys h1 h2
      injection h with h
      subst h
      simp [scOfT_den h1, scOfTs_den h2]
    · cases h

theorem Ly.view_den : ∀ (c : Ly) (x : c.ty), (c.view x).map SC.den = (c.trees x).map .t
  | .int _, _ => rfl
  | .bool, _ => rfl
  | .str, _ => rfl
  | .sl _, _ => rfl
  | .pair a b, x => by simp only [Ly.view, Ly.trees, List.map_append, a.view_den, b.view_den]

theorem Ly.view_length (c : Ly) (x : c.ty) : (c.view x).length = c.size := by
  have := congrArg List.length (c.view_den x)
  simpa [c.trees_length] using this

theorem castL_flat {a b : Ly} (h : a.beq b = true) (xs : List a.ty) : (Ly.castL h xs).flatMap b.trees = xs.flatMap a.trees := by
  have e := Ly.beq_eq h
  subst e
  rfl
theorem castL_length {a b : Ly} (h : a.beq b = true) (xs : List a.ty) : (Ly.castL h xs).length = xs.length := by
  have e := Ly.beq_eq h
  subst e
  rfl
theorem beq_size {a b : Ly} (h : a.beq b = true) : a.size = b.size := by rw [Ly.beq_eq h]

theorem flat_length (c : Ly) : ∀ (xs : List c.ty), (xs.flatMap c.trees).length = xs.length * c.size
  | [] => by simp
  | x :: xs => by simp only [List.flatMap_cons, List.length_append, c.trees_length, flat_length c xs, List.length_cons, Nat.succ_mul]; omega

theorem flat_drop (c : Ly) : ∀ (n : Nat) (xs : List c.ty), (xs.flatMap c.trees).drop (n * c.size) = (xs.drop n).flatMap c.trees
  | 0, _ => by simp
  | n + 1, [] => by simp
  | n + 1, x :: xs => by
    rw [List.flatMap_cons, List.drop_succ_cons, ← flat_drop c n xs, List.drop_append, c.trees_length]
    have h1 : (n + 1) * c.size - c.size = n * c.size := by rw [Nat.succ_mul]; omega
    have h2 : (c.trees x).drop ((n + 1) * c.size) = [] := List.drop_eq_nil_of_le (by rw [c.trees_length, Nat.succ_mul]; omega)
    rw [h1, h2, List.nil_append]

theorem flat_take (c : Ly) : ∀ (n : Nat) (xs : List c.ty), (xs.flatMap c.trees).take (n * c.size) = (xs.take n).flatMap c.trees
  | 0, _ => by simp
  | n + 1, [] => by simp
  | n + 1, x :: xs => by
    rw [List.flatMap_cons, List.take_succ_cons, List.flatMap_cons, ← flat_take c n xs, List.take_append, c.trees_length]
    have h1 : (n + 1) * c.size - c.size = n * c.size := by rw [Nat.succ_mul]; omega
    have h2 : (c.trees x).take ((n + 1) * c.size) = c.trees x := List.take_of_length_le (by rw [c.trees_length, Nat.succ_mul]; omega)
    rw [h1, h2]

theorem drop_at {α : Type} {xs : List α} {k : Nat} {d : α} (h : k < xs.length) : xs.drop k = (xs[k]?).getD d :: xs.drop (k + 1) := by
  rw [List.drop_eq_getElem_cons h]
  simp [h]

theorem flat_at (c : Ly) {xs : List c.ty} {k : Nat} (h : k < xs.length) : (xs.flatMap c.trees).drop (k * c.size) = c.trees ((xs[k]?).getD c.dflt) ++ (xs.drop (k + 1)).flatMap c.trees := by
  rw [flat_drop, drop_at (d := c.dflt) h, List.flatMap_cons]

theorem trees_drop_take {c : Ly} {x : c.ty} {off n : Nat} (h : off + n ≤ c.size) (l : List T) : (((c.trees x) ++ l).drop off).take n = ((c.trees x).drop off).take n := by
  rw [List.drop_append_of_le_length (by rw [c.trees_length]; omega), List.take_append_of_le_length (by rw [List.length_drop, c.trees_length]; omega)]

/-! ### data out of cells -/
theorem WL.map_t : ∀ {a b : List T}, (a.length = b.length) → (∀ i (h : i < a.length) (h' : i < b.length), WT a[i] b[i]) → WL (a.map .t) (b.map .t) := fun {a b} hl h =>
  WL.of_get (by simpa using hl) fun i hi hi' => by simp only [List.getElem_map]; exact .t (h i (by simpa using hi) (by simpa using hi'))

theorem Ly.enc_ok {ex : Bool} : ∀ {c : Ly} {l : List SC} {x : c.ty}, c.enc ex l = some x → WL (l.map SC.den) ((c.trees x).map .t) ∧ (ex = true → l.map SC.den = (c.trees x).map .t)
  | .int k, l, x, h => by
    simp only [Ly.enc, encInt] at h
    split at h
    · split at h
      · rename_i hk
        injection h with h
        subst h
        rw [kindB_eq hk]
        exact ⟨WL.rfl', fun _ => rfl⟩
      · cases h
    · cases h
  | .bool, l, x, h => by
    simp only [Ly.enc, encBool] at h
    split at h
    · injection h with h
      subst h
      exact ⟨WL.rfl', fun _ => rfl⟩
    · cases h
  | .str, l, x, h => by
    simp only [Ly.enc, encStr] at h
    split at h
    · injection h with h
      subst h
      exact ⟨WL.rfl', fun _ => rfl⟩
    · cases h
  | .sl c, l, x, h => by
    simp only [Ly.enc, encSl] at h
    split at h
    · rename_i c' xs cap
      split at h
      · rename_i hb
        have key : ∀ y, y = Ly.castL hb xs → WL ([SC.arr c' xs cap].map SC.den) (((Ly.sl c).trees y).map .t) := fun y hy => by
          subst hy
          simp only [List.map_cons, List.map_nil, SC.den, Ly.trees, castL_flat, castL_length]
          exact ⟨.t (.cap _ _ _), trivial⟩
        split at h
        · injection h with h
          refine ⟨key x h.symm, fun _ => ?_⟩
          subst h
          simp only [List.map_cons, List.map_nil, SC.den, Ly.trees, castL_flat, castL_length]
        · split at h
          · cases h
          · injection h with h
            exact ⟨key x h.symm, fun hex => by cases hex⟩
      · cases h
    · split at h
      · cases h
      · injection h with h
        subst h
        exact ⟨⟨.t (.cap _ _ _), trivial⟩, fun hex => by cases hex⟩
    · cases h
  | .pair a b, l, x, h => by
    simp only [Ly.enc] at h
    split at h
    · rename_i y z h1 h2
      injection h with h
      subst h
      obtain ⟨h3, h4⟩ := Ly.enc_ok h1
      obtain ⟨h5, h6⟩ := Ly.enc_ok h2
      have e : l.map SC.den = (l.take a.size).map SC.den ++ (l.drop a.size).map SC.den := by rw [← List.map_append, List.take_append_drop]
      refine ⟨?_, fun hex => ?_⟩
      · rw [e]
        simp only [Ly.trees, List.map_append]
        exact h3.append h5
      · rw [e, h4 hex, h6 hex]
        simp only [Ly.trees, List.map_append]
    · cases h

theorem encL_ok {ex : Bool} {c : Ly} : ∀ {n : Nat} {l : List SC} {xs : List c.ty}, encL ex c n l = some xs → xs.length = n ∧ WL (l.map SC.den) ((xs.flatMap c.trees).map .t) ∧ (ex = true → l.map SC.den = (xs.flatMap c.trees).map .t)
  | 0, [], xs, h => by
    simp only [encL, Option.some.injEq] at h
    subst h
    exact ⟨rfl, WL.rfl', fun _ => rfl⟩
  | 0, _ :: _, xs, h => by cases h
  | n + 1, l, xs, h => by
    simp only [encL] at h
    split at h
    · rename_i y ys h1 h2
      injection h with h
      subst h
      obtain ⟨h3, h4⟩ := Ly.enc_ok h1
      obtain ⟨h5, h6, h7⟩ := encL_ok h2
      have e : l.map SC.den = (l.take c.size).map SC.den ++ (l.drop c.size).map SC.den := by rw [← List.map_append, List.take_append_drop]
      refine ⟨by simp [h5], ?_, fun hex => ?_⟩
      · rw [e, List.flatMap_cons, List.map_append]
        exact h3.append h6
      · rw [e, List.flatMap_cons, List.map_append, h4 hex, h7 hex]
    · cases h

/-! ### registers -/
theorem eqTg_eq : ∀ {a b : Tg}, eqTg a b = true → a = b
  | [], [], _ => rfl
  | [], _ :: _, h => by cases h
  | _ :: _, [], h => by cases h
  | (a, x) :: l, (b, y) :: m, h => by
    simp only [eqTg] at h
    split at h
    · rename_i h1
      rw [eqB h1]
      cases x <;> cases y <;> simp only at h <;> first | (rw [eqTg_eq h]) | cases h
    · cases h

theorem SR.holds_cons {r : SR} {x : Nat × Bool} {l : Tg} : r.holds (x :: l) = (r.holds l && r.isB x.1 x.2) := by
  obtain ⟨t, w⟩ := x
  cases l with
  | nil => simp [SR.holds]
  | cons y l => rfl

theorem suf_holds {r : SR} {a : Tg} : ∀ {L : Tg}, sufB a L = true → r.holds L = true → r.holds a = true
  | [], h, hL => by
    simp only [sufB] at h
    split at h
    · rfl
    · cases h
  | x :: L, h, hL => by
    simp only [sufB] at h
    split at h
    · rfl
    · split at h
      · rename_i he; rw [eqTg_eq he]; exact hL
      · rw [SR.holds_cons, Bool.and_eq_true] at hL
        exact suf_holds h hL.1

theorem SR.den_get {r : SR} {t : Nat} {tg : Tg} {v : SV} (h : r.get t = some (tg, v)) : r.den.get t = some (r.dv tg v) := by
  unfold SR.den
  suffices ∀ (l : SR), l.get t = some (tg, v) → Regs.get (l.map r.den1) t = some (r.dv tg v) from this r h
  intro l hl
  induction l with
  | nil => simp [SR.get] at hl
  | cons p l ih =>
    obtain ⟨k, q⟩ := p
    simp only [SR.get] at hl
    simp only [List.map_cons, SR.den1, Regs.get]
    split at hl
    · rename_i hk
      rw [if_pos (eqB hk)]
      injection hl with hl
      subst hl
      rfl
    · rename_i hk
      rw [if_neg (fun e => by subst e; simp at hk)]
      exact ih hl

theorem SR.den_get' {r : SR} {t : Nat} {tg : Tg} {v : SV} (h : r.get t = some (tg, v)) (hh : r.holds tg = true) : r.den.get t = some v.den := by
  rw [SR.den_get h]
  cases tg with
  | nil => rfl
  | cons x l => simp only [SR.dv, hh, cond_true]

theorem SR.den_none {r : SR} {t : Nat} (h : r.get t = none) : r.den.get t = none := by
  unfold SR.den
  suffices ∀ (l : SR), l.get t = none → Regs.get (l.map r.den1) t = none from this r h
  intro l hl
  induction l with
  | nil => rfl
  | cons p l ih =>
    obtain ⟨k, q⟩ := p
    simp only [SR.get] at hl
    simp only [List.map_cons, SR.den1, Regs.get]
    split at hl
    · cases hl
    · rename_i hk
      rw [if_neg (fun e => by subst e; simp at hk)]
      exact ih hl

section
variable {r : SR} {L : Tg} {ρ : Regs}

theorem constSV_den {v : Value} {x : SV} (h : constSV v = some x) : constAV v = some x.den := by
  unfold constSV at h
  split at h
  · rename_i t ht
    rw [Option.map_eq_some_iff] at h
    obtain ⟨c, h1, rfl⟩ := h
    rw [ht]
    simp [SV.den, scOfT_den h1]
  · rename_i cs hcs
    rw [Option.map_eq_some_iff] at h
    obtain ⟨ys, h1, rfl⟩ := h
    rw [hcs]
    have : ∀ {cs : List Cell} {ys : List SC}, mapO (fun | .t t => scOfT t | _ => none) cs = some ys → ys.map SC.den = cs := fun {cs} => by
      induction cs with
      | nil => intro ys h; simp only [mapO, Option.some.injEq] at h; subst h; rfl
      | cons c cs ih =>
        intro ys h
        simp only [mapO] at h
        split at h
        · rename_i y ys' h2 h3
          injection h with h
          subst h
          cases c with
          | t t => simp [scOfT_den h2, ih h3]
          | _ => cases h2
        · cases h
    simp [SV.den, this h1]
  · cases h

theorem evS_ok (hρ : SubR ρ r.den) (hL : r.holds L = true) {x : Operand} {v : SV} (h : evS r L x = some v) : ev ρ x = some v.den := by
  cases x with
  | tmp t =>
    simp only [evS, SR.at] at h
    split at h
    · rename_i tg v' h1
      split at h
      · rename_i hs
        injection h with h
        subst h
        exact hρ _ _ (SR.den_get' h1 (suf_holds hs hL))
      · cases h
    · cases h
  | const c => exact constSV_den h
  | func f => simp only [evS, Option.some.injEq] at h; subst h; rfl
  | global g => cases h

theorem evlS_ok (hρ : SubR ρ r.den) (hL : r.holds L = true) : ∀ {xs : List Operand} {vs : List SV}, evlS r L xs = some vs → evl ρ xs = some (vs.map SV.den)
  | [], vs, h => by simp only [evlS, Option.some.injEq] at h; subst h; rfl
  | x :: xs, vs, h => by
    simp only [evlS] at h
    split at h
    · rename_i v vs' h1 h2
      injection h with h
      subst h
      simp [evl, evS_ok hρ hL h1, evlS_ok hρ hL h2]
    · cases h

theorem evsS_ok (hρ : SubR ρ r.den) (hL : r.holds L = true) : ∀ {xs : List (Nat × Operand)} {vs : List (Nat × SV)}, evsS r L xs = some vs → evs ρ xs = some (vs.map fun x => (x.1, x.2.den))
  | [], vs, h => by simp only [evsS, Option.some.injEq] at h; subst h; rfl
  | (i, x) :: xs, vs, h => by
    simp only [evsS] at h
    split at h
    · rename_i v vs' h1 h2
      injection h with h
      subst h
      simp [evs, evS_ok hρ hL h1, evsS_ok hρ hL h2]
    · cases h

theorem evoS_ok (hρ : SubR ρ r.den) (hL : r.holds L = true) {x : Option Operand} {v : Option SV} (h : evoS r L x = some v) : evo ρ x = some (v.map SV.den) := by
  cases x with
  | none => simp only [evoS, Option.some.injEq] at h; subst h; rfl
  | some x =>
    simp only [evoS, Option.map_eq_some_iff] at h
    obtain ⟨u, h1, rfl⟩ := h
    simp [evo, evS_ok hρ hL h1]
end

theorem SV.den_c (x : SC) : (SV.c x).den = .c x.den := rfl
theorem SC.den_bo (x : Bool) : (SC.bo x).den = .t (.bool x) := rfl
theorem SC.den_it (k : IntKind) (n : Int) : (SC.it k n).den = .t (.int k n) := rfl
theorem SC.den_ptr (id off : Nat) : (SC.ptr id off).den = .ptr ⟨id, 0, off⟩ := rfl
theorem SC.den_fn (f : FuncId) : (SC.fn f).den = .t (.fn f []) := rfl
theorem SC.den_clo (f : FuncId) (rs : List Ref) : (SC.clo f rs).den = .clo f rs := rfl
theorem SV.cells_den (v : SV) : v.den.cells = v.cells.map SC.den := by cases v <;> rfl
theorem SV.flat_den (v : SV) : v.den.flat = v.flat := by cases v <;> rfl

end Go.Abs
