/-
  A general library: the operations on symbolic values do what they stand for. Part 2: what reads no heap.
-/
import Derived.Test.YtfcbahfdgopgfaaKR5QSy6
set_option linter.unusedSimpArgs false
set_option linter.unusedVariables false
namespace Go.Abs

def SC.tv : SC → Option T
  | .bo x => some (.bool x)
  | .it k n => some (.int k n)
  | .sg x => some (.str x)
  | _ => none

section
variable {P : Program} {ty : TyT} {σ : SH}

theorem intS_ok {op : BinOp} {k : IntKind} {x y : Int} {c : SC} (h : intS op k x y = some (true, c)) : (intE op k x y).map .t = some c.den := by
  unfold intS at h
  unfold intE
  cases op <;> simp only [Option.some.injEq, Prod.mk.injEq, true_and, reduceCtorEq] at h <;> first
    | (subst h; rfl)
    | (obtain ⟨h1, rfl⟩ := h; simp only [nz, Bool.not_eq_true', beq_eq_false_iff_ne] at h1; simp [h1, SC.den])

theorem shiftS_ok {op : BinOp} {k : IntKind} {x y : Int} {c : SC} (h : shiftS op k x y = some (true, c)) : (shiftE op k x y).map .t = some c.den := by
  unfold shiftS at h
  unfold shiftE
  cases op <;> simp only [Option.some.injEq, Prod.mk.injEq, reduceCtorEq, decide_eq_true_eq] at h <;> (obtain ⟨h1, rfl⟩ := h; rw [if_neg (by omega)]; rfl)

theorem strS_ok {op : BinOp} {x y : List UInt8} {c : SC} (h : strS op x y = some (true, c)) : (strE op x y).map .t = some c.den := by
  unfold strS at h
  unfold strE
  cases op <;> simp only [Option.some.injEq, Prod.mk.injEq, true_and, reduceCtorEq, leB, decide_eq_true_eq] at h <;> first
    | (subst h; rfl)
    | (obtain ⟨h1, rfl⟩ := h; rw [if_pos h1]; rfl)

theorem boolS_ok {op : BinOp} {x y : Bool} {b : Bool} {c : SC} (h : boolS op x y = some (b, c)) : b = true ∧ (boolE op x y).map .t = some c.den := by
  unfold boolS at h
  unfold boolE
  cases op <;> simp only [Option.some.injEq, Prod.mk.injEq, reduceCtorEq] at h <;> (obtain ⟨h1, h2⟩ := h; subst h1; subst h2; exact ⟨rfl, rfl⟩)

theorem isPtrK_ok (hty : TyOk P ty) {t : TypeId} (h : isPtrK ty t = true) : ∃ i e, tinf P t = some i ∧ i.kind = .ptr e := by
  unfold isPtrK at h
  split at h
  · rename_i i c hi
    split at h
    · rename_i e he; exact ⟨i, e, hty.ok t i c hi, he⟩
    · cases h
  · cases h
theorem isBoolK_ok (hty : TyOk P ty) {t : TypeId} (h : isBoolK ty t = true) : ∃ i, tinf P t = some i ∧ i.kind = .bool := by
  unfold isBoolK at h
  split at h
  · rename_i i c hi
    split at h
    · rename_i he; exact ⟨i, hty.ok t i c hi, he⟩
    · cases h
  · cases h

theorem binS_ok (hty : TyOk P ty) {op : BinOp} {xT : TypeId} {x y : SV} {c : SC} (h : binS ty op xT x y = some (true, c)) : (binE P op xT x.den y.den).map .t = some c.den := by
  have hp : ∀ {b : Bool}, (match isPtrK ty xT with | true => boolS op b true | false => none) = some (true, c) → ∃ i e, tinf P xT = some i ∧ i.kind = .ptr e ∧ (boolE op b true).map .t = some c.den := fun {b} hh => by
    split at hh
    · rename_i hk
      obtain ⟨i, e, h1, h2⟩ := isPtrK_ok hty hk
      exact ⟨i, e, h1, h2, (boolS_ok hh).2⟩
    · cases hh
  unfold binS at h
  split at h
  · rename_i k a k' b
    simp only [SV.den, SC.den, binE]
    split at h
    · rename_i hs; rw [hs]; exact shiftS_ok h
    · rename_i hs
      split at h
      · rename_i hk
        rw [kindB_eq hk]
        simp only [hs, Bool.false_eq_true, if_false, if_true]
        rw [kindB_eq hk] at h
        exact intS_ok h
      · cases h
  · exact strS_ok h
  · split at h
    · rename_i hk
      obtain ⟨i, h1, h2⟩ := isBoolK_ok hty hk
      simp only [SV.den, SC.den, binE, h1, h2]
      exact (boolS_ok h).2
    · cases h
  all_goals first
    | (obtain ⟨i, e, h1, h2, h3⟩ := hp h; simp only [SV.den, SC.den, binE, h1, h2]; exact h3)
    | cases h

theorem unS_ok {op : UnOp} {x : SV} {c : SC} (h : unS op x = some c) : (unE op x.den).map .t = some c.den := by
  unfold unS at h
  split at h
  · injection h with h; subst h; rfl
  · injection h with h; subst h; rfl
  · rw [Option.map_eq_some_iff] at h
    obtain ⟨p, h1, rfl⟩ := h
    obtain ⟨b, c⟩ := p
    have hb : b = true := by simp only [intS, Option.some.injEq, Prod.mk.injEq] at h1; exact h1.1.symm
    subst hb
    exact intS_ok h1
  · cases h

theorem convS_ok (hty : TyOk P ty) {src dst : TypeId} {x : SV} {c : SC} (h : convS ty src dst x = some c) : (convE P src dst x.den).map .t = some c.den := by
  unfold convS at h
  split at h
  · rename_i i1 j c2 k n h1 h2
    obtain ⟨i1, c1⟩ := i1
    split at h
    · rename_i k' hk
      injection h with h; subst h
      simp only [SV.den, SC.den, convE, hty.ok _ _ _ h1, hty.ok _ _ _ h2, hk]
      rfl
    · cases h
  · rename_i i1 j c2 n h1 h2
    obtain ⟨i1, c1⟩ := i1
    split at h
    · rename_i hk
      injection h with h; subst h
      simp only [SV.den, SC.den, convE, hty.ok _ _ _ h1, hty.ok _ _ _ h2, hk]
      rfl
    · cases h
  · cases h

theorem offS_ok {off : Nat} {x y : SC} (h : offS off x = some y) : (match x.den with
    | .ptr r => some (Cell.ptr { r with off := r.off + off })
    | .t (.iptr cs) => some (.t (.iptr (cs.drop off)))
    | _ => none) = some y.den := by
  unfold offS at h
  split at h <;> first | (injection h with h; subst h) | cases h
  · rfl
  · simp only [SC.den, Nat.add_assoc]
  · simp only [SC.den, List.drop_drop]
  · simp only [SC.den, List.drop_drop]

theorem offS_av {off : Nat} {x y : SC} (h : offS off x = some y) : (match (AV.c x.den) with
          | .c (.ptr r) => some (.c (.ptr { r with off := r.off + off }))
          | .c (.t (.iptr cs)) => some (.c (.t (.iptr (cs.drop off))))
          | _ => none) = some (AV.c y.den) := by
  unfold offS at h
  split at h <;> first | (injection h with h; subst h) | cases h
  · rfl
  · simp only [SC.den, Nat.add_assoc]
  · simp only [SC.den, List.drop_drop]
  · simp only [SC.den, List.drop_drop]

theorem fieldAddrS_ok (hty : TyOk P ty) {t : TypeId} {x : SV} {f : Nat} {c : SC} (h : fieldAddrS ty t x f = some c) : fieldAddrE P t x.den f = some (.c c.den) := by
  unfold fieldAddrS at h
  split at h
  · rename_i i c1 hi
    split at h
    · rename_i fs x hk
      split at h
      · rename_i off ft hf
        split at h
        · rename_i j c2 hj
          split at h
          · rename_i hz
            have hz' : 0 < j.size := ltB hz
            simp only [fieldAddrE, hty.ok _ _ _ hi, hk, hf, hty.ok _ _ _ hj]
            rw [if_pos hz']
            exact offS_av h
          · cases h
        · cases h
      · cases h
    · cases h
  · cases h

theorem partS_ok {j : TInf} {cs : List SC} {off : Nat} {v : SV} (h : partS j cs off = some v) : partE j (cs.map SC.den) off = some v.den := by
  unfold partS at h
  unfold partE
  split at h
  · rename_i ha
    split at h
    · rename_i hl
      injection h with h
      subst h
      simp [ha, SV.den, leB' hl, List.map_take, List.map_drop]
    · cases h
  · rename_i ha
    split at h
    · rename_i c hc
      injection h with h
      subst h
      simp [ha, hc, SV.den]
    · cases h

theorem fieldS_ok (hty : TyOk P ty) {t : TypeId} {x : SV} {f : Nat} {v : SV} (h : fieldS ty t x f = some v) : fieldE P t x.den f = some v.den := by
  unfold fieldS at h
  split at h
  · rename_i i c1 hi
    split at h
    · rename_i fs cs hk
      split at h
      · rename_i off ft hf
        split at h
        · rename_i j c2 hj
          simp only [SV.den, fieldE, hty.ok _ _ _ hi, hk, hf, hty.ok _ _ _ hj]
          exact partS_ok h
        · cases h
      · cases h
    · cases h
  · cases h

theorem intOfS_ok {x : SV} {n : Int} (h : intOfS x = some n) : intOfAV x.den = some n := by
  unfold intOfS at h
  split at h
  · injection h with h; subst h; rfl
  · cases h

theorem inR_ok {n : Int} {l : Nat} (h : inR n l = true) : 0 ≤ n ∧ n < l := by simpa [inR] using h

theorem indexAddrS_ok (hty : TyOk P ty) {t : TypeId} {x i : SV} {c : SC} (h : indexAddrS ty t x i = some (true, c)) : indexAddrE P t x.den i.den = some (.c c.den) := by
  unfold indexAddrS at h
  split at h
  · rename_i inf c1 n hi hn
    simp only [indexAddrE, hty.ok _ _ _ hi, intOfS_ok hn]
    split at h
    · rename_i e hk
      rw [hk]
      split at h
      · rename_i j c2 hj
        simp only [hty.ok _ _ _ hj]
        split at h
        · rename_i id ep es lo len cap
          split at h
          · rename_i hs
            injection h with h
            injection h with h1 h
            subst h
            simp only [SV.den, SC.den]
            rw [if_pos (inR_ok h1), eqB hs, Nat.add_mul, Nat.add_zero]
          · cases h
        · rename_i c3 xs cap
          split at h
          · rename_i hs
            injection h with h
            injection h with h1 h
            subst h
            have hr := inR_ok h1
            have hk' : n.toNat < xs.length := by omega
            simp only [SV.den, SC.den]
            rw [if_pos hr, ← eqB hs, flat_at c3 hk', List.drop_zero]
          · cases h
        · injection h with h
          injection h with h1 h
          cases h1
        · cases h
      · cases h
    · rename_i len e hk
      rw [hk]
      split at h
      · rename_i j c2 hj
        simp only [hty.ok _ _ _ hj]
        split at h <;> first | cases h; done | skip
        all_goals
          injection h with h
          injection h with h1 h
          subst h
          simp only [SV.den, SC.den]
          rw [if_pos (inR_ok h1)]
          try first | rfl | simp only [Nat.add_assoc] | simp only [List.drop_drop]
      · cases h
    · cases h
  · cases h

theorem indexS_ok (hty : TyOk P ty) {t : TypeId} {x i : SV} {v : SV} (h : indexS ty t x i = some (true, v)) : indexE P t x.den i.den = some v.den := by
  unfold indexS at h
  split at h
  · rename_i inf c1 n hi hn
    simp only [indexE, hty.ok _ _ _ hi, intOfS_ok hn]
    split at h
    · rename_i len e cs hk
      split at h
      · rename_i j c2 hj
        rw [Option.map_eq_some_iff] at h
        obtain ⟨u, h1, h2⟩ := h
        injection h2 with h2 h3
        subst h3
        simp only [SV.den, hk, hty.ok _ _ _ hj]
        rw [if_pos (inR_ok h2)]
        exact partS_ok h1
      · cases h
    · rename_i s hk
      injection h with h
      injection h with h1 h
      subst h
      have hr := inR_ok h1
      have hl : n.toNat < s.length := by omega
      simp only [SV.den, SC.den, hk]
      rw [if_pos hr.1]
      simp [hl, byteAt, aI]
    · cases h
  · cases h

theorem extractS_ok {x : SV} {i : Nat} {v : SV} (h : extractS x i = some v) : extractE x.den i = some v.den := by
  unfold extractS at h
  split at h
  · rename_i xs
    split at h
    · rename_i c hc
      injection h with h; subst h
      simp [SV.den, extractE, hc, denP]
    · rename_i c hc
      injection h with h; subst h
      simp [SV.den, extractE, hc, denP]
    · cases h
  · cases h

/-! ### building -/
theorem zeroS_ok {i : TInf} {cs : List SC} (h : zeroS i = some cs) : ∃ z, i.zero = some z ∧ cs.map SC.den = z.map .t := by
  unfold zeroS at h
  split at h
  · rename_i z hz; exact ⟨z, hz, scOfTs_den h⟩
  · cases h

theorem fillS_ok {place : Nat → Option (Nat × Nat)} : ∀ {ps : List (Nat × SV)} {cs cs' : List SC}, fillS place ps cs = some cs' → fillE place (ps.map fun x => (x.1, x.2.den)) (cs.map SC.den) = some (cs'.map SC.den)
  | [], cs, cs', h => by simp only [fillS, Option.some.injEq] at h; subst h; rfl
  | (i, v) :: ps, cs, cs', h => by
    simp only [fillS] at h
    split at h
    · rename_i off size hp
      split at h
      · rename_i h1 h2 h3
        simp only [List.map_cons, fillE, hp]
        rw [if_pos ⟨by rw [SV.flat_den]; exact h1, by rw [SV.cells_den, List.length_map]; exact eqB h2, by rw [List.length_map]; exact leB' h3⟩]
        have := fillS_ok h
        rw [splice_den] at this
        rw [SV.cells_den]
        exact this
      · cases h
    · cases h

theorem placesS_ok (hty : TyOk P ty) : ∀ {fs : List (Nat × TypeId)} {ps : List (Nat × Nat)}, placesS ty fs = some ps → placesE P fs = some ps
  | [], ps, h => by simp only [placesS, Option.some.injEq] at h; subst h; rfl
  | (off, t) :: fs, ps, h => by
    simp only [placesS] at h
    split at h
    · rename_i i c ps' h1 h2
      injection h with h
      subst h
      simp [placesE, hty.ok _ _ _ h1, placesS_ok hty h2]
    · cases h

theorem buildS_ok (hty : TyOk P ty) {t : TypeId} {ps : List (Nat × SV)} {v : SV} (h : buildS ty t ps = some v) : buildE P t (ps.map fun x => (x.1, x.2.den)) = some v.den := by
  unfold buildS at h
  split at h
  · rename_i i c hi
    simp only [buildE, hty.ok _ _ _ hi]
    split at h
    · rename_i z fs hz hk
      obtain ⟨z', h1, h2⟩ := zeroS_ok hz
      split at h
      · rename_i places hp
        rw [Option.map_eq_some_iff] at h
        obtain ⟨cs, h3, rfl⟩ := h
        simp only [h1, hk, placesS_ok hty hp, ← h2, fillS_ok h3]
        rfl
      · cases h
    · rename_i z n e hz hk
      obtain ⟨z', h1, h2⟩ := zeroS_ok hz
      split at h
      · rename_i j c2 hj
        rw [Option.map_eq_some_iff] at h
        obtain ⟨cs, h3, rfl⟩ := h
        simp only [h1, hk, hty.ok _ _ _ hj, ← h2, fillS_ok h3]
        rfl
      · cases h
    · cases h
  · cases h

theorem refsS_ok : ∀ {vs : List SV} {rs : List Ref}, refsS vs = some rs → refsOf (vs.map SV.den) = some rs
  | [], rs, h => by simp only [refsS, Option.some.injEq] at h; subst h; rfl
  | v :: vs, rs, h => by
    cases v with
    | c x => cases x with
      | ptr id off =>
        simp only [refsS, Option.map_eq_some_iff] at h
        obtain ⟨rs', h1, rfl⟩ := h
        simp [SV.den, SC.den, refsOf, refsS_ok h1]
      | _ => cases h
    | _ => cases h

/-! ### merging -/
theorem mergeC_ok {b : Bool} {x y z : SC} (h : mergeC b x y = some z) : z.den = bif b then x.den else y.den := by
  unfold mergeC at h
  split at h
  · injection h with h; subst h; cases b <;> rfl
  · split at h
    · rename_i hk; injection h with h; subst h; rw [kindB_eq hk]; cases b <;> rfl
    · cases h
  · injection h with h; subst h; cases b <;> rfl
  · injection h with h; subst h; cases b <;> rfl
  · injection h with h; subst h; cases b <;> rfl
  · injection h with h; subst h; cases b <;> rfl
  · injection h with h; subst h; cases b <;> rfl
  · split at h
    · rename_i hb
      injection h with h; subst h
      cases b
      · simp only [cond_false, SC.den, castL_flat, castL_length]
      · rfl
    · cases h
  · split at h
    · rename_i h1 h2; injection h with h; subst h; rw [eqB h1, eqB h2]; cases b <;> rfl
    · cases h
  · split at h
    · rename_i h1 h2 h3; injection h with h; subst h; rw [eqB h1, eqB h2, eqB h3]; cases b <;> rfl
    · cases h
  · split at h
    · rename_i h1 h2 h3; injection h with h; subst h; rw [eqB h1, eqB h2, eqB h3]; cases b <;> rfl
    · cases h
  · split at h
    · rename_i h1; injection h with h; subst h; rw [eqB h1]; cases b <;> rfl
    · cases h
  · cases h

theorem mergeCL_ok {b : Bool} : ∀ {x y z : List SC}, mergeCL b x y = some z → z.map SC.den = bif b then x.map SC.den else y.map SC.den
  | [], [], z, h => by simp only [mergeCL, Option.some.injEq] at h; subst h; cases b <;> rfl
  | [], _ :: _, z, h => by cases h
  | _ :: _, [], z, h => by cases h
  | x :: xs, y :: ys, z, h => by
    simp only [mergeCL] at h
    split at h
    · rename_i u us h1 h2
      injection h with h
      subst h
      simp only [List.map_cons, mergeC_ok h1, mergeCL_ok h2]
      cases b <;> rfl
    · cases h

theorem mergeV_ok {b : Bool} {x y z : SV} (h : mergeV b x y = some z) : z.den = bif b then x.den else y.den := by
  unfold mergeV at h
  split at h
  · rw [Option.map_eq_some_iff] at h
    obtain ⟨u, h1, rfl⟩ := h
    simp only [SV.den, mergeC_ok h1]
    cases b <;> rfl
  · rw [Option.map_eq_some_iff] at h
    obtain ⟨u, h1, rfl⟩ := h
    simp only [SV.den, mergeCL_ok h1]
    cases b <;> rfl
  · cases h

theorem minmaxS_ok {mx : Bool} {l : List SV} {c : SC} (h : minmaxS mx l = some c) : minmaxE mx (l.map SV.den) = some (.c c.den) := by
  unfold minmaxS at h
  split at h
  · rename_i k x k' y
    split at h
    · rename_i hk
      injection h with h
      subst h
      simp only [List.map_cons, List.map_nil, SV.den, SC.den, minmaxE]
      rw [if_pos (kindB_eq hk)]
      cases mx <;> rfl
    · cases h
  · cases h

end
end Go.Abs
