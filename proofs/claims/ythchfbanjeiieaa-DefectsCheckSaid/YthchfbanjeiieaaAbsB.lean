/-
  A general library: each operation of the abstract heap is what the machine does. Part 9: append and copy on abstract values.
-/
import Derived.Test.YthchfbanjeiieaaAbsA
set_option linter.unusedSimpArgs false
set_option linter.unusedVariables false
namespace Go.Abs

section
variable {P : Program} {ι : Map} {σ : Heap} {w : World}

theorem cellsR.append {xs ys : List Cell} {a b : Array Value} (h1 : cellsR ι w xs a) (h2 : cellsR ι w ys b) : cellsR ι w (xs ++ ys) (a ++ b) := by
  refine ⟨by simp [h1.1, h2.1], fun i hi => ?_⟩
  by_cases c : i < xs.length
  · obtain ⟨u, h3, h4⟩ := h1.2 i c
    refine ⟨u, ?_, by rw [List.getElem_append_left c]; exact h4⟩
    rw [Array.getElem?_append_left (by rw [h1.1]; exact c)]; exact h3
  · have hi' : i - xs.length < ys.length := by simp at hi; omega
    obtain ⟨u, h3, h4⟩ := h2.2 (i - xs.length) hi'
    refine ⟨u, ?_, by rw [List.getElem_append_right (by omega)]; exact h4⟩
    rw [Array.getElem?_append_right (by rw [h1.1]; omega), h1.1]; exact h3

/-- cells of a new block, with more behind them -/
theorem push_more (h : HR ι σ w) {cs : List Cell} {arr more : Array Value} (hc : cellsR ι w cs arr) (e : TypeId) (es : Nat) {w' : World} (hh : w'.heap = w.heap.push (.cells (arr ++ more) e)) (ho : w'.os = w.os) (hp : w'.output = w.output) :
    ∃ ι', Step ι σ w ι' (σ ++ [{ cs := cs, es := es }]) w' ∧ HR ι' (σ ++ [{ cs := cs, es := es }]) w' ∧ ι' σ.length = some ⟨some ⟨w.heap.size, 0, (arr ++ more).size⟩, es, 0⟩ := by
  obtain ⟨h1, h2⟩ := HR.push (o := { cs := cs, es := es }) h hh ho hp rfl (by simp [hc.1]) (fun i hi => by
    obtain ⟨u, h3, h4⟩ := hc.2 i hi
    exact ⟨u, by rw [Array.getElem?_append_left (by rw [hc.1]; exact hi)]; exact h3, h4⟩)
  exact ⟨_, h1, h2, Map.push_same _ _ _⟩

/-- a run of cells is stored into an object's block, perhaps beyond its cells -/
theorem HR.writeG (h : HR ι σ w) {id : Nat} {s : Spot} {o o' : Obj} {l : Loc} (hid : ι id = some s) (hl : s.loc = some l) (ho : σ[id]? = some o)
    (P : Program) (off : Nat) (xs : List Cell) (vs : List Value) (hx : cellsR ι w xs vs.toArray) (hfit : off + xs.length ≤ l.tot) (s' : Spot) (hs' : s'.loc = some l) (hes : o'.es = s'.es) (hep : o'.ep = s'.ep)
    (hle : s.ep ≤ s'.ep) (heq : s.ep = s'.ep → s' = s) (hlen : o'.cs.length ≤ l.tot)
    (hcs : ∀ i (hi : i < o'.cs.length), (∃ hj : i - off < xs.length, off ≤ i ∧ o'.cs[i] = xs[i - off]) ∨ ((i < off ∨ off + xs.length ≤ i) ∧ ∃ hj : i < o.cs.length, o'.cs[i] = o.cs[i])) :
    ∃ w', (storeCells ⟨l.blk, l.sh + off, none⟩ vs).run P w = .ok () w' ∧ Step ι σ w (ι.push id s') (σ.set id o') w' ∧ HR (ι.push id s') (σ.set id o') w' := by
  obtain ⟨hn, hxx⟩ := hx
  have hn : vs.length = xs.length := by simpa using hn
  obtain ⟨o2, ho2, hor⟩ := h.obj _ _ hid
  rw [ho] at ho2
  injection ho2 with ho2
  subst ho2
  obtain ⟨h1, h2, h3⟩ := hor
  rw [hl] at h3
  obtain ⟨⟨cells, elem, h4, h5⟩, h6, h7⟩ := h3
  have hone : ∀ v ∈ vs, v.oneCell' = true := fun v hv => by
    obtain ⟨i, hi⟩ := List.getElem?_of_mem hv
    have hlt : i < xs.length := by rw [← hn]; exact (List.getElem?_eq_some_iff.1 hi).1
    obtain ⟨u, h8, h9⟩ := hxx i hlt
    have h8 : vs[i]? = some u := by simpa using h8
    rw [hi] at h8
    injection h8 with h8
    subst h8
    exact CR.oneCell h9
  have hrun := run_storeCells_at P l.blk (l.sh + off) elem vs 0 cells w h4 (by omega) hone
  simp only [Nat.add_zero] at hrun
  refine ⟨_, hrun, ?_⟩
  generalize hw' : w.setRow l.blk (cells.toList.take (l.sh + off) ++ vs ++ cells.toList.drop (l.sh + off + vs.length)).toArray = w'
  have hnew : w'.heap[l.blk]? = some (.cells (cells.toList.take (l.sh + off) ++ vs ++ cells.toList.drop (l.sh + off + vs.length)).toArray elem (0, 0)) := by
    rw [← hw']; exact setRow_heap w l.blk cells _ elem _ h4
  have hfr : ∀ b, b < w.heap.size → (∀ l', s.loc = some l' → l'.blk ≠ b) → w'.heap[b]? = w.heap[b]? := fun b _ hb => by
    rw [← hw']
    simp only [World.setRow]
    rw [Array.getElem?_modify]
    simp [hb l hl]
  have hst0 : Step ι σ w (ι.push id s') (σ.set id o') w' := by
    refine Step.upd h hid hle heq ?_ ?_ ?_ (fun l' hl' => .inr ⟨id, s, l, hid, hl, by rw [hs'] at hl'; injection hl' with e; rw [e]⟩) hfr
    · rw [← hw']; simp [World.setRow]
    · rw [← hw']; rfl
    · rw [← hw']; rfl
  have hsz : (cells.toList.take (l.sh + off) ++ vs ++ cells.toList.drop (l.sh + off + vs.length)).toArray.size = cells.size := by simp; omega
  have hcell : ∀ i v, (cells.toList.take (l.sh + off) ++ vs ++ cells.toList.drop (l.sh + off + vs.length))[l.sh + i]? = some v → w'.cell? ⟨l.blk, l.sh + i, none⟩ = some v := fun i v hv => by
    simp only [World.cell?, hnew]
    simpa using hv
  have hold : ∀ i, w.cell? ⟨l.blk, l.sh + i, none⟩ = cells[l.sh + i]? := fun i => by simp [World.cell?, h4]
  have hor' : OR (ι.push id s') w' o' s' := by
    refine ⟨hes, hep, ?_⟩
    rw [hs']
    refine ⟨⟨_, elem, hnew, by rw [hsz]; exact h5⟩, hlen, fun i hi => ?_⟩
    rcases hcs i hi with ⟨hj, hge, e⟩ | ⟨hout, hj, e⟩
    · obtain ⟨u, h8, h9⟩ := hxx (i - off) hj
      refine ⟨u, hcell i u ?_, by rw [e]; exact h9.step hst0⟩
      rw [List.append_assoc, List.getElem?_append_right (by simp; omega)]
      have e0 : l.sh + i - (List.take (l.sh + off) cells.toList).length = i - off := by simp; omega
      rw [e0, List.getElem?_append_left (by omega)]
      simpa using h8
    · obtain ⟨v, h8, h9⟩ := h7 i hj
      refine ⟨v, hcell i v ?_, by rw [e]; exact h9.step hst0⟩
      rw [hold i] at h8
      rcases hout with hlt | hge
      · rw [List.append_assoc, List.getElem?_append_left (by simp; omega), List.getElem?_take_of_lt (by omega)]
        simpa using h8
      · rw [List.append_assoc, List.getElem?_append_right (by simp; omega)]
        have e0 : l.sh + i - (List.take (l.sh + off) cells.toList).length = i - off := by simp; omega
        rw [e0, List.getElem?_append_right (by omega), List.getElem?_drop]
        have e1 : l.sh + off + vs.length + (i - off - vs.length) = l.sh + i := by omega
        rw [e1]
        simpa using h8
  exact ⟨hst0, HR.upd h hid hst0 hfr (fun l' hl' => .inr ⟨l, hl, by rw [hs'] at hl'; injection hl' with e; rw [e]⟩) hor'⟩

theorem set_self {α : Type} : ∀ (l : List α) (i : Nat) (x : α), l[i]? = some x → l.set i x = l
  | [], _, _, h => by simp at h
  | y :: l, 0, x, h => by simp at h; simp [h]
  | y :: l, i + 1, x, h => by simp at h; simp [set_self l i x h]

theorem splice_nil (cs : List Cell) (off : Nat) : splice cs off [] = cs := by simp [splice]

theorem kind_app {u : TypeId} {iu : TInf} (hu : tinf P u = some iu) : (∃ e, iu.kind = .slice e) ∨ iu.kind = .string → (∃ e', P.underlying u = some (.slice e')) ∨ P.underlying u = some .string
  | .inl ⟨_, h⟩ => .inl ⟨_, kind_slice hu h⟩
  | .inr h => .inr (kind_string hu h)

theorem appendE_ok (h : HR ι σ w) {t u : TypeId} {s x y : AV} {σ' : Heap} (ha : appendE P σ t s x = some (y, σ')) (hu : (∃ e', P.underlying u = some (.slice e')) ∨ P.underlying u = some .string) {sv xv : Value}
    (hs : VR ι w s sv) (hx : VR ι w x xv) {ts : Array TypeId} (ht0 : ts[0]? = some t) (ht1 : ts[1]? = some u) (rest : TypeId) : DidV P ι σ w (Builtin.append_ ts rest #[sv, xv]) y σ' := by
  unfold appendE at ha
  split at ha
  · rename_i i hi
    split at ha
    · rename_i e hk
      have ht := kind_slice hi hk
      split at ha
      · rename_i j hj
        split at ha
        · rename_i z m hz hm
          split at ha
          · rename_i hzs
            obtain ⟨hzs, hpos⟩ := hzs
            split at ha
            · rename_i new hnew
              obtain ⟨hnl, vs, hvs, hfirst⟩ := firstE_ok h (P := P) hnew hx
              have hlen := fun w2 => lenE_ok (P := P) hm hx w2
              split at ha
              · -- an immutable slice that is full
                rename_i cs len c
                split at ha
                · rename_i hc
                  obtain ⟨rfl, hcs, hroom⟩ := hc
                  obtain ⟨a, c', rfl, hcap, hlc⟩ := imm_len hs
                  have hcap : c' = c := hcap
                  subst hcap
                  split at ha
                  · rename_i hm0
                    subst hm0
                    injection ha with ha
                    injection ha with e1 e2
                    subst e1; subst e2
                    have hv0 : vs = [] := by
                      have := hvs.1
                      rw [hnl] at this
                      exact List.eq_nil_of_length_eq_zero (by simpa using this)
                    subst hv0
                    refine DidV.pure h (run_append_in ht0 ht1 ht hj hu rest (hlen w) (hfirst w rfl) (Nat.le_refl _) (fun b _ => ?_) (fun _ => rfl)) hs
                    simp [storeCells]
                  · rename_i hm0
                    injection ha with ha
                    injection ha with e1 e2
                    subst e1; subst e2
                    have hfo : firstE σ j.size c' (.c (.t (.imm cs c' (some c')))) = some (cs.map .t) := by
                      simp only [firstE]
                      rw [if_pos ⟨Nat.le_refl _, hcs⟩, ← hcs, List.take_length]
                    obtain ⟨hol, vo, hvo, hfold⟩ := firstE_ok h (P := P) hfo hs
                    obtain ⟨cap, more, hge, hms, hrun⟩ := run_append_out ht0 ht1 ht hj hz hzs hu rest (hlen w) hfirst hfold (by omega) hroom
                    obtain ⟨ι', h1, h2, h3⟩ := push_more (more := more) h (cellsR.append hvo hvs) e j.size (w' := { w with drawn := w.drawn + 1, heap := w.heap.push (.cells (vo.toArray ++ vs.toArray ++ more) e) }) rfl rfl rfl
                    have htot : cap * j.size = (vo.toArray ++ vs.toArray ++ more).size := by
                      have e1 := hvo.1
                      have e2 := hvs.1
                      rw [Array.size_append, Array.size_append, e1, e2, hms, hol, hnl]
                      have : c' * j.size + m * j.size = (c' + m) * j.size := (Nat.add_mul _ _ _).symm
                      rw [this, ← Nat.add_mul]
                      congr 1
                      omega
                    exact ⟨ι', _, _, hrun, sl_new (cap := none) h3 hge trivial (Nat.le_of_eq htot) (fun _ => htot) _, h1, h2⟩
                · cases ha
              · -- one's own slice that grows
                rename_i r len
                split at ha
                · rename_i o ho
                  split at ha
                  · rename_i hc
                    obtain ⟨hoff, hoes, hocs, hroom⟩ := hc
                    injection ha with ha
                    injection ha with e1 e2
                    subst e1; subst e2
                    obtain ⟨a, c, rfl, hsome, hr⟩ := hs
                    obtain ⟨sp, hsp, ho', hep, hor, hok⟩ := h.ref ho hr
                    obtain ⟨hlc, _, hok⟩ := hok
                    have hes : sp.es = j.size := by rw [← hor.1]; exact hoes
                    have hspep : sp.ep = r.ep := by rw [← hor.2.1]; exact hep
                    by_cases hin : len + m ≤ c
                    · cases hl : sp.loc with
                      | none =>
                        rw [hl] at hok
                        have hm0 : m = 0 := by omega
                        subst hm0
                        have hv0 : vs = [] := by
                          have := hvs.1
                          rw [hnl] at this
                          exact List.eq_nil_of_length_eq_zero (by simpa using this)
                        have hn0 : new = [] := List.eq_nil_of_length_eq_zero (by rw [hnl]; simp)
                        subst hv0
                        have hocs0 : o.cs = [] := by have := hor.2.2; rw [hl] at this; exact this
                        have hst : Step ι σ w (ι.push r.id ⟨none, sp.es, sp.ep + 1⟩) (σ.set r.id { o with cs := o.cs ++ new, ep := o.ep + 1 }) w :=
                          Step.upd h hsp (by simp) (fun e => by simp at e) (Nat.le_refl _) rfl rfl (fun l' hl' => by cases hl') (fun _ _ _ => rfl)
                        have hH := HR.upd h hsp hst (fun _ _ _ => rfl) (fun l' hl' => by cases hl') ⟨hor.1, by simp [hor.2.1], by simp [hocs0, hn0]⟩
                        refine ⟨_, w, _, run_append_in ht0 ht1 ht hj hu rest (hlen w) (hfirst w rfl) hin (fun b _ => by simp [storeCells]) (fun _ => rfl), ⟨_, _, rfl, by left; omega, _, Map.push_same _ _ _, by simp [hspep], fun _ => ⟨hin, trivial, ?_⟩⟩, hst, hH⟩
                        exact ⟨by omega, by omega, hoff⟩
                      | some l =>
                        rw [hl] at hok
                        obtain ⟨rfl, hle, heq⟩ := hok
                        have heq := heq rfl
                        rw [hoff, hes] at heq hle
                        simp only [Nat.zero_add] at heq hle
                        have hmul : len * j.size + m * j.size ≤ c * j.size := by rw [← Nat.add_mul]; exact Nat.mul_le_mul_right _ hin
                        obtain ⟨w', h1, h2, h3⟩ := HR.writeG (o' := { o with cs := o.cs ++ new, ep := o.ep + 1 }) h hsp hl ho' P (len * j.size) new vs hvs (by omega) ⟨some l, sp.es, sp.ep + 1⟩ rfl hor.1 (by simp [hor.2.1]) (by simp) (fun e => by simp at e)
                          (by simp only [List.length_append]; omega) (fun i hi => by
                            by_cases hlt : i < o.cs.length
                            · exact .inr ⟨.inl (by omega), hlt, by simp [List.getElem_append_left hlt]⟩
                            · have hi' : i - len * j.size < new.length := by simp at hi; omega
                              refine .inl ⟨hi', by omega, ?_⟩
                              simp only
                              rw [List.getElem_append_right (by omega)]
                              congr 1
                              omega)
                        refine ⟨_, w', _, run_append_in ht0 ht1 ht hj hu rest (hlen w) (hfirst w rfl) hin (fun b hb => ?_) (fun e => by cases e), ⟨_, _, rfl, .inr rfl, _, Map.push_same _ _ _, by simp [hspep], fun _ => ⟨hin, trivial, ?_⟩⟩, h2, h3⟩
                        · injection hb with hb
                          subst hb
                          rw [add_mk, hoff]
                          simpa using h1
                        · refine ⟨rfl, ?_, fun _ => ?_⟩
                          · simp only [hoff, hes]; omega
                          · simp only [hoff, hes]; omega
                    · have hfo : firstE σ j.size len (.c (.sl r len none)) = some o.cs := by
                        simp only [firstE, ho]
                        rw [if_pos ⟨by omega, Nat.le_refl _⟩, hoff, List.drop_zero, ← hocs, List.take_length]
                      obtain ⟨hol, vo, hvo, hfold⟩ := firstE_ok h (P := P) hfo ⟨a, c, rfl, hsome, hr⟩
                      obtain ⟨cap, more, hge, hms, hrun⟩ := run_append_out ht0 ht1 ht hj hz hzs hu rest (hlen w) hfirst hfold (by omega) hroom
                      have hca := cellsR.append hvo hvs
                      generalize hw' : ({ w with drawn := w.drawn + 1, heap := w.heap.push (.cells (vo.toArray ++ vs.toArray ++ more) e) } : World) = w' at hrun
                      have hheap : w'.heap = w.heap.push (.cells (vo.toArray ++ vs.toArray ++ more) e) := by rw [← hw']
                      have hfr : ∀ b, b < w.heap.size → w'.heap[b]? = w.heap[b]? := fun b hb => by rw [hheap]; simp [Array.getElem?_push, Nat.ne_of_lt hb]
                      have htot : cap * j.size = (vo.toArray ++ vs.toArray ++ more).size := by
                        have e1 := hvo.1
                        have e2 := hvs.1
                        rw [Array.size_append, Array.size_append, e1, e2, hms, hol, hnl]
                        have : len * j.size + m * j.size = (len + m) * j.size := (Nat.add_mul _ _ _).symm
                        rw [this, ← Nat.add_mul]
                        congr 1
                        omega
                      have hst : Step ι σ w (ι.push r.id ⟨some ⟨w.heap.size, 0, (vo.toArray ++ vs.toArray ++ more).size⟩, sp.es, sp.ep + 1⟩) (σ.set r.id { o with cs := o.cs ++ new, ep := o.ep + 1 }) w' :=
                        Step.upd h hsp (by simp) (fun e => by simp at e) (by rw [hheap]; simp) (by rw [← hw']) (by rw [← hw']) (fun l' hl' => by injection hl' with hl'; exact .inl (by rw [← hl']; exact Nat.le_refl _)) (fun b hb _ => hfr b hb)
                      have hnewb : w'.heap[w.heap.size]? = some (.cells (vo.toArray ++ vs.toArray ++ more) e) := by rw [hheap]; simp
                      have hH := HR.upd h hsp hst (fun b hb _ => hfr b hb) (fun l' hl' => by injection hl' with hl'; exact .inl (by rw [← hl']; exact Nat.le_refl _)) ⟨hor.1, by simp [hor.2.1], ⟨_, e, hnewb, by simp⟩, by
                        have e1 := hca.1
                        simp only [Array.size_append] at e1 ⊢
                        simp only [List.length_append] at e1 ⊢
                        omega, fun i hi => by
                        obtain ⟨v, h8, h9⟩ := hca.2 i hi
                        refine ⟨v, ?_, h9.step hst⟩
                        simp only [World.cell?, hnewb, Nat.zero_add]
                        have : i < (vo.toArray ++ vs.toArray).size := by rw [hca.1]; exact hi
                        simp only [Option.isSome_none, Bool.false_eq_true, if_false]
                        rw [Array.getElem?_append_left this]
                        exact h8⟩
                      refine ⟨_, w', _, hrun, ⟨_, _, rfl, .inr rfl, _, Map.push_same _ _ _, by simp [hspep], fun _ => ⟨hge, trivial, ?_⟩⟩, hst, hH⟩
                      refine ⟨by simp [hoff], ?_, fun _ => ?_⟩
                      · simp only [hoff, hes]; omega
                      · simp only [hoff, hes]; omega
                  · cases ha
                · cases ha
              · -- one's own slice of known capacity
                rename_i r len c
                split at ha
                · rename_i o ho
                  obtain ⟨a, c', rfl, hsome, hr⟩ := hs
                  obtain ⟨sp, hsp, ho', hep, hor, hok⟩ := h.ref ho hr
                  obtain ⟨hlc, hcap, hok⟩ := hok
                  have hcap : c' = c := hcap
                  subst hcap
                  split at ha
                  · rename_i hc
                    obtain ⟨hoes, hin, hfit⟩ := hc
                    have hes : sp.es = j.size := by rw [← hor.1]; exact hoes
                    injection ha with ha
                    injection ha with e1 e2
                    subst e1; subst e2
                    have hmul : len * j.size + m * j.size ≤ c' * j.size := by rw [← Nat.add_mul]; exact Nat.mul_le_mul_right _ hin
                    cases hl : sp.loc with
                    | none =>
                      rw [hl] at hok
                      have hm0 : m = 0 := by omega
                      subst hm0
                      have hv0 : vs = [] := by
                        have := hvs.1
                        rw [hnl] at this
                        exact List.eq_nil_of_length_eq_zero (by simpa using this)
                      have hn0 : new = [] := List.eq_nil_of_length_eq_zero (by rw [hnl]; simp)
                      subst hv0; subst hn0
                      rw [splice_nil]
                      have : ({ o with cs := o.cs } : Obj) = o := rfl
                      rw [this, set_self _ _ _ ho']
                      exact DidV.pure h (run_append_in ht0 ht1 ht hj hu rest (hlen w) (hfirst w rfl) hin (fun b _ => by simp [storeCells]) (fun _ => rfl)) ⟨_, _, rfl, by left; omega, sp, hsp, by rw [← hor.2.1, hep]; exact Nat.le_refl _, fun _ => ⟨hin, rfl, by rw [hl]; exact ⟨by omega, by omega, hok.2.2⟩⟩⟩
                    | some l =>
                      rw [hl] at hok
                      obtain ⟨rfl, hle, heq⟩ := hok
                      obtain ⟨w', h1, h2, h3⟩ := HR.write h hsp hl ho' P (r.off + len * j.size) new vs (by simpa using hvs.1) (fun k hk => by simpa using hvs.2 k hk) (by omega)
                      refine ⟨ι, w', _, run_append_in ht0 ht1 ht hj hu rest (hlen w) (hfirst w rfl) hin (fun b hb => ?_) (fun e => by cases e), ⟨_, _, rfl, .inr rfl, sp, hsp, by rw [← hor.2.1, hep]; exact Nat.le_refl _, fun _ => ⟨hin, rfl, by rw [hl]; exact ⟨rfl, hle, fun e => by cases e⟩⟩⟩, h2, h3⟩
                      injection hb with hb
                      subst hb
                      rw [add_mk, Nat.add_assoc]
                      simpa using h1
                  · split at ha
                    · rename_i hc
                      obtain ⟨hoes, hgt, hle', hfit, hroom⟩ := hc
                      injection ha with ha
                      injection ha with e1 e2
                      subst e1; subst e2
                      have hmul : len * j.size ≤ c' * j.size := Nat.mul_le_mul_right _ hle'
                      have hfo : firstE σ j.size len (.c (.sl r len (some c'))) = some ((o.cs.drop r.off).take (len * j.size)) := by
                        simp only [firstE, ho]
                        rw [if_pos ⟨by omega, Nat.le_refl _⟩]
                      obtain ⟨hol, vo, hvo, hfold⟩ := firstE_ok h (P := P) hfo ⟨a, c', rfl, hsome, hr⟩
                      obtain ⟨cap, more, hge, hms, hrun⟩ := run_append_out ht0 ht1 ht hj hz hzs hu rest (hlen w) hfirst hfold hgt hroom
                      obtain ⟨ι', h1, h2, h3⟩ := push_more (more := more) h (cellsR.append hvo hvs) e j.size (w' := { w with drawn := w.drawn + 1, heap := w.heap.push (.cells (vo.toArray ++ vs.toArray ++ more) e) }) rfl rfl rfl
                      have htot : cap * j.size = (vo.toArray ++ vs.toArray ++ more).size := by
                        have e1 := hvo.1
                        have e2 := hvs.1
                        rw [Array.size_append, Array.size_append, e1, e2, hms, hol, hnl]
                        have : len * j.size + m * j.size = (len + m) * j.size := (Nat.add_mul _ _ _).symm
                        rw [this, ← Nat.add_mul]
                        congr 1
                        omega
                      exact ⟨ι', _, _, hrun, sl_new (cap := none) h3 hge trivial (Nat.le_of_eq htot) (fun _ => htot) _, h1, h2⟩
                    · cases ha
                · cases ha
              · cases ha
            · cases ha
          · cases ha
        · cases ha
      · cases ha
    · cases ha
  · cases ha

end
end Go.Abs
