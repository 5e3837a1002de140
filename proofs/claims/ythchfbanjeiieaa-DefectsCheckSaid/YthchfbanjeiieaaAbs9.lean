/-
  A general library: each operation of the abstract heap is what the machine does. Part 7: new objects, stores, make, append, copy.
-/
import Derived.Test.YthchfbanjeiieaaAbs8
set_option linter.unusedSimpArgs false
set_option linter.unusedVariables false
namespace Go.Abs

section
variable {P : Program} {ι : Map} {σ : Heap} {w : World}

/-- a computation gives this value and leaves this heap -/
def DidV (P : Program) (ι : Map) (σ : Heap) (w : World) (s : Sem Value) (x : AV) (σ' : Heap) : Prop :=
  ∃ ι' w' v, s.run P w = .ok v w' ∧ VR ι' w' x v ∧ Step ι σ w ι' σ' w' ∧ HR ι' σ' w'

theorem DidV.pure (h : HR ι σ w) {s : Sem Value} {x : AV} {v : Value} (hr : s.run P w = .ok v w) (hv : VR ι w x v) : DidV P ι σ w s x σ :=
  ⟨ι, w, v, hr, hv, Step.refl ι σ w, h⟩

theorem ptr_new {ι' : Map} {n b tot es : Nat} (h : ι' n = some ⟨some ⟨b, 0, tot⟩, es, 0⟩) (w' : World) : VR ι' w' (.c (.ptr ⟨n, 0, 0⟩)) (.pointer (some ⟨b, 0, none⟩)) :=
  ⟨_, rfl, _, h, Nat.le_refl _, fun _ => ⟨_, rfl, rfl⟩⟩

theorem new_ok (h : HR ι σ w) {cs : List Cell} {arr : Array Value} (hc : cellsR ι w cs arr) (e : TypeId) (es : Nat) :
    ∃ ι' w', (newRow e arr).run P w = .ok ⟨w.heap.size, 0, none⟩ w' ∧ Step ι σ w ι' (σ ++ [{ cs := cs, es := es }]) w' ∧ HR ι' (σ ++ [{ cs := cs, es := es }]) w' ∧
      ι' σ.length = some ⟨some ⟨w.heap.size, 0, arr.size⟩, es, 0⟩ := by
  obtain ⟨h1, h2⟩ := HR.push (w' := { w with heap := w.heap.push (.cells arr e) }) (o := { cs := cs, es := es }) h rfl rfl rfl rfl (by rw [hc.1]; exact Nat.le_refl _) hc.2
  exact ⟨_, _, rfl, h1, h2, Map.push_same _ _ _⟩

theorem alloc_ok (h : HR ι σ w) {t : TypeId} {i : TInf} (ht : tinf P t = some i) {z : List T} (hz : i.zero = some z) :
    DidV P ι σ w (Instr.alloc t true (.tuple #[])) (newE σ (z.map .t)).1 (newE σ (z.map .t)).2 := by
  obtain ⟨zv, hz1, hz2⟩ := tinf_zero ht hz w
  obtain ⟨ι', w', h1, h2, h3, h4⟩ := new_ok (P := P) h (ts_cellsR (ι := ι) (w := w) hz2) t 1
  exact ⟨ι', w', _, by simp [Instr.alloc, hz1, newVar, h1], ptr_new h4 w', h2, h3⟩

theorem box_ok (h : HR ι σ w) {x : AV} {v : Value} (hf : x.flat = true) (hv : VR ι w x v) (t : TypeId) :
    DidV P ι σ w (Instr.box t v) (newE σ x.cells).1 (newE σ x.cells).2 := by
  obtain ⟨ι', w', h1, h2, h3, h4⟩ := new_ok (P := P) h (cells_ok hf hv) t 1
  exact ⟨ι', w', _, by simp [Instr.box, newVar, h1], ptr_new h4 w', h2, h3⟩

theorem storeE_ok (h : HR ι σ w) {t : TypeId} {i : TInf} (ht : tinf P t = some i) {a x : AV} {u v : Value} (ha : VR ι w a u) (hx : VR ι w x v) {σ' : Heap} (hs : storeE σ i a x = some σ') :
    ∃ ι' w', (Instr.storeAt t u v).run P w = .ok () w' ∧ Step ι σ w ι' σ' w' ∧ HR ι' σ' w' := by
  unfold storeE at hs
  split at hs
  · rename_i r
    split at hs
    · rename_i o ho
      split at hs
      · rename_i hc
        obtain ⟨hf, hl, hfit⟩ := hc
        injection hs with hs
        subst hs
        obtain ⟨ad, rfl, hr⟩ := ha
        obtain ⟨s, h1, h2, h3, h4, l, hl2, e⟩ := h.ref ho hr
        injection e with e
        subst e
        obtain ⟨hn, hcc⟩ := cells_ok hf hx
        obtain ⟨w', h5, h6, h7⟩ := HR.write h h1 hl2 h2 P r.off x.cells v.cells.toList (by simpa using hn) (fun k hk => by simpa using hcc k hk) (by omega)
        refine ⟨ι, w', ?_, h6, h7⟩
        have hsz : ¬ (v.cells.size ≠ i.size) := by rw [hn, hl]; simp
        simp only [Instr.storeAt, Instr.sureAddr, Sem.run_bind, Sem.run_pure, Result.andThen_ok, storeVar, tinf_size ht w, if_neg hsz]
        simpa using h5
      · cases hs
    · cases hs
  · cases hs

theorem imm_new {ts : List T} {len c : Nat} {cap : Option Nat} {arr : Array Value} {e : TypeId} (h : HR ι σ w) (hc : cellsR ι w (ts.map .t) arr) (hlc : len ≤ c) (hcap : capOk cap c) :
    DidV P ι σ w (do pure (.slice (some (← newRow e arr)) len c)) (.c (.t (.imm ts len cap))) σ := by
  obtain ⟨h1, h2, h3⟩ := new_un h (w' := { w with heap := w.heap.push (.cells arr e) }) rfl rfl rfl
  refine ⟨ι, { w with heap := w.heap.push (.cells arr e) }, .slice (some ⟨w.heap.size, 0, none⟩) len c, rfl, ?_, h1, h2⟩
  have hnew : ({ w with heap := w.heap.push (.cells arr e) } : World).heap[w.heap.size]? = some (.cells arr e) := by simp
  refine TR.imm ts len cap w.heap.size 0 c (fun i => arr.getD i undef) h3 ⟨arr, e, (0, 0), hnew⟩ hcap hlc (fun i hi => ?_) (fun i hi => ?_)
  · obtain ⟨u, h4, _⟩ := hc.2 i (by simpa using hi)
    simp only [World.cell?, hnew, Nat.zero_add]
    simp [h4]
  · obtain ⟨u, h4, h5⟩ := hc.2 i (by simpa using hi)
    have e1 : arr.getD i undef = u := by simp [h4]
    have h6 : CR ι { w with heap := w.heap.push (.cells arr e) } (Cell.t ts[i]) u := by
      have := CR.step h1 h5
      simpa using this
    simpa [e1, CR] using h6

theorem sl_new {ι' : Map} {n b tot es len c : Nat} {cap : Option Nat} (h : ι' n = some ⟨some ⟨b, 0, tot⟩, es, 0⟩) (hl : len ≤ c) (hcap : capOk cap c) (ht : c * es ≤ tot) (ht' : cap = none → c * es = tot) (w' : World) :
    VR ι' w' (.c (.sl ⟨n, 0, 0⟩ len cap)) (.slice (some ⟨b, 0, none⟩) len c) :=
  ⟨_, _, rfl, .inr rfl, _, h, Nat.le_refl _, fun _ => ⟨hl, hcap, rfl, by simpa using ht, fun e => by simpa using ht' e⟩⟩

theorem buildSliceE_ok (h : HR ι σ w) {t : TypeId} {n : Nat} {ps : List (Nat × AV)} {y : AV} {σ' : Heap} (hb : buildSliceE P σ t n ps = some (y, σ')) {vs : Array (Nat × Value)}
    (hv : vs.toList.length = ps.length ∧ ∀ i (h : i < ps.length), ∃ v, vs.toList[i]? = some (ps[i].1, v) ∧ VR ι w ps[i].2 v) : DidV P ι σ w (Instr.buildSlice t n vs) y σ' := by
  unfold buildSliceE at hb
  split at hb
  · rename_i i hi
    split at hb
    · rename_i e hk
      have hu := kind_slice hi hk
      split at hb
      · rename_i j hj
        split at hb
        · rename_i z hz
          obtain ⟨zv, hz1, hz2⟩ := tinf_zero hj hz w
          split at hb
          · rename_i hc
            obtain ⟨hsz, hpos, hmax⟩ := hc
            split at hb
            · rename_i cs hf
              obtain ⟨arr, h1, h2⟩ := fill_ok hf (repl_cells (ι := ι) (w := w) hz2 (by omega)) hv
              have h24 : ¬ (n * j.size > 2 ^ 24) := by omega
              have hrun : (Instr.buildSlice t n vs).run P w = (do pure (.slice (some (← newRow e arr)) n n) : Sem Value).run P w := by
                by_cases h0 : n * j.size = 0
                · have e0 : ∀ f : Nat → Value, (Array.range (n * j.size)).map f = #[] := fun f => by rw [h0]; simp
                  rw [← hsz, e0] at h1
                  simp only [Instr.buildSlice, Sem.run_bind, run_underlying hu, Result.andThen_ok, tinf_size hj w, if_neg h24, if_pos h0, Sem.run_pure, e0, h1]
                · rw [← hsz] at h1
                  simp only [Instr.buildSlice, Sem.run_bind, run_underlying hu, Result.andThen_ok, tinf_size hj w, if_neg h24, if_neg h0, hz1, Sem.run_pure, h1]
              split at hb
              · rename_i ts hts
                injection hb with hb
                injection hb with e1 e2
                subst e1; subst e2
                have hcs := allT_eq hts
                subst hcs
                obtain ⟨ι', w', v, h3, h4, h5, h6⟩ := imm_new (P := P) (e := e) (len := n) (c := n) (cap := some n) h h2 (Nat.le_refl _) rfl
                exact ⟨ι', w', v, by rw [hrun]; exact h3, h4, h5, h6⟩
              · injection hb with hb
                injection hb with e1 e2
                subst e1; subst e2
                obtain ⟨ι', w', h3, h4, h5, h6⟩ := new_ok (P := P) h h2 e j.size
                refine ⟨ι', w', _, by rw [hrun]; simp [h3], sl_new (cap := some n) h6 (Nat.le_refl _) rfl ?_ (fun e => by cases e) w', h4, h5⟩
                have hl := h2.1
                have : cs.length = ((repl n z).map Cell.t).length := by
                  clear h1 h2 hrun hl
                  have key : ∀ (ps : List (Nat × AV)) (cs cs' : List Cell), fillE (fun m => some (m * j.size, j.size)) ps cs = some cs' → cs'.length = cs.length := by
                    intro ps
                    induction ps with
                    | nil => intro cs cs' hh; simp only [fillE, Option.some.injEq] at hh; rw [hh]
                    | cons p ps ih =>
                      intro cs cs' hh
                      obtain ⟨m, x⟩ := p
                      simp only [fillE] at hh
                      split at hh
                      · rename_i hc
                        rw [ih _ _ hh, splice_length _ _ _ (by omega)]
                      · cases hh
                  exact key _ _ _ hf
                rw [hl, this]
                simp [repl_length, hsz]
            · cases hb
          · cases hb
        · cases hb
      · cases hb
    · cases hb
  · cases hb

theorem makeSliceE_ok (h : HR ι σ w) {t : TypeId} {l c y : AV} {σ' : Heap} (hm : makeSliceE P σ t l c = some (y, σ')) {u v : Value} (hl : VR ι w l u) (hc : VR ι w c v) : DidV P ι σ w (Instr.makeSlice t u v) y σ' := by
  unfold makeSliceE at hm
  split at hm
  · rename_i i n m hi hn hmm
    obtain ⟨k, rfl⟩ := intOf_ok hn hl
    obtain ⟨k', rfl⟩ := intOf_ok hmm hc
    split at hm
    · rename_i e hk
      have hu := kind_slice hi hk
      split at hm
      · rename_i j hj
        split at hm
        · rename_i z hz
          obtain ⟨zv, hz1, hz2⟩ := tinf_zero hj hz w
          obtain ⟨inf, hinf, hby, _, _⟩ := tinf_info hj w
          split at hm
          · rename_i hcond
            obtain ⟨hsz, hpos, h0, hle, hbytes, hmax⟩ := hcond
            injection hm with hm
            injection hm with e1 e2
            subst e1; subst e2
            have hw1 : IntKind.i64.wrap n = n := IntWalk.i64_in _ (by omega)
            have hw2 : IntKind.i64.wrap m = m := IntWalk.i64_in _ (by omega)
            have hcells : cellsR ι w ((repl m.toNat z).map .t) ((Array.range (m.toNat * z.length)).map (zv.cells[· % zv.cells.size]!)) := repl_cells hz2 (by omega)
            obtain ⟨ι', w', h3, h4, h5, h6⟩ := new_ok (P := P) h hcells e j.size
            have hmb : (inf.bytes : Int) * m ≤ 281474976710656 := by rw [hby, Int.mul_comm]; exact hbytes
            have hnb : (inf.bytes : Int) * n ≤ 281474976710656 := by
              have : (inf.bytes : Int) * n ≤ inf.bytes * m := Int.mul_le_mul_of_nonneg_left hle (by omega)
              omega
            refine ⟨ι', w', .slice (some ⟨w.heap.size, 0, none⟩) n.toNat m.toNat, ?_, sl_new (cap := some m.toNat) h6 (by omega) rfl (by simp [hsz]) (fun e => by cases e) w', h4, h5⟩
            have hrun0 : ∀ b : Bool, b = false → (if b = true then True else False) = False := fun b hb => by simp [hb]
            have c1 : ¬ (m < 0) := by omega
            have c2 : ¬ ((inf.bytes : Int) * m > 2 ^ 48) := by
              have : (2 : Int) ^ 48 = 281474976710656 := by decide
              rw [this]; omega
            have c3 : ¬ (n < 0) := by omega
            have c4 : ¬ (n > m) := by omega
            by_cases h0' : m.toNat * j.size = 0
            · have e0 : ∀ f : Nat → Value, (Array.range (m.toNat * j.size)).map f = #[] := fun f => by rw [h0']; simp
              rw [← hsz, e0] at h3
              simp only [Instr.makeSlice, Sem.run_bind, run_underlying hu, Result.andThen_ok, asInt, asIntOf, Sem.run_pure, hinf, hw1, hw2]
              simp only [c1, c2, c3, c4, decide_false, Bool.or_self, Bool.false_eq_true, if_false, run_askRoom, Result.andThen_ok, tinf_size hj w, Sem.run_bind, if_pos h0', e0, h3, Sem.run_pure]
            · rw [← hsz] at h3
              simp only [Instr.makeSlice, Sem.run_bind, run_underlying hu, Result.andThen_ok, asInt, asIntOf, Sem.run_pure, hinf, hw1, hw2]
              simp only [c1, c2, c3, c4, decide_false, Bool.or_self, Bool.false_eq_true, if_false, run_askRoom, Result.andThen_ok, tinf_size hj w, Sem.run_bind, if_neg h0', hz1, h3, Sem.run_pure]
          · cases hm
        · cases hm
      · cases hm
    · cases hm
  · cases hm

end
end Go.Abs
