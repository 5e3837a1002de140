/-
  A general library: a region that draws its order of evaluation: the rule.
-/
import Derived.Test.YtogkpjhkpgdbkaaDoorWR2QAbsN
set_option linter.all false
namespace Go.Abs
variable [Gl]
section
variable {P : Program} {N : Nat} {ro : Option Nat}
theorem drawOk_spec {ops : Array Oper} (h : drawOk ops = true) {j : Nat} {o : Oper} (hj : ops[j]? = some o) :
  (∀ e ∈ o.after,Region.binds .any e = true → e.on < j) ∧
  (∀ i,i < j → ((Region.before ops).getD j 0).testBit i = true → ∃ e ∈ o.after,Region.binds .any e = true ∧ (e.on = i ∨ (i < e.on ∧ ((Region.before ops).getD e.on 0).testBit i = true))) ∧
  (∀ i p,i < j → ops[i]? = some p → (∃ d,(p.dst = some d ∧ (d ∈ tmpsOf o ops ∨ o.dst = some d)) ∨ (o.dst = some d ∧ d ∈ tmpsOf p ops)) → ((Region.before ops).getD j 0).testBit i = true) := by
 unfold drawOk at h
 simp only [List.all_eq_true] at h
 have hmem : (o,j) ∈ ops.toList.zipIdx := by
  rw [List.mem_iff_getElem?]
  exact ⟨j,by simp [hj]⟩
 have h1 := h (o,j) hmem
 simp only [Bool.and_eq_true,List.all_eq_true,List.mem_range,Array.all_eq_true_iff_forall_mem,Bool.or_eq_true,Bool.not_eq_true',decide_eq_true_eq,Array.any_eq_true] at h1
 refine ⟨fun e he hb => ?_,fun i hi hb => ?_,fun i p hi hp hc => ?_⟩
 ·rcases h1.1 e he with h2 | h2
  ·rw [hb] at h2; cases h2
  ·exact h2
 ·rcases (h1.2 i hi).1 with h2 | ⟨k,hk,h2⟩
  ·rw [hb] at h2; cases h2
  ·refine ⟨_,Array.getElem_mem hk,h2.1,?_⟩
   rcases h2.2 with h3 | h3
   ·exact .inl (by simpa using h3)
   ·exact .inr h3
 ·have h2 := (h1.2 i hi).2
  rw [hp] at h2
  simp only [Bool.or_eq_true,Bool.not_eq_true'] at h2
  rcases h2 with h2 | h2
  ·exfalso
   obtain ⟨d,h3⟩ := hc
   simp only [Bool.or_eq_false_iff] at h2
   rcases h3 with ⟨h4,h5⟩ | ⟨h4,h5⟩
   ·rw [h4] at h2
    simp only [Bool.or_eq_false_iff] at h2
    rcases h5 with h5 | h5
    ·simp [h5] at h2
    ·rw [h5] at h2; simp at h2
   ·rw [h4] at h2
    simp [h5] at h2
  ·exact h2
theorem at_agree {r r' : Regs} {t : Nat} (h : r'.get t = r.get t) : r'.at t = r.at t := by unfold Regs.at; rw [h]
theorem ev_agree {r r' : Regs} {x : Operand} (h : ∀ t,x = .tmp t → r'.get t = r.get t) : ev r' x = ev r x := by
 cases x with
 | tmp t => exact at_agree (h t rfl)
 | _ => rfl
theorem mem_tmps {o : Oper} {ops : Array Oper} {t : Nat} (h : .tmp t ∈ o.op.operands) : t ∈ tmpsOf o ops := by
 unfold tmpsOf
 refine List.mem_append_left _ (List.mem_filterMap.2 ⟨.tmp t,by simpa using h,rfl⟩)
theorem guardE_agree {ops : Array Oper} {o : Oper} {r r' : Regs} (h : ∀ t ∈ tmpsOf o ops,r'.get t = r.get t) : guardE ops r' o.guard = guardE ops r o.guard := by
 cases hg : o.guard with
 | none => rfl
 | some p =>
  obtain ⟨j,want⟩ := p
  simp only [guardE]
  split
  ·rename_i d hd
   rw [at_agree (h d (by unfold tmpsOf; rw [hg]; simp [hd]))]
  ·rfl
theorem putR_same {r r' : Regs} {d : Nat} (res : Option AV) : (r.putR (some d) res).get d = (r'.putR (some d) res).get d := by
 cases res with
 | none => simp [Regs.putR,Regs.drop,Regs.get_set_same]
 | some v => simp [Regs.putR,Regs.put,Regs.get_set_same]
theorem putR_ne {r : Regs} {dst : Option Nat} {d : Nat} (res : Option AV) (h : dst ≠ some d) : (r.putR dst res).get d = r.get d := by
 cases dst with
 | none => cases res <;> rfl
 | some k =>
  have : k ≠ d := fun e => h (by rw [e])
  cases res with
  | none => simp [Regs.putR,Regs.drop,Regs.get_set_ne _ _ this]
  | some v => simp [Regs.putR,Regs.put,Regs.get_set_ne _ _ this]
def RD (ops : Array Oper) (RH : Nat → List Nat) (j : Nat) (l : DL) : Prop := ∃ o,ops[j]? = some o ∧ match l with
 | .reg t => t ∈ tmpsOf o ops
 | .obj b => b + 1 ∈ RH j
 | .len => 0 ∈ RH j
def WD (ops : Array Oper) (WH : Nat → List Nat) (j : Nat) (l : DL) : Prop := ∃ o,ops[j]? = some o ∧ match l with
 | .reg t => o.dst = some t
 | .obj b => b + 1 ∈ WH j
 | .len => 0 ∈ WH j
def BD (ops : Array Oper) (j i : Nat) : Prop := i < j ∧ ((Region.before ops).getD j 0).testBit i = true
theorem facts_line {mm : Nat} {ops : Array Oper} {S : Nat → St} {RH WH : Nat → List Nat} (hd : drawOk ops = true) (hF : Facts P N mm ops (Region.before ops).toList 0 ops.size S RH WH) :
  Line ops.size S (RD ops RH) (WD ops WH) (BD ops) where
 same := fun j l hj hw => by
  obtain ⟨o,ho,_,b,hb,hws,ht,hf⟩ := hF.fact j (by omega) hj
  cases l with
  | reg t =>
   have hne : o.dst ≠ some t := fun e => hw ⟨o,ho,e⟩
   show (S (j + 1)).1.get t = (S j).1.get t
   cases b with
   | true => obtain ⟨res,h1,_⟩ := ht rfl; rw [h1]; exact putR_ne res hne
   | false =>
    rw [(hf rfl).1]
    exact putR_ne (r := (S j).1) none hne
  | obj b => exact hws (b + 1) fun hc => hw ⟨o,ho,hc⟩
  | len => exact hws 0 fun hc => hw ⟨o,ho,hc⟩
 order := fun i j hij hj hc => by
  refine ⟨hij,?_⟩
  obtain ⟨l,hc⟩ := hc
  have hi : i < ops.size := by omega
  obtain ⟨_,_,hclash⟩ := drawOk_spec hd (Array.getElem?_eq_getElem hj)
  cases hb : ((Region.before ops).getD j 0).testBit i with
  | true => rfl
  | false =>
   exfalso
   have hb' : ((Region.before ops).toList.getD j 0).testBit i = false := by
    rw [← hb]; congr 1; simp [Array.getD_eq_getD_getElem?,List.getD_eq_getElem?_getD]
   have hord := hF.order i j (by omega) hij hj hb'
   cases l with
   | reg t =>
    have : ((Region.before ops).getD j 0).testBit i = true := by
     rcases hc with ⟨⟨p,hp,h1⟩,⟨o,ho,h2⟩ | ⟨o,ho,h2⟩⟩ | ⟨⟨p,hp,h1⟩,⟨o,ho,h2⟩⟩
     ·have e : o = ops[j] := by rw [Array.getElem?_eq_getElem hj] at ho; injection ho with ho; exact ho.symm
      subst e
      exact hclash i p hij hp ⟨t,.inl ⟨h1,.inr h2⟩⟩
     ·have e : o = ops[j] := by rw [Array.getElem?_eq_getElem hj] at ho; injection ho with ho; exact ho.symm
      subst e
      exact hclash i p hij hp ⟨t,.inl ⟨h1,.inl h2⟩⟩
     ·have e : o = ops[j] := by rw [Array.getElem?_eq_getElem hj] at ho; injection ho with ho; exact ho.symm
      subst e
      exact hclash i p hij hp ⟨t,.inr ⟨h2,h1⟩⟩
    rw [hb] at this
    cases this
   | obj b =>
    rcases hc with ⟨⟨p,hp,h1⟩,⟨o,ho,h2⟩ | ⟨o,ho,h2⟩⟩ | ⟨⟨p,hp,h1⟩,⟨o,ho,h2⟩⟩
    ·exact (hord.1 _ h1).2 h2
    ·exact (hord.1 _ h1).1 h2
    ·exact hord.2 _ h2 h1
   | len =>
    rcases hc with ⟨⟨p,hp,h1⟩,⟨o,ho,h2⟩ | ⟨o,ho,h2⟩⟩ | ⟨⟨p,hp,h1⟩,⟨o,ho,h2⟩⟩
    ·exact (hord.1 _ h1).2 h2
    ·exact (hord.1 _ h1).1 h2
    ·exact hord.2 _ h2 h1
theorem getD_flip {listed : Array Bool} {i : Nat} (h : i < listed.size) : listed.getD i true = listed.getD i false := by
 simp [Array.getD,h]
theorem any_ready {ops : Array Oper} (hd : drawOk ops = true) {listed : Array Bool} (hsz : listed.size = ops.size) : ∀ (j : Nat),j < ops.size → listed.getD j true = false → Region.ready .any ops listed ≠ [] := by
 intro j
 induction j using Nat.strongRecOn with
 | _ j ih =>
  intro hj hu
  have ho := Array.getElem?_eq_getElem hj
  by_cases hall : ∀ e ∈ ops[j].after,Region.binds .any e = true → listed.getD e.on false = true
  ·intro he
   have : j ∈ Region.ready .any ops listed := mem_ready.2 ⟨hu,_,ho,hall⟩
   rw [he] at this
   cases this
  ·have : ∃ e,e ∈ ops[j].after ∧ Region.binds .any e = true ∧ listed.getD e.on false = false := by
    refine Classical.byContradiction fun hc => hall fun e he hb => ?_
    cases h : listed.getD e.on false with
    | true => rfl
    | false => exact absurd ⟨e,he,hb,h⟩ hc
   obtain ⟨e,he,hb,hl⟩ := this
   have hlt := (drawOk_spec hd ho).1 e he hb
   exact ih e.on hlt (by omega) (by rw [getD_flip (by omega)]; exact hl)
def LD (listed : Array Bool) (i : Nat) : Prop := listed.getD i false = true
theorem LD.set {listed : Array Bool} {j : Nat} (hj : j < listed.size) (k : Nat) : LD (listed.setIfInBounds j true) k ↔ k = j ∨ LD listed k := by
 unfold LD
 by_cases h : k = j
 ·subst h
  simp [Array.getD,hj]
 ·simp only [h,false_or]
  rw [_root_.Go.getD_set_ne false (Ne.symm h)]
theorem Stands.congr {S : Nat → St} {W : Nat → DL → Prop} {L L' : Nat → Prop} {s : St} (h : Stands S W L s) (hl : ∀ k,L' k ↔ L k) : Stands S W L' s := by
 have : L' = L := funext fun k => propext (hl k)
 rw [this]
 exact h
theorem draw_go {mm : Nat} {ops : Array Oper} {Q : Exit → Regs → Heap → Prop} {S : Nat → St} {RH WH : Nat → List Nat} (hd : drawOk ops = true) (hF : Facts P N mm ops (Region.before ops).toList 0 ops.size S RH WH)
  (hQ : Q .normal (S ops.size).1 (S ops.size).2) {ι : Map} {σ : Heap} {w : World} {a : Act} (hh0 : HR ι σ w) (hm0 : σ.length ≤ mm) :
  ∀ (fuel : Nat) (rem : List Nat) (listed : Array Bool) (r' : Regs) (τ : Heap) (ι₁ : Map) (w₁ : World) (a₁ : Act),listed.size = ops.size → rem.Nodup → (∀ i,i ∈ rem ↔ i < ops.size ∧ listed.getD i true = false) → rem.length ≤ fuel →
   Stands S (WD ops WH) (LD listed) (r',τ) → (∀ k i,LD listed k → BD ops k i → LD listed i) → HR ι₁ τ w₁ → RegR N ι₁ w₁ r' a₁ → Step ι σ w ι₁ τ w₁ → a₁.defers = a.defers →
   wpAnyIn (wr ro) 0 P .any ops (post N Q ι σ w a) fuel listed a₁ w₁ := by
 have hline := facts_line hd hF
 have hLn : ∀ {listed : Array Bool},listed.size = ops.size → ∀ k,LD listed k → k < ops.size := fun hsz k hk => by
  unfold LD at hk
  by_cases h : k < ops.size
  ·exact h
  ·simp [Array.getD,hsz,h] at hk
 have done : ∀ (rem : List Nat) (listed : Array Bool) (r' : Regs) (τ : Heap) (ι₁ : Map) (w₁ : World) (a₁ : Act),listed.size = ops.size → (∀ i,i ∈ rem ↔ i < ops.size ∧ listed.getD i true = false) → rem = [] →
   Stands S (WD ops WH) (LD listed) (r',τ) → HR ι₁ τ w₁ → RegR N ι₁ w₁ r' a₁ → Step ι σ w ι₁ τ w₁ → a₁.defers = a.defers → post N Q ι σ w a .normal a₁ w₁ := by
  intro rem listed r' τ ι₁ w₁ a₁ hsz hrem he hst hh hr hs hdf
  have hall : ∀ k,k < ops.size → LD listed k := fun k hk => by
   have : ¬ k ∈ rem := by rw [he]; simp
   rw [hrem] at this
   unfold LD
   rw [← getD_flip (by omega)]
   cases h : listed.getD k true with
   | true => rfl
   | false => exact absurd ⟨hk,h⟩ this
  have hag := hline.done hst (hLn hsz) hall
  have e2 : τ = (S ops.size).2 := agree.heap hag
  refine ⟨trivial,(S ops.size).1,(S ops.size).2,ι₁,[],hQ,e2 ▸ hh,hr.sub fun t v hv => ?_,e2 ▸ hs,hdf,Marks.nil _ _⟩
  have := hag (.reg t)
  rw [← hv]
  exact this
 intro fuel
 induction fuel with
 | zero =>
  intro rem listed r' τ ι₁ w₁ a₁ hsz hnd hrem hfu hst hcl hh hr hs hdf
  have he : rem = [] := List.length_eq_zero_iff.1 (by omega)
  refine ⟨?_,done rem listed r' τ ι₁ w₁ a₁ hsz hrem he hst hh hr hs hdf⟩
  refine List.eq_nil_iff_forall_not_mem.2 fun j hj => ?_
  obtain ⟨hu,o,ho,_⟩ := mem_ready.1 hj
  have : j ∈ rem := (hrem j).2 ⟨(Array.getElem?_eq_some_iff.1 ho).1,hu⟩
  rw [he] at this
  cases this
 | succ fuel ih =>
  intro rem listed r' τ ι₁ w₁ a₁ hsz hnd hrem hfu hst hcl hh hr hs hdf
  refine ⟨fun hre => ?_,fun j hj => ?_⟩
  ·refine done rem listed r' τ ι₁ w₁ a₁ hsz hrem ?_ hst hh hr hs hdf
   refine List.eq_nil_iff_forall_not_mem.2 fun j hj => ?_
   obtain ⟨h1,h2⟩ := (hrem j).1 hj
   exact any_ready hd hsz j h1 h2 hre
  ·obtain ⟨hu,o,ho,hdeps⟩ := mem_ready.1 hj
   have hjn : j < ops.size := (Array.getElem?_eq_some_iff.1 ho).1
   have hjL : ¬ LD listed j := fun h => by
    unfold LD at h
    rw [← getD_flip (by omega),hu] at h
    cases h
   have hspec := drawOk_spec hd ho
   have hbef : ∀ i,BD ops j i → LD listed i := fun i hi => by
    obtain ⟨e,he,hb,h1⟩ := hspec.2.1 i hi.1 hi.2
    have h2 : LD listed e.on := hdeps e he hb
    rcases h1 with h1 | h1
    ·exact h1 ▸ h2
    ·exact hcl e.on i h2 h1
   have hread : ∀ {l : DL},(RD ops RH j l ∨ WD ops WH j l) → agree (r',τ) (S j) l := fun hl => hline.read hst (hLn hsz) hcl hjn hjL hbef hl
   obtain ⟨o',ho',hdst,b,hb,hws,ht,hf⟩ := hF.fact j (by omega) hjn
   rw [ho] at ho'
   injection ho' with ho'
   subst ho'
   have hregs : ∀ t ∈ tmpsOf o ops,r'.get t = (S j).1.get t := fun t h => hread (l := .reg t) (.inl ⟨o,ho,h⟩)
   have hgu : guardE ops r' o.guard = some b := by rw [guardE_agree hregs]; exact hb
   have hw := guard_ok hr hgu
   -- the state behind it
   have next : ∀ (r2 : Regs) (τ2 : Heap) (ι2 : Map) (w2 : World) (a2 : Act),(∀ d,o.dst = some d → r2.get d = (S (j + 1)).1.get d) → (∀ d,o.dst ≠ some d → r2.get d = r'.get d) → (∀ c,c ∉ WH j → agC τ2 τ c) → (∀ c ∈ WH j,agC τ2 (S (j + 1)).2 c) →
     HR ι2 τ2 w2 → RegR N ι2 w2 r2 a2 → Step ι σ w ι2 τ2 w2 → a2.defers = a.defers → wpAnyIn (wr ro) 0 P .any ops (post N Q ι σ w a) fuel (listed.setIfInBounds j true) a2 w2 := by
    intro r2 τ2 ι2 w2 a2 h1 h2 h3 h4 hh2 hr2 hs2 hd2
    have hset := fun k => LD.set (listed := listed) (j := j) (by omega) k
    refine ih (rem.erase j) _ r2 τ2 ι2 w2 a2 (by simp [hsz]) (hnd.erase j) (fun i => ?_) ?_ ?_ ?_ hh2 hr2 hs2 hd2
    ·rw [hnd.mem_erase_iff,hrem]
     by_cases e : i = j
     ·subst e
      simp [Array.getD,hsz,hjn]
     ·rw [_root_.Go.getD_set_ne true (Ne.symm e)]
      simp [e]
    ·have hm : j ∈ rem := (hrem j).2 ⟨hjn,hu⟩
     rw [List.length_erase_of_mem hm]
     omega
    ·refine Stands.congr (hline.write hst (hLn hsz) hcl hjn hjL (s' := (r2,τ2)) (fun l hl => ?_) (fun l hl => ?_)) hset
     ·cases l with
      | reg t => exact h2 t fun e => hl ⟨o,ho,e⟩
      | obj c => exact h3 (c + 1) fun e => hl ⟨o,ho,e⟩
      | len => exact h3 0 fun e => hl ⟨o,ho,e⟩
     ·obtain ⟨o2,ho2,h5⟩ := hl
      rw [ho] at ho2
      injection ho2 with ho2
      subst ho2
      cases l with
      | reg t => exact h1 t h5
      | obj c => exact h4 (c + 1) h5
      | len => exact h4 0 h5
    ·intro k i hk hki
     rw [hset] at hk ⊢
     rcases hk with rfl | hk
     ·exact .inr (hbef i hki)
     ·exact .inr (hcl k i hk hki)
   unfold wpOpIn
   simp only [ho,hw]
   cases b with
   | true =>
    simp only [if_true]
    obtain ⟨res,he,hstep⟩ := ht rfl
    have hst2 := hstep r' τ (fun x hx => ev_agree fun t e => by subst e; exact hregs t (mem_tmps hx)) (fun c hc => by
     cases c with
     | zero => exact hread (l := .len) (.inl ⟨o,ho,hc⟩)
     | succ c => exact hread (l := .obj c) (.inl ⟨o,ho,hc⟩))
    refine step_ok hh hr hdst hst2 fun res' τ2 ι2 w2 a2 hK hh2 hr2 hs2 hd2 => ?_
    obtain ⟨τ3,hg3,h3,h4⟩ := hK
    obtain ⟨ι3,hh3,hr3,hs3⟩ := hg3 ι₁ w₁ a₁ hh hr ι2 w2 a2 hh2 hr2 hs2
    exact next _ τ3 ι3 w2 a2 (fun d e => by rw [he,e]; exact putR_same res) (fun d e => putR_ne res e) h3 h4 hh3 hr3 (hs3 ι σ w hh0 hm0 hs) (hd2.trans hdf)
   | false =>
    simp only [Bool.false_eq_true,if_false]
    obtain ⟨he1,he2,he3⟩ := hf rfl
    refine ⟨fun _ _ => trivial,?_⟩
    exact next (r'.drop o.dst) τ ι₁ w₁ _ (fun d e => by rw [he1,e]; exact putR_same none) (fun d e => putR_ne (r := r') none e) (fun c _ => agC.refl τ c) (fun c hc => by rw [he3] at hc; cases hc) hh (hr.drop (dst_ok hdst)) hs
     ((by cases o.dst <;> rfl : (a₁.put o.dst undef).defers = a₁.defers).trans hdf)
theorem draw_ok (hm : P.follows .mixedOrders = true) {cs : List COp} {bef : List Nat} {r : Regs} {σ : Heap} {Q : Exit → Regs → Heap → Prop} {t : Tag Q} {t' : Tag (Q .normal)} (h : drawC P N cs 0 bef [] r σ (Q .normal) t') : DrawQ P N ro cs bef r σ Q t := by
 intro id ops ks hs hb hd ι w a hh hr
 subst hb
 obtain ⟨S,RH,WH,hF,hS,hK,_⟩ := drawC_facts (mm := σ.length) ops.toList cs ks hs 0 (by simp) (log := []) (r := r) (σ := σ) (t := t') (bef := (Region.before ops).toList) (by simpa using h)
 have hr0 := Step.refl ι σ w
 have hst : Step ι σ w ι σ { w with drawn := w.drawn + 1 } := ⟨hr0.len,Nat.le_refl _,rfl,rfl,hr0.keep,hr0.none,hr0.new,rfl,rfl,fun _ _ => rfl,hr0.frame⟩
 have hh' : HR ι σ { w with drawn := w.drawn + 1 } := (hh.other (w' := { w with drawn := w.drawn + 1 }) fun _ _ => rfl).1
 refine wpIn_region_any hm ?_
 refine draw_go (σ := σ) hd hF (by simpa using hK) hh (Nat.le_refl _) ops.size (List.range ops.size) _ r σ ι { w with drawn := w.drawn + 1 } a (by simp) List.nodup_range (fun i => ?_) (by simp) ?_ ?_ hh' (hr.step hh hst) hst rfl
 ·simp only [List.mem_range,Array.getD_eq_getD_getElem?]
  constructor
  ·intro hi
   exact ⟨hi,by simp [hi]⟩
  ·exact fun h => h.1
 ·intro l
  refine .inr ⟨fun j hj => ?_,by rw [hS]; exact agree.refl _ _⟩
  unfold LD at hj
  rw [Array.getD_eq_getD_getElem?] at hj
  by_cases hi : j < ops.size <;> simp [hi] at hj
 ·intro k i hk
  unfold LD at hk
  rw [Array.getD_eq_getD_getElem?] at hk
  by_cases hi : k < ops.size <;> simp [hi] at hk
end
end Go.Abs
