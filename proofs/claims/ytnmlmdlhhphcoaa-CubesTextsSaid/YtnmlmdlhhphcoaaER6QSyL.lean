/-
  A general library: a row's arguments.
-/
import Derived.Test.YtnmlmdlhhphcoaaER6QSyK
set_option linter.all false
namespace Go.Abs
variable [Gl]
section
variable {H : Type} {enc : TypeId × Value → H} {P : Program} {W : World} {sp : Nat → Bool}
theorem arg_agg {c : Ly} {t : TypeId} {v : Value} {d : DataW H} {p : List MemPlace} (hs : ∃ fs,P.underlying t = some (.struct fs)) (h : TyO P c t) (hv : Value.okWide P W .any 0 t v) (ht : DataW.Trod enc P W 0 sp true t v d p) :
   ∃ x : c.ty,c.inr x ∧ VR noMap W (.agg ((c.trees x).map Cell.t)) v := by
 obtain ⟨fs,hs⟩ := hs
 unfold Value.okWide at hv
 rw [hs] at hv
 obtain ⟨cs,rfl,_,_⟩ := hv
 obtain ⟨n,hn⟩ := ht
 obtain ⟨x,h1,h2⟩ := TyO.down (U := noMap.un) noMap_un h hn
 refine ⟨x,h2,cs,rfl,?_,fun i hi => ?_⟩
 · have := h1.1
   simpa [Value.cells] using this
 · simp only [List.length_map] at hi
   obtain ⟨u,h3,h4⟩ := h1.2 i hi
   refine ⟨u,by simpa [Value.cells] using h3,?_⟩
   rw [List.getElem_map]
   exact h4
theorem arg_one {c : Ly} {t : TypeId} {v : Value} {d : DataW H} {p : List MemPlace} (hs : ∀ fs,P.underlying t ≠ some (.struct fs)) (h : TyO P c t) (hv : Value.okWide P W .any 0 t v) (ht : DataW.Trod enc P W 0 sp true t v d p) :
   ∃ x : c.ty,c.inr x ∧ ∃ tr,c.trees x = [tr] ∧ VR noMap W (.c (.t tr)) v := by
 have hc : v.cells.toList = [v] := by
   cases v with
   | agg cs =>
     exfalso
     cases h with
     | int h => simp [Value.okWide,Cell.okWide,Cell.ok,h] at hv
     | bool h => simp [Value.okWide,Cell.okWide,Cell.ok,h] at hv
     | str h => simp [Value.okWide,Cell.okWide,Cell.ok,h] at hv
     | sl h => simp [Value.okWide,Cell.okWide,Cell.ok,h] at hv
     | st h => exact hs _ h
   | _ => rfl
 obtain ⟨n,hn⟩ := ht
 rw [hc] at hn
 obtain ⟨x,h1,h2⟩ := TyO.down (U := noMap.un) noMap_un h hn
 obtain ⟨h3,h4⟩ := h1
 match hx : c.trees x,h3 with
 | [tr],_ =>
   simp only [hx] at h4
   obtain ⟨u,h5,h6⟩ := h4 0 (by simp)
   simp at h5
   subst h5
   exact ⟨x,h2,tr,hx,h6⟩
theorem argsR2 {a b : AV} {v u : Value} (h : VR noMap W a v) (h' : VR noMap W b u) : argsR noMap W [a,b] #[v,u] := ⟨rfl,fun i hi => by
 match i,hi with
 | 0,_ => exact ⟨v,rfl,h⟩
 | 1,_ => exact ⟨u,rfl,h'⟩⟩
theorem wf_u8 {n : Int} (h : (Lit.int .u8 n).wf = true) : 0 ≤ n ∧ n ≤ 255 := by
 simp [Lit.wf,IntKind.has,IntKind.min,IntKind.max,IntKind.signed,IntKind.bits] at h
 omega
end
def tyFB (P : Program) (rec : Ly → TypeId → Bool) : Ly → List Field → Nat → Bool
 | c,[f],off => f.offset == off && (P.cellsOf f.type == c.size && rec c f.type)
 | .pair a b,f :: g :: fs,off => f.offset == off && (P.cellsOf f.type == a.size && (rec a f.type && tyFB P rec b (g :: fs) (off + a.size)))
 | _,_,_ => false
def tyB (P : Program) : Nat → Ly → TypeId → Bool
 | 0,_,_ => false
 | n + 1,c,t => match P.underlying t with
   | some (.int k) => match c with | .int k' => kindB k k' | _ => false
   | some .bool => match c with | .bool => true | _ => false
   | some .string => match c with | .str => true | _ => false
   | some (.slice e) => match c with | .sl c' => P.cellsOf e == c'.size && tyB P n c' e | _ => false
   | some (.struct fs) => P.cellsOf t == c.size && tyFB P (tyB P n) c fs.toList 0
   | _ => false
theorem tyFB_ok {P : Program} {rec : Ly → TypeId → Bool} (hr : ∀ c t,rec c t = true → TyO P c t) : ∀ {c : Ly} {fs : List Field} {off : Nat},tyFB P rec c fs off = true → TyF P c fs off := by
 intro c fs off h
 induction fs generalizing c off with
 | nil => cases c <;> cases h
 | cons f fs ih =>
   cases fs with
   | nil =>
     have h' : (f.offset == off && (P.cellsOf f.type == c.size && rec c f.type)) = true := by cases c <;> exact h
     simp only [Bool.and_eq_true,beq_iff_eq] at h'
     exact .one h'.1 h'.2.1 (hr _ _ h'.2.2)
   | cons g fs =>
     cases c with
     | pair a b =>
       simp only [tyFB,Bool.and_eq_true,beq_iff_eq] at h
       exact .cons h.1 h.2.1 (hr _ _ h.2.2.1) (ih h.2.2.2)
     | _ => cases h
theorem tyB_ok {P : Program} : ∀ {n : Nat} {c : Ly} {t : TypeId},tyB P n c t = true → TyO P c t
 | 0,_,_,h => by cases h
 | n + 1,c,t,h => by
   simp only [tyB] at h
   split at h
   · rename_i k hk
     cases c with
     | int k' => exact .int (by rw [hk]; rw [kindB_eq h])
     | _ => cases h
   · rename_i hk
     cases c with
     | bool => exact .bool hk
     | _ => cases h
   · rename_i hk
     cases c with
     | str => exact .str hk
     | _ => cases h
   · rename_i e hk
     cases c with
     | sl c' =>
       simp only [Bool.and_eq_true,beq_iff_eq] at h
       exact .sl hk h.1 (tyB_ok h.2)
     | _ => cases h
   · rename_i fs hk
     simp only [Bool.and_eq_true,beq_iff_eq] at h
     exact .st hk h.1 (tyFB_ok (fun c t h => tyB_ok h) h.2)
   · cases h
def isSt (P : Program) (t : TypeId) : Bool := match P.underlying t with | some (.struct _) => true | _ => false
theorem isSt_yes {P : Program} {t : TypeId} (h : isSt P t = true) : ∃ fs,P.underlying t = some (.struct fs) := by
 unfold isSt at h
 split at h
 · rename_i fs e; exact ⟨fs,e⟩
 · cases h
theorem isSt_no {P : Program} {t : TypeId} (h : isSt P t = false) : ∀ fs,P.underlying t ≠ some (.struct fs) := fun fs e => by
 unfold isSt at h
 rw [e] at h
 cases h
end Go.Abs
