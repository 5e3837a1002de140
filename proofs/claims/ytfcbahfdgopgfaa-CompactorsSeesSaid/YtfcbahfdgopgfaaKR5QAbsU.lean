/-
  A general library: steps of a walk.
-/
import Derived.Test.YtfcbahfdgopgfaaKR5QAbsT
set_option linter.unusedSimpArgs false
set_option linter.unusedVariables false
namespace Go.Abs
section
variable {P : Program} {N : Nat} {ro : Option Nat}

theorem onGuard_intro {b : Bool} {A B : Prop} {t : Tag A} {u : Tag B} (h : b = true → A) (h' : b = false → B) : onGuard (some b) A B t u := by
  cases b
  · simpa [onGuard] using h' rfl
  · simpa [onGuard] using h rfl
theorem onBool_intro {b : Bool} {A B : Prop} {t : Tag A} {u : Tag B} (h : b = true → A) (h' : b = false → B) : onBool (some (.c (.t (.bool b)))) A B t u := by
  cases b
  · simpa [onBool] using h' rfl
  · simpa [onBool] using h rfl
theorem onGuard_not (b : Bool) (A B : Prop) (t : Tag A) (u : Tag B) : onGuard (some (!b)) A B t u = onGuard (some b) B A u t := by cases b <;> simp [onGuard]
theorem onBool_not (b : Bool) (A B : Prop) (t : Tag A) (u : Tag B) : onBool (some (.c (.t (.bool (!b))))) A B t u = onBool (some (.c (.t (.bool b)))) B A u t := by cases b <;> simp [onBool]

theorem callk_const {g : FuncId} {args : List AV} {σ : Heap} {K : Option AV → Heap → Prop} {t : Tag K} {rs : List Nat} {v : AV} (h : ConstAt P g args σ rs v) (hk : K (some v) σ) : callK P g args σ K t :=
  callk (h σ fun c _ => agC.refl σ c) fun v' σ' ⟨e1, e2⟩ => by subst e1; subst e2; exact hk
theorem calld_const {g : FuncId} {args : List AV} {σ : Heap} {K : Option AV → Heap → List Nat → List Nat → Prop} {t : Tag K} {rs : List Nat} {v : AV} (h : ConstAt P g args σ rs v) (hk : K (some v) σ rs []) : callD P g args σ K t := .inl ⟨v, rs, h, hk⟩

theorem draw_if (hm : P.follows .mixedOrders = true) {cs : List COp} {bef : List Nat} {r : Regs} {σ : Heap} {Q : Exit → Regs → Heap → Prop} {t : Tag Q} (h : drawC P N cs 0 bef [] r σ (Q .normal) ⟨⟩) : DrawQ P N ro cs bef r σ Q t := draw_ok hm h

theorem putAll_same (f : Obj → Obj) : ∀ (is : List Nat) (τ σ : Heap), (∀ (k i : Nat) (o : Obj), is[k]? = some i → τ[k]? = some o → σ[i]? = some (f o)) → putAll f is τ σ = σ
  | [], _, _, _ => by simp [putAll]
  | _ :: _, [], _, _ => by simp [putAll]
  | i :: is, o :: τ, σ, h => by
    have h0 := h 0 i o rfl rfl
    have e : σ.set i (f o) = σ := by
      obtain ⟨hlt, he⟩ := List.getElem?_eq_some_iff.1 h0
      rw [← he]
      exact List.set_getElem_self hlt
    simp only [putAll, e]
    exact putAll_same f is τ σ fun k i' o' h1 h2 => h (k + 1) i' o' h1 h2

/-- a call that reads some objects and leaves them -/
theorem const_read {f : FuncId} {args args0 : List AV} {σ τ : Heap} {v : AV} (is : List Nat) (hn : is.Nodup) (hlen : τ.length = is.length) (hσ : ∀ (n k i : Nat) (o : Obj), is[k]? = some i → τ[k]? = some o → σ[i]? = some (upO is n o))
    (hargs : ∀ n, args = args0.map (upV is n)) (hv : v.isT = true) (h : FnOk P f args0 τ fun v' σ' => v' = v ∧ σ' = τ) : ConstAt P f args σ (is.map (· + 1)) v := fun σ2 hag => by
  have hσ2 : ∀ (k i : Nat) (o : Obj), is[k]? = some i → τ[k]? = some o → σ2[i]? = some (upO is σ2.length o) := fun k i o h1 h2 => by
    have : agC σ2 σ (i + 1) := hag _ (List.mem_map.2 ⟨i, List.mem_of_getElem? h1, rfl⟩)
    exact Eq.trans this (hσ σ2.length k i o h1 h2)
  refine (fn_rename (σ := σ2) is hn hlen hσ2 (hargs σ2.length) h).mono fun v' σ' ⟨v0, τ', ⟨h1, h2⟩, h3, h4⟩ => ?_
  subst h1; subst h2
  rw [upV_tree hv] at h3
  refine ⟨h3, ?_⟩
  rw [h4, backH, putAll_same _ _ _ _ hσ2]
  have : List.drop is.length τ' = [] := List.drop_eq_nil_iff.2 (by omega)
  simp [this]

end
end Go.Abs
