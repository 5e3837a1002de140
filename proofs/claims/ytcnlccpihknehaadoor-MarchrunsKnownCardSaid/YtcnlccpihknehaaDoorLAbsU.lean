/-
  A general library: steps of a walk.
-/
import Derived.Test.YtcnlccpihknehaaDoorLAbsT
set_option linter.all false
namespace Go.Abs
variable [Gl]
section
variable {P : Program} {N : Nat} {ro : Option Nat}
theorem putAll_same (f : Obj → Obj) : ∀ (is : List Nat) (τ σ : Heap),(∀ (k i : Nat) (o : Obj),is[k]? = some i → τ[k]? = some o → σ[i]? = some (f o)) → putAll f is τ σ = σ
 | [],_,_,_ => by simp [putAll]
 | _ :: _,[],_,_ => by simp [putAll]
 | i :: is,o :: τ,σ,h => by
   have h0 := h 0 i o rfl rfl
   have e : σ.set i (f o) = σ := by
     obtain ⟨hlt,he⟩ := List.getElem?_eq_some_iff.1 h0
     rw [← he]
     exact List.set_getElem_self hlt
   simp only [putAll,e]
   exact putAll_same f is τ σ fun k i' o' h1 h2 => h (k + 1) i' o' h1 h2
theorem const_read {f : FuncId} {args args0 : List AV} {σ τ : Heap} {v : AV} (is : List Nat) (hn : is.Nodup) (hlen : τ.length = is.length) (hσ : ∀ (n k i : Nat) (o : Obj),is[k]? = some i → τ[k]? = some o → σ[i]? = some (upO is n o))
   (hargs : ∀ n,args = args0.map (upV is n)) (hv : v.isT = true) (h : FnOk P f args0 τ fun v' σ' => v' = v ∧ σ' = τ) : ConstAt P f args σ (is.map (· + 1)) v := fun σ2 hag => by
 have hσ2 : ∀ (k i : Nat) (o : Obj),is[k]? = some i → τ[k]? = some o → σ2[i]? = some (upO is σ2.length o) := fun k i o h1 h2 => by
   have : agC σ2 σ (i + 1) := hag _ (List.mem_map.2 ⟨i,List.mem_of_getElem? h1,rfl⟩)
   exact Eq.trans this (hσ σ2.length k i o h1 h2)
 refine (fn_rename (σ := σ2) is hn hlen hσ2 (hargs σ2.length) h).mono fun v' σ' ⟨v0,τ',⟨h1,h2⟩,h3,h4⟩ => ?_
 subst h1; subst h2
 rw [upV_tree hv] at h3
 refine ⟨h3,?_⟩
 rw [h4,backH,putAll_same _ _ _ _ hσ2]
 have : List.drop is.length τ' = [] := List.drop_eq_nil_iff.2 (by omega)
 simp [this]
end
end Go.Abs
