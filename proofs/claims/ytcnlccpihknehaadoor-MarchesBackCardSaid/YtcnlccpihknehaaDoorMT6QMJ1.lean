/-
  strings.Join, as a contract on trees.
-/
import Derived.Test.YtcnlccpihknehaaDoorMT6QMJ0
import Derived.Test.YtcnlccpihknehaaDoorLSyP
import Derived.Test.YtcnlccpihknehaaDoorMT6QM9
set_option linter.all false
namespace Go.Proofs.YtcnlccpihknehaaDoor
open Go.Abs Go.RowKit
namespace M48
structure gX where
 elems : List (List UInt8)
 sep : List UInt8
def g : Sg gX where
 vs := [.c (.arr .str),.c .sg]
 h := []
 to := fun a b => ⟨a.1,a.2.1⟩
 fa := fun x => (x.elems,(x.sep,()))
 fh := fun x => ()
abbrev fY := List UInt8
def f : Ft fY where
 ord := none
 sh := .c .sg
 h := []
 to := fun a b => a
 fv := fun y => y
 fh := fun y => ()
def m (x : gX) : Option fY := if x.elems.length ≤ 1000000 ∧ (Lib.join x.elems x.sep).length ≤ 1000000 then some (Lib.join x.elems x.sep) else none
theorem trees_str : ∀ l : List (List UInt8),l.flatMap Ly.str.trees = l.map T.str
 | [] => rfl
 | x :: l => by rw [List.flatMap_cons,trees_str l]; rfl
theorem callable48 : callable Tryd.prog 48 := ⟨Tryd.f48,Tryd.func48,by kernel_rfl,by kernel_rfl⟩
theorem known : Known Tryd.prog 48 g f m := by
 refine ⟨fun _ _ => ⟨rfl,rfl⟩,by decide,fun x y hy => ?_⟩
 unfold m at hy
 split at hy
 · rename_i hb
   cases hy
   show FnOk Tryd.prog 48 [.c (.t (.imm (x.elems.flatMap Ly.str.trees) x.elems.length none)),.c (.t (.str x.sep))] [] fun v τ => v = .c (.t (.str (Lib.join x.elems x.sep))) ∧ τ = []
   refine fn_ext callable48 fun ι w cargs hH ha => ?_
   obtain ⟨hsz,ha⟩ := ha
   obtain ⟨u0,e0,h0⟩ := ha 0 (by simp)
   obtain ⟨u1,e1,h1⟩ := ha 1 (by simp)
   have h0 : TR ι.un w (.imm (x.elems.flatMap Ly.str.trees) x.elems.length none) u0 := h0
   have h1 : TR ι.un w (.str x.sep) u1 := h1
   have hargs : cargs = #[u0,u1] := by
     refine Array.ext (by simpa using hsz) fun i hi _ => ?_
     have hi : i < 2 := by simpa [hsz] using hi
     match i,hi with
     | 0,_ => exact (Array.getElem?_eq_some_iff.1 e0).2
     | 1,_ => exact (Array.getElem?_eq_some_iff.1 e1).2
   subst hargs
   cases h1
   rw [trees_str] at h0
   refine ⟨_,fun _ => .str _,?_⟩
   rcases strs_tree h0 with ⟨hl,a,c,rfl⟩ | ⟨b,off,c,rfl,hr,hle,hcell⟩
   · refine (Tryd.strings_Join_none a c ⟨x.sep.toArray⟩ w).mono fun e w' ⟨he,hw⟩ => ⟨?_,hw ▸ Below.refl _ _⟩
     rw [he,hl]
     rfl
   · have hm : ((x.elems.map fun s => (⟨s.toArray⟩ : ByteArray)).map (·.data.toList)) = x.elems := by
       rw [List.map_map]
       exact List.map_id'' (fun s => by simp) _
     have h := Tryd.strings_Join b off c (x.elems.map fun s => (⟨s.toArray⟩ : ByteArray)) ⟨x.sep.toArray⟩ w hcell hr.lt (by rw [List.length_map]; omega) (by rw [List.length_map]; exact hle) (by rw [hm]; have := hb.2; simp only [List.toList_toArray]; omega)
     rw [hm,List.length_map] at h
     simpa using h
 · cases hy
noncomputable def con : Con := conF g f m default
theorem con_ok : ConOk Tryd.prog 48 con := conF_ok known (fun _ => rfl) (fun _ => rfl)
end M48
namespace M48o
structure gX where
 lo : Nat
 len : Nat
 sep : List UInt8
 ss : List (List UInt8)
def g : Sg gX where
 vs := [.c (.sl 0 0 1),.c .sg]
 h := [.arr .str 0]
 to := fun a b => ⟨a.1.1,a.1.2,a.2.1,b.1⟩
 fa := fun x => ((x.lo,x.len),(x.sep,()))
 fh := fun x => (x.ss,())
abbrev fY := List UInt8 × List (List UInt8)
def f : Ft fY where
 ord := none
 sh := .c .sg
 h := [.arr .str 0]
 to := fun a b => (a,b.1)
 fv := fun y => y.1
 fh := fun y => (y.2,())
def m (x : gX) : Option fY := if x.lo + x.len ≤ x.ss.length ∧ x.len ≤ 1000000 ∧ (Lib.join ((x.ss.drop x.lo).take x.len) x.sep).length ≤ 1000000 then some (Lib.join ((x.ss.drop x.lo).take x.len) x.sep,x.ss) else none
theorem known : Known Tryd.prog 48 g f m := by
 refine ⟨fun _ _ => ⟨rfl,rfl⟩,by decide,fun x y hy => ?_⟩
 unfold m at hy
 split at hy
 · rename_i hb
   cases hy
   show FnOk Tryd.prog 48 [.c (.sl ⟨0,0,x.lo * 1⟩ x.len none),.c (.t (.str x.sep))] [{ cs := (x.ss.flatMap Ly.str.trees).map .t,es := 1,ep := 0 }] fun v τ => v = .c (.t (.str (Lib.join ((x.ss.drop x.lo).take x.len) x.sep))) ∧ τ = [{ cs := (x.ss.flatMap Ly.str.trees).map .t,es := 1,ep := 0 }]
   refine fn_extH M48.callable48 fun ι w cargs hH ha => ?_
   obtain ⟨hsz,ha⟩ := ha
   obtain ⟨u0,e0,h0⟩ := ha 0 (by simp)
   obtain ⟨u1,e1,h1⟩ := ha 1 (by simp)
   have h0 : CR ι w (.sl ⟨0,0,x.lo * 1⟩ x.len none) u0 := h0
   have h1 : TR ι.un w (.str x.sep) u1 := h1
   have hargs : cargs = #[u0,u1] := by
     refine Array.ext (by simpa using hsz) fun i hi _ => ?_
     have hi : i < 2 := by simpa [hsz] using hi
     match i,hi with
     | 0,_ => exact (Array.getElem?_eq_some_iff.1 e0).2
     | 1,_ => exact (Array.getElem?_eq_some_iff.1 e1).2
   subst hargs
   cases h1
   refine ⟨_,fun _ _ => .str _,?_⟩
   obtain ⟨a,c,rfl,h2⟩ := sl_read hH (o := { cs := (x.ss.flatMap Ly.str.trees).map .t,es := 1,ep := 0 }) rfl rfl h0
   rcases h2 with hl | ⟨b,off,rfl,hr,hle,hcell⟩
   · rw [hl]
     refine (Tryd.strings_Join_none a c ⟨x.sep.toArray⟩ w).mono fun e w' ⟨he,hw⟩ => ⟨?_,hw ▸ Below.refl _ _⟩
     rw [he]
     rfl
   · have hm : (((x.ss.drop x.lo).take x.len).map fun s => (⟨s.toArray⟩ : ByteArray)).map (·.data.toList) = (x.ss.drop x.lo).take x.len := by
       rw [List.map_map]
       exact List.map_id'' (fun s => by simp) _
     have hlen : ((x.ss.drop x.lo).take x.len).length = x.len := by rw [List.length_take,List.length_drop]; omega
     have h := Tryd.strings_Join b off c (((x.ss.drop x.lo).take x.len).map fun s => (⟨s.toArray⟩ : ByteArray)) ⟨x.sep.toArray⟩ w (fun j y hy => by
       rw [List.getElem?_map,Option.map_eq_some_iff] at hy
       obtain ⟨s,h3,rfl⟩ := hy
       rw [List.getElem?_take] at h3
       split at h3
       · rename_i hj
         rw [List.getElem?_drop] at h3
         obtain ⟨h4,h5⟩ := List.getElem?_eq_some_iff.1 h3
         have e : ((x.ss.flatMap Ly.str.trees).map Cell.t) = x.ss.map fun s => Cell.t (.str s) := by rw [M48.trees_str,List.map_map]; rfl
         obtain ⟨u,h6,h7⟩ := hcell j (by simp only [e,List.length_map,Nat.mul_one]; exact h4)
         simp only [e,List.getElem_map,Nat.mul_one,h5] at h7
         rw [h6]
         have h7 : TR ι.un w (.str s) u := h7
         cases h7
         rfl
       · cases h3) hr (by rw [List.length_map,hlen]; omega) (by rw [List.length_map,hlen]; exact hle) (by rw [hm]; have := hb.2.2; simp only [List.toList_toArray]; omega)
     rw [hm,List.length_map,hlen] at h
     simpa using h
 · cases hy
theorem hh {x : gX} {y : fY} (h : m x = some y) : f.H y = g.H x := by
 unfold m at h
 split at h
 · cases h; rfl
 · cases h
noncomputable def con : Con := conR g [.arg 0 0] f m default
theorem con_ok : ConOk Tryd.prog 48 con := conR_ok known (fun _ => rfl) (fun _ _ h => hh h)
end M48o
end Go.Proofs.YtcnlccpihknehaaDoor
