/-
  Rows of march runs: the table of the named marches, as the row's condition lays it.
-/
import Derived.Test.YtcnlccpihknehaaDoorMT6QM9
import Derived.Test.YtcnlccpihknehaaDoorLSyL
import Derived.Test.YtcnlccpihknehaaDoorTie
import Derived.Test.YtcnlccpihknehaaDoorCards
import Derived.LaidLaws
import Derived.SevenTiedAt
set_option linter.all false
namespace Go.Proofs.YtcnlccpihknehaaDoor
open Go.ChangeShapes Go.WideShapes Go.ChangeAt Go.RowKit
open Go.Abs
theorem mapM_get {α β : Type} {f : α → Option β} : ∀ {l : List α} {ys : List β},l.mapM f = some ys → ys.length = l.length ∧ ∀ i (h : i < l.length) (h' : i < ys.length),f l[i] = some ys[i]
 | [],ys,h => by
   simp only [List.mapM_nil,Option.pure_def,Option.some.injEq] at h
   subst h
   exact ⟨rfl,fun i h => by simp at h⟩
 | a :: l,ys,h => by
   rw [List.mapM_cons] at h
   simp only [Option.pure_def,Option.bind_eq_bind,Option.bind_eq_some_iff,Option.some.injEq] at h
   obtain ⟨y,h1,ys',h2,rfl⟩ := h
   obtain ⟨h3,h4⟩ := mapM_get h2
   refine ⟨by simp [h3],fun i hi hi' => ?_⟩
   cases i with
   | zero => exact h1
   | succ i => exact h4 i (by simpa using hi) (by simpa using hi')
theorem str_trod {H : Type} {enc : TypeId × Value → H} {P : Program} {w : World} {base : Nat} {spare : Nat → Bool} {held : Bool} {fuel : Nat} {t : TypeId} {cs : List Value} {s : List UInt8} {p : List MemPlace} (ht : P.underlying t = some .string)
   (h : DataW.trod enc P w base spare held fuel t cs = some (.lit (.string s),p)) : cs = [.string ⟨s.toArray⟩] := by
 cases fuel with
 | zero => simp [DataW.trod] at h
 | succ fuel =>
   match cs with
   | [] => simp [DataW.trod,ht] at h
   | _ :: _ :: _ => simp [DataW.trod,ht] at h
   | [c] =>
     cases c <;> simp [DataW.trod,ht] at h
     rename_i b
     obtain ⟨_,rfl,_⟩ := h
     simp
theorem arr_trod {H : Type} {enc : TypeId × Value → H} {P : Program} {w : World} {base : Nat} {spare : Nat → Bool} {held : Bool} {fuel : Nat} {t e : TypeId} {n : Nat} {cs : List Value} {ds : List (DataW H)} {p : List MemPlace} (ht : P.underlying t = some (.array n e))
   (h : DataW.trod enc P w base spare held fuel t cs = some (.agg ds,p)) : cs.length = P.cellsOf t ∧ ds.length = n ∧ ∃ fuel',∀ i (h : i < ds.length),∃ q,DataW.trod enc P w base spare held fuel' e ((cs.drop (i * P.cellsOf e)).take (P.cellsOf e)) = some (ds[i],q) := by
 cases fuel with
 | zero => simp [DataW.trod] at h
 | succ fuel =>
   simp only [DataW.trod,ht] at h
   split at h
   · rename_i hl
     obtain ⟨xs,h1,h2⟩ := Option.map_eq_some_iff.1 h
     simp only [Prod.mk.injEq,DataW.agg.injEq] at h2
     obtain ⟨rfl,_⟩ := h2
     obtain ⟨h3,h4⟩ := mapM_get h1
     refine ⟨hl,by simpa using h3,fuel,fun i hi => ?_⟩
     have hi' : i < xs.length := by simpa using hi
     have hi2 : i < (List.range n).length := by omega
     refine ⟨xs[i].2,?_⟩
     have := h4 i hi2 hi'
     simp only [List.getElem_range] at this
     rw [this]
     simp
   · cases h
theorem st_trod {H : Type} {enc : TypeId × Value → H} {P : Program} {w : World} {base : Nat} {spare : Nat → Bool} {held : Bool} {fuel : Nat} {t : TypeId} {fs : Array Field} {cs : List Value} {ds : List (DataW H)} {p : List MemPlace} (ht : P.underlying t = some (.struct fs))
   (h : DataW.trod enc P w base spare held fuel t cs = some (.agg ds,p)) : ds.length = fs.toList.length ∧ ∃ fuel',∀ i (h : i < ds.length) (h' : i < fs.toList.length),∃ q,DataW.trod enc P w base spare held fuel' fs.toList[i].type ((cs.drop fs.toList[i].offset).take (P.cellsOf fs.toList[i].type)) = some (ds[i],q) := by
 cases fuel with
 | zero => simp [DataW.trod] at h
 | succ fuel =>
   simp only [DataW.trod,ht] at h
   split at h
   · obtain ⟨xs,h1,h2⟩ := Option.map_eq_some_iff.1 h
     simp only [Prod.mk.injEq,DataW.agg.injEq] at h2
     obtain ⟨rfl,_⟩ := h2
     obtain ⟨h3,h4⟩ := mapM_get h1
     refine ⟨by simpa using h3,fuel,fun i hi hi2 => ?_⟩
     have hi' : i < xs.length := by simpa using hi
     refine ⟨xs[i].2,?_⟩
     rw [h4 i hi2 hi']
     simp
   · cases h
def strs : List (List UInt8) := tabV.flatMap fun x => [x.1,x.2]
theorem laid_eq {H : Type} : (Rows.laid_probecard_marches_table : DataW H) = .agg (tabV.map fun x => .agg [.lit (.string x.1),.lit (.string x.2)]) := rfl
theorem Tryd.u100 : Tryd.prog.underlying 100 = some (.array 7 99) := by kernel_rfl
theorem Tryd.u9 : Tryd.prog.underlying 9 = some .string := by kernel_rfl
theorem Tryd.c99 : Tryd.prog.cellsOf 99 = 2 := by kernel_rfl
theorem Tryd.c100 : Tryd.prog.cellsOf 100 = 14 := by kernel_rfl
theorem Tryd.c9 : Tryd.prog.cellsOf 9 = 1 := by kernel_rfl
theorem Tryd.u99 : ∃ fs,Tryd.prog.underlying 99 = some (.struct fs) ∧ fs.toList.map (fun f => (f.offset,f.type)) = [(0,9),(1,9)] := by
 have h : (match Tryd.prog.underlying 99 with | some (.struct fs) => some (fs.toList.map fun f => (f.offset,f.type)) | _ => none) = some [(0,9),(1,9)] := by kernel_rfl
 generalize Tryd.prog.underlying 99 = u at h ⊢
 split at h
 · rename_i fs
   exact ⟨fs,rfl,Option.some.inj h⟩
 · cases h
theorem tab_cells {H : Type} {enc : TypeId × Value → H} {w : World} {base : Nat} {spare : Nat → Bool} {held : Bool} {fuel : Nat} {cs : List Value} {p : List MemPlace} (h : DataW.trod enc Tryd.prog w base spare held fuel 100 cs = some (Rows.laid_probecard_marches_table,p)) :
   ∀ i,i < 14 → cs[i]? = some (.string ⟨(strs[i]?.getD []).toArray⟩) := by
 rw [laid_eq] at h
 obtain ⟨hl,hd,fuel',he⟩ := arr_trod Tryd.u100 h
 rw [Tryd.c100] at hl
 obtain ⟨fs,hf,hfs⟩ := Tryd.u99
 have hfl : fs.toList.length = 2 := by have := congrArg List.length hfs; simpa using this
 intro i hi
 have hj : i / 2 < (tabV.map fun x => (DataW.agg [.lit (.string x.1),.lit (.string x.2)] : DataW H)).length := by
   rw [hd]; omega
 obtain ⟨q,h1⟩ := he (i / 2) hj
 rw [Tryd.c99,List.getElem_map] at h1
 obtain ⟨h2,fuel2,h3⟩ := st_trod hf h1
 have hm : i % 2 < 2 := Nat.mod_lt _ (by decide)
 obtain ⟨q2,h4⟩ := h3 (i % 2) (show i % 2 < 2 from hm) (by rw [hfl]; exact hm)
 have e0 : (fs.toList[i % 2].offset,fs.toList[i % 2].type) = (i % 2,9) := by
   have e : (fs.toList.map (fun f => (f.offset,f.type)))[i % 2]'(by rw [List.length_map,hfl]; exact hm) = (fs.toList[i % 2].offset,fs.toList[i % 2].type) := by simp
   rw [← e]
   have : ∀ (l : List (Nat × TypeId)) (h : i % 2 < l.length),l = [(0,9),(1,9)] → l[i % 2] = (i % 2,9) := fun l h e => by
     subst e
     rcases Nat.mod_two_eq_zero_or_one i with e | e <;> simp [e]
   exact this _ _ hfs
 simp only [Prod.mk.injEq] at e0
 rw [e0.1,e0.2,Tryd.c9] at h4
 have hs : ∃ s,([.lit (.string (tabV[i / 2]'(by simpa using hj)).1),.lit (.string (tabV[i / 2]'(by simpa using hj)).2)] : List (DataW H))[i % 2]'(by simp; omega) = .lit (.string s) ∧ strs[i]?.getD [] = s := by
   have hj' : i / 2 < tabV.length := by simpa using hj
   have hst : ∀ j (h : j < tabV.length),strs[2 * j]? = some tabV[j].1 ∧ strs[2 * j + 1]? = some tabV[j].2 := by
     unfold strs
     decide
   obtain ⟨a1,a2⟩ := hst (i / 2) hj'
   rcases Nat.mod_two_eq_zero_or_one i with e | e
   · refine ⟨(tabV[i / 2]'hj').1,by simp [e],?_⟩
     have e2 : strs[i]? = strs[2 * (i / 2)]? := congrArg (fun z => strs[z]?) (by omega)
     rw [e2,a1]
     rfl
   · refine ⟨(tabV[i / 2]'hj').2,by simp [e],?_⟩
     have e2 : strs[i]? = strs[2 * (i / 2) + 1]? := congrArg (fun z => strs[z]?) (by omega)
     rw [e2,a2]
     rfl
 obtain ⟨s,hs1,hs2⟩ := hs
 rw [hs1] at h4
 have h5 := str_trod Tryd.u9 h4
 rw [hs2]
 have h6 : (((cs.drop (i / 2 * 2)).take 2).drop (i % 2))[0]? = some (.string ⟨s.toArray⟩) := by
   have := congrArg (fun l : List Value => l[0]?) h5
   simpa using this
 rw [List.getElem?_drop,List.getElem?_take,if_pos (by omega),List.getElem?_drop] at h6
 have e3 : i / 2 * 2 + (i % 2 + 0) = i := by omega
 rw [e3] at h6
 exact h6
theorem Tryd.gn : Tryd.prog.globalNamed "probecard/marches.table" = some 0 := by kernel_rfl
theorem Tryd.gt : (Tryd.prog.globals[0]?).map (·.type) = some 100 := by kernel_rfl
set_option maxRecDepth 100000 in
theorem gl_laid {W : World} (h : laidMet Tryd.prog [("probecard/marches.table",Rows.laid_probecard_marches_table)] W) : GlOk noMap W := by
 revert h
 generalize hd : (Rows.laid_probecard_marches_table : DataW Unit) = d
 intro h
 obtain ⟨ps,hL,_,_⟩ := h
 obtain ⟨g,t,cs,fuel,p,q,h1,h2,h3,h4,_,_⟩ := hL
 rw [← hd] at h4
 obtain rfl : g = 0 := (Option.some.inj (Tryd.gn.symm.trans h1)).symm
 obtain rfl : t = 100 := (Option.some.inj (Tryd.gt.symm.trans h2)).symm
 have hc := tab_cells h4
 have hh : ∃ e fr,W.heap[0]? = some (.cells cs e fr) := by
   unfold World.var? at h3
   rw [Tryd.gn] at h3
   simp only [Option.bind_some] at h3
   split at h3
   · rename_i x y z e
     simp only [Option.some.injEq] at h3
     subst h3
     exact ⟨_,_,e⟩
   · cases h3
 obtain ⟨e,fr,hh⟩ := hh
 intro g c x hg
 cases g with
 | succ g => cases hg
 | zero =>
   have hx : c.trees x = strs.map T.str := by
     cases hg
     rfl
   rw [hx]
   refine .iptr _ 0 0 (fun i => .string ⟨(strs[i]?.getD []).toArray⟩) (noMap_un 0) ⟨cs,e,fr,hh⟩ (fun i hi => ?_) (fun i hi => ?_)
   · have hi : i < 14 := by
       have : strs.length = 14 := rfl
       rw [List.length_map,this] at hi
       exact hi
     have := hc i hi
     simp only [World.cell?,Nat.zero_add,hh]
     simpa using this
   · have hi' : i < strs.length := by simpa using hi
     simp only [List.getElem_map,List.getElem?_eq_getElem hi',Option.getD_some]
     exact .str _
end Go.Proofs.YtcnlccpihknehaaDoor
