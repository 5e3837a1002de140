/-
  The row TopStore: the table of fanins, as the row's condition lays it.
-/
import Derived.Test.YtogkpjhkpgdbkaaDoorWR2QWp
import Derived.Test.YtogkpjhkpgdbkaaDoorWR2QSyL
import Derived.Test.YtogkpjhkpgdbkaaDoorTie
import Derived.Test.YtogkpjhkpgdbkaaDoorCards
import Derived.LaidLaws
import Derived.SevenTiedAt
set_option linter.all false
namespace Go.Proofs.YtogkpjhkpgdbkaaDoor
open Go.ChangeShapes Go.WideShapes Go.ChangeAt Go.RowKit
open Go.Abs
theorem mapM_get {α β : Type} {f : α → Option β} : ∀ {l : List α} {ys : List β},l.mapM f = some ys → ys.length = l.length ∧ ∀ i (h : i < l.length) (h' : i < ys.length),f l[i] = some ys[i]
 | [],ys,h => by
  simp only [List.mapM_nil,Option.pure_def,Option.some.injEq] at h
  subst h
  exact ⟨rfl,fun i h => by simp at h⟩
 | a :: l,ys,h => by
  rw [List.mapM_cons] at h
  simp only [Option.pure_def,Option.bind_eq_bind,Option.bind_eq_some_iff,Option.some.injEq] at h
  obtain ⟨y,h1,ys',h2,rfl⟩ := h
  obtain ⟨h3,h4⟩ := mapM_get h2
  refine ⟨by simp [h3],fun i hi hi' => ?_⟩
  cases i with
  | zero => exact h1
  | succ i => exact h4 i (by simpa using hi) (by simpa using hi')
theorem int_trod {H : Type} {enc : TypeId × Value → H} {P : Program} {w : World} {base : Nat} {spare : Nat → Bool} {held : Bool} {fuel : Nat} {t : TypeId} {cs : List Value} {k : IntKind} {n : Int} {p : List MemPlace} (ht : P.underlying t = some (.int k))
  (h : DataW.trod enc P w base spare held fuel t cs = some (.lit (.int k n),p)) : cs = [.int k n] := by
 cases fuel with
 | zero => simp [DataW.trod] at h
 | succ fuel =>
  match cs with
  | [] => simp [DataW.trod,ht] at h
  | _ :: _ :: _ => simp [DataW.trod,ht] at h
  | [c] =>
   cases c <;> simp [DataW.trod,ht] at h
   rename_i b
   obtain ⟨⟨rfl,_⟩,rfl,_⟩ := h
   rfl
theorem arr_trod {H : Type} {enc : TypeId × Value → H} {P : Program} {w : World} {base : Nat} {spare : Nat → Bool} {held : Bool} {fuel : Nat} {t e : TypeId} {n : Nat} {cs : List Value} {ds : List (DataW H)} {p : List MemPlace} (ht : P.underlying t = some (.array n e))
  (h : DataW.trod enc P w base spare held fuel t cs = some (.agg ds,p)) : cs.length = P.cellsOf t ∧ ds.length = n ∧ ∃ fuel',∀ i (h : i < ds.length),∃ q,DataW.trod enc P w base spare held fuel' e ((cs.drop (i * P.cellsOf e)).take (P.cellsOf e)) = some (ds[i],q) := by
 cases fuel with
 | zero => simp [DataW.trod] at h
 | succ fuel =>
  simp only [DataW.trod,ht] at h
  split at h
  ·rename_i hl
   obtain ⟨xs,h1,h2⟩ := Option.map_eq_some_iff.1 h
   simp only [Prod.mk.injEq,DataW.agg.injEq] at h2
   obtain ⟨rfl,_⟩ := h2
   obtain ⟨h3,h4⟩ := mapM_get h1
   refine ⟨hl,by simpa using h3,fuel,fun i hi => ?_⟩
   have hi' : i < xs.length := by simpa using hi
   have hi2 : i < (List.range n).length := by omega
   refine ⟨xs[i].2,?_⟩
   have := h4 i hi2 hi'
   simp only [List.getElem_range] at this
   rw [this]
   simp
  ·cases h
def fan : List (Int × Int) := [(0,0),(0,0),(0,0),(1,1),(1,1),(2,16),(2,16),(2,16),(2,16),(2,16),(2,16),(3,3),(2,2),(1,16),(1,1),(0,0)]
def ints : List Int := fan.flatMap fun x => [x.1,x.2]
theorem laid_eq {H : Type} : (Rows.laid_probecard_logic_fanins : DataW H) = .agg (fan.map fun x => .agg [.lit (.int .i64 x.1),.lit (.int .i64 x.2)]) := rfl
theorem Tryd.u76 : Tryd.prog.underlying 76 = some (.array 16 75) := by kernel_rfl
theorem Tryd.u75 : Tryd.prog.underlying 75 = some (.array 2 3) := by kernel_rfl
theorem Tryd.u3 : Tryd.prog.underlying 3 = some (.int .i64) := by kernel_rfl
theorem Tryd.c75 : Tryd.prog.cellsOf 75 = 2 := by kernel_rfl
theorem Tryd.c76 : Tryd.prog.cellsOf 76 = 32 := by kernel_rfl
theorem Tryd.c3 : Tryd.prog.cellsOf 3 = 1 := by kernel_rfl
theorem tab_cells {H : Type} {enc : TypeId × Value → H} {w : World} {base : Nat} {spare : Nat → Bool} {held : Bool} {fuel : Nat} {cs : List Value} {p : List MemPlace} (h : DataW.trod enc Tryd.prog w base spare held fuel 76 cs = some (Rows.laid_probecard_logic_fanins,p)) :
  ∀ i,i < 32 → cs[i]? = some (.int .i64 (ints[i]?.getD 0)) := by
 rw [laid_eq] at h
 obtain ⟨hl,hd,fuel',he⟩ := arr_trod Tryd.u76 h
 rw [Tryd.c76] at hl
 intro i hi
 have hj : i / 2 < (fan.map fun x => (DataW.agg [.lit (.int .i64 x.1),.lit (.int .i64 x.2)] : DataW H)).length := by
  rw [hd]; omega
 obtain ⟨q,h1⟩ := he (i / 2) hj
 rw [Tryd.c75,List.getElem_map] at h1
 obtain ⟨_,h2,fuel2,h3⟩ := arr_trod Tryd.u75 h1
 have hm : i % 2 < 2 := Nat.mod_lt _ (by decide)
 obtain ⟨q2,h4⟩ := h3 (i % 2) (show i % 2 < 2 from hm)
 rw [Tryd.c3,Nat.mul_one] at h4
 have hj' : i / 2 < fan.length := by simpa using hj
 have hs : ∃ s,([.lit (.int .i64 (fan[i / 2]'hj').1),.lit (.int .i64 (fan[i / 2]'hj').2)] : List (DataW H))[i % 2]'(by simp; omega) = .lit (.int .i64 s) ∧ ints[i]?.getD 0 = s := by
  have hst : ∀ j (h : j < fan.length),ints[2 * j]? = some fan[j].1 ∧ ints[2 * j + 1]? = some fan[j].2 := by
   unfold ints
   decide
  obtain ⟨a1,a2⟩ := hst (i / 2) hj'
  rcases Nat.mod_two_eq_zero_or_one i with e | e
  ·refine ⟨(fan[i / 2]'hj').1,by simp [e],?_⟩
   have e2 : ints[i]? = ints[2 * (i / 2)]? := congrArg (fun z => ints[z]?) (by omega)
   rw [e2,a1]
   rfl
  ·refine ⟨(fan[i / 2]'hj').2,by simp [e],?_⟩
   have e2 : ints[i]? = ints[2 * (i / 2) + 1]? := congrArg (fun z => ints[z]?) (by omega)
   rw [e2,a2]
   rfl
 obtain ⟨s,hs1,hs2⟩ := hs
 rw [hs1] at h4
 have h5 := int_trod Tryd.u3 h4
 rw [hs2]
 have h6 : (((cs.drop (i / 2 * 2)).take 2).drop (i % 2))[0]? = some (.int .i64 s) := by
  have := congrArg (fun l : List Value => l[0]?) h5
  simpa using this
 rw [List.getElem?_drop,List.getElem?_take,if_pos (by omega),List.getElem?_drop] at h6
 have e3 : i / 2 * 2 + (i % 2 + 0) = i := by omega
 rw [e3] at h6
 exact h6
theorem Tryd.gn : Tryd.prog.globalNamed "probecard/logic.fanins" = some 0 := by kernel_rfl
theorem Tryd.gt : (Tryd.prog.globals[0]?).map (·.type) = some 76 := by kernel_rfl
set_option maxRecDepth 100000 in
theorem gl_laid {W : World} (h : laidMet Tryd.prog [("probecard/logic.fanins",Rows.laid_probecard_logic_fanins)] W) : GlOk noMap W := by
 revert h
 generalize hd : (Rows.laid_probecard_logic_fanins : DataW Unit) = d
 intro h
 obtain ⟨ps,hL,_,_⟩ := h
 obtain ⟨g,t,cs,fuel,p,q,h1,h2,h3,h4,_,_⟩ := hL
 rw [← hd] at h4
 obtain rfl : g = 0 := (Option.some.inj (Tryd.gn.symm.trans h1)).symm
 obtain rfl : t = 76 := (Option.some.inj (Tryd.gt.symm.trans h2)).symm
 have hc := tab_cells h4
 have hh : ∃ e fr,W.heap[0]? = some (.cells cs e fr) := by
  unfold World.var? at h3
  rw [Tryd.gn] at h3
  simp only [Option.bind_some] at h3
  split at h3
  ·rename_i x y z e
   simp only [Option.some.injEq] at h3
   subst h3
   exact ⟨_,_,e⟩
  ·cases h3
 obtain ⟨e,fr,hh⟩ := hh
 intro g c x hg
 cases g with
 | succ g => cases hg
 | zero =>
  have hx : c.trees x = ints.map (T.int .i64) := by
   cases hg
   rfl
  rw [hx]
  refine .iptr _ 0 0 (fun i => .int .i64 (ints[i]?.getD 0)) (noMap_un 0) ⟨cs,e,fr,hh⟩ (fun i hi => ?_) (fun i hi => ?_)
  ·have hi : i < 32 := by
    have : ints.length = 32 := rfl
    rw [List.length_map,this] at hi
    exact hi
   have := hc i hi
   simp only [World.cell?,Nat.zero_add,hh]
   simpa using this
  ·have hi' : i < ints.length := by simpa using hi
   simp only [List.getElem_map,List.getElem?_eq_getElem hi',Option.getD_some]
   exact .int _ _
end Go.Proofs.YtogkpjhkpgdbkaaDoor
