/-
  What the proof stands on.
-/
import Derived.Test.YtogkpjhkpgdbkaaDoorWR2QWS9
import Derived.Test.YtogkpjhkpgdbkaaDoorWR2QSyL
import Derived.Test.YtogkpjhkpgdbkaaDoorWR2QAbsX
import Derived.WalkKit
import Derived.BigCall
import Derived.RangeFuncNested
import Derived.RangeFuncBound
import Derived.RangeFuncCalls
import Derived.RangeFuncLeaves
import Derived.OwnWalkIn
import Derived.TacticsInMore
import Derived.LoopNIn
import Derived.LoopIn
import Derived.Maps.AppendAt
import Derived.Laws.IdiomStrings
set_option linter.all false
namespace Go.Proofs.YtogkpjhkpgdbkaaDoor
open Go.Abs
namespace Aw
abbrev evArgs : List AV := [.c (.t (.int .u8 6)),.c (.t (.imm [.int .u8 1,.int .u8 0] 2 none))]
theorem ev_eq : checkR Tryd.prog tab 200 20 10 evArgs = some (.c (.t (.int .u8 1))) := by kernel_rfl
theorem ev_ok : FnOk Tryd.prog 10 evArgs [] fun u τ => u = .c (.t (.int .u8 1)) ∧ τ = [] := checkR_ok mixed tab_ok ev_eq
theorem nm_eq : checkR Tryd.prog tab 200 20 12 [.c (.t (.int .u8 18))] = some (.c (.t (.str [66,111,116,104,79,114]))) := by kernel_rfl
theorem nm_ok : FnOk Tryd.prog 12 [.c (.t (.int .u8 18))] [] fun u τ => u = .c (.t (.str [66,111,116,104,79,114])) ∧ τ = [] := checkR_ok mixed tab_ok nm_eq
end Aw
end Go.Proofs.YtogkpjhkpgdbkaaDoor
namespace Go.Proofs.YtogkpjhkpgdbkaaDoor
open Go.Abs Go.RowKit
namespace Aw
structure Bel (B : Nat) (w w' : World) : Prop where
 os : w'.os = w.os
 out : w'.output = w.output
 size : w.heap.size ≤ w'.heap.size
 block : ∀ k,k < B → w'.heap[k]? = w.heap[k]?
theorem Bel.refl (B : Nat) (w : World) : Bel B w w := ⟨rfl,rfl,Nat.le_refl _,fun _ _ => rfl⟩
theorem Bel.trans {B : Nat} {w w1 w2 : World} (h : Bel B w w1) (h' : Bel B w1 w2) : Bel B w w2 := ⟨h'.os.trans h.os,h'.out.trans h.out,Nat.le_trans h.size h'.size,fun k hk => (h'.block k hk).trans (h.block k hk)⟩
theorem Bel.le {B B' : Nat} {w w' : World} (h : Bel B w w') (hB : B' ≤ B) : Bel B' w w' := ⟨h.os,h.out,h.size,fun k hk => h.block k (by omega)⟩
theorem Bel.alloc {B : Nat} {w : World} (o : Obj) (hB : B ≤ w.heap.size) : Bel B w (w.alloc o) := ⟨rfl,rfl,by simp,fun b hb => Below.heap_alloc w o b (by omega)⟩
theorem Bel.setCell {B : Nat} {w : World} (a : Addr) (v : Value) (hl : B ≤ a.block) : Bel B w (w.setCell a v) := ⟨rfl,rfl,by simp [World.setCell],fun b hb => Below.heap_setCell w a v b (by omega)⟩
theorem calls_tree {f : FuncId} {args : List AV} {v : AV} (h : FnOk Tryd.prog f args [] fun u τ => u = v ∧ τ = []) {w1 : World} {cargs : Array Value} (hg : GlOk noMap w1) (ha : argsR noMap w1 args cargs) :
  Calls Tryd.prog f cargs w1 fun e w' => (∃ ι' cv,e = .returned cv ∧ VR ι' w' v cv) ∧ Bel w1.heap.size w1 w' := by
 refine callsIn_wide.1 (CallsIn.mono (h.2 noMap w1 cargs hg (noMap_HR w1) ha) fun e w' ⟨v',σ',ι',cv,he,⟨h1,h2⟩,h3,h4,h5⟩ => ?_)
 subst h1; subst h2
 exact ⟨⟨ι',cv,he,h3⟩,⟨h5.os,h5.out,h5.size,fun b hb => h5.frame b hb (noMap_un b)⟩⟩
theorem isRow.lt {w : World} {b : Nat} (h : isRow w b) : b < w.heap.size := by
 obtain ⟨c,e,fr,h2⟩ := h
 exact (Array.getElem?_eq_some_iff.1 h2).1
theorem gl_bel {w w' : World} (h : GlOk noMap w) (hb : Bel w.heap.size w w') : GlOk noMap w' := h.mono fun b _ hr => ⟨noMap_un b,hb.block b (isRow.lt hr)⟩
theorem fn_bel {f : FuncId} {args : List AV} {v : AV} (hc : callable Tryd.prog f)
  (h : ∀ ι w cargs,GlOk noMap w → HR ι [] w → argsR ι w args cargs → ∃ cv,(∀ w',VR ι w' v cv) ∧ Calls Tryd.prog f cargs w fun e w' => e = .returned cv ∧ Bel w.heap.size w w') :
  FnOk Tryd.prog f args [] fun u τ => u = v ∧ τ = [] := by
 refine ⟨hc,fun ι w cargs hg hH ha => ?_⟩
 obtain ⟨cv,hv,hcall⟩ := h ι w cargs (hg.mono fun b _ _ => ⟨noMap_un b,rfl⟩) hH ha
 refine CallsIn.mono (callsIn_wide.2 hcall) fun e w' ⟨he,hb⟩ => ?_
 have hs : Step ι [] w ι [] w' := ⟨Nat.le_refl _,hb.size,hb.os,hb.out,fun id s h1 => ⟨s,h1,Nat.le_refl _,fun _ => rfl⟩,fun id _ h1 => h1,fun id s l h1 h2 => .inr ⟨id,s,l,h1,h2,rfl⟩,rfl,rfl,fun b hr => hb.block b (hH.resRow b hr).lt,fun b h1 _ => hb.block b h1⟩
 refine ⟨v,[],ι,cv,he,⟨rfl,rfl⟩,hv w',⟨fun id s h1 => ?_,hH.inj,fun b hr => ?_,hH.resNo⟩,hs⟩
 ·obtain ⟨o,h2,_⟩ := hH.obj id s h1
  simp at h2
 ·obtain ⟨c,e,fr,h2⟩ := hH.resRow b hr
  exact ⟨c,e,fr,(hb.block b (Array.getElem?_eq_some_iff.1 h2).1).trans h2⟩
theorem cl_eq (v : Int) (h : v = 0 ∨ v = 2) : checkR Tryd.prog tab 200 20 37 [.c (.t (.int .u8 v))] = some (.c (.t (.int .u8 v))) := by
 rcases h with rfl | rfl <;> kernel_rfl
structure IsI (x : Int) (W : World) (e : Ending) (W' : World) : Prop where
 ex : e = .returned (.int .u8 x) ∧ Bel W.heap.size W W'
theorem clean {W : World} (hg : GlOk noMap W) (v : Int) (h : v = 0 ∨ v = 2) : Calls Tryd.prog 37 #[.int .u8 v] W (IsI v W) := by
 refine (calls_tree (checkR_ok mixed tab_ok (cl_eq v h)) hg (argsR1 (TR.int _ _))).mono fun e w' ⟨⟨ι',cv,he,hv⟩,hb⟩ => ?_
 have hv : TR ι'.un w' (.int .u8 v) cv := hv
 cases hv
 exact ⟨⟨he,hb⟩⟩
theorem info5 : (Tryd.prog.info? 5).map (fun i => (i.zero,i.size,i.bytes)) = some (some (.int .u8 0),1,1) := by kernel_rfl
theorem mk2 (W : World) : Sem.run Tryd.prog (Instr.makeSlice 68 (.int .i64 2) (.int .i64 2)) W = .ok (.slice (some ⟨W.heap.size,0,none⟩) 2 2) (W.alloc (.cells #[.int .u8 0,.int .u8 0] 5)) := by
 obtain ⟨i1,hj,hy0,hy1,hy2⟩ := info_parts info5
 have h := run_make (P := Tryd.prog) W 68 5 i1 (.int .u8 0) Tryd.underlying68 hj hy0 .i64 .i64 2 2 (by omega) (Int.le_refl _) (by rw [hy2]; omega) (by omega)
 rw [hy1] at h
 have e : madeCells (Value.int .u8 0).cells (Int.toNat 2 * 1) = #[.int .u8 0,.int .u8 0] := by kernel_rfl
 rw [e] at h
 exact h
def t0 (k : Nat) : Int := if k = 0 then 0 else 48
def t1 (k : Nat) : Int := if k = 2 then 88 else 0
set_option maxRecDepth 100000 in
set_option maxHeartbeats 4000000 in
theorem text_walk (w : World) (b : Nat) (hb : w.heap[b]? = some (.cells #[.int .u8 0,.int .u8 2] 27 (0,0))) (hg : GlOk noMap w) :
  Calls Tryd.prog 11 #[.slice (some ⟨b,0,none⟩) 2 2] w fun e w' => e = .returned (.string ⟨#[48,88]⟩) ∧ Bel w.heap.size w w' := by
 have hbl := (Array.getElem?_eq_some_iff.1 hb).1
 have mk := mk2 w
 go_enter Tryd.func11,Tryd.ntmps11
 go_wp2
 go_loopw [11] (fun i wr => ∃ k : Nat,i = .int .i64 k ∧ k ≤ 2 ∧ wr.heap[w.heap.size]? = some (.cells #[.int .u8 (t0 k),.int .u8 (t1 k)] 5 (0,0)) ∧ Bel w.heap.size w wr) (fun i _ => 2 - (intOf i).toNat)
 case atStart => exact ⟨0,rfl,by decide,World.alloc_heap_new _ _,Bel.alloc _ (Nat.le_refl _)⟩
 case round =>
  obtain ⟨k,rfl,hk,hn,hbel⟩ := hrel
  rcases (show k = 0 ∨ k = 1 ∨ k = 2 by omega) with rfl | rfl | rfl
  ·have hb5 := (hbel.block b hbl).trans hb
   have a0 : wr.cell? ⟨b,0,none⟩ = some (.int .u8 0) := by simp [World.cell?,hb5]
   have hlt : w.heap.size < wr.heap.size := (Array.getElem?_eq_some_iff.1 hn).1
   have c37 := clean (gl_bel hg hbel) 0 (by decide)
   go_wp2_with (go_at_call 37; refine c37.mono ?_)
   clear c37 a0
   rintro e w5 ⟨⟨rfl,h5⟩⟩
   have hn5 := (h5.block _ hlt).trans hn
   have a1 : w5.cell? ⟨w.heap.size,0,none⟩ = some (.int .u8 0) := by simp [World.cell?,hn5,t0,t1]
   have a2 : w5.frozen? ⟨w.heap.size,0,none⟩ = false := by simp [World.frozen?,hn5]
   have hs : (w5.setCell ⟨w.heap.size,0,none⟩ (.int .u8 48)).heap[w.heap.size]? = some (.cells #[.int .u8 (t0 1),.int .u8 (t1 1)] 5 (0,0)) := by
    have hl := (Array.getElem?_eq_some_iff.1 hn5).1
    have e := (Array.getElem?_eq_some_iff.1 hn5).2
    simp [World.setCell,hl,Array.getElem_modify,e,t0,t1]
   have hbb := (hbel.trans (h5.le (Nat.le_of_lt hlt))).trans (Bel.setCell ⟨w.heap.size,0,none⟩ (.int .u8 48) (Nat.le_refl _))
   clear hn5 h5 hn hbel hb5
   go_wp2
   go_roundw
   case rel => exact ⟨1,rfl,by decide,hs,hbb⟩
   case measure => decide
  ·have hb5 := (hbel.block b hbl).trans hb
   have a0 : wr.cell? ⟨b,1,none⟩ = some (.int .u8 2) := by simp [World.cell?,hb5]
   have hlt : w.heap.size < wr.heap.size := (Array.getElem?_eq_some_iff.1 hn).1
   have c37 := clean (gl_bel hg hbel) 2 (by decide)
   go_wp2_with (go_at_call 37; refine c37.mono ?_)
   clear c37 a0
   rintro e w5 ⟨⟨rfl,h5⟩⟩
   have hn5 := (h5.block _ hlt).trans hn
   have a1 : w5.cell? ⟨w.heap.size,1,none⟩ = some (.int .u8 0) := by simp [World.cell?,hn5,t0,t1]
   have a2 : w5.frozen? ⟨w.heap.size,1,none⟩ = false := by simp [World.frozen?,hn5]
   have hs : (w5.setCell ⟨w.heap.size,1,none⟩ (.int .u8 88)).heap[w.heap.size]? = some (.cells #[.int .u8 (t0 2),.int .u8 (t1 2)] 5 (0,0)) := by
    have hl := (Array.getElem?_eq_some_iff.1 hn5).1
    have e := (Array.getElem?_eq_some_iff.1 hn5).2
    simp [World.setCell,hl,Array.getElem_modify,e,t0,t1]
   have hbb := (hbel.trans (h5.le (Nat.le_of_lt hlt))).trans (Bel.setCell ⟨w.heap.size,1,none⟩ (.int .u8 88) (Nat.le_refl _))
   clear hn5 h5 hn hbel hb5
   go_wp2
   go_roundw
   case rel => exact ⟨2,rfl,by decide,hs,hbb⟩
   case measure => decide
  ·have a1 : wr.cell? ⟨w.heap.size,0,none⟩ = some (.int .u8 48) := by simp [World.cell?,hn,t0,t1]
   have a2 : wr.cell? ⟨w.heap.size,1,none⟩ = some (.int .u8 88) := by simp [World.cell?,hn,t0,t1]
   have hcv : Sem.run Tryd.prog (convert 68 9 (.slice (some ⟨w.heap.size,0,none⟩) 2 2)) wr = .ok (.string ⟨#[48,88]⟩) wr := run_convert_bytes_back wr 68 9 5 ⟨w.heap.size,0,none⟩ 2 [48,88] Tryd.underlying68 Tryd.underlying5 Tryd.underlying9 (fun i hi => by
    have hi : i < 2 := hi
    rcases (show i = 0 ∨ i = 1 by omega) with rfl | rfl
    ·exact a1
    ·exact a2)
   go_wp2
   exact bodyPost_ret (results_tmp rfl _ _ _) rfl ⟨rfl,hbel⟩
theorem callable4 : callable Tryd.prog 4 := ⟨Tryd.f4,Tryd.func4,by kernel_rfl,by kernel_rfl⟩
structure IsB (W : World) (e : Ending) (W' : World) : Prop where
 ex : e = .returned (.bool true) ∧ Bel W.heap.size W W'
structure IsT (t : ByteArray) (W : World) (e : Ending) (W' : World) : Prop where
 ex : e = .returned (.string t) ∧ Bel W.heap.size W W'
theorem two_tree {W : World} {b : Nat} {x y : Int} {cs : Array Value} (h : W.heap[b]? = some (.cells cs 27 (0,0))) (hc : cs = #[.int .u8 x,.int .u8 y]) : TR noMap.un W (.imm [.int .u8 x,.int .u8 y] 2 none) (.slice (some ⟨b,0,none⟩) 2 2) := by
 subst hc
 refine TR.imm _ 2 none b 0 2 (fun i => if i = 0 then .int .u8 x else .int .u8 y) (noMap_un b) ⟨_,_,_,h⟩ trivial (Nat.le_refl _) (fun i hi => ?_) (fun i hi => ?_)
 ·have hi : i < 2 := hi
  rcases (show i = 0 ∨ i = 1 by omega) with rfl | rfl <;> simp [World.cell?,h]
 ·have hi : i < 2 := hi
  rcases (show i = 0 ∨ i = 1 by omega) with rfl | rfl <;> exact TR.int _ _
theorem evalC {W : World} {b : Nat} (hg : GlOk noMap W) (h : W.heap[b]? = some (.cells #[.int .u8 1,.int .u8 0] 27 (0,0))) : Calls Tryd.prog 10 #[.int .u8 6,.slice (some ⟨b,0,none⟩) 2 2] W (IsI 1 W) := by
 refine (calls_tree ev_ok hg (argsR2 (TR.int _ _) (two_tree h rfl))).mono fun e w' ⟨⟨ι',cv,he,hv⟩,hb⟩ => ?_
 have hv : TR ι'.un w' (.int .u8 1) cv := hv
 cases hv
 exact ⟨⟨he,hb⟩⟩
theorem nameC {W : World} (hg : GlOk noMap W) : Calls Tryd.prog 12 #[.int .u8 18] W (IsT ⟨#[66,111,116,104,79,114]⟩ W) := by
 refine (calls_tree nm_ok hg (argsR1 (TR.int _ _))).mono fun e w' ⟨⟨ι',cv,he,hv⟩,hb⟩ => ?_
 have hv : TR ι'.un w' (.str [66,111,116,104,79,114]) cv := hv
 cases hv
 exact ⟨⟨he,hb⟩⟩
set_option maxRecDepth 100000 in
set_option maxHeartbeats 4000000 in
theorem awake_walk (w : World) (hg : GlOk noMap w) : Calls Tryd.prog 4 #[] w (IsB w) := by
 have k0 := World.alloc_heap_new w (.cells #[.int .u8 1,.int .u8 0] 27)
 have b0 : Bel w.heap.size w (w.alloc (.cells #[.int .u8 1,.int .u8 0] 27)) := Bel.alloc _ (Nat.le_refl _)
 have c10 := evalC (gl_bel hg b0) k0
 go_enter Tryd.func4,Tryd.ntmps4
 go_wp2_with (go_at_call 10; refine c10.mono ?_)
 clear c10 k0
 rintro e w1 ⟨⟨rfl,h1⟩⟩
 have b1 := b0.trans (h1.le (by simp))
 have k1 := World.alloc_heap_new w1 (.cells #[.int .u8 0,.int .u8 2] 27)
 have b2 := b1.trans (Bel.alloc (.cells #[.int .u8 0,.int .u8 2] 27) b1.size)
 have c11 := text_walk _ _ k1 (gl_bel hg b2)
 go_wp2_with (go_at_call 11; refine c11.mono ?_)
 clear c11 k1
 rintro e w2 ⟨rfl,h2⟩
 have b3 := b2.trans (h2.le b2.size)
 have c12 := nameC (gl_bel hg b3)
 go_wp2_with (go_at_call 12; refine c12.mono ?_)
 clear c12
 rintro e w3 ⟨⟨rfl,h3⟩⟩
 have b4 := b3.trans (h3.le b3.size)
 clear b0 b1 b2 b3 h1 h2 h3
 go_wp2
 exact bodyPost_ret (results_tmp rfl _ _ _) rfl ⟨⟨rfl,b4⟩⟩
theorem ok0 : FnOk Tryd.prog 4 [] [] fun u τ => u = aB true ∧ τ = [] := by
 refine fn_bel callable4 fun ι w cargs hg hH ha => ?_
 have hc : cargs = #[] := Array.eq_empty_of_size_eq_zero ha.1
 subst hc
 exact ⟨.bool true,fun w' => TR.bool _,(awake_walk w hg).mono fun e w' h => h.ex⟩
end Aw
end Go.Proofs.YtogkpjhkpgdbkaaDoor
namespace Go.Proofs.YtogkpjhkpgdbkaaDoor
open Go.Abs
namespace M4
theorem ok0 : FnOk Tryd.prog 4 [] [] fun u τ => u = aB true ∧ τ = [] := Aw.ok0
theorem ok (σ : Heap) : ConstAt Tryd.prog 4 [] σ [] (aB true) := const_any rfl rfl ok0
def con : Con where
 X := Unit
 Y := Unit
 dec := fun l _ => match l with | [] => some () | _ => none
 run := fun _ => some ()
 inh := ()
 val := fun _ _ _ => .c (.bo true)
 heap := fun _ _ σ => σ
 rd := fun _ => some []
theorem con_ok : ConOk Tryd.prog 4 con where
 ok := fun l σ x y h _ => by
  cases l with
  | nil => exact (ok _ _ (fun _ _ => agC.refl _ _)).mono fun v τ ⟨e1,e2⟩ => ⟨by rw [e1]; exact WV.rfl',by rw [e2]; exact WH.rfl'⟩
  | cons _ _ => cases h
 rd := fun l σ x y rs h hrs => by
  cases l with
  | nil =>
   refine ⟨rfl,fun _ => ?_⟩
   cases hrs
   exact ok _
  | cons _ _ => cases h
end M4
end Go.Proofs.YtogkpjhkpgdbkaaDoor
