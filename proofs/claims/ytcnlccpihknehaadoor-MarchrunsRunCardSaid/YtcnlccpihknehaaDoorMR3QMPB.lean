/-
  March runs: the statement Run: its run answers true.
-/
import Derived.Test.YtcnlccpihknehaaDoorMR3QMm
import Derived.Test.YtcnlccpihknehaaDoorMR3QMUG
set_option linter.all false
namespace Go.Proofs.YtcnlccpihknehaaDoor
open Go.Abs
namespace Mr
open Pl
def RawOk (orders : List Int) (ops : List (List Int)) : Prop := (∀ l ∈ ops,∀ b ∈ l,0 ≤ b ∧ b ≤ 255) ∧ ∀ b ∈ orders,0 ≤ b ∧ b ≤ 255
theorem same_loop (l : List Fa) (hl : l.length ≤ 600000) : iter M8.s0 ⟨l,l,0⟩ = some (.inl ()) := by
 have key : iter M8.s0 ⟨l,l,((0 : Nat) : Int)⟩ = some (.inl ()) := by
   refine iter_for (step := M8.s0) (fun i => ⟨l,l,(i : Int)⟩) (n := l.length) (fun i hi => ?_) ?_
   · have e1 : ((i : Int) < (l.length : Int)) := by omega
     unfold M8.s0
     simp only [e1,inR_nat hi,suc (show i < 9000000000000000000 by omega),decide_true,cond_true,beq_self_eq_true,Bool.and_self,Bool.not_true,cond_false]
   · unfold M8.s0
     simp
 exact key
theorem run8 {orders : List Int} {ops : List (List Int)} (hr : RawOk orders ops) {s start c p' q' : Int} (h : U8 s) (hc : U8 c) (hp : U8 p') (hq : U8 q') (down : Bool) : M8.m ⟨orders,ops,s,start,c,p',q',down⟩ = some true := by
 obtain ⟨m,hg,hm,_,_⟩ := good hr.1 hr.2
 obtain ⟨b,k,p,q,hd,ok⟩ := defect_run (start := start) h hc hp hq
 have hn := num_pos s
 have h1 := m32 (down := down) hd ok hm (by omega) (content_len start (num s)) (content_bin start (num s))
 have h2 := m34 (down := down) ok hm (by omega) (content_len start (num s)) (content_bin start (num s))
 have hL : (fls b k p q (content start (num s)) (num s) down m).length ≤ 600000 := by
   have h3 := acs_len (down := down) hm ok.size
   have hi : (ini b k p q (content start (num s))).length = num s := (ini_len ..).trans (content_len start (num s))
   have h4 := (at_ok (b := b) (k := k) (p := p) (q := q) (n := num s) (w := acs (num s) down m) hi (ini_bin ok.lo (content_bin start (num s))) (fun x hx => (acs_ok hm hx).2) (Nat.le_refl _)).2.2.1
   unfold at_ at h4
   rw [List.take_length] at h4
   show (rn b k p q (ini b k p q (content start (num s))) (acs (num s) down m)).fs.length ≤ _
   omega
 have hS := same_loop _ hL
 unfold M8.m
 cases b with
 | true =>
   have hz : fls true k p q (content start (num s)) (num s) down m = [] := fls_bad.2 (loc0 hm (content_len start (num s)) (content_bin start (num s)) down)
   simp only [lst,if_true] at h2 hd
   rw [hz] at h1 h2 hS
   simp only [hg,hd,content_t h,h1,h2,hS,lives,bindO,sumC]
   rfl
 | false =>
   simp only [lst,Bool.false_eq_true,if_false] at h2 hd
   generalize hR : fls false k p q (content start (num s)) (num s) down m = R at h1 h2 hS
   simp only [hg,hd,content_t h,h1,h2,hS,lives,bindO,sumC,show ((1 : Int) == 1) = true from rfl,cond_true,show ((1 : Int) == 0) = false from rfl,show ((0 : Int) != 0) = false from rfl,cond_false,bne_self_eq_false]
end Mr
end Go.Proofs.YtcnlccpihknehaaDoor
