/-
  March runs: marches inverted; the statement Inverse: its run answers true.
-/
import Derived.Test.YtcnlccpihknehaaDoorMR6QMPD
import Derived.Test.YtcnlccpihknehaaDoorMR6QMPB
import Derived.Test.YtcnlccpihknehaaDoorMR6QMd
set_option linter.all false
namespace Go.Proofs.YtcnlccpihknehaaDoor
open Go.Abs
namespace Mr
open Pl
def oi (o : Op) : Op := (o.1,1 - o.2)
def ai (x : Ac) : Ac := (x.1,oi x.2)
def invm (m : List El) : List El := m.map fun e => (e.1,e.2.map oi)
theorem m57 {v : Int} (h : Bit v) : M57.m ⟨v⟩ = some (1 - v) := by rcases h with h | h <;> subst h <;> rfl
theorem inv_in {m ms : List El} {n i o : Int} {lo len : Nat} {l : List Op} (hl : l.length ≤ 16) (hb : ∀ o ∈ l,Bit o.2) : iter M55a.s1 ⟨m,n,i,lo,len,l,(l.length : Int),0,ms,o,0,0,[]⟩ = some ⟨m,n,i,lo,len,ms,o,0,l.length,l.map oi⟩ := by
 have key : iter M55a.s1 ⟨m,n,i,lo,len,l,(l.length : Int),((0 : Nat) : Int),ms,o,0,((l.take 0).map oi).length,(l.take 0).map oi⟩ = some ⟨m,n,i,lo,len,ms,o,0,l.length,l.map oi⟩ := by
   refine iter_for (step := M55a.s1) (fun j => ⟨m,n,i,lo,len,l,(l.length : Int),(j : Int),ms,o,0,((l.take j).map oi).length,(l.take j).map oi⟩) (n := l.length) (fun j hj => ?_) ?_
   · have e1 : ((j : Int) < (l.length : Int)) := by omega
     have e2 : eqN ((l.take j).map oi).length ((l.take j).map oi).length = true := by simp [eqN]
     have e3 : roomB (((l.take j).map oi).length + 1) 2 = true := by simp [roomB,leB]; omega
     have e4 : (l.take (j + 1)).map oi = (l.take j).map oi ++ [(l[j].1,1 - l[j].2)] := by rw [List.take_succ_eq_append_getElem hj,List.map_append]; rfl
     have e5 : ((l.take (j + 1)).map oi).length = ((l.take j).map oi).length + 1 := by rw [e4]; simp
     unfold M55a.s1
     simp only [e1,inR_nat hj,getD_at hj,m57 (hb _ (List.getElem_mem hj)),e2,e3,show eqN 0 0 = true from rfl,suc (show j < 9000000000000000000 by omega),decide_true,cond_true,Bool.and_self,bindO]
     rw [e5,e4]
   · unfold M55a.s1
     simp
 exact key
theorem m28 {m : List El} (hm : V m) : M28.m ⟨m⟩ = some (invm m,(invm m).length) := by
 have hz := hm.len
 have key : iter M55a.s0 ⟨m,(m.length : Int),((0 : Nat) : Int),0,(invm (m.take 0)).length,invm (m.take 0)⟩ = some ⟨0,(invm m).length,invm m⟩ := by
   refine iter_for (step := M55a.s0) (fun i => ⟨m,(m.length : Int),(i : Int),0,(invm (m.take i)).length,invm (m.take i)⟩) (n := m.length) (fun i hi => ?_) ?_
   · have e1 : ((i : Int) < (m.length : Int)) := by omega
     have e2 : eqN (invm (m.take i)).length (invm (m.take i)).length = true := by simp [eqN]
     have e3 : roomB ((invm (m.take i)).length + 1) 32 = true := by simp [roomB,leB,invm]; omega
     have e4 : invm (m.take (i + 1)) = invm (m.take i) ++ [(m[i].1,m[i].2.map oi)] := by unfold invm; rw [List.take_succ_eq_append_getElem hi,List.map_append]; rfl
     have e5 : (invm (m.take (i + 1))).length = (invm (m.take i)).length + 1 := by rw [e4]; simp
     have e6 : leB (0 + m[i].2.length) m[i].2.length = true := by simp [leB]
     have e7 := m81 (m[i].2.map oi)
     rw [List.length_map] at e7
     have e8 : (m[i].2.map oi).take m[i].2.length = m[i].2.map oi := List.take_of_length_le (by simp)
     unfold M55a.s0 M56.m
     simp only [e1,inR_nat hi,getD_at hi,inv_in (hm.le _ (List.getElem_mem hi)) (hm.bit _ (List.getElem_mem hi)),e7,e2,e3,e6,e8,List.length_map,show eqN 0 0 = true from rfl,suc (show i < 9000000000000000000 by omega),decide_true,cond_true,Bool.and_self,bindO,List.drop_zero]
     rw [e5,e4]
   · unfold M55a.s0
     simp
 have key : iter M55a.s0 ⟨m,(m.length : Int),0,0,0,[]⟩ = _ := key
 have e : leB (0 + (invm m).length) (invm m).length = true := by simp [leB]
 unfold M28.m M55a.m
 simp only [key,m53,e,bindO,Bool.and_self,cond_true,List.drop_zero,List.take_length]
theorem chk_inv : ∀ (l : List Op) (c : Int),chk (1 - c) (l.map oi) = (chk c l).map fun d => 1 - d
 | [],c => rfl
 | o :: l,c => by
   simp only [List.map_cons,chk,oi]
   have e : (1 - o.2 ≠ 1 - c) ↔ (o.2 ≠ c) := by omega
   simp only [e]
   split
   · rfl
   · exact chk_inv l o.2
theorem chk_any {l : List Op} (hb : ∀ o ∈ l,Bit o.2) {c : Int} (hc : ¬ Bit c) (h : (chk c l).isSome = true) (c' : Int) : (chk c' l).isSome = true := by
 cases l with
 | nil => rfl
 | cons o l =>
   have hv := hb o (by simp)
   cases ho : o.1 with
   | true => simp only [chk,ho,Bool.true_eq_false,false_and,if_false] at h ⊢; exact h
   | false =>
     have : o.2 ≠ c := fun e => hc (e ▸ hv)
     simp [chk,ho,this] at h
theorem oi_bit {l : List Op} (h : ∀ o ∈ l,Bit o.2) : ∀ o ∈ l.map oi,Bit o.2 := fun o ho => by
 obtain ⟨o',h',rfl⟩ := List.mem_map.1 ho
 exact Bit.inv (h o' h')
theorem inv_ops (m : List El) : (invm m).flatMap (·.2) = (m.flatMap (·.2)).map oi := by unfold invm; rw [List.flatMap_map,List.map_flatMap]
theorem inv_V {m : List El} (hm : V m) : V (invm m) := by
 have f : ∀ e ∈ invm m,∃ e' ∈ m,e = (e'.1,e'.2.map oi) := fun e he => by
   obtain ⟨e',h,rfl⟩ := List.mem_map.1 he
   exact ⟨e',h,rfl⟩
 have hb : ∀ o ∈ m.flatMap (·.2),Bit o.2 := fun o ho => by
   obtain ⟨e,he,ho⟩ := List.mem_flatMap.1 ho
   exact hm.bit e he o ho
 refine ⟨by simpa [invm] using hm.pos,by simpa [invm] using hm.len,fun e he => ?_,fun e he => ?_,fun e he => ?_,fun e he => ?_,?_⟩
 · obtain ⟨e',h,rfl⟩ := f e he; exact hm.ord e' h
 · obtain ⟨e',h,rfl⟩ := f e he; simpa using hm.ne e' h
 · obtain ⟨e',h,rfl⟩ := f e he; simpa using hm.le e' h
 · obtain ⟨e',h,rfl⟩ := f e he; exact oi_bit (hm.bit e' h)
 · rw [inv_ops]
   refine chk_any (oi_bit hb) (c := 1 - 2) (by unfold Bit; omega) ?_ 2
   rw [chk_inv,Option.isSome_map]
   exact hm.st
theorem bad_inv {k : Int} (h : 0 ≤ k) (h' : k ≤ 18) {p q : Nat} : ∀ (w : List Ac) (c : List Int),p < c.length → q < c.length → Bin c → (∀ x ∈ w,x.1 < c.length ∧ Bit x.2.2) →
   bad false (inv k) p q (cmp c) (w.map ai) = bad false k p q c w
 | [],_,_,_,_,_ => rfl
 | (a,(o,v)) :: w,c,hp,hq,hb,hw => by
   obtain ⟨ha,hv⟩ := hw (a,(o,v)) (by simp)
   have hw' : ∀ x ∈ w,x.1 < c.length ∧ Bit x.2.2 := fun x hx => hw x (List.mem_cons_of_mem _ hx)
   have ha : a < c.length := ha
   have hv : Bit v := hv
   rw [List.map_cons]
   cases o with
   | true =>
     have hl : (wrt false k p q c a v).length = c.length := wrt_len hb hv
     have ih := bad_inv h h' w (wrt false k p q c a v) (by rw [hl]; exact hp) (by rw [hl]; exact hq) (wrt_bin hb hv) (fun x hx => by rw [hl]; exact hw' x hx)
     simp only [bad,ai,oi,if_true,wrt_inv h h' hp hq ha hv hb]
     exact ih
   | false =>
     have ih := bad_inv h h' w c hp hq hb hw'
     have e : (1 - rdv false k p q c a ≠ 1 - v) ↔ (rdv false k p q c a ≠ v) := by omega
     simp only [bad,ai,oi,Bool.false_eq_true,if_false,rdv_inv h h' hp hq ha hb,e]
     exact congrArg _ ih
theorem vis_inv (s : List Nat) (l : List Op) : vis s (l.map oi) = (vis s l).map ai := by
 unfold vis
 rw [List.map_flatMap]
 congr 1
 funext a
 rw [List.map_map,List.map_map]
 rfl
theorem sw_inv (m : List El) : sw (invm m) = (sw m).map ai := by
 unfold sw invm
 rw [List.flatMap_map,List.map_flatMap]
 simp only [vis_inv]
theorem pw_inv (above down : Bool) (m : List El) : pw above down (invm m) = (pw above down m).map ai := by
 unfold pw invm
 rw [List.flatMap_map,List.map_flatMap]
 simp only [vis_inv]
theorem vis_mem {s : List Nat} {l : List Op} {x : Ac} (h : x ∈ vis s l) : x.1 ∈ s ∧ x.2 ∈ l := by
 unfold vis at h
 simp only [List.mem_flatMap,List.mem_map] at h
 obtain ⟨a,ha,o,ho,rfl⟩ := h
 exact ⟨ha,ho⟩
theorem D1_inv {m : List El} (hm : V m) {k : Int} (h : 0 ≤ k) (h' : k ≤ 18) {x : Int} (hx : Bit x) : D1 (invm m) (inv k) (1 - x) = D1 m k x := by
 have hb : Bin [x] := fun i => by
   match i with
   | 0 => exact hx
   | i + 1 => exact .inl rfl
 unfold D1
 rw [show [1 - x] = cmp [x] from rfl,ini_inv h h' (by simp) hb,sw_inv]
 have hl : (ini false k 0 0 [x]).length = 1 := ini_len ..
 refine bad_inv h h' _ _ (by rw [hl]; decide) (by rw [hl]; decide) (ini_bin h hb) (fun y hy => ?_)
 unfold sw at hy
 obtain ⟨e,he,hy⟩ := List.mem_flatMap.1 hy
 obtain ⟨h1,h2⟩ := vis_mem hy
 rw [List.mem_singleton] at h1
 rw [hl,h1]
 exact ⟨by decide,hm.bit e he _ h2⟩
theorem D2_inv {m : List El} (hm : V m) {k : Int} (h : 0 ≤ k) (h' : k ≤ 18) {x y : Int} (hx : Bit x) (hy : Bit y) (above down : Bool) : D2 (invm m) (inv k) above down (1 - x) (1 - y) = D2 m k above down x y := by
 have hb : Bin [x,y] := fun i => by
   match i with
   | 0 => exact hx
   | 1 => exact hy
   | i + 2 => exact .inl rfl
 unfold D2
 rw [show [1 - x,1 - y] = cmp [x,y] from rfl,ini_inv h h' (by simp) hb,pw_inv]
 have hl : (ini false k 0 1 [x,y]).length = 2 := ini_len ..
 refine bad_inv h h' _ _ (by rw [hl]; decide) (by rw [hl]; decide) (ini_bin h hb) (fun z hz => ?_)
 unfold pw at hz
 obtain ⟨e,he,hz⟩ := List.mem_flatMap.1 hz
 obtain ⟨h1,h2⟩ := vis_mem hz
 rw [hl]
 refine ⟨?_,hm.bit e he _ h2⟩
 split at h1 <;> simp at h1 <;> omega
theorem D_inv {m : List El} (hm : V m) {k : Int} (h : 0 ≤ k) (h' : k ≤ 18) (above : Bool) : D (invm m) (inv k) above = D m k above := by
 have b0 : Bit 0 := .inl rfl
 have b1 : Bit 1 := .inr rfl
 unfold D
 rw [(inv_rng h h').2.2.2]
 cases hs : sing k with
 | true =>
   simp only [if_true]
   have e0 := D1_inv hm h h' b0
   have e1 := D1_inv hm h h' b1
   simp only [Int.sub_zero,Int.sub_self] at e0 e1
   rw [e0,e1,Bool.and_comm]
 | false =>
   have E := fun d (x y : Int) (hx : Bit x) (hy : Bit y) => D2_inv hm h h' hx hy above d
   have f00 := fun d => E d 0 0 b0 b0
   have f10 := fun d => E d 1 0 b1 b0
   have f01 := fun d => E d 0 1 b0 b1
   have f11 := fun d => E d 1 1 b1 b1
   simp only [Int.sub_zero,Int.sub_self] at f00 f10 f01 f11
   simp only [Bool.false_eq_true,if_false,f00,f10,f01,f11]
   cases D2 m k above false 0 0 <;> cases D2 m k above true 0 0 <;> cases D2 m k above false 1 0 <;> cases D2 m k above true 1 0 <;>
   cases D2 m k above false 0 1 <;> cases D2 m k above true 0 1 <;> cases D2 m k above false 1 1 <;> cases D2 m k above true 1 1 <;> rfl
theorem run15 {orders : List Int} {ops : List (List Int)} (hr : RawOk orders ops) {s start c p' q' : Int} (h : U8 s) (hc : U8 c) (hp : U8 p') (hq : U8 q') : M15.m ⟨orders,ops,s,start,c,p',q'⟩ = some true := by
 obtain ⟨m,hg,hm,_,_⟩ := good hr.1 hr.2
 obtain ⟨b,k,p,q,hd,ok⟩ := defect_run (start := start) h hc hp hq
 have hn := num_pos s
 unfold M15.m
 cases b with
 | true =>
   simp only [if_true] at hd
   simp only [hg,hd,lives,bindO,show ((0 : Int) == 0) = true from rfl,cond_true]
 | false =>
   simp only [Bool.false_eq_true,if_false] at hd
   have hr := inv_rng ok.lo ok.hi
   have ok2 : OkD false (inv k) p q (num s) := ⟨⟨hr.1,hr.2.1,ok.pl,ok.ql,fun e s => ok.ne e (hr.2.2.2 ▸ s),ok.size⟩,fun s => ok.sg (hr.2.2.2 ▸ s),fun e => (by cases e)⟩
   have h1 := m39 ok hm (by omega)
   have h2 := m39 ok2 (inv_V hm) (by omega)
   rw [D_inv hm ok.lo ok.hi] at h2
   simp only [hg,hd,num_run h,h1,inv_run ok.lo ok.hi,m28 hm,h2,lives,bindO,show ((1 : Int) == 0) = false from rfl,cond_false,beq_self_eq_true,cond_true]
end Mr
end Go.Proofs.YtcnlccpihknehaaDoor
