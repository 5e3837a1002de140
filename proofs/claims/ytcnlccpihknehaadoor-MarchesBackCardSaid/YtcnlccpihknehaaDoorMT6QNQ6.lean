/-
  Marches: the scanner: words, elements.
-/
import Derived.Test.YtcnlccpihknehaaDoorMT6QMy
import Derived.Test.YtcnlccpihknehaaDoorMT6QMVA
set_option linter.all false
namespace Go.Proofs.YtcnlccpihknehaaDoor
open Go.Abs
namespace Mr
open Pl
def cp : List UInt8 → List UInt8 → Nat
 | x :: r,y :: w => if x = y then cp r w + 1 else 0
 | _,_ => 0
theorem cp_le : ∀ (r w : List UInt8),cp r w ≤ r.length ∧ cp r w ≤ w.length
 | [],w => by simp [cp]
 | x :: r,[] => by simp [cp]
 | x :: r,y :: w => by
   have := cp_le r w
   unfold cp
   split <;> simp only [List.length_cons] <;> omega
theorem cp_full : ∀ {r w : List UInt8},cp r w = w.length → r = w ++ r.drop w.length
 | r,[],_ => by simp
 | [],y :: w,h => by simp [cp] at h
 | x :: r,y :: w,h => by
   unfold cp at h
   split at h
   · rename_i e
     subst e
     have := cp_full (r := r) (w := w) (by simpa using h)
     simp only [List.length_cons,List.drop_succ_cons,List.cons_append]
     rw [← this]
   · simp at h
theorem byte_eq {s w : List UInt8} {a j : Nat} (ha : a < s.length) (hj : j < w.length) : (byteAt s a == byteAt w j) = decide (s[a] = w[j]) := by
 unfold byteAt
 simp only [List.getElem?_eq_getElem ha,List.getElem?_eq_getElem hj,Option.getD_some]
 by_cases h : s[a] = w[j]
 · simp [h]
 · have : s[a].toNat ≠ w[j].toNat := fun e => h (UInt8.toNat_inj.1 e)
   simp only [h,decide_false,beq_eq_false_iff_ne,ne_eq]
   omega
theorem tk_in {best : Int} {l : List (List UInt8)} {n i i7 : Int} {w s : List UInt8} {a : Nat} (ha : a ≤ 1000000) (hw : w.length ≤ 1000000) (hs : s.length ≤ 1000000) :
   ∀ d j,j + d = w.length → iter M54.s1 ⟨best,l,n,i,i7,w,(j : Int),s,(a : Int)⟩ = some ⟨best,l,n,i,i7,w,((j + cp (s.drop (a + j)) (w.drop j) : Nat) : Int),s,(a : Int)⟩ := by
 have hwr : ∀ j,j ≤ w.length → IntKind.i64.wrap ((a : Int) + (j : Int)) = ((a + j : Nat) : Int) := fun j hj => by rw [w64 (by omega) (by omega)]; omega
 intro d
 induction d with
 | zero =>
   intro j hj
   have e : ¬ ((j : Int) < (w.length : Int)) := by omega
   rw [iter_eq,List.drop_eq_nil_of_le (show w.length ≤ j by omega)]
   unfold M54.s1
   have e2 : cp (s.drop (a + j)) [] = 0 := by cases s.drop (a + j) <;> rfl
   simp only [e,e2,decide_false,cond_false,Bool.not_false,Bool.or_true,cond_true,Nat.add_zero]
 | succ d ih =>
   intro j hj
   have hjw : j < w.length := by omega
   have e : ((j : Int) < (w.length : Int)) := by omega
   rw [iter_eq,List.drop_eq_getElem_cons hjw]
   unfold M54.s1
   simp only [hwr j (by omega),e,decide_true,cond_true]
   by_cases h : a + j < s.length
   · have e1 : (((a + j : Nat) : Int) < (s.length : Int)) := by omega
     have e3 : (byteAt s (((a + j : Nat) : Int)).toNat == byteAt w ((j : Int)).toNat) = decide (s[a + j] = w[j]) := by
       rw [Int.toNat_natCast,Int.toNat_natCast]; exact byte_eq h hjw
     rw [List.drop_eq_getElem_cons h]
     simp only [e1,inR_nat h,inR_nat hjw,e3,decide_true,cond_true,Bool.true_or,suc (show j < 9000000000000000000 by omega)]
     by_cases h2 : s[a + j] = w[j]
     · simp only [h2,decide_true,cond_true,cp,if_true]
       have := ih (j + 1) (by omega)
       rw [show a + (j + 1) = a + j + 1 by omega] at this
       refine Eq.trans this ?_
       congr 2
       omega
     · simp only [h2,decide_false,cond_false,cp,if_false,Nat.add_zero]
   · have e1 : ¬ (((a + j : Nat) : Int) < (s.length : Int)) := by omega
     rw [List.drop_eq_nil_of_le (show s.length ≤ a + j by omega)]
     simp only [e1,decide_false,cond_false,Bool.not_false,Bool.or_true,cond_true,cp,Nat.add_zero]
def tkR (s : List UInt8) (a : Nat) : Nat → Nat → List (List UInt8) → Nat × Bool × Nat
 | _,b,[] => (0,false,b)
 | i,b,w :: ws => if cp (s.drop a) w = w.length then (i,true,a + w.length) else tkR s a (i + 1) (max b (a + cp (s.drop a) w)) ws
theorem tkR_le {s : List UInt8} {a : Nat} (ha : a ≤ s.length) : ∀ (ws : List (List UInt8)) (i b : Nat),b ≤ s.length → (tkR s a i b ws).2.2 ≤ s.length
 | [],i,b,hb => hb
 | w :: ws,i,b,hb => by
   have h := (cp_le (s.drop a) w).1
   rw [List.length_drop] at h
   unfold tkR
   split
   · rename_i e
     show a + w.length ≤ s.length
     omega
   · exact tkR_le ha ws (i + 1) _ (by omega)
theorem tkR_ok {s : List UInt8} {a : Nat} : ∀ (ws : List (List UInt8)) (i b : Nat),(tkR s a i b ws).2.1 = true → ∃ j,∃ h : j < ws.length,(tkR s a i b ws).1 = i + j ∧ (tkR s a i b ws).2.2 = a + ws[j].length ∧ s.drop a = ws[j] ++ s.drop (a + ws[j].length)
 | [],i,b,h => by cases h
 | w :: ws,i,b,h => by
   unfold tkR at h ⊢
   split
   · rename_i e
     refine ⟨0,by simp,rfl,rfl,?_⟩
     have := cp_full e
     rw [List.drop_drop] at this
     exact this
   · rename_i e
     rw [if_neg e] at h
     obtain ⟨j,hj,h1,h2,h3⟩ := tkR_ok ws (i + 1) _ h
     exact ⟨j + 1,by simp; omega,by omega,by simpa using h2,by simpa using h3⟩
theorem m54 {l : List (List UInt8)} {s : List UInt8} {a : Nat} (ha : a ≤ s.length) (hs : s.length ≤ 100000) (hl : l.length ≤ 1000) (hw : ∀ w ∈ l,w.length ≤ 1000) :
   M54.m ⟨l,s,a⟩ = some (((tkR s a 0 a l).1 : Int),(tkR s a 0 a l).2.1,s,((tkR s a 0 a l).2.2 : Int)) := by
 have key := iter_scan (step := M54.s0) (fun i (x : Nat × Nat) => ⟨(x.2 : Int),l,(l.length : Int),(i : Int),s,(a : Int)⟩) l
   (fun x w => if cp (s.drop a) w = w.length then .inr (.inr ⟨(x.1 : Int),true,s,((a + w.length : Nat) : Int)⟩) else .inl (x.1 + 1,max x.2 (a + cp (s.drop a) w))) (fun x => .inl ⟨(x.2 : Int),s,(a : Int)⟩) (fun i x => x.1 = i) (fun i hi x hx => by
     have hx : x.1 = i := hx
     have e1 : ((i : Int) < (l.length : Int)) := by omega
     have hwl := hw _ (List.getElem_mem hi)
     have h2 := tk_in (best := (x.2 : Int)) (l := l) (n := (l.length : Int)) (i := (i : Int)) (i7 := (i : Int)) (w := l[i]) (s := s) (a := a) (by omega) (by omega) (by omega) l[i].length 0 (by omega)
     simp only [Nat.add_zero,Nat.zero_add,List.drop_zero] at h2
     have h2 : iter M54.s1 ⟨(x.2 : Int),l,(l.length : Int),(i : Int),(i : Int),l[i],0,s,(a : Int)⟩ = _ := h2
     have hc := cp_le (s.drop a) l[i]
     have e3 : IntKind.i64.wrap ((a : Int) + ((cp (s.drop a) l[i] : Nat) : Int)) = ((a + cp (s.drop a) l[i] : Nat) : Int) := by rw [w64 (by omega) (by omega)]; omega
     unfold M54.s0
     simp only [e1,inR_nat hi,getD_at hi,h2,e3,suc (show i < 9000000000000000000 by omega),decide_true,cond_true,bindO]
     by_cases h : cp (s.drop a) l[i] = l[i].length
     · have e4 : (((cp (s.drop a) l[i] : Nat) : Int) == (l[i].length : Int)) = true := by simp [h]
       simp only [h,beq_self_eq_true,cond_true,if_true,hx]
     · have e4 : (((cp (s.drop a) l[i] : Nat) : Int) == (l[i].length : Int)) = false := by simp only [beq_eq_false_iff_ne,ne_eq]; omega
       simp only [e4,cond_false,h,if_false]
       congr 3
       by_cases h5 : x.2 < a + cp (s.drop a) l[i]
       · rw [if_pos (by omega)]; omega
       · rw [if_neg (by omega)]; omega) (fun i hi x x' hx hF => by
     have hx : x.1 = i := hx
     by_cases h9 : cp (s.drop a) l[i] = l[i].length
     · rw [if_pos h9] at hF; cases hF
     · rw [if_neg h9] at hF; cases hF; show x.1 + 1 = i + 1; omega) (fun x _ => by unfold M54.s0; simp) (0,a) rfl
 have key : iter M54.s0 ⟨(a : Int),l,(l.length : Int),0,s,(a : Int)⟩ = _ := key
 have hsc : ∀ (ws : List (List UInt8)) (i b : Nat),scan (fun (x : Nat × Nat) (w : List UInt8) => if cp (s.drop a) w = w.length then (.inr (.inr ⟨(x.1 : Int),true,s,((a + w.length : Nat) : Int)⟩) : (Nat × Nat) ⊕ (M54.q0X ⊕ M54.z0X)) else .inl (x.1 + 1,max x.2 (a + cp (s.drop a) w))) (fun x => .inl ⟨(x.2 : Int),s,(a : Int)⟩) (i,b) ws =
     if (tkR s a i b ws).2.1 = true then .inr ⟨((tkR s a i b ws).1 : Int),true,s,((tkR s a i b ws).2.2 : Int)⟩ else .inl ⟨((tkR s a i b ws).2.2 : Int),s,(a : Int)⟩ := by
   intro ws
   induction ws with
   | nil => intro i b; rfl
   | cons w ws ih =>
     intro i b
     unfold scan tkR
     by_cases h : cp (s.drop a) w = w.length
     · simp only [if_pos h,if_true]
     · simp only [if_neg h]; exact ih _ _
 have hno : ∀ (ws : List (List UInt8)) (i b : Nat),(tkR s a i b ws).2.1 = false → (tkR s a i b ws).1 = 0 := by
   intro ws
   induction ws with
   | nil => intro i b _; rfl
   | cons w ws ih =>
     intro i b h
     unfold tkR at h ⊢
     split
     · rename_i e; rw [if_pos e] at h; cases h
     · rename_i e; rw [if_neg e] at h; exact ih _ _ h
 rw [hsc] at key
 unfold M54.m
 simp only [key,bindO]
 cases h : (tkR s a 0 a l).2.1 with
 | true => rfl
 | false =>
   have := hno l 0 a h
   simp only [Bool.false_eq_true,if_false,sumC,this]
   rfl
def wA : List (List UInt8) := [[97,110,121,40],[117,112,40],[100,111,119,110,40]]
def wB : List (List UInt8) := [[119,48],[119,49],[114,48],[114,49]]
def wC : List (List UInt8) := [[41],[44]]
def wD : List (List UInt8) := [[59,32]]
theorem wd_cases {o : Int} (h : 0 ≤ o ∧ o ≤ 2) : (o = 0 ∧ wd o = [97,110,121]) ∨ (o = 1 ∧ wd o = [117,112]) ∨ (o = 2 ∧ wd o = [100,111,119,110]) := by
 have : o = 0 ∨ o = 1 ∨ o = 2 := by omega
 rcases this with h | h | h <;> subst h
 · exact .inl ⟨rfl,rfl⟩
 · exact .inr (.inl ⟨rfl,rfl⟩)
 · exact .inr (.inr ⟨rfl,rfl⟩)
theorem tkA {s t : List UInt8} {a b : Nat} {o : Int} (ho : 0 ≤ o ∧ o ≤ 2) (h : s.drop a = wd o ++ [40] ++ t) : tkR s a 0 b wA = (o.toNat,true,a + (wd o).length + 1) := by
 rcases wd_cases ho with ⟨rfl,e⟩ | ⟨rfl,e⟩ | ⟨rfl,e⟩ <;> rw [e] at h ⊢ <;> simp [tkR,wA,h,cp]
theorem opT_cases {o : Op} (h : Bit o.2) : (o = (true,0) ∧ opT o = [119,48]) ∨ (o = (true,1) ∧ opT o = [119,49]) ∨ (o = (false,0) ∧ opT o = [114,48]) ∨ (o = (false,1) ∧ opT o = [114,49]) := by
 obtain ⟨w,v⟩ := o
 have h : v = 0 ∨ v = 1 := h
 rcases h with rfl | rfl <;> cases w
 · exact .inr (.inr (.inl ⟨rfl,rfl⟩))
 · exact .inl ⟨rfl,rfl⟩
 · exact .inr (.inr (.inr ⟨rfl,rfl⟩))
 · exact .inr (.inl ⟨rfl,rfl⟩)
def opN (o : Op) : Nat := (if o.1 = true then 0 else 2) + o.2.toNat
theorem tkB {s t : List UInt8} {a b : Nat} {o : Op} (ho : Bit o.2) (h : s.drop a = opT o ++ t) : tkR s a 0 b wB = (opN o,true,a + 2) := by
 rcases opT_cases ho with ⟨rfl,e⟩ | ⟨rfl,e⟩ | ⟨rfl,e⟩ | ⟨rfl,e⟩ <;> rw [e] at h <;> simp [tkR,wB,h,cp,opN]
theorem opN_op {o : Op} (ho : Bit o.2) : (decide (((opN o : Nat) : Int) < 2),IntKind.u8.wrap (((opN o : Nat) : Int).tmod 2)) = o := by
 rcases opT_cases ho with ⟨rfl,_⟩ | ⟨rfl,_⟩ | ⟨rfl,_⟩ | ⟨rfl,_⟩ <;> rfl
theorem opN_inv : ∀ j,j < 4 → ∃ o : Op,Bit o.2 ∧ opN o = j ∧ wB[j]? = some (opT o)
 | 0,_ => ⟨(true,0),.inl rfl,rfl,rfl⟩
 | 1,_ => ⟨(true,1),.inr rfl,rfl,rfl⟩
 | 2,_ => ⟨(false,0),.inl rfl,rfl,rfl⟩
 | 3,_ => ⟨(false,1),.inr rfl,rfl,rfl⟩
 | n + 4,h => by omega
theorem tkC1 {s t : List UInt8} {a b : Nat} (h : s.drop a = 41 :: t) : tkR s a 0 b wC = (0,true,a + 1) := by simp [tkR,wC,h,cp]
theorem tkC2 {s t : List UInt8} {a b : Nat} (h : s.drop a = 44 :: t) : tkR s a 0 b wC = (1,true,a + 1) := by simp [tkR,wC,h,cp]
theorem tkC0 {s : List UInt8} {a : Nat} (h : s.drop a = []) : tkR s a 0 a wC = (0,false,a) := by simp [tkR,wC,h,cp]
theorem tkD {s t : List UInt8} {a b : Nat} (h : s.drop a = 59 :: 32 :: t) : tkR s a 0 b wD = (0,true,a + 2) := by simp [tkR,wD,h,cp]
theorem tkDx {s : List UInt8} {a : Nat} (h : s.drop a = [120]) : tkR s a 0 a wD = (0,false,a) := by simp [tkR,wD,h,cp]
theorem drop_len {s t : List UInt8} {a : Nat} (h : s.drop a = t) (hn : t ≠ []) : a + t.length = s.length := by
 have := congrArg List.length h
 rw [List.length_drop] at this
 have : t.length ≠ 0 := fun e => hn (List.length_eq_zero_iff.1 e)
 omega
theorem drop_more {s t u : List UInt8} {a : Nat} (h : s.drop a = t ++ u) : s.drop (a + t.length) = u := by
 rw [← List.drop_drop,h,List.drop_left]
section
variable {s : List UInt8} (hs : s.length ≤ 10000)
include hs
theorem takeA {a : Nat} (ha : a ≤ s.length) : M54.m ⟨[[97,110,121,40],[117,112,40],[100,111,119,110,40]],s,a⟩ = some (((tkR s a 0 a wA).1 : Int),(tkR s a 0 a wA).2.1,s,((tkR s a 0 a wA).2.2 : Int)) := m54 (l := wA) ha (by omega) (by decide) (by decide)
theorem takeB {a : Nat} (ha : a ≤ s.length) : M54.m ⟨[[119,48],[119,49],[114,48],[114,49]],s,a⟩ = some (((tkR s a 0 a wB).1 : Int),(tkR s a 0 a wB).2.1,s,((tkR s a 0 a wB).2.2 : Int)) := m54 (l := wB) ha (by omega) (by decide) (by decide)
theorem takeC {a : Nat} (ha : a ≤ s.length) : M54.m ⟨[[41],[44]],s,a⟩ = some (((tkR s a 0 a wC).1 : Int),(tkR s a 0 a wC).2.1,s,((tkR s a 0 a wC).2.2 : Int)) := m54 (l := wC) ha (by omega) (by decide) (by decide)
theorem takeD {a : Nat} (ha : a ≤ s.length) : M54.m ⟨[[59,32]],s,a⟩ = some (((tkR s a 0 a wD).1 : Int),(tkR s a 0 a wD).2.1,s,((tkR s a 0 a wD).2.2 : Int)) := m54 (l := wD) ha (by omega) (by decide) (by decide)
def bt : List Op → List UInt8 → List UInt8
 | [],t => t
 | [o],t => opT o ++ t
 | o :: o' :: l,t => opT o ++ (44 :: bt (o' :: l) t)
omit hs in
theorem bt_join : ∀ (l : List Op) (t : List UInt8),l ≠ [] → Lib.join (l.map opT) [44] ++ t = bt l t
 | [],t,h => absurd rfl h
 | [o],t,_ => by simp [bt,Lib.join_one]
 | o :: o' :: l,t,_ => by
   have ih := bt_join (o' :: l) t (by simp)
   have e : Lib.join ((o :: o' :: l).map opT) [44] = opT o ++ (44 :: Lib.join ((o' :: l).map opT) [44]) := by
     simp only [List.map_cons,Lib.join_cons,Lib.joinTail,List.flatten_cons,List.cons_append,List.nil_append,List.append_assoc]
   rw [e,List.append_assoc,List.cons_append,ih]
   rfl
theorem m81e (os : List Op) : M81e.m ⟨0,os.length,os⟩ = some (0,os.length,os.length,os) := by
 unfold M81e.m
 simp
theorem m53e (ms : List El) : M53e.m ⟨0,ms.length,ms⟩ = some (0,ms.length,ms.length,ms) := by
 unfold M53e.m
 simp
theorem read_op {p : Nat} {o : Int} {os : List Op} {x : Op} (hx : Bit x.2) {t : List UInt8} (h : s.drop p = opT x ++ t) (hl : os.length < 16) :
   M52.s0 ⟨s,p,o,0,os.length,os⟩ =
     (bif !(tkR s (p + 2) 0 (p + 2) wC).2.1 then some (Sum.inr ⟨4,s,((tkR s (p + 2) 0 (p + 2) wC).2.2 : Int),o,os ++ [x]⟩)
      else bif (((tkR s (p + 2) 0 (p + 2) wC).1 : Int) == 0) then some (Sum.inr ⟨0,s,((tkR s (p + 2) 0 (p + 2) wC).2.2 : Int),o,os ++ [x]⟩)
      else some (Sum.inl ⟨s,((tkR s (p + 2) 0 (p + 2) wC).2.2 : Int),o,0,os.length + 1,os ++ [x]⟩)) := by
 have hlen := drop_len h (by unfold opT; cases x.1 <;> simp)
 rw [List.length_append,opT_len] at hlen
 have e1 : ((os.length : Int) == 16) = false := by simp only [beq_eq_false_iff_ne,ne_eq]; omega
 have e2 : eqN os.length os.length = true := by simp [eqN]
 have e3 : roomB (os.length + 1) 2 = true := by simp [roomB,leB]; omega
 have e4 : leB (0 + (os.length + 1)) (os ++ [x]).length = true := by simp [leB]
 have e5 : (os ++ [x]).take (os.length + 1) = os ++ [x] := List.take_of_length_le (by simp)
 have e6 := m81e (s := s) hs (os ++ [x])
 have e7 : (os ++ [x]).length = os.length + 1 := by simp
 rw [e7] at e6
 unfold M52.s0
 simp only [takeB hs (show p ≤ s.length by omega),tkB hx h,takeC hs (show p + 2 ≤ s.length by omega),opN_op hx,e1,e2,e3,e4,e5,e6,show eqN 0 0 = true from rfl,bindO,Bool.not_true,cond_false,Bool.and_self,cond_true,List.drop_zero]
theorem read_ops {o : Int} {t : List UInt8} : ∀ (l : List Op) (os : List Op) (p : Nat),l ≠ [] → (∀ x ∈ l,Bit x.2) → os.length + l.length ≤ 16 → s.drop p = bt l (41 :: t) →
   iter M52.s0 ⟨s,p,o,0,os.length,os⟩ = some ⟨0,s,((p + (bt l [41]).length : Nat) : Int),o,os ++ l⟩
 | [],os,p,h,_,_,_ => absurd rfl h
 | [x],os,p,_,hb,hl,h => by
   have h1 : s.drop (p + 2) = 41 :: t := by
     have := drop_more (t := opT x) (u := 41 :: t) h
     rwa [opT_len] at this
   rw [iter_eq,read_op hs (hb x (by simp)) (t := 41 :: t) h (by simp at hl; omega),tkC1 h1]
   simp [bt,opT_len]
   omega
 | x :: y :: l,os,p,_,hb,hl,h => by
   have h0 : s.drop p = opT x ++ (44 :: bt (y :: l) (41 :: t)) := h
   have h1 : s.drop (p + 2) = 44 :: bt (y :: l) (41 :: t) := by
     have := drop_more h0
     rwa [opT_len] at this
   have h2 : s.drop (p + 2 + 1) = bt (y :: l) (41 :: t) := by
     have := drop_more (t := [44]) (u := bt (y :: l) (41 :: t)) h1
     simpa using this
   have ih := read_ops (o := o) (y :: l) (os ++ [x]) (p + 2 + 1) (by simp) (fun z hz => hb z (List.mem_cons_of_mem _ hz)) (by simp at hl ⊢; omega) h2
   rw [iter_eq,read_op hs (hb x (by simp)) h0 (by simp at hl; omega),tkC2 h1]
   simp only [Bool.not_true,cond_false,show (((1 : Nat) : Int) == 0) = false from rfl]
   rw [show os.length + 1 = (os ++ [x]).length by simp,ih]
   simp only [bt,List.append_assoc,List.cons_append,List.nil_append,List.length_append,opT_len,List.length_cons]
   congr 3
   omega
theorem read_ops0 {o : Int} : ∀ (l : List Op) (os : List Op) (p : Nat),l ≠ [] → (∀ x ∈ l,Bit x.2) → os.length + l.length ≤ 16 → s.drop p = bt l [] →
   iter M52.s0 ⟨s,p,o,0,os.length,os⟩ = some ⟨4,s,(s.length : Int),o,os ++ l⟩
 | [],os,p,h,_,_,_ => absurd rfl h
 | [x],os,p,_,hb,hl,h => by
   have h1 : s.drop (p + 2) = [] := by
     have := drop_more (t := opT x) (u := []) h
     rwa [opT_len] at this
   have h2 : p + 2 = s.length := by
     have := drop_len (t := opT x ++ []) h (by unfold opT; cases x.1 <;> simp)
     simpa [opT_len] using this
   rw [iter_eq,read_op hs (hb x (by simp)) (t := []) h (by simp at hl; omega),tkC0 h1,h2]
   simp
 | x :: y :: l,os,p,_,hb,hl,h => by
   have h0 : s.drop p = opT x ++ (44 :: bt (y :: l) []) := h
   have h1 : s.drop (p + 2) = 44 :: bt (y :: l) [] := by
     have := drop_more h0
     rwa [opT_len] at this
   have h2 : s.drop (p + 2 + 1) = bt (y :: l) [] := by
     have := drop_more (t := [44]) (u := bt (y :: l) []) h1
     simpa using this
   have ih := read_ops0 (o := o) (y :: l) (os ++ [x]) (p + 2 + 1) (by simp) (fun z hz => hb z (List.mem_cons_of_mem _ hz)) (by simp at hl ⊢; omega) h2
   rw [iter_eq,read_op hs (hb x (by simp)) h0 (by simp at hl; omega),tkC2 h1]
   simp only [Bool.not_true,cond_false,show (((1 : Nat) : Int) == 0) = false from rfl]
   rw [show os.length + 1 = (os ++ [x]).length by simp,ih]
   simp only [List.append_assoc,List.cons_append,List.nil_append]
structure ElOkT (e : El) : Prop where
 ord : 0 ≤ e.1 ∧ e.1 ≤ 2
 ne : e.2 ≠ []
 le : e.2.length ≤ 16
 bit : ∀ o ∈ e.2,Bit o.2
def elT0 (e : El) : List UInt8 := wd e.1 ++ [40] ++ Lib.join (e.2.map opT) [44]
omit hs in
theorem elT_bt {e : El} (he : ElOkT e) (t : List UInt8) : elT e ++ t = wd e.1 ++ [40] ++ bt e.2 (41 :: t) := by
 rw [← bt_join e.2 _ he.ne]
 unfold elT
 simp [List.append_assoc]
omit hs in
theorem elT0_bt {e : El} (he : ElOkT e) : elT0 e = wd e.1 ++ [40] ++ bt e.2 [] := by
 rw [← bt_join e.2 _ he.ne]
 unfold elT0
 simp [List.append_assoc]
theorem ord8 {o : Int} (h : 0 ≤ o ∧ o ≤ 2) : IntKind.u8.wrap ((o.toNat : Nat) : Int) = o := by
 rw [w8 (by omega) (by omega)]
 omega
theorem read_el {e : El} (he : ElOkT e) {p : Nat} {t : List UInt8} (h : s.drop p = elT e ++ t) : M52.m ⟨s,p⟩ = some (e.1,e.2,0,s,((p + (elT e).length : Nat) : Int)) := by
 rw [elT_bt he] at h
 have hlen := drop_len h (by simp)
 have h1 := tkA (b := p) he.ord h
 have h2 : s.drop (p + (wd e.1).length + 1) = bt e.2 (41 :: t) := by
   have := drop_more h
   simpa [Nat.add_assoc] using this
 have h3 := read_ops hs (o := e.1) e.2 [] _ he.ne he.bit (by simpa using he.le) h2
 simp only [List.length_nil,List.nil_append] at h3
 have h4 : p + (wd e.1).length + 1 + (bt e.2 [41]).length = p + (elT e).length := by
   have := elT_bt he []
   rw [List.append_nil] at this
   rw [this]
   simp only [List.length_append,List.length_cons,List.length_nil]
   omega
 rw [h4] at h3
 unfold M52.m
 simp only [takeA hs (show p ≤ s.length by omega),h1,bindO,Bool.not_true,cond_false,ord8 hs he.ord,h3]
theorem read_el0 {e : El} (he : ElOkT e) {p : Nat} (h : s.drop p = elT0 e) : ∃ l,M52.m ⟨s,p⟩ = some (e.1,l,4,s,(s.length : Int)) := by
 rw [elT0_bt he] at h
 have hlen := drop_len h (by simp)
 have h1 := tkA (b := p) he.ord h
 have h2 : s.drop (p + (wd e.1).length + 1) = bt e.2 [] := by
   have := drop_more h
   simpa [Nat.add_assoc] using this
 have h3 := read_ops0 hs (o := e.1) e.2 [] _ he.ne he.bit (by simpa using he.le) h2
 simp only [List.length_nil,List.nil_append] at h3
 refine ⟨e.2,?_⟩
 unfold M52.m
 simp only [takeA hs (show p ≤ s.length by omega),h1,bindO,Bool.not_true,cond_false,ord8 hs he.ord,h3]
omit hs in
theorem join_snoc : ∀ (os : List Op) (x : Op),Lib.join ((os ++ [x]).map opT) [44] = os.flatMap (fun o => opT o ++ [44]) ++ opT x
 | [],x => by simp [Lib.join_one]
 | [o],x => by simp [Lib.join_cons,Lib.joinTail]
 | o :: o' :: l,x => by
   have ih := join_snoc (o' :: l) x
   have e : Lib.join ((o :: o' :: l ++ [x]).map opT) [44] = opT o ++ (44 :: Lib.join ((o' :: l ++ [x]).map opT) [44]) := by
     simp only [List.cons_append,List.map_cons,Lib.join_cons,Lib.joinTail,List.flatten_cons,List.cons_append,List.nil_append,List.append_assoc]
   rw [e,ih]
   simp [List.flatMap_cons,List.append_assoc]
theorem any_el {p : Nat} (hp : p ≤ s.length) : ∃ (o : Int) (l : List Op) (e : Int) (q : Nat),M52.m ⟨s,p⟩ = some (o,l,e,s,(q : Int)) ∧ q ≤ s.length ∧ ((e = 0 ∧ ElOkT (o,l) ∧ s.drop p = elT (o,l) ++ s.drop q) ∨ e = 3 ∨ e = 4) := by
 have hle := tkR_le hp wA 0 p hp
 unfold M52.m
 simp only [takeA hs hp,bindO]
 cases hA : (tkR s p 0 p wA).2.1 with
 | false => exact ⟨0,[],4,_,rfl,hle,.inr (.inr rfl)⟩
 | true =>
   obtain ⟨j,hj,h1,h2,h3⟩ := tkR_ok wA 0 p hA
   simp only [Bool.not_true,cond_false]
   have hj3 : j < 3 := hj
   have ho : (0 : Int) ≤ (j : Int) ∧ (j : Int) ≤ 2 := by omega
   have hw : ∀ j (hj : j < wA.length),wA[j] = wd (j : Int) ++ [40] := by
     intro j hj
     have : j < 3 := hj
     match j,hj with
     | 0,_ => rfl
     | 1,_ => rfl
     | 2,_ => rfl
   rw [hw j hj] at h2 h3
   have hq : p + (wd (j : Int) ++ [40]).length ≤ s.length := by rw [← h2]; exact hle
   have e8 : IntKind.u8.wrap (((0 + j : Nat) : Nat) : Int) = (j : Int) := by rw [Nat.zero_add,w8 (by omega) (by omega)]
   rw [h1,h2,e8]
   generalize (j : Int) = o at *
   obtain ⟨y,hy,hP⟩ := iter_inv (step := M52.s0) (fun x => ∃ (q : Nat) (os : List Op),x = ⟨s,(q : Int),o,0,os.length,os⟩ ∧ q ≤ s.length ∧ os.length ≤ 16 ∧ (∀ x ∈ os,Bit x.2) ∧ s.drop p = wd o ++ [40] ++ os.flatMap (fun o => opT o ++ [44]) ++ s.drop q)
     (fun x => 17 - x.l_len) (fun y => ∃ (q : Nat),y.s = s ∧ y.at_ = (q : Int) ∧ y.o = o ∧ q ≤ s.length ∧ ((y.e = 0 ∧ ElOkT (o,y.l) ∧ s.drop p = elT (o,y.l) ++ s.drop q) ∨ y.e = 3 ∨ y.e = 4)) (fun x hx => by
       obtain ⟨q,os,rfl,hq,h16,hb,ht⟩ := hx
       have hleB := tkR_le hq wB 0 q hq
       have e4' : leB (0 + os.length) os.length = true := by simp [leB]
       cases hB : (tkR s q 0 q wB).2.1 with
       | false =>
         refine ⟨_,by unfold M52.s0; simp only [takeB hs hq,hB,bindO,Bool.not_false,cond_true,e4',Bool.and_self,List.drop_zero,List.take_length]; rfl,?_⟩
         exact ⟨_,rfl,rfl,rfl,hleB,.inr (.inr rfl)⟩
       | true =>
         obtain ⟨k,hk,g1,g2,g3⟩ := tkR_ok wB 0 q hB
         obtain ⟨x,hx1,hx2,hx3⟩ := opN_inv k hk
         have hx3 : wB[k] = opT x := (List.getElem?_eq_some_iff.1 hx3).2
         rw [hx3] at g3
         by_cases h16' : os.length = 16
         · have e1 : ((os.length : Int) == 16) = true := by simp [h16']
           refine ⟨_,by unfold M52.s0; simp only [takeB hs hq,hB,bindO,Bool.not_true,cond_false,e1,cond_true,e4',Bool.and_self,List.drop_zero,List.take_length]; rfl,?_⟩
           exact ⟨q,rfl,rfl,rfl,hq,.inr (.inl rfl)⟩
         · rw [read_op hs hx1 g3 (by omega)]
           rw [opT_len] at g3
           have hq2 : q + 2 ≤ s.length := by
             rw [g2,hx3,opT_len] at hleB
             exact hleB
           have hleC := tkR_le hq2 wC 0 (q + 2) hq2
           cases hC : (tkR s (q + 2) 0 (q + 2) wC).2.1 with
           | false =>
             refine ⟨_,rfl,?_⟩
             exact ⟨_,rfl,rfl,rfl,hleC,.inr (.inr rfl)⟩
           | true =>
             obtain ⟨c,hc,c1,c2,c3⟩ := tkR_ok wC 0 (q + 2) hC
             have hc2 : c < 2 := hc
             have hb' : ∀ z ∈ os ++ [x],Bit z.2 := fun z hz => by
               rcases List.mem_append.1 hz with hz | hz
               · exact hb z hz
               · rw [List.mem_singleton] at hz; subst hz; exact hx1
             match c,hc,c1,c2,c3 with
             | 0,hc,c1,c2,c3 =>
               have c3 : s.drop (q + 2) = 41 :: s.drop (q + 2 + 1) := c3
               have c2 : (tkR s (q + 2) 0 (q + 2) wC).2.2 = q + 2 + 1 := c2
               refine ⟨_,by rw [c1]; rfl,?_⟩
               refine ⟨_,rfl,rfl,rfl,hleC,.inl ⟨rfl,⟨‹_›,by simp,by simp; omega,hb'⟩,?_⟩⟩
               rw [c2,ht,g3,c3]
               unfold elT
               rw [join_snoc]
               simp [List.append_assoc]
             | 1,hc,c1,c2,c3 =>
               have c3 : s.drop (q + 2) = 44 :: s.drop (q + 2 + 1) := c3
               have c2 : (tkR s (q + 2) 0 (q + 2) wC).2.2 = q + 2 + 1 := c2
               refine ⟨_,by rw [c1]; rfl,?_⟩
               refine ⟨⟨q + 2 + 1,os ++ [x],by rw [c2]; simp,by rw [← c2]; exact hleC,by simp; omega,hb',?_⟩,by simp only; omega⟩
               rw [ht,g3,c3]
               simp [List.flatMap_append,List.append_assoc]
             | n + 2,hc,_,_,_ => omega) ⟨s,((p + (wd o ++ [40]).length : Nat) : Int),o,0,0,[]⟩ ⟨_,[],rfl,hq,by simp,fun x hx => (by cases hx),by simpa using h3⟩
   obtain ⟨q,y1,y2,y3,y4,y5⟩ := hP
   refine ⟨o,y.l,y.e,q,?_,y4,y5⟩
   rw [hy]
   simp only [y1,y2,y3]
end
end Mr
end Go.Proofs.YtcnlccpihknehaaDoor
