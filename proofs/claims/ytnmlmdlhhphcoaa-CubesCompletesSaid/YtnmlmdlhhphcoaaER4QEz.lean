/-
  What the proof stands on.
-/
import Derived.Test.YtnmlmdlhhphcoaaER4QEx
import Derived.Test.YtnmlmdlhhphcoaaER4QEy
import Derived.Lib.IndexLaws
set_option linter.all false
namespace Go.Proofs.Ytnmlmdlhhphcoaa
open Go.Abs
namespace Cu
theorem w64 {x : Int} (h : -9223372036854775808 ≤ x) (h' : x ≤ 9223372036854775807) : IntKind.i64.wrap x = x := by
 simp [IntKind.wrap,IntKind.signed,IntKind.bits]; omega
theorem inR_nat {i n : Nat} (h : i < n) : inR (i : Int) n = true := by simp [inR]; omega
theorem getD_at {α : Type} {l : List α} {i : Nat} (h : i < l.length) (d : α) : l[(i : Int).toNat]?.getD d = l[i] := by simp [h]
theorem suc {i : Nat} (h : i < 9000000000000000000) : IntKind.i64.wrap ((i : Int) + 1) = ((i + 1 : Nat) : Int) := by rw [w64 (by omega) (by omega)]; omega
def scan {A α Y : Type} (F : A → α → A ⊕ Y) (E : A → Y) : A → List α → Y
 | a,[] => E a
 | a,x :: l => match F a x with | .inl a' => scan F E a' l | .inr y => y
theorem iter_scan {X Y A α : Type} {step : X → Option (X ⊕ Y)} (S : Nat → A → X) (l : List α) (F : A → α → A ⊕ Y) (E : A → Y) (I : Nat → A → Prop)
  (h : ∀ i (hi : i < l.length) a,I i a → step (S i a) = some (match F a l[i] with | .inl a' => .inl (S (i + 1) a') | .inr y => .inr y))
  (hI : ∀ i (hi : i < l.length) a a',I i a → F a l[i] = .inl a' → I (i + 1) a')
  (he : ∀ a,I l.length a → step (S l.length a) = some (.inr (E a))) (a : A) (ha : I 0 a) : iter step (S 0 a) = some (scan F E a l) := by
 have : ∀ j i a,i + j = l.length → I i a → iter step (S i a) = some (scan F E a (l.drop i)) := by
  intro j
  induction j with
  | zero =>
   intro i a hi ha
   have e : i = l.length := by omega
   subst e
   rw [iter_eq,he a ha,List.drop_length]
   rfl
  | succ j ih =>
   intro i a hi ha
   have hil : i < l.length := by omega
   rw [iter_eq,h i hil a ha,List.drop_eq_getElem_cons hil]
   unfold scan
   cases hF : F a l[i] with
   | inl a' => exact ih (i + 1) a' (by omega) (hI i hil a a' ha hF)
   | inr y => rfl
 have h := this l.length 0 a (by omega) ha
 rwa [List.drop_zero] at h
theorem iter_any {X Y α : Type} {step : X → Option (X ⊕ Y)} (S : Nat → X) (l : List α) (P : α → Bool) (Z : Nat → Y) {y : Y}
  (h : ∀ i (hi : i < l.length),step (S i) = some (if P l[i] = true then .inr (Z i) else .inl (S (i + 1)))) (he : step (S l.length) = some (.inr y)) :
  (l.any P = true ∧ ∃ i : Nat,iter step (S 0) = some (Z i)) ∨ (l.any P = false ∧ iter step (S 0) = some y) := by
 have : ∀ j i,i + j = l.length → ((l.drop i).any P = true ∧ ∃ t : Nat,iter step (S i) = some (Z t)) ∨ ((l.drop i).any P = false ∧ iter step (S i) = some y) := by
  intro j
  induction j with
  | zero =>
   intro i hi
   have e : i = l.length := by omega
   subst e
   exact .inr ⟨by rw [List.drop_length]; rfl,by rw [iter_eq,he]⟩
  | succ j ih =>
   intro i hi
   have hil : i < l.length := by omega
   rw [List.drop_eq_getElem_cons hil,List.any_cons,iter_eq,h i hil]
   cases hP : P l[i] with
   | true => exact .inl ⟨by simp,i,rfl⟩
   | false =>
    simp only [Bool.false_eq_true,if_false,Bool.false_or]
    exact ih (i + 1) (by omega)
 have h := this l.length 0 (by omega)
 rwa [List.drop_zero] at h
def vals (l : List Int) : List Int := l.map (fun v => Int.tmod v 3)
theorem m32 {l : List Int} (hl : l.length ≤ 1000000) : M32.m ⟨l⟩ = some (vals l) := by
 have key := iter_scan (step := M32.s0) (fun i (xs : List Int) => ⟨l,0,i,(i : Int),xs⟩) l (fun xs v => .inl (xs ++ [Int.tmod v 3])) (fun xs => ⟨0,xs.length,xs⟩) (fun i xs => xs.length = i) (fun i hi xs hx => by
   have e1 : ((i : Int) < (l.length : Int)) := by omega
   have e2 : (eqN 0 0 && eqN xs.length i && roomB (i + 1) 1) = true := by
    have h1 : eqN xs.length i = true := by simp [eqN,hx]
    have h2 : roomB (i + 1) 1 = true := by simp [roomB,leB]; omega
    rw [h1,h2]; rfl
   unfold M32.s0
   simp only [e1,inR_nat hi,getD_at hi,e2,suc (show i < 9000000000000000000 by omega),decide_true,cond_true]) (fun i hi xs xs' hx hF => by
   cases hF
   show (xs ++ [_]).length = i + 1
   simp [show xs.length = i from hx]) (fun xs hx => by
   have hx : xs.length = l.length := hx
   unfold M32.s0
   simp [hx]) [] rfl
 have key : iter M32.s0 ⟨l,0,0,0,[]⟩ = _ := key
 have hsc : ∀ (l xs : List Int),scan (fun (xs : List Int) (v : Int) => (.inl (xs ++ [Int.tmod v 3]) : List Int ⊕ M32.q0X)) (fun xs => ⟨0,xs.length,xs⟩) xs l = ⟨0,(xs ++ vals l).length,xs ++ vals l⟩ := by
  intro l
  induction l with
  | nil => intro xs; simp [scan,vals]
  | cons v l ih =>
   intro xs
   unfold scan
   refine (ih _).trans ?_
   simp [vals]
 rw [hsc,List.nil_append] at key
 unfold M32.m
 have e : leB (0 + (vals l).length) (vals l).length = true := by simp [leB]
 simp only [key,bindO,e,Bool.and_self,cond_true,List.drop_zero,List.take_length]
theorem m11 {i s : List Int} (hi : i.length ≤ 1000000) (hs : s.length ≤ 1000000) : M11.m ⟨i,s⟩ = some (vals i,vals s) := by
 unfold M11.m
 simp only [m32 hi,m32 hs,bindO]
def bad (l : List Int) : Bool := l.any fun v => decide (v > 2)
def chk (i s : List Int) : Int := if i.length + s.length > 16384 then 3 else if bad i = true ∨ bad s = true then 1 else 0
theorem m29 {i s : List Int} (hi : i.length ≤ 1000000) (hs : s.length ≤ 1000000) : M29.m ⟨i,s⟩ = some (chk i s) := by
 have k0 := iter_any (step := M29.i0_s0) (fun k => ⟨(i.length : Int),(k : Int),0,i,s⟩) i (fun v => decide (v > 2)) (fun _ => .inr ⟨1,i,s⟩) (y := .inl ⟨0,i,s⟩) (fun k hk => by
  have e1 : ((k : Int) < (i.length : Int)) := by omega
  unfold M29.i0_s0 M29.sb0
  simp only [e1,inR_nat hk,getD_at hk,suc (show k < 9000000000000000000 by omega),decide_true,cond_true,bindO]
  cases decide (i[k] > 2) <;> rfl) (by unfold M29.i0_s0; simp)
 have k1 := iter_any (step := M29.i0_s1) (fun k => ⟨(s.length : Int),(k : Int),0,i,s⟩) s (fun v => decide (v > 2)) (fun _ => .inr ⟨1,i,s⟩) (y := .inl ⟨0,i,s⟩) (fun k hk => by
  have e1 : ((k : Int) < (s.length : Int)) := by omega
  unfold M29.i0_s1 M29.sb0
  simp only [e1,inR_nat hk,getD_at hk,suc (show k < 9000000000000000000 by omega),decide_true,cond_true,bindO]
  cases decide (s[k] > 2) <;> rfl) (by unfold M29.i0_s1; simp)
 have ew : IntKind.i64.wrap ((i.length : Int) + (s.length : Int)) = ((i.length + s.length : Nat) : Int) := by rw [w64 (by omega) (by omega)]; omega
 unfold M29.m chk M36.m
 simp only [ew,bindO]
 by_cases hg : i.length + s.length > 16384
 ·have : (((i.length + s.length : Nat) : Int) > 16384) := by omega
  simp only [this,decide_true,cond_true,hg,if_true]
 ·have : ¬ (((i.length + s.length : Nat) : Int) > 16384) := by omega
  simp only [this,decide_false,cond_false,hg,if_false]
  unfold M29.s0
  rcases k0 with ⟨h1,t,h2⟩ | ⟨h1,h2⟩
  ·have h2 : iter M29.i0_s0 ⟨(i.length : Int),0,0,i,s⟩ = _ := h2
   have hb : bad i = true := h1
   simp only [h2,bindO,sumC,hb,true_or,if_true]
  ·have h2 : iter M29.i0_s0 ⟨(i.length : Int),0,0,i,s⟩ = _ := h2
   have hb : bad i = false := h1
   rcases k1 with ⟨h3,t,h4⟩ | ⟨h3,h4⟩
   ·have h4 : iter M29.i0_s1 ⟨(s.length : Int),0,0,i,s⟩ = _ := h4
    have hb2 : bad s = true := h3
    simp only [h2,h4,bindO,sumC,hb,hb2,or_true,if_true]
   ·have h4 : iter M29.i0_s1 ⟨(s.length : Int),0,0,i,s⟩ = _ := h4
    have hb2 : bad s = false := h3
    simp only [h2,h4,bindO,sumC,hb,hb2]
    rfl
end Cu
end Go.Proofs.Ytnmlmdlhhphcoaa
namespace Go.Proofs.Ytnmlmdlhhphcoaa
open Go.Abs
namespace Cu
def chk2 (ai as_ bi bs : List Int) : Int := if chk ai as_ ≠ 0 then chk ai as_ else if chk bi bs ≠ 0 then chk bi bs else if ai.length ≠ bi.length ∨ as_.length ≠ bs.length then 8 else 0
theorem m33 {ai as_ bi bs : List Int} (h1 : ai.length ≤ 1000000) (h2 : as_.length ≤ 1000000) (h3 : bi.length ≤ 1000000) (h4 : bs.length ≤ 1000000) : M33.m ⟨ai,as_,bi,bs⟩ = some (chk2 ai as_ bi bs) := by
 have s0 : M33.s0 ⟨[(ai,as_),(bi,bs)],2,0,ai,as_,bi,bs⟩ = some (if chk ai as_ ≠ 0 then .inr (.inr ⟨chk ai as_⟩) else .inl ⟨[(ai,as_),(bi,bs)],2,1,ai,as_,bi,bs⟩) := by
  unfold M33.s0
  simp only [m29 h1 h2,show decide ((0 : Int) < 2) = true from rfl,show inR 0 [(ai,as_),(bi,bs)].length = true from rfl,cond_true,bindO,show ([(ai,as_),(bi,bs)] : List (List Int × List Int))[(0 : Int).toNat]?.getD ([],[]) = (ai,as_) from rfl]
  by_cases h : chk ai as_ = 0
  ·simp [h]; rfl
  ·have hb : (chk ai as_ != 0) = true := by simpa using h
   rw [hb,if_pos h]; rfl
 have s1 : M33.s0 ⟨[(ai,as_),(bi,bs)],2,1,ai,as_,bi,bs⟩ = some (if chk bi bs ≠ 0 then .inr (.inr ⟨chk bi bs⟩) else .inl ⟨[(ai,as_),(bi,bs)],2,2,ai,as_,bi,bs⟩) := by
  unfold M33.s0
  simp only [m29 h3 h4,show decide ((1 : Int) < 2) = true from rfl,show inR 1 [(ai,as_),(bi,bs)].length = true from rfl,cond_true,bindO,show ([(ai,as_),(bi,bs)] : List (List Int × List Int))[(1 : Int).toNat]?.getD ([],[]) = (bi,bs) from rfl]
  by_cases h : chk bi bs = 0
  ·simp [h]; rfl
  ·have hb : (chk bi bs != 0) = true := by simpa using h
   rw [hb,if_pos h]; rfl
 have s2 : M33.s0 ⟨[(ai,as_),(bi,bs)],2,2,ai,as_,bi,bs⟩ = some (.inr (.inl ⟨ai,as_,bi,bs⟩)) := by
  unfold M33.s0
  simp
 unfold M33.m chk2
 have key : iter M33.s0 ⟨[(ai,as_),(bi,bs)],2,0,ai,as_,bi,bs⟩ = some (if chk ai as_ ≠ 0 then .inr ⟨chk ai as_⟩ else if chk bi bs ≠ 0 then .inr ⟨chk bi bs⟩ else .inl ⟨ai,as_,bi,bs⟩) := by
  rw [iter_eq,s0]
  by_cases h : chk ai as_ = 0
  ·simp only [h,ne_eq,not_true,if_false]
   rw [iter_eq,s1]
   by_cases h' : chk bi bs = 0
   ·simp only [h',ne_eq,not_true,if_false]
    rw [iter_eq,s2]
   ·simp only [h',ne_eq,not_false_eq_true,if_true]
  ·simp only [h,ne_eq,not_false_eq_true,if_true]
 show bindO (iter M33.s0 ⟨[(ai,as_),(bi,bs)],2,0,ai,as_,bi,bs⟩) _ = _
 rw [key]
 by_cases h : chk ai as_ = 0
 ·by_cases h' : chk bi bs = 0
  ·simp only [h,h',ne_eq,not_true,if_false,bindO,sumC]
   by_cases e1 : ai.length = bi.length
   ·by_cases e2 : as_.length = bs.length
    ·simp [e1,e2]
    ·have : ((as_.length : Int) != (bs.length : Int)) = true := by simp; omega
     simp [e1,e2,this]
   ·have : ((ai.length : Int) != (bi.length : Int)) = true := by simp; omega
    simp [e1,this]
  ·simp only [h,h',ne_eq,not_true,not_false_eq_true,if_true,if_false,bindO,sumC]
 ·simp only [h,ne_eq,not_false_eq_true,if_true,bindO,sumC]
theorem m35 {i s : List Int} (hi : i.length ≤ 1000000) (hs : s.length ≤ 1000000) : M35.m ⟨i,s⟩ = some (i ++ s) := by
 have w1 : IntKind.i64.wrap (0 + (i.length : Int)) = (i.length : Int) := by rw [w64 (by omega) (by omega)]; omega
 have w2 : IntKind.i64.wrap ((i.length : Int) + (s.length : Int)) = ((i.length + s.length : Nat) : Int) := by rw [w64 (by omega) (by omega)]; omega
 have n1 : ¬ ((i.length : Int) < 0) := by omega
 have n2 : ¬ (((i.length + s.length : Nat) : Int) < 0) := by omega
 have a0 : M49.s0 ⟨[i,s],0,[i,s],2,0⟩ = some (.inl ⟨[i,s],(i.length : Int),[i,s],2,1⟩) := by
  unfold M49.s0
  simp only [show decide ((0 : Int) < 2) = true from rfl,show inR 0 [i,s].length = true from rfl,cond_true,show ([i,s] : List (List Int))[(0 : Int).toNat]?.getD [] = i from rfl,w1,n1,decide_false,cond_false]
  rfl
 have a1 : M49.s0 ⟨[i,s],(i.length : Int),[i,s],2,1⟩ = some (.inl ⟨[i,s],((i.length + s.length : Nat) : Int),[i,s],2,2⟩) := by
  unfold M49.s0
  simp only [show decide ((1 : Int) < 2) = true from rfl,show inR 1 [i,s].length = true from rfl,cond_true,show ([i,s] : List (List Int))[(1 : Int).toNat]?.getD [] = s from rfl,w2,n2,decide_false,cond_false]
  rfl
 have a2 : M49.s0 ⟨[i,s],((i.length + s.length : Nat) : Int),[i,s],2,2⟩ = some (.inr ⟨[i,s],((i.length + s.length : Nat) : Int)⟩) := by
  unfold M49.s0
  simp
 have k0 : iter M49.s0 ⟨[i,s],0,[i,s],(([i,s] : List (List Int)).length : Int),0⟩ = some ⟨[i,s],((i.length + s.length : Nat) : Int)⟩ := by
  show iter M49.s0 ⟨[i,s],0,[i,s],2,0⟩ = _
  rw [iter_eq,a0]
  show iter M49.s0 _ = _
  rw [iter_eq,a1]
  show iter M49.s0 _ = _
  rw [iter_eq,a2]
 have r1 : (eqN 0 0 && eqN ([] : List Int).length 0 && roomB (0 + i.length) 1) = true := by
  have : roomB (0 + i.length) 1 = true := by simp [roomB,leB]; omega
  rw [this]; rfl
 have r2 : (eqN 0 0 && eqN ([] ++ i).length (0 + i.length) && roomB (0 + i.length + s.length) 1) = true := by
  have h1 : roomB (0 + i.length + s.length) 1 = true := by simp [roomB,leB]; omega
  have h2 : eqN ([] ++ i).length (0 + i.length) = true := by simp [eqN]
  rw [h1,h2]; rfl
 have b0 : M49.s1 ⟨0,0,[i,s],2,0,[]⟩ = some (.inl ⟨0,0 + i.length,[i,s],2,1,[] ++ i⟩) := by
  unfold M49.s1
  simp only [show decide ((0 : Int) < 2) = true from rfl,show inR 0 [i,s].length = true from rfl,cond_true,show ([i,s] : List (List Int))[(0 : Int).toNat]?.getD [] = i from rfl,r1]
  rfl
 have b1 : M49.s1 ⟨0,0 + i.length,[i,s],2,1,[] ++ i⟩ = some (.inl ⟨0,0 + i.length + s.length,[i,s],2,2,[] ++ i ++ s⟩) := by
  unfold M49.s1
  simp only [show decide ((1 : Int) < 2) = true from rfl,show inR 1 [i,s].length = true from rfl,cond_true,show ([i,s] : List (List Int))[(1 : Int).toNat]?.getD [] = s from rfl,r2]
  rfl
 have b2 : M49.s1 ⟨0,0 + i.length + s.length,[i,s],2,2,[] ++ i ++ s⟩ = some (.inr ⟨0,0 + i.length + s.length,[] ++ i ++ s⟩) := by
  unfold M49.s1
  simp
 have k1 : iter M49.s1 ⟨0,0,[i,s],(([i,s] : List (List Int)).length : Int),0,[]⟩ = some ⟨0,0 + i.length + s.length,[] ++ i ++ s⟩ := by
  show iter M49.s1 ⟨0,0,[i,s],2,0,[]⟩ = _
  rw [iter_eq,b0]
  show iter M49.s1 _ = _
  rw [iter_eq,b1]
  show iter M49.s1 _ = _
  rw [iter_eq,b2]
 have g : (decide ((0 : Int) ≤ ((i.length + s.length : Nat) : Int)) && decide (((i.length + s.length : Nat) : Int) ≤ 1000000000)) = true := by
  simp; omega
 unfold M35.m M49.m M55.m
 simp only [k0,bindO,g,cond_true,k1]
 have e : leB (0 + (0 + i.length + s.length)) ([] ++ i ++ s).length = true := by simp [leB]
 rw [e]
 simp only [Bool.and_self,cond_true,List.drop_zero,List.nil_append,Nat.zero_add,Option.some.injEq]
 exact List.take_of_length_le (by simp)
end Cu
end Go.Proofs.Ytnmlmdlhhphcoaa
namespace Go.Proofs.Ytnmlmdlhhphcoaa
open Go.Abs
namespace Cu
def cnt (f : Int → Int → Bool) (xs ys : List Int) : Nat := (xs.zip ys).countP fun p => f p.1 p.2
def fc (x y : Int) : Bool := bif x != 2 then x != y else false
def fd (x y : Int) : Bool := IntKind.u8.wrap (x + y) == 1
theorem m38 (x y : Int) : M38.m ⟨x,y⟩ = some (fc x y) := rfl
theorem m39 (x y : Int) : M39.m ⟨x,y⟩ = some (fd x y) := rfl
theorem scan_cnt {Y : Type} (f : Int → Int → Bool) (E : Nat → Y) : ∀ (zs : List (Int × Int)) (n : Nat),scan (fun (n : Nat) (p : Int × Int) => (.inl (if f p.1 p.2 = true then n + 1 else n) : Nat ⊕ Y)) E n zs = E (n + zs.countP fun p => f p.1 p.2)
 | [],n => by simp [scan]
 | p :: zs,n => by
  unfold scan
  refine (scan_cnt f E zs _).trans ?_
  rw [List.countP_cons]
  congr 1
  cases f p.1 p.2 <;> simp <;> omega
theorem M37c_run {ai as_ bi bs : List Int} (h1 : ai.length ≤ 1000000) (h2 : as_.length ≤ 1000000) (h3 : bi.length ≤ 1000000) (h4 : bs.length ≤ 1000000) :
  M37c.m ⟨ai,as_,bi,bs⟩ = some (if chk2 ai as_ bi bs ≠ 0 then -1 else ((cnt fc ai bi + cnt fc as_ bs : Nat) : Int)) := by
 unfold M37c.m
 simp only [m33 h1 h2 h3 h4,bindO]
 by_cases hc : chk2 ai as_ bi bs = 0
 ·have hlen : ai.length = bi.length ∧ as_.length = bs.length := by
   unfold chk2 at hc
   split at hc
   ·contradiction
   ·split at hc
    ·contradiction
    ·split at hc
     ·cases hc
     ·omega
  have hb : (chk2 ai as_ bi bs != 0) = false := by simp [hc]
  simp only [hb,cond_false,m35 h3 h4,bindO,hc,ne_eq,not_true,if_false]
  unfold M36.m
  simp only [bindO]
  unfold M37c.s0
  generalize hl : bi ++ bs = l
  have hll : l.length = ai.length + as_.length := by rw [← hl,List.length_append]; omega
  have z1 : (ai.zip l).length = ai.length := by rw [List.length_zip]; omega
  have z2 : (as_.zip (l.drop ai.length)).length = as_.length := by rw [List.length_zip,List.length_drop]; omega
  have k0 := iter_scan (step := M37c.i0_s0) (fun i (n : Nat) => ⟨(ai.length : Int),(i : Int),(n : Int),l,ai,as_⟩) (ai.zip l) (fun (n : Nat) (p : Int × Int) => .inl (if fc p.1 p.2 = true then n + 1 else n)) (fun n => ⟨(n : Int),l,ai,as_⟩) (fun i n => n ≤ i) (fun i hi n hn => by
   have hia : i < ai.length := by omega
   have hil : i < l.length := by omega
   have e1 : ((i : Int) < (ai.length : Int)) := by omega
   have hn : n ≤ i := hn
   unfold M37c.i0_s0 M37c.sb0
   simp only [m38,e1,inR_nat hia,inR_nat hil,getD_at hia,getD_at hil,suc (show i < 9000000000000000000 by omega),suc (show n < 9000000000000000000 by omega),decide_true,cond_true,bindO,List.getElem_zip]
   cases fc ai[i] l[i] <;> rfl) (fun i hi n n' hn hF => by
   have hn : n ≤ i := hn
   cases hF
   show (if _ then n + 1 else n) ≤ i + 1
   split
   ·exact Nat.succ_le_succ hn
   ·exact Nat.le_succ_of_le hn) (fun n _ => by
   unfold M37c.i0_s0
   simp [z1]) 0 (Nat.zero_le _)
  have k0 : iter M37c.i0_s0 ⟨(ai.length : Int),0,0,l,ai,as_⟩ = _ := k0
  rw [scan_cnt,Nat.zero_add] at k0
  have c0 : (ai.zip l).countP (fun p => fc p.1 p.2) ≤ 1000000 := by
   have := List.countP_le_length (p := fun p : Int × Int => fc p.1 p.2) (l := ai.zip l)
   omega
  have k1 := iter_scan (step := M37c.i0_s1) (fun i (n : Nat) => ⟨(as_.length : Int),(i : Int),(n : Int),l,ai,as_⟩) (as_.zip (l.drop ai.length)) (fun (n : Nat) (p : Int × Int) => .inl (if fc p.1 p.2 = true then n + 1 else n)) (fun n => ⟨(n : Int),l,ai,as_⟩) (fun i n => n ≤ 1000000 + i) (fun i hi n hn => by
   have hia : i < as_.length := by omega
   have hil : ai.length + i < l.length := by omega
   have e1 : ((i : Int) < (as_.length : Int)) := by omega
   have hn : n ≤ 1000000 + i := hn
   have ew : IntKind.i64.wrap ((ai.length : Int) + (i : Int)) = ((ai.length + i : Nat) : Int) := by rw [w64 (by omega) (by omega)]; omega
   unfold M37c.i0_s1 M37c.sb0
   simp only [m38,e1,ew,inR_nat hia,inR_nat hil,getD_at hia,getD_at hil,suc (show i < 9000000000000000000 by omega),suc (show n < 9000000000000000000 by omega),decide_true,cond_true,bindO,List.getElem_zip,List.getElem_drop]
   cases fc as_[i] l[ai.length + i] <;> rfl) (fun i hi n n' hn hF => by
   have hn : n ≤ 1000000 + i := hn
   cases hF
   show (if _ then n + 1 else n) ≤ 1000000 + (i + 1)
   split
   ·exact Nat.succ_le_succ hn
   ·exact Nat.le_succ_of_le hn) (fun n _ => by
   unfold M37c.i0_s1
   simp [z2]) ((ai.zip l).countP fun p => fc p.1 p.2) (by omega)
  have k1 : iter M37c.i0_s1 ⟨(as_.length : Int),0,(((ai.zip l).countP fun p => fc p.1 p.2 : Nat) : Int),l,ai,as_⟩ = _ := k1
  rw [scan_cnt] at k1
  simp only [k0,k1,bindO]
  have e1 : ai.zip l = ai.zip bi := by
   rw [← hl]
   have := List.zip_append (l₁ := ai) (l₂ := bi) (r₁ := []) (r₂ := bs) hlen.1
   simpa using this
  have e2 : l.drop ai.length = bs := by rw [← hl,hlen.1,List.drop_left]
  rw [e1,e2]
  rfl
 ·have hb : (chk2 ai as_ bi bs != 0) = true := by simpa using hc
  simp only [hb,cond_true,hc,ne_eq,not_false_eq_true,if_true]
theorem M37d_run {ai as_ bi bs : List Int} (h1 : ai.length ≤ 1000000) (h2 : as_.length ≤ 1000000) (h3 : bi.length ≤ 1000000) (h4 : bs.length ≤ 1000000) :
  M37d.m ⟨ai,as_,bi,bs⟩ = some (if chk2 ai as_ bi bs ≠ 0 then -1 else ((cnt fd ai bi + cnt fd as_ bs : Nat) : Int)) := by
 unfold M37d.m
 simp only [m33 h1 h2 h3 h4,bindO]
 by_cases hc : chk2 ai as_ bi bs = 0
 ·have hlen : ai.length = bi.length ∧ as_.length = bs.length := by
   unfold chk2 at hc
   split at hc
   ·contradiction
   ·split at hc
    ·contradiction
    ·split at hc
     ·cases hc
     ·omega
  have hb : (chk2 ai as_ bi bs != 0) = false := by simp [hc]
  simp only [hb,cond_false,m35 h3 h4,bindO,hc,ne_eq,not_true,if_false]
  unfold M36.m
  simp only [bindO]
  unfold M37d.s0
  generalize hl : bi ++ bs = l
  have hll : l.length = ai.length + as_.length := by rw [← hl,List.length_append]; omega
  have z1 : (ai.zip l).length = ai.length := by rw [List.length_zip]; omega
  have z2 : (as_.zip (l.drop ai.length)).length = as_.length := by rw [List.length_zip,List.length_drop]; omega
  have k0 := iter_scan (step := M37d.i0_s0) (fun i (n : Nat) => ⟨(ai.length : Int),(i : Int),(n : Int),l,ai,as_⟩) (ai.zip l) (fun (n : Nat) (p : Int × Int) => .inl (if fd p.1 p.2 = true then n + 1 else n)) (fun n => ⟨(n : Int),l,ai,as_⟩) (fun i n => n ≤ i) (fun i hi n hn => by
   have hia : i < ai.length := by omega
   have hil : i < l.length := by omega
   have e1 : ((i : Int) < (ai.length : Int)) := by omega
   have hn : n ≤ i := hn
   unfold M37d.i0_s0 M37d.sb0
   simp only [m39,e1,inR_nat hia,inR_nat hil,getD_at hia,getD_at hil,suc (show i < 9000000000000000000 by omega),suc (show n < 9000000000000000000 by omega),decide_true,cond_true,bindO,List.getElem_zip]
   cases fd ai[i] l[i] <;> rfl) (fun i hi n n' hn hF => by
   have hn : n ≤ i := hn
   cases hF
   show (if _ then n + 1 else n) ≤ i + 1
   split
   ·exact Nat.succ_le_succ hn
   ·exact Nat.le_succ_of_le hn) (fun n _ => by
   unfold M37d.i0_s0
   simp [z1]) 0 (Nat.zero_le _)
  have k0 : iter M37d.i0_s0 ⟨(ai.length : Int),0,0,l,ai,as_⟩ = _ := k0
  rw [scan_cnt,Nat.zero_add] at k0
  have c0 : (ai.zip l).countP (fun p => fd p.1 p.2) ≤ 1000000 := by
   have := List.countP_le_length (p := fun p : Int × Int => fd p.1 p.2) (l := ai.zip l)
   omega
  have k1 := iter_scan (step := M37d.i0_s1) (fun i (n : Nat) => ⟨(as_.length : Int),(i : Int),(n : Int),l,ai,as_⟩) (as_.zip (l.drop ai.length)) (fun (n : Nat) (p : Int × Int) => .inl (if fd p.1 p.2 = true then n + 1 else n)) (fun n => ⟨(n : Int),l,ai,as_⟩) (fun i n => n ≤ 1000000 + i) (fun i hi n hn => by
   have hia : i < as_.length := by omega
   have hil : ai.length + i < l.length := by omega
   have e1 : ((i : Int) < (as_.length : Int)) := by omega
   have hn : n ≤ 1000000 + i := hn
   have ew : IntKind.i64.wrap ((ai.length : Int) + (i : Int)) = ((ai.length + i : Nat) : Int) := by rw [w64 (by omega) (by omega)]; omega
   unfold M37d.i0_s1 M37d.sb0
   simp only [m39,e1,ew,inR_nat hia,inR_nat hil,getD_at hia,getD_at hil,suc (show i < 9000000000000000000 by omega),suc (show n < 9000000000000000000 by omega),decide_true,cond_true,bindO,List.getElem_zip,List.getElem_drop]
   cases fd as_[i] l[ai.length + i] <;> rfl) (fun i hi n n' hn hF => by
   have hn : n ≤ 1000000 + i := hn
   cases hF
   show (if _ then n + 1 else n) ≤ 1000000 + (i + 1)
   split
   ·exact Nat.succ_le_succ hn
   ·exact Nat.le_succ_of_le hn) (fun n _ => by
   unfold M37d.i0_s1
   simp [z2]) ((ai.zip l).countP fun p => fd p.1 p.2) (by omega)
  have k1 : iter M37d.i0_s1 ⟨(as_.length : Int),0,(((ai.zip l).countP fun p => fd p.1 p.2 : Nat) : Int),l,ai,as_⟩ = _ := k1
  rw [scan_cnt] at k1
  simp only [k0,k1,bindO]
  have e1 : ai.zip l = ai.zip bi := by
   rw [← hl]
   have := List.zip_append (l₁ := ai) (l₂ := bi) (r₁ := []) (r₂ := bs) hlen.1
   simpa using this
  have e2 : l.drop ai.length = bs := by rw [← hl,hlen.1,List.drop_left]
  rw [e1,e2]
  rfl
 ·have hb : (chk2 ai as_ bi bs != 0) = true := by simpa using hc
  simp only [hb,cond_true,hc,ne_eq,not_false_eq_true,if_true]
theorem m18 {ai as_ bi bs : List Int} (h1 : ai.length ≤ 1000000) (h2 : as_.length ≤ 1000000) (h3 : bi.length ≤ 1000000) (h4 : bs.length ≤ 1000000) :
  M18.m ⟨ai,as_,bi,bs⟩ = some (if chk2 ai as_ bi bs ≠ 0 then -1 else ((cnt fd ai bi + cnt fd as_ bs : Nat) : Int)) := by
 unfold M18.m
 simp only [M37d_run h1 h2 h3 h4,bindO]
def comp (ai as_ bi bs : List Int) : Bool := decide (chk2 ai as_ bi bs = 0 ∧ cnt fd ai bi + cnt fd as_ bs = 0)
def covs (ai as_ bi bs : List Int) : Bool := decide (chk2 ai as_ bi bs = 0 ∧ cnt fc ai bi + cnt fc as_ bs = 0)
theorem eq0 {c : Int} {n : Nat} : ((if c ≠ 0 then (-1 : Int) else (n : Int)) == 0) = decide (c = 0 ∧ n = 0) := by
 by_cases h : c = 0
 ·subst h
  by_cases hn : n = 0
  ·subst hn; rfl
  ·have : ((n : Int) == 0) = false := by simp only [beq_eq_false_iff_ne,ne_eq]; omega
   simp [hn]
 ·simp [h]
theorem m16 {ai as_ bi bs : List Int} (h1 : ai.length ≤ 1000000) (h2 : as_.length ≤ 1000000) (h3 : bi.length ≤ 1000000) (h4 : bs.length ≤ 1000000) : M16.m ⟨ai,as_,bi,bs⟩ = some (comp ai as_ bi bs) := by
 unfold M16.m comp
 simp only [m18 h1 h2 h3 h4,bindO,eq0]
theorem m17 {ai as_ bi bs : List Int} (h1 : ai.length ≤ 1000000) (h2 : as_.length ≤ 1000000) (h3 : bi.length ≤ 1000000) (h4 : bs.length ≤ 1000000) : M17.m ⟨ai,as_,bi,bs⟩ = some (covs ai as_ bi bs) := by
 unfold M17.m covs
 simp only [M37c_run h1 h2 h3 h4,bindO,eq0]
end Cu
end Go.Proofs.Ytnmlmdlhhphcoaa
namespace Go.Proofs.Ytnmlmdlhhphcoaa
open Go.Abs
namespace Cu
theorem m34 {i s : List Int} (hi : i.length ≤ 1000000) (hs : s.length ≤ 1000000) : M34.m ⟨i,s⟩ = some (0,i.length,i.length,0,s.length,s.length,i,s) := by
 have e : ∀ l : List Int,l.length ≤ 1000000 → (decide (0 ≤ (l.length : Int)) && decide ((l.length : Int) * 1 ≤ 281474976710656) && decide ((l.length : Int) ≤ 9223372036854775807)) = true := fun l hl => by
  simp; omega
 have e2 : ∀ l : List Int,(leB l.length l.length && leB l.length (List.replicate l.length (0 : Int)).length) = true := fun l => by
  simp [leB]
 have e3 : ∀ l : List Int,List.take 0 (List.replicate l.length (0 : Int)) ++ l ++ List.drop l.length (List.replicate l.length (0 : Int)) = l := fun l => by
  rw [List.take_zero,List.nil_append,List.drop_eq_nil_of_le (by simp),List.append_nil]
 unfold M34.m
 have k1 := e i hi
 have k2 := e s hs
 simp only [Nat.zero_add,Int.toNat_natCast,Int.ofNat_one,Int.natCast_one,k1,k2,e2,e3,cond_true]
def mn (x y : Int) : Int := if y < x then y else x
def upd (xs l : List Int) (i : Nat) : List Int := (List.zipWith mn xs l).take i ++ xs.drop i
theorem upd_length {xs l : List Int} {i : Nat} (hl : xs.length ≤ l.length) (hi : i ≤ xs.length) : (upd xs l i).length = xs.length := by
 unfold upd
 rw [List.length_append,List.length_take,List.length_zipWith,List.length_drop]
 omega
theorem upd_at {xs l : List Int} {i : Nat} (hl : xs.length ≤ l.length) (hi : i < xs.length) : (upd xs l i)[i]?.getD 0 = xs[i] := by
 unfold upd
 rw [List.getElem?_append_right (by rw [List.length_take]; omega),List.length_take,List.length_zipWith,List.getElem?_drop]
 rw [show i + (i - min i (min xs.length l.length)) = i by omega,List.getElem?_eq_getElem hi]
 rfl
theorem upd_step {xs l : List Int} {i : Nat} (hl : xs.length ≤ l.length) (hi : i < xs.length) : (upd xs l i).set i (mn xs[i] (l[i]'(by omega))) = upd xs l (i + 1) := by
 have hz : i < (List.zipWith mn xs l).length := by rw [List.length_zipWith]; omega
 unfold upd
 rw [List.set_append_right _ _ (by rw [List.length_take]; omega),List.length_take,List.drop_eq_getElem_cons hi,List.take_succ_eq_append_getElem hz,show i - min i (List.zipWith mn xs l).length = 0 by omega,List.set_cons_zero,List.getElem_zipWith,List.append_assoc]
 rfl
theorem upd_end {xs l : List Int} (hl : xs.length ≤ l.length) : upd xs l xs.length = List.zipWith mn xs l := by
 unfold upd
 rw [List.drop_length,List.append_nil,List.take_of_length_le (by rw [List.length_zipWith]; omega)]
theorem upd_0 (xs l : List Int) : upd xs l 0 = xs := by simp [upd]
theorem scan_unit {Y : Type} (E : Unit → Y) : ∀ (l : List Int),scan (fun (_ : Unit) (_ : Int) => (.inl () : Unit ⊕ Y)) E () l = E ()
 | [] => rfl
 | _ :: l => by unfold scan; exact scan_unit E l
theorem m13 {ai as_ bi bs : List Int} (h1 : ai.length ≤ 1000000) (h2 : as_.length ≤ 1000000) (h3 : bi.length ≤ 1000000) (h4 : bs.length ≤ 1000000) :
  M13.m ⟨ai,as_,bi,bs⟩ = some (if chk2 ai as_ bi bs ≠ 0 then ([],[],chk2 ai as_ bi bs) else if comp ai as_ bi bs = true then (List.zipWith mn ai bi,List.zipWith mn as_ bs,0) else ([],[],9)) := by
 unfold M13.m
 simp only [m33 h1 h2 h3 h4,m16 h1 h2 h3 h4,m34 h1 h2,m35 h3 h4,bindO]
 by_cases hc : chk2 ai as_ bi bs = 0
 ·have hlen : ai.length = bi.length ∧ as_.length = bs.length := by
   unfold chk2 at hc
   split at hc
   ·contradiction
   ·split at hc
    ·contradiction
    ·split at hc
     ·cases hc
     ·omega
  have hb : (chk2 ai as_ bi bs != 0) = false := by simp [hc]
  simp only [hb,cond_false,hc,ne_eq,not_true,if_false]
  cases hk : comp ai as_ bi bs with
  | false => rfl
  | true =>
   simp only [Bool.not_true,cond_false,if_true]
   unfold M36o.m
   simp only [bindO]
   unfold M13.s0
   generalize hl : bi ++ bs = l
   have hll : l.length = ai.length + as_.length := by rw [← hl,List.length_append]; omega
   have k0 := iter_scan (step := M13.i0_s0) (fun i (_ : Unit) => ⟨(ai.length : Int),(i : Int),upd ai l i,as_,0,ai.length,ai.length,0,as_.length,as_.length,l,0,ai.length,ai.length,0,as_.length,as_.length⟩) ai (fun _ _ => .inl ()) (fun _ => ⟨upd ai l ai.length,as_,0,ai.length,ai.length,0,as_.length,as_.length,l,0,ai.length,ai.length,0,as_.length,as_.length⟩) (fun _ _ => True) (fun i hi _ _ => by
    have hil : i < l.length := by omega
    have e1 : ((i : Int) < (ai.length : Int)) := by omega
    have e2 : i < (upd ai l i).length := by rw [upd_length (by omega) (by omega)]; omega
    have e3 : l[i]?.getD 0 = l[i] := by simp [hil]
    unfold M13.i0_s0 M13.sb0a
    simp only [e1,inR_nat hi,inR_nat hil,getD_at hil,suc (show i < 9000000000000000000 by omega),Int.toNat_natCast,e3,decide_true,cond_true,bindO,Nat.zero_add,e2,upd_at (show ai.length ≤ l.length by omega) hi]
    rw [← upd_step (show ai.length ≤ l.length by omega) hi]
    rfl) (fun _ _ _ _ _ _ => trivial) (fun _ _ => by
    unfold M13.i0_s0
    simp) () trivial
   rw [scan_unit,upd_end (show ai.length ≤ l.length by omega)] at k0
   simp only [upd_0] at k0
   have k0 : iter M13.i0_s0 ⟨(ai.length : Int),0,ai,as_,0,ai.length,ai.length,0,as_.length,as_.length,l,0,ai.length,ai.length,0,as_.length,as_.length⟩ = _ := k0
   generalize hz : List.zipWith mn ai l = zi at k0
   have hd : as_.length ≤ (l.drop ai.length).length := by rw [List.length_drop]; omega
   have k1 := iter_scan (step := M13.i0_s1) (fun i (_ : Unit) => ⟨(as_.length : Int),(i : Int),zi,upd as_ (l.drop ai.length) i,0,ai.length,ai.length,0,as_.length,as_.length,l,0,ai.length,ai.length,0,as_.length,as_.length⟩) as_ (fun _ _ => .inl ()) (fun _ => ⟨zi,upd as_ (l.drop ai.length) as_.length,0,ai.length,ai.length,0,as_.length,as_.length,l,0,ai.length,ai.length,0,as_.length,as_.length⟩) (fun _ _ => True) (fun i hi _ _ => by
    have hil : ai.length + i < l.length := by omega
    have e1 : ((i : Int) < (as_.length : Int)) := by omega
    have ew : IntKind.i64.wrap ((ai.length : Int) + (i : Int)) = ((ai.length + i : Nat) : Int) := by rw [w64 (by omega) (by omega)]; omega
    have e2 : i < (upd as_ (l.drop ai.length) i).length := by rw [upd_length hd (by omega)]; omega
    have e3 : l[ai.length + i]?.getD 0 = (l.drop ai.length)[i]'(by omega) := by simp [hil]
    unfold M13.i0_s1 M13.sb0b
    simp only [e1,ew,inR_nat hi,inR_nat hil,suc (show i < 9000000000000000000 by omega),Int.toNat_natCast,e3,decide_true,cond_true,bindO,Nat.zero_add,e2,upd_at hd hi]
    rw [← upd_step hd hi]
    rfl) (fun _ _ _ _ _ _ => trivial) (fun _ _ => by
    unfold M13.i0_s1
    simp) () trivial
   rw [scan_unit,upd_end hd] at k1
   simp only [upd_0] at k1
   have k1 : iter M13.i0_s1 ⟨(as_.length : Int),0,zi,as_,0,ai.length,ai.length,0,as_.length,as_.length,l,0,ai.length,ai.length,0,as_.length,as_.length⟩ = _ := k1
   simp only [k0,k1,bindO]
   have ez1 : zi = List.zipWith mn ai bi := by
    rw [← hz,← hl]
    have := List.zipWith_append (f := mn) (l₁ := ai) (l₂ := bi) (l₁' := []) (l₂' := bs) hlen.1
    simpa using this
   have ez2 : l.drop ai.length = bs := by rw [← hl,hlen.1,List.drop_left]
   have g1 : leB (0 + ai.length) zi.length = true := by rw [ez1]; simp [leB,List.length_zipWith]; omega
   have g2 : leB (0 + as_.length) (List.zipWith mn as_ bs).length = true := by simp [leB,List.length_zipWith]; omega
   rw [ez2]
   simp only [g1,g2,Bool.and_self,cond_true,List.drop_zero]
   rw [List.take_of_length_le (by rw [ez1,List.length_zipWith]; omega),List.take_of_length_le (by rw [List.length_zipWith]; omega),ez1]
   rfl
 ·have hb : (chk2 ai as_ bi bs != 0) = true := by simpa using hc
  simp only [hb,cond_true,hc,ne_eq,not_false_eq_true,if_true]
end Cu
end Go.Proofs.Ytnmlmdlhhphcoaa
namespace Go.Proofs.Ytnmlmdlhhphcoaa
open Go.Abs
namespace Cu
end Cu
end Go.Proofs.Ytnmlmdlhhphcoaa
namespace Go.Proofs.Ytnmlmdlhhphcoaa
open Go.Abs
namespace Cu
end Cu
end Go.Proofs.Ytnmlmdlhhphcoaa
namespace Go.Proofs.Ytnmlmdlhhphcoaa
open Go.Abs
namespace Cu
def bigP (most : Int) (p : List Int × List Int) : Bool := bif bif decide ((p.1.length : Int) > most) then true else decide ((p.2.length : Int) > most) then true else decide (IntKind.i64.wrap ((p.1.length : Int) + (p.2.length : Int)) > most)
theorem m9 {most : Int} {l : List (List Int × List Int)} (hl : l.length ≤ 1000) : M9.m ⟨most,l⟩ = some (!(l.any (bigP most))) := by
 have key := iter_any (step := M9.s0) (fun k => ⟨most,l,(k : Int)⟩) l (bigP most) (fun _ => .inr ⟨false⟩) (y := .inl ⟨⟩) (fun k hk => by
  have e1 : ((k : Int) < (l.length : Int)) := by omega
  unfold M9.s0
  simp only [e1,inR_nat hk,getD_at hk,suc (show k < 9000000000000000000 by omega),decide_true,cond_true,Bool.true_or]
  show (bif bigP most l[k] then _ else _) = _
  cases bigP most l[k] <;> rfl) (by unfold M9.s0; simp)
 unfold M9.m
 rcases key with ⟨h1,i,h2⟩ | ⟨h1,h2⟩
 ·have h2 : iter M9.s0 ⟨most,l,0⟩ = _ := h2
  simp only [h2,bindO,sumC,h1,Bool.not_true]
 ·have h2 : iter M9.s0 ⟨most,l,0⟩ = _ := h2
  simp only [h2,bindO,sumC,h1,Bool.not_false]
end Cu
end Go.Proofs.Ytnmlmdlhhphcoaa
namespace Go.Proofs.Ytnmlmdlhhphcoaa
open Go.Abs
namespace Cu
def Va (x : Int) : Prop := x = 0 ∨ x = 1 ∨ x = 2
def Vs (l : List Int) : Prop := ∀ x ∈ l,Va x
theorem Vs.hd {x : Int} {l : List Int} (h : Vs (x :: l)) : Va x := h x (by simp)
theorem Vs.tl {x : Int} {l : List Int} (h : Vs (x :: l)) : Vs l := fun y hy => h y (by simp [hy])
theorem vals_Vs {l : List Int} (h : ∀ x ∈ l,0 ≤ x) : Vs (vals l) := fun x hx => by
 obtain ⟨v,hv,rfl⟩ := List.mem_map.1 hx
 have := h v hv
 show Int.tmod v 3 = 0 ∨ _ ∨ _
 rw [Int.tmod_eq_emod_of_nonneg this]
 omega
theorem cnt_cons (f : Int → Int → Bool) (x y : Int) (l r : List Int) : cnt f (x :: l) (y :: r) = 0 ↔ f x y = false ∧ cnt f l r = 0 := by
 unfold cnt
 rw [List.zip_cons_cons,List.countP_cons]
 cases f x y <;> simp
theorem self : ∀ (l : List Int),Vs l → cnt fd l l = 0 ∧ List.zipWith mn l l = l ∧ cnt fc l l = 0
 | [],_ => ⟨rfl,rfl,rfl⟩
 | x :: l,h => by
  obtain ⟨h1,h2,h3⟩ := self l h.tl
  rw [cnt_cons,cnt_cons,List.zipWith_cons_cons,h2]
  have hx := h.hd
  have : fd x x = false ∧ mn x x = x ∧ fc x x = false := by
   rcases hx with rfl | rfl | rfl <;> exact ⟨by decide,by decide,by decide⟩
  exact ⟨⟨this.1,h1⟩,by rw [this.2.1],⟨this.2.2,h3⟩⟩
theorem chk_V {i s : List Int} (hi : Vs i) (hs : Vs s) (h : i.length + s.length ≤ 16384) : chk i s = 0 := by
 have hb : ∀ l : List Int,Vs l → bad l = false := fun l hl => by
  unfold bad
  rw [List.any_eq_false]
  intro x hx
  have := hl x hx
  unfold Va at this
  simp
  omega
 unfold chk
 rw [if_neg (by omega),hb i hi,hb s hs]
 rfl
theorem chk2_V {ai as_ bi bs : List Int} (h1 : Vs ai) (h2 : Vs as_) (h3 : Vs bi) (h4 : Vs bs) (e1 : ai.length = bi.length) (e2 : as_.length = bs.length) (h : ai.length + as_.length ≤ 16384) : chk2 ai as_ bi bs = 0 := by
 unfold chk2
 rw [chk_V h1 h2 h,chk_V h3 h4 (by omega)]
 simp [e1,e2]
end Cu
end Go.Proofs.Ytnmlmdlhhphcoaa
namespace Go.Proofs.Ytnmlmdlhhphcoaa
open Go.Abs
def Le {α : Type} (a b : Option α) : Prop := ∀ y,a = some y → b = some y
theorem Le.refl {α : Type} (a : Option α) : Le a a := fun _ h => h
theorem Le.bind {α β : Type} {a b : Option α} {f g : α → Option β} (h : Le a b) (h' : ∀ y,Le (f y) (g y)) : Le (bindO a f) (bindO b g) := fun z hz => by
 obtain ⟨y,h1,h2⟩ := bindO_some hz
 rw [h y h1]; exact h' y z h2
theorem Le.cond {α : Type} {p : Bool} {a b c d : Option α} (h : Le a b) (h' : Le c d) : Le (bif p then a else c) (bif p then b else d) := by cases p <;> assumption
theorem iterN_le {X Y : Type} {s s' : X → Option (X ⊕ Y)} (h : ∀ x,Le (s x) (s' x)) : ∀ (n : Nat) (x : X),Le (iterN s n x) (iterN s' n x)
 | 0,x => fun y hy => by cases hy
 | n + 1,x => fun y hy => by
  unfold iterN at hy ⊢
  split at hy
  ·rename_i x' e; rw [h x _ e]; exact iterN_le h n x' y hy
  ·rename_i y' e; rw [h x _ e]; exact hy
  ·cases hy
theorem Le.iter {X Y : Type} {s s' : X → Option (X ⊕ Y)} {n : Nat} (h : ∀ x,Le (s x) (s' x)) (x : X) : Le (iterN s n x) (Go.Abs.iter s' x) := fun y hy => iter_of (iterN_le h n x y hy)
end Go.Proofs.Ytnmlmdlhhphcoaa
namespace Go.Proofs.Ytnmlmdlhhphcoaa
open Go.Abs
namespace Cu
theorem vals_len (l : List Int) : (vals l).length = l.length := by simp [vals]
theorem covs_V {ai as_ bi bs : List Int} (h1 : Vs ai) (h2 : Vs as_) (h3 : Vs bi) (h4 : Vs bs) (e1 : ai.length = bi.length) (e2 : as_.length = bs.length) (h : ai.length + as_.length ≤ 16384) :
  covs ai as_ bi bs = decide (cnt fc ai bi = 0 ∧ cnt fc as_ bs = 0) := by
 unfold covs
 rw [chk2_V h1 h2 h3 h4 e1 e2 h]
 congr 1
 simp
end Cu
end Go.Proofs.Ytnmlmdlhhphcoaa
namespace Go.Proofs.Ytnmlmdlhhphcoaa
open Go.Abs
namespace Cu
def okb (b : UInt8) : Bool := b == 48 || b == 49 || b == 88
def vl (b : UInt8) : Int := if b = 48 then 0 else if b = 49 then 1 else 2
def fv (l : List UInt8) (k : Nat) : List Int := (l.take k).map vl ++ List.replicate (l.length - k) 0
theorem ix3 (b : UInt8) : Lib.indexByte [48,49,88] b = if okb b = true then vl b else -1 := by
 by_cases h0 : b = 48
 ·subst h0; rfl
 ·by_cases h1 : b = 49
  ·subst h1; rfl
  ·by_cases h2 : b = 88
   ·subst h2; rfl
   ·simp [Lib.indexByte,okb,h0,h1,h2,Ne.symm h0,Ne.symm h1,Ne.symm h2]
theorem byteAt_at {s : List UInt8} {i : Nat} (h : i < s.length) : (byteAt s i).toNat.toUInt8 = s[i] := by
 unfold byteAt
 rw [List.getElem?_eq_getElem h]
 simp
theorem fv_set {l : List UInt8} {k : Nat} (h : k < l.length) : (fv l k).set k (vl l[k]) = fv l (k + 1) := by
 unfold fv
 rw [List.take_succ_eq_append_getElem h,List.map_append]
 have e : l.length - k = (l.length - (k + 1)) + 1 := by omega
 rw [e,List.replicate_succ,List.set_append_right _ _ (by simp; omega)]
 simp [Nat.min_eq_left (Nat.le_of_lt h)]
theorem fv_len {l : List UInt8} {k : Nat} (h : k ≤ l.length) : (fv l k).length = l.length := by
 unfold fv; simp; omega
theorem fv_zero (l : List UInt8) : fv l 0 = List.replicate l.length 0 := by simp [fv]
theorem fv_full (l : List UInt8) : fv l l.length = l.map vl := by simp [fv]
theorem vl_ge (b : UInt8) : 0 ≤ vl b ∧ vl b ≤ 2 := by unfold vl; split <;> (try split) <;> omega
theorem u8_vl (b : UInt8) : IntKind.u8.wrap (vl b) = vl b := by
 unfold vl; split
 ·rfl
 ·split <;> rfl
theorem cut_bar (s : List UInt8) : (124 ∉ s ∧ Lib.cut s [124] = (s,[],false)) ∨ ∃ l r,s = l ++ 124 :: r ∧ 124 ∉ l ∧ Lib.cut s [124] = (l,r,true) := by
 unfold Lib.cut
 rw [Lib.index_one]
 have hge := Lib.indexByte_ge s 124
 by_cases h : Lib.indexByte s 124 = -1
 ·left
  have hn := Lib.indexByte_none h
  rw [h]
  refine ⟨fun hm => ?_,rfl⟩
  obtain ⟨k,hk⟩ := List.mem_iff_getElem?.1 hm
  exact hn k hk
 ·right
  obtain ⟨o,ho⟩ : ∃ o : Nat,Lib.indexByte s 124 = o := ⟨(Lib.indexByte s 124).toNat,by omega⟩
  obtain ⟨h1,h2⟩ := Lib.indexByte_some ho
  rw [ho,if_pos (by omega)]
  have hlt : o < s.length := by
   rcases Nat.lt_or_ge o s.length with h | h
   ·exact h
   ·rw [List.getElem?_eq_none h] at h1; cases h1
  have e : s[o] = 124 := by rw [List.getElem?_eq_getElem hlt] at h1; injection h1
  refine ⟨s.take o,s.drop (o + 1),?_,?_,?_⟩
  ·rw [← e,← List.drop_eq_getElem_cons hlt,List.take_append_drop]
  ·intro hm
   obtain ⟨k,hk⟩ := List.mem_iff_getElem?.1 hm
   by_cases hko : k < o
   ·rw [List.getElem?_take_of_lt hko] at hk
    exact h2 k hko hk
   ·rw [List.getElem?_eq_none (by simp; omega)] at hk; cases hk
  ·simp
theorem cut_of {l r : List UInt8} (h : 124 ∉ l) : Lib.cut (l ++ 124 :: r) [124] = (l,r,true) := by
 rcases cut_bar (l ++ 124 :: r) with ⟨h1,_⟩ | ⟨l',r',h1,h2,h3⟩
 ·exact absurd (by simp) h1
 ·have key : ∀ (l l' r r' : List UInt8),124 ∉ l → 124 ∉ l' → l ++ 124 :: r = l' ++ 124 :: r' → l = l' ∧ r = r' := by
   intro l
   induction l with
   | nil =>
    intro l' r r' _ h' he
    cases l' with
    | nil => simp at he; exact ⟨rfl,he⟩
    | cons x l' => simp at he; exact absurd (by simp [he.1]) h'
   | cons x l ih =>
    intro l' r r' h h' he
    cases l' with
    | nil => simp at he; exact absurd (by simp [he.1]) h
    | cons y l' =>
     simp only [List.cons_append,List.cons.injEq] at he
     obtain ⟨a,b⟩ := ih l' r r' (fun hm => h (by simp [hm])) (fun hm => h' (by simp [hm])) he.2
     exact ⟨by rw [he.1,a],b⟩
  obtain ⟨a,b⟩ := key l l' r r' h h2 h1
  rw [h3,a,b]
theorem m27 {s : List UInt8} (hs : s.length ≤ 16385) : M27.m ⟨s⟩ = some (
  if 124 ∈ s then (if ((Lib.cut s [124]).1 ++ (Lib.cut s [124]).2.1).all okb = true then ((Lib.cut s [124]).1.map vl,(Lib.cut s [124]).2.1.map vl,0) else ([],[],4)) else ([],[],4)) := by
 have hg : ¬ ((s.length : Int) > 16385) := by omega
 have hb : Nat.ble s.length 1000000000 = true := Nat.ble_eq_true_of_le (by omega)
 unfold M27.m M47.m M53.m
 simp only [hg,decide_false,cond_false,hb,cond_true,bindO]
 rcases cut_bar s with ⟨h1,h2⟩ | ⟨l,r,h1,h2,h3⟩
 ·rw [h2,if_neg h1]; rfl
 ·have hm : 124 ∈ s := by rw [h1]; simp
  rw [h3,if_pos hm]
  have hl : l.length + r.length + 1 = s.length := by rw [h1]; simp; omega
  have g1 : ∀ n : Nat,n ≤ 16385 → (decide (0 ≤ (n : Int)) && decide ((n : Int) ≤ (n : Int)) && decide ((n : Int) * 1 ≤ 281474976710656) && decide ((n : Int) ≤ 9223372036854775807)) = true := fun n hn => by simp; omega
  simp only [Bool.not_true,cond_false,Int.ofNat_one,Int.natCast_one,g1 l.length (by omega),g1 r.length (by omega),cond_true,M36o.m,bindO,Int.toNat_natCast,← fv_zero]
  have hle : leB (l.length + r.length) 9223372036854775807 = true := by simp [leB]; omega
  have k0 := iter_any (step := M27.i0_s0) (fun k => ⟨(l.length : Int),(k : Int),[],[],0,l,r,fv l k,fv r 0,0,l.length,l.length,0,r.length,r.length,0,l.length,l.length,0,r.length,r.length⟩) l (fun b => !okb b)
   (fun k => .inr ⟨[],[],4,l,r,fv l k,fv r 0,0,l.length,l.length,0,r.length,r.length,0,l.length,l.length,0,r.length,r.length⟩)
   (y := .inl ⟨[],[],0,l,r,fv l l.length,fv r 0,0,l.length,l.length,0,r.length,r.length,0,l.length,l.length,0,r.length,r.length⟩) (fun k hk => by
   have e1 : ((k : Int) < (l.length : Int)) := by omega
   have e2 : inR (k : Int) (l ++ r).length = true := inR_nat (by simp; omega)
   have e3 : (byteAt (l ++ r) (k : Int).toNat).toNat.toUInt8 = l[k] := by
    rw [Int.toNat_natCast,byteAt_at (by simp; omega),List.getElem_append_left hk]
   have e4 : 0 + (k : Int).toNat < (fv l k).length := by rw [fv_len (by omega)]; simp; omega
   unfold M27.i0_s0 M27.sb0a M48.m
   simp only [e1,inR_nat hk,e2,hle,e3,ix3,suc (show k < 9000000000000000000 by omega),decide_true,cond_true,bindO]
   cases ho : okb l[k] with
   | false => simp [sumC]
   | true =>
    have := vl_ge l[k]
    have n1 : ¬ (vl l[k] < 0) := by omega
    simp only [if_true,n1,decide_false,cond_false,e4,decide_true,cond_true,sumC,Bool.not_true,Bool.false_eq_true,if_false,u8_vl]
    rw [show 0 + (k : Int).toNat = k by simp,fv_set hk]) (by unfold M27.i0_s0; simp)
  have k1 := iter_any (step := M27.i0_s1) (fun k => ⟨(r.length : Int),(k : Int),[],[],0,l,r,fv l l.length,fv r k,0,l.length,l.length,0,r.length,r.length,0,l.length,l.length,0,r.length,r.length⟩) r (fun b => !okb b)
   (fun k => .inr ⟨[],[],4,l,r,fv l l.length,fv r k,0,l.length,l.length,0,r.length,r.length,0,l.length,l.length,0,r.length,r.length⟩)
   (y := .inl ⟨[],[],0,l,r,fv l l.length,fv r r.length,0,l.length,l.length,0,r.length,r.length,0,l.length,l.length,0,r.length,r.length⟩) (fun k hk => by
   have e1 : ((k : Int) < (r.length : Int)) := by omega
   have ew : IntKind.i64.wrap ((l.length : Int) + (k : Int)) = ((l.length + k : Nat) : Int) := by rw [w64 (by omega) (by omega)]; omega
   have e2 : inR ((l.length + k : Nat) : Int) (l ++ r).length = true := inR_nat (by simp; omega)
   have e3 : (byteAt (l ++ r) (((l.length + k : Nat) : Int)).toNat).toNat.toUInt8 = r[k] := by
    rw [Int.toNat_natCast,byteAt_at (by simp; omega),List.getElem_append_right (by omega)]
    simp
   have e4 : 0 + (k : Int).toNat < (fv r k).length := by rw [fv_len (by omega)]; simp; omega
   unfold M27.i0_s1 M27.sb0b M48.m
   simp only [e1,inR_nat hk,ew,e2,hle,e3,ix3,suc (show k < 9000000000000000000 by omega),decide_true,cond_true,bindO]
   cases ho : okb r[k] with
   | false => simp [sumC]
   | true =>
    have := vl_ge r[k]
    have n1 : ¬ (vl r[k] < 0) := by omega
    simp only [if_true,n1,decide_false,cond_false,e4,decide_true,cond_true,sumC,Bool.not_true,Bool.false_eq_true,if_false,u8_vl]
    rw [show 0 + (k : Int).toNat = k by simp,fv_set hk]) (by unfold M27.i0_s1; simp)
  have hall : (l ++ r).all okb = (!(l.any fun b => !okb b) && !(r.any fun b => !okb b)) := by
   rw [List.all_append,List.all_eq_not_any_not,List.all_eq_not_any_not]
  rw [hall]
  unfold M27.s0
  rcases k0 with ⟨a1,t,a2⟩ | ⟨a1,a2⟩
  ·have a2 : iter M27.i0_s0 ⟨(l.length : Int),0,[],[],0,l,r,fv l 0,fv r 0,0,l.length,l.length,0,r.length,r.length,0,l.length,l.length,0,r.length,r.length⟩ = _ := a2
   simp only [a2,bindO,sumC,a1,Bool.not_true,Bool.false_and,Bool.false_eq_true,if_false]
  ·have a2 : iter M27.i0_s0 ⟨(l.length : Int),0,[],[],0,l,r,fv l 0,fv r 0,0,l.length,l.length,0,r.length,r.length,0,l.length,l.length,0,r.length,r.length⟩ = _ := a2
   simp only [a2,bindO,sumC,a1]
   rcases k1 with ⟨b1,t,b2⟩ | ⟨b1,b2⟩
   ·have b2 : iter M27.i0_s1 ⟨(r.length : Int),0,[],[],0,l,r,fv l l.length,fv r 0,0,l.length,l.length,0,r.length,r.length,0,l.length,l.length,0,r.length,r.length⟩ = _ := b2
    simp only [b2,bindO,sumC,b1]
    rfl
   ·have b2 : iter M27.i0_s1 ⟨(r.length : Int),0,[],[],0,l,r,fv l l.length,fv r 0,0,l.length,l.length,0,r.length,r.length,0,l.length,l.length,0,r.length,r.length⟩ = _ := b2
    have q1 : leB (0 + l.length) (fv l l.length).length = true := by rw [fv_len (Nat.le_refl _)]; simp [leB]
    have q2 : leB (0 + r.length) (fv r r.length).length = true := by rw [fv_len (Nat.le_refl _)]; simp [leB]
    simp only [b2,bindO,sumC,b1,q1,q2,Bool.and_self,Bool.not_false,cond_true,if_true,List.drop_zero]
    rw [List.take_of_length_le (by rw [fv_len (Nat.le_refl _)]; omega),List.take_of_length_le (by rw [fv_len (Nat.le_refl _)]; omega),fv_full,fv_full]
end Cu
end Go.Proofs.Ytnmlmdlhhphcoaa
namespace Go.Proofs.Ytnmlmdlhhphcoaa
open Go.Abs
namespace Cu
theorem scan_unitU {Y α : Type} (E : Unit → Y) : ∀ (l : List α),scan (fun (_ : Unit) (_ : α) => (.inl () : Unit ⊕ Y)) E () l = E ()
 | [] => rfl
 | _ :: l => by unfold scan; exact scan_unitU E l
theorem okS_V {l : List Int} (h : Vs l) (hl : l.length ≤ 1000000) : M26.okS l = true := by
 unfold M26.okS
 rw [Bool.and_eq_true]
 refine ⟨List.all_eq_true.2 fun x hx => ?_,Nat.ble_eq_true_of_le hl⟩
 rcases h x hx with rfl | rfl | rfl <;> rfl
theorem m26_V {i s : List Int} (h1 : Vs i) (h2 : Vs s) (h : i.length + s.length ≤ 16384) : M26.m ⟨i,s⟩ = some (sgns i ++ 124 :: sgns s) := by
 unfold M26.m
 simp only [m29 (show i.length ≤ 1000000 by omega) (show s.length ≤ 1000000 by omega),chk_V h1 h2 h,bindO,okS_V h1 (by omega),okS_V h2 (by omega)]
 rfl
theorem sgn_Va {v : Int} (h : Va v) : okb (sgn v) = true ∧ vl (sgn v) = v ∧ sgn v ≠ 124 := by
 rcases h with rfl | rfl | rfl <;> exact ⟨by decide,by decide,by decide⟩
theorem sgns_V {l : List Int} (h : Vs l) : (sgns l).all okb = true ∧ (sgns l).map vl = l ∧ 124 ∉ sgns l := by
 induction l with
 | nil => exact ⟨rfl,rfl,by simp [sgns]⟩
 | cons x l ih =>
  obtain ⟨a,b,c⟩ := ih h.tl
  obtain ⟨a',b',c'⟩ := sgn_Va h.hd
  refine ⟨?_,?_,?_⟩
  ·show (okb (sgn x) && (sgns l).all okb) = true
   rw [a,a']; rfl
  ·show vl (sgn x) :: (sgns l).map vl = _
   rw [b,b']
  ·show 124 ∉ sgn x :: sgns l
   simp [c,Ne.symm c']
theorem m27_sgns {i s : List Int} (h1 : Vs i) (h2 : Vs s) (h : i.length + s.length ≤ 16384) : M27.m ⟨sgns i ++ 124 :: sgns s⟩ = some (i,s,0) := by
 obtain ⟨a,b,c⟩ := sgns_V h1
 obtain ⟨a',b',_⟩ := sgns_V h2
 rw [m27 (by simp [sgns]; omega),cut_of c,if_pos (by simp),if_pos (by rw [List.all_append,a,a']; rfl),b,b']
def gd (s : List UInt8) : Bool := s.all fun b => b == 124 || okb b
end Cu
end Go.Proofs.Ytnmlmdlhhphcoaa
namespace Go.Proofs.Ytnmlmdlhhphcoaa
open Go.Abs
namespace Cu
theorem m14 {i s : List Int} (hi : i.length ≤ 1000000) (hs : s.length ≤ 1000000) : M14.m ⟨i,s⟩ = some (i ++ s) := by
 have e1 : roomB i.length 1 = true := by simp [roomB,leB]; omega
 have e2 : (eqN i.length i.length && roomB (i.length + s.length) 1) = true := by
  have h1 : eqN i.length i.length = true := by simp [eqN]
  have h2 : roomB (i.length + s.length) 1 = true := by simp [roomB,leB]; omega
  rw [h1,h2]; rfl
 have e3 : leB (0 + (i.length + s.length)) (i ++ s).length = true := by simp [leB]
 unfold M14.m
 simp only [e1,e2,e3,Bool.and_self,cond_true,List.drop_zero]
 rw [List.take_of_length_le (by simp)]
theorem fdiv_bit (n i : Nat) (hi : i ≤ 64) : ((n : Int).fdiv (2 ^ min i 64)).tmod 2 = ((n / 2 ^ i % 2 : Nat) : Int) := by
 rw [Nat.min_eq_left hi]
 have e : ((2 : Int) ^ i) = ((2 ^ i : Nat) : Int) := by simp
 rw [e,Int.fdiv_eq_ediv_of_nonneg _ (Int.natCast_nonneg _),← Int.natCast_ediv,Int.tmod_eq_emod_of_nonneg (Int.natCast_nonneg _)]
 omega
theorem Va_w {x : Int} (h : Va x) : IntKind.i64.wrap x = x := by
 rcases h with rfl | rfl | rfl <;> rfl
def bit (x : Int) : Nat := if x = 1 then 1 else 0
theorem cnt_app (f : Int → Int → Bool) {a b : List Int} (c d : List Int) (h : a.length = b.length) : cnt f (a ++ c) (b ++ d) = cnt f a b + cnt f c d := by
 unfold cnt
 rw [List.zip_append h,List.countP_append]
theorem Vs_app {a b : List Int} (h1 : Vs a) (h2 : Vs b) : Vs (a ++ b) := fun x hx => by
 rcases List.mem_append.1 hx with hx | hx
 ·exact h1 x hx
 ·exact h2 x hx
end Cu
end Go.Proofs.Ytnmlmdlhhphcoaa
namespace Go.Proofs.Ytnmlmdlhhphcoaa
open Go.Abs
namespace Cu
theorem pow_w {k : Nat} (h : k ≤ 8) : IntKind.i64.wrap (1 * 2 ^ min ((k : Int)).toNat 64) = ((2 ^ k : Nat) : Int) := by
 rw [Int.toNat_natCast]
 have key : ∀ k : Fin 9,IntKind.i64.wrap (1 * 2 ^ min k.1 64) = ((2 ^ k.1 : Nat) : Int) := by decide
 exact key ⟨k,by omega⟩
theorem pow_le8 {k : Nat} (h : k ≤ 8) : 2 ^ k ≤ 256 := Nat.le_trans (Nat.pow_le_pow_right (by decide) h) (by decide)
theorem big_sum {most : Nat} {p : List Int × List Int} (hm : most ≤ 1000) (h : bigP most p = false) : p.1.length + p.2.length ≤ most := by
 unfold bigP at h
 by_cases h1 : ((p.1.length : Int) > (most : Int))
 ·simp [h1] at h
 ·by_cases h2 : ((p.2.length : Int) > (most : Int))
  ·simp [h1,h2] at h
  ·have ew : IntKind.i64.wrap ((p.1.length : Int) + (p.2.length : Int)) = ((p.1.length + p.2.length : Nat) : Int) := by rw [w64 (by omega) (by omega)]; omega
   simp only [h1,h2,decide_false,cond_false,ew,decide_eq_false_iff_not] at h
   omega
end Cu
end Go.Proofs.Ytnmlmdlhhphcoaa
namespace Go.Proofs.Ytnmlmdlhhphcoaa
open Go.Abs
namespace Cu
def fst (w : Int) (a : Int × List Int) (v : Int) : Int × List Int := if v = 2 then (a.1,a.2 ++ [a.1]) else if w = 2 then (v,a.2 ++ [v]) else (a.1,a.2 ++ [v])
def fil (w last : Int) (l : List Int) : Int × List Int := l.foldl (fst w) (last,[])
theorem fst_len (w : Int) (a : Int × List Int) (v : Int) : (fst w a v).2.length = a.2.length + 1 := by
 unfold fst; split
 ·simp
 ·split <;> simp
theorem fil_len (w : Int) : ∀ (l : List Int) (a : Int × List Int),(l.foldl (fst w) a).2.length = a.2.length + l.length
 | [],a => by simp
 | v :: l,a => by
  rw [List.foldl_cons,fil_len w l,fst_len]
  simp; omega
theorem scan_fold {A α Y : Type} (F : A → α → A) (E : A → Y) : ∀ (l : List α) (a : A),scan (fun a x => (.inl (F a x) : A ⊕ Y)) E a l = E (l.foldl F a)
 | [],_ => rfl
 | x :: l,a => by unfold scan; exact scan_fold F E l (F a x)
theorem mid_at {d l : List Int} {i : Nat} (hd : d.length = i) (hi : i < l.length) : (d ++ l.drop i)[i]?.getD 0 = l[i] := by
 rw [List.getElem?_append_right (by omega),List.getElem?_drop,hd]
 simp [hi]
theorem mid_set {d l : List Int} {i : Nat} (hd : d.length = i) (hi : i < l.length) (v : Int) : (d ++ l.drop i).set i v = (d ++ [v]) ++ l.drop (i + 1) := by
 rw [List.set_append_right _ _ (by omega),List.drop_eq_getElem_cons hi,show i - d.length = 0 by omega,List.set_cons_zero,List.append_assoc]
 rfl
theorem mid_same {d l : List Int} {i : Nat} (hi : i < l.length) : d ++ l.drop i = (d ++ [l[i]]) ++ l.drop (i + 1) := by
 rw [List.drop_eq_getElem_cons hi,List.append_assoc]
 rfl
theorem fillrun {w last : Int} {xs ys : List Int} (hx : xs.length ≤ 1000000) (hy : ys.length ≤ 1000000) :
  M19.s0 ⟨w,last,xs,ys,0,xs.length,xs.length,0,ys.length,ys.length,0,xs.length,xs.length,0,ys.length,ys.length⟩
  = some ⟨w,(fil w (fil w last xs).1 ys).1,(fil w last xs).2,(fil w (fil w last xs).1 ys).2,0,xs.length,xs.length,0,ys.length,ys.length,0,xs.length,xs.length,0,ys.length,ys.length⟩ := by
 have k0 := iter_scan (step := M19.i0_s0) (fun i (a : Int × List Int) => ⟨(xs.length : Int),(i : Int),w,a.1,a.2 ++ xs.drop i,ys,0,xs.length,xs.length,0,ys.length,ys.length,0,xs.length,xs.length,0,ys.length,ys.length⟩) xs
  (fun a v => .inl (fst w a v)) (fun a => ⟨w,a.1,a.2,ys,0,xs.length,xs.length,0,ys.length,ys.length,0,xs.length,xs.length,0,ys.length,ys.length⟩) (fun i a => a.2.length = i) (fun i hi a ha => by
   have ha : a.2.length = i := ha
   have e1 : ((i : Int) < (xs.length : Int)) := by omega
   have e2 : i < (a.2 ++ xs.drop i).length := by simp; omega
   have e3 := mid_at ha hi
   unfold M19.i0_s0 M19.sb0a fst
   simp only [e1,inR_nat hi,suc (show i < 9000000000000000000 by omega),Int.toNat_natCast,Nat.zero_add,e2,e3,decide_true,cond_true,mid_set ha hi]
   by_cases h2 : xs[i] = 2
   ·simp only [h2,beq_self_eq_true,cond_true,bindO,if_true]
   ·have : (xs[i] == 2) = false := by simpa using h2
    simp only [this,cond_false,h2,if_false]
    by_cases hw : w = 2
    ·subst hw
     simp only [beq_self_eq_true,cond_true,bindO,if_true]
     rw [← mid_same hi]
    ·have : (w == 2) = false := by simpa using hw
     simp only [this,cond_false,hw,if_false,bindO]
     rw [← mid_same hi]) (fun i hi a a' ha hF => by
   have hF : fst w a xs[i] = a' := by injection hF
   have ha : a.2.length = i := ha
   show a'.2.length = i + 1
   rw [← hF,fst_len,ha]) (fun a ha => by
   unfold M19.i0_s0
   simp) (last,[]) rfl
 rw [scan_fold] at k0
 have k0 : iter M19.i0_s0 ⟨(xs.length : Int),0,w,last,xs,ys,0,xs.length,xs.length,0,ys.length,ys.length,0,xs.length,xs.length,0,ys.length,ys.length⟩ = some ⟨w,(fil w last xs).1,(fil w last xs).2,ys,0,xs.length,xs.length,0,ys.length,ys.length,0,xs.length,xs.length,0,ys.length,ys.length⟩ := k0
 generalize fil w last xs = p at k0
 have k1 := iter_scan (step := M19.i0_s1) (fun i (a : Int × List Int) => ⟨(ys.length : Int),(i : Int),w,a.1,p.2,a.2 ++ ys.drop i,0,xs.length,xs.length,0,ys.length,ys.length,0,xs.length,xs.length,0,ys.length,ys.length⟩) ys
  (fun a v => .inl (fst w a v)) (fun a => ⟨w,a.1,p.2,a.2,0,xs.length,xs.length,0,ys.length,ys.length,0,xs.length,xs.length,0,ys.length,ys.length⟩) (fun i a => a.2.length = i) (fun i hi a ha => by
   have ha : a.2.length = i := ha
   have e1 : ((i : Int) < (ys.length : Int)) := by omega
   have e2 : i < (a.2 ++ ys.drop i).length := by simp; omega
   have e3 := mid_at ha hi
   unfold M19.i0_s1 M19.sb0b fst
   simp only [e1,inR_nat hi,suc (show i < 9000000000000000000 by omega),Int.toNat_natCast,Nat.zero_add,e2,e3,decide_true,cond_true,mid_set ha hi]
   by_cases h2 : ys[i] = 2
   ·simp only [h2,beq_self_eq_true,cond_true,bindO,if_true]
   ·have : (ys[i] == 2) = false := by simpa using h2
    simp only [this,cond_false,h2,if_false]
    by_cases hw : w = 2
    ·subst hw
     simp only [beq_self_eq_true,cond_true,bindO,if_true]
     rw [← mid_same hi]
    ·have : (w == 2) = false := by simpa using hw
     simp only [this,cond_false,hw,if_false,bindO]
     rw [← mid_same hi]) (fun i hi a a' ha hF => by
   have hF : fst w a ys[i] = a' := by injection hF
   have ha : a.2.length = i := ha
   show a'.2.length = i + 1
   rw [← hF,fst_len,ha]) (fun a ha => by
   unfold M19.i0_s1
   simp) (p.1,[]) rfl
 rw [scan_fold] at k1
 have k1 : iter M19.i0_s1 ⟨(ys.length : Int),0,w,p.1,p.2,ys,0,xs.length,xs.length,0,ys.length,ys.length,0,xs.length,xs.length,0,ys.length,ys.length⟩ = some ⟨w,(fil w p.1 ys).1,p.2,(fil w p.1 ys).2,0,xs.length,xs.length,0,ys.length,ys.length,0,xs.length,xs.length,0,ys.length,ys.length⟩ := k1
 unfold M19.s0
 simp only [k0,k1,bindO]
def spec1 (l : List Int) : Int := (l.find? fun v => v != 2).getD 0
theorem m40 {l : List Int} (hl : l.length ≤ 2000000) : (∃ i : Nat,∃ h : i < l.length,M40.m ⟨l⟩ = some (i : Int) ∧ l[i] = spec1 l) ∨ (M40.m ⟨l⟩ = some (-1) ∧ spec1 l = 0) := by
 have : ∀ j i,i + j = l.length → (∃ t : Nat,∃ h : t < l.length,iter M40.s0 ⟨l,(l.length : Int),(i : Int)⟩ = some (.inr ⟨(t : Int)⟩) ∧ l[t] = spec1 (l.drop i)) ∨ (iter M40.s0 ⟨l,(l.length : Int),(i : Int)⟩ = some (.inl ⟨⟩) ∧ spec1 (l.drop i) = 0) := by
  intro j
  induction j with
  | zero =>
   intro i hi
   have e : i = l.length := by omega
   subst e
   right
   rw [List.drop_length]
   refine ⟨?_,rfl⟩
   rw [iter_eq]
   have : M40.s0 ⟨l,(l.length : Int),(l.length : Int)⟩ = some (.inr (.inl ⟨⟩)) := by unfold M40.s0; simp
   rw [this]
  | succ j ih =>
   intro i hi
   have hil : i < l.length := by omega
   have e1 : ((i : Int) < (l.length : Int)) := by omega
   have hst : M40.s0 ⟨l,(l.length : Int),(i : Int)⟩ = some (if (l[i] != 2) = true then .inr (.inr ⟨(i : Int)⟩) else .inl ⟨l,(l.length : Int),((i + 1 : Nat) : Int)⟩) := by
    unfold M40.s0 M41.m
    simp only [e1,inR_nat hil,getD_at hil,suc (show i < 9000000000000000000 by omega),decide_true,cond_true,bindO]
    cases (l[i] != 2) <;> rfl
   rw [iter_eq,hst,List.drop_eq_getElem_cons hil]
   cases hP : (l[i] != 2) with
   | true =>
    left
    refine ⟨i,hil,rfl,?_⟩
    unfold spec1
    rw [List.find?_cons,hP]
    rfl
   | false =>
    simp only [Bool.false_eq_true,if_false]
    have e : spec1 (l[i] :: l.drop (i + 1)) = spec1 (l.drop (i + 1)) := by unfold spec1; rw [List.find?_cons,hP]
    rw [e]
    exact ih (i + 1) (by omega)
 unfold M40.m
 have h := this l.length 0 (by omega)
 rw [List.drop_zero] at h
 rcases h with ⟨t,h1,h2,h3⟩ | ⟨h2,h3⟩
 ·have h2 : iter M40.s0 ⟨l,(l.length : Int),0⟩ = _ := h2
  exact .inl ⟨t,h1,by simp only [h2,bindO,sumC],h3⟩
 ·have h2 : iter M40.s0 ⟨l,(l.length : Int),0⟩ = _ := h2
  exact .inr ⟨by simp only [h2,bindO,sumC],h3⟩
def lastOf (w : Int) (l : List Int) : Int := if w = 0 then 0 else if w = 1 then 1 else spec1 l
def flr (i s : List Int) (w : Int) : List Int × List Int × Int := ((fil w (lastOf w (i ++ s)) i).2,(fil w (fil w (lastOf w (i ++ s)) i).1 s).2,0)
theorem m19 {i s : List Int} {w : Int} (hi : i.length ≤ 1000000) (hs : s.length ≤ 1000000) :
  M19.m ⟨i,s,w⟩ = some (if chk i s ≠ 0 then ([],[],chk i s) else if w = 0 ∨ w = 1 ∨ w = 2 then flr i s w else ([],[],1)) := by
 unfold M19.m
 simp only [m29 hi hs,m34 hi hs,m35 hi hs,bindO]
 by_cases hc : chk i s = 0
 ·have hb : (chk i s != 0) = false := by simp [hc]
  have q1 : ∀ last,leB (0 + i.length) (fil w last i).2.length = true := fun last => by
   unfold fil; rw [fil_len]; simp [leB]
  have q2 : ∀ last,leB (0 + s.length) (fil w last s).2.length = true := fun last => by
   unfold fil; rw [fil_len]; simp [leB]
  have t1 : ∀ last,List.take i.length (fil w last i).2 = (fil w last i).2 := fun last => List.take_of_length_le (by unfold fil; rw [fil_len]; simp)
  have t2 : ∀ last,List.take s.length (fil w last s).2 = (fil w last s).2 := fun last => List.take_of_length_le (by unfold fil; rw [fil_len]; simp)
  simp only [hb,cond_false,hc,bne_self_eq_false,ne_eq,not_true,if_false]
  unfold M36o.m
  simp only [bindO,fillrun hi hs,q1,q2,Bool.and_self,cond_true,List.drop_zero,t1,t2]
  by_cases h0 : w = 0
  ·subst h0; rfl
  ·have b0 : (w == 0) = false := by simpa using h0
   simp only [b0,cond_false]
   by_cases h1 : w = 1
   ·subst h1; rfl
   ·have b1 : (w == 1) = false := by simpa using h1
    simp only [b1,cond_false]
    by_cases h2 : w = 2
    ·subst h2
     simp only [beq_self_eq_true,cond_true]
     have hl : lastOf 2 (i ++ s) = spec1 (i ++ s) := rfl
     rcases m40 (l := i ++ s) (by simp; omega) with ⟨t,g1,g2,g3⟩ | ⟨g2,g3⟩
     ·have ge : ((t : Int) ≥ 0) := by omega
      simp only [g2,ge,decide_true,cond_true,inR_nat g1,getD_at g1,g3]
      simp [flr,hl]
     ·simp only [g2,show decide ((-1 : Int) ≥ 0) = false from rfl,cond_false]
      simp [flr,hl,g3]
    ·have b2 : (w == 2) = false := by simpa using h2
     simp only [b2,cond_false,h0,h1,h2,or_self,if_false]
 ·have hb : (chk i s != 0) = true := by simpa using hc
  simp only [hb,cond_true,hc,ne_eq,not_false_eq_true,if_true]
def cares (l : List Int) : Nat := l.countP fun v => v != 2
theorem cares_le (l : List Int) : cares l ≤ l.length := List.countP_le_length
theorem cares_snoc (l : List Int) (k : Nat) (h : k < l.length) : cares (l.take (k + 1)) = cares (l.take k) + (if (l[k] != 2) = true then 1 else 0) := by
 unfold cares
 rw [List.take_succ_eq_append_getElem h,List.countP_append,List.countP_cons,List.countP_nil]
 simp
theorem m22 {i s : List Int} (hi : i.length ≤ 1000000) (hs : s.length ≤ 1000000) : M22.m ⟨i,s⟩ = some (if chk i s ≠ 0 then 0 else ((cares i + cares s : Nat) : Int)) := by
 have c1 : ∀ (l : List Int) (k : Nat),cares (l.take k) ≤ l.length := fun l k => Nat.le_trans (cares_le _) (by simp; omega)
 unfold M22.m
 simp only [m29 hi hs,bindO]
 by_cases hc : chk i s = 0
 ·have hb : (chk i s != 0) = false := by simp [hc]
  simp only [hb,cond_false,hc,bne_self_eq_false,ne_eq,not_true,if_false]
  unfold M36.m
  simp only [bindO]
  have k0 := iter_scan (step := M22.i0_s0) (fun k (_ : Unit) => ⟨(i.length : Int),(k : Int),(cares (i.take k) : Int),i,s⟩) i (fun _ _ => .inl ()) (fun _ => ⟨(cares i : Int),i,s⟩) (fun _ _ => True) (fun k hk _ _ => by
   have e1 : ((k : Int) < (i.length : Int)) := by omega
   have := c1 i k
   have ew : IntKind.i64.wrap ((cares (i.take k) : Int) + 1) = ((cares (i.take k) + 1 : Nat) : Int) := by rw [w64 (by omega) (by omega)]; omega
   unfold M22.i0_s0 M22.sb0
   simp only [e1,inR_nat hk,getD_at hk,suc (show k < 9000000000000000000 by omega),decide_true,cond_true,cares_snoc i k hk,ew]
   cases (i[k] != 2) <;> simp [bindO]) (fun _ _ _ _ _ _ => trivial) (fun _ _ => by unfold M22.i0_s0; simp) () trivial
  rw [scan_unit] at k0
  have k0 : iter M22.i0_s0 ⟨(i.length : Int),0,0,i,s⟩ = _ := k0
  have k1 := iter_scan (step := M22.i0_s1) (fun k (_ : Unit) => ⟨(s.length : Int),(k : Int),((cares i + cares (s.take k) : Nat) : Int),i,s⟩) s (fun _ _ => .inl ()) (fun _ => ⟨((cares i + cares s : Nat) : Int),i,s⟩) (fun _ _ => True) (fun k hk _ _ => by
   have e1 : ((k : Int) < (s.length : Int)) := by omega
   have := c1 s k
   have := cares_le i
   have ew : IntKind.i64.wrap (((cares i + cares (s.take k) : Nat) : Int) + 1) = ((cares i + (cares (s.take k) + 1) : Nat) : Int) := by rw [w64 (by omega) (by omega)]; omega
   unfold M22.i0_s1 M22.sb0
   simp only [e1,inR_nat hk,getD_at hk,suc (show k < 9000000000000000000 by omega),decide_true,cond_true,cares_snoc s k hk,ew]
   cases (s[k] != 2) <;> simp [bindO]) (fun _ _ _ _ _ _ => trivial) (fun _ _ => by unfold M22.i0_s1; simp) () trivial
  rw [scan_unit] at k1
  have k1 : iter M22.i0_s1 ⟨(s.length : Int),0,(cares i : Int),i,s⟩ = _ := k1
  unfold M22.s0
  simp only [k0,k1,bindO]
 ·have hb : (chk i s != 0) = true := by simpa using hc
  simp only [hb,cond_true,hc,ne_eq,not_false_eq_true,if_true]
def outP (n : Nat) (p : Int) : Bool := decide (p < 0) || decide (p ≥ (n : Int))
theorem m43 {p : Int} {i s : List Int} (hi : i.length ≤ 1000000) (hs : s.length ≤ 1000000) : M43.m ⟨p,i,s⟩ = some (outP (i.length + s.length) p,i,s) := by
 have ew : IntKind.i64.wrap ((i.length : Int) + (s.length : Int)) = ((i.length + s.length : Nat) : Int) := by rw [w64 (by omega) (by omega)]; omega
 unfold M43.m outP
 rw [ew]
 by_cases h : p < 0 <;> simp [h]
theorem m42 {l i s : List Int} (hl : l.length ≤ 1000000) (hi : i.length ≤ 1000000) (hs : s.length ≤ 1000000) : M42.m ⟨l,i,s⟩ = some (l.any (outP (i.length + s.length)),i,s) := by
 have key : (l.any (outP (i.length + s.length)) = true ∧ ∃ r : Int,0 ≤ r ∧ M51.m ⟨l,i,s⟩ = some (r,i,s)) ∨ (l.any (outP (i.length + s.length)) = false ∧ M51.m ⟨l,i,s⟩ = some (-1,i,s)) := by
  have h := iter_any (step := M51.s0) (fun k => ⟨l,(l.length : Int),(k : Int),i,s⟩) l (outP (i.length + s.length)) (fun k => .inr ⟨(k : Int),i,s⟩) (y := .inl ⟨i,s⟩) (fun k hk => by
   have e1 : ((k : Int) < (l.length : Int)) := by omega
   unfold M51.s0
   simp only [e1,inR_nat hk,getD_at hk,m43 hi hs,suc (show k < 9000000000000000000 by omega),decide_true,cond_true,bindO]
   cases outP (i.length + s.length) l[k] <;> rfl) (by unfold M51.s0; simp)
  unfold M51.m
  rcases h with ⟨h1,t,h2⟩ | ⟨h1,h2⟩
  ·have h2 : iter M51.s0 ⟨l,(l.length : Int),0,i,s⟩ = _ := h2
   exact .inl ⟨h1,(t : Int),by omega,by simp only [h2,bindO,sumC]⟩
  ·have h2 : iter M51.s0 ⟨l,(l.length : Int),0,i,s⟩ = _ := h2
   exact .inr ⟨h1,by simp only [h2,bindO,sumC]⟩
 unfold M42.m
 rcases key with ⟨h1,r,h0,h2⟩ | ⟨h1,h2⟩
 ·simp only [h2,bindO,h1,ge_iff_le,h0,decide_true]
 ·simp only [h2,bindO,h1]; rfl
theorem m42o {l i s : List Int} (hl : l.length ≤ 1000000) (hi : i.length ≤ 1000000) (hs : s.length ≤ 1000000) : M42o.m ⟨0,l.length,l,i,s⟩ = some (l.any (outP (i.length + s.length)),l,i,s) := by
 have key : (l.any (outP (i.length + s.length)) = true ∧ ∃ r : Int,0 ≤ r ∧ M51o.m ⟨0,l.length,l,i,s⟩ = some (r,l,i,s)) ∨ (l.any (outP (i.length + s.length)) = false ∧ M51o.m ⟨0,l.length,l,i,s⟩ = some (-1,l,i,s)) := by
  have h := iter_any (step := M51o.s0) (fun k => ⟨0,l.length,(l.length : Int),(k : Int),l,i,s⟩) l (outP (i.length + s.length)) (fun k => .inr ⟨(k : Int),l,i,s⟩) (y := .inl ⟨l,i,s⟩) (fun k hk => by
   have e1 : ((k : Int) < (l.length : Int)) := by omega
   have e2 : l[k]?.getD 0 = l[k] := by simp [hk]
   unfold M51o.s0
   simp only [e1,inR_nat hk,Int.toNat_natCast,Nat.zero_add,hk,e2,m43 hi hs,suc (show k < 9000000000000000000 by omega),decide_true,cond_true,bindO]
   cases outP (i.length + s.length) l[k] <;> rfl) (by unfold M51o.s0; simp)
  unfold M51o.m
  rcases h with ⟨h1,t,h2⟩ | ⟨h1,h2⟩
  ·have h2 : iter M51o.s0 ⟨0,l.length,(l.length : Int),0,l,i,s⟩ = _ := h2
   exact .inl ⟨h1,(t : Int),by omega,by simp only [h2,bindO,sumC]⟩
  ·have h2 : iter M51o.s0 ⟨0,l.length,(l.length : Int),0,l,i,s⟩ = _ := h2
   exact .inr ⟨h1,by simp only [h2,bindO,sumC]⟩
 unfold M42o.m
 rcases key with ⟨h1,r,h0,h2⟩ | ⟨h1,h2⟩
 ·simp only [h2,bindO,h1,ge_iff_le,h0,decide_true]
 ·simp only [h2,bindO,h1]; rfl
def rst (n : Nat) (a : List Int × List Int) (p : Int) : List Int × List Int := if p < (n : Int) then (a.1.set p.toNat 2,a.2) else (a.1,a.2.set (p - (n : Int)).toNat 2)
theorem rst_len (n : Nat) (a : List Int × List Int) (p : Int) : (rst n a p).1.length = a.1.length ∧ (rst n a p).2.length = a.2.length := by
 unfold rst; split <;> simp
theorem rfold_len (n : Nat) : ∀ (l : List Int) (a : List Int × List Int),(l.foldl (rst n) a).1.length = a.1.length ∧ (l.foldl (rst n) a).2.length = a.2.length
 | [],a => ⟨rfl,rfl⟩
 | p :: l,a => by
  rw [List.foldl_cons]
  have h1 := rfold_len n l (rst n a p)
  have h2 := rst_len n a p
  exact ⟨h1.1.trans h2.1,h1.2.trans h2.2⟩
def rlx (i s l : List Int) : List Int × List Int := l.foldl (rst i.length) (i,s)
theorem in_of {n : Nat} {p : Int} (h : outP n p = false) : 0 ≤ p ∧ p < (n : Int) := by
 unfold outP at h
 simp only [Bool.or_eq_false_iff,decide_eq_false_iff_not] at h
 omega
theorem m23 {i s l : List Int} (hi : i.length ≤ 1000000) (hs : s.length ≤ 1000000) (hl : l.length ≤ 1000000) :
  M23.m ⟨i,s,l⟩ = some (if chk i s ≠ 0 then ([],[],chk i s) else if l.any (outP (i.length + s.length)) = true then ([],[],1) else ((rlx i s l).1,(rlx i s l).2,0)) := by
 unfold M23.m
 simp only [m29 hi hs,m42 hl hi hs,m34 hi hs,bindO]
 by_cases hc : chk i s = 0
 ·have hb : (chk i s != 0) = false := by simp [hc]
  simp only [hb,cond_false,hc,bne_self_eq_false,ne_eq,not_true,if_false]
  cases ha : l.any (outP (i.length + s.length)) with
  | true => rfl
  | false =>
   have hin := List.any_eq_false.1 ha
   simp only [cond_false,Bool.false_eq_true,if_false]
   have k0 := iter_scan (step := M23.s0) (fun k (a : List Int × List Int) => ⟨l,(l.length : Int),(k : Int),i,s,a.1,a.2,0,i.length,i.length,0,s.length,s.length⟩) l (fun a p => .inl (rst i.length a p)) (fun a => ⟨i,s,a.1,a.2,0,i.length,i.length,0,s.length,s.length⟩)
    (fun _ a => a.1.length = i.length ∧ a.2.length = s.length) (fun k hk a h => by
     obtain ⟨g1,g2⟩ := h
     have e1 : ((k : Int) < (l.length : Int)) := by omega
     obtain ⟨p1,p2⟩ := in_of (by simpa using hin l[k] (List.getElem_mem hk))
     unfold M23.s0 rst
     simp only [e1,inR_nat hk,getD_at hk,suc (show k < 9000000000000000000 by omega),decide_true,cond_true,Nat.zero_add]
     by_cases hp : l[k] < (i.length : Int)
     ·have r1 : inR l[k] i.length = true := by simp [inR]; omega
      have r2 : l[k].toNat < a.1.length := by omega
      simp only [hp,r1,r2,decide_true,cond_true,if_true]
     ·have ew : IntKind.i64.wrap (l[k] - (i.length : Int)) = l[k] - (i.length : Int) := w64 (by omega) (by omega)
      have r1 : inR (l[k] - (i.length : Int)) s.length = true := by simp [inR]; omega
      have r2 : (l[k] - (i.length : Int)).toNat < a.2.length := by omega
      simp only [hp,ew,r1,r2,decide_true,decide_false,cond_true,cond_false,if_false]) (fun k hk a a' h hF => by
     have hF : rst i.length a l[k] = a' := by injection hF
     rw [← hF]
     exact ⟨(rst_len _ _ _).1.trans h.1,(rst_len _ _ _).2.trans h.2⟩) (fun a h => by unfold M23.s0; simp) (i,s) ⟨rfl,rfl⟩
   rw [scan_fold] at k0
   have k0 : iter M23.s0 ⟨l,(l.length : Int),0,i,s,i,s,0,i.length,i.length,0,s.length,s.length⟩ = some ⟨i,s,(rlx i s l).1,(rlx i s l).2,0,i.length,i.length,0,s.length,s.length⟩ := k0
   obtain ⟨z1,z2⟩ : (rlx i s l).1.length = i.length ∧ (rlx i s l).2.length = s.length := rfold_len i.length l (i,s)
   have q1 : leB (0 + i.length) (rlx i s l).1.length = true := by rw [z1]; simp [leB]
   have q2 : leB (0 + s.length) (rlx i s l).2.length = true := by rw [z2]; simp [leB]
   simp only [k0,q1,q2,Bool.and_self,cond_true,List.drop_zero]
   rw [List.take_of_length_le (by omega),List.take_of_length_le (by omega)]
 ·have hb : (chk i s != 0) = true := by simpa using hc
  simp only [hb,cond_true,hc,ne_eq,not_false_eq_true,if_true]
theorem m23o {i s l : List Int} (hi : i.length ≤ 1000000) (hs : s.length ≤ 1000000) (hl : l.length ≤ 1000000) :
  M23o.m ⟨i,s,0,l.length,l⟩ = some (if chk i s ≠ 0 then ([],[],chk i s,l) else if l.any (outP (i.length + s.length)) = true then ([],[],1,l) else ((rlx i s l).1,(rlx i s l).2,0,l)) := by
 unfold M23o.m
 simp only [m29 hi hs,m42o hl hi hs,m34 hi hs,bindO]
 by_cases hc : chk i s = 0
 ·have hb : (chk i s != 0) = false := by simp [hc]
  simp only [hb,cond_false,hc,bne_self_eq_false,ne_eq,not_true,if_false]
  cases ha : l.any (outP (i.length + s.length)) with
  | true => rfl
  | false =>
   have hin := List.any_eq_false.1 ha
   simp only [cond_false,Bool.false_eq_true,if_false]
   have k0 := iter_scan (step := M23o.s0) (fun k (a : List Int × List Int) => ⟨0,l.length,(l.length : Int),(k : Int),l,i,s,a.1,a.2,0,i.length,i.length,0,s.length,s.length⟩) l (fun a p => .inl (rst i.length a p)) (fun a => ⟨l,i,s,a.1,a.2,0,i.length,i.length,0,s.length,s.length⟩)
    (fun _ a => a.1.length = i.length ∧ a.2.length = s.length) (fun k hk a h => by
     obtain ⟨g1,g2⟩ := h
     have e1 : ((k : Int) < (l.length : Int)) := by omega
     have e2 : l[k]?.getD 0 = l[k] := by simp [hk]
     obtain ⟨p1,p2⟩ := in_of (by simpa using hin l[k] (List.getElem_mem hk))
     unfold M23o.s0 rst
     simp only [e1,inR_nat hk,Int.toNat_natCast,Nat.zero_add,hk,e2,suc (show k < 9000000000000000000 by omega),decide_true,cond_true]
     by_cases hp : l[k] < (i.length : Int)
     ·have r1 : inR l[k] i.length = true := by simp [inR]; omega
      have r2 : l[k].toNat < a.1.length := by omega
      simp only [hp,r1,r2,decide_true,cond_true,if_true]
     ·have ew : IntKind.i64.wrap (l[k] - (i.length : Int)) = l[k] - (i.length : Int) := w64 (by omega) (by omega)
      have r1 : inR (l[k] - (i.length : Int)) s.length = true := by simp [inR]; omega
      have r2 : (l[k] - (i.length : Int)).toNat < a.2.length := by omega
      simp only [hp,ew,r1,r2,decide_true,decide_false,cond_true,cond_false,if_false]) (fun k hk a a' h hF => by
     have hF : rst i.length a l[k] = a' := by injection hF
     rw [← hF]
     exact ⟨(rst_len _ _ _).1.trans h.1,(rst_len _ _ _).2.trans h.2⟩) (fun a h => by unfold M23o.s0; simp) (i,s) ⟨rfl,rfl⟩
   rw [scan_fold] at k0
   have k0 : iter M23o.s0 ⟨0,l.length,(l.length : Int),0,l,i,s,i,s,0,i.length,i.length,0,s.length,s.length⟩ = some ⟨l,i,s,(rlx i s l).1,(rlx i s l).2,0,i.length,i.length,0,s.length,s.length⟩ := k0
   obtain ⟨z1,z2⟩ : (rlx i s l).1.length = i.length ∧ (rlx i s l).2.length = s.length := rfold_len i.length l (i,s)
   have q1 : leB (0 + i.length) (rlx i s l).1.length = true := by rw [z1]; simp [leB]
   have q2 : leB (0 + s.length) (rlx i s l).2.length = true := by rw [z2]; simp [leB]
   simp only [k0,q1,q2,Bool.and_self,cond_true,List.drop_zero]
   rw [List.take_of_length_le (by omega),List.take_of_length_le (by omega)]
 ·have hb : (chk i s != 0) = true := by simpa using hc
  simp only [hb,cond_true,hc,ne_eq,not_false_eq_true,if_true]
end Cu
end Go.Proofs.Ytnmlmdlhhphcoaa
namespace Go.Proofs.Ytnmlmdlhhphcoaa
open Go.Abs
namespace Cu
def opn (l : List Int) : Nat := l.countP fun v => v == 2
theorem opn_cares (l : List Int) : cares l + opn l = l.length := by
 unfold cares opn
 induction l with
 | nil => rfl
 | cons v l ih =>
  rw [List.countP_cons,List.countP_cons,List.length_cons]
  have a : (if (v != 2) = true then 1 else 0) + (if (v == 2) = true then 1 else 0) = 1 := by by_cases h : v = 2 <;> simp [h]
  omega
theorem opn_le (l : List Int) : opn l ≤ l.length := List.countP_le_length
theorem opn_cons (v : Int) (l : List Int) : opn (v :: l) = (if v = 2 then 1 else 0) + opn l := by
 unfold opn
 rw [List.countP_cons]
 by_cases h : v = 2 <;> simp [h] <;> omega
theorem opn_app (a b : List Int) : opn (a ++ b) = opn a + opn b := by unfold opn; rw [List.countP_append]
def cfo (n : Nat) (z : Nat) : List Int → List Int
 | [] => []
 | v :: l => (if v = 2 then ((n / 2 ^ (opn l + z) % 2 : Nat) : Int) else v) :: cfo n z l
theorem cfo_len (n z : Nat) : ∀ l,(cfo n z l).length = l.length
 | [] => rfl
 | v :: l => by rw [cfo,List.length_cons,List.length_cons,cfo_len n z l]
theorem cfo_get (n z : Nat) : ∀ (l : List Int) (k : Nat) (h : k < l.length),(cfo n z l)[k]'(by rw [cfo_len]; exact h) = if l[k] = 2 then ((n / 2 ^ (opn (l.drop (k + 1)) + z) % 2 : Nat) : Int) else l[k]
 | [],_,h => by simp at h
 | v :: l,0,_ => rfl
 | v :: l,k + 1,h => by
  have := cfo_get n z l k (by simpa using h)
  simpa [cfo] using this
theorem cfo_app (n z : Nat) : ∀ (a b : List Int),cfo n z (a ++ b) = cfo n (opn b + z) a ++ cfo n z b
 | [],b => rfl
 | v :: a,b => by
  rw [List.cons_append,cfo,cfo,cfo_app n z a b,opn_app,List.cons_append]
  congr 3
  rw [Nat.add_assoc]
theorem bit_w {n k : Nat} (hk : k ≤ 60) : IntKind.u8.wrap (IntKind.i64.wrap (((BitVec.ofInt 64 ((n : Int).fdiv (2 ^ min k 64)) &&& BitVec.ofInt 64 1).toNat : Nat) : Int)) = ((n / 2 ^ k % 2 : Nat) : Int) := by
 rw [Nat.min_eq_left (by omega)]
 have e : ((2 : Int) ^ k) = ((2 ^ k : Nat) : Int) := by simp
 rw [e,Int.fdiv_eq_ediv_of_nonneg _ (Int.natCast_nonneg _),← Int.natCast_ediv]
 generalize n / 2 ^ k = q
 have h1 : (BitVec.ofInt 64 (q : Int) &&& BitVec.ofInt 64 1).toNat = q % 2 := by
  have e1 : BitVec.ofInt 64 (q : Int) = BitVec.ofNat 64 q := by
   apply BitVec.eq_of_toNat_eq
   simp
  have e2 : BitVec.ofInt 64 1 = BitVec.ofNat 64 1 := by decide
  rw [e1,e2,BitVec.toNat_and,BitVec.toNat_ofNat,BitVec.toNat_ofNat,Nat.mod_eq_of_lt (show 1 < 2 ^ 64 by decide),Nat.and_one_is_mod]
  omega
 rw [h1]
 have hq : q % 2 = 0 ∨ q % 2 = 1 := by omega
 rcases hq with hq | hq <;> rw [hq] <;> rfl
theorem drop_opn {l : List Int} {k : Nat} (h : k < l.length) : opn (l.drop k) = (if l[k] = 2 then 1 else 0) + opn (l.drop (k + 1)) := by
 rw [List.drop_eq_getElem_cons h,opn_cons]
def mid (n z : Nat) (l : List Int) (k : Nat) : List Int := (cfo n z l).take k ++ l.drop k
theorem mid_tk {n z : Nat} {l : List Int} {k : Nat} (h : k ≤ l.length) : ((cfo n z l).take k).length = k := by rw [List.length_take,cfo_len]; omega
theorem mid_len {n z : Nat} {l : List Int} {k : Nat} (h : k ≤ l.length) : (mid n z l k).length = l.length := by
 unfold mid
 rw [List.length_append,mid_tk h,List.length_drop]
 omega
theorem mid_get {n z : Nat} {l : List Int} {k : Nat} (h : k < l.length) : (mid n z l k)[k]?.getD 0 = l[k] := mid_at (mid_tk (by omega)) h
theorem mid_two {n z : Nat} {l : List Int} {k : Nat} (h : k < l.length) (h2 : l[k] = 2) : (mid n z l k).set k (((n / 2 ^ (opn (l.drop (k + 1)) + z) % 2 : Nat) : Int)) = mid n z l (k + 1) := by
 unfold mid
 rw [mid_set (mid_tk (by omega)) h,List.take_succ_eq_append_getElem (by rw [cfo_len]; exact h),cfo_get n z l k h,if_pos h2]
theorem mid_one {n z : Nat} {l : List Int} {k : Nat} (h : k < l.length) (h2 : l[k] ≠ 2) : mid n z l k = mid n z l (k + 1) := by
 unfold mid
 rw [mid_same h,List.take_succ_eq_append_getElem (by rw [cfo_len]; exact h),cfo_get n z l k h,if_neg h2]
theorem mid_0 (n z : Nat) (l : List Int) : mid n z l 0 = l := by simp [mid]
theorem mid_end (n z : Nat) (l : List Int) : mid n z l l.length = cfo n z l := by
 unfold mid
 rw [List.take_of_length_le (by rw [cfo_len]; omega),List.drop_length,List.append_nil]
theorem s1_run30 {op : Int} {ol oc : Nat} {N i1 : Int} {pi ps : List Int} {out outr : List (List Int × List Int)} {n : Nat} {xs ys : List Int} (h : xs.length + ys.length ≤ 40) :
  M30.s1 { opn := op,out_lo := 0,out_len := ol,out_cap := oc,n := N,i := i1,pi := pi,ps := ps,out := out,x_lo := 0,x_len := xs.length,x_cap := xs.length,y_lo := 0,y_len := ys.length,y_cap := ys.length,out_r := outr,nn := n,xs := xs,ys := ys,left := ((opn xs + opn ys : Nat) : Int),bi_lo := 0,bi_len := xs.length,bi_cap := xs.length,bs_lo := 0,bs_len := ys.length,bs_cap := ys.length }
  = some { opn := op,out_lo := 0,out_len := ol,out_cap := oc,n := N,i := i1,pi := pi,ps := ps,out := out,x_lo := 0,x_len := xs.length,x_cap := xs.length,y_lo := 0,y_len := ys.length,y_cap := ys.length,out_r := outr,nn := n,xs := cfo n (opn ys) xs,ys := cfo n 0 ys,left := 0,bi_lo := 0,bi_len := xs.length,bi_cap := xs.length,bs_lo := 0,bs_len := ys.length,bs_cap := ys.length } := by
 have hle : ∀ (l : List Int) (k : Nat),opn (l.drop k) ≤ l.length := fun l k => Nat.le_trans (opn_le _) (by simp)
 have k0 := iter_scan (step := M30.i1_s0) (fun k (_ : Unit) => { n := (xs.length : Int),i := (k : Int),opn := op,out_lo := 0,out_len := ol,out_cap := oc,n2 := N,i2 := i1,pi := pi,ps := ps,out := out,x_lo := 0,x_len := xs.length,x_cap := xs.length,y_lo := 0,y_len := ys.length,y_cap := ys.length,out_r := outr,nn := (n : Int),xs := mid n (opn ys) xs k,ys := ys,left := ((opn (xs.drop k) + opn ys : Nat) : Int),bi_lo := 0,bi_len := xs.length,bi_cap := xs.length,bs_lo := 0,bs_len := ys.length,bs_cap := ys.length }) xs (fun _ _ => .inl ())
  (fun _ => { opn := op,out_lo := 0,out_len := ol,out_cap := oc,n := N,i := i1,pi := pi,ps := ps,out := out,x_lo := 0,x_len := xs.length,x_cap := xs.length,y_lo := 0,y_len := ys.length,y_cap := ys.length,out_r := outr,nn := (n : Int),xs := cfo n (opn ys) xs,ys := ys,left := ((opn ys : Nat) : Int),bi_lo := 0,bi_len := xs.length,bi_cap := xs.length,bs_lo := 0,bs_len := ys.length,bs_cap := ys.length }) (fun _ _ => True) (fun k hk _ _ => by
  have e1 : ((k : Int) < (xs.length : Int)) := by omega
  have e2 : k < (mid n (opn ys) xs k).length := by rw [mid_len (by omega)]; exact hk
  have h1 := hle xs (k + 1)
  have h2 := opn_le ys
  unfold M30.i1_s0 M30.sb1a
  simp only [e1,inR_nat hk,suc (show k < 9000000000000000000 by omega),Int.toNat_natCast,Nat.zero_add,e2,mid_get hk,decide_true,cond_true]
  by_cases hv : xs[k] = 2
  ·have ed : opn (xs.drop k) + opn ys = (opn (xs.drop (k + 1)) + opn ys) + 1 := by rw [drop_opn hk,if_pos hv]; omega
   have ew : IntKind.i64.wrap (((opn (xs.drop k) + opn ys : Nat) : Int) - 1) = ((opn (xs.drop (k + 1)) + opn ys : Nat) : Int) := by rw [ed,w64 (by omega) (by omega)]; omega
   have e0 : (0 : Int) ≤ ((opn (xs.drop (k + 1)) + opn ys : Nat) : Int) := by omega
   simp only [hv,beq_self_eq_true,cond_true,ew,e0,decide_true,Int.toNat_natCast,bindO,bit_w (show opn (xs.drop (k + 1)) + opn ys ≤ 60 by omega),mid_two hk hv]
  ·have hb : (xs[k] == 2) = false := by simpa using hv
   have ed : opn (xs.drop k) = opn (xs.drop (k + 1)) := by rw [drop_opn hk,if_neg hv]; omega
   simp only [hb,cond_false,bindO,ed]
   rw [mid_one hk hv]) (fun _ _ _ _ _ _ => trivial) (fun _ _ => by
  unfold M30.i1_s0
  simp [mid_end,opn]) () trivial
 rw [scan_unit] at k0
 simp only [mid_0,List.drop_zero] at k0
 have k1 := iter_scan (step := M30.i1_s1) (fun k (_ : Unit) => { n2 := (ys.length : Int),i2 := (k : Int),opn := op,out_lo := 0,out_len := ol,out_cap := oc,n := N,i := i1,pi := pi,ps := ps,out := out,x_lo := 0,x_len := xs.length,x_cap := xs.length,y_lo := 0,y_len := ys.length,y_cap := ys.length,out_r := outr,nn := (n : Int),xs := cfo n (opn ys) xs,ys := mid n 0 ys k,left := ((opn (ys.drop k) + 0 : Nat) : Int),bi_lo := 0,bi_len := xs.length,bi_cap := xs.length,bs_lo := 0,bs_len := ys.length,bs_cap := ys.length }) ys (fun _ _ => .inl ())
  (fun _ => { opn := op,out_lo := 0,out_len := ol,out_cap := oc,n := N,i := i1,pi := pi,ps := ps,out := out,x_lo := 0,x_len := xs.length,x_cap := xs.length,y_lo := 0,y_len := ys.length,y_cap := ys.length,out_r := outr,nn := (n : Int),xs := cfo n (opn ys) xs,ys := cfo n 0 ys,left := 0,bi_lo := 0,bi_len := xs.length,bi_cap := xs.length,bs_lo := 0,bs_len := ys.length,bs_cap := ys.length }) (fun _ _ => True) (fun k hk _ _ => by
  have e1 : ((k : Int) < (ys.length : Int)) := by omega
  have e2 : k < (mid n 0 ys k).length := by rw [mid_len (by omega)]; exact hk
  have h1 := hle ys (k + 1)
  unfold M30.i1_s1 M30.sb1b
  simp only [e1,inR_nat hk,suc (show k < 9000000000000000000 by omega),Int.toNat_natCast,Nat.zero_add,e2,mid_get hk,decide_true,cond_true]
  by_cases hv : ys[k] = 2
  ·have ed : opn (ys.drop k) + 0 = (opn (ys.drop (k + 1)) + 0) + 1 := by rw [drop_opn hk,if_pos hv]; omega
   have ew : IntKind.i64.wrap (((opn (ys.drop k) + 0 : Nat) : Int) - 1) = ((opn (ys.drop (k + 1)) + 0 : Nat) : Int) := by rw [ed,w64 (by omega) (by omega)]; omega
   have e0 : (0 : Int) ≤ ((opn (ys.drop (k + 1)) + 0 : Nat) : Int) := by omega
   simp only [hv,beq_self_eq_true,cond_true,ew,e0,decide_true,Int.toNat_natCast,bindO,bit_w (show opn (ys.drop (k + 1)) + 0 ≤ 60 by omega),mid_two hk hv]
  ·have hb : (ys[k] == 2) = false := by simpa using hv
   have ed : opn (ys.drop k) = opn (ys.drop (k + 1)) := by rw [drop_opn hk,if_neg hv]; omega
   simp only [hb,cond_false,bindO,ed]
   rw [mid_one hk hv]) (fun _ _ _ _ _ _ => trivial) (fun _ _ => by
  unfold M30.i1_s1
  simp [mid_end,opn]) () trivial
 rw [scan_unit] at k1
 simp only [mid_0,List.drop_zero,Nat.add_zero] at k1
 unfold M30.s1
 simp only [Int.ofNat_zero,Int.natCast_zero] at k0 k1
 simp only [k0,k1,bindO]
def cpt (i s : List Int) (n : Nat) : List Int × List Int := (cfo n (opn s) i,cfo n 0 s)
def outs (i s : List Int) (k : Nat) : List (List Int × List Int) := (List.range k).map (cpt i s) ++ List.replicate (2 ^ (opn i + opn s) - k) ([],[])
theorem m30 {i s : List Int} (h1 : Vs i) (h2 : Vs s) (h : i.length + s.length ≤ 8) : M30.m ⟨i,s⟩ = some ((List.range (2 ^ (opn i + opn s))).map (cpt i s),0) := by
 have ho1 := opn_cares i
 have ho2 := opn_cares s
 have hK : opn i + opn s ≤ 8 := by omega
 have hp := pow_le8 hK
 have ew : IntKind.i64.wrap (IntKind.i64.wrap ((i.length : Int) + (s.length : Int)) - ((cares i + cares s : Nat) : Int)) = ((opn i + opn s : Nat) : Int) := by
  rw [w64 (x := (i.length : Int) + (s.length : Int)) (by omega) (by omega),w64 (by omega) (by omega)]; omega
 have g0 : (0 : Int) ≤ ((opn i + opn s : Nat) : Int) := by omega
 have g1 : ¬ (((opn i + opn s : Nat) : Int) > 12) := by omega
 have g2 : (decide (0 ≤ ((2 ^ (opn i + opn s) : Nat) : Int)) && decide (((2 ^ (opn i + opn s) : Nat) : Int) ≤ ((2 ^ (opn i + opn s) : Nat) : Int)) && decide (((2 ^ (opn i + opn s) : Nat) : Int) * 48 ≤ 281474976710656) && decide (((2 ^ (opn i + opn s) : Nat) : Int) ≤ 9223372036854775807)) = true := by
  generalize 2 ^ (opn i + opn s) = q at *
  simp; omega
 unfold M30.m
 simp only [m29 (show i.length ≤ 1000000 by omega) (show s.length ≤ 1000000 by omega),chk_V h1 h2 (show i.length + s.length ≤ 16384 by omega),m22 (show i.length ≤ 1000000 by omega) (show s.length ≤ 1000000 by omega),ne_eq,not_true,if_false,bne_self_eq_false,cond_false,bindO,ew,g0,g1,decide_true,decide_false,cond_true,pow_w hK]
 have g3 : ((48 : Nat) : Int) = 48 := rfl
 simp only [g3,g2,cond_true,Int.toNat_natCast]
 have key := iter_scan (step := M30.s0) (fun k (_ : Unit) => { opn := ((opn i + opn s : Nat) : Int),out_lo := 0,out_len := 2 ^ (opn i + opn s),out_cap := 2 ^ (opn i + opn s),n := ((2 ^ (opn i + opn s) : Nat) : Int),i := (k : Int),pi := i,ps := s,out := outs i s k }) (List.range (2 ^ (opn i + opn s))) (fun _ _ => .inl ())
  (fun _ => { out_lo := 0,out_len := 2 ^ (opn i + opn s),out_cap := 2 ^ (opn i + opn s),pi := i,ps := s,out := (List.range (2 ^ (opn i + opn s))).map (cpt i s) }) (fun _ _ => True) (fun k hk _ _ => by
  have hk : k < 2 ^ (opn i + opn s) := by simpa using hk
  have e1 : ((k : Int) < ((2 ^ (opn i + opn s) : Nat) : Int)) := by omega
  have hlen : (outs i s k).length = 2 ^ (opn i + opn s) := by unfold outs; simp; omega
  have e2 : k < (outs i s k).length := by rw [hlen]; exact hk
  have htk : List.take k (outs i s k) = (List.range k).map (cpt i s) := by
   unfold outs
   rw [List.take_append_of_le_length (by simp),List.take_of_length_le (by simp)]
  have hdr : List.drop (k + 1) (outs i s k) = List.replicate (2 ^ (opn i + opn s) - (k + 1)) ([],[]) := by
   unfold outs
   rw [List.drop_append,List.drop_of_length_le (by simp),List.nil_append,List.length_map,List.length_range,List.drop_replicate]
   congr 1
   omega
  have e3 : eqN k ((List.range k).map (cpt i s)).length = true := by simp [eqN]
  have e4 : leB (0 + i.length) (cfo k (opn s) i).length = true := by rw [cfo_len]; simp [leB]
  have e5 : leB (0 + s.length) (cfo k 0 s).length = true := by rw [cfo_len]; simp [leB]
  unfold M30.s0
  simp only [m34 (show i.length ≤ 1000000 by omega) (show s.length ≤ 1000000 by omega),bindO,inR_nat hk,e1,e2,decide_true,cond_true,Int.toNat_natCast,Nat.zero_add,htk,e3,hdr]
  unfold M36o.m
  simp only [bindO,s1_run30 (show i.length + s.length ≤ 40 by omega)]
  have e4 : leB i.length (cfo k (opn s) i).length = true := by rw [cfo_len]; simp [leB]
  have e5 : leB s.length (cfo k 0 s).length = true := by rw [cfo_len]; simp [leB]
  simp only [e4,e5,Nat.zero_add,Bool.and_self,cond_true,List.drop_zero,suc (show k < 9000000000000000000 by omega)]
  rw [List.take_of_length_le (by rw [cfo_len]; omega),List.take_of_length_le (by rw [cfo_len]; omega)]
  have ho : outs i s (k + 1) = (List.range k).map (cpt i s) ++ (cfo k (opn s) i,cfo k 0 s) :: List.replicate (2 ^ (opn i + opn s) - (k + 1)) ([],[]) := by
   unfold outs
   rw [List.range_succ,List.map_append,List.append_assoc]
   rfl
  rw [ho]) (fun _ _ _ _ _ _ => trivial) (fun _ _ => by
  unfold M30.s0
  simp [outs]) () trivial
 rw [scan_unitU] at key
 have hout0 : outs i s 0 = List.replicate (2 ^ (opn i + opn s)) ([],[]) := by simp [outs]
 simp only [hout0,Int.ofNat_zero,Int.natCast_zero] at key
 have q : leB (0 + 2 ^ (opn i + opn s)) ((List.range (2 ^ (opn i + opn s))).map (cpt i s)).length = true := by simp [leB]
 simp only [key,q,Bool.and_self,cond_true,List.drop_zero]
 rw [List.take_of_length_le (by simp)]
end Cu
end Go.Proofs.Ytnmlmdlhhphcoaa
namespace Go.Proofs.Ytnmlmdlhhphcoaa
open Go.Abs
namespace Cu
def bts : Nat → Nat → List Int
 | 0,_ => []
 | m + 1,k => ((k / 2 ^ m % 2 : Nat) : Int) :: bts m k
def mt : List Int → Nat → Bool
 | [],_ => true
 | v :: l,k => (v == 2 || v == ((k / 2 ^ l.length % 2 : Nat) : Int)) && mt l k
def cps : List Int → List (List Int)
 | [] => [[]]
 | v :: l => if v = 2 then (cps l).map (0 :: ·) ++ (cps l).map (1 :: ·) else (cps l).map (v :: ·)
theorem low {o e n : Nat} (h : e < o) : (2 ^ o + n) / 2 ^ e % 2 = n / 2 ^ e % 2 := by
 obtain ⟨d,rfl⟩ : ∃ d,o = e + 1 + d := ⟨o - (e + 1),by omega⟩
 have e1 : 2 ^ (e + 1 + d) + n = n + 2 ^ e * (2 * 2 ^ d) := by
  rw [Nat.pow_add,Nat.pow_succ,Nat.mul_assoc,Nat.mul_comm 2,Nat.add_comm,Nat.mul_comm (2 ^ d) 2]
 rw [e1,Nat.add_mul_div_left _ _ (Nat.two_pow_pos e)]
 omega
theorem high0 {o n : Nat} (h : n < 2 ^ o) : n / 2 ^ o % 2 = 0 := by rw [Nat.div_eq_of_lt h]
theorem high1 {o n : Nat} (h : n < 2 ^ o) : (2 ^ o + n) / 2 ^ o % 2 = 1 := by
 rw [Nat.add_div_left _ (Nat.two_pow_pos o),Nat.div_eq_of_lt h]
theorem cfo_low {o n : Nat} : ∀ (l : List Int),opn l ≤ o → cfo (2 ^ o + n) 0 l = cfo n 0 l
 | [],_ => rfl
 | v :: l,h => by
  rw [opn_cons] at h
  have ih := cfo_low (o := o) (n := n) l (by omega)
  rw [cfo,cfo,ih]
  by_cases hv : v = 2
  ·rw [if_pos hv,if_pos hv]
   rw [if_pos hv] at h
   rw [Nat.add_zero,low (show opn l < o by omega)]
  ·rw [if_neg hv,if_neg hv]
theorem two_pow_add (o : Nat) : 2 ^ (1 + o) = 2 ^ o + 2 ^ o := by rw [Nat.add_comm,Nat.pow_succ]; omega
theorem outs_cps : ∀ (l : List Int),(List.range (2 ^ opn l)).map (fun n => cfo n 0 l) = cps l
 | [] => rfl
 | v :: l => by
  have ih := outs_cps l
  rw [cps]
  by_cases hv : v = 2
  ·subst hv
   rw [if_pos rfl,opn_cons,if_pos rfl,two_pow_add,List.range_add,List.map_append,List.map_map]
   congr 1
   ·rw [← ih,List.map_map]
    refine List.map_congr_left fun n hn => ?_
    have hn := List.mem_range.1 hn
    show cfo n 0 (2 :: l) = 0 :: cfo n 0 l
    rw [cfo,if_pos rfl,Nat.add_zero,high0 hn]
    rfl
   ·rw [← ih,List.map_map]
    refine List.map_congr_left fun n hn => ?_
    have hn := List.mem_range.1 hn
    show cfo (2 ^ opn l + n) 0 (2 :: l) = 1 :: cfo n 0 l
    rw [cfo,if_pos rfl,Nat.add_zero,high1 hn,cfo_low l (Nat.le_refl _)]
    rfl
  ·rw [if_neg hv,opn_cons,if_neg hv,Nat.zero_add,← ih,List.map_map]
   refine List.map_congr_left fun n _ => ?_
   show cfo n 0 (v :: l) = v :: cfo n 0 l
   rw [cfo,if_neg hv]
theorem bts_low {o k : Nat} : ∀ m,m ≤ o → bts m (2 ^ o + k) = bts m k
 | 0,_ => rfl
 | m + 1,h => by rw [bts,bts,bts_low m (by omega),low (by omega)]
theorem mt_low {o k : Nat} : ∀ (l : List Int),l.length ≤ o → mt l (2 ^ o + k) = mt l k
 | [],_ => rfl
 | v :: l,h => by
  simp only [List.length_cons] at h
  rw [mt,mt,mt_low l (by omega),low (by omega)]
theorem bts_cps : ∀ (l : List Int),Vs l → ((List.range (2 ^ l.length)).filter (mt l)).map (bts l.length) = cps l
 | [],_ => rfl
 | v :: l,h => by
  have ih := bts_cps l h.tl
  have h0 : ∀ k ∈ List.range (2 ^ l.length),mt (v :: l) k = ((v == 2 || v == 0) && mt l k) := fun k hk => by
   rw [mt,high0 (List.mem_range.1 hk)]
   rfl
  have h1 : ∀ k ∈ List.range (2 ^ l.length),(mt (v :: l) ∘ (2 ^ l.length + ·)) k = ((v == 2 || v == 1) && mt l k) := fun k hk => by
   show mt (v :: l) (2 ^ l.length + k) = _
   rw [mt,high1 (List.mem_range.1 hk),mt_low l (Nat.le_refl _)]
   rfl
  have m0 : ((List.range (2 ^ l.length)).filter (mt l)).map (bts (l.length + 1)) = (cps l).map (0 :: ·) := by
   rw [← ih,List.map_map]
   refine List.map_congr_left fun k hk => ?_
   have hk := List.mem_range.1 (List.mem_filter.1 hk).1
   show bts (l.length + 1) k = 0 :: bts l.length k
   rw [bts,high0 hk]
   rfl
  have m1 : ((List.range (2 ^ l.length)).filter (mt l)).map (bts (l.length + 1) ∘ (2 ^ l.length + ·)) = (cps l).map (1 :: ·) := by
   rw [← ih,List.map_map]
   refine List.map_congr_left fun k hk => ?_
   have hk := List.mem_range.1 (List.mem_filter.1 hk).1
   show bts (l.length + 1) (2 ^ l.length + k) = 1 :: bts l.length k
   rw [bts,high1 hk,bts_low _ (Nat.le_refl _)]
   rfl
  rw [List.length_cons,Nat.add_comm l.length 1,two_pow_add,List.range_add,List.filter_append,List.map_append,List.filter_map,List.map_map,List.filter_congr h0,List.filter_congr h1,Nat.add_comm 1 l.length,cps]
  have ff : ∀ l : List Nat,l.filter (fun _ => false) = [] := fun l => by induction l <;> simp_all
  rcases h.hd with rfl | rfl | rfl
  ·simp only [show ((0 : Int) == 2 || (0 : Int) == 0) = true from rfl,show ((0 : Int) == 2 || (0 : Int) == 1) = false from rfl,Bool.true_and,Bool.false_and]
   rw [m0,if_neg (by decide),ff,List.map_nil,List.append_nil]
  ·simp only [show ((1 : Int) == 2 || (1 : Int) == 0) = false from rfl,show ((1 : Int) == 2 || (1 : Int) == 1) = true from rfl,Bool.true_and,Bool.false_and]
   rw [m1,if_neg (by decide),ff,List.map_nil,List.nil_append]
  ·simp only [show ((2 : Int) == 2 || (2 : Int) == 0) = true from rfl,show ((2 : Int) == 2 || (2 : Int) == 1) = true from rfl,Bool.true_and]
   rw [m0,m1]; simp
theorem bts_len : ∀ m k,(bts m k).length = m
 | 0,_ => rfl
 | m + 1,k => by rw [bts,List.length_cons,bts_len m k]
theorem bts_get : ∀ (m k j : Nat) (h : j < m),(bts m k)[j]'(by rw [bts_len]; exact h) = ((k / 2 ^ (m - 1 - j) % 2 : Nat) : Int)
 | m + 1,k,0,_ => by simp [bts]
 | m + 1,k,j + 1,h => by
  have := bts_get m k j (by omega)
  simp only [bts,List.getElem_cons_succ]
  rw [this]
  congr 3
  rw [show m + 1 - 1 - (j + 1) = m - 1 - j by omega]
def okj (l : List Int) (k j : Nat) : Bool := l[j]?.getD 0 == 2 || l[j]?.getD 0 == ((k / 2 ^ (l.length - 1 - j) % 2 : Nat) : Int)
theorem mt_all (k : Nat) : ∀ (l : List Int),mt l k = (List.range l.length).all (okj l k)
 | [] => rfl
 | v :: l => by
  rw [mt,List.length_cons,List.range_succ_eq_map,List.all_cons,mt_all k l,List.all_map]
  have e0 : okj (v :: l) k 0 = (v == 2 || v == ((k / 2 ^ l.length % 2 : Nat) : Int)) := by
   unfold okj
   simp
  rw [e0]
  congr 1
  congr 1
  funext j
  show okj l k j = okj (v :: l) k (j + 1)
  unfold okj
  simp only [List.getElem?_cons_succ,List.length_cons]
  rw [show l.length + 1 - 1 - (j + 1) = l.length - 1 - j by omega]
theorem s1_run24 {O : List (List Int × List Int)} {i s : List Int} {at_ : Int} {k : Nat} (h1 : Vs i) (h2 : Vs s) (h : i.length + s.length ≤ 8) :
  iter M24.s1 ⟨O,((i ++ s).length : Int),at_,(k : Int),true,0,i,s⟩ = some ⟨O,((i ++ s).length : Int),at_,(k : Int),mt (i ++ s) k,i,s⟩ := by
 have hv := Vs_app h1 h2
 have hl : (i ++ s).length ≤ 8 := by simp; omega
 have key := iter_scan (step := M24.s1) (fun j (_ : Unit) => ⟨O,((i ++ s).length : Int),at_,(k : Int),(List.range j).all (okj (i ++ s) k),(j : Int),i,s⟩) (List.range (i ++ s).length) (fun _ _ => .inl ()) (fun _ => ⟨O,((i ++ s).length : Int),at_,(k : Int),mt (i ++ s) k,i,s⟩) (fun _ _ => True) (fun j hj _ _ => by
  have hj : j < (i ++ s).length := by simpa using hj
  have e1 : ((j : Int) < ((i ++ s).length : Int)) := by omega
  have ew : IntKind.i64.wrap (IntKind.i64.wrap (((i ++ s).length : Int) - 1) - (j : Int)) = (((i ++ s).length - 1 - j : Nat) : Int) := by
   rw [w64 (x := ((i ++ s).length : Int) - 1) (by omega) (by omega),w64 (by omega) (by omega)]; omega
  have e0 : (0 : Int) ≤ (((i ++ s).length - 1 - j : Nat) : Int) := by omega
  have eg : ∀ d,(i ++ s)[j]?.getD d = (i ++ s)[j] := fun d => by rw [List.getElem?_eq_getElem hj]; rfl
  unfold M24.s1
  simp only [m14 (show i.length ≤ 1000000 by omega) (show s.length ≤ 1000000 by omega),e1,inR_nat hj,eg,ew,e0,Int.toNat_natCast,fdiv_bit k ((i ++ s).length - 1 - j) (by omega),Va_w (hv _ (List.getElem_mem hj)),suc (show j < 9000000000000000000 by omega),decide_true,cond_true,Bool.true_or,bindO,List.range_succ,List.all_append,List.all_cons,List.all_nil,Bool.and_true]
  have ho : okj (i ++ s) k j = ((i ++ s)[j] == 2 || (i ++ s)[j] == ((k / 2 ^ ((i ++ s).length - 1 - j) % 2 : Nat) : Int)) := by
   unfold okj
   rw [List.getElem?_eq_getElem hj]
   rfl
  rw [ho]
  cases (List.range j).all (okj (i ++ s) k) <;> cases ((i ++ s)[j] == 2) <;> rfl) (fun _ _ _ _ _ _ => trivial) (fun _ _ => by
  unfold M24.s1
  simp only [List.length_range,Int.lt_irrefl,decide_false,cond_false,← mt_all]) () trivial
 rw [scan_unitU] at key
 exact key
theorem s2_run24 {O : List (List Int × List Int)} {i s : List Int} {a k : Nat} (h : i.length + s.length ≤ 8) (ha : a < O.length) (hf : O[a].1 ++ O[a].2 = bts (i ++ s).length k) :
  iter M24.s2 ⟨O,((i ++ s).length : Int),(a : Int),(k : Int),0,i,s⟩ = some (.inl ⟨O,((i ++ s).length : Int),(a : Int),(k : Int),i,s⟩) := by
 have hl : (i ++ s).length ≤ 8 := by simp; omega
 have hln : O[a].1.length + O[a].2.length = (i ++ s).length := by rw [← List.length_append,hf,bts_len]
 have key := iter_scan (step := M24.s2) (fun j (_ : Unit) => ⟨O,((i ++ s).length : Int),(a : Int),(k : Int),(j : Int),i,s⟩) (List.range (i ++ s).length) (fun _ _ => .inl ()) (fun _ => .inl ⟨O,((i ++ s).length : Int),(a : Int),(k : Int),i,s⟩) (fun _ _ => True) (fun j hj _ _ => by
  have hj : j < (i ++ s).length := by simpa using hj
  have e1 : ((j : Int) < ((i ++ s).length : Int)) := by omega
  have ew : IntKind.i64.wrap (IntKind.i64.wrap (((i ++ s).length : Int) - 1) - (j : Int)) = (((i ++ s).length - 1 - j : Nat) : Int) := by
   rw [w64 (x := ((i ++ s).length : Int) - 1) (by omega) (by omega),w64 (by omega) (by omega)]; omega
  have e0 : (0 : Int) ≤ (((i ++ s).length - 1 - j : Nat) : Int) := by omega
  have hjb : j < (bts (i ++ s).length k).length := by rw [bts_len]; exact hj
  have hb := bts_get (i ++ s).length k j hj
  have hw : IntKind.i64.wrap ((k / 2 ^ ((i ++ s).length - 1 - j) % 2 : Nat) : Int) = ((k / 2 ^ ((i ++ s).length - 1 - j) % 2 : Nat) : Int) := by
   have : k / 2 ^ ((i ++ s).length - 1 - j) % 2 < 2 := Nat.mod_lt _ (by decide)
   exact w64 (by omega) (by omega)
  have hg : ∀ d,O[a]?.getD d = O[a] := fun d => by simp [ha]
  have eg : ∀ d,(bts (i ++ s).length k)[j]?.getD d = (bts (i ++ s).length k)[j] := fun d => by rw [List.getElem?_eq_getElem hjb]; rfl
  unfold M24.s2
  simp only [e1,inR_nat ha,hg,m14 (show O[a].1.length ≤ 1000000 by omega) (show O[a].2.length ≤ 1000000 by omega),hf,inR_nat hjb,eg,hb,hw,ew,e0,Int.toNat_natCast,fdiv_bit k ((i ++ s).length - 1 - j) (by omega),suc (show j < 9000000000000000000 by omega),decide_true,cond_true,bindO,bne_self_eq_false,cond_false]) (fun _ _ _ _ _ _ => trivial) (fun _ _ => by
  unfold M24.s2
  simp only [List.length_range,Int.lt_irrefl,decide_false,cond_false]) () trivial
 rw [scan_unitU] at key
 exact key
theorem m24 {i s : List Int} (h1 : Vs i) (h2 : Vs s) (h : i.length + s.length ≤ 8) : M24.m ⟨i,s⟩ = some true := by
 have hl : (i ++ s).length ≤ 8 := by simp; omega
 have hp := pow_le8 hl
 have hv := Vs_app h1 h2
 unfold M24.m
 simp only [m30 h1 h2 h,m14 (show i.length ≤ 1000000 by omega) (show s.length ≤ 1000000 by omega),bindO,bne_self_eq_false,cond_false]
 have hfl : ((List.range (2 ^ (opn i + opn s))).map (cpt i s)).map (fun p => p.1 ++ p.2) = cps (i ++ s) := by
  rw [← outs_cps,opn_app,List.map_map]
  refine List.map_congr_left fun n _ => ?_
  show (cpt i s n).1 ++ (cpt i s n).2 = _
  rw [cfo_app]
  rfl
 have hle : ∀ p ∈ (List.range (2 ^ (opn i + opn s))).map (cpt i s),p.1.length = i.length ∧ p.2.length = s.length := fun p hp => by
  obtain ⟨n,_,rfl⟩ := List.mem_map.1 hp
  exact ⟨cfo_len _ _ _,cfo_len _ _ _⟩
 generalize (List.range (2 ^ (opn i + opn s))).map (cpt i s) = O at hfl hle
 have hlen : (cps (i ++ s)).length = O.length := by rw [← hfl,List.length_map]
 have hb := bts_cps (i ++ s) hv
 have key := iter_scan (step := M24.s0) (fun k (a : Nat) => ⟨O,((i ++ s).length : Int),(a : Int),(k : Int),i,s⟩) (List.range (2 ^ (i ++ s).length)) (fun a k => .inl (if mt (i ++ s) k = true then a + 1 else a)) (fun a => .inl ⟨O,(a : Int)⟩)
  (fun k a => a ≤ O.length ∧ (cps (i ++ s)).drop a = ((List.range' k (2 ^ (i ++ s).length - k)).filter (mt (i ++ s))).map (bts (i ++ s).length)) (fun k hk a hI => by
   have hk : k < 2 ^ (i ++ s).length := by simpa using hk
   have e1 : ((k : Int) < ((2 ^ (i ++ s).length : Nat) : Int)) := by omega
   have e0 : (0 : Int) ≤ ((i ++ s).length : Int) := by omega
   have hr : List.range' k (2 ^ (i ++ s).length - k) = k :: List.range' (k + 1) (2 ^ (i ++ s).length - (k + 1)) := by
    rw [show 2 ^ (i ++ s).length - k = (2 ^ (i ++ s).length - (k + 1)) + 1 by omega,List.range'_succ]
   obtain ⟨ha,hI⟩ := hI
   rw [hr] at hI
   unfold M24.s0
   simp only [e0,pow_w hl,e1,decide_true,cond_true,s1_run24 h1 h2 h,bindO,List.getElem_range]
   cases hm : mt (i ++ s) k with
   | false => simp only [Bool.not_false,cond_true,Bool.false_eq_true,if_false,suc (show k < 9000000000000000000 by omega)]
   | true =>
    rw [List.filter_cons,if_pos hm,List.map_cons] at hI
    have hal : a < O.length := by
     rcases Nat.lt_or_ge a O.length with h | h
     ·exact h
     ·rw [List.drop_of_length_le (by omega)] at hI; cases hI
    have hf : O[a].1 ++ O[a].2 = bts (i ++ s).length k := by
     have hac : a < (cps (i ++ s)).length := by omega
     rw [List.drop_eq_getElem_cons hac] at hI
     have hh := (List.cons.inj hI).1
     simp only [← hfl,List.getElem_map] at hh
     exact hh
    have hlp := hle O[a] (List.getElem_mem hal)
    have n1 : ¬ ((a : Int) ≥ (O.length : Int)) := by omega
    have hg : ∀ d,O[(a : Int).toNat]?.getD d = O[a] := fun d => by simp [hal]
    have hO : O.length ≤ 256 := by
     rw [← hlen,← hb,List.length_map]
     exact Nat.le_trans (List.length_filter_le _ _) (by simpa using hp)
    simp only [Bool.not_true,cond_false,inR_nat hal,Bool.true_or,cond_true,n1,decide_false,hg,hlp.1,hlp.2,bne_self_eq_false,s2_run24 h hal hf,sumC,suc (show k < 9000000000000000000 by omega),suc (show a < 9000000000000000000 by omega),if_true]) (fun k hk a a' hI hF => by
   have hk : k < 2 ^ (i ++ s).length := by simpa using hk
   have hF : (if mt (i ++ s) k = true then a + 1 else a) = a' := by
    rw [List.getElem_range] at hF
    injection hF
   have hr : List.range' k (2 ^ (i ++ s).length - k) = k :: List.range' (k + 1) (2 ^ (i ++ s).length - (k + 1)) := by
    rw [show 2 ^ (i ++ s).length - k = (2 ^ (i ++ s).length - (k + 1)) + 1 by omega,List.range'_succ]
   obtain ⟨ha,hI⟩ := hI
   rw [hr,List.filter_cons] at hI
   subst hF
   cases hm : mt (i ++ s) k with
   | false =>
    rw [hm] at hI
    exact ⟨ha,hI⟩
   | true =>
    rw [hm] at hI
    simp only [if_true,List.map_cons] at hI ⊢
    have hal : a < (cps (i ++ s)).length := by
     rcases Nat.lt_or_ge a (cps (i ++ s)).length with h | h
     ·exact h
     ·rw [List.drop_of_length_le h] at hI; cases hI
    refine ⟨by omega,?_⟩
    rw [List.drop_eq_getElem_cons hal] at hI
    exact (List.cons.inj hI).2) (fun a hI => by
   have e0 : (0 : Int) ≤ ((i ++ s).length : Int) := by omega
   unfold M24.s0
   simp only [e0,pow_w hl,List.length_range,Int.lt_irrefl,decide_true,decide_false,cond_true,cond_false]) 0 ⟨by omega,by rw [List.drop_zero,Nat.sub_zero,← List.range_eq_range',hb]⟩
 have hfin : ∀ (N : List Nat) (a : Nat),(a ≤ O.length ∧ (cps (i ++ s)).drop a = (N.filter (mt (i ++ s))).map (bts (i ++ s).length)) → N.foldl (fun a k => if mt (i ++ s) k = true then a + 1 else a) a = O.length := fun N => by
  induction N with
  | nil =>
   intro a hI
   have := hI.2
   rw [List.filter_nil,List.map_nil,List.drop_eq_nil_iff] at this
   show a = _
   omega
  | cons k N ih =>
   intro a hI
   rw [List.foldl_cons]
   refine ih _ ?_
   obtain ⟨ha,hI⟩ := hI
   rw [List.filter_cons] at hI
   cases hm : mt (i ++ s) k with
   | false =>
    rw [hm] at hI
    exact ⟨ha,hI⟩
   | true =>
    rw [hm] at hI
    simp only [if_true,List.map_cons] at hI ⊢
    have hal : a < (cps (i ++ s)).length := by
     rcases Nat.lt_or_ge a (cps (i ++ s)).length with h | h
     ·exact h
     ·rw [List.drop_of_length_le h] at hI; cases hI
    refine ⟨by omega,?_⟩
    rw [List.drop_eq_getElem_cons hal] at hI
    exact (List.cons.inj hI).2
 rw [scan_fold,hfin _ 0 ⟨by omega,by rw [List.drop_zero,hb]⟩] at key
 have key : iter M24.s0 ⟨O,((i ++ s).length : Int),0,0,i,s⟩ = _ := key
 simp only [key,sumC,beq_self_eq_true]
end Cu
end Go.Proofs.Ytnmlmdlhhphcoaa
namespace Go.Proofs.Ytnmlmdlhhphcoaa
open Go.Abs
namespace Cu
theorem fil_const {w last : Int} (hw : w ≠ 2) : ∀ (l d : List Int),l.foldl (fst w) (last,d) = (last,d ++ l.map fun v => if v = 2 then last else v)
 | [],d => by simp
 | v :: l,d => by
  have e : fst w (last,d) v = (last,d ++ [if v = 2 then last else v]) := by
   unfold fst
   by_cases hv : v = 2 <;> simp [hv,hw]
  rw [List.foldl_cons,e,fil_const hw l]
  simp
def nxt (z v : Int) : Int := if v = 2 then z else v
def reps : Int → List Int → List Int
 | _,[] => []
 | z,v :: l => nxt z v :: reps (nxt z v) l
def lastz : Int → List Int → Int
 | z,[] => z
 | z,v :: l => lastz (nxt z v) l
theorem fil_rep : ∀ (l d : List Int) (z : Int),l.foldl (fst 2) (z,d) = (lastz z l,d ++ reps z l)
 | [],d,z => by simp [lastz,reps]
 | v :: l,d,z => by
  have e : fst 2 (z,d) v = (nxt z v,d ++ [nxt z v]) := by
   unfold fst nxt
   by_cases hv : v = 2 <;> simp [hv]
  rw [List.foldl_cons,e,fil_rep l]
  simp [lastz,reps]
theorem reps_app : ∀ (a b : List Int) (z : Int),reps z (a ++ b) = reps z a ++ reps (lastz z a) b
 | [],_,_ => rfl
 | v :: a,b,z => by simp only [List.cons_append,reps,lastz,reps_app a b]
theorem reps_len : ∀ (l : List Int) (z : Int),(reps z l).length = l.length
 | [],_ => rfl
 | v :: l,z => by simp [reps,reps_len l]
theorem reps_at : ∀ (l : List Int) (z : Int) (k : Nat),(reps z l)[k + 1]?.getD 0 = if k + 1 < l.length then nxt ((reps z l)[k]?.getD 0) (l[k + 1]?.getD 0) else 0
 | [],_,_ => by simp [reps]
 | [v],z,k => by simp [reps]
 | v :: u :: l,z,0 => by simp [reps]
 | v :: u :: l,z,k + 1 => by
  have ih := reps_at (u :: l) (nxt z v) k
  have e : (v :: u :: l)[k + 1 + 1]?.getD 0 = (u :: l)[k + 1]?.getD 0 := rfl
  rw [e,reps,List.getElem?_cons_succ,List.getElem?_cons_succ,ih]
  simp only [List.length_cons,Nat.add_lt_add_iff_right]
theorem reps_V : ∀ (l : List Int) (z : Int),Vs l → z = 0 ∨ z = 1 → ∀ x ∈ reps z l,x = 0 ∨ x = 1
 | [],_,_,_,x,hx => by simp [reps] at hx
 | v :: l,z,h,hz,x,hx => by
  have hn : nxt z v = 0 ∨ nxt z v = 1 := by
   unfold nxt
   rcases h.hd with rfl | rfl | rfl
   ·exact .inl rfl
   ·exact .inr rfl
   ·exact hz
  rw [reps] at hx
  rcases List.mem_cons.1 hx with rfl | hx
  ·exact hn
  ·exact reps_V l _ h.tl hn x hx
theorem spec1_V {l : List Int} (h : Vs l) : spec1 l = 0 ∨ spec1 l = 1 := by
 unfold spec1
 cases hf : l.find? fun v => v != 2 with
 | none => exact .inl rfl
 | some x =>
  have h1 := List.find?_some hf
  rcases h x (List.mem_of_find?_eq_some hf) with rfl | rfl | rfl
  ·exact .inl rfl
  ·exact .inr rfl
  ·cases h1
def bk (l : List Int) : Nat → Option Int
 | 0 => if l[0]?.getD 0 = 2 then none else some (l[0]?.getD 0)
 | k + 1 => if l[k + 1]?.getD 0 = 2 then bk l k else some (l[k + 1]?.getD 0)
theorem reps_bk (l : List Int) (z : Int) : ∀ k,k < l.length → (reps z l)[k]?.getD 0 = (bk l k).getD z
 | 0,h => by
  match l,h with
  | v :: l,_ =>
   simp only [reps,bk,nxt,List.getElem?_cons_zero,Option.getD_some]
   by_cases hv : v = 2 <;> simp [hv]
 | k + 1,h => by
  rw [reps_at,if_pos h,reps_bk l z k (by omega),bk]
  unfold nxt
  by_cases hv : l[k + 1]?.getD 0 = 2
  ·rw [if_pos hv,if_pos hv]
  ·rw [if_neg hv,if_neg hv]; rfl
theorem gd0 {l : List Int} {i : Nat} (h : i < l.length) : l[i]?.getD 0 = l[i] := by rw [List.getElem?_eq_getElem h]; rfl
theorem m20 {l : List Int} {i : Nat} {v : Int} (h : i < l.length) : M20.m ⟨l,(i : Int),v⟩ = some (if l[i] = 2 then v else l[i]) := by
 unfold M20.m
 simp only [inR_nat h,getD_at h,cond_true]
 by_cases hv : l[i] = 2
 ·simp [hv]
 ·have hb : (l[i] != 2) = true := by simpa using hv
  rw [hb,if_neg hv]
  rfl
theorem m21_back {l : List Int} (hl : l.length ≤ 1000000) : ∀ k,k < l.length → (∃ r,bk l k = some r ∧ iter M21.s0 ⟨l,(k : Int)⟩ = some (.inr ⟨r⟩)) ∨ (bk l k = none ∧ iter M21.s0 ⟨l,(k : Int)⟩ = some (.inl ⟨l⟩))
 | 0,h => by
  have hst : M21.s0 ⟨l,((0 : Nat) : Int)⟩ = some (if l[0] = 2 then .inl ⟨l,-1⟩ else .inr (.inr ⟨l[0]⟩)) := by
   unfold M21.s0
   simp only [inR_nat h,getD_at h,show (((0 : Nat) : Int) ≥ 0) from by omega,decide_true,cond_true]
   by_cases hv : l[0] = 2
   ·simp [hv]; rfl
   ·have hb : (l[0] != 2) = true := by simpa using hv
    rw [hb,if_neg hv]; rfl
  have hend : M21.s0 ⟨l,-1⟩ = some (.inr (.inl ⟨l⟩)) := by
   unfold M21.s0
   rfl
  rw [bk,gd0 h,iter_eq,hst]
  by_cases hv : l[0] = 2
  ·rw [if_pos hv,if_pos hv]
   right
   refine ⟨rfl,?_⟩
   show iter M21.s0 ⟨l,-1⟩ = _
   rw [iter_eq,hend]
  ·rw [if_neg hv,if_neg hv]
   exact .inl ⟨_,rfl,rfl⟩
 | k + 1,h => by
  have hw : IntKind.i64.wrap (((k + 1 : Nat) : Int) - 1) = (k : Int) := by rw [w64 (by omega) (by omega)]; omega
  have hst : M21.s0 ⟨l,((k + 1 : Nat) : Int)⟩ = some (if l[k + 1] = 2 then .inl ⟨l,(k : Int)⟩ else .inr (.inr ⟨l[k + 1]⟩)) := by
   unfold M21.s0
   simp only [inR_nat h,getD_at h,hw,show (((k + 1 : Nat) : Int) ≥ 0) from by omega,decide_true,cond_true]
   by_cases hv : l[k + 1] = 2
   ·simp [hv]
   ·have hb : (l[k + 1] != 2) = true := by simpa using hv
    rw [hb,if_neg hv]; rfl
  rw [bk,gd0 h,iter_eq,hst]
  by_cases hv : l[k + 1] = 2
  ·rw [if_pos hv,if_pos hv]
   exact m21_back hl k (by omega)
  ·rw [if_neg hv,if_neg hv]
   exact .inl ⟨_,rfl,rfl⟩
theorem m21_fwd {l : List Int} (hl : l.length ≤ 1000000) : ∀ j i,i + j = l.length → (∃ r,(l.drop i).find? (fun v => v != 2) = some r ∧ iter M21.s1 ⟨l,(i : Int)⟩ = some (.inr ⟨r⟩)) ∨ ((l.drop i).find? (fun v => v != 2) = none ∧ iter M21.s1 ⟨l,(i : Int)⟩ = some (.inl ⟨⟩))
 | 0,i,hi => by
  have e : i = l.length := by omega
  subst e
  right
  rw [List.drop_length,iter_eq]
  have : M21.s1 ⟨l,(l.length : Int)⟩ = some (.inr (.inl ⟨⟩)) := by unfold M21.s1; simp
  rw [this]
  exact ⟨rfl,rfl⟩
 | j + 1,i,hi => by
  have hil : i < l.length := by omega
  have e1 : ((i : Int) < (l.length : Int)) := by omega
  have hst : M21.s1 ⟨l,(i : Int)⟩ = some (if (l[i] != 2) = true then .inr (.inr ⟨l[i]⟩) else .inl ⟨l,((i + 1 : Nat) : Int)⟩) := by
   unfold M21.s1
   simp only [e1,inR_nat hil,getD_at hil,suc (show i < 9000000000000000000 by omega),decide_true,cond_true]
   cases (l[i] != 2) <;> rfl
  rw [iter_eq,hst,List.drop_eq_getElem_cons hil,List.find?_cons]
  cases hP : (l[i] != 2) with
  | true => exact .inl ⟨_,rfl,rfl⟩
  | false =>
   simp only [Bool.false_eq_true,if_false]
   exact m21_fwd hl j (i + 1) (by omega)
theorem m21 {l : List Int} {k : Nat} (hl : l.length ≤ 1000000) (h : k < l.length) : M21.m ⟨l,(k : Int)⟩ = some ((bk l k).getD (spec1 l)) := by
 unfold M21.m
 rcases m21_back hl k h with ⟨r,h1,h2⟩ | ⟨h1,h2⟩
 ·simp only [h2,bindO,sumC,h1,Option.getD_some]
 ·simp only [h2,bindO,sumC,h1,Option.getD_none]
  have hf := m21_fwd hl l.length 0 (by omega)
  rw [List.drop_zero] at hf
  unfold spec1
  rcases hf with ⟨r,h3,h4⟩ | ⟨h3,h4⟩
  ·have h4 : iter M21.s1 ⟨l,0⟩ = _ := h4
   simp only [h4,bindO,sumC,h3,Option.getD_some]
  ·have h4 : iter M21.s1 ⟨l,0⟩ = _ := h4
   simp only [h4,bindO,sumC,h3,Option.getD_none]
def rsa (l : List Int) (ps : List Int) : List Int := ps.foldl (fun l p => l.set p.toNat 2) l
theorem rlx_app : ∀ (ps i s : List Int),(∀ p ∈ ps,0 ≤ p) → (rlx i s ps).1 ++ (rlx i s ps).2 = rsa (i ++ s) ps := by
 intro ps
 have key : ∀ (n : Nat) (a : List Int × List Int),a.1.length = n → (∀ p ∈ ps,0 ≤ p) → (ps.foldl (rst n) a).1 ++ (ps.foldl (rst n) a).2 = rsa (a.1 ++ a.2) ps := by
  induction ps with
  | nil => intro n a _ _; rfl
  | cons p ps ih =>
   intro n a ha hp
   have h0 := hp p (by simp)
   have hl := rst_len n a p
   rw [List.foldl_cons,ih n (rst n a p) (hl.1.trans ha) (fun q hq => hp q (by simp [hq]))]
   show rsa _ ps = rsa ((a.1 ++ a.2).set p.toNat 2) ps
   congr 1
   unfold rst
   rw [List.set_append]
   by_cases h : p < (n : Int)
   ·rw [if_pos h,if_pos (by omega)]
   ·rw [if_neg h,if_neg (by omega)]
    have : (p - (n : Int)).toNat = p.toNat - a.1.length := by omega
    rw [this]
 intro i s hp
 exact key i.length (i,s) rfl hp
theorem rsa_len : ∀ (ps l : List Int),(rsa l ps).length = l.length
 | [],_ => rfl
 | p :: ps,l => by
  show (rsa (l.set p.toNat 2) ps).length = _
  rw [rsa_len ps,List.length_set]
theorem rsa_get : ∀ (ps l : List Int) (k : Nat),k < l.length → (rsa l ps)[k]?.getD 0 = if (ps.any fun p => p.toNat == k) = true then 2 else l[k]?.getD 0
 | [],l,k,_ => by simp [rsa]
 | p :: ps,l,k,h => by
  show (rsa (l.set p.toNat 2) ps)[k]?.getD 0 = _
  rw [rsa_get ps (l.set p.toNat 2) k (by rw [List.length_set]; exact h),List.any_cons,List.getElem?_set]
  by_cases hp : p.toNat = k
  ·subst hp
   simp [h]
  ·have : (p.toNat == k) = false := by simpa using hp
   rw [this,if_neg hp,Bool.false_or]
theorem fc_set : ∀ (l b : List Int) (n : Nat),cnt fc l b = 0 → cnt fc (l.set n 2) b = 0
 | [],_,_,_ => rfl
 | x :: l,[],n,_ => by cases n <;> rfl
 | x :: l,y :: b,0,h => by
  rw [cnt_cons] at h
  rw [List.set_cons_zero,cnt_cons]
  exact ⟨rfl,h.2⟩
 | x :: l,y :: b,n + 1,h => by
  rw [cnt_cons] at h
  rw [List.set_cons_succ,cnt_cons]
  exact ⟨h.1,fc_set l b n h.2⟩
theorem Vs_set {l : List Int} (h : Vs l) (n : Nat) : Vs (l.set n 2) := fun x hx => by
 rcases List.mem_or_eq_of_mem_set hx with hx | rfl
 ·exact h x hx
 ·exact .inr (.inr rfl)
theorem rsa_fc : ∀ (ps l b : List Int),cnt fc l b = 0 → cnt fc (rsa l ps) b = 0
 | [],_,_,h => h
 | p :: ps,l,b,h => rsa_fc ps _ b (fc_set l b p.toNat h)
theorem rsa_V : ∀ (ps l : List Int),Vs l → Vs (rsa l ps)
 | [],_,h => h
 | p :: ps,l,h => rsa_V ps _ (Vs_set h p.toNat)
end Cu
end Go.Proofs.Ytnmlmdlhhphcoaa
namespace Go.Proofs.Ytnmlmdlhhphcoaa
open Go.Abs
namespace Cu
def vsB (l : List Int) : Bool := l.all fun x => x == 0 || x == 1 || x == 2
theorem Vs_of {l : List Int} (h : vsB l = true) : Vs l := fun x hx => by
 have := List.all_eq_true.1 h x hx
 simp only [Bool.or_eq_true,beq_iff_eq] at this
 unfold Va
 omega
theorem of_txt {i s : List Int} (h1 : vsB i = true) (h2 : vsB s = true) (h : Nat.ble (i.length + s.length) 100 = true) {t : List UInt8} (ht : sgns i ++ 124 :: sgns s = t) : M31.m ⟨t⟩ = some (i,s) := by
 subst ht
 unfold M31.m
 rw [m27_sgns (Vs_of h1) (Vs_of h2) (by have := Nat.le_of_ble_eq_true h; omega)]
 rfl
theorem txt_of {i s : List Int} (h1 : vsB i = true) (h2 : vsB s = true) (h : Nat.ble (i.length + s.length) 100 = true) {t : List UInt8} (ht : sgns i ++ 124 :: sgns s = t) : M26.m ⟨i,s⟩ = some t := by
 subst ht
 exact m26_V (Vs_of h1) (Vs_of h2) (by have := Nat.le_of_ble_eq_true h; omega)
theorem livesL : M10.m () = some true := by
 have o1 : M31.m ⟨[48,88,88,124,49]⟩ = some ([0,2,2],[1]) := of_txt rfl rfl rfl rfl
 have o2 : M31.m ⟨[48,88,49,124,88]⟩ = some ([0,2,1],[2]) := of_txt rfl rfl rfl rfl
 have o3 : M31.m ⟨[48,88,124]⟩ = some ([0,2],[]) := of_txt rfl rfl rfl rfl
 have o4 : M31.m ⟨[49,88,124]⟩ = some ([1,2],[]) := of_txt rfl rfl rfl rfl
 have o5 : M31.m ⟨[88,88,49,88,124,48,88]⟩ = some ([2,2,1,2],[0,2]) := of_txt rfl rfl rfl rfl
 have o6 : M31.m ⟨[88,48,124,88]⟩ = some ([2,0],[2]) := of_txt rfl rfl rfl rfl
 have o7 : M31.m ⟨[48,49,88,124,49]⟩ = some ([0,1,2],[1]) := of_txt rfl rfl rfl rfl
 have o8 : M31.m ⟨[49,48,88,124,88]⟩ = some ([1,0,2],[2]) := of_txt rfl rfl rfl rfl
 have o9 : M31.m ⟨[48,49,49,124,48]⟩ = some ([0,1,1],[0]) := of_txt rfl rfl rfl rfl
 have oA : M31.m ⟨[88,49,124]⟩ = some ([2,1],[]) := of_txt rfl rfl rfl rfl
 have oB : M31.m ⟨[48,49,124]⟩ = some ([0,1],[]) := of_txt rfl rfl rfl rfl
 have a1 : M13.m ⟨[0,2,2],[1],[0,2,1],[2]⟩ = some ([0,2,1],[1],0) := (m13 (by decide) (by decide) (by decide) (by decide)).trans (by decide)
 have a2 : M13.m ⟨[0,2],[],[1,2],[]⟩ = some ([],[],9) := (m13 (by decide) (by decide) (by decide) (by decide)).trans (by decide)
 have a3 : M19.m ⟨[2,2,1,2],[0,2],2⟩ = some ([1,1,1,1],[0,0],0) := (m19 (by decide) (by decide)).trans (by decide)
 have a4 : M19.m ⟨[2,2,1,2],[0,2],1⟩ = some ([1,1,1,1],[0,1],0) := (m19 (by decide) (by decide)).trans (by decide)
 have a5 : M30.m ⟨[2,0],[2]⟩ = some ([([0,0],[0]),([0,0],[1]),([1,0],[0]),([1,0],[1])],0) := (m30 (Vs_of rfl) (Vs_of rfl) (by decide)).trans (by decide)
 have a6 : M18.m ⟨[0,1,2],[1],[1,0,2],[2]⟩ = some 2 := (m18 (by decide) (by decide) (by decide) (by decide)).trans (by decide)
 have a7 : M23.m ⟨[0,1,1],[0],[0,3]⟩ = some ([2,1,1],[2],0) := (m23 (by decide) (by decide) (by decide)).trans (by decide)
 have a8 : M27.m ⟨[48,49]⟩ = some ([],[],4) := (m27 (by decide)).trans (by decide)
 have a9 : M27.m ⟨[48,124,50]⟩ = some ([],[],4) := (m27 (by decide)).trans (by decide)
 have aA : M27.m ⟨[124]⟩ = some ([],[],0) := m27_sgns (i := []) (s := []) (Vs_of rfl) (Vs_of rfl) (by decide)
 have aB : M17.m ⟨[2,1],[],[0,1],[]⟩ = some true := (m17 (by decide) (by decide) (by decide) (by decide)).trans (by decide)
 have aC : M17.m ⟨[0,1],[],[2,1],[]⟩ = some false := (m17 (by decide) (by decide) (by decide) (by decide)).trans (by decide)
 have t1 : M26.m ⟨[0,2,1],[1]⟩ = some [48,88,49,124,49] := txt_of rfl rfl rfl rfl
 have t2 : M26.m ⟨[1,1,1,1],[0,0]⟩ = some [49,49,49,49,124,48,48] := txt_of rfl rfl rfl rfl
 have t3 : M26.m ⟨[1,1,1,1],[0,1]⟩ = some [49,49,49,49,124,48,49] := txt_of rfl rfl rfl rfl
 have t4 : M26.m ⟨[0,0],[1]⟩ = some [48,48,124,49] := txt_of rfl rfl rfl rfl
 have t5 : M26.m ⟨[1,0],[0]⟩ = some [49,48,124,48] := txt_of rfl rfl rfl rfl
 have t6 : M26.m ⟨[2,1,1],[2]⟩ = some [88,49,49,124,88] := txt_of rfl rfl rfl rfl
 unfold M10.m
 simp only [o1,o2,o3,o4,o5,o6,o7,o8,o9,oA,oB,a1,a2,a3,a4,a5,a6,a7,a8,a9,aA,aB,aC,t1,t2,t3,t4,t5,t6,bindO,bne_self_eq_false,beq_self_eq_true,cond_true,cond_false,Bool.not_true,Bool.not_false,
  show ((9 : Int) != 9) = false from rfl,show ((0 : Int) != 0) = false from rfl,List.getElem?_cons_succ,List.getElem?_cons_zero,Option.getD_some,List.length_cons,List.length_nil]
 first | rfl | decide | skip
end Cu
end Go.Proofs.Ytnmlmdlhhphcoaa
namespace Go.Proofs.Ytnmlmdlhhphcoaa
open Go.Abs
namespace Cu
def fx (z v : Int) : Int := if v = 2 then z else v
theorem flr0 {w : Int} (hw : w = 0 ∨ w = 1) (i s : List Int) : flr i s w = (i.map (fx w),s.map (fx w),0) := by
 have hz : lastOf w (i ++ s) = w := by rcases hw with rfl | rfl <;> rfl
 have hn : w ≠ 2 := by omega
 unfold flr fil
 rw [hz,fil_const hn]
 simp only [fil_const hn,List.nil_append]
 rfl
theorem flr2 (i s : List Int) : flr i s 2 = (reps (spec1 (i ++ s)) i,reps (lastz (spec1 (i ++ s)) i) s,0) := by
 have hz : lastOf 2 (i ++ s) = spec1 (i ++ s) := rfl
 unfold flr fil
 rw [hz,fil_rep]
 simp only [fil_rep,List.nil_append]
theorem lastz_01 : ∀ (l : List Int) (z : Int),Vs l → z = 0 ∨ z = 1 → lastz z l = 0 ∨ lastz z l = 1
 | [],_,_,h => h
 | v :: l,z,h,hz => by
  refine lastz_01 l _ h.tl ?_
  unfold nxt
  rcases h.hd with rfl | rfl | rfl
  ·exact .inl rfl
  ·exact .inr rfl
  ·exact hz
theorem cares_all : ∀ {l : List Int},(∀ x ∈ l,x = 0 ∨ x = 1) → cares l = l.length := fun {l} h => by
 unfold cares
 rw [List.countP_eq_length]
 intro x hx
 rcases h x hx with rfl | rfl <;> rfl
theorem s0_run4 {l ai as_ gi gs p q r bits : List Int} (hb : bits.length ≤ 1000000) (hp : p = bits.map (fx 0)) (hq : q = bits.map (fx 1)) (hr : r = reps (spec1 bits) bits) :
  iter M4.s0 ⟨l,bits,0,p,q,r,0,ai,as_,gi,gs⟩ = some (.inl ⟨l,bits,((cares bits : Nat) : Int),ai,as_,gi,gs⟩) := by
 have lp : p.length = bits.length := by rw [hp]; simp
 have lq : q.length = bits.length := by rw [hq]; simp
 have lr : r.length = bits.length := by rw [hr,reps_len]
 have key := iter_scan (step := M4.s0) (fun k (_ : Unit) => ⟨l,bits,((cares (bits.take k) : Nat) : Int),p,q,r,(k : Int),ai,as_,gi,gs⟩) bits (fun _ _ => .inl ()) (fun _ => .inl ⟨l,bits,((cares bits : Nat) : Int),ai,as_,gi,gs⟩) (fun _ _ => True) (fun k hk _ _ => by
  have e1 : ((k : Int) < (bits.length : Int)) := by omega
  have kp : k < p.length := by omega
  have kq : k < q.length := by omega
  have kr : k < r.length := by omega
  have ep : p[k] = if bits[k] = 2 then 0 else bits[k] := by simp [hp,fx]
  have eq : q[k] = if bits[k] = 2 then 1 else bits[k] := by simp [hq,fx]
  have er : r[k] = if bits[k] = 2 then (bk bits k).getD (spec1 bits) else bits[k] := by
   have h1 := reps_bk bits (spec1 bits) k hk
   rw [← hr,gd0 kr] at h1
   rw [h1]
   by_cases hv : bits[k] = 2
   ·rw [if_pos hv]
   ·rw [if_neg hv]
    match k,hk,hv with
    | 0,hk,hv => rw [bk,gd0 hk,if_neg hv]; rfl
    | k + 1,hk,hv => rw [bk,gd0 hk,if_neg hv]; rfl
  have hc := cares_le (bits.take k)
  have hc2 : (bits.take k).length ≤ bits.length := by simp; omega
  have ew : IntKind.i64.wrap ((cares (bits.take k) : Int) + 1) = ((cares (bits.take k) + 1 : Nat) : Int) := by rw [w64 (by omega) (by omega)]; omega
  unfold M4.s0
  simp only [e1,inR_nat hk,inR_nat kp,inR_nat kq,inR_nat kr,getD_at hk,getD_at kp,getD_at kq,getD_at kr,m20 hk,m21 hb hk,bindO,decide_true,cond_true,Bool.true_or,suc (show k < 9000000000000000000 by omega),ep,eq,er,bne_self_eq_false,Bool.not_false,cond_false,cares_snoc bits k hk,ew]
  cases (bits[k] != 2) <;> simp) (fun _ _ _ _ _ _ => trivial) (fun _ _ => by unfold M4.s0; simp) () trivial
 rw [scan_unit] at key
 exact key
def pos (K : Nat) (l : List Int) : List Int := if K = 0 then [] else l.map fun v => Int.tmod v K
theorem s1_run4 {l bits ai as_ : List Int} (hl : l.length ≤ 20) (hv : ∀ v ∈ l,0 ≤ v ∧ v ≤ 255) : iter M4.s1 ⟨l,bits,0,0,0,ai,as_,[]⟩ = some ⟨bits,0,(pos bits.length l).length,ai,as_,pos bits.length l⟩ := by
 by_cases hK : bits.length = 0
 ·have : ¬ ((bits.length : Int) > 0) := by omega
  rw [iter_eq]
  have hst : M4.s1 ⟨l,bits,0,0,0,ai,as_,[]⟩ = some (.inr ⟨bits,0,0,ai,as_,[]⟩) := by
   unfold M4.s1
   simp only [this,decide_false]
   cases decide ((0 : Int) < (l.length : Int)) <;> rfl
  rw [hst]
  simp [pos,hK]
 ·have hb : ((bits.length : Int) > 0) := by omega
  have hnz : nz (bits.length : Int) = true := by unfold nz; rw [Bool.not_eq_true',beq_eq_false_iff_ne]; omega
  have hpos : pos bits.length l = l.map fun v => Int.tmod v bits.length := by simp [pos,hK]
  have key := iter_scan (step := M4.s1) (fun k (_ : Unit) => ⟨l,bits,0,k,(k : Int),ai,as_,(l.take k).map fun v => Int.tmod v bits.length⟩) l (fun _ _ => .inl ()) (fun _ => ⟨bits,0,l.length,ai,as_,l.map fun v => Int.tmod v bits.length⟩) (fun _ _ => True) (fun k hk _ _ => by
   have e1 : ((k : Int) < (l.length : Int)) := by omega
   have hvk := hv _ (List.getElem_mem hk)
   have ew : IntKind.i64.wrap l[k] = l[k] := w64 (by omega) (by omega)
   have e2 : (eqN 0 0 && eqN ((l.take k).map fun v => Int.tmod v bits.length).length k && roomB (k + 1) 8) = true := by
    have a : eqN ((l.take k).map fun v => Int.tmod v bits.length).length k = true := by simp [eqN]; omega
    have b : roomB (k + 1) 8 = true := by simp [roomB,leB]; omega
    rw [a,b]; rfl
   unfold M4.s1
   simp only [e1,hb,inR_nat hk,getD_at hk,hnz,e2,ew,decide_true,cond_true,suc (show k < 9000000000000000000 by omega),List.take_succ_eq_append_getElem hk,List.map_append,List.map_cons,List.map_nil]) (fun _ _ _ _ _ _ => trivial) (fun _ _ => by
   unfold M4.s1
   simp) () trivial
  rw [scan_unit] at key
  rw [hpos,List.length_map]
  exact key
theorem pos_in {K : Nat} {l : List Int} (hv : ∀ v ∈ l,0 ≤ v ∧ v ≤ 255) : ∀ p ∈ pos K l,0 ≤ p ∧ p < (K : Int) := fun p hp => by
 unfold pos at hp
 by_cases hK : K = 0
 ·rw [if_pos hK] at hp; cases hp
 ·rw [if_neg hK] at hp
  obtain ⟨v,hv',rfl⟩ := List.mem_map.1 hp
  have := hv v hv'
  have hKp : 0 < (K : Int) := Int.natCast_pos.2 (Nat.pos_of_ne_zero hK)
  show 0 ≤ Int.tmod v (K : Int) ∧ Int.tmod v (K : Int) < (K : Int)
  rw [Int.tmod_eq_emod_of_nonneg this.1]
  exact ⟨Int.emod_nonneg _ (Int.ne_of_gt hKp),Int.emod_lt_of_pos _ hKp⟩
theorem s3_run4 {bits ps got ai as_ : List Int} {i : Nat} (w : Int) (hps : ps.length ≤ 1000) (h0 : ∀ p ∈ ps,0 ≤ p) :
  iter M4.s3 ⟨bits,0,ps.length,got,(i : Int),w,0,ai,as_,ps⟩ = some ⟨bits,0,ps.length,got,(i : Int),if (ps.any fun p => p.toNat == i) = true then 2 else w,ai,as_,ps⟩ := by
 have key := iter_scan (step := M4.s3) (fun k (_ : Unit) => ⟨bits,0,ps.length,got,(i : Int),if ((ps.take k).any fun p => p.toNat == i) = true then 2 else w,(k : Int),ai,as_,ps⟩) ps (fun _ _ => .inl ()) (fun _ => ⟨bits,0,ps.length,got,(i : Int),if (ps.any fun p => p.toNat == i) = true then 2 else w,ai,as_,ps⟩) (fun _ _ => True) (fun k hk _ _ => by
  have e1 : ((k : Int) < (ps.length : Int)) := by omega
  have hp := h0 _ (List.getElem_mem hk)
  have eb : (ps[k] == (i : Int)) = (ps[k].toNat == i) := by
   rw [Bool.eq_iff_iff,beq_iff_eq,beq_iff_eq]; omega
  have ha : ((ps.take (k + 1)).any fun p => p.toNat == i) = (((ps.take k).any fun p => p.toNat == i) || ps[k].toNat == i) := by
   rw [List.take_succ_eq_append_getElem hk,List.any_append]; simp
  unfold M4.s3
  simp only [e1,inR_nat hk,Int.toNat_natCast,Nat.zero_add,hk,gd0 hk,eb,ha,decide_true,cond_true,suc (show k < 9000000000000000000 by omega)]
  cases ((ps.take k).any fun p => p.toNat == i) <;> cases (ps[k].toNat == i) <;> rfl) (fun _ _ _ _ _ _ => trivial) (fun _ _ => by unfold M4.s3; simp) () trivial
 rw [scan_unit] at key
 exact key
theorem s2_run4 {bits ps ai as_ : List Int} (hb : bits.length ≤ 1000000) (hps : ps.length ≤ 1000) (h0 : ∀ p ∈ ps,0 ≤ p) :
  iter M4.s2 ⟨bits,0,ps.length,rsa bits ps,0,ai,as_,ps⟩ = some (.inl ⟨bits,ai,as_⟩) := by
 have key := iter_scan (step := M4.s2) (fun k (_ : Unit) => ⟨bits,0,ps.length,rsa bits ps,(k : Int),ai,as_,ps⟩) bits (fun _ _ => .inl ()) (fun _ => .inl ⟨bits,ai,as_⟩) (fun _ _ => True) (fun k hk _ _ => by
  have e1 : ((k : Int) < (bits.length : Int)) := by omega
  have hk' : k < (rsa bits ps).length := by rw [rsa_len]; exact hk
  have hg := rsa_get ps bits k hk
  rw [gd0 hk',gd0 hk] at hg
  unfold M4.s2
  simp only [e1,inR_nat hk,getD_at hk,s3_run4 bits[k] hps h0,inR_nat hk',getD_at hk',hg,bindO,decide_true,cond_true,bne_self_eq_false,cond_false,suc (show k < 9000000000000000000 by omega)]) (fun _ _ _ _ _ _ => trivial) (fun _ _ => by unfold M4.s2; simp) () trivial
 rw [scan_unit] at key
 exact key
theorem run4 {xi xs l : List Int} (p1 : ∀ x ∈ xi,0 ≤ x) (p2 : ∀ x ∈ xs,0 ≤ x) (p3 : ∀ x ∈ l,0 ≤ x ∧ x ≤ 255) : M4.m ⟨xi,xs,l⟩ = some true := by
 unfold M4.m
 have h9 := m9 (most := 40) (l := [(xi,xs)]) (by simp)
 simp only [h9,bindO,livesL]
 cases hb : [(xi,xs)].any (bigP 40) with
 | true => rfl
 | false =>
  simp only [List.any_cons,List.any_nil,Bool.or_false] at hb
  have hl : xi.length + xs.length ≤ 40 := big_sum (most := 40) (by decide) hb
  by_cases hll : ((l.length : Int) > 20)
  ·simp only [Bool.not_false,Bool.not_true,cond_false,hll,decide_true,cond_true]
  have hl20 : l.length ≤ 20 := by omega
  have vA := vals_Vs p1
  have vA' := vals_Vs p2
  have eA : (vals xi).length + (vals xs).length ≤ 40 := by rw [vals_len,vals_len]; omega
  simp only [Bool.not_false,Bool.not_true,cond_false,hll,decide_false,m11 (show xi.length ≤ 1000000 by omega) (show xs.length ≤ 1000000 by omega)]
  generalize vals xi = A at *
  generalize vals xs = A' at *
  clear h9 hb p1 p2 hl
  have hA : A.length ≤ 1000000 := by omega
  have hA' : A'.length ≤ 1000000 := by omega
  have hK : (A ++ A').length ≤ 40 := by simp; omega
  have vv := Vs_app vA vA'
  have hz := spec1_V vv
  have hc0 : chk A A' = 0 := chk_V vA vA' (by omega)
  have hg1 : ∀ x ∈ reps (spec1 (A ++ A')) A,x = 0 ∨ x = 1 := reps_V _ _ vA hz
  have hg2 : ∀ x ∈ reps (lastz (spec1 (A ++ A')) A) A',x = 0 ∨ x = 1 := reps_V _ _ vA' (lastz_01 _ _ vA hz)
  have vg1 : Vs (reps (spec1 (A ++ A')) A) := fun x hx => by rcases hg1 x hx with h | h; exact .inl h; exact .inr (.inl h)
  have vg2 : Vs (reps (lastz (spec1 (A ++ A')) A) A') := fun x hx => by rcases hg2 x hx with h | h; exact .inl h; exact .inr (.inl h)
  have lg1 : (reps (spec1 (A ++ A')) A).length = A.length := reps_len _ _
  have lg2 : (reps (lastz (spec1 (A ++ A')) A) A').length = A'.length := reps_len _ _
  have hcg : chk (reps (spec1 (A ++ A')) A) (reps (lastz (spec1 (A ++ A')) A) A') = 0 := chk_V vg1 vg2 (by omega)
  have hcare : cares (A ++ A') = cares A + cares A' := by unfold cares; rw [List.countP_append]
  have hcg2 : cares (reps (spec1 (A ++ A')) A) + cares (reps (lastz (spec1 (A ++ A')) A) A') = (A ++ A').length := by
   rw [cares_all hg1,cares_all hg2,lg1,lg2,List.length_append]
  simp only [m14 hA hA',m19 hA hA',hc0,ne_eq,not_true,if_false,true_or,or_true,if_true,flr0 (w := 0) (.inl rfl),flr0 (w := 1) (.inr rfl),flr2,
   m14 (show (A.map (fx 0)).length ≤ 1000000 by simpa using hA) (show (A'.map (fx 0)).length ≤ 1000000 by simpa using hA'),m14 (show (A.map (fx 1)).length ≤ 1000000 by simpa using hA) (show (A'.map (fx 1)).length ≤ 1000000 by simpa using hA'),
   m14 (show (reps (spec1 (A ++ A')) A).length ≤ 1000000 by omega) (show (reps (lastz (spec1 (A ++ A')) A) A').length ≤ 1000000 by omega),← reps_app,← List.map_append]
  have n1 : ∀ f : Int → Int,((((A ++ A').map f).length : Int) != ((A ++ A').length : Int)) = false := fun f => by simp
  have n2 : (((reps (spec1 (A ++ A')) (A ++ A')).length : Int) != ((A ++ A').length : Int)) = false := by rw [reps_len]; simp
  simp only [n1,n2,bne_self_eq_false,cond_false,s0_run4 (show (A ++ A').length ≤ 1000000 by omega) rfl rfl rfl,sumC,m22 hA hA',hc0,ne_eq,not_true,if_false,hcare,
   m22 (show (reps (spec1 (A ++ A')) A).length ≤ 1000000 by omega) (show (reps (lastz (spec1 (A ++ A')) A) A').length ≤ 1000000 by omega),hcg,hcg2,Bool.not_false,cond_true,s1_run4 hl20 p3]
  have hpi := pos_in (K := (A ++ A').length) p3
  have hpl : (pos (A ++ A').length l).length ≤ 20 := by
   unfold pos
   split
   ·simp
   ·simp; omega
  generalize pos (A ++ A').length l = ps at *
  have ho : ps.any (outP (A.length + A'.length)) = false := by
   rw [List.any_eq_false]
   intro p hp
   have := hpi p hp
   rw [List.length_append] at this
   unfold outP
   simp
   omega
  have hr := rlx_app ps A A' (fun p hp => (hpi p hp).1)
  have hlr := rfold_len A.length ps (A,A')
  have hlr1 : (rlx A A' ps).1.length = A.length := hlr.1
  have hlr2 : (rlx A A' ps).2.length = A'.length := hlr.2
  have vr : Vs ((rlx A A' ps).1 ++ (rlx A A' ps).2) := by rw [hr]; exact rsa_V _ _ vv
  have vr1 : Vs (rlx A A' ps).1 := fun x hx => vr x (List.mem_append_left _ hx)
  have vr2 : Vs (rlx A A' ps).2 := fun x hx => vr x (List.mem_append_right _ hx)
  have hcov : covs (rlx A A' ps).1 (rlx A A' ps).2 A A' = true := by
   rw [covs_V vr1 vr2 vA vA' hlr1 hlr2 (by omega),decide_eq_true_eq]
   have h := rsa_fc ps (A ++ A') (A ++ A') (self _ vv).2.2
   rw [← hr,cnt_app _ _ _ hlr1] at h
   omega
  have hll3 : ((List.length (rsa (A ++ A') ps) : Int) != ((A ++ A').length : Int)) = false := by rw [rsa_len]; simp
  simp only [m23o hA hA' (show ps.length ≤ 1000000 by omega),hc0,ho,ne_eq,not_true,if_false,Bool.false_eq_true,m14 (show (rlx A A' ps).1.length ≤ 1000000 by omega) (show (rlx A A' ps).2.length ≤ 1000000 by omega),hr,hll3,bne_self_eq_false,cond_false,Bool.not_false,cond_true,
   m17 (show (rlx A A' ps).1.length ≤ 1000000 by omega) (show (rlx A A' ps).2.length ≤ 1000000 by omega) hA hA',hcov,Bool.not_true,s2_run4 (show (A ++ A').length ≤ 1000000 by omega) (show ps.length ≤ 1000 by omega) (fun p hp => (hpi p hp).1)]
  by_cases h8 : (((A ++ A').length : Int) > 8)
  ·simp only [h8,decide_true,Bool.not_true,cond_false,cond_true]
  ·simp only [h8,decide_false,Bool.not_false,cond_true,cond_false,m24 vA vA' (show A.length + A'.length ≤ 8 by rw [List.length_append] at h8; omega)]
end Cu
end Go.Proofs.Ytnmlmdlhhphcoaa
