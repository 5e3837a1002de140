/-
  What the proof stands on.
-/
import Derived.Test.YtnmlmdlhhphcoaaER3QEx
import Derived.Test.YtnmlmdlhhphcoaaER3QEy
import Derived.Lib.IndexLaws
set_option linter.all false
namespace Go.Proofs.Ytnmlmdlhhphcoaa
open Go.Abs
namespace Cu
theorem w64 {x : Int} (h : -9223372036854775808 ≤ x) (h' : x ≤ 9223372036854775807) : IntKind.i64.wrap x = x := by
 simp [IntKind.wrap,IntKind.signed,IntKind.bits]; omega
theorem inR_nat {i n : Nat} (h : i < n) : inR (i : Int) n = true := by simp [inR]; omega
theorem getD_at {α : Type} {l : List α} {i : Nat} (h : i < l.length) (d : α) : l[(i : Int).toNat]?.getD d = l[i] := by simp [h]
theorem suc {i : Nat} (h : i < 9000000000000000000) : IntKind.i64.wrap ((i : Int) + 1) = ((i + 1 : Nat) : Int) := by rw [w64 (by omega) (by omega)]; omega
def scan {A α Y : Type} (F : A → α → A ⊕ Y) (E : A → Y) : A → List α → Y
 | a,[] => E a
 | a,x :: l => match F a x with | .inl a' => scan F E a' l | .inr y => y
theorem iter_scan {X Y A α : Type} {step : X → Option (X ⊕ Y)} (S : Nat → A → X) (l : List α) (F : A → α → A ⊕ Y) (E : A → Y) (I : Nat → A → Prop)
   (h : ∀ i (hi : i < l.length) a,I i a → step (S i a) = some (match F a l[i] with | .inl a' => .inl (S (i + 1) a') | .inr y => .inr y))
   (hI : ∀ i (hi : i < l.length) a a',I i a → F a l[i] = .inl a' → I (i + 1) a')
   (he : ∀ a,I l.length a → step (S l.length a) = some (.inr (E a))) (a : A) (ha : I 0 a) : iter step (S 0 a) = some (scan F E a l) := by
 have : ∀ j i a,i + j = l.length → I i a → iter step (S i a) = some (scan F E a (l.drop i)) := by
   intro j
   induction j with
   | zero =>
     intro i a hi ha
     have e : i = l.length := by omega
     subst e
     rw [iter_eq,he a ha,List.drop_length]
     rfl
   | succ j ih =>
     intro i a hi ha
     have hil : i < l.length := by omega
     rw [iter_eq,h i hil a ha,List.drop_eq_getElem_cons hil]
     unfold scan
     cases hF : F a l[i] with
     | inl a' => exact ih (i + 1) a' (by omega) (hI i hil a a' ha hF)
     | inr y => rfl
 have h := this l.length 0 a (by omega) ha
 rwa [List.drop_zero] at h
theorem iter_any {X Y α : Type} {step : X → Option (X ⊕ Y)} (S : Nat → X) (l : List α) (P : α → Bool) (Z : Nat → Y) {y : Y}
   (h : ∀ i (hi : i < l.length),step (S i) = some (if P l[i] = true then .inr (Z i) else .inl (S (i + 1)))) (he : step (S l.length) = some (.inr y)) :
   (l.any P = true ∧ ∃ i : Nat,iter step (S 0) = some (Z i)) ∨ (l.any P = false ∧ iter step (S 0) = some y) := by
 have : ∀ j i,i + j = l.length → ((l.drop i).any P = true ∧ ∃ t : Nat,iter step (S i) = some (Z t)) ∨ ((l.drop i).any P = false ∧ iter step (S i) = some y) := by
   intro j
   induction j with
   | zero =>
     intro i hi
     have e : i = l.length := by omega
     subst e
     exact .inr ⟨by rw [List.drop_length]; rfl,by rw [iter_eq,he]⟩
   | succ j ih =>
     intro i hi
     have hil : i < l.length := by omega
     rw [List.drop_eq_getElem_cons hil,List.any_cons,iter_eq,h i hil]
     cases hP : P l[i] with
     | true => exact .inl ⟨by simp,i,rfl⟩
     | false =>
       simp only [Bool.false_eq_true,if_false,Bool.false_or]
       exact ih (i + 1) (by omega)
 have h := this l.length 0 (by omega)
 rwa [List.drop_zero] at h
def vals (l : List Int) : List Int := l.map (fun v => Int.tmod v 3)
theorem m32 {l : List Int} (hl : l.length ≤ 1000000) : M32.m ⟨l⟩ = some (vals l) := by
 have key := iter_scan (step := M32.s0) (fun i (xs : List Int) => ⟨l,0,i,(i : Int),xs⟩) l (fun xs v => .inl (xs ++ [Int.tmod v 3])) (fun xs => ⟨0,xs.length,xs⟩) (fun i xs => xs.length = i) (fun i hi xs hx => by
     have e1 : ((i : Int) < (l.length : Int)) := by omega
     have e2 : (eqN 0 0 && eqN xs.length i && roomB (i + 1) 1) = true := by
       have h1 : eqN xs.length i = true := by simp [eqN,hx]
       have h2 : roomB (i + 1) 1 = true := by simp [roomB,leB]; omega
       rw [h1,h2]; rfl
     unfold M32.s0
     simp only [e1,inR_nat hi,getD_at hi,e2,suc (show i < 9000000000000000000 by omega),decide_true,cond_true]) (fun i hi xs xs' hx hF => by
     cases hF
     show (xs ++ [_]).length = i + 1
     simp [show xs.length = i from hx]) (fun xs hx => by
     have hx : xs.length = l.length := hx
     unfold M32.s0
     simp [hx]) [] rfl
 have key : iter M32.s0 ⟨l,0,0,0,[]⟩ = _ := key
 have hsc : ∀ (l xs : List Int),scan (fun (xs : List Int) (v : Int) => (.inl (xs ++ [Int.tmod v 3]) : List Int ⊕ M32.q0X)) (fun xs => ⟨0,xs.length,xs⟩) xs l = ⟨0,(xs ++ vals l).length,xs ++ vals l⟩ := by
   intro l
   induction l with
   | nil => intro xs; simp [scan,vals]
   | cons v l ih =>
     intro xs
     unfold scan
     refine (ih _).trans ?_
     simp [vals]
 rw [hsc,List.nil_append] at key
 unfold M32.m
 have e : leB (0 + (vals l).length) (vals l).length = true := by simp [leB]
 simp only [key,bindO,e,Bool.and_self,cond_true,List.drop_zero,List.take_length]
theorem m11 {i s : List Int} (hi : i.length ≤ 1000000) (hs : s.length ≤ 1000000) : M11.m ⟨i,s⟩ = some (vals i,vals s) := by
 unfold M11.m
 simp only [m32 hi,m32 hs,bindO]
def bad (l : List Int) : Bool := l.any fun v => decide (v > 2)
def chk (i s : List Int) : Int := if i.length + s.length > 16384 then 3 else if bad i = true ∨ bad s = true then 1 else 0
theorem m29 {i s : List Int} (hi : i.length ≤ 1000000) (hs : s.length ≤ 1000000) : M29.m ⟨i,s⟩ = some (chk i s) := by
 have k0 := iter_any (step := M29.i0_s0) (fun k => ⟨(i.length : Int),(k : Int),0,i,s⟩) i (fun v => decide (v > 2)) (fun _ => .inr ⟨1,i,s⟩) (y := .inl ⟨0,i,s⟩) (fun k hk => by
   have e1 : ((k : Int) < (i.length : Int)) := by omega
   unfold M29.i0_s0 M29.sb0
   simp only [e1,inR_nat hk,getD_at hk,suc (show k < 9000000000000000000 by omega),decide_true,cond_true,bindO]
   cases decide (i[k] > 2) <;> rfl) (by unfold M29.i0_s0; simp)
 have k1 := iter_any (step := M29.i0_s1) (fun k => ⟨(s.length : Int),(k : Int),0,i,s⟩) s (fun v => decide (v > 2)) (fun _ => .inr ⟨1,i,s⟩) (y := .inl ⟨0,i,s⟩) (fun k hk => by
   have e1 : ((k : Int) < (s.length : Int)) := by omega
   unfold M29.i0_s1 M29.sb0
   simp only [e1,inR_nat hk,getD_at hk,suc (show k < 9000000000000000000 by omega),decide_true,cond_true,bindO]
   cases decide (s[k] > 2) <;> rfl) (by unfold M29.i0_s1; simp)
 have ew : IntKind.i64.wrap ((i.length : Int) + (s.length : Int)) = ((i.length + s.length : Nat) : Int) := by rw [w64 (by omega) (by omega)]; omega
 unfold M29.m chk M36.m
 simp only [ew,bindO]
 by_cases hg : i.length + s.length > 16384
 · have : (((i.length + s.length : Nat) : Int) > 16384) := by omega
   simp only [this,decide_true,cond_true,hg,if_true]
 · have : ¬ (((i.length + s.length : Nat) : Int) > 16384) := by omega
   simp only [this,decide_false,cond_false,hg,if_false]
   unfold M29.s0
   rcases k0 with ⟨h1,t,h2⟩ | ⟨h1,h2⟩
   · have h2 : iter M29.i0_s0 ⟨(i.length : Int),0,0,i,s⟩ = _ := h2
     have hb : bad i = true := h1
     simp only [h2,bindO,sumC,hb,true_or,if_true]
   · have h2 : iter M29.i0_s0 ⟨(i.length : Int),0,0,i,s⟩ = _ := h2
     have hb : bad i = false := h1
     rcases k1 with ⟨h3,t,h4⟩ | ⟨h3,h4⟩
     · have h4 : iter M29.i0_s1 ⟨(s.length : Int),0,0,i,s⟩ = _ := h4
       have hb2 : bad s = true := h3
       simp only [h2,h4,bindO,sumC,hb,hb2,or_true,if_true]
     · have h4 : iter M29.i0_s1 ⟨(s.length : Int),0,0,i,s⟩ = _ := h4
       have hb2 : bad s = false := h3
       simp only [h2,h4,bindO,sumC,hb,hb2]
       rfl
end Cu
end Go.Proofs.Ytnmlmdlhhphcoaa
namespace Go.Proofs.Ytnmlmdlhhphcoaa
open Go.Abs
namespace Cu
def chk2 (ai as_ bi bs : List Int) : Int := if chk ai as_ ≠ 0 then chk ai as_ else if chk bi bs ≠ 0 then chk bi bs else if ai.length ≠ bi.length ∨ as_.length ≠ bs.length then 8 else 0
theorem m33 {ai as_ bi bs : List Int} (h1 : ai.length ≤ 1000000) (h2 : as_.length ≤ 1000000) (h3 : bi.length ≤ 1000000) (h4 : bs.length ≤ 1000000) : M33.m ⟨ai,as_,bi,bs⟩ = some (chk2 ai as_ bi bs) := by
 have s0 : M33.s0 ⟨[(ai,as_),(bi,bs)],2,0,ai,as_,bi,bs⟩ = some (if chk ai as_ ≠ 0 then .inr (.inr ⟨chk ai as_⟩) else .inl ⟨[(ai,as_),(bi,bs)],2,1,ai,as_,bi,bs⟩) := by
   unfold M33.s0
   simp only [m29 h1 h2,show decide ((0 : Int) < 2) = true from rfl,show inR 0 [(ai,as_),(bi,bs)].length = true from rfl,cond_true,bindO,show ([(ai,as_),(bi,bs)] : List (List Int × List Int))[(0 : Int).toNat]?.getD ([],[]) = (ai,as_) from rfl]
   by_cases h : chk ai as_ = 0
   · simp [h]; rfl
   · have hb : (chk ai as_ != 0) = true := by simpa using h
     rw [hb,if_pos h]; rfl
 have s1 : M33.s0 ⟨[(ai,as_),(bi,bs)],2,1,ai,as_,bi,bs⟩ = some (if chk bi bs ≠ 0 then .inr (.inr ⟨chk bi bs⟩) else .inl ⟨[(ai,as_),(bi,bs)],2,2,ai,as_,bi,bs⟩) := by
   unfold M33.s0
   simp only [m29 h3 h4,show decide ((1 : Int) < 2) = true from rfl,show inR 1 [(ai,as_),(bi,bs)].length = true from rfl,cond_true,bindO,show ([(ai,as_),(bi,bs)] : List (List Int × List Int))[(1 : Int).toNat]?.getD ([],[]) = (bi,bs) from rfl]
   by_cases h : chk bi bs = 0
   · simp [h]; rfl
   · have hb : (chk bi bs != 0) = true := by simpa using h
     rw [hb,if_pos h]; rfl
 have s2 : M33.s0 ⟨[(ai,as_),(bi,bs)],2,2,ai,as_,bi,bs⟩ = some (.inr (.inl ⟨ai,as_,bi,bs⟩)) := by
   unfold M33.s0
   simp
 unfold M33.m chk2
 have key : iter M33.s0 ⟨[(ai,as_),(bi,bs)],2,0,ai,as_,bi,bs⟩ = some (if chk ai as_ ≠ 0 then .inr ⟨chk ai as_⟩ else if chk bi bs ≠ 0 then .inr ⟨chk bi bs⟩ else .inl ⟨ai,as_,bi,bs⟩) := by
   rw [iter_eq,s0]
   by_cases h : chk ai as_ = 0
   · simp only [h,ne_eq,not_true,if_false]
     rw [iter_eq,s1]
     by_cases h' : chk bi bs = 0
     · simp only [h',ne_eq,not_true,if_false]
       rw [iter_eq,s2]
     · simp only [h',ne_eq,not_false_eq_true,if_true]
   · simp only [h,ne_eq,not_false_eq_true,if_true]
 show bindO (iter M33.s0 ⟨[(ai,as_),(bi,bs)],2,0,ai,as_,bi,bs⟩) _ = _
 rw [key]
 by_cases h : chk ai as_ = 0
 · by_cases h' : chk bi bs = 0
   · simp only [h,h',ne_eq,not_true,if_false,bindO,sumC]
     by_cases e1 : ai.length = bi.length
     · by_cases e2 : as_.length = bs.length
       · simp [e1,e2]
       · have : ((as_.length : Int) != (bs.length : Int)) = true := by simp; omega
         simp [e1,e2,this]
     · have : ((ai.length : Int) != (bi.length : Int)) = true := by simp; omega
       simp [e1,this]
   · simp only [h,h',ne_eq,not_true,not_false_eq_true,if_true,if_false,bindO,sumC]
 · simp only [h,ne_eq,not_false_eq_true,if_true,bindO,sumC]
theorem m35 {i s : List Int} (hi : i.length ≤ 1000000) (hs : s.length ≤ 1000000) : M35.m ⟨i,s⟩ = some (i ++ s) := by
 have w1 : IntKind.i64.wrap (0 + (i.length : Int)) = (i.length : Int) := by rw [w64 (by omega) (by omega)]; omega
 have w2 : IntKind.i64.wrap ((i.length : Int) + (s.length : Int)) = ((i.length + s.length : Nat) : Int) := by rw [w64 (by omega) (by omega)]; omega
 have n1 : ¬ ((i.length : Int) < 0) := by omega
 have n2 : ¬ (((i.length + s.length : Nat) : Int) < 0) := by omega
 have a0 : M49.s0 ⟨[i,s],0,[i,s],2,0⟩ = some (.inl ⟨[i,s],(i.length : Int),[i,s],2,1⟩) := by
   unfold M49.s0
   simp only [show decide ((0 : Int) < 2) = true from rfl,show inR 0 [i,s].length = true from rfl,cond_true,show ([i,s] : List (List Int))[(0 : Int).toNat]?.getD [] = i from rfl,w1,n1,decide_false,cond_false]
   rfl
 have a1 : M49.s0 ⟨[i,s],(i.length : Int),[i,s],2,1⟩ = some (.inl ⟨[i,s],((i.length + s.length : Nat) : Int),[i,s],2,2⟩) := by
   unfold M49.s0
   simp only [show decide ((1 : Int) < 2) = true from rfl,show inR 1 [i,s].length = true from rfl,cond_true,show ([i,s] : List (List Int))[(1 : Int).toNat]?.getD [] = s from rfl,w2,n2,decide_false,cond_false]
   rfl
 have a2 : M49.s0 ⟨[i,s],((i.length + s.length : Nat) : Int),[i,s],2,2⟩ = some (.inr ⟨[i,s],((i.length + s.length : Nat) : Int)⟩) := by
   unfold M49.s0
   simp
 have k0 : iter M49.s0 ⟨[i,s],0,[i,s],(([i,s] : List (List Int)).length : Int),0⟩ = some ⟨[i,s],((i.length + s.length : Nat) : Int)⟩ := by
   show iter M49.s0 ⟨[i,s],0,[i,s],2,0⟩ = _
   rw [iter_eq,a0]
   show iter M49.s0 _ = _
   rw [iter_eq,a1]
   show iter M49.s0 _ = _
   rw [iter_eq,a2]
 have r1 : (eqN 0 0 && eqN ([] : List Int).length 0 && roomB (0 + i.length) 1) = true := by
   have : roomB (0 + i.length) 1 = true := by simp [roomB,leB]; omega
   rw [this]; rfl
 have r2 : (eqN 0 0 && eqN ([] ++ i).length (0 + i.length) && roomB (0 + i.length + s.length) 1) = true := by
   have h1 : roomB (0 + i.length + s.length) 1 = true := by simp [roomB,leB]; omega
   have h2 : eqN ([] ++ i).length (0 + i.length) = true := by simp [eqN]
   rw [h1,h2]; rfl
 have b0 : M49.s1 ⟨0,0,[i,s],2,0,[]⟩ = some (.inl ⟨0,0 + i.length,[i,s],2,1,[] ++ i⟩) := by
   unfold M49.s1
   simp only [show decide ((0 : Int) < 2) = true from rfl,show inR 0 [i,s].length = true from rfl,cond_true,show ([i,s] : List (List Int))[(0 : Int).toNat]?.getD [] = i from rfl,r1]
   rfl
 have b1 : M49.s1 ⟨0,0 + i.length,[i,s],2,1,[] ++ i⟩ = some (.inl ⟨0,0 + i.length + s.length,[i,s],2,2,[] ++ i ++ s⟩) := by
   unfold M49.s1
   simp only [show decide ((1 : Int) < 2) = true from rfl,show inR 1 [i,s].length = true from rfl,cond_true,show ([i,s] : List (List Int))[(1 : Int).toNat]?.getD [] = s from rfl,r2]
   rfl
 have b2 : M49.s1 ⟨0,0 + i.length + s.length,[i,s],2,2,[] ++ i ++ s⟩ = some (.inr ⟨0,0 + i.length + s.length,[] ++ i ++ s⟩) := by
   unfold M49.s1
   simp
 have k1 : iter M49.s1 ⟨0,0,[i,s],(([i,s] : List (List Int)).length : Int),0,[]⟩ = some ⟨0,0 + i.length + s.length,[] ++ i ++ s⟩ := by
   show iter M49.s1 ⟨0,0,[i,s],2,0,[]⟩ = _
   rw [iter_eq,b0]
   show iter M49.s1 _ = _
   rw [iter_eq,b1]
   show iter M49.s1 _ = _
   rw [iter_eq,b2]
 have g : (decide ((0 : Int) ≤ ((i.length + s.length : Nat) : Int)) && decide (((i.length + s.length : Nat) : Int) ≤ 1000000000)) = true := by
   simp; omega
 unfold M35.m M49.m M55.m
 simp only [k0,bindO,g,cond_true,k1]
 have e : leB (0 + (0 + i.length + s.length)) ([] ++ i ++ s).length = true := by simp [leB]
 rw [e]
 simp only [Bool.and_self,cond_true,List.drop_zero,List.nil_append,Nat.zero_add,Option.some.injEq]
 exact List.take_of_length_le (by simp)
end Cu
end Go.Proofs.Ytnmlmdlhhphcoaa
namespace Go.Proofs.Ytnmlmdlhhphcoaa
open Go.Abs
namespace Cu
def cnt (f : Int → Int → Bool) (xs ys : List Int) : Nat := (xs.zip ys).countP fun p => f p.1 p.2
def fc (x y : Int) : Bool := bif x != 2 then x != y else false
def fd (x y : Int) : Bool := IntKind.u8.wrap (x + y) == 1
theorem m38 (x y : Int) : M38.m ⟨x,y⟩ = some (fc x y) := rfl
theorem m39 (x y : Int) : M39.m ⟨x,y⟩ = some (fd x y) := rfl
theorem scan_cnt {Y : Type} (f : Int → Int → Bool) (E : Nat → Y) : ∀ (zs : List (Int × Int)) (n : Nat),scan (fun (n : Nat) (p : Int × Int) => (.inl (if f p.1 p.2 = true then n + 1 else n) : Nat ⊕ Y)) E n zs = E (n + zs.countP fun p => f p.1 p.2)
 | [],n => by simp [scan]
 | p :: zs,n => by
   unfold scan
   refine (scan_cnt f E zs _).trans ?_
   rw [List.countP_cons]
   congr 1
   cases f p.1 p.2 <;> simp <;> omega
theorem M37c_run {ai as_ bi bs : List Int} (h1 : ai.length ≤ 1000000) (h2 : as_.length ≤ 1000000) (h3 : bi.length ≤ 1000000) (h4 : bs.length ≤ 1000000) :
   M37c.m ⟨ai,as_,bi,bs⟩ = some (if chk2 ai as_ bi bs ≠ 0 then -1 else ((cnt fc ai bi + cnt fc as_ bs : Nat) : Int)) := by
 unfold M37c.m
 simp only [m33 h1 h2 h3 h4,bindO]
 by_cases hc : chk2 ai as_ bi bs = 0
 · have hlen : ai.length = bi.length ∧ as_.length = bs.length := by
     unfold chk2 at hc
     split at hc
     · contradiction
     · split at hc
       · contradiction
       · split at hc
         · cases hc
         · omega
   have hb : (chk2 ai as_ bi bs != 0) = false := by simp [hc]
   simp only [hb,cond_false,m35 h3 h4,bindO,hc,ne_eq,not_true,if_false]
   unfold M36.m
   simp only [bindO]
   unfold M37c.s0
   generalize hl : bi ++ bs = l
   have hll : l.length = ai.length + as_.length := by rw [← hl,List.length_append]; omega
   have z1 : (ai.zip l).length = ai.length := by rw [List.length_zip]; omega
   have z2 : (as_.zip (l.drop ai.length)).length = as_.length := by rw [List.length_zip,List.length_drop]; omega
   have k0 := iter_scan (step := M37c.i0_s0) (fun i (n : Nat) => ⟨(ai.length : Int),(i : Int),(n : Int),l,ai,as_⟩) (ai.zip l) (fun (n : Nat) (p : Int × Int) => .inl (if fc p.1 p.2 = true then n + 1 else n)) (fun n => ⟨(n : Int),l,ai,as_⟩) (fun i n => n ≤ i) (fun i hi n hn => by
     have hia : i < ai.length := by omega
     have hil : i < l.length := by omega
     have e1 : ((i : Int) < (ai.length : Int)) := by omega
     have hn : n ≤ i := hn
     unfold M37c.i0_s0 M37c.sb0
     simp only [m38,e1,inR_nat hia,inR_nat hil,getD_at hia,getD_at hil,suc (show i < 9000000000000000000 by omega),suc (show n < 9000000000000000000 by omega),decide_true,cond_true,bindO,List.getElem_zip]
     cases fc ai[i] l[i] <;> rfl) (fun i hi n n' hn hF => by
     have hn : n ≤ i := hn
     cases hF
     show (if _ then n + 1 else n) ≤ i + 1
     split
     · exact Nat.succ_le_succ hn
     · exact Nat.le_succ_of_le hn) (fun n _ => by
     unfold M37c.i0_s0
     simp [z1]) 0 (Nat.zero_le _)
   have k0 : iter M37c.i0_s0 ⟨(ai.length : Int),0,0,l,ai,as_⟩ = _ := k0
   rw [scan_cnt,Nat.zero_add] at k0
   have c0 : (ai.zip l).countP (fun p => fc p.1 p.2) ≤ 1000000 := by
     have := List.countP_le_length (p := fun p : Int × Int => fc p.1 p.2) (l := ai.zip l)
     omega
   have k1 := iter_scan (step := M37c.i0_s1) (fun i (n : Nat) => ⟨(as_.length : Int),(i : Int),(n : Int),l,ai,as_⟩) (as_.zip (l.drop ai.length)) (fun (n : Nat) (p : Int × Int) => .inl (if fc p.1 p.2 = true then n + 1 else n)) (fun n => ⟨(n : Int),l,ai,as_⟩) (fun i n => n ≤ 1000000 + i) (fun i hi n hn => by
     have hia : i < as_.length := by omega
     have hil : ai.length + i < l.length := by omega
     have e1 : ((i : Int) < (as_.length : Int)) := by omega
     have hn : n ≤ 1000000 + i := hn
     have ew : IntKind.i64.wrap ((ai.length : Int) + (i : Int)) = ((ai.length + i : Nat) : Int) := by rw [w64 (by omega) (by omega)]; omega
     unfold M37c.i0_s1 M37c.sb0
     simp only [m38,e1,ew,inR_nat hia,inR_nat hil,getD_at hia,getD_at hil,suc (show i < 9000000000000000000 by omega),suc (show n < 9000000000000000000 by omega),decide_true,cond_true,bindO,List.getElem_zip,List.getElem_drop]
     cases fc as_[i] l[ai.length + i] <;> rfl) (fun i hi n n' hn hF => by
     have hn : n ≤ 1000000 + i := hn
     cases hF
     show (if _ then n + 1 else n) ≤ 1000000 + (i + 1)
     split
     · exact Nat.succ_le_succ hn
     · exact Nat.le_succ_of_le hn) (fun n _ => by
     unfold M37c.i0_s1
     simp [z2]) ((ai.zip l).countP fun p => fc p.1 p.2) (by omega)
   have k1 : iter M37c.i0_s1 ⟨(as_.length : Int),0,(((ai.zip l).countP fun p => fc p.1 p.2 : Nat) : Int),l,ai,as_⟩ = _ := k1
   rw [scan_cnt] at k1
   simp only [k0,k1,bindO]
   have e1 : ai.zip l = ai.zip bi := by
     rw [← hl]
     have := List.zip_append (l₁ := ai) (l₂ := bi) (r₁ := []) (r₂ := bs) hlen.1
     simpa using this
   have e2 : l.drop ai.length = bs := by rw [← hl,hlen.1,List.drop_left]
   rw [e1,e2]
   rfl
 · have hb : (chk2 ai as_ bi bs != 0) = true := by simpa using hc
   simp only [hb,cond_true,hc,ne_eq,not_false_eq_true,if_true]
theorem M37d_run {ai as_ bi bs : List Int} (h1 : ai.length ≤ 1000000) (h2 : as_.length ≤ 1000000) (h3 : bi.length ≤ 1000000) (h4 : bs.length ≤ 1000000) :
   M37d.m ⟨ai,as_,bi,bs⟩ = some (if chk2 ai as_ bi bs ≠ 0 then -1 else ((cnt fd ai bi + cnt fd as_ bs : Nat) : Int)) := by
 unfold M37d.m
 simp only [m33 h1 h2 h3 h4,bindO]
 by_cases hc : chk2 ai as_ bi bs = 0
 · have hlen : ai.length = bi.length ∧ as_.length = bs.length := by
     unfold chk2 at hc
     split at hc
     · contradiction
     · split at hc
       · contradiction
       · split at hc
         · cases hc
         · omega
   have hb : (chk2 ai as_ bi bs != 0) = false := by simp [hc]
   simp only [hb,cond_false,m35 h3 h4,bindO,hc,ne_eq,not_true,if_false]
   unfold M36.m
   simp only [bindO]
   unfold M37d.s0
   generalize hl : bi ++ bs = l
   have hll : l.length = ai.length + as_.length := by rw [← hl,List.length_append]; omega
   have z1 : (ai.zip l).length = ai.length := by rw [List.length_zip]; omega
   have z2 : (as_.zip (l.drop ai.length)).length = as_.length := by rw [List.length_zip,List.length_drop]; omega
   have k0 := iter_scan (step := M37d.i0_s0) (fun i (n : Nat) => ⟨(ai.length : Int),(i : Int),(n : Int),l,ai,as_⟩) (ai.zip l) (fun (n : Nat) (p : Int × Int) => .inl (if fd p.1 p.2 = true then n + 1 else n)) (fun n => ⟨(n : Int),l,ai,as_⟩) (fun i n => n ≤ i) (fun i hi n hn => by
     have hia : i < ai.length := by omega
     have hil : i < l.length := by omega
     have e1 : ((i : Int) < (ai.length : Int)) := by omega
     have hn : n ≤ i := hn
     unfold M37d.i0_s0 M37d.sb0
     simp only [m39,e1,inR_nat hia,inR_nat hil,getD_at hia,getD_at hil,suc (show i < 9000000000000000000 by omega),suc (show n < 9000000000000000000 by omega),decide_true,cond_true,bindO,List.getElem_zip]
     cases fd ai[i] l[i] <;> rfl) (fun i hi n n' hn hF => by
     have hn : n ≤ i := hn
     cases hF
     show (if _ then n + 1 else n) ≤ i + 1
     split
     · exact Nat.succ_le_succ hn
     · exact Nat.le_succ_of_le hn) (fun n _ => by
     unfold M37d.i0_s0
     simp [z1]) 0 (Nat.zero_le _)
   have k0 : iter M37d.i0_s0 ⟨(ai.length : Int),0,0,l,ai,as_⟩ = _ := k0
   rw [scan_cnt,Nat.zero_add] at k0
   have c0 : (ai.zip l).countP (fun p => fd p.1 p.2) ≤ 1000000 := by
     have := List.countP_le_length (p := fun p : Int × Int => fd p.1 p.2) (l := ai.zip l)
     omega
   have k1 := iter_scan (step := M37d.i0_s1) (fun i (n : Nat) => ⟨(as_.length : Int),(i : Int),(n : Int),l,ai,as_⟩) (as_.zip (l.drop ai.length)) (fun (n : Nat) (p : Int × Int) => .inl (if fd p.1 p.2 = true then n + 1 else n)) (fun n => ⟨(n : Int),l,ai,as_⟩) (fun i n => n ≤ 1000000 + i) (fun i hi n hn => by
     have hia : i < as_.length := by omega
     have hil : ai.length + i < l.length := by omega
     have e1 : ((i : Int) < (as_.length : Int)) := by omega
     have hn : n ≤ 1000000 + i := hn
     have ew : IntKind.i64.wrap ((ai.length : Int) + (i : Int)) = ((ai.length + i : Nat) : Int) := by rw [w64 (by omega) (by omega)]; omega
     unfold M37d.i0_s1 M37d.sb0
     simp only [m39,e1,ew,inR_nat hia,inR_nat hil,getD_at hia,getD_at hil,suc (show i < 9000000000000000000 by omega),suc (show n < 9000000000000000000 by omega),decide_true,cond_true,bindO,List.getElem_zip,List.getElem_drop]
     cases fd as_[i] l[ai.length + i] <;> rfl) (fun i hi n n' hn hF => by
     have hn : n ≤ 1000000 + i := hn
     cases hF
     show (if _ then n + 1 else n) ≤ 1000000 + (i + 1)
     split
     · exact Nat.succ_le_succ hn
     · exact Nat.le_succ_of_le hn) (fun n _ => by
     unfold M37d.i0_s1
     simp [z2]) ((ai.zip l).countP fun p => fd p.1 p.2) (by omega)
   have k1 : iter M37d.i0_s1 ⟨(as_.length : Int),0,(((ai.zip l).countP fun p => fd p.1 p.2 : Nat) : Int),l,ai,as_⟩ = _ := k1
   rw [scan_cnt] at k1
   simp only [k0,k1,bindO]
   have e1 : ai.zip l = ai.zip bi := by
     rw [← hl]
     have := List.zip_append (l₁ := ai) (l₂ := bi) (r₁ := []) (r₂ := bs) hlen.1
     simpa using this
   have e2 : l.drop ai.length = bs := by rw [← hl,hlen.1,List.drop_left]
   rw [e1,e2]
   rfl
 · have hb : (chk2 ai as_ bi bs != 0) = true := by simpa using hc
   simp only [hb,cond_true,hc,ne_eq,not_false_eq_true,if_true]
theorem m18 {ai as_ bi bs : List Int} (h1 : ai.length ≤ 1000000) (h2 : as_.length ≤ 1000000) (h3 : bi.length ≤ 1000000) (h4 : bs.length ≤ 1000000) :
   M18.m ⟨ai,as_,bi,bs⟩ = some (if chk2 ai as_ bi bs ≠ 0 then -1 else ((cnt fd ai bi + cnt fd as_ bs : Nat) : Int)) := by
 unfold M18.m
 simp only [M37d_run h1 h2 h3 h4,bindO]
def comp (ai as_ bi bs : List Int) : Bool := decide (chk2 ai as_ bi bs = 0 ∧ cnt fd ai bi + cnt fd as_ bs = 0)
def covs (ai as_ bi bs : List Int) : Bool := decide (chk2 ai as_ bi bs = 0 ∧ cnt fc ai bi + cnt fc as_ bs = 0)
theorem eq0 {c : Int} {n : Nat} : ((if c ≠ 0 then (-1 : Int) else (n : Int)) == 0) = decide (c = 0 ∧ n = 0) := by
 by_cases h : c = 0
 · subst h
   by_cases hn : n = 0
   · subst hn; rfl
   · have : ((n : Int) == 0) = false := by simp only [beq_eq_false_iff_ne,ne_eq]; omega
     simp [hn]
 · simp [h]
theorem m16 {ai as_ bi bs : List Int} (h1 : ai.length ≤ 1000000) (h2 : as_.length ≤ 1000000) (h3 : bi.length ≤ 1000000) (h4 : bs.length ≤ 1000000) : M16.m ⟨ai,as_,bi,bs⟩ = some (comp ai as_ bi bs) := by
 unfold M16.m comp
 simp only [m18 h1 h2 h3 h4,bindO,eq0]
theorem m17 {ai as_ bi bs : List Int} (h1 : ai.length ≤ 1000000) (h2 : as_.length ≤ 1000000) (h3 : bi.length ≤ 1000000) (h4 : bs.length ≤ 1000000) : M17.m ⟨ai,as_,bi,bs⟩ = some (covs ai as_ bi bs) := by
 unfold M17.m covs
 simp only [M37c_run h1 h2 h3 h4,bindO,eq0]
end Cu
end Go.Proofs.Ytnmlmdlhhphcoaa
namespace Go.Proofs.Ytnmlmdlhhphcoaa
open Go.Abs
namespace Cu
theorem m34 {i s : List Int} (hi : i.length ≤ 1000000) (hs : s.length ≤ 1000000) : M34.m ⟨i,s⟩ = some (0,i.length,i.length,0,s.length,s.length,i,s) := by
 have e : ∀ l : List Int,l.length ≤ 1000000 → (decide (0 ≤ (l.length : Int)) && decide ((l.length : Int) * 1 ≤ 281474976710656) && decide ((l.length : Int) ≤ 9223372036854775807)) = true := fun l hl => by
   simp; omega
 have e2 : ∀ l : List Int,(leB l.length l.length && leB l.length (List.replicate l.length (0 : Int)).length) = true := fun l => by
   simp [leB]
 have e3 : ∀ l : List Int,List.take 0 (List.replicate l.length (0 : Int)) ++ l ++ List.drop l.length (List.replicate l.length (0 : Int)) = l := fun l => by
   rw [List.take_zero,List.nil_append,List.drop_eq_nil_of_le (by simp),List.append_nil]
 unfold M34.m
 have k1 := e i hi
 have k2 := e s hs
 simp only [Nat.zero_add,Int.toNat_natCast,Int.ofNat_one,Int.natCast_one,k1,k2,e2,e3,cond_true]
def mn (x y : Int) : Int := if y < x then y else x
def upd (xs l : List Int) (i : Nat) : List Int := (List.zipWith mn xs l).take i ++ xs.drop i
theorem upd_length {xs l : List Int} {i : Nat} (hl : xs.length ≤ l.length) (hi : i ≤ xs.length) : (upd xs l i).length = xs.length := by
 unfold upd
 rw [List.length_append,List.length_take,List.length_zipWith,List.length_drop]
 omega
theorem upd_at {xs l : List Int} {i : Nat} (hl : xs.length ≤ l.length) (hi : i < xs.length) : (upd xs l i)[i]?.getD 0 = xs[i] := by
 unfold upd
 rw [List.getElem?_append_right (by rw [List.length_take]; omega),List.length_take,List.length_zipWith,List.getElem?_drop]
 rw [show i + (i - min i (min xs.length l.length)) = i by omega,List.getElem?_eq_getElem hi]
 rfl
theorem upd_step {xs l : List Int} {i : Nat} (hl : xs.length ≤ l.length) (hi : i < xs.length) : (upd xs l i).set i (mn xs[i] (l[i]'(by omega))) = upd xs l (i + 1) := by
 have hz : i < (List.zipWith mn xs l).length := by rw [List.length_zipWith]; omega
 unfold upd
 rw [List.set_append_right _ _ (by rw [List.length_take]; omega),List.length_take,List.drop_eq_getElem_cons hi,List.take_succ_eq_append_getElem hz,show i - min i (List.zipWith mn xs l).length = 0 by omega,List.set_cons_zero,List.getElem_zipWith,List.append_assoc]
 rfl
theorem upd_end {xs l : List Int} (hl : xs.length ≤ l.length) : upd xs l xs.length = List.zipWith mn xs l := by
 unfold upd
 rw [List.drop_length,List.append_nil,List.take_of_length_le (by rw [List.length_zipWith]; omega)]
theorem upd_0 (xs l : List Int) : upd xs l 0 = xs := by simp [upd]
theorem scan_unit {Y : Type} (E : Unit → Y) : ∀ (l : List Int),scan (fun (_ : Unit) (_ : Int) => (.inl () : Unit ⊕ Y)) E () l = E ()
 | [] => rfl
 | _ :: l => by unfold scan; exact scan_unit E l
theorem m13 {ai as_ bi bs : List Int} (h1 : ai.length ≤ 1000000) (h2 : as_.length ≤ 1000000) (h3 : bi.length ≤ 1000000) (h4 : bs.length ≤ 1000000) :
   M13.m ⟨ai,as_,bi,bs⟩ = some (if chk2 ai as_ bi bs ≠ 0 then ([],[],chk2 ai as_ bi bs) else if comp ai as_ bi bs = true then (List.zipWith mn ai bi,List.zipWith mn as_ bs,0) else ([],[],9)) := by
 unfold M13.m
 simp only [m33 h1 h2 h3 h4,m16 h1 h2 h3 h4,m34 h1 h2,m35 h3 h4,bindO]
 by_cases hc : chk2 ai as_ bi bs = 0
 · have hlen : ai.length = bi.length ∧ as_.length = bs.length := by
     unfold chk2 at hc
     split at hc
     · contradiction
     · split at hc
       · contradiction
       · split at hc
         · cases hc
         · omega
   have hb : (chk2 ai as_ bi bs != 0) = false := by simp [hc]
   simp only [hb,cond_false,hc,ne_eq,not_true,if_false]
   cases hk : comp ai as_ bi bs with
   | false => rfl
   | true =>
     simp only [Bool.not_true,cond_false,if_true]
     unfold M36o.m
     simp only [bindO]
     unfold M13.s0
     generalize hl : bi ++ bs = l
     have hll : l.length = ai.length + as_.length := by rw [← hl,List.length_append]; omega
     have k0 := iter_scan (step := M13.i0_s0) (fun i (_ : Unit) => ⟨(ai.length : Int),(i : Int),upd ai l i,as_,0,ai.length,ai.length,0,as_.length,as_.length,l,0,ai.length,ai.length,0,as_.length,as_.length⟩) ai (fun _ _ => .inl ()) (fun _ => ⟨upd ai l ai.length,as_,0,ai.length,ai.length,0,as_.length,as_.length,l,0,ai.length,ai.length,0,as_.length,as_.length⟩) (fun _ _ => True) (fun i hi _ _ => by
       have hil : i < l.length := by omega
       have e1 : ((i : Int) < (ai.length : Int)) := by omega
       have e2 : i < (upd ai l i).length := by rw [upd_length (by omega) (by omega)]; omega
       have e3 : l[i]?.getD 0 = l[i] := by simp [hil]
       unfold M13.i0_s0 M13.sb0a
       simp only [e1,inR_nat hi,inR_nat hil,getD_at hil,suc (show i < 9000000000000000000 by omega),Int.toNat_natCast,e3,decide_true,cond_true,bindO,Nat.zero_add,e2,upd_at (show ai.length ≤ l.length by omega) hi]
       rw [← upd_step (show ai.length ≤ l.length by omega) hi]
       rfl) (fun _ _ _ _ _ _ => trivial) (fun _ _ => by
       unfold M13.i0_s0
       simp) () trivial
     rw [scan_unit,upd_end (show ai.length ≤ l.length by omega)] at k0
     simp only [upd_0] at k0
     have k0 : iter M13.i0_s0 ⟨(ai.length : Int),0,ai,as_,0,ai.length,ai.length,0,as_.length,as_.length,l,0,ai.length,ai.length,0,as_.length,as_.length⟩ = _ := k0
     generalize hz : List.zipWith mn ai l = zi at k0
     have hd : as_.length ≤ (l.drop ai.length).length := by rw [List.length_drop]; omega
     have k1 := iter_scan (step := M13.i0_s1) (fun i (_ : Unit) => ⟨(as_.length : Int),(i : Int),zi,upd as_ (l.drop ai.length) i,0,ai.length,ai.length,0,as_.length,as_.length,l,0,ai.length,ai.length,0,as_.length,as_.length⟩) as_ (fun _ _ => .inl ()) (fun _ => ⟨zi,upd as_ (l.drop ai.length) as_.length,0,ai.length,ai.length,0,as_.length,as_.length,l,0,ai.length,ai.length,0,as_.length,as_.length⟩) (fun _ _ => True) (fun i hi _ _ => by
       have hil : ai.length + i < l.length := by omega
       have e1 : ((i : Int) < (as_.length : Int)) := by omega
       have ew : IntKind.i64.wrap ((ai.length : Int) + (i : Int)) = ((ai.length + i : Nat) : Int) := by rw [w64 (by omega) (by omega)]; omega
       have e2 : i < (upd as_ (l.drop ai.length) i).length := by rw [upd_length hd (by omega)]; omega
       have e3 : l[ai.length + i]?.getD 0 = (l.drop ai.length)[i]'(by omega) := by simp [hil]
       unfold M13.i0_s1 M13.sb0b
       simp only [e1,ew,inR_nat hi,inR_nat hil,suc (show i < 9000000000000000000 by omega),Int.toNat_natCast,e3,decide_true,cond_true,bindO,Nat.zero_add,e2,upd_at hd hi]
       rw [← upd_step hd hi]
       rfl) (fun _ _ _ _ _ _ => trivial) (fun _ _ => by
       unfold M13.i0_s1
       simp) () trivial
     rw [scan_unit,upd_end hd] at k1
     simp only [upd_0] at k1
     have k1 : iter M13.i0_s1 ⟨(as_.length : Int),0,zi,as_,0,ai.length,ai.length,0,as_.length,as_.length,l,0,ai.length,ai.length,0,as_.length,as_.length⟩ = _ := k1
     simp only [k0,k1,bindO]
     have ez1 : zi = List.zipWith mn ai bi := by
       rw [← hz,← hl]
       have := List.zipWith_append (f := mn) (l₁ := ai) (l₂ := bi) (l₁' := []) (l₂' := bs) hlen.1
       simpa using this
     have ez2 : l.drop ai.length = bs := by rw [← hl,hlen.1,List.drop_left]
     have g1 : leB (0 + ai.length) zi.length = true := by rw [ez1]; simp [leB,List.length_zipWith]; omega
     have g2 : leB (0 + as_.length) (List.zipWith mn as_ bs).length = true := by simp [leB,List.length_zipWith]; omega
     rw [ez2]
     simp only [g1,g2,Bool.and_self,cond_true,List.drop_zero]
     rw [List.take_of_length_le (by rw [ez1,List.length_zipWith]; omega),List.take_of_length_le (by rw [List.length_zipWith]; omega),ez1]
     rfl
 · have hb : (chk2 ai as_ bi bs != 0) = true := by simpa using hc
   simp only [hb,cond_true,hc,ne_eq,not_false_eq_true,if_true]
end Cu
end Go.Proofs.Ytnmlmdlhhphcoaa
namespace Go.Proofs.Ytnmlmdlhhphcoaa
open Go.Abs
namespace Cu
end Cu
end Go.Proofs.Ytnmlmdlhhphcoaa
namespace Go.Proofs.Ytnmlmdlhhphcoaa
open Go.Abs
namespace Cu
def shp (n : Nat) (q : List Int) : List Int := (List.range n).map fun k => q[k]?.getD 2
theorem shp_length (n : Nat) (q : List Int) : (shp n q).length = n := by simp [shp]
theorem shp_succ (n : Nat) (q : List Int) : shp (n + 1) q = shp n q ++ [q[n]?.getD 2] := by simp [shp,List.range_succ]
theorem m12 {pi ps qi qs : List Int} (h1 : pi.length ≤ 1000000) (h2 : ps.length ≤ 1000000) : M12.m ⟨pi,ps,qi,qs⟩ = some (shp pi.length qi,shp ps.length qs) := by
 have el : ∀ (q : List Int) (i : Nat),i < 1000000 → (bif decide ((i : Int) < (q.length : Int)) then q[(i : Int).toNat]?.getD 0 else 2) = q[i]?.getD 2 := fun q i _ => by
   by_cases h : i < q.length
   · have : ((i : Int) < (q.length : Int)) := by omega
     simp [h]
   · have : ¬ ((i : Int) < (q.length : Int)) := by omega
     simp [this,List.getElem?_eq_none (show q.length ≤ i by omega)]
 have gd : ∀ (q : List Int) (i : Nat),(bif bif inR (i : Int) q.length && true then true else bif decide ((i : Int) < (q.length : Int)) then false else true then true else false) = true := fun q i => by
   by_cases h : i < q.length
   · simp [inR_nat h]
   · have : ¬ ((i : Int) < (q.length : Int)) := by omega
     simp [this]
 have gd' : ∀ (q : List Int) (i : Nat),(bif inR (i : Int) q.length && true then true else bif decide ((i : Int) < (q.length : Int)) then false else true) = true := fun q i => by
   by_cases h : i < q.length
   · simp [inR_nat h]
   · have : ¬ ((i : Int) < (q.length : Int)) := by omega
     simp [this]
 have rm : ∀ (q : List Int) (i : Nat),i < 1000000 → (eqN 0 0 && eqN (shp i q).length i && roomB (i + 1) 1) = true := fun q i hi => by
   have a : eqN (shp i q).length i = true := by simp [eqN,shp_length]
   have b : roomB (i + 1) 1 = true := by simp [roomB,leB]; omega
   rw [a,b]; rfl
 have k0 := iter_scan (step := M12.s0) (fun i (_ : Unit) => ⟨(i : Int),pi,ps,qi,qs,0,i,shp i qi⟩) pi (fun _ _ => .inl ()) (fun _ => ⟨pi,ps,qi,qs,0,pi.length,shp pi.length qi⟩) (fun _ _ => True) (fun i hi _ _ => by
   have e1 : ((i : Int) < (pi.length : Int)) := by omega
   unfold M12.s0
   simp only [e1,gd',rm qi i (by omega),el qi i (by omega),suc (show i < 9000000000000000000 by omega),decide_true,cond_true,shp_succ]) (fun _ _ _ _ _ _ => trivial) (fun _ _ => by unfold M12.s0; simp) () trivial
 have k1 := iter_scan (step := M12.s1) (fun i (_ : Unit) => ⟨(i : Int),pi,ps,qi,qs,0,pi.length,0,i,shp pi.length qi,shp i qs⟩) ps (fun _ _ => .inl ()) (fun _ => ⟨pi,ps,qi,qs,0,pi.length,0,ps.length,shp pi.length qi,shp ps.length qs⟩) (fun _ _ => True) (fun i hi _ _ => by
   have e1 : ((i : Int) < (ps.length : Int)) := by omega
   unfold M12.s1
   simp only [e1,gd',rm qs i (by omega),el qs i (by omega),suc (show i < 9000000000000000000 by omega),decide_true,cond_true,shp_succ]) (fun _ _ _ _ _ _ => trivial) (fun _ _ => by unfold M12.s1; simp) () trivial
 rw [scan_unit] at k0 k1
 have k0 : iter M12.s0 ⟨0,pi,ps,qi,qs,0,0,[]⟩ = _ := k0
 have k1 : iter M12.s1 ⟨0,pi,ps,qi,qs,0,pi.length,0,0,shp pi.length qi,[]⟩ = _ := k1
 unfold M12.m
 simp only [k0,k1,bindO]
 have g1 : leB (0 + pi.length) (shp pi.length qi).length = true := by simp [leB,shp_length]
 have g2 : leB (0 + ps.length) (shp ps.length qs).length = true := by simp [leB,shp_length]
 simp only [g1,g2,Bool.and_self,cond_true,List.drop_zero]
 rw [List.take_of_length_le (by rw [shp_length]; omega),List.take_of_length_le (by rw [shp_length]; omega)]
end Cu
end Go.Proofs.Ytnmlmdlhhphcoaa
namespace Go.Proofs.Ytnmlmdlhhphcoaa
open Go.Abs
namespace Cu
def bigP (most : Int) (p : List Int × List Int) : Bool := bif bif decide ((p.1.length : Int) > most) then true else decide ((p.2.length : Int) > most) then true else decide (IntKind.i64.wrap ((p.1.length : Int) + (p.2.length : Int)) > most)
theorem m9 {most : Int} {l : List (List Int × List Int)} (hl : l.length ≤ 1000) : M9.m ⟨most,l⟩ = some (!(l.any (bigP most))) := by
 have key := iter_any (step := M9.s0) (fun k => ⟨most,l,(k : Int)⟩) l (bigP most) (fun _ => .inr ⟨false⟩) (y := .inl ⟨⟩) (fun k hk => by
   have e1 : ((k : Int) < (l.length : Int)) := by omega
   unfold M9.s0
   simp only [e1,inR_nat hk,getD_at hk,suc (show k < 9000000000000000000 by omega),decide_true,cond_true,Bool.true_or]
   show (bif bigP most l[k] then _ else _) = _
   cases bigP most l[k] <;> rfl) (by unfold M9.s0; simp)
 unfold M9.m
 rcases key with ⟨h1,i,h2⟩ | ⟨h1,h2⟩
 · have h2 : iter M9.s0 ⟨most,l,0⟩ = _ := h2
   simp only [h2,bindO,sumC,h1,Bool.not_true]
 · have h2 : iter M9.s0 ⟨most,l,0⟩ = _ := h2
   simp only [h2,bindO,sumC,h1,Bool.not_false]
end Cu
end Go.Proofs.Ytnmlmdlhhphcoaa
namespace Go.Proofs.Ytnmlmdlhhphcoaa
open Go.Abs
namespace Cu
def Va (x : Int) : Prop := x = 0 ∨ x = 1 ∨ x = 2
def Vs (l : List Int) : Prop := ∀ x ∈ l,Va x
theorem Vs.hd {x : Int} {l : List Int} (h : Vs (x :: l)) : Va x := h x (by simp)
theorem Vs.tl {x : Int} {l : List Int} (h : Vs (x :: l)) : Vs l := fun y hy => h y (by simp [hy])
theorem vals_Vs {l : List Int} (h : ∀ x ∈ l,0 ≤ x) : Vs (vals l) := fun x hx => by
 obtain ⟨v,hv,rfl⟩ := List.mem_map.1 hx
 have := h v hv
 show Int.tmod v 3 = 0 ∨ _ ∨ _
 rw [Int.tmod_eq_emod_of_nonneg this]
 omega
theorem cnt_cons (f : Int → Int → Bool) (x y : Int) (l r : List Int) : cnt f (x :: l) (y :: r) = 0 ↔ f x y = false ∧ cnt f l r = 0 := by
 unfold cnt
 rw [List.zip_cons_cons,List.countP_cons]
 cases f x y <;> simp
theorem zw_V : ∀ (l r : List Int),Vs l → Vs r → Vs (List.zipWith mn l r)
 | [],r,_,_ => by intro x hx; simp at hx
 | _ :: _,[],_,_ => by intro x hx; simp at hx
 | x :: l,y :: r,h,h' => by
   intro z hz
   rw [List.zipWith_cons_cons] at hz
   rcases List.mem_cons.1 hz with rfl | hz
   · unfold mn; split
     · exact h'.hd
     · exact h.hd
   · exact zw_V l r h.tl h'.tl z hz
theorem chk_V {i s : List Int} (hi : Vs i) (hs : Vs s) (h : i.length + s.length ≤ 16384) : chk i s = 0 := by
 have hb : ∀ l : List Int,Vs l → bad l = false := fun l hl => by
   unfold bad
   rw [List.any_eq_false]
   intro x hx
   have := hl x hx
   unfold Va at this
   simp
   omega
 unfold chk
 rw [if_neg (by omega),hb i hi,hb s hs]
 rfl
theorem chk2_V {ai as_ bi bs : List Int} (h1 : Vs ai) (h2 : Vs as_) (h3 : Vs bi) (h4 : Vs bs) (e1 : ai.length = bi.length) (e2 : as_.length = bs.length) (h : ai.length + as_.length ≤ 16384) : chk2 ai as_ bi bs = 0 := by
 unfold chk2
 rw [chk_V h1 h2 h,chk_V h3 h4 (by omega)]
 simp [e1,e2]
end Cu
end Go.Proofs.Ytnmlmdlhhphcoaa
namespace Go.Proofs.Ytnmlmdlhhphcoaa
open Go.Abs
def Le {α : Type} (a b : Option α) : Prop := ∀ y,a = some y → b = some y
theorem Le.refl {α : Type} (a : Option α) : Le a a := fun _ h => h
theorem Le.bind {α β : Type} {a b : Option α} {f g : α → Option β} (h : Le a b) (h' : ∀ y,Le (f y) (g y)) : Le (bindO a f) (bindO b g) := fun z hz => by
 obtain ⟨y,h1,h2⟩ := bindO_some hz
 rw [h y h1]; exact h' y z h2
theorem Le.cond {α : Type} {p : Bool} {a b c d : Option α} (h : Le a b) (h' : Le c d) : Le (bif p then a else c) (bif p then b else d) := by cases p <;> assumption
theorem Le.sum {α β γ : Type} {s : α ⊕ β} {f f' : α → Option γ} {g g' : β → Option γ} (h : ∀ y,Le (f y) (f' y)) (h' : ∀ y,Le (g y) (g' y)) : Le (sumC s f g) (sumC s f' g') := by
 cases s with
 | inl y => exact h y
 | inr y => exact h' y
theorem iterN_le {X Y : Type} {s s' : X → Option (X ⊕ Y)} (h : ∀ x,Le (s x) (s' x)) : ∀ (n : Nat) (x : X),Le (iterN s n x) (iterN s' n x)
 | 0,x => fun y hy => by cases hy
 | n + 1,x => fun y hy => by
   unfold iterN at hy ⊢
   split at hy
   · rename_i x' e; rw [h x _ e]; exact iterN_le h n x' y hy
   · rename_i y' e; rw [h x _ e]; exact hy
   · cases hy
theorem Le.iter {X Y : Type} {s s' : X → Option (X ⊕ Y)} {n : Nat} (h : ∀ x,Le (s x) (s' x)) (x : X) : Le (iterN s n x) (Go.Abs.iter s' x) := fun y hy => iter_of (iterN_le h n x y hy)
namespace M29
def sb0' (x : bp0X) : Option (bq0X ⊕ bz0X) := bif decide (x.v > 2) then some (Sum.inr { e := 1,bi := x.bi,bs := x.bs }) else some (Sum.inl { e := x.e,bi := x.bi,bs := x.bs })
theorem sb0_le (x : _) : Le (sb0' x) (sb0 x) := by
 unfold sb0' sb0
 repeat' first | with_reducible exact Le.refl _ | with_reducible apply Le.bind | with_reducible apply Le.cond | with_reducible apply Le.sum | intro _
def i0_s1' (x : i0_p1X) : Option (i0_p1X ⊕ (i0_q1X ⊕ i0_z1X)) := bif decide (x.i2 < x.n2) then bif inR x.i2 x.bs.length then bindO (sb0' { v := x.bs[x.i2.toNat]?.getD 0,e := x.e,bi := x.bi,bs := x.bs }) fun s => sumC s (fun y => some (Sum.inl { n2 := x.n2,i2 := IntKind.i64.wrap (x.i2 + 1),e := y.e,bi := y.bi,bs := y.bs })) fun z => some (Sum.inr (Sum.inr { e := z.e,bi := z.bi,bs := z.bs })) else none
else some (Sum.inr (Sum.inl { e := x.e,bi := x.bi,bs := x.bs }))
theorem i0_s1_le (x : _) : Le (i0_s1' x) (i0_s1 x) := by
 unfold i0_s1' i0_s1
 repeat' first | with_reducible exact Le.refl _ | with_reducible exact sb0_le _ | with_reducible apply Le.bind | with_reducible apply Le.cond | with_reducible apply Le.sum | intro _
def i0_s0' (x : i0_p0X) : Option (i0_p0X ⊕ (i0_q0X ⊕ i0_z0X)) := bif decide (x.i < x.n) then bif inR x.i x.bi.length then bindO (sb0' { v := x.bi[x.i.toNat]?.getD 0,e := x.e,bi := x.bi,bs := x.bs }) fun s => sumC s (fun y => some (Sum.inl { n := x.n,i := IntKind.i64.wrap (x.i + 1),e := y.e,bi := y.bi,bs := y.bs })) fun z => some (Sum.inr (Sum.inr { e := z.e,bi := z.bi,bs := z.bs })) else none
else some (Sum.inr (Sum.inl { e := x.e,bi := x.bi,bs := x.bs }))
theorem i0_s0_le (x : _) : Le (i0_s0' x) (i0_s0 x) := by
 unfold i0_s0' i0_s0
 repeat' first | with_reducible exact Le.refl _ | with_reducible exact sb0_le _ | with_reducible apply Le.bind | with_reducible apply Le.cond | with_reducible apply Le.sum | intro _
def s0' (x : p0X) : Option (q0X ⊕ z0X) := bindO (iterN i0_s0' 200 { n := (↑x.bi.length : Int),i := 0,e := x.e,bi := x.bi,bs := x.bs }) fun s => sumC s (fun y => bindO (iterN i0_s1' 200 { n2 := (↑y.bs.length : Int),i2 := 0,e := y.e,bi := y.bi,bs := y.bs }) fun s => sumC s (fun y => some (Sum.inl { e := y.e,bi := y.bi,bs := y.bs })) fun z => some (Sum.inr { e := z.e,bi := z.bi,bs := z.bs })) fun z => some (Sum.inr { e := z.e,bi := z.bi,bs := z.bs })
theorem s0_le (x : _) : Le (s0' x) (s0 x) := by
 unfold s0' s0
 repeat' first | with_reducible exact Le.refl _ | with_reducible exact Le.iter i0_s1_le _ | with_reducible exact Le.iter i0_s0_le _ | with_reducible apply Le.bind | with_reducible apply Le.cond | with_reducible apply Le.sum | intro _
def m' (x : gX) : Option fY := bif decide (IntKind.i64.wrap ((↑x.i.length : Int) + (↑x.s.length : Int)) > 16384) then some 3
else bindO (M36.m { i := x.i,s := x.s }) fun y => bindO (s0' { e := 0,bi := y.fst,bs := y.snd }) fun s => sumC s (fun y => some 0) fun z => some z.e
theorem m_le (x : _) : Le (m' x) (m x) := by
 unfold m' m
 repeat' first | with_reducible exact Le.refl _ | with_reducible exact s0_le _ | with_reducible apply Le.bind | with_reducible apply Le.cond | with_reducible apply Le.sum | intro _
end M29
namespace M22
def sb0' (x : bp0X) : Option bq0X := bif x.v != 2 then some { n0 := IntKind.i64.wrap (x.n0 + 1),bi := x.bi,bs := x.bs } else some { n0 := x.n0,bi := x.bi,bs := x.bs }
theorem sb0_le (x : _) : Le (sb0' x) (sb0 x) := by
 unfold sb0' sb0
 repeat' first | with_reducible exact Le.refl _ | with_reducible apply Le.bind | with_reducible apply Le.cond | with_reducible apply Le.sum | intro _
def i0_s1' (x : i0_p1X) : Option (i0_p1X ⊕ i0_q1X) := bif decide (x.i2 < x.n2) then bif inR x.i2 x.bs.length then bindO (sb0' { v := x.bs[x.i2.toNat]?.getD 0,n0 := x.n0,bi := x.bi,bs := x.bs }) fun y => some (Sum.inl { n2 := x.n2,i2 := IntKind.i64.wrap (x.i2 + 1),n0 := y.n0,bi := y.bi,bs := y.bs }) else none
else some (Sum.inr { n0 := x.n0,bi := x.bi,bs := x.bs })
theorem i0_s1_le (x : _) : Le (i0_s1' x) (i0_s1 x) := by
 unfold i0_s1' i0_s1
 repeat' first | with_reducible exact Le.refl _ | with_reducible exact sb0_le _ | with_reducible apply Le.bind | with_reducible apply Le.cond | with_reducible apply Le.sum | intro _
def i0_s0' (x : i0_p0X) : Option (i0_p0X ⊕ i0_q0X) := bif decide (x.i < x.n) then bif inR x.i x.bi.length then bindO (sb0' { v := x.bi[x.i.toNat]?.getD 0,n0 := x.n0,bi := x.bi,bs := x.bs }) fun y => some (Sum.inl { n := x.n,i := IntKind.i64.wrap (x.i + 1),n0 := y.n0,bi := y.bi,bs := y.bs }) else none
else some (Sum.inr { n0 := x.n0,bi := x.bi,bs := x.bs })
theorem i0_s0_le (x : _) : Le (i0_s0' x) (i0_s0 x) := by
 unfold i0_s0' i0_s0
 repeat' first | with_reducible exact Le.refl _ | with_reducible exact sb0_le _ | with_reducible apply Le.bind | with_reducible apply Le.cond | with_reducible apply Le.sum | intro _
def s0' (x : p0X) : Option q0X := bindO (iterN i0_s0' 200 { n := (↑x.bi.length : Int),i := 0,n0 := x.n0,bi := x.bi,bs := x.bs }) fun y => bindO (iterN i0_s1' 200 { n2 := (↑y.bs.length : Int),i2 := 0,n0 := y.n0,bi := y.bi,bs := y.bs }) fun y => some { n0 := y.n0,bi := y.bi,bs := y.bs }
theorem s0_le (x : _) : Le (s0' x) (s0 x) := by
 unfold s0' s0
 repeat' first | with_reducible exact Le.refl _ | with_reducible exact Le.iter i0_s1_le _ | with_reducible exact Le.iter i0_s0_le _ | with_reducible apply Le.bind | with_reducible apply Le.cond | with_reducible apply Le.sum | intro _
def m' (x : gX) : Option fY := bindO (M29.m' { i := x.i,s := x.s }) fun y => bif y != 0 then some 0 else bindO (M36.m { i := x.i,s := x.s }) fun y => bindO (s0' { n0 := 0,bi := y.fst,bs := y.snd }) fun y => some y.n0
theorem m_le (x : _) : Le (m' x) (m x) := by
 unfold m' m
 repeat' first | with_reducible exact Le.refl _ | with_reducible exact M29.m_le _ | with_reducible exact s0_le _ | with_reducible apply Le.bind | with_reducible apply Le.cond | with_reducible apply Le.sum | intro _
end M22
namespace M33
def s0' (x : p0X) : Option (p0X ⊕ (q0X ⊕ z0X)) := bif decide (x.i < x.n) then bif inR x.i x.l.length then bindO (M29.m' { i := (x.l[x.i.toNat]?.getD ([],[])).fst,s := (x.l[x.i.toNat]?.getD ([],[])).snd }) fun y => bif y != 0 then some (Sum.inr (Sum.inr { r := y })) else some (Sum.inl { l := x.l,n := x.n,i := IntKind.i64.wrap (x.i + 1),ai := x.ai,as_ := x.as_,bi := x.bi,bs := x.bs }) else none
else some (Sum.inr (Sum.inl { ai := x.ai,as_ := x.as_,bi := x.bi,bs := x.bs }))
theorem s0_le (x : _) : Le (s0' x) (s0 x) := by
 unfold s0' s0
 repeat' first | with_reducible exact Le.refl _ | with_reducible exact M29.m_le _ | with_reducible apply Le.bind | with_reducible apply Le.cond | with_reducible apply Le.sum | intro _
def m' (x : gX) : Option fY := bindO (iterN s0' 200 { l := [(x.ai,x.as_),(x.bi,x.bs)],n := (↑2 : Int),i := 0,ai := x.ai,as_ := x.as_,bi := x.bi,bs := x.bs }) fun s => sumC s (fun y => bif bif (↑y.ai.length : Int) != (↑y.bi.length : Int) then true else (↑y.as_.length : Int) != (↑y.bs.length : Int) then some 8 else some 0) fun z => some z.r
theorem m_le (x : _) : Le (m' x) (m x) := by
 unfold m' m
 repeat' first | with_reducible exact Le.refl _ | with_reducible exact Le.iter s0_le _ | with_reducible apply Le.bind | with_reducible apply Le.cond | with_reducible apply Le.sum | intro _
end M33
namespace M49
def s1' (x : p1X) : Option (p1X ⊕ q1X) := bif decide (x.i < x.n) then bif inR x.i x.l.length then bif eqN x.s_lo 0 && eqN x.xs.length x.s_len && roomB (x.s_len + List.length (x.l[x.i.toNat]?.getD [])) 1 then some (Sum.inl { s_lo := 0,s_len := x.s_len + List.length (x.l[x.i.toNat]?.getD []),l := x.l,n := x.n,i := IntKind.i64.wrap (x.i + 1),xs := x.xs ++ x.l[x.i.toNat]?.getD [] }) else none else none
else some (Sum.inr { s_lo := x.s_lo,s_len := x.s_len,xs := x.xs })
theorem s1_le (x : _) : Le (s1' x) (s1 x) := by
 unfold s1' s1
 repeat' first | with_reducible exact Le.refl _ | with_reducible apply Le.bind | with_reducible apply Le.cond | with_reducible apply Le.sum | intro _
def s0' (x : p0X) : Option (p0X ⊕ q0X) := bif decide (x.i < x.n) then bif inR x.i x.l9.length then bif decide (IntKind.i64.wrap (x.size + (↑(List.length (x.l9[x.i.toNat]?.getD [])) : Int)) < 0) then none else some (Sum.inl { l := x.l,size := IntKind.i64.wrap (x.size + (↑(List.length (x.l9[x.i.toNat]?.getD [])) : Int)),l9 := x.l9,n := x.n,i := IntKind.i64.wrap (x.i + 1) }) else none
else some (Sum.inr { l := x.l,size := x.size })
theorem s0_le (x : _) : Le (s0' x) (s0 x) := by
 unfold s0' s0
 repeat' first | with_reducible exact Le.refl _ | with_reducible apply Le.bind | with_reducible apply Le.cond | with_reducible apply Le.sum | intro _
def m' (x : gX) : Option fY := bindO (iterN s0' 200 { l := x.l,size := 0,l9 := x.l,n := (↑x.l.length : Int),i := 0 }) fun y => bindO (M55.m { n := y.size }) fun y_1 => bindO (iterN s1' 200 { s_lo := y_1.fst,s_len := y_1.snd.fst,l := y.l,n := (↑y.l.length : Int),i := 0,xs := y_1.snd.snd }) fun y => bif leB (y.s_lo + y.s_len) y.xs.length && true && true then some (List.take y.s_len (List.drop y.s_lo y.xs)) else none
theorem m_le (x : _) : Le (m' x) (m x) := by
 unfold m' m
 repeat' first | with_reducible exact Le.refl _ | with_reducible exact Le.iter s1_le _ | with_reducible exact Le.iter s0_le _ | with_reducible apply Le.bind | with_reducible apply Le.cond | with_reducible apply Le.sum | intro _
end M49
namespace M35
def m' (x : gX) : Option fY := bindO (M49.m' { l := [x.i,x.s] }) fun y => some y
theorem m_le (x : _) : Le (m' x) (m x) := by
 unfold m' m
 repeat' first | with_reducible exact Le.refl _ | with_reducible exact M49.m_le _ | with_reducible apply Le.bind | with_reducible apply Le.cond | with_reducible apply Le.sum | intro _
end M35
namespace M38
def m' (x : gX) : Option fY := some (bif x.x != 2 then x.x != x.y else false)
theorem m_le (x : _) : Le (m' x) (m x) := by
 unfold m' m
 repeat' first | with_reducible exact Le.refl _ | with_reducible apply Le.bind | with_reducible apply Le.cond | with_reducible apply Le.sum | intro _
end M38
namespace M39
def m' (x : gX) : Option fY := some (IntKind.u8.wrap (x.x + x.y) == 1)
theorem m_le (x : _) : Le (m' x) (m x) := by
 unfold m' m
 repeat' first | with_reducible exact Le.refl _ | with_reducible apply Le.bind | with_reducible apply Le.cond | with_reducible apply Le.sum | intro _
end M39
namespace M37c
def sb0' (x : bp0X) : Option bq0X := bif inR x.i x.l.length then bindO (M38.m' { x := x.v,y := x.l[x.i.toNat]?.getD 0 }) fun y => bif y then some { n0 := IntKind.i64.wrap (x.n0 + 1),l := x.l,bi := x.bi,bs := x.bs } else some { n0 := x.n0,l := x.l,bi := x.bi,bs := x.bs }
else none
theorem sb0_le (x : _) : Le (sb0' x) (sb0 x) := by
 unfold sb0' sb0
 repeat' first | with_reducible exact Le.refl _ | with_reducible exact M38.m_le _ | with_reducible apply Le.bind | with_reducible apply Le.cond | with_reducible apply Le.sum | intro _
def i0_s1' (x : i0_p1X) : Option (i0_p1X ⊕ i0_q1X) := bif decide (x.i2 < x.n2) then bif inR x.i2 x.bs.length then bindO (sb0' { i := IntKind.i64.wrap ((↑x.bi.length : Int) + x.i2),v := x.bs[x.i2.toNat]?.getD 0,n0 := x.n0,l := x.l,bi := x.bi,bs := x.bs }) fun y => some (Sum.inl { n2 := x.n2,i2 := IntKind.i64.wrap (x.i2 + 1),n0 := y.n0,l := y.l,bi := y.bi,bs := y.bs }) else none
else some (Sum.inr { n0 := x.n0,l := x.l,bi := x.bi,bs := x.bs })
theorem i0_s1_le (x : _) : Le (i0_s1' x) (i0_s1 x) := by
 unfold i0_s1' i0_s1
 repeat' first | with_reducible exact Le.refl _ | with_reducible exact sb0_le _ | with_reducible apply Le.bind | with_reducible apply Le.cond | with_reducible apply Le.sum | intro _
def i0_s0' (x : i0_p0X) : Option (i0_p0X ⊕ i0_q0X) := bif decide (x.i < x.n) then bif inR x.i x.bi.length then bindO (sb0' { i := x.i,v := x.bi[x.i.toNat]?.getD 0,n0 := x.n0,l := x.l,bi := x.bi,bs := x.bs }) fun y => some (Sum.inl { n := x.n,i := IntKind.i64.wrap (x.i + 1),n0 := y.n0,l := y.l,bi := y.bi,bs := y.bs }) else none
else some (Sum.inr { n0 := x.n0,l := x.l,bi := x.bi,bs := x.bs })
theorem i0_s0_le (x : _) : Le (i0_s0' x) (i0_s0 x) := by
 unfold i0_s0' i0_s0
 repeat' first | with_reducible exact Le.refl _ | with_reducible exact sb0_le _ | with_reducible apply Le.bind | with_reducible apply Le.cond | with_reducible apply Le.sum | intro _
def s0' (x : p0X) : Option q0X := bindO (iterN i0_s0' 200 { n := (↑x.bi.length : Int),i := 0,n0 := x.n0,l := x.l,bi := x.bi,bs := x.bs }) fun y => bindO (iterN i0_s1' 200 { n2 := (↑y.bs.length : Int),i2 := 0,n0 := y.n0,l := y.l,bi := y.bi,bs := y.bs }) fun y => some { n0 := y.n0,l := y.l,bi := y.bi,bs := y.bs }
theorem s0_le (x : _) : Le (s0' x) (s0 x) := by
 unfold s0' s0
 repeat' first | with_reducible exact Le.refl _ | with_reducible exact Le.iter i0_s1_le _ | with_reducible exact Le.iter i0_s0_le _ | with_reducible apply Le.bind | with_reducible apply Le.cond | with_reducible apply Le.sum | intro _
def m' (x : gX) : Option fY := bindO (M33.m' { ai := x.ai,as_ := x.as_,bi := x.bi,bs := x.bs }) fun y => bif y != 0 then some (-1) else bindO (M35.m' { i := x.bi,s := x.bs }) fun y => bindO (M36.m { i := x.ai,s := x.as_ }) fun y_1 => bindO (s0' { n0 := 0,l := y,bi := y_1.fst,bs := y_1.snd }) fun y => some y.n0
theorem m_le (x : _) : Le (m' x) (m x) := by
 unfold m' m
 repeat' first | with_reducible exact Le.refl _ | with_reducible exact M33.m_le _ | with_reducible exact M35.m_le _ | with_reducible exact s0_le _ | with_reducible apply Le.bind | with_reducible apply Le.cond | with_reducible apply Le.sum | intro _
end M37c
namespace M37d
def sb0' (x : bp0X) : Option bq0X := bif inR x.i x.l.length then bindO (M39.m' { x := x.v,y := x.l[x.i.toNat]?.getD 0 }) fun y => bif y then some { n0 := IntKind.i64.wrap (x.n0 + 1),l := x.l,bi := x.bi,bs := x.bs } else some { n0 := x.n0,l := x.l,bi := x.bi,bs := x.bs }
else none
theorem sb0_le (x : _) : Le (sb0' x) (sb0 x) := by
 unfold sb0' sb0
 repeat' first | with_reducible exact Le.refl _ | with_reducible exact M39.m_le _ | with_reducible apply Le.bind | with_reducible apply Le.cond | with_reducible apply Le.sum | intro _
def i0_s1' (x : i0_p1X) : Option (i0_p1X ⊕ i0_q1X) := bif decide (x.i2 < x.n2) then bif inR x.i2 x.bs.length then bindO (sb0' { i := IntKind.i64.wrap ((↑x.bi.length : Int) + x.i2),v := x.bs[x.i2.toNat]?.getD 0,n0 := x.n0,l := x.l,bi := x.bi,bs := x.bs }) fun y => some (Sum.inl { n2 := x.n2,i2 := IntKind.i64.wrap (x.i2 + 1),n0 := y.n0,l := y.l,bi := y.bi,bs := y.bs }) else none
else some (Sum.inr { n0 := x.n0,l := x.l,bi := x.bi,bs := x.bs })
theorem i0_s1_le (x : _) : Le (i0_s1' x) (i0_s1 x) := by
 unfold i0_s1' i0_s1
 repeat' first | with_reducible exact Le.refl _ | with_reducible exact sb0_le _ | with_reducible apply Le.bind | with_reducible apply Le.cond | with_reducible apply Le.sum | intro _
def i0_s0' (x : i0_p0X) : Option (i0_p0X ⊕ i0_q0X) := bif decide (x.i < x.n) then bif inR x.i x.bi.length then bindO (sb0' { i := x.i,v := x.bi[x.i.toNat]?.getD 0,n0 := x.n0,l := x.l,bi := x.bi,bs := x.bs }) fun y => some (Sum.inl { n := x.n,i := IntKind.i64.wrap (x.i + 1),n0 := y.n0,l := y.l,bi := y.bi,bs := y.bs }) else none
else some (Sum.inr { n0 := x.n0,l := x.l,bi := x.bi,bs := x.bs })
theorem i0_s0_le (x : _) : Le (i0_s0' x) (i0_s0 x) := by
 unfold i0_s0' i0_s0
 repeat' first | with_reducible exact Le.refl _ | with_reducible exact sb0_le _ | with_reducible apply Le.bind | with_reducible apply Le.cond | with_reducible apply Le.sum | intro _
def s0' (x : p0X) : Option q0X := bindO (iterN i0_s0' 200 { n := (↑x.bi.length : Int),i := 0,n0 := x.n0,l := x.l,bi := x.bi,bs := x.bs }) fun y => bindO (iterN i0_s1' 200 { n2 := (↑y.bs.length : Int),i2 := 0,n0 := y.n0,l := y.l,bi := y.bi,bs := y.bs }) fun y => some { n0 := y.n0,l := y.l,bi := y.bi,bs := y.bs }
theorem s0_le (x : _) : Le (s0' x) (s0 x) := by
 unfold s0' s0
 repeat' first | with_reducible exact Le.refl _ | with_reducible exact Le.iter i0_s1_le _ | with_reducible exact Le.iter i0_s0_le _ | with_reducible apply Le.bind | with_reducible apply Le.cond | with_reducible apply Le.sum | intro _
def m' (x : gX) : Option fY := bindO (M33.m' { ai := x.ai,as_ := x.as_,bi := x.bi,bs := x.bs }) fun y => bif y != 0 then some (-1) else bindO (M35.m' { i := x.bi,s := x.bs }) fun y => bindO (M36.m { i := x.ai,s := x.as_ }) fun y_1 => bindO (s0' { n0 := 0,l := y,bi := y_1.fst,bs := y_1.snd }) fun y => some y.n0
theorem m_le (x : _) : Le (m' x) (m x) := by
 unfold m' m
 repeat' first | with_reducible exact Le.refl _ | with_reducible exact M33.m_le _ | with_reducible exact M35.m_le _ | with_reducible exact s0_le _ | with_reducible apply Le.bind | with_reducible apply Le.cond | with_reducible apply Le.sum | intro _
end M37d
namespace M18
def m' (x : gX) : Option fY := bindO (M37d.m' { ai := x.ai,as_ := x.as_,bi := x.bi,bs := x.bs }) fun y => some y
theorem m_le (x : _) : Le (m' x) (m x) := by
 unfold m' m
 repeat' first | with_reducible exact Le.refl _ | with_reducible exact M37d.m_le _ | with_reducible apply Le.bind | with_reducible apply Le.cond | with_reducible apply Le.sum | intro _
end M18
namespace M16
def m' (x : gX) : Option fY := bindO (M18.m' { ai := x.ai,as_ := x.as_,bi := x.bi,bs := x.bs }) fun y => some (y == 0)
theorem m_le (x : _) : Le (m' x) (m x) := by
 unfold m' m
 repeat' first | with_reducible exact Le.refl _ | with_reducible exact M18.m_le _ | with_reducible apply Le.bind | with_reducible apply Le.cond | with_reducible apply Le.sum | intro _
end M16
namespace M17
def m' (x : gX) : Option fY := bindO (M37c.m' { ai := x.ai,as_ := x.as_,bi := x.bi,bs := x.bs }) fun y => some (y == 0)
theorem m_le (x : _) : Le (m' x) (m x) := by
 unfold m' m
 repeat' first | with_reducible exact Le.refl _ | with_reducible exact M37c.m_le _ | with_reducible apply Le.bind | with_reducible apply Le.cond | with_reducible apply Le.sum | intro _
end M17
namespace M13
def sb0a' (x : bp0aX) : Option bq0aX := bif decide (x.v < x.xs.length) then bif inR x.i x.l.length then bif decide (x.v < x.xs.length) then some { xs := x.xs.set x.v (if x.l[x.i.toNat]?.getD 0 < x.xs[x.v]?.getD 0 then x.l[x.i.toNat]?.getD 0 else x.xs[x.v]?.getD 0),ys := x.ys,oi_lo := x.oi_lo,oi_len := x.oi_len,oi_cap := x.oi_cap,os_lo := x.os_lo,os_len := x.os_len,os_cap := x.os_cap,l := x.l,bi_lo := x.bi_lo,bi_len := x.bi_len,bi_cap := x.bi_cap,bs_lo := x.bs_lo,bs_len := x.bs_len,bs_cap := x.bs_cap } else none else none
else none
theorem sb0a_le (x : _) : Le (sb0a' x) (sb0a x) := by
 unfold sb0a' sb0a
 repeat' first | with_reducible exact Le.refl _ | with_reducible apply Le.bind | with_reducible apply Le.cond | with_reducible apply Le.sum | intro _
def sb0b' (x : bp0bX) : Option bq0bX := bif decide (x.v < x.ys.length) then bif inR x.i x.l.length then bif decide (x.v < x.ys.length) then some { xs := x.xs,ys := x.ys.set x.v (if x.l[x.i.toNat]?.getD 0 < x.ys[x.v]?.getD 0 then x.l[x.i.toNat]?.getD 0 else x.ys[x.v]?.getD 0),oi_lo := x.oi_lo,oi_len := x.oi_len,oi_cap := x.oi_cap,os_lo := x.os_lo,os_len := x.os_len,os_cap := x.os_cap,l := x.l,bi_lo := x.bi_lo,bi_len := x.bi_len,bi_cap := x.bi_cap,bs_lo := x.bs_lo,bs_len := x.bs_len,bs_cap := x.bs_cap } else none else none
else none
theorem sb0b_le (x : _) : Le (sb0b' x) (sb0b x) := by
 unfold sb0b' sb0b
 repeat' first | with_reducible exact Le.refl _ | with_reducible apply Le.bind | with_reducible apply Le.cond | with_reducible apply Le.sum | intro _
def i0_s1' (x : i0_p1X) : Option (i0_p1X ⊕ i0_q1X) := bif decide (x.i2 < x.n2) then bif inR x.i2 x.bs_len then bindO (sb0b' { i := IntKind.i64.wrap ((↑x.bi_len : Int) + x.i2),v := x.bs_lo + x.i2.toNat,xs := x.xs,ys := x.ys,oi_lo := x.oi_lo,oi_len := x.oi_len,oi_cap := x.oi_cap,os_lo := x.os_lo,os_len := x.os_len,os_cap := x.os_cap,l := x.l,bi_lo := x.bi_lo,bi_len := x.bi_len,bi_cap := x.bi_cap,bs_lo := x.bs_lo,bs_len := x.bs_len,bs_cap := x.bs_cap }) fun y => some (Sum.inl { n2 := x.n2,i2 := IntKind.i64.wrap (x.i2 + 1),xs := y.xs,ys := y.ys,oi_lo := y.oi_lo,oi_len := y.oi_len,oi_cap := y.oi_cap,os_lo := y.os_lo,os_len := y.os_len,os_cap := y.os_cap,l := y.l,bi_lo := y.bi_lo,bi_len := y.bi_len,bi_cap := y.bi_cap,bs_lo := y.bs_lo,bs_len := y.bs_len,bs_cap := y.bs_cap }) else none
else
 some
   (Sum.inr
     { xs := x.xs,ys := x.ys,oi_lo := x.oi_lo,oi_len := x.oi_len,oi_cap := x.oi_cap,os_lo := x.os_lo,os_len := x.os_len,os_cap := x.os_cap,l := x.l,bi_lo := x.bi_lo,
       bi_len := x.bi_len,bi_cap := x.bi_cap,bs_lo := x.bs_lo,bs_len := x.bs_len,bs_cap := x.bs_cap })
theorem i0_s1_le (x : _) : Le (i0_s1' x) (i0_s1 x) := by
 unfold i0_s1' i0_s1
 repeat' first | with_reducible exact Le.refl _ | with_reducible exact sb0b_le _ | with_reducible apply Le.bind | with_reducible apply Le.cond | with_reducible apply Le.sum | intro _
def i0_s0' (x : i0_p0X) : Option (i0_p0X ⊕ i0_q0X) := bif decide (x.i < x.n) then bif inR x.i x.bi_len then bindO (sb0a' { i := x.i,v := x.bi_lo + x.i.toNat,xs := x.xs,ys := x.ys,oi_lo := x.oi_lo,oi_len := x.oi_len,oi_cap := x.oi_cap,os_lo := x.os_lo,os_len := x.os_len,os_cap := x.os_cap,l := x.l,bi_lo := x.bi_lo,bi_len := x.bi_len,bi_cap := x.bi_cap,bs_lo := x.bs_lo,bs_len := x.bs_len,bs_cap := x.bs_cap }) fun y => some (Sum.inl { n := x.n,i := IntKind.i64.wrap (x.i + 1),xs := y.xs,ys := y.ys,oi_lo := y.oi_lo,oi_len := y.oi_len,oi_cap := y.oi_cap,os_lo := y.os_lo,os_len := y.os_len,os_cap := y.os_cap,l := y.l,bi_lo := y.bi_lo,bi_len := y.bi_len,bi_cap := y.bi_cap,bs_lo := y.bs_lo,bs_len := y.bs_len,bs_cap := y.bs_cap }) else none
else
 some
   (Sum.inr
     { xs := x.xs,ys := x.ys,oi_lo := x.oi_lo,oi_len := x.oi_len,oi_cap := x.oi_cap,os_lo := x.os_lo,os_len := x.os_len,os_cap := x.os_cap,l := x.l,bi_lo := x.bi_lo,
       bi_len := x.bi_len,bi_cap := x.bi_cap,bs_lo := x.bs_lo,bs_len := x.bs_len,bs_cap := x.bs_cap })
theorem i0_s0_le (x : _) : Le (i0_s0' x) (i0_s0 x) := by
 unfold i0_s0' i0_s0
 repeat' first | with_reducible exact Le.refl _ | with_reducible exact sb0a_le _ | with_reducible apply Le.bind | with_reducible apply Le.cond | with_reducible apply Le.sum | intro _
def s0' (x : p0X) : Option q0X := bindO (iterN i0_s0' 200 { n := (↑x.bi_len : Int),i := 0,xs := x.xs,ys := x.ys,oi_lo := x.oi_lo,oi_len := x.oi_len,oi_cap := x.oi_cap,os_lo := x.os_lo,os_len := x.os_len,os_cap := x.os_cap,l := x.l,bi_lo := x.bi_lo,bi_len := x.bi_len,bi_cap := x.bi_cap,bs_lo := x.bs_lo,bs_len := x.bs_len,bs_cap := x.bs_cap }) fun y => bindO (iterN i0_s1' 200 { n2 := (↑y.bs_len : Int),i2 := 0,xs := y.xs,ys := y.ys,oi_lo := y.oi_lo,oi_len := y.oi_len,oi_cap := y.oi_cap,os_lo := y.os_lo,os_len := y.os_len,os_cap := y.os_cap,l := y.l,bi_lo := y.bi_lo,bi_len := y.bi_len,bi_cap := y.bi_cap,bs_lo := y.bs_lo,bs_len := y.bs_len,bs_cap := y.bs_cap }) fun y => some { xs := y.xs,ys := y.ys,oi_lo := y.oi_lo,oi_len := y.oi_len,oi_cap := y.oi_cap,os_lo := y.os_lo,os_len := y.os_len,os_cap := y.os_cap,l := y.l,bi_lo := y.bi_lo,bi_len := y.bi_len,bi_cap := y.bi_cap,bs_lo := y.bs_lo,bs_len := y.bs_len,bs_cap := y.bs_cap }
theorem s0_le (x : _) : Le (s0' x) (s0 x) := by
 unfold s0' s0
 repeat' first | with_reducible exact Le.refl _ | with_reducible exact Le.iter i0_s1_le _ | with_reducible exact Le.iter i0_s0_le _ | with_reducible apply Le.bind | with_reducible apply Le.cond | with_reducible apply Le.sum | intro _
def m' (x : gX) : Option fY := bindO (M33.m' { ai := x.ai,as_ := x.as_,bi := x.bi,bs := x.bs }) fun y => bif y != 0 then some ([],[],y) else bindO (M16.m' { ai := x.ai,as_ := x.as_,bi := x.bi,bs := x.bs }) fun y => bif !y then some ([],[],9) else bindO (M34.m { i := x.ai,s := x.as_ }) fun y => bindO (M35.m' { i := x.bi,s := x.bs }) fun y_1 => bindO (M36o.m { i_lo := y.fst,i_len := y.snd.fst,i_cap := y.snd.snd.fst,s_lo := y.snd.snd.snd.fst,s_len := y.snd.snd.snd.snd.fst,s_cap := y.snd.snd.snd.snd.snd.fst,xs := y.snd.snd.snd.snd.snd.snd.fst,ys := y.snd.snd.snd.snd.snd.snd.snd }) fun y_2 => bindO (s0' { xs := y_2.fst,ys := y_2.snd.fst,oi_lo := y.fst,oi_len := y.snd.fst,oi_cap := y.snd.snd.fst,os_lo := y.snd.snd.snd.fst,os_len := y.snd.snd.snd.snd.fst,os_cap := y.snd.snd.snd.snd.snd.fst,l := y_1,bi_lo := y_2.snd.snd.fst,bi_len := y_2.snd.snd.snd.fst,bi_cap := y_2.snd.snd.snd.snd.fst,bs_lo := y_2.snd.snd.snd.snd.snd.fst,bs_len := y_2.snd.snd.snd.snd.snd.snd.fst,bs_cap := y_2.snd.snd.snd.snd.snd.snd.snd }) fun y => bif leB (y.oi_lo + y.oi_len) y.xs.length && (leB (y.os_lo + y.os_len) y.ys.length && true) && true && true && true then some (List.take y.oi_len (List.drop y.oi_lo y.xs),List.take y.os_len (List.drop y.os_lo y.ys),0) else none
theorem m_le (x : _) : Le (m' x) (m x) := by
 unfold m' m
 repeat' first | with_reducible exact Le.refl _ | with_reducible exact M33.m_le _ | with_reducible exact M35.m_le _ | with_reducible exact M16.m_le _ | with_reducible exact s0_le _ | with_reducible apply Le.bind | with_reducible apply Le.cond | with_reducible apply Le.sum | intro _
end M13
namespace M40
def s0' (x : p0X) : Option (p0X ⊕ (q0X ⊕ z0X)) := bif decide (x.i < x.n) then bif inR x.i x.s.length then bindO (M41.m { v := x.s[x.i.toNat]?.getD 0 }) fun y => bif y then some (Sum.inr (Sum.inr { r := x.i })) else some (Sum.inl { s := x.s,n := x.n,i := IntKind.i64.wrap (x.i + 1) }) else none
else some (Sum.inr (Sum.inl PUnit.unit))
theorem s0_le (x : _) : Le (s0' x) (s0 x) := by
 unfold s0' s0
 repeat' first | with_reducible exact Le.refl _ | with_reducible apply Le.bind | with_reducible apply Le.cond | with_reducible apply Le.sum | intro _
def m' (x : gX) : Option fY := bindO (iterN s0' 200 { s := x.s,n := (↑x.s.length : Int),i := 0 }) fun s => sumC s (fun y => some (-1)) fun z => some z.r
theorem m_le (x : _) : Le (m' x) (m x) := by
 unfold m' m
 repeat' first | with_reducible exact Le.refl _ | with_reducible exact Le.iter s0_le _ | with_reducible apply Le.bind | with_reducible apply Le.cond | with_reducible apply Le.sum | intro _
end M40
namespace M19
def sb0a' (x : bp0aX) : Option bq0aX := bif decide (x.v < x.xs.length) then bif x.xs[x.v]?.getD 0 == 2 then bif decide (x.v < x.xs.length) then some { w := x.w,last := x.last,xs := x.xs.set x.v x.last,ys := x.ys,oi_lo := x.oi_lo,oi_len := x.oi_len,oi_cap := x.oi_cap,os_lo := x.os_lo,os_len := x.os_len,os_cap := x.os_cap,bi_lo := x.bi_lo,bi_len := x.bi_len,bi_cap := x.bi_cap,bs_lo := x.bs_lo,bs_len := x.bs_len,bs_cap := x.bs_cap } else none else bif x.w == 2 then bif decide (x.v < x.xs.length) then some { w := x.w,last := x.xs[x.v]?.getD 0,xs := x.xs,ys := x.ys,oi_lo := x.oi_lo,oi_len := x.oi_len,oi_cap := x.oi_cap,os_lo := x.os_lo,os_len := x.os_len,os_cap := x.os_cap,bi_lo := x.bi_lo,bi_len := x.bi_len,bi_cap := x.bi_cap,bs_lo := x.bs_lo,bs_len := x.bs_len,bs_cap := x.bs_cap } else none else some { w := x.w,last := x.last,xs := x.xs,ys := x.ys,oi_lo := x.oi_lo,oi_len := x.oi_len,oi_cap := x.oi_cap,os_lo := x.os_lo,os_len := x.os_len,os_cap := x.os_cap,bi_lo := x.bi_lo,bi_len := x.bi_len,bi_cap := x.bi_cap,bs_lo := x.bs_lo,bs_len := x.bs_len,bs_cap := x.bs_cap }
else none
theorem sb0a_le (x : _) : Le (sb0a' x) (sb0a x) := by
 unfold sb0a' sb0a
 repeat' first | with_reducible exact Le.refl _ | with_reducible apply Le.bind | with_reducible apply Le.cond | with_reducible apply Le.sum | intro _
def sb0b' (x : bp0bX) : Option bq0bX := bif decide (x.v < x.ys.length) then bif x.ys[x.v]?.getD 0 == 2 then bif decide (x.v < x.ys.length) then some { w := x.w,last := x.last,xs := x.xs,ys := x.ys.set x.v x.last,oi_lo := x.oi_lo,oi_len := x.oi_len,oi_cap := x.oi_cap,os_lo := x.os_lo,os_len := x.os_len,os_cap := x.os_cap,bi_lo := x.bi_lo,bi_len := x.bi_len,bi_cap := x.bi_cap,bs_lo := x.bs_lo,bs_len := x.bs_len,bs_cap := x.bs_cap } else none else bif x.w == 2 then bif decide (x.v < x.ys.length) then some { w := x.w,last := x.ys[x.v]?.getD 0,xs := x.xs,ys := x.ys,oi_lo := x.oi_lo,oi_len := x.oi_len,oi_cap := x.oi_cap,os_lo := x.os_lo,os_len := x.os_len,os_cap := x.os_cap,bi_lo := x.bi_lo,bi_len := x.bi_len,bi_cap := x.bi_cap,bs_lo := x.bs_lo,bs_len := x.bs_len,bs_cap := x.bs_cap } else none else some { w := x.w,last := x.last,xs := x.xs,ys := x.ys,oi_lo := x.oi_lo,oi_len := x.oi_len,oi_cap := x.oi_cap,os_lo := x.os_lo,os_len := x.os_len,os_cap := x.os_cap,bi_lo := x.bi_lo,bi_len := x.bi_len,bi_cap := x.bi_cap,bs_lo := x.bs_lo,bs_len := x.bs_len,bs_cap := x.bs_cap }
else none
theorem sb0b_le (x : _) : Le (sb0b' x) (sb0b x) := by
 unfold sb0b' sb0b
 repeat' first | with_reducible exact Le.refl _ | with_reducible apply Le.bind | with_reducible apply Le.cond | with_reducible apply Le.sum | intro _
def i0_s1' (x : i0_p1X) : Option (i0_p1X ⊕ i0_q1X) := bif decide (x.i2 < x.n2) then bif inR x.i2 x.bs_len then bindO (sb0b' { v := x.bs_lo + x.i2.toNat,w := x.w,last := x.last,xs := x.xs,ys := x.ys,oi_lo := x.oi_lo,oi_len := x.oi_len,oi_cap := x.oi_cap,os_lo := x.os_lo,os_len := x.os_len,os_cap := x.os_cap,bi_lo := x.bi_lo,bi_len := x.bi_len,bi_cap := x.bi_cap,bs_lo := x.bs_lo,bs_len := x.bs_len,bs_cap := x.bs_cap }) fun y => some (Sum.inl { n2 := x.n2,i2 := IntKind.i64.wrap (x.i2 + 1),w := y.w,last := y.last,xs := y.xs,ys := y.ys,oi_lo := y.oi_lo,oi_len := y.oi_len,oi_cap := y.oi_cap,os_lo := y.os_lo,os_len := y.os_len,os_cap := y.os_cap,bi_lo := y.bi_lo,bi_len := y.bi_len,bi_cap := y.bi_cap,bs_lo := y.bs_lo,bs_len := y.bs_len,bs_cap := y.bs_cap }) else none
else
 some
   (Sum.inr
     { w := x.w,last := x.last,xs := x.xs,ys := x.ys,oi_lo := x.oi_lo,oi_len := x.oi_len,oi_cap := x.oi_cap,os_lo := x.os_lo,os_len := x.os_len,os_cap := x.os_cap,
       bi_lo := x.bi_lo,bi_len := x.bi_len,bi_cap := x.bi_cap,bs_lo := x.bs_lo,bs_len := x.bs_len,bs_cap := x.bs_cap })
theorem i0_s1_le (x : _) : Le (i0_s1' x) (i0_s1 x) := by
 unfold i0_s1' i0_s1
 repeat' first | with_reducible exact Le.refl _ | with_reducible exact sb0b_le _ | with_reducible apply Le.bind | with_reducible apply Le.cond | with_reducible apply Le.sum | intro _
def i0_s0' (x : i0_p0X) : Option (i0_p0X ⊕ i0_q0X) := bif decide (x.i < x.n) then bif inR x.i x.bi_len then bindO (sb0a' { v := x.bi_lo + x.i.toNat,w := x.w,last := x.last,xs := x.xs,ys := x.ys,oi_lo := x.oi_lo,oi_len := x.oi_len,oi_cap := x.oi_cap,os_lo := x.os_lo,os_len := x.os_len,os_cap := x.os_cap,bi_lo := x.bi_lo,bi_len := x.bi_len,bi_cap := x.bi_cap,bs_lo := x.bs_lo,bs_len := x.bs_len,bs_cap := x.bs_cap }) fun y => some (Sum.inl { n := x.n,i := IntKind.i64.wrap (x.i + 1),w := y.w,last := y.last,xs := y.xs,ys := y.ys,oi_lo := y.oi_lo,oi_len := y.oi_len,oi_cap := y.oi_cap,os_lo := y.os_lo,os_len := y.os_len,os_cap := y.os_cap,bi_lo := y.bi_lo,bi_len := y.bi_len,bi_cap := y.bi_cap,bs_lo := y.bs_lo,bs_len := y.bs_len,bs_cap := y.bs_cap }) else none
else
 some
   (Sum.inr
     { w := x.w,last := x.last,xs := x.xs,ys := x.ys,oi_lo := x.oi_lo,oi_len := x.oi_len,oi_cap := x.oi_cap,os_lo := x.os_lo,os_len := x.os_len,os_cap := x.os_cap,
       bi_lo := x.bi_lo,bi_len := x.bi_len,bi_cap := x.bi_cap,bs_lo := x.bs_lo,bs_len := x.bs_len,bs_cap := x.bs_cap })
theorem i0_s0_le (x : _) : Le (i0_s0' x) (i0_s0 x) := by
 unfold i0_s0' i0_s0
 repeat' first | with_reducible exact Le.refl _ | with_reducible exact sb0a_le _ | with_reducible apply Le.bind | with_reducible apply Le.cond | with_reducible apply Le.sum | intro _
def s0' (x : p0X) : Option q0X := bindO (iterN i0_s0' 200 { n := (↑x.bi_len : Int),i := 0,w := x.w,last := x.last,xs := x.xs,ys := x.ys,oi_lo := x.oi_lo,oi_len := x.oi_len,oi_cap := x.oi_cap,os_lo := x.os_lo,os_len := x.os_len,os_cap := x.os_cap,bi_lo := x.bi_lo,bi_len := x.bi_len,bi_cap := x.bi_cap,bs_lo := x.bs_lo,bs_len := x.bs_len,bs_cap := x.bs_cap }) fun y => bindO (iterN i0_s1' 200 { n2 := (↑y.bs_len : Int),i2 := 0,w := y.w,last := y.last,xs := y.xs,ys := y.ys,oi_lo := y.oi_lo,oi_len := y.oi_len,oi_cap := y.oi_cap,os_lo := y.os_lo,os_len := y.os_len,os_cap := y.os_cap,bi_lo := y.bi_lo,bi_len := y.bi_len,bi_cap := y.bi_cap,bs_lo := y.bs_lo,bs_len := y.bs_len,bs_cap := y.bs_cap }) fun y => some { w := y.w,last := y.last,xs := y.xs,ys := y.ys,oi_lo := y.oi_lo,oi_len := y.oi_len,oi_cap := y.oi_cap,os_lo := y.os_lo,os_len := y.os_len,os_cap := y.os_cap,bi_lo := y.bi_lo,bi_len := y.bi_len,bi_cap := y.bi_cap,bs_lo := y.bs_lo,bs_len := y.bs_len,bs_cap := y.bs_cap }
theorem s0_le (x : _) : Le (s0' x) (s0 x) := by
 unfold s0' s0
 repeat' first | with_reducible exact Le.refl _ | with_reducible exact Le.iter i0_s1_le _ | with_reducible exact Le.iter i0_s0_le _ | with_reducible apply Le.bind | with_reducible apply Le.cond | with_reducible apply Le.sum | intro _
def m' (x : gX) : Option fY := bindO (M29.m' { i := x.i,s := x.s }) fun y => bif y != 0 then some ([],[],y) else bif x.w == 0 then bindO (M34.m { i := x.i,s := x.s }) fun y => bindO (M36o.m { i_lo := y.fst,i_len := y.snd.fst,i_cap := y.snd.snd.fst,s_lo := y.snd.snd.snd.fst,s_len := y.snd.snd.snd.snd.fst,s_cap := y.snd.snd.snd.snd.snd.fst,xs := y.snd.snd.snd.snd.snd.snd.fst,ys := y.snd.snd.snd.snd.snd.snd.snd }) fun y_1 => bindO (s0' { w := x.w,last := 0,xs := y_1.fst,ys := y_1.snd.fst,oi_lo := y.fst,oi_len := y.snd.fst,oi_cap := y.snd.snd.fst,os_lo := y.snd.snd.snd.fst,os_len := y.snd.snd.snd.snd.fst,os_cap := y.snd.snd.snd.snd.snd.fst,bi_lo := y_1.snd.snd.fst,bi_len := y_1.snd.snd.snd.fst,bi_cap := y_1.snd.snd.snd.snd.fst,bs_lo := y_1.snd.snd.snd.snd.snd.fst,bs_len := y_1.snd.snd.snd.snd.snd.snd.fst,bs_cap := y_1.snd.snd.snd.snd.snd.snd.snd }) fun y => bif leB (y.oi_lo + y.oi_len) y.xs.length && (leB (y.os_lo + y.os_len) y.ys.length && true) && true && true && true then some (List.take y.oi_len (List.drop y.oi_lo y.xs),List.take y.os_len (List.drop y.os_lo y.ys),0) else none else bif x.w == 1 then bindO (M34.m { i := x.i,s := x.s }) fun y => bindO (M36o.m { i_lo := y.fst,i_len := y.snd.fst,i_cap := y.snd.snd.fst,s_lo := y.snd.snd.snd.fst,s_len := y.snd.snd.snd.snd.fst,s_cap := y.snd.snd.snd.snd.snd.fst,xs := y.snd.snd.snd.snd.snd.snd.fst,ys := y.snd.snd.snd.snd.snd.snd.snd }) fun y_1 => bindO (s0' { w := x.w,last := 1,xs := y_1.fst,ys := y_1.snd.fst,oi_lo := y.fst,oi_len := y.snd.fst,oi_cap := y.snd.snd.fst,os_lo := y.snd.snd.snd.fst,os_len := y.snd.snd.snd.snd.fst,os_cap := y.snd.snd.snd.snd.snd.fst,bi_lo := y_1.snd.snd.fst,bi_len := y_1.snd.snd.snd.fst,bi_cap := y_1.snd.snd.snd.snd.fst,bs_lo := y_1.snd.snd.snd.snd.snd.fst,bs_len := y_1.snd.snd.snd.snd.snd.snd.fst,bs_cap := y_1.snd.snd.snd.snd.snd.snd.snd }) fun y => bif leB (y.oi_lo + y.oi_len) y.xs.length && (leB (y.os_lo + y.os_len) y.ys.length && true) && true && true && true then some (List.take y.oi_len (List.drop y.oi_lo y.xs),List.take y.os_len (List.drop y.os_lo y.ys),0) else none else bif x.w == 2 then bindO (M35.m' { i := x.i,s := x.s }) fun y => bindO (M40.m' { s := y }) fun y => bif decide (y ≥ 0) then bindO (M35.m' { i := x.i,s := x.s }) fun y_1 => bif inR y (List.length y_1) then bindO (M34.m { i := x.i,s := x.s }) fun y_2 => bindO (M36o.m { i_lo := y_2.fst,i_len := y_2.snd.fst,i_cap := y_2.snd.snd.fst,s_lo := y_2.snd.snd.snd.fst,s_len := y_2.snd.snd.snd.snd.fst,s_cap := y_2.snd.snd.snd.snd.snd.fst,xs := y_2.snd.snd.snd.snd.snd.snd.fst,ys := y_2.snd.snd.snd.snd.snd.snd.snd }) fun y_3 => bindO (s0' { w := x.w,last := y_1[Int.toNat y]?.getD 0,xs := y_3.fst,ys := y_3.snd.fst,oi_lo := y_2.fst,oi_len := y_2.snd.fst,oi_cap := y_2.snd.snd.fst,os_lo := y_2.snd.snd.snd.fst,os_len := y_2.snd.snd.snd.snd.fst,os_cap := y_2.snd.snd.snd.snd.snd.fst,bi_lo := y_3.snd.snd.fst,bi_len := y_3.snd.snd.snd.fst,bi_cap := y_3.snd.snd.snd.snd.fst,bs_lo := y_3.snd.snd.snd.snd.snd.fst,bs_len := y_3.snd.snd.snd.snd.snd.snd.fst,bs_cap := y_3.snd.snd.snd.snd.snd.snd.snd }) fun y => bif leB (y.oi_lo + y.oi_len) y.xs.length && (leB (y.os_lo + y.os_len) y.ys.length && true) && true && true && true then some (List.take y.oi_len (List.drop y.oi_lo y.xs),List.take y.os_len (List.drop y.os_lo y.ys),0) else none else none else bindO (M34.m { i := x.i,s := x.s }) fun y => bindO (M36o.m { i_lo := y.fst,i_len := y.snd.fst,i_cap := y.snd.snd.fst,s_lo := y.snd.snd.snd.fst,s_len := y.snd.snd.snd.snd.fst,s_cap := y.snd.snd.snd.snd.snd.fst,xs := y.snd.snd.snd.snd.snd.snd.fst,ys := y.snd.snd.snd.snd.snd.snd.snd }) fun y_1 => bindO (s0' { w := x.w,last := 0,xs := y_1.fst,ys := y_1.snd.fst,oi_lo := y.fst,oi_len := y.snd.fst,oi_cap := y.snd.snd.fst,os_lo := y.snd.snd.snd.fst,os_len := y.snd.snd.snd.snd.fst,os_cap := y.snd.snd.snd.snd.snd.fst,bi_lo := y_1.snd.snd.fst,bi_len := y_1.snd.snd.snd.fst,bi_cap := y_1.snd.snd.snd.snd.fst,bs_lo := y_1.snd.snd.snd.snd.snd.fst,bs_len := y_1.snd.snd.snd.snd.snd.snd.fst,bs_cap := y_1.snd.snd.snd.snd.snd.snd.snd }) fun y => bif leB (y.oi_lo + y.oi_len) y.xs.length && (leB (y.os_lo + y.os_len) y.ys.length && true) && true && true && true then some (List.take y.oi_len (List.drop y.oi_lo y.xs),List.take y.os_len (List.drop y.os_lo y.ys),0) else none else some ([],[],1)
theorem m_le (x : _) : Le (m' x) (m x) := by
 unfold m' m
 repeat' first | with_reducible exact Le.refl _ | with_reducible exact M29.m_le _ | with_reducible exact M35.m_le _ | with_reducible exact M40.m_le _ | with_reducible exact s0_le _ | with_reducible apply Le.bind | with_reducible apply Le.cond | with_reducible apply Le.sum | intro _
end M19
namespace M47
def m' (x : gX) : Option fY := bindO (M53.m { s := x.s,sep := x.sep }) fun y => some (y.fst,y.snd.fst,y.snd.snd)
theorem m_le (x : _) : Le (m' x) (m x) := by
 unfold m' m
 repeat' first | with_reducible exact Le.refl _ | with_reducible apply Le.bind | with_reducible apply Le.cond | with_reducible apply Le.sum | intro _
end M47
namespace M27
def sb0a' (x : bp0aX) : Option (bq0aX ⊕ bz0aX) := bif leB (x.left.length + x.right.length) 9223372036854775807 then bif inR x.i (x.left ++ x.right).length then bindO (M48.m { s := [48,49,88],c := byteAt (x.left ++ x.right) x.i.toNat }) fun y => bif decide (y < 0) then some (Sum.inr { ri := [],rs := [],e := 4,left := x.left,right := x.right,xs := x.xs,ys := x.ys,oi_lo := x.oi_lo,oi_len := x.oi_len,oi_cap := x.oi_cap,os_lo := x.os_lo,os_len := x.os_len,os_cap := x.os_cap,bi_lo := x.bi_lo,bi_len := x.bi_len,bi_cap := x.bi_cap,bs_lo := x.bs_lo,bs_len := x.bs_len,bs_cap := x.bs_cap }) else bif decide (x.v < x.xs.length) then some (Sum.inl { ri := x.ri,rs := x.rs,e := x.e,left := x.left,right := x.right,xs := x.xs.set x.v (IntKind.u8.wrap y),ys := x.ys,oi_lo := x.oi_lo,oi_len := x.oi_len,oi_cap := x.oi_cap,os_lo := x.os_lo,os_len := x.os_len,os_cap := x.os_cap,bi_lo := x.bi_lo,bi_len := x.bi_len,bi_cap := x.bi_cap,bs_lo := x.bs_lo,bs_len := x.bs_len,bs_cap := x.bs_cap }) else none else none
else none
theorem sb0a_le (x : _) : Le (sb0a' x) (sb0a x) := by
 unfold sb0a' sb0a
 repeat' first | with_reducible exact Le.refl _ | with_reducible apply Le.bind | with_reducible apply Le.cond | with_reducible apply Le.sum | intro _
def sb0b' (x : bp0bX) : Option (bq0bX ⊕ bz0bX) := bif leB (x.left.length + x.right.length) 9223372036854775807 then bif inR x.i (x.left ++ x.right).length then bindO (M48.m { s := [48,49,88],c := byteAt (x.left ++ x.right) x.i.toNat }) fun y => bif decide (y < 0) then some (Sum.inr { ri := [],rs := [],e := 4,left := x.left,right := x.right,xs := x.xs,ys := x.ys,oi_lo := x.oi_lo,oi_len := x.oi_len,oi_cap := x.oi_cap,os_lo := x.os_lo,os_len := x.os_len,os_cap := x.os_cap,bi_lo := x.bi_lo,bi_len := x.bi_len,bi_cap := x.bi_cap,bs_lo := x.bs_lo,bs_len := x.bs_len,bs_cap := x.bs_cap }) else bif decide (x.v < x.ys.length) then some (Sum.inl { ri := x.ri,rs := x.rs,e := x.e,left := x.left,right := x.right,xs := x.xs,ys := x.ys.set x.v (IntKind.u8.wrap y),oi_lo := x.oi_lo,oi_len := x.oi_len,oi_cap := x.oi_cap,os_lo := x.os_lo,os_len := x.os_len,os_cap := x.os_cap,bi_lo := x.bi_lo,bi_len := x.bi_len,bi_cap := x.bi_cap,bs_lo := x.bs_lo,bs_len := x.bs_len,bs_cap := x.bs_cap }) else none else none
else none
theorem sb0b_le (x : _) : Le (sb0b' x) (sb0b x) := by
 unfold sb0b' sb0b
 repeat' first | with_reducible exact Le.refl _ | with_reducible apply Le.bind | with_reducible apply Le.cond | with_reducible apply Le.sum | intro _
def i0_s1' (x : i0_p1X) : Option (i0_p1X ⊕ (i0_q1X ⊕ i0_z1X)) := bif decide (x.i2 < x.n2) then bif inR x.i2 x.bs_len then bindO (sb0b' { i := IntKind.i64.wrap ((↑x.bi_len : Int) + x.i2),v := x.bs_lo + x.i2.toNat,ri := x.ri,rs := x.rs,e := x.e,left := x.left,right := x.right,xs := x.xs,ys := x.ys,oi_lo := x.oi_lo,oi_len := x.oi_len,oi_cap := x.oi_cap,os_lo := x.os_lo,os_len := x.os_len,os_cap := x.os_cap,bi_lo := x.bi_lo,bi_len := x.bi_len,bi_cap := x.bi_cap,bs_lo := x.bs_lo,bs_len := x.bs_len,bs_cap := x.bs_cap }) fun s => sumC s (fun y => some (Sum.inl { n2 := x.n2,i2 := IntKind.i64.wrap (x.i2 + 1),ri := y.ri,rs := y.rs,e := y.e,left := y.left,right := y.right,xs := y.xs,ys := y.ys,oi_lo := y.oi_lo,oi_len := y.oi_len,oi_cap := y.oi_cap,os_lo := y.os_lo,os_len := y.os_len,os_cap := y.os_cap,bi_lo := y.bi_lo,bi_len := y.bi_len,bi_cap := y.bi_cap,bs_lo := y.bs_lo,bs_len := y.bs_len,bs_cap := y.bs_cap })) fun z => some (Sum.inr (Sum.inr { ri := z.ri,rs := z.rs,e := z.e,left := z.left,right := z.right,xs := z.xs,ys := z.ys,oi_lo := z.oi_lo,oi_len := z.oi_len,oi_cap := z.oi_cap,os_lo := z.os_lo,os_len := z.os_len,os_cap := z.os_cap,bi_lo := z.bi_lo,bi_len := z.bi_len,bi_cap := z.bi_cap,bs_lo := z.bs_lo,bs_len := z.bs_len,bs_cap := z.bs_cap })) else none
else
 some
   (Sum.inr
     (Sum.inl
       { ri := x.ri,rs := x.rs,e := x.e,left := x.left,right := x.right,xs := x.xs,ys := x.ys,oi_lo := x.oi_lo,oi_len := x.oi_len,oi_cap := x.oi_cap,os_lo := x.os_lo,
         os_len := x.os_len,os_cap := x.os_cap,bi_lo := x.bi_lo,bi_len := x.bi_len,bi_cap := x.bi_cap,bs_lo := x.bs_lo,bs_len := x.bs_len,bs_cap := x.bs_cap }))
theorem i0_s1_le (x : _) : Le (i0_s1' x) (i0_s1 x) := by
 unfold i0_s1' i0_s1
 repeat' first | with_reducible exact Le.refl _ | with_reducible exact sb0b_le _ | with_reducible apply Le.bind | with_reducible apply Le.cond | with_reducible apply Le.sum | intro _
def i0_s0' (x : i0_p0X) : Option (i0_p0X ⊕ (i0_q0X ⊕ i0_z0X)) := bif decide (x.i < x.n) then bif inR x.i x.bi_len then bindO (sb0a' { i := x.i,v := x.bi_lo + x.i.toNat,ri := x.ri,rs := x.rs,e := x.e,left := x.left,right := x.right,xs := x.xs,ys := x.ys,oi_lo := x.oi_lo,oi_len := x.oi_len,oi_cap := x.oi_cap,os_lo := x.os_lo,os_len := x.os_len,os_cap := x.os_cap,bi_lo := x.bi_lo,bi_len := x.bi_len,bi_cap := x.bi_cap,bs_lo := x.bs_lo,bs_len := x.bs_len,bs_cap := x.bs_cap }) fun s => sumC s (fun y => some (Sum.inl { n := x.n,i := IntKind.i64.wrap (x.i + 1),ri := y.ri,rs := y.rs,e := y.e,left := y.left,right := y.right,xs := y.xs,ys := y.ys,oi_lo := y.oi_lo,oi_len := y.oi_len,oi_cap := y.oi_cap,os_lo := y.os_lo,os_len := y.os_len,os_cap := y.os_cap,bi_lo := y.bi_lo,bi_len := y.bi_len,bi_cap := y.bi_cap,bs_lo := y.bs_lo,bs_len := y.bs_len,bs_cap := y.bs_cap })) fun z => some (Sum.inr (Sum.inr { ri := z.ri,rs := z.rs,e := z.e,left := z.left,right := z.right,xs := z.xs,ys := z.ys,oi_lo := z.oi_lo,oi_len := z.oi_len,oi_cap := z.oi_cap,os_lo := z.os_lo,os_len := z.os_len,os_cap := z.os_cap,bi_lo := z.bi_lo,bi_len := z.bi_len,bi_cap := z.bi_cap,bs_lo := z.bs_lo,bs_len := z.bs_len,bs_cap := z.bs_cap })) else none
else
 some
   (Sum.inr
     (Sum.inl
       { ri := x.ri,rs := x.rs,e := x.e,left := x.left,right := x.right,xs := x.xs,ys := x.ys,oi_lo := x.oi_lo,oi_len := x.oi_len,oi_cap := x.oi_cap,os_lo := x.os_lo,
         os_len := x.os_len,os_cap := x.os_cap,bi_lo := x.bi_lo,bi_len := x.bi_len,bi_cap := x.bi_cap,bs_lo := x.bs_lo,bs_len := x.bs_len,bs_cap := x.bs_cap }))
theorem i0_s0_le (x : _) : Le (i0_s0' x) (i0_s0 x) := by
 unfold i0_s0' i0_s0
 repeat' first | with_reducible exact Le.refl _ | with_reducible exact sb0a_le _ | with_reducible apply Le.bind | with_reducible apply Le.cond | with_reducible apply Le.sum | intro _
def s0' (x : p0X) : Option (q0X ⊕ z0X) := bindO (iterN i0_s0' 200 { n := (↑x.bi_len : Int),i := 0,ri := x.ri,rs := x.rs,e := x.e,left := x.left,right := x.right,xs := x.xs,ys := x.ys,oi_lo := x.oi_lo,oi_len := x.oi_len,oi_cap := x.oi_cap,os_lo := x.os_lo,os_len := x.os_len,os_cap := x.os_cap,bi_lo := x.bi_lo,bi_len := x.bi_len,bi_cap := x.bi_cap,bs_lo := x.bs_lo,bs_len := x.bs_len,bs_cap := x.bs_cap }) fun s => sumC s (fun y => bindO (iterN i0_s1' 200 { n2 := (↑y.bs_len : Int),i2 := 0,ri := y.ri,rs := y.rs,e := y.e,left := y.left,right := y.right,xs := y.xs,ys := y.ys,oi_lo := y.oi_lo,oi_len := y.oi_len,oi_cap := y.oi_cap,os_lo := y.os_lo,os_len := y.os_len,os_cap := y.os_cap,bi_lo := y.bi_lo,bi_len := y.bi_len,bi_cap := y.bi_cap,bs_lo := y.bs_lo,bs_len := y.bs_len,bs_cap := y.bs_cap }) fun s => sumC s (fun y => some (Sum.inl { ri := y.ri,rs := y.rs,e := y.e,left := y.left,right := y.right,xs := y.xs,ys := y.ys,oi_lo := y.oi_lo,oi_len := y.oi_len,oi_cap := y.oi_cap,os_lo := y.os_lo,os_len := y.os_len,os_cap := y.os_cap,bi_lo := y.bi_lo,bi_len := y.bi_len,bi_cap := y.bi_cap,bs_lo := y.bs_lo,bs_len := y.bs_len,bs_cap := y.bs_cap })) fun z => some (Sum.inr { ri := z.ri,rs := z.rs,e := z.e,left := z.left,right := z.right,xs := z.xs,ys := z.ys,oi_lo := z.oi_lo,oi_len := z.oi_len,oi_cap := z.oi_cap,os_lo := z.os_lo,os_len := z.os_len,os_cap := z.os_cap,bi_lo := z.bi_lo,bi_len := z.bi_len,bi_cap := z.bi_cap,bs_lo := z.bs_lo,bs_len := z.bs_len,bs_cap := z.bs_cap })) fun z => some (Sum.inr { ri := z.ri,rs := z.rs,e := z.e,left := z.left,right := z.right,xs := z.xs,ys := z.ys,oi_lo := z.oi_lo,oi_len := z.oi_len,oi_cap := z.oi_cap,os_lo := z.os_lo,os_len := z.os_len,os_cap := z.os_cap,bi_lo := z.bi_lo,bi_len := z.bi_len,bi_cap := z.bi_cap,bs_lo := z.bs_lo,bs_len := z.bs_len,bs_cap := z.bs_cap })
theorem s0_le (x : _) : Le (s0' x) (s0 x) := by
 unfold s0' s0
 repeat' first | with_reducible exact Le.refl _ | with_reducible exact Le.iter i0_s1_le _ | with_reducible exact Le.iter i0_s0_le _ | with_reducible apply Le.bind | with_reducible apply Le.cond | with_reducible apply Le.sum | intro _
def m' (x : gX) : Option fY := bif decide ((↑x.s.length : Int) > 16385) then some ([],[],3)
else
 bindO (M47.m' { s := x.s,sep := [124] }) fun y =>
   bif !y.snd.snd then some ([],[],4)
   else
     bif
         decide (0 ≤ (↑y.fst.length : Int)) && decide ((↑y.fst.length : Int) ≤ (↑y.fst.length : Int)) && decide ((↑y.fst.length : Int) * (↑1 : Int) ≤ 281474976710656) &&
           decide ((↑y.fst.length : Int) ≤ 9223372036854775807) then
       bif
           decide (0 ≤ (↑y.snd.fst.length : Int)) && decide ((↑y.snd.fst.length : Int) ≤ (↑y.snd.fst.length : Int)) &&
               decide ((↑y.snd.fst.length : Int) * (↑1 : Int) ≤ 281474976710656) &&
             decide ((↑y.snd.fst.length : Int) ≤ 9223372036854775807) then
         bindO
           (M36o.m
             { i_lo := 0,i_len := (↑y.fst.length : Int).toNat,i_cap := (↑y.fst.length : Int).toNat,s_lo := 0,s_len := (↑y.snd.fst.length : Int).toNat,
               s_cap := (↑y.snd.fst.length : Int).toNat,xs := List.replicate (↑y.fst.length : Int).toNat (0 : Int),ys := List.replicate (↑y.snd.fst.length : Int).toNat (0 : Int) })
           fun y_1 =>
           bindO
             (s0'
               { ri := [],rs := [],e := 0,left := y.fst,right := y.snd.fst,xs := y_1.fst,ys := y_1.snd.fst,oi_lo := 0,oi_len := (↑y.fst.length : Int).toNat,
                 oi_cap := (↑y.fst.length : Int).toNat,os_lo := 0,os_len := (↑y.snd.fst.length : Int).toNat,os_cap := (↑y.snd.fst.length : Int).toNat,bi_lo := y_1.snd.snd.fst,
                 bi_len := y_1.snd.snd.snd.fst,bi_cap := y_1.snd.snd.snd.snd.fst,bs_lo := y_1.snd.snd.snd.snd.snd.fst,bs_len := y_1.snd.snd.snd.snd.snd.snd.fst,
                 bs_cap := y_1.snd.snd.snd.snd.snd.snd.snd })
             fun s =>
             sumC s
               (fun y =>
                 bif leB (y.oi_lo + y.oi_len) y.xs.length && (leB (y.os_lo + y.os_len) y.ys.length && true) && true && true && true then
                   some (List.take y.oi_len (List.drop y.oi_lo y.xs),List.take y.os_len (List.drop y.os_lo y.ys),0)
                 else none)
               fun z => some (z.ri,z.rs,z.e)
       else none
     else none
theorem m_le (x : _) : Le (m' x) (m x) := by
 unfold m' m
 repeat' first | with_reducible exact Le.refl _ | with_reducible exact M47.m_le _ | with_reducible exact s0_le _ | with_reducible apply Le.bind | with_reducible apply Le.cond | with_reducible apply Le.sum | intro _
end M27
namespace M31
def m' (x : gX) : Option fY := bindO (M27.m' { s := x.s }) fun y => some (y.fst,y.snd.fst)
theorem m_le (x : _) : Le (m' x) (m x) := by
 unfold m' m
 repeat' first | with_reducible exact Le.refl _ | with_reducible exact M27.m_le _ | with_reducible apply Le.bind | with_reducible apply Le.cond | with_reducible apply Le.sum | intro _
end M31
namespace M51
def s0' (x : p0X) : Option (p0X ⊕ (q0X ⊕ z0X)) := bif decide (x.i < x.n) then bif inR x.i x.s.length then bindO (M43.m { i := x.s[x.i.toNat]?.getD 0,pi := x.pi,ps := x.ps }) fun y => bif y.fst then some (Sum.inr (Sum.inr { r := x.i,pi := x.pi,ps := x.ps })) else some (Sum.inl { s := x.s,n := x.n,i := IntKind.i64.wrap (x.i + 1),pi := x.pi,ps := x.ps }) else none
else some (Sum.inr (Sum.inl { pi := x.pi,ps := x.ps }))
theorem s0_le (x : _) : Le (s0' x) (s0 x) := by
 unfold s0' s0
 repeat' first | with_reducible exact Le.refl _ | with_reducible apply Le.bind | with_reducible apply Le.cond | with_reducible apply Le.sum | intro _
def m' (x : gX) : Option fY := bindO (iterN s0' 200 { s := x.s,n := (↑x.s.length : Int),i := 0,pi := x.pi,ps := x.ps }) fun s => sumC s (fun y => some (-1,y.pi,y.ps)) fun z => some (z.r,z.pi,z.ps)
theorem m_le (x : _) : Le (m' x) (m x) := by
 unfold m' m
 repeat' first | with_reducible exact Le.refl _ | with_reducible exact Le.iter s0_le _ | with_reducible apply Le.bind | with_reducible apply Le.cond | with_reducible apply Le.sum | intro _
end M51
namespace M42
def m' (x : gX) : Option fY := bindO (M51.m' { s := x.s,pi := x.pi,ps := x.ps }) fun y => some (decide (y.fst ≥ 0),x.pi,x.ps)
theorem m_le (x : _) : Le (m' x) (m x) := by
 unfold m' m
 repeat' first | with_reducible exact Le.refl _ | with_reducible exact M51.m_le _ | with_reducible apply Le.bind | with_reducible apply Le.cond | with_reducible apply Le.sum | intro _
end M42
namespace M23
def s0' (x : p0X) : Option (p0X ⊕ q0X) := bif decide (x.i < x.n) then bif inR x.i x.l.length then bif decide (x.l[x.i.toNat]?.getD 0 < (↑x.pi.length : Int)) then bif inR (x.l[x.i.toNat]?.getD 0) x.oi_len then bif decide (x.oi_lo + Int.toNat (x.l[x.i.toNat]?.getD 0) < x.xs.length) then some (Sum.inl { l := x.l,n := x.n,i := IntKind.i64.wrap (x.i + 1),pi := x.pi,ps := x.ps,xs := x.xs.set (x.oi_lo + Int.toNat (x.l[x.i.toNat]?.getD 0)) 2,ys := x.ys,oi_lo := x.oi_lo,oi_len := x.oi_len,oi_cap := x.oi_cap,os_lo := x.os_lo,os_len := x.os_len,os_cap := x.os_cap }) else none else none else bif inR (IntKind.i64.wrap (x.l[x.i.toNat]?.getD 0 - (↑x.pi.length : Int))) x.os_len then bif decide (x.os_lo + (IntKind.i64.wrap (x.l[x.i.toNat]?.getD 0 - (↑x.pi.length : Int))).toNat < x.ys.length) then some (Sum.inl { l := x.l,n := x.n,i := IntKind.i64.wrap (x.i + 1),pi := x.pi,ps := x.ps,xs := x.xs,ys := x.ys.set (x.os_lo + (IntKind.i64.wrap (x.l[x.i.toNat]?.getD 0 - (↑x.pi.length : Int))).toNat) 2,oi_lo := x.oi_lo,oi_len := x.oi_len,oi_cap := x.oi_cap,os_lo := x.os_lo,os_len := x.os_len,os_cap := x.os_cap }) else none else none else none
else
 some
   (Sum.inr { pi := x.pi,ps := x.ps,xs := x.xs,ys := x.ys,oi_lo := x.oi_lo,oi_len := x.oi_len,oi_cap := x.oi_cap,os_lo := x.os_lo,os_len := x.os_len,os_cap := x.os_cap })
theorem s0_le (x : _) : Le (s0' x) (s0 x) := by
 unfold s0' s0
 repeat' first | with_reducible exact Le.refl _ | with_reducible apply Le.bind | with_reducible apply Le.cond | with_reducible apply Le.sum | intro _
def m' (x : gX) : Option fY := bindO (M29.m' { i := x.i,s := x.s }) fun y => bif y != 0 then some ([],[],y) else bindO (M42.m' { s := x.l,pi := x.i,ps := x.s }) fun y => bif y.fst then some ([],[],1) else bindO (M34.m { i := x.i,s := x.s }) fun y => bindO (iterN s0' 200 { l := x.l,n := (↑x.l.length : Int),i := 0,pi := x.i,ps := x.s,xs := y.snd.snd.snd.snd.snd.snd.fst,ys := y.snd.snd.snd.snd.snd.snd.snd,oi_lo := y.fst,oi_len := y.snd.fst,oi_cap := y.snd.snd.fst,os_lo := y.snd.snd.snd.fst,os_len := y.snd.snd.snd.snd.fst,os_cap := y.snd.snd.snd.snd.snd.fst }) fun y => bif leB (y.oi_lo + y.oi_len) y.xs.length && (leB (y.os_lo + y.os_len) y.ys.length && true) && true && true && true then some (List.take y.oi_len (List.drop y.oi_lo y.xs),List.take y.os_len (List.drop y.os_lo y.ys),0) else none
theorem m_le (x : _) : Le (m' x) (m x) := by
 unfold m' m
 repeat' first | with_reducible exact Le.refl _ | with_reducible exact M29.m_le _ | with_reducible exact M42.m_le _ | with_reducible exact Le.iter s0_le _ | with_reducible apply Le.bind | with_reducible apply Le.cond | with_reducible apply Le.sum | intro _
end M23
namespace M30
def sb1a' (x : bp1aX) : Option bq1aX := bif decide (x.v < x.xs.length) then bif x.xs[x.v]?.getD 0 == 2 then bif decide (0 ≤ IntKind.i64.wrap (x.left - 1)) then bif decide (x.v < x.xs.length) then some { opn := x.opn2,out_lo := x.out_lo2,out_len := x.out_len2,out_cap := x.out_cap2,n := x.n2,i := x.i2,pi := x.pi,ps := x.ps,out := x.out,x_lo := x.x_lo,x_len := x.x_len,x_cap := x.x_cap,y_lo := x.y_lo,y_len := x.y_len,y_cap := x.y_cap,out_r := x.out_r,nn := x.nn,xs := x.xs.set x.v (IntKind.u8.wrap (IntKind.i64.wrap (↑(BitVec.ofInt 64 (x.nn.fdiv (2 ^ min (IntKind.i64.wrap (x.left - 1)).toNat 64)) &&& BitVec.ofInt 64 1).toNat : Int))),ys := x.ys,left := IntKind.i64.wrap (x.left - 1),bi_lo := x.bi_lo,bi_len := x.bi_len,bi_cap := x.bi_cap,bs_lo := x.bs_lo,bs_len := x.bs_len,bs_cap := x.bs_cap } else none else none else some { opn := x.opn2,out_lo := x.out_lo2,out_len := x.out_len2,out_cap := x.out_cap2,n := x.n2,i := x.i2,pi := x.pi,ps := x.ps,out := x.out,x_lo := x.x_lo,x_len := x.x_len,x_cap := x.x_cap,y_lo := x.y_lo,y_len := x.y_len,y_cap := x.y_cap,out_r := x.out_r,nn := x.nn,xs := x.xs,ys := x.ys,left := x.left,bi_lo := x.bi_lo,bi_len := x.bi_len,bi_cap := x.bi_cap,bs_lo := x.bs_lo,bs_len := x.bs_len,bs_cap := x.bs_cap }
else none
theorem sb1a_le (x : _) : Le (sb1a' x) (sb1a x) := by
 unfold sb1a' sb1a
 repeat' first | with_reducible exact Le.refl _ | with_reducible apply Le.bind | with_reducible apply Le.cond | with_reducible apply Le.sum | intro _
def sb1b' (x : bp1bX) : Option bq1bX := bif decide (x.v < x.ys.length) then bif x.ys[x.v]?.getD 0 == 2 then bif decide (0 ≤ IntKind.i64.wrap (x.left - 1)) then bif decide (x.v < x.ys.length) then some { opn := x.opn2,out_lo := x.out_lo2,out_len := x.out_len2,out_cap := x.out_cap2,n := x.n2,i := x.i2,pi := x.pi,ps := x.ps,out := x.out,x_lo := x.x_lo,x_len := x.x_len,x_cap := x.x_cap,y_lo := x.y_lo,y_len := x.y_len,y_cap := x.y_cap,out_r := x.out_r,nn := x.nn,xs := x.xs,ys := x.ys.set x.v (IntKind.u8.wrap (IntKind.i64.wrap (↑(BitVec.ofInt 64 (x.nn.fdiv (2 ^ min (IntKind.i64.wrap (x.left - 1)).toNat 64)) &&& BitVec.ofInt 64 1).toNat : Int))),left := IntKind.i64.wrap (x.left - 1),bi_lo := x.bi_lo,bi_len := x.bi_len,bi_cap := x.bi_cap,bs_lo := x.bs_lo,bs_len := x.bs_len,bs_cap := x.bs_cap } else none else none else some { opn := x.opn2,out_lo := x.out_lo2,out_len := x.out_len2,out_cap := x.out_cap2,n := x.n2,i := x.i2,pi := x.pi,ps := x.ps,out := x.out,x_lo := x.x_lo,x_len := x.x_len,x_cap := x.x_cap,y_lo := x.y_lo,y_len := x.y_len,y_cap := x.y_cap,out_r := x.out_r,nn := x.nn,xs := x.xs,ys := x.ys,left := x.left,bi_lo := x.bi_lo,bi_len := x.bi_len,bi_cap := x.bi_cap,bs_lo := x.bs_lo,bs_len := x.bs_len,bs_cap := x.bs_cap }
else none
theorem sb1b_le (x : _) : Le (sb1b' x) (sb1b x) := by
 unfold sb1b' sb1b
 repeat' first | with_reducible exact Le.refl _ | with_reducible apply Le.bind | with_reducible apply Le.cond | with_reducible apply Le.sum | intro _
def i1_s1' (x : i1_p1X) : Option (i1_p1X ⊕ i1_q1X) := bif decide (x.i2 < x.n2) then bif inR x.i2 x.bs_len then bindO (sb1b' { opn := x.opn,out_lo := x.out_lo,out_len := x.out_len,out_cap := x.out_cap,n := x.n,i := x.i,v := x.bs_lo + x.i2.toNat,opn2 := x.opn,out_lo2 := x.out_lo,out_len2 := x.out_len,out_cap2 := x.out_cap,n2 := x.n,i2 := x.i,pi := x.pi,ps := x.ps,out := x.out,x_lo := x.x_lo,x_len := x.x_len,x_cap := x.x_cap,y_lo := x.y_lo,y_len := x.y_len,y_cap := x.y_cap,out_r := x.out_r,nn := x.nn,xs := x.xs,ys := x.ys,left := x.left,bi_lo := x.bi_lo,bi_len := x.bi_len,bi_cap := x.bi_cap,bs_lo := x.bs_lo,bs_len := x.bs_len,bs_cap := x.bs_cap }) fun y => some (Sum.inl { n2 := x.n2,i2 := IntKind.i64.wrap (x.i2 + 1),opn := y.opn,out_lo := y.out_lo,out_len := y.out_len,out_cap := y.out_cap,n := y.n,i := y.i,pi := y.pi,ps := y.ps,out := y.out,x_lo := y.x_lo,x_len := y.x_len,x_cap := y.x_cap,y_lo := y.y_lo,y_len := y.y_len,y_cap := y.y_cap,out_r := y.out_r,nn := y.nn,xs := y.xs,ys := y.ys,left := y.left,bi_lo := y.bi_lo,bi_len := y.bi_len,bi_cap := y.bi_cap,bs_lo := y.bs_lo,bs_len := y.bs_len,bs_cap := y.bs_cap }) else none
else
 some
   (Sum.inr
     { opn := x.opn,out_lo := x.out_lo,out_len := x.out_len,out_cap := x.out_cap,n := x.n,i := x.i,pi := x.pi,ps := x.ps,out := x.out,x_lo := x.x_lo,x_len := x.x_len,
       x_cap := x.x_cap,y_lo := x.y_lo,y_len := x.y_len,y_cap := x.y_cap,out_r := x.out_r,nn := x.nn,xs := x.xs,ys := x.ys,left := x.left,bi_lo := x.bi_lo,
       bi_len := x.bi_len,bi_cap := x.bi_cap,bs_lo := x.bs_lo,bs_len := x.bs_len,bs_cap := x.bs_cap })
theorem i1_s1_le (x : _) : Le (i1_s1' x) (i1_s1 x) := by
 unfold i1_s1' i1_s1
 repeat' first | with_reducible exact Le.refl _ | with_reducible exact sb1b_le _ | with_reducible apply Le.bind | with_reducible apply Le.cond | with_reducible apply Le.sum | intro _
def i1_s0' (x : i1_p0X) : Option (i1_p0X ⊕ i1_q0X) := bif decide (x.i < x.n) then bif inR x.i x.bi_len then bindO (sb1a' { opn := x.opn,out_lo := x.out_lo,out_len := x.out_len,out_cap := x.out_cap,n := x.n2,i := x.i2,v := x.bi_lo + x.i.toNat,opn2 := x.opn,out_lo2 := x.out_lo,out_len2 := x.out_len,out_cap2 := x.out_cap,n2 := x.n2,i2 := x.i2,pi := x.pi,ps := x.ps,out := x.out,x_lo := x.x_lo,x_len := x.x_len,x_cap := x.x_cap,y_lo := x.y_lo,y_len := x.y_len,y_cap := x.y_cap,out_r := x.out_r,nn := x.nn,xs := x.xs,ys := x.ys,left := x.left,bi_lo := x.bi_lo,bi_len := x.bi_len,bi_cap := x.bi_cap,bs_lo := x.bs_lo,bs_len := x.bs_len,bs_cap := x.bs_cap }) fun y => some (Sum.inl { n := x.n,i := IntKind.i64.wrap (x.i + 1),opn := y.opn,out_lo := y.out_lo,out_len := y.out_len,out_cap := y.out_cap,n2 := y.n,i2 := y.i,pi := y.pi,ps := y.ps,out := y.out,x_lo := y.x_lo,x_len := y.x_len,x_cap := y.x_cap,y_lo := y.y_lo,y_len := y.y_len,y_cap := y.y_cap,out_r := y.out_r,nn := y.nn,xs := y.xs,ys := y.ys,left := y.left,bi_lo := y.bi_lo,bi_len := y.bi_len,bi_cap := y.bi_cap,bs_lo := y.bs_lo,bs_len := y.bs_len,bs_cap := y.bs_cap }) else none
else
 some
   (Sum.inr
     { opn := x.opn,out_lo := x.out_lo,out_len := x.out_len,out_cap := x.out_cap,n := x.n2,i := x.i2,pi := x.pi,ps := x.ps,out := x.out,x_lo := x.x_lo,x_len := x.x_len,
       x_cap := x.x_cap,y_lo := x.y_lo,y_len := x.y_len,y_cap := x.y_cap,out_r := x.out_r,nn := x.nn,xs := x.xs,ys := x.ys,left := x.left,bi_lo := x.bi_lo,
       bi_len := x.bi_len,bi_cap := x.bi_cap,bs_lo := x.bs_lo,bs_len := x.bs_len,bs_cap := x.bs_cap })
theorem i1_s0_le (x : _) : Le (i1_s0' x) (i1_s0 x) := by
 unfold i1_s0' i1_s0
 repeat' first | with_reducible exact Le.refl _ | with_reducible exact sb1a_le _ | with_reducible apply Le.bind | with_reducible apply Le.cond | with_reducible apply Le.sum | intro _
def s1' (x : p1X) : Option q1X := bindO (iterN i1_s0' 200 { n := (↑x.bi_len : Int),i := 0,opn := x.opn,out_lo := x.out_lo,out_len := x.out_len,out_cap := x.out_cap,n2 := x.n,i2 := x.i,pi := x.pi,ps := x.ps,out := x.out,x_lo := x.x_lo,x_len := x.x_len,x_cap := x.x_cap,y_lo := x.y_lo,y_len := x.y_len,y_cap := x.y_cap,out_r := x.out_r,nn := x.nn,xs := x.xs,ys := x.ys,left := x.left,bi_lo := x.bi_lo,bi_len := x.bi_len,bi_cap := x.bi_cap,bs_lo := x.bs_lo,bs_len := x.bs_len,bs_cap := x.bs_cap }) fun y => bindO (iterN i1_s1' 200 { n2 := (↑y.bs_len : Int),i2 := 0,opn := y.opn,out_lo := y.out_lo,out_len := y.out_len,out_cap := y.out_cap,n := y.n,i := y.i,pi := y.pi,ps := y.ps,out := y.out,x_lo := y.x_lo,x_len := y.x_len,x_cap := y.x_cap,y_lo := y.y_lo,y_len := y.y_len,y_cap := y.y_cap,out_r := y.out_r,nn := y.nn,xs := y.xs,ys := y.ys,left := y.left,bi_lo := y.bi_lo,bi_len := y.bi_len,bi_cap := y.bi_cap,bs_lo := y.bs_lo,bs_len := y.bs_len,bs_cap := y.bs_cap }) fun y => some { opn := y.opn,out_lo := y.out_lo,out_len := y.out_len,out_cap := y.out_cap,n := y.n,i := y.i,pi := y.pi,ps := y.ps,out := y.out,x_lo := y.x_lo,x_len := y.x_len,x_cap := y.x_cap,y_lo := y.y_lo,y_len := y.y_len,y_cap := y.y_cap,out_r := y.out_r,nn := y.nn,xs := y.xs,ys := y.ys,left := y.left,bi_lo := y.bi_lo,bi_len := y.bi_len,bi_cap := y.bi_cap,bs_lo := y.bs_lo,bs_len := y.bs_len,bs_cap := y.bs_cap }
theorem s1_le (x : _) : Le (s1' x) (s1 x) := by
 unfold s1' s1
 repeat' first | with_reducible exact Le.refl _ | with_reducible exact Le.iter i1_s1_le _ | with_reducible exact Le.iter i1_s0_le _ | with_reducible apply Le.bind | with_reducible apply Le.cond | with_reducible apply Le.sum | intro _
def s0' (x : p0X) : Option (p0X ⊕ q0X) := bif decide (x.i < x.n) then bindO (M34.m { i := x.pi,s := x.ps }) fun y => bif inR x.i x.out_len then bif decide (x.out_lo + x.i.toNat < x.out.length) then bif inR x.i x.out_len then bif eqN (x.out_lo + x.i.toNat) (List.take (x.out_lo + x.i.toNat) x.out).length then bindO (M36o.m { i_lo := y.fst,i_len := y.snd.fst,i_cap := y.snd.snd.fst,s_lo := y.snd.snd.snd.fst,s_len := y.snd.snd.snd.snd.fst,s_cap := y.snd.snd.snd.snd.snd.fst,xs := y.snd.snd.snd.snd.snd.snd.fst,ys := y.snd.snd.snd.snd.snd.snd.snd }) fun y_1 => bindO (s1' { opn := x.opn,out_lo := x.out_lo,out_len := x.out_len,out_cap := x.out_cap,n := x.n,i := x.i,pi := x.pi,ps := x.ps,out := List.take (x.out_lo + x.i.toNat) x.out,x_lo := y.fst,x_len := y.snd.fst,x_cap := y.snd.snd.fst,y_lo := y.snd.snd.snd.fst,y_len := y.snd.snd.snd.snd.fst,y_cap := y.snd.snd.snd.snd.snd.fst,out_r := List.drop (x.out_lo + x.i.toNat + 1) x.out,nn := x.i,xs := y_1.fst,ys := y_1.snd.fst,left := x.opn,bi_lo := y_1.snd.snd.fst,bi_len := y_1.snd.snd.snd.fst,bi_cap := y_1.snd.snd.snd.snd.fst,bs_lo := y_1.snd.snd.snd.snd.snd.fst,bs_len := y_1.snd.snd.snd.snd.snd.snd.fst,bs_cap := y_1.snd.snd.snd.snd.snd.snd.snd }) fun y => bif leB (y.x_lo + y.x_len) y.xs.length && (leB (y.y_lo + y.y_len) y.ys.length && true) && true then some (Sum.inl { opn := y.opn,out_lo := y.out_lo,out_len := y.out_len,out_cap := y.out_cap,n := y.n,i := IntKind.i64.wrap (y.i + 1),pi := y.pi,ps := y.ps,out := y.out ++ (List.take y.x_len (List.drop y.x_lo y.xs),List.take y.y_len (List.drop y.y_lo y.ys)) :: y.out_r }) else none else none else none else none else none
else some (Sum.inr { out_lo := x.out_lo,out_len := x.out_len,out_cap := x.out_cap,pi := x.pi,ps := x.ps,out := x.out })
theorem s0_le (x : _) : Le (s0' x) (s0 x) := by
 unfold s0' s0
 repeat' first | with_reducible exact Le.refl _ | with_reducible exact s1_le _ | with_reducible apply Le.bind | with_reducible apply Le.cond | with_reducible apply Le.sum | intro _
def m' (x : gX) : Option fY := bindO (M29.m' { i := x.i,s := x.s }) fun y => bif y != 0 then some ([],y) else bindO (M22.m' { i := x.i,s := x.s }) fun y => bif decide (IntKind.i64.wrap (IntKind.i64.wrap ((↑x.i.length : Int) + (↑x.s.length : Int)) - y) > 12) then some ([],3) else bif decide (0 ≤ IntKind.i64.wrap (IntKind.i64.wrap ((↑x.i.length : Int) + (↑x.s.length : Int)) - y)) then bif decide (0 ≤ IntKind.i64.wrap (1 * 2 ^ min (IntKind.i64.wrap (IntKind.i64.wrap ((↑x.i.length : Int) + (↑x.s.length : Int)) - y)).toNat 64)) && decide (IntKind.i64.wrap (1 * 2 ^ min (IntKind.i64.wrap (IntKind.i64.wrap ((↑x.i.length : Int) + (↑x.s.length : Int)) - y)).toNat 64) ≤ IntKind.i64.wrap (1 * 2 ^ min (IntKind.i64.wrap (IntKind.i64.wrap ((↑x.i.length : Int) + (↑x.s.length : Int)) - y)).toNat 64)) && decide (IntKind.i64.wrap (1 * 2 ^ min (IntKind.i64.wrap (IntKind.i64.wrap ((↑x.i.length : Int) + (↑x.s.length : Int)) - y)).toNat 64) * (↑48 : Int) ≤ 281474976710656) && decide (IntKind.i64.wrap (1 * 2 ^ min (IntKind.i64.wrap (IntKind.i64.wrap ((↑x.i.length : Int) + (↑x.s.length : Int)) - y)).toNat 64) ≤ 9223372036854775807) then bindO (iterN s0' 200 { opn := IntKind.i64.wrap (IntKind.i64.wrap ((↑x.i.length : Int) + (↑x.s.length : Int)) - y),out_lo := 0,out_len := (IntKind.i64.wrap (1 * 2 ^ min (IntKind.i64.wrap (IntKind.i64.wrap ((↑x.i.length : Int) + (↑x.s.length : Int)) - y)).toNat 64)).toNat,out_cap := (IntKind.i64.wrap (1 * 2 ^ min (IntKind.i64.wrap (IntKind.i64.wrap ((↑x.i.length : Int) + (↑x.s.length : Int)) - y)).toNat 64)).toNat,n := (↑(IntKind.i64.wrap (1 * 2 ^ min (IntKind.i64.wrap (IntKind.i64.wrap ((↑x.i.length : Int) + (↑x.s.length : Int)) - y)).toNat 64)).toNat : Int),i := 0,pi := x.i,ps := x.s,out := List.replicate (IntKind.i64.wrap (1 * 2 ^ min (IntKind.i64.wrap (IntKind.i64.wrap ((↑x.i.length : Int) + (↑x.s.length : Int)) - y)).toNat 64)).toNat ([],[]) }) fun y => bif leB (y.out_lo + y.out_len) y.out.length && true && true && true then some (List.take y.out_len (List.drop y.out_lo y.out),0) else none else none else none
theorem m_le (x : _) : Le (m' x) (m x) := by
 unfold m' m
 repeat' first | with_reducible exact Le.refl _ | with_reducible exact M29.m_le _ | with_reducible exact M22.m_le _ | with_reducible exact Le.iter s0_le _ | with_reducible apply Le.bind | with_reducible apply Le.cond | with_reducible apply Le.sum | intro _
end M30
namespace M26
def m' (x : gX) : Option fY := bindO (M29.m' ⟨x.i,x.s⟩) fun e => bif e == 0 then (bif okS x.i && okS x.s then some (sgns x.i ++ 124 :: sgns x.s) else none) else some []
theorem m_le (x : _) : Le (m' x) (m x) := by
 unfold m' m
 repeat' first | with_reducible exact Le.refl _ | with_reducible exact M29.m_le _ | with_reducible apply Le.bind | with_reducible apply Le.cond | with_reducible apply Le.sum | intro _
end M26
namespace M10
def m' (x : gX) : Option fY := bindO (M31.m' { s := [48,88,88,124,49] }) fun y => bindO (M31.m' { s := [48,88,49,124,88] }) fun y_1 => bindO (M13.m' { ai := y.fst,as_ := y.snd,bi := y_1.fst,bs := y_1.snd }) fun y => bindO (M31.m' { s := [48,88,124] }) fun y_2 => bindO (M31.m' { s := [49,88,124] }) fun y_3 => bindO (M13.m' { ai := y_2.fst,as_ := y_2.snd,bi := y_3.fst,bs := y_3.snd }) fun y_4 => bindO (M31.m' { s := [88,88,49,88,124,48,88] }) fun y_5 => bindO (M19.m' { i := y_5.fst,s := y_5.snd,w := 2 }) fun y_6 => bindO (M31.m' { s := [88,88,49,88,124,48,88] }) fun y_7 => bindO (M19.m' { i := y_7.fst,s := y_7.snd,w := 1 }) fun y_8 => bindO (M31.m' { s := [88,48,124,88] }) fun y_9 => bindO (M30.m' { i := y_9.fst,s := y_9.snd }) fun y_10 => bindO (bif !y.snd.snd != 0 then M26.m' { i := y.fst,s := y.snd.fst } else some []) fun y_11 => bindO (bif !bif bif y.snd.snd != 0 then true else !y_11 == [48,88,49,124,49] then true else y_4.snd.snd != 9 then M31.m' { s := [48,49,88,124,49] } else some ([],[])) fun y_12 => bindO (bif !bif bif y.snd.snd != 0 then true else !y_11 == [48,88,49,124,49] then true else y_4.snd.snd != 9 then M31.m' { s := [49,48,88,124,88] } else some ([],[])) fun y_13 => bindO (bif !bif bif y.snd.snd != 0 then true else !y_11 == [48,88,49,124,49] then true else y_4.snd.snd != 9 then M18.m' { ai := y_12.fst,as_ := y_12.snd,bi := y_13.fst,bs := y_13.snd } else some (Int.ofNat 0)) fun y_14 => bindO (bif !bif bif bif bif y.snd.snd != 0 then true else !y_11 == [48,88,49,124,49] then true else y_4.snd.snd != 9 then true else y_14 != 2 then true else y_6.snd.snd != 0 then M26.m' { i := y_6.fst,s := y_6.snd.fst } else some []) fun y_15 => bindO (bif !bif bif bif bif bif bif y.snd.snd != 0 then true else !y_11 == [48,88,49,124,49] then true else y_4.snd.snd != 9 then true else y_14 != 2 then true else y_6.snd.snd != 0 then true else !y_15 == [49,49,49,49,124,48,48] then true else y_8.snd.snd != 0 then M26.m' { i := y_8.fst,s := y_8.snd.fst } else some []) fun y_16 => bif inR 1 y_10.fst.length || !!bif bif bif bif bif bif bif bif bif y.snd.snd != 0 then true else !y_11 == [48,88,49,124,49] then true else y_4.snd.snd != 9 then true else y_14 != 2 then true else y_6.snd.snd != 0 then true else !y_15 == [49,49,49,49,124,48,48] then true else y_8.snd.snd != 0 then true else !y_16 == [49,49,49,49,124,48,49] then true else y_10.snd != 0 then true else (↑y_10.fst.length : Int) != 4 then bindO (bif !bif bif bif bif bif bif bif bif bif y.snd.snd != 0 then true else !y_11 == [48,88,49,124,49] then true else y_4.snd.snd != 9 then true else y_14 != 2 then true else y_6.snd.snd != 0 then true else !y_15 == [49,49,49,49,124,48,48] then true else y_8.snd.snd != 0 then true else !y_16 == [49,49,49,49,124,48,49] then true else y_10.snd != 0 then true else (↑y_10.fst.length : Int) != 4 then M26.m' { i := (y_10.fst[1]?.getD ([],[])).fst,s := (y_10.fst[1]?.getD ([],[])).snd } else some []) fun y_17 => bif inR 2 y_10.fst.length || !!bif bif bif bif bif bif bif bif bif bif y.snd.snd != 0 then true else !y_11 == [48,88,49,124,49] then true else y_4.snd.snd != 9 then true else y_14 != 2 then true else y_6.snd.snd != 0 then true else !y_15 == [49,49,49,49,124,48,48] then true else y_8.snd.snd != 0 then true else !y_16 == [49,49,49,49,124,48,49] then true else y_10.snd != 0 then true else (↑y_10.fst.length : Int) != 4 then true else !y_17 == [48,48,124,49] then bindO (bif !bif bif bif bif bif bif bif bif bif bif y.snd.snd != 0 then true else !y_11 == [48,88,49,124,49] then true else y_4.snd.snd != 9 then true else y_14 != 2 then true else y_6.snd.snd != 0 then true else !y_15 == [49,49,49,49,124,48,48] then true else y_8.snd.snd != 0 then true else !y_16 == [49,49,49,49,124,48,49] then true else y_10.snd != 0 then true else (↑y_10.fst.length : Int) != 4 then true else !y_17 == [48,48,124,49] then M26.m' { i := (y_10.fst[2]?.getD ([],[])).fst,s := (y_10.fst[2]?.getD ([],[])).snd } else some []) fun y_18 => bif bif bif bif bif bif bif bif bif bif bif bif y.snd.snd != 0 then true else !y_11 == [48,88,49,124,49] then true else y_4.snd.snd != 9 then true else y_14 != 2 then true else y_6.snd.snd != 0 then true else !y_15 == [49,49,49,49,124,48,48] then true else y_8.snd.snd != 0 then true else !y_16 == [49,49,49,49,124,48,49] then true else y_10.snd != 0 then true else (↑y_10.fst.length : Int) != 4 then true else !y_17 == [48,48,124,49] then true else !y_18 == [49,48,124,48] then some false else bindO (M31.m' { s := [48,49,49,124,48] }) fun y => bindO (M23.m' { i := y.fst,s := y.snd,l := [0,3] }) fun y => bindO (M27.m' { s := [48,49] }) fun y_19 => bindO (M27.m' { s := [48,124,50] }) fun y_20 => bindO (M27.m' { s := [124] }) fun y_21 => bindO (M31.m' { s := [88,49,124] }) fun y_22 => bindO (M31.m' { s := [48,49,124] }) fun y_23 => bindO (M17.m' { ai := y_22.fst,as_ := y_22.snd,bi := y_23.fst,bs := y_23.snd }) fun y_24 => bindO (bif y_24 then M31.m' { s := [48,49,124] } else some ([],[])) fun y_25 => bindO (bif y_24 then M31.m' { s := [88,49,124] } else some ([],[])) fun y_26 => bindO (bif y_24 then M17.m' { ai := y_25.fst,as_ := y_25.snd,bi := y_26.fst,bs := y_26.snd } else some false) fun y_27 => bindO (bif bif bif y_24 then !y_27 else false then y.snd.snd == 0 else false then M26.m' { i := y.fst,s := y.snd.fst } else some []) fun y_28 => some (bif bif bif bif bif bif bif y_24 then !y_27 else false then y.snd.snd == 0 else false then y_28 == [88,49,49,124,88] else false then y_19.snd.snd == 4 else false then y_20.snd.snd == 4 else false then y_21.snd.snd == 0 else false then IntKind.i64.wrap ((↑y_21.fst.length : Int) + (↑y_21.snd.fst.length : Int)) == 0 else false) else none else none
theorem m_le (x : _) : Le (m' x) (m x) := by
 unfold m' m
 repeat' first | with_reducible exact Le.refl _ | with_reducible exact M18.m_le _ | with_reducible exact M17.m_le _ | with_reducible exact M13.m_le _ | with_reducible exact M19.m_le _ | with_reducible exact M27.m_le _ | with_reducible exact M31.m_le _ | with_reducible exact M23.m_le _ | with_reducible exact M30.m_le _ | with_reducible exact M26.m_le _ | with_reducible apply Le.bind | with_reducible apply Le.cond | with_reducible apply Le.sum | intro _
end M10
theorem lives10 : M10.m () = some true := M10.m_le _ _ (by kernel_rfl)
end Go.Proofs.Ytnmlmdlhhphcoaa
namespace Go.Proofs.Ytnmlmdlhhphcoaa
open Go.Abs
namespace Cu
theorem zw_len (l r : List Int) (h : l.length = r.length) : (List.zipWith mn l r).length = l.length := by rw [List.length_zipWith]; omega
theorem vals_len (l : List Int) : (vals l).length = l.length := by simp [vals]
theorem shp_pos {n : Nat} {q : List Int} (h : ∀ x ∈ q,0 ≤ x) : ∀ x ∈ shp n q,0 ≤ x := fun x hx => by
 obtain ⟨k,_,rfl⟩ := List.mem_map.1 hx
 show 0 ≤ q[k]?.getD 2
 by_cases hk : k < q.length
 · rw [List.getElem?_eq_getElem hk]
   exact h _ (List.getElem_mem hk)
 · rw [List.getElem?_eq_none (by omega)]
   decide
theorem m13_V {ai as_ bi bs : List Int} (h1 : Vs ai) (h2 : Vs as_) (h3 : Vs bi) (h4 : Vs bs) (e1 : ai.length = bi.length) (e2 : as_.length = bs.length) (h : ai.length + as_.length ≤ 16384) :
   M13.m ⟨ai,as_,bi,bs⟩ = some (if comp ai as_ bi bs = true then (List.zipWith mn ai bi,List.zipWith mn as_ bs,0) else ([],[],9)) := by
 rw [m13 (by omega) (by omega) (by omega) (by omega),chk2_V h1 h2 h3 h4 e1 e2 h]
 simp
theorem comp_V {ai as_ bi bs : List Int} (h1 : Vs ai) (h2 : Vs as_) (h3 : Vs bi) (h4 : Vs bs) (e1 : ai.length = bi.length) (e2 : as_.length = bs.length) (h : ai.length + as_.length ≤ 16384) :
   comp ai as_ bi bs = decide (cnt fd ai bi = 0 ∧ cnt fd as_ bs = 0) := by
 unfold comp
 rw [chk2_V h1 h2 h3 h4 e1 e2 h]
 congr 1
 simp
theorem covs_V {ai as_ bi bs : List Int} (h1 : Vs ai) (h2 : Vs as_) (h3 : Vs bi) (h4 : Vs bs) (e1 : ai.length = bi.length) (e2 : as_.length = bs.length) (h : ai.length + as_.length ≤ 16384) :
   covs ai as_ bi bs = decide (cnt fc ai bi = 0 ∧ cnt fc as_ bs = 0) := by
 unfold covs
 rw [chk2_V h1 h2 h3 h4 e1 e2 h]
 congr 1
 simp
end Cu
end Go.Proofs.Ytnmlmdlhhphcoaa
namespace Go.Proofs.Ytnmlmdlhhphcoaa
open Go.Abs
namespace Cu
def okb (b : UInt8) : Bool := b == 48 || b == 49 || b == 88
def vl (b : UInt8) : Int := if b = 48 then 0 else if b = 49 then 1 else 2
def fv (l : List UInt8) (k : Nat) : List Int := (l.take k).map vl ++ List.replicate (l.length - k) 0
end Cu
end Go.Proofs.Ytnmlmdlhhphcoaa
namespace Go.Proofs.Ytnmlmdlhhphcoaa
open Go.Abs
namespace Cu
theorem scan_unitU {Y α : Type} (E : Unit → Y) : ∀ (l : List α),scan (fun (_ : Unit) (_ : α) => (.inl () : Unit ⊕ Y)) E () l = E ()
 | [] => rfl
 | _ :: l => by unfold scan; exact scan_unitU E l
def gd (s : List UInt8) : Bool := s.all fun b => b == 124 || okb b
end Cu
end Go.Proofs.Ytnmlmdlhhphcoaa
namespace Go.Proofs.Ytnmlmdlhhphcoaa
open Go.Abs
namespace Cu
theorem m14 {i s : List Int} (hi : i.length ≤ 1000000) (hs : s.length ≤ 1000000) : M14.m ⟨i,s⟩ = some (i ++ s) := by
 have e1 : roomB i.length 1 = true := by simp [roomB,leB]; omega
 have e2 : (eqN i.length i.length && roomB (i.length + s.length) 1) = true := by
   have h1 : eqN i.length i.length = true := by simp [eqN]
   have h2 : roomB (i.length + s.length) 1 = true := by simp [roomB,leB]; omega
   rw [h1,h2]; rfl
 have e3 : leB (0 + (i.length + s.length)) (i ++ s).length = true := by simp [leB]
 unfold M14.m
 simp only [e1,e2,e3,Bool.and_self,cond_true,List.drop_zero]
 rw [List.take_of_length_le (by simp)]
def anyI {α : Type} (P : Nat → α → Bool) : Nat → List α → Bool
 | _,[] => false
 | k,x :: l => P k x || anyI P (k + 1) l
theorem iter_anyI {X Y α : Type} {step : X → Option (X ⊕ Y)} (S : Nat → X) (l : List α) (P : Nat → α → Bool) (Z : Nat → Y) {y : Y}
   (h : ∀ i (hi : i < l.length),step (S i) = some (if P i l[i] = true then .inr (Z i) else .inl (S (i + 1)))) (he : step (S l.length) = some (.inr y)) :
   (anyI P 0 l = true ∧ ∃ i : Nat,iter step (S 0) = some (Z i)) ∨ (anyI P 0 l = false ∧ iter step (S 0) = some y) := by
 have : ∀ j i,i + j = l.length → (anyI P i (l.drop i) = true ∧ ∃ t : Nat,iter step (S i) = some (Z t)) ∨ (anyI P i (l.drop i) = false ∧ iter step (S i) = some y) := by
   intro j
   induction j with
   | zero =>
     intro i hi
     have e : i = l.length := by omega
     subst e
     exact .inr ⟨by rw [List.drop_length]; rfl,by rw [iter_eq,he]⟩
   | succ j ih =>
     intro i hi
     have hil : i < l.length := by omega
     rw [List.drop_eq_getElem_cons hil,anyI,iter_eq,h i hil]
     cases hP : P i l[i] with
     | true => exact .inl ⟨by simp,i,rfl⟩
     | false =>
       simp only [Bool.false_eq_true,if_false,Bool.false_or]
       exact ih (i + 1) (by omega)
 have h := this l.length 0 (by omega)
 rwa [List.drop_zero] at h
def cpl : List Int → Nat → Bool
 | [],_ => true
 | x :: l,n => (x == 2 || x == ((n % 2 : Nat) : Int)) && cpl l (n / 2)
def offP (n i : Nat) (x : Int) : Bool := x != 2 && x != ((n / 2 ^ i % 2 : Nat) : Int)
theorem any_cpl (n : Nat) : ∀ (l : List Int) (k : Nat),anyI (offP n) k l = !cpl l (n / 2 ^ k)
 | [],_ => rfl
 | x :: l,k => by
   rw [anyI,cpl,any_cpl n l (k + 1),Nat.pow_succ,Nat.div_div_eq_div_mul]
   unfold offP
   simp only [bne]
   generalize (x == 2) = p
   generalize (x == ((n / 2 ^ k % 2 : Nat) : Int)) = q
   cases p <;> cases q <;> cases cpl l (n / (2 ^ k * 2)) <;> rfl
theorem fdiv_bit (n i : Nat) (hi : i ≤ 64) : ((n : Int).fdiv (2 ^ min i 64)).tmod 2 = ((n / 2 ^ i % 2 : Nat) : Int) := by
 rw [Nat.min_eq_left hi]
 have e : ((2 : Int) ^ i) = ((2 ^ i : Nat) : Int) := by simp
 rw [e,Int.fdiv_eq_ediv_of_nonneg _ (Int.natCast_nonneg _),← Int.natCast_ediv,Int.tmod_eq_emod_of_nonneg (Int.natCast_nonneg _)]
 omega
theorem Va_w {x : Int} (h : Va x) : IntKind.i64.wrap x = x := by
 rcases h with rfl | rfl | rfl <;> rfl
theorem m15 {i s : List Int} {n : Nat} (h1 : Vs i) (h2 : Vs s) (h : i.length + s.length ≤ 60) : M15.m ⟨i,s,n⟩ = some (cpl (i ++ s) n) := by
 unfold M15.m
 simp only [m14 (show i.length ≤ 1000000 by omega) (show s.length ≤ 1000000 by omega),bindO]
 have hv : Vs (i ++ s) := fun x hx => by
   rcases List.mem_append.1 hx with hx | hx
   · exact h1 x hx
   · exact h2 x hx
 have hl : (i ++ s).length ≤ 60 := by simp; omega
 generalize i ++ s = l at *
 have key := iter_anyI (step := M15.s0) (fun k => ⟨(n : Int),l,(k : Int)⟩) l (offP n) (fun _ => .inr ⟨false⟩) (y := .inl ⟨⟩) (fun k hk => by
   have e1 : ((k : Int) < (l.length : Int)) := by omega
   have e2 : (0 : Int) ≤ (k : Int) := by omega
   have e3 : ((n : Int).fdiv (2 ^ min (k : Int).toNat 64)).tmod 2 = ((n / 2 ^ k % 2 : Nat) : Int) := by rw [Int.toNat_natCast]; exact fdiv_bit n k (by omega)
   unfold M15.s0
   simp only [e1,inR_nat hk,getD_at hk,e2,e3,Va_w (hv _ (List.getElem_mem hk)),suc (show k < 9000000000000000000 by omega),decide_true,cond_true,Bool.true_or]
   show (bif (bif l[k] != 2 then l[k] != _ else false) then _ else _) = _
   unfold offP
   cases (l[k] != 2) <;> cases (l[k] != ((n / 2 ^ k % 2 : Nat) : Int)) <;> rfl) (by unfold M15.s0; simp)
 rw [any_cpl,Nat.pow_zero,Nat.div_one] at key
 rcases key with ⟨h1,i,h2⟩ | ⟨h1,h2⟩
 · have h2 : iter M15.s0 ⟨(n : Int),l,0⟩ = _ := h2
   simp only [h2,sumC]
   cases hc : cpl l n with
   | true => rw [hc] at h1; cases h1
   | false => rfl
 · have h2 : iter M15.s0 ⟨(n : Int),l,0⟩ = _ := h2
   simp only [h2,sumC]
   cases hc : cpl l n with
   | true => rfl
   | false => rw [hc] at h1; cases h1
def bit (x : Int) : Nat := if x = 1 then 1 else 0
theorem cpl_cons (x : Int) (l : List Int) (d n : Nat) (hd : d < 2) : cpl (x :: l) (d + 2 * n) = ((x == 2 || x == (d : Int)) && cpl l n) := by
 rw [cpl]
 have e1 : (d + 2 * n) % 2 = d := by omega
 have e2 : (d + 2 * n) / 2 = n := by omega
 rw [e1,e2]
theorem bit_ok {x : Int} (h : Va x) : bit x < 2 ∧ (x == 2 || x == (bit x : Int)) = true := by
 rcases h with rfl | rfl | rfl <;> exact ⟨by decide,by decide⟩
theorem ex_cpl : ∀ (l : List Int),Vs l → ∃ n,n < 2 ^ l.length ∧ cpl l n = true
 | [],_ => ⟨0,by decide,rfl⟩
 | x :: l,h => by
   obtain ⟨n,h1,h2⟩ := ex_cpl l h.tl
   obtain ⟨b1,b2⟩ := bit_ok h.hd
   refine ⟨bit x + 2 * n,?_,?_⟩
   · rw [List.length_cons,Nat.pow_succ]; omega
   · rw [cpl_cons _ _ _ _ b1,b2,h2]; rfl
theorem both_fd : ∀ (a b : List Int) (n : Nat),a.length = b.length → Vs a → Vs b → cpl a n = true → cpl b n = true → cnt fd a b = 0
 | [],_,_,_,_,_,_,_ => rfl
 | _ :: _,[],_,h,_,_,_,_ => by simp at h
 | x :: a,y :: b,n,h,ha,hb,h1,h2 => by
   rw [cpl,Bool.and_eq_true] at h1 h2
   rw [cnt_cons]
   refine ⟨?_,both_fd a b (n / 2) (by simpa using h) ha.tl hb.tl h1.2 h2.2⟩
   have h1 := h1.1
   have h2 := h2.1
   have hd : n % 2 = 0 ∨ n % 2 = 1 := by omega
   rcases hd with hd | hd <;> rw [hd] at h1 h2 <;> rcases ha.hd with rfl | rfl | rfl <;> rcases hb.hd with rfl | rfl | rfl <;> first | decide | exact absurd h1 (by decide) | exact absurd h2 (by decide)
theorem mrg_cpl : ∀ (a b : List Int) (n : Nat),a.length = b.length → Vs a → Vs b → cnt fd a b = 0 → cpl (List.zipWith mn a b) n = (cpl a n && cpl b n)
 | [],[],_,_,_,_,_ => rfl
 | [],_ :: _,_,h,_,_,_ => by simp at h
 | _ :: _,[],_,h,_,_,_ => by simp at h
 | x :: a,y :: b,n,h,ha,hb,hc => by
   rw [cnt_cons] at hc
   rw [List.zipWith_cons_cons,cpl,cpl,cpl,mrg_cpl a b (n / 2) (by simpa using h) ha.tl hb.tl hc.2]
   have key : (mn x y == 2 || mn x y == ((n % 2 : Nat) : Int)) = ((x == 2 || x == ((n % 2 : Nat) : Int)) && (y == 2 || y == ((n % 2 : Nat) : Int))) := by
     have hc := hc.1
     have hd : n % 2 = 0 ∨ n % 2 = 1 := by omega
     rcases hd with hd | hd <;> rw [hd] <;> rcases ha.hd with rfl | rfl | rfl <;> rcases hb.hd with rfl | rfl | rfl <;> first | decide | exact absurd hc (by decide)
   rw [key]
   cases (x == 2 || x == ((n % 2 : Nat) : Int)) <;> cases (y == 2 || y == ((n % 2 : Nat) : Int)) <;> cases cpl a (n / 2) <;> rfl
theorem cov_cpl : ∀ (a b : List Int) (n : Nat),a.length = b.length → Vs a → Vs b → cnt fc a b = 0 → cpl b n = true → cpl a n = true
 | [],_,_,_,_,_,_,_ => rfl
 | _ :: _,[],_,h,_,_,_,_ => by simp at h
 | x :: a,y :: b,n,h,ha,hb,hc,hn => by
   rw [cnt_cons] at hc
   rw [cpl,Bool.and_eq_true] at hn
   rw [cpl,Bool.and_eq_true]
   refine ⟨?_,cov_cpl a b (n / 2) (by simpa using h) ha.tl hb.tl hc.2 hn.2⟩
   have hc := hc.1
   have hn := hn.1
   have hd : n % 2 = 0 ∨ n % 2 = 1 := by omega
   rcases hd with hd | hd <;> rw [hd] at hn ⊢ <;> rcases ha.hd with rfl | rfl | rfl <;> rcases hb.hd with rfl | rfl | rfl <;> first | decide | exact absurd hc (by decide) | exact absurd hn (by decide)
theorem nocov_cpl : ∀ (a b : List Int),a.length = b.length → Vs a → Vs b → cnt fc a b ≠ 0 → ∃ n,n < 2 ^ b.length ∧ cpl b n = true ∧ cpl a n = false
 | [],_,_,_,_,h => absurd rfl h
 | _ :: _,[],h,_,_,_ => by simp at h
 | x :: a,y :: b,h,ha,hb,hc => by
   cases hf : fc x y with
   | false =>
     have hc' : cnt fc a b ≠ 0 := fun e => hc (by rw [cnt_cons]; exact ⟨hf,e⟩)
     obtain ⟨n,h1,h2,h3⟩ := nocov_cpl a b (by simpa using h) ha.tl hb.tl hc'
     obtain ⟨b1,b2⟩ := bit_ok hb.hd
     refine ⟨bit y + 2 * n,?_,?_,?_⟩
     · rw [List.length_cons,Nat.pow_succ]; omega
     · rw [cpl_cons _ _ _ _ b1,b2,h2]; rfl
     · rw [cpl_cons _ _ _ _ b1,h3]; simp
   | true =>
     obtain ⟨n,h1,h2⟩ := ex_cpl b hb.tl
     obtain ⟨d,d1,d2,d3⟩ : ∃ d : Nat,d < 2 ∧ (y == 2 || y == (d : Int)) = true ∧ (x == 2 || x == (d : Int)) = false := by
       rcases ha.hd with rfl | rfl | rfl <;> rcases hb.hd with rfl | rfl | rfl <;> first | exact absurd hf (by decide) | exact ⟨0,by decide,by decide,by decide⟩ | exact ⟨1,by decide,by decide,by decide⟩
     refine ⟨d + 2 * n,?_,?_,?_⟩
     · rw [List.length_cons,Nat.pow_succ]; omega
     · rw [cpl_cons _ _ _ _ d1,d2,h2]; rfl
     · rw [cpl_cons _ _ _ _ d1,d3]; rfl
theorem cnt_app (f : Int → Int → Bool) {a b : List Int} (c d : List Int) (h : a.length = b.length) : cnt f (a ++ c) (b ++ d) = cnt f a b + cnt f c d := by
 unfold cnt
 rw [List.zip_append h,List.countP_append]
theorem zw_app {a b : List Int} (c d : List Int) (h : a.length = b.length) : List.zipWith mn (a ++ c) (b ++ d) = List.zipWith mn a b ++ List.zipWith mn c d := List.zipWith_append h
theorem Vs_app {a b : List Int} (h1 : Vs a) (h2 : Vs b) : Vs (a ++ b) := fun x hx => by
 rcases List.mem_append.1 hx with hx | hx
 · exact h1 x hx
 · exact h2 x hx
end Cu
end Go.Proofs.Ytnmlmdlhhphcoaa
namespace Go.Proofs.Ytnmlmdlhhphcoaa
open Go.Abs
namespace Cu
theorem pow_w {k : Nat} (h : k ≤ 8) : IntKind.i64.wrap (1 * 2 ^ min ((k : Int)).toNat 64) = ((2 ^ k : Nat) : Int) := by
 rw [Int.toNat_natCast]
 have key : ∀ k : Fin 9,IntKind.i64.wrap (1 * 2 ^ min k.1 64) = ((2 ^ k.1 : Nat) : Int) := by decide
 exact key ⟨k,by omega⟩
theorem pow_le8 {k : Nat} (h : k ≤ 8) : 2 ^ k ≤ 256 := Nat.le_trans (Nat.pow_le_pow_right (by decide) h) (by decide)
theorem big_sum {most : Nat} {p : List Int × List Int} (hm : most ≤ 1000) (h : bigP most p = false) : p.1.length + p.2.length ≤ most := by
 unfold bigP at h
 by_cases h1 : ((p.1.length : Int) > (most : Int))
 · simp [h1] at h
 · by_cases h2 : ((p.2.length : Int) > (most : Int))
   · simp [h1,h2] at h
   · have ew : IntKind.i64.wrap ((p.1.length : Int) + (p.2.length : Int)) = ((p.1.length + p.2.length : Nat) : Int) := by rw [w64 (by omega) (by omega)]; omega
     simp only [h1,h2,decide_false,cond_false,ew,decide_eq_false_iff_not] at h
     omega
theorem run3 {xi xs yi ys : List Int} (p1 : ∀ x ∈ xi,0 ≤ x) (p2 : ∀ x ∈ xs,0 ≤ x) (p3 : ∀ x ∈ yi,0 ≤ x) (p4 : ∀ x ∈ ys,0 ≤ x) : M3.m ⟨xi,xs,yi,ys⟩ = some true := by
 unfold M3.m
 have h9 := m9 (most := 8) (l := [(xi,xs)]) (by simp)
 have h9' := m9 (most := 30) (l := [(yi,ys)]) (by simp)
 simp only [h9,h9',bindO,lives10]
 cases hb : [(xi,xs)].any (bigP 8) with
 | true => rfl
 | false =>
   simp only [List.any_cons,List.any_nil,Bool.or_false] at hb
   have hl : xi.length + xs.length ≤ 8 := big_sum (most := 8) (by decide) hb
   cases hb' : [(yi,ys)].any (bigP 30) with
   | true => rfl
   | false =>
     simp only [Bool.not_false,Bool.not_true,cond_true,cond_false,m11 (show xi.length ≤ 1000000 by omega) (show xs.length ≤ 1000000 by omega),m12 (show xi.length ≤ 1000000 by omega) (show xs.length ≤ 1000000 by omega),
       m11 (show (shp xi.length yi).length ≤ 1000000 by rw [shp_length]; omega) (show (shp xs.length ys).length ≤ 1000000 by rw [shp_length]; omega)]
     have vA := vals_Vs p1
     have vA' := vals_Vs p2
     have vB := vals_Vs (shp_pos (n := xi.length) p3)
     have vB' := vals_Vs (shp_pos (n := xs.length) p4)
     have eA : (vals xi).length + (vals xs).length ≤ 8 := by rw [vals_len,vals_len]; omega
     have eB : (vals xi).length = (vals (shp xi.length yi)).length := by rw [vals_len,vals_len,shp_length]
     have eB' : (vals xs).length = (vals (shp xs.length ys)).length := by rw [vals_len,vals_len,shp_length]
     generalize vals xi = A at *
     generalize vals xs = A' at *
     generalize vals (shp xi.length yi) = B at *
     generalize vals (shp xs.length ys) = B' at *
     clear h9 h9' hb hb' p1 p2 p3 p4 hl
     have cAB := comp_V vA vA' vB vB' eB eB' (by omega)
     have oAB := covs_V vA vA' vB vB' eB eB' (by omega)
     have hc : comp A A' B B' = decide (cnt fd (A ++ A') (B ++ B') = 0) := by
       rw [cAB,cnt_app _ _ _ eB,decide_eq_decide]; omega
     have ho : covs A A' B B' = decide (cnt fc (A ++ A') (B ++ B') = 0) := by
       rw [oAB,cnt_app _ _ _ eB,decide_eq_decide]; omega
     have va := Vs_app vA vA'
     have vb := Vs_app vB vB'
     have el : (A ++ A').length = (B ++ B').length := by simp; omega
     have eK : (A ++ A').length ≤ 8 := by simp; omega
     simp only [m13_V vA vA' vB vB' eB eB' (by omega)]
     -- the loop over the completions
     have hloop : ∀ g : List Int × List Int × Int,g = (if comp A A' B B' = true then (List.zipWith mn A B,List.zipWith mn A' B',(0 : Int)) else ([],[],9)) →
         iter M3.s0 ⟨g.2.2,0,true,0,A,A',B,B',g.1,g.2.1⟩ = some (.inl ⟨g.2.2,(((List.range (2 ^ (A ++ A').length)).countP fun n => cpl (A ++ A') n && cpl (B ++ B') n : Nat) : Int),(List.range (2 ^ (A ++ A').length)).all fun n => cpl (A ++ A') n || !cpl (B ++ B') n,A,A',B,B',g.1,g.2.1⟩) := fun g hg => by
       have hp := pow_le8 eK
       have key := iter_scan (step := M3.s0) (fun i (_ : Unit) => ⟨g.2.2,(((List.range i).countP fun n => cpl (A ++ A') n && cpl (B ++ B') n : Nat) : Int),(List.range i).all fun n => cpl (A ++ A') n || !cpl (B ++ B') n,(i : Int),A,A',B,B',g.1,g.2.1⟩)
         (List.range (2 ^ (A ++ A').length)) (fun _ _ => .inl ())
         (fun _ => .inl ⟨g.2.2,(((List.range (2 ^ (A ++ A').length)).countP fun n => cpl (A ++ A') n && cpl (B ++ B') n : Nat) : Int),(List.range (2 ^ (A ++ A').length)).all fun n => cpl (A ++ A') n || !cpl (B ++ B') n,A,A',B,B',g.1,g.2.1⟩) (fun _ _ => True) (fun i hi _ _ => by
           have hi : i < 2 ^ (A ++ A').length := by simpa using hi
           have e1 : ((i : Int) < ((2 ^ (A ++ A').length : Nat) : Int)) := by omega
           have e0 : (0 : Int) ≤ ((A ++ A').length : Int) := by omega
           have hcl : (List.range i).countP (fun n => cpl (A ++ A') n && cpl (B ++ B') n) ≤ i := Nat.le_trans List.countP_le_length (by simp)
           have ew : IntKind.i64.wrap ((((List.range i).countP fun n => cpl (A ++ A') n && cpl (B ++ B') n : Nat) : Int) + 1) = (((List.range i).countP (fun n => cpl (A ++ A') n && cpl (B ++ B') n) + 1 : Nat) : Int) := by rw [w64 (by omega) (by omega)]; omega
           have q1 : M15.m ⟨A,A',(i : Int)⟩ = some (cpl (A ++ A') i) := m15 vA vA' (by omega)
           have q2 : M15.m ⟨B,B',(i : Int)⟩ = some (cpl (B ++ B') i) := m15 vB vB' (by omega)
           have q3 : (bif g.2.2 == 0 then M15.m ⟨g.1,g.2.1,(i : Int)⟩ else some false) = some (bif g.2.2 == 0 then cpl (A ++ A') i && cpl (B ++ B') i else false) := by
             subst hg
             rw [hc]
             by_cases h0 : cnt fd (A ++ A') (B ++ B') = 0
             · simp only [h0,decide_true,if_true,beq_self_eq_true,cond_true]
               rw [m15 (zw_V _ _ vA vB) (zw_V _ _ vA' vB') (by rw [List.length_zipWith,List.length_zipWith]; omega),← zw_app _ _ eB,mrg_cpl _ _ _ el va vb h0]
             · simp only [h0,decide_false,Bool.false_eq_true,if_false]
               rfl
           unfold M3.s0
           simp only [m14 (show A.length ≤ 1000000 by omega) (show A'.length ≤ 1000000 by omega),e0,pow_w eK,e1,q1,q2,q3,bindO,decide_true,cond_true,ew,suc (show i < 9000000000000000000 by omega),List.range_succ,List.countP_append,List.countP_singleton,List.all_append,List.all_cons,List.all_nil,Bool.and_true]
           cases (g.2.2 == 0) <;> cases cpl (A ++ A') i <;> cases cpl (B ++ B') i <;> cases ((List.range i).all fun n => cpl (A ++ A') n || !cpl (B ++ B') n) <;> simp) (fun _ _ _ _ _ _ => trivial) (fun _ _ => by
           have e0 : (0 : Int) ≤ ((A ++ A').length : Int) := by omega
           unfold M3.s0
           simp only [m14 (show A.length ≤ 1000000 by omega) (show A'.length ≤ 1000000 by omega),e0,pow_w eK,bindO,decide_true,cond_true,List.length_range,Int.lt_irrefl,decide_false,cond_false]) () trivial
       rw [scan_unitU] at key
       exact key
     generalize hg : (if comp A A' B B' = true then (List.zipWith mn A B,List.zipWith mn A' B',(0 : Int)) else ([],[],9)) = g
     simp only [hloop g hg.symm,sumC]
     have hcommon : decide ((((List.range (2 ^ (A ++ A').length)).countP fun n => cpl (A ++ A') n && cpl (B ++ B') n : Nat) : Int) > 0) = comp A A' B B' := by
       rw [hc,decide_eq_decide]
       constructor
       · intro h
         have h : 0 < (List.range (2 ^ (A ++ A').length)).countP fun n => cpl (A ++ A') n && cpl (B ++ B') n := by omega
         obtain ⟨n,_,hn⟩ := List.countP_pos_iff.1 h
         rw [Bool.and_eq_true] at hn
         exact both_fd _ _ n el va vb hn.1 hn.2
       · intro h
         obtain ⟨n,h1,h2⟩ := ex_cpl _ (zw_V _ _ va vb)
         rw [mrg_cpl _ _ _ el va vb h] at h2
         rw [zw_len _ _ el] at h1
         have : 0 < (List.range (2 ^ (A ++ A').length)).countP fun n => cpl (A ++ A') n && cpl (B ++ B') n := List.countP_pos_iff.2 ⟨n,List.mem_range.2 h1,h2⟩
         omega
     have hcovers : ((List.range (2 ^ (A ++ A').length)).all fun n => cpl (A ++ A') n || !cpl (B ++ B') n) = covs A A' B B' := by
       rw [ho,Bool.eq_iff_iff,decide_eq_true_eq,List.all_eq_true]
       constructor
       · intro h
         refine Classical.byContradiction fun hn => ?_
         obtain ⟨n,h1,h2,h3⟩ := nocov_cpl _ _ el va vb hn
         have := h n (List.mem_range.2 (by rw [el]; exact h1))
         rw [h2,h3] at this
         cases this
       · intro h n _
         cases hb : cpl (B ++ B') n with
         | false => simp
         | true => rw [cov_cpl _ _ n el va vb h hb]; rfl
     simp only [hcommon,hcovers,m16 (show A.length ≤ 1000000 by omega) (show A'.length ≤ 1000000 by omega) (show B.length ≤ 1000000 by omega) (show B'.length ≤ 1000000 by omega),m17 (show A.length ≤ 1000000 by omega) (show A'.length ≤ 1000000 by omega) (show B.length ≤ 1000000 by omega) (show B'.length ≤ 1000000 by omega),m18 (show A.length ≤ 1000000 by omega) (show A'.length ≤ 1000000 by omega) (show B.length ≤ 1000000 by omega) (show B'.length ≤ 1000000 by omega)]
     have h18 : ((if chk2 A A' B B' ≠ 0 then (-1 : Int) else ((cnt fd A B + cnt fd A' B' : Nat) : Int)) == 0) = comp A A' B B' := by
       rw [eq0]; rfl
     cases hk : comp A A' B B' with
     | true =>
       rw [hk] at hg h18
       simp only [if_true] at hg
       subst hg
       have z1 : (((List.zipWith mn A B).length : Int) != (A.length : Int)) = false := by rw [zw_len _ _ eB]; simp
       have z2 : (((List.zipWith mn A' B').length : Int) != (A'.length : Int)) = false := by rw [zw_len _ _ eB']; simp
       simp only [z1,z2,h18,beq_self_eq_true,cond_true,cond_false,Bool.not_true,bindO]
     | false =>
       rw [hk] at hg h18
       simp only [Bool.false_eq_true,if_false] at hg
       subst hg
       simp only [h18,List.length_nil,beq_self_eq_true,cond_true,bindO]
       rfl
end Cu
end Go.Proofs.Ytnmlmdlhhphcoaa
