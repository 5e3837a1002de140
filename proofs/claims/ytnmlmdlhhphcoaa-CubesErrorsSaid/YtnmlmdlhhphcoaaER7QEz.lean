/-
  What the proof stands on.
-/
import Derived.Test.YtnmlmdlhhphcoaaER7QEx
import Derived.Test.YtnmlmdlhhphcoaaER7QEy
import Derived.Lib.IndexLaws
set_option linter.all false
namespace Go.Proofs.Ytnmlmdlhhphcoaa
open Go.Abs
namespace Cu
theorem w64 {x : Int} (h : -9223372036854775808 ≤ x) (h' : x ≤ 9223372036854775807) : IntKind.i64.wrap x = x := by
 simp [IntKind.wrap,IntKind.signed,IntKind.bits]; omega
theorem inR_nat {i n : Nat} (h : i < n) : inR (i : Int) n = true := by simp [inR]; omega
theorem getD_at {α : Type} {l : List α} {i : Nat} (h : i < l.length) (d : α) : l[(i : Int).toNat]?.getD d = l[i] := by simp [h]
theorem suc {i : Nat} (h : i < 9000000000000000000) : IntKind.i64.wrap ((i : Int) + 1) = ((i + 1 : Nat) : Int) := by rw [w64 (by omega) (by omega)]; omega
def scan {A α Y : Type} (F : A → α → A ⊕ Y) (E : A → Y) : A → List α → Y
 | a,[] => E a
 | a,x :: l => match F a x with | .inl a' => scan F E a' l | .inr y => y
theorem iter_scan {X Y A α : Type} {step : X → Option (X ⊕ Y)} (S : Nat → A → X) (l : List α) (F : A → α → A ⊕ Y) (E : A → Y) (I : Nat → A → Prop)
   (h : ∀ i (hi : i < l.length) a,I i a → step (S i a) = some (match F a l[i] with | .inl a' => .inl (S (i + 1) a') | .inr y => .inr y))
   (hI : ∀ i (hi : i < l.length) a a',I i a → F a l[i] = .inl a' → I (i + 1) a')
   (he : ∀ a,I l.length a → step (S l.length a) = some (.inr (E a))) (a : A) (ha : I 0 a) : iter step (S 0 a) = some (scan F E a l) := by
 have : ∀ j i a,i + j = l.length → I i a → iter step (S i a) = some (scan F E a (l.drop i)) := by
   intro j
   induction j with
   | zero =>
     intro i a hi ha
     have e : i = l.length := by omega
     subst e
     rw [iter_eq,he a ha,List.drop_length]
     rfl
   | succ j ih =>
     intro i a hi ha
     have hil : i < l.length := by omega
     rw [iter_eq,h i hil a ha,List.drop_eq_getElem_cons hil]
     unfold scan
     cases hF : F a l[i] with
     | inl a' => exact ih (i + 1) a' (by omega) (hI i hil a a' ha hF)
     | inr y => rfl
 have h := this l.length 0 a (by omega) ha
 rwa [List.drop_zero] at h
theorem iter_any {X Y α : Type} {step : X → Option (X ⊕ Y)} (S : Nat → X) (l : List α) (P : α → Bool) (Z : Nat → Y) {y : Y}
   (h : ∀ i (hi : i < l.length),step (S i) = some (if P l[i] = true then .inr (Z i) else .inl (S (i + 1)))) (he : step (S l.length) = some (.inr y)) :
   (l.any P = true ∧ ∃ i : Nat,iter step (S 0) = some (Z i)) ∨ (l.any P = false ∧ iter step (S 0) = some y) := by
 have : ∀ j i,i + j = l.length → ((l.drop i).any P = true ∧ ∃ t : Nat,iter step (S i) = some (Z t)) ∨ ((l.drop i).any P = false ∧ iter step (S i) = some y) := by
   intro j
   induction j with
   | zero =>
     intro i hi
     have e : i = l.length := by omega
     subst e
     exact .inr ⟨by rw [List.drop_length]; rfl,by rw [iter_eq,he]⟩
   | succ j ih =>
     intro i hi
     have hil : i < l.length := by omega
     rw [List.drop_eq_getElem_cons hil,List.any_cons,iter_eq,h i hil]
     cases hP : P l[i] with
     | true => exact .inl ⟨by simp,i,rfl⟩
     | false =>
       simp only [Bool.false_eq_true,if_false,Bool.false_or]
       exact ih (i + 1) (by omega)
 have h := this l.length 0 (by omega)
 rwa [List.drop_zero] at h
def bad (l : List Int) : Bool := l.any fun v => decide (v > 2)
def chk (i s : List Int) : Int := if i.length + s.length > 16384 then 3 else if bad i = true ∨ bad s = true then 1 else 0
theorem m29 {i s : List Int} (hi : i.length ≤ 1000000) (hs : s.length ≤ 1000000) : M29.m ⟨i,s⟩ = some (chk i s) := by
 have k0 := iter_any (step := M29.i0_s0) (fun k => ⟨(i.length : Int),(k : Int),0,i,s⟩) i (fun v => decide (v > 2)) (fun _ => .inr ⟨1,i,s⟩) (y := .inl ⟨0,i,s⟩) (fun k hk => by
   have e1 : ((k : Int) < (i.length : Int)) := by omega
   unfold M29.i0_s0 M29.sb0
   simp only [e1,inR_nat hk,getD_at hk,suc (show k < 9000000000000000000 by omega),decide_true,cond_true,bindO]
   cases decide (i[k] > 2) <;> rfl) (by unfold M29.i0_s0; simp)
 have k1 := iter_any (step := M29.i0_s1) (fun k => ⟨(s.length : Int),(k : Int),0,i,s⟩) s (fun v => decide (v > 2)) (fun _ => .inr ⟨1,i,s⟩) (y := .inl ⟨0,i,s⟩) (fun k hk => by
   have e1 : ((k : Int) < (s.length : Int)) := by omega
   unfold M29.i0_s1 M29.sb0
   simp only [e1,inR_nat hk,getD_at hk,suc (show k < 9000000000000000000 by omega),decide_true,cond_true,bindO]
   cases decide (s[k] > 2) <;> rfl) (by unfold M29.i0_s1; simp)
 have ew : IntKind.i64.wrap ((i.length : Int) + (s.length : Int)) = ((i.length + s.length : Nat) : Int) := by rw [w64 (by omega) (by omega)]; omega
 unfold M29.m chk M36.m
 simp only [ew,bindO]
 by_cases hg : i.length + s.length > 16384
 · have : (((i.length + s.length : Nat) : Int) > 16384) := by omega
   simp only [this,decide_true,cond_true,hg,if_true]
 · have : ¬ (((i.length + s.length : Nat) : Int) > 16384) := by omega
   simp only [this,decide_false,cond_false,hg,if_false]
   unfold M29.s0
   rcases k0 with ⟨h1,t,h2⟩ | ⟨h1,h2⟩
   · have h2 : iter M29.i0_s0 ⟨(i.length : Int),0,0,i,s⟩ = _ := h2
     have hb : bad i = true := h1
     simp only [h2,bindO,sumC,hb,true_or,if_true]
   · have h2 : iter M29.i0_s0 ⟨(i.length : Int),0,0,i,s⟩ = _ := h2
     have hb : bad i = false := h1
     rcases k1 with ⟨h3,t,h4⟩ | ⟨h3,h4⟩
     · have h4 : iter M29.i0_s1 ⟨(s.length : Int),0,0,i,s⟩ = _ := h4
       have hb2 : bad s = true := h3
       simp only [h2,h4,bindO,sumC,hb,hb2,or_true,if_true]
     · have h4 : iter M29.i0_s1 ⟨(s.length : Int),0,0,i,s⟩ = _ := h4
       have hb2 : bad s = false := h3
       simp only [h2,h4,bindO,sumC,hb,hb2]
       rfl
end Cu
end Go.Proofs.Ytnmlmdlhhphcoaa
namespace Go.Proofs.Ytnmlmdlhhphcoaa
open Go.Abs
namespace Cu
def chk2 (ai as_ bi bs : List Int) : Int := if chk ai as_ ≠ 0 then chk ai as_ else if chk bi bs ≠ 0 then chk bi bs else if ai.length ≠ bi.length ∨ as_.length ≠ bs.length then 8 else 0
theorem m33 {ai as_ bi bs : List Int} (h1 : ai.length ≤ 1000000) (h2 : as_.length ≤ 1000000) (h3 : bi.length ≤ 1000000) (h4 : bs.length ≤ 1000000) : M33.m ⟨ai,as_,bi,bs⟩ = some (chk2 ai as_ bi bs) := by
 have s0 : M33.s0 ⟨[(ai,as_),(bi,bs)],2,0,ai,as_,bi,bs⟩ = some (if chk ai as_ ≠ 0 then .inr (.inr ⟨chk ai as_⟩) else .inl ⟨[(ai,as_),(bi,bs)],2,1,ai,as_,bi,bs⟩) := by
   unfold M33.s0
   simp only [m29 h1 h2,show decide ((0 : Int) < 2) = true from rfl,show inR 0 [(ai,as_),(bi,bs)].length = true from rfl,cond_true,bindO,show ([(ai,as_),(bi,bs)] : List (List Int × List Int))[(0 : Int).toNat]?.getD ([],[]) = (ai,as_) from rfl]
   by_cases h : chk ai as_ = 0
   · simp [h]; rfl
   · have hb : (chk ai as_ != 0) = true := by simpa using h
     rw [hb,if_pos h]; rfl
 have s1 : M33.s0 ⟨[(ai,as_),(bi,bs)],2,1,ai,as_,bi,bs⟩ = some (if chk bi bs ≠ 0 then .inr (.inr ⟨chk bi bs⟩) else .inl ⟨[(ai,as_),(bi,bs)],2,2,ai,as_,bi,bs⟩) := by
   unfold M33.s0
   simp only [m29 h3 h4,show decide ((1 : Int) < 2) = true from rfl,show inR 1 [(ai,as_),(bi,bs)].length = true from rfl,cond_true,bindO,show ([(ai,as_),(bi,bs)] : List (List Int × List Int))[(1 : Int).toNat]?.getD ([],[]) = (bi,bs) from rfl]
   by_cases h : chk bi bs = 0
   · simp [h]; rfl
   · have hb : (chk bi bs != 0) = true := by simpa using h
     rw [hb,if_pos h]; rfl
 have s2 : M33.s0 ⟨[(ai,as_),(bi,bs)],2,2,ai,as_,bi,bs⟩ = some (.inr (.inl ⟨ai,as_,bi,bs⟩)) := by
   unfold M33.s0
   simp
 unfold M33.m chk2
 have key : iter M33.s0 ⟨[(ai,as_),(bi,bs)],2,0,ai,as_,bi,bs⟩ = some (if chk ai as_ ≠ 0 then .inr ⟨chk ai as_⟩ else if chk bi bs ≠ 0 then .inr ⟨chk bi bs⟩ else .inl ⟨ai,as_,bi,bs⟩) := by
   rw [iter_eq,s0]
   by_cases h : chk ai as_ = 0
   · simp only [h,ne_eq,not_true,if_false]
     rw [iter_eq,s1]
     by_cases h' : chk bi bs = 0
     · simp only [h',ne_eq,not_true,if_false]
       rw [iter_eq,s2]
     · simp only [h',ne_eq,not_false_eq_true,if_true]
   · simp only [h,ne_eq,not_false_eq_true,if_true]
 show bindO (iter M33.s0 ⟨[(ai,as_),(bi,bs)],2,0,ai,as_,bi,bs⟩) _ = _
 rw [key]
 by_cases h : chk ai as_ = 0
 · by_cases h' : chk bi bs = 0
   · simp only [h,h',ne_eq,not_true,if_false,bindO,sumC]
     by_cases e1 : ai.length = bi.length
     · by_cases e2 : as_.length = bs.length
       · simp [e1,e2]
       · have : ((as_.length : Int) != (bs.length : Int)) = true := by simp; omega
         simp [e1,e2,this]
     · have : ((ai.length : Int) != (bi.length : Int)) = true := by simp; omega
       simp [e1,this]
   · simp only [h,h',ne_eq,not_true,not_false_eq_true,if_true,if_false,bindO,sumC]
 · simp only [h,ne_eq,not_false_eq_true,if_true,bindO,sumC]
theorem m35 {i s : List Int} (hi : i.length ≤ 1000000) (hs : s.length ≤ 1000000) : M35.m ⟨i,s⟩ = some (i ++ s) := by
 have w1 : IntKind.i64.wrap (0 + (i.length : Int)) = (i.length : Int) := by rw [w64 (by omega) (by omega)]; omega
 have w2 : IntKind.i64.wrap ((i.length : Int) + (s.length : Int)) = ((i.length + s.length : Nat) : Int) := by rw [w64 (by omega) (by omega)]; omega
 have n1 : ¬ ((i.length : Int) < 0) := by omega
 have n2 : ¬ (((i.length + s.length : Nat) : Int) < 0) := by omega
 have a0 : M49.s0 ⟨[i,s],0,[i,s],2,0⟩ = some (.inl ⟨[i,s],(i.length : Int),[i,s],2,1⟩) := by
   unfold M49.s0
   simp only [show decide ((0 : Int) < 2) = true from rfl,show inR 0 [i,s].length = true from rfl,cond_true,show ([i,s] : List (List Int))[(0 : Int).toNat]?.getD [] = i from rfl,w1,n1,decide_false,cond_false]
   rfl
 have a1 : M49.s0 ⟨[i,s],(i.length : Int),[i,s],2,1⟩ = some (.inl ⟨[i,s],((i.length + s.length : Nat) : Int),[i,s],2,2⟩) := by
   unfold M49.s0
   simp only [show decide ((1 : Int) < 2) = true from rfl,show inR 1 [i,s].length = true from rfl,cond_true,show ([i,s] : List (List Int))[(1 : Int).toNat]?.getD [] = s from rfl,w2,n2,decide_false,cond_false]
   rfl
 have a2 : M49.s0 ⟨[i,s],((i.length + s.length : Nat) : Int),[i,s],2,2⟩ = some (.inr ⟨[i,s],((i.length + s.length : Nat) : Int)⟩) := by
   unfold M49.s0
   simp
 have k0 : iter M49.s0 ⟨[i,s],0,[i,s],(([i,s] : List (List Int)).length : Int),0⟩ = some ⟨[i,s],((i.length + s.length : Nat) : Int)⟩ := by
   show iter M49.s0 ⟨[i,s],0,[i,s],2,0⟩ = _
   rw [iter_eq,a0]
   show iter M49.s0 _ = _
   rw [iter_eq,a1]
   show iter M49.s0 _ = _
   rw [iter_eq,a2]
 have r1 : (eqN 0 0 && eqN ([] : List Int).length 0 && roomB (0 + i.length) 1) = true := by
   have : roomB (0 + i.length) 1 = true := by simp [roomB,leB]; omega
   rw [this]; rfl
 have r2 : (eqN 0 0 && eqN ([] ++ i).length (0 + i.length) && roomB (0 + i.length + s.length) 1) = true := by
   have h1 : roomB (0 + i.length + s.length) 1 = true := by simp [roomB,leB]; omega
   have h2 : eqN ([] ++ i).length (0 + i.length) = true := by simp [eqN]
   rw [h1,h2]; rfl
 have b0 : M49.s1 ⟨0,0,[i,s],2,0,[]⟩ = some (.inl ⟨0,0 + i.length,[i,s],2,1,[] ++ i⟩) := by
   unfold M49.s1
   simp only [show decide ((0 : Int) < 2) = true from rfl,show inR 0 [i,s].length = true from rfl,cond_true,show ([i,s] : List (List Int))[(0 : Int).toNat]?.getD [] = i from rfl,r1]
   rfl
 have b1 : M49.s1 ⟨0,0 + i.length,[i,s],2,1,[] ++ i⟩ = some (.inl ⟨0,0 + i.length + s.length,[i,s],2,2,[] ++ i ++ s⟩) := by
   unfold M49.s1
   simp only [show decide ((1 : Int) < 2) = true from rfl,show inR 1 [i,s].length = true from rfl,cond_true,show ([i,s] : List (List Int))[(1 : Int).toNat]?.getD [] = s from rfl,r2]
   rfl
 have b2 : M49.s1 ⟨0,0 + i.length + s.length,[i,s],2,2,[] ++ i ++ s⟩ = some (.inr ⟨0,0 + i.length + s.length,[] ++ i ++ s⟩) := by
   unfold M49.s1
   simp
 have k1 : iter M49.s1 ⟨0,0,[i,s],(([i,s] : List (List Int)).length : Int),0,[]⟩ = some ⟨0,0 + i.length + s.length,[] ++ i ++ s⟩ := by
   show iter M49.s1 ⟨0,0,[i,s],2,0,[]⟩ = _
   rw [iter_eq,b0]
   show iter M49.s1 _ = _
   rw [iter_eq,b1]
   show iter M49.s1 _ = _
   rw [iter_eq,b2]
 have g : (decide ((0 : Int) ≤ ((i.length + s.length : Nat) : Int)) && decide (((i.length + s.length : Nat) : Int) ≤ 1000000000)) = true := by
   simp; omega
 unfold M35.m M49.m M55.m
 simp only [k0,bindO,g,cond_true,k1]
 have e : leB (0 + (0 + i.length + s.length)) ([] ++ i ++ s).length = true := by simp [leB]
 rw [e]
 simp only [Bool.and_self,cond_true,List.drop_zero,List.nil_append,Nat.zero_add,Option.some.injEq]
 exact List.take_of_length_le (by simp)
end Cu
end Go.Proofs.Ytnmlmdlhhphcoaa
namespace Go.Proofs.Ytnmlmdlhhphcoaa
open Go.Abs
namespace Cu
def cnt (f : Int → Int → Bool) (xs ys : List Int) : Nat := (xs.zip ys).countP fun p => f p.1 p.2
def fc (x y : Int) : Bool := bif x != 2 then x != y else false
def fd (x y : Int) : Bool := IntKind.u8.wrap (x + y) == 1
theorem m38 (x y : Int) : M38.m ⟨x,y⟩ = some (fc x y) := rfl
theorem m39 (x y : Int) : M39.m ⟨x,y⟩ = some (fd x y) := rfl
theorem scan_cnt {Y : Type} (f : Int → Int → Bool) (E : Nat → Y) : ∀ (zs : List (Int × Int)) (n : Nat),scan (fun (n : Nat) (p : Int × Int) => (.inl (if f p.1 p.2 = true then n + 1 else n) : Nat ⊕ Y)) E n zs = E (n + zs.countP fun p => f p.1 p.2)
 | [],n => by simp [scan]
 | p :: zs,n => by
   unfold scan
   refine (scan_cnt f E zs _).trans ?_
   rw [List.countP_cons]
   congr 1
   cases f p.1 p.2 <;> simp <;> omega
theorem M37c_run {ai as_ bi bs : List Int} (h1 : ai.length ≤ 1000000) (h2 : as_.length ≤ 1000000) (h3 : bi.length ≤ 1000000) (h4 : bs.length ≤ 1000000) :
   M37c.m ⟨ai,as_,bi,bs⟩ = some (if chk2 ai as_ bi bs ≠ 0 then -1 else ((cnt fc ai bi + cnt fc as_ bs : Nat) : Int)) := by
 unfold M37c.m
 simp only [m33 h1 h2 h3 h4,bindO]
 by_cases hc : chk2 ai as_ bi bs = 0
 · have hlen : ai.length = bi.length ∧ as_.length = bs.length := by
     unfold chk2 at hc
     split at hc
     · contradiction
     · split at hc
       · contradiction
       · split at hc
         · cases hc
         · omega
   have hb : (chk2 ai as_ bi bs != 0) = false := by simp [hc]
   simp only [hb,cond_false,m35 h3 h4,bindO,hc,ne_eq,not_true,if_false]
   unfold M36.m
   simp only [bindO]
   unfold M37c.s0
   generalize hl : bi ++ bs = l
   have hll : l.length = ai.length + as_.length := by rw [← hl,List.length_append]; omega
   have z1 : (ai.zip l).length = ai.length := by rw [List.length_zip]; omega
   have z2 : (as_.zip (l.drop ai.length)).length = as_.length := by rw [List.length_zip,List.length_drop]; omega
   have k0 := iter_scan (step := M37c.i0_s0) (fun i (n : Nat) => ⟨(ai.length : Int),(i : Int),(n : Int),l,ai,as_⟩) (ai.zip l) (fun (n : Nat) (p : Int × Int) => .inl (if fc p.1 p.2 = true then n + 1 else n)) (fun n => ⟨(n : Int),l,ai,as_⟩) (fun i n => n ≤ i) (fun i hi n hn => by
     have hia : i < ai.length := by omega
     have hil : i < l.length := by omega
     have e1 : ((i : Int) < (ai.length : Int)) := by omega
     have hn : n ≤ i := hn
     unfold M37c.i0_s0 M37c.sb0
     simp only [m38,e1,inR_nat hia,inR_nat hil,getD_at hia,getD_at hil,suc (show i < 9000000000000000000 by omega),suc (show n < 9000000000000000000 by omega),decide_true,cond_true,bindO,List.getElem_zip]
     cases fc ai[i] l[i] <;> rfl) (fun i hi n n' hn hF => by
     have hn : n ≤ i := hn
     cases hF
     show (if _ then n + 1 else n) ≤ i + 1
     split
     · exact Nat.succ_le_succ hn
     · exact Nat.le_succ_of_le hn) (fun n _ => by
     unfold M37c.i0_s0
     simp [z1]) 0 (Nat.zero_le _)
   have k0 : iter M37c.i0_s0 ⟨(ai.length : Int),0,0,l,ai,as_⟩ = _ := k0
   rw [scan_cnt,Nat.zero_add] at k0
   have c0 : (ai.zip l).countP (fun p => fc p.1 p.2) ≤ 1000000 := by
     have := List.countP_le_length (p := fun p : Int × Int => fc p.1 p.2) (l := ai.zip l)
     omega
   have k1 := iter_scan (step := M37c.i0_s1) (fun i (n : Nat) => ⟨(as_.length : Int),(i : Int),(n : Int),l,ai,as_⟩) (as_.zip (l.drop ai.length)) (fun (n : Nat) (p : Int × Int) => .inl (if fc p.1 p.2 = true then n + 1 else n)) (fun n => ⟨(n : Int),l,ai,as_⟩) (fun i n => n ≤ 1000000 + i) (fun i hi n hn => by
     have hia : i < as_.length := by omega
     have hil : ai.length + i < l.length := by omega
     have e1 : ((i : Int) < (as_.length : Int)) := by omega
     have hn : n ≤ 1000000 + i := hn
     have ew : IntKind.i64.wrap ((ai.length : Int) + (i : Int)) = ((ai.length + i : Nat) : Int) := by rw [w64 (by omega) (by omega)]; omega
     unfold M37c.i0_s1 M37c.sb0
     simp only [m38,e1,ew,inR_nat hia,inR_nat hil,getD_at hia,getD_at hil,suc (show i < 9000000000000000000 by omega),suc (show n < 9000000000000000000 by omega),decide_true,cond_true,bindO,List.getElem_zip,List.getElem_drop]
     cases fc as_[i] l[ai.length + i] <;> rfl) (fun i hi n n' hn hF => by
     have hn : n ≤ 1000000 + i := hn
     cases hF
     show (if _ then n + 1 else n) ≤ 1000000 + (i + 1)
     split
     · exact Nat.succ_le_succ hn
     · exact Nat.le_succ_of_le hn) (fun n _ => by
     unfold M37c.i0_s1
     simp [z2]) ((ai.zip l).countP fun p => fc p.1 p.2) (by omega)
   have k1 : iter M37c.i0_s1 ⟨(as_.length : Int),0,(((ai.zip l).countP fun p => fc p.1 p.2 : Nat) : Int),l,ai,as_⟩ = _ := k1
   rw [scan_cnt] at k1
   simp only [k0,k1,bindO]
   have e1 : ai.zip l = ai.zip bi := by
     rw [← hl]
     have := List.zip_append (l₁ := ai) (l₂ := bi) (r₁ := []) (r₂ := bs) hlen.1
     simpa using this
   have e2 : l.drop ai.length = bs := by rw [← hl,hlen.1,List.drop_left]
   rw [e1,e2]
   rfl
 · have hb : (chk2 ai as_ bi bs != 0) = true := by simpa using hc
   simp only [hb,cond_true,hc,ne_eq,not_false_eq_true,if_true]
theorem M37d_run {ai as_ bi bs : List Int} (h1 : ai.length ≤ 1000000) (h2 : as_.length ≤ 1000000) (h3 : bi.length ≤ 1000000) (h4 : bs.length ≤ 1000000) :
   M37d.m ⟨ai,as_,bi,bs⟩ = some (if chk2 ai as_ bi bs ≠ 0 then -1 else ((cnt fd ai bi + cnt fd as_ bs : Nat) : Int)) := by
 unfold M37d.m
 simp only [m33 h1 h2 h3 h4,bindO]
 by_cases hc : chk2 ai as_ bi bs = 0
 · have hlen : ai.length = bi.length ∧ as_.length = bs.length := by
     unfold chk2 at hc
     split at hc
     · contradiction
     · split at hc
       · contradiction
       · split at hc
         · cases hc
         · omega
   have hb : (chk2 ai as_ bi bs != 0) = false := by simp [hc]
   simp only [hb,cond_false,m35 h3 h4,bindO,hc,ne_eq,not_true,if_false]
   unfold M36.m
   simp only [bindO]
   unfold M37d.s0
   generalize hl : bi ++ bs = l
   have hll : l.length = ai.length + as_.length := by rw [← hl,List.length_append]; omega
   have z1 : (ai.zip l).length = ai.length := by rw [List.length_zip]; omega
   have z2 : (as_.zip (l.drop ai.length)).length = as_.length := by rw [List.length_zip,List.length_drop]; omega
   have k0 := iter_scan (step := M37d.i0_s0) (fun i (n : Nat) => ⟨(ai.length : Int),(i : Int),(n : Int),l,ai,as_⟩) (ai.zip l) (fun (n : Nat) (p : Int × Int) => .inl (if fd p.1 p.2 = true then n + 1 else n)) (fun n => ⟨(n : Int),l,ai,as_⟩) (fun i n => n ≤ i) (fun i hi n hn => by
     have hia : i < ai.length := by omega
     have hil : i < l.length := by omega
     have e1 : ((i : Int) < (ai.length : Int)) := by omega
     have hn : n ≤ i := hn
     unfold M37d.i0_s0 M37d.sb0
     simp only [m39,e1,inR_nat hia,inR_nat hil,getD_at hia,getD_at hil,suc (show i < 9000000000000000000 by omega),suc (show n < 9000000000000000000 by omega),decide_true,cond_true,bindO,List.getElem_zip]
     cases fd ai[i] l[i] <;> rfl) (fun i hi n n' hn hF => by
     have hn : n ≤ i := hn
     cases hF
     show (if _ then n + 1 else n) ≤ i + 1
     split
     · exact Nat.succ_le_succ hn
     · exact Nat.le_succ_of_le hn) (fun n _ => by
     unfold M37d.i0_s0
     simp [z1]) 0 (Nat.zero_le _)
   have k0 : iter M37d.i0_s0 ⟨(ai.length : Int),0,0,l,ai,as_⟩ = _ := k0
   rw [scan_cnt,Nat.zero_add] at k0
   have c0 : (ai.zip l).countP (fun p => fd p.1 p.2) ≤ 1000000 := by
     have := List.countP_le_length (p := fun p : Int × Int => fd p.1 p.2) (l := ai.zip l)
     omega
   have k1 := iter_scan (step := M37d.i0_s1) (fun i (n : Nat) => ⟨(as_.length : Int),(i : Int),(n : Int),l,ai,as_⟩) (as_.zip (l.drop ai.length)) (fun (n : Nat) (p : Int × Int) => .inl (if fd p.1 p.2 = true then n + 1 else n)) (fun n => ⟨(n : Int),l,ai,as_⟩) (fun i n => n ≤ 1000000 + i) (fun i hi n hn => by
     have hia : i < as_.length := by omega
     have hil : ai.length + i < l.length := by omega
     have e1 : ((i : Int) < (as_.length : Int)) := by omega
     have hn : n ≤ 1000000 + i := hn
     have ew : IntKind.i64.wrap ((ai.length : Int) + (i : Int)) = ((ai.length + i : Nat) : Int) := by rw [w64 (by omega) (by omega)]; omega
     unfold M37d.i0_s1 M37d.sb0
     simp only [m39,e1,ew,inR_nat hia,inR_nat hil,getD_at hia,getD_at hil,suc (show i < 9000000000000000000 by omega),suc (show n < 9000000000000000000 by omega),decide_true,cond_true,bindO,List.getElem_zip,List.getElem_drop]
     cases fd as_[i] l[ai.length + i] <;> rfl) (fun i hi n n' hn hF => by
     have hn : n ≤ 1000000 + i := hn
     cases hF
     show (if _ then n + 1 else n) ≤ 1000000 + (i + 1)
     split
     · exact Nat.succ_le_succ hn
     · exact Nat.le_succ_of_le hn) (fun n _ => by
     unfold M37d.i0_s1
     simp [z2]) ((ai.zip l).countP fun p => fd p.1 p.2) (by omega)
   have k1 : iter M37d.i0_s1 ⟨(as_.length : Int),0,(((ai.zip l).countP fun p => fd p.1 p.2 : Nat) : Int),l,ai,as_⟩ = _ := k1
   rw [scan_cnt] at k1
   simp only [k0,k1,bindO]
   have e1 : ai.zip l = ai.zip bi := by
     rw [← hl]
     have := List.zip_append (l₁ := ai) (l₂ := bi) (r₁ := []) (r₂ := bs) hlen.1
     simpa using this
   have e2 : l.drop ai.length = bs := by rw [← hl,hlen.1,List.drop_left]
   rw [e1,e2]
   rfl
 · have hb : (chk2 ai as_ bi bs != 0) = true := by simpa using hc
   simp only [hb,cond_true,hc,ne_eq,not_false_eq_true,if_true]
theorem m18 {ai as_ bi bs : List Int} (h1 : ai.length ≤ 1000000) (h2 : as_.length ≤ 1000000) (h3 : bi.length ≤ 1000000) (h4 : bs.length ≤ 1000000) :
   M18.m ⟨ai,as_,bi,bs⟩ = some (if chk2 ai as_ bi bs ≠ 0 then -1 else ((cnt fd ai bi + cnt fd as_ bs : Nat) : Int)) := by
 unfold M18.m
 simp only [M37d_run h1 h2 h3 h4,bindO]
def comp (ai as_ bi bs : List Int) : Bool := decide (chk2 ai as_ bi bs = 0 ∧ cnt fd ai bi + cnt fd as_ bs = 0)
def covs (ai as_ bi bs : List Int) : Bool := decide (chk2 ai as_ bi bs = 0 ∧ cnt fc ai bi + cnt fc as_ bs = 0)
theorem eq0 {c : Int} {n : Nat} : ((if c ≠ 0 then (-1 : Int) else (n : Int)) == 0) = decide (c = 0 ∧ n = 0) := by
 by_cases h : c = 0
 · subst h
   by_cases hn : n = 0
   · subst hn; rfl
   · have : ((n : Int) == 0) = false := by simp only [beq_eq_false_iff_ne,ne_eq]; omega
     simp [hn]
 · simp [h]
theorem m16 {ai as_ bi bs : List Int} (h1 : ai.length ≤ 1000000) (h2 : as_.length ≤ 1000000) (h3 : bi.length ≤ 1000000) (h4 : bs.length ≤ 1000000) : M16.m ⟨ai,as_,bi,bs⟩ = some (comp ai as_ bi bs) := by
 unfold M16.m comp
 simp only [m18 h1 h2 h3 h4,bindO,eq0]
theorem m17 {ai as_ bi bs : List Int} (h1 : ai.length ≤ 1000000) (h2 : as_.length ≤ 1000000) (h3 : bi.length ≤ 1000000) (h4 : bs.length ≤ 1000000) : M17.m ⟨ai,as_,bi,bs⟩ = some (covs ai as_ bi bs) := by
 unfold M17.m covs
 simp only [M37c_run h1 h2 h3 h4,bindO,eq0]
end Cu
end Go.Proofs.Ytnmlmdlhhphcoaa
namespace Go.Proofs.Ytnmlmdlhhphcoaa
open Go.Abs
namespace Cu
theorem m34 {i s : List Int} (hi : i.length ≤ 1000000) (hs : s.length ≤ 1000000) : M34.m ⟨i,s⟩ = some (0,i.length,i.length,0,s.length,s.length,i,s) := by
 have e : ∀ l : List Int,l.length ≤ 1000000 → (decide (0 ≤ (l.length : Int)) && decide ((l.length : Int) * 1 ≤ 281474976710656) && decide ((l.length : Int) ≤ 9223372036854775807)) = true := fun l hl => by
   simp; omega
 have e2 : ∀ l : List Int,(leB l.length l.length && leB l.length (List.replicate l.length (0 : Int)).length) = true := fun l => by
   simp [leB]
 have e3 : ∀ l : List Int,List.take 0 (List.replicate l.length (0 : Int)) ++ l ++ List.drop l.length (List.replicate l.length (0 : Int)) = l := fun l => by
   rw [List.take_zero,List.nil_append,List.drop_eq_nil_of_le (by simp),List.append_nil]
 unfold M34.m
 have k1 := e i hi
 have k2 := e s hs
 simp only [Nat.zero_add,Int.toNat_natCast,Int.ofNat_one,Int.natCast_one,k1,k2,e2,e3,cond_true]
def mn (x y : Int) : Int := if y < x then y else x
def upd (xs l : List Int) (i : Nat) : List Int := (List.zipWith mn xs l).take i ++ xs.drop i
theorem upd_length {xs l : List Int} {i : Nat} (hl : xs.length ≤ l.length) (hi : i ≤ xs.length) : (upd xs l i).length = xs.length := by
 unfold upd
 rw [List.length_append,List.length_take,List.length_zipWith,List.length_drop]
 omega
theorem upd_at {xs l : List Int} {i : Nat} (hl : xs.length ≤ l.length) (hi : i < xs.length) : (upd xs l i)[i]?.getD 0 = xs[i] := by
 unfold upd
 rw [List.getElem?_append_right (by rw [List.length_take]; omega),List.length_take,List.length_zipWith,List.getElem?_drop]
 rw [show i + (i - min i (min xs.length l.length)) = i by omega,List.getElem?_eq_getElem hi]
 rfl
theorem upd_step {xs l : List Int} {i : Nat} (hl : xs.length ≤ l.length) (hi : i < xs.length) : (upd xs l i).set i (mn xs[i] (l[i]'(by omega))) = upd xs l (i + 1) := by
 have hz : i < (List.zipWith mn xs l).length := by rw [List.length_zipWith]; omega
 unfold upd
 rw [List.set_append_right _ _ (by rw [List.length_take]; omega),List.length_take,List.drop_eq_getElem_cons hi,List.take_succ_eq_append_getElem hz,show i - min i (List.zipWith mn xs l).length = 0 by omega,List.set_cons_zero,List.getElem_zipWith,List.append_assoc]
 rfl
theorem upd_end {xs l : List Int} (hl : xs.length ≤ l.length) : upd xs l xs.length = List.zipWith mn xs l := by
 unfold upd
 rw [List.drop_length,List.append_nil,List.take_of_length_le (by rw [List.length_zipWith]; omega)]
theorem upd_0 (xs l : List Int) : upd xs l 0 = xs := by simp [upd]
theorem scan_unit {Y : Type} (E : Unit → Y) : ∀ (l : List Int),scan (fun (_ : Unit) (_ : Int) => (.inl () : Unit ⊕ Y)) E () l = E ()
 | [] => rfl
 | _ :: l => by unfold scan; exact scan_unit E l
theorem m13 {ai as_ bi bs : List Int} (h1 : ai.length ≤ 1000000) (h2 : as_.length ≤ 1000000) (h3 : bi.length ≤ 1000000) (h4 : bs.length ≤ 1000000) :
   M13.m ⟨ai,as_,bi,bs⟩ = some (if chk2 ai as_ bi bs ≠ 0 then ([],[],chk2 ai as_ bi bs) else if comp ai as_ bi bs = true then (List.zipWith mn ai bi,List.zipWith mn as_ bs,0) else ([],[],9)) := by
 unfold M13.m
 simp only [m33 h1 h2 h3 h4,m16 h1 h2 h3 h4,m34 h1 h2,m35 h3 h4,bindO]
 by_cases hc : chk2 ai as_ bi bs = 0
 · have hlen : ai.length = bi.length ∧ as_.length = bs.length := by
     unfold chk2 at hc
     split at hc
     · contradiction
     · split at hc
       · contradiction
       · split at hc
         · cases hc
         · omega
   have hb : (chk2 ai as_ bi bs != 0) = false := by simp [hc]
   simp only [hb,cond_false,hc,ne_eq,not_true,if_false]
   cases hk : comp ai as_ bi bs with
   | false => rfl
   | true =>
     simp only [Bool.not_true,cond_false,if_true]
     unfold M36o.m
     simp only [bindO]
     unfold M13.s0
     generalize hl : bi ++ bs = l
     have hll : l.length = ai.length + as_.length := by rw [← hl,List.length_append]; omega
     have k0 := iter_scan (step := M13.i0_s0) (fun i (_ : Unit) => ⟨(ai.length : Int),(i : Int),upd ai l i,as_,0,ai.length,ai.length,0,as_.length,as_.length,l,0,ai.length,ai.length,0,as_.length,as_.length⟩) ai (fun _ _ => .inl ()) (fun _ => ⟨upd ai l ai.length,as_,0,ai.length,ai.length,0,as_.length,as_.length,l,0,ai.length,ai.length,0,as_.length,as_.length⟩) (fun _ _ => True) (fun i hi _ _ => by
       have hil : i < l.length := by omega
       have e1 : ((i : Int) < (ai.length : Int)) := by omega
       have e2 : i < (upd ai l i).length := by rw [upd_length (by omega) (by omega)]; omega
       have e3 : l[i]?.getD 0 = l[i] := by simp [hil]
       unfold M13.i0_s0 M13.sb0a
       simp only [e1,inR_nat hi,inR_nat hil,getD_at hil,suc (show i < 9000000000000000000 by omega),Int.toNat_natCast,e3,decide_true,cond_true,bindO,Nat.zero_add,e2,upd_at (show ai.length ≤ l.length by omega) hi]
       rw [← upd_step (show ai.length ≤ l.length by omega) hi]
       rfl) (fun _ _ _ _ _ _ => trivial) (fun _ _ => by
       unfold M13.i0_s0
       simp) () trivial
     rw [scan_unit,upd_end (show ai.length ≤ l.length by omega)] at k0
     simp only [upd_0] at k0
     have k0 : iter M13.i0_s0 ⟨(ai.length : Int),0,ai,as_,0,ai.length,ai.length,0,as_.length,as_.length,l,0,ai.length,ai.length,0,as_.length,as_.length⟩ = _ := k0
     generalize hz : List.zipWith mn ai l = zi at k0
     have hd : as_.length ≤ (l.drop ai.length).length := by rw [List.length_drop]; omega
     have k1 := iter_scan (step := M13.i0_s1) (fun i (_ : Unit) => ⟨(as_.length : Int),(i : Int),zi,upd as_ (l.drop ai.length) i,0,ai.length,ai.length,0,as_.length,as_.length,l,0,ai.length,ai.length,0,as_.length,as_.length⟩) as_ (fun _ _ => .inl ()) (fun _ => ⟨zi,upd as_ (l.drop ai.length) as_.length,0,ai.length,ai.length,0,as_.length,as_.length,l,0,ai.length,ai.length,0,as_.length,as_.length⟩) (fun _ _ => True) (fun i hi _ _ => by
       have hil : ai.length + i < l.length := by omega
       have e1 : ((i : Int) < (as_.length : Int)) := by omega
       have ew : IntKind.i64.wrap ((ai.length : Int) + (i : Int)) = ((ai.length + i : Nat) : Int) := by rw [w64 (by omega) (by omega)]; omega
       have e2 : i < (upd as_ (l.drop ai.length) i).length := by rw [upd_length hd (by omega)]; omega
       have e3 : l[ai.length + i]?.getD 0 = (l.drop ai.length)[i]'(by omega) := by simp [hil]
       unfold M13.i0_s1 M13.sb0b
       simp only [e1,ew,inR_nat hi,inR_nat hil,suc (show i < 9000000000000000000 by omega),Int.toNat_natCast,e3,decide_true,cond_true,bindO,Nat.zero_add,e2,upd_at hd hi]
       rw [← upd_step hd hi]
       rfl) (fun _ _ _ _ _ _ => trivial) (fun _ _ => by
       unfold M13.i0_s1
       simp) () trivial
     rw [scan_unit,upd_end hd] at k1
     simp only [upd_0] at k1
     have k1 : iter M13.i0_s1 ⟨(as_.length : Int),0,zi,as_,0,ai.length,ai.length,0,as_.length,as_.length,l,0,ai.length,ai.length,0,as_.length,as_.length⟩ = _ := k1
     simp only [k0,k1,bindO]
     have ez1 : zi = List.zipWith mn ai bi := by
       rw [← hz,← hl]
       have := List.zipWith_append (f := mn) (l₁ := ai) (l₂ := bi) (l₁' := []) (l₂' := bs) hlen.1
       simpa using this
     have ez2 : l.drop ai.length = bs := by rw [← hl,hlen.1,List.drop_left]
     have g1 : leB (0 + ai.length) zi.length = true := by rw [ez1]; simp [leB,List.length_zipWith]; omega
     have g2 : leB (0 + as_.length) (List.zipWith mn as_ bs).length = true := by simp [leB,List.length_zipWith]; omega
     rw [ez2]
     simp only [g1,g2,Bool.and_self,cond_true,List.drop_zero]
     rw [List.take_of_length_le (by rw [ez1,List.length_zipWith]; omega),List.take_of_length_le (by rw [List.length_zipWith]; omega),ez1]
     rfl
 · have hb : (chk2 ai as_ bi bs != 0) = true := by simpa using hc
   simp only [hb,cond_true,hc,ne_eq,not_false_eq_true,if_true]
end Cu
end Go.Proofs.Ytnmlmdlhhphcoaa
namespace Go.Proofs.Ytnmlmdlhhphcoaa
open Go.Abs
namespace Cu
theorem eq_zip : ∀ {s t : List Int},s.length = t.length → (((s.zip t).any fun p => p.1 != p.2) = false ↔ s = t)
 | [],[],_ => by simp
 | [],_ :: _,h => by simp at h
 | _ :: _,[],h => by simp at h
 | x :: s,y :: t,h => by
   have ih := eq_zip (s := s) (t := t) (by simpa using h)
   rw [List.zip_cons_cons,List.any_cons,Bool.or_eq_false_iff,ih]
   simp
theorem m44 {s t : List Int} (hs : s.length ≤ 1000000) (ht : t.length ≤ 1000000) : M44.m ⟨s,t⟩ = some (decide (s = t)) := by
 unfold M44.m
 by_cases hl : s.length = t.length
 · have hb : ((s.length : Int) != (t.length : Int)) = false := by simp [hl]
   simp only [hb,cond_false]
   have hz : (s.zip t).length = s.length := by rw [List.length_zip]; omega
   have key := iter_any (step := M44.s0) (fun k => ⟨s,t,(s.length : Int),(k : Int)⟩) (s.zip t) (fun p => p.1 != p.2) (fun _ => .inr ⟨false⟩) (y := .inl ⟨⟩) (fun k hk => by
     have hks : k < s.length := by omega
     have hkt : k < t.length := by omega
     have e1 : ((k : Int) < (s.length : Int)) := by omega
     unfold M44.s0
     simp only [e1,inR_nat hks,inR_nat hkt,getD_at hks,getD_at hkt,suc (show k < 9000000000000000000 by omega),decide_true,cond_true,List.getElem_zip]
     cases (s[k] != t[k]) <;> rfl) (by unfold M44.s0; simp [hz])
   rcases key with ⟨h1,i,h2⟩ | ⟨h1,h2⟩
   · have h2 : iter M44.s0 ⟨s,t,(s.length : Int),0⟩ = _ := h2
     have hne : s ≠ t := fun e => by
       have := (eq_zip hl).2 e
       rw [this] at h1
       cases h1
     simp only [h2,bindO,sumC,hne,decide_false]
   · have h2 : iter M44.s0 ⟨s,t,(s.length : Int),0⟩ = _ := h2
     have he : s = t := (eq_zip hl).1 h1
     simp only [h2,bindO,sumC]
     simp [he]
 · have hb : ((s.length : Int) != (t.length : Int)) = true := by simp; omega
   have hne : s ≠ t := fun e => hl (by rw [e])
   simp only [hb,cond_true,hne,decide_false]
theorem m25 {ai as_ bi bs : List Int} (h1 : ai.length ≤ 1000000) (h2 : as_.length ≤ 1000000) (h3 : bi.length ≤ 1000000) (h4 : bs.length ≤ 1000000) : M25.m ⟨ai,as_,bi,bs⟩ = some (decide (ai = bi ∧ as_ = bs)) := by
 unfold M25.m
 simp only [m44 h1 h3,m44 h2 h4,bindO]
 by_cases e1 : ai = bi
 · by_cases e2 : as_ = bs
   · simp [e1,e2]
   · simp [e1,e2]
 · simp [e1]
end Cu
end Go.Proofs.Ytnmlmdlhhphcoaa
namespace Go.Proofs.Ytnmlmdlhhphcoaa
open Go.Abs
namespace Cu
end Cu
end Go.Proofs.Ytnmlmdlhhphcoaa
namespace Go.Proofs.Ytnmlmdlhhphcoaa
open Go.Abs
namespace Cu
end Cu
end Go.Proofs.Ytnmlmdlhhphcoaa
namespace Go.Proofs.Ytnmlmdlhhphcoaa
open Go.Abs
namespace Cu
def Va (x : Int) : Prop := x = 0 ∨ x = 1 ∨ x = 2
def Vs (l : List Int) : Prop := ∀ x ∈ l,Va x
theorem Vs.hd {x : Int} {l : List Int} (h : Vs (x :: l)) : Va x := h x (by simp)
theorem Vs.tl {x : Int} {l : List Int} (h : Vs (x :: l)) : Vs l := fun y hy => h y (by simp [hy])
end Cu
end Go.Proofs.Ytnmlmdlhhphcoaa
namespace Go.Proofs.Ytnmlmdlhhphcoaa
open Go.Abs
def Le {α : Type} (a b : Option α) : Prop := ∀ y,a = some y → b = some y
theorem Le.refl {α : Type} (a : Option α) : Le a a := fun _ h => h
theorem Le.bind {α β : Type} {a b : Option α} {f g : α → Option β} (h : Le a b) (h' : ∀ y,Le (f y) (g y)) : Le (bindO a f) (bindO b g) := fun z hz => by
 obtain ⟨y,h1,h2⟩ := bindO_some hz
 rw [h y h1]; exact h' y z h2
theorem Le.cond {α : Type} {p : Bool} {a b c d : Option α} (h : Le a b) (h' : Le c d) : Le (bif p then a else c) (bif p then b else d) := by cases p <;> assumption
theorem Le.sum {α β γ : Type} {s : α ⊕ β} {f f' : α → Option γ} {g g' : β → Option γ} (h : ∀ y,Le (f y) (f' y)) (h' : ∀ y,Le (g y) (g' y)) : Le (sumC s f g) (sumC s f' g') := by
 cases s with
 | inl y => exact h y
 | inr y => exact h' y
theorem iterN_le {X Y : Type} {s s' : X → Option (X ⊕ Y)} (h : ∀ x,Le (s x) (s' x)) : ∀ (n : Nat) (x : X),Le (iterN s n x) (iterN s' n x)
 | 0,x => fun y hy => by cases hy
 | n + 1,x => fun y hy => by
   unfold iterN at hy ⊢
   split at hy
   · rename_i x' e; rw [h x _ e]; exact iterN_le h n x' y hy
   · rename_i y' e; rw [h x _ e]; exact hy
   · cases hy
theorem Le.iter {X Y : Type} {s s' : X → Option (X ⊕ Y)} {n : Nat} (h : ∀ x,Le (s x) (s' x)) (x : X) : Le (iterN s n x) (Go.Abs.iter s' x) := fun y hy => iter_of (iterN_le h n x y hy)
namespace M29
def sb0' (x : bp0X) : Option (bq0X ⊕ bz0X) := bif decide (x.v > 2) then some (Sum.inr { e := 1,bi := x.bi,bs := x.bs }) else some (Sum.inl { e := x.e,bi := x.bi,bs := x.bs })
theorem sb0_le (x : _) : Le (sb0' x) (sb0 x) := by
 unfold sb0' sb0
 repeat' first | with_reducible exact Le.refl _ | with_reducible apply Le.bind | with_reducible apply Le.cond | with_reducible apply Le.sum | intro _
def i0_s1' (x : i0_p1X) : Option (i0_p1X ⊕ (i0_q1X ⊕ i0_z1X)) := bif decide (x.i2 < x.n2) then bif inR x.i2 x.bs.length then bindO (sb0' { v := x.bs[x.i2.toNat]?.getD 0,e := x.e,bi := x.bi,bs := x.bs }) fun s => sumC s (fun y => some (Sum.inl { n2 := x.n2,i2 := IntKind.i64.wrap (x.i2 + 1),e := y.e,bi := y.bi,bs := y.bs })) fun z => some (Sum.inr (Sum.inr { e := z.e,bi := z.bi,bs := z.bs })) else none
else some (Sum.inr (Sum.inl { e := x.e,bi := x.bi,bs := x.bs }))
theorem i0_s1_le (x : _) : Le (i0_s1' x) (i0_s1 x) := by
 unfold i0_s1' i0_s1
 repeat' first | with_reducible exact Le.refl _ | with_reducible exact sb0_le _ | with_reducible apply Le.bind | with_reducible apply Le.cond | with_reducible apply Le.sum | intro _
def i0_s0' (x : i0_p0X) : Option (i0_p0X ⊕ (i0_q0X ⊕ i0_z0X)) := bif decide (x.i < x.n) then bif inR x.i x.bi.length then bindO (sb0' { v := x.bi[x.i.toNat]?.getD 0,e := x.e,bi := x.bi,bs := x.bs }) fun s => sumC s (fun y => some (Sum.inl { n := x.n,i := IntKind.i64.wrap (x.i + 1),e := y.e,bi := y.bi,bs := y.bs })) fun z => some (Sum.inr (Sum.inr { e := z.e,bi := z.bi,bs := z.bs })) else none
else some (Sum.inr (Sum.inl { e := x.e,bi := x.bi,bs := x.bs }))
theorem i0_s0_le (x : _) : Le (i0_s0' x) (i0_s0 x) := by
 unfold i0_s0' i0_s0
 repeat' first | with_reducible exact Le.refl _ | with_reducible exact sb0_le _ | with_reducible apply Le.bind | with_reducible apply Le.cond | with_reducible apply Le.sum | intro _
def s0' (x : p0X) : Option (q0X ⊕ z0X) := bindO (iterN i0_s0' 200 { n := (↑x.bi.length : Int),i := 0,e := x.e,bi := x.bi,bs := x.bs }) fun s => sumC s (fun y => bindO (iterN i0_s1' 200 { n2 := (↑y.bs.length : Int),i2 := 0,e := y.e,bi := y.bi,bs := y.bs }) fun s => sumC s (fun y => some (Sum.inl { e := y.e,bi := y.bi,bs := y.bs })) fun z => some (Sum.inr { e := z.e,bi := z.bi,bs := z.bs })) fun z => some (Sum.inr { e := z.e,bi := z.bi,bs := z.bs })
theorem s0_le (x : _) : Le (s0' x) (s0 x) := by
 unfold s0' s0
 repeat' first | with_reducible exact Le.refl _ | with_reducible exact Le.iter i0_s1_le _ | with_reducible exact Le.iter i0_s0_le _ | with_reducible apply Le.bind | with_reducible apply Le.cond | with_reducible apply Le.sum | intro _
def m' (x : gX) : Option fY := bif decide (IntKind.i64.wrap ((↑x.i.length : Int) + (↑x.s.length : Int)) > 16384) then some 3
else bindO (M36.m { i := x.i,s := x.s }) fun y => bindO (s0' { e := 0,bi := y.fst,bs := y.snd }) fun s => sumC s (fun y => some 0) fun z => some z.e
theorem m_le (x : _) : Le (m' x) (m x) := by
 unfold m' m
 repeat' first | with_reducible exact Le.refl _ | with_reducible exact s0_le _ | with_reducible apply Le.bind | with_reducible apply Le.cond | with_reducible apply Le.sum | intro _
end M29
namespace M22
def sb0' (x : bp0X) : Option bq0X := bif x.v != 2 then some { n0 := IntKind.i64.wrap (x.n0 + 1),bi := x.bi,bs := x.bs } else some { n0 := x.n0,bi := x.bi,bs := x.bs }
theorem sb0_le (x : _) : Le (sb0' x) (sb0 x) := by
 unfold sb0' sb0
 repeat' first | with_reducible exact Le.refl _ | with_reducible apply Le.bind | with_reducible apply Le.cond | with_reducible apply Le.sum | intro _
def i0_s1' (x : i0_p1X) : Option (i0_p1X ⊕ i0_q1X) := bif decide (x.i2 < x.n2) then bif inR x.i2 x.bs.length then bindO (sb0' { v := x.bs[x.i2.toNat]?.getD 0,n0 := x.n0,bi := x.bi,bs := x.bs }) fun y => some (Sum.inl { n2 := x.n2,i2 := IntKind.i64.wrap (x.i2 + 1),n0 := y.n0,bi := y.bi,bs := y.bs }) else none
else some (Sum.inr { n0 := x.n0,bi := x.bi,bs := x.bs })
theorem i0_s1_le (x : _) : Le (i0_s1' x) (i0_s1 x) := by
 unfold i0_s1' i0_s1
 repeat' first | with_reducible exact Le.refl _ | with_reducible exact sb0_le _ | with_reducible apply Le.bind | with_reducible apply Le.cond | with_reducible apply Le.sum | intro _
def i0_s0' (x : i0_p0X) : Option (i0_p0X ⊕ i0_q0X) := bif decide (x.i < x.n) then bif inR x.i x.bi.length then bindO (sb0' { v := x.bi[x.i.toNat]?.getD 0,n0 := x.n0,bi := x.bi,bs := x.bs }) fun y => some (Sum.inl { n := x.n,i := IntKind.i64.wrap (x.i + 1),n0 := y.n0,bi := y.bi,bs := y.bs }) else none
else some (Sum.inr { n0 := x.n0,bi := x.bi,bs := x.bs })
theorem i0_s0_le (x : _) : Le (i0_s0' x) (i0_s0 x) := by
 unfold i0_s0' i0_s0
 repeat' first | with_reducible exact Le.refl _ | with_reducible exact sb0_le _ | with_reducible apply Le.bind | with_reducible apply Le.cond | with_reducible apply Le.sum | intro _
def s0' (x : p0X) : Option q0X := bindO (iterN i0_s0' 200 { n := (↑x.bi.length : Int),i := 0,n0 := x.n0,bi := x.bi,bs := x.bs }) fun y => bindO (iterN i0_s1' 200 { n2 := (↑y.bs.length : Int),i2 := 0,n0 := y.n0,bi := y.bi,bs := y.bs }) fun y => some { n0 := y.n0,bi := y.bi,bs := y.bs }
theorem s0_le (x : _) : Le (s0' x) (s0 x) := by
 unfold s0' s0
 repeat' first | with_reducible exact Le.refl _ | with_reducible exact Le.iter i0_s1_le _ | with_reducible exact Le.iter i0_s0_le _ | with_reducible apply Le.bind | with_reducible apply Le.cond | with_reducible apply Le.sum | intro _
def m' (x : gX) : Option fY := bindO (M29.m' { i := x.i,s := x.s }) fun y => bif y != 0 then some 0 else bindO (M36.m { i := x.i,s := x.s }) fun y => bindO (s0' { n0 := 0,bi := y.fst,bs := y.snd }) fun y => some y.n0
theorem m_le (x : _) : Le (m' x) (m x) := by
 unfold m' m
 repeat' first | with_reducible exact Le.refl _ | with_reducible exact M29.m_le _ | with_reducible exact s0_le _ | with_reducible apply Le.bind | with_reducible apply Le.cond | with_reducible apply Le.sum | intro _
end M22
namespace M33
def s0' (x : p0X) : Option (p0X ⊕ (q0X ⊕ z0X)) := bif decide (x.i < x.n) then bif inR x.i x.l.length then bindO (M29.m' { i := (x.l[x.i.toNat]?.getD ([],[])).fst,s := (x.l[x.i.toNat]?.getD ([],[])).snd }) fun y => bif y != 0 then some (Sum.inr (Sum.inr { r := y })) else some (Sum.inl { l := x.l,n := x.n,i := IntKind.i64.wrap (x.i + 1),ai := x.ai,as_ := x.as_,bi := x.bi,bs := x.bs }) else none
else some (Sum.inr (Sum.inl { ai := x.ai,as_ := x.as_,bi := x.bi,bs := x.bs }))
theorem s0_le (x : _) : Le (s0' x) (s0 x) := by
 unfold s0' s0
 repeat' first | with_reducible exact Le.refl _ | with_reducible exact M29.m_le _ | with_reducible apply Le.bind | with_reducible apply Le.cond | with_reducible apply Le.sum | intro _
def m' (x : gX) : Option fY := bindO (iterN s0' 200 { l := [(x.ai,x.as_),(x.bi,x.bs)],n := (↑2 : Int),i := 0,ai := x.ai,as_ := x.as_,bi := x.bi,bs := x.bs }) fun s => sumC s (fun y => bif bif (↑y.ai.length : Int) != (↑y.bi.length : Int) then true else (↑y.as_.length : Int) != (↑y.bs.length : Int) then some 8 else some 0) fun z => some z.r
theorem m_le (x : _) : Le (m' x) (m x) := by
 unfold m' m
 repeat' first | with_reducible exact Le.refl _ | with_reducible exact Le.iter s0_le _ | with_reducible apply Le.bind | with_reducible apply Le.cond | with_reducible apply Le.sum | intro _
end M33
namespace M49
def s1' (x : p1X) : Option (p1X ⊕ q1X) := bif decide (x.i < x.n) then bif inR x.i x.l.length then bif eqN x.s_lo 0 && eqN x.xs.length x.s_len && roomB (x.s_len + List.length (x.l[x.i.toNat]?.getD [])) 1 then some (Sum.inl { s_lo := 0,s_len := x.s_len + List.length (x.l[x.i.toNat]?.getD []),l := x.l,n := x.n,i := IntKind.i64.wrap (x.i + 1),xs := x.xs ++ x.l[x.i.toNat]?.getD [] }) else none else none
else some (Sum.inr { s_lo := x.s_lo,s_len := x.s_len,xs := x.xs })
theorem s1_le (x : _) : Le (s1' x) (s1 x) := by
 unfold s1' s1
 repeat' first | with_reducible exact Le.refl _ | with_reducible apply Le.bind | with_reducible apply Le.cond | with_reducible apply Le.sum | intro _
def s0' (x : p0X) : Option (p0X ⊕ q0X) := bif decide (x.i < x.n) then bif inR x.i x.l9.length then bif decide (IntKind.i64.wrap (x.size + (↑(List.length (x.l9[x.i.toNat]?.getD [])) : Int)) < 0) then none else some (Sum.inl { l := x.l,size := IntKind.i64.wrap (x.size + (↑(List.length (x.l9[x.i.toNat]?.getD [])) : Int)),l9 := x.l9,n := x.n,i := IntKind.i64.wrap (x.i + 1) }) else none
else some (Sum.inr { l := x.l,size := x.size })
theorem s0_le (x : _) : Le (s0' x) (s0 x) := by
 unfold s0' s0
 repeat' first | with_reducible exact Le.refl _ | with_reducible apply Le.bind | with_reducible apply Le.cond | with_reducible apply Le.sum | intro _
def m' (x : gX) : Option fY := bindO (iterN s0' 200 { l := x.l,size := 0,l9 := x.l,n := (↑x.l.length : Int),i := 0 }) fun y => bindO (M55.m { n := y.size }) fun y_1 => bindO (iterN s1' 200 { s_lo := y_1.fst,s_len := y_1.snd.fst,l := y.l,n := (↑y.l.length : Int),i := 0,xs := y_1.snd.snd }) fun y => bif leB (y.s_lo + y.s_len) y.xs.length && true && true then some (List.take y.s_len (List.drop y.s_lo y.xs)) else none
theorem m_le (x : _) : Le (m' x) (m x) := by
 unfold m' m
 repeat' first | with_reducible exact Le.refl _ | with_reducible exact Le.iter s1_le _ | with_reducible exact Le.iter s0_le _ | with_reducible apply Le.bind | with_reducible apply Le.cond | with_reducible apply Le.sum | intro _
end M49
namespace M35
def m' (x : gX) : Option fY := bindO (M49.m' { l := [x.i,x.s] }) fun y => some y
theorem m_le (x : _) : Le (m' x) (m x) := by
 unfold m' m
 repeat' first | with_reducible exact Le.refl _ | with_reducible exact M49.m_le _ | with_reducible apply Le.bind | with_reducible apply Le.cond | with_reducible apply Le.sum | intro _
end M35
namespace M38
def m' (x : gX) : Option fY := some (bif x.x != 2 then x.x != x.y else false)
theorem m_le (x : _) : Le (m' x) (m x) := by
 unfold m' m
 repeat' first | with_reducible exact Le.refl _ | with_reducible apply Le.bind | with_reducible apply Le.cond | with_reducible apply Le.sum | intro _
end M38
namespace M39
def m' (x : gX) : Option fY := some (IntKind.u8.wrap (x.x + x.y) == 1)
theorem m_le (x : _) : Le (m' x) (m x) := by
 unfold m' m
 repeat' first | with_reducible exact Le.refl _ | with_reducible apply Le.bind | with_reducible apply Le.cond | with_reducible apply Le.sum | intro _
end M39
namespace M37c
def sb0' (x : bp0X) : Option bq0X := bif inR x.i x.l.length then bindO (M38.m' { x := x.v,y := x.l[x.i.toNat]?.getD 0 }) fun y => bif y then some { n0 := IntKind.i64.wrap (x.n0 + 1),l := x.l,bi := x.bi,bs := x.bs } else some { n0 := x.n0,l := x.l,bi := x.bi,bs := x.bs }
else none
theorem sb0_le (x : _) : Le (sb0' x) (sb0 x) := by
 unfold sb0' sb0
 repeat' first | with_reducible exact Le.refl _ | with_reducible exact M38.m_le _ | with_reducible apply Le.bind | with_reducible apply Le.cond | with_reducible apply Le.sum | intro _
def i0_s1' (x : i0_p1X) : Option (i0_p1X ⊕ i0_q1X) := bif decide (x.i2 < x.n2) then bif inR x.i2 x.bs.length then bindO (sb0' { i := IntKind.i64.wrap ((↑x.bi.length : Int) + x.i2),v := x.bs[x.i2.toNat]?.getD 0,n0 := x.n0,l := x.l,bi := x.bi,bs := x.bs }) fun y => some (Sum.inl { n2 := x.n2,i2 := IntKind.i64.wrap (x.i2 + 1),n0 := y.n0,l := y.l,bi := y.bi,bs := y.bs }) else none
else some (Sum.inr { n0 := x.n0,l := x.l,bi := x.bi,bs := x.bs })
theorem i0_s1_le (x : _) : Le (i0_s1' x) (i0_s1 x) := by
 unfold i0_s1' i0_s1
 repeat' first | with_reducible exact Le.refl _ | with_reducible exact sb0_le _ | with_reducible apply Le.bind | with_reducible apply Le.cond | with_reducible apply Le.sum | intro _
def i0_s0' (x : i0_p0X) : Option (i0_p0X ⊕ i0_q0X) := bif decide (x.i < x.n) then bif inR x.i x.bi.length then bindO (sb0' { i := x.i,v := x.bi[x.i.toNat]?.getD 0,n0 := x.n0,l := x.l,bi := x.bi,bs := x.bs }) fun y => some (Sum.inl { n := x.n,i := IntKind.i64.wrap (x.i + 1),n0 := y.n0,l := y.l,bi := y.bi,bs := y.bs }) else none
else some (Sum.inr { n0 := x.n0,l := x.l,bi := x.bi,bs := x.bs })
theorem i0_s0_le (x : _) : Le (i0_s0' x) (i0_s0 x) := by
 unfold i0_s0' i0_s0
 repeat' first | with_reducible exact Le.refl _ | with_reducible exact sb0_le _ | with_reducible apply Le.bind | with_reducible apply Le.cond | with_reducible apply Le.sum | intro _
def s0' (x : p0X) : Option q0X := bindO (iterN i0_s0' 200 { n := (↑x.bi.length : Int),i := 0,n0 := x.n0,l := x.l,bi := x.bi,bs := x.bs }) fun y => bindO (iterN i0_s1' 200 { n2 := (↑y.bs.length : Int),i2 := 0,n0 := y.n0,l := y.l,bi := y.bi,bs := y.bs }) fun y => some { n0 := y.n0,l := y.l,bi := y.bi,bs := y.bs }
theorem s0_le (x : _) : Le (s0' x) (s0 x) := by
 unfold s0' s0
 repeat' first | with_reducible exact Le.refl _ | with_reducible exact Le.iter i0_s1_le _ | with_reducible exact Le.iter i0_s0_le _ | with_reducible apply Le.bind | with_reducible apply Le.cond | with_reducible apply Le.sum | intro _
def m' (x : gX) : Option fY := bindO (M33.m' { ai := x.ai,as_ := x.as_,bi := x.bi,bs := x.bs }) fun y => bif y != 0 then some (-1) else bindO (M35.m' { i := x.bi,s := x.bs }) fun y => bindO (M36.m { i := x.ai,s := x.as_ }) fun y_1 => bindO (s0' { n0 := 0,l := y,bi := y_1.fst,bs := y_1.snd }) fun y => some y.n0
theorem m_le (x : _) : Le (m' x) (m x) := by
 unfold m' m
 repeat' first | with_reducible exact Le.refl _ | with_reducible exact M33.m_le _ | with_reducible exact M35.m_le _ | with_reducible exact s0_le _ | with_reducible apply Le.bind | with_reducible apply Le.cond | with_reducible apply Le.sum | intro _
end M37c
namespace M37d
def sb0' (x : bp0X) : Option bq0X := bif inR x.i x.l.length then bindO (M39.m' { x := x.v,y := x.l[x.i.toNat]?.getD 0 }) fun y => bif y then some { n0 := IntKind.i64.wrap (x.n0 + 1),l := x.l,bi := x.bi,bs := x.bs } else some { n0 := x.n0,l := x.l,bi := x.bi,bs := x.bs }
else none
theorem sb0_le (x : _) : Le (sb0' x) (sb0 x) := by
 unfold sb0' sb0
 repeat' first | with_reducible exact Le.refl _ | with_reducible exact M39.m_le _ | with_reducible apply Le.bind | with_reducible apply Le.cond | with_reducible apply Le.sum | intro _
def i0_s1' (x : i0_p1X) : Option (i0_p1X ⊕ i0_q1X) := bif decide (x.i2 < x.n2) then bif inR x.i2 x.bs.length then bindO (sb0' { i := IntKind.i64.wrap ((↑x.bi.length : Int) + x.i2),v := x.bs[x.i2.toNat]?.getD 0,n0 := x.n0,l := x.l,bi := x.bi,bs := x.bs }) fun y => some (Sum.inl { n2 := x.n2,i2 := IntKind.i64.wrap (x.i2 + 1),n0 := y.n0,l := y.l,bi := y.bi,bs := y.bs }) else none
else some (Sum.inr { n0 := x.n0,l := x.l,bi := x.bi,bs := x.bs })
theorem i0_s1_le (x : _) : Le (i0_s1' x) (i0_s1 x) := by
 unfold i0_s1' i0_s1
 repeat' first | with_reducible exact Le.refl _ | with_reducible exact sb0_le _ | with_reducible apply Le.bind | with_reducible apply Le.cond | with_reducible apply Le.sum | intro _
def i0_s0' (x : i0_p0X) : Option (i0_p0X ⊕ i0_q0X) := bif decide (x.i < x.n) then bif inR x.i x.bi.length then bindO (sb0' { i := x.i,v := x.bi[x.i.toNat]?.getD 0,n0 := x.n0,l := x.l,bi := x.bi,bs := x.bs }) fun y => some (Sum.inl { n := x.n,i := IntKind.i64.wrap (x.i + 1),n0 := y.n0,l := y.l,bi := y.bi,bs := y.bs }) else none
else some (Sum.inr { n0 := x.n0,l := x.l,bi := x.bi,bs := x.bs })
theorem i0_s0_le (x : _) : Le (i0_s0' x) (i0_s0 x) := by
 unfold i0_s0' i0_s0
 repeat' first | with_reducible exact Le.refl _ | with_reducible exact sb0_le _ | with_reducible apply Le.bind | with_reducible apply Le.cond | with_reducible apply Le.sum | intro _
def s0' (x : p0X) : Option q0X := bindO (iterN i0_s0' 200 { n := (↑x.bi.length : Int),i := 0,n0 := x.n0,l := x.l,bi := x.bi,bs := x.bs }) fun y => bindO (iterN i0_s1' 200 { n2 := (↑y.bs.length : Int),i2 := 0,n0 := y.n0,l := y.l,bi := y.bi,bs := y.bs }) fun y => some { n0 := y.n0,l := y.l,bi := y.bi,bs := y.bs }
theorem s0_le (x : _) : Le (s0' x) (s0 x) := by
 unfold s0' s0
 repeat' first | with_reducible exact Le.refl _ | with_reducible exact Le.iter i0_s1_le _ | with_reducible exact Le.iter i0_s0_le _ | with_reducible apply Le.bind | with_reducible apply Le.cond | with_reducible apply Le.sum | intro _
def m' (x : gX) : Option fY := bindO (M33.m' { ai := x.ai,as_ := x.as_,bi := x.bi,bs := x.bs }) fun y => bif y != 0 then some (-1) else bindO (M35.m' { i := x.bi,s := x.bs }) fun y => bindO (M36.m { i := x.ai,s := x.as_ }) fun y_1 => bindO (s0' { n0 := 0,l := y,bi := y_1.fst,bs := y_1.snd }) fun y => some y.n0
theorem m_le (x : _) : Le (m' x) (m x) := by
 unfold m' m
 repeat' first | with_reducible exact Le.refl _ | with_reducible exact M33.m_le _ | with_reducible exact M35.m_le _ | with_reducible exact s0_le _ | with_reducible apply Le.bind | with_reducible apply Le.cond | with_reducible apply Le.sum | intro _
end M37d
namespace M18
def m' (x : gX) : Option fY := bindO (M37d.m' { ai := x.ai,as_ := x.as_,bi := x.bi,bs := x.bs }) fun y => some y
theorem m_le (x : _) : Le (m' x) (m x) := by
 unfold m' m
 repeat' first | with_reducible exact Le.refl _ | with_reducible exact M37d.m_le _ | with_reducible apply Le.bind | with_reducible apply Le.cond | with_reducible apply Le.sum | intro _
end M18
namespace M16
def m' (x : gX) : Option fY := bindO (M18.m' { ai := x.ai,as_ := x.as_,bi := x.bi,bs := x.bs }) fun y => some (y == 0)
theorem m_le (x : _) : Le (m' x) (m x) := by
 unfold m' m
 repeat' first | with_reducible exact Le.refl _ | with_reducible exact M18.m_le _ | with_reducible apply Le.bind | with_reducible apply Le.cond | with_reducible apply Le.sum | intro _
end M16
namespace M17
def m' (x : gX) : Option fY := bindO (M37c.m' { ai := x.ai,as_ := x.as_,bi := x.bi,bs := x.bs }) fun y => some (y == 0)
theorem m_le (x : _) : Le (m' x) (m x) := by
 unfold m' m
 repeat' first | with_reducible exact Le.refl _ | with_reducible exact M37c.m_le _ | with_reducible apply Le.bind | with_reducible apply Le.cond | with_reducible apply Le.sum | intro _
end M17
namespace M13
def sb0a' (x : bp0aX) : Option bq0aX := bif decide (x.v < x.xs.length) then bif inR x.i x.l.length then bif decide (x.v < x.xs.length) then some { xs := x.xs.set x.v (if x.l[x.i.toNat]?.getD 0 < x.xs[x.v]?.getD 0 then x.l[x.i.toNat]?.getD 0 else x.xs[x.v]?.getD 0),ys := x.ys,oi_lo := x.oi_lo,oi_len := x.oi_len,oi_cap := x.oi_cap,os_lo := x.os_lo,os_len := x.os_len,os_cap := x.os_cap,l := x.l,bi_lo := x.bi_lo,bi_len := x.bi_len,bi_cap := x.bi_cap,bs_lo := x.bs_lo,bs_len := x.bs_len,bs_cap := x.bs_cap } else none else none
else none
theorem sb0a_le (x : _) : Le (sb0a' x) (sb0a x) := by
 unfold sb0a' sb0a
 repeat' first | with_reducible exact Le.refl _ | with_reducible apply Le.bind | with_reducible apply Le.cond | with_reducible apply Le.sum | intro _
def sb0b' (x : bp0bX) : Option bq0bX := bif decide (x.v < x.ys.length) then bif inR x.i x.l.length then bif decide (x.v < x.ys.length) then some { xs := x.xs,ys := x.ys.set x.v (if x.l[x.i.toNat]?.getD 0 < x.ys[x.v]?.getD 0 then x.l[x.i.toNat]?.getD 0 else x.ys[x.v]?.getD 0),oi_lo := x.oi_lo,oi_len := x.oi_len,oi_cap := x.oi_cap,os_lo := x.os_lo,os_len := x.os_len,os_cap := x.os_cap,l := x.l,bi_lo := x.bi_lo,bi_len := x.bi_len,bi_cap := x.bi_cap,bs_lo := x.bs_lo,bs_len := x.bs_len,bs_cap := x.bs_cap } else none else none
else none
theorem sb0b_le (x : _) : Le (sb0b' x) (sb0b x) := by
 unfold sb0b' sb0b
 repeat' first | with_reducible exact Le.refl _ | with_reducible apply Le.bind | with_reducible apply Le.cond | with_reducible apply Le.sum | intro _
def i0_s1' (x : i0_p1X) : Option (i0_p1X ⊕ i0_q1X) := bif decide (x.i2 < x.n2) then bif inR x.i2 x.bs_len then bindO (sb0b' { i := IntKind.i64.wrap ((↑x.bi_len : Int) + x.i2),v := x.bs_lo + x.i2.toNat,xs := x.xs,ys := x.ys,oi_lo := x.oi_lo,oi_len := x.oi_len,oi_cap := x.oi_cap,os_lo := x.os_lo,os_len := x.os_len,os_cap := x.os_cap,l := x.l,bi_lo := x.bi_lo,bi_len := x.bi_len,bi_cap := x.bi_cap,bs_lo := x.bs_lo,bs_len := x.bs_len,bs_cap := x.bs_cap }) fun y => some (Sum.inl { n2 := x.n2,i2 := IntKind.i64.wrap (x.i2 + 1),xs := y.xs,ys := y.ys,oi_lo := y.oi_lo,oi_len := y.oi_len,oi_cap := y.oi_cap,os_lo := y.os_lo,os_len := y.os_len,os_cap := y.os_cap,l := y.l,bi_lo := y.bi_lo,bi_len := y.bi_len,bi_cap := y.bi_cap,bs_lo := y.bs_lo,bs_len := y.bs_len,bs_cap := y.bs_cap }) else none
else
 some
   (Sum.inr
     { xs := x.xs,ys := x.ys,oi_lo := x.oi_lo,oi_len := x.oi_len,oi_cap := x.oi_cap,os_lo := x.os_lo,os_len := x.os_len,os_cap := x.os_cap,l := x.l,bi_lo := x.bi_lo,
       bi_len := x.bi_len,bi_cap := x.bi_cap,bs_lo := x.bs_lo,bs_len := x.bs_len,bs_cap := x.bs_cap })
theorem i0_s1_le (x : _) : Le (i0_s1' x) (i0_s1 x) := by
 unfold i0_s1' i0_s1
 repeat' first | with_reducible exact Le.refl _ | with_reducible exact sb0b_le _ | with_reducible apply Le.bind | with_reducible apply Le.cond | with_reducible apply Le.sum | intro _
def i0_s0' (x : i0_p0X) : Option (i0_p0X ⊕ i0_q0X) := bif decide (x.i < x.n) then bif inR x.i x.bi_len then bindO (sb0a' { i := x.i,v := x.bi_lo + x.i.toNat,xs := x.xs,ys := x.ys,oi_lo := x.oi_lo,oi_len := x.oi_len,oi_cap := x.oi_cap,os_lo := x.os_lo,os_len := x.os_len,os_cap := x.os_cap,l := x.l,bi_lo := x.bi_lo,bi_len := x.bi_len,bi_cap := x.bi_cap,bs_lo := x.bs_lo,bs_len := x.bs_len,bs_cap := x.bs_cap }) fun y => some (Sum.inl { n := x.n,i := IntKind.i64.wrap (x.i + 1),xs := y.xs,ys := y.ys,oi_lo := y.oi_lo,oi_len := y.oi_len,oi_cap := y.oi_cap,os_lo := y.os_lo,os_len := y.os_len,os_cap := y.os_cap,l := y.l,bi_lo := y.bi_lo,bi_len := y.bi_len,bi_cap := y.bi_cap,bs_lo := y.bs_lo,bs_len := y.bs_len,bs_cap := y.bs_cap }) else none
else
 some
   (Sum.inr
     { xs := x.xs,ys := x.ys,oi_lo := x.oi_lo,oi_len := x.oi_len,oi_cap := x.oi_cap,os_lo := x.os_lo,os_len := x.os_len,os_cap := x.os_cap,l := x.l,bi_lo := x.bi_lo,
       bi_len := x.bi_len,bi_cap := x.bi_cap,bs_lo := x.bs_lo,bs_len := x.bs_len,bs_cap := x.bs_cap })
theorem i0_s0_le (x : _) : Le (i0_s0' x) (i0_s0 x) := by
 unfold i0_s0' i0_s0
 repeat' first | with_reducible exact Le.refl _ | with_reducible exact sb0a_le _ | with_reducible apply Le.bind | with_reducible apply Le.cond | with_reducible apply Le.sum | intro _
def s0' (x : p0X) : Option q0X := bindO (iterN i0_s0' 200 { n := (↑x.bi_len : Int),i := 0,xs := x.xs,ys := x.ys,oi_lo := x.oi_lo,oi_len := x.oi_len,oi_cap := x.oi_cap,os_lo := x.os_lo,os_len := x.os_len,os_cap := x.os_cap,l := x.l,bi_lo := x.bi_lo,bi_len := x.bi_len,bi_cap := x.bi_cap,bs_lo := x.bs_lo,bs_len := x.bs_len,bs_cap := x.bs_cap }) fun y => bindO (iterN i0_s1' 200 { n2 := (↑y.bs_len : Int),i2 := 0,xs := y.xs,ys := y.ys,oi_lo := y.oi_lo,oi_len := y.oi_len,oi_cap := y.oi_cap,os_lo := y.os_lo,os_len := y.os_len,os_cap := y.os_cap,l := y.l,bi_lo := y.bi_lo,bi_len := y.bi_len,bi_cap := y.bi_cap,bs_lo := y.bs_lo,bs_len := y.bs_len,bs_cap := y.bs_cap }) fun y => some { xs := y.xs,ys := y.ys,oi_lo := y.oi_lo,oi_len := y.oi_len,oi_cap := y.oi_cap,os_lo := y.os_lo,os_len := y.os_len,os_cap := y.os_cap,l := y.l,bi_lo := y.bi_lo,bi_len := y.bi_len,bi_cap := y.bi_cap,bs_lo := y.bs_lo,bs_len := y.bs_len,bs_cap := y.bs_cap }
theorem s0_le (x : _) : Le (s0' x) (s0 x) := by
 unfold s0' s0
 repeat' first | with_reducible exact Le.refl _ | with_reducible exact Le.iter i0_s1_le _ | with_reducible exact Le.iter i0_s0_le _ | with_reducible apply Le.bind | with_reducible apply Le.cond | with_reducible apply Le.sum | intro _
def m' (x : gX) : Option fY := bindO (M33.m' { ai := x.ai,as_ := x.as_,bi := x.bi,bs := x.bs }) fun y => bif y != 0 then some ([],[],y) else bindO (M16.m' { ai := x.ai,as_ := x.as_,bi := x.bi,bs := x.bs }) fun y => bif !y then some ([],[],9) else bindO (M34.m { i := x.ai,s := x.as_ }) fun y => bindO (M35.m' { i := x.bi,s := x.bs }) fun y_1 => bindO (M36o.m { i_lo := y.fst,i_len := y.snd.fst,i_cap := y.snd.snd.fst,s_lo := y.snd.snd.snd.fst,s_len := y.snd.snd.snd.snd.fst,s_cap := y.snd.snd.snd.snd.snd.fst,xs := y.snd.snd.snd.snd.snd.snd.fst,ys := y.snd.snd.snd.snd.snd.snd.snd }) fun y_2 => bindO (s0' { xs := y_2.fst,ys := y_2.snd.fst,oi_lo := y.fst,oi_len := y.snd.fst,oi_cap := y.snd.snd.fst,os_lo := y.snd.snd.snd.fst,os_len := y.snd.snd.snd.snd.fst,os_cap := y.snd.snd.snd.snd.snd.fst,l := y_1,bi_lo := y_2.snd.snd.fst,bi_len := y_2.snd.snd.snd.fst,bi_cap := y_2.snd.snd.snd.snd.fst,bs_lo := y_2.snd.snd.snd.snd.snd.fst,bs_len := y_2.snd.snd.snd.snd.snd.snd.fst,bs_cap := y_2.snd.snd.snd.snd.snd.snd.snd }) fun y => bif leB (y.oi_lo + y.oi_len) y.xs.length && (leB (y.os_lo + y.os_len) y.ys.length && true) && true && true && true then some (List.take y.oi_len (List.drop y.oi_lo y.xs),List.take y.os_len (List.drop y.os_lo y.ys),0) else none
theorem m_le (x : _) : Le (m' x) (m x) := by
 unfold m' m
 repeat' first | with_reducible exact Le.refl _ | with_reducible exact M33.m_le _ | with_reducible exact M35.m_le _ | with_reducible exact M16.m_le _ | with_reducible exact s0_le _ | with_reducible apply Le.bind | with_reducible apply Le.cond | with_reducible apply Le.sum | intro _
end M13
namespace M40
def s0' (x : p0X) : Option (p0X ⊕ (q0X ⊕ z0X)) := bif decide (x.i < x.n) then bif inR x.i x.s.length then bindO (M41.m { v := x.s[x.i.toNat]?.getD 0 }) fun y => bif y then some (Sum.inr (Sum.inr { r := x.i })) else some (Sum.inl { s := x.s,n := x.n,i := IntKind.i64.wrap (x.i + 1) }) else none
else some (Sum.inr (Sum.inl PUnit.unit))
theorem s0_le (x : _) : Le (s0' x) (s0 x) := by
 unfold s0' s0
 repeat' first | with_reducible exact Le.refl _ | with_reducible apply Le.bind | with_reducible apply Le.cond | with_reducible apply Le.sum | intro _
def m' (x : gX) : Option fY := bindO (iterN s0' 200 { s := x.s,n := (↑x.s.length : Int),i := 0 }) fun s => sumC s (fun y => some (-1)) fun z => some z.r
theorem m_le (x : _) : Le (m' x) (m x) := by
 unfold m' m
 repeat' first | with_reducible exact Le.refl _ | with_reducible exact Le.iter s0_le _ | with_reducible apply Le.bind | with_reducible apply Le.cond | with_reducible apply Le.sum | intro _
end M40
namespace M19
def sb0a' (x : bp0aX) : Option bq0aX := bif decide (x.v < x.xs.length) then bif x.xs[x.v]?.getD 0 == 2 then bif decide (x.v < x.xs.length) then some { w := x.w,last := x.last,xs := x.xs.set x.v x.last,ys := x.ys,oi_lo := x.oi_lo,oi_len := x.oi_len,oi_cap := x.oi_cap,os_lo := x.os_lo,os_len := x.os_len,os_cap := x.os_cap,bi_lo := x.bi_lo,bi_len := x.bi_len,bi_cap := x.bi_cap,bs_lo := x.bs_lo,bs_len := x.bs_len,bs_cap := x.bs_cap } else none else bif x.w == 2 then bif decide (x.v < x.xs.length) then some { w := x.w,last := x.xs[x.v]?.getD 0,xs := x.xs,ys := x.ys,oi_lo := x.oi_lo,oi_len := x.oi_len,oi_cap := x.oi_cap,os_lo := x.os_lo,os_len := x.os_len,os_cap := x.os_cap,bi_lo := x.bi_lo,bi_len := x.bi_len,bi_cap := x.bi_cap,bs_lo := x.bs_lo,bs_len := x.bs_len,bs_cap := x.bs_cap } else none else some { w := x.w,last := x.last,xs := x.xs,ys := x.ys,oi_lo := x.oi_lo,oi_len := x.oi_len,oi_cap := x.oi_cap,os_lo := x.os_lo,os_len := x.os_len,os_cap := x.os_cap,bi_lo := x.bi_lo,bi_len := x.bi_len,bi_cap := x.bi_cap,bs_lo := x.bs_lo,bs_len := x.bs_len,bs_cap := x.bs_cap }
else none
theorem sb0a_le (x : _) : Le (sb0a' x) (sb0a x) := by
 unfold sb0a' sb0a
 repeat' first | with_reducible exact Le.refl _ | with_reducible apply Le.bind | with_reducible apply Le.cond | with_reducible apply Le.sum | intro _
def sb0b' (x : bp0bX) : Option bq0bX := bif decide (x.v < x.ys.length) then bif x.ys[x.v]?.getD 0 == 2 then bif decide (x.v < x.ys.length) then some { w := x.w,last := x.last,xs := x.xs,ys := x.ys.set x.v x.last,oi_lo := x.oi_lo,oi_len := x.oi_len,oi_cap := x.oi_cap,os_lo := x.os_lo,os_len := x.os_len,os_cap := x.os_cap,bi_lo := x.bi_lo,bi_len := x.bi_len,bi_cap := x.bi_cap,bs_lo := x.bs_lo,bs_len := x.bs_len,bs_cap := x.bs_cap } else none else bif x.w == 2 then bif decide (x.v < x.ys.length) then some { w := x.w,last := x.ys[x.v]?.getD 0,xs := x.xs,ys := x.ys,oi_lo := x.oi_lo,oi_len := x.oi_len,oi_cap := x.oi_cap,os_lo := x.os_lo,os_len := x.os_len,os_cap := x.os_cap,bi_lo := x.bi_lo,bi_len := x.bi_len,bi_cap := x.bi_cap,bs_lo := x.bs_lo,bs_len := x.bs_len,bs_cap := x.bs_cap } else none else some { w := x.w,last := x.last,xs := x.xs,ys := x.ys,oi_lo := x.oi_lo,oi_len := x.oi_len,oi_cap := x.oi_cap,os_lo := x.os_lo,os_len := x.os_len,os_cap := x.os_cap,bi_lo := x.bi_lo,bi_len := x.bi_len,bi_cap := x.bi_cap,bs_lo := x.bs_lo,bs_len := x.bs_len,bs_cap := x.bs_cap }
else none
theorem sb0b_le (x : _) : Le (sb0b' x) (sb0b x) := by
 unfold sb0b' sb0b
 repeat' first | with_reducible exact Le.refl _ | with_reducible apply Le.bind | with_reducible apply Le.cond | with_reducible apply Le.sum | intro _
def i0_s1' (x : i0_p1X) : Option (i0_p1X ⊕ i0_q1X) := bif decide (x.i2 < x.n2) then bif inR x.i2 x.bs_len then bindO (sb0b' { v := x.bs_lo + x.i2.toNat,w := x.w,last := x.last,xs := x.xs,ys := x.ys,oi_lo := x.oi_lo,oi_len := x.oi_len,oi_cap := x.oi_cap,os_lo := x.os_lo,os_len := x.os_len,os_cap := x.os_cap,bi_lo := x.bi_lo,bi_len := x.bi_len,bi_cap := x.bi_cap,bs_lo := x.bs_lo,bs_len := x.bs_len,bs_cap := x.bs_cap }) fun y => some (Sum.inl { n2 := x.n2,i2 := IntKind.i64.wrap (x.i2 + 1),w := y.w,last := y.last,xs := y.xs,ys := y.ys,oi_lo := y.oi_lo,oi_len := y.oi_len,oi_cap := y.oi_cap,os_lo := y.os_lo,os_len := y.os_len,os_cap := y.os_cap,bi_lo := y.bi_lo,bi_len := y.bi_len,bi_cap := y.bi_cap,bs_lo := y.bs_lo,bs_len := y.bs_len,bs_cap := y.bs_cap }) else none
else
 some
   (Sum.inr
     { w := x.w,last := x.last,xs := x.xs,ys := x.ys,oi_lo := x.oi_lo,oi_len := x.oi_len,oi_cap := x.oi_cap,os_lo := x.os_lo,os_len := x.os_len,os_cap := x.os_cap,
       bi_lo := x.bi_lo,bi_len := x.bi_len,bi_cap := x.bi_cap,bs_lo := x.bs_lo,bs_len := x.bs_len,bs_cap := x.bs_cap })
theorem i0_s1_le (x : _) : Le (i0_s1' x) (i0_s1 x) := by
 unfold i0_s1' i0_s1
 repeat' first | with_reducible exact Le.refl _ | with_reducible exact sb0b_le _ | with_reducible apply Le.bind | with_reducible apply Le.cond | with_reducible apply Le.sum | intro _
def i0_s0' (x : i0_p0X) : Option (i0_p0X ⊕ i0_q0X) := bif decide (x.i < x.n) then bif inR x.i x.bi_len then bindO (sb0a' { v := x.bi_lo + x.i.toNat,w := x.w,last := x.last,xs := x.xs,ys := x.ys,oi_lo := x.oi_lo,oi_len := x.oi_len,oi_cap := x.oi_cap,os_lo := x.os_lo,os_len := x.os_len,os_cap := x.os_cap,bi_lo := x.bi_lo,bi_len := x.bi_len,bi_cap := x.bi_cap,bs_lo := x.bs_lo,bs_len := x.bs_len,bs_cap := x.bs_cap }) fun y => some (Sum.inl { n := x.n,i := IntKind.i64.wrap (x.i + 1),w := y.w,last := y.last,xs := y.xs,ys := y.ys,oi_lo := y.oi_lo,oi_len := y.oi_len,oi_cap := y.oi_cap,os_lo := y.os_lo,os_len := y.os_len,os_cap := y.os_cap,bi_lo := y.bi_lo,bi_len := y.bi_len,bi_cap := y.bi_cap,bs_lo := y.bs_lo,bs_len := y.bs_len,bs_cap := y.bs_cap }) else none
else
 some
   (Sum.inr
     { w := x.w,last := x.last,xs := x.xs,ys := x.ys,oi_lo := x.oi_lo,oi_len := x.oi_len,oi_cap := x.oi_cap,os_lo := x.os_lo,os_len := x.os_len,os_cap := x.os_cap,
       bi_lo := x.bi_lo,bi_len := x.bi_len,bi_cap := x.bi_cap,bs_lo := x.bs_lo,bs_len := x.bs_len,bs_cap := x.bs_cap })
theorem i0_s0_le (x : _) : Le (i0_s0' x) (i0_s0 x) := by
 unfold i0_s0' i0_s0
 repeat' first | with_reducible exact Le.refl _ | with_reducible exact sb0a_le _ | with_reducible apply Le.bind | with_reducible apply Le.cond | with_reducible apply Le.sum | intro _
def s0' (x : p0X) : Option q0X := bindO (iterN i0_s0' 200 { n := (↑x.bi_len : Int),i := 0,w := x.w,last := x.last,xs := x.xs,ys := x.ys,oi_lo := x.oi_lo,oi_len := x.oi_len,oi_cap := x.oi_cap,os_lo := x.os_lo,os_len := x.os_len,os_cap := x.os_cap,bi_lo := x.bi_lo,bi_len := x.bi_len,bi_cap := x.bi_cap,bs_lo := x.bs_lo,bs_len := x.bs_len,bs_cap := x.bs_cap }) fun y => bindO (iterN i0_s1' 200 { n2 := (↑y.bs_len : Int),i2 := 0,w := y.w,last := y.last,xs := y.xs,ys := y.ys,oi_lo := y.oi_lo,oi_len := y.oi_len,oi_cap := y.oi_cap,os_lo := y.os_lo,os_len := y.os_len,os_cap := y.os_cap,bi_lo := y.bi_lo,bi_len := y.bi_len,bi_cap := y.bi_cap,bs_lo := y.bs_lo,bs_len := y.bs_len,bs_cap := y.bs_cap }) fun y => some { w := y.w,last := y.last,xs := y.xs,ys := y.ys,oi_lo := y.oi_lo,oi_len := y.oi_len,oi_cap := y.oi_cap,os_lo := y.os_lo,os_len := y.os_len,os_cap := y.os_cap,bi_lo := y.bi_lo,bi_len := y.bi_len,bi_cap := y.bi_cap,bs_lo := y.bs_lo,bs_len := y.bs_len,bs_cap := y.bs_cap }
theorem s0_le (x : _) : Le (s0' x) (s0 x) := by
 unfold s0' s0
 repeat' first | with_reducible exact Le.refl _ | with_reducible exact Le.iter i0_s1_le _ | with_reducible exact Le.iter i0_s0_le _ | with_reducible apply Le.bind | with_reducible apply Le.cond | with_reducible apply Le.sum | intro _
def m' (x : gX) : Option fY := bindO (M29.m' { i := x.i,s := x.s }) fun y => bif y != 0 then some ([],[],y) else bif x.w == 0 then bindO (M34.m { i := x.i,s := x.s }) fun y => bindO (M36o.m { i_lo := y.fst,i_len := y.snd.fst,i_cap := y.snd.snd.fst,s_lo := y.snd.snd.snd.fst,s_len := y.snd.snd.snd.snd.fst,s_cap := y.snd.snd.snd.snd.snd.fst,xs := y.snd.snd.snd.snd.snd.snd.fst,ys := y.snd.snd.snd.snd.snd.snd.snd }) fun y_1 => bindO (s0' { w := x.w,last := 0,xs := y_1.fst,ys := y_1.snd.fst,oi_lo := y.fst,oi_len := y.snd.fst,oi_cap := y.snd.snd.fst,os_lo := y.snd.snd.snd.fst,os_len := y.snd.snd.snd.snd.fst,os_cap := y.snd.snd.snd.snd.snd.fst,bi_lo := y_1.snd.snd.fst,bi_len := y_1.snd.snd.snd.fst,bi_cap := y_1.snd.snd.snd.snd.fst,bs_lo := y_1.snd.snd.snd.snd.snd.fst,bs_len := y_1.snd.snd.snd.snd.snd.snd.fst,bs_cap := y_1.snd.snd.snd.snd.snd.snd.snd }) fun y => bif leB (y.oi_lo + y.oi_len) y.xs.length && (leB (y.os_lo + y.os_len) y.ys.length && true) && true && true && true then some (List.take y.oi_len (List.drop y.oi_lo y.xs),List.take y.os_len (List.drop y.os_lo y.ys),0) else none else bif x.w == 1 then bindO (M34.m { i := x.i,s := x.s }) fun y => bindO (M36o.m { i_lo := y.fst,i_len := y.snd.fst,i_cap := y.snd.snd.fst,s_lo := y.snd.snd.snd.fst,s_len := y.snd.snd.snd.snd.fst,s_cap := y.snd.snd.snd.snd.snd.fst,xs := y.snd.snd.snd.snd.snd.snd.fst,ys := y.snd.snd.snd.snd.snd.snd.snd }) fun y_1 => bindO (s0' { w := x.w,last := 1,xs := y_1.fst,ys := y_1.snd.fst,oi_lo := y.fst,oi_len := y.snd.fst,oi_cap := y.snd.snd.fst,os_lo := y.snd.snd.snd.fst,os_len := y.snd.snd.snd.snd.fst,os_cap := y.snd.snd.snd.snd.snd.fst,bi_lo := y_1.snd.snd.fst,bi_len := y_1.snd.snd.snd.fst,bi_cap := y_1.snd.snd.snd.snd.fst,bs_lo := y_1.snd.snd.snd.snd.snd.fst,bs_len := y_1.snd.snd.snd.snd.snd.snd.fst,bs_cap := y_1.snd.snd.snd.snd.snd.snd.snd }) fun y => bif leB (y.oi_lo + y.oi_len) y.xs.length && (leB (y.os_lo + y.os_len) y.ys.length && true) && true && true && true then some (List.take y.oi_len (List.drop y.oi_lo y.xs),List.take y.os_len (List.drop y.os_lo y.ys),0) else none else bif x.w == 2 then bindO (M35.m' { i := x.i,s := x.s }) fun y => bindO (M40.m' { s := y }) fun y => bif decide (y ≥ 0) then bindO (M35.m' { i := x.i,s := x.s }) fun y_1 => bif inR y (List.length y_1) then bindO (M34.m { i := x.i,s := x.s }) fun y_2 => bindO (M36o.m { i_lo := y_2.fst,i_len := y_2.snd.fst,i_cap := y_2.snd.snd.fst,s_lo := y_2.snd.snd.snd.fst,s_len := y_2.snd.snd.snd.snd.fst,s_cap := y_2.snd.snd.snd.snd.snd.fst,xs := y_2.snd.snd.snd.snd.snd.snd.fst,ys := y_2.snd.snd.snd.snd.snd.snd.snd }) fun y_3 => bindO (s0' { w := x.w,last := y_1[Int.toNat y]?.getD 0,xs := y_3.fst,ys := y_3.snd.fst,oi_lo := y_2.fst,oi_len := y_2.snd.fst,oi_cap := y_2.snd.snd.fst,os_lo := y_2.snd.snd.snd.fst,os_len := y_2.snd.snd.snd.snd.fst,os_cap := y_2.snd.snd.snd.snd.snd.fst,bi_lo := y_3.snd.snd.fst,bi_len := y_3.snd.snd.snd.fst,bi_cap := y_3.snd.snd.snd.snd.fst,bs_lo := y_3.snd.snd.snd.snd.snd.fst,bs_len := y_3.snd.snd.snd.snd.snd.snd.fst,bs_cap := y_3.snd.snd.snd.snd.snd.snd.snd }) fun y => bif leB (y.oi_lo + y.oi_len) y.xs.length && (leB (y.os_lo + y.os_len) y.ys.length && true) && true && true && true then some (List.take y.oi_len (List.drop y.oi_lo y.xs),List.take y.os_len (List.drop y.os_lo y.ys),0) else none else none else bindO (M34.m { i := x.i,s := x.s }) fun y => bindO (M36o.m { i_lo := y.fst,i_len := y.snd.fst,i_cap := y.snd.snd.fst,s_lo := y.snd.snd.snd.fst,s_len := y.snd.snd.snd.snd.fst,s_cap := y.snd.snd.snd.snd.snd.fst,xs := y.snd.snd.snd.snd.snd.snd.fst,ys := y.snd.snd.snd.snd.snd.snd.snd }) fun y_1 => bindO (s0' { w := x.w,last := 0,xs := y_1.fst,ys := y_1.snd.fst,oi_lo := y.fst,oi_len := y.snd.fst,oi_cap := y.snd.snd.fst,os_lo := y.snd.snd.snd.fst,os_len := y.snd.snd.snd.snd.fst,os_cap := y.snd.snd.snd.snd.snd.fst,bi_lo := y_1.snd.snd.fst,bi_len := y_1.snd.snd.snd.fst,bi_cap := y_1.snd.snd.snd.snd.fst,bs_lo := y_1.snd.snd.snd.snd.snd.fst,bs_len := y_1.snd.snd.snd.snd.snd.snd.fst,bs_cap := y_1.snd.snd.snd.snd.snd.snd.snd }) fun y => bif leB (y.oi_lo + y.oi_len) y.xs.length && (leB (y.os_lo + y.os_len) y.ys.length && true) && true && true && true then some (List.take y.oi_len (List.drop y.oi_lo y.xs),List.take y.os_len (List.drop y.os_lo y.ys),0) else none else some ([],[],1)
theorem m_le (x : _) : Le (m' x) (m x) := by
 unfold m' m
 repeat' first | with_reducible exact Le.refl _ | with_reducible exact M29.m_le _ | with_reducible exact M35.m_le _ | with_reducible exact M40.m_le _ | with_reducible exact s0_le _ | with_reducible apply Le.bind | with_reducible apply Le.cond | with_reducible apply Le.sum | intro _
end M19
namespace M47
def m' (x : gX) : Option fY := bindO (M53.m { s := x.s,sep := x.sep }) fun y => some (y.fst,y.snd.fst,y.snd.snd)
theorem m_le (x : _) : Le (m' x) (m x) := by
 unfold m' m
 repeat' first | with_reducible exact Le.refl _ | with_reducible apply Le.bind | with_reducible apply Le.cond | with_reducible apply Le.sum | intro _
end M47
namespace M27
def sb0a' (x : bp0aX) : Option (bq0aX ⊕ bz0aX) := bif leB (x.left.length + x.right.length) 9223372036854775807 then bif inR x.i (x.left ++ x.right).length then bindO (M48.m { s := [48,49,88],c := byteAt (x.left ++ x.right) x.i.toNat }) fun y => bif decide (y < 0) then some (Sum.inr { ri := [],rs := [],e := 4,left := x.left,right := x.right,xs := x.xs,ys := x.ys,oi_lo := x.oi_lo,oi_len := x.oi_len,oi_cap := x.oi_cap,os_lo := x.os_lo,os_len := x.os_len,os_cap := x.os_cap,bi_lo := x.bi_lo,bi_len := x.bi_len,bi_cap := x.bi_cap,bs_lo := x.bs_lo,bs_len := x.bs_len,bs_cap := x.bs_cap }) else bif decide (x.v < x.xs.length) then some (Sum.inl { ri := x.ri,rs := x.rs,e := x.e,left := x.left,right := x.right,xs := x.xs.set x.v (IntKind.u8.wrap y),ys := x.ys,oi_lo := x.oi_lo,oi_len := x.oi_len,oi_cap := x.oi_cap,os_lo := x.os_lo,os_len := x.os_len,os_cap := x.os_cap,bi_lo := x.bi_lo,bi_len := x.bi_len,bi_cap := x.bi_cap,bs_lo := x.bs_lo,bs_len := x.bs_len,bs_cap := x.bs_cap }) else none else none
else none
theorem sb0a_le (x : _) : Le (sb0a' x) (sb0a x) := by
 unfold sb0a' sb0a
 repeat' first | with_reducible exact Le.refl _ | with_reducible apply Le.bind | with_reducible apply Le.cond | with_reducible apply Le.sum | intro _
def sb0b' (x : bp0bX) : Option (bq0bX ⊕ bz0bX) := bif leB (x.left.length + x.right.length) 9223372036854775807 then bif inR x.i (x.left ++ x.right).length then bindO (M48.m { s := [48,49,88],c := byteAt (x.left ++ x.right) x.i.toNat }) fun y => bif decide (y < 0) then some (Sum.inr { ri := [],rs := [],e := 4,left := x.left,right := x.right,xs := x.xs,ys := x.ys,oi_lo := x.oi_lo,oi_len := x.oi_len,oi_cap := x.oi_cap,os_lo := x.os_lo,os_len := x.os_len,os_cap := x.os_cap,bi_lo := x.bi_lo,bi_len := x.bi_len,bi_cap := x.bi_cap,bs_lo := x.bs_lo,bs_len := x.bs_len,bs_cap := x.bs_cap }) else bif decide (x.v < x.ys.length) then some (Sum.inl { ri := x.ri,rs := x.rs,e := x.e,left := x.left,right := x.right,xs := x.xs,ys := x.ys.set x.v (IntKind.u8.wrap y),oi_lo := x.oi_lo,oi_len := x.oi_len,oi_cap := x.oi_cap,os_lo := x.os_lo,os_len := x.os_len,os_cap := x.os_cap,bi_lo := x.bi_lo,bi_len := x.bi_len,bi_cap := x.bi_cap,bs_lo := x.bs_lo,bs_len := x.bs_len,bs_cap := x.bs_cap }) else none else none
else none
theorem sb0b_le (x : _) : Le (sb0b' x) (sb0b x) := by
 unfold sb0b' sb0b
 repeat' first | with_reducible exact Le.refl _ | with_reducible apply Le.bind | with_reducible apply Le.cond | with_reducible apply Le.sum | intro _
def i0_s1' (x : i0_p1X) : Option (i0_p1X ⊕ (i0_q1X ⊕ i0_z1X)) := bif decide (x.i2 < x.n2) then bif inR x.i2 x.bs_len then bindO (sb0b' { i := IntKind.i64.wrap ((↑x.bi_len : Int) + x.i2),v := x.bs_lo + x.i2.toNat,ri := x.ri,rs := x.rs,e := x.e,left := x.left,right := x.right,xs := x.xs,ys := x.ys,oi_lo := x.oi_lo,oi_len := x.oi_len,oi_cap := x.oi_cap,os_lo := x.os_lo,os_len := x.os_len,os_cap := x.os_cap,bi_lo := x.bi_lo,bi_len := x.bi_len,bi_cap := x.bi_cap,bs_lo := x.bs_lo,bs_len := x.bs_len,bs_cap := x.bs_cap }) fun s => sumC s (fun y => some (Sum.inl { n2 := x.n2,i2 := IntKind.i64.wrap (x.i2 + 1),ri := y.ri,rs := y.rs,e := y.e,left := y.left,right := y.right,xs := y.xs,ys := y.ys,oi_lo := y.oi_lo,oi_len := y.oi_len,oi_cap := y.oi_cap,os_lo := y.os_lo,os_len := y.os_len,os_cap := y.os_cap,bi_lo := y.bi_lo,bi_len := y.bi_len,bi_cap := y.bi_cap,bs_lo := y.bs_lo,bs_len := y.bs_len,bs_cap := y.bs_cap })) fun z => some (Sum.inr (Sum.inr { ri := z.ri,rs := z.rs,e := z.e,left := z.left,right := z.right,xs := z.xs,ys := z.ys,oi_lo := z.oi_lo,oi_len := z.oi_len,oi_cap := z.oi_cap,os_lo := z.os_lo,os_len := z.os_len,os_cap := z.os_cap,bi_lo := z.bi_lo,bi_len := z.bi_len,bi_cap := z.bi_cap,bs_lo := z.bs_lo,bs_len := z.bs_len,bs_cap := z.bs_cap })) else none
else
 some
   (Sum.inr
     (Sum.inl
       { ri := x.ri,rs := x.rs,e := x.e,left := x.left,right := x.right,xs := x.xs,ys := x.ys,oi_lo := x.oi_lo,oi_len := x.oi_len,oi_cap := x.oi_cap,os_lo := x.os_lo,
         os_len := x.os_len,os_cap := x.os_cap,bi_lo := x.bi_lo,bi_len := x.bi_len,bi_cap := x.bi_cap,bs_lo := x.bs_lo,bs_len := x.bs_len,bs_cap := x.bs_cap }))
theorem i0_s1_le (x : _) : Le (i0_s1' x) (i0_s1 x) := by
 unfold i0_s1' i0_s1
 repeat' first | with_reducible exact Le.refl _ | with_reducible exact sb0b_le _ | with_reducible apply Le.bind | with_reducible apply Le.cond | with_reducible apply Le.sum | intro _
def i0_s0' (x : i0_p0X) : Option (i0_p0X ⊕ (i0_q0X ⊕ i0_z0X)) := bif decide (x.i < x.n) then bif inR x.i x.bi_len then bindO (sb0a' { i := x.i,v := x.bi_lo + x.i.toNat,ri := x.ri,rs := x.rs,e := x.e,left := x.left,right := x.right,xs := x.xs,ys := x.ys,oi_lo := x.oi_lo,oi_len := x.oi_len,oi_cap := x.oi_cap,os_lo := x.os_lo,os_len := x.os_len,os_cap := x.os_cap,bi_lo := x.bi_lo,bi_len := x.bi_len,bi_cap := x.bi_cap,bs_lo := x.bs_lo,bs_len := x.bs_len,bs_cap := x.bs_cap }) fun s => sumC s (fun y => some (Sum.inl { n := x.n,i := IntKind.i64.wrap (x.i + 1),ri := y.ri,rs := y.rs,e := y.e,left := y.left,right := y.right,xs := y.xs,ys := y.ys,oi_lo := y.oi_lo,oi_len := y.oi_len,oi_cap := y.oi_cap,os_lo := y.os_lo,os_len := y.os_len,os_cap := y.os_cap,bi_lo := y.bi_lo,bi_len := y.bi_len,bi_cap := y.bi_cap,bs_lo := y.bs_lo,bs_len := y.bs_len,bs_cap := y.bs_cap })) fun z => some (Sum.inr (Sum.inr { ri := z.ri,rs := z.rs,e := z.e,left := z.left,right := z.right,xs := z.xs,ys := z.ys,oi_lo := z.oi_lo,oi_len := z.oi_len,oi_cap := z.oi_cap,os_lo := z.os_lo,os_len := z.os_len,os_cap := z.os_cap,bi_lo := z.bi_lo,bi_len := z.bi_len,bi_cap := z.bi_cap,bs_lo := z.bs_lo,bs_len := z.bs_len,bs_cap := z.bs_cap })) else none
else
 some
   (Sum.inr
     (Sum.inl
       { ri := x.ri,rs := x.rs,e := x.e,left := x.left,right := x.right,xs := x.xs,ys := x.ys,oi_lo := x.oi_lo,oi_len := x.oi_len,oi_cap := x.oi_cap,os_lo := x.os_lo,
         os_len := x.os_len,os_cap := x.os_cap,bi_lo := x.bi_lo,bi_len := x.bi_len,bi_cap := x.bi_cap,bs_lo := x.bs_lo,bs_len := x.bs_len,bs_cap := x.bs_cap }))
theorem i0_s0_le (x : _) : Le (i0_s0' x) (i0_s0 x) := by
 unfold i0_s0' i0_s0
 repeat' first | with_reducible exact Le.refl _ | with_reducible exact sb0a_le _ | with_reducible apply Le.bind | with_reducible apply Le.cond | with_reducible apply Le.sum | intro _
def s0' (x : p0X) : Option (q0X ⊕ z0X) := bindO (iterN i0_s0' 200 { n := (↑x.bi_len : Int),i := 0,ri := x.ri,rs := x.rs,e := x.e,left := x.left,right := x.right,xs := x.xs,ys := x.ys,oi_lo := x.oi_lo,oi_len := x.oi_len,oi_cap := x.oi_cap,os_lo := x.os_lo,os_len := x.os_len,os_cap := x.os_cap,bi_lo := x.bi_lo,bi_len := x.bi_len,bi_cap := x.bi_cap,bs_lo := x.bs_lo,bs_len := x.bs_len,bs_cap := x.bs_cap }) fun s => sumC s (fun y => bindO (iterN i0_s1' 200 { n2 := (↑y.bs_len : Int),i2 := 0,ri := y.ri,rs := y.rs,e := y.e,left := y.left,right := y.right,xs := y.xs,ys := y.ys,oi_lo := y.oi_lo,oi_len := y.oi_len,oi_cap := y.oi_cap,os_lo := y.os_lo,os_len := y.os_len,os_cap := y.os_cap,bi_lo := y.bi_lo,bi_len := y.bi_len,bi_cap := y.bi_cap,bs_lo := y.bs_lo,bs_len := y.bs_len,bs_cap := y.bs_cap }) fun s => sumC s (fun y => some (Sum.inl { ri := y.ri,rs := y.rs,e := y.e,left := y.left,right := y.right,xs := y.xs,ys := y.ys,oi_lo := y.oi_lo,oi_len := y.oi_len,oi_cap := y.oi_cap,os_lo := y.os_lo,os_len := y.os_len,os_cap := y.os_cap,bi_lo := y.bi_lo,bi_len := y.bi_len,bi_cap := y.bi_cap,bs_lo := y.bs_lo,bs_len := y.bs_len,bs_cap := y.bs_cap })) fun z => some (Sum.inr { ri := z.ri,rs := z.rs,e := z.e,left := z.left,right := z.right,xs := z.xs,ys := z.ys,oi_lo := z.oi_lo,oi_len := z.oi_len,oi_cap := z.oi_cap,os_lo := z.os_lo,os_len := z.os_len,os_cap := z.os_cap,bi_lo := z.bi_lo,bi_len := z.bi_len,bi_cap := z.bi_cap,bs_lo := z.bs_lo,bs_len := z.bs_len,bs_cap := z.bs_cap })) fun z => some (Sum.inr { ri := z.ri,rs := z.rs,e := z.e,left := z.left,right := z.right,xs := z.xs,ys := z.ys,oi_lo := z.oi_lo,oi_len := z.oi_len,oi_cap := z.oi_cap,os_lo := z.os_lo,os_len := z.os_len,os_cap := z.os_cap,bi_lo := z.bi_lo,bi_len := z.bi_len,bi_cap := z.bi_cap,bs_lo := z.bs_lo,bs_len := z.bs_len,bs_cap := z.bs_cap })
theorem s0_le (x : _) : Le (s0' x) (s0 x) := by
 unfold s0' s0
 repeat' first | with_reducible exact Le.refl _ | with_reducible exact Le.iter i0_s1_le _ | with_reducible exact Le.iter i0_s0_le _ | with_reducible apply Le.bind | with_reducible apply Le.cond | with_reducible apply Le.sum | intro _
def m' (x : gX) : Option fY := bif decide ((↑x.s.length : Int) > 16385) then some ([],[],3)
else
 bindO (M47.m' { s := x.s,sep := [124] }) fun y =>
   bif !y.snd.snd then some ([],[],4)
   else
     bif
         decide (0 ≤ (↑y.fst.length : Int)) && decide ((↑y.fst.length : Int) ≤ (↑y.fst.length : Int)) && decide ((↑y.fst.length : Int) * (↑1 : Int) ≤ 281474976710656) &&
           decide ((↑y.fst.length : Int) ≤ 9223372036854775807) then
       bif
           decide (0 ≤ (↑y.snd.fst.length : Int)) && decide ((↑y.snd.fst.length : Int) ≤ (↑y.snd.fst.length : Int)) &&
               decide ((↑y.snd.fst.length : Int) * (↑1 : Int) ≤ 281474976710656) &&
             decide ((↑y.snd.fst.length : Int) ≤ 9223372036854775807) then
         bindO
           (M36o.m
             { i_lo := 0,i_len := (↑y.fst.length : Int).toNat,i_cap := (↑y.fst.length : Int).toNat,s_lo := 0,s_len := (↑y.snd.fst.length : Int).toNat,
               s_cap := (↑y.snd.fst.length : Int).toNat,xs := List.replicate (↑y.fst.length : Int).toNat (0 : Int),ys := List.replicate (↑y.snd.fst.length : Int).toNat (0 : Int) })
           fun y_1 =>
           bindO
             (s0'
               { ri := [],rs := [],e := 0,left := y.fst,right := y.snd.fst,xs := y_1.fst,ys := y_1.snd.fst,oi_lo := 0,oi_len := (↑y.fst.length : Int).toNat,
                 oi_cap := (↑y.fst.length : Int).toNat,os_lo := 0,os_len := (↑y.snd.fst.length : Int).toNat,os_cap := (↑y.snd.fst.length : Int).toNat,bi_lo := y_1.snd.snd.fst,
                 bi_len := y_1.snd.snd.snd.fst,bi_cap := y_1.snd.snd.snd.snd.fst,bs_lo := y_1.snd.snd.snd.snd.snd.fst,bs_len := y_1.snd.snd.snd.snd.snd.snd.fst,
                 bs_cap := y_1.snd.snd.snd.snd.snd.snd.snd })
             fun s =>
             sumC s
               (fun y =>
                 bif leB (y.oi_lo + y.oi_len) y.xs.length && (leB (y.os_lo + y.os_len) y.ys.length && true) && true && true && true then
                   some (List.take y.oi_len (List.drop y.oi_lo y.xs),List.take y.os_len (List.drop y.os_lo y.ys),0)
                 else none)
               fun z => some (z.ri,z.rs,z.e)
       else none
     else none
theorem m_le (x : _) : Le (m' x) (m x) := by
 unfold m' m
 repeat' first | with_reducible exact Le.refl _ | with_reducible exact M47.m_le _ | with_reducible exact s0_le _ | with_reducible apply Le.bind | with_reducible apply Le.cond | with_reducible apply Le.sum | intro _
end M27
namespace M31
def m' (x : gX) : Option fY := bindO (M27.m' { s := x.s }) fun y => some (y.fst,y.snd.fst)
theorem m_le (x : _) : Le (m' x) (m x) := by
 unfold m' m
 repeat' first | with_reducible exact Le.refl _ | with_reducible exact M27.m_le _ | with_reducible apply Le.bind | with_reducible apply Le.cond | with_reducible apply Le.sum | intro _
end M31
namespace M51
def s0' (x : p0X) : Option (p0X ⊕ (q0X ⊕ z0X)) := bif decide (x.i < x.n) then bif inR x.i x.s.length then bindO (M43.m { i := x.s[x.i.toNat]?.getD 0,pi := x.pi,ps := x.ps }) fun y => bif y.fst then some (Sum.inr (Sum.inr { r := x.i,pi := x.pi,ps := x.ps })) else some (Sum.inl { s := x.s,n := x.n,i := IntKind.i64.wrap (x.i + 1),pi := x.pi,ps := x.ps }) else none
else some (Sum.inr (Sum.inl { pi := x.pi,ps := x.ps }))
theorem s0_le (x : _) : Le (s0' x) (s0 x) := by
 unfold s0' s0
 repeat' first | with_reducible exact Le.refl _ | with_reducible apply Le.bind | with_reducible apply Le.cond | with_reducible apply Le.sum | intro _
def m' (x : gX) : Option fY := bindO (iterN s0' 200 { s := x.s,n := (↑x.s.length : Int),i := 0,pi := x.pi,ps := x.ps }) fun s => sumC s (fun y => some (-1,y.pi,y.ps)) fun z => some (z.r,z.pi,z.ps)
theorem m_le (x : _) : Le (m' x) (m x) := by
 unfold m' m
 repeat' first | with_reducible exact Le.refl _ | with_reducible exact Le.iter s0_le _ | with_reducible apply Le.bind | with_reducible apply Le.cond | with_reducible apply Le.sum | intro _
end M51
namespace M42
def m' (x : gX) : Option fY := bindO (M51.m' { s := x.s,pi := x.pi,ps := x.ps }) fun y => some (decide (y.fst ≥ 0),x.pi,x.ps)
theorem m_le (x : _) : Le (m' x) (m x) := by
 unfold m' m
 repeat' first | with_reducible exact Le.refl _ | with_reducible exact M51.m_le _ | with_reducible apply Le.bind | with_reducible apply Le.cond | with_reducible apply Le.sum | intro _
end M42
namespace M23
def s0' (x : p0X) : Option (p0X ⊕ q0X) := bif decide (x.i < x.n) then bif inR x.i x.l.length then bif decide (x.l[x.i.toNat]?.getD 0 < (↑x.pi.length : Int)) then bif inR (x.l[x.i.toNat]?.getD 0) x.oi_len then bif decide (x.oi_lo + Int.toNat (x.l[x.i.toNat]?.getD 0) < x.xs.length) then some (Sum.inl { l := x.l,n := x.n,i := IntKind.i64.wrap (x.i + 1),pi := x.pi,ps := x.ps,xs := x.xs.set (x.oi_lo + Int.toNat (x.l[x.i.toNat]?.getD 0)) 2,ys := x.ys,oi_lo := x.oi_lo,oi_len := x.oi_len,oi_cap := x.oi_cap,os_lo := x.os_lo,os_len := x.os_len,os_cap := x.os_cap }) else none else none else bif inR (IntKind.i64.wrap (x.l[x.i.toNat]?.getD 0 - (↑x.pi.length : Int))) x.os_len then bif decide (x.os_lo + (IntKind.i64.wrap (x.l[x.i.toNat]?.getD 0 - (↑x.pi.length : Int))).toNat < x.ys.length) then some (Sum.inl { l := x.l,n := x.n,i := IntKind.i64.wrap (x.i + 1),pi := x.pi,ps := x.ps,xs := x.xs,ys := x.ys.set (x.os_lo + (IntKind.i64.wrap (x.l[x.i.toNat]?.getD 0 - (↑x.pi.length : Int))).toNat) 2,oi_lo := x.oi_lo,oi_len := x.oi_len,oi_cap := x.oi_cap,os_lo := x.os_lo,os_len := x.os_len,os_cap := x.os_cap }) else none else none else none
else
 some
   (Sum.inr { pi := x.pi,ps := x.ps,xs := x.xs,ys := x.ys,oi_lo := x.oi_lo,oi_len := x.oi_len,oi_cap := x.oi_cap,os_lo := x.os_lo,os_len := x.os_len,os_cap := x.os_cap })
theorem s0_le (x : _) : Le (s0' x) (s0 x) := by
 unfold s0' s0
 repeat' first | with_reducible exact Le.refl _ | with_reducible apply Le.bind | with_reducible apply Le.cond | with_reducible apply Le.sum | intro _
def m' (x : gX) : Option fY := bindO (M29.m' { i := x.i,s := x.s }) fun y => bif y != 0 then some ([],[],y) else bindO (M42.m' { s := x.l,pi := x.i,ps := x.s }) fun y => bif y.fst then some ([],[],1) else bindO (M34.m { i := x.i,s := x.s }) fun y => bindO (iterN s0' 200 { l := x.l,n := (↑x.l.length : Int),i := 0,pi := x.i,ps := x.s,xs := y.snd.snd.snd.snd.snd.snd.fst,ys := y.snd.snd.snd.snd.snd.snd.snd,oi_lo := y.fst,oi_len := y.snd.fst,oi_cap := y.snd.snd.fst,os_lo := y.snd.snd.snd.fst,os_len := y.snd.snd.snd.snd.fst,os_cap := y.snd.snd.snd.snd.snd.fst }) fun y => bif leB (y.oi_lo + y.oi_len) y.xs.length && (leB (y.os_lo + y.os_len) y.ys.length && true) && true && true && true then some (List.take y.oi_len (List.drop y.oi_lo y.xs),List.take y.os_len (List.drop y.os_lo y.ys),0) else none
theorem m_le (x : _) : Le (m' x) (m x) := by
 unfold m' m
 repeat' first | with_reducible exact Le.refl _ | with_reducible exact M29.m_le _ | with_reducible exact M42.m_le _ | with_reducible exact Le.iter s0_le _ | with_reducible apply Le.bind | with_reducible apply Le.cond | with_reducible apply Le.sum | intro _
end M23
namespace M30
def sb1a' (x : bp1aX) : Option bq1aX := bif decide (x.v < x.xs.length) then bif x.xs[x.v]?.getD 0 == 2 then bif decide (0 ≤ IntKind.i64.wrap (x.left - 1)) then bif decide (x.v < x.xs.length) then some { opn := x.opn2,out_lo := x.out_lo2,out_len := x.out_len2,out_cap := x.out_cap2,n := x.n2,i := x.i2,pi := x.pi,ps := x.ps,out := x.out,x_lo := x.x_lo,x_len := x.x_len,x_cap := x.x_cap,y_lo := x.y_lo,y_len := x.y_len,y_cap := x.y_cap,out_r := x.out_r,nn := x.nn,xs := x.xs.set x.v (IntKind.u8.wrap (IntKind.i64.wrap (↑(BitVec.ofInt 64 (x.nn.fdiv (2 ^ min (IntKind.i64.wrap (x.left - 1)).toNat 64)) &&& BitVec.ofInt 64 1).toNat : Int))),ys := x.ys,left := IntKind.i64.wrap (x.left - 1),bi_lo := x.bi_lo,bi_len := x.bi_len,bi_cap := x.bi_cap,bs_lo := x.bs_lo,bs_len := x.bs_len,bs_cap := x.bs_cap } else none else none else some { opn := x.opn2,out_lo := x.out_lo2,out_len := x.out_len2,out_cap := x.out_cap2,n := x.n2,i := x.i2,pi := x.pi,ps := x.ps,out := x.out,x_lo := x.x_lo,x_len := x.x_len,x_cap := x.x_cap,y_lo := x.y_lo,y_len := x.y_len,y_cap := x.y_cap,out_r := x.out_r,nn := x.nn,xs := x.xs,ys := x.ys,left := x.left,bi_lo := x.bi_lo,bi_len := x.bi_len,bi_cap := x.bi_cap,bs_lo := x.bs_lo,bs_len := x.bs_len,bs_cap := x.bs_cap }
else none
theorem sb1a_le (x : _) : Le (sb1a' x) (sb1a x) := by
 unfold sb1a' sb1a
 repeat' first | with_reducible exact Le.refl _ | with_reducible apply Le.bind | with_reducible apply Le.cond | with_reducible apply Le.sum | intro _
def sb1b' (x : bp1bX) : Option bq1bX := bif decide (x.v < x.ys.length) then bif x.ys[x.v]?.getD 0 == 2 then bif decide (0 ≤ IntKind.i64.wrap (x.left - 1)) then bif decide (x.v < x.ys.length) then some { opn := x.opn2,out_lo := x.out_lo2,out_len := x.out_len2,out_cap := x.out_cap2,n := x.n2,i := x.i2,pi := x.pi,ps := x.ps,out := x.out,x_lo := x.x_lo,x_len := x.x_len,x_cap := x.x_cap,y_lo := x.y_lo,y_len := x.y_len,y_cap := x.y_cap,out_r := x.out_r,nn := x.nn,xs := x.xs,ys := x.ys.set x.v (IntKind.u8.wrap (IntKind.i64.wrap (↑(BitVec.ofInt 64 (x.nn.fdiv (2 ^ min (IntKind.i64.wrap (x.left - 1)).toNat 64)) &&& BitVec.ofInt 64 1).toNat : Int))),left := IntKind.i64.wrap (x.left - 1),bi_lo := x.bi_lo,bi_len := x.bi_len,bi_cap := x.bi_cap,bs_lo := x.bs_lo,bs_len := x.bs_len,bs_cap := x.bs_cap } else none else none else some { opn := x.opn2,out_lo := x.out_lo2,out_len := x.out_len2,out_cap := x.out_cap2,n := x.n2,i := x.i2,pi := x.pi,ps := x.ps,out := x.out,x_lo := x.x_lo,x_len := x.x_len,x_cap := x.x_cap,y_lo := x.y_lo,y_len := x.y_len,y_cap := x.y_cap,out_r := x.out_r,nn := x.nn,xs := x.xs,ys := x.ys,left := x.left,bi_lo := x.bi_lo,bi_len := x.bi_len,bi_cap := x.bi_cap,bs_lo := x.bs_lo,bs_len := x.bs_len,bs_cap := x.bs_cap }
else none
theorem sb1b_le (x : _) : Le (sb1b' x) (sb1b x) := by
 unfold sb1b' sb1b
 repeat' first | with_reducible exact Le.refl _ | with_reducible apply Le.bind | with_reducible apply Le.cond | with_reducible apply Le.sum | intro _
def i1_s1' (x : i1_p1X) : Option (i1_p1X ⊕ i1_q1X) := bif decide (x.i2 < x.n2) then bif inR x.i2 x.bs_len then bindO (sb1b' { opn := x.opn,out_lo := x.out_lo,out_len := x.out_len,out_cap := x.out_cap,n := x.n,i := x.i,v := x.bs_lo + x.i2.toNat,opn2 := x.opn,out_lo2 := x.out_lo,out_len2 := x.out_len,out_cap2 := x.out_cap,n2 := x.n,i2 := x.i,pi := x.pi,ps := x.ps,out := x.out,x_lo := x.x_lo,x_len := x.x_len,x_cap := x.x_cap,y_lo := x.y_lo,y_len := x.y_len,y_cap := x.y_cap,out_r := x.out_r,nn := x.nn,xs := x.xs,ys := x.ys,left := x.left,bi_lo := x.bi_lo,bi_len := x.bi_len,bi_cap := x.bi_cap,bs_lo := x.bs_lo,bs_len := x.bs_len,bs_cap := x.bs_cap }) fun y => some (Sum.inl { n2 := x.n2,i2 := IntKind.i64.wrap (x.i2 + 1),opn := y.opn,out_lo := y.out_lo,out_len := y.out_len,out_cap := y.out_cap,n := y.n,i := y.i,pi := y.pi,ps := y.ps,out := y.out,x_lo := y.x_lo,x_len := y.x_len,x_cap := y.x_cap,y_lo := y.y_lo,y_len := y.y_len,y_cap := y.y_cap,out_r := y.out_r,nn := y.nn,xs := y.xs,ys := y.ys,left := y.left,bi_lo := y.bi_lo,bi_len := y.bi_len,bi_cap := y.bi_cap,bs_lo := y.bs_lo,bs_len := y.bs_len,bs_cap := y.bs_cap }) else none
else
 some
   (Sum.inr
     { opn := x.opn,out_lo := x.out_lo,out_len := x.out_len,out_cap := x.out_cap,n := x.n,i := x.i,pi := x.pi,ps := x.ps,out := x.out,x_lo := x.x_lo,x_len := x.x_len,
       x_cap := x.x_cap,y_lo := x.y_lo,y_len := x.y_len,y_cap := x.y_cap,out_r := x.out_r,nn := x.nn,xs := x.xs,ys := x.ys,left := x.left,bi_lo := x.bi_lo,
       bi_len := x.bi_len,bi_cap := x.bi_cap,bs_lo := x.bs_lo,bs_len := x.bs_len,bs_cap := x.bs_cap })
theorem i1_s1_le (x : _) : Le (i1_s1' x) (i1_s1 x) := by
 unfold i1_s1' i1_s1
 repeat' first | with_reducible exact Le.refl _ | with_reducible exact sb1b_le _ | with_reducible apply Le.bind | with_reducible apply Le.cond | with_reducible apply Le.sum | intro _
def i1_s0' (x : i1_p0X) : Option (i1_p0X ⊕ i1_q0X) := bif decide (x.i < x.n) then bif inR x.i x.bi_len then bindO (sb1a' { opn := x.opn,out_lo := x.out_lo,out_len := x.out_len,out_cap := x.out_cap,n := x.n2,i := x.i2,v := x.bi_lo + x.i.toNat,opn2 := x.opn,out_lo2 := x.out_lo,out_len2 := x.out_len,out_cap2 := x.out_cap,n2 := x.n2,i2 := x.i2,pi := x.pi,ps := x.ps,out := x.out,x_lo := x.x_lo,x_len := x.x_len,x_cap := x.x_cap,y_lo := x.y_lo,y_len := x.y_len,y_cap := x.y_cap,out_r := x.out_r,nn := x.nn,xs := x.xs,ys := x.ys,left := x.left,bi_lo := x.bi_lo,bi_len := x.bi_len,bi_cap := x.bi_cap,bs_lo := x.bs_lo,bs_len := x.bs_len,bs_cap := x.bs_cap }) fun y => some (Sum.inl { n := x.n,i := IntKind.i64.wrap (x.i + 1),opn := y.opn,out_lo := y.out_lo,out_len := y.out_len,out_cap := y.out_cap,n2 := y.n,i2 := y.i,pi := y.pi,ps := y.ps,out := y.out,x_lo := y.x_lo,x_len := y.x_len,x_cap := y.x_cap,y_lo := y.y_lo,y_len := y.y_len,y_cap := y.y_cap,out_r := y.out_r,nn := y.nn,xs := y.xs,ys := y.ys,left := y.left,bi_lo := y.bi_lo,bi_len := y.bi_len,bi_cap := y.bi_cap,bs_lo := y.bs_lo,bs_len := y.bs_len,bs_cap := y.bs_cap }) else none
else
 some
   (Sum.inr
     { opn := x.opn,out_lo := x.out_lo,out_len := x.out_len,out_cap := x.out_cap,n := x.n2,i := x.i2,pi := x.pi,ps := x.ps,out := x.out,x_lo := x.x_lo,x_len := x.x_len,
       x_cap := x.x_cap,y_lo := x.y_lo,y_len := x.y_len,y_cap := x.y_cap,out_r := x.out_r,nn := x.nn,xs := x.xs,ys := x.ys,left := x.left,bi_lo := x.bi_lo,
       bi_len := x.bi_len,bi_cap := x.bi_cap,bs_lo := x.bs_lo,bs_len := x.bs_len,bs_cap := x.bs_cap })
theorem i1_s0_le (x : _) : Le (i1_s0' x) (i1_s0 x) := by
 unfold i1_s0' i1_s0
 repeat' first | with_reducible exact Le.refl _ | with_reducible exact sb1a_le _ | with_reducible apply Le.bind | with_reducible apply Le.cond | with_reducible apply Le.sum | intro _
def s1' (x : p1X) : Option q1X := bindO (iterN i1_s0' 200 { n := (↑x.bi_len : Int),i := 0,opn := x.opn,out_lo := x.out_lo,out_len := x.out_len,out_cap := x.out_cap,n2 := x.n,i2 := x.i,pi := x.pi,ps := x.ps,out := x.out,x_lo := x.x_lo,x_len := x.x_len,x_cap := x.x_cap,y_lo := x.y_lo,y_len := x.y_len,y_cap := x.y_cap,out_r := x.out_r,nn := x.nn,xs := x.xs,ys := x.ys,left := x.left,bi_lo := x.bi_lo,bi_len := x.bi_len,bi_cap := x.bi_cap,bs_lo := x.bs_lo,bs_len := x.bs_len,bs_cap := x.bs_cap }) fun y => bindO (iterN i1_s1' 200 { n2 := (↑y.bs_len : Int),i2 := 0,opn := y.opn,out_lo := y.out_lo,out_len := y.out_len,out_cap := y.out_cap,n := y.n,i := y.i,pi := y.pi,ps := y.ps,out := y.out,x_lo := y.x_lo,x_len := y.x_len,x_cap := y.x_cap,y_lo := y.y_lo,y_len := y.y_len,y_cap := y.y_cap,out_r := y.out_r,nn := y.nn,xs := y.xs,ys := y.ys,left := y.left,bi_lo := y.bi_lo,bi_len := y.bi_len,bi_cap := y.bi_cap,bs_lo := y.bs_lo,bs_len := y.bs_len,bs_cap := y.bs_cap }) fun y => some { opn := y.opn,out_lo := y.out_lo,out_len := y.out_len,out_cap := y.out_cap,n := y.n,i := y.i,pi := y.pi,ps := y.ps,out := y.out,x_lo := y.x_lo,x_len := y.x_len,x_cap := y.x_cap,y_lo := y.y_lo,y_len := y.y_len,y_cap := y.y_cap,out_r := y.out_r,nn := y.nn,xs := y.xs,ys := y.ys,left := y.left,bi_lo := y.bi_lo,bi_len := y.bi_len,bi_cap := y.bi_cap,bs_lo := y.bs_lo,bs_len := y.bs_len,bs_cap := y.bs_cap }
theorem s1_le (x : _) : Le (s1' x) (s1 x) := by
 unfold s1' s1
 repeat' first | with_reducible exact Le.refl _ | with_reducible exact Le.iter i1_s1_le _ | with_reducible exact Le.iter i1_s0_le _ | with_reducible apply Le.bind | with_reducible apply Le.cond | with_reducible apply Le.sum | intro _
def s0' (x : p0X) : Option (p0X ⊕ q0X) := bif decide (x.i < x.n) then bindO (M34.m { i := x.pi,s := x.ps }) fun y => bif inR x.i x.out_len then bif decide (x.out_lo + x.i.toNat < x.out.length) then bif inR x.i x.out_len then bif eqN (x.out_lo + x.i.toNat) (List.take (x.out_lo + x.i.toNat) x.out).length then bindO (M36o.m { i_lo := y.fst,i_len := y.snd.fst,i_cap := y.snd.snd.fst,s_lo := y.snd.snd.snd.fst,s_len := y.snd.snd.snd.snd.fst,s_cap := y.snd.snd.snd.snd.snd.fst,xs := y.snd.snd.snd.snd.snd.snd.fst,ys := y.snd.snd.snd.snd.snd.snd.snd }) fun y_1 => bindO (s1' { opn := x.opn,out_lo := x.out_lo,out_len := x.out_len,out_cap := x.out_cap,n := x.n,i := x.i,pi := x.pi,ps := x.ps,out := List.take (x.out_lo + x.i.toNat) x.out,x_lo := y.fst,x_len := y.snd.fst,x_cap := y.snd.snd.fst,y_lo := y.snd.snd.snd.fst,y_len := y.snd.snd.snd.snd.fst,y_cap := y.snd.snd.snd.snd.snd.fst,out_r := List.drop (x.out_lo + x.i.toNat + 1) x.out,nn := x.i,xs := y_1.fst,ys := y_1.snd.fst,left := x.opn,bi_lo := y_1.snd.snd.fst,bi_len := y_1.snd.snd.snd.fst,bi_cap := y_1.snd.snd.snd.snd.fst,bs_lo := y_1.snd.snd.snd.snd.snd.fst,bs_len := y_1.snd.snd.snd.snd.snd.snd.fst,bs_cap := y_1.snd.snd.snd.snd.snd.snd.snd }) fun y => bif leB (y.x_lo + y.x_len) y.xs.length && (leB (y.y_lo + y.y_len) y.ys.length && true) && true then some (Sum.inl { opn := y.opn,out_lo := y.out_lo,out_len := y.out_len,out_cap := y.out_cap,n := y.n,i := IntKind.i64.wrap (y.i + 1),pi := y.pi,ps := y.ps,out := y.out ++ (List.take y.x_len (List.drop y.x_lo y.xs),List.take y.y_len (List.drop y.y_lo y.ys)) :: y.out_r }) else none else none else none else none else none
else some (Sum.inr { out_lo := x.out_lo,out_len := x.out_len,out_cap := x.out_cap,pi := x.pi,ps := x.ps,out := x.out })
theorem s0_le (x : _) : Le (s0' x) (s0 x) := by
 unfold s0' s0
 repeat' first | with_reducible exact Le.refl _ | with_reducible exact s1_le _ | with_reducible apply Le.bind | with_reducible apply Le.cond | with_reducible apply Le.sum | intro _
def m' (x : gX) : Option fY := bindO (M29.m' { i := x.i,s := x.s }) fun y => bif y != 0 then some ([],y) else bindO (M22.m' { i := x.i,s := x.s }) fun y => bif decide (IntKind.i64.wrap (IntKind.i64.wrap ((↑x.i.length : Int) + (↑x.s.length : Int)) - y) > 12) then some ([],3) else bif decide (0 ≤ IntKind.i64.wrap (IntKind.i64.wrap ((↑x.i.length : Int) + (↑x.s.length : Int)) - y)) then bif decide (0 ≤ IntKind.i64.wrap (1 * 2 ^ min (IntKind.i64.wrap (IntKind.i64.wrap ((↑x.i.length : Int) + (↑x.s.length : Int)) - y)).toNat 64)) && decide (IntKind.i64.wrap (1 * 2 ^ min (IntKind.i64.wrap (IntKind.i64.wrap ((↑x.i.length : Int) + (↑x.s.length : Int)) - y)).toNat 64) ≤ IntKind.i64.wrap (1 * 2 ^ min (IntKind.i64.wrap (IntKind.i64.wrap ((↑x.i.length : Int) + (↑x.s.length : Int)) - y)).toNat 64)) && decide (IntKind.i64.wrap (1 * 2 ^ min (IntKind.i64.wrap (IntKind.i64.wrap ((↑x.i.length : Int) + (↑x.s.length : Int)) - y)).toNat 64) * (↑48 : Int) ≤ 281474976710656) && decide (IntKind.i64.wrap (1 * 2 ^ min (IntKind.i64.wrap (IntKind.i64.wrap ((↑x.i.length : Int) + (↑x.s.length : Int)) - y)).toNat 64) ≤ 9223372036854775807) then bindO (iterN s0' 200 { opn := IntKind.i64.wrap (IntKind.i64.wrap ((↑x.i.length : Int) + (↑x.s.length : Int)) - y),out_lo := 0,out_len := (IntKind.i64.wrap (1 * 2 ^ min (IntKind.i64.wrap (IntKind.i64.wrap ((↑x.i.length : Int) + (↑x.s.length : Int)) - y)).toNat 64)).toNat,out_cap := (IntKind.i64.wrap (1 * 2 ^ min (IntKind.i64.wrap (IntKind.i64.wrap ((↑x.i.length : Int) + (↑x.s.length : Int)) - y)).toNat 64)).toNat,n := (↑(IntKind.i64.wrap (1 * 2 ^ min (IntKind.i64.wrap (IntKind.i64.wrap ((↑x.i.length : Int) + (↑x.s.length : Int)) - y)).toNat 64)).toNat : Int),i := 0,pi := x.i,ps := x.s,out := List.replicate (IntKind.i64.wrap (1 * 2 ^ min (IntKind.i64.wrap (IntKind.i64.wrap ((↑x.i.length : Int) + (↑x.s.length : Int)) - y)).toNat 64)).toNat ([],[]) }) fun y => bif leB (y.out_lo + y.out_len) y.out.length && true && true && true then some (List.take y.out_len (List.drop y.out_lo y.out),0) else none else none else none
theorem m_le (x : _) : Le (m' x) (m x) := by
 unfold m' m
 repeat' first | with_reducible exact Le.refl _ | with_reducible exact M29.m_le _ | with_reducible exact M22.m_le _ | with_reducible exact Le.iter s0_le _ | with_reducible apply Le.bind | with_reducible apply Le.cond | with_reducible apply Le.sum | intro _
end M30
namespace M26
def m' (x : gX) : Option fY := bindO (M29.m' ⟨x.i,x.s⟩) fun e => bif e == 0 then (bif okS x.i && okS x.s then some (sgns x.i ++ 124 :: sgns x.s) else none) else some []
theorem m_le (x : _) : Le (m' x) (m x) := by
 unfold m' m
 repeat' first | with_reducible exact Le.refl _ | with_reducible exact M29.m_le _ | with_reducible apply Le.bind | with_reducible apply Le.cond | with_reducible apply Le.sum | intro _
end M26
namespace M10
def m' (x : gX) : Option fY := bindO (M31.m' { s := [48,88,88,124,49] }) fun y => bindO (M31.m' { s := [48,88,49,124,88] }) fun y_1 => bindO (M13.m' { ai := y.fst,as_ := y.snd,bi := y_1.fst,bs := y_1.snd }) fun y => bindO (M31.m' { s := [48,88,124] }) fun y_2 => bindO (M31.m' { s := [49,88,124] }) fun y_3 => bindO (M13.m' { ai := y_2.fst,as_ := y_2.snd,bi := y_3.fst,bs := y_3.snd }) fun y_4 => bindO (M31.m' { s := [88,88,49,88,124,48,88] }) fun y_5 => bindO (M19.m' { i := y_5.fst,s := y_5.snd,w := 2 }) fun y_6 => bindO (M31.m' { s := [88,88,49,88,124,48,88] }) fun y_7 => bindO (M19.m' { i := y_7.fst,s := y_7.snd,w := 1 }) fun y_8 => bindO (M31.m' { s := [88,48,124,88] }) fun y_9 => bindO (M30.m' { i := y_9.fst,s := y_9.snd }) fun y_10 => bindO (bif !y.snd.snd != 0 then M26.m' { i := y.fst,s := y.snd.fst } else some []) fun y_11 => bindO (bif !bif bif y.snd.snd != 0 then true else !y_11 == [48,88,49,124,49] then true else y_4.snd.snd != 9 then M31.m' { s := [48,49,88,124,49] } else some ([],[])) fun y_12 => bindO (bif !bif bif y.snd.snd != 0 then true else !y_11 == [48,88,49,124,49] then true else y_4.snd.snd != 9 then M31.m' { s := [49,48,88,124,88] } else some ([],[])) fun y_13 => bindO (bif !bif bif y.snd.snd != 0 then true else !y_11 == [48,88,49,124,49] then true else y_4.snd.snd != 9 then M18.m' { ai := y_12.fst,as_ := y_12.snd,bi := y_13.fst,bs := y_13.snd } else some (Int.ofNat 0)) fun y_14 => bindO (bif !bif bif bif bif y.snd.snd != 0 then true else !y_11 == [48,88,49,124,49] then true else y_4.snd.snd != 9 then true else y_14 != 2 then true else y_6.snd.snd != 0 then M26.m' { i := y_6.fst,s := y_6.snd.fst } else some []) fun y_15 => bindO (bif !bif bif bif bif bif bif y.snd.snd != 0 then true else !y_11 == [48,88,49,124,49] then true else y_4.snd.snd != 9 then true else y_14 != 2 then true else y_6.snd.snd != 0 then true else !y_15 == [49,49,49,49,124,48,48] then true else y_8.snd.snd != 0 then M26.m' { i := y_8.fst,s := y_8.snd.fst } else some []) fun y_16 => bif inR 1 y_10.fst.length || !!bif bif bif bif bif bif bif bif bif y.snd.snd != 0 then true else !y_11 == [48,88,49,124,49] then true else y_4.snd.snd != 9 then true else y_14 != 2 then true else y_6.snd.snd != 0 then true else !y_15 == [49,49,49,49,124,48,48] then true else y_8.snd.snd != 0 then true else !y_16 == [49,49,49,49,124,48,49] then true else y_10.snd != 0 then true else (↑y_10.fst.length : Int) != 4 then bindO (bif !bif bif bif bif bif bif bif bif bif y.snd.snd != 0 then true else !y_11 == [48,88,49,124,49] then true else y_4.snd.snd != 9 then true else y_14 != 2 then true else y_6.snd.snd != 0 then true else !y_15 == [49,49,49,49,124,48,48] then true else y_8.snd.snd != 0 then true else !y_16 == [49,49,49,49,124,48,49] then true else y_10.snd != 0 then true else (↑y_10.fst.length : Int) != 4 then M26.m' { i := (y_10.fst[1]?.getD ([],[])).fst,s := (y_10.fst[1]?.getD ([],[])).snd } else some []) fun y_17 => bif inR 2 y_10.fst.length || !!bif bif bif bif bif bif bif bif bif bif y.snd.snd != 0 then true else !y_11 == [48,88,49,124,49] then true else y_4.snd.snd != 9 then true else y_14 != 2 then true else y_6.snd.snd != 0 then true else !y_15 == [49,49,49,49,124,48,48] then true else y_8.snd.snd != 0 then true else !y_16 == [49,49,49,49,124,48,49] then true else y_10.snd != 0 then true else (↑y_10.fst.length : Int) != 4 then true else !y_17 == [48,48,124,49] then bindO (bif !bif bif bif bif bif bif bif bif bif bif y.snd.snd != 0 then true else !y_11 == [48,88,49,124,49] then true else y_4.snd.snd != 9 then true else y_14 != 2 then true else y_6.snd.snd != 0 then true else !y_15 == [49,49,49,49,124,48,48] then true else y_8.snd.snd != 0 then true else !y_16 == [49,49,49,49,124,48,49] then true else y_10.snd != 0 then true else (↑y_10.fst.length : Int) != 4 then true else !y_17 == [48,48,124,49] then M26.m' { i := (y_10.fst[2]?.getD ([],[])).fst,s := (y_10.fst[2]?.getD ([],[])).snd } else some []) fun y_18 => bif bif bif bif bif bif bif bif bif bif bif bif y.snd.snd != 0 then true else !y_11 == [48,88,49,124,49] then true else y_4.snd.snd != 9 then true else y_14 != 2 then true else y_6.snd.snd != 0 then true else !y_15 == [49,49,49,49,124,48,48] then true else y_8.snd.snd != 0 then true else !y_16 == [49,49,49,49,124,48,49] then true else y_10.snd != 0 then true else (↑y_10.fst.length : Int) != 4 then true else !y_17 == [48,48,124,49] then true else !y_18 == [49,48,124,48] then some false else bindO (M31.m' { s := [48,49,49,124,48] }) fun y => bindO (M23.m' { i := y.fst,s := y.snd,l := [0,3] }) fun y => bindO (M27.m' { s := [48,49] }) fun y_19 => bindO (M27.m' { s := [48,124,50] }) fun y_20 => bindO (M27.m' { s := [124] }) fun y_21 => bindO (M31.m' { s := [88,49,124] }) fun y_22 => bindO (M31.m' { s := [48,49,124] }) fun y_23 => bindO (M17.m' { ai := y_22.fst,as_ := y_22.snd,bi := y_23.fst,bs := y_23.snd }) fun y_24 => bindO (bif y_24 then M31.m' { s := [48,49,124] } else some ([],[])) fun y_25 => bindO (bif y_24 then M31.m' { s := [88,49,124] } else some ([],[])) fun y_26 => bindO (bif y_24 then M17.m' { ai := y_25.fst,as_ := y_25.snd,bi := y_26.fst,bs := y_26.snd } else some false) fun y_27 => bindO (bif bif bif y_24 then !y_27 else false then y.snd.snd == 0 else false then M26.m' { i := y.fst,s := y.snd.fst } else some []) fun y_28 => some (bif bif bif bif bif bif bif y_24 then !y_27 else false then y.snd.snd == 0 else false then y_28 == [88,49,49,124,88] else false then y_19.snd.snd == 4 else false then y_20.snd.snd == 4 else false then y_21.snd.snd == 0 else false then IntKind.i64.wrap ((↑y_21.fst.length : Int) + (↑y_21.snd.fst.length : Int)) == 0 else false) else none else none
theorem m_le (x : _) : Le (m' x) (m x) := by
 unfold m' m
 repeat' first | with_reducible exact Le.refl _ | with_reducible exact M18.m_le _ | with_reducible exact M17.m_le _ | with_reducible exact M13.m_le _ | with_reducible exact M19.m_le _ | with_reducible exact M27.m_le _ | with_reducible exact M31.m_le _ | with_reducible exact M23.m_le _ | with_reducible exact M30.m_le _ | with_reducible exact M26.m_le _ | with_reducible apply Le.bind | with_reducible apply Le.cond | with_reducible apply Le.sum | intro _
end M10
theorem lives10 : M10.m () = some true := M10.m_le _ _ (by kernel_rfl)
end Go.Proofs.Ytnmlmdlhhphcoaa
namespace Go.Proofs.Ytnmlmdlhhphcoaa
open Go.Abs
namespace Cu
end Cu
end Go.Proofs.Ytnmlmdlhhphcoaa
namespace Go.Proofs.Ytnmlmdlhhphcoaa
open Go.Abs
namespace Cu
def okb (b : UInt8) : Bool := b == 48 || b == 49 || b == 88
def vl (b : UInt8) : Int := if b = 48 then 0 else if b = 49 then 1 else 2
def fv (l : List UInt8) (k : Nat) : List Int := (l.take k).map vl ++ List.replicate (l.length - k) 0
end Cu
end Go.Proofs.Ytnmlmdlhhphcoaa
namespace Go.Proofs.Ytnmlmdlhhphcoaa
open Go.Abs
namespace Cu
def gd (s : List UInt8) : Bool := s.all fun b => b == 124 || okb b
end Cu
end Go.Proofs.Ytnmlmdlhhphcoaa
namespace Go.Proofs.Ytnmlmdlhhphcoaa
open Go.Abs
namespace Cu
def fst (w : Int) (a : Int × List Int) (v : Int) : Int × List Int := if v = 2 then (a.1,a.2 ++ [a.1]) else if w = 2 then (v,a.2 ++ [v]) else (a.1,a.2 ++ [v])
def fil (w last : Int) (l : List Int) : Int × List Int := l.foldl (fst w) (last,[])
theorem fst_len (w : Int) (a : Int × List Int) (v : Int) : (fst w a v).2.length = a.2.length + 1 := by
 unfold fst; split
 · simp
 · split <;> simp
theorem fil_len (w : Int) : ∀ (l : List Int) (a : Int × List Int),(l.foldl (fst w) a).2.length = a.2.length + l.length
 | [],a => by simp
 | v :: l,a => by
   rw [List.foldl_cons,fil_len w l,fst_len]
   simp; omega
theorem scan_fold {A α Y : Type} (F : A → α → A) (E : A → Y) : ∀ (l : List α) (a : A),scan (fun a x => (.inl (F a x) : A ⊕ Y)) E a l = E (l.foldl F a)
 | [],_ => rfl
 | x :: l,a => by unfold scan; exact scan_fold F E l (F a x)
theorem mid_at {d l : List Int} {i : Nat} (hd : d.length = i) (hi : i < l.length) : (d ++ l.drop i)[i]?.getD 0 = l[i] := by
 rw [List.getElem?_append_right (by omega),List.getElem?_drop,hd]
 simp [hi]
theorem mid_set {d l : List Int} {i : Nat} (hd : d.length = i) (hi : i < l.length) (v : Int) : (d ++ l.drop i).set i v = (d ++ [v]) ++ l.drop (i + 1) := by
 rw [List.set_append_right _ _ (by omega),List.drop_eq_getElem_cons hi,show i - d.length = 0 by omega,List.set_cons_zero,List.append_assoc]
 rfl
theorem mid_same {d l : List Int} {i : Nat} (hi : i < l.length) : d ++ l.drop i = (d ++ [l[i]]) ++ l.drop (i + 1) := by
 rw [List.drop_eq_getElem_cons hi,List.append_assoc]
 rfl
theorem fillrun {w last : Int} {xs ys : List Int} (hx : xs.length ≤ 1000000) (hy : ys.length ≤ 1000000) :
   M19.s0 ⟨w,last,xs,ys,0,xs.length,xs.length,0,ys.length,ys.length,0,xs.length,xs.length,0,ys.length,ys.length⟩
   = some ⟨w,(fil w (fil w last xs).1 ys).1,(fil w last xs).2,(fil w (fil w last xs).1 ys).2,0,xs.length,xs.length,0,ys.length,ys.length,0,xs.length,xs.length,0,ys.length,ys.length⟩ := by
 have k0 := iter_scan (step := M19.i0_s0) (fun i (a : Int × List Int) => ⟨(xs.length : Int),(i : Int),w,a.1,a.2 ++ xs.drop i,ys,0,xs.length,xs.length,0,ys.length,ys.length,0,xs.length,xs.length,0,ys.length,ys.length⟩) xs
   (fun a v => .inl (fst w a v)) (fun a => ⟨w,a.1,a.2,ys,0,xs.length,xs.length,0,ys.length,ys.length,0,xs.length,xs.length,0,ys.length,ys.length⟩) (fun i a => a.2.length = i) (fun i hi a ha => by
     have ha : a.2.length = i := ha
     have e1 : ((i : Int) < (xs.length : Int)) := by omega
     have e2 : i < (a.2 ++ xs.drop i).length := by simp; omega
     have e3 := mid_at ha hi
     unfold M19.i0_s0 M19.sb0a fst
     simp only [e1,inR_nat hi,suc (show i < 9000000000000000000 by omega),Int.toNat_natCast,Nat.zero_add,e2,e3,decide_true,cond_true,mid_set ha hi]
     by_cases h2 : xs[i] = 2
     · simp only [h2,beq_self_eq_true,cond_true,bindO,if_true]
     · have : (xs[i] == 2) = false := by simpa using h2
       simp only [this,cond_false,h2,if_false]
       by_cases hw : w = 2
       · subst hw
         simp only [beq_self_eq_true,cond_true,bindO,if_true]
         rw [← mid_same hi]
       · have : (w == 2) = false := by simpa using hw
         simp only [this,cond_false,hw,if_false,bindO]
         rw [← mid_same hi]) (fun i hi a a' ha hF => by
     have hF : fst w a xs[i] = a' := by injection hF
     have ha : a.2.length = i := ha
     show a'.2.length = i + 1
     rw [← hF,fst_len,ha]) (fun a ha => by
     unfold M19.i0_s0
     simp) (last,[]) rfl
 rw [scan_fold] at k0
 have k0 : iter M19.i0_s0 ⟨(xs.length : Int),0,w,last,xs,ys,0,xs.length,xs.length,0,ys.length,ys.length,0,xs.length,xs.length,0,ys.length,ys.length⟩ = some ⟨w,(fil w last xs).1,(fil w last xs).2,ys,0,xs.length,xs.length,0,ys.length,ys.length,0,xs.length,xs.length,0,ys.length,ys.length⟩ := k0
 generalize fil w last xs = p at k0
 have k1 := iter_scan (step := M19.i0_s1) (fun i (a : Int × List Int) => ⟨(ys.length : Int),(i : Int),w,a.1,p.2,a.2 ++ ys.drop i,0,xs.length,xs.length,0,ys.length,ys.length,0,xs.length,xs.length,0,ys.length,ys.length⟩) ys
   (fun a v => .inl (fst w a v)) (fun a => ⟨w,a.1,p.2,a.2,0,xs.length,xs.length,0,ys.length,ys.length,0,xs.length,xs.length,0,ys.length,ys.length⟩) (fun i a => a.2.length = i) (fun i hi a ha => by
     have ha : a.2.length = i := ha
     have e1 : ((i : Int) < (ys.length : Int)) := by omega
     have e2 : i < (a.2 ++ ys.drop i).length := by simp; omega
     have e3 := mid_at ha hi
     unfold M19.i0_s1 M19.sb0b fst
     simp only [e1,inR_nat hi,suc (show i < 9000000000000000000 by omega),Int.toNat_natCast,Nat.zero_add,e2,e3,decide_true,cond_true,mid_set ha hi]
     by_cases h2 : ys[i] = 2
     · simp only [h2,beq_self_eq_true,cond_true,bindO,if_true]
     · have : (ys[i] == 2) = false := by simpa using h2
       simp only [this,cond_false,h2,if_false]
       by_cases hw : w = 2
       · subst hw
         simp only [beq_self_eq_true,cond_true,bindO,if_true]
         rw [← mid_same hi]
       · have : (w == 2) = false := by simpa using hw
         simp only [this,cond_false,hw,if_false,bindO]
         rw [← mid_same hi]) (fun i hi a a' ha hF => by
     have hF : fst w a ys[i] = a' := by injection hF
     have ha : a.2.length = i := ha
     show a'.2.length = i + 1
     rw [← hF,fst_len,ha]) (fun a ha => by
     unfold M19.i0_s1
     simp) (p.1,[]) rfl
 rw [scan_fold] at k1
 have k1 : iter M19.i0_s1 ⟨(ys.length : Int),0,w,p.1,p.2,ys,0,xs.length,xs.length,0,ys.length,ys.length,0,xs.length,xs.length,0,ys.length,ys.length⟩ = some ⟨w,(fil w p.1 ys).1,p.2,(fil w p.1 ys).2,0,xs.length,xs.length,0,ys.length,ys.length,0,xs.length,xs.length,0,ys.length,ys.length⟩ := k1
 unfold M19.s0
 simp only [k0,k1,bindO]
def spec1 (l : List Int) : Int := (l.find? fun v => v != 2).getD 0
theorem m40 {l : List Int} (hl : l.length ≤ 2000000) : (∃ i : Nat,∃ h : i < l.length,M40.m ⟨l⟩ = some (i : Int) ∧ l[i] = spec1 l) ∨ (M40.m ⟨l⟩ = some (-1) ∧ spec1 l = 0) := by
 have : ∀ j i,i + j = l.length → (∃ t : Nat,∃ h : t < l.length,iter M40.s0 ⟨l,(l.length : Int),(i : Int)⟩ = some (.inr ⟨(t : Int)⟩) ∧ l[t] = spec1 (l.drop i)) ∨ (iter M40.s0 ⟨l,(l.length : Int),(i : Int)⟩ = some (.inl ⟨⟩) ∧ spec1 (l.drop i) = 0) := by
   intro j
   induction j with
   | zero =>
     intro i hi
     have e : i = l.length := by omega
     subst e
     right
     rw [List.drop_length]
     refine ⟨?_,rfl⟩
     rw [iter_eq]
     have : M40.s0 ⟨l,(l.length : Int),(l.length : Int)⟩ = some (.inr (.inl ⟨⟩)) := by unfold M40.s0; simp
     rw [this]
   | succ j ih =>
     intro i hi
     have hil : i < l.length := by omega
     have e1 : ((i : Int) < (l.length : Int)) := by omega
     have hst : M40.s0 ⟨l,(l.length : Int),(i : Int)⟩ = some (if (l[i] != 2) = true then .inr (.inr ⟨(i : Int)⟩) else .inl ⟨l,(l.length : Int),((i + 1 : Nat) : Int)⟩) := by
       unfold M40.s0 M41.m
       simp only [e1,inR_nat hil,getD_at hil,suc (show i < 9000000000000000000 by omega),decide_true,cond_true,bindO]
       cases (l[i] != 2) <;> rfl
     rw [iter_eq,hst,List.drop_eq_getElem_cons hil]
     cases hP : (l[i] != 2) with
     | true =>
       left
       refine ⟨i,hil,rfl,?_⟩
       unfold spec1
       rw [List.find?_cons,hP]
       rfl
     | false =>
       simp only [Bool.false_eq_true,if_false]
       have e : spec1 (l[i] :: l.drop (i + 1)) = spec1 (l.drop (i + 1)) := by unfold spec1; rw [List.find?_cons,hP]
       rw [e]
       exact ih (i + 1) (by omega)
 unfold M40.m
 have h := this l.length 0 (by omega)
 rw [List.drop_zero] at h
 rcases h with ⟨t,h1,h2,h3⟩ | ⟨h2,h3⟩
 · have h2 : iter M40.s0 ⟨l,(l.length : Int),0⟩ = _ := h2
   exact .inl ⟨t,h1,by simp only [h2,bindO,sumC],h3⟩
 · have h2 : iter M40.s0 ⟨l,(l.length : Int),0⟩ = _ := h2
   exact .inr ⟨by simp only [h2,bindO,sumC],h3⟩
def lastOf (w : Int) (l : List Int) : Int := if w = 0 then 0 else if w = 1 then 1 else spec1 l
def flr (i s : List Int) (w : Int) : List Int × List Int × Int := ((fil w (lastOf w (i ++ s)) i).2,(fil w (fil w (lastOf w (i ++ s)) i).1 s).2,0)
theorem m19 {i s : List Int} {w : Int} (hi : i.length ≤ 1000000) (hs : s.length ≤ 1000000) :
   M19.m ⟨i,s,w⟩ = some (if chk i s ≠ 0 then ([],[],chk i s) else if w = 0 ∨ w = 1 ∨ w = 2 then flr i s w else ([],[],1)) := by
 unfold M19.m
 simp only [m29 hi hs,m34 hi hs,m35 hi hs,bindO]
 by_cases hc : chk i s = 0
 · have hb : (chk i s != 0) = false := by simp [hc]
   have q1 : ∀ last,leB (0 + i.length) (fil w last i).2.length = true := fun last => by
     unfold fil; rw [fil_len]; simp [leB]
   have q2 : ∀ last,leB (0 + s.length) (fil w last s).2.length = true := fun last => by
     unfold fil; rw [fil_len]; simp [leB]
   have t1 : ∀ last,List.take i.length (fil w last i).2 = (fil w last i).2 := fun last => List.take_of_length_le (by unfold fil; rw [fil_len]; simp)
   have t2 : ∀ last,List.take s.length (fil w last s).2 = (fil w last s).2 := fun last => List.take_of_length_le (by unfold fil; rw [fil_len]; simp)
   simp only [hb,cond_false,hc,bne_self_eq_false,ne_eq,not_true,if_false]
   unfold M36o.m
   simp only [bindO,fillrun hi hs,q1,q2,Bool.and_self,cond_true,List.drop_zero,t1,t2]
   by_cases h0 : w = 0
   · subst h0; rfl
   · have b0 : (w == 0) = false := by simpa using h0
     simp only [b0,cond_false]
     by_cases h1 : w = 1
     · subst h1; rfl
     · have b1 : (w == 1) = false := by simpa using h1
       simp only [b1,cond_false]
       by_cases h2 : w = 2
       · subst h2
         simp only [beq_self_eq_true,cond_true]
         have hl : lastOf 2 (i ++ s) = spec1 (i ++ s) := rfl
         rcases m40 (l := i ++ s) (by simp; omega) with ⟨t,g1,g2,g3⟩ | ⟨g2,g3⟩
         · have ge : ((t : Int) ≥ 0) := by omega
           simp only [g2,ge,decide_true,cond_true,inR_nat g1,getD_at g1,g3]
           simp [flr,hl]
         · simp only [g2,show decide ((-1 : Int) ≥ 0) = false from rfl,cond_false]
           simp [flr,hl,g3]
       · have b2 : (w == 2) = false := by simpa using h2
         simp only [b2,cond_false,h0,h1,h2,or_self,if_false]
 · have hb : (chk i s != 0) = true := by simpa using hc
   simp only [hb,cond_true,hc,ne_eq,not_false_eq_true,if_true]
def cares (l : List Int) : Nat := l.countP fun v => v != 2
theorem cares_le (l : List Int) : cares l ≤ l.length := List.countP_le_length
theorem cares_snoc (l : List Int) (k : Nat) (h : k < l.length) : cares (l.take (k + 1)) = cares (l.take k) + (if (l[k] != 2) = true then 1 else 0) := by
 unfold cares
 rw [List.take_succ_eq_append_getElem h,List.countP_append,List.countP_cons,List.countP_nil]
 simp
theorem m22 {i s : List Int} (hi : i.length ≤ 1000000) (hs : s.length ≤ 1000000) : M22.m ⟨i,s⟩ = some (if chk i s ≠ 0 then 0 else ((cares i + cares s : Nat) : Int)) := by
 have c1 : ∀ (l : List Int) (k : Nat),cares (l.take k) ≤ l.length := fun l k => Nat.le_trans (cares_le _) (by simp; omega)
 unfold M22.m
 simp only [m29 hi hs,bindO]
 by_cases hc : chk i s = 0
 · have hb : (chk i s != 0) = false := by simp [hc]
   simp only [hb,cond_false,hc,bne_self_eq_false,ne_eq,not_true,if_false]
   unfold M36.m
   simp only [bindO]
   have k0 := iter_scan (step := M22.i0_s0) (fun k (_ : Unit) => ⟨(i.length : Int),(k : Int),(cares (i.take k) : Int),i,s⟩) i (fun _ _ => .inl ()) (fun _ => ⟨(cares i : Int),i,s⟩) (fun _ _ => True) (fun k hk _ _ => by
     have e1 : ((k : Int) < (i.length : Int)) := by omega
     have := c1 i k
     have ew : IntKind.i64.wrap ((cares (i.take k) : Int) + 1) = ((cares (i.take k) + 1 : Nat) : Int) := by rw [w64 (by omega) (by omega)]; omega
     unfold M22.i0_s0 M22.sb0
     simp only [e1,inR_nat hk,getD_at hk,suc (show k < 9000000000000000000 by omega),decide_true,cond_true,cares_snoc i k hk,ew]
     cases (i[k] != 2) <;> simp [bindO]) (fun _ _ _ _ _ _ => trivial) (fun _ _ => by unfold M22.i0_s0; simp) () trivial
   rw [scan_unit] at k0
   have k0 : iter M22.i0_s0 ⟨(i.length : Int),0,0,i,s⟩ = _ := k0
   have k1 := iter_scan (step := M22.i0_s1) (fun k (_ : Unit) => ⟨(s.length : Int),(k : Int),((cares i + cares (s.take k) : Nat) : Int),i,s⟩) s (fun _ _ => .inl ()) (fun _ => ⟨((cares i + cares s : Nat) : Int),i,s⟩) (fun _ _ => True) (fun k hk _ _ => by
     have e1 : ((k : Int) < (s.length : Int)) := by omega
     have := c1 s k
     have := cares_le i
     have ew : IntKind.i64.wrap (((cares i + cares (s.take k) : Nat) : Int) + 1) = ((cares i + (cares (s.take k) + 1) : Nat) : Int) := by rw [w64 (by omega) (by omega)]; omega
     unfold M22.i0_s1 M22.sb0
     simp only [e1,inR_nat hk,getD_at hk,suc (show k < 9000000000000000000 by omega),decide_true,cond_true,cares_snoc s k hk,ew]
     cases (s[k] != 2) <;> simp [bindO]) (fun _ _ _ _ _ _ => trivial) (fun _ _ => by unfold M22.i0_s1; simp) () trivial
   rw [scan_unit] at k1
   have k1 : iter M22.i0_s1 ⟨(s.length : Int),0,(cares i : Int),i,s⟩ = _ := k1
   unfold M22.s0
   simp only [k0,k1,bindO]
 · have hb : (chk i s != 0) = true := by simpa using hc
   simp only [hb,cond_true,hc,ne_eq,not_false_eq_true,if_true]
def outP (n : Nat) (p : Int) : Bool := decide (p < 0) || decide (p ≥ (n : Int))
theorem m43 {p : Int} {i s : List Int} (hi : i.length ≤ 1000000) (hs : s.length ≤ 1000000) : M43.m ⟨p,i,s⟩ = some (outP (i.length + s.length) p,i,s) := by
 have ew : IntKind.i64.wrap ((i.length : Int) + (s.length : Int)) = ((i.length + s.length : Nat) : Int) := by rw [w64 (by omega) (by omega)]; omega
 unfold M43.m outP
 rw [ew]
 by_cases h : p < 0 <;> simp [h]
theorem m42 {l i s : List Int} (hl : l.length ≤ 1000000) (hi : i.length ≤ 1000000) (hs : s.length ≤ 1000000) : M42.m ⟨l,i,s⟩ = some (l.any (outP (i.length + s.length)),i,s) := by
 have key : (l.any (outP (i.length + s.length)) = true ∧ ∃ r : Int,0 ≤ r ∧ M51.m ⟨l,i,s⟩ = some (r,i,s)) ∨ (l.any (outP (i.length + s.length)) = false ∧ M51.m ⟨l,i,s⟩ = some (-1,i,s)) := by
   have h := iter_any (step := M51.s0) (fun k => ⟨l,(l.length : Int),(k : Int),i,s⟩) l (outP (i.length + s.length)) (fun k => .inr ⟨(k : Int),i,s⟩) (y := .inl ⟨i,s⟩) (fun k hk => by
     have e1 : ((k : Int) < (l.length : Int)) := by omega
     unfold M51.s0
     simp only [e1,inR_nat hk,getD_at hk,m43 hi hs,suc (show k < 9000000000000000000 by omega),decide_true,cond_true,bindO]
     cases outP (i.length + s.length) l[k] <;> rfl) (by unfold M51.s0; simp)
   unfold M51.m
   rcases h with ⟨h1,t,h2⟩ | ⟨h1,h2⟩
   · have h2 : iter M51.s0 ⟨l,(l.length : Int),0,i,s⟩ = _ := h2
     exact .inl ⟨h1,(t : Int),by omega,by simp only [h2,bindO,sumC]⟩
   · have h2 : iter M51.s0 ⟨l,(l.length : Int),0,i,s⟩ = _ := h2
     exact .inr ⟨h1,by simp only [h2,bindO,sumC]⟩
 unfold M42.m
 rcases key with ⟨h1,r,h0,h2⟩ | ⟨h1,h2⟩
 · simp only [h2,bindO,h1,ge_iff_le,h0,decide_true]
 · simp only [h2,bindO,h1]; rfl
def rst (n : Nat) (a : List Int × List Int) (p : Int) : List Int × List Int := if p < (n : Int) then (a.1.set p.toNat 2,a.2) else (a.1,a.2.set (p - (n : Int)).toNat 2)
theorem rst_len (n : Nat) (a : List Int × List Int) (p : Int) : (rst n a p).1.length = a.1.length ∧ (rst n a p).2.length = a.2.length := by
 unfold rst; split <;> simp
theorem rfold_len (n : Nat) : ∀ (l : List Int) (a : List Int × List Int),(l.foldl (rst n) a).1.length = a.1.length ∧ (l.foldl (rst n) a).2.length = a.2.length
 | [],a => ⟨rfl,rfl⟩
 | p :: l,a => by
   rw [List.foldl_cons]
   have h1 := rfold_len n l (rst n a p)
   have h2 := rst_len n a p
   exact ⟨h1.1.trans h2.1,h1.2.trans h2.2⟩
def rlx (i s l : List Int) : List Int × List Int := l.foldl (rst i.length) (i,s)
theorem in_of {n : Nat} {p : Int} (h : outP n p = false) : 0 ≤ p ∧ p < (n : Int) := by
 unfold outP at h
 simp only [Bool.or_eq_false_iff,decide_eq_false_iff_not] at h
 omega
theorem m23 {i s l : List Int} (hi : i.length ≤ 1000000) (hs : s.length ≤ 1000000) (hl : l.length ≤ 1000000) :
   M23.m ⟨i,s,l⟩ = some (if chk i s ≠ 0 then ([],[],chk i s) else if l.any (outP (i.length + s.length)) = true then ([],[],1) else ((rlx i s l).1,(rlx i s l).2,0)) := by
 unfold M23.m
 simp only [m29 hi hs,m42 hl hi hs,m34 hi hs,bindO]
 by_cases hc : chk i s = 0
 · have hb : (chk i s != 0) = false := by simp [hc]
   simp only [hb,cond_false,hc,bne_self_eq_false,ne_eq,not_true,if_false]
   cases ha : l.any (outP (i.length + s.length)) with
   | true => rfl
   | false =>
     have hin := List.any_eq_false.1 ha
     simp only [cond_false,Bool.false_eq_true,if_false]
     have k0 := iter_scan (step := M23.s0) (fun k (a : List Int × List Int) => ⟨l,(l.length : Int),(k : Int),i,s,a.1,a.2,0,i.length,i.length,0,s.length,s.length⟩) l (fun a p => .inl (rst i.length a p)) (fun a => ⟨i,s,a.1,a.2,0,i.length,i.length,0,s.length,s.length⟩)
       (fun _ a => a.1.length = i.length ∧ a.2.length = s.length) (fun k hk a h => by
         obtain ⟨g1,g2⟩ := h
         have e1 : ((k : Int) < (l.length : Int)) := by omega
         obtain ⟨p1,p2⟩ := in_of (by simpa using hin l[k] (List.getElem_mem hk))
         unfold M23.s0 rst
         simp only [e1,inR_nat hk,getD_at hk,suc (show k < 9000000000000000000 by omega),decide_true,cond_true,Nat.zero_add]
         by_cases hp : l[k] < (i.length : Int)
         · have r1 : inR l[k] i.length = true := by simp [inR]; omega
           have r2 : l[k].toNat < a.1.length := by omega
           simp only [hp,r1,r2,decide_true,cond_true,if_true]
         · have ew : IntKind.i64.wrap (l[k] - (i.length : Int)) = l[k] - (i.length : Int) := w64 (by omega) (by omega)
           have r1 : inR (l[k] - (i.length : Int)) s.length = true := by simp [inR]; omega
           have r2 : (l[k] - (i.length : Int)).toNat < a.2.length := by omega
           simp only [hp,ew,r1,r2,decide_true,decide_false,cond_true,cond_false,if_false]) (fun k hk a a' h hF => by
         have hF : rst i.length a l[k] = a' := by injection hF
         rw [← hF]
         exact ⟨(rst_len _ _ _).1.trans h.1,(rst_len _ _ _).2.trans h.2⟩) (fun a h => by unfold M23.s0; simp) (i,s) ⟨rfl,rfl⟩
     rw [scan_fold] at k0
     have k0 : iter M23.s0 ⟨l,(l.length : Int),0,i,s,i,s,0,i.length,i.length,0,s.length,s.length⟩ = some ⟨i,s,(rlx i s l).1,(rlx i s l).2,0,i.length,i.length,0,s.length,s.length⟩ := k0
     obtain ⟨z1,z2⟩ : (rlx i s l).1.length = i.length ∧ (rlx i s l).2.length = s.length := rfold_len i.length l (i,s)
     have q1 : leB (0 + i.length) (rlx i s l).1.length = true := by rw [z1]; simp [leB]
     have q2 : leB (0 + s.length) (rlx i s l).2.length = true := by rw [z2]; simp [leB]
     simp only [k0,q1,q2,Bool.and_self,cond_true,List.drop_zero]
     rw [List.take_of_length_le (by omega),List.take_of_length_le (by omega)]
 · have hb : (chk i s != 0) = true := by simpa using hc
   simp only [hb,cond_true,hc,ne_eq,not_false_eq_true,if_true]
end Cu
end Go.Proofs.Ytnmlmdlhhphcoaa
namespace Go.Proofs.Ytnmlmdlhhphcoaa
open Go.Abs
namespace Cu
def pe (a b : List Int) : Int := if bad a = true ∨ bad b = true then 1 else 0
theorem bad_app (l : List Int) (x : Int) : bad (l ++ [x]) = (bad l || decide (x > 2)) := by
 unfold bad
 rw [List.any_append]
 simp
theorem m28 {a b : List Int} (ha : a.length ≤ 1000000) (hb : b.length ≤ 1000000) : M28.m ⟨a,b⟩ = some (a,b,pe a b) := by
 have rm : ∀ (q : List Int) (i : Nat),i < q.length → q.length ≤ 1000000 → (eqN 0 0 && eqN (q.take i).length i && roomB (i + 1) 1) = true := fun q i hi hq => by
   have e1 : eqN (q.take i).length i = true := by simp [eqN]; omega
   have e2 : roomB (i + 1) 1 = true := by simp [roomB,leB]; omega
   rw [e1,e2]; rfl
 have k0 := iter_scan (step := M28.s0) (fun i (_ : Unit) => ⟨if bad (a.take i) = true then 1 else 0,(i : Int),a,b,0,i,a.take i⟩) a (fun _ _ => .inl ()) (fun _ => ⟨if bad a = true then 1 else 0,a,b,0,a.length,a⟩) (fun _ _ => True) (fun i hi _ _ => by
   have e1 : ((i : Int) < (a.length : Int)) := by omega
   unfold M28.s0
   simp only [e1,inR_nat hi,getD_at hi,rm a i hi ha,suc (show i < 9000000000000000000 by omega),decide_true,cond_true,bad_app,List.take_succ_eq_append_getElem hi]
   cases bad (a.take i) <;> cases decide (a[i] > 2) <;> rfl) (fun _ _ _ _ _ _ => trivial) (fun _ _ => by unfold M28.s0; simp) () trivial
 have k1 := iter_scan (step := M28.s1) (fun i (_ : Unit) => ⟨if (bad a || bad (b.take i)) = true then 1 else 0,(i : Int),a,b,0,a.length,0,i,a,b.take i⟩) b (fun _ _ => .inl ()) (fun _ => ⟨if (bad a || bad b) = true then 1 else 0,a,b,0,a.length,0,b.length,a,b⟩) (fun _ _ => True) (fun i hi _ _ => by
   have e1 : ((i : Int) < (b.length : Int)) := by omega
   unfold M28.s1
   simp only [e1,inR_nat hi,getD_at hi,rm b i hi hb,suc (show i < 9000000000000000000 by omega),decide_true,cond_true,bad_app,List.take_succ_eq_append_getElem hi]
   cases bad a <;> cases bad (b.take i) <;> cases decide (b[i] > 2) <;> rfl) (fun _ _ _ _ _ _ => trivial) (fun _ _ => by unfold M28.s1; simp) () trivial
 rw [scan_unit] at k0 k1
 have k0 : iter M28.s0 ⟨0,0,a,b,0,0,[]⟩ = _ := k0
 have e0 : (if (bad a || bad (b.take 0)) = true then (1 : Int) else 0) = if bad a = true then 1 else 0 := by
   have : bad (b.take 0) = false := rfl
   rw [this,Bool.or_false]
 simp only [e0] at k1
 have k1 : iter M28.s1 ⟨if bad a = true then 1 else 0,0,a,b,0,a.length,0,0,a,[]⟩ = _ := k1
 unfold M28.m
 have q1 : leB (0 + a.length) a.length = true := by simp [leB]
 have q2 : leB (0 + b.length) b.length = true := by simp [leB]
 simp only [k0,k1,bindO,q1,q2,Bool.and_self,cond_true,List.drop_zero,List.take_length]
 unfold pe
 simp
theorem pe_chk {a b : List Int} (h : a.length + b.length ≤ 40) : chk a b = pe a b := by
 unfold chk pe
 rw [if_neg (by omega)]
theorem m26_bad {i s : List Int} (hi : i.length ≤ 1000000) (hs : s.length ≤ 1000000) (h : chk i s ≠ 0) : M26.m ⟨i,s⟩ = some [] := by
 have hb : (chk i s == 0) = false := by simpa using h
 unfold M26.m
 simp only [m29 hi hs,bindO,hb,cond_false]
theorem m30_bad {i s : List Int} (hi : i.length ≤ 1000000) (hs : s.length ≤ 1000000) (h : chk i s ≠ 0) : M30.m ⟨i,s⟩ = some ([],chk i s) := by
 have hb : (chk i s != 0) = true := by simpa using h
 unfold M30.m
 simp only [m29 hi hs,bindO,hb,cond_true]
theorem s0_run {w e n way : Int} {l a b : List Int} (hl : l.length ≤ 1000000) : iter M7.s0 ⟨w,l,e,n,way,e,0,a,b⟩ = some ⟨w,l,e,n,way,if e ≠ 0 then e else if (l.any fun p => decide (p < 0) || decide (p ≥ n)) = true then 1 else 0,a,b⟩ := by
 have key := iter_scan (step := M7.s0) (fun i (_ : Unit) => ⟨w,l,e,n,way,if e ≠ 0 then e else if ((l.take i).any fun p => decide (p < 0) || decide (p ≥ n)) = true then 1 else 0,(i : Int),a,b⟩) l (fun _ _ => .inl ())
   (fun _ => ⟨w,l,e,n,way,if e ≠ 0 then e else if (l.any fun p => decide (p < 0) || decide (p ≥ n)) = true then 1 else 0,a,b⟩) (fun _ _ => True) (fun i hi _ _ => by
   have e1 : ((i : Int) < (l.length : Int)) := by omega
   have hs : ((l.take (i + 1)).any fun p => decide (p < 0) || decide (p ≥ n)) = (((l.take i).any fun p => decide (p < 0) || decide (p ≥ n)) || (decide (l[i] < 0) || decide (l[i] ≥ n))) := by
     rw [List.take_succ_eq_append_getElem hi,List.any_append]
     simp
   unfold M7.s0
   simp only [e1,inR_nat hi,getD_at hi,suc (show i < 9000000000000000000 by omega),decide_true,cond_true,Bool.true_or,hs]
   by_cases he : e = 0
   · simp only [he,ne_eq,not_true,if_false]
     cases ((l.take i).any fun p => decide (p < 0) || decide (p ≥ n)) <;> cases decide (l[i] < 0) <;> cases decide (l[i] ≥ n) <;> rfl
   · have hb : (e == 0) = false := by simpa using he
     simp only [he,ne_eq,not_false_eq_true,if_true,hb,cond_false]) (fun _ _ _ _ _ _ => trivial) (fun _ _ => by unfold M7.s0; simp) () trivial
 rw [scan_unit] at key
 have e0 : (if e ≠ 0 then e else if ((l.take 0).any fun p => decide (p < 0) || decide (p ≥ n)) = true then (1 : Int) else 0) = e := by
   by_cases he : e = 0 <;> simp [he]
 simp only [e0] at key
 exact key
theorem run7 {a0 a1 b0 b1 l : List Int} {w : Int} (l1 : a0.length ≤ 140737488351232) (l2 : a1.length ≤ 140737488351232) (l3 : b0.length ≤ 140737488351232) (l4 : b1.length ≤ 140737488351232)
   (p1 : ∀ x ∈ a0,0 ≤ x) (p2 : ∀ x ∈ a1,0 ≤ x) (hw0 : 0 ≤ w) : M7.m ⟨a0,a1,b0,b1,w,l⟩ = some true := by
 have ea : IntKind.i64.wrap ((a0.length : Int) + (a1.length : Int)) = ((a0.length + a1.length : Nat) : Int) := by rw [w64 (by omega) (by omega)]; omega
 have eb : IntKind.i64.wrap ((b0.length : Int) + (b1.length : Int)) = ((b0.length + b1.length : Nat) : Int) := by rw [w64 (by omega) (by omega)]; omega
 unfold M7.m
 simp only [ea,eb]
 by_cases ha : a0.length + a1.length > 40
 · have : (((a0.length + a1.length : Nat) : Int) > 40) := by omega
   simp only [this,decide_true,cond_true,lives10,bindO]
 have na : ¬ (((a0.length + a1.length : Nat) : Int) > 40) := by omega
 by_cases hb : b0.length + b1.length > 40
 · have : (((b0.length + b1.length : Nat) : Int) > 40) := by omega
   simp only [na,this,decide_true,decide_false,cond_true,cond_false,lives10,bindO]
 have nb' : ¬ (((b0.length + b1.length : Nat) : Int) > 40) := by omega
 by_cases hl : l.length > 20
 · have : ((l.length : Int) > 20) := by omega
   simp only [na,nb',this,decide_true,decide_false,cond_true,cond_false,lives10,bindO]
 have nl : ¬ ((l.length : Int) > 20) := by omega
 have h1 : a0.length ≤ 1000000 := by omega
 have h2 : a1.length ≤ 1000000 := by omega
 have h3 : b0.length ≤ 1000000 := by omega
 have h4 : b1.length ≤ 1000000 := by omega
 have hl' : l.length ≤ 1000000 := by omega
 have hca := pe_chk (a := a0) (b := a1) (by omega)
 have hcb := pe_chk (a := b0) (b := b1) (by omega)
 simp only [na,nb',nl,decide_false,cond_false,m28 h1 h2,m28 h3 h4,m13 h1 h2 h3 h4,m29 h1 h2,m16 h1 h2 h3 h4,m17 h1 h2 h3 h4,m18 h1 h2 h3 h4,bindO]
 have hboth : (bif bif (bif pe a0 a1 == 0 then pe b0 b1 else pe a0 a1) == 0 then bif (a0.length : Int) != (b0.length : Int) then true else (a1.length : Int) != (b1.length : Int) else false then 8 else bif pe a0 a1 == 0 then pe b0 b1 else pe a0 a1) = chk2 a0 a1 b0 b1 := by
   unfold chk2
   rw [hca,hcb]
   by_cases e0 : pe a0 a1 = 0
   · by_cases f0 : pe b0 b1 = 0
     · simp only [e0,f0,beq_self_eq_true,cond_true,ne_eq,not_true,if_false]
       by_cases q1 : a0.length = b0.length
       · by_cases q2 : a1.length = b1.length
         · simp [q1,q2]
         · have : ((a1.length : Int) != (b1.length : Int)) = true := by simp; omega
           simp [q1,q2,this]
       · have : ((a0.length : Int) != (b0.length : Int)) = true := by simp; omega
         simp [q1,this]
     · have : (pe b0 b1 == 0) = false := by simpa using f0
       simp only [e0,f0,this,beq_self_eq_true,cond_true,cond_false,ne_eq,not_true,not_false_eq_true,if_false,if_true]
   · have : (pe a0 a1 == 0) = false := by simpa using e0
     simp only [e0,this,cond_false,ne_eq,not_false_eq_true,if_true]
 simp only [hboth,hca,bne_self_eq_false,cond_false]
 -- the first tests
 have hg : ∀ g : List Int × List Int × Int,g = (if chk2 a0 a1 b0 b1 ≠ 0 then (([] : List Int),([] : List Int),chk2 a0 a1 b0 b1) else if comp a0 a1 b0 b1 = true then (List.zipWith mn a0 b0,List.zipWith mn a1 b1,0) else ([],[],9)) →
     (bif !bif g.2.2 == chk2 a0 a1 b0 b1 then true else bif chk2 a0 a1 b0 b1 == 0 then g.2.2 == 9 else false then true else bif g.2.2 != 0 then decide (IntKind.i64.wrap ((g.1.length : Int) + (g.2.1.length : Int)) > 0) else false) = false := fun g hg => by
   subst hg
   by_cases hc : chk2 a0 a1 b0 b1 = 0
   · simp only [hc,ne_eq,not_true,if_false]
     cases comp a0 a1 b0 b1 <;> rfl
   · simp only [hc,ne_eq,not_false_eq_true,if_true,beq_self_eq_true,cond_true,Bool.not_true,cond_false,List.length_nil]
     cases (chk2 a0 a1 b0 b1 != 0) <;> rfl
 generalize hgg : (if chk2 a0 a1 b0 b1 ≠ 0 then (([] : List Int),([] : List Int),chk2 a0 a1 b0 b1) else if comp a0 a1 b0 b1 = true then (List.zipWith mn a0 b0,List.zipWith mn a1 b1,0) else ([],[],9)) = g
 have hz := hg g hgg.symm
 simp only [hz,Bool.not_false,Bool.true_and,cond_false]
 have hcs : chk2 a0 a1 b0 b1 ≠ 0 → comp a0 a1 b0 b1 = false ∧ covs a0 a1 b0 b1 = false := fun h => by
   unfold comp covs
   simp [h]
 have hk : ∀ (X : Option Bool),(bindO (bif chk2 a0 a1 b0 b1 != 0 then some (comp a0 a1 b0 b1) else some false) fun y_4 =>
     bindO (bif chk2 a0 a1 b0 b1 != 0 && !y_4 then some (covs a0 a1 b0 b1) else some false) fun y_5 =>
     bindO (bif chk2 a0 a1 b0 b1 != 0 && !bif y_4 then true else y_5 then some (if chk2 a0 a1 b0 b1 ≠ 0 then (-1 : Int) else ((cnt fd a0 b0 + cnt fd a1 b1 : Nat) : Int)) else some (Int.ofNat 0)) fun y_6 =>
     bif bif chk2 a0 a1 b0 b1 != 0 then bif bif y_4 then true else y_5 then true else y_6 != -1 else false then some false else X) = X := fun X => by
   by_cases hc : chk2 a0 a1 b0 b1 = 0
   · simp [hc,bindO]
   · obtain ⟨g1,g2⟩ := hcs hc
     have hb : (chk2 a0 a1 b0 b1 != 0) = true := by simpa using hc
     simp only [hb,hc,g1,g2,bindO,cond_true,ne_eq,not_false_eq_true,if_true,Bool.not_false,Bool.and_self,cond_false,bne_self_eq_false]
 refine (hk _).trans ?_
 rw [s0_run hl']
 simp only [ea]
 have hn : ∀ p : Int,(decide (p < 0) || decide (p ≥ ((a0.length + a1.length : Nat) : Int))) = outP (a0.length + a1.length) p := fun p => rfl
 simp only [hn,m19 h1 h2,m23 h1 h2 hl',hca,m25 h1 h2 h1 h2,and_self,decide_true]
 by_cases he : pe a0 a1 = 0
 · have hb : (pe a0 a1 == 0) = true := by simp [he]
   have hg7 : ∀ g : List Int × List Int × Int,g = (if w = 0 ∨ w = 1 ∨ w = 2 then flr a0 a1 w else ([],[],1)) →
       g.2.2 = (bif decide (w > 2) then 1 else 0) ∧ (bif g.2.2 != 0 then decide (IntKind.i64.wrap ((g.1.length : Int) + (g.2.1.length : Int)) > 0) else false) = false := fun g hg => by
     subst hg
     by_cases hw : w > 2
     · rw [if_neg (by omega)]; exact ⟨by simp [hw],rfl⟩
     · rw [if_pos (by omega)]; exact ⟨by simp [hw,flr],rfl⟩
   have hg8 : ∀ g : List Int × List Int × Int,g = (if l.any (outP (a0.length + a1.length)) = true then ([],[],1) else ((rlx a0 a1 l).1,(rlx a0 a1 l).2,0)) →
       g.2.2 = (if l.any (outP (a0.length + a1.length)) = true then 1 else 0) ∧ (bif g.2.2 != 0 then decide (IntKind.i64.wrap ((g.1.length : Int) + (g.2.1.length : Int)) > 0) else false) = false := fun g hg => by
     subst hg
     cases l.any (outP (a0.length + a1.length)) <;> exact ⟨rfl,rfl⟩
   simp only [he,ne_eq,not_true,if_false,beq_self_eq_true,cond_true]
   generalize hg7' : (if w = 0 ∨ w = 1 ∨ w = 2 then flr a0 a1 w else ([],[],1)) = g7
   generalize hg8' : (if l.any (outP (a0.length + a1.length)) = true then (([] : List Int),([] : List Int),(1 : Int)) else ((rlx a0 a1 l).1,(rlx a0 a1 l).2,0)) = g8
   obtain ⟨x1,x2⟩ := hg7 g7 hg7'.symm
   obtain ⟨x3,x4⟩ := hg8 g8 hg8'.symm
   simp only [x2,x4]
   simp only [x1,x3,bne_self_eq_false,cond_false,Bool.not_false,cond_true,Bool.not_true,lives10,bindO]
 · have hb : (pe a0 a1 == 0) = false := by simpa using he
   have hb' : (pe a0 a1 != 0) = true := by simpa using he
   have hc : chk a0 a1 ≠ 0 := by rw [hca]; exact he
   simp only [he,hb,hb',ne_eq,not_false_eq_true,if_true,cond_false,bne_self_eq_false,cond_true,List.length_nil,m30_bad h1 h2 hc,m26_bad h1 h2 hc,m22 h1 h2,hca,beq_self_eq_true,lives10]
   rfl
end Cu
end Go.Proofs.Ytnmlmdlhhphcoaa
