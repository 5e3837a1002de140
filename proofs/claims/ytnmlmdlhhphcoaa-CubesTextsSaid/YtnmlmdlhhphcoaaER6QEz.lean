/-
  What the proof stands on.
-/
import Derived.Test.YtnmlmdlhhphcoaaER6QEx
import Derived.Test.YtnmlmdlhhphcoaaER6QEy
set_option linter.all false
namespace Go.Proofs.Ytnmlmdlhhphcoaa
open Go.Abs
namespace Cu
theorem w64 {x : Int} (h : -9223372036854775808 ≤ x) (h' : x ≤ 9223372036854775807) : IntKind.i64.wrap x = x := by
 simp [IntKind.wrap,IntKind.signed,IntKind.bits]; omega
theorem inR_nat {i n : Nat} (h : i < n) : inR (i : Int) n = true := by simp [inR]; omega
theorem getD_at {α : Type} {l : List α} {i : Nat} (h : i < l.length) (d : α) : l[(i : Int).toNat]?.getD d = l[i] := by simp [h]
theorem suc {i : Nat} (h : i < 9000000000000000000) : IntKind.i64.wrap ((i : Int) + 1) = ((i + 1 : Nat) : Int) := by rw [w64 (by omega) (by omega)]; omega
def scan {A α Y : Type} (F : A → α → A ⊕ Y) (E : A → Y) : A → List α → Y
 | a,[] => E a
 | a,x :: l => match F a x with | .inl a' => scan F E a' l | .inr y => y
theorem iter_scan {X Y A α : Type} {step : X → Option (X ⊕ Y)} (S : Nat → A → X) (l : List α) (F : A → α → A ⊕ Y) (E : A → Y) (I : Nat → A → Prop)
   (h : ∀ i (hi : i < l.length) a,I i a → step (S i a) = some (match F a l[i] with | .inl a' => .inl (S (i + 1) a') | .inr y => .inr y))
   (hI : ∀ i (hi : i < l.length) a a',I i a → F a l[i] = .inl a' → I (i + 1) a')
   (he : ∀ a,I l.length a → step (S l.length a) = some (.inr (E a))) (a : A) (ha : I 0 a) : iter step (S 0 a) = some (scan F E a l) := by
 have : ∀ j i a,i + j = l.length → I i a → iter step (S i a) = some (scan F E a (l.drop i)) := by
   intro j
   induction j with
   | zero =>
     intro i a hi ha
     have e : i = l.length := by omega
     subst e
     rw [iter_eq,he a ha,List.drop_length]
     rfl
   | succ j ih =>
     intro i a hi ha
     have hil : i < l.length := by omega
     rw [iter_eq,h i hil a ha,List.drop_eq_getElem_cons hil]
     unfold scan
     cases hF : F a l[i] with
     | inl a' => exact ih (i + 1) a' (by omega) (hI i hil a a' ha hF)
     | inr y => rfl
 have h := this l.length 0 a (by omega) ha
 rwa [List.drop_zero] at h
theorem iter_any {X Y α : Type} {step : X → Option (X ⊕ Y)} (S : Nat → X) (l : List α) (P : α → Bool) (Z : Nat → Y) {y : Y}
   (h : ∀ i (hi : i < l.length),step (S i) = some (if P l[i] = true then .inr (Z i) else .inl (S (i + 1)))) (he : step (S l.length) = some (.inr y)) :
   (l.any P = true ∧ ∃ i : Nat,iter step (S 0) = some (Z i)) ∨ (l.any P = false ∧ iter step (S 0) = some y) := by
 have : ∀ j i,i + j = l.length → ((l.drop i).any P = true ∧ ∃ t : Nat,iter step (S i) = some (Z t)) ∨ ((l.drop i).any P = false ∧ iter step (S i) = some y) := by
   intro j
   induction j with
   | zero =>
     intro i hi
     have e : i = l.length := by omega
     subst e
     exact .inr ⟨by rw [List.drop_length]; rfl,by rw [iter_eq,he]⟩
   | succ j ih =>
     intro i hi
     have hil : i < l.length := by omega
     rw [List.drop_eq_getElem_cons hil,List.any_cons,iter_eq,h i hil]
     cases hP : P l[i] with
     | true => exact .inl ⟨by simp,i,rfl⟩
     | false =>
       simp only [Bool.false_eq_true,if_false,Bool.false_or]
       exact ih (i + 1) (by omega)
 have h := this l.length 0 (by omega)
 rwa [List.drop_zero] at h
def vals (l : List Int) : List Int := l.map (fun v => Int.tmod v 3)
theorem m32 {l : List Int} (hl : l.length ≤ 1000000) : M32.m ⟨l⟩ = some (vals l) := by
 have key := iter_scan (step := M32.s0) (fun i (xs : List Int) => ⟨l,0,i,(i : Int),xs⟩) l (fun xs v => .inl (xs ++ [Int.tmod v 3])) (fun xs => ⟨0,xs.length,xs⟩) (fun i xs => xs.length = i) (fun i hi xs hx => by
     have e1 : ((i : Int) < (l.length : Int)) := by omega
     have e2 : (eqN 0 0 && eqN xs.length i && roomB (i + 1) 1) = true := by
       have h1 : eqN xs.length i = true := by simp [eqN,hx]
       have h2 : roomB (i + 1) 1 = true := by simp [roomB,leB]; omega
       rw [h1,h2]; rfl
     unfold M32.s0
     simp only [e1,inR_nat hi,getD_at hi,e2,suc (show i < 9000000000000000000 by omega),decide_true,cond_true]) (fun i hi xs xs' hx hF => by
     cases hF
     show (xs ++ [_]).length = i + 1
     simp [show xs.length = i from hx]) (fun xs hx => by
     have hx : xs.length = l.length := hx
     unfold M32.s0
     simp [hx]) [] rfl
 have key : iter M32.s0 ⟨l,0,0,0,[]⟩ = _ := key
 have hsc : ∀ (l xs : List Int),scan (fun (xs : List Int) (v : Int) => (.inl (xs ++ [Int.tmod v 3]) : List Int ⊕ M32.q0X)) (fun xs => ⟨0,xs.length,xs⟩) xs l = ⟨0,(xs ++ vals l).length,xs ++ vals l⟩ := by
   intro l
   induction l with
   | nil => intro xs; simp [scan,vals]
   | cons v l ih =>
     intro xs
     unfold scan
     refine (ih _).trans ?_
     simp [vals]
 rw [hsc,List.nil_append] at key
 unfold M32.m
 have e : leB (0 + (vals l).length) (vals l).length = true := by simp [leB]
 simp only [key,bindO,e,Bool.and_self,cond_true,List.drop_zero,List.take_length]
theorem m11 {i s : List Int} (hi : i.length ≤ 1000000) (hs : s.length ≤ 1000000) : M11.m ⟨i,s⟩ = some (vals i,vals s) := by
 unfold M11.m
 simp only [m32 hi,m32 hs,bindO]
def bad (l : List Int) : Bool := l.any fun v => decide (v > 2)
def chk (i s : List Int) : Int := if i.length + s.length > 16384 then 3 else if bad i = true ∨ bad s = true then 1 else 0
theorem m29 {i s : List Int} (hi : i.length ≤ 1000000) (hs : s.length ≤ 1000000) : M29.m ⟨i,s⟩ = some (chk i s) := by
 have k0 := iter_any (step := M29.i0_s0) (fun k => ⟨(i.length : Int),(k : Int),0,i,s⟩) i (fun v => decide (v > 2)) (fun _ => .inr ⟨1,i,s⟩) (y := .inl ⟨0,i,s⟩) (fun k hk => by
   have e1 : ((k : Int) < (i.length : Int)) := by omega
   unfold M29.i0_s0 M29.sb0
   simp only [e1,inR_nat hk,getD_at hk,suc (show k < 9000000000000000000 by omega),decide_true,cond_true,bindO]
   cases decide (i[k] > 2) <;> rfl) (by unfold M29.i0_s0; simp)
 have k1 := iter_any (step := M29.i0_s1) (fun k => ⟨(s.length : Int),(k : Int),0,i,s⟩) s (fun v => decide (v > 2)) (fun _ => .inr ⟨1,i,s⟩) (y := .inl ⟨0,i,s⟩) (fun k hk => by
   have e1 : ((k : Int) < (s.length : Int)) := by omega
   unfold M29.i0_s1 M29.sb0
   simp only [e1,inR_nat hk,getD_at hk,suc (show k < 9000000000000000000 by omega),decide_true,cond_true,bindO]
   cases decide (s[k] > 2) <;> rfl) (by unfold M29.i0_s1; simp)
 have ew : IntKind.i64.wrap ((i.length : Int) + (s.length : Int)) = ((i.length + s.length : Nat) : Int) := by rw [w64 (by omega) (by omega)]; omega
 unfold M29.m chk M36.m
 simp only [ew,bindO]
 by_cases hg : i.length + s.length > 16384
 · have : (((i.length + s.length : Nat) : Int) > 16384) := by omega
   simp only [this,decide_true,cond_true,hg,if_true]
 · have : ¬ (((i.length + s.length : Nat) : Int) > 16384) := by omega
   simp only [this,decide_false,cond_false,hg,if_false]
   unfold M29.s0
   rcases k0 with ⟨h1,t,h2⟩ | ⟨h1,h2⟩
   · have h2 : iter M29.i0_s0 ⟨(i.length : Int),0,0,i,s⟩ = _ := h2
     have hb : bad i = true := h1
     simp only [h2,bindO,sumC,hb,true_or,if_true]
   · have h2 : iter M29.i0_s0 ⟨(i.length : Int),0,0,i,s⟩ = _ := h2
     have hb : bad i = false := h1
     rcases k1 with ⟨h3,t,h4⟩ | ⟨h3,h4⟩
     · have h4 : iter M29.i0_s1 ⟨(s.length : Int),0,0,i,s⟩ = _ := h4
       have hb2 : bad s = true := h3
       simp only [h2,h4,bindO,sumC,hb,hb2,or_true,if_true]
     · have h4 : iter M29.i0_s1 ⟨(s.length : Int),0,0,i,s⟩ = _ := h4
       have hb2 : bad s = false := h3
       simp only [h2,h4,bindO,sumC,hb,hb2]
       rfl
end Cu
end Go.Proofs.Ytnmlmdlhhphcoaa
namespace Go.Proofs.Ytnmlmdlhhphcoaa
open Go.Abs
namespace Cu
def chk2 (ai as_ bi bs : List Int) : Int := if chk ai as_ ≠ 0 then chk ai as_ else if chk bi bs ≠ 0 then chk bi bs else if ai.length ≠ bi.length ∨ as_.length ≠ bs.length then 8 else 0
end Cu
end Go.Proofs.Ytnmlmdlhhphcoaa
namespace Go.Proofs.Ytnmlmdlhhphcoaa
open Go.Abs
namespace Cu
def cnt (f : Int → Int → Bool) (xs ys : List Int) : Nat := (xs.zip ys).countP fun p => f p.1 p.2
def fd (x y : Int) : Bool := IntKind.u8.wrap (x + y) == 1
def comp (ai as_ bi bs : List Int) : Bool := decide (chk2 ai as_ bi bs = 0 ∧ cnt fd ai bi + cnt fd as_ bs = 0)
end Cu
end Go.Proofs.Ytnmlmdlhhphcoaa
namespace Go.Proofs.Ytnmlmdlhhphcoaa
open Go.Abs
namespace Cu
def mn (x y : Int) : Int := if y < x then y else x
def upd (xs l : List Int) (i : Nat) : List Int := (List.zipWith mn xs l).take i ++ xs.drop i
theorem scan_unit {Y : Type} (E : Unit → Y) : ∀ (l : List Int),scan (fun (_ : Unit) (_ : Int) => (.inl () : Unit ⊕ Y)) E () l = E ()
 | [] => rfl
 | _ :: l => by unfold scan; exact scan_unit E l
end Cu
end Go.Proofs.Ytnmlmdlhhphcoaa
namespace Go.Proofs.Ytnmlmdlhhphcoaa
open Go.Abs
namespace Cu
theorem eq_zip : ∀ {s t : List Int},s.length = t.length → (((s.zip t).any fun p => p.1 != p.2) = false ↔ s = t)
 | [],[],_ => by simp
 | [],_ :: _,h => by simp at h
 | _ :: _,[],h => by simp at h
 | x :: s,y :: t,h => by
   have ih := eq_zip (s := s) (t := t) (by simpa using h)
   rw [List.zip_cons_cons,List.any_cons,Bool.or_eq_false_iff,ih]
   simp
theorem m44 {s t : List Int} (hs : s.length ≤ 1000000) (ht : t.length ≤ 1000000) : M44.m ⟨s,t⟩ = some (decide (s = t)) := by
 unfold M44.m
 by_cases hl : s.length = t.length
 · have hb : ((s.length : Int) != (t.length : Int)) = false := by simp [hl]
   simp only [hb,cond_false]
   have hz : (s.zip t).length = s.length := by rw [List.length_zip]; omega
   have key := iter_any (step := M44.s0) (fun k => ⟨s,t,(s.length : Int),(k : Int)⟩) (s.zip t) (fun p => p.1 != p.2) (fun _ => .inr ⟨false⟩) (y := .inl ⟨⟩) (fun k hk => by
     have hks : k < s.length := by omega
     have hkt : k < t.length := by omega
     have e1 : ((k : Int) < (s.length : Int)) := by omega
     unfold M44.s0
     simp only [e1,inR_nat hks,inR_nat hkt,getD_at hks,getD_at hkt,suc (show k < 9000000000000000000 by omega),decide_true,cond_true,List.getElem_zip]
     cases (s[k] != t[k]) <;> rfl) (by unfold M44.s0; simp [hz])
   rcases key with ⟨h1,i,h2⟩ | ⟨h1,h2⟩
   · have h2 : iter M44.s0 ⟨s,t,(s.length : Int),0⟩ = _ := h2
     have hne : s ≠ t := fun e => by
       have := (eq_zip hl).2 e
       rw [this] at h1
       cases h1
     simp only [h2,bindO,sumC,hne,decide_false]
   · have h2 : iter M44.s0 ⟨s,t,(s.length : Int),0⟩ = _ := h2
     have he : s = t := (eq_zip hl).1 h1
     simp only [h2,bindO,sumC]
     simp [he]
 · have hb : ((s.length : Int) != (t.length : Int)) = true := by simp; omega
   have hne : s ≠ t := fun e => hl (by rw [e])
   simp only [hb,cond_true,hne,decide_false]
theorem m25 {ai as_ bi bs : List Int} (h1 : ai.length ≤ 1000000) (h2 : as_.length ≤ 1000000) (h3 : bi.length ≤ 1000000) (h4 : bs.length ≤ 1000000) : M25.m ⟨ai,as_,bi,bs⟩ = some (decide (ai = bi ∧ as_ = bs)) := by
 unfold M25.m
 simp only [m44 h1 h3,m44 h2 h4,bindO]
 by_cases e1 : ai = bi
 · by_cases e2 : as_ = bs
   · simp [e1,e2]
   · simp [e1,e2]
 · simp [e1]
end Cu
end Go.Proofs.Ytnmlmdlhhphcoaa
namespace Go.Proofs.Ytnmlmdlhhphcoaa
open Go.Abs
namespace Cu
end Cu
end Go.Proofs.Ytnmlmdlhhphcoaa
namespace Go.Proofs.Ytnmlmdlhhphcoaa
open Go.Abs
namespace Cu
def bigP (most : Int) (p : List Int × List Int) : Bool := bif bif decide ((p.1.length : Int) > most) then true else decide ((p.2.length : Int) > most) then true else decide (IntKind.i64.wrap ((p.1.length : Int) + (p.2.length : Int)) > most)
theorem m9 {most : Int} {l : List (List Int × List Int)} (hl : l.length ≤ 1000) : M9.m ⟨most,l⟩ = some (!(l.any (bigP most))) := by
 have key := iter_any (step := M9.s0) (fun k => ⟨most,l,(k : Int)⟩) l (bigP most) (fun _ => .inr ⟨false⟩) (y := .inl ⟨⟩) (fun k hk => by
   have e1 : ((k : Int) < (l.length : Int)) := by omega
   unfold M9.s0
   simp only [e1,inR_nat hk,getD_at hk,suc (show k < 9000000000000000000 by omega),decide_true,cond_true,Bool.true_or]
   show (bif bigP most l[k] then _ else _) = _
   cases bigP most l[k] <;> rfl) (by unfold M9.s0; simp)
 unfold M9.m
 rcases key with ⟨h1,i,h2⟩ | ⟨h1,h2⟩
 · have h2 : iter M9.s0 ⟨most,l,0⟩ = _ := h2
   simp only [h2,bindO,sumC,h1,Bool.not_true]
 · have h2 : iter M9.s0 ⟨most,l,0⟩ = _ := h2
   simp only [h2,bindO,sumC,h1,Bool.not_false]
end Cu
end Go.Proofs.Ytnmlmdlhhphcoaa
namespace Go.Proofs.Ytnmlmdlhhphcoaa
open Go.Abs
namespace Cu
def Va (x : Int) : Prop := x = 0 ∨ x = 1 ∨ x = 2
def Vs (l : List Int) : Prop := ∀ x ∈ l,Va x
theorem Vs.hd {x : Int} {l : List Int} (h : Vs (x :: l)) : Va x := h x (by simp)
theorem Vs.tl {x : Int} {l : List Int} (h : Vs (x :: l)) : Vs l := fun y hy => h y (by simp [hy])
theorem vals_Vs {l : List Int} (h : ∀ x ∈ l,0 ≤ x) : Vs (vals l) := fun x hx => by
 obtain ⟨v,hv,rfl⟩ := List.mem_map.1 hx
 have := h v hv
 show Int.tmod v 3 = 0 ∨ _ ∨ _
 rw [Int.tmod_eq_emod_of_nonneg this]
 omega
theorem chk_V {i s : List Int} (hi : Vs i) (hs : Vs s) (h : i.length + s.length ≤ 16384) : chk i s = 0 := by
 have hb : ∀ l : List Int,Vs l → bad l = false := fun l hl => by
   unfold bad
   rw [List.any_eq_false]
   intro x hx
   have := hl x hx
   unfold Va at this
   simp
   omega
 unfold chk
 rw [if_neg (by omega),hb i hi,hb s hs]
 rfl
end Cu
end Go.Proofs.Ytnmlmdlhhphcoaa
namespace Go.Proofs.Ytnmlmdlhhphcoaa
open Go.Abs
def Le {α : Type} (a b : Option α) : Prop := ∀ y,a = some y → b = some y
theorem Le.refl {α : Type} (a : Option α) : Le a a := fun _ h => h
theorem Le.bind {α β : Type} {a b : Option α} {f g : α → Option β} (h : Le a b) (h' : ∀ y,Le (f y) (g y)) : Le (bindO a f) (bindO b g) := fun z hz => by
 obtain ⟨y,h1,h2⟩ := bindO_some hz
 rw [h y h1]; exact h' y z h2
theorem Le.cond {α : Type} {p : Bool} {a b c d : Option α} (h : Le a b) (h' : Le c d) : Le (bif p then a else c) (bif p then b else d) := by cases p <;> assumption
theorem Le.sum {α β γ : Type} {s : α ⊕ β} {f f' : α → Option γ} {g g' : β → Option γ} (h : ∀ y,Le (f y) (f' y)) (h' : ∀ y,Le (g y) (g' y)) : Le (sumC s f g) (sumC s f' g') := by
 cases s with
 | inl y => exact h y
 | inr y => exact h' y
theorem iterN_le {X Y : Type} {s s' : X → Option (X ⊕ Y)} (h : ∀ x,Le (s x) (s' x)) : ∀ (n : Nat) (x : X),Le (iterN s n x) (iterN s' n x)
 | 0,x => fun y hy => by cases hy
 | n + 1,x => fun y hy => by
   unfold iterN at hy ⊢
   split at hy
   · rename_i x' e; rw [h x _ e]; exact iterN_le h n x' y hy
   · rename_i y' e; rw [h x _ e]; exact hy
   · cases hy
theorem Le.iter {X Y : Type} {s s' : X → Option (X ⊕ Y)} {n : Nat} (h : ∀ x,Le (s x) (s' x)) (x : X) : Le (iterN s n x) (Go.Abs.iter s' x) := fun y hy => iter_of (iterN_le h n x y hy)
namespace M29
def sb0' (x : bp0X) : Option (bq0X ⊕ bz0X) := bif decide (x.v > 2) then some (Sum.inr { e := 1,bi := x.bi,bs := x.bs }) else some (Sum.inl { e := x.e,bi := x.bi,bs := x.bs })
theorem sb0_le (x : _) : Le (sb0' x) (sb0 x) := by
 unfold sb0' sb0
 repeat' first | with_reducible exact Le.refl _ | with_reducible apply Le.bind | with_reducible apply Le.cond | with_reducible apply Le.sum | intro _
def i0_s1' (x : i0_p1X) : Option (i0_p1X ⊕ (i0_q1X ⊕ i0_z1X)) := bif decide (x.i2 < x.n2) then bif inR x.i2 x.bs.length then bindO (sb0' { v := x.bs[x.i2.toNat]?.getD 0,e := x.e,bi := x.bi,bs := x.bs }) fun s => sumC s (fun y => some (Sum.inl { n2 := x.n2,i2 := IntKind.i64.wrap (x.i2 + 1),e := y.e,bi := y.bi,bs := y.bs })) fun z => some (Sum.inr (Sum.inr { e := z.e,bi := z.bi,bs := z.bs })) else none
else some (Sum.inr (Sum.inl { e := x.e,bi := x.bi,bs := x.bs }))
theorem i0_s1_le (x : _) : Le (i0_s1' x) (i0_s1 x) := by
 unfold i0_s1' i0_s1
 repeat' first | with_reducible exact Le.refl _ | with_reducible exact sb0_le _ | with_reducible apply Le.bind | with_reducible apply Le.cond | with_reducible apply Le.sum | intro _
def i0_s0' (x : i0_p0X) : Option (i0_p0X ⊕ (i0_q0X ⊕ i0_z0X)) := bif decide (x.i < x.n) then bif inR x.i x.bi.length then bindO (sb0' { v := x.bi[x.i.toNat]?.getD 0,e := x.e,bi := x.bi,bs := x.bs }) fun s => sumC s (fun y => some (Sum.inl { n := x.n,i := IntKind.i64.wrap (x.i + 1),e := y.e,bi := y.bi,bs := y.bs })) fun z => some (Sum.inr (Sum.inr { e := z.e,bi := z.bi,bs := z.bs })) else none
else some (Sum.inr (Sum.inl { e := x.e,bi := x.bi,bs := x.bs }))
theorem i0_s0_le (x : _) : Le (i0_s0' x) (i0_s0 x) := by
 unfold i0_s0' i0_s0
 repeat' first | with_reducible exact Le.refl _ | with_reducible exact sb0_le _ | with_reducible apply Le.bind | with_reducible apply Le.cond | with_reducible apply Le.sum | intro _
def s0' (x : p0X) : Option (q0X ⊕ z0X) := bindO (iterN i0_s0' 200 { n := (↑x.bi.length : Int),i := 0,e := x.e,bi := x.bi,bs := x.bs }) fun s => sumC s (fun y => bindO (iterN i0_s1' 200 { n2 := (↑y.bs.length : Int),i2 := 0,e := y.e,bi := y.bi,bs := y.bs }) fun s => sumC s (fun y => some (Sum.inl { e := y.e,bi := y.bi,bs := y.bs })) fun z => some (Sum.inr { e := z.e,bi := z.bi,bs := z.bs })) fun z => some (Sum.inr { e := z.e,bi := z.bi,bs := z.bs })
theorem s0_le (x : _) : Le (s0' x) (s0 x) := by
 unfold s0' s0
 repeat' first | with_reducible exact Le.refl _ | with_reducible exact Le.iter i0_s1_le _ | with_reducible exact Le.iter i0_s0_le _ | with_reducible apply Le.bind | with_reducible apply Le.cond | with_reducible apply Le.sum | intro _
def m' (x : gX) : Option fY := bif decide (IntKind.i64.wrap ((↑x.i.length : Int) + (↑x.s.length : Int)) > 16384) then some 3
else bindO (M36.m { i := x.i,s := x.s }) fun y => bindO (s0' { e := 0,bi := y.fst,bs := y.snd }) fun s => sumC s (fun y => some 0) fun z => some z.e
theorem m_le (x : _) : Le (m' x) (m x) := by
 unfold m' m
 repeat' first | with_reducible exact Le.refl _ | with_reducible exact s0_le _ | with_reducible apply Le.bind | with_reducible apply Le.cond | with_reducible apply Le.sum | intro _
end M29
namespace M22
def sb0' (x : bp0X) : Option bq0X := bif x.v != 2 then some { n0 := IntKind.i64.wrap (x.n0 + 1),bi := x.bi,bs := x.bs } else some { n0 := x.n0,bi := x.bi,bs := x.bs }
theorem sb0_le (x : _) : Le (sb0' x) (sb0 x) := by
 unfold sb0' sb0
 repeat' first | with_reducible exact Le.refl _ | with_reducible apply Le.bind | with_reducible apply Le.cond | with_reducible apply Le.sum | intro _
def i0_s1' (x : i0_p1X) : Option (i0_p1X ⊕ i0_q1X) := bif decide (x.i2 < x.n2) then bif inR x.i2 x.bs.length then bindO (sb0' { v := x.bs[x.i2.toNat]?.getD 0,n0 := x.n0,bi := x.bi,bs := x.bs }) fun y => some (Sum.inl { n2 := x.n2,i2 := IntKind.i64.wrap (x.i2 + 1),n0 := y.n0,bi := y.bi,bs := y.bs }) else none
else some (Sum.inr { n0 := x.n0,bi := x.bi,bs := x.bs })
theorem i0_s1_le (x : _) : Le (i0_s1' x) (i0_s1 x) := by
 unfold i0_s1' i0_s1
 repeat' first | with_reducible exact Le.refl _ | with_reducible exact sb0_le _ | with_reducible apply Le.bind | with_reducible apply Le.cond | with_reducible apply Le.sum | intro _
def i0_s0' (x : i0_p0X) : Option (i0_p0X ⊕ i0_q0X) := bif decide (x.i < x.n) then bif inR x.i x.bi.length then bindO (sb0' { v := x.bi[x.i.toNat]?.getD 0,n0 := x.n0,bi := x.bi,bs := x.bs }) fun y => some (Sum.inl { n := x.n,i := IntKind.i64.wrap (x.i + 1),n0 := y.n0,bi := y.bi,bs := y.bs }) else none
else some (Sum.inr { n0 := x.n0,bi := x.bi,bs := x.bs })
theorem i0_s0_le (x : _) : Le (i0_s0' x) (i0_s0 x) := by
 unfold i0_s0' i0_s0
 repeat' first | with_reducible exact Le.refl _ | with_reducible exact sb0_le _ | with_reducible apply Le.bind | with_reducible apply Le.cond | with_reducible apply Le.sum | intro _
def s0' (x : p0X) : Option q0X := bindO (iterN i0_s0' 200 { n := (↑x.bi.length : Int),i := 0,n0 := x.n0,bi := x.bi,bs := x.bs }) fun y => bindO (iterN i0_s1' 200 { n2 := (↑y.bs.length : Int),i2 := 0,n0 := y.n0,bi := y.bi,bs := y.bs }) fun y => some { n0 := y.n0,bi := y.bi,bs := y.bs }
theorem s0_le (x : _) : Le (s0' x) (s0 x) := by
 unfold s0' s0
 repeat' first | with_reducible exact Le.refl _ | with_reducible exact Le.iter i0_s1_le _ | with_reducible exact Le.iter i0_s0_le _ | with_reducible apply Le.bind | with_reducible apply Le.cond | with_reducible apply Le.sum | intro _
def m' (x : gX) : Option fY := bindO (M29.m' { i := x.i,s := x.s }) fun y => bif y != 0 then some 0 else bindO (M36.m { i := x.i,s := x.s }) fun y => bindO (s0' { n0 := 0,bi := y.fst,bs := y.snd }) fun y => some y.n0
theorem m_le (x : _) : Le (m' x) (m x) := by
 unfold m' m
 repeat' first | with_reducible exact Le.refl _ | with_reducible exact M29.m_le _ | with_reducible exact s0_le _ | with_reducible apply Le.bind | with_reducible apply Le.cond | with_reducible apply Le.sum | intro _
end M22
namespace M33
def s0' (x : p0X) : Option (p0X ⊕ (q0X ⊕ z0X)) := bif decide (x.i < x.n) then bif inR x.i x.l.length then bindO (M29.m' { i := (x.l[x.i.toNat]?.getD ([],[])).fst,s := (x.l[x.i.toNat]?.getD ([],[])).snd }) fun y => bif y != 0 then some (Sum.inr (Sum.inr { r := y })) else some (Sum.inl { l := x.l,n := x.n,i := IntKind.i64.wrap (x.i + 1),ai := x.ai,as_ := x.as_,bi := x.bi,bs := x.bs }) else none
else some (Sum.inr (Sum.inl { ai := x.ai,as_ := x.as_,bi := x.bi,bs := x.bs }))
theorem s0_le (x : _) : Le (s0' x) (s0 x) := by
 unfold s0' s0
 repeat' first | with_reducible exact Le.refl _ | with_reducible exact M29.m_le _ | with_reducible apply Le.bind | with_reducible apply Le.cond | with_reducible apply Le.sum | intro _
def m' (x : gX) : Option fY := bindO (iterN s0' 200 { l := [(x.ai,x.as_),(x.bi,x.bs)],n := (↑2 : Int),i := 0,ai := x.ai,as_ := x.as_,bi := x.bi,bs := x.bs }) fun s => sumC s (fun y => bif bif (↑y.ai.length : Int) != (↑y.bi.length : Int) then true else (↑y.as_.length : Int) != (↑y.bs.length : Int) then some 8 else some 0) fun z => some z.r
theorem m_le (x : _) : Le (m' x) (m x) := by
 unfold m' m
 repeat' first | with_reducible exact Le.refl _ | with_reducible exact Le.iter s0_le _ | with_reducible apply Le.bind | with_reducible apply Le.cond | with_reducible apply Le.sum | intro _
end M33
namespace M49
def s1' (x : p1X) : Option (p1X ⊕ q1X) := bif decide (x.i < x.n) then bif inR x.i x.l.length then bif eqN x.s_lo 0 && eqN x.xs.length x.s_len && roomB (x.s_len + List.length (x.l[x.i.toNat]?.getD [])) 1 then some (Sum.inl { s_lo := 0,s_len := x.s_len + List.length (x.l[x.i.toNat]?.getD []),l := x.l,n := x.n,i := IntKind.i64.wrap (x.i + 1),xs := x.xs ++ x.l[x.i.toNat]?.getD [] }) else none else none
else some (Sum.inr { s_lo := x.s_lo,s_len := x.s_len,xs := x.xs })
theorem s1_le (x : _) : Le (s1' x) (s1 x) := by
 unfold s1' s1
 repeat' first | with_reducible exact Le.refl _ | with_reducible apply Le.bind | with_reducible apply Le.cond | with_reducible apply Le.sum | intro _
def s0' (x : p0X) : Option (p0X ⊕ q0X) := bif decide (x.i < x.n) then bif inR x.i x.l9.length then bif decide (IntKind.i64.wrap (x.size + (↑(List.length (x.l9[x.i.toNat]?.getD [])) : Int)) < 0) then none else some (Sum.inl { l := x.l,size := IntKind.i64.wrap (x.size + (↑(List.length (x.l9[x.i.toNat]?.getD [])) : Int)),l9 := x.l9,n := x.n,i := IntKind.i64.wrap (x.i + 1) }) else none
else some (Sum.inr { l := x.l,size := x.size })
theorem s0_le (x : _) : Le (s0' x) (s0 x) := by
 unfold s0' s0
 repeat' first | with_reducible exact Le.refl _ | with_reducible apply Le.bind | with_reducible apply Le.cond | with_reducible apply Le.sum | intro _
def m' (x : gX) : Option fY := bindO (iterN s0' 200 { l := x.l,size := 0,l9 := x.l,n := (↑x.l.length : Int),i := 0 }) fun y => bindO (M55.m { n := y.size }) fun y_1 => bindO (iterN s1' 200 { s_lo := y_1.fst,s_len := y_1.snd.fst,l := y.l,n := (↑y.l.length : Int),i := 0,xs := y_1.snd.snd }) fun y => bif leB (y.s_lo + y.s_len) y.xs.length && true && true then some (List.take y.s_len (List.drop y.s_lo y.xs)) else none
theorem m_le (x : _) : Le (m' x) (m x) := by
 unfold m' m
 repeat' first | with_reducible exact Le.refl _ | with_reducible exact Le.iter s1_le _ | with_reducible exact Le.iter s0_le _ | with_reducible apply Le.bind | with_reducible apply Le.cond | with_reducible apply Le.sum | intro _
end M49
namespace M35
def m' (x : gX) : Option fY := bindO (M49.m' { l := [x.i,x.s] }) fun y => some y
theorem m_le (x : _) : Le (m' x) (m x) := by
 unfold m' m
 repeat' first | with_reducible exact Le.refl _ | with_reducible exact M49.m_le _ | with_reducible apply Le.bind | with_reducible apply Le.cond | with_reducible apply Le.sum | intro _
end M35
namespace M38
def m' (x : gX) : Option fY := some (bif x.x != 2 then x.x != x.y else false)
theorem m_le (x : _) : Le (m' x) (m x) := by
 unfold m' m
 repeat' first | with_reducible exact Le.refl _ | with_reducible apply Le.bind | with_reducible apply Le.cond | with_reducible apply Le.sum | intro _
end M38
namespace M39
def m' (x : gX) : Option fY := some (IntKind.u8.wrap (x.x + x.y) == 1)
theorem m_le (x : _) : Le (m' x) (m x) := by
 unfold m' m
 repeat' first | with_reducible exact Le.refl _ | with_reducible apply Le.bind | with_reducible apply Le.cond | with_reducible apply Le.sum | intro _
end M39
namespace M37c
def sb0' (x : bp0X) : Option bq0X := bif inR x.i x.l.length then bindO (M38.m' { x := x.v,y := x.l[x.i.toNat]?.getD 0 }) fun y => bif y then some { n0 := IntKind.i64.wrap (x.n0 + 1),l := x.l,bi := x.bi,bs := x.bs } else some { n0 := x.n0,l := x.l,bi := x.bi,bs := x.bs }
else none
theorem sb0_le (x : _) : Le (sb0' x) (sb0 x) := by
 unfold sb0' sb0
 repeat' first | with_reducible exact Le.refl _ | with_reducible exact M38.m_le _ | with_reducible apply Le.bind | with_reducible apply Le.cond | with_reducible apply Le.sum | intro _
def i0_s1' (x : i0_p1X) : Option (i0_p1X ⊕ i0_q1X) := bif decide (x.i2 < x.n2) then bif inR x.i2 x.bs.length then bindO (sb0' { i := IntKind.i64.wrap ((↑x.bi.length : Int) + x.i2),v := x.bs[x.i2.toNat]?.getD 0,n0 := x.n0,l := x.l,bi := x.bi,bs := x.bs }) fun y => some (Sum.inl { n2 := x.n2,i2 := IntKind.i64.wrap (x.i2 + 1),n0 := y.n0,l := y.l,bi := y.bi,bs := y.bs }) else none
else some (Sum.inr { n0 := x.n0,l := x.l,bi := x.bi,bs := x.bs })
theorem i0_s1_le (x : _) : Le (i0_s1' x) (i0_s1 x) := by
 unfold i0_s1' i0_s1
 repeat' first | with_reducible exact Le.refl _ | with_reducible exact sb0_le _ | with_reducible apply Le.bind | with_reducible apply Le.cond | with_reducible apply Le.sum | intro _
def i0_s0' (x : i0_p0X) : Option (i0_p0X ⊕ i0_q0X) := bif decide (x.i < x.n) then bif inR x.i x.bi.length then bindO (sb0' { i := x.i,v := x.bi[x.i.toNat]?.getD 0,n0 := x.n0,l := x.l,bi := x.bi,bs := x.bs }) fun y => some (Sum.inl { n := x.n,i := IntKind.i64.wrap (x.i + 1),n0 := y.n0,l := y.l,bi := y.bi,bs := y.bs }) else none
else some (Sum.inr { n0 := x.n0,l := x.l,bi := x.bi,bs := x.bs })
theorem i0_s0_le (x : _) : Le (i0_s0' x) (i0_s0 x) := by
 unfold i0_s0' i0_s0
 repeat' first | with_reducible exact Le.refl _ | with_reducible exact sb0_le _ | with_reducible apply Le.bind | with_reducible apply Le.cond | with_reducible apply Le.sum | intro _
def s0' (x : p0X) : Option q0X := bindO (iterN i0_s0' 200 { n := (↑x.bi.length : Int),i := 0,n0 := x.n0,l := x.l,bi := x.bi,bs := x.bs }) fun y => bindO (iterN i0_s1' 200 { n2 := (↑y.bs.length : Int),i2 := 0,n0 := y.n0,l := y.l,bi := y.bi,bs := y.bs }) fun y => some { n0 := y.n0,l := y.l,bi := y.bi,bs := y.bs }
theorem s0_le (x : _) : Le (s0' x) (s0 x) := by
 unfold s0' s0
 repeat' first | with_reducible exact Le.refl _ | with_reducible exact Le.iter i0_s1_le _ | with_reducible exact Le.iter i0_s0_le _ | with_reducible apply Le.bind | with_reducible apply Le.cond | with_reducible apply Le.sum | intro _
def m' (x : gX) : Option fY := bindO (M33.m' { ai := x.ai,as_ := x.as_,bi := x.bi,bs := x.bs }) fun y => bif y != 0 then some (-1) else bindO (M35.m' { i := x.bi,s := x.bs }) fun y => bindO (M36.m { i := x.ai,s := x.as_ }) fun y_1 => bindO (s0' { n0 := 0,l := y,bi := y_1.fst,bs := y_1.snd }) fun y => some y.n0
theorem m_le (x : _) : Le (m' x) (m x) := by
 unfold m' m
 repeat' first | with_reducible exact Le.refl _ | with_reducible exact M33.m_le _ | with_reducible exact M35.m_le _ | with_reducible exact s0_le _ | with_reducible apply Le.bind | with_reducible apply Le.cond | with_reducible apply Le.sum | intro _
end M37c
namespace M37d
def sb0' (x : bp0X) : Option bq0X := bif inR x.i x.l.length then bindO (M39.m' { x := x.v,y := x.l[x.i.toNat]?.getD 0 }) fun y => bif y then some { n0 := IntKind.i64.wrap (x.n0 + 1),l := x.l,bi := x.bi,bs := x.bs } else some { n0 := x.n0,l := x.l,bi := x.bi,bs := x.bs }
else none
theorem sb0_le (x : _) : Le (sb0' x) (sb0 x) := by
 unfold sb0' sb0
 repeat' first | with_reducible exact Le.refl _ | with_reducible exact M39.m_le _ | with_reducible apply Le.bind | with_reducible apply Le.cond | with_reducible apply Le.sum | intro _
def i0_s1' (x : i0_p1X) : Option (i0_p1X ⊕ i0_q1X) := bif decide (x.i2 < x.n2) then bif inR x.i2 x.bs.length then bindO (sb0' { i := IntKind.i64.wrap ((↑x.bi.length : Int) + x.i2),v := x.bs[x.i2.toNat]?.getD 0,n0 := x.n0,l := x.l,bi := x.bi,bs := x.bs }) fun y => some (Sum.inl { n2 := x.n2,i2 := IntKind.i64.wrap (x.i2 + 1),n0 := y.n0,l := y.l,bi := y.bi,bs := y.bs }) else none
else some (Sum.inr { n0 := x.n0,l := x.l,bi := x.bi,bs := x.bs })
theorem i0_s1_le (x : _) : Le (i0_s1' x) (i0_s1 x) := by
 unfold i0_s1' i0_s1
 repeat' first | with_reducible exact Le.refl _ | with_reducible exact sb0_le _ | with_reducible apply Le.bind | with_reducible apply Le.cond | with_reducible apply Le.sum | intro _
def i0_s0' (x : i0_p0X) : Option (i0_p0X ⊕ i0_q0X) := bif decide (x.i < x.n) then bif inR x.i x.bi.length then bindO (sb0' { i := x.i,v := x.bi[x.i.toNat]?.getD 0,n0 := x.n0,l := x.l,bi := x.bi,bs := x.bs }) fun y => some (Sum.inl { n := x.n,i := IntKind.i64.wrap (x.i + 1),n0 := y.n0,l := y.l,bi := y.bi,bs := y.bs }) else none
else some (Sum.inr { n0 := x.n0,l := x.l,bi := x.bi,bs := x.bs })
theorem i0_s0_le (x : _) : Le (i0_s0' x) (i0_s0 x) := by
 unfold i0_s0' i0_s0
 repeat' first | with_reducible exact Le.refl _ | with_reducible exact sb0_le _ | with_reducible apply Le.bind | with_reducible apply Le.cond | with_reducible apply Le.sum | intro _
def s0' (x : p0X) : Option q0X := bindO (iterN i0_s0' 200 { n := (↑x.bi.length : Int),i := 0,n0 := x.n0,l := x.l,bi := x.bi,bs := x.bs }) fun y => bindO (iterN i0_s1' 200 { n2 := (↑y.bs.length : Int),i2 := 0,n0 := y.n0,l := y.l,bi := y.bi,bs := y.bs }) fun y => some { n0 := y.n0,l := y.l,bi := y.bi,bs := y.bs }
theorem s0_le (x : _) : Le (s0' x) (s0 x) := by
 unfold s0' s0
 repeat' first | with_reducible exact Le.refl _ | with_reducible exact Le.iter i0_s1_le _ | with_reducible exact Le.iter i0_s0_le _ | with_reducible apply Le.bind | with_reducible apply Le.cond | with_reducible apply Le.sum | intro _
def m' (x : gX) : Option fY := bindO (M33.m' { ai := x.ai,as_ := x.as_,bi := x.bi,bs := x.bs }) fun y => bif y != 0 then some (-1) else bindO (M35.m' { i := x.bi,s := x.bs }) fun y => bindO (M36.m { i := x.ai,s := x.as_ }) fun y_1 => bindO (s0' { n0 := 0,l := y,bi := y_1.fst,bs := y_1.snd }) fun y => some y.n0
theorem m_le (x : _) : Le (m' x) (m x) := by
 unfold m' m
 repeat' first | with_reducible exact Le.refl _ | with_reducible exact M33.m_le _ | with_reducible exact M35.m_le _ | with_reducible exact s0_le _ | with_reducible apply Le.bind | with_reducible apply Le.cond | with_reducible apply Le.sum | intro _
end M37d
namespace M18
def m' (x : gX) : Option fY := bindO (M37d.m' { ai := x.ai,as_ := x.as_,bi := x.bi,bs := x.bs }) fun y => some y
theorem m_le (x : _) : Le (m' x) (m x) := by
 unfold m' m
 repeat' first | with_reducible exact Le.refl _ | with_reducible exact M37d.m_le _ | with_reducible apply Le.bind | with_reducible apply Le.cond | with_reducible apply Le.sum | intro _
end M18
namespace M16
def m' (x : gX) : Option fY := bindO (M18.m' { ai := x.ai,as_ := x.as_,bi := x.bi,bs := x.bs }) fun y => some (y == 0)
theorem m_le (x : _) : Le (m' x) (m x) := by
 unfold m' m
 repeat' first | with_reducible exact Le.refl _ | with_reducible exact M18.m_le _ | with_reducible apply Le.bind | with_reducible apply Le.cond | with_reducible apply Le.sum | intro _
end M16
namespace M17
def m' (x : gX) : Option fY := bindO (M37c.m' { ai := x.ai,as_ := x.as_,bi := x.bi,bs := x.bs }) fun y => some (y == 0)
theorem m_le (x : _) : Le (m' x) (m x) := by
 unfold m' m
 repeat' first | with_reducible exact Le.refl _ | with_reducible exact M37c.m_le _ | with_reducible apply Le.bind | with_reducible apply Le.cond | with_reducible apply Le.sum | intro _
end M17
namespace M13
def sb0a' (x : bp0aX) : Option bq0aX := bif decide (x.v < x.xs.length) then bif inR x.i x.l.length then bif decide (x.v < x.xs.length) then some { xs := x.xs.set x.v (if x.l[x.i.toNat]?.getD 0 < x.xs[x.v]?.getD 0 then x.l[x.i.toNat]?.getD 0 else x.xs[x.v]?.getD 0),ys := x.ys,oi_lo := x.oi_lo,oi_len := x.oi_len,oi_cap := x.oi_cap,os_lo := x.os_lo,os_len := x.os_len,os_cap := x.os_cap,l := x.l,bi_lo := x.bi_lo,bi_len := x.bi_len,bi_cap := x.bi_cap,bs_lo := x.bs_lo,bs_len := x.bs_len,bs_cap := x.bs_cap } else none else none
else none
theorem sb0a_le (x : _) : Le (sb0a' x) (sb0a x) := by
 unfold sb0a' sb0a
 repeat' first | with_reducible exact Le.refl _ | with_reducible apply Le.bind | with_reducible apply Le.cond | with_reducible apply Le.sum | intro _
def sb0b' (x : bp0bX) : Option bq0bX := bif decide (x.v < x.ys.length) then bif inR x.i x.l.length then bif decide (x.v < x.ys.length) then some { xs := x.xs,ys := x.ys.set x.v (if x.l[x.i.toNat]?.getD 0 < x.ys[x.v]?.getD 0 then x.l[x.i.toNat]?.getD 0 else x.ys[x.v]?.getD 0),oi_lo := x.oi_lo,oi_len := x.oi_len,oi_cap := x.oi_cap,os_lo := x.os_lo,os_len := x.os_len,os_cap := x.os_cap,l := x.l,bi_lo := x.bi_lo,bi_len := x.bi_len,bi_cap := x.bi_cap,bs_lo := x.bs_lo,bs_len := x.bs_len,bs_cap := x.bs_cap } else none else none
else none
theorem sb0b_le (x : _) : Le (sb0b' x) (sb0b x) := by
 unfold sb0b' sb0b
 repeat' first | with_reducible exact Le.refl _ | with_reducible apply Le.bind | with_reducible apply Le.cond | with_reducible apply Le.sum | intro _
def i0_s1' (x : i0_p1X) : Option (i0_p1X ⊕ i0_q1X) := bif decide (x.i2 < x.n2) then bif inR x.i2 x.bs_len then bindO (sb0b' { i := IntKind.i64.wrap ((↑x.bi_len : Int) + x.i2),v := x.bs_lo + x.i2.toNat,xs := x.xs,ys := x.ys,oi_lo := x.oi_lo,oi_len := x.oi_len,oi_cap := x.oi_cap,os_lo := x.os_lo,os_len := x.os_len,os_cap := x.os_cap,l := x.l,bi_lo := x.bi_lo,bi_len := x.bi_len,bi_cap := x.bi_cap,bs_lo := x.bs_lo,bs_len := x.bs_len,bs_cap := x.bs_cap }) fun y => some (Sum.inl { n2 := x.n2,i2 := IntKind.i64.wrap (x.i2 + 1),xs := y.xs,ys := y.ys,oi_lo := y.oi_lo,oi_len := y.oi_len,oi_cap := y.oi_cap,os_lo := y.os_lo,os_len := y.os_len,os_cap := y.os_cap,l := y.l,bi_lo := y.bi_lo,bi_len := y.bi_len,bi_cap := y.bi_cap,bs_lo := y.bs_lo,bs_len := y.bs_len,bs_cap := y.bs_cap }) else none
else
 some
   (Sum.inr
     { xs := x.xs,ys := x.ys,oi_lo := x.oi_lo,oi_len := x.oi_len,oi_cap := x.oi_cap,os_lo := x.os_lo,os_len := x.os_len,os_cap := x.os_cap,l := x.l,bi_lo := x.bi_lo,
       bi_len := x.bi_len,bi_cap := x.bi_cap,bs_lo := x.bs_lo,bs_len := x.bs_len,bs_cap := x.bs_cap })
theorem i0_s1_le (x : _) : Le (i0_s1' x) (i0_s1 x) := by
 unfold i0_s1' i0_s1
 repeat' first | with_reducible exact Le.refl _ | with_reducible exact sb0b_le _ | with_reducible apply Le.bind | with_reducible apply Le.cond | with_reducible apply Le.sum | intro _
def i0_s0' (x : i0_p0X) : Option (i0_p0X ⊕ i0_q0X) := bif decide (x.i < x.n) then bif inR x.i x.bi_len then bindO (sb0a' { i := x.i,v := x.bi_lo + x.i.toNat,xs := x.xs,ys := x.ys,oi_lo := x.oi_lo,oi_len := x.oi_len,oi_cap := x.oi_cap,os_lo := x.os_lo,os_len := x.os_len,os_cap := x.os_cap,l := x.l,bi_lo := x.bi_lo,bi_len := x.bi_len,bi_cap := x.bi_cap,bs_lo := x.bs_lo,bs_len := x.bs_len,bs_cap := x.bs_cap }) fun y => some (Sum.inl { n := x.n,i := IntKind.i64.wrap (x.i + 1),xs := y.xs,ys := y.ys,oi_lo := y.oi_lo,oi_len := y.oi_len,oi_cap := y.oi_cap,os_lo := y.os_lo,os_len := y.os_len,os_cap := y.os_cap,l := y.l,bi_lo := y.bi_lo,bi_len := y.bi_len,bi_cap := y.bi_cap,bs_lo := y.bs_lo,bs_len := y.bs_len,bs_cap := y.bs_cap }) else none
else
 some
   (Sum.inr
     { xs := x.xs,ys := x.ys,oi_lo := x.oi_lo,oi_len := x.oi_len,oi_cap := x.oi_cap,os_lo := x.os_lo,os_len := x.os_len,os_cap := x.os_cap,l := x.l,bi_lo := x.bi_lo,
       bi_len := x.bi_len,bi_cap := x.bi_cap,bs_lo := x.bs_lo,bs_len := x.bs_len,bs_cap := x.bs_cap })
theorem i0_s0_le (x : _) : Le (i0_s0' x) (i0_s0 x) := by
 unfold i0_s0' i0_s0
 repeat' first | with_reducible exact Le.refl _ | with_reducible exact sb0a_le _ | with_reducible apply Le.bind | with_reducible apply Le.cond | with_reducible apply Le.sum | intro _
def s0' (x : p0X) : Option q0X := bindO (iterN i0_s0' 200 { n := (↑x.bi_len : Int),i := 0,xs := x.xs,ys := x.ys,oi_lo := x.oi_lo,oi_len := x.oi_len,oi_cap := x.oi_cap,os_lo := x.os_lo,os_len := x.os_len,os_cap := x.os_cap,l := x.l,bi_lo := x.bi_lo,bi_len := x.bi_len,bi_cap := x.bi_cap,bs_lo := x.bs_lo,bs_len := x.bs_len,bs_cap := x.bs_cap }) fun y => bindO (iterN i0_s1' 200 { n2 := (↑y.bs_len : Int),i2 := 0,xs := y.xs,ys := y.ys,oi_lo := y.oi_lo,oi_len := y.oi_len,oi_cap := y.oi_cap,os_lo := y.os_lo,os_len := y.os_len,os_cap := y.os_cap,l := y.l,bi_lo := y.bi_lo,bi_len := y.bi_len,bi_cap := y.bi_cap,bs_lo := y.bs_lo,bs_len := y.bs_len,bs_cap := y.bs_cap }) fun y => some { xs := y.xs,ys := y.ys,oi_lo := y.oi_lo,oi_len := y.oi_len,oi_cap := y.oi_cap,os_lo := y.os_lo,os_len := y.os_len,os_cap := y.os_cap,l := y.l,bi_lo := y.bi_lo,bi_len := y.bi_len,bi_cap := y.bi_cap,bs_lo := y.bs_lo,bs_len := y.bs_len,bs_cap := y.bs_cap }
theorem s0_le (x : _) : Le (s0' x) (s0 x) := by
 unfold s0' s0
 repeat' first | with_reducible exact Le.refl _ | with_reducible exact Le.iter i0_s1_le _ | with_reducible exact Le.iter i0_s0_le _ | with_reducible apply Le.bind | with_reducible apply Le.cond | with_reducible apply Le.sum | intro _
def m' (x : gX) : Option fY := bindO (M33.m' { ai := x.ai,as_ := x.as_,bi := x.bi,bs := x.bs }) fun y => bif y != 0 then some ([],[],y) else bindO (M16.m' { ai := x.ai,as_ := x.as_,bi := x.bi,bs := x.bs }) fun y => bif !y then some ([],[],9) else bindO (M34.m { i := x.ai,s := x.as_ }) fun y => bindO (M35.m' { i := x.bi,s := x.bs }) fun y_1 => bindO (M36o.m { i_lo := y.fst,i_len := y.snd.fst,i_cap := y.snd.snd.fst,s_lo := y.snd.snd.snd.fst,s_len := y.snd.snd.snd.snd.fst,s_cap := y.snd.snd.snd.snd.snd.fst,xs := y.snd.snd.snd.snd.snd.snd.fst,ys := y.snd.snd.snd.snd.snd.snd.snd }) fun y_2 => bindO (s0' { xs := y_2.fst,ys := y_2.snd.fst,oi_lo := y.fst,oi_len := y.snd.fst,oi_cap := y.snd.snd.fst,os_lo := y.snd.snd.snd.fst,os_len := y.snd.snd.snd.snd.fst,os_cap := y.snd.snd.snd.snd.snd.fst,l := y_1,bi_lo := y_2.snd.snd.fst,bi_len := y_2.snd.snd.snd.fst,bi_cap := y_2.snd.snd.snd.snd.fst,bs_lo := y_2.snd.snd.snd.snd.snd.fst,bs_len := y_2.snd.snd.snd.snd.snd.snd.fst,bs_cap := y_2.snd.snd.snd.snd.snd.snd.snd }) fun y => bif leB (y.oi_lo + y.oi_len) y.xs.length && (leB (y.os_lo + y.os_len) y.ys.length && true) && true && true && true then some (List.take y.oi_len (List.drop y.oi_lo y.xs),List.take y.os_len (List.drop y.os_lo y.ys),0) else none
theorem m_le (x : _) : Le (m' x) (m x) := by
 unfold m' m
 repeat' first | with_reducible exact Le.refl _ | with_reducible exact M33.m_le _ | with_reducible exact M35.m_le _ | with_reducible exact M16.m_le _ | with_reducible exact s0_le _ | with_reducible apply Le.bind | with_reducible apply Le.cond | with_reducible apply Le.sum | intro _
end M13
namespace M40
def s0' (x : p0X) : Option (p0X ⊕ (q0X ⊕ z0X)) := bif decide (x.i < x.n) then bif inR x.i x.s.length then bindO (M41.m { v := x.s[x.i.toNat]?.getD 0 }) fun y => bif y then some (Sum.inr (Sum.inr { r := x.i })) else some (Sum.inl { s := x.s,n := x.n,i := IntKind.i64.wrap (x.i + 1) }) else none
else some (Sum.inr (Sum.inl PUnit.unit))
theorem s0_le (x : _) : Le (s0' x) (s0 x) := by
 unfold s0' s0
 repeat' first | with_reducible exact Le.refl _ | with_reducible apply Le.bind | with_reducible apply Le.cond | with_reducible apply Le.sum | intro _
def m' (x : gX) : Option fY := bindO (iterN s0' 200 { s := x.s,n := (↑x.s.length : Int),i := 0 }) fun s => sumC s (fun y => some (-1)) fun z => some z.r
theorem m_le (x : _) : Le (m' x) (m x) := by
 unfold m' m
 repeat' first | with_reducible exact Le.refl _ | with_reducible exact Le.iter s0_le _ | with_reducible apply Le.bind | with_reducible apply Le.cond | with_reducible apply Le.sum | intro _
end M40
namespace M19
def sb0a' (x : bp0aX) : Option bq0aX := bif decide (x.v < x.xs.length) then bif x.xs[x.v]?.getD 0 == 2 then bif decide (x.v < x.xs.length) then some { w := x.w,last := x.last,xs := x.xs.set x.v x.last,ys := x.ys,oi_lo := x.oi_lo,oi_len := x.oi_len,oi_cap := x.oi_cap,os_lo := x.os_lo,os_len := x.os_len,os_cap := x.os_cap,bi_lo := x.bi_lo,bi_len := x.bi_len,bi_cap := x.bi_cap,bs_lo := x.bs_lo,bs_len := x.bs_len,bs_cap := x.bs_cap } else none else bif x.w == 2 then bif decide (x.v < x.xs.length) then some { w := x.w,last := x.xs[x.v]?.getD 0,xs := x.xs,ys := x.ys,oi_lo := x.oi_lo,oi_len := x.oi_len,oi_cap := x.oi_cap,os_lo := x.os_lo,os_len := x.os_len,os_cap := x.os_cap,bi_lo := x.bi_lo,bi_len := x.bi_len,bi_cap := x.bi_cap,bs_lo := x.bs_lo,bs_len := x.bs_len,bs_cap := x.bs_cap } else none else some { w := x.w,last := x.last,xs := x.xs,ys := x.ys,oi_lo := x.oi_lo,oi_len := x.oi_len,oi_cap := x.oi_cap,os_lo := x.os_lo,os_len := x.os_len,os_cap := x.os_cap,bi_lo := x.bi_lo,bi_len := x.bi_len,bi_cap := x.bi_cap,bs_lo := x.bs_lo,bs_len := x.bs_len,bs_cap := x.bs_cap }
else none
theorem sb0a_le (x : _) : Le (sb0a' x) (sb0a x) := by
 unfold sb0a' sb0a
 repeat' first | with_reducible exact Le.refl _ | with_reducible apply Le.bind | with_reducible apply Le.cond | with_reducible apply Le.sum | intro _
def sb0b' (x : bp0bX) : Option bq0bX := bif decide (x.v < x.ys.length) then bif x.ys[x.v]?.getD 0 == 2 then bif decide (x.v < x.ys.length) then some { w := x.w,last := x.last,xs := x.xs,ys := x.ys.set x.v x.last,oi_lo := x.oi_lo,oi_len := x.oi_len,oi_cap := x.oi_cap,os_lo := x.os_lo,os_len := x.os_len,os_cap := x.os_cap,bi_lo := x.bi_lo,bi_len := x.bi_len,bi_cap := x.bi_cap,bs_lo := x.bs_lo,bs_len := x.bs_len,bs_cap := x.bs_cap } else none else bif x.w == 2 then bif decide (x.v < x.ys.length) then some { w := x.w,last := x.ys[x.v]?.getD 0,xs := x.xs,ys := x.ys,oi_lo := x.oi_lo,oi_len := x.oi_len,oi_cap := x.oi_cap,os_lo := x.os_lo,os_len := x.os_len,os_cap := x.os_cap,bi_lo := x.bi_lo,bi_len := x.bi_len,bi_cap := x.bi_cap,bs_lo := x.bs_lo,bs_len := x.bs_len,bs_cap := x.bs_cap } else none else some { w := x.w,last := x.last,xs := x.xs,ys := x.ys,oi_lo := x.oi_lo,oi_len := x.oi_len,oi_cap := x.oi_cap,os_lo := x.os_lo,os_len := x.os_len,os_cap := x.os_cap,bi_lo := x.bi_lo,bi_len := x.bi_len,bi_cap := x.bi_cap,bs_lo := x.bs_lo,bs_len := x.bs_len,bs_cap := x.bs_cap }
else none
theorem sb0b_le (x : _) : Le (sb0b' x) (sb0b x) := by
 unfold sb0b' sb0b
 repeat' first | with_reducible exact Le.refl _ | with_reducible apply Le.bind | with_reducible apply Le.cond | with_reducible apply Le.sum | intro _
def i0_s1' (x : i0_p1X) : Option (i0_p1X ⊕ i0_q1X) := bif decide (x.i2 < x.n2) then bif inR x.i2 x.bs_len then bindO (sb0b' { v := x.bs_lo + x.i2.toNat,w := x.w,last := x.last,xs := x.xs,ys := x.ys,oi_lo := x.oi_lo,oi_len := x.oi_len,oi_cap := x.oi_cap,os_lo := x.os_lo,os_len := x.os_len,os_cap := x.os_cap,bi_lo := x.bi_lo,bi_len := x.bi_len,bi_cap := x.bi_cap,bs_lo := x.bs_lo,bs_len := x.bs_len,bs_cap := x.bs_cap }) fun y => some (Sum.inl { n2 := x.n2,i2 := IntKind.i64.wrap (x.i2 + 1),w := y.w,last := y.last,xs := y.xs,ys := y.ys,oi_lo := y.oi_lo,oi_len := y.oi_len,oi_cap := y.oi_cap,os_lo := y.os_lo,os_len := y.os_len,os_cap := y.os_cap,bi_lo := y.bi_lo,bi_len := y.bi_len,bi_cap := y.bi_cap,bs_lo := y.bs_lo,bs_len := y.bs_len,bs_cap := y.bs_cap }) else none
else
 some
   (Sum.inr
     { w := x.w,last := x.last,xs := x.xs,ys := x.ys,oi_lo := x.oi_lo,oi_len := x.oi_len,oi_cap := x.oi_cap,os_lo := x.os_lo,os_len := x.os_len,os_cap := x.os_cap,
       bi_lo := x.bi_lo,bi_len := x.bi_len,bi_cap := x.bi_cap,bs_lo := x.bs_lo,bs_len := x.bs_len,bs_cap := x.bs_cap })
theorem i0_s1_le (x : _) : Le (i0_s1' x) (i0_s1 x) := by
 unfold i0_s1' i0_s1
 repeat' first | with_reducible exact Le.refl _ | with_reducible exact sb0b_le _ | with_reducible apply Le.bind | with_reducible apply Le.cond | with_reducible apply Le.sum | intro _
def i0_s0' (x : i0_p0X) : Option (i0_p0X ⊕ i0_q0X) := bif decide (x.i < x.n) then bif inR x.i x.bi_len then bindO (sb0a' { v := x.bi_lo + x.i.toNat,w := x.w,last := x.last,xs := x.xs,ys := x.ys,oi_lo := x.oi_lo,oi_len := x.oi_len,oi_cap := x.oi_cap,os_lo := x.os_lo,os_len := x.os_len,os_cap := x.os_cap,bi_lo := x.bi_lo,bi_len := x.bi_len,bi_cap := x.bi_cap,bs_lo := x.bs_lo,bs_len := x.bs_len,bs_cap := x.bs_cap }) fun y => some (Sum.inl { n := x.n,i := IntKind.i64.wrap (x.i + 1),w := y.w,last := y.last,xs := y.xs,ys := y.ys,oi_lo := y.oi_lo,oi_len := y.oi_len,oi_cap := y.oi_cap,os_lo := y.os_lo,os_len := y.os_len,os_cap := y.os_cap,bi_lo := y.bi_lo,bi_len := y.bi_len,bi_cap := y.bi_cap,bs_lo := y.bs_lo,bs_len := y.bs_len,bs_cap := y.bs_cap }) else none
else
 some
   (Sum.inr
     { w := x.w,last := x.last,xs := x.xs,ys := x.ys,oi_lo := x.oi_lo,oi_len := x.oi_len,oi_cap := x.oi_cap,os_lo := x.os_lo,os_len := x.os_len,os_cap := x.os_cap,
       bi_lo := x.bi_lo,bi_len := x.bi_len,bi_cap := x.bi_cap,bs_lo := x.bs_lo,bs_len := x.bs_len,bs_cap := x.bs_cap })
theorem i0_s0_le (x : _) : Le (i0_s0' x) (i0_s0 x) := by
 unfold i0_s0' i0_s0
 repeat' first | with_reducible exact Le.refl _ | with_reducible exact sb0a_le _ | with_reducible apply Le.bind | with_reducible apply Le.cond | with_reducible apply Le.sum | intro _
def s0' (x : p0X) : Option q0X := bindO (iterN i0_s0' 200 { n := (↑x.bi_len : Int),i := 0,w := x.w,last := x.last,xs := x.xs,ys := x.ys,oi_lo := x.oi_lo,oi_len := x.oi_len,oi_cap := x.oi_cap,os_lo := x.os_lo,os_len := x.os_len,os_cap := x.os_cap,bi_lo := x.bi_lo,bi_len := x.bi_len,bi_cap := x.bi_cap,bs_lo := x.bs_lo,bs_len := x.bs_len,bs_cap := x.bs_cap }) fun y => bindO (iterN i0_s1' 200 { n2 := (↑y.bs_len : Int),i2 := 0,w := y.w,last := y.last,xs := y.xs,ys := y.ys,oi_lo := y.oi_lo,oi_len := y.oi_len,oi_cap := y.oi_cap,os_lo := y.os_lo,os_len := y.os_len,os_cap := y.os_cap,bi_lo := y.bi_lo,bi_len := y.bi_len,bi_cap := y.bi_cap,bs_lo := y.bs_lo,bs_len := y.bs_len,bs_cap := y.bs_cap }) fun y => some { w := y.w,last := y.last,xs := y.xs,ys := y.ys,oi_lo := y.oi_lo,oi_len := y.oi_len,oi_cap := y.oi_cap,os_lo := y.os_lo,os_len := y.os_len,os_cap := y.os_cap,bi_lo := y.bi_lo,bi_len := y.bi_len,bi_cap := y.bi_cap,bs_lo := y.bs_lo,bs_len := y.bs_len,bs_cap := y.bs_cap }
theorem s0_le (x : _) : Le (s0' x) (s0 x) := by
 unfold s0' s0
 repeat' first | with_reducible exact Le.refl _ | with_reducible exact Le.iter i0_s1_le _ | with_reducible exact Le.iter i0_s0_le _ | with_reducible apply Le.bind | with_reducible apply Le.cond | with_reducible apply Le.sum | intro _
def m' (x : gX) : Option fY := bindO (M29.m' { i := x.i,s := x.s }) fun y => bif y != 0 then some ([],[],y) else bif x.w == 0 then bindO (M34.m { i := x.i,s := x.s }) fun y => bindO (M36o.m { i_lo := y.fst,i_len := y.snd.fst,i_cap := y.snd.snd.fst,s_lo := y.snd.snd.snd.fst,s_len := y.snd.snd.snd.snd.fst,s_cap := y.snd.snd.snd.snd.snd.fst,xs := y.snd.snd.snd.snd.snd.snd.fst,ys := y.snd.snd.snd.snd.snd.snd.snd }) fun y_1 => bindO (s0' { w := x.w,last := 0,xs := y_1.fst,ys := y_1.snd.fst,oi_lo := y.fst,oi_len := y.snd.fst,oi_cap := y.snd.snd.fst,os_lo := y.snd.snd.snd.fst,os_len := y.snd.snd.snd.snd.fst,os_cap := y.snd.snd.snd.snd.snd.fst,bi_lo := y_1.snd.snd.fst,bi_len := y_1.snd.snd.snd.fst,bi_cap := y_1.snd.snd.snd.snd.fst,bs_lo := y_1.snd.snd.snd.snd.snd.fst,bs_len := y_1.snd.snd.snd.snd.snd.snd.fst,bs_cap := y_1.snd.snd.snd.snd.snd.snd.snd }) fun y => bif leB (y.oi_lo + y.oi_len) y.xs.length && (leB (y.os_lo + y.os_len) y.ys.length && true) && true && true && true then some (List.take y.oi_len (List.drop y.oi_lo y.xs),List.take y.os_len (List.drop y.os_lo y.ys),0) else none else bif x.w == 1 then bindO (M34.m { i := x.i,s := x.s }) fun y => bindO (M36o.m { i_lo := y.fst,i_len := y.snd.fst,i_cap := y.snd.snd.fst,s_lo := y.snd.snd.snd.fst,s_len := y.snd.snd.snd.snd.fst,s_cap := y.snd.snd.snd.snd.snd.fst,xs := y.snd.snd.snd.snd.snd.snd.fst,ys := y.snd.snd.snd.snd.snd.snd.snd }) fun y_1 => bindO (s0' { w := x.w,last := 1,xs := y_1.fst,ys := y_1.snd.fst,oi_lo := y.fst,oi_len := y.snd.fst,oi_cap := y.snd.snd.fst,os_lo := y.snd.snd.snd.fst,os_len := y.snd.snd.snd.snd.fst,os_cap := y.snd.snd.snd.snd.snd.fst,bi_lo := y_1.snd.snd.fst,bi_len := y_1.snd.snd.snd.fst,bi_cap := y_1.snd.snd.snd.snd.fst,bs_lo := y_1.snd.snd.snd.snd.snd.fst,bs_len := y_1.snd.snd.snd.snd.snd.snd.fst,bs_cap := y_1.snd.snd.snd.snd.snd.snd.snd }) fun y => bif leB (y.oi_lo + y.oi_len) y.xs.length && (leB (y.os_lo + y.os_len) y.ys.length && true) && true && true && true then some (List.take y.oi_len (List.drop y.oi_lo y.xs),List.take y.os_len (List.drop y.os_lo y.ys),0) else none else bif x.w == 2 then bindO (M35.m' { i := x.i,s := x.s }) fun y => bindO (M40.m' { s := y }) fun y => bif decide (y ≥ 0) then bindO (M35.m' { i := x.i,s := x.s }) fun y_1 => bif inR y (List.length y_1) then bindO (M34.m { i := x.i,s := x.s }) fun y_2 => bindO (M36o.m { i_lo := y_2.fst,i_len := y_2.snd.fst,i_cap := y_2.snd.snd.fst,s_lo := y_2.snd.snd.snd.fst,s_len := y_2.snd.snd.snd.snd.fst,s_cap := y_2.snd.snd.snd.snd.snd.fst,xs := y_2.snd.snd.snd.snd.snd.snd.fst,ys := y_2.snd.snd.snd.snd.snd.snd.snd }) fun y_3 => bindO (s0' { w := x.w,last := y_1[Int.toNat y]?.getD 0,xs := y_3.fst,ys := y_3.snd.fst,oi_lo := y_2.fst,oi_len := y_2.snd.fst,oi_cap := y_2.snd.snd.fst,os_lo := y_2.snd.snd.snd.fst,os_len := y_2.snd.snd.snd.snd.fst,os_cap := y_2.snd.snd.snd.snd.snd.fst,bi_lo := y_3.snd.snd.fst,bi_len := y_3.snd.snd.snd.fst,bi_cap := y_3.snd.snd.snd.snd.fst,bs_lo := y_3.snd.snd.snd.snd.snd.fst,bs_len := y_3.snd.snd.snd.snd.snd.snd.fst,bs_cap := y_3.snd.snd.snd.snd.snd.snd.snd }) fun y => bif leB (y.oi_lo + y.oi_len) y.xs.length && (leB (y.os_lo + y.os_len) y.ys.length && true) && true && true && true then some (List.take y.oi_len (List.drop y.oi_lo y.xs),List.take y.os_len (List.drop y.os_lo y.ys),0) else none else none else bindO (M34.m { i := x.i,s := x.s }) fun y => bindO (M36o.m { i_lo := y.fst,i_len := y.snd.fst,i_cap := y.snd.snd.fst,s_lo := y.snd.snd.snd.fst,s_len := y.snd.snd.snd.snd.fst,s_cap := y.snd.snd.snd.snd.snd.fst,xs := y.snd.snd.snd.snd.snd.snd.fst,ys := y.snd.snd.snd.snd.snd.snd.snd }) fun y_1 => bindO (s0' { w := x.w,last := 0,xs := y_1.fst,ys := y_1.snd.fst,oi_lo := y.fst,oi_len := y.snd.fst,oi_cap := y.snd.snd.fst,os_lo := y.snd.snd.snd.fst,os_len := y.snd.snd.snd.snd.fst,os_cap := y.snd.snd.snd.snd.snd.fst,bi_lo := y_1.snd.snd.fst,bi_len := y_1.snd.snd.snd.fst,bi_cap := y_1.snd.snd.snd.snd.fst,bs_lo := y_1.snd.snd.snd.snd.snd.fst,bs_len := y_1.snd.snd.snd.snd.snd.snd.fst,bs_cap := y_1.snd.snd.snd.snd.snd.snd.snd }) fun y => bif leB (y.oi_lo + y.oi_len) y.xs.length && (leB (y.os_lo + y.os_len) y.ys.length && true) && true && true && true then some (List.take y.oi_len (List.drop y.oi_lo y.xs),List.take y.os_len (List.drop y.os_lo y.ys),0) else none else some ([],[],1)
theorem m_le (x : _) : Le (m' x) (m x) := by
 unfold m' m
 repeat' first | with_reducible exact Le.refl _ | with_reducible exact M29.m_le _ | with_reducible exact M35.m_le _ | with_reducible exact M40.m_le _ | with_reducible exact s0_le _ | with_reducible apply Le.bind | with_reducible apply Le.cond | with_reducible apply Le.sum | intro _
end M19
namespace M47
def m' (x : gX) : Option fY := bindO (M53.m { s := x.s,sep := x.sep }) fun y => some (y.fst,y.snd.fst,y.snd.snd)
theorem m_le (x : _) : Le (m' x) (m x) := by
 unfold m' m
 repeat' first | with_reducible exact Le.refl _ | with_reducible apply Le.bind | with_reducible apply Le.cond | with_reducible apply Le.sum | intro _
end M47
namespace M27
def sb0a' (x : bp0aX) : Option (bq0aX ⊕ bz0aX) := bif leB (x.left.length + x.right.length) 9223372036854775807 then bif inR x.i (x.left ++ x.right).length then bindO (M48.m { s := [48,49,88],c := byteAt (x.left ++ x.right) x.i.toNat }) fun y => bif decide (y < 0) then some (Sum.inr { ri := [],rs := [],e := 4,left := x.left,right := x.right,xs := x.xs,ys := x.ys,oi_lo := x.oi_lo,oi_len := x.oi_len,oi_cap := x.oi_cap,os_lo := x.os_lo,os_len := x.os_len,os_cap := x.os_cap,bi_lo := x.bi_lo,bi_len := x.bi_len,bi_cap := x.bi_cap,bs_lo := x.bs_lo,bs_len := x.bs_len,bs_cap := x.bs_cap }) else bif decide (x.v < x.xs.length) then some (Sum.inl { ri := x.ri,rs := x.rs,e := x.e,left := x.left,right := x.right,xs := x.xs.set x.v (IntKind.u8.wrap y),ys := x.ys,oi_lo := x.oi_lo,oi_len := x.oi_len,oi_cap := x.oi_cap,os_lo := x.os_lo,os_len := x.os_len,os_cap := x.os_cap,bi_lo := x.bi_lo,bi_len := x.bi_len,bi_cap := x.bi_cap,bs_lo := x.bs_lo,bs_len := x.bs_len,bs_cap := x.bs_cap }) else none else none
else none
theorem sb0a_le (x : _) : Le (sb0a' x) (sb0a x) := by
 unfold sb0a' sb0a
 repeat' first | with_reducible exact Le.refl _ | with_reducible apply Le.bind | with_reducible apply Le.cond | with_reducible apply Le.sum | intro _
def sb0b' (x : bp0bX) : Option (bq0bX ⊕ bz0bX) := bif leB (x.left.length + x.right.length) 9223372036854775807 then bif inR x.i (x.left ++ x.right).length then bindO (M48.m { s := [48,49,88],c := byteAt (x.left ++ x.right) x.i.toNat }) fun y => bif decide (y < 0) then some (Sum.inr { ri := [],rs := [],e := 4,left := x.left,right := x.right,xs := x.xs,ys := x.ys,oi_lo := x.oi_lo,oi_len := x.oi_len,oi_cap := x.oi_cap,os_lo := x.os_lo,os_len := x.os_len,os_cap := x.os_cap,bi_lo := x.bi_lo,bi_len := x.bi_len,bi_cap := x.bi_cap,bs_lo := x.bs_lo,bs_len := x.bs_len,bs_cap := x.bs_cap }) else bif decide (x.v < x.ys.length) then some (Sum.inl { ri := x.ri,rs := x.rs,e := x.e,left := x.left,right := x.right,xs := x.xs,ys := x.ys.set x.v (IntKind.u8.wrap y),oi_lo := x.oi_lo,oi_len := x.oi_len,oi_cap := x.oi_cap,os_lo := x.os_lo,os_len := x.os_len,os_cap := x.os_cap,bi_lo := x.bi_lo,bi_len := x.bi_len,bi_cap := x.bi_cap,bs_lo := x.bs_lo,bs_len := x.bs_len,bs_cap := x.bs_cap }) else none else none
else none
theorem sb0b_le (x : _) : Le (sb0b' x) (sb0b x) := by
 unfold sb0b' sb0b
 repeat' first | with_reducible exact Le.refl _ | with_reducible apply Le.bind | with_reducible apply Le.cond | with_reducible apply Le.sum | intro _
def i0_s1' (x : i0_p1X) : Option (i0_p1X ⊕ (i0_q1X ⊕ i0_z1X)) := bif decide (x.i2 < x.n2) then bif inR x.i2 x.bs_len then bindO (sb0b' { i := IntKind.i64.wrap ((↑x.bi_len : Int) + x.i2),v := x.bs_lo + x.i2.toNat,ri := x.ri,rs := x.rs,e := x.e,left := x.left,right := x.right,xs := x.xs,ys := x.ys,oi_lo := x.oi_lo,oi_len := x.oi_len,oi_cap := x.oi_cap,os_lo := x.os_lo,os_len := x.os_len,os_cap := x.os_cap,bi_lo := x.bi_lo,bi_len := x.bi_len,bi_cap := x.bi_cap,bs_lo := x.bs_lo,bs_len := x.bs_len,bs_cap := x.bs_cap }) fun s => sumC s (fun y => some (Sum.inl { n2 := x.n2,i2 := IntKind.i64.wrap (x.i2 + 1),ri := y.ri,rs := y.rs,e := y.e,left := y.left,right := y.right,xs := y.xs,ys := y.ys,oi_lo := y.oi_lo,oi_len := y.oi_len,oi_cap := y.oi_cap,os_lo := y.os_lo,os_len := y.os_len,os_cap := y.os_cap,bi_lo := y.bi_lo,bi_len := y.bi_len,bi_cap := y.bi_cap,bs_lo := y.bs_lo,bs_len := y.bs_len,bs_cap := y.bs_cap })) fun z => some (Sum.inr (Sum.inr { ri := z.ri,rs := z.rs,e := z.e,left := z.left,right := z.right,xs := z.xs,ys := z.ys,oi_lo := z.oi_lo,oi_len := z.oi_len,oi_cap := z.oi_cap,os_lo := z.os_lo,os_len := z.os_len,os_cap := z.os_cap,bi_lo := z.bi_lo,bi_len := z.bi_len,bi_cap := z.bi_cap,bs_lo := z.bs_lo,bs_len := z.bs_len,bs_cap := z.bs_cap })) else none
else
 some
   (Sum.inr
     (Sum.inl
       { ri := x.ri,rs := x.rs,e := x.e,left := x.left,right := x.right,xs := x.xs,ys := x.ys,oi_lo := x.oi_lo,oi_len := x.oi_len,oi_cap := x.oi_cap,os_lo := x.os_lo,
         os_len := x.os_len,os_cap := x.os_cap,bi_lo := x.bi_lo,bi_len := x.bi_len,bi_cap := x.bi_cap,bs_lo := x.bs_lo,bs_len := x.bs_len,bs_cap := x.bs_cap }))
theorem i0_s1_le (x : _) : Le (i0_s1' x) (i0_s1 x) := by
 unfold i0_s1' i0_s1
 repeat' first | with_reducible exact Le.refl _ | with_reducible exact sb0b_le _ | with_reducible apply Le.bind | with_reducible apply Le.cond | with_reducible apply Le.sum | intro _
def i0_s0' (x : i0_p0X) : Option (i0_p0X ⊕ (i0_q0X ⊕ i0_z0X)) := bif decide (x.i < x.n) then bif inR x.i x.bi_len then bindO (sb0a' { i := x.i,v := x.bi_lo + x.i.toNat,ri := x.ri,rs := x.rs,e := x.e,left := x.left,right := x.right,xs := x.xs,ys := x.ys,oi_lo := x.oi_lo,oi_len := x.oi_len,oi_cap := x.oi_cap,os_lo := x.os_lo,os_len := x.os_len,os_cap := x.os_cap,bi_lo := x.bi_lo,bi_len := x.bi_len,bi_cap := x.bi_cap,bs_lo := x.bs_lo,bs_len := x.bs_len,bs_cap := x.bs_cap }) fun s => sumC s (fun y => some (Sum.inl { n := x.n,i := IntKind.i64.wrap (x.i + 1),ri := y.ri,rs := y.rs,e := y.e,left := y.left,right := y.right,xs := y.xs,ys := y.ys,oi_lo := y.oi_lo,oi_len := y.oi_len,oi_cap := y.oi_cap,os_lo := y.os_lo,os_len := y.os_len,os_cap := y.os_cap,bi_lo := y.bi_lo,bi_len := y.bi_len,bi_cap := y.bi_cap,bs_lo := y.bs_lo,bs_len := y.bs_len,bs_cap := y.bs_cap })) fun z => some (Sum.inr (Sum.inr { ri := z.ri,rs := z.rs,e := z.e,left := z.left,right := z.right,xs := z.xs,ys := z.ys,oi_lo := z.oi_lo,oi_len := z.oi_len,oi_cap := z.oi_cap,os_lo := z.os_lo,os_len := z.os_len,os_cap := z.os_cap,bi_lo := z.bi_lo,bi_len := z.bi_len,bi_cap := z.bi_cap,bs_lo := z.bs_lo,bs_len := z.bs_len,bs_cap := z.bs_cap })) else none
else
 some
   (Sum.inr
     (Sum.inl
       { ri := x.ri,rs := x.rs,e := x.e,left := x.left,right := x.right,xs := x.xs,ys := x.ys,oi_lo := x.oi_lo,oi_len := x.oi_len,oi_cap := x.oi_cap,os_lo := x.os_lo,
         os_len := x.os_len,os_cap := x.os_cap,bi_lo := x.bi_lo,bi_len := x.bi_len,bi_cap := x.bi_cap,bs_lo := x.bs_lo,bs_len := x.bs_len,bs_cap := x.bs_cap }))
theorem i0_s0_le (x : _) : Le (i0_s0' x) (i0_s0 x) := by
 unfold i0_s0' i0_s0
 repeat' first | with_reducible exact Le.refl _ | with_reducible exact sb0a_le _ | with_reducible apply Le.bind | with_reducible apply Le.cond | with_reducible apply Le.sum | intro _
def s0' (x : p0X) : Option (q0X ⊕ z0X) := bindO (iterN i0_s0' 200 { n := (↑x.bi_len : Int),i := 0,ri := x.ri,rs := x.rs,e := x.e,left := x.left,right := x.right,xs := x.xs,ys := x.ys,oi_lo := x.oi_lo,oi_len := x.oi_len,oi_cap := x.oi_cap,os_lo := x.os_lo,os_len := x.os_len,os_cap := x.os_cap,bi_lo := x.bi_lo,bi_len := x.bi_len,bi_cap := x.bi_cap,bs_lo := x.bs_lo,bs_len := x.bs_len,bs_cap := x.bs_cap }) fun s => sumC s (fun y => bindO (iterN i0_s1' 200 { n2 := (↑y.bs_len : Int),i2 := 0,ri := y.ri,rs := y.rs,e := y.e,left := y.left,right := y.right,xs := y.xs,ys := y.ys,oi_lo := y.oi_lo,oi_len := y.oi_len,oi_cap := y.oi_cap,os_lo := y.os_lo,os_len := y.os_len,os_cap := y.os_cap,bi_lo := y.bi_lo,bi_len := y.bi_len,bi_cap := y.bi_cap,bs_lo := y.bs_lo,bs_len := y.bs_len,bs_cap := y.bs_cap }) fun s => sumC s (fun y => some (Sum.inl { ri := y.ri,rs := y.rs,e := y.e,left := y.left,right := y.right,xs := y.xs,ys := y.ys,oi_lo := y.oi_lo,oi_len := y.oi_len,oi_cap := y.oi_cap,os_lo := y.os_lo,os_len := y.os_len,os_cap := y.os_cap,bi_lo := y.bi_lo,bi_len := y.bi_len,bi_cap := y.bi_cap,bs_lo := y.bs_lo,bs_len := y.bs_len,bs_cap := y.bs_cap })) fun z => some (Sum.inr { ri := z.ri,rs := z.rs,e := z.e,left := z.left,right := z.right,xs := z.xs,ys := z.ys,oi_lo := z.oi_lo,oi_len := z.oi_len,oi_cap := z.oi_cap,os_lo := z.os_lo,os_len := z.os_len,os_cap := z.os_cap,bi_lo := z.bi_lo,bi_len := z.bi_len,bi_cap := z.bi_cap,bs_lo := z.bs_lo,bs_len := z.bs_len,bs_cap := z.bs_cap })) fun z => some (Sum.inr { ri := z.ri,rs := z.rs,e := z.e,left := z.left,right := z.right,xs := z.xs,ys := z.ys,oi_lo := z.oi_lo,oi_len := z.oi_len,oi_cap := z.oi_cap,os_lo := z.os_lo,os_len := z.os_len,os_cap := z.os_cap,bi_lo := z.bi_lo,bi_len := z.bi_len,bi_cap := z.bi_cap,bs_lo := z.bs_lo,bs_len := z.bs_len,bs_cap := z.bs_cap })
theorem s0_le (x : _) : Le (s0' x) (s0 x) := by
 unfold s0' s0
 repeat' first | with_reducible exact Le.refl _ | with_reducible exact Le.iter i0_s1_le _ | with_reducible exact Le.iter i0_s0_le _ | with_reducible apply Le.bind | with_reducible apply Le.cond | with_reducible apply Le.sum | intro _
def m' (x : gX) : Option fY := bif decide ((↑x.s.length : Int) > 16385) then some ([],[],3)
else
 bindO (M47.m' { s := x.s,sep := [124] }) fun y =>
   bif !y.snd.snd then some ([],[],4)
   else
     bif
         decide (0 ≤ (↑y.fst.length : Int)) && decide ((↑y.fst.length : Int) ≤ (↑y.fst.length : Int)) && decide ((↑y.fst.length : Int) * (↑1 : Int) ≤ 281474976710656) &&
           decide ((↑y.fst.length : Int) ≤ 9223372036854775807) then
       bif
           decide (0 ≤ (↑y.snd.fst.length : Int)) && decide ((↑y.snd.fst.length : Int) ≤ (↑y.snd.fst.length : Int)) &&
               decide ((↑y.snd.fst.length : Int) * (↑1 : Int) ≤ 281474976710656) &&
             decide ((↑y.snd.fst.length : Int) ≤ 9223372036854775807) then
         bindO
           (M36o.m
             { i_lo := 0,i_len := (↑y.fst.length : Int).toNat,i_cap := (↑y.fst.length : Int).toNat,s_lo := 0,s_len := (↑y.snd.fst.length : Int).toNat,
               s_cap := (↑y.snd.fst.length : Int).toNat,xs := List.replicate (↑y.fst.length : Int).toNat (0 : Int),ys := List.replicate (↑y.snd.fst.length : Int).toNat (0 : Int) })
           fun y_1 =>
           bindO
             (s0'
               { ri := [],rs := [],e := 0,left := y.fst,right := y.snd.fst,xs := y_1.fst,ys := y_1.snd.fst,oi_lo := 0,oi_len := (↑y.fst.length : Int).toNat,
                 oi_cap := (↑y.fst.length : Int).toNat,os_lo := 0,os_len := (↑y.snd.fst.length : Int).toNat,os_cap := (↑y.snd.fst.length : Int).toNat,bi_lo := y_1.snd.snd.fst,
                 bi_len := y_1.snd.snd.snd.fst,bi_cap := y_1.snd.snd.snd.snd.fst,bs_lo := y_1.snd.snd.snd.snd.snd.fst,bs_len := y_1.snd.snd.snd.snd.snd.snd.fst,
                 bs_cap := y_1.snd.snd.snd.snd.snd.snd.snd })
             fun s =>
             sumC s
               (fun y =>
                 bif leB (y.oi_lo + y.oi_len) y.xs.length && (leB (y.os_lo + y.os_len) y.ys.length && true) && true && true && true then
                   some (List.take y.oi_len (List.drop y.oi_lo y.xs),List.take y.os_len (List.drop y.os_lo y.ys),0)
                 else none)
               fun z => some (z.ri,z.rs,z.e)
       else none
     else none
theorem m_le (x : _) : Le (m' x) (m x) := by
 unfold m' m
 repeat' first | with_reducible exact Le.refl _ | with_reducible exact M47.m_le _ | with_reducible exact s0_le _ | with_reducible apply Le.bind | with_reducible apply Le.cond | with_reducible apply Le.sum | intro _
end M27
namespace M31
def m' (x : gX) : Option fY := bindO (M27.m' { s := x.s }) fun y => some (y.fst,y.snd.fst)
theorem m_le (x : _) : Le (m' x) (m x) := by
 unfold m' m
 repeat' first | with_reducible exact Le.refl _ | with_reducible exact M27.m_le _ | with_reducible apply Le.bind | with_reducible apply Le.cond | with_reducible apply Le.sum | intro _
end M31
namespace M51
def s0' (x : p0X) : Option (p0X ⊕ (q0X ⊕ z0X)) := bif decide (x.i < x.n) then bif inR x.i x.s.length then bindO (M43.m { i := x.s[x.i.toNat]?.getD 0,pi := x.pi,ps := x.ps }) fun y => bif y.fst then some (Sum.inr (Sum.inr { r := x.i,pi := x.pi,ps := x.ps })) else some (Sum.inl { s := x.s,n := x.n,i := IntKind.i64.wrap (x.i + 1),pi := x.pi,ps := x.ps }) else none
else some (Sum.inr (Sum.inl { pi := x.pi,ps := x.ps }))
theorem s0_le (x : _) : Le (s0' x) (s0 x) := by
 unfold s0' s0
 repeat' first | with_reducible exact Le.refl _ | with_reducible apply Le.bind | with_reducible apply Le.cond | with_reducible apply Le.sum | intro _
def m' (x : gX) : Option fY := bindO (iterN s0' 200 { s := x.s,n := (↑x.s.length : Int),i := 0,pi := x.pi,ps := x.ps }) fun s => sumC s (fun y => some (-1,y.pi,y.ps)) fun z => some (z.r,z.pi,z.ps)
theorem m_le (x : _) : Le (m' x) (m x) := by
 unfold m' m
 repeat' first | with_reducible exact Le.refl _ | with_reducible exact Le.iter s0_le _ | with_reducible apply Le.bind | with_reducible apply Le.cond | with_reducible apply Le.sum | intro _
end M51
namespace M42
def m' (x : gX) : Option fY := bindO (M51.m' { s := x.s,pi := x.pi,ps := x.ps }) fun y => some (decide (y.fst ≥ 0),x.pi,x.ps)
theorem m_le (x : _) : Le (m' x) (m x) := by
 unfold m' m
 repeat' first | with_reducible exact Le.refl _ | with_reducible exact M51.m_le _ | with_reducible apply Le.bind | with_reducible apply Le.cond | with_reducible apply Le.sum | intro _
end M42
namespace M23
def s0' (x : p0X) : Option (p0X ⊕ q0X) := bif decide (x.i < x.n) then bif inR x.i x.l.length then bif decide (x.l[x.i.toNat]?.getD 0 < (↑x.pi.length : Int)) then bif inR (x.l[x.i.toNat]?.getD 0) x.oi_len then bif decide (x.oi_lo + Int.toNat (x.l[x.i.toNat]?.getD 0) < x.xs.length) then some (Sum.inl { l := x.l,n := x.n,i := IntKind.i64.wrap (x.i + 1),pi := x.pi,ps := x.ps,xs := x.xs.set (x.oi_lo + Int.toNat (x.l[x.i.toNat]?.getD 0)) 2,ys := x.ys,oi_lo := x.oi_lo,oi_len := x.oi_len,oi_cap := x.oi_cap,os_lo := x.os_lo,os_len := x.os_len,os_cap := x.os_cap }) else none else none else bif inR (IntKind.i64.wrap (x.l[x.i.toNat]?.getD 0 - (↑x.pi.length : Int))) x.os_len then bif decide (x.os_lo + (IntKind.i64.wrap (x.l[x.i.toNat]?.getD 0 - (↑x.pi.length : Int))).toNat < x.ys.length) then some (Sum.inl { l := x.l,n := x.n,i := IntKind.i64.wrap (x.i + 1),pi := x.pi,ps := x.ps,xs := x.xs,ys := x.ys.set (x.os_lo + (IntKind.i64.wrap (x.l[x.i.toNat]?.getD 0 - (↑x.pi.length : Int))).toNat) 2,oi_lo := x.oi_lo,oi_len := x.oi_len,oi_cap := x.oi_cap,os_lo := x.os_lo,os_len := x.os_len,os_cap := x.os_cap }) else none else none else none
else
 some
   (Sum.inr { pi := x.pi,ps := x.ps,xs := x.xs,ys := x.ys,oi_lo := x.oi_lo,oi_len := x.oi_len,oi_cap := x.oi_cap,os_lo := x.os_lo,os_len := x.os_len,os_cap := x.os_cap })
theorem s0_le (x : _) : Le (s0' x) (s0 x) := by
 unfold s0' s0
 repeat' first | with_reducible exact Le.refl _ | with_reducible apply Le.bind | with_reducible apply Le.cond | with_reducible apply Le.sum | intro _
def m' (x : gX) : Option fY := bindO (M29.m' { i := x.i,s := x.s }) fun y => bif y != 0 then some ([],[],y) else bindO (M42.m' { s := x.l,pi := x.i,ps := x.s }) fun y => bif y.fst then some ([],[],1) else bindO (M34.m { i := x.i,s := x.s }) fun y => bindO (iterN s0' 200 { l := x.l,n := (↑x.l.length : Int),i := 0,pi := x.i,ps := x.s,xs := y.snd.snd.snd.snd.snd.snd.fst,ys := y.snd.snd.snd.snd.snd.snd.snd,oi_lo := y.fst,oi_len := y.snd.fst,oi_cap := y.snd.snd.fst,os_lo := y.snd.snd.snd.fst,os_len := y.snd.snd.snd.snd.fst,os_cap := y.snd.snd.snd.snd.snd.fst }) fun y => bif leB (y.oi_lo + y.oi_len) y.xs.length && (leB (y.os_lo + y.os_len) y.ys.length && true) && true && true && true then some (List.take y.oi_len (List.drop y.oi_lo y.xs),List.take y.os_len (List.drop y.os_lo y.ys),0) else none
theorem m_le (x : _) : Le (m' x) (m x) := by
 unfold m' m
 repeat' first | with_reducible exact Le.refl _ | with_reducible exact M29.m_le _ | with_reducible exact M42.m_le _ | with_reducible exact Le.iter s0_le _ | with_reducible apply Le.bind | with_reducible apply Le.cond | with_reducible apply Le.sum | intro _
end M23
namespace M30
def sb1a' (x : bp1aX) : Option bq1aX := bif decide (x.v < x.xs.length) then bif x.xs[x.v]?.getD 0 == 2 then bif decide (0 ≤ IntKind.i64.wrap (x.left - 1)) then bif decide (x.v < x.xs.length) then some { opn := x.opn2,out_lo := x.out_lo2,out_len := x.out_len2,out_cap := x.out_cap2,n := x.n2,i := x.i2,pi := x.pi,ps := x.ps,out := x.out,x_lo := x.x_lo,x_len := x.x_len,x_cap := x.x_cap,y_lo := x.y_lo,y_len := x.y_len,y_cap := x.y_cap,out_r := x.out_r,nn := x.nn,xs := x.xs.set x.v (IntKind.u8.wrap (IntKind.i64.wrap (↑(BitVec.ofInt 64 (x.nn.fdiv (2 ^ min (IntKind.i64.wrap (x.left - 1)).toNat 64)) &&& BitVec.ofInt 64 1).toNat : Int))),ys := x.ys,left := IntKind.i64.wrap (x.left - 1),bi_lo := x.bi_lo,bi_len := x.bi_len,bi_cap := x.bi_cap,bs_lo := x.bs_lo,bs_len := x.bs_len,bs_cap := x.bs_cap } else none else none else some { opn := x.opn2,out_lo := x.out_lo2,out_len := x.out_len2,out_cap := x.out_cap2,n := x.n2,i := x.i2,pi := x.pi,ps := x.ps,out := x.out,x_lo := x.x_lo,x_len := x.x_len,x_cap := x.x_cap,y_lo := x.y_lo,y_len := x.y_len,y_cap := x.y_cap,out_r := x.out_r,nn := x.nn,xs := x.xs,ys := x.ys,left := x.left,bi_lo := x.bi_lo,bi_len := x.bi_len,bi_cap := x.bi_cap,bs_lo := x.bs_lo,bs_len := x.bs_len,bs_cap := x.bs_cap }
else none
theorem sb1a_le (x : _) : Le (sb1a' x) (sb1a x) := by
 unfold sb1a' sb1a
 repeat' first | with_reducible exact Le.refl _ | with_reducible apply Le.bind | with_reducible apply Le.cond | with_reducible apply Le.sum | intro _
def sb1b' (x : bp1bX) : Option bq1bX := bif decide (x.v < x.ys.length) then bif x.ys[x.v]?.getD 0 == 2 then bif decide (0 ≤ IntKind.i64.wrap (x.left - 1)) then bif decide (x.v < x.ys.length) then some { opn := x.opn2,out_lo := x.out_lo2,out_len := x.out_len2,out_cap := x.out_cap2,n := x.n2,i := x.i2,pi := x.pi,ps := x.ps,out := x.out,x_lo := x.x_lo,x_len := x.x_len,x_cap := x.x_cap,y_lo := x.y_lo,y_len := x.y_len,y_cap := x.y_cap,out_r := x.out_r,nn := x.nn,xs := x.xs,ys := x.ys.set x.v (IntKind.u8.wrap (IntKind.i64.wrap (↑(BitVec.ofInt 64 (x.nn.fdiv (2 ^ min (IntKind.i64.wrap (x.left - 1)).toNat 64)) &&& BitVec.ofInt 64 1).toNat : Int))),left := IntKind.i64.wrap (x.left - 1),bi_lo := x.bi_lo,bi_len := x.bi_len,bi_cap := x.bi_cap,bs_lo := x.bs_lo,bs_len := x.bs_len,bs_cap := x.bs_cap } else none else none else some { opn := x.opn2,out_lo := x.out_lo2,out_len := x.out_len2,out_cap := x.out_cap2,n := x.n2,i := x.i2,pi := x.pi,ps := x.ps,out := x.out,x_lo := x.x_lo,x_len := x.x_len,x_cap := x.x_cap,y_lo := x.y_lo,y_len := x.y_len,y_cap := x.y_cap,out_r := x.out_r,nn := x.nn,xs := x.xs,ys := x.ys,left := x.left,bi_lo := x.bi_lo,bi_len := x.bi_len,bi_cap := x.bi_cap,bs_lo := x.bs_lo,bs_len := x.bs_len,bs_cap := x.bs_cap }
else none
theorem sb1b_le (x : _) : Le (sb1b' x) (sb1b x) := by
 unfold sb1b' sb1b
 repeat' first | with_reducible exact Le.refl _ | with_reducible apply Le.bind | with_reducible apply Le.cond | with_reducible apply Le.sum | intro _
def i1_s1' (x : i1_p1X) : Option (i1_p1X ⊕ i1_q1X) := bif decide (x.i2 < x.n2) then bif inR x.i2 x.bs_len then bindO (sb1b' { opn := x.opn,out_lo := x.out_lo,out_len := x.out_len,out_cap := x.out_cap,n := x.n,i := x.i,v := x.bs_lo + x.i2.toNat,opn2 := x.opn,out_lo2 := x.out_lo,out_len2 := x.out_len,out_cap2 := x.out_cap,n2 := x.n,i2 := x.i,pi := x.pi,ps := x.ps,out := x.out,x_lo := x.x_lo,x_len := x.x_len,x_cap := x.x_cap,y_lo := x.y_lo,y_len := x.y_len,y_cap := x.y_cap,out_r := x.out_r,nn := x.nn,xs := x.xs,ys := x.ys,left := x.left,bi_lo := x.bi_lo,bi_len := x.bi_len,bi_cap := x.bi_cap,bs_lo := x.bs_lo,bs_len := x.bs_len,bs_cap := x.bs_cap }) fun y => some (Sum.inl { n2 := x.n2,i2 := IntKind.i64.wrap (x.i2 + 1),opn := y.opn,out_lo := y.out_lo,out_len := y.out_len,out_cap := y.out_cap,n := y.n,i := y.i,pi := y.pi,ps := y.ps,out := y.out,x_lo := y.x_lo,x_len := y.x_len,x_cap := y.x_cap,y_lo := y.y_lo,y_len := y.y_len,y_cap := y.y_cap,out_r := y.out_r,nn := y.nn,xs := y.xs,ys := y.ys,left := y.left,bi_lo := y.bi_lo,bi_len := y.bi_len,bi_cap := y.bi_cap,bs_lo := y.bs_lo,bs_len := y.bs_len,bs_cap := y.bs_cap }) else none
else
 some
   (Sum.inr
     { opn := x.opn,out_lo := x.out_lo,out_len := x.out_len,out_cap := x.out_cap,n := x.n,i := x.i,pi := x.pi,ps := x.ps,out := x.out,x_lo := x.x_lo,x_len := x.x_len,
       x_cap := x.x_cap,y_lo := x.y_lo,y_len := x.y_len,y_cap := x.y_cap,out_r := x.out_r,nn := x.nn,xs := x.xs,ys := x.ys,left := x.left,bi_lo := x.bi_lo,
       bi_len := x.bi_len,bi_cap := x.bi_cap,bs_lo := x.bs_lo,bs_len := x.bs_len,bs_cap := x.bs_cap })
theorem i1_s1_le (x : _) : Le (i1_s1' x) (i1_s1 x) := by
 unfold i1_s1' i1_s1
 repeat' first | with_reducible exact Le.refl _ | with_reducible exact sb1b_le _ | with_reducible apply Le.bind | with_reducible apply Le.cond | with_reducible apply Le.sum | intro _
def i1_s0' (x : i1_p0X) : Option (i1_p0X ⊕ i1_q0X) := bif decide (x.i < x.n) then bif inR x.i x.bi_len then bindO (sb1a' { opn := x.opn,out_lo := x.out_lo,out_len := x.out_len,out_cap := x.out_cap,n := x.n2,i := x.i2,v := x.bi_lo + x.i.toNat,opn2 := x.opn,out_lo2 := x.out_lo,out_len2 := x.out_len,out_cap2 := x.out_cap,n2 := x.n2,i2 := x.i2,pi := x.pi,ps := x.ps,out := x.out,x_lo := x.x_lo,x_len := x.x_len,x_cap := x.x_cap,y_lo := x.y_lo,y_len := x.y_len,y_cap := x.y_cap,out_r := x.out_r,nn := x.nn,xs := x.xs,ys := x.ys,left := x.left,bi_lo := x.bi_lo,bi_len := x.bi_len,bi_cap := x.bi_cap,bs_lo := x.bs_lo,bs_len := x.bs_len,bs_cap := x.bs_cap }) fun y => some (Sum.inl { n := x.n,i := IntKind.i64.wrap (x.i + 1),opn := y.opn,out_lo := y.out_lo,out_len := y.out_len,out_cap := y.out_cap,n2 := y.n,i2 := y.i,pi := y.pi,ps := y.ps,out := y.out,x_lo := y.x_lo,x_len := y.x_len,x_cap := y.x_cap,y_lo := y.y_lo,y_len := y.y_len,y_cap := y.y_cap,out_r := y.out_r,nn := y.nn,xs := y.xs,ys := y.ys,left := y.left,bi_lo := y.bi_lo,bi_len := y.bi_len,bi_cap := y.bi_cap,bs_lo := y.bs_lo,bs_len := y.bs_len,bs_cap := y.bs_cap }) else none
else
 some
   (Sum.inr
     { opn := x.opn,out_lo := x.out_lo,out_len := x.out_len,out_cap := x.out_cap,n := x.n2,i := x.i2,pi := x.pi,ps := x.ps,out := x.out,x_lo := x.x_lo,x_len := x.x_len,
       x_cap := x.x_cap,y_lo := x.y_lo,y_len := x.y_len,y_cap := x.y_cap,out_r := x.out_r,nn := x.nn,xs := x.xs,ys := x.ys,left := x.left,bi_lo := x.bi_lo,
       bi_len := x.bi_len,bi_cap := x.bi_cap,bs_lo := x.bs_lo,bs_len := x.bs_len,bs_cap := x.bs_cap })
theorem i1_s0_le (x : _) : Le (i1_s0' x) (i1_s0 x) := by
 unfold i1_s0' i1_s0
 repeat' first | with_reducible exact Le.refl _ | with_reducible exact sb1a_le _ | with_reducible apply Le.bind | with_reducible apply Le.cond | with_reducible apply Le.sum | intro _
def s1' (x : p1X) : Option q1X := bindO (iterN i1_s0' 200 { n := (↑x.bi_len : Int),i := 0,opn := x.opn,out_lo := x.out_lo,out_len := x.out_len,out_cap := x.out_cap,n2 := x.n,i2 := x.i,pi := x.pi,ps := x.ps,out := x.out,x_lo := x.x_lo,x_len := x.x_len,x_cap := x.x_cap,y_lo := x.y_lo,y_len := x.y_len,y_cap := x.y_cap,out_r := x.out_r,nn := x.nn,xs := x.xs,ys := x.ys,left := x.left,bi_lo := x.bi_lo,bi_len := x.bi_len,bi_cap := x.bi_cap,bs_lo := x.bs_lo,bs_len := x.bs_len,bs_cap := x.bs_cap }) fun y => bindO (iterN i1_s1' 200 { n2 := (↑y.bs_len : Int),i2 := 0,opn := y.opn,out_lo := y.out_lo,out_len := y.out_len,out_cap := y.out_cap,n := y.n,i := y.i,pi := y.pi,ps := y.ps,out := y.out,x_lo := y.x_lo,x_len := y.x_len,x_cap := y.x_cap,y_lo := y.y_lo,y_len := y.y_len,y_cap := y.y_cap,out_r := y.out_r,nn := y.nn,xs := y.xs,ys := y.ys,left := y.left,bi_lo := y.bi_lo,bi_len := y.bi_len,bi_cap := y.bi_cap,bs_lo := y.bs_lo,bs_len := y.bs_len,bs_cap := y.bs_cap }) fun y => some { opn := y.opn,out_lo := y.out_lo,out_len := y.out_len,out_cap := y.out_cap,n := y.n,i := y.i,pi := y.pi,ps := y.ps,out := y.out,x_lo := y.x_lo,x_len := y.x_len,x_cap := y.x_cap,y_lo := y.y_lo,y_len := y.y_len,y_cap := y.y_cap,out_r := y.out_r,nn := y.nn,xs := y.xs,ys := y.ys,left := y.left,bi_lo := y.bi_lo,bi_len := y.bi_len,bi_cap := y.bi_cap,bs_lo := y.bs_lo,bs_len := y.bs_len,bs_cap := y.bs_cap }
theorem s1_le (x : _) : Le (s1' x) (s1 x) := by
 unfold s1' s1
 repeat' first | with_reducible exact Le.refl _ | with_reducible exact Le.iter i1_s1_le _ | with_reducible exact Le.iter i1_s0_le _ | with_reducible apply Le.bind | with_reducible apply Le.cond | with_reducible apply Le.sum | intro _
def s0' (x : p0X) : Option (p0X ⊕ q0X) := bif decide (x.i < x.n) then bindO (M34.m { i := x.pi,s := x.ps }) fun y => bif inR x.i x.out_len then bif decide (x.out_lo + x.i.toNat < x.out.length) then bif inR x.i x.out_len then bif eqN (x.out_lo + x.i.toNat) (List.take (x.out_lo + x.i.toNat) x.out).length then bindO (M36o.m { i_lo := y.fst,i_len := y.snd.fst,i_cap := y.snd.snd.fst,s_lo := y.snd.snd.snd.fst,s_len := y.snd.snd.snd.snd.fst,s_cap := y.snd.snd.snd.snd.snd.fst,xs := y.snd.snd.snd.snd.snd.snd.fst,ys := y.snd.snd.snd.snd.snd.snd.snd }) fun y_1 => bindO (s1' { opn := x.opn,out_lo := x.out_lo,out_len := x.out_len,out_cap := x.out_cap,n := x.n,i := x.i,pi := x.pi,ps := x.ps,out := List.take (x.out_lo + x.i.toNat) x.out,x_lo := y.fst,x_len := y.snd.fst,x_cap := y.snd.snd.fst,y_lo := y.snd.snd.snd.fst,y_len := y.snd.snd.snd.snd.fst,y_cap := y.snd.snd.snd.snd.snd.fst,out_r := List.drop (x.out_lo + x.i.toNat + 1) x.out,nn := x.i,xs := y_1.fst,ys := y_1.snd.fst,left := x.opn,bi_lo := y_1.snd.snd.fst,bi_len := y_1.snd.snd.snd.fst,bi_cap := y_1.snd.snd.snd.snd.fst,bs_lo := y_1.snd.snd.snd.snd.snd.fst,bs_len := y_1.snd.snd.snd.snd.snd.snd.fst,bs_cap := y_1.snd.snd.snd.snd.snd.snd.snd }) fun y => bif leB (y.x_lo + y.x_len) y.xs.length && (leB (y.y_lo + y.y_len) y.ys.length && true) && true then some (Sum.inl { opn := y.opn,out_lo := y.out_lo,out_len := y.out_len,out_cap := y.out_cap,n := y.n,i := IntKind.i64.wrap (y.i + 1),pi := y.pi,ps := y.ps,out := y.out ++ (List.take y.x_len (List.drop y.x_lo y.xs),List.take y.y_len (List.drop y.y_lo y.ys)) :: y.out_r }) else none else none else none else none else none
else some (Sum.inr { out_lo := x.out_lo,out_len := x.out_len,out_cap := x.out_cap,pi := x.pi,ps := x.ps,out := x.out })
theorem s0_le (x : _) : Le (s0' x) (s0 x) := by
 unfold s0' s0
 repeat' first | with_reducible exact Le.refl _ | with_reducible exact s1_le _ | with_reducible apply Le.bind | with_reducible apply Le.cond | with_reducible apply Le.sum | intro _
def m' (x : gX) : Option fY := bindO (M29.m' { i := x.i,s := x.s }) fun y => bif y != 0 then some ([],y) else bindO (M22.m' { i := x.i,s := x.s }) fun y => bif decide (IntKind.i64.wrap (IntKind.i64.wrap ((↑x.i.length : Int) + (↑x.s.length : Int)) - y) > 12) then some ([],3) else bif decide (0 ≤ IntKind.i64.wrap (IntKind.i64.wrap ((↑x.i.length : Int) + (↑x.s.length : Int)) - y)) then bif decide (0 ≤ IntKind.i64.wrap (1 * 2 ^ min (IntKind.i64.wrap (IntKind.i64.wrap ((↑x.i.length : Int) + (↑x.s.length : Int)) - y)).toNat 64)) && decide (IntKind.i64.wrap (1 * 2 ^ min (IntKind.i64.wrap (IntKind.i64.wrap ((↑x.i.length : Int) + (↑x.s.length : Int)) - y)).toNat 64) ≤ IntKind.i64.wrap (1 * 2 ^ min (IntKind.i64.wrap (IntKind.i64.wrap ((↑x.i.length : Int) + (↑x.s.length : Int)) - y)).toNat 64)) && decide (IntKind.i64.wrap (1 * 2 ^ min (IntKind.i64.wrap (IntKind.i64.wrap ((↑x.i.length : Int) + (↑x.s.length : Int)) - y)).toNat 64) * (↑48 : Int) ≤ 281474976710656) && decide (IntKind.i64.wrap (1 * 2 ^ min (IntKind.i64.wrap (IntKind.i64.wrap ((↑x.i.length : Int) + (↑x.s.length : Int)) - y)).toNat 64) ≤ 9223372036854775807) then bindO (iterN s0' 200 { opn := IntKind.i64.wrap (IntKind.i64.wrap ((↑x.i.length : Int) + (↑x.s.length : Int)) - y),out_lo := 0,out_len := (IntKind.i64.wrap (1 * 2 ^ min (IntKind.i64.wrap (IntKind.i64.wrap ((↑x.i.length : Int) + (↑x.s.length : Int)) - y)).toNat 64)).toNat,out_cap := (IntKind.i64.wrap (1 * 2 ^ min (IntKind.i64.wrap (IntKind.i64.wrap ((↑x.i.length : Int) + (↑x.s.length : Int)) - y)).toNat 64)).toNat,n := (↑(IntKind.i64.wrap (1 * 2 ^ min (IntKind.i64.wrap (IntKind.i64.wrap ((↑x.i.length : Int) + (↑x.s.length : Int)) - y)).toNat 64)).toNat : Int),i := 0,pi := x.i,ps := x.s,out := List.replicate (IntKind.i64.wrap (1 * 2 ^ min (IntKind.i64.wrap (IntKind.i64.wrap ((↑x.i.length : Int) + (↑x.s.length : Int)) - y)).toNat 64)).toNat ([],[]) }) fun y => bif leB (y.out_lo + y.out_len) y.out.length && true && true && true then some (List.take y.out_len (List.drop y.out_lo y.out),0) else none else none else none
theorem m_le (x : _) : Le (m' x) (m x) := by
 unfold m' m
 repeat' first | with_reducible exact Le.refl _ | with_reducible exact M29.m_le _ | with_reducible exact M22.m_le _ | with_reducible exact Le.iter s0_le _ | with_reducible apply Le.bind | with_reducible apply Le.cond | with_reducible apply Le.sum | intro _
end M30
namespace M26
def m' (x : gX) : Option fY := bindO (M29.m' ⟨x.i,x.s⟩) fun e => bif e == 0 then (bif okS x.i && okS x.s then some (sgns x.i ++ 124 :: sgns x.s) else none) else some []
theorem m_le (x : _) : Le (m' x) (m x) := by
 unfold m' m
 repeat' first | with_reducible exact Le.refl _ | with_reducible exact M29.m_le _ | with_reducible apply Le.bind | with_reducible apply Le.cond | with_reducible apply Le.sum | intro _
end M26
namespace M10
def m' (x : gX) : Option fY := bindO (M31.m' { s := [48,88,88,124,49] }) fun y => bindO (M31.m' { s := [48,88,49,124,88] }) fun y_1 => bindO (M13.m' { ai := y.fst,as_ := y.snd,bi := y_1.fst,bs := y_1.snd }) fun y => bindO (M31.m' { s := [48,88,124] }) fun y_2 => bindO (M31.m' { s := [49,88,124] }) fun y_3 => bindO (M13.m' { ai := y_2.fst,as_ := y_2.snd,bi := y_3.fst,bs := y_3.snd }) fun y_4 => bindO (M31.m' { s := [88,88,49,88,124,48,88] }) fun y_5 => bindO (M19.m' { i := y_5.fst,s := y_5.snd,w := 2 }) fun y_6 => bindO (M31.m' { s := [88,88,49,88,124,48,88] }) fun y_7 => bindO (M19.m' { i := y_7.fst,s := y_7.snd,w := 1 }) fun y_8 => bindO (M31.m' { s := [88,48,124,88] }) fun y_9 => bindO (M30.m' { i := y_9.fst,s := y_9.snd }) fun y_10 => bindO (bif !y.snd.snd != 0 then M26.m' { i := y.fst,s := y.snd.fst } else some []) fun y_11 => bindO (bif !bif bif y.snd.snd != 0 then true else !y_11 == [48,88,49,124,49] then true else y_4.snd.snd != 9 then M31.m' { s := [48,49,88,124,49] } else some ([],[])) fun y_12 => bindO (bif !bif bif y.snd.snd != 0 then true else !y_11 == [48,88,49,124,49] then true else y_4.snd.snd != 9 then M31.m' { s := [49,48,88,124,88] } else some ([],[])) fun y_13 => bindO (bif !bif bif y.snd.snd != 0 then true else !y_11 == [48,88,49,124,49] then true else y_4.snd.snd != 9 then M18.m' { ai := y_12.fst,as_ := y_12.snd,bi := y_13.fst,bs := y_13.snd } else some (Int.ofNat 0)) fun y_14 => bindO (bif !bif bif bif bif y.snd.snd != 0 then true else !y_11 == [48,88,49,124,49] then true else y_4.snd.snd != 9 then true else y_14 != 2 then true else y_6.snd.snd != 0 then M26.m' { i := y_6.fst,s := y_6.snd.fst } else some []) fun y_15 => bindO (bif !bif bif bif bif bif bif y.snd.snd != 0 then true else !y_11 == [48,88,49,124,49] then true else y_4.snd.snd != 9 then true else y_14 != 2 then true else y_6.snd.snd != 0 then true else !y_15 == [49,49,49,49,124,48,48] then true else y_8.snd.snd != 0 then M26.m' { i := y_8.fst,s := y_8.snd.fst } else some []) fun y_16 => bif inR 1 y_10.fst.length || !!bif bif bif bif bif bif bif bif bif y.snd.snd != 0 then true else !y_11 == [48,88,49,124,49] then true else y_4.snd.snd != 9 then true else y_14 != 2 then true else y_6.snd.snd != 0 then true else !y_15 == [49,49,49,49,124,48,48] then true else y_8.snd.snd != 0 then true else !y_16 == [49,49,49,49,124,48,49] then true else y_10.snd != 0 then true else (↑y_10.fst.length : Int) != 4 then bindO (bif !bif bif bif bif bif bif bif bif bif y.snd.snd != 0 then true else !y_11 == [48,88,49,124,49] then true else y_4.snd.snd != 9 then true else y_14 != 2 then true else y_6.snd.snd != 0 then true else !y_15 == [49,49,49,49,124,48,48] then true else y_8.snd.snd != 0 then true else !y_16 == [49,49,49,49,124,48,49] then true else y_10.snd != 0 then true else (↑y_10.fst.length : Int) != 4 then M26.m' { i := (y_10.fst[1]?.getD ([],[])).fst,s := (y_10.fst[1]?.getD ([],[])).snd } else some []) fun y_17 => bif inR 2 y_10.fst.length || !!bif bif bif bif bif bif bif bif bif bif y.snd.snd != 0 then true else !y_11 == [48,88,49,124,49] then true else y_4.snd.snd != 9 then true else y_14 != 2 then true else y_6.snd.snd != 0 then true else !y_15 == [49,49,49,49,124,48,48] then true else y_8.snd.snd != 0 then true else !y_16 == [49,49,49,49,124,48,49] then true else y_10.snd != 0 then true else (↑y_10.fst.length : Int) != 4 then true else !y_17 == [48,48,124,49] then bindO (bif !bif bif bif bif bif bif bif bif bif bif y.snd.snd != 0 then true else !y_11 == [48,88,49,124,49] then true else y_4.snd.snd != 9 then true else y_14 != 2 then true else y_6.snd.snd != 0 then true else !y_15 == [49,49,49,49,124,48,48] then true else y_8.snd.snd != 0 then true else !y_16 == [49,49,49,49,124,48,49] then true else y_10.snd != 0 then true else (↑y_10.fst.length : Int) != 4 then true else !y_17 == [48,48,124,49] then M26.m' { i := (y_10.fst[2]?.getD ([],[])).fst,s := (y_10.fst[2]?.getD ([],[])).snd } else some []) fun y_18 => bif bif bif bif bif bif bif bif bif bif bif bif y.snd.snd != 0 then true else !y_11 == [48,88,49,124,49] then true else y_4.snd.snd != 9 then true else y_14 != 2 then true else y_6.snd.snd != 0 then true else !y_15 == [49,49,49,49,124,48,48] then true else y_8.snd.snd != 0 then true else !y_16 == [49,49,49,49,124,48,49] then true else y_10.snd != 0 then true else (↑y_10.fst.length : Int) != 4 then true else !y_17 == [48,48,124,49] then true else !y_18 == [49,48,124,48] then some false else bindO (M31.m' { s := [48,49,49,124,48] }) fun y => bindO (M23.m' { i := y.fst,s := y.snd,l := [0,3] }) fun y => bindO (M27.m' { s := [48,49] }) fun y_19 => bindO (M27.m' { s := [48,124,50] }) fun y_20 => bindO (M27.m' { s := [124] }) fun y_21 => bindO (M31.m' { s := [88,49,124] }) fun y_22 => bindO (M31.m' { s := [48,49,124] }) fun y_23 => bindO (M17.m' { ai := y_22.fst,as_ := y_22.snd,bi := y_23.fst,bs := y_23.snd }) fun y_24 => bindO (bif y_24 then M31.m' { s := [48,49,124] } else some ([],[])) fun y_25 => bindO (bif y_24 then M31.m' { s := [88,49,124] } else some ([],[])) fun y_26 => bindO (bif y_24 then M17.m' { ai := y_25.fst,as_ := y_25.snd,bi := y_26.fst,bs := y_26.snd } else some false) fun y_27 => bindO (bif bif bif y_24 then !y_27 else false then y.snd.snd == 0 else false then M26.m' { i := y.fst,s := y.snd.fst } else some []) fun y_28 => some (bif bif bif bif bif bif bif y_24 then !y_27 else false then y.snd.snd == 0 else false then y_28 == [88,49,49,124,88] else false then y_19.snd.snd == 4 else false then y_20.snd.snd == 4 else false then y_21.snd.snd == 0 else false then IntKind.i64.wrap ((↑y_21.fst.length : Int) + (↑y_21.snd.fst.length : Int)) == 0 else false) else none else none
theorem m_le (x : _) : Le (m' x) (m x) := by
 unfold m' m
 repeat' first | with_reducible exact Le.refl _ | with_reducible exact M18.m_le _ | with_reducible exact M17.m_le _ | with_reducible exact M13.m_le _ | with_reducible exact M19.m_le _ | with_reducible exact M27.m_le _ | with_reducible exact M31.m_le _ | with_reducible exact M23.m_le _ | with_reducible exact M30.m_le _ | with_reducible exact M26.m_le _ | with_reducible apply Le.bind | with_reducible apply Le.cond | with_reducible apply Le.sum | intro _
end M10
theorem lives10 : M10.m () = some true := M10.m_le _ _ (by kernel_rfl)
end Go.Proofs.Ytnmlmdlhhphcoaa
namespace Go.Proofs.Ytnmlmdlhhphcoaa
open Go.Abs
namespace Cu
theorem vals_len (l : List Int) : (vals l).length = l.length := by simp [vals]
end Cu
end Go.Proofs.Ytnmlmdlhhphcoaa
