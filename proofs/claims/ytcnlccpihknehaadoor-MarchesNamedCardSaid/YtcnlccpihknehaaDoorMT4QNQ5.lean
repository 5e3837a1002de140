/-
  Marches: the statement Named: its run answers true.
-/
import Derived.Test.YtcnlccpihknehaaDoorMT4QMy
import Derived.Test.YtcnlccpihknehaaDoorMT4QMV8
set_option linter.all false
namespace Go.Proofs.YtcnlccpihknehaaDoor
open Go.Abs
namespace Mr
open Pl
def nms : List (List UInt8) := [[77,65,84,83,43],[77,65,84,83,43,43],[77,97,114,99,104,32,88],[77,97,114,99,104,32,89],[77,97,114,99,104,32,67,45],[77,97,114,99,104,32,65],[77,97,114,99,104,32,66]]
def txs : List (List UInt8) := [[97,110,121,40,119,48,41,59,32,117,112,40,114,48,44,119,49,41,59,32,100,111,119,110,40,114,49,44,119,48,41],[97,110,121,40,119,48,41,59,32,117,112,40,114,48,44,119,49,41,59,32,100,111,119,110,40,114,49,44,119,48,44,114,48,41],[97,110,121,40,119,48,41,59,32,117,112,40,114,48,44,119,49,41,59,32,100,111,119,110,40,114,49,44,119,48,41,59,32,97,110,121,40,114,48,41],[97,110,121,40,119,48,41,59,32,117,112,40,114,48,44,119,49,44,114,49,41,59,32,100,111,119,110,40,114,49,44,119,48,44,114,48,41,59,32,97,110,121,40,114,48,41],[97,110,121,40,119,48,41,59,32,117,112,40,114,48,44,119,49,41,59,32,117,112,40,114,49,44,119,48,41,59,32,100,111,119,110,40,114,48,44,119,49,41,59,32,100,111,119,110,40,114,49,44,119,48,41,59,32,97,110,121,40,114,48,41],[97,110,121,40,119,48,41,59,32,117,112,40,114,48,44,119,49,44,119,48,44,119,49,41,59,32,117,112,40,114,49,44,119,48,44,119,49,41,59,32,100,111,119,110,40,114,49,44,119,48,44,119,49,44,119,48,41,59,32,100,111,119,110,40,114,48,44,119,49,44,119,48,41],[97,110,121,40,119,48,41,59,32,117,112,40,114,48,44,119,49,44,114,49,44,119,48,44,114,48,44,119,49,41,59,32,117,112,40,114,49,44,119,48,44,119,49,41,59,32,100,111,119,110,40,114,49,44,119,48,44,119,49,44,119,48,41,59,32,100,111,119,110,40,114,48,44,119,49,44,119,48,41]]
def marchy : List El := [(0,[(true,0)]),(1,[(false,0),(true,1),(false,1)]),(2,[(false,1),(true,0),(false,0)]),(0,[(false,0)])]
def marcha : List El := [(0,[(true,0)]),(1,[(false,0),(true,1),(true,0),(true,1)]),(1,[(false,1),(true,0),(true,1)]),(2,[(false,1),(true,0),(true,1),(true,0)]),(2,[(false,0),(true,1),(true,0)])]
def marchb : List El := [(0,[(true,0)]),(1,[(false,0),(true,1),(false,1),(true,0),(false,0),(true,1)]),(1,[(false,1),(true,0),(true,1)]),(2,[(false,1),(true,0),(true,1),(true,0)]),(2,[(false,0),(true,1),(true,0)])]
def mrs : List (List El) := [matsp,matspp,marchx,marchy,marchc,marcha,marchb]
def lns : List Int := [5,6,6,8,10,15,17]
theorem nms_len : nms.length = 7 := rfl
theorem parse_named : ∀ i : Nat,i < 7 → M27.m ⟨txs[i]?.getD []⟩ = some (mrs[i]?.getD [],0,0)
 | 0,_ => M27.m_le _ _ (by kernel_rfl)
 | 1,_ => M27.m_le _ _ (by kernel_rfl)
 | 2,_ => M27.m_le _ _ (by kernel_rfl)
 | 3,_ => M27.m_le _ _ (by kernel_rfl)
 | 4,_ => M27.m_le _ _ (by kernel_rfl)
 | 5,_ => M27.m_le _ _ (by kernel_rfl)
 | 6,_ => M27.m_le _ _ (by kernel_rfl)
 | n + 7,h => by omega
theorem V_of {m : List El} (h1 : 0 < m.length) (h2 : m.length ≤ 32) (h3 : (m.all fun e => decide (0 ≤ e.1 ∧ e.1 ≤ 2) && decide (0 < e.2.length) && decide (e.2.length ≤ 16) && e.2.all fun o => decide (o.2 = 0 ∨ o.2 = 1)) = true) (h4 : (chk 2 (m.flatMap (·.2))).isSome = true) : V m := by
 have h : ∀ e ∈ m,(0 ≤ e.1 ∧ e.1 ≤ 2) ∧ 0 < e.2.length ∧ e.2.length ≤ 16 ∧ ∀ o ∈ e.2,o.2 = 0 ∨ o.2 = 1 := fun e he => by
   have := List.all_eq_true.1 h3 e he
   simp only [Bool.and_eq_true,decide_eq_true_eq,List.all_eq_true] at this
   exact ⟨this.1.1.1,this.1.1.2,this.1.2,this.2⟩
 exact ⟨h1,h2,fun e he => (h e he).1,fun e he => (h e he).2.1,fun e he => (h e he).2.2.1,fun e he o ho => (h e he).2.2.2 o ho,h4⟩
theorem V_named : ∀ i : Nat,i < 7 → V (mrs[i]?.getD []) ∧ (lenM (mrs[i]?.getD []) : Int) = lns[i]?.getD 0
 | 0,_ => ⟨V_of (by decide) (by decide) (by decide) (by decide),by decide⟩
 | 1,_ => ⟨V_of (by decide) (by decide) (by decide) (by decide),by decide⟩
 | 2,_ => ⟨V_of (by decide) (by decide) (by decide) (by decide),by decide⟩
 | 3,_ => ⟨V_of (by decide) (by decide) (by decide) (by decide),by decide⟩
 | 4,_ => ⟨V_of (by decide) (by decide) (by decide) (by decide),by decide⟩
 | 5,_ => ⟨V_of (by decide) (by decide) (by decide) (by decide),by decide⟩
 | 6,_ => ⟨V_of (by decide) (by decide) (by decide) (by decide),by decide⟩
 | n + 7,h => by omega
def S22 (s : List UInt8) (i : Int) : M22.p0X := ⟨s,[77,65,84,83,43],[97,110,121,40,119,48,41,59,32,117,112,40,114,48,44,119,49,41,59,32,100,111,119,110,40,114,49,44,119,48,41],[77,65,84,83,43,43],[97,110,121,40,119,48,41,59,32,117,112,40,114,48,44,119,49,41,59,32,100,111,119,110,40,114,49,44,119,48,44,114,48,41],[77,97,114,99,104,32,88],[97,110,121,40,119,48,41,59,32,117,112,40,114,48,44,119,49,41,59,32,100,111,119,110,40,114,49,44,119,48,41,59,32,97,110,121,40,114,48,41],[77,97,114,99,104,32,89],[97,110,121,40,119,48,41,59,32,117,112,40,114,48,44,119,49,44,114,49,41,59,32,100,111,119,110,40,114,49,44,119,48,44,114,48,41,59,32,97,110,121,40,114,48,41],[77,97,114,99,104,32,67,45],[97,110,121,40,119,48,41,59,32,117,112,40,114,48,44,119,49,41,59,32,117,112,40,114,49,44,119,48,41,59,32,100,111,119,110,40,114,48,44,119,49,41,59,32,100,111,119,110,40,114,49,44,119,48,41,59,32,97,110,121,40,114,48,41],[77,97,114,99,104,32,65],[97,110,121,40,119,48,41,59,32,117,112,40,114,48,44,119,49,44,119,48,44,119,49,41,59,32,117,112,40,114,49,44,119,48,44,119,49,41,59,32,100,111,119,110,40,114,49,44,119,48,44,119,49,44,119,48,41,59,32,100,111,119,110,40,114,48,44,119,49,44,119,48,41],[77,97,114,99,104,32,66],[97,110,121,40,119,48,41,59,32,117,112,40,114,48,44,119,49,44,114,49,44,119,48,44,114,48,44,119,49,41,59,32,117,112,40,114,49,44,119,48,44,119,49,41,59,32,100,111,119,110,40,114,49,44,119,48,44,119,49,44,119,48,41,59,32,100,111,119,110,40,114,48,44,119,49,44,119,48,41],i⟩
def S21 (o : List (List UInt8)) (i : Int) : M21.p0X := ⟨0,o.length,[77,65,84,83,43],[97,110,121,40,119,48,41,59,32,117,112,40,114,48,44,119,49,41,59,32,100,111,119,110,40,114,49,44,119,48,41],[77,65,84,83,43,43],[97,110,121,40,119,48,41,59,32,117,112,40,114,48,44,119,49,41,59,32,100,111,119,110,40,114,49,44,119,48,44,114,48,41],[77,97,114,99,104,32,88],[97,110,121,40,119,48,41,59,32,117,112,40,114,48,44,119,49,41,59,32,100,111,119,110,40,114,49,44,119,48,41,59,32,97,110,121,40,114,48,41],[77,97,114,99,104,32,89],[97,110,121,40,119,48,41,59,32,117,112,40,114,48,44,119,49,44,114,49,41,59,32,100,111,119,110,40,114,49,44,119,48,44,114,48,41,59,32,97,110,121,40,114,48,41],[77,97,114,99,104,32,67,45],[97,110,121,40,119,48,41,59,32,117,112,40,114,48,44,119,49,41,59,32,117,112,40,114,49,44,119,48,41,59,32,100,111,119,110,40,114,48,44,119,49,41,59,32,100,111,119,110,40,114,49,44,119,48,41,59,32,97,110,121,40,114,48,41],[77,97,114,99,104,32,65],[97,110,121,40,119,48,41,59,32,117,112,40,114,48,44,119,49,44,119,48,44,119,49,41,59,32,117,112,40,114,49,44,119,48,44,119,49,41,59,32,100,111,119,110,40,114,49,44,119,48,44,119,49,44,119,48,41,59,32,100,111,119,110,40,114,48,44,119,49,44,119,48,41],[77,97,114,99,104,32,66],[97,110,121,40,119,48,41,59,32,117,112,40,114,48,44,119,49,44,114,49,44,119,48,44,114,48,44,119,49,41,59,32,117,112,40,114,49,44,119,48,44,119,49,41,59,32,100,111,119,110,40,114,49,44,119,48,44,119,49,44,119,48,41,59,32,100,111,119,110,40,114,48,44,119,49,44,119,48,41],i,o⟩
def prs : List (List UInt8 × List UInt8) := [([77,65,84,83,43],[97,110,121,40,119,48,41,59,32,117,112,40,114,48,44,119,49,41,59,32,100,111,119,110,40,114,49,44,119,48,41]),([77,65,84,83,43,43],[97,110,121,40,119,48,41,59,32,117,112,40,114,48,44,119,49,41,59,32,100,111,119,110,40,114,49,44,119,48,44,114,48,41]),([77,97,114,99,104,32,88],[97,110,121,40,119,48,41,59,32,117,112,40,114,48,44,119,49,41,59,32,100,111,119,110,40,114,49,44,119,48,41,59,32,97,110,121,40,114,48,41]),([77,97,114,99,104,32,89],[97,110,121,40,119,48,41,59,32,117,112,40,114,48,44,119,49,44,114,49,41,59,32,100,111,119,110,40,114,49,44,119,48,44,114,48,41,59,32,97,110,121,40,114,48,41]),([77,97,114,99,104,32,67,45],[97,110,121,40,119,48,41,59,32,117,112,40,114,48,44,119,49,41,59,32,117,112,40,114,49,44,119,48,41,59,32,100,111,119,110,40,114,48,44,119,49,41,59,32,100,111,119,110,40,114,49,44,119,48,41,59,32,97,110,121,40,114,48,41]),([77,97,114,99,104,32,65],[97,110,121,40,119,48,41,59,32,117,112,40,114,48,44,119,49,44,119,48,44,119,49,41,59,32,117,112,40,114,49,44,119,48,44,119,49,41,59,32,100,111,119,110,40,114,49,44,119,48,44,119,49,44,119,48,41,59,32,100,111,119,110,40,114,48,44,119,49,44,119,48,41]),([77,97,114,99,104,32,66],[97,110,121,40,119,48,41,59,32,117,112,40,114,48,44,119,49,44,114,49,44,119,48,44,114,48,44,119,49,41,59,32,117,112,40,114,49,44,119,48,44,119,49,41,59,32,100,111,119,110,40,114,49,44,119,48,44,119,49,44,119,48,41,59,32,100,111,119,110,40,114,48,44,119,49,44,119,48,41])]
theorem pairs_at : ∀ i : Nat,i < 7 → (prs[(i : Int).toNat]?.getD ([],[])).1 = nms[i]?.getD [] ∧ (prs[(i : Int).toNat]?.getD ([],[])).2 = txs[i]?.getD []
 | 0,_ => ⟨rfl,rfl⟩
 | 1,_ => ⟨rfl,rfl⟩
 | 2,_ => ⟨rfl,rfl⟩
 | 3,_ => ⟨rfl,rfl⟩
 | 4,_ => ⟨rfl,rfl⟩
 | 5,_ => ⟨rfl,rfl⟩
 | 6,_ => ⟨rfl,rfl⟩
 | n + 7,h => by omega
theorem named_step (s : List UInt8) {i : Nat} (hi : i < 7) : M22.s0 (S22 s i) = some (if (nms[i]?.getD [] == s) = true then .inr (.inr ⟨mrs[i]?.getD [],true⟩) else .inl (S22 s ((i + 1 : Nat) : Int))) := by
 have e1 : ((i : Int) < 7) := by omega
 have e2 : inR (i : Int) 7 = true := inR_nat hi
 obtain ⟨h1,h2⟩ := pairs_at i hi
 show (bif decide ((i : Int) < 7) then bif inR (i : Int) 7 then bif (prs[(i : Int).toNat]?.getD ([],[])).1 == s then bindO (M27.m ⟨(prs[(i : Int).toNat]?.getD ([],[])).2⟩) fun y => some (Sum.inr (Sum.inr (⟨y.1,true⟩ : M22.z0X))) else some (Sum.inl (S22 s (IntKind.i64.wrap ((i : Int) + 1)))) else none else (some (Sum.inr (Sum.inl ())) : Option (M22.p0X ⊕ (M22.q0X ⊕ M22.z0X)))) = _
 simp only [e1,e2,h1,h2,parse_named i hi,suc (show i < 9000000000000000000 by omega),decide_true,cond_true,bindO]
 cases (nms[i]?.getD [] == s) <;> rfl
theorem named_end (s : List UInt8) : M22.s0 (S22 s ((7 : Nat) : Int)) = some (.inr (.inl ())) := rfl
theorem named_any (s : List UInt8) : ((nms.any (· == s)) = true ∧ ∃ m,M22.m ⟨s⟩ = some (m,true)) ∨ ((nms.any (· == s)) = false ∧ M22.m ⟨s⟩ = some ([],false)) := by
 have key := iter_any (step := M22.s0) (fun i => S22 s i) nms (· == s) (fun i => .inr ⟨mrs[i]?.getD [],true⟩) (y := .inl ()) (fun i hi => by
   have h := named_step s (i := i) hi
   have e : nms[i]?.getD [] = nms[i] := by simp [hi]
   rw [e] at h
   exact h) (named_end s)
 rcases key with ⟨h1,i,h2⟩ | ⟨h1,h2⟩
 · refine .inl ⟨h1,mrs[i]?.getD [],?_⟩
   show bindO (iter M22.s0 (S22 s ((0 : Nat) : Int))) _ = _
   rw [h2]
   rfl
 · refine .inr ⟨h1,?_⟩
   show bindO (iter M22.s0 (S22 s ((0 : Nat) : Int))) _ = _
   rw [h2]
   rfl
theorem nms_ne : ∀ i : Nat,i < 7 → ∀ j : Nat,j < i → (nms[j]?.getD [] == nms[i]?.getD []) = false := by decide +kernel
theorem named_at {i : Nat} (hi : i < 7) : M22.m ⟨nms[i]?.getD []⟩ = some (mrs[i]?.getD [],true) := by
 have : ∀ d j,j + d = i → iter M22.s0 (S22 (nms[i]?.getD []) (j : Int)) = some (.inr ⟨mrs[i]?.getD [],true⟩) := by
   intro d
   induction d with
   | zero =>
     intro j hj
     have e : j = i := by omega
     subst e
     rw [iter_eq,named_step _ hi,if_pos (by simp)]
   | succ d ih =>
     intro j hj
     rw [iter_eq,named_step _ (by omega),if_neg (by rw [nms_ne i hi j (by omega)]; decide)]
     exact ih (j + 1) (by omega)
 have h := this i 0 (by omega)
 show bindO (iter M22.s0 (S22 (nms[i]?.getD []) ((0 : Nat) : Int))) _ = _
 rw [h]
 rfl
theorem names21 : M21.m () = some (nms,7) := by
 have h : iter M21.s0 (S21 [] 0) = some ⟨0,7,nms⟩ := iter_of (n := 10) (by kernel_rfl)
 show bindO (iter M21.s0 (S21 [] 0)) _ = _
 rw [h]
 rfl
def kn (s : List UInt8) : Nat → Bool
 | 0 => false
 | i + 1 => bif kn s i then true else nms[i]?.getD [] == s
theorem kn_any (s : List UInt8) : ∀ i,i ≤ 7 → kn s i = (nms.take i).any (· == s)
 | 0,_ => rfl
 | i + 1,h => by
   have hi : i < nms.length := by rw [nms_len]; omega
   unfold kn
   rw [kn_any s i (by omega),List.take_succ_eq_append_getElem hi,List.any_append]
   have e : nms[i]?.getD [] = nms[i] := by simp [hi]
   rw [e]
   cases (nms.take i).any (· == s) <;> simp
theorem m4_step (s : List UInt8) {i : Nat} (hi : i < 7) : M4.s0 ⟨s,nms,[5,6,6,8,10,15,17],kn s i,(i : Int)⟩ = some (.inl ⟨s,nms,[5,6,6,8,10,15,17],kn s (i + 1),((i + 1 : Nat) : Int)⟩) := by
 have e1 : ((i : Int) < 7) := by omega
 have e2 : inR (i : Int) nms.length = true := by rw [nms_len]; exact inR_nat hi
 have e3 : inR (i : Int) ([5,6,6,8,10,15,17] : List Int).length = true := inR_nat (n := 7) hi
 have hV := (V_named i hi).1
 have hL := (V_named i hi).2
 have h22 := named_at hi
 have h19 := m19 hV
 have h23 := m23 hV.len hV.le
 have ek : kn s (i + 1) = bif kn s i then true else nms[i]?.getD [] == s := rfl
 have e4 : (nms[(i : Int).toNat]?.getD []) = nms[i]?.getD [] := by simp
 have e5 := suc (i := i) (by omega)
 rw [ek]
 unfold M4.s0
 simp only [e1,e2,e3,e4,h22,h19,h23,e5,decide_true,cond_true,Bool.true_or,bindO,Bool.not_true,Bool.not_false,cond_false,show ((0 : Int) != 0) = false from rfl]
 clear hV hL h22 h19 h23 e1 e2 e3 e4 ek e5
 generalize kn s i = b
 match i,hi with
 | 0,_ => rfl
 | 1,_ => rfl
 | 2,_ => rfl
 | 3,_ => rfl
 | 4,_ => rfl
 | 5,_ => rfl
 | 6,_ => rfl
 | n + 7,h => omega
theorem run4 (s : List UInt8) : M4.m ⟨s⟩ = some true := by
 have key : iter M4.s0 ⟨s,nms,[5,6,6,8,10,15,17],kn s 0,((0 : Nat) : Int)⟩ = some (.inl ⟨s,kn s 7⟩) :=
   iter_for (step := M4.s0) (fun i => ⟨s,nms,[5,6,6,8,10,15,17],kn s i,(i : Int)⟩) (n := 7) (fun i hi => m4_step s hi) rfl
 have key : iter M4.s0 ⟨s,nms,[5,6,6,8,10,15,17],false,0⟩ = some (.inl ⟨s,kn s 7⟩) := key
 have hk : kn s 7 = nms.any (· == s) := by rw [kn_any s 7 (Nat.le_refl _)]; rfl
 unfold M4.m
 by_cases h : ((s.length : Int) > 100)
 · simp only [h,decide_true,cond_true,lives17,bindO]
 · simp only [h,decide_false,cond_false,names21,bindO,nms_len,show (((7 : Nat) : Int) != 7) = false from rfl,key,sumC,hk]
   rcases named_any s with ⟨h1,m,h2⟩ | ⟨h1,h2⟩
   · simp only [h1,h2,beq_self_eq_true,cond_true,lives17]
   · simp only [h1,h2,beq_self_eq_true,cond_true,cond_false,lives17]
     rfl
end Mr
end Go.Proofs.YtcnlccpihknehaaDoor
