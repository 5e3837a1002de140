/-
  A general library: tables of contracts and loops; from a run to a contract.
-/
import Derived.Test.YtogkpjhkpgdbkaaDoorWR2QSyH
set_option linter.all false
namespace Go.Abs
variable [Gl]
def cfOf (l : List (FuncId × Con)) (g : FuncId) : List Con := match l with
 | [] => []
 | (f,c) :: l => match Nat.beq f g with | true => c :: cfOf l g | false => cfOf l g
def lpOf (l : List (Nat × LoopS)) (i : Nat) : Option LoopS := match l with
 | [] => none
 | (k,c) :: l => match Nat.beq k i with | true => some c | false => lpOf l i
def CC.bodyAt : CC → Nat → CC
 | .seq a b,i => match Nat.blt i a.nl with | true => a.bodyAt i | false => b.bodyAt (i - a.nl)
 | .cond _ a b,i => match Nat.blt i a.nl with | true => a.bodyAt i | false => b.bodyAt (i - a.nl)
 | .block _ a,i => a.bodyAt i
 | .scp a,i => a.bodyAt i
 | .loop a,i => match i with | 0 => a | i + 1 => a.bodyAt i
 | _,_ => .skip
inductive TB where
 | no
 | at (l : TB) (k : TypeId) (i : TInf) (c : Option Ly) (r : TB)
def TB.find : TB → TypeId → Option (TInf × Option Ly)
 | .no,_ => none
 | .at l k i c r,t => match Nat.beq t k with
  | true => some (i,c)
  | false => match Nat.blt t k with
   | true => l.find t
   | false => r.find t
def layB (i : TInf) (c : Ly) : Bool := match i.zero with
 | some z => Nat.beq i.size c.size && zB c z
 | none => false
def TB.ok (P : Program) : TB → Prop
 | .no => True
 | .at l k i c r => l.ok P ∧ (tinf P k = some i ∧ (match c with | some c => layB i c | none => true) = true) ∧ r.ok P
theorem TB.find_ok {P : Program} : ∀ {b : TB},b.ok P → ∀ t i c,b.find t = some (i,c) → tinf P t = some i ∧ (match c with | some c => layB i c | none => true) = true
 | .no,_,t,i,c,h => by cases h
 | .at l k i' c' r,ho,t,i,c,h => by
  simp only [TB.find] at h
  split at h
  ·rename_i hk
   injection h with h
   injection h with h1 h2
   subst h1; subst h2
   rw [eqB hk]
   exact ho.2.1
  ·split at h
   ·exact TB.find_ok ho.1 t i c h
   ·exact TB.find_ok ho.2.2 t i c h
theorem tyOk_of {P : Program} {b : TB} (h : b.ok P) : TyOk P b.find where
 ok := fun t i c hf => (TB.find_ok h t i c hf).1
 lay := fun t i c hf => by
  have := (TB.find_ok h t i (some c) hf).2
  simp only [layB] at this
  split at this
  ·rename_i z hz
   rw [Bool.and_eq_true] at this
   exact ⟨eqB this.1,z,hz,zB_ok this.2⟩
  ·cases this
def allCon (P : Program) : List (FuncId × Con) → Prop
 | [] => True
 | (f,c) :: l => ConOk P f c ∧ allCon P l
section
variable {P : Program} {N n0 : Nat}
theorem cfOf_ok : ∀ {l : List (FuncId × Con)},allCon P l → ∀ g c,c ∈ cfOf l g → ConOk P g c
 | [],_,g,c,h => by simp [cfOf] at h
 | (f,c') :: l,ha,g,c,h => by
  simp only [cfOf] at h
  split at h
  ·rename_i hf
   simp only [List.mem_cons] at h
   rcases h with rfl | h
   ·rw [← eqB hf]; exact ha.1
   ·exact cfOf_ok ha.2 g c h
  ·exact cfOf_ok ha.2 g c h
theorem env_ok {ty : TyT} (hty : TyOk P ty) {l : List (FuncId × Con)} (hl : allCon P l) (lp : Nat → Option LoopS) {yb : Option (Array Tmp × LoopS)} : EnvOk P ⟨ty,cfOf l,lp,yb⟩ := ⟨hty,cfOf_ok hl⟩
theorem AllL.nil {ro : Option Nat} {E : Env} {yk : Option YI} : AllL P N ro n0 E [] yk := fun p hp => by simp at hp
theorem AllL.cons {ro : Option Nat} {E : Env} {yk : Option YI} {i : Nat} {B : CC} {l : List (Nat × CC)} {lp : LoopS} (h1 : E.lp i = some lp) (h2 : LoopOkS P N ro n0 B lp yk) (h : AllL P N ro n0 E l yk) : AllL P N ro n0 E ((i,B) :: l) yk := fun p hp lp' hlp => by
 simp only [List.mem_cons] at hp
 rcases hp with rfl | hp
 ·rw [h1] at hlp
  injection hlp with hlp
  subst hlp
  exact h2
 ·exact h p hp lp' hlp
theorem mk_known (hm : P.follows .mixedOrders = true) {E : Env} (hE : EnvOk P E) {f : FuncId} {rs : List ResultVar} {C : CC} (hs : Stripped P f N rs C) {X Y : Type} {g : Sg X} {ft : Ft Y} (hn0 : Nat.beq g.h.length n0 = true) (hn : Nat.ble g.vs.length N = true)
  {l : List (Nat × CC)} (hl : topL C 0 = l) (hal : AllL P N none n0 E l) (hf : ∀ a b,ft.fv (ft.to a b) = a ∧ ft.fh (ft.to a b) = b) (hto : ∀ a b,g.fa (g.to a b) = a ∧ g.fh (g.to a b) = b)
  {m : X → Option Y} (hrun : ∀ x,exec E N C 0 (initS 0 (g.A x)) (g.H x) (finish n0 E.ty rs ft) = m x) (hyk : YldOk P n0 E none := by exact YldOk.no rfl) (hg : RgOk P N none n0 E none C 0 := by exact RgOk.no (by kernel_rfl)) : Known P f g ft m :=
 ⟨hto,Nat.le_trans (leB' hn) (let ⟨_,_,_,_,h⟩ := hs.ex; Nat.le_of_ble_eq_true h.2.2.2.2.2.2),fun x y hp => fn_exec hm hE hs (n0 := n0) (by rw [Sg.H,fillH_length]; exact eqB hn0) (by rw [Sg.A,vals_length]; exact leB' hn) (hl ▸ hal) hf ((hrun x).trans hp) hyk hg⟩
end
end Go.Abs
