/-
  A general library: ranges over functions in symbolic runs: a round, and the statement, as units.
-/
import Derived.Test.YtnmlmdlhhphcoaaER4QSyI
set_option linter.all false
namespace Go.Abs
variable [Gl]
def noYS : SC → Bool
 | .clo g _ => match Nat.beq g YID with | true => false | false => true
 | _ => true
def noYSL : List SC → Bool
 | [] => true
 | c :: l => match noYS c with | true => noYSL l | false => false
def noYSP : List (SC ⊕ List SC) → Bool
 | [] => true
 | .inl c :: l => match noYS c with | true => noYSP l | false => false
 | .inr cs :: l => match noYSL cs with | true => noYSP l | false => false
def noYSV : SV → Bool
 | .c x => noYS x
 | .agg xs => noYSL xs
 | .tup xs => noYSP xs
def noYSO : SO → Bool
 | .st cs _ _ => noYSL cs
 | .opn _ _ cs _ _ => noYSL cs
 | _ => true
def noYSH : SH → Bool
 | [] => true
 | o :: σ => match noYSO o with | true => noYSH σ | false => false
theorem noYS_ok {c : SC} (h : noYS c = true) : noYC c.den := by
 cases c with
 | clo g rs =>
  simp only [noYS] at h
  split at h
  ·cases h
  ·rename_i h1; exact beq_ne h1
 | _ => trivial
theorem noYSL_ok : ∀ {l : List SC},noYSL l = true → ∀ c ∈ l.map SC.den,noYC c
 | [],_,c,hc => by simp at hc
 | x :: l,h,c,hc => by
  simp only [noYSL] at h
  split at h
  ·rename_i h1
   simp only [List.map_cons,List.mem_cons] at hc
   rcases hc with rfl | hc
   ·exact noYS_ok h1
   ·exact noYSL_ok h c hc
  ·cases h
theorem noYSP_ok : ∀ {l : List (SC ⊕ List SC)},noYSP l = true → ∀ p ∈ l.map denP,∀ c,(match p with | .inl x => c = x | .inr cs => c ∈ cs) → noYC c
 | [],_,p,hp => by simp at hp
 | .inl x :: l,h,p,hp => by
  simp only [noYSP] at h
  split at h
  ·rename_i h1
   simp only [List.map_cons,List.mem_cons] at hp
   rcases hp with rfl | hp
   ·intro c hc
    have hc : c = x.den := hc
    rw [hc]; exact noYS_ok h1
   ·exact noYSP_ok h p hp
  ·cases h
 | .inr xs :: l,h,p,hp => by
  simp only [noYSP] at h
  split at h
  ·rename_i h1
   simp only [List.map_cons,List.mem_cons] at hp
   rcases hp with rfl | hp
   ·exact fun c hc => noYSL_ok h1 c hc
   ·exact noYSP_ok h p hp
  ·cases h
theorem noYSV_ok {v : SV} (h : noYSV v = true) : noYA v.den := fun c hc => by
 cases v with
 | c x =>
  have hc : c = x.den := hc
  rw [hc]; exact noYS_ok h
 | agg xs => exact noYSL_ok h c hc
 | tup xs =>
  obtain ⟨p,hp,hc⟩ := hc
  cases p with
  | inl x => exact noYSP_ok h _ hp c hc
  | inr cs => exact noYSP_ok h _ hp c hc
theorem noYSO_ok {o : SO} (h : noYSO o = true) : ∀ c ∈ o.den.cs,noYC c := fun c hc => by
 cases o with
 | st cs es ep => exact noYSL_ok h c hc
 | arr l xs ep =>
  simp only [SO.den] at hc
  obtain ⟨t,_,rfl⟩ := List.mem_map.1 hc
  trivial
 | zer z l n =>
  simp only [SO.den] at hc
  obtain ⟨t,_,rfl⟩ := List.mem_map.1 hc
  trivial
 | opn l xs cs ys ep =>
  simp only [SO.den,List.mem_append] at hc
  rcases hc with hc | hc | hc
  ·obtain ⟨t,_,rfl⟩ := List.mem_map.1 hc
   trivial
  ·exact noYSL_ok h c hc
  ·obtain ⟨t,_,rfl⟩ := List.mem_map.1 hc
   trivial
theorem noYSH_ok : ∀ {σ : SH},noYSH σ = true → noYH (SH.den σ)
 | [],_ => fun o ho => by simp [SH.den] at ho
 | x :: σ,h => fun o ho => by
  simp only [noYSH] at h
  split at h
  ·rename_i h1
   simp only [SH.den,List.map_cons,List.mem_cons] at ho
   rcases ho with rfl | ho
   ·exact noYSO_ok h1
   ·exact noYSH_ok h o ho
  ·cases h
def mapN (f : Nat → Option Nat) (r0 : SR) : SR → SR
 | [] => []
 | (t,_,_) :: r => match f t with
  | some t' => match r0.get t with
   | some ([],v) => match noYSV v with
    | true => (t',[],v) :: mapN f r0 r
    | false => mapN f r0 r
   | _ => mapN f r0 r
  | none => mapN f r0 r
theorem mapN_mem {f : Nat → Option Nat} {r0 : SR} : ∀ {r : SR} {t' : Nat} {tg : Tg} {v : SV},(t',tg,v) ∈ mapN f r0 r → tg = [] ∧ noYSV v = true ∧ ∃ t,f t = some t' ∧ r0.get t = some ([],v)
 | (t,x,y) :: r,t',tg,v,h => by
  simp only [mapN] at h
  split at h
  ·rename_i t1 h1
   split at h
   ·rename_i v1 h2
    split at h
    ·rename_i h3
     rcases List.mem_cons.1 h with h | h
     ·injection h with h4 h5
      injection h5 with h5 h6
      subst h4; subst h5; subst h6
      exact ⟨rfl,h3,t,h1,h2⟩
     ·exact mapN_mem h
    ·exact mapN_mem h
   ·exact mapN_mem h
  ·exact mapN_mem h
def fUp (t : Nat) : Option Nat := match Nat.blt t 1000000 with | true => some (2000000 + t) | false => none
def fDown (t : Nat) : Option Nat := match Nat.ble 2000000 t,Nat.blt t 3000000 with | true,true => some (t - 2000000) | _,_ => none
theorem fUp_ok {t t' : Nat} (h : fUp t = some t') : t < BIG ∧ t' = 2000000 + t := by
 unfold fUp at h
 split at h
 ·rename_i h1
  injection h with h
  have h1 : t + 1 ≤ 1000000 := Nat.le_of_ble_eq_true h1
  exact ⟨by unfold BIG; omega,h.symm⟩
 ·cases h
theorem fDown_ok {t t' : Nat} (h : fDown t = some t') : t = 2000000 + t' ∧ t' < BIG := by
 unfold fDown at h
 split at h
 ·rename_i h1 h2
  injection h with h
  have h1 := Nat.le_of_ble_eq_true h1
  have h2 : t + 1 ≤ 3000000 := Nat.le_of_ble_eq_true h2
  exact ⟨by omega,by unfold BIG; omega⟩
 ·cases h
def enterS (caps : List SV) (r : SR) : SR := initS 0 (.c (.clo YID []) :: caps) ++ (mapN fUp r r ++ [(3000000,[],.c (.fn 0))])
def leaveS (r : SR) : SR := mapN fDown r r
def modeS (r : SR) : Option Exit := match r.get 3000000 with
 | some ([],.c (.fn m)) => match m with
  | 0 => some .normal
  | 1 => none
  | 2 => some .ret
  | k + 3 => some (.exit k)
 | _ => none
theorem initS_mem : ∀ {l : List SV} {i t : Nat} {tg : Tg} {v : SV},(t,tg,v) ∈ initS i l → tg = [] ∧ i ≤ t ∧ l[t - i]? = some v
 | [],i,t,tg,v,h => by simp [initS] at h
 | x :: l,i,t,tg,v,h => by
  simp only [initS] at h
  rcases List.mem_cons.1 h with h | h
  ·injection h with h1 h2
   injection h2 with h2 h3
   subst h1; subst h2; subst h3
   exact ⟨rfl,Nat.le_refl _,by simp⟩
  ·obtain ⟨h1,h2,h3⟩ := initS_mem h
   refine ⟨h1,by omega,?_⟩
   have : t - i = (t - (i + 1)) + 1 := by omega
   rw [this,List.getElem?_cons_succ]
   exact h3
theorem enterS_ok (caps : List SV) (r : SR) : EnterR (caps.map SV.den) r.den (enterS caps r).den := fun t v hv => by
 have hu : ∀ t tg v,(t,tg,v) ∈ enterS caps r → tg = [] := fun t tg v hm => by
  unfold enterS at hm
  simp only [List.mem_append,List.mem_singleton] at hm
  rcases hm with hm | hm | hm
  ·exact (initS_mem hm).1
  ·exact (mapN_mem hm).1
  ·injection hm with _ hm; injection hm
 obtain ⟨v',hm,rfl⟩ := den_mem hu hv
 unfold enterS at hm
 simp only [List.mem_append,List.mem_singleton] at hm
 rcases hm with hm | hm | hm
 ·obtain ⟨_,_,h3⟩ := initS_mem hm
  refine .inl ?_
  have h4 : ((SV.c (.clo YID []) :: caps).map SV.den)[t]? = some v'.den := by
   rw [List.getElem?_map]
   rw [Nat.sub_zero] at h3
   rw [h3]; rfl
  exact h4
 ·obtain ⟨_,h2,t1,h3,h4⟩ := mapN_mem hm
  obtain ⟨h5,rfl⟩ := fUp_ok h3
  exact .inr (.inl ⟨t1,h5,rfl,noYSV_ok h2,SR.den_get h4⟩)
 ·injection hm with h1 hm; injection hm with _ hm
  subst h1; subst hm
  exact .inr (.inr ⟨rfl,rfl⟩)
theorem leaveS_ok (r : SR) : LeaveR r.den (leaveS r).den := fun t v hv => by
 obtain ⟨v',hm,rfl⟩ := den_mem (fun t tg v hm => (mapN_mem hm).1) hv
 obtain ⟨_,h2,t1,h3,h4⟩ := mapN_mem hm
 obtain ⟨rfl,h5⟩ := fDown_ok h3
 exact ⟨h5,noYSV_ok h2,SR.den_get h4⟩
theorem modeS_ok {r : SR} {e : Exit} (h : modeS r = some e) : ∃ m,r.den.get GH = some (.c (.t (.fn m []))) ∧ modeE m e := by
 unfold modeS at h
 split at h
 ·rename_i m hm
  refine ⟨m,SR.den_get hm,?_⟩
  split at h
  ·injection h with h; exact .inl ⟨rfl,h.symm⟩
  ·cases h
  ·injection h with h; exact .inr (.inl ⟨rfl,h.symm⟩)
  ·rename_i k
   injection h with h; exact .inr (.inr ⟨k,rfl,h.symm⟩)
 ·cases h
def CC.rngAt : CC → Nat → CC
 | .seq a b,i => match Nat.blt i a.nl with | true => a.rngAt i | false => b.rngAt (i - a.nl)
 | .cond _ a b,i => match Nat.blt i a.nl with | true => a.rngAt i | false => b.rngAt (i - a.nl)
 | .block _ a,i => a.rngAt i
 | .loop a,i => match i with | 0 => .skip | i + 1 => a.rngAt i
 | .rng f ps a b,i => match i with | 0 => .rng f ps a b | _ + 1 => .skip
 | _,_ => .skip
def CC.rF : CC → Operand
 | .rng f _ _ _ => f
 | _ => .func 0
def CC.rP : CC → Array Tmp
 | .rng _ ps _ _ => ps
 | _ => #[]
def CC.rA : CC → CC
 | .rng _ _ a _ => a
 | _ => .skip
def CC.rB : CC → CC
 | .rng _ _ _ b => b
 | _ => .skip
def CC.isRng : CC → Bool
 | .rng .. => true
 | _ => false
def rngs : CC → Nat → List (Nat × CC)
 | .seq a b,i => rngs a i ++ rngs b (i + a.nl)
 | .cond _ a b,i => rngs a i ++ rngs b (i + a.nl)
 | .block _ a,i => rngs a i
 | .rng f ps a b,i => [(i,.rng f ps a b)]
 | _,_ => []
def AllR (P : Program) (N n0 : Nat) (E : Env) (l : List (Nat × CC)) : Prop := ∀ p ∈ l,∀ f ps a b,p.2 = .rng f ps a b → ∀ u,E.lp p.1 = some u → RngOkS P N n0 f ps a b u
theorem AllR.nil {P : Program} {N n0 : Nat} {E : Env} : AllR P N n0 E [] := fun p hp => by simp at hp
theorem AllR.cons {P : Program} {N n0 : Nat} {E : Env} {i : Nat} {R : CC} {l : List (Nat × CC)} {u : LoopS} (h1 : E.lp i = some u) (h0 : R.isRng = true) (h2 : RngOkS P N n0 R.rF R.rP R.rA R.rB u) (h : AllR P N n0 E l) : AllR P N n0 E ((i,R) :: l) := fun p hp f ps a b he u' hu => by
 rcases List.mem_cons.1 hp with rfl | hp
 ·have he : R = .rng f ps a b := he
  subst he
  rw [h1] at hu
  injection hu with hu
  subst hu
  exact h2
 ·exact h p hp f ps a b he u' hu
theorem RgOk.of {P : Program} {N : Nat} {ro : Option Nat} {n0 : Nat} {E : Env} (hro : ro = none) : ∀ {C : CC} {i : Nat},AllR P N n0 E (rngs C i) → RgOk P N ro n0 E none C i
 | .seq a b,i,h => ⟨RgOk.of hro fun p hp => h p (List.mem_append.2 (.inl hp)),RgOk.of hro fun p hp => h p (List.mem_append.2 (.inr hp))⟩
 | .cond _ a b,i,h => ⟨RgOk.of hro fun p hp => h p (List.mem_append.2 (.inl hp)),RgOk.of hro fun p hp => h p (List.mem_append.2 (.inr hp))⟩
 | .block _ a,i,h => RgOk.of hro (C := a) h
 | .rng f ps a b,i,h => ⟨hro,fun u hu => h (i,.rng f ps a b) (by simp [rngs]) f ps a b rfl u hu⟩
 | .skip,_,_ => trivial
 | .reg _,_,_ => trivial
 | .drw _ _,_,_ => trivial
 | .loop _,_,_ => trivial
 | .exit _,_,_ => trivial
 | .ret,_,_ => trivial
def roundRun {β : Type} (E : Env) (N : Nat) (A B : CC) (r : SR) (σ : SH) (K : Exit → SR → SH → Option β) : Option β :=
 exec E N A 0 r σ fun e r' σ' => match e with
  | .normal => match r'.free 3000000 with
   | true => exec E N B A.nl (r'.del 3000000) σ' K
   | false => none
  | _ => none
def rngRun {β : Type} (E : Env) (N : Nat) (C : CC) (gf : FuncId) (f : Operand) (r : SR) (σ : SH) (K : Exit → SR → SH → Option β) : Option β := match calleeS r [] f [] with
 | some (g,caps) => match Nat.beq g gf,noYSH σ,Nat.ble (1 + caps.length) N with
  | true,true,true => exec E N C 0 (enterS caps r) σ K
  | _,_,_ => none
 | none => none
def endK {Y : Type} (n0 : Nat) (q : Pt Y) : Exit → SR → SH → Option Y := fun e r σ => match e with
 | .normal => onGet (q.get n0 r σ) id
 | _ => none
def endK2 {Y Z : Type} (n0 : Nat) (q : Pt Y) (e2 : Exit) (s : Pt Z) : Exit → SR → SH → Option (Y ⊕ Z) := fun e r σ => match e with
 | .normal => onGet (q.get n0 r σ) .inl
 | e => match exitB e e2 with
  | true => onGet (s.get n0 r σ) .inr
  | false => none
def leaveK {β : Type} (K : Exit → SR → SH → Option β) : Exit → SR → SH → Option β := fun e r σ => match (match e with | .normal => true | .ret => true | _ => false),modeS r,noYSH σ with
 | true,some e',true => K e' (leaveS r) σ
 | _,_,_ => none
def mkUnit {X Y : Type} (n0 : Nat) (p : Pt X) (q : Pt Y) (step : X → Option Y) : LoopS := .one X Y (p.get n0) step fun _ y => (.normal,q.R y,q.H y)
def mkUnit2 {X Y Z : Type} (n0 : Nat) (p : Pt X) (q : Pt Y) (e2 : Exit) (s : Pt Z) (step : X → Option (Y ⊕ Z)) : LoopS := .two X Y Z (p.get n0) step (fun _ y => (.normal,q.R y,q.H y)) fun _ z => (e2,s.R z,s.H z)
section
variable {P : Program} {N : Nat} {ro : Option Nat} {n0 : Nat}
theorem endK_ok {Y : Type} {q : Pt Y} (hq : ∀ v,q.fr (q.to v) = v) {e : Exit} {r : SR} {σ : SH} {y : Y} (h : endK n0 q e r σ = some y) : e = .normal ∧ GhostF N n0 r.den (SH.den σ) (q.R y).den (SH.den (q.H y)) := by
 unfold endK at h
 split at h
 ·obtain ⟨z,h1,h2⟩ := onGet_ok h
  have h2 : z = y := h2
  subst h2
  exact ⟨rfl,Pt.get_ok hq h1⟩
 ·cases h
theorem endK2_ok {Y Z : Type} {q : Pt Y} {e2 : Exit} {s : Pt Z} (hq : ∀ v,q.fr (q.to v) = v) (hz : ∀ v,s.fr (s.to v) = v) {e : Exit} {r : SR} {σ : SH} {y : Y ⊕ Z} (h : endK2 n0 q e2 s e r σ = some y) :
  ∃ ρ τ,GhostF N n0 r.den (SH.den σ) ρ τ ∧ match y with | .inl y => e = .normal ∧ ρ = (q.R y).den ∧ τ = SH.den (q.H y) | .inr z => e = e2 ∧ ρ = (s.R z).den ∧ τ = SH.den (s.H z) := by
 have jump : ∀ e,(match exitB e e2 with | true => onGet (s.get n0 r σ) (Sum.inr (α := Y)) | false => none) = some y → ∃ ρ τ,GhostF N n0 r.den (SH.den σ) ρ τ ∧ match y with | .inl y => e = .normal ∧ ρ = (q.R y).den ∧ τ = SH.den (q.H y) | .inr z => e = e2 ∧ ρ = (s.R z).den ∧ τ = SH.den (s.H z) := fun e h => by
  split at h
  ·rename_i he
   obtain ⟨z,h1,h2⟩ := onGet_ok h
   subst h2
   exact ⟨_,_,Pt.get_ok hz h1,exitB_eq he,rfl,rfl⟩
  ·cases h
 cases e with
 | normal =>
  obtain ⟨z,h1,h2⟩ := onGet_ok h
  subst h2
  exact ⟨_,_,Pt.get_ok hq h1,rfl,rfl,rfl⟩
 | exit id => exact jump _ h
 | goto l => exact jump _ h
 | ret => exact jump _ h
 | panic ch => exact jump _ h
 | outgrown => exact jump _ h
theorem round_ok (hm : P.follows .mixedOrders = true) {E : Env} (hE : EnvOk P E) (hyb : E.yb = none) {A B : CC} {a b : Code} {ks ks' ks'' : KS} (ha : strip a ks = some (A,ks')) (hb : strip b ks' = some (B,ks'')) (hr : hasR A = false ∧ hasR B = false)
  (hlA : ∀ l,AllL P N (some l) n0 E (topL A 0)) (hlB : ∀ l,AllL P N (some l) n0 E (topL B A.nl)) {β : Type} {r : SR} {σ : SH} {K : Exit → SR → SH → Option β} {y : β} (h : roundRun E N A B r σ K = some y) :
  BodyF P N n0 a b r.den (SH.den σ) fun e ρ τ => ∃ r' σ',WR ρ r'.den ∧ WH τ (SH.den σ') ∧ K e r' σ' = some y := fun l => by
 refine (exec_ok hm hE (YldOk.no hyb) (hlA l) (RgOk.no hr.1) h ha).mono fun e ρ τ ⟨r',σ',h1,h2,h3⟩ => ?_
 split at h3
 ·split at h3
  ·rename_i hf
   refine ⟨rfl,(r'.del 3000000).den,h1.trans_sub (del_sub hf),SR.den_none (SR.get_del_same r' 3000000),?_⟩
   exact okF_ghost (ghost_weak WR.rfl' h2) (exec_ok hm hE (YldOk.no hyb) (hlB l) (RgOk.no hr.2) h3 hb)
  ·cases h3
 ·cases h3
theorem BodyF.ghost {a b : Code} {r r' : Regs} {σ σ' : Heap} {Q : Exit → Regs → Heap → Prop} (hg : GhostF N n0 r σ r' σ') (h : BodyF P N n0 a b r' σ' Q) : BodyF P N n0 a b r σ Q := fun l => okF_ghost hg (h l)
theorem BodyF.post {a b : Code} {r : Regs} {σ : Heap} {Q : Exit → Regs → Heap → Prop} (h : BodyF P N n0 a b r σ fun e r' σ' => ∃ r'' σ'',GhostF N n0 r' σ' r'' σ'' ∧ Q e r'' σ'') : BodyF P N n0 a b r σ Q :=
 fun l => (h l).mono fun _ _ _ ⟨h1,r'',h2,h3,h4⟩ => ⟨h1,r'',h2,h3,okF_post h4⟩
structure Rnd (A B : CC) (ps : Array Tmp) (N : Nat) (y : YI) : Prop where
 ps : y.ps = ps
 n : y.n = N
 ex : ∃ ks ks' ks'',strip y.assign ks = some (A,ks') ∧ strip y.body ks' = some (B,ks'')
theorem mkBody_ok (hm : P.follows .mixedOrders = true) {E : Env} (hE : EnvOk P E) (hyb : E.yb = none) {A B : CC} (hr : hasR A = false ∧ hasR B = false) {X Y : Type} {p : Pt X} {q : Pt Y} {step : X → Option Y} (hp : ∀ v,p.fr (p.to v) = v) (hq : ∀ v,q.fr (q.to v) = v)
  (hlA : ∀ l,AllL P N (some l) n0 E (topL A 0)) (hlB : ∀ l,AllL P N (some l) n0 E (topL B A.nl)) (hstep : ∀ x,roundRun E N A B (p.R x) (p.H x) (endK n0 q) = step x) {ps : Array Tmp} {y : YI} (hy : Rnd A B ps N y) : BodyOkS P N n0 y.assign y.body (mkUnit n0 p q step) := by
 obtain ⟨ks,ks',ks'',ha,hb⟩ := hy.ex
 intro r σ x y hx hy
 refine BodyF.ghost (Pt.get_ok hp hx) (BodyF.post ((round_ok hm hE hyb ha hb hr hlA hlB ((hstep x).trans hy)).mono fun e ρ τ ⟨r',σ',h1,h2,h3⟩ => ?_))
 obtain ⟨h4,h5⟩ := endK_ok (N := N) hq h3
 exact ⟨_,_,(ghost_weak h1 h2).tr h5,h4,WR.rfl',WH.rfl'⟩
theorem mkBody2_ok (hm : P.follows .mixedOrders = true) {E : Env} (hE : EnvOk P E) (hyb : E.yb = none) {A B : CC} (hr : hasR A = false ∧ hasR B = false) {X Y Z : Type} {p : Pt X} {q : Pt Y} {e2 : Exit} {s : Pt Z} {step : X → Option (Y ⊕ Z)} (hp : ∀ v,p.fr (p.to v) = v) (hq : ∀ v,q.fr (q.to v) = v) (hz : ∀ v,s.fr (s.to v) = v)
  (hlA : ∀ l,AllL P N (some l) n0 E (topL A 0)) (hlB : ∀ l,AllL P N (some l) n0 E (topL B A.nl)) (hstep : ∀ x,roundRun E N A B (p.R x) (p.H x) (endK2 n0 q e2 s) = step x) {ps : Array Tmp} {y : YI} (hy : Rnd A B ps N y) : BodyOkS P N n0 y.assign y.body (mkUnit2 n0 p q e2 s step) := by
 obtain ⟨ks,ks',ks'',ha,hb⟩ := hy.ex
 intro r σ x y hx hy
 refine BodyF.ghost (Pt.get_ok hp hx) (BodyF.post ((round_ok hm hE hyb ha hb hr hlA hlB ((hstep x).trans hy)).mono fun e ρ τ ⟨r',σ',h1,h2,h3⟩ => ?_))
 obtain ⟨ρ',τ',h4,h5⟩ := endK2_ok (N := N) hq hz h3
 refine ⟨ρ',τ',(ghost_weak h1 h2).tr h4,?_⟩
 cases y with
 | inl y => obtain ⟨h6,rfl,rfl⟩ := h5; exact ⟨h6,WR.rfl',WH.rfl'⟩
 | inr y => obtain ⟨h6,rfl,rfl⟩ := h5; exact ⟨h6,WR.rfl',WH.rfl'⟩
theorem yld_ok {E : Env} {ps : Array Tmp} {u : LoopS} (he : E.yb = some (ps,u)) {A B : CC} {y : YI} (hN : Nat.ble N 1000000 = true) (hps : allLt N ps.toList = true) (hb : ∀ {y : YI},Rnd A B ps N y → BodyOkS P N n0 y.assign y.body u) (hy : Rnd A B ps N y) : YldOk P n0 E (some y) := fun ps' u' e => by
 rw [he] at e
 simp only [Option.some.injEq,Prod.mk.injEq] at e
 obtain ⟨rfl,rfl⟩ := e
 refine ⟨y,rfl,hy.ps,by rw [hy.n]; exact Nat.le_of_ble_eq_true hN,by rw [hy.n]; exact allLt_ok hps,?_⟩
 have := hb hy
 rw [hy.n]; exact this
theorem rng_ok (hm : P.follows .mixedOrders = true) {E : Env} (hE : EnvOk P E) {A B : CC} {ps : Array Tmp} (hyk : ∀ {y : YI},Rnd A B ps N y → YldOk P n0 E (some y)) {gf : FuncId} {Ng : Nat} {C : CC} (hs : Stripped P gf Ng [] C) (hr : hasR C = false)
  (hl : ∀ {y : YI},Rnd A B ps N y → AllL P Ng none n0 E (topL C 0) (some y)) {a b : Code} {ks ks' ks'' : KS} (ha : strip a ks = some (A,ks')) (hb : strip b ks' = some (B,ks'')) {f : Operand} {β : Type} {r : SR} {σ : SH} {K : Exit → SR → SH → Option β} {y : β}
  (h : rngRun E Ng C gf f r σ (leaveK K) = some y) : CodeF P N none n0 none (.rangeFunc f ps a b) r.den (SH.den σ) fun e ρ τ => ∃ r' σ',ρ = r'.den ∧ τ = SH.den σ' ∧ K e r' σ' = some y := by
 unfold rngRun at h
 split at h
 ·rename_i g caps hcal
  split at h
  ·rename_i h1 h2 h3
   have := eqB h1
   subst this
   have hce := calleeS_ok (L := []) SubR.rfl' rfl hcal
   unfold callE at hce
   split at hce
   ·rename_i fv as0 e1 e2
    split at hce
    ·rename_i g' caps' e3
     injection hce with hce
     injection hce with e4 e5
     subst e4
     have e6 : as0 = [] := by
      simp only [evl,Option.some.injEq] at e2
      exact e2.symm
     rw [e6,List.nil_append] at e5
     obtain ⟨fn,c,kc,kc',q1,q2,q3,rfl,q5,q6,q7⟩ := hs.ex
     have hrnd : Rnd A B ps N ⟨ps,a,b,N⟩ := ⟨rfl,rfl,ks,ks',ks'',ha,hb⟩
     have hx := exec_ok hm hE (hyk hrnd) (hl hrnd) (RgOk.no hr) h q6
     refine okF_rng e1 e3 q1 q2 q3 q5 (Nat.le_of_ble_eq_true q7) ?_ (noYSH_ok h2) (ri := (enterS caps r).den) (by rw [e5]; exact enterS_ok caps r)
      (Qi := fun e ρ τ => ∃ r' σ',ρ = r'.den ∧ τ = SH.den σ' ∧ leaveK K e r' σ' = some y) (okF_post (hx.mono fun e ρ τ ⟨r',σ',p1,p2,p3⟩ => ⟨_,_,ghost_weak p1 p2,r',σ',rfl,rfl,p3⟩)) fun e ρ τ ⟨r',σ',p1,p2,p3⟩ => ?_
     ·have : caps'.length = caps.length := by rw [e5]; simp
      rw [this]; exact Nat.le_of_ble_eq_true h3
     ·subst p1; subst p2
      unfold leaveK at p3
      split at p3
      ·rename_i e' p4 p5 p6
       obtain ⟨m,p7,p8⟩ := modeS_ok p5
       exact ⟨(by cases e <;> first | exact .inl rfl | exact .inr rfl | cases p4),m,e',_,p7,p8,leaveS_ok r',noYSH_ok p6,_,σ',rfl,rfl,p3⟩
      ·cases p3
    ·cases hce
   ·cases hce
  ·cases h
 ·cases h
theorem mkRng_ok (hm : P.follows .mixedOrders = true) {E : Env} (hE : EnvOk P E) {A B : CC} {ps : Array Tmp} (hyk : ∀ {y : YI},Rnd A B ps N y → YldOk P n0 E (some y)) {gf : FuncId} {Ng : Nat} {C : CC} (hs : Stripped P gf Ng [] C) (hr : hasR C = false)
  (hl : ∀ {y : YI},Rnd A B ps N y → AllL P Ng none n0 E (topL C 0) (some y)) {f : Operand} {X Y : Type} {p : Pt X} {q : Pt Y} {step : X → Option Y} (hp : ∀ v,p.fr (p.to v) = v) (hq : ∀ v,q.fr (q.to v) = v)
  (hstep : ∀ x,rngRun E Ng C gf f (p.R x) (p.H x) (leaveK (endK n0 q)) = step x) : RngOkS P N n0 f ps A B (mkUnit n0 p q step) := by
 intro a b ks ks' ks'' ha hb r σ x y hx hy
 refine okF_ghost (Pt.get_ok hp hx) (okF_post ((rng_ok hm hE hyk hs hr hl ha hb ((hstep x).trans hy)).mono fun e ρ τ ⟨r',σ',h1,h2,h3⟩ => ?_))
 subst h1; subst h2
 obtain ⟨h4,h5⟩ := endK_ok (N := N) hq h3
 exact ⟨_,_,h5,h4,WR.rfl',WH.rfl'⟩
theorem mkRng2_ok (hm : P.follows .mixedOrders = true) {E : Env} (hE : EnvOk P E) {A B : CC} {ps : Array Tmp} (hyk : ∀ {y : YI},Rnd A B ps N y → YldOk P n0 E (some y)) {gf : FuncId} {Ng : Nat} {C : CC} (hs : Stripped P gf Ng [] C) (hr : hasR C = false)
  (hl : ∀ {y : YI},Rnd A B ps N y → AllL P Ng none n0 E (topL C 0) (some y)) {f : Operand} {X Y Z : Type} {p : Pt X} {q : Pt Y} {e2 : Exit} {s : Pt Z} {step : X → Option (Y ⊕ Z)} (hp : ∀ v,p.fr (p.to v) = v) (hq : ∀ v,q.fr (q.to v) = v) (hz : ∀ v,s.fr (s.to v) = v)
  (hstep : ∀ x,rngRun E Ng C gf f (p.R x) (p.H x) (leaveK (endK2 n0 q e2 s)) = step x) : RngOkS P N n0 f ps A B (mkUnit2 n0 p q e2 s step) := by
 intro a b ks ks' ks'' ha hb r σ x y hx hy
 refine okF_ghost (Pt.get_ok hp hx) (okF_post ((rng_ok hm hE hyk hs hr hl ha hb ((hstep x).trans hy)).mono fun e ρ τ ⟨r',σ',h1,h2,h3⟩ => ?_))
 subst h1; subst h2
 obtain ⟨ρ',τ',h4,h5⟩ := endK2_ok (N := N) hq hz h3
 refine ⟨ρ',τ',h4,?_⟩
 cases y with
 | inl y => obtain ⟨h6,rfl,rfl⟩ := h5; exact ⟨h6,WR.rfl',WH.rfl'⟩
 | inr y => obtain ⟨h6,rfl,rfl⟩ := h5; exact ⟨h6,WR.rfl',WH.rfl'⟩
end
end Go.Abs
