/-
  A general library: empty slices become objects; loops of symbolic runs.
-/
import Derived.Test.YtogkpjhkpgdbkaaDoorWR2QSyE
set_option linter.all false
namespace Go.Abs
variable [Gl]
def iterN {X Y : Type} (step : X → Option (X ⊕ Y)) : Nat → X → Option Y
 | 0,_ => none
 | n + 1,x => match step x with
  | some (.inl x') => iterN step n x'
  | some (.inr y) => some y
  | none => none
open Classical in noncomputable def iter {X Y : Type} (step : X → Option (X ⊕ Y)) (x : X) : Option Y := if h : ∃ n,(iterN step n x).isSome = true then iterN step h.choose x else none
section
variable {X Y : Type} {step : X → Option (X ⊕ Y)}
theorem iterN_mono : ∀ {n m : Nat} {x : X} {y : Y},iterN step n x = some y → n ≤ m → iterN step m x = some y
 | 0,_,_,_,h,_ => by cases h
 | n + 1,0,_,_,_,hm => by omega
 | n + 1,m + 1,x,y,h,hm => by
  simp only [iterN] at h ⊢
  split at h
  ·rename_i x' hx; exact iterN_mono h (by omega)
  ·exact h
  ·cases h
theorem iter_of {n : Nat} {x : X} {y : Y} (h : iterN step n x = some y) : iter step x = some y := by
 have he : ∃ n,(iterN step n x).isSome = true := ⟨n,by rw [h]; rfl⟩
 unfold iter
 rw [dif_pos he]
 have h1 := he.choose_spec
 rw [Option.isSome_iff_exists] at h1
 obtain ⟨z,hz⟩ := h1
 rw [hz]
 have h2 := iterN_mono h (Nat.le_max_left n he.choose)
 have h3 := iterN_mono hz (Nat.le_max_right n he.choose)
 rw [h2] at h3
 exact h3.symm
theorem iter_some {x : X} {y : Y} (h : iter step x = some y) : ∃ n,iterN step n x = some y := by
 unfold iter at h
 split at h
 ·exact ⟨_,h⟩
 ·cases h
theorem iter_eq (x : X) : iter step x = match step x with
  | some (.inl x') => iter step x'
  | some (.inr y) => some y
  | none => none := by
 cases h : iter step x with
 | some y =>
  obtain ⟨n,hn⟩ := iter_some h
  cases n with
  | zero => cases hn
  | succ n =>
   simp only [iterN] at hn
   split at hn
   ·rename_i x' hx; exact (iter_of hn).symm
   ·exact hn.symm
   ·cases hn
 | none =>
  split
  ·rename_i x' hx
   cases h' : iter step x' with
   | none => rfl
   | some y =>
    obtain ⟨n,hn⟩ := iter_some h'
    have : iterN step (n + 1) x = some y := by simp only [iterN,hx,hn]
    rw [iter_of this] at h
    cases h
  ·rename_i y hy
   have : iterN step 1 x = some y := by simp only [iterN,hy]
   rw [iter_of this] at h
   cases h
  ·rfl
end
inductive GOp where
 | reg (t : Nat) (c : Ly)
 | cell (id k : Nat) (c : Ly)
def ownG (r : SR) (σ : SH) : GOp → SR × SH
 | .reg t c => match r.get t with
  | some ([],.c .nils) => match r.free t with
   | true => (r.set t ([],.c (.sl σ.length 0 c.size 0 0 none)),σ ++ [.arr c [] 0])
   | false => (r,σ)
  | _ => (r,σ)
 | .cell id k c => match σ[id]? with
  | some (.st cs es ep) => match cs[k]? with
   | some .nils => (r,σ.set id (.st (cs.set k (.sl σ.length 0 c.size 0 0 none)) es ep) ++ [.arr c [] 0])
   | _ => (r,σ)
  | _ => (r,σ)
def ownsG : List GOp → SR → SH → SR × SH
 | [],r,σ => (r,σ)
 | g :: gs,r,σ => match ownG r σ g with | (r',σ') => ownsG gs r' σ'
theorem ghost_ownH {N : Nat} {r : Regs} {σ : Heap} {id k : Nat} {o : Obj} (es : Nat) (ho : σ[id]? = some o) (hk : o.cs[k]? = some (.t (.imm [] 0 (some 0)))) :
   Ghost N r σ r (σ.set id { o with cs := o.cs.set k (.sl ⟨σ.length,0,0⟩ 0 none) } ++ [{ cs := [],es := es }]) := fun ι w a hh hr => by
 have hlen : (σ.set id { o with cs := o.cs.set k (.sl ⟨σ.length,0,0⟩ 0 none) }).length = σ.length := by simp
 have hst : Step ι σ w (ι.push σ.length ⟨none,es,0⟩) (σ.set id { o with cs := o.cs.set k (.sl ⟨σ.length,0,0⟩ 0 none) } ++ [{ cs := [],es := es }]) w := {
   len := by simp
   size := Nat.le_refl _
   os := rfl
   out := rfl
   keep := fun id s' hs' => ⟨s',by rw [Map.push_ne _ _ (Nat.ne_of_lt (hh.lt hs'))]; exact hs',Nat.le_refl _,fun _ => rfl⟩
   none := fun id hid hn => by rw [Map.push_ne _ _ (Nat.ne_of_lt hid)]; exact hn
   new := fun id s' l' h1 h2 => by
     by_cases e : id = σ.length
     · subst e
       rw [Map.push_same] at h1
       injection h1 with h1
       subst h1
       cases h2
     · rw [Map.push_ne _ _ e] at h1
       exact .inr ⟨id,s',l',h1,h2,rfl⟩
   res := rfl
   ex := rfl
   resKeep := fun _ _ => rfl
   frame := fun _ _ _ => rfl }
 have href : ∀ (ad : Option Addr),refAt (ι.push σ.length ⟨none,es,0⟩) ⟨σ.length,0,0⟩ (slOk 0 0 none ad 0) := fun ad =>
   ⟨⟨none,es,0⟩,Map.push_same _ _ _,Nat.le_refl _,fun _ => ⟨Nat.le_refl _,trivial,rfl,rfl,rfl⟩⟩
 refine ⟨ι.push σ.length ⟨none,es,0⟩,⟨fun id' s h1 => ?_,fun id id' s s' l l' h1 h2 h3 h4 h5 => ?_,hh.resRow,fun id s l h1 h2 hr => ?_⟩,hr.step hh hst,hst⟩
 · by_cases e1 : id' = σ.length
   · subst e1
     rw [Map.push_same] at h1
     injection h1 with h1
     subst h1
     exact ⟨_,by rw [List.getElem?_append_right (by rw [hlen]; exact Nat.le_refl _),hlen,Nat.sub_self]; rfl,rfl,rfl,rfl⟩
   · rw [Map.push_ne _ _ e1] at h1
     obtain ⟨o',h2,h3⟩ := hh.obj id' s h1
     have hlt := hh.lt h1
     by_cases e2 : id' = id
     · subst e2
       rw [ho] at h2
       injection h2 with h2
       subst h2
       refine ⟨{ o with cs := o.cs.set k (.sl ⟨σ.length,0,0⟩ 0 none) },by rw [List.getElem?_append_left (by rw [hlen]; exact hlt),List.getElem?_set_self hlt],?_⟩
       obtain ⟨h4,h5,h6⟩ := h3
       refine ⟨h4,h5,?_⟩
       cases hl : s.loc with
       | none =>
         rw [hl] at h6
         have h6' : o.cs = [] := h6
         rw [h6'] at hk
         simp at hk
       | some l =>
         rw [hl] at h6
         refine ⟨h6.1,by simpa using h6.2.1,fun i hi => ?_⟩
         obtain ⟨v,h7,h8⟩ := h6.2.2 i (by simpa using hi)
         refine ⟨v,h7,?_⟩
         by_cases e3 : k = i
         · subst e3
           simp only [List.getElem_set_self]
           have e4 : o.cs[k]'(by simpa using hi) = .t (.imm [] 0 (some 0)) := by
             rw [List.getElem?_eq_getElem (by simpa using hi)] at hk
             injection hk
           rw [e4] at h8
           have h8' : TR ι.un w (.imm [] 0 (some 0)) v := h8
           cases h8' with
           | imm0 cap ad c hc =>
             have : c = 0 := hc
             subst this
             exact ⟨ad,0,rfl,.inl rfl,href ad⟩
           | imm cs len cap b off c f h1 h2 h3 h4 =>
             have : c = 0 := h3
             subst this
             exact ⟨_,0,rfl,.inl rfl,href _⟩
         · simp only [List.getElem_set_ne e3]
           exact h8.step hst
     · exact ⟨o',by rw [List.getElem?_append_left (by rw [hlen]; exact hlt),List.getElem?_set_ne (Ne.symm e2)]; exact h2,h3.congr hst (fun l hl => rfl)⟩
 · by_cases e1 : id = σ.length
   · subst e1
     rw [Map.push_same] at h1
     injection h1 with h1
     subst h1
     cases h3
   · by_cases e2 : id' = σ.length
     · subst e2
       rw [Map.push_same] at h2
       injection h2 with h2
       subst h2
       cases h4
     · rw [Map.push_ne _ _ e1] at h1
       rw [Map.push_ne _ _ e2] at h2
       exact hh.inj id id' s s' l l' h1 h2 h3 h4 h5
 · by_cases e1 : id = σ.length
   · subst e1
     rw [Map.push_same] at h1
     injection h1 with h1
     subst h1
     cases h2
   · rw [Map.push_ne _ _ e1] at h1
     exact hh.resNo id s l h1 h2 hr
section
variable {P : Program} {N : Nat} {ro : Option Nat} {n0 : Nat} {yk : Option YI}
theorem ownG_ok {r r' : SR} {σ σ' : SH} {g : GOp} (h : ownG r σ g = (r',σ')) : GhostF N n0 r.den (SH.den σ) r'.den (SH.den σ') := by
 have same : (r,σ) = (r',σ') → GhostF N n0 r.den (SH.den σ) r'.den (SH.den σ') := fun e => by injection e with e1 e2; subst e1; subst e2; exact GhostF.rfl'
 cases g with
 | reg t c =>
  simp only [ownG] at h
  split at h
  ·rename_i hg
   split at h
   ·rename_i hf
    injection h with e1 e2
    subst e1; subst e2
    have hd : r.den.get t = some (.c (.t (.imm [] 0 (some 0)))) := SR.den_get hg
    refine (Ghost.f (ghost_own c.size hd) n0).tr (ghost_weak ?_ ?_)
    ·refine SubR.wr fun t' u hu => ?_
     rcases set_get hf rfl hu with ⟨rfl,rfl⟩ | ⟨h1,h2⟩
     ·rw [Regs.get_set_same]
      simp only [SR.dv,SV.den,SC.den,SH.den_length,Nat.zero_mul]
     ·rw [Regs.get_set_ne _ _ (Ne.symm h1)]
      exact h2
    ·rw [SH.den_push]
     exact WH.rfl'
   ·exact same h
  ·exact same h
 | cell id k c =>
  simp only [ownG] at h
  split at h
  ·rename_i cs es ep ho
   split at h
   ·rename_i hk
    injection h with e1 e2
    subst e1; subst e2
    have hk' : (SO.st cs es ep).den.cs[k]? = some (.t (.imm [] 0 (some 0))) := by simp [SO.den,hk,SC.den]
    have := Ghost.f (N := N) (r := r.den) (ghost_ownH c.size (SH.den_get ho) hk') n0
    rw [SH.den_push,SH.den_set]
    simpa [SO.den,SC.den,SH.den_length,List.map_set] using this
   ·exact same h
  ·exact same h
theorem ownsG_ok : ∀ {gs : List GOp} {r r' : SR} {σ σ' : SH},ownsG gs r σ = (r',σ') → GhostF N n0 r.den (SH.den σ) r'.den (SH.den σ')
 | [],r,r',σ,σ',h => by injection h with e1 e2; subst e1; subst e2; exact GhostF.rfl'
 | g :: gs,r,r',σ,σ',h => by
  simp only [ownsG] at h
  exact (ownG_ok rfl).tr (ownsG_ok h)
def exitB : Exit → Exit → Bool
 | .normal,.normal => true
 | .ret,.ret => true
 | .exit a,.exit b => Nat.beq a b
 | _,_ => false
theorem exitB_eq {a b : Exit} (h : exitB a b = true) : a = b := by
 unfold exitB at h
 split at h
 ·rfl
 ·rfl
 ·rw [eqB h]
 ·cases h
structure Pt (X : Type) where
 own : List GOp
 t : Tm
 to : t.T → X
 fr : X → t.T
def Pt.get {X : Type} (p : Pt X) (n0 : Nat) (r : SR) (σ : SH) : Option (Bool × X) := match ownsG p.own r σ with
 | (r',σ') => match p.t.get n0 r' σ' with
  | some (b,v) => some (b,p.to v)
  | none => none
def Pt.R {X : Type} (p : Pt X) (x : X) : SR := p.t.fr (p.fr x)
def Pt.H {X : Type} (p : Pt X) (x : X) : SH := p.t.fh (p.fr x)
theorem Pt.get_ok {X : Type} {p : Pt X} (hp : ∀ v,p.fr (p.to v) = v) {r : SR} {σ : SH} {x : X} (h : p.get n0 r σ = some (true,x)) : GhostF N n0 r.den (SH.den σ) (p.R x).den (SH.den (p.H x)) := by
 unfold Pt.get at h
 split at h
 rename_i r' σ' ho
 split at h
 ·rename_i b v hv
  simp only [Option.some.injEq,Prod.mk.injEq] at h
  obtain ⟨rfl,rfl⟩ := h
  refine (ownsG_ok ho).tr ?_
  unfold Pt.R Pt.H
  rw [hp]
  exact Tm.get_ok hv
 ·cases h
def onGet {X Y : Type} (o : Option (Bool × X)) (k : X → Y) : Option Y := match o with
 | some (b,x) => bif b then some (k x) else none
 | none => none
theorem onGet_ok {X Y : Type} {o : Option (Bool × X)} {k : X → Y} {y : Y} (h : onGet o k = some y) : ∃ x,o = some (true,x) ∧ k x = y := by
 unfold onGet at h
 split at h
 ·rename_i b x
  cases b with
  | true => simp only [cond_true,Option.some.injEq] at h; exact ⟨x,rfl,h⟩
  | false => cases h
 ·cases h
def roundK {X Y : Type} (n0 : Nat) (p : Pt X) (e1 : Exit) (q : Pt Y) : Exit → SR → SH → Option (X ⊕ Y) := fun e r σ => match e with
 | .normal => onGet (p.get n0 r σ) .inl
 | e => match exitB e e1 with
  | true => onGet (q.get n0 r σ) .inr
  | false => none
def roundK2 {X Y Z : Type} (n0 : Nat) (p : Pt X) (e1 : Exit) (q : Pt Y) (e2 : Exit) (s : Pt Z) : Exit → SR → SH → Option (X ⊕ (Y ⊕ Z)) := fun e r σ => match e with
 | .normal => onGet (p.get n0 r σ) .inl
 | e => match exitB e e1 with
  | true => onGet (q.get n0 r σ) fun y => .inr (.inl y)
  | false => match exitB e e2 with
   | true => onGet (s.get n0 r σ) fun y => .inr (.inr y)
   | false => none
noncomputable def mkLoop {X Y : Type} (n0 : Nat) (p : Pt X) (e1 : Exit) (q : Pt Y) (step : X → Option (X ⊕ Y)) : LoopS := .one X Y (p.get n0) (iter step) fun _ y => (e1,q.R y,q.H y)
noncomputable def mkLoop2 {X Y Z : Type} (n0 : Nat) (p : Pt X) (e1 : Exit) (q : Pt Y) (e2 : Exit) (s : Pt Z) (step : X → Option (X ⊕ (Y ⊕ Z))) : LoopS := .two X Y Z (p.get n0) (iter step) (fun _ y => (e1,q.R y,q.H y)) (fun _ z => (e2,s.R z,s.H z))
theorem mkLoop_ok (hm : P.follows .mixedOrders = true) {E : Env} (hE : EnvOk P E) {X Y : Type} {p : Pt X} {e1 : Exit} {q : Pt Y} {step : X → Option (X ⊕ Y)} {B : CC} {i : Nat} (he : match e1 with | .panic _ | .outgrown | .normal => False | _ => True)
  (hp : ∀ v,p.fr (p.to v) = v) (hq : ∀ v,q.fr (q.to v) = v) (hl : AllL P N ro n0 E (topL B i) yk) (hstep : ∀ x,exec E N B i (p.R x) (p.H x) (roundK n0 p e1 q) = step x)
  (hyk : YldOk P n0 E yk := by exact YldOk.no rfl) (hg : RgOk P N ro n0 E yk B i := by exact RgOk.no (by kernel_rfl)) : LoopOkS P N ro n0 B (mkLoop n0 p e1 q step) yk := by
 intro c ks ks' hs r σ x y hx hy
 obtain ⟨n,hn⟩ := iter_some hy
 refine okF_ghost (Pt.get_ok hp hx) ?_
 refine (okF_loop (fun n r σ => ∃ x,iterN step n x = some y ∧ r = (p.R x).den ∧ σ = SH.den (p.H x)) (n := n) (Q := fun e ρ τ => e = e1 ∧ ρ = (q.R y).den ∧ τ = SH.den (q.H y)) ⟨x,hn,rfl,rfl⟩ ?_).mono fun e ρ τ ⟨h1,h2,h3⟩ => ⟨h1,by rw [h2]; exact WR.rfl',by rw [h3]; exact WH.rfl'⟩
 rintro n r1 σ1 ⟨x1,h1,rfl,rfl⟩
 cases n with
 | zero => cases h1
 | succ n =>
  simp only [iterN] at h1
  have hs1 := hstep x1
  cases hb : step x1 with
  | none => rw [hb] at h1; cases h1
  | some b =>
   rw [hb] at hs1 h1
   refine okF_post ((exec_ok hm hE hyk hl hg hs1 hs).mono fun e ρ τ ⟨r',σ',h2,h3,h4⟩ => ?_)
   have left : ∀ (e : Exit),(match exitB e e1 with | true => onGet (q.get n0 r' σ') (Sum.inr (α := X)) | false => none) = some b → ∃ r'' σ'',GhostF N n0 ρ τ r'' σ'' ∧ (e = e1 ∧ r'' = (q.R y).den ∧ σ'' = SH.den (q.H y)) := fun e h => by
    split at h
    ·rename_i heq
     obtain ⟨z,h5,h6⟩ := onGet_ok h
     subst h6
     simp only [Option.some.injEq] at h1
     subst h1
     exact ⟨_,_,(ghost_weak h2 h3).tr (Pt.get_ok hq h5),exitB_eq heq,rfl,rfl⟩
    ·cases h
   cases e with
   | normal =>
    obtain ⟨z,h5,h6⟩ := onGet_ok h4
    subst h6
    exact ⟨_,_,(ghost_weak h2 h3).tr (Pt.get_ok hp h5),n,Nat.lt_succ_self n,z,h1,rfl,rfl⟩
   | exit id => exact left _ h4
   | goto l => exact left _ h4
   | ret => exact left _ h4
   | panic ch => exact left _ h4
   | outgrown => exact left _ h4
def leftAt {Y Z : Type} (e1 : Exit) (q : Pt Y) (e2 : Exit) (s : Pt Z) (y : Y ⊕ Z) (e : Exit) (r : Regs) (σ : Heap) : Prop := match y with
 | .inl y => e = e1 ∧ r = (q.R y).den ∧ σ = SH.den (q.H y)
 | .inr y => e = e2 ∧ r = (s.R y).den ∧ σ = SH.den (s.H y)
theorem mkLoop2_ok (hm : P.follows .mixedOrders = true) {E : Env} (hE : EnvOk P E) {X Y Z : Type} {p : Pt X} {e1 : Exit} {q : Pt Y} {e2 : Exit} {s : Pt Z} {step : X → Option (X ⊕ (Y ⊕ Z))} {B : CC} {i : Nat}
  (he : match e1 with | .panic _ | .outgrown | .normal => False | _ => True) (he2 : match e2 with | .panic _ | .outgrown | .normal => False | _ => True)
  (hp : ∀ v,p.fr (p.to v) = v) (hq : ∀ v,q.fr (q.to v) = v) (hz : ∀ v,s.fr (s.to v) = v) (hl : AllL P N ro n0 E (topL B i) yk) (hstep : ∀ x,exec E N B i (p.R x) (p.H x) (roundK2 n0 p e1 q e2 s) = step x)
  (hyk : YldOk P n0 E yk := by exact YldOk.no rfl) (hg : RgOk P N ro n0 E yk B i := by exact RgOk.no (by kernel_rfl)) : LoopOkS P N ro n0 B (mkLoop2 n0 p e1 q e2 s step) yk := by
 intro c ks ks' hs r σ x y hx hy
 obtain ⟨n,hn⟩ := iter_some hy
 refine okF_ghost (Pt.get_ok hp hx) ?_
 refine (okF_loop (fun n r σ => ∃ x,iterN step n x = some y ∧ r = (p.R x).den ∧ σ = SH.den (p.H x)) (n := n) (Q := leftAt e1 q e2 s y) ⟨x,hn,rfl,rfl⟩ ?_).mono fun e ρ τ hh => by
  cases y with
  | inl y => have hh : e = e1 ∧ ρ = (q.R y).den ∧ τ = SH.den (q.H y) := hh; exact ⟨hh.1,by rw [hh.2.1]; exact WR.rfl',by rw [hh.2.2]; exact WH.rfl'⟩
  | inr y => have hh : e = e2 ∧ ρ = (s.R y).den ∧ τ = SH.den (s.H y) := hh; exact ⟨hh.1,by rw [hh.2.1]; exact WR.rfl',by rw [hh.2.2]; exact WH.rfl'⟩
 rintro n r1 σ1 ⟨x1,h1,rfl,rfl⟩
 cases n with
 | zero => cases h1
 | succ n =>
  simp only [iterN] at h1
  have hs1 := hstep x1
  cases hb : step x1 with
  | none => rw [hb] at h1; cases h1
  | some b =>
   rw [hb] at hs1 h1
   refine okF_post ((exec_ok hm hE hyk hl hg hs1 hs).mono fun e ρ τ ⟨r',σ',h2,h3,h4⟩ => ?_)
   have left : ∀ (e : Exit),(match exitB e e1 with | true => onGet (q.get n0 r' σ') (fun y => Sum.inr (α := X) (Sum.inl (β := Z) y)) | false => match exitB e e2 with | true => onGet (s.get n0 r' σ') (fun y => Sum.inr (α := X) (Sum.inr (α := Y) y)) | false => none) = some b →
     ∃ r'' σ'',GhostF N n0 ρ τ r'' σ'' ∧ leftAt e1 q e2 s y e r'' σ'' := fun e h => by
    split at h
    ·rename_i heq
     obtain ⟨z,h5,h6⟩ := onGet_ok h
     subst h6
     simp only [Option.some.injEq] at h1
     subst h1
     exact ⟨_,_,(ghost_weak h2 h3).tr (Pt.get_ok hq h5),exitB_eq heq,rfl,rfl⟩
    ·split at h
     ·rename_i heq
      obtain ⟨z,h5,h6⟩ := onGet_ok h
      subst h6
      simp only [Option.some.injEq] at h1
      subst h1
      exact ⟨_,_,(ghost_weak h2 h3).tr (Pt.get_ok hz h5),exitB_eq heq,rfl,rfl⟩
     ·cases h
   cases e with
   | normal =>
    obtain ⟨z,h5,h6⟩ := onGet_ok h4
    subst h6
    exact ⟨_,_,(ghost_weak h2 h3).tr (Pt.get_ok hp h5),n,Nat.lt_succ_self n,z,h1,rfl,rfl⟩
   | exit id => exact left _ h4
   | goto l => exact left _ h4
   | ret => exact left _ h4
   | panic ch => exact left _ h4
   | outgrown => exact left _ h4
end
end Go.Abs
