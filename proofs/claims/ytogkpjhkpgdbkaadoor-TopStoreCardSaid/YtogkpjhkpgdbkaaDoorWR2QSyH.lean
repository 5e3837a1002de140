/-
  A general library: contracts of symbolic runs, put to use at calls.
-/
import Derived.Test.YtogkpjhkpgdbkaaDoorWR2QSyG
set_option linter.all false
namespace Go.Abs
variable [Gl]
def SV.isTS : SV → Bool
 | .c x => x.isT
 | .agg xs => allTS xs
 | .tup xs => xs.all fun | .inl x => x.isT | .inr xs => allTS xs
theorem isT_av {c : SC} (h : c.isT = true) : c.den.isT = true := by cases c <;> first | rfl | cases h
theorem allTS_av : ∀ {cs : List SC},allTS cs = true → (cs.map SC.den).all Cell.isT = true
 | [],_ => rfl
 | c :: cs,h => by
  simp only [allTS] at h
  split at h
  ·rename_i hc; simp only [List.map_cons,List.all_cons,isT_av hc,allTS_av h,Bool.and_self]
  ·cases h
theorem isTS_av {v : SV} (h : v.isTS = true) : v.den.isT = true := by
 cases v with
 | c x => exact isT_av h
 | agg xs => exact allTS_av h
 | tup xs =>
  simp only [SV.isTS] at h
  simp only [SV.den,AV.isT,List.all_map]
  rw [List.all_eq_true] at h ⊢
  intro x hx
  have := h x hx
  cases x with
  | inl x => exact isT_av this
  | inr xs => exact allTS_av this
def allSV : List SV → Bool
 | [] => true
 | v :: vs => match v.isTS with | true => allSV vs | false => false
theorem allSV_av : ∀ {vs : List SV},allSV vs = true → (vs.map SV.den).all AV.isT = true
 | [],_ => rfl
 | v :: vs,h => by
  simp only [allSV] at h
  split at h
  ·rename_i hv; simp only [List.map_cons,List.all_cons,isTS_av hv,allSV_av h,Bool.and_self]
  ·cases h
def shArgs : Nat → List ShV → List (Nat × ShV)
 | _,[] => []
 | i,s :: l => (i,s) :: shArgs (i + 1) l
structure Sg (X : Type) where
 vs : List ShV
 h : List ShO
 to : ShR.T (shArgs 0 vs) → ShH.T h → X
 fa : X → ShR.T (shArgs 0 vs)
 fh : X → ShH.T h
def valsOf : SR → List SV
 | [] => []
 | (_,_,v) :: r => v :: valsOf r
def Sg.A {X : Type} (g : Sg X) (x : X) : List SV := valsOf (ShR.fill (shArgs 0 g.vs) (g.fa x))
def Sg.H {X : Type} (g : Sg X) (x : X) : SH := ShH.fill g.h (g.fh x)
@[reducible] def Sg.tm {X : Type} (g : Sg X) : Tm := ⟨shArgs 0 g.vs,g.h⟩
theorem fill_init : ∀ (l : List ShV) (i : Nat) (x : ShR.T (shArgs i l)),ShR.fill (shArgs i l) x = initS i (valsOf (ShR.fill (shArgs i l) x))
 | [],_,_ => rfl
 | s :: l,i,x => by
  simp only [shArgs,ShR.fill,valsOf,initS]
  congr 1
  exact fill_init l (i + 1) x.2
theorem vals_length : ∀ (l : List ShV) (i : Nat) (x : ShR.T (shArgs i l)),(valsOf (ShR.fill (shArgs i l) x)).length = l.length
 | [],_,_ => rfl
 | s :: l,i,x => by simp only [shArgs,ShR.fill,valsOf,List.length_cons]; rw [vals_length l (i + 1) x.2]
theorem fillH_length : ∀ (l : List ShO) (x : ShH.T l),(ShH.fill l x).length = l.length
 | [],_ => rfl
 | s :: l,x => by simp only [ShH.fill,List.length_cons,fillH_length l x.2]
structure Known (P : Program) (f : FuncId) {X Y : Type} (g : Sg X) (ft : Ft Y) (run : X → Option Y) : Prop where
 to : ∀ a b,g.fa (g.to a b) = a ∧ g.fh (g.to a b) = b
 low : g.vs.length ≤ BIG
 ok : ∀ x y,run x = some y → FnOk P f ((g.A x).map SV.den) (SH.den (g.H x)) fun v τ => v = (ft.V y).den ∧ τ = SH.den (ft.H y)
theorem Known.lowA {P : Program} {f : FuncId} {X Y : Type} {g : Sg X} {ft : Ft Y} {run : X → Option Y} (h : Known P f g ft run) (x : X) : ((g.A x).map SV.den).length ≤ BIG := by
 have : (g.A x).length = g.vs.length := vals_length _ _ _
 rw [List.length_map,this]
 exact h.low
theorem Known.mono {P : Program} {f : FuncId} {X Y : Type} {g : Sg X} {ft : Ft Y} {run run' : X → Option Y} (h : Known P f g ft run) (hr : ∀ x y,run' x = some y → run x = some y) : Known P f g ft run' :=
 ⟨h.to,h.low,fun x y hy => h.ok x y (hr x y hy)⟩
def getArgs {X : Type} (g : Sg X) (as : List SV) (σ : SH) : Option X := match Nat.beq as.length g.vs.length,Nat.beq σ.length g.h.length with
 | true,true => match g.tm.get g.h.length (initS 0 as) σ with
  | some (true,v) => some (g.to v.1 v.2)
  | _ => none
 | _,_ => none
section
variable {P : Program} {f : FuncId} {X Y : Type} {g : Sg X} {ft : Ft Y} {run : X → Option Y}
theorem getArgs_ok {N n0 : Nat} (hto : ∀ a b,g.fa (g.to a b) = a ∧ g.fh (g.to a b) = b) {as : List SV} {σ : SH} {x : X} (h : getArgs g as σ = some x) :
  as.length = (g.A x).length ∧ σ.length = (g.H x).length ∧ GhostF N σ.length (initRegs (as.map SV.den)) (SH.den σ) (initRegs ((g.A x).map SV.den)) (SH.den (g.H x)) := by
 unfold getArgs at h
 split at h
 ·rename_i h1 h2
  split at h
  ·rename_i v hv
   simp only [Option.some.injEq] at h
   obtain ⟨a,b⟩ := v
   obtain ⟨e1,e2⟩ := hto a b
   subst h
   simp only [Sg.A,Sg.H,e1,e2]
   refine ⟨by rw [vals_length]; exact eqB h1,by rw [fillH_length]; exact eqB h2,?_⟩
   have hl : σ.length = g.h.length := eqB h2
   rw [hl]
   have h3 := Tm.get_ok (N := N) hv
   refine (ghost_weak (init_sub as).wr WH.rfl').tr (h3.tr (ghost_weak ?_ WH.rfl'))
   -- the registers are the arguments
   have hF := fill_init g.vs 0 a
   show WR (SR.den (ShR.fill (shArgs 0 g.vs) a)) (initRegs ((valsOf (ShR.fill (shArgs 0 g.vs) a)).map SV.den))
   generalize valsOf (ShR.fill (shArgs 0 g.vs) a) = vs at hF ⊢
   rw [hF]
   refine SubR.wr fun t u hu => ?_
   rw [initRegs,initRegs_get' _ 0 t] at hu
   simp only [Nat.zero_le,if_true,Nat.sub_zero,List.getElem?_map,Option.map_eq_some_iff] at hu
   obtain ⟨w,h4,rfl⟩ := hu
   have : (initS 0 vs).get t = some ([],w) := by
    rw [initS_get]; simp [h4]
   rw [SR.den_get this]
   rfl
  ·cases h
 ·cases h
def conT {X Y : Type} (g : Sg X) (ft : Ft Y) (run : X → Option Y) (inh : Y) : Con where
 X := X
 Y := Y
 dec := fun as _ => match g.h,allSV as with
  | [],true => getArgs g as []
  | _,_ => none
 run := run
 inh := inh
 val := fun _ y _ => ft.V y
 heap := fun _ _ σ => σ
 rd := fun _ => some []
theorem conT_ok {inh : Y} (hk : Known P f g ft run) (hft : ∀ y,(ft.V y).isTS = true) (hh : ft.h = []) : ConOk P f (conT g ft run inh) := by
 have key : ∀ as σ x y,(conT g ft run inh).dec as σ = some x → run x = some y → ∀ τ : Heap,FnOk P f (as.map SV.den) τ fun v τ' => v = (ft.V y).den ∧ τ' = τ := fun as σ x y hx hp τ => by
  simp only [conT] at hx
  split at hx
  ·rename_i h1 h2
   obtain ⟨h3,h4,h5⟩ := getArgs_ok (N := (as.map SV.den).length) (n0 := 0) hk.to hx
   have h6 := fn_pre (n0 := ([] : SH).length) (σ := SH.den []) (by simp [SH.den]) (by rw [List.length_map,List.length_map]; exact h3.symm) (hk.lowA _) h5 (hk.ok x y hp)
   have hH : SH.den (ft.H y) = [] := by
    have : (ft.H y).length = 0 := by rw [Ft.H,fillH_length,hh]; rfl
    rw [List.length_eq_zero_iff.1 this]; rfl
   have h7 := fn_any (σ := τ) (Q := fun v => v = (ft.V y).den) (allSV_av h2) (h6.mono fun v τ' ⟨e1,e2⟩ => ⟨by rw [e1]; exact isTS_av (hft _),by rw [e2,hH],e1⟩)
   exact h7
  ·cases hx
 refine ⟨fun as σ x y hx hp => ?_,fun as σ x y rs hx hrs => ⟨rfl,fun hp => ?_⟩⟩
 ·exact (key as σ x y hx hp (SH.den σ)).mono fun v τ ⟨e1,e2⟩ => ⟨by rw [e1]; exact WV.rfl',by rw [e2]; exact WH.rfl'⟩
 ·intro τ _
  exact key as σ x y hx hp τ
inductive Pth where
 | arg (i j : Nat)
 | cell (k j : Nat)
def refId : SC → Option Nat
 | .ptr id _ => some id
 | .sl id .. => some id
 | .el id .. => some id
 | .clo _ [r] => some r.id
 | _ => none
def bind1 (as : List SV) (σ : SH) (is : List Nat) : Pth → Option Nat
 | .arg i j => match as[i]? with
  | some v => match v.cells[j]? with
   | some c => refId c
   | none => none
  | none => none
 | .cell k j => match is[k]? with
  | some id => match σ[id]? with
   | some (.st cs _ _) => match cs[j]? with
    | some c => refId c
    | none => none
   | _ => none
  | none => none
def bindL (as : List SV) (σ : SH) : List Nat → List Pth → Option (List Nat)
 | is,[] => some is
 | is,p :: ps => match bind1 as σ is p with
  | some id => bindL as σ (is ++ [id]) ps
  | none => none
def takeObjs (σ : SH) (π : Nat → Nat) : List Nat → Option SH
 | [] => some []
 | i :: is => match σ[i]?,takeObjs σ π is with
  | some o,some τ => some (o.ren π :: τ)
  | _,_ => none
def putObjs (π : Nat → Nat) : List Nat → SH → SH → SH
 | i :: is,o :: τ,σ => putObjs π is τ (σ.set i (o.ren π))
 | _,_,σ => σ
def renAll (π : Nat → Nat) : SH → SH
 | [] => []
 | o :: τ => o.ren π :: renAll π τ
def downS (is : List Nat) (x : Nat) : Nat := match memB x is with | true => idx is x | false => is.length + x
def refsInR (is : List Nat) : List Ref → Bool
 | [] => true
 | r :: rs => match memB r.id is with | true => refsInR is rs | false => false
def refsIn (is : List Nat) : SC → Bool
 | .ptr id _ => memB id is
 | .el id .. => memB id is
 | .sl id .. => memB id is
 | .clo _ rs => refsInR is rs
 | _ => true
def refsInL (is : List Nat) : List SC → Bool
 | [] => true
 | c :: cs => match refsIn is c with | true => refsInL is cs | false => false
def refsInV (is : List Nat) : SV → Bool
 | .c x => refsIn is x
 | .agg xs => refsInL is xs
 | .tup _ => false
def refsInVs (is : List Nat) : List SV → Bool
 | [] => true
 | v :: vs => match refsInV is v with | true => refsInVs is vs | false => false
def refsInO (is : List Nat) : SO → Bool
 | .st cs _ _ => refsInL is cs
 | .opn _ _ cs _ _ => refsInL is cs
 | _ => true
def refsInH (σ : SH) (is : List Nat) : List Nat → Bool
 | [] => true
 | i :: l => match σ[i]? with
  | some o => match refsInO is o with | true => refsInH σ is l | false => false
  | none => false
def exC : Sh → SC → Bool
 | .arr _,.arr _ _ none => true
 | .arrc _,.arr _ _ (some _) => true
 | .sl _ ep _,.sl _ ep' _ _ _ _ => Nat.beq ep ep'
 | .slc _ ep _,.sl _ ep' _ _ _ _ => Nat.beq ep ep'
 | .bo,.bo _ => true
 | .it _,.it _ _ => true
 | .sg,.sg _ => true
 | .np,.np => true
 | .nf,.nf => true
 | .nils,.nils => true
 | .ip ..,.ip .. => true
 | .ptr ..,.ptr .. => true
 | .fn ..,.fn .. => true
 | .clo ..,.clo .. => true
 | _,_ => false
def exCL : List Sh → List SC → Bool
 | [],[] => true
 | s :: l,c :: cs => match exC s c with | true => exCL l cs | false => false
 | _,_ => false
def exO : ShO → SO → Bool
 | .st l _ ep,.st cs _ ep' => match Nat.beq ep ep' with | true => exCL l cs | false => false
 | .arr _ ep,.arr _ _ ep' => Nat.beq ep ep'
 | _,_ => false
def exH : List ShO → SH → Bool
 | [],[] => true
 | s :: l,o :: σ => match exO s o with | true => exH l σ | false => false
 | _,_ => false
def decG {X : Type} (g : Sg X) (ps : List Pth) (as : List SV) (σ : SH) : Option (List Nat × X) := match bindL as σ [] ps with
 | some is => match nodupB is,refsInVs is as,refsInH σ is is with
  | true,true,true => match takeObjs σ (downS is) is with
   | some τ => match getArgs g (as.map (SV.ren (downS is))) τ with
    | some x => some (is,x)
    | none => none
   | none => none
  | _,_,_ => none
 | none => none
def conG {X Y : Type} (g : Sg X) (ps : List Pth) (ft : Ft Y) (run : X → Option Y) (inh : Y) : Con where
 X := List Nat × X
 Y := Y
 dec := decG g ps
 run := fun x => run x.2
 inh := inh
 val := fun x y σ => (ft.V y).ren (upId x.1 σ.length)
 heap := fun x y σ => putObjs (upId x.1 σ.length) x.1 (ft.H y) σ ++ renAll (upId x.1 σ.length) ((ft.H y).drop x.1.length)
 rd := fun _ => none
def decR {X : Type} (g : Sg X) (ps : List Pth) (as : List SV) (σ : SH) : Option (List Nat × X) := match decG g ps as σ with
 | some (is,x) => match takeObjs σ (downS is) is with
  | some τ => match exH g.h τ with
   | true => some (is,x)
   | false => none
  | none => none
 | none => none
def conR {X Y : Type} (g : Sg X) (ps : List Pth) (ft : Ft Y) (run : X → Option Y) (inh : Y) : Con where
 X := List Nat × X
 Y := Y
 dec := decR g ps
 run := fun x => run x.2
 inh := inh
 val := fun _ y _ => ft.V y
 heap := fun _ _ σ => σ
 rd := fun x => some (x.1.map (· + 1))
theorem downUp {is : List Nat} {n : Nat} {x : Nat} (h : memB x is = true) : upId is n (downS is x) = x := by
 unfold downS
 rw [h]
 exact upId_lt (idx_get (memB_iff.1 h))
theorem refsInR_iff {is : List Nat} : ∀ {rs : List Ref},refsInR is rs = true → ∀ r ∈ rs,memB r.id is = true
 | [],_,r,hr => by cases hr
 | x :: rs,h,r,hr => by
  simp only [refsInR] at h
  split at h
  ·rename_i h1
   rcases List.mem_cons.1 hr with rfl | hr
   ·exact h1
   ·exact refsInR_iff h r hr
  ·cases h
theorem ren_up {is : List Nat} {n : Nat} {c : SC} (h : refsIn is c = true) : upC is n (c.ren (downS is)).den = c.den := by
 cases c with
 | ptr id o => simp only [SC.ren,SC.den,upC,upR,downUp h]
 | el id ep es j o => simp only [SC.ren,SC.den,upC,upR,downUp h]
 | sl id ep es lo len cap => simp only [SC.ren,SC.den,upC,upR,downUp h]
 | clo f rs =>
   simp only [refsIn] at h
   have h := refsInR_iff h
   simp only [SC.ren,SC.den,upC,List.map_map]
   congr 1
   calc _ = rs.map id := List.map_congr_left fun r hr => by
             simp only [Function.comp,prRef,upR,downUp (h r hr),id]
        _ = rs := by simp
 | _ => rfl
theorem renL_up {is : List Nat} {n : Nat} : ∀ {l : List SC},refsInL is l = true → ((l.map (SC.ren (downS is))).map SC.den).map (upC is n) = l.map SC.den
 | [],_ => rfl
 | c :: l,h => by
  simp only [refsInL] at h
  split at h
  ·rename_i hc; simp only [List.map_cons,ren_up hc,renL_up h]
  ·cases h
theorem renV_up {is : List Nat} {n : Nat} {v : SV} (h : refsInV is v = true) : upV is n (v.ren (downS is)).den = v.den := by
 cases v with
 | c x => simp only [SV.ren,SV.den,upV,ren_up (show refsIn is x = true from h)]
 | agg xs => simp only [SV.ren,SV.den,upV,renL_up (show refsInL is xs = true from h)]
 | tup xs => cases h
theorem renVs_up {is : List Nat} {n : Nat} : ∀ {l : List SV},refsInVs is l = true → ((l.map (SV.ren (downS is))).map SV.den).map (upV is n) = l.map SV.den
 | [],_ => rfl
 | c :: l,h => by
  simp only [refsInVs] at h
  split at h
  ·rename_i hc; simp only [List.map_cons,renV_up hc,renVs_up h]
  ·cases h
theorem renO_up {is : List Nat} {n : Nat} {o : SO} (h : refsInO is o = true) : upO is n (o.ren (downS is)).den = o.den := by
 cases o with
 | st cs es ep =>
  simp only [SO.ren,SO.den,upO,renL_up (show refsInL is cs = true from h)]
 | arr c xs ep =>
  simp only [SO.ren,SO.den,upO,List.map_map]
  congr 1
 | zer z c n =>
  simp only [SO.ren,SO.den,upO,List.map_map]
  congr 1
 | opn c xs cs ys ep =>
  have hr := renL_up (is := is) (n := n) (show refsInL is cs = true from h)
  have ht : ∀ ts : List T,(ts.map Cell.t).map (upC is n) = ts.map .t := fun ts => by simp only [List.map_map]; exact List.map_congr_left fun _ _ => rfl
  simp only [SO.ren,SO.den,upO,List.map_append,ht,hr]
theorem takeObjs_ok {σ : SH} {π : Nat → Nat} : ∀ {is : List Nat} {τ : SH},takeObjs σ π is = some τ → τ.length = is.length ∧ ∀ (k i : Nat),is[k]? = some i → ∃ o,σ[i]? = some o ∧ τ[k]? = some (o.ren π)
 | [],τ,h => by simp only [takeObjs,Option.some.injEq] at h; subst h; exact ⟨rfl,fun k i h => by simp at h⟩
 | i :: is,τ,h => by
  simp only [takeObjs] at h
  split at h
  ·rename_i o τ' h1 h2
   injection h with h
   subst h
   obtain ⟨h3,h4⟩ := takeObjs_ok h2
   refine ⟨by simp [h3],fun k i' hk => ?_⟩
   cases k with
   | zero => simp at hk; subst hk; exact ⟨o,h1,rfl⟩
   | succ k => simpa using h4 k i' (by simpa using hk)
  ·cases h
theorem refsInH_ok {σ : SH} {is : List Nat} : ∀ {l : List Nat},refsInH σ is l = true → ∀ i ∈ l,∃ o,σ[i]? = some o ∧ refsInO is o = true
 | [],_,i,hi => by simp at hi
 | j :: l,h,i,hi => by
  simp only [refsInH] at h
  split at h
  ·rename_i o ho
   split at h
   ·rename_i h1
    simp only [List.mem_cons] at hi
    rcases hi with rfl | hi
    ·exact ⟨o,ho,h1⟩
    ·exact refsInH_ok h i hi
   ·cases h
  ·cases h
theorem decG_ok {ps : List Pth} (hk : Known P f g ft run) {as : List SV} {σ : SH} {is : List Nat} {x : X} {y : Y} (h : decG g ps as σ = some (is,x)) (hp : run x = some y) :
  is.Nodup ∧ ∃ (as0 : List AV) (τ : Heap),τ.length = is.length ∧ (∀ n (k i : Nat) (o : Obj),is[k]? = some i → τ[k]? = some o → (SH.den σ)[i]? = some (upO is n o)) ∧ (∀ n,as.map SV.den = as0.map (upV is n)) ∧
   FnOk P f as0 τ fun v τ' => v = (ft.V y).den ∧ τ' = SH.den (ft.H y) := by
 unfold decG at h
 split at h
 ·rename_i is' hb
  split at h
  ·rename_i h1 h2 h3
   split at h
   ·rename_i τ ht
    split at h
    ·rename_i x' hx
     simp only [Option.some.injEq,Prod.mk.injEq] at h
     obtain ⟨rfl,rfl⟩ := h
     obtain ⟨h4,h5⟩ := takeObjs_ok ht
     obtain ⟨h6,h7,h8⟩ := getArgs_ok (N := ((as.map (SV.ren (downS is'))).map SV.den).length) (n0 := 0) hk.to hx
     refine ⟨nodupB_ok h1,(as.map (SV.ren (downS is'))).map SV.den,SH.den τ,by rw [SH.den_length]; exact h4,fun n k i o hk1 hk2 => ?_,fun n => (renVs_up h2).symm,?_⟩
     ·obtain ⟨o',h9,h10⟩ := h5 k i hk1
      obtain ⟨o'',h11,h12⟩ := refsInH_ok h3 i (List.mem_of_getElem? hk1)
      rw [h9] at h11
      injection h11 with h11
      subst h11
      have := SH.den_get h10
      rw [hk2] at this
      injection this with this
      subst this
      rw [SH.den_get h9,renO_up h12]
     ·exact fn_pre (by rw [SH.den_length]; exact Nat.le_refl _) (by rw [List.length_map,List.length_map]; exact h6.symm) (hk.lowA _) h8 (hk.ok x' y hp)
    ·cases h
   ·cases h
  ·cases h
 ·cases h
theorem upC_ren (is : List Nat) (n : Nat) (c : SC) : upC is n c.den = (c.ren (upId is n)).den := by cases c <;> rfl
theorem upCL_ren (is : List Nat) (n : Nat) (l : List SC) : (l.map SC.den).map (upC is n) = (l.map (SC.ren (upId is n))).map SC.den := by
 simp only [List.map_map]; exact List.map_congr_left fun c _ => upC_ren is n c
theorem upV_ren (is : List Nat) (n : Nat) (v : SV) : upV is n v.den = (v.ren (upId is n)).den := by
 cases v with
 | c x => simp only [SV.den,SV.ren,upV,upC_ren]
 | agg xs => simp only [SV.den,SV.ren,upV,upCL_ren]
 | tup xs =>
  simp only [SV.den,SV.ren,upV,List.map_map]
  congr 1
  refine List.map_congr_left fun x _ => ?_
  cases x with
  | inl x => simp only [Function.comp,denP,upP,upC_ren]
  | inr xs => simp only [Function.comp,denP,upP,upCL_ren]
theorem upO_ren (is : List Nat) (n : Nat) (o : SO) : upO is n o.den = (o.ren (upId is n)).den := by
 cases o with
 | st cs es ep => simp only [SO.den,SO.ren,upO,upCL_ren]
 | arr c xs ep => simp only [SO.den,SO.ren,upO,List.map_map]; congr 1
 | zer z c m => simp only [SO.den,SO.ren,upO,List.map_map]; congr 1
 | opn c xs cs ys ep =>
  have ht : ∀ ts : List T,(ts.map Cell.t).map (upC is n) = ts.map .t := fun ts => by simp only [List.map_map]; exact List.map_congr_left fun _ _ => rfl
  simp only [SO.den,SO.ren,upO,List.map_append,ht,upCL_ren]
theorem putObjs_den (is : List Nat) (n : Nat) : ∀ (js : List Nat) (τ σ : SH),putAll (upO is n) js (SH.den τ) (SH.den σ) = SH.den (putObjs (upId is n) js τ σ)
 | [],_,_ => by simp [putAll,putObjs]
 | _ :: _,[],_ => by simp [putAll,putObjs,SH.den]
 | i :: js,o :: τ,σ => by
  have := putObjs_den is n js τ (σ.set i (o.ren (upId is n)))
  rw [SH.den_set] at this
  show putAll (upO is n) js (SH.den τ) ((SH.den σ).set i (upO is n o.den)) = _
  rw [upO_ren]
  exact this
theorem renAll_den (is : List Nat) (n : Nat) : ∀ (τ : SH),(SH.den τ).map (upO is n) = SH.den (renAll (upId is n) τ)
 | [] => rfl
 | o :: τ => by
  have := renAll_den is n τ
  simp only [SH.den] at this
  simp only [SH.den,renAll,List.map_cons,upO_ren,this]
theorem conG_ok {inh : Y} {ps : List Pth} (hk : Known P f g ft run) : ConOk P f (conG g ps ft run inh) := by
 refine ⟨fun as σ x y hx hp => ?_,fun as σ x y rs hx hrs => by cases hrs⟩
 obtain ⟨is,x⟩ := x
 obtain ⟨hn,as0,τ,h1,h2,h3,h4⟩ := decG_ok hk (show decG g ps as σ = some (is,x) from hx) hp
 refine (fn_rename (σ := SH.den σ) is hn h1 (h2 _) (h3 _) h4).mono fun v τ' ⟨v0,τ0,⟨e1,e2⟩,e3,e4⟩ => ?_
 subst e1; subst e2; subst e3; subst e4
 simp only [conG,SH.den_length]
 rw [upV_ren]
 refine ⟨WV.rfl',?_⟩
 have : backH is σ.length (SH.den σ) (SH.den (ft.H y)) = SH.den (putObjs (upId is σ.length) is (ft.H y) σ ++ renAll (upId is σ.length) ((ft.H y).drop is.length)) := by
  simp only [backH,putObjs_den]
  have : List.drop is.length (SH.den (ft.H y)) = SH.den ((ft.H y).drop is.length) := by simp [SH.den]
  rw [this,renAll_den]
  simp [SH.den]
 rw [this]
 exact WH.rfl'
theorem exC_ok {n1 : Nat} {σ : SH} {e : Nat → Nat} : ∀ {s : Sh} {c : SC} {x : s.T},getC n1 σ e s c = some (true,x) → exC s c = true → c.den = (s.fill x).den := by
 intro s c x h hx
 unfold exC at hx
 split at hx <;> first | cases hx; done | skip
 all_goals simp only [getC] at h
 ·split at h
  ·simp only [Option.some.injEq,Prod.mk.injEq,true_and] at h; subst h
   simp only [Sh.fill,SC.den,castL_flat,castL_length]
  ·cases h
 ·split at h
  ·simp only [Option.some.injEq,Prod.mk.injEq,true_and] at h; subst h
   simp only [Sh.fill,SC.den,castL_flat,castL_length]
  ·cases h
 ·split at h
  ·rename_i e1
   split at h
   ·rename_i h1 h2 h3 h4 h5
    injection e1 with a1 a2 a3 a4 a5 a6
    subst a1; subst a2; subst a3; subst a4; subst a5; subst a6
    simp only [Option.some.injEq,Prod.mk.injEq,true_and] at h; subst h
    simp only [Sh.fill,SC.den,eqB h1,eqB h2,eqB hx]
   ·cases h
  ·cases h
 ·split at h
  ·rename_i e1
   split at h
   ·rename_i h1 h2 h3 h4 h5
    injection e1 with a1 a2 a3 a4 a5 a6
    subst a1; subst a2; subst a3; subst a4; subst a5; subst a6
    simp only [Option.some.injEq,Prod.mk.injEq,true_and] at h; subst h
    simp only [Sh.fill,SC.den,eqB h1,eqB h2,eqB hx]
   ·cases h
  ·cases h
 ·simp only [Option.some.injEq,Prod.mk.injEq,true_and] at h; subst h; rfl
 ·split at h
  ·rename_i hk
   simp only [Option.some.injEq,Prod.mk.injEq,true_and] at h; subst h; rw [kindB_eq hk]; rfl
  ·cases h
 ·simp only [Option.some.injEq,Prod.mk.injEq,true_and] at h; subst h; rfl
 ·rfl
 ·rfl
 ·rfl
 ·split at h
  ·rename_i ho
   split at h
   ·simp only [Option.some.injEq,Prod.mk.injEq,true_and] at h; subst h
    simp only [Sh.fill,SC.den,cast_trees,eqB ho]
   ·cases h
  ·cases h
 ·split at h
  ·rename_i h1 h2 h3 h4 h5
   simp only [Sh.fill,SC.den,eqB h1,eqB h2]
  ·cases h
 ·split at h
  ·rename_i hf; rw [eqB hf]; rfl
  ·cases h
 ·split at h
  ·rename_i h1 h2 h3; rw [eqB h1,eqRefs_eq h2]; rfl
  ·cases h
theorem exCL_ok {n1 : Nat} {σ : SH} {e : Nat → Nat} : ∀ {s : List Sh} {c : List SC} {x : ShL.T s},getCL n1 σ e s c = some (true,x) → exCL s c = true → c.map SC.den = (ShL.fill s x).map SC.den
 | [],[],_,_,_ => rfl
 | [],_ :: _,_,_,hx => by cases hx
 | _ :: _,[],_,_,hx => by cases hx
 | s :: l,c :: cs,x,h,hx => by
  simp only [getCL] at h
  split at h
  ·rename_i p y q z h1 h2
   simp only [Option.some.injEq,Prod.mk.injEq,Bool.and_eq_true] at h
   obtain ⟨⟨rfl,rfl⟩,rfl⟩ := h
   simp only [exCL] at hx
   split at hx
   ·rename_i h3
    simp only [List.map_cons,ShL.fill,exC_ok h1 h3,exCL_ok h2 hx]
   ·cases hx
  ·cases h
theorem exH_ok {n0 n1 : Nat} {σ : SH} {e : Nat → Nat} : ∀ {l : List ShO} {τ : SH} {i : Nat} {x : ShH.T l},getH n0 n1 σ e i l τ = some (true,x) → exH l τ = true → SH.den τ = SH.den (ShH.fill l x)
 | [],[],_,_,_,_ => rfl
 | [],_ :: _,_,_,_,hx => by cases hx
 | _ :: _,[],_,_,_,hx => by cases hx
 | s :: l,o :: τ,i,x,h,hx => by
  simp only [getH] at h
  split at h
  ·split at h
   ·rename_i p y q z h1 h2
    simp only [Option.some.injEq,Prod.mk.injEq,Bool.and_eq_true] at h
    obtain ⟨⟨rfl,rfl⟩,rfl⟩ := h
    simp only [exH] at hx
    split at hx
    ·rename_i h3
     have ih := exH_ok h2 hx
     have ho : o.den = (s.fill y).den := by
      cases s with
      | st l es ep => cases o with
       | st cs es' ep' =>
        simp only [exO] at h3
        split at h3
        ·rename_i h4
         simp only [getO] at h1
         split at h1
         ·rename_i h5
          simp only [SO.den,ShO.fill,exCL_ok h1 h3,eqB h4,eqB h5]
         ·cases h1
        ·cases h3
       | _ => cases h3
      | arr a ep => cases o with
       | arr c xs ep' =>
        simp only [exO] at h3
        simp only [getO] at h1
        split at h1
        ·rename_i hb
         simp only [Option.some.injEq,Prod.mk.injEq,true_and] at h1
         subst h1
         simp only [SO.den,ShO.fill,castL_flat,beq_size hb,eqB h3]
        ·cases h1
       | _ => cases h3
      | opn a l ep => cases o <;> cases h3
     show o.den :: SH.den τ = (s.fill y).den :: SH.den (ShH.fill l z)
     rw [ho,ih]
    ·cases hx
   ·cases h
  ·cases h
theorem getArgs_exact (hto : ∀ a b,g.fa (g.to a b) = a ∧ g.fh (g.to a b) = b) {as : List SV} {σ : SH} {x : X} (h : getArgs g as σ = some x) (hx : exH g.h σ = true) : SH.den σ = SH.den (g.H x) := by
 unfold getArgs at h
 split at h
 ·split at h
  ·rename_i v hv
   simp only [Option.some.injEq] at h
   obtain ⟨a,b⟩ := v
   obtain ⟨e1,e2⟩ := hto a b
   subst h
   simp only [Sg.H,e2]
   unfold Tm.get at hv
   split at hv
   ·split at hv
    ·rename_i p y q z h1 h2
     simp only [Option.some.injEq,Prod.mk.injEq,Bool.and_eq_true] at hv
     obtain ⟨⟨rfl,rfl⟩,rfl,rfl⟩ := hv
     exact exH_ok h2 hx
    ·cases hv
   ·cases hv
  ·cases h
 ·cases h
theorem conR_ok {inh : Y} {ps : List Pth} (hk : Known P f g ft run) (hft : ∀ y,(ft.V y).isTS = true) (hh : ∀ x y,run x = some y → ft.H y = g.H x) : ConOk P f (conR g ps ft run inh) := by
 have key : ∀ as σ is x y,decR g ps as σ = some (is,x) → run x = some y → ConstAt P f (as.map SV.den) (SH.den σ) (is.map (· + 1)) (ft.V y).den := fun as σ is x y hx hp => by
  unfold decR at hx
  split at hx
  ·rename_i is0 x0 hd
   split at hx
   ·rename_i τ0 ht0
    split at hx
    ·rename_i hex
     simp only [Option.some.injEq,Prod.mk.injEq] at hx
     obtain ⟨rfl,rfl⟩ := hx
     unfold decG at hd
     split at hd
     ·rename_i is' hb
      split at hd
      ·rename_i h1 h2 h3
       split at hd
       ·rename_i τ ht
        split at hd
        ·rename_i x' hx1
         simp only [Option.some.injEq,Prod.mk.injEq] at hd
         obtain ⟨rfl,rfl⟩ := hd
         rw [ht] at ht0
         injection ht0 with ht0
         subst ht0
         obtain ⟨h4,h5⟩ := takeObjs_ok ht
         obtain ⟨h6,h7,h8⟩ := getArgs_ok (N := ((as.map (SV.ren (downS is'))).map SV.den).length) (n0 := 0) hk.to hx1
         have hw := getArgs_exact hk.to hx1 hex
         have h9 := fn_pre (by rw [SH.den_length]; exact Nat.le_refl _) (by rw [List.length_map,List.length_map]; exact h6.symm) (hk.lowA _) h8 (hk.ok x' y hp)
         refine const_read is' (nodupB_ok h1) (τ := SH.den τ) (by rw [SH.den_length]; exact h4) (fun n k i o hk1 hk2 => ?_) (fun n => (renVs_up (n := n) h2).symm) (isTS_av (hft _)) (h9.mono fun v τ' ⟨e1,e2⟩ => ⟨e1,by rw [e2,hh x' y hp,hw]⟩)
         obtain ⟨o',h9,h10⟩ := h5 k i hk1
         obtain ⟨o'',h11,h12⟩ := refsInH_ok h3 i (List.mem_of_getElem? hk1)
         rw [h9] at h11
         injection h11 with h11
         subst h11
         have := SH.den_get h10
         rw [hk2] at this
         injection this with this
         subst this
         rw [SH.den_get h9,renO_up h12]
        ·cases hd
       ·cases hd
      ·cases hd
     ·cases hd
    ·cases hx
   ·cases hx
  ·cases hx
 refine ⟨fun as σ x y hx hp => ?_,fun as σ x y rs hx hrs => ⟨rfl,fun hp => ?_⟩⟩
 ·obtain ⟨is,x⟩ := x
  exact (key as σ is x y hx hp (SH.den σ) (fun c _ => agC.refl _ c)).mono fun v τ ⟨e1,e2⟩ => ⟨by rw [e1]; exact WV.rfl',by rw [e2]; exact WH.rfl'⟩
 ·obtain ⟨is,x⟩ := x
  simp only [conR,Option.some.injEq] at hrs
  subst hrs
  exact key as σ is x y hx hp
end
end Go.Abs
