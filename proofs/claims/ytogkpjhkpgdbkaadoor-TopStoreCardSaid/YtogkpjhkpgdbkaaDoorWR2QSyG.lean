/-
  A general library: functions of symbolic runs.
-/
import Derived.Test.YtogkpjhkpgdbkaaDoorWR2QSyF
set_option linter.all false
namespace Go.Abs
variable [Gl]
def resS (ty : TyT) (r : SR) (σ : SH) : List ResultVar → Option (Bool × List SV)
 | [] => some (true,[])
 | .tmp t :: rest => match r.at [] t,resS ty r σ rest with
  | some v,some (p,vs) => some (p,v :: vs)
  | _,_ => none
 | .cell a t :: rest => match ty t,r.at [] a,resS ty r σ rest with
  | some (i,_),some (.c x),some (p,vs) => match loadS σ i x with
   | some (q,v) => some (q && p,v :: vs)
   | none => none
  | _,_,_ => none
def compsS : List SV → Option (List (SC ⊕ List SC))
 | [] => some []
 | v :: vs => match (match v with | .c x => some (Sum.inl x) | .agg xs => some (Sum.inr xs) | .tup _ => none),compsS vs with
  | some x,some xs => some (x :: xs)
  | _,_ => none
def packS : List SV → Option SV
 | [v] => some v
 | vs => (compsS vs).map .tup
def SC.ren (π : Nat → Nat) : SC → SC
 | .ptr id o => .ptr (π id) o
 | .el id ep es j o => .el (π id) ep es j o
 | .sl id ep es lo len cap => .sl (π id) ep es lo len cap
 | .clo f rs => .clo f (rs.map (prRef π))
 | c => c
def SV.ren (π : Nat → Nat) : SV → SV
 | .c x => .c (x.ren π)
 | .agg xs => .agg (xs.map (SC.ren π))
 | .tup xs => .tup (xs.map fun | .inl x => .inl (x.ren π) | .inr xs => .inr (xs.map (SC.ren π)))
def SO.ren (π : Nat → Nat) : SO → SO
 | .st cs es ep => .st (cs.map (SC.ren π)) es ep
 | .arr c xs ep => .arr c xs ep
 | .zer z c n => .zer z c n
 | .opn c xs cs ys ep => .opn c xs (cs.map (SC.ren π)) ys ep
theorem SC.ren_den (π : Nat → Nat) (c : SC) : (c.ren π).den = prC π c.den := by cases c <;> rfl
theorem SCL.ren_den (π : Nat → Nat) (l : List SC) : (l.map (SC.ren π)).map SC.den = (l.map SC.den).map (prC π) := by
 simp only [List.map_map]; exact List.map_congr_left fun c _ => SC.ren_den π c
theorem SV.ren_den (π : Nat → Nat) (v : SV) : (v.ren π).den = prV π v.den := by
 cases v with
 | c x => simp only [SV.ren,SV.den,prV,SC.ren_den]
 | agg xs => simp only [SV.ren,SV.den,prV,SCL.ren_den]
 | tup xs =>
  simp only [SV.ren,SV.den,prV,List.map_map]
  congr 1
  refine List.map_congr_left fun x _ => ?_
  cases x with
  | inl x => simp only [Function.comp,denP,SC.ren_den]
  | inr xs => simp only [Function.comp,denP,SCL.ren_den]
theorem prC_tree (π : Nat → Nat) (l : List T) : (l.map Cell.t).map (prC π) = l.map .t := by
 simp only [List.map_map]; exact List.map_congr_left fun c _ => rfl
theorem SO.ren_den (π : Nat → Nat) (o : SO) : (o.ren π).den = { o.den with cs := o.den.cs.map (prC π) } := by
 cases o with
 | st cs es ep => simp only [SO.ren,SO.den,SCL.ren_den]
 | arr c xs ep => simp only [SO.ren,SO.den,prC_tree]
 | zer z c n => simp only [SO.ren,SO.den,prC_tree]
 | opn c xs cs ys ep => simp only [SO.ren,SO.den,List.map_append,prC_tree,SCL.ren_den]
def idx (l : List Nat) (x : Nat) : Nat := match l with
 | [] => 0
 | y :: l => match Nat.beq y x with | true => 0 | false => idx l x + 1
def allLt (n : Nat) : List Nat → Bool
 | [] => true
 | x :: l => match Nat.blt x n with | true => allLt n l | false => false
def fixB (n0 : Nat) : Nat → List Nat → Bool
 | _,[] => true
 | i,x :: l => match Nat.blt i n0 with
  | true => match Nat.beq x i with | true => fixB n0 (i + 1) l | false => false
  | false => true
def permB (n0 len : Nat) (ord : List Nat) : Bool := Nat.beq ord.length len && nodupB ord && allLt len ord && fixB n0 0 ord && Nat.ble n0 len
theorem allLt_ok {n : Nat} : ∀ {l : List Nat},allLt n l = true → ∀ x ∈ l,x < n
 | [],_,x,hx => by simp at hx
 | y :: l,h,x,hx => by
  simp only [allLt] at h
  split at h
  ·rename_i h1
   simp only [List.mem_cons] at hx
   rcases hx with rfl | hx
   ·exact ltB h1
   ·exact allLt_ok h x hx
  ·cases h
theorem fixB_ok {n0 : Nat} : ∀ {l : List Nat} {i : Nat},fixB n0 i l = true → ∀ k,i + k < n0 → k < l.length → l[k]? = some (i + k)
 | [],i,_,k,_,hk => by simp at hk
 | x :: l,i,h,k,hk,hl => by
  simp only [fixB] at h
  split at h
  ·split at h
   ·rename_i h2
    cases k with
    | zero => simp [eqB h2]
    | succ k =>
     have := fixB_ok h k (by omega) (by simpa using hl)
     rw [List.getElem?_cons_succ,this]
     congr 1
     omega
   ·cases h
  ·rename_i h1
   exfalso
   have : ¬ i < n0 := fun hlt => by
    have : Nat.blt i n0 = true := Nat.ble_eq_true_of_le hlt
    rw [this] at h1
    cases h1
   omega
theorem idx_get : ∀ {l : List Nat} {x : Nat},x ∈ l → l[idx l x]? = some x
 | [],x,h => by simp at h
 | y :: l,x,h => by
  simp only [idx]
  split
  ·rename_i h1; simp [eqB h1]
  ·rename_i h1
   simp only [List.mem_cons] at h
   rcases h with rfl | h
   ·exact absurd rfl (beq_ne h1)
   ·simpa using idx_get h
theorem idx_lt {l : List Nat} {x : Nat} (h : x ∈ l) : idx l x < l.length := (List.getElem?_eq_some_iff.1 (idx_get h)).1
theorem idx_of {l : List Nat} (hn : l.Nodup) {k x : Nat} (h : l[k]? = some x) : idx l x = k := by
 have h1 := idx_get (List.mem_of_getElem? h)
 obtain ⟨h2,h3⟩ := List.getElem?_eq_some_iff.1 h1
 obtain ⟨h4,h5⟩ := List.getElem?_eq_some_iff.1 h
 exact (List.getElem_inj hn).1 (h3.trans h5.symm)
theorem full {l : List Nat} (hn : l.Nodup) (hlt : ∀ x ∈ l,x < l.length) : ∀ x,x < l.length → x ∈ l := fun x hx => by
 by_cases hm : x ∈ l
 ·exact hm
 ·have h1 : (x :: l).Nodup := List.nodup_cons.2 ⟨hm,hn⟩
  have h2 : (x :: l) ⊆ List.range l.length := fun y hy => by
   rw [List.mem_range]
   simp only [List.mem_cons] at hy
   rcases hy with rfl | hy
   ·exact hx
   ·exact hlt y hy
  have := h1.length_le_of_subset h2
  simp at this
  omega
theorem permB_ok {n0 len : Nat} {ord : List Nat} (h : permB n0 len ord = true) : Perm n0 len (idx ord) (fun k => ord.getD k 0) ∧ n0 ≤ len ∧ ord.length = len := by
 simp only [permB,Bool.and_eq_true] at h
 obtain ⟨⟨⟨⟨h1,h2⟩,h3⟩,h4⟩,h5⟩ := h
 have hl := eqB h1
 subst hl
 have hn := nodupB_ok h2
 have hlt := allLt_ok h3
 have hfull := full hn hlt
 have hle := leB' h5
 have hget : ∀ k (hk : k < ord.length),ord.getD k 0 = ord[k] := fun k hk => by simp [List.getD,hk]
 refine ⟨⟨fun id hid => ?_,fun id hid => ?_,fun id hid => ?_,fun id hid => ?_⟩,hle,rfl⟩
 ·have h6 := fixB_ok h4 id (by omega) (by omega)
  rw [Nat.zero_add] at h6
  refine ⟨idx_of hn h6,?_⟩
  simp [List.getD,h6]
 ·refine ⟨idx_lt (hfull id hid),?_⟩
  simp only [hget id hid]
  exact hlt _ (List.getElem_mem hid)
 ·have := idx_get (hfull id hid)
  simp [List.getD,this]
 ·refine idx_of hn ?_
  simp only [hget id hid]
  exact List.getElem?_eq_getElem hid
def permH (ord : List Nat) (σ : SH) : SH := ord.map fun k => ((σ[k]?).getD default).ren (idx ord)
theorem permH_ghost {N n0 : Nat} {ord : List Nat} {σ : SH} {v : SV} (h : permB n0 σ.length ord = true) : GhostF N n0 [(0,v.den)] (SH.den σ) [(0,(v.ren (idx ord)).den)] (SH.den (permH ord σ)) := by
 obtain ⟨h1,h2,h3⟩ := permB_ok h
 have := ghost_perm (N := N) (r := [(0,v.den)]) (σ := SH.den σ) (n0 := n0) (by rw [SH.den_length]; exact h2) (by rw [SH.den_length]; exact h1)
 rw [SV.ren_den]
 have e : SH.den (permH ord σ) = (List.range (SH.den σ).length).map fun i => let o := ((SH.den σ)[ord.getD i 0]?).getD default; { o with cs := o.cs.map (prC (idx ord)) } := by
  refine List.ext_getElem? fun i => ?_
  simp only [SH.den,permH,List.map_map,List.getElem?_map,List.length_map]
  by_cases hi : i < ord.length
  ·have hlt : ord.getD i 0 < σ.length := by have := (h1.lt i (by omega)).2; exact this
   have hg : ord.getD i 0 = ord[i] := by simp [List.getD,hi]
   rw [hg] at hlt
   simp [hi,h3 ▸ hi,hlt,SO.ren_den]
  ·have hi' : ¬ i < σ.length := by omega
   simp [hi,hi']
 rw [e]
 exact this
structure Ft (Y : Type) where
 ord : Option (List Nat)
 sh : ShV
 h : List ShO
 to : sh.T → ShH.T h → Y
 fv : Y → sh.T
 fh : Y → ShH.T h
def Ft.V {Y : Type} (f : Ft Y) (y : Y) : SV := f.sh.fill (f.fv y)
def Ft.H {Y : Type} (f : Ft Y) (y : Y) : SH := ShH.fill f.h (f.fh y)
def Ft.tm {Y : Type} (f : Ft Y) : Tm := ⟨[(0,f.sh)],f.h⟩
def Ft.get {Y : Type} (f : Ft Y) (n0 : Nat) (v : SV) (σ : SH) : Option Y := match f.ord with
 | none => match f.tm.get n0 [(0,[],v)] σ with
  | some (p,x) => bif p then some (f.to x.1.1 x.2) else none
  | none => none
 | some ord => match permB n0 σ.length ord with
  | true => match f.tm.get n0 [(0,[],v.ren (idx ord))] (permH ord σ) with
   | some (p,x) => bif p then some (f.to x.1.1 x.2) else none
   | none => none
  | false => none
def finish {Y : Type} (n0 : Nat) (ty : TyT) (rs : List ResultVar) (f : Ft Y) : Exit → SR → SH → Option Y := fun e r σ => match (match e with | .normal => true | .ret => true | _ => false),resS ty r σ rs with
 | true,some (p,vs) => match packS vs with
  | some v => bif p then f.get n0 v σ else none
  | none => none
 | _,_ => none
def initS (i : Nat) : List SV → SR
 | [] => []
 | v :: vs => (i,[],v) :: initS (i + 1) vs
section
variable {P : Program} {N n0 : Nat}
theorem resS_ok {ty : TyT} (hty : TyOk P ty) {r : SR} {σ : SH} : ∀ {rs : List ResultVar} {vs : List SV},resS ty r σ rs = some (true,vs) → resE P r.den (SH.den σ) rs = some (vs.map SV.den)
 | [],vs,h => by simp only [resS,Option.some.injEq,Prod.mk.injEq,true_and] at h; subst h; rfl
 | .tmp t :: rs,vs,h => by
  simp only [resS] at h
  split at h
  ·rename_i v p vs' h1 h2
   simp only [Option.some.injEq,Prod.mk.injEq] at h
   obtain ⟨rfl,rfl⟩ := h
   have : ev r.den (.tmp t) = some v.den := evS_ok (L := []) SubR.rfl' rfl h1
   simp only [ev] at this
   simp only [resE,this,resS_ok hty h2,List.map_cons]
  ·cases h
 | .cell a t :: rs,vs,h => by
  simp only [resS] at h
  split at h
  ·rename_i i c x p vs' h1 h2 h3
   split at h
   ·rename_i q v h4
    simp only [Option.some.injEq,Prod.mk.injEq,Bool.and_eq_true] at h
    obtain ⟨⟨rfl,rfl⟩,rfl⟩ := h
    have : ev r.den (.tmp a) = some (SV.c x).den := evS_ok (L := []) SubR.rfl' rfl h2
    simp only [ev,SV.den_c] at this
    simp only [resE,hty.ok _ _ _ h1,this,resS_ok hty h3,loadS_ok h4,List.map_cons]
   ·cases h
  ·cases h
theorem compsS_ok : ∀ {vs : List SV} {xs : List (SC ⊕ List SC)},compsS vs = some xs → compsE (vs.map SV.den) = some (xs.map denP)
 | [],xs,h => by simp only [compsS,Option.some.injEq] at h; subst h; rfl
 | v :: vs,xs,h => by
  simp only [compsS] at h
  split at h
  ·rename_i x xs' h1 h2
   injection h with h
   subst h
   have hc : compE v.den = some (denP x) := by
    cases v with
    | c y => simp only [Option.some.injEq] at h1; subst h1; rfl
    | agg y => simp only [Option.some.injEq] at h1; subst h1; rfl
    | tup y => cases h1
   simp only [List.map_cons,compsE,hc,compsS_ok h2]
  ·cases h
theorem packS_ok {vs : List SV} {v : SV} (h : packS vs = some v) : packE (vs.map SV.den) = some v.den := by
 unfold packS at h
 split at h
 ·injection h with h; subst h; rfl
 ·rename_i hne
  rw [Option.map_eq_some_iff] at h
  obtain ⟨xs,h1,rfl⟩ := h
  have := compsS_ok h1
  unfold packE
  split
  ·rename_i u hu
   cases vs with
   | nil => cases hu
   | cons a as => cases as with
    | nil => exact absurd rfl (hne a)
    | cons b bs => cases hu
  ·rw [this]; rfl
theorem Ft.get_ok {Y : Type} {f : Ft Y} (hf : ∀ a b,f.fv (f.to a b) = a ∧ f.fh (f.to a b) = b) {v : SV} {σ : SH} {y : Y} (h : f.get n0 v σ = some y) : GhostF N n0 [(0,v.den)] (SH.den σ) [(0,(f.V y).den)] (SH.den (f.H y)) := by
 have key : ∀ {v : SV} {σ : SH},(match f.tm.get n0 [(0,[],v)] σ with | some (p,x) => bif p then some (f.to x.1.1 x.2) else none | none => none) = some y → GhostF N n0 [(0,v.den)] (SH.den σ) [(0,(f.V y).den)] (SH.den (f.H y)) := fun {v σ} h => by
  split at h
  ·rename_i p x hx
   cases p with
   | false => cases h
   | true =>
    simp only [cond_true,Option.some.injEq] at h
    have h1 := Tm.get_ok (N := N) hx
    subst h
    obtain ⟨⟨a,u⟩,b⟩ := x
    obtain ⟨e1,e2⟩ := hf a b
    simp only [Ft.V,Ft.H,e1,e2]
    exact h1
  ·cases h
 unfold Ft.get at h
 split at h
 ·exact key h
 ·rename_i ord
  split at h
  ·rename_i hp
   exact (permH_ghost hp).tr (key h)
  ·cases h
theorem initS_get : ∀ (args : List SV) (i t : Nat),(initS i args).get t = if i ≤ t then (args[t - i]?).map fun v => ([],v) else none
 | [],i,t => by simp [initS,SR.get]
 | v :: vs,i,t => by
  simp only [initS,SR.get]
  split
  ·rename_i h
   have := eqB h
   subst this
   simp
  ·rename_i h
   have hne := beq_ne h
   rw [initS_get vs (i + 1) t]
   by_cases hle : i ≤ t
   ·have h1 : i + 1 ≤ t := by omega
    have h2 : t - i = (t - (i + 1)) + 1 := by omega
    simp [hle,h1,h2]
   ·have h1 : ¬ i + 1 ≤ t := by omega
    simp [hle,h1]
theorem initRegs_get' : ∀ (args : List AV) (k t : Nat),Regs.get ((args.zipIdx k).map fun (v,i) => (i,v)) t = if k ≤ t then args[t - k]? else none
 | [],k,t => by simp [Regs.get]
 | v :: vs,k,t => by
  simp only [List.zipIdx_cons,List.map_cons,Regs.get]
  by_cases h : k = t
  ·subst h; simp
  ·rw [if_neg h,initRegs_get' vs (k + 1) t]
   by_cases hle : k ≤ t
   ·have h1 : k + 1 ≤ t := by omega
    have h2 : t - k = (t - (k + 1)) + 1 := by omega
    simp [hle,h1,h2]
   ·have h1 : ¬ k + 1 ≤ t := by omega
    simp [hle,h1]
theorem init_sub (args : List SV) : SubR (initRegs (args.map SV.den)) (initS 0 args).den := fun t u h => by
 obtain ⟨tg,v,h1,rfl⟩ := den_some h
 rw [initS_get] at h1
 simp only [Nat.zero_le,if_true,Nat.sub_zero,Option.map_eq_some_iff] at h1
 obtain ⟨a,h2,h3⟩ := h1
 injection h3 with h3 h4
 subst h3; subst h4
 rw [initRegs,initRegs_get' _ 0 t]
 simp [h2,SR.dv]
theorem fn_ghost {f : FuncId} {args : List AV} {σ : Heap} {Q : AV → Heap → Prop} (hn : σ.length ≤ n0) (h : FnOk P f args σ fun v τ => ∃ v' τ',GhostF 1 n0 [(0,v)] τ [(0,v')] τ' ∧ Q v' τ') : FnOk P f args σ Q :=
 ⟨h.1,fun ι w cargs hgl hh ha => CallsIn.mono (h.2 ι w cargs hgl hh ha) fun e w' ⟨v,σ',ι',cv,h1,⟨v',τ',h2,h3⟩,h4,h5,h6⟩ => by
  obtain ⟨ι'',h7,h8,h9⟩ := h2 ι' w' { tmps := #[cv],defers := [] } h5 ⟨rfl,by decide,(fun t x hx => by
   simp only [Regs.get] at hx
   split at hx
   ·rename_i e; subst e; injection hx with hx; subst hx; exact h4
   ·cases hx),hgl.step h6⟩
  exact ⟨v',τ',ι'',cv,h1,h3,h8.get 0 v' rfl,h7,h9 ι σ w hh hn h6⟩⟩
theorem fn_pre {f : FuncId} {args args' : List AV} {σ σ' : Heap} {Q : AV → Heap → Prop} (hn : σ.length ≤ n0) (hl : args'.length = args.length) (hb : args'.length ≤ BIG) (hg : GhostF args.length n0 (initRegs args) σ (initRegs args') σ') (h : FnOk P f args' σ' Q) : FnOk P f args σ Q :=
 ⟨h.1,fun ι w cargs hgl hh ha => by
  obtain ⟨ι',h1,h2,h3⟩ := hg ι w { tmps := cargs,defers := [] } hh ⟨ha.1,by rw [← hl]; exact hb,(fun t x hx => by
   obtain ⟨_,h4⟩ := initRegs_get args 0 t x hx
   simp only [Nat.sub_zero] at h4
   obtain ⟨h5,h6⟩ := List.getElem?_eq_some_iff.1 h4
   obtain ⟨u,h7,h8⟩ := ha.2 t h5
   rw [h6] at h8
   unfold lk
   rw [if_neg (by omega)]
   simpa [h7] using h8),hgl⟩
  have hst := h3 ι σ w hh hn (Step.refl ι σ w)
  refine CallsIn.mono (h.2 ι' w cargs h2.gl h1 ⟨by rw [hl]; exact ha.1,fun i hi => ?_⟩) fun e w' ⟨v,σ'',ι'',cv,h4,h5,h6,h7,h8⟩ => ⟨v,σ'',ι'',cv,h4,h5,h6,h7,hst.trans h8⟩
  have hlt : i < cargs.size := by rw [ha.1,← hl]; exact hi
  have hg' : (initRegs args').get i = some args'[i] := by
   rw [initRegs,initRegs_get' args' 0 i]
   simp [hi]
  have := h2.get i _ hg'
  unfold lk at this
  rw [if_neg (by omega)] at this
  refine ⟨cargs[i],by simp [hlt],?_⟩
  simpa [hlt] using this⟩
theorem fn_exec (hm : P.follows .mixedOrders = true) {E : Env} (hE : EnvOk P E) {f : FuncId} {rs : List ResultVar} {C : CC} (hs : Stripped P f N rs C) {args : List SV} {σ : SH} (hn0 : σ.length = n0) (hn : args.length ≤ N)
  (hl : AllL P N none n0 E (topL C 0)) {Y : Type} {ft : Ft Y} (hf : ∀ a b,ft.fv (ft.to a b) = a ∧ ft.fh (ft.to a b) = b) {y : Y} (h : exec E N C 0 (initS 0 args) σ (finish n0 E.ty rs ft) = some y) (hyk : YldOk P n0 E none) (hg : RgOk P N none n0 E none C 0) :
  FnOk P f (args.map SV.den) (SH.den σ) fun v τ => v = (ft.V y).den ∧ τ = SH.den (ft.H y) := by
 have hlen : (SH.den σ).length ≤ n0 := by rw [SH.den_length]; omega
 refine fn_ghost hlen ?_
 obtain ⟨fn,c,ks,ks',h1,h2,h3,rfl,rfl,h6,h7⟩ := hs.ex
 refine fn_ok h1 h2 h3 (by simpa using hn) (Nat.le_of_ble_eq_true h7) ?_
 have hc : CodeF P fn.ntmps none n0 none c (initRegs (args.map SV.den)) (SH.den σ) fun e ρ τ => ∃ r' σ',ρ = r'.den ∧ τ = SH.den σ' ∧ finish n0 E.ty fn.results.toList ft e r' σ' = some y :=
  okF_ghost (ghost_weak (init_sub args).wr WH.rfl') (okF_post ((exec_ok hm hE hyk hl hg h h6).mono fun e ρ τ ⟨r',σ',h7,h8,h9⟩ => ⟨_,_,ghost_weak h7 h8,r',σ',rfl,rfl,h9⟩))
 have hc' : CodeF P fn.ntmps none (SH.den σ).length none c (initRegs (args.map SV.den)) (SH.den σ) fun e ρ τ => ∃ r' σ',ρ = r'.den ∧ τ = SH.den σ' ∧ finish n0 E.ty fn.results.toList ft e r' σ' = some y := by
  rw [SH.den_length,hn0]; exact hc
 refine hc'.toOk.mono fun e ρ τ ⟨r',σ',e1,e2,h9⟩ => ?_
 subst e1; subst e2
 unfold finish at h9
 split at h9
 ·rename_i p vs he hr
  split at h9
  ·rename_i v hv
   cases p with
   | false => cases h9
   | true =>
    refine ⟨(by cases e <;> first | trivial | cases he),?_⟩
    have : retE P fn.results.toList r'.den (SH.den σ') = some v.den := by
     simp only [retE,resS_ok hE.ty hr,packS_ok hv]
    rw [this]
    exact ⟨_,_,Ft.get_ok hf h9,rfl,rfl⟩
  ·cases h9
 ·cases h9
end
end Go.Abs
