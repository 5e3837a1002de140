/-
  A general library: a range over a function: the iterator's code calls yield, which runs a round in a frame of the caller. Holds of every program.
-/
import Derived.Test.YtogkpjhkpgdbkaaDoorWR2QMs
set_option linter.all false
namespace Go.Abs
variable [Gl]
def Map.wx (ι : Map) (e : Ext) : Map := ⟨ι.at',ι.res,e⟩
def inAV (c : Cell) : AV → Prop
 | .c x => c = x
 | .agg xs => c ∈ xs
 | .tup xs => ∃ p ∈ xs,match p with | .inl x => c = x | .inr cs => c ∈ cs
theorem CR.wx {ι : Map} {w : World} {c : Cell} {v : Value} {e : Ext} (h : CR ι w c v) (hy : e.yv = ι.ex.yv) : CR (ι.wx e) w c v := by
 cases c with
 | t x => exact h
 | ptr r => exact h
 | sl r l c => exact h
 | clo f rs => exact cloR.imp h hy rfl fun _ _ _ _ _ h => h
theorem VR.imp {ι ι' : Map} {w w' : World} {x : AV} {v : Value} (h : VR ι w x v) (hc : ∀ c u,inAV c x → CR ι w c u → CR ι' w' c u) : VR ι' w' x v := by
 cases x with
 | c x => exact hc _ _ rfl h
 | agg xs =>
  obtain ⟨arr,e,h1,h2⟩ := h
  exact ⟨arr,e,h1,fun i hi => let ⟨u,h3,h4⟩ := h2 i hi; ⟨u,h3,hc _ _ (List.getElem_mem hi) h4⟩⟩
 | tup xs =>
  obtain ⟨arr,e,h1,h2⟩ := h
  refine ⟨arr,e,h1,fun i hi => ?_⟩
  obtain ⟨u,h3,h4⟩ := h2 i hi
  refine ⟨u,h3,?_⟩
  have hmem := List.getElem_mem hi
  generalize xs[i] = y at h4 hmem
  cases y with
  | inl c => exact hc _ _ ⟨_,hmem,rfl⟩ h4
  | inr cs =>
   obtain ⟨arr',e',h5,h6⟩ := h4
   exact ⟨arr',e',h5,fun j hj => let ⟨u',h7,h8⟩ := h6 j hj; ⟨u',h7,hc _ _ ⟨_,hmem,List.getElem_mem hj⟩ h8⟩⟩
theorem VR.wx {ι : Map} {w : World} {x : AV} {v : Value} {e : Ext} (h : VR ι w x v) (hy : e.yv = ι.ex.yv) : VR (ι.wx e) w x v := h.imp fun _ _ _ h => h.wx hy
theorem HR.imp {ι : Map} {σ : Heap} {w : World} {e : Ext} (h : HR ι σ w) (hc : ∀ o ∈ σ,∀ c ∈ o.cs,∀ u,CR ι w c u → CR (ι.wx e) w c u) : HR (ι.wx e) σ w where
 obj := fun id s hs => by
  obtain ⟨o,h1,h2,h3,h4⟩ := h.obj id s hs
  refine ⟨o,h1,h2,h3,?_⟩
  cases hl : s.loc with
  | none => rw [hl] at h4; exact h4
  | some l =>
   rw [hl] at h4
   obtain ⟨h5,h6,h7⟩ := h4
   exact ⟨h5,h6,fun i hi => let ⟨v,h8,h9⟩ := h7 i hi; ⟨v,h8,hc o (List.mem_of_getElem? h1) _ (List.getElem_mem hi) _ h9⟩⟩
 inj := h.inj
 resRow := h.resRow
 resNo := h.resNo
theorem HR.wx {ι : Map} {σ : Heap} {w : World} {e : Ext} (h : HR ι σ w) (hy : e.yv = ι.ex.yv) : HR (ι.wx e) σ w := h.imp fun _ _ _ _ _ hc => hc.wx hy
theorem Step.wx {ι ι' : Map} {σ σ' : Heap} {w w' : World} {e : Ext} (h : Step ι σ w ι' σ' w') : Step (ι.wx e) σ w (ι'.wx e) σ' w' :=
 ⟨h.len,h.size,h.os,h.out,h.keep,h.none,h.new,h.res,rfl,h.resKeep,h.frame⟩
theorem Step.heap {ι ι' : Map} {σ τ σ' : Heap} {w w' : World} (hl : τ.length = σ.length) (h : Step ι σ w ι' σ' w') : Step ι τ w ι' σ' w' :=
 ⟨hl ▸ h.len,h.size,h.os,h.out,h.keep,hl ▸ h.none,h.new,h.res,h.ex,h.resKeep,h.frame⟩
theorem HR.put {ι : Map} {σ : Heap} {w : World} {l : Nat} {o0 : Go.Obj} (o : Go.Obj) (h : HR ι σ w) (hn : noRow o0) (hl : w.heap[l]? = some o0) : HR ι σ (w.putObj l o) ∧ ∀ v u,VR ι w v u → VR ι (w.putObj l o) v u :=
 h.other fun b ⟨x,y,z,hb⟩ => putObj_get fun e => by subst e; rw [hl] at hb; injection hb with hb; exact hn _ _ _ hb
theorem Step.put {ι0 ι : Map} {σ0 σ : Heap} {w0 w : World} {l : Nat} {o : Go.Obj} (h0 : HR ι0 σ0 w0) (h : Step ι0 σ0 w0 ι σ w) (hl : w0.heap.size ≤ l) : Step ι0 σ0 w0 ι σ (w.putObj l o) where
 len := h.len
 size := by rw [World.putObj_size]; exact h.size
 os := h.os
 out := h.out
 keep := h.keep
 none := h.none
 new := h.new
 res := h.res
 ex := h.ex
 resKeep := fun b hb => by rw [putObj_get (by have := (h0.resRow b hb).lt; omega)]; exact h.resKeep b hb
 frame := fun b hb hu => by rw [putObj_get (by omega)]; exact h.frame b hb hu
theorem noRow_loop {r : Go.Loop} : noRow (.loop r) := fun _ _ _ e => by cases e
theorem noRow_def {d : Option (List Deferred)} : noRow (.deferred d) := fun _ _ _ e => by cases e
theorem SnapOk.put {S : List (Nat × Go.Obj)} {w : World} {l : Nat} {o : Go.Obj} (h : SnapOk S w) (hl : ∀ p ∈ S,p.1 ≠ l) : SnapOk S (w.putObj l o) := fun p hp => ⟨(h p hp).1,(putObj_get (hl p hp)).trans (h p hp).2⟩
theorem Marks.put {n : Nat} {w : World} {ms : List Deferred} {l : Nat} {o : Go.Obj} (h : Marks n w ms) (hl : ∀ ds,w.heap[l]? ≠ some (.deferred ds)) : Marks n (w.putObj l o) ms :=
 ⟨fun d hd => by
  obtain ⟨b,h1,h2,h3⟩ := h.1 d hd
  exact ⟨b,h1,h2,(putObj_get fun e => hl _ (e ▸ h3)).trans h3⟩,h.2⟩
def marksS (ms : List Deferred) : List (Nat × Go.Obj) := ms.filterMap fun d => match d.target with | .collected b => some (b,.deferred (some [])) | _ => none
theorem marksS_mem {ms : List Deferred} {p : Nat × Go.Obj} (h : p ∈ marksS ms) : ∃ d ∈ ms,d.target = .collected p.1 ∧ p.2 = .deferred (some []) := by
 obtain ⟨d,hd,h1⟩ := List.mem_filterMap.1 h
 split at h1
 ·rename_i b hb
  injection h1 with h1
  subst h1
  exact ⟨d,hd,hb,rfl⟩
 ·cases h1
theorem marksS_of {ms : List Deferred} {d : Deferred} {b : Nat} (hd : d ∈ ms) (hb : d.target = .collected b) : (b,Go.Obj.deferred (some [])) ∈ marksS ms :=
 List.mem_filterMap.2 ⟨d,hd,by simp [hb]⟩
theorem marksS_ok {n : Nat} {w : World} {ms : List Deferred} (h : Marks n w ms) : SnapOk (marksS ms) w := fun p hp => by
 obtain ⟨d,hd,h1,h2⟩ := marksS_mem hp
 obtain ⟨b,h3,_,h4⟩ := h.1 d hd
 rw [h1] at h3
 injection h3 with h3
 rw [h2,h3]
 exact ⟨noRow_def,h4⟩
theorem Marks.of_snap {n : Nat} {w w' : World} {ms : List Deferred} (h : Marks n w ms) (hs : SnapOk (marksS ms) w') : Marks n w' ms :=
 ⟨fun d hd => by
  obtain ⟨b,h1,h2,_⟩ := h.1 d hd
  exact ⟨b,h1,h2,(hs _ (marksS_of hd h1)).2⟩,h.2⟩
def jumpE : Exit → Option (Bool × Nat)
 | .normal => some (true,0)
 | .ret => some (false,2)
 | .exit id => some (false,id + 3)
 | _ => none
def BodyF (P : Program) (N n0 : Nat) (A B : Code) (r : Regs) (σ : Heap) (Q : Exit → Regs → Heap → Prop) : Prop :=
 ∀ l,CodeF P N (some l) n0 none A r σ fun e r' σ' => e = .normal ∧ ∃ r'',WR r' r'' ∧ r''.get GH = none ∧ CodeF P N (some l) n0 none B r'' σ' Q
theorem BodyF.mono {P : Program} {N n0 : Nat} {A B : Code} {r : Regs} {σ : Heap} {Q Q' : Exit → Regs → Heap → Prop} (h : BodyF P N n0 A B r σ Q) (hq : ∀ e r σ,Q e r σ → Q' e r σ) : BodyF P N n0 A B r σ Q' :=
 fun l => (h l).mono fun _ _ _ ⟨h1,r'',h2,h3,h4⟩ => ⟨h1,r'',h2,h3,h4.mono hq⟩
def HeadR (ps : List Nat) (as : List AV) (ρ rb : Regs) : Prop := ∀ t v,rb.get t = some v →
 (∃ i : Nat,ps[i]? = some t ∧ as[i]? = some v) ∨ (t < BIG ∧ t ∉ ps ∧ ρ.get (2000000 + t) = some v) ∨ (∃ k,k < BIG ∧ t = 1000000 + k ∧ ρ.get k = some v) ∨ (2000000 ≤ t ∧ t < 3000000 ∧ ρ.get t = some v)
def BackR (m : Nat) (r2 ρ : Regs) : Prop := ∀ t v,ρ.get t = some v →
 (t < BIG ∧ r2.get (1000000 + t) = some v) ∨ (2000000 ≤ t ∧ t < 3000000 ∧ r2.get t = some v) ∨ (t = GH ∧ v = .c (.t (.fn m [])))
theorem fold_set_size : ∀ (l : List (Nat × Value)) (a : Array Value),(l.foldl (fun t (p : Nat × Value) => t.setIfInBounds p.1 p.2) a).size = a.size
 | [],_ => rfl
 | p :: l,a => by rw [List.foldl_cons,fold_set_size l]; simp
theorem fold_set_ne : ∀ (l : List (Nat × Value)) (a : Array Value) (t : Nat),(∀ p ∈ l,p.1 ≠ t) → (l.foldl (fun t (p : Nat × Value) => t.setIfInBounds p.1 p.2) a).getD t undef = a.getD t undef
 | [],_,_,_ => rfl
 | p :: l,a,t,h => by
  rw [List.foldl_cons,fold_set_ne l _ t fun q hq => h q (by simp [hq]),getD_set_ne _ _ (h p (by simp))]
theorem fold_set_at : ∀ (l : List (Nat × Value)) (a : Array Value) (i t : Nat) (v : Value),(l.map (·.1)).Nodup → l[i]? = some (t,v) → t < a.size → (l.foldl (fun t (p : Nat × Value) => t.setIfInBounds p.1 p.2) a).getD t undef = v
 | [],_,_,_,_,_,h,_ => by simp at h
 | p :: l,a,0,t,v,hn,h,ht => by
  simp only [List.getElem?_cons_zero,Option.some.injEq] at h
  subst h
  rw [List.foldl_cons,fold_set_ne]
  ·exact getD_set_same _ _ _ ht
  ·intro q hq e
   rw [List.map_cons,List.nodup_cons] at hn
   exact hn.1 (List.mem_map.2 ⟨q,hq,e⟩)
 | p :: l,a,i + 1,t,v,hn,h,ht => by
  rw [List.map_cons,List.nodup_cons] at hn
  rw [List.foldl_cons]
  exact fold_set_at l _ i t v hn.2 (by simpa using h) (by simpa using ht)
theorem lk_own {ι : Map} {w : World} {a : Act} {t : Nat} (h : t < BIG) : lk ι w a t = a.tmps.getD t undef := by unfold lk; rw [if_neg (by omega)]
theorem lk_far {ι : Map} {w : World} {a : Act} {t : Nat} (h : BIG ≤ t) (h' : t ≠ GH) : lk ι w a t = ι.ex.o t := by unfold lk; rw [if_pos h,if_neg h']
theorem lk_gh {ι : Map} {w : World} {a : Act} : lk ι w a GH = modeV ι.ex w := by unfold lk; rw [if_pos (by decide),if_pos rfl]
theorem fn_value {ι : Map} {w : World} {m : Nat} {v : Value} (h : VR ι w (.c (.t (.fn m []))) v) : v = .func (.func m) #[] #[] := by
 have h : TR ι.un w (.fn m []) v := h
 cases h with
 | fn g caps arr h1 h2 =>
  have : arr = #[] := Array.size_eq_zero_iff.1 (by simpa using h1)
  rw [this]
theorem mode_eq {ex : Ext} {w : World} {m : Nat} (h : modeV ex w = .func (.func m) #[] #[]) : ∃ r,w.heap[ex.l]? = some (.loop r) ∧ r = { ex.lr with state := r.state,pending := r.pending } ∧
  ((m = 0 ∧ r.state = .ready ∧ r.pending = none) ∨ (m = 2 ∧ r.state = .done ∧ r.pending = some .ret) ∨ (∃ id,m = id + 3 ∧ r.state = .done ∧ r.pending = some (.exit id))) := by
 have hne : modeV ex w ≠ badV := fun e => by rw [h] at e; cases e
 obtain ⟨r,h1,h2,h3⟩ := modeV_loop hne
 refine ⟨r,h1,h2,?_⟩
 rw [h3] at h
 unfold modeOf at h
 split at h
 ·rename_i e1 e2
  injection h with h; injection h with h
  exact .inl ⟨h.symm,e1,e2⟩
 ·rename_i e1 e2
  injection h with h; injection h with h
  exact .inr (.inl ⟨h.symm,e1,e2⟩)
 ·rename_i id e1 e2
  injection h with h; injection h with h
  exact .inr (.inr ⟨id,h.symm,e1,e2⟩)
 ·cases h
theorem run_yieldcall {P : Program} {ρ : Operand → Value} {o : Oper} {f : Operand} {args : Array Operand} {ts : Array TypeId} (ho : o.op = .call { callee := .value f,args := args,argTypes := ts }) {l : Nat} (hf : ρ f = .func (.yield l) #[] #[]) (w : World) :
  (execOp ρ o).run P w = (Instr.yield l (args.map ρ)).run P w := by
 simp only [execOp,ho,resolve,hf,Deferred.ofValue,invoke]
 simp
section
variable {P : Program} {N : Nat} {ro : Option Nat} {n0 : Nat}
theorem yield_ok {yi : YI} (hyN : yi.n ≤ BIG) (hps : yi.ps.toList.Nodup) (hpn : ∀ p ∈ yi.ps.toList,p < yi.n) {ι0 : Map} {σ0 : Heap} {w0 : World} {ds : DS} (h0 : HR ι0 σ0 w0) (hn0 : σ0.length ≤ n0) (hex : ExOk yi ι0.ex w0) (hS : ∀ p ∈ ds.S,p.1 ≠ ι0.ex.l)
  {ι : Map} {σ : Heap} {w : World} {r : Regs} {a : Act} {ms : List Deferred} (hh : HR ι σ w) (hr : RegR N ι w r a) (hs : Step ι0 σ0 w0 ι σ w) (hm : MarksF ds w0.heap.size w ms)
  {o : Oper} {f : Operand} {args : Array Operand} {ts : Array TypeId} (hop : o.op = .call { callee := .value f,args := args,argTypes := ts }) {caps : List Ref} (hf : ev r f = some (.c (.clo YID caps))) {as : List AV} (has : evl r args.toList = some as) (hlen : as.length = yi.ps.size)
  (hgh : r.get GH = some (.c (.t (.fn 0 [])))) {rb : Regs} (hrb : HeadR yi.ps.toList as r rb) {Qb : Exit → Regs → Heap → Prop} (hb : BodyF P yi.n n0 yi.assign yi.body rb σ Qb) (hj : ∀ e r σ,Qb e r σ → (jumpE e).isSome = true)
  {next : Act → World → Prop} {Q : Exit → Act → World → Prop}
  (hn : ∀ e b m r2 σ2 ι2 w2,Qb e r2 σ2 → jumpE e = some (b,m) → HR ι2 σ2 w2 → (∀ r3 ρ,WR r2 r3 → BackR m r3 ρ → RegR N ι2 w2 ρ a) → Step ι0 σ0 w0 ι2 σ2 w2 → MarksF ds w0.heap.size w2 ms → next (a.put o.dst (.bool b)) w2) :
  o.wpIn (wr ro) 0 P a w next Q := by
 refine ⟨fun _ _ => trivial,?_⟩
 have hex' : ι.ex = ι0.ex := hs.ex
 obtain ⟨l,hl⟩ : ∃ l,l = ι0.ex.l := ⟨_,rfl⟩
 have hfv : a.eval f = .func (.yield l) #[] #[] := by
  have h1 : cloR ι YID caps (a.eval f) := ev_ok hr hf
  unfold cloR at h1
  rw [if_pos rfl,hex',hex.yv,← hl] at h1
  exact h1.1
 obtain ⟨us,hus,hu1,hu2⟩ := evl_vals hr has
 have hargs : args.map a.eval = us.toArray := by apply Array.ext'; simpa using hus
 -- the record
 have hg0 := hr.get GH _ hgh
 rw [lk_gh] at hg0
 obtain ⟨rc,hrc,hrc2,hrc3⟩ := mode_eq (fn_value hg0)
 rw [hex',← hl] at hrc
 rw [hex'] at hrc2
 have hst : rc.state = .ready ∧ rc.pending = none := by
  rcases hrc3 with ⟨_,h⟩ | ⟨h,_⟩ | ⟨id,h,_⟩
  ·exact h
  ·omega
  ·omega
 have hp1 : rc.params = yi.ps := by rw [hrc2]; exact hex.ps
 have hp2 : rc.assign = yi.assign := by rw [hrc2]; exact hex.assign
 have hp3 : rc.body = yi.body := by rw [hrc2]; exact hex.body
 have hp4 : rc.tmps = ι0.ex.lr.tmps := by rw [hrc2]
 have hlw : l < w.heap.size := (Array.getElem?_eq_some_iff.1 hrc).1
 have hl0 : w0.heap.size ≤ l := by rw [hl]; exact hex.le
 have hzl : (args.map a.eval).size = rc.params.size := by rw [hargs,hp1]; simp [hu1,hlen]
 rw [semAt_call (by rw [hop]; intro c e; cases e),run_yieldcall hop hfv,run_yield hrc hzl,Oper.uponIn_round,hp1,hp2,hp3,hp4]
 refine ⟨(fun e => by cases e),?_⟩
 -- the frame of the round
 generalize htm : (yi.ps.zip (args.map a.eval)).foldl (fun tmps (x : Nat × Value) => tmps.setIfInBounds x.1 x.2) ι0.ex.lr.tmps = tm
 have htm' : (yi.ps.toList.zip us).foldl (fun tmps (x : Nat × Value) => tmps.setIfInBounds x.1 x.2) ι0.ex.lr.tmps = tm := by
  rw [← htm,← Array.foldl_toList,Array.toList_zip,hargs]
 obtain ⟨eb,heb⟩ : ∃ eb : Ext,eb = ⟨ι0.ex.yv,fun t => if t < 2000000 then a.tmps.getD (t - 1000000) undef else ι0.ex.o t,ι0.ex.l,ι0.ex.lr⟩ := ⟨_,rfl⟩
 have hy0 : eb.yv = ι0.ex.yv := by rw [heb]
 have hy1 : eb.yv = ι.ex.yv := by rw [hex',heb]
 have hebl : eb.l = l := by rw [heb,hl]
 have h0b : HR (ι0.wx eb) σ0 w0 := h0.wx hy0
 have hhb : HR (ι.wx eb) σ w := hh.wx hy1
 have hsb : Step (ι0.wx eb) σ0 w0 (ι.wx eb) σ w := hs.wx
 have hrbR : RegR yi.n (ι.wx eb) w rb { tmps := tm,defers := [] } := by
  refine ⟨by rw [← htm',fold_set_size]; exact hex.n,hyN,fun t v hv => ?_,hr.gl⟩
  have hg : ∀ {k v},r.get k = some v → VR (ι.wx eb) w v (lk ι w a k) := fun h => (hr.get _ _ h).wx hy1
  rcases hrb t v hv with ⟨i,h1,h2⟩ | ⟨h1,h2,h3⟩ | ⟨k,h1,rfl,h3⟩ | ⟨h1,h2,h3⟩
  ·have htn : t < yi.n := hpn t (List.mem_of_getElem? h1)
   rw [lk_own (by omega)]
   obtain ⟨hia,hie⟩ := List.getElem?_eq_some_iff.1 h2
   obtain ⟨u,h5,h6⟩ := hu2 i hia
   rw [hie] at h6
   have : tm.getD t undef = u := by
    rw [← htm']
    refine fold_set_at _ _ i t u ?_ ?_ (by rw [hex.n]; exact htn)
    ·rw [List.map_fst_zip (by simp only [Array.length_toList]; omega)]; exact hps
    ·rw [List.getElem?_zip_eq_some]; exact ⟨h1,h5⟩
   show VR _ w v (tm.getD t undef)
   rw [this]
   exact h6.wx hy1
  ·rw [lk_own h1]
   have : tm.getD t undef = ι0.ex.lr.tmps.getD t undef := by
    rw [← htm']
    exact fold_set_ne _ _ t fun p hp e => h2 (e ▸ (List.of_mem_zip hp).1)
   show VR _ w v (tm.getD t undef)
   rw [this,← hex.o t h1,← hex']
   have h4 := hg h3
   rwa [lk_far (show BIG ≤ 2000000 + t by unfold BIG; omega) (by unfold GH; unfold BIG at h1; omega)] at h4
  ·rw [lk_far (by unfold BIG; omega) (by unfold GH; unfold BIG at h1; omega)]
   have h4 := hg h3
   rw [lk_own h1] at h4
   show VR _ w v (eb.o (1000000 + k))
   rw [heb]
   show VR _ w v (if 1000000 + k < 2000000 then a.tmps.getD (1000000 + k - 1000000) undef else _)
   unfold BIG at h1
   rw [if_pos (by omega),Nat.add_sub_cancel_left,← heb]
   exact h4
  ·rw [lk_far (by unfold BIG; omega) (by unfold GH; omega)]
   have h4 := hg h3
   rw [lk_far (by unfold BIG; omega) (by unfold GH; omega),hex'] at h4
   show VR _ w v (eb.o t)
   rw [heb]
   show VR _ w v (if t < 2000000 then _ else ι0.ex.o t)
   rw [if_neg (by omega),← heb]
   exact h4
 -- what must lie as it lay
 have hdl : ∀ d ∈ ms,d.target ≠ .collected l := hm.1.others (.inr fun ds e => by rw [hrc] at e; cases e)
 have hSl : ∀ p ∈ marksS ms ++ ds.S,p.1 ≠ l := fun p hp => by
  rcases List.mem_append.1 hp with hp | hp
  ·obtain ⟨d,hd,h1,_⟩ := marksS_mem hp
   intro e; exact hdl d hd (e ▸ h1)
  ·rw [hl]; exact hS p hp
 have hSw : SnapOk (marksS ms ++ ds.S) w := fun p hp => by
  rcases List.mem_append.1 hp with hp | hp
  ·exact marksS_ok hm.1 p hp
  ·exact hm.2.1 p hp
 have hS1 : SnapOk ((l,.loop rc) :: (marksS ms ++ ds.S)) w := fun p hp => by
  rcases List.mem_cons.1 hp with rfl | hp
  ·exact ⟨noRow_loop,hrc⟩
  ·exact hSw p hp
 have hA := hb l (ι0.wx eb) σ0 w0 ⟨[],(l,.loop rc) :: (marksS ms ++ ds.S)⟩ h0b hn0 (fun _ h => by cases h) (ι.wx eb) w _ [] hhb hrbR hsb rfl (MarksF.nil hS1)
 refine roundIn_of_wpIn (F := wr ro) trivial (wpIn_mono hA fun e a' w' hp => ?_)
 obtain ⟨_,r',σ',ι',ms',⟨rfl,r'',hw'',hgh'',hB⟩,hh',hr',hs',_,hm'⟩ := hp
 have hrc' : w'.heap[l]? = some (.loop rc) := (hm'.2.1 (l,.loop rc) (by simp)).2
 have hSw' : SnapOk (marksS ms ++ ds.S) w' := fun p hp => hm'.2.1 p (by simp only [List.mem_cons]; exact .inr hp)
 refine ⟨w'.putObj l (.loop { rc with state := .busy }),run_beginRound hrc' hst.1,?_⟩
 generalize hw2 : w'.putObj l (.loop { rc with state := .busy }) = w2
 have hrc2' : w2.heap[l]? = some (.loop { rc with state := .busy }) := by rw [← hw2]; exact World.putObj_heap_same (Array.getElem?_eq_some_iff.1 hrc').1
 obtain ⟨hh2,hv2⟩ := hh'.put (.loop { rc with state := .busy }) noRow_loop hrc'
 rw [hw2] at hh2 hv2
 have hs2 : Step (ι0.wx eb) σ0 w0 ι' σ' w2 := by rw [← hw2]; exact hs'.put h0b hl0
 have hx' : ι'.ex = eb := hs'.ex
 have hr2 : RegR yi.n ι' w2 r'' a' := by
  have hr3 := hr'.weak hw''
  refine ⟨hr3.size,hr3.low,fun t v hv => ?_,hr3.gl.mono fun b hu hb => ⟨hu,by rw [← hw2]; exact putObj_get fun e => by obtain ⟨x,y,z,hb⟩ := hb; rw [e,hrc'] at hb; cases hb⟩⟩
  have hne : t ≠ GH := fun e => by subst e; rw [hgh''] at hv; cases hv
  have h1 := hv2 _ _ (hr3.get t v hv)
  have e : lk ι' w2 a' t = lk ι' w' a' t := by
   unfold lk
   rw [if_neg hne]
   simp only [if_neg hne]
  rw [e]; exact h1
 have hS2 : SnapOk ((l,.loop { rc with state := .busy }) :: (marksS ms ++ ds.S)) w2 := fun p hp => by
  rcases List.mem_cons.1 hp with rfl | hp
  ·exact ⟨noRow_loop,hrc2'⟩
  ·rw [← hw2]; exact hSw'.put hSl p hp
 have hB2 := hB (ι0.wx eb) σ0 w0 ⟨a'.defers,(l,.loop { rc with state := .busy }) :: (marksS ms ++ ds.S)⟩ h0b hn0 (fun _ h => by cases h) ι' w2 a' [] hh2 hr2 hs2 rfl (MarksF.nil hS2)
 refine wpIn_mono hB2 fun e a3 w3 hp => ?_
 obtain ⟨hpan,r3,σ3,ι3,ms3,hQ3,hh3,hr3,hs3,_,hm3⟩ := hp
 have hrc3' : w3.heap[l]? = some (.loop { rc with state := .busy }) := (hm3.2.1 (l,.loop { rc with state := .busy }) (by simp)).2
 have hSw3 : SnapOk (marksS ms ++ ds.S) w3 := fun p hp => hm3.2.1 p (by simp only [List.mem_cons]; exact .inr hp)
 have hx3 : ι3.ex = eb := hs3.ex
 -- behind the round
 have fin : ∀ (jump : Option Code) (b : Bool) (m : Nat),b = jump.isNone → modeOf (if jump.isNone then .ready else .done) jump = .func (.func m) #[] #[] → jumpE e = some (b,m) →
   ∃ v w4,(Instr.endRound l jump).run P w3 = .ok v w4 ∧ next (a.put o.dst v) w4 := fun jump b m hb hmo hje => by
  refine ⟨.bool b,_,by rw [run_endRound jump hrc3',hb],?_⟩
  generalize hw4 : w3.putObj l (.loop { { rc with state := .busy } with state := if jump.isNone then .ready else .done,pending := jump }) = w4
  have hrc4 : w4.heap[l]? = some (.loop { { rc with state := .busy } with state := if jump.isNone then .ready else .done,pending := jump }) := by rw [← hw4]; exact World.putObj_heap_same (Array.getElem?_eq_some_iff.1 hrc3').1
  obtain ⟨hh4,hv4⟩ := hh3.put (.loop { { rc with state := .busy } with state := if jump.isNone then .ready else .done,pending := jump }) noRow_loop hrc3'
  rw [hw4] at hh4 hv4
  have hs4 : Step (ι0.wx eb) σ0 w0 ι3 σ3 w4 := by rw [← hw4]; exact hs3.put h0b hl0
  have hy3 : ι0.ex.yv = ι3.ex.yv := by rw [hx3,hy0]
  have hs5 : Step ι0 σ0 w0 (ι3.wx ι0.ex) σ3 w4 := hs4.wx (e := ι0.ex)
  have hlive : modeV ι0.ex w4 = modeOf (if jump.isNone then .ready else .done) jump := modeV_of (by rw [← hl]; exact hrc4) (by rw [hrc2])
  have hgen : ∀ r4 ρ,WR r3 r4 → BackR m r4 ρ → RegR N (ι3.wx ι0.ex) w4 ρ a := fun r4 ρ hwr hρ => by
   have hr3 := hr3.weak hwr
   refine ⟨hr.size,hr.low,fun t v hv => ?_,hr3.gl.mono fun b hu hb => ⟨hu,by rw [← hw4]; exact putObj_get fun e => by obtain ⟨x,y,z,hb⟩ := hb; rw [e,hrc3'] at hb; cases hb⟩⟩
   rcases hρ t v hv with ⟨h1,h2⟩ | ⟨h1,h2,h3⟩ | ⟨rfl,rfl⟩
   ·rw [lk_own h1]
    have h4 := hr3.get _ _ h2
    rw [lk_far (by unfold BIG; omega) (by unfold GH; unfold BIG at h1; omega),hx3,heb] at h4
    have h5 : VR ι3 w3 v (if 1000000 + t < 2000000 then a.tmps.getD (1000000 + t - 1000000) undef else ι0.ex.o (1000000 + t)) := h4
    unfold BIG at h1
    rw [if_pos (by omega),Nat.add_sub_cancel_left] at h5
    exact (hv4 _ _ h5).wx hy3
   ·rw [lk_far (by unfold BIG; omega) (by unfold GH; omega)]
    have h4 := hr3.get _ _ h3
    rw [lk_far (by unfold BIG; omega) (by unfold GH; omega),hx3,heb] at h4
    have h5 : VR ι3 w3 v (if t < 2000000 then a.tmps.getD (t - 1000000) undef else ι0.ex.o t) := h4
    rw [if_neg (by omega)] at h5
    exact (hv4 _ _ h5).wx hy3
   ·rw [lk_gh]
    show VR _ w4 _ (modeV ι0.ex w4)
    rw [hlive,hmo]
    exact TR.fn m [] #[] rfl fun i hi => absurd hi (by simp)
  have hmk : MarksF ds w0.heap.size w4 ms := by
   have hS4 : SnapOk (marksS ms ++ ds.S) w4 := by rw [← hw4]; exact hSw3.put hSl
   exact ⟨hm.1.of_snap fun p hp => hS4 p (List.mem_append.2 (.inl hp)),fun p hp => hS4 p (List.mem_append.2 (.inr hp)),hm.2.2⟩
  exact hn e b m r3 σ3 (ι3.wx ι0.ex) w4 hQ3 hje (hh4.wx hy3) hgen hs5 hmk
 cases e with
 | normal => exact fin none true 0 rfl rfl rfl
 | ret => exact fin (some .ret) false 2 rfl rfl rfl
 | exit id => exact fin (some (.exit id)) false (id + 3) rfl rfl rfl
 | goto t => have := hj _ _ _ hQ3; cases this
 | panic ch => exact hpan.elim
 | outgrown => exact hpan.elim
theorem Step.other {ι0 ι : Map} {σ0 σ : Heap} {w0 w w' : World} (h0 : HR ι0 σ0 w0) (h : Step ι0 σ0 w0 ι σ w) (hb : ∀ b,b < w0.heap.size → w'.heap[b]? = w.heap[b]?) (hsz : w'.heap.size = w.heap.size) (hos : w'.os = w.os) (hout : w'.output = w.output) : Step ι0 σ0 w0 ι σ w' where
 len := h.len
 size := by rw [hsz]; exact h.size
 os := hos.trans h.os
 out := hout.trans h.out
 keep := h.keep
 none := h.none
 new := h.new
 res := h.res
 ex := h.ex
 resKeep := fun b hr => (hb b (h0.resRow b hr).lt).trans (h.resKeep b hr)
 frame := fun b hlt hu => (hb b hlt).trans (h.frame b hlt hu)
end
end Go.Abs
