/-
  A general library: a region that draws its order of evaluation.
-/
import Derived.Test.YtogkpjhkpgdbkaaDoorWR2QAbsM
set_option linter.all false
namespace Go.Abs
variable [Gl]
def ConstAt (P : Program) (g : FuncId) (args : List AV) (σ : Heap) (rs : List Nat) (v : AV) : Prop :=
 ∀ τ,(∀ c,c ∈ rs → agC τ σ c) → FnOk P g args τ fun v' σ' => v' = v ∧ σ' = τ
def memN (x : Nat) : List Nat → Bool
 | [] => false
 | y :: ys => x == y || memN x ys
def disjN : List Nat → List Nat → Bool
 | [],_ => true
 | x :: xs,ys => !memN x ys && disjN xs ys
abbrev DrawLog := List (Nat × List Nat × List Nat)
def freeOf (b : Nat) (rs ws : List Nat) : DrawLog → Bool
 | [] => true
 | (i,rs',ws') :: l => (b.testBit i || (disjN ws' rs && disjN ws' ws && disjN ws rs')) && freeOf b rs ws l
def onDraw (x : Option DR) (K : Option AV → Heap → List Nat → List Nat → Prop) (_ : Tag K) : Prop := match x with | some (a,b,c,d) => K a b c d | none => False
def callD (P : Program) (g : FuncId) (args : List AV) (σ : Heap) (K : Option AV → Heap → List Nat → List Nat → Prop) (_ : Tag K) : Prop :=
 (∃ v rs,ConstAt P g args σ rs v ∧ K (some v) σ rs []) ∨ ∃ v σ',FnOk P g args σ (fun v' τ => v' = v ∧ τ = σ') ∧ σ.length ≤ σ'.length ∧ K (some v) σ' (List.range (σ.length + 1)) (List.range (σ'.length + 1))
def stepD (P : Program) (r : Regs) (σ : Heap) (op : Op) (K : Option AV → Heap → List Nat → List Nat → Prop) (t : Tag K) : Prop :=
 match op with
 | .call { callee := .value f,args,argTypes := _ } => onOpt (callE r f args.toList) (fun x => callD P x.1 x.2 σ K t) ⟨⟩
 | .binOp b xT x y yT => if isNilConst y then False else onDraw (opD P r σ (.binOp b xT x y yT)) K t
 | op => onDraw (opD P r σ op) K t
def drawC (P : Program) (N : Nat) : List COp → Nat → List Nat → DrawLog → Regs → Heap → (K : Regs → Heap → Prop) → Tag K → Prop
 | [],_,_,_,r,σ,K,_ => K r σ
 | ⟨d,op,g,_⟩ :: os,j,bef,log,r,σ,K,t => onDst (dstOk N d) (onGuard (guardC r g)
   (stepD P r σ op (fun res σ' rs ws => onDst (freeOf (bef.headD 0) rs ws log) (drawC P N os (j + 1) bef.tail ((j,rs,ws) :: log) (r.putR d res) σ' K t) ⟨⟩) ⟨⟩)
   (drawC P N os (j + 1) bef.tail ((j,[],[]) :: log) (r.drop d) σ K t) ⟨⟩ ⟨⟩) ⟨⟩
section
variable {P : Program} {N : Nat} {ro : Option Nat}
theorem memN_ok {x : Nat} : ∀ {ys : List Nat},memN x ys = false → x ∉ ys
 | [],_ => by simp
 | y :: ys,h => by
  simp only [memN,Bool.or_eq_false_iff,beq_eq_false_iff_ne] at h
  have := memN_ok h.2
  simp [h.1,this]
theorem disjN_ok : ∀ {xs ys : List Nat},disjN xs ys = true → ∀ c ∈ xs,c ∉ ys
 | [],_,_ => by simp
 | x :: xs,ys,h => by
  simp only [disjN,Bool.and_eq_true,Bool.not_eq_true'] at h
  intro c hc
  rcases List.mem_cons.1 hc with rfl | hc
  ·exact memN_ok h.1
  ·exact disjN_ok h.2 c hc
theorem freeOf_ok {b : Nat} {rs ws : List Nat} : ∀ {l : DrawLog},freeOf b rs ws l = true → ∀ x ∈ l,b.testBit x.1 = false → (∀ c ∈ x.2.2,c ∉ rs ∧ c ∉ ws) ∧ (∀ c ∈ ws,c ∉ x.2.1)
 | [],_ => by simp
 | (i,rs',ws') :: l,h => by
  simp only [freeOf,Bool.and_eq_true,Bool.or_eq_true] at h
  intro x hx hb
  rcases List.mem_cons.1 hx with rfl | hx
  ·rcases h.1 with h1 | h1
   ·rw [h1] at hb; cases hb
   ·exact ⟨fun c hc => ⟨disjN_ok h1.1.1 c hc,disjN_ok h1.1.2 c hc⟩,disjN_ok h1.2⟩
  ·exact freeOf_ok h.2 x hx hb
def GhD (N m : Nat) (r : Regs) (τ : Heap) (r0 : Regs) (σ0 : Heap) (r1 : Regs) (σ1 : Heap) : Prop :=
 ∀ ι₁ w₁ a₁,HR ι₁ τ w₁ → RegR N ι₁ w₁ r a₁ → ∀ ι w a,HR ι σ0 w → RegR N ι w r0 a → Step ι₁ τ w₁ ι σ0 w →
  ∃ ι',HR ι' σ1 w ∧ RegR N ι' w r1 a ∧ ∀ ιs σs ws,HR ιs σs ws → σs.length ≤ m → Step ιs σs ws ι₁ τ w₁ → Step ιs σs ws ι' σ1 w
theorem GhD.refl (N m : Nat) (r : Regs) (τ : Heap) (r0 : Regs) (σ0 : Heap) : GhD N m r τ r0 σ0 r0 σ0 := fun _ _ _ _ _ ι _ _ hh hr hs => ⟨ι,hh,hr,fun _ _ _ _ _ h => h.trans hs⟩
def FactD (P : Program) (N m : Nat) (ops : Array Oper) (o : Oper) (s s' : St) (rs ws : List Nat) : Prop :=
 dstOk N o.dst = true ∧ ∃ b,guardE ops s.1 o.guard = some b ∧ (∀ c,c ∉ ws → agC s'.2 s.2 c) ∧
  (b = true → ∃ res,s'.1 = s.1.putR o.dst res ∧ ∀ r' τ,(∀ x ∈ o.op.operands,ev r' x = ev s.1 x) → (∀ c ∈ rs,agC τ s.2 c) →
   stepOk P r' τ o fun res' τ0 => ∃ τ',GhD N m r' τ (r'.putR o.dst res') τ0 (r'.putR o.dst res) τ' ∧ (∀ c,c ∉ ws → agC τ' τ c) ∧ ∀ c ∈ ws,agC τ' s'.2 c) ∧
  (b = false → s'.1 = s.1.drop o.dst ∧ s'.2 = s.2 ∧ ws = [])
theorem stepOk_plain {r : Regs} {σ : Heap} {o : Oper} {K : Option AV → Heap → Prop} (h1 : ∀ f args ts,o.op ≠ .call { callee := .value f,args := args,argTypes := ts }) (h2 : nilTest P r o.op = none) {res : Option AV} {σ' : Heap} (h : opE P r σ o.op = some (res,σ')) (hK : K res σ') : stepOk P r σ o K := by
 unfold stepOk
 split
 ·rename_i f args ts hop
  exact absurd hop (h1 f args ts)
 ·rw [h2,h]
  exact hK
theorem fact_op {m : Nat} {ops : Array Oper} {o : Oper} {r : Regs} {σ σ' : Heap} {res : Option AV} {rs ws : List Nat} (hd : dstOk N o.dst = true) (hg : guardE ops r o.guard = some true)
  (h1 : ∀ f args ts,o.op ≠ .call { callee := .value f,args := args,argTypes := ts }) (h2 : ∀ r,nilTest P r o.op = none) (h : opD P r σ o.op = some (res,σ',rs,ws)) : FactD P N m ops o (r,σ) (r.putR o.dst res,σ') rs ws := by
 obtain ⟨_,τ',_,hs⟩ := opD_same (r' := r) (τ := σ) h (fun _ _ => rfl) (fun c _ => agC.refl σ c)
 refine ⟨hd,true,hg,hs.2.2,fun _ => ⟨res,rfl,fun r' τ hr ht => ?_⟩,fun e => by cases e⟩
 obtain ⟨_,τ',h5,h6⟩ := opD_same (r' := r') (τ := τ) h hr ht
 exact stepOk_plain h1 (h2 r') h5 ⟨_,GhD.refl _ _ _ _ _ _,h6.1,h6.2.1⟩
theorem fact_call {m : Nat} {ops : Array Oper} {o : Oper} {r : Regs} {σ : Heap} {v : AV} {rs : List Nat} (hd : dstOk N o.dst = true) (hg : guardE ops r o.guard = some true)
  {f : Operand} {args : Array Operand} {ts : Array TypeId} (hop : o.op = .call { callee := .value f,args := args,argTypes := ts }) {x : FuncId × List AV} (hc : callE r f args.toList = some x)
  (h : ConstAt P x.1 x.2 σ rs v) : FactD P N m ops o (r,σ) (r.putR o.dst (some v),σ) rs [] := by
 refine ⟨hd,true,hg,fun c _ => agC.refl σ c,fun _ => ⟨some v,rfl,fun r' τ hr ht => ?_⟩,fun e => by cases e⟩
 unfold stepOk
 rw [hop]
 simp only
 have h1 : ev r' f = ev r f := hr f (by rw [hop]; simp [Op.operands,Call.operands])
 have h2 : evl r' args.toList = evl r args.toList := evl_congr fun y hy => hr y (by rw [hop]; simp [Op.operands,Call.operands]; exact .inr (by simpa using hy))
 rw [h1,h2]
 unfold callE at hc
 split at hc
 ·rename_i fv as e1 e2
  split at hc
  ·rename_i g caps e3
   injection hc with hc
   subst hc
   try rw [e1,e2]
   try simp only [e3]
   have := h τ ht
   refine ⟨this.1,fun ι w cargs hgl hh ha => CallsIn.mono (this.2 ι w cargs hgl hh ha) ?_⟩
   rintro e w' ⟨v',σ',ι',cv,rfl,⟨rfl,rfl⟩,h5⟩
   exact ⟨v',σ',ι',cv,rfl,⟨_,GhD.refl _ _ _ _ _ _,fun c _ => agC.refl σ' c,fun c hc => absurd hc (by simp)⟩,h5⟩
  ·cases hc
 ·cases hc
theorem agC_all {τ σ : Heap} (h : ∀ c ∈ List.range (σ.length + 1),agC τ σ c) : τ = σ := by
 have hl : τ.length = σ.length := h 0 (by simp)
 refine List.ext_getElem? fun i => ?_
 by_cases hi : i < σ.length
 ·exact h (i + 1) (by simp; omega)
 ·rw [List.getElem?_eq_none (by omega),List.getElem?_eq_none (by omega)]
theorem agC_rest {σ' σ : Heap} (hl : σ.length ≤ σ'.length) {c : Nat} (hc : c ∉ List.range (σ'.length + 1)) : agC σ' σ c := by
 cases c with
 | zero => simp at hc
 | succ c =>
  simp only [List.mem_range,Nat.not_lt] at hc
  show σ'[c]? = σ[c]?
  rw [List.getElem?_eq_none (by omega),List.getElem?_eq_none (by omega)]
theorem fact_call2 {m : Nat} {ops : Array Oper} {o : Oper} {r : Regs} {σ σ₁ : Heap} {v : AV} (hd : dstOk N o.dst = true) (hg : guardE ops r o.guard = some true)
  {f : Operand} {args : Array Operand} {ts : Array TypeId} (hop : o.op = .call { callee := .value f,args := args,argTypes := ts }) {x : FuncId × List AV} (hc : callE r f args.toList = some x)
  (h : FnOk P x.1 x.2 σ fun v' τ => v' = v ∧ τ = σ₁) (hl : σ.length ≤ σ₁.length) : FactD P N m ops o (r,σ) (r.putR o.dst (some v),σ₁) (List.range (σ.length + 1)) (List.range (σ₁.length + 1)) := by
 refine ⟨hd,true,hg,fun c hc => agC_rest hl hc,fun _ => ⟨some v,rfl,fun r' τ hr ht => ?_⟩,fun e => by cases e⟩
 have hτ : τ = σ := agC_all ht
 subst hτ
 unfold stepOk
 rw [hop]
 simp only
 have h1 : ev r' f = ev r f := hr f (by rw [hop]; simp [Op.operands,Call.operands])
 have h2 : evl r' args.toList = evl r args.toList := evl_congr fun y hy => hr y (by rw [hop]; simp [Op.operands,Call.operands]; exact .inr (by simpa using hy))
 rw [h1,h2]
 unfold callE at hc
 split at hc
 ·rename_i fv as e1 e2
  split at hc
  ·rename_i g caps e3
   injection hc with hc
   subst hc
   try rw [e1,e2]
   try simp only [e3]
   refine ⟨h.1,fun ι w cargs hgl hh ha => CallsIn.mono (h.2 ι w cargs hgl hh ha) ?_⟩
   rintro e w' ⟨v',σ',ι',cv,rfl,⟨rfl,rfl⟩,h5⟩
   exact ⟨v',σ',ι',cv,rfl,⟨_,GhD.refl _ _ _ _ _ _,fun c hc => agC_rest hl hc,fun c _ => agC.refl σ' c⟩,h5⟩
  ·cases hc
 ·cases hc
theorem nilTest_not {op : Op} (h : ∀ b xT x y yT,op = .binOp b xT x y yT → isNilConst y = false) (r : Regs) : nilTest P r op = none := by
 unfold nilTest
 split
 ·rename_i b xT x y yT
  rw [h b xT x y yT rfl]
  rfl
 ·rfl
theorem fact_step {m : Nat} {ops : Array Oper} {o : Oper} {r : Regs} {σ : Heap} (hd : dstOk N o.dst = true) (hg : guardE ops r o.guard = some true) {K : Option AV → Heap → List Nat → List Nat → Prop} {t : Tag K} (h : stepD P r σ o.op K t) :
  ∃ res σ' rs ws,FactD P N m ops o (r,σ) (r.putR o.dst res,σ') rs ws ∧ K res σ' rs ws := by
 unfold stepD at h
 split at h
 ·rename_i f args ts hop
  unfold onOpt at h
  split at h
  ·rename_i x hx
   rcases h with ⟨v,rs,h1,h2⟩ | ⟨v,σ',h1,hl,h2⟩
   ·exact ⟨some v,σ,rs,[],fact_call hd hg hop hx h1,h2⟩
   ·exact ⟨some v,σ',_,_,fact_call2 hd hg hop hx h1 hl,h2⟩
  ·exact h.elim
 ·rename_i b xT x y yT hop
  split at h
  ·exact h.elim
  ·rename_i hy
   unfold onDraw at h
   split at h
   ·rename_i a b' c d hx
    rw [← hop] at hx
    refine ⟨a,b',c,d,fact_op hd hg (by rw [hop]; intro f args ts e; cases e) (nilTest_not fun b xT x y' yT e => ?_) hx,h⟩
    rw [hop] at e
    injection e with _ _ _ e
    subst e
    simpa using hy
   ·exact h.elim
 ·rename_i h1 h2
  unfold onDraw at h
  split at h
  ·rename_i a b' c d hx
   exact ⟨a,b',c,d,fact_op hd hg h1 (nilTest_not fun b xT x y yT e => absurd e (h2 b xT x y yT)) hx,h⟩
  ·exact h.elim
structure Facts (P : Program) (N mm : Nat) (ops : Array Oper) (bef : List Nat) (k m : Nat) (S : Nat → St) (RH WH : Nat → List Nat) : Prop where
 fact : ∀ j,k ≤ j → j < m → ∃ o,ops[j]? = some o ∧ FactD P N mm ops o (S j) (S (j + 1)) (RH j) (WH j)
 order : ∀ i j,k ≤ i → i < j → j < m → (bef.getD j 0).testBit i = false → (∀ c ∈ WH i,c ∉ RH j ∧ c ∉ WH j) ∧ ∀ c ∈ WH j,c ∉ RH i
theorem drawC_facts {mm : Nat} {ops : Array Oper} {bef : List Nat} {K : Regs → Heap → Prop} : ∀ (os : List Oper) (cs : List COp) (ks : List (List Nat)),stripOps ops os ks = some cs → ∀ (k : Nat),os = ops.toList.drop k →
  ∀ {r : Regs} {σ : Heap} {log : DrawLog} {t : Tag K},drawC P N cs k (bef.drop k) log r σ K t → ∃ S RH WH,Facts P N mm ops bef k ops.size S RH WH ∧ S k = (r,σ) ∧ K (S (max k ops.size)).1 (S (max k ops.size)).2 ∧
   (∀ x ∈ log,∀ j,k ≤ j → j < ops.size → (bef.getD j 0).testBit x.1 = false → (∀ c ∈ x.2.2,c ∉ RH j ∧ c ∉ WH j) ∧ ∀ c ∈ WH j,c ∉ x.2.1)
 | [],cs,ks,hst,k,hk,r,σ,log,t,h => by
  simp only [stripOps,Option.some.injEq] at hst
  subst hst
  have hlen : ops.toList.length ≤ k := List.drop_eq_nil_iff.1 hk.symm
  have hle : ops.size ≤ k := by simpa using hlen
  exact ⟨fun _ => (r,σ),fun _ => [],fun _ => [],⟨fun j h1 h2 => by omega,fun i j h1 h2 h3 => by omega⟩,rfl,h,fun x _ j h1 h2 => by omega⟩
 | o :: os,cs,ks,hst,k,hk,r,σ,log,t,h => by
  simp only [stripOps] at hst
  split at hst
  ·rename_i g cs' hg hcs
   injection hst with hst
   subst hst
   have hlt : k < ops.size := by
    have : (ops.toList.drop k).length = os.length + 1 := by rw [← hk]; rfl
    simp at this; omega
   have hok : ops[k]? = some o := by
    have : (ops.toList.drop k)[0]? = some o := by rw [← hk]; rfl
    simpa using this
   have hos : os = ops.toList.drop (k + 1) := by
    have : (ops.toList.drop k).tail = os := by rw [← hk]; rfl
    rw [← this]; simp
   have hhead : (bef.drop k).headD 0 = bef.getD k 0 := by simp [List.headD_eq_head?_getD,List.head?_drop]
   have htail : (bef.drop k).tail = bef.drop (k + 1) := by simp
   obtain ⟨hdst,h⟩ := h
   rw [guardC_ok hg] at h
   have fin : ∀ (r' : Regs) (σ' : Heap) (rs ws : List Nat),FactD P N mm ops o (r,σ) (r',σ') rs ws → freeOf (bef.getD k 0) rs ws log = true → drawC P N cs' (k + 1) (bef.drop (k + 1)) ((k,rs,ws) :: log) r' σ' K t →
     ∃ S RH WH,Facts P N mm ops bef k ops.size S RH WH ∧ S k = (r,σ) ∧ K (S (max k ops.size)).1 (S (max k ops.size)).2 ∧
      (∀ x ∈ log,∀ j,k ≤ j → j < ops.size → (bef.getD j 0).testBit x.1 = false → (∀ c ∈ x.2.2,c ∉ RH j ∧ c ∉ WH j) ∧ ∀ c ∈ WH j,c ∉ x.2.1) := fun r' σ' rs ws hf hfree hd => by
    obtain ⟨S,RH,WH,hF,hS,hK,hlog⟩ := drawC_facts os cs' _ hcs (k + 1) hos hd
    refine ⟨fun j => if j = k then (r,σ) else S j,fun j => if j = k then rs else RH j,fun j => if j = k then ws else WH j,⟨fun j h1 h2 => ?_,fun i j h1 h2 h3 h4 => ?_⟩,by simp,?_,fun x hx j h1 h2 h3 => ?_⟩
    ·by_cases e : j = k
     ·subst e
      refine ⟨o,hok,?_⟩
      simp only [if_true,show ¬ j + 1 = j by omega,if_false,hS]
      exact hf
     ·obtain ⟨o',h3,h4⟩ := hF.fact j (by omega) h2
      refine ⟨o',h3,?_⟩
      simp only [e,show ¬ j + 1 = k by omega,if_false]
      exact h4
    ·have e2 : ¬ j = k := by omega
     by_cases e : i = k
     ·subst e
      simp only [if_true,e2,if_false]
      exact hlog (i,rs,ws) (by simp) j (by omega) h3 h4
     ·simp only [e,e2,if_false]
      exact hF.order i j (by omega) h2 h3 h4
    ·have e1 : max k ops.size = max (k + 1) ops.size := by omega
     have e2 : ¬ max (k + 1) ops.size = k := by omega
     simp only [e1,e2,if_false]
     exact hK
    ·by_cases e : j = k
     ·subst e
      simp only [if_true]
      exact freeOf_ok hfree x hx h3
     ·simp only [e,if_false]
      exact hlog x (by simp [hx]) j (by omega) h2 h3
   unfold onGuard at h
   split at h
   ·rename_i b hb
    cases b with
    | true =>
     simp only [if_true] at h
     obtain ⟨res,σ',rs,ws,hf,hfree,hd⟩ := fact_step hdst hb h
     rw [hhead] at hfree
     rw [htail] at hd
     exact fin _ _ rs ws hf hfree hd
    | false =>
     simp only [Bool.false_eq_true,if_false] at h
     rw [htail] at h
     refine fin _ _ [] [] ⟨hdst,false,hb,fun c _ => agC.refl σ c,fun e => absurd e (by simp),fun _ => ⟨rfl,rfl,rfl⟩⟩ ?_ h
     have : ∀ l : DrawLog,freeOf (bef.getD k 0) [] [] l = true := fun l => by
      induction l with
      | nil => rfl
      | cons x l ih =>
       obtain ⟨i,rs',ws'⟩ := x
       have hdn : ∀ l,disjN l [] = true := fun l => by
        induction l with
        | nil => rfl
        | cons y l ih => simp [disjN,memN,ih]
       simp only [freeOf,hdn,ih,disjN,Bool.and_self,Bool.or_true]
     exact this log
   ·exact h.elim
  ·cases hst
end
end Go.Abs
