/-
  A general library: running code on symbolic values is sound. Part 2: drawn regions; all code.
-/
import Derived.Test.YtddaobhpffpmoaaSR6QSyB
import Derived.Test.YtddaobhpffpmoaaSR6QAbsZ
set_option linter.all false
namespace Go.Abs
variable [Gl]
inductive LL:DrawLog→DrawLog→Prop
 |nil:LL [] []
 |same (x:Nat×List Nat×List Nat) {l m:DrawLog}:LL l m→LL (x::l) (x::m)
 |drop (i:Nat) (rs ws:List Nat) {l m:DrawLog}:LL l m→LL ((i,[],[])::l) ((i,rs,ws)::m)
theorem disjN_nil:∀l,disjN l []=true:=fun l=>by
 induction l with
 |nil=>rfl
 |cons y l ih=>simp[disjN,memN,ih]
theorem LL.free{l m:DrawLog}(h:LL l m){b:Nat}{rs ws:List Nat}(hf:freeOf b rs ws m=true):freeOf b rs ws l=true:=by
 induction h with
 |nil=>rfl
 |same x _ ih=>
  obtain⟨i,rs',ws'⟩:=x
  simp only[freeOf,Bool.and_eq_true]at hf⊢
  exact⟨hf.1,ih hf.2⟩
 |drop i rs' ws' _ ih=>
  simp only[freeOf,Bool.and_eq_true]at hf⊢
  exact⟨by simp[disjN,disjN_nil],ih hf.2⟩
section
variable {P:Program}{N:Nat}{ro:Option Nat}{n0:Nat}
theorem idsS_ok{r:SR}{L:Tg}{ρ:Regs}(hρ:SubR ρ r.den)(hL:r.holds L=true){x:Operand}{v:SV}(h:evS r L x=some v):idsOf (ev ρ x)=idsS (evS r L x):=by
 rw[evS_ok hρ hL h,h]
 cases v with
 |c x=>cases x<;>rfl
 |_=>rfl
theorem foot_ok{ty:TyT}(hty:TyOk P ty){r:SR}{L:Tg}{ρ:Regs}(hρ:SubR ρ r.den)(hL:r.holds L=true){σ:SH}{op:Op}(hc:isCall op=none){res:Option SV}{σ':SH}(h:opS true ty r L σ op=some (true,res,σ'))
  {rs ws:List Nat} (hf:footS r L σ σ' op=some (rs,ws)) {K:Option AV→Heap→List Nat→List Nat→Prop} {t:Tag K} (hK:K (res.map SV.den) (SH.den σ') rs ws):stepD P ρ (SH.den σ) op K t:=by
 have hb:∀b xT x y yT,op=.binOp b xT x y yT→isNilConst y=false:=fun b xT x y yT e=>by
  subst e
  simp only[footS]at hf
  split at hf
  ·cases hf
  ·rename_i h1;exact h1
 have hE:opE P ρ (SH.den σ) op=some (res.map SV.den,SH.den σ'):=by
  obtain⟨res0,τ,h1,h2⟩:=opS_ok hty hρ hL hb h
  have:∀{x:Option AV} {y:Heap},Out true (SH.den σ) res0 τ x y→res0=x∧τ=y:=fun h2=>by
   cases h2 with
   |weak _ _ h3=>exact h3 rfl
   |own _ h3=>cases h3
  obtain⟨e1,e2⟩:=this h2
  rw[h1,e1,e2]
 have hnew:∀{x:Option AV×Heap},x=(res.map SV.den,SH.den σ')→newIds σ σ' []=(rs,ws)→newD (SH.den σ) x []=(res.map SV.den,SH.den σ',rs,ws):=fun e hn=>by
  subst e
  simp only[newIds]at hn
  simp only[newD,SH.den_length]
  split at hn
  ·rename_i hl
   rw[if_pos (eqB hl)]
   injection hn with h1 h2;subst h1;subst h2;rfl
  ·rename_i hl
   rw[if_neg (beq_ne hl)]
   injection hn with h1 h2;subst h1;subst h2;rfl
 have plain:opD P ρ (SH.den σ) op=(opE P ρ (SH.den σ) op).map (fun x=>(x.1,x.2,[],[]))→rs=[]→ws=[]→(∀b xT x y yT,op≠.binOp b xT x y yT)→stepD P ρ (SH.den σ) op K t:=fun h1 h2 h3 h4=>by
  subst h2;subst h3
  unfold stepD
  split
  ·exact absurd rfl (isCall_none hc _ _ _)
  ·rename_i b xT x y yT;exact absurd rfl (h4 b xT x y yT)
  ·rw[h1,hE]
   exact hK
 cases op with
 |load u a=>
  simp only[footS,Option.some.injEq,Prod.mk.injEq]at hf
  obtain⟨h1,rfl⟩:=hf
  simp only[stepD,opD,hE,Option.map_some,onDraw]
  have ha:∃v,evS r L a=some v:=by
   simp only[opS]at h
   split at h
   ·rename_i i c v h2 h3;exact⟨_,h3⟩
   ·cases h
  obtain⟨v,hv⟩:=ha
  rw[idsS_ok hρ hL hv,h1]
  exact hK
 |store u a x=>
  simp only[footS,Option.some.injEq,Prod.mk.injEq]at hf
  obtain⟨h1,h2⟩:=hf
  simp only[stepD,opD,hE,Option.map_some,onDraw]
  have ha:∃v,evS r L a=some v:=by
   simp only[opS]at h
   split at h
   ·rename_i i c v _ h2 h3 h4;exact⟨_,h3⟩
   ·cases h
  obtain⟨v,hv⟩:=ha
  have e:ws=rs:=h2.symm.trans h1
  subst e
  rw[idsS_ok hρ hL hv,h1]
  exact hK
 |alloc e=>
  simp only[footS,Option.some.injEq]at hf
  simp only[stepD,opD,hE,Option.map_some,hnew rfl hf]
  exact hK
 |box e x=>
  simp only[footS,Option.some.injEq]at hf
  simp only[stepD,opD,hE,Option.map_some,hnew rfl hf]
  exact hK
 |makeSlice u l c=>
  simp only[footS,Option.some.injEq]at hf
  simp only[stepD,opD,hE,Option.map_some,hnew rfl hf]
  exact hK
 |buildSlice u n ps=>
  simp only[footS,Option.some.injEq]at hf
  simp only[stepD,opD,hE,Option.map_some,hnew rfl hf]
  exact hK
 |slice u x lo hi mx=>
  simp only[footS,Option.some.injEq,Prod.mk.injEq]at hf
  obtain⟨h1,rfl⟩:=hf
  simp only[stepD,opD,hE,Option.map_some,onDraw]
  have ha:∃v,evS r L x=some v:=by
   simp only[opS]at h
   split at h
   ·rename_i v _ _ _ h2 _ _ _;exact⟨_,h2⟩
   ·cases h
  obtain⟨v,hv⟩:=ha
  rw[idsS_ok hρ hL hv,h1]
  exact hK
 |binOp b xT x y yT=>
  have hy:=hb b xT x y yT rfl
  simp only[footS,hy,Option.some.injEq,Prod.mk.injEq]at hf
  obtain⟨rfl,rfl⟩:=hf
  simp only[stepD,hy,Bool.false_eq_true,if_false,opD,hE,Option.map_some,onDraw]
  exact hK
 |call c=>
  obtain⟨callee,args,ts⟩:=c
  cases callee with
  |value f=>cases hc
  |invoke a b=>cases h
  |builtin b=>
   have hargs:∃vs,evlS r L args.toList=some vs:=by
    simp only[opS]at h
    split at h
    ·rename_i vs h2;exact⟨vs,h2⟩
    ·cases h
   obtain⟨vs,hvs⟩:=hargs
   cases b with
   |append=>
    simp only[footS]at hf
    split at hf
    ·rename_i s v has
     rw[has]at hvs
     simp only[evlS]at hvs
     split at hvs
     ·rename_i v1 vs1 h1 h2
      split at h2
      ·rename_i v2 vs2 h3 h4
       have e1:=idsS_ok hρ hL h1
       have e2:=idsS_ok hρ hL h3
       simp only[stepD,opD,has,hE,Option.map_some,e1,e2,SH.den_length]
       split at hf
       ·rename_i hl
        rw[if_pos (eqB hl)]
        injection hf with hf;injection hf with h5 h6;subst h5;subst h6
        exact hK
       ·rename_i hl
        rw[if_neg (beq_ne hl)]
        injection hf with hf;injection hf with h5 h6;subst h5;subst h6
        exact hK
      ·cases h2
     ·cases hvs
    ·cases hf
   |cap=>
    simp only[footS]at hf
    split at hf
    ·rename_i s has
     rw[has]at hvs
     simp only[evlS]at hvs
     split at hvs
     ·rename_i v1 vs1 h1 h2
      have e1:=idsS_ok hρ hL h1
      injection hf with hf;injection hf with h5 h6;subst h5;subst h6
      simp only[stepD,opD,has,hE,Option.map_some,e1]
      exact hK
     ·cases hvs
    ·cases hf
   |copy=>
    simp only[footS]at hf
    split at hf
    ·rename_i s v has
     rw[has]at hvs
     simp only[evlS]at hvs
     split at hvs
     ·rename_i v1 vs1 h1 h2
      split at h2
      ·rename_i v2 vs2 h3 h4
       have e1:=idsS_ok hρ hL h1
       have e2:=idsS_ok hρ hL h3
       injection hf with hf;injection hf with h5 h6;subst h5;subst h6
       simp only[stepD,opD,has,hE,Option.map_some,e1,e2]
       exact hK
      ·cases h2
     ·cases hvs
    ·cases hf
   |len=>simp only[footS,Option.some.injEq,Prod.mk.injEq]at hf;exact plain rfl hf.1.symm hf.2.symm (fun _ _ _ _ _ e=>by cases e)
   |min=>simp only[footS,Option.some.injEq,Prod.mk.injEq]at hf;exact plain rfl hf.1.symm hf.2.symm (fun _ _ _ _ _ e=>by cases e)
   |max=>simp only[footS,Option.some.injEq,Prod.mk.injEq]at hf;exact plain rfl hf.1.symm hf.2.symm (fun _ _ _ _ _ e=>by cases e)
   |_=>cases hf
 |_=>first
  |(simp only[footS,Option.some.injEq,Prod.mk.injEq]at hf;exact plain rfl hf.1.symm hf.2.symm (fun _ _ _ _ _ e=>by cases e))
  |cases h
theorem guardC_holds{r:SR}{tg:Tg}{d:Nat}{w b:Bool}(hr0:r.gget d=some (tg,.c (.bo b))){ρ:Regs}(hρ:SubR ρ r.den):guardC ρ (some (d,w))=some (r.holds ((d,w)::tg)):=by
 have hr:=(SR.gget_get hr0).2
 have h1:=Regs.at_of (hρ _ _ (SR.den_get hr)) (SR.gget_get hr0).1
 simp only[guardC,h1,dv_holds,SR.holds_cons]
 cases hh:r.holds tg with
 |false=>simp[guardV]
 |true=>
  simp only[if_true,SV.den_c,SC.den_bo,guardV,Bool.true_and,SR.isB,hr]
  cases w<;>cases b<;>rfl
theorem WR.set1{v v':AV}(h:WV v v'):WR [(0,v)] [(0,v')]:=fun t u hu=>by
 simp only[Regs.get]at hu⊢
 split at hu
 ·rename_i e;subst e;injection hu with hu;subst hu;exact⟨v,by simp,h⟩
 ·cases hu
theorem fn_weak{f:FuncId}{args:List AV}{σ τ':Heap}{v':AV}(h:FnOk P f args σ fun v τ=>WV v v'∧WH τ τ'):FnOk P f args σ fun v τ=>v=v'∧τ=τ':=
 ⟨h.1,fun ι w cargs hgl hh ha=>CallsIn.mono (h.2 ι w cargs hgl hh ha) fun e w' ⟨v,σ',ι',cv,h1,⟨hv,hσ⟩,h4,h5,h6⟩=>by
  have hg:GhostF 1 σ.length [(0,v)] σ' [(0,v')] τ':=ghost_weak (WR.set1 hv) hσ
  obtain⟨ι'',h7,h8,h9⟩:=hg ι' w' { tmps:= #[cv],defers:=[] } h5 ⟨rfl,by decide,(fun t x hx=>by
   simp only[Regs.get]at hx
   split at hx
   ·rename_i e;subst e;injection hx with hx;subst hx;exact h4
   ·cases hx),hgl.step h6⟩
  exact⟨v',τ',ι'',cv,h1,⟨rfl,rfl⟩,h8.get 0 v' rfl,h7,h9 ι σ w hh (Nat.le_refl _) h6⟩⟩
theorem drawS_ok{E:Env}(hE:EnvOk P E){β:Type}{K:SR→SH→Option β}{b:β}:∀(cs:List COp) {j:Nat} {bef:List Nat} {log log':DrawLog} {r:SR} {σ:SH} {ρ:Regs} {t:Tag (fun ρ' τ=>∃r' σ',WR ρ' r'.den∧WH τ (SH.den σ')∧K r' σ'=some b)},
  drawS E N cs j bef log r σ K=some b→LL log' log→SubR ρ r.den→drawC P N cs j bef log' ρ (SH.den σ) (fun ρ' τ=>∃r' σ',WR ρ' r'.den∧WH τ (SH.den σ')∧K r' σ'=some b) t
 |[],j,bef,log,log',r,σ,ρ,t,h,_,hρ=>⟨r,SH.norm σ,hρ.wr,norm_weak σ,h⟩
 |⟨d,op,g,_⟩::os,j,bef,log,log',r,σ,ρ,t,h,hl,hρ=>by
  simp only[drawS]at h
  split at h
  ·cases h
  ·rename_i hdst
   refine⟨hdst,?_⟩
   split at h
   ·
    show stepD P ρ (SH.den σ) op _ _
    split at h
    ·rename_i f args hcall
     obtain⟨as',ts,hop,rfl⟩:=isCall_some hcall
     subst hop
     split at h
     ·rename_i hh as hcal
      split at h
      ·rename_i c x hcx
       obtain⟨hc,hx⟩:=pickCon_ok hcx
       ·
        split at h
        ·rename_i rs hrs
         split at h
         ·rename_i hfree
          unfold bindO at h
          split at h
          ·rename_i y hy
           simp only at h
           split at h
           ·rename_i r' hput
            have hrd:=((hE.cf hh c hc).rd as σ x y rs hx hrs).2 hy
            simp only[stepD,calleeS_ok hρ rfl hcal,onOpt]
            exact .inl ⟨_,rs,hrd,hl.free hfree,drawS_ok hE os h (.same _ hl) (put_sub (v:=some _) hρ rfl hput)⟩
           ·cases h
          ·cases h
         ·cases h
        ·unfold bindO at h
         split at h
         ·rename_i y hy
          simp only at h
          split at h
          ·rename_i r' hle hfree hput
           have hok:=(hE.cf hh c hc).ok as σ x y hx hy
           simp only[stepD,calleeS_ok hρ rfl hcal,onOpt]
           refine .inr ⟨_,SH.den (c.heap x y σ),fn_weak hok,?_,?_⟩
           ·rw[SH.den_length,SH.den_length];exact Nat.le_of_ble_eq_true hle
           ·rw[SH.den_length,SH.den_length]
            exact⟨hl.free hfree,drawS_ok hE os h (.same _ hl) (put_sub (v:=some _) hρ rfl hput)⟩
          ·cases h
         ·cases h
      ·cases h
     ·cases h
    ·rename_i hcall
     split at h
     ·rename_i p v σ' hop
      split at h
      ·rename_i r' rs ws hput hf
       split at h
       ·rename_i hfree
        cases p with
        |false=>cases h
        |true=>exact foot_ok hE.ty hρ rfl hcall hop hf ⟨hl.free hfree,drawS_ok hE os h (.same _ hl) (put_sub hρ rfl hput)⟩
       ·cases h
      ·cases h
     ·cases h
   ·
    rename_i gd wnt
    split at h
    ·rename_i tg b' hget
     rw[guardC_holds hget hρ]
     have skip:∀{r':SR} {v:SV} {rs ws:List Nat},r.holds ((gd,wnt)::tg)=false→r.put d ((gd,wnt)::tg) (some v)=some r'→drawS E N os (j+1) bef.tail ((j,rs,ws)::log) r' σ K=some b→
       drawC P N os (j+1) bef.tail ((j,[],[])::log') (ρ.drop d) (SH.den σ) (fun ρ' τ=>∃r' σ',WR ρ' r'.den∧WH τ (SH.den σ')∧K r' σ'=some b) t:=fun hf hput h'=>
      drawS_ok hE os h' (.drop _ _ _ hl) (put_skip hρ hf hput)
     split at h
     ·split at h
      ·rename_i r' hput
       cases hf:r.holds ((gd,wnt)::tg) with
       |true=>rw[hf]at h;cases h
       |false=>rw[hf]at h;exact skip hf hput h
      ·cases h
     split at h
     ·rename_i f args hcall
      obtain⟨as',ts,hop,rfl⟩:=isCall_some hcall
      subst hop
      split at h
      ·rename_i hh as hcal
       split at h
       ·rename_i c x hcx
        obtain⟨hc,hx⟩:=pickCon_ok hcx
        ·
         split at h
         ·rename_i rs hrs
          split at h
          ·rename_i hfree
           cases hf:r.holds ((gd,wnt)::tg) with
           |false=>
            rw[hf]at h
            simp only[cond_false,bindO]at h
            split at h
            ·rename_i r' hput;exact skip hf hput h
            ·cases h
           |true=>
            rw[hf]at h
            simp only[cond_true]at h
            unfold bindO at h
            split at h
            ·rename_i y hy
             simp only at h
             split at h
             ·rename_i r' hput
              have hrd:=((hE.cf hh c hc).rd as σ x y rs hx hrs).2 hy
              rw[onGuard,if_pos rfl]
              simp only[stepD,calleeS_ok hρ hf hcal,onOpt]
              exact .inl ⟨_,rs,hrd,hl.free hfree,drawS_ok hE os h (.same _ hl) (put_sub (v:=some _) hρ hf hput)⟩
             ·cases h
            ·cases h
          ·cases h
         ·cases h
       ·cases h
      ·cases h
     ·rename_i hcall
      split at h
      ·rename_i p v σ' hq hop
       have hσ:=quiet_heap hq hop
       subst hσ
       split at h
       ·rename_i r' rs ws hput hf'
        split at h
        ·rename_i hfree
         cases hf:r.holds ((gd,wnt)::tg) with
         |false=>rw[hf]at h;simp only[Bool.not_false,Bool.or_true,cond_true]at h;exact skip hf hput h
         |true=>
          rw[hf]at h
          cases p with
          |false=>cases h
          |true=>exact foot_ok hE.ty hρ hf hcall hop hf' ⟨hl.free hfree,drawS_ok hE os h (.same _ hl) (put_sub (v:=some v) hρ hf hput)⟩
        ·cases h
       ·cases h
      ·cases h
    ·cases h
theorem oneZero_ok:∀{c:Ly} {xs:List c.ty},oneZero c xs=true→xs.flatMap c.trees=[.int .u8 0]∧xs.length=1:=by
 intro c xs h
 unfold oneZero at h
 split at h
 ·rename_i xs
  split at h
  ·split at h
   ·have:=Nat.eq_of_beq_eq_true h
    subst this
    exact⟨rfl,rfl⟩
   ·cases h
  ·cases h
 ·cases h
theorem isWaitS_ok{o:SO}(h:isWaitS o=true):o.den=waitO:=by
 unfold isWaitS at h
 split at h
 ·obtain⟨h1,h2⟩:=oneZero_ok h
  simp only[SO.den,List.map_cons,List.map_nil,SC.den,h1,h2]
  rfl
 ·cases h
theorem unz_den(o:SO):o.unz.den=o.den:=by
 unfold SO.unz
 split
 ·rename_i z k n
  split
  ·rename_i h
   simp only[zB]at h
   split at h
   ·rename_i k'
    have e:=kindB_eq h
    subst e
    have key:(List.replicate n (0:Int)).flatMap (Ly.int k').trees=repl n [T.int k' 0]:=by
     induction n with
     |zero=>rfl
     |succ n ih=>
      rw[List.replicate_succ,List.flatMap_cons,ih]
      rfl
    show({ cs:=((List.replicate n (0:Int)).flatMap (Ly.int k').trees).map .t,es:=1,ep:=0 }:Obj)={ cs:=(repl n [T.int k' 0]).map .t,es:=1,ep:=0 }
    rw[key]
   ·cases h
  ·rfl
 ·rfl
theorem makeSlice_any{t:TypeId}{u v:AV}{x:AV}{o:Obj}(h:makeSliceE P [] t u v=some (x,[o])):∃n cap,x=.c (.sl ⟨0,0,0⟩ n cap)∧(∀τ:Heap,makeSliceE P τ t u v=some (.c (.sl ⟨τ.length,0,0⟩ n cap),τ++[o]))∧∀c∈o.cs,∃t,c=.t t:=by
 unfold makeSliceE at h
 split at h
 ·rename_i i n m h1 h2 h3
  split at h
  ·rename_i e hk
   split at h
   ·rename_i j hj
    split at h
    ·rename_i z hz
     split at h
     ·rename_i hc
      simp only[Option.some.injEq,Prod.mk.injEq,List.nil_append,List.cons.injEq,and_true]at h
      obtain⟨rfl,rfl⟩:=h
      refine⟨n.toNat,some m.toNat,rfl,fun τ=> ?_,fun c hc=> ?_⟩
      ·simp only[makeSliceE,h1,h2,h3,hk,hj,hz]
       rw[if_pos hc]
      ·simp only[List.mem_map]at hc
       obtain⟨t,_,rfl⟩:=hc
       exact⟨t,rfl⟩
     ·cases h
    ·cases h
   ·cases h
  ·cases h
 ·cases h
theorem drawSW_ok{E:Env}(hE:EnvOk P E){m:Nat}{β:Type}{K:SR→SH→Option β}{b:β}:∀(cs:List COp) {j:Nat} {bef:List Nat} {log log':DrawLog} {q:Nat} {r:SR} {σ:SH} {ρ:Regs} {t:Tag (fun ρ' τ=>∃r' σ',WR ρ' r'.den∧WH τ (SH.den σ')∧K r' σ'=some b)},
  m≤q→drawSW E N cs j bef log q r σ K=some b→LL log' log→SubR ρ r.den→drawW P N m cs j bef log' ρ (SH.den σ) (fun ρ' τ=>∃r' σ',WR ρ' r'.den∧WH τ (SH.den σ')∧K r' σ'=some b) t
 |[],j,bef,log,log',q,r,σ,ρ,t,_,h,_,hρ=>⟨r,SH.norm σ,hρ.wr,norm_weak σ,h⟩
 |⟨d,op,g,_⟩::os,j,bef,log,log',q,r,σ,ρ,t,hq,h,hl,hρ=>by
  simp only[drawSW]at h
  split at h
  ·rename_i hdst
   refine⟨hdst,?_⟩
   split at h
   ·rename_i ts l c
    split at h
    ·rename_i u v hu hv
     split at h
     ·rename_i p id0 ep0 es lo0 n cap o ow hmk how
      split at h
      ·rename_i r' hw hfree hput
       cases p with
       |false=>cases h
       |true=>
        simp only[cond_true]at h
        have h1:=makeSliceS_ok (σ:=[]) hE.ty hmk
        obtain⟨n',cap',e1,e2,e3⟩:=makeSlice_any (o:=o.den) (by simpa [SH.den] using h1)
        simp only[SV.den,SC.den,AV.c.injEq,Cell.sl.injEq]at e1
        obtain⟨_,rfl,rfl⟩:=e1
        refine Or.inr (Or.inl ⟨q,n,cap,o.den,_,_,hq,?_,evS_ok hρ rfl hu,evS_ok hρ rfl hv,e2,e3,hl.free hfree,?_⟩)
        ·rw[SH.den_get how,isWaitS_ok hw]
        ·have:=drawSW_ok hE os (t:=t) (show m≤q+1 by omega) h (.same _ hl) (put_sub hρ rfl hput)
         rw[SH.den_set,unz_den]at this
         simpa [SV.den,SC.den] using this
      ·cases h
     ·cases h
    ·cases h
   ·split at h
    ·rename_i p v σ' hcall hop
     split at h
     ·rename_i r' rs ws hput hf
      split at h
      ·rename_i hfree
       cases p with
       |false=>cases h
       |true=>exact Or.inl (foot_ok hE.ty hρ rfl hcall hop hf ⟨hl.free hfree,drawSW_ok hE os hq h (.same _ hl) (put_sub hρ rfl hput)⟩)
      ·cases h
     ·cases h
    ·cases h
  ·cases h
theorem shC_den(k:Nat)(c:SC):(shC k c).den=upC [] k c.den:=by
 cases c<;>first
  |rfl
  |simp[shC,SC.den,upC,upR,upId]
  |(simp only[shC,SC.den,upC,Cell.clo.injEq,true_and];exact List.map_congr_left fun r _=>by simp[shR,upR,upId])
theorem shV_den(k:Nat)(v:SV):(shV k v).den=upV [] k v.den:=by
 have hl:∀l:List SC,(l.map (shC k)).map SC.den=(l.map SC.den).map (upC [] k):=fun l=>by
  rw[List.map_map,List.map_map]
  exact List.map_congr_left fun c _=>shC_den k c
 cases v with
 |c x=>simp only[shV,SV.den,upV,shC_den]
 |agg xs=>simp only[shV,SV.den,upV,hl]
 |tup xs=>
  simp only[shV,SV.den,upV,AV.tup.injEq]
  rw[List.map_map,List.map_map]
  refine List.map_congr_left fun c _=> ?_
  cases c with
  |inl c=>simp only[Function.comp,shP,denP,upP,shC_den]
  |inr l=>simp only[Function.comp,shP,denP,upP,hl]
theorem mv_up(L k:Nat)(v:AV):mvV L k (upV [] L v)=upV [] k v:=by
 have hr:∀r:Ref,mvR L k (upR [] L r)=upR [] k r:=fun r=>by
  obtain⟨id,ep,off⟩:=r
  simp[mvR,upR,upId]
 have hc:∀c:Cell,mvC L k (upC [] L c)=upC [] k c:=fun c=>by
  cases c with
  |t x=>rfl
  |ptr r=>simp only[upC,mvC,hr]
  |sl r l c=>simp only[upC,mvC,hr]
  |clo f rs=>
   simp only[upC,mvC,Cell.clo.injEq,true_and]
   rw[List.map_map]
   exact List.map_congr_left fun r _=>hr r
 have hl:∀l:List Cell,(l.map (upC [] L)).map (mvC L k)=l.map (upC [] k):=fun l=>by
  rw[List.map_map]
  exact List.map_congr_left fun c _=>hc c
 cases v with
 |c x=>simp only[upV,mvV,hc]
 |agg xs=>simp only[upV,mvV,hl]
 |tup xs=>
  simp only[upV,mvV,AV.tup.injEq]
  rw[List.map_map]
  refine List.map_congr_left fun c _=> ?_
  cases c with
  |inl c=>simp only[Function.comp,upP,mvP,hc]
  |inr l=>simp only[Function.comp,upP,mvP,hl]
theorem treesO_ok{o:SO}(h:treesO o=true):∀c∈o.den.cs,∃t,c=.t t:=fun c hc=>by
 cases o with
 |st cs es ep=>
  obtain⟨ts,_,h1⟩:=allTS_ok h
  simp only[SO.den]at hc
  rw[h1]at hc
  obtain⟨t,_,rfl⟩:=List.mem_map.1 hc
  exact⟨t,rfl⟩
 |arr c xs ep=>obtain⟨t,_,rfl⟩:=List.mem_map.1 hc;exact⟨t,rfl⟩
 |zer z c n=>obtain⟨t,_,rfl⟩:=List.mem_map.1 hc;exact⟨t,rfl⟩
 |opn c xs cs ys ep=>cases h
theorem treesL_ok:∀{τ:SH},treesL τ=true→∀o∈SH.den τ,∀c∈o.cs,∃t,c=.t t
 |[],_,o,ho=>by cases ho
 |o::τ,h,o',ho=>by
  simp only[treesL]at h
  split at h
  ·rename_i h1
   rcases List.mem_cons.1 ho with rfl|ho
   ·exact treesO_ok h1
   ·exact treesL_ok h o' ho
  ·cases h
theorem treesA_ok:∀{as:List SV},treesA as=true→(as.map SV.den).all AV.isT=true
 |[],_=>rfl
 |.c x::l,h=>by
  simp only[treesA]at h
  split at h
  ·rename_i h1
   obtain⟨t,h2⟩:=SC.isT_den h1
   simp only[List.map_cons,List.all_cons,SV.den,h2,treesA_ok h,AV.isT,Cell.isT,Bool.and_self]
  ·cases h
 |.agg xs::l,h=>by
  simp only[treesA]at h
  split at h
  ·rename_i h1
   obtain⟨ts,_,h2⟩:=allTS_ok h1
   have:(ts.map Cell.t).all Cell.isT=true:=by simp[Cell.isT]
   simp only[List.map_cons,List.all_cons,SV.den,h2,treesA_ok h,AV.isT,this,Bool.and_self]
  ·cases h
 |.tup _::l,h=>by cases h
theorem waitsS_ok{σ:SH}:∀{n q:Nat},waitsS σ q n=true→∀i,i<n→(SH.den σ)[q+i]? =some waitO
 |0,q,_,i,hi=>by omega
 |n+1,q,h,i,hi=>by
  simp only[waitsS]at h
  split at h
  ·rename_i o ho
   split at h
   ·rename_i hw
    cases i with
    |zero=>rw[Nat.add_zero,SH.den_get ho,isWaitS_ok hw]
    |succ i=>
     have:=waitsS_ok h i (by omega)
     rwa [show q+(i+1)=q+1+i by omega]
   ·cases h
  ·cases h
theorem setsS_den:∀(os:List SO) (q:Nat) (σ:SH),SH.den (setsS q os σ)=setsAt q (SH.den os) (SH.den σ)
 |[],_,_=>rfl
 |o::os,q,σ=>by
  simp only[setsS]
  rw[setsS_den os (q+1),SH.den_set]
  rfl
theorem stepA_alloc{r:Regs}{e:TypeId}{i:TInf}{z:List T}(hi:tinf P e=some i)(hz:i.zero=some z)(k:Nat):StepA P r (.alloc e) [{ cs:=z.map .t }] k (.c (.ptr ⟨k,0,0⟩)):=fun o r' τ K hop _ hK=>by
 refine stepOk_plain (res:=some (.c (.ptr ⟨τ.length,0,0⟩))) (σ':=τ++[{ cs:=z.map .t }]) (by rw[hop];intro f args ts e;cases e) (nilTest_not (fun b xT x y yT e=>by rw[hop]at e;cases e) r') ?_ (hK _ (by simp[mvV,mvC,mvR]))
 rw[hop]
 simp only[opE,hi,hz,newE]
theorem stepA_call{r:Regs}{f:Operand}{args:Array Operand}{ts:Array TypeId}{g:FuncId}{as:List AV}{x:AV}{os:Heap}(hc:callE r f args.toList=some (g,as))(ha:as.all AV.isT=true)
  (h:FnOk P g as [] fun v τ=>v=x∧τ=os) (ho:∀o∈os,∀c∈o.cs,∃t,c=.t t) (k:Nat):StepA P r (.call { callee:=.value f,args:=args,argTypes:=ts }) os k (upV [] k x):=fun o r' τ K hop hr hK=>by
 unfold stepOk
 rw[hop]
 simp only
 have h1:ev r' f=ev r f:=hr f (by simp[Op.operands,Call.operands])
 have h2:evl r' args.toList=evl r args.toList:=evl_congr fun y hy=>hr y (by simp[Op.operands,Call.operands];exact .inr (by simpa using hy))
 rw[h1,h2]
 unfold callE at hc
 split at hc
 ·rename_i fv as0 e1 e2
  split at hc
  ·rename_i g' caps e3
   injection hc with hc
   injection hc with hc1 hc2
   subst hc1
   try rw[e1,e2]
   try simp only[e3]
   rw[hc2]
   have hos:os.map (upO [] τ.length)=os:=by
    refine(List.map_congr_left fun o hmem=> ?_).trans (List.map_id os)
    obtain⟨cs,es,ep⟩:=o
    have:cs.map (upC [] τ.length)=cs:=by
     refine(List.map_congr_left fun c hc=> ?_).trans (List.map_id cs)
     obtain⟨t,rfl⟩:=ho _ hmem c hc
     rfl
    simp[upO,this]
   refine(fn_rename (σ:=τ) (args:=as) [] List.nodup_nil rfl (fun k i o hk=>by simp at hk) (map_tree ha).symm h).mono fun v σ' ⟨v0,τ',⟨h3,h4⟩,h5,h6⟩=> ?_
   subst h3;subst h4
   rw[h6,h5]
   have:backH [] τ.length τ τ'=τ++τ':=by simp only[backH,putAll,List.length_nil,List.drop_zero,hos]
   rw[this]
   exact hK _ (mv_up _ _ _)
  ·cases hc
 ·cases hc
theorem firstE_tree{τ σ:Heap}{es n:Nat}{x:T}:firstE τ es n (.c (.t x))=firstE σ es n (.c (.t x)):=by
 cases x<;>rfl
theorem nilApp_some{r:SR}{d:Option Nat}{op:Op}{ts:Array TypeId}{v:SC}(h:nilApp r d op=some (ts,v)):∃args tt,op=.call { callee:=.builtin .append,args:=args,argTypes:=ts }∧d=some tt∧evlS r [] args.toList=some [.c .nils,.c v]:=by
 unfold nilApp at h
 split at h
 ·rename_i args ts'
  split at h
  ·rename_i tt v' he
   injection h with h
   injection h with h1 h2
   subst h1;subst h2
   exact⟨_,_,rfl,rfl,he⟩
  ·cases h
 ·cases h
theorem append_any{ty:TyT}(hty:TyOk P ty){ts:Array TypeId}{y:SC}{a b es lo n ep:Nat}{cap:Option Nat}{c:Ly}{new:List c.ty}(h:builtinS false ty [] .append ts [.c .nils,.c y]=some (true,.c (.sl a b es lo n cap),[.arr c new ep]))(hy:y.isT=true):
  es=c.size∧n=new.length∧∀τ:Heap,builtinE P τ .append ts [.c (.t (.imm [] 0 (some 0))),(SV.c y).den]=some (if n=0 then (.c (.t (.imm [] 0 (some 0))),τ) else (.c (.sl ⟨τ.length,0,0⟩ n none),τ++[(SO.arr c new 0).den])):=by
 obtain⟨tr,htr⟩:=SC.isT_den hy
 have hone:∀c0:Ly,oneS [] c0 (.c y)=none:=fun c0=>by
  cases y<;>first|rfl|cases hy
 simp only[builtinS]at h
 split at h
 ·rename_i t u ht hu
  split at h
  ·rename_i i lay hi
   have hap:appendS false ty [] t (.c .nils) (.c y)=some (true,.c (.sl a b es lo n cap),[.arr c new ep]):=by
    split at h
    ·exact h
    ·exact h
    ·cases h
   have hkd:(∃e,i.kind=.slice e)∨i.kind=.string:=by
    split at h
    ·rename_i e hk;exact .inl ⟨e,hk⟩
    ·rename_i hk;exact .inr hk
    ·cases h
   unfold appendS at hap
   split at hap
   ·rename_i i2 c1 hi2
    split at hap
    ·rename_i e hk
     split at hap
     ·rename_i j c2 hj
      obtain⟨hl1,z,hz,hl2⟩:=hty.lay _ _ _ hj
      have hzl:j.size=z.length:=by rw[hl1];have:=hl2.length;rw[List.length_map,List.length_map,Ly.trees_length]at this;exact this.symm
      have hpos:0<j.size:=by rw[hl1];exact c2.size_pos
      split at hap
      ·rename_i p m new2 hall
       simp only[Option.some.injEq,Prod.mk.injEq,Bool.and_eq_true,List.nil_append,List.cons.injEq,and_true,SV.c.injEq,SC.sl.injEq,SO.arr.injEq]at hap
       obtain⟨⟨hp,hr⟩,⟨_,_,rfl,_,rfl,_⟩,rfl,hnew,_⟩:=hap
       have hnew:=eq_of_heq hnew
       subst hnew
       subst hp
       obtain⟨f1,f2,f3⟩:=allS_ok hall
       refine⟨rfl,f2.symm,fun τ=> ?_⟩
       have f4:firstE τ j.size m (SV.c y).den=some ((new2.flatMap c2.trees).map .t):=by
        rw[hl1]
        simp only[SV.den,htr]at f3⊢
        rw[firstE_tree (σ:=SH.den [])]
        exact f3
       have key:appendE P τ t (.c (.t (.imm [] 0 (some 0)))) (SV.c y).den=some (if m=0 then (.c (.t (.imm [] 0 (some 0))),τ) else (.c (.sl ⟨τ.length,0,0⟩ m none),τ++[(SO.arr c2 new2 0).den])):=by
        simp only[appendE,hty.ok _ _ _ hi2,hk,hty.ok _ _ _ hj,hz,f1,f4]
        rw[if_pos ⟨hzl,hpos⟩,if_pos ⟨trivial,by simp,by rw[Nat.zero_add];exact roomB_ok hr⟩]
        by_cases hm:m=0
        ·rw[if_pos hm,if_pos hm]
        ·rw[if_neg hm,if_neg hm]
         simp[SO.den,hl1]
       rcases hkd with ⟨e',hk'⟩|hk'
       ·simp only[builtinE,ht,hu,hty.ok _ _ _ hi,hk']
        exact key
       ·simp only[builtinE,ht,hu,hty.ok _ _ _ hi,hk']
        exact key
      ·rw[hone]at hap
       cases hap
     ·cases hap
    ·cases hap
   ·cases hap
  ·cases h
 ·cases h
theorem stepN_append{ρ:Regs}{args:Array Operand}{ts:Array TypeId}{o:Obj}{n:Nat}{x:AV}(he:evl ρ args.toList=some [.c (.t (.imm [] 0 (some 0))),x])
  (h:∀τ:Heap,builtinE P τ .append ts [.c (.t (.imm [] 0 (some 0))),x]=some (if n=0 then (.c (.t (.imm [] 0 (some 0))),τ) else (.c (.sl ⟨τ.length,0,0⟩ n none),τ++[o]))) (ho:n=0→o.cs=[]):
  StepN P ρ (.call { callee:=.builtin .append,args:=args,argTypes:=ts }) o n:=fun oo r' τ K hop hr h1 h2=>by
 have he':evl r' args.toList=some [.c (.t (.imm [] 0 (some 0))),x]:=(evl_congr fun y hy=>hr y (by simp[Op.operands,Call.operands];simpa using hy)).trans he
 by_cases hn:n=0
 ·refine stepOk_plain (res:=some (.c (.t (.imm [] 0 (some 0))))) (σ':=τ) (by rw[hop];intro f args ts e;cases e) (nilTest_not (fun b xT x y yT e=>by rw[hop]at e;cases e) r') ?_ (h2 (ho hn) hn)
  rw[hop]
  simp only[opE,he',h τ,if_pos hn,Option.map_some]
 ·refine stepOk_plain (res:=some (.c (.sl ⟨τ.length,0,0⟩ n none))) (σ':=τ++[o]) (by rw[hop];intro f args ts e;cases e) (nilTest_not (fun b xT x y yT e=>by rw[hop]at e;cases e) r') ?_ h1
  rw[hop]
  simp only[opE,he',h τ,if_neg hn,Option.map_some]
theorem drawV_ok{E:Env}(hE:EnvOk P E){m:Nat}{β:Type}{K:SR→SH→Option β}{b:β}:∀(cs:List COp) {j:Nat} {bef:List Nat} {log log':DrawLog} {q:Nat} {r:SR} {σ:SH} {ρ:Regs} {t:Tag (fun ρ' τ=>∃r' σ',WR ρ' r'.den∧WH τ (SH.den σ')∧K r' σ'=some b)},
  m≤q→drawV E N cs j bef log q r σ K=some b→LL log' log→SubR ρ r.den→drawW P N m cs j bef log' ρ (SH.den σ) (fun ρ' τ=>∃r' σ',WR ρ' r'.den∧WH τ (SH.den σ')∧K r' σ'=some b) t
 |[],j,bef,log,log',q,r,σ,ρ,t,_,h,_,hρ=>⟨r,SH.norm σ,hρ.wr,norm_weak σ,h⟩
 |⟨d,op,g,_⟩::os,j,bef,log,log',q,r,σ,ρ,t,hq,h,hl,hρ=>by
  simp only[drawV]at h
  split at h
  ·rename_i hdst
   refine⟨hdst,?_⟩
   split at h
   ·rename_i ts l c
    split at h
    ·rename_i u v hu hv
     split at h
     ·rename_i p id0 ep0 es lo0 n cap o ow hmk how
      split at h
      ·rename_i r' hw hfree hput
       cases p with
       |false=>cases h
       |true=>
        simp only[cond_true]at h
        have h1:=makeSliceS_ok (σ:=[]) hE.ty hmk
        obtain⟨n',cap',e1,e2,e3⟩:=makeSlice_any (o:=o.den) (by simpa [SH.den] using h1)
        simp only[SV.den,SC.den,AV.c.injEq,Cell.sl.injEq]at e1
        obtain⟨_,rfl,rfl⟩:=e1
        refine Or.inr (Or.inl ⟨q,n,cap,o.den,_,_,hq,?_,evS_ok hρ rfl hu,evS_ok hρ rfl hv,e2,e3,hl.free hfree,?_⟩)
        ·rw[SH.den_get how,isWaitS_ok hw]
        ·have:=drawV_ok hE os (t:=t) (show m≤q+1 by omega) h (.same _ hl) (put_sub hρ rfl hput)
         rw[SH.den_set,unz_den]at this
         simpa [SV.den,SC.den] using this
      ·cases h
     ·cases h
    ·cases h
   ·rename_i e
    split at h
    ·rename_i i lay hi
     split at h
     ·rename_i z ow hz how
      split at h
      ·rename_i r' hw htr hfree hput
       obtain⟨z0,hz0,hz1⟩:=zeroS_ok hz
       refine Or.inr (Or.inl ⟨q,[{ cs:=z0.map .t }],_,hq,Nat.one_pos,fun i hi=> ?_,fun o ho c hc=> ?_,stepA_alloc (hE.ty.ok _ _ _ hi) hz0 q,hl.free hfree,?_⟩)
       ·have:i=0:=by simpa using hi
        subst this
        rw[Nat.add_zero,SH.den_get how,isWaitS_ok hw]
       ·rw[List.mem_singleton]at ho
        subst ho
        obtain⟨t,_,rfl⟩:=List.mem_map.1 hc
        exact⟨t,rfl⟩
       ·have:=drawV_ok hE os (t:=t) (show m≤q+1 by omega) h (.same _ hl) (put_sub hρ rfl hput)
        rw[SH.den_set]at this
        simpa [SV.den,SC.den,SO.den,hz1,setsAt,slotsL] using this
      ·cases h
     ·cases h
    ·cases h
   ·split at h
    ·rename_i f args hcall
     obtain⟨as',ts,hop,rfl⟩:=isCall_some hcall
     subst hop
     split at h
     ·rename_i hh as hcal
      split at h
      ·rename_i c x hcx
       obtain⟨hc,hx⟩:=pickCon_ok hcx
       split at h
       ·rename_i rs hrs
        split at h
        ·rename_i hfree
         unfold bindO at h
         split at h
         ·rename_i y hy
          simp only at h
          split at h
          ·rename_i r' hput
           have hrd:=((hE.cf hh c hc).rd as σ x y rs hx hrs).2 hy
           refine Or.inl ?_
           simp only[stepD,calleeS_ok hρ rfl hcal,onOpt]
           exact .inl ⟨_,rs,hrd,hl.free hfree,drawV_ok hE os hq h (.same _ hl) (put_sub (v:=some _) hρ rfl hput)⟩
          ·cases h
         ·cases h
        ·cases h
       ·split at h
        ·rename_i c2 x2 hcx2 htA
         obtain⟨hc2,hx2⟩:=pickCon_ok hcx2
         unfold bindO at h
         split at h
         ·rename_i y hy
          simp only at h
          split at h
          ·rename_i r' htL hwt hpos hfree hput
           have hok:=(hE.cf hh c2 hc2).ok as [] x2 y hx2 hy
           refine Or.inr (Or.inl ⟨q,SH.den (c2.heap x2 y []),upV [] q (c2.val x2 y []).den,hq,?_,fun i hi=> ?_,treesL_ok htL,stepA_call (calleeS_ok hρ rfl hcal) (treesA_ok htA) (fn_weak hok) (treesL_ok htL) q,?_⟩)
           ·rw[SH.den_length];exact ltB hpos
           ·rw[SH.den_length]at hi;exact waitsS_ok hwt i hi
           ·rw[SH.den_length]
            refine⟨hl.free hfree,?_⟩
            have:=drawV_ok hE os (t:=t) (show m≤q+(c2.heap x2 y []).length by omega) h (.same _ hl) (put_sub (v:=some _) hρ rfl hput)
            rw[setsS_den]at this
            simpa [shV_den] using this
          ·cases h
         ·cases h
        ·unfold bindO at h
         split at h
         ·rename_i y hy
          simp only at h
          split at h
          ·rename_i r' hle hfree hput
           have hok:=(hE.cf hh c hc).ok as σ x y hx hy
           refine Or.inl ?_
           simp only[stepD,calleeS_ok hρ rfl hcal,onOpt]
           refine .inr ⟨_,SH.den (c.heap x y σ),fn_weak hok,?_,?_⟩
           ·rw[SH.den_length,SH.den_length];exact Nat.le_of_ble_eq_true hle
           ·rw[SH.den_length,SH.den_length]
            exact⟨hl.free hfree,drawV_ok hE os hq h (.same _ hl) (put_sub (v:=some _) hρ rfl hput)⟩
          ·cases h
         ·cases h
      ·cases h
     ·cases h
    ·rename_i hcall
     split at h
     ·rename_i ts v hna
      split at h
      ·rename_i p id0 ep0 es lo0 n cap0 c new ep1 ow hbi how
       split at h
       ·rename_i r' hw hvt hfree hput
        cases p with
        |false=>cases h
        |true=>
         simp only[cond_true]at h
         obtain⟨args,tt,rfl,rfl,hev⟩:=nilApp_some hna
         obtain⟨rfl,hn,hE2⟩:=append_any hE.ty hbi hvt
         refine Or.inr (Or.inr ⟨tt,q,(SO.arr c new 0).den,n,rfl,hq,?_,fun x hx=> ?_,rfl,stepN_append (evlS_ok hρ rfl hev) (fun τ=> ?_) (fun h0=> ?_),hl.free hfree,?_⟩)
         ·rw[SH.den_get how,isWaitS_ok hw]
         ·obtain⟨t,_,rfl⟩:=List.mem_map.1 hx
          exact⟨t,rfl⟩
         ·exact hE2 τ
         ·have:new=[]:=List.length_eq_zero_iff.1 (hn.symm.trans h0)
          subst this
          rfl
         ·have:=drawV_ok hE os (t:=t) (show m≤q+1 by omega) h (.same _ hl) (put_sub hρ rfl hput)
          rw[SH.den_set]at this
          simpa [SV.den,SC.den] using this
       ·cases h
      ·cases h
     ·split at h
      ·rename_i p v σ' hop
       split at h
       ·rename_i r' rs ws hput hf
        split at h
        ·rename_i hfree
         cases p with
         |false=>cases h
         |true=>exact Or.inl (foot_ok hE.ty hρ rfl hcall hop hf ⟨hl.free hfree,drawV_ok hE os hq h (.same _ hl) (put_sub hρ rfl hput)⟩)
        ·cases h
       ·cases h
      ·cases h
  ·cases h
end
end Go.Abs
