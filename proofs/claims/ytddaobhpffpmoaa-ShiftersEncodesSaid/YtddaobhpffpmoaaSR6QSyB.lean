/-
  A general library: running code on symbolic values is sound. Part 1: registers and plain regions.
-/
import Derived.Test.YtddaobhpffpmoaaSR6QSyA
import Derived.Test.YtddaobhpffpmoaaSR6QSyX
set_option linter.all false
namespace Go.Abs
variable [Gl]
theorem SR.get_set_same(r:SR)(t:Nat)(v:Tg×SV):(r.set t v).get t=some v:=by
 induction r with
 |nil=>simp[SR.set,SR.get]
 |cons p r ih=>
  obtain⟨k,u⟩:=p
  simp only[SR.set]
  split
  ·rename_i h;simp[SR.get,h]
  ·rename_i h;simp[SR.get,h,ih]
theorem beq_ne{a b:Nat}(h:Nat.beq a b=false):a≠b:=fun e=>by subst e;simp at h
theorem ne_beq{a b:Nat}(h:a≠b):Nat.beq a b=false:=by
 cases hb:Nat.beq a b with
 |false=>rfl
 |true=>exact absurd (eqB hb) h
theorem memB_iff{x:Nat}:∀{l:List Nat},memB x l=true↔x∈l
 |[]=>by simp[memB]
 |y::l=>by
  simp only[memB]
  split
  ·rename_i h;simp[eqB h]
  ·rename_i h;simp[memB_iff (l:=l),Ne.symm (beq_ne h)]
theorem nodupB_ok:∀{l:List Nat},nodupB l=true→l.Nodup
 |[],_=>List.nodup_nil
 |x::l,h=>by
  simp only[nodupB]at h
  split at h
  ·cases h
  ·rename_i h1
   exact List.nodup_cons.2 ⟨fun hm=>(by rw[memB_iff.2 hm]at h1;cases h1),nodupB_ok h⟩
theorem SR.get_set_ne(r:SR){t t':Nat}(v:Tg×SV)(h:t≠t'):(r.set t v).get t'=r.get t':=by
 induction r with
 |nil=>simp[SR.set,SR.get,ne_beq h]
 |cons p r ih=>
  obtain⟨k,u⟩:=p
  simp only[SR.set]
  split
  ·rename_i h1
   have e:=eqB h1
   subst e
   simp[SR.get,ne_beq h]
  ·rename_i h1
   simp only[SR.get]
   split
   ·rfl
   ·exact ih
theorem SR.get_del_ne(r:SR){t t':Nat}(h:t≠t'):(r.del t).get t'=r.get t':=by
 induction r with
 |nil=>rfl
 |cons p r ih=>
  obtain⟨k,u⟩:=p
  simp only[SR.del]
  split
  ·rename_i h1
   have e:=eqB h1
   subst e
   simp[SR.get,ne_beq h,ih]
  ·rename_i h1
   simp only[SR.get]
   split
   ·rfl
   ·exact ih
theorem SR.get_del_same(r:SR)(t:Nat):(r.del t).get t=none:=by
 induction r with
 |nil=>rfl
 |cons p r ih=>
  obtain⟨k,u⟩:=p
  simp only[SR.del]
  split
  ·exact ih
  ·rename_i h1;simp[SR.get,h1,ih]
theorem SR.free_get{r:SR}{d t:Nat}{tg:Tg}{v:SV}(h:r.free d=true)(hg:r.get t=some (tg,v)):inTg d tg=false:=by
 induction r with
 |nil=>simp[SR.get]at hg
 |cons p r ih=>
  obtain⟨k,tg',u⟩:=p
  simp only[SR.free]at h
  split at h
  ·cases h
  ·rename_i h1
   simp only[SR.get]at hg
   split at hg
   ·injection hg with hg;injection hg with hg _;subst hg;exact h1
   ·exact ih h hg
theorem holds_congr{r r':SR}{d:Nat}(h:∀t,t≠d→r'.get t=r.get t):∀{L:Tg},inTg d L=false→r'.holds L=r.holds L
 |[],_=>rfl
 |(t,w)::l,hl=>by
  simp only[inTg]at hl
  split at hl
  ·cases hl
  ·rename_i h1
   rw[SR.holds_cons,SR.holds_cons,holds_congr h hl]
   simp only[SR.isB,h t (beq_ne h1)]
theorem dv_congr{r r':SR}{tg:Tg}{v:SV}(h:r'.holds tg=r.holds tg):r'.dv tg v=r.dv tg v:=by
 cases tg with
 |nil=>rfl
 |cons x l=>simp only[SR.dv,h]
theorem dv_holds{r:SR}{tg:Tg}{v:SV}:r.dv tg v=if r.holds tg=true then v.den else .tup []:=by
 cases tg with
 |nil=>simp[SR.dv,SR.holds]
 |cons x l=>simp only[SR.dv];cases r.holds (x::l)<;>simp
theorem den_some{r:SR}{t:Nat}{u:AV}(h:r.den.get t=some u):∃tg v,r.get t=some (tg,v)∧u=r.dv tg v:=by
 cases hg:r.get t with
 |none=>rw[SR.den_none hg]at h;cases h
 |some p=>
  obtain⟨tg,v⟩:=p
  rw[SR.den_get hg]at h
  injection h with h
  exact⟨tg,v,rfl,h.symm⟩
theorem set_get{r:SR}{d:Nat}{L:Tg}{v:SV}(h1:r.free d=true)(h2:inTg d L=false){t:Nat}{u:AV}(h:(r.set d (L,v)).den.get t=some u):
  (t=d∧u=r.dv L v)∨(t≠d∧r.den.get t=some u):=by
 obtain⟨tg,v',h3,rfl⟩:=den_some h
 have hc:∀t,t≠d→(r.set d (L,v)).get t=r.get t:=fun t ht=>SR.get_set_ne r _ (Ne.symm ht)
 by_cases e:t=d
 ·subst e
  rw[SR.get_set_same]at h3
  injection h3 with h3
  injection h3 with h3 h4
  subst h3;subst h4
  exact .inl ⟨rfl,dv_congr (holds_congr hc h2)⟩
 ·rw[hc t e]at h3
  refine .inr ⟨e,?_⟩
  rw[SR.den_get h3]
  congr 1
  exact(dv_congr (holds_congr hc (SR.free_get h1 h3))).symm
theorem del_sub{r:SR}{d:Nat}(h1:r.free d=true):SubR r.den (r.del d).den:=fun t u h=>by
 obtain⟨tg,v',h3,rfl⟩:=den_some h
 have hc:∀t,t≠d→(r.del d).get t=r.get t:=fun t ht=>SR.get_del_ne r (Ne.symm ht)
 by_cases e:t=d
 ·subst e;rw[SR.get_del_same]at h3;cases h3
 ·rw[hc t e]at h3
  rw[SR.den_get h3]
  congr 1
  exact(dv_congr (holds_congr hc (SR.free_get h1 h3))).symm
theorem SubR.trans{a b c:Regs}(h:SubR a b)(h':SubR b c):SubR a c:=fun t v hv=>h t v (h' t v hv)
theorem SubR.rfl'{a:Regs}:SubR a a:=fun _ _ h=>h
theorem SubR.wr{a b:Regs}(h:SubR a b):WR a b:=fun t v hv=>⟨v,h t v hv,WV.rfl'⟩
theorem kill_sub:∀(ts:List Nat) (r:SR),SubR r.den (r.kill ts).den
 |[],r=>SubR.rfl'
 |t::ts,r=>by
  simp only[SR.kill]
  split
  ·rename_i h;exact(del_sub h).trans (kill_sub ts _)
  ·exact kill_sub ts r
theorem put_get{r r':SR}{d:Nat}{L:Tg}{v:Option SV}(h:r.put (some d) L v=some r'){t:Nat}{u:AV}(hg:r'.den.get t=some u):
  (t=d∧u=(match v with|some v=>r.dv L v|none=>.tup []))∨(t≠d∧r.den.get t=some u):=by
 simp only[SR.put]at h
 split at h
 ·rename_i h1 h2
  split at h
  ·injection h with h;subst h;exact set_get h1 h2 hg
  ·injection h with h;subst h;exact set_get h1 rfl hg
 ·cases h
theorem put_sub{r r':SR}{d:Option Nat}{L:Tg}{v:Option SV}{ρ:Regs}(hρ:SubR ρ r.den)(hL:r.holds L=true)(h:r.put d L v=some r'):SubR (ρ.putR d (v.map SV.den)) r'.den:=fun t u hu=>by
 cases d with
 |none=>simp only[SR.put,Option.some.injEq]at h;subst h;cases v<;>exact hρ t u hu
 |some d=>
  rcases put_get h hu with ⟨rfl,rfl⟩|⟨h1,h2⟩
  ·cases v with
   |none=>simp[Regs.putR,Regs.drop,Regs.get_set_same]
   |some v=>simp[Regs.putR,Regs.put,Regs.get_set_same,dv_holds,hL]
  ·have:=hρ t u h2
   cases v<;>simp[Regs.putR,Regs.drop,Regs.put,Regs.get_set_ne _ _ (Ne.symm h1),this]
theorem put_skip{r r':SR}{d:Option Nat}{L:Tg}{v:SV}{ρ:Regs}(hρ:SubR ρ r.den)(hL:r.holds L=false)(h:r.put d L (some v)=some r'):SubR (ρ.drop d) r'.den:=fun t u hu=>by
 cases d with
 |none=>simp only[SR.put,Option.some.injEq]at h;subst h;exact hρ t u hu
 |some d=>
  rcases put_get h hu with ⟨rfl,rfl⟩|⟨h1,h2⟩
  ·simp[Regs.drop,Regs.get_set_same,dv_holds,hL]
  ·simp[Regs.drop,Regs.get_set_ne _ _ (Ne.symm h1),hρ t u h2]
theorem WR.trans_sub{a b c:Regs}(h:WR a b)(h':SubR b c):WR a c:=fun t v hv=>h t v (h' t v hv)
theorem putR_weak{ρ:Regs}{d:Option Nat}{a b:Option AV}(h:WVO a b):WR (ρ.putR d a) (ρ.putR d b):=fun t v hv=>by
 cases d with
 |none=>cases a<;>cases b<;>first|exact⟨v,hv,WV.rfl'⟩|exact h.elim
 |some d=>
  cases a<;>cases b<;>first|exact h.elim|exact⟨v,hv,WV.rfl'⟩|skip
  rename_i a b
  simp only[Regs.putR,Regs.put]at hv⊢
  by_cases e:d=t
  ·subst e
   rw[Regs.get_set_same]at hv⊢
   injection hv with hv
   subst hv
   exact⟨a,rfl,h⟩
  ·rw[Regs.get_set_ne _ _ e]at hv⊢
   exact⟨v,hv,WV.rfl'⟩
theorem zB_ok:∀{c:Ly} {z:List T},zB c z=true→WL (z.map .t) ((c.trees c.dflt).map .t)
 |.int k,z,h=>by
  simp only[zB]at h
  split at h
  ·rw[kindB_eq h];exact WL.rfl'
  ·cases h
 |.bool,z,h=>by
  simp only[zB]at h
  split at h
  ·exact WL.rfl'
  ·cases h
 |.str,z,h=>by
  simp only[zB]at h
  split at h
  ·exact WL.rfl'
  ·cases h
 |.sl c,z,h=>by
  simp only[zB]at h
  split at h
  ·exact⟨.t (.cap _ _ _),trivial⟩
  ·cases h
 |.pair a b,z,h=>by
  simp only[zB]at h
  split at h
  ·rename_i h1
   have h2:=zB_ok h1
   have h3:=zB_ok h
   have e:z.map Cell.t=(z.take a.size).map Cell.t++(z.drop a.size).map Cell.t:=by rw[←List.map_append,List.take_append_drop]
   rw[e]
   simp only[Ly.trees,Ly.dflt,List.map_append]
   exact h2.append h3
  ·cases h
theorem norm_ok(o:SO):WO o.den o.norm.den:=by
 cases o with
 |st cs es ep=>exact WO.rfl'
 |arr c xs ep=>exact WO.rfl'
 |opn c xs cs ys ep=>exact WO.rfl'
 |zer z c n=>
  simp only[SO.norm]
  split
  ·rename_i h
   refine⟨?_,rfl,rfl⟩
   show WL ((repl n z).map .t) (((List.replicate n c.dflt).flatMap c.trees).map .t)
   have:=zB_ok h
   induction n with
   |zero=>exact trivial
   |succ n ih=>
    simp only[repl,List.replicate_succ,List.flatMap_cons,List.map_append]
    exact this.append ih
  ·exact WO.rfl'
theorem norm_weak(σ:SH):WH (SH.den σ) (SH.den (SH.norm σ)):=by
 unfold SH.norm
 split
 ·rename_i hz
  clear hz
  show WH (List.map SO.den σ) (List.map SO.den (List.map SO.norm σ))
  induction σ with
  |nil=>exact trivial
  |cons o σ ih=>exact⟨norm_ok o,ih⟩
 ·exact WH.rfl'
section
variable {P:Program}{N:Nat}{ro:Option Nat}{n0:Nat}
theorem GhostF.tr{n:Nat}{r r' r'':Regs}{σ σ' σ'':Heap}(h:GhostF N n r σ r' σ')(h':GhostF N n r' σ' r'' σ''):GhostF N n r σ r'' σ'':=fun ι w a hh hr=>by
 obtain⟨ι',h1,h2,h3⟩:=h ι w a hh hr
 obtain⟨ι'',h4,h5,h6⟩:=h' ι' w a h1 h2
 exact⟨ι'',h4,h5,fun ι0 σ0 w0 h0 hn hs=>h6 ι0 σ0 w0 h0 hn (h3 ι0 σ0 w0 h0 hn hs)⟩
theorem ghost_add{n:Nat}{r:Regs}{σ:Heap}(o:Obj):GhostF N n r σ r (σ++[o]):=fun ι w a hh hr=>
 ⟨ι,⟨fun id s hs=>by
   obtain⟨o',h1,h2⟩:=hh.obj id s hs
   exact⟨o',by rw[List.getElem?_append_left (hh.lt hs)];exact h1,h2⟩,hh.inj,hh.resRow,hh.resNo⟩,hr,fun _ _ _ _ _ hs=>
  ⟨by have:=hs.len;simp;omega,hs.size,hs.os,hs.out,hs.keep,hs.none,hs.new,hs.res,hs.ex,hs.resKeep,hs.frame⟩⟩
theorem Out.ghost{ex:Bool}{σ τ τ':Heap}{a b:Option AV}(h:Out ex σ a τ b τ')(ρ:Regs)(d:Option Nat)(n:Nat):GhostF N n (ρ.putR d a) τ (ρ.putR d b) τ':=by
 cases h with
 |weak h1 h2 _=>exact ghost_weak (putR_weak h1) h2
 |own es _=>
  cases d with
  |none=>exact ghost_add _
  |some d=>
   refine GhostF.tr (Ghost.f (ghost_own (t:=d) es (by simp[Regs.putR,Regs.put,Regs.get_set_same])) n) (ghost_weak ?_ WH.rfl')
   refine SubR.wr fun t v hv=> ?_
   simp only[Regs.putR,Regs.put]at hv⊢
   by_cases e:d=t
   ·subst e;rw[Regs.get_set_same]at hv⊢;exact hv
   ·rw[Regs.get_set_ne _ _ e]at hv⊢
    rw[Regs.get_set_ne _ _ e]
    exact hv
theorem isCall_none{op:Op}(h:isCall op=none):∀f args ts,op≠.call { callee:=.value f,args:=args,argTypes:=ts }:=fun f args ts e=>by
 subst e;cases h
theorem isCall_some{op:Op}{f:Operand}{args:List Operand}(h:isCall op=some (f,args)):∃as ts,op=.call { callee:=.value f,args:=as,argTypes:=ts }∧args=as.toList:=by
 unfold isCall at h
 split at h
 ·injection h with h;injection h with h1 h2;subst h1;subst h2;exact⟨_,_,rfl,rfl⟩
 ·cases h
theorem opS_step{ty:TyT}(hty:TyOk P ty){r:SR}{L:Tg}{ρ:Regs}(hρ:SubR ρ r.den)(hL:r.holds L=true){σ:SH}{o:Oper}(hc:isCall o.op=none){res:Option SV}{σ':SH}
  (h:opS false ty r L σ o.op=some (true,res,σ')):stepOk P ρ (SH.den σ) o fun res0 τ=>Out false (SH.den σ) res0 τ (res.map SV.den) (SH.den σ'):=by
 by_cases hb:∀b xT x y yT,o.op=.binOp b xT x y yT→isNilConst y=false
 ·obtain⟨res0,τ,h1,h2⟩:=opS_ok hty hρ hL hb h
  exact stepOk_plain (isCall_none hc) (nilTest_not hb ρ) h1 h2
 ·simp only[Classical.not_forall]at hb
  obtain⟨b,xT,x,y,yT,hop,hy⟩:=hb
  have hy:isNilConst y=true:=by simpa using hy
  rw[hop]at h
  simp only[opS,hy]at h
  split at h
  ·rename_i i c hi
   have hti:=hty.ok _ _ _ hi
   split at h
   ·rename_i e hk
    split at h
    ·rename_i ne n hne hn
     rw[Option.bind_eq_some_iff]at hn
     obtain⟨v,hv,hlen⟩:=hn
     rw[hv]at h
     have key:eqN n 0=false∧(∀s,v≠.c (.sg s))∧res=some (.c (.bo ne))∧σ'=σ:=by
      split at h
      ·cases h
      ·rename_i hns
       simp only[Option.some.injEq,Prod.mk.injEq,Bool.not_eq_true']at h
       exact⟨h.1,fun s e=>hns s (by rw[e]),h.2.1.symm,h.2.2.symm⟩
     obtain⟨h1,h2,rfl,rfl⟩:=key
     have hev:=evS_ok hρ hL hv
     have hsl:slLen v.den=some n:=by
      unfold lenS at hlen
      split at hlen
      ·injection hlen with hlen;subst hlen;rfl
      ·injection hlen with hlen;subst hlen;rfl
      ·injection hlen with hlen;subst hlen;rfl
      ·exact absurd rfl (h2 _)
      ·cases hlen
     unfold stepOk
     rw[hop]
     simp only[nilTest,hy,if_true,hti,hev,hne,hk,hsl]
     refine⟨Out.same,fun e=> ?_⟩
     simp[eqN,e]at h1
    ·cases h
   ·rename_i hns
    split at h
    ·rename_i u v hu hv
     rw[Option.map_eq_some_iff]at h
     obtain⟨t,h1,h2⟩:=h
     obtain⟨b',t⟩:=t
     simp only[Prod.mk.injEq]at h2
     obtain⟨rfl,rfl,rfl⟩:=h2
     have hb:=binS_ok hty h1
     rw[Option.map_eq_some_iff]at hb
     obtain⟨tt,h5,h6⟩:=hb
     refine stepOk_plain (isCall_none hc) ?_ (res:=some (.c (.t tt))) (σ':=SH.den σ) ?_ ?_
     ·rw[hop]
      simp only[nilTest,hy,if_true,hti]
      split
      ·rename_i i' v' ne e1 e2 e3
       injection e1 with e1
       subst e1
       split
       ·rename_i e n hk _
        exact absurd hk (hns e)
       ·rfl
      ·rfl
     ·rw[hop]
      simp only[opE,evS_ok hρ hL hu,evS_ok hρ hL hv,h5,Option.map_some]
     ·rw[Option.map_some,SV.den_c,←h6]
      exact Out.same
    ·cases h
  ·cases h
theorem calleeS_ok{r:SR}{L:Tg}{ρ:Regs}(hρ:SubR ρ r.den)(hL:r.holds L=true){f:Operand}{args:List Operand}{g:FuncId}{as:List SV}(h:calleeS r L f args=some (g,as)):callE ρ f args=some (g,as.map SV.den):=by
 unfold calleeS at h
 split at h
 ·rename_i g' as' h1 h2
  injection h with h
  injection h with h3 h4
  subst h3;subst h4
  simp only[callE,evS_ok hρ hL h1,evlS_ok hρ hL h2,SV.den_c,SC.den_fn,callTarget,List.map_nil,List.append_nil]
 ·rename_i g' rs as' h1 h2
  split at h
  ·rename_i h0 hy
   injection h with h
   injection h with h3 h4
   subst h3;subst h4
   have hy':¬g'=YID:=fun e=>by subst e;simp at hy
   have:∀{rs:List Ref},allE0 rs=true→(rs.map refArg).map SV.den=rs.map fun r=>AV.c (.ptr r):=fun{rs}=>by
    induction rs with
    |nil=>intro _;rfl
    |cons r rs ih=>
     intro h
     simp only[allE0]at h
     split at h
     ·rename_i he
      obtain⟨id,ep,off⟩:=r
      have he':ep=0:=eqB he
      subst he'
      simp only[List.map_cons,ih h]
      rfl
     ·cases h
   simp only[callE,evS_ok hρ hL h1,evlS_ok hρ hL h2,SV.den_c,SC.den_clo,callTarget,hy',if_false,List.map_append,this h0]
  ·cases h
 ·cases h
structure ConOk(P:Program)(g:FuncId)(c:Con):Prop where
 ok:∀as σ x y,c.dec as σ=some x→c.run x=some y→FnOk P g (as.map SV.den) (SH.den σ) fun v τ=>WV v (c.val x y σ).den∧WH τ (SH.den (c.heap x y σ))
 rd:∀as σ x y rs,c.dec as σ=some x→c.rd x=some rs→c.heap x y σ=σ∧(c.run x=some y→ConstAt P g (as.map SV.den) (SH.den σ) rs (c.val x y σ).den)
structure EnvOk(P:Program)(E:Env):Prop where
 ty:TyOk P E.ty
 cf:∀g c,c∈E.cf g→ConOk P g c
theorem pickCon_ok{as:List SV}{σ:SH}:∀{l:List Con} {c:Con} {x:c.X},pickCon as σ l=some ⟨c,x⟩→c∈l∧c.dec as σ=some x
 |[],c,x,h=>by cases h
 |c0::l,c,x,h=>by
  simp only[pickCon]at h
  split at h
  ·rename_i x0 hx
   simp only[Option.some.injEq,Sigma.mk.injEq]at h
   obtain⟨rfl,h⟩:=h
   have h:=eq_of_heq h
   subst h
   exact⟨by simp,hx⟩
  ·obtain⟨h1,h2⟩:=pickCon_ok h
   exact⟨by simp[h1],h2⟩
theorem callS_ok{E:Env}(hE:EnvOk P E){β:Type}{g:FuncId}{as:List SV}{σ:SH}{K:SV→SH→Option β}{b:β}(h:callS E g as σ K=some b):
  ∃v σ',K v σ'=some b∧FnOk P g (as.map SV.den) (SH.den σ) fun u τ=>WV u v.den∧WH τ (SH.den σ'):=by
 unfold callS at h
 split at h
 ·rename_i c x hcx
  obtain⟨hc,hx⟩:=pickCon_ok hcx
  unfold bindO at h
  split at h
  ·rename_i y hy
   exact⟨_,_,h,(hE.cf g c hc).ok as σ x y hx hy⟩
  ·cases h
 ·cases h
theorem callG_ok{E:Env}(hE:EnvOk P E){β:Type}{g:FuncId}{as:List SV}{σ:SH}{w:Bool}{K:SV→Option β}{b:β}(h:callG E w g as σ K=some b):
  ∃v,K v=some b∧(w=true→FnOk P g (as.map SV.den) (SH.den σ) fun u τ=>WV u v.den∧WH τ (SH.den σ)):=by
 unfold callG at h
 split at h
 ·rename_i c x hcx
  obtain⟨hc,hx⟩:=pickCon_ok hcx
  split at h
  ·rename_i rs hrs
   unfold bindO at h
   split at h
   ·rename_i y hy
    refine⟨_,h,fun hw=> ?_⟩
    subst hw
    have:=(hE.cf g c hc).ok as σ x y hx hy
    rw[((hE.cf g c hc).rd as σ x y rs hx hrs).1]at this
    exact this
   ·cases h
  ·cases h
 ·cases h
theorem builtin_quiet{ex:Bool}{ty:TyT}{σ:SH}{b:Builtin}{ts:Array TypeId}{vs:List SV}{x:Bool×SV×SH}(hb:(match b with|.len|.cap|.min|.max=>true|_=>false)=true)(h:builtinS ex ty σ b ts vs=some x):x.2.2=σ:=by
 unfold builtinS at h
 split at h<;>first|cases hb;done|skip
 all_goals repeat' (first|(cases h;done)|(rw[Option.map_eq_some_iff]at h;obtain⟨v,h1,h2⟩:=h;rw[←h2])|(simp only[Option.some.injEq]at h;rw[←h];done)|split at h)
theorem quiet_heap{ex:Bool}{ty:TyT}{r:SR}{L:Tg}{σ σ':SH}{op:Op}(hq:quiet op=true){p:Bool}{res:Option SV}(h:opS ex ty r L σ op=some (p,res,σ')):σ'=σ:=by
 unfold opS at h
 split at h<;>first|cases hq;done|skip
 all_goals repeat' (first|(cases h;done)|(rw[Option.map_eq_some_iff]at h;obtain⟨v,h1,h2⟩:=h;simp only[Prod.mk.injEq]at h2;first|exact h2.2.2.symm|skip)|(simp only[Option.some.injEq,Prod.mk.injEq]at h;exact h.2.2.symm)|split at h)
 rw[←h2.2.2]
 exact builtin_quiet hq h1
theorem guardE_holds{ops:Array Oper}{o:Oper}{d:Nat}{w:Bool}(hg:(match o.guard with|none=>some none|some (j,want)=>match (ops[j]?).bind (·.dst) with|some d=>some (some (d,want))|none=>none)=some (some (d,w))){r:SR}{tg:Tg}{b:Bool}(hr0:r.gget d=some (tg,.c (.bo b))){ρ:Regs}(hρ:SubR ρ r.den):
  guardE ops ρ o.guard=some (r.holds ((d,w)::tg)):=by
 rw[←guardC_ok (all:=ops) (r:=ρ) (o:=o) hg]
 have hr:=(SR.gget_get hr0).2
 have h1:=Regs.at_of (hρ _ _ (SR.den_get hr)) (SR.gget_get hr0).1
 simp only[guardC,h1,dv_holds,SR.holds_cons]
 cases hh:r.holds tg with
 |false=>simp[guardV]
 |true=>
  simp only[if_true,SV.den_c,SC.den_bo,guardV,Bool.true_and,SR.isB,hr]
  cases w<;>cases b<;>rfl
def SaysU(F:Regs→Heap→(Exit→Regs→Heap→Prop)→Prop):LoopS→Prop
 |.one _ _ dec run out=>∀r σ x y,dec r σ=some (true,x)→run x=some y→F r.den (SH.den σ) fun e ρ τ=>e=(out x y).1∧WR ρ (out x y).2.1.den∧WH τ (SH.den (out x y).2.2)
 |.two _ _ _ dec run outY outZ=>∀r σ x s,dec r σ=some (true,x)→run x=some s→F r.den (SH.den σ) fun e ρ τ=>match s with
  |.inl y=>e=(outY x y).1∧WR ρ (outY x y).2.1.den∧WH τ (SH.den (outY x y).2.2)
  |.inr z=>e=(outZ x z).1∧WR ρ (outZ x z).2.1.den∧WH τ (SH.den (outZ x z).2.2)
 |.alt u v=>SaysU F u∧SaysU F v
theorem unitK_ok{F:Regs→Heap→(Exit→Regs→Heap→Prop)→Prop}{u:LoopS}(hu:SaysU F u){β:Type}{r:SR}{σ:SH}{K:Exit→SR→SH→Option β}{b:β}(h:unitK u r σ K=some b):
  ∃Q:Exit→Regs→Heap→Prop,F r.den (SH.den σ) Q∧∀e ρ τ,Q e ρ τ→∃r' σ',WR ρ r'.den∧WH τ (SH.den σ')∧K e r' σ'=some b:=by
 induction u with
 |alt u v ih1 ih2=>
  simp only[unitK]at h
  split at h
  ·exact ih1 hu.1 h
  ·exact ih2 hu.2 h
 |one X Y dec run out=>
  simp only[unitK]at h
  split at h
  ·rename_i p x hx
   cases p with
   |false=>cases h
   |true=>
    simp only[cond_true,bindO]at h
    split at h
    ·rename_i y hy
     exact⟨_,hu r σ x y hx hy,fun e ρ τ ⟨h1,h2,h3⟩=>⟨_,_,h2,h3,by rw[h1];exact h⟩⟩
    ·cases h
  ·cases h
 |two X Y Z dec run outY outZ=>
  simp only[unitK]at h
  split at h
  ·rename_i p x hx
   cases p with
   |false=>cases h
   |true=>
    simp only[cond_true,bindO]at h
    split at h
    ·rename_i s hs
     refine⟨_,hu r σ x s hx hs,fun e ρ τ hq=> ?_⟩
     cases s with
     |inl y=>exact⟨_,_,hq.2.1,hq.2.2,by rw[hq.1];exact h⟩
     |inr z=>exact⟨_,_,hq.2.1,hq.2.2,by rw[hq.1];exact h⟩
    ·cases h
  ·cases h
def BodyOkS(P:Program)(N n0:Nat)(A B:Code)(u:LoopS):Prop:=SaysU (BodyF P N n0 A B) u
def YldOk(P:Program)(n0:Nat)(E:Env)(yk:Option YI):Prop:=∀ps u,E.yb=some (ps,u)→∃y,yk=some y∧y.ps=ps∧y.n≤BIG∧(∀p∈ps.toList,p<y.n)∧BodyOkS P y.n n0 y.assign y.body u
theorem YldOk.no{E:Env}{yk:Option YI}(h:E.yb=none):YldOk P n0 E yk:=fun _ _ e=>by rw[h]at e;cases e
theorem SR.get_mem:∀{r:SR} {t:Nat} {x:Tg×SV},r.get t=some x→(t,x)∈r
 |(k,v)::r,t,x,h=>by
  simp only[SR.get]at h
  split at h
  ·rename_i e
   have e:=eqB e
   subst e
   injection h with h
   subst h
   simp
  ·exact List.mem_cons_of_mem _ (SR.get_mem h)
theorem mapB_mem{f:Nat→Option Nat}{r0:SR}:∀{r:SR} {t':Nat} {tg:Tg} {v:SV},(t',tg,v)∈mapB f r0 r→tg=[]∧∃t,f t=some t'∧r0.get t=some ([],v)
 |(t,x,y)::r,t',tg,v,h=>by
  simp only[mapB]at h
  split at h
  ·rename_i t1 h1
   split at h
   ·rename_i v1 h2
    rcases List.mem_cons.1 h with h|h
    ·injection h with h3 h4
     injection h4 with h4 h5
     subst h3;subst h4;subst h5
     exact⟨rfl,t,h1,h2⟩
    ·exact mapB_mem h
   ·exact mapB_mem h
  ·exact mapB_mem h
theorem zipS_mem:∀{ps:List Nat} {as:List SV} {t:Nat} {tg:Tg} {v:SV},(t,tg,v)∈zipS ps as→tg=[]∧∃i:Nat,ps[i]? =some t∧as[i]? =some v
 |p::ps,a::as,t,tg,v,h=>by
  simp only[zipS]at h
  rcases List.mem_cons.1 h with h|h
  ·injection h with h3 h4
   injection h4 with h4 h5
   subst h3;subst h4;subst h5
   exact⟨rfl,0,rfl,rfl⟩
  ·obtain⟨h1,i,h2,h3⟩:=zipS_mem h
   exact⟨h1,i+1,by simpa using h2,by simpa using h3⟩
 |[],_,t,tg,v,h=>by simp[zipS]at h
 |_::_,[],t,tg,v,h=>by simp[zipS]at h
theorem den_mem{r:SR}(hr:∀t tg v,(t,tg,v)∈r→tg=[]){t:Nat}{u:AV}(h:r.den.get t=some u):∃v,(t,[],v)∈r∧u=v.den:=by
 obtain⟨tg,v,h1,rfl⟩:=den_some h
 have h2:=SR.get_mem h1
 have:=hr _ _ _ h2
 subst this
 exact⟨v,h2,rfl⟩
theorem fOwn_ok{ps:List Nat}{t t':Nat}(h:fOwn ps t=some t'):t=2000000+t'∧t'<BIG∧t'∉ps:=by
 unfold fOwn at h
 split at h
 ·rename_i h1 h2
  split at h
  ·cases h
  ·rename_i h3
   injection h with h
   have h1:=Nat.le_of_ble_eq_true h1
   have h2:t+1≤3000000:=Nat.le_of_ble_eq_true h2
   subst h
   refine⟨by omega,by unfold BIG;omega,fun hm=> ?_⟩
   rw[memB_iff.2 hm]at h3
   cases h3
 ·cases h
theorem fIt_ok{t t':Nat}(h:fIt t=some t'):t<BIG∧t'=1000000+t:=by
 unfold fIt at h
 split at h
 ·rename_i h1
  injection h with h
  have h1:t+1≤1000000:=Nat.le_of_ble_eq_true h1
  exact⟨by unfold BIG;omega,h.symm⟩
 ·cases h
theorem fKeep_ok{t t':Nat}(h:fKeep t=some t'):t'=t∧2000000≤t∧t<3000000:=by
 unfold fKeep at h
 split at h
 ·rename_i h1 h2
  injection h with h
  have h1:=Nat.le_of_ble_eq_true h1
  have h2:t+1≤3000000:=Nat.le_of_ble_eq_true h2
  exact⟨h.symm,h1,by omega⟩
 ·cases h
theorem fBack_ok{t t':Nat}(h:fBack t=some t'):t=1000000+t'∧t'<BIG:=by
 unfold fBack at h
 split at h
 ·rename_i h1 h2
  injection h with h
  have h1:=Nat.le_of_ble_eq_true h1
  have h2:t+1≤2000000:=Nat.le_of_ble_eq_true h2
  exact⟨by omega,by unfold BIG;omega⟩
 ·cases h
theorem bodyS_ok{ps:Array Tmp}{as:List SV}{r R:SR}(h:bodyS ps as r=some R):as.length=ps.size∧ps.toList.Nodup∧HeadR ps.toList (as.map SV.den) r.den R.den:=by
 unfold bodyS at h
 split at h
 ·rename_i h1 h2
  injection h with h
  refine⟨eqB h1,nodupB_ok h2,fun t v hv=> ?_⟩
  have hu:∀t tg v,(t,tg,v)∈R→tg=[]:=fun t tg v hm=>by
   rw[←h]at hm
   simp only[List.mem_append]at hm
   rcases hm with hm|hm|hm|hm
   ·exact(zipS_mem hm).1
   ·exact(mapB_mem hm).1
   ·exact(mapB_mem hm).1
   ·exact(mapB_mem hm).1
  obtain⟨v',hm,rfl⟩:=den_mem hu hv
  rw[←h]at hm
  simp only[List.mem_append]at hm
  rcases hm with hm|hm|hm|hm
  ·obtain⟨_,i,h3,h4⟩:=zipS_mem hm
   exact .inl ⟨i,h3,by simp[h4]⟩
  ·obtain⟨_,t1,h3,h4⟩:=mapB_mem hm
   obtain⟨rfl,h5,h6⟩:=fOwn_ok h3
   exact .inr (.inl ⟨h5,h6,SR.den_get h4⟩)
  ·obtain⟨_,t1,h3,h4⟩:=mapB_mem hm
   obtain⟨h5,rfl⟩:=fIt_ok h3
   exact .inr (.inr (.inl ⟨t1,h5,rfl,SR.den_get h4⟩))
  ·obtain⟨_,t1,h3,h4⟩:=mapB_mem hm
   obtain⟨rfl,h5,h6⟩:=fKeep_ok h3
   exact .inr (.inr (.inr ⟨h5,h6,SR.den_get h4⟩))
 ·cases h
theorem backS_ok(m:Nat)(r:SR):BackR m r.den (backS m r).den:=fun t v hv=>by
 have hu:∀t tg v,(t,tg,v)∈backS m r→tg=[]:=fun t tg v hm=>by
  unfold backS at hm
  simp only[List.mem_append,List.mem_singleton]at hm
  rcases hm with hm|hm|hm
  ·exact(mapB_mem hm).1
  ·exact(mapB_mem hm).1
  ·injection hm with _ hm;injection hm
 obtain⟨v',hm,rfl⟩:=den_mem hu hv
 unfold backS at hm
 simp only[List.mem_append,List.mem_singleton]at hm
 rcases hm with hm|hm|hm
 ·obtain⟨_,t1,h3,h4⟩:=mapB_mem hm
  obtain⟨rfl,h5⟩:=fBack_ok h3
  exact .inl ⟨h5,SR.den_get h4⟩
 ·obtain⟨_,t1,h3,h4⟩:=mapB_mem hm
  obtain⟨rfl,h5,h6⟩:=fKeep_ok h3
  exact .inr (.inl ⟨h5,h6,SR.den_get h4⟩)
 ·injection hm with h1 hm;injection hm with _ hm
  subst h1;subst hm
  exact .inr (.inr ⟨rfl,rfl⟩)
theorem scalS_mem{r0:SR}:∀{r:SR} {t:Nat} {tg:Tg} {v:SV},(t,tg,v)∈scalS r0 r→tg=[]∧t<BIG∧r0.get t=some ([],v)∧((∃k n,v=.c (.it k n))∨∃b,v=.c (.bo b))
 |[],t,tg,v,h=>by cases h
 |(t0,tg0,v0)::r,t,tg,v,h=>by
  simp only[scalS]at h
  split at h
  ·rename_i hb
   have hlt:t0<BIG:=by simpa [BIG] using hb
   split at h
   ·rename_i k n hg
    rcases List.mem_cons.1 h with h|h
    ·injection h with h1 h2;injection h2 with h2 h3;subst h1;subst h2;subst h3
     exact⟨rfl,hlt,hg,.inl ⟨_,_,rfl⟩⟩
    ·exact scalS_mem h
   ·rename_i b hg
    rcases List.mem_cons.1 h with h|h
    ·injection h with h1 h2;injection h2 with h2 h3;subst h1;subst h2;subst h3
     exact⟨rfl,hlt,hg,.inr ⟨_,rfl⟩⟩
    ·exact scalS_mem h
   ·exact scalS_mem h
  ·exact scalS_mem h
theorem back_scal{N:Nat}{ι ι2:Map}{w w2:World}{r r':SR}{a:Act}{m:Nat}{ρ2:Regs}(hr:RegR N ι w r.den a)(hreg:∀r3 ρ,WR ρ2 r3→BackR m r3 ρ→RegR N ι2 w2 ρ a)(hw:WR ρ2 r'.den):RegR N ι2 w2 (backS m r'++scalS r r).den a:=by
 have h0:=hreg _ _ hw (backS_ok m r')
 refine⟨h0.size,h0.low,fun t x hx=> ?_,h0.gl⟩
 have hu:∀t tg v,(t,tg,v)∈backS m r'++scalS r r→tg=[]:=fun t tg v hm=>by
  rcases List.mem_append.1 hm with hm|hm
  ·unfold backS at hm
   simp only[List.mem_append,List.mem_singleton]at hm
   rcases hm with hm|hm|hm
   ·exact(mapB_mem hm).1
   ·exact(mapB_mem hm).1
   ·injection hm with _ hm;injection hm
  ·exact(scalS_mem hm).1
 obtain⟨v',hm,rfl⟩:=den_mem hu hx
 rcases List.mem_append.1 hm with hm|hm
 ·have hB:BackR m r'.den [(t,v'.den)]:=fun t1 v1 hv1=>by
   simp only[Regs.get]at hv1
   split at hv1
   ·rename_i e
    subst e
    injection hv1 with hv1
    subst hv1
    unfold backS at hm
    simp only[List.mem_append,List.mem_singleton]at hm
    rcases hm with hm|hm|hm
    ·obtain⟨_,t1,h3,h4⟩:=mapB_mem hm
     obtain⟨rfl,h5⟩:=fBack_ok h3
     exact .inl ⟨h5,SR.den_get h4⟩
    ·obtain⟨_,t1,h3,h4⟩:=mapB_mem hm
     obtain⟨rfl,h5,h6⟩:=fKeep_ok h3
     exact .inr (.inl ⟨h5,h6,SR.den_get h4⟩)
    ·cases hm
     exact .inr (.inr ⟨rfl,rfl⟩)
   ·cases hv1
  exact(hreg _ _ hw hB).get t _ (by simp[Regs.get])
 ·obtain⟨_,hlt,hg,hv⟩:=scalS_mem hm
  have h1:=hr.get t _ (SR.den_get hg)
  have e:∀(ι:Map) (w:World),lk ι w a t=a.tmps.getD t undef:=fun ι w=>by unfold lk;rw[if_neg (by omega)]
  rw[e]at h1⊢
  rcases hv with ⟨k,n,rfl⟩|⟨b,rfl⟩
  ·have h1:TR ι.un w (.int k n) (a.tmps.getD t undef):=h1
   show TR ι2.un w2 (.int k n) (a.tmps.getD t undef)
   generalize a.tmps.getD t undef=u at h1
   cases h1
   exact .int k n
  ·have h1:TR ι.un w (.bool b) (a.tmps.getD t undef):=h1
   show TR ι2.un w2 (.bool b) (a.tmps.getD t undef)
   generalize a.tmps.getD t undef=u at h1
   cases h1
   exact .bool b
theorem isReady_ok{r:SR}(h:isReady r=true):r.den.get GH=some (.c (.t (.fn 0 []))):=by
 unfold isReady at h
 split at h
 ·rename_i m hm
  have:=eqB h
  subst this
  exact SR.den_get hm
 ·cases h
theorem isYield_none{E:Env}{r:SR}{op:Op}(h:isCall op=none):isYield E r op=none:=by
 unfold isYield
 split
 ·rfl
 ·rw[h]
theorem isYield_some{E:Env}{r:SR}{op:Op}{ps:Array Tmp}{u:LoopS}{as:List SV}(h:isYield E r op=some (ps,u,as)):
  E.yb=some (ps,u)∧∃f args ts caps,op=.call { callee:=.value f,args:=args,argTypes:=ts }∧ev r.den f=some (.c (.clo YID caps))∧evl r.den args.toList=some (as.map SV.den):=by
 unfold isYield at h
 split at h
 ·cases h
 ·rename_i ps' u' hyb
  split at h
  ·rename_i f args hc
   obtain⟨as',ts,hop,rfl⟩:=isCall_some hc
   split at h
   ·rename_i g rs hf
    split at h
    ·rename_i hg
     split at h
     ·rename_i as0 has
      simp only[Option.some.injEq,Prod.mk.injEq]at h
      obtain⟨rfl,rfl,rfl⟩:=h
      have:=eqB hg
      subst this
      refine⟨hyb,f,as',ts,rs,hop,?_,?_⟩
      ·rw[evS_ok (L:=[]) SubR.rfl' rfl hf];rfl
      ·exact evlS_ok (L:=[]) SubR.rfl' rfl has
     ·cases h
    ·cases h
   ·cases h
  ·cases h
theorem jumpS_eq(e:Exit):jumpS e=jumpE e:=by cases e<;>rfl
theorem fix_get(d:Nat)(w:Bool):∀(r:SR) (t:Nat),(SR.fix d w r).get t=(r.get t).map fun x=>if t=d then ([],SV.c (.bo w)) else (fixT d w x.1,x.2)
 |[],t=>rfl
 |(k,tg,v)::r,t=>by
  simp only[SR.fix]
  split
  ·rename_i hk
   have hk:k=d:=Nat.eq_of_beq_eq_true hk
   subst hk
   simp only[SR.get]
   split
   ·rename_i ht
    have ht:k=t:=Nat.eq_of_beq_eq_true ht
    subst ht
    simp
   ·exact fix_get k w r t
  ·rename_i hk
   simp only[SR.get]
   split
   ·rename_i ht
    have ht:k=t:=Nat.eq_of_beq_eq_true ht
    subst ht
    have:¬k=d:=fun e=>by subst e;simp at hk
    simp[this]
   ·exact fix_get d w r t
theorem fix_isB{d:Nat}{w:Bool}{r:SR}{tg:Tg}(hd:r.get d=some (tg,.c (.bo w)))(t:Nat)(u:Bool):(SR.fix d w r).isB t u=r.isB t u:=by
 unfold SR.isB
 rw[fix_get]
 by_cases e:t=d
 ·subst e
  rw[hd]
  simp
 ·cases hg:r.get t with
  |none=>rfl
  |some x=>
   obtain⟨tg',v⟩:=x
   simp only[Option.map_some,e,if_false]
   cases v with
   |c y=>cases y<;>rfl
   |_=>rfl
theorem fix_holds{d:Nat}{w:Bool}{r:SR}{tg0:Tg}(hd:r.get d=some (tg0,.c (.bo w))):∀(tg:Tg),(SR.fix d w r).holds (fixT d w tg)=r.holds tg
 |[]=>rfl
 |(t,u)::l=>by
  have ih:=fix_holds hd l
  have keep:(SR.fix d w r).holds ((t,u)::fixT d w l)=r.holds ((t,u)::l):=by
   rw[SR.holds_cons,SR.holds_cons,ih,fix_isB hd]
  have drop:t=d→u=w→(SR.fix d w r).holds (fixT d w l)=r.holds ((t,u)::l):=fun e1 e2=>by
   subst e1;subst e2
   rw[ih,SR.holds_cons]
   have:r.isB t u=true:=by
    unfold SR.isB
    rw[hd]
    cases u<;>rfl
   simp[this]
  simp only[fixT]
  split
  ·rename_i ht
   have ht:t=d:=Nat.eq_of_beq_eq_true ht
   cases u<;>cases w
   ·exact drop ht rfl
   ·exact keep
   ·exact keep
   ·exact drop ht rfl
  ·exact keep
theorem fix_den{d:Nat}{w:Bool}{r:SR}{tg0:Tg}(hd:r.get d=some (tg0,.c (.bo w)))(ht0:r.holds tg0=true)(t:Nat)(u:AV)(h:(SR.fix d w r).den.get t=some u):r.den.get t=some u:=by
 obtain⟨tg,v,hg,rfl⟩:=den_some h
 rw[fix_get]at hg
 by_cases e:t=d
 ·subst e
  rw[hd]at hg
  simp at hg
  obtain⟨rfl,rfl⟩:=hg
  rw[SR.den_get' hd ht0]
  rfl
 ·cases hr:r.get t with
  |none=>rw[hr]at hg;cases hg
  |some x=>
   obtain⟨tg',v'⟩:=x
   rw[hr]at hg
   simp[e]at hg
   obtain⟨rfl,rfl⟩:=hg
   rw[SR.den_get hr,dv_holds,dv_holds,fix_holds hd]
theorem holds_one{r:SR}{d:Nat}{b w:Bool}(hd:r.get d=some ([],.c (.bo b)))(h:r.holds [(d,w)]=true):b=w:=by
 unfold SR.holds SR.isB at h
 rw[hd]at h
 cases w<;>simpa using h
theorem holds_one'{r:SR}{d:Nat}{b w:Bool}(hd:r.get d=some ([],.c (.bo b)))(h:r.holds [(d,w)]=false):b=!w:=by
 unfold SR.holds SR.isB at h
 rw[hd]at h
 cases w<;>simpa using h
theorem nrm_weak(op:Op)(σ:SH):WH (SH.den σ) (SH.den (nrm op σ)):=by
 cases op<;>first|exact norm_weak _|exact WH.rfl'
theorem stepU_ok{E:Env}(hE:EnvOk P E){β:Type}{r:SR}{σ:SH}{o:Oper}{k:List Nat}{K:SR→SH→Option β}{b:β}(h:stepU E o.dst o.op k r σ K=some b)(hdst:dstOk N o.dst=true)
  {ι:Map} {w:World} {a:Act} (hh:HR ι (SH.den σ) w) (hr:RegR N ι w r.den a) {next:Act→World→Prop} {Q:Exit→Act→World→Prop}
  (hn:∀(r':SR) (σ':SH),K r' σ'=some b→∀ρ τ ι' w' a',GhostF N n0 ρ τ r'.den (SH.den σ')→HR ι' τ w'→RegR N ι' w' ρ a'→Step ι (SH.den σ) w ι' τ w'→a'.defers=a.defers→next a' w'):o.wpIn (wr ro) 0 P a w next Q:=by
 unfold stepU at h
 split at h
 ·rename_i f args hcall
  obtain⟨as',ts,hop,rfl⟩:=isCall_some hcall
  split at h
  ·rename_i gg as hcal
   obtain⟨v,σ',h1,h2⟩:=callS_ok hE h
   split at h1
   ·rename_i r' hput
    have hce:=calleeS_ok (L:=[]) SubR.rfl' rfl hcal
    refine step_ok hh hr hdst (K:=fun res τ=>∃u,res=some u∧WV u v.den∧WH τ (SH.den σ')) ?_ fun res τ ι' w' a' hK hh' hr' hs' hd'=> ?_
    ·unfold stepOk
     rw[hop]
     simp only
     unfold callE at hce
     split at hce
     ·rename_i fv as0 e1 e2
      split at hce
      ·rename_i g' caps e3
       injection hce with hce
       injection hce with e4 e5
       subst e4
       try rw[e1,e2]
       try simp only[e3]
       rw[e5]
       exact h2.mono fun u τ hu=>⟨u,rfl,hu⟩
      ·cases hce
     ·cases hce
    ·obtain⟨u,rfl,hu1,hu2⟩:=hK
     refine hn _ _ h1 _ _ _ _ _ ?_ hh' hr' hs' hd'
     exact(ghost_weak (((putR_weak (ρ:=r.den) (d:=o.dst) (a:=some u) (b:=some v.den) hu1).trans_sub (put_sub (v:=some v) SubR.rfl' rfl hput)).trans_sub (kill_sub _ _)) hu2).tr (ghost_weak WR.rfl' (norm_weak _))
   ·cases h1
  ·cases h
 ·rename_i hcall
  split at h
  ·rename_i p v σ' hop
   split at h
   ·rename_i r' hput
    cases p with
    |false=>cases h
    |true=>
     have hst:=opS_step hE.ty (L:=[]) SubR.rfl' rfl hcall hop
     refine step_ok hh hr hdst hst fun res τ ι' w' a' hK hh' hr' hs' hd'=> ?_
     refine hn _ _ h _ _ _ _ _ ?_ hh' hr' hs' hd'
     refine(hK.ghost r.den o.dst n0).tr (ghost_weak ?_ (nrm_weak _ _))
     exact((put_sub SubR.rfl' rfl hput).wr).trans_sub (kill_sub _ _)
   ·cases h
  ·cases h
theorem opsS_ok{E:Env}(hE:EnvOk P E){yk:Option YI}(hyk:YldOk P n0 E yk){β:Type}{ops:Array Oper}{ι0:Map}{σ0:Heap}{w0:World}{ds:DS}(h0:HR ι0 σ0 w0)(hn0:σ0.length≤n0)(hY:∀y,yk=some y→ExOk y ι0.ex w0∧∀p∈ds.S,p.1≠ι0.ex.l){K:SR→SH→Option β}{b:β}:
  ∀(os:List Oper) (cs:List COp) (ks:List (List Nat)),stripOps ops os ks=some cs→∀(k:Nat),os=ops.toList.drop k→∀{r:SR} {σ:SH},opsS E N cs r σ K=some b→
   ∀{ι:Map} {w:World} {a:Act} {ms:List Deferred},HR ι (SH.den σ) w→RegR N ι w r.den a→Step ι0 σ0 w0 ι (SH.den σ) w→a.defers=ms++ds.l→MarksF ds w0.heap.size w ms→
   wpOpsIn (wr ro) 0 P ops (postF N (fun e ρ τ=>e=.normal∧∃r' σ',WR ρ r'.den∧WH τ (SH.den σ')∧K r' σ'=some b) ι0 σ0 w0 ds) (List.range' k (ops.size - k)) a w
 |[],cs,ks,hst,k,hk,r,σ,h,ι,w,a,ms,hh,hr,hs,hd,hm=>by
  simp only[stripOps,Option.some.injEq]at hst
  subst hst
  have hlen:ops.toList.length≤k:=List.drop_eq_nil_iff.1 hk.symm
  have:ops.size - k=0:=by simp at hlen;omega
  rw[this]
  simp only[opsS]at h
  exact⟨trivial,r.den,SH.den σ,ι,ms,⟨rfl,r,SH.norm σ,WR.rfl',norm_weak σ,h⟩,hh,hr,hs,hd,hm⟩
 |o::os,cs,ks,hst,k,hk,r,σ,h,ι,w,a,ms,hh,hr,hs,hd,hm=>by
  simp only[stripOps]at hst
  split at hst
  ·rename_i g cs' hg hcs
   injection hst with hst
   subst hst
   have hlt:k<ops.size:=by
    have:(ops.toList.drop k).length=os.length+1:=by rw[←hk];rfl
    simp at this;omega
   have hok:ops[k]? =some o:=by
    have:(ops.toList.drop k)[0]? =some o:=by rw[←hk];rfl
    simpa using this
   have hos:os=ops.toList.drop (k+1):=by
    have:(ops.toList.drop k).tail=os:=by rw[←hk];rfl
    rw[←this];simp
   have hr':List.range' k (ops.size - k)=k::List.range' (k+1) (ops.size - (k+1)):=by
    have:ops.size - k=(ops.size - (k+1))+1:=by omega
    rw[this,List.range'_succ]
   rw[hr']
   simp only[wpOpsIn,hok]
   -- behind an operation:another description,then the rest
   have rest:∀{r':SR} {σ':SH},opsS E N cs' r' σ' K=some b→∀(ρ:Regs) (τ:Heap) {ι':Map} {w':World} {a':Act} {ms':List Deferred},GhostF N n0 ρ τ r'.den (SH.den σ')→HR ι' τ w'→RegR N ι' w' ρ a'→Step ι0 σ0 w0 ι' τ w'→a'.defers=ms'++ds.l→MarksF ds w0.heap.size w' ms'→
     wpOpsIn (wr ro) 0 P ops (postF N (fun e ρ τ=>e=.normal∧∃r' σ',WR ρ r'.den∧WH τ (SH.den σ')∧K r' σ'=some b) ι0 σ0 w0 ds) (List.range' (k+1) (ops.size - (k+1))) a' w':=fun h ρ τ _ _ _ _ hgh hh hr hs hd hm=>by
    obtain⟨ι2,h1,h2,h3⟩:=hgh _ _ _ hh hr
    exact opsS_ok hE hyk h0 hn0 hY os cs' _ hcs (k+1) hos h h1 h2 (h3 ι0 σ0 w0 h0 hn0 hs) hd hm
   simp only[opsS]at h
   split at h
   ·cases h
   ·rename_i hdst
    split at h
    ·
     rename_i ps u as hyl
     split at h
     ·rename_i R hready hbody
      have hgd:guardE ops r.den o.guard=some true:=by rw[←guardC_ok (all:=ops) (r:=r.den) (o:=o) hg];rfl
      have hw:=guard_ok hr hgd
      rw[hw]
      simp only[if_true]
      obtain⟨hyb,f,args,ts,caps,hop,hf,has⟩:=isYield_some hyl
      obtain⟨y,hy1,rfl,hyn,hpn,hbo⟩:=hyk ps u hyb
      obtain⟨hex,hS⟩:=hY y hy1
      obtain⟨hb1,hb2,hb3⟩:=bodyS_ok hbody
      obtain⟨Qb,hF,hQb⟩:=unitK_ok hbo h
      refine yield_ok hyn hb2 hpn h0 hn0 hex hS hh hr hs hm hop hf has (by simpa using hb1) (isReady_ok hready) hb3 hF (fun e ρ τ hq=> ?_) fun e b' m r2 σ2 ι2 w2 hq hje hh2 hreg hs2 hm2=> ?_
      ·obtain⟨r',σ',_,_,hk⟩:=hQb e ρ τ hq
       rw[jumpS_eq]at hk
       cases hj:jumpE e with
       |none=>rw[hj]at hk;cases hk
       |some _=>rfl
      ·obtain⟨r',σ',hw1,hw2,hk⟩:=hQb e r2 σ2 hq
       rw[jumpS_eq,hje]at hk
       simp only at hk
       split at hk
       ·rename_i r'' hput
        have hdf:(a.put o.dst (.bool b')).defers=a.defers:=by cases o.dst<;>rfl
        refine rest hk ((backS m r'++scalS r r).den.putR o.dst (some (SV.c (.bo b')).den)) σ2 ?_ hh2 ((back_scal hr hreg hw1).put (dst_ok hdst) (TR.bool b')) hs2 (hdf.trans hd) hm2
        exact(ghost_weak (((put_sub (v:=some (.c (.bo b'))) SubR.rfl' rfl hput).wr).trans_sub (kill_sub _ _)) hw2).tr (ghost_weak WR.rfl' (norm_weak _))
       ·cases hk
     ·cases h
    split at h
    ·
     have hgd:guardE ops r.den o.guard=some true:=by rw[←guardC_ok (all:=ops) (r:=r.den) (o:=o) hg];rfl
     have hw:=guard_ok hr hgd
     rw[hw]
     simp only[if_true]
     split at h
     ·rename_i f args hcall
      obtain⟨as',ts,hop,rfl⟩:=isCall_some hcall
      split at h
      ·rename_i gg as hcal
       obtain⟨v,σ',h1,h2⟩:=callS_ok hE h
       split at h1
       ·rename_i r' hput
        have hce:=calleeS_ok (L:=[]) SubR.rfl' rfl hcal
        refine step_ok hh hr hdst (K:=fun res τ=>∃u,res=some u∧WV u v.den∧WH τ (SH.den σ')) ?_ fun res τ ι' w' a' hK hh' hr' hs' hd'=> ?_
        ·unfold stepOk
         rw[hop]
         simp only
         unfold callE at hce
         split at hce
         ·rename_i fv as0 e1 e2
          split at hce
          ·rename_i g' caps e3
           injection hce with hce
           injection hce with e4 e5
           subst e4
           try rw[e1,e2]
           try simp only[e3]
           rw[e5]
           exact h2.mono fun u τ hu=>⟨u,rfl,hu⟩
          ·cases hce
         ·cases hce
        ·obtain⟨u,rfl,hu1,hu2⟩:=hK
         refine rest h1 _ _ ?_ hh' hr' (hs.trans hs') (hd'.trans hd) (hm.step hh hs')
         exact(ghost_weak (((putR_weak (ρ:=r.den) (d:=o.dst) (a:=some u) (b:=some v.den) hu1).trans_sub (put_sub (v:=some v) SubR.rfl' rfl hput)).trans_sub (kill_sub _ _)) hu2).tr (ghost_weak WR.rfl' (norm_weak _))
       ·cases h1
      ·cases h
     ·rename_i hcall
      split at h
      ·rename_i p v σ' hop
       split at h
       ·rename_i r' hput
        cases p with
        |false=>cases h
        |true=>
         have hst:=opS_step hE.ty (L:=[]) SubR.rfl' rfl hcall hop
         refine step_ok hh hr hdst hst fun res τ ι' w' a' hK hh' hr' hs' hd'=> ?_
         refine rest h _ _ ?_ hh' hr' (hs.trans hs') (hd'.trans hd) (hm.step hh hs')
         refine(hK.ghost r.den o.dst n0).tr (ghost_weak ?_ (nrm_weak _ _))
         exact((put_sub SubR.rfl' rfl hput).wr).trans_sub (kill_sub _ _)
       ·cases h
      ·cases h
    ·
     rename_i gd wnt
     split at h
     ·rename_i tg b' hget
      have hgd:=guardE_holds hg hget (ρ:=r.den) SubR.rfl'
      have hw:=guard_ok hr hgd
      rw[hw]
      have skip:∀{r':SR} {v:SV},r.holds ((gd,wnt)::tg)=false→r.put o.dst ((gd,wnt)::tg) (some v)=some r'→opsS E N cs' (r'.kill (ks.headD [])) σ K=some b→
        wpOpsIn (wr ro) 0 P ops (postF N (fun e ρ τ=>e=.normal∧∃r' σ',WR ρ r'.den∧WH τ (SH.den σ')∧K r' σ'=some b) ι0 σ0 w0 ds) (List.range' (k+1) (ops.size - (k+1))) (a.put o.dst undef) w:=fun hf hput h'=>by
       have hdf:(a.put o.dst undef).defers=a.defers:=by cases o.dst<;>rfl
       refine rest h' _ _ (ghost_weak ?_ WH.rfl') hh (hr.drop (dst_ok hdst)) hs (hdf.trans hd) hm
       exact((put_skip SubR.rfl' hf hput).wr).trans_sub (kill_sub _ _)
      split at h
      ·split at h
       ·
        cases hf:r.holds [(gd,wnt)] with
        |true=>
         rw[hf]at h
         simp only[cond_true]at h
         simp only[if_true]
         have hg2:=(SR.gget_get hget).2
         have hbw:=holds_one hg2 hf
         subst hbw
         refine stepU_ok (n0:=n0) hE h hdst hh (hr.sub (fix_den hg2 rfl)) fun r' σ' h' ρ τ ι' w' a' hgh hh' hr' hs' hd'=> ?_
         exact rest h' ρ τ hgh hh' hr' (hs.trans hs') (hd'.trans hd) (hm.step hh hs')
        |false=>
         rw[hf]at h
         simp only[cond_false]at h
         simp only[Bool.false_eq_true,if_false]
         have hg2:=(SR.gget_get hget).2
         have hbw:=holds_one' hg2 hf
         subst hbw
         split at h
         ·rename_i r' hput
          have hf2:(SR.fix gd (!wnt) r).holds [(gd,wnt)]=false:=by
           have:(SR.fix gd (!wnt) r).isB gd wnt=false:=by
            rw[fix_isB hg2]
            simpa [SR.holds] using hf
           simpa [SR.holds] using this
          refine⟨fun _ _=>trivial,?_⟩
          have hdf:(a.put o.dst undef).defers=a.defers:=by cases o.dst<;>rfl
          refine rest h _ _ (ghost_weak ?_ WH.rfl') hh ((hr.sub (fix_den hg2 rfl)).drop (dst_ok hdst)) hs (hdf.trans hd) hm
          exact((put_skip SubR.rfl' hf2 hput).wr).trans_sub (kill_sub _ _)
         ·cases h
       split at h
       ·rename_i r' hput
        cases hf:r.holds ((gd,wnt)::_) with
        |true=>rw[hf]at h;cases h
        |false=>
         rw[hf]at h
         simp only[Bool.false_eq_true,if_false]
         exact⟨fun _ _=>trivial,skip hf hput h⟩
       ·cases h
      split at h
      ·rename_i f args hcall
       obtain⟨as',ts,hop,rfl⟩:=isCall_some hcall
       split at h
       ·rename_i gg as hcal
        obtain⟨v,h1,h2⟩:=callG_ok hE h
        split at h1
        ·rename_i r' hput
         cases hf:r.holds ((gd,wnt)::tg) with
         |false=>
          simp only[Bool.false_eq_true,if_false]
          exact⟨fun _ _=>trivial,skip hf hput h1⟩
         |true=>
          simp only[if_true]
          have hce:=calleeS_ok SubR.rfl' hf hcal
          refine step_ok hh hr hdst (K:=fun res τ=>∃u,res=some u∧WV u v.den∧WH τ (SH.den σ)) ?_ fun res τ ι' w' a' hK hh' hr' hs' hd'=> ?_
          ·unfold stepOk
           rw[hop]
           simp only
           unfold callE at hce
           split at hce
           ·rename_i fv as0 e1 e2
            split at hce
            ·rename_i g' caps e3
             injection hce with hce
             injection hce with e4 e5
             subst e4
             try rw[e1,e2]
             try simp only[e3]
             rw[e5]
             exact(h2 hf).mono fun u τ hu=>⟨u,rfl,hu⟩
            ·cases hce
           ·cases hce
          ·obtain⟨u,rfl,hu1,hu2⟩:=hK
           refine rest h1 _ _ ?_ hh' hr' (hs.trans hs') (hd'.trans hd) (hm.step hh hs')
           exact ghost_weak (((putR_weak (ρ:=r.den) (d:=o.dst) (a:=some u) (b:=some v.den) hu1).trans_sub (put_sub (v:=some v) SubR.rfl' hf hput)).trans_sub (kill_sub _ _)) hu2
        ·cases h1
       ·cases h
      ·rename_i hcall
       split at h
       ·rename_i p v σ' hq hop
        have hσ:=quiet_heap hq hop
        subst hσ
        split at h
        ·rename_i r' hput
         cases hf:r.holds ((gd,wnt)::tg) with
         |false=>
          rw[hf]at h
          simp only[Bool.not_false,Bool.or_true,cond_true]at h
          simp only[Bool.false_eq_true,if_false]
          exact⟨fun _ _=>trivial,skip hf hput h⟩
         |true=>
          rw[hf]at h
          simp only[if_true]
          cases p with
          |false=>cases h
          |true=>
           have hst:=opS_step hE.ty SubR.rfl' hf hcall hop
           refine step_ok hh hr hdst hst fun res τ ι' w' a' hK hh' hr' hs' hd'=> ?_
           refine rest h _ _ ?_ hh' hr' (hs.trans hs') (hd'.trans hd) (hm.step hh hs')
           refine(hK.ghost r.den o.dst n0).tr (ghost_weak ?_ WH.rfl')
           exact((put_sub (v:=some v) SubR.rfl' hf hput).wr).trans_sub (kill_sub _ _)
        ·cases h
       ·cases h
     ·cases h
  ·cases hst
end
end Go.Abs
