/-
  What the proof stands on.
-/
import Derived.Test.YtddaobhpffpmoaaSR6QMs
set_option linter.all false
namespace Go.Abs
variable [Gl]
theorem eqB{a b:Nat}(h:Nat.beq a b=true):a=b:=Nat.eq_of_beq_eq_true h
theorem leB'{a b:Nat}(h:Nat.ble a b=true):a≤b:=Nat.le_of_ble_eq_true h
theorem ltB{a b:Nat}(h:Nat.blt a b=true):a<b:=Nat.le_of_ble_eq_true h
theorem scOfT_den{t:T}{c:SC}(h:scOfT t=some c):c.den=.t t:=by
 unfold scOfT at h
 split at h<;>first|(injection h with h;subst h;rfl)|cases h
theorem scOfTs_den:∀{z:List T} {cs:List SC},mapO scOfT z=some cs→cs.map SC.den=z.map .t
 |[],cs,h=>by simp only[mapO,Option.some.injEq]at h;subst h;rfl
 |t::z,cs,h=>by
  simp only[mapO]at h
  split at h
  ·rename_i y ys h1 h2
   injection h with h
   subst h
   simp[scOfT_den h1,scOfTs_den h2]
  ·cases h
theorem Ly.view_den:∀(c:Ly) (x:c.ty),(c.view x).map SC.den=(c.trees x).map .t
 |.int _,_=>rfl
 |.bool,_=>rfl
 |.str,_=>rfl
 |.sl _,_=>rfl
 |.pair a b,x=>by simp only[Ly.view,Ly.trees,List.map_append,a.view_den,b.view_den]
theorem castL_flat{a b:Ly}(h:a.beq b=true)(xs:List a.ty):(Ly.castL h xs).flatMap b.trees=xs.flatMap a.trees:=by
 have e:=Ly.beq_eq h
 subst e
 rfl
theorem castL_length{a b:Ly}(h:a.beq b=true)(xs:List a.ty):(Ly.castL h xs).length=xs.length:=by
 have e:=Ly.beq_eq h
 subst e
 rfl
theorem beq_size{a b:Ly}(h:a.beq b=true):a.size=b.size:=by rw[Ly.beq_eq h]
theorem flat_length(c:Ly):∀(xs:List c.ty),(xs.flatMap c.trees).length=xs.length*c.size
 |[]=>by simp
 |x::xs=>by simp only[List.flatMap_cons,List.length_append,c.trees_length,flat_length c xs,List.length_cons,Nat.succ_mul];omega
theorem flat_drop(c:Ly):∀(n:Nat) (xs:List c.ty),(xs.flatMap c.trees).drop (n*c.size)=(xs.drop n).flatMap c.trees
 |0,_=>by simp
 |n+1,[]=>by simp
 |n+1,x::xs=>by
  rw[List.flatMap_cons,List.drop_succ_cons,←flat_drop c n xs,List.drop_append,c.trees_length]
  have h1:(n+1)*c.size - c.size=n*c.size:=by rw[Nat.succ_mul];omega
  have h2:(c.trees x).drop ((n+1)*c.size)=[]:=List.drop_eq_nil_of_le (by rw[c.trees_length,Nat.succ_mul];omega)
  rw[h1,h2,List.nil_append]
theorem flat_take(c:Ly):∀(n:Nat) (xs:List c.ty),(xs.flatMap c.trees).take (n*c.size)=(xs.take n).flatMap c.trees
 |0,_=>by simp
 |n+1,[]=>by simp
 |n+1,x::xs=>by
  rw[List.flatMap_cons,List.take_succ_cons,List.flatMap_cons,←flat_take c n xs,List.take_append,c.trees_length]
  have h1:(n+1)*c.size - c.size=n*c.size:=by rw[Nat.succ_mul];omega
  have h2:(c.trees x).take ((n+1)*c.size)=c.trees x:=List.take_of_length_le (by rw[c.trees_length,Nat.succ_mul];omega)
  rw[h1,h2]
theorem drop_at{α:Type}{xs:List α}{k:Nat}{d:α}(h:k<xs.length):xs.drop k=(xs[k]?).getD d::xs.drop (k+1):=by
 rw[List.drop_eq_getElem_cons h]
 simp[h]
theorem flat_at(c:Ly){xs:List c.ty}{k:Nat}(h:k<xs.length):(xs.flatMap c.trees).drop (k*c.size)=c.trees ((xs[k]?).getD c.dflt)++(xs.drop (k+1)).flatMap c.trees:=by
 rw[flat_drop,drop_at (d:=c.dflt) h,List.flatMap_cons]
theorem Ly.enc_ok{ex:Bool}:∀{c:Ly} {l:List SC} {x:c.ty},c.enc ex l=some x→WL (l.map SC.den) ((c.trees x).map .t)∧(ex=true→l.map SC.den=(c.trees x).map .t)
 |.int k,l,x,h=>by
  simp only[Ly.enc,encInt]at h
  split at h
  ·split at h
   ·rename_i hk
    injection h with h
    subst h
    rw[kindB_eq hk]
    exact⟨WL.rfl',fun _=>rfl⟩
   ·cases h
  ·cases h
 |.bool,l,x,h=>by
  simp only[Ly.enc,encBool]at h
  split at h
  ·injection h with h
   subst h
   exact⟨WL.rfl',fun _=>rfl⟩
  ·cases h
 |.str,l,x,h=>by
  simp only[Ly.enc,encStr]at h
  split at h
  ·injection h with h
   subst h
   exact⟨WL.rfl',fun _=>rfl⟩
  ·cases h
 |.sl c,l,x,h=>by
  simp only[Ly.enc,encSl]at h
  split at h
  ·rename_i c' xs cap
   split at h
   ·rename_i hb
    have key:∀y,y=Ly.castL hb xs→WL ([SC.arr c' xs cap].map SC.den) (((Ly.sl c).trees y).map .t):=fun y hy=>by
     subst hy
     simp only[List.map_cons,List.map_nil,SC.den,Ly.trees,castL_flat,castL_length]
     exact⟨.t (.cap _ _ _),trivial⟩
    split at h
    ·injection h with h
     refine⟨key x h.symm,fun _=> ?_⟩
     subst h
     simp only[List.map_cons,List.map_nil,SC.den,Ly.trees,castL_flat,castL_length]
    ·split at h
     ·cases h
     ·injection h with h
      exact⟨key x h.symm,fun hex=>by cases hex⟩
   ·cases h
  ·split at h
   ·cases h
   ·injection h with h
    subst h
    exact⟨⟨.t (.cap _ _ _),trivial⟩,fun hex=>by cases hex⟩
  ·cases h
 |.pair a b,l,x,h=>by
  simp only[Ly.enc]at h
  split at h
  ·rename_i y z h1 h2
   injection h with h
   subst h
   obtain⟨h3,h4⟩:=Ly.enc_ok h1
   obtain⟨h5,h6⟩:=Ly.enc_ok h2
   have e:l.map SC.den=(l.take a.size).map SC.den++(l.drop a.size).map SC.den:=by rw[←List.map_append,List.take_append_drop]
   refine⟨?_,fun hex=> ?_⟩
   ·rw[e]
    simp only[Ly.trees,List.map_append]
    exact h3.append h5
   ·rw[e,h4 hex,h6 hex]
    simp only[Ly.trees,List.map_append]
  ·cases h
theorem encL_ok{ex:Bool}{c:Ly}:∀{n:Nat} {l:List SC} {xs:List c.ty},encL ex c n l=some xs→xs.length=n∧WL (l.map SC.den) ((xs.flatMap c.trees).map .t)∧(ex=true→l.map SC.den=(xs.flatMap c.trees).map .t)
 |0,[],xs,h=>by
  simp only[encL,Option.some.injEq]at h
  subst h
  exact⟨rfl,WL.rfl',fun _=>rfl⟩
 |0,_::_,xs,h=>by cases h
 |n+1,l,xs,h=>by
  simp only[encL]at h
  split at h
  ·rename_i y ys h1 h2
   injection h with h
   subst h
   obtain⟨h3,h4⟩:=Ly.enc_ok h1
   obtain⟨h5,h6,h7⟩:=encL_ok h2
   have e:l.map SC.den=(l.take c.size).map SC.den++(l.drop c.size).map SC.den:=by rw[←List.map_append,List.take_append_drop]
   refine⟨by simp[h5],?_,fun hex=> ?_⟩
   ·rw[e,List.flatMap_cons,List.map_append]
    exact h3.append h6
   ·rw[e,List.flatMap_cons,List.map_append,h4 hex,h7 hex]
  ·cases h
theorem eqTg_eq:∀{a b:Tg},eqTg a b=true→a=b
 |[],[],_=>rfl
 |[],_::_,h=>by cases h
 |_::_,[],h=>by cases h
 |(a,x)::l,(b,y)::m,h=>by
  simp only[eqTg]at h
  split at h
  ·rename_i h1
   rw[eqB h1]
   cases x<;>cases y<;>simp only at h<;>first|(rw[eqTg_eq h])|cases h
  ·cases h
theorem SR.holds_cons{r:SR}{x:Nat×Bool}{l:Tg}:r.holds (x::l)=(r.holds l&&r.isB x.1 x.2):=by
 obtain⟨t,w⟩:=x
 cases l with
 |nil=>simp[SR.holds]
 |cons y l=>rfl
theorem suf_holds{r:SR}{a:Tg}:∀{L:Tg},sufB a L=true→r.holds L=true→r.holds a=true
 |[],h,hL=>by
  simp only[sufB]at h
  split at h
  ·rfl
  ·cases h
 |x::L,h,hL=>by
  simp only[sufB]at h
  split at h
  ·rfl
  ·split at h
   ·rename_i he;rw[eqTg_eq he];exact hL
   ·rw[SR.holds_cons,Bool.and_eq_true]at hL
    exact suf_holds h hL.1
theorem SR.den_get{r:SR}{t:Nat}{tg:Tg}{v:SV}(h:r.get t=some (tg,v)):r.den.get t=some (r.dv tg v):=by
 unfold SR.den
 suffices∀(l:SR),l.get t=some (tg,v)→Regs.get (l.map r.den1) t=some (r.dv tg v) from this r h
 intro l hl
 induction l with
 |nil=>simp[SR.get]at hl
 |cons p l ih=>
  obtain⟨k,q⟩:=p
  simp only[SR.get]at hl
  simp only[List.map_cons,SR.den1,Regs.get]
  split at hl
  ·rename_i hk
   rw[if_pos (eqB hk)]
   injection hl with hl
   subst hl
   rfl
  ·rename_i hk
   rw[if_neg (fun e=>by subst e;simp at hk)]
   exact ih hl
theorem SR.den_get'{r:SR}{t:Nat}{tg:Tg}{v:SV}(h:r.get t=some (tg,v))(hh:r.holds tg=true):r.den.get t=some v.den:=by
 rw[SR.den_get h]
 cases tg with
 |nil=>rfl
 |cons x l=>simp only[SR.dv,hh,cond_true]
theorem SR.gget_get{r:SR}{t:Nat}{x:Tg×SV}(h:r.gget t=some x):t<BIG∧r.get t=some x:=by
 unfold SR.gget at h
 split at h
 ·cases h
 ·rename_i hb
  refine⟨?_,h⟩
  apply Classical.byContradiction
  intro hn
  rw[Nat.ble_eq_true_of_le (by omega)]at hb
  cases hb
theorem SR.den_none{r:SR}{t:Nat}(h:r.get t=none):r.den.get t=none:=by
 unfold SR.den
 suffices∀(l:SR),l.get t=none→Regs.get (l.map r.den1) t=none from this r h
 intro l hl
 induction l with
 |nil=>rfl
 |cons p l ih=>
  obtain⟨k,q⟩:=p
  simp only[SR.get]at hl
  simp only[List.map_cons,SR.den1,Regs.get]
  split at hl
  ·cases hl
  ·rename_i hk
   rw[if_neg (fun e=>by subst e;simp at hk)]
   exact ih hl
section
variable {r:SR}{L:Tg}{ρ:Regs}
theorem constSV_den{v:Value}{x:SV}(h:constSV v=some x):constAV v=some x.den:=by
 unfold constSV at h
 split at h
 ·rename_i t ht
  rw[Option.map_eq_some_iff]at h
  obtain⟨c,h1,rfl⟩:=h
  rw[ht]
  simp[SV.den,scOfT_den h1]
 ·rename_i cs hcs
  rw[Option.map_eq_some_iff]at h
  obtain⟨ys,h1,rfl⟩:=h
  rw[hcs]
  have:∀{cs:List Cell} {ys:List SC},mapO (fun|.t t=>scOfT t|_=>none) cs=some ys→ys.map SC.den=cs:=fun{cs}=>by
   induction cs with
   |nil=>intro ys h;simp only[mapO,Option.some.injEq]at h;subst h;rfl
   |cons c cs ih=>
    intro ys h
    simp only[mapO]at h
    split at h
    ·rename_i y ys' h2 h3
     injection h with h
     subst h
     cases c with
     |t t=>simp[scOfT_den h2,ih h3]
     |_=>cases h2
    ·cases h
  simp[SV.den,this h1]
 ·cases h
theorem evS_ok(hρ:SubR ρ r.den)(hL:r.holds L=true){x:Operand}{v:SV}(h:evS r L x=some v):ev ρ x=some v.den:=by
 cases x with
 |tmp t=>
  simp only[evS,SR.at]at h
  split at h
  ·rename_i tg v' h1
   split at h
   ·rename_i hs
    injection h with h
    subst h
    exact Regs.at_of (hρ _ _ (SR.den_get' (SR.gget_get h1).2 (suf_holds hs hL))) (SR.gget_get h1).1
   ·cases h
  ·cases h
 |const c=>exact constSV_den h
 |func f=>simp only[evS,Option.some.injEq]at h;subst h;rfl
 |global g=>
  simp only[evS]at h
  split at h
  ·rename_i c x hg
   injection h with h
   subst h
   simp only[ev,hg,SV.den,SC.den,List.drop_zero]
  ·cases h
theorem evlS_ok(hρ:SubR ρ r.den)(hL:r.holds L=true):∀{xs:List Operand} {vs:List SV},evlS r L xs=some vs→evl ρ xs=some (vs.map SV.den)
 |[],vs,h=>by simp only[evlS,Option.some.injEq]at h;subst h;rfl
 |x::xs,vs,h=>by
  simp only[evlS]at h
  split at h
  ·rename_i v vs' h1 h2
   injection h with h
   subst h
   simp[evl,evS_ok hρ hL h1,evlS_ok hρ hL h2]
  ·cases h
theorem evsS_ok(hρ:SubR ρ r.den)(hL:r.holds L=true):∀{xs:List (Nat×Operand)} {vs:List (Nat×SV)},evsS r L xs=some vs→evs ρ xs=some (vs.map fun x=>(x.1,x.2.den))
 |[],vs,h=>by simp only[evsS,Option.some.injEq]at h;subst h;rfl
 |(i,x)::xs,vs,h=>by
  simp only[evsS]at h
  split at h
  ·rename_i v vs' h1 h2
   injection h with h
   subst h
   simp[evs,evS_ok hρ hL h1,evsS_ok hρ hL h2]
  ·cases h
theorem evoS_ok(hρ:SubR ρ r.den)(hL:r.holds L=true){x:Option Operand}{v:Option SV}(h:evoS r L x=some v):evo ρ x=some (v.map SV.den):=by
 cases x with
 |none=>simp only[evoS,Option.some.injEq]at h;subst h;rfl
 |some x=>
  simp only[evoS,Option.map_eq_some_iff]at h
  obtain⟨u,h1,rfl⟩:=h
  simp[evo,evS_ok hρ hL h1]
end
theorem SV.den_c(x:SC):(SV.c x).den=.c x.den:=rfl
theorem SC.den_bo(x:Bool):(SC.bo x).den=.t (.bool x):=rfl
theorem SC.den_ptr(id off:Nat):(SC.ptr id off).den=.ptr ⟨id,0,off⟩:=rfl
theorem SC.den_fn(f:FuncId):(SC.fn f).den=.t (.fn f []):=rfl
theorem SC.den_clo(f:FuncId)(rs:List Ref):(SC.clo f rs).den=.clo f rs:=rfl
theorem SV.cells_den(v:SV):v.den.cells=v.cells.map SC.den:=by cases v<;>rfl
theorem SV.flat_den(v:SV):v.den.flat=v.flat:=by cases v<;>rfl
end Go.Abs
namespace Go.Abs
variable [Gl]
structure TyOk(P:Program)(ty:TyT):Prop where
 ok:∀t i c,ty t=some (i,c)→tinf P t=some i
 lay:∀t i c,ty t=some (i,some c)→i.size=c.size∧∃z,i.zero=some z∧WL (z.map .t) ((c.trees c.dflt).map .t)
theorem SH.den_get{σ:SH}{id:Nat}{o:SO}(h:σ[id]? =some o):(SH.den σ)[id]? =some o.den:=by
 simp[SH.den,h]
theorem SH.den_length(σ:SH):(SH.den σ).length=σ.length:=by simp[SH.den]
theorem SH.den_set(σ:SH)(id:Nat)(o:SO):SH.den (σ.set id o)=(SH.den σ).set id o.den:=by simp[SH.den,List.map_set]
theorem SH.den_push(σ:SH)(o:SO):SH.den (σ++[o])=SH.den σ++[o.den]:=by simp[SH.den]
theorem SH.den_at{σ:SH}{r:Ref}{o:SO}(h:σ[r.id]? =some o)(he:o.den.ep=r.ep):(SH.den σ).at? r=some o.den:=by
 simp only[Heap.at?,SH.den_get h]
 rw[if_pos he]
theorem splice_den(cs:List SC)(off:Nat)(xs:List SC):(spliceS cs off xs).map SC.den=splice (cs.map SC.den) off (xs.map SC.den):=by
 simp[spliceS,splice,List.map_take,List.map_drop]
section
variable {P:Program}{ty:TyT}{σ:SH}
theorem loadCS_ok{i:TInf}{cs:List SC}{v:SV}(h:loadCS i cs=some v):loadC i (cs.map SC.den)=some v.den:=by
 unfold loadCS at h
 unfold loadC
 split at h
 ·rename_i hi
  split at h
  ·rename_i hl
   injection h with h
   subst h
   simp[hi,leB' hl,SV.den,List.map_take]
  ·cases h
 ·rename_i hi
  rw[if_neg (by simp[hi])]
  cases cs with
  |nil=>cases h
  |cons c cs=>injection h with h;subst h;rfl
theorem loadC_more{i:TInf}{cs ds:List Cell}(hi:0<i.size∨i.isAgg=true)(hl:i.size≤cs.length)(h0:i.isAgg=false→i.size=1):loadC i (cs++ds)=loadC i cs:=by
 unfold loadC
 by_cases ha:i.isAgg=true
 ·simp only[ha,if_true]
  rw[if_pos (by simp;omega),if_pos hl,List.take_append_of_le_length hl]
 ·simp only[ha,Bool.false_eq_true,if_false]
  have h1:=h0 (by simpa using ha)
  cases cs with
  |nil=>simp at hl;omega
  |cons c cs=>rfl
theorem loadCS_some{i:TInf}{cs:List SC}{v:SV}(h:loadCS i cs=some v){ds:List Cell}:loadC i (cs.map SC.den++ds)=some v.den:=by
 have h':=loadCS_ok h
 unfold loadCS at h
 split at h
 ·rename_i ha
  split at h
  ·rename_i hl
   rw[loadC_more (.inr ha) (by simpa using leB' hl) (by simp[ha])]
   exact h'
  ·cases h
 ·rename_i ha
  cases cs with
  |nil=>cases h
  |cons c cs=>simpa [loadC,ha] using h'
theorem den_drop(cs:List SC)(n:Nat):(cs.map SC.den).drop n=(cs.drop n).map SC.den:=by simp
theorem view_drop(c:Ly)(x:c.ty)(off:Nat):((c.trees x).drop off).map Cell.t=((c.view x).drop off).map SC.den:=by
 rw[List.map_drop,←c.view_den,←List.map_drop]
theorem loadS_ok{i:TInf}{a:SC}{v:SV}(h:loadS σ i a=some (true,v)):loadE (SH.den σ) i (.c a.den)=some v.den:=by
 unfold loadS at h
 split at h
 ·
  rename_i id off
  split at h
  ·rename_i cs es ep ho
   split at h
   ·rename_i he
    rw[Option.map_eq_some_iff]at h
    obtain⟨u,h1,h2⟩:=h
    injection h2 with _ h2
    subst h2
    have hat:(SH.den σ).at? ⟨id,0,off⟩=some (SO.st cs es ep).den:=SH.den_at ho (eqB he)
    simp only[SC.den,loadE,hat]
    show loadC i ((cs.map SC.den).drop off)=_
    rw[den_drop]
    exact loadCS_ok h1
   ·cases h
  ·cases h
 ·
  rename_i id ep es k off
  split at h
  ·rename_i c xs ep' ho
   split at h
   ·rename_i he hs
    split at h
    ·rename_i hb
     rw[Option.map_eq_some_iff]at h
     obtain⟨u,h1,h2⟩:=h
     injection h2 with h3 h2
     subst h2
     have hk:k<xs.length:=by simpa using h3
     have hat:(SH.den σ).at? ⟨id,ep,k*es+off⟩=some (SO.arr c xs ep').den:=SH.den_at ho (eqB he)
     simp only[SC.den,loadE,hat]
     show loadC i (((xs.flatMap c.trees).map Cell.t).drop (k*es+off))=_
     have hb':=leB' hb
     rw[eqB hs,←List.drop_drop,←List.map_drop,flat_at c hk,←List.map_drop,List.drop_append_of_le_length (by rw[c.trees_length];omega),List.map_append,view_drop]
     exact loadCS_some h1
    ·cases h
   ·cases h
  ·rename_i cs es' ep' ho
   split at h
   ·rename_i he hs
    rw[Option.map_eq_some_iff]at h
    obtain⟨u,h1,h2⟩:=h
    injection h2 with _ h2
    subst h2
    have hat:(SH.den σ).at? ⟨id,ep,k*es+off⟩=some (SO.st cs es' ep').den:=SH.den_at ho (eqB he)
    simp only[SC.den,loadE,hat]
    show loadC i ((cs.map SC.den).drop _)=_
    rw[den_drop]
    exact loadCS_ok h1
   ·cases h
  ·rename_i c xs cs ys ep' ho
   split at h
   ·rename_i he hs hb
    rw[Option.map_eq_some_iff]at h
    obtain⟨u,h1,h2⟩:=h
    injection h2 with hk h2
    subst h2
    have hk:k=xs.length:=by simpa [eqN] using hk
    have hat:(SH.den σ).at? ⟨id,ep,k*es+off⟩=some (SO.opn c xs cs ys ep').den:=SH.den_at ho (eqB he)
    simp only[SC.den,loadE,hat]
    show loadC i (((xs.flatMap c.trees).map Cell.t++(cs.map SC.den++(ys.flatMap c.trees).map Cell.t)).drop _)=_
    have hl:((xs.flatMap c.trees).map Cell.t).length=k*es:=by rw[List.length_map,flat_length,hk,eqB hs]
    rw[List.drop_append,hl,List.drop_eq_nil_of_le (by rw[hl];omega),List.nil_append,show k*es+off - k*es=off by omega,List.drop_append_of_le_length (by rw[List.length_map];have:=leB' hb;omega),den_drop]
    have h3:=loadCS_ok h1
    have hb':=leB' hb
    unfold loadC at h3⊢
    split
    ·rename_i hag
     rw[if_pos hag]at h3
     split at h3
     ·rename_i hle
      rw[if_pos (by rw[List.length_append];omega),List.take_append_of_le_length hle]
      exact h3
     ·cases h3
    ·rename_i hag
     rw[if_neg hag]at h3
     split at h3
     ·rename_i d ds hd
      rw[hd]
      exact h3
     ·cases h3
   ·cases h
  ·cases h
 ·
  rename_i c x off
  split at h
  ·rw[Option.map_eq_some_iff]at h
   obtain⟨u,h1,h2⟩:=h
   injection h2 with _ h2
   subst h2
   simp only[SC.den,loadE]
   rw[view_drop]
   exact loadCS_ok h1
  ·cases h
 ·
  rename_i c xs k off
  split at h
  ·rename_i hb
   rw[Option.map_eq_some_iff]at h
   obtain⟨u,h1,h2⟩:=h
   injection h2 with _ h2
   subst h2
   have hb':=leB' hb
   simp only[SC.den,loadE]
   rw[List.drop_append_of_le_length (by rw[c.trees_length];omega),List.map_append,view_drop]
   exact loadCS_some h1
  ·cases h
 ·cases h
theorem flat_set(c:Ly)(y:c.ty):∀(xs:List c.ty) (k:Nat),k<xs.length→((xs.set k y).flatMap c.trees)=(xs.flatMap c.trees).take (k*c.size)++c.trees y++(xs.flatMap c.trees).drop (k*c.size+c.size)
 |x::xs,0,_=>by
  simp only[List.set_cons_zero,List.flatMap_cons,Nat.zero_mul,List.take_zero,List.nil_append,Nat.zero_add]
  rw[List.drop_append,c.trees_length,List.drop_eq_nil_of_le (by rw[c.trees_length];exact Nat.le_refl _)]
  simp
 |x::xs,k+1,h=>by
  have ih:=flat_set c y xs k (by simpa using h)
  simp only[List.set_cons_succ,List.flatMap_cons,ih]
  rw[List.take_append,List.drop_append,c.trees_length]
  have h1:(k+1)*c.size - c.size=k*c.size:=by rw[Nat.succ_mul];omega
  have h2:(k+1)*c.size+c.size - c.size=k*c.size+c.size:=by rw[Nat.succ_mul];omega
  have h3:(c.trees x).take ((k+1)*c.size)=c.trees x:=List.take_of_length_le (by rw[c.trees_length,Nat.succ_mul];omega)
  have h4:(c.trees x).drop ((k+1)*c.size+c.size)=[]:=List.drop_eq_nil_of_le (by rw[c.trees_length,Nat.succ_mul];omega)
  rw[h1,h2,h3,h4]
  simp[List.append_assoc]
theorem WL.take{a b:List Cell}(h:WL a b)(n:Nat):WL (a.take n) (b.take n):=
 WL.of_get (by simp[h.length]) fun i hi hi'=>by simp only[List.getElem_take];exact h.get _ _
theorem WL.drop{a b:List Cell}(h:WL a b)(n:Nat):WL (a.drop n) (b.drop n):=
 WL.of_get (by simp[h.length]) fun i hi hi'=>by simp only[List.getElem_drop];exact h.get _ _
theorem splice_elem{c:Ly}{xs:List c.ty}{k off:Nat}(hk:k<xs.length){vs:List Cell}(hb:off+vs.length≤c.size):
  splice ((xs.flatMap c.trees).map .t) (k*c.size+off) vs=((xs.flatMap c.trees).map .t).take (k*c.size)++splice ((c.trees ((xs[k]?).getD c.dflt)).map .t) off vs++((xs.flatMap c.trees).map .t).drop (k*c.size+c.size):=by
 have hlen:((xs.flatMap c.trees).map Cell.t).length=xs.length*c.size:=by rw[List.length_map,flat_length]
 have hle:(k+1)*c.size≤xs.length*c.size:=Nat.mul_le_mul_right _ hk
 rw[Nat.succ_mul]at hle
 have hsplit:(xs.flatMap c.trees).map Cell.t=((xs.flatMap c.trees).map Cell.t).take (k*c.size)++((c.trees ((xs[k]?).getD c.dflt)).map Cell.t++((xs.drop (k+1)).flatMap c.trees).map Cell.t):=by
  rw[←List.map_append,←flat_at c hk,List.map_drop,List.take_append_drop]
 have htk:(((xs.flatMap c.trees).map Cell.t).take (k*c.size)).length=k*c.size:=by rw[List.length_take,hlen];omega
 have htl:((c.trees ((xs[k]?).getD c.dflt)).map Cell.t).length=c.size:=by rw[List.length_map,c.trees_length]
 have hrest:((xs.drop (k+1)).flatMap c.trees).map Cell.t=((xs.flatMap c.trees).map Cell.t).drop (k*c.size+c.size):=by
  rw[←Nat.succ_mul,←List.map_drop,flat_drop]
 generalize ((xs.flatMap c.trees).map Cell.t).take (k*c.size)=A at hsplit htk⊢
 rw[←hrest]
 generalize (c.trees ((xs[k]?).getD c.dflt)).map Cell.t=B at hsplit htl⊢
 generalize ((xs.drop (k+1)).flatMap c.trees).map Cell.t=C at hsplit⊢
 rw[hsplit]
 unfold splice
 rw[List.take_append,List.drop_append,htk,List.take_append,List.drop_append,htl]
 have e1:k*c.size+off - k*c.size=off:=by omega
 have e2:k*c.size+off+vs.length - k*c.size=off+vs.length:=by omega
 have e3:off - c.size=0:=by omega
 have e4:off+vs.length - c.size=0:=by omega
 rw[e1,e2,e3,e4,List.take_of_length_le (by omega),List.drop_eq_nil_of_le (by omega:A.length≤k*c.size+off+vs.length)]
 simp[List.append_assoc]
theorem splice_all{cs vs:List Cell}(h:vs.length=cs.length):splice cs 0 vs=vs:=by
 simp[splice,h]
theorem splice_mid{A B C vs:List Cell}{k off:Nat}(hA:A.length=k)(hb:off+vs.length≤B.length):splice (A++(B++C)) (k+off) vs=A++(splice B off vs++C):=by
 unfold splice
 rw[List.take_append,List.drop_append,hA,List.take_append,List.drop_append]
 have e1:k+off - k=off:=by omega
 have e2:k+off+vs.length - k=off+vs.length:=by omega
 have e3:off - B.length=0:=by omega
 have e4:off+vs.length - B.length=0:=by omega
 rw[e1,e2,e3,e4,List.take_of_length_le (by omega),List.drop_eq_nil_of_le (by omega:A.length≤k+off+vs.length)]
 simp[List.append_assoc]
inductive Out(ex:Bool)(σ:Heap):Option AV→Heap→Option AV→Heap→Prop
 |weak {a b:Option AV} {τ τ':Heap}:WVO a b→WH τ τ'→(ex=true→a=b∧τ=τ')→Out ex σ a τ b τ'
 |own (es:Nat):ex=false→Out ex σ (some (.c (.t (.imm [] 0 (some 0))))) σ (some (.c (.sl ⟨σ.length,0,0⟩ 0 none))) (σ++[{ cs:=[],es:=es }])
theorem Out.same{ex:Bool}{σ:Heap}{a:Option AV}{τ:Heap}:Out ex σ a τ a τ:=.weak WVO.rfl' WH.rfl' fun _=>⟨rfl,rfl⟩
theorem storeS_ok{ex:Bool}{i:TInf}{a:SC}{v:SV}{σ':SH}(h:storeS ex σ i a v=some (true,σ')):
  ∃τ,storeE (SH.den σ) i (.c a.den) v.den=some τ∧WH τ (SH.den σ')∧(ex=true→τ=SH.den σ'):=by
 unfold storeS at h
 split at h
 ·rename_i hf hc
  have hf':v.den.flat=true:=by rw[SV.flat_den];exact hf
  have hc':v.den.cells.length=i.size:=by rw[SV.cells_den,List.length_map];exact eqB hc
  split at h
  ·rename_i id off
   split at h
   ·rename_i cs es ep ho
    split at h
    ·rename_i he hb
     injection h with h
     injection h with _ h
     subst h
     have hat:(SH.den σ).at? ⟨id,0,off⟩=some (SO.st cs es ep).den:=SH.den_at ho (eqB he)
     refine⟨_,?_,WH.rfl',fun _=>rfl⟩
     simp only[SC.den,storeE,hat]
     rw[if_pos ⟨hf',hc',by simpa [SO.den] using leB' hb⟩,SH.den_set]
     simp[SO.den,splice_den,SV.cells_den]
    ·cases h
   ·cases h
  ·rename_i id ep es k off
   split at h
   ·rename_i c xs ep' ho
    split at h
    ·rename_i he hs hb
     have hat:(SH.den σ).at? ⟨id,ep,k*es+off⟩=some (SO.arr c xs ep').den:=SH.den_at ho (eqB he)
     have hb':=leB' hb
     have hlen:((xs.flatMap c.trees).map Cell.t).length=xs.length*c.size:=by rw[List.length_map,flat_length]
     have main:∀(hk:k<xs.length) (y:c.ty) (l:List SC),splice ((c.trees ((xs[k]?).getD c.dflt)).map Cell.t) off v.den.cells=l.map SC.den→c.enc ex l=some y→
       ∃τ,storeE (SH.den σ) i (.c (SC.el id ep es k off).den) v.den=some τ∧WH τ (SH.den (σ.set id (.arr c (xs.set k y) ep')))∧(ex=true→τ=SH.den (σ.set id (.arr c (xs.set k y) ep'))):=fun hk y l hl hy=>by
      have hle:(k+1)*c.size≤xs.length*c.size:=Nat.mul_le_mul_right _ hk
      rw[Nat.succ_mul]at hle
      obtain⟨hw,hx⟩:=Ly.enc_ok hy
      refine⟨_,by
       simp only[SC.den,storeE,hat]
       rw[if_pos ⟨hf',hc',by simp only[SO.den,hlen,eqB hs];omega⟩],?_,?_⟩
      all_goals simp only[SH.den_set,SO.den]
      all_goals rw[eqB hs,splice_elem hk (by rw[hc'];omega),hl]
      ·refine WH.set WH.rfl' ⟨?_,rfl,rfl⟩
       show WL _ (((xs.set k y).flatMap c.trees).map Cell.t)
       rw[flat_set c y xs k hk,List.map_append,List.map_append,List.map_take,List.map_drop]
       exact(WL.rfl'.append hw).append WL.rfl'
      ·intro hex
       congr 1
       show _=({ cs:=((xs.set k y).flatMap c.trees).map Cell.t,es:=c.size,ep:=ep' }:Obj)
       rw[flat_set c y xs k hk,List.map_append,List.map_append,List.map_take,List.map_drop,hx hex]
     split at h
     ·rename_i ho0 hsz
      split at h
      ·rename_i y hy
       injection h with h
       injection h with h1 h
       subst h
       have hk:k<xs.length:=by simpa using h1
       exact main hk y v.cells (by rw[eqB ho0,SV.cells_den,splice_all (by rw[List.length_map,List.length_map,c.trees_length,←eqB hsz];exact eqB hc)]) hy
      ·injection h with h
       injection h with h1 h
       subst h
       have hk:k<xs.length:=by simpa using h1
       have hle:(k+1)*c.size≤xs.length*c.size:=Nat.mul_le_mul_right _ hk
       rw[Nat.succ_mul]at hle
       refine⟨_,by
        simp only[SC.den,storeE,hat]
        rw[if_pos ⟨hf',hc',by simp only[SO.den,hlen,eqB hs];omega⟩],?_⟩
       have e:({ (SO.arr c xs ep').den with cs:=splice (SO.arr c xs ep').den.cs (k*es+off) v.den.cells }:Obj)=(SO.opn c (xs.take k) v.cells (xs.drop (k+1)) ep').den:=by
        simp only[SO.den]
        rw[eqB hs,splice_elem hk (by rw[hc'];omega),eqB ho0,splice_all (by rw[hc',List.length_map,c.trees_length,eqB hsz]),SV.cells_den,List.append_assoc]
        congr 2
        ·rw[←List.map_take,flat_take]
        ·rw[←List.map_drop,←Nat.succ_mul,←flat_drop]
       rw[SH.den_set]
       exact⟨by rw[e];exact WH.rfl',fun _=>by rw[e]⟩
     ·split at h
      ·rename_i y hy
       injection h with h
       injection h with h1 h
       subst h
       have hk:k<xs.length:=by simpa using h1
       exact main hk y _ (by rw[splice_den,SV.cells_den,c.view_den]) hy
      ·cases h
    ·cases h
   ·rename_i cs es' ep' ho
    split at h
    ·rename_i he hs hb
     injection h with h
     injection h with _ h
     subst h
     have hat:(SH.den σ).at? ⟨id,ep,k*es+off⟩=some (SO.st cs es' ep').den:=SH.den_at ho (eqB he)
     refine⟨_,?_,WH.rfl',fun _=>rfl⟩
     simp only[SC.den,storeE,hat]
     rw[if_pos ⟨hf',hc',by simpa [SO.den] using leB' hb⟩,SH.den_set]
     simp[SO.den,splice_den,SV.cells_den]
    ·cases h
   ·rename_i c xs cs ys ep' ho
    split at h
    ·rename_i he hs hb
     injection h with h
     injection h with hk h
     subst h
     have hk:k=xs.length:=by simpa [eqN] using hk
     have hat:(SH.den σ).at? ⟨id,ep,k*es+off⟩=some (SO.opn c xs cs ys ep').den:=SH.den_at ho (eqB he)
     have hl:((xs.flatMap c.trees).map Cell.t).length=k*es:=by rw[List.length_map,flat_length,hk,eqB hs]
     have hb':=leB' hb
     refine⟨_,?_,WH.rfl',fun _=>rfl⟩
     simp only[SC.den,storeE,hat]
     rw[if_pos ⟨hf',hc',by simp only[SO.den,List.length_append,hl,List.length_map];omega⟩,SH.den_set]
     congr 2
     simp only[SO.den]
     congr 1
     rw[splice_mid (A:=(xs.flatMap c.trees).map Cell.t) hl (by rw[List.length_map,hc'];omega),splice_den,SV.cells_den]
    ·cases h
   ·cases h
  ·cases h
 ·cases h
end
end Go.Abs
namespace Go.Abs
variable [Gl]
section
variable {P:Program}{ty:TyT}{σ:SH}
theorem intS_ok{op:BinOp}{k:IntKind}{x y:Int}{c:SC}(h:intS op k x y=some (true,c)):(intE op k x y).map .t=some c.den:=by
 unfold intS at h
 unfold intE
 cases op<;>simp only[Option.some.injEq,Prod.mk.injEq,true_and,reduceCtorEq]at h<;>first
  |(subst h;rfl)
  |(obtain⟨h1,rfl⟩:=h;simp only[nz,Bool.not_eq_true',beq_eq_false_iff_ne]at h1;simp[h1,SC.den])
theorem shiftS_ok{op:BinOp}{k:IntKind}{x y:Int}{c:SC}(h:shiftS op k x y=some (true,c)):(shiftE op k x y).map .t=some c.den:=by
 unfold shiftS at h
 unfold shiftE
 cases op<;>simp only[Option.some.injEq,Prod.mk.injEq,reduceCtorEq,decide_eq_true_eq]at h<;>(obtain⟨h1,rfl⟩:=h;rw[if_neg (by omega)];rfl)
theorem strS_ok{op:BinOp}{x y:List UInt8}{c:SC}(h:strS op x y=some (true,c)):(strE op x y).map .t=some c.den:=by
 unfold strS at h
 unfold strE
 cases op<;>simp only[Option.some.injEq,Prod.mk.injEq,true_and,reduceCtorEq,leB,decide_eq_true_eq]at h<;>first
  |(subst h;rfl)
  |(obtain⟨h1,rfl⟩:=h;rw[if_pos h1];rfl)
theorem boolS_ok{op:BinOp}{x y:Bool}{b:Bool}{c:SC}(h:boolS op x y=some (b,c)):b=true∧(boolE op x y).map .t=some c.den:=by
 unfold boolS at h
 unfold boolE
 cases op<;>simp only[Option.some.injEq,Prod.mk.injEq,reduceCtorEq]at h<;>(obtain⟨h1,h2⟩:=h;subst h1;subst h2;exact⟨rfl,rfl⟩)
theorem isPtrK_ok(hty:TyOk P ty){t:TypeId}(h:isPtrK ty t=true):∃i e,tinf P t=some i∧i.kind=.ptr e:=by
 unfold isPtrK at h
 split at h
 ·rename_i i c hi
  split at h
  ·rename_i e he;exact⟨i,e,hty.ok t i c hi,he⟩
  ·cases h
 ·cases h
theorem isBoolK_ok(hty:TyOk P ty){t:TypeId}(h:isBoolK ty t=true):∃i,tinf P t=some i∧i.kind=.bool:=by
 unfold isBoolK at h
 split at h
 ·rename_i i c hi
  split at h
  ·rename_i he;exact⟨i,hty.ok t i c hi,he⟩
  ·cases h
 ·cases h
theorem cellEqS_ok{k:EK}{a b:SC}{c:Bool}(h:cellEqS k a b=some c):cellEq k a.den b.den=some c:=by
 unfold cellEqS at h
 split at h
 ·exact h
 ·split at h
  ·rename_i hk
   rw[kindB_eq hk]
   simp only[SC.den,cellEq,if_true]
   exact h
  ·cases h
 ·exact h
 ·cases h
theorem eqAllS_ok:∀{ks:List EK} {xs ys:List SC} {c:Bool},eqAllS ks xs ys=some c→eqAll ks (xs.map SC.den) (ys.map SC.den)=some c
 |[],[],[],c,h=>h
 |[],[],_::_,_,h=>by cases h
 |[],_::_,_,_,h=>by cases h
 |_::_,[],_,_,h=>by cases h
 |_::_,_::_,[],_,h=>by cases h
 |k::ks,x::xs,y::ys,c,h=>by
  simp only[eqAllS]at h
  split at h
  ·rename_i a b h1 h2
   simp only[List.map_cons,eqAll,cellEqS_ok h1,eqAllS_ok h2]
   exact h
  ·cases h
theorem binS_ok(hty:TyOk P ty){op:BinOp}{xT:TypeId}{x y:SV}{c:SC}(h:binS ty op xT x y=some (true,c)):(binE P op xT x.den y.den).map .t=some c.den:=by
 have hp:∀{b:Bool},(match isPtrK ty xT with|true=>boolS op b true|false=>none)=some (true,c)→∃i e,tinf P xT=some i∧i.kind=.ptr e∧(boolE op b true).map .t=some c.den:=fun{b} hh=>by
  split at hh
  ·rename_i hk
   obtain⟨i,e,h1,h2⟩:=isPtrK_ok hty hk
   exact⟨i,e,h1,h2,(boolS_ok hh).2⟩
  ·cases hh
 unfold binS at h
 split at h
 ·rename_i k a k' b
  simp only[SV.den,SC.den,binE]
  split at h
  ·rename_i hs;rw[hs];exact shiftS_ok h
  ·rename_i hs
   split at h
   ·rename_i hk
    rw[kindB_eq hk]
    simp only[hs,Bool.false_eq_true,if_false,if_true]
    rw[kindB_eq hk]at h
    exact intS_ok h
   ·cases h
 ·exact strS_ok h
 ·split at h
  ·rename_i hk
   obtain⟨i,h1,h2⟩:=isBoolK_ok hty hk
   simp only[SV.den,SC.den,binE,h1,h2]
   exact(boolS_ok h).2
  ·cases h
 case h_9=>
  split at h
  ·rename_i i c1 hi
   split at h
   ·rename_i ks hks
    split at h
    ·rename_i b hb
     simp only[SV.den,binE,hty.ok _ _ _ hi,hks,eqAllS_ok hb]
     exact(boolS_ok h).2
    ·cases h
   ·cases h
  ·cases h
 all_goals first
  |(obtain⟨i,e,h1,h2,h3⟩:=hp h;simp only[SV.den,SC.den,binE,h1,h2];exact h3)
  |cases h
theorem unS_ok{op:UnOp}{x:SV}{c:SC}(h:unS op x=some c):(unE op x.den).map .t=some c.den:=by
 unfold unS at h
 split at h
 ·injection h with h;subst h;rfl
 ·injection h with h;subst h;rfl
 ·rw[Option.map_eq_some_iff]at h
  obtain⟨p,h1,rfl⟩:=h
  obtain⟨b,c⟩:=p
  have hb:b=true:=by simp only[intS,Option.some.injEq,Prod.mk.injEq]at h1;exact h1.1.symm
  subst hb
  exact intS_ok h1
 ·cases h
theorem convS_ok(hty:TyOk P ty){src dst:TypeId}{x:SV}{c:SC}(h:convS ty src dst x=some c):(convE P src dst x.den).map .t=some c.den:=by
 unfold convS at h
 split at h
 ·rename_i i1 j c2 k n h1 h2
  obtain⟨i1,c1⟩:=i1
  split at h
  ·rename_i k' hk
   injection h with h;subst h
   simp only[SV.den,SC.den,convE,hty.ok _ _ _ h1,hty.ok _ _ _ h2,hk]
   rfl
  ·rename_i hk
   injection h with h;subst h
   simp only[SV.den,SC.den,convE,hty.ok _ _ _ h1,hty.ok _ _ _ h2,hk]
   rfl
  ·cases h
 ·rename_i i1 j c2 n h1 h2
  obtain⟨i1,c1⟩:=i1
  split at h
  ·rename_i hk
   injection h with h;subst h
   simp only[SV.den,SC.den,convE,hty.ok _ _ _ h1,hty.ok _ _ _ h2,hk]
   rfl
  ·cases h
 ·cases h
theorem offS_av {off : Nat} {x y : SC} (h : offS off x = some y) : (match (AV.c x.den) with
         | .c (.ptr r) => some (.c (.ptr { r with off := r.off + off }))
         | .c (.t (.iptr cs)) => some (.c (.t (.iptr (cs.drop off))))
         | _ => none) = some (AV.c y.den) := by
 unfold offS at h
 split at h <;> first | (injection h with h; subst h) | cases h
 · rfl
 · simp only [SC.den,Nat.add_assoc]
 · simp only [SC.den,List.drop_drop]
 · simp only [SC.den,List.drop_drop]
theorem fieldAddrS_ok(hty:TyOk P ty){t:TypeId}{x:SV}{f:Nat}{c:SC}(h:fieldAddrS ty t x f=some c):fieldAddrE P t x.den f=some (.c c.den):=by
 unfold fieldAddrS at h
 split at h
 ·rename_i i c1 hi
  split at h
  ·rename_i fs x hk
   split at h
   ·rename_i off ft hf
    split at h
    ·rename_i j c2 hj
     split at h
     ·rename_i hz
      have hz':0<j.size:=ltB hz
      simp only[fieldAddrE,hty.ok _ _ _ hi,hk,hf,hty.ok _ _ _ hj]
      rw[if_pos hz']
      exact offS_av h
     ·cases h
    ·cases h
   ·cases h
  ·cases h
 ·cases h
theorem partS_ok{j:TInf}{cs:List SC}{off:Nat}{v:SV}(h:partS j cs off=some v):partE j (cs.map SC.den) off=some v.den:=by
 unfold partS at h
 unfold partE
 split at h
 ·rename_i ha
  split at h
  ·rename_i hl
   injection h with h
   subst h
   simp[ha,SV.den,leB' hl,List.map_take,List.map_drop]
  ·cases h
 ·rename_i ha
  split at h
  ·rename_i c hc
   injection h with h
   subst h
   simp[ha,hc,SV.den]
  ·cases h
theorem fieldS_ok(hty:TyOk P ty){t:TypeId}{x:SV}{f:Nat}{v:SV}(h:fieldS ty t x f=some v):fieldE P t x.den f=some v.den:=by
 unfold fieldS at h
 split at h
 ·rename_i i c1 hi
  split at h
  ·rename_i fs cs hk
   split at h
   ·rename_i off ft hf
    split at h
    ·rename_i j c2 hj
     simp only[SV.den,fieldE,hty.ok _ _ _ hi,hk,hf,hty.ok _ _ _ hj]
     exact partS_ok h
    ·cases h
   ·cases h
  ·cases h
 ·cases h
theorem intOfS_ok{x:SV}{n:Int}(h:intOfS x=some n):intOfAV x.den=some n:=by
 unfold intOfS at h
 split at h
 ·injection h with h;subst h;rfl
 ·cases h
theorem inR_ok{n:Int}{l:Nat}(h:inR n l=true):0≤n∧n<l:=by simpa [inR] using h
theorem indexAddrS_ok(hty:TyOk P ty){t:TypeId}{x i:SV}{c:SC}(h:indexAddrS ty t x i=some (true,c)):indexAddrE P t x.den i.den=some (.c c.den):=by
 unfold indexAddrS at h
 split at h
 ·rename_i inf c1 n hi hn
  simp only[indexAddrE,hty.ok _ _ _ hi,intOfS_ok hn]
  split at h
  ·rename_i e hk
   rw[hk]
   split at h
   ·rename_i j c2 hj
    simp only[hty.ok _ _ _ hj]
    split at h
    ·rename_i id ep es lo len cap
     split at h
     ·rename_i hs
      injection h with h
      injection h with h1 h
      subst h
      simp only[SV.den,SC.den]
      rw[if_pos (inR_ok h1),eqB hs,Nat.add_mul,Nat.add_zero]
     ·cases h
    ·rename_i c3 xs cap
     split at h
     ·rename_i hs
      injection h with h
      injection h with h1 h
      subst h
      have hr:=inR_ok h1
      have hk':n.toNat<xs.length:=by omega
      simp only[SV.den,SC.den]
      rw[if_pos hr,←eqB hs,flat_at c3 hk',List.drop_zero]
     ·cases h
    ·injection h with h
     injection h with h1 h
     cases h1
    ·cases h
   ·cases h
  ·rename_i len e hk
   rw[hk]
   split at h
   ·rename_i j c2 hj
    simp only[hty.ok _ _ _ hj]
    split at h<;>first|cases h;done|skip
    all_goals
     injection h with h
     injection h with h1 h
     subst h
     simp only[SV.den,SC.den]
     rw[if_pos (inR_ok h1)]
     try first|rfl|simp only[Nat.add_assoc]|simp only[List.drop_drop]
   ·cases h
  ·cases h
 ·cases h
theorem indexS_ok(hty:TyOk P ty){t:TypeId}{x i:SV}{v:SV}(h:indexS ty t x i=some (true,v)):indexE P t x.den i.den=some v.den:=by
 unfold indexS at h
 split at h
 ·rename_i inf c1 n hi hn
  simp only[indexE,hty.ok _ _ _ hi,intOfS_ok hn]
  split at h
  ·rename_i len e cs hk
   have old:∀{j:TInf} {c2:Option Ly},ty e=some (j,c2)→(partS j cs (n.toNat*j.size)).map (fun v=>(inR n len,v))=some (true,v)→indexE P t (SV.agg cs).den i.den=some v.den:=fun{j c2} hj h=>by
    rw[Option.map_eq_some_iff]at h
    obtain⟨u,h1,h2⟩:=h
    injection h2 with h2 h3
    subst h3
    simp only[indexE,hty.ok _ _ _ hi,intOfS_ok hn]
    rw[show(SV.agg cs).den=AV.agg (cs.map SC.den) from rfl,hk]
    simp only[hty.ok _ _ _ hj]
    rw[if_pos (inR_ok h2)]
    exact partS_ok h1
   have back:∀{x:AV},indexE P t (SV.agg cs).den i.den=some x→(match inf.kind,(SV.agg cs).den with
    |.array len e,.agg cs=>match tinf P e with
     |some j=>if 0≤n∧n<len then partE j cs (n.toNat*j.size) else none
     |none=>none
    |.string,.c (.t (.str s))=>if 0≤n then (match s[n.toNat]? with|some b=>some (aI .u8 b.toNat)|none=>none) else none
    |_,_=>none)=some x:=fun{x} h=>by
    simp only[indexE,hty.ok _ _ _ hi,intOfS_ok hn]at h
    exact h
   split at h
   ·rename_i j c hj
    split at h
    ·rename_i xs hs henc
     rw[Option.map_eq_some_iff]at h
     obtain⟨u,h1,h2⟩:=h
     injection h2 with h2 h3
     subst h3
     rw[show(SV.agg cs).den=AV.agg (cs.map SC.den) from rfl,hk]
     simp only[hty.ok _ _ _ hj]
     have hr:=inR_ok h2
     rw[if_pos hr]
     obtain⟨q1,q2,q3⟩:=encL_ok henc
     have hn':n.toNat<xs.length:=by omega
     have hp:=partS_ok h1
     have hsz:=eqB hs
     rw[q3 rfl,←hp,Ly.view_den]
     have hd:=flat_at c hn'
     unfold partE
     cases hag:j.isAgg with
     |true=>
      simp only[if_true,List.length_map,Nat.zero_add,List.drop_zero,Ly.trees_length]
      have hle:n.toNat*j.size+j.size≤(xs.flatMap c.trees).length:=by
       have:=congrArg List.length hd
       simp only[List.length_drop,List.length_append,Ly.trees_length]at this
       rw[hsz]
       have h2:0<c.size:=c.size_pos
       omega
      rw[if_pos hle,if_pos (by omega),←List.map_drop,←List.map_take,←List.map_take,hsz,hd]
      congr 2
      rw[List.take_append_of_le_length (by rw[Ly.trees_length];exact Nat.le_refl _)]
     |false=>
      simp only[Bool.false_eq_true,if_false]
      rw[←Nat.add_zero (n.toNat*j.size),←List.getElem?_drop,←List.map_drop,hsz,hd,List.map_append,List.getElem?_append_left (by rw[List.length_map,Ly.trees_length];exact c.size_pos)]
    ·exact back (old hj h)
   ·rename_i j hj
    exact back (old hj h)
   ·cases h
  ·rename_i s hk
   injection h with h
   injection h with h1 h
   subst h
   have hr:=inR_ok h1
   have hl:n.toNat<s.length:=by omega
   simp only[SV.den,SC.den,hk]
   rw[if_pos hr.1]
   simp[hl,byteAt,aI]
  ·cases h
 ·cases h
theorem extractS_ok{x:SV}{i:Nat}{v:SV}(h:extractS x i=some v):extractE x.den i=some v.den:=by
 unfold extractS at h
 split at h
 ·rename_i xs
  split at h
  ·rename_i c hc
   injection h with h;subst h
   simp[SV.den,extractE,hc,denP]
  ·rename_i c hc
   injection h with h;subst h
   simp[SV.den,extractE,hc,denP]
  ·cases h
 ·cases h
theorem zeroS_ok{i:TInf}{cs:List SC}(h:zeroS i=some cs):∃z,i.zero=some z∧cs.map SC.den=z.map .t:=by
 unfold zeroS at h
 split at h
 ·rename_i z hz;exact⟨z,hz,scOfTs_den h⟩
 ·cases h
theorem fillS_ok{place:Nat→Option (Nat×Nat)}:∀{ps:List (Nat×SV)} {cs cs':List SC},fillS place ps cs=some cs'→fillE place (ps.map fun x=>(x.1,x.2.den)) (cs.map SC.den)=some (cs'.map SC.den)
 |[],cs,cs',h=>by simp only[fillS,Option.some.injEq]at h;subst h;rfl
 |(i,v)::ps,cs,cs',h=>by
  simp only[fillS]at h
  split at h
  ·rename_i off size hp
   split at h
   ·rename_i h1 h2 h3
    simp only[List.map_cons,fillE,hp]
    rw[if_pos ⟨by rw[SV.flat_den];exact h1,by rw[SV.cells_den,List.length_map];exact eqB h2,by rw[List.length_map];exact leB' h3⟩]
    have:=fillS_ok h
    rw[splice_den]at this
    rw[SV.cells_den]
    exact this
   ·cases h
  ·cases h
theorem placesS_ok(hty:TyOk P ty):∀{fs:List (Nat×TypeId)} {ps:List (Nat×Nat)},placesS ty fs=some ps→placesE P fs=some ps
 |[],ps,h=>by simp only[placesS,Option.some.injEq]at h;subst h;rfl
 |(off,t)::fs,ps,h=>by
  simp only[placesS]at h
  split at h
  ·rename_i i c ps' h1 h2
   injection h with h
   subst h
   simp[placesE,hty.ok _ _ _ h1,placesS_ok hty h2]
  ·cases h
theorem buildS_ok(hty:TyOk P ty){t:TypeId}{ps:List (Nat×SV)}{v:SV}(h:buildS ty t ps=some v):buildE P t (ps.map fun x=>(x.1,x.2.den))=some v.den:=by
 unfold buildS at h
 split at h
 ·rename_i i c hi
  simp only[buildE,hty.ok _ _ _ hi]
  split at h
  ·rename_i z fs hz hk
   obtain⟨z',h1,h2⟩:=zeroS_ok hz
   split at h
   ·rename_i places hp
    rw[Option.map_eq_some_iff]at h
    obtain⟨cs,h3,rfl⟩:=h
    simp only[h1,hk,placesS_ok hty hp,←h2,fillS_ok h3]
    rfl
   ·cases h
  ·rename_i z n e hz hk
   obtain⟨z',h1,h2⟩:=zeroS_ok hz
   split at h
   ·rename_i j c2 hj
    rw[Option.map_eq_some_iff]at h
    obtain⟨cs,h3,rfl⟩:=h
    simp only[h1,hk,hty.ok _ _ _ hj,←h2,fillS_ok h3]
    rfl
   ·cases h
  ·cases h
 ·cases h
theorem refsS_ok:∀{vs:List SV} {rs:List Ref},refsS vs=some rs→refsOf (vs.map SV.den)=some rs
 |[],rs,h=>by simp only[refsS,Option.some.injEq]at h;subst h;rfl
 |v::vs,rs,h=>by
  cases v with
  |c x=>cases x with
   |ptr id off=>
    simp only[refsS,Option.map_eq_some_iff]at h
    obtain⟨rs',h1,rfl⟩:=h
    simp[SV.den,SC.den,refsOf,refsS_ok h1]
   |_=>cases h
  |_=>cases h
theorem mergeC_ok{b:Bool}{x y z:SC}(h:mergeC b x y=some z):z.den=bif b then x.den else y.den:=by
 unfold mergeC at h
 split at h
 ·injection h with h;subst h;cases b<;>rfl
 ·split at h
  ·rename_i hk;injection h with h;subst h;rw[kindB_eq hk];cases b<;>rfl
  ·cases h
 ·injection h with h;subst h;cases b<;>rfl
 ·injection h with h;subst h;cases b<;>rfl
 ·injection h with h;subst h;cases b<;>rfl
 ·injection h with h;subst h;cases b<;>rfl
 ·injection h with h;subst h;cases b<;>rfl
 ·split at h
  ·rename_i hb
   injection h with h;subst h
   cases b
   ·simp only[cond_false,SC.den,castL_flat,castL_length]
   ·rfl
  ·cases h
 ·split at h
  ·rename_i h1 h2;injection h with h;subst h;rw[eqB h1,eqB h2];cases b<;>rfl
  ·cases h
 ·split at h
  ·rename_i h1 h2 h3;injection h with h;subst h;rw[eqB h1,eqB h2,eqB h3];cases b<;>rfl
  ·cases h
 ·split at h
  ·rename_i h1 h2 h3;injection h with h;subst h;rw[eqB h1,eqB h2,eqB h3];cases b<;>rfl
  ·cases h
 ·split at h
  ·rename_i h1;injection h with h;subst h;rw[eqB h1];cases b<;>rfl
  ·cases h
 ·cases h
theorem mergeCL_ok{b:Bool}:∀{x y z:List SC},mergeCL b x y=some z→z.map SC.den=bif b then x.map SC.den else y.map SC.den
 |[],[],z,h=>by simp only[mergeCL,Option.some.injEq]at h;subst h;cases b<;>rfl
 |[],_::_,z,h=>by cases h
 |_::_,[],z,h=>by cases h
 |x::xs,y::ys,z,h=>by
  simp only[mergeCL]at h
  split at h
  ·rename_i u us h1 h2
   injection h with h
   subst h
   simp only[List.map_cons,mergeC_ok h1,mergeCL_ok h2]
   cases b<;>rfl
  ·cases h
theorem mergeV_ok{b:Bool}{x y z:SV}(h:mergeV b x y=some z):z.den=bif b then x.den else y.den:=by
 unfold mergeV at h
 split at h
 ·rw[Option.map_eq_some_iff]at h
  obtain⟨u,h1,rfl⟩:=h
  simp only[SV.den,mergeC_ok h1]
  cases b<;>rfl
 ·rw[Option.map_eq_some_iff]at h
  obtain⟨u,h1,rfl⟩:=h
  simp only[SV.den,mergeCL_ok h1]
  cases b<;>rfl
 ·cases h
theorem minmaxS_ok{mx:Bool}{l:List SV}{c:SC}(h:minmaxS mx l=some c):minmaxE mx (l.map SV.den)=some (.c c.den):=by
 unfold minmaxS at h
 split at h
 ·rename_i k x k' y
  split at h
  ·rename_i hk
   injection h with h
   subst h
   simp only[List.map_cons,List.map_nil,SV.den,SC.den,minmaxE]
   rw[if_pos (kindB_eq hk)]
   cases mx<;>rfl
  ·cases h
 ·cases h
end
end Go.Abs
