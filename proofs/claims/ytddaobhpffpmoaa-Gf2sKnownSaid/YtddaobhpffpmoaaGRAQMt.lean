/-
  What the proof stands on.
-/
import Derived.Test.YtddaobhpffpmoaaGRAQMs
set_option linter.all false
namespace Go.Abs
variable [Gl]
theorem eqB{a b:Nat}(h:Nat.beq a b=true):a=b:=Nat.eq_of_beq_eq_true h
theorem leB'{a b:Nat}(h:Nat.ble a b=true):a≤b:=Nat.le_of_ble_eq_true h
theorem ltB{a b:Nat}(h:Nat.blt a b=true):a<b:=Nat.le_of_ble_eq_true h
theorem Uk{t:T}{c:SC}(h:qH t=some c):c.den=.t t:=by
 unfold qH at h
 split at h<;>first|(injection h with h;subst h;rfl)|cases h
theorem qG:∀{z:List T} {cs:List SC},Jg qH z=some cs→cs.map SC.den=z.map .t
 |[],cs,h=>by simp only[Jg,Option.some.injEq]at h;subst h;rfl
 |t::z,cs,h=>by
  simp only[Jg]at h
  split at h
  ·rename_i y ys h1 h2
   injection h with h
   subst h
   simp[Uk h1,qG h2]
  ·cases h
theorem Ly.K3:∀(c:Ly) (x:c.ty),(c.view x).map SC.den=(c.trees x).map .t
 |.int _,_=>rfl
 |.bool,_=>rfl
 |.str,_=>rfl
 |.sl _,_=>rfl
 |.pair a b,x=>by simp only[Ly.view,Ly.trees,List.map_append,a.K3,b.K3]
theorem Qo{a b:Ly}(h:a.beq b=true)(xs:List a.ty):(Ly.Jn h xs).flatMap b.trees=xs.flatMap a.trees:=by
 have e:=Ly.beq_eq h
 subst e
 rfl
theorem Qy{a b:Ly}(h:a.beq b=true)(xs:List a.ty):(Ly.Jn h xs).length=xs.length:=by
 have e:=Ly.beq_eq h
 subst e
 rfl
theorem Jw{a b:Ly}(h:a.beq b=true):a.size=b.size:=by rw[Ly.beq_eq h]
theorem Qf(c:Ly):∀(xs:List c.ty),(xs.flatMap c.trees).length=xs.length*c.size
 |[]=>by simp
 |x::xs=>by simp only[List.flatMap_cons,List.length_append,c.QK,Qf c xs,List.length_cons,Nat.succ_mul];omega
theorem Xh(c:Ly):∀(n:Nat) (xs:List c.ty),(xs.flatMap c.trees).drop (n*c.size)=(xs.drop n).flatMap c.trees
 |0,_=>by simp
 |n+1,[]=>by simp
 |n+1,x::xs=>by
  rw[List.flatMap_cons,List.drop_succ_cons,←Xh c n xs,List.drop_append,c.QK]
  have h1:(n+1)*c.size - c.size=n*c.size:=by rw[Nat.succ_mul];omega
  have h2:(c.trees x).drop ((n+1)*c.size)=[]:=List.drop_eq_nil_of_le (by rw[c.QK,Nat.succ_mul];omega)
  rw[h1,h2,List.nil_append]
theorem Z6(c:Ly):∀(n:Nat) (xs:List c.ty),(xs.flatMap c.trees).take (n*c.size)=(xs.take n).flatMap c.trees
 |0,_=>by simp
 |n+1,[]=>by simp
 |n+1,x::xs=>by
  rw[List.flatMap_cons,List.take_succ_cons,List.flatMap_cons,←Z6 c n xs,List.take_append,c.QK]
  have h1:(n+1)*c.size - c.size=n*c.size:=by rw[Nat.succ_mul];omega
  have h2:(c.trees x).take ((n+1)*c.size)=c.trees x:=List.take_of_length_le (by rw[c.QK,Nat.succ_mul];omega)
  rw[h1,h2]
theorem drop_at{α:Type}{xs:List α}{k:Nat}{d:α}(h:k<xs.length):xs.drop k=(xs[k]?).getD d::xs.drop (k+1):=by
 rw[List.drop_eq_getElem_cons h]
 simp[h]
theorem Vl(c:Ly){xs:List c.ty}{k:Nat}(h:k<xs.length):(xs.flatMap c.trees).drop (k*c.size)=c.trees ((xs[k]?).getD c.Xb)++(xs.drop (k+1)).flatMap c.trees:=by
 rw[Xh,drop_at (d:=c.Xb) h,List.flatMap_cons]
theorem Ly.V8{ex:Bool}:∀{c:Ly} {l:List SC} {x:c.ty},c.enc ex l=some x→WL (l.map SC.den) ((c.trees x).map .t)∧(ex=true→l.map SC.den=(c.trees x).map .t)
 |.int k,l,x,h=>by
  simp only[Ly.enc,encInt]at h
  split at h
  ·split at h
   ·rename_i hk
    injection h with h
    subst h
    rw[X7 hk]
    exact⟨WL.rfl',fun _=>rfl⟩
   ·cases h
  ·cases h
 |.bool,l,x,h=>by
  simp only[Ly.enc,encBool]at h
  split at h
  ·injection h with h
   subst h
   exact⟨WL.rfl',fun _=>rfl⟩
  ·cases h
 |.str,l,x,h=>by
  simp only[Ly.enc,encStr]at h
  split at h
  ·injection h with h
   subst h
   exact⟨WL.rfl',fun _=>rfl⟩
  ·cases h
 |.sl c,l,x,h=>by
  simp only[Ly.enc,encSl]at h
  split at h
  ·rename_i c' xs cap
   split at h
   ·rename_i hb
    have key:∀y,y=Ly.Jn hb xs→WL ([SC.arr c' xs cap].map SC.den) (((Ly.sl c).trees y).map .t):=fun y hy=>by
     subst hy
     simp only[List.map_cons,List.map_nil,SC.den,Ly.trees,Qo,Qy]
     exact⟨.t (.cap _ _ _),trivial⟩
    split at h
    ·injection h with h
     refine⟨key x h.symm,fun _=> ?_⟩
     subst h
     simp only[List.map_cons,List.map_nil,SC.den,Ly.trees,Qo,Qy]
    ·split at h
     ·cases h
     ·injection h with h
      exact⟨key x h.symm,fun hex=>by cases hex⟩
   ·cases h
  ·split at h
   ·cases h
   ·injection h with h
    subst h
    exact⟨⟨.t (.cap _ _ _),trivial⟩,fun hex=>by cases hex⟩
  ·cases h
 |.pair a b,l,x,h=>by
  simp only[Ly.enc]at h
  split at h
  ·rename_i y z h1 h2
   injection h with h
   subst h
   obtain⟨h3,h4⟩:=Ly.V8 h1
   obtain⟨h5,h6⟩:=Ly.V8 h2
   have e:l.map SC.den=(l.take a.size).map SC.den++(l.drop a.size).map SC.den:=by rw[←List.map_append,List.take_append_drop]
   refine⟨?_,fun hex=> ?_⟩
   ·rw[e]
    simp only[Ly.trees,List.map_append]
    exact h3.append h5
   ·rw[e,h4 hex,h6 hex]
    simp only[Ly.trees,List.map_append]
  ·cases h
theorem UK{ex:Bool}{c:Ly}:∀{n:Nat} {l:List SC} {xs:List c.ty},encL ex c n l=some xs→xs.length=n∧WL (l.map SC.den) ((xs.flatMap c.trees).map .t)∧(ex=true→l.map SC.den=(xs.flatMap c.trees).map .t)
 |0,[],xs,h=>by
  simp only[encL,Option.some.injEq]at h
  subst h
  exact⟨rfl,WL.rfl',fun _=>rfl⟩
 |0,_::_,xs,h=>by cases h
 |n+1,l,xs,h=>by
  simp only[encL]at h
  split at h
  ·rename_i y ys h1 h2
   injection h with h
   subst h
   obtain⟨h3,h4⟩:=Ly.V8 h1
   obtain⟨h5,h6,h7⟩:=UK h2
   have e:l.map SC.den=(l.take c.size).map SC.den++(l.drop c.size).map SC.den:=by rw[←List.map_append,List.take_append_drop]
   refine⟨by simp[h5],?_,fun hex=> ?_⟩
   ·rw[e,List.flatMap_cons,List.map_append]
    exact h3.append h6
   ·rw[e,List.flatMap_cons,List.map_append,h4 hex,h7 hex]
  ·cases h
theorem eqTg_eq:∀{a b:Tg},eqTg a b=true→a=b
 |[],[],_=>rfl
 |[],_::_,h=>by cases h
 |_::_,[],h=>by cases h
 |(a,x)::l,(b,y)::m,h=>by
  simp only[eqTg]at h
  split at h
  ·rename_i h1
   rw[eqB h1]
   cases x<;>cases y<;>simp only at h<;>first|(rw[eqTg_eq h])|cases h
  ·cases h
theorem SR.Js{r:SR}{x:Nat×Bool}{l:Tg}:r.holds (x::l)=(r.holds l&&r.isB x.1 x.2):=by
 obtain⟨t,w⟩:=x
 cases l with
 |nil=>simp[SR.holds]
 |cons y l=>rfl
theorem suf_holds{r:SR}{a:Tg}:∀{L:Tg},sufB a L=true→r.holds L=true→r.holds a=true
 |[],h,hL=>by
  simp only[sufB]at h
  split at h
  ·rfl
  ·cases h
 |x::L,h,hL=>by
  simp only[sufB]at h
  split at h
  ·rfl
  ·split at h
   ·rename_i he;rw[eqTg_eq he];exact hL
   ·rw[SR.Js,Bool.and_eq_true]at hL
    exact suf_holds h hL.1
theorem SR.QZ{r:SR}{t:Nat}{tg:Tg}{v:SV}(h:r.get t=some (tg,v)):r.den.get t=some (r.dv tg v):=by
 unfold SR.den
 suffices∀(l:SR),l.get t=some (tg,v)→Q3.get (l.map r.den1) t=some (r.dv tg v) from this r h
 intro l hl
 induction l with
 |nil=>simp[SR.get]at hl
 |cons p l ih=>
  obtain⟨k,q⟩:=p
  simp only[SR.get]at hl
  simp only[List.map_cons,SR.den1,Q3.get]
  split at hl
  ·rename_i hk
   rw[if_pos (eqB hk)]
   injection hl with hl
   subst hl
   rfl
  ·rename_i hk
   rw[if_neg (fun e=>by subst e;simp at hk)]
   exact ih hl
theorem SR.den_get'{r:SR}{t:Nat}{tg:Tg}{v:SV}(h:r.get t=some (tg,v))(hh:r.holds tg=true):r.den.get t=some v.den:=by
 rw[SR.QZ h]
 cases tg with
 |nil=>rfl
 |cons x l=>simp only[SR.dv,hh,cond_true]
theorem SR.Xm{r:SR}{t:Nat}{x:Tg×SV}(h:r.gget t=some x):t<BIG∧r.get t=some x:=by
 unfold SR.gget at h
 split at h
 ·cases h
 ·rename_i hb
  refine⟨?_,h⟩
  apply Classical.byContradiction
  intro hn
  rw[Nat.ble_eq_true_of_le (by omega)]at hb
  cases hb
theorem SR.den_none{r:SR}{t:Nat}(h:r.get t=none):r.den.get t=none:=by
 unfold SR.den
 suffices∀(l:SR),l.get t=none→Q3.get (l.map r.den1) t=none from this r h
 intro l hl
 induction l with
 |nil=>rfl
 |cons p l ih=>
  obtain⟨k,q⟩:=p
  simp only[SR.get]at hl
  simp only[List.map_cons,SR.den1,Q3.get]
  split at hl
  ·cases hl
  ·rename_i hk
   rw[if_neg (fun e=>by subst e;simp at hk)]
   exact ih hl
section
variable {r:SR}{L:Tg}{ρ:Q3}
theorem constSV_den{v:Value}{x:SV}(h:constSV v=some x):UQ v=some x.den:=by
 unfold constSV at h
 split at h
 ·rename_i t ht
  rw[Option.map_eq_some_iff]at h
  obtain⟨c,h1,rfl⟩:=h
  rw[ht]
  simp[SV.den,Uk h1]
 ·rename_i cs hcs
  rw[Option.map_eq_some_iff]at h
  obtain⟨ys,h1,rfl⟩:=h
  rw[hcs]
  have:∀{cs:List Cell} {ys:List SC},Jg (fun|.t t=>qH t|_=>none) cs=some ys→ys.map SC.den=cs:=fun{cs}=>by
   induction cs with
   |nil=>intro ys h;simp only[Jg,Option.some.injEq]at h;subst h;rfl
   |cons c cs ih=>
    intro ys h
    simp only[Jg]at h
    split at h
    ·rename_i y ys' h2 h3
     injection h with h
     subst h
     cases c with
     |t t=>simp[Uk h2,ih h3]
     |_=>cases h2
    ·cases h
  simp[SV.den,this h1]
 ·cases h
theorem Qh(hρ:Qz ρ r.den)(hL:r.holds L=true){x:Operand}{v:SV}(h:evS r L x=some v):ev ρ x=some v.den:=by
 cases x with
 |tmp t=>
  simp only[evS,SR.at]at h
  split at h
  ·rename_i tg v' h1
   split at h
   ·rename_i hs
    injection h with h
    subst h
    exact Q3.at_of (hρ _ _ (SR.den_get' (SR.Xm h1).2 (suf_holds hs hL))) (SR.Xm h1).1
   ·cases h
  ·cases h
 |const c=>exact constSV_den h
 |func f=>simp only[evS,Option.some.injEq]at h;subst h;rfl
 |global g=>
  simp only[evS]at h
  split at h
  ·rename_i c x hg
   injection h with h
   subst h
   simp only[ev,hg,SV.den,SC.den,List.drop_zero]
  ·cases h
theorem YB(hρ:Qz ρ r.den)(hL:r.holds L=true):∀{xs:List Operand} {vs:List SV},UJ r L xs=some vs→evl ρ xs=some (vs.map SV.den)
 |[],vs,h=>by simp only[UJ,Option.some.injEq]at h;subst h;rfl
 |x::xs,vs,h=>by
  simp only[UJ]at h
  split at h
  ·rename_i v vs' h1 h2
   injection h with h
   subst h
   simp[evl,Qh hρ hL h1,YB hρ hL h2]
  ·cases h
theorem evsS_ok(hρ:Qz ρ r.den)(hL:r.holds L=true):∀{xs:List (Nat×Operand)} {vs:List (Nat×SV)},evsS r L xs=some vs→evs ρ xs=some (vs.map fun x=>(x.1,x.2.den))
 |[],vs,h=>by simp only[evsS,Option.some.injEq]at h;subst h;rfl
 |(i,x)::xs,vs,h=>by
  simp only[evsS]at h
  split at h
  ·rename_i v vs' h1 h2
   injection h with h
   subst h
   simp[evs,Qh hρ hL h1,evsS_ok hρ hL h2]
  ·cases h
theorem evoS_ok(hρ:Qz ρ r.den)(hL:r.holds L=true){x:Option Operand}{v:Option SV}(h:evoS r L x=some v):evo ρ x=some (v.map SV.den):=by
 cases x with
 |none=>simp only[evoS,Option.some.injEq]at h;subst h;rfl
 |some x=>
  simp only[evoS,Option.map_eq_some_iff]at h
  obtain⟨u,h1,rfl⟩:=h
  simp[evo,Qh hρ hL h1]
end
theorem SV.Xp(x:SC):(SV.c x).den=.c x.den:=rfl
theorem SC.den_bo(x:Bool):(SC.bo x).den=.t (.bool x):=rfl
theorem SC.den_ptr(id off:Nat):(SC.ptr id off).den=.ptr ⟨id,0,off⟩:=rfl
theorem SC.den_fn(f:FuncId):(SC.fn f).den=.t (.fn f []):=rfl
theorem SC.den_clo(f:FuncId)(rs:List Ref):(SC.clo f rs).den=.clo f rs:=rfl
theorem SV.Jy(v:SV):v.den.cells=v.cells.map SC.den:=by cases v<;>rfl
theorem SV.qq(v:SV):v.den.flat=v.flat:=by cases v<;>rfl
end Go.Abs
namespace Go.Abs
variable [Gl]
structure ZS(P:Program)(ty:TyT):Prop where
 ok:∀t i c,ty t=some (i,c)→tinf P t=some i
 lay:∀t i c,ty t=some (i,some c)→i.size=c.size∧∃z,i.zero=some z∧WL (z.map .t) ((c.trees c.Xb).map .t)
theorem SH.QZ{σ:SH}{id:Nat}{o:SO}(h:σ[id]? =some o):(SH.den σ)[id]? =some o.den:=by
 simp[SH.den,h]
theorem SH.QH(σ:SH):(SH.den σ).length=σ.length:=by simp[SH.den]
theorem SH.Jd(σ:SH)(id:Nat)(o:SO):SH.den (σ.set id o)=(SH.den σ).set id o.den:=by simp[SH.den,List.map_set]
theorem SH.XB(σ:SH)(o:SO):SH.den (σ++[o])=SH.den σ++[o.den]:=by simp[SH.den]
theorem SH.JU{σ:SH}{r:Ref}{o:SO}(h:σ[r.id]? =some o)(he:o.den.ep=r.ep):(SH.den σ).at? r=some o.den:=by
 simp only[Q4.at?,SH.QZ h]
 rw[if_pos he]
theorem Zk(cs:List SC)(off:Nat)(xs:List SC):(Yf cs off xs).map SC.den=Qg (cs.map SC.den) off (xs.map SC.den):=by
 simp[Yf,Qg,List.map_take,List.map_drop]
section
variable {P:Program}{ty:TyT}{σ:SH}
theorem YS{i:J5}{cs:List SC}{v:SV}(h:YH i cs=some v):ZT i (cs.map SC.den)=some v.den:=by
 unfold YH at h
 unfold ZT
 split at h
 ·rename_i hi
  split at h
  ·rename_i hl
   injection h with h
   subst h
   simp[hi,leB' hl,SV.den,List.map_take]
  ·cases h
 ·rename_i hi
  rw[if_neg (by simp[hi])]
  cases cs with
  |nil=>cases h
  |cons c cs=>injection h with h;subst h;rfl
theorem loadC_more{i:J5}{cs ds:List Cell}(hi:0<i.size∨i.isAgg=true)(hl:i.size≤cs.length)(h0:i.isAgg=false→i.size=1):ZT i (cs++ds)=ZT i cs:=by
 unfold ZT
 by_cases ha:i.isAgg=true
 ·simp only[ha,if_true]
  rw[if_pos (by simp;omega),if_pos hl,List.take_append_of_le_length hl]
 ·simp only[ha,Bool.false_eq_true,if_false]
  have h1:=h0 (by simpa using ha)
  cases cs with
  |nil=>simp at hl;omega
  |cons c cs=>rfl
theorem VN{i:J5}{cs:List SC}{v:SV}(h:YH i cs=some v){ds:List Cell}:ZT i (cs.map SC.den++ds)=some v.den:=by
 have h':=YS h
 unfold YH at h
 split at h
 ·rename_i ha
  split at h
  ·rename_i hl
   rw[loadC_more (.inr ha) (by simpa using leB' hl) (by simp[ha])]
   exact h'
  ·cases h
 ·rename_i ha
  cases cs with
  |nil=>cases h
  |cons c cs=>simpa [ZT,ha] using h'
theorem j0(cs:List SC)(n:Nat):(cs.map SC.den).drop n=(cs.drop n).map SC.den:=by simp
theorem Ue(c:Ly)(x:c.ty)(off:Nat):((c.trees x).drop off).map Cell.t=((c.view x).drop off).map SC.den:=by
 rw[List.map_drop,←c.K3,←List.map_drop]
theorem loadS_ok{i:J5}{a:SC}{v:SV}(h:loadS σ i a=some (true,v)):Zs (SH.den σ) i (.c a.den)=some v.den:=by
 unfold loadS at h
 split at h
 ·
  rename_i id off
  split at h
  ·rename_i cs es ep ho
   split at h
   ·rename_i he
    rw[Option.map_eq_some_iff]at h
    obtain⟨u,h1,h2⟩:=h
    injection h2 with _ h2
    subst h2
    have hat:(SH.den σ).at? ⟨id,0,off⟩=some (SO.st cs es ep).den:=SH.JU ho (eqB he)
    simp only[SC.den,Zs,hat]
    show ZT i ((cs.map SC.den).drop off)=_
    rw[j0]
    exact YS h1
   ·cases h
  ·cases h
 ·
  rename_i id ep es k off
  split at h
  ·rename_i c xs ep' ho
   split at h
   ·rename_i he hs
    split at h
    ·rename_i hb
     rw[Option.map_eq_some_iff]at h
     obtain⟨u,h1,h2⟩:=h
     injection h2 with h3 h2
     subst h2
     have hk:k<xs.length:=by simpa using h3
     have hat:(SH.den σ).at? ⟨id,ep,k*es+off⟩=some (SO.arr c xs ep').den:=SH.JU ho (eqB he)
     simp only[SC.den,Zs,hat]
     show ZT i (((xs.flatMap c.trees).map Cell.t).drop (k*es+off))=_
     have hb':=leB' hb
     rw[eqB hs,←List.drop_drop,←List.map_drop,Vl c hk,←List.map_drop,List.drop_append_of_le_length (by rw[c.QK];omega),List.map_append,Ue]
     exact VN h1
    ·cases h
   ·cases h
  ·rename_i cs es' ep' ho
   split at h
   ·rename_i he hs
    rw[Option.map_eq_some_iff]at h
    obtain⟨u,h1,h2⟩:=h
    injection h2 with _ h2
    subst h2
    have hat:(SH.den σ).at? ⟨id,ep,k*es+off⟩=some (SO.st cs es' ep').den:=SH.JU ho (eqB he)
    simp only[SC.den,Zs,hat]
    show ZT i ((cs.map SC.den).drop _)=_
    rw[j0]
    exact YS h1
   ·cases h
  ·rename_i c xs cs ys ep' ho
   split at h
   ·rename_i he hs hb
    rw[Option.map_eq_some_iff]at h
    obtain⟨u,h1,h2⟩:=h
    injection h2 with hk h2
    subst h2
    have hk:k=xs.length:=by simpa [eqN] using hk
    have hat:(SH.den σ).at? ⟨id,ep,k*es+off⟩=some (SO.opn c xs cs ys ep').den:=SH.JU ho (eqB he)
    simp only[SC.den,Zs,hat]
    show ZT i (((xs.flatMap c.trees).map Cell.t++(cs.map SC.den++(ys.flatMap c.trees).map Cell.t)).drop _)=_
    have hl:((xs.flatMap c.trees).map Cell.t).length=k*es:=by rw[List.length_map,Qf,hk,eqB hs]
    rw[List.drop_append,hl,List.drop_eq_nil_of_le (by rw[hl];omega),List.nil_append,show k*es+off - k*es=off by omega,List.drop_append_of_le_length (by rw[List.length_map];have:=leB' hb;omega),j0]
    have h3:=YS h1
    have hb':=leB' hb
    unfold ZT at h3⊢
    split
    ·rename_i hag
     rw[if_pos hag]at h3
     split at h3
     ·rename_i hle
      rw[if_pos (by rw[List.length_append];omega),List.take_append_of_le_length hle]
      exact h3
     ·cases h3
    ·rename_i hag
     rw[if_neg hag]at h3
     split at h3
     ·rename_i d ds hd
      rw[hd]
      exact h3
     ·cases h3
   ·cases h
  ·cases h
 ·
  rename_i c x off
  split at h
  ·rw[Option.map_eq_some_iff]at h
   obtain⟨u,h1,h2⟩:=h
   injection h2 with _ h2
   subst h2
   simp only[SC.den,Zs]
   rw[Ue]
   exact YS h1
  ·cases h
 ·
  rename_i c xs k off
  split at h
  ·rename_i hb
   rw[Option.map_eq_some_iff]at h
   obtain⟨u,h1,h2⟩:=h
   injection h2 with _ h2
   subst h2
   have hb':=leB' hb
   simp only[SC.den,Zs]
   rw[List.drop_append_of_le_length (by rw[c.QK];omega),List.map_append,Ue]
   exact VN h1
  ·cases h
 ·cases h
theorem qp(c:Ly)(y:c.ty):∀(xs:List c.ty) (k:Nat),k<xs.length→((xs.set k y).flatMap c.trees)=(xs.flatMap c.trees).take (k*c.size)++c.trees y++(xs.flatMap c.trees).drop (k*c.size+c.size)
 |x::xs,0,_=>by
  simp only[List.set_cons_zero,List.flatMap_cons,Nat.zero_mul,List.take_zero,List.nil_append,Nat.zero_add]
  rw[List.drop_append,c.QK,List.drop_eq_nil_of_le (by rw[c.QK];exact Nat.le_refl _)]
  simp
 |x::xs,k+1,h=>by
  have ih:=qp c y xs k (by simpa using h)
  simp only[List.set_cons_succ,List.flatMap_cons,ih]
  rw[List.take_append,List.drop_append,c.QK]
  have h1:(k+1)*c.size - c.size=k*c.size:=by rw[Nat.succ_mul];omega
  have h2:(k+1)*c.size+c.size - c.size=k*c.size+c.size:=by rw[Nat.succ_mul];omega
  have h3:(c.trees x).take ((k+1)*c.size)=c.trees x:=List.take_of_length_le (by rw[c.QK,Nat.succ_mul];omega)
  have h4:(c.trees x).drop ((k+1)*c.size+c.size)=[]:=List.drop_eq_nil_of_le (by rw[c.QK,Nat.succ_mul];omega)
  rw[h1,h2,h3,h4]
  simp[List.append_assoc]
theorem WL.take{a b:List Cell}(h:WL a b)(n:Nat):WL (a.take n) (b.take n):=
 WL.of_get (by simp[h.length]) fun i hi hi'=>by simp only[List.getElem_take];exact h.get _ _
theorem WL.drop{a b:List Cell}(h:WL a b)(n:Nat):WL (a.drop n) (b.drop n):=
 WL.of_get (by simp[h.length]) fun i hi hi'=>by simp only[List.getElem_drop];exact h.get _ _
theorem K5{c:Ly}{xs:List c.ty}{k off:Nat}(hk:k<xs.length){vs:List Cell}(hb:off+vs.length≤c.size):
  Qg ((xs.flatMap c.trees).map .t) (k*c.size+off) vs=((xs.flatMap c.trees).map .t).take (k*c.size)++Qg ((c.trees ((xs[k]?).getD c.Xb)).map .t) off vs++((xs.flatMap c.trees).map .t).drop (k*c.size+c.size):=by
 have hlen:((xs.flatMap c.trees).map Cell.t).length=xs.length*c.size:=by rw[List.length_map,Qf]
 have hle:(k+1)*c.size≤xs.length*c.size:=Nat.mul_le_mul_right _ hk
 rw[Nat.succ_mul]at hle
 have hsplit:(xs.flatMap c.trees).map Cell.t=((xs.flatMap c.trees).map Cell.t).take (k*c.size)++((c.trees ((xs[k]?).getD c.Xb)).map Cell.t++((xs.drop (k+1)).flatMap c.trees).map Cell.t):=by
  rw[←List.map_append,←Vl c hk,List.map_drop,List.take_append_drop]
 have htk:(((xs.flatMap c.trees).map Cell.t).take (k*c.size)).length=k*c.size:=by rw[List.length_take,hlen];omega
 have htl:((c.trees ((xs[k]?).getD c.Xb)).map Cell.t).length=c.size:=by rw[List.length_map,c.QK]
 have hrest:((xs.drop (k+1)).flatMap c.trees).map Cell.t=((xs.flatMap c.trees).map Cell.t).drop (k*c.size+c.size):=by
  rw[←Nat.succ_mul,←List.map_drop,Xh]
 generalize ((xs.flatMap c.trees).map Cell.t).take (k*c.size)=A at hsplit htk⊢
 rw[←hrest]
 generalize (c.trees ((xs[k]?).getD c.Xb)).map Cell.t=B at hsplit htl⊢
 generalize ((xs.drop (k+1)).flatMap c.trees).map Cell.t=C at hsplit⊢
 rw[hsplit]
 unfold Qg
 rw[List.take_append,List.drop_append,htk,List.take_append,List.drop_append,htl]
 have e1:k*c.size+off - k*c.size=off:=by omega
 have e2:k*c.size+off+vs.length - k*c.size=off+vs.length:=by omega
 have e3:off - c.size=0:=by omega
 have e4:off+vs.length - c.size=0:=by omega
 rw[e1,e2,e3,e4,List.take_of_length_le (by omega),List.drop_eq_nil_of_le (by omega:A.length≤k*c.size+off+vs.length)]
 simp[List.append_assoc]
theorem WI{cs vs:List Cell}(h:vs.length=cs.length):Qg cs 0 vs=vs:=by
 simp[Qg,h]
theorem splice_mid{A B C vs:List Cell}{k off:Nat}(hA:A.length=k)(hb:off+vs.length≤B.length):Qg (A++(B++C)) (k+off) vs=A++(Qg B off vs++C):=by
 unfold Qg
 rw[List.take_append,List.drop_append,hA,List.take_append,List.drop_append]
 have e1:k+off - k=off:=by omega
 have e2:k+off+vs.length - k=off+vs.length:=by omega
 have e3:off - B.length=0:=by omega
 have e4:off+vs.length - B.length=0:=by omega
 rw[e1,e2,e3,e4,List.take_of_length_le (by omega),List.drop_eq_nil_of_le (by omega:A.length≤k+off+vs.length)]
 simp[List.append_assoc]
inductive Out(ex:Bool)(σ:Q4):Option AV→Q4→Option AV→Q4→Prop
 |Xy {a b:Option AV} {τ τ':Q4}:WVO a b→WH τ τ'→(ex=true→a=b∧τ=τ')→Out ex σ a τ b τ'
 |own (es:Nat):ex=false→Out ex σ (some (.c (.t (.imm [] 0 (some 0))))) σ (some (.c (.sl ⟨σ.length,0,0⟩ 0 none))) (σ++[{ cs:=[],es:=es }])
theorem Out.same{ex:Bool}{σ:Q4}{a:Option AV}{τ:Q4}:Out ex σ a τ a τ:=.Xy WVO.rfl' WH.rfl' fun _=>⟨rfl,rfl⟩
theorem storeS_ok{ex:Bool}{i:J5}{a:SC}{v:SV}{σ':SH}(h:storeS ex σ i a v=some (true,σ')):
  ∃τ,Z0 (SH.den σ) i (.c a.den) v.den=some τ∧WH τ (SH.den σ')∧(ex=true→τ=SH.den σ'):=by
 unfold storeS at h
 split at h
 ·rename_i hf hc
  have hf':v.den.flat=true:=by rw[SV.qq];exact hf
  have hc':v.den.cells.length=i.size:=by rw[SV.Jy,List.length_map];exact eqB hc
  split at h
  ·rename_i id off
   split at h
   ·rename_i cs es ep ho
    split at h
    ·rename_i he hb
     injection h with h
     injection h with _ h
     subst h
     have hat:(SH.den σ).at? ⟨id,0,off⟩=some (SO.st cs es ep).den:=SH.JU ho (eqB he)
     refine⟨_,?_,WH.rfl',fun _=>rfl⟩
     simp only[SC.den,Z0,hat]
     rw[if_pos ⟨hf',hc',by simpa [SO.den] using leB' hb⟩,SH.Jd]
     simp[SO.den,Zk,SV.Jy]
    ·cases h
   ·cases h
  ·rename_i id ep es k off
   split at h
   ·rename_i c xs ep' ho
    split at h
    ·rename_i he hs hb
     have hat:(SH.den σ).at? ⟨id,ep,k*es+off⟩=some (SO.arr c xs ep').den:=SH.JU ho (eqB he)
     have hb':=leB' hb
     have hlen:((xs.flatMap c.trees).map Cell.t).length=xs.length*c.size:=by rw[List.length_map,Qf]
     have main:∀(hk:k<xs.length) (y:c.ty) (l:List SC),Qg ((c.trees ((xs[k]?).getD c.Xb)).map Cell.t) off v.den.cells=l.map SC.den→c.enc ex l=some y→
       ∃τ,Z0 (SH.den σ) i (.c (SC.el id ep es k off).den) v.den=some τ∧WH τ (SH.den (σ.set id (.arr c (xs.set k y) ep')))∧(ex=true→τ=SH.den (σ.set id (.arr c (xs.set k y) ep'))):=fun hk y l hl hy=>by
      have hle:(k+1)*c.size≤xs.length*c.size:=Nat.mul_le_mul_right _ hk
      rw[Nat.succ_mul]at hle
      obtain⟨hw,hx⟩:=Ly.V8 hy
      refine⟨_,by
       simp only[SC.den,Z0,hat]
       rw[if_pos ⟨hf',hc',by simp only[SO.den,hlen,eqB hs];omega⟩],?_,?_⟩
      all_goals simp only[SH.Jd,SO.den]
      all_goals rw[eqB hs,K5 hk (by rw[hc'];omega),hl]
      ·refine WH.set WH.rfl' ⟨?_,rfl,rfl⟩
       show WL _ (((xs.set k y).flatMap c.trees).map Cell.t)
       rw[qp c y xs k hk,List.map_append,List.map_append,List.map_take,List.map_drop]
       exact(WL.rfl'.append hw).append WL.rfl'
      ·intro hex
       congr 1
       show _=({ cs:=((xs.set k y).flatMap c.trees).map Cell.t,es:=c.size,ep:=ep' }:Obj)
       rw[qp c y xs k hk,List.map_append,List.map_append,List.map_take,List.map_drop,hx hex]
     split at h
     ·rename_i ho0 hsz
      split at h
      ·rename_i y hy
       injection h with h
       injection h with h1 h
       subst h
       have hk:k<xs.length:=by simpa using h1
       exact main hk y v.cells (by rw[eqB ho0,SV.Jy,WI (by rw[List.length_map,List.length_map,c.QK,←eqB hsz];exact eqB hc)]) hy
      ·injection h with h
       injection h with h1 h
       subst h
       have hk:k<xs.length:=by simpa using h1
       have hle:(k+1)*c.size≤xs.length*c.size:=Nat.mul_le_mul_right _ hk
       rw[Nat.succ_mul]at hle
       refine⟨_,by
        simp only[SC.den,Z0,hat]
        rw[if_pos ⟨hf',hc',by simp only[SO.den,hlen,eqB hs];omega⟩],?_⟩
       have e:({ (SO.arr c xs ep').den with cs:=Qg (SO.arr c xs ep').den.cs (k*es+off) v.den.cells }:Obj)=(SO.opn c (xs.take k) v.cells (xs.drop (k+1)) ep').den:=by
        simp only[SO.den]
        rw[eqB hs,K5 hk (by rw[hc'];omega),eqB ho0,WI (by rw[hc',List.length_map,c.QK,eqB hsz]),SV.Jy,List.append_assoc]
        congr 2
        ·rw[←List.map_take,Z6]
        ·rw[←List.map_drop,←Nat.succ_mul,←Xh]
       rw[SH.Jd]
       exact⟨by rw[e];exact WH.rfl',fun _=>by rw[e]⟩
     ·split at h
      ·rename_i y hy
       injection h with h
       injection h with h1 h
       subst h
       have hk:k<xs.length:=by simpa using h1
       exact main hk y _ (by rw[Zk,SV.Jy,c.K3]) hy
      ·cases h
    ·cases h
   ·rename_i cs es' ep' ho
    split at h
    ·rename_i he hs hb
     injection h with h
     injection h with _ h
     subst h
     have hat:(SH.den σ).at? ⟨id,ep,k*es+off⟩=some (SO.st cs es' ep').den:=SH.JU ho (eqB he)
     refine⟨_,?_,WH.rfl',fun _=>rfl⟩
     simp only[SC.den,Z0,hat]
     rw[if_pos ⟨hf',hc',by simpa [SO.den] using leB' hb⟩,SH.Jd]
     simp[SO.den,Zk,SV.Jy]
    ·cases h
   ·rename_i c xs cs ys ep' ho
    split at h
    ·rename_i he hs hb
     injection h with h
     injection h with hk h
     subst h
     have hk:k=xs.length:=by simpa [eqN] using hk
     have hat:(SH.den σ).at? ⟨id,ep,k*es+off⟩=some (SO.opn c xs cs ys ep').den:=SH.JU ho (eqB he)
     have hl:((xs.flatMap c.trees).map Cell.t).length=k*es:=by rw[List.length_map,Qf,hk,eqB hs]
     have hb':=leB' hb
     refine⟨_,?_,WH.rfl',fun _=>rfl⟩
     simp only[SC.den,Z0,hat]
     rw[if_pos ⟨hf',hc',by simp only[SO.den,List.length_append,hl,List.length_map];omega⟩,SH.Jd]
     congr 2
     simp only[SO.den]
     congr 1
     rw[splice_mid (A:=(xs.flatMap c.trees).map Cell.t) hl (by rw[List.length_map,hc'];omega),Zk,SV.Jy]
    ·cases h
   ·cases h
  ·cases h
 ·cases h
end
end Go.Abs
namespace Go.Abs
variable [Gl]
section
variable {P:Program}{ty:TyT}{σ:SH}
theorem intS_ok{op:BinOp}{k:IntKind}{x y:Int}{c:SC}(h:intS op k x y=some (true,c)):(intE op k x y).map .t=some c.den:=by
 unfold intS at h
 unfold intE
 cases op<;>simp only[Option.some.injEq,Prod.mk.injEq,true_and,reduceCtorEq]at h<;>first
  |(subst h;rfl)
  |(obtain⟨h1,rfl⟩:=h;simp only[nz,Bool.not_eq_true',beq_eq_false_iff_ne]at h1;simp[h1,SC.den])
theorem shiftS_ok{op:BinOp}{k:IntKind}{x y:Int}{c:SC}(h:shiftS op k x y=some (true,c)):(qE op k x y).map .t=some c.den:=by
 unfold shiftS at h
 unfold qE
 cases op<;>simp only[Option.some.injEq,Prod.mk.injEq,reduceCtorEq,decide_eq_true_eq]at h<;>(obtain⟨h1,rfl⟩:=h;rw[if_neg (by omega)];rfl)
theorem strS_ok{op:BinOp}{x y:List UInt8}{c:SC}(h:strS op x y=some (true,c)):(strE op x y).map .t=some c.den:=by
 unfold strS at h
 unfold strE
 cases op<;>simp only[Option.some.injEq,Prod.mk.injEq,true_and,reduceCtorEq,leB,decide_eq_true_eq]at h<;>first
  |(subst h;rfl)
  |(obtain⟨h1,rfl⟩:=h;rw[if_pos h1];rfl)
theorem jE{op:BinOp}{x y:Bool}{b:Bool}{c:SC}(h:jF op x y=some (b,c)):b=true∧(UW op x y).map .t=some c.den:=by
 unfold jF at h
 unfold UW
 cases op<;>simp only[Option.some.injEq,Prod.mk.injEq,reduceCtorEq]at h<;>(obtain⟨h1,h2⟩:=h;subst h1;subst h2;exact⟨rfl,rfl⟩)
theorem isPtrK_ok(hty:ZS P ty){t:TypeId}(h:qj ty t=true):∃i e,tinf P t=some i∧i.kind=.ptr e:=by
 unfold qj at h
 split at h
 ·rename_i i c hi
  split at h
  ·rename_i e he;exact⟨i,e,hty.ok t i c hi,he⟩
  ·cases h
 ·cases h
theorem isBoolK_ok(hty:ZS P ty){t:TypeId}(h:isBoolK ty t=true):∃i,tinf P t=some i∧i.kind=.bool:=by
 unfold isBoolK at h
 split at h
 ·rename_i i c hi
  split at h
  ·rename_i he;exact⟨i,hty.ok t i c hi,he⟩
  ·cases h
 ·cases h
theorem cellEqS_ok{k:EK}{a b:SC}{c:Bool}(h:cellEqS k a b=some c):KO k a.den b.den=some c:=by
 unfold cellEqS at h
 split at h
 ·exact h
 ·split at h
  ·rename_i hk
   rw[X7 hk]
   simp only[SC.den,KO,if_true]
   exact h
  ·cases h
 ·exact h
 ·cases h
theorem eqAllS_ok:∀{ks:List EK} {xs ys:List SC} {c:Bool},eqAllS ks xs ys=some c→Xv ks (xs.map SC.den) (ys.map SC.den)=some c
 |[],[],[],c,h=>h
 |[],[],_::_,_,h=>by cases h
 |[],_::_,_,_,h=>by cases h
 |_::_,[],_,_,h=>by cases h
 |_::_,_::_,[],_,h=>by cases h
 |k::ks,x::xs,y::ys,c,h=>by
  simp only[eqAllS]at h
  split at h
  ·rename_i a b h1 h2
   simp only[List.map_cons,Xv,cellEqS_ok h1,eqAllS_ok h2]
   exact h
  ·cases h
theorem binS_ok(hty:ZS P ty){op:BinOp}{xT:TypeId}{x y:SV}{c:SC}(h:binS ty op xT x y=some (true,c)):(binE P op xT x.den y.den).map .t=some c.den:=by
 have hp:∀{b:Bool},(match qj ty xT with|true=>jF op b true|false=>none)=some (true,c)→∃i e,tinf P xT=some i∧i.kind=.ptr e∧(UW op b true).map .t=some c.den:=fun{b} hh=>by
  split at hh
  ·rename_i hk
   obtain⟨i,e,h1,h2⟩:=isPtrK_ok hty hk
   exact⟨i,e,h1,h2,(jE hh).2⟩
  ·cases hh
 unfold binS at h
 split at h
 ·rename_i k a k' b
  simp only[SV.den,SC.den,binE]
  split at h
  ·rename_i hs;rw[hs];exact shiftS_ok h
  ·rename_i hs
   split at h
   ·rename_i hk
    rw[X7 hk]
    simp only[hs,Bool.false_eq_true,if_false,if_true]
    rw[X7 hk]at h
    exact intS_ok h
   ·cases h
 ·exact strS_ok h
 ·split at h
  ·rename_i hk
   obtain⟨i,h1,h2⟩:=isBoolK_ok hty hk
   simp only[SV.den,SC.den,binE,h1,h2]
   exact(jE h).2
  ·cases h
 case h_9=>
  split at h
  ·rename_i i c1 hi
   split at h
   ·rename_i ks hks
    split at h
    ·rename_i b hb
     simp only[SV.den,binE,hty.ok _ _ _ hi,hks,eqAllS_ok hb]
     exact(jE h).2
    ·cases h
   ·cases h
  ·cases h
 all_goals first
  |(obtain⟨i,e,h1,h2,h3⟩:=hp h;simp only[SV.den,SC.den,binE,h1,h2];exact h3)
  |cases h
theorem unS_ok{op:UnOp}{x:SV}{c:SC}(h:unS op x=some c):(unE op x.den).map .t=some c.den:=by
 unfold unS at h
 split at h
 ·injection h with h;subst h;rfl
 ·injection h with h;subst h;rfl
 ·rw[Option.map_eq_some_iff]at h
  obtain⟨p,h1,rfl⟩:=h
  obtain⟨b,c⟩:=p
  have hb:b=true:=by simp only[intS,Option.some.injEq,Prod.mk.injEq]at h1;exact h1.1.symm
  subst hb
  exact intS_ok h1
 ·cases h
theorem convS_ok(hty:ZS P ty){src dst:TypeId}{x:SV}{c:SC}(h:convS ty src dst x=some c):(j3 P src dst x.den).map .t=some c.den:=by
 unfold convS at h
 split at h
 ·rename_i i1 j c2 k n h1 h2
  obtain⟨i1,c1⟩:=i1
  split at h
  ·rename_i k' hk
   injection h with h;subst h
   simp only[SV.den,SC.den,j3,hty.ok _ _ _ h1,hty.ok _ _ _ h2,hk]
   rfl
  ·rename_i hk
   injection h with h;subst h
   simp only[SV.den,SC.den,j3,hty.ok _ _ _ h1,hty.ok _ _ _ h2,hk]
   rfl
  ·cases h
 ·rename_i i1 j c2 n h1 h2
  obtain⟨i1,c1⟩:=i1
  split at h
  ·rename_i hk
   injection h with h;subst h
   simp only[SV.den,SC.den,j3,hty.ok _ _ _ h1,hty.ok _ _ _ h2,hk]
   rfl
  ·cases h
 ·cases h
theorem offS_av {off : Nat} {x y : SC} (h : offS off x = some y) : (match (AV.c x.den) with
         | .c (.ptr r) => some (.c (.ptr { r with off := r.off + off }))
         | .c (.t (.iptr cs)) => some (.c (.t (.iptr (cs.drop off))))
         | _ => none) = some (AV.c y.den) := by
 unfold offS at h
 split at h <;> first | (injection h with h; subst h) | cases h
 · rfl
 · simp only [SC.den,Nat.add_assoc]
 · simp only [SC.den,List.drop_drop]
 · simp only [SC.den,List.drop_drop]
theorem fieldAddrS_ok(hty:ZS P ty){t:TypeId}{x:SV}{f:Nat}{c:SC}(h:Wh ty t x f=some c):Zx P t x.den f=some (.c c.den):=by
 unfold Wh at h
 split at h
 ·rename_i i c1 hi
  split at h
  ·rename_i fs x hk
   split at h
   ·rename_i off ft hf
    split at h
    ·rename_i j c2 hj
     split at h
     ·rename_i hz
      have hz':0<j.size:=ltB hz
      simp only[Zx,hty.ok _ _ _ hi,hk,hf,hty.ok _ _ _ hj]
      rw[if_pos hz']
      exact offS_av h
     ·cases h
    ·cases h
   ·cases h
  ·cases h
 ·cases h
theorem qS{j:J5}{cs:List SC}{off:Nat}{v:SV}(h:qT j cs off=some v):Kx j (cs.map SC.den) off=some v.den:=by
 unfold qT at h
 unfold Kx
 split at h
 ·rename_i ha
  split at h
  ·rename_i hl
   injection h with h
   subst h
   simp[ha,SV.den,leB' hl,List.map_take,List.map_drop]
  ·cases h
 ·rename_i ha
  split at h
  ·rename_i c hc
   injection h with h
   subst h
   simp[ha,hc,SV.den]
  ·cases h
theorem fieldS_ok(hty:ZS P ty){t:TypeId}{x:SV}{f:Nat}{v:SV}(h:fieldS ty t x f=some v):qu P t x.den f=some v.den:=by
 unfold fieldS at h
 split at h
 ·rename_i i c1 hi
  split at h
  ·rename_i fs cs hk
   split at h
   ·rename_i off ft hf
    split at h
    ·rename_i j c2 hj
     simp only[SV.den,qu,hty.ok _ _ _ hi,hk,hf,hty.ok _ _ _ hj]
     exact qS h
    ·cases h
   ·cases h
  ·cases h
 ·cases h
theorem Z3{x:SV}{n:Int}(h:Wc x=some n):Y9 x.den=some n:=by
 unfold Wc at h
 split at h
 ·injection h with h;subst h;rfl
 ·cases h
theorem V0{n:Int}{l:Nat}(h:inR n l=true):0≤n∧n<l:=by simpa [inR] using h
theorem indexAddrS_ok(hty:ZS P ty){t:TypeId}{x i:SV}{c:SC}(h:Wd ty t x i=some (true,c)):Zu P t x.den i.den=some (.c c.den):=by
 unfold Wd at h
 split at h
 ·rename_i inf c1 n hi hn
  simp only[Zu,hty.ok _ _ _ hi,Z3 hn]
  split at h
  ·rename_i e hk
   rw[hk]
   split at h
   ·rename_i j c2 hj
    simp only[hty.ok _ _ _ hj]
    split at h
    ·rename_i id ep es lo len cap
     split at h
     ·rename_i hs
      injection h with h
      injection h with h1 h
      subst h
      simp only[SV.den,SC.den]
      rw[if_pos (V0 h1),eqB hs,Nat.add_mul,Nat.add_zero]
     ·cases h
    ·rename_i c3 xs cap
     split at h
     ·rename_i hs
      injection h with h
      injection h with h1 h
      subst h
      have hr:=V0 h1
      have hk':n.toNat<xs.length:=by omega
      simp only[SV.den,SC.den]
      rw[if_pos hr,←eqB hs,Vl c3 hk',List.drop_zero]
     ·cases h
    ·injection h with h
     injection h with h1 h
     cases h1
    ·cases h
   ·cases h
  ·rename_i len e hk
   rw[hk]
   split at h
   ·rename_i j c2 hj
    simp only[hty.ok _ _ _ hj]
    split at h<;>first|cases h;done|skip
    all_goals
     injection h with h
     injection h with h1 h
     subst h
     simp only[SV.den,SC.den]
     rw[if_pos (V0 h1)]
     try first|rfl|simp only[Nat.add_assoc]|simp only[List.drop_drop]
   ·cases h
  ·cases h
 ·cases h
theorem indexS_ok(hty:ZS P ty){t:TypeId}{x i:SV}{v:SV}(h:indexS ty t x i=some (true,v)):Yp P t x.den i.den=some v.den:=by
 unfold indexS at h
 split at h
 ·rename_i inf c1 n hi hn
  simp only[Yp,hty.ok _ _ _ hi,Z3 hn]
  split at h
  ·rename_i len e cs hk
   have old:∀{j:J5} {c2:Option Ly},ty e=some (j,c2)→(qT j cs (n.toNat*j.size)).map (fun v=>(inR n len,v))=some (true,v)→Yp P t (SV.agg cs).den i.den=some v.den:=fun{j c2} hj h=>by
    rw[Option.map_eq_some_iff]at h
    obtain⟨u,h1,h2⟩:=h
    injection h2 with h2 h3
    subst h3
    simp only[Yp,hty.ok _ _ _ hi,Z3 hn]
    rw[show(SV.agg cs).den=AV.agg (cs.map SC.den) from rfl,hk]
    simp only[hty.ok _ _ _ hj]
    rw[if_pos (V0 h2)]
    exact qS h1
   have back:∀{x:AV},Yp P t (SV.agg cs).den i.den=some x→(match inf.kind,(SV.agg cs).den with
    |.array len e,.agg cs=>match tinf P e with
     |some j=>if 0≤n∧n<len then Kx j cs (n.toNat*j.size) else none
     |none=>none
    |.string,.c (.t (.str s))=>if 0≤n then (match s[n.toNat]? with|some b=>some (aI .u8 b.toNat)|none=>none) else none
    |_,_=>none)=some x:=fun{x} h=>by
    simp only[Yp,hty.ok _ _ _ hi,Z3 hn]at h
    exact h
   split at h
   ·rename_i j c hj
    split at h
    ·rename_i xs hs henc
     rw[Option.map_eq_some_iff]at h
     obtain⟨u,h1,h2⟩:=h
     injection h2 with h2 h3
     subst h3
     rw[show(SV.agg cs).den=AV.agg (cs.map SC.den) from rfl,hk]
     simp only[hty.ok _ _ _ hj]
     have hr:=V0 h2
     rw[if_pos hr]
     obtain⟨q1,q2,q3⟩:=UK henc
     have hn':n.toNat<xs.length:=by omega
     have hp:=qS h1
     have hsz:=eqB hs
     rw[q3 rfl,←hp,Ly.K3]
     have hd:=Vl c hn'
     unfold Kx
     cases hag:j.isAgg with
     |true=>
      simp only[if_true,List.length_map,Nat.zero_add,List.drop_zero,Ly.QK]
      have hle:n.toNat*j.size+j.size≤(xs.flatMap c.trees).length:=by
       have:=congrArg List.length hd
       simp only[List.length_drop,List.length_append,Ly.QK]at this
       rw[hsz]
       have h2:0<c.size:=c.size_pos
       omega
      rw[if_pos hle,if_pos (by omega),←List.map_drop,←List.map_take,←List.map_take,hsz,hd]
      congr 2
      rw[List.take_append_of_le_length (by rw[Ly.QK];exact Nat.le_refl _)]
     |false=>
      simp only[Bool.false_eq_true,if_false]
      rw[←Nat.add_zero (n.toNat*j.size),←List.getElem?_drop,←List.map_drop,hsz,hd,List.map_append,List.getElem?_append_left (by rw[List.length_map,Ly.QK];exact c.size_pos)]
    ·exact back (old hj h)
   ·rename_i j hj
    exact back (old hj h)
   ·cases h
  ·rename_i s hk
   injection h with h
   injection h with h1 h
   subst h
   have hr:=V0 h1
   have hl:n.toNat<s.length:=by omega
   simp only[SV.den,SC.den,hk]
   rw[if_pos hr.1]
   simp[hl,byteAt,aI]
  ·cases h
 ·cases h
theorem extractS_ok{x:SV}{i:Nat}{v:SV}(h:qw x i=some v):YW x.den i=some v.den:=by
 unfold qw at h
 split at h
 ·rename_i xs
  split at h
  ·rename_i c hc
   injection h with h;subst h
   simp[SV.den,YW,hc,UP]
  ·rename_i c hc
   injection h with h;subst h
   simp[SV.den,YW,hc,UP]
  ·cases h
 ·cases h
theorem K1{i:J5}{cs:List SC}(h:zeroS i=some cs):∃z,i.zero=some z∧cs.map SC.den=z.map .t:=by
 unfold zeroS at h
 split at h
 ·rename_i z hz;exact⟨z,hz,qG h⟩
 ·cases h
theorem UH{place:Nat→Option (Nat×Nat)}:∀{ps:List (Nat×SV)} {cs cs':List SC},qt place ps cs=some cs'→Yz place (ps.map fun x=>(x.1,x.2.den)) (cs.map SC.den)=some (cs'.map SC.den)
 |[],cs,cs',h=>by simp only[qt,Option.some.injEq]at h;subst h;rfl
 |(i,v)::ps,cs,cs',h=>by
  simp only[qt]at h
  split at h
  ·rename_i off size hp
   split at h
   ·rename_i h1 h2 h3
    simp only[List.map_cons,Yz,hp]
    rw[if_pos ⟨by rw[SV.qq];exact h1,by rw[SV.Jy,List.length_map];exact eqB h2,by rw[List.length_map];exact leB' h3⟩]
    have:=UH h
    rw[Zk]at this
    rw[SV.Jy]
    exact this
   ·cases h
  ·cases h
theorem qR(hty:ZS P ty):∀{fs:List (Nat×TypeId)} {ps:List (Nat×Nat)},Ww ty fs=some ps→Yk P fs=some ps
 |[],ps,h=>by simp only[Ww,Option.some.injEq]at h;subst h;rfl
 |(off,t)::fs,ps,h=>by
  simp only[Ww]at h
  split at h
  ·rename_i i c ps' h1 h2
   injection h with h
   subst h
   simp[Yk,hty.ok _ _ _ h1,qR hty h2]
  ·cases h
theorem buildS_ok(hty:ZS P ty){t:TypeId}{ps:List (Nat×SV)}{v:SV}(h:buildS ty t ps=some v):jD P t (ps.map fun x=>(x.1,x.2.den))=some v.den:=by
 unfold buildS at h
 split at h
 ·rename_i i c hi
  simp only[jD,hty.ok _ _ _ hi]
  split at h
  ·rename_i z fs hz hk
   obtain⟨z',h1,h2⟩:=K1 hz
   split at h
   ·rename_i places hp
    rw[Option.map_eq_some_iff]at h
    obtain⟨cs,h3,rfl⟩:=h
    simp only[h1,hk,qR hty hp,←h2,UH h3]
    rfl
   ·cases h
  ·rename_i z n e hz hk
   obtain⟨z',h1,h2⟩:=K1 hz
   split at h
   ·rename_i j c2 hj
    rw[Option.map_eq_some_iff]at h
    obtain⟨cs,h3,rfl⟩:=h
    simp only[h1,hk,hty.ok _ _ _ hj,←h2,UH h3]
    rfl
   ·cases h
  ·cases h
 ·cases h
theorem refsS_ok:∀{vs:List SV} {rs:List Ref},refsS vs=some rs→refsOf (vs.map SV.den)=some rs
 |[],rs,h=>by simp only[refsS,Option.some.injEq]at h;subst h;rfl
 |v::vs,rs,h=>by
  cases v with
  |c x=>cases x with
   |ptr id off=>
    simp only[refsS,Option.map_eq_some_iff]at h
    obtain⟨rs',h1,rfl⟩:=h
    simp[SV.den,SC.den,refsOf,refsS_ok h1]
   |_=>cases h
  |_=>cases h
theorem mergeC_ok{b:Bool}{x y z:SC}(h:mergeC b x y=some z):z.den=bif b then x.den else y.den:=by
 unfold mergeC at h
 split at h
 ·injection h with h;subst h;cases b<;>rfl
 ·split at h
  ·rename_i hk;injection h with h;subst h;rw[X7 hk];cases b<;>rfl
  ·cases h
 ·injection h with h;subst h;cases b<;>rfl
 ·injection h with h;subst h;cases b<;>rfl
 ·injection h with h;subst h;cases b<;>rfl
 ·injection h with h;subst h;cases b<;>rfl
 ·injection h with h;subst h;cases b<;>rfl
 ·split at h
  ·rename_i hb
   injection h with h;subst h
   cases b
   ·simp only[cond_false,SC.den,Qo,Qy]
   ·rfl
  ·cases h
 ·split at h
  ·rename_i h1 h2;injection h with h;subst h;rw[eqB h1,eqB h2];cases b<;>rfl
  ·cases h
 ·split at h
  ·rename_i h1 h2 h3;injection h with h;subst h;rw[eqB h1,eqB h2,eqB h3];cases b<;>rfl
  ·cases h
 ·split at h
  ·rename_i h1 h2 h3;injection h with h;subst h;rw[eqB h1,eqB h2,eqB h3];cases b<;>rfl
  ·cases h
 ·split at h
  ·rename_i h1;injection h with h;subst h;rw[eqB h1];cases b<;>rfl
  ·cases h
 ·cases h
theorem qd{b:Bool}:∀{x y z:List SC},U0 b x y=some z→z.map SC.den=bif b then x.map SC.den else y.map SC.den
 |[],[],z,h=>by simp only[U0,Option.some.injEq]at h;subst h;cases b<;>rfl
 |[],_::_,z,h=>by cases h
 |_::_,[],z,h=>by cases h
 |x::xs,y::ys,z,h=>by
  simp only[U0]at h
  split at h
  ·rename_i u us h1 h2
   injection h with h
   subst h
   simp only[List.map_cons,mergeC_ok h1,qd h2]
   cases b<;>rfl
  ·cases h
theorem mergeV_ok{b:Bool}{x y z:SV}(h:mergeV b x y=some z):z.den=bif b then x.den else y.den:=by
 unfold mergeV at h
 split at h
 ·rw[Option.map_eq_some_iff]at h
  obtain⟨u,h1,rfl⟩:=h
  simp only[SV.den,mergeC_ok h1]
  cases b<;>rfl
 ·rw[Option.map_eq_some_iff]at h
  obtain⟨u,h1,rfl⟩:=h
  simp only[SV.den,qd h1]
  cases b<;>rfl
 ·cases h
theorem qc{mx:Bool}{l:List SV}{c:SC}(h:Vg mx l=some c):Y4 mx (l.map SV.den)=some (.c c.den):=by
 unfold Vg at h
 split at h
 ·rename_i k x k' y
  split at h
  ·rename_i hk
   injection h with h
   subst h
   simp only[List.map_cons,List.map_nil,SV.den,SC.den,Y4]
   rw[if_pos (X7 hk)]
   cases mx<;>rfl
  ·cases h
 ·cases h
end
end Go.Abs
