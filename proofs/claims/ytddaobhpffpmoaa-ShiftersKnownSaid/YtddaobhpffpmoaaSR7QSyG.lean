/- A part of the proof. -/
import Derived.Test.YtddaobhpffpmoaaSR7QSyF
set_option linter.all false
namespace Go.Abs
variable [Gl]
def resS(ty:TyT)(r:SR)(O:SH):List ResultVar->Option (Bool×List SV)
 |[]=>some (true,[])
 |.tmp t::rest=>match r.at [] t,resS ty r O rest with
  |some v,some (p,vs)=>some (p,v::vs)
  |_,_=>none
 |.cell a t::rest=>match ty t,r.at [] a,resS ty r O rest with
  |some (i,_),some (.c x),some (p,vs)=>match loadS O i x with
   |some (q,v)=>some (q&&p,v::vs)
   |none=>none
  |_,_,_=>none
def Vy:List SV->Option (List (SC⊕List SC))
 |[]=>some []
 |v::vs=>match (match v with|.c x=>some (Sum.inl x)|.agg xs=>some (Sum.inr xs)|.tup _=>none),Vy vs with
  |some x,some xs=>some (x::xs)
  |_,_=>none
def packS:List SV->Option SV
 |[v]=>some v
 |vs=>(Vy vs).map .tup
def SC.ren(π:Nat->Nat):SC->SC
 |.ptr id o=>.ptr (π id) o
 |.el id ep es j o=>.el (π id) ep es j o
 |.sl id ep es lo len cap=>.sl (π id) ep es lo len cap
 |.clo f rs=>.clo f (rs.map (Ub π))
 |c=>c
def SV.ren(π:Nat->Nat):SV->SV
 |.c x=>.c (x.ren π)
 |.agg xs=>.agg (xs.map (SC.ren π))
 |.tup xs=>.tup (xs.map fun|.inl x=>.inl (x.ren π)|.inr xs=>.inr (xs.map (SC.ren π)))
def SO.ren(π:Nat->Nat):SO->SO
 |.st cs es ep=>.st (cs.map (SC.ren π)) es ep
 |.arr c xs ep=>.arr c xs ep
 |.zer z c n=>.zer z c n
 |.opn c xs cs ys ep=>.opn c xs (cs.map (SC.ren π)) ys ep
theorem SC.XA(π:Nat->Nat)(c:SC):(c.ren π).den=prC π c.den:=by cases c<;>rfl
theorem SCL.XA(π:Nat->Nat)(l:List SC):(l.map (SC.ren π)).map SC.den=(l.map SC.den).map (prC π):=by simp only[B0];exact Aa λc _=>SC.XA π c
theorem SV.XA(π:Nat->Nat)(v:SV):(v.ren π).den=prV π v.den:=by
 cases v with
 |c x=>simp only[SV.ren,SV.den,prV,SC.XA]
 |agg xs=>simp only[SV.ren,SV.den,prV,SCL.XA]
 |tup xs=>
  simp only[SV.ren,SV.den,prV,B0];congr 1;refine Aa λx _=> ?_
  cases x with
  |inl x=>simp only[Function.comp,Wp,SC.XA]
  |inr xs=>simp only[Function.comp,Wp,SCL.XA]
theorem VQ(π:Nat->Nat)(l:List T):(l.map Cell.t).map (prC π)=l.map .t:=by simp only[B0];exact Aa λc _=>rfl
theorem SO.XA(π:Nat->Nat)(o:SO):(o.ren π).den={ o.den with cs:=o.den.cs.map (prC π) }:=by
 cases o with
 |st cs es ep=>simp only[SO.ren,SO.den,SCL.XA]
 |arr c xs ep=>simp only[SO.ren,SO.den,VQ]
 |zer z c n=>simp only[SO.ren,SO.den,VQ]
 |opn c xs cs ys ep=>simp only[SO.ren,SO.den,AZ,VQ,SCL.XA]
def idx(l:List Nat)(x:Nat):Nat:=match l with
 |[]=>0
 |y::l=>match Nat.beq y x with|true=>0|false=>idx l x+1
def allLt(n:Nat):List Nat->Bool
 |[]=>true
 |x::l=>match Nat.blt x n with|true=>allLt n l|false=>false
def fixB(n0:Nat):Nat->List Nat->Bool
 |_,[]=>true
 |i,x::l=>match Nat.blt i n0 with
  |true=>match Nat.beq x i with|true=>fixB n0 (i+1) l|false=>false
  |false=>true
def permB(n0 len:Nat)(ord:List Nat):Bool:=Nat.beq ord.length len&&UA ord&&allLt len ord&&fixB n0 0 ord&&Nat.ble n0 len
theorem allLt_ok{n:Nat}:∀{l:List Nat},allLt n l=true->∀x∈l,x<n
 |[],_,x,hx=>by simp at hx
 |y::l,h,x,hx=>by
  simp only[allLt]at h;split at h
  ·rename_i h1;simp only[Ag]at hx;rcases hx with rfl|hx
   ·exact ltB h1
   ·exact allLt_ok h x hx
  ·cases h
theorem fixB_ok{n0:Nat}:∀{l:List Nat} {i:Nat},fixB n0 i l=true->∀k,i+k<n0->k<l.length->l[k]? =some (i+k)
 |[],i,_,k,_,hk=>by simp at hk
 |x::l,i,h,k,hk,hl=>by
  simp only[fixB]at h;split at h
  ·split at h
   ·rename_i h2
    cases k with
    |zero=>simp[eqB h2]
    |succ k=>have:=fixB_ok h k (by omega) (by simpa using hl);rw[B9,this];congr 1;omega
   ·cases h
  ·rename_i h1;exfalso;have:¬i<n0:=λhlt=>(by have:Nat.blt i n0=true:=Nat.ble_eq_true_of_le hlt;rw[this]at h1;cases h1);omega
theorem Wa:∀{l:List Nat} {x:Nat},x∈l->l[idx l x]? =some x
 |[],x,h=>by simp at h
 |y::l,x,h=>by
  simp only[idx];split
  ·rename_i h1;simp[eqB h1]
  ·rename_i h1;simp only[Ag]at h;rcases h with rfl|h
   ·exact absurd rfl (UT h1)
   ·simpa using Wa h
theorem idx_lt{l:List Nat}{x:Nat}(h:x∈l):idx l x<l.length:=(AF.1 (Wa h)).1
theorem idx_of{l:List Nat}(hn:l.Nodup){k x:Nat}(h:l[k]? =some x):idx l x=k:=by have h1:=Wa (BW h);obtain⟨h2,h3⟩:=AF.1 h1;obtain⟨h4,h5⟩:=AF.1 h;exact(List.getElem_inj hn).1 (h3.trans h5.symm)
theorem full{l:List Nat}(hn:l.Nodup)(hlt:∀x∈l,x<l.length):∀x,x<l.length->x∈l:=λx hx=>by
 by_cases hm:x∈l
 ·exact hm
 ·have h1:(x::l).Nodup:=CN.2 ⟨hm,hn⟩;have h2:(x::l) ⊆ List.range l.length:=λy hy=>by
   rw[BK];simp only[Ag]at hy;rcases hy with rfl|hy
   ·exact hx
   ·exact hlt y hy
  have:=h1.length_le_of_subset h2;simp at this;omega
theorem permB_ok{n0 len:Nat}{ord:List Nat}(h:permB n0 len ord=true):Perm n0 len (idx ord) (λk=>ord.getD k 0)/\n0<=len/\ord.length=len:=by
 simp only[permB,AC]at h;obtain⟨⟨⟨⟨h1,h2⟩,h3⟩,h4⟩,h5⟩:=h;have hl:=eqB h1;subst hl;have hn:=K9 h2;have hlt:=allLt_ok h3;have hfull:=full hn hlt;have hle:=leB' h5;have hget:∀k (hk:k<ord.length),ord.getD k 0=ord[k]:=λk hk=>by simp[List.getD,hk]
 refine⟨⟨λid hid=> ?_,λid hid=> ?_,λid hid=> ?_,λid hid=> ?_⟩,hle,rfl⟩
 ·have h6:=fixB_ok h4 id (by omega) (by omega);rw[Ac]at h6;refine⟨idx_of hn h6,?_⟩;simp[List.getD,h6]
 ·refine⟨idx_lt (hfull id hid),?_⟩;simp only[hget id hid];exact hlt _ (AJ hid)
 ·have:=Wa (hfull id hid);simp[List.getD,this]
 ·refine idx_of hn ?_;simp only[hget id hid];exact A3 hid
def permH(ord:List Nat)(O:SH):SH:=ord.map λk=>((O[k]?).getD default).ren (idx ord)
theorem permH_ghost{N n0:Nat}{ord:List Nat}{O:SH}{v:SV}(h:permB n0 O.length ord=true):Qe N n0 [(0,v.den)] (SH.den O) [(0,(v.ren (idx ord)).den)] (SH.den (permH ord O)):=by
 obtain⟨h1,h2,h3⟩:=permB_ok h;have:=ghost_perm (N:=N) (r:=[(0,v.den)]) (O:=SH.den O) (n0:=n0) (by rw[SH.QE];exact h2) (by rw[SH.QE];exact h1);rw[SV.XA];have e:SH.den (permH ord O)=(List.range (SH.den O).length).map λi=>let o:=((SH.den O)[ord.getD i 0]?).getD default;{ o with cs:=o.cs.map (prC (idx ord)) }:=by
  refine C8 λi=> ?_;simp only[SH.den,permH,B0,AX,AG];by_cases hi:i<ord.length
  ·have hlt:ord.getD i 0<O.length:=(by have:=(h1.lt i (by omega)).2;exact this);have hg:ord.getD i 0=ord[i]:=(by simp[List.getD,hi]);rw[hg]at hlt;simp[hi,h3▸hi,hlt,SO.XA]
  ·have hi':¬i<O.length:=(by omega);simp[hi,hi']
 rw[e];exact this
structure Ft(Y:Type) where
 ord:Option (List Nat)
 sh:ShV
 h:List ShO
 to:sh.T->ShH.T h->Y
 fv:Y->sh.T
 fh:Y->ShH.T h
def Ft.V{Y:Type}(f:Ft Y)(y:Y):SV:=f.sh.fill (f.fv y)
def Ft.H{Y:Type}(f:Ft Y)(y:Y):SH:=ShH.fill f.h (f.fh y)
def Ft.tm{Y:Type}(f:Ft Y):Tm:=⟨[(0,f.sh)],f.h⟩
def Ft.get{Y:Type}(f:Ft Y)(n0:Nat)(v:SV)(O:SH):Option Y:=match f.ord with
 |none=>match f.tm.get n0 [(0,[],v)] O with
  |some (p,x)=>bif p then some (f.to x.1.1 x.2) else none
  |none=>none
 |some ord=>match permB n0 O.length ord with
  |true=>match f.tm.get n0 [(0,[],v.ren (idx ord))] (permH ord O) with
   |some (p,x)=>bif p then some (f.to x.1.1 x.2) else none
   |none=>none
  |false=>none
def finish{Y:Type}(n0:Nat)(ty:TyT)(rs:List ResultVar)(f:Ft Y):Exit->SR->SH->Option Y:=λe r O=>match (match e with|.normal=>true|.ret=>true|_=>false),resS ty r O rs with
 |true,some (p,vs)=>match packS vs with
  |some v=>bif p then f.get n0 v O else none
  |none=>none
 |_,_=>none
def QP(i:Nat):List SV->SR
 |[]=>[]
 |v::vs=>(i,[],v)::QP (i+1) vs
section
variable {P:Program}{N n0:Nat}
theorem resS_ok{ty:TyT}(hty:Z1 P ty){r:SR}{O:SH}:∀{rs:List ResultVar} {vs:List SV},resS ty r O rs=some (true,vs)->resE P r.den (SH.den O) rs=some (vs.map SV.den)
 |[],vs,h=>by simp only[resS,A0,A4,Ak]at h;subst h;rfl
 |.tmp t::rs,vs,h=>by
  simp only[resS]at h;split at h
  ·rename_i v p vs' h1 h2;simp only[A0,A4]at h;obtain⟨rfl,rfl⟩:=h;have:ev r.den (.tmp t)=some v.den:=QY (L:=[]) Qm.rfl' rfl h1;simp only[ev]at this;simp only[resE,this,resS_ok hty h2,AQ]
  ·cases h
 |.cell a t::rs,vs,h=>by
  simp only[resS]at h;split at h
  ·rename_i i c x p vs' h1 h2 h3;split at h
   ·rename_i q v h4;simp only[A0,A4,AC]at h;obtain⟨⟨rfl,rfl⟩,rfl⟩:=h;have:ev r.den (.tmp a)=some (SV.c x).den:=QY (L:=[]) Qm.rfl' rfl h2;simp only[ev,SV.XW]at this;simp only[resE,hty.ok _ _ _ h1,this,resS_ok hty h3,loadS_ok h4,AQ]
   ·cases h
  ·cases h
theorem compsS_ok:∀{vs:List SV} {xs:List (SC⊕List SC)},Vy vs=some xs->Kw (vs.map SV.den)=some (xs.map Wp)
 |[],xs,h=>by simp only[Vy,A0]at h;subst h;rfl
 |v::vs,xs,h=>by
  simp only[Vy]at h;split at h
  ·rename_i x xs' h1 h2;injection h with h;subst h;have hc:compE v.den=some (Wp x):=by
    cases v with
    |c y=>simp only[A0]at h1;subst h1;rfl
    |agg y=>simp only[A0]at h1;subst h1;rfl
    |tup y=>cases h1
   simp only[AQ,Kw,hc,compsS_ok h2]
  ·cases h
theorem packS_ok{vs:List SV}{v:SV}(h:packS vs=some v):packE (vs.map SV.den)=some v.den:=by
 unfold packS at h;split at h
 ·injection h with h;subst h;rfl
 ·rename_i hne;rw[A2]at h;obtain⟨xs,h1,rfl⟩:=h;have:=compsS_ok h1;unfold packE;split
  ·rename_i u hu
   cases vs with
   |nil=>cases hu
   |cons a as=>cases as with
    |nil=>exact absurd rfl (hne a)
    |cons b bs=>cases hu
  ·rw[this];rfl
theorem Ft.Xl{Y:Type}{f:Ft Y}(hf:∀a b,f.fv (f.to a b)=a/\f.fh (f.to a b)=b){v:SV}{O:SH}{y:Y}(h:f.get n0 v O=some y):Qe N n0 [(0,v.den)] (SH.den O) [(0,(f.V y).den)] (SH.den (f.H y)):=by
 have key:∀{v:SV} {O:SH},(match f.tm.get n0 [(0,[],v)] O with|some (p,x)=>bif p then some (f.to x.1.1 x.2) else none|none=>none)=some y->Qe N n0 [(0,v.den)] (SH.den O) [(0,(f.V y).den)] (SH.den (f.H y)):=λ{v O} h=>by
  split at h
  ·rename_i p x hx
   cases p with
   |false=>cases h
   |true=>simp only[A7,A0]at h;have h1:=Tm.Xl (N:=N) hx;subst h;obtain⟨⟨a,u⟩,b⟩:=x;obtain⟨e1,e2⟩:=hf a b;simp only[Ft.V,Ft.H,e1,e2];exact h1
  ·cases h
 unfold Ft.get at h;split at h
 ·exact key h
 ·rename_i ord;split at h
  ·rename_i hp;exact(permH_ghost hp).tr (key h)
  ·cases h
theorem UE:∀(args:List SV) (i t:Nat),(QP i args).get t=if i<=t then (args[t - i]?).map λv=>([],v) else none
 |[],i,t=>by simp[QP,SR.get]
 |v::vs,i,t=>by
  simp only[QP,SR.get];split
  ·rename_i h;have:=eqB h;subst this;simp
  ·rename_i h;have hne:=UT h;rw[UE vs (i+1) t];by_cases hle:i<=t
   ·have h1:i+1<=t:=(by omega);have h2:t - i=(t - (i+1))+1:=(by omega);simp[hle,h1,h2]
   ·have h1:¬i+1<=t:=(by omega);simp[hle,h1]
theorem initRegs_get':∀(args:List AV) (k t:Nat),Q0.get ((args.zipIdx k).map λ(v,i)=>(i,v)) t=if k<=t then args[t - k]? else none
 |[],k,t=>by simp[Q0.get]
 |v::vs,k,t=>by
  simp only[List.zipIdx_cons,AQ,Q0.get];by_cases h:k=t
  ·subst h;simp
  ·rw[AE h,initRegs_get' vs (k+1) t];by_cases hle:k<=t
   ·have h1:k+1<=t:=(by omega);have h2:t - k=(t - (k+1))+1:=(by omega);simp[hle,h1,h2]
   ·have h1:¬k+1<=t:=(by omega);simp[hle,h1]
theorem init_sub(args:List SV):Qm (JI (args.map SV.den)) (QP 0 args).den:=λt u h=>by obtain⟨tg,v,h1,rfl⟩:=Xv h;rw[UE]at h1;simp only[B4,Ai,Nat.sub_zero,A2]at h1;obtain⟨a,h2,h3⟩:=h1;injection h3 with h3 h4;subst h3;subst h4;rw[JI,initRegs_get' _ 0 t];simp[h2,SR.dv]
theorem fn_ghost{f:FuncId}{args:List AV}{O:Q1}{Q:AV->Q1->Prop}(hn:O.length<=n0)(h:Qo P f args O λv τ=>∃v' T',Qe 1 n0 [(0,v)] τ [(0,v')] T'/\Q v' T'):Qo P f args O Q:=
 ⟨h.1,fun ι w cargs hgl hh ha=>BN (h.2 ι w cargs hgl hh ha) λe w' ⟨v,A',I',cv,h1,⟨v',T',h2,h3⟩,h4,h5,h6⟩=>by
  obtain⟨i'',h7,h8,h9⟩:=h2 I' w' { tmps:= #[cv],defers:=[] } h5 ⟨rfl,by decide,(λt x hx=>by
   simp only[Q0.get]at hx;split at hx
   ·rename_i e;subst e;injection hx with hx;subst hx;exact h4
   ·cases hx),hgl.step h6⟩
  exact⟨v',T',i'',cv,h1,h3,h8.get 0 v' rfl,h7,h9 ι O w hh hn h6⟩⟩
theorem fn_pre{f:FuncId}{args args':List AV}{O A':Q1}{Q:AV->Q1->Prop}(hn:O.length<=n0)(hl:args'.length=args.length)(hb:args'.length<=BIG)(hg:Qe args.length n0 (JI args) O (JI args') A')(h:Qo P f args' A' Q):Qo P f args O Q:=
 ⟨h.1,fun ι w cargs hgl hh ha=>by
  obtain⟨I',h1,h2,h3⟩:=hg ι w { tmps:=cargs,defers:=[] } hh ⟨ha.1,by rw[<-hl];exact hb,(λt x hx=>by
   obtain⟨_,h4⟩:=YJ args 0 t x hx;simp only[Nat.sub_zero]at h4;obtain⟨h5,h6⟩:=AF.1 h4;obtain⟨u,h7,h8⟩:=ha.2 t h5;rw[h6]at h8;unfold lk;rw[AE (by omega)];simpa [h7] using h8),hgl⟩
  have hst:=h3 ι O w hh hn (Step.refl ι O w);refine BN (h.2 I' w cargs h2.gl h1 ⟨by rw[hl];exact ha.1,λi hi=> ?_⟩) λe w' ⟨v,S'',i'',cv,h4,h5,h6,h7,h8⟩=>⟨v,S'',i'',cv,h4,h5,h6,h7,hst.trans h8⟩;have hlt:i<cargs.size:=(by rw[ha.1,<-hl];exact hi);have hg':(JI args').get i=some args'[i]:=(by rw[JI,initRegs_get' args' 0 i];simp[hi]);have:=h2.get i _ hg';unfold lk at this;rw[AE (by omega)]at this;refine⟨cargs[i],by simp[hlt],?_⟩;simpa [hlt] using this⟩
theorem fn_exec(hm:P.follows .mixedOrders=true){E:Env}(hE:Z4 P E){f:FuncId}{rs:List ResultVar}{C:CC}(hs:Q9 P f N rs C){args:List SV}{O:SH}(hn0:O.length=n0)(hn:args.length<=N)
  (hl:QA P N none n0 E (QI C 0)) {Y:Type} {ft:Ft Y} (hf:∀a b,ft.fv (ft.to a b)=a/\ft.fh (ft.to a b)=b) {y:Y} (h:exec E N C 0 (QP 0 args) O (finish n0 E.ty rs ft)=some y) (hyk:Zj P n0 E none) (hg:XQ P N none n0 E none C 0):
  Qo P f (args.map SV.den) (SH.den O) λv τ=>v=(ft.V y).den/\τ=SH.den (ft.H y):=by
 have hlen:(SH.den O).length<=n0:=by rw[SH.QE];omega
 refine fn_ghost hlen ?_;obtain⟨fn,c,ks,ks',h1,h2,h3,rfl,rfl,h6,h7⟩:=hs.ex;refine fn_ok h1 h2 h3 (by simpa using hn) (Au h7) ?_;have hc:Qx P fn.ntmps none n0 none c (JI (args.map SV.den)) (SH.den O) λe ρ τ=>∃r' A',ρ=r'.den/\τ=SH.den A'/\finish n0 E.ty fn.results.toList ft e r' A'=some y:=
  ZC (QJ (init_sub args).wr WH.rfl') (WJ ((exec_ok hm hE hyk hl hg h h6).mono λe ρ τ ⟨r',A',h7,h8,h9⟩=>⟨_,_,QJ h7 h8,r',A',rfl,rfl,h9⟩))
 have hc':Qx P fn.ntmps none (SH.den O).length none c (JI (args.map SV.den)) (SH.den O) λe ρ τ=>∃r' A',ρ=r'.den/\τ=SH.den A'/\finish n0 E.ty fn.results.toList ft e r' A'=some y:=by rw[SH.QE,hn0];exact hc
 refine hc'.toOk.mono λe ρ τ ⟨r',A',e1,e2,h9⟩=> ?_;subst e1;subst e2;unfold finish at h9;split at h9
 ·rename_i p vs he hr;split at h9
  ·rename_i v hv
   cases p with
   |false=>cases h9
   |true=>refine⟨(by cases e<;>first|trivial|cases he),?_⟩;have:retE P fn.results.toList r'.den (SH.den A')=some v.den:=(by simp only[retE,resS_ok hE.ty hr,packS_ok hv]);rw[this];exact⟨_,_,Ft.Xl hf h9,rfl,rfl⟩
  ·cases h9
 ·cases h9
end
end Go.Abs
