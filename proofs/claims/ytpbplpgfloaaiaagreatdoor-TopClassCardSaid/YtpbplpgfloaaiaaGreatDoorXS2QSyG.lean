/- A part of the proof. -/
import Derived.Test.YtpbplpgfloaaiaaGreatDoorXS2QSyF
set_option linter.all false
namespace Go.Abs
variable [Gl]
def resS(ty:TyT)(r:SR)(M:SH):List ResultVar->Option (Bool×List SV)
 |[]=>some (true,[])
 |.tmp t::rest=>match r.at [] t,resS ty r M rest with
  |some v,some (p,vs)=>some (p,v::vs)
  |_,_=>none
 |.cell a t::rest=>match ty t,r.at [] a,resS ty r M rest with
  |some (i,_),some (.c x),some (p,vs)=>match loadS M i x with
   |some (q,v)=>some (q&&p,v::vs)
   |none=>none
  |_,_,_=>none
def Vo:List SV->Option (List (SC⊕List SC))
 |[]=>some []
 |v::vs=>match (match v with|.c x=>some (Sum.inl x)|.agg xs=>some (Sum.inr xs)|.tup _=>none),Vo vs with
  |some x,some xs=>some (x::xs)
  |_,_=>none
def packS:List SV->Option SV
 |[v]=>some v
 |vs=>(Vo vs).map .tup
def SC.ren(π:Nat->Nat):SC->SC
 |.ptr id o=>.ptr (π id) o
 |.el id ep es j o=>.el (π id) ep es j o
 |.sl id ep es lo len cap=>.sl (π id) ep es lo len cap
 |.clo f rs=>.clo f (rs.map (UT π))
 |c=>c
def SV.ren(π:Nat->Nat):SV->SV
 |.c x=>.c (x.ren π)
 |.agg xs=>.agg (xs.map (SC.ren π))
 |.tup xs=>.tup (xs.map fun|.inl x=>.inl (x.ren π)|.inr xs=>.inr (xs.map (SC.ren π)))
def SO.ren(π:Nat->Nat):SO->SO
 |.st cs es ep=>.st (cs.map (SC.ren π)) es ep
 |.arr c xs ep=>.arr c xs ep
 |.zer z c n=>.zer z c n
 |.opn c xs cs ys ep=>.opn c xs (cs.map (SC.ren π)) ys ep
def SC.XN(π:Nat->Nat)(c:SC):(c.ren π).den=prC π c.den:=by cases c<;>rfl
def SCL.XN(π:Nat->Nat)(l:List SC):(l.map (SC.ren π)).map SC.den=(l.map SC.den).map (prC π):=by simp only[BL];exact Ai λc _=>SC.XN π c
def SV.XN(π:Nat->Nat)(v:SV):(v.ren π).den=prV π v.den:=by
 cases v with
 |c x=>simp only[SV.ren,SV.den,prV,SC.XN]
 |agg xs=>simp only[SV.ren,SV.den,prV,SCL.XN]
 |tup xs=>
  simp only[SV.ren,SV.den,prV,BL];congr 1;refine Ai λx _=> ?_
  cases x with
  |inl x=>simp only[Function.comp,Wn,SC.XN]
  |inr xs=>simp only[Function.comp,Wn,SCL.XN]
def VE(π:Nat->Nat)(l:List T):(l.map Cell.t).map (prC π)=l.map .t:=by simp only[BL];exact Ai λc _=>rfl
def SO.XN(π:Nat->Nat)(o:SO):(o.ren π).den={ o.den with cs:=o.den.cs.map (prC π) }:=by
 cases o with
 |st cs es ep=>simp only[SO.ren,SO.den,SCL.XN]
 |arr c xs ep=>simp only[SO.ren,SO.den,VE]
 |zer z c n=>simp only[SO.ren,SO.den,VE]
 |opn c xs cs ys ep=>simp only[SO.ren,SO.den,AS,VE,SCL.XN]
def idx(l:List Nat)(x:Nat):Nat:=match l with
 |[]=>0
 |y::l=>match Nat.beq y x with|true=>0|false=>idx l x+1
def allLt(n:Nat):List Nat->Bool
 |[]=>true
 |x::l=>match Nat.blt x n with|true=>allLt n l|false=>false
def fixB(n0:Nat):Nat->List Nat->Bool
 |_,[]=>true
 |i,x::l=>match Nat.blt i n0 with
  |true=>match Nat.beq x i with|true=>fixB n0 (i+1) l|false=>false
  |false=>true
def permB(n0 len:Nat)(ord:List Nat):Bool:=Nat.beq ord.length len&&VO ord&&allLt len ord&&fixB n0 0 ord&&Nat.ble n0 len
def allLt_ok{n:Nat}:∀{l:List Nat},allLt n l=true->∀x∈l,x<n
 |[],_,x,hx=>by simp at hx
 |y::l,h,x,hx=>by
  simp only[allLt]at h;split at h
  ·rename_i h1;simp only[AT]at hx;rcases hx with rfl|hx
   ·exact ltB h1
   ·exact allLt_ok h x hx
  ·cases h
def fixB_ok{n0:Nat}:∀{l:List Nat} {i:Nat},fixB n0 i l=true->∀k,i+k<n0->k<l.length->l[k]? =some (i+k)
 |[],i,_,k,_,hk=>by simp at hk
 |x::l,i,h,k,hk,hl=>by
  simp only[fixB]at h;split at h
  ·split at h
   ·rename_i h2
    cases k with
    |zero=>simp[eqB h2]
    |succ k=>have:=fixB_ok h k (by omega) (by simpa using hl);rw[BG,this];congr 1;omega
   ·cases h
  ·rename_i h1;exfalso;have:¬i<n0:=λhlt=>(by have:Nat.blt i n0=true:=CB hlt;rw[this]at h1;cases h1);omega
def WZ:∀{l:List Nat} {x:Nat},x∈l->l[idx l x]? =some x
 |[],x,h=>by simp at h
 |y::l,x,h=>by
  simp only[idx];split
  ·rename_i h1;simp[eqB h1]
  ·rename_i h1;simp only[AT]at h;rcases h with rfl|h
   ·exact absurd rfl (UM h1)
   ·simpa using WZ h
def idx_lt{l:List Nat}{x:Nat}(h:x∈l):idx l x<l.length:=(AD.1 (WZ h)).1
def idx_of{l:List Nat}(hn:l.Nodup){k x:Nat}(h:l[k]? =some x):idx l x=k:=by have h1:=WZ (BX h);obtain⟨h2,h3⟩:=AD.1 h1;obtain⟨h4,h5⟩:=AD.1 h;exact(List.getElem_inj hn).1 (h3.trans h5.symm)
def full{l:List Nat}(hn:l.Nodup)(hlt:∀x∈l,x<l.length):∀x,x<l.length->x∈l:=λx hx=>by
 by_cases hm:x∈l
 ·exact hm
 ·have h1:(x::l).Nodup:=List.nodup_cons.2 ⟨hm,hn⟩;have h2:(x::l) ⊆ List.range l.length:=λy hy=>by
   rw[Bg];simp only[AT]at hy;rcases hy with rfl|hy
   ·exact hx
   ·exact hlt y hy
  have:=h1.length_le_of_subset h2;simp at this;omega
def permB_ok{n0 len:Nat}{ord:List Nat}(h:permB n0 len ord=true):Perm n0 len (idx ord) (λk=>ord.getD k 0)/\n0<=len/\ord.length=len:=by
 simp only[permB,AJ]at h;obtain⟨⟨⟨⟨h1,h2⟩,h3⟩,h4⟩,h5⟩:=h;have hl:=eqB h1;subst hl;have hn:=K8 h2;have hlt:=allLt_ok h3;have hfull:=full hn hlt;have hle:=leB' h5;have hget:∀k (hk:k<ord.length),ord.getD k 0=ord[k]:=λk hk=>by simp[List.getD,hk]
 refine⟨⟨λid hid=> ?_,λid hid=> ?_,λid hid=> ?_,λid hid=> ?_⟩,hle,rfl⟩
 ·have h6:=fixB_ok h4 id (by omega) (by omega);rw[AF]at h6;refine⟨idx_of hn h6,?_⟩;simp[List.getD,h6]
 ·refine⟨idx_lt (hfull id hid),?_⟩;simp only[hget id hid];exact hlt _ (A9 hid)
 ·have:=WZ (hfull id hid);simp[List.getD,this]
 ·refine idx_of hn ?_;simp only[hget id hid];exact A4 hid
def permH(ord:List Nat)(M:SH):SH:=ord.map λk=>((M[k]?).getD default).ren (idx ord)
def permH_ghost{N n0:Nat}{ord:List Nat}{M:SH}{v:SV}(h:permB n0 M.length ord=true):J0 N n0 [(0,v.den)] (SH.den M) [(0,(v.ren (idx ord)).den)] (SH.den (permH ord M)):=by
 obtain⟨h1,h2,h3⟩:=permB_ok h;have:=ghost_perm (N:=N) (r:=[(0,v.den)]) (M:=SH.den M) (n0:=n0) (by rw[SH.QU];exact h2) (by rw[SH.QU];exact h1);rw[SV.XN];have e:SH.den (permH ord M)=(List.range (SH.den M).length).map λi=>let o:=((SH.den M)[ord.getD i 0]?).getD default;{ o with cs:=o.cs.map (prC (idx ord)) }:=by
  refine List.ext_getElem? λi=> ?_;simp only[SH.den,permH,BL,BY,AE];by_cases hi:i<ord.length
  ·have hlt:ord.getD i 0<M.length:=(by have:=(h1.lt i (by omega)).2;exact this);have hg:ord.getD i 0=ord[i]:=(by simp[List.getD,hi]);rw[hg]at hlt;simp[hi,h3▸hi,hlt,SO.XN]
  ·have hi':¬i<M.length:=(by omega);simp[hi,hi']
 rw[e];exact this
structure Ft(Y:Type) where
 ord:Option (List Nat)
 sh:ShV
 h:List ShO
 to:sh.T->ShH.T h->Y
 fv:Y->sh.T
 fh:Y->ShH.T h
def Ft.V{Y:Type}(f:Ft Y)(y:Y):SV:=f.sh.fill (f.fv y)
def Ft.H{Y:Type}(f:Ft Y)(y:Y):SH:=ShH.fill f.h (f.fh y)
def Ft.tm{Y:Type}(f:Ft Y):Tm:=⟨[(0,f.sh)],f.h⟩
def Ft.get{Y:Type}(f:Ft Y)(n0:Nat)(v:SV)(M:SH):Option Y:=match f.ord with
 |none=>match f.tm.get n0 [(0,[],v)] M with
  |some (p,x)=>bif p then some (f.to x.1.1 x.2) else none
  |none=>none
 |some ord=>match permB n0 M.length ord with
  |true=>match f.tm.get n0 [(0,[],v.ren (idx ord))] (permH ord M) with
   |some (p,x)=>bif p then some (f.to x.1.1 x.2) else none
   |none=>none
  |false=>none
def finish{Y:Type}(n0:Nat)(ty:TyT)(rs:List ResultVar)(f:Ft Y):Exit->SR->SH->Option Y:=λe r M=>match (match e with|.normal=>true|.ret=>true|_=>false),resS ty r M rs with
 |true,some (p,vs)=>match packS vs with
  |some v=>bif p then f.get n0 v M else none
  |none=>none
 |_,_=>none
def Zd(i:Nat):List SV->SR
 |[]=>[]
 |v::vs=>(i,[],v)::Zd (i+1) vs
section
variable {P:Program}{N n0:Nat}
def resS_ok{ty:TyT}(hty:ZF P ty){r:SR}{M:SH}:∀{rs:List ResultVar} {vs:List SV},resS ty r M rs=some (true,vs)->resE P r.den (SH.den M) rs=some (vs.map SV.den)
 |[],vs,h=>by simp only[resS,Kn,A0,Ah]at h;subst h;rfl
 |.tmp t::rs,vs,h=>by
  simp only[resS]at h;split at h
  ·rename_i v p vs' h1 h2;simp only[Kn,A0]at h;obtain⟨rfl,rfl⟩:=h;have:ev r.den (.tmp t)=some v.den:=Qs (L:=[]) JE.rfl' rfl h1;simp only[ev]at this;simp only[resE,this,resS_ok hty h2,AY]
  ·cases h
 |.cell a t::rs,vs,h=>by
  simp only[resS]at h;split at h
  ·rename_i i c x p vs' h1 h2 h3;split at h
   ·rename_i q v h4;simp only[Kn,A0,AJ]at h;obtain⟨⟨rfl,rfl⟩,rfl⟩:=h;have:ev r.den (.tmp a)=some (SV.c x).den:=Qs (L:=[]) JE.rfl' rfl h2;simp only[ev,SV.XL]at this;simp only[resE,hty.ok _ _ _ h1,this,resS_ok hty h3,loadS_ok h4,AY]
   ·cases h
  ·cases h
def compsS_ok:∀{vs:List SV} {xs:List (SC⊕List SC)},Vo vs=some xs->Ky (vs.map SV.den)=some (xs.map Wn)
 |[],xs,h=>by simp only[Vo,Kn]at h;subst h;rfl
 |v::vs,xs,h=>by
  simp only[Vo]at h;split at h
  ·rename_i x xs' h1 h2;injection h with h;subst h;have hc:compE v.den=some (Wn x):=by
    cases v with
    |c y=>simp only[Kn]at h1;subst h1;rfl
    |agg y=>simp only[Kn]at h1;subst h1;rfl
    |tup y=>cases h1
   simp only[AY,Ky,hc,compsS_ok h2]
  ·cases h
def packS_ok{vs:List SV}{v:SV}(h:packS vs=some v):packE (vs.map SV.den)=some v.den:=by
 unfold packS at h;split at h
 ·injection h with h;subst h;rfl
 ·rename_i hne;rw[WF]at h;obtain⟨xs,h1,rfl⟩:=h;have:=compsS_ok h1;unfold packE;split
  ·rename_i u hu
   cases vs with
   |nil=>cases hu
   |cons a as=>cases as with
    |nil=>exact absurd rfl (hne a)
    |cons b bs=>cases hu
  ·rw[this];rfl
def Ft.Xx{Y:Type}{f:Ft Y}(hf:∀a b,f.fv (f.to a b)=a/\f.fh (f.to a b)=b){v:SV}{M:SH}{y:Y}(h:f.get n0 v M=some y):J0 N n0 [(0,v.den)] (SH.den M) [(0,(f.V y).den)] (SH.den (f.H y)):=by
 have key:∀{v:SV} {M:SH},(match f.tm.get n0 [(0,[],v)] M with|some (p,x)=>bif p then some (f.to x.1.1 x.2) else none|none=>none)=some y->J0 N n0 [(0,v.den)] (SH.den M) [(0,(f.V y).den)] (SH.den (f.H y)):=λ{v M} h=>by
  split at h
  ·rename_i p x hx
   cases p with
   |false=>cases h
   |true=>simp only[A6,Kn]at h;have h1:=Tm.Xx (N:=N) hx;subst h;obtain⟨⟨a,u⟩,b⟩:=x;obtain⟨e1,e2⟩:=hf a b;simp only[Ft.V,Ft.H,e1,e2];exact h1
  ·cases h
 unfold Ft.get at h;split at h
 ·exact key h
 ·rename_i ord;split at h
  ·rename_i hp;exact(permH_ghost hp).tr (key h)
  ·cases h
def UB:∀(args:List SV) (i t:Nat),(Zd i args).get t=if i<=t then (args[t - i]?).map λv=>([],v) else none
 |[],i,t=>by simp[Zd,SR.get]
 |v::vs,i,t=>by
  simp only[Zd,SR.get];split
  ·rename_i h;have:=eqB h;subst this;simp
  ·rename_i h;have hne:=UM h;rw[UB vs (i+1) t];by_cases hle:i<=t
   ·have h1:i+1<=t:=(by omega);have h2:t - i=(t - (i+1))+1:=(by omega);simp[hle,h1,h2]
   ·have h1:¬i+1<=t:=(by omega);simp[hle,h1]
def initRegs_get':∀(args:List AV) (k t:Nat),QB.get ((args.zipIdx k).map λ(v,i)=>(i,v)) t=if k<=t then args[t - k]? else none
 |[],k,t=>by simp[QB.get]
 |v::vs,k,t=>by
  simp only[List.zipIdx_cons,AY,QB.get];by_cases h:k=t
  ·subst h;simp
  ·rw[AK h,initRegs_get' vs (k+1) t];by_cases hle:k<=t
   ·have h1:k+1<=t:=(by omega);have h2:t - k=(t - (k+1))+1:=(by omega);simp[hle,h1,h2]
   ·have h1:¬k+1<=t:=(by omega);simp[hle,h1]
def init_sub(args:List SV):JE (JV (args.map SV.den)) (Zd 0 args).den:=λt u h=>by obtain⟨tg,v,h1,rfl⟩:=Zi h;rw[UB]at h1;simp only[Af,Aq,Nat.sub_zero,WF]at h1;obtain⟨a,h2,h3⟩:=h1;injection h3 with h3 h4;subst h3;subst h4;rw[JV,initRegs_get' _ 0 t];simp[h2,SR.dv]
def fn_ghost{f:FuncId}{args:List AV}{M:QA}{Q:AV->QA->Prop}(hn:M.length<=n0)(h:Jw P f args M λv τ=>∃v' A',J0 1 n0 [(0,v)] τ [(0,v')] A'/\Q v' A'):Jw P f args M Q:=
 ⟨h.1,λO w cargs hgl hh ha=>Bt (h.2 O w cargs hgl hh ha) λe w' ⟨v,S',I',cv,h1,⟨v',A',h2,h3⟩,h4,h5,h6⟩=>by
  obtain⟨i'',h7,h8,h9⟩:=h2 I' w' { tmps:= #[cv],defers:=[] } h5 ⟨rfl,by decide,(λt x hx=>by
   simp only[QB.get]at hx;split at hx
   ·rename_i e;subst e;injection hx with hx;subst hx;exact h4
   ·cases hx),hgl.step h6⟩
  exact⟨v',A',i'',cv,h1,h3,h8.get 0 v' rfl,h7,h9 O M w hh hn h6⟩⟩
def Vc{f:FuncId}{args args':List AV}{M S':QA}{Q:AV->QA->Prop}(hn:M.length<=n0)(hl:args'.length=args.length)(hb:args'.length<=BIG)(hg:J0 args.length n0 (JV args) M (JV args') S')(h:Jw P f args' S' Q):Jw P f args M Q:=
 ⟨h.1,λO w cargs hgl hh ha=>by
  obtain⟨I',h1,h2,h3⟩:=hg O w { tmps:=cargs,defers:=[] } hh ⟨ha.1,by rw[<-hl];exact hb,(λt x hx=>by
   obtain⟨_,h4⟩:=YS args 0 t x hx;simp only[Nat.sub_zero]at h4;obtain⟨h5,h6⟩:=AD.1 h4;obtain⟨u,h7,h8⟩:=ha.2 t h5;rw[h6]at h8;unfold lk;rw[AK (by omega)];simpa [h7] using h8),hgl⟩
  have hst:=h3 O M w hh hn (Step.refl O M w);refine Bt (h.2 I' w cargs h2.gl h1 ⟨by rw[hl];exact ha.1,λi hi=> ?_⟩) λe w' ⟨v,S'',i'',cv,h4,h5,h6,h7,h8⟩=>⟨v,S'',i'',cv,h4,h5,h6,h7,hst.trans h8⟩;have hlt:i<cargs.size:=(by rw[ha.1,<-hl];exact hi);have hg':(JV args').get i=some args'[i]:=(by rw[JV,initRegs_get' args' 0 i];simp[hi]);have:=h2.get i _ hg';unfold lk at this;rw[AK (by omega)]at this;refine⟨cargs[i],by simp[hlt],?_⟩;simpa [hlt] using this⟩
def fn_exec(hm:P.follows .mixedOrders=true){E:Env}(hE:Zk P E){f:FuncId}{rs:List ResultVar}{C:CC}(hs:QD P f N rs C){args:List SV}{M:SH}(hn0:M.length=n0)(hn:args.length<=N)
  (hl:QX P N none n0 E (Xr C 0)) {Y:Type} {ft:Ft Y} (hf:∀a b,ft.fv (ft.to a b)=a/\ft.fh (ft.to a b)=b) {y:Y} (h:exec E N C 0 (Zd 0 args) M (finish n0 E.ty rs ft)=some y) (hyk:ZI P n0 E none) (hg:Jb P N none n0 E none C 0):
  Jw P f (args.map SV.den) (SH.den M) λv τ=>v=(ft.V y).den/\τ=SH.den (ft.H y):=by
 have hlen:(SH.den M).length<=n0:=by rw[SH.QU];omega
 refine fn_ghost hlen ?_;obtain⟨fn,c,ks,ks',h1,h2,h3,rfl,rfl,h6,h7⟩:=hs.ex;refine fn_ok h1 h2 h3 (by simpa using hn) (BQ h7) ?_;have hc:JQ P fn.ntmps none n0 none c (JV (args.map SV.den)) (SH.den M) λe ρ τ=>∃r' S',ρ=r'.den/\τ=SH.den S'/\finish n0 E.ty fn.results.toList ft e r' S'=some y:=
  Xu (Qi (init_sub args).wr WH.rfl') (WN ((exec_ok hm hE hyk hl hg h h6).mono λe ρ τ ⟨r',S',h7,h8,h9⟩=>⟨_,_,Qi h7 h8,r',S',rfl,rfl,h9⟩))
 have hc':JQ P fn.ntmps none (SH.den M).length none c (JV (args.map SV.den)) (SH.den M) λe ρ τ=>∃r' S',ρ=r'.den/\τ=SH.den S'/\finish n0 E.ty fn.results.toList ft e r' S'=some y:=by rw[SH.QU,hn0];exact hc
 refine hc'.toOk.mono λe ρ τ ⟨r',S',e1,e2,h9⟩=> ?_;subst e1;subst e2;unfold finish at h9;split at h9
 ·rename_i p vs he hr;split at h9
  ·rename_i v hv
   cases p with
   |false=>cases h9
   |true=>refine⟨(by cases e<;>first|trivial|cases he),?_⟩;have:V8 P fn.results.toList r'.den (SH.den S')=some v.den:=(by simp only[V8,resS_ok hE.ty hr,packS_ok hv]);rw[this];exact⟨_,_,Ft.Xx hf h9,rfl,rfl⟩
  ·cases h9
 ·cases h9
end
end Go.Abs
