/- A part of the proof. -/
import Derived.Test.YtddaobhpffpmoaaSR7QSyG
set_option linter.all false
namespace Go.Abs
variable [Gl]
def SV.isTS:SV->Bool
 |.c x=>x.isT
 |.agg xs=>Zi xs
 |.tup xs=>xs.all fun|.inl x=>x.isT|.inr xs=>Zi xs
theorem isT_av{c:SC}(h:c.isT=true):c.den.isT=true:=by cases c<;>first|rfl|cases h
theorem qK:∀{cs:List SC},Zi cs=true->(cs.map SC.den).all Cell.isT=true
 |[],_=>rfl
 |c::cs,h=>by
  simp only[Zi]at h;split at h
  ·rename_i hc;simp only[AQ,CO,isT_av hc,qK h,AY]
  ·cases h
theorem isTS_av{v:SV}(h:v.isTS=true):v.den.isT=true:=by
 cases v with
 |c x=>exact isT_av h
 |agg xs=>exact qK h
 |tup xs=>
  simp only[SV.isTS]at h;simp only[SV.den,AV.isT,List.all_map];rw[Bk]at h⊢;intro x hx;have:=h x hx
  cases x with
  |inl x=>exact isT_av this
  |inr xs=>exact qK this
def allSV:List SV->Bool
 |[]=>true
 |v::vs=>match v.isTS with|true=>allSV vs|false=>false
theorem allSV_av:∀{vs:List SV},allSV vs=true->(vs.map SV.den).all AV.isT=true
 |[],_=>rfl
 |v::vs,h=>by
  simp only[allSV]at h;split at h
  ·rename_i hv;simp only[AQ,CO,isTS_av hv,allSV_av h,AY]
  ·cases h
def XE:Nat->List ShV->List (Nat×ShV)
 |_,[]=>[]
 |i,s::l=>(i,s)::XE (i+1) l
structure Sg(X:Type) where
 vs:List ShV
 h:List ShO
 to:ShR.T (XE 0 vs)->ShH.T h->X
 fa:X->ShR.T (XE 0 vs)
 fh:X->ShH.T h
def valsOf:SR->List SV
 |[]=>[]
 |(_,_,v)::r=>v::valsOf r
def Sg.A{X:Type}(g:Sg X)(x:X):List SV:=valsOf (ShR.fill (XE 0 g.vs) (g.fa x))
def Sg.H{X:Type}(g:Sg X)(x:X):SH:=ShH.fill g.h (g.fh x)
@[reducible] def Sg.tm {X:Type} (g:Sg X):Tm:=⟨XE 0 g.vs,g.h⟩
theorem fill_init:∀(l:List ShV) (i:Nat) (x:ShR.T (XE i l)),ShR.fill (XE i l) x=QP i (valsOf (ShR.fill (XE i l) x))
 |[],_,_=>rfl
 |s::l,i,x=>by simp only[XE,ShR.fill,valsOf,QP];congr 1;exact fill_init l (i+1) x.2
theorem ZX:∀(l:List ShV) (i:Nat) (x:ShR.T (XE i l)),(valsOf (ShR.fill (XE i l) x)).length=l.length
 |[],_,_=>rfl
 |s::l,i,x=>by simp only[XE,ShR.fill,valsOf,Ar];rw[ZX l (i+1) x.2]
theorem XV:∀(l:List ShO) (x:ShH.T l),(ShH.fill l x).length=l.length
 |[],_=>rfl
 |s::l,x=>by simp only[ShH.fill,Ar,XV l x.2]
structure QM(P:Program)(f:FuncId){X Y:Type}(g:Sg X)(ft:Ft Y)(run:X->Option Y):Prop where
 to:∀a b,g.fa (g.to a b)=a/\g.fh (g.to a b)=b
 low:g.vs.length<=BIG
 ok:∀x y,run x=some y->Qo P f ((g.A x).map SV.den) (SH.den (g.H x)) λv τ=>v=(ft.V y).den/\τ=SH.den (ft.H y)
theorem QM.lowA{P:Program}{f:FuncId}{X Y:Type}{g:Sg X}{ft:Ft Y}{run:X->Option Y}(h:QM P f g ft run)(x:X):((g.A x).map SV.den).length<=BIG:=by have:(g.A x).length=g.vs.length:=ZX _ _ _;rw[AG,this];exact h.low
theorem QM.mono{P:Program}{f:FuncId}{X Y:Type}{g:Sg X}{ft:Ft Y}{run run':X->Option Y}(h:QM P f g ft run)(hr:∀x y,run' x=some y->run x=some y):QM P f g ft run':=
 ⟨h.to,h.low,λx y hy=>h.ok x y (hr x y hy)⟩
def getArgs{X:Type}(g:Sg X)(as:List SV)(O:SH):Option X:=match Nat.beq as.length g.vs.length,Nat.beq O.length g.h.length with
 |true,true=>match g.tm.get g.h.length (QP 0 as) O with
  |some (true,v)=>some (g.to v.1 v.2)
  |_=>none
 |_,_=>none
section
variable {P:Program}{f:FuncId}{X Y:Type}{g:Sg X}{ft:Ft Y}{run:X->Option Y}
theorem Kt{N n0:Nat}(hto:∀a b,g.fa (g.to a b)=a/\g.fh (g.to a b)=b){as:List SV}{O:SH}{x:X}(h:getArgs g as O=some x):
  as.length=(g.A x).length/\O.length=(g.H x).length/\Qe N O.length (JI (as.map SV.den)) (SH.den O) (JI ((g.A x).map SV.den)) (SH.den (g.H x)):=by
 unfold getArgs at h;split at h
 ·rename_i h1 h2;split at h
  ·rename_i v hv;simp only[A0]at h;obtain⟨a,b⟩:=v;obtain⟨e1,e2⟩:=hto a b;subst h;simp only[Sg.A,Sg.H,e1,e2];refine⟨by rw[ZX];exact eqB h1,by rw[XV];exact eqB h2,?_⟩;have hl:O.length=g.h.length:=eqB h2;rw[hl];have h3:=Tm.Xl (N:=N) hv;refine(QJ (init_sub as).wr WH.rfl').tr (h3.tr (QJ ?_ WH.rfl'))
   -- the registers are the arguments
   have hF:=fill_init g.vs 0 a;show WR (SR.den (ShR.fill (XE 0 g.vs) a)) (JI ((valsOf (ShR.fill (XE 0 g.vs) a)).map SV.den));generalize valsOf (ShR.fill (XE 0 g.vs) a)=vs at hF⊢;rw[hF];refine Qm.wr λt u hu=> ?_;rw[JI,initRegs_get' _ 0 t]at hu;simp only[B4,Ai,Nat.sub_zero,AX,A2]at hu;obtain⟨w,h4,rfl⟩:=hu;have:(QP 0 vs).get t=some ([],w):=(by rw[UE];simp[h4]);rw[SR.QT this];rfl
  ·cases h
 ·cases h
def J9{X Y:Type}(g:Sg X)(ft:Ft Y)(run:X->Option Y)(inh:Y):Con where
 X:=X
 Y:=Y
 dec:=λas _=>match g.h,allSV as with
  |[],true=>getArgs g as []
  |_,_=>none
 run:=run
 inh:=inh
 val:=λ_ y _=>ft.V y
 heap:=λ_ _ O=>O
 rd:=λ_=>some []
theorem QG{inh:Y}(hk:QM P f g ft run)(hft:∀y,(ft.V y).isTS=true)(hh:ft.h=[]):QR P f (J9 g ft run inh):=by
 have key:∀as O x y,(J9 g ft run inh).dec as O=some x->run x=some y->∀τ:Q1,Qo P f (as.map SV.den) τ λv T'=>v=(ft.V y).den/\T'=τ:=λas O x y hx hp τ=>by
  simp only[J9]at hx;split at hx
  ·rename_i h1 h2;obtain⟨h3,h4,h5⟩:=Kt (N:=(as.map SV.den).length) (n0:=0) hk.to hx;have h6:=fn_pre (n0:=([]:SH).length) (O:=SH.den []) (by simp[SH.den]) (by rw[AG,AG];exact h3.symm) (hk.lowA _) h5 (hk.ok x y hp);have hH:SH.den (ft.H y)=[]:=(by have:(ft.H y).length=0:=(by rw[Ft.H,XV,hh];rfl);rw[AN.1 this];rfl);have h7:=fn_any (O:=τ) (Q:=λv=>v=(ft.V y).den) (allSV_av h2) (h6.mono λv T' ⟨e1,e2⟩=>⟨by rw[e1];exact isTS_av (hft _),by rw[e2,hH],e1⟩);exact h7
  ·cases hx
 refine⟨λas O x y hx hp=> ?_,λas O x y rs hx hrs=>⟨rfl,λhp=> ?_⟩⟩
 ·exact(key as O x y hx hp (SH.den O)).mono λv τ ⟨e1,e2⟩=>⟨by rw[e1];exact WV.rfl',by rw[e2];exact WH.rfl'⟩
 ·intro τ _;exact key as O x y hx hp τ
inductive Pth where
 |arg (i j:Nat)
 |cell (k j:Nat)
def refId:SC->Option Nat
 |.ptr id _=>some id
 |.sl id .. =>some id
 |.el id .. =>some id
 |.clo _ [r]=>some r.id
 |_=>none
def bind1(as:List SV)(O:SH)(is:List Nat):Pth->Option Nat
 |.arg i j=>match as[i]? with
  |some v=>match v.cells[j]? with
   |some c=>refId c
   |none=>none
  |none=>none
 |.cell k j=>match is[k]? with
  |some id=>match O[id]? with
   |some (.st cs _ _)=>match cs[j]? with
    |some c=>refId c
    |none=>none
   |_=>none
  |none=>none
def bindL(as:List SV)(O:SH):List Nat->List Pth->Option (List Nat)
 |is,[]=>some is
 |is,p::ps=>match bind1 as O is p with
  |some id=>bindL as O (is++[id]) ps
  |none=>none
def Ya(O:SH)(π:Nat->Nat):List Nat->Option SH
 |[]=>some []
 |i::is=>match O[i]?,Ya O π is with
  |some o,some τ=>some (o.ren π::τ)
  |_,_=>none
def K6(π:Nat->Nat):List Nat->SH->SH->SH
 |i::is,o::τ,O=>K6 π is τ (O.set i (o.ren π))
 |_,_,O=>O
def VM(π:Nat->Nat):SH->SH
 |[]=>[]
 |o::τ=>o.ren π::VM π τ
def Yq(is:List Nat)(x:Nat):Nat:=match UC x is with|true=>idx is x|false=>is.length+x
def Uq(is:List Nat):List Ref->Bool
 |[]=>true
 |r::rs=>match UC r.id is with|true=>Uq is rs|false=>false
def VO(is:List Nat):SC->Bool
 |.ptr id _=>UC id is
 |.el id .. =>UC id is
 |.sl id .. =>UC id is
 |.clo _ rs=>Uq is rs
 |_=>true
def Z5(is:List Nat):List SC->Bool
 |[]=>true
 |c::cs=>match VO is c with|true=>Z5 is cs|false=>false
def refsInV(is:List Nat):SV->Bool
 |.c x=>VO is x
 |.agg xs=>Z5 is xs
 |.tup _=>false
def WB(is:List Nat):List SV->Bool
 |[]=>true
 |v::vs=>match refsInV is v with|true=>WB is vs|false=>false
def refsInO(is:List Nat):SO->Bool
 |.st cs _ _=>Z5 is cs
 |.opn _ _ cs _ _=>Z5 is cs
 |_=>true
def Ur(O:SH)(is:List Nat):List Nat->Bool
 |[]=>true
 |i::l=>match O[i]? with
  |some o=>match refsInO is o with|true=>Ur O is l|false=>false
  |none=>false
def decG{X:Type}(g:Sg X)(ps:List Pth)(as:List SV)(O:SH):Option (List Nat×X):=match bindL as O [] ps with
 |some is=>match UA is,WB is as,Ur O is is with
  |true,true,true=>match Ya O (Yq is) is with
   |some τ=>match getArgs g (as.map (SV.ren (Yq is))) τ with
    |some x=>some (is,x)
    |none=>none
   |none=>none
  |_,_,_=>none
 |none=>none
def UP{X Y:Type}(g:Sg X)(ps:List Pth)(ft:Ft Y)(run:X->Option Y)(inh:Y):Con where
 X:=List Nat×X
 Y:=Y
 dec:=decG g ps
 run:=λx=>run x.2
 inh:=inh
 val:=λx y O=>(ft.V y).ren (X0 x.1 O.length)
 heap:=λx y O=>K6 (X0 x.1 O.length) x.1 (ft.H y) O++VM (X0 x.1 O.length) ((ft.H y).drop x.1.length)
 rd:=λ_=>none
theorem downUp{is:List Nat}{n:Nat}{x:Nat}(h:UC x is=true):X0 is n (Yq is x)=x:=by unfold Yq;rw[h];exact YA (Wa (WQ.1 h))
theorem UZ{is:List Nat}:∀{rs:List Ref},Uq is rs=true->∀r∈rs,UC r.id is=true
 |[],_,r,hr=>by cases hr
 |x::rs,h,r,hr=>by
  simp only[Uq]at h;split at h
  ·rename_i h1;rcases Ag.1 hr with rfl|hr
   ·exact h1
   ·exact UZ h r hr
  ·cases h
theorem ren_up {is : List Nat} {n : Nat} {c : SC} (h : VO is c = true) : upC is n (c.ren (Yq is)).den = c.den := by
 cases c with
 | ptr id o => simp only [SC.ren,SC.den,upC,upR,downUp h]
 | el id ep es j o => simp only [SC.ren,SC.den,upC,upR,downUp h]
 | sl id ep es lo len cap => simp only [SC.ren,SC.den,upC,upR,downUp h]
 | clo f rs =>
   simp only [VO] at h;have h := UZ h;simp only [SC.ren,SC.den,upC,B0];congr 1
   calc _ = rs.map id := Aa λr hr => by
             simp only [Function.comp,Ub,upR,downUp (h r hr),id]
        _ = rs := by simp
 | _ => rfl
theorem Up{is:List Nat}{n:Nat}:∀{l:List SC},Z5 is l=true->((l.map (SC.ren (Yq is))).map SC.den).map (upC is n)=l.map SC.den
 |[],_=>rfl
 |c::l,h=>by
  simp only[Z5]at h;split at h
  ·rename_i hc;simp only[AQ,ren_up hc,Up h]
  ·cases h
theorem renV_up{is:List Nat}{n:Nat}{v:SV}(h:refsInV is v=true):upV is n (v.ren (Yq is)).den=v.den:=by
 cases v with
 |c x=>simp only[SV.ren,SV.den,upV,ren_up (show VO is x=true from h)]
 |agg xs=>simp only[SV.ren,SV.den,upV,Up (show Z5 is xs=true from h)]
 |tup xs=>cases h
theorem renVs_up{is:List Nat}{n:Nat}:∀{l:List SV},WB is l=true->((l.map (SV.ren (Yq is))).map SV.den).map (upV is n)=l.map SV.den
 |[],_=>rfl
 |c::l,h=>by
  simp only[WB]at h;split at h
  ·rename_i hc;simp only[AQ,renV_up hc,renVs_up h]
  ·cases h
theorem renO_up{is:List Nat}{n:Nat}{o:SO}(h:refsInO is o=true):upO is n (o.ren (Yq is)).den=o.den:=by
 cases o with
 |st cs es ep=>simp only[SO.ren,SO.den,upO,Up (show Z5 is cs=true from h)]
 |arr c xs ep=>simp only[SO.ren,SO.den,upO,B0];congr 1
 |zer z c n=>simp only[SO.ren,SO.den,upO,B0];congr 1
 |opn c xs cs ys ep=>have hr:=Up (is:=is) (n:=n) (show Z5 is cs=true from h);have ht:∀ts:List T,(ts.map Cell.t).map (upC is n)=ts.map .t:=λts=>(by simp only[B0];exact Aa λ_ _=>rfl);simp only[SO.ren,SO.den,upO,AZ,ht,hr]
theorem UY{O:SH}{π:Nat->Nat}:∀{is:List Nat} {τ:SH},Ya O π is=some τ->τ.length=is.length/\∀(k i:Nat),is[k]? =some i->∃o,O[i]? =some o/\τ[k]? =some (o.ren π)
 |[],τ,h=>by simp only[Ya,A0]at h;subst h;exact⟨rfl,λk i h=>by simp at h⟩
 |i::is,τ,h=>by
  simp only[Ya]at h;split at h
  ·rename_i o T' h1 h2;injection h with h;subst h;obtain⟨h3,h4⟩:=UY h2;refine⟨by simp[h3],λk i' hk=> ?_⟩
   cases k with
   |zero=>simp at hk;subst hk;exact⟨o,h1,rfl⟩
   |succ k=>simpa using h4 k i' (by simpa using hk)
  ·cases h
theorem VN{O:SH}{is:List Nat}:∀{l:List Nat},Ur O is l=true->∀i∈l,∃o,O[i]? =some o/\refsInO is o=true
 |[],_,i,hi=>by simp at hi
 |j::l,h,i,hi=>by
  simp only[Ur]at h;split at h
  ·rename_i o ho;split at h
   ·rename_i h1;simp only[Ag]at hi;rcases hi with rfl|hi
    ·exact⟨o,ho,h1⟩
    ·exact VN h i hi
   ·cases h
  ·cases h
theorem decG_ok{ps:List Pth}(hk:QM P f g ft run){as:List SV}{O:SH}{is:List Nat}{x:X}{y:Y}(h:decG g ps as O=some (is,x))(hp:run x=some y):
  is.Nodup/\∃(as0:List AV) (τ:Q1),τ.length=is.length/\(∀n (k i:Nat) (o:Obj),is[k]? =some i->τ[k]? =some o->(SH.den O)[i]? =some (upO is n o))/\(∀n,as.map SV.den=as0.map (upV is n))/\
   Qo P f as0 τ λv T'=>v=(ft.V y).den/\T'=SH.den (ft.H y):=by
 unfold decG at h;split at h
 ·rename_i is' hb;split at h
  ·rename_i h1 h2 h3;split at h
   ·rename_i τ ht;split at h
    ·rename_i x' hx;simp only[A0,A4]at h;obtain⟨rfl,rfl⟩:=h;obtain⟨h4,h5⟩:=UY ht;obtain⟨h6,h7,h8⟩:=Kt (N:=((as.map (SV.ren (Yq is'))).map SV.den).length) (n0:=0) hk.to hx;refine⟨K9 h1,(as.map (SV.ren (Yq is'))).map SV.den,SH.den τ,by rw[SH.QE];exact h4,λn k i o hk1 hk2=> ?_,λn=>(renVs_up h2).symm,?_⟩
     ·obtain⟨o',h9,h10⟩:=h5 k i hk1;obtain⟨o'',h11,h12⟩:=VN h3 i (BW hk1);rw[h9]at h11;injection h11 with h11;subst h11;have:=SH.QT h10;rw[hk2]at this;injection this with this;subst this;rw[SH.QT h9,renO_up h12]
     ·exact fn_pre (by rw[SH.QE];exact A9 _) (by rw[AG,AG];exact h6.symm) (hk.lowA _) h8 (hk.ok x' y hp)
    ·cases h
   ·cases h
  ·cases h
 ·cases h
theorem upC_ren(is:List Nat)(n:Nat)(c:SC):upC is n c.den=(c.ren (X0 is n)).den:=by cases c<;>rfl
theorem Kz(is:List Nat)(n:Nat)(l:List SC):(l.map SC.den).map (upC is n)=(l.map (SC.ren (X0 is n))).map SC.den:=by simp only[B0];exact Aa λc _=>upC_ren is n c
theorem upV_ren(is:List Nat)(n:Nat)(v:SV):upV is n v.den=(v.ren (X0 is n)).den:=by
 cases v with
 |c x=>simp only[SV.den,SV.ren,upV,upC_ren]
 |agg xs=>simp only[SV.den,SV.ren,upV,Kz]
 |tup xs=>
  simp only[SV.den,SV.ren,upV,B0];congr 1;refine Aa λx _=> ?_
  cases x with
  |inl x=>simp only[Function.comp,Wp,upP,upC_ren]
  |inr xs=>simp only[Function.comp,Wp,upP,Kz]
theorem upO_ren(is:List Nat)(n:Nat)(o:SO):upO is n o.den=(o.ren (X0 is n)).den:=by
 cases o with
 |st cs es ep=>simp only[SO.den,SO.ren,upO,Kz]
 |arr c xs ep=>simp only[SO.den,SO.ren,upO,B0];congr 1
 |zer z c m=>simp only[SO.den,SO.ren,upO,B0];congr 1
 |opn c xs cs ys ep=>have ht:∀ts:List T,(ts.map Cell.t).map (upC is n)=ts.map .t:=λts=>(by simp only[B0];exact Aa λ_ _=>rfl);simp only[SO.den,SO.ren,upO,AZ,ht,Kz]
theorem Ua(is:List Nat)(n:Nat):∀(js:List Nat) (τ O:SH),Jc (upO is n) js (SH.den τ) (SH.den O)=SH.den (K6 (X0 is n) js τ O)
 |[],_,_=>by simp[Jc,K6]
 |_::_,[],_=>by simp[Jc,K6,SH.den]
 |i::js,o::τ,O=>by have:=Ua is n js τ (O.set i (o.ren (X0 is n)));rw[SH.JJ]at this;show Jc (upO is n) js (SH.den τ) ((SH.den O).set i (upO is n o.den))=_;rw[upO_ren];exact this
theorem VL(is:List Nat)(n:Nat):∀(τ:SH),(SH.den τ).map (upO is n)=SH.den (VM (X0 is n) τ)
 |[]=>rfl
 |o::τ=>by have:=VL is n τ;simp only[SH.den]at this;simp only[SH.den,VM,AQ,upO_ren,this]
theorem XX{inh:Y}{ps:List Pth}(hk:QM P f g ft run):QR P f (UP g ps ft run inh):=by
 refine⟨λas O x y hx hp=> ?_,λas O x y rs hx hrs=>by cases hrs⟩;obtain⟨is,x⟩:=x;obtain⟨hn,as0,τ,h1,h2,h3,h4⟩:=decG_ok hk (show decG g ps as O=some (is,x) from hx) hp;refine(UH (O:=SH.den O) is hn h1 (h2 _) (h3 _) h4).mono λv T' ⟨v0,T0,⟨e1,e2⟩,e3,e4⟩=> ?_;subst e1;subst e2;subst e3;subst e4;simp only[UP,SH.QE];rw[upV_ren];refine⟨WV.rfl',?_⟩;have:Z3 is O.length (SH.den O) (SH.den (ft.H y))=SH.den (K6 (X0 is O.length) is (ft.H y) O++VM (X0 is O.length) ((ft.H y).drop is.length)):=by simp only[Z3,Ua];have:List.drop is.length (SH.den (ft.H y))=SH.den ((ft.H y).drop is.length):=(by simp[SH.den]);rw[this,VL];simp[SH.den]
 rw[this];exact WH.rfl'
end
end Go.Abs
