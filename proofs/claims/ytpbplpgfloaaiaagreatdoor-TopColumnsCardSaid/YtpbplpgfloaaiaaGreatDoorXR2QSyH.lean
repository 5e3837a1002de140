/- A part of the proof. -/
import Derived.Test.YtpbplpgfloaaiaaGreatDoorXR2QSyG
set_option linter.all false
namespace Go.Abs
variable [Gl]
def SV.isTS:SV->Bool
 |.c x=>x.isT
 |.agg xs=>ZH xs
 |.tup xs=>xs.all fun|.inl x=>x.isT|.inr xs=>ZH xs
theorem isT_av{c:SC}(h:c.isT=true):c.den.isT=true:=by cases c<;>first|rfl|cases h
theorem VA:∀{cs:List SC},ZH cs=true->(cs.map SC.den).all Cell.isT=true
 |[],_=>rfl
 |c::cs,h=>by
  simp only[ZH]at h;split at h
  ·rename_i hc;simp only[AT,CU,isT_av hc,VA h,AG]
  ·cases h
theorem Wz{v:SV}(h:v.isTS=true):v.den.isT=true:=by
 cases v with
 |c x=>exact isT_av h
 |agg xs=>exact VA h
 |tup xs=>
  simp only[SV.isTS]at h;simp only[SV.den,AV.isT,List.all_map];rw[CL]at h⊢;intro x hx;have:=h x hx
  cases x with
  |inl x=>exact isT_av this
  |inr xs=>exact VA this
def allSV:List SV->Bool
 |[]=>true
 |v::vs=>match v.isTS with|true=>allSV vs|false=>false
theorem allSV_av:∀{vs:List SV},allSV vs=true->(vs.map SV.den).all AV.isT=true
 |[],_=>rfl
 |v::vs,h=>by
  simp only[allSV]at h;split at h
  ·rename_i hv;simp only[AT,CU,Wz hv,allSV_av h,AG]
  ·cases h
def Jo:Nat->List ShV->List (Nat×ShV)
 |_,[]=>[]
 |i,s::l=>(i,s)::Jo (i+1) l
structure Sg(X:Type) where
 vs:List ShV
 h:List ShO
 to:ShR.T (Jo 0 vs)->ShH.T h->X
 fa:X->ShR.T (Jo 0 vs)
 fh:X->ShH.T h
def valsOf:SR->List SV
 |[]=>[]
 |(_,_,v)::r=>v::valsOf r
def Sg.A{X:Type}(g:Sg X)(x:X):List SV:=valsOf (ShR.fill (Jo 0 g.vs) (g.fa x))
def Sg.H{X:Type}(g:Sg X)(x:X):SH:=ShH.fill g.h (g.fh x)
@[reducible] def Sg.tm {X:Type} (g:Sg X):Tm:=⟨Jo 0 g.vs,g.h⟩
theorem fill_init:∀(l:List ShV) (i:Nat) (x:ShR.T (Jo i l)),ShR.fill (Jo i l) x=QD i (valsOf (ShR.fill (Jo i l) x))
 |[],_,_=>rfl
 |s::l,i,x=>by simp only[Jo,ShR.fill,valsOf,QD];congr 1;exact fill_init l (i+1) x.2
theorem Z9:∀(l:List ShV) (i:Nat) (x:ShR.T (Jo i l)),(valsOf (ShR.fill (Jo i l) x)).length=l.length
 |[],_,_=>rfl
 |s::l,i,x=>by simp only[Jo,ShR.fill,valsOf,As];rw[Z9 l (i+1) x.2]
theorem XA:∀(l:List ShO) (x:ShH.T l),(ShH.fill l x).length=l.length
 |[],_=>rfl
 |s::l,x=>by simp only[ShH.fill,As,XA l x.2]
structure QB(P:Program)(f:FuncId){X Y:Type}(g:Sg X)(ft:Ft Y)(run:X->Option Y):Prop where
 to:∀a b,g.fa (g.to a b)=a/\g.fh (g.to a b)=b
 low:g.vs.length<=BIG
 ok:∀x y,run x=some y->Qo P f ((g.A x).map SV.den) (SH.den (g.H x)) λv τ=>v=(ft.V y).den/\τ=SH.den (ft.H y)
theorem QB.lowA{P:Program}{f:FuncId}{X Y:Type}{g:Sg X}{ft:Ft Y}{run:X->Option Y}(h:QB P f g ft run)(x:X):((g.A x).map SV.den).length<=BIG:=by have:(g.A x).length=g.vs.length:=Z9 _ _ _;rw[AA,this];exact h.low
theorem QB.mono{P:Program}{f:FuncId}{X Y:Type}{g:Sg X}{ft:Ft Y}{run run':X->Option Y}(h:QB P f g ft run)(hr:∀x y,run' x=some y->run x=some y):QB P f g ft run':=
 ⟨h.to,h.low,λx y hy=>h.ok x y (hr x y hy)⟩
def getArgs{X:Type}(g:Sg X)(as:List SV)(J:SH):Option X:=match Nat.beq as.length g.vs.length,Nat.beq J.length g.h.length with
 |true,true=>match g.tm.get g.h.length (QD 0 as) J with
  |some (true,v)=>some (g.to v.1 v.2)
  |_=>none
 |_,_=>none
section
variable {P:Program}{f:FuncId}{X Y:Type}{g:Sg X}{ft:Ft Y}{run:X->Option Y}
theorem Zv{N n0:Nat}(hto:∀a b,g.fa (g.to a b)=a/\g.fh (g.to a b)=b){as:List SV}{J:SH}{x:X}(h:getArgs g as J=some x):
  as.length=(g.A x).length/\J.length=(g.H x).length/\QW N J.length (Qv (as.map SV.den)) (SH.den J) (Qv ((g.A x).map SV.den)) (SH.den (g.H x)):=by
 unfold getArgs at h;split at h
 ·rename_i h1 h2;split at h
  ·rename_i v hv;simp only[X3]at h;obtain⟨a,b⟩:=v;obtain⟨e1,e2⟩:=hto a b;subst h;simp only[Sg.A,Sg.H,e1,e2];refine⟨by rw[Z9];exact eqB h1,by rw[XA];exact eqB h2,?_⟩;have hl:J.length=g.h.length:=eqB h2;rw[hl];have h3:=Tm.XK (N:=N) hv;refine(QL (init_sub as).wr WH.rfl').tr (h3.tr (QL ?_ WH.rfl'))
   -- the registers are the arguments
   have hF:=fill_init g.vs 0 a;show WR (SR.den (ShR.fill (Jo 0 g.vs) a)) (Qv ((valsOf (ShR.fill (Jo 0 g.vs) a)).map SV.den));generalize valsOf (ShR.fill (Jo 0 g.vs) a)=vs at hF⊢;rw[hF];refine Qk.wr λt u hu=> ?_;rw[Qv,initRegs_get' _ 0 t]at hu;simp only[B0,Ag,Nat.sub_zero,BK,WF]at hu;obtain⟨w,h4,rfl⟩:=hu;have:(QD 0 vs).get t=some ([],w):=(by rw[W9];simp[h4]);rw[SR.QX this];rfl
  ·cases h
 ·cases h
def Qa{X Y:Type}(g:Sg X)(ft:Ft Y)(run:X->Option Y)(inh:Y):Con where
 X:=X
 Y:=Y
 dec:=λas _=>match g.h,allSV as with
  |[],true=>getArgs g as []
  |_,_=>none
 run:=run
 inh:=inh
 val:=λ_ y _=>ft.V y
 heap:=λ_ _ J=>J
 rd:=λ_=>some []
theorem Q9{inh:Y}(hk:QB P f g ft run)(hft:∀y,(ft.V y).isTS=true)(hh:ft.h=[]):QC P f (Qa g ft run inh):=by
 have key:∀as J x y,(Qa g ft run inh).dec as J=some x->run x=some y->∀τ:Q1,Qo P f (as.map SV.den) τ λv T'=>v=(ft.V y).den/\T'=τ:=λas J x y hx hp τ=>by
  simp only[Qa]at hx;split at hx
  ·rename_i h1 h2;obtain⟨h3,h4,h5⟩:=Zv (N:=(as.map SV.den).length) (n0:=0) hk.to hx;have h6:=fn_pre (n0:=([]:SH).length) (J:=SH.den []) (by simp[SH.den]) (by rw[AA,AA];exact h3.symm) (hk.lowA _) h5 (hk.ok x y hp);have hH:SH.den (ft.H y)=[]:=(by have:(ft.H y).length=0:=(by rw[Ft.H,XA,hh];rfl);rw[Al.1 this];rfl);have h7:=fn_any (J:=τ) (Q:=λv=>v=(ft.V y).den) (allSV_av h2) (h6.mono λv T' ⟨e1,e2⟩=>⟨by rw[e1];exact Wz (hft _),by rw[e2,hH],e1⟩);exact h7
  ·cases hx
 refine⟨λas J x y hx hp=> ?_,λas J x y rs hx hrs=>⟨rfl,λhp=> ?_⟩⟩
 ·exact(key as J x y hx hp (SH.den J)).mono λv τ ⟨e1,e2⟩=>⟨by rw[e1];exact WV.rfl',by rw[e2];exact WH.rfl'⟩
 ·intro τ _;exact key as J x y hx hp τ
inductive Pth where
 |arg (i j:Nat)
 |cell (k j:Nat)
def refId:SC->Option Nat
 |.ptr id _=>some id
 |.sl id .. =>some id
 |.el id .. =>some id
 |.clo _ [r]=>some r.id
 |_=>none
def refAtC(j:Nat)(c:SC):Option Nat:=match Nat.div j 100 with
 |0=>refId c
 |m+1=>match c with
  |.clo _ rs=>match rs[m]? with
   |some r=>some r.id
   |none=>none
  |_=>none
def bind1(as:List SV)(J:SH)(is:List Nat):Pth->Option Nat
 |.arg i j=>match as[i]? with
  |some v=>match v.cells[Nat.mod j 100]? with
   |some c=>refAtC j c
   |none=>none
  |none=>none
 |.cell k j=>match is[k]? with
  |some id=>match J[id]? with
   |some (.st cs _ _)=>match cs[Nat.mod j 100]? with
    |some c=>refAtC j c
    |none=>none
   |_=>none
  |none=>none
def bindL(as:List SV)(J:SH):List Nat->List Pth->Option (List Nat)
 |is,[]=>some is
 |is,p::ps=>match bind1 as J is p with
  |some id=>bindL as J (is++[id]) ps
  |none=>none
def ZV(J:SH)(π:Nat->Nat):List Nat->Option SH
 |[]=>some []
 |i::is=>match J[i]?,ZV J π is with
  |some o,some τ=>some (o.ren π::τ)
  |_,_=>none
def YU(π:Nat->Nat):List Nat->SH->SH->SH
 |i::is,o::τ,J=>YU π is τ (J.set i (o.ren π))
 |_,_,J=>J
def UJ(π:Nat->Nat):SH->SH
 |[]=>[]
 |o::τ=>o.ren π::UJ π τ
def Zh(is:List Nat)(x:Nat):Nat:=match Wn x is with|true=>idx is x|false=>is.length+x
def Wu(is:List Nat):List Ref->Bool
 |[]=>true
 |r::rs=>match Wn r.id is with|true=>Wu is rs|false=>false
def UL(is:List Nat):SC->Bool
 |.ptr id _=>Wn id is
 |.el id .. =>Wn id is
 |.sl id .. =>Wn id is
 |.clo _ rs=>Wu is rs
 |_=>true
def Xg(is:List Nat):List SC->Bool
 |[]=>true
 |c::cs=>match UL is c with|true=>Xg is cs|false=>false
def refsInV(is:List Nat):SV->Bool
 |.c x=>UL is x
 |.agg xs=>Xg is xs
 |.tup _=>false
def KM(is:List Nat):List SV->Bool
 |[]=>true
 |v::vs=>match refsInV is v with|true=>KM is vs|false=>false
def refsInO(is:List Nat):SO->Bool
 |.st cs _ _=>Xg is cs
 |.opn _ _ cs _ _=>Xg is cs
 |_=>true
def Wv(J:SH)(is:List Nat):List Nat->Bool
 |[]=>true
 |i::l=>match J[i]? with
  |some o=>match refsInO is o with|true=>Wv J is l|false=>false
  |none=>false
def exC:Sh->SC->Bool
 |.arr _,.arr _ _ none=>true
 |.arrc _,.arr _ _ (some _)=>true
 |.sl _ ep _,.sl _ ep' _ _ _ _=>Nat.beq ep ep'
 |.slc _ ep _,.sl _ ep' _ _ _ _=>Nat.beq ep ep'
 |.bo,.bo _=>true
 |.it _,.it _ _=>true
 |.sg,.sg _=>true
 |.np,.np=>true
 |.nf,.nf=>true
 |.nils,.nils=>true
 |.ip ..,.ip .. =>true
 |.ptr ..,.ptr .. =>true
 |.fn ..,.fn .. =>true
 |.clo ..,.clo .. =>true
 |_,_=>false
def exCL:List Sh->List SC->Bool
 |[],[]=>true
 |s::l,c::cs=>match exC s c with|true=>exCL l cs|false=>false
 |_,_=>false
def exO:ShO->SO->Bool
 |.st l _ ep,.st cs _ ep'=>match Nat.beq ep ep' with|true=>exCL l cs|false=>false
 |.arr _ ep,.arr _ _ ep'=>Nat.beq ep ep'
 |_,_=>false
def exH:List ShO->SH->Bool
 |[],[]=>true
 |s::l,o::J=>match exO s o with|true=>exH l J|false=>false
 |_,_=>false
def decG{X:Type}(g:Sg X)(ps:List Pth)(as:List SV)(J:SH):Option (List Nat×X):=match bindL as J [] ps with
 |some is=>match UX is,KM is as,Wv J is is with
  |true,true,true=>match ZV J (Zh is) is with
   |some τ=>match getArgs g (as.map (SV.ren (Zh is))) τ with
    |some x=>some (is,x)
    |none=>none
   |none=>none
  |_,_,_=>none
 |none=>none
def Km{X Y:Type}(g:Sg X)(ps:List Pth)(ft:Ft Y)(run:X->Option Y)(inh:Y):Con where
 X:=List Nat×X
 Y:=Y
 dec:=decG g ps
 run:=λx=>run x.2
 inh:=inh
 val:=λx y J=>(ft.V y).ren (Je x.1 J.length)
 heap:=λx y J=>YU (Je x.1 J.length) x.1 (ft.H y) J++UJ (Je x.1 J.length) ((ft.H y).drop x.1.length)
 rd:=λ_=>none
def decR{X:Type}(g:Sg X)(ps:List Pth)(as:List SV)(J:SH):Option (List Nat×X):=match decG g ps as J with
 |some (is,x)=>match ZV J (Zh is) is with
  |some τ=>match exH g.h τ with
   |true=>some (is,x)
   |false=>none
  |none=>none
 |none=>none
def ZR{X Y:Type}(g:Sg X)(ps:List Pth)(ft:Ft Y)(run:X->Option Y)(inh:Y):Con where
 X:=List Nat×X
 Y:=Y
 dec:=decR g ps
 run:=λx=>run x.2
 inh:=inh
 val:=λ_ y _=>ft.V y
 heap:=λ_ _ J=>J
 rd:=λx=>some (x.1.map (· +1))
theorem downUp{is:List Nat}{n:Nat}{x:Nat}(h:Wn x is=true):Je is n (Zh is x)=x:=by unfold Zh;rw[h];exact Zl (KY (Ud.1 h))
theorem WZ{is:List Nat}:∀{rs:List Ref},Wu is rs=true->∀r∈rs,Wn r.id is=true
 |[],_,r,hr=>by cases hr
 |x::rs,h,r,hr=>by
  simp only[Wu]at h;split at h
  ·rename_i h1;rcases AW.1 hr with rfl|hr
   ·exact h1
   ·exact WZ h r hr
  ·cases h
theorem ren_up {is : List Nat} {n : Nat} {c : SC} (h : UL is c = true) : upC is n (c.ren (Zh is)).den = c.den := by
 cases c with
 | ptr id o => simp only [SC.ren,SC.den,upC,upR,downUp h]
 | el id ep es j o => simp only [SC.ren,SC.den,upC,upR,downUp h]
 | sl id ep es lo len cap => simp only [SC.ren,SC.den,upC,upR,downUp h]
 | clo f rs =>
   simp only [UL] at h;have h := WZ h;simp only [SC.ren,SC.den,upC,B4];congr 1
   calc _ = rs.map id := Am λr hr => by
             simp only [Function.comp,Wd,upR,downUp (h r hr),id]
        _ = rs := by simp
 | _ => rfl
theorem Ws{is:List Nat}{n:Nat}:∀{l:List SC},Xg is l=true->((l.map (SC.ren (Zh is))).map SC.den).map (upC is n)=l.map SC.den
 |[],_=>rfl
 |c::l,h=>by
  simp only[Xg]at h;split at h
  ·rename_i hc;simp only[AT,ren_up hc,Ws h]
  ·cases h
theorem renV_up{is:List Nat}{n:Nat}{v:SV}(h:refsInV is v=true):upV is n (v.ren (Zh is)).den=v.den:=by
 cases v with
 |c x=>simp only[SV.ren,SV.den,upV,ren_up (show UL is x=true from h)]
 |agg xs=>simp only[SV.ren,SV.den,upV,Ws (show Xg is xs=true from h)]
 |tup xs=>cases h
theorem UH{is:List Nat}{n:Nat}:∀{l:List SV},KM is l=true->((l.map (SV.ren (Zh is))).map SV.den).map (upV is n)=l.map SV.den
 |[],_=>rfl
 |c::l,h=>by
  simp only[KM]at h;split at h
  ·rename_i hc;simp only[AT,renV_up hc,UH h]
  ·cases h
theorem renO_up{is:List Nat}{n:Nat}{o:SO}(h:refsInO is o=true):upO is n (o.ren (Zh is)).den=o.den:=by
 cases o with
 |st cs es ep=>simp only[SO.ren,SO.den,upO,Ws (show Xg is cs=true from h)]
 |arr c xs ep=>simp only[SO.ren,SO.den,upO,B4];congr 1
 |zer z c n=>simp only[SO.ren,SO.den,upO,B4];congr 1
 |opn c xs cs ys ep=>have hr:=Ws (is:=is) (n:=n) (show Xg is cs=true from h);have ht:∀ts:List T,(ts.map Cell.t).map (upC is n)=ts.map .t:=λts=>(by simp only[B4];exact Am λ_ _=>rfl);simp only[SO.ren,SO.den,upO,AZ,ht,hr]
theorem Y8{J:SH}{π:Nat->Nat}:∀{is:List Nat} {τ:SH},ZV J π is=some τ->τ.length=is.length/\∀(k i:Nat),is[k]? =some i->∃o,J[i]? =some o/\τ[k]? =some (o.ren π)
 |[],τ,h=>by simp only[ZV,X3]at h;subst h;exact⟨rfl,λk i h=>by simp at h⟩
 |i::is,τ,h=>by
  simp only[ZV]at h;split at h
  ·rename_i o T' h1 h2;injection h with h;subst h;obtain⟨h3,h4⟩:=Y8 h2;refine⟨by simp[h3],λk i' hk=> ?_⟩
   cases k with
   |zero=>simp at hk;subst hk;exact⟨o,h1,rfl⟩
   |succ k=>simpa using h4 k i' (by simpa using hk)
  ·cases h
theorem Yw{J:SH}{is:List Nat}:∀{l:List Nat},Wv J is l=true->∀i∈l,∃o,J[i]? =some o/\refsInO is o=true
 |[],_,i,hi=>by simp at hi
 |j::l,h,i,hi=>by
  simp only[Wv]at h;split at h
  ·rename_i o ho;split at h
   ·rename_i h1;simp only[AW]at hi;rcases hi with rfl|hi
    ·exact⟨o,ho,h1⟩
    ·exact Yw h i hi
   ·cases h
  ·cases h
theorem decG_ok{ps:List Pth}(hk:QB P f g ft run){as:List SV}{J:SH}{is:List Nat}{x:X}{y:Y}(h:decG g ps as J=some (is,x))(hp:run x=some y):
  is.Nodup/\∃(as0:List AV) (τ:Q1),τ.length=is.length/\(∀n (k i:Nat) (o:Obj),is[k]? =some i->τ[k]? =some o->(SH.den J)[i]? =some (upO is n o))/\(∀n,as.map SV.den=as0.map (upV is n))/\
   Qo P f as0 τ λv T'=>v=(ft.V y).den/\T'=SH.den (ft.H y):=by
 unfold decG at h;split at h
 ·rename_i is' hb;split at h
  ·rename_i h1 h2 h3;split at h
   ·rename_i τ ht;split at h
    ·rename_i x' hx;simp only[X3,A0]at h;obtain⟨rfl,rfl⟩:=h;obtain⟨h4,h5⟩:=Y8 ht;obtain⟨h6,h7,h8⟩:=Zv (N:=((as.map (SV.ren (Zh is'))).map SV.den).length) (n0:=0) hk.to hx;refine⟨YW h1,(as.map (SV.ren (Zh is'))).map SV.den,SH.den τ,by rw[SH.QI];exact h4,λn k i o hk1 hk2=> ?_,λn=>(UH h2).symm,?_⟩
     ·obtain⟨o',h9,h10⟩:=h5 k i hk1;obtain⟨o'',h11,h12⟩:=Yw h3 i (BM hk1);rw[h9]at h11;injection h11 with h11;subst h11;have:=SH.QX h10;rw[hk2]at this;injection this with this;subst this;rw[SH.QX h9,renO_up h12]
     ·exact fn_pre (by rw[SH.QI];exact A6 _) (by rw[AA,AA];exact h6.symm) (hk.lowA _) h8 (hk.ok x' y hp)
    ·cases h
   ·cases h
  ·cases h
 ·cases h
theorem upC_ren(is:List Nat)(n:Nat)(c:SC):upC is n c.den=(c.ren (Je is n)).den:=by cases c<;>rfl
theorem KK(is:List Nat)(n:Nat)(l:List SC):(l.map SC.den).map (upC is n)=(l.map (SC.ren (Je is n))).map SC.den:=by simp only[B4];exact Am λc _=>upC_ren is n c
theorem upV_ren(is:List Nat)(n:Nat)(v:SV):upV is n v.den=(v.ren (Je is n)).den:=by
 cases v with
 |c x=>simp only[SV.den,SV.ren,upV,upC_ren]
 |agg xs=>simp only[SV.den,SV.ren,upV,KK]
 |tup xs=>
  simp only[SV.den,SV.ren,upV,B4];congr 1;refine Am λx _=> ?_
  cases x with
  |inl x=>simp only[Function.comp,Kk,upP,upC_ren]
  |inr xs=>simp only[Function.comp,Kk,upP,KK]
theorem upO_ren(is:List Nat)(n:Nat)(o:SO):upO is n o.den=(o.ren (Je is n)).den:=by
 cases o with
 |st cs es ep=>simp only[SO.den,SO.ren,upO,KK]
 |arr c xs ep=>simp only[SO.den,SO.ren,upO,B4];congr 1
 |zer z c m=>simp only[SO.den,SO.ren,upO,B4];congr 1
 |opn c xs cs ys ep=>have ht:∀ts:List T,(ts.map Cell.t).map (upC is n)=ts.map .t:=λts=>(by simp only[B4];exact Am λ_ _=>rfl);simp only[SO.den,SO.ren,upO,AZ,ht,KK]
theorem Wb(is:List Nat)(n:Nat):∀(js:List Nat) (τ J:SH),J8 (upO is n) js (SH.den τ) (SH.den J)=SH.den (YU (Je is n) js τ J)
 |[],_,_=>by simp[J8,YU]
 |_::_,[],_=>by simp[J8,YU,SH.den]
 |i::js,o::τ,J=>by have:=Wb is n js τ (J.set i (o.ren (Je is n)));rw[SH.J7]at this;show J8 (upO is n) js (SH.den τ) ((SH.den J).set i (upO is n o.den))=_;rw[upO_ren];exact this
theorem UI(is:List Nat)(n:Nat):∀(τ:SH),(SH.den τ).map (upO is n)=SH.den (UJ (Je is n) τ)
 |[]=>rfl
 |o::τ=>by have:=UI is n τ;simp only[SH.den]at this;simp only[SH.den,UJ,AT,upO_ren,this]
theorem Jn{inh:Y}{ps:List Pth}(hk:QB P f g ft run):QC P f (Km g ps ft run inh):=by
 refine⟨λas J x y hx hp=> ?_,λas J x y rs hx hrs=>by cases hrs⟩;obtain⟨is,x⟩:=x;obtain⟨hn,as0,τ,h1,h2,h3,h4⟩:=decG_ok hk (show decG g ps as J=some (is,x) from hx) hp;refine(Yb (J:=SH.den J) is hn h1 (h2 _) (h3 _) h4).mono λv T' ⟨v0,T0,⟨e1,e2⟩,e3,e4⟩=> ?_;subst e1;subst e2;subst e3;subst e4;simp only[Km,SH.QI];rw[upV_ren];refine⟨WV.rfl',?_⟩;have:XW is J.length (SH.den J) (SH.den (ft.H y))=SH.den (YU (Je is J.length) is (ft.H y) J++UJ (Je is J.length) ((ft.H y).drop is.length)):=by simp only[XW,Wb];have:List.drop is.length (SH.den (ft.H y))=SH.den ((ft.H y).drop is.length):=(by simp[SH.den]);rw[this,UI];simp[SH.den]
 rw[this];exact WH.rfl'
theorem exC_ok{n1:Nat}{J:SH}{e:Nat->Nat}:∀{s:Sh} {c:SC} {x:s.T},ZQ n1 J e s c=some (true,x)->exC s c=true->c.den=(s.fill x).den:=by
 intro s c x h hx;unfold exC at hx;split at hx<;>first|cases hx;done|skip
 all_goals simp only[ZQ]at h
 ·split at h
  ·simp only[X3,A0,Aa]at h;subst h;simp only[Sh.fill,SC.den,QY,Qh]
  ·cases h
 ·split at h
  ·simp only[X3,A0,Aa]at h;subst h;simp only[Sh.fill,SC.den,QY,Qh]
  ·cases h
 ·split at h
  ·rename_i e1;split at h
   ·rename_i h1 h2 h3 h4 h5;injection e1 with a1 a2 a3 a4 a5 a6;subst a1;subst a2;subst a3;subst a4;subst a5;subst a6;simp only[X3,A0,Aa]at h;subst h;simp only[Sh.fill,SC.den,eqB h1,eqB h2,eqB hx]
   ·cases h
  ·cases h
 ·split at h
  ·rename_i e1;split at h
   ·rename_i h1 h2 h3 h4 h5;injection e1 with a1 a2 a3 a4 a5 a6;subst a1;subst a2;subst a3;subst a4;subst a5;subst a6;simp only[X3,A0,Aa]at h;subst h;simp only[Sh.fill,SC.den,eqB h1,eqB h2,eqB hx]
   ·cases h
  ·cases h
 ·simp only[X3,A0,Aa]at h;subst h;rfl
 ·split at h
  ·rename_i hk;simp only[X3,A0,Aa]at h;subst h;rw[JE hk];rfl
  ·cases h
 ·simp only[X3,A0,Aa]at h;subst h;rfl
 ·rfl
 ·rfl
 ·rfl
 ·split at h
  ·rename_i ho;split at h
   ·simp only[X3,A0,Aa]at h;subst h;simp only[Sh.fill,SC.den,KG,eqB ho]
   ·cases h
  ·cases h
 ·split at h
  ·rename_i h1 h2 h3 h4 h5;simp only[Sh.fill,SC.den,eqB h1,eqB h2]
  ·cases h
 ·split at h
  ·rename_i hf;rw[eqB hf];rfl
  ·cases h
 ·split at h
  ·rename_i h1 h2 h3;rw[eqB h1,WM h2];rfl
  ·cases h
theorem exCL_ok{n1:Nat}{J:SH}{e:Nat->Nat}:∀{s:List Sh} {c:List SC} {x:ShL.T s},Yi n1 J e s c=some (true,x)->exCL s c=true->c.map SC.den=(ShL.fill s x).map SC.den
 |[],[],_,_,_=>rfl
 |[],_::_,_,_,hx=>by cases hx
 |_::_,[],_,_,hx=>by cases hx
 |s::l,c::cs,x,h,hx=>by
  simp only[Yi]at h;split at h
  ·rename_i p y q z h1 h2;simp only[X3,A0,A9]at h;obtain⟨⟨rfl,rfl⟩,rfl⟩:=h;simp only[exCL]at hx;split at hx
   ·rename_i h3;simp only[AT,ShL.fill,exC_ok h1 h3,exCL_ok h2 hx]
   ·cases hx
  ·cases h
theorem exH_ok{n0 n1:Nat}{J:SH}{e:Nat->Nat}:∀{l:List ShO} {τ:SH} {i:Nat} {x:ShH.T l},getH n0 n1 J e i l τ=some (true,x)->exH l τ=true->SH.den τ=SH.den (ShH.fill l x)
 |[],[],_,_,_,_=>rfl
 |[],_::_,_,_,_,hx=>by cases hx
 |_::_,[],_,_,_,hx=>by cases hx
 |s::l,o::τ,i,x,h,hx=>by
  simp only[getH]at h;split at h
  ·split at h
   ·rename_i p y q z h1 h2;simp only[X3,A0,A9]at h;obtain⟨⟨rfl,rfl⟩,rfl⟩:=h;simp only[exH]at hx;split at hx
    ·rename_i h3;have ih:=exH_ok h2 hx;have ho:o.den=(s.fill y).den:=by
      cases s with
      |st l es ep=>cases o with
       |st cs es' ep'=>
        simp only[exO]at h3;split at h3
        ·rename_i h4;simp only[getO]at h1;split at h1
         ·rename_i h5;simp only[SO.den,ShO.fill,exCL_ok h1 h3,eqB h4,eqB h5]
         ·cases h1
        ·cases h3
       |_=>cases h3
      |arr a ep=>cases o with
       |arr c xs ep'=>
        simp only[exO]at h3;simp only[getO]at h1;split at h1
        ·rename_i hb;simp only[X3,A0,Aa]at h1;subst h1;simp only[SO.den,ShO.fill,QY,JN hb,eqB h3]
        ·cases h1
       |_=>cases h3
      |opn a l ep=>cases o<;>cases h3
     show o.den::SH.den τ=(s.fill y).den::SH.den (ShH.fill l z);rw[ho,ih]
    ·cases hx
   ·cases h
  ·cases h
theorem getArgs_exact(hto:∀a b,g.fa (g.to a b)=a/\g.fh (g.to a b)=b){as:List SV}{J:SH}{x:X}(h:getArgs g as J=some x)(hx:exH g.h J=true):SH.den J=SH.den (g.H x):=by
 unfold getArgs at h;split at h
 ·split at h
  ·rename_i v hv;simp only[X3]at h;obtain⟨a,b⟩:=v;obtain⟨e1,e2⟩:=hto a b;subst h;simp only[Sg.H,e2];unfold Tm.get at hv;split at hv
   ·split at hv
    ·rename_i p y q z h1 h2;simp only[X3,A0,A9]at hv;obtain⟨⟨rfl,rfl⟩,rfl,rfl⟩:=hv;exact exH_ok h2 hx
    ·cases hv
   ·cases hv
  ·cases h
 ·cases h
theorem J4{inh:Y}{ps:List Pth}(hk:QB P f g ft run)(hft:∀y,(ft.V y).isTS=true)(hh:∀x y,run x=some y->ft.H y=g.H x):QC P f (ZR g ps ft run inh):=by
 have key:∀as J is x y,decR g ps as J=some (is,x)->run x=some y->ZJ P f (as.map SV.den) (SH.den J) (is.map (· +1)) (ft.V y).den:=λas J is x y hx hp=>by
  unfold decR at hx;split at hx
  ·rename_i is0 x0 hd;split at hx
   ·rename_i T0 ht0;split at hx
    ·rename_i hex;simp only[X3,A0]at hx;obtain⟨rfl,rfl⟩:=hx;unfold decG at hd;split at hd
     ·rename_i is' hb;split at hd
      ·rename_i h1 h2 h3;split at hd
       ·rename_i τ ht;split at hd
        ·rename_i x' hx1;simp only[X3,A0]at hd;obtain⟨rfl,rfl⟩:=hd;rw[ht]at ht0;injection ht0 with ht0;subst ht0;obtain⟨h4,h5⟩:=Y8 ht;obtain⟨h6,h7,h8⟩:=Zv (N:=((as.map (SV.ren (Zh is'))).map SV.den).length) (n0:=0) hk.to hx1;have hw:=getArgs_exact hk.to hx1 hex;have h9:=fn_pre (by rw[SH.QI];exact A6 _) (by rw[AA,AA];exact h6.symm) (hk.lowA _) h8 (hk.ok x' y hp);refine const_read is' (YW h1) (τ:=SH.den τ) (by rw[SH.QI];exact h4) (λn k i o hk1 hk2=> ?_) (λn=>(UH (n:=n) h2).symm) (Wz (hft _)) (h9.mono λv T' ⟨e1,e2⟩=>⟨e1,by rw[e2,hh x' y hp,hw]⟩);obtain⟨o',h9,h10⟩:=h5 k i hk1;obtain⟨o'',h11,h12⟩:=Yw h3 i (BM hk1);rw[h9]at h11;injection h11 with h11;subst h11;have:=SH.QX h10;rw[hk2]at this;injection this with this;subst this;rw[SH.QX h9,renO_up h12]
        ·cases hd
       ·cases hd
      ·cases hd
     ·cases hd
    ·cases hx
   ·cases hx
  ·cases hx
 refine⟨λas J x y hx hp=> ?_,λas J x y rs hx hrs=>⟨rfl,λhp=> ?_⟩⟩
 ·obtain⟨is,x⟩:=x;exact(key as J is x y hx hp (SH.den J) (λc _=>agC.refl _ c)).mono λv τ ⟨e1,e2⟩=>⟨by rw[e1];exact WV.rfl',by rw[e2];exact WH.rfl'⟩
 ·obtain⟨is,x⟩:=x;simp only[ZR,X3]at hrs;subst hrs;exact key as J is x y hx hp
end
end Go.Abs
