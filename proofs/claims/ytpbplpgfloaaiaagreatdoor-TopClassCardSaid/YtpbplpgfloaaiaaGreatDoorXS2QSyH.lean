/- A part of the proof. -/
import Derived.Test.YtpbplpgfloaaiaaGreatDoorXS2QSyG
set_option linter.all false
namespace Go.Abs
variable [Gl]
def SV.isTS:SV->Bool
 |.c x=>x.isT
 |.agg xs=>Zv xs
 |.tup xs=>xs.all fun|.inl x=>x.isT|.inr xs=>Zv xs
def isT_av{c:SC}(h:c.isT=true):c.den.isT=true:=by cases c<;>first|rfl|cases h
def Vz:∀{cs:List SC},Zv cs=true->(cs.map SC.den).all Cell.isT=true
 |[],_=>rfl
 |c::cs,h=>by
  simp only[Zv]at h;split at h
  ·rename_i hc;simp only[AY,Ca,isT_av hc,Vz h,AH]
  ·cases h
def Ur{v:SV}(h:v.isTS=true):v.den.isT=true:=by
 cases v with
 |c x=>exact isT_av h
 |agg xs=>exact Vz h
 |tup xs=>
  simp only[SV.isTS]at h;simp only[SV.den,AV.isT,List.all_map];rw[List.all_eq_true]at h⊢;intro x hx;have:=h x hx
  cases x with
  |inl x=>exact isT_av this
  |inr xs=>exact Vz this
def allSV:List SV->Bool
 |[]=>true
 |v::vs=>match v.isTS with|true=>allSV vs|false=>false
def allSV_av:∀{vs:List SV},allSV vs=true->(vs.map SV.den).all AV.isT=true
 |[],_=>rfl
 |v::vs,h=>by
  simp only[allSV]at h;split at h
  ·rename_i hv;simp only[AY,Ca,Ur hv,allSV_av h,AH]
  ·cases h
def XP:Nat->List ShV->List (Nat×ShV)
 |_,[]=>[]
 |i,s::l=>(i,s)::XP (i+1) l
structure Sg(X:Type) where
 vs:List ShV
 h:List ShO
 to:ShR.T (XP 0 vs)->ShH.T h->X
 fa:X->ShR.T (XP 0 vs)
 fh:X->ShH.T h
def valsOf:SR->List SV
 |[]=>[]
 |(_,_,v)::r=>v::valsOf r
def Sg.A{X:Type}(g:Sg X)(x:X):List SV:=valsOf (ShR.fill (XP 0 g.vs) (g.fa x))
def Sg.H{X:Type}(g:Sg X)(x:X):SH:=ShH.fill g.h (g.fh x)
@[reducible] def Sg.tm {X:Type} (g:Sg X):Tm:=⟨XP 0 g.vs,g.h⟩
def fill_init:∀(l:List ShV) (i:Nat) (x:ShR.T (XP i l)),ShR.fill (XP i l) x=Zd i (valsOf (ShR.fill (XP i l) x))
 |[],_,_=>rfl
 |s::l,i,x=>by simp only[XP,ShR.fill,valsOf,Zd];congr 1;exact fill_init l (i+1) x.2
def Zl:∀(l:List ShV) (i:Nat) (x:ShR.T (XP i l)),(valsOf (ShR.fill (XP i l) x)).length=l.length
 |[],_,_=>rfl
 |s::l,i,x=>by simp only[XP,ShR.fill,valsOf,As];rw[Zl l (i+1) x.2]
def Xm:∀(l:List ShO) (x:ShH.T l),(ShH.fill l x).length=l.length
 |[],_=>rfl
 |s::l,x=>by simp only[ShH.fill,As,Xm l x.2]
structure QQ(P:Program)(f:FuncId){X Y:Type}(g:Sg X)(ft:Ft Y)(run:X->Option Y):Prop where
 to:∀a b,g.fa (g.to a b)=a/\g.fh (g.to a b)=b
 low:g.vs.length<=BIG
 ok:∀x y,run x=some y->Jw P f ((g.A x).map SV.den) (SH.den (g.H x)) λv τ=>v=(ft.V y).den/\τ=SH.den (ft.H y)
def QQ.lowA{P:Program}{f:FuncId}{X Y:Type}{g:Sg X}{ft:Ft Y}{run:X->Option Y}(h:QQ P f g ft run)(x:X):((g.A x).map SV.den).length<=BIG:=by have:(g.A x).length=g.vs.length:=Zl _ _ _;rw[AE,this];exact h.low
def QQ.mono{P:Program}{f:FuncId}{X Y:Type}{g:Sg X}{ft:Ft Y}{run run':X->Option Y}(h:QQ P f g ft run)(hr:∀x y,run' x=some y->run x=some y):QQ P f g ft run':=
 ⟨h.to,h.low,λx y hy=>h.ok x y (hr x y hy)⟩
def getArgs{X:Type}(g:Sg X)(as:List SV)(M:SH):Option X:=match Nat.beq as.length g.vs.length,Nat.beq M.length g.h.length with
 |true,true=>match g.tm.get g.h.length (Zd 0 as) M with
  |some (true,v)=>some (g.to v.1 v.2)
  |_=>none
 |_,_=>none
section
variable {P:Program}{f:FuncId}{X Y:Type}{g:Sg X}{ft:Ft Y}{run:X->Option Y}
def Ze{N n0:Nat}(hto:∀a b,g.fa (g.to a b)=a/\g.fh (g.to a b)=b){as:List SV}{M:SH}{x:X}(h:getArgs g as M=some x):
  as.length=(g.A x).length/\M.length=(g.H x).length/\J0 N M.length (JV (as.map SV.den)) (SH.den M) (JV ((g.A x).map SV.den)) (SH.den (g.H x)):=by
 unfold getArgs at h;split at h
 ·rename_i h1 h2;split at h
  ·rename_i v hv;simp only[Kn]at h;obtain⟨a,b⟩:=v;obtain⟨e1,e2⟩:=hto a b;subst h;simp only[Sg.A,Sg.H,e1,e2];refine⟨by rw[Zl];exact eqB h1,by rw[Xm];exact eqB h2,?_⟩;have hl:M.length=g.h.length:=eqB h2;rw[hl];have h3:=Tm.Xx (N:=N) hv;refine(Qi (init_sub as).wr WH.rfl').tr (h3.tr (Qi ?_ WH.rfl'))
   -- the registers are the arguments
   have hF:=fill_init g.vs 0 a;show WR (SR.den (ShR.fill (XP 0 g.vs) a)) (JV ((valsOf (ShR.fill (XP 0 g.vs) a)).map SV.den));generalize valsOf (ShR.fill (XP 0 g.vs) a)=vs at hF⊢;rw[hF];refine JE.wr λt u hu=> ?_;rw[JV,initRegs_get' _ 0 t]at hu;simp only[Af,Aq,Nat.sub_zero,BY,WF]at hu;obtain⟨w,h4,rfl⟩:=hu;have:(Zd 0 vs).get t=some ([],w):=(by rw[UB];simp[h4]);rw[SR.Qy this];rfl
  ·cases h
 ·cases h
def conT{X Y:Type}(g:Sg X)(ft:Ft Y)(run:X->Option Y)(inh:Y):Con where
 X:=X
 Y:=Y
 dec:=λas _=>match g.h,allSV as with
  |[],true=>getArgs g as []
  |_,_=>none
 run:=run
 inh:=inh
 val:=λ_ y _=>ft.V y
 heap:=λ_ _ M=>M
 rd:=λ_=>some []
def conT_ok{inh:Y}(hk:QQ P f g ft run)(hft:∀y,(ft.V y).isTS=true)(hh:ft.h=[]):J4 P f (conT g ft run inh):=by
 have key:∀as M x y,(conT g ft run inh).dec as M=some x->run x=some y->∀τ:QA,Jw P f (as.map SV.den) τ λv A'=>v=(ft.V y).den/\A'=τ:=λas M x y hx hp τ=>by
  simp only[conT]at hx;split at hx
  ·rename_i h1 h2;obtain⟨h3,h4,h5⟩:=Ze (N:=(as.map SV.den).length) (n0:=0) hk.to hx;have h6:=Vc (n0:=([]:SH).length) (M:=SH.den []) (by simp[SH.den]) (by rw[AE,AE];exact h3.symm) (hk.lowA _) h5 (hk.ok x y hp);have hH:SH.den (ft.H y)=[]:=(by have:(ft.H y).length=0:=(by rw[Ft.H,Xm,hh];rfl);rw[Au.1 this];rfl);have h7:=fn_any (M:=τ) (Q:=λv=>v=(ft.V y).den) (allSV_av h2) (h6.mono λv A' ⟨e1,e2⟩=>⟨by rw[e1];exact Ur (hft _),by rw[e2,hH],e1⟩);exact h7
  ·cases hx
 refine⟨λas M x y hx hp=> ?_,λas M x y rs hx hrs=>⟨rfl,λhp=> ?_⟩⟩
 ·exact(key as M x y hx hp (SH.den M)).mono λv τ ⟨e1,e2⟩=>⟨by rw[e1];exact WV.rfl',by rw[e2];exact WH.rfl'⟩
 ·intro τ _;exact key as M x y hx hp τ
inductive Pth where
 |arg (i j:Nat)
 |cell (k j:Nat)
def refId:SC->Option Nat
 |.ptr id _=>some id
 |.sl id .. =>some id
 |.el id .. =>some id
 |.clo _ [r]=>some r.id
 |_=>none
def refAtC(j:Nat)(c:SC):Option Nat:=match Nat.div j 100 with
 |0=>refId c
 |m+1=>match c with
  |.clo _ rs=>match rs[m]? with
   |some r=>some r.id
   |none=>none
  |_=>none
def bind1(as:List SV)(M:SH)(is:List Nat):Pth->Option Nat
 |.arg i j=>match as[i]? with
  |some v=>match v.cells[Nat.mod j 100]? with
   |some c=>refAtC j c
   |none=>none
  |none=>none
 |.cell k j=>match is[k]? with
  |some id=>match M[id]? with
   |some (.st cs _ _)=>match cs[Nat.mod j 100]? with
    |some c=>refAtC j c
    |none=>none
   |_=>none
  |none=>none
def bindL(as:List SV)(M:SH):List Nat->List Pth->Option (List Nat)
 |is,[]=>some is
 |is,p::ps=>match bind1 as M is p with
  |some id=>bindL as M (is++[id]) ps
  |none=>none
def Y6(M:SH)(π:Nat->Nat):List Nat->Option SH
 |[]=>some []
 |i::is=>match M[i]?,Y6 M π is with
  |some o,some τ=>some (o.ren π::τ)
  |_,_=>none
def K5(π:Nat->Nat):List Nat->SH->SH->SH
 |i::is,o::τ,M=>K5 π is τ (M.set i (o.ren π))
 |_,_,M=>M
def Ki(π:Nat->Nat):SH->SH
 |[]=>[]
 |o::τ=>o.ren π::Ki π τ
def YH(is:List Nat)(x:Nat):Nat:=match Ug x is with|true=>idx is x|false=>is.length+x
def Ul(is:List Nat):List Ref->Bool
 |[]=>true
 |r::rs=>match Ug r.id is with|true=>Ul is rs|false=>false
def VC(is:List Nat):SC->Bool
 |.ptr id _=>Ug id is
 |.el id .. =>Ug id is
 |.sl id .. =>Ug id is
 |.clo _ rs=>Ul is rs
 |_=>true
def ZJ(is:List Nat):List SC->Bool
 |[]=>true
 |c::cs=>match VC is c with|true=>ZJ is cs|false=>false
def refsInV(is:List Nat):SV->Bool
 |.c x=>VC is x
 |.agg xs=>ZJ is xs
 |.tup _=>false
def WJ(is:List Nat):List SV->Bool
 |[]=>true
 |v::vs=>match refsInV is v with|true=>WJ is vs|false=>false
def refsInO(is:List Nat):SO->Bool
 |.st cs _ _=>ZJ is cs
 |.opn _ _ cs _ _=>ZJ is cs
 |_=>true
def Um(M:SH)(is:List Nat):List Nat->Bool
 |[]=>true
 |i::l=>match M[i]? with
  |some o=>match refsInO is o with|true=>Um M is l|false=>false
  |none=>false
def exC:Sh->SC->Bool
 |.arr _,.arr _ _ none=>true
 |.arrc _,.arr _ _ (some _)=>true
 |.sl _ ep _,.sl _ ep' _ _ _ _=>Nat.beq ep ep'
 |.slc _ ep _,.sl _ ep' _ _ _ _=>Nat.beq ep ep'
 |.bo,.bo _=>true
 |.it _,.it _ _=>true
 |.sg,.sg _=>true
 |.np,.np=>true
 |.nf,.nf=>true
 |.nils,.nils=>true
 |.ip ..,.ip .. =>true
 |.ptr ..,.ptr .. =>true
 |.fn ..,.fn .. =>true
 |.clo ..,.clo .. =>true
 |_,_=>false
def exCL:List Sh->List SC->Bool
 |[],[]=>true
 |s::l,c::cs=>match exC s c with|true=>exCL l cs|false=>false
 |_,_=>false
def exO:ShO->SO->Bool
 |.st l _ ep,.st cs _ ep'=>match Nat.beq ep ep' with|true=>exCL l cs|false=>false
 |.arr _ ep,.arr _ _ ep'=>Nat.beq ep ep'
 |_,_=>false
def exH:List ShO->SH->Bool
 |[],[]=>true
 |s::l,o::M=>match exO s o with|true=>exH l M|false=>false
 |_,_=>false
def decG{X:Type}(g:Sg X)(ps:List Pth)(as:List SV)(M:SH):Option (List Nat×X):=match bindL as M [] ps with
 |some is=>match VO is,WJ is as,Um M is is with
  |true,true,true=>match Y6 M (YH is) is with
   |some τ=>match getArgs g (as.map (SV.ren (YH is))) τ with
    |some x=>some (is,x)
    |none=>none
   |none=>none
  |_,_,_=>none
 |none=>none
def Y2{X Y:Type}(g:Sg X)(ps:List Pth)(ft:Ft Y)(run:X->Option Y)(inh:Y):Con where
 X:=List Nat×X
 Y:=Y
 dec:=decG g ps
 run:=λx=>run x.2
 inh:=inh
 val:=λx y M=>(ft.V y).ren (X4 x.1 M.length)
 heap:=λx y M=>K5 (X4 x.1 M.length) x.1 (ft.H y) M++Ki (X4 x.1 M.length) ((ft.H y).drop x.1.length)
 rd:=λ_=>none
def decR{X:Type}(g:Sg X)(ps:List Pth)(as:List SV)(M:SH):Option (List Nat×X):=match decG g ps as M with
 |some (is,x)=>match Y6 M (YH is) is with
  |some τ=>match exH g.h τ with
   |true=>some (is,x)
   |false=>none
  |none=>none
 |none=>none
def YZ{X Y:Type}(g:Sg X)(ps:List Pth)(ft:Ft Y)(run:X->Option Y)(inh:Y):Con where
 X:=List Nat×X
 Y:=Y
 dec:=decR g ps
 run:=λx=>run x.2
 inh:=inh
 val:=λ_ y _=>ft.V y
 heap:=λ_ _ M=>M
 rd:=λx=>some (x.1.map (· +1))
def downUp{is:List Nat}{n:Nat}{x:Nat}(h:Ug x is=true):X4 is n (YH is x)=x:=by unfold YH;rw[h];exact YL (WZ (VU.1 h))
def UP{is:List Nat}:∀{rs:List Ref},Ul is rs=true->∀r∈rs,Ug r.id is=true
 |[],_,r,hr=>by cases hr
 |x::rs,h,r,hr=>by
  simp only[Ul]at h;split at h
  ·rename_i h1;rcases AT.1 hr with rfl|hr
   ·exact h1
   ·exact UP h r hr
  ·cases h
def ren_up {is : List Nat} {n : Nat} {c : SC} (h : VC is c = true) : upC is n (c.ren (YH is)).den = c.den := by
 cases c with
 | ptr id o => simp only [SC.ren,SC.den,upC,upR,downUp h]
 | el id ep es j o => simp only [SC.ren,SC.den,upC,upR,downUp h]
 | sl id ep es lo len cap => simp only [SC.ren,SC.den,upC,upR,downUp h]
 | clo f rs =>
   simp only [VC] at h;have h := UP h;simp only [SC.ren,SC.den,upC,BL];congr 1
   calc _ = rs.map id := Ai λr hr => by
             simp only [Function.comp,UT,upR,downUp (h r hr),id]
        _ = rs := by simp
 | _ => rfl
def Uk{is:List Nat}{n:Nat}:∀{l:List SC},ZJ is l=true->((l.map (SC.ren (YH is))).map SC.den).map (upC is n)=l.map SC.den
 |[],_=>rfl
 |c::l,h=>by
  simp only[ZJ]at h;split at h
  ·rename_i hc;simp only[AY,ren_up hc,Uk h]
  ·cases h
def renV_up{is:List Nat}{n:Nat}{v:SV}(h:refsInV is v=true):upV is n (v.ren (YH is)).den=v.den:=by
 cases v with
 |c x=>simp only[SV.ren,SV.den,upV,ren_up (show VC is x=true from h)]
 |agg xs=>simp only[SV.ren,SV.den,upV,Uk (show ZJ is xs=true from h)]
 |tup xs=>cases h
def VA{is:List Nat}{n:Nat}:∀{l:List SV},WJ is l=true->((l.map (SV.ren (YH is))).map SV.den).map (upV is n)=l.map SV.den
 |[],_=>rfl
 |c::l,h=>by
  simp only[WJ]at h;split at h
  ·rename_i hc;simp only[AY,renV_up hc,VA h]
  ·cases h
def renO_up{is:List Nat}{n:Nat}{o:SO}(h:refsInO is o=true):upO is n (o.ren (YH is)).den=o.den:=by
 cases o with
 |st cs es ep=>simp only[SO.ren,SO.den,upO,Uk (show ZJ is cs=true from h)]
 |arr c xs ep=>simp only[SO.ren,SO.den,upO,BL];congr 1
 |zer z c n=>simp only[SO.ren,SO.den,upO,BL];congr 1
 |opn c xs cs ys ep=>have hr:=Uk (is:=is) (n:=n) (show ZJ is cs=true from h);have ht:∀ts:List T,(ts.map Cell.t).map (upC is n)=ts.map .t:=λts=>(by simp only[BL];exact Ai λ_ _=>rfl);simp only[SO.ren,SO.den,upO,AS,ht,hr]
def Yj{M:SH}{π:Nat->Nat}:∀{is:List Nat} {τ:SH},Y6 M π is=some τ->τ.length=is.length/\∀(k i:Nat),is[k]? =some i->∃o,M[i]? =some o/\τ[k]? =some (o.ren π)
 |[],τ,h=>by simp only[Y6,Kn]at h;subst h;exact⟨rfl,λk i h=>by simp at h⟩
 |i::is,τ,h=>by
  simp only[Y6]at h;split at h
  ·rename_i o A' h1 h2;injection h with h;subst h;obtain⟨h3,h4⟩:=Yj h2;refine⟨by simp[h3],λk i' hk=> ?_⟩
   cases k with
   |zero=>simp at hk;subst hk;exact⟨o,h1,rfl⟩
   |succ k=>simpa using h4 k i' (by simpa using hk)
  ·cases h
def Kj{M:SH}{is:List Nat}:∀{l:List Nat},Um M is l=true->∀i∈l,∃o,M[i]? =some o/\refsInO is o=true
 |[],_,i,hi=>by simp at hi
 |j::l,h,i,hi=>by
  simp only[Um]at h;split at h
  ·rename_i o ho;split at h
   ·rename_i h1;simp only[AT]at hi;rcases hi with rfl|hi
    ·exact⟨o,ho,h1⟩
    ·exact Kj h i hi
   ·cases h
  ·cases h
def decG_ok{ps:List Pth}(hk:QQ P f g ft run){as:List SV}{M:SH}{is:List Nat}{x:X}{y:Y}(h:decG g ps as M=some (is,x))(hp:run x=some y):
  is.Nodup/\∃(as0:List AV) (τ:QA),τ.length=is.length/\(∀n (k i:Nat) (o:Obj),is[k]? =some i->τ[k]? =some o->(SH.den M)[i]? =some (upO is n o))/\(∀n,as.map SV.den=as0.map (upV is n))/\
   Jw P f as0 τ λv A'=>v=(ft.V y).den/\A'=SH.den (ft.H y):=by
 unfold decG at h;split at h
 ·rename_i is' hb;split at h
  ·rename_i h1 h2 h3;split at h
   ·rename_i τ ht;split at h
    ·rename_i x' hx;simp only[Kn,A0]at h;obtain⟨rfl,rfl⟩:=h;obtain⟨h4,h5⟩:=Yj ht;obtain⟨h6,h7,h8⟩:=Ze (N:=((as.map (SV.ren (YH is'))).map SV.den).length) (n0:=0) hk.to hx;refine⟨K8 h1,(as.map (SV.ren (YH is'))).map SV.den,SH.den τ,by rw[SH.QU];exact h4,λn k i o hk1 hk2=> ?_,λn=>(VA h2).symm,?_⟩
     ·obtain⟨o',h9,h10⟩:=h5 k i hk1;obtain⟨o'',h11,h12⟩:=Kj h3 i (BX hk1);rw[h9]at h11;injection h11 with h11;subst h11;have:=SH.Qy h10;rw[hk2]at this;injection this with this;subst this;rw[SH.Qy h9,renO_up h12]
     ·exact Vc (by rw[SH.QU];exact A5 _) (by rw[AE,AE];exact h6.symm) (hk.lowA _) h8 (hk.ok x' y hp)
    ·cases h
   ·cases h
  ·cases h
 ·cases h
def upC_ren(is:List Nat)(n:Nat)(c:SC):upC is n c.den=(c.ren (X4 is n)).den:=by cases c<;>rfl
def WE(is:List Nat)(n:Nat)(l:List SC):(l.map SC.den).map (upC is n)=(l.map (SC.ren (X4 is n))).map SC.den:=by simp only[BL];exact Ai λc _=>upC_ren is n c
def upV_ren(is:List Nat)(n:Nat)(v:SV):upV is n v.den=(v.ren (X4 is n)).den:=by
 cases v with
 |c x=>simp only[SV.den,SV.ren,upV,upC_ren]
 |agg xs=>simp only[SV.den,SV.ren,upV,WE]
 |tup xs=>
  simp only[SV.den,SV.ren,upV,BL];congr 1;refine Ai λx _=> ?_
  cases x with
  |inl x=>simp only[Function.comp,Wn,upP,upC_ren]
  |inr xs=>simp only[Function.comp,Wn,upP,WE]
def upO_ren(is:List Nat)(n:Nat)(o:SO):upO is n o.den=(o.ren (X4 is n)).den:=by
 cases o with
 |st cs es ep=>simp only[SO.den,SO.ren,upO,WE]
 |arr c xs ep=>simp only[SO.den,SO.ren,upO,BL];congr 1
 |zer z c m=>simp only[SO.den,SO.ren,upO,BL];congr 1
 |opn c xs cs ys ep=>have ht:∀ts:List T,(ts.map Cell.t).map (upC is n)=ts.map .t:=λts=>(by simp only[BL];exact Ai λ_ _=>rfl);simp only[SO.den,SO.ren,upO,AS,ht,WE]
def UR(is:List Nat)(n:Nat):∀(js:List Nat) (τ M:SH),Jd (upO is n) js (SH.den τ) (SH.den M)=SH.den (K5 (X4 is n) js τ M)
 |[],_,_=>by simp[Jd,K5]
 |_::_,[],_=>by simp[Jd,K5,SH.den]
 |i::js,o::τ,M=>by have:=UR is n js τ (M.set i (o.ren (X4 is n)));rw[SH.Jc]at this;show Jd (upO is n) js (SH.den τ) ((SH.den M).set i (upO is n o.den))=_;rw[upO_ren];exact this
def Kh(is:List Nat)(n:Nat):∀(τ:SH),(SH.den τ).map (upO is n)=SH.den (Ki (X4 is n) τ)
 |[]=>rfl
 |o::τ=>by have:=Kh is n τ;simp only[SH.den]at this;simp only[SH.den,Ki,AY,upO_ren,this]
def JY{inh:Y}{ps:List Pth}(hk:QQ P f g ft run):J4 P f (Y2 g ps ft run inh):=by
 refine⟨λas M x y hx hp=> ?_,λas M x y rs hx hrs=>by cases hrs⟩;obtain⟨is,x⟩:=x;obtain⟨hn,as0,τ,h1,h2,h3,h4⟩:=decG_ok hk (show decG g ps as M=some (is,x) from hx) hp;refine(KE (M:=SH.den M) is hn h1 (h2 _) (h3 _) h4).mono λv A' ⟨v0,T0,⟨e1,e2⟩,e3,e4⟩=> ?_;subst e1;subst e2;subst e3;subst e4;simp only[Y2,SH.QU];rw[upV_ren];refine⟨WV.rfl',?_⟩;have:Z9 is M.length (SH.den M) (SH.den (ft.H y))=SH.den (K5 (X4 is M.length) is (ft.H y) M++Ki (X4 is M.length) ((ft.H y).drop is.length)):=by simp only[Z9,UR];have:List.drop is.length (SH.den (ft.H y))=SH.den ((ft.H y).drop is.length):=(by simp[SH.den]);rw[this,Kh];simp[SH.den]
 rw[this];exact WH.rfl'
def exC_ok{n1:Nat}{M:SH}{e:Nat->Nat}:∀{s:Sh} {c:SC} {x:s.T},Y1 n1 M e s c=some (true,x)->exC s c=true->c.den=(s.fill x).den:=by
 intro s c x h hx;unfold exC at hx;split at hx<;>first|cases hx;done|skip
 all_goals simp only[Y1]at h
 ·split at h
  ·simp only[Kn,A0,Ah]at h;subst h;simp only[Sh.fill,SC.den,Qz,JA]
  ·cases h
 ·split at h
  ·simp only[Kn,A0,Ah]at h;subst h;simp only[Sh.fill,SC.den,Qz,JA]
  ·cases h
 ·split at h
  ·rename_i e1;split at h
   ·rename_i h1 h2 h3 h4 h5;injection e1 with a1 a2 a3 a4 a5 a6;subst a1;subst a2;subst a3;subst a4;subst a5;subst a6;simp only[Kn,A0,Ah]at h;subst h;simp only[Sh.fill,SC.den,eqB h1,eqB h2,eqB hx]
   ·cases h
  ·cases h
 ·split at h
  ·rename_i e1;split at h
   ·rename_i h1 h2 h3 h4 h5;injection e1 with a1 a2 a3 a4 a5 a6;subst a1;subst a2;subst a3;subst a4;subst a5;subst a6;simp only[Kn,A0,Ah]at h;subst h;simp only[Sh.fill,SC.den,eqB h1,eqB h2,eqB hx]
   ·cases h
  ·cases h
 ·simp only[Kn,A0,Ah]at h;subst h;rfl
 ·split at h
  ·rename_i hk;simp only[Kn,A0,Ah]at h;subst h;rw[Jm hk];rfl
  ·cases h
 ·simp only[Kn,A0,Ah]at h;subst h;rfl
 ·rfl
 ·rfl
 ·rfl
 ·split at h
  ·rename_i ho;split at h
   ·simp only[Kn,A0,Ah]at h;subst h;simp only[Sh.fill,SC.den,Kz,eqB ho]
   ·cases h
  ·cases h
 ·split at h
  ·rename_i h1 h2 h3 h4 h5;simp only[Sh.fill,SC.den,eqB h1,eqB h2]
  ·cases h
 ·split at h
  ·rename_i hf;rw[eqB hf];rfl
  ·cases h
 ·split at h
  ·rename_i h1 h2 h3;rw[eqB h1,UJ h2];rfl
  ·cases h
def exCL_ok{n1:Nat}{M:SH}{e:Nat->Nat}:∀{s:List Sh} {c:List SC} {x:ShL.T s},KR n1 M e s c=some (true,x)->exCL s c=true->c.map SC.den=(ShL.fill s x).map SC.den
 |[],[],_,_,_=>rfl
 |[],_::_,_,_,hx=>by cases hx
 |_::_,[],_,_,hx=>by cases hx
 |s::l,c::cs,x,h,hx=>by
  simp only[KR]at h;split at h
  ·rename_i p y q z h1 h2;simp only[Kn,A0,AJ]at h;obtain⟨⟨rfl,rfl⟩,rfl⟩:=h;simp only[exCL]at hx;split at hx
   ·rename_i h3;simp only[AY,ShL.fill,exC_ok h1 h3,exCL_ok h2 hx]
   ·cases hx
  ·cases h
def exH_ok{n0 n1:Nat}{M:SH}{e:Nat->Nat}:∀{l:List ShO} {τ:SH} {i:Nat} {x:ShH.T l},getH n0 n1 M e i l τ=some (true,x)->exH l τ=true->SH.den τ=SH.den (ShH.fill l x)
 |[],[],_,_,_,_=>rfl
 |[],_::_,_,_,_,hx=>by cases hx
 |_::_,[],_,_,_,hx=>by cases hx
 |s::l,o::τ,i,x,h,hx=>by
  simp only[getH]at h;split at h
  ·split at h
   ·rename_i p y q z h1 h2;simp only[Kn,A0,AJ]at h;obtain⟨⟨rfl,rfl⟩,rfl⟩:=h;simp only[exH]at hx;split at hx
    ·rename_i h3;have ih:=exH_ok h2 hx;have ho:o.den=(s.fill y).den:=by
      cases s with
      |st l es ep=>cases o with
       |st cs es' ep'=>
        simp only[exO]at h3;split at h3
        ·rename_i h4;simp only[getO]at h1;split at h1
         ·rename_i h5;simp only[SO.den,ShO.fill,exCL_ok h1 h3,eqB h4,eqB h5]
         ·cases h1
        ·cases h3
       |_=>cases h3
      |arr a ep=>cases o with
       |arr c xs ep'=>
        simp only[exO]at h3;simp only[getO]at h1;split at h1
        ·rename_i hb;simp only[Kn,A0,Ah]at h1;subst h1;simp only[SO.den,ShO.fill,Qz,Jy hb,eqB h3]
        ·cases h1
       |_=>cases h3
      |opn a l ep=>cases o<;>cases h3
     show o.den::SH.den τ=(s.fill y).den::SH.den (ShH.fill l z);rw[ho,ih]
    ·cases hx
   ·cases h
  ·cases h
def getArgs_exact(hto:∀a b,g.fa (g.to a b)=a/\g.fh (g.to a b)=b){as:List SV}{M:SH}{x:X}(h:getArgs g as M=some x)(hx:exH g.h M=true):SH.den M=SH.den (g.H x):=by
 unfold getArgs at h;split at h
 ·split at h
  ·rename_i v hv;simp only[Kn]at h;obtain⟨a,b⟩:=v;obtain⟨e1,e2⟩:=hto a b;subst h;simp only[Sg.H,e2];unfold Tm.get at hv;split at hv
   ·split at hv
    ·rename_i p y q z h1 h2;simp only[Kn,A0,AJ]at hv;obtain⟨⟨rfl,rfl⟩,rfl,rfl⟩:=hv;exact exH_ok h2 hx
    ·cases hv
   ·cases hv
  ·cases h
 ·cases h
def Jh{inh:Y}{ps:List Pth}(hk:QQ P f g ft run)(hft:∀y,(ft.V y).isTS=true)(hh:∀x y,run x=some y->ft.H y=g.H x):J4 P f (YZ g ps ft run inh):=by
 have key:∀as M is x y,decR g ps as M=some (is,x)->run x=some y->KH P f (as.map SV.den) (SH.den M) (is.map (· +1)) (ft.V y).den:=λas M is x y hx hp=>by
  unfold decR at hx;split at hx
  ·rename_i is0 x0 hd;split at hx
   ·rename_i T0 ht0;split at hx
    ·rename_i hex;simp only[Kn,A0]at hx;obtain⟨rfl,rfl⟩:=hx;unfold decG at hd;split at hd
     ·rename_i is' hb;split at hd
      ·rename_i h1 h2 h3;split at hd
       ·rename_i τ ht;split at hd
        ·rename_i x' hx1;simp only[Kn,A0]at hd;obtain⟨rfl,rfl⟩:=hd;rw[ht]at ht0;injection ht0 with ht0;subst ht0;obtain⟨h4,h5⟩:=Yj ht;obtain⟨h6,h7,h8⟩:=Ze (N:=((as.map (SV.ren (YH is'))).map SV.den).length) (n0:=0) hk.to hx1;have hw:=getArgs_exact hk.to hx1 hex;have h9:=Vc (by rw[SH.QU];exact A5 _) (by rw[AE,AE];exact h6.symm) (hk.lowA _) h8 (hk.ok x' y hp);refine const_read is' (K8 h1) (τ:=SH.den τ) (by rw[SH.QU];exact h4) (λn k i o hk1 hk2=> ?_) (λn=>(VA (n:=n) h2).symm) (Ur (hft _)) (h9.mono λv A' ⟨e1,e2⟩=>⟨e1,by rw[e2,hh x' y hp,hw]⟩);obtain⟨o',h9,h10⟩:=h5 k i hk1;obtain⟨o'',h11,h12⟩:=Kj h3 i (BX hk1);rw[h9]at h11;injection h11 with h11;subst h11;have:=SH.Qy h10;rw[hk2]at this;injection this with this;subst this;rw[SH.Qy h9,renO_up h12]
        ·cases hd
       ·cases hd
      ·cases hd
     ·cases hd
    ·cases hx
   ·cases hx
  ·cases hx
 refine⟨λas M x y hx hp=> ?_,λas M x y rs hx hrs=>⟨rfl,λhp=> ?_⟩⟩
 ·obtain⟨is,x⟩:=x;exact(key as M is x y hx hp (SH.den M) (λc _=>agC.refl _ c)).mono λv τ ⟨e1,e2⟩=>⟨by rw[e1];exact WV.rfl',by rw[e2];exact WH.rfl'⟩
 ·obtain⟨is,x⟩:=x;simp only[YZ,Kn]at hrs;subst hrs;exact key as M is x y hx hp
end
end Go.Abs
