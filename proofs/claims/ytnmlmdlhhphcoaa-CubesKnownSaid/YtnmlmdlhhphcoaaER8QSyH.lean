/- A part of the proof. -/
import Derived.Test.YtnmlmdlhhphcoaaER8QSyG
set_option linter.all false
namespace Go.Abs
variable [Gl]
def SV.isTS:SV->Bool
 |.c x=>x.isT
 |.agg xs=>Yv xs
 |.tup xs=>xs.all fun|.inl x=>x.isT|.inr xs=>Yv xs
theorem isT_av{c:SC}(h:c.isT=true):c.den.isT=true:=by cases c<;>first|rfl|cases h
theorem z8:∀{cs:List SC},Yv cs=true->(cs.map SC.den).all Cell.isT=true
 |[],_=>rfl
 |c::cs,h=>by
  simp only[Yv]at h;split at h
  ·rename_i hc;simp only[List.map_cons,List.all_cons,isT_av hc,z8 h,Bool.and_self]
  ·cases h
theorem isTS_av{v:SV}(h:v.isTS=true):v.den.isT=true:=by
 cases v with
 |c x=>exact isT_av h
 |agg xs=>exact z8 h
 |tup xs=>
  simp only[SV.isTS]at h;simp only[SV.den,AV.isT,List.all_map];rw[List.all_eq_true]at h⊢;intro x hx;have:=h x hx
  cases x with
  |inl x=>exact isT_av this
  |inr xs=>exact z8 this
def allSV:List SV->Bool
 |[]=>true
 |v::vs=>match v.isTS with|true=>allSV vs|false=>false
theorem allSV_av:∀{vs:List SV},allSV vs=true->(vs.map SV.den).all AV.isT=true
 |[],_=>rfl
 |v::vs,h=>by
  simp only[allSV]at h;split at h
  ·rename_i hv;simp only[List.map_cons,List.all_cons,isTS_av hv,allSV_av h,Bool.and_self]
  ·cases h
def Xv:Nat->List ShV->List (Nat×ShV)
 |_,[]=>[]
 |i,s::l=>(i,s)::Xv (i+1) l
structure Sg(X:Type) where
 vs:List ShV
 h:List ShO
 to:ShR.T (Xv 0 vs)->ShH.T h->X
 fa:X->ShR.T (Xv 0 vs)
 fh:X->ShH.T h
def valsOf:SR->List SV
 |[]=>[]
 |(_,_,v)::r=>v::valsOf r
def Sg.A{X:Type}(g:Sg X)(x:X):List SV:=valsOf (ShR.fill (Xv 0 g.vs) (g.fa x))
def Sg.H{X:Type}(g:Sg X)(x:X):SH:=ShH.fill g.h (g.fh x)
@[reducible] def Sg.tm {X:Type} (g:Sg X):Tm:=⟨Xv 0 g.vs,g.h⟩
theorem fill_init:∀(l:List ShV) (i:Nat) (x:ShR.T (Xv i l)),ShR.fill (Xv i l) x=QX i (valsOf (ShR.fill (Xv i l) x))
 |[],_,_=>rfl
 |s::l,i,x=>by simp only[Xv,ShR.fill,valsOf,QX];congr 1;exact fill_init l (i+1) x.2
theorem Yj:∀(l:List ShV) (i:Nat) (x:ShR.T (Xv i l)),(valsOf (ShR.fill (Xv i l) x)).length=l.length
 |[],_,_=>rfl
 |s::l,i,x=>by simp only[Xv,ShR.fill,valsOf,List.length_cons];rw[Yj l (i+1) x.2]
theorem YD:∀(l:List ShO) (x:ShH.T l),(ShH.fill l x).length=l.length
 |[],_=>rfl
 |s::l,x=>by simp only[ShH.fill,List.length_cons,YD l x.2]
structure QV(P:Program)(f:FuncId){X Y:Type}(g:Sg X)(ft:Ft Y)(run:X->Option Y):Prop where
 to:∀a b,g.fa (g.to a b)=a/\g.fh (g.to a b)=b
 low:g.vs.length<=BIG
 ok:∀x y,run x=some y->Jl P f ((g.A x).map SV.den) (SH.den (g.H x)) λv τ=>v=(ft.V y).den/\τ=SH.den (ft.H y)
theorem QV.lowA{P:Program}{f:FuncId}{X Y:Type}{g:Sg X}{ft:Ft Y}{run:X->Option Y}(h:QV P f g ft run)(x:X):((g.A x).map SV.den).length<=BIG:=by have:(g.A x).length=g.vs.length:=Yj _ _ _;rw[List.length_map,this];exact h.low
theorem QV.mono{P:Program}{f:FuncId}{X Y:Type}{g:Sg X}{ft:Ft Y}{run run':X->Option Y}(h:QV P f g ft run)(hr:∀x y,run' x=some y->run x=some y):QV P f g ft run':=
 ⟨h.to,h.low,λx y hy=>h.ok x y (hr x y hy)⟩
def getArgs{X:Type}(g:Sg X)(as:List SV)(J:SH):Option X:=match Nat.beq as.length g.vs.length,Nat.beq J.length g.h.length with
 |true,true=>match g.tm.get g.h.length (QX 0 as) J with
  |some (true,v)=>some (g.to v.1 v.2)
  |_=>none
 |_,_=>none
section
variable {P:Program}{f:FuncId}{X Y:Type}{g:Sg X}{ft:Ft Y}{run:X->Option Y}
theorem KY{N n0:Nat}(hto:∀a b,g.fa (g.to a b)=a/\g.fh (g.to a b)=b){as:List SV}{J:SH}{x:X}(h:getArgs g as J=some x):
  as.length=(g.A x).length/\J.length=(g.H x).length/\Qc N J.length (Jp (as.map SV.den)) (SH.den J) (Jp ((g.A x).map SV.den)) (SH.den (g.H x)):=by
 unfold getArgs at h;split at h
 ·rename_i h1 h2;split at h
  ·rename_i v hv;simp only[Option.some.injEq]at h;obtain⟨a,b⟩:=v;obtain⟨e1,e2⟩:=hto a b;subst h;simp only[Sg.A,Sg.H,e1,e2];refine⟨by rw[Yj];exact eqB h1,by rw[YD];exact eqB h2,?_⟩;have hl:J.length=g.h.length:=eqB h2;rw[hl];have h3:=Tm.X1 (N:=N) hv;refine(QI (init_sub as).wr WH.rfl').tr (h3.tr (QI ?_ WH.rfl'))
   -- the registers are the arguments
   have hF:=fill_init g.vs 0 a;show WR (SR.den (ShR.fill (Xv 0 g.vs) a)) (Jp ((valsOf (ShR.fill (Xv 0 g.vs) a)).map SV.den));generalize valsOf (ShR.fill (Xv 0 g.vs) a)=vs at hF⊢;rw[hF];refine J6.wr λt u hu=> ?_;rw[Jp,initRegs_get' _ 0 t]at hu;simp only[Nat.zero_le,if_true,Nat.sub_zero,List.getElem?_map,Option.map_eq_some_iff]at hu;obtain⟨w,h4,rfl⟩:=hu;have:(QX 0 vs).get t=some ([],w):=(by rw[Vh];simp[h4]);rw[SR.QS this];rfl
  ·cases h
 ·cases h
def XI{X Y:Type}(g:Sg X)(ft:Ft Y)(run:X->Option Y)(inh:Y):Con where
 X:=X
 Y:=Y
 dec:=λas _=>match g.h,allSV as with
  |[],true=>getArgs g as []
  |_,_=>none
 run:=run
 inh:=inh
 val:=λ_ y _=>ft.V y
 heap:=λ_ _ J=>J
 rd:=λ_=>some []
theorem Qa{inh:Y}(hk:QV P f g ft run)(hft:∀y,(ft.V y).isTS=true)(hh:ft.h=[]):Qk P f (XI g ft run inh):=by
 have key:∀as J x y,(XI g ft run inh).dec as J=some x->run x=some y->∀τ:Q4,Jl P f (as.map SV.den) τ λv T'=>v=(ft.V y).den/\T'=τ:=λas J x y hx hp τ=>by
  simp only[XI]at hx;split at hx
  ·rename_i h1 h2;obtain⟨h3,h4,h5⟩:=KY (N:=(as.map SV.den).length) (n0:=0) hk.to hx;have h6:=fn_pre (n0:=([]:SH).length) (J:=SH.den []) (by simp[SH.den]) (by rw[List.length_map,List.length_map];exact h3.symm) (hk.lowA _) h5 (hk.ok x y hp);have hH:SH.den (ft.H y)=[]:=(by have:(ft.H y).length=0:=(by rw[Ft.H,YD,hh];rfl);rw[List.length_eq_zero_iff.1 this];rfl);have h7:=fn_any (J:=τ) (Q:=λv=>v=(ft.V y).den) (allSV_av h2) (h6.mono λv T' ⟨e1,e2⟩=>⟨by rw[e1];exact isTS_av (hft _),by rw[e2,hH],e1⟩);exact h7
  ·cases hx
 refine⟨λas J x y hx hp=> ?_,λas J x y rs hx hrs=>⟨rfl,λhp=> ?_⟩⟩
 ·exact(key as J x y hx hp (SH.den J)).mono λv τ ⟨e1,e2⟩=>⟨by rw[e1];exact WV.rfl',by rw[e2];exact WH.rfl'⟩
 ·intro τ _;exact key as J x y hx hp τ
inductive Pth where
 |arg (i j:Nat)
 |cell (k j:Nat)
def refId:SC->Option Nat
 |.ptr id _=>some id
 |.sl id .. =>some id
 |.el id .. =>some id
 |.clo _ [r]=>some r.id
 |_=>none
def bind1(as:List SV)(J:SH)(is:List Nat):Pth->Option Nat
 |.arg i j=>match as[i]? with
  |some v=>match v.cells[j]? with
   |some c=>refId c
   |none=>none
  |none=>none
 |.cell k j=>match is[k]? with
  |some id=>match J[id]? with
   |some (.st cs _ _)=>match cs[j]? with
    |some c=>refId c
    |none=>none
   |_=>none
  |none=>none
def bindL(as:List SV)(J:SH):List Nat->List Pth->Option (List Nat)
 |is,[]=>some is
 |is,p::ps=>match bind1 as J is p with
  |some id=>bindL as J (is++[id]) ps
  |none=>none
def K3(J:SH)(π:Nat->Nat):List Nat->Option SH
 |[]=>some []
 |i::is=>match J[i]?,K3 J π is with
  |some o,some τ=>some (o.ren π::τ)
  |_,_=>none
def WX(π:Nat->Nat):List Nat->SH->SH->SH
 |i::is,o::τ,J=>WX π is τ (J.set i (o.ren π))
 |_,_,J=>J
def U7(π:Nat->Nat):SH->SH
 |[]=>[]
 |o::τ=>o.ren π::U7 π τ
def KG(is:List Nat)(x:Nat):Nat:=match Vd x is with|true=>idx is x|false=>is.length+x
def qU(is:List Nat):List Ref->Bool
 |[]=>true
 |r::rs=>match Vd r.id is with|true=>qU is rs|false=>false
def jA(is:List Nat):SC->Bool
 |.ptr id _=>Vd id is
 |.el id .. =>Vd id is
 |.sl id .. =>Vd id is
 |.clo _ rs=>qU is rs
 |_=>true
def YA(is:List Nat):List SC->Bool
 |[]=>true
 |c::cs=>match jA is c with|true=>YA is cs|false=>false
def refsInV(is:List Nat):SV->Bool
 |.c x=>jA is x
 |.agg xs=>YA is xs
 |.tup _=>false
def Ue(is:List Nat):List SV->Bool
 |[]=>true
 |v::vs=>match refsInV is v with|true=>Ue is vs|false=>false
def refsInO(is:List Nat):SO->Bool
 |.st cs _ _=>YA is cs
 |.opn _ _ cs _ _=>YA is cs
 |_=>true
def qV(J:SH)(is:List Nat):List Nat->Bool
 |[]=>true
 |i::l=>match J[i]? with
  |some o=>match refsInO is o with|true=>qV J is l|false=>false
  |none=>false
def exC:Sh->SC->Bool
 |.arr _,.arr _ _ none=>true
 |.arrc _,.arr _ _ (some _)=>true
 |.sl _ ep _,.sl _ ep' _ _ _ _=>Nat.beq ep ep'
 |.slc _ ep _,.sl _ ep' _ _ _ _=>Nat.beq ep ep'
 |.bo,.bo _=>true
 |.it _,.it _ _=>true
 |.sg,.sg _=>true
 |.np,.np=>true
 |.nf,.nf=>true
 |.nils,.nils=>true
 |.ip ..,.ip .. =>true
 |.ptr ..,.ptr .. =>true
 |.fn ..,.fn .. =>true
 |.clo ..,.clo .. =>true
 |_,_=>false
def exCL:List Sh->List SC->Bool
 |[],[]=>true
 |s::l,c::cs=>match exC s c with|true=>exCL l cs|false=>false
 |_,_=>false
def exO:ShO->SO->Bool
 |.st l _ ep,.st cs _ ep'=>match Nat.beq ep ep' with|true=>exCL l cs|false=>false
 |.arr _ ep,.arr _ _ ep'=>Nat.beq ep ep'
 |_,_=>false
def exH:List ShO->SH->Bool
 |[],[]=>true
 |s::l,o::J=>match exO s o with|true=>exH l J|false=>false
 |_,_=>false
def decG{X:Type}(g:Sg X)(ps:List Pth)(as:List SV)(J:SH):Option (List Nat×X):=match bindL as J [] ps with
 |some is=>match Vb is,Ue is as,qV J is is with
  |true,true,true=>match K3 J (KG is) is with
   |some τ=>match getArgs g (as.map (SV.ren (KG is))) τ with
    |some x=>some (is,x)
    |none=>none
   |none=>none
  |_,_,_=>none
 |none=>none
def conG{X Y:Type}(g:Sg X)(ps:List Pth)(ft:Ft Y)(run:X->Option Y)(inh:Y):Con where
 X:=List Nat×X
 Y:=Y
 dec:=decG g ps
 run:=λx=>run x.2
 inh:=inh
 val:=λx y J=>(ft.V y).ren (XV x.1 J.length)
 heap:=λx y J=>WX (XV x.1 J.length) x.1 (ft.H y) J++U7 (XV x.1 J.length) ((ft.H y).drop x.1.length)
 rd:=λ_=>none
def decR{X:Type}(g:Sg X)(ps:List Pth)(as:List SV)(J:SH):Option (List Nat×X):=match decG g ps as J with
 |some (is,x)=>match K3 J (KG is) is with
  |some τ=>match exH g.h τ with
   |true=>some (is,x)
   |false=>none
  |none=>none
 |none=>none
def conR{X Y:Type}(g:Sg X)(ps:List Pth)(ft:Ft Y)(run:X->Option Y)(inh:Y):Con where
 X:=List Nat×X
 Y:=Y
 dec:=decR g ps
 run:=λx=>run x.2
 inh:=inh
 val:=λ_ y _=>ft.V y
 heap:=λ_ _ J=>J
 rd:=λx=>some (x.1.map (· +1))
theorem downUp{is:List Nat}{n:Nat}{x:Nat}(h:Vd x is=true):XV is n (KG is x)=x:=by unfold KG;rw[h];exact KJ (Ut (Ul.1 h))
theorem q9{is:List Nat}:∀{rs:List Ref},qU is rs=true->∀r∈rs,Vd r.id is=true
 |[],_,r,hr=>by cases hr
 |x::rs,h,r,hr=>by
  simp only[qU]at h;split at h
  ·rename_i h1;rcases List.mem_cons.1 hr with rfl|hr
   ·exact h1
   ·exact q9 h r hr
  ·cases h
theorem ren_up {is : List Nat} {n : Nat} {c : SC} (h : jA is c = true) : upC is n (c.ren (KG is)).den = c.den := by
 cases c with
 | ptr id o => simp only [SC.ren,SC.den,upC,upR,downUp h]
 | el id ep es j o => simp only [SC.ren,SC.den,upC,upR,downUp h]
 | sl id ep es lo len cap => simp only [SC.ren,SC.den,upC,upR,downUp h]
 | clo f rs =>
   simp only [jA] at h;have h := q9 h;simp only [SC.ren,SC.den,upC,List.map_map];congr 1
   calc _ = rs.map id := List.map_congr_left λr hr => by
             simp only [Function.comp,qC,upR,downUp (h r hr),id]
        _ = rs := by simp
 | _ => rfl
theorem qT{is:List Nat}{n:Nat}:∀{l:List SC},YA is l=true->((l.map (SC.ren (KG is))).map SC.den).map (upC is n)=l.map SC.den
 |[],_=>rfl
 |c::l,h=>by
  simp only[YA]at h;split at h
  ·rename_i hc;simp only[List.map_cons,ren_up hc,qT h]
  ·cases h
theorem renV_up{is:List Nat}{n:Nat}{v:SV}(h:refsInV is v=true):upV is n (v.ren (KG is)).den=v.den:=by
 cases v with
 |c x=>simp only[SV.ren,SV.den,upV,ren_up (show jA is x=true from h)]
 |agg xs=>simp only[SV.ren,SV.den,upV,qT (show YA is xs=true from h)]
 |tup xs=>cases h
theorem j9{is:List Nat}{n:Nat}:∀{l:List SV},Ue is l=true->((l.map (SV.ren (KG is))).map SV.den).map (upV is n)=l.map SV.den
 |[],_=>rfl
 |c::l,h=>by
  simp only[Ue]at h;split at h
  ·rename_i hc;simp only[List.map_cons,renV_up hc,j9 h]
  ·cases h
theorem renO_up{is:List Nat}{n:Nat}{o:SO}(h:refsInO is o=true):upO is n (o.ren (KG is)).den=o.den:=by
 cases o with
 |st cs es ep=>simp only[SO.ren,SO.den,upO,qT (show YA is cs=true from h)]
 |arr c xs ep=>simp only[SO.ren,SO.den,upO,List.map_map];congr 1
 |zer z c n=>simp only[SO.ren,SO.den,upO,List.map_map];congr 1
 |opn c xs cs ys ep=>have hr:=qT (is:=is) (n:=n) (show YA is cs=true from h);have ht:∀ts:List T,(ts.map Cell.t).map (upC is n)=ts.map .t:=λts=>(by simp only[List.map_map];exact List.map_congr_left λ_ _=>rfl);simp only[SO.ren,SO.den,upO,List.map_append,ht,hr]
theorem Kr{J:SH}{π:Nat->Nat}:∀{is:List Nat} {τ:SH},K3 J π is=some τ->τ.length=is.length/\∀(k i:Nat),is[k]? =some i->∃o,J[i]? =some o/\τ[k]? =some (o.ren π)
 |[],τ,h=>by simp only[K3,Option.some.injEq]at h;subst h;exact⟨rfl,λk i h=>by simp at h⟩
 |i::is,τ,h=>by
  simp only[K3]at h;split at h
  ·rename_i o T' h1 h2;injection h with h;subst h;obtain⟨h3,h4⟩:=Kr h2;refine⟨by simp[h3],λk i' hk=> ?_⟩
   cases k with
   |zero=>simp at hk;subst hk;exact⟨o,h1,rfl⟩
   |succ k=>simpa using h4 k i' (by simpa using hk)
  ·cases h
theorem U8{J:SH}{is:List Nat}:∀{l:List Nat},qV J is l=true->∀i∈l,∃o,J[i]? =some o/\refsInO is o=true
 |[],_,i,hi=>by simp at hi
 |j::l,h,i,hi=>by
  simp only[qV]at h;split at h
  ·rename_i o ho;split at h
   ·rename_i h1;simp only[List.mem_cons]at hi;rcases hi with rfl|hi
    ·exact⟨o,ho,h1⟩
    ·exact U8 h i hi
   ·cases h
  ·cases h
theorem decG_ok{ps:List Pth}(hk:QV P f g ft run){as:List SV}{J:SH}{is:List Nat}{x:X}{y:Y}(h:decG g ps as J=some (is,x))(hp:run x=some y):
  is.Nodup/\∃(as0:List AV) (τ:Q4),τ.length=is.length/\(∀n (k i:Nat) (o:Obj),is[k]? =some i->τ[k]? =some o->(SH.den J)[i]? =some (upO is n o))/\(∀n,as.map SV.den=as0.map (upV is n))/\
   Jl P f as0 τ λv T'=>v=(ft.V y).den/\T'=SH.den (ft.H y):=by
 unfold decG at h;split at h
 ·rename_i is' hb;split at h
  ·rename_i h1 h2 h3;split at h
   ·rename_i τ ht;split at h
    ·rename_i x' hx;simp only[Option.some.injEq,Prod.mk.injEq]at h;obtain⟨rfl,rfl⟩:=h;obtain⟨h4,h5⟩:=Kr ht;obtain⟨h6,h7,h8⟩:=KY (N:=((as.map (SV.ren (KG is'))).map SV.den).length) (n0:=0) hk.to hx;refine⟨K7 h1,(as.map (SV.ren (KG is'))).map SV.den,SH.den τ,by rw[SH.QF];exact h4,λn k i o hk1 hk2=> ?_,λn=>(j9 h2).symm,?_⟩
     ·obtain⟨o',h9,h10⟩:=h5 k i hk1;obtain⟨o'',h11,h12⟩:=U8 h3 i (List.mem_of_getElem? hk1);rw[h9]at h11;injection h11 with h11;subst h11;have:=SH.QS h10;rw[hk2]at this;injection this with this;subst this;rw[SH.QS h9,renO_up h12]
     ·exact fn_pre (by rw[SH.QF];exact Nat.le_refl _) (by rw[List.length_map,List.length_map];exact h6.symm) (hk.lowA _) h8 (hk.ok x' y hp)
    ·cases h
   ·cases h
  ·cases h
 ·cases h
theorem upC_ren(is:List Nat)(n:Nat)(c:SC):upC is n c.den=(c.ren (XV is n)).den:=by cases c<;>rfl
theorem UX(is:List Nat)(n:Nat)(l:List SC):(l.map SC.den).map (upC is n)=(l.map (SC.ren (XV is n))).map SC.den:=by simp only[List.map_map];exact List.map_congr_left λc _=>upC_ren is n c
theorem upV_ren(is:List Nat)(n:Nat)(v:SV):upV is n v.den=(v.ren (XV is n)).den:=by
 cases v with
 |c x=>simp only[SV.den,SV.ren,upV,upC_ren]
 |agg xs=>simp only[SV.den,SV.ren,upV,UX]
 |tup xs=>
  simp only[SV.den,SV.ren,upV,List.map_map];congr 1;refine List.map_congr_left λx _=> ?_
  cases x with
  |inl x=>simp only[Function.comp,UO,upP,upC_ren]
  |inr xs=>simp only[Function.comp,UO,upP,UX]
theorem upO_ren(is:List Nat)(n:Nat)(o:SO):upO is n o.den=(o.ren (XV is n)).den:=by
 cases o with
 |st cs es ep=>simp only[SO.den,SO.ren,upO,UX]
 |arr c xs ep=>simp only[SO.den,SO.ren,upO,List.map_map];congr 1
 |zer z c m=>simp only[SO.den,SO.ren,upO,List.map_map];congr 1
 |opn c xs cs ys ep=>have ht:∀ts:List T,(ts.map Cell.t).map (upC is n)=ts.map .t:=λts=>(by simp only[List.map_map];exact List.map_congr_left λ_ _=>rfl);simp only[SO.den,SO.ren,upO,List.map_append,ht,UX]
theorem qA(is:List Nat)(n:Nat):∀(js:List Nat) (τ J:SH),Jm (upO is n) js (SH.den τ) (SH.den J)=SH.den (WX (XV is n) js τ J)
 |[],_,_=>by simp[Jm,WX]
 |_::_,[],_=>by simp[Jm,WX,SH.den]
 |i::js,o::τ,J=>by have:=qA is n js τ (J.set i (o.ren (XV is n)));rw[SH.Jq]at this;show Jm (upO is n) js (SH.den τ) ((SH.den J).set i (upO is n o.den))=_;rw[upO_ren];exact this
theorem U6(is:List Nat)(n:Nat):∀(τ:SH),(SH.den τ).map (upO is n)=SH.den (U7 (XV is n) τ)
 |[]=>rfl
 |o::τ=>by have:=U6 is n τ;simp only[SH.den]at this;simp only[SH.den,U7,List.map_cons,upO_ren,this]
theorem qh{inh:Y}{ps:List Pth}(hk:QV P f g ft run):Qk P f (conG g ps ft run inh):=by
 refine⟨λas J x y hx hp=> ?_,λas J x y rs hx hrs=>by cases hrs⟩;obtain⟨is,x⟩:=x;obtain⟨hn,as0,τ,h1,h2,h3,h4⟩:=decG_ok hk (show decG g ps as J=some (is,x) from hx) hp;refine(Wf (J:=SH.den J) is hn h1 (h2 _) (h3 _) h4).mono λv T' ⟨v0,T0,⟨e1,e2⟩,e3,e4⟩=> ?_;subst e1;subst e2;subst e3;subst e4;simp only[conG,SH.QF];rw[upV_ren];refine⟨WV.rfl',?_⟩;have:Zp is J.length (SH.den J) (SH.den (ft.H y))=SH.den (WX (XV is J.length) is (ft.H y) J++U7 (XV is J.length) ((ft.H y).drop is.length)):=by simp only[Zp,qA];have:List.drop is.length (SH.den (ft.H y))=SH.den ((ft.H y).drop is.length):=(by simp[SH.den]);rw[this,U6];simp[SH.den]
 rw[this];exact WH.rfl'
theorem exC_ok{n1:Nat}{J:SH}{e:Nat->Nat}:∀{s:Sh} {c:SC} {x:s.T},Yz n1 J e s c=some (true,x)->exC s c=true->c.den=(s.fill x).den:=by
 intro s c x h hx;unfold exC at hx;split at hx<;>first|cases hx;done|skip
 all_goals simp only[Yz]at h
 ·split at h
  ·simp only[Option.some.injEq,Prod.mk.injEq,true_and]at h;subst h;simp only[Sh.fill,SC.den,Qm,J7]
  ·cases h
 ·split at h
  ·simp only[Option.some.injEq,Prod.mk.injEq,true_and]at h;subst h;simp only[Sh.fill,SC.den,Qm,J7]
  ·cases h
 ·split at h
  ·rename_i e1;split at h
   ·rename_i h1 h2 h3 h4 h5;injection e1 with a1 a2 a3 a4 a5 a6;subst a1;subst a2;subst a3;subst a4;subst a5;subst a6;simp only[Option.some.injEq,Prod.mk.injEq,true_and]at h;subst h;simp only[Sh.fill,SC.den,eqB h1,eqB h2,eqB hx]
   ·cases h
  ·cases h
 ·split at h
  ·rename_i e1;split at h
   ·rename_i h1 h2 h3 h4 h5;injection e1 with a1 a2 a3 a4 a5 a6;subst a1;subst a2;subst a3;subst a4;subst a5;subst a6;simp only[Option.some.injEq,Prod.mk.injEq,true_and]at h;subst h;simp only[Sh.fill,SC.den,eqB h1,eqB h2,eqB hx]
   ·cases h
  ·cases h
 ·simp only[Option.some.injEq,Prod.mk.injEq,true_and]at h;subst h;rfl
 ·split at h
  ·rename_i hk;simp only[Option.some.injEq,Prod.mk.injEq,true_and]at h;subst h;rw[XZ hk];rfl
  ·cases h
 ·simp only[Option.some.injEq,Prod.mk.injEq,true_and]at h;subst h;rfl
 ·rfl
 ·rfl
 ·rfl
 ·split at h
  ·rename_i ho;split at h
   ·simp only[Option.some.injEq,Prod.mk.injEq,true_and]at h;subst h;simp only[Sh.fill,SC.den,UR,eqB ho]
   ·cases h
  ·cases h
 ·split at h
  ·rename_i h1 h2 h3 h4 h5;simp only[Sh.fill,SC.den,eqB h1,eqB h2]
  ·cases h
 ·split at h
  ·rename_i hf;rw[eqB hf];rfl
  ·cases h
 ·split at h
  ·rename_i h1 h2 h3;rw[eqB h1,Vt h2];rfl
  ·cases h
theorem exCL_ok{n1:Nat}{J:SH}{e:Nat->Nat}:∀{s:List Sh} {c:List SC} {x:ShL.T s},Wr n1 J e s c=some (true,x)->exCL s c=true->c.map SC.den=(ShL.fill s x).map SC.den
 |[],[],_,_,_=>rfl
 |[],_::_,_,_,hx=>by cases hx
 |_::_,[],_,_,hx=>by cases hx
 |s::l,c::cs,x,h,hx=>by
  simp only[Wr]at h;split at h
  ·rename_i p y q z h1 h2;simp only[Option.some.injEq,Prod.mk.injEq,Bool.and_eq_true]at h;obtain⟨⟨rfl,rfl⟩,rfl⟩:=h;simp only[exCL]at hx;split at hx
   ·rename_i h3;simp only[List.map_cons,ShL.fill,exC_ok h1 h3,exCL_ok h2 hx]
   ·cases hx
  ·cases h
theorem exH_ok{n0 n1:Nat}{J:SH}{e:Nat->Nat}:∀{l:List ShO} {τ:SH} {i:Nat} {x:ShH.T l},getH n0 n1 J e i l τ=some (true,x)->exH l τ=true->SH.den τ=SH.den (ShH.fill l x)
 |[],[],_,_,_,_=>rfl
 |[],_::_,_,_,_,hx=>by cases hx
 |_::_,[],_,_,_,hx=>by cases hx
 |s::l,o::τ,i,x,h,hx=>by
  simp only[getH]at h;split at h
  ·split at h
   ·rename_i p y q z h1 h2;simp only[Option.some.injEq,Prod.mk.injEq,Bool.and_eq_true]at h;obtain⟨⟨rfl,rfl⟩,rfl⟩:=h;simp only[exH]at hx;split at hx
    ·rename_i h3;have ih:=exH_ok h2 hx;have ho:o.den=(s.fill y).den:=by
      cases s with
      |st l es ep=>cases o with
       |st cs es' ep'=>
        simp only[exO]at h3;split at h3
        ·rename_i h4;simp only[getO]at h1;split at h1
         ·rename_i h5;simp only[SO.den,ShO.fill,exCL_ok h1 h3,eqB h4,eqB h5]
         ·cases h1
        ·cases h3
       |_=>cases h3
      |arr a ep=>cases o with
       |arr c xs ep'=>
        simp only[exO]at h3;simp only[getO]at h1;split at h1
        ·rename_i hb;simp only[Option.some.injEq,Prod.mk.injEq,true_and]at h1;subst h1;simp only[SO.den,ShO.fill,Qm,XJ hb,eqB h3]
        ·cases h1
       |_=>cases h3
      |opn a l ep=>cases o<;>cases h3
     show o.den::SH.den τ=(s.fill y).den::SH.den (ShH.fill l z);rw[ho,ih]
    ·cases hx
   ·cases h
  ·cases h
theorem getArgs_exact(hto:∀a b,g.fa (g.to a b)=a/\g.fh (g.to a b)=b){as:List SV}{J:SH}{x:X}(h:getArgs g as J=some x)(hx:exH g.h J=true):SH.den J=SH.den (g.H x):=by
 unfold getArgs at h;split at h
 ·split at h
  ·rename_i v hv;simp only[Option.some.injEq]at h;obtain⟨a,b⟩:=v;obtain⟨e1,e2⟩:=hto a b;subst h;simp only[Sg.H,e2];unfold Tm.get at hv;split at hv
   ·split at hv
    ·rename_i p y q z h1 h2;simp only[Option.some.injEq,Prod.mk.injEq,Bool.and_eq_true]at hv;obtain⟨⟨rfl,rfl⟩,rfl,rfl⟩:=hv;exact exH_ok h2 hx
    ·cases hv
   ·cases hv
  ·cases h
 ·cases h
theorem Wi{inh:Y}{ps:List Pth}(hk:QV P f g ft run)(hft:∀y,(ft.V y).isTS=true)(hh:∀x y,run x=some y->ft.H y=g.H x):Qk P f (conR g ps ft run inh):=by
 have key:∀as J is x y,decR g ps as J=some (is,x)->run x=some y->VJ P f (as.map SV.den) (SH.den J) (is.map (· +1)) (ft.V y).den:=λas J is x y hx hp=>by
  unfold decR at hx;split at hx
  ·rename_i is0 x0 hd;split at hx
   ·rename_i T0 ht0;split at hx
    ·rename_i hex;simp only[Option.some.injEq,Prod.mk.injEq]at hx;obtain⟨rfl,rfl⟩:=hx;unfold decG at hd;split at hd
     ·rename_i is' hb;split at hd
      ·rename_i h1 h2 h3;split at hd
       ·rename_i τ ht;split at hd
        ·rename_i x' hx1;simp only[Option.some.injEq,Prod.mk.injEq]at hd;obtain⟨rfl,rfl⟩:=hd;rw[ht]at ht0;injection ht0 with ht0;subst ht0;obtain⟨h4,h5⟩:=Kr ht;obtain⟨h6,h7,h8⟩:=KY (N:=((as.map (SV.ren (KG is'))).map SV.den).length) (n0:=0) hk.to hx1;have hw:=getArgs_exact hk.to hx1 hex;have h9:=fn_pre (by rw[SH.QF];exact Nat.le_refl _) (by rw[List.length_map,List.length_map];exact h6.symm) (hk.lowA _) h8 (hk.ok x' y hp);refine const_read is' (K7 h1) (τ:=SH.den τ) (by rw[SH.QF];exact h4) (λn k i o hk1 hk2=> ?_) (λn=>(j9 (n:=n) h2).symm) (isTS_av (hft _)) (h9.mono λv T' ⟨e1,e2⟩=>⟨e1,by rw[e2,hh x' y hp,hw]⟩);obtain⟨o',h9,h10⟩:=h5 k i hk1;obtain⟨o'',h11,h12⟩:=U8 h3 i (List.mem_of_getElem? hk1);rw[h9]at h11;injection h11 with h11;subst h11;have:=SH.QS h10;rw[hk2]at this;injection this with this;subst this;rw[SH.QS h9,renO_up h12]
        ·cases hd
       ·cases hd
      ·cases hd
     ·cases hd
    ·cases hx
   ·cases hx
  ·cases hx
 refine⟨λas J x y hx hp=> ?_,λas J x y rs hx hrs=>⟨rfl,λhp=> ?_⟩⟩
 ·obtain⟨is,x⟩:=x;exact(key as J is x y hx hp (SH.den J) (λc _=>agC.refl _ c)).mono λv τ ⟨e1,e2⟩=>⟨by rw[e1];exact WV.rfl',by rw[e2];exact WH.rfl'⟩
 ·obtain⟨is,x⟩:=x;simp only[conR,Option.some.injEq]at hrs;subst hrs;exact key as J is x y hx hp
end
end Go.Abs
