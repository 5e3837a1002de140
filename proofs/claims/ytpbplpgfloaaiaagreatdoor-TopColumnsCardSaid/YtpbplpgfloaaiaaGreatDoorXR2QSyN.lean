/- A part of the proof. -/
import Derived.Test.YtpbplpgfloaaiaaGreatDoorXR2QSyM
set_option linter.all false
namespace Go.Abs
variable [Gl]
def frzS(J:SH):SV->Option (Bool×SV)
 |.c c=>match Ul 0 J c with
  |some (p,c')=>some (p,.c c')
  |none=>none
 |.agg cs=>match frzL 0 J cs with
  |some (p,cs')=>some (p,.agg cs')
  |none=>none
 |.tup _=>none
def frzSL(J:SH):List SV->Option (Bool×List SV)
 |[]=>some (true,[])
 |v::vs=>match frzS J v,frzSL J vs with
  |some (p,v'),some (q,vs')=>some (p&&q,v'::vs')
  |_,_=>none
theorem frzC_of{k:Nat}{J:Q1}{c:Cell}{t:T}(hc:∀f rs,c≠.clo f rs)(h:Qz k J 0 c=some t):Z1 k J 0 c=some (.t t):=by
 cases c with
 |t x=>cases k<;>(simp only[Qz,X3]at h;subst h;rfl)
 |ptr r=>simp[Z1,h]
 |sl r l c=>simp[Z1,h]
 |clo f rs=>exact absurd rfl (hc f rs)
theorem frz1_clo{n1:Nat}{J:SH}{c c':SC}{p:Bool}(h:Ul n1 J c=some (p,c')):∀f rs,c.den≠.clo f rs:=λf rs e=>by
 cases c<;>simp only[SC.den]at e<;>first|cases e;done|skip
 cases e;simp only[Ul,SC.isT]at h;cases h
theorem frz1C{J:SH}{c c':SC}(h:Ul 0 J c=some (true,c')):Z1 1 (SH.den J) 0 c.den=some c'.den:=by obtain⟨t,h1,h2⟩:=frz1_ok h;rw[h2];exact frzC_of (frz1_clo h) h1
theorem frzLC{J:SH}:∀{l l':List SC},frzL 0 J l=some (true,l')->J6 (Z1 1 (SH.den J) 0) (l.map SC.den)=some (l'.map SC.den)
 |[],l',h=>by simp only[frzL,X3,A0,Aa]at h;subst h;rfl
 |c::l,l',h=>by
  simp only[frzL]at h;split at h
  ·rename_i p c' q l'' h1 h2;simp only[X3,A0,A9]at h;obtain⟨⟨rfl,rfl⟩,rfl⟩:=h;simp only[AT,J6,frz1C h1,frzLC h2]
  ·cases h
theorem frzS_ok{J:SH}{v v':SV}(h:frzS J v=some (true,v')):XL 1 (SH.den J) 0 v.den=some v'.den:=by
 unfold frzS at h;split at h
 ·split at h
  ·rename_i h1;simp only[X3,A0]at h;obtain⟨rfl,rfl⟩:=h;simp only[SV.den,XL,frz1C h1,AD]
  ·cases h
 ·split at h
  ·rename_i h1;simp only[X3,A0]at h;obtain⟨rfl,rfl⟩:=h;simp only[SV.den,XL,frzLC h1,AD]
  ·cases h
 ·cases h
theorem frzSL_ok{J:SH}:∀{l l':List SV},frzSL J l=some (true,l')->l'.length=l.length/\∀(i:Nat) x y,(l.map SV.den)[i]? =some x->(l'.map SV.den)[i]? =some y->XL 1 (SH.den J) 0 x=some y
 |[],l',h=>by simp only[frzSL,X3,A0,Aa]at h;subst h;exact⟨rfl,λi x y h=>by simp at h⟩
 |v::l,l',h=>by
  simp only[frzSL]at h;split at h
  ·rename_i p v' q l'' h1 h2;simp only[X3,A0,A9]at h;obtain⟨⟨rfl,rfl⟩,rfl⟩:=h;obtain⟨h3,h4⟩:=frzSL_ok h2;refine⟨by simp[h3],λi x y hx hy=> ?_⟩
   cases i with
   |zero=>simp only[AT,BA,X3]at hx hy;subst hx;subst hy;exact frzS_ok h1
   |succ i=>simp only[AT,Ax]at hx hy;exact h4 i x y hx hy
  ·cases h
def plainS:SC->Bool
 |.arr .. |.ip .. |.iel .. |.nils|.fn _=>false
 |_=>true
def KN:List SC->Bool
 |[]=>true
 |c::cs=>match plainS c with|true=>KN cs|false=>false
def YV:List (SC⊕List SC)->Bool
 |[]=>true
 |.inl c::ps=>match plainS c with|true=>YV ps|false=>false
 |.inr cs::ps=>match KN cs with|true=>YV ps|false=>false
def plainSV:SV->Bool
 |.c c=>plainS c
 |.agg cs=>KN cs
 |.tup ps=>YV ps
theorem W0{c:SC}(h:plainS c=true):X5 c.den=true:=by cases c<;>first|rfl|cases h
theorem K0:∀{l:List SC},KN l=true->∀c∈l.map SC.den,X5 c=true
 |[],_,c,hc=>by simp at hc
 |x::l,h,c,hc=>by
  simp only[KN]at h;split at h
  ·rename_i h1;rw[AT]at hc;rcases AW.1 hc with rfl|hc
   ·exact W0 h1
   ·exact K0 h c hc
  ·cases h
theorem Yz:∀{l:List (SC⊕List SC)},YV l=true->∀p∈l.map Kk,match p with|.inl c=>X5 c=true|.inr cs=>∀c∈cs,X5 c=true
 |[],_,p,hp=>by simp at hp
 |.inl x::l,h,p,hp=>by
  simp only[YV]at h;split at h
  ·rename_i h1;rw[AT]at hp;rcases AW.1 hp with rfl|hp
   ·exact W0 h1
   ·exact Yz h p hp
  ·cases h
 |.inr x::l,h,p,hp=>by
  simp only[YV]at h;split at h
  ·rename_i h1;rw[AT]at hp;rcases AW.1 hp with rfl|hp
   ·exact K0 h1
   ·exact Yz h p hp
  ·cases h
theorem plainSV_ok{v:SV}(h:plainSV v=true):plainV v.den:=by
 cases v with
 |c c=>exact W0 h
 |agg cs=>exact K0 h
 |tup ps=>exact Yz h
def idC:SC->List Nat
 |.ptr id _=>[id+1]
 |.el id .. =>[id+1]
 |.sl id .. =>[id+1]
 |_=>[]
def idL:List SC->List Nat
 |[]=>[]
 |c::cs=>idC c++idL cs
def idA:List SV->List Nat
 |[]=>[]
 |.c c::l=>idC c++idA l
 |.agg cs::l=>idL cs++idA l
 |.tup _::l=>idA l
theorem frzT0(J τ:Q1)(n:Nat)(c:Cell):Qz 0 J n c=Qz 0 τ n c:=by cases c<;>rfl
theorem Uf{α β:Type}{f g:α->Option β}(h:∀x,f x=g x)(l:List α):J6 f l=J6 g l:=by rw[show f=g from funext h]
theorem frzT1{J τ:Q1}{c:SC}(h:∀k∈idC c,agC τ J k):Qz 1 τ 0 c.den=Qz 1 J 0 c.den:=by
 have hp:∀r:Ref,agC τ J (r.id+1)->Qz 1 τ 0 (.ptr r)=Qz 1 J 0 (.ptr r):=λr hr=>by simp only[Qz,Jl hr,Uf (frzT0 τ J 0)]
 have hs:∀(r:Ref) (l:Nat) (cp:Option Nat),agC τ J (r.id+1)->Qz 1 τ 0 (.sl r l cp)=Qz 1 J 0 (.sl r l cp):=λr l cp hr=>by simp only[Qz,Jl hr,Uf (frzT0 τ J 0)]
 cases c with
 |ptr id off=>exact hp _ (h _ (by simp[idC]))
 |el id ep es i off=>exact hp _ (h _ (by simp[idC]))
 |sl id ep es lo len cap=>exact hs _ _ _ (h _ (by simp[idC]))
 |clo f rs=>simp only[SC.den,Qz]
 |_=>rfl
theorem frzC1{J τ:Q1}{c:SC}(h:∀k∈idC c,agC τ J k):Z1 1 τ 0 c.den=Z1 1 J 0 c.den:=by
 have h1:=frzT1 h;generalize c.den=d at h1
 cases d with
 |t x=>rfl
 |ptr r=>simp only[Z1,h1]
 |sl r l cp=>simp only[Z1,h1]
 |clo f rs=>simp only[Z1,h1]
theorem frzL1{J τ:Q1}:∀{cs:List SC},(∀k∈idL cs,agC τ J k)->J6 (Z1 1 τ 0) (cs.map SC.den)=J6 (Z1 1 J 0) (cs.map SC.den)
 |[],_=>rfl
 |c::cs,h=>by simp only[AT,J6,frzC1 (c:=c) λk hk=>h k (B6 _ hk),frzL1 (cs:=cs) λk hk=>h k (B9 _ hk)]
theorem frzA1{J τ:Q1}:∀{as:List SV},(∀k∈idA as,agC τ J k)->(as.all λv=>match v with|.tup _=>false|_=>true)=true->∀v∈as,XL 1 τ 0 v.den=XL 1 J 0 v.den
 |[],_,_,v,hv=>by cases hv
 |a::as,h,ht,v,hv=>by
  simp only[CU,A9]at ht;rcases AW.1 hv with rfl|hv
  ·cases v with
   |c c=>simp only[SV.den,XL,frzC1 (c:=c) λk hk=>h k (B6 _ hk)]
   |agg cs=>simp only[SV.den,XL,frzL1 (cs:=cs) λk hk=>h k (B6 _ hk)]
   |tup ps=>cases ht.1
  ·refine frzA1 (as:=as) (λk hk=>h k ?_) ht.2 v hv
   cases a with
   |c c=>exact B9 _ hk
   |agg cs=>exact B9 _ hk
   |tup ps=>exact hk
def noTup:List SV->Bool
 |[]=>true
 |.tup _::_=>false
 |_::l=>noTup l
theorem UY:∀{as:List SV},noTup as=true->(as.all λv=>match v with|.tup _=>false|_=>true)=true
 |[],_=>rfl
 |.c c::l,h=>by simpa using UY (as:=l) h
 |.agg c::l,h=>by simpa using UY (as:=l) h
def Ux{X Y:Type}(g:Sg X)(ft:Ft Y)(run:X->Option Y)(inh:Y):Con where
 X:=Bool×X×List Nat
 Y:=Y
 dec:=λas J=>match g.h,ft.h,noTup as with
  |[],[],true=>match frzSL J as with
   |some (p,as')=>match getArgs g as' [] with
    |some x=>some (p,x,idA as)
    |none=>none
   |none=>none
  |_,_,_=>none
 run:=λx=>bif x.1 then run x.2.1 else none
 inh:=inh
 val:=λ_ y _=>ft.V y
 heap:=λ_ _ J=>J
 rd:=λx=>some x.2.2
theorem conFR_ok{P:Program}{f:FuncId}{X Y:Type}{g:Sg X}{ft:Ft Y}{run:X->Option Y}{inh:Y}(hk:QB P f g ft run)(hv:∀y,plainSV (ft.V y)=true)(ht:∀y,(ft.V y).isTS=true):QC P f (Ux g ft run inh):=by
 have key:∀as J x y,(Ux g ft run inh).dec as J=some x->(Ux g ft run inh).run x=some y->∀τ:Q1,(∀c∈x.2.2,agC τ (SH.den J) c)->Qo P f (as.map SV.den) τ λv T'=>v=(ft.V y).den/\T'=τ:=by
  intro as J x y hx hp τ Ht;obtain⟨p,x,is⟩:=x;simp only[Ux]at hx hp Ht;split at hx
  ·rename_i hgh hfh hnt;split at hx
   ·rename_i p' as' hfz;split at hx
    ·rename_i x' hget;simp only[X3,A0]at hx;obtain⟨rfl,rfl,rfl⟩:=hx
     cases p' with
     |false=>cases hp
     |true=>
      simp only[A5]at hp;obtain⟨f1,f2⟩:=frzSL_ok hfz;obtain⟨h3,h4,h5⟩:=Zv (N:=(as'.map SV.den).length) (n0:=0) hk.to hget;have h6:=fn_pre (n0:=([]:SH).length) (J:=SH.den []) (by simp[SH.den]) (by rw[AA,AA];exact h3.symm) (hk.lowA _) h5 (hk.ok x' y hp);have hH:SH.den (ft.H y)=[]:=(by have:(ft.H y).length=0:=(by unfold Ft.H;rw[XA,hfh];rfl);rw[Al.1 this];rfl);have f3:∀(i:Nat) (x y:AV),(as.map SV.den)[i]? =some x->(as'.map SV.den)[i]? =some y->XL 1 τ 0 x=some y:=λi x y h1 h2=>(by have h3:=f2 i x y h1 h2;rw[BK,WF]at h1;obtain⟨v,hv1,rfl⟩:=h1;rw[frzA1 Ht (UY hnt) v (BM hv1)];exact h3);have h7:=fn_read (J:=τ) (args:=as.map SV.den) (args0:=as'.map SV.den) (Q:=λv τ=>v=(ft.V y).den/\τ=[]) 1 (by simp[f1]) f3
       (h6.mono λv τ ⟨e1,e2⟩=>⟨⟨e1,by rw[e2,hH]⟩,by rw[e1];exact plainSV_ok (hv y),by rw[e2,hH];intro o ho;cases ho⟩)
      refine h7.mono λv T' ⟨v0,T0,⟨e1,e2⟩,e3,e4⟩=> ?_;subst e1;subst e2;subst e3;subst e4;exact⟨Y7 (Wz (ht y)),by simp⟩
    ·cases hx
   ·cases hx
  ·cases hx
 refine⟨λas J x y hx hp=> ?_,λas J x y rs hx hrs=> ?_⟩
 ·exact(key as J x y hx hp (SH.den J) λc _=>agC.refl _ c).mono λv τ ⟨e1,e2⟩=>⟨by rw[e1];exact WV.rfl',by rw[e2];exact WH.rfl'⟩
 ·refine⟨rfl,λhp τ Ht=>key as J x y hx hp τ ?_⟩;simp only[Ux,X3]at hrs;subst hrs;exact Ht
end Go.Abs
