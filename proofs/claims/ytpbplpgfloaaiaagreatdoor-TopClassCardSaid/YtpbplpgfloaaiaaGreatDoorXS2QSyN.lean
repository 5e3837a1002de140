/- A part of the proof. -/
import Derived.Test.YtpbplpgfloaaiaaGreatDoorXS2QSyM
set_option linter.all false
namespace Go.Abs
variable [Gl]
def frzS(M:SH):SV->Option (Bool×SV)
 |.c c=>match Vb 0 M c with
  |some (p,c')=>some (p,.c c')
  |none=>none
 |.agg cs=>match frzL 0 M cs with
  |some (p,cs')=>some (p,.agg cs')
  |none=>none
 |.tup _=>none
def frzSL(M:SH):List SV->Option (Bool×List SV)
 |[]=>some (true,[])
 |v::vs=>match frzS M v,frzSL M vs with
  |some (p,v'),some (q,vs')=>some (p&&q,v'::vs')
  |_,_=>none
def frzC_of{k:Nat}{M:QA}{c:Cell}{t:T}(hc:∀f rs,c≠.clo f rs)(h:JT k M 0 c=some t):Zf k M 0 c=some (.t t):=by
 cases c with
 |t x=>cases k<;>(simp only[JT,Kn]at h;subst h;rfl)
 |ptr r=>simp[Zf,h]
 |sl r l c=>simp[Zf,h]
 |clo f rs=>exact absurd rfl (hc f rs)
def frz1_clo{n1:Nat}{M:SH}{c c':SC}{p:Bool}(h:Vb n1 M c=some (p,c')):∀f rs,c.den≠.clo f rs:=λf rs e=>by
 cases c<;>simp only[SC.den]at e<;>first|cases e;done|skip
 cases e;simp only[Vb,SC.isT]at h;cases h
def frz1C{M:SH}{c c':SC}(h:Vb 0 M c=some (true,c')):Zf 1 (SH.den M) 0 c.den=some c'.den:=by obtain⟨t,h1,h2⟩:=frz1_ok h;rw[h2];exact frzC_of (frz1_clo h) h1
def frzLC{M:SH}:∀{l l':List SC},frzL 0 M l=some (true,l')->Jj (Zf 1 (SH.den M) 0) (l.map SC.den)=some (l'.map SC.den)
 |[],l',h=>by simp only[frzL,Kn,A0,Ah]at h;subst h;rfl
 |c::l,l',h=>by
  simp only[frzL]at h;split at h
  ·rename_i p c' q l'' h1 h2;simp only[Kn,A0,AJ]at h;obtain⟨⟨rfl,rfl⟩,rfl⟩:=h;simp only[AY,Jj,frz1C h1,frzLC h2]
  ·cases h
def frzS_ok{M:SH}{v v':SV}(h:frzS M v=some (true,v')):KK 1 (SH.den M) 0 v.den=some v'.den:=by
 unfold frzS at h;split at h
 ·split at h
  ·rename_i h1;simp only[Kn,A0]at h;obtain⟨rfl,rfl⟩:=h;simp only[SV.den,KK,frz1C h1,AI]
  ·cases h
 ·split at h
  ·rename_i h1;simp only[Kn,A0]at h;obtain⟨rfl,rfl⟩:=h;simp only[SV.den,KK,frzLC h1,AI]
  ·cases h
 ·cases h
def Va{M:SH}:∀{l l':List SV},frzSL M l=some (true,l')->l'.length=l.length/\∀(i:Nat) x y,(l.map SV.den)[i]? =some x->(l'.map SV.den)[i]? =some y->KK 1 (SH.den M) 0 x=some y
 |[],l',h=>by simp only[frzSL,Kn,A0,Ah]at h;subst h;exact⟨rfl,λi x y h=>by simp at h⟩
 |v::l,l',h=>by
  simp only[frzSL]at h;split at h
  ·rename_i p v' q l'' h1 h2;simp only[Kn,A0,AJ]at h;obtain⟨⟨rfl,rfl⟩,rfl⟩:=h;obtain⟨h3,h4⟩:=Va h2;refine⟨by simp[h3],λi x y hx hy=> ?_⟩
   cases i with
   |zero=>simp only[AY,BS,Kn]at hx hy;subst hx;subst hy;exact frzS_ok h1
   |succ i=>simp only[AY,BG]at hx hy;exact h4 i x y hx hy
  ·cases h
def plainS:SC->Bool
 |.arr .. |.ip .. |.iel .. |.nils|.fn _=>false
 |_=>true
def K7:List SC->Bool
 |[]=>true
 |c::cs=>match plainS c with|true=>K7 cs|false=>false
def K6:List (SC⊕List SC)->Bool
 |[]=>true
 |.inl c::ps=>match plainS c with|true=>K6 ps|false=>false
 |.inr cs::ps=>match K7 cs with|true=>K6 ps|false=>false
def plainSV:SV->Bool
 |.c c=>plainS c
 |.agg cs=>K7 cs
 |.tup ps=>K6 ps
def plainSO:SO->Bool
 |.st cs _ _=>K7 cs
 |.arr (.int _) _ _=>true
 |.arr .bool _ _=>true
 |_=>false
def Un:SH->Bool
 |[]=>true
 |o::M=>match plainSO o with|true=>Un M|false=>false
def U3{c:SC}(h:plainS c=true):ZD c.den=true:=by cases c<;>first|rfl|cases h
def YN:∀{l:List SC},K7 l=true->∀c∈l.map SC.den,ZD c=true
 |[],_,c,hc=>by simp at hc
 |x::l,h,c,hc=>by
  simp only[K7]at h;split at h
  ·rename_i h1;rw[AY]at hc;rcases AT.1 hc with rfl|hc
   ·exact U3 h1
   ·exact YN h c hc
  ·cases h
def Km:∀{l:List (SC⊕List SC)},K6 l=true->∀p∈l.map Wn,match p with|.inl c=>ZD c=true|.inr cs=>∀c∈cs,ZD c=true
 |[],_,p,hp=>by simp at hp
 |.inl x::l,h,p,hp=>by
  simp only[K6]at h;split at h
  ·rename_i h1;rw[AY]at hp;rcases AT.1 hp with rfl|hp
   ·exact U3 h1
   ·exact Km h p hp
  ·cases h
 |.inr x::l,h,p,hp=>by
  simp only[K6]at h;split at h
  ·rename_i h1;rw[AY]at hp;rcases AT.1 hp with rfl|hp
   ·exact YN h1
   ·exact Km h p hp
  ·cases h
def VG{v:SV}(h:plainSV v=true):plainV v.den:=by
 cases v with
 |c c=>exact U3 h
 |agg cs=>exact YN h
 |tup ps=>exact Km h
def plainSO_ok{o:SO}(h:plainSO o=true):∀c∈o.den.cs,ZD c=true:=by
 unfold plainSO at h;split at h
 ·exact YN h
 ·intro c hc;simp only[SO.den,BR,List.mem_flatMap]at hc;obtain⟨t,⟨x,_,hx⟩,rfl⟩:=hc;simp only[Ly.trees,Ae]at hx;subst hx;rfl
 ·intro c hc;simp only[SO.den,BR,List.mem_flatMap]at hc;obtain⟨t,⟨x,_,hx⟩,rfl⟩:=hc;simp only[Ly.trees,Ae]at hx;subst hx;rfl
 ·cases h
def VH:∀{M:SH},Un M=true->∀o∈SH.den M,∀c∈o.cs,ZD c=true
 |[],_,o,ho=>by simp[SH.den]at ho
 |x::M,h,o,ho=>by
  simp only[Un]at h;split at h
  ·rename_i h1;simp only[SH.den,AY,AT]at ho;rcases ho with rfl|ho
   ·exact plainSO_ok h1
   ·exact VH h o ho
  ·cases h
def conF{X Y:Type}(g:Sg X)(ft:Ft Y)(run:X->Option Y)(inh:Y):Con where
 X:=Bool×X
 Y:=Y
 dec:=λas M=>match g.h with
  |[]=>match frzSL M as with
   |some (p,as')=>match getArgs g as' [] with
    |some x=>some (p,x)
    |none=>none
   |none=>none
  |_::_=>none
 run:=λx=>bif x.1 then run x.2 else none
 inh:=inh
 val:=λ_ y M=>(ft.V y).ren (X4 [] M.length)
 heap:=λ_ y M=>M++Ki (X4 [] M.length) (ft.H y)
 rd:=λ_=>none
def conF_ok{P:Program}{f:FuncId}{X Y:Type}{g:Sg X}{ft:Ft Y}{run:X->Option Y}{inh:Y}(hk:QQ P f g ft run)(hv:∀y,plainSV (ft.V y)=true)(hh:∀y,Un (ft.H y)=true):J4 P f (conF g ft run inh):=by
 refine⟨λas M x y hx hp=> ?_,λas M x y rs hx hrs=>by cases hrs⟩;obtain⟨p,x⟩:=x;simp only[conF]at hx hp;split at hx
 ·rename_i hgh;split at hx
  ·rename_i p' as' hfz;split at hx
   ·rename_i x' hget;simp only[Kn,A0]at hx;obtain⟨rfl,rfl⟩:=hx
    cases p' with
    |false=>cases hp
    |true=>
     simp only[A6]at hp;obtain⟨f1,f2⟩:=Va hfz;obtain⟨h3,h4,h5⟩:=Ze (N:=(as'.map SV.den).length) (n0:=0) hk.to hget;have h6:=Vc (n0:=([]:SH).length) (M:=SH.den []) (by simp[SH.den]) (by rw[AE,AE];exact h3.symm) (hk.lowA _) h5 (hk.ok x' y hp);have h7:=fn_read (M:=SH.den M) (args:=as.map SV.den) (args0:=as'.map SV.den) (Q:=λv τ=>v=(ft.V y).den/\τ=SH.den (ft.H y)) 1 (by simp[f1]) f2
      (h6.mono λv τ ⟨e1,e2⟩=>⟨⟨e1,e2⟩,by rw[e1];exact VG (hv y),by rw[e2];exact VH (hh y)⟩)
     refine h7.mono λv A' ⟨v0,T0,⟨e1,e2⟩,e3,e4⟩=> ?_;subst e1;subst e2;subst e3;subst e4;simp only[conF,SH.QU];rw[upV_ren];refine⟨WV.rfl',?_⟩;have:SH.den M++(SH.den (ft.H y)).map (upO [] M.length)=SH.den (M++Ki (X4 [] M.length) (ft.H y)):=(by rw[Kh];simp[SH.den]);rw[this];exact WH.rfl'
   ·cases hx
  ·cases hx
 ·cases hx
def idC:SC->List Nat
 |.ptr id _=>[id+1]
 |.el id .. =>[id+1]
 |.sl id .. =>[id+1]
 |_=>[]
def idL:List SC->List Nat
 |[]=>[]
 |c::cs=>idC c++idL cs
def idA:List SV->List Nat
 |[]=>[]
 |.c c::l=>idC c++idA l
 |.agg cs::l=>idL cs++idA l
 |.tup _::l=>idA l
def frzT0(M τ:QA)(n:Nat)(c:Cell):JT 0 M n c=JT 0 τ n c:=by cases c<;>rfl
def VW{α β:Type}{f g:α->Option β}(h:∀x,f x=g x)(l:List α):Jj f l=Jj g l:=by rw[show f=g from funext h]
def frzT1{M τ:QA}{c:SC}(h:∀k∈idC c,agC τ M k):JT 1 τ 0 c.den=JT 1 M 0 c.den:=by
 have hp:∀r:Ref,agC τ M (r.id+1)->JT 1 τ 0 (.ptr r)=JT 1 M 0 (.ptr r):=λr hr=>by simp only[JT,XM hr,VW (frzT0 τ M 0)]
 have hs:∀(r:Ref) (l:Nat) (cp:Option Nat),agC τ M (r.id+1)->JT 1 τ 0 (.sl r l cp)=JT 1 M 0 (.sl r l cp):=λr l cp hr=>by simp only[JT,XM hr,VW (frzT0 τ M 0)]
 cases c with
 |ptr id off=>exact hp _ (h _ (by simp[idC]))
 |el id ep es i off=>exact hp _ (h _ (by simp[idC]))
 |sl id ep es lo len cap=>exact hs _ _ _ (h _ (by simp[idC]))
 |clo f rs=>simp only[SC.den,JT]
 |_=>rfl
def frzC1{M τ:QA}{c:SC}(h:∀k∈idC c,agC τ M k):Zf 1 τ 0 c.den=Zf 1 M 0 c.den:=by
 have h1:=frzT1 h;generalize c.den=d at h1
 cases d with
 |t x=>rfl
 |ptr r=>simp only[Zf,h1]
 |sl r l cp=>simp only[Zf,h1]
 |clo f rs=>simp only[Zf,h1]
def frzL1{M τ:QA}:∀{cs:List SC},(∀k∈idL cs,agC τ M k)->Jj (Zf 1 τ 0) (cs.map SC.den)=Jj (Zf 1 M 0) (cs.map SC.den)
 |[],_=>rfl
 |c::cs,h=>by simp only[AY,Jj,frzC1 (c:=c) λk hk=>h k (B0 _ hk),frzL1 (cs:=cs) λk hk=>h k (B7 _ hk)]
def frzA1{M τ:QA}:∀{as:List SV},(∀k∈idA as,agC τ M k)->(as.all λv=>match v with|.tup _=>false|_=>true)=true->∀v∈as,KK 1 τ 0 v.den=KK 1 M 0 v.den
 |[],_,_,v,hv=>by cases hv
 |a::as,h,ht,v,hv=>by
  simp only[Ca,AJ]at ht;rcases AT.1 hv with rfl|hv
  ·cases v with
   |c c=>simp only[SV.den,KK,frzC1 (c:=c) λk hk=>h k (B0 _ hk)]
   |agg cs=>simp only[SV.den,KK,frzL1 (cs:=cs) λk hk=>h k (B0 _ hk)]
   |tup ps=>cases ht.1
  ·refine frzA1 (as:=as) (λk hk=>h k ?_) ht.2 v hv
   cases a with
   |c c=>exact B7 _ hk
   |agg cs=>exact B7 _ hk
   |tup ps=>exact hk
def noTup:List SV->Bool
 |[]=>true
 |.tup _::_=>false
 |_::l=>noTup l
def VP:∀{as:List SV},noTup as=true->(as.all λv=>match v with|.tup _=>false|_=>true)=true
 |[],_=>rfl
 |.c c::l,h=>by simpa using VP (as:=l) h
 |.agg c::l,h=>by simpa using VP (as:=l) h
def Vn{X Y:Type}(g:Sg X)(ft:Ft Y)(run:X->Option Y)(inh:Y):Con where
 X:=Bool×X×List Nat
 Y:=Y
 dec:=λas M=>match g.h,ft.h,noTup as with
  |[],[],true=>match frzSL M as with
   |some (p,as')=>match getArgs g as' [] with
    |some x=>some (p,x,idA as)
    |none=>none
   |none=>none
  |_,_,_=>none
 run:=λx=>bif x.1 then run x.2.1 else none
 inh:=inh
 val:=λ_ y _=>ft.V y
 heap:=λ_ _ M=>M
 rd:=λx=>some x.2.2
def conFR_ok{P:Program}{f:FuncId}{X Y:Type}{g:Sg X}{ft:Ft Y}{run:X->Option Y}{inh:Y}(hk:QQ P f g ft run)(hv:∀y,plainSV (ft.V y)=true)(ht:∀y,(ft.V y).isTS=true):J4 P f (Vn g ft run inh):=by
 have key:∀as M x y,(Vn g ft run inh).dec as M=some x->(Vn g ft run inh).run x=some y->∀τ:QA,(∀c∈x.2.2,agC τ (SH.den M) c)->Jw P f (as.map SV.den) τ λv A'=>v=(ft.V y).den/\A'=τ:=by
  intro as M x y hx hp τ Ht;obtain⟨p,x,is⟩:=x;simp only[Vn]at hx hp Ht;split at hx
  ·rename_i hgh hfh hnt;split at hx
   ·rename_i p' as' hfz;split at hx
    ·rename_i x' hget;simp only[Kn,A0]at hx;obtain⟨rfl,rfl,rfl⟩:=hx
     cases p' with
     |false=>cases hp
     |true=>
      simp only[A6]at hp;obtain⟨f1,f2⟩:=Va hfz;obtain⟨h3,h4,h5⟩:=Ze (N:=(as'.map SV.den).length) (n0:=0) hk.to hget;have h6:=Vc (n0:=([]:SH).length) (M:=SH.den []) (by simp[SH.den]) (by rw[AE,AE];exact h3.symm) (hk.lowA _) h5 (hk.ok x' y hp);have hH:SH.den (ft.H y)=[]:=(by have:(ft.H y).length=0:=(by unfold Ft.H;rw[Xm,hfh];rfl);rw[Au.1 this];rfl);have f3:∀(i:Nat) (x y:AV),(as.map SV.den)[i]? =some x->(as'.map SV.den)[i]? =some y->KK 1 τ 0 x=some y:=λi x y h1 h2=>(by have h3:=f2 i x y h1 h2;rw[BY,WF]at h1;obtain⟨v,hv1,rfl⟩:=h1;rw[frzA1 Ht (VP hnt) v (BX hv1)];exact h3);have h7:=fn_read (M:=τ) (args:=as.map SV.den) (args0:=as'.map SV.den) (Q:=λv τ=>v=(ft.V y).den/\τ=[]) 1 (by simp[f1]) f3
       (h6.mono λv τ ⟨e1,e2⟩=>⟨⟨e1,by rw[e2,hH]⟩,by rw[e1];exact VG (hv y),by rw[e2,hH];intro o ho;cases ho⟩)
      refine h7.mono λv A' ⟨v0,T0,⟨e1,e2⟩,e3,e4⟩=> ?_;subst e1;subst e2;subst e3;subst e4;exact⟨WA (Ur (ht y)),by simp⟩
    ·cases hx
   ·cases hx
  ·cases hx
 refine⟨λas M x y hx hp=> ?_,λas M x y rs hx hrs=> ?_⟩
 ·exact(key as M x y hx hp (SH.den M) λc _=>agC.refl _ c).mono λv τ ⟨e1,e2⟩=>⟨by rw[e1];exact WV.rfl',by rw[e2];exact WH.rfl'⟩
 ·refine⟨rfl,λhp τ Ht=>key as M x y hx hp τ ?_⟩;simp only[Vn,Kn]at hrs;subst hrs;exact Ht
end Go.Abs
