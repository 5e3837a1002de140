/- A part of the proof. -/
import Derived.Test.YtddaobhpffpmoaaSR7QSyM
set_option linter.all false
namespace Go.Abs
variable [Gl]
def frzS(O:SH):SV->Option (Bool×SV)
 |.c c=>match Vl 0 O c with
  |some (p,c')=>some (p,.c c')
  |none=>none
 |.agg cs=>match frzL 0 O cs with
  |some (p,cs')=>some (p,.agg cs')
  |none=>none
 |.tup _=>none
def frzSL(O:SH):List SV->Option (Bool×List SV)
 |[]=>some (true,[])
 |v::vs=>match frzS O v,frzSL O vs with
  |some (p,v'),some (q,vs')=>some (p&&q,v'::vs')
  |_,_=>none
theorem frzC_of{k:Nat}{O:Q1}{c:Cell}{t:T}(hc:∀f rs,c≠.clo f rs)(h:J5 k O 0 c=some t):ZT k O 0 c=some (.t t):=by
 cases c with
 |t x=>cases k<;>(simp only[J5,A0]at h;subst h;rfl)
 |ptr r=>simp[ZT,h]
 |sl r l c=>simp[ZT,h]
 |clo f rs=>exact absurd rfl (hc f rs)
theorem frz1_clo{n1:Nat}{O:SH}{c c':SC}{p:Bool}(h:Vl n1 O c=some (p,c')):∀f rs,c.den≠.clo f rs:=λf rs e=>by
 cases c<;>simp only[SC.den]at e<;>first|cases e;done|skip
 cases e;simp only[Vl,SC.isT]at h;cases h
theorem frz1C{O:SH}{c c':SC}(h:Vl 0 O c=some (true,c')):ZT 1 (SH.den O) 0 c.den=some c'.den:=by obtain⟨t,h1,h2⟩:=frz1_ok h;rw[h2];exact frzC_of (frz1_clo h) h1
theorem frzLC{O:SH}:∀{l l':List SC},frzL 0 O l=some (true,l')->JL (ZT 1 (SH.den O) 0) (l.map SC.den)=some (l'.map SC.den)
 |[],l',h=>by simp only[frzL,A0,A4,Ak]at h;subst h;rfl
 |c::l,l',h=>by
  simp only[frzL]at h;split at h
  ·rename_i p c' q l'' h1 h2;simp only[A0,A4,AC]at h;obtain⟨⟨rfl,rfl⟩,rfl⟩:=h;simp only[AQ,JL,frz1C h1,frzLC h2]
  ·cases h
theorem frzS_ok{O:SH}{v v':SV}(h:frzS O v=some (true,v')):KJ 1 (SH.den O) 0 v.den=some v'.den:=by
 unfold frzS at h;split at h
 ·split at h
  ·rename_i h1;simp only[A0,A4]at h;obtain⟨rfl,rfl⟩:=h;simp only[SV.den,KJ,frz1C h1,AD]
  ·cases h
 ·split at h
  ·rename_i h1;simp only[A0,A4]at h;obtain⟨rfl,rfl⟩:=h;simp only[SV.den,KJ,frzLC h1,AD]
  ·cases h
 ·cases h
theorem frzSL_ok{O:SH}:∀{l l':List SV},frzSL O l=some (true,l')->l'.length=l.length/\∀(i:Nat) x y,(l.map SV.den)[i]? =some x->(l'.map SV.den)[i]? =some y->KJ 1 (SH.den O) 0 x=some y
 |[],l',h=>by simp only[frzSL,A0,A4,Ak]at h;subst h;exact⟨rfl,λi x y h=>by simp at h⟩
 |v::l,l',h=>by
  simp only[frzSL]at h;split at h
  ·rename_i p v' q l'' h1 h2;simp only[A0,A4,AC]at h;obtain⟨⟨rfl,rfl⟩,rfl⟩:=h;obtain⟨h3,h4⟩:=frzSL_ok h2;refine⟨by simp[h3],λi x y hx hy=> ?_⟩
   cases i with
   |zero=>simp only[AQ,B8,A0]at hx hy;subst hx;subst hy;exact frzS_ok h1
   |succ i=>simp only[AQ,B9]at hx hy;exact h4 i x y hx hy
  ·cases h
def plainS:SC->Bool
 |.arr .. |.ip .. |.iel .. |.nils|.fn _=>false
 |_=>true
def WE:List SC->Bool
 |[]=>true
 |c::cs=>match plainS c with|true=>WE cs|false=>false
def K7:List (SC⊕List SC)->Bool
 |[]=>true
 |.inl c::ps=>match plainS c with|true=>K7 ps|false=>false
 |.inr cs::ps=>match WE cs with|true=>K7 ps|false=>false
def plainSV:SV->Bool
 |.c c=>plainS c
 |.agg cs=>WE cs
 |.tup ps=>K7 ps
theorem U5{c:SC}(h:plainS c=true):Zk c.den=true:=by cases c<;>first|rfl|cases h
theorem Kg:∀{l:List SC},WE l=true->∀c∈l.map SC.den,Zk c=true
 |[],_,c,hc=>by simp at hc
 |x::l,h,c,hc=>by
  simp only[WE]at h;split at h
  ·rename_i h1;rw[AQ]at hc;rcases Ag.1 hc with rfl|hc
   ·exact U5 h1
   ·exact Kg h c hc
  ·cases h
theorem Kf:∀{l:List (SC⊕List SC)},K7 l=true->∀p∈l.map Wp,match p with|.inl c=>Zk c=true|.inr cs=>∀c∈cs,Zk c=true
 |[],_,p,hp=>by simp at hp
 |.inl x::l,h,p,hp=>by
  simp only[K7]at h;split at h
  ·rename_i h1;rw[AQ]at hp;rcases Ag.1 hp with rfl|hp
   ·exact U5 h1
   ·exact Kf h p hp
  ·cases h
 |.inr x::l,h,p,hp=>by
  simp only[K7]at h;split at h
  ·rename_i h1;rw[AQ]at hp;rcases Ag.1 hp with rfl|hp
   ·exact Kg h1
   ·exact Kf h p hp
  ·cases h
theorem plainSV_ok{v:SV}(h:plainSV v=true):plainV v.den:=by
 cases v with
 |c c=>exact U5 h
 |agg cs=>exact Kg h
 |tup ps=>exact Kf h
def idC:SC->List Nat
 |.ptr id _=>[id+1]
 |.el id .. =>[id+1]
 |.sl id .. =>[id+1]
 |_=>[]
def idL:List SC->List Nat
 |[]=>[]
 |c::cs=>idC c++idL cs
def idA:List SV->List Nat
 |[]=>[]
 |.c c::l=>idC c++idA l
 |.agg cs::l=>idL cs++idA l
 |.tup _::l=>idA l
theorem frzT0(O τ:Q1)(n:Nat)(c:Cell):J5 0 O n c=J5 0 τ n c:=by cases c<;>rfl
theorem Vh{α β:Type}{f g:α->Option β}(h:∀x,f x=g x)(l:List α):JL f l=JL g l:=by rw[show f=g from funext h]
theorem frzT1{O τ:Q1}{c:SC}(h:∀k∈idC c,agC τ O k):J5 1 τ 0 c.den=J5 1 O 0 c.den:=by
 have hp:∀r:Ref,agC τ O (r.id+1)->J5 1 τ 0 (.ptr r)=J5 1 O 0 (.ptr r):=λr hr=>by simp only[J5,X9 hr,Vh (frzT0 τ O 0)]
 have hs:∀(r:Ref) (l:Nat) (cp:Option Nat),agC τ O (r.id+1)->J5 1 τ 0 (.sl r l cp)=J5 1 O 0 (.sl r l cp):=λr l cp hr=>by simp only[J5,X9 hr,Vh (frzT0 τ O 0)]
 cases c with
 |ptr id off=>exact hp _ (h _ (by simp[idC]))
 |el id ep es i off=>exact hp _ (h _ (by simp[idC]))
 |sl id ep es lo len cap=>exact hs _ _ _ (h _ (by simp[idC]))
 |clo f rs=>simp only[SC.den,J5]
 |_=>rfl
theorem frzC1{O τ:Q1}{c:SC}(h:∀k∈idC c,agC τ O k):ZT 1 τ 0 c.den=ZT 1 O 0 c.den:=by
 have h1:=frzT1 h;generalize c.den=d at h1
 cases d with
 |t x=>rfl
 |ptr r=>simp only[ZT,h1]
 |sl r l cp=>simp only[ZT,h1]
 |clo f rs=>simp only[ZT,h1]
theorem frzL1{O τ:Q1}:∀{cs:List SC},(∀k∈idL cs,agC τ O k)->JL (ZT 1 τ 0) (cs.map SC.den)=JL (ZT 1 O 0) (cs.map SC.den)
 |[],_=>rfl
 |c::cs,h=>by simp only[AQ,JL,frzC1 (c:=c) λk hk=>h k (BR _ hk),frzL1 (cs:=cs) λk hk=>h k (Bf _ hk)]
theorem frzA1{O τ:Q1}:∀{as:List SV},(∀k∈idA as,agC τ O k)->(as.all λv=>match v with|.tup _=>false|_=>true)=true->∀v∈as,KJ 1 τ 0 v.den=KJ 1 O 0 v.den
 |[],_,_,v,hv=>by cases hv
 |a::as,h,ht,v,hv=>by
  simp only[CO,AC]at ht;rcases Ag.1 hv with rfl|hv
  ·cases v with
   |c c=>simp only[SV.den,KJ,frzC1 (c:=c) λk hk=>h k (BR _ hk)]
   |agg cs=>simp only[SV.den,KJ,frzL1 (cs:=cs) λk hk=>h k (BR _ hk)]
   |tup ps=>cases ht.1
  ·refine frzA1 (as:=as) (λk hk=>h k ?_) ht.2 v hv
   cases a with
   |c c=>exact Bf _ hk
   |agg cs=>exact Bf _ hk
   |tup ps=>exact hk
def noTup:List SV->Bool
 |[]=>true
 |.tup _::_=>false
 |_::l=>noTup l
theorem Va:∀{as:List SV},noTup as=true->(as.all λv=>match v with|.tup _=>false|_=>true)=true
 |[],_=>rfl
 |.c c::l,h=>by simpa using Va (as:=l) h
 |.agg c::l,h=>by simpa using Va (as:=l) h
def Vx{X Y:Type}(g:Sg X)(ft:Ft Y)(run:X->Option Y)(inh:Y):Con where
 X:=Bool×X×List Nat
 Y:=Y
 dec:=λas O=>match g.h,ft.h,noTup as with
  |[],[],true=>match frzSL O as with
   |some (p,as')=>match getArgs g as' [] with
    |some x=>some (p,x,idA as)
    |none=>none
   |none=>none
  |_,_,_=>none
 run:=λx=>bif x.1 then run x.2.1 else none
 inh:=inh
 val:=λ_ y _=>ft.V y
 heap:=λ_ _ O=>O
 rd:=λx=>some x.2.2
theorem conFR_ok{P:Program}{f:FuncId}{X Y:Type}{g:Sg X}{ft:Ft Y}{run:X->Option Y}{inh:Y}(hk:QM P f g ft run)(hv:∀y,plainSV (ft.V y)=true)(ht:∀y,(ft.V y).isTS=true):QR P f (Vx g ft run inh):=by
 have key:∀as O x y,(Vx g ft run inh).dec as O=some x->(Vx g ft run inh).run x=some y->∀τ:Q1,(∀c∈x.2.2,agC τ (SH.den O) c)->Qo P f (as.map SV.den) τ λv T'=>v=(ft.V y).den/\T'=τ:=by
  intro as O x y hx hp τ HT;obtain⟨p,x,is⟩:=x;simp only[Vx]at hx hp HT;split at hx
  ·rename_i hgh hfh hnt;split at hx
   ·rename_i p' as' hfz;split at hx
    ·rename_i x' hget;simp only[A0,A4]at hx;obtain⟨rfl,rfl,rfl⟩:=hx
     cases p' with
     |false=>cases hp
     |true=>
      simp only[A7]at hp;obtain⟨f1,f2⟩:=frzSL_ok hfz;obtain⟨h3,h4,h5⟩:=Kt (N:=(as'.map SV.den).length) (n0:=0) hk.to hget;have h6:=fn_pre (n0:=([]:SH).length) (O:=SH.den []) (by simp[SH.den]) (by rw[AG,AG];exact h3.symm) (hk.lowA _) h5 (hk.ok x' y hp);have hH:SH.den (ft.H y)=[]:=(by have:(ft.H y).length=0:=(by unfold Ft.H;rw[XV,hfh];rfl);rw[AN.1 this];rfl);have f3:∀(i:Nat) (x y:AV),(as.map SV.den)[i]? =some x->(as'.map SV.den)[i]? =some y->KJ 1 τ 0 x=some y:=λi x y h1 h2=>(by have h3:=f2 i x y h1 h2;rw[AX,A2]at h1;obtain⟨v,hv1,rfl⟩:=h1;rw[frzA1 HT (Va hnt) v (BW hv1)];exact h3);have h7:=fn_read (O:=τ) (args:=as.map SV.den) (args0:=as'.map SV.den) (Q:=λv τ=>v=(ft.V y).den/\τ=[]) 1 (by simp[f1]) f3
       (h6.mono λv τ ⟨e1,e2⟩=>⟨⟨e1,by rw[e2,hH]⟩,by rw[e1];exact plainSV_ok (hv y),by rw[e2,hH];intro o ho;cases ho⟩)
      refine h7.mono λv T' ⟨v0,T0,⟨e1,e2⟩,e3,e4⟩=> ?_;subst e1;subst e2;subst e3;subst e4;exact⟨V5 (isTS_av (ht y)),by simp⟩
    ·cases hx
   ·cases hx
  ·cases hx
 refine⟨λas O x y hx hp=> ?_,λas O x y rs hx hrs=> ?_⟩
 ·exact(key as O x y hx hp (SH.den O) λc _=>agC.refl _ c).mono λv τ ⟨e1,e2⟩=>⟨by rw[e1];exact WV.rfl',by rw[e2];exact WH.rfl'⟩
 ·refine⟨rfl,λhp τ HT=>key as O x y hx hp τ ?_⟩;simp only[Vx,A0]at hrs;subst hrs;exact HT
end Go.Abs
