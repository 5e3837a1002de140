/- A part of the proof. -/
import Derived.Test.YtnmlmdlhhphcoaaER8QSyM
set_option linter.all false
namespace Go.Abs
variable [Gl]
def frzS(J:SH):SV->Option (Bool×SV)
 |.c c=>match ja 0 J c with
  |some (p,c')=>some (p,.c c')
  |none=>none
 |.agg cs=>match frzL 0 J cs with
  |some (p,cs')=>some (p,.agg cs')
  |none=>none
 |.tup _=>none
def frzSL(J:SH):List SV->Option (Bool×List SV)
 |[]=>some (true,[])
 |v::vs=>match frzS J v,frzSL J vs with
  |some (p,v'),some (q,vs')=>some (p&&q,v'::vs')
  |_,_=>none
theorem frzC_of{k:Nat}{J:Q4}{c:Cell}{t:T}(hc:∀f rs,c≠.clo f rs)(h:X3 k J 0 c=some t):Wk k J 0 c=some (.t t):=by
 cases c with
 |t x=>cases k<;>(simp only[X3,Option.some.injEq]at h;subst h;rfl)
 |ptr r=>simp[Wk,h]
 |sl r l c=>simp[Wk,h]
 |clo f rs=>exact absurd rfl (hc f rs)
theorem frz1_clo{n1:Nat}{J:SH}{c c':SC}{p:Bool}(h:ja n1 J c=some (p,c')):∀f rs,c.den≠.clo f rs:=λf rs e=>by
 cases c<;>simp only[SC.den]at e<;>first|cases e;done|skip
 cases e;simp only[ja,SC.isT]at h;cases h
theorem frz1C{J:SH}{c c':SC}(h:ja 0 J c=some (true,c')):Wk 1 (SH.den J) 0 c.den=some c'.den:=by obtain⟨t,h1,h2⟩:=frz1_ok h;rw[h2];exact frzC_of (frz1_clo h) h1
theorem frzLC{J:SH}:∀{l l':List SC},frzL 0 J l=some (true,l')->XH (Wk 1 (SH.den J) 0) (l.map SC.den)=some (l'.map SC.den)
 |[],l',h=>by simp only[frzL,Option.some.injEq,Prod.mk.injEq,true_and]at h;subst h;rfl
 |c::l,l',h=>by
  simp only[frzL]at h;split at h
  ·rename_i p c' q l'' h1 h2;simp only[Option.some.injEq,Prod.mk.injEq,Bool.and_eq_true]at h;obtain⟨⟨rfl,rfl⟩,rfl⟩:=h;simp only[List.map_cons,XH,frz1C h1,frzLC h2]
  ·cases h
theorem frzS_ok{J:SH}{v v':SV}(h:frzS J v=some (true,v')):jZ 1 (SH.den J) 0 v.den=some v'.den:=by
 unfold frzS at h;split at h
 ·split at h
  ·rename_i h1;simp only[Option.some.injEq,Prod.mk.injEq]at h;obtain⟨rfl,rfl⟩:=h;simp only[SV.den,jZ,frz1C h1,Option.map_some]
  ·cases h
 ·split at h
  ·rename_i h1;simp only[Option.some.injEq,Prod.mk.injEq]at h;obtain⟨rfl,rfl⟩:=h;simp only[SV.den,jZ,frzLC h1,Option.map_some]
  ·cases h
 ·cases h
theorem frzSL_ok{J:SH}:∀{l l':List SV},frzSL J l=some (true,l')->l'.length=l.length/\∀(i:Nat) x y,(l.map SV.den)[i]? =some x->(l'.map SV.den)[i]? =some y->jZ 1 (SH.den J) 0 x=some y
 |[],l',h=>by simp only[frzSL,Option.some.injEq,Prod.mk.injEq,true_and]at h;subst h;exact⟨rfl,λi x y h=>by simp at h⟩
 |v::l,l',h=>by
  simp only[frzSL]at h;split at h
  ·rename_i p v' q l'' h1 h2;simp only[Option.some.injEq,Prod.mk.injEq,Bool.and_eq_true]at h;obtain⟨⟨rfl,rfl⟩,rfl⟩:=h;obtain⟨h3,h4⟩:=frzSL_ok h2;refine⟨by simp[h3],λi x y hx hy=> ?_⟩
   cases i with
   |zero=>simp only[List.map_cons,List.getElem?_cons_zero,Option.some.injEq]at hx hy;subst hx;subst hy;exact frzS_ok h1
   |succ i=>simp only[List.map_cons,List.getElem?_cons_succ]at hx hy;exact h4 i x y hx hy
  ·cases h
def plainS:SC->Bool
 |.arr .. |.ip .. |.iel .. |.nils|.fn _=>false
 |_=>true
def WZ:List SC->Bool
 |[]=>true
 |c::cs=>match plainS c with|true=>WZ cs|false=>false
def WY:List (SC⊕List SC)->Bool
 |[]=>true
 |.inl c::ps=>match plainS c with|true=>WY ps|false=>false
 |.inr cs::ps=>match WZ cs with|true=>WY ps|false=>false
def plainSV:SV->Bool
 |.c c=>plainS c
 |.agg cs=>WZ cs
 |.tup ps=>WY ps
def plainSO:SO->Bool
 |.st cs _ _=>WZ cs
 |.arr (.int _) _ _=>true
 |.arr .bool _ _=>true
 |_=>false
def qW:SH->Bool
 |[]=>true
 |o::J=>match plainSO o with|true=>qW J|false=>false
theorem VV{c:SC}(h:plainS c=true):Zv c.den=true:=by cases c<;>first|rfl|cases h
theorem KM:∀{l:List SC},WZ l=true->∀c∈l.map SC.den,Zv c=true
 |[],_,c,hc=>by simp at hc
 |x::l,h,c,hc=>by
  simp only[WZ]at h;split at h
  ·rename_i h1;rw[List.map_cons]at hc;rcases List.mem_cons.1 hc with rfl|hc
   ·exact VV h1
   ·exact KM h c hc
  ·cases h
theorem UB:∀{l:List (SC⊕List SC)},WY l=true->∀p∈l.map UO,match p with|.inl c=>Zv c=true|.inr cs=>∀c∈cs,Zv c=true
 |[],_,p,hp=>by simp at hp
 |.inl x::l,h,p,hp=>by
  simp only[WY]at h;split at h
  ·rename_i h1;rw[List.map_cons]at hp;rcases List.mem_cons.1 hp with rfl|hp
   ·exact VV h1
   ·exact UB h p hp
  ·cases h
 |.inr x::l,h,p,hp=>by
  simp only[WY]at h;split at h
  ·rename_i h1;rw[List.map_cons]at hp;rcases List.mem_cons.1 hp with rfl|hp
   ·exact KM h1
   ·exact UB h p hp
  ·cases h
theorem plainSV_ok{v:SV}(h:plainSV v=true):plainV v.den:=by
 cases v with
 |c c=>exact VV h
 |agg cs=>exact KM h
 |tup ps=>exact UB h
theorem plainSO_ok{o:SO}(h:plainSO o=true):∀c∈o.den.cs,Zv c=true:=by
 unfold plainSO at h;split at h
 ·exact KM h
 ·intro c hc;simp only[SO.den,List.mem_map,List.mem_flatMap]at hc;obtain⟨t,⟨x,_,hx⟩,rfl⟩:=hc;simp only[Ly.trees,List.mem_singleton]at hx;subst hx;rfl
 ·intro c hc;simp only[SO.den,List.mem_map,List.mem_flatMap]at hc;obtain⟨t,⟨x,_,hx⟩,rfl⟩:=hc;simp only[Ly.trees,List.mem_singleton]at hx;subst hx;rfl
 ·cases h
theorem jD:∀{J:SH},qW J=true->∀o∈SH.den J,∀c∈o.cs,Zv c=true
 |[],_,o,ho=>by simp[SH.den]at ho
 |x::J,h,o,ho=>by
  simp only[qW]at h;split at h
  ·rename_i h1;simp only[SH.den,List.map_cons,List.mem_cons]at ho;rcases ho with rfl|ho
   ·exact plainSO_ok h1
   ·exact jD h o ho
  ·cases h
def conF{X Y:Type}(g:Sg X)(ft:Ft Y)(run:X->Option Y)(inh:Y):Con where
 X:=Bool×X
 Y:=Y
 dec:=λas J=>match g.h with
  |[]=>match frzSL J as with
   |some (p,as')=>match getArgs g as' [] with
    |some x=>some (p,x)
    |none=>none
   |none=>none
  |_::_=>none
 run:=λx=>bif x.1 then run x.2 else none
 inh:=inh
 val:=λ_ y J=>(ft.V y).ren (XV [] J.length)
 heap:=λ_ y J=>J++U7 (XV [] J.length) (ft.H y)
 rd:=λ_=>none
theorem conF_ok{P:Program}{f:FuncId}{X Y:Type}{g:Sg X}{ft:Ft Y}{run:X->Option Y}{inh:Y}(hk:QV P f g ft run)(hv:∀y,plainSV (ft.V y)=true)(hh:∀y,qW (ft.H y)=true):Qk P f (conF g ft run inh):=by
 refine⟨λas J x y hx hp=> ?_,λas J x y rs hx hrs=>by cases hrs⟩;obtain⟨p,x⟩:=x;simp only[conF]at hx hp;split at hx
 ·rename_i hgh;split at hx
  ·rename_i p' as' hfz;split at hx
   ·rename_i x' hget;simp only[Option.some.injEq,Prod.mk.injEq]at hx;obtain⟨rfl,rfl⟩:=hx
    cases p' with
    |false=>cases hp
    |true=>
     simp only[cond_true]at hp;obtain⟨f1,f2⟩:=frzSL_ok hfz;obtain⟨h3,h4,h5⟩:=KY (N:=(as'.map SV.den).length) (n0:=0) hk.to hget;have h6:=fn_pre (n0:=([]:SH).length) (J:=SH.den []) (by simp[SH.den]) (by rw[List.length_map,List.length_map];exact h3.symm) (hk.lowA _) h5 (hk.ok x' y hp);have h7:=fn_read (J:=SH.den J) (args:=as.map SV.den) (args0:=as'.map SV.den) (Q:=λv τ=>v=(ft.V y).den/\τ=SH.den (ft.H y)) 1 (by simp[f1]) f2
      (h6.mono λv τ ⟨e1,e2⟩=>⟨⟨e1,e2⟩,by rw[e1];exact plainSV_ok (hv y),by rw[e2];exact jD (hh y)⟩)
     refine h7.mono λv T' ⟨v0,T0,⟨e1,e2⟩,e3,e4⟩=> ?_;subst e1;subst e2;subst e3;subst e4;simp only[conF,SH.QF];rw[upV_ren];refine⟨WV.rfl',?_⟩;have:SH.den J++(SH.den (ft.H y)).map (upO [] J.length)=SH.den (J++U7 (XV [] J.length) (ft.H y)):=(by rw[U6];simp[SH.den]);rw[this];exact WH.rfl'
   ·cases hx
  ·cases hx
 ·cases hx
end Go.Abs
