/-
  A general library: a contract on trees as a contract of calls whose objects are read.
-/
import Derived.Test.YtfcbahfdgopgfaaKR9QSyM
set_option linter.all false
namespace Go.Abs
variable [Gl]
def frzS(σ:SH):SV→Option (Bool×SV)
 |.c c=>match Vq 0 σ c with
  |some (p,c')=>some (p,.c c')
  |none=>none
 |.agg cs=>match frzL 0 σ cs with
  |some (p,cs')=>some (p,.agg cs')
  |none=>none
 |.tup _=>none
def frzSL(σ:SH):List SV→Option (Bool×List SV)
 |[]=>some (true,[])
 |v::vs=>match frzS σ v,frzSL σ vs with
  |some (p,v'),some (q,vs')=>some (p&&q,v'::vs')
  |_,_=>none
theorem frzC_of{k:Nat}{σ:Q0}{c:Cell}{t:T}(hc:∀f rs,c≠.clo f rs)(h:J7 k σ 0 c=some t):ZW k σ 0 c=some (.t t):=by
 cases c with
 |t x=>
  cases k<;>(simp only[J7,Option.some.injEq]at h;subst h;rfl)
 |ptr r=>simp[ZW,h]
 |sl r l c=>simp[ZW,h]
 |clo f rs=>exact absurd rfl (hc f rs)
theorem frz1_clo{n1:Nat}{σ:SH}{c c':SC}{p:Bool}(h:Vq n1 σ c=some (p,c')):∀f rs,c.den≠.clo f rs:=fun f rs e=>by
 cases c<;>simp only[SC.den]at e<;>first|cases e;done|skip
 cases e
 simp only[Vq,SC.isT]at h
 cases h
theorem frz1C{σ:SH}{c c':SC}(h:Vq 0 σ c=some (true,c')):ZW 1 (SH.den σ) 0 c.den=some c'.den:=by
 obtain⟨t,h1,h2⟩:=frz1_ok h
 rw[h2]
 exact frzC_of (frz1_clo h) h1
theorem frzLC{σ:SH}:∀{l l':List SC},frzL 0 σ l=some (true,l')→JG (ZW 1 (SH.den σ) 0) (l.map SC.den)=some (l'.map SC.den)
 |[],l',h=>by simp only[frzL,Option.some.injEq,Prod.mk.injEq,true_and]at h;subst h;rfl
 |c::l,l',h=>by
  simp only[frzL]at h
  split at h
  ·rename_i p c' q l'' h1 h2
   simp only[Option.some.injEq,Prod.mk.injEq,Bool.and_eq_true]at h
   obtain⟨⟨rfl,rfl⟩,rfl⟩:=h
   simp only[List.map_cons,JG,frz1C h1,frzLC h2]
  ·cases h
theorem frzS_ok{σ:SH}{v v':SV}(h:frzS σ v=some (true,v')):YY 1 (SH.den σ) 0 v.den=some v'.den:=by
 unfold frzS at h
 split at h
 ·split at h
  ·rename_i h1
   simp only[Option.some.injEq,Prod.mk.injEq]at h
   obtain⟨rfl,rfl⟩:=h
   simp only[SV.den,YY,frz1C h1,Option.map_some]
  ·cases h
 ·split at h
  ·rename_i h1
   simp only[Option.some.injEq,Prod.mk.injEq]at h
   obtain⟨rfl,rfl⟩:=h
   simp only[SV.den,YY,frzLC h1,Option.map_some]
  ·cases h
 ·cases h
theorem Vp{σ:SH}:∀{l l':List SV},frzSL σ l=some (true,l')→l'.length=l.length∧∀(i:Nat) x y,(l.map SV.den)[i]? =some x→(l'.map SV.den)[i]? =some y→YY 1 (SH.den σ) 0 x=some y
 |[],l',h=>by
  simp only[frzSL,Option.some.injEq,Prod.mk.injEq,true_and]at h
  subst h
  exact⟨rfl,fun i x y h=>by simp at h⟩
 |v::l,l',h=>by
  simp only[frzSL]at h
  split at h
  ·rename_i p v' q l'' h1 h2
   simp only[Option.some.injEq,Prod.mk.injEq,Bool.and_eq_true]at h
   obtain⟨⟨rfl,rfl⟩,rfl⟩:=h
   obtain⟨h3,h4⟩:=Vp h2
   refine⟨by simp[h3],fun i x y hx hy=> ?_⟩
   cases i with
   |zero=>
    simp only[List.map_cons,List.getElem?_cons_zero,Option.some.injEq]at hx hy
    subst hx;subst hy
    exact frzS_ok h1
   |succ i=>
    simp only[List.map_cons,List.getElem?_cons_succ]at hx hy
    exact h4 i x y hx hy
  ·cases h
def plainS:SC→Bool
 |.arr .. |.ip .. |.iel .. |.nils|.fn _=>false
 |_=>true
def KI:List SC→Bool
 |[]=>true
 |c::cs=>match plainS c with|true=>KI cs|false=>false
def KH:List (SC⊕List SC)→Bool
 |[]=>true
 |.inl c::ps=>match plainS c with|true=>KH ps|false=>false
 |.inr cs::ps=>match KI cs with|true=>KH ps|false=>false
def plainSV:SV→Bool
 |.c c=>plainS c
 |.agg cs=>KI cs
 |.tup ps=>KH ps
def plainSO:SO→Bool
 |.st cs _ _=>KI cs
 |.arr (.int _) _ _=>true
 |.arr .bool _ _=>true
 |_=>false
def Uu:SH→Bool
 |[]=>true
 |o::σ=>match plainSO o with|true=>Uu σ|false=>false
theorem UB{c:SC}(h:plainS c=true):Xy c.den=true:=by
 cases c<;>first|rfl|cases h
theorem YO:∀{l:List SC},KI l=true→∀c∈l.map SC.den,Xy c=true
 |[],_,c,hc=>by simp at hc
 |x::l,h,c,hc=>by
  simp only[KI]at h
  split at h
  ·rename_i h1
   rw[List.map_cons]at hc
   rcases List.mem_cons.1 hc with rfl|hc
   ·exact UB h1
   ·exact YO h c hc
  ·cases h
theorem Ku:∀{l:List (SC⊕List SC)},KH l=true→∀p∈l.map Ww,match p with|.inl c=>Xy c=true|.inr cs=>∀c∈cs,Xy c=true
 |[],_,p,hp=>by simp at hp
 |.inl x::l,h,p,hp=>by
  simp only[KH]at h
  split at h
  ·rename_i h1
   rw[List.map_cons]at hp
   rcases List.mem_cons.1 hp with rfl|hp
   ·exact UB h1
   ·exact Ku h p hp
  ·cases h
 |.inr x::l,h,p,hp=>by
  simp only[KH]at h
  split at h
  ·rename_i h1
   rw[List.map_cons]at hp
   rcases List.mem_cons.1 hp with rfl|hp
   ·exact YO h1
   ·exact Ku h p hp
  ·cases h
theorem VV{v:SV}(h:plainSV v=true):plainV v.den:=by
 cases v with
 |c c=>exact UB h
 |agg cs=>exact YO h
 |tup ps=>exact Ku h
theorem plainSO_ok{o:SO}(h:plainSO o=true):∀c∈o.den.cs,Xy c=true:=by
 unfold plainSO at h
 split at h
 ·exact YO h
 ·intro c hc
  simp only[SO.den,List.mem_map,List.mem_flatMap]at hc
  obtain⟨t,⟨x,_,hx⟩,rfl⟩:=hc
  simp only[Ly.trees,List.mem_singleton]at hx
  subst hx;rfl
 ·intro c hc
  simp only[SO.den,List.mem_map,List.mem_flatMap]at hc
  obtain⟨t,⟨x,_,hx⟩,rfl⟩:=hc
  simp only[Ly.trees,List.mem_singleton]at hx
  subst hx;rfl
 ·cases h
theorem VW:∀{σ:SH},Uu σ=true→∀o∈SH.den σ,∀c∈o.cs,Xy c=true
 |[],_,o,ho=>by simp[SH.den]at ho
 |x::σ,h,o,ho=>by
  simp only[Uu]at h
  split at h
  ·rename_i h1
   simp only[SH.den,List.map_cons,List.mem_cons]at ho
   rcases ho with rfl|ho
   ·exact plainSO_ok h1
   ·exact VW h o ho
  ·cases h
def conF{X Y:Type}(g:Sg X)(ft:Ft Y)(run:X→Option Y)(inh:Y):Con where
 X:=Bool×X
 Y:=Y
 dec:=fun as σ=>match g.h with
  |[]=>match frzSL σ as with
   |some (p,as')=>match getArgs g as' [] with
    |some x=>some (p,x)
    |none=>none
   |none=>none
  |_::_=>none
 run:=fun x=>bif x.1 then run x.2 else none
 inh:=inh
 val:=fun _ y σ=>(ft.V y).ren (Ji [] σ.length)
 heap:=fun _ y σ=>σ++Kq (Ji [] σ.length) (ft.H y)
 rd:=fun _=>none
theorem conF_ok{P:Program}{f:FuncId}{X Y:Type}{g:Sg X}{ft:Ft Y}{run:X→Option Y}{inh:Y}(hk:QS P f g ft run)(hv:∀y,plainSV (ft.V y)=true)(hh:∀y,Uu (ft.H y)=true):QU P f (conF g ft run inh):=by
 refine⟨fun as σ x y hx hp=> ?_,fun as σ x y rs hx hrs=>by cases hrs⟩
 obtain⟨p,x⟩:=x
 simp only[conF]at hx hp
 split at hx
 ·rename_i hgh
  split at hx
  ·rename_i p' as' hfz
   split at hx
   ·rename_i x' hget
    simp only[Option.some.injEq,Prod.mk.injEq]at hx
    obtain⟨rfl,rfl⟩:=hx
    cases p' with
    |false=>cases hp
    |true=>
     simp only[cond_true]at hp
     obtain⟨f1,f2⟩:=Vp hfz
     obtain⟨h3,h4,h5⟩:=ZV (N:=(as'.map SV.den).length) (n0:=0) hk.to hget
     have h6:=Vr (n0:=([]:SH).length) (σ:=SH.den []) (by simp[SH.den]) (by rw[List.length_map,List.length_map];exact h3.symm) (hk.lowA _) h5 (hk.ok x' y hp)
     have h7:=fn_read (σ:=SH.den σ) (args:=as.map SV.den) (args0:=as'.map SV.den) (Q:=fun v τ=>v=(ft.V y).den∧τ=SH.den (ft.H y)) 1 (by simp[f1]) f2
      (h6.mono fun v τ ⟨e1,e2⟩=>⟨⟨e1,e2⟩,by rw[e1];exact VV (hv y),by rw[e2];exact VW (hh y)⟩)
     refine h7.mono fun v τ' ⟨v0,τ0,⟨e1,e2⟩,e3,e4⟩=> ?_
     subst e1;subst e2;subst e3;subst e4
     simp only[conF,SH.Q7]
     rw[upV_ren]
     refine⟨WV.rfl',?_⟩
     have:SH.den σ++(SH.den (ft.H y)).map (upO [] σ.length)=SH.den (σ++Kq (Ji [] σ.length) (ft.H y)):=by
      rw[Kp];simp[SH.den]
     rw[this]
     exact WH.rfl'
   ·cases hx
  ·cases hx
 ·cases hx
def idC:SC→List Nat
 |.ptr id _=>[id+1]
 |.el id .. =>[id+1]
 |.sl id .. =>[id+1]
 |_=>[]
def idL:List SC→List Nat
 |[]=>[]
 |c::cs=>idC c++idL cs
def idA:List SV→List Nat
 |[]=>[]
 |.c c::l=>idC c++idA l
 |.agg cs::l=>idL cs++idA l
 |.tup _::l=>idA l
theorem frzT0(σ τ:Q0)(n:Nat)(c:Cell):J7 0 σ n c=J7 0 τ n c:=by cases c<;>rfl
theorem Vk{α β:Type}{f g:α→Option β}(h:∀x,f x=g x)(l:List α):JG f l=JG g l:=by
 rw[show f=g from funext h]
theorem frzT1{σ τ:Q0}{c:SC}(h:∀k∈idC c,agC τ σ k):J7 1 τ 0 c.den=J7 1 σ 0 c.den:=by
 have hp:∀r:Ref,agC τ σ (r.id+1)→J7 1 τ 0 (.ptr r)=J7 1 σ 0 (.ptr r):=fun r hr=>by
  simp only[J7,X5 hr,Vk (frzT0 τ σ 0)]
 have hs:∀(r:Ref) (l:Nat) (cp:Option Nat),agC τ σ (r.id+1)→J7 1 τ 0 (.sl r l cp)=J7 1 σ 0 (.sl r l cp):=fun r l cp hr=>by
  simp only[J7,X5 hr,Vk (frzT0 τ σ 0)]
 cases c with
 |ptr id off=>exact hp _ (h _ (by simp[idC]))
 |el id ep es i off=>exact hp _ (h _ (by simp[idC]))
 |sl id ep es lo len cap=>exact hs _ _ _ (h _ (by simp[idC]))
 |clo f rs=>
  simp only[SC.den,J7]
 |_=>rfl
theorem frzC1{σ τ:Q0}{c:SC}(h:∀k∈idC c,agC τ σ k):ZW 1 τ 0 c.den=ZW 1 σ 0 c.den:=by
 have h1:=frzT1 h
 generalize c.den=d at h1
 cases d with
 |t x=>rfl
 |ptr r=>simp only[ZW,h1]
 |sl r l cp=>simp only[ZW,h1]
 |clo f rs=>simp only[ZW,h1]
theorem frzL1{σ τ:Q0}:∀{cs:List SC},(∀k∈idL cs,agC τ σ k)→JG (ZW 1 τ 0) (cs.map SC.den)=JG (ZW 1 σ 0) (cs.map SC.den)
 |[],_=>rfl
 |c::cs,h=>by
  simp only[List.map_cons,JG,frzC1 (c:=c) fun k hk=>h k (List.mem_append_left _ hk),frzL1 (cs:=cs) fun k hk=>h k (List.mem_append_right _ hk)]
theorem frzA1{σ τ:Q0}:∀{as:List SV},(∀k∈idA as,agC τ σ k)→(as.all fun v=>match v with|.tup _=>false|_=>true)=true→∀v∈as,YY 1 τ 0 v.den=YY 1 σ 0 v.den
 |[],_,_,v,hv=>by cases hv
 |a::as,h,ht,v,hv=>by
  simp only[List.all_cons,Bool.and_eq_true]at ht
  rcases List.mem_cons.1 hv with rfl|hv
  ·cases v with
   |c c=>simp only[SV.den,YY,frzC1 (c:=c) fun k hk=>h k (List.mem_append_left _ hk)]
   |agg cs=>simp only[SV.den,YY,frzL1 (cs:=cs) fun k hk=>h k (List.mem_append_left _ hk)]
   |tup ps=>cases ht.1
  ·refine frzA1 (as:=as) (fun k hk=>h k ?_) ht.2 v hv
   cases a with
   |c c=>exact List.mem_append_right _ hk
   |agg cs=>exact List.mem_append_right _ hk
   |tup ps=>exact hk
def noTup:List SV→Bool
 |[]=>true
 |.tup _::_=>false
 |_::l=>noTup l
theorem Ve:∀{as:List SV},noTup as=true→(as.all fun v=>match v with|.tup _=>false|_=>true)=true
 |[],_=>rfl
 |.c c::l,h=>by simpa using Ve (as:=l) h
 |.agg c::l,h=>by simpa using Ve (as:=l) h
def Zm{X Y:Type}(g:Sg X)(ft:Ft Y)(run:X→Option Y)(inh:Y):Con where
 X:=Bool×X×List Nat
 Y:=Y
 dec:=fun as σ=>match g.h,ft.h,noTup as with
  |[],[],true=>match frzSL σ as with
   |some (p,as')=>match getArgs g as' [] with
    |some x=>some (p,x,idA as)
    |none=>none
   |none=>none
  |_,_,_=>none
 run:=fun x=>bif x.1 then run x.2.1 else none
 inh:=inh
 val:=fun _ y _=>ft.V y
 heap:=fun _ _ σ=>σ
 rd:=fun x=>some x.2.2
theorem XT{P:Program}{f:FuncId}{X Y:Type}{g:Sg X}{ft:Ft Y}{run:X→Option Y}{inh:Y}(hk:QS P f g ft run)(hv:∀y,plainSV (ft.V y)=true)(ht:∀y,(ft.V y).isTS=true):QU P f (Zm g ft run inh):=by
 have key:∀as σ x y,(Zm g ft run inh).dec as σ=some x→(Zm g ft run inh).run x=some y→∀τ:Q0,(∀c∈x.2.2,agC τ (SH.den σ) c)→Ja P f (as.map SV.den) τ fun v τ'=>v=(ft.V y).den∧τ'=τ:=by
  intro as σ x y hx hp τ hτ
  obtain⟨p,x,is⟩:=x
  simp only[Zm]at hx hp hτ
  split at hx
  ·rename_i hgh hfh hnt
   split at hx
   ·rename_i p' as' hfz
    split at hx
    ·rename_i x' hget
     simp only[Option.some.injEq,Prod.mk.injEq]at hx
     obtain⟨rfl,rfl,rfl⟩:=hx
     cases p' with
     |false=>cases hp
     |true=>
      simp only[cond_true]at hp
      obtain⟨f1,f2⟩:=Vp hfz
      obtain⟨h3,h4,h5⟩:=ZV (N:=(as'.map SV.den).length) (n0:=0) hk.to hget
      have h6:=Vr (n0:=([]:SH).length) (σ:=SH.den []) (by simp[SH.den]) (by rw[List.length_map,List.length_map];exact h3.symm) (hk.lowA _) h5 (hk.ok x' y hp)
      have hH:SH.den (ft.H y)=[]:=by
       have:(ft.H y).length=0:=by unfold Ft.H;rw[XQ,hfh];rfl
       rw[List.length_eq_zero_iff.1 this];rfl
      have f3:∀(i:Nat) (x y:AV),(as.map SV.den)[i]? =some x→(as'.map SV.den)[i]? =some y→YY 1 τ 0 x=some y:=fun i x y h1 h2=>by
       have h3:=f2 i x y h1 h2
       rw[List.getElem?_map,Option.map_eq_some_iff]at h1
       obtain⟨v,hv1,rfl⟩:=h1
       rw[frzA1 hτ (Ve hnt) v (List.mem_of_getElem? hv1)]
       exact h3
      have h7:=fn_read (σ:=τ) (args:=as.map SV.den) (args0:=as'.map SV.den) (Q:=fun v τ=>v=(ft.V y).den∧τ=[]) 1 (by simp[f1]) f3
       (h6.mono fun v τ ⟨e1,e2⟩=>⟨⟨e1,by rw[e2,hH]⟩,by rw[e1];exact VV (hv y),by rw[e2,hH];intro o ho;cases ho⟩)
      refine h7.mono fun v τ' ⟨v0,τ0,⟨e1,e2⟩,e3,e4⟩=> ?_
      subst e1;subst e2;subst e3;subst e4
      exact⟨W7 (Uz (ht y)),by simp⟩
    ·cases hx
   ·cases hx
  ·cases hx
 refine⟨fun as σ x y hx hp=> ?_,fun as σ x y rs hx hrs=> ?_⟩
 ·exact(key as σ x y hx hp (SH.den σ) fun c _=>agC.refl _ c).mono fun v τ ⟨e1,e2⟩=>⟨by rw[e1];exact WV.rfl',by rw[e2];exact WH.rfl'⟩
 ·refine⟨rfl,fun hp τ hτ=>key as σ x y hx hp τ ?_⟩
  simp only[Zm,Option.some.injEq]at hrs
  subst hrs
  exact hτ
end Go.Abs
