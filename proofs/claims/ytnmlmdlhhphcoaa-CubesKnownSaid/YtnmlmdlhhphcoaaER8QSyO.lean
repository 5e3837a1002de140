/- A part of the proof. -/
import Derived.Test.YtnmlmdlhhphcoaaER8QSyI
set_option linter.all false
namespace Go.Abs
variable [Gl]
def noYS:SC->Bool
 |.clo g _=>match Nat.beq g YID with|true=>false|false=>true
 |_=>true
def jM:List SC->Bool
 |[]=>true
 |c::l=>match noYS c with|true=>jM l|false=>false
def noYSP:List (SC⊕List SC)->Bool
 |[]=>true
 |.inl c::l=>match noYS c with|true=>noYSP l|false=>false
 |.inr cs::l=>match jM cs with|true=>noYSP l|false=>false
def noYSV:SV->Bool
 |.c x=>noYS x
 |.agg xs=>jM xs
 |.tup xs=>noYSP xs
def noYSO:SO->Bool
 |.st cs _ _=>jM cs
 |.opn _ _ cs _ _=>jM cs
 |_=>true
def noYSH:SH->Bool
 |[]=>true
 |o::J=>match noYSO o with|true=>noYSH J|false=>false
theorem noYS_ok{c:SC}(h:noYS c=true):noYC c.den:=by
 cases c with
 |clo g rs=>
  simp only[noYS]at h;split at h
  ·cases h
  ·rename_i h1;exact UU h1
 |_=>trivial
theorem Ky:∀{l:List SC},jM l=true->∀c∈l.map SC.den,noYC c
 |[],_,c,hc=>by simp at hc
 |x::l,h,c,hc=>by
  simp only[jM]at h;split at h
  ·rename_i h1;simp only[List.map_cons,List.mem_cons]at hc;rcases hc with rfl|hc
   ·exact noYS_ok h1
   ·exact Ky h c hc
  ·cases h
theorem Ui:∀{l:List (SC⊕List SC)},noYSP l=true->∀p∈l.map UO,∀c,(match p with|.inl x=>c=x|.inr cs=>c∈cs)->noYC c
 |[],_,p,hp=>by simp at hp
 |.inl x::l,h,p,hp=>by
  simp only[noYSP]at h;split at h
  ·rename_i h1;simp only[List.map_cons,List.mem_cons]at hp;rcases hp with rfl|hp
   ·intro c hc;have hc:c=x.den:=hc;rw[hc];exact noYS_ok h1
   ·exact Ui h p hp
  ·cases h
 |.inr xs::l,h,p,hp=>by
  simp only[noYSP]at h;split at h
  ·rename_i h1;simp only[List.map_cons,List.mem_cons]at hp;rcases hp with rfl|hp
   ·exact λc hc=>Ky h1 c hc
   ·exact Ui h p hp
  ·cases h
theorem noYSV_ok{v:SV}(h:noYSV v=true):noYA v.den:=λc hc=>by
 cases v with
 |c x=>have hc:c=x.den:=hc;rw[hc];exact noYS_ok h
 |agg xs=>exact Ky h c hc
 |tup xs=>
  obtain⟨p,hp,hc⟩:=hc
  cases p with
  |inl x=>exact Ui h _ hp c hc
  |inr cs=>exact Ui h _ hp c hc
theorem noYSO_ok{o:SO}(h:noYSO o=true):∀c∈o.den.cs,noYC c:=λc hc=>by
 cases o with
 |st cs es ep=>exact Ky h c hc
 |arr l xs ep=>simp only[SO.den]at hc;obtain⟨t,_,rfl⟩:=List.mem_map.1 hc;trivial
 |zer z l n=>simp only[SO.den]at hc;obtain⟨t,_,rfl⟩:=List.mem_map.1 hc;trivial
 |opn l xs cs ys ep=>
  simp only[SO.den,List.mem_append]at hc;rcases hc with hc|hc|hc
  ·obtain⟨t,_,rfl⟩:=List.mem_map.1 hc;trivial
  ·exact Ky h c hc
  ·obtain⟨t,_,rfl⟩:=List.mem_map.1 hc;trivial
theorem jN:∀{J:SH},noYSH J=true->noYH (SH.den J)
 |[],_=>λo ho=>by simp[SH.den]at ho
 |x::J,h=>λo ho=>by
  simp only[noYSH]at h;split at h
  ·rename_i h1;simp only[SH.den,List.map_cons,List.mem_cons]at ho;rcases ho with rfl|ho
   ·exact noYSO_ok h1
   ·exact jN h o ho
  ·cases h
def mapN(f:Nat->Option Nat)(r0:SR):SR->SR
 |[]=>[]
 |(t,_,_)::r=>match f t with
  |some t'=>match r0.get t with
   |some ([],v)=>match noYSV v with
    |true=>(t',[],v)::mapN f r0 r
    |false=>mapN f r0 r
   |_=>mapN f r0 r
  |none=>mapN f r0 r
theorem Zi{f:Nat->Option Nat}{r0:SR}:∀{r:SR} {t':Nat} {tg:Tg} {v:SV},(t',tg,v)∈mapN f r0 r->tg=[]/\noYSV v=true/\∃t,f t=some t'/\r0.get t=some ([],v)
 |(t,x,y)::r,t',tg,v,h=>by
  simp only[mapN]at h;split at h
  ·rename_i t1 h1;split at h
   ·rename_i v1 h2;split at h
    ·rename_i h3;rcases List.mem_cons.1 h with h|h
     ·injection h with h4 h5;injection h5 with h5 h6;subst h4;subst h5;subst h6;exact⟨rfl,h3,t,h1,h2⟩
     ·exact Zi h
    ·exact Zi h
   ·exact Zi h
  ·exact Zi h
def fUp(t:Nat):Option Nat:=match Nat.blt t 1000000 with|true=>some (2000000+t)|false=>none
def fDown(t:Nat):Option Nat:=match Nat.ble 2000000 t,Nat.blt t 3000000 with|true,true=>some (t - 2000000)|_,_=>none
theorem fUp_ok{t t':Nat}(h:fUp t=some t'):t<BIG/\t'=2000000+t:=by
 unfold fUp at h;split at h
 ·rename_i h1;injection h with h;have h1:t+1<=1000000:=Nat.le_of_ble_eq_true h1;exact⟨by unfold BIG;omega,h.symm⟩
 ·cases h
theorem fDown_ok{t t':Nat}(h:fDown t=some t'):t=2000000+t'/\t'<BIG:=by
 unfold fDown at h;split at h
 ·rename_i h1 h2;injection h with h;have h1:=Nat.le_of_ble_eq_true h1;have h2:t+1<=3000000:=Nat.le_of_ble_eq_true h2;exact⟨by omega,by unfold BIG;omega⟩
 ·cases h
def Vu(caps:List SV)(r:SR):SR:=QX 0 (.c (.clo YID [])::caps)++(mapN fUp r r++[(3000000,[],.c (.fn 0))])
def leaveS(r:SR):SR:=mapN fDown r r
def modeS(r:SR):Option Exit:=match r.get 3000000 with
 |some ([],.c (.fn m))=>match m with
  |0=>some .normal
  |1=>none
  |2=>some .ret
  |k+3=>some (.exit k)
 |_=>none
theorem Vg:∀{l:List SV} {i t:Nat} {tg:Tg} {v:SV},(t,tg,v)∈QX i l->tg=[]/\i<=t/\l[t - i]? =some v
 |[],i,t,tg,v,h=>by simp[QX]at h
 |x::l,i,t,tg,v,h=>by
  simp only[QX]at h;rcases List.mem_cons.1 h with h|h
  ·injection h with h1 h2;injection h2 with h2 h3;subst h1;subst h2;subst h3;exact⟨rfl,Nat.le_refl _,by simp⟩
  ·obtain⟨h1,h2,h3⟩:=Vg h;refine⟨h1,by omega,?_⟩;have:t - i=(t - (i+1))+1:=(by omega);rw[this,List.getElem?_cons_succ];exact h3
theorem enterS_ok(caps:List SV)(r:SR):EnterR (caps.map SV.den) r.den (Vu caps r).den:=λt v hv=>by
 have hu:∀t tg v,(t,tg,v)∈Vu caps r->tg=[]:=λt tg v hm=>by
  unfold Vu at hm;simp only[List.mem_append,List.mem_singleton]at hm;rcases hm with hm|hm|hm
  ·exact(Vg hm).1
  ·exact(Zi hm).1
  ·injection hm with _ hm;injection hm
 obtain⟨v',hm,rfl⟩:=VB hu hv;unfold Vu at hm;simp only[List.mem_append,List.mem_singleton]at hm;rcases hm with hm|hm|hm
 ·obtain⟨_,_,h3⟩:=Vg hm;refine .inl ?_;have h4:((SV.c (.clo YID [])::caps).map SV.den)[t]? =some v'.den:=(by rw[List.getElem?_map];rw[Nat.sub_zero]at h3;rw[h3];rfl);exact h4
 ·obtain⟨_,h2,t1,h3,h4⟩:=Zi hm;obtain⟨h5,rfl⟩:=fUp_ok h3;exact .inr (.inl ⟨t1,h5,rfl,noYSV_ok h2,SR.QS h4⟩)
 ·injection hm with h1 hm;injection hm with _ hm;subst h1;subst hm;exact .inr (.inr ⟨rfl,rfl⟩)
theorem leaveS_ok(r:SR):LeaveR r.den (leaveS r).den:=λt v hv=>by obtain⟨v',hm,rfl⟩:=VB (λt tg v hm=>(Zi hm).1) hv;obtain⟨_,h2,t1,h3,h4⟩:=Zi hm;obtain⟨rfl,h5⟩:=fDown_ok h3;exact⟨h5,noYSV_ok h2,SR.QS h4⟩
theorem modeS_ok{r:SR}{e:Exit}(h:modeS r=some e):∃m,r.den.get GH=some (.c (.t (.fn m [])))/\modeE m e:=by
 unfold modeS at h;split at h
 ·rename_i m hm;refine⟨m,SR.QS hm,?_⟩;split at h
  ·injection h with h;exact .inl ⟨rfl,h.symm⟩
  ·cases h
  ·injection h with h;exact .inr (.inl ⟨rfl,h.symm⟩)
  ·rename_i k;injection h with h;exact .inr (.inr ⟨k,rfl,h.symm⟩)
 ·cases h
def CC.Zf:CC->Nat->CC
 |.seq a b,i=>match Nat.blt i a.nl with|true=>a.Zf i|false=>b.Zf (i - a.nl)
 |.cond _ a b,i=>match Nat.blt i a.nl with|true=>a.Zf i|false=>b.Zf (i - a.nl)
 |.block _ a,i=>a.Zf i
 |.scp a,i=>a.Zf i
 |.loop a,i=>match i with|0=>.skip|i+1=>a.Zf i
 |.rng f ps a b,i=>match i with|0=>.rng f ps a b|_+1=>.skip
 |_,_=>.skip
def CC.rF:CC->Operand
 |.rng f _ _ _=>f
 |_=>.func 0
def CC.rP:CC->Array Tmp
 |.rng _ ps _ _=>ps
 |_=> #[]
def CC.rA:CC->CC
 |.rng _ _ a _=>a
 |_=>.skip
def CC.rB:CC->CC
 |.rng _ _ _ b=>b
 |_=>.skip
def CC.isRng:CC->Bool
 |.rng .. =>true
 |_=>false
def Kn:CC->Nat->List (Nat×CC)
 |.seq a b,i=>Kn a i++Kn b (i+a.nl)
 |.cond _ a b,i=>Kn a i++Kn b (i+a.nl)
 |.block _ a,i=>Kn a i
 |.scp a,i=>Kn a i
 |.rng f ps a b,i=>[(i,.rng f ps a b)]
 |_,_=>[]
def Zs(P:Program)(N n0:Nat)(E:Env)(l:List (Nat×CC)):Prop:=∀p∈l,∀f ps a b,p.2=.rng f ps a b->∀u,E.lp p.1=some u->Z3 P N n0 f ps a b u
theorem Zs.nil{P:Program}{N n0:Nat}{E:Env}:Zs P N n0 E []:=λp hp=>by simp at hp
theorem Zs.cons{P:Program}{N n0:Nat}{E:Env}{i:Nat}{R:CC}{l:List (Nat×CC)}{u:QB}(h1:E.lp i=some u)(h0:R.isRng=true)(h2:Z3 P N n0 R.rF R.rP R.rA R.rB u)(h:Zs P N n0 E l):Zs P N n0 E ((i,R)::l):=λp hp f ps a b he u' hu=>by
 rcases List.mem_cons.1 hp with rfl|hp
 ·have he:R=.rng f ps a b:=he;subst he;rw[h1]at hu;injection hu with hu;subst hu;exact h2
 ·exact h p hp f ps a b he u' hu
theorem Jx.of{P:Program}{N:Nat}{ro:Option Nat}{n0:Nat}{E:Env}(hro:ro=none):∀{C:CC} {i:Nat},Zs P N n0 E (Kn C i)->Jx P N ro n0 E none C i
 |.seq a b,i,h=>⟨Jx.of hro λp hp=>h p (List.mem_append.2 (.inl hp)),Jx.of hro λp hp=>h p (List.mem_append.2 (.inr hp))⟩
 |.cond _ a b,i,h=>⟨Jx.of hro λp hp=>h p (List.mem_append.2 (.inl hp)),Jx.of hro λp hp=>h p (List.mem_append.2 (.inr hp))⟩
 |.block _ a,i,h=>Jx.of hro (C:=a) h
 |.scp a,i,h=>Jx.of hro (C:=a) h
 |.lbl,_,_=>trivial
 |.rng f ps a b,i,h=>⟨hro,λu hu=>h (i,.rng f ps a b) (by simp[Kn]) f ps a b rfl u hu⟩
 |.skip,_,_=>trivial
 |.reg _,_,_=>trivial
 |.drw _ _,_,_=>trivial
 |.loop _,_,_=>trivial
 |.exit _,_,_=>trivial
 |.ret,_,_=>trivial
def JE{β:Type}(E:Env)(N:Nat)(A B:CC)(r:SR)(J:SH)(K:Exit->SR->SH->Option β):Option β:=
 exec E N A 0 r J λe r' S'=>match e with
  |.normal=>match r'.free 3000000 with
   |true=>exec E N B A.nl (r'.del 3000000) S' K
   |false=>none
  |_=>none
def ZA{β:Type}(E:Env)(N:Nat)(C:CC)(gf:FuncId)(f:Operand)(r:SR)(J:SH)(K:Exit->SR->SH->Option β):Option β:=match ZE r [] f [] with
 |some (g,caps)=>match Nat.beq g gf,noYSH J,Nat.ble (1+caps.length) N with
  |true,true,true=>exec E N C 0 (Vu caps r) J K
  |_,_,_=>none
 |none=>none
def Zy{Y:Type}(n0:Nat)(q:Pt Y):Exit->SR->SH->Option Y:=λe r J=>match e with
 |.normal=>Ym (q.get n0 r J) id
 |_=>none
def qL{Y Z:Type}(n0:Nat)(q:Pt Y)(e2:Exit)(s:Pt Z):Exit->SR->SH->Option (Y⊕Z):=λe r J=>match e with
 |.normal=>Ym (q.get n0 r J) .inl
 |e=>match Wu e e2 with
  |true=>Ym (s.get n0 r J) .inr
  |false=>none
def Xz{β:Type}(K:Exit->SR->SH->Option β):Exit->SR->SH->Option β:=λe r J=>match (match e with|.normal=>true|.ret=>true|_=>false),modeS r,noYSH J with
 |true,some e',true=>K e' (leaveS r) J
 |_,_,_=>none
def mkUnit{X Y:Type}(n0:Nat)(p:Pt X)(q:Pt Y)(step:X->Option Y):QB:=.one X Y (p.get n0) step λ_ y=>(.normal,q.R y,q.H y)
def KP{X Y Z:Type}(n0:Nat)(p:Pt X)(q:Pt Y)(e2:Exit)(s:Pt Z)(step:X->Option (Y⊕Z)):QB:=.two X Y Z (p.get n0) step (λ_ y=>(.normal,q.R y,q.H y)) λ_ z=>(e2,s.R z,s.H z)
section
variable {P:Program}{N:Nat}{ro:Option Nat}{n0:Nat}
theorem endK_ok{Y:Type}{q:Pt Y}(hq:∀v,q.fr (q.to v)=v){e:Exit}{r:SR}{J:SH}{y:Y}(h:Zy n0 q e r J=some y):e=.normal/\Qc N n0 r.den (SH.den J) (q.R y).den (SH.den (q.H y)):=by
 unfold Zy at h;split at h
 ·obtain⟨z,h1,h2⟩:=Zg h;have h2:z=y:=h2;subst h2;exact⟨rfl,Pt.X1 hq h1⟩
 ·cases h
theorem endK2_ok{Y Z:Type}{q:Pt Y}{e2:Exit}{s:Pt Z}(hq:∀v,q.fr (q.to v)=v)(hz:∀v,s.fr (s.to v)=v){e:Exit}{r:SR}{J:SH}{y:Y⊕Z}(h:qL n0 q e2 s e r J=some y):
  ∃ρ τ,Qc N n0 r.den (SH.den J) ρ τ/\match y with|.inl y=>e=.normal/\ρ=(q.R y).den/\τ=SH.den (q.H y)|.inr z=>e=e2/\ρ=(s.R z).den/\τ=SH.den (s.H z):=by
 have jump:∀e,(match Wu e e2 with|true=>Ym (s.get n0 r J) (Sum.inr (α:=Y))|false=>none)=some y->∃ρ τ,Qc N n0 r.den (SH.den J) ρ τ/\match y with|.inl y=>e=.normal/\ρ=(q.R y).den/\τ=SH.den (q.H y)|.inr z=>e=e2/\ρ=(s.R z).den/\τ=SH.den (s.H z):=λe h=>by
  split at h
  ·rename_i he;obtain⟨z,h1,h2⟩:=Zg h;subst h2;exact⟨_,_,Pt.X1 hz h1,V2 he,rfl,rfl⟩
  ·cases h
 cases e with
 |normal=>obtain⟨z,h1,h2⟩:=Zg h;subst h2;exact⟨_,_,Pt.X1 hq h1,rfl,rfl,rfl⟩
 |exit id=>exact jump _ h
 |goto l=>exact jump _ h
 |ret=>exact jump _ h
 |panic ch=>exact jump _ h
 |outgrown=>exact jump _ h
theorem round_ok(hm:P.follows .mixedOrders=true){E:Env}(hE:Xk P E)(hyb:E.yb=none){A B:CC}{a b:Code}{ks ks' ks'':KS}(ha:strip a ks=some (A,ks'))(hb:strip b ks'=some (B,ks''))(hr:Ko A=false/\Ko B=false)
  (hlA:∀l,Q8 P N (some l) n0 E (QA A 0)) (hlB:∀l,Q8 P N (some l) n0 E (QA B A.nl)) {β:Type} {r:SR} {J:SH} {K:Exit->SR->SH->Option β} {y:β} (h:JE E N A B r J K=some y):
  Y3 P N n0 a b r.den (SH.den J) λe ρ τ=>∃r' S',WR ρ r'.den/\WH τ (SH.den S')/\K e r' S'=some y:=λl=>by
 refine(Wg hm hE (Qp.no hyb) (hlA l) (Jx.no hr.1) h ha).mono λe ρ τ ⟨r',S',h1,h2,h3⟩=> ?_;split at h3
 ·split at h3
  ·rename_i hf;refine⟨rfl,(r'.del 3000000).den,h1.JJ (del_sub hf),SR.jj (SR.YC r' 3000000),?_⟩;exact Xg (QI WR.rfl' h2) (Wg hm hE (Qp.no hyb) (hlB l) (Jx.no hr.2) h3 hb)
  ·cases h3
 ·cases h3
theorem Y3.ghost{a b:Code}{r r':Q3}{J S':Q4}{Q:Exit->Q3->Q4->Prop}(hg:Qc N n0 r J r' S')(h:Y3 P N n0 a b r' S' Q):Y3 P N n0 a b r J Q:=λl=>Xg hg (h l)
theorem Y3.post{a b:Code}{r:Q3}{J:Q4}{Q:Exit->Q3->Q4->Prop}(h:Y3 P N n0 a b r J λe r' S'=>∃r'' S'',Qc N n0 r' S' r'' S''/\Q e r'' S''):Y3 P N n0 a b r J Q:=
 λl=>(h l).mono λ_ _ _ ⟨h1,r'',h2,h3,h4⟩=>⟨h1,r'',h2,h3,YY h4⟩
structure Rnd(A B:CC)(ps:Array Tmp)(N:Nat)(y:YI):Prop where
 ps:y.ps=ps
 n:y.n=N
 ex:∃ks ks' ks'',strip y.assign ks=some (A,ks')/\strip y.body ks'=some (B,ks'')
theorem Jk(hm:P.follows .mixedOrders=true){E:Env}(hE:Xk P E)(hyb:E.yb=none){A B:CC}(hr:Ko A=false/\Ko B=false){X Y:Type}{p:Pt X}{q:Pt Y}{step:X->Option Y}(hp:∀v,p.fr (p.to v)=v)(hq:∀v,q.fr (q.to v)=v)
  (hlA:∀l,Q8 P N (some l) n0 E (QA A 0)) (hlB:∀l,Q8 P N (some l) n0 E (QA B A.nl)) (hstep:∀x,JE E N A B (p.R x) (p.H x) (Zy n0 q)=step x) {ps:Array Tmp} {y:YI} (hy:Rnd A B ps N y):J2 P N n0 y.assign y.body (mkUnit n0 p q step):=by
 obtain⟨ks,ks',ks'',ha,hb⟩:=hy.ex;intro r J x y hx hy;refine Y3.ghost (Pt.X1 hp hx) (Y3.post ((round_ok hm hE hyb ha hb hr hlA hlB ((hstep x).trans hy)).mono λe ρ τ ⟨r',S',h1,h2,h3⟩=> ?_));obtain⟨h4,h5⟩:=endK_ok (N:=N) hq h3;exact⟨_,_,(QI h1 h2).tr h5,h4,WR.rfl',WH.rfl'⟩
theorem UD(hm:P.follows .mixedOrders=true){E:Env}(hE:Xk P E)(hyb:E.yb=none){A B:CC}(hr:Ko A=false/\Ko B=false){X Y Z:Type}{p:Pt X}{q:Pt Y}{e2:Exit}{s:Pt Z}{step:X->Option (Y⊕Z)}(hp:∀v,p.fr (p.to v)=v)(hq:∀v,q.fr (q.to v)=v)(hz:∀v,s.fr (s.to v)=v)
  (hlA:∀l,Q8 P N (some l) n0 E (QA A 0)) (hlB:∀l,Q8 P N (some l) n0 E (QA B A.nl)) (hstep:∀x,JE E N A B (p.R x) (p.H x) (qL n0 q e2 s)=step x) {ps:Array Tmp} {y:YI} (hy:Rnd A B ps N y):J2 P N n0 y.assign y.body (KP n0 p q e2 s step):=by
 obtain⟨ks,ks',ks'',ha,hb⟩:=hy.ex;intro r J x y hx hy;refine Y3.ghost (Pt.X1 hp hx) (Y3.post ((round_ok hm hE hyb ha hb hr hlA hlB ((hstep x).trans hy)).mono λe ρ τ ⟨r',S',h1,h2,h3⟩=> ?_));obtain⟨R',T',h4,h5⟩:=endK2_ok (N:=N) hq hz h3;refine⟨R',T',(QI h1 h2).tr h4,?_⟩
 cases y with
 |inl y=>obtain⟨h6,rfl,rfl⟩:=h5;exact⟨h6,WR.rfl',WH.rfl'⟩
 |inr y=>obtain⟨h6,rfl,rfl⟩:=h5;exact⟨h6,WR.rfl',WH.rfl'⟩
theorem JA{E:Env}{ps:Array Tmp}{u:QB}(he:E.yb=some (ps,u)){A B:CC}{y:YI}(hN:Nat.ble N 1000000=true)(hps:allLt N ps.toList=true)(hb:∀{y:YI},Rnd A B ps N y->J2 P N n0 y.assign y.body u)(hy:Rnd A B ps N y):Qp P n0 E (some y):=λps' u' e=>by rw[he]at e;simp only[Option.some.injEq,Prod.mk.injEq]at e;obtain⟨rfl,rfl⟩:=e;refine⟨y,rfl,hy.ps,by rw[hy.n];exact Nat.le_of_ble_eq_true hN,by rw[hy.n];exact zA hps,?_⟩;have:=hb hy;rw[hy.n];exact this
theorem rng_ok(hm:P.follows .mixedOrders=true){E:Env}(hE:Xk P E){A B:CC}{ps:Array Tmp}(hyk:∀{y:YI},Rnd A B ps N y->Qp P n0 E (some y)){gf:FuncId}{Ng:Nat}{C:CC}(hs:QE P gf Ng [] C)(hr:Ko C=false)
  (hl:∀{y:YI},Rnd A B ps N y->Q8 P Ng none n0 E (QA C 0) (some y)) {a b:Code} {ks ks' ks'':KS} (ha:strip a ks=some (A,ks')) (hb:strip b ks'=some (B,ks'')) {f:Operand} {β:Type} {r:SR} {J:SH} {K:Exit->SR->SH->Option β} {y:β}
  (h:ZA E Ng C gf f r J (Xz K)=some y):JH P N none n0 none (.rangeFunc f ps a b) r.den (SH.den J) λe ρ τ=>∃r' S',ρ=r'.den/\τ=SH.den S'/\K e r' S'=some y:=by
 unfold ZA at h;split at h
 ·rename_i g caps hcal;split at h
  ·rename_i h1 h2 h3;have:=eqB h1;subst this;have hce:=Jv (L:=[]) J6.rfl' rfl hcal;unfold Yt at hce;split at hce
   ·rename_i fv as0 e1 e2;split at hce
    ·rename_i g' caps' e3;injection hce with hce;injection hce with e4 e5;subst e4;have e6:as0=[]:=(by simp only[evl,Option.some.injEq]at e2;exact e2.symm);rw[e6,List.nil_append]at e5;obtain⟨fn,c,kc,kc',q1,q2,q3,rfl,q5,q6,q7⟩:=hs.ex;have hrnd:Rnd A B ps N ⟨ps,a,b,N⟩:=⟨rfl,rfl,ks,ks',ks'',ha,hb⟩;have hx:=Wg hm hE (hyk hrnd) (hl hrnd) (Jx.no hr) h q6;refine okF_rng e1 e3 q1 q2 q3 q5 (Nat.le_of_ble_eq_true q7) ?_ (jN h2) (ri:=(Vu caps r).den) (by rw[e5];exact enterS_ok caps r)
      (Qi:=λe ρ τ=>∃r' S',ρ=r'.den/\τ=SH.den S'/\Xz K e r' S'=some y) (YY (hx.mono λe ρ τ ⟨r',S',p1,p2,p3⟩=>⟨_,_,QI p1 p2,r',S',rfl,rfl,p3⟩)) λe ρ τ ⟨r',S',p1,p2,p3⟩=> ?_
     ·have:caps'.length=caps.length:=(by rw[e5];simp);rw[this];exact Nat.le_of_ble_eq_true h3
     ·subst p1;subst p2;unfold Xz at p3;split at p3
      ·rename_i e' p4 p5 p6;obtain⟨m,p7,p8⟩:=modeS_ok p5;exact⟨(by cases e<;>first|exact .inl rfl|exact .inr rfl|cases p4),m,e',_,p7,p8,leaveS_ok r',jN p6,_,S',rfl,rfl,p3⟩
      ·cases p3
    ·cases hce
   ·cases hce
  ·cases h
 ·cases h
theorem Zh(hm:P.follows .mixedOrders=true){E:Env}(hE:Xk P E){A B:CC}{ps:Array Tmp}(hyk:∀{y:YI},Rnd A B ps N y->Qp P n0 E (some y)){gf:FuncId}{Ng:Nat}{C:CC}(hs:QE P gf Ng [] C)(hr:Ko C=false)
  (hl:∀{y:YI},Rnd A B ps N y->Q8 P Ng none n0 E (QA C 0) (some y)) {f:Operand} {X Y:Type} {p:Pt X} {q:Pt Y} {step:X->Option Y} (hp:∀v,p.fr (p.to v)=v) (hq:∀v,q.fr (q.to v)=v)
  (hstep:∀x,ZA E Ng C gf f (p.R x) (p.H x) (Xz (Zy n0 q))=step x):Z3 P N n0 f ps A B (mkUnit n0 p q step):=by
 intro a b ks ks' ks'' ha hb r J x y hx hy;refine Xg (Pt.X1 hp hx) (YY ((rng_ok hm hE hyk hs hr hl ha hb ((hstep x).trans hy)).mono λe ρ τ ⟨r',S',h1,h2,h3⟩=> ?_));subst h1;subst h2;obtain⟨h4,h5⟩:=endK_ok (N:=N) hq h3;exact⟨_,_,h5,h4,WR.rfl',WH.rfl'⟩
theorem mkRng2_ok(hm:P.follows .mixedOrders=true){E:Env}(hE:Xk P E){A B:CC}{ps:Array Tmp}(hyk:∀{y:YI},Rnd A B ps N y->Qp P n0 E (some y)){gf:FuncId}{Ng:Nat}{C:CC}(hs:QE P gf Ng [] C)(hr:Ko C=false)
  (hl:∀{y:YI},Rnd A B ps N y->Q8 P Ng none n0 E (QA C 0) (some y)) {f:Operand} {X Y Z:Type} {p:Pt X} {q:Pt Y} {e2:Exit} {s:Pt Z} {step:X->Option (Y⊕Z)} (hp:∀v,p.fr (p.to v)=v) (hq:∀v,q.fr (q.to v)=v) (hz:∀v,s.fr (s.to v)=v)
  (hstep:∀x,ZA E Ng C gf f (p.R x) (p.H x) (Xz (qL n0 q e2 s))=step x):Z3 P N n0 f ps A B (KP n0 p q e2 s step):=by
 intro a b ks ks' ks'' ha hb r J x y hx hy;refine Xg (Pt.X1 hp hx) (YY ((rng_ok hm hE hyk hs hr hl ha hb ((hstep x).trans hy)).mono λe ρ τ ⟨r',S',h1,h2,h3⟩=> ?_));subst h1;subst h2;obtain⟨R',T',h4,h5⟩:=endK2_ok (N:=N) hq hz h3;refine⟨R',T',h4,?_⟩
 cases y with
 |inl y=>obtain⟨h6,rfl,rfl⟩:=h5;exact⟨h6,WR.rfl',WH.rfl'⟩
 |inr y=>obtain⟨h6,rfl,rfl⟩:=h5;exact⟨h6,WR.rfl',WH.rfl'⟩
end
end Go.Abs
