/- A part of the proof. -/
import Derived.Test.YtddaobhpffpmoaaSR7QSyE
set_option linter.all false
noncomputable section
namespace Go.Abs
variable [Gl]
def Xa{X Y:Type}(step:X->Option (X⊕Y)):Nat->X->Option Y
 |0,_=>none
 |n+1,x=>match step x with
  |some (.inl x')=>Xa step n x'
  |some (.inr y)=>some y
  |none=>none
open Classical in def iter {X Y : Type} (step : X -> Option (X ⊕ Y)) (x : X) : Option Y := if h : ∃ n,(Xa step n x).isSome = true then Xa step h.choose x else none
section
variable {X Y:Type}{step:X->Option (X⊕Y)}
theorem Kk:∀{n m:Nat} {x:X} {y:Y},Xa step n x=some y->n<=m->Xa step m x=some y
 |0,_,_,_,h,_=>by cases h
 |n+1,0,_,_,_,hm=>by omega
 |n+1,m+1,x,y,h,hm=>by
  simp only[Xa]at h⊢;split at h
  ·rename_i x' hx;exact Kk h (by omega)
  ·exact h
  ·cases h
theorem iter_of{n:Nat}{x:X}{y:Y}(h:Xa step n x=some y):iter step x=some y:=by have he:∃n,(Xa step n x).isSome=true:=⟨n,by rw[h];rfl⟩;unfold iter;rw[dif_pos he];have h1:=he.choose_spec;rw[Option.isSome_iff_exists]at h1;obtain⟨z,hz⟩:=h1;rw[hz];have h2:=Kk h (Nat.le_max_left n he.choose);have h3:=Kk hz (Nat.le_max_right n he.choose);rw[h2]at h3;exact h3.symm
theorem KE{x:X}{y:Y}(h:iter step x=some y):∃n,Xa step n x=some y:=by
 unfold iter at h;split at h
 ·exact⟨_,h⟩
 ·cases h
theorem iter_eq(x:X):iter step x=match step x with
  |some (.inl x')=>iter step x'
  |some (.inr y)=>some y
  |none=>none:=by
 cases h:iter step x with
 |some y=>
  obtain⟨n,hn⟩:=KE h
  cases n with
  |zero=>cases hn
  |succ n=>
   simp only[Xa]at hn;split at hn
   ·rename_i x' hx;exact(iter_of hn).symm
   ·exact hn.symm
   ·cases hn
 |none=>
  split
  ·rename_i x' hx
   cases h':iter step x' with
   |none=>rfl
   |some y=>obtain⟨n,hn⟩:=KE h';have:Xa step (n+1) x=some y:=(by simp only[Xa,hx,hn]);rw[iter_of this]at h;cases h
  ·rename_i y hy;have:Xa step 1 x=some y:=(by simp only[Xa,hy]);rw[iter_of this]at h;cases h
  ·rfl
end
inductive GOp where
 |reg (t:Nat) (c:Ly)
 |cell (id k:Nat) (c:Ly)
def ownG(r:SR)(O:SH):GOp->SR×SH
 |.reg t c=>match r.get t with
  |some ([],.c .nils)=>match r.free t with
   |true=>(r.set t ([],.c (.sl O.length 0 c.size 0 0 none)),O++[.arr c [] 0])
   |false=>(r,O)
  |_=>(r,O)
 |.cell id k c=>match O[id]? with
  |some (.st cs es ep)=>match cs[k]? with
   |some .nils=>(r,O.set id (.st (cs.set k (.sl O.length 0 c.size 0 0 none)) es ep)++[.arr c [] 0])
   |_=>(r,O)
  |_=>(r,O)
def ownsG:List GOp->SR->SH->SR×SH
 |[],r,O=>(r,O)
 |g::gs,r,O=>match ownG r O g with|(r',A')=>ownsG gs r' A'
theorem ghost_ownH{N:Nat}{r:Q0}{O:Q1}{id k:Nat}{o:Obj}(es:Nat)(ho:O[id]? =some o)(hk:o.cs[k]? =some (.t (.imm [] 0 (some 0)))):
   Y9 N r O r (O.set id { o with cs:=o.cs.set k (.sl ⟨O.length,0,0⟩ 0 none) }++[{ cs:=[],es:=es }]):=fun ι w a hh hr=>by
 have hlen:(O.set id { o with cs:=o.cs.set k (.sl ⟨O.length,0,0⟩ 0 none) }).length=O.length:=by simp
 have hst:Step ι O w (ι.push O.length ⟨none,es,0⟩) (O.set id { o with cs:=o.cs.set k (.sl ⟨O.length,0,0⟩ 0 none) }++[{ cs:=[],es:=es }]) w:={
   len:=by simp
   size:=A9 _
   os:=rfl
   out:=rfl
   keep:=λid s' hs'=>⟨s',by rw[Map.Qd _ _ (Bm (hh.lt hs'))];exact hs',A9 _,λ_=>rfl⟩
   none:=λid hid hn=>by rw[Map.Qd _ _ (Bm hid)];exact hn
   new:=λid s' l' h1 h2=>by
     by_cases e:id=O.length
     · subst e
       rw[Map.QQ]at h1;injection h1 with h1;subst h1;cases h2
     · rw[Map.Qd _ _ e]at h1
       exact .inr ⟨id,s',l',h1,h2,rfl⟩
   res:=rfl
   ex:=rfl
   resKeep:=λ_ _=>rfl
   frame:=λ_ _ _=>rfl }
 have href:∀(ad:Option Addr),J6 (ι.push O.length ⟨none,es,0⟩) ⟨O.length,0,0⟩ (slOk 0 0 none ad 0):=λad=>
   ⟨⟨none,es,0⟩,Map.QQ _ _ _,A9 _,λ_=>⟨A9 _,trivial,rfl,rfl,rfl⟩⟩
 refine⟨ι.push O.length ⟨none,es,0⟩,⟨λid' s h1=> ?_,λid id' s s' l l' h1 h2 h3 h4 h5=> ?_,hh.resRow,λid s l h1 h2 hr=> ?_⟩,hr.step hh hst,hst⟩
 · by_cases e1:id'=O.length
   · subst e1
     rw[Map.QQ]at h1;injection h1 with h1;subst h1;exact⟨_,by rw[AT (by rw[hlen];exact A9 _),hlen,Nat.sub_self];rfl,rfl,rfl,rfl⟩
   · rw[Map.Qd _ _ e1]at h1
     obtain⟨o',h2,h3⟩:=hh.obj id' s h1;have hlt:=hh.lt h1;by_cases e2:id'=id
     · subst e2
       rw[ho]at h2;injection h2 with h2;subst h2;refine⟨{ o with cs:=o.cs.set k (.sl ⟨O.length,0,0⟩ 0 none) },by rw[AK (by rw[hlen];exact hlt),Bc hlt],?_⟩;obtain⟨h4,h5,h6⟩:=h3;refine⟨h4,h5,?_⟩
       cases hl:s.loc with
       |none=>rw[hl]at h6;have h6':o.cs=[]:=h6;rw[h6']at hk;simp at hk
       |some l=>
         rw[hl]at h6;refine⟨h6.1,by simpa using h6.2.1,λi hi=> ?_⟩;obtain⟨v,h7,h8⟩:=h6.2.2 i (by simpa using hi);refine⟨v,h7,?_⟩;by_cases e3:k=i
         · subst e3
           simp only[List.getElem_set_self];have e4:o.cs[k]'(by simpa using hi)=.t (.imm [] 0 (some 0)):=(by rw[A3 (by simpa using hi)]at hk;injection hk);rw[e4]at h8;have h8':TR ι.un w (.imm [] 0 (some 0)) v:=h8
           cases h8' with
           |imm0 cap ad c hc=>have:c=0:=hc;subst this;exact⟨ad,0,rfl,.inl rfl,href ad⟩
           |imm cs len cap b off c f h1 h2 h3 h4=>have:c=0:=h3;subst this;exact⟨_,0,rfl,.inl rfl,href _⟩
         · simp only[List.getElem_set_ne e3]
           exact h8.step hst
     · exact⟨o',by rw[AK (by rw[hlen];exact hlt),BX (BU e2)];exact h2,h3.congr hst (λl hl=>rfl)⟩
 · by_cases e1:id=O.length
   · subst e1
     rw[Map.QQ]at h1;injection h1 with h1;subst h1;cases h3
   · by_cases e2:id'=O.length
     · subst e2
       rw[Map.QQ]at h2;injection h2 with h2;subst h2;cases h4
     · rw[Map.Qd _ _ e1]at h1
       rw[Map.Qd _ _ e2]at h2;exact hh.inj id id' s s' l l' h1 h2 h3 h4 h5
 · by_cases e1:id=O.length
   · subst e1
     rw[Map.QQ]at h1;injection h1 with h1;subst h1;cases h2
   · rw[Map.Qd _ _ e1]at h1
     exact hh.resNo id s l h1 h2 hr
section
variable {P:Program}{N:Nat}{ro:Option Nat}{n0:Nat}{yk:Option YI}
theorem ownG_ok{r r':SR}{O A':SH}{g:GOp}(h:ownG r O g=(r',A')):Qe N n0 r.den (SH.den O) r'.den (SH.den A'):=by
 have same:(r,O)=(r',A')->Qe N n0 r.den (SH.den O) r'.den (SH.den A'):=λe=>by injection e with e1 e2;subst e1;subst e2;exact Qe.rfl'
 cases g with
 |reg t c=>
  simp only[ownG]at h;split at h
  ·rename_i hg;split at h
   ·rename_i hf;injection h with e1 e2;subst e1;subst e2;have hd:r.den.get t=some (.c (.t (.imm [] 0 (some 0)))):=SR.QT hg;refine(Y9.f (UG c.size hd) n0).tr (QJ ?_ ?_)
    ·refine Qm.wr λt' u hu=> ?_;rcases set_get hf rfl hu with ⟨rfl,rfl⟩|⟨h1,h2⟩
     ·rw[Q0.QO];simp only[SR.dv,SV.den,SC.den,SH.QE,B6]
     ·rw[Q0.Qj _ _ (BU h1)];exact h2
    ·rw[SH.Jp];exact WH.rfl'
   ·exact same h
  ·exact same h
 |cell id k c=>
  simp only[ownG]at h;split at h
  ·rename_i cs es ep ho;split at h
   ·rename_i hk;injection h with e1 e2;subst e1;subst e2;have hk':(SO.st cs es ep).den.cs[k]? =some (.t (.imm [] 0 (some 0))):=(by simp[SO.den,hk,SC.den]);have:=Y9.f (N:=N) (r:=r.den) (ghost_ownH c.size (SH.QT ho) hk') n0;rw[SH.Jp,SH.JJ];simpa [SO.den,SC.den,SH.QE,List.map_set] using this
   ·exact same h
  ·exact same h
theorem ownsG_ok:∀{gs:List GOp} {r r':SR} {O A':SH},ownsG gs r O=(r',A')->Qe N n0 r.den (SH.den O) r'.den (SH.den A')
 |[],r,r',O,A',h=>by injection h with e1 e2;subst e1;subst e2;exact Qe.rfl'
 |g::gs,r,r',O,A',h=>by simp only[ownsG]at h;exact(ownG_ok rfl).tr (ownsG_ok h)
def Uf:Exit->Exit->Bool
 |.normal,.normal=>true
 |.ret,.ret=>true
 |.exit a,.exit b=>Nat.beq a b
 |_,_=>false
theorem Vs{a b:Exit}(h:Uf a b=true):a=b:=by
 unfold Uf at h;split at h
 ·rfl
 ·rfl
 ·rw[eqB h]
 ·cases h
structure Pt(X:Type) where
 own:List GOp
 t:Tm
 to:t.T->X
 fr:X->t.T
def Pt.get{X:Type}(p:Pt X)(n0:Nat)(r:SR)(O:SH):Option (Bool×X):=match ownsG p.own r O with
 |(r',A')=>match p.t.get n0 r' A' with
  |some (b,v)=>some (b,p.to v)
  |none=>none
def Pt.R{X:Type}(p:Pt X)(x:X):SR:=p.t.fr (p.fr x)
def Pt.H{X:Type}(p:Pt X)(x:X):SH:=p.t.fh (p.fr x)
theorem Pt.Xl{X:Type}{p:Pt X}(hp:∀v,p.fr (p.to v)=v){r:SR}{O:SH}{x:X}(h:p.get n0 r O=some (true,x)):Qe N n0 r.den (SH.den O) (p.R x).den (SH.den (p.H x)):=by
 unfold Pt.get at h;split at h;rename_i r' A' ho;split at h
 ·rename_i b v hv;simp only[A0,A4]at h;obtain⟨rfl,rfl⟩:=h;refine(ownsG_ok ho).tr ?_;unfold Pt.R Pt.H;rw[hp];exact Tm.Xl hv
 ·cases h
def KO{X Y:Type}(o:Option (Bool×X))(k:X->Y):Option Y:=match o with
 |some (b,x)=>bif b then some (k x) else none
 |none=>none
theorem Yg{X Y:Type}{o:Option (Bool×X)}{k:X->Y}{y:Y}(h:KO o k=some y):∃x,o=some (true,x)/\k x=y:=by
 unfold KO at h;split at h
 ·rename_i b x
  cases b with
  |true=>simp only[A7,A0]at h;exact⟨x,rfl,h⟩
  |false=>cases h
 ·cases h
def Qr{X Y:Type}(n0:Nat)(p:Pt X)(e1:Exit)(q:Pt Y):Exit->SR->SH->Option (X⊕Y):=λe r O=>match e with
 |.normal=>KO (p.get n0 r O) .inl
 |e=>match Uf e e1 with
  |true=>KO (q.get n0 r O) .inr
  |false=>none
def JF{X Y Z:Type}(n0:Nat)(p:Pt X)(e1:Exit)(q:Pt Y)(e2:Exit)(s:Pt Z):Exit->SR->SH->Option (X⊕(Y⊕Z)):=λe r O=>match e with
 |.normal=>KO (p.get n0 r O) .inl
 |e=>match Uf e e1 with
  |true=>KO (q.get n0 r O) λy=>.inr (.inl y)
  |false=>match Uf e e2 with
   |true=>KO (s.get n0 r O) λy=>.inr (.inr y)
   |false=>none
def Qs{X Y:Type}(n0:Nat)(p:Pt X)(e1:Exit)(q:Pt Y)(step:X->Option (X⊕Y)):QU:=.one X Y (p.get n0) (iter step) λ_ y=>(e1,q.R y,q.H y)
def JG{X Y Z:Type}(n0:Nat)(p:Pt X)(e1:Exit)(q:Pt Y)(e2:Exit)(s:Pt Z)(step:X->Option (X⊕(Y⊕Z))):QU:=.two X Y Z (p.get n0) (iter step) (λ_ y=>(e1,q.R y,q.H y)) (λ_ z=>(e2,s.R z,s.H z))
theorem QS(hm:P.follows .mixedOrders=true){E:Env}(hE:Z4 P E){X Y:Type}{p:Pt X}{e1:Exit}{q:Pt Y}{step:X->Option (X⊕Y)}{B:CC}{i:Nat}(he:match e1 with|.panic _|.outgrown|.normal=>False|_=>True)
  (hp:∀v,p.fr (p.to v)=v) (hq:∀v,q.fr (q.to v)=v) (hl:QA P N ro n0 E (QI B i) yk) (hstep:∀x,exec E N B i (p.R x) (p.H x) (Qr n0 p e1 q)=step x)
  (hyk:Zj P n0 E yk:=by exact Zj.no rfl) (hg:XQ P N ro n0 E yk B i:=by exact XQ.no (by kernel_rfl)):QH P N ro n0 B (Qs n0 p e1 q step) yk:=by
 intro c ks ks' hs r O x y hx hy;obtain⟨n,hn⟩:=KE hy;refine ZC (Pt.Xl hp hx) ?_;refine(okF_loop (λn r O=>∃x,Xa step n x=some y/\r=(p.R x).den/\O=SH.den (p.H x)) (n:=n) (Q:=λe ρ τ=>e=e1/\ρ=(q.R y).den/\τ=SH.den (q.H y)) ⟨x,hn,rfl,rfl⟩ ?_).mono λe ρ τ ⟨h1,h2,h3⟩=>⟨h1,by rw[h2];exact WR.rfl',by rw[h3];exact WH.rfl'⟩;rintro n r1 A1 ⟨x1,h1,rfl,rfl⟩
 cases n with
 |zero=>cases h1
 |succ n=>
  simp only[Xa]at h1;have hs1:=hstep x1
  cases hb:step x1 with
  |none=>rw[hb]at h1;cases h1
  |some b=>
   rw[hb]at hs1 h1;refine WJ ((exec_ok hm hE hyk hl hg hs1 hs).mono λe ρ τ ⟨r',A',h2,h3,h4⟩=> ?_);have left:∀(e:Exit),(match Uf e e1 with|true=>KO (q.get n0 r' A') (Sum.inr (α:=X))|false=>none)=some b->∃r'' S'',Qe N n0 ρ τ r'' S''/\(e=e1/\r''=(q.R y).den/\S''=SH.den (q.H y)):=λe h=>by
    split at h
    ·rename_i heq;obtain⟨z,h5,h6⟩:=Yg h;subst h6;simp only[A0]at h1;subst h1;exact⟨_,_,(QJ h2 h3).tr (Pt.Xl hq h5),Vs heq,rfl,rfl⟩
    ·cases h
   cases e with
   |normal=>obtain⟨z,h5,h6⟩:=Yg h4;subst h6;exact⟨_,_,(QJ h2 h3).tr (Pt.Xl hp h5),n,Nat.lt_succ_self n,z,h1,rfl,rfl⟩
   |exit id=>exact left _ h4
   |goto l=>exact left _ h4
   |ret=>exact left _ h4
   |panic ch=>exact left _ h4
   |outgrown=>exact left _ h4
def leftAt{Y Z:Type}(e1:Exit)(q:Pt Y)(e2:Exit)(s:Pt Z)(y:Y⊕Z)(e:Exit)(r:Q0)(O:Q1):Prop:=match y with
 |.inl y=>e=e1/\r=(q.R y).den/\O=SH.den (q.H y)
 |.inr y=>e=e2/\r=(s.R y).den/\O=SH.den (s.H y)
theorem Qi(hm:P.follows .mixedOrders=true){E:Env}(hE:Z4 P E){X Y Z:Type}{p:Pt X}{e1:Exit}{q:Pt Y}{e2:Exit}{s:Pt Z}{step:X->Option (X⊕(Y⊕Z))}{B:CC}{i:Nat}
  (he:match e1 with|.panic _|.outgrown|.normal=>False|_=>True) (he2:match e2 with|.panic _|.outgrown|.normal=>False|_=>True)
  (hp:∀v,p.fr (p.to v)=v) (hq:∀v,q.fr (q.to v)=v) (hz:∀v,s.fr (s.to v)=v) (hl:QA P N ro n0 E (QI B i) yk) (hstep:∀x,exec E N B i (p.R x) (p.H x) (JF n0 p e1 q e2 s)=step x)
  (hyk:Zj P n0 E yk:=by exact Zj.no rfl) (hg:XQ P N ro n0 E yk B i:=by exact XQ.no (by kernel_rfl)):QH P N ro n0 B (JG n0 p e1 q e2 s step) yk:=by
 intro c ks ks' hs r O x y hx hy;obtain⟨n,hn⟩:=KE hy;refine ZC (Pt.Xl hp hx) ?_;refine(okF_loop (λn r O=>∃x,Xa step n x=some y/\r=(p.R x).den/\O=SH.den (p.H x)) (n:=n) (Q:=leftAt e1 q e2 s y) ⟨x,hn,rfl,rfl⟩ ?_).mono λe ρ τ hh=>by
  cases y with
  |inl y=>have hh:e=e1/\ρ=(q.R y).den/\τ=SH.den (q.H y):=hh;exact⟨hh.1,by rw[hh.2.1];exact WR.rfl',by rw[hh.2.2];exact WH.rfl'⟩
  |inr y=>have hh:e=e2/\ρ=(s.R y).den/\τ=SH.den (s.H y):=hh;exact⟨hh.1,by rw[hh.2.1];exact WR.rfl',by rw[hh.2.2];exact WH.rfl'⟩
 rintro n r1 A1 ⟨x1,h1,rfl,rfl⟩
 cases n with
 |zero=>cases h1
 |succ n=>
  simp only[Xa]at h1;have hs1:=hstep x1
  cases hb:step x1 with
  |none=>rw[hb]at h1;cases h1
  |some b=>
   rw[hb]at hs1 h1;refine WJ ((exec_ok hm hE hyk hl hg hs1 hs).mono λe ρ τ ⟨r',A',h2,h3,h4⟩=> ?_);have left:∀(e:Exit),(match Uf e e1 with|true=>KO (q.get n0 r' A') (λy=>Sum.inr (α:=X) (Sum.inl (β:=Z) y))|false=>match Uf e e2 with|true=>KO (s.get n0 r' A') (λy=>Sum.inr (α:=X) (Sum.inr (α:=Y) y))|false=>none)=some b->
     ∃r'' S'',Qe N n0 ρ τ r'' S''/\leftAt e1 q e2 s y e r'' S'':=λe h=>by
    split at h
    ·rename_i heq;obtain⟨z,h5,h6⟩:=Yg h;subst h6;simp only[A0]at h1;subst h1;exact⟨_,_,(QJ h2 h3).tr (Pt.Xl hq h5),Vs heq,rfl,rfl⟩
    ·split at h
     ·rename_i heq;obtain⟨z,h5,h6⟩:=Yg h;subst h6;simp only[A0]at h1;subst h1;exact⟨_,_,(QJ h2 h3).tr (Pt.Xl hz h5),Vs heq,rfl,rfl⟩
     ·cases h
   cases e with
   |normal=>obtain⟨z,h5,h6⟩:=Yg h4;subst h6;exact⟨_,_,(QJ h2 h3).tr (Pt.Xl hp h5),n,Nat.lt_succ_self n,z,h1,rfl,rfl⟩
   |exit id=>exact left _ h4
   |goto l=>exact left _ h4
   |ret=>exact left _ h4
   |panic ch=>exact left _ h4
   |outgrown=>exact left _ h4
end
end Go.Abs
