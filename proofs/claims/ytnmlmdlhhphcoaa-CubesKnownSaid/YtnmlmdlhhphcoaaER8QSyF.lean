/- A part of the proof. -/
import Derived.Test.YtnmlmdlhhphcoaaER8QSyE
set_option linter.all false
noncomputable section
namespace Go.Abs
variable [Gl]
def Qo{X Y:Type}(step:X->Option (X⊕Y)):Nat->X->Option Y
 |0,_=>none
 |n+1,x=>match step x with
  |some (.inl x')=>Qo step n x'
  |some (.inr y)=>some y
  |none=>none
open Classical in def iter {X Y : Type} (step : X -> Option (X ⊕ Y)) (x : X) : Option Y := if h : ∃ n,(Qo step n x).isSome = true then Qo step h.choose x else none
section
variable {X Y:Type}{step:X->Option (X⊕Y)}
theorem UF:∀{n m:Nat} {x:X} {y:Y},Qo step n x=some y->n<=m->Qo step m x=some y
 |0,_,_,_,h,_=>by cases h
 |n+1,0,_,_,_,hm=>by omega
 |n+1,m+1,x,y,h,hm=>by
  simp only[Qo]at h⊢;split at h
  ·rename_i x' hx;exact UF h (by omega)
  ·exact h
  ·cases h
theorem Un{n:Nat}{x:X}{y:Y}(h:Qo step n x=some y):iter step x=some y:=by have he:∃n,(Qo step n x).isSome=true:=⟨n,by rw[h];rfl⟩;unfold iter;rw[dif_pos he];have h1:=he.choose_spec;rw[Option.isSome_iff_exists]at h1;obtain⟨z,hz⟩:=h1;rw[hz];have h2:=UF h (Nat.le_max_left n he.choose);have h3:=UF hz (Nat.le_max_right n he.choose);rw[h2]at h3;exact h3.symm
theorem KA{x:X}{y:Y}(h:iter step x=some y):∃n,Qo step n x=some y:=by
 unfold iter at h;split at h
 ·exact⟨_,h⟩
 ·cases h
theorem iter_eq(x:X):iter step x=match step x with
  |some (.inl x')=>iter step x'
  |some (.inr y)=>some y
  |none=>none:=by
 cases h:iter step x with
 |some y=>
  obtain⟨n,hn⟩:=KA h
  cases n with
  |zero=>cases hn
  |succ n=>
   simp only[Qo]at hn;split at hn
   ·rename_i x' hx;exact(Un hn).symm
   ·exact hn.symm
   ·cases hn
 |none=>
  split
  ·rename_i x' hx
   cases h':iter step x' with
   |none=>rfl
   |some y=>obtain⟨n,hn⟩:=KA h';have:Qo step (n+1) x=some y:=(by simp only[Qo,hx,hn]);rw[Un this]at h;cases h
  ·rename_i y hy;have:Qo step 1 x=some y:=(by simp only[Qo,hy]);rw[Un this]at h;cases h
  ·rfl
end
inductive GOp where
 |reg (t:Nat) (c:Ly)
 |cell (id k:Nat) (c:Ly)
def ownG(r:SR)(J:SH):GOp->SR×SH
 |.reg t c=>match r.get t with
  |some ([],.c .nils)=>match r.free t with
   |true=>(r.set t ([],.c (.sl J.length 0 c.size 0 0 none)),J++[.arr c [] 0])
   |false=>(r,J)
  |_=>(r,J)
 |.cell id k c=>match J[id]? with
  |some (.st cs es ep)=>match cs[k]? with
   |some .nils=>(r,J.set id (.st (cs.set k (.sl J.length 0 c.size 0 0 none)) es ep)++[.arr c [] 0])
   |_=>(r,J)
  |_=>(r,J)
def ownsG:List GOp->SR->SH->SR×SH
 |[],r,J=>(r,J)
 |g::gs,r,J=>match ownG r J g with|(r',S')=>ownsG gs r' S'
theorem ghost_ownH{N:Nat}{r:Q3}{J:Q4}{id k:Nat}{o:Obj}(es:Nat)(ho:J[id]? =some o)(hk:o.cs[k]? =some (.t (.imm [] 0 (some 0)))):
   KI N r J r (J.set id { o with cs:=o.cs.set k (.sl ⟨J.length,0,0⟩ 0 none) }++[{ cs:=[],es:=es }]):=λM w a hh hr=>by
 have hlen:(J.set id { o with cs:=o.cs.set k (.sl ⟨J.length,0,0⟩ 0 none) }).length=J.length:=by simp
 have hst:Step M J w (M.push J.length ⟨none,es,0⟩) (J.set id { o with cs:=o.cs.set k (.sl ⟨J.length,0,0⟩ 0 none) }++[{ cs:=[],es:=es }]) w:={
   len:=by simp
   size:=Nat.le_refl _
   os:=rfl
   out:=rfl
   keep:=λid s' hs'=>⟨s',by rw[Map.Qh _ _ (Nat.ne_of_lt (hh.lt hs'))];exact hs',Nat.le_refl _,λ_=>rfl⟩
   none:=λid hid hn=>by rw[Map.Qh _ _ (Nat.ne_of_lt hid)];exact hn
   new:=λid s' l' h1 h2=>by
     by_cases e:id=J.length
     · subst e
       rw[Map.QP]at h1;injection h1 with h1;subst h1;cases h2
     · rw[Map.Qh _ _ e]at h1
       exact .inr ⟨id,s',l',h1,h2,rfl⟩
   res:=rfl
   ex:=rfl
   resKeep:=λ_ _=>rfl
   frame:=λ_ _ _=>rfl }
 have href:∀(ad:Option Addr),Jg (M.push J.length ⟨none,es,0⟩) ⟨J.length,0,0⟩ (slOk 0 0 none ad 0):=λad=>
   ⟨⟨none,es,0⟩,Map.QP _ _ _,Nat.le_refl _,λ_=>⟨Nat.le_refl _,trivial,rfl,rfl,rfl⟩⟩
 refine⟨M.push J.length ⟨none,es,0⟩,⟨λid' s h1=> ?_,λid id' s s' l l' h1 h2 h3 h4 h5=> ?_,hh.resRow,λid s l h1 h2 hr=> ?_⟩,hr.step hh hst,hst⟩
 · by_cases e1:id'=J.length
   · subst e1
     rw[Map.QP]at h1;injection h1 with h1;subst h1;exact⟨_,by rw[List.getElem?_append_right (by rw[hlen];exact Nat.le_refl _),hlen,Nat.sub_self];rfl,rfl,rfl,rfl⟩
   · rw[Map.Qh _ _ e1]at h1
     obtain⟨o',h2,h3⟩:=hh.obj id' s h1;have hlt:=hh.lt h1;by_cases e2:id'=id
     · subst e2
       rw[ho]at h2;injection h2 with h2;subst h2;refine⟨{ o with cs:=o.cs.set k (.sl ⟨J.length,0,0⟩ 0 none) },by rw[List.getElem?_append_left (by rw[hlen];exact hlt),List.getElem?_set_self hlt],?_⟩;obtain⟨h4,h5,h6⟩:=h3;refine⟨h4,h5,?_⟩
       cases hl:s.loc with
       |none=>rw[hl]at h6;have h6':o.cs=[]:=h6;rw[h6']at hk;simp at hk
       |some l=>
         rw[hl]at h6;refine⟨h6.1,by simpa using h6.2.1,λi hi=> ?_⟩;obtain⟨v,h7,h8⟩:=h6.2.2 i (by simpa using hi);refine⟨v,h7,?_⟩;by_cases e3:k=i
         · subst e3
           simp only[List.getElem_set_self];have e4:o.cs[k]'(by simpa using hi)=.t (.imm [] 0 (some 0)):=(by rw[List.getElem?_eq_getElem (by simpa using hi)]at hk;injection hk);rw[e4]at h8;have h8':TR M.un w (.imm [] 0 (some 0)) v:=h8
           cases h8' with
           |imm0 cap ad c hc=>have:c=0:=hc;subst this;exact⟨ad,0,rfl,.inl rfl,href ad⟩
           |imm cs len cap b off c f h1 h2 h3 h4=>have:c=0:=h3;subst this;exact⟨_,0,rfl,.inl rfl,href _⟩
         · simp only[List.getElem_set_ne e3]
           exact h8.step hst
     · exact⟨o',by rw[List.getElem?_append_left (by rw[hlen];exact hlt),List.getElem?_set_ne (Ne.symm e2)];exact h2,h3.congr hst (λl hl=>rfl)⟩
 · by_cases e1:id=J.length
   · subst e1
     rw[Map.QP]at h1;injection h1 with h1;subst h1;cases h3
   · by_cases e2:id'=J.length
     · subst e2
       rw[Map.QP]at h2;injection h2 with h2;subst h2;cases h4
     · rw[Map.Qh _ _ e1]at h1
       rw[Map.Qh _ _ e2]at h2;exact hh.inj id id' s s' l l' h1 h2 h3 h4 h5
 · by_cases e1:id=J.length
   · subst e1
     rw[Map.QP]at h1;injection h1 with h1;subst h1;cases h2
   · rw[Map.Qh _ _ e1]at h1
     exact hh.resNo id s l h1 h2 hr
section
variable {P:Program}{N:Nat}{ro:Option Nat}{n0:Nat}{yk:Option YI}
theorem ownG_ok{r r':SR}{J S':SH}{g:GOp}(h:ownG r J g=(r',S')):Qc N n0 r.den (SH.den J) r'.den (SH.den S'):=by
 have same:(r,J)=(r',S')->Qc N n0 r.den (SH.den J) r'.den (SH.den S'):=λe=>by injection e with e1 e2;subst e1;subst e2;exact Qc.rfl'
 cases g with
 |reg t c=>
  simp only[ownG]at h;split at h
  ·rename_i hg;split at h
   ·rename_i hf;injection h with e1 e2;subst e1;subst e2;have hd:r.den.get t=some (.c (.t (.imm [] 0 (some 0)))):=SR.QS hg;refine(KI.f (Vl c.size hd) n0).tr (QI ?_ ?_)
    ·refine J6.wr λt' u hu=> ?_;rcases set_get hf rfl hu with ⟨rfl,rfl⟩|⟨h1,h2⟩
     ·rw[Q3.QU];simp only[SR.dv,SV.den,SC.den,SH.QF,Nat.zero_mul]
     ·rw[Q3.Qy _ _ (Ne.symm h1)];exact h2
    ·rw[SH.Xe];exact WH.rfl'
   ·exact same h
  ·exact same h
 |cell id k c=>
  simp only[ownG]at h;split at h
  ·rename_i cs es ep ho;split at h
   ·rename_i hk;injection h with e1 e2;subst e1;subst e2;have hk':(SO.st cs es ep).den.cs[k]? =some (.t (.imm [] 0 (some 0))):=(by simp[SO.den,hk,SC.den]);have:=KI.f (N:=N) (r:=r.den) (ghost_ownH c.size (SH.QS ho) hk') n0;rw[SH.Xe,SH.Jq];simpa [SO.den,SC.den,SH.QF,List.map_set] using this
   ·exact same h
  ·exact same h
theorem ownsG_ok:∀{gs:List GOp} {r r':SR} {J S':SH},ownsG gs r J=(r',S')->Qc N n0 r.den (SH.den J) r'.den (SH.den S')
 |[],r,r',J,S',h=>by injection h with e1 e2;subst e1;subst e2;exact Qc.rfl'
 |g::gs,r,r',J,S',h=>by simp only[ownsG]at h;exact(ownG_ok rfl).tr (ownsG_ok h)
def Wu:Exit->Exit->Bool
 |.normal,.normal=>true
 |.ret,.ret=>true
 |.exit a,.exit b=>Nat.beq a b
 |_,_=>false
theorem V2{a b:Exit}(h:Wu a b=true):a=b:=by
 unfold Wu at h;split at h
 ·rfl
 ·rfl
 ·rw[eqB h]
 ·cases h
structure Pt(X:Type) where
 own:List GOp
 t:Tm
 to:t.T->X
 fr:X->t.T
def Pt.get{X:Type}(p:Pt X)(n0:Nat)(r:SR)(J:SH):Option (Bool×X):=match ownsG p.own r J with
 |(r',S')=>match p.t.get n0 r' S' with
  |some (b,v)=>some (b,p.to v)
  |none=>none
def Pt.R{X:Type}(p:Pt X)(x:X):SR:=p.t.fr (p.fr x)
def Pt.H{X:Type}(p:Pt X)(x:X):SH:=p.t.fh (p.fr x)
theorem Pt.X1{X:Type}{p:Pt X}(hp:∀v,p.fr (p.to v)=v){r:SR}{J:SH}{x:X}(h:p.get n0 r J=some (true,x)):Qc N n0 r.den (SH.den J) (p.R x).den (SH.den (p.H x)):=by
 unfold Pt.get at h;split at h;rename_i r' S' ho;split at h
 ·rename_i b v hv;simp only[Option.some.injEq,Prod.mk.injEq]at h;obtain⟨rfl,rfl⟩:=h;refine(ownsG_ok ho).tr ?_;unfold Pt.R Pt.H;rw[hp];exact Tm.X1 hv
 ·cases h
def Ym{X Y:Type}(o:Option (Bool×X))(k:X->Y):Option Y:=match o with
 |some (b,x)=>bif b then some (k x) else none
 |none=>none
theorem Zg{X Y:Type}{o:Option (Bool×X)}{k:X->Y}{y:Y}(h:Ym o k=some y):∃x,o=some (true,x)/\k x=y:=by
 unfold Ym at h;split at h
 ·rename_i b x
  cases b with
  |true=>simp only[cond_true,Option.some.injEq]at h;exact⟨x,rfl,h⟩
  |false=>cases h
 ·cases h
def J4{X Y:Type}(n0:Nat)(p:Pt X)(e1:Exit)(q:Pt Y):Exit->SR->SH->Option (X⊕Y):=λe r J=>match e with
 |.normal=>Ym (p.get n0 r J) .inl
 |e=>match Wu e e1 with
  |true=>Ym (q.get n0 r J) .inr
  |false=>none
def Jb{X Y Z:Type}(n0:Nat)(p:Pt X)(e1:Exit)(q:Pt Y)(e2:Exit)(s:Pt Z):Exit->SR->SH->Option (X⊕(Y⊕Z)):=λe r J=>match e with
 |.normal=>Ym (p.get n0 r J) .inl
 |e=>match Wu e e1 with
  |true=>Ym (q.get n0 r J) λy=>.inr (.inl y)
  |false=>match Wu e e2 with
   |true=>Ym (s.get n0 r J) λy=>.inr (.inr y)
   |false=>none
def J5{X Y:Type}(n0:Nat)(p:Pt X)(e1:Exit)(q:Pt Y)(step:X->Option (X⊕Y)):QB:=.one X Y (p.get n0) (iter step) λ_ y=>(e1,q.R y,q.H y)
def Jc{X Y Z:Type}(n0:Nat)(p:Pt X)(e1:Exit)(q:Pt Y)(e2:Exit)(s:Pt Z)(step:X->Option (X⊕(Y⊕Z))):QB:=.two X Y Z (p.get n0) (iter step) (λ_ y=>(e1,q.R y,q.H y)) (λ_ z=>(e2,s.R z,s.H z))
theorem QQ(hm:P.follows .mixedOrders=true){E:Env}(hE:Xk P E){X Y:Type}{p:Pt X}{e1:Exit}{q:Pt Y}{step:X->Option (X⊕Y)}{B:CC}{i:Nat}(he:match e1 with|.panic _|.outgrown|.normal=>False|_=>True)
  (hp:∀v,p.fr (p.to v)=v) (hq:∀v,q.fr (q.to v)=v) (hl:Q8 P N ro n0 E (QA B i) yk) (hstep:∀x,exec E N B i (p.R x) (p.H x) (J4 n0 p e1 q)=step x)
  (hyk:Qp P n0 E yk:=by exact Qp.no rfl) (hg:Jx P N ro n0 E yk B i:=by exact Jx.no (by kernel_rfl)):QH P N ro n0 B (J5 n0 p e1 q step) yk:=by
 intro c ks ks' hs r J x y hx hy;obtain⟨n,hn⟩:=KA hy;refine Xg (Pt.X1 hp hx) ?_;refine(okF_loop (λn r J=>∃x,Qo step n x=some y/\r=(p.R x).den/\J=SH.den (p.H x)) (n:=n) (Q:=λe ρ τ=>e=e1/\ρ=(q.R y).den/\τ=SH.den (q.H y)) ⟨x,hn,rfl,rfl⟩ ?_).mono λe ρ τ ⟨h1,h2,h3⟩=>⟨h1,by rw[h2];exact WR.rfl',by rw[h3];exact WH.rfl'⟩;rintro n r1 S1 ⟨x1,h1,rfl,rfl⟩
 cases n with
 |zero=>cases h1
 |succ n=>
  simp only[Qo]at h1;have hs1:=hstep x1
  cases hb:step x1 with
  |none=>rw[hb]at h1;cases h1
  |some b=>
   rw[hb]at hs1 h1;refine YY ((Wg hm hE hyk hl hg hs1 hs).mono λe ρ τ ⟨r',S',h2,h3,h4⟩=> ?_);have left:∀(e:Exit),(match Wu e e1 with|true=>Ym (q.get n0 r' S') (Sum.inr (α:=X))|false=>none)=some b->∃r'' S'',Qc N n0 ρ τ r'' S''/\(e=e1/\r''=(q.R y).den/\S''=SH.den (q.H y)):=λe h=>by
    split at h
    ·rename_i heq;obtain⟨z,h5,h6⟩:=Zg h;subst h6;simp only[Option.some.injEq]at h1;subst h1;exact⟨_,_,(QI h2 h3).tr (Pt.X1 hq h5),V2 heq,rfl,rfl⟩
    ·cases h
   cases e with
   |normal=>obtain⟨z,h5,h6⟩:=Zg h4;subst h6;exact⟨_,_,(QI h2 h3).tr (Pt.X1 hp h5),n,Nat.lt_succ_self n,z,h1,rfl,rfl⟩
   |exit id=>exact left _ h4
   |goto l=>exact left _ h4
   |ret=>exact left _ h4
   |panic ch=>exact left _ h4
   |outgrown=>exact left _ h4
def leftAt{Y Z:Type}(e1:Exit)(q:Pt Y)(e2:Exit)(s:Pt Z)(y:Y⊕Z)(e:Exit)(r:Q3)(J:Q4):Prop:=match y with
 |.inl y=>e=e1/\r=(q.R y).den/\J=SH.den (q.H y)
 |.inr y=>e=e2/\r=(s.R y).den/\J=SH.den (s.H y)
theorem Ql(hm:P.follows .mixedOrders=true){E:Env}(hE:Xk P E){X Y Z:Type}{p:Pt X}{e1:Exit}{q:Pt Y}{e2:Exit}{s:Pt Z}{step:X->Option (X⊕(Y⊕Z))}{B:CC}{i:Nat}
  (he:match e1 with|.panic _|.outgrown|.normal=>False|_=>True) (he2:match e2 with|.panic _|.outgrown|.normal=>False|_=>True)
  (hp:∀v,p.fr (p.to v)=v) (hq:∀v,q.fr (q.to v)=v) (hz:∀v,s.fr (s.to v)=v) (hl:Q8 P N ro n0 E (QA B i) yk) (hstep:∀x,exec E N B i (p.R x) (p.H x) (Jb n0 p e1 q e2 s)=step x)
  (hyk:Qp P n0 E yk:=by exact Qp.no rfl) (hg:Jx P N ro n0 E yk B i:=by exact Jx.no (by kernel_rfl)):QH P N ro n0 B (Jc n0 p e1 q e2 s step) yk:=by
 intro c ks ks' hs r J x y hx hy;obtain⟨n,hn⟩:=KA hy;refine Xg (Pt.X1 hp hx) ?_;refine(okF_loop (λn r J=>∃x,Qo step n x=some y/\r=(p.R x).den/\J=SH.den (p.H x)) (n:=n) (Q:=leftAt e1 q e2 s y) ⟨x,hn,rfl,rfl⟩ ?_).mono λe ρ τ hh=>by
  cases y with
  |inl y=>have hh:e=e1/\ρ=(q.R y).den/\τ=SH.den (q.H y):=hh;exact⟨hh.1,by rw[hh.2.1];exact WR.rfl',by rw[hh.2.2];exact WH.rfl'⟩
  |inr y=>have hh:e=e2/\ρ=(s.R y).den/\τ=SH.den (s.H y):=hh;exact⟨hh.1,by rw[hh.2.1];exact WR.rfl',by rw[hh.2.2];exact WH.rfl'⟩
 rintro n r1 S1 ⟨x1,h1,rfl,rfl⟩
 cases n with
 |zero=>cases h1
 |succ n=>
  simp only[Qo]at h1;have hs1:=hstep x1
  cases hb:step x1 with
  |none=>rw[hb]at h1;cases h1
  |some b=>
   rw[hb]at hs1 h1;refine YY ((Wg hm hE hyk hl hg hs1 hs).mono λe ρ τ ⟨r',S',h2,h3,h4⟩=> ?_);have left:∀(e:Exit),(match Wu e e1 with|true=>Ym (q.get n0 r' S') (λy=>Sum.inr (α:=X) (Sum.inl (β:=Z) y))|false=>match Wu e e2 with|true=>Ym (s.get n0 r' S') (λy=>Sum.inr (α:=X) (Sum.inr (α:=Y) y))|false=>none)=some b->
     ∃r'' S'',Qc N n0 ρ τ r'' S''/\leftAt e1 q e2 s y e r'' S'':=λe h=>by
    split at h
    ·rename_i heq;obtain⟨z,h5,h6⟩:=Zg h;subst h6;simp only[Option.some.injEq]at h1;subst h1;exact⟨_,_,(QI h2 h3).tr (Pt.X1 hq h5),V2 heq,rfl,rfl⟩
    ·split at h
     ·rename_i heq;obtain⟨z,h5,h6⟩:=Zg h;subst h6;simp only[Option.some.injEq]at h1;subst h1;exact⟨_,_,(QI h2 h3).tr (Pt.X1 hz h5),V2 heq,rfl,rfl⟩
     ·cases h
   cases e with
   |normal=>obtain⟨z,h5,h6⟩:=Zg h4;subst h6;exact⟨_,_,(QI h2 h3).tr (Pt.X1 hp h5),n,Nat.lt_succ_self n,z,h1,rfl,rfl⟩
   |exit id=>exact left _ h4
   |goto l=>exact left _ h4
   |ret=>exact left _ h4
   |panic ch=>exact left _ h4
   |outgrown=>exact left _ h4
end
end Go.Abs
