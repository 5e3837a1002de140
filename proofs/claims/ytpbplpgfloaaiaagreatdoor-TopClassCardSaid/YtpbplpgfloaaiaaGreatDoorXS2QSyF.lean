/- A part of the proof. -/
import Derived.Test.YtpbplpgfloaaiaaGreatDoorXS2QSyE
set_option linter.all false
noncomputable section
namespace Go.Abs
variable [Gl]
def iterN{X Y:Type}(step:X->Option (X⊕Y)):Nat->X->Option Y
 |0,_=>none
 |n+1,x=>match step x with
  |some (.inl x')=>iterN step n x'
  |some (.inr y)=>some y
  |none=>none
open Classical in def iter {X Y : Type} (step : X -> Option (X ⊕ Y)) (x : X) : Option Y := if h : ∃ n,(iterN step n x).isSome = true then iterN step h.choose x else none
section
variable {X Y:Type}{step:X->Option (X⊕Y)}
def Kp:∀{n m:Nat} {x:X} {y:Y},iterN step n x=some y->n<=m->iterN step m x=some y
 |0,_,_,_,h,_=>by cases h
 |n+1,0,_,_,_,hm=>by omega
 |n+1,m+1,x,y,h,hm=>by
  simp only[iterN]at h⊢;split at h
  ·rename_i x' hx;exact Kp h (by omega)
  ·exact h
  ·cases h
def Zs{n:Nat}{x:X}{y:Y}(h:iterN step n x=some y):iter step x=some y:=by have he:∃n,(iterN step n x).isSome=true:=⟨n,by rw[h];rfl⟩;unfold iter;rw[dif_pos he];have h1:=he.choose_spec;rw[Option.isSome_iff_exists]at h1;obtain⟨z,hz⟩:=h1;rw[hz];have h2:=Kp h (Nat.le_max_left n he.choose);have h3:=Kp hz (Nat.le_max_right n he.choose);rw[h2]at h3;exact h3.symm
def YB{x:X}{y:Y}(h:iter step x=some y):∃n,iterN step n x=some y:=by
 unfold iter at h;split at h
 ·exact⟨_,h⟩
 ·cases h
def iter_eq(x:X):iter step x=match step x with
  |some (.inl x')=>iter step x'
  |some (.inr y)=>some y
  |none=>none:=by
 cases h:iter step x with
 |some y=>
  obtain⟨n,hn⟩:=YB h
  cases n with
  |zero=>cases hn
  |succ n=>
   simp only[iterN]at hn;split at hn
   ·rename_i x' hx;exact(Zs hn).symm
   ·exact hn.symm
   ·cases hn
 |none=>
  split
  ·rename_i x' hx
   cases h':iter step x' with
   |none=>rfl
   |some y=>obtain⟨n,hn⟩:=YB h';have:iterN step (n+1) x=some y:=(by simp only[iterN,hx,hn]);rw[Zs this]at h;cases h
  ·rename_i y hy;have:iterN step 1 x=some y:=(by simp only[iterN,hy]);rw[Zs this]at h;cases h
  ·rfl
def iter_inv(Inv:X->Prop)(μ:X->Nat)(Post:Y->Prop)(hstep:∀x,Inv x->∃r,step x=some r/\match r with|.inl x'=>Inv x'/\μ x'<μ x|.inr y=>Post y):∀x,Inv x->∃y,iter step x=some y/\Post y:=by
 intro x hx;generalize hn:μ x=n
 induction n using Nat.strongRecOn generalizing x with
 |_ n ih=>
  obtain⟨r,h1,h2⟩:=hstep x hx;rw[iter_eq,h1]
  cases r with
  |inl x'=>exact ih (μ x') (by omega) x' h2.1 rfl
  |inr y=>exact⟨y,rfl,h2⟩
end
inductive GOp where
 |reg (t:Nat) (c:Ly)
 |cell (id k:Nat) (c:Ly)
def ownG(r:SR)(M:SH):GOp->SR×SH
 |.reg t c=>match r.get t with
  |some ([],.c .nils)=>match r.free t with
   |true=>(r.set t ([],.c (.sl M.length 0 c.size 0 0 none)),M++[.arr c [] 0])
   |false=>(r,M)
  |_=>(r,M)
 |.cell id k c=>match M[id]? with
  |some (.st cs es ep)=>match cs[k]? with
   |some .nils=>(r,M.set id (.st (cs.set k (.sl M.length 0 c.size 0 0 none)) es ep)++[.arr c [] 0])
   |_=>(r,M)
  |_=>(r,M)
def ownsG:List GOp->SR->SH->SR×SH
 |[],r,M=>(r,M)
 |g::gs,r,M=>match ownG r M g with|(r',S')=>ownsG gs r' S'
def ghost_ownH{N:Nat}{r:QB}{M:QA}{id k:Nat}{o:Obj}(es:Nat)(ho:M[id]? =some o)(hk:o.cs[k]? =some (.t (.imm [] 0 (some 0)))):
   YK N r M r (M.set id { o with cs:=o.cs.set k (.sl ⟨M.length,0,0⟩ 0 none) }++[{ cs:=[],es:=es }]):=λO w a hh hr=>by
 have hlen:(M.set id { o with cs:=o.cs.set k (.sl ⟨M.length,0,0⟩ 0 none) }).length=M.length:=by simp
 have hst:Step O M w (O.push M.length ⟨none,es,0⟩) (M.set id { o with cs:=o.cs.set k (.sl ⟨M.length,0,0⟩ 0 none) }++[{ cs:=[],es:=es }]) w:={
   len:=by simp
   size:=A5 _
   os:=rfl
   out:=rfl
   keep:=λid s' hs'=>⟨s',by rw[Map.Qv _ _ (Bx (hh.lt hs'))];exact hs',A5 _,λ_=>rfl⟩
   none:=λid hid hn=>by rw[Map.Qv _ _ (Bx hid)];exact hn
   new:=λid s' l' h1 h2=>by
     by_cases e:id=M.length
     · subst e
       rw[Map.Qm]at h1;injection h1 with h1;subst h1;cases h2
     · rw[Map.Qv _ _ e]at h1
       exact .inr ⟨id,s',l',h1,h2,rfl⟩
   res:=rfl
   ex:=rfl
   resKeep:=λ_ _=>rfl
   frame:=λ_ _ _=>rfl }
 have href:∀(ad:Option Addr),JU (O.push M.length ⟨none,es,0⟩) ⟨M.length,0,0⟩ (slOk 0 0 none ad 0):=λad=>
   ⟨⟨none,es,0⟩,Map.Qm _ _ _,A5 _,λ_=>⟨A5 _,trivial,rfl,rfl,rfl⟩⟩
 refine⟨O.push M.length ⟨none,es,0⟩,⟨λid' s h1=> ?_,λid id' s s' l l' h1 h2 h3 h4 h5=> ?_,hh.resRow,λid s l h1 h2 hr=> ?_⟩,hr.step hh hst,hst⟩
 · by_cases e1:id'=M.length
   · subst e1
     rw[Map.Qm]at h1;injection h1 with h1;subst h1;exact⟨_,by rw[AU (by rw[hlen];exact A5 _),hlen,Nat.sub_self];rfl,rfl,rfl,rfl⟩
   · rw[Map.Qv _ _ e1]at h1
     obtain⟨o',h2,h3⟩:=hh.obj id' s h1;have hlt:=hh.lt h1;by_cases e2:id'=id
     · subst e2
       rw[ho]at h2;injection h2 with h2;subst h2;refine⟨{ o with cs:=o.cs.set k (.sl ⟨M.length,0,0⟩ 0 none) },by rw[AL (by rw[hlen];exact hlt),CW hlt],?_⟩;obtain⟨h4,h5,h6⟩:=h3;refine⟨h4,h5,?_⟩
       cases hl:s.loc with
       |none=>rw[hl]at h6;have h6':o.cs=[]:=h6;rw[h6']at hk;simp at hk
       |some l=>
         rw[hl]at h6;refine⟨h6.1,by simpa using h6.2.1,λi hi=> ?_⟩;obtain⟨v,h7,h8⟩:=h6.2.2 i (by simpa using hi);refine⟨v,h7,?_⟩;by_cases e3:k=i
         · subst e3
           simp only[List.getElem_set_self];have e4:o.cs[k]'(by simpa using hi)=.t (.imm [] 0 (some 0)):=(by rw[A4 (by simpa using hi)]at hk;injection hk);rw[e4]at h8;have h8':TR O.un w (.imm [] 0 (some 0)) v:=h8
           cases h8' with
           |imm0 cap ad c hc=>have:c=0:=hc;subst this;exact⟨ad,0,rfl,.inl rfl,href ad⟩
           |imm cs len cap b off c f h1 h2 h3 h4=>have:c=0:=h3;subst this;exact⟨_,0,rfl,.inl rfl,href _⟩
         · simp only[List.getElem_set_ne e3]
           exact h8.step hst
     · exact⟨o',by rw[AL (by rw[hlen];exact hlt),Bm (Cf e2)];exact h2,h3.congr hst (λl hl=>rfl)⟩
 · by_cases e1:id=M.length
   · subst e1
     rw[Map.Qm]at h1;injection h1 with h1;subst h1;cases h3
   · by_cases e2:id'=M.length
     · subst e2
       rw[Map.Qm]at h2;injection h2 with h2;subst h2;cases h4
     · rw[Map.Qv _ _ e1]at h1
       rw[Map.Qv _ _ e2]at h2;exact hh.inj id id' s s' l l' h1 h2 h3 h4 h5
 · by_cases e1:id=M.length
   · subst e1
     rw[Map.Qm]at h1;injection h1 with h1;subst h1;cases h2
   · rw[Map.Qv _ _ e1]at h1
     exact hh.resNo id s l h1 h2 hr
section
variable {P:Program}{N:Nat}{ro:Option Nat}{n0:Nat}{yk:Option YI}
def ownG_ok{r r':SR}{M S':SH}{g:GOp}(h:ownG r M g=(r',S')):J0 N n0 r.den (SH.den M) r'.den (SH.den S'):=by
 have same:(r,M)=(r',S')->J0 N n0 r.den (SH.den M) r'.den (SH.den S'):=λe=>by injection e with e1 e2;subst e1;subst e2;exact J0.rfl'
 cases g with
 |reg t c=>
  simp only[ownG]at h;split at h
  ·rename_i hg;split at h
   ·rename_i hf;injection h with e1 e2;subst e1;subst e2;have hd:r.den.get t=some (.c (.t (.imm [] 0 (some 0)))):=SR.Qy hg;refine(YK.f (UD c.size hd) n0).tr (Qi ?_ ?_)
    ·refine JE.wr λt' u hu=> ?_;rcases set_get hf rfl hu with ⟨rfl,rfl⟩|⟨h1,h2⟩
     ·rw[QB.Qk];simp only[SR.dv,SV.den,SC.den,SH.QU,BP]
     ·rw[QB.J7 _ _ (Cf h1)];exact h2
    ·rw[SH.X9];exact WH.rfl'
   ·exact same h
  ·exact same h
 |cell id k c=>
  simp only[ownG]at h;split at h
  ·rename_i cs es ep ho;split at h
   ·rename_i hk;injection h with e1 e2;subst e1;subst e2;have hk':(SO.st cs es ep).den.cs[k]? =some (.t (.imm [] 0 (some 0))):=(by simp[SO.den,hk,SC.den]);have:=YK.f (N:=N) (r:=r.den) (ghost_ownH c.size (SH.Qy ho) hk') n0;rw[SH.X9,SH.Jc];simpa [SO.den,SC.den,SH.QU,List.map_set] using this
   ·exact same h
  ·exact same h
def ownsG_ok:∀{gs:List GOp} {r r':SR} {M S':SH},ownsG gs r M=(r',S')->J0 N n0 r.den (SH.den M) r'.den (SH.den S')
 |[],r,r',M,S',h=>by injection h with e1 e2;subst e1;subst e2;exact J0.rfl'
 |g::gs,r,r',M,S',h=>by simp only[ownsG]at h;exact(ownG_ok rfl).tr (ownsG_ok h)
def UY:Exit->Exit->Bool
 |.normal,.normal=>true
 |.ret,.ret=>true
 |.exit a,.exit b=>Nat.beq a b
 |_,_=>false
def Vi{a b:Exit}(h:UY a b=true):a=b:=by
 unfold UY at h;split at h
 ·rfl
 ·rfl
 ·rw[eqB h]
 ·cases h
structure Pt(X:Type) where
 own:List GOp
 t:Tm
 to:t.T->X
 fr:X->t.T
def Pt.get{X:Type}(p:Pt X)(n0:Nat)(r:SR)(M:SH):Option (Bool×X):=match ownsG p.own r M with
 |(r',S')=>match p.t.get n0 r' S' with
  |some (b,v)=>some (b,p.to v)
  |none=>none
def Pt.R{X:Type}(p:Pt X)(x:X):SR:=p.t.fr (p.fr x)
def Pt.H{X:Type}(p:Pt X)(x:X):SH:=p.t.fh (p.fr x)
def Pt.Xx{X:Type}{p:Pt X}(hp:∀v,p.fr (p.to v)=v){r:SR}{M:SH}{x:X}(h:p.get n0 r M=some (true,x)):J0 N n0 r.den (SH.den M) (p.R x).den (SH.den (p.H x)):=by
 unfold Pt.get at h;split at h;rename_i r' S' ho;split at h
 ·rename_i b v hv;simp only[Kn,A0]at h;obtain⟨rfl,rfl⟩:=h;refine(ownsG_ok ho).tr ?_;unfold Pt.R Pt.H;rw[hp];exact Tm.Xx hv
 ·cases h
def KP{X Y:Type}(o:Option (Bool×X))(k:X->Y):Option Y:=match o with
 |some (b,x)=>bif b then some (k x) else none
 |none=>none
def Yo{X Y:Type}{o:Option (Bool×X)}{k:X->Y}{y:Y}(h:KP o k=some y):∃x,o=some (true,x)/\k x=y:=by
 unfold KP at h;split at h
 ·rename_i b x
  cases b with
  |true=>simp only[A6,Kn]at h;exact⟨x,rfl,h⟩
  |false=>cases h
 ·cases h
def roundK{X Y:Type}(n0:Nat)(p:Pt X)(e1:Exit)(q:Pt Y):Exit->SR->SH->Option (X⊕Y):=λe r M=>match e with
 |.normal=>KP (p.get n0 r M) .inl
 |e=>match UY e e1 with
  |true=>KP (q.get n0 r M) .inr
  |false=>none
def roundK2{X Y Z:Type}(n0:Nat)(p:Pt X)(e1:Exit)(q:Pt Y)(e2:Exit)(s:Pt Z):Exit->SR->SH->Option (X⊕(Y⊕Z)):=λe r M=>match e with
 |.normal=>KP (p.get n0 r M) .inl
 |e=>match UY e e1 with
  |true=>KP (q.get n0 r M) λy=>.inr (.inl y)
  |false=>match UY e e2 with
   |true=>KP (s.get n0 r M) λy=>.inr (.inr y)
   |false=>none
def Qa{X Y:Type}(n0:Nat)(p:Pt X)(e1:Exit)(q:Pt Y)(step:X->Option (X⊕Y)):QT:=.one X Y (p.get n0) (iter step) λ_ y=>(e1,q.R y,q.H y)
def JW{X Y Z:Type}(n0:Nat)(p:Pt X)(e1:Exit)(q:Pt Y)(e2:Exit)(s:Pt Z)(step:X->Option (X⊕(Y⊕Z))):QT:=.two X Y Z (p.get n0) (iter step) (λ_ y=>(e1,q.R y,q.H y)) (λ_ z=>(e2,s.R z,s.H z))
def mkLoop_ok(hm:P.follows .mixedOrders=true){E:Env}(hE:Zk P E){X Y:Type}{p:Pt X}{e1:Exit}{q:Pt Y}{step:X->Option (X⊕Y)}{B:CC}{i:Nat}(he:match e1 with|.panic _|.outgrown|.normal=>False|_=>True)
  (hp:∀v,p.fr (p.to v)=v) (hq:∀v,q.fr (q.to v)=v) (hl:QX P N ro n0 E (Xr B i) yk) (hstep:∀x,exec E N B i (p.R x) (p.H x) (roundK n0 p e1 q)=step x)
  (hyk:ZI P n0 E yk:=by exact ZI.no rfl) (hg:Jb P N ro n0 E yk B i:=by exact Jb.no (by kernel_rfl)):QO P N ro n0 B (Qa n0 p e1 q step) yk:=by
 intro c ks ks' hs r M x y hx hy;obtain⟨n,hn⟩:=YB hy;refine Xu (Pt.Xx hp hx) ?_;refine(VN (λn r M=>∃x,iterN step n x=some y/\r=(p.R x).den/\M=SH.den (p.H x)) (n:=n) (Q:=λe ρ τ=>e=e1/\ρ=(q.R y).den/\τ=SH.den (q.H y)) ⟨x,hn,rfl,rfl⟩ ?_).mono λe ρ τ ⟨h1,h2,h3⟩=>⟨h1,by rw[h2];exact WR.rfl',by rw[h3];exact WH.rfl'⟩;rintro n r1 A1 ⟨x1,h1,rfl,rfl⟩
 cases n with
 |zero=>cases h1
 |succ n=>
  simp only[iterN]at h1;have hs1:=hstep x1
  cases hb:step x1 with
  |none=>rw[hb]at h1;cases h1
  |some b=>
   rw[hb]at hs1 h1;refine WN ((exec_ok hm hE hyk hl hg hs1 hs).mono λe ρ τ ⟨r',S',h2,h3,h4⟩=> ?_);have left:∀(e:Exit),(match UY e e1 with|true=>KP (q.get n0 r' S') (Sum.inr (α:=X))|false=>none)=some b->∃r'' S'',J0 N n0 ρ τ r'' S''/\(e=e1/\r''=(q.R y).den/\S''=SH.den (q.H y)):=λe h=>by
    split at h
    ·rename_i heq;obtain⟨z,h5,h6⟩:=Yo h;subst h6;simp only[Kn]at h1;subst h1;exact⟨_,_,(Qi h2 h3).tr (Pt.Xx hq h5),Vi heq,rfl,rfl⟩
    ·cases h
   cases e with
   |normal=>obtain⟨z,h5,h6⟩:=Yo h4;subst h6;exact⟨_,_,(Qi h2 h3).tr (Pt.Xx hp h5),n,Nat.lt_succ_self n,z,h1,rfl,rfl⟩
   |exit id=>exact left _ h4
   |goto l=>exact left _ h4
   |ret=>exact left _ h4
   |panic ch=>exact left _ h4
   |outgrown=>exact left _ h4
def leftAt{Y Z:Type}(e1:Exit)(q:Pt Y)(e2:Exit)(s:Pt Z)(y:Y⊕Z)(e:Exit)(r:QB)(M:QA):Prop:=match y with
 |.inl y=>e=e1/\r=(q.R y).den/\M=SH.den (q.H y)
 |.inr y=>e=e2/\r=(s.R y).den/\M=SH.den (s.H y)
def mkLoop2_ok(hm:P.follows .mixedOrders=true){E:Env}(hE:Zk P E){X Y Z:Type}{p:Pt X}{e1:Exit}{q:Pt Y}{e2:Exit}{s:Pt Z}{step:X->Option (X⊕(Y⊕Z))}{B:CC}{i:Nat}
  (he:match e1 with|.panic _|.outgrown|.normal=>False|_=>True) (he2:match e2 with|.panic _|.outgrown|.normal=>False|_=>True)
  (hp:∀v,p.fr (p.to v)=v) (hq:∀v,q.fr (q.to v)=v) (hz:∀v,s.fr (s.to v)=v) (hl:QX P N ro n0 E (Xr B i) yk) (hstep:∀x,exec E N B i (p.R x) (p.H x) (roundK2 n0 p e1 q e2 s)=step x)
  (hyk:ZI P n0 E yk:=by exact ZI.no rfl) (hg:Jb P N ro n0 E yk B i:=by exact Jb.no (by kernel_rfl)):QO P N ro n0 B (JW n0 p e1 q e2 s step) yk:=by
 intro c ks ks' hs r M x y hx hy;obtain⟨n,hn⟩:=YB hy;refine Xu (Pt.Xx hp hx) ?_;refine(VN (λn r M=>∃x,iterN step n x=some y/\r=(p.R x).den/\M=SH.den (p.H x)) (n:=n) (Q:=leftAt e1 q e2 s y) ⟨x,hn,rfl,rfl⟩ ?_).mono λe ρ τ hh=>by
  cases y with
  |inl y=>have hh:e=e1/\ρ=(q.R y).den/\τ=SH.den (q.H y):=hh;exact⟨hh.1,by rw[hh.2.1];exact WR.rfl',by rw[hh.2.2];exact WH.rfl'⟩
  |inr y=>have hh:e=e2/\ρ=(s.R y).den/\τ=SH.den (s.H y):=hh;exact⟨hh.1,by rw[hh.2.1];exact WR.rfl',by rw[hh.2.2];exact WH.rfl'⟩
 rintro n r1 A1 ⟨x1,h1,rfl,rfl⟩
 cases n with
 |zero=>cases h1
 |succ n=>
  simp only[iterN]at h1;have hs1:=hstep x1
  cases hb:step x1 with
  |none=>rw[hb]at h1;cases h1
  |some b=>
   rw[hb]at hs1 h1;refine WN ((exec_ok hm hE hyk hl hg hs1 hs).mono λe ρ τ ⟨r',S',h2,h3,h4⟩=> ?_);have left:∀(e:Exit),(match UY e e1 with|true=>KP (q.get n0 r' S') (λy=>Sum.inr (α:=X) (Sum.inl (β:=Z) y))|false=>match UY e e2 with|true=>KP (s.get n0 r' S') (λy=>Sum.inr (α:=X) (Sum.inr (α:=Y) y))|false=>none)=some b->
     ∃r'' S'',J0 N n0 ρ τ r'' S''/\leftAt e1 q e2 s y e r'' S'':=λe h=>by
    split at h
    ·rename_i heq;obtain⟨z,h5,h6⟩:=Yo h;subst h6;simp only[Kn]at h1;subst h1;exact⟨_,_,(Qi h2 h3).tr (Pt.Xx hq h5),Vi heq,rfl,rfl⟩
    ·split at h
     ·rename_i heq;obtain⟨z,h5,h6⟩:=Yo h;subst h6;simp only[Kn]at h1;subst h1;exact⟨_,_,(Qi h2 h3).tr (Pt.Xx hz h5),Vi heq,rfl,rfl⟩
     ·cases h
   cases e with
   |normal=>obtain⟨z,h5,h6⟩:=Yo h4;subst h6;exact⟨_,_,(Qi h2 h3).tr (Pt.Xx hp h5),n,Nat.lt_succ_self n,z,h1,rfl,rfl⟩
   |exit id=>exact left _ h4
   |goto l=>exact left _ h4
   |ret=>exact left _ h4
   |panic ch=>exact left _ h4
   |outgrown=>exact left _ h4
end
end Go.Abs
