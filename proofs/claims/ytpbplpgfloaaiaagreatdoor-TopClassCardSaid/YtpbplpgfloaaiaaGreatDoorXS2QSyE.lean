/- A part of the proof. -/
import Derived.Test.YtpbplpgfloaaiaaGreatDoorXS2QSyD
set_option linter.all false
namespace Go.Abs
variable [Gl]
inductive Sh where
 |bo|it (k:IntKind)|sg|np|nf|nils|arr (c:Ly)|arrc (c:Ly)|ip (c:Ly) (off:Nat)|ptr (id off:Nat)|el (id ep es off:Nat)|sl (id ep es:Nat)|slc (id ep es:Nat)|fn (f:FuncId)|clo (f:FuncId) (rs:List Ref)|junk
 deriving Inhabited
@[reducible] def Sh.T:Sh->Type
 |.bo=>Bool
 |.it _=>Int
 |.sg=>List UInt8
 |.arr c=>List c.ty
 |.arrc c=>List c.ty×Nat
 |.ip c _=>c.ty
 |.el .. =>Nat
 |.sl .. =>Nat×Nat
 |.slc .. =>Nat×Nat×Nat
 |_=>Unit
def Sh.fill:(s:Sh)->s.T->SC
 |.bo,(x:Bool)=>.bo x
 |.it k,(n:Int)=>.it k n
 |.sg,(x:List UInt8)=>.sg x
 |.np,_=>.np
 |.nf,_=>.nf
 |.nils,_=>.nils
 |.arr c,(xs:List c.ty)=>.arr c xs none
 |.arrc c,(x:List c.ty×Nat)=>.arr c x.1 (some x.2)
 |.ip c off,(x:c.ty)=>.ip c x off
 |.ptr id off,_=>.ptr id off
 |.el id ep es off,(i:Nat)=>.el id ep es i off
 |.sl id ep es,(x:Nat×Nat)=>.sl id ep es x.1 x.2 none
 |.slc id ep es,(x:Nat×Nat×Nat)=>.sl id ep es x.1 x.2.1 (some x.2.2)
 |.fn f,_=>.fn f
 |.clo f rs,_=>.clo f rs
 |.junk,_=>.junk
def Vb(n1:Nat)(M:SH):SC->Option (Bool×SC)
 |.sl id ep es lo len cap=>match Nat.ble n1 id with
  |true=>match M[id]? with
   |some (.arr c xs ep')=>match Nat.beq ep' ep,Nat.beq es c.size with
    |true,true=>some (leB (lo+len) xs.length,.arr c ((xs.drop lo).take len) cap)
    |_,_=>none
   |_=>none
  |false=>none
 |c=>match c.isT with
  |true=>some (true,c)
  |false=>none
def frzL(n1:Nat)(M:SH):List SC->Option (Bool×List SC)
 |[]=>some (true,[])
 |c::l=>match Vb n1 M c,frzL n1 M l with
  |some (p,c'),some (q,l')=>some (p&&q,c'::l')
  |_,_=>none
def Ly.slots:Ly->List (Option Ly)
 |.sl a=>[some a]
 |.pair a b=>a.slots++b.slots
 |_=>[none]
def slotsN:Nat->List (Option Ly)->List (Option Ly)
 |0,_=>[]
 |n+1,l=>l++slotsN n l
def frzF(f:Option Ly->SC->Option (Bool×SC)):List (Option Ly)->List SC->Option (Bool×List SC)
 |[],[]=>some (true,[])
 |a::as,c::l=>match f a c,frzF f as l with
  |some (p,c'),some (q,l')=>some (p&&q,c'::l')
  |_,_=>none
 |_,_=>none
def frzK:Nat->Nat->SH->Option Ly->SC->Option (Bool×SC)
 |0,n1,M,_,c=>Vb n1 M c
 |k+1,n1,M,a,c=>match a,c with
  |some a,.sl id ep es lo len cap=>match M[id]? with
   |some (.st cs es' ep')=>match Nat.ble n1 id,Nat.beq ep' ep,Nat.beq es' a.size,Nat.beq lo 0,Nat.beq cs.length (len*a.size) with
    |true,true,true,true,true=>match frzF (frzK k n1 M) (slotsN len a.slots) cs with
     |some (p,cs')=>match encL false a len cs' with
      |some xs=>some (p,.arr a xs cap)
      |none=>none
     |none=>none
    |_,_,_,_,_=>none
   |_=>Vb n1 M c
  |_,_=>Vb n1 M c
def eqRefs:List Ref->List Ref->Bool
 |[],[]=>true
 |a::as,b::bs=>match Nat.beq a.id b.id,Nat.beq a.ep b.ep,Nat.beq a.off b.off with|true,true,true=>eqRefs as bs|_,_,_=>false
 |_,_=>false
def epIs(M:SH)(id ep:Nat):Bool:=match M[id]? with
 |some (.st _ _ e)=>Nat.beq e ep
 |some (.arr _ _ e)=>Nat.beq e ep
 |some (.zer ..)=>Nat.beq 0 ep
 |some (.opn _ _ _ _ ep')=>Nat.beq ep' ep
 |none=>false
def refsOk(n1:Nat)(M:SH)(e:Nat->Nat):List Ref->Bool
 |[]=>true
 |r::rs=>match Nat.blt r.id n1,Nat.beq r.ep 0,epIs M r.id 0,Nat.beq (e r.id) 0 with
  |true,true,true,true=>refsOk n1 M e rs
  |_,_,_,_=>false
def Y1(n1:Nat)(M:SH)(e:Nat->Nat):(s:Sh)->SC->Option (Bool×s.T)
 |.bo,c=>match c with|.bo x=>some (true,x)|_=>none
 |.it k,c=>match c with|.it k' n=>(match Yf k' k with|true=>some (true,n)|false=>none)|_=>none
 |.sg,c=>match c with|.sg x=>some (true,x)|_=>none
 |.np,c=>match c with|.np=>some (true,())|_=>none
 |.nf,c=>match c with|.nf=>some (true,())|_=>none
 |.nils,c=>match c with|.nils=>some (true,())|_=>none
 |.arr a,c=>match c with
  |.arr c' xs _=>if h:c'.beq a=true then some (true,Ly.Jq h xs) else none
  |.nils=>some (true,([]:List a.ty))
  |.sl .. =>match frzK 3 n1 M (some a) c with
   |some (p,.arr c' xs _)=>if h:c'.beq a=true then some (p,Ly.Jq h xs) else none
   |_=>none
  |_=>none
 |.arrc a,c=>match c with
  |.arr c' xs (some k)=>if h:c'.beq a=true then some (true,(Ly.Jq h xs,k)) else none
  |.nils=>some (true,(([]:List a.ty),0))
  |.sl .. =>match frzK 3 n1 M (some a) c with
   |some (p,.arr c' xs (some k))=>if h:c'.beq a=true then some (p,(Ly.Jq h xs,k)) else none
   |_=>none
  |_=>none
 |.ip a off,c=>match c with
  |.ip c' x off'=>match Nat.beq off' off with
   |true=>if h:c'.beq a=true then some (true,Ly.cast h x) else none
   |false=>none
  |.iel c' xs j off'=>match Nat.beq off' off with
   |true=>if h:c'.beq a=true then some (true,Ly.cast h ((xs[j]?).getD c'.X8)) else none
   |false=>none
  |.ptr id off'=>match Nat.ble n1 id,Nat.beq off 0 with
   |true,true=>match M[id]? with
    |some (.st cs _ 0)=>match frzL n1 M (cs.drop off') with
     |some (p,l)=>match a.enc false l with
      |some x=>some (p,x)
      |none=>none
     |none=>none
    |_=>none
   |_,_=>none
  |_=>none
 |.ptr id off,c=>match c with
  |.ptr id' off'=>match Nat.beq id' id,Nat.beq off' off,Nat.blt id n1,epIs M id 0,Nat.beq (e id) 0 with
   |true,true,true,true,true=>some (true,())
   |_,_,_,_,_=>none
  |_=>none
 |.el id ep es off,c=>match c with
  |.el id' ep' es' i off'=>match Nat.beq id' id,Nat.beq off' off,Nat.beq es' es,Nat.blt id n1,epIs M id ep',Nat.beq (e id) ep with
   |true,true,true,true,true,true=>some (true,i)
   |_,_,_,_,_,_=>none
  |_=>none
 |.sl id ep es,c=>match c with
  |.sl id' ep' es' lo len none=>match Nat.beq id' id,Nat.beq es' es,Nat.blt id n1,epIs M id ep',Nat.beq (e id) ep with
   |true,true,true,true,true=>some (true,(lo,len))
   |_,_,_,_,_=>none
  |_=>none
 |.slc id ep es,c=>match c with
  |.sl id' ep' es' lo len (some k)=>match Nat.beq id' id,Nat.beq es' es,Nat.blt id n1,epIs M id ep',Nat.beq (e id) ep with
   |true,true,true,true,true=>some (true,(lo,len,k))
   |_,_,_,_,_=>none
  |_=>none
 |.fn f,c=>match c with|.fn g=>(match Nat.beq g f with|true=>some (true,())|false=>none)|_=>none
 |.clo f rs,c=>match c with
  |.clo g rs'=>match Nat.beq g f,eqRefs rs' rs,refsOk n1 M e rs with
   |true,true,true=>some (true,())
   |_,_,_=>none
  |_=>none
 |.junk,_=>some (true,())
@[reducible] def ShL.T:List Sh->Type
 |[]=>Unit
 |s::l=>s.T×ShL.T l
def ShL.fill:(l:List Sh)->ShL.T l->List SC
 |[],_=>[]
 |s::l,x=>s.fill x.1::ShL.fill l x.2
def KR(n1:Nat)(M:SH)(e:Nat->Nat):(l:List Sh)->List SC->Option (Bool×ShL.T l)
 |[],cs=>match cs with|[]=>some (true,())|_::_=>none
 |s::l,cs=>match cs with
  |[]=>none
  |c::cs=>match Y1 n1 M e s c,KR n1 M e l cs with
   |some (p,x),some (q,y)=>some (p&&q,(x,y))
   |_,_=>none
@[reducible] def ShP.T:List (Sh⊕List Sh)->Type
 |[]=>Unit
 |s::l=>(match s with|.inl s=>s.T|.inr s=>ShL.T s)×ShP.T l
def ShP.fill1:(s:Sh⊕List Sh)->(match s with|.inl s=>s.T|.inr s=>ShL.T s)->SC⊕List SC
 |.inl s,x=>.inl (s.fill x)
 |.inr s,x=>.inr (ShL.fill s x)
def ShP.fill:(l:List (Sh⊕List Sh))->ShP.T l->List (SC⊕List SC)
 |[],_=>[]
 |s::l,x=>ShP.fill1 s x.1::ShP.fill l x.2
def getP1(n1:Nat)(M:SH)(e:Nat->Nat):(s:Sh⊕List Sh)->SC⊕List SC->Option (Bool×(match s with|.inl s=>s.T|.inr s=>ShL.T s))
 |.inl s,c=>match c with|.inl c=>Y1 n1 M e s c|.inr _=>none
 |.inr s,c=>match c with|.inr c=>KR n1 M e s c|.inl _=>none
def getP(n1:Nat)(M:SH)(e:Nat->Nat):(l:List (Sh⊕List Sh))->List (SC⊕List SC)->Option (Bool×ShP.T l)
 |[],cs=>match cs with|[]=>some (true,())|_::_=>none
 |s::l,cs=>match cs with
  |[]=>none
  |c::cs=>match getP1 n1 M e s c,getP n1 M e l cs with
   |some (p,x),some (q,y)=>some (p&&q,(x,y))
   |_,_=>none
inductive ShV where
 |c (s:Sh)
 |agg (l:List Sh)
 |tup (l:List (Sh⊕List Sh))
@[reducible] def ShV.T:ShV->Type
 |.c s=>s.T
 |.agg l=>ShL.T l
 |.tup l=>ShP.T l
def ShV.fill:(s:ShV)->s.T->SV
 |.c s,x=>.c (s.fill x)
 |.agg l,x=>.agg (ShL.fill l x)
 |.tup l,x=>.tup (ShP.fill l x)
def getV(n1:Nat)(M:SH)(e:Nat->Nat):(s:ShV)->SV->Option (Bool×s.T)
 |.c s,v=>match v with|.c x=>Y1 n1 M e s x|_=>none
 |.agg l,v=>match v with|.agg xs=>KR n1 M e l xs|_=>none
 |.tup l,v=>match v with|.tup xs=>getP n1 M e l xs|_=>none
@[reducible] def ShR.T:List (Nat×ShV)->Type
 |[]=>Unit
 |s::l=>s.2.T×ShR.T l
def ShR.fill:(l:List (Nat×ShV))->ShR.T l->SR
 |[],_=>[]
 |s::l,x=>(s.1,[],s.2.fill x.1)::ShR.fill l x.2
def getR(n1:Nat)(M:SH)(e:Nat->Nat)(r:SR):(l:List (Nat×ShV))->Option (Bool×ShR.T l)
 |[]=>some (true,())
 |s::l=>match r.get s.1 with
  |some ([],v)=>match getV n1 M e s.2 v,getR n1 M e r l with
   |some (p,x),some (q,y)=>some (p&&q,(x,y))
   |_,_=>none
  |_=>none
inductive ShO where
 |st (cs:List Sh) (es ep:Nat)
 |arr (c:Ly) (ep:Nat)
 |opn (c:Ly) (cs:List Sh) (ep:Nat)
@[reducible] def ShO.T:ShO->Type
 |.st cs _ _=>ShL.T cs
 |.arr c _=>List c.ty
 |.opn c cs _=>List c.ty×ShL.T cs×List c.ty
def ShO.fill:(o:ShO)->o.T->SO
 |.st cs es ep,x=>.st (ShL.fill cs x) es ep
 |.arr c ep,(xs:List c.ty)=>.arr c xs ep
 |.opn c cs ep,x=>.opn c x.1 (ShL.fill cs x.2.1) x.2.2 ep
def ShO.ep:ShO->Nat
 |.st _ _ e=>e
 |.arr _ e=>e
 |.opn _ _ e=>e
def getO(n1:Nat)(M:SH)(e:Nat->Nat):(s:ShO)->SO->Option (Bool×s.T)
 |.st l es _,o=>match o with
  |.st cs es' _=>match Nat.beq es' es with
   |true=>KR n1 M e l cs
   |false=>none
  |_=>none
 |.arr a _,o=>match o with
  |.arr c xs _=>if h:c.beq a=true then some (true,Ly.Jq h xs) else none
  |.opn c xs cs ys _=>if h:c.beq a=true then (match frzF (frzK 3 n1 M) c.slots cs with
   |some (p,cs')=>match c.enc false cs' with
    |some y=>some (p,Ly.Jq h (xs++y::ys))
    |none=>none
   |none=>none) else none
  |_=>none
 |.opn a l _,o=>match o with
  |.opn c xs cs ys _=>if h:c.beq a=true then (match KR n1 M e l cs with
   |some (p,z)=>some (p,(Ly.Jq h xs,z,Ly.Jq h ys))
   |none=>none) else none
  |_=>none
@[reducible] def ShH.T:List ShO->Type
 |[]=>Unit
 |s::l=>s.T×ShH.T l
def ShH.fill:(l:List ShO)->ShH.T l->SH
 |[],_=>[]
 |s::l,x=>s.fill x.1::ShH.fill l x.2
def getH(n0 n1:Nat)(M:SH)(e:Nat->Nat):(i:Nat)->(l:List ShO)->SH->Option (Bool×ShH.T l)
 |_,[],_=>some (true,())
 |i,s::l,τ=>match τ with
  |[]=>none
  |o::τ=>match (match Nat.blt i n0 with|true=>epIs M i s.ep|false=>true) with
   |true=>match getO n1 M e s o,getH n0 n1 M e (i+1) l τ with
    |some (p,x),some (q,y)=>some (p&&q,(x,y))
    |_,_=>none
   |false=>none
structure Tm where(r:List (Nat×ShV))(h:List ShO)
@[reducible] def Tm.T (t:Tm):Type:=ShR.T t.r×ShH.T t.h
def Tm.fr(t:Tm)(x:t.T):SR:=ShR.fill t.r x.1
def Tm.fh(t:Tm)(x:t.T):SH:=ShH.fill t.h x.2
def epOf:List ShO->Nat->Nat
 |[],_=>0
 |s::l,i=>match i with|0=>s.ep|i+1=>epOf l i
def Tm.get(n0:Nat)(t:Tm)(r:SR)(M:SH):Option (Bool×t.T):=match Nat.ble n0 t.h.length with
 |true=>match getR t.h.length M (epOf t.h) r t.r,getH n0 t.h.length M (epOf t.h) 0 t.h M with
  |some (p,x),some (q,y)=>some (p&&q,(x,y))
  |_,_=>none
 |false=>none
def Kz{a b:Ly}(h:a.beq b=true)(x:a.ty):b.trees (Ly.cast h x)=a.trees x:=by have e:=Ly.beq_eq h;subst e;rfl
section
variable {n1:Nat}{M:SH}{e:Nat->Nat}
def frz1_ok{c c':SC}(h:Vb n1 M c=some (true,c')):∃t,JT 1 (SH.den M) n1 c.den=some t/\c'.den=.t t:=by
 unfold Vb at h;split at h
 ·rename_i id ep es lo len cap;split at h
  ·rename_i hid;split at h
   ·rename_i c xs ep' ho;split at h
    ·rename_i he hs;simp only[Kn,A0,leB,B9]at h;obtain⟨h1,rfl⟩:=h;have hes:es=c.size:=eqB hs;subst hes;have hat:(SH.den M).at? ⟨id,ep,lo*c.size⟩=some (SO.arr c xs ep').den:=SH.JX ho (eqB he);have hle:=Ar c.size h1;rw[BJ]at hle;have hlt:¬id<n1:=(by have:=leB' hid;omega);simp only[SC.den,JT,hlt,Al,hat,SO.den];rw[AC (by rw[AE,Qr];exact hle),<-BI,<-BZ,Wf];have:∀ts:List T,Jj (JT 0 (SH.den M) n1) (ts.map .t)=some ts:=λts=>by
      induction ts with
      |nil=>rfl
      |cons t ts ih=>simp[Jj,JT,ih]
     rw[this];refine⟨_,rfl,?_⟩;rw[B6,CO];have:min len (xs.length - lo)=len:=(by omega);rw[this]
    ·cases h
   ·cases h
  ·cases h
 ·split at h
  ·rename_i ht;simp only[Kn,A0,Ah]at h;subst h;obtain⟨t,ht⟩:=SC.WW ht;exact⟨t,by rw[ht];rfl,ht⟩
  ·cases h
def frzL_ok:∀{l l':List SC},frzL n1 M l=some (true,l')->∃ts,Jj (JT 1 (SH.den M) n1) (l.map SC.den)=some ts/\l'.map SC.den=ts.map .t
 |[],l',h=>by simp only[frzL,Kn,A0,Ah]at h;subst h;exact⟨[],rfl,rfl⟩
 |c::l,l',h=>by
  simp only[frzL]at h;split at h
  ·rename_i p c' q l'' h1 h2;simp only[Kn,A0,AJ]at h;obtain⟨⟨rfl,rfl⟩,rfl⟩:=h;obtain⟨t,h3,h4⟩:=frz1_ok h1;obtain⟨ts,h5,h6⟩:=frzL_ok h2;exact⟨t::ts,by simp[Jj,h3,h5],by simp[h4,h6]⟩
  ·cases h
def KB{α β:Type}{f g:α->Option β}(h:∀a b,f a=some b->g a=some b):∀{l:List α} {l':List β},Jj f l=some l'->Jj g l=some l'
 |[],l',e=>by simpa [Jj] using e
 |a::l,l',e=>by
  simp only[Jj]at e;split at e
  ·rename_i b bs h1 h2;simp only[Jj,h _ _ h1,KB h h2];exact e
  ·cases e
def KC{τ:QA}{n:Nat}:∀{k:Nat} {c:Cell} {t:T},JT k τ n c=some t->JT (k+1) τ n c=some t
 |0,c,t,h=>by
  cases c with
  |t x=>simpa [JT] using h
  |_=>simp[JT]at h
 |k+1,c,t,h=>by
  cases c with
  |t x=>simpa [JT] using h
  |sl r len cap=>
   simp only[JT]at h⊢;by_cases h0:r.id<n
   ·rw[AC h0]at h;cases h
   ·rw[AK h0]at h⊢;generalize τ.at? r=oo at h⊢
    cases oo with
    |none=>cases h
    |some o=>
     simp only at h⊢;split at h
     ·rename_i h1;rw[AC h1];obtain⟨ts,h2,h3⟩:=WF.1 h;rw[KB (λ_ _=>KC) h2];exact congrArg some h3
     ·cases h
  |ptr r=>
   simp only[JT]at h⊢;by_cases h0:r.id<n
   ·rw[AC h0]at h;cases h
   ·rw[AK h0]at h⊢;generalize τ.at? r=oo at h⊢
    cases oo with
    |none=>cases h
    |some o=>simp only at h⊢;obtain⟨ts,h2,h3⟩:=WF.1 h;rw[KB (λ_ _=>KC) h2];exact congrArg some h3
  |clo f rs=>
   rw[JT]at h⊢;split at h
   ·cases h
   ·rename_i h0;obtain⟨ts,h2,h3⟩:=WF.1 h;rw[KB (λ_ _=>KC) h2];exact congrArg some h3
def frzT_le{τ:QA}{n k:Nat}{c:Cell}{t:T}(h:JT 1 τ n c=some t):JT (k+1) τ n c=some t:=by
 induction k with
 |zero=>exact h
 |succ k ih=>exact KC ih
def frz1_K{k:Nat}{c c':SC}(h:Vb n1 M c=some (true,c')):∃t,JT (k+1) (SH.den M) n1 c.den=some t/\WC (.t t) c'.den:=by obtain⟨t,h1,h2⟩:=frz1_ok h;exact⟨t,frzT_le h1,by rw[h2];exact .refl _⟩
def frzF_ok{f:Option Ly->SC->Option (Bool×SC)}{k:Nat}(hf:∀a c c',f a c=some (true,c')->∃t,JT k (SH.den M) n1 c.den=some t/\WC (.t t) c'.den):
  ∀{as:List (Option Ly)} {l l':List SC},frzF f as l=some (true,l')->∃ts,Jj (JT k (SH.den M) n1) (l.map SC.den)=some ts/\WL (ts.map .t) (l'.map SC.den)
 |[],[],l',h=>by simp only[frzF,Kn,A0,Ah]at h;subst h;exact⟨[],rfl,trivial⟩
 |[],_::_,l',h=>by cases h
 |_::_,[],l',h=>by cases h
 |a::as,c::l,l',h=>by
  simp only[frzF]at h;split at h
  ·rename_i p c' q l'' h1 h2;simp only[Kn,A0,AJ]at h;obtain⟨⟨rfl,rfl⟩,rfl⟩:=h;obtain⟨t,h3,h4⟩:=hf _ _ _ h1;obtain⟨ts,h5,h6⟩:=frzF_ok hf h2;exact⟨t::ts,by simp[Jj,h3,h5],h4,h6⟩
  ·cases h
def Us:∀{k:Nat} {a:Option Ly} {c c':SC},frzK k n1 M a c=some (true,c')->∃t,JT (k+1) (SH.den M) n1 c.den=some t/\WC (.t t) c'.den
 |0,a,c,c',h=>frz1_K h
 |k+1,a,c,c',h=>by
  simp only[frzK]at h;split at h
  ·rename_i a id ep es lo len cap;split at h
   ·rename_i cs es' ep' ho;split at h
    ·rename_i g1 g2 g3 g4 g5;split at h
     ·rename_i p cs' hf;split at h
      ·rename_i xs hx;simp only[Kn,A0]at h;obtain⟨rfl,rfl⟩:=h;obtain⟨ts,h1,h2⟩:=frzF_ok (λa c c'=>Us (k:=k)) hf;obtain⟨h3,h4,_⟩:=Wj hx;have e1:lo=0:=eqB g4;have e2:es'=a.size:=eqB g3;have e3:cs.length=len*a.size:=eqB g5;subst e1;subst e2;have hat:(SH.den M).at? ⟨id,ep,0*es⟩=some (SO.st cs a.size ep').den:=SH.JX ho (eqB g2);have hlt:¬id<n1:=(by have:=leB' g1;omega);refine⟨.imm ts len cap,?_,?_⟩
       ·simp only[SC.den];rw[JT,AK hlt];have hc:(⟨id,ep,0*es⟩:Ref).off+len*(SO.st cs a.size ep').den.es<=(SO.st cs a.size ep').den.cs.length:=(by simp only[SO.den,BP,AF,AE];omega);rw[hat];show(if _ then _ else _)=_;rw[AC hc];simp only[SO.den,BP,AW];rw[AN (by simp[e3]),h1];rfl
       ·simp only[SC.den,h3];obtain⟨h5,h6⟩:=WL.unmap (h2.trT h4);exact .t (.cells _ _ _ _ h5 h6)
      ·cases h
     ·cases h
    ·cases h
   ·exact frz1_K h
  ·exact frz1_K h
def KF{id ep:Nat}(h:epIs M id ep=true):∃o,(SH.den M)[id]? =some o/\o.ep=ep:=by
 unfold epIs at h;split at h
 ·rename_i ho;exact⟨_,SH.Qy ho,eqB h⟩
 ·rename_i ho;exact⟨_,SH.Qy ho,eqB h⟩
 ·rename_i ho;exact⟨_,SH.Qy ho,eqB h⟩
 ·rename_i ho;exact⟨_,SH.Qy ho,eqB h⟩
 ·cases h
def UJ:∀{a b:List Ref},eqRefs a b=true->a=b
 |[],[],_=>rfl
 |[],_::_,h=>by cases h
 |_::_,[],h=>by cases h
 |⟨i,e,o⟩::as,⟨j,f,p⟩::bs,h=>by
  simp only[eqRefs]at h;split at h
  ·rename_i h1 h2 h3;rw[eqB h1,eqB h2,eqB h3,UJ h]
  ·cases h
def Tw.refl{t:T}{c':Cell}(h:WC (.t t) c'):Tw n1 (SH.den M) e (.t t) c':=⟨_,.t t,h⟩
def getC_ok:∀{s:Sh} {c:SC} {x:s.T},Y1 n1 M e s c=some (true,x)->Tw n1 (SH.den M) e c.den (s.fill x).den
 |.bo,c,x,h=>by
  simp only[Y1]at h;split at h
  ·simp only[Kn,A0,Ah]at h;subst h;exact .refl (.refl _)
  ·cases h
 |.it k,c,x,h=>by
  simp only[Y1]at h;split at h
  ·split at h
   ·rename_i hk;simp only[Kn,A0,Ah]at h;subst h;rw[Jm hk];exact .refl (.refl _)
   ·cases h
  ·cases h
 |.sg,c,x,h=>by
  simp only[Y1]at h;split at h
  ·simp only[Kn,A0,Ah]at h;subst h;exact .refl (.refl _)
  ·cases h
 |.np,c,x,h=>by
  simp only[Y1]at h;split at h
  ·exact .refl (.refl _)
  ·cases h
 |.nf,c,x,h=>by
  simp only[Y1]at h;split at h
  ·exact .refl (.refl _)
  ·cases h
 |.nils,c,x,h=>by
  simp only[Y1]at h;split at h
  ·exact .refl (.refl _)
  ·cases h
 |.arr a,c,x,h=>by
  simp only[Y1]at h;split at h
  ·rename_i c' xs cap;split at h
   ·rename_i hb;simp only[Kn,A0,Ah]at h;subst h;refine .refl ?_;simp only[Sh.fill,SC.den,Qz,JA];exact .t (.cap _ _ _)
   ·cases h
  ·simp only[Kn,A0,Ah]at h;subst h;exact .refl (.t (.cap _ _ _))
  ·split at h
   ·rename_i p c' xs cap hf;split at h
    ·rename_i hb;simp only[Kn,A0]at h;obtain⟨rfl,rfl⟩:=h;obtain⟨t,h1,h2⟩:=Us hf;refine⟨_,.frz 4 _ t h1,h2.trT ?_⟩;simp only[Sh.fill,SC.den,Qz,JA];exact .t (.cap _ _ _)
    ·cases h
   ·cases h
  ·cases h
 |.arrc a,c,x,h=>by
  simp only[Y1]at h;split at h
  ·rename_i c' xs k;split at h
   ·rename_i hb;simp only[Kn,A0,Ah]at h;subst h;refine .refl ?_;simp only[Sh.fill,SC.den,Qz,JA];exact .refl _
   ·cases h
  ·simp only[Kn,A0,Ah]at h;subst h;exact .refl (.refl _)
  ·split at h
   ·rename_i p c' xs k hf;split at h
    ·rename_i hb;simp only[Kn,A0]at h;obtain⟨rfl,rfl⟩:=h;obtain⟨t,h1,h2⟩:=Us hf;refine⟨_,.frz 4 _ t h1,h2.trT ?_⟩;simp only[Sh.fill,SC.den,Qz,JA];exact .refl _
    ·cases h
   ·cases h
  ·cases h
 |.ip a off,c,x,h=>by
  simp only[Y1]at h;split at h
  ·rename_i c' y off';split at h
   ·rename_i ho;split at h
    ·rename_i hb;simp only[Kn,A0,Ah]at h;subst h;refine .refl ?_;simp only[Sh.fill,SC.den,Kz,eqB ho];exact .refl _
    ·cases h
   ·cases h
  ·rename_i c' xs j off';split at h
   ·rename_i ho;split at h
    ·rename_i hb;simp only[Kn,A0,Ah]at h;subst h;refine .refl ?_;simp only[Sh.fill,SC.den,Kz,eqB ho];refine .t (.pre _ _ ?_);by_cases hl:off<=(c'.trees ((xs[j]?).getD c'.X8)).length
     ·rw[CV hl];exact List.prefix_append _ _
     ·rw[Be (by omega)];exact List.nil_prefix
    ·cases h
   ·cases h
  ·rename_i id off';split at h
   ·rename_i hid ho0;split at h
    ·rename_i cs es ho;split at h
     ·rename_i p l hl;split at h
      ·rename_i y hy;simp only[Kn,A0]at h;obtain⟨rfl,rfl⟩:=h;obtain⟨ts,h1,h2⟩:=frzL_ok hl;have hlt:¬id<n1:=(by have:=leB' hid;omega);have hat:(SH.den M).at? ⟨id,0,off'⟩=some (SO.st cs es 0).den:=SH.JX ho rfl;refine⟨.t (.iptr ts),.frz 2 _ _ ?_,?_⟩
       ·simp only[SC.den,JT,hlt,Al,hat,SO.den,<-BI,h1,AI]
       ·have hw:=(Ly.Kw hy).1;rw[h2]at hw;obtain⟨h3,h4⟩:=WL.unmap hw;simp only[Sh.fill,SC.den,eqB ho0,AW];exact .t (.ptrs _ _ h3 h4)
      ·cases h
     ·cases h
    ·cases h
   ·cases h
  ·cases h
 |.ptr id off,c,x,h=>by
  simp only[Y1]at h;split at h
  ·rename_i id' off';split at h
   ·rename_i h1 h2 h3 h4 h5;obtain⟨o,h6,h7⟩:=KF h4;have e1:=eqB h1;have e2:=eqB h2;subst e1;subst e2;have:=Trm.ptr (n1:=n1) (e:=e) ⟨id',0,off'⟩ o (ltB h3) h6 h7;refine⟨_,this,?_⟩;simp only[Sh.fill,SC.den,eqB h5];exact .refl _
   ·cases h
  ·cases h
 |.el id ep es off,c,x,h=>by
  simp only[Y1]at h;split at h
  ·rename_i id' ep' es' i off';split at h
   ·rename_i h1 h2 h8 h3 h4 h5;simp only[Kn,A0,Ah]at h;subst h;obtain⟨o,h6,h7⟩:=KF h4;have e1:=eqB h1;have e2:=eqB h2;have e3:=eqB h8;subst e1;subst e2;subst e3;have:=Trm.ptr (n1:=n1) (e:=e) ⟨id',ep',i*es'+off'⟩ o (ltB h3) h6 h7;refine⟨_,this,?_⟩;simp only[Sh.fill,SC.den,eqB h5];exact .refl _
   ·cases h
  ·cases h
 |.sl id ep es,c,x,h=>by
  simp only[Y1]at h;split at h
  ·rename_i id' ep' es' lo len;split at h
   ·rename_i h1 h2 h3 h4 h5;simp only[Kn,A0,Ah]at h;subst h;obtain⟨o,h6,h7⟩:=KF h4;have e1:=eqB h1;have e2:=eqB h2;subst e1;subst e2;have:=Trm.sl (n1:=n1) (e:=e) ⟨id',ep',lo*es'⟩ len none o (ltB h3) h6 h7;refine⟨_,this,?_⟩;simp only[Sh.fill,SC.den,eqB h5];exact .refl _
   ·cases h
  ·cases h
 |.slc id ep es,c,x,h=>by
  simp only[Y1]at h;split at h
  ·rename_i id' ep' es' lo len k;split at h
   ·rename_i h1 h2 h3 h4 h5;simp only[Kn,A0,Ah]at h;subst h;obtain⟨o,h6,h7⟩:=KF h4;have e1:=eqB h1;have e2:=eqB h2;subst e1;subst e2;have:=Trm.sl (n1:=n1) (e:=e) ⟨id',ep',lo*es'⟩ len (some k) o (ltB h3) h6 h7;refine⟨_,this,?_⟩;simp only[Sh.fill,SC.den,eqB h5];exact .refl _
   ·cases h
  ·cases h
 |.fn f,c,x,h=>by
  simp only[Y1]at h;split at h
  ·split at h
   ·rename_i hf;rw[eqB hf];exact .refl (.refl _)
   ·cases h
  ·cases h
 |.clo f rs,c,x,h=>by
  simp only[Y1]at h;split at h
  ·rename_i g rs';split at h
   ·rename_i h1 h2 h3;rw[eqB h1,UJ h2];have key:∀{rs:List Ref},refsOk n1 M e rs=true->(∀r∈rs,r.id<n1/\∃o,(SH.den M)[r.id]? =some o/\o.ep=r.ep)/\rs.map (λr=>{ r with ep:=e r.id })=rs:=λ{rs}=>by
     induction rs with
     |nil=>intro _;exact⟨λr hr=>by simp at hr,rfl⟩
     |cons r rs ih=>
      intro h;simp only[refsOk]at h;split at h
      ·rename_i h4 h5 h6 h7;obtain⟨ih1,ih2⟩:=ih h;obtain⟨o,h8,h9⟩:=KF h6;have hr0:r.ep=0:=eqB h5;refine⟨λr' hr'=> ?_,?_⟩
       ·simp only[AT]at hr';rcases hr' with rfl|hr'
        ·exact⟨ltB h4,o,h8,by rw[h9,hr0]⟩
        ·exact ih1 r' hr'
       ·obtain⟨i,ep,off⟩:=r;have hr0':ep=0:=hr0;subst hr0';rw[AY,ih2];simp only[eqB h7]
      ·cases h
    obtain⟨k1,k2⟩:=key h3;refine⟨_,.clo f rs k1,?_⟩;rw[k2];exact .refl _
   ·cases h
  ·cases h
 |.junk,c,x,h=>⟨_,.junk _,.refl _⟩
def Yu:∀{s:List Sh} {c:List SC} {x:ShL.T s},KR n1 M e s c=some (true,x)->TwL n1 (SH.den M) e (c.map SC.den) ((ShL.fill s x).map SC.den)
 |[],c,x,h=>by
  simp only[KR]at h;split at h
  ·exact⟨[],trivial,trivial⟩
  ·cases h
 |s::l,c,x,h=>by
  simp only[KR]at h;split at h
  ·cases h
  ·split at h
   ·rename_i p y q z h1 h2;simp only[Kn,A0,AJ]at h;obtain⟨⟨rfl,rfl⟩,rfl⟩:=h;obtain⟨d,h3,h4⟩:=getC_ok h1;obtain⟨ds,h5,h6⟩:=Yu h2;exact⟨d::ds,⟨h3,h5⟩,⟨h4,h6⟩⟩
   ·cases h
def getP_ok:∀{s:List (Sh⊕List Sh)} {c:List (SC⊕List SC)} {x:ShP.T s},getP n1 M e s c=some (true,x)->∃d,KZ n1 (SH.den M) e (c.map Wn) d/\WPL d ((ShP.fill s x).map Wn)
 |[],c,x,h=>by
  simp only[getP]at h;split at h
  ·exact⟨[],trivial,trivial⟩
  ·cases h
 |s::l,c,x,h=>by
  simp only[getP]at h;split at h
  ·cases h
  ·split at h
   ·rename_i p y q z h1 h2;simp only[Kn,A0,AJ]at h;obtain⟨⟨rfl,rfl⟩,rfl⟩:=h;obtain⟨ds,h5,h6⟩:=getP_ok h2
    cases s with
    |inl s=>
     simp only[getP1]at h1;split at h1
     ·obtain⟨d,h3,h4⟩:=getC_ok h1;exact⟨.inl d::ds,⟨h3,h5⟩,⟨h4,h6⟩⟩
     ·cases h1
    |inr s=>
     simp only[getP1]at h1;split at h1
     ·obtain⟨d,h3,h4⟩:=Yu h1;exact⟨.inr d::ds,⟨h3,h5⟩,⟨h4,h6⟩⟩
     ·cases h1
   ·cases h
def getV_ok{s:ShV}{v:SV}{x:s.T}(h:getV n1 M e s v=some (true,x)):TwV n1 (SH.den M) e v.den (s.fill x).den:=by
 cases s with
 |c s=>
  simp only[getV]at h;split at h
  ·obtain⟨d,h1,h2⟩:=getC_ok h;exact⟨.c d,h1,h2⟩
  ·cases h
 |agg l=>
  simp only[getV]at h;split at h
  ·obtain⟨d,h1,h2⟩:=Yu h;exact⟨.agg d,h1,h2⟩
  ·cases h
 |tup l=>
  simp only[getV]at h;split at h
  ·obtain⟨d,h1,h2⟩:=getP_ok h;exact⟨.tup d,h1,h2⟩
  ·cases h
def getR_ok{r:SR}:∀{l:List (Nat×ShV)} {x:ShR.T l},getR n1 M e r l=some (true,x)->∀t v',(SR.den (ShR.fill l x)).get t=some v'->∃v,r.den.get t=some v/\TwV n1 (SH.den M) e v v'
 |[],x,h,t,v',hv=>by cases hv
 |s::l,x,h,t,v',hv=>by
  obtain⟨k,s⟩:=s;simp only[getR]at h;split at h
  ·rename_i v h0;split at h
   ·rename_i p y q z h1 h2;simp only[Kn,A0,AJ]at h;obtain⟨⟨rfl,rfl⟩,rfl⟩:=h;have hd:SR.den (ShR.fill ((k,s)::l) (y,z))=(k,(s.fill y).den)::SR.den (ShR.fill l z):=by
     have key:∀(l:List (Nat×ShV)) (z:ShR.T l) (r r':SR),(ShR.fill l z).map r.den1=(ShR.fill l z).map r'.den1:=λl=>by
      induction l with
      |nil=>intro z r r';rfl
      |cons s l ih=>intro z r r';simp only[ShR.fill,AY];rw[ih z.2 r r'];rfl
     simp only[SR.den,ShR.fill,AY];rw[key l z _ (ShR.fill l z)];rfl
    rw[hd]at hv;simp only[QB.get]at hv;split at hv
    ·rename_i e;subst e;injection hv with hv;subst hv;exact⟨v.den,SR.Qy h0,getV_ok h1⟩
    ·exact getR_ok h2 t v' hv
   ·cases h
  ·cases h
def ZA.data:∀(ts:List T),ZA n1 (SH.den M) e (ts.map .t) (ts.map .t)
 |[]=>trivial
 |t::ts=>⟨.t t,ZA.data ts⟩
def ZA.app{τ:QA}:∀{a b a' b':List Cell},ZA n1 τ e a b->ZA n1 τ e a' b'->ZA n1 τ e (a++a') (b++b')
 |[],[],_,_,_,h=>h
 |[],_::_,_,_,h,_=>h.elim
 |_::_,[],_,_,h,_=>h.elim
 |_::_,_::_,_,_,h,h'=>⟨h.1,ZA.app h.2 h'⟩
def frz_trm{k:Nat}:∀{cs:List Cell} {ts:List T},Jj (JT k (SH.den M) n1) cs=some ts->ZA n1 (SH.den M) e cs (ts.map .t)
 |[],ts,h1=>by simp only[Jj,Kn]at h1;subst h1;trivial
 |c::cs,ts,h1=>by
  simp only[Jj]at h1;split at h1
  ·rename_i t ts' h3 h4;injection h1 with h1;subst h1;exact⟨.frz k _ t h3,frz_trm h4⟩
  ·cases h1
def getO_ok{s:ShO}{o:SO}{x:s.T}(h:getO n1 M e s o=some (true,x)):TwL n1 (SH.den M) e o.den.cs (s.fill x).den.cs/\(s.fill x).den.es=o.den.es/\(s.fill x).den.ep=s.ep:=by
 cases s with
 |st l es ep=>
  simp only[getO]at h;split at h
  ·split at h
   ·rename_i hs;exact⟨Yu h,(eqB hs).symm,rfl⟩
   ·cases h
  ·cases h
 |arr a ep=>
  simp only[getO]at h;split at h
  ·rename_i c xs ep';split at h
   ·rename_i hb;simp only[Kn,A0,Ah]at h;subst h;refine⟨?_,(Jy hb).symm,rfl⟩;show TwL n1 (SH.den M) e ((xs.flatMap c.trees).map .t) (((Ly.Jq hb xs).flatMap a.trees).map .t);rw[Qz];refine⟨(xs.flatMap c.trees).map .t,?_,WL.rfl'⟩;exact ZA.data _
   ·cases h
  ·rename_i c xs cs ys ep';split at h
   ·rename_i hb;split at h
    ·rename_i p cs' hf;split at h
     ·rename_i y hy;simp only[Kn,A0]at h;obtain⟨rfl,rfl⟩:=h;refine⟨?_,(Jy hb).symm,rfl⟩;obtain⟨ts,h1,h2⟩:=frzF_ok (λ_ _ _=>Us) hf;obtain⟨h3,_⟩:=Ly.Kw hy;show TwL n1 (SH.den M) e ((xs.flatMap c.trees).map Cell.t++(cs.map SC.den++(ys.flatMap c.trees).map Cell.t)) (((Ly.Jq hb (xs++y::ys)).flatMap a.trees).map .t);rw[Qz,CL,Ac,AS,AS];refine⟨(xs.flatMap c.trees).map .t++(ts.map .t++(ys.flatMap c.trees).map .t),(ZA.data _).app ((frz_trm h1).app (ZA.data _)),?_⟩;exact WL.rfl'.append ((h2.trT h3).append WL.rfl')
     ·cases h
    ·cases h
   ·cases h
  ·cases h
 |opn a l ep=>
  simp only[getO]at h;split at h
  ·rename_i c xs cs ys ep';split at h
   ·rename_i hb;split at h
    ·rename_i p z hz;simp only[Kn,A0]at h;obtain⟨rfl,rfl⟩:=h;refine⟨?_,(Jy hb).symm,rfl⟩;obtain⟨d,h1,h2⟩:=Yu hz;show TwL n1 (SH.den M) e ((xs.flatMap c.trees).map Cell.t++(cs.map SC.den++(ys.flatMap c.trees).map Cell.t)) (((Ly.Jq hb xs).flatMap a.trees).map .t++((ShL.fill l z).map SC.den++((Ly.Jq hb ys).flatMap a.trees).map .t));rw[Qz,Qz];exact⟨(xs.flatMap c.trees).map .t++(d++(ys.flatMap c.trees).map .t),(ZA.data _).app (h1.app (ZA.data _)),WL.rfl'.append (h2.append WL.rfl')⟩
    ·cases h
   ·cases h
  ·cases h
def getH_ok{n0:Nat}:∀{l:List ShO} {τ:SH} {i:Nat} {x:ShH.T l},getH n0 n1 M e i l τ=some (true,x)->
  (SH.den (ShH.fill l x)).length=l.length/\(∀id o',(SH.den (ShH.fill l x))[id]? =some o'->∃o,(SH.den τ)[id]? =some o/\TwL n1 (SH.den M) e o.cs o'.cs/\o'.es=o.es/\o'.ep=epOf l id)/\(∀k,k<l.length->i+k<n0->epIs M (i+k) (epOf l k)=true)
 |[],τ,i,x,h=>⟨rfl,λid o' ho=>by simp[ShH.fill,SH.den]at ho,λk hk=>by simp at hk⟩
 |s::l,τ,i,x,h=>by
  simp only[getH]at h;split at h
  ·cases h
  ·rename_i o τ;split at h
   ·rename_i hep;split at h
    ·rename_i p y q z h1 h2;simp only[Kn,A0,AJ]at h;obtain⟨⟨rfl,rfl⟩,rfl⟩:=h;obtain⟨h3,h4,h5⟩:=getO_ok h1;obtain⟨h6,h7,h8⟩:=getH_ok h2;refine⟨by simp[ShH.fill,SH.den]at h6⊢;exact h6,λid o' ho=> ?_,λk hk hn=> ?_⟩
     ·cases id with
      |zero=>have:o'=(s.fill y).den:=(by simpa [ShH.fill,SH.den] using ho.symm);subst this;exact⟨o.den,rfl,h3,h4,h5⟩
      |succ id=>exact h7 id o' (by simpa [ShH.fill,SH.den] using ho)
     ·cases k with
      |zero=>have:Nat.blt i n0=true:=(by simpa using hn);rw[this]at hep;exact hep
      |succ k=>have:=h8 k (by simpa using hk) (by omega);rw[show i+(k+1)=i+1+k by omega];exact this
    ·cases h
   ·cases h
def Tm.Xx{N n0:Nat}{t:Tm}{r:SR}{x:t.T}(h:t.get n0 r M=some (true,x)):J0 N n0 r.den (SH.den M) (t.fr x).den (SH.den (t.fh x)):=by
 unfold Tm.get at h;split at h
 ·rename_i hn;split at h
  ·rename_i p y q z h1 h2;simp only[Kn,A0,AJ]at h;obtain⟨⟨rfl,rfl⟩,rfl⟩:=h;have hr:=getR_ok h1;obtain⟨h3,h4,h5⟩:=getH_ok h2;refine ghost_trim (e:=epOf t.h) (leB' hn) h3 (λid o hid ho=> ?_) (λid o' ho=>h4 id o' ho) (λt' v' hv=>hr t' v' hv);have hlt:id<t.h.length:=(by have:=leB' hn;omega);have:=h5 id hlt (by omega);rw[AF]at this;obtain⟨o2,h6,h7⟩:=KF this;rw[ho]at h6;injection h6 with h6;subst h6;exact h7.symm
  ·cases h
 ·cases h
end
end Go.Abs
