/- A part of the proof. -/
import Derived.Test.YtpbplpgfloaaiaaGreatDoorXR2QSyB
import Derived.Test.YtpbplpgfloaaiaaGreatDoorXR2QAbsZ
set_option linter.all false
namespace Go.Abs
variable [Gl]
inductive LL:Ql->Ql->Prop
 |nil:LL [] []
 |same (x:Nat×List Nat×List Nat) {l m:Ql}:LL l m->LL (x::l) (x::m)
 |drop (i:Nat) (rs ws:List Nat) {l m:Ql}:LL l m->LL ((i,[],[])::l) ((i,rs,ws)::m)
theorem disjN_nil:∀l,Z4 l []=true:=λl=>by
 induction l with
 |nil=>rfl
 |cons y l ih=>simp[Z4,memN,ih]
theorem LL.free{l m:Ql}(h:LL l m){b:Nat}{rs ws:List Nat}(hf:Qc b rs ws m=true):Qc b rs ws l=true:=by
 induction h with
 |nil=>rfl
 |same x _ ih=>obtain⟨i,rs',ws'⟩:=x;simp only[Qc,A9]at hf⊢;exact⟨hf.1,ih hf.2⟩
 |drop i rs' ws' _ ih=>simp only[Qc,A9]at hf⊢;exact⟨by simp[Z4,disjN_nil],ih hf.2⟩
section
variable {P:Program}{N:Nat}{ro:Option Nat}{n0:Nat}
theorem ZG{r:SR}{L:Tg}{ρ:Q3}(Hr:Qk ρ r.den)(hL:r.holds L=true){x:Operand}{v:SV}(h:evS r L x=some v):J1 (ev ρ x)=KZ (evS r L x):=by
 rw[QS Hr hL h,h]
 cases v with
 |c x=>cases x<;>rfl
 |_=>rfl
theorem U2{ty:TyT}(hty:Xd P ty){r:SR}{L:Tg}{ρ:Q3}(Hr:Qk ρ r.den)(hL:r.holds L=true){J:SH}{op:Op}(hc:JV op=none){res:Option SV}{S':SH}(h:opS true ty r L J op=some (true,res,S'))
  {rs ws:List Nat} (hf:Jj r L J S' op=some (rs,ws)) {K:Option AV->Q1->List Nat->List Nat->Prop} {t:Tag K} (hK:K (res.map SV.den) (SH.den S') rs ws):stepD P ρ (SH.den J) op K t:=by
 have hb:∀b xT x y yT,op=.binOp b xT x y yT->Qr y=false:=λb xT x y yT e=>by
  subst e;simp only[Jj]at hf;split at hf
  ·cases hf
  ·rename_i h1;exact h1
 have hE:opE P ρ (SH.den J) op=some (res.map SV.den,SH.den S'):=by
  obtain⟨res0,τ,h1,h2⟩:=opS_ok hty Hr hL hb h;have:∀{x:Option AV} {y:Q1},Out true (SH.den J) res0 τ x y->res0=x/\τ=y:=λh2=>by
   cases h2 with
   |XS _ _ h3=>exact h3 rfl
   |own _ h3=>cases h3
  obtain⟨e1,e2⟩:=this h2;rw[h1,e1,e2]
 have hnew:∀{x:Option AV×Q1},x=(res.map SV.den,SH.den S')->newIds J S' []=(rs,ws)->newD (SH.den J) x []=(res.map SV.den,SH.den S',rs,ws):=λe hn=>by
  subst e;simp only[newIds]at hn;simp only[newD,SH.QI];split at hn
  ·rename_i hl;rw[AF (eqB hl)];injection hn with h1 h2;subst h1;subst h2;rfl
  ·rename_i hl;rw[AP (WU hl)];injection hn with h1 h2;subst h1;subst h2;rfl
 have plain:opD P ρ (SH.den J) op=(opE P ρ (SH.den J) op).map (λx=>(x.1,x.2,[],[]))->rs=[]->ws=[]->(∀b xT x y yT,op≠.binOp b xT x y yT)->stepD P ρ (SH.den J) op K t:=λh1 h2 h3 h4=>by
  subst h2;subst h3;unfold stepD;split
  ·exact absurd rfl (YG hc _ _ _)
  ·rename_i b xT x y yT;exact absurd rfl (h4 b xT x y yT)
  ·rw[h1,hE];exact hK
 cases op with
 |load u a=>
  simp only[Jj,X3,A0]at hf;obtain⟨h1,rfl⟩:=hf;simp only[stepD,opD,hE,AD,ZL];have ha:∃v,evS r L a=some v:=by
   simp only[opS]at h;split at h
   ·rename_i i c v h2 h3;exact⟨_,h3⟩
   ·cases h
  obtain⟨v,hv⟩:=ha;rw[ZG Hr hL hv,h1];exact hK
 |store u a x=>
  simp only[Jj,X3,A0]at hf;obtain⟨h1,h2⟩:=hf;simp only[stepD,opD,hE,AD,ZL];have ha:∃v,evS r L a=some v:=by
   simp only[opS]at h;split at h
   ·rename_i i c v _ h2 h3 h4;exact⟨_,h3⟩
   ·cases h
  obtain⟨v,hv⟩:=ha;have e:ws=rs:=h2.symm.trans h1;subst e;rw[ZG Hr hL hv,h1];exact hK
 |alloc e=>simp only[Jj,X3]at hf;simp only[stepD,opD,hE,AD,hnew rfl hf];exact hK
 |box e x=>simp only[Jj,X3]at hf;simp only[stepD,opD,hE,AD,hnew rfl hf];exact hK
 |makeSlice u l c=>simp only[Jj,X3]at hf;simp only[stepD,opD,hE,AD,hnew rfl hf];exact hK
 |buildSlice u n ps=>simp only[Jj,X3]at hf;simp only[stepD,opD,hE,AD,hnew rfl hf];exact hK
 |slice u x lo hi mx=>
  simp only[Jj,X3,A0]at hf;obtain⟨h1,rfl⟩:=hf;simp only[stepD,opD,hE,AD,ZL];have ha:∃v,evS r L x=some v:=by
   simp only[opS]at h;split at h
   ·rename_i v _ _ _ h2 _ _ _;exact⟨_,h2⟩
   ·cases h
  obtain⟨v,hv⟩:=ha;rw[ZG Hr hL hv,h1];exact hK
 |binOp b xT x y yT=>have hy:=hb b xT x y yT rfl;simp only[Jj,hy,X3,A0]at hf;obtain⟨rfl,rfl⟩:=hf;simp only[stepD,hy,AM,Af,opD,hE,AD,ZL];exact hK
 |call c=>
  obtain⟨callee,args,ts⟩:=c
  cases callee with
  |value f=>cases hc
  |invoke a b=>cases h
  |builtin b=>
   have hargs:∃vs,KB r L args.toList=some vs:=by
    simp only[opS]at h;split at h
    ·rename_i vs h2;exact⟨vs,h2⟩
    ·cases h
   obtain⟨vs,hvs⟩:=hargs
   cases b with
   |append=>
    simp only[Jj]at hf;split at hf
    ·rename_i s v has;rw[has]at hvs;simp only[KB]at hvs;split at hvs
     ·rename_i v1 vs1 h1 h2;split at h2
      ·rename_i v2 vs2 h3 h4;have e1:=ZG Hr hL h1;have e2:=ZG Hr hL h3;simp only[stepD,opD,has,hE,AD,e1,e2,SH.QI];split at hf
       ·rename_i hl;rw[AF (eqB hl)];injection hf with hf;injection hf with h5 h6;subst h5;subst h6;exact hK
       ·rename_i hl;rw[AP (WU hl)];injection hf with hf;injection hf with h5 h6;subst h5;subst h6;exact hK
      ·cases h2
     ·cases hvs
    ·cases hf
   |cap=>
    simp only[Jj]at hf;split at hf
    ·rename_i s has;rw[has]at hvs;simp only[KB]at hvs;split at hvs
     ·rename_i v1 vs1 h1 h2;have e1:=ZG Hr hL h1;injection hf with hf;injection hf with h5 h6;subst h5;subst h6;simp only[stepD,opD,has,hE,AD,e1];exact hK
     ·cases hvs
    ·cases hf
   |copy=>
    simp only[Jj]at hf;split at hf
    ·rename_i s v has;rw[has]at hvs;simp only[KB]at hvs;split at hvs
     ·rename_i v1 vs1 h1 h2;split at h2
      ·rename_i v2 vs2 h3 h4;have e1:=ZG Hr hL h1;have e2:=ZG Hr hL h3;injection hf with hf;injection hf with h5 h6;subst h5;subst h6;simp only[stepD,opD,has,hE,AD,e1,e2];exact hK
      ·cases h2
     ·cases hvs
    ·cases hf
   |len=>simp only[Jj,X3,A0]at hf;exact plain rfl hf.1.symm hf.2.symm (λ_ _ _ _ _ e=>by cases e)
   |min=>simp only[Jj,X3,A0]at hf;exact plain rfl hf.1.symm hf.2.symm (λ_ _ _ _ _ e=>by cases e)
   |max=>simp only[Jj,X3,A0]at hf;exact plain rfl hf.1.symm hf.2.symm (λ_ _ _ _ _ e=>by cases e)
   |_=>cases hf
 |_=>first
  |(simp only[Jj,X3,A0]at hf;exact plain rfl hf.1.symm hf.2.symm (λ_ _ _ _ _ e=>by cases e))
  |cases h
theorem Kb{r:SR}{tg:Tg}{d:Nat}{w b:Bool}(hr0:r.gget d=some (tg,.c (.bo b))){ρ:Q3}(Hr:Qk ρ r.den):Xb ρ (some (d,w))=some (r.holds ((d,w)::tg)):=by
 have hr:=(SR.X9 hr0).2;have h1:=Q3.at_of (Hr _ _ (SR.QX hr)) (SR.X9 hr0).1;simp only[Xb,h1,Zf,SR.JK]
 cases hh:r.holds tg with
 |false=>simp[K8]
 |true=>simp only[Ag,SV.Jk,SC.den_bo,K8,Bool.true_and,SR.isB,hr];cases w<;>cases b<;>rfl
theorem WR.set1{v v':AV}(h:WV v v'):WR [(0,v)] [(0,v')]:=λt u hu=>by
 simp only[Q3.get]at hu⊢;split at hu
 ·rename_i e;subst e;injection hu with hu;subst hu;exact⟨v,by simp,h⟩
 ·cases hu
theorem fn_weak{f:FuncId}{args:List AV}{J T':Q1}{v':AV}(h:Qo P f args J λv τ=>WV v v'/\WH τ T'):Qo P f args J λv τ=>v=v'/\τ=T':=
 ⟨h.1,fun ι w cargs hgl hh ha=>BI (h.2 ι w cargs hgl hh ha) λe w' ⟨v,S',I',cv,h1,⟨hv,Hs⟩,h4,h5,h6⟩=>by
  have hg:QW 1 J.length [(0,v)] S' [(0,v')] T':=QL (WR.set1 hv) Hs
  obtain⟨i'',h7,h8,h9⟩:=hg I' w' { tmps:= #[cv],defers:=[] } h5 ⟨rfl,by decide,(λt x hx=>by
   simp only[Q3.get]at hx;split at hx
   ·rename_i e;subst e;injection hx with hx;subst hx;exact h4
   ·cases hx),hgl.step h6⟩
  exact⟨v',T',i'',cv,h1,⟨rfl,rfl⟩,h8.get 0 v' rfl,h7,h9 ι J w hh (A6 _) h6⟩⟩
theorem Wq{b ex:Bool}{ty:TyT}{J S':SH}{t:TypeId}{n:Nat}{ps:List (Nat×SV)}{v:SV}(h:XV b ex ty J t n ps=some (v,S'))(hl:S'.length=J.length):S'=J:=by
 unfold XV at h
 repeat' (first|(cases h;done)|(simp only[X3,A0]at h;exact h.2.symm)|(simp only[X3,A0]at h;rw[<-h.2]at hl;simp at hl;done)|split at h)
theorem quietR_heap{ty:TyT}{r:SR}{L:Tg}{J S':SH}{op:Op}{p:Bool}{res:Option SV}(hq:quietR op J (opS true ty r L J op)=true)(h:opS true ty r L J op=some (p,res,S')):S'=J:=by
 rw[h]at hq;unfold quietR at hq;split at hq
 ·rename_i hq';exact Yx hq' h
 ·split at hq
  ·rename_i heq _;simp only[X3,A0]at heq;obtain⟨_,_,rfl⟩:=heq
   trace_state
   simp only[opS]at h;split at h
   ·rw[WF]at h;obtain⟨⟨v,τ⟩,h1,h2⟩:=h;simp only[A0]at h2;obtain⟨_,_,rfl⟩:=h2;exact Wq h1 (BQ hq)
   ·cases h
  ·cases hq
theorem Z3{E:Env}(hE:Z8 P E){β:Type}{K:SR->SH->Option β}{b:β}:∀(cs:List COp) {j:Nat} {bef:List Nat} {log log':Ql} {r:SR} {J:SH} {ρ:Q3} {t:Tag (λR' τ=>∃r' S',WR R' r'.den/\WH τ (SH.den S')/\K r' S'=some b)},
  Yl E N cs j bef log r J K=some b->LL log' log->Qk ρ r.den->Wk P N cs j bef log' ρ (SH.den J) (λR' τ=>∃r' S',WR R' r'.den/\WH τ (SH.den S')/\K r' S'=some b) t
 |[],j,bef,log,log',r,J,ρ,t,h,_,Hr=>⟨r,SH.norm J,Hr.wr,Jw J,h⟩
 |⟨d,op,g,_⟩::os,j,bef,log,log',r,J,ρ,t,h,hl,Hr=>by
  simp only[Yl]at h;split at h
  ·cases h
  ·rename_i hdst;refine⟨hdst,?_⟩;split at h
   ·
    show stepD P ρ (SH.den J) op _ _;split at h
    ·rename_i f args hcall;obtain⟨as',ts,hop,rfl⟩:=Jz hcall;subst hop;split at h
     ·rename_i hh as hcal;split at h
      ·rename_i c x hcx;obtain⟨hc,hx⟩:=Js hcx
       ·
        split at h
        ·rename_i rs hrs;split at h
         ·rename_i hfree;unfold bindO at h;split at h
          ·rename_i y hy;simp only at h;split at h
           ·rename_i r' hput;have hrd:=((hE.cf hh c hc).rd as J x y rs hx hrs).2 hy;simp only[stepD,JM Hr rfl hcal,Jv];exact .inl ⟨_,rs,hrd,hl.free hfree,Z3 hE os h (.same _ hl) (Qy (v:=some _) Hr rfl hput)⟩
           ·cases h
          ·cases h
         ·cases h
        ·unfold bindO at h;split at h
         ·rename_i y hy;simp only at h;split at h
          ·rename_i r' hle hfree hput;have hok:=(hE.cf hh c hc).ok as J x y hx hy;simp only[stepD,JM Hr rfl hcal,Jv];refine .inr ⟨_,SH.den (c.heap x y J),fn_weak hok,?_,?_⟩
           ·rw[SH.QI,SH.QI];exact BG hle
           ·rw[SH.QI,SH.QI];exact⟨hl.free hfree,Z3 hE os h (.same _ hl) (Qy (v:=some _) Hr rfl hput)⟩
          ·cases h
         ·cases h
      ·cases h
     ·cases h
    ·rename_i hcall;split at h
     ·rename_i p v S' hop;split at h
      ·rename_i r' rs ws hput hf;split at h
       ·rename_i hfree
        cases p with
        |false=>cases h
        |true=>exact U2 hE.ty Hr rfl hcall hop hf ⟨hl.free hfree,Z3 hE os h (.same _ hl) (Qy Hr rfl hput)⟩
       ·cases h
      ·cases h
     ·cases h
   ·
    rename_i gd wnt;split at h
    ·rename_i tg b' hget;rw[Kb hget Hr];have skip:∀{r':SR} {v:SV} {rs ws:List Nat},r.holds ((gd,wnt)::tg)=false->r.put d ((gd,wnt)::tg) (some v)=some r'->Yl E N os (j+1) bef.tail ((j,rs,ws)::log) r' J K=some b->
       Wk P N os (j+1) bef.tail ((j,[],[])::log') (ρ.drop d) (SH.den J) (λR' τ=>∃r' S',WR R' r'.den/\WH τ (SH.den S')/\K r' S'=some b) t:=λhf hput h'=>
      Z3 hE os h' (.drop _ _ _ hl) (UM Hr hf hput)
     split at h
     ·split at h
      ·rename_i r' hput
       cases hf:r.holds ((gd,wnt)::tg) with
       |true=>rw[hf]at h;cases h
       |false=>rw[hf]at h;exact skip hf hput h
      ·cases h
     split at h
     ·rename_i f args hcall;obtain⟨as',ts,hop,rfl⟩:=Jz hcall;subst hop;split at h
      ·rename_i hh as hcal;split at h
       ·rename_i c x hcx;obtain⟨hc,hx⟩:=Js hcx
        ·
         split at h
         ·rename_i rs hrs;split at h
          ·rename_i hfree
           cases hf:r.holds ((gd,wnt)::tg) with
           |false=>
            rw[hf]at h;simp only[A7,bindO]at h;split at h
            ·rename_i r' hput;exact skip hf hput h
            ·cases h
           |true=>
            rw[hf]at h;simp only[A5]at h;unfold bindO at h;split at h
            ·rename_i y hy;simp only at h;split at h
             ·rename_i r' hput;have hrd:=((hE.cf hh c hc).rd as J x y rs hx hrs).2 hy;rw[X7,AF rfl];simp only[stepD,JM Hr hf hcal,Jv];exact .inl ⟨_,rs,hrd,hl.free hfree,Z3 hE os h (.same _ hl) (Qy (v:=some _) Hr hf hput)⟩
             ·cases h
            ·cases h
          ·cases h
         ·cases h
       ·cases h
      ·cases h
     ·rename_i hcall;split at h
      ·rename_i p v S' hq hop;have Hs:=quietR_heap hq hop;subst Hs;split at h
       ·rename_i r' rs ws hput hf';split at h
        ·rename_i hfree
         cases hf:r.holds ((gd,wnt)::tg) with
         |false=>rw[hf]at h;simp only[BX,CP,A5]at h;exact skip hf hput h
         |true=>
          rw[hf]at h
          cases p with
          |false=>cases h
          |true=>exact U2 hE.ty Hr hf hcall hop hf' ⟨hl.free hfree,Z3 hE os h (.same _ hl) (Qy (v:=some v) Hr hf hput)⟩
        ·cases h
       ·cases h
      ·cases h
    ·cases h
theorem oneZero_ok:∀{c:Ly} {xs:List c.ty},oneZero c xs=true->xs.flatMap c.trees=[.int .u8 0]/\xs.length=1:=by
 intro c xs h;unfold oneZero at h;split at h
 ·rename_i xs;split at h
  ·split at h
   ·have:=BQ h;subst this;exact⟨rfl,rfl⟩
   ·cases h
  ·cases h
 ·cases h
theorem Xz{o:SO}(h:Zp o=true):o.den=Xp:=by
 unfold Zp at h;split at h
 ·obtain⟨h1,h2⟩:=oneZero_ok h;simp only[SO.den,AT,Bb,SC.den,h1,h2];rfl
 ·cases h
theorem unz_den(o:SO):o.unz.den=o.den:=by
 unfold SO.unz;split
 ·rename_i z k n;split
  ·rename_i h;simp only[zB]at h;split at h
   ·rename_i k';have e:=JE h;subst e;have key:(List.replicate n (0:Int)).flatMap (Ly.int k').trees=ZW n [T.int k' 0]:=by
     induction n with
     |zero=>rfl
     |succ n ih=>rw[List.replicate_succ,An,ih];rfl
    show({ cs:=((List.replicate n (0:Int)).flatMap (Ly.int k').trees).map .t,es:=1,ep:=0 }:Obj)={ cs:=(ZW n [T.int k' 0]).map .t,es:=1,ep:=0 };rw[key]
   ·cases h
  ·rfl
 ·rfl
theorem Yh{t:TypeId}{u v:AV}{x:AV}{o:Obj}(h:Qp P [] t u v=some (x,[o])):∃n cap,x=.c (.sl ⟨0,0,0⟩ n cap)/\(∀τ:Q1,Qp P τ t u v=some (.c (.sl ⟨τ.length,0,0⟩ n cap),τ++[o]))/\∀c∈o.cs,∃t,c=.t t:=by
 unfold Qp at h;split at h
 ·rename_i i n m h1 h2 h3;split at h
  ·rename_i e hk;split at h
   ·rename_i j hj;split at h
    ·rename_i z hz;split at h
     ·rename_i hc;simp only[X3,A0,Bx,List.cons.injEq,and_true]at h;obtain⟨rfl,rfl⟩:=h;refine⟨n.toNat,some m.toNat,rfl,fun τ=> ?_,λc hc=> ?_⟩
      ·simp only[Qp,h1,h2,h3,hk,hj,hz];rw[AF hc]
      ·simp only[Ba]at hc;obtain⟨t,_,rfl⟩:=hc;exact⟨t,rfl⟩
     ·cases h
    ·cases h
   ·cases h
  ·cases h
 ·cases h
theorem WN{E:Env}(hE:Z8 P E){m:Nat}{β:Type}{K:SR->SH->Option β}{b:β}:∀(cs:List COp) {j:Nat} {bef:List Nat} {log log':Ql} {q:Nat} {r:SR} {J:SH} {ρ:Q3} {t:Tag (λR' τ=>∃r' S',WR R' r'.den/\WH τ (SH.den S')/\K r' S'=some b)},
  m<=q->Uu E N cs j bef log q r J K=some b->LL log' log->Qk ρ r.den->Yj P N m cs j bef log' ρ (SH.den J) (λR' τ=>∃r' S',WR R' r'.den/\WH τ (SH.den S')/\K r' S'=some b) t
 |[],j,bef,log,log',q,r,J,ρ,t,_,h,_,Hr=>⟨r,SH.norm J,Hr.wr,Jw J,h⟩
 |⟨d,op,g,_⟩::os,j,bef,log,log',q,r,J,ρ,t,hq,h,hl,Hr=>by
  simp only[Uu]at h;split at h
  ·rename_i hdst;refine⟨hdst,?_⟩;split at h
   ·rename_i ts l c;split at h
    ·rename_i u v hu hv;split at h
     ·rename_i p id0 ep0 es lo0 n cap o ow hmk how;split at h
      ·rename_i r' hw hfree hput
       cases p with
       |false=>cases h
       |true=>
        simp only[A5]at h;have h1:=ZN (J:=[]) hE.ty hmk;obtain⟨n',cap',e1,e2,e3⟩:=Yh (o:=o.den) (by simpa [SH.den] using h1);simp only[SV.den,SC.den,AV.c.injEq,Cell.sl.injEq]at e1;obtain⟨_,rfl,rfl⟩:=e1;refine Or.inr (Or.inl ⟨q,n,cap,o.den,_,_,hq,?_,QS Hr rfl hu,QS Hr rfl hv,e2,e3,hl.free hfree,?_⟩)
        ·rw[SH.QX how,Xz hw]
        ·have:=WN hE os (t:=t) (show m<=q+1 by omega) h (.same _ hl) (Qy Hr rfl hput);rw[SH.J7,unz_den]at this;simpa [SV.den,SC.den] using this
      ·cases h
     ·cases h
    ·cases h
   ·split at h
    ·rename_i p v S' hcall hop;split at h
     ·rename_i r' rs ws hput hf;split at h
      ·rename_i hfree
       cases p with
       |false=>cases h
       |true=>exact Or.inl (U2 hE.ty Hr rfl hcall hop hf ⟨hl.free hfree,WN hE os hq h (.same _ hl) (Qy Hr rfl hput)⟩)
      ·cases h
     ·cases h
    ·cases h
  ·cases h
theorem shC_den(k:Nat)(c:SC):(shC k c).den=upC [] k c.den:=by
 cases c<;>first
  |rfl
  |simp[shC,SC.den,upC,upR,Je]
  |(simp only[shC,SC.den,upC,Cell.clo.injEq,Aa];exact Am λr _=>by simp[shR,upR,Je])
theorem shV_den(k:Nat)(v:SV):(shV k v).den=upV [] k v.den:=by
 have hl:∀l:List SC,(l.map (shC k)).map SC.den=(l.map SC.den).map (upC [] k):=λl=>by rw[B4,B4];exact Am λc _=>shC_den k c
 cases v with
 |c x=>simp only[shV,SV.den,upV,shC_den]
 |agg xs=>simp only[shV,SV.den,upV,hl]
 |tup xs=>
  simp only[shV,SV.den,upV,AV.tup.injEq];rw[B4,B4];refine Am λc _=> ?_
  cases c with
  |inl c=>simp only[Function.comp,shP,Kk,upP,shC_den]
  |inr l=>simp only[Function.comp,shP,Kk,upP,hl]
theorem mv_up(L k:Nat)(v:AV):mvV L k (upV [] L v)=upV [] k v:=by
 have hr:∀r:Ref,mvR L k (upR [] L r)=upR [] k r:=λr=>by obtain⟨id,ep,off⟩:=r;simp[mvR,upR,Je]
 have hc:∀c:Cell,mvC L k (upC [] L c)=upC [] k c:=λc=>by
  cases c with
  |t x=>rfl
  |ptr r=>simp only[upC,mvC,hr]
  |sl r l c=>simp only[upC,mvC,hr]
  |clo f rs=>simp only[upC,mvC,Cell.clo.injEq,Aa];rw[B4];exact Am λr _=>hr r
 have hl:∀l:List Cell,(l.map (upC [] L)).map (mvC L k)=l.map (upC [] k):=λl=>by rw[B4];exact Am λc _=>hc c
 cases v with
 |c x=>simp only[upV,mvV,hc]
 |agg xs=>simp only[upV,mvV,hl]
 |tup xs=>
  simp only[upV,mvV,AV.tup.injEq];rw[B4];refine Am λc _=> ?_
  cases c with
  |inl c=>simp only[Function.comp,upP,mvP,hc]
  |inr l=>simp only[Function.comp,upP,mvP,hl]
theorem treesO_ok{o:SO}(h:treesO o=true):∀c∈o.den.cs,∃t,c=.t t:=λc hc=>by
 cases o with
 |st cs es ep=>obtain⟨ts,_,h1⟩:=Kp h;simp only[SO.den]at hc;rw[h1]at hc;obtain⟨t,_,rfl⟩:=Ba.1 hc;exact⟨t,rfl⟩
 |arr c xs ep=>obtain⟨t,_,rfl⟩:=Ba.1 hc;exact⟨t,rfl⟩
 |zer z c n=>obtain⟨t,_,rfl⟩:=Ba.1 hc;exact⟨t,rfl⟩
 |opn c xs cs ys ep=>cases h
theorem Ku:∀{τ:SH},treesL τ=true->∀o∈SH.den τ,∀c∈o.cs,∃t,c=.t t
 |[],_,o,ho=>by cases ho
 |o::τ,h,o',ho=>by
  simp only[treesL]at h;split at h
  ·rename_i h1;rcases AW.1 ho with rfl|ho
   ·exact treesO_ok h1
   ·exact Ku h o' ho
  ·cases h
theorem Kv:∀{as:List SV},Kw as=true->(as.map SV.den).all AV.isT=true
 |[],_=>rfl
 |.c x::l,h=>by
  simp only[Kw]at h;split at h
  ·rename_i h1;obtain⟨t,h2⟩:=SC.KV h1;simp only[AT,CU,SV.den,h2,Kv h,AV.isT,Cell.isT,AG]
  ·cases h
 |.agg xs::l,h=>by
  simp only[Kw]at h;split at h
  ·rename_i h1;obtain⟨ts,_,h2⟩:=Kp h1;have:(ts.map Cell.t).all Cell.isT=true:=(by simp[Cell.isT]);simp only[AT,CU,SV.den,h2,Kv h,AV.isT,this,AG]
  ·cases h
 |.tup _::l,h=>by cases h
theorem waitsS_ok{J:SH}:∀{n q:Nat},waitsS J q n=true->∀i,i<n->(SH.den J)[q+i]? =some Xp
 |0,q,_,i,hi=>by omega
 |n+1,q,h,i,hi=>by
  simp only[waitsS]at h;split at h
  ·rename_i o ho;split at h
   ·rename_i hw
    cases i with
    |zero=>rw[BZ,SH.QX ho,Xz hw]
    |succ i=>have:=waitsS_ok h i (by omega);rwa [show q+(i+1)=q+1+i by omega]
   ·cases h
  ·cases h
theorem setsS_den:∀(os:List SO) (q:Nat) (J:SH),SH.den (setsS q os J)=Jp q (SH.den os) (SH.den J)
 |[],_,_=>rfl
 |o::os,q,J=>by simp only[setsS];rw[setsS_den os (q+1),SH.J7];rfl
theorem WY{r:Q3}{e:TypeId}{i:Qj}{z:List T}(hi:tinf P e=some i)(hz:i.zero=some z)(k:Nat):StepA P r (.alloc e) [{ cs:=z.map .t }] k (.c (.ptr ⟨k,0,0⟩)):=λo r' τ K hop _ hK=>by refine JJ (res:=some (.c (.ptr ⟨τ.length,0,0⟩))) (S':=τ++[{ cs:=z.map .t }]) (by rw[hop];intro f args ts e;cases e) (JU (λb xT x y yT e=>by rw[hop]at e;cases e) r') ?_ (hK _ (by simp[mvV,mvC,mvR]));rw[hop];simp only[opE,hi,hz,K4]
theorem stepA_call{r:Q3}{f:Operand}{args:Array Operand}{ts:Array TypeId}{g:FuncId}{as:List AV}{x:AV}{os:Q1}(hc:XF r f args.toList=some (g,as))(ha:as.all AV.isT=true)
  (h:Qo P g as [] λv τ=>v=x/\τ=os) (ho:∀o∈os,∀c∈o.cs,∃t,c=.t t) (k:Nat):StepA P r (.call { callee:=.value f,args:=args,argTypes:=ts }) os k (upV [] k x):=λo r' τ K hop hr hK=>by
 unfold JS;rw[hop];simp only;have h1:ev r' f=ev r f:=hr f (by simp[Op.operands,Call.operands]);have h2:evl r' args.toList=evl r args.toList:=X1 λy hy=>hr y (by simp[Op.operands,Call.operands];exact .inr (by simpa using hy));rw[h1,h2];unfold XF at hc;split at hc
 ·rename_i fv as0 e1 e2
  ·try rw[e1,e2]
   try simp only[hc]
   have hos:os.map (upO [] τ.length)=os:=(by refine(Am λo hmem=> ?_).trans (List.map_id os);obtain⟨cs,es,ep⟩:=o;have:cs.map (upC [] τ.length)=cs:=(by refine(Am λc hc=> ?_).trans (List.map_id cs);obtain⟨t,rfl⟩:=ho _ hmem c hc;rfl);simp[upO,this]);refine(Yb (J:=τ) (args:=as) [] List.nodup_nil rfl (λk i o hk=>by simp at hk) (Ue ha).symm h).mono λv S' ⟨v0,T',⟨h3,h4⟩,h5,h6⟩=> ?_;subst h3;subst h4;rw[h6,h5];have:XW [] τ.length τ T'=τ++T':=(by simp only[XW,J8,List.length_nil,AU,hos]);rw[this];exact hK _ (mv_up _ _ _)
 ·cases hc
theorem firstE_tree{τ J:Q1}{es n:Nat}{x:T}:Qm τ es n (.c (.t x))=Qm J es n (.c (.t x)):=by cases x<;>rfl
theorem nilApp_some{r:SR}{d:Option Nat}{op:Op}{ts:Array TypeId}{v:SC}(h:nilApp r d op=some (ts,v)):∃args tt,op=.call { callee:=.builtin .append,args:=args,argTypes:=ts }/\d=some tt/\KB r [] args.toList=some [.c .nils,.c v]:=by
 unfold nilApp at h;split at h
 ·rename_i args ts';split at h
  ·rename_i tt v' he;injection h with h;injection h with h1 h2;subst h1;subst h2;exact⟨_,_,rfl,rfl,he⟩
  ·cases h
 ·cases h
theorem append_any{ty:TyT}(hty:Xd P ty){ts:Array TypeId}{y:SC}{a b es lo n ep:Nat}{cap:Option Nat}{c:Ly}{new:List c.ty}(h:XU false ty [] .append ts [.c .nils,.c y]=some (true,.c (.sl a b es lo n cap),[.arr c new ep]))(hy:y.isT=true):
  es=c.size/\n=new.length/\∀τ:Q1,QU P τ .append ts [.c (.t (.imm [] 0 (some 0))),(SV.c y).den]=some (if n=0 then (.c (.t (.imm [] 0 (some 0))),τ) else (.c (.sl ⟨τ.length,0,0⟩ n none),τ++[(SO.arr c new 0).den])):=by
 obtain⟨tr,htr⟩:=SC.KV hy;have hone:∀c0:Ly,oneS [] c0 (.c y)=none:=λc0=>by cases y<;>first|rfl|cases hy
 simp only[XU]at h;split at h
 ·rename_i t u ht hu;split at h
  ·rename_i i lay hi;have hap:Yd false ty [] t (.c .nils) (.c y)=some (true,.c (.sl a b es lo n cap),[.arr c new ep]):=by
    split at h
    ·exact h
    ·exact h
    ·cases h
   have hkd:(∃e,i.kind=.slice e)\/i.kind=.string:=by
    split at h
    ·rename_i e hk;exact .inl ⟨e,hk⟩
    ·rename_i hk;exact .inr hk
    ·cases h
   unfold Yd at hap;split at hap
   ·rename_i i2 c1 hi2;split at hap
    ·rename_i e hk;split at hap
     ·rename_i j c2 hj;obtain⟨hl1,z,hz,hl2⟩:=hty.lay _ _ _ hj;have hzl:j.size=z.length:=(by rw[hl1];have:=hl2.length;rw[AA,AA,Ly.QH]at this;exact this.symm);have hpos:0<j.size:=(by rw[hl1];exact c2.size_pos);split at hap
      ·rename_i p m new2 hall;simp only[X3,A0,A9,Bx,List.cons.injEq,and_true,SV.c.injEq,SC.sl.injEq,SO.arr.injEq]at hap;obtain⟨⟨hp,hr⟩,⟨_,_,rfl,_,rfl,_⟩,rfl,hnew,_⟩:=hap;have hnew:=eq_of_heq hnew;subst hnew;subst hp;obtain⟨f1,f2,f3⟩:=allS_ok hall;refine⟨rfl,f2.symm,fun τ=> ?_⟩;have f4:Qm τ j.size m (SV.c y).den=some ((new2.flatMap c2.trees).map .t):=(by rw[hl1];simp only[SV.den,htr]at f3⊢;rw[firstE_tree (J:=SH.den [])];exact f3);have key:JC P τ t (.c (.t (.imm [] 0 (some 0)))) (SV.c y).den=some (if m=0 then (.c (.t (.imm [] 0 (some 0))),τ) else (.c (.sl ⟨τ.length,0,0⟩ m none),τ++[(SO.arr c2 new2 0).den])):=by
        simp only[JC,hty.ok _ _ _ hi2,hk,hty.ok _ _ _ hj,hz,f1,f4];rw[AF ⟨hzl,hpos⟩,AF ⟨trivial,by simp,by rw[AI];exact Xv hr⟩];by_cases hm:m=0
        ·rw[AF hm,AF hm]
        ·rw[AP hm,AP hm];simp[SO.den,hl1]
       rcases hkd with ⟨e',hk'⟩|hk'
       ·simp only[QU,ht,hu,hty.ok _ _ _ hi,hk'];exact key
       ·simp only[QU,ht,hu,hty.ok _ _ _ hi,hk'];exact key
      ·rw[hone]at hap;cases hap
     ·cases hap
    ·cases hap
   ·cases hap
  ·cases h
 ·cases h
theorem stepN_append{ρ:Q3}{args:Array Operand}{ts:Array TypeId}{o:Obj}{n:Nat}{x:AV}(he:evl ρ args.toList=some [.c (.t (.imm [] 0 (some 0))),x])
  (h:∀τ:Q1,QU P τ .append ts [.c (.t (.imm [] 0 (some 0))),x]=some (if n=0 then (.c (.t (.imm [] 0 (some 0))),τ) else (.c (.sl ⟨τ.length,0,0⟩ n none),τ++[o]))) (ho:n=0->o.cs=[]):
  StepN P ρ (.call { callee:=.builtin .append,args:=args,argTypes:=ts }) o n:=λoo r' τ K hop hr h1 h2=>by
 have he':evl r' args.toList=some [.c (.t (.imm [] 0 (some 0))),x]:=(X1 λy hy=>hr y (by simp[Op.operands,Call.operands];simpa using hy)).trans he;by_cases hn:n=0
 ·refine JJ (res:=some (.c (.t (.imm [] 0 (some 0))))) (S':=τ) (by rw[hop];intro f args ts e;cases e) (JU (λb xT x y yT e=>by rw[hop]at e;cases e) r') ?_ (h2 (ho hn) hn);rw[hop];simp only[opE,he',h τ,AF hn,AD]
 ·refine JJ (res:=some (.c (.sl ⟨τ.length,0,0⟩ n none))) (S':=τ++[o]) (by rw[hop];intro f args ts e;cases e) (JU (λb xT x y yT e=>by rw[hop]at e;cases e) r') ?_ h1;rw[hop];simp only[opE,he',h τ,AP hn,AD]
theorem liveG_ok{r:SR}{g:Option (Nat×Bool)}(h:liveG r g=true){ρ:Q3}(Hr:Qk ρ r.den):Xb ρ g=some true:=by
 cases g with
 |none=>rfl
 |some g=>
  obtain⟨d,w⟩:=g;simp only[liveG]at h;split at h
  ·rename_i tg b hg;rw[Kb hg Hr,h]
  ·cases h
theorem XT{E:Env}(hE:Z8 P E){m:Nat}{β:Type}{K:SR->SH->Option β}{b:β}:∀(cs:List COp) {j:Nat} {bef:List Nat} {log log':Ql} {q:Nat} {r:SR} {J:SH} {ρ:Q3} {t:Tag (λR' τ=>∃r' S',WR R' r'.den/\WH τ (SH.den S')/\K r' S'=some b)},
  m<=q->Yk E N cs j bef log q r J K=some b->LL log' log->Qk ρ r.den->Yj P N m cs j bef log' ρ (SH.den J) (λR' τ=>∃r' S',WR R' r'.den/\WH τ (SH.den S')/\K r' S'=some b) t
 |[],j,bef,log,log',q,r,J,ρ,t,_,h,_,Hr=>⟨r,SH.norm J,Hr.wr,Jw J,h⟩
 |⟨d,op,g,_⟩::os,j,bef,log,log',q,r,J,ρ,t,hq,h,hl,Hr=>by
  simp only[Yk]at h;split at h
  ·rename_i hdst hlg;refine⟨hdst,?_⟩;rw[liveG_ok hlg Hr,Xh];split at h
   ·rename_i ts l c;split at h
    ·rename_i u v hu hv;split at h
     ·rename_i p id0 ep0 es lo0 n cap o ow hmk how;split at h
      ·rename_i r' hw hfree hput
       cases p with
       |false=>cases h
       |true=>
        simp only[A5]at h;have h1:=ZN (J:=[]) hE.ty hmk;obtain⟨n',cap',e1,e2,e3⟩:=Yh (o:=o.den) (by simpa [SH.den] using h1);simp only[SV.den,SC.den,AV.c.injEq,Cell.sl.injEq]at e1;obtain⟨_,rfl,rfl⟩:=e1;refine Or.inr (Or.inl ⟨q,n,cap,o.den,_,_,hq,?_,QS Hr rfl hu,QS Hr rfl hv,e2,e3,hl.free hfree,?_⟩)
        ·rw[SH.QX how,Xz hw]
        ·have:=XT hE os (t:=t) (show m<=q+1 by omega) h (.same _ hl) (Qy Hr rfl hput);rw[SH.J7,unz_den]at this;simpa [SV.den,SC.den] using this
      ·cases h
     ·cases h
    ·cases h
   ·rename_i e;split at h
    ·rename_i i lay hi;split at h
     ·rename_i z ow hz how;split at h
      ·rename_i r' hw htr hfree hput;obtain⟨z0,hz0,hz1⟩:=Y6 hz;refine Or.inr (Or.inl ⟨q,[{ cs:=z0.map .t }],_,hq,Nat.one_pos,λi hi=> ?_,λo ho c hc=> ?_,WY (hE.ty.ok _ _ _ hi) hz0 q,hl.free hfree,?_⟩)
       ·have:i=0:=(by simpa using hi);subst this;rw[BZ,SH.QX how,Xz hw]
       ·rw[Ai]at ho;subst ho;obtain⟨t,_,rfl⟩:=Ba.1 hc;exact⟨t,rfl⟩
       ·have:=XT hE os (t:=t) (show m<=q+1 by omega) h (.same _ hl) (Qy Hr rfl hput);rw[SH.J7]at this;simpa [SV.den,SC.den,SO.den,hz1,Jp,Xr] using this
      ·cases h
     ·cases h
    ·cases h
   ·split at h
    ·rename_i f args hcall;obtain⟨as',ts,hop,rfl⟩:=Jz hcall;subst hop;split at h
     ·rename_i hh as hcal;split at h
      ·rename_i c x hcx;obtain⟨hc,hx⟩:=Js hcx;split at h
       ·rename_i rs hrs;split at h
        ·rename_i hfree;unfold bindO at h;split at h
         ·rename_i y hy;simp only at h;split at h
          ·rename_i r' hput;have hrd:=((hE.cf hh c hc).rd as J x y rs hx hrs).2 hy;refine Or.inl ?_;simp only[stepD,JM Hr rfl hcal,Jv];exact .inl ⟨_,rs,hrd,hl.free hfree,XT hE os hq h (.same _ hl) (Qy (v:=some _) Hr rfl hput)⟩
          ·cases h
         ·cases h
        ·cases h
       ·split at h
        ·rename_i c2 x2 hcx2 htA;obtain⟨hc2,hx2⟩:=Js hcx2;unfold bindO at h;split at h
         ·rename_i y hy;simp only at h;split at h
          ·rename_i r' htL hwt hpos hfree hput;have hok:=(hE.cf hh c2 hc2).ok as [] x2 y hx2 hy;refine Or.inr (Or.inl ⟨q,SH.den (c2.heap x2 y []),upV [] q (c2.val x2 y []).den,hq,?_,λi hi=> ?_,Ku htL,stepA_call (JM Hr rfl hcal) (Kv htA) (fn_weak hok) (Ku htL) q,?_⟩)
           ·rw[SH.QI];exact ltB hpos
           ·rw[SH.QI]at hi;exact waitsS_ok hwt i hi
           ·rw[SH.QI];refine⟨hl.free hfree,?_⟩;have:=XT hE os (t:=t) (show m<=q+(c2.heap x2 y []).length by omega) h (.same _ hl) (Qy (v:=some _) Hr rfl hput);rw[setsS_den]at this;simpa [shV_den] using this
          ·cases h
         ·cases h
        ·unfold bindO at h;split at h
         ·rename_i y hy;simp only at h;split at h
          ·rename_i r' hle hfree hput;have hok:=(hE.cf hh c hc).ok as J x y hx hy;refine Or.inl ?_;simp only[stepD,JM Hr rfl hcal,Jv];refine .inr ⟨_,SH.den (c.heap x y J),fn_weak hok,?_,?_⟩
           ·rw[SH.QI,SH.QI];exact BG hle
           ·rw[SH.QI,SH.QI];exact⟨hl.free hfree,XT hE os hq h (.same _ hl) (Qy (v:=some _) Hr rfl hput)⟩
          ·cases h
         ·cases h
      ·cases h
     ·cases h
    ·rename_i hcall;split at h
     ·rename_i ts v hna;split at h
      ·rename_i p id0 ep0 es lo0 n cap0 c new ep1 ow hbi how;split at h
       ·rename_i r' hw hvt hfree hput
        cases p with
        |false=>cases h
        |true=>
         simp only[A5]at h;obtain⟨args,tt,rfl,rfl,hev⟩:=nilApp_some hna;obtain⟨rfl,hn,hE2⟩:=append_any hE.ty hbi hvt;refine Or.inr (Or.inr ⟨tt,q,(SO.arr c new 0).den,n,rfl,hq,?_,λx hx=> ?_,rfl,stepN_append (Xk Hr rfl hev) (fun τ=> ?_) (λh0=> ?_),hl.free hfree,?_⟩)
         ·rw[SH.QX how,Xz hw]
         ·obtain⟨t,_,rfl⟩:=Ba.1 hx;exact⟨t,rfl⟩
         ·exact hE2 τ
         ·have:new=[]:=Al.1 (hn.symm.trans h0);subst this;rfl
         ·have:=XT hE os (t:=t) (show m<=q+1 by omega) h (.same _ hl) (Qy Hr rfl hput);rw[SH.J7]at this;simpa [SV.den,SC.den] using this
       ·cases h
      ·cases h
     ·split at h
      ·rename_i p v S' hop;split at h
       ·rename_i r' rs ws hput hf;split at h
        ·rename_i hfree
         cases p with
         |false=>cases h
         |true=>exact Or.inl (U2 hE.ty Hr rfl hcall hop hf ⟨hl.free hfree,XT hE os hq h (.same _ hl) (Qy Hr rfl hput)⟩)
        ·cases h
       ·cases h
      ·cases h
  ·cases h
end
end Go.Abs
