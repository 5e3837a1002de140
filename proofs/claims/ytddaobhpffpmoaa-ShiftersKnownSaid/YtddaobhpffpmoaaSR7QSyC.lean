/- A part of the proof. -/
import Derived.Test.YtddaobhpffpmoaaSR7QSyB
import Derived.Test.YtddaobhpffpmoaaSR7QAbsZ
set_option linter.all false
namespace Go.Abs
variable [Gl]
inductive LL:J0->J0->Prop
 |nil:LL [] []
 |same (x:Nat×List Nat×List Nat) {l m:J0}:LL l m->LL (x::l) (x::m)
 |drop (i:Nat) (rs ws:List Nat) {l m:J0}:LL l m->LL ((i,[],[])::l) ((i,rs,ws)::m)
theorem disjN_nil:∀l,Xe l []=true:=λl=>by
 induction l with
 |nil=>rfl
 |cons y l ih=>simp[Xe,memN,ih]
theorem LL.free{l m:J0}(h:LL l m){b:Nat}{rs ws:List Nat}(hf:Qh b rs ws m=true):Qh b rs ws l=true:=by
 induction h with
 |nil=>rfl
 |same x _ ih=>obtain⟨i,rs',ws'⟩:=x;simp only[Qh,AC]at hf⊢;exact⟨hf.1,ih hf.2⟩
 |drop i rs' ws' _ ih=>simp only[Qh,AC]at hf⊢;exact⟨by simp[Xe,disjN_nil],ih hf.2⟩
section
variable {P:Program}{N:Nat}{ro:Option Nat}{n0:Nat}
theorem Zf{r:SR}{L:Tg}{ρ:Q0}(Hr:Qm ρ r.den)(hL:r.holds L=true){x:Operand}{v:SV}(h:evS r L x=some v):J7 (ev ρ x)=Wb (evS r L x):=by
 rw[QY Hr hL h,h]
 cases v with
 |c x=>cases x<;>rfl
 |_=>rfl
theorem Uw{ty:TyT}(hty:Z1 P ty){r:SR}{L:Tg}{ρ:Q0}(Hr:Qm ρ r.den)(hL:r.holds L=true){O:SH}{op:Op}(hc:X1 op=none){res:Option SV}{A':SH}(h:opS true ty r L O op=some (true,res,A'))
  {rs ws:List Nat} (hf:X8 r L O A' op=some (rs,ws)) {K:Option AV->Q1->List Nat->List Nat->Prop} {t:Tag K} (hK:K (res.map SV.den) (SH.den A') rs ws):Jh P ρ (SH.den O) op K t:=by
 have hb:∀b xT x y yT,op=.binOp b xT x y yT->JM y=false:=λb xT x y yT e=>by
  subst e;simp only[X8]at hf;split at hf
  ·cases hf
  ·rename_i h1;exact h1
 have hE:opE P ρ (SH.den O) op=some (res.map SV.den,SH.den A'):=by
  obtain⟨res0,τ,h1,h2⟩:=opS_ok hty Hr hL hb h;have:∀{x:Option AV} {y:Q1},Out true (SH.den O) res0 τ x y->res0=x/\τ=y:=λh2=>by
   cases h2 with
   |Xf _ _ h3=>exact h3 rfl
   |own _ h3=>cases h3
  obtain⟨e1,e2⟩:=this h2;rw[h1,e1,e2]
 have hnew:∀{x:Option AV×Q1},x=(res.map SV.den,SH.den A')->newIds O A' []=(rs,ws)->newD (SH.den O) x []=(res.map SV.den,SH.den A',rs,ws):=λe hn=>by
  subst e;simp only[newIds]at hn;simp only[newD,SH.QE];split at hn
  ·rename_i hl;rw[AB (eqB hl)];injection hn with h1 h2;subst h1;subst h2;rfl
  ·rename_i hl;rw[AE (UT hl)];injection hn with h1 h2;subst h1;subst h2;rfl
 have plain:opD P ρ (SH.den O) op=(opE P ρ (SH.den O) op).map (λx=>(x.1,x.2,[],[]))->rs=[]->ws=[]->(∀b xT x y yT,op≠.binOp b xT x y yT)->Jh P ρ (SH.den O) op K t:=λh1 h2 h3 h4=>by
  subst h2;subst h3;unfold Jh;split
  ·exact absurd rfl (Yk hc _ _ _)
  ·rename_i b xT x y yT;exact absurd rfl (h4 b xT x y yT)
  ·rw[h1,hE];exact hK
 cases op with
 |load u a=>
  simp only[X8,A0,A4]at hf;obtain⟨h1,rfl⟩:=hf;simp only[Jh,opD,hE,AD,Yh];have ha:∃v,evS r L a=some v:=by
   simp only[opS]at h;split at h
   ·rename_i i c v h2 h3;exact⟨_,h3⟩
   ·cases h
  obtain⟨v,hv⟩:=ha;rw[Zf Hr hL hv,h1];exact hK
 |store u a x=>
  simp only[X8,A0,A4]at hf;obtain⟨h1,h2⟩:=hf;simp only[Jh,opD,hE,AD,Yh];have ha:∃v,evS r L a=some v:=by
   simp only[opS]at h;split at h
   ·rename_i i c v _ h2 h3 h4;exact⟨_,h3⟩
   ·cases h
  obtain⟨v,hv⟩:=ha;have e:ws=rs:=h2.symm.trans h1;subst e;rw[Zf Hr hL hv,h1];exact hK
 |alloc e=>simp only[X8,A0]at hf;simp only[Jh,opD,hE,AD,hnew rfl hf];exact hK
 |box e x=>simp only[X8,A0]at hf;simp only[Jh,opD,hE,AD,hnew rfl hf];exact hK
 |makeSlice u l c=>simp only[X8,A0]at hf;simp only[Jh,opD,hE,AD,hnew rfl hf];exact hK
 |buildSlice u n ps=>simp only[X8,A0]at hf;simp only[Jh,opD,hE,AD,hnew rfl hf];exact hK
 |slice u x lo hi mx=>
  simp only[X8,A0,A4]at hf;obtain⟨h1,rfl⟩:=hf;simp only[Jh,opD,hE,AD,Yh];have ha:∃v,evS r L x=some v:=by
   simp only[opS]at h;split at h
   ·rename_i v _ _ _ h2 _ _ _;exact⟨_,h2⟩
   ·cases h
  obtain⟨v,hv⟩:=ha;rw[Zf Hr hL hv,h1];exact hK
 |binOp b xT x y yT=>have hy:=hb b xT x y yT rfl;simp only[X8,hy,A0,A4]at hf;obtain⟨rfl,rfl⟩:=hf;simp only[Jh,hy,AP,Af,opD,hE,AD,Yh];exact hK
 |call c=>
  obtain⟨callee,args,ts⟩:=c
  cases callee with
  |value f=>cases hc
  |invoke a b=>cases h
  |builtin b=>
   have hargs:∃vs,Wj r L args.toList=some vs:=by
    simp only[opS]at h;split at h
    ·rename_i vs h2;exact⟨vs,h2⟩
    ·cases h
   obtain⟨vs,hvs⟩:=hargs
   cases b with
   |append=>
    simp only[X8]at hf;split at hf
    ·rename_i s v has;rw[has]at hvs;simp only[Wj]at hvs;split at hvs
     ·rename_i v1 vs1 h1 h2;split at h2
      ·rename_i v2 vs2 h3 h4;have e1:=Zf Hr hL h1;have e2:=Zf Hr hL h3;simp only[Jh,opD,has,hE,AD,e1,e2,SH.QE];split at hf
       ·rename_i hl;rw[AB (eqB hl)];injection hf with hf;injection hf with h5 h6;subst h5;subst h6;exact hK
       ·rename_i hl;rw[AE (UT hl)];injection hf with hf;injection hf with h5 h6;subst h5;subst h6;exact hK
      ·cases h2
     ·cases hvs
    ·cases hf
   |cap=>
    simp only[X8]at hf;split at hf
    ·rename_i s has;rw[has]at hvs;simp only[Wj]at hvs;split at hvs
     ·rename_i v1 vs1 h1 h2;have e1:=Zf Hr hL h1;injection hf with hf;injection hf with h5 h6;subst h5;subst h6;simp only[Jh,opD,has,hE,AD,e1];exact hK
     ·cases hvs
    ·cases hf
   |copy=>
    simp only[X8]at hf;split at hf
    ·rename_i s v has;rw[has]at hvs;simp only[Wj]at hvs;split at hvs
     ·rename_i v1 vs1 h1 h2;split at h2
      ·rename_i v2 vs2 h3 h4;have e1:=Zf Hr hL h1;have e2:=Zf Hr hL h3;injection hf with hf;injection hf with h5 h6;subst h5;subst h6;simp only[Jh,opD,has,hE,AD,e1,e2];exact hK
      ·cases h2
     ·cases hvs
    ·cases hf
   |len=>simp only[X8,A0,A4]at hf;exact plain rfl hf.1.symm hf.2.symm (λ_ _ _ _ _ e=>by cases e)
   |min=>simp only[X8,A0,A4]at hf;exact plain rfl hf.1.symm hf.2.symm (λ_ _ _ _ _ e=>by cases e)
   |max=>simp only[X8,A0,A4]at hf;exact plain rfl hf.1.symm hf.2.symm (λ_ _ _ _ _ e=>by cases e)
   |_=>cases hf
 |_=>first
  |(simp only[X8,A0,A4]at hf;exact plain rfl hf.1.symm hf.2.symm (λ_ _ _ _ _ e=>by cases e))
  |cases h
theorem guardC_holds{r:SR}{tg:Tg}{d:Nat}{w b:Bool}(hr0:r.gget d=some (tg,.c (.bo b))){ρ:Q0}(Hr:Qm ρ r.den):Kq ρ (some (d,w))=some (r.holds ((d,w)::tg)):=by
 have hr:=(SR.XU hr0).2;have h1:=Q0.at_of (Hr _ _ (SR.QT hr)) (SR.XU hr0).1;simp only[Kq,h1,Y4,SR.JW]
 cases hh:r.holds tg with
 |false=>simp[Kp]
 |true=>simp only[Ai,SV.XW,SC.den_bo,Kp,BF,SR.isB,hr];cases w<;>cases b<;>rfl
theorem WR.set1{v v':AV}(h:WV v v'):WR [(0,v)] [(0,v')]:=λt u hu=>by
 simp only[Q0.get]at hu⊢;split at hu
 ·rename_i e;subst e;injection hu with hu;subst hu;exact⟨v,by simp,h⟩
 ·cases hu
theorem fn_weak{f:FuncId}{args:List AV}{O T':Q1}{v':AV}(h:Qo P f args O λv τ=>WV v v'/\WH τ T'):Qo P f args O λv τ=>v=v'/\τ=T':=
 ⟨h.1,fun ι w cargs hgl hh ha=>BN (h.2 ι w cargs hgl hh ha) λe w' ⟨v,A',I',cv,h1,⟨hv,Hs⟩,h4,h5,h6⟩=>by
  have hg:Qe 1 O.length [(0,v)] A' [(0,v')] T':=QJ (WR.set1 hv) Hs
  obtain⟨i'',h7,h8,h9⟩:=hg I' w' { tmps:= #[cv],defers:=[] } h5 ⟨rfl,by decide,(λt x hx=>by
   simp only[Q0.get]at hx;split at hx
   ·rename_i e;subst e;injection hx with hx;subst hx;exact h4
   ·cases hx),hgl.step h6⟩
  exact⟨v',T',i'',cv,h1,⟨rfl,rfl⟩,h8.get 0 v' rfl,h7,h9 ι O w hh (A9 _) h6⟩⟩
theorem Xu{E:Env}(hE:Z4 P E){β:Type}{K:SR->SH->Option β}{b:β}:∀(cs:List COp) {j:Nat} {bef:List Nat} {log log':J0} {r:SR} {O:SH} {ρ:Q0} {t:Tag (λC' τ=>∃r' A',WR C' r'.den/\WH τ (SH.den A')/\K r' A'=some b)},
  YW E N cs j bef log r O K=some b->LL log' log->Qm ρ r.den->Wn P N cs j bef log' ρ (SH.den O) (λC' τ=>∃r' A',WR C' r'.den/\WH τ (SH.den A')/\K r' A'=some b) t
 |[],j,bef,log,log',r,O,ρ,t,h,_,Hr=>⟨r,SH.norm O,Hr.wr,Jw O,h⟩
 |⟨d,op,g,_⟩::os,j,bef,log,log',r,O,ρ,t,h,hl,Hr=>by
  simp only[YW]at h;split at h
  ·cases h
  ·rename_i hdst;refine⟨hdst,?_⟩;split at h
   ·
    show Jh P ρ (SH.den O) op _ _;split at h
    ·rename_i f args hcall;obtain⟨as',ts,hop,rfl⟩:=Jm hcall;subst hop;split at h
     ·rename_i hh as hcal;split at h
      ·rename_i c x hcx;obtain⟨hc,hx⟩:=XH hcx
       ·
        split at h
        ·rename_i rs hrs;split at h
         ·rename_i hfree;unfold bindO at h;split at h
          ·rename_i y hy;simp only at h;split at h
           ·rename_i r' hput;have hrd:=((hE.cf hh c hc).rd as O x y rs hx hrs).2 hy;simp only[Jh,JY Hr rfl hcal,VY];exact .inl ⟨_,rs,hrd,hl.free hfree,Xu hE os h (.same _ hl) (Qy (v:=some _) Hr rfl hput)⟩
           ·cases h
          ·cases h
         ·cases h
        ·unfold bindO at h;split at h
         ·rename_i y hy;simp only at h;split at h
          ·rename_i r' hle hfree hput;have hok:=(hE.cf hh c hc).ok as O x y hx hy;simp only[Jh,JY Hr rfl hcal,VY];refine .inr ⟨_,SH.den (c.heap x y O),fn_weak hok,?_,?_⟩
           ·rw[SH.QE,SH.QE];exact Au hle
           ·rw[SH.QE,SH.QE];exact⟨hl.free hfree,Xu hE os h (.same _ hl) (Qy (v:=some _) Hr rfl hput)⟩
          ·cases h
         ·cases h
      ·cases h
     ·cases h
    ·rename_i hcall;split at h
     ·rename_i p v A' hop;split at h
      ·rename_i r' rs ws hput hf;split at h
       ·rename_i hfree
        cases p with
        |false=>cases h
        |true=>exact Uw hE.ty Hr rfl hcall hop hf ⟨hl.free hfree,Xu hE os h (.same _ hl) (Qy Hr rfl hput)⟩
       ·cases h
      ·cases h
     ·cases h
   ·
    rename_i gd wnt;split at h
    ·rename_i tg b' hget;rw[guardC_holds hget Hr];have skip:∀{r':SR} {v:SV} {rs ws:List Nat},r.holds ((gd,wnt)::tg)=false->r.put d ((gd,wnt)::tg) (some v)=some r'->YW E N os (j+1) bef.tail ((j,rs,ws)::log) r' O K=some b->
       Wn P N os (j+1) bef.tail ((j,[],[])::log') (ρ.drop d) (SH.den O) (λC' τ=>∃r' A',WR C' r'.den/\WH τ (SH.den A')/\K r' A'=some b) t:=λhf hput h'=>
      Xu hE os h' (.drop _ _ _ hl) (VP Hr hf hput)
     split at h
     ·split at h
      ·rename_i r' hput
       cases hf:r.holds ((gd,wnt)::tg) with
       |true=>rw[hf]at h;cases h
       |false=>rw[hf]at h;exact skip hf hput h
      ·cases h
     split at h
     ·rename_i f args hcall;obtain⟨as',ts,hop,rfl⟩:=Jm hcall;subst hop;split at h
      ·rename_i hh as hcal;split at h
       ·rename_i c x hcx;obtain⟨hc,hx⟩:=XH hcx
        ·
         split at h
         ·rename_i rs hrs;split at h
          ·rename_i hfree
           cases hf:r.holds ((gd,wnt)::tg) with
           |false=>
            rw[hf]at h;simp only[AA,bindO]at h;split at h
            ·rename_i r' hput;exact skip hf hput h
            ·cases h
           |true=>
            rw[hf]at h;simp only[A7]at h;unfold bindO at h;split at h
            ·rename_i y hy;simp only at h;split at h
             ·rename_i r' hput;have hrd:=((hE.cf hh c hc).rd as O x y rs hx hrs).2 hy;rw[K8,AB rfl];simp only[Jh,JY Hr hf hcal,VY];exact .inl ⟨_,rs,hrd,hl.free hfree,Xu hE os h (.same _ hl) (Qy (v:=some _) Hr hf hput)⟩
             ·cases h
            ·cases h
          ·cases h
         ·cases h
       ·cases h
      ·cases h
     ·rename_i hcall;split at h
      ·rename_i p v A' hq hop;have Hs:=Kd hq hop;subst Hs;split at h
       ·rename_i r' rs ws hput hf';split at h
        ·rename_i hfree
         cases hf:r.holds ((gd,wnt)::tg) with
         |false=>rw[hf]at h;simp only[BB,CY,A7]at h;exact skip hf hput h
         |true=>
          rw[hf]at h
          cases p with
          |false=>cases h
          |true=>exact Uw hE.ty Hr hf hcall hop hf' ⟨hl.free hfree,Xu hE os h (.same _ hl) (Qy (v:=some v) Hr hf hput)⟩
        ·cases h
       ·cases h
      ·cases h
    ·cases h
theorem oneZero_ok:∀{c:Ly} {xs:List c.ty},oneZero c xs=true->xs.flatMap c.trees=[.int .u8 0]/\xs.length=1:=by
 intro c xs h;unfold oneZero at h;split at h
 ·rename_i xs;split at h
  ·split at h
   ·have:=C4 h;subst this;exact⟨rfl,rfl⟩
   ·cases h
  ·cases h
 ·cases h
theorem ZR{o:SO}(h:YH o=true):o.den=YS:=by
 unfold YH at h;split at h
 ·obtain⟨h1,h2⟩:=oneZero_ok h;simp only[SO.den,AQ,Ba,SC.den,h1,h2];rfl
 ·cases h
theorem unz_den(o:SO):o.unz.den=o.den:=by
 unfold SO.unz;split
 ·rename_i z k n;split
  ·rename_i h;simp only[zB]at h;split at h
   ·rename_i k';have e:=X7 h;subst e;have key:(List.replicate n (0:Int)).flatMap (Ly.int k').trees=Zr n [T.int k' 0]:=by
     induction n with
     |zero=>rfl
     |succ n ih=>rw[List.replicate_succ,B5,ih];rfl
    show({ cs:=((List.replicate n (0:Int)).flatMap (Ly.int k').trees).map .t,es:=1,ep:=0 }:Obj)={ cs:=(Zr n [T.int k' 0]).map .t,es:=1,ep:=0 };rw[key]
   ·cases h
  ·rfl
 ·rfl
theorem KP{t:TypeId}{u v:AV}{x:AV}{o:Obj}(h:Qu P [] t u v=some (x,[o])):∃n cap,x=.c (.sl ⟨0,0,0⟩ n cap)/\(∀τ:Q1,Qu P τ t u v=some (.c (.sl ⟨τ.length,0,0⟩ n cap),τ++[o]))/\∀c∈o.cs,∃t,c=.t t:=by
 unfold Qu at h;split at h
 ·rename_i i n m h1 h2 h3;split at h
  ·rename_i e hk;split at h
   ·rename_i j hj;split at h
    ·rename_i z hz;split at h
     ·rename_i hc;simp only[A0,A4,BY,List.cons.injEq,and_true]at h;obtain⟨rfl,rfl⟩:=h;refine⟨n.toNat,some m.toNat,rfl,fun τ=> ?_,λc hc=> ?_⟩
      ·simp only[Qu,h1,h2,h3,hk,hj,hz];rw[AB hc]
      ·simp only[Am]at hc;obtain⟨t,_,rfl⟩:=hc;exact⟨t,rfl⟩
     ·cases h
    ·cases h
   ·cases h
  ·cases h
 ·cases h
theorem UN{E:Env}(hE:Z4 P E){m:Nat}{β:Type}{K:SR->SH->Option β}{b:β}:∀(cs:List COp) {j:Nat} {bef:List Nat} {log log':J0} {q:Nat} {r:SR} {O:SH} {ρ:Q0} {t:Tag (λC' τ=>∃r' A',WR C' r'.den/\WH τ (SH.den A')/\K r' A'=some b)},
  m<=q->Vu E N cs j bef log q r O K=some b->LL log' log->Qm ρ r.den->Wl P N m cs j bef log' ρ (SH.den O) (λC' τ=>∃r' A',WR C' r'.den/\WH τ (SH.den A')/\K r' A'=some b) t
 |[],j,bef,log,log',q,r,O,ρ,t,_,h,_,Hr=>⟨r,SH.norm O,Hr.wr,Jw O,h⟩
 |⟨d,op,g,_⟩::os,j,bef,log,log',q,r,O,ρ,t,hq,h,hl,Hr=>by
  simp only[Vu]at h;split at h
  ·rename_i hdst;refine⟨hdst,?_⟩;split at h
   ·rename_i ts l c;split at h
    ·rename_i u v hu hv;split at h
     ·rename_i p id0 ep0 es lo0 n cap o ow hmk how;split at h
      ·rename_i r' hw hfree hput
       cases p with
       |false=>cases h
       |true=>
        simp only[A7]at h;have h1:=Zm (O:=[]) hE.ty hmk;obtain⟨n',cap',e1,e2,e3⟩:=KP (o:=o.den) (by simpa [SH.den] using h1);simp only[SV.den,SC.den,AV.c.injEq,Cell.sl.injEq]at e1;obtain⟨_,rfl,rfl⟩:=e1;refine Or.inr (Or.inl ⟨q,n,cap,o.den,_,_,hq,?_,QY Hr rfl hu,QY Hr rfl hv,e2,e3,hl.free hfree,?_⟩)
        ·rw[SH.QT how,ZR hw]
        ·have:=UN hE os (t:=t) (show m<=q+1 by omega) h (.same _ hl) (Qy Hr rfl hput);rw[SH.JJ,unz_den]at this;simpa [SV.den,SC.den] using this
      ·cases h
     ·cases h
    ·cases h
   ·split at h
    ·rename_i p v A' hcall hop;split at h
     ·rename_i r' rs ws hput hf;split at h
      ·rename_i hfree
       cases p with
       |false=>cases h
       |true=>exact Or.inl (Uw hE.ty Hr rfl hcall hop hf ⟨hl.free hfree,UN hE os hq h (.same _ hl) (Qy Hr rfl hput)⟩)
      ·cases h
     ·cases h
    ·cases h
  ·cases h
theorem shC_den(k:Nat)(c:SC):(shC k c).den=upC [] k c.den:=by
 cases c<;>first
  |rfl
  |simp[shC,SC.den,upC,upR,X0]
  |(simp only[shC,SC.den,upC,Cell.clo.injEq,Ak];exact Aa λr _=>by simp[shR,upR,X0])
theorem shV_den(k:Nat)(v:SV):(shV k v).den=upV [] k v.den:=by
 have hl:∀l:List SC,(l.map (shC k)).map SC.den=(l.map SC.den).map (upC [] k):=λl=>by rw[B0,B0];exact Aa λc _=>shC_den k c
 cases v with
 |c x=>simp only[shV,SV.den,upV,shC_den]
 |agg xs=>simp only[shV,SV.den,upV,hl]
 |tup xs=>
  simp only[shV,SV.den,upV,AV.tup.injEq];rw[B0,B0];refine Aa λc _=> ?_
  cases c with
  |inl c=>simp only[Function.comp,shP,Wp,upP,shC_den]
  |inr l=>simp only[Function.comp,shP,Wp,upP,hl]
theorem mv_up(L k:Nat)(v:AV):mvV L k (upV [] L v)=upV [] k v:=by
 have hr:∀r:Ref,mvR L k (upR [] L r)=upR [] k r:=λr=>by obtain⟨id,ep,off⟩:=r;simp[mvR,upR,X0]
 have hc:∀c:Cell,mvC L k (upC [] L c)=upC [] k c:=λc=>by
  cases c with
  |t x=>rfl
  |ptr r=>simp only[upC,mvC,hr]
  |sl r l c=>simp only[upC,mvC,hr]
  |clo f rs=>simp only[upC,mvC,Cell.clo.injEq,Ak];rw[B0];exact Aa λr _=>hr r
 have hl:∀l:List Cell,(l.map (upC [] L)).map (mvC L k)=l.map (upC [] k):=λl=>by rw[B0];exact Aa λc _=>hc c
 cases v with
 |c x=>simp only[upV,mvV,hc]
 |agg xs=>simp only[upV,mvV,hl]
 |tup xs=>
  simp only[upV,mvV,AV.tup.injEq];rw[B0];refine Aa λc _=> ?_
  cases c with
  |inl c=>simp only[Function.comp,upP,mvP,hc]
  |inr l=>simp only[Function.comp,upP,mvP,hl]
theorem treesO_ok{o:SO}(h:treesO o=true):∀c∈o.den.cs,∃t,c=.t t:=λc hc=>by
 cases o with
 |st cs es ep=>obtain⟨ts,_,h1⟩:=Ww h;simp only[SO.den]at hc;rw[h1]at hc;obtain⟨t,_,rfl⟩:=Am.1 hc;exact⟨t,rfl⟩
 |arr c xs ep=>obtain⟨t,_,rfl⟩:=Am.1 hc;exact⟨t,rfl⟩
 |zer z c n=>obtain⟨t,_,rfl⟩:=Am.1 hc;exact⟨t,rfl⟩
 |opn c xs cs ys ep=>cases h
theorem U1:∀{τ:SH},treesL τ=true->∀o∈SH.den τ,∀c∈o.cs,∃t,c=.t t
 |[],_,o,ho=>by cases ho
 |o::τ,h,o',ho=>by
  simp only[treesL]at h;split at h
  ·rename_i h1;rcases Ag.1 ho with rfl|ho
   ·exact treesO_ok h1
   ·exact U1 h o' ho
  ·cases h
theorem U2:∀{as:List SV},U3 as=true->(as.map SV.den).all AV.isT=true
 |[],_=>rfl
 |.c x::l,h=>by
  simp only[U3]at h;split at h
  ·rename_i h1;obtain⟨t,h2⟩:=SC.WX h1;simp only[AQ,CO,SV.den,h2,U2 h,AV.isT,Cell.isT,AY]
  ·cases h
 |.agg xs::l,h=>by
  simp only[U3]at h;split at h
  ·rename_i h1;obtain⟨ts,_,h2⟩:=Ww h1;have:(ts.map Cell.t).all Cell.isT=true:=(by simp[Cell.isT]);simp only[AQ,CO,SV.den,h2,U2 h,AV.isT,this,AY]
  ·cases h
 |.tup _::l,h=>by cases h
theorem waitsS_ok{O:SH}:∀{n q:Nat},waitsS O q n=true->∀i,i<n->(SH.den O)[q+i]? =some YS
 |0,q,_,i,hi=>by omega
 |n+1,q,h,i,hi=>by
  simp only[waitsS]at h;split at h
  ·rename_i o ho;split at h
   ·rename_i hw
    cases i with
    |zero=>rw[BZ,SH.QT ho,ZR hw]
    |succ i=>have:=waitsS_ok h i (by omega);rwa [show q+(i+1)=q+1+i by omega]
   ·cases h
  ·cases h
theorem setsS_den:∀(os:List SO) (q:Nat) (O:SH),SH.den (setsS q os O)=XF q (SH.den os) (SH.den O)
 |[],_,_=>rfl
 |o::os,q,O=>by simp only[setsS];rw[setsS_den os (q+1),SH.JJ];rfl
theorem stepA_alloc{r:Q0}{e:TypeId}{i:Qp}{z:List T}(hi:tinf P e=some i)(hz:i.zero=some z)(k:Nat):StepA P r (.alloc e) [{ cs:=z.map .t }] k (.c (.ptr ⟨k,0,0⟩)):=λo r' τ K hop _ hK=>by refine JT (res:=some (.c (.ptr ⟨τ.length,0,0⟩))) (A':=τ++[{ cs:=z.map .t }]) (by rw[hop];intro f args ts e;cases e) (Jk (λb xT x y yT e=>by rw[hop]at e;cases e) r') ?_ (hK _ (by simp[mvV,mvC,mvR]));rw[hop];simp only[opE,hi,hz,Ki]
theorem stepA_call{r:Q0}{f:Operand}{args:Array Operand}{ts:Array TypeId}{g:FuncId}{as:List AV}{x:AV}{os:Q1}(hc:Y7 r f args.toList=some (g,as))(ha:as.all AV.isT=true)
  (h:Qo P g as [] λv τ=>v=x/\τ=os) (ho:∀o∈os,∀c∈o.cs,∃t,c=.t t) (k:Nat):StepA P r (.call { callee:=.value f,args:=args,argTypes:=ts }) os k (upV [] k x):=λo r' τ K hop hr hK=>by
 unfold XD;rw[hop];simp only;have h1:ev r' f=ev r f:=hr f (by simp[Op.operands,Call.operands]);have h2:evl r' args.toList=evl r args.toList:=Xn λy hy=>hr y (by simp[Op.operands,Call.operands];exact .inr (by simpa using hy));rw[h1,h2];unfold Y7 at hc;split at hc
 ·rename_i fv as0 e1 e2;split at hc
  ·rename_i g' caps e3;injection hc with hc;injection hc with hc1 hc2;subst hc1;try rw[e1,e2]
   try simp only[e3]
   rw[hc2];have hos:os.map (upO [] τ.length)=os:=(by refine(Aa λo hmem=> ?_).trans (List.map_id os);obtain⟨cs,es,ep⟩:=o;have:cs.map (upC [] τ.length)=cs:=(by refine(Aa λc hc=> ?_).trans (List.map_id cs);obtain⟨t,rfl⟩:=ho _ hmem c hc;rfl);simp[upO,this]);refine(UH (O:=τ) (args:=as) [] List.nodup_nil rfl (λk i o hk=>by simp at hk) (Vg ha).symm h).mono λv A' ⟨v0,T',⟨h3,h4⟩,h5,h6⟩=> ?_;subst h3;subst h4;rw[h6,h5];have:Z3 [] τ.length τ T'=τ++T':=(by simp only[Z3,Jc,Bg,An,hos]);rw[this];exact hK _ (mv_up _ _ _)
  ·cases hc
 ·cases hc
theorem firstE_tree{τ O:Q1}{es n:Nat}{x:T}:Qt τ es n (.c (.t x))=Qt O es n (.c (.t x)):=by cases x<;>rfl
theorem nilApp_some{r:SR}{d:Option Nat}{op:Op}{ts:Array TypeId}{v:SC}(h:nilApp r d op=some (ts,v)):∃args tt,op=.call { callee:=.builtin .append,args:=args,argTypes:=ts }/\d=some tt/\Wj r [] args.toList=some [.c .nils,.c v]:=by
 unfold nilApp at h;split at h
 ·rename_i args ts';split at h
  ·rename_i tt v' he;injection h with h;injection h with h1 h2;subst h1;subst h2;exact⟨_,_,rfl,rfl,he⟩
  ·cases h
 ·cases h
theorem append_any{ty:TyT}(hty:Z1 P ty){ts:Array TypeId}{y:SC}{a b es lo n ep:Nat}{cap:Option Nat}{c:Ly}{new:List c.ty}(h:Xw false ty [] .append ts [.c .nils,.c y]=some (true,.c (.sl a b es lo n cap),[.arr c new ep]))(hy:y.isT=true):
  es=c.size/\n=new.length/\∀τ:Q1,Qc P τ .append ts [.c (.t (.imm [] 0 (some 0))),(SV.c y).den]=some (if n=0 then (.c (.t (.imm [] 0 (some 0))),τ) else (.c (.sl ⟨τ.length,0,0⟩ n none),τ++[(SO.arr c new 0).den])):=by
 obtain⟨tr,htr⟩:=SC.WX hy;have hone:∀c0:Ly,oneS [] c0 (.c y)=none:=λc0=>by cases y<;>first|rfl|cases hy
 simp only[Xw]at h;split at h
 ·rename_i t u ht hu;split at h
  ·rename_i i lay hi;have hap:KI false ty [] t (.c .nils) (.c y)=some (true,.c (.sl a b es lo n cap),[.arr c new ep]):=by
    split at h
    ·exact h
    ·exact h
    ·cases h
   have hkd:(∃e,i.kind=.slice e)\/i.kind=.string:=by
    split at h
    ·rename_i e hk;exact .inl ⟨e,hk⟩
    ·rename_i hk;exact .inr hk
    ·cases h
   unfold KI at hap;split at hap
   ·rename_i i2 c1 hi2;split at hap
    ·rename_i e hk;split at hap
     ·rename_i j c2 hj;obtain⟨hl1,z,hz,hl2⟩:=hty.lay _ _ _ hj;have hzl:j.size=z.length:=(by rw[hl1];have:=hl2.length;rw[AG,AG,Ly.QC]at this;exact this.symm);have hpos:0<j.size:=(by rw[hl1];exact c2.size_pos);split at hap
      ·rename_i p m new2 hall;simp only[A0,A4,AC,BY,List.cons.injEq,and_true,SV.c.injEq,SC.sl.injEq,SO.arr.injEq]at hap;obtain⟨⟨hp,hr⟩,⟨_,_,rfl,_,rfl,_⟩,rfl,hnew,_⟩:=hap;have hnew:=eq_of_heq hnew;subst hnew;subst hp;obtain⟨f1,f2,f3⟩:=allS_ok hall;refine⟨rfl,f2.symm,fun τ=> ?_⟩;have f4:Qt τ j.size m (SV.c y).den=some ((new2.flatMap c2.trees).map .t):=(by rw[hl1];simp only[SV.den,htr]at f3⊢;rw[firstE_tree (O:=SH.den [])];exact f3);have key:JO P τ t (.c (.t (.imm [] 0 (some 0)))) (SV.c y).den=some (if m=0 then (.c (.t (.imm [] 0 (some 0))),τ) else (.c (.sl ⟨τ.length,0,0⟩ m none),τ++[(SO.arr c2 new2 0).den])):=by
        simp only[JO,hty.ok _ _ _ hi2,hk,hty.ok _ _ _ hj,hz,f1,f4];rw[AB ⟨hzl,hpos⟩,AB ⟨trivial,by simp,by rw[Ac];exact ZN hr⟩];by_cases hm:m=0
        ·rw[AB hm,AB hm]
        ·rw[AE hm,AE hm];simp[SO.den,hl1]
       rcases hkd with ⟨e',hk'⟩|hk'
       ·simp only[Qc,ht,hu,hty.ok _ _ _ hi,hk'];exact key
       ·simp only[Qc,ht,hu,hty.ok _ _ _ hi,hk'];exact key
      ·rw[hone]at hap;cases hap
     ·cases hap
    ·cases hap
   ·cases hap
  ·cases h
 ·cases h
theorem stepN_append{ρ:Q0}{args:Array Operand}{ts:Array TypeId}{o:Obj}{n:Nat}{x:AV}(he:evl ρ args.toList=some [.c (.t (.imm [] 0 (some 0))),x])
  (h:∀τ:Q1,Qc P τ .append ts [.c (.t (.imm [] 0 (some 0))),x]=some (if n=0 then (.c (.t (.imm [] 0 (some 0))),τ) else (.c (.sl ⟨τ.length,0,0⟩ n none),τ++[o]))) (ho:n=0->o.cs=[]):
  StepN P ρ (.call { callee:=.builtin .append,args:=args,argTypes:=ts }) o n:=λoo r' τ K hop hr h1 h2=>by
 have he':evl r' args.toList=some [.c (.t (.imm [] 0 (some 0))),x]:=(Xn λy hy=>hr y (by simp[Op.operands,Call.operands];simpa using hy)).trans he;by_cases hn:n=0
 ·refine JT (res:=some (.c (.t (.imm [] 0 (some 0))))) (A':=τ) (by rw[hop];intro f args ts e;cases e) (Jk (λb xT x y yT e=>by rw[hop]at e;cases e) r') ?_ (h2 (ho hn) hn);rw[hop];simp only[opE,he',h τ,AB hn,AD]
 ·refine JT (res:=some (.c (.sl ⟨τ.length,0,0⟩ n none))) (A':=τ++[o]) (by rw[hop];intro f args ts e;cases e) (Jk (λb xT x y yT e=>by rw[hop]at e;cases e) r') ?_ h1;rw[hop];simp only[opE,he',h τ,AE hn,AD]
theorem Xt{E:Env}(hE:Z4 P E){m:Nat}{β:Type}{K:SR->SH->Option β}{b:β}:∀(cs:List COp) {j:Nat} {bef:List Nat} {log log':J0} {q:Nat} {r:SR} {O:SH} {ρ:Q0} {t:Tag (λC' τ=>∃r' A',WR C' r'.den/\WH τ (SH.den A')/\K r' A'=some b)},
  m<=q->KU E N cs j bef log q r O K=some b->LL log' log->Qm ρ r.den->Wl P N m cs j bef log' ρ (SH.den O) (λC' τ=>∃r' A',WR C' r'.den/\WH τ (SH.den A')/\K r' A'=some b) t
 |[],j,bef,log,log',q,r,O,ρ,t,_,h,_,Hr=>⟨r,SH.norm O,Hr.wr,Jw O,h⟩
 |⟨d,op,g,_⟩::os,j,bef,log,log',q,r,O,ρ,t,hq,h,hl,Hr=>by
  simp only[KU]at h;split at h
  ·rename_i hdst;refine⟨hdst,?_⟩;split at h
   ·rename_i ts l c;split at h
    ·rename_i u v hu hv;split at h
     ·rename_i p id0 ep0 es lo0 n cap o ow hmk how;split at h
      ·rename_i r' hw hfree hput
       cases p with
       |false=>cases h
       |true=>
        simp only[A7]at h;have h1:=Zm (O:=[]) hE.ty hmk;obtain⟨n',cap',e1,e2,e3⟩:=KP (o:=o.den) (by simpa [SH.den] using h1);simp only[SV.den,SC.den,AV.c.injEq,Cell.sl.injEq]at e1;obtain⟨_,rfl,rfl⟩:=e1;refine Or.inr (Or.inl ⟨q,n,cap,o.den,_,_,hq,?_,QY Hr rfl hu,QY Hr rfl hv,e2,e3,hl.free hfree,?_⟩)
        ·rw[SH.QT how,ZR hw]
        ·have:=Xt hE os (t:=t) (show m<=q+1 by omega) h (.same _ hl) (Qy Hr rfl hput);rw[SH.JJ,unz_den]at this;simpa [SV.den,SC.den] using this
      ·cases h
     ·cases h
    ·cases h
   ·rename_i e;split at h
    ·rename_i i lay hi;split at h
     ·rename_i z ow hz how;split at h
      ·rename_i r' hw htr hfree hput;obtain⟨z0,hz0,hz1⟩:=YY hz;refine Or.inr (Or.inl ⟨q,[{ cs:=z0.map .t }],_,hq,Nat.one_pos,λi hi=> ?_,λo ho c hc=> ?_,stepA_alloc (hE.ty.ok _ _ _ hi) hz0 q,hl.free hfree,?_⟩)
       ·have:i=0:=(by simpa using hi);subst this;rw[BZ,SH.QT how,ZR hw]
       ·rw[CK]at ho;subst ho;obtain⟨t,_,rfl⟩:=Am.1 hc;exact⟨t,rfl⟩
       ·have:=Xt hE os (t:=t) (show m<=q+1 by omega) h (.same _ hl) (Qy Hr rfl hput);rw[SH.JJ]at this;simpa [SV.den,SC.den,SO.den,hz1,XF,ZJ] using this
      ·cases h
     ·cases h
    ·cases h
   ·split at h
    ·rename_i f args hcall;obtain⟨as',ts,hop,rfl⟩:=Jm hcall;subst hop;split at h
     ·rename_i hh as hcal;split at h
      ·rename_i c x hcx;obtain⟨hc,hx⟩:=XH hcx;split at h
       ·rename_i rs hrs;split at h
        ·rename_i hfree;unfold bindO at h;split at h
         ·rename_i y hy;simp only at h;split at h
          ·rename_i r' hput;have hrd:=((hE.cf hh c hc).rd as O x y rs hx hrs).2 hy;refine Or.inl ?_;simp only[Jh,JY Hr rfl hcal,VY];exact .inl ⟨_,rs,hrd,hl.free hfree,Xt hE os hq h (.same _ hl) (Qy (v:=some _) Hr rfl hput)⟩
          ·cases h
         ·cases h
        ·cases h
       ·split at h
        ·rename_i c2 x2 hcx2 htA;obtain⟨hc2,hx2⟩:=XH hcx2;unfold bindO at h;split at h
         ·rename_i y hy;simp only at h;split at h
          ·rename_i r' htL hwt hpos hfree hput;have hok:=(hE.cf hh c2 hc2).ok as [] x2 y hx2 hy;refine Or.inr (Or.inl ⟨q,SH.den (c2.heap x2 y []),upV [] q (c2.val x2 y []).den,hq,?_,λi hi=> ?_,U1 htL,stepA_call (JY Hr rfl hcal) (U2 htA) (fn_weak hok) (U1 htL) q,?_⟩)
           ·rw[SH.QE];exact ltB hpos
           ·rw[SH.QE]at hi;exact waitsS_ok hwt i hi
           ·rw[SH.QE];refine⟨hl.free hfree,?_⟩;have:=Xt hE os (t:=t) (show m<=q+(c2.heap x2 y []).length by omega) h (.same _ hl) (Qy (v:=some _) Hr rfl hput);rw[setsS_den]at this;simpa [shV_den] using this
          ·cases h
         ·cases h
        ·unfold bindO at h;split at h
         ·rename_i y hy;simp only at h;split at h
          ·rename_i r' hle hfree hput;have hok:=(hE.cf hh c hc).ok as O x y hx hy;refine Or.inl ?_;simp only[Jh,JY Hr rfl hcal,VY];refine .inr ⟨_,SH.den (c.heap x y O),fn_weak hok,?_,?_⟩
           ·rw[SH.QE,SH.QE];exact Au hle
           ·rw[SH.QE,SH.QE];exact⟨hl.free hfree,Xt hE os hq h (.same _ hl) (Qy (v:=some _) Hr rfl hput)⟩
          ·cases h
         ·cases h
      ·cases h
     ·cases h
    ·rename_i hcall;split at h
     ·rename_i ts v hna;split at h
      ·rename_i p id0 ep0 es lo0 n cap0 c new ep1 ow hbi how;split at h
       ·rename_i r' hw hvt hfree hput
        cases p with
        |false=>cases h
        |true=>
         simp only[A7]at h;obtain⟨args,tt,rfl,rfl,hev⟩:=nilApp_some hna;obtain⟨rfl,hn,hE2⟩:=append_any hE.ty hbi hvt;refine Or.inr (Or.inr ⟨tt,q,(SO.arr c new 0).den,n,rfl,hq,?_,λx hx=> ?_,rfl,stepN_append (Zg Hr rfl hev) (fun τ=> ?_) (λh0=> ?_),hl.free hfree,?_⟩)
         ·rw[SH.QT how,ZR hw]
         ·obtain⟨t,_,rfl⟩:=Am.1 hx;exact⟨t,rfl⟩
         ·exact hE2 τ
         ·have:new=[]:=AN.1 (hn.symm.trans h0);subst this;rfl
         ·have:=Xt hE os (t:=t) (show m<=q+1 by omega) h (.same _ hl) (Qy Hr rfl hput);rw[SH.JJ]at this;simpa [SV.den,SC.den] using this
       ·cases h
      ·cases h
     ·split at h
      ·rename_i p v A' hop;split at h
       ·rename_i r' rs ws hput hf;split at h
        ·rename_i hfree
         cases p with
         |false=>cases h
         |true=>exact Or.inl (Uw hE.ty Hr rfl hcall hop hf ⟨hl.free hfree,Xt hE os hq h (.same _ hl) (Qy Hr rfl hput)⟩)
        ·cases h
       ·cases h
      ·cases h
  ·cases h
end
end Go.Abs
