/- A part of the proof. -/
import Derived.Test.YtpbplpgfloaaiaaGreatDoorXS2QSyB
import Derived.Test.YtpbplpgfloaaiaaGreatDoorXS2QAbsZ
set_option linter.all false
namespace Go.Abs
variable [Gl]
inductive LL:JB->JB->Prop
 |nil:LL [] []
 |same (x:Nat×List Nat×List Nat) {l m:JB}:LL l m->LL (x::l) (x::m)
 |drop (i:Nat) (rs ws:List Nat) {l m:JB}:LL l m->LL ((i,[],[])::l) ((i,rs,ws)::m)
def disjN_nil:∀l,XK l []=true:=λl=>by
 induction l with
 |nil=>rfl
 |cons y l ih=>simp[XK,memN,ih]
def LL.free{l m:JB}(h:LL l m){b:Nat}{rs ws:List Nat}(hf:Qx b rs ws m=true):Qx b rs ws l=true:=by
 induction h with
 |nil=>rfl
 |same x _ ih=>obtain⟨i,rs',ws'⟩:=x;simp only[Qx,AJ]at hf⊢;exact⟨hf.1,ih hf.2⟩
 |drop i rs' ws' _ ih=>simp only[Qx,AJ]at hf⊢;exact⟨by simp[XK,disjN_nil],ih hf.2⟩
section
variable {P:Program}{N:Nat}{ro:Option Nat}{n0:Nat}
def Zt{r:SR}{L:Tg}{ρ:QB}(Hr:JE ρ r.den)(hL:r.holds L=true){x:Operand}{v:SV}(h:evS r L x=some v):JN (ev ρ x)=Wb (evS r L x):=by
 rw[Qs Hr hL h,h]
 cases v with
 |c x=>cases x<;>rfl
 |_=>rfl
def Uu{ty:TyT}(hty:ZF P ty){r:SR}{L:Tg}{ρ:QB}(Hr:JE ρ r.den)(hL:r.holds L=true){M:SH}{op:Op}(hc:X6 op=none){res:Option SV}{S':SH}(h:opS true ty r L M op=some (true,res,S'))
  {rs ws:List Nat} (hf:XJ r L M S' op=some (rs,ws)) {K:Option AV->QA->List Nat->List Nat->Prop} {t:Tag K} (hK:K (res.map SV.den) (SH.den S') rs ws):X1 P ρ (SH.den M) op K t:=by
 have hb:∀b xT x y yT,op=.binOp b xT x y yT->JS y=false:=λb xT x y yT e=>by
  subst e;simp only[XJ]at hf;split at hf
  ·cases hf
  ·rename_i h1;exact h1
 have hE:opE P ρ (SH.den M) op=some (res.map SV.den,SH.den S'):=by
  obtain⟨res0,τ,h1,h2⟩:=opS_ok hty Hr hL hb h;have:∀{x:Option AV} {y:QA},Out true (SH.den M) res0 τ x y->res0=x/\τ=y:=λh2=>by
   cases h2 with
   |ZB _ _ h3=>exact h3 rfl
   |own _ h3=>cases h3
  obtain⟨e1,e2⟩:=this h2;rw[h1,e1,e2]
 have hnew:∀{x:Option AV×QA},x=(res.map SV.den,SH.den S')->newIds M S' []=(rs,ws)->newD (SH.den M) x []=(res.map SV.den,SH.den S',rs,ws):=λe hn=>by
  subst e;simp only[newIds]at hn;simp only[newD,SH.QU];split at hn
  ·rename_i hl;rw[AC (eqB hl)];injection hn with h1 h2;subst h1;subst h2;rfl
  ·rename_i hl;rw[AK (UM hl)];injection hn with h1 h2;subst h1;subst h2;rfl
 have plain:opD P ρ (SH.den M) op=(opE P ρ (SH.den M) op).map (λx=>(x.1,x.2,[],[]))->rs=[]->ws=[]->(∀b xT x y yT,op≠.binOp b xT x y yT)->X1 P ρ (SH.den M) op K t:=λh1 h2 h3 h4=>by
  subst h2;subst h3;unfold X1;split
  ·exact absurd rfl (Ys hc _ _ _)
  ·rename_i b xT x y yT;exact absurd rfl (h4 b xT x y yT)
  ·rw[h1,hE];exact hK
 cases op with
 |load u a=>
  simp only[XJ,Kn,A0]at hf;obtain⟨h1,rfl⟩:=hf;simp only[X1,opD,hE,AI,onDraw];have ha:∃v,evS r L a=some v:=by
   simp only[opS]at h;split at h
   ·rename_i i c v h2 h3;exact⟨_,h3⟩
   ·cases h
  obtain⟨v,hv⟩:=ha;rw[Zt Hr hL hv,h1];exact hK
 |store u a x=>
  simp only[XJ,Kn,A0]at hf;obtain⟨h1,h2⟩:=hf;simp only[X1,opD,hE,AI,onDraw];have ha:∃v,evS r L a=some v:=by
   simp only[opS]at h;split at h
   ·rename_i i c v _ h2 h3 h4;exact⟨_,h3⟩
   ·cases h
  obtain⟨v,hv⟩:=ha;have e:ws=rs:=h2.symm.trans h1;subst e;rw[Zt Hr hL hv,h1];exact hK
 |alloc e=>simp only[XJ,Kn]at hf;simp only[X1,opD,hE,AI,hnew rfl hf];exact hK
 |box e x=>simp only[XJ,Kn]at hf;simp only[X1,opD,hE,AI,hnew rfl hf];exact hK
 |makeSlice u l c=>simp only[XJ,Kn]at hf;simp only[X1,opD,hE,AI,hnew rfl hf];exact hK
 |buildSlice u n ps=>simp only[XJ,Kn]at hf;simp only[X1,opD,hE,AI,hnew rfl hf];exact hK
 |slice u x lo hi mx=>
  simp only[XJ,Kn,A0]at hf;obtain⟨h1,rfl⟩:=hf;simp only[X1,opD,hE,AI,onDraw];have ha:∃v,evS r L x=some v:=by
   simp only[opS]at h;split at h
   ·rename_i v _ _ _ h2 _ _ _;exact⟨_,h2⟩
   ·cases h
  obtain⟨v,hv⟩:=ha;rw[Zt Hr hL hv,h1];exact hK
 |binOp b xT x y yT=>have hy:=hb b xT x y yT rfl;simp only[XJ,hy,Kn,A0]at hf;obtain⟨rfl,rfl⟩:=hf;simp only[X1,hy,Ab,Al,opD,hE,AI,onDraw];exact hK
 |call c=>
  obtain⟨callee,args,ts⟩:=c
  cases callee with
  |value f=>cases hc
  |invoke a b=>cases h
  |builtin b=>
   have hargs:∃vs,Ku r L args.toList=some vs:=by
    simp only[opS]at h;split at h
    ·rename_i vs h2;exact⟨vs,h2⟩
    ·cases h
   obtain⟨vs,hvs⟩:=hargs
   cases b with
   |append=>
    simp only[XJ]at hf;split at hf
    ·rename_i s v has;rw[has]at hvs;simp only[Ku]at hvs;split at hvs
     ·rename_i v1 vs1 h1 h2;split at h2
      ·rename_i v2 vs2 h3 h4;have e1:=Zt Hr hL h1;have e2:=Zt Hr hL h3;simp only[X1,opD,has,hE,AI,e1,e2,SH.QU];split at hf
       ·rename_i hl;rw[AC (eqB hl)];injection hf with hf;injection hf with h5 h6;subst h5;subst h6;exact hK
       ·rename_i hl;rw[AK (UM hl)];injection hf with hf;injection hf with h5 h6;subst h5;subst h6;exact hK
      ·cases h2
     ·cases hvs
    ·cases hf
   |cap=>
    simp only[XJ]at hf;split at hf
    ·rename_i s has;rw[has]at hvs;simp only[Ku]at hvs;split at hvs
     ·rename_i v1 vs1 h1 h2;have e1:=Zt Hr hL h1;injection hf with hf;injection hf with h5 h6;subst h5;subst h6;simp only[X1,opD,has,hE,AI,e1];exact hK
     ·cases hvs
    ·cases hf
   |copy=>
    simp only[XJ]at hf;split at hf
    ·rename_i s v has;rw[has]at hvs;simp only[Ku]at hvs;split at hvs
     ·rename_i v1 vs1 h1 h2;split at h2
      ·rename_i v2 vs2 h3 h4;have e1:=Zt Hr hL h1;have e2:=Zt Hr hL h3;injection hf with hf;injection hf with h5 h6;subst h5;subst h6;simp only[X1,opD,has,hE,AI,e1,e2];exact hK
      ·cases h2
     ·cases hvs
    ·cases hf
   |len=>simp only[XJ,Kn,A0]at hf;exact plain rfl hf.1.symm hf.2.symm (λ_ _ _ _ _ e=>by cases e)
   |min=>simp only[XJ,Kn,A0]at hf;exact plain rfl hf.1.symm hf.2.symm (λ_ _ _ _ _ e=>by cases e)
   |max=>simp only[XJ,Kn,A0]at hf;exact plain rfl hf.1.symm hf.2.symm (λ_ _ _ _ _ e=>by cases e)
   |_=>cases hf
 |_=>first
  |(simp only[XJ,Kn,A0]at hf;exact plain rfl hf.1.symm hf.2.symm (λ_ _ _ _ _ e=>by cases e))
  |cases h
def Wd{r:SR}{tg:Tg}{d:Nat}{w b:Bool}(hr0:r.gget d=some (tg,.c (.bo b))){ρ:QB}(Hr:JE ρ r.den):Zz ρ (some (d,w))=some (r.holds ((d,w)::tg)):=by
 have hr:=(SR.Xl hr0).2;have h1:=QB.at_of (Hr _ _ (SR.Qy hr)) (SR.Xl hr0).1;simp only[Zz,h1,YF,SR.Js]
 cases hh:r.holds tg with
 |false=>simp[Ks]
 |true=>simp only[Aq,SV.XL,SC.den_bo,Ks,Bool.true_and,SR.isB,hr];cases w<;>cases b<;>rfl
def WR.set1{v v':AV}(h:WV v v'):WR [(0,v)] [(0,v')]:=λt u hu=>by
 simp only[QB.get]at hu⊢;split at hu
 ·rename_i e;subst e;injection hu with hu;subst hu;exact⟨v,by simp,h⟩
 ·cases hu
def fn_weak{f:FuncId}{args:List AV}{M A':QA}{v':AV}(h:Jw P f args M λv τ=>WV v v'/\WH τ A'):Jw P f args M λv τ=>v=v'/\τ=A':=
 ⟨h.1,λO w cargs hgl hh ha=>Bt (h.2 O w cargs hgl hh ha) λe w' ⟨v,S',I',cv,h1,⟨hv,hσ⟩,h4,h5,h6⟩=>by
  have hg:J0 1 M.length [(0,v)] S' [(0,v')] A':=Qi (WR.set1 hv) hσ
  obtain⟨i'',h7,h8,h9⟩:=hg I' w' { tmps:= #[cv],defers:=[] } h5 ⟨rfl,by decide,(λt x hx=>by
   simp only[QB.get]at hx;split at hx
   ·rename_i e;subst e;injection hx with hx;subst hx;exact h4
   ·cases hx),hgl.step h6⟩
  exact⟨v',A',i'',cv,h1,⟨rfl,rfl⟩,h8.get 0 v' rfl,h7,h9 O M w hh (A5 _) h6⟩⟩
def Ui{b ex:Bool}{ty:TyT}{M S':SH}{t:TypeId}{n:Nat}{ps:List (Nat×SV)}{v:SV}(h:Z8 b ex ty M t n ps=some (v,S'))(hl:S'.length=M.length):S'=M:=by
 unfold Z8 at h
 repeat' (first|(cases h;done)|(simp only[Kn,A0]at h;exact h.2.symm)|(simp only[Kn,A0]at h;rw[<-h.2]at hl;simp at hl;done)|split at h)
def quietR_heap{ty:TyT}{r:SR}{L:Tg}{M S':SH}{op:Op}{p:Bool}{res:Option SV}(hq:quietR op M (opS true ty r L M op)=true)(h:opS true ty r L M op=some (p,res,S')):S'=M:=by
 rw[h]at hq;unfold quietR at hq;split at hq
 ·rename_i hq';exact Kk hq' h
 ·split at hq
  ·rename_i heq _;simp only[Kn,A0]at heq;obtain⟨_,_,rfl⟩:=heq;simp only[opS]at h;split at h
   ·rw[WF]at h;obtain⟨⟨v,τ⟩,h1,h2⟩:=h;simp only[A0]at h2;obtain⟨_,_,rfl⟩:=h2;exact Ui h1 (Bi hq)
   ·cases h
  ·cases hq
def Zh{E:Env}(hE:Zk P E){β:Type}{K:SR->SH->Option β}{b:β}:∀(cs:List COp) {j:Nat} {bef:List Nat} {log log':JB} {r:SR} {M:SH} {ρ:QB} {t:Tag (λR' τ=>∃r' S',WR R' r'.den/\WH τ (SH.den S')/\K r' S'=some b)},
  KU E N cs j bef log r M K=some b->LL log' log->JE ρ r.den->Vk P N cs j bef log' ρ (SH.den M) (λR' τ=>∃r' S',WR R' r'.den/\WH τ (SH.den S')/\K r' S'=some b) t
 |[],j,bef,log,log',r,M,ρ,t,h,_,Hr=>⟨r,SH.norm M,Hr.wr,Xb M,h⟩
 |⟨d,op,g,_⟩::os,j,bef,log,log',r,M,ρ,t,h,hl,Hr=>by
  simp only[KU]at h;split at h
  ·cases h
  ·rename_i hdst;refine⟨hdst,?_⟩;split at h
   ·
    show X1 P ρ (SH.den M) op _ _;split at h
    ·rename_i f args hcall;obtain⟨as',ts,hop,rfl⟩:=Xf hcall;subst hop;split at h
     ·rename_i hh as hcal;split at h
      ·rename_i c x hcx;obtain⟨hc,hx⟩:=XT hcx
       ·
        split at h
        ·rename_i rs hrs;split at h
         ·rename_i hfree;unfold bindO at h;split at h
          ·rename_i y hy;simp only at h;split at h
           ·rename_i r' hput;have hrd:=((hE.cf hh c hc).rd as M x y rs hx hrs).2 hy;simp only[X1,Ju Hr rfl hcal,onOpt];exact .inl ⟨_,rs,hrd,hl.free hfree,Zh hE os h (.same _ hl) (JR (v:=some _) Hr rfl hput)⟩
           ·cases h
          ·cases h
         ·cases h
        ·unfold bindO at h;split at h
         ·rename_i y hy;simp only at h;split at h
          ·rename_i r' hle hfree hput;have hok:=(hE.cf hh c hc).ok as M x y hx hy;simp only[X1,Ju Hr rfl hcal,onOpt];refine .inr ⟨_,SH.den (c.heap x y M),fn_weak hok,?_,?_⟩
           ·rw[SH.QU,SH.QU];exact BQ hle
           ·rw[SH.QU,SH.QU];exact⟨hl.free hfree,Zh hE os h (.same _ hl) (JR (v:=some _) Hr rfl hput)⟩
          ·cases h
         ·cases h
      ·cases h
     ·cases h
    ·rename_i hcall;split at h
     ·rename_i p v S' hop;split at h
      ·rename_i r' rs ws hput hf;split at h
       ·rename_i hfree
        cases p with
        |false=>cases h
        |true=>exact Uu hE.ty Hr rfl hcall hop hf ⟨hl.free hfree,Zh hE os h (.same _ hl) (JR Hr rfl hput)⟩
       ·cases h
      ·cases h
     ·cases h
   ·
    rename_i gd wnt;split at h
    ·rename_i tg b' hget;rw[Wd hget Hr];have skip:∀{r':SR} {v:SV} {rs ws:List Nat},r.holds ((gd,wnt)::tg)=false->r.put d ((gd,wnt)::tg) (some v)=some r'->KU E N os (j+1) bef.tail ((j,rs,ws)::log) r' M K=some b->
       Vk P N os (j+1) bef.tail ((j,[],[])::log') (ρ.drop d) (SH.den M) (λR' τ=>∃r' S',WR R' r'.den/\WH τ (SH.den S')/\K r' S'=some b) t:=λhf hput h'=>
      Zh hE os h' (.drop _ _ _ hl) (VD Hr hf hput)
     split at h
     ·split at h
      ·rename_i r' hput
       cases hf:r.holds ((gd,wnt)::tg) with
       |true=>rw[hf]at h;cases h
       |false=>rw[hf]at h;exact skip hf hput h
      ·cases h
     split at h
     ·rename_i f args hcall;obtain⟨as',ts,hop,rfl⟩:=Xf hcall;subst hop;split at h
      ·rename_i hh as hcal;split at h
       ·rename_i c x hcx;obtain⟨hc,hx⟩:=XT hcx
        ·
         split at h
         ·rename_i rs hrs;split at h
          ·rename_i hfree
           cases hf:r.holds ((gd,wnt)::tg) with
           |false=>
            rw[hf]at h;simp only[A7,bindO]at h;split at h
            ·rename_i r' hput;exact skip hf hput h
            ·cases h
           |true=>
            rw[hf]at h;simp only[A6]at h;unfold bindO at h;split at h
            ·rename_i y hy;simp only at h;split at h
             ·rename_i r' hput;have hrd:=((hE.cf hh c hc).rd as M x y rs hx hrs).2 hy;rw[onGuard,AC rfl];simp only[X1,Ju Hr hf hcal,onOpt];exact .inl ⟨_,rs,hrd,hl.free hfree,Zh hE os h (.same _ hl) (JR (v:=some _) Hr hf hput)⟩
             ·cases h
            ·cases h
          ·cases h
         ·cases h
       ·cases h
      ·cases h
     ·rename_i hcall;split at h
      ·rename_i p v S' hq hop;have hσ:=quietR_heap hq hop;subst hσ;split at h
       ·rename_i r' rs ws hput hf';split at h
        ·rename_i hfree
         cases hf:r.holds ((gd,wnt)::tg) with
         |false=>rw[hf]at h;simp only[Bc,CG,A6]at h;exact skip hf hput h
         |true=>
          rw[hf]at h
          cases p with
          |false=>cases h
          |true=>exact Uu hE.ty Hr hf hcall hop hf' ⟨hl.free hfree,Zh hE os h (.same _ hl) (JR (v:=some v) Hr hf hput)⟩
        ·cases h
       ·cases h
      ·cases h
    ·cases h
def oneZero_ok:∀{c:Ly} {xs:List c.ty},oneZero c xs=true->xs.flatMap c.trees=[.int .u8 0]/\xs.length=1:=by
 intro c xs h;unfold oneZero at h;split at h
 ·rename_i xs;split at h
  ·split at h
   ·have:=Bi h;subst this;exact⟨rfl,rfl⟩
   ·cases h
  ·cases h
 ·cases h
def Zc{o:SO}(h:YR o=true):o.den=Yc:=by
 unfold YR at h;split at h
 ·obtain⟨h1,h2⟩:=oneZero_ok h;simp only[SO.den,AY,Bs,SC.den,h1,h2];rfl
 ·cases h
def unz_den(o:SO):o.unz.den=o.den:=by
 unfold SO.unz;split
 ·rename_i z k n;split
  ·rename_i h;simp only[zB]at h;split at h
   ·rename_i k';have e:=Jm h;subst e;have key:(List.replicate n (0:Int)).flatMap (Ly.int k').trees=Y7 n [T.int k' 0]:=by
     induction n with
     |zero=>rfl
     |succ n ih=>rw[List.replicate_succ,Ac,ih];rfl
    show({ cs:=((List.replicate n (0:Int)).flatMap (Ly.int k').trees).map .t,es:=1,ep:=0 }:Obj)={ cs:=(Y7 n [T.int k' 0]).map .t,es:=1,ep:=0 };rw[key]
   ·cases h
  ·rfl
 ·rfl
def KQ{t:TypeId}{u v:AV}{x:AV}{o:Obj}(h:JJ P [] t u v=some (x,[o])):∃n cap,x=.c (.sl ⟨0,0,0⟩ n cap)/\(∀τ:QA,JJ P τ t u v=some (.c (.sl ⟨τ.length,0,0⟩ n cap),τ++[o]))/\∀c∈o.cs,∃t,c=.t t:=by
 unfold JJ at h;split at h
 ·rename_i i n m h1 h2 h3;split at h
  ·rename_i e hk;split at h
   ·rename_i j hj;split at h
    ·rename_i z hz;split at h
     ·rename_i hc;simp only[Kn,A0,Bf,List.cons.injEq,and_true]at h;obtain⟨rfl,rfl⟩:=h;refine⟨n.toNat,some m.toNat,rfl,fun τ=> ?_,λc hc=> ?_⟩
      ·simp only[JJ,h1,h2,h3,hk,hj,hz];rw[AC hc]
      ·simp only[BR]at hc;obtain⟨t,_,rfl⟩:=hc;exact⟨t,rfl⟩
     ·cases h
    ·cases h
   ·cases h
  ·cases h
 ·cases h
def UK{E:Env}(hE:Zk P E){m:Nat}{β:Type}{K:SR->SH->Option β}{b:β}:∀(cs:List COp) {j:Nat} {bef:List Nat} {log log':JB} {q:Nat} {r:SR} {M:SH} {ρ:QB} {t:Tag (λR' τ=>∃r' S',WR R' r'.den/\WH τ (SH.den S')/\K r' S'=some b)},
  m<=q->Vj E N cs j bef log q r M K=some b->LL log' log->JE ρ r.den->Wk P N m cs j bef log' ρ (SH.den M) (λR' τ=>∃r' S',WR R' r'.den/\WH τ (SH.den S')/\K r' S'=some b) t
 |[],j,bef,log,log',q,r,M,ρ,t,_,h,_,Hr=>⟨r,SH.norm M,Hr.wr,Xb M,h⟩
 |⟨d,op,g,_⟩::os,j,bef,log,log',q,r,M,ρ,t,hq,h,hl,Hr=>by
  simp only[Vj]at h;split at h
  ·rename_i hdst;refine⟨hdst,?_⟩;split at h
   ·rename_i ts l c;split at h
    ·rename_i u v hu hv;split at h
     ·rename_i p id0 ep0 es lo0 n cap o ow hmk how;split at h
      ·rename_i r' hw hfree hput
       cases p with
       |false=>cases h
       |true=>
        simp only[A6]at h;have h1:=Zx (M:=[]) hE.ty hmk;obtain⟨n',cap',e1,e2,e3⟩:=KQ (o:=o.den) (by simpa [SH.den] using h1);simp only[SV.den,SC.den,AV.c.injEq,Cell.sl.injEq]at e1;obtain⟨_,rfl,rfl⟩:=e1;refine Or.inr (Or.inl ⟨q,n,cap,o.den,_,_,hq,?_,Qs Hr rfl hu,Qs Hr rfl hv,e2,e3,hl.free hfree,?_⟩)
        ·rw[SH.Qy how,Zc hw]
        ·have:=UK hE os (t:=t) (show m<=q+1 by omega) h (.same _ hl) (JR Hr rfl hput);rw[SH.Jc,unz_den]at this;simpa [SV.den,SC.den] using this
      ·cases h
     ·cases h
    ·cases h
   ·split at h
    ·rename_i p v S' hcall hop;split at h
     ·rename_i r' rs ws hput hf;split at h
      ·rename_i hfree
       cases p with
       |false=>cases h
       |true=>exact Or.inl (Uu hE.ty Hr rfl hcall hop hf ⟨hl.free hfree,UK hE os hq h (.same _ hl) (JR Hr rfl hput)⟩)
      ·cases h
     ·cases h
    ·cases h
  ·cases h
def shC_den(k:Nat)(c:SC):(shC k c).den=upC [] k c.den:=by
 cases c<;>first
  |rfl
  |simp[shC,SC.den,upC,upR,X4]
  |(simp only[shC,SC.den,upC,Cell.clo.injEq,Ah];exact Ai λr _=>by simp[shR,upR,X4])
def shV_den(k:Nat)(v:SV):(shV k v).den=upV [] k v.den:=by
 have hl:∀l:List SC,(l.map (shC k)).map SC.den=(l.map SC.den).map (upC [] k):=λl=>by rw[BL,BL];exact Ai λc _=>shC_den k c
 cases v with
 |c x=>simp only[shV,SV.den,upV,shC_den]
 |agg xs=>simp only[shV,SV.den,upV,hl]
 |tup xs=>
  simp only[shV,SV.den,upV,AV.tup.injEq];rw[BL,BL];refine Ai λc _=> ?_
  cases c with
  |inl c=>simp only[Function.comp,shP,Wn,upP,shC_den]
  |inr l=>simp only[Function.comp,shP,Wn,upP,hl]
def mv_up(L k:Nat)(v:AV):mvV L k (upV [] L v)=upV [] k v:=by
 have hr:∀r:Ref,mvR L k (upR [] L r)=upR [] k r:=λr=>by obtain⟨id,ep,off⟩:=r;simp[mvR,upR,X4]
 have hc:∀c:Cell,mvC L k (upC [] L c)=upC [] k c:=λc=>by
  cases c with
  |t x=>rfl
  |ptr r=>simp only[upC,mvC,hr]
  |sl r l c=>simp only[upC,mvC,hr]
  |clo f rs=>simp only[upC,mvC,Cell.clo.injEq,Ah];rw[BL];exact Ai λr _=>hr r
 have hl:∀l:List Cell,(l.map (upC [] L)).map (mvC L k)=l.map (upC [] k):=λl=>by rw[BL];exact Ai λc _=>hc c
 cases v with
 |c x=>simp only[upV,mvV,hc]
 |agg xs=>simp only[upV,mvV,hl]
 |tup xs=>
  simp only[upV,mvV,AV.tup.injEq];rw[BL];refine Ai λc _=> ?_
  cases c with
  |inl c=>simp only[Function.comp,upP,mvP,hc]
  |inr l=>simp only[Function.comp,upP,mvP,hl]
def treesO_ok{o:SO}(h:treesO o=true):∀c∈o.den.cs,∃t,c=.t t:=λc hc=>by
 cases o with
 |st cs es ep=>obtain⟨ts,_,h1⟩:=Wq h;simp only[SO.den]at hc;rw[h1]at hc;obtain⟨t,_,rfl⟩:=BR.1 hc;exact⟨t,rfl⟩
 |arr c xs ep=>obtain⟨t,_,rfl⟩:=BR.1 hc;exact⟨t,rfl⟩
 |zer z c n=>obtain⟨t,_,rfl⟩:=BR.1 hc;exact⟨t,rfl⟩
 |opn c xs cs ys ep=>cases h
def Wv:∀{τ:SH},treesL τ=true->∀o∈SH.den τ,∀c∈o.cs,∃t,c=.t t
 |[],_,o,ho=>by cases ho
 |o::τ,h,o',ho=>by
  simp only[treesL]at h;split at h
  ·rename_i h1;rcases AT.1 ho with rfl|ho
   ·exact treesO_ok h1
   ·exact Wv h o' ho
  ·cases h
def Ww:∀{as:List SV},Wx as=true->(as.map SV.den).all AV.isT=true
 |[],_=>rfl
 |.c x::l,h=>by
  simp only[Wx]at h;split at h
  ·rename_i h1;obtain⟨t,h2⟩:=SC.WW h1;simp only[AY,Ca,SV.den,h2,Ww h,AV.isT,Cell.isT,AH]
  ·cases h
 |.agg xs::l,h=>by
  simp only[Wx]at h;split at h
  ·rename_i h1;obtain⟨ts,_,h2⟩:=Wq h1;have:(ts.map Cell.t).all Cell.isT=true:=(by simp[Cell.isT]);simp only[AY,Ca,SV.den,h2,Ww h,AV.isT,this,AH]
  ·cases h
 |.tup _::l,h=>by cases h
def waitsS_ok{M:SH}:∀{n q:Nat},waitsS M q n=true->∀i,i<n->(SH.den M)[q+i]? =some Yc
 |0,q,_,i,hi=>by omega
 |n+1,q,h,i,hi=>by
  simp only[waitsS]at h;split at h
  ·rename_i o ho;split at h
   ·rename_i hw
    cases i with
    |zero=>rw[BK,SH.Qy ho,Zc hw]
    |succ i=>have:=waitsS_ok h i (by omega);rwa [show q+(i+1)=q+1+i by omega]
   ·cases h
  ·cases h
def setsS_den:∀(os:List SO) (q:Nat) (M:SH),SH.den (setsS q os M)=XQ q (SH.den os) (SH.den M)
 |[],_,_=>rfl
 |o::os,q,M=>by simp only[setsS];rw[setsS_den os (q+1),SH.Jc];rfl
def stepA_alloc{r:QB}{e:TypeId}{i:JD}{z:List T}(hi:tinf P e=some i)(hz:i.zero=some z)(k:Nat):StepA P r (.alloc e) [{ cs:=z.map .t }] k (.c (.ptr ⟨k,0,0⟩)):=λo r' τ K hop _ hK=>by refine Jr (res:=some (.c (.ptr ⟨τ.length,0,0⟩))) (S':=τ++[{ cs:=z.map .t }]) (by rw[hop];intro f args ts e;cases e) (Jf (λb xT x y yT e=>by rw[hop]at e;cases e) r') ?_ (hK _ (by simp[mvV,mvC,mvR]));rw[hop];simp only[opE,hi,hz,Ko]
def stepA_call{r:QB}{f:Operand}{args:Array Operand}{ts:Array TypeId}{g:FuncId}{as:List AV}{x:AV}{os:QA}(hc:callE r f args.toList=some (g,as))(ha:as.all AV.isT=true)
  (h:Jw P g as [] λv τ=>v=x/\τ=os) (ho:∀o∈os,∀c∈o.cs,∃t,c=.t t) (k:Nat):StepA P r (.call { callee:=.value f,args:=args,argTypes:=ts }) os k (upV [] k x):=λo r' τ K hop hr hK=>by
 unfold stepOk;rw[hop];simp only;have h1:ev r' f=ev r f:=hr f (by simp[Op.operands,Call.operands]);have h2:evl r' args.toList=evl r args.toList:=XD λy hy=>hr y (by simp[Op.operands,Call.operands];exact .inr (by simpa using hy));rw[h1,h2];unfold callE at hc;split at hc
 ·rename_i fv as0 e1 e2
  ·try rw[e1,e2]
   try simp only[hc]
   have hos:os.map (upO [] τ.length)=os:=(by refine(Ai λo hmem=> ?_).trans (List.map_id os);obtain⟨cs,es,ep⟩:=o;have:cs.map (upC [] τ.length)=cs:=(by refine(Ai λc hc=> ?_).trans (List.map_id cs);obtain⟨t,rfl⟩:=ho _ hmem c hc;rfl);simp[upO,this]);refine(KE (M:=τ) (args:=as) [] List.nodup_nil rfl (λk i o hk=>by simp at hk) (VV ha).symm h).mono λv S' ⟨v0,A',⟨h3,h4⟩,h5,h6⟩=> ?_;subst h3;subst h4;rw[h6,h5];have:Z9 [] τ.length τ A'=τ++A':=(by simp only[Z9,Jd,CZ,AW,hos]);rw[this];exact hK _ (mv_up _ _ _)
 ·cases hc
def firstE_tree{τ M:QA}{es n:Nat}{x:T}:JF τ es n (.c (.t x))=JF M es n (.c (.t x)):=by cases x<;>rfl
def nilApp_some{r:SR}{d:Option Nat}{op:Op}{ts:Array TypeId}{v:SC}(h:nilApp r d op=some (ts,v)):∃args tt,op=.call { callee:=.builtin .append,args:=args,argTypes:=ts }/\d=some tt/\Ku r [] args.toList=some [.c .nils,.c v]:=by
 unfold nilApp at h;split at h
 ·rename_i args ts';split at h
  ·rename_i tt v' he;injection h with h;injection h with h1 h2;subst h1;subst h2;exact⟨_,_,rfl,rfl,he⟩
  ·cases h
 ·cases h
def append_any{ty:TyT}(hty:ZF P ty){ts:Array TypeId}{y:SC}{a b es lo n ep:Nat}{cap:Option Nat}{c:Ly}{new:List c.ty}(h:Z7 false ty [] .append ts [.c .nils,.c y]=some (true,.c (.sl a b es lo n cap),[.arr c new ep]))(hy:y.isT=true):
  es=c.size/\n=new.length/\∀τ:QA,Qu P τ .append ts [.c (.t (.imm [] 0 (some 0))),(SV.c y).den]=some (if n=0 then (.c (.t (.imm [] 0 (some 0))),τ) else (.c (.sl ⟨τ.length,0,0⟩ n none),τ++[(SO.arr c new 0).den])):=by
 obtain⟨tr,htr⟩:=SC.WW hy;have hone:∀c0:Ly,oneS [] c0 (.c y)=none:=λc0=>by cases y<;>first|rfl|cases hy
 simp only[Z7]at h;split at h
 ·rename_i t u ht hu;split at h
  ·rename_i i lay hi;have hap:KG false ty [] t (.c .nils) (.c y)=some (true,.c (.sl a b es lo n cap),[.arr c new ep]):=by
    split at h
    ·exact h
    ·exact h
    ·cases h
   have hkd:(∃e,i.kind=.slice e)\/i.kind=.string:=by
    split at h
    ·rename_i e hk;exact .inl ⟨e,hk⟩
    ·rename_i hk;exact .inr hk
    ·cases h
   unfold KG at hap;split at hap
   ·rename_i i2 c1 hi2;split at hap
    ·rename_i e hk;split at hap
     ·rename_i j c2 hj;obtain⟨hl1,z,hz,hl2⟩:=hty.lay _ _ _ hj;have hzl:j.size=z.length:=(by rw[hl1];have:=hl2.length;rw[AE,AE,Ly.QW]at this;exact this.symm);have hpos:0<j.size:=(by rw[hl1];exact c2.size_pos);split at hap
      ·rename_i p m new2 hall;simp only[Kn,A0,AJ,Bf,List.cons.injEq,and_true,SV.c.injEq,SC.sl.injEq,SO.arr.injEq]at hap;obtain⟨⟨hp,hr⟩,⟨_,_,rfl,_,rfl,_⟩,rfl,hnew,_⟩:=hap;have hnew:=eq_of_heq hnew;subst hnew;subst hp;obtain⟨f1,f2,f3⟩:=allS_ok hall;refine⟨rfl,f2.symm,fun τ=> ?_⟩;have f4:JF τ j.size m (SV.c y).den=some ((new2.flatMap c2.trees).map .t):=(by rw[hl1];simp only[SV.den,htr]at f3⊢;rw[firstE_tree (M:=SH.den [])];exact f3);have key:Jk P τ t (.c (.t (.imm [] 0 (some 0)))) (SV.c y).den=some (if m=0 then (.c (.t (.imm [] 0 (some 0))),τ) else (.c (.sl ⟨τ.length,0,0⟩ m none),τ++[(SO.arr c2 new2 0).den])):=by
        simp only[Jk,hty.ok _ _ _ hi2,hk,hty.ok _ _ _ hj,hz,f1,f4];rw[AC ⟨hzl,hpos⟩,AC ⟨trivial,by simp,by rw[AF];exact ZW hr⟩];by_cases hm:m=0
        ·rw[AC hm,AC hm]
        ·rw[AK hm,AK hm];simp[SO.den,hl1]
       rcases hkd with ⟨e',hk'⟩|hk'
       ·simp only[Qu,ht,hu,hty.ok _ _ _ hi,hk'];exact key
       ·simp only[Qu,ht,hu,hty.ok _ _ _ hi,hk'];exact key
      ·rw[hone]at hap;cases hap
     ·cases hap
    ·cases hap
   ·cases hap
  ·cases h
 ·cases h
def stepN_append{ρ:QB}{args:Array Operand}{ts:Array TypeId}{o:Obj}{n:Nat}{x:AV}(he:evl ρ args.toList=some [.c (.t (.imm [] 0 (some 0))),x])
  (h:∀τ:QA,Qu P τ .append ts [.c (.t (.imm [] 0 (some 0))),x]=some (if n=0 then (.c (.t (.imm [] 0 (some 0))),τ) else (.c (.sl ⟨τ.length,0,0⟩ n none),τ++[o]))) (ho:n=0->o.cs=[]):
  StepN P ρ (.call { callee:=.builtin .append,args:=args,argTypes:=ts }) o n:=λoo r' τ K hop hr h1 h2=>by
 have he':evl r' args.toList=some [.c (.t (.imm [] 0 (some 0))),x]:=(XD λy hy=>hr y (by simp[Op.operands,Call.operands];simpa using hy)).trans he;by_cases hn:n=0
 ·refine Jr (res:=some (.c (.t (.imm [] 0 (some 0))))) (S':=τ) (by rw[hop];intro f args ts e;cases e) (Jf (λb xT x y yT e=>by rw[hop]at e;cases e) r') ?_ (h2 (ho hn) hn);rw[hop];simp only[opE,he',h τ,AC hn,AI]
 ·refine Jr (res:=some (.c (.sl ⟨τ.length,0,0⟩ n none))) (S':=τ++[o]) (by rw[hop];intro f args ts e;cases e) (Jf (λb xT x y yT e=>by rw[hop]at e;cases e) r') ?_ h1;rw[hop];simp only[opE,he',h τ,AK hn,AI]
def liveG_ok{r:SR}{g:Option (Nat×Bool)}(h:liveG r g=true){ρ:QB}(Hr:JE ρ r.den):Zz ρ g=some true:=by
 cases g with
 |none=>rfl
 |some g=>
  obtain⟨d,w⟩:=g;simp only[liveG]at h;split at h
  ·rename_i tg b hg;rw[Wd hg Hr,h]
  ·cases h
def Z6{E:Env}(hE:Zk P E){m:Nat}{β:Type}{K:SR->SH->Option β}{b:β}:∀(cs:List COp) {j:Nat} {bef:List Nat} {log log':JB} {q:Nat} {r:SR} {M:SH} {ρ:QB} {t:Tag (λR' τ=>∃r' S',WR R' r'.den/\WH τ (SH.den S')/\K r' S'=some b)},
  m<=q->KT E N cs j bef log q r M K=some b->LL log' log->JE ρ r.den->Wk P N m cs j bef log' ρ (SH.den M) (λR' τ=>∃r' S',WR R' r'.den/\WH τ (SH.den S')/\K r' S'=some b) t
 |[],j,bef,log,log',q,r,M,ρ,t,_,h,_,Hr=>⟨r,SH.norm M,Hr.wr,Xb M,h⟩
 |⟨d,op,g,_⟩::os,j,bef,log,log',q,r,M,ρ,t,hq,h,hl,Hr=>by
  simp only[KT]at h;split at h
  ·rename_i hdst hlg;refine⟨hdst,?_⟩;rw[liveG_ok hlg Hr,YP];split at h
   ·rename_i ts l c;split at h
    ·rename_i u v hu hv;split at h
     ·rename_i p id0 ep0 es lo0 n cap o ow hmk how;split at h
      ·rename_i r' hw hfree hput
       cases p with
       |false=>cases h
       |true=>
        simp only[A6]at h;have h1:=Zx (M:=[]) hE.ty hmk;obtain⟨n',cap',e1,e2,e3⟩:=KQ (o:=o.den) (by simpa [SH.den] using h1);simp only[SV.den,SC.den,AV.c.injEq,Cell.sl.injEq]at e1;obtain⟨_,rfl,rfl⟩:=e1;refine Or.inr (Or.inl ⟨q,n,cap,o.den,_,_,hq,?_,Qs Hr rfl hu,Qs Hr rfl hv,e2,e3,hl.free hfree,?_⟩)
        ·rw[SH.Qy how,Zc hw]
        ·have:=Z6 hE os (t:=t) (show m<=q+1 by omega) h (.same _ hl) (JR Hr rfl hput);rw[SH.Jc,unz_den]at this;simpa [SV.den,SC.den] using this
      ·cases h
     ·cases h
    ·cases h
   ·rename_i e;split at h
    ·rename_i i lay hi;split at h
     ·rename_i z ow hz how;split at h
      ·rename_i r' hw htr hfree hput;obtain⟨z0,hz0,hz1⟩:=Yi hz;refine Or.inr (Or.inl ⟨q,[{ cs:=z0.map .t }],_,hq,Nat.one_pos,λi hi=> ?_,λo ho c hc=> ?_,stepA_alloc (hE.ty.ok _ _ _ hi) hz0 q,hl.free hfree,?_⟩)
       ·have:i=0:=(by simpa using hi);subst this;rw[BK,SH.Qy how,Zc hw]
       ·rw[Ae]at ho;subst ho;obtain⟨t,_,rfl⟩:=BR.1 hc;exact⟨t,rfl⟩
       ·have:=Z6 hE os (t:=t) (show m<=q+1 by omega) h (.same _ hl) (JR Hr rfl hput);rw[SH.Jc]at this;simpa [SV.den,SC.den,SO.den,hz1,XQ,ZS] using this
      ·cases h
     ·cases h
    ·cases h
   ·split at h
    ·rename_i f args hcall;obtain⟨as',ts,hop,rfl⟩:=Xf hcall;subst hop;split at h
     ·rename_i hh as hcal;split at h
      ·rename_i c x hcx;obtain⟨hc,hx⟩:=XT hcx;split at h
       ·rename_i rs hrs;split at h
        ·rename_i hfree;unfold bindO at h;split at h
         ·rename_i y hy;simp only at h;split at h
          ·rename_i r' hput;have hrd:=((hE.cf hh c hc).rd as M x y rs hx hrs).2 hy;refine Or.inl ?_;simp only[X1,Ju Hr rfl hcal,onOpt];exact .inl ⟨_,rs,hrd,hl.free hfree,Z6 hE os hq h (.same _ hl) (JR (v:=some _) Hr rfl hput)⟩
          ·cases h
         ·cases h
        ·cases h
       ·split at h
        ·rename_i c2 x2 hcx2 htA;obtain⟨hc2,hx2⟩:=XT hcx2;unfold bindO at h;split at h
         ·rename_i y hy;simp only at h;split at h
          ·rename_i r' htL hwt hpos hfree hput;have hok:=(hE.cf hh c2 hc2).ok as [] x2 y hx2 hy;refine Or.inr (Or.inl ⟨q,SH.den (c2.heap x2 y []),upV [] q (c2.val x2 y []).den,hq,?_,λi hi=> ?_,Wv htL,stepA_call (Ju Hr rfl hcal) (Ww htA) (fn_weak hok) (Wv htL) q,?_⟩)
           ·rw[SH.QU];exact ltB hpos
           ·rw[SH.QU]at hi;exact waitsS_ok hwt i hi
           ·rw[SH.QU];refine⟨hl.free hfree,?_⟩;have:=Z6 hE os (t:=t) (show m<=q+(c2.heap x2 y []).length by omega) h (.same _ hl) (JR (v:=some _) Hr rfl hput);rw[setsS_den]at this;simpa [shV_den] using this
          ·cases h
         ·cases h
        ·unfold bindO at h;split at h
         ·rename_i y hy;simp only at h;split at h
          ·rename_i r' hle hfree hput;have hok:=(hE.cf hh c hc).ok as M x y hx hy;refine Or.inl ?_;simp only[X1,Ju Hr rfl hcal,onOpt];refine .inr ⟨_,SH.den (c.heap x y M),fn_weak hok,?_,?_⟩
           ·rw[SH.QU,SH.QU];exact BQ hle
           ·rw[SH.QU,SH.QU];exact⟨hl.free hfree,Z6 hE os hq h (.same _ hl) (JR (v:=some _) Hr rfl hput)⟩
          ·cases h
         ·cases h
      ·cases h
     ·cases h
    ·rename_i hcall;split at h
     ·rename_i ts v hna;split at h
      ·rename_i p id0 ep0 es lo0 n cap0 c new ep1 ow hbi how;split at h
       ·rename_i r' hw hvt hfree hput
        cases p with
        |false=>cases h
        |true=>
         simp only[A6]at h;obtain⟨args,tt,rfl,rfl,hev⟩:=nilApp_some hna;obtain⟨rfl,hn,hE2⟩:=append_any hE.ty hbi hvt;refine Or.inr (Or.inr ⟨tt,q,(SO.arr c new 0).den,n,rfl,hq,?_,λx hx=> ?_,rfl,stepN_append (ZM Hr rfl hev) (fun τ=> ?_) (λh0=> ?_),hl.free hfree,?_⟩)
         ·rw[SH.Qy how,Zc hw]
         ·obtain⟨t,_,rfl⟩:=BR.1 hx;exact⟨t,rfl⟩
         ·exact hE2 τ
         ·have:new=[]:=Au.1 (hn.symm.trans h0);subst this;rfl
         ·have:=Z6 hE os (t:=t) (show m<=q+1 by omega) h (.same _ hl) (JR Hr rfl hput);rw[SH.Jc]at this;simpa [SV.den,SC.den] using this
       ·cases h
      ·cases h
     ·split at h
      ·rename_i p v S' hop;split at h
       ·rename_i r' rs ws hput hf;split at h
        ·rename_i hfree
         cases p with
         |false=>cases h
         |true=>exact Or.inl (Uu hE.ty Hr rfl hcall hop hf ⟨hl.free hfree,Z6 hE os hq h (.same _ hl) (JR Hr rfl hput)⟩)
        ·cases h
       ·cases h
      ·cases h
  ·cases h
end
end Go.Abs
