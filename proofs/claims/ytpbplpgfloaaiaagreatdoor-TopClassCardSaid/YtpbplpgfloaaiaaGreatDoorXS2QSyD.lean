/- A part of the proof. -/
import Derived.Test.YtpbplpgfloaaiaaGreatDoorXS2QSyC
set_option linter.all false
namespace Go.Abs
variable [Gl]
def Xr:CC->Nat->List (Nat×CC)
 |.seq a b,i=>Xr a i++Xr b (i+a.nl)
 |.cond _ a b,i=>Xr a i++Xr b (i+a.nl)
 |.block _ a,i=>Xr a i
 |.loop a,i=>[(i,a)]
 |.scp a,i=>Xr a i
 |_,_=>[]
def QO(P:Program)(N:Nat)(ro:Option Nat)(n0:Nat)(B:CC)(u:QT)(yk:Option YI:=none):Prop:=∀c ks ks',strip c ks=some (B,ks')->SaysU (JQ P N ro n0 yk (.loop c)) u
def QX(P:Program)(N:Nat)(ro:Option Nat)(n0:Nat)(E:Env)(l:List (Nat×CC))(yk:Option YI:=none):Prop:=∀p∈l,∀lp,E.lp p.1=some lp->QO P N ro n0 p.2 lp yk
def RngOkS(P:Program)(N n0:Nat)(f:Operand)(ps:Array Tmp)(A B:CC)(u:QT)(yk:Option YI:=none):Prop:=
 ∀a b ks ks' ks'',strip a ks=some (A,ks')->strip b ks'=some (B,ks'')->SaysU (JQ P N none n0 yk (.rangeFunc f ps a b)) u
def Jb(P:Program)(N:Nat)(ro:Option Nat)(n0:Nat)(E:Env)(yk:Option YI):CC->Nat->Prop
 |.seq a b,i=>Jb P N ro n0 E yk a i/\Jb P N ro n0 E yk b (i+a.nl)
 |.cond _ a b,i=>Jb P N ro n0 E yk a i/\Jb P N ro n0 E yk b (i+a.nl)
 |.block _ a,i=>Jb P N ro n0 E yk a i
 |.rng f ps a b,i=>ro=none/\∀u,E.lp i=some u->RngOkS P N n0 f ps a b u yk
 |.scp a,i=>Jb P N ro n0 E yk a i
 |_,_=>True
def Uh:CC->Bool
 |.seq a b=>Uh a||Uh b
 |.cond _ a b=>Uh a||Uh b
 |.block _ a=>Uh a
 |.rng .. =>true
 |.scp a=>Uh a
 |_=>false
def Jb.no{P:Program}{N:Nat}{ro:Option Nat}{n0:Nat}{E:Env}{yk:Option YI}:∀{C:CC} {i:Nat},Uh C=false->Jb P N ro n0 E yk C i
 |.seq a b,i,h=>by simp only[Uh,CH]at h;exact⟨Jb.no h.1,Jb.no h.2⟩
 |.cond _ a b,i,h=>by simp only[Uh,CH]at h;exact⟨Jb.no h.1,Jb.no h.2⟩
 |.block _ a,i,h=>Jb.no (C:=a) h
 |.scp a,i,h=>Jb.no (C:=a) h
 |.lbl,_,_=>trivial
 |.rng ..,_,h=>by cases h
 |.skip,_,_=>trivial
 |.reg _,_,_=>trivial
 |.drw _ _,_,_=>trivial
 |.loop _,_,_=>trivial
 |.exit _,_,_=>trivial
 |.ret,_,_=>trivial
def YM:∀{C:CC},C.nl=0->∀i,Xr C i=[]
 |.seq a b,h,i=>by simp only[CC.nl]at h;simp only[Xr,YM (C:=a) (by omega),YM (C:=b) (by omega),Bn]
 |.cond _ a b,h,i=>by simp only[CC.nl]at h;simp only[Xr,YM (C:=a) (by omega),YM (C:=b) (by omega),Bn]
 |.block _ a,h,i=>YM (C:=a) h i
 |.scp a,h,i=>YM (C:=a) h i
 |.loop a,h,i=>by simp only[CC.nl]at h;omega
 |.lbl,_,_=>rfl
 |.rng ..,_,_=>rfl
 |.skip,_,_=>rfl
 |.reg _,_,_=>rfl
 |.drw _ _,_,_=>rfl
 |.exit _,_,_=>rfl
 |.ret,_,_=>rfl
def YV:∀{C:CC},C.nl=0->Uh C=false
 |.seq a b,h=>by simp only[CC.nl]at h;simp only[Uh,YV (C:=a) (by omega),YV (C:=b) (by omega),Bool.or_false]
 |.cond _ a b,h=>by simp only[CC.nl]at h;simp only[Uh,YV (C:=a) (by omega),YV (C:=b) (by omega),Bool.or_false]
 |.block _ a,h=>YV (C:=a) h
 |.scp a,h=>YV (C:=a) h
 |.rng ..,h=>by simp only[CC.nl]at h;omega
 |.loop _,_=>rfl
 |.lbl,_=>rfl
 |.skip,_=>rfl
 |.reg _,_=>rfl
 |.drw _ _,_=>rfl
 |.exit _,_=>rfl
 |.ret,_=>rfl
def Jb.nl{P:Program}{N:Nat}{ro:Option Nat}{n0:Nat}{E:Env}{yk:Option YI}{C:CC}{i:Nat}(h:C.nl=0):Jb P N ro n0 E yk C i:=Jb.no (YV h)
section
variable {P:Program}{N:Nat}{ro:Option Nat}{n0:Nat}{yk:Option YI}
def nok(o:COp):COp:={ o with k:=[] }
def strip_nok{all:Array Oper}:∀{os:List Oper} {ks:List (List Nat)} {cs:List COp},stripOps all os ks=some cs->stripOps all os []=some (cs.map nok)
 |[],ks,cs,h=>by simp only[stripOps,Kn]at h;subst h;rfl
 |o::os,ks,cs,h=>by
  simp only[stripOps]at h⊢;split at h
  ·rename_i g cs' hg hcs;injection h with h;subst h;rw[hg,List.tail_nil,strip_nok hcs];rfl
  ·cases h
def nrm_quiet{op:Op}{M:SH}(h:quiet op=true):nrm op M=M:=by cases op<;>first|rfl|cases h
def U5{E:Env}:∀{cs:List COp} {r r1:SR} {M:SH},opsM E.ty N cs r M=some (true,r1)->Yn E N (cs.map nok) r M (λr M=>some (r,M))=some (r1,SH.norm M)
 |[],r,r1,M,h=>by simp only[opsM,Kn,A0,Ah]at h;subst h;rfl
 |⟨d,op,g,k⟩::os,r,r1,M,h=>by
  simp only[opsM]at h;split at h
  ·rename_i h1 h3 h4;split at h
   ·split at h
    ·rename_i p v S' hop;have hσ:=Kk h4 hop;subst hσ;split at h
     ·rename_i r' hput;split at h
      ·rename_i q r'' hrest;simp only[Kn,A0,AJ]at h;obtain⟨⟨rfl,rfl⟩,rfl⟩:=h;simp only[AY,nok,Yn,WU h3,h1,h3,hop,hput,A6,SR.kill,nrm_quiet h4];exact U5 hrest
      ·cases h
     ·cases h
    ·cases h
   ·split at h
    ·rename_i hg;split at h
     ·rename_i p v S' hop;split at h
      ·rename_i r' hput;split at h
       ·rename_i q r'' hrest;simp only[Kn,A0,AJ]at h;obtain⟨⟨hp,rfl⟩,rfl⟩:=h;simp only[AY,nok,Yn,WU h3,deadG,h1,h3,h4,hg,hop,hput,hp,A6,SR.kill];exact U5 hrest
       ·cases h
      ·cases h
     ·cases h
    ·cases h
  ·cases h
def put_keep{r r':SR}{d:Option Nat}{L:Tg}{v:Option SV}(h:r.put d L v=some r'){t:Nat}{u:AV}(ht:d≠some t)(hu:r.den.get t=some u):r'.den.get t=some u:=by
 cases d with
 |none=>simp only[SR.put,Kn]at h;subst h;exact hu
 |some d=>
  have hne:d≠t:=λe=>ht (by rw[e]);simp only[SR.put]at h;split at h
  ·rename_i h1 h2;obtain⟨tg,v',h3,rfl⟩:=Zi hu;have key:∀x:Tg×SV,(r.set d x).den.get t=some (r.dv tg v'):=λx=>(by have hc:∀t,t≠d->(r.set d x).get t=r.get t:=λt ht=>SR.J7 r _ (Cf ht);rw[SR.Qy ((hc t (Cf hne)).trans h3)];congr 1;exact YG (X7 hc (SR.Yv h1 h3)));split at h
   ·injection h with h;subst h;exact key _
   ·injection h with h;subst h;exact key _
  ·cases h
def U6{ty:TyT}:∀{cs:List COp} {r r1:SR} {M:SH} {p:Bool},opsM ty N cs r M=some (p,r1)->∀{t:Nat} {u:AV},t∉dstsOf cs->r.den.get t=some u->r1.den.get t=some u
 |[],r,r1,M,p,h,t,u,_,hu=>by simp only[opsM,Kn,A0]at h;obtain⟨_,rfl⟩:=h;exact hu
 |⟨d,op,g,k⟩::os,r,r1,M,p,h,t,u,ht,hu=>by
  have hd:d≠some t/\t∉dstsOf os:=by
   simp only[dstsOf]at ht
   cases d with
   |none=>exact⟨by simp,ht⟩
   |some d=>simp only[AT,not_or]at ht;exact⟨by simpa using Cf ht.1,ht.2⟩
  simp only[opsM]at h;split at h
  ·split at h
   ·split at h
    ·split at h
     ·rename_i r' hput;split at h
      ·rename_i q r'' hrest;simp only[Kn,A0]at h;obtain⟨_,rfl⟩:=h;exact U6 hrest hd.2 (put_keep hput hd.1 hu)
      ·cases h
     ·cases h
    ·cases h
   ·split at h
    ·split at h
     ·split at h
      ·rename_i r' hput;split at h
       ·rename_i q r'' hrest;simp only[Kn,A0]at h;obtain⟨_,rfl⟩:=h;exact U6 hrest hd.2 (put_keep hput hd.1 hu)
       ·cases h
      ·cases h
     ·cases h
    ·cases h
  ·cases h
def set_keep{r:SR}{d:Nat}{x:Tg×SV}(hf:r.free d=true){t:Nat}{u:AV}(hne:t≠d)(hu:r.den.get t=some u):(r.set d x).den.get t=some u:=by obtain⟨tg,v',h3,rfl⟩:=Zi hu;have hc:∀t,t≠d->(r.set d x).get t=r.get t:=λt ht=>SR.J7 r _ (Cf ht);rw[SR.Qy ((hc t hne).trans h3)];congr 1;exact YG (X7 hc (SR.Yv hf h3))
def del_keep{r:SR}{d:Nat}(hf:r.free d=true){t:Nat}{u:AV}(hne:t≠d)(hu:r.den.get t=some u):(r.del d).den.get t=some u:=by obtain⟨tg,v',h3,rfl⟩:=Zi hu;have hc:∀t,t≠d->(r.del d).get t=r.get t:=λt ht=>SR.YW r (Cf ht);rw[SR.Qy ((hc t hne).trans h3)];congr 1;exact YG (X7 hc (SR.Yv hf h3))
def Zq{b:Bool}{r1 r2:SR}:∀{ts:List Nat} {r r':SR},Zw b r1 r2 ts r=some r'->∀{t:Nat} {u:AV},t∉ts->r.den.get t=some u->r'.den.get t=some u
 |[],r,r',h,t,u,_,hu=>by simp only[Zw,Kn]at h;subst h;exact hu
 |d::ts,r,r',h,t,u,ht,hu=>by
  simp only[AT,not_or]at ht;simp only[Zw]at h;split at h
  ·rename_i hf;split at h
   ·split at h
    ·exact Zq h ht.2 (set_keep hf ht.1 hu)
    ·exact Zq h ht.2 (del_keep hf ht.1 hu)
   ·exact Zq h ht.2 (del_keep hf ht.1 hu)
  ·cases h
def SO.U8(o:SO):o.norm.norm=o.norm:=by
 cases o with
 |zer z c n=>
  cases h:zB c z with
  |true=>simp only[SO.norm,h]
  |false=>simp only[SO.norm,h]
 |opn c xs cs ys ep=>
  cases h:c.enc false cs with
  |some y=>simp only[SO.norm,h]
  |none=>simp only[SO.norm,h]
 |_=>rfl
def SH.U8(M:SH):SH.norm (SH.norm M)=SH.norm M:=by
 have hm:(M.map SO.norm).map SO.norm=M.map SO.norm:=by rw[BL];exact Ai λo _=>SO.U8 o
 unfold SH.norm
 cases h:anyZ M with
 |false=>simp only[h]
 |true=>
  simp only;split
  ·exact hm
  ·rfl
def runM_keep{ty:TyT}:∀{C:CC} {r r1:SR} {M:SH} {p:Bool},runM ty N C r M=some (p,r1)->∀{t:Nat} {u:AV},t∉writes C->r.den.get t=some u->r1.den.get t=some u:=by
 intro C
 induction C with
 |skip=>intro r r1 M p h t u _ hu;simp only[runM,Kn,A0]at h;obtain⟨_,rfl⟩:=h;exact hu
 |reg ops=>intro r r1 M p h t u ht hu;exact U6 h ht hu
 |seq a b iha ihb=>
  intro r r1 M p h t u ht hu;simp only[writes,Ak,not_or]at ht;simp only[runM]at h;split at h
  ·rename_i p1 r2 h1;split at h
   ·rename_i q r3 h2;simp only[Kn,A0]at h;obtain⟨_,rfl⟩:=h;exact ihb h2 ht.2 (iha h1 ht.1 hu)
   ·cases h
  ·cases h
 |cond c a b iha ihb=>
  intro r r1 M p h t u ht hu;simp only[runM]at h;split at h
  ·split at h
   ·split at h
    ·rename_i hmr;simp only[Kn,A0]at h;obtain⟨_,rfl⟩:=h;exact Zq hmr ht hu
    ·cases h
   ·cases h
  ·cases h
 |_=>intro r r1 M p h;cases h
def KA{b:Bool}{r1 r2:SR}:∀{ts:List Nat} {r r':SR},Zw b r1 r2 ts r=some r'->(∀t u,t∉ts->r.den.get t=some u->(bif b then r1 else r2).den.get t=some u)->JE (bif b then r1 else r2).den r'.den
 |[],r,r',hr,h=>λt u hu=>by simp only[Zw,Kn]at hr;subst hr;exact h t u (by simp) hu
 |t::ts,r,r',hr,h=>by
  simp only[Zw]at hr;have hdel:r.free t=true->∀t' u,t'∉ts->(r.del t).den.get t'=some u->(bif b then r1 else r2).den.get t'=some u:=λhf t' u ht hu=>by
   by_cases e:t'=t
   ·subst e;rw[SR.den_none (SR.ZL r t')]at hu;cases hu
   ·exact h t' u (by simp[e,ht]) (del_sub hf t' u hu)
  split at hr
  ·rename_i hf;split at hr
   ·rename_i x y h1 h2;split at hr
    ·rename_i v hv;refine KA hr λt' u ht hu=> ?_;rcases set_get hf rfl hu with ⟨rfl,rfl⟩|⟨h3,h4⟩
     ·have:=mergeV_ok hv
      cases b with
      |true=>rw[A6,SR.Qy h1];simp only[SR.dv,this,A6]
      |false=>rw[A7,SR.Qy h2];simp only[SR.dv,this,A7]
     ·exact h t' u (by simp[h3,ht]) h4
    ·exact KA hr (hdel hf)
   ·exact KA hr (hdel hf)
  ·cases hr
def okF_region{id:Nat}{ops:Array Oper}{r:QB}{M:QA}{Q:Exit->QB->QA->Prop}(h:∀I0 S0 w0 ds,HR I0 S0 w0->S0.length<=n0->(∀y,yk=some y->ExOk y I0.ex w0/\∀p∈ds.S,p.1≠I0.ex.l)->∀O w a ms,HR O M w->JP N O w r a->Step I0 S0 w0 O M w->a.defers=ms++ds.l->ZG ds w0.heap.size w ms->
  wpOpsIn (wr ro) 0 P ops (VF N Q I0 S0 w0 ds) (List.range' 0 ops.size) a w):JQ P N ro n0 yk (.region id ops false) r M Q:=λI0 S0 w0 ds h0 hn hY O w a ms hh hr hs hd hm=>by
 refine wpIn_region ?_;rw[List.range_eq_range'];exact h I0 S0 w0 ds h0 hn hY O w a ms hh hr hs hd hm
def reg_ok{E:Env}(hE:Zk P E)(hyk:ZI P n0 E yk){β:Type}{id:Nat}{ops:Array Oper}{cs:List COp}{ks:List (List Nat)}(hst:stripOps ops ops.toList ks=some cs){r:SR}{M:SH}{K:SR->SH->Option β}{b:β}(h:Yn E N cs r M K=some b):
  JQ P N ro n0 yk (.region id ops false) r.den (SH.den M) λe ρ τ=>e=.normal/\∃r' S',WR ρ r'.den/\WH τ (SH.den S')/\K r' S'=some b:=
 okF_region λI0 S0 w0 ds h0 hn hY O w a ms hh hr hs hd hm=>by have:=opsS_ok (ro:=ro) hE hyk h0 hn hY ops.toList cs ks hst 0 (by simp) h hh hr hs hd hm;simpa using this
def condB_ok{t p q:Bool}(h:condB t p q=true):(bif t then p else q)=true:=by cases t<;>cases p<;>cases q<;>first|rfl|cases h
def runM_ok{E:Env}(hE:Zk P E)(hyk:ZI P n0 E yk):∀{C:CC} {r r1:SR} {M:SH},runM E.ty N C r M=some (true,r1)->∀{c:Go.Code} {ks ks':KS},strip c ks=some (C,ks')->
  JQ P N ro n0 yk c r.den (SH.den M) λe ρ τ=>e=.normal/\WR ρ r1.den/\WH τ (SH.den (SH.norm M)):=by
 intro C
 induction C with
 |skip=>
  intro r r1 M h c ks ks' hs;simp only[runM,Kn,A0,Ah]at h;subst h
  cases c with
  |skip=>exact okF_skip ⟨rfl,WR.rfl',Xb M⟩
  |region id ops d=>cases d<;>simp[strip]at hs
  |_=>simp only[strip]at hs<;>(repeat' split at hs)<;>first|cases hs;done|simp at hs
 |reg cs=>
  intro r r1 M h c ks ks' hs;have h':=U5 h
  cases c with
  |region id ops d=>
   cases d with
   |false=>simp only[strip,WF,A0]at hs;obtain⟨cs',h1,h2,_⟩:=hs;injection h2 with h2;subst h2;refine(reg_ok hE hyk (strip_nok h1) h').mono λe ρ τ ⟨he,r',S',h3,h4,h5⟩=> ?_;simp only[Kn,A0]at h5;obtain⟨rfl,rfl⟩:=h5;exact⟨he,h3,h4⟩
   |true=>
    simp only[strip]at hs;split at hs
    ·simp at hs
    ·cases hs
  |_=>simp only[strip]at hs<;>(repeat' split at hs)<;>first|cases hs;done|simp at hs
 |seq A B ihA ihB=>
  intro r r1 M h c ks ks' hs
  cases c with
  |seq x y=>
   simp only[strip]at hs;split at hs
   ·rename_i X k1 hx;split at hs
    ·rename_i Y k2 hy;injection hs with hs;injection hs with e1 e2;injection e1 with e3 e4;subst e3;subst e4;simp only[runM]at h;split at h
     ·rename_i p r2 h1;split at h
      ·rename_i q r3 h2;simp only[Kn,A0,AJ]at h;obtain⟨⟨rfl,rfl⟩,rfl⟩:=h;refine okF_seq ((ihA h1 hx).mono λe ρ τ ⟨he,h3,h4⟩=> ?_);subst he;exact Xu (Qi h3 h4) ((ihB h2 hy).mono λe ρ τ ⟨h5,h6,h7⟩=>⟨h5,h6,SH.U8 M▸h7⟩)
      ·cases h
     ·cases h
    ·cases hs
   ·cases hs
  |region id ops d=>cases d<;>simp[strip]at hs
  |_=>simp only[strip]at hs<;>(repeat' split at hs)<;>first|cases hs;done|simp at hs
 |cond q A B ihA ihB=>
  intro r r1 M h c ks ks' hs
  cases c with
  |cond q' x y=>
   simp only[strip]at hs;split at hs
   ·rename_i X k1 hx;split at hs
    ·rename_i Y k2 hy;injection hs with hs;injection hs with e1 e2;injection e1 with e0 e3 e4;subst e0;subst e3;subst e4;simp only[runM]at h;split at h
     ·rename_i t ht;split at h
      ·rename_i p r1' q2 r2' h1 h2;split at h
       case h_2=>cases h
       rename_i rm hmr;simp only[Kn,A0]at h;obtain⟨hc,rfl⟩:=h;have hc:=condB_ok hc;refine okF_cond (t:=t) (by rw[Qs JE.rfl' rfl ht];rfl) ?_;have hsub:=KA hmr (λt' u ht' hu=>by
        simp only[Ak,not_or]at ht'
        cases t with
        |true=>exact runM_keep h1 ht'.1 hu
        |false=>exact runM_keep h2 ht'.2 hu)
       cases t with
       |true=>simp only[A6]at hc hsub;subst hc;exact(ihA h1 hx).mono λe ρ τ ⟨he,h3,h4⟩=>⟨he,h3.Ja hsub,h4⟩
       |false=>simp only[A7]at hc hsub;subst hc;exact(ihB h2 hy).mono λe ρ τ ⟨he,h3,h4⟩=>⟨he,h3.Ja hsub,h4⟩
      ·cases h
     ·cases h
    ·cases hs
   ·cases hs
  |region id ops d=>cases d<;>simp[strip]at hs
  |_=>simp only[strip]at hs<;>(repeat' split at hs)<;>first|cases hs;done|simp at hs
 |_=>intro r r1 M h;cases h
def exec_ok(hm:P.follows .mixedOrders=true){E:Env}(hE:Zk P E)(hyk:ZI P n0 E yk){β:Type}:∀{C:CC} {i:Nat} {r:SR} {M:SH} {K:Exit->SR->SH->Option β} {b:β},QX P N ro n0 E (Xr C i) yk->Jb P N ro n0 E yk C i->exec E N C i r M K=some b->
  ∀{c:Go.Code} {ks ks':KS},strip c ks=some (C,ks')->JQ P N ro n0 yk c r.den (SH.den M) λe ρ τ=>∃r' S',WR ρ r'.den/\WH τ (SH.den S')/\K e r' S'=some b:=by
 intro C
 induction C with
 |skip=>
  intro i r M K b _ _ h c ks ks' hs
  cases c with
  |skip=>exact okF_skip ⟨r,M,WR.rfl',WH.rfl',h⟩
  |region id ops d=>cases d<;>simp[strip]at hs
  |_=>simp only[strip]at hs<;>(repeat' split at hs)<;>first|cases hs;done|simp at hs
 |reg cs=>
  intro i r M K b _ _ h c ks ks' hs
  cases c with
  |region id ops d=>
   cases d with
   |false=>simp only[strip,WF,A0]at hs;obtain⟨cs',h1,h2,_⟩:=hs;injection h2 with h2;subst h2;exact(reg_ok hE hyk h1 h).mono λe ρ τ ⟨he,r',S',h3⟩=>⟨r',S',by subst he;exact h3⟩
   |true=>
    simp only[strip]at hs;split at hs
    ·simp at hs
    ·cases hs
  |_=>simp only[strip]at hs<;>(repeat' split at hs)<;>first|cases hs;done|simp at hs
 |drw cs bef=>
  intro i r M K b _ _ h c ks ks' hs
  cases c with
  |region id ops d=>
   cases d with
   |false=>simp[strip]at hs
   |true=>
    simp only[strip]at hs;split at hs
    ·rename_i hd;simp only[WF,A0]at hs;obtain⟨cs',h1,h2,_⟩:=hs;injection h2 with h2 h3;subst h2;subst h3;simp only[exec]at h;split at h
     ·cases h
     split at h
     ·have hdr:=Z6 (P:=P) (m:=(SH.den M).length) hE cs' (t:=⟨⟩) (by rw[SH.QU];exact A5 _) h .nil JE.rfl';have e:SH.den (M++List.replicate (Ya cs') waitS)=SH.den M++SH.den (List.replicate (Ya cs') waitS):=(by simp[SH.den]);rw[e]at hdr;have:=drawW_ok (ro:=ro) hm _ (Q:=λe ρ τ=>∃r' S',WR ρ r'.den/\WH τ (SH.den S')/\K e r' S'=some b) (t:=⟨⟩) hdr;exact(this id ops _ h1 rfl hd).toF
     split at h
     ·have hdr:=UK (P:=P) (m:=(SH.den M).length) hE cs' (t:=⟨⟩) (by rw[SH.QU];exact A5 _) h .nil JE.rfl';have e:SH.den (M++List.replicate (Vp cs') waitS)=SH.den M++SH.den (List.replicate (Vp cs') waitS):=(by simp[SH.den]);rw[e]at hdr;have:=drawW_ok (ro:=ro) hm _ (Q:=λe ρ τ=>∃r' S',WR ρ r'.den/\WH τ (SH.den S')/\K e r' S'=some b) (t:=⟨⟩) hdr;exact(this id ops _ h1 rfl hd).toF
     ·have hdr:=Zh (P:=P) hE cs' (t:=⟨⟩) h .nil JE.rfl';have:=draw_ok (ro:=ro) hm (Q:=λe ρ τ=>∃r' S',WR ρ r'.den/\WH τ (SH.den S')/\K e r' S'=some b) (t:=⟨⟩) hdr;exact(this id ops _ h1 rfl hd).toF
    ·cases hs
  |_=>simp only[strip]at hs<;>(repeat' split at hs)<;>first|cases hs;done|simp at hs
 |seq A B ihA ihB=>
  intro i r M K b hl hg h c ks ks' hs
  cases c with
  |seq x y=>
   simp only[strip]at hs;split at hs
   ·rename_i X k1 hx;split at hs
    ·rename_i Y k2 hy;injection hs with hs;injection hs with e1 e2;injection e1 with e3 e4;subst e3;subst e4;refine okF_seq ((ihA (λp hp=>hl p (by simp[Xr,hp])) hg.1 h hx).mono λe ρ τ ⟨r',S',h1,h2,h3⟩=> ?_)
     cases e with
     |normal=>exact Xu (Qi h1 h2) (ihB (λp hp=>hl p (by simp[Xr,hp])) hg.2 h3 hy)
     |_=>exact⟨r',S',h1,h2,h3⟩
    ·cases hs
   ·cases hs
  |region id ops d=>cases d<;>simp[strip]at hs
  |_=>simp only[strip]at hs<;>(repeat' split at hs)<;>first|cases hs;done|simp at hs
 |cond q A B ihA ihB=>
  intro i r M K b hl hg h c ks ks' hs
  cases c with
  |cond q' x y=>
   simp only[strip]at hs;split at hs
   ·rename_i X k1 hx;split at hs
    ·rename_i Y k2 hy;injection hs with hs;injection hs with e1 e2;injection e1 with e0 e3 e4;subst e0;subst e3;subst e4;simp only[exec]at h;split at h
     ·rename_i t ht;split at h
      ·rename_i p r' hrun
       cases p with
       |false=>cases h
       |true=>have hst:strip (.cond q' x y) ks=some (.cond q' X Y,k2):=(by simp only[strip,hx,hy]);exact(runM_ok hE hyk hrun hst).mono λe ρ τ ⟨he,h3,h4⟩=>⟨_,_,h3,h4,by subst he;exact h⟩
      ·refine okF_cond (t:=t) (by rw[Qs JE.rfl' rfl ht];rfl) ?_
       cases t with
       |true=>exact ihA (λp hp=>hl p (by simp[Xr,hp])) hg.1 h hx
       |false=>exact ihB (λp hp=>hl p (by simp[Xr,hp])) hg.2 h hy
     ·cases h
    ·cases hs
   ·cases hs
  |region id ops d=>cases d<;>simp[strip]at hs
  |_=>simp only[strip]at hs<;>(repeat' split at hs)<;>first|cases hs;done|simp at hs
 |block id A ihA=>
  intro i r M K b hl hg h c ks ks' hs
  cases c with
  |block id' x=>
   simp only[strip]at hs;split at hs
   ·rename_i X k1 hx;injection hs with hs;injection hs with e1 e2;injection e1 with e0 e3;subst e0;subst e3;refine okF_block ((ihA hl hg h hx).mono λe ρ τ ⟨r',S',h1,h2,h3⟩=> ?_)
    cases e with
    |exit k=>
     simp only at h3;by_cases hk:k=id'
     ·subst hk;simp only[Nat.beq_refl]at h3;simp only[Aq];exact⟨r',S',h1,h2,h3⟩
     ·simp only[ne_beq hk]at h3;simp only[hk,Al];exact⟨r',S',h1,h2,h3⟩
    |_=>exact⟨r',S',h1,h2,h3⟩
   ·cases hs
  |region id ops d=>cases d<;>simp[strip]at hs
  |_=>simp only[strip]at hs<;>(repeat' split at hs)<;>first|cases hs;done|simp at hs
 |loop A ihA=>
  intro i r M K b hl hg h c ks ks' hs
  cases c with
  |loop x=>
   simp only[strip]at hs;split at hs
   ·rename_i X k1 hx;injection hs with hs;injection hs with e1 e2;injection e1 with e0;subst e0;simp only[exec]at h;split at h
    ·rename_i u hlp;obtain⟨Q,h1,h2⟩:=unitK_ok (hl (i,X) (by simp[Xr]) _ hlp x ks k1 hx) h;exact h1.mono h2
    ·split at h
     ·rename_i hn;have hn:=eqB hn;refine VN (λm ρ τ=>∃r' S',WR ρ r'.den/\WH τ (SH.den S')/\loopN (λr M K=>exec E N X (i+1) r M K) m r' S' K=some b) (n:=4) ⟨r,M,WR.rfl',WH.rfl',h⟩ λm ρ τ ⟨r',S',h1,h2,h3⟩=> ?_
      cases m with
      |zero=>cases h3
      |succ m=>
       refine Xu (Qi h1 h2) ((ihA (YM hn (i+1)▸λp hp=>by cases hp) (Jb.nl hn) h3 hx).mono λe ρ τ ⟨r2,A2,g1,g2,g3⟩=> ?_)
       cases e with
       |normal=>exact⟨m,Nat.lt_succ_self m,r2,A2,g1,g2,g3⟩
       |_=>exact⟨r2,A2,g1,g2,g3⟩
     ·cases h
   ·cases hs
  |region id ops d=>cases d<;>simp[strip]at hs
  |_=>simp only[strip]at hs<;>(repeat' split at hs)<;>first|cases hs;done|simp at hs
 |scp A ihA=>
  intro i r M K b hl hg h c ks ks' hs
  cases c with
  |scope x=>
   simp only[strip]at hs;split at hs
   ·rename_i X k1 hx;injection hs with hs;injection hs with e1 e2;injection e1 with e0;subst e0;refine okF_scope ((ihA hl hg h hx).mono λe ρ τ ⟨r',S',h1,h2,h3⟩=> ?_)
    cases e with
    |goto l=>cases h3
    |_=>exact⟨r',S',h1,h2,h3⟩
   ·cases hs
  |region id ops d=>cases d<;>simp[strip]at hs
  |_=>simp only[strip]at hs<;>(repeat' split at hs)<;>first|cases hs;done|simp at hs
 |lbl=>
  intro i r M K b _ _ h c ks ks' hs
  cases c with
  |label l=>exact okF_label ⟨r,M,WR.rfl',WH.rfl',h⟩
  |region id ops d=>cases d<;>simp[strip]at hs
  |_=>simp only[strip]at hs<;>(repeat' split at hs)<;>first|cases hs;done|simp at hs
 |exit id=>
  intro i r M K b _ _ h c ks ks' hs
  cases c with
  |exit id'=>simp only[strip,Kn,A0]at hs;obtain⟨e,_⟩:=hs;injection e with e;subst e;exact okF_exit ⟨r,M,WR.rfl',WH.rfl',h⟩
  |region id ops d=>cases d<;>simp[strip]at hs
  |_=>simp only[strip]at hs<;>(repeat' split at hs)<;>first|cases hs;done|simp at hs
 |ret=>
  intro i r M K b _ _ h c ks ks' hs
  cases c with
  |ret=>exact okF_ret ⟨r,M,WR.rfl',WH.rfl',h⟩
  |region id ops d=>cases d<;>simp[strip]at hs
  |_=>simp only[strip]at hs<;>(repeat' split at hs)<;>first|cases hs;done|simp at hs
 |rng f ps A B _ _=>
  intro i r M K b hl hg h c ks ks' hs
  cases c with
  |rangeFunc f' ps' x y=>
   simp only[strip]at hs;split at hs
   ·rename_i X k1 hx;split at hs
    ·rename_i Y k2 hy;injection hs with hs;injection hs with e1 e2;injection e1 with e3 e4 e5 e6;subst e3;subst e4;subst e5;subst e6;simp only[exec]at h;obtain⟨hro,hg⟩:=hg;subst hro;split at h
     ·rename_i u hlp;obtain⟨Q,h1,h2⟩:=unitK_ok (hg u hlp x y ks k1 k2 hx hy) h;exact h1.mono h2
     ·cases h
    ·cases hs
   ·cases hs
  |region id ops d=>cases d<;>simp[strip]at hs
  |_=>simp only[strip]at hs<;>(repeat' split at hs)<;>first|cases hs;done|simp at hs
end
end Go.Abs
