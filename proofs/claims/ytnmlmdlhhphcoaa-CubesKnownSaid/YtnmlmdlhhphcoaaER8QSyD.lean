/- A part of the proof. -/
import Derived.Test.YtnmlmdlhhphcoaaER8QSyC
import Derived.Test.YtnmlmdlhhphcoaaER8QSyY
set_option linter.all false
namespace Go.Abs
variable [Gl]
def QA:CC->Nat->List (Nat×CC)
 |.seq a b,i=>QA a i++QA b (i+a.nl)
 |.cond _ a b,i=>QA a i++QA b (i+a.nl)
 |.block _ a,i=>QA a i
 |.loop a,i=>[(i,a)]
 |.scp a,i=>QA a i
 |_,_=>[]
def QH(P:Program)(N:Nat)(ro:Option Nat)(n0:Nat)(B:CC)(u:QB)(yk:Option YI:=none):Prop:=∀c ks ks',strip c ks=some (B,ks')->SaysU (JH P N ro n0 yk (.loop c)) u
def Q8(P:Program)(N:Nat)(ro:Option Nat)(n0:Nat)(E:Env)(l:List (Nat×CC))(yk:Option YI:=none):Prop:=∀p∈l,∀lp,E.lp p.1=some lp->QH P N ro n0 p.2 lp yk
def Z3(P:Program)(N n0:Nat)(f:Operand)(ps:Array Tmp)(A B:CC)(u:QB)(yk:Option YI:=none):Prop:=
 ∀a b ks ks' ks'',strip a ks=some (A,ks')->strip b ks'=some (B,ks'')->SaysU (JH P N none n0 yk (.rangeFunc f ps a b)) u
def Jx(P:Program)(N:Nat)(ro:Option Nat)(n0:Nat)(E:Env)(yk:Option YI):CC->Nat->Prop
 |.seq a b,i=>Jx P N ro n0 E yk a i/\Jx P N ro n0 E yk b (i+a.nl)
 |.cond _ a b,i=>Jx P N ro n0 E yk a i/\Jx P N ro n0 E yk b (i+a.nl)
 |.block _ a,i=>Jx P N ro n0 E yk a i
 |.rng f ps a b,i=>ro=none/\∀u,E.lp i=some u->Z3 P N n0 f ps a b u yk
 |.scp a,i=>Jx P N ro n0 E yk a i
 |_,_=>True
def Ko:CC->Bool
 |.seq a b=>Ko a||Ko b
 |.cond _ a b=>Ko a||Ko b
 |.block _ a=>Ko a
 |.rng .. =>true
 |.scp a=>Ko a
 |_=>false
theorem Jx.no{P:Program}{N:Nat}{ro:Option Nat}{n0:Nat}{E:Env}{yk:Option YI}:∀{C:CC} {i:Nat},Ko C=false->Jx P N ro n0 E yk C i
 |.seq a b,i,h=>by simp only[Ko,Bool.or_eq_false_iff]at h;exact⟨Jx.no h.1,Jx.no h.2⟩
 |.cond _ a b,i,h=>by simp only[Ko,Bool.or_eq_false_iff]at h;exact⟨Jx.no h.1,Jx.no h.2⟩
 |.block _ a,i,h=>Jx.no (C:=a) h
 |.scp a,i,h=>Jx.no (C:=a) h
 |.lbl,_,_=>trivial
 |.rng ..,_,h=>by cases h
 |.skip,_,_=>trivial
 |.reg _,_,_=>trivial
 |.drw _ _,_,_=>trivial
 |.loop _,_,_=>trivial
 |.exit _,_,_=>trivial
 |.ret,_,_=>trivial
section
variable {P:Program}{N:Nat}{ro:Option Nat}{n0:Nat}{yk:Option YI}
def nok(o:COp):COp:={ o with k:=[] }
theorem strip_nok{all:Array Oper}:∀{os:List Oper} {ks:List (List Nat)} {cs:List COp},QO all os ks=some cs->QO all os []=some (cs.map nok)
 |[],ks,cs,h=>by simp only[QO,Option.some.injEq]at h;subst h;rfl
 |o::os,ks,cs,h=>by
  simp only[QO]at h⊢;split at h
  ·rename_i g cs' hg hcs;injection h with h;subst h;rw[hg,List.tail_nil,strip_nok hcs];rfl
  ·cases h
theorem nrm_quiet{op:Op}{J:SH}(h:quiet op=true):nrm op J=J:=by cases op<;>first|rfl|cases h
theorem VX{E:Env}:∀{cs:List COp} {r r1:SR} {J:SH},opsM E.ty N cs r J=some (true,r1)->K6 E N (cs.map nok) r J (λr J=>some (r,J))=some (r1,SH.norm J)
 |[],r,r1,J,h=>by simp only[opsM,Option.some.injEq,Prod.mk.injEq,true_and]at h;subst h;rfl
 |⟨d,op,g,k⟩::os,r,r1,J,h=>by
  simp only[opsM]at h;split at h
  ·rename_i h1 h3 h4;split at h
   ·split at h
    ·rename_i p v S' hop;have HS:=U9 h4 hop;subst HS;split at h
     ·rename_i r' hput;split at h
      ·rename_i q r'' hrest;simp only[Option.some.injEq,Prod.mk.injEq,Bool.and_eq_true]at h;obtain⟨⟨rfl,rfl⟩,rfl⟩:=h;simp only[List.map_cons,nok,K6,Uo h3,h1,h3,hop,hput,cond_true,SR.kill,nrm_quiet h4];exact VX hrest
      ·cases h
     ·cases h
    ·cases h
   ·split at h
    ·rename_i hg;split at h
     ·rename_i p v S' hop;split at h
      ·rename_i r' hput;split at h
       ·rename_i q r'' hrest;simp only[Option.some.injEq,Prod.mk.injEq,Bool.and_eq_true]at h;obtain⟨⟨hp,rfl⟩,rfl⟩:=h;simp only[List.map_cons,nok,K6,Uo h3,deadG,h1,h3,h4,hg,hop,hput,hp,cond_true,SR.kill];exact VX hrest
       ·cases h
      ·cases h
     ·cases h
    ·cases h
  ·cases h
theorem put_keep{r r':SR}{d:Option Nat}{L:Tg}{v:Option SV}(h:r.put d L v=some r'){t:Nat}{u:AV}(ht:d≠some t)(hu:r.den.get t=some u):r'.den.get t=some u:=by
 cases d with
 |none=>simp only[SR.put,Option.some.injEq]at h;subst h;exact hu
 |some d=>
  have hne:d≠t:=λe=>ht (by rw[e]);simp only[SR.put]at h;split at h
  ·rename_i h1 h2;obtain⟨tg,v',h3,rfl⟩:=Zm hu;have key:∀x:Tg×SV,(r.set d x).den.get t=some (r.dv tg v'):=λx=>(by have hc:∀t,t≠d->(r.set d x).get t=r.get t:=λt ht=>SR.Qy r _ (Ne.symm ht);rw[SR.QS ((hc t (Ne.symm hne)).trans h3)];congr 1;exact KF (Xd hc (SR.W7 h1 h3)));split at h
   ·injection h with h;subst h;exact key _
   ·injection h with h;subst h;exact key _
  ·cases h
theorem VY{ty:TyT}:∀{cs:List COp} {r r1:SR} {J:SH} {p:Bool},opsM ty N cs r J=some (p,r1)->∀{t:Nat} {u:AV},t∉dstsOf cs->r.den.get t=some u->r1.den.get t=some u
 |[],r,r1,J,p,h,t,u,_,hu=>by simp only[opsM,Option.some.injEq,Prod.mk.injEq]at h;obtain⟨_,rfl⟩:=h;exact hu
 |⟨d,op,g,k⟩::os,r,r1,J,p,h,t,u,ht,hu=>by
  have hd:d≠some t/\t∉dstsOf os:=by
   simp only[dstsOf]at ht
   cases d with
   |none=>exact⟨by simp,ht⟩
   |some d=>simp only[List.mem_cons,not_or]at ht;exact⟨by simpa using Ne.symm ht.1,ht.2⟩
  simp only[opsM]at h;split at h
  ·split at h
   ·split at h
    ·split at h
     ·rename_i r' hput;split at h
      ·rename_i q r'' hrest;simp only[Option.some.injEq,Prod.mk.injEq]at h;obtain⟨_,rfl⟩:=h;exact VY hrest hd.2 (put_keep hput hd.1 hu)
      ·cases h
     ·cases h
    ·cases h
   ·split at h
    ·split at h
     ·split at h
      ·rename_i r' hput;split at h
       ·rename_i q r'' hrest;simp only[Option.some.injEq,Prod.mk.injEq]at h;obtain⟨_,rfl⟩:=h;exact VY hrest hd.2 (put_keep hput hd.1 hu)
       ·cases h
      ·cases h
     ·cases h
    ·cases h
  ·cases h
theorem set_keep{r:SR}{d:Nat}{x:Tg×SV}(hf:r.free d=true){t:Nat}{u:AV}(hne:t≠d)(hu:r.den.get t=some u):(r.set d x).den.get t=some u:=by obtain⟨tg,v',h3,rfl⟩:=Zm hu;have hc:∀t,t≠d->(r.set d x).get t=r.get t:=λt ht=>SR.Qy r _ (Ne.symm ht);rw[SR.QS ((hc t hne).trans h3)];congr 1;exact KF (Xd hc (SR.W7 hf h3))
theorem del_keep{r:SR}{d:Nat}(hf:r.free d=true){t:Nat}{u:AV}(hne:t≠d)(hu:r.den.get t=some u):(r.del d).den.get t=some u:=by obtain⟨tg,v',h3,rfl⟩:=Zm hu;have hc:∀t,t≠d->(r.del d).get t=r.get t:=λt ht=>SR.UL r (Ne.symm ht);rw[SR.QS ((hc t hne).trans h3)];congr 1;exact KF (Xd hc (SR.W7 hf h3))
theorem Yo{b:Bool}{r1 r2:SR}:∀{ts:List Nat} {r r':SR},Yw b r1 r2 ts r=some r'->∀{t:Nat} {u:AV},t∉ts->r.den.get t=some u->r'.den.get t=some u
 |[],r,r',h,t,u,_,hu=>by simp only[Yw,Option.some.injEq]at h;subst h;exact hu
 |d::ts,r,r',h,t,u,ht,hu=>by
  simp only[List.mem_cons,not_or]at ht;simp only[Yw]at h;split at h
  ·rename_i hf;split at h
   ·split at h
    ·exact Yo h ht.2 (set_keep hf ht.1 hu)
    ·exact Yo h ht.2 (del_keep hf ht.1 hu)
   ·exact Yo h ht.2 (del_keep hf ht.1 hu)
  ·cases h
theorem SO.VZ(o:SO):o.norm.norm=o.norm:=by
 cases o with
 |zer z c n=>
  cases h:zB c z with
  |true=>simp only[SO.norm,h]
  |false=>simp only[SO.norm,h]
 |_=>rfl
theorem SH.VZ(J:SH):SH.norm (SH.norm J)=SH.norm J:=by
 have hm:(J.map SO.norm).map SO.norm=J.map SO.norm:=by rw[List.map_map];exact List.map_congr_left λo _=>SO.VZ o
 unfold SH.norm
 cases h:anyZ J with
 |false=>simp only[h]
 |true=>
  simp only;split
  ·exact hm
  ·rfl
theorem runM_keep{ty:TyT}:∀{C:CC} {r r1:SR} {J:SH} {p:Bool},runM ty N C r J=some (p,r1)->∀{t:Nat} {u:AV},t∉writes C->r.den.get t=some u->r1.den.get t=some u:=by
 intro C
 induction C with
 |skip=>intro r r1 J p h t u _ hu;simp only[runM,Option.some.injEq,Prod.mk.injEq]at h;obtain⟨_,rfl⟩:=h;exact hu
 |reg ops=>intro r r1 J p h t u ht hu;exact VY h ht hu
 |seq a b iha ihb=>
  intro r r1 J p h t u ht hu;simp only[writes,List.mem_append,not_or]at ht;simp only[runM]at h;split at h
  ·rename_i p1 r2 h1;split at h
   ·rename_i q r3 h2;simp only[Option.some.injEq,Prod.mk.injEq]at h;obtain⟨_,rfl⟩:=h;exact ihb h2 ht.2 (iha h1 ht.1 hu)
   ·cases h
  ·cases h
 |cond c a b iha ihb=>
  intro r r1 J p h t u ht hu;simp only[runM]at h;split at h
  ·split at h
   ·split at h
    ·rename_i hmr;simp only[Option.some.injEq,Prod.mk.injEq]at h;obtain⟨_,rfl⟩:=h;exact Yo hmr ht hu
    ·cases h
   ·cases h
  ·cases h
 |_=>intro r r1 J p h;cases h
theorem Wb{b:Bool}{r1 r2:SR}:∀{ts:List Nat} {r r':SR},Yw b r1 r2 ts r=some r'->(∀t u,t∉ts->r.den.get t=some u->(bif b then r1 else r2).den.get t=some u)->J6 (bif b then r1 else r2).den r'.den
 |[],r,r',hr,h=>λt u hu=>by simp only[Yw,Option.some.injEq]at hr;subst hr;exact h t u (by simp) hu
 |t::ts,r,r',hr,h=>by
  simp only[Yw]at hr;have hdel:r.free t=true->∀t' u,t'∉ts->(r.del t).den.get t'=some u->(bif b then r1 else r2).den.get t'=some u:=λhf t' u ht hu=>by
   by_cases e:t'=t
   ·subst e;rw[SR.jj (SR.YC r t')]at hu;cases hu
   ·exact h t' u (by simp[e,ht]) (del_sub hf t' u hu)
  split at hr
  ·rename_i hf;split at hr
   ·rename_i x y h1 h2;split at hr
    ·rename_i v hv;refine Wb hr λt' u ht hu=> ?_;rcases set_get hf rfl hu with ⟨rfl,rfl⟩|⟨h3,h4⟩
     ·have:=mergeV_ok hv
      cases b with
      |true=>rw[cond_true,SR.QS h1];simp only[SR.dv,this,cond_true]
      |false=>rw[cond_false,SR.QS h2];simp only[SR.dv,this,cond_false]
     ·exact h t' u (by simp[h3,ht]) h4
    ·exact Wb hr (hdel hf)
   ·exact Wb hr (hdel hf)
  ·cases hr
theorem okF_region{id:Nat}{ops:Array Oper}{r:Q3}{J:Q4}{Q:Exit->Q3->Q4->Prop}(h:∀I0 S0 w0 ds,HR I0 S0 w0->S0.length<=n0->(∀y,yk=some y->ExOk y I0.ex w0/\∀p∈ds.S,p.1≠I0.ex.l)->∀M w a ms,HR M J w->J3 N M w r a->Step I0 S0 w0 M J w->a.defers=ms++ds.l->XG ds w0.heap.size w ms->
  wpOpsIn (wr ro) 0 P ops (Uf N Q I0 S0 w0 ds) (List.range' 0 ops.size) a w):JH P N ro n0 yk (.region id ops false) r J Q:=λI0 S0 w0 ds h0 hn hY M w a ms hh hr hs hd hm=>by
 refine wpIn_region ?_;rw[List.range_eq_range'];exact h I0 S0 w0 ds h0 hn hY M w a ms hh hr hs hd hm
theorem reg_ok{E:Env}(hE:Xk P E)(hyk:Qp P n0 E yk){β:Type}{id:Nat}{ops:Array Oper}{cs:List COp}{ks:List (List Nat)}(hst:QO ops ops.toList ks=some cs){r:SR}{J:SH}{K:SR->SH->Option β}{b:β}(h:K6 E N cs r J K=some b):
  JH P N ro n0 yk (.region id ops false) r.den (SH.den J) λe ρ τ=>e=.normal/\∃r' S',WR ρ r'.den/\WH τ (SH.den S')/\K r' S'=some b:=
 okF_region λI0 S0 w0 ds h0 hn hY M w a ms hh hr hs hd hm=>by have:=opsS_ok (ro:=ro) hE hyk h0 hn hY ops.toList cs ks hst 0 (by simp) h hh hr hs hd hm;simpa using this
theorem condB_ok{t p q:Bool}(h:condB t p q=true):(bif t then p else q)=true:=by cases t<;>cases p<;>cases q<;>first|rfl|cases h
theorem runM_ok{E:Env}(hE:Xk P E)(hyk:Qp P n0 E yk):∀{C:CC} {r r1:SR} {J:SH},runM E.ty N C r J=some (true,r1)->∀{c:Go.Code} {ks ks':KS},strip c ks=some (C,ks')->
  JH P N ro n0 yk c r.den (SH.den J) λe ρ τ=>e=.normal/\WR ρ r1.den/\WH τ (SH.den (SH.norm J)):=by
 intro C
 induction C with
 |skip=>
  intro r r1 J h c ks ks' hs;simp only[runM,Option.some.injEq,Prod.mk.injEq,true_and]at h;subst h
  cases c with
  |skip=>exact okF_skip ⟨rfl,WR.rfl',Xh J⟩
  |region id ops d=>cases d<;>simp[strip]at hs
  |_=>simp only[strip]at hs<;>(repeat' split at hs)<;>first|cases hs;done|simp at hs
 |reg cs=>
  intro r r1 J h c ks ks' hs;have h':=VX h
  cases c with
  |region id ops d=>
   cases d with
   |false=>simp only[strip,Option.map_eq_some_iff,Prod.mk.injEq]at hs;obtain⟨cs',h1,h2,_⟩:=hs;injection h2 with h2;subst h2;refine(reg_ok hE hyk (strip_nok h1) h').mono λe ρ τ ⟨he,r',S',h3,h4,h5⟩=> ?_;simp only[Option.some.injEq,Prod.mk.injEq]at h5;obtain⟨rfl,rfl⟩:=h5;exact⟨he,h3,h4⟩
   |true=>
    simp only[strip]at hs;split at hs
    ·simp at hs
    ·cases hs
  |_=>simp only[strip]at hs<;>(repeat' split at hs)<;>first|cases hs;done|simp at hs
 |seq A B ihA ihB=>
  intro r r1 J h c ks ks' hs
  cases c with
  |seq x y=>
   simp only[strip]at hs;split at hs
   ·rename_i X k1 hx;split at hs
    ·rename_i Y k2 hy;injection hs with hs;injection hs with e1 e2;injection e1 with e3 e4;subst e3;subst e4;simp only[runM]at h;split at h
     ·rename_i p r2 h1;split at h
      ·rename_i q r3 h2;simp only[Option.some.injEq,Prod.mk.injEq,Bool.and_eq_true]at h;obtain⟨⟨rfl,rfl⟩,rfl⟩:=h;refine okF_seq ((ihA h1 hx).mono λe ρ τ ⟨he,h3,h4⟩=> ?_);subst he;exact Xg (QI h3 h4) ((ihB h2 hy).mono λe ρ τ ⟨h5,h6,h7⟩=>⟨h5,h6,SH.VZ J▸h7⟩)
      ·cases h
     ·cases h
    ·cases hs
   ·cases hs
  |region id ops d=>cases d<;>simp[strip]at hs
  |_=>simp only[strip]at hs<;>(repeat' split at hs)<;>first|cases hs;done|simp at hs
 |cond q A B ihA ihB=>
  intro r r1 J h c ks ks' hs
  cases c with
  |cond q' x y=>
   simp only[strip]at hs;split at hs
   ·rename_i X k1 hx;split at hs
    ·rename_i Y k2 hy;injection hs with hs;injection hs with e1 e2;injection e1 with e0 e3 e4;subst e0;subst e3;subst e4;simp only[runM]at h;split at h
     ·rename_i t ht;split at h
      ·rename_i p r1' q2 r2' h1 h2;split at h
       case h_2=>cases h
       rename_i rm hmr;simp only[Option.some.injEq,Prod.mk.injEq]at h;obtain⟨hc,rfl⟩:=h;have hc:=condB_ok hc;refine okF_cond (t:=t) (by rw[Qg J6.rfl' rfl ht];rfl) ?_;have hsub:=Wb hmr (λt' u ht' hu=>by
        simp only[List.mem_append,not_or]at ht'
        cases t with
        |true=>exact runM_keep h1 ht'.1 hu
        |false=>exact runM_keep h2 ht'.2 hu)
       cases t with
       |true=>simp only[cond_true]at hc hsub;subst hc;exact(ihA h1 hx).mono λe ρ τ ⟨he,h3,h4⟩=>⟨he,h3.JJ hsub,h4⟩
       |false=>simp only[cond_false]at hc hsub;subst hc;exact(ihB h2 hy).mono λe ρ τ ⟨he,h3,h4⟩=>⟨he,h3.JJ hsub,h4⟩
      ·cases h
     ·cases h
    ·cases hs
   ·cases hs
  |region id ops d=>cases d<;>simp[strip]at hs
  |_=>simp only[strip]at hs<;>(repeat' split at hs)<;>first|cases hs;done|simp at hs
 |_=>intro r r1 J h;cases h
theorem Wg(hm:P.follows .mixedOrders=true){E:Env}(hE:Xk P E)(hyk:Qp P n0 E yk){β:Type}:∀{C:CC} {i:Nat} {r:SR} {J:SH} {K:Exit->SR->SH->Option β} {b:β},Q8 P N ro n0 E (QA C i) yk->Jx P N ro n0 E yk C i->exec E N C i r J K=some b->
  ∀{c:Go.Code} {ks ks':KS},strip c ks=some (C,ks')->JH P N ro n0 yk c r.den (SH.den J) λe ρ τ=>∃r' S',WR ρ r'.den/\WH τ (SH.den S')/\K e r' S'=some b:=by
 intro C
 induction C with
 |skip=>
  intro i r J K b _ _ h c ks ks' hs
  cases c with
  |skip=>exact okF_skip ⟨r,J,WR.rfl',WH.rfl',h⟩
  |region id ops d=>cases d<;>simp[strip]at hs
  |_=>simp only[strip]at hs<;>(repeat' split at hs)<;>first|cases hs;done|simp at hs
 |reg cs=>
  intro i r J K b _ _ h c ks ks' hs
  cases c with
  |region id ops d=>
   cases d with
   |false=>simp only[strip,Option.map_eq_some_iff,Prod.mk.injEq]at hs;obtain⟨cs',h1,h2,_⟩:=hs;injection h2 with h2;subst h2;exact(reg_ok hE hyk h1 h).mono λe ρ τ ⟨he,r',S',h3⟩=>⟨r',S',by subst he;exact h3⟩
   |true=>
    simp only[strip]at hs;split at hs
    ·simp at hs
    ·cases hs
  |_=>simp only[strip]at hs<;>(repeat' split at hs)<;>first|cases hs;done|simp at hs
 |drw cs bef=>
  intro i r J K b _ _ h c ks ks' hs
  cases c with
  |region id ops d=>
   cases d with
   |false=>simp[strip]at hs
   |true=>
    simp only[strip]at hs;split at hs
    ·rename_i hd;simp only[Option.map_eq_some_iff,Prod.mk.injEq]at hs;obtain⟨cs',h1,h2,_⟩:=hs;injection h2 with h2 h3;subst h2;subst h3;simp only[exec]at h;split at h
     ·exact(drwY_ok (id:=id) hm hE hyk h1 hd h).mono λe ρ τ ⟨he,r',S',h3⟩=>⟨r',S',by subst he;exact h3⟩
     split at h
     ·have hdr:=Zk (P:=P) (m:=(SH.den J).length) hE cs' (t:=⟨⟩) (by rw[SH.QF];exact Nat.le_refl _) h .nil J6.rfl';have e:SH.den (J++List.replicate (Ka cs') waitS)=SH.den J++SH.den (List.replicate (Ka cs') waitS):=(by simp[SH.den]);rw[e]at hdr;have:=drawW_ok (ro:=ro) hm _ (Q:=λe ρ τ=>∃r' S',WR ρ r'.den/\WH τ (SH.den S')/\K e r' S'=some b) (t:=⟨⟩) hdr;exact(this id ops _ h1 rfl hd).toF
     split at h
     ·have hdr:=Vw (P:=P) (m:=(SH.den J).length) hE cs' (t:=⟨⟩) (by rw[SH.QF];exact Nat.le_refl _) h .nil J6.rfl';have e:SH.den (J++List.replicate (jn cs') waitS)=SH.den J++SH.den (List.replicate (jn cs') waitS):=(by simp[SH.den]);rw[e]at hdr;have:=drawW_ok (ro:=ro) hm _ (Q:=λe ρ τ=>∃r' S',WR ρ r'.den/\WH τ (SH.den S')/\K e r' S'=some b) (t:=⟨⟩) hdr;exact(this id ops _ h1 rfl hd).toF
     ·have hdr:=Zl (P:=P) hE cs' (t:=⟨⟩) h .nil J6.rfl';have:=draw_ok (ro:=ro) hm (Q:=λe ρ τ=>∃r' S',WR ρ r'.den/\WH τ (SH.den S')/\K e r' S'=some b) (t:=⟨⟩) hdr;exact(this id ops _ h1 rfl hd).toF
    ·cases hs
  |_=>simp only[strip]at hs<;>(repeat' split at hs)<;>first|cases hs;done|simp at hs
 |seq A B ihA ihB=>
  intro i r J K b hl hg h c ks ks' hs
  cases c with
  |seq x y=>
   simp only[strip]at hs;split at hs
   ·rename_i X k1 hx;split at hs
    ·rename_i Y k2 hy;injection hs with hs;injection hs with e1 e2;injection e1 with e3 e4;subst e3;subst e4;refine okF_seq ((ihA (λp hp=>hl p (by simp[QA,hp])) hg.1 h hx).mono λe ρ τ ⟨r',S',h1,h2,h3⟩=> ?_)
     cases e with
     |normal=>exact Xg (QI h1 h2) (ihB (λp hp=>hl p (by simp[QA,hp])) hg.2 h3 hy)
     |_=>exact⟨r',S',h1,h2,h3⟩
    ·cases hs
   ·cases hs
  |region id ops d=>cases d<;>simp[strip]at hs
  |_=>simp only[strip]at hs<;>(repeat' split at hs)<;>first|cases hs;done|simp at hs
 |cond q A B ihA ihB=>
  intro i r J K b hl hg h c ks ks' hs
  cases c with
  |cond q' x y=>
   simp only[strip]at hs;split at hs
   ·rename_i X k1 hx;split at hs
    ·rename_i Y k2 hy;injection hs with hs;injection hs with e1 e2;injection e1 with e0 e3 e4;subst e0;subst e3;subst e4;simp only[exec]at h;split at h
     ·rename_i t ht;split at h
      ·rename_i p r' hrun
       cases p with
       |false=>cases h
       |true=>have hst:strip (.cond q' x y) ks=some (.cond q' X Y,k2):=(by simp only[strip,hx,hy]);exact(runM_ok hE hyk hrun hst).mono λe ρ τ ⟨he,h3,h4⟩=>⟨_,_,h3,h4,by subst he;exact h⟩
      ·refine okF_cond (t:=t) (by rw[Qg J6.rfl' rfl ht];rfl) ?_
       cases t with
       |true=>exact ihA (λp hp=>hl p (by simp[QA,hp])) hg.1 h hx
       |false=>exact ihB (λp hp=>hl p (by simp[QA,hp])) hg.2 h hy
     ·cases h
    ·cases hs
   ·cases hs
  |region id ops d=>cases d<;>simp[strip]at hs
  |_=>simp only[strip]at hs<;>(repeat' split at hs)<;>first|cases hs;done|simp at hs
 |block id A ihA=>
  intro i r J K b hl hg h c ks ks' hs
  cases c with
  |block id' x=>
   simp only[strip]at hs;split at hs
   ·rename_i X k1 hx;injection hs with hs;injection hs with e1 e2;injection e1 with e0 e3;subst e0;subst e3;refine okF_block ((ihA hl hg h hx).mono λe ρ τ ⟨r',S',h1,h2,h3⟩=> ?_)
    cases e with
    |exit k=>
     simp only at h3;by_cases hk:k=id'
     ·subst hk;simp only[Nat.beq_refl]at h3;simp only[if_true];exact⟨r',S',h1,h2,h3⟩
     ·simp only[ne_beq hk]at h3;simp only[hk,if_false];exact⟨r',S',h1,h2,h3⟩
    |_=>exact⟨r',S',h1,h2,h3⟩
   ·cases hs
  |region id ops d=>cases d<;>simp[strip]at hs
  |_=>simp only[strip]at hs<;>(repeat' split at hs)<;>first|cases hs;done|simp at hs
 |loop A ihA=>
  intro i r J K b hl hg h c ks ks' hs
  cases c with
  |loop x=>
   simp only[strip]at hs;split at hs
   ·rename_i X k1 hx;injection hs with hs;injection hs with e1 e2;injection e1 with e0;subst e0;simp only[exec]at h;split at h
    ·rename_i u hlp;obtain⟨Q,h1,h2⟩:=qt (hl (i,X) (by simp[QA]) _ hlp x ks k1 hx) h;exact h1.mono h2
    ·cases h
   ·cases hs
  |region id ops d=>cases d<;>simp[strip]at hs
  |_=>simp only[strip]at hs<;>(repeat' split at hs)<;>first|cases hs;done|simp at hs
 |scp A ihA=>
  intro i r J K b hl hg h c ks ks' hs
  cases c with
  |scope x=>
   simp only[strip]at hs;split at hs
   ·rename_i X k1 hx;injection hs with hs;injection hs with e1 e2;injection e1 with e0;subst e0;refine okF_scope ((ihA hl hg h hx).mono λe ρ τ ⟨r',S',h1,h2,h3⟩=> ?_)
    cases e with
    |goto l=>cases h3
    |_=>exact⟨r',S',h1,h2,h3⟩
   ·cases hs
  |region id ops d=>cases d<;>simp[strip]at hs
  |_=>simp only[strip]at hs<;>(repeat' split at hs)<;>first|cases hs;done|simp at hs
 |lbl=>
  intro i r J K b _ _ h c ks ks' hs
  cases c with
  |label l=>exact okF_label ⟨r,J,WR.rfl',WH.rfl',h⟩
  |region id ops d=>cases d<;>simp[strip]at hs
  |_=>simp only[strip]at hs<;>(repeat' split at hs)<;>first|cases hs;done|simp at hs
 |exit id=>
  intro i r J K b _ _ h c ks ks' hs
  cases c with
  |exit id'=>simp only[strip,Option.some.injEq,Prod.mk.injEq]at hs;obtain⟨e,_⟩:=hs;injection e with e;subst e;exact okF_exit ⟨r,J,WR.rfl',WH.rfl',h⟩
  |region id ops d=>cases d<;>simp[strip]at hs
  |_=>simp only[strip]at hs<;>(repeat' split at hs)<;>first|cases hs;done|simp at hs
 |ret=>
  intro i r J K b _ _ h c ks ks' hs
  cases c with
  |ret=>exact okF_ret ⟨r,J,WR.rfl',WH.rfl',h⟩
  |region id ops d=>cases d<;>simp[strip]at hs
  |_=>simp only[strip]at hs<;>(repeat' split at hs)<;>first|cases hs;done|simp at hs
 |rng f ps A B _ _=>
  intro i r J K b hl hg h c ks ks' hs
  cases c with
  |rangeFunc f' ps' x y=>
   simp only[strip]at hs;split at hs
   ·rename_i X k1 hx;split at hs
    ·rename_i Y k2 hy;injection hs with hs;injection hs with e1 e2;injection e1 with e3 e4 e5 e6;subst e3;subst e4;subst e5;subst e6;simp only[exec]at h;obtain⟨hro,hg⟩:=hg;subst hro;split at h
     ·rename_i u hlp;obtain⟨Q,h1,h2⟩:=qt (hg u hlp x y ks k1 k2 hx hy) h;exact h1.mono h2
     ·cases h
    ·cases hs
   ·cases hs
  |region id ops d=>cases d<;>simp[strip]at hs
  |_=>simp only[strip]at hs<;>(repeat' split at hs)<;>first|cases hs;done|simp at hs
end
end Go.Abs
