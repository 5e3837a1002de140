/- A part of the proof. -/
import Derived.Test.YtnmlmdlhhphcoaaER8QSyC
set_option linter.all false
namespace Go.Abs
variable [Gl]
theorem qw{all:Array Oper}:∀{os:List Oper} {cs:List COp} {ks:List (List Nat)} (m:Nat),QO all os ks=some cs->QO all (os.take m) ks=some (cs.take m)
 |[],cs,ks,m,h=>by simp only[QO,Option.some.injEq]at h;subst h;simp[QO]
 |o::os,cs,ks,0,h=>by simp[QO]
 |o::os,cs,ks,m+1,h=>by
  simp only[QO]at h;split at h
  ·rename_i g cs' hg hcs;injection h with h;subst h;have:=qw m hcs;simp only[List.take_succ_cons,QO,hg,this]
  ·cases h
theorem qx{all:Array Oper}:∀{os:List Oper} {cs:List COp} {ks:List (List Nat)} (m:Nat),QO all os ks=some cs->∃ks',QO all (os.drop m) ks'=some (cs.drop m)
 |[],cs,ks,m,h=>by simp only[QO,Option.some.injEq]at h;subst h;exact⟨[],by simp[QO]⟩
 |o::os,cs,ks,0,h=>⟨ks,h⟩
 |o::os,cs,ks,m+1,h=>by
  simp only[QO]at h;split at h
  ·rename_i g cs' hg hcs;injection h with h;subst h;exact qx m hcs
  ·cases h
theorem Uc{all:Array Oper}:∀{os:List Oper} {cs:List COp} {ks:List (List Nat)},QO all os ks=some cs->cs.length=os.length
 |[],cs,ks,h=>by simp only[QO,Option.some.injEq]at h;subst h;rfl
 |o::os,cs,ks,h=>by
  simp only[QO]at h;split at h
  ·rename_i g cs' hg hcs;injection h with h;subst h;simp[Uc hcs]
  ·cases h
theorem fullB_ok{b:Nat}:∀{j:Nat},fullB b j=true->∀i,i<j->b.testBit i=true
 |0,_,i,hi=>by omega
 |j+1,h,i,hi=>by
  simp only[fullB]at h;split at h
  ·rename_i hb;by_cases e:i=j
   ·rw[e];exact hb
   ·exact fullB_ok h i (by omega)
  ·cases h
theorem headD_getD(l:List Nat):l.headD 0=l.getD 0 0:=by cases l<;>rfl
theorem tail_getD(l:List Nat)(d:Nat):l.tail.getD d 0=l.getD (d+1) 0:=by cases l<;>rfl
theorem sufR_ok:∀{os:List COp} {bef:List Nat} {j:Nat},sufR os bef j=true->∀d,d<os.length->fullB (bef.getD d 0) (j+d)=true
 |[],_,_,_,d,hd=>by simp at hd
 |o::os,bef,j,h,d,hd=>by
  simp only[sufR]at h;split at h
  ·rename_i h1
   cases d with
   |zero=>rw[<-headD_getD];exact h1
   |succ d=>have:=sufR_ok h d (by simpa using hd);rw[tail_getD]at this;rwa [show j+(d+1)=j+1+d by omega]
  ·cases h
theorem barK_ok:∀(os:List COp) (bef:List Nat) (j:Nat),j<=barK os bef j/\barK os bef j<=j+os.length/\∀d,barK os bef j<=j+d->d<os.length->fullB (bef.getD d 0) (j+d)=true
 |[],bef,j=>⟨Nat.le_refl _,Nat.le_refl _,λd _ hd=>by simp at hd⟩
 |o::os,bef,j=>by
  simp only[barK];split
  ·rename_i h;exact⟨Nat.le_refl _,by omega,λd _ hd=>sufR_ok h d hd⟩
  ·obtain⟨h1,h2,h3⟩:=barK_ok os bef.tail (j+1);refine⟨by omega,by simp only[List.length_cons];omega,λd hd hl=> ?_⟩
   cases d with
   |zero=>omega
   |succ d=>have:=h3 d (by omega) (by simpa using hl);rw[tail_getD]at this;rwa [show j+(d+1)=j+1+d by omega]
section
variable {P:Program}{N:Nat}{ro:Option Nat}
theorem V8{mm:Nat}{ops:Array Oper}{bef:List Nat}{K:Q3->Q4->Prop}{m:Nat}(hms:m<=ops.size):∀(os:List Oper) (cs:List COp) (ks:List (List Nat)),QO ops os ks=some cs->∀(k:Nat),os=(ops.toList.take m).drop k->
  ∀{r:Q3} {J:Q4} {log:JQ} {t:Tag K},V9 P N cs k (bef.drop k) log r J K t->∃S RH WH,U0 P N mm ops bef k m S RH WH/\S k=(r,J)/\K (S (max k m)).1 (S (max k m)).2/\
   (∀x∈log,∀j,k<=j->j<m->(bef.getD j 0).testBit x.1=false->(∀c∈x.2.2,c∉RH j/\c∉WH j)/\∀c∈WH j,c∉x.2.1)
 |[],cs,ks,hst,k,hk,r,J,log,t,h=>by simp only[QO,Option.some.injEq]at hst;subst hst;have hlen:(ops.toList.take m).length<=k:=List.drop_eq_nil_iff.1 hk.symm;have hle:m<=k:=(by rw[List.length_take]at hlen;simp at hlen;omega);exact⟨λ_=>(r,J),λ_=>[],λ_=>[],⟨λj h1 h2=>by omega,λi j h1 h2 h3=>by omega⟩,rfl,h,λx _ j h1 h2=>by omega⟩
 |o::os,cs,ks,hst,k,hk,r,J,log,t,h=>by
  simp only[QO]at hst;split at hst
  ·rename_i g cs' hg hcs;injection hst with hst;subst hst;have hlt:k<m:=(by have:((ops.toList.take m).drop k).length=os.length+1:=(by rw[<-hk];rfl);rw[List.length_drop,List.length_take]at this;omega);have hok:ops[k]? =some o:=(by have:((ops.toList.take m).drop k)[0]? =some o:=(by rw[<-hk];rfl);rw[List.getElem?_drop,List.getElem?_take]at this;simpa [hlt] using this);have hos:os=(ops.toList.take m).drop (k+1):=(by have:((ops.toList.take m).drop k).tail=os:=(by rw[<-hk];rfl);rw[<-this];simp);have hhead:(bef.drop k).headD 0=bef.getD k 0:=(by simp[List.headD_eq_head?_getD,List.head?_drop]);have htail:(bef.drop k).tail=bef.drop (k+1):=(by simp);obtain⟨hdst,h⟩:=h;rw[YN hg]at h;have fin:∀(r':Q3) (S':Q4) (rs ws:List Nat),U1 P N mm ops o (r,J) (r',S') rs ws->Qx (bef.getD k 0) rs ws log=true->V9 P N cs' (k+1) (bef.drop (k+1)) ((k,rs,ws)::log) r' S' K t->
     ∃S RH WH,U0 P N mm ops bef k m S RH WH/\S k=(r,J)/\K (S (max k m)).1 (S (max k m)).2/\
      (∀x∈log,∀j,k<=j->j<m->(bef.getD j 0).testBit x.1=false->(∀c∈x.2.2,c∉RH j/\c∉WH j)/\∀c∈WH j,c∉x.2.1):=λr' S' rs ws hf hfree hd=>by
    obtain⟨S,RH,WH,hF,hS,hK,hlog⟩:=V8 hms os cs' _ hcs (k+1) hos hd;refine⟨λj=>if j=k then (r,J) else S j,λj=>if j=k then rs else RH j,λj=>if j=k then ws else WH j,⟨λj h1 h2=> ?_,λi j h1 h2 h3 h4=> ?_⟩,by simp,?_,λx hx j h1 h2 h3=> ?_⟩
    ·by_cases e:j=k
     ·subst e;refine⟨o,hok,?_⟩;simp only[if_true,show¬j+1=j by omega,if_false,hS];exact hf
     ·obtain⟨o',h3,h4⟩:=hF.fact j (by omega) h2;refine⟨o',h3,?_⟩;simp only[e,show¬j+1=k by omega,if_false];exact h4
    ·have e2:¬j=k:=(by omega);by_cases e:i=k
     ·subst e;simp only[if_true,e2,if_false];exact hlog (i,rs,ws) (by simp) j (by omega) h3 h4
     ·simp only[e,e2,if_false];exact hF.order i j (by omega) h2 h3 h4
    ·have e1:max k m=max (k+1) m:=(by omega);have e2:¬max (k+1) m=k:=(by omega);simp only[e1,e2,if_false];exact hK
    ·by_cases e:j=k
     ·subst e;simp only[if_true];exact We hfree x hx h3
     ·simp only[e,if_false];exact hlog x (by simp[hx]) j (by omega) h2 h3
   unfold Yl at h;split at h
   ·rename_i b hb
    cases b with
    |true=>simp only[if_true]at h;obtain⟨res,S',rs,ws,hf,hfree,hd⟩:=Vo hdst hb h;rw[hhead]at hfree;rw[htail]at hd;exact fin _ _ rs ws hf hfree hd
    |false=>
     simp only[Bool.false_eq_true,if_false]at h;rw[htail]at h;refine fin _ _ [] [] ⟨hdst,false,hb,λc _=>agC.refl J c,λe=>absurd e (by simp),λ_=>⟨rfl,rfl,rfl⟩⟩ ?_ h;have:∀l:JQ,Qx (bef.getD k 0) [] [] l=true:=λl=>by
      induction l with
      |nil=>rfl
      |cons x l ih=>
       obtain⟨i,rs',ws'⟩:=x;have hdn:∀l,ZM l []=true:=λl=>by
        induction l with
        |nil=>rfl
        |cons y l ih=>simp[ZM,memN,ih]
       simp only[Qx,hdn,ih,ZM,Bool.and_self,Bool.or_true]
     exact this log
   ·exact h.elim
  ·cases hst
theorem facts_lineP{mm m:Nat}{ops:Array Oper}{S:Nat->St}{RH WH:Nat->List Nat}(hms:m<=ops.size)(hd:Yh ops=true)(hF:U0 P N mm ops (Region.before ops).toList 0 m S RH WH):
  qS m S (RD ops RH) (WD ops WH) (BD ops) where
 same:=λj l hj hw=>by
  obtain⟨o,ho,_,b,hb,hws,ht,hf⟩:=hF.fact j (by omega) hj
  cases l with
  |reg t=>
   have hne:o.dst≠some t:=λe=>hw ⟨o,ho,e⟩;show(S (j+1)).1.get t=(S j).1.get t
   cases b with
   |true=>obtain⟨res,h1,_⟩:=ht rfl;rw[h1];exact Xt res hne
   |false=>rw[(hf rfl).1];exact Xt (r:=(S j).1) none hne
  |obj b=>exact hws (b+1) λhc=>hw ⟨o,ho,hc⟩
  |len=>exact hws 0 λhc=>hw ⟨o,ho,hc⟩
 order:=λi j hij hj hc=>by
  refine⟨hij,?_⟩;obtain⟨l,hc⟩:=hc;have hi:i<ops.size:=(by omega);have hj':j<ops.size:=(by omega);obtain⟨_,_,hclash⟩:=Z7 hd (Array.getElem?_eq_getElem hj')
  cases hb:((Region.before ops).getD j 0).testBit i with
  |true=>rfl
  |false=>
   exfalso;have hb':((Region.before ops).toList.getD j 0).testBit i=false:=(by rw[<-hb];congr 1;simp[Array.getD_eq_getD_getElem?,List.getD_eq_getElem?_getD]);have hord:=hF.order i j (by omega) hij hj hb';have uq:∀{o:Oper},ops[j]? =some o->o=ops[j]:=λho=>by rw[Array.getElem?_eq_getElem hj']at ho;injection ho with ho;exact ho.symm
   cases l with
   |reg t=>
    have:((Region.before ops).getD j 0).testBit i=true:=by
     rcases hc with ⟨⟨p,hp,h1⟩,⟨o,ho,h2⟩|⟨o,ho,h2⟩⟩|⟨⟨p,hp,h1⟩,⟨o,ho,h2⟩⟩
     ·have e:=uq ho;subst e;exact hclash i p hij hp ⟨t,.inl ⟨h1,.inr h2⟩⟩
     ·have e:=uq ho;subst e;exact hclash i p hij hp ⟨t,.inl ⟨h1,.inl h2⟩⟩
     ·have e:=uq ho;subst e;exact hclash i p hij hp ⟨t,.inr ⟨h2,h1⟩⟩
    rw[hb]at this;cases this
   |obj b=>
    rcases hc with ⟨⟨p,hp,h1⟩,⟨o,ho,h2⟩|⟨o,ho,h2⟩⟩|⟨⟨p,hp,h1⟩,⟨o,ho,h2⟩⟩
    ·exact(hord.1 _ h1).2 h2
    ·exact(hord.1 _ h1).1 h2
    ·exact hord.2 _ h2 h1
   |len=>
    rcases hc with ⟨⟨p,hp,h1⟩,⟨o,ho,h2⟩|⟨o,ho,h2⟩⟩|⟨⟨p,hp,h1⟩,⟨o,ho,h2⟩⟩
    ·exact(hord.1 _ h1).2 h2
    ·exact(hord.1 _ h1).1 h2
    ·exact hord.2 _ h2 h1
theorem forced{ops:Array Oper}{X:Exit->Act->World->Prop}(hd:Yh ops=true):∀(d k fuel:Nat) (listed:Array Bool) (a:Act) (w:World),k+d=ops.size->d<=fuel->listed.size=ops.size->
  (∀i,listed.getD i true=false↔k<=i/\i<ops.size)->(∀j i,k<=j->j<ops.size->i<j->((Region.before ops).getD j 0).testBit i=true)->
  wpOpsIn (wr ro) 0 P ops X (List.range' k d) a w->wpAnyIn (wr ro) 0 P .any ops X fuel listed a w
 |0,k,fuel,listed,a,w,hk,_,hsz,hl,_,h=>by
  have hre:Region.ready .any ops listed=[]:=by refine List.eq_nil_iff_forall_not_mem.2 λj hj=> ?_;obtain⟨hu,o,ho,_⟩:=mem_ready.1 hj;have:=(hl j).1 hu;omega
  cases fuel with
  |zero=>exact⟨hre,h⟩
  |succ fuel=>exact⟨λ_=>h,λj hj=>by rw[hre]at hj;cases hj⟩
 |d+1,k,0,listed,a,w,_,hf,_,_,_,_=>by omega
 |d+1,k,fuel+1,listed,a,w,hk,hf,hsz,hl,hbar,h=>by
  refine⟨λhre=>absurd hre (Vy hd hsz k (by omega) ((hl k).2 ⟨Nat.le_refl _,by omega⟩)),λj hj=> ?_⟩;obtain⟨hu,o,ho,hdeps⟩:=mem_ready.1 hj;have hj1:=(hl j).1 hu;have hjk:j=k:=(by refine Classical.byContradiction λhne=> ?_;have hspec:=Z7 hd ho;obtain⟨e,he,hb,h1⟩:=hspec.2.1 k (by omega) (hbar j k hj1.1 hj1.2 (by omega));have h2:=hdeps e he hb;have h3:=hspec.1 e he hb;have h4:listed.getD e.on true=false:=(hl e.on).2 ⟨by omega,by omega⟩;rw[Xi (by omega),h2]at h4;cases h4);subst hjk;rw[List.range'_succ,wpOpsIn_cons]at h;refine wpOpIn_mono (λa w h=>forced hd d (j+1) fuel _ a w (by omega) (by omega) (by simp[hsz]) (λi=> ?_) (λj' i h1 h2 h3=>hbar j' i (by omega) h2 h3) h) h;by_cases e:i=j
  ·subst e;simp[Array.getD,hsz,hj1.2]
  ·rw[_root_.Go.getD_set_ne true (Ne.symm e),hl];omega
theorem draw_pre{mm m:Nat}{ops:Array Oper}{X:Exit->Act->World->Prop}{S:Nat->St}{RH WH:Nat->List Nat}(hms:m<=ops.size)(hd:Yh ops=true)
  (hbar:∀j i,m<=j->j<ops.size->i<j->((Region.before ops).getD j 0).testBit i=true)
  (hF:U0 P N mm ops (Region.before ops).toList 0 m S RH WH) {M:Map} {J:Q4} {w:World} {a:Act} (hh0:HR M J w) (hm0:J.length<=mm)
  (hend:∀(fuel:Nat) (listed:Array Bool) (i₁:Map) (w₁:World) (a₁:Act),listed.size=ops.size->(∀i,listed.getD i true=false↔m<=i/\i<ops.size)->ops.size - m<=fuel->
   HR i₁ (S m).2 w₁->J3 N i₁ w₁ (S m).1 a₁->Step M J w i₁ (S m).2 w₁->a₁.defers=a.defers->wpAnyIn (wr ro) 0 P .any ops X fuel listed a₁ w₁):
  ∀(fuel:Nat) (rem:List Nat) (listed:Array Bool) (r':Q3) (τ:Q4) (i₁:Map) (w₁:World) (a₁:Act),listed.size=ops.size->rem.Nodup->(∀i,i∈rem↔i<m/\listed.getD i true=false)->
   (∀i,m<=i->i<ops.size->listed.getD i true=false)->rem.length+(ops.size - m)<=fuel->
   ZX S (WD ops WH) (LD listed) (r',τ)->(∀k i,LD listed k->BD ops k i->LD listed i)->HR i₁ τ w₁->J3 N i₁ w₁ r' a₁->Step M J w i₁ τ w₁->a₁.defers=a.defers->
   wpAnyIn (wr ro) 0 P .any ops X fuel listed a₁ w₁:=by
 have hline:=facts_lineP hms hd hF;have hLn:∀{listed:Array Bool},listed.size=ops.size->(∀i,m<=i->i<ops.size->listed.getD i true=false)->∀k,LD listed k->k<m:=λhsz hup k hk=>by
  unfold LD at hk;by_cases h:k<ops.size
  ·refine Classical.byContradiction λhc=> ?_;have:=hup k (by omega) h;rw[Xi (by omega),hk]at this;cases this
  ·simp[Array.getD,hsz,h]at hk
 have done:∀(fuel:Nat) (rem:List Nat) (listed:Array Bool) (r':Q3) (τ:Q4) (i₁:Map) (w₁:World) (a₁:Act),listed.size=ops.size->(∀i,i∈rem↔i<m/\listed.getD i true=false)->
   (∀i,m<=i->i<ops.size->listed.getD i true=false)->rem=[]->ops.size - m<=fuel->
   ZX S (WD ops WH) (LD listed) (r',τ)->HR i₁ τ w₁->J3 N i₁ w₁ r' a₁->Step M J w i₁ τ w₁->a₁.defers=a.defers->wpAnyIn (wr ro) 0 P .any ops X fuel listed a₁ w₁:=by
  intro fuel rem listed r' τ i₁ w₁ a₁ hsz hrem hup he hfu hst hh hr hs hdf;have hall:∀k,k<m->LD listed k:=λk hk=>by
   have:¬k∈rem:=(by rw[he];simp);rw[hrem]at this;unfold LD;rw[<-Xi (by omega)]
   cases h:listed.getD k true with
   |true=>rfl
   |false=>exact absurd ⟨hk,h⟩ this
  have hag:=hline.done hst (hLn hsz hup) hall;have e2:τ=(S m).2:=agree.heap hag;refine hend fuel listed i₁ w₁ a₁ hsz (λi=>⟨λhi=> ?_,λhi=>hup i hi.1 hi.2⟩) hfu (e2▸hh) (hr.sub λt v hv=> ?_) (e2▸hs) hdf
  ·have h1:i<ops.size:=(by refine Classical.byContradiction λhc=> ?_;simp[Array.getD,hsz,hc]at hi);refine⟨?_,h1⟩;refine Classical.byContradiction λhc=> ?_;have:=hall i (by omega);unfold LD at this;rw[Xi (by omega),this]at hi;cases hi
  ·have:=hag (.reg t);rw[<-hv];exact this
 intro fuel
 induction fuel with
 |zero=>intro rem listed r' τ i₁ w₁ a₁ hsz hnd hrem hup hfu hst hcl hh hr hs hdf;have he:rem=[]:=List.length_eq_zero_iff.1 (by omega);exact done 0 rem listed r' τ i₁ w₁ a₁ hsz hrem hup he (by omega) hst hh hr hs hdf
 |succ fuel ih=>
  intro rem listed r' τ i₁ w₁ a₁ hsz hnd hrem hup hfu hst hcl hh hr hs hdf;by_cases hre0:rem=[]
  ·exact done _ rem listed r' τ i₁ w₁ a₁ hsz hrem hup hre0 (by subst hre0;simp at hfu;omega) hst hh hr hs hdf
  obtain⟨i0,hi0⟩:=List.exists_mem_of_ne_nil rem hre0;obtain⟨hi0m,hi0u⟩:=(hrem i0).1 hi0;refine⟨λhre=>absurd hre (Vy hd hsz i0 (by omega) hi0u),λj hj=> ?_⟩
  ·obtain⟨hu,o,ho,hdeps⟩:=mem_ready.1 hj;have hjs:j<ops.size:=(Array.getElem?_eq_some_iff.1 ho).1;have hjL:¬LD listed j:=λh=>(by unfold LD at h;rw[<-Xi (by omega),hu]at h;cases h);have hspec:=Z7 hd ho;have hbef:∀i,BD ops j i->LD listed i:=λi hi=>by
    obtain⟨e,he,hb,h1⟩:=hspec.2.1 i hi.1 hi.2;have h2:LD listed e.on:=hdeps e he hb;rcases h1 with h1|h1
    ·exact h1▸h2
    ·exact hcl e.on i h2 h1
   have hjn:j<m:=(by refine Classical.byContradiction λhc=> ?_;have:=hbef i0 ⟨by omega,hbar j i0 (by omega) hjs (by omega)⟩;unfold LD at this;rw[Xi (by omega),this]at hi0u;cases hi0u);have hread:∀{l:DL},(RD ops RH j l\/WD ops WH j l)->agree (r',τ) (S j) l:=λhl=>hline.read hst (hLn hsz hup) hcl hjn hjL hbef hl;obtain⟨o',ho',hdst,b,hb,hws,ht,hf⟩:=hF.fact j (by omega) hjn;rw[ho]at ho';injection ho' with ho';subst ho';have hregs:∀t∈tmpsOf o ops,r'.get t=(S j).1.get t:=λt h=>hread (l:=.reg t) (.inl ⟨o,ho,h⟩);have hgu:X0 ops r' o.guard=some b:=(by rw[Uv hregs];exact hb);have hw:=W4 hr hgu
   -- the state behind it
   have next:∀(r2:Q3) (T2:Q4) (I2:Map) (w2:World) (a2:Act),(∀d,o.dst=some d->r2.get d=(S (j+1)).1.get d)->(∀d,o.dst≠some d->r2.get d=r'.get d)->(∀c,c∉WH j->agC T2 τ c)->(∀c∈WH j,agC T2 (S (j+1)).2 c)->
     HR I2 T2 w2->J3 N I2 w2 r2 a2->Step M J w I2 T2 w2->a2.defers=a.defers->wpAnyIn (wr ro) 0 P .any ops X fuel (listed.setIfInBounds j true) a2 w2:=by
    intro r2 T2 I2 w2 a2 h1 h2 h3 h4 hh2 hr2 hs2 hd2;have hset:=λk=>LD.set (listed:=listed) (j:=j) (by omega) k;refine ih (rem.erase j) _ r2 T2 I2 w2 a2 (by simp[hsz]) (hnd.erase j) (λi=> ?_) (λi h5 h6=> ?_) ?_ ?_ ?_ hh2 hr2 hs2 hd2
    ·rw[hnd.mem_erase_iff,hrem];by_cases e:i=j
     ·subst e;simp[Array.getD,hsz,hjs]
     ·rw[_root_.Go.getD_set_ne true (Ne.symm e)];simp[e]
    ·rw[_root_.Go.getD_set_ne true (by omega)];exact hup i h5 h6
    ·have hm:j∈rem:=(hrem j).2 ⟨hjn,hu⟩;rw[List.length_erase_of_mem hm];have:=List.length_pos_of_mem hm;omega
    ·refine ZX.congr (hline.write hst (hLn hsz hup) hcl hjn hjL (s':=(r2,T2)) (λl hl=> ?_) (λl hl=> ?_)) hset
     ·cases l with
      |reg t=>exact h2 t λe=>hl ⟨o,ho,e⟩
      |obj c=>exact h3 (c+1) λe=>hl ⟨o,ho,e⟩
      |len=>exact h3 0 λe=>hl ⟨o,ho,e⟩
     ·obtain⟨o2,ho2,h5⟩:=hl;rw[ho]at ho2;injection ho2 with ho2;subst ho2
      cases l with
      |reg t=>exact h1 t h5
      |obj c=>exact h4 (c+1) h5
      |len=>exact h4 0 h5
    ·intro k i hk hki;rw[hset]at hk⊢;rcases hk with rfl|hk
     ·exact .inr (hbef i hki)
     ·exact .inr (hcl k i hk hki)
   unfold wpOpIn;simp only[ho,hw]
   cases b with
   |true=>
    simp only[if_true];obtain⟨res,he,hstep⟩:=ht rfl;have hst2:=hstep r' τ (λx hx=>ev_agree λt e=>by subst e;exact hregs t (mem_tmps hx)) (λc hc=>by
     cases c with
     |zero=>exact hread (l:=.len) (.inl ⟨o,ho,hc⟩)
     |succ c=>exact hread (l:=.obj c) (.inl ⟨o,ho,hc⟩))
    refine Yk hh hr hdst hst2 λres' T2 I2 w2 a2 hK hh2 hr2 hs2 hd2=> ?_;obtain⟨T3,hg3,h3,h4⟩:=hK;obtain⟨I3,hh3,hr3,hs3⟩:=hg3 i₁ w₁ a₁ hh hr I2 w2 a2 hh2 hr2 hs2;exact next _ T3 I3 w2 a2 (λd e=>by rw[he,e];exact WW res) (λd e=>Xt res e) h3 h4 hh3 hr3 (hs3 M J w hh0 hm0 hs) (hd2.trans hdf)
   |false=>
    simp only[Bool.false_eq_true,if_false];obtain⟨he1,he2,he3⟩:=hf rfl;refine⟨λ_ _=>trivial,?_⟩;exact next (r'.drop o.dst) τ i₁ w₁ _ (λd e=>by rw[he1,e];exact WW none) (λd e=>Xt (r:=r') none e) (λc _=>agC.refl τ c) (λc hc=>by rw[he3]at hc;cases hc) hh (hr.drop (K0 hdst)) hs
     ((by cases o.dst<;>rfl:(a₁.put o.dst undef).defers=a₁.defers).trans hdf)
end
section
variable {P:Program}{N n0:Nat}{ro:Option Nat}{yk:Option YI}
theorem drwY_ok(hm:P.follows .mixedOrders=true){E:Env}(hE:Xk P E)(hyk:Qp P n0 E yk){β:Type}{id:Nat}{ops:Array Oper}{cs:List COp}{ks:List (List Nat)}(hst:QO ops ops.toList ks=some cs)(hd:Yh ops=true){r:SR}{J:SH}{K:SR->SH->Option β}{b:β}
  (h:Km E N (cs.take (barK cs (Region.before ops).toList 0)) 0 (Region.before ops).toList [] r J (λr' S'=>K6 E N (cs.drop (barK cs (Region.before ops).toList 0)) r' S' K)=some b):
  JH P N ro n0 yk (.region id ops true) r.den (SH.den J) λe ρ τ=>e=.normal/\∃r' S',WR ρ r'.den/\WH τ (SH.den S')/\K r' S'=some b:=λI0 S0 w0 ds h0 hn hY M w a ms hh hr hs hdf hmk=>by
 obtain⟨_,hk2,hk3⟩:=barK_ok cs (Region.before ops).toList 0;have hlen:cs.length=ops.size:=by have:=Uc hst;simpa using this
 generalize hk:barK cs (Region.before ops).toList 0=k at h hk2 hk3;have hms:k<=ops.size:=by omega
 have hbar:∀j i,k<=j->j<ops.size->i<j->((Region.before ops).getD j 0).testBit i=true:=λj i h1 h2 h3=>by have:=hk3 j (by omega) (by omega);rw[Nat.zero_add]at this;have:=fullB_ok this i h3;rw[<-this];congr 1;simp[Array.getD_eq_getD_getElem?,List.getD_eq_getElem?_getD]
 have hdr:=Zl (P:=P) hE (cs.take k) (t:=⟨⟩) h .nil J6.rfl';obtain⟨S,RH,WH,hF,hS,⟨r',S',hw1,hw2,hops⟩,_⟩:=V8 (mm:=(SH.den J).length) hms (ops.toList.take k) (cs.take k) ks (qw k hst) 0 (by simp) (log:=[]) (bef:=(Region.before ops).toList) (by simpa using hdr);rw[show max 0 k=k by omega]at hw1 hw2;obtain⟨ks',hst'⟩:=qx k hst;have hr0:=Step.refl M (SH.den J) w;have hst0:Step M (SH.den J) w M (SH.den J) { w with drawn:=w.drawn+1 }:=⟨hr0.len,Nat.le_refl _,rfl,rfl,hr0.keep,hr0.none,hr0.new,rfl,rfl,λ_ _=>rfl,hr0.frame⟩;have hh':HR M (SH.den J) { w with drawn:=w.drawn+1 }:=(hh.other (w':={ w with drawn:=w.drawn+1 }) λ_ _=>rfl).1;refine wpIn_region_any hm ?_;refine draw_pre (J:=SH.den J) hms hd hbar hF hh (Nat.le_refl _) (λfuel listed i₁ w₁ a₁ hsz hl hfu hh1 hr1 hs1 hd1=> ?_) ops.size (List.range k) _ r.den (SH.den J) M { w with drawn:=w.drawn+1 } a (by simp) List.nodup_range (λi=> ?_) (λi h1 h2=> ?_) (by simp;omega) ?_ ?_ hh' (hr.step hh hst0) hst0 rfl
 ·refine forced hd (ops.size - k) k fuel listed a₁ w₁ (by omega) hfu hsz hl hbar ?_;obtain⟨I2,h1,h2,h3⟩:=((QI hw1 hw2:Qc N n0 _ _ _ _)) _ _ _ hh1 hr1;exact opsS_ok (ro:=ro) hE hyk h0 hn hY (ops.toList.drop k) (cs.drop k) ks' hst' k rfl hops h1 h2 (h3 I0 S0 w0 h0 hn (hs.trans hs1)) (ms:=ms) (hd1.trans hdf) (hmk.step hh hs1)
 ·simp only[List.mem_range,Array.getD_eq_getD_getElem?];constructor
  ·intro hi;exact⟨hi,by simp[show i<ops.size by omega]⟩
  ·exact λh=>h.1
 ·simp[Array.getD_eq_getD_getElem?,h2]
 ·intro l;refine .inr ⟨λj hj=> ?_,by rw[hS];exact agree.refl _ _⟩;unfold LD at hj;rw[Array.getD_eq_getD_getElem?]at hj;by_cases hi:j<ops.size<;>simp[hi]at hj
 ·intro k i hk;unfold LD at hk;rw[Array.getD_eq_getD_getElem?]at hk;by_cases hi:k<ops.size<;>simp[hi]at hk
end
end Go.Abs
