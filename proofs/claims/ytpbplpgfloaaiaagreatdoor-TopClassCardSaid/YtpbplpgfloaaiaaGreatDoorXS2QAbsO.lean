/- A part of the proof. -/
import Derived.Test.YtpbplpgfloaaiaaGreatDoorXS2QAbsN
set_option linter.all false
namespace Go.Abs
variable [Gl]
section
variable {P:Program}{N:Nat}{ro:Option Nat}
def Yw{ops:Array Oper}(h:Kx ops=true){j:Nat}{o:Oper}(hj:ops[j]? =some o):
  (∀e∈o.after,Region.binds .any e=true->e.on<j)/\
  (∀i,i<j->((Region.before ops).getD j 0).testBit i=true->∃e∈o.after,Region.binds .any e=true/\(e.on=i\/(i<e.on/\((Region.before ops).getD e.on 0).testBit i=true)))/\
  (∀i p,i<j->ops[i]? =some p->(∃d,(p.dst=some d/\(d∈tmpsOf o ops\/o.dst=some d))\/(o.dst=some d/\d∈tmpsOf p ops))->((Region.before ops).getD j 0).testBit i=true):=by
 unfold Kx at h;simp only[List.all_eq_true]at h;have hmem:(o,j)∈ops.toList.zipIdx:=by rw[Cd];exact⟨j,by simp[hj]⟩
 have h1:=h (o,j) hmem;simp only[AJ,List.all_eq_true,Bg,Array.all_eq_true_iff_forall_mem,Cn,C2,B9,Array.any_eq_true]at h1;refine⟨λe he hb=> ?_,λi hi hb=> ?_,λi p hi hp hc=> ?_⟩
 ·rcases h1.1 e he with h2|h2
  ·rw[hb]at h2;cases h2
  ·exact h2
 ·rcases (h1.2 i hi).1 with h2|⟨k,hk,h2⟩
  ·rw[hb]at h2;cases h2
  ·refine⟨_,Array.getElem_mem hk,h2.1,?_⟩;rcases h2.2 with h3|h3
   ·exact .inl (by simpa using h3)
   ·exact .inr h3
 ·have h2:=(h1.2 i hi).2;rw[hp]at h2;simp only[Cn,C2]at h2;rcases h2 with h2|h2
  ·exfalso;obtain⟨d,h3⟩:=hc;simp only[CH]at h2;rcases h3 with ⟨h4,h5⟩|⟨h4,h5⟩
   ·rw[h4]at h2;simp only[CH]at h2;rcases h5 with h5|h5
    ·simp[h5]at h2
    ·rw[h5]at h2;simp at h2
   ·rw[h4]at h2;simp[h5]at h2
  ·exact h2
def at_agree{r r':QB}{t:Nat}(h:r'.get t=r.get t):r'.at t=r.at t:=by unfold QB.at;rw[h]
def ev_agree{r r':QB}{x:Operand}(h:∀t,x=.tmp t->r'.get t=r.get t):ev r' x=ev r x:=by
 cases x with
 |tmp t=>exact at_agree (h t rfl)
 |_=>rfl
def mem_tmps{o:Oper}{ops:Array Oper}{t:Nat}(h:.tmp t∈o.op.operands):t∈tmpsOf o ops:=by unfold tmpsOf;refine B0 _ (List.mem_filterMap.2 ⟨.tmp t,by simpa using h,rfl⟩)
def guardE_agree{ops:Array Oper}{o:Oper}{r r':QB}(h:∀t∈tmpsOf o ops,r'.get t=r.get t):Jn ops r' o.guard=Jn ops r o.guard:=by
 cases hg:o.guard with
 |none=>rfl
 |some p=>
  obtain⟨j,want⟩:=p;simp only[Jn];split
  ·rename_i d hd;rw[at_agree (h d (by unfold tmpsOf;rw[hg];simp[hd]))]
  ·rfl
def putR_same{r r':QB}{d:Nat}(res:Option AV):(r.JM (some d) res).get d=(r'.JM (some d) res).get d:=by
 cases res with
 |none=>simp[QB.JM,QB.drop,QB.Qk]
 |some v=>simp[QB.JM,QB.put,QB.Qk]
def Zo{r:QB}{dst:Option Nat}{d:Nat}(res:Option AV)(h:dst≠some d):(r.JM dst res).get d=r.get d:=by
 cases dst with
 |none=>cases res<;>rfl
 |some k=>
  have:k≠d:=λe=>h (by rw[e])
  cases res with
  |none=>simp[QB.JM,QB.drop,QB.J7 _ _ this]
  |some v=>simp[QB.JM,QB.put,QB.J7 _ _ this]
def RD(ops:Array Oper)(RH:Nat->List Nat)(j:Nat)(l:DL):Prop:=∃o,ops[j]? =some o/\match l with
 |.reg t=>t∈tmpsOf o ops
 |.obj b=>b+1∈RH j
 |.len=>0∈RH j
def WD(ops:Array Oper)(WH:Nat->List Nat)(j:Nat)(l:DL):Prop:=∃o,ops[j]? =some o/\match l with
 |.reg t=>o.dst=some t
 |.obj b=>b+1∈WH j
 |.len=>0∈WH j
def BD(ops:Array Oper)(j i:Nat):Prop:=i<j/\((Region.before ops).getD j 0).testBit i=true
def facts_line{mm:Nat}{ops:Array Oper}{S:Nat->St}{RH WH:Nat->List Nat}(hd:Kx ops=true)(hF:Ud P N mm ops (Region.before ops).toList 0 ops.size S RH WH):
  q7 ops.size S (RD ops RH) (WD ops WH) (BD ops) where
 same:=λj l hj hw=>by
  obtain⟨o,ho,_,b,hb,hws,ht,hf⟩:=hF.fact j (by omega) hj
  cases l with
  |reg t=>
   have hne:o.dst≠some t:=λe=>hw ⟨o,ho,e⟩;show(S (j+1)).1.get t=(S j).1.get t
   cases b with
   |true=>obtain⟨res,h1,_⟩:=ht rfl;rw[h1];exact Zo res hne
   |false=>rw[(hf rfl).1];exact Zo (r:=(S j).1) none hne
  |obj b=>exact hws (b+1) λhc=>hw ⟨o,ho,hc⟩
  |len=>exact hws 0 λhc=>hw ⟨o,ho,hc⟩
 order:=λi j hij hj hc=>by
  refine⟨hij,?_⟩;obtain⟨l,hc⟩:=hc;have hi:i<ops.size:=(by omega);obtain⟨_,_,hclash⟩:=Yw hd (Bp hj)
  cases hb:((Region.before ops).getD j 0).testBit i with
  |true=>rfl
  |false=>
   exfalso;have hb':((Region.before ops).toList.getD j 0).testBit i=false:=(by rw[<-hb];congr 1;simp[Ay,List.getD_eq_getElem?_getD]);have hord:=hF.order i j (by omega) hij hj hb'
   cases l with
   |reg t=>
    have:((Region.before ops).getD j 0).testBit i=true:=by
     rcases hc with ⟨⟨p,hp,h1⟩,⟨o,ho,h2⟩|⟨o,ho,h2⟩⟩|⟨⟨p,hp,h1⟩,⟨o,ho,h2⟩⟩
     ·have e:o=ops[j]:=(by rw[Bp hj]at ho;injection ho with ho;exact ho.symm);subst e;exact hclash i p hij hp ⟨t,.inl ⟨h1,.inr h2⟩⟩
     ·have e:o=ops[j]:=(by rw[Bp hj]at ho;injection ho with ho;exact ho.symm);subst e;exact hclash i p hij hp ⟨t,.inl ⟨h1,.inl h2⟩⟩
     ·have e:o=ops[j]:=(by rw[Bp hj]at ho;injection ho with ho;exact ho.symm);subst e;exact hclash i p hij hp ⟨t,.inr ⟨h2,h1⟩⟩
    rw[hb]at this;cases this
   |obj b=>
    rcases hc with ⟨⟨p,hp,h1⟩,⟨o,ho,h2⟩|⟨o,ho,h2⟩⟩|⟨⟨p,hp,h1⟩,⟨o,ho,h2⟩⟩
    ·exact(hord.1 _ h1).2 h2
    ·exact(hord.1 _ h1).1 h2
    ·exact hord.2 _ h2 h1
   |len=>
    rcases hc with ⟨⟨p,hp,h1⟩,⟨o,ho,h2⟩|⟨o,ho,h2⟩⟩|⟨⟨p,hp,h1⟩,⟨o,ho,h2⟩⟩
    ·exact(hord.1 _ h1).2 h2
    ·exact(hord.1 _ h1).1 h2
    ·exact hord.2 _ h2 h1
def UE{listed:Array Bool}{i:Nat}(h:i<listed.size):listed.getD i true=listed.getD i false:=by simp[Array.getD,h]
def any_ready{ops:Array Oper}(hd:Kx ops=true){listed:Array Bool}(hsz:listed.size=ops.size):∀(j:Nat),j<ops.size->listed.getD j true=false->Region.ready .any ops listed≠[]:=by
 intro j
 induction j using Nat.strongRecOn with
 |_ j ih=>
  intro hj hu;have ho:=Bp hj;by_cases hall:∀e∈ops[j].after,Region.binds .any e=true->listed.getD e.on false=true
  ·intro he;have:j∈Region.ready .any ops listed:=mem_ready.2 ⟨hu,_,ho,hall⟩;rw[he]at this;cases this
  ·have:∃e,e∈ops[j].after/\Region.binds .any e=true/\listed.getD e.on false=false:=by
    refine CF λhc=>hall λe he hb=> ?_
    cases h:listed.getD e.on false with
    |true=>rfl
    |false=>exact absurd ⟨e,he,hb,h⟩ hc
   obtain⟨e,he,hb,hl⟩:=this;have hlt:=(Yw hd ho).1 e he hb;exact ih e.on hlt (by omega) (by rw[UE (by omega)];exact hl)
def LD(listed:Array Bool)(i:Nat):Prop:=listed.getD i false=true
def LD.set{listed:Array Bool}{j:Nat}(hj:j<listed.size)(k:Nat):LD (listed.setIfInBounds j true) k↔k=j\/LD listed k:=by
 unfold LD;by_cases h:k=j
 ·subst h;simp[Array.getD,hj]
 ·simp only[h,false_or];rw[_root_.Go.getD_set_ne false (Cf h)]
def Y4.congr{S:Nat->St}{W:Nat->DL->Prop}{L L':Nat->Prop}{s:St}(h:Y4 S W L s)(hl:∀k,L' k↔L k):Y4 S W L' s:=by have:L'=L:=funext λk=>propext (hl k);rw[this];exact h
def draw_go{mm:Nat}{ops:Array Oper}{Q:Exit->QB->QA->Prop}{S:Nat->St}{RH WH:Nat->List Nat}(hd:Kx ops=true)(hF:Ud P N mm ops (Region.before ops).toList 0 ops.size S RH WH)
  (hQ:Q .normal (S ops.size).1 (S ops.size).2) {O:Map} {M:QA} {w:World} {a:Act} (hh0:HR O M w) (hm0:M.length<=mm):
  ∀(fuel:Nat) (rem:List Nat) (listed:Array Bool) (r':QB) (τ:QA) (i₁:Map) (w₁:World) (a₁:Act),listed.size=ops.size->rem.Nodup->(∀i,i∈rem↔i<ops.size/\listed.getD i true=false)->rem.length<=fuel->
   Y4 S (WD ops WH) (LD listed) (r',τ)->(∀k i,LD listed k->BD ops k i->LD listed i)->HR i₁ τ w₁->JP N i₁ w₁ r' a₁->Step O M w i₁ τ w₁->a₁.defers=a.defers->
   wpAnyIn (wr ro) 0 P .any ops (post N Q O M w a) fuel listed a₁ w₁:=by
 have hline:=facts_line hd hF;have hLn:∀{listed:Array Bool},listed.size=ops.size->∀k,LD listed k->k<ops.size:=λhsz k hk=>by
  unfold LD at hk;by_cases h:k<ops.size
  ·exact h
  ·simp[Array.getD,hsz,h]at hk
 have done:∀(rem:List Nat) (listed:Array Bool) (r':QB) (τ:QA) (i₁:Map) (w₁:World) (a₁:Act),listed.size=ops.size->(∀i,i∈rem↔i<ops.size/\listed.getD i true=false)->rem=[]->
   Y4 S (WD ops WH) (LD listed) (r',τ)->HR i₁ τ w₁->JP N i₁ w₁ r' a₁->Step O M w i₁ τ w₁->a₁.defers=a.defers->post N Q O M w a .normal a₁ w₁:=by
  intro rem listed r' τ i₁ w₁ a₁ hsz hrem he hst hh hr hs hdf;have hall:∀k,k<ops.size->LD listed k:=λk hk=>by
   have:¬k∈rem:=(by rw[he];simp);rw[hrem]at this;unfold LD;rw[<-UE (by omega)]
   cases h:listed.getD k true with
   |true=>rfl
   |false=>exact absurd ⟨hk,h⟩ this
  have hag:=hline.done hst (hLn hsz) hall;have e2:τ=(S ops.size).2:=agree.heap hag;refine⟨trivial,(S ops.size).1,(S ops.size).2,i₁,[],hQ,e2▸hh,hr.sub λt v hv=> ?_,e2▸hs,hdf,Marks.nil _ _⟩;have:=hag (.reg t);rw[<-hv];exact this
 intro fuel
 induction fuel with
 |zero=>intro rem listed r' τ i₁ w₁ a₁ hsz hnd hrem hfu hst hcl hh hr hs hdf;have he:rem=[]:=Au.1 (by omega);refine⟨?_,done rem listed r' τ i₁ w₁ a₁ hsz hrem he hst hh hr hs hdf⟩;refine CS.2 λj hj=> ?_;obtain⟨hu,o,ho,_⟩:=mem_ready.1 hj;have:j∈rem:=(hrem j).2 ⟨(A8.1 ho).1,hu⟩;rw[he]at this;cases this
 |succ fuel ih=>
  intro rem listed r' τ i₁ w₁ a₁ hsz hnd hrem hfu hst hcl hh hr hs hdf;refine⟨λhre=> ?_,λj hj=> ?_⟩
  ·refine done rem listed r' τ i₁ w₁ a₁ hsz hrem ?_ hst hh hr hs hdf;refine CS.2 λj hj=> ?_;obtain⟨h1,h2⟩:=(hrem j).1 hj;exact any_ready hd hsz j h1 h2 hre
  ·obtain⟨hu,o,ho,hdeps⟩:=mem_ready.1 hj;have hjn:j<ops.size:=(A8.1 ho).1;have hjL:¬LD listed j:=λh=>(by unfold LD at h;rw[<-UE (by omega),hu]at h;cases h);have hspec:=Yw hd ho;have hbef:∀i,BD ops j i->LD listed i:=λi hi=>by
    obtain⟨e,he,hb,h1⟩:=hspec.2.1 i hi.1 hi.2;have h2:LD listed e.on:=hdeps e he hb;rcases h1 with h1|h1
    ·exact h1▸h2
    ·exact hcl e.on i h2 h1
   have hread:∀{l:DL},(RD ops RH j l\/WD ops WH j l)->agree (r',τ) (S j) l:=λhl=>hline.read hst (hLn hsz) hcl hjn hjL hbef hl;obtain⟨o',ho',hdst,b,hb,hws,ht,hf⟩:=hF.fact j (by omega) hjn;rw[ho]at ho';injection ho' with ho';subst ho';have hregs:∀t∈tmpsOf o ops,r'.get t=(S j).1.get t:=λt h=>hread (l:=.reg t) (.inl ⟨o,ho,h⟩);have hgu:Jn ops r' o.guard=some b:=(by rw[guardE_agree hregs];exact hb);have hw:=Wc hr hgu
   -- the state behind it
   have next:∀(r2:QB) (T2:QA) (I2:Map) (w2:World) (a2:Act),(∀d,o.dst=some d->r2.get d=(S (j+1)).1.get d)->(∀d,o.dst≠some d->r2.get d=r'.get d)->(∀c,c∉WH j->agC T2 τ c)->(∀c∈WH j,agC T2 (S (j+1)).2 c)->
     HR I2 T2 w2->JP N I2 w2 r2 a2->Step O M w I2 T2 w2->a2.defers=a.defers->wpAnyIn (wr ro) 0 P .any ops (post N Q O M w a) fuel (listed.setIfInBounds j true) a2 w2:=by
    intro r2 T2 I2 w2 a2 h1 h2 h3 h4 hh2 hr2 hs2 hd2;have hset:=λk=>LD.set (listed:=listed) (j:=j) (by omega) k;refine ih (rem.erase j) _ r2 T2 I2 w2 a2 (by simp[hsz]) (hnd.erase j) (λi=> ?_) ?_ ?_ ?_ hh2 hr2 hs2 hd2
    ·rw[hnd.mem_erase_iff,hrem];by_cases e:i=j
     ·subst e;simp[Array.getD,hsz,hjn]
     ·rw[_root_.Go.getD_set_ne true (Cf e)];simp[e]
    ·have hm:j∈rem:=(hrem j).2 ⟨hjn,hu⟩;rw[List.length_erase_of_mem hm];omega
    ·refine Y4.congr (hline.write hst (hLn hsz) hcl hjn hjL (s':=(r2,T2)) (λl hl=> ?_) (λl hl=> ?_)) hset
     ·cases l with
      |reg t=>exact h2 t λe=>hl ⟨o,ho,e⟩
      |obj c=>exact h3 (c+1) λe=>hl ⟨o,ho,e⟩
      |len=>exact h3 0 λe=>hl ⟨o,ho,e⟩
     ·obtain⟨o2,ho2,h5⟩:=hl;rw[ho]at ho2;injection ho2 with ho2;subst ho2
      cases l with
      |reg t=>exact h1 t h5
      |obj c=>exact h4 (c+1) h5
      |len=>exact h4 0 h5
    ·intro k i hk hki;rw[hset]at hk⊢;rcases hk with rfl|hk
     ·exact .inr (hbef i hki)
     ·exact .inr (hcl k i hk hki)
   unfold wpOpIn;simp only[ho,hw]
   cases b with
   |true=>
    simp only[Aq];obtain⟨res,he,hstep⟩:=ht rfl;have hst2:=hstep r' τ (λx hx=>ev_agree λt e=>by subst e;exact hregs t (mem_tmps hx)) (λc hc=>by
     cases c with
     |zero=>exact hread (l:=.len) (.inl ⟨o,ho,hc⟩)
     |succ c=>exact hread (l:=.obj c) (.inl ⟨o,ho,hc⟩))
    refine Zm hh hr hdst hst2 λres' T2 I2 w2 a2 hK hh2 hr2 hs2 hd2=> ?_;obtain⟨T3,hg3,h3,h4⟩:=hK;obtain⟨I3,hh3,hr3,hs3⟩:=hg3 i₁ w₁ a₁ hh hr I2 w2 a2 hh2 hr2 hs2;exact next _ T3 I3 w2 a2 (λd e=>by rw[he,e];exact putR_same res) (λd e=>Zo res e) h3 h4 hh3 hr3 (hs3 O M w hh0 hm0 hs) (hd2.trans hdf)
   |false=>
    simp only[Ab,Al];obtain⟨he1,he2,he3⟩:=hf rfl;refine⟨λ_ _=>trivial,?_⟩;exact next (r'.drop o.dst) τ i₁ w₁ _ (λd e=>by rw[he1,e];exact putR_same none) (λd e=>Zo (r:=r') none e) (λc _=>agC.refl τ c) (λc hc=>by rw[he3]at hc;cases hc) hh (hr.drop (YY hdst)) hs
     ((by cases o.dst<;>rfl:(a₁.put o.dst undef).defers=a₁.defers).trans hdf)
def draw_ok(hm:P.follows .mixedOrders=true){cs:List COp}{bef:List Nat}{r:QB}{M:QA}{Q:Exit->QB->QA->Prop}{t:Tag Q}{t':Tag (Q .normal)}(h:Vk P N cs 0 bef [] r M (Q .normal) t'):DrawQ P N ro cs bef r M Q t:=by
 intro id ops ks hs hb hd O w a hh hr;subst hb;obtain⟨S,RH,WH,hF,hS,hK,_⟩:=Ub (mm:=M.length) ops.toList cs ks hs 0 (by simp) (log:=[]) (r:=r) (M:=M) (t:=t') (bef:=(Region.before ops).toList) (by simpa using h);have hr0:=Step.refl O M w;have hst:Step O M w O M { w with drawn:=w.drawn+1 }:=⟨hr0.len,A5 _,rfl,rfl,hr0.keep,hr0.none,hr0.new,rfl,rfl,λ_ _=>rfl,hr0.frame⟩;have hh':HR O M { w with drawn:=w.drawn+1 }:=(hh.other (w':={ w with drawn:=w.drawn+1 }) λ_ _=>rfl).1;refine wpIn_region_any hm ?_;refine draw_go (M:=M) hd hF (by simpa using hK) hh (A5 _) ops.size (List.range ops.size) _ r M O { w with drawn:=w.drawn+1 } a (by simp) List.nodup_range (λi=> ?_) (by simp) ?_ ?_ hh' (hr.step hh hst) hst rfl
 ·simp only[Bg,Ay];constructor
  ·intro hi;exact⟨hi,by simp[hi]⟩
  ·exact λh=>h.1
 ·intro l;refine .inr ⟨λj hj=> ?_,by rw[hS];exact agree.refl _ _⟩;unfold LD at hj;rw[Ay]at hj;by_cases hi:j<ops.size<;>simp[hi]at hj
 ·intro k i hk;unfold LD at hk;rw[Ay]at hk;by_cases hi:k<ops.size<;>simp[hi]at hk
end
end Go.Abs
