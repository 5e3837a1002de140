/- A part of the proof. -/
import Derived.Test.YtpbplpgfloaaiaaGreatDoorXR2QSyI
set_option linter.all false
namespace Go.Abs
variable [Gl]
open Go.WideShapes
def plainT:T->Bool
 |.imm .. =>false
 |.iptr _=>false
 |.fn .. =>false
 |.mp (some _)=>false
 |_=>true
def X5:Cell->Bool
 |.t x=>plainT x
 |_=>true
def plainV:AV->Prop
 |.c x=>X5 x=true
 |.agg xs=>∀c∈xs,X5 c=true
 |.tup xs=>∀p∈xs,match p with|.inl c=>X5 c=true|.inr cs=>∀c∈cs,X5 c=true
section
variable {P:Program}{J:Q1}{ι I':Map}{w w':World}
theorem TR.plain{U U':Nat->Prop}{x:T}{v:Value}(hp:plainT x=true)(h:TR U w x v):TR U' w x v:=by
 cases h with
 |bool b=>exact .bool b
 |int k n=>exact .int k n
 |str s=>exact .str s
 |nilp=>exact .nilp
 |imm0=>cases hp
 |imm=>cases hp
 |iptr=>cases hp
 |fn=>cases hp
 |nilf=>exact .nilf
 |junk v h=>exact .junk v h
 |mpn=>exact .mpn
 |mp=>cases hp
theorem VC{is:List Nat}{n:Nat}{c:Cell}{v:Value}(hp:X5 c=true)(hi:∀k s,ι k=some s->I' (Je is n k)=some s)(hx:I'.ex=ι.ex)(h:CR ι w c v):CR I' w (upC is n c) v:=by
 have hr:∀{r:Ref} {ok:JH->Prop},J0 ι r ok->J0 I' (upR is n r) ok:=λ{r ok} ⟨s,h1,h2,h3⟩=>⟨s,hi _ _ h1,h2,h3⟩
 cases c with
 |t x=>exact TR.plain hp h
 |ptr r=>obtain⟨a,e,h1⟩:=h;exact⟨a,e,hr h1⟩
 |sl r l c=>obtain⟨a,c,e,h1,h2⟩:=h;exact⟨a,c,e,h1,hr h2⟩
 |clo f rs=>refine cloR.imp (I':=I') (caps':=rs.map (upR is n)) h (by rw[hx]) (by simp) λ_ i hi hi' a h4=> ?_;simp only[AX];exact hr h4
theorem aggR_mapP{f:Cell->Cell}{w w':World}{xs:List Cell}(h:∀c,c∈xs->∀v,CR ι w c v->CR I' w' (f c) v){v:Value}(ha:Jf ι w xs v):Jf I' w' (xs.map f) v:=by obtain⟨arr,e,h1,h2⟩:=ha;refine⟨arr,e,by simpa using h1,λi hi=> ?_⟩;obtain⟨u,h3,h4⟩:=h2 i (by simpa using hi);exact⟨u,h3,by rw[AX];exact h _ (AH _) _ h4⟩
theorem VR_upP{is:List Nat}{n:Nat}{x:AV}{v:Value}(hp:plainV x)(hi:∀k s,ι k=some s->I' (Je is n k)=some s)(hx:I'.ex=ι.ex)(h:VR ι w x v):VR I' w (upV is n x) v:=by
 cases x with
 |c x=>exact VC hp hi hx h
 |agg xs=>exact aggR_mapP (λc hc v=>VC (hp c hc) hi hx) h
 |tup xs=>
  obtain⟨arr,e,h1,h2⟩:=h;refine⟨arr,e,by simpa using h1,λi hi'=> ?_⟩;obtain⟨u,h3,h4⟩:=h2 i (by simpa using hi');refine⟨u,h3,?_⟩;have hq:=hp (xs[i]'(by simpa using hi')) (AH _);rw[AX];generalize xs[i]'(by simpa using hi')=y at h4 hq⊢
  cases y with
  |inl x=>exact VC hq hi hx h4
  |inr xs=>exact aggR_mapP (λc hc v=>VC (hq c hc) hi hx) h4
theorem upId_nil(n k:Nat):Je [] n k=n+k:=by simp[Je]
theorem fn_read{f:FuncId}{args args0:List AV}{Q:AV->Q1->Prop}(k:Nat)(hl:args0.length=args.length)(hf:∀(i:Nat) x y,args[i]? =some x->args0[i]? =some y->XL k J 0 x=some y)
   (h:Qo P f args0 [] λv S'=>Q v S'/\plainV v/\∀o∈S',∀c∈o.cs,X5 c=true):
   Qo P f args J λv S'=>∃v0 T',Q v0 T'/\v=upV [] J.length v0/\S'=J++T'.map (upO [] J.length):=by
 refine⟨h.1,fun ι w cargs hgl hh ha=>BI (h.2 (cut 0 ι) w cargs (hgl.mono λb hu _=>⟨cut_un hu,rfl⟩) (frzH_ok (k:=k) hh (by simp[Wp,J6])) ⟨by rw[hl];exact ha.1,λi hi=> ?_⟩) ?_⟩
 · obtain⟨u,h1,h2⟩:=ha.2 i (by omega)
   exact⟨u,h1,frzV_ok hh h2 (hf i _ _ (A4 _) (A4 _))⟩
 · rintro e w' ⟨v,T',I',cv,rfl,⟨hq,hp,hpo⟩,hv,hh',hs⟩
   have hnone:∀id,(cut 0 ι) id=none:=λid=>(by simp[cut]);have hres:I'.res=ι.res:=hs.res;have hnew:∀id s l,I' id=some s->s.loc=some l->w.heap.size<=l.blk:=λid s l h1 h2=>by
     rcases hs.new id s l h1 h2 with h3|⟨id',s',l',h3,_⟩
     · exact h3
     · rw[hnone]at h3;cases h3
   have hlt:∀id s l,ι id=some s->s.loc=some l->l.blk<w.heap.size:=λid s l h1 h2=>(by obtain⟨o,_,ho⟩:=hh.obj id s h1;have h3:=ho.2.2;rw[h2]at h3;obtain⟨⟨cells,elem,h4,_⟩,_⟩:=h3;exact isRow.lt ⟨cells,elem,_,h4⟩);have hkeep:∀id s l,ι id=some s->s.loc=some l->w'.heap[l.blk]? =w.heap[l.blk]? :=λid s l h1 h2=>by
     refine hs.frame _ (hlt id s l h1 h2) ?_;rintro(⟨id',s',l',h3,_⟩|hr)
     · rw[hnone]at h3;cases h3
     · exact hh.resNo id s l h1 h2 hr
   generalize hio:(⟨λid=>if id<J.length then ι id else I' (id - J.length),ι.res,ι.ex⟩:Map)=io;have o1:∀id,id<J.length->io id=ι id:=λid h=>(by subst hio;simp[h]);have o2:∀id,¬id<J.length->io id=I' (id - J.length):=λid h=>(by subst hio;simp[h]);have o3:io.res=ι.res:=(by subst hio;rfl);have o3x:io.ex=ι.ex:=(by subst hio;rfl);have up:∀j s,I' j=some s->io (Je [] J.length j)=some s:=λj s hj=>by rw[upId_nil,o2 _ (by omega),show J.length+j - J.length=j by omega];exact hj
   have step:Step ι J w io (J++T'.map (upO [] J.length)) w':={
     len:=by simp
     size:=hs.size
     os:=hs.os
     out:=hs.out
     keep:=λid s h=>⟨s,by rw[o1 _ (hh.lt h)];exact h,A6 _,λ_=>rfl⟩
     none:=λid h1 h2=>by rw[o1 _ h1];exact h2
     new:=λid s' l' h1 h2=>by
       by_cases g:id<J.length
       · rw[o1 _ g]at h1;exact .inr ⟨id,s',l',h1,h2,rfl⟩
       · rw[o2 _ g]at h1;exact .inl (hnew _ _ _ h1 h2)
     res:=o3
     ex:=o3x
     resKeep:=λb hb=>hs.resKeep b hb
     frame:=λb hb hu=>hs.frame b hb λhm=>hu (by
       rcases hm with ⟨id',s',l',h3,_⟩|hr
       · rw[hnone]at h3;cases h3
       · exact .inr hr) }
   refine⟨upV [] J.length v,J++T'.map (upO [] J.length),io,cv,rfl,⟨v,T',hq,rfl,rfl⟩,VR_upP hp up (o3x.trans hs.ex.symm) hv,⟨λid s h=> ?_,λid id' s s' l l' h1 h2 h3 h4 h5=> ?_,λb hb=> ?_,λid s l h1 h2 hr=> ?_⟩,step⟩
   · by_cases g:id<J.length
     · rw[o1 _ g]at h
       obtain⟨o,h5,h6⟩:=hh.obj id s h;exact⟨o,by rw[AK g];exact h5,h6.congr step λl hl'=>hkeep id s l h hl'⟩
     · rw[o2 _ g]at h
       obtain⟨o,h5,h6⟩:=hh'.obj _ s h;refine⟨upO [] J.length o,by rw[AS (by omega),BK,h5];rfl,h6.1,h6.2.1,?_⟩;have h7:=h6.2.2
       cases hl':s.loc with
       |none=>rw[hl']at h7;simp[upO,h7]
       |some l=>rw[hl']at h7;refine⟨h7.1,by simpa [upO] using h7.2.1,λj hj=> ?_⟩;obtain⟨u,h8,h9⟩:=h7.2.2 j (by simpa [upO] using hj);refine⟨u,h8,?_⟩;simp only[upO,AX];exact VC (hpo o (BM h5) _ (AH _)) up (o3x.trans hs.ex.symm) h9
   · by_cases g:id<J.length<;>by_cases g':id'<J.length
     · rw[o1 _ g]at h1;rw[o1 _ g']at h2
       exact hh.inj id id' s s' l l' h1 h2 h3 h4 h5
     · rw[o1 _ g]at h1;rw[o2 _ g']at h2
       have:=hlt _ _ _ h1 h3;have:=hnew _ _ _ h2 h4;omega
     · rw[o2 _ g]at h1;rw[o1 _ g']at h2
       have:=hlt _ _ _ h2 h4;have:=hnew _ _ _ h1 h3;omega
     · rw[o2 _ g]at h1;rw[o2 _ g']at h2
       have:=hh'.inj _ _ s s' l l' h1 h2 h3 h4 h5;omega
   · exact hh'.resRow b (by rw[hres];rw[o3]at hb;exact hb)
   · rw[o3]at hr
     by_cases g:id<J.length
     · rw[o1 _ g]at h1;exact hh.resNo id s l h1 h2 hr
     · rw[o2 _ g]at h1;exact hh'.resNo _ s l h1 h2 (by rw[hres];exact hr)
end
end Go.Abs
