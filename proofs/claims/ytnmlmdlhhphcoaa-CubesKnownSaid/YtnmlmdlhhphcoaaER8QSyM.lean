/- A part of the proof. -/
import Derived.Test.YtnmlmdlhhphcoaaER8QSyI
set_option linter.all false
namespace Go.Abs
variable [Gl]
open Go.WideShapes
def plainT:T->Bool
 |.imm .. =>false
 |.iptr _=>false
 |.fn .. =>false
 |_=>true
def Zv:Cell->Bool
 |.t x=>plainT x
 |_=>true
def plainV:AV->Prop
 |.c x=>Zv x=true
 |.agg xs=>∀c∈xs,Zv c=true
 |.tup xs=>∀p∈xs,match p with|.inl c=>Zv c=true|.inr cs=>∀c∈cs,Zv c=true
section
variable {P:Program}{J:Q4}{M I':Map}{w w':World}
theorem TR.plain{U U':Nat->Prop}{x:T}{v:Value}(hp:plainT x=true)(h:TR U w x v):TR U' w x v:=by
 cases h with
 |bool b=>exact .bool b
 |int k n=>exact .int k n
 |str s=>exact .str s
 |nilp=>exact .nilp
 |imm0=>cases hp
 |imm=>cases hp
 |iptr=>cases hp
 |fn=>cases hp
 |nilf=>exact .nilf
 |junk v h=>exact .junk v h
theorem zD{is:List Nat}{n:Nat}{c:Cell}{v:Value}(hp:Zv c=true)(hi:∀k s,M k=some s->I' (XV is n k)=some s)(hx:I'.ex=M.ex)(h:CR M w c v):CR I' w (upC is n c) v:=by
 have hr:∀{r:Ref} {ok:XK->Prop},Jg M r ok->Jg I' (upR is n r) ok:=λ{r ok} ⟨s,h1,h2,h3⟩=>⟨s,hi _ _ h1,h2,h3⟩
 cases c with
 |t x=>exact TR.plain hp h
 |ptr r=>obtain⟨a,e,h1⟩:=h;exact⟨a,e,hr h1⟩
 |sl r l c=>obtain⟨a,c,e,h1,h2⟩:=h;exact⟨a,c,e,h1,hr h2⟩
 |clo f rs=>refine cloR.imp (I':=I') (caps':=rs.map (upR is n)) h (by rw[hx]) (by simp) λ_ i hi hi' a h4=> ?_;simp only[List.getElem_map];exact hr h4
theorem aggR_mapP{f:Cell->Cell}{w w':World}{xs:List Cell}(h:∀c,c∈xs->∀v,CR M w c v->CR I' w' (f c) v){v:Value}(ha:Xj M w xs v):Xj I' w' (xs.map f) v:=by obtain⟨arr,e,h1,h2⟩:=ha;refine⟨arr,e,by simpa using h1,λi hi=> ?_⟩;obtain⟨u,h3,h4⟩:=h2 i (by simpa using hi);exact⟨u,h3,by rw[List.getElem_map];exact h _ (List.getElem_mem _) _ h4⟩
theorem VR_upP{is:List Nat}{n:Nat}{x:AV}{v:Value}(hp:plainV x)(hi:∀k s,M k=some s->I' (XV is n k)=some s)(hx:I'.ex=M.ex)(h:VR M w x v):VR I' w (upV is n x) v:=by
 cases x with
 |c x=>exact zD hp hi hx h
 |agg xs=>exact aggR_mapP (λc hc v=>zD (hp c hc) hi hx) h
 |tup xs=>
  obtain⟨arr,e,h1,h2⟩:=h;refine⟨arr,e,by simpa using h1,λi hi'=> ?_⟩;obtain⟨u,h3,h4⟩:=h2 i (by simpa using hi');refine⟨u,h3,?_⟩;have hq:=hp (xs[i]'(by simpa using hi')) (List.getElem_mem _);rw[List.getElem_map];generalize xs[i]'(by simpa using hi')=y at h4 hq⊢
  cases y with
  |inl x=>exact zD hq hi hx h4
  |inr xs=>exact aggR_mapP (λc hc v=>zD (hq c hc) hi hx) h4
theorem upId_nil(n k:Nat):XV [] n k=n+k:=by simp[XV]
theorem fn_read{f:FuncId}{args args0:List AV}{Q:AV->Q4->Prop}(k:Nat)(hl:args0.length=args.length)(hf:∀(i:Nat) x y,args[i]? =some x->args0[i]? =some y->jZ k J 0 x=some y)
   (h:Jl P f args0 [] λv S'=>Q v S'/\plainV v/\∀o∈S',∀c∈o.cs,Zv c=true):
   Jl P f args J λv S'=>∃v0 T',Q v0 T'/\v=upV [] J.length v0/\S'=J++T'.map (upO [] J.length):=by
 refine⟨h.1,λM w cargs hgl hh ha=>CallsIn.mono (h.2 (cut 0 M) w cargs (hgl.mono λb hu _=>⟨cut_un hu,rfl⟩) (frzH_ok (k:=k) hh (by simp[frzH,XH])) ⟨by rw[hl];exact ha.1,λi hi=> ?_⟩) ?_⟩
 · obtain⟨u,h1,h2⟩:=ha.2 i (by omega)
   exact⟨u,h1,frzV_ok hh h2 (hf i _ _ (List.getElem?_eq_getElem _) (List.getElem?_eq_getElem _))⟩
 · rintro e w' ⟨v,T',I',cv,rfl,⟨hq,hp,hpo⟩,hv,hh',hs⟩
   have hnone:∀id,(cut 0 M) id=none:=λid=>(by simp[cut]);have hres:I'.res=M.res:=hs.res;have hnew:∀id s l,I' id=some s->s.loc=some l->w.heap.size<=l.blk:=λid s l h1 h2=>by
     rcases hs.new id s l h1 h2 with h3|⟨id',s',l',h3,_⟩
     · exact h3
     · rw[hnone]at h3;cases h3
   have hlt:∀id s l,M id=some s->s.loc=some l->l.blk<w.heap.size:=λid s l h1 h2=>(by obtain⟨o,_,ho⟩:=hh.obj id s h1;have h3:=ho.2.2;rw[h2]at h3;obtain⟨⟨cells,elem,h4,_⟩,_⟩:=h3;exact isRow.lt ⟨cells,elem,_,h4⟩);have hkeep:∀id s l,M id=some s->s.loc=some l->w'.heap[l.blk]? =w.heap[l.blk]? :=λid s l h1 h2=>by
     refine hs.frame _ (hlt id s l h1 h2) ?_;rintro(⟨id',s',l',h3,_⟩|hr)
     · rw[hnone]at h3;cases h3
     · exact hh.resNo id s l h1 h2 hr
   generalize hio:(⟨λid=>if id<J.length then M id else I' (id - J.length),M.res,M.ex⟩:Map)=io;have o1:∀id,id<J.length->io id=M id:=λid h=>(by subst hio;simp[h]);have o2:∀id,¬id<J.length->io id=I' (id - J.length):=λid h=>(by subst hio;simp[h]);have o3:io.res=M.res:=(by subst hio;rfl);have o3x:io.ex=M.ex:=(by subst hio;rfl);have up:∀j s,I' j=some s->io (XV [] J.length j)=some s:=λj s hj=>by rw[upId_nil,o2 _ (by omega),show J.length+j - J.length=j by omega];exact hj
   have step:Step M J w io (J++T'.map (upO [] J.length)) w':={
     len:=by simp
     size:=hs.size
     os:=hs.os
     out:=hs.out
     keep:=λid s h=>⟨s,by rw[o1 _ (hh.lt h)];exact h,Nat.le_refl _,λ_=>rfl⟩
     none:=λid h1 h2=>by rw[o1 _ h1];exact h2
     new:=λid s' l' h1 h2=>by
       by_cases g:id<J.length
       · rw[o1 _ g]at h1;exact .inr ⟨id,s',l',h1,h2,rfl⟩
       · rw[o2 _ g]at h1;exact .inl (hnew _ _ _ h1 h2)
     res:=o3
     ex:=o3x
     resKeep:=λb hb=>hs.resKeep b hb
     frame:=λb hb hu=>hs.frame b hb λhm=>hu (by
       rcases hm with ⟨id',s',l',h3,_⟩|hr
       · rw[hnone]at h3;cases h3
       · exact .inr hr) }
   refine⟨upV [] J.length v,J++T'.map (upO [] J.length),io,cv,rfl,⟨v,T',hq,rfl,rfl⟩,VR_upP hp up (o3x.trans hs.ex.symm) hv,⟨λid s h=> ?_,λid id' s s' l l' h1 h2 h3 h4 h5=> ?_,λb hb=> ?_,λid s l h1 h2 hr=> ?_⟩,step⟩
   · by_cases g:id<J.length
     · rw[o1 _ g]at h
       obtain⟨o,h5,h6⟩:=hh.obj id s h;exact⟨o,by rw[List.getElem?_append_left g];exact h5,h6.congr step λl hl'=>hkeep id s l h hl'⟩
     · rw[o2 _ g]at h
       obtain⟨o,h5,h6⟩:=hh'.obj _ s h;refine⟨upO [] J.length o,by rw[List.getElem?_append_right (by omega),List.getElem?_map,h5];rfl,h6.1,h6.2.1,?_⟩;have h7:=h6.2.2
       cases hl':s.loc with
       |none=>rw[hl']at h7;simp[upO,h7]
       |some l=>rw[hl']at h7;refine⟨h7.1,by simpa [upO] using h7.2.1,λj hj=> ?_⟩;obtain⟨u,h8,h9⟩:=h7.2.2 j (by simpa [upO] using hj);refine⟨u,h8,?_⟩;simp only[upO,List.getElem_map];exact zD (hpo o (List.mem_of_getElem? h5) _ (List.getElem_mem _)) up (o3x.trans hs.ex.symm) h9
   · by_cases g:id<J.length<;>by_cases g':id'<J.length
     · rw[o1 _ g]at h1;rw[o1 _ g']at h2
       exact hh.inj id id' s s' l l' h1 h2 h3 h4 h5
     · rw[o1 _ g]at h1;rw[o2 _ g']at h2
       have:=hlt _ _ _ h1 h3;have:=hnew _ _ _ h2 h4;omega
     · rw[o2 _ g]at h1;rw[o1 _ g']at h2
       have:=hlt _ _ _ h2 h4;have:=hnew _ _ _ h1 h3;omega
     · rw[o2 _ g]at h1;rw[o2 _ g']at h2
       have:=hh'.inj _ _ s s' l l' h1 h2 h3 h4 h5;omega
   · exact hh'.resRow b (by rw[hres];rw[o3]at hb;exact hb)
   · rw[o3]at hr
     by_cases g:id<J.length
     · rw[o1 _ g]at h1;exact hh.resNo id s l h1 h2 hr
     · rw[o2 _ g]at h1;exact hh'.resNo _ s l h1 h2 (by rw[hres];exact hr)
end
end Go.Abs
