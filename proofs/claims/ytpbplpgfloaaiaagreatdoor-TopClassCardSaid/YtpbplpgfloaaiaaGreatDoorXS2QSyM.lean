/- A part of the proof. -/
import Derived.Test.YtpbplpgfloaaiaaGreatDoorXS2QSyI
set_option linter.all false
namespace Go.Abs
variable [Gl]
open Go.WideShapes
def plainT:T->Bool
 |.imm .. =>false
 |.iptr _=>false
 |.fn .. =>false
 |.mp (some _)=>false
 |_=>true
def ZD:Cell->Bool
 |.t x=>plainT x
 |_=>true
def plainV:AV->Prop
 |.c x=>ZD x=true
 |.agg xs=>∀c∈xs,ZD c=true
 |.tup xs=>∀p∈xs,match p with|.inl c=>ZD c=true|.inr cs=>∀c∈cs,ZD c=true
section
variable {P:Program}{M:QA}{O I':Map}{w w':World}
def TR.plain{U U':Nat->Prop}{x:T}{v:Value}(hp:plainT x=true)(h:TR U w x v):TR U' w x v:=by
 cases h with
 |bool b=>exact .bool b
 |int k n=>exact .int k n
 |str s=>exact .str s
 |nilp=>exact .nilp
 |imm0=>cases hp
 |imm=>cases hp
 |iptr=>cases hp
 |fn=>cases hp
 |nilf=>exact .nilf
 |junk v h=>exact .junk v h
 |mpn=>exact .mpn
 |mp=>cases hp
def q8{is:List Nat}{n:Nat}{c:Cell}{v:Value}(hp:ZD c=true)(hi:∀k s,O k=some s->I' (X4 is n k)=some s)(hx:I'.ex=O.ex)(h:CR O w c v):CR I' w (upC is n c) v:=by
 have hr:∀{r:Ref} {ok:Jv->Prop},JU O r ok->JU I' (upR is n r) ok:=λ{r ok} ⟨s,h1,h2,h3⟩=>⟨s,hi _ _ h1,h2,h3⟩
 cases c with
 |t x=>exact TR.plain hp h
 |ptr r=>obtain⟨a,e,h1⟩:=h;exact⟨a,e,hr h1⟩
 |sl r l c=>obtain⟨a,c,e,h1,h2⟩:=h;exact⟨a,c,e,h1,hr h2⟩
 |clo f rs=>refine cloR.imp (I':=I') (caps':=rs.map (upR is n)) h (by rw[hx]) (by simp) λ_ i hi hi' a h4=> ?_;simp only[AP];exact hr h4
def aggR_mapP{f:Cell->Cell}{w w':World}{xs:List Cell}(h:∀c,c∈xs->∀v,CR O w c v->CR I' w' (f c) v){v:Value}(ha:XF O w xs v):XF I' w' (xs.map f) v:=by obtain⟨arr,e,h1,h2⟩:=ha;refine⟨arr,e,by simpa using h1,λi hi=> ?_⟩;obtain⟨u,h3,h4⟩:=h2 i (by simpa using hi);exact⟨u,h3,by rw[AP];exact h _ (A9 _) _ h4⟩
def VR_upP{is:List Nat}{n:Nat}{x:AV}{v:Value}(hp:plainV x)(hi:∀k s,O k=some s->I' (X4 is n k)=some s)(hx:I'.ex=O.ex)(h:VR O w x v):VR I' w (upV is n x) v:=by
 cases x with
 |c x=>exact q8 hp hi hx h
 |agg xs=>exact aggR_mapP (λc hc v=>q8 (hp c hc) hi hx) h
 |tup xs=>
  obtain⟨arr,e,h1,h2⟩:=h;refine⟨arr,e,by simpa using h1,λi hi'=> ?_⟩;obtain⟨u,h3,h4⟩:=h2 i (by simpa using hi');refine⟨u,h3,?_⟩;have hq:=hp (xs[i]'(by simpa using hi')) (A9 _);rw[AP];generalize xs[i]'(by simpa using hi')=y at h4 hq⊢
  cases y with
  |inl x=>exact q8 hq hi hx h4
  |inr xs=>exact aggR_mapP (λc hc v=>q8 (hq c hc) hi hx) h4
def upId_nil(n k:Nat):X4 [] n k=n+k:=by simp[X4]
def fn_read{f:FuncId}{args args0:List AV}{Q:AV->QA->Prop}(k:Nat)(hl:args0.length=args.length)(hf:∀(i:Nat) x y,args[i]? =some x->args0[i]? =some y->KK k M 0 x=some y)
   (h:Jw P f args0 [] λv S'=>Q v S'/\plainV v/\∀o∈S',∀c∈o.cs,ZD c=true):
   Jw P f args M λv S'=>∃v0 A',Q v0 A'/\v=upV [] M.length v0/\S'=M++A'.map (upO [] M.length):=by
 refine⟨h.1,λO w cargs hgl hh ha=>Bt (h.2 (cut 0 O) w cargs (hgl.mono λb hu _=>⟨cut_un hu,rfl⟩) (frzH_ok (k:=k) hh (by simp[frzH,Jj])) ⟨by rw[hl];exact ha.1,λi hi=> ?_⟩) ?_⟩
 · obtain⟨u,h1,h2⟩:=ha.2 i (by omega)
   exact⟨u,h1,frzV_ok hh h2 (hf i _ _ (A4 _) (A4 _))⟩
 · rintro e w' ⟨v,A',I',cv,rfl,⟨hq,hp,hpo⟩,hv,hh',hs⟩
   have hnone:∀id,(cut 0 O) id=none:=λid=>(by simp[cut]);have hres:I'.res=O.res:=hs.res;have hnew:∀id s l,I' id=some s->s.loc=some l->w.heap.size<=l.blk:=λid s l h1 h2=>by
     rcases hs.new id s l h1 h2 with h3|⟨id',s',l',h3,_⟩
     · exact h3
     · rw[hnone]at h3;cases h3
   have hlt:∀id s l,O id=some s->s.loc=some l->l.blk<w.heap.size:=λid s l h1 h2=>(by obtain⟨o,_,ho⟩:=hh.obj id s h1;have h3:=ho.2.2;rw[h2]at h3;obtain⟨⟨cells,elem,h4,_⟩,_⟩:=h3;exact isRow.lt ⟨cells,elem,_,h4⟩);have hkeep:∀id s l,O id=some s->s.loc=some l->w'.heap[l.blk]? =w.heap[l.blk]? :=λid s l h1 h2=>by
     refine hs.frame _ (hlt id s l h1 h2) ?_;rintro(⟨id',s',l',h3,_⟩|hr)
     · rw[hnone]at h3;cases h3
     · exact hh.resNo id s l h1 h2 hr
   generalize hio:(⟨λid=>if id<M.length then O id else I' (id - M.length),O.res,O.ex⟩:Map)=io;have o1:∀id,id<M.length->io id=O id:=λid h=>(by subst hio;simp[h]);have o2:∀id,¬id<M.length->io id=I' (id - M.length):=λid h=>(by subst hio;simp[h]);have o3:io.res=O.res:=(by subst hio;rfl);have o3x:io.ex=O.ex:=(by subst hio;rfl);have up:∀j s,I' j=some s->io (X4 [] M.length j)=some s:=λj s hj=>by rw[upId_nil,o2 _ (by omega),show M.length+j - M.length=j by omega];exact hj
   have step:Step O M w io (M++A'.map (upO [] M.length)) w':={
     len:=by simp
     size:=hs.size
     os:=hs.os
     out:=hs.out
     keep:=λid s h=>⟨s,by rw[o1 _ (hh.lt h)];exact h,A5 _,λ_=>rfl⟩
     none:=λid h1 h2=>by rw[o1 _ h1];exact h2
     new:=λid s' l' h1 h2=>by
       by_cases g:id<M.length
       · rw[o1 _ g]at h1;exact .inr ⟨id,s',l',h1,h2,rfl⟩
       · rw[o2 _ g]at h1;exact .inl (hnew _ _ _ h1 h2)
     res:=o3
     ex:=o3x
     resKeep:=λb hb=>hs.resKeep b hb
     frame:=λb hb hu=>hs.frame b hb λhm=>hu (by
       rcases hm with ⟨id',s',l',h3,_⟩|hr
       · rw[hnone]at h3;cases h3
       · exact .inr hr) }
   refine⟨upV [] M.length v,M++A'.map (upO [] M.length),io,cv,rfl,⟨v,A',hq,rfl,rfl⟩,VR_upP hp up (o3x.trans hs.ex.symm) hv,⟨λid s h=> ?_,λid id' s s' l l' h1 h2 h3 h4 h5=> ?_,λb hb=> ?_,λid s l h1 h2 hr=> ?_⟩,step⟩
   · by_cases g:id<M.length
     · rw[o1 _ g]at h
       obtain⟨o,h5,h6⟩:=hh.obj id s h;exact⟨o,by rw[AL g];exact h5,h6.congr step λl hl'=>hkeep id s l h hl'⟩
     · rw[o2 _ g]at h
       obtain⟨o,h5,h6⟩:=hh'.obj _ s h;refine⟨upO [] M.length o,by rw[AU (by omega),BY,h5];rfl,h6.1,h6.2.1,?_⟩;have h7:=h6.2.2
       cases hl':s.loc with
       |none=>rw[hl']at h7;simp[upO,h7]
       |some l=>rw[hl']at h7;refine⟨h7.1,by simpa [upO] using h7.2.1,λj hj=> ?_⟩;obtain⟨u,h8,h9⟩:=h7.2.2 j (by simpa [upO] using hj);refine⟨u,h8,?_⟩;simp only[upO,AP];exact q8 (hpo o (BX h5) _ (A9 _)) up (o3x.trans hs.ex.symm) h9
   · by_cases g:id<M.length<;>by_cases g':id'<M.length
     · rw[o1 _ g]at h1;rw[o1 _ g']at h2
       exact hh.inj id id' s s' l l' h1 h2 h3 h4 h5
     · rw[o1 _ g]at h1;rw[o2 _ g']at h2
       have:=hlt _ _ _ h1 h3;have:=hnew _ _ _ h2 h4;omega
     · rw[o2 _ g]at h1;rw[o1 _ g']at h2
       have:=hlt _ _ _ h2 h4;have:=hnew _ _ _ h1 h3;omega
     · rw[o2 _ g]at h1;rw[o2 _ g']at h2
       have:=hh'.inj _ _ s s' l l' h1 h2 h3 h4 h5;omega
   · exact hh'.resRow b (by rw[hres];rw[o3]at hb;exact hb)
   · rw[o3]at hr
     by_cases g:id<M.length
     · rw[o1 _ g]at h1;exact hh.resNo id s l h1 h2 hr
     · rw[o2 _ g]at h1;exact hh'.resNo _ s l h1 h2 (by rw[hres];exact hr)
end
end Go.Abs
