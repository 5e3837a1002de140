/-
  A general library: a contract on trees, called with objects that the callee only reads.
-/
import Derived.Test.YtfcbahfdgopgfaaKR9QSyI
set_option linter.all false
namespace Go.Abs
variable [Gl]
open Go.WideShapes
def plainT:T→Bool
 |.imm .. =>false
 |.iptr _=>false
 |.fn .. =>false
 |_=>true
def Xy:Cell→Bool
 |.t x=>plainT x
 |_=>true
def plainV:AV→Prop
 |.c x=>Xy x=true
 |.agg xs=>∀c∈xs,Xy c=true
 |.tup xs=>∀p∈xs,match p with|.inl c=>Xy c=true|.inr cs=>∀c∈cs,Xy c=true
section
variable {P:Program}{σ:Q0}{ι ι':Map}{w w':World}
theorem TR.plain{U U':Nat→Prop}{x:T}{v:Value}(hp:plainT x=true)(h:TR U w x v):TR U' w x v:=by
 cases h with
 |bool b=>exact .bool b
 |int k n=>exact .int k n
 |str s=>exact .str s
 |nilp=>exact .nilp
 |imm0=>cases hp
 |imm=>cases hp
 |iptr=>cases hp
 |fn=>cases hp
 |nilf=>exact .nilf
 |junk v h=>exact .junk v h
theorem qS{is:List Nat}{n:Nat}{c:Cell}{v:Value}(hp:Xy c=true)(hi:∀k s,ι k=some s→ι' (Ji is n k)=some s)(hx:ι'.ex=ι.ex)(h:CR ι w c v):CR ι' w (upC is n c) v:=by
 have hr:∀{r:Ref} {ok:Jg→Prop},J8 ι r ok→J8 ι' (upR is n r) ok:=fun{r ok} ⟨s,h1,h2,h3⟩=>⟨s,hi _ _ h1,h2,h3⟩
 cases c with
 |t x=>exact TR.plain hp h
 |ptr r=>obtain⟨a,e,h1⟩:=h;exact⟨a,e,hr h1⟩
 |sl r l c=>obtain⟨a,c,e,h1,h2⟩:=h;exact⟨a,c,e,h1,hr h2⟩
 |clo f rs=>
  refine cloR.imp (ι':=ι') (caps':=rs.map (upR is n)) h (by rw[hx]) (by simp) fun _ i hi hi' a h4=> ?_
  simp only[List.getElem_map]
  exact hr h4
theorem aggR_mapP{f:Cell→Cell}{w w':World}{xs:List Cell}(h:∀c,c∈xs→∀v,CR ι w c v→CR ι' w' (f c) v){v:Value}(ha:Jx ι w xs v):Jx ι' w' (xs.map f) v:=by
 obtain⟨arr,e,h1,h2⟩:=ha
 refine⟨arr,e,by simpa using h1,fun i hi=> ?_⟩
 obtain⟨u,h3,h4⟩:=h2 i (by simpa using hi)
 exact⟨u,h3,by rw[List.getElem_map];exact h _ (List.getElem_mem _) _ h4⟩
theorem VR_upP{is:List Nat}{n:Nat}{x:AV}{v:Value}(hp:plainV x)(hi:∀k s,ι k=some s→ι' (Ji is n k)=some s)(hx:ι'.ex=ι.ex)(h:VR ι w x v):VR ι' w (upV is n x) v:=by
 cases x with
 |c x=>exact qS hp hi hx h
 |agg xs=>exact aggR_mapP (fun c hc v=>qS (hp c hc) hi hx) h
 |tup xs=>
  obtain⟨arr,e,h1,h2⟩:=h
  refine⟨arr,e,by simpa using h1,fun i hi'=> ?_⟩
  obtain⟨u,h3,h4⟩:=h2 i (by simpa using hi')
  refine⟨u,h3,?_⟩
  have hq:=hp (xs[i]'(by simpa using hi')) (List.getElem_mem _)
  rw[List.getElem_map]
  generalize xs[i]'(by simpa using hi')=y at h4 hq⊢
  cases y with
  |inl x=>exact qS hq hi hx h4
  |inr xs=>exact aggR_mapP (fun c hc v=>qS (hq c hc) hi hx) h4
theorem upId_nil(n k:Nat):Ji [] n k=n+k:=by simp[Ji]
theorem fn_read{f:FuncId}{args args0:List AV}{Q:AV→Q0→Prop}(k:Nat)(hl:args0.length=args.length)(hf:∀(i:Nat) x y,args[i]? =some x→args0[i]? =some y→YY k σ 0 x=some y)
   (h:Ja P f args0 [] fun v σ'=>Q v σ'∧plainV v∧∀o∈σ',∀c∈o.cs,Xy c=true):
   Ja P f args σ fun v σ'=>∃v0 τ',Q v0 τ'∧v=upV [] σ.length v0∧σ'=σ++τ'.map (upO [] σ.length):=by
 refine⟨h.1,fun ι w cargs hgl hh ha=>CallsIn.mono (h.2 (cut 0 ι) w cargs (hgl.mono fun b hu _=>⟨cut_un hu,rfl⟩) (frzH_ok (k:=k) hh (by simp[frzH,JG])) ⟨by rw[hl];exact ha.1,fun i hi=> ?_⟩) ?_⟩
 · obtain⟨u,h1,h2⟩:=ha.2 i (by omega)
   exact⟨u,h1,frzV_ok hh h2 (hf i _ _ (List.getElem?_eq_getElem _) (List.getElem?_eq_getElem _))⟩
 · rintro e w' ⟨v,τ',ι',cv,rfl,⟨hq,hp,hpo⟩,hv,hh',hs⟩
   have hnone:∀id,(cut 0 ι) id=none:=fun id=>by simp[cut]
   have hres:ι'.res=ι.res:=hs.res
   have hnew:∀id s l,ι' id=some s→s.loc=some l→w.heap.size≤l.blk:=fun id s l h1 h2=>by
     rcases hs.new id s l h1 h2 with h3|⟨id',s',l',h3,_⟩
     · exact h3
     · rw[hnone]at h3;cases h3
   have hlt:∀id s l,ι id=some s→s.loc=some l→l.blk<w.heap.size:=fun id s l h1 h2=>by
     obtain⟨o,_,ho⟩:=hh.obj id s h1
     have h3:=ho.2.2
     rw[h2]at h3
     obtain⟨⟨cells,elem,h4,_⟩,_⟩:=h3
     exact Y7.lt ⟨cells,elem,_,h4⟩
   have hkeep:∀id s l,ι id=some s→s.loc=some l→w'.heap[l.blk]? =w.heap[l.blk]? :=fun id s l h1 h2=>by
     refine hs.frame _ (hlt id s l h1 h2) ?_
     rintro(⟨id',s',l',h3,_⟩|hr)
     · rw[hnone]at h3;cases h3
     · exact hh.resNo id s l h1 h2 hr
   generalize hιo:(⟨fun id=>if id<σ.length then ι id else ι' (id - σ.length),ι.res,ι.ex⟩:Map)=ιo
   have o1:∀id,id<σ.length→ιo id=ι id:=fun id h=>by subst hιo;simp[h]
   have o2:∀id,¬id<σ.length→ιo id=ι' (id - σ.length):=fun id h=>by subst hιo;simp[h]
   have o3:ιo.res=ι.res:=by subst hιo;rfl
   have o3x:ιo.ex=ι.ex:=by subst hιo;rfl
   have up:∀j s,ι' j=some s→ιo (Ji [] σ.length j)=some s:=fun j s hj=>by
     rw[upId_nil,o2 _ (by omega),show σ.length+j - σ.length=j by omega];exact hj
   have step:Step ι σ w ιo (σ++τ'.map (upO [] σ.length)) w':={
     len:=by simp
     size:=hs.size
     os:=hs.os
     out:=hs.out
     keep:=fun id s h=>⟨s,by rw[o1 _ (hh.lt h)];exact h,Nat.le_refl _,fun _=>rfl⟩
     none:=fun id h1 h2=>by rw[o1 _ h1];exact h2
     new:=fun id s' l' h1 h2=>by
       by_cases g:id<σ.length
       · rw[o1 _ g]at h1;exact .inr ⟨id,s',l',h1,h2,rfl⟩
       · rw[o2 _ g]at h1;exact .inl (hnew _ _ _ h1 h2)
     res:=o3
     ex:=o3x
     resKeep:=fun b hb=>hs.resKeep b hb
     frame:=fun b hb hu=>hs.frame b hb fun hm=>hu (by
       rcases hm with ⟨id',s',l',h3,_⟩|hr
       · rw[hnone]at h3;cases h3
       · exact .inr hr) }
   refine⟨upV [] σ.length v,σ++τ'.map (upO [] σ.length),ιo,cv,rfl,⟨v,τ',hq,rfl,rfl⟩,VR_upP hp up (o3x.trans hs.ex.symm) hv,⟨fun id s h=> ?_,fun id id' s s' l l' h1 h2 h3 h4 h5=> ?_,fun b hb=> ?_,fun id s l h1 h2 hr=> ?_⟩,step⟩
   · by_cases g:id<σ.length
     · rw[o1 _ g]at h
       obtain⟨o,h5,h6⟩:=hh.obj id s h
       exact⟨o,by rw[List.getElem?_append_left g];exact h5,h6.congr step fun l hl'=>hkeep id s l h hl'⟩
     · rw[o2 _ g]at h
       obtain⟨o,h5,h6⟩:=hh'.obj _ s h
       refine⟨upO [] σ.length o,by rw[List.getElem?_append_right (by omega),List.getElem?_map,h5];rfl,h6.1,h6.2.1,?_⟩
       have h7:=h6.2.2
       cases hl':s.loc with
       |none=>rw[hl']at h7;simp[upO,h7]
       |some l=>
         rw[hl']at h7
         refine⟨h7.1,by simpa [upO] using h7.2.1,fun j hj=> ?_⟩
         obtain⟨u,h8,h9⟩:=h7.2.2 j (by simpa [upO] using hj)
         refine⟨u,h8,?_⟩
         simp only[upO,List.getElem_map]
         exact qS (hpo o (List.mem_of_getElem? h5) _ (List.getElem_mem _)) up (o3x.trans hs.ex.symm) h9
   · by_cases g:id<σ.length<;>by_cases g':id'<σ.length
     · rw[o1 _ g]at h1;rw[o1 _ g']at h2
       exact hh.inj id id' s s' l l' h1 h2 h3 h4 h5
     · rw[o1 _ g]at h1;rw[o2 _ g']at h2
       have:=hlt _ _ _ h1 h3;have:=hnew _ _ _ h2 h4;omega
     · rw[o2 _ g]at h1;rw[o1 _ g']at h2
       have:=hlt _ _ _ h2 h4;have:=hnew _ _ _ h1 h3;omega
     · rw[o2 _ g]at h1;rw[o2 _ g']at h2
       have:=hh'.inj _ _ s s' l l' h1 h2 h3 h4 h5
       omega
   · exact hh'.resRow b (by rw[hres];rw[o3]at hb;exact hb)
   · rw[o3]at hr
     by_cases g:id<σ.length
     · rw[o1 _ g]at h1;exact hh.resNo id s l h1 h2 hr
     · rw[o2 _ g]at h1;exact hh'.resNo _ s l h1 h2 (by rw[hres];exact hr)
end
end Go.Abs
