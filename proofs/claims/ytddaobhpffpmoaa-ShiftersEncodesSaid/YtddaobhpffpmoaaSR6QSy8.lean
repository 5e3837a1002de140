/-
  A general library: the operations on symbolic values do what they stand for. Part 3: slices.
-/
import Derived.Test.YtddaobhpffpmoaaSR6QMt
set_option linter.all false
namespace Go.Abs
variable [Gl]
section
variable {P:Program}{ty:TyT}{σ:SH}
theorem replS_den{zs:List SC}{z:List T}(h:zs.map SC.den=z.map .t):∀n,(replS n zs).map SC.den=(repl n z).map .t
 |0=>rfl
 |n+1=>by simp[replS,repl,h,replS_den h n]
theorem SC.isT_den{c:SC}(h:c.isT=true):∃t,c.den=.t t:=by
 cases c<;>first|exact⟨_,rfl⟩|cases h
theorem SC.not_isT{c:SC}(h:c.isT=false):(match c.den with|.t _=>False|_=>True):=by
 cases c<;>first|trivial|cases h
theorem allTS_ok:∀{cs:List SC},allTS cs=true→∃ts,allT (cs.map SC.den)=some ts∧cs.map SC.den=ts.map .t
 |[],_=>⟨[],rfl,rfl⟩
 |c::cs,h=>by
  simp only[allTS]at h
  split at h
  ·rename_i hc
   obtain⟨t,ht⟩:=SC.isT_den hc
   obtain⟨ts,h1,h2⟩:=allTS_ok h
   exact⟨t::ts,by simp[ht,allT,h1],by simp[ht,h2]⟩
  ·cases h
theorem allTS_not:∀{cs:List SC},allTS cs=false→allT (cs.map SC.den)=none
 |[],h=>by cases h
 |c::cs,h=>by
  simp only[allTS]at h
  split at h
  ·rename_i hc
   obtain⟨t,ht⟩:=SC.isT_den hc
   simp[ht,allT,allTS_not h]
  ·rename_i hc
   have:=SC.not_isT hc
   simp only[List.map_cons]
   generalize c.den=d at this
   cases d<;>first|exact this.elim|rfl
theorem WL.unmap:∀{a b:List T},WL (a.map .t) (b.map .t)→a.length=b.length∧∀i (h:i<a.length) (h':i<b.length),WT a[i] b[i]:=fun{a b} h=>by
 refine⟨by simpa using h.length,fun i hi hi'=> ?_⟩
 have:=h.get (i:=i) (by simpa using hi) (by simpa using hi')
 simp only[List.getElem_map]at this
 generalize a[i]=x at this
 generalize b[i]=y at this
 cases this with
 |refl=>exact .refl _
 |t h=>exact h
 |junk=>exact .junk _
theorem buildSliceS_ok(hty:TyOk P ty){b ex:Bool}{t:TypeId}{n:Nat}{ps:List (Nat×SV)}{v:SV}{σ':SH}(h:buildSliceS b ex ty σ t n ps=some (v,σ')):
  ∃v0,buildSliceE P b (SH.den σ) t n (ps.map fun x=>(x.1,x.2.den))=some (v0,SH.den σ')∧WV v0 v.den∧(ex=true→v0=v.den):=by
 unfold buildSliceS at h
 split at h
 ·rename_i i c hi
  simp only[buildSliceE,hty.ok _ _ _ hi]
  split at h
  ·rename_i e hk
   rw[hk]
   split at h
   ·rename_i j c? hj
    simp only[hty.ok _ _ _ hj]
    split at h
    ·rename_i z hz
     obtain⟨z',h1,h2⟩:=zeroS_ok hz
     have hzl:z.length=z'.length:=by simpa using congrArg List.length h2
     split at h
     ·rename_i h3 h4 h5
      rw[h1]
      simp only
      rw[if_pos ⟨by rw[←hzl];exact eqB h3,ltB h4,leB' h5⟩]
      split at h
      ·rename_i cs hcs
       have hf:=fillS_ok hcs
       rw[replS_den h2]at hf
       rw[hf]
       simp only[objT]
       split at h
       ·split at h
        ·rename_i c' hall
         split at h
         ·rename_i xs hx hsz
          injection h with h
          injection h with h8 h9
          subst h8;subst h9
          obtain⟨h10,_,h12⟩:=encL_ok hx
          refine⟨_,?_,WV.rfl',fun _=>rfl⟩
          simp only[SH.den_push,SO.den,SV.den,SC.den,SH.den_length,Nat.zero_mul,h12 rfl,eqB hsz]
         ·cases h
        ·cases h
       simp only
       split at h
       ·rename_i hall
        obtain⟨ts,h6,h7⟩:=allTS_ok hall
        rw[h6]
        split at h
        ·split at h
         ·injection h with h
          injection h with h8 h9
          subst h8;subst h9
          have:ts=[]:=by simpa using h7.symm
          subst this
          exact⟨_,rfl,WV.rfl',fun _=>rfl⟩
         ·cases h
        ·rename_i n'
         split at h
         ·rename_i c'
          split at h
          ·rename_i xs hx
           injection h with h
           injection h with h8 h9
           subst h8;subst h9
           obtain⟨h10,h11,h12⟩:=encL_ok hx
           refine⟨_,rfl,?_,fun hex=> ?_⟩
           ·show WC (.t (.imm ts (n'+1) (some (n'+1)))) (.t (.imm (xs.flatMap c'.trees) xs.length (some (n'+1))))
            rw[h10]
            rw[h7]at h11
            obtain⟨h13,h14⟩:=WL.unmap h11
            exact .t (.cells _ _ _ _ h13 h14)
           ·have:=h12 hex
            rw[h7]at this
            have e:ts=xs.flatMap c'.trees:=(List.map_inj_right (fun a b hab=>by injection hab)).1 this
            simp only[SV.den,SC.den,h10,e]
          ·cases h
         ·cases h
       ·rename_i hall
        rw[allTS_not hall]
        injection h with h
        injection h with h8 h9
        subst h8;subst h9
        refine⟨_,?_,WV.rfl',fun _=>rfl⟩
        simp only[SH.den_push,SO.den,SV.den,SC.den,SH.den_length,Nat.zero_mul]
      ·cases h
     ·cases h
    ·cases h
   ·cases h
  ·cases h
 ·cases h
theorem makeSliceS_ok(hty:TyOk P ty){t:TypeId}{l c v:SV}{σ':SH}(h:makeSliceS ty σ t l c=some (true,v,σ')):makeSliceE P (SH.den σ) t l.den c.den=some (v.den,SH.den σ'):=by
 unfold makeSliceS at h
 split at h
 ·rename_i i c1 n m hi hn hm
  simp only[makeSliceE,hty.ok _ _ _ hi,intOfS_ok hn,intOfS_ok hm]
  split at h
  ·rename_i e hk
   rw[hk]
   split at h
   ·rename_i j lay hj
    simp only[hty.ok _ _ _ hj]
    obtain⟨h1,z0,hz0,h2⟩:=hty.lay _ _ _ hj
    split at h
    ·rename_i z hz
     rw[hz]at hz0
     injection hz0 with hz0
     subst hz0
     rw[hz]
     injection h with h
     injection h with h3 h
     injection h with h4 h5
     subst h4;subst h5
     simp only[Bool.and_eq_true,decide_eq_true_eq]at h3
     have hzl:j.size=z.length:=by rw[h1];have:=h2.length;rw[List.length_map,List.length_map,Ly.trees_length]at this;exact this.symm
     simp only
     rw[if_pos ⟨hzl,by rw[h1];exact lay.size_pos,h3.1.1.1,h3.1.1.2,h3.1.2,h3.2⟩]
     simp only[SV.den,SC.den,SH.den_push,SO.den,SH.den_length,Nat.zero_mul,h1]
    ·cases h
   ·cases h
  ·cases h
 ·cases h
theorem boundS_ok{x:Option SV}{dflt top n:Nat}{p:Bool}(h:boundS x dflt top=some (p,n))(hp:p=true):boundE (x.map SV.den) dflt top=some n:=by
 subst hp
 unfold boundS at h
 cases x with
 |none=>simp only[Option.some.injEq,Prod.mk.injEq,true_and]at h;subst h;rfl
 |some v=>
  simp only at h
  split at h
  ·rename_i m hm
   simp only[Option.some.injEq,Prod.mk.injEq,Bool.and_eq_true,decide_eq_true_eq]at h
   obtain⟨h1,rfl⟩:=h
   simp only[Option.map_some,boundE,intOfS_ok hm]
   rw[if_pos h1]
  ·cases h
theorem flat_sub(c:Ly)(xs:List c.ty)(l n:Nat):(((xs.flatMap c.trees).drop (l*c.size)).take (n*c.size))=((xs.drop l).take n).flatMap c.trees:=by
 rw[flat_drop,flat_take]
theorem sub_length{α:Type}{xs:List α}{l h:Nat}(hh:h≤xs.length):((xs.drop l).take (h - l)).length=h - l:=by
 rw[List.length_take,List.length_drop];omega
theorem boundE_le{x:Option AV}{d top n:Nat}(h:boundE x d top=some n)(hd:d≤top):n≤top:=by
 unfold boundE at h
 split at h
 ·injection h with h;omega
 ·split at h
  ·split at h
   ·injection h with h;omega
   ·cases h
  ·cases h
theorem elem_at{id ep es off:Nat}{b:Bool}(h:(match σ[id]? with|some (.arr c _ ep')=>Nat.beq ep' ep&&Nat.beq c.size es|some (.st _ es' ep')=>Nat.beq ep' ep&&Nat.beq es' es|some (.zer _ c _)=>Nat.beq ep 0&&Nat.beq c.size es|some (.opn c _ _ _ ep')=>Nat.beq ep' ep&&Nat.beq c.size es|none=>false)=b)(hb:b=true):
  ∃o,(SH.den σ).at? ⟨id,ep,off⟩=some o∧o.es=es:=by
 subst hb
 split at h
 ·rename_i c xs ep' ho
  simp only[Bool.and_eq_true]at h
  exact⟨_,SH.den_at ho (eqB h.1),eqB h.2⟩
 ·rename_i cs es' ep' ho
  simp only[Bool.and_eq_true]at h
  exact⟨_,SH.den_at ho (eqB h.1),eqB h.2⟩
 ·rename_i z c n ho
  simp only[Bool.and_eq_true]at h
  exact⟨_,SH.den_at ho (eqB h.1).symm,eqB h.2⟩
 ·rename_i c xs cs ys ep' ho
  simp only[Bool.and_eq_true]at h
  exact⟨_,SH.den_at ho (eqB h.1),eqB h.2⟩
 ·cases h
theorem sliceS_ok(hty:TyOk P ty){t:TypeId}{x:SV}{lo hi mx:Option SV}{v:SV}(h:sliceS ty σ t x lo hi mx=some (true,v)):
  sliceE P (SH.den σ) t x.den (lo.map SV.den) (hi.map SV.den) (mx.map SV.den)=some v.den:=by
 unfold sliceS at h
 split at h
 ·rename_i i c1 hi'
  simp only[sliceE,hty.ok _ _ _ hi']
  split at h
  ·
   rename_i s hk
   split at h
   ·rename_i p h1 hh
    split at h
    ·rename_i q l hl
     injection h with h
     injection h with h2 h
     subst h
     simp only[Bool.and_eq_true]at h2
     simp only[hk,SV.den,SC.den,Option.map_none,boundS_ok hh h2.1,boundS_ok hl h2.2]
    ·cases h
   ·cases h
  ·
   rename_i e id ep es l0 len cap hk
   split at h
   ·rename_i j c2 hj
    split at h
    ·rename_i ho hs
     obtain⟨o,ho1,ho2⟩:=elem_at (off:=l0*es) ho rfl
     have hse:o.es=j.size:=by rw[ho2];exact eqB hs
     simp only[hk,SV.den,SC.den,hty.ok _ _ _ hj,ho1]
     rw[if_pos hse]
     simp only[Option.map_none]
     split at h
     ·rename_i p h1 hh
      split at h
      ·rename_i c
       split at h
       ·injection h with h
        injection h with h2 h
        subst h
        rw[boundS_ok hh h2]
        simp only[Option.map_none,boundE,Nat.sub_zero,Nat.zero_mul,Nat.add_zero,ite_self,SC.den]
       ·rename_i lov
        split at h
        ·rename_i q l hl
         injection h with h
         injection h with h2 h
         subst h
         simp only[Bool.and_eq_true]at h2
         rw[boundS_ok hh h2.1]
         simp only
         rw[boundS_ok hl h2.2]
         simp only[SC.den,eqN]
         by_cases hcl:c=l
         ·simp[hcl]
         ·simp[hcl,Nat.add_mul,eqB hs]
        ·cases h
      ·split at h
       ·rename_i q l hl
        injection h with h
        injection h with h2 h
        subst h
        simp only[Bool.and_eq_true,Bool.or_eq_true,eqN,decide_eq_true_eq]at h2
        rw[boundS_ok hh h2.1.1]
        simp only
        rw[boundS_ok hl h2.1.2]
        simp only
        rw[if_pos h2.2]
        simp only[SC.den,Nat.add_mul,eqB hs]
       ·cases h
     ·cases h
    ·cases h
   ·cases h
  ·
   rename_i e id ep es l0 len cap m hk
   split at h
   ·rename_i j c2 hj
    split at h
    ·rename_i ho hs
     obtain⟨o,ho1,ho2⟩:=elem_at (off:=l0*es) ho rfl
     have hse:o.es=j.size:=by rw[ho2];exact eqB hs
     simp only[hk,SV.den,SC.den,hty.ok _ _ _ hj,ho1]
     rw[if_pos hse]
     split at h
     ·rename_i o' m' hm
      split at h
      ·rename_i hiv
       split at h
       ·rename_i p h1 hh
        injection h with h
        injection h with h2 h
        subst h
        simp only[Bool.and_eq_true]at h2
        have hmm:=boundS_ok hm h2.1
        have hhh:=boundS_ok hh h2.2
        simp only[Option.map_some]at hmm hhh⊢
        rw[hmm]
        simp only
        rw[hhh]
        simp only[Option.map_none,boundE,Nat.sub_zero,Nat.zero_mul,Nat.add_zero,ite_self,SC.den]
       ·cases h
      ·cases h
     ·cases h
    ·cases h
   ·cases h
  ·
   rename_i e c xs cap hk
   split at h
   ·rename_i j c2 hj
    split at h
    ·rename_i hs
     have hlen:(xs.flatMap c.trees).length=xs.length*j.size:=by rw[flat_length,eqB hs]
     simp only[hk,SV.den,SC.den,hty.ok _ _ _ hj]
     rw[if_pos hlen]
     simp only[Option.map_none]
     split at h
     ·rename_i p h1 hh
      split at h
      ·rename_i q l hl
       injection h with h
       injection h with h2 h
       subst h
       simp only[Bool.and_eq_true]at h2
       have hle:h1≤xs.length:=boundE_le (boundS_ok hh h2.1) (Nat.le_refl _)
       rw[boundS_ok hh h2.1]
       simp only
       rw[boundS_ok hl h2.2]
       simp only[SC.den]
       rw[←eqB hs,flat_sub,sub_length hle]
      ·cases h
     ·cases h
    ·cases h
   ·cases h
  ·
   rename_i e c xs cap m hk
   split at h
   ·rename_i j c2 hj
    split at h
    ·rename_i o m' hs hm
     have hlen:(xs.flatMap c.trees).length=xs.length*j.size:=by rw[flat_length,eqB hs]
     simp only[hk,SV.den,SC.den,hty.ok _ _ _ hj]
     rw[if_pos hlen]
     split at h
     ·rename_i hiv
      split at h
      ·rename_i p h1 hh
       split at h
       ·rename_i q l hl
        injection h with h
        injection h with h2 h
        subst h
        simp only[Bool.and_eq_true]at h2
        have hmm:=boundS_ok hm h2.1.1
        have hhh:=boundS_ok hh h2.1.2
        have hle:m'≤xs.length:=boundE_le hmm (Nat.zero_le _)
        have hle':h1≤m':=boundE_le hhh (Nat.zero_le _)
        simp only[Option.map_some]at hmm hhh⊢
        rw[hmm]
        simp only
        rw[hhh]
        simp only
        rw[boundS_ok hl h2.2]
        simp only[SC.den]
        rw[←eqB hs,flat_sub,sub_length (by omega)]
       ·cases h
      ·cases h
     ·cases h
    ·cases h
   ·cases h
  ·cases h
 ·cases h
theorem allS_ok{c:Ly}{x:SV}{m:Nat}{new:List c.ty}(h:allS σ c x=some (true,m,new)):lenE x.den=some m∧new.length=m∧firstE (SH.den σ) c.size m x.den=some ((new.flatMap c.trees).map .t):=by
 unfold allS at h
 split at h
 ·rename_i c' xs cap
  split at h
  ·rename_i hb
   simp only[Option.some.injEq,Prod.mk.injEq,true_and]at h
   obtain⟨rfl,rfl⟩:=h
   refine⟨rfl,castL_length hb xs,?_⟩
   simp only[SV.den,SC.den,firstE]
   rw[if_pos ⟨Nat.le_refl _,by rw[flat_length,beq_size hb]⟩,castL_flat,List.take_of_length_le (by rw[flat_length,beq_size hb];exact Nat.le_refl _)]
  ·cases h
 ·simp only[Option.some.injEq,Prod.mk.injEq,true_and]at h
  obtain⟨rfl,rfl⟩:=h
  exact⟨rfl,rfl,by simp[SV.den,SC.den,firstE]⟩
 ·rename_i s
  split at h
  ·simp only[Option.some.injEq,Prod.mk.injEq,true_and]at h
   obtain⟨rfl,rfl⟩:=h
   refine⟨rfl,by simp,?_⟩
   simp only[SV.den,SC.den,firstE,Ly.size]
   rw[if_pos (by simp)]
   simp[Ly.trees,List.flatMap_map,List.map_flatMap,List.flatMap_singleton']
   induction s with
   |nil=>rfl
   |cons a s ih=>simp[ih]
  ·cases h
 ·rename_i id ep es lo len cap
  split at h
  ·rename_i c' xs ep' ho
   split at h
   ·rename_i hb
    split at h
    ·rename_i he hs
     simp only[Option.some.injEq,Prod.mk.injEq,leB,decide_eq_true_eq]at h
     obtain⟨h1,rfl,rfl⟩:=h
     have hsz:=beq_size hb
     have hes:es=c'.size:=by rw[eqB hs,hsz]
     subst hes
     have hat:(SH.den σ).at? ⟨id,ep,lo*c'.size⟩=some (SO.arr c' xs ep').den:=SH.den_at ho (eqB he)
     refine⟨rfl,by rw[castL_length,List.length_take,List.length_drop];omega,?_⟩
     have hle:=Nat.mul_le_mul_right c'.size h1
     rw[Nat.add_mul]at hle
     simp only[SV.den,SC.den,firstE,hat,SO.den,←hsz]
     rw[if_pos ⟨by rw[List.length_map,flat_length];exact hle,Nat.le_refl _⟩,castL_flat,←List.map_drop,←List.map_take,flat_sub]
    ·cases h
   ·cases h
  ·cases h
 ·cases h
end
end Go.Abs
