/- A part of the proof. -/
import Derived.Test.YtddaobhpffpmoaaSR7QMt
set_option linter.all false
namespace Go.Abs
variable [Gl]
section
variable {P:Program}{ty:TyT}{O:SH}
theorem replS_den{zs:List SC}{z:List T}(h:zs.map SC.den=z.map .t):∀n,(replS n zs).map SC.den=(Zr n z).map .t
 |0=>rfl
 |n+1=>by simp[replS,Zr,h,replS_den h n]
theorem SC.WX{c:SC}(h:c.isT=true):∃t,c.den=.t t:=by cases c<;>first|exact⟨_,rfl⟩|cases h
theorem SC.not_isT{c:SC}(h:c.isT=false):(match c.den with|.t _=>False|_=>True):=by cases c<;>first|trivial|cases h
theorem Ww:∀{cs:List SC},Zi cs=true->∃ts,UX (cs.map SC.den)=some ts/\cs.map SC.den=ts.map .t
 |[],_=>⟨[],rfl,rfl⟩
 |c::cs,h=>by
  simp only[Zi]at h;split at h
  ·rename_i hc;obtain⟨t,ht⟩:=SC.WX hc;obtain⟨ts,h1,h2⟩:=Ww h;exact⟨t::ts,by simp[ht,UX,h1],by simp[ht,h2]⟩
  ·cases h
theorem allTS_not:∀{cs:List SC},Zi cs=false->UX (cs.map SC.den)=none
 |[],h=>by cases h
 |c::cs,h=>by
  simp only[Zi]at h;split at h
  ·rename_i hc;obtain⟨t,ht⟩:=SC.WX hc;simp[ht,UX,allTS_not h]
  ·rename_i hc;have:=SC.not_isT hc;simp only[AQ];generalize c.den=d at this;cases d<;>first|exact this.elim|rfl
theorem WL.unmap:∀{a b:List T},WL (a.map .t) (b.map .t)->a.length=b.length/\∀i (h:i<a.length) (h':i<b.length),WT a[i] b[i]:=λ{a b} h=>by
 refine⟨by simpa using h.length,λi hi hi'=> ?_⟩;have:=h.get (i:=i) (by simpa using hi) (by simpa using hi');simp only[AM]at this;generalize a[i]=x at this;generalize b[i]=y at this
 cases this with
 |refl=>exact .refl _
 |t h=>exact h
 |junk=>exact .junk _
theorem qC(hty:Z1 P ty){b ex:Bool}{t:TypeId}{n:Nat}{ps:List (Nat×SV)}{v:SV}{A':SH}(h:Yu b ex ty O t n ps=some (v,A')):
  ∃v0,JK P b (SH.den O) t n (ps.map λx=>(x.1,x.2.den))=some (v0,SH.den A')/\WV v0 v.den/\(ex=true->v0=v.den):=by
 unfold Yu at h;split at h
 ·rename_i i c hi;simp only[JK,hty.ok _ _ _ hi];split at h
  ·rename_i e hk;rw[hk];split at h
   ·rename_i j c? hj;simp only[hty.ok _ _ _ hj];split at h
    ·rename_i z hz;obtain⟨z',h1,h2⟩:=YY hz;have hzl:z.length=z'.length:=(by simpa using congrArg List.length h2);split at h
     ·rename_i h3 h4 h5;rw[h1];simp only;rw[AB ⟨by rw[<-hzl];exact eqB h3,ltB h4,leB' h5⟩];split at h
      ·rename_i cs hcs;have hf:=Wh hcs;rw[replS_den h2]at hf;rw[hf];simp only[objT];split at h
       ·split at h
        ·rename_i c' hall;split at h
         ·rename_i xs hx hsz;injection h with h;injection h with h8 h9;subst h8;subst h9;obtain⟨h10,_,h12⟩:=Wk hx;refine⟨_,?_,WV.rfl',λ_=>rfl⟩;simp only[SH.Jp,SO.den,SV.den,SC.den,SH.QE,B6,h12 rfl,eqB hsz]
         ·cases h
        ·cases h
       simp only;split at h
       ·rename_i hall;obtain⟨ts,h6,h7⟩:=Ww hall;rw[h6];split at h
        ·split at h
         ·injection h with h;injection h with h8 h9;subst h8;subst h9;have:ts=[]:=(by simpa using h7.symm);subst this;exact⟨_,rfl,WV.rfl',λ_=>rfl⟩
         ·cases h
        ·rename_i n';split at h
         ·rename_i c';split at h
          ·rename_i xs hx;injection h with h;injection h with h8 h9;subst h8;subst h9;obtain⟨h10,h11,h12⟩:=Wk hx;refine⟨_,rfl,?_,λhex=> ?_⟩
           ·show WC (.t (.imm ts (n'+1) (some (n'+1)))) (.t (.imm (xs.flatMap c'.trees) xs.length (some (n'+1))));rw[h10];rw[h7]at h11;obtain⟨h13,h14⟩:=WL.unmap h11;exact .t (.cells _ _ _ _ h13 h14)
           ·have:=h12 hex;rw[h7]at this;have e:ts=xs.flatMap c'.trees:=(List.map_inj_right (λa b hab=>by injection hab)).1 this;simp only[SV.den,SC.den,h10,e]
          ·cases h
         ·cases h
       ·rename_i hall;rw[allTS_not hall];injection h with h;injection h with h8 h9;subst h8;subst h9;refine⟨_,?_,WV.rfl',λ_=>rfl⟩;simp only[SH.Jp,SO.den,SV.den,SC.den,SH.QE,B6]
      ·cases h
     ·cases h
    ·cases h
   ·cases h
  ·cases h
 ·cases h
theorem Zm(hty:Z1 P ty){t:TypeId}{l c v:SV}{A':SH}(h:ZP ty O t l c=some (true,v,A')):Qu P (SH.den O) t l.den c.den=some (v.den,SH.den A'):=by
 unfold ZP at h;split at h
 ·rename_i i c1 n m hi hn hm;simp only[Qu,hty.ok _ _ _ hi,Xj hn,Xj hm];split at h
  ·rename_i e hk;rw[hk];split at h
   ·rename_i j lay hj;simp only[hty.ok _ _ _ hj];obtain⟨h1,z0,hz0,h2⟩:=hty.lay _ _ _ hj;split at h
    ·rename_i z hz;rw[hz]at hz0;injection hz0 with hz0;subst hz0;rw[hz];injection h with h;injection h with h3 h;injection h with h4 h5;subst h4;subst h5;simp only[AC,Aj]at h3;have hzl:j.size=z.length:=(by rw[h1];have:=h2.length;rw[AG,AG,Ly.QC]at this;exact this.symm);simp only;rw[AB ⟨hzl,by rw[h1];exact lay.size_pos,h3.1.1.1,h3.1.1.2,h3.1.2,h3.2⟩];simp only[SV.den,SC.den,SH.Jp,SO.den,SH.QE,B6,h1]
    ·cases h
   ·cases h
  ·cases h
 ·cases h
theorem Qw{x:Option SV}{XJ top n:Nat}{p:Bool}(h:XY x XJ top=some (p,n))(hp:p=true):JR (x.map SV.den) XJ top=some n:=by
 subst hp;unfold XY at h
 cases x with
 |none=>simp only[A0,A4,Ak]at h;subst h;rfl
 |some v=>
  simp only at h;split at h
  ·rename_i m hm;simp only[A0,A4,AC,Aj]at h;obtain⟨h1,rfl⟩:=h;simp only[AD,JR,Xj hm];rw[AB h1]
  ·cases h
theorem Wf(c:Ly)(xs:List c.ty)(l n:Nat):(((xs.flatMap c.trees).drop (l*c.size)).take (n*c.size))=((xs.drop l).take n).flatMap c.trees:=by rw[XO,Xm]
theorem V9{α:Type}{xs:List α}{l h:Nat}(hh:h<=xs.length):((xs.drop l).take (h - l)).length=h - l:=by rw[Bb,CG];omega
theorem US{x:Option AV}{d top n:Nat}(h:JR x d top=some n)(hd:d<=top):n<=top:=by
 unfold JR at h;split at h
 ·injection h with h;omega
 ·split at h
  ·split at h
   ·injection h with h;omega
   ·cases h
  ·cases h
theorem elem_at{id ep es off:Nat}{b:Bool}(h:(match O[id]? with|some (.arr c _ ep')=>Nat.beq ep' ep&&Nat.beq c.size es|some (.st _ es' ep')=>Nat.beq ep' ep&&Nat.beq es' es|some (.zer _ c _)=>Nat.beq ep 0&&Nat.beq c.size es|some (.opn c _ _ _ ep')=>Nat.beq ep' ep&&Nat.beq c.size es|none=>false)=b)(hb:b=true):
  ∃o,(SH.den O).at? ⟨id,ep,off⟩=some o/\o.es=es:=by
 subst hb;split at h
 ·rename_i c xs ep' ho;simp only[AC]at h;exact⟨_,SH.JB ho (eqB h.1),eqB h.2⟩
 ·rename_i cs es' ep' ho;simp only[AC]at h;exact⟨_,SH.JB ho (eqB h.1),eqB h.2⟩
 ·rename_i z c n ho;simp only[AC]at h;exact⟨_,SH.JB ho (eqB h.1).symm,eqB h.2⟩
 ·rename_i c xs cs ys ep' ho;simp only[AC]at h;exact⟨_,SH.JB ho (eqB h.1),eqB h.2⟩
 ·cases h
theorem sliceS_ok(hty:Z1 P ty){t:TypeId}{x:SV}{lo hi mx:Option SV}{v:SV}(h:sliceS ty O t x lo hi mx=some (true,v)):
  Yc P (SH.den O) t x.den (lo.map SV.den) (hi.map SV.den) (mx.map SV.den)=some v.den:=by
 unfold sliceS at h;split at h
 ·rename_i i c1 hi';simp only[Yc,hty.ok _ _ _ hi'];split at h
  ·
   rename_i s hk;split at h
   ·rename_i p h1 hh;split at h
    ·rename_i q l hl;injection h with h;injection h with h2 h;subst h;simp only[AC]at h2;simp only[hk,SV.den,SC.den,Ca,Qw hh h2.1,Qw hl h2.2]
    ·cases h
   ·cases h
  ·
   rename_i e id ep es l0 len cap hk;split at h
   ·rename_i j c2 hj;split at h
    ·rename_i ho hs;obtain⟨o,ho1,ho2⟩:=elem_at (off:=l0*es) ho rfl;have hse:o.es=j.size:=(by rw[ho2];exact eqB hs);simp only[hk,SV.den,SC.den,hty.ok _ _ _ hj,ho1];rw[AB hse];simp only[Ca];split at h
     ·rename_i p h1 hh;split at h
      ·rename_i c;split at h
       ·injection h with h;injection h with h2 h;subst h;rw[Qw hh h2];simp only[Ca,JR,Nat.sub_zero,B6,BZ,ite_self,SC.den]
       ·rename_i lov;split at h
        ·rename_i q l hl;injection h with h;injection h with h2 h;subst h;simp only[AC]at h2;rw[Qw hh h2.1];simp only;rw[Qw hl h2.2];simp only[SC.den,eqN];by_cases hcl:c=l
         ·simp[hcl]
         ·simp[hcl,As,eqB hs]
        ·cases h
      ·split at h
       ·rename_i q l hl;injection h with h;injection h with h2 h;subst h;simp only[AC,By,eqN,Aj]at h2;rw[Qw hh h2.1.1];simp only;rw[Qw hl h2.1.2];simp only;rw[AB h2.2];simp only[SC.den,As,eqB hs]
       ·cases h
     ·cases h
    ·cases h
   ·cases h
  ·
   rename_i e id ep es l0 len cap m hk;split at h
   ·rename_i j c2 hj;split at h
    ·rename_i ho hs;obtain⟨o,ho1,ho2⟩:=elem_at (off:=l0*es) ho rfl;have hse:o.es=j.size:=(by rw[ho2];exact eqB hs);simp only[hk,SV.den,SC.den,hty.ok _ _ _ hj,ho1];rw[AB hse];split at h
     ·rename_i o' m' hm;split at h
      ·rename_i hiv;split at h
       ·rename_i p h1 hh;injection h with h;injection h with h2 h;subst h;simp only[AC]at h2;have hmm:=Qw hm h2.1;have hhh:=Qw hh h2.2;simp only[AD]at hmm hhh⊢;rw[hmm];simp only;rw[hhh];simp only[Ca,JR,Nat.sub_zero,B6,BZ,ite_self,SC.den]
       ·cases h
      ·cases h
     ·cases h
    ·cases h
   ·cases h
  ·
   rename_i e c xs cap hk;split at h
   ·rename_i j c2 hj;split at h
    ·rename_i hs;have hlen:(xs.flatMap c.trees).length=xs.length*j.size:=(by rw[QW,eqB hs]);simp only[hk,SV.den,SC.den,hty.ok _ _ _ hj];rw[AB hlen];simp only[Ca];split at h
     ·rename_i p h1 hh;split at h
      ·rename_i q l hl;injection h with h;injection h with h2 h;subst h;simp only[AC]at h2;have hle:h1<=xs.length:=US (Qw hh h2.1) (A9 _);rw[Qw hh h2.1];simp only;rw[Qw hl h2.2];simp only[SC.den];rw[<-eqB hs,Wf,V9 hle]
      ·cases h
     ·cases h
    ·cases h
   ·cases h
  ·
   rename_i e c xs cap m hk;split at h
   ·rename_i j c2 hj;split at h
    ·rename_i o m' hs hm;have hlen:(xs.flatMap c.trees).length=xs.length*j.size:=(by rw[QW,eqB hs]);simp only[hk,SV.den,SC.den,hty.ok _ _ _ hj];rw[AB hlen];split at h
     ·rename_i hiv;split at h
      ·rename_i p h1 hh;split at h
       ·rename_i q l hl;injection h with h;injection h with h2 h;subst h;simp only[AC]at h2;have hmm:=Qw hm h2.1.1;have hhh:=Qw hh h2.1.2;have hle:m'<=xs.length:=US hmm (B4 _);have hle':h1<=m':=US hhh (B4 _);simp only[AD]at hmm hhh⊢;rw[hmm];simp only;rw[hhh];simp only;rw[Qw hl h2.2];simp only[SC.den];rw[<-eqB hs,Wf,V9 (by omega)]
       ·cases h
      ·cases h
     ·cases h
    ·cases h
   ·cases h
  ·cases h
 ·cases h
theorem allS_ok{c:Ly}{x:SV}{m:Nat}{new:List c.ty}(h:allS O c x=some (true,m,new)):lenE x.den=some m/\new.length=m/\Qt (SH.den O) c.size m x.den=some ((new.flatMap c.trees).map .t):=by
 unfold allS at h;split at h
 ·rename_i c' xs cap;split at h
  ·rename_i hb;simp only[A0,A4,Ak]at h;obtain⟨rfl,rfl⟩:=h;refine⟨rfl,Qz hb xs,?_⟩;simp only[SV.den,SC.den,Qt];rw[AB ⟨A9 _,by rw[QW,Jr hb]⟩,Qk,AS (by rw[QW,Jr hb];exact A9 _)]
  ·cases h
 ·simp only[A0,A4,Ak]at h;obtain⟨rfl,rfl⟩:=h;exact⟨rfl,rfl,by simp[SV.den,SC.den,Qt]⟩
 ·rename_i s;split at h
  ·simp only[A0,A4,Ak]at h;obtain⟨rfl,rfl⟩:=h;refine⟨rfl,by simp,?_⟩;simp only[SV.den,SC.den,Qt,Ly.size];rw[AB (by simp)];simp[Ly.trees,List.flatMap_map,List.map_flatMap,List.flatMap_singleton']
   induction s with
   |nil=>rfl
   |cons a s ih=>simp[ih]
  ·cases h
 ·rename_i id ep es lo len cap;split at h
  ·rename_i c' xs ep' ho;split at h
   ·rename_i hb;split at h
    ·rename_i he hs;simp only[A0,A4,leB,Aj]at h;obtain⟨h1,rfl,rfl⟩:=h;have hsz:=Jr hb;have hes:es=c'.size:=(by rw[eqB hs,hsz]);subst hes;have hat:(SH.den O).at? ⟨id,ep,lo*c'.size⟩=some (SO.arr c' xs ep').den:=SH.JB ho (eqB he);refine⟨rfl,by rw[Qz,Bb,CG];omega,?_⟩;have hle:=Ae c'.size h1;rw[As]at hle;simp only[SV.den,SC.den,Qt,hat,SO.den,<-hsz];rw[AB ⟨by rw[AG,QW];exact hle,A9 _⟩,Qk,<-BE,<-BQ,Wf]
    ·cases h
   ·cases h
  ·cases h
 ·cases h
end
end Go.Abs
