/- A part of the proof. -/
import Derived.Test.YtddaobhpffpmoaaSR7QMa
set_option linter.all false
namespace Go.Abs
variable [Gl]
section
variable {P:Program}{r:Q0}{O τ A':Q1}{res:Option AV}
theorem light{f:Q1->Option (Option AV×Q1)}{g:Option (Option AV)}(hf:∀O,f O=g.map λv=>(v,O))(h:f O=some (res,A')):∃T',f τ=some (res,T')/\Jg τ T' O A' []:=by
 rw[hf]at h
 cases g with
 |none=>simp at h
 |some v=>simp only[AD,A0,A4]at h;obtain⟨rfl,rfl⟩:=h;exact⟨τ,by rw[hf];rfl,Jg.none⟩
theorem storeE_same{i:Qp}{a v:AV}(h:Xg O i a v=some A')(hag:∀c∈J7 (some a),agC τ O c):∃T',Xg τ i a v=some T'/\Jg τ T' O A' (J7 (some a)):=by
 unfold Xg at h⊢;split at h
 ·rename_i p;have hp:=hag (p.id+1) (by simp[J7]);simp only[X9 hp];split at h
  ·rename_i o ho;split at h
   ·rename_i hc;injection h with h;subst h;refine⟨_,by rw[AB hc],?_⟩;exact Jg.setAt _ hp
   ·cases h
  ·cases h
 ·cases h
theorem YU{t:TypeId}{l c y:AV}(h:Qu P O t l c=some (y,A'))(hl:τ.length=O.length):A'.length=O.length+1/\∃T',Qu P τ t l c=some (y,T')/\Jg τ T' O A' [0,O.length+1]:=by
 unfold Qu at h⊢;split at h
 ·rename_i i n m e1 e2 e3;try simp only[e1,e2,e3]
  split at h
  ·rename_i e he;try simp only[he]
   split at h
   ·rename_i j hj;try simp only[hj]
    split at h
    ·rename_i z hz;split at h
     ·rename_i hc;rw[AB hc];injection h with h;injection h with h1 h2;subst h1;subst h2;exact⟨by simp,_,by rw[hl],Jg.push _ hl⟩
     ·cases h
    ·cases h
   ·cases h
  ·cases h
 ·cases h
theorem buildSliceE_same{b:Bool}{t:TypeId}{n:Nat}{ps:List (Nat×AV)}{y:AV}(h:JK P b O t n ps=some (y,A')):
  (A'=O/\∀τ,JK P b τ t n ps=some (y,τ))\/(A'.length≠O.length/\∀τ,τ.length=O.length->∃T',JK P b τ t n ps=some (y,T')/\Jg τ T' O A' [0,O.length+1]):=by
 unfold JK at h⊢;split at h
 ·rename_i i e1;try simp only[e1]
  split at h
  ·rename_i e he;try simp only[he]
   split at h
   ·rename_i j hj;try simp only[hj]
    split at h
    ·rename_i z hz;split at h
     ·rename_i hc;split at h
      ·rename_i cs hcs;try simp only[hcs]
       cases hts:objT b cs with
       |some ts=>rw[hts]at h;injection h with h;injection h with h1 h2;subst h1;subst h2;exact .inl ⟨rfl,fun τ=>by rw[AB hc]⟩
       |none=>rw[hts]at h;injection h with h;injection h with h1 h2;subst h1;subst h2;refine .inr ⟨by simp,fun τ hl=>⟨_,by rw[AB hc];simp only[hcs,hts,hl],Jg.push _ hl⟩⟩
      ·cases h
     ·cases h
    ·cases h
   ·cases h
  ·cases h
 ·cases h
theorem appendE_same{t:TypeId}{s x y:AV}(h:JO P O t s x=some (y,A'))(hs:∀c∈J7 (some s),agC τ O c)(hx:∀c∈J7 (some x),agC τ O c):
  (A'.length=O.length/\∃T',JO P τ t s x=some (y,T')/\Jg τ T' O A' (J7 (some s)))\/(A'.length≠O.length/\(τ.length=O.length->∃T',JO P τ t s x=some (y,T')/\Jg τ T' O A' [0,O.length+1])):=by
 have refl':∀ws,(∀c∈ws,agC τ O c)->Jg τ τ O O ws:=λws hw=>⟨λc _=>agC.refl τ c,hw,λc _=>agC.refl O c⟩;unfold JO at h⊢;split at h
 ·rename_i i e1;try simp only[e1]
  split at h
  ·rename_i e he;try simp only[he]
   split at h
   ·rename_i j hj;try simp only[hj]
    split at h
    ·rename_i z m hz hm;try simp only[hz,hm]
     split at h
     ·rename_i hc;rw[AB hc];rw[Wg hx];split at h
      ·rename_i new hnew;try simp only[hnew]
       split at h
       ·rename_i cs len c;split at h
        ·rename_i hc2;rw[AB hc2];split at h
         ·injection h with h;injection h with h1 h2;subst h1;subst h2;rename_i hm0;exact .inl ⟨rfl,τ,by rw[AB hm0],refl' _ hs⟩
         ·rename_i hm0;injection h with h;injection h with h1 h2;subst h1;subst h2;exact .inr ⟨by simp,λhl=>⟨_,by rw[AE hm0,hl],Jg.push _ hl⟩⟩
        ·cases h
       ·rename_i p len;have hp:=hs (p.id+1) (by simp[J7]);simp only[X9 hp];split at h
        ·rename_i o ho;try simp only[ho]
         split at h
         ·rename_i hc2;rw[AB hc2];injection h with h;injection h with h1 h2;subst h1;subst h2;exact .inl ⟨by simp,_,rfl,Jg.setAt _ hp⟩
         ·cases h
        ·cases h
       ·rename_i p len c;have hp:=hs (p.id+1) (by simp[J7]);simp only[X9 hp];split at h
        ·rename_i o ho;try simp only[ho]
         split at h
         ·rename_i hc2;rw[AB hc2];injection h with h;injection h with h1 h2;subst h1;subst h2;exact .inl ⟨by simp,_,rfl,Jg.setAt _ hp⟩
         ·rename_i hc2;rw[AE hc2];split at h
          ·rename_i hc3;rw[AB hc3];injection h with h;injection h with h1 h2;subst h1;subst h2;exact .inr ⟨by simp,λhl=>⟨_,by rw[hl],Jg.push _ hl⟩⟩
          ·cases h
        ·cases h
       ·cases h
      ·cases h
     ·cases h
    ·cases h
   ·cases h
  ·cases h
 ·cases h
theorem KA{op:Op}{x:DR}{rs ws:List Nat}(h:(opE P r O op).map (λx=>newD O x [])=some x)(hx:x=(res,A',rs,ws)){τ:Q1}(hag:∀c∈rs,agC τ O c)
  (hh:∀res A',opE P r O op=some (res,A')->(A'=O/\∀τ,opE P r τ op=some (res,τ))\/(A'.length≠O.length/\∀τ,τ.length=O.length->∃T',opE P r τ op=some (res,T')/\Jg τ T' O A' [0,O.length+1])):
  opE P r O op=some (res,A')/\∃T',opE P r τ op=some (res,T')/\Jg τ T' O A' ws:=by
 subst hx;rw[A2]at h;obtain⟨⟨a,b⟩,h1,h2⟩:=h;unfold newD at h2;split at h2
 ·rename_i hl;simp only[A4]at h2;obtain⟨rfl,rfl,rfl,rfl⟩:=h2;refine⟨h1,?_⟩;rcases hh a b h1 with ⟨h3,h4⟩|⟨h3,_⟩
  ·subst h3;exact⟨τ,h4 τ,Jg.none⟩
  ·exact absurd hl h3
 ·rename_i hl;simp only[A4]at h2;obtain⟨rfl,rfl,rfl,rfl⟩:=h2;refine⟨h1,?_⟩;rcases hh a b h1 with ⟨h3,h4⟩|⟨_,h4⟩
  ·subst h3;exact absurd rfl hl
  ·exact h4 τ (hag 0 (by simp))
theorem copyE_same{t:TypeId}{d x y:AV}(h:Uj P O t d x=some (y,A'))(hs:∀c∈J7 (some d),agC τ O c)(hx:∀c∈J7 (some x),agC τ O c):
  ∃T',Uj P τ t d x=some (y,T')/\Jg τ T' O A' (J7 (some d)):=by
 unfold Uj at h⊢;split at h
 ·rename_i i e1;try simp only[e1]
  split at h
  ·rename_i e he;try simp only[he]
   split at h
   ·rename_i j hj;try simp only[hj]
    split at h
    ·rename_i p len cp m hm;try simp only[hm]
     have hp:=hs (p.id+1) (by simp[J7]);simp only[X9 hp];rw[Wg hx];split at h
     ·rename_i o new ho hnew;try simp only[ho,hnew]
      split at h
      ·rename_i hc2;rw[AB hc2];injection h with h;injection h with h1 h2;subst h1;subst h2;exact⟨_,rfl,Jg.setAt _ hp⟩
      ·cases h
     ·cases h
    ·rename_i m hm;try simp only[hm]
     injection h with h;injection h with h1 h2;subst h1;subst h2;exact⟨τ,rfl,Jg.none⟩
    ·cases h
   ·cases h
  ·cases h
 ·cases h
end
end Go.Abs
