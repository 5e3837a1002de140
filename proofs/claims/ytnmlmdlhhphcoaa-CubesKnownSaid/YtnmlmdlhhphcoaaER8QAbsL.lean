/- A part of the proof. -/
import Derived.Test.YtnmlmdlhhphcoaaER8QMa
set_option linter.all false
namespace Go.Abs
variable [Gl]
section
variable {P:Program}{r:Q3}{J τ S':Q4}{res:Option AV}
theorem light{f:Q4->Option (Option AV×Q4)}{g:Option (Option AV)}(hf:∀J,f J=g.map λv=>(v,J))(h:f J=some (res,S')):∃T',f τ=some (res,T')/\XO τ T' J S' []:=by
 rw[hf]at h
 cases g with
 |none=>simp at h
 |some v=>simp only[Option.map_some,Option.some.injEq,Prod.mk.injEq]at h;obtain⟨rfl,rfl⟩:=h;exact⟨τ,by rw[hf];rfl,XO.none⟩
theorem storeE_same{i:JC}{a v:AV}(h:ZQ J i a v=some S')(hag:∀c∈Jh (some a),agC τ J c):∃T',ZQ τ i a v=some T'/\XO τ T' J S' (Jh (some a)):=by
 unfold ZQ at h⊢;split at h
 ·rename_i p;have hp:=hag (p.id+1) (by simp[Jh]);simp only[Zq hp];split at h
  ·rename_i o ho;split at h
   ·rename_i hc;injection h with h;subst h;refine⟨_,by rw[if_pos hc],?_⟩;exact XO.setAt _ hp
   ·cases h
  ·cases h
 ·cases h
theorem Kk{t:TypeId}{l c y:AV}(h:JL P J t l c=some (y,S'))(hl:τ.length=J.length):S'.length=J.length+1/\∃T',JL P τ t l c=some (y,T')/\XO τ T' J S' [0,J.length+1]:=by
 unfold JL at h⊢;split at h
 ·rename_i i n m e1 e2 e3;try simp only[e1,e2,e3]
  split at h
  ·rename_i e he;try simp only[he]
   split at h
   ·rename_i j hj;try simp only[hj]
    split at h
    ·rename_i z hz;split at h
     ·rename_i hc;rw[if_pos hc];injection h with h;injection h with h1 h2;subst h1;subst h2;exact⟨by simp,_,by rw[hl],XO.push _ hl⟩
     ·cases h
    ·cases h
   ·cases h
  ·cases h
 ·cases h
theorem buildSliceE_same{b:Bool}{t:TypeId}{n:Nat}{ps:List (Nat×AV)}{y:AV}(h:Js P b J t n ps=some (y,S')):
  (S'=J/\∀τ,Js P b τ t n ps=some (y,τ))\/(S'.length≠J.length/\∀τ,τ.length=J.length->∃T',Js P b τ t n ps=some (y,T')/\XO τ T' J S' [0,J.length+1]):=by
 unfold Js at h⊢;split at h
 ·rename_i i e1;try simp only[e1]
  split at h
  ·rename_i e he;try simp only[he]
   split at h
   ·rename_i j hj;try simp only[hj]
    split at h
    ·rename_i z hz;split at h
     ·rename_i hc;split at h
      ·rename_i cs hcs;try simp only[hcs]
       cases hts:objT b cs with
       |some ts=>rw[hts]at h;injection h with h;injection h with h1 h2;subst h1;subst h2;exact .inl ⟨rfl,fun τ=>by rw[if_pos hc]⟩
       |none=>rw[hts]at h;injection h with h;injection h with h1 h2;subst h1;subst h2;refine .inr ⟨by simp,fun τ hl=>⟨_,by rw[if_pos hc];simp only[hcs,hts,hl],XO.push _ hl⟩⟩
      ·cases h
     ·cases h
    ·cases h
   ·cases h
  ·cases h
 ·cases h
theorem appendE_same{t:TypeId}{s x y:AV}(h:Jy P J t s x=some (y,S'))(hs:∀c∈Jh (some s),agC τ J c)(hx:∀c∈Jh (some x),agC τ J c):
  (S'.length=J.length/\∃T',Jy P τ t s x=some (y,T')/\XO τ T' J S' (Jh (some s)))\/(S'.length≠J.length/\(τ.length=J.length->∃T',Jy P τ t s x=some (y,T')/\XO τ T' J S' [0,J.length+1])):=by
 have refl':∀ws,(∀c∈ws,agC τ J c)->XO τ τ J J ws:=λws hw=>⟨λc _=>agC.refl τ c,hw,λc _=>agC.refl J c⟩;unfold Jy at h⊢;split at h
 ·rename_i i e1;try simp only[e1]
  split at h
  ·rename_i e he;try simp only[he]
   split at h
   ·rename_i j hj;try simp only[hj]
    split at h
    ·rename_i z m hz hm;try simp only[hz,hm]
     split at h
     ·rename_i hc;rw[if_pos hc];rw[Uz hx];split at h
      ·rename_i new hnew;try simp only[hnew]
       split at h
       ·rename_i cs len c;split at h
        ·rename_i hc2;rw[if_pos hc2];split at h
         ·injection h with h;injection h with h1 h2;subst h1;subst h2;rename_i hm0;exact .inl ⟨rfl,τ,by rw[if_pos hm0],refl' _ hs⟩
         ·rename_i hm0;injection h with h;injection h with h1 h2;subst h1;subst h2;exact .inr ⟨by simp,λhl=>⟨_,by rw[if_neg hm0,hl],XO.push _ hl⟩⟩
        ·cases h
       ·rename_i p len;have hp:=hs (p.id+1) (by simp[Jh]);simp only[Zq hp];split at h
        ·rename_i o ho;try simp only[ho]
         split at h
         ·rename_i hc2;rw[if_pos hc2];injection h with h;injection h with h1 h2;subst h1;subst h2;exact .inl ⟨by simp,_,rfl,XO.setAt _ hp⟩
         ·cases h
        ·cases h
       ·rename_i p len c;have hp:=hs (p.id+1) (by simp[Jh]);simp only[Zq hp];split at h
        ·rename_i o ho;try simp only[ho]
         split at h
         ·rename_i hc2;rw[if_pos hc2];injection h with h;injection h with h1 h2;subst h1;subst h2;exact .inl ⟨by simp,_,rfl,XO.setAt _ hp⟩
         ·rename_i hc2;rw[if_neg hc2];split at h
          ·rename_i hc3;rw[if_pos hc3];injection h with h;injection h with h1 h2;subst h1;subst h2;exact .inr ⟨by simp,λhl=>⟨_,by rw[hl],XO.push _ hl⟩⟩
          ·cases h
        ·cases h
       ·cases h
      ·cases h
     ·cases h
    ·cases h
   ·cases h
  ·cases h
 ·cases h
theorem Wa{op:Op}{x:DR}{rs ws:List Nat}(h:(opE P r J op).map (λx=>newD J x [])=some x)(hx:x=(res,S',rs,ws)){τ:Q4}(hag:∀c∈rs,agC τ J c)
  (hh:∀res S',opE P r J op=some (res,S')->(S'=J/\∀τ,opE P r τ op=some (res,τ))\/(S'.length≠J.length/\∀τ,τ.length=J.length->∃T',opE P r τ op=some (res,T')/\XO τ T' J S' [0,J.length+1])):
  opE P r J op=some (res,S')/\∃T',opE P r τ op=some (res,T')/\XO τ T' J S' ws:=by
 subst hx;rw[Option.map_eq_some_iff]at h;obtain⟨⟨a,b⟩,h1,h2⟩:=h;unfold newD at h2;split at h2
 ·rename_i hl;simp only[Prod.mk.injEq]at h2;obtain⟨rfl,rfl,rfl,rfl⟩:=h2;refine⟨h1,?_⟩;rcases hh a b h1 with ⟨h3,h4⟩|⟨h3,_⟩
  ·subst h3;exact⟨τ,h4 τ,XO.none⟩
  ·exact absurd hl h3
 ·rename_i hl;simp only[Prod.mk.injEq]at h2;obtain⟨rfl,rfl,rfl,rfl⟩:=h2;refine⟨h1,?_⟩;rcases hh a b h1 with ⟨h3,h4⟩|⟨_,h4⟩
  ·subst h3;exact absurd rfl hl
  ·exact h4 τ (hag 0 (by simp))
theorem copyE_same{t:TypeId}{d x y:AV}(h:qO P J t d x=some (y,S'))(hs:∀c∈Jh (some d),agC τ J c)(hx:∀c∈Jh (some x),agC τ J c):
  ∃T',qO P τ t d x=some (y,T')/\XO τ T' J S' (Jh (some d)):=by
 unfold qO at h⊢;split at h
 ·rename_i i e1;try simp only[e1]
  split at h
  ·rename_i e he;try simp only[he]
   split at h
   ·rename_i j hj;try simp only[hj]
    split at h
    ·rename_i p len cp m hm;try simp only[hm]
     have hp:=hs (p.id+1) (by simp[Jh]);simp only[Zq hp];rw[Uz hx];split at h
     ·rename_i o new ho hnew;try simp only[ho,hnew]
      split at h
      ·rename_i hc2;rw[if_pos hc2];injection h with h;injection h with h1 h2;subst h1;subst h2;exact⟨_,rfl,XO.setAt _ hp⟩
      ·cases h
     ·cases h
    ·rename_i m hm;try simp only[hm]
     injection h with h;injection h with h1 h2;subst h1;subst h2;exact⟨τ,rfl,XO.none⟩
    ·cases h
   ·cases h
  ·cases h
 ·cases h
end
end Go.Abs
