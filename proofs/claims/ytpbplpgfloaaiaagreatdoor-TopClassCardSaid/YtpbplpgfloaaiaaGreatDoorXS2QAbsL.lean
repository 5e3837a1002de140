/- A part of the proof. -/
import Derived.Test.YtpbplpgfloaaiaaGreatDoorXS2QMa
set_option linter.all false
namespace Go.Abs
variable [Gl]
section
variable {P:Program}{r:QB}{M τ S':QA}{res:Option AV}
def light{f:QA->Option (Option AV×QA)}{g:Option (Option AV)}(hf:∀M,f M=g.map λv=>(v,M))(h:f M=some (res,S')):∃A',f τ=some (res,A')/\X0 τ A' M S' []:=by
 rw[hf]at h
 cases g with
 |none=>simp at h
 |some v=>simp only[AI,Kn,A0]at h;obtain⟨rfl,rfl⟩:=h;exact⟨τ,by rw[hf];rfl,X0.none⟩
def storeE_same{i:JD}{a v:AV}(h:XE M i a v=some S')(hag:∀c∈JN (some a),agC τ M c):∃A',XE τ i a v=some A'/\X0 τ A' M S' (JN (some a)):=by
 unfold XE at h⊢;split at h
 ·rename_i p;have hp:=hag (p.id+1) (by simp[JN]);simp only[XM hp];split at h
  ·rename_i o ho;split at h
   ·rename_i hc;injection h with h;subst h;refine⟨_,by rw[AC hc],?_⟩;exact X0.setAt _ hp
   ·cases h
  ·cases h
 ·cases h
def Ye{t:TypeId}{l c y:AV}(h:JJ P M t l c=some (y,S'))(hl:τ.length=M.length):S'.length=M.length+1/\∃A',JJ P τ t l c=some (y,A')/\X0 τ A' M S' [0,M.length+1]:=by
 unfold JJ at h⊢;split at h
 ·rename_i i n m e1 e2 e3;try simp only[e1,e2,e3]
  split at h
  ·rename_i e he;try simp only[he]
   split at h
   ·rename_i j hj;try simp only[hj]
    split at h
    ·rename_i z hz;split at h
     ·rename_i hc;rw[AC hc];injection h with h;injection h with h1 h2;subst h1;subst h2;exact⟨by simp,_,by rw[hl],X0.push _ hl⟩
     ·cases h
    ·cases h
   ·cases h
  ·cases h
 ·cases h
def buildSliceE_same{b:Bool}{t:TypeId}{n:Nat}{ps:List (Nat×AV)}{y:AV}(h:Ji P b M t n ps=some (y,S')):
  (S'=M/\∀τ,Ji P b τ t n ps=some (y,τ))\/(S'.length≠M.length/\∀τ,τ.length=M.length->∃A',Ji P b τ t n ps=some (y,A')/\X0 τ A' M S' [0,M.length+1]):=by
 unfold Ji at h⊢;split at h
 ·rename_i i e1;try simp only[e1]
  split at h
  ·rename_i e he;try simp only[he]
   split at h
   ·rename_i j hj;try simp only[hj]
    split at h
    ·rename_i z hz;split at h
     ·rename_i hc;split at h
      ·rename_i cs hcs;try simp only[hcs]
       cases hts:objT b cs with
       |some ts=>rw[hts]at h;injection h with h;injection h with h1 h2;subst h1;subst h2;exact .inl ⟨rfl,fun τ=>by rw[AC hc]⟩
       |none=>rw[hts]at h;injection h with h;injection h with h1 h2;subst h1;subst h2;refine .inr ⟨by simp,fun τ hl=>⟨_,by rw[AC hc];simp only[hcs,hts,hl],X0.push _ hl⟩⟩
      ·cases h
     ·cases h
    ·cases h
   ·cases h
  ·cases h
 ·cases h
def appendE_same{t:TypeId}{s x y:AV}(h:Jk P M t s x=some (y,S'))(hs:∀c∈JN (some s),agC τ M c)(hx:∀c∈JN (some x),agC τ M c):
  (S'.length=M.length/\∃A',Jk P τ t s x=some (y,A')/\X0 τ A' M S' (JN (some s)))\/(S'.length≠M.length/\(τ.length=M.length->∃A',Jk P τ t s x=some (y,A')/\X0 τ A' M S' [0,M.length+1])):=by
 have refl':∀ws,(∀c∈ws,agC τ M c)->X0 τ τ M M ws:=λws hw=>⟨λc _=>agC.refl τ c,hw,λc _=>agC.refl M c⟩;unfold Jk at h⊢;split at h
 ·rename_i i e1;try simp only[e1]
  split at h
  ·rename_i e he;try simp only[he]
   split at h
   ·rename_i j hj;try simp only[hj]
    split at h
    ·rename_i z m hz hm;try simp only[hz,hm]
     split at h
     ·rename_i hc;rw[AC hc];rw[Wg hx];split at h
      ·rename_i new hnew;try simp only[hnew]
       split at h
       ·rename_i cs len c;split at h
        ·rename_i hc2;rw[AC hc2];split at h
         ·injection h with h;injection h with h1 h2;subst h1;subst h2;rename_i hm0;exact .inl ⟨rfl,τ,by rw[AC hm0],refl' _ hs⟩
         ·rename_i hm0;injection h with h;injection h with h1 h2;subst h1;subst h2;exact .inr ⟨by simp,λhl=>⟨_,by rw[AK hm0,hl],X0.push _ hl⟩⟩
        ·cases h
       ·rename_i p len;have hp:=hs (p.id+1) (by simp[JN]);simp only[XM hp];split at h
        ·rename_i o ho;try simp only[ho]
         split at h
         ·rename_i hc2;rw[AC hc2];injection h with h;injection h with h1 h2;subst h1;subst h2;exact .inl ⟨by simp,_,rfl,X0.setAt _ hp⟩
         ·cases h
        ·cases h
       ·rename_i p len c;have hp:=hs (p.id+1) (by simp[JN]);simp only[XM hp];split at h
        ·rename_i o ho;try simp only[ho]
         split at h
         ·rename_i hc2;rw[AC hc2];injection h with h;injection h with h1 h2;subst h1;subst h2;exact .inl ⟨by simp,_,rfl,X0.setAt _ hp⟩
         ·rename_i hc2;rw[AK hc2];split at h
          ·rename_i hc3;rw[AC hc3];injection h with h;injection h with h1 h2;subst h1;subst h2;exact .inr ⟨by simp,λhl=>⟨_,by rw[hl],X0.push _ hl⟩⟩
          ·cases h
        ·cases h
       ·cases h
      ·cases h
     ·cases h
    ·cases h
   ·cases h
  ·cases h
 ·cases h
def K9{op:Op}{x:DR}{rs ws:List Nat}(h:(opE P r M op).map (λx=>newD M x [])=some x)(hx:x=(res,S',rs,ws)){τ:QA}(hag:∀c∈rs,agC τ M c)
  (hh:∀res S',opE P r M op=some (res,S')->(S'=M/\∀τ,opE P r τ op=some (res,τ))\/(S'.length≠M.length/\∀τ,τ.length=M.length->∃A',opE P r τ op=some (res,A')/\X0 τ A' M S' [0,M.length+1])):
  opE P r M op=some (res,S')/\∃A',opE P r τ op=some (res,A')/\X0 τ A' M S' ws:=by
 subst hx;rw[WF]at h;obtain⟨⟨a,b⟩,h1,h2⟩:=h;unfold newD at h2;split at h2
 ·rename_i hl;simp only[A0]at h2;obtain⟨rfl,rfl,rfl,rfl⟩:=h2;refine⟨h1,?_⟩;rcases hh a b h1 with ⟨h3,h4⟩|⟨h3,_⟩
  ·subst h3;exact⟨τ,h4 τ,X0.none⟩
  ·exact absurd hl h3
 ·rename_i hl;simp only[A0]at h2;obtain⟨rfl,rfl,rfl,rfl⟩:=h2;refine⟨h1,?_⟩;rcases hh a b h1 with ⟨h3,h4⟩|⟨_,h4⟩
  ·subst h3;exact absurd rfl hl
  ·exact h4 τ (hag 0 (by simp))
def copyE_same{t:TypeId}{d x y:AV}(h:Uc P M t d x=some (y,S'))(hs:∀c∈JN (some d),agC τ M c)(hx:∀c∈JN (some x),agC τ M c):
  ∃A',Uc P τ t d x=some (y,A')/\X0 τ A' M S' (JN (some d)):=by
 unfold Uc at h⊢;split at h
 ·rename_i i e1;try simp only[e1]
  split at h
  ·rename_i e he;try simp only[he]
   split at h
   ·rename_i j hj;try simp only[hj]
    split at h
    ·rename_i p len cp m hm;try simp only[hm]
     have hp:=hs (p.id+1) (by simp[JN]);simp only[XM hp];rw[Wg hx];split at h
     ·rename_i o new ho hnew;try simp only[ho,hnew]
      split at h
      ·rename_i hc2;rw[AC hc2];injection h with h;injection h with h1 h2;subst h1;subst h2;exact⟨_,rfl,X0.setAt _ hp⟩
      ·cases h
     ·cases h
    ·rename_i m hm;try simp only[hm]
     injection h with h;injection h with h1 h2;subst h1;subst h2;exact⟨τ,rfl,X0.none⟩
    ·cases h
   ·cases h
  ·cases h
 ·cases h
end
end Go.Abs
