/- A part of the proof. -/
import Derived.Test.YtpbplpgfloaaiaaGreatDoorXR2QAbsM
set_option linter.all false
namespace Go.Abs
variable [Gl]
def ZJ(P:Program)(g:FuncId)(args:List AV)(J:Q1)(rs:List Nat)(v:AV):Prop:=
 ∀τ,(∀c,c∈rs->agC τ J c)->Qo P g args τ λv' S'=>v'=v/\S'=τ
def memN(x:Nat):List Nat->Bool
 |[]=>false
 |y::ys=>x==y||memN x ys
def Z4:List Nat->List Nat->Bool
 |[],_=>true
 |x::xs,ys=>!memN x ys&&Z4 xs ys
abbrev Ql:=List (Nat×List Nat×List Nat)
def Qc(b:Nat)(rs ws:List Nat):Ql->Bool
 |[]=>true
 |(i,rs',ws')::l=>(b.testBit i||(Z4 ws' rs&&Z4 ws' ws&&Z4 ws rs'))&&Qc b rs ws l
def ZL(x:Option DR)(K:Option AV->Q1->List Nat->List Nat->Prop)(_:Tag K):Prop:=match x with|some (a,b,c,d)=>K a b c d|none=>False
def callD(P:Program)(g:FuncId)(args:List AV)(J:Q1)(K:Option AV->Q1->List Nat->List Nat->Prop)(_:Tag K):Prop:=
 (∃v rs,ZJ P g args J rs v/\K (some v) J rs [])\/∃v S',Qo P g args J (λv' τ=>v'=v/\τ=S')/\J.length<=S'.length/\K (some v) S' (List.range (J.length+1)) (List.range (S'.length+1))
def stepD(P:Program)(r:Q3)(J:Q1)(op:Op)(K:Option AV->Q1->List Nat->List Nat->Prop)(t:Tag K):Prop:=
 match op with
 |.call { callee:=.value f,args,argTypes:=_ }=>Jv (XF r f args.toList) (λx=>callD P x.1 x.2 J K t) ⟨⟩
 |.binOp b xT x y yT=>if Qr y then False else ZL (opD P r J (.binOp b xT x y yT)) K t
 |op=>ZL (opD P r J op) K t
def Wk(P:Program)(N:Nat):List COp->Nat->List Nat->Ql->Q3->Q1->(K:Q3->Q1->Prop)->Tag K->Prop
 |[],_,_,_,r,J,K,_=>K r J
 |⟨d,op,g,_⟩::os,j,bef,log,r,J,K,t=>UU (Jd N d) (X7 (Xb r g)
   (stepD P r J op (λres S' rs ws=>UU (Qc (bef.headD 0) rs ws log) (Wk P N os (j+1) bef.tail ((j,rs,ws)::log) (r.Qu d res) S' K t) ⟨⟩) ⟨⟩)
   (Wk P N os (j+1) bef.tail ((j,[],[])::log) (r.drop d) J K t) ⟨⟩ ⟨⟩) ⟨⟩
section
variable {P:Program}{N:Nat}{ro:Option Nat}
theorem memN_ok{x:Nat}:∀{ys:List Nat},memN x ys=false->x∉ys
 |[],_=>by simp
 |y::ys,h=>by simp only[memN,CG,Ae]at h;have:=memN_ok h.2;simp[h.1,this]
theorem Ki:∀{xs ys:List Nat},Z4 xs ys=true->∀c∈xs,c∉ys
 |[],_,_=>by simp
 |x::xs,ys,h=>by
  simp only[Z4,A9,Bo]at h;intro c hc;rcases AW.1 hc with rfl|hc
  ·exact memN_ok h.1
  ·exact Ki h.2 c hc
theorem WG{b:Nat}{rs ws:List Nat}:∀{l:Ql},Qc b rs ws l=true->∀x∈l,b.testBit x.1=false->(∀c∈x.2.2,c∉rs/\c∉ws)/\(∀c∈ws,c∉x.2.1)
 |[],_=>by simp
 |(i,rs',ws')::l,h=>by
  simp only[Qc,A9,CB]at h;intro x hx hb;rcases AW.1 hx with rfl|hx
  ·rcases h.1 with h1|h1
   ·rw[h1]at hb;cases hb
   ·exact⟨λc hc=>⟨Ki h1.1.1 c hc,Ki h1.1.2 c hc⟩,Ki h1.2⟩
  ·exact WG h.2 x hx hb
def GhD(N m:Nat)(r:Q3)(τ:Q1)(r0:Q3)(S0:Q1)(r1:Q3)(A1:Q1):Prop:=
 ∀i₁ w₁ a₁,HR i₁ τ w₁->Qt N i₁ w₁ r a₁->∀ι w a,HR ι S0 w->Qt N ι w r0 a->Step i₁ τ w₁ ι S0 w->
  ∃I',HR I' A1 w/\Qt N I' w r1 a/\∀IS ss ws,HR IS ss ws->ss.length<=m->Step IS ss ws i₁ τ w₁->Step IS ss ws I' A1 w
theorem GhD.refl(N m:Nat)(r:Q3)(τ:Q1)(r0:Q3)(S0:Q1):GhD N m r τ r0 S0 r0 S0:=λ_ _ _ _ _ ι _ _ hh hr hs=>⟨ι,hh,hr,λ_ _ _ _ _ h=>h.trans hs⟩
def Kr(P:Program)(N m:Nat)(ops:Array Oper)(o:Oper)(s s':St)(rs ws:List Nat):Prop:=
 Jd N o.dst=true/\∃b,JP ops s.1 o.guard=some b/\(∀c,c∉ws->agC s'.2 s.2 c)/\
  (b=true->∃res,s'.1=s.1.Qu o.dst res/\∀r' τ,(∀x∈o.op.operands,ev r' x=ev s.1 x)->(∀c∈rs,agC τ s.2 c)->
   JS P r' τ o λres' T0=>∃T',GhD N m r' τ (r'.Qu o.dst res') T0 (r'.Qu o.dst res) T'/\(∀c,c∉ws->agC T' τ c)/\∀c∈ws,agC T' s'.2 c)/\
  (b=false->s'.1=s.1.drop o.dst/\s'.2=s.2/\ws=[])
theorem JJ{r:Q3}{J:Q1}{o:Oper}{K:Option AV->Q1->Prop}(h1:∀f args ts,o.op≠.call { callee:=.value f,args:=args,argTypes:=ts })(h2:J2 P r o.op=none){res:Option AV}{S':Q1}(h:opE P r J o.op=some (res,S'))(hK:K res S'):JS P r J o K:=by
 unfold JS;split
 ·rename_i f args ts hop;exact absurd hop (h1 f args ts)
 ·rw[h2,h];exact hK
theorem fact_op{m:Nat}{ops:Array Oper}{o:Oper}{r:Q3}{J S':Q1}{res:Option AV}{rs ws:List Nat}(hd:Jd N o.dst=true)(hg:JP ops r o.guard=some true)
  (h1:∀f args ts,o.op≠.call { callee:=.value f,args:=args,argTypes:=ts }) (h2:∀r,J2 P r o.op=none) (h:opD P r J o.op=some (res,S',rs,ws)):Kr P N m ops o (r,J) (r.Qu o.dst res,S') rs ws:=by
 obtain⟨_,T',_,hs⟩:=opD_same (r':=r) (τ:=J) h (λ_ _=>rfl) (λc _=>agC.refl J c);refine⟨hd,true,hg,hs.2.2,λ_=>⟨res,rfl,λr' τ hr ht=> ?_⟩,λe=>by cases e⟩;obtain⟨_,T',h5,h6⟩:=opD_same (r':=r') (τ:=τ) h hr ht;exact JJ h1 (h2 r') h5 ⟨_,GhD.refl _ _ _ _ _ _,h6.1,h6.2.1⟩
theorem fact_call{m:Nat}{ops:Array Oper}{o:Oper}{r:Q3}{J:Q1}{v:AV}{rs:List Nat}(hd:Jd N o.dst=true)(hg:JP ops r o.guard=some true)
  {f:Operand} {args:Array Operand} {ts:Array TypeId} (hop:o.op=.call { callee:=.value f,args:=args,argTypes:=ts }) {x:FuncId×List AV} (hc:XF r f args.toList=some x)
  (h:ZJ P x.1 x.2 J rs v):Kr P N m ops o (r,J) (r.Qu o.dst (some v),J) rs []:=by
 refine⟨hd,true,hg,λc _=>agC.refl J c,λ_=>⟨some v,rfl,λr' τ hr ht=> ?_⟩,λe=>by cases e⟩;unfold JS;rw[hop];simp only;have h1:ev r' f=ev r f:=hr f (by rw[hop];simp[Op.operands,Call.operands]);have h2:evl r' args.toList=evl r args.toList:=X1 λy hy=>hr y (by rw[hop];simp[Op.operands,Call.operands];exact .inr (by simpa using hy));rw[h1,h2];unfold XF at hc;split at hc
 ·rename_i fv as e1 e2;obtain⟨g,as'⟩:=x
  ·try rw[e1,e2]
   try simp only[hc]
   have:=h τ ht;refine⟨this.1,fun ι w cargs hgl hh ha=>BI (this.2 ι w cargs hgl hh ha) ?_⟩;rintro e w' ⟨v',S',I',cv,rfl,⟨rfl,rfl⟩,h5⟩;exact⟨v',S',I',cv,rfl,⟨_,GhD.refl _ _ _ _ _ _,λc _=>agC.refl S' c,λc hc=>absurd hc (by simp)⟩,h5⟩
 ·cases hc
theorem agC_all{τ J:Q1}(h:∀c∈List.range (J.length+1),agC τ J c):τ=J:=by
 have hl:τ.length=J.length:=h 0 (by simp);refine List.ext_getElem? λi=> ?_;by_cases hi:i<J.length
 ·exact h (i+1) (by simp;omega)
 ·rw[Ab (by omega),Ab (by omega)]
theorem agC_rest{S' J:Q1}(hl:J.length<=S'.length){c:Nat}(hc:c∉List.range (S'.length+1)):agC S' J c:=by
 cases c with
 |zero=>simp at hc
 |succ c=>simp only[Bv,Nat.not_lt]at hc;show S'[c]? =J[c]?;rw[Ab (by omega),Ab (by omega)]
theorem fact_call2{m:Nat}{ops:Array Oper}{o:Oper}{r:Q3}{J s₁:Q1}{v:AV}(hd:Jd N o.dst=true)(hg:JP ops r o.guard=some true)
  {f:Operand} {args:Array Operand} {ts:Array TypeId} (hop:o.op=.call { callee:=.value f,args:=args,argTypes:=ts }) {x:FuncId×List AV} (hc:XF r f args.toList=some x)
  (h:Qo P x.1 x.2 J λv' τ=>v'=v/\τ=s₁) (hl:J.length<=s₁.length):Kr P N m ops o (r,J) (r.Qu o.dst (some v),s₁) (List.range (J.length+1)) (List.range (s₁.length+1)):=by
 refine⟨hd,true,hg,λc hc=>agC_rest hl hc,λ_=>⟨some v,rfl,λr' τ hr ht=> ?_⟩,λe=>by cases e⟩;have Ht:τ=J:=agC_all ht;subst Ht;unfold JS;rw[hop];simp only;have h1:ev r' f=ev r f:=hr f (by rw[hop];simp[Op.operands,Call.operands]);have h2:evl r' args.toList=evl r args.toList:=X1 λy hy=>hr y (by rw[hop];simp[Op.operands,Call.operands];exact .inr (by simpa using hy));rw[h1,h2];unfold XF at hc;split at hc
 ·rename_i fv as e1 e2;obtain⟨g,as'⟩:=x
  ·try rw[e1,e2]
   try simp only[hc]
   refine⟨h.1,fun ι w cargs hgl hh ha=>BI (h.2 ι w cargs hgl hh ha) ?_⟩;rintro e w' ⟨v',S',I',cv,rfl,⟨rfl,rfl⟩,h5⟩;exact⟨v',S',I',cv,rfl,⟨_,GhD.refl _ _ _ _ _ _,λc hc=>agC_rest hl hc,λc _=>agC.refl S' c⟩,h5⟩
 ·cases hc
theorem JU{op:Op}(h:∀b xT x y yT,op=.binOp b xT x y yT->Qr y=false)(r:Q3):J2 P r op=none:=by
 unfold J2;split
 ·rename_i b xT x y yT;rw[h b xT x y yT rfl];rfl
 ·rfl
theorem fact_step{m:Nat}{ops:Array Oper}{o:Oper}{r:Q3}{J:Q1}(hd:Jd N o.dst=true)(hg:JP ops r o.guard=some true){K:Option AV->Q1->List Nat->List Nat->Prop}{t:Tag K}(h:stepD P r J o.op K t):
  ∃res S' rs ws,Kr P N m ops o (r,J) (r.Qu o.dst res,S') rs ws/\K res S' rs ws:=by
 unfold stepD at h;split at h
 ·rename_i f args ts hop;unfold Jv at h;split at h
  ·rename_i x hx;rcases h with ⟨v,rs,h1,h2⟩|⟨v,S',h1,hl,h2⟩
   ·exact⟨some v,J,rs,[],fact_call hd hg hop hx h1,h2⟩
   ·exact⟨some v,S',_,_,fact_call2 hd hg hop hx h1 hl,h2⟩
  ·exact h.elim
 ·rename_i b xT x y yT hop;split at h
  ·exact h.elim
  ·rename_i hy;unfold ZL at h;split at h
   ·rename_i a b' c d hx;rw[<-hop]at hx;refine⟨a,b',c,d,fact_op hd hg (by rw[hop];intro f args ts e;cases e) (JU λb xT x y' yT e=> ?_) hx,h⟩;rw[hop]at e;injection e with _ _ _ e;subst e;simpa using hy
   ·exact h.elim
 ·rename_i h1 h2;unfold ZL at h;split at h
  ·rename_i a b' c d hx;exact⟨a,b',c,d,fact_op hd hg h1 (JU λb xT x y yT e=>absurd e (h2 b xT x y yT)) hx,h⟩
  ·exact h.elim
structure Facts(P:Program)(N mm:Nat)(ops:Array Oper)(bef:List Nat)(k m:Nat)(S:Nat->St)(RH WH:Nat->List Nat):Prop where
 fact:∀j,k<=j->j<m->∃o,ops[j]? =some o/\Kr P N mm ops o (S j) (S (j+1)) (RH j) (WH j)
 order:∀i j,k<=i->i<j->j<m->(bef.getD j 0).testBit i=false->(∀c∈WH i,c∉RH j/\c∉WH j)/\∀c∈WH j,c∉RH i
theorem Wj{mm:Nat}{ops:Array Oper}{bef:List Nat}{K:Q3->Q1->Prop}:∀(os:List Oper) (cs:List COp) (ks:List (List Nat)),Qf ops os ks=some cs->∀(k:Nat),os=ops.toList.drop k->
  ∀{r:Q3} {J:Q1} {log:Ql} {t:Tag K},Wk P N cs k (bef.drop k) log r J K t->∃S RH WH,Facts P N mm ops bef k ops.size S RH WH/\S k=(r,J)/\K (S (max k ops.size)).1 (S (max k ops.size)).2/\
   (∀x∈log,∀j,k<=j->j<ops.size->(bef.getD j 0).testBit x.1=false->(∀c∈x.2.2,c∉RH j/\c∉WH j)/\∀c∈WH j,c∉x.2.1)
 |[],cs,ks,hst,k,hk,r,J,log,t,h=>by simp only[Qf,X3]at hst;subst hst;have hlen:ops.toList.length<=k:=Bw.1 hk.symm;have hle:ops.size<=k:=(by simpa using hlen);exact⟨λ_=>(r,J),λ_=>[],λ_=>[],⟨λj h1 h2=>by omega,λi j h1 h2 h3=>by omega⟩,rfl,h,λx _ j h1 h2=>by omega⟩
 |o::os,cs,ks,hst,k,hk,r,J,log,t,h=>by
  simp only[Qf]at hst;split at hst
  ·rename_i g cs' hg hcs;injection hst with hst;subst hst;have hlt:k<ops.size:=(by have:(ops.toList.drop k).length=os.length+1:=(by rw[<-hk];rfl);simp at this;omega);have hok:ops[k]? =some o:=(by have:(ops.toList.drop k)[0]? =some o:=(by rw[<-hk];rfl);simpa using this);have hos:os=ops.toList.drop (k+1):=(by have:(ops.toList.drop k).tail=os:=(by rw[<-hk];rfl);rw[<-this];simp);have hhead:(bef.drop k).headD 0=bef.getD k 0:=(by simp[List.headD_eq_head?_getD,List.head?_drop]);have htail:(bef.drop k).tail=bef.drop (k+1):=(by simp);obtain⟨hdst,h⟩:=h;rw[Zb hg]at h;have fin:∀(r':Q3) (S':Q1) (rs ws:List Nat),Kr P N mm ops o (r,J) (r',S') rs ws->Qc (bef.getD k 0) rs ws log=true->Wk P N cs' (k+1) (bef.drop (k+1)) ((k,rs,ws)::log) r' S' K t->
     ∃S RH WH,Facts P N mm ops bef k ops.size S RH WH/\S k=(r,J)/\K (S (max k ops.size)).1 (S (max k ops.size)).2/\
      (∀x∈log,∀j,k<=j->j<ops.size->(bef.getD j 0).testBit x.1=false->(∀c∈x.2.2,c∉RH j/\c∉WH j)/\∀c∈WH j,c∉x.2.1):=λr' S' rs ws hf hfree hd=>by
    obtain⟨S,RH,WH,hF,hS,hK,hlog⟩:=Wj os cs' _ hcs (k+1) hos hd;refine⟨λj=>if j=k then (r,J) else S j,λj=>if j=k then rs else RH j,λj=>if j=k then ws else WH j,⟨λj h1 h2=> ?_,λi j h1 h2 h3 h4=> ?_⟩,by simp,?_,λx hx j h1 h2 h3=> ?_⟩
    ·by_cases e:j=k
     ·subst e;refine⟨o,hok,?_⟩;simp only[Ag,show¬j+1=j by omega,Af,hS];exact hf
     ·obtain⟨o',h3,h4⟩:=hF.fact j (by omega) h2;refine⟨o',h3,?_⟩;simp only[e,show¬j+1=k by omega,Af];exact h4
    ·have e2:¬j=k:=(by omega);by_cases e:i=k
     ·subst e;simp only[Ag,e2,Af];exact hlog (i,rs,ws) (by simp) j (by omega) h3 h4
     ·simp only[e,e2,Af];exact hF.order i j (by omega) h2 h3 h4
    ·have e1:max k ops.size=max (k+1) ops.size:=(by omega);have e2:¬max (k+1) ops.size=k:=(by omega);simp only[e1,e2,Af];exact hK
    ·by_cases e:j=k
     ·subst e;simp only[Ag];exact WG hfree x hx h3
     ·simp only[e,Af];exact hlog x (by simp[hx]) j (by omega) h2 h3
   unfold X7 at h;split at h
   ·rename_i b hb
    cases b with
    |true=>simp only[Ag]at h;obtain⟨res,S',rs,ws,hf,hfree,hd⟩:=fact_step hdst hb h;rw[hhead]at hfree;rw[htail]at hd;exact fin _ _ rs ws hf hfree hd
    |false=>
     simp only[AM,Af]at h;rw[htail]at h;refine fin _ _ [] [] ⟨hdst,false,hb,λc _=>agC.refl J c,λe=>absurd e (by simp),λ_=>⟨rfl,rfl,rfl⟩⟩ ?_ h;have:∀l:Ql,Qc (bef.getD k 0) [] [] l=true:=λl=>by
      induction l with
      |nil=>rfl
      |cons x l ih=>
       obtain⟨i,rs',ws'⟩:=x;have hdn:∀l,Z4 l []=true:=λl=>by
        induction l with
        |nil=>rfl
        |cons y l ih=>simp[Z4,memN,ih]
       simp only[Qc,hdn,ih,Z4,AG,CP]
     exact this log
   ·exact h.elim
  ·cases hst
end
end Go.Abs
