/- A part of the proof. -/
import Derived.Test.YtnmlmdlhhphcoaaER8QAbsM
set_option linter.all false
namespace Go.Abs
variable [Gl]
def VJ(P:Program)(g:FuncId)(args:List AV)(J:Q4)(rs:List Nat)(v:AV):Prop:=
 ∀τ,(∀c,c∈rs->agC τ J c)->Jl P g args τ λv' S'=>v'=v/\S'=τ
def memN(x:Nat):List Nat->Bool
 |[]=>false
 |y::ys=>x==y||memN x ys
def ZM:List Nat->List Nat->Bool
 |[],_=>true
 |x::xs,ys=>!memN x ys&&ZM xs ys
abbrev JQ:=List (Nat×List Nat×List Nat)
def Qx(b:Nat)(rs ws:List Nat):JQ->Bool
 |[]=>true
 |(i,rs',ws')::l=>(b.testBit i||(ZM ws' rs&&ZM ws' ws&&ZM ws rs'))&&Qx b rs ws l
def Kx(x:Option DR)(K:Option AV->Q4->List Nat->List Nat->Prop)(_:Tag K):Prop:=match x with|some (a,b,c,d)=>K a b c d|none=>False
def callD(P:Program)(g:FuncId)(args:List AV)(J:Q4)(K:Option AV->Q4->List Nat->List Nat->Prop)(_:Tag K):Prop:=
 (∃v rs,VJ P g args J rs v/\K (some v) J rs [])\/∃v S',Jl P g args J (λv' τ=>v'=v/\τ=S')/\J.length<=S'.length/\K (some v) S' (List.range (J.length+1)) (List.range (S'.length+1))
def XQ(P:Program)(r:Q3)(J:Q4)(op:Op)(K:Option AV->Q4->List Nat->List Nat->Prop)(t:Tag K):Prop:=
 match op with
 |.call { callee:=.value f,args,argTypes:=_ }=>jL (Yt r f args.toList) (λx=>callD P x.1 x.2 J K t) ⟨⟩
 |.binOp b xT x y yT=>if Ju y then False else Kx (opD P r J (.binOp b xT x y yT)) K t
 |op=>Kx (opD P r J op) K t
def V9(P:Program)(N:Nat):List COp->Nat->List Nat->JQ->Q3->Q4->(K:Q3->Q4->Prop)->Tag K->Prop
 |[],_,_,_,r,J,K,_=>K r J
 |⟨d,op,g,_⟩::os,j,bef,log,r,J,K,t=>onDst (ZL N d) (Yl (W5 r g)
   (XQ P r J op (λres S' rs ws=>onDst (Qx (bef.headD 0) rs ws log) (V9 P N os (j+1) bef.tail ((j,rs,ws)::log) (r.Jj d res) S' K t) ⟨⟩) ⟨⟩)
   (V9 P N os (j+1) bef.tail ((j,[],[])::log) (r.drop d) J K t) ⟨⟩ ⟨⟩) ⟨⟩
section
variable {P:Program}{N:Nat}{ro:Option Nat}
theorem memN_ok{x:Nat}:∀{ys:List Nat},memN x ys=false->x∉ys
 |[],_=>by simp
 |y::ys,h=>by simp only[memN,Bool.or_eq_false_iff,beq_eq_false_iff_ne]at h;have:=memN_ok h.2;simp[h.1,this]
theorem VA:∀{xs ys:List Nat},ZM xs ys=true->∀c∈xs,c∉ys
 |[],_,_=>by simp
 |x::xs,ys,h=>by
  simp only[ZM,Bool.and_eq_true,Bool.not_eq_true']at h;intro c hc;rcases List.mem_cons.1 hc with rfl|hc
  ·exact memN_ok h.1
  ·exact VA h.2 c hc
theorem We{b:Nat}{rs ws:List Nat}:∀{l:JQ},Qx b rs ws l=true->∀x∈l,b.testBit x.1=false->(∀c∈x.2.2,c∉rs/\c∉ws)/\(∀c∈ws,c∉x.2.1)
 |[],_=>by simp
 |(i,rs',ws')::l,h=>by
  simp only[Qx,Bool.and_eq_true,Bool.or_eq_true]at h;intro x hx hb;rcases List.mem_cons.1 hx with rfl|hx
  ·rcases h.1 with h1|h1
   ·rw[h1]at hb;cases hb
   ·exact⟨λc hc=>⟨VA h1.1.1 c hc,VA h1.1.2 c hc⟩,VA h1.2⟩
  ·exact We h.2 x hx hb
def GhD(N m:Nat)(r:Q3)(τ:Q4)(r0:Q3)(S0:Q4)(r1:Q3)(S1:Q4):Prop:=
 ∀i₁ w₁ a₁,HR i₁ τ w₁->J3 N i₁ w₁ r a₁->∀M w a,HR M S0 w->J3 N M w r0 a->Step i₁ τ w₁ M S0 w->
  ∃I',HR I' S1 w/\J3 N I' w r1 a/\∀IS ss ws,HR IS ss ws->ss.length<=m->Step IS ss ws i₁ τ w₁->Step IS ss ws I' S1 w
theorem GhD.refl(N m:Nat)(r:Q3)(τ:Q4)(r0:Q3)(S0:Q4):GhD N m r τ r0 S0 r0 S0:=λ_ _ _ _ _ M _ _ hh hr hs=>⟨M,hh,hr,λ_ _ _ _ _ h=>h.trans hs⟩
def U1(P:Program)(N m:Nat)(ops:Array Oper)(o:Oper)(s s':St)(rs ws:List Nat):Prop:=
 ZL N o.dst=true/\∃b,X0 ops s.1 o.guard=some b/\(∀c,c∉ws->agC s'.2 s.2 c)/\
  (b=true->∃res,s'.1=s.1.Jj o.dst res/\∀r' τ,(∀x∈o.op.operands,ev r' x=ev s.1 x)->(∀c∈rs,agC τ s.2 c)->
   Xu P r' τ o λres' T0=>∃T',GhD N m r' τ (r'.Jj o.dst res') T0 (r'.Jj o.dst res) T'/\(∀c,c∉ws->agC T' τ c)/\∀c∈ws,agC T' s'.2 c)/\
  (b=false->s'.1=s.1.drop o.dst/\s'.2=s.2/\ws=[])
theorem XB{r:Q3}{J:Q4}{o:Oper}{K:Option AV->Q4->Prop}(h1:∀f args ts,o.op≠.call { callee:=.value f,args:=args,argTypes:=ts })(h2:Za P r o.op=none){res:Option AV}{S':Q4}(h:opE P r J o.op=some (res,S'))(hK:K res S'):Xu P r J o K:=by
 unfold Xu;split
 ·rename_i f args ts hop;exact absurd hop (h1 f args ts)
 ·rw[h2,h];exact hK
theorem fact_op{m:Nat}{ops:Array Oper}{o:Oper}{r:Q3}{J S':Q4}{res:Option AV}{rs ws:List Nat}(hd:ZL N o.dst=true)(hg:X0 ops r o.guard=some true)
  (h1:∀f args ts,o.op≠.call { callee:=.value f,args:=args,argTypes:=ts }) (h2:∀r,Za P r o.op=none) (h:opD P r J o.op=some (res,S',rs,ws)):U1 P N m ops o (r,J) (r.Jj o.dst res,S') rs ws:=by
 obtain⟨_,T',_,hs⟩:=opD_same (r':=r) (τ:=J) h (λ_ _=>rfl) (λc _=>agC.refl J c);refine⟨hd,true,hg,hs.2.2,λ_=>⟨res,rfl,λr' τ hr ht=> ?_⟩,λe=>by cases e⟩;obtain⟨_,T',h5,h6⟩:=opD_same (r':=r') (τ:=τ) h hr ht;exact XB h1 (h2 r') h5 ⟨_,GhD.refl _ _ _ _ _ _,h6.1,h6.2.1⟩
theorem fact_call{m:Nat}{ops:Array Oper}{o:Oper}{r:Q3}{J:Q4}{v:AV}{rs:List Nat}(hd:ZL N o.dst=true)(hg:X0 ops r o.guard=some true)
  {f:Operand} {args:Array Operand} {ts:Array TypeId} (hop:o.op=.call { callee:=.value f,args:=args,argTypes:=ts }) {x:FuncId×List AV} (hc:Yt r f args.toList=some x)
  (h:VJ P x.1 x.2 J rs v):U1 P N m ops o (r,J) (r.Jj o.dst (some v),J) rs []:=by
 refine⟨hd,true,hg,λc _=>agC.refl J c,λ_=>⟨some v,rfl,λr' τ hr ht=> ?_⟩,λe=>by cases e⟩;unfold Xu;rw[hop];simp only;have h1:ev r' f=ev r f:=hr f (by rw[hop];simp[Op.operands,Call.operands]);have h2:evl r' args.toList=evl r args.toList:=ZV λy hy=>hr y (by rw[hop];simp[Op.operands,Call.operands];exact .inr (by simpa using hy));rw[h1,h2];unfold Yt at hc;split at hc
 ·rename_i fv as e1 e2;split at hc
  ·rename_i g caps e3;injection hc with hc;subst hc;try rw[e1,e2]
   try simp only[e3]
   have:=h τ ht;refine⟨this.1,λM w cargs hgl hh ha=>CallsIn.mono (this.2 M w cargs hgl hh ha) ?_⟩;rintro e w' ⟨v',S',I',cv,rfl,⟨rfl,rfl⟩,h5⟩;exact⟨v',S',I',cv,rfl,⟨_,GhD.refl _ _ _ _ _ _,λc _=>agC.refl S' c,λc hc=>absurd hc (by simp)⟩,h5⟩
  ·cases hc
 ·cases hc
theorem agC_all{τ J:Q4}(h:∀c∈List.range (J.length+1),agC τ J c):τ=J:=by
 have hl:τ.length=J.length:=h 0 (by simp);refine List.ext_getElem? λi=> ?_;by_cases hi:i<J.length
 ·exact h (i+1) (by simp;omega)
 ·rw[List.getElem?_eq_none (by omega),List.getElem?_eq_none (by omega)]
theorem agC_rest{S' J:Q4}(hl:J.length<=S'.length){c:Nat}(hc:c∉List.range (S'.length+1)):agC S' J c:=by
 cases c with
 |zero=>simp at hc
 |succ c=>simp only[List.mem_range,Nat.not_lt]at hc;show S'[c]? =J[c]?;rw[List.getElem?_eq_none (by omega),List.getElem?_eq_none (by omega)]
theorem fact_call2{m:Nat}{ops:Array Oper}{o:Oper}{r:Q3}{J s₁:Q4}{v:AV}(hd:ZL N o.dst=true)(hg:X0 ops r o.guard=some true)
  {f:Operand} {args:Array Operand} {ts:Array TypeId} (hop:o.op=.call { callee:=.value f,args:=args,argTypes:=ts }) {x:FuncId×List AV} (hc:Yt r f args.toList=some x)
  (h:Jl P x.1 x.2 J λv' τ=>v'=v/\τ=s₁) (hl:J.length<=s₁.length):U1 P N m ops o (r,J) (r.Jj o.dst (some v),s₁) (List.range (J.length+1)) (List.range (s₁.length+1)):=by
 refine⟨hd,true,hg,λc hc=>agC_rest hl hc,λ_=>⟨some v,rfl,λr' τ hr ht=> ?_⟩,λe=>by cases e⟩;have Ht:τ=J:=agC_all ht;subst Ht;unfold Xu;rw[hop];simp only;have h1:ev r' f=ev r f:=hr f (by rw[hop];simp[Op.operands,Call.operands]);have h2:evl r' args.toList=evl r args.toList:=ZV λy hy=>hr y (by rw[hop];simp[Op.operands,Call.operands];exact .inr (by simpa using hy));rw[h1,h2];unfold Yt at hc;split at hc
 ·rename_i fv as e1 e2;split at hc
  ·rename_i g caps e3;injection hc with hc;subst hc;try rw[e1,e2]
   try simp only[e3]
   refine⟨h.1,λM w cargs hgl hh ha=>CallsIn.mono (h.2 M w cargs hgl hh ha) ?_⟩;rintro e w' ⟨v',S',I',cv,rfl,⟨rfl,rfl⟩,h5⟩;exact⟨v',S',I',cv,rfl,⟨_,GhD.refl _ _ _ _ _ _,λc hc=>agC_rest hl hc,λc _=>agC.refl S' c⟩,h5⟩
  ·cases hc
 ·cases hc
theorem XY{op:Op}(h:∀b xT x y yT,op=.binOp b xT x y yT->Ju y=false)(r:Q3):Za P r op=none:=by
 unfold Za;split
 ·rename_i b xT x y yT;rw[h b xT x y yT rfl];rfl
 ·rfl
theorem Vo{m:Nat}{ops:Array Oper}{o:Oper}{r:Q3}{J:Q4}(hd:ZL N o.dst=true)(hg:X0 ops r o.guard=some true){K:Option AV->Q4->List Nat->List Nat->Prop}{t:Tag K}(h:XQ P r J o.op K t):
  ∃res S' rs ws,U1 P N m ops o (r,J) (r.Jj o.dst res,S') rs ws/\K res S' rs ws:=by
 unfold XQ at h;split at h
 ·rename_i f args ts hop;unfold jL at h;split at h
  ·rename_i x hx;rcases h with ⟨v,rs,h1,h2⟩|⟨v,S',h1,hl,h2⟩
   ·exact⟨some v,J,rs,[],fact_call hd hg hop hx h1,h2⟩
   ·exact⟨some v,S',_,_,fact_call2 hd hg hop hx h1 hl,h2⟩
  ·exact h.elim
 ·rename_i b xT x y yT hop;split at h
  ·exact h.elim
  ·rename_i hy;unfold Kx at h;split at h
   ·rename_i a b' c d hx;rw[<-hop]at hx;refine⟨a,b',c,d,fact_op hd hg (by rw[hop];intro f args ts e;cases e) (XY λb xT x y' yT e=> ?_) hx,h⟩;rw[hop]at e;injection e with _ _ _ e;subst e;simpa using hy
   ·exact h.elim
 ·rename_i h1 h2;unfold Kx at h;split at h
  ·rename_i a b' c d hx;exact⟨a,b',c,d,fact_op hd hg h1 (XY λb xT x y yT e=>absurd e (h2 b xT x y yT)) hx,h⟩
  ·exact h.elim
structure U0(P:Program)(N mm:Nat)(ops:Array Oper)(bef:List Nat)(k m:Nat)(S:Nat->St)(RH WH:Nat->List Nat):Prop where
 fact:∀j,k<=j->j<m->∃o,ops[j]? =some o/\U1 P N mm ops o (S j) (S (j+1)) (RH j) (WH j)
 order:∀i j,k<=i->i<j->j<m->(bef.getD j 0).testBit i=false->(∀c∈WH i,c∉RH j/\c∉WH j)/\∀c∈WH j,c∉RH i
theorem qN{mm:Nat}{ops:Array Oper}{bef:List Nat}{K:Q3->Q4->Prop}:∀(os:List Oper) (cs:List COp) (ks:List (List Nat)),QO ops os ks=some cs->∀(k:Nat),os=ops.toList.drop k->
  ∀{r:Q3} {J:Q4} {log:JQ} {t:Tag K},V9 P N cs k (bef.drop k) log r J K t->∃S RH WH,U0 P N mm ops bef k ops.size S RH WH/\S k=(r,J)/\K (S (max k ops.size)).1 (S (max k ops.size)).2/\
   (∀x∈log,∀j,k<=j->j<ops.size->(bef.getD j 0).testBit x.1=false->(∀c∈x.2.2,c∉RH j/\c∉WH j)/\∀c∈WH j,c∉x.2.1)
 |[],cs,ks,hst,k,hk,r,J,log,t,h=>by simp only[QO,Option.some.injEq]at hst;subst hst;have hlen:ops.toList.length<=k:=List.drop_eq_nil_iff.1 hk.symm;have hle:ops.size<=k:=(by simpa using hlen);exact⟨λ_=>(r,J),λ_=>[],λ_=>[],⟨λj h1 h2=>by omega,λi j h1 h2 h3=>by omega⟩,rfl,h,λx _ j h1 h2=>by omega⟩
 |o::os,cs,ks,hst,k,hk,r,J,log,t,h=>by
  simp only[QO]at hst;split at hst
  ·rename_i g cs' hg hcs;injection hst with hst;subst hst;have hlt:k<ops.size:=(by have:(ops.toList.drop k).length=os.length+1:=(by rw[<-hk];rfl);simp at this;omega);have hok:ops[k]? =some o:=(by have:(ops.toList.drop k)[0]? =some o:=(by rw[<-hk];rfl);simpa using this);have hos:os=ops.toList.drop (k+1):=(by have:(ops.toList.drop k).tail=os:=(by rw[<-hk];rfl);rw[<-this];simp);have hhead:(bef.drop k).headD 0=bef.getD k 0:=(by simp[List.headD_eq_head?_getD,List.head?_drop]);have htail:(bef.drop k).tail=bef.drop (k+1):=(by simp);obtain⟨hdst,h⟩:=h;rw[YN hg]at h;have fin:∀(r':Q3) (S':Q4) (rs ws:List Nat),U1 P N mm ops o (r,J) (r',S') rs ws->Qx (bef.getD k 0) rs ws log=true->V9 P N cs' (k+1) (bef.drop (k+1)) ((k,rs,ws)::log) r' S' K t->
     ∃S RH WH,U0 P N mm ops bef k ops.size S RH WH/\S k=(r,J)/\K (S (max k ops.size)).1 (S (max k ops.size)).2/\
      (∀x∈log,∀j,k<=j->j<ops.size->(bef.getD j 0).testBit x.1=false->(∀c∈x.2.2,c∉RH j/\c∉WH j)/\∀c∈WH j,c∉x.2.1):=λr' S' rs ws hf hfree hd=>by
    obtain⟨S,RH,WH,hF,hS,hK,hlog⟩:=qN os cs' _ hcs (k+1) hos hd;refine⟨λj=>if j=k then (r,J) else S j,λj=>if j=k then rs else RH j,λj=>if j=k then ws else WH j,⟨λj h1 h2=> ?_,λi j h1 h2 h3 h4=> ?_⟩,by simp,?_,λx hx j h1 h2 h3=> ?_⟩
    ·by_cases e:j=k
     ·subst e;refine⟨o,hok,?_⟩;simp only[if_true,show¬j+1=j by omega,if_false,hS];exact hf
     ·obtain⟨o',h3,h4⟩:=hF.fact j (by omega) h2;refine⟨o',h3,?_⟩;simp only[e,show¬j+1=k by omega,if_false];exact h4
    ·have e2:¬j=k:=(by omega);by_cases e:i=k
     ·subst e;simp only[if_true,e2,if_false];exact hlog (i,rs,ws) (by simp) j (by omega) h3 h4
     ·simp only[e,e2,if_false];exact hF.order i j (by omega) h2 h3 h4
    ·have e1:max k ops.size=max (k+1) ops.size:=(by omega);have e2:¬max (k+1) ops.size=k:=(by omega);simp only[e1,e2,if_false];exact hK
    ·by_cases e:j=k
     ·subst e;simp only[if_true];exact We hfree x hx h3
     ·simp only[e,if_false];exact hlog x (by simp[hx]) j (by omega) h2 h3
   unfold Yl at h;split at h
   ·rename_i b hb
    cases b with
    |true=>simp only[if_true]at h;obtain⟨res,S',rs,ws,hf,hfree,hd⟩:=Vo hdst hb h;rw[hhead]at hfree;rw[htail]at hd;exact fin _ _ rs ws hf hfree hd
    |false=>
     simp only[Bool.false_eq_true,if_false]at h;rw[htail]at h;refine fin _ _ [] [] ⟨hdst,false,hb,λc _=>agC.refl J c,λe=>absurd e (by simp),λ_=>⟨rfl,rfl,rfl⟩⟩ ?_ h;have:∀l:JQ,Qx (bef.getD k 0) [] [] l=true:=λl=>by
      induction l with
      |nil=>rfl
      |cons x l ih=>
       obtain⟨i,rs',ws'⟩:=x;have hdn:∀l,ZM l []=true:=λl=>by
        induction l with
        |nil=>rfl
        |cons y l ih=>simp[ZM,memN,ih]
       simp only[Qx,hdn,ih,ZM,Bool.and_self,Bool.or_true]
     exact this log
   ·exact h.elim
  ·cases hst
end
end Go.Abs
