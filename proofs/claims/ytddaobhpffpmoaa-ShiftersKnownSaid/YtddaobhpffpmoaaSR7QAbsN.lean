/- A part of the proof. -/
import Derived.Test.YtddaobhpffpmoaaSR7QAbsM
set_option linter.all false
namespace Go.Abs
variable [Gl]
def ConstAt(P:Program)(g:FuncId)(args:List AV)(O:Q1)(rs:List Nat)(v:AV):Prop:=
 ∀τ,(∀c,c∈rs->agC τ O c)->Qo P g args τ λv' A'=>v'=v/\A'=τ
def memN(x:Nat):List Nat->Bool
 |[]=>false
 |y::ys=>x==y||memN x ys
def Xe:List Nat->List Nat->Bool
 |[],_=>true
 |x::xs,ys=>!memN x ys&&Xe xs ys
abbrev J0:=List (Nat×List Nat×List Nat)
def Qh(b:Nat)(rs ws:List Nat):J0->Bool
 |[]=>true
 |(i,rs',ws')::l=>(b.testBit i||(Xe ws' rs&&Xe ws' ws&&Xe ws rs'))&&Qh b rs ws l
def Yh(x:Option DR)(K:Option AV->Q1->List Nat->List Nat->Prop)(_:Tag K):Prop:=match x with|some (a,b,c,d)=>K a b c d|none=>False
def callD(P:Program)(g:FuncId)(args:List AV)(O:Q1)(K:Option AV->Q1->List Nat->List Nat->Prop)(_:Tag K):Prop:=
 (∃v rs,ConstAt P g args O rs v/\K (some v) O rs [])\/∃v A',Qo P g args O (λv' τ=>v'=v/\τ=A')/\O.length<=A'.length/\K (some v) A' (List.range (O.length+1)) (List.range (A'.length+1))
def Jh(P:Program)(r:Q0)(O:Q1)(op:Op)(K:Option AV->Q1->List Nat->List Nat->Prop)(t:Tag K):Prop:=
 match op with
 |.call { callee:=.value f,args,argTypes:=_ }=>VY (Y7 r f args.toList) (λx=>callD P x.1 x.2 O K t) ⟨⟩
 |.binOp b xT x y yT=>if JM y then False else Yh (opD P r O (.binOp b xT x y yT)) K t
 |op=>Yh (opD P r O op) K t
def Wn(P:Program)(N:Nat):List COp->Nat->List Nat->J0->Q0->Q1->(K:Q0->Q1->Prop)->Tag K->Prop
 |[],_,_,_,r,O,K,_=>K r O
 |⟨d,op,g,_⟩::os,j,bef,log,r,O,K,t=>onDst (Xd N d) (K8 (Kq r g)
   (Jh P r O op (λres A' rs ws=>onDst (Qh (bef.headD 0) rs ws log) (Wn P N os (j+1) bef.tail ((j,rs,ws)::log) (r.JC d res) A' K t) ⟨⟩) ⟨⟩)
   (Wn P N os (j+1) bef.tail ((j,[],[])::log) (r.drop d) O K t) ⟨⟩ ⟨⟩) ⟨⟩
section
variable {P:Program}{N:Nat}{ro:Option Nat}
theorem memN_ok{x:Nat}:∀{ys:List Nat},memN x ys=false->x∉ys
 |[],_=>by simp
 |y::ys,h=>by simp only[memN,CA,At]at h;have:=memN_ok h.2;simp[h.1,this]
theorem Wo:∀{xs ys:List Nat},Xe xs ys=true->∀c∈xs,c∉ys
 |[],_,_=>by simp
 |x::xs,ys,h=>by
  simp only[Xe,AC,CB]at h;intro c hc;rcases Ag.1 hc with rfl|hc
  ·exact memN_ok h.1
  ·exact Wo h.2 c hc
theorem KG{b:Nat}{rs ws:List Nat}:∀{l:J0},Qh b rs ws l=true->∀x∈l,b.testBit x.1=false->(∀c∈x.2.2,c∉rs/\c∉ws)/\(∀c∈ws,c∉x.2.1)
 |[],_=>by simp
 |(i,rs',ws')::l,h=>by
  simp only[Qh,AC,By]at h;intro x hx hb;rcases Ag.1 hx with rfl|hx
  ·rcases h.1 with h1|h1
   ·rw[h1]at hb;cases hb
   ·exact⟨λc hc=>⟨Wo h1.1.1 c hc,Wo h1.1.2 c hc⟩,Wo h1.2⟩
  ·exact KG h.2 x hx hb
def GhD(N m:Nat)(r:Q0)(τ:Q1)(r0:Q0)(S0:Q1)(r1:Q0)(A1:Q1):Prop:=
 ∀i₁ w₁ a₁,HR i₁ τ w₁->Qn N i₁ w₁ r a₁->∀ι w a,HR ι S0 w->Qn N ι w r0 a->Step i₁ τ w₁ ι S0 w->
  ∃I',HR I' A1 w/\Qn N I' w r1 a/\∀IS ss ws,HR IS ss ws->ss.length<=m->Step IS ss ws i₁ τ w₁->Step IS ss ws I' A1 w
theorem GhD.refl(N m:Nat)(r:Q0)(τ:Q1)(r0:Q0)(S0:Q1):GhD N m r τ r0 S0 r0 S0:=λ_ _ _ _ _ ι _ _ hh hr hs=>⟨ι,hh,hr,λ_ _ _ _ _ h=>h.trans hs⟩
def Ka(P:Program)(N m:Nat)(ops:Array Oper)(o:Oper)(s s':St)(rs ws:List Nat):Prop:=
 Xd N o.dst=true/\∃b,JQ ops s.1 o.guard=some b/\(∀c,c∉ws->agC s'.2 s.2 c)/\
  (b=true->∃res,s'.1=s.1.JC o.dst res/\∀r' τ,(∀x∈o.op.operands,ev r' x=ev s.1 x)->(∀c∈rs,agC τ s.2 c)->
   XD P r' τ o λres' T0=>∃T',GhD N m r' τ (r'.JC o.dst res') T0 (r'.JC o.dst res) T'/\(∀c,c∉ws->agC T' τ c)/\∀c∈ws,agC T' s'.2 c)/\
  (b=false->s'.1=s.1.drop o.dst/\s'.2=s.2/\ws=[])
theorem JT{r:Q0}{O:Q1}{o:Oper}{K:Option AV->Q1->Prop}(h1:∀f args ts,o.op≠.call { callee:=.value f,args:=args,argTypes:=ts })(h2:Xs P r o.op=none){res:Option AV}{A':Q1}(h:opE P r O o.op=some (res,A'))(hK:K res A'):XD P r O o K:=by
 unfold XD;split
 ·rename_i f args ts hop;exact absurd hop (h1 f args ts)
 ·rw[h2,h];exact hK
theorem fact_op{m:Nat}{ops:Array Oper}{o:Oper}{r:Q0}{O A':Q1}{res:Option AV}{rs ws:List Nat}(hd:Xd N o.dst=true)(hg:JQ ops r o.guard=some true)
  (h1:∀f args ts,o.op≠.call { callee:=.value f,args:=args,argTypes:=ts }) (h2:∀r,Xs P r o.op=none) (h:opD P r O o.op=some (res,A',rs,ws)):Ka P N m ops o (r,O) (r.JC o.dst res,A') rs ws:=by
 obtain⟨_,T',_,hs⟩:=opD_same (r':=r) (τ:=O) h (λ_ _=>rfl) (λc _=>agC.refl O c);refine⟨hd,true,hg,hs.2.2,λ_=>⟨res,rfl,λr' τ hr ht=> ?_⟩,λe=>by cases e⟩;obtain⟨_,T',h5,h6⟩:=opD_same (r':=r') (τ:=τ) h hr ht;exact JT h1 (h2 r') h5 ⟨_,GhD.refl _ _ _ _ _ _,h6.1,h6.2.1⟩
theorem fact_call{m:Nat}{ops:Array Oper}{o:Oper}{r:Q0}{O:Q1}{v:AV}{rs:List Nat}(hd:Xd N o.dst=true)(hg:JQ ops r o.guard=some true)
  {f:Operand} {args:Array Operand} {ts:Array TypeId} (hop:o.op=.call { callee:=.value f,args:=args,argTypes:=ts }) {x:FuncId×List AV} (hc:Y7 r f args.toList=some x)
  (h:ConstAt P x.1 x.2 O rs v):Ka P N m ops o (r,O) (r.JC o.dst (some v),O) rs []:=by
 refine⟨hd,true,hg,λc _=>agC.refl O c,λ_=>⟨some v,rfl,λr' τ hr ht=> ?_⟩,λe=>by cases e⟩;unfold XD;rw[hop];simp only;have h1:ev r' f=ev r f:=hr f (by rw[hop];simp[Op.operands,Call.operands]);have h2:evl r' args.toList=evl r args.toList:=Xn λy hy=>hr y (by rw[hop];simp[Op.operands,Call.operands];exact .inr (by simpa using hy));rw[h1,h2];unfold Y7 at hc;split at hc
 ·rename_i fv as e1 e2;split at hc
  ·rename_i g caps e3;injection hc with hc;subst hc;try rw[e1,e2]
   try simp only[e3]
   have:=h τ ht;refine⟨this.1,fun ι w cargs hgl hh ha=>BN (this.2 ι w cargs hgl hh ha) ?_⟩;rintro e w' ⟨v',A',I',cv,rfl,⟨rfl,rfl⟩,h5⟩;exact⟨v',A',I',cv,rfl,⟨_,GhD.refl _ _ _ _ _ _,λc _=>agC.refl A' c,λc hc=>absurd hc (by simp)⟩,h5⟩
  ·cases hc
 ·cases hc
theorem agC_all{τ O:Q1}(h:∀c∈List.range (O.length+1),agC τ O c):τ=O:=by
 have hl:τ.length=O.length:=h 0 (by simp);refine C8 λi=> ?_;by_cases hi:i<O.length
 ·exact h (i+1) (by simp;omega)
 ·rw[Ad (by omega),Ad (by omega)]
theorem agC_rest{A' O:Q1}(hl:O.length<=A'.length){c:Nat}(hc:c∉List.range (A'.length+1)):agC A' O c:=by
 cases c with
 |zero=>simp at hc
 |succ c=>simp only[BK,Nat.not_lt]at hc;show A'[c]? =O[c]?;rw[Ad (by omega),Ad (by omega)]
theorem fact_call2{m:Nat}{ops:Array Oper}{o:Oper}{r:Q0}{O s₁:Q1}{v:AV}(hd:Xd N o.dst=true)(hg:JQ ops r o.guard=some true)
  {f:Operand} {args:Array Operand} {ts:Array TypeId} (hop:o.op=.call { callee:=.value f,args:=args,argTypes:=ts }) {x:FuncId×List AV} (hc:Y7 r f args.toList=some x)
  (h:Qo P x.1 x.2 O λv' τ=>v'=v/\τ=s₁) (hl:O.length<=s₁.length):Ka P N m ops o (r,O) (r.JC o.dst (some v),s₁) (List.range (O.length+1)) (List.range (s₁.length+1)):=by
 refine⟨hd,true,hg,λc hc=>agC_rest hl hc,λ_=>⟨some v,rfl,λr' τ hr ht=> ?_⟩,λe=>by cases e⟩;have HT:τ=O:=agC_all ht;subst HT;unfold XD;rw[hop];simp only;have h1:ev r' f=ev r f:=hr f (by rw[hop];simp[Op.operands,Call.operands]);have h2:evl r' args.toList=evl r args.toList:=Xn λy hy=>hr y (by rw[hop];simp[Op.operands,Call.operands];exact .inr (by simpa using hy));rw[h1,h2];unfold Y7 at hc;split at hc
 ·rename_i fv as e1 e2;split at hc
  ·rename_i g caps e3;injection hc with hc;subst hc;try rw[e1,e2]
   try simp only[e3]
   refine⟨h.1,fun ι w cargs hgl hh ha=>BN (h.2 ι w cargs hgl hh ha) ?_⟩;rintro e w' ⟨v',A',I',cv,rfl,⟨rfl,rfl⟩,h5⟩;exact⟨v',A',I',cv,rfl,⟨_,GhD.refl _ _ _ _ _ _,λc hc=>agC_rest hl hc,λc _=>agC.refl A' c⟩,h5⟩
  ·cases hc
 ·cases hc
theorem Jk{op:Op}(h:∀b xT x y yT,op=.binOp b xT x y yT->JM y=false)(r:Q0):Xs P r op=none:=by
 unfold Xs;split
 ·rename_i b xT x y yT;rw[h b xT x y yT rfl];rfl
 ·rfl
theorem UI{m:Nat}{ops:Array Oper}{o:Oper}{r:Q0}{O:Q1}(hd:Xd N o.dst=true)(hg:JQ ops r o.guard=some true){K:Option AV->Q1->List Nat->List Nat->Prop}{t:Tag K}(h:Jh P r O o.op K t):
  ∃res A' rs ws,Ka P N m ops o (r,O) (r.JC o.dst res,A') rs ws/\K res A' rs ws:=by
 unfold Jh at h;split at h
 ·rename_i f args ts hop;unfold VY at h;split at h
  ·rename_i x hx;rcases h with ⟨v,rs,h1,h2⟩|⟨v,A',h1,hl,h2⟩
   ·exact⟨some v,O,rs,[],fact_call hd hg hop hx h1,h2⟩
   ·exact⟨some v,A',_,_,fact_call2 hd hg hop hx h1 hl,h2⟩
  ·exact h.elim
 ·rename_i b xT x y yT hop;split at h
  ·exact h.elim
  ·rename_i hy;unfold Yh at h;split at h
   ·rename_i a b' c d hx;rw[<-hop]at hx;refine⟨a,b',c,d,fact_op hd hg (by rw[hop];intro f args ts e;cases e) (Jk λb xT x y' yT e=> ?_) hx,h⟩;rw[hop]at e;injection e with _ _ _ e;subst e;simpa using hy
   ·exact h.elim
 ·rename_i h1 h2;unfold Yh at h;split at h
  ·rename_i a b' c d hx;exact⟨a,b',c,d,fact_op hd hg h1 (Jk λb xT x y yT e=>absurd e (h2 b xT x y yT)) hx,h⟩
  ·exact h.elim
structure KZ(P:Program)(N mm:Nat)(ops:Array Oper)(bef:List Nat)(k m:Nat)(S:Nat->St)(RH WH:Nat->List Nat):Prop where
 fact:∀j,k<=j->j<m->∃o,ops[j]? =some o/\Ka P N mm ops o (S j) (S (j+1)) (RH j) (WH j)
 order:∀i j,k<=i->i<j->j<m->(bef.getD j 0).testBit i=false->(∀c∈WH i,c∉RH j/\c∉WH j)/\∀c∈WH j,c∉RH i
theorem Ui{mm:Nat}{ops:Array Oper}{bef:List Nat}{K:Q0->Q1->Prop}:∀(os:List Oper) (cs:List COp) (ks:List (List Nat)),QK ops os ks=some cs->∀(k:Nat),os=ops.toList.drop k->
  ∀{r:Q0} {O:Q1} {log:J0} {t:Tag K},Wn P N cs k (bef.drop k) log r O K t->∃S RH WH,KZ P N mm ops bef k ops.size S RH WH/\S k=(r,O)/\K (S (max k ops.size)).1 (S (max k ops.size)).2/\
   (∀x∈log,∀j,k<=j->j<ops.size->(bef.getD j 0).testBit x.1=false->(∀c∈x.2.2,c∉RH j/\c∉WH j)/\∀c∈WH j,c∉x.2.1)
 |[],cs,ks,hst,k,hk,r,O,log,t,h=>by simp only[QK,A0]at hst;subst hst;have hlen:ops.toList.length<=k:=C9.1 hk.symm;have hle:ops.size<=k:=(by simpa using hlen);exact⟨λ_=>(r,O),λ_=>[],λ_=>[],⟨λj h1 h2=>by omega,λi j h1 h2 h3=>by omega⟩,rfl,h,λx _ j h1 h2=>by omega⟩
 |o::os,cs,ks,hst,k,hk,r,O,log,t,h=>by
  simp only[QK]at hst;split at hst
  ·rename_i g cs' hg hcs;injection hst with hst;subst hst;have hlt:k<ops.size:=(by have:(ops.toList.drop k).length=os.length+1:=(by rw[<-hk];rfl);simp at this;omega);have hok:ops[k]? =some o:=(by have:(ops.toList.drop k)[0]? =some o:=(by rw[<-hk];rfl);simpa using this);have hos:os=ops.toList.drop (k+1):=(by have:(ops.toList.drop k).tail=os:=(by rw[<-hk];rfl);rw[<-this];simp);have hhead:(bef.drop k).headD 0=bef.getD k 0:=(by simp[List.headD_eq_head?_getD,List.head?_drop]);have htail:(bef.drop k).tail=bef.drop (k+1):=(by simp);obtain⟨hdst,h⟩:=h;rw[ZE hg]at h;have fin:∀(r':Q0) (A':Q1) (rs ws:List Nat),Ka P N mm ops o (r,O) (r',A') rs ws->Qh (bef.getD k 0) rs ws log=true->Wn P N cs' (k+1) (bef.drop (k+1)) ((k,rs,ws)::log) r' A' K t->
     ∃S RH WH,KZ P N mm ops bef k ops.size S RH WH/\S k=(r,O)/\K (S (max k ops.size)).1 (S (max k ops.size)).2/\
      (∀x∈log,∀j,k<=j->j<ops.size->(bef.getD j 0).testBit x.1=false->(∀c∈x.2.2,c∉RH j/\c∉WH j)/\∀c∈WH j,c∉x.2.1):=λr' A' rs ws hf hfree hd=>by
    obtain⟨S,RH,WH,hF,hS,hK,hlog⟩:=Ui os cs' _ hcs (k+1) hos hd;refine⟨λj=>if j=k then (r,O) else S j,λj=>if j=k then rs else RH j,λj=>if j=k then ws else WH j,⟨λj h1 h2=> ?_,λi j h1 h2 h3 h4=> ?_⟩,by simp,?_,λx hx j h1 h2 h3=> ?_⟩
    ·by_cases e:j=k
     ·subst e;refine⟨o,hok,?_⟩;simp only[Ai,show¬j+1=j by omega,Af,hS];exact hf
     ·obtain⟨o',h3,h4⟩:=hF.fact j (by omega) h2;refine⟨o',h3,?_⟩;simp only[e,show¬j+1=k by omega,Af];exact h4
    ·have e2:¬j=k:=(by omega);by_cases e:i=k
     ·subst e;simp only[Ai,e2,Af];exact hlog (i,rs,ws) (by simp) j (by omega) h3 h4
     ·simp only[e,e2,Af];exact hF.order i j (by omega) h2 h3 h4
    ·have e1:max k ops.size=max (k+1) ops.size:=(by omega);have e2:¬max (k+1) ops.size=k:=(by omega);simp only[e1,e2,Af];exact hK
    ·by_cases e:j=k
     ·subst e;simp only[Ai];exact KG hfree x hx h3
     ·simp only[e,Af];exact hlog x (by simp[hx]) j (by omega) h2 h3
   unfold K8 at h;split at h
   ·rename_i b hb
    cases b with
    |true=>simp only[Ai]at h;obtain⟨res,A',rs,ws,hf,hfree,hd⟩:=UI hdst hb h;rw[hhead]at hfree;rw[htail]at hd;exact fin _ _ rs ws hf hfree hd
    |false=>
     simp only[AP,Af]at h;rw[htail]at h;refine fin _ _ [] [] ⟨hdst,false,hb,λc _=>agC.refl O c,λe=>absurd e (by simp),λ_=>⟨rfl,rfl,rfl⟩⟩ ?_ h;have:∀l:J0,Qh (bef.getD k 0) [] [] l=true:=λl=>by
      induction l with
      |nil=>rfl
      |cons x l ih=>
       obtain⟨i,rs',ws'⟩:=x;have hdn:∀l,Xe l []=true:=λl=>by
        induction l with
        |nil=>rfl
        |cons y l ih=>simp[Xe,memN,ih]
       simp only[Qh,hdn,ih,Xe,AY,CY]
     exact this log
   ·exact h.elim
  ·cases hst
end
end Go.Abs
