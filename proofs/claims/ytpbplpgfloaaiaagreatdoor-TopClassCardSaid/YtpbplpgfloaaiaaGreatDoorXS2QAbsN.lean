/- A part of the proof. -/
import Derived.Test.YtpbplpgfloaaiaaGreatDoorXS2QAbsM
set_option linter.all false
namespace Go.Abs
variable [Gl]
def KH(P:Program)(g:FuncId)(args:List AV)(M:QA)(rs:List Nat)(v:AV):Prop:=
 ∀τ,(∀c,c∈rs->agC τ M c)->Jw P g args τ λv' S'=>v'=v/\S'=τ
def memN(x:Nat):List Nat->Bool
 |[]=>false
 |y::ys=>x==y||memN x ys
def XK:List Nat->List Nat->Bool
 |[],_=>true
 |x::xs,ys=>!memN x ys&&XK xs ys
abbrev JB:=List (Nat×List Nat×List Nat)
def Qx(b:Nat)(rs ws:List Nat):JB->Bool
 |[]=>true
 |(i,rs',ws')::l=>(b.testBit i||(XK ws' rs&&XK ws' ws&&XK ws rs'))&&Qx b rs ws l
def onDraw(x:Option DR)(K:Option AV->QA->List Nat->List Nat->Prop)(_:Tag K):Prop:=match x with|some (a,b,c,d)=>K a b c d|none=>False
def callD(P:Program)(g:FuncId)(args:List AV)(M:QA)(K:Option AV->QA->List Nat->List Nat->Prop)(_:Tag K):Prop:=
 (∃v rs,KH P g args M rs v/\K (some v) M rs [])\/∃v S',Jw P g args M (λv' τ=>v'=v/\τ=S')/\M.length<=S'.length/\K (some v) S' (List.range (M.length+1)) (List.range (S'.length+1))
def X1(P:Program)(r:QB)(M:QA)(op:Op)(K:Option AV->QA->List Nat->List Nat->Prop)(t:Tag K):Prop:=
 match op with
 |.call { callee:=.value f,args,argTypes:=_ }=>onOpt (callE r f args.toList) (λx=>callD P x.1 x.2 M K t) ⟨⟩
 |.binOp b xT x y yT=>if JS y then False else onDraw (opD P r M (.binOp b xT x y yT)) K t
 |op=>onDraw (opD P r M op) K t
def Vk(P:Program)(N:Nat):List COp->Nat->List Nat->JB->QB->QA->(K:QB->QA->Prop)->Tag K->Prop
 |[],_,_,_,r,M,K,_=>K r M
 |⟨d,op,g,_⟩::os,j,bef,log,r,M,K,t=>WM (X3 N d) (onGuard (Zz r g)
   (X1 P r M op (λres S' rs ws=>WM (Qx (bef.headD 0) rs ws log) (Vk P N os (j+1) bef.tail ((j,rs,ws)::log) (r.JM d res) S' K t) ⟨⟩) ⟨⟩)
   (Vk P N os (j+1) bef.tail ((j,[],[])::log) (r.drop d) M K t) ⟨⟩ ⟨⟩) ⟨⟩
section
variable {P:Program}{N:Nat}{ro:Option Nat}
def memN_ok{x:Nat}:∀{ys:List Nat},memN x ys=false->x∉ys
 |[],_=>by simp
 |y::ys,h=>by simp only[memN,CH,Ag]at h;have:=memN_ok h.2;simp[h.1,this]
def Wl:∀{xs ys:List Nat},XK xs ys=true->∀c∈xs,c∉ys
 |[],_,_=>by simp
 |x::xs,ys,h=>by
  simp only[XK,AJ,C2]at h;intro c hc;rcases AT.1 hc with rfl|hc
  ·exact memN_ok h.1
  ·exact Wl h.2 c hc
def KD{b:Nat}{rs ws:List Nat}:∀{l:JB},Qx b rs ws l=true->∀x∈l,b.testBit x.1=false->(∀c∈x.2.2,c∉rs/\c∉ws)/\(∀c∈ws,c∉x.2.1)
 |[],_=>by simp
 |(i,rs',ws')::l,h=>by
  simp only[Qx,AJ,Cn]at h;intro x hx hb;rcases AT.1 hx with rfl|hx
  ·rcases h.1 with h1|h1
   ·rw[h1]at hb;cases hb
   ·exact⟨λc hc=>⟨Wl h1.1.1 c hc,Wl h1.1.2 c hc⟩,Wl h1.2⟩
  ·exact KD h.2 x hx hb
def GhD(N m:Nat)(r:QB)(τ:QA)(r0:QB)(S0:QA)(r1:QB)(A1:QA):Prop:=
 ∀i₁ w₁ a₁,HR i₁ τ w₁->JP N i₁ w₁ r a₁->∀O w a,HR O S0 w->JP N O w r0 a->Step i₁ τ w₁ O S0 w->
  ∃I',HR I' A1 w/\JP N I' w r1 a/\∀IS SS ws,HR IS SS ws->SS.length<=m->Step IS SS ws i₁ τ w₁->Step IS SS ws I' A1 w
def GhD.refl(N m:Nat)(r:QB)(τ:QA)(r0:QB)(S0:QA):GhD N m r τ r0 S0 r0 S0:=λ_ _ _ _ _ O _ _ hh hr hs=>⟨O,hh,hr,λ_ _ _ _ _ h=>h.trans hs⟩
def Yh(P:Program)(N m:Nat)(ops:Array Oper)(o:Oper)(s s':St)(rs ws:List Nat):Prop:=
 X3 N o.dst=true/\∃b,Jn ops s.1 o.guard=some b/\(∀c,c∉ws->agC s'.2 s.2 c)/\
  (b=true->∃res,s'.1=s.1.JM o.dst res/\∀r' τ,(∀x∈o.op.operands,ev r' x=ev s.1 x)->(∀c∈rs,agC τ s.2 c)->
   stepOk P r' τ o λres' T0=>∃A',GhD N m r' τ (r'.JM o.dst res') T0 (r'.JM o.dst res) A'/\(∀c,c∉ws->agC A' τ c)/\∀c∈ws,agC A' s'.2 c)/\
  (b=false->s'.1=s.1.drop o.dst/\s'.2=s.2/\ws=[])
def Jr{r:QB}{M:QA}{o:Oper}{K:Option AV->QA->Prop}(h1:∀f args ts,o.op≠.call { callee:=.value f,args:=args,argTypes:=ts })(h2:Jg P r o.op=none){res:Option AV}{S':QA}(h:opE P r M o.op=some (res,S'))(hK:K res S'):stepOk P r M o K:=by
 unfold stepOk;split
 ·rename_i f args ts hop;exact absurd hop (h1 f args ts)
 ·rw[h2,h];exact hK
def Ux{m:Nat}{ops:Array Oper}{o:Oper}{r:QB}{M S':QA}{res:Option AV}{rs ws:List Nat}(hd:X3 N o.dst=true)(hg:Jn ops r o.guard=some true)
  (h1:∀f args ts,o.op≠.call { callee:=.value f,args:=args,argTypes:=ts }) (h2:∀r,Jg P r o.op=none) (h:opD P r M o.op=some (res,S',rs,ws)):Yh P N m ops o (r,M) (r.JM o.dst res,S') rs ws:=by
 obtain⟨_,A',_,hs⟩:=opD_same (r':=r) (τ:=M) h (λ_ _=>rfl) (λc _=>agC.refl M c);refine⟨hd,true,hg,hs.2.2,λ_=>⟨res,rfl,λr' τ hr ht=> ?_⟩,λe=>by cases e⟩;obtain⟨_,A',h5,h6⟩:=opD_same (r':=r') (τ:=τ) h hr ht;exact Jr h1 (h2 r') h5 ⟨_,GhD.refl _ _ _ _ _ _,h6.1,h6.2.1⟩
def fact_call{m:Nat}{ops:Array Oper}{o:Oper}{r:QB}{M:QA}{v:AV}{rs:List Nat}(hd:X3 N o.dst=true)(hg:Jn ops r o.guard=some true)
  {f:Operand} {args:Array Operand} {ts:Array TypeId} (hop:o.op=.call { callee:=.value f,args:=args,argTypes:=ts }) {x:FuncId×List AV} (hc:callE r f args.toList=some x)
  (h:KH P x.1 x.2 M rs v):Yh P N m ops o (r,M) (r.JM o.dst (some v),M) rs []:=by
 refine⟨hd,true,hg,λc _=>agC.refl M c,λ_=>⟨some v,rfl,λr' τ hr ht=> ?_⟩,λe=>by cases e⟩;unfold stepOk;rw[hop];simp only;have h1:ev r' f=ev r f:=hr f (by rw[hop];simp[Op.operands,Call.operands]);have h2:evl r' args.toList=evl r args.toList:=XD λy hy=>hr y (by rw[hop];simp[Op.operands,Call.operands];exact .inr (by simpa using hy));rw[h1,h2];unfold callE at hc;split at hc
 ·rename_i fv as e1 e2;obtain⟨g,as'⟩:=x
  ·try rw[e1,e2]
   try simp only[hc]
   have:=h τ ht;refine⟨this.1,λO w cargs hgl hh ha=>Bt (this.2 O w cargs hgl hh ha) ?_⟩;rintro e w' ⟨v',S',I',cv,rfl,⟨rfl,rfl⟩,h5⟩;exact⟨v',S',I',cv,rfl,⟨_,GhD.refl _ _ _ _ _ _,λc _=>agC.refl S' c,λc hc=>absurd hc (by simp)⟩,h5⟩
 ·cases hc
def agC_all{τ M:QA}(h:∀c∈List.range (M.length+1),agC τ M c):τ=M:=by
 have hl:τ.length=M.length:=h 0 (by simp);refine List.ext_getElem? λi=> ?_;by_cases hi:i<M.length
 ·exact h (i+1) (by simp;omega)
 ·rw[B5 (by omega),B5 (by omega)]
def agC_rest{S' M:QA}(hl:M.length<=S'.length){c:Nat}(hc:c∉List.range (S'.length+1)):agC S' M c:=by
 cases c with
 |zero=>simp at hc
 |succ c=>simp only[Bg,Nat.not_lt]at hc;show S'[c]? =M[c]?;rw[B5 (by omega),B5 (by omega)]
def fact_call2{m:Nat}{ops:Array Oper}{o:Oper}{r:QB}{M s₁:QA}{v:AV}(hd:X3 N o.dst=true)(hg:Jn ops r o.guard=some true)
  {f:Operand} {args:Array Operand} {ts:Array TypeId} (hop:o.op=.call { callee:=.value f,args:=args,argTypes:=ts }) {x:FuncId×List AV} (hc:callE r f args.toList=some x)
  (h:Jw P x.1 x.2 M λv' τ=>v'=v/\τ=s₁) (hl:M.length<=s₁.length):Yh P N m ops o (r,M) (r.JM o.dst (some v),s₁) (List.range (M.length+1)) (List.range (s₁.length+1)):=by
 refine⟨hd,true,hg,λc hc=>agC_rest hl hc,λ_=>⟨some v,rfl,λr' τ hr ht=> ?_⟩,λe=>by cases e⟩;have Ht:τ=M:=agC_all ht;subst Ht;unfold stepOk;rw[hop];simp only;have h1:ev r' f=ev r f:=hr f (by rw[hop];simp[Op.operands,Call.operands]);have h2:evl r' args.toList=evl r args.toList:=XD λy hy=>hr y (by rw[hop];simp[Op.operands,Call.operands];exact .inr (by simpa using hy));rw[h1,h2];unfold callE at hc;split at hc
 ·rename_i fv as e1 e2;obtain⟨g,as'⟩:=x
  ·try rw[e1,e2]
   try simp only[hc]
   refine⟨h.1,λO w cargs hgl hh ha=>Bt (h.2 O w cargs hgl hh ha) ?_⟩;rintro e w' ⟨v',S',I',cv,rfl,⟨rfl,rfl⟩,h5⟩;exact⟨v',S',I',cv,rfl,⟨_,GhD.refl _ _ _ _ _ _,λc hc=>agC_rest hl hc,λc _=>agC.refl S' c⟩,h5⟩
 ·cases hc
def Jf{op:Op}(h:∀b xT x y yT,op=.binOp b xT x y yT->JS y=false)(r:QB):Jg P r op=none:=by
 unfold Jg;split
 ·rename_i b xT x y yT;rw[h b xT x y yT rfl];rfl
 ·rfl
def fact_step{m:Nat}{ops:Array Oper}{o:Oper}{r:QB}{M:QA}(hd:X3 N o.dst=true)(hg:Jn ops r o.guard=some true){K:Option AV->QA->List Nat->List Nat->Prop}{t:Tag K}(h:X1 P r M o.op K t):
  ∃res S' rs ws,Yh P N m ops o (r,M) (r.JM o.dst res,S') rs ws/\K res S' rs ws:=by
 unfold X1 at h;split at h
 ·rename_i f args ts hop;unfold onOpt at h;split at h
  ·rename_i x hx;rcases h with ⟨v,rs,h1,h2⟩|⟨v,S',h1,hl,h2⟩
   ·exact⟨some v,M,rs,[],fact_call hd hg hop hx h1,h2⟩
   ·exact⟨some v,S',_,_,fact_call2 hd hg hop hx h1 hl,h2⟩
  ·exact h.elim
 ·rename_i b xT x y yT hop;split at h
  ·exact h.elim
  ·rename_i hy;unfold onDraw at h;split at h
   ·rename_i a b' c d hx;rw[<-hop]at hx;refine⟨a,b',c,d,Ux hd hg (by rw[hop];intro f args ts e;cases e) (Jf λb xT x y' yT e=> ?_) hx,h⟩;rw[hop]at e;injection e with _ _ _ e;subst e;simpa using hy
   ·exact h.elim
 ·rename_i h1 h2;unfold onDraw at h;split at h
  ·rename_i a b' c d hx;exact⟨a,b',c,d,Ux hd hg h1 (Jf λb xT x y yT e=>absurd e (h2 b xT x y yT)) hx,h⟩
  ·exact h.elim
structure Ud(P:Program)(N mm:Nat)(ops:Array Oper)(bef:List Nat)(k m:Nat)(S:Nat->St)(RH WH:Nat->List Nat):Prop where
 fact:∀j,k<=j->j<m->∃o,ops[j]? =some o/\Yh P N mm ops o (S j) (S (j+1)) (RH j) (WH j)
 order:∀i j,k<=i->i<j->j<m->(bef.getD j 0).testBit i=false->(∀c∈WH i,c∉RH j/\c∉WH j)/\∀c∈WH j,c∉RH i
def Ub{mm:Nat}{ops:Array Oper}{bef:List Nat}{K:QB->QA->Prop}:∀(os:List Oper) (cs:List COp) (ks:List (List Nat)),stripOps ops os ks=some cs->∀(k:Nat),os=ops.toList.drop k->
  ∀{r:QB} {M:QA} {log:JB} {t:Tag K},Vk P N cs k (bef.drop k) log r M K t->∃S RH WH,Ud P N mm ops bef k ops.size S RH WH/\S k=(r,M)/\K (S (max k ops.size)).1 (S (max k ops.size)).2/\
   (∀x∈log,∀j,k<=j->j<ops.size->(bef.getD j 0).testBit x.1=false->(∀c∈x.2.2,c∉RH j/\c∉WH j)/\∀c∈WH j,c∉x.2.1)
 |[],cs,ks,hst,k,hk,r,M,log,t,h=>by simp only[stripOps,Kn]at hst;subst hst;have hlen:ops.toList.length<=k:=Bw.1 hk.symm;have hle:ops.size<=k:=(by simpa using hlen);exact⟨λ_=>(r,M),λ_=>[],λ_=>[],⟨λj h1 h2=>by omega,λi j h1 h2 h3=>by omega⟩,rfl,h,λx _ j h1 h2=>by omega⟩
 |o::os,cs,ks,hst,k,hk,r,M,log,t,h=>by
  simp only[stripOps]at hst;split at hst
  ·rename_i g cs' hg hcs;injection hst with hst;subst hst;have hlt:k<ops.size:=(by have:(ops.toList.drop k).length=os.length+1:=(by rw[<-hk];rfl);simp at this;omega);have hok:ops[k]? =some o:=(by have:(ops.toList.drop k)[0]? =some o:=(by rw[<-hk];rfl);simpa using this);have hos:os=ops.toList.drop (k+1):=(by have:(ops.toList.drop k).tail=os:=(by rw[<-hk];rfl);rw[<-this];simp);have hhead:(bef.drop k).headD 0=bef.getD k 0:=(by simp[List.headD_eq_head?_getD,List.head?_drop]);have htail:(bef.drop k).tail=bef.drop (k+1):=(by simp);obtain⟨hdst,h⟩:=h;rw[ZQ hg]at h;have fin:∀(r':QB) (S':QA) (rs ws:List Nat),Yh P N mm ops o (r,M) (r',S') rs ws->Qx (bef.getD k 0) rs ws log=true->Vk P N cs' (k+1) (bef.drop (k+1)) ((k,rs,ws)::log) r' S' K t->
     ∃S RH WH,Ud P N mm ops bef k ops.size S RH WH/\S k=(r,M)/\K (S (max k ops.size)).1 (S (max k ops.size)).2/\
      (∀x∈log,∀j,k<=j->j<ops.size->(bef.getD j 0).testBit x.1=false->(∀c∈x.2.2,c∉RH j/\c∉WH j)/\∀c∈WH j,c∉x.2.1):=λr' S' rs ws hf hfree hd=>by
    obtain⟨S,RH,WH,hF,hS,hK,hlog⟩:=Ub os cs' _ hcs (k+1) hos hd;refine⟨λj=>if j=k then (r,M) else S j,λj=>if j=k then rs else RH j,λj=>if j=k then ws else WH j,⟨λj h1 h2=> ?_,λi j h1 h2 h3 h4=> ?_⟩,by simp,?_,λx hx j h1 h2 h3=> ?_⟩
    ·by_cases e:j=k
     ·subst e;refine⟨o,hok,?_⟩;simp only[Aq,show¬j+1=j by omega,Al,hS];exact hf
     ·obtain⟨o',h3,h4⟩:=hF.fact j (by omega) h2;refine⟨o',h3,?_⟩;simp only[e,show¬j+1=k by omega,Al];exact h4
    ·have e2:¬j=k:=(by omega);by_cases e:i=k
     ·subst e;simp only[Aq,e2,Al];exact hlog (i,rs,ws) (by simp) j (by omega) h3 h4
     ·simp only[e,e2,Al];exact hF.order i j (by omega) h2 h3 h4
    ·have e1:max k ops.size=max (k+1) ops.size:=(by omega);have e2:¬max (k+1) ops.size=k:=(by omega);simp only[e1,e2,Al];exact hK
    ·by_cases e:j=k
     ·subst e;simp only[Aq];exact KD hfree x hx h3
     ·simp only[e,Al];exact hlog x (by simp[hx]) j (by omega) h2 h3
   unfold onGuard at h;split at h
   ·rename_i b hb
    cases b with
    |true=>simp only[Aq]at h;obtain⟨res,S',rs,ws,hf,hfree,hd⟩:=fact_step hdst hb h;rw[hhead]at hfree;rw[htail]at hd;exact fin _ _ rs ws hf hfree hd
    |false=>
     simp only[Ab,Al]at h;rw[htail]at h;refine fin _ _ [] [] ⟨hdst,false,hb,λc _=>agC.refl M c,λe=>absurd e (by simp),λ_=>⟨rfl,rfl,rfl⟩⟩ ?_ h;have:∀l:JB,Qx (bef.getD k 0) [] [] l=true:=λl=>by
      induction l with
      |nil=>rfl
      |cons x l ih=>
       obtain⟨i,rs',ws'⟩:=x;have hdn:∀l,XK l []=true:=λl=>by
        induction l with
        |nil=>rfl
        |cons y l ih=>simp[XK,memN,ih]
       simp only[Qx,hdn,ih,XK,AH,CG]
     exact this log
   ·exact h.elim
  ·cases hst
end
end Go.Abs
