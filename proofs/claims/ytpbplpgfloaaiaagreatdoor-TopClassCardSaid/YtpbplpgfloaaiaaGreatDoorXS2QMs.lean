/- A part of the proof. -/
import Derived.Test.YtpbplpgfloaaiaaGreatDoorXS2QMc
set_option linter.all false
namespace Go.Abs
variable [Gl]
def Ly.QW:∀(c:Ly) (x:c.ty),(c.trees x).length=c.size
 |.int _,_=>rfl
 |.bool,_=>rfl
 |.str,_=>rfl
 |.sl _,_=>rfl
 |.pair a b,x=>by simp only[Ly.trees,Ly.size,AG,a.QW,b.QW]
def Ly.size_pos:∀(c:Ly),0<c.size
 |.int _=>Nat.one_pos
 |.bool=>Nat.one_pos
 |.str=>Nat.one_pos
 |.sl _=>Nat.one_pos
 |.pair a _=>Bl a.size_pos (Nat.le_add_right _ _)
def Yf:IntKind->IntKind->Bool
 |.i8,.i8=>true|.i16,.i16=>true|.i32,.i32=>true|.i64,.i64=>true
 |.u8,.u8=>true|.u16,.u16=>true|.u32,.u32=>true|.u64,.u64=>true
 |_,_=>false
def Jm:∀{a b:IntKind},Yf a b=true->a=b:=by intro a b h;cases a<;>cases b<;>first|rfl|simp[Yf]at h
def Ly.beq:Ly->Ly->Bool
 |.int k,.int k'=>Yf k k'
 |.bool,.bool=>true
 |.str,.str=>true
 |.sl a,.sl b=>a.beq b
 |.pair a b,.pair a' b'=>match a.beq a' with|true=>b.beq b'|false=>false
 |_,_=>false
def Ly.beq_eq:∀{a b:Ly},a.beq b=true->a=b
 |.int k,.int k',h=>by rw[Jm h]
 |.bool,.bool,_=>rfl
 |.str,.str,_=>rfl
 |.sl a,.sl b,h=>by rw[Ly.beq_eq (a:=a) (b:=b) h]
 |.pair a b,.pair a' b',h=>by
  simp only[Ly.beq]at h;split at h
  ·rename_i h1;rw[Ly.beq_eq h1,Ly.beq_eq h]
  ·cases h
 |.int _,.bool,h|.int _,.str,h|.int _,.sl _,h|.int _,.pair _ _,h=>by cases h
 |.bool,.int _,h|.bool,.str,h|.bool,.sl _,h|.bool,.pair _ _,h=>by cases h
 |.str,.int _,h|.str,.bool,h|.str,.sl _,h|.str,.pair _ _,h=>by cases h
 |.sl _,.int _,h|.sl _,.bool,h|.sl _,.str,h|.sl _,.pair _ _,h=>by cases h
 |.pair _ _,.int _,h|.pair _ _,.bool,h|.pair _ _,.str,h|.pair _ _,.sl _,h=>by cases h
def Ly.cast{a b:Ly}(h:a.beq b=true)(x:a.ty):b.ty:=Ly.beq_eq h▸x
def Ly.Jq{a b:Ly}(h:a.beq b=true)(x:List a.ty):List b.ty:=Ly.beq_eq h▸x
inductive SC where
 |bo (x:Bool)
 |it (k:IntKind) (n:Int)
 |sg (l:List UInt8)
 |np
 |nf
 |nils
 |arr (c:Ly) (xs:List c.ty) (cap:Option Nat)
 |ip (c:Ly) (x:c.ty) (off:Nat)
 |iel (c:Ly) (xs:List c.ty) (i:Nat) (off:Nat)
 |ptr (id off:Nat)
 |el (id ep es i off:Nat)
 |sl (id ep es lo len:Nat) (cap:Option Nat)
 |fn (f:FuncId)
 |clo (f:FuncId) (rs:List Ref)
 |junk
 deriving Inhabited
def SC.den:SC->Cell
 |.bo x=>.t (.bool x)
 |.it k n=>.t (.int k n)
 |.sg l=>.t (.str l)
 |.np=>.t .nilp
 |.nf=>.t .nilf
 |.nils=>.t (.imm [] 0 (some 0))
 |.arr c xs cap=>.t (.imm (xs.flatMap c.trees) xs.length cap)
 |.ip c x off=>.t (.iptr ((c.trees x).drop off))
 |.iel c xs j off=>.t (.iptr ((c.trees ((xs[j]?).getD c.X8)++(xs.drop (j+1)).flatMap c.trees).drop off))
 |.ptr id off=>.ptr ⟨id,0,off⟩
 |.el id ep es i off=>.ptr ⟨id,ep,i*es+off⟩
 |.sl id ep es lo len cap=>.sl ⟨id,ep,lo*es⟩ len cap
 |.fn f=>.t (.fn f [])
 |.clo f rs=>.clo f rs
 |.junk=>.t .junk
inductive SV where
 |c (x:SC)
 |agg (xs:List SC)
 |tup (xs:List (SC⊕List SC))
 deriving Inhabited
def Wn:SC⊕List SC->Cell⊕List Cell
 |.inl x=>.inl x.den
 |.inr xs=>.inr (xs.map SC.den)
def SV.den:SV->AV
 |.c x=>.c x.den
 |.agg xs=>.agg (xs.map SC.den)
 |.tup xs=>.tup (xs.map Wn)
inductive SO where
 |st (cs:List SC) (es ep:Nat)
 |arr (c:Ly) (xs:List c.ty) (ep:Nat)
 |zer (z:List T) (c:Ly) (n:Nat)
 |opn (c:Ly) (xs:List c.ty) (cs:List SC) (ys:List c.ty) (ep:Nat)
 deriving Inhabited
def SO.den:SO->Obj
 |.st cs es ep=>{ cs:=cs.map SC.den,es:=es,ep:=ep }
 |.arr c xs ep=>{ cs:=(xs.flatMap c.trees).map .t,es:=c.size,ep:=ep }
 |.zer z c n=>{ cs:=(Y7 n z).map .t,es:=c.size,ep:=0 }
 |.opn c xs cs ys ep=>{ cs:=(xs.flatMap c.trees).map .t++(cs.map SC.den++(ys.flatMap c.trees).map .t),es:=c.size,ep:=ep }
abbrev SH:=List SO
def SH.den(M:SH):QA:=M.map SO.den
abbrev Tg:=List (Nat×Bool)
abbrev SR:=List (Nat×Tg×SV)
def SR.get:SR->Nat->Option (Tg×SV)
 |[],_=>none
 |(k,v)::r,t=>match Nat.beq k t with|true=>some v|false=>SR.get r t
def SR.isB(r:SR)(t:Nat)(want:Bool):Bool:=match r.get t with
 |some (_,.c (.bo x))=>match want with|true=>x|false=>!x
 |_=>false
def SR.holds(r:SR):Tg->Bool
 |[]=>true
 |(t,w)::l=>match l with
  |[]=>r.isB t w
  |_::_=>r.holds l&&r.isB t w
def SR.dv(r:SR)(tg:Tg)(v:SV):AV:=match tg with|[]=>v.den|_::_=>bif r.holds tg then v.den else .tup []
def SR.den1(r:SR)(x:Nat×Tg×SV):Nat×AV:=(x.1,r.dv x.2.1 x.2.2)
def SR.den(r:SR):QB:=r.map r.den1
end Go.Abs
namespace Go.Abs
variable [Gl]
inductive WT:T->T->Prop
 |refl (t:T):WT t t
 |cap (cs:List T) (len:Nat) (cap:Option Nat):WT (.imm cs len cap) (.imm cs len none)
 |junk (t:T):WT t .junk
 |cells (cs cs':List T) (len:Nat) (cap:Option Nat):cs.length=cs'.length->(∀i (h:i<cs.length) (h':i<cs'.length),WT cs[i] cs'[i])->WT (.imm cs len cap) (.imm cs' len cap)
 |ptrs (cs cs':List T):cs.length=cs'.length->(∀i (h:i<cs.length) (h':i<cs'.length),WT cs[i] cs'[i])->WT (.iptr cs) (.iptr cs')
 |pre (cs cs':List T):cs'<+:cs->WT (.iptr cs) (.iptr cs')
 |tr (a b c:T):WT a b->WT b c->WT a c
inductive WC:Cell->Cell->Prop
 |refl (c:Cell):WC c c
 |t {a b:T} (h:WT a b):WC (.t a) (.t b)
 |junk (c:Cell):WC c (.t .junk)
def WL:List Cell->List Cell->Prop
 |[],[]=>True
 |a::as,b::bs=>WC a b/\WL as bs
 |_,_=>False
def WP:Cell⊕List Cell->Cell⊕List Cell->Prop
 |.inl a,.inl b=>WC a b
 |.inr a,.inr b=>WL a b
 |_,_=>False
def WPL:List (Cell⊕List Cell)->List (Cell⊕List Cell)->Prop
 |[],[]=>True
 |a::as,b::bs=>WP a b/\WPL as bs
 |_,_=>False
def WV:AV->AV->Prop
 |.c a,.c b=>WC a b
 |.agg a,.agg b=>WL a b
 |.tup a,.tup b=>WPL a b
 |_,_=>False
def WVO:Option AV->Option AV->Prop
 |some a,some b=>WV a b
 |none,none=>True
 |_,_=>False
def WO(a b:Obj):Prop:=WL a.cs b.cs/\a.es=b.es/\a.ep=b.ep
def WH:QA->QA->Prop
 |[],[]=>True
 |a::as,b::bs=>WO a b/\WH as bs
 |_,_=>False
def WL.rfl':∀{l:List Cell},WL l l
 |[]=>trivial
 |c::_=>⟨.refl c,WL.rfl'⟩
def WO.rfl'{o:Obj}:WO o o:=⟨WL.rfl',rfl,rfl⟩
def WH.rfl':∀{l:QA},WH l l
 |[]=>trivial
 |_::_=>⟨WO.rfl',WH.rfl'⟩
def WP.rfl':∀{x:Cell⊕List Cell},WP x x
 |.inl c=>WC.refl c
 |.inr _=>WL.rfl'
def WPL.rfl':∀{l:List (Cell⊕List Cell)},WPL l l
 |[]=>trivial
 |_::_=>⟨WP.rfl',WPL.rfl'⟩
def WV.rfl':∀{v:AV},WV v v
 |.c x=>WC.refl x
 |.agg _=>WL.rfl'
 |.tup _=>WPL.rfl'
def WVO.rfl':∀{v:Option AV},WVO v v
 |none=>trivial
 |some _=>WV.rfl'
def WL.length:∀{a b:List Cell},WL a b->a.length=b.length
 |[],[],_=>rfl
 |_::_,_::_,h=>by simp[WL.length h.2]
def WL.get:∀{a b:List Cell},WL a b->∀{i:Nat} (hi:i<a.length) (hi':i<b.length),WC a[i] b[i]
 |_::_,_::_,h,0,_,_=>h.1
 |_::_,_::_,h,i+1,hi,hi'=>WL.get h.2 (by simpa using hi) (by simpa using hi')
def WL.of_get:∀{a b:List Cell},a.length=b.length->(∀i (hi:i<a.length) (hi':i<b.length),WC a[i] b[i])->WL a b
 |[],[],_,_=>trivial
 |[],_::_,h,_=>by cases h
 |_::_,[],h,_=>by cases h
 |_::_,_::_,h,hc=>⟨hc 0 (by simp) (by simp),WL.of_get (by simpa using h) λi hi hi'=>hc (i+1) (by simpa using hi) (by simpa using hi')⟩
def WL.append{a b a' b':List Cell}(h:WL a b)(h':WL a' b'):WL (a++a') (b++b'):=by
 induction a generalizing b with
 |nil=>cases b with|nil=>exact h'|cons _ _=>exact h.elim
 |cons x a ih=>cases b with|nil=>exact h.elim|cons y b=>exact⟨h.1,ih h.2⟩
def WH.length:∀{a b:QA},WH a b->a.length=b.length
 |[],[],_=>rfl
 |_::_,_::_,h=>by simp[WH.length h.2]
def WH.get:∀{a b:QA},WH a b->∀{i:Nat} {o:Obj},a[i]? =some o->∃o',b[i]? =some o'/\WO o o'
 |[],[],_,i,o,h=>by simp at h
 |_::_,_::_,h,0,o,e=>by simp at e;subst e;exact⟨_,rfl,h.1⟩
 |_::_,_::_,h,i+1,o,e=>by simpa using WH.get h.2 (by simpa using e)
def WH.set:∀{a b:QA},WH a b->∀{i:Nat} {o o':Obj},WO o o'->WH (a.set i o) (b.set i o')
 |[],[],_,i,o,o',_=>trivial
 |_::_,_::_,h,0,o,o',e=>⟨e,h.2⟩
 |_::_,_::_,h,i+1,o,o',e=>⟨h.1,WH.set h.2 e⟩
def WH.push{a b:QA}(h:WH a b){o o':Obj}(e:WO o o'):WH (a++[o]) (b++[o']):=by
 induction a generalizing b with
 |nil=>cases b with|nil=>exact⟨e,trivial⟩|cons _ _=>exact h.elim
 |cons x a ih=>cases b with|nil=>exact h.elim|cons y b=>exact⟨h.1,ih h.2⟩
def WC.trT{a:T}{b c:Cell}(h:WC (.t a) b)(h':WC b c):WC (.t a) c:=by
 cases h with
 |refl=>exact h'
 |t h=>
  cases h' with
  |refl=>exact .t h
  |t h'=>exact .t (.tr _ _ _ h h')
  |junk=>exact .junk _
 |junk=>
  cases h' with
  |refl=>exact .junk _
  |t h'=>exact .t (.tr _ _ _ (.junk _) h')
  |junk=>exact .junk _
def WL.trT:∀{a:List T} {b c:List Cell},WL (a.map .t) b->WL b c->WL (a.map .t) c
 |[],[],c,_,h=>h
 |[],_::_,_,h,_=>h.elim
 |_::_,[],_,h,_=>h.elim
 |_::_,_::_,[],_,h=>h.elim
 |_::_,_::_,_::_,h,h'=>⟨h.1.trT h'.1,WL.trT h.2 h'.2⟩
section
variable {O:Map}{M S':QA}{w:World}
def TR.ZB{U:Nat->Prop}{a b:T}(h:WT a b):∀{v:Value},TR U w a v->TR U w b v:=by
 induction h with
 |refl=>exact λhv=>hv
 |cap cs len cap=>
  intro v hv
  cases hv with
  |imm0 cap ad c hc=>exact .imm0 none ad c trivial
  |imm cs len cap b off c f h1 h2 h3 h4 h5 h6=>exact .imm cs len none b off c f h1 h2 trivial h4 h5 h6
 |junk=>exact λ{v} hv=>.junk v hv.Z2
 |cells cs cs' len cap hl _ ih=>
  intro v hv
  cases hv with
  |imm0 cap ad c hc=>have:cs'=[]:=Au.1 hl.symm;subst this;exact .imm0 cap ad c hc
  |imm cs len cap b off c f h1 h2 h3 h4 h5 h6=>exact .imm cs' len cap b off c f h1 h2 h3 h4 (λi hi=>h5 i (by omega)) (λi hi=>ih i (by omega) hi (h6 i (by omega)))
 |ptrs cs cs' hl _ ih=>
  intro v hv
  cases hv with
  |iptr cs b off f h1 h2 h5 h6=>exact .iptr cs' b off f h1 h2 (λi hi=>h5 i (by omega)) (λi hi=>ih i (by omega) hi (h6 i (by omega)))
 |pre cs cs' hp=>
  intro v hv;obtain⟨t,rfl⟩:=hp
  cases hv with
  |iptr cs b off f h1 h2 h5 h6=>exact .iptr cs' b off f h1 h2 (λi hi=>h5 i (by rw[AG];omega)) (λi hi=>by
    have:=h6 i (by rw[AG];omega);rwa [Bh hi]at this)
 |tr a b c _ _ ih1 ih2=>exact λhv=>ih2 (ih1 hv)
def CR.ZB{a b:Cell}(h:WC a b){v:Value}(hv:CR O w a v):CR O w b v:=by
 cases h with
 |refl=>exact hv
 |t h=>exact TR.ZB h hv
 |junk=>exact TR.junk v (CR.Z2 hv)
def XF.ZB{a b:List Cell}(h:WL a b){v:Value}(hv:XF O w a v):XF O w b v:=by obtain⟨arr,rfl,h1,h2⟩:=hv;refine⟨arr,rfl,h1.trans h.length,λi hi=> ?_⟩;obtain⟨u,h3,h4⟩:=h2 i (by rw[h.length];exact hi);exact⟨u,h3,CR.ZB (h.get _ hi) h4⟩
def WPL.length:∀{a b:List (Cell⊕List Cell)},WPL a b->a.length=b.length
 |[],[],_=>rfl
 |_::_,_::_,h=>by simp[WPL.length h.2]
def WPL.get:∀{a b:List (Cell⊕List Cell)},WPL a b->∀{i:Nat} (hi:i<a.length) (hi':i<b.length),WP a[i] b[i]
 |_::_,_::_,h,0,_,_=>h.1
 |_::_,_::_,h,i+1,hi,hi'=>WPL.get h.2 (by simpa using hi) (by simpa using hi')
def VR.ZB{a b:AV}(h:WV a b){v:Value}(hv:VR O w a v):VR O w b v:=by
 cases a with
 |c a=>cases b with
  |c b=>exact CR.ZB h hv
  |_=>exact h.elim
 |agg a=>cases b with
  |agg b=>exact XF.ZB h hv
  |_=>exact h.elim
 |tup a=>cases b with
  |tup b=>have h':WPL a b:=h;obtain⟨arr,rfl,h1,h2⟩:=hv;refine⟨arr,rfl,h1.trans h'.length,λi hi=> ?_⟩;obtain⟨u,h3,h4⟩:=h2 i (by rw[h'.length];exact hi);refine⟨u,h3,?_⟩;have hp:=h'.get (by rw[h'.length];exact hi) hi;generalize a[i]'(by rw[h'.length];exact hi)=x at h4 hp;generalize b[i]=y at hp;cases x<;>cases y<;>first|exact hp.elim|exact CR.ZB hp h4|exact XF.ZB hp h4
  |_=>exact h.elim
def HR.ZB(h:WH M S')(hh:HR O M w):HR O S' w where
 obj:=λid s hs=>by
  obtain⟨o,h1,h2,h3,h4⟩:=hh.obj id s hs;obtain⟨o',h5,h6,h7,h8⟩:=h.get h1;refine⟨o',h5,h7▸h2,h8▸h3,?_⟩
  cases hl:s.loc with
  |none=>rw[hl]at h4;have h4':o.cs=[]:=h4;rw[h4']at h6;exact Au.1 h6.length.symm
  |some l=>rw[hl]at h4;obtain⟨h9,h10,h11⟩:=h4;refine⟨h9,by rw[<-h6.length];exact h10,λi hi=> ?_⟩;obtain⟨v,h12,h13⟩:=h11 i (by rw[h6.length];exact hi);exact⟨v,h12,CR.ZB (h6.get _ hi) h13⟩
 inj:=hh.inj
 resRow:=hh.resRow
 resNo:=hh.resNo
def Step.ZB{I':Map}{w':World}{A1:QA}(h:WH S' A1)(hs:Step O M w I' S' w'):Step O M w I' A1 w':=
 ⟨by rw[<-h.length];exact hs.len,hs.size,hs.os,hs.out,hs.keep,hs.none,hs.new,hs.res,hs.ex,hs.resKeep,hs.frame⟩
def WR(r r':QB):Prop:=∀t v,r'.get t=some v->∃u,r.get t=some u/\WV u v
def WR.rfl'{r:QB}:WR r r:=λ_ v h=>⟨v,h,WV.rfl'⟩
def JP.ZB{N:Nat}{r r':QB}{a:Act}(h:WR r r')(hr:JP N O w r a):JP N O w r' a:=
 ⟨hr.size,hr.low,λt v hv=>let ⟨_,h1,h2⟩:=h t v hv;VR.ZB h2 (hr.get t _ h1),hr.gl⟩
end
structure DS where(l:List Deferred)(S:List (Nat×Go.Obj))
def Xz(S:List (Nat×Go.Obj))(w:World):Prop:=∀p∈S,noRow p.2/\w.heap[p.1]? =some p.2
def ZG(ds:DS)(n:Nat)(w:World)(ms:List Deferred):Prop:=Marks n w ms/\Xz ds.S w/\∀d∈ms,∀p∈ds.S,d.target≠.collected p.1
def Xz.step{S:List (Nat×Go.Obj)}{O I':Map}{M S':QA}{w w':World}(h:HR O M w)(hs:Step O M w I' S' w')(hm:Xz S w):Xz S w':=λp hp=>by obtain⟨h1,h2⟩:=hm p hp;exact⟨h1,(hs.frame _ (A8.1 h2).1 (un_noRow h h1 h2)).trans h2⟩
def ZG.step{ds:DS}{n:Nat}{O I':Map}{M S':QA}{w w':World}{ms:List Deferred}(h:HR O M w)(hs:Step O M w I' S' w')(hm:ZG ds n w ms):ZG ds n w' ms:=⟨hm.1.step h hs,hm.2.1.step h hs,hm.2.2⟩
def ZG.nil{ds:DS}{n:Nat}{w:World}(h:Xz ds.S w):ZG ds n w []:=⟨Marks.nil _ _,h,λ_ h=>by cases h⟩
def Xz.lt{S:List (Nat×Go.Obj)}{w:World}(h:Xz S w):∀p∈S,p.1<w.heap.size:=λp hp=>(A8.1 (h p hp).2).1
structure YI where(ps:Array Tmp)(assign body:Code)(n:Nat)
structure ExOk(y:YI)(ex:Ext)(w0:World):Prop where
 le:w0.heap.size<=ex.l
 yv:ex.yv=.func (.yield ex.l) #[] #[]
 ps:ex.lr.params=y.ps
 assign:ex.lr.assign=y.assign
 body:ex.lr.body=y.body
 n:ex.lr.tmps.size=y.n
 o:∀t,t<BIG->ex.o (2000000+t)=ex.lr.tmps.getD t undef
def VF(N:Nat)(Q:Exit->QB->QA->Prop)(I0:Map)(S0:QA)(w0:World)(ds:DS):Exit->Act->World->Prop:=λe a' w'=>
 (match e with|.panic _|.outgrown=>False|_=>True)/\∃r' S' I' ms,Q e r' S'/\HR I' S' w'/\JP N I' w' r' a'/\Step I0 S0 w0 I' S' w'/\a'.defers=ms++ds.l/\ZG ds w0.heap.size w' ms
def JQ(P:Program)(N:Nat)(ro:Option Nat)(n0:Nat)(Y:Option YI)(c:Code)(r:QB)(M:QA)(Q:Exit->QB->QA->Prop):Prop:=∀I0 S0 w0 ds,HR I0 S0 w0->S0.length<=n0->(∀y,Y=some y->ExOk y I0.ex w0/\∀p∈ds.S,p.1≠I0.ex.l)->∀O w a ms,HR O M w->JP N O w r a->Step I0 S0 w0 O M w->a.defers=ms++ds.l->ZG ds w0.heap.size w ms->c.wpIn (wr ro) 0 P (VF N Q I0 S0 w0 ds) a w
section
variable {P:Program}{N:Nat}{ro:Option Nat}{n0:Nat}{Y:Option YI}
def postF_mono{Q Q':Exit->QB->QA->Prop}(hq:∀e r M,Q e r M->Q' e r M){I0:Map}{S0:QA}{w0:World}{ds:DS}{e:Exit}{a:Act}{w:World}(h:VF N Q I0 S0 w0 ds e a w):VF N Q' I0 S0 w0 ds e a w:=
 let ⟨h0,r',S',I',ms,h1,h2⟩:=h
 ⟨h0,r',S',I',ms,hq _ _ _ h1,h2⟩
def JQ.mono{c:Code}{r:QB}{M:QA}{Q Q':Exit->QB->QA->Prop}(h:JQ P N ro n0 Y c r M Q)(hq:∀e r M,Q e r M->Q' e r M):JQ P N ro n0 Y c r M Q':=
 λI0 S0 w0 ds h0 hn hY O w a ms hh hr hs hd hm=>C3 (h I0 S0 w0 ds h0 hn hY O w a ms hh hr hs hd hm) λ_ _ _ hp=>postF_mono hq hp
def JZ.toF{c:Code}{r:QB}{M:QA}{Q:Exit->QB->QA->Prop}(h:JZ P N ro c r M Q):JQ P N ro n0 Y c r M Q:=
 λI0 S0 w0 ds _ _ _ O w a ms hh hr hs hd hm=>C3 (h O w a hh hr) λe a' w' ⟨h0,r',S',I',ms',h1,h2,h3,h4,h5,h6⟩=>
  ⟨h0,r',S',I',ms'++ms,h1,h2,h3,hs.trans h4,by rw[h5,hd,Ad],⟨Marks.append (hm.1.step hh h4) h6 hs.size hm.1.lt,hm.2.1.step hh h4,λd hd p hp=>(Ak.1 hd).elim (h6.others (.inl (hm.2.1.lt p hp)) d) (λh=>hm.2.2 d h p hp)⟩⟩
def JQ.toOk{c:Code}{r:QB}{M:QA}{Q:Exit->QB->QA->Prop}(h:JQ P N ro M.length none c r M Q):JZ P N ro c r M Q:=
 λO w a hh hr=>C3 (h O M w ⟨a.defers,[]⟩ hh (A5 _) (λ_ h=>by cases h) O w a [] hh hr (Step.refl O M w) rfl (ZG.nil λ_ h=>by cases h)) λ_ _ _ ⟨h0,r',S',I',ms',h1,h2,h3,h4,h5,h6⟩=>⟨h0,r',S',I',ms',h1,h2,h3,h4,h5,h6.1⟩
def Xu{c:Code}{r r':QB}{M S':QA}{Q:Exit->QB->QA->Prop}(hg:J0 N n0 r M r' S')(h:JQ P N ro n0 Y c r' S' Q):JQ P N ro n0 Y c r M Q:=
 λI0 S0 w0 ds h0 hn hY O w a ms hh hr hs hd hm=>by obtain⟨I',h1,h2,h3⟩:=hg O w a hh hr;exact h I0 S0 w0 ds h0 hn hY I' w a ms h1 h2 (h3 I0 S0 w0 h0 hn hs) hd hm
def WN{c:Code}{r:QB}{M:QA}{Q:Exit->QB->QA->Prop}(h:JQ P N ro n0 Y c r M λe r' S'=>∃r'' S'',J0 N n0 r' S' r'' S''/\Q e r'' S''):JQ P N ro n0 Y c r M Q:=
 λI0 S0 w0 ds h0 hn hY O w a ms hh hr hs hd hm=>C3 (h I0 S0 w0 ds h0 hn hY O w a ms hh hr hs hd hm) λe a' w' ⟨he,r',S',I',ms',⟨r'',S'',hg,hq⟩,h2,h3,h4,h5,h6⟩=>by obtain⟨i'',h7,h8,h9⟩:=hg I' w' a' h2 h3;exact⟨he,r'',S'',i'',ms',hq,h7,h8,h9 I0 S0 w0 h0 hn h4,h5,h6⟩
def okF_skip{r:QB}{M:QA}{Q:Exit->QB->QA->Prop}(h:Q .normal r M):JQ P N ro n0 Y .skip r M Q:=
 λ_ _ _ _ _ _ _ O _ _ ms hh hr hs hd hm=>wpIn_skip ⟨trivial,r,M,O,ms,h,hh,hr,hs,hd,hm⟩
def okF_exit{id:Nat}{r:QB}{M:QA}{Q:Exit->QB->QA->Prop}(h:Q (.exit id) r M):JQ P N ro n0 Y (.exit id) r M Q:=
 λ_ _ _ _ _ _ _ O _ _ ms hh hr hs hd hm=>wpIn_exit ⟨trivial,r,M,O,ms,h,hh,hr,hs,hd,hm⟩
def okF_ret{r:QB}{M:QA}{Q:Exit->QB->QA->Prop}(h:Q .ret r M):JQ P N ro n0 Y .ret r M Q:=
 λ_ _ _ _ _ _ _ O _ _ ms hh hr hs hd hm=>wpIn_ret ⟨trivial,r,M,O,ms,h,hh,hr,hs,hd,hm⟩
def okF_seq{x y:Code}{r:QB}{M:QA}{Q:Exit->QB->QA->Prop}(h:JQ P N ro n0 Y x r M λe r' S'=>match e with|.normal=>JQ P N ro n0 Y y r' S' Q|e=>Q e r' S'):JQ P N ro n0 Y (.seq x y) r M Q:=
 λI0 S0 w0 ds h0 hn hY O w a ms hh hr hs hd hm=>wpIn_seq (C3 (h I0 S0 w0 ds h0 hn hY O w a ms hh hr hs hd hm) λe a' w' hp=>by
  cases e with
  |normal=>obtain⟨_,r',S',I',ms',h1,h2,h3,h4,h5,h6⟩:=hp;exact h1 I0 S0 w0 ds h0 hn hY I' w' a' ms' h2 h3 h4 h5 h6
  |_=>exact hp)
def okF_cond{c:Operand}{x y:Code}{r:QB}{M:QA}{t:Bool}(hc:ev r c=some (.c (.t (.bool t)))){Q:Exit->QB->QA->Prop}(h:JQ P N ro n0 Y (if t then x else y) r M Q):JQ P N ro n0 Y (.cond c x y) r M Q:=
 λI0 S0 w0 ds h0 hn hY O w a ms hh hr hs hd hm=>wpIn_cond (bool_of (ev_ok hr hc)) (h I0 S0 w0 ds h0 hn hY O w a ms hh hr hs hd hm)
def okF_block{id:Nat}{c:Code}{r:QB}{M:QA}{Q:Exit->QB->QA->Prop}(h:JQ P N ro n0 Y c r M λe r' S'=>match e with|.exit i=>if i=id then Q .normal r' S' else Q (.exit i) r' S'|e=>Q e r' S'):
  JQ P N ro n0 Y (.block id c) r M Q:=
 λI0 S0 w0 ds h0 hn hY O w a ms hh hr hs hd hm=>wpIn_block (C3 (h I0 S0 w0 ds h0 hn hY O w a ms hh hr hs hd hm) λe a' w' hp=>by
  cases e with
  |exit i=>
   obtain⟨_,r',S',I',ms',h1,h2⟩:=hp;by_cases hi:i=id
   ·simp only[hi,Aq]at h1;simp only[Exit.inBlock,hi,Aq];exact⟨trivial,r',S',I',ms',h1,h2⟩
   ·simp only[hi,Al]at h1;simp only[Exit.inBlock,hi,Al];exact⟨trivial,r',S',I',ms',h1,h2⟩
  |_=>exact hp)
def okF_scope{c:Code}{r:QB}{M:QA}{Q:Exit->QB->QA->Prop}(h:JQ P N ro n0 Y c r M λe r' S'=>match e with|.goto _=>False|e=>Q e r' S'):JQ P N ro n0 Y (.scope c) r M Q:=
 λI0 S0 w0 ds h0 hn hY O w a ms hh hr hs hd hm=>Uy (C3 (h I0 S0 w0 ds h0 hn hY O w a ms hh hr hs hd hm) λe a' w' hp=>by
  cases e with
  |goto l=>exact hp.2.choose_spec.choose_spec.choose_spec.choose_spec.1.elim
  |_=>exact hp)
def okF_label{l:Nat}{r:QB}{M:QA}{Q:Exit->QB->QA->Prop}(h:Q .normal r M):JQ P N ro n0 Y (.label l) r M Q:=
 λ_ _ _ _ _ _ _ O _ _ ms hh hr hs hd hm=>wpIn_label ⟨trivial,r,M,O,ms,h,hh,hr,hs,hd,hm⟩
def VN{c:Code}(I:Nat->QB->QA->Prop){n:Nat}{r:QB}{M:QA}{Q:Exit->QB->QA->Prop}(h0:I n r M)
  (round:∀n r M,I n r M->JQ P N ro n0 Y c r M λe r' S'=>match e with|.normal=>∃m,m<n/\I m r' S'|e=>Q e r' S'):JQ P N ro n0 Y (.loop c) r M Q:=λI0 S0 w0 ds hh0 hn hY O w a ms hh hr hs hd hm=>by
 refine wpIn_loop' (λj a' w'=>∃r' S' I' ms,I j r' S'/\HR I' S' w'/\JP N I' w' r' a'/\Step I0 S0 w0 I' S' w'/\a'.defers=ms++ds.l/\ZG ds w0.heap.size w' ms) (j:=n)
  ⟨r,M,O,ms,h0,hh,hr,hs,hd,hm⟩ ?_
 rintro j a1 w1 ⟨r1,A1,I1,ms1,h1,h2,h3,h4,h5,h6⟩;refine C3 (round j r1 A1 h1 I0 S0 w0 ds hh0 hn hY I1 w1 a1 ms1 h2 h3 h4 h5 h6) λe a2 w2 hp=> ?_;obtain⟨h0',r2,A2,I2,ms2,h7,h8⟩:=hp
 cases e with
 |normal=>obtain⟨m,hlt,hI⟩:=h7;exact⟨m,hlt,r2,A2,I2,ms2,hI,h8⟩
 |exit id=>exact⟨trivial,r2,A2,I2,ms2,h7,h8⟩
 |goto l=>exact⟨trivial,r2,A2,I2,ms2,h7,h8⟩
 |ret=>exact⟨trivial,r2,A2,I2,ms2,h7,h8⟩
 |panic ch=>exact h0'.elim
 |outgrown=>exact h0'.elim
def J0.rfl'{n:Nat}{r:QB}{M:QA}:J0 N n r M r M:=λO _ _ hh hr=>⟨O,hh,hr,λ_ _ _ _ _ hs=>hs⟩
def Qi{n:Nat}{r r':QB}{M S':QA}(hr:WR r r')(hσ:WH M S'):J0 N n r M r' S':=
 λO _ _ hh ha=>⟨O,hh.ZB hσ,ha.ZB hr,λ_ _ _ _ _ hs=>hs.ZB hσ⟩
end
end Go.Abs
namespace Go.Abs
variable [Gl]
inductive Trm(n1:Nat)(M:QA)(e:Nat->Nat):Cell->Cell->Prop
 |t (a:T):Trm n1 M e (.t a) (.t a)
 |ptr (r:Ref) (o:Obj):r.id<n1->M[r.id]? =some o->o.ep=r.ep->Trm n1 M e (.ptr r) (.ptr { r with ep:=e r.id })
 |sl (r:Ref) (len:Nat) (cap:Option Nat) (o:Obj):r.id<n1->M[r.id]? =some o->o.ep=r.ep->Trm n1 M e (.sl r len cap) (.sl { r with ep:=e r.id } len cap)
 |clo (f:FuncId) (rs:List Ref):(∀r∈rs,r.id<n1/\∃o,M[r.id]? =some o/\o.ep=r.ep)->Trm n1 M e (.clo f rs) (.clo f (rs.map λr=>{ r with ep:=e r.id }))
 |frz (k:Nat) (c:Cell) (x:T):JT k M n1 c=some x->Trm n1 M e c (.t x)
 |junk (c:Cell):Trm n1 M e c (.t .junk)
def ZA(n1:Nat)(M:QA)(e:Nat->Nat):List Cell->List Cell->Prop
 |[],[]=>True
 |a::as,b::bs=>Trm n1 M e a b/\ZA n1 M e as bs
 |_,_=>False
def ZA.length{n1:Nat}{M:QA}{e:Nat->Nat}:∀{a b:List Cell},ZA n1 M e a b->a.length=b.length
 |[],[],_=>rfl
 |_::_,_::_,h=>by simp[ZA.length h.2]
def ZA.get{n1:Nat}{M:QA}{e:Nat->Nat}:∀{a b:List Cell},ZA n1 M e a b->∀{i:Nat} (hi:i<a.length) (hi':i<b.length),Trm n1 M e a[i] b[i]
 |_::_,_::_,h,0,_,_=>h.1
 |_::_,_::_,h,i+1,hi,hi'=>ZA.get h.2 (by simpa using hi) (by simpa using hi')
def TrmP(n1:Nat)(M:QA)(e:Nat->Nat):Cell⊕List Cell->Cell⊕List Cell->Prop
 |.inl a,.inl b=>Trm n1 M e a b
 |.inr a,.inr b=>ZA n1 M e a b
 |_,_=>False
def KZ(n1:Nat)(M:QA)(e:Nat->Nat):List (Cell⊕List Cell)->List (Cell⊕List Cell)->Prop
 |[],[]=>True
 |a::as,b::bs=>TrmP n1 M e a b/\KZ n1 M e as bs
 |_,_=>False
def KZ.length{n1:Nat}{M:QA}{e:Nat->Nat}:∀{a b:List (Cell⊕List Cell)},KZ n1 M e a b->a.length=b.length
 |[],[],_=>rfl
 |_::_,_::_,h=>by simp[KZ.length h.2]
def KZ.get{n1:Nat}{M:QA}{e:Nat->Nat}:∀{a b:List (Cell⊕List Cell)},KZ n1 M e a b->∀{i:Nat} (hi:i<a.length) (hi':i<b.length),TrmP n1 M e a[i] b[i]
 |_::_,_::_,h,0,_,_=>h.1
 |_::_,_::_,h,i+1,hi,hi'=>KZ.get h.2 (by simpa using hi) (by simpa using hi')
def TrmV(n1:Nat)(M:QA)(e:Nat->Nat):AV->AV->Prop
 |.c a,.c b=>Trm n1 M e a b
 |.agg a,.agg b=>ZA n1 M e a b
 |.tup a,.tup b=>KZ n1 M e a b
 |_,_=>False
def Tw(n1:Nat)(M:QA)(e:Nat->Nat)(c c':Cell):Prop:=∃d,Trm n1 M e c d/\WC d c'
def TwL(n1:Nat)(M:QA)(e:Nat->Nat)(c c':List Cell):Prop:=∃d,ZA n1 M e c d/\WL d c'
def TwV(n1:Nat)(M:QA)(e:Nat->Nat)(c c':AV):Prop:=∃d,TrmV n1 M e c d/\WV d c'
def TwL.length{n1:Nat}{M:QA}{e:Nat->Nat}{a b:List Cell}(h:TwL n1 M e a b):a.length=b.length:=by obtain⟨d,h1,h2⟩:=h;rw[h1.length,h2.length]
def Yd(n1:Nat)(e:Nat->Nat)(O:Map):Map:=⟨λid=>if id<n1 then (O id).map λs=>{ s with ep:=e id } else none,O.res,O.ex⟩
section
variable {P:Program}{N:Nat}{n0 n1:Nat}{M S':QA}{e:Nat->Nat}{O:Map}{w:World}
def XR{id:Nat}{s:Jv}(h:Yd n1 e O id=some s):id<n1/\∃s0,O id=some s0/\s={ s0 with ep:=e id }:=by
 simp only[Yd]at h;split at h
 ·rename_i hl;rw[WF]at h;obtain⟨s0,h1,rfl⟩:=h;exact⟨hl,s0,h1,rfl⟩
 ·cases h
def reMap_un{b:Nat}(h:O.un b):(Yd n1 e O).un b:=by
 rintro(⟨id,s,l,h1,h2,rfl⟩|hr)
 ·obtain⟨_,s0,h3,rfl⟩:=XR h1;exact h (.inl ⟨id,s0,l,h3,h2,rfl⟩)
 ·exact h (.inr hr)
def cut_re{b:Nat}(h:(cut n1 O).un b):(Yd n1 e O).un b:=by
 rintro(⟨id,s,l,h1,h2,rfl⟩|hr)
 ·obtain⟨hl,s0,h3,rfl⟩:=XR h1;exact h (.inl ⟨id,s0,l,by simp only[cut,hl,Aq];exact h3,h2,rfl⟩)
 ·exact h (.inr hr)
def re_ref(hh:HR O M w){r:Ref}{o:Obj}(hlt:r.id<n1)(ho:M[r.id]? =some o)(hep:o.ep=r.ep){ok:Jv->Prop}(hok:∀s k,ok s->ok { s with ep:=k })(h:JU O r ok):
  JU (Yd n1 e O) { r with ep:=e r.id } ok:=by
 obtain⟨s,h1,h2,h3⟩:=h;obtain⟨o',h4,h5,h6,_⟩:=hh.obj _ s h1;rw[ho]at h4;injection h4 with h4;subst h4;refine⟨{ s with ep:=e r.id },by simp[Yd,hlt,h1],A5 _,λ_=>hok s _ (h3 (by omega))⟩
def Trm.ok(hh:HR O M w){c c':Cell}(h:Trm n1 M e c c'){v:Value}(hv:CR O w c v):CR (Yd n1 e O) w c' v:=by
 cases h with
 |t a=>exact TR.mono hv λb hb _=>⟨reMap_un hb,rfl⟩
 |ptr r o h1 h2 h3=>obtain⟨a,rfl,h4⟩:=hv;exact⟨a,rfl,re_ref hh h1 h2 h3 (λs k h=>h) h4⟩
 |sl r len cap o h1 h2 h3=>obtain⟨a,c,rfl,h5,h4⟩:=hv;exact⟨a,c,rfl,h5,re_ref hh h1 h2 h3 (λs k h=>h) h4⟩
 |clo f rs h1=>refine cloR.imp (I':=Yd n1 e O) (caps':=rs.map λr=>{ r with ep:=e r.id }) hv rfl (by simp) λ_ i hi' hi a h5=> ?_;obtain⟨h6,o,h7,h8⟩:=h1 _ (A9 hi');simp only[AP];exact re_ref hh h6 h7 h8 (λs k h=>h) h5
 |frz k c x h1=>exact TR.mono (We hh hv h1) λb hb _=>⟨cut_re hb,rfl⟩
 |junk c=>exact TR.junk v (CR.Z2 hv)
def TrmV.ok(hh:HR O M w){c c':AV}(h:TrmV n1 M e c c'){v:Value}(hv:VR O w c v):VR (Yd n1 e O) w c' v:=by
 cases c with
 |c a=>cases c' with
  |c b=>exact Trm.ok hh h hv
  |_=>exact h.elim
 |agg a=>cases c' with
  |agg b=>have h':ZA n1 M e a b:=h;obtain⟨arr,rfl,h1,h2⟩:=hv;refine⟨arr,rfl,h1.trans h'.length,λi hi=> ?_⟩;obtain⟨u,h3,h4⟩:=h2 i (by rw[h'.length];exact hi);exact⟨u,h3,(h'.get _ hi).ok hh h4⟩
  |_=>exact h.elim
 |tup a=>cases c' with
  |tup b=>
   have h':KZ n1 M e a b:=h;obtain⟨arr,rfl,h1,h2⟩:=hv;refine⟨arr,rfl,h1.trans h'.length,λi hi=> ?_⟩;obtain⟨u,h3,h4⟩:=h2 i (by rw[h'.length];exact hi);refine⟨u,h3,?_⟩;have hp:=h'.get (by rw[h'.length];exact hi) hi;generalize a[i]'(by rw[h'.length];exact hi)=x at h4 hp;generalize b[i]=y at hp
   cases x with
   |inl x=>cases y with
    |inl y=>exact Trm.ok hh hp h4
    |inr y=>exact hp.elim
   |inr x=>cases y with
    |inl y=>exact hp.elim
    |inr y=>have hp':ZA n1 M e x y:=hp;obtain⟨arr,rfl,h1,h2⟩:=h4;refine⟨arr,rfl,h1.trans hp'.length,λi hi=> ?_⟩;obtain⟨u,h3,h4⟩:=h2 i (by rw[hp'.length];exact hi);exact⟨u,h3,(hp'.get _ hi).ok hh h4⟩
  |_=>exact h.elim
def ghost_trim {r r' : QB} (hn : n0 <= n1) (hlen : S'.length = n1) (he : ∀ id o,id < n0 -> M[id]? = some o -> e id = o.ep)
   (hσ : ∀ id o',S'[id]? = some o' -> ∃ o,M[id]? = some o /\ TwL n1 M e o.cs o'.cs /\ o'.es = o.es /\ o'.ep = e id)
   (hr : ∀ t v',r'.get t = some v' -> ∃ v,r.get t = some v /\ TwV n1 M e v v') : J0 N n0 r M r' S' := λO w a hh ha => by
 refine ⟨Yd n1 e O,⟨λid s' hs' => ?_,λid id' s s' l l' h1 h2 h3 h4 h5 => ?_,hh.resRow,λid s l h1 h2 => ?_⟩,⟨ha.size,ha.low,λt v' hv' => ?_,ha.gl.mono λb hu _ => ⟨reMap_un hu,rfl⟩⟩,λI0 S0 w0 h0 hn0 hs => ?_⟩
 · obtain ⟨hlt,s,hs,rfl⟩ := XR hs'
   have hlt' : id < S'.length := (by omega);obtain ⟨o,h1,h2,h3,h4⟩ := hσ id S'[id] (A4 hlt');refine ⟨S'[id],A4 hlt',?_⟩;obtain ⟨o2,h5,h6,h7,h8⟩ := hh.obj id s hs;rw [h1] at h5;injection h5 with h5;subst h5;refine ⟨h3.trans h6,h4,?_⟩;show match s.loc with | none => _ | some l => _
   cases hl : s.loc with
   | none => rw [hl] at h8; have h8' : o.cs = [] := h8; rw [h8'] at h2; exact Au.1 h2.length.symm
   | some l =>rw [hl] at h8;obtain ⟨h9,h10,h11⟩ := h8;refine ⟨h9,by rw [<- h2.length]; exact h10,λi hi => ?_⟩;obtain ⟨v,h12,h13⟩ := h11 i (by rw [h2.length]; exact hi);obtain ⟨d,h2a,h2b⟩ := h2;exact ⟨v,h12,CR.ZB (h2b.get (by rw [h2b.length]; exact hi) hi) ((h2a.get (by rw [h2a.length,h2b.length]; exact hi) (by rw [h2b.length]; exact hi)).ok hh h13)⟩
 · obtain ⟨_,s0,h6,rfl⟩ := XR h1
   obtain ⟨_,s1,h7,rfl⟩ := XR h2;exact hh.inj id id' s0 s1 l l' h6 h7 h3 h4 h5
 · obtain ⟨_,s0,h6,rfl⟩ := XR h1
   exact hh.resNo id s0 l h6 h2
 · obtain ⟨v,h1,h2⟩ := hr t v' hv'
   obtain ⟨d,h2a,h2b⟩ := h2;exact VR.ZB h2b (h2a.ok hh (ha.get t v h1))
 · exact {
     len := by omega
     size := hs.size
     os := hs.os
     out := hs.out
     keep := λid s h1 => by obtain ⟨s',h2,h3,h4⟩ := hs.keep id s h1;have hlt := h0.lt h1;obtain ⟨o,h5,_,h6,_⟩ := hh.obj id s' h2;have he' := he id o (by omega) h5;have e1 : ({ s' with ep := e id } : Jv) = s' := (by rw [he',h6]);refine ⟨s',?_,h3,h4⟩;have : id < n1 := (by omega);simp only [Yd,this,Aq,h2,AI,e1]
     none := λid hid h1 => by have := hs.none id hid h1;simp only [Yd,this,Cm,ite_self]
     new := λid s' l' h1 h2 => by obtain ⟨_,s0,h3,rfl⟩ := XR h1;exact hs.new id s0 l' h3 h2
     res := hs.res
     ex := hs.ex
     resKeep := hs.resKeep
     frame := hs.frame }
def UT(π:Nat->Nat)(r:Ref):Ref:={ r with id:=π r.id }
def prC(π:Nat->Nat):Cell->Cell
 |.t a=>.t a
 |.ptr r=>.ptr (UT π r)
 |.sl r l c=>.sl (UT π r) l c
 |.clo f rs=>.clo f (rs.map (UT π))
def prV(π:Nat->Nat):AV->AV
 |.c a=>.c (prC π a)
 |.agg a=>.agg (a.map (prC π))
 |.tup a=>.tup (a.map fun|.inl x=>.inl (prC π x)|.inr xs=>.inr (xs.map (prC π)))
structure Perm(n0 len:Nat)(π ρ:Nat->Nat):Prop where
 fix:∀id,id<n0->π id=id/\ρ id=id
 lt:∀id,id<len->π id<len/\ρ id<len
 pr:∀id,id<len->ρ (π id)=id
 rp:∀id,id<len->π (ρ id)=id
def Y8(len:Nat)(ρ:Nat->Nat)(O:Map):Map:=⟨λid=>if id<len then O (ρ id) else none,O.res,O.ex⟩
def ghost_perm {r : QB} {π ρ : Nat -> Nat} (hn : n0 <= M.length) (hp : Perm n0 M.length π ρ) :
   J0 N n0 r M (r.map λx => (x.1,prV π x.2)) ((List.range M.length).map λi => let o := (M[ρ i]?).getD default; { o with cs := o.cs.map (prC π) }) := λO w a hh ha => by
 have href : ∀ {q : Ref} {ok : Jv -> Prop},JU O q ok -> JU (Y8 M.length ρ O) (UT π q) ok := λ{q ok} ⟨s,h1,h2,h3⟩ => by have hlt := hh.lt h1;exact ⟨s,by simp only [Y8,UT,(hp.lt _ hlt).1,Aq,hp.pr _ hlt]; exact h1,h2,h3⟩
 have hun : ∀ b,O.un b -> (Y8 M.length ρ O).un b := λb hb => by
   rintro (⟨id,s,l,h1,h2,rfl⟩ | hr)
   · simp only [Y8] at h1
     split at h1
     · exact hb (.inl ⟨_,s,l,h1,h2,rfl⟩)
     · cases h1
   · exact hb (.inr hr)
 have hC : ∀ {c : Cell} {v : Value},CR O w c v -> CR (Y8 M.length ρ O) w (prC π c) v := λ{c v} hv => by
   cases c with
   | t x => exact TR.mono hv λb hb _ => ⟨hun b hb,rfl⟩
   | ptr q => obtain ⟨a,rfl,h1⟩ := hv; exact ⟨a,rfl,href h1⟩
   | sl q l c => obtain ⟨a,c,rfl,h0,h1⟩ := hv; exact ⟨a,c,rfl,h0,href h1⟩
   | clo f rs =>refine cloR.imp (I' := Y8 M.length ρ O) (caps' := rs.map (UT π)) hv rfl (by simp) λ_ i hi' hi a h5 => ?_;simp only [AP];exact href h5
 refine ⟨Y8 M.length ρ O,⟨λid s hs => ?_,λid id' s s' l l' h1 h2 h3 h4 h5 => ?_,hh.resRow,λid s l h1 h2 => ?_⟩,⟨ha.size,ha.low,λt v' hv' => ?_,ha.gl.mono λb hu _ => ⟨hun b hu,rfl⟩⟩,λI0 S0 w0 h0 hn0 hs => ?_⟩
 · simp only [Y8] at hs
   split at hs
   · rename_i hlt
     obtain ⟨o,h1,h2,h3,h4⟩ := hh.obj _ s hs;refine ⟨{ o with cs := o.cs.map (prC π) },by simp [hlt,h1],h2,h3,?_⟩
     cases hl : s.loc with
     | none => rw [hl] at h4; have h4' : o.cs = [] := h4; simp [h4']
     | some l =>rw [hl] at h4;refine ⟨h4.1,by simpa using h4.2.1,λi hi => ?_⟩;obtain ⟨v,h5,h6⟩ := h4.2.2 i (by simpa using hi);refine ⟨v,h5,?_⟩;simp only [AP];exact hC h6
   · cases hs
 · simp only [Y8] at h1 h2
   split at h1
   · rename_i hl1
     split at h2
     · rename_i hl2
       have := hh.inj _ _ s s' l l' h1 h2 h3 h4 h5;rw [<- hp.rp id hl1,<- hp.rp id' hl2,this]
     · cases h2
   · cases h1
 · simp only [Y8] at h1
   split at h1
   · exact hh.resNo _ s l h1 h2
   · cases h1
 · have : ∀ {l : QB},QB.get (l.map λx => (x.1,prV π x.2)) t = some v' -> ∃ v,l.get t = some v /\ v' = prV π v := λ{l} => by
     induction l with
     | nil => intro h; simp [QB.get] at h
     | cons p l ih =>
       intro h;simp only [AY,QB.get] at h ⊢;split at h
       · injection h with h; rename_i e; exact ⟨p.2,by simp [e],h.symm⟩
       · rename_i e
         obtain ⟨v,h1,h2⟩ := ih h;exact ⟨v,by simp [e,h1],h2⟩
   obtain ⟨v,h1,rfl⟩ := this hv';have hv := ha.get t v h1
   cases v with
   | c x => exact hC hv
   | agg xs => exact Wr (λc v => hC) hv
   | tup xs =>
     obtain ⟨arr,h2,h3,h4⟩ := hv;refine ⟨arr,h2,by simpa using h3,λi hi => ?_⟩;obtain ⟨u,h5,h6⟩ := h4 i (by simpa using hi);refine ⟨u,h5,?_⟩;simp only [AP];generalize xs[i]'(by simpa using hi) = y at h6 ⊢
     cases y with
     | inl x => exact hC h6
     | inr xs => exact Wr (λc v => hC) h6
 · exact {
     len := by simp; omega
     size := hs.size
     os := hs.os
     out := hs.out
     keep := λid s h1 => by obtain ⟨s',h2,h3⟩ := hs.keep id s h1;have hlt := h0.lt h1;refine ⟨s',?_,h3⟩;have hl : id < M.length := (by omega);simp only [Y8,hl,Aq,(hp.fix id (by omega)).2,h2]
     none := λid hid h1 => by have hl : id < M.length := (by omega);simp only [Y8,hl,Aq,(hp.fix id (by omega)).2];exact hs.none id hid h1
     new := λid s' l' h1 h2 => by
       simp only [Y8] at h1;split at h1
       · exact hs.new _ s' l' h1 h2
       · cases h1
     res := hs.res
     ex := hs.ex
     resKeep := hs.resKeep
     frame := hs.frame }
end
end Go.Abs
namespace Go.Abs
variable [Gl]
abbrev TyT:=TypeId->Option (JD×Option Ly)
def V6:T->Option SC
 |.bool b=>some (.bo b)
 |.int k n=>some (.it k n)
 |.str s=>some (.sg s)
 |.nilp=>some .np
 |.imm [] 0 (some 0)=>some .nils
 |.nilf=>some .nf
 |.junk=>some .junk
 |_=>none
def Ly.view:(c:Ly)->c.ty->List SC
 |.int k,n=>[.it k n]
 |.bool,x=>[.bo x]
 |.str,x=>[.sg x]
 |.sl c,(xs:List c.ty)=>[.arr c xs none]
 |.pair a b,x=>a.view x.1++b.view x.2
def encInt(k:IntKind)(l:List SC):Option Int:=match l with
 |[.it k' n]=>match Yf k k' with|true=>some n|false=>none
 |_=>none
def encBool(l:List SC):Option Bool:=match l with
 |[.bo x]=>some x
 |_=>none
def encStr(l:List SC):Option (List UInt8):=match l with
 |[.sg x]=>some x
 |_=>none
def encSl(ex:Bool)(c:Ly)(l:List SC):Option (List c.ty):=match l with
 |[.arr c' xs cap]=>if h:c'.beq c=true then (match cap with
   |none=>some (Ly.Jq h xs)
   |some _=>match ex with|true=>none|false=>some (Ly.Jq h xs)) else none
 |[.nils]=>match ex with|true=>none|false=>some []
 |_=>none
def Ly.enc(ex:Bool):(c:Ly)->List SC->Option c.ty
 |.int k,l=>encInt k l
 |.bool,l=>encBool l
 |.str,l=>encStr l
 |.sl c,l=>encSl ex c l
 |.pair a b,l=>match a.enc ex (l.take a.size),b.enc ex (l.drop a.size) with
  |some x,some y=>some (x,y)
  |_,_=>none
def encL(ex:Bool)(c:Ly):Nat->List SC->Option (List c.ty)
 |0,[]=>some []
 |n+1,l=>match c.enc ex (l.take c.size),encL ex c n (l.drop c.size) with
  |some x,some xs=>some (x::xs)
  |_,_=>none
 |_,_=>none
def constSV(v:Value):Option SV:=match Wo v with
 |some (.c (.t t))=>(V6 t).map .c
 |some (.agg cs)=>(Jj (fun|.t t=>V6 t|_=>none) cs).map .agg
 |_=>none
def eqTg:Tg->Tg->Bool
 |[],[]=>true
 |(a,x)::l,(b,y)::m=>match Nat.beq a b with
  |true=>match x,y with
   |true,true=>eqTg l m
   |false,false=>eqTg l m
   |_,_=>false
  |false=>false
 |_,_=>false
def sufB(a:Tg):Tg->Bool
 |[]=>match a with|[]=>true|_=>false
 |x::l=>match a with|[]=>true|_=>match eqTg a (x::l) with|true=>true|false=>sufB a l
def SR.gget(r:SR)(t:Nat):Option (Tg×SV):=match Nat.ble BIG t with|true=>none|false=>r.get t
def SR.at(r:SR)(L:Tg)(t:Nat):Option SV:=match r.gget t with
 |some (tg,v)=>match sufB tg L with|true=>some v|false=>none
 |none=>none
def evS(r:SR)(L:Tg):Operand->Option SV
 |.tmp t=>r.at L t
 |.const v=>constSV v
 |.func f=>some (.c (.fn f))
 |.global g=>match Gl.dat g with
  |some ⟨c,x⟩=>some (.c (.ip c x 0))
  |none=>none
def Ku(r:SR)(L:Tg):List Operand->Option (List SV)
 |[]=>some []
 |x::rest=>match evS r L x,Ku r L rest with
  |some v,some vs=>some (v::vs)
  |_,_=>none
def evsS(r:SR)(L:Tg):List (Nat×Operand)->Option (List (Nat×SV))
 |[]=>some []
 |(i,x)::rest=>match evS r L x,evsS r L rest with
  |some v,some vs=>some ((i,v)::vs)
  |_,_=>none
def evoS(r:SR)(L:Tg):Option Operand->Option (Option SV)
 |none=>some none
 |some x=>(evS r L x).map some
def SV.cells:SV->List SC
 |.c x=>[x]
 |.agg xs=>xs
 |.tup _=>[]
def SV.flat:SV->Bool
 |.tup _=>false
 |_=>true
def nz(n:Int):Bool:=!(n==0)
def inR(i:Int)(n:Nat):Bool:=decide (0<=i)&&decide (i<n)
def leB(a b:Nat):Bool:=decide (a<=b)
def eqN(a b:Nat):Bool:=decide (a=b)
def intS(op:BinOp)(k:IntKind)(x y:Int):Option (Bool×SC):=match op with
 |.add=>some (true,.it k (k.wrap (x+y)))
 |.sub=>some (true,.it k (k.wrap (x - y)))
 |.mul=>some (true,.it k (k.wrap (x*y)))
 |.quo=>some (nz y,.it k (k.wrap (x.tdiv y)))
 |.rem=>some (nz y,.it k (x.tmod y))
 |.and=>some (true,.it k (k.wrap (BitVec.ofInt k.bits x&&&BitVec.ofInt k.bits y).toNat))
 |.or=>some (true,.it k (k.wrap (BitVec.ofInt k.bits x|||BitVec.ofInt k.bits y).toNat))
 |.xor=>some (true,.it k (k.wrap (BitVec.ofInt k.bits x^^^BitVec.ofInt k.bits y).toNat))
 |.andNot=>some (true,.it k (k.wrap (BitVec.ofInt k.bits x&&& ~~~BitVec.ofInt k.bits y).toNat))
 |.eql=>some (true,.bo (x==y))
 |.neq=>some (true,.bo (x !=y))
 |.lss=>some (true,.bo (decide (x<y)))
 |.leq=>some (true,.bo (decide (x<=y)))
 |.gtr=>some (true,.bo (decide (x>y)))
 |.geq=>some (true,.bo (decide (x>=y)))
 |_=>none
def shiftS(op:BinOp)(k:IntKind)(x y:Int):Option (Bool×SC):=match op with
 |.shl=>some (decide (0<=y),.it k (k.wrap (x*2^(min y.toNat k.bits))))
 |.shr=>some (decide (0<=y),.it k (x.fdiv (2^(min y.toNat k.bits))))
 |_=>none
def strS(op:BinOp)(x y:List UInt8):Option (Bool×SC):=match op with
 |.add=>some (leB (x.length+y.length) 9223372036854775807,.sg (x++y))
 |.eql=>some (true,.bo (x==y))
 |.neq=>some (true,.bo !(x==y))
 |_=>none
def Vw(op:BinOp)(x y:Bool):Option (Bool×SC):=match op with
 |.eql=>some (true,.bo (x==y))
 |.neq=>some (true,.bo !(x==y))
 |_=>none
def VY(ty:TyT)(t:TypeId):Bool:=match ty t with
 |some (i,_)=>match i.kind with|.ptr _=>true|_=>false
 |none=>false
def isBoolK(ty:TyT)(t:TypeId):Bool:=match ty t with
 |some (i,_)=>match i.kind with|.bool=>true|_=>false
 |none=>false
def cellEqS:EK->SC->SC->Option Bool
 |.bool,.bo a,.bo b=>some (a==b)
 |.int,.it k a,.it k' b=>match Yf k k' with|true=>some (a==b)|false=>none
 |.str,.sg a,.sg b=>some (a==b)
 |_,_,_=>none
def eqAllS:List EK->List SC->List SC->Option Bool
 |[],[],[]=>some true
 |k::ks,a::as,b::bs=>match cellEqS k a b,eqAllS ks as bs with
  |some x,some y=>some (x&&y)
  |_,_=>none
 |_,_,_=>none
def binS(ty:TyT)(op:BinOp)(xT:TypeId)(x y:SV):Option (Bool×SC):=match x,y with
 |.c (.it k a),.c (.it k' b)=>match WX op with
  |true=>shiftS op k a b
  |false=>match Yf k k' with|true=>intS op k a b|false=>none
 |.c (.sg a),.c (.sg b)=>strS op a b
 |.c (.bo a),.c (.bo b)=>match isBoolK ty xT with|true=>Vw op a b|false=>none
 |.c (.ptr _ _),.c .np|.c (.el ..),.c .np|.c (.ip ..),.c .np|.c (.iel ..),.c .np=>match VY ty xT with|true=>Vw op false true|false=>none
 |.c .np,.c .np=>match VY ty xT with|true=>Vw op true true|false=>none
 |.agg xs,.agg ys=>match ty xT with
  |some (i,_)=>match i.eqs with
   |some ks=>match eqAllS ks xs ys with
    |some c=>Vw op c true
    |none=>none
   |none=>none
  |none=>none
 |_,_=>none
def unS(op:UnOp)(x:SV):Option SC:=match op,x with
 |.not,.c (.bo b)=>some (.bo !b)
 |.neg,.c (.it k n)=>some (.it k (k.wrap (0 - n)))
 |.xor,.c (.it k n)=>(intS .xor k (if k.signed then -1 else k.max) n).map (·.2)
 |_,_=>none
def convS(ty:TyT)(src dst:TypeId)(x:SV):Option SC:=match ty src,ty dst,x with
 |some _,some (j,_),.c (.it _ n)=>match j.kind with
  |.int k=>some (.it k (k.wrap n))
  |.string=>some (.sg (utf n))
  |_=>none
 |some _,some (j,_),.c (.sg s)=>match j.kind with
  |.string=>some (.sg s)
  |_=>none
 |_,_,_=>none
def offS(off:Nat):SC->Option SC
 |.ptr id o=>some (.ptr id (o+off))
 |.el id ep es i o=>some (.el id ep es i (o+off))
 |.ip c x o=>some (.ip c x (o+off))
 |.iel c xs i o=>some (.iel c xs i (o+off))
 |_=>none
def Kt(ty:TyT)(t:TypeId)(x:SV)(f:Nat):Option SC:=match ty t with
 |some (i,_)=>match i.kind,x with
  |.struct fs,.c x=>match fs[f]? with
   |some (off,ft)=>match ty ft with
    |some (j,_)=>match Nat.blt 0 j.size with|true=>offS off x|false=>none
    |none=>none
   |none=>none
  |_,_=>none
 |none=>none
def VK(j:JD)(cs:List SC)(off:Nat):Option SV:=match j.isAgg with
 |true=>match Nat.ble (off+j.size) cs.length with|true=>some (.agg ((cs.drop off).take j.size))|false=>none
 |false=>match cs[off]? with|some c=>some (.c c)|none=>none
def fieldS(ty:TyT)(t:TypeId)(x:SV)(f:Nat):Option SV:=match ty t with
 |some (i,_)=>match i.kind,x with
  |.struct fs,.agg cs=>match fs[f]? with
   |some (off,ft)=>match ty ft with
    |some (j,_)=>VK j cs off
    |none=>none
   |none=>none
  |_,_=>none
 |none=>none
def Kq:SV->Option Int
 |.c (.it _ n)=>some n
 |_=>none
def Kr(ty:TyT)(t:TypeId)(x i:SV):Option (Bool×SC):=match ty t,Kq i with
 |some (inf,_),some n=>match inf.kind with
  |.slice e=>match ty e with
   |some (j,_)=>match x with
    |.c (.sl id ep es lo len _)=>match Nat.beq es j.size with|true=>some (inR n len,.el id ep es (lo+n.toNat) 0)|false=>none
    |.c (.arr c xs _)=>match Nat.beq c.size j.size with|true=>some (inR n xs.length,.iel c xs n.toNat 0)|false=>none
    |.c .nils=>some (false,.junk)
    |_=>none
   |none=>none
  |.array len e=>match ty e with
   |some (j,_)=>match x with
    |.c (.ptr id o)=>some (inR n len,.ptr id (o+n.toNat*j.size))
    |.c (.ip c x o)=>some (inR n len,.ip c x (o+n.toNat*j.size))
    |.c (.el id ep es k o)=>some (inR n len,.el id ep es k (o+n.toNat*j.size))
    |.c (.iel c xs k o)=>some (inR n len,.iel c xs k (o+n.toNat*j.size))
    |_=>none
   |none=>none
  |_=>none
 |_,_=>none
def byteAt(s:List UInt8)(n:Nat):Int:=((s[n]?).getD 0).toNat
def indexS(ty:TyT)(t:TypeId)(x i:SV):Option (Bool×SV):=match ty t,Kq i with
 |some (inf,_),some n=>match inf.kind,x with
  |.array len e,.agg cs=>match ty e with
   |some (j,some c)=>match Nat.beq j.size c.size,encL true c len cs with
    |true,some xs=>(VK j (c.view ((xs[n.toNat]?).getD c.X8)) 0).map λv=>(inR n len,v)
    |_,_=>(VK j cs (n.toNat*j.size)).map λv=>(inR n len,v)
   |some (j,none)=>(VK j cs (n.toNat*j.size)).map λv=>(inR n len,v)
   |none=>none
  |.string,.c (.sg s)=>some (inR n s.length,.c (.it .u8 (byteAt s n.toNat)))
  |_,_=>none
 |_,_=>none
def Vh(x:SV)(i:Nat):Option SV:=match x with
 |.tup xs=>match xs[i]? with
  |some (.inl c)=>some (.c c)
  |some (.inr cs)=>some (.agg cs)
  |none=>none
 |_=>none
def Zy(i:JD)(cs:List SC):Option SV:=match i.isAgg with
 |true=>match Nat.ble i.size cs.length with|true=>some (.agg (cs.take i.size))|false=>none
 |false=>match cs with|c::_=>some (.c c)|[]=>none
def loadS(M:SH)(i:JD)(a:SC):Option (Bool×SV):=match a with
 |.ptr id off=>match M[id]? with
  |some (.st cs _ ep)=>match Nat.beq ep 0 with|true=>(Zy i (cs.drop off)).map λv=>(true,v)|false=>none
  |_=>none
 |.el id ep es k off=>match M[id]? with
  |some (.arr c xs ep')=>match Nat.beq ep' ep,Nat.beq es c.size with
   |true,true=>match Nat.ble (off+i.size) c.size with
    |true=>(Zy i ((c.view ((xs[k]?).getD c.X8)).drop off)).map λv=>(decide (k<xs.length),v)
    |false=>none
   |_,_=>none
  |some (.st cs es' ep')=>match Nat.beq ep' ep,Nat.beq es es' with
   |true,true=>(Zy i (cs.drop (k*es+off))).map λv=>(true,v)
   |_,_=>none
  |some (.opn c xs cs _ ep')=>match Nat.beq ep' ep,Nat.beq es c.size,Nat.ble (off+i.size) cs.length with
   |true,true,true=>(Zy i (cs.drop off)).map λv=>(eqN k xs.length,v)
   |_,_,_=>none
  |_=>none
 |.ip c x off=>match Nat.ble (off+i.size) c.size with
  |true=>(Zy i ((c.view x).drop off)).map λv=>(true,v)
  |false=>none
 |.iel c xs k off=>match Nat.ble (off+i.size) c.size with
  |true=>(Zy i ((c.view ((xs[k]?).getD c.X8)).drop off)).map λv=>(true,v)
  |false=>none
 |_=>none
def Z0(cs:List SC)(off:Nat)(xs:List SC):List SC:=cs.take off++xs++cs.drop (off+xs.length)
def storeS(ex:Bool)(M:SH)(i:JD)(a:SC)(v:SV):Option (Bool×SH):=match v.flat,Nat.beq v.cells.length i.size with
 |true,true=>match a with
  |.ptr id off=>match M[id]? with
   |some (.st cs es ep)=>match Nat.beq ep 0,Nat.ble (off+i.size) cs.length with
    |true,true=>some (true,M.set id (.st (Z0 cs off v.cells) es ep))
    |_,_=>none
   |_=>none
  |.el id ep es k off=>match M[id]? with
   |some (.arr c xs ep')=>match Nat.beq ep' ep,Nat.beq es c.size,Nat.ble (off+i.size) c.size with
    |true,true,true=>match Nat.beq off 0,Nat.beq i.size c.size with
     |true,true=>match c.enc ex v.cells with
      |some y=>some (decide (k<xs.length),M.set id (.arr c (xs.set k y) ep'))
      |none=>some (decide (k<xs.length),M.set id (.opn c (xs.take k) v.cells (xs.drop (k+1)) ep'))
     |_,_=>match c.enc ex (Z0 (c.view ((xs[k]?).getD c.X8)) off v.cells) with
      |some y=>some (decide (k<xs.length),M.set id (.arr c (xs.set k y) ep'))
      |none=>some (decide (k<xs.length),M.set id (.opn c (xs.take k) (Z0 (c.view ((xs[k]?).getD c.X8)) off v.cells) (xs.drop (k+1)) ep'))
    |_,_,_=>none
   |some (.st cs es' ep')=>match Nat.beq ep' ep,Nat.beq es es',Nat.ble (k*es+off+i.size) cs.length with
    |true,true,true=>some (true,M.set id (.st (Z0 cs (k*es+off) v.cells) es' ep'))
    |_,_,_=>none
   |some (.opn c xs cs ys ep')=>match Nat.beq ep' ep,Nat.beq es c.size,Nat.ble (off+i.size) cs.length with
    |true,true,true=>some (eqN k xs.length,M.set id (.opn c xs (Z0 cs off v.cells) ys ep'))
    |_,_,_=>none
   |_=>none
  |_=>none
 |_,_=>none
def zeroS(i:JD):Option (List SC):=match i.zero with
 |some z=>Jj V6 z
 |none=>none
def Vf(place:Nat->Option (Nat×Nat)):List (Nat×SV)->List SC->Option (List SC)
 |[],cs=>some cs
 |(i,v)::rest,cs=>match place i with
  |some (off,size)=>match v.flat,Nat.beq v.cells.length size,Nat.ble (off+size) cs.length with
   |true,true,true=>Vf place rest (Z0 cs off v.cells)
   |_,_,_=>none
  |none=>none
def WK(ty:TyT):List (Nat×TypeId)->Option (List (Nat×Nat))
 |[]=>some []
 |(off,t)::rest=>match ty t,WK ty rest with
  |some (i,_),some ps=>some ((off,i.size)::ps)
  |_,_=>none
def buildS(ty:TyT)(t:TypeId)(ps:List (Nat×SV)):Option SV:=match ty t with
 |some (i,_)=>match zeroS i,i.kind with
  |some z,.struct fs=>match WK ty fs with
   |some places=>(Vf (λn=>places[n]?) ps z).map .agg
   |none=>none
  |some z,.array _ e=>match ty e with
   |some (j,_)=>(Vf (λn=>some (n*j.size,j.size)) ps z).map .agg
   |none=>none
  |_,_=>none
 |none=>none
def replS:Nat->List SC->List SC
 |0,_=>[]
 |n+1,z=>z++replS n z
def SC.isT:SC->Bool
 |.ptr .. |.el .. |.sl .. |.clo .. =>false
 |_=>true
def Zv:List SC->Bool
 |[]=>true
 |c::l=>match c.isT with|true=>Zv l|false=>false
def Z8(b ex:Bool)(ty:TyT)(M:SH)(t:TypeId)(n:Nat)(ps:List (Nat×SV)):Option (SV×SH):=match ty t with
 |some (i,_)=>match i.kind with
   |.slice e=>match ty e with
     |some (j,c?)=>match zeroS j with
       |some z=>match Nat.beq j.size z.length,Nat.blt 0 j.size,Nat.ble (n*j.size) 1000 with
         |true,true,true=>match Vf (λm=>some (m*j.size,j.size)) ps (replS n z) with
           |some cs=>match b with
            |true=>match c?,Zv cs with
             |some c,true=>match encL true c n cs,Nat.beq c.size j.size with
               |some xs,true=>some (.c (.sl M.length 0 j.size 0 n (some n)),M++[.arr c xs 0])
               |_,_=>none
             |_,_=>none
            |false=>match Zv cs with
             |true=>match n with
               |0=>match cs with
                 |[]=>some (.c .nils,M)
                 |_::_=>none
               |_+1=>match c? with
                 |some c=>match encL ex c n cs with
                   |some xs=>some (.c (.arr c xs (some n)),M)
                   |none=>none
                 |none=>none
             |false=>some (.c (.sl M.length 0 j.size 0 n (some n)),M++[.st cs j.size 0])
           |none=>none
         |_,_,_=>none
       |none=>none
     |none=>none
   |_=>none
 |none=>none
def ZZ(ty:TyT)(M:SH)(t:TypeId)(l c:SV):Option (Bool×SV×SH):=match ty t,Kq l,Kq c with
 |some (i,_),some n,some m=>match i.kind with
  |.slice e=>match ty e with
   |some (j,some lay)=>match j.zero with
    |some z=>some (decide (0<=n)&&decide (n<=m)&&decide (m*j.bytes<=281474976710656)&&decide (m<=9223372036854775807),
      .c (.sl M.length 0 j.size 0 n.toNat (some m.toNat)),M++[.zer z lay m.toNat])
    |none=>none
   |_=>none
  |_=>none
 |_,_,_=>none
def lenS(x:SV):Option Nat:=match x with
 |.c (.sl _ _ _ _ n _)=>some n
 |.c (.arr _ xs _)=>some xs.length
 |.c .nils=>some 0
 |.c (.sg s)=>some s.length
 |_=>none
def Xo(x:Option SV)(X8 top:Nat):Option (Bool×Nat):=match x with
 |none=>some (true,X8)
 |some v=>match Kq v with
  |some n=>some (decide (0<=n)&&decide (n<=top),n.toNat)
  |none=>none
def sliceS(ty:TyT)(M:SH)(t:TypeId)(x:SV)(lo hi mx:Option SV):Option (Bool×SV):=match ty t with
 |some (i,_)=>match i.kind,x,mx with
  |.string,.c (.sg s),none=>match Xo hi s.length s.length with
   |some (p,h)=>match Xo lo 0 h with
    |some (q,l)=>some (p&&q,.c (.sg ((s.drop l).take (h - l))))
    |none=>none
   |none=>none
  |.slice e,.c (.sl id ep es l0 len cap),none=>match ty e with
   |some (j,_)=>match (match M[id]? with|some (.arr c _ ep')=>Nat.beq ep' ep&&Nat.beq c.size es|some (.st _ es' ep')=>Nat.beq ep' ep&&Nat.beq es' es|some (.zer _ c _)=>Nat.beq ep 0&&Nat.beq c.size es|some (.opn c _ _ _ ep')=>Nat.beq ep' ep&&Nat.beq c.size es|none=>false),Nat.beq es j.size with
    |true,true=>match Xo hi len (cap.getD len) with
     |some (p,h)=>match cap with
      |some c=>match lo with
       |none=>some (p,.c (.sl id ep es l0 h (some c)))
       |some _=>match Xo lo 0 h with
        |some (q,l)=>some (p&&q,.c (.sl id ep es (bif eqN c l then l0 else l0+l) (h - l) (some (c - l))))
        |none=>none
      |none=>match Xo lo 0 h with
       |some (q,l)=>some (p&&q&&(decide (l<len)||eqN l 0),.c (.sl id ep es (l0+l) (h - l) none))
       |none=>none
     |none=>none
    |_,_=>none
   |none=>none
  |.slice e,.c (.sl id ep es l0 len cap),some m=>match ty e with
   |some (j,_)=>match (match M[id]? with|some (.arr c _ ep')=>Nat.beq ep' ep&&Nat.beq c.size es|some (.st _ es' ep')=>Nat.beq ep' ep&&Nat.beq es' es|some (.zer _ c _)=>Nat.beq ep 0&&Nat.beq c.size es|some (.opn c _ _ _ ep')=>Nat.beq ep' ep&&Nat.beq c.size es|none=>false),Nat.beq es j.size,lo with
    |true,true,none=>match Xo (some m) 0 (cap.getD len) with
     |some (o,m)=>match hi with
      |some hi=>match Xo (some hi) 0 m with
       |some (p,h)=>some (o&&p,.c (.sl id ep es l0 h (some m)))
       |none=>none
      |none=>none
     |none=>none
    |_,_,_=>none
   |none=>none
  |.slice e,.c (.arr c xs cap),none=>match ty e with
   |some (j,_)=>match Nat.beq c.size j.size with
    |true=>match Xo hi xs.length xs.length with
     |some (p,h)=>match Xo lo 0 h with
      |some (q,l)=>some (p&&q,.c (.arr c ((xs.drop l).take (h - l)) (cap.map (· - l))))
      |none=>none
     |none=>none
    |false=>none
   |none=>none
  |.slice e,.c (.arr c xs _),some m=>match ty e with
   |some (j,_)=>match Nat.beq c.size j.size,Xo (some m) 0 xs.length with
    |true,some (o,m)=>match hi with
     |some hi=>match Xo (some hi) 0 m with
      |some (p,h)=>match Xo lo 0 h with
       |some (q,l)=>some (o&&p&&q,.c (.arr c ((xs.drop l).take (h - l)) (some (m - l))))
       |none=>none
      |none=>none
     |none=>none
    |_,_=>none
   |none=>none
  |_,_,_=>none
 |none=>none
def J1(n bytes:Nat):Bool:=leB (n*bytes) 17592186044416&&leB n 17592186044416&&leB bytes 1073741824
def allS(M:SH)(c:Ly)(x:SV):Option (Bool×Nat×List c.ty):=match x with
 |.c (.arr c' xs _)=>if h:c'.beq c=true then some (true,xs.length,Ly.Jq h xs) else none
 |.c .nils=>some (true,0,[])
 |.c (.sg s)=>match c with
  |.int .u8=>some (true,s.length,(s.map λ(b:UInt8)=>(b.toNat:Int)))
  |_=>none
 |.c (.sl id ep es lo len _)=>match M[id]? with
  |some (.arr c' xs ep')=>if h:c'.beq c=true then (match Nat.beq ep' ep,Nat.beq es c.size with
   |true,true=>some (leB (lo+len) xs.length,len,Ly.Jq h ((xs.drop lo).take len))
   |_,_=>none) else none
  |_=>none
 |_=>none
def oneS(M:SH)(c:Ly)(x:SV):Option (List SC):=match x with
 |.c (.sl id ep es lo len _)=>match M[id]? with
  |some (.st cs es' ep')=>match Nat.beq ep' ep,Nat.beq es c.size,Nat.beq cs.length c.size,Nat.beq lo 0,Nat.beq len 1 with
   |true,true,true,true,true=>some cs
   |_,_,_,_,_=>none
  |_=>none
 |_=>none
def appendO(M:SH)(j:JD)(c:Ly)(s:SV)(cs:List SC):Option (Bool×SV×SH):=match s with
 |.c .nils=>some (J1 1 j.bytes,.c (.sl M.length 0 c.size 0 1 none),M++[.opn c [] cs [] 0])
 |.c (.sl id ep es lo len none)=>match M[id]? with
  |some (.arr c' xs ep')=>match Nat.beq ep' ep,Nat.beq es c'.size,c.beq c' with
   |true,true,true=>some (eqN lo 0&&eqN xs.length len&&J1 (len+1) j.bytes,.c (.sl id (ep+1) es 0 (len+1) none),M.set id (.opn c' xs cs [] (ep+1)))
   |_,_,_=>none
  |_=>none
 |.c (.sl id ep es lo len (some cp))=>match M[id]? with
  |some (.arr c' xs ep')=>match Nat.beq ep' ep,Nat.beq es c'.size,c.beq c' with
   |true,true,true=>some (leB (len+1) cp&&leB (lo+cp) xs.length,.c (.sl id ep es lo (len+1) (some cp)),M.set id (.opn c' (xs.take (lo+len)) cs (xs.drop (lo+len+1)) ep'))
   |_,_,_=>none
  |_=>none
 |_=>none
def KG(ex:Bool)(ty:TyT)(M:SH)(t:TypeId)(s x:SV):Option (Bool×SV×SH):=match ty t with
 |some (i,_)=>match i.kind with
  |.slice e=>match ty e with
   |some (j,some c)=>match allS M c x with
    |some (p,m,new)=>match s with
     |.c .nils=>match ex with
      |true=>some (p&&!(eqN m 0)&&J1 m j.bytes,.c (.sl M.length 0 c.size 0 m none),M++[.arr c new 0])
      |false=>some (p&&J1 m j.bytes,.c (.sl M.length 0 c.size 0 m none),M++[.arr c new 0])
     |.c (.arr c3 xs (some cp))=>if h:c3.beq c=true then (match x with
      |.c .nils=>some (p&&eqN cp xs.length&&J1 xs.length j.bytes,.c (.arr c3 xs (some cp)),M)
      |_=>some (p&&eqN cp xs.length&&(!(eqN m 0)||(eqN xs.length 0&&!ex))&&J1 (xs.length+m) j.bytes,.c (.sl M.length 0 c.size 0 (xs.length+m) none),M++[.arr c (Ly.Jq h xs++new) 0])) else none
     |.c (.sl id ep es lo len none)=>match M[id]? with
      |some (.arr c' xs ep')=>if h:c.beq c'=true then (match Nat.beq ep' ep,Nat.beq es c'.size with
       |true,true=>some (p&&eqN lo 0&&eqN xs.length len&&J1 (len+m) j.bytes,.c (.sl id (ep+1) es 0 (len+m) none),M.set id (.arr c' (xs++Ly.Jq h new) (ep+1)))
       |_,_=>none) else none
      |_=>none
     |.c (.sl id ep es lo len (some cp))=>match M[id]? with
      |some (.arr c' xs ep')=>if h:c.beq c'=true then (match Nat.beq ep' ep,Nat.beq es c'.size with
       |true,true=>some (p&&leB (len+m) cp&&leB (lo+cp) xs.length,.c (.sl id ep es lo (len+m) (some cp)),M.set id (.arr c' (xs.take (lo+len)++Ly.Jq h new++xs.drop (lo+len+m)) ep'))
       |_,_=>none) else none
      |_=>none
     |_=>none
    |none=>match oneS M c x with
     |some cs=>appendO M j c s cs
     |none=>none
   |_=>none
  |_=>none
 |none=>none
def copyS(ty:TyT)(M:SH)(t:TypeId)(d s:SV):Option (Bool×SV×SH):=match ty t with
 |some (i,_)=>match i.kind with
  |.slice e=>match ty e with
   |some (j,_)=>match d with
    |.c (.sl id ep es lo len _)=>match M[id]? with
     |some (.arr c xs ep')=>match Nat.beq ep' ep,Nat.beq es c.size,Nat.beq c.size j.size,allS M c s with
      |true,true,true,some (p,m,new)=>some (p&&leB (lo+len) xs.length,.c (.it .i64 ((min m len:Nat):Int)),M.set id (.arr c (xs.take lo++new.take (min m len)++xs.drop (lo+min m len)) ep'))
      |_,_,_,_=>none
     |_=>none
    |_=>none
   |none=>none
  |_=>none
 |none=>none
def Uq(mx:Bool):List SV->Option SC
 |[.c (.it k x),.c (.it k' y)]=>match Yf k k' with
  |true=>some (.it k (match mx with|true=>if y>x then y else x|false=>if y<x then y else x))
  |false=>none
 |_=>none
def Z7(ex:Bool)(ty:TyT)(M:SH)(b:Builtin)(ts:Array TypeId)(args:List SV):Option (Bool×SV×SH):=match b,args with
 |.len,[x]=>match ts[0]? with
  |some t=>match ty t with
   |some (i,_)=>match i.kind with
    |.slice _=>match x with
     |.c (.sg _)=>none
     |x=>(lenS x).map λ(n:Nat)=>(true,.c (.it .i64 (n:Int)),M)
    |.string=>match x with
     |.c (.sg s)=>some (true,.c (.it .i64 (s.length:Int)),M)
     |_=>none
    |.array n _=>some (true,.c (.it .i64 (n:Int)),M)
    |_=>none
   |none=>none
  |none=>none
 |.cap,[x]=>match ts[0]? with
  |some t=>match ty t with
   |some (i,_)=>match i.kind with
    |.slice _=>match x with
     |.c (.sl id ep _ _ _ (some c))=>match M[id]? with
      |some (.arr _ _ ep')=>match Nat.beq ep' ep with|true=>some (true,.c (.it .i64 (c:Int)),M)|false=>none
      |some (.st _ _ ep')=>match Nat.beq ep' ep with|true=>some (true,.c (.it .i64 (c:Int)),M)|false=>none
      |_=>none
     |.c (.arr _ _ (some c))=>some (true,.c (.it .i64 (c:Int)),M)
     |.c .nils=>some (true,.c (.it .i64 0),M)
     |_=>none
    |_=>none
   |none=>none
  |none=>none
 |.append,[s,x]=>match ts[0]?,ts[1]? with
  |some t,some u=>match ty u with
   |some (i,_)=>match i.kind with
    |.slice _=>KG ex ty M t s x
    |.string=>KG ex ty M t s x
    |_=>none
   |none=>none
  |_,_=>none
 |.copy,[d,s]=>match ts[0]? with
  |some t=>copyS ty M t d s
  |none=>none
 |.min,l=>(Uq false l).map λv=>(true,.c v,M)
 |.max,l=>(Uq true l).map λv=>(true,.c v,M)
 |_,_=>none
def refsS:List SV->Option (List Ref)
 |[]=>some []
 |.c (.ptr id off)::rest=>(refsS rest).map (⟨id,0,off⟩::·)
 |_::_=>none
def mergeC(b:Bool):SC->SC->Option SC
 |.bo x,.bo y=>some (.bo (bif b then x else y))
 |.it k x,.it k' y=>match Yf k k' with|true=>some (.it k (bif b then x else y))|false=>none
 |.sg x,.sg y=>some (.sg (bif b then x else y))
 |.np,.np=>some .np
 |.nf,.nf=>some .nf
 |.nils,.nils=>some .nils
 |.junk,.junk=>some .junk
 |.arr c xs none,.arr c' ys none=>if h:c'.beq c=true then some (.arr c (bif b then xs else Ly.Jq h ys) none) else none
 |.ptr id o,.ptr id' o'=>match Nat.beq id id',Nat.beq o o' with|true,true=>some (.ptr id o)|_,_=>none
 |.sl id ep es lo len none,.sl id' ep' es' lo' len' none=>match Nat.beq id id',Nat.beq ep ep',Nat.beq es es' with
  |true,true,true=>some (.sl id ep es (bif b then lo else lo') (bif b then len else len') none)
  |_,_,_=>none
 |.sl id ep es lo len (some c),.sl id' ep' es' lo' len' (some c')=>match Nat.beq id id',Nat.beq ep ep',Nat.beq es es' with
  |true,true,true=>some (.sl id ep es (bif b then lo else lo') (bif b then len else len') (some (bif b then c else c')))
  |_,_,_=>none
 |.fn f,.fn g=>match Nat.beq f g with|true=>some (.fn f)|false=>none
 |_,_=>none
def WQ(b:Bool):List SC->List SC->Option (List SC)
 |[],[]=>some []
 |x::xs,y::ys=>match mergeC b x y,WQ b xs ys with
  |some z,some zs=>some (z::zs)
  |_,_=>none
 |_,_=>none
def mergeV(b:Bool):SV->SV->Option SV
 |.c x,.c y=>(mergeC b x y).map .c
 |.agg x,.agg y=>(WQ b x y).map .agg
 |_,_=>none
def tagOf(c:Operand)(w:Bool)(L:Tg):Tg:=match c with|.tmp k=>(k,w)::L|_=>L
def opS(ex:Bool)(ty:TyT)(r:SR)(L:Tg)(M:SH):Op->Option (Bool×Option SV×SH)
 |.move x|.assign x=>(evS r L x).map λv=>(true,some v,M)
 |.pick c a b=>match evS r L c with
  |some (.c (.bo t))=>match evS r (tagOf c true L) a,evS r (tagOf c false L) b with
   |some x,some y=>(mergeV t x y).map λv=>(true,some v,M)
   |_,_=>none
  |_=>none
 |.alloc e=>match ty e with
  |some (i,_)=>match zeroS i with
   |some z=>some (true,some (.c (.ptr M.length 0)),M++[.st z 1 0])
   |none=>none
  |none=>none
 |.box _ x=>match evS r L x with
  |some v=>match v.flat with
   |true=>some (true,some (.c (.ptr M.length 0)),M++[.st v.cells 1 0])
   |false=>none
  |none=>none
 |.build t ps=>match evsS r L ps.toList with
  |some vs=>(buildS ty t vs).map λv=>(true,some v,M)
  |none=>none
 |.buildSlice t n ps=>match evsS r L ps.toList with
  |some vs=>(Z8 (Gl.obj t ps.toList) ex ty M t n vs).map λx=>(true,some x.1,x.2)
  |none=>none
 |.load t a=>match ty t,evS r L a with
  |some (i,_),some (.c v)=>(loadS M i v).map λx=>(x.1,some x.2,M)
  |_,_=>none
 |.store t a x=>match ty t,evS r L a,evS r L x with
  |some (i,_),some (.c v),some u=>(storeS ex M i v u).map λy=>(y.1,none,y.2)
  |_,_,_=>none
 |.nilCheck x=>match evS r L x with
  |some (.c v)=>match v with
   |.ptr .. |.el .. |.ip .. |.iel .. |.fn .. |.clo .. =>some (true,some (.c v),M)
   |_=>none
  |_=>none
 |.binOp op xT x y _=>match JS y with
  |true=>match ty xT with
   |some (i,_)=>match i.kind with
    |.slice _=>match eqOp op,(evS r L x).bind lenS with
     |some ne,some n=>match evS r L x with
      |some (.c (.sg _))=>none
      |_=>some (!(eqN n 0),some (.c (.bo ne)),M)
     |_,_=>none
    |_=>match evS r L x,evS r L y with
     |some u,some v=>(binS ty op xT u v).map λt=>(t.1,some (.c t.2),M)
     |_,_=>none
   |none=>none
  |false=>match evS r L x,evS r L y with
   |some u,some v=>(binS ty op xT u v).map λt=>(t.1,some (.c t.2),M)
   |_,_=>none
 |.unOp op _ x=>match evS r L x with
  |some v=>(unS op v).map λt=>(true,some (.c t),M)
  |none=>none
 |.convert src dst x=>match evS r L x with
  |some v=>(convS ty src dst v).map λt=>(true,some (.c t),M)
  |none=>none
 |.makeFunc (.func f) first caps=>match Nat.beq first.size 0,Ku r L caps.toList with
  |true,some []=>some (true,some (.c (.fn f)),M)
  |true,some (v::vs)=>match Nat.beq f YID||Nat.ble BND f with|true=>none|false=>(refsS (v::vs)).map λrs=>(true,some (.c (.clo f rs)),M)
  |false,some []=>match Nat.beq caps.size 0,Ku r L first.toList with
   |true,some vs=>(refsS vs).map λrs=>(true,some (.c (.clo (BND+f) rs)),M)
   |_,_=>none
  |_,_=>none
 |.makeSlice t l c=>match evS r L l,evS r L c with
  |some u,some v=>(ZZ ty M t u v).map λx=>(x.1,some x.2.1,x.2.2)
  |_,_=>none
 |.slice t x lo hi mx=>match evS r L x,evoS r L lo,evoS r L hi,evoS r L mx with
  |some v,some l,some h,some m=>(sliceS ty M t v l h m).map λu=>(u.1,some u.2,M)
  |_,_,_,_=>none
 |.fieldAddr t x f=>match evS r L x with
  |some v=>(Kt ty t v f).map λu=>(true,some (.c u),M)
  |none=>none
 |.field t x f=>match evS r L x with
  |some v=>(fieldS ty t v f).map λu=>(true,some u,M)
  |none=>none
 |.indexAddr t x i=>match evS r L x,evS r L i with
  |some v,some n=>(Kr ty t v n).map λu=>(u.1,some (.c u.2),M)
  |_,_=>none
 |.index t x i=>match evS r L x,evS r L i with
  |some v,some n=>(indexS ty t v n).map λu=>(u.1,some u.2,M)
  |_,_=>none
 |.extract x i=>match evS r L x with
  |some v=>(Vh v i).map λu=>(true,some u,M)
  |none=>none
 |.call { callee:=.builtin b,args,argTypes }=>match Ku r L args.toList with
  |some vs=>(Z7 ex ty M b argTypes vs).map λx=>(x.1,some x.2.1,x.2.2)
  |none=>none
 |_=>none
end Go.Abs
