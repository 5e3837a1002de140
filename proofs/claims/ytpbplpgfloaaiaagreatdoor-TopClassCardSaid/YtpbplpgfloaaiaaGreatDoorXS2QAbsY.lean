/- A part of the proof. -/
import Derived.Test.YtpbplpgfloaaiaaGreatDoorXS2QAbsX
import Derived.ProofKit
set_option linter.all false
namespace Go.Abs
variable [Gl]
open Go.ChangeShapes Go.WideShapes
section
variable {P:Program}{H:Type}{enc:TypeId×Value->H}
def KM(hl:laidOutB P=true){W W':World}(hsame:∀b,b<W.heap.size->W'.heap[b]? =W.heap[b]?){sp':Nat->Bool}:
  ∀{ts:List TypeId} {vs:List Value} {ds:List (DataW H)} {ps:List MemPlace},(∀t∈ts,P.readableRec t=true/\t<P.types.size)->DataW.TrodAll enc P W 0 (λ_=>true) true ts vs ds ps->
   (∀p∈ps,p.block<W.heap.size)->(∀p∈ps,sp' p.block=true)->DataW.TrodAll enc P W' 0 sp' true ts vs ds ps
 |[],_,_,_,_,h,_,_=>by obtain⟨rfl,rfl,rfl⟩:=trodAll_nil h;exact rfl
 |t::ts,_,_,_,ht,h,hlt,hsp=>by
  obtain⟨v,vs1,d,ds1,a,b,rfl,rfl,rfl,h1,h2⟩:=trodAll_cons h;refine⟨a,b,WideElems.Trod_stays hl (ht t (by simp)).1 (ht t (by simp)).2 h1 (λp hp=> ?_) (λp hp=>hsp p (by simp[hp])),KM hl hsame (λt' h'=>ht t' (by simp[h'])) h2 (λp hp=>hlt p (by simp[hp])) (λp hp=>hsp p (by simp[hp])),rfl⟩;have hb:=hsame p.block (hlt p (by simp[hp]))
  cases p with
  |cell b off=>exact XY hb off
  |map b=>exact hb
def kept_same{W W':World}(hos:W'.os=W.os)(hout:W'.output=W.output)(hsame:∀b,b<W.heap.size->W'.heap[b]? =W.heap[b]?)(may:MemPlace->Prop):W.keptBut W' may:=by
 refine⟨hos,hout,λi hi=> ?_⟩;rw[hsame i hi]
 cases h:W.heap[i]? with
 |none=>trivial
 |some o=>
  cases o with
  |cells c t fr=>exact⟨rfl,rfl,rfl,λ_ _=>rfl⟩
  |map es cl=>exact .inr ⟨rfl,rfl⟩
  |_=>rfl
def post_true(hl:laidOutB P=true){f:Func}{s:ChangeSpec}{apart fresh handsOn again:Bool}{W W':World}{args:Array Value}{ds gs:List (DataW H)}{before:List MemPlace}
  (ht:∀t∈f.params.toList,P.readableRec t=true/\t<P.types.size) (hv:s.vars=[]) {tb:TypeId} (hr:f.resultTypes= #[tb]) (htb:P.underlying tb=some .bool)
  (hs:s.fn H (ds++[])={ results:=[.lit (.bool true)],args:=ds })
  (hW:DataW.Whole enc P f.params.toList s.vars apart W args.toList ds gs before)
  (hsame:∀b,b<W.heap.size->W'.heap[b]? =W.heap[b]?) (hos:W'.os=W.os) (hout:W'.output=W.output):
  s.post enc P f apart fresh handsOn again W args (.bool true) W':=by
 have hsp:=hs;have hlt:=hW.lt;have hW':=hW;obtain⟨pa,pv,hA,hV,hps,hz,hn⟩:=hW;have hV':=hV;rw[hv]at hV;obtain⟨rfl,rfl⟩:=trodVars_none hV;have hold:∀p∈before,(λb=>decide (b<W.heap.size)) p.block=true:=λp hp=>by simpa using hlt p hp
 have hpa:∀p∈pa,p.block<W.heap.size:=λp hp=>hlt p (by rw[hps];simp[hp]);have hargs:∀sp:Nat->Bool,(∀p∈before,sp p.block=true)->DataW.TrodAll enc P W' 0 sp true f.params.toList args.toList (s.fn H (ds++[])).args pa:=λsp h=>by rw[hsp];exact KM hl hsame ht hA hpa λp hp=>h p (by rw[hps];simp[hp])
 have hres:∀(b:Nat) (sp:Nat->Bool) (hd:Bool),DataW.TrodAll enc P W' b sp hd f.resultTypes.toList ((Value.bool true).resultList f.resultTypes.size) (s.fn H (ds++[])).results []:=λb sp hd=>by rw[hsp,hr];exact trodAll_mk1 (RowKit.shut_bool htb true)
 have hfz:∀p∈before,∀b off,p=.cell b off->W'.frozen? ⟨b,off,none⟩=W.frozen? ⟨b,off,none⟩:=λp hp b off e=>by have:=hsame b (by have:=hlt p hp;rw[e]at this;exact this);simp only[World.frozen?,this]
 have hvars:∀sp:Nat->Bool,DataW.TrodVars enc P W' sp s.vars (s.fn H (ds++[])).vars []:=λsp=>by rw[hsp,hv];rfl
 refine⟨ds,[],before,[],pa,[],hW',hres _ _ _,hargs _ hold,hvars _,kept_same hos hout hsame _,λ_=> ?_⟩;refine⟨λj t r h1 h2=> ?_,_,_,([]++pa)++[],⟨[]++pa,[],trodAll_append (hargs _ (λ_ _=>rfl)) (hres _ _ _),hvars _,rfl,?_,?_⟩,?_⟩
 ·rw[hr]at h1 h2
  cases j with
  |zero=>simp at h1;subst h1;have:r=.bool true:=(by simpa [Value.resultList] using h2.symm);subst this;simp[Value.okWide,htb,Cell.okWide,Cell.ok]
  |succ j=>simp at h1
 ·intro b off hp;have hp':MemPlace.cell b off∈before:=(by rw[hps];simpa using hp);rw[hfz _ hp' b off rfl];exact hz b off hp'
 ·intro ha;have:=hn ha;rw[hps]at this;simpa using this
 ·intro p hp _;rw[hps];simpa using hp
end
end Go.Abs
