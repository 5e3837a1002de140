/- A part of the proof. -/
import Derived.Test.YtpbplpgfloaaiaaGreatDoorXS2QSyK
set_option linter.all false
namespace Go.Abs
variable [Gl]
section
variable {H:Type}{enc:TypeId×Value->H}{P:Program}{W:World}{sp:Nat->Bool}
def arg_aggW{c:Ly}{t:TypeId}{v:Value}{d:DataW H}{p:List MemPlace}(hs:(∃fs,P.underlying t=some (.struct fs))\/∃n e,P.underlying t=some (.array n e))(h:TyO P c t)(hv:Value.okWide P W .any 0 t v)(ht:DataW.Trod enc P W 0 sp true t v d p):
  ∃x:c.ty,c.inr x/\((∀n∈d.weights P t,n<=reachBytes)->c.inw x)/\VR Qd W (.agg ((c.trees x).map Cell.t)) v:=by
 have hv:∃cs,v=.agg cs:=by
  unfold Value.okWide at hv;rcases hs with ⟨fs,hs⟩|⟨n,e,hs⟩
  ·rw[hs]at hv;obtain⟨cs,h,_⟩:=hv;exact⟨cs,h⟩
  ·rw[hs]at hv;obtain⟨cs,h,_⟩:=hv;exact⟨cs,h⟩
 obtain⟨cs,rfl⟩:=hv;obtain⟨n,hn⟩:=ht;obtain⟨x,h1,h2,h2'⟩:=TyO.down (U:=Qd.un) Jx h hn;refine⟨x,h2,h2',cs,rfl,?_,λi hi=> ?_⟩
 ·have:=h1.1;simpa [Value.cells] using this
 ·simp only[AE]at hi;obtain⟨u,h3,h4⟩:=h1.2 i hi;refine⟨u,by simpa [Value.cells] using h3,?_⟩;rw[AP];exact h4
def arg_agg{c:Ly}{t:TypeId}{v:Value}{d:DataW H}{p:List MemPlace}(hs:∃fs,P.underlying t=some (.struct fs))(h:TyO P c t)(hv:Value.okWide P W .any 0 t v)(ht:DataW.Trod enc P W 0 sp true t v d p):
  ∃x:c.ty,c.inr x/\VR Qd W (.agg ((c.trees x).map Cell.t)) v:=by
 obtain⟨x,h1,_,h2⟩:=arg_aggW (.inl hs) h hv ht;exact⟨x,h1,h2⟩
def arg_one{c:Ly}{t:TypeId}{v:Value}{d:DataW H}{p:List MemPlace}(hs:(∀fs,P.underlying t≠some (.struct fs))/\∀n e,P.underlying t≠some (.array n e))(h:TyO P c t)(hv:Value.okWide P W .any 0 t v)(ht:DataW.Trod enc P W 0 sp true t v d p):
  ∃x:c.ty,c.inr x/\∃tr,c.trees x=[tr]/\VR Qd W (.c (.t tr)) v:=by
 have hc:v.cells.toList=[v]:=by
  cases v with
  |agg cs=>
   exfalso
   cases h with
   |int h=>simp[Value.okWide,Cell.okWide,Cell.ok,h]at hv
   |bool h=>simp[Value.okWide,Cell.okWide,Cell.ok,h]at hv
   |str h=>simp[Value.okWide,Cell.okWide,Cell.ok,h]at hv
   |sl h=>simp[Value.okWide,Cell.okWide,Cell.ok,h]at hv
   |st h=>exact hs.1 _ h
   |ar2 h=>exact hs.2 _ _ h
   |ar h=>exact hs.2 _ _ h
  |_=>rfl
 obtain⟨n,hn⟩:=ht;rw[hc]at hn;obtain⟨x,h1,h2,_⟩:=TyO.down (U:=Qd.un) Jx h hn;obtain⟨h3,h4⟩:=h1
 match hx:c.trees x,h3 with
 |[tr],_=>simp only[hx]at h4;obtain⟨u,h5,h6⟩:=h4 0 (by simp);simp at h5;subst h5;exact⟨x,h2,tr,hx,h6⟩
end
def tyFB(P:Program)(rec:Ly->TypeId->Bool):Ly->List Field->Nat->Bool
 |c,[f],off=>f.offset==off&&(P.cellsOf f.type==c.size&&rec c f.type)
 |.pair a b,f::g::fs,off=>f.offset==off&&(P.cellsOf f.type==a.size&&(rec a f.type&&tyFB P rec b (g::fs) (off+a.size)))
 |_,_,_=>false
def lyB:Ly->Ly->Bool
 |.int k,.int k'=>Yf k k'
 |.bool,.bool=>true
 |.str,.str=>true
 |.sl a,.sl b=>lyB a b
 |.pair a b,.pair c d=>lyB a c&&lyB b d
 |_,_=>false
def VX:∀{a b:Ly},lyB a b=true->a=b
 |.int k,.int k',h=>by rw[Jm h]
 |.bool,.bool,_=>rfl
 |.str,.str,_=>rfl
 |.sl a,.sl b,h=>by rw[VX (a:=a) (b:=b) h]
 |.pair a b,.pair c d,h=>by rw[lyB,AJ]at h;rw[VX h.1,VX h.2]
 |.int _,.bool,h|.int _,.str,h|.int _,.sl _,h|.int _,.pair _ _,h|.bool,.int _,h|.bool,.str,h|.bool,.sl _,h|.bool,.pair _ _,h|.str,.int _,h|.str,.bool,h|.str,.sl _,h|.str,.pair _ _,h|.sl _,.int _,h|.sl _,.bool,h|.sl _,.str,h|.sl _,.pair _ _,h|.pair _ _,.int _,h|.pair _ _,.bool,h|.pair _ _,.str,h|.pair _ _,.sl _,h=>by cases h
def tyB(P:Program):Nat->Ly->TypeId->Bool
 |0,_,_=>false
 |n+1,c,t=>match P.underlying t with
  |some (.int k)=>match c with|.int k'=>Yf k k'|_=>false
  |some .bool=>match c with|.bool=>true|_=>false
  |some .string=>match c with|.str=>true|_=>false
  |some (.slice e)=>match c with|.sl c'=>(P.cellsOf e==c'.size&&Nat.blt 0 (P.bytesOf e))&&tyB P n c' e|_=>false
  |some (.array k e)=>match c with|.pair a b=>((Nat.beq k 2&&P.cellsOf e==a.size&&P.cellsOf t==a.size+a.size&&lyB a b)||(P.cellsOf e==a.size&&P.cellsOf t==(k - 1+1)*a.size&&Nat.beq k (k - 1+1)&&lyB (.pair a b) (arL a (k - 1))))&&tyB P n a e|_=>false
  |some (.struct fs)=>P.cellsOf t==c.size&&tyFB P (tyB P n) c fs.toList 0
  |_=>false
def tyFB_ok{P:Program}{rec:Ly->TypeId->Bool}(hr:∀c t,rec c t=true->TyO P c t):∀{c:Ly} {fs:List Field} {off:Nat},tyFB P rec c fs off=true->TyF P c fs off:=by
 intro c fs off h
 induction fs generalizing c off with
 |nil=>cases c<;>cases h
 |cons f fs ih=>
  cases fs with
  |nil=>have h':(f.offset==off&&(P.cellsOf f.type==c.size&&rec c f.type))=true:=(by cases c<;>exact h);simp only[AJ,BU]at h';exact .one h'.1 h'.2.1 (hr _ _ h'.2.2)
  |cons g fs=>
   cases c with
   |pair a b=>simp only[tyFB,AJ,BU]at h;exact .cons h.1 h.2.1 (hr _ _ h.2.2.1) (ih h.2.2.2)
   |_=>cases h
def Kd{P:Program}:∀{n:Nat} {c:Ly} {t:TypeId},tyB P n c t=true->TyO P c t
 |0,_,_,h=>by cases h
 |n+1,c,t,h=>by
  simp only[tyB]at h;split at h
  ·rename_i k hk
   cases c with
   |int k'=>exact .int (by rw[hk];rw[Jm h])
   |_=>cases h
  ·rename_i hk
   cases c with
   |bool=>exact .bool hk
   |_=>cases h
  ·rename_i hk
   cases c with
   |str=>exact .str hk
   |_=>cases h
  ·rename_i e hk
   cases c with
   |sl c'=>simp only[AJ,BU]at h;exact .sl hk h.1.1 (BQ h.1.2) (Kd h.2)
   |_=>cases h
  ·rename_i k e hk
   cases c with
   |pair a b=>
    simp only[AJ,Cn,BU]at h;obtain⟨h1|h1,h2⟩:=h
    ·have hk2:k=2:=Bi h1.1.1.1;subst hk2;have e:=VX h1.2;subst e;exact .ar2 hk h1.1.1.2 h1.1.2 (Kd h2)
    ·have e:=VX h1.2;have hk2:k=k - 1+1:=Bi h1.1.2;rw[e];rw[hk2]at hk;exact .ar hk h1.1.1.1 h1.1.1.2 (Kd h2)
   |_=>cases h
  ·rename_i fs hk;simp only[AJ,BU]at h;exact .st hk h.1 (tyFB_ok (λc t h=>Kd h) h.2)
  ·cases h
def isSt(P:Program)(t:TypeId):Bool:=match P.underlying t with|some (.struct _)=>true|_=>false
def isSt_yes{P:Program}{t:TypeId}(h:isSt P t=true):∃fs,P.underlying t=some (.struct fs):=by
 unfold isSt at h;split at h
 ·rename_i fs e;exact⟨fs,e⟩
 ·cases h
def isAr(P:Program)(t:TypeId):Bool:=match P.underlying t with|some (.array _ _)=>true|_=>false
def isAg(P:Program)(t:TypeId):Bool:=isSt P t||isAr P t
def isAg_no{P:Program}{t:TypeId}(h:isAg P t=false):(∀fs,P.underlying t≠some (.struct fs))/\∀n e,P.underlying t≠some (.array n e):=by
 unfold isAg at h;rw[CH]at h;refine⟨λfs e=> ?_,λn e' e=> ?_⟩
 ·have:=h.1;unfold isSt at this;rw[e]at this;cases this
 ·have:=h.2;unfold isAr at this;rw[e]at this;cases this
end Go.Abs
