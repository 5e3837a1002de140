/- A part of the proof. -/
import Derived.Test.YtpbplpgfloaaiaaGreatDoorXS2QSyJ
import Derived.Test.YtpbplpgfloaaiaaGreatDoorXS2QAbsY
import Derived.ProofKit
import Derived.Deep.Slices
import Derived.OpenShut
set_option linter.all false
namespace Go.Abs
variable [Gl]
def Ly.inr:(c:Ly)->c.ty->Prop
 |.int k,n=>(Lit.int k n).wf=true
 |.bool,_=>True
 |.str,(s:List UInt8)=>s.length<=maxLen
 |.sl c,(xs:List c.ty)=>xs.length<=maxLen/\∀x∈xs,c.inr x
 |.pair a b,x=>a.inr x.1/\b.inr x.2
def Ly.inw:(c:Ly)->c.ty->Prop
 |.int _,_=>True
 |.bool,_=>True
 |.str,(s:List UInt8)=>s.length<=reachBytes
 |.sl c,(xs:List c.ty)=>xs.length<=reachBytes/\∀x∈xs,c.inw x
 |.pair a b,x=>a.inw x.1/\b.inw x.2
def arL(c:Ly):Nat->Ly
 |0=>c
 |n+1=>.pair c (arL c n)
mutual
inductive TyO(P:Program):Ly->TypeId->Prop
 |int {t:TypeId} {k:IntKind} (h:P.underlying t=some (.int k)):TyO P (.int k) t
 |bool {t:TypeId} (h:P.underlying t=some .bool):TyO P .bool t
 |str {t:TypeId} (h:P.underlying t=some .string):TyO P .str t
 |sl {t e:TypeId} {c:Ly} (h:P.underlying t=some (.slice e)) (hc:P.cellsOf e=c.size) (hb:0<P.bytesOf e) (he:TyO P c e):TyO P (.sl c) t
 |ar2 {t e:TypeId} {c:Ly} (h:P.underlying t=some (.array 2 e)) (hc:P.cellsOf e=c.size) (hs:P.cellsOf t=c.size+c.size) (he:TyO P c e):TyO P (.pair c c) t
 |ar {t e:TypeId} {c:Ly} {n:Nat} (h:P.underlying t=some (.array (n+1) e)) (hc:P.cellsOf e=c.size) (hs:P.cellsOf t=(n+1)*c.size) (he:TyO P c e):TyO P (arL c n) t
 |st {t:TypeId} {fs:Array Field} {c:Ly} (h:P.underlying t=some (.struct fs)) (hc:P.cellsOf t=c.size) (hf:TyF P c fs.toList 0):TyO P c t
inductive TyF(P:Program):Ly->List Field->Nat->Prop
 |one {c:Ly} {f:Field} {off:Nat} (ho:f.offset=off) (hc:P.cellsOf f.type=c.size) (h:TyO P c f.type):TyF P c [f] off
 |cons {a b:Ly} {f:Field} {fs:List Field} {off:Nat} (ho:f.offset=off) (hc:P.cellsOf f.type=a.size) (h:TyO P a f.type) (hs:TyF P b fs (off+a.size)):TyF P (.pair a b) (f::fs) off
end
def TRL(U:Nat->Prop)(w:World)(ts:List T)(cs:List Value):Prop:=cs.length=ts.length/\∀i (h:i<ts.length),∃u,cs[i]? =some u/\TR U w ts[i] u
def TRL.one{U:Nat->Prop}{w:World}{t:T}{v:Value}(h:TR U w t v):TRL U w [t] [v]:=⟨rfl,λi hi=>by
 match i,hi with
 |0,_=>exact⟨v,rfl,h⟩⟩
def TRL.append{U:Nat->Prop}{w:World}{ts ts':List T}{cs cs':List Value}(h:TRL U w ts cs)(h':TRL U w ts' cs'):TRL U w (ts++ts') (cs++cs'):=by
 refine⟨by simp[h.1,h'.1],λi hi=> ?_⟩;by_cases hl:i<ts.length
 ·obtain⟨u,h1,h2⟩:=h.2 i hl;refine⟨u,?_,?_⟩
  ·rw[AL (by rw[h.1];exact hl)];exact h1
  ·rw[Bh hl];exact h2
 ·have hr:i - ts.length<ts'.length:=(by simp at hi;omega);obtain⟨u,h1,h2⟩:=h'.2 _ hr;refine⟨u,?_,?_⟩
  ·rw[AU (by rw[h.1];omega),h.1];exact h1
  ·rw[Bo (by omega)];exact h2
section
variable {H:Type}{enc:TypeId×Value->H}{P:Program}{w:World}{base:Nat}{spare:Nat->Bool}{held:Bool}
def flat_len(c:Ly):∀xs:List c.ty,(xs.flatMap c.trees).length=xs.length*c.size
 |[]=>by simp
 |x::xs=>by rw[Ac,AG,flat_len c xs,c.QW,As,BJ,Nat.one_mul,Nat.add_comm]
def rows_ok{U:Nat->Prop}{c:Ly}{Q:c.ty->Prop}{b off:Nat}:∀(n:Nat),(∀i,i<n->∃(v:c.ty) (cs:List Value),TRL U w (c.trees v) cs/\Q v/\∀j,j<c.size->w.cell? ⟨b,off+(i*c.size+j),none⟩=cs[j]?)->
  ∃xs:List c.ty,xs.length=n/\(∀x∈xs,Q x)/\∀i (h:i<(xs.flatMap c.trees).length),∃u,w.cell? ⟨b,off+i,none⟩=some u/\TR U w (xs.flatMap c.trees)[i] u
 |0,_=>⟨[],rfl,λ_ h=>(by cases h),λi h=>absurd h (by simp)⟩
 |n+1,h=>by
  obtain⟨xs,h1,h2,h3⟩:=rows_ok n (λi hi=>h i (by omega));obtain⟨v,cs,h4,h5,h6⟩:=h n (by omega);have hl:(xs.flatMap c.trees).length=n*c.size:=(by rw[flat_len,h1]);have hf:(xs++[v]).flatMap c.trees=xs.flatMap c.trees++c.trees v:=(by simp);refine⟨xs++[v],by simp[h1],λx hx=> ?_,λi hi=> ?_⟩
  ·rcases Ak.1 hx with hx|hx
   ·exact h2 x hx
   ·simp at hx;subst hx;exact h5
  ·simp only[hf]at hi⊢;by_cases hlt:i<(xs.flatMap c.trees).length
   ·obtain⟨u,h7,h8⟩:=h3 i hlt;exact⟨u,h7,by rw[Bh hlt];exact h8⟩
   ·have hr:i - n*c.size<(c.trees v).length:=(by simp only[AG]at hi;omega);obtain⟨u,h7,h8⟩:=h4.2 _ hr;refine⟨u,?_,?_⟩
    ·have h9:=h6 (i - n*c.size) (by rw[c.QW]at hr;exact hr);rw[h7]at h9;rw[<-h9];congr 2;omega
    ·rw[Bo (by omega)];simp only[hl];exact h8
def take_drop{l:List Value}{off n m:Nat}(h:(l.drop off).take n=(l.drop off).take n):(l.drop off).take (n+m)=(l.drop off).take n++(l.drop (off+n)).take m:=by rw[List.take_add,CA]
def cell_row{a:Addr}{v:Value}(h:w.cell? a=some v):a.spot=none/\isRow w a.block:=by
 unfold World.cell? at h;split at h
 ·rename_i c e fr he;split at h
  ·cases h
  ·rename_i hs;exact⟨by simpa using hs,⟨c,e,fr,he⟩⟩
 ·cases h
def X5{e:TypeId}{n:Nat}:∀{ds:List (DataW H)} {d:DataW H},d∈ds->n∈d.weights P e->n∈DataW.weightsAll P e ds
 |_::ds,d,h,hn=>by
  unfold DataW.weightsAll;rcases AT.1 h with rfl|h
  ·exact B0 _ hn
  ·exact B7 _ (X5 h hn)
def Yb{n:Nat}:∀{ts:List TypeId} {ds:List (DataW H)} (i:Nat) {t:TypeId} {d:DataW H},ts[i]? =some t->ds[i]? =some d->n∈d.weights P t->n∈DataW.weightsEach P ts ds
 |[],_,_,_,_,h,_,_=>by simp at h
 |_::_,[],_,_,_,_,h,_=>by simp at h
 |u::ts,g::ds,0,t,d,h,h',hn=>by simp at h h';subst h;subst h';unfold DataW.weightsEach;exact B0 _ hn
 |u::ts,g::ds,i+1,t,d,h,h',hn=>by simp at h h';unfold DataW.weightsEach;exact B7 _ (Yb i h h' hn)
def arL_down{U:Nat->Prop}{c:Ly}{Wt:Prop}:∀(n:Nat) (cs:List Value),cs.length=(n+1)*c.size->(∀i,i<n+1->∃v:c.ty,TRL U w (c.trees v) ((cs.drop (i*c.size)).take c.size)/\c.inr v/\(Wt->c.inw v))->
  ∃v:(arL c n).ty,TRL U w ((arL c n).trees v) cs/\(arL c n).inr v/\(Wt->(arL c n).inw v)
 |0,cs,hl,h=>by obtain⟨v,h1,h2,h3⟩:=h 0 (by omega);rw[BP,AW,AN (by rw[hl,AF,Nat.one_mul];exact A5 _)]at h1;exact⟨v,h1,h2,h3⟩
 |n+1,cs,hl,h=>by obtain⟨v,h1,h2,h3⟩:=h 0 (by omega);rw[BP,AW]at h1;have e:(n+1+1)*c.size=(n+1)*c.size+c.size:=(by rw[BJ (n+1) 1,Nat.one_mul]);obtain⟨u,g1,g2,g3⟩:=arL_down (U:=U) (c:=c) (Wt:=Wt) n (cs.drop c.size) (by rw[CO,hl,e,Nat.add_sub_cancel]) λi hi=>(by obtain⟨v,h1,h2,h3⟩:=h (i+1) (by omega);refine⟨v,?_,h2,h3⟩;rw[CA];have e2:c.size+i*c.size=(i+1)*c.size:=(by rw[BJ,Nat.one_mul,Nat.add_comm]);rw[e2];exact h1);refine⟨(v,u),?_,⟨h2,g2⟩,λhw=>⟨h3 hw,g3 hw⟩⟩;show TRL U w (c.trees v++(arL c n).trees u) cs;have:=h1.append g1;rwa [Bq]at this
mutual
def TyO.down{U:Nat->Prop}(hU:∀b,U b){c:Ly}{t:TypeId}(h:TyO P c t){fuel:Nat}{cs:List Value}{x:DataW H×List MemPlace}(ht:DataW.trod enc P w base spare held fuel t cs=some x):
  ∃v:c.ty,TRL U w (c.trees v) cs/\c.inr v/\((∀n∈x.1.weights P t,n<=reachBytes)->c.inw v):=match h with
 |.int h=>by obtain⟨n,rfl,_,hw⟩:=DataW.trod_int h ht;exact⟨n,TRL.one (TR.int _ _),hw,λ_=>trivial⟩
 |.bool h=>by obtain⟨b,rfl,_⟩:=DataW.trod_bool h ht;exact⟨(b:Bool),TRL.one (TR.bool _),trivial,λ_=>trivial⟩
 |.str h=>by
  obtain⟨s,rfl,rfl,hs⟩:=DataW.trod_string h ht;refine⟨(s.data.toList:List UInt8),TRL.one ?_,(show s.data.toList.length<=maxLen by simpa using hs),λhw=> ?_⟩
  ·exact TR.str s.data.toList
  ·exact hw _ (by unfold DataW.weights;simp)
 |.sl (t:=t) (e:=e) (c:=c) h hc hb8 he=>by
  rcases Go.Deep.open_slice h ht with ⟨rfl,_⟩|⟨a,len,cap,m,n,D,Pl,rfl,hb,hl,hm,hmm,rfl,hx⟩
  ·exact⟨([]:List c.ty),TRL.one (TR.imm0 _ _ _ trivial),⟨Af _,λ_ h=>by cases h⟩,λ_=>⟨Af _,λ_ h=>by cases h⟩⟩
  ·have hlm:len<=m:=(by rw[hmm];split<;>omega);have hwt:(∀n∈(DataW.slice ((List.range len).map D) ((List.range (m - len)).map λj=>D (len+j))).weights P t,n<=reachBytes)->len<=reachBytes/\∀i,i<len->∀n∈(D i).weights P e,n<=reachBytes:=λhw=>(by unfold DataW.weights at hw;rw[h]at hw;refine⟨?_,λi hi n hn=>hw n (Bv _ (B0 _ (X5 (d:=D i) (BR.2 ⟨i,Bg.2 hi,rfl⟩) hn)))⟩;have h1:=hw _ (B4 ..);simp only[AE,List.length_range]at h1;have h2:(len+(m - len))*1<=(len+(m - len))*P.bytesOf e:=Nat.mul_le_mul_left _ hb8;omega);have hel:∀i,i<len->∃(v:c.ty) (cs:List Value),TRL U w (c.trees v) cs/\(c.inr v/\((∀n∈(DataW.slice ((List.range len).map D) ((List.range (m - len)).map λj=>D (len+j))).weights P t,n<=reachBytes)->c.inw v))/\∀j,j<c.size->w.cell? (a.add (i*c.size+j))=cs[j]? :=λi hi=>(by obtain⟨cs',h1,h2⟩:=hx i (by omega);obtain⟨v,h3,h4,h4'⟩:=TyO.down hU he h2;obtain⟨_,h5,h6⟩:=World.cells?_some h1;rw[hc]at h6;refine⟨v,cs',h3,⟨h4,λhw=>h4' ((hwt hw).2 i hi)⟩,λj hj=> ?_⟩;rw[<-h6 j hj,Go.Deep.add_add]);by_cases hz:len=0
   ·subst hz;exact⟨([]:List c.ty),TRL.one (TR.imm0 _ _ _ trivial),⟨Af _,λ_ h=>by cases h⟩,λ_=>⟨Af _,λ_ h=>by cases h⟩⟩
   ·have hsp:a.spot=none/\isRow w a.block:=(by obtain⟨v,cs',h3,_,h5⟩:=hel 0 (by omega);have hs:=c.size_pos;obtain⟨u,h6,_⟩:=h3.2 0 (by rw[c.QW];exact hs);have:=h5 0 hs;rw[h6]at this;have e:a.add (0*c.size+0)=a:=(by simp[Addr.add]);rw[e]at this;exact cell_row this);obtain⟨xs,h1,h2,h3⟩:=rows_ok (U:=U) (b:=a.block) (off:=a.off) len (λi hi=>by
     obtain⟨v,cs',h3,h4,h5⟩:=hel i hi;refine⟨v,cs',h3,h4,λj hj=> ?_⟩;rw[<-h5 j hj];congr 1;obtain⟨ab,ao,as⟩:=a;have:as=none:=hsp.1;subst this;unfold Addr.add;split
     ·rename_i e;rw[e];rfl
     ·rfl)
    refine⟨(xs:List c.ty),?_,⟨?_,λx hx=>(h2 x hx).1⟩,λhw=>⟨?_,λx hx=>(h2 x hx).2 hw⟩⟩
    ·have ha:a=⟨a.block,a.off,none⟩:=(by cases a;simp only[Addr.mk.injEq,Ah];exact hsp.1);have hf:∃f:Nat->Value,∀i (h:i<(xs.flatMap c.trees).length),w.cell? ⟨a.block,a.off+i,none⟩=some (f i)/\TR U w (xs.flatMap c.trees)[i] (f i):=(by refine⟨λi=>(w.cell? ⟨a.block,a.off+i,none⟩).getD undef,λi h=> ?_⟩;obtain⟨u,h4,h5⟩:=h3 i h;simp only[h4];exact⟨rfl,h5⟩);obtain⟨f,hf⟩:=hf;refine TRL.one ?_;rw[ha,<-h1];exact TR.imm _ _ none a.block a.off cap f (hU _) hsp.2 trivial (by omega) (λi h=>(hf i h).1) (λi h=>(hf i h).2)
    ·show xs.length<=maxLen;omega
    ·show xs.length<=reachBytes;rw[h1];exact(hwt hw).1
 |.ar2 (t:=t) (e:=e) (c:=c) h hc hs he=>by
  obtain⟨xs,n,rfl,rfl,hlen,hxl,hx⟩:=DataW.trod_array h ht
  match xs,hxl with
  |[x0,x1],_=>
  have q0:=hx 0 (by omega);have q1:=hx 1 (by omega);simp only[BP,AW,Nat.one_mul,BS,BG]at q0 q1;rw[hc]at q0 q1;obtain⟨v0,a1,a2,a3⟩:=TyO.down hU he q0;obtain⟨v1,b1,b2,b3⟩:=TyO.down hU he q1;have hcs:cs=cs.take c.size++(cs.drop c.size).take c.size:=by
   conv=>lhs;rw[<-Bq c.size cs]
   rw[AN (l:=cs.drop c.size) (by rw[CO,hlen,hs];omega)]
  refine⟨(v0,v1),?_,⟨a2,b2⟩,λhw=> ?_⟩
  ·show TRL U w (c.trees v0++c.trees v1) cs;rw[hcs];exact a1.append b1
  ·have hw':∀n∈DataW.weightsAll P e [x0.1,x1.1],n<=reachBytes:=(by unfold DataW.weights at hw;rw[h]at hw;exact hw);exact⟨a3 λn hn=>hw' n (X5 (d:=x0.1) (by simp) hn),b3 λn hn=>hw' n (X5 (d:=x1.1) (by simp) hn)⟩
 |.ar (t:=t) (e:=e) (c:=c) (n:=k) h hc hs he=>by obtain⟨xs,n,rfl,rfl,hlen,hxl,hx⟩:=DataW.trod_array h ht;refine arL_down (Wt:=∀n∈(DataW.agg (xs.map (·.1)):DataW H).weights P t,n<=reachBytes) k cs (by rw[hlen,hs]) λi hi=> ?_;have hi':i<xs.length:=(by omega);have q:=hx i (by omega);rw[hc,A4 hi']at q;obtain⟨v,a1,a2,a3⟩:=TyO.down hU he q;refine⟨v,a1,a2,λhw=>a3 λn hn=> ?_⟩;have hw':∀n∈DataW.weightsAll P e (xs.map (·.1)),n<=reachBytes:=(by unfold DataW.weights at hw;rw[h]at hw;exact hw);exact hw' n (X5 (BR.2 ⟨xs[i],A9 hi',rfl⟩) hn)
 |.st (t:=t) (fs:=fs) h hc hf=>by
  obtain⟨xs,n,rfl,rfl,hlen,hxl,hx⟩:=DataW.trod_struct h ht;have:=TyF.down hU hf (cs:=cs) (Wt:=∀n∈(DataW.agg (xs.map (·.1)):DataW H).weights P t,n<=reachBytes) (λf hf=>by
   obtain⟨i,hi,rfl⟩:=BB hf;have hi':i<xs.length:=(by simpa [hxl] using hi);have:=hx i fs[i] (by simp);rw[A4 hi']at this;refine⟨n,_,this,λhw k hk=> ?_⟩;have hw':∀n∈DataW.weightsEach P (fs.toList.map (·.type)) (xs.map (·.1)),n<=reachBytes:=(by unfold DataW.weights at hw;rw[h]at hw;exact hw);exact hw' k (Yb i (t:=fs.toList[i].type) (d:=xs[i].1) (by rw[BY,A4 hi];rfl) (by rw[BY,A4 hi'];rfl) hk))
  rw[<-hc,<-hlen]at this;simpa using this
def TyF.down{U:Nat->Prop}(hU:∀b,U b){c:Ly}{fs:List Field}{off:Nat}(h:TyF P c fs off){cs:List Value}{Wt:Prop}(ht:∀f∈fs,∃n x,DataW.trod enc P w base spare held n f.type ((cs.drop f.offset).take (P.cellsOf f.type))=some x/\(Wt->∀n∈x.1.weights P f.type,n<=reachBytes)):
  ∃v:c.ty,TRL U w (c.trees v) ((cs.drop off).take c.size)/\c.inr v/\(Wt->c.inw v):=match h with
 |.one (f:=f) ho hc h=>by obtain⟨n,x,hx,hw⟩:=ht f (by simp);rw[ho,hc]at hx;obtain⟨v,h1,h2,h3⟩:=TyO.down hU h hx;exact⟨v,h1,h2,λg=>h3 (hw g)⟩
 |.cons (a:=a) (b:=b) (f:=f) ho hc h hs=>by obtain⟨n,x,hx,hw⟩:=ht f (by simp);rw[ho,hc]at hx;obtain⟨v,h1,h2,h2'⟩:=TyO.down hU h hx;obtain⟨v',h3,h4,h4'⟩:=TyF.down hU hs (λf hf=>ht f (Bv _ hf));refine⟨(v,v'),?_,⟨h2,h4⟩,λg=>⟨h2' (hw g),h4' g⟩⟩;show TRL U w (a.trees v++b.trees v') ((cs.drop off).take (a.size+b.size));rw[take_drop rfl];exact h1.append h3
end
end
end Go.Abs
