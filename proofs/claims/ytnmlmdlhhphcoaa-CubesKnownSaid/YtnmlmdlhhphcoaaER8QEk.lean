/- A part of the proof. -/
import Derived.Test.YtnmlmdlhhphcoaaER8QEj
import Derived.Test.YtnmlmdlhhphcoaaER8QEx
import Derived.WalkKit
import Derived.BigCall
set_option linter.all false
set_option maxRecDepth 1000000
set_option maxHeartbeats 4000000
namespace Go.Proofs.Ytnmlmdlhhphcoaa
section
open Go.RowKit
def sgn(v:Int):UInt8:=if v=0 then 48 else if v=1 then 49 else 88
def Qq(l:List Int):List UInt8:=l.map sgn
theorem YG(l:List Int)(k:Nat)(h:k<l.length):Qq (l.take (k+1))=Qq (l.take k)++[sgn l[k]]:=by unfold Qq;rw[List.take_succ_eq_append_getElem h,List.map_append];rfl
theorem ZP(B b:Nat)(bs:List Value)(c:Int)(w:World)(h:Lib.IsBuilder 83 5 B b bs w)(hlen:bs.length+1<=140737488355328)(hBw:B<=w.heap.size):
  Calls Try.prog 45 #[.pointer (some ⟨b,0,none⟩),.int .u8 c] w λe w'=>e=.returned .nilIface/\(Lib.BuilderAt 83 5 B b (.pointer (some ⟨b,0,none⟩)) (bs++[.int .u8 c]) w'/\Below B w w'):=Any.Builder_WriteByte Try.lays167 Try.VL B b bs c w h hlen hBw
theorem stringAny(B b:Nat)(l:List UInt8)(w:World)(h:Lib.IsBuilder 83 5 B b (Lib.byteCells l) w)(hBw:B<=w.heap.size):
  Calls Try.prog 46 #[.pointer (some ⟨b,0,none⟩)] w λe w'=>e=.returned (.string ⟨l.toArray⟩)/\Below B w w':=Any.Builder_String_any Try.lays169 Try.VK B b l w h hBw
structure Bel(B:Nat)(w w':World):Prop where
 os:w'.os=w.os
 out:w'.output=w.output
 size:w.heap.size<=w'.heap.size
 block:∀k,k<B->w'.heap[k]? =w.heap[k]?
theorem Bel.of{B:Nat}{w w':World}(h:Below B w w'):Bel B w w':=⟨h.os,h.output,h.size,h.block⟩
theorem Bel.trans{B:Nat}{w w1 w2:World}(h:Bel B w w1)(h':Bel B w1 w2):Bel B w w2:=⟨h'.os.trans h.os,h'.out.trans h.out,Nat.le_trans h.size h'.size,λk hk=>(h'.block k hk).trans (h.block k hk)⟩
theorem Bel.le{B B':Nat}{w w':World}(h:Bel B w w')(hB:B'<=B):Bel B' w w':=⟨h.os,h.out,h.size,λk hk=>h.block k (by omega)⟩
theorem Bel.cell{B:Nat}{w w':World}(h:Bel B w w'){p:Addr}(hp:p.block<B):w'.cell? p=w.cell? p:=by unfold World.cell?;rw[h.block _ hp]
def Els(w:World)(a:Option Addr)(xs:List Int):Prop:=∀k (h:k<xs.length),∃b off,a=some ⟨b,off,none⟩/\b<w.heap.size/\w.cell? ⟨b,off+k,none⟩=some (.int .u8 xs[k])
theorem Els.bel{w w':World}{a:Option Addr}{xs:List Int}(h:Els w a xs)(hb:Bel w.heap.size w w'):Els w' a xs:=λk hk=>by obtain⟨b,off,h1,h2,h3⟩:=h k hk;exact⟨b,off,h1,Nat.lt_of_lt_of_le h2 hb.size,(hb.cell (p:=⟨b,off+k,none⟩) h2).trans h3⟩
theorem text_walk(w:World)(ai as_:Option Addr)(ci cs:Nat)(xi xs:List Int)(hi:Els w ai xi)(hs:Els w as_ xs)(vi:∀x∈xi,x=0\/x=1\/x=2)(vs:∀x∈xs,x=0\/x=1\/x=2)
  (li:xi.length<=1000000) (ls:xs.length<=1000000)
  (hchk:∀w1,Bel w.heap.size w w1->Calls Try.prog 29 #[.agg #[.slice ai xi.length ci,.slice as_ xs.length cs]] w1 λe w'=>e=.returned (.int .i64 0)/\Bel w1.heap.size w1 w'):
  Calls Try.prog 26 #[.agg #[.slice ai xi.length ci,.slice as_ xs.length cs]] w λe w'=>e=.returned (.string ⟨(Qq xi++124::Qq xs).toArray⟩)/\Bel w.heap.size w w':=by
 have hb0:∀o,Below w.heap.size w (w.alloc o):=λo=>(Below.refl _ w).alloc (Nat.le_refl _) o
 go_enter Try.func26,Try.ntmps26
 go_wp2_with (go_at_call 29;refine(hchk _ (.of (hb0 _))).mono ?_)
 rintro e w1 ⟨rfl,hb1⟩;have hbx:w1.heap[w.heap.size]? =some (.cells #[.slice ai xi.length ci,.slice as_ xs.length cs] 29 (0,0)):=by rw[hb1.block _ (by simp)];exact M55.alloc_new w _
 have c0:w1.cell? ⟨w.heap.size,0,none⟩=some (.slice ai xi.length ci):=by rw[Lib.cell_of_heap hbx];rfl
 have c1:w1.cell? ⟨w.heap.size,1,none⟩=some (.slice as_ xs.length cs):=by rw[Lib.cell_of_heap hbx];rfl
 have hsz1:w.heap.size<w1.heap.size:=(Array.getElem?_eq_some_iff.1 hbx).1;have hB1:Bel w.heap.size w w1:=(Bel.of (hb0 _)).trans (hb1.le (by simp));have hi1:=hi.bel hB1;have hs1:=hs.bel hB1
 go_wp2
 go_loopw [14] (λi wr=>∃k:Nat,k<=xi.length/\i=.int .i64 k/\Lib.IsBuilder 83 5 w1.heap.size w1.heap.size (Lib.byteCells (Qq (xi.take k))) wr/\Below w1.heap.size w1 wr)
  (λi _=>xi.length - (intOf i).toNat)
 case atStart=>exact⟨0,Nat.zero_le _,rfl,Lib.fresh_isBuilder 83 5 w1,(Below.refl _ w1).alloc (Nat.le_refl _) _⟩
 case round=>
  obtain⟨k,hk,rfl,hI,hbw⟩:=hrel;have hsz:=hbw.size;by_cases hlt:k<xi.length
  ·obtain⟨ab,off,hai,hab,hcell⟩:=hi1 k hlt;subst hai;have hcell:wr.cell? ⟨ab,off+k,none⟩=some (.int .u8 xi[k]):=(hbw.cell (p:=⟨ab,off+k,none⟩) hab).trans hcell;rcases vi xi[k] (List.getElem_mem hlt) with e|e|e
   ·have hx:sgn xi[k]=48:=(by rw[e];rfl);rw[e]at hcell
    go_wp2_with (go_at_call 45;refine(ZP w1.heap.size w1.heap.size _ _ _ hI (by rw[Lib.byteCells_length];unfold Qq;simp;omega) hsz).mono ?_)
    rintro e' w2 ⟨rfl,hA,hb2⟩
    go_wp2
    go_roundw
    case rel=>refine⟨k+1,by omega,by simp,?_,hbw.trans hb2⟩;rw[YG _ _ hlt,hx,Lib.byteCells_append];exact Or.inr hA
    case measure=>simp[intOf];omega
   ·have hx:sgn xi[k]=49:=(by rw[e];rfl);rw[e]at hcell
    go_wp2_with (go_at_call 45;refine(ZP w1.heap.size w1.heap.size _ _ _ hI (by rw[Lib.byteCells_length];unfold Qq;simp;omega) hsz).mono ?_)
    rintro e' w2 ⟨rfl,hA,hb2⟩
    go_wp2
    go_roundw
    case rel=>refine⟨k+1,by omega,by simp,?_,hbw.trans hb2⟩;rw[YG _ _ hlt,hx,Lib.byteCells_append];exact Or.inr hA
    case measure=>simp[intOf];omega
   ·have hx:sgn xi[k]=88:=(by rw[e];rfl);rw[e]at hcell
    go_wp2_with (go_at_call 45;refine(ZP w1.heap.size w1.heap.size _ _ _ hI (by rw[Lib.byteCells_length];unfold Qq;simp;omega) hsz).mono ?_)
    rintro e' w2 ⟨rfl,hA,hb2⟩
    go_wp2
    go_roundw
    case rel=>refine⟨k+1,by omega,by simp,?_,hbw.trans hb2⟩;rw[YG _ _ hlt,hx,Lib.byteCells_append];exact Or.inr hA
    case measure=>simp[intOf];omega
  ·have hkn:k=xi.length:=(by omega);subst hkn;rw[List.take_length]at hI
   go_wp2_with (go_at_call 45;refine(ZP w1.heap.size w1.heap.size _ _ _ hI (by rw[Lib.byteCells_length];unfold Qq;simp;omega) hsz).mono ?_)
   rintro e' w2 ⟨rfl,hA,hb2⟩;have hb3:=hbw.trans hb2;have c1':w2.cell? ⟨w.heap.size,1,none⟩=some (.slice as_ xs.length cs):=(hb3.cell (p:=⟨w.heap.size,1,none⟩) hsz1).trans c1;have hA0:Lib.IsBuilder 83 5 w1.heap.size w1.heap.size (Lib.byteCells (Qq xi++124::Qq (xs.take 0))) w2:=by rw[show Qq xi++124::Qq (xs.take 0)=Qq xi++[124] from by simp[Qq],Lib.byteCells_append];exact Or.inr hA
   go_wp2
   go_loopw [26] (λi wr=>∃k:Nat,k<=xs.length/\i=.int .i64 k/\Lib.IsBuilder 83 5 w1.heap.size w1.heap.size (Lib.byteCells (Qq xi++124::Qq (xs.take k))) wr/\Below w1.heap.size w1 wr)
    (λi _=>xs.length - (intOf i).toNat)
   case atStart=>exact⟨0,Nat.zero_le _,rfl,hA0,hb3⟩
   case round=>
    clear hI hA0 hA hb3 hbw hsz hb2;obtain⟨k,hk,rfl,hI,hbw⟩:=hrel;have hsz:=hbw.size;by_cases hlt:k<xs.length
    ·obtain⟨ab,off,hai,hab,hcell⟩:=hs1 k hlt;subst hai;have hcell:wr.cell? ⟨ab,off+k,none⟩=some (.int .u8 xs[k]):=(hbw.cell (p:=⟨ab,off+k,none⟩) hab).trans hcell;rcases vs xs[k] (List.getElem_mem hlt) with e|e|e
     ·have hx:sgn xs[k]=48:=(by rw[e];rfl);rw[e]at hcell
      go_wp2_with (go_at_call 45;refine(ZP w1.heap.size w1.heap.size _ _ _ hI (by rw[Lib.byteCells_length];unfold Qq;simp;omega) hsz).mono ?_)
      rintro e' w2 ⟨rfl,hA,hb2⟩
      go_wp2
      go_roundw
      case rel=>refine⟨k+1,by omega,by simp,?_,hbw.trans hb2⟩;rw[YG _ _ hlt,hx,<-List.cons_append,<-List.append_assoc,Lib.byteCells_append];exact Or.inr hA
      case measure=>simp[intOf];omega
     ·have hx:sgn xs[k]=49:=(by rw[e];rfl);rw[e]at hcell
      go_wp2_with (go_at_call 45;refine(ZP w1.heap.size w1.heap.size _ _ _ hI (by rw[Lib.byteCells_length];unfold Qq;simp;omega) hsz).mono ?_)
      rintro e' w2 ⟨rfl,hA,hb2⟩
      go_wp2
      go_roundw
      case rel=>refine⟨k+1,by omega,by simp,?_,hbw.trans hb2⟩;rw[YG _ _ hlt,hx,<-List.cons_append,<-List.append_assoc,Lib.byteCells_append];exact Or.inr hA
      case measure=>simp[intOf];omega
     ·have hx:sgn xs[k]=88:=(by rw[e];rfl);rw[e]at hcell
      go_wp2_with (go_at_call 45;refine(ZP w1.heap.size w1.heap.size _ _ _ hI (by rw[Lib.byteCells_length];unfold Qq;simp;omega) hsz).mono ?_)
      rintro e' w2 ⟨rfl,hA,hb2⟩
      go_wp2
      go_roundw
      case rel=>refine⟨k+1,by omega,by simp,?_,hbw.trans hb2⟩;rw[YG _ _ hlt,hx,<-List.cons_append,<-List.append_assoc,Lib.byteCells_append];exact Or.inr hA
      case measure=>simp[intOf];omega
    ·have hkn:k=xs.length:=(by omega);subst hkn;rw[List.take_length]at hI
     go_wp2_with (go_at_call 46;refine(stringAny w1.heap.size w1.heap.size _ _ hI hsz).mono ?_)
     rintro e' w3 ⟨rfl,hb4⟩
     go_wp2
     go_ret
     exact⟨rfl,hB1.trans ((Bel.of (hbw.trans hb4)).le (by omega))⟩
theorem text_walk0(w:World)(ai as_:Option Addr)(ci cs:Nat)(xi xs:List Int)(y:Int)(hy:y≠0)
  (hchk:∀w1,Bel w.heap.size w w1->Calls Try.prog 29 #[.agg #[.slice ai xi.length ci,.slice as_ xs.length cs]] w1 λe w'=>e=.returned (.int .i64 y)/\Bel w1.heap.size w1 w'):
  Calls Try.prog 26 #[.agg #[.slice ai xi.length ci,.slice as_ xs.length cs]] w λe w'=>e=.returned (.string ⟨([]:List UInt8).toArray⟩)/\Bel w.heap.size w w':=by
 have hb0:∀o,Below w.heap.size w (w.alloc o):=λo=>(Below.refl _ w).alloc (Nat.le_refl _) o
 go_enter Try.func26,Try.ntmps26
 go_wp2_with (go_at_call 29;refine(hchk _ (.of (hb0 _))).mono ?_)
 rintro e w1 ⟨rfl,hb1⟩
 go_wp2
 go_ret
 exact⟨rfl,(Bel.of (hb0 _)).trans (hb1.le (by simp))⟩
end
section
open Go.Abs Go.RowKit
namespace M26
structure gX where(i s:List Int)
def g:Sg gX:=⟨[.agg [.arr (.int .u8),.arr (.int .u8)]],[],λa b=>⟨a.1.1,a.1.2.1⟩,λx=>((x.i,(x.s,())),()),λx=>()⟩
abbrev fY:=List UInt8
def f:Ft fY:=⟨none,.c .sg,[],λa b=>a,λy=>y,λy=>()⟩
def okS(l:List Int):Bool:=l.all (λv=>v==0||v==1||v==2)&&Nat.ble l.length 1000000
noncomputable def m(x:gX):Option fY:=Q1 (M29.m ⟨x.i,x.s⟩) λe=>bif e==0 then (bif okS x.i&&okS x.s then some (Qq x.i++124::Qq x.s) else none) else some []
theorem callable26:Xr Try.prog 26:=⟨Try.f26,Try.func26,by kernel_rfl,by kernel_rfl⟩
theorem okS_ok{l:List Int}(h:okS l=true):(∀x∈l,x=0\/x=1\/x=2)/\l.length<=1000000:=by unfold okS at h;rw[Bool.and_eq_true]at h;refine⟨λx hx=> ?_,Nat.le_of_ble_eq_true h.2⟩;have:=List.all_eq_true.1 h.1 x hx;simp only[Bool.or_eq_true,beq_iff_eq]at this;omega
theorem ints_trees(xs:List Int):xs.flatMap (Ly.int .u8).trees=xs.map (T.int .u8):=by
 induction xs with
 |nil=>rfl
 |cons x xs ih=>rw[List.flatMap_cons,ih];rfl
theorem ints_tree{U:Nat->Prop}{w:World}{xs:List Int}{v:Value}(h:TR U w (.imm (xs.flatMap (Ly.int .u8).trees) xs.length none) v):∃a c,v=.slice a xs.length c/\Els w a xs:=by
 rw[ints_trees]at h;generalize ht:T.imm (xs.map (T.int .u8)) xs.length none=t at h
 cases h with
 |imm0 cap' a c hc=>injection ht with h1 h2;have h3:xs=[]:=List.length_eq_zero_iff.1 h2;subst h3;exact⟨a,c,rfl,λk hk=>by simp at hk⟩
 |imm cs len cap' b off c f hb hr hc hle hcell ht'=>injection ht with h1 h2;subst h1;subst h2;refine⟨_,c,rfl,λk hk=>⟨b,off,rfl,hr.lt,?_⟩⟩;have hk':k<(xs.map (T.int .u8)).length:=(by simpa using hk);rw[hcell k hk'];have h5:=ht' k hk';simp only[List.getElem_map]at h5;generalize f k=u at h5⊢;cases h5;rfl
 |_=>cases ht
theorem fn_bel{f:FuncId}{args:List AV}{v:AV}(hc:Xr Try.prog f)
  (h:∀M w cargs,HR M [] w->ZN M w args cargs->∃cv,(∀w',VR M w' v cv)/\Calls Try.prog f cargs w λe w'=>e=.returned cv/\Bel w.heap.size w w'):
  Jl Try.prog f args [] λu τ=>u=v/\τ=[]:=by
 refine⟨hc,λM w cargs _ hH ha=> ?_⟩;obtain⟨cv,hv,hcall⟩:=h M w cargs hH ha;refine CallsIn.mono (callsIn_wide.2 hcall) λe w' ⟨he,hb⟩=> ?_;have hs:Step M [] w M [] w':=⟨Nat.le_refl _,hb.size,hb.os,hb.out,λid s h1=>⟨s,h1,Nat.le_refl _,λ_=>rfl⟩,λid _ h1=>h1,λid s l h1 h2=>.inr ⟨id,s,l,h1,h2,rfl⟩,rfl,rfl,λb hr=>hb.block b (hH.resRow b hr).lt,λb h1 _=>hb.block b h1⟩;refine⟨v,[],M,cv,he,⟨rfl,rfl⟩,hv w',⟨λid s h1=> ?_,hH.inj,λb hr=> ?_,hH.resNo⟩,hs⟩
 ·rw[hH.empty id]at h1;cases h1
 ·obtain⟨c,e,fr,h2⟩:=hH.resRow b hr;exact⟨c,e,fr,(hb.block b (Array.getElem?_eq_some_iff.1 h2).1).trans h2⟩
theorem calls_of{f:FuncId}{args:List AV}{v:AV}(h:Jl Try.prog f args [] λu τ=>u=v/\τ=[]){M:Map}{w:World}{cargs:Array Value}(hH:HR M [] w)(ha:ZN M w args cargs){w1:World}(hb:Bel w.heap.size w w1)
  (hv:args.all AV.isT=true):Calls Try.prog f cargs w1 λe w'=>(∃I' cv,e=.returned cv/\VR I' w' v cv)/\Bel w1.heap.size w1 w':=by
 have hn:=hH.empty;have hmono:∀{t:T} {u:Value},TR M.un w t u->TR M.un w1 t u:=λh=>h.mono λb hu hr=>⟨hu,hb.block b hr.lt⟩;have hH1:HR M [] w1:=⟨λid s h=>(by rw[hn]at h;cases h),hH.inj,λb hr=>by
  obtain⟨c,e,fr,h2⟩:=hH.resRow b hr;exact⟨c,e,fr,(hb.block b (Array.getElem?_eq_some_iff.1 h2).1).trans h2⟩,hH.resNo⟩
 have hc:∀{c:Cell} {u:Value},c.isT=true->CR M w c u->CR M w1 c u:=λ{c u} hc h=>by
  cases c with
  |t x=>exact hmono h
  |_=>cases hc
 have ha1:ZN M w1 args cargs:=⟨ha.1,λi hi=>by
  obtain⟨u,h1,h2⟩:=ha.2 i hi;refine⟨u,h1,?_⟩;have hT:args[i].isT=true:=List.all_eq_true.1 hv _ (List.getElem_mem hi);generalize args[i]=x at h2 hT⊢
  cases x with
  |c x=>exact hc hT h2
  |agg xs=>obtain⟨arr,e,h3,h4⟩:=h2;refine⟨arr,e,h3,λj hj=> ?_⟩;obtain⟨u',h5,h6⟩:=h4 j hj;exact⟨u',h5,hc (List.all_eq_true.1 hT _ (List.getElem_mem hj)) h6⟩
  |tup xs=>
   obtain⟨arr,e,h3,h4⟩:=h2;refine⟨arr,e,h3,λj hj=> ?_⟩;obtain⟨u',h5,h6⟩:=h4 j hj;refine⟨u',h5,?_⟩;have hj2:=List.all_eq_true.1 hT _ (List.getElem_mem hj);generalize xs[j]=y at h6 hj2⊢
   cases y with
   |inl y=>exact hc hj2 h6
   |inr ys=>
    obtain⟨arr',e',h7,h8⟩:=h6;refine⟨arr',e',h7,λl hl=> ?_⟩;obtain⟨u'',h9,h10⟩:=h8 l hl;exact⟨u'',h9,hc (List.all_eq_true.1 hj2 _ (List.getElem_mem hl)) h10⟩⟩
 refine callsIn_wide.1 (CallsIn.mono (h.2 M w1 cargs (λg c x h=>by cases h) hH1 ha1) λe w' ⟨v',S',I',cv,he,⟨h1,h2⟩,h3,h4,h5⟩=> ?_);subst h1;subst h2;refine⟨⟨I',cv,he,h3⟩,⟨h5.os,h5.out,h5.size,λb hb=> ?_⟩⟩;by_cases hr:M.res b
 ·exact h5.resKeep b hr
 ·refine h5.frame b hb λhm=> ?_;rcases hm with ⟨id,s,l,h6,_⟩|hres
  ·rw[hn]at h6;cases h6
  ·exact hr hres
theorem arg_pat{M:Map}{w:World}{xi xs:List Int}{cargs:Array Value}(ha:ZN M w [.agg [.t (.imm (xi.flatMap (Ly.int .u8).trees) xi.length none),.t (.imm (xs.flatMap (Ly.int .u8).trees) xs.length none)]] cargs):
  ∃ai ci as_ cs,cargs= #[.agg #[.slice ai xi.length ci,.slice as_ xs.length cs]]/\Els w ai xi/\Els w as_ xs:=by
 obtain⟨hsz,ha⟩:=ha;obtain⟨u,e0,h0⟩:=ha 0 (by simp);have h0:Xj M w [.t (.imm (xi.flatMap (Ly.int .u8).trees) xi.length none),.t (.imm (xs.flatMap (Ly.int .u8).trees) xs.length none)] u:=h0;obtain⟨arr,rfl,h1,h2⟩:=h0;obtain⟨u1,e1,g1⟩:=h2 0 (by simp);obtain⟨u2,e2,g2⟩:=h2 1 (by simp);obtain⟨ai,ci,rfl,k1⟩:=ints_tree (U:=M.un) (w:=w) (xs:=xi) g1;obtain⟨as_,cs,rfl,k2⟩:=ints_tree (U:=M.un) (w:=w) (xs:=xs) g2;refine⟨ai,ci,as_,cs,?_,k1,k2⟩;have ea:arr= #[.slice ai xi.length ci,.slice as_ xs.length cs]:=by
  refine Array.ext (by simpa using h1) λi hi _=> ?_;have hi:i<2:=by simpa [h1] using hi
  match i,hi with
  |0,_=>exact(Array.getElem?_eq_some_iff.1 e1).2
  |1,_=>exact(Array.getElem?_eq_some_iff.1 e2).2
 refine Array.ext (by simpa using hsz) λi hi _=> ?_;have hi:i<1:=by simpa [hsz] using hi
 match i,hi with
 |0,_=>rw[(Array.getElem?_eq_some_iff.1 e0).2,ea];rfl
theorem known:QV Try.prog 26 g f m:=by
 refine⟨λ_ _=>⟨rfl,rfl⟩,by decide,λx y hy=> ?_⟩;obtain⟨xi,xs⟩:=x;unfold m at hy;obtain⟨e,he,hy⟩:=Je hy;have h29:Jl Try.prog 29 [.agg [.t (.imm (xi.flatMap (Ly.int .u8).trees) xi.length none),.t (.imm (xs.flatMap (Ly.int .u8).trees) xs.length none)]] [] λv τ=>v=.c (.t (.int .i64 e))/\τ=[]:=M29.known.ok ⟨xi,xs⟩ e he;show Jl Try.prog 26 [.agg [.t (.imm (xi.flatMap (Ly.int .u8).trees) xi.length none),.t (.imm (xs.flatMap (Ly.int .u8).trees) xs.length none)]] [] λv τ=>v=.c (.t (.str y))/\τ=[];refine fn_bel callable26 λM w cargs hH ha=> ?_;obtain⟨ai,ci,as_,cs,rfl,k1,k2⟩:=arg_pat ha
 have hchk:∀w1,Bel w.heap.size w w1->Calls Try.prog 29 #[.agg #[.slice ai xi.length ci,.slice as_ xs.length cs]] w1 λe' w'=>e'=.returned (.int .i64 e)/\Bel w1.heap.size w1 w':=λw1 hb=>
  (calls_of h29 hH ha hb rfl).mono λe' w' ⟨⟨I',cv,h1,h2⟩,h3⟩=>by have h2:TR I'.un w' (.int .i64 e) cv:=h2;cases h2;exact⟨h1,h3⟩
 refine⟨.string ⟨y.toArray⟩,λw'=>.str y,?_⟩
 cases hz:(e==0) with
 |true=>
  rw[hz,cond_true]at hy;have hz:e=0:=(by simpa using hz);subst hz
  cases hk:(okS xi&&okS xs) with
  |false=>rw[hk]at hy;cases hy
  |true=>rw[hk]at hy;cases hy;rw[Bool.and_eq_true]at hk;obtain⟨v1,l1⟩:=okS_ok hk.1;obtain⟨v2,l2⟩:=okS_ok hk.2;exact text_walk w ai as_ ci cs xi xs k1 k2 v1 v2 l1 l2 hchk
 |false=>rw[hz,cond_false]at hy;cases hy;exact text_walk0 w ai as_ ci cs xi xs e (by simpa using hz) hchk
noncomputable def con:Con:=XI g f m default
theorem Q5:Qk Try.prog 26 con:=Qa known (λ_=>rfl) rfl
end M26
end
