/- A part of the proof. -/
import Derived.Test.YtnmlmdlhhphcoaaER8QEk
import Derived.Test.YtnmlmdlhhphcoaaER8QSyL
import Derived.Test.YtnmlmdlhhphcoaaER8QAbsY
import Derived.Test.YtnmlmdlhhphcoaaER8QEy
import Derived.Test.YtnmlmdlhhphcoaaER8QEz
import Derived.RangeFuncNested
import Derived.RangeFuncBound
import Derived.RangeFuncCalls
import Derived.RangeFuncLeaves
import Derived.WalkKit
import Derived.OwnWalkIn
import Derived.TacticsInMore
import Derived.LoopNIn
import Derived.LoopIn
import Derived.Maps.AppendAt
import Derived.Deep.RegionHeld3
import Derived.Deep.RegionLaw
import Derived.Deep.DeepCutAuto
import Derived.Deep.AppendLies
import Derived.Deep.DrawnRows
set_option linter.all false
namespace Go.Proofs.Ytnmlmdlhhphcoaa
section
open Go.Abs Go.RowKit
structure Fr(p:Nat->Prop)(w w':World):Prop where
 os:w'.os=w.os
 out:w'.output=w.output
 size:w.heap.size<=w'.heap.size
 keep:∀b,b<w.heap.size->p b->w'.heap[b]? =w.heap[b]?
theorem Fr.refl(p:Nat->Prop)(w:World):Fr p w w:=⟨rfl,rfl,Nat.le_refl _,λ_ _ _=>rfl⟩
theorem Fr.trans{p:Nat->Prop}{w w1 w2:World}(h:Fr p w w1)(h':Fr p w1 w2):Fr p w w2:=
 ⟨h'.os.trans h.os,h'.out.trans h.out,Nat.le_trans h.size h'.size,λb hb hp=>(h'.keep b (Nat.lt_of_lt_of_le hb h.size) hp).trans (h.keep b hb hp)⟩
theorem Fr.imp{p q:Nat->Prop}{w w':World}(h:Fr p w w')(hq:∀b,b<w.heap.size->q b->p b):Fr q w w':=⟨h.os,h.out,h.size,λb hb hp=>h.keep b hb (hq b hb hp)⟩
theorem Fr.alloc(p:Nat->Prop)(w:World)(o:Obj):Fr p w (w.alloc o):=⟨rfl,rfl,by simp,λb hb _=>Below.heap_alloc w o b hb⟩
theorem Fr.putObj{p:Nat->Prop}(w:World)(l:Nat)(o:Obj)(hl:¬p l):Fr p w (w.putObj l o):=
 ⟨rfl,rfl,by simp,λb _ hp=>World.putObj_heap_other (λe=>hl (e▸hp))⟩
theorem Fr.setCell{p:Nat->Prop}(w:World)(a:Addr)(v:Value)(hl:¬p a.block):Fr p w (w.setCell a v):=
 ⟨rfl,rfl,by simp[World.setCell],λb _ hp=>Below.heap_setCell w a v b (λe=>hl (e▸hp))⟩
theorem Fr.bel{B:Nat}{w w':World}(h:Fr (· <B) w w')(hB:B<=w.heap.size):Bel B w w':=⟨h.os,h.out,h.size,λb hb=>h.keep b (Nat.lt_of_lt_of_le hb hB) hb⟩
theorem Bel.fr{B:Nat}{w w':World}(h:Bel B w w'):Fr (· <B) w w':=⟨h.os,h.out,h.size,λb _ hb=>h.block b hb⟩
theorem Yi{f:FuncId}{args:List AV}{v:AV}(h:Jl Try.prog f args [] λu τ=>u=v/\τ=[]){w1:World}{cargs:Array Value}(ha:ZN JD w1 args cargs):
  Calls Try.prog f cargs w1 λe w'=>(∃I' cv,e=.returned cv/\VR I' w' v cv)/\Bel w1.heap.size w1 w':=by
 refine callsIn_wide.1 (CallsIn.mono (h.2 JD w1 cargs (λg c x h=>by cases h) (jO w1) ha) λe w' ⟨v',S',I',cv,he,⟨h1,h2⟩,h3,h4,h5⟩=> ?_);subst h1;subst h2;exact⟨⟨I',cv,he,h3⟩,⟨h5.os,h5.out,h5.size,λb hb=>h5.frame b hb (Uj b)⟩⟩
theorem jJ{W W':World}{lo e n:Nat}{v:Value}{xs:List Value}(h:W.ownsRow lo e 1 v n xs)(hk:∀g,v.ownBlock=some g->W'.heap[g]? =W.heap[g]?):W'.ownsRow lo e 1 v n xs:=by
 refine⟨h.1,?_⟩;rcases h.2 with h|⟨g,cap,cur,rfl,g2,g3,g4⟩
 ·exact .inl h
 ·exact .inr ⟨g,cap,cur,rfl,g2,(hk g rfl).trans g3,g4⟩
theorem own_slice{W:World}{lo e n:Nat}{v:Value}{xs:List Value}(h:W.ownsRow lo e 1 v n xs):∃a k,v=.slice a n k:=by
 rcases h.2 with ⟨rfl,rfl⟩|⟨g,cap,cur,rfl,_⟩
 ·exact⟨_,_,rfl⟩
 ·exact⟨_,_,rfl⟩
theorem own_lt{W:World}{lo e n:Nat}{v:Value}{xs:List Value}{g:Nat}(h:W.ownsRow lo e 1 v n xs)(hg:v.ownBlock=some g):lo<=g/\g<W.heap.size:=h.lt g hg
theorem own_at{W:World}{lo e n:Nat}{v:Value}{xs:List Value}(h:W.ownsRow lo e 1 v n xs){i:Nat}{u:Value}(hu:xs[i]? =some u):∃g cap cur,v=.slice (some ⟨g,0,none⟩) n cap/\lo<=g/\g<W.heap.size/\W.heap[g]? =some (.cells cur e (0,0))/\cur[i]? =some u/\i<n/\n<=cur.size:=by
 have hi:i<n:=by have:=(List.getElem?_eq_some_iff.1 hu).1;have h1:=h.1;omega
 rcases h.2 with ⟨rfl,rfl⟩|⟨g,cap,cur,rfl,g2,g3,g4,g5,g6,g7⟩
 ·omega
 ·refine⟨g,cap,cur,rfl,g2,(Array.getElem?_eq_some_iff.1 g3).1,g3,?_,hi,by omega⟩;rw[<-g7,List.getElem?_take]at hu;rw[if_pos (by omega)]at hu;rw[<-hu];simp
theorem own_tree{U:Nat->Prop}{W:World}{lo e n:Nat}{v:Value}{xs:List Value}(h:W.ownsRow lo e 1 v n xs)(ts:List T)(hl:ts.length=n)(ht:∀i (hi:i<ts.length) u,xs[i]? =some u->TR U W ts[i] u)(hU:∀b,lo<=b->U b):TR U W (.imm ts n none) v:=by
 by_cases h0:n=0
 ·subst h0;obtain⟨a,k,rfl⟩:=own_slice h;rw[List.length_eq_zero_iff.1 hl];exact TR.imm0 none a k trivial
 ·have hx:∀i,i<n->∃u,xs[i]? =some u:=λi hi=>⟨_,List.getElem?_eq_getElem (by have:=h.1;omega)⟩;obtain⟨u0,hu0⟩:=hx 0 (by omega);obtain⟨g,cap,cur,rfl,g2,_,g4,_⟩:=own_at h hu0;rcases h.2 with ⟨hh,_⟩|⟨g',cap',cur',hh,_,_,hc,_⟩
  ·cases hh
  cases hh;refine TR.imm ts n none g 0 cap (λi=>(xs[i]?).getD undef) (hU g g2) ⟨_,_,_,g4⟩ trivial hc (λi hi=> ?_) (λi hi=> ?_)
  ·obtain⟨u,hu⟩:=hx i (by omega);obtain⟨g',cap',cur',hh,_,_,k4,k5,_⟩:=own_at h hu;cases hh;rw[hu,Nat.zero_add];simp[World.cell?,k4,k5]
  ·obtain⟨u,hu⟩:=hx i (by omega);have:=ht i hi u hu;rw[hu];exact this
theorem noTR{U:Nat->Prop}{w:World}{t:T}{v:Value}(h:TR U w t v):TR JD.un w t v:=h.mono λb _ _=>⟨Uj b,rfl⟩
theorem grown_fr{W W':World}{ob:Option Nat}{p:Nat->Prop}(hg:W.grownBy W' ob)(hp:∀b,p b->ob≠some b):Fr p W W':=⟨hg.os,hg.output,hg.size,λb hb h=>hg.block b hb (Ne.symm (hp b h))⟩
theorem tup2_out{M:Map}{w:World}{x y:T}{v:Value}(h:VR M w (.tup [.inl (.t x),.inl (.t y)]) v):∃a b,v=.tuple #[a,b]/\TR M.un w x a/\TR M.un w y b:=by
 obtain⟨arr,rfl,h1,h2⟩:=h;obtain⟨u0,e0,g0⟩:=h2 0 (by simp);obtain⟨u1,e1,g1⟩:=h2 1 (by simp);refine⟨u0,u1,?_,g0,g1⟩;congr 1;refine Array.ext (by simpa using h1) λi hi _=> ?_;have hi:i<2:=by simpa [h1] using hi
 match i,hi with
 |0,_=>exact(Array.getElem?_eq_some_iff.1 e0).2
 |1,_=>exact(Array.getElem?_eq_some_iff.1 e1).2
structure IsB(r:Bool)(W:World)(e:Ending)(W':World):Prop where
 ex:e=.returned (.bool r)/\Bel W.heap.size W W'
theorem YM{f:FuncId}{args:List AV}{W:World}{cargs:Array Value}(hk:Jl Try.prog f args [] λv τ=>v=.c (.t (.bool true))/\τ=[])(ha:ZN JD W args cargs):Calls Try.prog f cargs W (IsB true W):=by refine(Yi hk ha).mono λe w' ⟨⟨I',cv,he,hv⟩,hb⟩=> ?_;have hv:TR I'.un w' (.bool true) cv:=hv;cases hv;exact⟨⟨he,hb⟩⟩
theorem agg2{W:World}{a b:T}{x y:Value}(h1:TR JD.un W a x)(h2:TR JD.un W b y):VR JD W (.agg [.t a,.t b]) (.agg #[x,y]):=
 ⟨_,rfl,rfl,λi hi=>by
  match i,hi with
  |0,_=>exact⟨_,rfl,h1⟩
  |1,_=>exact⟨_,rfl,h2⟩⟩
theorem agg4{W:World}{a b c d:T}{x y z u:Value}(h1:TR JD.un W a x)(h2:TR JD.un W b y)(h3:TR JD.un W c z)(h4:TR JD.un W d u):VR JD W (.agg [.t a,.t b,.t c,.t d]) (.agg #[x,y,z,u]):=
 ⟨_,rfl,rfl,λi hi=>by
  match i,hi with
  |0,_=>exact⟨_,rfl,h1⟩
  |1,_=>exact⟨_,rfl,h2⟩
  |2,_=>exact⟨_,rfl,h3⟩
  |3,_=>exact⟨_,rfl,h4⟩⟩
theorem ne_of{u v:Value}(h:∀g,u.ownBlock=some g->v.ownBlock=some g->False):u.ownBlock=none\/u.ownBlock≠v.ownBlock:=by
 cases e:u.ownBlock with
 |none=>exact .inl rfl
 |some g=>exact .inr λh1=>h g e h1.symm
theorem u8_trees(xs:List Int):xs.flatMap (Ly.int .u8).trees=xs.map (T.int .u8):=by
 induction xs with
 |nil=>rfl
 |cons x xs ih=>rw[List.flatMap_cons,ih];rfl
theorem bytes_tree{W:World}{lo:Nat}{v:Value}{l:List Int}(h:W.ownsRow lo 5 1 v l.length (l.map (Value.int .u8))):TR (λ_=>True) W (.imm (l.flatMap (Ly.int .u8).trees) l.length none) v:=by
 rw[u8_trees];refine own_tree h _ (by simp) (λi hi u hu=> ?_) λ_ _=>trivial;have hi':i<l.length:=by simpa using hi
 rw[List.getElem?_map,List.getElem?_eq_getElem hi']at hu;cases hu;simp only[List.getElem_map];exact TR.int _ _
structure IsE(s er:Int)(W:World)(e:Ending)(W':World):Prop where
 ex:e=.returned (.tuple #[.int .u64 s,.int .i64 er])/\Bel W.heap.size W W'
structure IsN(k:IntKind)(x:Int)(W:World)(e:Ending)(W':World):Prop where
 ex:e=.returned (.int k x)/\Bel W.heap.size W W'
end
section
open Go.Abs Go.RowKit
abbrev byT(l:List Int):T:=.imm (l.flatMap (Ly.int .u8).trees) l.length none
theorem imm_out{U:Nat->Prop}{w:World}{ts:List T}{n:Nat}{v:Value}(h:TR U w (.imm ts n none) v):∃a k,v=.slice a n k:=by cases h<;>exact⟨_,_,rfl⟩
structure IsL(n:Nat)(er:Int)(W:World)(e:Ending)(W':World):Prop where
 ex:(∃a k,e=.returned (.tuple #[.slice a n k,.int .i64 er]))/\Bel W.heap.size W W'
variable {U U':Nat->Prop}{W:World}{i s:List Int}{x y:Value}
theorem KO(hi:TR U W (byT i) x)(hs:TR U' W (byT s) y):VR JD W (.agg [.t (byT i),.t (byT s)]) (.agg #[x,y]):=agg2 (noTR hi) (noTR hs)
theorem c30{L:List (List Int×List Int)}{er:Int}(h:M30.m ⟨i,s⟩=some (L,er))(hi:TR U W (byT i) x)(hs:TR U' W (byT s) y):Calls Try.prog 30 #[.agg #[x,y]] W (IsL L.length er W):=by
 have ha:ZN JD W [.agg [.t (byT i),.t (byT s)]] #[.agg #[x,y]]:=⟨rfl,λj hj=>by
  match j,hj with
  |0,_=>exact⟨_,rfl,KO hi hs⟩⟩
 refine(Yi (M30.known.ok ⟨i,s⟩ (L,er) h) ha).mono λe w' ⟨⟨I',cv,he,hv⟩,hb⟩=> ?_;obtain⟨u,v,rfl,h1,h2⟩:=tup2_out hv;obtain⟨a,k,rfl⟩:=imm_out h1;cases h2;exact⟨⟨a,k,he⟩,hb⟩
end
section
open Go.Abs Go.RowKit
theorem Fr.drew(p:Nat->Prop)(w:World):Fr p w w.drew:=⟨rfl,rfl,Nat.le_refl _,λ_ _ _=>rfl⟩
abbrev R8(x:Int):Prop:=0<=x/\x<256
theorem wr8(x:Int):R8 (IntKind.u8.wrap x):=by have:=IntKind.wrap_u8 (n:=x);rw[this];omega
def upd{α:Type}(f:Nat->α)(t:Nat)(x:α):Nat->α:=λi=>if i=t then x else f i
theorem Ze{α:Type}(f:Nat->α)(t:Nat)(x:α):upd f t x t=x:=if_pos rfl
theorem Zt{α:Type}{f:Nat->α}{t i:Nat}{x:α}(h:i≠t):upd f t x i=f i:=if_neg h
structure Kc(w:World)(B bL:Nat)(v:Nat->Value)(L:Nat->List Int)(wr:World):Prop where
 own:∀i,i<7->wr.ownsRow B 5 1 (v i) (L i).length ((L i).map (Value.int .u8))
 apart:∀i j,i<7->j<7->i≠j->∀g,(v i).ownBlock=some g->(v j).ownBlock=some g->False
 r:∀i,i<7->∀p∈L i,R8 p
 blk:wr.heap[bL]? =some (.cells #[v 0,v 1,v 2,v 3,v 4,v 5] 63 (0,0))
 hb:B<=bL
 fr:Fr (· <B) w wr
variable {w wr w1:World}{B bL t:Nat}{v:Nat->Value}{v':Value}{L:Nat->List Int}{o:Obj}{x:Int}
theorem Kc.nil{w wr:World}{B bL:Nat}(h:Fr (· <B) w wr)(hb:B<=bL)(hc:wr.heap[bL]? =some (.cells #[.slice none 0 0,.slice none 0 0,.slice none 0 0,.slice none 0 0,.slice none 0 0,.slice none 0 0] 63 (0,0))):Kc w B bL (λ_=>.slice none 0 0) (λ_=>[]) wr:=
 ⟨λi hi=>World.ownsRow_nil _ _ _ _,λi j _ _ _ g h=>(by cases h),λi _ p hp=>(by cases hp),hc,hb,h⟩
theorem Kc.cell(h:Kc w B bL v L wr)(i:Nat)(hi:i<6):wr.cell? ⟨bL,i,none⟩=some (v i):=by
 have h1:=h.blk
 match i,hi with
 |0,_=>simp[World.cell?,h1]
 |1,_=>simp[World.cell?,h1]
 |2,_=>simp[World.cell?,h1]
 |3,_=>simp[World.cell?,h1]
 |4,_=>simp[World.cell?,h1]
 |5,_=>simp[World.cell?,h1]
theorem Kc.fz(h:Kc w B bL v L wr)(i:Nat):wr.frozen? ⟨bL,i,none⟩=false:=by have h1:=h.blk;simp[World.frozen?,h1]
theorem Kc.notown(h:Kc w B bL v L wr)(ht:t<7):(v t).ownBlock≠some bL:=λe=>by
 rcases (h.own t ht).2 with ⟨e1,_⟩|⟨g,cap,cur,e1,g2,g3,_⟩
 ·rw[e1]at e;cases e
 ·rw[e1]at e;have e:some g=some bL:=e;injection e with e;rw[e,h.blk]at g3;cases g3
theorem Kc.lt(h:Kc w B bL v L wr):bL<wr.heap.size:=(Array.getElem?_eq_some_iff.1 h.blk).1
theorem Kc.drew(h:Kc w B bL v L wr):Kc w B bL v L wr.drew:=⟨λi hi=>jJ (h.own i hi) λ_ _=>rfl,h.apart,h.r,h.blk,h.hb,h.fr.trans (Fr.drew _ _)⟩
theorem Kc.alloc(h:Kc w B bL v L wr)(o:Obj):Kc w B bL v L (wr.alloc o):=
 ⟨λi hi=>(h.own i hi).alloc o,h.apart,h.r,(Below.heap_alloc _ _ _ h.lt).trans h.blk,h.hb,h.fr.trans (Fr.alloc _ _ _)⟩
theorem Kc.gr(h:Kc w B bL v L wr){u:Value}(hu:∀g,u.ownBlock=some g->B<=g)(hg:wr.grownBy w1 u.ownBlock):Fr (· <B) w w1:=
 h.fr.trans (grown_fr hg λb hb e=>by have:=hu b e;omega)
structure Kd(w:World)(B bL t:Nat)(v0:Nat->Value)(v:Nat->Value)(L:Nat->List Int)(wr:World):Prop where
 own:∀i,i<7->wr.ownsRow B 5 1 (v i) (L i).length ((L i).map (Value.int .u8))
 apart:∀i j,i<7->j<7->i≠j->∀g,(v i).ownBlock=some g->(v j).ownBlock=some g->False
 r:∀i,i<7->∀p∈L i,R8 p
 blk:wr.heap[bL]? =some (.cells #[v0 0,v0 1,v0 2,v0 3,v0 4,v0 5] 63 (0,0))
 hb:B<=bL
 fr:Fr (· <B) w wr
theorem Kc.push(h:Kc w B bL v L wr)(ht:t<7)(hx:R8 x)(ho:w1.ownsRow B 5 1 v' ((L t).length+1) ((L t).map (Value.int .u8)++[.int .u8 x]))(hg:wr.grownBy w1 (v t).ownBlock)(hat:v'.ownBlock=(v t).ownBlock\/∃b,wr.heap.size<=b/\v'.ownBlock=some b):
  Kd w B bL t v (upd v t v') (upd L t (L t++[x])) w1:=by
 have hnew:∀j,j<7->j≠t->∀g,v'.ownBlock=some g->(v j).ownBlock=some g->False:=λj hj hjt g h1 h2=>by
  rcases hat with e|⟨b,hb,e⟩
  ·exact h.apart t j ht hj (Ne.symm hjt) g (e▸h1) h2
  ·rw[e]at h1;have:=(own_lt (h.own j hj) h2).2;injection h1 with h1;omega
 refine⟨λi hi=> ?_,λi j hi hj hij g h1 h2=> ?_,λi hi p hp=> ?_,?_,h.hb,h.gr (λg hg=>(own_lt (h.own t ht) hg).1) hg⟩
 ·by_cases e:i=t
  ·subst e;rw[Ze,Ze];simpa using ho
  ·rw[Zt e,Zt e];exact(h.own i hi).kept hg (ne_of λg h1 h2=>h.apart i t hi ht e g h1 h2)
 ·by_cases e:i=t
  ·subst e;rw[Ze]at h1;rw[Zt (Ne.symm hij)]at h2;exact hnew j hj (Ne.symm hij) g h1 h2
  ·rw[Zt e]at h1;by_cases e':j=t
   ·subst e';rw[Ze]at h2;exact hnew i hi e g h2 h1
   ·rw[Zt e']at h2;exact h.apart i j hi hj hij g h1 h2
 ·by_cases e:i=t
  ·subst e;rw[Ze]at hp;rcases List.mem_append.1 hp with hp|hp
   ·exact h.r i hi p hp
   ·rw[List.mem_singleton.1 hp];exact hx
  ·rw[Zt e]at hp;exact h.r i hi p hp
 ·exact(hg.block bL h.lt (Ne.symm (h.notown ht))).trans h.blk
theorem Kd.seven(h:Kd w B bL 6 v (upd v 6 v') L w1):Kc w B bL (upd v 6 v') L w1:=⟨h.own,h.apart,h.r,h.blk,h.hb,h.fr⟩
theorem Kd.store(h:Kd w B bL t v (upd v t v') L w1)(ht:t<6):Kc w B bL (upd v t v') L (w1.setCell ⟨bL,t,none⟩ v'):=by
 have hlt:bL<w1.heap.size:=(Array.getElem?_eq_some_iff.1 h.blk).1;refine⟨λi hi=>jJ (h.own i hi) λg hg=>Below.heap_setCell _ _ _ g λe=> ?_,h.apart,h.r,?_,h.hb,h.fr.trans (Fr.setCell _ _ _ (by have:=h.hb;show¬bL<B;omega))⟩
 ·rcases (h.own i hi).2 with ⟨e1,_⟩|⟨g',cap,cur,e1,g2,g3,_⟩
  ·rw[e1]at hg;cases hg
  ·rw[e1]at hg;have hg:some g'=some g:=hg;injection hg with hg;have e:g=bL:=e;rw[hg,e,h.blk]at g3;cases g3
 ·have hs:(w1.setCell ⟨bL,t,none⟩ v').heap[bL]? =some (.cells (#[v 0,v 1,v 2,v 3,v 4,v 5].setIfInBounds t v') 63 (0,0)):=(by have e:=(Array.getElem?_eq_some_iff.1 h.blk).2;simp[World.setCell,hlt,Array.getElem_modify,e]);rw[hs];congr 2
  match t,ht with
  |0,_=>rfl
  |1,_=>rfl
  |2,_=>rfl
  |3,_=>rfl
  |4,_=>rfl
  |5,_=>rfl
theorem upd_len{L:Nat->List Int}{t n:Nat}{x:Int}(h:∀i,(L i).length<=n)(i:Nat):(upd L t (L t++[x]) i).length<=n+1:=by
 by_cases e:i=t
 ·subst e;rw[Ze];have:=h i;simp;omega
 ·rw[Zt e];have:=h i;omega
theorem Kc.bytes(h:Kc w B bL v L wr)(i:Nat)(hi:i<7):TR (λ_=>True) wr (byT (L i)) (v i):=bytes_tree (h.own i hi)
end
section
open Go.Abs Go.RowKit
theorem k_trees(k:IntKind)(xs:List Int):xs.flatMap (Ly.int k).trees=xs.map (T.int k):=by
 induction xs with
 |nil=>rfl
 |cons x xs ih=>rw[List.flatMap_cons,ih];rfl
abbrev kT(k:IntKind)(l:List Int):T:=.imm (l.flatMap (Ly.int k).trees) l.length none
theorem jI{k:IntKind}{W:World}{lo e N n c:Nat}{q:Option Addr}{l:List Int}(h:W.ownsRow lo e 1 (.slice q N c) N (l.map (Value.int k)))(hl:l.length=N)(hn:n<=N):TR (λ_=>True) W (kT k (l.take n)) (.slice q n c):=by
 show TR _ W (.imm ((l.take n).flatMap (Ly.int k).trees) (l.take n).length none) _;rw[k_trees,List.length_take,Nat.min_eq_left (by omega)];by_cases h0:n=0
 ·subst h0;exact TR.imm0 none q c trivial
 rcases h.2 with ⟨h1,_⟩|⟨g,cap,cur,h1,h2,h3,h4,h5,h6,h7⟩
 ·cases h1;omega
 ·cases h1;refine TR.imm _ n none g 0 c (λi=>.int k (l[i]?.getD 0)) trivial ⟨_,_,_,h3⟩ trivial (by omega) (λi hi=> ?_) (λi hi=> ?_)
  ·have hi:i<n:=(by simp at hi;omega);have h8:(l.map (Value.int k))[i]? =some (.int k l[i]):=(by rw[List.getElem?_map,List.getElem?_eq_getElem (by omega)];rfl);rw[<-h7,List.getElem?_take,if_pos (by omega)]at h8;have h9:cur[i]? =some (.int k l[i]):=(by rw[<-h8];simp);rw[List.getElem?_eq_getElem (by omega),Nat.zero_add];simp only[World.cell?,h3];exact h9
  ·have hi':i<n:=(by simp at hi;omega);rw[List.getElem?_eq_getElem (by omega)];simp only[List.getElem_map,List.getElem_take];exact TR.int _ _
theorem jy{k:IntKind}{W:World}{b e n:Nat}{l:List Int}(h:W.heap[b]? =some (.cells (l.map (Value.int k)).toArray e (0,0)))(hn:n<=l.length)(hx:l.length<=100):TR (λ_=>True) W (kT k (l.take n)) (.slice (some ⟨b,0,none⟩) n l.length):=
 jI (lo:=0) (e:=e) ⟨by simp,.inr ⟨b,l.length,_,rfl,Nat.zero_le _,h,Nat.le_refl _,by first|(simp;done)|(unfold maxLen;omega),by first|(simp;done)|(unfold maxLen;omega),by simp[List.take_of_length_le]⟩⟩ rfl hn
variable {w W W':World}{B bL:Nat}{v:Nat->Value}{L:Nat->List Int}
theorem Kc.nn(h:Kc w B bL v L W)(i:Nat)(hi:i<7):∀p∈L i,0<=p:=λp hp=>(h.r i hi p hp).1
theorem Kc.pat(h:Kc w B bL v L W)(i j:Nat)(hi:i<7)(hj:j<7):VR JD W (.agg [.t (byT (L i)),.t (byT (L j))]) (.agg #[v i,v j]):=KO (h.bytes i hi) (h.bytes j hj)
theorem Kc.c3(h:Kc w B bL v L W):Calls Try.prog 3 #[.agg #[v 0,v 1],.agg #[v 2,v 3]] W (IsB true W):=
 YM (M3.known.ok ⟨L 0,L 1,L 2,L 3⟩ true (Cu.run3 (h.nn 0 (by omega)) (h.nn 1 (by omega)) (h.nn 2 (by omega)) (h.nn 3 (by omega)))) (jz (h.pat 0 1 (by omega) (by omega)) (h.pat 2 3 (by omega) (by omega)))
theorem Kc.c5(h:Kc w B bL v L W):Calls Try.prog 5 #[.agg #[v 0,v 1],.agg #[v 2,v 3],.agg #[v 4,v 5]] W (IsB true W):=
 YM (M5.known.ok ⟨L 0,L 1,L 2,L 3,L 4,L 5⟩ true (Cu.run5 (h.nn 0 (by omega)) (h.nn 1 (by omega)) (h.nn 2 (by omega)) (h.nn 3 (by omega)) (h.nn 4 (by omega)) (h.nn 5 (by omega)))) (argsR3 (h.pat 0 1 (by omega) (by omega)) (h.pat 2 3 (by omega) (by omega)) (h.pat 4 5 (by omega) (by omega)))
theorem Kc.take6(h:Kc w B bL v L W){N n c:Nat}{q:Option Addr}(h6:v 6=.slice q N c)(hl:(L 6).length=N)(hn:n<=N):TR (λ_=>True) W (byT ((L 6).take n)) (.slice q n c):=by have ho:=h.own 6 (by omega);rw[h6,hl]at ho;exact jI ho hl hn
theorem Kc.c4(h:Kc w B bL v L W){N n c:Nat}{q:Option Addr}(h6:v 6=.slice q N c)(hl:(L 6).length=N)(hn:n<=N):Calls Try.prog 4 #[.agg #[v 0,v 1],.slice q n c] W (IsB true W):=
 YM (M4.known.ok ⟨L 0,L 1,(L 6).take n⟩ true (Cu.run4 (h.nn 0 (by omega)) (h.nn 1 (by omega)) λx hx=>by have:=h.r 6 (by omega) x (List.mem_of_mem_take hx);omega)) (jz (h.pat 0 1 (by omega) (by omega)) (noTR (h.take6 h6 hl hn)))
theorem str_tree(U:Nat->Prop)(W:World)(s:ByteArray):TR U W (.str s.data.toList) (.string s):=by have:=TR.str (U:=U) (w:=W) s.data.toList;simpa using this
theorem Kc.c6(h:Kc w B bL v L W)(s:ByteArray):Calls Try.prog 6 #[.agg #[v 0,v 1],.string s] W (IsB true W):=
 YM (M6.known.ok ⟨L 0,L 1,s.data.toList⟩ true (Cu.run6 (h.nn 0 (by omega)) (h.nn 1 (by omega)))) (jz (h.pat 0 1 (by omega) (by omega)) (str_tree _ _ s))
theorem Kc.c7(h:Kc w B bL v L W){N n m c b1 b2 b3:Nat}{x y:Int}{q:Option Addr}(h6:v 6=.slice q N c)(hl:(L 6).length=N)(hN:N<=100)(hn:n<=N)(hm:m<=N)(hn3:n<=3)(hm2:m<=2)(hx:0<=x)
  (e1:W.heap[b1]? =some (.cells #[.int .u8 0,.int .u8 2,.int .u8 3] 5 (0,0))) (e2:W.heap[b2]? =some (.cells #[.int .u8 1,.int .u8 1,.int .u8 1] 5 (0,0))) (e3:W.heap[b3]? =some (.cells #[.int .i64 y,.int .i64 0] 3 (0,0))):
  Calls Try.prog 7 #[.agg #[.slice q n c,.slice (some ⟨b1,0,none⟩) n 3,.slice (some ⟨b2,0,none⟩) n 3,.slice q m c],.int .u8 x,.slice (some ⟨b3,0,none⟩) m 2] W (IsB true W):=by
 have t1:TR (λ_=>True) W (byT (([0,2,3]:List Int).take n)) (.slice (some ⟨b1,0,none⟩) n 3):=jy (l:=[0,2,3]) e1 hn3 (by decide);have t2:TR (λ_=>True) W (byT (([1,1,1]:List Int).take n)) (.slice (some ⟨b2,0,none⟩) n 3):=jy (l:=[1,1,1]) e2 hn3 (by decide);have t3:TR (λ_=>True) W (kT .i64 (([y,0]:List Int).take m)) (.slice (some ⟨b3,0,none⟩) m 2):=jy (l:=[y,0]) e3 hm2 (by simp);refine YM (M7.known.ok ⟨(L 6).take n,([0,2,3]:List Int).take n,([1,1,1]:List Int).take n,(L 6).take m,x,([y,0]:List Int).take m⟩ true (Cu.run7 ?_ ?_ ?_ ?_ ?_ ?_ hx)) (argsR3 (agg4 (noTR (h.take6 h6 hl hn)) (noTR t1) (noTR t2) (noTR (h.take6 h6 hl hm))) (TR.int _ _) (noTR t3))
 ·simp;omega
 ·simp;omega
 ·simp;omega
 ·simp;omega
 ·exact λx hx=>h.nn 6 (by omega) x (List.mem_of_mem_take hx)
 ·intro x hx;have:=List.mem_of_mem_take hx;simp at this;omega
theorem Kc.bel(h:Kc w B bL v L W)(hb:Bel W.heap.size W W')(hB:B<=W.heap.size):Kc w B bL v L W':=
 ⟨λi hi=>jJ (h.own i hi) λg hg=>hb.block g (own_lt (h.own i hi) hg).2,h.apart,h.r,(hb.block _ h.lt).trans h.blk,h.hb,h.fr.trans (hb.fr.imp λb _ hb=>by omega)⟩
theorem Kc.bel'(h:Kc w w.heap.size bL v L W)(hb:Bel W.heap.size W W'):Kc w w.heap.size bL v L W':=h.bel hb h.fr.size
theorem Kc.all(h:Kc w B bL v L W):W.cell? ⟨bL,0,none⟩=some (v 0)/\W.cell? ⟨bL,1,none⟩=some (v 1)/\W.cell? ⟨bL,2,none⟩=some (v 2)/\W.cell? ⟨bL,3,none⟩=some (v 3)/\W.cell? ⟨bL,4,none⟩=some (v 4)/\W.cell? ⟨bL,5,none⟩=some (v 5)/\Kc w B bL v L W:=
 ⟨h.cell 0 (by omega),h.cell 1 (by omega),h.cell 2 (by omega),h.cell 3 (by omega),h.cell 4 (by omega),h.cell 5 (by omega),h⟩
def strs8:Array Value:= #[.string ⟨#[]⟩,.string ⟨#[124]⟩,.string ⟨#[48,49,124,88]⟩,.string ⟨#[48,124,49,124,48]⟩,.string ⟨#[48,49]⟩,.string ⟨#[48,124,122]⟩,.string ⟨#[88,124]⟩,.string ⟨#[124,124]⟩]
def str8(m:Nat):ByteArray:=match strs8[m%8]? with|some (.string s)=>s|_=>⟨#[]⟩
theorem strs8_at(m:Nat):strs8[m%8]? =some (.string (str8 m)):=by
 unfold str8;have h:m%8<8:=Nat.mod_lt _ (by decide);generalize m%8=k at h⊢
 match k,h with
 |0,_=>rfl
 |1,_=>rfl
 |2,_=>rfl
 |3,_=>rfl
 |4,_=>rfl
 |5,_=>rfl
 |6,_=>rfl
 |7,_=>rfl
theorem strs_cell(W:World)(m:Nat):(W.alloc (.cells #[.string ⟨#[]⟩,.string ⟨#[124]⟩,.string ⟨#[48,49,124,88]⟩,.string ⟨#[48,124,49,124,48]⟩,.string ⟨#[48,49]⟩,.string ⟨#[48,124,122]⟩,.string ⟨#[88,124]⟩,.string ⟨#[124,124]⟩] 9)).cell? ⟨W.heap.size,m%8,none⟩=some (.string (str8 m)):=by
 have h:=World.alloc_heap_new W (.cells strs8 9);have h2:(W.alloc (.cells strs8 9)).cell? ⟨W.heap.size,m%8,none⟩=strs8[m%8]? :=by simp only[World.cell?,h];rfl
 exact h2.trans (strs8_at m)
theorem al2(W:World)(x y z:Obj)(n:Nat)(hn:n=W.heap.size+1+1):(((W.alloc x).alloc y).alloc z).heap[n]? =some z:=by have h:=World.alloc_heap_new ((W.alloc x).alloc y) z;rw[World.size_alloc,World.size_alloc]at h;rw[hn];exact h
theorem al1(W:World)(x y z:Obj)(n:Nat)(hn:n=W.heap.size+1):(((W.alloc x).alloc y).alloc z).heap[n]? =some y:=by have h:=World.alloc_heap_new (W.alloc x) y;rw[World.size_alloc]at h;rw[hn];exact(Below.heap_alloc _ _ _ (by simp)).trans h
theorem al0(W:World)(x y z:Obj)(n:Nat)(hn:n=W.heap.size):(((W.alloc x).alloc y).alloc z).heap[n]? =some x:=by have h:=World.alloc_heap_new W x;rw[hn];exact(Below.heap_alloc _ _ _ (by simp;omega)).trans ((Below.heap_alloc _ _ _ (by simp)).trans h)
end
