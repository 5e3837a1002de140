/- A part of the proof. -/
import Derived.Test.YtddaobhpffpmoaaSR7QSd
import Derived.Test.YtddaobhpffpmoaaSR7QGs
import Derived.Test.YtddaobhpffpmoaaSR7QGu
import Derived.BigRegion
import Derived.Deep.RegionWith
import Derived.Deep.DeepCutAuto
set_option linter.all false
set_option maxRecDepth 100000
set_option maxHeartbeats 4000000
namespace Go.Proofs.Ytddaobhpffpmoaa
section
open Go.Abs Go.RowKit
theorem own_lt{W:World}{lo e n:Nat}{v:Value}{xs:List Value}{g:Nat}(h:W.ownsRow lo e 1 v n xs)(hg:v.ownBlock=some g):lo<=g/\g<W.heap.size:=h.lt g hg
theorem own_keep{W W':World}{lo e n:Nat}{v:Value}{xs:List Value}(h:W.ownsRow lo e 1 v n xs)(hk:∀g,v.ownBlock=some g->W'.heap[g]? =W.heap[g]?):W'.ownsRow lo e 1 v n xs:=by
 refine⟨h.1,?_⟩;rcases h.2 with h|⟨g,cap,cur,rfl,g2,g3,g4⟩
 ·exact .inl h
 ·exact .inr ⟨g,cap,cur,rfl,g2,(hk g rfl).trans g3,g4⟩
theorem own_ty{W:World}{lo lo' e e' n n':Nat}{v v':Value}{xs xs':List Value}(h:W.ownsRow lo e 1 v n xs)(h':W.ownsRow lo' e' 1 v' n' xs')(he:e≠e'):v.ownBlock=none\/v.ownBlock≠v'.ownBlock:=by
 rcases h.2 with ⟨rfl,_⟩|⟨g,cap,cur,rfl,g2,g3,_⟩
 ·exact .inl rfl
 ·rcases h'.2 with ⟨rfl,_⟩|⟨g',cap',cur',rfl,g2',g3',_⟩
  ·exact .inr (by simp[Value.ownBlock])
  ·refine .inr λe1=> ?_;injection e1 with e1;have e1:g=g':=e1;rw[e1,g3']at g3;cases g3;exact he rfl
theorem own_base{W:World}{lo lo' e n:Nat}{v:Value}{xs:List Value}(h:W.ownsRow lo e 1 v n xs)(hl:lo'<=lo):W.ownsRow lo' e 1 v n xs:=by
 refine⟨h.1,?_⟩;rcases h.2 with h|⟨g,cap,cur,rfl,g2,g4⟩
 ·exact .inl h
 ·exact .inr ⟨g,cap,cur,rfl,Ao hl g2,g4⟩
structure CuAt(W:World)(lo:Nat)(v:Value)(m:Nat)(rv:Nat->Value)(L:Nat->List Int):Prop where
 own:W.ownsRow lo 110 1 v m ((List.range m).map rv)
 row:∀j,j<m->W.ownsRow lo 111 1 (rv j) (L j).length ((L j).map (Value.int .u8))
 apart:∀j j',j<m->j'<m->j≠j'->(rv j).ownBlock=none\/(rv j).ownBlock≠(rv j').ownBlock
theorem CuAt.keep{W W':World}{lo:Nat}{v:Value}{m:Nat}{rv:Nat->Value}{L:Nat->List Int}(h:CuAt W lo v m rv L)(hk:∀b,lo<=b->b<W.heap.size->W'.heap[b]? =W.heap[b]?):CuAt W' lo v m rv L:=
 ⟨own_keep h.own λg hg=>hk g (own_lt h.own hg).1 (own_lt h.own hg).2,λj hj=>own_keep (h.row j hj) λg hg=>hk g (own_lt (h.row j hj) hg).1 (own_lt (h.row j hj) hg).2,h.apart⟩
theorem CuAt.bel{W W':World}{lo:Nat}{v:Value}{m:Nat}{rv:Nat->Value}{L:Nat->List Int}(h:CuAt W lo v m rv L)(hb:Bel W.heap.size W W'):CuAt W' lo v m rv L:=h.keep λb _ hlt=>hb.block b hlt
theorem CuAt.grown{W W':World}{lo:Nat}{v:Value}{m:Nat}{rv:Nat->Value}{L:Nat->List Int}(h:CuAt W lo v m rv L){ob:Option Nat}(hg:W.grownBy W' ob)(hne:v.ownBlock=none\/v.ownBlock≠ob)(hr:∀j,j<m->(rv j).ownBlock=none\/(rv j).ownBlock≠ob):CuAt W' lo v m rv L:=
 ⟨h.own.kept hg hne,λj hj=>(h.row j hj).kept hg (hr j hj),h.apart⟩
theorem CuAt.alloc{W:World}{lo:Nat}{v:Value}{m:Nat}{rv:Nat->Value}{L:Nat->List Int}(h:CuAt W lo v m rv L)(o:Obj):CuAt (W.alloc o) lo v m rv L:=h.keep λb _ hlt=>Below.heap_alloc W o b hlt
theorem CuAt.nil(W:World)(lo:Nat)(rv:Nat->Value)(L:Nat->List Int):CuAt W lo (.slice none 0 0) 0 rv L:=⟨CT _ _ _ _,λ_ hj=>absurd hj (BA _),λ_ _ hj=>absurd hj (BA _)⟩
theorem CuAt.push{W W':World}{lo lr:Nat}{v v' lv:Value}{m:Nat}{rv:Nat->Value}{L:Nat->List Int}{r:List Int}(h:CuAt W lo v m rv L)(hg:W.grownBy W' v.ownBlock)(ho:W'.ownsRow lo 110 1 v' (m+1) ((List.range m).map rv++[lv]))
  (hr:W.ownsRow lr 111 1 lv r.length (r.map (Value.int .u8))) (hl:lo<=lr) (hlo:∀j g,j<m->(rv j).ownBlock=some g->g<lr):CuAt W' lo v' (m+1) (λk=>if k=m then lv else rv k) (λk=>if k=m then r else L k):=by
 have e1:(List.range (m+1)).map (λk=>if k=m then lv else rv k)=(List.range m).map rv++[lv]:=by
  rw[Bp,AZ];congr 1
  ·refine Aa λk hk=> ?_;have:=BK.1 hk;rw[AE (by omega)]
  ·simp
 have far:∀j,j<m->(lv.ownBlock=none\/lv.ownBlock≠(rv j).ownBlock)/\((rv j).ownBlock=none\/(rv j).ownBlock≠lv.ownBlock):=λj hj=>by
  cases e:lv.ownBlock with
  |none=>exact⟨.inl rfl,by cases e2:(rv j).ownBlock<;>simp⟩
  |some g=>
   have h1:=(own_lt hr e).1
   cases e2:(rv j).ownBlock with
   |none=>simp
   |some g'=>have:=hlo j g' hj e2;have h3:g≠g':=(by omega);exact⟨.inr (by simpa using h3),.inr (by simpa using BU h3)⟩
 refine⟨e1▸ho,λj hj=> ?_,λj j' hj hj' hne=> ?_⟩
 ·by_cases e:j=m
  ·subst e;simp only[Ai];exact own_base (hr.kept hg (own_ty hr h.own (by decide))) hl
  ·simp only[AE e];exact(h.row j (by omega)).kept hg (own_ty (h.row j (by omega)) h.own (by decide))
 ·by_cases e:j=m
  ·subst e;simp only[Ai];rw[AE (BU hne)];exact(far j' (by omega)).1
  ·by_cases e':j'=m
   ·subst e';simp only[Ai,AE e];exact(far j (by omega)).2
   ·simp only[AE e,AE e'];exact h.apart j j' (by omega) (by omega) hne
theorem CuAt.congr{W:World}{lo:Nat}{v:Value}{m:Nat}{rv:Nat->Value}{L L':Nat->List Int}(h:CuAt W lo v m rv L)(he:∀j,j<m->L j=L' j):CuAt W lo v m rv L':=
 ⟨h.own,λj hj=>he j hj▸h.row j hj,h.apart⟩
theorem own_slice{W:World}{lo e n:Nat}{v:Value}{xs:List Value}(h:W.ownsRow lo e 1 v n xs):∃a k,v=.slice a n k:=by
 rcases h.2 with ⟨rfl,rfl⟩|⟨g,cap,cur,rfl,_⟩
 ·exact⟨_,_,rfl⟩
 ·exact⟨_,_,rfl⟩
theorem own_at{W:World}{lo e n:Nat}{v:Value}{xs:List Value}(h:W.ownsRow lo e 1 v n xs){i:Nat}{u:Value}(hu:xs[i]? =some u):∃g cap cur,v=.slice (some ⟨g,0,none⟩) n cap/\lo<=g/\g<W.heap.size/\W.heap[g]? =some (.cells cur e (0,0))/\cur[i]? =some u/\i<n/\n<=cur.size:=by
 have hi:i<n:=by have:=(AF.1 hu).1;have h1:=h.1;omega
 rcases h.2 with ⟨rfl,rfl⟩|⟨g,cap,cur,rfl,g2,g3,g4,g5,g6,g7⟩
 ·omega
 ·refine⟨g,cap,cur,rfl,g2,(WF.1 g3).1,g3,?_,hi,by omega⟩;rw[<-g7,Cc]at hu;rw[AB (by omega)]at hu;rw[<-hu];simp
theorem CuAt.cells{W:World}{lo:Nat}{v:Value}{m:Nat}{rv:Nat->Value}{L:Nat->List Int}(h:CuAt W lo v m rv L){j i:Nat}(hj:j<m){x:Int}(hx:(L j)[i]? =some x):
  ∃g cap r cap',v=.slice (some ⟨g,0,none⟩) m cap/\rv j=.slice (some ⟨r,0,none⟩) (L j).length cap'/\lo<=r/\r<W.heap.size/\W.cell? ⟨g,j,none⟩=some (rv j)/\W.cell? ⟨r,i,none⟩=some (.int .u8 x)/\W.frozen? ⟨r,i,none⟩=false/\i<(L j).length:=by
 obtain⟨g,cap,cur,h1,_,_,h4,h5,_⟩:=own_at h.own (i:=j) (u:=rv j) (by rw[AX,Be hj];rfl);obtain⟨r,cap',cur',g1,g2,g2',g4,g5,g6,_⟩:=own_at (h.row j hj) (i:=i) (u:=.int .u8 x) (by rw[AX,hx];rfl);exact⟨g,cap,r,cap',h1,g1,g2,g2',by simp[World.cell?,h4,h5],by simp[World.cell?,g4,g5],by simp[World.frozen?,g4],g6⟩
theorem CuAt.head{W:World}{lo:Nat}{v:Value}{m:Nat}{rv:Nat->Value}{L:Nat->List Int}(h:CuAt W lo v m rv L){j:Nat}(hj:j<m):
  ∃g cap a k,v=.slice (some ⟨g,0,none⟩) m cap/\rv j=.slice a (L j).length k/\W.cell? ⟨g,j,none⟩=some (rv j):=by
 obtain⟨g,cap,cur,h1,_,_,h4,h5,_⟩:=own_at h.own (i:=j) (u:=rv j) (by rw[AX,Be hj];rfl);obtain⟨a,k,h6⟩:=own_slice (h.row j hj);exact⟨g,cap,a,k,h1,h6,by simp[World.cell?,h4,h5]⟩
theorem CuAt.set{W:World}{lo:Nat}{v:Value}{m:Nat}{rv:Nat->Value}{L:Nat->List Int}(h:CuAt W lo v m rv L){j i r cap:Nat}(hj:j<m)(hi:i<(L j).length)(hr:rv j=.slice (some ⟨r,0,none⟩) (L j).length cap)(x:Int):
  CuAt (W.setCell ⟨r,i,none⟩ (.int .u8 x)) lo v m rv (λk=>if k=j then (L j).set i x else L k):=by
 have hk:∀b,b≠r->(W.setCell ⟨r,i,none⟩ (.int .u8 x)).heap[b]? =W.heap[b]? :=λb hb=>Below.heap_setCell W _ _ _ hb;have hrb:(rv j).ownBlock=some r:=by rw[hr];rfl
 refine⟨own_keep h.own λg hg=>hk g λe=> ?_,λk hk'=> ?_,h.apart⟩
 ·rcases own_ty h.own (h.row j hj) (by decide) with h1|h1
  ·rw[h1]at hg;cases hg
  ·rw[hg,hrb,e]at h1;exact h1 rfl
 ·by_cases e:k=j
  ·subst e;simp only[Ai];obtain⟨h1,h2⟩:=h.row k hk';refine⟨by simp,?_⟩;rcases h2 with ⟨h2,_⟩|⟨g,cap',cur,g1,g2,g3,g4,g5,g6,g7⟩
   ·rw[h2]at hr;cases hr
   ·rw[g1]at hr;cases hr;refine .inr ⟨r,cap,cur.setIfInBounds i (.int .u8 x),by rw[g1,BI],g2,heap_setCell_same g3 _ _,by simpa using g4,g5,by simpa using g6,?_⟩;rw[BI,Array.toList_setIfInBounds,List.take_set,g7,List.map_set]
  ·simp only[AE e];refine own_keep (h.row k hk') λg hg=>hk g λe1=> ?_;rcases h.apart k j hk' hj e with h1|h1
   ·rw[h1]at hg;cases hg
   ·rw[hg,hrb,e1]at h1;exact h1 rfl
theorem own_tree{U:Nat->Prop}{W:World}{lo e n:Nat}{v:Value}{xs:List Value}(h:W.ownsRow lo e 1 v n xs)(ts:List T)(hl:ts.length=n)(ht:∀i (hi:i<ts.length) u,xs[i]? =some u->TR U W ts[i] u)(hU:∀b,lo<=b->U b):TR U W (.imm ts n none) v:=by
 by_cases h0:n=0
 ·subst h0;obtain⟨a,k,rfl⟩:=own_slice h;rw[AN.1 hl];exact TR.imm0 none a k trivial
 ·have hx:∀i,i<n->∃u,xs[i]? =some u:=λi hi=>⟨_,A3 (by have:=h.1;omega)⟩;obtain⟨u0,hu0⟩:=hx 0 (by omega);obtain⟨g,cap,cur,rfl,g2,_,g4,_⟩:=own_at h hu0;rcases h.2 with ⟨hh,_⟩|⟨g',cap',cur',hh,_,_,hc,_⟩
  ·cases hh
  cases hh;refine TR.imm ts n none g 0 cap (λi=>(xs[i]?).getD undef) (hU g g2) ⟨_,_,_,g4⟩ trivial hc (λi hi=> ?_) (λi hi=> ?_)
  ·obtain⟨u,hu⟩:=hx i (by omega);obtain⟨g',cap',cur',hh,_,_,k4,k5,_⟩:=own_at h hu;cases hh;rw[hu,Ac];simp[World.cell?,k4,k5]
  ·obtain⟨u,hu⟩:=hx i (by omega);have:=ht i hi u hu;rw[hu];exact this
theorem u8_trees(r:List Int):r.flatMap (Ly.int .u8).trees=r.map (T.int .u8):=M32.Kl r
theorem CuAt.tree{U:Nat->Prop}{W:World}{lo:Nat}{v:Value}{m:Nat}{rv:Nat->Value}{L:Nat->List Int}(h:CuAt W lo v m rv L)(hU:∀b,lo<=b->U b):TR U W (.imm (((List.range m).map L).flatMap (Ly.sl (.int .u8)).trees) ((List.range m).map L).length none) v:=by
 rw[M61.rows_trees,AG,Bn];refine own_tree h.own _ (by simp) (λj hj u hu=> ?_) hU;have hj':j<m:=by simpa using hj
 rw[AX,Be hj']at hu;cases hu;simp only[AM,List.getElem_range];rw[u8_trees];refine own_tree (h.row j hj') _ (by simp) (λi hi u hu=> ?_) hU;have hi':i<(L j).length:=by simpa using hi
 rw[AX,A3 hi']at hu;cases hu;simp only[AM];exact TR.int _ _
end
section
open Go.Abs Go.RowKit
def cubeV(care:List Int)(k:Nat)(x:Int):Int:=if k / 8<care.length/\(((care[k / 8]?.getD 0) / 2^(k%8)).tmod 2==1)=true then x else 2
def cubeRow(care:List Int)(c:Nat)(X:List (List Int))(j i:Nat):List Int:=(List.range i).map λk=>cubeV care (j*c+k) ((X[j]?.getD [])[k]?.getD 0)
theorem cubeRow_len(care:List Int)(c:Nat)(X:List (List Int))(j i:Nat):(cubeRow care c X j i).length=i:=by simp[cubeRow]
theorem cubeRow_succ(care:List Int)(c:Nat)(X:List (List Int))(j i:Nat):cubeRow care c X j (i+1)=cubeRow care c X j i++[cubeV care (j*c+i) ((X[j]?.getD [])[i]?.getD 0)]:=by simp[cubeRow,Bp]
theorem bytes_read{U:Nat->Prop}{w:World}{xs:List Int}{v:Value}(h:TR U w (.imm (xs.flatMap (Ly.int .u8).trees) xs.length none) v):
  ∃a k,v=.slice a xs.length k/\∀i (hi:i<xs.length),∃b off,a=some ⟨b,off,none⟩/\w.cell? ⟨b,off+i,none⟩=some (.int .u8 xs[i]):=by
 rw[u8_trees]at h;generalize ht:T.imm (xs.map (T.int .u8)) xs.length none=t at h
 cases h with
 |imm0 cap' a c hc=>injection ht with h1 h2;have h3:xs=[]:=AN.1 h2;subst h3;exact⟨a,c,rfl,λk hk=>by simp at hk⟩
 |imm cs len cap' b off c f hb hr hc hle hcell ht'=>injection ht with h1 h2;subst h1;subst h2;refine⟨_,c,rfl,λk hk=>⟨b,off,rfl,?_⟩⟩;have hk':k<(xs.map (T.int .u8)).length:=(by simpa using hk);rw[hcell k hk'];have h5:=ht' k hk';simp only[AM]at h5;generalize f k=u at h5⊢;cases h5;rfl
 |_=>cases ht
theorem rows_read{U:Nat->Prop}{w:World}{X:List (List Int)}{v:Value}(h:TR U w (.imm (X.flatMap (Ly.sl (.int .u8)).trees) X.length none) v):
  ∃a k,v=.slice a X.length k/\∀j (hj:j<X.length),∃b off aj kj,a=some ⟨b,off,none⟩/\w.cell? ⟨b,off+j,none⟩=some (.slice aj X[j].length kj)/\
   ∀i (hi:i<X[j].length),∃b' off',aj=some ⟨b',off',none⟩/\w.cell? ⟨b',off'+i,none⟩=some (.int .u8 X[j][i]):=by
 rw[M61.rows_trees]at h;generalize ht:T.imm (X.map λr=>T.imm (r.flatMap (Ly.int .u8).trees) r.length none) X.length none=t at h
 cases h with
 |imm0 cap' a c hc=>injection ht with h1 h2;have h3:X=[]:=AN.1 h2;subst h3;exact⟨a,c,rfl,λk hk=>by simp at hk⟩
 |imm cs len cap' b off c f hb hr hc hle hcell ht'=>injection ht with h1 h2;subst h1;subst h2;refine⟨_,c,rfl,λj hj=> ?_⟩;have hk':j<(X.map λr=>T.imm (r.flatMap (Ly.int .u8).trees) r.length none).length:=(by simpa using hj);have h5:=ht' j hk';have h6:=hcell j hk';simp only[AM]at h5;obtain⟨aj,kj,h7,h8⟩:=bytes_read h5;rw[h7]at h6;exact⟨b,off,aj,kj,rfl,h6,h8⟩
 |_=>cases ht
theorem tr_below{U:Nat->Prop}{w:World}{t:T}{v:Value}(h:TR U w t v):TR (· <w.heap.size) w t v:=h.mono λb _ hr=>⟨hr.lt,rfl⟩
theorem tr_fr{B:Nat}{w w':World}{t:T}{v:Value}(h:TR (· <B) w t v)(hf:Fr (· <B) w w'):TR (· <B) w' t v:=h.mono λb hb hr=>⟨hb,hf.keep b hr.lt hb⟩
structure IsCu(B:Nat)(w:World)(m:Nat)(L:Nat->List Int)(e:Ending)(w':World):Prop where
 ex:∃v rv,e=.returned v/\CuAt w' B v m rv L/\Bel B w w'
theorem grown_fr{W W':World}{ob:Option Nat}{p:Nat->Prop}(hg:W.grownBy W' ob)(hp:∀b,p b->ob≠some b):Fr p W W':=⟨hg.os,hg.output,hg.size,λb hb h=>hg.block b hb (BU (hp b h))⟩
theorem cube_walk(w:World)(N T c':Int)(vp vo vc:Value)(X:List (List Int))(c:Nat)(hX:∀r∈X,r.length=c)(hX8:X.length<=64)(hc:c<=64)(care:List Int)(hcl:care.length<=4096)
  (ho:TR (· <w.heap.size) w (.imm (X.flatMap (Ly.sl (.int .u8)).trees) X.length none) vo) (hcr:TR (· <w.heap.size) w (.imm (care.flatMap (Ly.int .u8).trees) care.length none) vc):
  Calls Try.prog 62 #[.agg #[.int .i64 N,.int .u64 T,vp,.int .i64 c'],vo,vc] w (IsCu w.heap.size w X.length (λj=>cubeRow care c X j c)):=by
 obtain⟨a,k,rfl,_⟩:=rows_read ho;obtain⟨ac,kc,rfl,_⟩:=bytes_read hcr;obtain⟨i0,hi,hz0,hz1,hz2⟩:=info_parts info110;obtain⟨i1,hj,hy0,hy1,hy2⟩:=info_parts info111
 go_enter Try.func62,Try.ntmps62
 go_wp2
 generalize hW0:w.alloc (.cells #[.int .i64 N,.int .u64 T,vp,.int .i64 c'] 102)=W0;have hF0:Fr (· <w.heap.size) w W0:=hW0▸Fr.alloc _ _ _;have hB:w.heap.size<=W0.heap.size:=hF0.size
 go_loopw [7,8,9] (λv n p wr=>∃(j:Nat) (rv:Nat->Value),p=.int .i64 j/\n=.int .i64 ((j*c:Nat):Int)/\j<=X.length/\CuAt wr w.heap.size v j rv (λj=>cubeRow care c X j c)/\Fr (· <w.heap.size) w wr) (λ_ _ p _=>X.length - (intOf p).toNat)
 case atStart=>exact⟨0,λ_=>.slice none 0 0,rfl,by simp,B4 _,CuAt.nil _ _ _ _,hF0⟩
 case round=>
  obtain⟨j,rv,rfl,rfl,hjm,hcu,hfr⟩:=hrel;by_cases hjl:j<X.length
  ·have hxj:X[j]? =some X[j]:=A3 hjl;have hlj:X[j].length=c:=hX _ (AJ hjl);obtain⟨a',k',hh,hread⟩:=rows_read (tr_fr ho hfr);cases hh;obtain⟨b,off,aj,kj,rfl,hcj,_⟩:=hread j hjl;rw[hlj]at hcj;clear hread;have hsz:w.heap.size<=wr.heap.size:=hfr.size;obtain⟨wo,hwo⟩:∃wo,wo=wr:=⟨_,rfl⟩;subst hwo
   go_wp2
   go_loopw [8,10,11,12] (λn l q _ wi=>∃i:Nat,q=.int .i64 i/\n=.int .i64 ((j*c+i:Nat):Int)/\i<=c/\wi.ownsRow wo.heap.size 111 1 l i ((cubeRow care c X j i).map (Value.int .u8))/\CuAt wi w.heap.size u7 j rv (λj=>cubeRow care c X j c)/\Fr (· <w.heap.size) w wi/\wo.heap.size<=wi.heap.size) (λ_ _ q _ _=>c - (intOf q).toNat)
   case atStart=>exact⟨0,rfl,by simp,B4 _,CT _ _ _ _,hcu,hfr,A9 _⟩
   case round=>
    obtain⟨i,rfl,rfl,hic,hown,hcu',hfr',hsz'⟩:=hrel;obtain⟨a',k',hh,hread⟩:=rows_read (tr_fr ho hfr');cases hh;obtain⟨b2,off2,aj2,kj2,hh,hcj2,hrow⟩:=hread j hjl;cases hh;rw[hlj]at hcj2;by_cases hil:i<c
    ·obtain⟨b3,off3,rfl,hci⟩:=hrow i (by omega);have hp:j*c+i<=4096:=(by have:=Nat.mul_le_mul (show j<=63 by omega) hc;omega);have hV:cubeRow care c X j (i+1)=cubeRow care c X j i++[cubeV care (j*c+i) X[j][i]]:=(by rw[cubeRow_succ,hxj];simp[A3 (show i<X[j].length by omega)]);generalize hpd:j*c+i=p at*
     have e8:Int.tdiv (p:Int) 8=((p / 8:Nat):Int):=rfl;have e9:Int.tmod (p:Int) 8=((p%8:Nat):Int):=rfl;clear hread hrow;obtain⟨ac',kc',hh,hcare⟩:=bytes_read (tr_fr hcr hfr');cases hh
     -- one round,whatever the cell is
     have fin:∀(x:Int) (lv':Value) (w1:World),x=cubeV care p X[j][i]->w1.ownsRow wo.heap.size 111 1 lv' (i+1) ((cubeRow care c X j i).map (Value.int .u8)++[.int .u8 x])->(wr.alloc (.cells #[.int .u8 x] 111)).grownBy w1 u10.ownBlock->
       w1.ownsRow wo.heap.size 111 1 lv' (i+1) ((cubeRow care c X j (i+1)).map (Value.int .u8))/\CuAt w1 w.heap.size u7 j rv (λj=>cubeRow care c X j c)/\Fr (· <w.heap.size) w w1/\wo.heap.size<=w1.heap.size:=λx lv' w1 hx ho1 hg1=>by
      refine⟨by rw[hV,AZ,<-hx];exact ho1,(hcu'.alloc _).grown hg1 ?_ ?_,?_,Ao hsz' (Ao (by simp) hg1.size)⟩
      ·have:=own_ty (hcu'.own) hown (by decide);exact this
      ·intro j' hj'
       cases e1:(rv j').ownBlock with
       |none=>exact .inl rfl
       |some g'=>refine .inr λe2=> ?_;have h1:=(own_lt hown e2.symm).1;have h2:=(own_lt (hcu.row j' hj') e1).2;omega
      ·refine(hfr'.trans (Fr.alloc _ _ _)).trans (grown_fr hg1 λb hb e=> ?_);have:=(own_lt hown e).1;omega
     by_cases hb:p / 8<care.length
     ·obtain⟨b4,off4,rfl,hcc⟩:=hcare _ hb;clear hcare;by_cases hbit:((care[p / 8] / 2^(p%8)).tmod 2==1)=true
      ·skip
       go_wp2_with (at_builtin;refine CS _ rfl _ _ 110 rfl wo.heap.size 111 i1 (.int .u8 0) 1 1 Try.underlying110 hj hy0 hy1 hy2 rfl (by decide) u10 i _ rfl (hown.alloc _) ⟨wr.heap.size,0,none⟩ 1 1 [.int .u8 X[j][i]] rfl rfl ?p1 ?p2 ?p3 ?p4 ?p5 ?_)
       try case p1=>
        intro j' u hj'
        match j',hj' with
        |0,hj'=>simp at hj';subst hj';simp[Addr.add]
       case p2=>first|rfl|(intro u hu;simp at hu;subst hu;rfl)
       case p3=>unfold maxLen;omega
       case p4=>omega
       case p5=>first|omega|(simp;omega)
       intro lv' w1 hown1 hgrow1 _;have R:=fin X[j][i] lv' w1 (by
        unfold cubeV;rw[A3 hb,Al,AB ⟨hb,hbit⟩]) hown1 hgrow1
       clear hown1 hgrow1 fin hown
       go_wp2
       go_roundw
       case rel=>exact⟨i+1,by simp,by rw[show j*c+(i+1)=p+1 by omega];simp,by omega,R.1,R.2.1,R.2.2.1,R.2.2.2⟩
       case measure=>simp[intOf];omega
      ·skip
       go_wp2_with (at_builtin;refine CS _ rfl _ _ 110 rfl wo.heap.size 111 i1 (.int .u8 0) 1 1 Try.underlying110 hj hy0 hy1 hy2 rfl (by decide) u10 i _ rfl (hown.alloc _) ⟨wr.heap.size,0,none⟩ 1 1 [.int .u8 2] rfl rfl ?q1 ?q2 ?q3 ?q4 ?q5 ?_)
       try case q1=>
        intro j' u hj'
        match j',hj' with
        |0,hj'=>simp at hj';subst hj';simp[Addr.add]
       case q2=>first|rfl|(intro u hu;simp at hu;subst hu;rfl)
       case q3=>unfold maxLen;omega
       case q4=>omega
       case q5=>first|omega|(simp;omega)
       intro lv' w1 hown1 hgrow1 _;have R:=fin 2 lv' w1 (by
        unfold cubeV;rw[A3 hb,Al,AE (λh=>hbit h.2)]) hown1 hgrow1
       clear hown1 hgrow1 fin hown
       go_wp2
       go_roundw
       case rel=>exact⟨i+1,by simp,by rw[show j*c+(i+1)=p+1 by omega];simp,by omega,R.1,R.2.1,R.2.2.1,R.2.2.2⟩
       case measure=>simp[intOf];omega
     ·skip
      go_wp2_with (at_builtin;refine CS _ rfl _ _ 110 rfl wo.heap.size 111 i1 (.int .u8 0) 1 1 Try.underlying110 hj hy0 hy1 hy2 rfl (by decide) u10 i _ rfl (hown.alloc _) ⟨wr.heap.size,0,none⟩ 1 1 [.int .u8 2] rfl rfl ?r1 ?r2 ?r3 ?r4 ?r5 ?_)
      try case r1=>
       intro j' u hj'
       match j',hj' with
       |0,hj'=>simp at hj';subst hj';simp[Addr.add]
      case r2=>first|rfl|(intro u hu;simp at hu;subst hu;rfl)
      case r3=>unfold maxLen;omega
      case r4=>omega
      case r5=>first|omega|(simp;omega)
      intro lv' w1 hown1 hgrow1 _;have R:=fin 2 lv' w1 (by
       unfold cubeV;rw[AE (λh=>hb h.1)]) hown1 hgrow1
      clear hown1 hgrow1 fin hown
      go_wp2
      go_roundw
      case rel=>exact⟨i+1,by simp,by rw[show j*c+(i+1)=p+1 by omega];simp,by omega,R.1,R.2.1,R.2.2.1,R.2.2.2⟩
      case measure=>simp[intOf];omega
    ·have hie:i=c:=(by omega);subst hie;clear hread hrow;have hrl:(cubeRow care i X j i).length=i:=cubeRow_len _ _ _ _ _;obtain⟨ao,ko,rfl⟩:=own_slice hown;have fin:∀(v':Value) (w1:World),w1.ownsRow w.heap.size 110 1 v' (j+1) ((List.range j).map rv++[(.slice ao i ko)])->(wr.alloc (.cells #[(.slice ao i ko)] 110)).grownBy w1 u7.ownBlock->
       CuAt w1 w.heap.size v' (j+1) (λk=>if k=j then (.slice ao i ko) else rv k) (λj=>cubeRow care i X j i)/\Fr (· <w.heap.size) w w1:=λv' w1 ho1 hg1=>by
      refine⟨((hcu'.alloc _).push hg1 ho1 (lr:=wo.heap.size) (r:=cubeRow care i X j i) (by rw[hrl];exact hown.alloc _) hsz λj' g hj' hg=>(own_lt (hcu.row j' hj') hg).2).congr λk _=> ?_,(hfr'.trans (Fr.alloc _ _ _)).trans (grown_fr hg1 λb hb e=> ?_)⟩
      ·by_cases e:k=j
       ·subst e;simp
       ·simp[e]
      ·have:=(own_lt hcu'.own e).1;omega
     go_wp2_with (at_builtin;refine CS _ rfl _ _ 104 rfl w.heap.size 110 i0 (.slice none 0 0) 1 24 Try.underlying104 hi hz0 hz1 hz2 rfl (by decide) u7 j _ rfl (hcu'.own.alloc _) ⟨wr.heap.size,0,none⟩ 1 1 [(.slice ao i ko)] rfl rfl ?c1 ?c2 ?c3 ?c4 ?c5 ?_)
     case c1=>
      intro j' u hj'
      match j',hj' with
      |0,hj'=>simp at hj';subst hj';simp[Addr.add]
     case c2=>intro u hu;simp at hu;subst hu;rfl
     case c3=>unfold maxLen;omega
     case c4=>omega
     case c5=>simp;omega
     intro v' w1 hown1 hgrow1 _;have R:=fin v' w1 hown1 hgrow1;clear hown1 hgrow1 fin hown
     go_wp2
     go_roundw
     case rel=>exact⟨j+1,_,by simp,by rw[As];simp,by omega,R.1,R.2⟩
     case measure=>simp[intOf];omega
  ·have hje:j=X.length:=(by omega);subst hje
   go_wp2
   refine Bu (results_tmp rfl _ _ _) rfl ⟨⟨u7,rv,rfl,hcu,hfr.bel (A9 _)⟩⟩
end
section
open Go.Abs Go.RowKit
abbrev phT(ph:List Int):T:=.imm (ph.flatMap (Ly.int .u64).trees) ph.length none
abbrev celT(L:List (List Int)):T:=.imm (L.flatMap (Ly.sl (.int .u8)).trees) L.length none
abbrev dV(N T:Int)(ph:List Int)(a:Option Addr)(k:Nat)(c:Int):Value:=.agg #[.int .i64 N,.int .u64 T,.slice a ph.length k,.int .i64 c]
theorem noTR{U:Nat->Prop}{w:World}{t:T}{v:Value}(h:TR U w t v):TR Qf.un w t v:=h.mono λb _ _=>⟨Zu b,rfl⟩
theorem args_d2{U:Nat->Prop}{w:World}{N T c:Int}{ph:List Int}{a:Option Addr}{k:Nat}{x:Abs.T}{v:Value}(hp:TR U w (phT ph) (.slice a ph.length k))(hv:TR Qf.un w x v):
  Ji Qf w [.agg [.t (.int .i64 N),.t (.int .u64 T),.t (phT ph),.t (.int .i64 c)],.c (.t x)] #[dV N T ph a k c,v]:=by
 refine⟨rfl,λi hi=> ?_⟩;have hi:i<2:=hi
 match i,hi with
 |0,_=>
  refine⟨_,rfl,_,rfl,rfl,λj hj=> ?_⟩;have hj:j<4:=hj
  match j,hj with
  |0,_=>exact⟨_,rfl,TR.int _ _⟩
  |1,_=>exact⟨_,rfl,TR.int _ _⟩
  |2,_=>exact⟨_,rfl,noTR hp⟩
  |3,_=>exact⟨_,rfl,TR.int _ _⟩
 |1,_=>exact⟨_,rfl,hv⟩
theorem tup2_out{ι:Map}{w:World}{x y:T}{v:Value}(h:VR ι w (.tup [.inl (.t x),.inl (.t y)]) v):∃a b,v=.tuple #[a,b]/\TR ι.un w x a/\TR ι.un w y b:=by
 obtain⟨arr,rfl,h1,h2⟩:=h;obtain⟨u0,e0,g0⟩:=h2 0 (by simp);obtain⟨u1,e1,g1⟩:=h2 1 (by simp);refine⟨u0,u1,?_,g0,g1⟩;congr 1;refine Bt (by simpa using h1) λi hi _=> ?_;have hi:i<2:=by simpa [h1] using hi
 match i,hi with
 |0,_=>exact(WF.1 e0).2
 |1,_=>exact(WF.1 e1).2
structure IsX(L:List (List Int))(er:Int)(W:World)(e:Ending)(W':World):Prop where
 ex:∃v,e=.returned (.tuple #[v,.int .i64 er])/\TR (· <W'.heap.size) W' (celT L) v/\Bel W.heap.size W W'
theorem exp_calls{U:Nat->Prop}{W:World}{N T c s er:Int}{ph:List Int}{a:Option Addr}{k:Nat}{L:List (List Int)}(h:M61.m ⟨N,T,ph,c,s⟩=some (L,er))(hp:TR U W (phT ph) (.slice a ph.length k)):
  Calls Try.prog 61 #[dV N T ph a k c,.int .u64 s] W (IsX L er W):=by
 have hk:Qo Try.prog 61 [.agg [.t (.int .i64 N),.t (.int .u64 T),.t (phT ph),.t (.int .i64 c)],.c (.t (.int .u64 s))] [] λv τ=>v=.tup [.inl (.t (celT L)),.inl (.t (.int .i64 er))]/\τ=[]:=M61.known.ok ⟨N,T,ph,c,s⟩ (L,er) h;refine(calls_tree hk (args_d2 hp (TR.int _ _))).mono λe w' ⟨⟨I',cv,he,hv⟩,hb⟩=> ?_;obtain⟨u,v,rfl,h1,h2⟩:=tup2_out hv;cases h2;exact⟨⟨u,he,tr_below h1,hb⟩⟩
structure IsE(s er:Int)(W:World)(e:Ending)(W':World):Prop where
 ex:e=.returned (.tuple #[.int .u64 s,.int .i64 er])/\Bel W.heap.size W W'
theorem enc_calls{U U':Nat->Prop}{W:World}{N T c s er:Int}{ph:List Int}{a:Option Addr}{k:Nat}{L:List (List Int)}{v:Value}(h:M63.m ⟨N,T,ph,c,L⟩=some (s,er))(hp:TR U W (phT ph) (.slice a ph.length k))(hv:TR U' W (celT L) v):
  Calls Try.prog 63 #[dV N T ph a k c,v] W (IsE s er W):=by
 have hk:Qo Try.prog 63 [.agg [.t (.int .i64 N),.t (.int .u64 T),.t (phT ph),.t (.int .i64 c)],.c (.t (celT L))] [] λv τ=>v=.tup [.inl (.t (.int .u64 s)),.inl (.t (.int .i64 er))]/\τ=[]:=M63.known.ok ⟨N,T,ph,c,L⟩ (s,er) h;refine(calls_tree hk (args_d2 hp (noTR hv))).mono λe w' ⟨⟨I',cv,he,hv⟩,hb⟩=> ?_;obtain⟨u,v,rfl,h1,h2⟩:=tup2_out hv;cases h1;cases h2;exact⟨⟨he,hb⟩⟩
structure IsB(r:Bool)(W:World)(e:Ending)(W':World):Prop where
 ex:e=.returned (.bool r)/\Bel W.heap.size W W'
theorem ins_calls{U U':Nat->Prop}{W:World}{A B:List (List Int)}{u v:Value}{r:Bool}(h:M64.m ⟨A,B⟩=some r)(hu:TR U W (celT A) u)(hv:TR U' W (celT B) v):Calls Try.prog 64 #[u,v] W (IsB r W):=by
 have hk:Qo Try.prog 64 [.c (.t (celT A)),.c (.t (celT B))] [] λv τ=>v=.c (.t (.bool r))/\τ=[]:=M64.known.ok ⟨A,B⟩ r h;have ha:Ji Qf W [.c (.t (celT A)),.c (.t (celT B))] #[u,v]:=by
  refine⟨rfl,λi hi=> ?_⟩;have hi:i<2:=hi
  match i,hi with
  |0,_=>exact⟨_,rfl,noTR hu⟩
  |1,_=>exact⟨_,rfl,noTR hv⟩
 refine(calls_tree hk ha).mono λe w' ⟨⟨I',cv,he,hv⟩,hb⟩=> ?_;have hv:TR I'.un w' (.bool r) cv:=hv;cases hv;exact⟨⟨he,hb⟩⟩
theorem lives_calls(W:World)(h:M59.m ()=some true):Calls Try.prog 59 #[] W (IsB true W):=by have hk:Qo Try.prog 59 [] [] λv τ=>v=.c (.t (.bool true))/\τ=[]:=M59.known.ok () true h;refine(calls_tree hk (w1:=W) ⟨rfl,λi hi=>absurd hi (BA i)⟩).mono λe w' ⟨⟨I',cv,he,hv⟩,hb⟩=> ?_;have hv:TR I'.un w' (.bool true) cv:=hv;cases hv;exact⟨⟨he,hb⟩⟩
structure IsD(N T:Int)(ph:List Int)(c:Int)(W:World)(e:Ending)(W':World):Prop where
 ex:∃a k,e=.returned (dV N T ph a k c)/\TR (· <W'.heap.size) W' (phT ph) (.slice a ph.length k)/\Bel W.heap.size W W'
theorem of_calls{U:Nat->Prop}{W:World}{n t c N T c':Int}{q ph:List Int}{v:Value}(h:M60.m ⟨n,t,q,c⟩=some (N,T,ph,c'))(hp:TR U W (phT q) v):
  Calls Try.prog 60 #[.agg #[.int .u8 n,.int .u64 t,v,.int .u8 c]] W (IsD N T ph c' W):=by
 have hk:Qo Try.prog 60 [.agg [.t (.int .u8 n),.t (.int .u64 t),.t (phT q),.t (.int .u8 c)]] [] λv τ=>v=.agg [.t (.int .i64 N),.t (.int .u64 T),.t (phT ph),.t (.int .i64 c')]/\τ=[]:=M60.known.ok ⟨n,t,q,c⟩ _ h;have ha:Ji Qf W [.agg [.t (.int .u8 n),.t (.int .u64 t),.t (phT q),.t (.int .u8 c)]] #[.agg #[.int .u8 n,.int .u64 t,v,.int .u8 c]]:=by
  refine⟨rfl,λi hi=> ?_⟩;have hi:i<1:=hi
  match i,hi with
  |0,_=>
   refine⟨_,rfl,_,rfl,rfl,λj hj=> ?_⟩;have hj:j<4:=hj
   match j,hj with
   |0,_=>exact⟨_,rfl,TR.int _ _⟩
   |1,_=>exact⟨_,rfl,TR.int _ _⟩
   |2,_=>exact⟨_,rfl,noTR hp⟩
   |3,_=>exact⟨_,rfl,TR.int _ _⟩
 refine(calls_tree hk ha).mono λe w' ⟨⟨I',cv,he,hv⟩,hb⟩=> ?_;obtain⟨arr,rfl,h1,h2⟩:=hv;obtain⟨u1,e1,g1⟩:=h2 0 (by simp);obtain⟨u2,e2,g2⟩:=h2 1 (by simp);obtain⟨u3,e3,g3⟩:=h2 2 (by simp);obtain⟨u4,e4,g4⟩:=h2 3 (by simp);have g1:TR I'.un w' (.int .i64 N) u1:=g1;have g2:TR I'.un w' (.int .u64 T) u2:=g2;have g3:TR I'.un w' (phT ph) u3:=g3;have g4:TR I'.un w' (.int .i64 c') u4:=g4;cases g1;cases g2;cases g4;obtain⟨a,k,rfl,_⟩:=M61.u64_tree g3;refine⟨⟨a,k,?_,tr_below g3,hb⟩⟩;rw[he];have ea:arr= #[.int .i64 N,.int .u64 T,.slice a ph.length k,.int .i64 c']:=by
  refine Bt (by simpa using h1) λi hi _=> ?_;have hi:i<4:=by simpa [h1] using hi
  match i,hi with
  |0,_=>exact(WF.1 e1).2
  |1,_=>exact(WF.1 e2).2
  |2,_=>exact(WF.1 e3).2
  |3,_=>exact(WF.1 e4).2
 rw[ea]
end
section
open Go.Abs Go.RowKit
def wantL(care:List Int)(c:Nat)(L:List (List Int)):List (List Int):=(List.range L.length).map λj=>cubeRow care c L j c
def wantS(care:List Int)(c:Nat)(L:List (List Int))(j i:Nat)(x:Int):List (List Int):=(List.range L.length).map λk=>if k=j then (cubeRow care c L j c).set i x else cubeRow care c L k c
structure EncOk(n t c sd:Int)(q care:List Int)(N:Nat)(T:Int)(ph:List Int)(cn:Nat)(L:List (List Int))(s:Int)(got:List (List Int)):Prop where
 h60:M60.m ⟨n,t,q,c⟩=some ((N:Int),T,ph,(cn:Int))
 hN:1<=N/\N<=16
 hL0:M61.m ⟨N,T,ph,cn,sd⟩=some (L,0)
 hL:∀r∈L,r.length=cn
 hm:L.length<=64
 hc:cn<=64
 hE:M63.m ⟨N,T,ph,cn,wantL care cn L⟩=some (s,0)
 hG:M61.m ⟨N,T,ph,cn,s⟩=some (got,0)
 hI:M64.m ⟨got,wantL care cn L⟩=some true
 flip:∀j i x,j<L.length->(cubeRow care cn L j cn)[i]? =some x->x≠2->(x=0\/x=1)/\∃s' e' back eb,M63.m ⟨N,T,ph,cn,wantS care cn L j i (1 - x)⟩=some (s',e')/\M61.m ⟨N,T,ph,cn,s'⟩=some (back,eb)/\
  ((e'=9/\s'=0)\/(e'=0/\M64.m ⟨back,wantS care cn L j i (1 - x)⟩=some true))
theorem set_back{l:List Int}{i:Nat}{x y:Int}(h:l[i]? =some x):(l.set i y).set i x=l:=by rw[List.set_set];obtain⟨hi,rfl⟩:=AF.1 h;exact List.set_getElem_self hi
structure EnSt(w:World)(bd B:Nat)(N:Int)(T:Int)(ph:List Int)(a:Option Addr)(k:Nat)(c:Int)(vw:Value)(m:Nat)(rv:Nat->Value)(R:Nat->List Int)(wr:World):Prop where
 box:wr.heap[bd]? =some (.cells #[.int .i64 N,.int .u64 T,.slice a ph.length k,.int .i64 c] 102 (0,0))
 tp:TR (· <bd) wr (phT ph) (.slice a ph.length k)
 cu:CuAt wr B vw m rv R
 fr:Fr (· <w.heap.size) w wr
 lo:w.heap.size<bd/\bd<B/\B<=wr.heap.size
theorem EnSt.keep{w:World}{bd B:Nat}{N T:Int}{ph:List Int}{a:Option Addr}{k:Nat}{c:Int}{vw:Value}{m:Nat}{rv:Nat->Value}{R R':Nat->List Int}{wr wr':World}(h:EnSt w bd B N T ph a k c vw m rv R wr)(hf:Fr (· <B) wr wr')(hc:CuAt wr' B vw m rv R'):EnSt w bd B N T ph a k c vw m rv R' wr':=
 ⟨(hf.keep _ (WF.1 h.box).1 h.lo.2.1).trans h.box,tr_fr h.tp (hf.imp λb _ hb=>by have:=h.lo;omega),hc,h.fr.trans (hf.imp λb _ hb=>by have:=h.lo;omega),h.lo.1,h.lo.2.1,Ao h.lo.2.2 hf.size⟩
theorem EnSt.bel{w:World}{bd B:Nat}{N T:Int}{ph:List Int}{a:Option Addr}{k:Nat}{c:Int}{vw:Value}{m:Nat}{rv:Nat->Value}{R:Nat->List Int}{wr wr':World}(h:EnSt w bd B N T ph a k c vw m rv R wr)(hb:Bel wr.heap.size wr wr'):EnSt w bd B N T ph a k c vw m rv R wr':=
 h.keep (hb.fr.imp λb hl _=>hl) (h.cu.bel hb)
theorem EnSt.cells{w:World}{bd B:Nat}{N T:Int}{ph:List Int}{a:Option Addr}{k:Nat}{c:Int}{vw:Value}{m:Nat}{rv:Nat->Value}{R:Nat->List Int}{wr:World}(h:EnSt w bd B N T ph a k c vw m rv R wr):
  wr.cell? ⟨bd,0,none⟩=some (.int .i64 N)/\wr.cell? ⟨bd,1,none⟩=some (.int .u64 T)/\wr.cell? ⟨bd,2,none⟩=some (.slice a ph.length k)/\wr.cell? ⟨bd,3,none⟩=some (.int .i64 c):=by
 have:=h.box;refine⟨?_,?_,?_,?_⟩<;>simp[World.cell?,this]
theorem EnSt.tree{w:World}{bd B:Nat}{N T:Int}{ph:List Int}{a:Option Addr}{k:Nat}{c:Int}{vw:Value}{m:Nat}{rv:Nat->Value}{R:Nat->List Int}{wr:World}(h:EnSt w bd B N T ph a k c vw m rv R wr):TR (λ_=>True) wr (celT ((List.range m).map R)) vw:=h.cu.tree λ_ _=>trivial
theorem enc_law(w:World)(n t c seed sd:Int)(q care:List Int)(aq:Option Addr)(kq:Nat)(ac:Option Addr)(kc:Nat)(hq:TR (· <w.heap.size) w (phT q) (.slice aq q.length kq))
  (hcr:TR (· <w.heap.size) w (.imm (care.flatMap (Ly.int .u8).trees) care.length none) (.slice ac care.length kc)) (hlive:M59.m ()=some true) (N:Nat) (T:Int) (ph:List Int) (cn:Nat) (L:List (List Int)) (s:Int) (got:List (List Int))
  (hsd:q.length<=8->care.length<=20->sd=seed.tmod (2^N)) (hok:q.length<=8->care.length<=20->EncOk n t c sd q care N T ph cn L s got):
  Calls Try.prog 12 #[.agg #[.int .u8 n,.int .u64 t,.slice aq q.length kq,.int .u8 c],.int .u64 seed,.slice ac care.length kc] w (IsB true w):=by
 have c59:∀W,Calls Try.prog 59 #[] W (IsB true W):=λW=>lives_calls W hlive;by_cases hbig:q.length<=8/\care.length<=20
 ·have hsd:=hsd hbig.1 hbig.2;have hk:=hok hbig.1 hbig.2;clear hok;have hN:=hk.hN;have hq1:((q.length:Nat):Int)<=8:=(by omega);have hq2:((care.length:Nat):Int)<=20:=by omega
  go_enter Try.func12,Try.ntmps12
  go_wp2_with (go_at_call 60;refine(of_calls hk.h60 (tr_fr hq (Fr.alloc _ _ _))).mono ?_)
  rintro e w1 ⟨⟨a,k,rfl,hp1,hb1⟩⟩
  go_wp2
  have n1:(0:Int)<=N:=(by omega);have hne:¬(2:Int)^N=0:=(by have:(0:Int)<2^N:=Int.pow_pos (by decide);omega);have hw2:IntKind.u64.wrap (2^min N 64)=2^N:=by
   have h1:(2:Nat)^N<=2^16:=Bh (by decide) hN.2;have h2:((2:Int)^N)=((2^N:Nat):Int):=(by simp);rw[B1 (by omega),h2];generalize (2:Nat)^N=x at*
   have e:=IntKind.wrap_u64 (n:=(x:Int));rw[e];omega
  clear hq1 hq2 hN hbig;obtain⟨M,hM⟩:∃M,(2:Int)^N=M:=⟨_,rfl⟩;rw[hM]at hne hsd;rw[hM]at hw2;clear hM;have c61:∀W,Fr (· <w1.heap.size) w1 W->Calls Try.prog 61 #[dV N T ph a k cn,.int .u64 (seed.tmod M)] W (IsX L 0 W):=λW hf=>(by rw[<-hsd];exact exp_calls hk.hL0 (tr_fr hp1 hf));clear hsd
  go_cut [8,9] (λv8 v9 wr=>v9=.int .i64 0/\TR (· <wr.heap.size) wr (celT L) v8/\Fr (λ_=>True) (w1.alloc (.cells #[.int .i64 N,.int .u64 T,.slice a ph.length k,.int .i64 cn] 102)) wr)
  case first=>
   go_region_with (go_at_call 61;refine(c61 _ ((Fr.alloc _ _ _).trans (Fr.drew _ _))).mono ?_;rintro e w3 ⟨⟨v3,rfl,ht3,hb3⟩⟩)
   all_goals (go_wp2_with fail;go_meet;exact⟨rfl,ht3,hb3.os,hb3.out,hb3.size,λb hb _=>hb3.block b hb⟩)
  case rest=>
   obtain⟨rfl,ht3,hf3⟩:=hcut;clear hne hw2 c61 n1;have hd3:wc.heap[w1.heap.size]? =some (.cells #[.int .i64 N,.int .u64 T,.slice a ph.length k,.int .i64 cn] 102 (0,0)):=(hf3.keep _ (by simp) trivial).trans (AI _ _);have hs3:w1.heap.size<wc.heap.size:=(by have:=hf3.size;simp at this;omega);have hs1:w.heap.size<w1.heap.size:=(by have:=hb1.size;simp at this;omega);have hcr3:TR (· <w.heap.size) wc (.imm (care.flatMap (Ly.int .u8).trees) care.length none) (.slice ac care.length kc):=
    tr_fr hcr ((Fr.alloc _ _ _).trans ((hb1.fr.imp λb _ hb=>by simp;omega).trans ((Fr.alloc _ _ _).trans (hf3.imp λ_ _ _=>trivial))))
   have hp3:TR (· <w1.heap.size) wc (phT ph) (.slice a ph.length k):=tr_fr hp1 ((Fr.alloc _ _ _).trans (hf3.imp λ_ _ _=>trivial));have hbw3:Fr (· <w.heap.size) w wc:=(Fr.alloc _ _ _).trans ((hb1.fr.imp λb _ hb=>by simp;omega).trans ((Fr.alloc _ _ _).trans (hf3.imp λ_ _ _=>trivial)));clear hb1 hf3 hp1;generalize hbd:w1.heap.size=bd at*
   have d0:wc.cell? ⟨bd,0,none⟩=some (.int .i64 N):=(by simp[World.cell?,hd3]);have d1:wc.cell? ⟨bd,1,none⟩=some (.int .u64 T):=(by simp[World.cell?,hd3]);have d2:wc.cell? ⟨bd,2,none⟩=some (.slice a ph.length k):=(by simp[World.cell?,hd3]);have d3:wc.cell? ⟨bd,3,none⟩=some (.int .i64 cn):=(by simp[World.cell?,hd3]);have c62:=cube_walk wc N T cn (.slice a ph.length k) u8 (.slice ac care.length kc) L cn hk.hL hk.hm hk.hc care (by omega) ht3 (hcr3.mono λb _ hr=>⟨hr.lt,rfl⟩)
   go_wp2_with (go_at_call 62;refine c62.mono ?_)
   rintro e w4 ⟨⟨vw,rv,rfl,hcu,hb4⟩⟩;obtain⟨av,kv,rfl⟩:=own_slice hcu.own;have hst4:EnSt w bd wc.heap.size N T ph a k cn (.slice av L.length kv) L.length rv (λj=>cubeRow care cn L j cn) w4:=⟨(hb4.block _ hs3).trans hd3,tr_fr hp3 (hb4.fr.imp λb _ hb=>by omega),hcu,hbw3.trans (hb4.fr.imp λb _ hb=>by omega),hs1,hs3,hb4.size⟩;clear hcu hb4 c62 d0 d1 d2 d3 hd3 hp3 hbw3 hcr3 ht3;obtain⟨d0,d1,d2,d3⟩:=hst4.cells;have c63:=enc_calls hk.hE hst4.tp hst4.tree;generalize hB:wc.heap.size=B at*
   go_wp2_with (go_at_call 63;refine c63.mono ?_)
   rintro e w5 ⟨⟨rfl,hb5⟩⟩;have hst5:=hst4.bel hb5;clear hst4 hb5 c63 d0 d1 d2 d3;obtain⟨d0,d1,d2,d3⟩:=hst5.cells;have c61:=exp_calls hk.hG hst5.tp
   go_wp2_with (go_at_call 61;refine c61.mono ?_)
   rintro e w6 ⟨⟨vg,rfl,ht6,hb6⟩⟩;have hst6:=hst5.bel hb6;clear hst5 hb6 c61 d0 d1 d2 d3;have c64:=ins_calls hk.hI ht6 hst6.tree
   go_wp2_with (go_at_call 64;refine c64.mono ?_)
   rintro e w7 ⟨⟨rfl,hb7⟩⟩;have hst7:=hst6.bel hb7;clear hst6 hb7 c64 ht6
   go_wp2
   clear hs3 hs1 hB
   go_loopw [15] (λp wr=>∃j:Nat,p=.int .i64 j/\j<=L.length/\EnSt w bd B N T ph a k cn (.slice av L.length kv) L.length rv (λj=>cubeRow care cn L j cn) wr) (λp _=>L.length - (intOf p).toNat)
   case atStart=>exact⟨0,rfl,B4 _,hst7⟩
   case round=>
    clear hst7;obtain⟨j,rfl,hjm,hst⟩:=hrel;have hm:=hk.hm;have hcn:=hk.hc;by_cases hjl:j<L.length
    ·go_wp2
     go_loopw [16] (λp wr=>∃i:Nat,p=.int .i64 i/\i<=cn/\EnSt w bd B N T ph a k cn (.slice av L.length kv) L.length rv (λj=>cubeRow care cn L j cn) wr) (λp _=>cn - (intOf p).toNat)
     case atStart=>exact⟨0,rfl,B4 _,hst⟩
     case round=>
      obtain⟨i,rfl,hic,hst⟩:=hrel;obtain⟨g,cap,ar,kr,hh,hrv,hg⟩:=hst.cu.head hjl;cases hh;rw[cubeRow_len]at hrv;rw[hrv]at hg;by_cases hil:i<cn
      ·obtain⟨x,hx⟩:∃x,(cubeRow care cn L j cn)[i]? =some x:=⟨_,A3 (by rw[cubeRow_len];exact hil)⟩;obtain⟨g',cap',r,capr,hh,hrv',hlo,hlt,k1,k2,k3,_⟩:=hst.cu.cells hjl hx;cases hh;rw[cubeRow_len]at hrv';rw[hrv]at hrv';cases hrv';clear k1;by_cases hx2:x=2
       ·subst hx2
        go_wp2
        go_roundw
        case rel=>exact⟨i+1,by simp,by omega,hst⟩
        case measure=>simp[intOf];omega
       ·go_wp2_with fail
        ·exact⟨⟨i+1,by simp,by omega,hst⟩,by simp[intOf];omega⟩
        ·obtain⟨h01,s',e',back,eb,m63,m61,hcase⟩:=hk.flip j i x hjl hx hx2;obtain⟨y,hy⟩:∃y,1 - x=y:=⟨_,rfl⟩;have hw1:IntKind.u8.wrap (1 - x)=y:=by rcases h01 with rfl|rfl<;>(subst hy;rfl)
         have hw2:IntKind.u8.wrap (1 - y)=x:=by rcases h01 with rfl|rfl<;>(subst hy;rfl)
         rw[hy]at m63 hcase;have hset:=hst.cu.set hjl (by rw[cubeRow_len];exact hil) (by rw[hrv,cubeRow_len]) y;have hsk:EnSt w bd B N T ph a k cn (.slice (some ⟨g,0,none⟩) L.length kv) L.length rv (λq=>if q=j then (cubeRow care cn L j cn).set i y else cubeRow care cn L q cn) (wr.setCell ⟨r,i,none⟩ (.int .u8 y)).drew:=
          hst.keep ((Fr.setCell _ _ _ (by show¬r<B;omega)).trans (Fr.drew _ _)) (hset.keep λb _ _=>rfl)
         clear hset hy
         go_region
         clear hst k2 k3 hg hw1;generalize (wr.setCell ⟨r,i,none⟩ (.int .u8 y)).drew=w8 at*
         obtain⟨d0,d1,d2,d3⟩:=hsk.cells;have c63:=enc_calls m63 hsk.tp hsk.tree;clear m63
         go_wp2_with (go_at_call 63;refine c63.mono ?_)
         rintro e w9 ⟨⟨rfl,hb9⟩⟩;have hs9:=hsk.bel hb9;clear hsk hb9 c63 d0 d1 d2 d3;obtain⟨d0,d1,d2,d3⟩:=hs9.cells;have c61:=exp_calls m61 hs9.tp;clear m61
         go_wp2_with (go_at_call 61;refine c61.mono ?_)
         rintro e w10 ⟨⟨vb,rfl,ht10,hb10⟩⟩;have hs10:=hs9.bel hb10;clear hs9 hb10 c61 d0 d1 d2 d3;rcases hcase with ⟨rfl,rfl⟩|⟨rfl,hI⟩
         ·skip
          have hx1:((λq=>if q=j then (cubeRow care cn L j cn).set i y else cubeRow care cn L q cn) j)[i]? =some y:=(by simp only[Ai];rw[Bc (by rw[cubeRow_len];exact hil)]);have hl1:((λq=>if q=j then (cubeRow care cn L j cn).set i y else cubeRow care cn L q cn) j).length=cn:=(by simp only[Ai];rw[BI,cubeRow_len]);obtain⟨g2,cap2,r2,capr2,hh,hrv2,hlo2,hlt2,q1,q2,q3,_⟩:=hs10.cu.cells hjl hx1;cases hh;rw[hl1,hrv]at hrv2;cases hrv2;rw[hrv]at q1;have hset2:=hs10.cu.set hjl (by rw[hl1];exact hil) (by rw[hrv,hl1]) x;have hend:EnSt w bd B N T ph a k cn (.slice (some ⟨g,0,none⟩) L.length kv) L.length rv (λj=>cubeRow care cn L j cn) (w10.setCell ⟨r,i,none⟩ (.int .u8 x)).drew:=
           hs10.keep ((Fr.setCell _ _ _ (by show¬r<B;omega)).trans (Fr.drew _ _)) ((hset2.congr λq _=>by
            by_cases e:q=j
            ·subst e;simp only[Ai];exact set_back hx
            ·simp only[AE e]).keep λb _ _=>rfl)
          clear hset2 hx1 hl1 hs10 hlo2 hlt2
          go_wp2_with fail
          go_region
          generalize (w10.setCell ⟨r,i,none⟩ (.int .u8 x)).drew=w12 at*
          go_wp2
          go_roundw
          case rel=>exact⟨i+1,by simp,by omega,hend⟩
          case measure=>simp[intOf];omega
         ·have c64:=ins_calls hI ht10 hs10.tree;clear hI
          go_wp2_with (go_at_call 64;refine c64.mono ?_)
          rintro e w11 ⟨⟨rfl,hb11⟩⟩;have hs11:=hs10.bel hb11;clear hs10 hb11 c64 ht10;have hx1:((λq=>if q=j then (cubeRow care cn L j cn).set i y else cubeRow care cn L q cn) j)[i]? =some y:=(by simp only[Ai];rw[Bc (by rw[cubeRow_len];exact hil)]);have hl1:((λq=>if q=j then (cubeRow care cn L j cn).set i y else cubeRow care cn L q cn) j).length=cn:=(by simp only[Ai];rw[BI,cubeRow_len]);obtain⟨g2,cap2,r2,capr2,hh,hrv2,hlo2,hlt2,q1,q2,q3,_⟩:=hs11.cu.cells hjl hx1;cases hh;rw[hl1,hrv]at hrv2;cases hrv2;rw[hrv]at q1;have hset2:=hs11.cu.set hjl (by rw[hl1];exact hil) (by rw[hrv,hl1]) x;have hend:EnSt w bd B N T ph a k cn (.slice (some ⟨g,0,none⟩) L.length kv) L.length rv (λj=>cubeRow care cn L j cn) (w11.setCell ⟨r,i,none⟩ (.int .u8 x)).drew:=
           hs11.keep ((Fr.setCell _ _ _ (by show¬r<B;omega)).trans (Fr.drew _ _)) ((hset2.congr λq _=>by
            by_cases e:q=j
            ·subst e;simp only[Ai];exact set_back hx
            ·simp only[AE e]).keep λb _ _=>rfl)
          clear hset2 hx1 hl1 hs11 hlo2 hlt2
          go_wp2_with fail
          go_region
          generalize (w11.setCell ⟨r,i,none⟩ (.int .u8 x)).drew=w12 at*
          go_wp2
          go_roundw
          case rel=>exact⟨i+1,by simp,by omega,hend⟩
          case measure=>simp[intOf];omega
      ·go_wp2
       go_roundw
       case rel=>exact⟨j+1,by simp,by omega,hst⟩
       case measure=>simp[intOf];omega
    ·go_wp2_with (go_at_call 59;refine(c59 _).mono ?_)
     rintro e w8 ⟨⟨rfl,hb8⟩⟩
     go_wp2
     refine Bu (results_tmp rfl _ _ _) rfl ⟨⟨rfl,?_⟩⟩;exact(hst.fr.trans (hb8.fr.imp λb hb' hb=>by have:=hst.fr.size;omega)).bel (A9 _)
 ·have hf:∀W e w8,Fr (· <w.heap.size) w W->IsB true W e w8->IsB true w e w8:=λW e w8 hF ⟨h⟩=>⟨h.1,(hF.trans (h.2.fr.imp λb hb' hb=>by have:=hF.size;omega)).bel (A9 _)⟩;by_cases h8:q.length<=8
  ·have h1:((q.length:Nat):Int)<=8:=(by omega);have h2:¬((care.length:Nat):Int)<=20:=(by omega);clear hbig
   go_enter Try.func12,Try.ntmps12
   go_wp2_with (go_at_call 59;refine(c59 _).mono ?_)
   rintro e w8 h;have h:=hf _ _ _ (Fr.alloc _ _ _) h;obtain⟨rfl,hb⟩:=h.ex;clear hf
   go_wp2
   exact Bu (results_tmp rfl _ _ _) rfl ⟨⟨rfl,hb⟩⟩
  ·have h1:¬((q.length:Nat):Int)<=8:=(by omega);clear hbig
   go_enter Try.func12,Try.ntmps12
   go_wp2_with (go_at_call 59;refine(c59 _).mono ?_)
   rintro e w8 h;have h:=hf _ _ _ (Fr.alloc _ _ _) h;obtain⟨rfl,hb⟩:=h.ex;clear hf
   go_wp2
   exact Bu (results_tmp rfl _ _ _) rfl ⟨⟨rfl,hb⟩⟩
end
