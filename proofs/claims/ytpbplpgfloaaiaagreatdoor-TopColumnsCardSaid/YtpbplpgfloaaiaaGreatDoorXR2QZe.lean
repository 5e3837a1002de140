/- A part of the proof. -/
import Derived.Test.YtpbplpgfloaaiaaGreatDoorXR2QZd
import Derived.Test.YtpbplpgfloaaiaaGreatDoorXR2QZa
import Derived.Test.YtpbplpgfloaaiaaGreatDoorXR2QZc
import Derived.Test.YtpbplpgfloaaiaaGreatDoorXR2QSyL
import Derived.Test.YtpbplpgfloaaiaaGreatDoorXR2QAbsY
import Derived.BigRegion
import Derived.Deep.RegionWith
import Derived.Deep.DeepCutAuto
import Derived.Defers
import Derived.Recover
import Derived.Deep.RegionHeld3
import Derived.Deep.AppendLies
import Derived.Maps.OwnSet
import Derived.Test.YtpbplpgfloaaiaaGreatDoorTie
import Derived.Test.YtpbplpgfloaaiaaGreatDoorCards
import Derived.LaidLaws
import Derived.SevenTiedAt
import Derived.ChangeSame
import Derived.RowKitTokens
import Derived.ChangeVars
set_option linter.all false
set_option maxRecDepth 100000
set_option maxHeartbeats 4000000
noncomputable section
namespace Go.Proofs.YtpbplpgfloaaiaaGreatDoor
section
open Go.Abs Go.RowKit
namespace Gn
def l133v:FuncId×List AV×AV:=(133,[cA],(.tup [.inl (.t (.imm [ii 1,ii 1,ii 1,ii 1,ii 2,ii 3,ii 4,ii 2] 4 (some 4))),.inl (.t (ii 0))]))
theorem l133:LitOk Tryz.prog l133v:=ck_lit [143,40,98,36,75,131,59] L3_ok (by kernel_rfl) rfl
def l913v:FuncId×List AV×AV:=(91,[cA,fl 3,.c (.t (ii 9))],.c (.t (ii 0)))
theorem l913:LitOk Tryz.prog l913v:=ck_lit [143,40,98,36,75,131,59] L3_ok (by kernel_rfl) rfl
def l911v:FuncId×List AV×AV:=(91,[cA,fl 1,.c (.t (ii 9))],.c (.t (ii 0)))
theorem l911:LitOk Tryz.prog l911v:=ck_lit [143,40,98,36,75,131,59] L3_ok (by kernel_rfl) rfl
theorem o153:Qo Tryz.prog 153 [.c (.t (ii 2))] [] λu τ=>u=.c (.sl ⟨0,0,0⟩ 2 (some 2))/\τ=[{ cs:=[.t (bb 2),.t (bb 2)] }]:=by
 have h:runF3 Tryz.prog (tabW []) md (cfT L0 noCF) 40 10 153 [.c (.t (ii 2))] []=some (.c (.sl ⟨0,0,0⟩ 2 (some 2)),[{ cs:=[.t (bb 2),.t (bb 2)] }]):=by kernel_rfl
 exact runF3_ok mixed (tabW_ok []) (cfT_ok noCF_ok L0_ok) 40 10 _ _ _ _ _ h
def z153v:FuncId×List AV×AV:=(153,[.c (.t (ii 0))],.c (.t (.imm [] 0 (some 0))))
theorem z153:LitOk Tryz.prog z153v:=ck_lit [] L0_ok (by kernel_rfl) rfl
def CA(w:World)(v:Value):Prop:=VR QZ w cA v
theorem CA.bel{w w':World}{v:Value}(h:CA w v)(hb:Aw.Bel w.heap.size w w'):CA w' v:=by
 obtain⟨arr,rfl,h1,h2⟩:=h;refine⟨arr,rfl,h1,λi hi=> ?_⟩;obtain⟨u,e,h3⟩:=h2 i hi;refine⟨u,e,?_⟩;have ht:∀c∈[Cell.t nodesA,.t namesA,.t (.imm [] 0 none),.t (il [3])],∀u,CR QZ w c u->CR QZ w' c u:=by intro c hc u hu;simp only[AW,Ao,Bl]at hc;rcases hc with rfl|rfl|rfl|rfl<;>exact TR.mono hu λb _ hlt=>⟨JT b,hb.block b hlt.lt⟩
 exact ht _ (AH hi) u h3
theorem CA.ex{w:World}{v:Value}(h:CA w v):∃v0 v1 v2 v3,v=.agg #[v0,v1,v2,v3]:=by
 obtain⟨arr,rfl,h1,_⟩:=h;have h1:arr.size=4:=h1;refine⟨arr[0],arr[1],arr[2],arr[3],?_⟩;congr 1;refine CV (by simp[h1]) λj hj hj'=> ?_;have:j<4:=by omega
 rcases (show j=0\/j=1\/j=2\/j=3 by omega) with rfl|rfl|rfl|rfl<;>rfl
theorem CA.args{w:World}{v:Value}(h:CA w v):Yn QZ w [cA] #[v]:=⟨rfl,λi hi=>by
 obtain rfl:i=0:=by simpa using hi
 exact⟨v,rfl,h⟩⟩
structure IsB2(w:World)(e:Ending)(w':World):Prop where
 ex:∃b off cells el,e=.returned (.slice (some ⟨b,off,none⟩) 2 2)/\w.heap.size<=b/\w'.heap[b]? =some (.cells cells el (0,0))/\off+2<=cells.size/\w'.cell? ⟨b,off,none⟩=some (.int .u8 2)/\w'.cell? ⟨b,off+1,none⟩=some (.int .u8 2)
 bel:Aw.Bel w.heap.size w w'
theorem c153{w:World}(hg:Jc QZ w):Calls Tryz.prog 153 #[.int .i64 2] w (IsB2 w):=by
 refine CZ.1 (BI (o153.2 QZ w #[.int .i64 2] hg (UZ w) ⟨rfl,λi hi=> ?_⟩) λe w' ⟨v',S',I',cv,he,⟨h1,h2⟩,h3,h4,h5⟩=> ?_)
 ·obtain rfl:i=0:=(by simpa using hi);exact⟨_,rfl,TR.int _ _⟩
 ·subst h1;subst h2;obtain⟨a,c,rfl,_,s,q1,q2,q3⟩:=h3;obtain⟨o,q4,q5,q6,q7⟩:=h4.obj 0 s q1;obtain rfl:=(Aq q4);obtain⟨_,q8,q9⟩:=q3 q6
  cases hl:s.loc with
  |none=>rw[hl]at q7;first|cases q7|skip
  |some l=>
   rw[hl]at q7 q9;obtain⟨⟨cells,el,r1,r2⟩,r3,r4⟩:=q7;obtain⟨ra,rb,_⟩:=q9;have q8:c=2:=q8;subst q8;have r3:2<=l.tot:=r3;refine⟨⟨l.blk,l.sh,cells,el,by rw[he,ra];rfl,?_,r1,by omega,?_,?_⟩,⟨h5.os,h5.out,h5.size,λb hb=>h5.frame b hb (JT b)⟩⟩
   ·rcases h5.new 0 s l q1 hl with h|⟨id,s',l',h,_⟩
    ·exact h
    ·cases h
   ·obtain⟨v,e1,e2⟩:=r4 0 (by show 0<2;omega);have e2:TR I'.un w' (bb 2) v:=e2;cases e2;exact e1
   ·obtain⟨v,e1,e2⟩:=r4 1 (by show 1<2;omega);have e2:TR I'.un w' (bb 2) v:=e2;cases e2;exact e1
structure IsE(w:World)(e:Ending)(w':World):Prop where
 ex:∃a c,e=.returned (.slice a 0 c)
 bel:Aw.Bel w.heap.size w w'
theorem empty_of{ι:Map}{w:World}{k:Option Nat}{cv:Value}(h:VR ι w (.c (.t (.imm [] 0 k))) cv):∃a c,cv=.slice a 0 c:=by
 have h:TR ι.un w (.imm [] 0 k) cv:=h
 cases h with
 |imm0=>exact⟨_,_,rfl⟩
 |imm=>exact⟨_,_,rfl⟩
theorem d153{w:World}(hg:Jc QZ w):Calls Tryz.prog 153 #[.int .i64 0] w (IsE w):=by
 refine(Aw.calls_tree z153.2.2 hg ⟨rfl,λi hi=> ?_⟩).mono λe w' ⟨⟨I',cv,he,hv⟩,hb⟩=> ?_
 ·obtain rfl:i=0:=(by have hi:i<1:=hi;omega);exact⟨_,rfl,TR.int _ _⟩
 ·obtain⟨a,c,rfl⟩:=empty_of hv;exact⟨⟨a,c,he⟩,hb⟩
theorem c36{w:World}{v:Value}(hg:Jc QZ w)(h:CA w v):Calls Tryz.prog 36 #[v] w (IsE w):=by refine(Aw.calls_tree l36.2.2 hg h.args).mono λe w' ⟨⟨I',cv,he,hv⟩,hb⟩=> ?_;obtain⟨a,c,rfl⟩:=empty_of hv;exact⟨⟨a,c,he⟩,hb⟩
structure IsI2(w:World)(e:Ending)(w':World):Prop where
 ex:∃b off,e=.returned (.slice (some ⟨b,off,none⟩) 2 2)/\b<w'.heap.size/\w'.cell? ⟨b,off,none⟩=some (.int .i64 0)/\w'.cell? ⟨b,off+1,none⟩=some (.int .i64 1)
 bel:Aw.Bel w.heap.size w w'
theorem c75{w:World}{v:Value}(hg:Jc QZ w)(h:CA w v):Calls Tryz.prog 75 #[v] w (IsI2 w):=by
 refine(Aw.calls_tree l75.2.2 hg h.args).mono λe w' ⟨⟨I',cv,he,hv⟩,hb⟩=> ?_;have hv:TR I'.un w' (.imm [ii 0,ii 1] 2 (some 2)) cv:=hv;refine⟨?_,hb⟩
 cases hv with
 |imm cs len cap b off c f hU hrow hcap hle hcells hT=>
  have hcap:c=2:=hcap;subst hcap;refine⟨b,off,he,hrow.lt,?_,?_⟩
  ·have h0:TR I'.un w' (ii 0) (f 0):=hT 0 (by show 0<2;omega);rw[show off=off+0 from rfl,hcells 0 (by show 0<2;omega)];generalize f 0=z at h0;cases h0;rfl
  ·have h0:TR I'.un w' (ii 1) (f 1):=hT 1 (by show 1<2;omega);rw[hcells 1 (by show 1<2;omega)];generalize f 1=z at h0;cases h0;rfl
structure IsT2(t:T)(w:World)(e:Ending)(w':World):Prop where
 ex:∃v,e=.returned (.tuple #[v,.int .i64 0])/\TR QZ.un w' t v
 bel:Aw.Bel w.heap.size w w'
end Gn
end
section
open Go.Abs Go.RowKit
namespace Gn
theorem Bel.drew{B:Nat}{w w1:World}(h:Aw.Bel B w w1):Aw.Bel B w w1.drew:=⟨h.os,h.out,h.size,h.block⟩
structure IsBl(w:World)(e:Ending)(w':World):Prop where
 ex:∃b off cells el a c,e=.returned (.agg #[.slice (some ⟨b,off,none⟩) 2 2,.slice a 0 c])/\w.heap.size<=b/\w'.heap[b]? =some (.cells cells el (0,0))/\off+2<=cells.size/\w'.cell? ⟨b,off,none⟩=some (.int .u8 2)/\w'.cell? ⟨b,off+1,none⟩=some (.int .u8 2)
 bel:Aw.Bel w.heap.size w w'
structure Two(w:World)(v0 v1 v2 v3:Value)(u:Array Value)(tu:TypeId)(W:World):Prop where
 b0:W.heap[w.heap.size]? =some (.cells #[v0,v1,v2,v3] 34 (0,0))
 b1:W.heap[w.heap.size+1]? =some (.cells u tu (0,0))
 bel:Aw.Bel w.heap.size w W
 lt:w.heap.size+2<=W.heap.size
theorem Two.next{w:World}{v0 v1 v2 v3:Value}{u:Array Value}{tu:TypeId}{W W':World}(h:Two w v0 v1 v2 v3 u tu W)(hb:Aw.Bel W.heap.size W W'):Two w v0 v1 v2 v3 u tu W':=
 ⟨(hb.block _ (by have:=h.lt;omega)).trans h.b0,(hb.block _ (by have:=h.lt;omega)).trans h.b1,h.bel.trans (hb.le h.bel.size),by have:=h.lt;have:=hb.size;omega⟩
theorem Two.cells{w:World}{v0 v1 v2 v3:Value}{u:Array Value}{tu:TypeId}{W:World}(h:Two w v0 v1 v2 v3 u tu W):W.cell? ⟨w.heap.size,0,none⟩=some v0/\W.cell? ⟨w.heap.size,1,none⟩=some v1/\W.cell? ⟨w.heap.size,2,none⟩=some v2/\W.cell? ⟨w.heap.size,3,none⟩=some v3:=
 ⟨by simp[World.cell?,h.b0],by simp[World.cell?,h.b0],by simp[World.cell?,h.b0],by simp[World.cell?,h.b0]⟩
theorem Two.c0{w:World}{v0 v1 v2 v3 a b:Value}{tu:TypeId}{W:World}(h:Two w v0 v1 v2 v3 #[a,b] tu W):W.cell? ⟨w.heap.size+1,0,none⟩=some a:=by simp[World.cell?,h.b1]
theorem Two.c1{w:World}{v0 v1 v2 v3 a b:Value}{tu:TypeId}{W:World}(h:Two w v0 v1 v2 v3 #[a,b] tu W):W.cell? ⟨w.heap.size+1,1,none⟩=some b:=by simp[World.cell?,h.b1]
theorem Two.fz0{w:World}{v0 v1 v2 v3:Value}{u:Array Value}{tu:TypeId}{W:World}(h:Two w v0 v1 v2 v3 u tu W):W.frozen? ⟨w.heap.size+1,0,none⟩=false:=by simp[World.frozen?,h.b1]
theorem Two.fz1{w:World}{v0 v1 v2 v3:Value}{u:Array Value}{tu:TypeId}{W:World}(h:Two w v0 v1 v2 v3 u tu W):W.frozen? ⟨w.heap.size+1,1,none⟩=false:=by simp[World.frozen?,h.b1]
theorem Two.out{w:World}{v0 v1 v2 v3 a b:Value}{tu:TypeId}{W:World}(h:Two w v0 v1 v2 v3 #[a,b] tu W)(x y:Value):
  let W':=(W.setCell ⟨w.heap.size+1,0,none⟩ x).setCell ⟨w.heap.size+1,1,none⟩ y
  W'.cell? ⟨w.heap.size+1,0,none⟩=some x/\W'.cell? ⟨w.heap.size+1,1,none⟩=some y/\Aw.Bel w.heap.size w W'/\(∀c,c≠w.heap.size+1->W'.heap[c]? =W.heap[c]?):=by
 have e1:=BS _ _ 0 _ _ x h.b1;have e2:=BS _ _ 1 _ _ y e1;refine⟨by simp[World.cell?,e2],by simp[World.cell?,e2],(h.bel.trans (Aw.Bel.setCell _ _ (by simp))).trans (Aw.Bel.setCell _ _ (by simp)),λc hc=>(Below.heap_setCell _ _ _ _ hc).trans (Below.heap_setCell _ _ _ _ hc)⟩
theorem res132:Tryz.f132.results= #[.cell 2 74]:=by kernel_rfl
theorem blank_walk(w:World)(v0 v1 v2 v3:Value)(hg:Jc QZ w)(hc:CA w (.agg #[v0,v1,v2,v3])):Calls Tryz.prog 132 #[.agg #[v0,v1,v2,v3]] w (IsBl w):=by
 have hC:∀W,Two w v0 v1 v2 v3 #[.slice none 0 0,.slice none 0 0] 74 W->Jc QZ W/\CA W (.agg #[v0,v1,v2,v3]):=λW hb=>⟨Aw.gl_bel hg hb.bel,hc.bel hb.bel⟩;clear hg hc;have H0:Two w v0 v1 v2 v3 #[.slice none 0 0,.slice none 0 0] 74 ((w.alloc (.cells #[v0,v1,v2,v3] 34)).alloc (.cells #[.slice none 0 0,.slice none 0 0] 74)).drew:=
  ⟨(Below.heap_alloc _ _ _ (by simp)).trans (Bm _ _),by have:=Bm (w.alloc (.cells #[v0,v1,v2,v3] 34)) (.cells #[.slice none 0 0,.slice none 0 0] 74);simp only[World.size_alloc]at this;exact this,Bel.drew ((Aw.Bel.alloc _ (A6 _)).trans (Aw.Bel.alloc _ (by simp))),by simp[World.drew]⟩
 go_enter Tryz.func132,Tryz.ntmps132
 go_wp2_with fail
 go_region_with (first|(go_at_call 75;refine(c75 (hC _ H0).1 (hC _ H0).2).mono ?_;rintro e w3 ⟨⟨b3,o3,rfl,l3,p3,q3⟩,hb3⟩;have H3:=H0.next hb3;obtain⟨d0,d1,d2,d3⟩:=H3.cells)|(go_at_call 153;first|(refine(c153 (hC _ H3).1).mono ?_;rintro e w4 ⟨⟨b4,o4,z4,el4,rfl,l4,p4,q4,r4,s4⟩,hb4⟩;have H4:=H3.next hb4;obtain⟨e0,e1,e2,e3⟩:=H4.cells)|(refine(d153 (hC _ H5).1).mono ?_;rintro e w6 ⟨⟨a6,c6,rfl⟩,hb6⟩;have H6:=H5.next hb6;have f0:=H6.c0;have f1:=H6.c1;have f2:=H6.fz0;have f3:=H6.fz1))|(go_at_call 36;refine(c36 (hC _ H4).1 (hC _ H4).2).mono ?_;rintro e w5 ⟨⟨a5,c5,rfl⟩,hb5⟩;have H5:=H4.next hb5))
 all_goals (go_wp2_with fail)
 all_goals
  obtain⟨g0,g1,g2,g3⟩:=H6.out (.slice (some ⟨b4,o4,none⟩) 2 2) (.slice a6 0 c6);have hlt4:b4<w4.heap.size:=(A8.1 p4).1;have hne:b4≠w.heap.size+1:=(by have:=H3.lt;omega);have hk:((w6.setCell ⟨w.heap.size+1,0,none⟩ (.slice (some ⟨b4,o4,none⟩) 2 2)).setCell ⟨w.heap.size+1,1,none⟩ (.slice a6 0 c6)).heap[b4]? =w4.heap[b4]? :=(g3 _ hne).trans ((hb6.block _ (by have:=hb5.size;omega)).trans (hb5.block _ hlt4));refine Bj (v:=.agg #[.slice (some ⟨b4,o4,none⟩) 2 2,.slice a6 0 c6]) ?_ rfl ⟨⟨b4,o4,z4,el4,a6,c6,rfl,by have:=H3.lt;omega,hk.trans p4,q4,(BL hk).trans r4,(BL hk).trans s4⟩,g2⟩;simp[results,res132,go_sem,g0,g1]
end Gn
end
section
open Go.Abs Go.RowKit Go.Maps Go.WideMaps
namespace Gn
structure T9(w:World)(v0 v1 v2 v3:Value)(n:Int)(W:World):Prop where
 b0:W.heap[w.heap.size]? =some (.cells #[v0,v1,v2,v3] 34 (0,0))
 b1:W.heap[w.heap.size+1]? =some (.cells #[.int .u8 0,.int .i64 n,.int .i64 (-1),.int .u8 0,.int .i64 0] 58 (0,0))
 bel:Aw.Bel w.heap.size w W
 lt:w.heap.size+2<=W.heap.size
theorem T9.next{w:World}{v0 v1 v2 v3:Value}{n:Int}{W W':World}(h:T9 w v0 v1 v2 v3 n W)(hb:Aw.Bel W.heap.size W W'):T9 w v0 v1 v2 v3 n W':=
 ⟨(hb.block _ (by have:=h.lt;omega)).trans h.b0,(hb.block _ (by have:=h.lt;omega)).trans h.b1,h.bel.trans (hb.le h.bel.size),by have:=h.lt;have:=hb.size;omega⟩
theorem T9.alloc{w:World}{v0 v1 v2 v3:Value}{n:Int}{W:World}(h:T9 w v0 v1 v2 v3 n W)(o:Obj):T9 w v0 v1 v2 v3 n (W.alloc o):=h.next (Aw.Bel.alloc o (A6 _))
theorem T9.all{w:World}{v0 v1 v2 v3:Value}{n:Int}{W:World}(h:T9 w v0 v1 v2 v3 n W):
  W.cell? ⟨w.heap.size,0,none⟩=some v0/\W.cell? ⟨w.heap.size,1,none⟩=some v1/\W.cell? ⟨w.heap.size,2,none⟩=some v2/\W.cell? ⟨w.heap.size,3,none⟩=some v3/\
  W.cell? ⟨w.heap.size+1,0,none⟩=some (.int .u8 0)/\W.cell? ⟨w.heap.size+1,1,none⟩=some (.int .i64 n)/\W.cell? ⟨w.heap.size+1,2,none⟩=some (.int .i64 (-1))/\W.cell? ⟨w.heap.size+1,3,none⟩=some (.int .u8 0)/\W.cell? ⟨w.heap.size+1,4,none⟩=some (.int .i64 0)/\T9 w v0 v1 v2 v3 n W:=
 ⟨by simp[World.cell?,h.b0],by simp[World.cell?,h.b0],by simp[World.cell?,h.b0],by simp[World.cell?,h.b0],by simp[World.cell?,h.b1],by simp[World.cell?,h.b1],by simp[World.cell?,h.b1],by simp[World.cell?,h.b1],by simp[World.cell?,h.b1],h⟩
theorem alloc_new{W:World}{o:Obj}{b:Nat}(h:b=W.heap.size):(W.alloc o).heap[b]? =some o:=by subst h;exact Bm _ _
theorem alloc_old{W:World}{o o':Obj}{b:Nat}(h:W.heap[b]? =some o):(W.alloc o').heap[b]? =some o:=(Below.heap_alloc _ _ _ (A8.1 h).1).trans h
theorem keepB{W W':World}(h:Aw.Bel W.heap.size W W'){b:Nat}{o:Obj}(ho:W.heap[b]? =some o):W'.heap[b]? =some o:=(h.block _ (A8.1 ho).1).trans ho
structure Beg(w:World)(v0 v1 v2 v3:Value)(n:Int)(v7:Value)(W:World):Prop where
 ex:∃bs b1 bm bi off cells el a c,v7=.pointer (some ⟨bs,0,none⟩)/\
  W.heap[bs]? =some (.cells #[.pointer (some ⟨b1,0,none⟩),v0,v1,v2,v3,.int .u8 0,.int .i64 n,.int .i64 (-1),.int .u8 0,.int .i64 0,.slice none 0 0,.map (some bm),.slice none 0 0,.slice (some ⟨bi,off,none⟩) 2 2,.slice a 0 c] 243 (0,0))/\
  W.heap[b1]? =some (.cells #[.int .i64 9,.int .i64 0] 240 (0,0))/\W.heap[bm]? =some (.map #[] 0)/\W.heap[bi]? =some (.cells cells el (0,0))/\
  (w.heap.size+2<=bs/\w.heap.size+2<=b1/\w.heap.size+2<=bm/\w.heap.size+2<=bi)/\(bi≠bs/\bi≠b1/\bi≠bm)/\off+2<=cells.size/\W.cell? ⟨bi,off,none⟩=some (.int .u8 2)/\W.cell? ⟨bi,off+1,none⟩=some (.int .u8 2)
 t9:T9 w v0 v1 v2 v3 n W
structure Sr(w:World)(v0 v1 v2 v3:Value)(n:Int)(bs b1 bm bi off:Nat)(cells:Array Value)(el:TypeId)(a:Option Addr)(c:Nat)(x10 x12:Value)(W:World):Prop where
 s:W.heap[bs]? =some (.cells #[.pointer (some ⟨b1,0,none⟩),v0,v1,v2,v3,.int .u8 0,.int .i64 n,.int .i64 (-1),.int .u8 0,.int .i64 0,x10,.map (some bm),x12,.slice (some ⟨bi,off,none⟩) 2 2,.slice a 0 c] 243 (0,0))
 b:W.heap[b1]? =some (.cells #[.int .i64 9,.int .i64 0] 240 (0,0))
 i:W.heap[bi]? =some (.cells cells el (0,0))
 t9:T9 w v0 v1 v2 v3 n W
section
variable {w:World}{v0 v1 v2 v3:Value}{n:Int}{bs b1 bm bi off:Nat}{cells:Array Value}{el:TypeId}{a:Option Addr}{c:Nat}{x10 x12:Value}{W:World}
theorem Sr.next{W':World}(h:Sr w v0 v1 v2 v3 n bs b1 bm bi off cells el a c x10 x12 W)(hb:Aw.Bel W.heap.size W W'):Sr w v0 v1 v2 v3 n bs b1 bm bi off cells el a c x10 x12 W':=
 ⟨keepB hb h.s,keepB hb h.b,keepB hb h.i,h.t9.next hb⟩
theorem Sr.map{W':World}(h:Sr w v0 v1 v2 v3 n bs b1 bm bi off cells el a c x10 x12 W)(hn:bs≠bm/\b1≠bm/\bi≠bm)(hl:w.heap.size+2<=bm)(hb:W.grownBy W' (some bm)):Sr w v0 v1 v2 v3 n bs b1 bm bi off cells el a c x10 x12 W':=by have hk:∀k o,k≠bm->W.heap[k]? =some o->W'.heap[k]? =some o:=λk o h1 h2=>(hb.block _ (A8.1 h2).1 (λe=>h1 (Aq e))).trans h2;refine⟨hk _ _ hn.1 h.s,hk _ _ hn.2.1 h.b,hk _ _ hn.2.2 h.i,⟨hk _ _ (by omega) h.t9.b0,hk _ _ (by omega) h.t9.b1,h.t9.bel.trans ⟨hb.os,hb.output,hb.size,λk hk=>hb.block k (BV hk h.t9.bel.size) (λe=>by have:=Aq e;omega)⟩,BN h.t9.lt hb.size⟩⟩
theorem Sr.cost(h:Sr w v0 v1 v2 v3 n bs b1 bm bi off cells el a c x10 x12 W)(hn:bs≠b1/\bs≠bi)(hl:w.heap.size+2<=bs)(x:Value):Sr w v0 v1 v2 v3 n bs b1 bm bi off cells el a c x x12 (W.setCell ⟨bs,10,none⟩ x):=by have hk:∀k,k≠bs->(W.setCell ⟨bs,10,none⟩ x).heap[k]? =W.heap[k]? :=λk hc=>Below.heap_setCell _ _ _ _ hc;refine⟨by have:=BS _ _ 10 _ _ x h.s;simpa using this,(hk _ (Bs hn.1)).trans h.b,(hk _ (Bs hn.2)).trans h.i,⟨(hk _ (by omega)).trans h.t9.b0,(hk _ (by omega)).trans h.t9.b1,h.t9.bel.trans (Aw.Bel.setCell _ _ (by simp;omega)),by simpa [World.setCell] using h.t9.lt⟩⟩
theorem Sr.order(h:Sr w v0 v1 v2 v3 n bs b1 bm bi off cells el a c x10 x12 W)(hn:bs≠b1/\bs≠bi)(hl:w.heap.size+2<=bs)(x:Value):Sr w v0 v1 v2 v3 n bs b1 bm bi off cells el a c x10 x (W.setCell ⟨bs,12,none⟩ x):=by have hk:∀k,k≠bs->(W.setCell ⟨bs,12,none⟩ x).heap[k]? =W.heap[k]? :=λk hc=>Below.heap_setCell _ _ _ _ hc;refine⟨by have:=BS _ _ 12 _ _ x h.s;simpa using this,(hk _ (Bs hn.1)).trans h.b,(hk _ (Bs hn.2)).trans h.i,⟨(hk _ (by omega)).trans h.t9.b0,(hk _ (by omega)).trans h.t9.b1,h.t9.bel.trans (Aw.Bel.setCell _ _ (by simp;omega)),by simpa [World.setCell] using h.t9.lt⟩⟩
theorem Sr.drew(h:Sr w v0 v1 v2 v3 n bs b1 bm bi off cells el a c x10 x12 W):Sr w v0 v1 v2 v3 n bs b1 bm bi off cells el a c x10 x12 W.drew:=h.next (Bel.drew (Aw.Bel.refl _ _))
theorem Sr.all4(h:Sr w v0 v1 v2 v3 n bs b1 bm bi off cells el a c x10 x12 W):W.cell? ⟨w.heap.size,0,none⟩=some v0/\W.cell? ⟨w.heap.size,1,none⟩=some v1/\W.cell? ⟨w.heap.size,2,none⟩=some v2/\W.cell? ⟨w.heap.size,3,none⟩=some v3:=
 ⟨h.t9.all.1,h.t9.all.2.1,h.t9.all.2.2.1,h.t9.all.2.2.2.1⟩
theorem Sr.reads(h:Sr w v0 v1 v2 v3 n bs b1 bm bi off cells el a c x10 x12 W):W.cell? ⟨bs,10,none⟩=some x10/\W.cell? ⟨bs,12,none⟩=some x12/\W.cell? ⟨bs,11,none⟩=some (.map (some bm))/\W.frozen? ⟨bs,10,none⟩=false/\W.frozen? ⟨bs,12,none⟩=false:=
 ⟨by simp[World.cell?,h.s],by simp[World.cell?,h.s],by simp[World.cell?,h.s],by simp[World.frozen?,h.s],by simp[World.frozen?,h.s]⟩
end
theorem und105:Tryz.prog.underlying 105=some (.map 3 3):=by kernel_rfl
theorem law3:Keyed Tryz.prog 3:=int_keyed Tryz.underlying3
def Dm:Nat->DataW Unit
 |0=>.map []
 |1=>.map [(.int .i64 0,.lit (.int .i64 0))]
 |_=>D2
theorem imm_slice{U:Nat->Prop}{w:World}{cs:List T}{l:Nat}{k:Option Nat}{v:Value}(h:TR U w (.imm cs l k) v):∃a l' c,v=.slice a l' c:=by
 cases h with
 |imm0=>exact⟨_,_,_,rfl⟩
 |imm=>exact⟨_,_,_,rfl⟩
structure Bits(bI oI:Nat)(W:World):Prop where
 c0:W.cell? ⟨bI,oI,none⟩=some (.int .i64 0)
 c1:W.cell? ⟨bI,oI+1,none⟩=some (.int .i64 1)
theorem Bits.next{bI oI:Nat}{W W':World}(h:Bits bI oI W)(hb:W'.heap[bI]? =W.heap[bI]?):Bits bI oI W':=⟨(BL hb).trans h.c0,(BL hb).trans h.c1⟩
theorem app0(W:World)(b o:Nat)(a:Option Addr)(c:Nat):(Builtin.append_ #[32,32] 32 #[.slice (some ⟨b,o,none⟩) 2 2,.slice a 0 c]).run Tryz.prog W=.ok (.slice (some ⟨b,o,none⟩) 2 2) W:=by
 cases a with
 |none=>simp[go_sem]
 |some a=>
  cases a with
  |mk x y z=>simp[go_sem]
theorem step_append0{w:World}{ops:Array Oper}{o:Oper}{a:Act}{K:Act->World->Prop}{Q:Exit->Act->World->Prop}{E:Prop}(hgd:o.guard=none)(s x:Operand)
  (ho:o.op=.call { callee:=.builtin .append,args:= #[s,x],argTypes:= #[32,32] }) (hty:o.type=32) {b oo:Nat} {y:Option Addr} {c:Nat}
  (hs:a.eval s=.slice (some ⟨b,oo,none⟩) 2 2) (hx:a.eval x=.slice y 0 c) (h:K (a.put o.dst (.slice (some ⟨b,oo,none⟩) 2 2)) w):
  if Region.wanted o (yielded ops a.tmps)=true then Oper.wp Tryz.prog o a w K Q else E:=by
 have hw:Region.wanted o (yielded ops a.tmps)=true:=by simp[Region.wanted,hgd]
 rw[AF hw];have hr:=app0 w b oo y c;unfold Oper.wp execOp;simp only[ho,hty,resolve,invoke,builtin,AQ,Au,AR,List.map_toArray,AT,Bb,hs,hx,hr];exact h
def Far(b1 bi bs bm:Nat)(b:Nat):Prop:=b≠b1/\b≠bi/\b≠bs/\b≠bm
structure IsTR(t:T)(b1 bi bs bm:Nat)(w:World)(e:Ending)(w':World):Prop where
 ex:∃v,e=.returned (.tuple #[v,.int .i64 0])/\TR (Far b1 bi bs bm) w' t v
 bel:Aw.Bel w.heap.size w w'
theorem ints_far{U:Nat->Prop}{w:World}{l:List Int}{n:Nat}{k:Option Nat}{v:Value}(h:TR U w (.imm (l.map ii) n k) v){U':Nat->Prop}(hU:∀b,U b->isRow w b->U' b):TR U' w (.imm (l.map ii) n k) v:=by
 generalize hcs:l.map ii=cs at h
 cases h with
 |imm0 _ a c hc=>exact .imm0 _ a c hc
 |imm cs len cap b off c f hU' hrow hcap hle hcells hT=>subst hcs;refine .imm _ _ _ b off c f (hU b hU' hrow) hrow hcap hle hcells λi hi=> ?_;have h1:=hT i hi;have e:(l.map ii)[i]=T.int .i64 (l[i]'(by simpa using hi)):=(by simp);rw[e]at h1⊢;generalize f i=z at h1;cases h1;exact .int _ _
theorem ctupR{g:FuncId}{l:List Int}{n0:Nat}{k:Option Nat}(hl:Qo Tryz.prog g [cA] [] λu τ=>u=.tup [.inl (.t (.imm (l.map ii) n0 k)),.inl (.t (ii 0))]/\τ=[]){w W:World}{v:Value}(hg:Jc QZ w)(h:CA w v)(hb:Aw.Bel w.heap.size w W)
  {b1 bi bs bm:Nat} (r1:isRow W b1) (r2:isRow W bi) (r3:isRow W bs) (rm:∃es cl,W.heap[bm]? =some (.map es cl)) (l1:w.heap.size<=b1) (l2:w.heap.size<=bi) (l3:w.heap.size<=bs):
  Calls Tryz.prog g #[v] W (IsTR (.imm (l.map ii) n0 k) b1 bi bs bm W):=by
 let ι:Map:=⟨λ_=>none,λb=>b=b1\/b=bi\/b=bs,QZ.ex⟩;have hun:∀b,b<w.heap.size->ι.un b:=λb hb hm=>by
  rcases hm with ⟨id,s,l,h1,_⟩|h1|h1|h1
  ·cases h1
  ·omega
  ·omega
  ·omega
 have hH:HR ι [] W:=⟨λid s h=>(by cases h),λid id' s s' l l' h=>(by cases h),λb hb=>by
  rcases hb with rfl|rfl|rfl<;>assumption,λid s l h=>(by cases h)⟩
 have hG:Jc ι W:=hg.mono λb _ hr=>⟨hun b hr.lt,hb.block b hr.lt⟩;have hA:Yn ι W [cA] #[v]:=⟨rfl,λi hi=>by
  obtain rfl:i=0:=(by simpa using hi);refine⟨v,rfl,?_⟩;obtain⟨arr,rfl,h1,h2⟩:=h;refine⟨arr,rfl,h1,λi hi=> ?_⟩;obtain⟨u,e,h3⟩:=h2 i hi;refine⟨u,e,?_⟩;have ht:∀c∈[Cell.t nodesA,.t namesA,.t (.imm [] 0 none),.t (il [3])],∀u,CR QZ w c u->CR ι W c u:=by intro c hc u hu;simp only[AW,Ao,Bl]at hc;rcases hc with rfl|rfl|rfl|rfl<;>exact TR.mono hu λb _ hlt=>⟨hun b hlt.lt,hb.block b hlt.lt⟩
  exact ht _ (AH hi) u h3⟩
 refine CZ.1 (BI (hl.2 ι W #[v] hG hH hA) λe w' ⟨v',S',I',cv,he,⟨h1,h2⟩,h3,h4,h5⟩=> ?_);subst h1;subst h2;have hbel:Aw.Bel W.heap.size W w':=⟨h5.os,h5.out,h5.size,λb hb=>by
  by_cases hr:ι.res b
  ·exact h5.resKeep b hr
  ·exact h5.frame b hb λhm=>by
    rcases hm with ⟨id,s,l,h1,_⟩|h1
    ·cases h1
    ·exact hr h1⟩
 obtain⟨arr,rfl,hs,hq⟩:=h3;have hs:arr.size=2:=hs;obtain⟨u0,e0,t0⟩:=hq 0 (show 0<2 by omega);obtain⟨u1,e1,t1⟩:=hq 1 (show 1<2 by omega);have t1:TR I'.un w' (ii 0) u1:=t1;cases t1;have t0:TR I'.un w' (.imm (l.map ii) n0 k) u0:=t0;refine⟨⟨u0,?_,ints_far t0 λb hu hr=> ?_⟩,hbel⟩
 ·rw[he];congr 2;refine CV (by rw[hs];rfl) λj hj _=> ?_;rcases (show j=0\/j=1 by omega) with rfl|rfl
  ·exact(A8.1 e0).2
  ·exact(A8.1 e1).2
 ·have hres:∀b,ι.res b->I'.res b:=λb hb=>(by rw[h5.res];exact hb);refine⟨λe=>hu (.inr (hres b (.inl e))),λe=>hu (.inr (hres b (.inr (.inl e)))),λe=>hu (.inr (hres b (.inr (.inr e)))),λe=> ?_⟩;subst e;obtain⟨es,cl,hm⟩:=rm;obtain⟨c,el,fr,hr⟩:=hr;rw[keepB hbel hm]at hr;cases hr
theorem far_bel{t:T}{b1 bi bs bm:Nat}{v:Value}{W W':World}(h:TR (Far b1 bi bs bm) W t v)(hb:Aw.Bel W.heap.size W W'):TR (Far b1 bi bs bm) W' t v:=h.mono λb hf hd=>⟨hf,hb.block b hd.lt⟩
theorem far_set{t:T}{b1 bi bs bm:Nat}{v:Value}{W:World}(h:TR (Far b1 bi bs bm) W t v)(o:Nat)(x:Value):TR (Far b1 bi bs bm) (W.setCell ⟨bs,o,none⟩ x) t v:=h.mono λb hf _=>⟨hf,Below.heap_setCell _ _ _ _ hf.2.2.1⟩
theorem far_map{t:T}{b1 bi bs bm:Nat}{v:Value}{W W':World}(h:TR (Far b1 bi bs bm) W t v)(hb:W.grownBy W' (some bm)):TR (Far b1 bi bs bm) W' t v:=h.mono λb hf hd=>⟨hf,hb.block b hd.lt λe=>hf.2.2.2 (Aq e)⟩
structure IsBeg(n:Int)(w:World)(e:Ending)(w':World):Prop where
 ex:∃ι v,e=.returned v/\HR ι (sig n 0 2 2) w'/\VR ι w' (.c (.ptr ⟨2,0,0⟩)) v/\(∀b,ι.mapped b->w.heap.size<=b)/\Jc ι w'
 bel:Aw.Bel w.heap.size w w'
theorem Sr.beg{w:World}{v0 v1 v2 v3:Value}{n:Int}{bs b1 bm bi off:Nat}{cells:Array Value}{el:TypeId}{a:Option Addr}{c:Nat}{x10 x12:Value}{W:World}{e:Ending}(he:e=.returned (.pointer (some ⟨bs,0,none⟩)))(hg:Jc QZ w)(hc:CA w (.agg #[v0,v1,v2,v3]))
  (h:Sr w v0 v1 v2 v3 n bs b1 bm bi off cells el a c x10 x12 W) (hn:bs≠b1/\bs≠bm/\b1≠bm) (hbi:bi≠bs/\bi≠b1/\bi≠bm) (hl:w.heap.size<=b1/\w.heap.size<=bi/\w.heap.size<=bs) (ho:off+2<=cells.size) (r2:cells[off]? =some (.int .u8 2)) (r3:cells[off+1]? =some (.int .u8 2))
  (F:TR (Far b1 bi bs bm) W (.imm (([1,1,1,1,2,3,4,2]:List Int).map ii) 4 (some 4)) x10) (G:TR (Far b1 bi bs bm) W (.imm (([0,1,2,3]:List Int).map ii) 4 (some 4)) x12) {k:Nat} (M:W.ownsMap Tryz.prog 3 (plainElem (H:=Unit) Tryz.prog 3) bm k D2):
  IsBeg n w e W:=by
 let s0:JH:=⟨some ⟨b1,0,2⟩,1,0⟩;let s1:JH:=⟨some ⟨bi,off,2⟩,1,0⟩;let s2:JH:=⟨some ⟨bs,0,15⟩,1,0⟩;let ι:Map:=⟨λid=>match id with|0=>some s0|1=>some s1|2=>some s2|_=>none,λ_=>False,QZ.ex⟩;have hmap:∀b,ι.mapped b->b=b1\/b=bi\/b=bs:=λb hm=>by
  rcases hm with ⟨id,s,l,h1,h2,rfl⟩|h1
  ·match id,h1 with
   |0,h1=>cases h1;cases h2;exact .inl rfl
   |1,h1=>cases h1;cases h2;exact .inr (.inl rfl)
   |2,h1=>cases h1;cases h2;exact .inr (.inr rfl)
  ·cases h1
 have hge:∀b,ι.mapped b->w.heap.size<=b:=λb hm=>by rcases hmap b hm with rfl|rfl|rfl<;>omega
 have hun:∀b,b<w.heap.size->ι.un b:=λb hb hm=>by have:=hge b hm;omega
 have hfar:∀b,Far b1 bi bs bm b->ι.un b:=λb hf hm=>by
  rcases hmap b hm with rfl|rfl|rfl
  ·exact hf.1 rfl
  ·exact hf.2.1 rfl
  ·exact hf.2.2.1 rfl
 have far:∀{t v},TR (Far b1 bi bs bm) W t v->TR ι.un W t v:=λh=>h.mono λb hf _=>⟨hfar b hf,rfl⟩;have hcirc:∀(i:Nat) (t:T) (v:Value),(#[v0,v1,v2,v3]:Array Value)[i]? =some v->([.t nodesA,.t namesA,.t (.imm [] 0 none),.t (il [3])]:List Cell)[i]? =some (.t t)->TR ι.un W t v:=by intro i t v h1 h2;obtain⟨arr,he,hs,hq⟩:=hc;cases he;obtain⟨hi,h3⟩:=AE.1 h2;obtain⟨u,e,h4⟩:=hq i hi;rw[h1]at e;cases e;have h4:CR QZ w ([.t nodesA,.t namesA,.t (.imm [] 0 none),.t (il [3])]:List Cell)[i] v:=h4;rw[h3]at h4;exact TR.mono (U:=QZ.un) h4 λb _ hlt=>⟨hun b hlt.lt,h.t9.bel.block b hlt.lt⟩
 refine⟨⟨ι,_,he,⟨λid s hs=> ?_,λid id' s s' l l' h1 h2 h3 h4 h5=> ?_,λb hb=>(by cases hb),λid s l _ _ hb=>(by cases hb)⟩,?_,hge,hg.mono λb _ hr=>⟨hun b hr.lt,h.t9.bel.block b hr.lt⟩⟩,h.t9.bel⟩
 ·match id,hs with
  |0,hs=>
   cases hs;refine⟨_,rfl,rfl,rfl,⟨_,_,h.b,by show 0+2<=2;omega⟩,by show 2<=2;omega,λi hi=> ?_⟩;have hi:i<2:=hi;rcases (show i=0\/i=1 by omega) with rfl|rfl
   ·exact⟨.int .i64 9,by simp[World.cell?,h.b,s0],TR.int _ _⟩
   ·exact⟨.int .i64 0,by simp[World.cell?,h.b,s0],TR.int _ _⟩
  |1,hs=>
   cases hs;refine⟨_,rfl,rfl,rfl,⟨_,_,h.i,ho⟩,by show 2<=2;omega,λi hi=> ?_⟩;have hi:i<2:=hi;rcases (show i=0\/i=1 by omega) with rfl|rfl
   ·exact⟨.int .u8 2,by simp[World.cell?,h.i,s1,r2],TR.int _ _⟩
   ·exact⟨.int .u8 2,by simp[World.cell?,h.i,s1,r3],TR.int _ _⟩
  |2,hs=>
   cases hs;refine⟨_,rfl,rfl,rfl,⟨_,_,h.s,by show 0+15<=15;omega⟩,by show 15<=15;omega,λi hi=> ?_⟩;have hi:i<15:=hi;have hcell:∀j v,(#[.pointer (some ⟨b1,0,none⟩),v0,v1,v2,v3,.int .u8 0,.int .i64 n,.int .i64 (-1),.int .u8 0,.int .i64 0,x10,.map (some bm),x12,.slice (some ⟨bi,off,none⟩) 2 2,.slice a 0 c]:Array Value)[j]? =some v->W.cell? ⟨bs,0+j,none⟩=some v:=λj v hv=>(by simp[World.cell?,h.s,hv]);rcases (show i=0\/i=1\/i=2\/i=3\/i=4\/i=5\/i=6\/i=7\/i=8\/i=9\/i=10\/i=11\/i=12\/i=13\/i=14 by omega) with rfl|rfl|rfl|rfl|rfl|rfl|rfl|rfl|rfl|rfl|rfl|rfl|rfl|rfl|rfl
   ·exact⟨_,hcell 0 _ rfl,⟨b1,0,none⟩,rfl,s0,rfl,A6 _,λ_=>⟨_,rfl,rfl⟩⟩
   ·exact⟨_,hcell 1 _ rfl,hcirc 0 _ _ rfl rfl⟩
   ·exact⟨_,hcell 2 _ rfl,hcirc 1 _ _ rfl rfl⟩
   ·exact⟨_,hcell 3 _ rfl,hcirc 2 _ _ rfl rfl⟩
   ·exact⟨_,hcell 4 _ rfl,hcirc 3 _ _ rfl rfl⟩
   ·exact⟨_,hcell 5 _ rfl,TR.int _ _⟩
   ·exact⟨_,hcell 6 _ rfl,TR.int _ _⟩
   ·exact⟨_,hcell 7 _ rfl,TR.int _ _⟩
   ·exact⟨_,hcell 8 _ rfl,TR.int _ _⟩
   ·exact⟨_,hcell 9 _ rfl,TR.int _ _⟩
   ·exact⟨_,hcell 10 _ rfl,far F⟩
   ·exact⟨_,hcell 11 _ rfl,TR.mp D2 bm (λhm=>by rcases hmap bm hm with e|e|e<;>first|exact hn.2.2 e.symm|exact hbi.2.2 e.symm|exact hn.2.1 e.symm) ⟨Tryz.prog,3,3,k,Tryz.underlying3,Tryz.underlying3,M⟩⟩
   ·exact⟨_,hcell 12 _ rfl,far G⟩
   ·exact⟨_,hcell 13 _ rfl,some ⟨bi,off,none⟩,2,rfl,.inr rfl,s1,rfl,A6 _,λ_=>⟨A6 _,trivial,rfl,by show 0+2*1<=2;omega,λ_=>rfl⟩⟩
   ·exact⟨_,hcell 14 _ rfl,TR.imm0 none a c trivial⟩
 ·match id,h1,id',h2 with
  |0,h1,0,h2=>rfl
  |1,h1,1,h2=>rfl
  |2,h1,2,h2=>rfl
  |0,h1,1,h2=>cases h1;cases h2;cases h3;cases h4;exact absurd h5.symm hbi.2.1
  |0,h1,2,h2=>cases h1;cases h2;cases h3;cases h4;exact absurd h5.symm hn.1
  |1,h1,0,h2=>cases h1;cases h2;cases h3;cases h4;exact absurd h5 hbi.2.1
  |1,h1,2,h2=>cases h1;cases h2;cases h3;cases h4;exact absurd h5 hbi.1
  |2,h1,0,h2=>cases h1;cases h2;cases h3;cases h4;exact absurd h5 hn.1
  |2,h1,1,h2=>cases h1;cases h2;cases h3;cases h4;exact absurd h5.symm hbi.1
 ·exact⟨⟨bs,0,none⟩,rfl,s2,rfl,A6 _,λ_=>⟨_,rfl,rfl⟩⟩
theorem begin_walk (w : World) (v0 v1 v2 v3 : Value) (n : Int) (hg : Jc QZ w) (hc : CA w (.agg #[v0,v1,v2,v3])) : Calls Tryz.prog 92 #[.agg #[v0,v1,v2,v3],.agg #[.int .u8 0,.int .i64 n,.int .i64 (-1),.int .u8 0,.int .i64 0],.int .i64 9] w (IsBeg n w) := by
 have hcw : CA w (.agg #[v0,v1,v2,v3]) := hc;have hgw : Jc QZ w := hg;have hC : ∀ W,T9 w v0 v1 v2 v3 n W -> Jc QZ W /\ CA W (.agg #[v0,v1,v2,v3]) := λW hb => ⟨Aw.gl_bel hg hb.bel,hc.bel hb.bel⟩;clear hg hc;have hmm := @run_makeMap Tryz.prog;have H0 : T9 w v0 v1 v2 v3 n ((w.alloc (.cells #[v0,v1,v2,v3] 34)).alloc (.cells #[.int .u8 0,.int .i64 n,.int .i64 (-1),.int .u8 0,.int .i64 0] 58)).drew :=
   ⟨(Below.heap_alloc _ _ _ (by simp)).trans (Bm _ _),by have := Bm (w.alloc (.cells #[v0,v1,v2,v3] 34)) (.cells #[.int .u8 0,.int .i64 n,.int .i64 (-1),.int .u8 0,.int .i64 0] 58); simp only [World.size_alloc] at this; exact this,Bel.drew ((Aw.Bel.alloc _ (A6 _)).trans (Aw.Bel.alloc _ (by simp))),by simp [World.drew]⟩
 have HA := H0.all
 go_enter Tryz.func92,Tryz.ntmps92
 go_wp2_with fail
 go_cut [7] (λv7 wr => Beg w v0 v1 v2 v3 n v7 wr)
 case first =>
  go_region_held3 (λW => W.cell? ⟨w.heap.size,0,none⟩ = some v0 /\ W.cell? ⟨w.heap.size,1,none⟩ = some v1 /\ W.cell? ⟨w.heap.size,2,none⟩ = some v2 /\ W.cell? ⟨w.heap.size,3,none⟩ = some v3 /\
   W.cell? ⟨w.heap.size + 1,0,none⟩ = some (.int .u8 0) /\ W.cell? ⟨w.heap.size + 1,1,none⟩ = some (.int .i64 n) /\ W.cell? ⟨w.heap.size + 1,2,none⟩ = some (.int .i64 (-1)) /\ W.cell? ⟨w.heap.size + 1,3,none⟩ = some (.int .u8 0) /\ W.cell? ⟨w.heap.size + 1,4,none⟩ = some (.int .i64 0) /\ T9 w v0 v1 v2 v3 n W)
   (first | exact HA | exact (H0.alloc _).all | exact ((H0.alloc _).alloc _).all | exact HB.all | exact (HB.alloc _).all | exact ((HB.alloc _).alloc _).all | exact (((HB.alloc _).alloc _).alloc _).all)
   (first
     | (go_at_call 132; refine (blank_walk _ v0 v1 v2 v3 (hC _ H0).1 (hC _ H0).2).mono ?_; rintro e wB ⟨⟨bi,off,cells,el,a,c,rfl,l1,l2,l3,l4,l5⟩,hb⟩; have HB := H0.next hb)
     | (go_at_call 132; refine (blank_walk _ v0 v1 v2 v3 (hC _ (H0.alloc _)).1 (hC _ (H0.alloc _)).2).mono ?_; rintro e wB ⟨⟨bi,off,cells,el,a,c,rfl,l1,l2,l3,l4,l5⟩,hb⟩; have HB := (H0.alloc _).next hb)
     | (go_at_call 132; refine (blank_walk _ v0 v1 v2 v3 (hC _ ((H0.alloc _).alloc _)).1 (hC _ ((H0.alloc _).alloc _)).2).mono ?_; rintro e wB ⟨⟨bi,off,cells,el,a,c,rfl,l1,l2,l3,l4,l5⟩,hb⟩; have HB := ((H0.alloc _).alloc _).next hb))
  all_goals
   go_wp2_with fail
   go_meet
   have hlt := (A8.1 l2).1;have hsz := HB.lt;simp at l1;refine ⟨⟨_,_,_,bi,off,cells,el,a,c,rfl,alloc_new (by simp),?_,?_,?_,?_,?_,l3,?_,?_⟩,?_⟩
   · repeat' first | assumption | exact alloc_new (by simp) | refine alloc_old ?_ | refine keepB hb ?_
   · repeat' first | assumption | exact alloc_new (by simp) | refine alloc_old ?_ | refine keepB hb ?_
   · repeat' first | assumption | refine alloc_old ?_
   · refine ⟨?_,?_,?_,?_⟩ <;> first | omega | (simp; done) | (simp; omega)
   · refine ⟨?_,?_,?_⟩ <;> first | omega | (simp; done) | (simp; omega)
   · refine (BL ?_).trans l4
     refine Eq.trans ?_ l2.symm
     repeat' first | assumption | refine alloc_old ?_
   · refine (BL ?_).trans l5
     refine Eq.trans ?_ l2.symm
     repeat' first | assumption | refine alloc_old ?_
   · first | exact HB.alloc _ | exact (HB.alloc _).alloc _ | exact ((HB.alloc _).alloc _).alloc _
 case rest =>
   obtain ⟨⟨bs,b1,bm,bi,off,cells,el,a,c,rfl,q1,q2,q3,q4,⟨m1,m2,m3,m4⟩,⟨n1,n2,n3⟩,r1,r2,r3⟩,ht⟩ := hcut;have S1 : Sr w v0 v1 v2 v3 n bs b1 bm bi off cells el a c (.slice none 0 0) (.slice none 0 0) wc := ⟨q1,q2,q4,ht⟩;have hne1 : bs ≠ b1 := λe => (by subst e; rw [q1] at q2; cases q2);have hne2 : bs ≠ bm := λe => (by subst e; rw [q1] at q3; cases q3);have hne3 : b1 ≠ bm := λe => (by subst e; rw [q2] at q3; cases q3);obtain ⟨c0,c1,c2,c3,c4,c5,c6,c7,c8,_⟩ := ht.all;have LE : w.heap.size <= b1 /\ w.heap.size <= bi /\ w.heap.size <= bs := (by omega);have k133 := ctupR (l := [1,1,1,1,2,3,4,2]) l133.2.2 hgw hcw ht.bel ⟨_,_,_,S1.b⟩ ⟨_,_,_,S1.i⟩ ⟨_,_,_,S1.s⟩ ⟨_,_,q3⟩ LE.1 LE.2.1 LE.2.2;have R2 : cells[off]? = some (.int .u8 2) := (by simpa [World.cell?,q4] using r2);have R3 : cells[off + 1]? = some (.int .u8 2) := (by simpa [World.cell?,q4] using r3);clear q1 q2 q4 H0 HA r2 r3
   go_wp2_with (go_at_call 133; refine k133.mono ?_)
   rintro e w3 ⟨⟨x10,rfl,hx10⟩,hb3⟩;obtain ⟨x10a,x10l,x10c,rfl⟩ := imm_slice hx10;have S3 := S1.next hb3
   have M3 := keepB hb3 q3;obtain ⟨p0,p1,p2,p3,p4⟩ := S3.reads;have S4 := S3.cost ⟨hne1,Bs n1⟩ m1 (.slice x10a x10l x10c);have F4 := far_set hx10 10 (.slice x10a x10l x10c);have M4 : (w3.setCell ⟨bs,10,none⟩ (.slice x10a x10l x10c)).heap[bm]? = some (.map #[] 0) := (Below.heap_setCell _ _ _ _ (Bs hne2)).trans M3;obtain ⟨d0,d1,d2,d3,_⟩ := S4.t9.all;have k40 := ctupR (l := [0,1,2,3]) l40.2.2 hgw hcw S4.t9.bel ⟨_,_,_,S4.b⟩ ⟨_,_,_,S4.i⟩ ⟨_,_,_,S4.s⟩ ⟨_,_,M4⟩ LE.1 LE.2.1 LE.2.2
   go_wp2_with (go_at_call 40; refine k40.mono ?_)
   rintro e w5 ⟨⟨x12,rfl,hx12⟩,hb5⟩;obtain ⟨x12a,x12l,x12c,rfl⟩ := imm_slice hx12;have S5 := S4.next hb5
   have M5 := keepB hb5 M4;obtain ⟨o0,o1,o2,o3,o4⟩ := S5.reads;have S6 := S5.order ⟨hne1,Bs n1⟩ m1 (.slice x12a x12l x12c);have F6 := far_set (far_bel F4 hb5) 12 (.slice x12a x12l x12c);have G6 := far_set hx12 12 (.slice x12a x12l x12c);have M6 : (w5.setCell ⟨bs,12,none⟩ (.slice x12a x12l x12c)).heap[bm]? = some (.map #[] 0) := (Below.heap_setCell _ _ _ _ (Bs hne2)).trans M5
   go_wp2_with fail
   have S7 := S6.drew;clear o0 o1 o2 o3 o4 d0 d1 d2 d3 p0 p1 p2 p3 p4 c0 c1 c2 c3 c4 c5 c6 c7 c8 k133 k40;generalize hW6 : w5.setCell ⟨bs,12,none⟩ (.slice x12a x12l x12c) = W6 at *
   go_cut [40,41,42] (λv40 v41 v42 wr => v41 = .int .i64 2 /\ v42 = .int .i64 0 /\ Aw.Bel W6.heap.size W6 wr /\ ∃ bI oI,v40 = .slice (some ⟨bI,oI,none⟩) 2 2 /\ Bits bI oI wr)
   case first =>
     have HA := S7.all4
     go_region_held3 (λW => W.cell? ⟨w.heap.size,0,none⟩ = some v0 /\ W.cell? ⟨w.heap.size,1,none⟩ = some v1 /\ W.cell? ⟨w.heap.size,2,none⟩ = some v2 /\ W.cell? ⟨w.heap.size,3,none⟩ = some v3)
       (first | exact HA | exact S8.all4 | exact S9.all4)
       (first
         | (refine step_append0 (by rfl) _ _ (by rfl) (by rfl) (by rfl) (by rfl) ?_)
         | (go_at_call 75; refine (c75 (hC _ S7.t9).1 (hC _ S7.t9).2).mono ?_; rintro e w8 ⟨⟨bI,oI,rfl,lI,pI,qI⟩,hb8⟩; have S8 := S7.next hb8)
         | (go_at_call 36; refine (c36 (hC _ S8.t9).1 (hC _ S8.t9).2).mono ?_; rintro e w9 ⟨⟨a9,c9,rfl⟩,hb9⟩; have S9 := S8.next hb9))
     all_goals
       go_wp2_with fail
       go_meet
       exact ⟨rfl,rfl,((Bel.drew (Aw.Bel.refl _ W6)).trans hb8).trans (hb9.le hb8.size),bI,oI,rfl,(Bits.mk pI qI).next (hb9.block _ lI)⟩
   case rest =>
     obtain ⟨rfl,rfl,hbr,bI,oI,rfl,hI⟩ := hcut;have SR := S6.next hbr
     have FR := far_bel F6 hbr;have GR := far_bel G6 hbr;have MR := keepB hbr M6;clear S1 S3 S4 S5 S6 S7 F4 F6 G6 M3 M4 M5 M6 hb3 hb5 hx10 hx12 hbr hW6 ht q3
     go_wp2_with fail
     go_loopw [42] (λp wr => ∃ k : Nat,k <= 2 /\ p = .int .i64 k /\ Sr w v0 v1 v2 v3 n bs b1 bm bi off cells el a c (.slice x10a x10l x10c) (.slice x12a x12l x12c) wr /\ Bits bI oI wr /\
         TR (Far b1 bi bs bm) wr (.imm (([1,1,1,1,2,3,4,2] : List Int).map ii) 4 (some 4)) (.slice x10a x10l x10c) /\ TR (Far b1 bi bs bm) wr (.imm (([0,1,2,3] : List Int).map ii) 4 (some 4)) (.slice x12a x12l x12c) /\
         wr.ownsMap Tryz.prog 3 (plainElem (H := Unit) Tryz.prog 3) bm k (Dm k)) (λp _ => 2 - (intOf p).toNat)
     case atStart => exact ⟨0,B0 _,rfl,SR,hI,FR,GR,⟨#[],0,MR,⟨by simp,Go.MapKept.stamped_empty 0,by simp⟩,A6 _,rfl⟩⟩
     case round =>
       clear SR FR GR MR hI;obtain ⟨k,hk,rfl,S,I,F,G,M⟩ := hrel;obtain ⟨p0,p1,p2,p3,p4⟩ := S.reads;have i0 := I.c0;have i1 := I.c1;have hIm : bI ≠ bm := λe => (by subst e;obtain ⟨es,cl,hm,_⟩ := M;simp [World.cell?,hm] at i0);rcases (show k = 0 \/ k = 1 \/ k = 2 by omega) with rfl | rfl | rfl
       · go_wp2_with (first
           | (at_mapUpdate; refine wpList_mapUpdate_own _ rfl _ _ _ 105 rfl 3 3 law3 und105 (plainElem (H := Unit) Tryz.prog 3) bm 0 _ rfl M (by unfold maxLen; omega) _ _ _ rfl rfl (keyOf_int_mk Tryz.underlying3 rfl) _ [] (plainElem_int Tryz.underlying3 rfl) ?_; intro w5 hown5 hgrow5)
           | go_in)
         go_roundw
         case rel => exact ⟨1,by omega,rfl,S.map ⟨hne2,hne3,n3⟩ m3 hgrow5,I.next (hgrow5.block _ (World.block_lt_of_cell? wr _ i0) λe => hIm (Aq e)),far_map F hgrow5,far_map G hgrow5,hown5⟩
         case measure => simp [intOf]
       · go_wp2_with (first
           | (at_mapUpdate; refine wpList_mapUpdate_own _ rfl _ _ _ 105 rfl 3 3 law3 und105 (plainElem (H := Unit) Tryz.prog 3) bm 1 _ rfl M (by unfold maxLen; omega) _ _ _ rfl rfl (keyOf_int_mk Tryz.underlying3 rfl) _ [] (plainElem_int Tryz.underlying3 rfl) ?_; intro w5 hown5 hgrow5)
           | go_in)
         go_roundw
         case rel => exact ⟨2,by omega,rfl,S.map ⟨hne2,hne3,n3⟩ m3 hgrow5,I.next (hgrow5.block _ (World.block_lt_of_cell? wr _ i0) λe => hIm (Aq e)),far_map F hgrow5,far_map G hgrow5,hown5⟩
         case measure => simp [intOf]
       · go_wp2
         exact Bj (results_tmp rfl _ _ _) rfl (Sr.beg rfl hgw hcw S ⟨hne1,hne2,hne3⟩ ⟨n1,n2,n3⟩ LE r1 R2 R3 F G M)
end Gn
end
section
open Go.Abs Go.RowKit
namespace Gn
theorem res134:Tryz.f134.results= #[]:=by kernel_rfl
theorem res93:Tryz.f93.results= #[.cell 2 144]:=by kernel_rfl
theorem idle134(p q:Addr)(w:World):CallsD Tryz.prog 134 #[.pointer (some p),.pointer (some q)] .returning w λe u' w'=>e=.returned (.tuple #[])/\u'=.returning/\w'=w:=by refine callsD_of_wpS Tryz.func134 rfl λc₀ cs hu=> ?_;apply wpS_seq;apply wpS_region;simp[wpOpsS,go_sem,recoverD,hu,Tryz.ntmps134,Exit.thenS];apply wpS_seq;apply wpS_region;simp[wpOpsS,go_sem,Exit.thenS];refine wpS_cond (t:=false) (by simp[Act.eval,Array.replicate]) ?_;simp only[AM,Af];refine wpS_of_wp (wp_skip ?_);cases c₀;simp_all [bodyPostS,results,res134]
structure IsRes(st:Int)(B:Nat)(w:World)(e:Ending)(w':World):Prop where
 ex:∃x1 x2 x3 x4,e=.returned (.agg #[.int .u8 st,x1,x2,x3,x4])/\((∃a l c,x1=.slice a l c)/\(∃a l c,x2=.slice a l c)/\(∃a l c,x3=.slice a l c)/\∃u,x4=.int .i64 u)
 bel:Aw.Bel B w w'
structure Sv(w2:World)(bs sh ab ao:Nat)(x13 x14:Value)(u:Int):Prop where
 c0:w2.cell? ⟨bs,sh,none⟩=some (.pointer (some ⟨ab,ao,none⟩))
 c13:w2.cell? ⟨bs,sh+13,none⟩=some x13
 c14:w2.cell? ⟨bs,sh+14,none⟩=some x14
 d1:w2.cell? ⟨ab,ao+1,none⟩=some (.int .i64 u)
 o13:∃a l c,x13=.slice a l c
 o14:∃a l c,x14=.slice a l c
theorem sv_of{ι:Map}{w2:World}{n u a b:Int}{p:Addr}(hH:HR ι (sig n u a b) w2)(hv:VR ι w2 (.c (.ptr ⟨2,0,0⟩)) (.pointer (some p))):∃bs sh ab ao x13 x14,p=⟨bs,sh,none⟩/\Sv w2 bs sh ab ao x13 x14 u:=by
 obtain⟨q,hq,hr⟩:=hv;cases hq;obtain⟨s,h1,h2,_,h3,l,h4,h5⟩:=hH.ref rfl hr;have h6:=h3.row h4;cases h5;obtain⟨y0,e0,z0⟩:=h6 0 (show 0<15 by omega);obtain⟨y13,e13,z13⟩:=h6 13 (show 13<15 by omega);obtain⟨y14,e14,z14⟩:=h6 14 (show 14<15 by omega);obtain⟨q0,rfl,hr0⟩:=z0;obtain⟨s',g1,g2,_,g3,l',g4,g5⟩:=hH.ref rfl hr0;cases g5;obtain⟨y1,e1,z1⟩:=g3.row g4 1 (show 1<2 by omega);have z1:TR ι.un w2 (ii u) y1:=z1;cases z1;refine⟨l.blk,l.sh+0,l'.blk,l'.sh+0,y13,y14,rfl,e0,e13,e14,e1,?_,?_⟩
 ·obtain⟨a,c,rfl,_⟩:=z13;exact⟨_,_,_,rfl⟩
 ·exact imm_slice (U:=ι.un) (w:=w2) (cs:=[]) (l:=0) (k:=none) z14
structure IsFnd(n u' a' b':Int)(found:Bool)(p:Addr)(w:World)(B:Nat)(e:Ending)(w':World):Prop where
 ex:∃ya yl yc,e=.returned (.tuple #[.bool found,.slice ya yl yc])/\∃bs sh ab ao x13 x14,p=⟨bs,sh,none⟩/\Sv w' bs sh ab ao x13 x14 u'
 b0:w'.heap[w.heap.size]? =some (.cells #[.pointer (some p)] 200 (0,0))
 b1:w'.heap[w.heap.size+1]? =some (.cells #[.int .u8 0,.slice none 0 0,.slice none 0 0,.slice none 0 0,.int .i64 0] 144 (0,0))
 bel:Aw.Bel B w w'
theorem five{w2:World}{R:Nat}{x0 x1 x2 x3 x4:Value}(q1:w2.heap[R]? =some (.cells #[x0,x1,x2,x3,x4] 144 (0,0))):
  (w2.frozen? ⟨R,0,none⟩=false/\w2.frozen? ⟨R,1,none⟩=false/\w2.frozen? ⟨R,2,none⟩=false/\w2.frozen? ⟨R,3,none⟩=false/\w2.frozen? ⟨R,4,none⟩=false)/\
  w2.cell? ⟨R,0,none⟩=some x0/\w2.cell? ⟨R,1,none⟩=some x1/\w2.cell? ⟨R,2,none⟩=some x2/\w2.cell? ⟨R,3,none⟩=some x3/\w2.cell? ⟨R,4,none⟩=some x4:=
 ⟨⟨by simp[World.frozen?,q1],by simp[World.frozen?,q1],by simp[World.frozen?,q1],by simp[World.frozen?,q1],by simp[World.frozen?,q1]⟩,by simp[World.cell?,q1],by simp[World.cell?,q1],by simp[World.cell?,q1],by simp[World.cell?,q1],by simp[World.cell?,q1]⟩
theorem five_out{w2:World}{R:Nat}{x0 x1 x2 x3 x4:Value}(q1:w2.heap[R]? =some (.cells #[x0,x1,x2,x3,x4] 144 (0,0)))(y0 y1 y2 y3 y4:Value):
  let W:=((((w2.setCell ⟨R,0,none⟩ y0).setCell ⟨R,1,none⟩ y1).setCell ⟨R,2,none⟩ y2).setCell ⟨R,3,none⟩ y3).setCell ⟨R,4,none⟩ y4
  W.cell? ⟨R,0,none⟩=some y0/\W.cell? ⟨R,1,none⟩=some y1/\W.cell? ⟨R,2,none⟩=some y2/\W.cell? ⟨R,3,none⟩=some y3/\W.cell? ⟨R,4,none⟩=some y4/\∀{B k:Nat},B<=k->R=k+1->Aw.Bel B w2 W:=by
 have e0:=BS _ _ 0 _ _ y0 q1;have e1:=BS _ _ 1 _ _ y1 e0;have e2:=BS _ _ 2 _ _ y2 e1;have e3:=BS _ _ 3 _ _ y3 e2;have e4:=BS _ _ 4 _ _ y4 e3;refine⟨by simp[World.cell?,e4],by simp[World.cell?,e4],by simp[World.cell?,e4],by simp[World.cell?,e4],by simp[World.cell?,e4],λ{B k} hB hR=> ?_⟩;have hl:∀o,B<=(⟨R,o,none⟩:Addr).block:=λo=>(show B<=R by omega);exact((((Aw.Bel.setCell _ _ (hl 0)).trans (Aw.Bel.setCell _ _ (hl 1))).trans (Aw.Bel.setCell _ _ (hl 2))).trans (Aw.Bel.setCell _ _ (hl 3))).trans (Aw.Bel.setCell _ _ (hl 4))
theorem run_walk{n u' a' b' st:Int}{found:Bool}(hst:st=if found then 1 else 2){cs:List T}{l:Nat}{k:Option Nat}(h135:Qo Tryz.prog 135 [.c (.ptr ⟨2,0,0⟩)] (sig n 0 2 2) λu J=>u=.tup [.inl (.t (.bool found)),.inl (.t (.imm cs l k))]/\J=sig n u' a' b'){ι:Map}{w:World}{p:Addr}{B:Nat}
  (hg:Jc ι w) (hH:HR ι (sig n 0 2 2) w) (hv:VR ι w (.c (.ptr ⟨2,0,0⟩)) (.pointer (some p))) (hB:∀b,ι.mapped b->B<=b) (hBw:B<=w.heap.size):Calls Tryz.prog 93 #[.pointer (some p)] w (IsRes st B w):=by
 have hmf:∀(fn:Fn) (first cap:Array Value) (w:World),(Instr.makeFunc fn first cap).run Tryz.prog w=.ok (.func fn first cap) w:=λ_ _ _ _=>rfl;obtain⟨hH1,hv1⟩:=hH.al (.cells #[.pointer (some p)] 200);obtain⟨hH2,hv2⟩:=hH1.al (.cells #[.int .u8 0,.slice none 0 0,.slice none 0 0,.slice none 0 0,.int .i64 0] 144);have hv3:=hv2 _ _ (hv1 _ _ hv);have hun:∀b,w.heap.size<=b->ι.un b:=λb hb hm=>by have:=hH.Zz hm;omega
 have hg2:Jc ι ((w.alloc (.cells #[.pointer (some p)] 200)).alloc (.cells #[.int .u8 0,.slice none 0 0,.slice none 0 0,.slice none 0 0,.int .i64 0] 144)):=hg.mono λb hu hd=>⟨hu,(Below.heap_alloc _ _ _ (by have:=hd.lt;simp;omega)).trans (Below.heap_alloc _ _ _ hd.lt)⟩;have hB0:Aw.Bel w.heap.size w ((w.alloc (.cells #[.pointer (some p)] 200)).alloc (.cells #[.int .u8 0,.slice none 0 0,.slice none 0 0,.slice none 0 0,.int .i64 0] 144)):=(Aw.Bel.alloc _ (A6 _)).trans (Aw.Bel.alloc _ (by simp));have hb0:((w.alloc (.cells #[.pointer (some p)] 200)).alloc (.cells #[.int .u8 0,.slice none 0 0,.slice none 0 0,.slice none 0 0,.int .i64 0] 144)).heap[w.heap.size]? =some (.cells #[.pointer (some p)] 200 (0,0)):=alloc_old (alloc_new rfl);have hb1:((w.alloc (.cells #[.pointer (some p)] 200)).alloc (.cells #[.int .u8 0,.slice none 0 0,.slice none 0 0,.slice none 0 0,.int .i64 0] 144)).heap[w.heap.size+1]? =some (.cells #[.int .u8 0,.slice none 0 0,.slice none 0 0,.slice none 0 0,.int .i64 0] 144 (0,0)):=alloc_new (by simp);have k135:Calls Tryz.prog 135 #[.pointer (some p)] ((w.alloc (.cells #[.pointer (some p)] 200)).alloc (.cells #[.int .u8 0,.slice none 0 0,.slice none 0 0,.slice none 0 0,.int .i64 0] 144)) (IsFnd n u' a' b' found p w B):=by
  refine CZ.1 (BI (h135.2 ι _ #[.pointer (some p)] hg2 hH2 ⟨rfl,λi hi=>by
   obtain rfl:i=0:=(by simpa using hi);exact⟨_,rfl,hv3⟩⟩) λe w' ⟨v',S',I',cv,he,⟨h1,h2⟩,h3,h4,h5⟩=> ?_)
  subst h1;subst h2;obtain⟨arr,rfl,hs,hq⟩:=h3;have hs:arr.size=2:=hs;obtain⟨u0,e0,t0⟩:=hq 0 (show 0<2 by omega);obtain⟨u1,e1,t1⟩:=hq 1 (show 1<2 by omega);have t0:TR I'.un w' (.bool found) u0:=t0;cases t0;obtain⟨ya,yl,yc,rfl⟩:=imm_slice (U:=I'.un) (w:=w') (cs:=cs) (l:=l) (k:=k) t1;have hv4:=hv3.step h5;obtain⟨bs,sh,ab,ao,x13,x14,rfl,hS⟩:=sv_of h4 hv4;refine⟨⟨ya,yl,yc,?_,bs,sh,ab,ao,x13,x14,rfl,hS⟩,(h5.frame _ (by simp;omega) (hun _ (A6 _))).trans hb0,(h5.frame _ (by simp) (hun _ (by omega))).trans hb1,?_⟩
  ·rw[he];congr 2;refine CV (by rw[hs];rfl) λj hj _=> ?_;rcases (show j=0\/j=1 by omega) with rfl|rfl
   ·exact(A8.1 e0).2
   ·exact(A8.1 e1).2
  ·refine(hB0.le hBw).trans ⟨h5.os,h5.out,h5.size,λb hb=> ?_⟩;exact h5.frame b (by simp;omega) λhm=>by have:=hB b hm;omega
 cases found with
 |true=>
  obtain rfl:st=1:=hst
  go_enter_defers Tryz.func93,Tryz.ntmps93
  go_wp2_with (go_at_call 135;refine k135.mono ?_)
  rintro e w2 ⟨⟨ya,yl,yc,rfl,bs,sh,ab,ao,x13,x14,rfl,hS⟩,q0,q1,hb⟩;obtain⟨s0,s13,s14,s1,⟨a3,l3,c3,rfl⟩,⟨a4,l4,c4,rfl⟩⟩:=hS;have r0:w2.cell? ⟨w.heap.size,0,none⟩=some (.pointer (some ⟨bs,sh,none⟩)):=(by simp[World.cell?,q0]);obtain⟨⟨f0,f1,f2,f3,f4⟩,g0,g1,g2,g3,g4⟩:=five q1;clear k135 hg2 hB0 hb0 hb1 hv3 hv2 hv1 hH1 hH2
  go_wp2_with fail
  go_region
  obtain⟨m0,m1,m2,m3,m4,mb⟩:=five_out q1 (.int .u8 1) (.slice a3 l3 c3) (.slice a4 l4 c4) (.slice none 0 0) (.int .i64 u')
  go_wp2_with fail
  refine leaves_cons (f:=134) (args:= #[.pointer (some ⟨w.heap.size,0,none⟩),.pointer (some ⟨w.heap.size+1,0,none⟩)]) (by simp) (by simp[go_sem]) ?_;refine(idle134 _ _ _).mono ?_;rintro e u2 w'' ⟨rfl,rfl,rfl⟩;have hfin:Aw.Bel B w ((((((w2.setCell ⟨w.heap.size+1,0,none⟩ (.int .u8 1)).setCell ⟨w.heap.size+1,1,none⟩ (.slice a3 l3 c3)).setCell ⟨w.heap.size+1,2,none⟩ (.slice a4 l4 c4)).setCell ⟨w.heap.size+1,3,none⟩ (.slice none 0 0)).setCell ⟨w.heap.size+1,4,none⟩ (.int .i64 u')).drew):=hb.trans (Bel.drew (mb hBw rfl));simp[Leaves,settle,results,res93,go_sem,m0,m1,m2,m3,m4];exact⟨⟨_,_,_,_,rfl,⟨_,_,_,rfl⟩,⟨_,_,_,rfl⟩,⟨_,_,_,rfl⟩,_,rfl⟩,hfin⟩
 |false=>
  obtain rfl:st=2:=hst
  go_enter_defers Tryz.func93,Tryz.ntmps93
  go_wp2_with (go_at_call 135;refine k135.mono ?_)
  rintro e w2 ⟨⟨ya,yl,yc,rfl,bs,sh,ab,ao,x13,x14,rfl,hS⟩,q0,q1,hb⟩;obtain⟨s0,s13,s14,s1,⟨a3,l3,c3,rfl⟩,⟨a4,l4,c4,rfl⟩⟩:=hS;have r0:w2.cell? ⟨w.heap.size,0,none⟩=some (.pointer (some ⟨bs,sh,none⟩)):=(by simp[World.cell?,q0]);obtain⟨⟨f0,f1,f2,f3,f4⟩,g0,g1,g2,g3,g4⟩:=five q1;clear k135 hg2 hB0 hb0 hb1 hv3 hv2 hv1 hH1 hH2
  go_wp2_with fail
  obtain⟨m0,m1,m2,m3,m4,mb⟩:=five_out q1 (.int .u8 2) (.slice none 0 0) (.slice none 0 0) (.slice ya yl yc) (.int .i64 u');refine leaves_cons (f:=134) (args:= #[.pointer (some ⟨w.heap.size,0,none⟩),.pointer (some ⟨w.heap.size+1,0,none⟩)]) (by simp) (by simp[go_sem]) ?_;refine(idle134 _ _ _).mono ?_;rintro e u2 w'' ⟨rfl,rfl,rfl⟩;have hfin:Aw.Bel B w ((((((w2.setCell ⟨w.heap.size+1,0,none⟩ (.int .u8 2)).setCell ⟨w.heap.size+1,1,none⟩ (.slice none 0 0)).setCell ⟨w.heap.size+1,2,none⟩ (.slice none 0 0)).setCell ⟨w.heap.size+1,3,none⟩ (.slice ya yl yc)).setCell ⟨w.heap.size+1,4,none⟩ (.int .i64 u'))):=hb.trans (mb hBw rfl);simp[Leaves,settle,results,res93,go_sem,m0,m1,m2,m3,m4];exact⟨⟨_,_,_,_,rfl,⟨_,_,_,rfl⟩,⟨_,_,_,rfl⟩,⟨_,_,_,rfl⟩,_,rfl⟩,hfin⟩
end Gn
end
section
open Go.Abs Go.RowKit
namespace Gn
theorem res48:Tryz.f48.results= #[.cell 6 144,.tmp 7]:=by kernel_rfl
structure IsGen(st:Int)(w:World)(e:Ending)(w':World):Prop where
 ex:∃x1 x2 x3 x4,e=.returned (.tuple #[.agg #[.int .u8 st,x1,x2,x3,x4],.int .i64 0])/\(x1.oneCell'=true/\x2.oneCell'=true/\x3.oneCell'=true/\x4.oneCell'=true)
 bel:Aw.Bel w.heap.size w w'
structure IsZ(w:World)(e:Ending)(w':World):Prop where
 ex:e=.returned (.int .i64 0)
 bel:Aw.Bel w.heap.size w w'
structure T10(w:World)(v0 v1 v2 v3:Value)(n:Int)(W:World):Prop where
 t9:T9 w v0 v1 v2 v3 n W
 b2:W.heap[w.heap.size+1+1]? =some (.cells #[.int .u8 0,.slice none 0 0,.slice none 0 0,.slice none 0 0,.int .i64 0] 144 (0,0))
theorem T10.next{w:World}{v0 v1 v2 v3:Value}{n:Int}{W W':World}(h:T10 w v0 v1 v2 v3 n W)(hb:Aw.Bel W.heap.size W W'):T10 w v0 v1 v2 v3 n W':=⟨h.t9.next hb,keepB hb h.b2⟩
theorem c91{n:Int}(hl:Qo Tryz.prog 91 [cA,fl n,.c (.t (ii 9))] [] λu τ=>u=.c (.t (ii 0))/\τ=[]){w:World}{v:Value}(hg:Jc QZ w)(h:CA w v):Calls Tryz.prog 91 #[v,.agg #[.int .u8 0,.int .i64 n,.int .i64 (-1),.int .u8 0,.int .i64 0],.int .i64 9] w (IsZ w):=by
 refine(Aw.calls_tree hl hg ⟨rfl,λi hi=> ?_⟩).mono λe w' ⟨⟨I',cv,he,hv⟩,hb⟩=> ?_
 ·have hi:i<3:=hi;rcases (show i=0\/i=1\/i=2 by omega) with rfl|rfl|rfl
  ·exact⟨v,rfl,h⟩
  ·refine⟨_,rfl,_,rfl,rfl,λj hj=> ?_⟩;have hj:j<5:=hj;rcases (show j=0\/j=1\/j=2\/j=3\/j=4 by omega) with rfl|rfl|rfl|rfl|rfl<;>exact⟨_,rfl,TR.int _ _⟩
  ·exact⟨_,rfl,TR.int _ _⟩
 ·have hv:TR I'.un w' (ii 0) cv:=hv;cases hv;exact⟨he,hb⟩
theorem gen_walk{n u' a' b' st:Int}{found:Bool}(hst:st=if found then 1 else 2){cs:List T}{l:Nat}{k:Option Nat}(h135:Qo Tryz.prog 135 [.c (.ptr ⟨2,0,0⟩)] (sig n 0 2 2) λu J=>u=.tup [.inl (.t (.bool found)),.inl (.t (.imm cs l k))]/\J=sig n u' a' b')
  (h91:Qo Tryz.prog 91 [cA,fl n,.c (.t (ii 9))] [] λu τ=>u=.c (.t (ii 0))/\τ=[]) (w:World) (v0 v1 v2 v3:Value) (hg:Jc QZ w) (hc:CA w (.agg #[v0,v1,v2,v3])):
  Calls Tryz.prog 48 #[.agg #[v0,v1,v2,v3],.agg #[.int .u8 0,.int .i64 n,.int .i64 (-1),.int .u8 0,.int .i64 0],.int .i64 9] w (IsGen st w):=by
 have hC:∀W,T10 w v0 v1 v2 v3 n W->Jc QZ W/\CA W (.agg #[v0,v1,v2,v3]):=λW hb=>⟨Aw.gl_bel hg hb.t9.bel,hc.bel hb.t9.bel⟩;have H0:T10 w v0 v1 v2 v3 n (((w.alloc (.cells #[v0,v1,v2,v3] 34)).alloc (.cells #[.int .u8 0,.int .i64 n,.int .i64 (-1),.int .u8 0,.int .i64 0] 58)).alloc (.cells #[.int .u8 0,.slice none 0 0,.slice none 0 0,.slice none 0 0,.int .i64 0] 144)):=
  ⟨⟨alloc_old (alloc_old (alloc_new rfl)),alloc_old (alloc_new (by simp)),((Aw.Bel.alloc _ (A6 _)).trans (Aw.Bel.alloc _ (by simp))).trans (Aw.Bel.alloc _ (by simp;omega)),by simp⟩,alloc_new (by simp)⟩
 have hrun:∀{ι:Map} {W:World} {p:Addr} {B:Nat},Jc ι W->HR ι (sig n 0 2 2) W->VR ι W (.c (.ptr ⟨2,0,0⟩)) (.pointer (some p))->(∀b,ι.mapped b->B<=b)->B<=W.heap.size->Calls Tryz.prog 93 #[.pointer (some p)] W (IsRes st B W):=λh1 h2 h3 h4 h5=>run_walk hst h135 h1 h2 h3 h4 h5;clear hst;have k91:=c91 h91 (hC _ H0).1 (hC _ H0).2
 go_enter Tryz.func48,Tryz.ntmps48
 go_wp2_with (go_at_call 91;refine k91.mono ?_)
 rintro e w1 ⟨rfl,hb1⟩;have H1:=H0.next hb1
 obtain⟨c0,c1,c2,c3,c4,c5,c6,c7,c8,_⟩:=H1.t9.all;have k92:=begin_walk w1 v0 v1 v2 v3 n (hC _ H1).1 (hC _ H1).2;clear k91
 go_wp2_with (go_at_call 92;refine k92.mono ?_)
 rintro e w2 ⟨⟨ι,v,rfl,hH,hv,hge,hgl⟩,hb2⟩;obtain⟨p,rfl,_⟩:=id hv;have H2:=H1.next hb2
 have k93:=hrun hgl hH hv hge hb2.size
 go_wp2_with (go_at_call 93;refine k93.mono ?_)
 rintro e w3 ⟨⟨x1,x2,x3,x4,rfl,⟨a1,l1,q1,rfl⟩,⟨a2,l2,q2,rfl⟩,⟨a3,l3,q3,rfl⟩,u4,rfl⟩,hb3⟩;have hb13:Aw.Bel w1.heap.size w1 w3:=hb2.trans hb3;have H3:=H1.next hb13
 obtain⟨⟨f0,f1,f2,f3,f4⟩,g0,g1,g2,g3,g4⟩:=five H3.b2;obtain⟨m0,m1,m2,m3,m4,mb⟩:=five_out H3.b2 (.int .u8 st) (.slice a1 l1 q1) (.slice a2 l2 q2) (.slice a3 l3 q3) (.int .i64 u4);clear k92 k93
 go_wp2_with fail
 refine Bj (v:=.tuple #[.agg #[.int .u8 st,.slice a1 l1 q1,.slice a2 l2 q2,.slice a3 l3 q3,.int .i64 u4],.int .i64 0]) ?_ rfl ⟨⟨_,_,_,_,rfl,rfl,rfl,rfl,rfl⟩,?_⟩
 ·simp[results,res48,go_sem,m0,m1,m2,m3,m4]
 ·exact(H3.t9.bel.trans (mb (Nat.le_succ _) rfl))
theorem callable48:XB Tryz.prog 48:=⟨Tryz.f48,Tryz.func48,by kernel_rfl,by kernel_rfl⟩
theorem gen_fn{n u' a' b' st:Int}{found:Bool}(hst:st=if found then 1 else 2){cs:List T}{l:Nat}{k:Option Nat}(h135:Qo Tryz.prog 135 [.c (.ptr ⟨2,0,0⟩)] (sig n 0 2 2) λu J=>u=.tup [.inl (.t (.bool found)),.inl (.t (.imm cs l k))]/\J=sig n u' a' b')
  (h91:Qo Tryz.prog 91 [cA,fl n,.c (.t (ii 9))] [] λu τ=>u=.c (.t (ii 0))/\τ=[]):
  Qo Tryz.prog 48 [cA,fl n,.c (.t (ii 9))] [] λu τ=>u=.tup [.inr [.t (bb st),.t .junk,.t .junk,.t .junk,.t .junk],.inl (.t (ii 0))]/\τ=[]:=by
 refine⟨callable48,fun ι w cargs hgl hH ha=> ?_⟩;have hg:Jc QZ w:=hgl.mono λb _ _=>⟨JT b,rfl⟩;obtain⟨u0,e0,hv0⟩:=ha.2 0 (show 0<3 by omega);obtain⟨u1,e1,hv1⟩:=ha.2 1 (show 1<3 by omega);obtain⟨u2,e2,hv2⟩:=ha.2 2 (show 2<3 by omega);have hv0:VR ι w cA u0:=hv0;have hv2:TR ι.un w (ii 9) u2:=hv2;cases hv2;have hc:CA w u0:=by
  obtain⟨arr,rfl,h1,h2⟩:=hv0;refine⟨arr,rfl,h1,λi hi=> ?_⟩;obtain⟨u,e,h3⟩:=h2 i hi;refine⟨u,e,?_⟩;have ht:∀c∈[Cell.t nodesA,.t namesA,.t (.imm [] 0 none),.t (il [3])],∀u,CR ι w c u->CR QZ w c u:=by intro c hc u hu;simp only[AW,Ao,Bl]at hc;rcases hc with rfl|rfl|rfl|rfl<;>exact TR.mono hu λb _ _=>⟨JT b,rfl⟩
  exact ht _ (AH hi) u h3
 obtain⟨v0,v1,v2,v3,rfl⟩:=hc.ex;have hv1:u1=.agg #[.int .u8 0,.int .i64 n,.int .i64 (-1),.int .u8 0,.int .i64 0]:=by
  obtain⟨arr,rfl,h1,h2⟩:=hv1;have h1:arr.size=5:=h1;obtain⟨y0,f0,t0⟩:=h2 0 (show 0<5 by omega);obtain⟨y1,f1,t1⟩:=h2 1 (show 1<5 by omega);obtain⟨y2,f2,t2⟩:=h2 2 (show 2<5 by omega);obtain⟨y3,f3,t3⟩:=h2 3 (show 3<5 by omega);obtain⟨y4,f4,t4⟩:=h2 4 (show 4<5 by omega);have t0:TR ι.un w (bb 0) y0:=t0;have t1:TR ι.un w (ii n) y1:=t1;have t2:TR ι.un w (ii (-1)) y2:=t2;have t3:TR ι.un w (bb 0) y3:=t3;have t4:TR ι.un w (ii 0) y4:=t4;cases t0;cases t1;cases t2;cases t3;cases t4;congr 1;refine CV (by rw[h1];rfl) λj hj _=> ?_;rcases (show j=0\/j=1\/j=2\/j=3\/j=4 by omega) with rfl|rfl|rfl|rfl|rfl
  ·exact(A8.1 f0).2
  ·exact(A8.1 f1).2
  ·exact(A8.1 f2).2
  ·exact(A8.1 f3).2
  ·exact(A8.1 f4).2
 subst hv1;have hca:cargs= #[.agg #[v0,v1,v2,v3],.agg #[.int .u8 0,.int .i64 n,.int .i64 (-1),.int .u8 0,.int .i64 0],.int .i64 9]:=by
  have h1:cargs.size=3:=ha.1;refine CV h1 λj hj _=> ?_;rcases (show j=0\/j=1\/j=2 by omega) with rfl|rfl|rfl
  ·exact(A8.1 e0).2
  ·exact(A8.1 e1).2
  ·exact(A8.1 e2).2
 rw[hca];refine BI (CZ.2 (gen_walk hst h135 h91 w v0 v1 v2 v3 hg hc)) λe w' ⟨⟨x1,x2,x3,x4,he,o1,o2,o3,o4⟩,hb⟩=> ?_;have hs:Step ι [] w ι [] w':=⟨A6 _,hb.size,hb.os,hb.out,λid s h1=>⟨s,h1,A6 _,λ_=>rfl⟩,λid _ h1=>h1,λid s l h1 h2=>.inr ⟨id,s,l,h1,h2,rfl⟩,rfl,rfl,λb hr=>hb.block b (hH.resRow b hr).lt,λb h1 _=>hb.block b h1⟩;refine⟨_,[],ι,_,he,⟨rfl,rfl⟩,?_,⟨λid s h1=> ?_,hH.inj,λb hr=> ?_,hH.resNo⟩,hs⟩
 ·refine⟨_,rfl,rfl,λi hi=> ?_⟩;have hi:i<2:=hi;rcases (show i=0\/i=1 by omega) with rfl|rfl
  ·refine⟨_,rfl,_,rfl,rfl,λj hj=> ?_⟩;have hj:j<5:=hj;rcases (show j=0\/j=1\/j=2\/j=3\/j=4 by omega) with rfl|rfl|rfl|rfl|rfl
   ·exact⟨_,rfl,TR.int _ _⟩
   ·exact⟨_,rfl,TR.junk _ o1⟩
   ·exact⟨_,rfl,TR.junk _ o2⟩
   ·exact⟨_,rfl,TR.junk _ o3⟩
   ·exact⟨_,rfl,TR.junk _ o4⟩
  ·exact⟨_,rfl,TR.int _ _⟩
 ·obtain⟨o,h2,_⟩:=hH.obj id s h1;simp at h2
 ·obtain⟨c,e,fr,h2⟩:=hH.resRow b hr;exact⟨c,e,fr,(hb.block b (A8.1 h2).1).trans h2⟩
abbrev cB:AV:=.agg [.t (.imm [bb 0,.imm [] 0 (some 0),ii 0,ii 0,bb 0,.imm [] 0 (some 0),ii 0,ii 0,bb 5,.imm [ii 0,ii 1] 2 (some 2),ii 0,ii 0,bb 7,.imm [ii 0,ii 2] 2 (some 2),ii 0,ii 0] 4 (some 4)),
 .t (.imm [.str [97],.str [98],.str [100],.str [101]] 4 (some 4)),.t (.imm [] 0 (some 0)),.t (.imm [ii 3] 1 (some 1))]
mutual
def lb:T->T->Bool
 |.imm cs l c,.imm cs' l' c'=>lbL cs cs'&&(decide (l=l')&&(decide (c'=none)||decide (c=c')))
 |x,y=>teq x y
def lbL:List T->List T->Bool
 |[],[]=>true
 |x::xs,y::ys=>lb x y&&lbL xs ys
 |_,_=>false
end
mutual
theorem lb_ok:∀{x y:T},lb x y=true->WT x y:=by
 intro x y h;cases x<;>cases y<;>first
  |(rename_i cs l c cs' l' c';simp only[lb,A9,CB,Aj]at h;obtain⟨h1,rfl,h2⟩:=h;obtain⟨h3,h4⟩:=lbL_ok h1;rcases h2 with rfl|rfl;exact .tr _ _ _ (.cap cs l c) (.cells cs cs' l none h3 h4);exact .cells cs cs' l c h3 h4)
  |(rw[teq_ok h];exact .refl _)
theorem lbL_ok:∀{x y:List T},lbL x y=true->x.length=y.length/\∀i (h:i<x.length) (h':i<y.length),WT x[i] y[i]:=by
 intro x y h;cases x<;>cases y<;>simp only[lbL,A9,reduceCtorEq,AM]at h
 ·exact⟨rfl,λi h=>absurd h (by simp)⟩
 ·obtain⟨h1,h2⟩:=h;obtain⟨h3,h4⟩:=lbL_ok h2;refine⟨by simp[h3],λi hi hi'=> ?_⟩
  cases i with
  |zero=>exact lb_ok h1
  |succ i=>exact h4 i (by simpa using hi) (by simpa using hi')
end
theorem cB_cA{ι:Map}{w:World}{v:Value}(h:VR ι w cB v):VR ι w cA v:=by refine VR.XS (a:=cB) (b:=cA) ?_ h;refine⟨.t (lb_ok rfl),.t (lb_ok rfl),.t (lb_ok rfl),.t (lb_ok rfl),trivial⟩
theorem gen_fnB{n:Int}{v:AV}(h:Qo Tryz.prog 48 [cA,fl n,.c (.t (ii 9))] [] λu τ=>u=v/\τ=[]):Qo Tryz.prog 48 [cB,fl n,.c (.t (ii 9))] [] λu τ=>u=v/\τ=[]:=
 ⟨h.1,fun ι w cargs hgl hH ha=>h.2 ι w cargs hgl hH ⟨ha.1,λi hi=>by
  obtain⟨u,e,hv⟩:=ha.2 i hi;have hi:i<3:=hi;rcases (show i=0\/i=1\/i=2 by omega) with rfl|rfl|rfl
  ·exact⟨u,e,cB_cA hv⟩
  ·exact⟨u,e,hv⟩
  ·exact⟨u,e,hv⟩⟩⟩
def l483v:FuncId×List AV×AV:=(48,[cB,fl 3,.c (.t (ii 9))],.tup [.inr [.t (bb 1),.t .junk,.t .junk,.t .junk,.t .junk],.inl (.t (ii 0))])
theorem l483:LitOk Tryz.prog l483v:=⟨rfl,rfl,gen_fnB (gen_fn (st:=1) (found:=true) rfl (ckH_ok s135a) l913.2.2)⟩
def l481v:FuncId×List AV×AV:=(48,[cB,fl 1,.c (.t (ii 9))],.tup [.inr [.t (bb 2),.t .junk,.t .junk,.t .junk,.t .junk],.inl (.t (ii 0))])
theorem l481:LitOk Tryz.prog l481v:=⟨rfl,rfl,gen_fnB (gen_fn (st:=2) (found:=false) rfl (ckH_ok s135b) l911.2.2)⟩
abbrev L8:Lits:=[l483v,l481v]
theorem L8_ok:∀x∈L8,LitOk Tryz.prog x:=by
 intro x h;simp only[AW,Ao,Bl]at h;rcases h with rfl|rfl
 ·exact l483
 ·exact l481
def l18v:FuncId×List AV×AV:=(18,[],.c (.t (.bool true)))
theorem l18:LitOk Tryz.prog l18v:=ck_lit [48] L8_ok (by kernel_rfl) rfl
end Gn
end
section
open Go.Abs
namespace M18
abbrev gX:=Unit
def g:Sg gX:=⟨[],[],λa b=>(),λx=>(),λx=>()⟩
abbrev fY:=Bool
def f:Ft fY:=⟨none,.c .bo,[],λa b=>a,λy=>y,λy=>()⟩
def m(x:gX):Option fY:=some true
theorem known:QB Tryz.prog 18 g f m:=by refine⟨λ_ _=>⟨rfl,rfl⟩,by decide,λx y h=> ?_⟩;have h:some true=some y:=h;obtain rfl:=Aq h;exact Gn.l18.2.2
def con:Con:=Qa g f m default
theorem con_ok:QC Tryz.prog 18 con:=Q9 known (λ_=>rfl) rfl
end M18
end
section
open Go.Abs
namespace M4
structure gX where(xin dffs d0 d1:Int)(bus mem:Bool)(w0 w1 w2 w3:Int)(gates:List ((Int)×(Int)×(Int)×Int))(xouts:List (Int))(fmodel fnode fpin fother:Int)(fone:Bool)(zp zm ko:Int)(kc:List (Int))
def g:Sg gX:=⟨[.agg [.it .u8,.it .u8,.it .u8,.it .u8,.bo,.bo,.it .u8,.it .u8,.it .u8,.it .u8,.arr (.pair (.int .u8) (.pair (.int .u8) (.pair (.int .u8) (.int .u8)))),.arr (.int .u8)],.agg [.it .u8,.it .u8,.it .u8,.it .u8,.bo],.agg [.it .u8,.it .u64,.it .u8,.arr (.int .u32)]],[],λa b=>⟨a.1.1,a.1.2.1,a.1.2.2.1,a.1.2.2.2.1,a.1.2.2.2.2.1,a.1.2.2.2.2.2.1,a.1.2.2.2.2.2.2.1,a.1.2.2.2.2.2.2.2.1,a.1.2.2.2.2.2.2.2.2.1,a.1.2.2.2.2.2.2.2.2.2.1,a.1.2.2.2.2.2.2.2.2.2.2.1,a.1.2.2.2.2.2.2.2.2.2.2.2.1,a.2.1.1,a.2.1.2.1,a.2.1.2.2.1,a.2.1.2.2.2.1,a.2.1.2.2.2.2.1,a.2.2.1.1,a.2.2.1.2.1,a.2.2.1.2.2.1,a.2.2.1.2.2.2.1⟩,λx=>((x.xin,(x.dffs,(x.d0,(x.d1,(x.bus,(x.mem,(x.w0,(x.w1,(x.w2,(x.w3,(x.gates,(x.xouts,())))))))))))),((x.fmodel,(x.fnode,(x.fpin,(x.fother,(x.fone,()))))),((x.zp,(x.zm,(x.ko,(x.kc,())))),()))),λx=>()⟩
abbrev fY:=Bool
def f:Ft fY:=⟨none,.c (.bo),[],λa b=>(a),λy=>y,λy=>()⟩
def cl:List (FuncId×Con):=[(5,M5.con),(13,M13.con),(14,M14.con),(15,M15.con),(16,M16.con),(17,M17.con),(18,M18.con),(19,M19.con),(20,M20.con),(21,M21.con)]
theorem cl_ok:Q8 Tryz.prog cl:=⟨M5.con_ok,M13.con_ok,M14.con_ok,M15.con_ok,M16.con_ok,M17.con_ok,M18.con_ok,M19.con_ok,M20.con_ok,M21.con_ok,trivial⟩
def E2:Env:=⟨ty,QE cl,λ_=>none,none⟩
structure p1X where(ok:Bool)(one two:List (Int))(many pos:Int)(knw:Bool)(cols:List (Int))(i zp zm ko:Int)(kc:List (Int))(kouts:Int)(kk_lo kk_len:Nat)(ks:List (Int))
def p1:Pt p1X:=⟨[.cell 3 1 (.int .u64)],⟨[(5,.c (.ptr 2 0)),(16,.c (.bo)),(18,.c (.arr (.int .u8))),(19,.c (.arr (.int .u8))),(20,.c (.it .i64)),(21,.c (.it .i64)),(22,.c (.bo)),(24,.c (.ptr 3 0)),(25,.c (.arr (.int .u64))),(26,.c (.it .i64))],[.st [.junk,.junk,.junk,.junk,.junk,.junk,.junk,.junk,.junk,.junk,.junk,.junk] 1 0,.st [.junk,.junk,.junk,.junk,.junk] 1 0,.st [.it .u8,.it .u64,.it .u8,.arr (.int .u32)] 1 0,.st [.it .i64,.sl 4 0 1] 1 0,.arr (.int .u64) 0]⟩,λv=>⟨v.1.2.1,v.1.2.2.1,v.1.2.2.2.1,v.1.2.2.2.2.1,v.1.2.2.2.2.2.1,v.1.2.2.2.2.2.2.1,v.1.2.2.2.2.2.2.2.2.1,v.1.2.2.2.2.2.2.2.2.2.1,v.2.2.2.1.1,v.2.2.2.1.2.1,v.2.2.2.1.2.2.1,v.2.2.2.1.2.2.2.1,v.2.2.2.2.1.1,v.2.2.2.2.1.2.1.1,v.2.2.2.2.1.2.1.2,v.2.2.2.2.2.1⟩,λx=>(((),(x.ok,(x.one,(x.two,(x.many,(x.pos,(x.knw,((),(x.cols,(x.i,())))))))))),(((),((),((),((),((),((),((),((),((),((),((),((),())))))))))))),(((),((),((),((),((),()))))),((x.zp,(x.zm,(x.ko,(x.kc,())))),((x.kouts,((x.kk_lo,x.kk_len),())),(x.ks,()))))))⟩
structure q1X where(ok:Bool)(one two:List (Int))(many pos:Int)(knw:Bool)(zp zm ko:Int)(kc:List (Int))(kouts:Int)(kcols:List (Int))
def q1:Pt q1X:=⟨[],⟨[(5,.c (.ptr 2 0)),(16,.c (.bo)),(18,.c (.arr (.int .u8))),(19,.c (.arr (.int .u8))),(20,.c (.it .i64)),(21,.c (.it .i64)),(22,.c (.bo)),(24,.c (.ptr 3 0))],[.st [.junk,.junk,.junk,.junk,.junk,.junk,.junk,.junk,.junk,.junk,.junk,.junk] 1 0,.st [.junk,.junk,.junk,.junk,.junk] 1 0,.st [.it .u8,.it .u64,.it .u8,.arr (.int .u32)] 1 0,.st [.it .i64,.arr (.int .u64)] 1 0]⟩,λv=>⟨v.1.2.1,v.1.2.2.1,v.1.2.2.2.1,v.1.2.2.2.2.1,v.1.2.2.2.2.2.1,v.1.2.2.2.2.2.2.1,v.2.2.2.1.1,v.2.2.2.1.2.1,v.2.2.2.1.2.2.1,v.2.2.2.1.2.2.2.1,v.2.2.2.2.1.1,v.2.2.2.2.1.2.1⟩,λx=>(((),(x.ok,(x.one,(x.two,(x.many,(x.pos,(x.knw,((),())))))))),(((),((),((),((),((),((),((),((),((),((),((),((),())))))))))))),(((),((),((),((),((),()))))),((x.zp,(x.zm,(x.ko,(x.kc,())))),((x.kouts,(x.kcols,())),())))))⟩
def s1(x:p1X):Option (p1X⊕q1X):=bif decide (x.i<(↑x.one.length:Int)) then bif (↑x.cols.length:Int)==0 then bif eqN x.kk_lo 0&&eqN x.ks.length x.kk_len&&QT (x.kk_len+1) 8 then some (Sum.inl ⟨x.ok,x.one,x.two,x.many,x.pos,x.knw,x.cols,IntKind.i64.wrap (x.i+1),x.zp,x.zm,x.ko,x.kc,x.kouts,0,x.kk_len+1,x.ks++[0]⟩) else none else bif nz (↑x.cols.length:Int) then bif inR (x.i.tmod (↑x.cols.length:Int)) x.cols.length then bif eqN x.kk_lo 0&&eqN x.ks.length x.kk_len&&QT (x.kk_len+1) 8 then some (Sum.inl ⟨x.ok,x.one,x.two,x.many,x.pos,x.knw,x.cols,IntKind.i64.wrap (x.i+1),x.zp,x.zm,x.ko,x.kc,x.kouts,0,x.kk_len+1,x.ks++[x.cols[(x.i.tmod (↑x.cols.length:Int)).toNat]?.getD 0]⟩) else none else none else none else bif leB (x.kk_lo+x.kk_len) x.ks.length&&true&&true then some (Sum.inr ⟨x.ok,x.one,x.two,x.many,x.pos,x.knw,x.zp,x.zm,x.ko,x.kc,x.kouts,List.take x.kk_len (List.drop x.kk_lo x.ks)⟩) else none
theorem s1_eq(x:p1X):exec E2 291 (C4.Q0 1) 2 (p1.R x) (p1.H x) (QP 0 p1 (.exit 2) q1)=s1 x:=by kernel_rfl
def l1:QJ:=QQ 0 p1 (.exit 2) q1 s1
theorem tl1:QA (C4.Q0 1) 2=[]:=by kernel_rfl
theorem l1_ok  :QF Tryz.prog 291 none 0 (C4.Q0 1) l1:=QG mixed (Q4 ty_ok cl_ok _) (by trivial) (λ_=>rfl) (λ_=>rfl) (tl1▸Q7.nil) s1_eq
def E1:Env:=⟨ty,QE cl,Qi [(1,l1)],none⟩
structure p0X where(ok:Bool)(one_lo one_len two_lo two_len:Nat)(many pos:Int)(knw:Bool)(i zp zm ko:Int)(kc a1 a2:List (Int))
def p0:Pt p0X:=⟨[],⟨[(5,.c (.ptr 2 0)),(16,.c (.bo)),(18,.c (.sl 8 1 1)),(19,.c (.sl 9 1 1)),(20,.c (.it .i64)),(21,.c (.it .i64)),(22,.c (.bo)),(23,.c (.it .i64))],[.st [.junk,.junk,.junk,.junk,.junk,.junk,.junk,.junk,.junk,.junk,.junk,.junk] 1 0,.st [.junk,.junk,.junk,.junk,.junk] 1 0,.st [.it .u8,.it .u64,.it .u8,.arr (.int .u32)] 1 0,.st [.junk,.junk,.junk,.junk] 1 0,.st [.junk,.junk,.junk,.junk,.junk] 1 0,.st [.junk,.junk] 1 0,.st [.junk,.junk] 1 0,.st [.junk,.junk] 1 0,.arr (.int .u8) 1,.arr (.int .u8) 1]⟩,λv=>⟨v.1.2.1,v.1.2.2.1.1,v.1.2.2.1.2,v.1.2.2.2.1.1,v.1.2.2.2.1.2,v.1.2.2.2.2.1,v.1.2.2.2.2.2.1,v.1.2.2.2.2.2.2.1,v.1.2.2.2.2.2.2.2.1,v.2.2.2.1.1,v.2.2.2.1.2.1,v.2.2.2.1.2.2.1,v.2.2.2.1.2.2.2.1,v.2.2.2.2.2.2.2.2.2.1,v.2.2.2.2.2.2.2.2.2.2.1⟩,λx=>(((),(x.ok,((x.one_lo,x.one_len),((x.two_lo,x.two_len),(x.many,(x.pos,(x.knw,(x.i,())))))))),(((),((),((),((),((),((),((),((),((),((),((),((),())))))))))))),(((),((),((),((),((),()))))),((x.zp,(x.zm,(x.ko,(x.kc,())))),(((),((),((),((),())))),(((),((),((),((),((),()))))),(((),((),())),(((),((),())),(((),((),())),(x.a1,(x.a2,())))))))))))⟩
structure q0X where(ok:Bool)(one two:List (Int))(many pos:Int)(knw:Bool)(zp zm ko:Int)(kc:List (Int))
def q0:Pt q0X:=⟨[],⟨[(5,.c (.ptr 2 0)),(16,.c (.bo)),(18,.c (.arr (.int .u8))),(19,.c (.arr (.int .u8))),(20,.c (.it .i64)),(21,.c (.it .i64)),(22,.c (.bo))],[.st [.junk,.junk,.junk,.junk,.junk,.junk,.junk,.junk,.junk,.junk,.junk,.junk] 1 0,.st [.junk,.junk,.junk,.junk,.junk] 1 0,.st [.it .u8,.it .u64,.it .u8,.arr (.int .u32)] 1 0]⟩,λv=>⟨v.1.2.1,v.1.2.2.1,v.1.2.2.2.1,v.1.2.2.2.2.1,v.1.2.2.2.2.2.1,v.1.2.2.2.2.2.2.1,v.2.2.2.1.1,v.2.2.2.1.2.1,v.2.2.2.1.2.2.1,v.2.2.2.1.2.2.2.1⟩,λx=>(((),(x.ok,(x.one,(x.two,(x.many,(x.pos,(x.knw,()))))))),(((),((),((),((),((),((),((),((),((),((),((),((),())))))))))))),(((),((),((),((),((),()))))),((x.zp,(x.zm,(x.ko,(x.kc,())))),()))))⟩
def s0(x:p0X):Option (p0X⊕q0X):=bif decide (x.i<(↑x.one_len:Int)) then bif inR x.i x.one_len then bif decide (x.one_lo+x.i.toNat<x.a1.length) then bif inR x.i x.one_len then bif decide (x.one_lo+x.i.toNat<x.a1.length) then bif inR x.i x.two_len then bif decide (x.two_lo+x.i.toNat<x.a2.length) then bif inR x.i x.two_len then bif decide (x.two_lo+x.i.toNat<x.a2.length) then bif inR x.i x.one_len||!x.knw then bif decide (x.one_lo+x.i.toNat<(x.a1.set (x.one_lo+x.i.toNat) (if 2<x.a1[x.one_lo+x.i.toNat]?.getD 0 then 2 else x.a1[x.one_lo+x.i.toNat]?.getD 0)).length)||!x.knw then bif inR x.i x.two_len||!bif x.knw then decide ((x.a1.set (x.one_lo+x.i.toNat) (if 2<x.a1[x.one_lo+x.i.toNat]?.getD 0 then 2 else x.a1[x.one_lo+x.i.toNat]?.getD 0))[x.one_lo+x.i.toNat]?.getD 0<2) else false then bif decide (x.two_lo+x.i.toNat<(x.a2.set (x.two_lo+x.i.toNat) (if 2<x.a2[x.two_lo+x.i.toNat]?.getD 0 then 2 else x.a2[x.two_lo+x.i.toNat]?.getD 0)).length)||!bif x.knw then decide ((x.a1.set (x.one_lo+x.i.toNat) (if 2<x.a1[x.one_lo+x.i.toNat]?.getD 0 then 2 else x.a1[x.one_lo+x.i.toNat]?.getD 0))[x.one_lo+x.i.toNat]?.getD 0<2) else false then bif inR x.i x.one_len then bif decide (x.one_lo+x.i.toNat<(x.a1.set (x.one_lo+x.i.toNat) (if 2<x.a1[x.one_lo+x.i.toNat]?.getD 0 then 2 else x.a1[x.one_lo+x.i.toNat]?.getD 0)).length) then bif inR x.i x.two_len then bif decide (x.two_lo+x.i.toNat<(x.a2.set (x.two_lo+x.i.toNat) (if 2<x.a2[x.two_lo+x.i.toNat]?.getD 0 then 2 else x.a2[x.two_lo+x.i.toNat]?.getD 0)).length) then some (Sum.inl ⟨x.ok,x.one_lo,x.one_len,x.two_lo,x.two_len,bif IntKind.u8.wrap ((x.a1.set (x.one_lo+x.i.toNat) (if 2<x.a1[x.one_lo+x.i.toNat]?.getD 0 then 2 else x.a1[x.one_lo+x.i.toNat]?.getD 0))[x.one_lo+x.i.toNat]?.getD 0+(x.a2.set (x.two_lo+x.i.toNat) (if 2<x.a2[x.two_lo+x.i.toNat]?.getD 0 then 2 else x.a2[x.two_lo+x.i.toNat]?.getD 0))[x.two_lo+x.i.toNat]?.getD 0)==1 then IntKind.i64.wrap (x.many+1) else x.many,bif IntKind.u8.wrap ((x.a1.set (x.one_lo+x.i.toNat) (if 2<x.a1[x.one_lo+x.i.toNat]?.getD 0 then 2 else x.a1[x.one_lo+x.i.toNat]?.getD 0))[x.one_lo+x.i.toNat]?.getD 0+(x.a2.set (x.two_lo+x.i.toNat) (if 2<x.a2[x.two_lo+x.i.toNat]?.getD 0 then 2 else x.a2[x.two_lo+x.i.toNat]?.getD 0))[x.two_lo+x.i.toNat]?.getD 0)==1 then x.i else x.pos,bif bif x.knw then decide ((x.a1.set (x.one_lo+x.i.toNat) (if 2<x.a1[x.one_lo+x.i.toNat]?.getD 0 then 2 else x.a1[x.one_lo+x.i.toNat]?.getD 0))[x.one_lo+x.i.toNat]?.getD 0<2) else false then decide ((x.a2.set (x.two_lo+x.i.toNat) (if 2<x.a2[x.two_lo+x.i.toNat]?.getD 0 then 2 else x.a2[x.two_lo+x.i.toNat]?.getD 0))[x.two_lo+x.i.toNat]?.getD 0<2) else false,IntKind.i64.wrap (x.i+1),x.zp,x.zm,x.ko,x.kc,x.a1.set (x.one_lo+x.i.toNat) (if 2<x.a1[x.one_lo+x.i.toNat]?.getD 0 then 2 else x.a1[x.one_lo+x.i.toNat]?.getD 0),x.a2.set (x.two_lo+x.i.toNat) (if 2<x.a2[x.two_lo+x.i.toNat]?.getD 0 then 2 else x.a2[x.two_lo+x.i.toNat]?.getD 0)⟩) else none else none else none else none else none else none else none else none else none else none else none else none else none else none else none else none else bif leB (x.one_lo+x.one_len) x.a1.length&&(leB (x.two_lo+x.two_len) x.a2.length&&true)&&true then some (Sum.inr ⟨x.ok,List.take x.one_len (List.drop x.one_lo x.a1),List.take x.two_len (List.drop x.two_lo x.a2),x.many,x.pos,x.knw,x.zp,x.zm,x.ko,x.kc⟩) else none
theorem s0_eq(x:p0X):exec E1 291 (C4.Q0 0) 1 (p0.R x) (p0.H x) (QP 0 p0 (.exit 0) q0)=s0 x:=by kernel_rfl
def l0:QJ:=QQ 0 p0 (.exit 0) q0 s0
theorem tl0:QA (C4.Q0 0) 1=[]:=by kernel_rfl
theorem l0_ok  :QF Tryz.prog 291 none 0 (C4.Q0 0) l0:=QG mixed (Q4 ty_ok cl_ok _) (by trivial) (λ_=>rfl) (λ_=>rfl) (tl0▸Q7.nil) s0_eq
def E0:Env:=⟨ty,QE cl,Qi [(0,l0),(1,l1)],none⟩
def m(x:gX):Option fY:=bindO (M5.m ⟨x.xin,x.dffs,x.d0,x.d1,x.bus,x.mem,x.w0,x.w1,x.w2,x.w3,x.gates,x.xouts⟩) λy=>bindO (M13.m ⟨y.1,y.2.1,y.2.2.1,y.2.2.2,x.fmodel,x.fnode,x.fpin,x.fother,x.fone⟩) λy_1=>bindO (M14.m ⟨y.1,y.2.1,y.2.2.1,y.2.2.2,IntKind.u64.wrap x.zp⟩) λy_2=>bindO (M15.m ⟨y.1,y.2.1,y.2.2.1,y.2.2.2,y_2.1,y_2.2⟩) λy_3=>bindO (M16.m ⟨y.1,y.2.1,y.2.2.1,y.2.2.2,y_1.1,y_1.2.1,y_1.2.2.1,y_1.2.2.2.1,y_1.2.2.2.2,y_2.1,y_2.2⟩) λy_4=>bindO (M17.m ⟨y.1,y.2.1,y.2.2.1,y.2.2.2,y_1.1,y_1.2.1,y_1.2.2.1,y_1.2.2.2.1,y_1.2.2.2.2,y_2.1,y_2.2⟩) λy=>bif bif bif y_3.2.2.2 !=0 then true else y_4.2.2.2 !=0 then true else y.2 !=0 then some false else bif QT y_3.1.length 1 then bif eqN y_3.1.length y_3.1.length&&QT (y_3.1.length+y_3.2.1.length) 1 then bif QT y_4.1.length 1 then bif eqN y_4.1.length y_4.1.length&&QT (y_4.1.length+y_4.2.1.length) 1 then bif bif bif (↑(y_3.1.length+y_3.2.1.length):Int) !=(↑(y_4.1.length+y_4.2.1.length):Int) then true else decide ((↑(y_3.1.length+y_3.2.1.length):Int)>40) then true else decide ((↑x.kc.length:Int)>40) then bindO (bif (↑(y_3.1.length+y_3.2.1.length):Int)==(↑(y_4.1.length+y_4.2.1.length):Int) then M18.m PUnit.unit else some false) λy=>some (bif (↑(y_3.1.length+y_3.2.1.length):Int)==(↑(y_4.1.length+y_4.2.1.length):Int) then y else false) else bindO (iter s0 ⟨y.1,0,y_3.1.length+y_3.2.1.length,0,y_4.1.length+y_4.2.1.length,0,0,true,0,x.zp,x.zm,x.ko,x.kc,y_3.1++y_3.2.1,y_4.1++y_4.2.1⟩) λy=>bindO (M19.m ⟨y.ko,y.kc⟩) λy_5=>bindO (iter s1 ⟨y.ok,y.one,y.two,y.many,y.pos,y.knw,y_5.2,0,y.zp,y.zm,y.ko,y.kc,y_5.1,0,0,[]⟩) λy=>bif decide (0<=(↑y.one.length:Int)) then bif nz (IntKind.u64.wrap (1*2^min (↑y.one.length:Int).toNat 64)) then bindO (M20.m ⟨y.kouts,y.kcols,y.one,y.two,y.zm.tmod (IntKind.u64.wrap (1*2^min (↑y.one.length:Int).toNat 64))⟩) λy_6=>bindO (M21.m ⟨y.one⟩) λy_7=>bindO (M21.m ⟨y.two⟩) λy_8=>bindO (M20.m ⟨y.kouts,y.kcols,y.one,y.two,IntKind.u64.wrap (↑(BitVec.ofInt 64 y_7.1|||BitVec.ofInt 64 y_8.1).toNat:Int)⟩) λy_9=>bif bif bif bif bif bif y_6.2 !=0 then true else y_7.2 !=0 then true else y_8.2 !=0 then true else y_9.2 !=0 then true else bif decide ((↑y_6.1.length:Int)>0) then !y.ok else false then true else bif decide ((↑y_9.1.length:Int)>0) then !y.ok else false then some false else bif decide (0<=y.pos)||!bif y.knw then y.many==1 else false then bif inR y.pos y.kcols.length||!bif bif y.knw then y.many==1 else false then ((y.zm.tmod (IntKind.u64.wrap (1*2^min (↑y.one.length:Int).toNat 64))).fdiv (2^min y.pos.toNat 64)).tmod 2==0 else false then bif bif bif bif bif y.knw then y.many==1 else false then ((y.zm.tmod (IntKind.u64.wrap (1*2^min (↑y.one.length:Int).toNat 64))).fdiv (2^min y.pos.toNat 64)).tmod 2==0 else false then y.kcols[y.pos.toNat]?.getD 0 !=0 else false then (↑y_6.1.length:Int)==0 else false then some false else bindO (M18.m PUnit.unit) λy=>some y else none else none else none else none else none else none else none else none
theorem m_eq(x:gX):exec E0 291 C4 0 (QD 0 (g.A x)) (g.H x) (finish 0 ty [.tmp 6] f)=m x:=by kernel_rfl
theorem tl:QA C4 0=[(0,C4.Q0 0),(1,C4.Q0 1)]:=by kernel_rfl
theorem known:QB Tryz.prog 4 g f m:=
 Q5 mixed (Q4 ty_ok cl_ok _) s4 rfl rfl tl (Q7.cons rfl l0_ok (Q7.cons rfl l1_ok Q7.nil)) (λ_ _=>⟨rfl,rfl⟩) (λ_ _=>⟨rfl,rfl⟩) m_eq
end M4
end
section
open Go.Abs
namespace Co
def md(l:List Int)(i:Nat):List Int:=(l.take i).map rdv++l.drop i
theorem md_len{l:List Int}{i:Nat}:(md l i).length=l.length:=by unfold md;simp;omega
theorem md_at{l:List Int}{i:Nat}(h:i<l.length):(md l i)[i]?.getD 0=l[i]:=by
 unfold md;have e:((l.take i).map rdv).length=i:=by simp;omega
 rw[AS (by omega),e,Nat.sub_self];simp[h]
theorem md_set{l:List Int}{i:Nat}(h:i<l.length):(md l i).set i (rdv l[i])=md l (i+1):=by
 unfold md;have e:((l.take i).map rdv).length=i:=by simp;omega
 rw[List.set_append_right _ _ (by omega),e,Nat.sub_self,List.drop_eq_getElem_cons h,List.set_cons_zero,<-map_snoc h,Ac];rfl
theorem md_next{l:List Int}{i:Nat}(h:i<l.length):(md l (i+1))[i]?.getD 0=rdv l[i]:=by rw[<-md_set h,getSet (by rw[md_len];exact h),AF rfl]
structure Cnt(u w:List Int)(i:Nat)(many pos:Int)(knw:Bool):Prop where
 m0:0<=many
 m1:many<=i
 kn:knw=true->∀j,j<i->ky u j<2/\ky w j<2
 z:many=0->∀j:Nat,j<i->ky u j+ky w j≠1
 o:many=1->∃p:Nat,pos=(p:Int)/\p<i/\ky u p+ky w p=1/\∀j:Nat,j<i->j≠p->ky u j+ky w j≠1
 p0:0<=pos
theorem rdv_V{v:Int}(h:V v):0<=rdv v/\rdv v<=2:=by obtain⟨q1,q2⟩:=h;unfold rdv;split<;>omega
theorem ky_map{l:List Int}{j:Nat}(h:j<l.length):ky (l.map rdv) (j:Int)=rdv l[j]:=by unfold ky;simp[h]
section
variable {one two:List Int}{ok:Bool}{zp zm ko:Int}{kc:List Int}
theorem m4_0(hl:two.length=one.length)(hn:one.length<=40)(h1:AllV one)(h2:AllV two):∃many pos knw,iter M4.s0 ⟨ok,0,one.length,0,one.length,0,0,true,0,zp,zm,ko,kc,one,two⟩=some ⟨ok,one.map rdv,two.map rdv,many,pos,knw,zp,zm,ko,kc⟩/\Cnt (one.map rdv) (two.map rdv) one.length many pos knw:=by
 obtain⟨y,k0,many,pos,knw,e,K⟩:=iter_inv (step:=M4.s0) (λx=>∃(i:Nat) (many pos:Int) (knw:Bool),x=(⟨ok,0,one.length,0,one.length,many,pos,knw,(i:Int),zp,zm,ko,kc,md one i,md two i⟩:M4.p0X)/\i<=one.length/\Cnt (one.map rdv) (two.map rdv) i many pos knw) (λx=>one.length - x.i.toNat)
  (λy=>∃many pos knw,y=(⟨ok,one.map rdv,two.map rdv,many,pos,knw,zp,zm,ko,kc⟩:M4.q0X)/\Cnt (one.map rdv) (two.map rdv) one.length many pos knw) (by
   rintro x ⟨i,many,pos,knw,rfl,hi,K⟩;unfold M4.s0;by_cases hlt:i<one.length
   ·have hlt2:i<two.length:=(by omega);have c1:=ilt (a:=(i:Int)) (b:=(one.length:Int)) (by omega);have g1:decide (i<(md one i).length)=true:=dlt (by rw[md_len];exact hlt);have g2:decide (i<(md two i).length)=true:=dlt (by rw[md_len];exact hlt2);have g3:decide (i<(md one (i+1)).length)=true:=dlt (by rw[md_len];exact hlt);have g4:decide (i<(md two (i+1)).length)=true:=dlt (by rw[md_len];exact hlt2);have r1:(if 2<one[i] then 2 else one[i])=rdv one[i]:=rfl;have r2:(if 2<two[i] then 2 else two[i])=rdv two[i]:=rfl;have b1:=rdv_V (h1 _ (AH hlt));have b2:=rdv_V (h2 _ (AH hlt2));have w:IntKind.u8.wrap (rdv one[i]+rdv two[i])=rdv one[i]+rdv two[i]:=w8 (by omega) (by omega);have u1:=ky_map (l:=one) hlt;have u2:=ky_map (l:=two) hlt2;have hm:=K.m0;have hm1:=K.m1;simp only[c1,inR_nat hlt,A5,AI,AC,g1,g2,md_at hlt,md_at hlt2,r1,r2,md_set hlt,md_set hlt2,md_next hlt,md_next hlt2,g3,g4,Bool.true_or,w,suc (i:=i) (by omega)];have kn:∀b:Bool,b=(bif bif knw then decide (rdv one[i]<2) else false then decide (rdv two[i]<2) else false)->b=true->∀j,j<i+1->ky (one.map rdv) j<2/\ky (two.map rdv) j<2:=λb hb ht j hj=>by
     rw[ht]at hb
     cases hk:knw with
     |false=>rw[hk]at hb;cases hb
     |true=>
      rw[hk]at hb;by_cases a1:rdv one[i]<2
      ·by_cases a2:rdv two[i]<2
       ·by_cases e:j=i
        ·subst e;rw[u1,u2];exact⟨a1,a2⟩
        ·exact K.kn hk j (by omega)
       ·rw[AN a2,AB a1]at hb;cases hb
      ·rw[AN a1]at hb;cases hb
    by_cases hs:rdv one[i]+rdv two[i]=1
    ·have g:(rdv one[i]+rdv two[i]==1)=true:=Av.2 hs;have wm:IntKind.i64.wrap (many+1)=many+1:=w64 (by omega) (by omega);simp only[g,A5,wm];refine⟨_,rfl,⟨i+1,many+1,(i:Int),_,rfl,hlt,by omega,by omega,kn _ rfl,λhz=>by omega,λho=>⟨i,rfl,by omega,by rw[u1,u2];exact hs,λj hj hne=>K.z (by omega) j (by omega)⟩,by omega⟩,by simp;omega⟩
    ·have g:(rdv one[i]+rdv two[i]==1)=false:=Ae.2 hs;simp only[g,A7];refine⟨_,rfl,⟨i+1,many,pos,_,rfl,hlt,hm,by omega,kn _ rfl,λhz j hj=> ?_,λho=> ?_,K.p0⟩,by simp;omega⟩
     ·by_cases e:j=i
      ·subst e;rw[u1,u2];exact hs
      ·exact K.z hz j (by omega)
     ·obtain⟨p,p1,p2,p3,p4⟩:=K.o ho;refine⟨p,p1,by omega,p3,λj hj hne=> ?_⟩;by_cases e:j=i
      ·subst e;rw[u1,u2];exact hs
      ·exact p4 j (by omega) hne
   ·have c1:=inlt (a:=(i:Int)) (b:=(one.length:Int)) (by omega);have hi':i=one.length:=(by omega);subst hi';have e1:md one one.length=one.map rdv:=(by unfold md;simp);have e2:md two one.length=two.map rdv:=(by unfold md;rw[<-hl];simp);simp only[c1,A7,AI,md_len,hl,leB_of (A6 one.length),AG,A5,AU,e1,e2,AA];rw[AJ (by simp),AJ (by simp;omega)];exact⟨_,rfl,many,pos,knw,rfl,K⟩) ⟨ok,0,one.length,0,one.length,0,0,true,((0:Nat):Int),zp,zm,ko,kc,md one 0,md two 0⟩ ⟨0,0,0,true,rfl,B0 _,CY _,CY _,λ_ j hj=>by omega,λ_ j hj=>by omega,λh=>by omega,CY _⟩
 have e1:md one 0=one:=by unfold md;simp
 have e2:md two 0=two:=by unfold md;simp
 rw[e1,e2]at k0;exact⟨many,pos,knw,by rw[<-e];exact k0,K⟩
theorem m4_1{m:Nat}{cs one two:List Int}{many pos:Int}{knw:Bool}(hc:∀t,0<=Pl.at0 cs t/\Pl.at0 cs t<2^m)(hn:one.length<=40):∃ks:List Int,iter M4.s1 ⟨ok,one,two,many,pos,knw,cs,0,zp,zm,ko,kc,(m:Int),0,0,[]⟩=some ⟨ok,one,two,many,pos,knw,zp,zm,ko,kc,(m:Int),ks⟩/\ks.length=one.length/\∀t,0<=Pl.at0 ks t/\Pl.at0 ks t<2^m:=by
 have hpow:(0:Int)<2^m:=by have hp0:0<2^m:=Nat.two_pow_pos m;have:(2:Int)^m=((2^m:Nat):Int):=(by simp);rw[this];omega
 obtain⟨y,k0,ks,e,L,K⟩:=iter_inv (step:=M4.s1) (λx=>∃(i:Nat) (ks:List Int),x=(⟨ok,one,two,many,pos,knw,cs,(i:Int),zp,zm,ko,kc,(m:Int),0,i,ks⟩:M4.p1X)/\i<=one.length/\ks.length=i/\∀t,0<=Pl.at0 ks t/\Pl.at0 ks t<2^m) (λx=>one.length - x.i.toNat)
  (λy=>∃ks:List Int,y=(⟨ok,one,two,many,pos,knw,zp,zm,ko,kc,(m:Int),ks⟩:M4.q1X)/\ks.length=one.length/\∀t,0<=Pl.at0 ks t/\Pl.at0 ks t<2^m) (by
   rintro x ⟨i,ks,rfl,hi,hl,K⟩;have snoc:∀v:Int,0<=v/\v<2^m->∀t,0<=Pl.at0 (ks++[v]) t/\Pl.at0 (ks++[v]) t<2^m:=λv hv t=>by
    rw[Pl.at_app];split
    ·exact K t
    ·split
     ·exact hv
     ·exact⟨CY _,hpow⟩
   unfold M4.s1;by_cases hlt:i<one.length
   ·have c1:=ilt (a:=(i:Int)) (b:=(one.length:Int)) (by omega);simp only[c1,A5,eqN_of rfl,eqN_of hl,room (n:=i+1) (b:=8) (by omega) (by omega),AG,suc (i:=i) (by omega)];by_cases h0:cs.length=0
    ·have g:((cs.length:Int)==0)=true:=Av.2 (by omega);simp only[g,A5];exact⟨_,rfl,⟨i+1,_,rfl,hlt,by simp[hl],snoc 0 ⟨CY _,hpow⟩⟩,by simp;omega⟩
    ·have g:((cs.length:Int)==0)=false:=Ae.2 (by omega);have e:(i:Int).tmod (cs.length:Int)=((i%cs.length:Nat):Int):=(by rw[Ap (by omega)];rfl);have hr:inR ((i%cs.length:Nat):Int) cs.length=true:=inR_nat (Nat.mod_lt _ (by omega));simp only[g,A7,nzN (show 0<cs.length by omega),A5,e,hr,AC];exact⟨_,rfl,⟨i+1,_,rfl,hlt,by simp[hl],snoc _ (hc _)⟩,by simp;omega⟩
   ·have c1:=inlt (a:=(i:Int)) (b:=(one.length:Int)) (by omega);have hi':i=one.length:=(by omega);subst hi';simp only[c1,A7,AI,hl,leB_of (A6 one.length),AG,A5,AU];rw[AJ (by omega)];exact⟨_,rfl,ks,rfl,hl,K⟩) ⟨ok,one,two,many,pos,knw,cs,((0:Nat):Int),zp,zm,ko,kc,(m:Int),0,0,[]⟩ ⟨0,[],rfl,B0 _,rfl,λt=>⟨CY _,hpow⟩⟩
 exact⟨ks,by rw[<-e];exact k0,L,K⟩
end
end Co
end
section
open Go.Abs
namespace Co
theorem sm_ex{cs a b:List Int}{M:Int}{o:Nat}:∀n,Pl.sm cs a b M o n=true->∃c,c<n/\Pl.at0 a c+Pl.at0 b c=1
 |0,h=>by cases h
 |n+1,h=>by
  unfold Pl.sm at h;rw[CB]at h;rcases h with h|h
  ·obtain⟨c,h1,h2⟩:=sm_ex n h;exact⟨c,by omega,h2⟩
  ·rw[A9,A9,Av]at h;exact⟨n,by omega,h.2.2⟩
theorem see_of{ao an bo bn:List Int}(l1:bo.length=ao.length)(l2:bn.length=an.length)(v1:AllV ao)(v2:AllV an)(v3:AllV bo)(v4:AllV bn){c:Nat}(h:Pl.at0 ((ao++an).map rdv) c+Pl.at0 ((bo++bn).map rdv) c=1):see ao an bo bn=true:=by
 have hb:∀l:List Int,AllV l->∀c:Nat,c<l.length->Pl.at0 (l.map rdv) c=rdv (ky l (c:Int)):=λl hv c hc=>by unfold Pl.at0 ky;simp[hc]
 have key:∀a b:List Int,b.length=a.length->AllV a->AllV b->∀c:Nat,c<a.length->rdv (ky a (c:Int))+rdv (ky b (c:Int))=1->0<(ctr a b a.length).length:=λa b hl ha hb c hc h=>by
  have q1:=allV_ky ha (c:Int);have q2:=allV_ky hb (c:Int);have:(c:Int)∈ctr a b a.length:=by unfold ctr;rw[CT,nums_mem];refine⟨⟨by omega,by omega⟩,?_⟩;unfold ctb;unfold rdv at h;revert h q1 q2;generalize ky a (c:Int)=x;generalize ky b (c:Int)=y;intro h ⟨x0,x1⟩ ⟨y0,y1⟩;have e:(x=0/\y=1)\/(x=1/\y=0):=(by split at h<;>split at h<;>omega);rcases e with ⟨rfl,rfl⟩|⟨rfl,rfl⟩<;>rfl
  exact List.length_pos_of_mem this
 unfold see;refine AB ?_;rw[AZ,AZ]at h;have lm:(ao.map rdv).length=ao.length:=AA ..;have lm2:(bo.map rdv).length=ao.length:=by rw[AA,l1]
 by_cases hc:c<ao.length
 ·have e1:Pl.at0 (ao.map rdv++an.map rdv) c=rdv (ky ao (c:Int)):=(by rw[<-hb ao v1 c hc];unfold Pl.at0;rw[AK (by omega)]);have e2:Pl.at0 (bo.map rdv++bn.map rdv) c=rdv (ky bo (c:Int)):=(by rw[<-hb bo v3 c (by omega)];unfold Pl.at0;rw[AK (by omega)]);rw[e1,e2]at h;have:=key ao bo l1 v1 v3 c hc h;omega
 ·by_cases hc2:c - ao.length<an.length
  ·have e1:Pl.at0 (ao.map rdv++an.map rdv) c=rdv (ky an ((c - ao.length:Nat):Int)):=(by rw[<-hb an v2 _ hc2];unfold Pl.at0;rw[AS (by omega),lm]);have e2:Pl.at0 (bo.map rdv++bn.map rdv) c=rdv (ky bn ((c - ao.length:Nat):Int)):=(by rw[<-hb bn v4 _ (by omega)];unfold Pl.at0;rw[AS (by omega),lm2]);rw[e1,e2]at h;have:=key an bn l2 v2 v4 _ hc2 h;omega
  ·exfalso;have z:∀l:List Int,l.length<=c->Pl.at0 l c=0:=λl hl=>(by unfold Pl.at0;rw[Ab (by omega)];rfl);rw[z _ (by simp;omega),z _ (by simp;omega)]at h;omega
theorem dif_comm{cs a b:List Int}{M:Int}{o:Nat}:Pl.dif cs a b M o=Pl.dif cs b a M o:=by unfold Pl.dif;rw[Int.add_comm]
theorem vl_of{l:List Int}(h:AllV l):Pl.Vl (l.map rdv):=λi=>by
 by_cases hi:i<l.length
 ·have e:Pl.at0 (l.map rdv) i=rdv l[i]:=(by unfold Pl.at0;simp[hi]);rw[e];have:=rdv_V (h _ (AH hi));omega
 ·left;unfold Pl.at0;rw[Ab (by simp;omega)];rfl
theorem or2{a c:Nat}(ha:a<2^64)(hc:c<2^64):IntKind.u64.wrap (↑(BitVec.ofInt 64 (a:Int)|||BitVec.ofInt 64 (c:Int)).toNat:Int)=((a|||c:Nat):Int):=by
 rw[Pl.bv_nat,Pl.bv_nat,BitVec.toNat_or,CQ,CQ,Cb ha,Cb hc];have:a|||c<2^64:=Nat.or_lt_two_pow ha hc
 rw[wu64 (by omega) (by omega)]
theorem shows{m:Nat}{ks u w:List Int}{M:Int}(hC:Pl.Cp m ks)(lu:u.length=ks.length)(lw:w.length=ks.length)(vu:Pl.Vl u)(vw:Pl.Vl w){p:Nat}(hp:p<ks.length)(hk:∀j:Nat,j<ks.length->ky u j<2/\ky w j<2)(h1:ky u p+ky w p=1)(h2:∀j:Nat,j<ks.length->j≠p->ky u j+ky w j≠1)(hm:Pl.tb M p=false)(hcol:Pl.at0 ks p≠0):0<(Pl.difs ks u w M m).length:=by
 have z:∀l:List Int,∀j,l.length<=j->Pl.at0 l j=0:=λl j hl=>by unfold Pl.at0;rw[Ab (by omega)];rfl
 have same:∀j,j≠p->Pl.at0 w j=Pl.at0 u j:=λj hj=>by
  by_cases hjn:j<ks.length
  ·have a1:=vu j;have a2:=vw j;have a3:=hk j hjn;have a4:=h2 j hjn hj;have e1:ky u (j:Int)=Pl.at0 u j:=rfl;have e2:ky w (j:Int)=Pl.at0 w j:=rfl;rw[e1,e2]at a3 a4;omega
  ·rw[z _ _ (by omega),z _ _ (by omega)]
 have no2:∀l:List Int,(∀j:Nat,j<ks.length->Pl.at0 l j<2)->∀j,j<ks.length->Pl.tb M j=false->Pl.at0 l j=2->∀o,Pl.tb (Pl.at0 ks j) o=false:=λl hl j hj _ h2=>by have:=hl j hj;omega
 -- an output that the column feeds
 have hx0:=hC.lo p;have hx1:=hC.hi p;obtain⟨x,hx⟩:∃x:Nat,Pl.at0 ks p=(x:Int):=⟨(Pl.at0 ks p).toNat,by omega⟩;obtain⟨o,ho⟩:=Nat.exists_testBit_of_ne_zero (x:=x) (by omega);have hpow:(2:Int)^m=((2^m:Nat):Int):=by simp
 have hlt:x<2^m:=by rw[hx,hpow]at hx1;omega
 have hom:o<m:=by
  rcases Nat.lt_or_ge o m with h|h
  ·exact h
  ·have:x<2^o:=BV hlt (CD (by omega) h);rw[Nat.testBit_lt_two_pow this]at ho;cases ho
 have htb:Pl.tb (Pl.at0 ks p) o=true:=by rw[hx];unfold Pl.tb;rw[AC];exact ho
 refine Pl.difs_pos.2 ⟨o,hom,?_⟩;have a1:=vu p;have a2:=vw p;have e1:ky u (p:Int)=Pl.at0 u p:=rfl;have e2:ky w (p:Int)=Pl.at0 w p:=rfl;rw[e1,e2]at h1;have hu:∀j:Nat,j<ks.length->Pl.at0 u j<2:=λj hj=>(hk j hj).1;have hw:∀j:Nat,j<ks.length->Pl.at0 w j<2:=λj hj=>(hk j hj).2;by_cases h0:Pl.at0 u p=0
 ·exact(Pl.pair_dif vu same h0 (by omega) hm hp).2 ⟨htb,λj hj q1 q2=>no2 u hu j hj q1 q2 o⟩
 ·rw[dif_comm];exact(Pl.pair_dif vw (λj hj=>(same j hj).symm) (by omega) (by omega) hm hp).2 ⟨htb,λj hj q1 q2=>no2 w hw j hj q1 q2 o⟩
theorem run4(h18:M18.m ()=some true){xi df d0 d1 w0 w1 w2 w3 fm fn fp fo zp zm ko:Int}{bus mem fone:Bool}{gs:List (Int×Int×Int×Int)}{xo kc:List Int}(hx:Xc xi df d0 d1 gs xo)(hn:B8 fn)(hp:B8 fp)(hz:B8 zp)(hzm:Pl.W zm)(hko:B8 ko)(hkc:∀i,0<=Pl.at0 kc i/\Pl.at0 kc i<4294967296):
  M4.m ⟨xi,df,d0,d1,bus,mem,w0,w1,w2,w3,gs,xo,fm,fn,fp,fo,fone,zp,zm,ko,kc⟩=some true:=by
 obtain⟨N,C,h5,O⟩:=m5 (w0:=w0) (w1:=w1) (w2:=w2) (w3:=w3) (bus:=bus) (mem:=mem) hx;have ck:=O.ck;have l1:=O.l1;have lc:=O.lc;obtain⟨o,R⟩:=runs ck O.tp;obtain⟨ln,lp,val,h13,F⟩:=m13 (N:=N) (A:=(List.range N.length).map M52.nm) (C:=C) (fm:=fm) (fo:=fo) (fone:=fone) O.l0 (by omega) (λi hi=>by
  have g:=O.bd.nn i hi;unfold pn;rw[A4 hi];have:=g.few;show N[i].2.1.length<=100;omega) hn hp
 have wz:IntKind.u64.wrap zp=zp:=wu64 (by have:=hz.1;omega) (by have:=hz.2;omega);obtain⟨inn,st,h14,li,ls,ki,ks⟩:=m14 (N:=N) (A:=(List.range N.length).map M52.nm) (C:=C) (n:=IntKind.u64.wrap zp) (by omega);rw[wz]at h14;have P:Pat N inn st:=⟨li,ls,ki.allV,ks.allV⟩;have h15:=R.m15 P;have h16:=m16 R F P;have h17:=m17 R F P;have rng:∀i∈o,In N.length i:=λi hi=>nums_mem.1 (R.od.p.mem_iff.1 hi);have nv:∀G:Flt,G.Ok->AllV (sim G N o (base N inn st)):=λG hG=>sim_V ck hG rng (base_V P.vi P.vs);have ov:∀G:Flt,G.Ok->AllV (outsV C (sim G N o (base N inn st))):=λG hG v hv=>by obtain⟨a,_,rfl⟩:=Ba.1 hv;exact allV_ky (nv G hG) a
 have xv:∀G:Flt,G.Ok->AllV (nexts G N (sim G N o (base N inn st))):=λG hG v hv=>by obtain⟨a,_,rfl⟩:=Ba.1 hv;have:=rdv_V (hG.rd a 0 _ (allV_ky (nv G hG) (pin0 N a)));exact⟨this.1,by omega⟩
 have hG:=flt_ok F;have lK:(ofK N 14).length<=N.length:=ofN_len;have la:∀G:Flt,(outsV C (sim G N o (base N inn st))).length=C.length:=λG=>by simp[outsV]
 have lb:∀G:Flt,(nexts G N (sim G N o (base N inn st))).length=(ofK N 14).length:=λG=>by simp[nexts]
 have av:=ov good good_ok;have bv:=xv good good_ok;have cv:=ov (flt ln lp val) hG;have dv:=xv (flt ln lp val) hG;have e1:=la good;have e2:=lb good;have e3:=la (flt ln lp val);have e4:=lb (flt ln lp val);revert h15 h16 h17 av bv cv dv e1 e2 e3 e4;generalize outsV C (sim good N o (base N inn st))=ao;generalize nexts good N (sim good N o (base N inn st))=an;generalize outsV C (sim (flt ln lp val) N o (base N inn st))=bo;generalize nexts (flt ln lp val) N (sim (flt ln lp val) N o (base N inn st))=bn;generalize sim good N o (base N inn st)=ng;generalize sim (flt ln lp val) N o (base N inn st)=nf;intro h15 h16 h17 av bv cv dv e1 e2 e3 e4;have rm:∀a b:Nat,a<=1000->b<=1000->QT a 1=true:=λa b h _=>room (n:=a) (b:=1) (by omega) (by omega);have lone:(ao++an).length=ao.length+an.length:=AL ..;have ltwo:(bo++bn).length=ao.length+an.length:=by rw[AL];omega
 have lsum:bo.length+bn.length=ao.length+an.length:=by omega
 have hlen:ao.length+an.length<=40:=by omega
 have cne:(((ao.length+an.length:Nat):Int) !=((ao.length+an.length:Nat):Int))=false:=by simp
 have c40:decide (((ao.length+an.length:Nat):Int)>40)=false:=AN (by omega);unfold M4.m;simp only[h5,bindO,h13,wz,h14,h15,h16,h17,BU,A7,room (n:=ao.length) (b:=1) (by omega) (by omega),room (n:=bo.length) (b:=1) (by omega) (by omega),eqN_of rfl,lsum,room (n:=ao.length+an.length) (b:=1) (by omega) (by omega),AG,A5,cne,c40];by_cases hk40:kc.length<=40
 ·have ck40:decide ((kc.length:Int)>40)=false:=AN (by omega);obtain⟨m,cs,h19,hcp,lcs⟩:=Pl.of_run (o:=ko) (cols:=kc) hko hkc hk40;obtain⟨many,pos,knw,h40,K⟩:=m4_0 (one:=ao++an) (two:=bo++bn) (ok:=see ao an bo bn) (zp:=zp) (zm:=zm) (ko:=ko) (kc:=kc) (by omega) (by omega) (λv hv=>by
   rcases Ad.1 hv with h|h
   ·exact av v h
   ·exact bv v h) (λv hv=>by
   rcases Ad.1 hv with h|h
   ·exact cv v h
   ·exact dv v h)
  obtain⟨kk,h41,lkk,hkk⟩:=m4_1 (ok:=see ao an bo bn) (zp:=zp) (zm:=zm) (ko:=ko) (kc:=kc) (one:=(ao++an).map rdv) (two:=(bo++bn).map rdv) (many:=many) (pos:=pos) (knw:=knw) (cs:=cs) (m:=m) (λt=>⟨hcp.lo t,hcp.hi t⟩) (by simp;omega);have lkk:kk.length=ao.length+an.length:=(by rw[lkk,AA,lone]);have hcp2:Pl.Cp m kk:=⟨hcp.most,by omega,λi=>(hkk i).1,λi=>(hkk i).2⟩;have vu:Pl.Vl ((ao++an).map rdv):=vl_of λv hv=>by
   rcases Ad.1 hv with h|h
   ·exact av v h
   ·exact bv v h
  have vw:Pl.Vl ((bo++bn).map rdv):=vl_of λv hv=>by
   rcases Ad.1 hv with h|h
   ·exact cv v h
   ·exact dv v h
  have lu:((ao++an).map rdv).length=kk.length:=(by rw[AA,lone,lkk]);have lw:((bo++bn).map rdv).length=kk.length:=(by rw[AA,ltwo,lkk]);have seeD:∀M,0<(Pl.difs kk ((ao++an).map rdv) ((bo++bn).map rdv) M m).length->see ao an bo bn=true:=λM h=>(by obtain⟨o,_,hd⟩:=Pl.difs_pos.1 h;obtain⟨c,_,h1⟩:=sm_ex _ (Pl.dif_iff vu vw hd);exact see_of (by omega) (by omega) av bv cv dv h1);have cntD:=λ(p:Nat) (hp:p<kk.length)=>shows (M:=zm.tmod (2^(ao.length+an.length))) hcp2 lu lw vu vw hp;have K1:=K.kn;have K2:=K.o;have K3:=K.p0;have h40':iter M4.s0 { ok:=see ao an bo bn,one_lo:=0,one_len:=ao.length+an.length,two_lo:=0,two_len:=ao.length+an.length,many:=0,pos:=0,knw:=true,i:=0,zp:=zp,zm:=zm,ko:=ko,kc:=kc,a1:=ao++an,a2:=bo++bn }=some ⟨see ao an bo bn,(ao++an).map rdv,(bo++bn).map rdv,many,pos,knw,zp,zm,ko,kc⟩:=(by have:=h40;rw[lone]at this;exact this);have h41':iter M4.s1 { ok:=see ao an bo bn,one:=(ao++an).map rdv,two:=(bo++bn).map rdv,many:=many,pos:=pos,knw:=knw,cols:=cs,i:=0,zp:=zp,zm:=zm,ko:=ko,kc:=kc,kouts:=(m:Int),kk_lo:=0,kk_len:=0,ks:=[] }=_:=h41;rw[lone]at K1 K2;revert lu lw vu vw seeD cntD K1 K2 h40' h41';clear h40 h41 K;generalize (ao++an).map rdv=u;generalize (bo++bn).map rdv=w;intro vu vw lu lw seeD cntD K1 K2 h40' h41';obtain⟨u1,m1,b1,_⟩:=Pl.masks_run vu (by omega);obtain⟨u2,m2,b2,_⟩:=Pl.masks_run vw (by omega);have lu':u.length=ao.length+an.length:=(by omega);have lw':w.length=ao.length+an.length:=(by omega);rw[lu']at b1;rw[lw']at b2;have p64:2^(ao.length+an.length)<=2^40:=CD (by omega) hlen;have hpow:(2:Int)^(ao.length+an.length)=((2^(ao.length+an.length):Nat):Int):=(by simp);have hp0:0<2^(ao.length+an.length):=Nat.two_pow_pos _;have wp:=Pl.pow_wrap (n:=ao.length+an.length) (by omega);have hnz:nz ((2:Int)^(ao.length+an.length))=true:=(by rw[hpow];exact nzN hp0);have c0:decide (0<=((ao.length+an.length:Nat):Int))=true:=AB (by omega);have M0:0<=zm.tmod (2^(ao.length+an.length))/\zm.tmod (2^(ao.length+an.length))<2^(ao.length+an.length):=(by rw[Ap hzm.1,hpow];generalize 2^(ao.length+an.length)=t at hp0;exact⟨Int.emod_nonneg _ (by omega),Cf _ (by omega)⟩);have MW:Pl.W (zm.tmod (2^(ao.length+an.length))):=(by refine⟨M0.1,?_⟩;have:=M0.2;rw[hpow]at this;rw[hpow];generalize 2^(ao.length+an.length)=t at p64 this;omega);have d1:=Pl.differs_run hcp2 lu lw vu vw (mask:=zm.tmod (2^(ao.length+an.length))) M0.1 (by rw[lkk];exact M0.2) MW;have hor:u1|||u2<2^(ao.length+an.length):=Nat.or_lt_two_pow b1 b2
  have wor:=or2 (a:=u1) (c:=u2) (by omega) (by omega);have d2:=Pl.differs_run hcp2 lu lw vu vw (mask:=((u1|||u2:Nat):Int)) (by omega) (by rw[lkk,hpow];omega) ⟨by omega,by omega⟩;simp only[ck40,A7,h40',h19,h41',lu',c0,A5,AC,wp,hnz,d1,m1,m2,wor,d2,BU]
  -- the answers
  have s1:(bif decide (((Pl.difs kk u w (zm.tmod (2^(ao.length+an.length))) m).length:Int)>0) then !(see ao an bo bn) else false)=false:=by
   by_cases h:0<(Pl.difs kk u w (zm.tmod (2^(ao.length+an.length))) m).length
   ·rw[seeD _ h];cases decide (((Pl.difs kk u w (zm.tmod (2^(ao.length+an.length))) m).length:Int)>0)<;>rfl
   ·rw[AN (by omega)];rfl
  have s2:(bif decide (((Pl.difs kk u w ((u1|||u2:Nat):Int) m).length:Int)>0) then !(see ao an bo bn) else false)=false:=by
   by_cases h:0<(Pl.difs kk u w ((u1|||u2:Nat):Int) m).length
   ·rw[seeD _ h];cases decide (((Pl.difs kk u w ((u1|||u2:Nat):Int) m).length:Int)>0)<;>rfl
   ·rw[AN (by omega)];rfl
  have t1:(decide (0<=pos)||!bif knw then many==1 else false)=true:=(by rw[AB K3];rfl);simp only[s1,s2,A7,t1,A5]
  cases hcond:(bif knw then many==1 else false) with
  |false=>simp only[A7,BX,CP,A5,h18]
  |true=>
   have hknw:knw=true:=by
    cases knw with
    |true=>rfl
    |false=>cases hcond
   subst hknw;have hmany:many=1:=Av.1 hcond;obtain⟨p,rfl,pl,ps,pn⟩:=K2 hmany;have hpk:p<kk.length:=(by omega);simp only[A5,inR_nat hpk,Bool.true_or,AC]
   cases hbit:(((zm.tmod (2^(ao.length+an.length))).fdiv (2^min p 64)).tmod 2==0) with
   |false=>simp only[A7,h18]
   |true=>
    cases hcol:(kk[p]?.getD 0 !=0) with
    |false=>simp only[A5,A7,h18]
    |true=>
     have htb:Pl.tb (zm.tmod (2^(ao.length+an.length))) p=false:=(by rw[<-Pl.tb_rem MW (i:=p) (by omega),Ae];rw[Av]at hbit;omega);have hpos:=cntD p hpk (λj hj=>K1 rfl j (by omega)) ps (λj hj hne=>pn j (by omega) hne) htb (by
      have:kk[p]?.getD 0≠0:=(by simpa using hcol);exact this)
     have g:(((Pl.difs kk u w (zm.tmod (2^(ao.length+an.length))) m).length:Int)==0)=false:=Ae.2 (by omega);simp only[A5,g,A7,h18]
 ·have ck40:decide ((kc.length:Int)>40)=true:=AB (by omega);simp only[ck40,A5,Ca,h18]
end Co
end
section
open Go.ChangeShapes Go.WideShapes Go.ChangeAt Go.RowKit
open Go.Abs
theorem mapM_get{α β:Type}{f:α->Option β}:∀{l:List α} {ys:List β},l.mapM f=some ys->ys.length=l.length/\∀i (h:i<l.length) (h':i<ys.length),f l[i]=some ys[i]
 |[],ys,h=>by simp only[List.mapM_nil,Option.pure_def,X3]at h;subst h;exact⟨rfl,λi h=>by simp at h⟩
 |a::l,ys,h=>by
  rw[List.mapM_cons]at h;simp only[Option.pure_def,Option.bind_eq_bind,Option.bind_eq_some_iff,X3]at h;obtain⟨y,h1,ys',h2,rfl⟩:=h;obtain⟨h3,h4⟩:=mapM_get h2;refine⟨by simp[h3],λi hi hi'=> ?_⟩
  cases i with
  |zero=>exact h1
  |succ i=>exact h4 i (by simpa using hi) (by simpa using hi')
theorem int_trod{H:Type}{enc:TypeId×Value->H}{P:Program}{w:World}{base:Nat}{spare:Nat->Bool}{held:Bool}{fuel:Nat}{t:TypeId}{cs:List Value}{k:IntKind}{n:Int}{p:List MemPlace}(ht:P.underlying t=some (.int k))
  (h:DataW.trod enc P w base spare held fuel t cs=some (.lit (.int k n),p)):cs=[.int k n]:=by
 cases fuel with
 |zero=>simp[DataW.trod]at h
 |succ fuel=>
  match cs with
  |[]=>simp[DataW.trod,ht]at h
  |_::_::_=>simp[DataW.trod,ht]at h
  |[c]=>cases c<;>simp[DataW.trod,ht]at h;rename_i b;obtain⟨⟨rfl,_⟩,rfl,_⟩:=h;rfl
theorem arr_trod{H:Type}{enc:TypeId×Value->H}{P:Program}{w:World}{base:Nat}{spare:Nat->Bool}{held:Bool}{fuel:Nat}{t e:TypeId}{n:Nat}{cs:List Value}{ds:List (DataW H)}{p:List MemPlace}(ht:P.underlying t=some (.array n e))
  (h:DataW.trod enc P w base spare held fuel t cs=some (.agg ds,p)):cs.length=P.cellsOf t/\ds.length=n/\∃fuel',∀i (h:i<ds.length),∃q,DataW.trod enc P w base spare held fuel' e ((cs.drop (i*P.cellsOf e)).take (P.cellsOf e))=some (ds[i],q):=by
 cases fuel with
 |zero=>simp[DataW.trod]at h
 |succ fuel=>
  simp only[DataW.trod,ht]at h;split at h
  ·rename_i hl;obtain⟨xs,h1,h2⟩:=WF.1 h;simp only[A0,DataW.agg.injEq]at h2;obtain⟨rfl,_⟩:=h2;obtain⟨h3,h4⟩:=mapM_get h1;refine⟨hl,by simpa using h3,fuel,λi hi=> ?_⟩;have hi':i<xs.length:=(by simpa using hi);have hi2:i<(List.range n).length:=(by omega);refine⟨xs[i].2,?_⟩;have:=h4 i hi2 hi';simp only[List.getElem_range]at this;rw[this];simp
  ·cases h
def fan:List (Int×Int):=[(0,0),(0,0),(0,0),(1,1),(1,1),(2,16),(2,16),(2,16),(2,16),(2,16),(2,16),(3,3),(2,2),(1,16),(1,1),(0,0)]
def ints:List Int:=fan.flatMap λx=>[x.1,x.2]
theorem laid_eq{H:Type}:(Rows.laid_probecard_logic_fanins:DataW H)=.agg (fan.map λx=>.agg [.lit (.int .i64 x.1),.lit (.int .i64 x.2)]):=rfl
theorem Tryz.u232:Tryz.prog.underlying 232=some (.array 16 231):=by kernel_rfl
theorem Tryz.u231:Tryz.prog.underlying 231=some (.array 2 3):=by kernel_rfl
theorem Tryz.u3:Tryz.prog.underlying 3=some (.int .i64):=by kernel_rfl
theorem Tryz.c231:Tryz.prog.cellsOf 231=2:=by kernel_rfl
theorem Tryz.c232:Tryz.prog.cellsOf 232=32:=by kernel_rfl
theorem Tryz.c3:Tryz.prog.cellsOf 3=1:=by kernel_rfl
theorem tab_cells{H:Type}{enc:TypeId×Value->H}{w:World}{base:Nat}{spare:Nat->Bool}{held:Bool}{fuel:Nat}{cs:List Value}{p:List MemPlace}(h:DataW.trod enc Tryz.prog w base spare held fuel 232 cs=some (Rows.laid_probecard_logic_fanins,p)):
  ∀i,i<32->cs[i]? =some (.int .i64 (ints[i]?.getD 0)):=by
 rw[laid_eq]at h;obtain⟨hl,hd,fuel',he⟩:=arr_trod Tryz.u232 h;rw[Tryz.c232]at hl;intro i hi;have hj:i / 2<(fan.map λx=>(DataW.agg [.lit (.int .i64 x.1),.lit (.int .i64 x.2)]:DataW H)).length:=by rw[hd];omega
 obtain⟨q,h1⟩:=he (i / 2) hj;rw[Tryz.c231,AX]at h1;obtain⟨_,h2,fuel2,h3⟩:=arr_trod Tryz.u231 h1;have hm:i%2<2:=Nat.mod_lt _ (by decide);obtain⟨q2,h4⟩:=h3 (i%2) (show i%2<2 from hm);rw[Tryz.c3,Nat.mul_one]at h4;have hj':i / 2<fan.length:=by simpa using hj
 have hs:∃s,([.lit (.int .i64 (fan[i / 2]'hj').1),.lit (.int .i64 (fan[i / 2]'hj').2)]:List (DataW H))[i%2]'(by simp;omega)=.lit (.int .i64 s)/\ints[i]?.getD 0=s:=by
  have hst:∀j (h:j<fan.length),ints[2*j]? =some fan[j].1/\ints[2*j+1]? =some fan[j].2:=(by unfold ints;decide);obtain⟨a1,a2⟩:=hst (i / 2) hj';rcases Nat.mod_two_eq_zero_or_one i with e|e
  ·refine⟨(fan[i / 2]'hj').1,by simp[e],?_⟩;have e2:ints[i]? =ints[2*(i / 2)]? :=congrArg (λz=>ints[z]?) (by omega);rw[e2,a1];rfl
  ·refine⟨(fan[i / 2]'hj').2,by simp[e],?_⟩;have e2:ints[i]? =ints[2*(i / 2)+1]? :=congrArg (λz=>ints[z]?) (by omega);rw[e2,a2];rfl
 obtain⟨s,hs1,hs2⟩:=hs;rw[hs1]at h4;have h5:=int_trod Tryz.u3 h4;rw[hs2];have h6:(((cs.drop (i / 2*2)).take 2).drop (i%2))[0]? =some (.int .i64 s):=by have:=congrArg (λl:List Value=>l[0]?) h5;simpa using this
 rw[Bt,List.getElem?_take,AF (by omega),Bt]at h6;have e3:i / 2*2+(i%2+0)=i:=by omega
 rw[e3]at h6;exact h6
theorem Tryz.gn : Tryz.prog.globalNamed "probecard/logic.fanins" = some 0 := by kernel_rfl
theorem Tryz.gt:(Tryz.prog.globals[0]?).map (·.type)=some 232:=by kernel_rfl
theorem Tryz.gn1 : Tryz.prog.globalNamed "probecard/scoaps.never" = some 1 := by kernel_rfl
theorem Tryz.gt1:(Tryz.prog.globals[1]?).map (·.type)=some 283:=by kernel_rfl
theorem Tryz.gn2 : Tryz.prog.globalNamed "probecard/scoaps.unit" = some 2 := by kernel_rfl
theorem Tryz.gt2:(Tryz.prog.globals[2]?).map (·.type)=some 283:=by kernel_rfl
theorem u283:∃f0 f1:Field,Tryz.prog.underlying 283=some (.struct #[f0,f1])/\f0.offset=0/\f0.type=3/\f1.offset=1/\f1.type=3:=by
 obtain⟨d,_,h1,_,h2,_⟩:=YQ Tryz.ti283
 cases d with
 |struct fs=>
  have h2:K.struct [(0,3),(1,3)]=kindOf (.struct fs):=h2;simp only[kindOf,K.struct.injEq]at h2;obtain⟨l⟩:=fs
  cases l with
  |nil=>simp at h2
  |cons f0 l=>cases l with
   |nil=>simp at h2
   |cons f1 l=>cases l with
    |nil=>simp at h2;exact⟨f0,f1,h1,h2.1.1.symm,h2.1.2.symm,h2.2.1.symm,h2.2.2.symm⟩
    |cons f2 l=>simp at h2
 |_=>cases h2
theorem two_cells{H:Type}{enc:TypeId×Value->H}{w:World}{base:Nat}{spare:Nat->Bool}{held:Bool}{fuel:Nat}{cs:List Value}{p:List MemPlace}{a b:Int}(h:DataW.trod enc Tryz.prog w base spare held fuel 283 cs=some (.agg [.lit (.int .i64 a),.lit (.int .i64 b)],p)):
  cs[0]? =some (.int .i64 a)/\cs[1]? =some (.int .i64 b):=by
 obtain⟨f0,f1,h1,o0,t0,o1,t1⟩:=u283;obtain⟨y0,y1,n,e,hl,q0,q1⟩:=trod_struct2 h1 h;simp only[A0,DataW.agg.injEq,List.cons.injEq,and_true]at e;rw[o0,t0,Tryz.c3]at q0;rw[o1,t1,Tryz.c3]at q1;have e0:y0=(.lit (.int .i64 a),y0.2):=Prod.ext e.1.1.symm rfl;have e1:y1=(.lit (.int .i64 b),y1.2):=Prod.ext e.1.2.symm rfl;rw[e0]at q0;rw[e1]at q1;have g0:=congrArg (λl:List Value=>l[0]?) (int_trod Tryz.u3 q0);have g1:=congrArg (λl:List Value=>l[0]?) (int_trod Tryz.u3 q1);simp[List.getElem?_take,Bt]at g0 g1;exact⟨g0,g1⟩
theorem var_row{W:World}{nm:String}{g:Nat}{cs:Array Value}(hg:Tryz.prog.globalNamed nm=some g)(h:W.var? Tryz.prog nm=some cs):∃e fr,W.heap[g]? =some (.cells cs e fr):=by
 unfold World.var? at h;rw[hg]at h;simp only[Option.bind_some]at h;split at h
 ·rename_i x y z e;simp only[X3]at h;subst h;exact⟨_,_,e⟩
 ·cases h
theorem two_tr{W:World}{g:Nat}{cs:Array Value}{a b:Int}(hh:∃e fr,W.heap[g]? =some (.cells cs e fr))(hc:cs.toList[0]? =some (.int .i64 a)/\cs.toList[1]? =some (.int .i64 b)):TR QZ.un W (.iptr [.int .i64 a,.int .i64 b]) (.pointer (some ⟨g,0,none⟩)):=by
 obtain⟨e,fr,hh⟩:=hh;have c0:W.cell? ⟨g,0+0,none⟩=some (.int .i64 a):=by simp only[World.cell?,hh];simpa using hc.1
 have c1:W.cell? ⟨g,0+1,none⟩=some (.int .i64 b):=by simp only[World.cell?,hh];simpa using hc.2
 refine .iptr _ g 0 (λi=>if i=0 then .int .i64 a else .int .i64 b) (JT g) ⟨cs,e,fr,hh⟩ (λi hi=> ?_) (λi hi=> ?_)
 ·have hi:i<2:=hi;rcases (show i=0\/i=1 by omega) with rfl|rfl
  ·exact c0
  ·exact c1
 ·have hi:i<2:=hi;rcases (show i=0\/i=1 by omega) with rfl|rfl
  ·exact .int _ _
  ·exact .int _ _
abbrev laidV : List (String × DataW Unit) := [("probecard/logic.fanins",Rows.laid_probecard_logic_fanins),("probecard/scoaps.unit",Rows.laid_probecard_scoaps_unit),("probecard/scoaps.never",Rows.laid_probecard_scoaps_never)]
theorem gl_laid{W:World}(h:laidMet Tryz.prog laidV W):Jc QZ W:=by
 unfold laidV at h;revert h;generalize hd:(Rows.laid_probecard_logic_fanins:DataW Unit)=d;generalize hd1:(Rows.laid_probecard_scoaps_unit:DataW Unit)=d1;generalize hd2:(Rows.laid_probecard_scoaps_never:DataW Unit)=d2;intro h;obtain⟨ps,hL,_,_⟩:=h;obtain⟨g,t,cs,fuel,p,q,h1,h2,h3,h4,⟨g',t',cs',fuel',p',q',h1',h2',h3',h4',⟨g2,t2,cs2,fuel2,p2,q2,k1,k2,k3,k4,_,_⟩,_⟩,_⟩:=hL;rw[<-hd]at h4;rw[<-hd1]at h4';rw[<-hd2]at k4;obtain rfl:g=0:=(Aq (Tryz.gn.symm.trans h1)).symm;obtain rfl:t=232:=(Aq (Tryz.gt.symm.trans h2)).symm;obtain rfl:g'=2:=(Aq (Tryz.gn2.symm.trans h1')).symm;obtain rfl:t'=283:=(Aq (Tryz.gt2.symm.trans h2')).symm;obtain rfl:g2=1:=(Aq (Tryz.gn1.symm.trans k1)).symm;obtain rfl:t2=283:=(Aq (Tryz.gt1.symm.trans k2)).symm;have hc:=tab_cells h4;have r1:=two_tr (var_row Tryz.gn2 h3') (two_cells h4');have r2:=two_tr (var_row Tryz.gn1 k3) (two_cells k4);obtain⟨e,fr,hh⟩:=var_row Tryz.gn h3;intro g c x hg
 match g,hg with
 |0,hg=>
  have hx:c.trees x=ints.map (T.int .i64):=(by cases hg;rfl);rw[hx];refine .iptr _ 0 0 (λi=>.int .i64 (ints[i]?.getD 0)) (JT 0) ⟨cs,e,fr,hh⟩ (λi hi=> ?_) (λi hi=> ?_)
  ·have hi:i<32:=(by have:ints.length=32:=rfl;rw[AA,this]at hi;exact hi);have:=hc i hi;simp only[World.cell?,AI,hh];simpa using this
  ·have hi':i<ints.length:=(by simpa using hi);simp only[AX,A4 hi',BC];exact .int _ _
 |1,hg=>cases hg;exact r2
 |2,hg=>cases hg;exact r1
 |n+3,hg=>cases hg
end
section
open Go.ChangeShapes Go.WideShapes Go.ChangeAt Go.RowKit
open Go.Abs
theorem Tryz.own:ownKnob Tryz.prog.godebug=none:=by kernel_rfl
theorem Tryz.laidOut:laidOutB Tryz.prog=true:=by kernel_rfl
abbrev b8:Ly:=.int .u8
abbrev xL:Ly:=.pair b8 (.pair b8 (.pair (.pair b8 b8) (.pair .bool (.pair .bool (.pair (arL b8 3) (.pair (.sl (.pair b8 (arL b8 2))) (.sl b8)))))))
theorem xO:TyO Tryz.prog xL 27:=Yr (n:=6) (by kernel_rfl)
theorem xS:∃fs,Tryz.prog.underlying 27=some (.struct fs):=Uh (by kernel_rfl)
abbrev fL:Ly:=.pair b8 (.pair b8 (.pair b8 (.pair b8 .bool)))
theorem fO:TyO Tryz.prog fL 64:=Yr (n:=5) (by kernel_rfl)
theorem fS:∃fs,Tryz.prog.underlying 64=some (.struct fs):=Uh (by kernel_rfl)
abbrev zL:Ly:=.pair b8 (.pair (.int .u64) (.pair b8 (.sl (.int .u32))))
theorem zO:TyO Tryz.prog zL 70:=Yr (n:=5) (by kernel_rfl)
theorem zS:∃fs,Tryz.prog.underlying 70=some (.struct fs):=Uh (by kernel_rfl)
noncomputable def laidWorld(os:Os):World:=
 let w0:=World.holding Tryz.prog os ⟨#[],#[],[]⟩
 {w0 with heap:=((w0.heap.modify 0 fun
   |.cells _ t frozen=>.cells (ints.map λs=>.int .i64 s).toArray t frozen
   |o=>o).modify 1 fun
   |.cells _ t frozen=>.cells #[.int .i64 1073741824,.int .i64 1073741824] t frozen
   |o=>o).modify 2 fun
   |.cells _ t frozen=>.cells #[.int .i64 1,.int .i64 1] t frozen
   |o=>o }
theorem laidWorld_met(os:Os)(args:Array Value):laidMet Tryz.prog laidV ((laidWorld os).forCall (λ_ _=>0) ⟨#[],args,[]⟩).memory:=
 laidMet_of_run' 8 (by kernel_rfl) (by kernel_rfl)
end
