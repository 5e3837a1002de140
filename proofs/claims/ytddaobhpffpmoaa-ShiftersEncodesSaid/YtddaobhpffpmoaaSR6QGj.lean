/-
  What the proof stands on.
-/
import Derived.Test.YtddaobhpffpmoaaSR6QGa
import Derived.Test.YtddaobhpffpmoaaSR6QSyP
import Derived.Shelf.Strings.Builder1
import Derived.Shelf.Small.Strs
import Derived.Test.YtddaobhpffpmoaaProg
import Derived.WalkKit
import Derived.BigCall
set_option linter.all false
namespace Go.Proofs.Ytddaobhpffpmoaa
open Go.Proofs
open Go.Shelf
end Go.Proofs.Ytddaobhpffpmoaa
namespace Go.Proofs.Ytddaobhpffpmoaa
open Go.RowKit Go.Shelf
structure Frm(B b:Nat)(w w':World):Prop where
 os:w'.os=w.os
 out:w'.output=w.output
 size:w.heap.size≤w'.heap.size
 block:∀k,k<B→k≠b→w'.heap[k]? =w.heap[k]?
theorem Frm.trans{B b:Nat}{w w1 w2:World}(h:Frm B b w w1)(h':Frm B b w1 w2):Frm B b w w2:=⟨h'.os.trans h.os,h'.out.trans h.out,Nat.le_trans h.size h'.size,fun k hk hb=>(h'.block k hk hb).trans (h.block k hk hb)⟩
theorem Frm.refl(B b:Nat)(w:World):Frm B b w w:=⟨rfl,rfl,Nat.le_refl _,fun _ _ _=>rfl⟩
theorem Frm.cell{B b:Nat}{w w':World}(h:Frm B b w w'){p:Addr}(hp:p.block<B)(hn:p.block≠b):w'.cell? p=w.cell? p:=by
 unfold World.cell?
 rw[h.block _ hp hn]
structure Bel(B:Nat)(w w':World):Prop where
 os:w'.os=w.os
 out:w'.output=w.output
 size:w.heap.size≤w'.heap.size
 block:∀k,k<B→w'.heap[k]? =w.heap[k]?
theorem Bel.of{B:Nat}{w w':World}(h:Below B w w'):Bel B w w':=⟨h.os,h.output,h.size,h.block⟩
theorem Bel.trans{B:Nat}{w w1 w2:World}(h:Bel B w w1)(h':Bel B w1 w2):Bel B w w2:=⟨h'.os.trans h.os,h'.out.trans h.out,Nat.le_trans h.size h'.size,fun k hk=>(h'.block k hk).trans (h.block k hk)⟩
theorem Bel.le{B B':Nat}{w w':World}(h:Bel B w w')(hB:B'≤B):Bel B' w w':=⟨h.os,h.out,h.size,fun k hk=>h.block k (by omega)⟩
theorem Bel.cell{B:Nat}{w w':World}(h:Bel B w w'){p:Addr}(hp:p.block<B):w'.cell? p=w.cell? p:=by
 unfold World.cell?
 rw[h.block _ hp]
theorem Frm.bel{B b B':Nat}{w w':World}(h:Frm B b w w')(h1:B'≤B)(h2:B'≤b):Bel B' w w':=⟨h.os,h.out,h.size,fun k hk=>h.block k (by omega) (by omega)⟩
def Els(w:World)(a:Option Addr)(xs:List Int):Prop:=∀k (h:k<xs.length),∃b off,a=some ⟨b,off,none⟩∧b<w.heap.size∧w.cell? ⟨b,off+k,none⟩=some (.int .u8 xs[k])
theorem Els.bel{w w':World}{a:Option Addr}{xs:List Int}(h:Els w a xs)(hb:Bel w.heap.size w w'):Els w' a xs:=fun k hk=>by
 obtain⟨b,off,h1,h2,h3⟩:=h k hk
 exact⟨b,off,h1,Nat.lt_of_lt_of_le h2 hb.size,(hb.cell (p:=⟨b,off+k,none⟩) h2).trans h3⟩
end Go.Proofs.Ytddaobhpffpmoaa
namespace Go.Proofs.Ytddaobhpffpmoaa
open Go.Abs Go.RowKit
namespace M32
structure gX where
 n:Int
 w:List Int
def g:Sg gX where
 vs:=[.agg [.it .i64,.arr (.int .u64)]]
 h:=[]
 to:=fun a b=>⟨a.1.1,a.1.2.1⟩
 fa:=fun x=>((x.n,(x.w,())),())
 fh:=fun x=>()
abbrev fY:=List UInt8
def f:Ft fY where
 ord:=none
 sh:=.c .sg
 h:=[]
 to:=fun a b=>a
 fv:=fun y=>y
 fh:=fun y=>()
theorem ints_trees(xs:List Int):xs.flatMap (Ly.int .u8).trees=xs.map (T.int .u8):=by
 induction xs with
 |nil=>rfl
 |cons x xs ih=>rw[List.flatMap_cons,ih];rfl
theorem calls_of{f:FuncId}{args:List AV}{v:AV}(h:FnOk Try.prog f args [] fun u τ=>u=v∧τ=[]){ι:Map}{w:World}{cargs:Array Value}(hH:HR ι [] w)(ha:argsR ι w args cargs){w1:World}(hb:Bel w.heap.size w w1)
  (hv:args.all AV.isT=true):Calls Try.prog f cargs w1 fun e w'=>(∃ι' cv,e=.returned cv∧VR ι' w' v cv)∧Bel w1.heap.size w1 w':=by
 have hn:=hH.empty
 have hmono:∀{t:T} {u:Value},TR ι.un w t u→TR ι.un w1 t u:=fun h=>h.mono fun b hu hr=>⟨hu,hb.block b hr.lt⟩
 have hH1:HR ι [] w1:=⟨fun id s h=>(by rw[hn]at h;cases h),hH.inj,fun b hr=>by
  obtain⟨c,e,fr,h2⟩:=hH.resRow b hr
  exact⟨c,e,fr,(hb.block b (Array.getElem?_eq_some_iff.1 h2).1).trans h2⟩,hH.resNo⟩
 have hc:∀{c:Cell} {u:Value},c.isT=true→CR ι w c u→CR ι w1 c u:=fun{c u} hc h=>by
  cases c with
  |t x=>exact hmono h
  |_=>cases hc
 have ha1:argsR ι w1 args cargs:=⟨ha.1,fun i hi=>by
  obtain⟨u,h1,h2⟩:=ha.2 i hi
  refine⟨u,h1,?_⟩
  have hT:args[i].isT=true:=List.all_eq_true.1 hv _ (List.getElem_mem hi)
  generalize args[i]=x at h2 hT⊢
  cases x with
  |c x=>exact hc hT h2
  |agg xs=>
   obtain⟨arr,e,h3,h4⟩:=h2
   refine⟨arr,e,h3,fun j hj=> ?_⟩
   obtain⟨u',h5,h6⟩:=h4 j hj
   exact⟨u',h5,hc (List.all_eq_true.1 hT _ (List.getElem_mem hj)) h6⟩
  |tup xs=>
   obtain⟨arr,e,h3,h4⟩:=h2
   refine⟨arr,e,h3,fun j hj=> ?_⟩
   obtain⟨u',h5,h6⟩:=h4 j hj
   refine⟨u',h5,?_⟩
   have hj2:=List.all_eq_true.1 hT _ (List.getElem_mem hj)
   generalize xs[j]=y at h6 hj2⊢
   cases y with
   |inl y=>exact hc hj2 h6
   |inr ys=>
    obtain⟨arr',e',h7,h8⟩:=h6
    refine⟨arr',e',h7,fun l hl=> ?_⟩
    obtain⟨u'',h9,h10⟩:=h8 l hl
    exact⟨u'',h9,hc (List.all_eq_true.1 hj2 _ (List.getElem_mem hl)) h10⟩⟩
 refine callsIn_wide.1 (CallsIn.mono (h.2 ι w1 cargs (fun g c x h=>by cases h) hH1 ha1) fun e w' ⟨v',σ',ι',cv,he,⟨h1,h2⟩,h3,h4,h5⟩=> ?_)
 subst h1;subst h2
 refine⟨⟨ι',cv,he,h3⟩,⟨h5.os,h5.out,h5.size,fun b hb=> ?_⟩⟩
 by_cases hr:ι.res b
 ·exact h5.resKeep b hr
 ·refine h5.frame b hb fun hm=> ?_
  rcases hm with ⟨id,s,l,h6,_⟩|hres
  ·rw[hn]at h6;cases h6
  ·exact hr hres
theorem words_slice{U:Nat→Prop}{w:World}{ts:List T}{n:Nat}{v:Value}(h:TR U w (.imm ts n none) v):∃a k c,v=.slice a k c:=by
 cases h with
 |imm0 cap' a c hc=>exact⟨a,0,c,rfl⟩
 |imm cs len cap' b off c f hb hr hc hle hcell ht'=>exact⟨_,_,c,rfl⟩
theorem arg_pat{ι:Map}{w:World}{n:Int}{l:List Int}{cargs:Array Value}(ha:argsR ι w [.agg [.t (.int .i64 n),.t (.imm (l.flatMap (Ly.int .u64).trees) l.length none)]] cargs):
  ∃a k c,cargs= #[.agg #[.int .i64 n,.slice a k c]]:=by
 obtain⟨hsz,ha⟩:=ha
 obtain⟨u,e0,h0⟩:=ha 0 (by simp)
 have h0:aggR ι w [.t (.int .i64 n),.t (.imm (l.flatMap (Ly.int .u64).trees) l.length none)] u:=h0
 obtain⟨arr,rfl,h1,h2⟩:=h0
 obtain⟨u1,e1,g1⟩:=h2 0 (by simp)
 obtain⟨u2,e2,g2⟩:=h2 1 (by simp)
 have g1:TR ι.un w (.int .i64 n) u1:=g1
 cases g1
 obtain⟨a,k,c,rfl⟩:=words_slice (U:=ι.un) (w:=w) g2
 refine⟨a,k,c,?_⟩
 have ea:arr= #[.int .i64 n,.slice a k c]:=by
  refine Array.ext (by simpa using h1) fun i hi _=> ?_
  have hi:i<2:=by simpa [h1] using hi
  match i,hi with
  |0,_=>exact(Array.getElem?_eq_some_iff.1 e1).2
  |1,_=>exact(Array.getElem?_eq_some_iff.1 e2).2
 refine Array.ext (by simpa using hsz) fun i hi _=> ?_
 have hi:i<1:=by simpa [hsz] using hi
 match i,hi with
 |0,_=>rw[(Array.getElem?_eq_some_iff.1 e0).2,ea];rfl
end M32
end Go.Proofs.Ytddaobhpffpmoaa
