/- A part of the proof. -/
import Derived.CallsIn
import Derived.OrdersIn
import Derived.WalkKit
import Derived.Maps.OwnSet
import Derived.Laws.StructEq
import Derived.RangeFuncLeaves
import Derived.RangeFuncRecord
set_option linter.all false
namespace Go
abbrev Kn:=@Option.some.injEq
abbrev WF:=@Option.map_eq_some_iff
abbrev A0:=@Prod.mk.injEq
abbrev A4:=@List.getElem?_eq_getElem
abbrev A5:=@Nat.le_refl
abbrev A6:=@cond_true
abbrev A7:=@cond_false
abbrev A8:=@Array.getElem?_eq_some_iff
abbrev A9:=@List.getElem_mem
abbrev AA:=@Int.toNat_natCast
abbrev AB:=@decide_eq_true
abbrev AC:=@if_pos
abbrev AD:=@List.getElem?_eq_some_iff
abbrev AE:=@List.length_map
abbrev AF:=@Nat.zero_add
abbrev AG:=@List.length_append
abbrev AH:=@Bool.and_self
abbrev AI:=@Option.map_some
abbrev AJ:=@Bool.and_eq_true
abbrev AK:=@if_neg
abbrev AL:=@List.getElem?_append_left
abbrev AM:=@decide_eq_false
abbrev AN:=@List.take_of_length_le
abbrev AO:=@of_decide_eq_true
abbrev AP:=@List.getElem_map
abbrev AQ:=@World.alloc_heap_new
abbrev AR:=@Sem.run_bind
abbrev AS:=@List.map_append
abbrev AT:=@List.mem_cons
abbrev AU:=@List.getElem?_append_right
abbrev AW:=@List.drop_zero
abbrev AX:=@Result.andThen_ok
abbrev AY:=@List.map_cons
abbrev AZ:=@run_underlying
abbrev Aa:=@List.take_length
abbrev Ab:=@Bool.false_eq_true
abbrev Ac:=@List.flatMap_cons
abbrev Ad:=@List.append_assoc
abbrev Ae:=@List.mem_singleton
abbrev Af:=@Nat.zero_le
abbrev Ag:=@beq_eq_false_iff_ne
abbrev Ah:=@true_and
abbrev Ai:=@List.map_congr_left
abbrev Aj:=@Option.getD_some
abbrev Ak:=@List.mem_append
abbrev Al:=@if_false
abbrev Am:=@World.size_alloc
abbrev An:=@World.cell?_of_block
abbrev Ao:=@Nat.le_trans
abbrev Ap:=@List.length_set
abbrev Aq:=@if_true
abbrev Ar:=@Nat.mul_le_mul_right
abbrev As:=@List.length_cons
abbrev Au:=@List.length_eq_zero_iff
abbrev Av:=@List.not_mem_nil
abbrev Ay:=@Array.getD_eq_getD_getElem?
abbrev Az:=@Int.toNat_of_nonneg
abbrev B0:=@List.mem_append_left
abbrev B4:=@List.mem_cons_self
abbrev B5:=@List.getElem?_eq_none
abbrev B6:=@List.length_take
abbrev B7:=@List.mem_append_right
abbrev B9:=@decide_eq_true_eq
abbrev BA:=@Option.some.inj
abbrev BB:=@List.getElem_of_mem
abbrev BC:=@Sem.run_pure
abbrev BE:=@bne_self_eq_false
abbrev BF:=@Nat.succ_mul
abbrev BG:=@List.getElem?_cons_succ
abbrev BH:=@Function.comp_def
abbrev BI:=@List.map_drop
abbrev BJ:=@Nat.add_mul
abbrev BK:=@Nat.add_zero
abbrev BL:=@List.map_map
abbrev BM:=@List.getElem?_set
abbrev BN:=@Option.map_map
abbrev BO:=@bodyPost_ret
abbrev BP:=@Nat.zero_mul
abbrev BQ:=@Nat.le_of_ble_eq_true
abbrev BR:=@List.mem_map
abbrev BS:=@List.getElem?_cons_zero
abbrev BT:=@List.eq_nil_of_length_eq_zero
abbrev BU:=@beq_iff_eq
abbrev BV:=@List.getElem_set
abbrev BW:=@List.ext_getElem
abbrev BX:=@List.mem_of_getElem?
abbrev BY:=@List.getElem?_map
abbrev BZ:=@List.map_take
abbrev Ba:=@Array.getElem?_push
abbrev Bb:=@Int.tmod_eq_emod_of_nonneg
abbrev Bc:=@Bool.not_false
abbrev Be:=@List.drop_eq_nil_of_le
abbrev Bf:=@List.nil_append
abbrev Bg:=@List.mem_range
abbrev Bh:=@List.getElem_append_left
abbrev Bi:=@Nat.eq_of_beq_eq_true
abbrev Bj:=@List.length_singleton
abbrev Bk:=@List.length_replicate
abbrev Bl:=@Nat.lt_of_lt_of_le
abbrev Bm:=@List.getElem?_set_ne
abbrev Bn:=@List.append_nil
abbrev Bo:=@List.getElem_append_right
abbrev Bp:=@Array.getElem?_eq_getElem
abbrev Bq:=@List.take_append_drop
abbrev Br:=@List.range_succ
abbrev Bs:=@List.map_nil
abbrev Bt:=@CallsIn.mono
abbrev Bu:=@or_false
abbrev Bv:=@List.mem_cons_of_mem
abbrev Bw:=@List.drop_eq_nil_iff
abbrev Bx:=@Nat.ne_of_lt
abbrev By:=@Array.getElem?_append_left
abbrev Bz:=@List.drop_append
abbrev C0:=@List.take_append_getElem
abbrev C1:=@heap_setCell_same
abbrev C2:=@Bool.not_eq_true'
abbrev C3:=@wpIn_mono
abbrev C4:=@List.getElem_range
abbrev C7:=@List.getElem?_drop
abbrev C8:=@List.filter_append
abbrev CA:=@List.drop_drop
abbrev CB:=@Nat.ble_eq_true_of_le
abbrev CD:=@List.length_filter_le
abbrev CE:=@List.getElem?_toArray
abbrev CF:=@Classical.byContradiction
abbrev CG:=@Bool.or_true
abbrev CH:=@Bool.or_eq_false_iff
abbrev CI:=@Array.size_append
abbrev CJ:=@Nat.add_assoc
abbrev CL:=@List.flatMap_append
abbrev CM:=@World.putObj_heap_other
abbrev CN:=@List.take_zero
abbrev CO:=@List.length_drop
abbrev CP:=@List.filter_cons_of_pos
abbrev CQ:=@List.filter_cons_of_neg
abbrev CS:=@List.eq_nil_iff_forall_not_mem
abbrev CT:=@List.cons_append
abbrev CU:=@List.take_append_of_le_length
abbrev CV:=@List.drop_append_of_le_length
abbrev CW:=@List.getElem?_set_self
abbrev CX:=@Nat.not_lt_zero
abbrev CY:=@List.mem_filter
abbrev CZ:=@List.length_nil
abbrev Ca:=@List.all_cons
abbrev Cb:=@Bool.not_true
abbrev Cc:=@Array.ext
abbrev Cd:=@List.mem_iff_getElem?
abbrev Ce:=@World.ownsRow_nil
abbrev Cf:=@Ne.symm
abbrev Cg:=@wpList_mapUpdate_own
abbrev Ch:=@plainElem_bool
abbrev Ci:=@List.mem_of_mem_take
abbrev Cj:=@List.take_append
abbrev Cl:=@List.drop_eq_getElem_cons
abbrev Cm:=@Option.map_none
abbrev Cn:=@Bool.or_eq_true
abbrev Cp:=@World.ownsMap_made
abbrev Cq:=@List.countP_append
abbrev Cr:=@Int.emod_lt_of_pos
end Go
namespace Go.Abs
inductive T where
 |bool (b:Bool)
 |int (k:IntKind) (n:Int)
 |str (s:List UInt8)
 |nilp
 |imm (cs:List T) (len:Nat) (cap:Option Nat)
 |iptr (cs:List T)
 |fn (f:FuncId) (caps:List T)
 |nilf
 |junk
 |mp (m:Option (DataW Unit))
 deriving Inhabited
inductive Ly where
 |int (k:IntKind)|bool|str|sl (c:Ly)|pair (a b:Ly)
 deriving Inhabited
@[reducible] def Ly.ty:Ly->Type
 |.int _=>Int
 |.bool=>Bool
 |.str=>List UInt8
 |.sl c=>List c.ty
 |.pair a b=>a.ty×b.ty
def Ly.X8:(c:Ly)->c.ty
 |.int _=>(0:Int)
 |.bool=>false
 |.str=>([]:List UInt8)
 |.sl _=>[]
 |.pair a b=>(a.X8,b.X8)
def Ly.size:Ly->Nat
 |.pair a b=>a.size+b.size
 |_=>1
def Ly.trees:(c:Ly)->c.ty->List T
 |.int k,n=>[.int k n]
 |.bool,b=>[.bool b]
 |.str,s=>[.str s]
 |.sl c,(xs:List c.ty)=>[.imm (xs.flatMap c.trees) xs.length none]
 |.pair a b,x=>a.trees x.1++b.trees x.2
class Gl where
 dat:Nat->Option ((c:Ly)×c.ty)
 obj:TypeId->List (Nat×Operand)->Bool:=λ_ _=>false
def Zu:Option Nat->Nat->Prop
 |some k,c=>c=k
 |none,_=>True
def isRow(w:World)(b:Nat):Prop:=∃c e fr,w.heap[b]? =some (.cells c e fr)
def isRow.lt{w:World}{b:Nat}(h:isRow w b):b<w.heap.size:=by obtain⟨c,e,fr,h⟩:=h;exact(A8.1 h).1
def UX(w:World)(b:Nat):Prop:=isRow w b\/∃es clock,w.heap[b]? =some (.map es clock)
def UX.lt{w:World}{b:Nat}(h:UX w b):b<w.heap.size:=by
 rcases h with h|⟨es,clock,h⟩
 ·exact h.lt
 ·exact(A8.1 h).1
def mapD(w:World)(b:Nat)(D:DataW Unit):Prop:=∃(P:Program) (k e:TypeId) (n:Nat),P.underlying k=some (.int .i64)/\P.underlying e=some (.int .i64)/\w.ownsMap P k (_root_.Go.plainElem P e) b n D
def mapD.dat{w:World}{b:Nat}{D:DataW Unit}(h:mapD w b D):UX w b:=by obtain⟨P,k,e,n,_,_,es,clock,hb,_⟩:=h;exact .inr ⟨es,clock,hb⟩
def mapD.congr{w w':World}{b:Nat}{D:DataW Unit}(h:mapD w b D)(he:w'.heap[b]? =w.heap[b]?):mapD w' b D:=by obtain⟨P,k,e,n,h1,h2,es,clock,hb,h3⟩:=h;exact⟨P,k,e,n,h1,h2,es,clock,he.trans hb,h3⟩
inductive TR(U:Nat->Prop)(w:World):T->Value->Prop
 |bool (b:Bool):TR U w (.bool b) (.bool b)
 |int (k:IntKind) (n:Int):TR U w (.int k n) (.int k n)
 |str (s:List UInt8):TR U w (.str s) (.string ⟨s.toArray⟩)
 |nilp:TR U w .nilp (.pointer none)
 |imm0 (cap:Option Nat) (a:Option Addr) (c:Nat):Zu cap c->TR U w (.imm [] 0 cap) (.slice a 0 c)
 |imm (cs:List T) (len:Nat) (cap:Option Nat) (b off c:Nat) (f:Nat->Value):U b->isRow w b->Zu cap c->len<=c->
   (∀i (_:i<cs.length),w.cell? ⟨b,off+i,none⟩=some (f i))->(∀i (h:i<cs.length),TR U w cs[i] (f i))->
   TR U w (.imm cs len cap) (.slice (some ⟨b,off,none⟩) len c)
 |iptr (cs:List T) (b off:Nat) (f:Nat->Value):U b->isRow w b->
   (∀i (_:i<cs.length),w.cell? ⟨b,off+i,none⟩=some (f i))->(∀i (h:i<cs.length),TR U w cs[i] (f i))->
   TR U w (.iptr cs) (.pointer (some ⟨b,off,none⟩))
 |fn (g:FuncId) (caps:List T) (arr:Array Value):arr.size=caps.length->(∀i (h:i<caps.length),TR U w caps[i] (arr.getD i undef))->
   TR U w (.fn g caps) (.func (.func g) #[] arr)
 |nilf:TR U w .nilf .nilFunc
 |junk (v:Value):v.oneCell'=true->TR U w .junk v
 |mpn:TR U w (.mp none) (.map none)
 |mp (D:DataW Unit) (b:Nat):U b->mapD w b D->TR U w (.mp (some D)) (.map (some b))
def XY{w w':World}{b:Nat}(h:w'.heap[b]? =w.heap[b]?)(o:Nat):w'.cell? ⟨b,o,none⟩=w.cell? ⟨b,o,none⟩:=by simp only[World.cell?,h]
def TR.mono{U U':Nat->Prop}{w w':World}{t:T}{v:Value}(h:TR U w t v)
  (hU:∀b,U b->UX w b->U' b/\w'.heap[b]? =w.heap[b]?):TR U' w' t v:=by
 induction h with
 |bool b=>exact .bool b
 |int k n=>exact .int k n
 |str s=>exact .str s
 |nilp=>exact .nilp
 |imm0 cap a c hc=>exact .imm0 cap a c hc
 |imm cs len cap b off c f hb hlt hc hle hcells _ ih=>exact .imm cs len cap b off c f (hU b hb (.inl hlt)).1 (by obtain⟨c',e',fr',h'⟩:=hlt;exact⟨c',e',fr',(hU b hb (.inl ⟨c',e',fr',h'⟩)).2.trans h'⟩) hc hle (λi hi=>(XY (hU b hb (.inl hlt)).2 _).trans (hcells i hi)) ih
 |iptr cs b off f hb hlt hcells _ ih=>exact .iptr cs b off f (hU b hb (.inl hlt)).1 (by obtain⟨c',e',fr',h'⟩:=hlt;exact⟨c',e',fr',(hU b hb (.inl ⟨c',e',fr',h'⟩)).2.trans h'⟩) (λi hi=>(XY (hU b hb (.inl hlt)).2 _).trans (hcells i hi)) ih
 |fn g caps arr hsz _ ih=>exact .fn g caps arr hsz ih
 |nilf=>exact .nilf
 |junk v hv=>exact .junk v hv
 |mpn=>exact .mpn
 |mp D b hb hm=>exact .mp D b (hU b hb hm.dat).1 (hm.congr (hU b hb hm.dat).2)
def TR.Z2{U:Nat->Prop}{w:World}{t:T}{v:Value}(h:TR U w t v):v.oneCell'=true:=by cases h<;>first|rfl|assumption
structure Ref where
 id:Nat
 ep:Nat
 off:Nat
 deriving DecidableEq,Inhabited
inductive Cell where
 |t (x:T)
 |ptr (r:Ref)
 |sl (r:Ref) (len:Nat) (cap:Option Nat)
 |clo (f:FuncId) (caps:List Ref)
 deriving Inhabited
structure Obj where
 cs:List Cell
 es:Nat:=1
 ep:Nat:=0
 deriving Inhabited
abbrev QA:=List Obj
structure Loc where
 blk:Nat
 sh:Nat
 tot:Nat
 deriving Inhabited
structure Jv where
 loc:Option Loc
 es:Nat
 ep:Nat
 deriving Inhabited
structure Ext where(yv:Value)(o:Nat->Value)(l:Nat)(lr:Go.Loop)
def YID:Nat:=1000000
def BND:Nat:=2000000
def fnv(f:FuncId)(arr:Array Value):Value:=if BND<=f then .func (.func (f - BND)) arr #[] else .func (.func f) #[] arr
def fnv_no{f:FuncId}(h:¬BND<=f)(arr:Array Value):fnv f arr=.func (.func f) #[] arr:=AK h
def fnv_bnd(f:FuncId)(arr:Array Value):fnv (BND+f) arr=.func (.func f) arr #[]:=by unfold fnv;rw[AC (Nat.le_add_right _ _),Nat.add_sub_cancel_left]
def fnv_is(f:FuncId)(arr:Array Value):∃g a b,fnv f arr=.func (.func g) a b:=by unfold fnv;split<;>exact⟨_,_,_,rfl⟩
structure Map where
 at':Nat->Option Jv
 res:Nat->Prop
 ex:Ext
instance:CoeFun Map (λ_=>Nat->Option Jv):=⟨Map.at'⟩
def Map.byId(O:Map)(b:Nat):Prop:=∃id s l,O id=some s/\s.loc=some l/\l.blk=b
def Map.mapped(O:Map)(b:Nat):Prop:=O.byId b\/O.res b
def Map.un(O:Map)(b:Nat):Prop:=¬O.mapped b
def JU(O:Map)(r:Ref)(ok:Jv->Prop):Prop:=∃s,O r.id=some s/\r.ep<=s.ep/\(r.ep=s.ep->ok s)
def ptrOk(off:Nat)(a:Option Addr)(s:Jv):Prop:=∃l,s.loc=some l/\a=some ⟨l.blk,l.sh+off,none⟩
def slOk(off len:Nat)(cap:Option Nat)(a:Option Addr)(c:Nat)(s:Jv):Prop:=
 len<=c/\Zu cap c/\
 match s.loc with
 |none=>len=0/\c=0/\off=0
 |some l=>a=some ⟨l.blk,l.sh+off,none⟩/\off+c*s.es<=l.tot/\(cap=none->off+c*s.es=l.tot)
def cloR(O:Map)(f:FuncId)(caps:List Ref)(v:Value):Prop:=if f=YID then v=O.ex.yv/\∃l,v=.func (.yield l) #[] #[] else∃arr:Array Value,v=fnv f arr/\arr.size=caps.length/\∀i (h:i<caps.length),∃a:Addr,arr.getD i undef=.pointer (some a)/\JU O caps[i] (ptrOk caps[i].off (some a))
def cloR.no {O : Map} {f : FuncId} {caps : List Ref} {v : Value} (h : cloR O f caps v) (hf : f ≠ YID) : ∃ arr : Array Value,v = fnv f arr /\ arr.size = caps.length /\
     ∀ i (h : i < caps.length),∃ a : Addr,arr.getD i undef = .pointer (some a) /\ JU O caps[i] (ptrOk caps[i].off (some a)) := by
 unfold cloR at h;rwa [AK hf] at h
def cloR.func{O:Map}{f:FuncId}{caps:List Ref}{v:Value}(h:cloR O f caps v):(∃g a b,v=.func (.func g) a b)\/∃l,v=.func (.yield l) #[] #[]:=by
 unfold cloR at h;split at h
 ·obtain⟨_,l,rfl⟩:=h;exact .inr ⟨_,rfl⟩
 ·obtain⟨arr,rfl,_⟩:=h;exact .inl (fnv_is _ _)
def cloR.mk {O : Map} {f : FuncId} {caps : List Ref} {v : Value} (hf : f ≠ YID) (h : ∃ arr : Array Value,v = fnv f arr /\ arr.size = caps.length /\
     ∀ i (h : i < caps.length),∃ a : Addr,arr.getD i undef = .pointer (some a) /\ JU O caps[i] (ptrOk caps[i].off (some a))) : cloR O f caps v := by
 unfold cloR;rwa [AK hf]
def cloR.imp{O I':Map}{f:FuncId}{caps caps':List Ref}{v:Value}(h:cloR O f caps v)(hy:I'.ex.yv=O.ex.yv)(hl:caps'.length=caps.length)
  (hc:f≠YID->∀i (h:i<caps.length) (h':i<caps'.length) (a:Addr),JU O caps[i] (ptrOk caps[i].off (some a))->JU I' caps'[i] (ptrOk caps'[i].off (some a))):cloR I' f caps' v:=by
 unfold cloR at h⊢;split
 ·rename_i hf;rw[AC hf]at h;rw[hy];exact h
 ·rename_i hf;rw[AK hf]at h;obtain⟨arr,rfl,h1,h2⟩:=h;exact⟨arr,rfl,h1.trans hl.symm,λi hi=>let ⟨a,h3,h4⟩:=h2 i (hl▸hi);⟨a,h3,hc hf i _ hi a h4⟩⟩
def CR(O:Map)(w:World):Cell->Value->Prop
 |.t x,v=>TR O.un w x v
 |.ptr r,v=>∃a:Addr,v=.pointer (some a)/\JU O r (ptrOk r.off (some a))
 |.sl r len cap,v=>∃a c,v=.slice a len c/\(len=0\/a.isSome=true)/\JU O r (slOk r.off len cap a c)
 |.clo f caps,v=>cloR O f caps v
def CR.Z2{O:Map}{w:World}{c:Cell}{v:Value}(h:CR O w c v):v.oneCell'=true:=by
 cases c with
 |t x=>exact TR.Z2 h
 |ptr r=>obtain⟨a,rfl,_⟩:=h;rfl
 |sl r len cap=>obtain⟨a,c,rfl,_⟩:=h;rfl
 |clo f caps=>
  have h:cloR O f caps v:=h;unfold cloR at h;split at h
  ·obtain⟨_,l,rfl⟩:=h;rfl
  ·obtain⟨arr,rfl,_⟩:=h;obtain⟨_,_,_,e⟩:=fnv_is f arr;rw[e];rfl
def OR(O:Map)(w:World)(o:Obj)(s:Jv):Prop:=
 o.es=s.es/\o.ep=s.ep/\
 match s.loc with
 |none=>o.cs=[]
 |some l=>(∃cells elem,w.heap[l.blk]? =some (.cells cells elem (0,0))/\l.sh+l.tot<=cells.size)/\o.cs.length<=l.tot/\
   ∀i (h:i<o.cs.length),∃v,w.cell? ⟨l.blk,l.sh+i,none⟩=some v/\CR O w o.cs[i] v
structure HR(O:Map)(M:QA)(w:World):Prop where
 obj:∀id s,O id=some s->∃o,M[id]? =some o/\OR O w o s
 inj:∀id id' s s' l l',O id=some s->O id'=some s'->s.loc=some l->s'.loc=some l'->l.blk=l'.blk->id=id'
 resRow:∀b,O.res b->isRow w b
 resNo:∀id s l,O id=some s->s.loc=some l->¬O.res l.blk
structure Step(O:Map)(M:QA)(w:World)(I':Map)(S':QA)(w':World):Prop where
 len:M.length<=S'.length
 size:w.heap.size<=w'.heap.size
 os:w'.os=w.os
 out:w'.output=w.output
 keep:∀id s,O id=some s->∃s',I' id=some s'/\s.ep<=s'.ep/\(s.ep=s'.ep->s'=s)
 none:∀id,id<M.length->O id=Option.none->I' id=Option.none
 new:∀id s' l',I' id=some s'->s'.loc=some l'->w.heap.size<=l'.blk\/O.byId l'.blk
 res:I'.res=O.res
 ex:I'.ex=O.ex
 resKeep:∀b,O.res b->w'.heap[b]? =w.heap[b]?
 frame:∀b,b<w.heap.size->O.un b->w'.heap[b]? =w.heap[b]?
def Step.refl(O:Map)(M:QA)(w:World):Step O M w O M w where
 len:=A5 _
 size:=A5 _
 os:=rfl
 out:=rfl
 keep:=λ_ s h=>⟨s,h,A5 _,λ_=>rfl⟩
 none:=λ_ _ h=>h
 new:=λid s' l' h h'=>.inr ⟨id,s',l',h,h',rfl⟩
 res:=rfl
 ex:=rfl
 resKeep:=λ_ _=>rfl
 frame:=λ_ _ _=>rfl
def Step.un{O I':Map}{M S':QA}{w w':World}(h:Step O M w I' S' w'){b:Nat}(hb:b<w.heap.size)(hu:O.un b):I'.un b:=by
 rintro(⟨id,s,l,h1,h2,rfl⟩|hr)
 ·rcases h.new id s l h1 h2 with h3|h3
  ·exact absurd h3 (by omega)
  ·exact hu (.inl h3)
 ·exact hu (.inr (h.res▸hr))
def Step.trans{O i₁ i₂:Map}{M s₁ s₂:QA}{w w₁ w₂:World}(h:Step O M w i₁ s₁ w₁)(h':Step i₁ s₁ w₁ i₂ s₂ w₂):Step O M w i₂ s₂ w₂ where
 len:=Ao h.len h'.len
 size:=Ao h.size h'.size
 os:=h'.os.trans h.os
 out:=h'.out.trans h.out
 keep:=λid s hs=>by obtain⟨s1,h1,hle,he⟩:=h.keep id s hs;obtain⟨s2,h2,hle',he'⟩:=h'.keep id s1 h1;refine⟨s2,h2,Ao hle hle',λe=> ?_⟩;have e1:s1=s:=he (by omega);subst e1;exact he' e
 none:=λid hid hn=>h'.none id (Bl hid h.len) (h.none id hid hn)
 new:=λid s' l' h1 h2=>by
  rcases h'.new id s' l' h1 h2 with h3|⟨id1,s1,l1,h4,h5,h6⟩
  ·exact .inl (Ao h.size h3)
  ·rcases h.new id1 s1 l1 h4 h5 with h7|h7
   ·exact .inl (h6▸h7)
   ·exact .inr (h6▸h7)
 res:=h'.res.trans h.res
 ex:=h'.ex.trans h.ex
 resKeep:=λb hb=>(h'.resKeep b (h.res▸hb)).trans (h.resKeep b hb)
 frame:=λb hb hu=>(h'.frame b (Bl hb h.size) (h.un hb hu)).trans (h.frame b hb hu)
def TR.step{O I':Map}{M S':QA}{w w':World}(hs:Step O M w I' S' w'){t:T}{v:Value}(h:TR O.un w t v):TR I'.un w' t v:=
 h.mono (λb hb hlt=>⟨hs.un hlt.lt hb,hs.frame b hlt.lt hb⟩)
def JU.step{O I':Map}{M S':QA}{w w':World}(hs:Step O M w I' S' w'){r:Ref}{ok:Jv->Prop}(h:JU O r ok):JU I' r ok:=by obtain⟨s,h1,h2,h3⟩:=h;obtain⟨s',h4,h5,h6⟩:=hs.keep r.id s h1;refine⟨s',h4,by omega,λe=> ?_⟩;have e1:s'=s:=h6 (by omega);subst e1;exact h3 e
def CR.step{O I':Map}{M S':QA}{w w':World}(hs:Step O M w I' S' w'){c:Cell}{v:Value}(h:CR O w c v):CR I' w' c v:=by
 cases c with
 |t x=>exact TR.step hs h
 |ptr r=>obtain⟨a,rfl,h1⟩:=h;exact⟨a,rfl,h1.step hs⟩
 |sl r len cap=>obtain⟨a,c,rfl,h0,h1⟩:=h;exact⟨a,c,rfl,h0,h1.step hs⟩
 |clo f caps=>exact cloR.imp h (by rw[hs.ex]) rfl λ_ i _ _ a h4=>h4.step hs
inductive AV where
 |c (x:Cell)
 |agg (xs:List Cell)
 |tup (xs:List (Cell⊕List Cell))
 deriving Inhabited
def XF(O:Map)(w:World)(xs:List Cell)(v:Value):Prop:=∃arr:Array Value,v=.agg arr/\arr.size=xs.length/\∀i (h:i<xs.length),∃u,arr[i]? =some u/\CR O w xs[i] u
def compR(O:Map)(w:World):Cell⊕List Cell->Value->Prop
 |.inl x,v=>CR O w x v
 |.inr xs,v=>XF O w xs v
def VR(O:Map)(w:World):AV->Value->Prop
 |.c x,v=>CR O w x v
 |.agg xs,v=>XF O w xs v
 |.tup xs,v=>∃arr:Array Value,v=.tuple arr/\arr.size=xs.length/\∀i (h:i<xs.length),∃u,arr[i]? =some u/\compR O w xs[i] u
def XF.step{O I':Map}{M S':QA}{w w':World}(hs:Step O M w I' S' w'){xs:List Cell}{v:Value}(h:XF O w xs v):XF I' w' xs v:=by obtain⟨arr,rfl,h1,h2⟩:=h;exact⟨arr,rfl,h1,λi hi=>let ⟨u,h3,h4⟩:=h2 i hi;⟨u,h3,h4.step hs⟩⟩
def compR.step{O I':Map}{M S':QA}{w w':World}(hs:Step O M w I' S' w'){x:Cell⊕List Cell}{v:Value}(h:compR O w x v):compR I' w' x v:=by
 cases x with
 |inl x=>exact CR.step hs h
 |inr xs=>exact XF.step hs h
def VR.step{O I':Map}{M S':QA}{w w':World}(hs:Step O M w I' S' w'){x:AV}{v:Value}(h:VR O w x v):VR I' w' x v:=by
 cases x with
 |c x=>exact CR.step hs h
 |agg xs=>exact XF.step hs h
 |tup xs=>obtain⟨arr,rfl,h1,h2⟩:=h;exact⟨arr,rfl,h1,λi hi=>let ⟨u,h3,h4⟩:=h2 i hi;⟨u,h3,h4.step hs⟩⟩
def OR.congr{O I':Map}{M S':QA}{w w':World}(hs:Step O M w I' S' w'){o:Obj}{s:Jv}(h:OR O w o s)
  (hb:∀l,s.loc=some l->w'.heap[l.blk]? =w.heap[l.blk]?):OR I' w' o s:=by
 obtain⟨h1,h2,h3⟩:=h;refine⟨h1,h2,?_⟩
 cases hl:s.loc with
 |none=>rw[hl]at h3;exact h3
 |some l=>rw[hl]at h3;obtain⟨⟨cells,elem,h4,h5⟩,h6,h7⟩:=h3;have e:=hb l hl;refine⟨⟨cells,elem,e.trans h4,h5⟩,h6,λi hi=> ?_⟩;obtain⟨v,h8,h9⟩:=h7 i hi;exact⟨v,(XY e _).trans h8,h9.step hs⟩
end Go.Abs
namespace Go.Abs
variable [Gl]
inductive K where
 |bool|int (k:IntKind)|string|ptr (e:TypeId)|slice (e:TypeId)|array (n:Nat) (e:TypeId)
 |struct (fs:List (Nat×TypeId))|func|other
 deriving Inhabited
inductive EK where
 |bool|int|str
 deriving Inhabited
structure JD where
 kind:K
 size:Nat
 bytes:Nat
 zero:Option (List T)
 eqs:Option (List EK)
 deriving Inhabited
def kindOf:TypeDesc->K
 |.bool=>.bool
 |.int k=>.int k
 |.string=>.string
 |.pointer e=>.ptr e
 |.slice e=>.slice e
 |.array n e=>.array n e
 |.struct fs=>.struct (fs.toList.map λf=>(f.offset,f.type))
 |.func .. =>.func
 |_=>.other
def tOf:Value->Option T
 |.bool b=>some (.bool b)
 |.int k n=>some (.int k n)
 |.string s=>some (.str s.data.toList)
 |.pointer none=>some .nilp
 |.slice none 0 0=>some (.imm [] 0 (some 0))
 |.nilFunc=>some .nilf
 |.map none=>some (.mp none)
 |_=>none
def tOfCell(v:Value):Option T:=match tOf v with
 |some t=>some t
 |none=>if v.oneCell' then some .junk else none
def Ue:List Value->Option (List T)
 |[]=>some []
 |v::vs=>match tOfCell v,Ue vs with
  |some t,some ts=>some (t::ts)
  |_,_=>none
def eqFs(rec:TypeId->Option (List EK)):List Field->List EK->Option (List EK)
 |[],acc=>some acc
 | f :: fs,acc => if f.name ≠ "_" /\ f.offset = acc.length then (match rec f.type with
  |some l=>eqFs rec fs (acc++l)
  |none=>none) else none
def eqKs(P:Program):Nat->TypeId->Option (List EK)
 |0,_=>none
 |d+1,t=>match P.underlying t,P.info? t with
  |some .bool,some _=>some [.bool]
  |some (.int _),some _=>some [.int]
  |some .string,some _=>some [.str]
  |some (.struct fs),some i=>if P.stoodInHeld t then none else match eqFs (eqKs P d) fs.toList [] with
   |some ks=>if ks.length=i.size then some ks else none
   |none=>none
  |_,_=>none
def eqTop(P:Program)(t:TypeId):TypeDesc->Option (List EK)
 |.struct _=>if P.eqGuardType P.depth t then none else eqKs P 6 t
 |_=>none
def Yx:EK->Cell->Cell->Option Bool
 |.bool,.t (.bool a),.t (.bool b)=>some (a==b)
 |.int,.t (.int k a),.t (.int k' b)=>if k=k' then some (a==b) else none
 |.str,.t (.str a),.t (.str b)=>some (a==b)
 |_,_,_=>none
def Xq:List EK->List Cell->List Cell->Option Bool
 |[],[],[]=>some true
 |k::ks,a::as,b::bs=>match Yx k a b,Xq ks as bs with
  |some x,some y=>some (x&&y)
  |_,_=>none
 |_,_,_=>none
def tinf(P:Program)(t:TypeId):Option JD:=
 match P.underlying t,P.info? t with
 |some d,some i=>some { kind:=kindOf d,size:=i.size,bytes:=i.bytes,zero:=i.zero.bind λv=>Ue v.cells.toList,eqs:=eqTop P t d }
 |_,_=>none
def JD.isAgg(i:JD):Bool:=match i.kind with|.struct _|.array .. =>true|_=>false
abbrev QB:=List (Nat×AV)
def QB.get:QB->Nat->Option AV
 |[],_=>none
 |(k,v)::r,t=>if k=t then some v else QB.get r t
def BIG:Nat:=1000000
def QB.at(r:QB)(t:Nat):Option AV:=match Nat.ble BIG t with
 |true=>none
 |false=>r.get t
def QB.set:QB->Nat->AV->QB
 |[],t,v=>[(t,v)]
 |(k,u)::r,t,v=>if k=t then (k,v)::r else (k,u)::QB.set r t v
def QB.del:QB->Nat->QB
 |[],_=>[]
 |(k,u)::r,t=>if k=t then QB.del r t else (k,u)::QB.del r t
def QB.put(r:QB):Option Nat->AV->QB
 |some d,v=>r.set d v
 |none,_=>r
def QB.drop(r:QB):Option Nat->QB
 |some d=>r.set d (.tup [])
 |none=>r
def Wo(v:Value):Option AV:=match v with
 |.agg cs=>(Ue cs.toList).map λts=>.agg (ts.map .t)
 |v=>(tOf v).map λt=>.c (.t t)
def ev(r:QB):Operand->Option AV
 |.tmp t=>r.at t
 |.const v=>Wo v
 |.func f=>some (.c (.t (.fn f [])))
 |.global g=>match Gl.dat g with
  |some ⟨c,x⟩=>some (.c (.t (.iptr (c.trees x))))
  |none=>none
@[reducible] def aI (k:IntKind) (n:Int):AV:=.c (.t (.int k n))
@[reducible] def aB (b:Bool):AV:=.c (.t (.bool b))
def AV.cells:AV->List Cell
 |.c x=>[x]
 |.agg xs=>xs
 |.tup _=>[]
def AV.flat:AV->Bool
 |.tup _=>false
 |_=>true
def QA.at?(M:QA)(r:Ref):Option Obj:=match M[r.id]? with
 |some o=>if o.ep=r.ep then some o else none
 |none=>none
def ZH(i:JD)(cs:List Cell):Option AV:=
 if i.isAgg then (if i.size<=cs.length then some (.agg (cs.take i.size)) else none)
 else match cs with|c::_=>some (.c c)|[]=>none
def Zb(M:QA)(i:JD):AV->Option AV
 |.c (.ptr r)=>match M.at? r with
  |some o=>ZH i (o.cs.drop r.off)
  |none=>none
 |.c (.t (.iptr cs))=>ZH i (cs.map .t)
 |_=>none
def Qo(cs:List Cell)(off:Nat)(xs:List Cell):List Cell:=cs.take off++xs++cs.drop (off+xs.length)
def XE(M:QA)(i:JD)(a v:AV):Option QA:=match a with
 |.c (.ptr r)=>match M.at? r with
  |some o=>if v.flat/\v.cells.length=i.size/\r.off+i.size<=o.cs.length then some (M.set r.id { o with cs:=Qo o.cs r.off v.cells }) else none
  |none=>none
 |_=>none
def Ko(M:QA)(cs:List Cell):AV×QA:=(.c (.ptr ⟨M.length,0,0⟩),M++[{ cs:=cs }])
def Yg(place:Nat->Option (Nat×Nat)):List (Nat×AV)->List Cell->Option (List Cell)
 |[],cs=>some cs
 |(i,v)::rest,cs=>match place i with
  |some (off,size)=>if v.flat/\v.cells.length=size/\off+size<=cs.length then Yg place rest (Qo cs off v.cells) else none
  |none=>none
def evs(r:QB):List (Nat×Operand)->Option (List (Nat×AV))
 |[]=>some []
 |(i,x)::rest=>match ev r x,evs r rest with
  |some v,some vs=>some ((i,v)::vs)
  |_,_=>none
def evl(r:QB):List Operand->Option (List AV)
 |[]=>some []
 |x::rest=>match ev r x,evl r rest with
  |some v,some vs=>some (v::vs)
  |_,_=>none
def YO(P:Program):List (Nat×TypeId)->Option (List (Nat×Nat))
 |[]=>some []
 |(off,t)::rest=>match tinf P t,YO P rest with
  |some i,some ps=>some ((off,i.size)::ps)
  |_,_=>none
def Vu(P:Program)(t:TypeId)(ps:List (Nat×AV)):Option AV:=match tinf P t with
 |some i=>match i.zero,i.kind with
  |some z,.struct fs=>match YO P fs with
   |some places=>(Yg (λn=>places[n]?) ps (z.map .t)).map .agg
   |none=>none
  |some z,.array _ e=>match tinf P e with
   |some j=>(Yg (λn=>some (n*j.size,j.size)) ps (z.map .t)).map .agg
   |none=>none
  |_,_=>none
 |none=>none
def Y7:Nat->List T->List T
 |0,_=>[]
 |n+1,z=>z++Y7 n z
def UN:List Cell->Option (List T)
 |[]=>some []
 |.t x::r=>(UN r).map (x::·)
 |_::_=>none
def objT(b:Bool)(cs:List Cell):Option (List T):=match b with
 |true=>none
 |false=>UN cs
def objT_eq{b:Bool}{cs:List Cell}{ts:List T}(h:objT b cs=some ts):UN cs=some ts:=by
 cases b with
 |true=>cases h
 |false=>exact h
def Ji(P:Program)(b:Bool)(M:QA)(t:TypeId)(n:Nat)(ps:List (Nat×AV)):Option (AV×QA):=match tinf P t with
 |some i=>match i.kind with
  |.slice e=>match tinf P e with
   |some j=>match j.zero with
    |some z=>if j.size=z.length/\0<j.size/\n*j.size<=1000 then
      match Yg (λm=>some (m*j.size,j.size)) ps ((Y7 n z).map .t) with
      |some cs=>match objT b cs with
       |some ts=>some (.c (.t (.imm ts n (some n))),M)
       |none=>some (.c (.sl ⟨M.length,0,0⟩ n (some n)),M++[{ cs:=cs,es:=j.size }])
      |none=>none
     else none
    |none=>none
   |none=>none
  |_=>none
 |none=>none
def intE(op:BinOp)(k:IntKind)(x y:Int):Option T:=match op with
 |.add=>some (.int k (k.wrap (x+y)))
 |.sub=>some (.int k (k.wrap (x - y)))
 |.mul=>some (.int k (k.wrap (x*y)))
 |.quo=>if y=0 then none else some (.int k (k.wrap (x.tdiv y)))
 |.rem=>if y=0 then none else some (.int k (x.tmod y))
 |.and=>some (.int k (k.wrap (BitVec.ofInt k.bits x&&&BitVec.ofInt k.bits y).toNat))
 |.or=>some (.int k (k.wrap (BitVec.ofInt k.bits x|||BitVec.ofInt k.bits y).toNat))
 |.xor=>some (.int k (k.wrap (BitVec.ofInt k.bits x^^^BitVec.ofInt k.bits y).toNat))
 |.andNot=>some (.int k (k.wrap (BitVec.ofInt k.bits x&&& ~~~BitVec.ofInt k.bits y).toNat))
 |.eql=>some (.bool (x==y))
 |.neq=>some (.bool (x !=y))
 |.lss=>some (.bool (decide (x<y)))
 |.leq=>some (.bool (decide (x<=y)))
 |.gtr=>some (.bool (decide (x>y)))
 |.geq=>some (.bool (decide (x>=y)))
 |_=>none
def V3(op:BinOp)(k:IntKind)(x:Int)(y:Int):Option T:=
 if y<0 then none else match op with
 |.shl=>some (.int k (k.wrap (x*2^(min y.toNat k.bits))))
 |.shr=>some (.int k (x.fdiv (2^(min y.toNat k.bits))))
 |_=>none
def strE(op:BinOp)(x y:List UInt8):Option T:=match op with
 |.add=>if x.length+y.length<=9223372036854775807 then some (.str (x++y)) else none
 |.eql=>some (.bool (x==y))
 |.neq=>some (.bool !(x==y))
 |_=>none
def Wp(op:BinOp)(x y:Bool):Option T:=match op with
 |.eql=>some (.bool (x==y))
 |.neq=>some (.bool !(x==y))
 |_=>none
def WX:BinOp->Bool
 |.shl|.shr=>true
 |_=>false
def binE(P:Program)(op:BinOp)(xT:TypeId)(x y:AV):Option T:=match x,y with
 |.c (.t (.int k a)),.c (.t (.int k' b))=>if WX op then V3 op k a b else if k=k' then intE op k a b else none
 |.c (.t (.str a)),.c (.t (.str b))=>strE op a b
 |.c (.t (.bool a)),.c (.t (.bool b))=>match tinf P xT with
  |some i=>match i.kind with|.bool=>Wp op a b|_=>none
  |none=>none
 |.c (.ptr _),.c (.t .nilp)|.c (.t (.iptr _)),.c (.t .nilp)=>match tinf P xT with
  |some i=>match i.kind with|.ptr _=>Wp op false true|_=>none
  |none=>none
 |.c (.t .nilp),.c (.t .nilp)=>match tinf P xT with
  |some i=>match i.kind with|.ptr _=>Wp op true true|_=>none
  |none=>none
 |.agg xs,.agg ys=>match tinf P xT with
  |some i=>match i.eqs with
   |some ks=>match Xq ks xs ys with
    |some c=>Wp op c true
    |none=>none
   |none=>none
  |none=>none
 |_,_=>none
def unE(op:UnOp)(x:AV):Option T:=match op,x with
 |.not,.c (.t (.bool b))=>some (.bool !b)
 |.neg,.c (.t (.int k n))=>some (.int k (k.wrap (0 - n)))
 |.xor,.c (.t (.int k n))=>intE .xor k (if k.signed then -1 else k.max) n
 |_,_=>none
def utf(n:Int):List UInt8:=(Utf8.encode n).data.toList
def Vm(P:Program)(src dst:TypeId)(x:AV):Option T:=match tinf P src,tinf P dst,x with
 |some _,some j,.c (.t (.int _ n))=>match j.kind with
  |.int k=>some (.int k (k.wrap n))
  |.string=>some (.str (utf n))
  |_=>none
 |some _,some j,.c (.t (.str s))=>match j.kind with
  |.string=>some (.str s)
  |_=>none
 |_,_,_=>none
def Zg(P:Program)(t:TypeId)(x:AV)(f:Nat):Option AV:=match tinf P t with
 |some i=>match i.kind with
  |.struct fs=>match fs[f]? with
   |some (off,ft)=>match tinf P ft with
    |some j=>if 0<j.size then (match x with
     |.c (.ptr r)=>some (.c (.ptr { r with off:=r.off+off }))
     |.c (.t (.iptr cs))=>some (.c (.t (.iptr (cs.drop off))))
     |_=>none) else none
    |none=>none
   |none=>none
  |_=>none
 |none=>none
def KN(j:JD)(cs:List Cell)(off:Nat):Option AV:=
 if j.isAgg then (if off+j.size<=cs.length then some (.agg ((cs.drop off).take j.size)) else none)
 else match cs[off]? with|some c=>some (.c c)|none=>none
def Vg(P:Program)(t:TypeId)(x:AV)(f:Nat):Option AV:=match tinf P t with
 |some i=>match i.kind,x with
  |.struct fs,.agg cs=>match fs[f]? with
   |some (off,ft)=>match tinf P ft with
    |some j=>KN j cs off
    |none=>none
   |none=>none
  |_,_=>none
 |none=>none
def intOfAV:AV->Option Int
 |.c (.t (.int _ n))=>some n
 |_=>none
def XW(P:Program)(t:TypeId)(x i:AV):Option AV:=match tinf P t,intOfAV i with
 |some inf,some n=>match inf.kind with
  |.slice e=>match tinf P e with
   |some j=>match x with
    |.c (.sl r len _)=>if 0<=n/\n<len then some (.c (.ptr { r with off:=r.off+n.toNat*j.size })) else none
    |.c (.t (.imm cs len _))=>if 0<=n/\n<len then some (.c (.t (.iptr (cs.drop (n.toNat*j.size))))) else none
    |_=>none
   |none=>none
  |.array len e=>match tinf P e with
   |some j=>match x with
    |.c (.ptr r)=>if 0<=n/\n<len then some (.c (.ptr { r with off:=r.off+n.toNat*j.size })) else none
    |.c (.t (.iptr cs))=>if 0<=n/\n<len then some (.c (.t (.iptr (cs.drop (n.toNat*j.size))))) else none
    |_=>none
   |none=>none
  |_=>none
 |_,_=>none
def YT(P:Program)(t:TypeId)(x i:AV):Option AV:=match tinf P t,intOfAV i with
 |some inf,some n=>match inf.kind,x with
  |.array len e,.agg cs=>match tinf P e with
   |some j=>if 0<=n/\n<len then KN j cs (n.toNat*j.size) else none
   |none=>none
  |.string,.c (.t (.str s))=>if 0<=n then (match s[n.toNat]? with|some b=>some (aI .u8 b.toNat)|none=>none) else none
  |_,_=>none
 |_,_=>none
def YD(x:AV)(i:Nat):Option AV:=match x with
 |.tup xs=>match xs[i]? with
  |some (.inl c)=>some (.c c)
  |some (.inr cs)=>some (.agg cs)
  |none=>none
 |_=>none
def Jp(x:Option AV)(X8 top:Nat):Option Nat:=match x with
 |none=>some X8
 |some v=>match intOfAV v with
  |some n=>if 0<=n/\n<=top then some n.toNat else none
  |none=>none
def Yk(P:Program)(M:QA)(t:TypeId)(x:AV)(lo hi mx:Option AV):Option AV:=match tinf P t with
 |some i=>match i.kind,x with
  |.string,.c (.t (.str s))=>match mx,Jp hi s.length s.length with
   |none,some h=>match Jp lo 0 h with
    |some l=>some (.c (.t (.str ((s.drop l).take (h - l)))))
    |none=>none
   |_,_=>none
  |.slice e,.c (.sl r len cap)=>match tinf P e,M.at? r with
   |some j,some o=>if o.es=j.size then (match mx,hi with
    |some _,some _=>match Jp mx 0 (cap.getD len) with
     |some m=>match Jp hi 0 m with
      |some h=>match Jp lo 0 h with
       |some l=>some (.c (.sl { r with off:=if m=l then r.off else r.off+l*j.size } (h - l) (some (m - l))))
       |none=>none
      |none=>none
     |none=>none
    |some _,none=>none
    |none,_=>match Jp hi len (cap.getD len) with
     |some h=>match Jp lo 0 h with
      |some l=>match cap with
       |some c=>some (.c (.sl { r with off:=if c=l then r.off else r.off+l*j.size } (h - l) (some (c - l))))
       |none=>if l<len\/l=0 then some (.c (.sl { r with off:=r.off+l*j.size } (h - l) none)) else none
      |none=>none
     |none=>none) else none
   |_,_=>none
  |.slice e,.c (.t (.imm cs len cap))=>match tinf P e with
   |some j=>if cs.length=len*j.size then (match mx,hi with
    |some _,some _=>match Jp mx 0 len with
     |some m=>match Jp hi 0 m with
      |some h=>match Jp lo 0 h with
       |some l=>some (.c (.t (.imm ((cs.drop (l*j.size)).take ((h - l)*j.size)) (h - l) (some (m - l)))))
       |none=>none
      |none=>none
     |none=>none
    |some _,none=>none
    |none,_=>match Jp hi len len with
     |some h=>match Jp lo 0 h with
      |some l=>some (.c (.t (.imm ((cs.drop (l*j.size)).take ((h - l)*j.size)) (h - l) (cap.map (· - l)))))
      |none=>none
     |none=>none) else none
   |none=>none
  |_,_=>none
 |none=>none
def lenE(x:AV):Option Nat:=match x with
 |.c (.sl _ n _)=>some n
 |.c (.t (.imm _ n _))=>some n
 |.c (.t (.str s))=>some s.length
 |_=>none
def JJ(P:Program)(M:QA)(t:TypeId)(l c:AV):Option (AV×QA):=match tinf P t,intOfAV l,intOfAV c with
 |some i,some n,some m=>match i.kind with
  |.slice e=>match tinf P e with
   |some j=>match j.zero with
    |some z=>if j.size=z.length/\0<j.size/\0<=n/\n<=m/\m*j.bytes<=281474976710656/\m<=9223372036854775807 then
      some (.c (.sl ⟨M.length,0,0⟩ n.toNat (some m.toNat)),M++[{ cs:=(Y7 m.toNat z).map .t,es:=j.size }])
     else none
    |none=>none
   |none=>none
  |_=>none
 |_,_,_=>none
def JF(M:QA)(es n:Nat)(x:AV):Option (List Cell):=match x with
 |.c (.sl r len _)=>match M.at? r with
  |some o=>if r.off+n*es<=o.cs.length/\n<=len then some ((o.cs.drop r.off).take (n*es)) else none
  |none=>none
 |.c (.t (.imm cs len _))=>if n<=len/\cs.length=len*es then some ((cs.take (n*es)).map .t) else none
 |.c (.t (.str s))=>if n<=s.length/\es=1 then some ((s.take n).map λb=>.t (.int .u8 b.toNat)) else none
 |_=>none
def ZC(n bytes:Nat):Prop:=n*bytes<=17592186044416/\n<=17592186044416/\bytes<=1073741824
instance (n bytes:Nat):Decidable (ZC n bytes):=inferInstanceAs (Decidable (_/\_/\_))
def Jk(P:Program)(M:QA)(t:TypeId)(s x:AV):Option (AV×QA):=match tinf P t with
 |some i=>match i.kind with
  |.slice e=>match tinf P e with
   |some j=>match j.zero,lenE x with
    |some z,some m=>if j.size=z.length/\0<j.size then
     match JF M j.size m x with
     |some new=>match s with
      |.c (.t (.imm cs len (some c)))=>
       if c=len/\cs.length=len*j.size/\ZC (len+m) j.bytes then
        (if m=0 then some (s,M) else some (.c (.sl ⟨M.length,0,0⟩ (len+m) none),M++[{ cs:=cs.map .t++new,es:=j.size }]))
       else none
      |.c (.sl r len none)=>match M.at? r with
       |some o=>if r.off=0/\o.es=j.size/\o.cs.length=len*j.size/\ZC (len+m) j.bytes then
         some (.c (.sl { r with ep:=r.ep+1 } (len+m) none),M.set r.id { o with cs:=o.cs++new,ep:=o.ep+1 })
        else none
       |none=>none
      |.c (.sl r len (some c))=>match M.at? r with
       |some o=>if o.es=j.size/\len+m<=c/\r.off+c*j.size<=o.cs.length then
         some (.c (.sl r (len+m) (some c)),M.set r.id { o with cs:=Qo o.cs (r.off+len*j.size) new })
        else if o.es=j.size/\c<len+m/\len<=c/\r.off+c*j.size<=o.cs.length/\ZC (len+m) j.bytes then
         some (.c (.sl ⟨M.length,0,0⟩ (len+m) none),M++[{ cs:=(o.cs.drop r.off).take (len*j.size)++new,es:=j.size }])
        else none
       |none=>none
      |_=>none
     |none=>none
     else none
    |_,_=>none
   |none=>none
  |_=>none
 |none=>none
def Uc(P:Program)(M:QA)(t:TypeId)(d s:AV):Option (AV×QA):=match tinf P t with
 |some i=>match i.kind with
  |.slice e=>match tinf P e with
   |some j=>match d,lenE s with
    |.c (.sl r len _),some m=>match M.at? r,JF M j.size (min m len) s with
     |some o,some new=>if o.es=j.size/\r.off+len*j.size<=o.cs.length then
       some (aI .i64 ((min m len:Nat):Int),M.set r.id { o with cs:=Qo o.cs r.off new })
      else none
     |_,_=>none
    |.c (.t (.imm _ 0 _)),some _=>some (aI .i64 0,M)
    |_,_=>none
   |none=>none
  |_=>none
 |none=>none
def Zp(mx:Bool):List AV->Option AV
 |[.c (.t (.int k x)),.c (.t (.int k' y))]=>if k=k' then some (aI k (if mx then (if y>x then y else x) else (if y<x then y else x))) else none
 |_=>none
def Qu(P:Program)(M:QA)(b:Builtin)(argTs:Array TypeId)(args:List AV):Option (AV×QA):=match b,args with
 |.len,[x]=>match argTs[0]? with
  |some t=>match tinf P t with
   |some i=>(match i.kind,x with
    |.slice _,.c (.sl _ n _)=>some (aI .i64 n,M)
    |.slice _,.c (.t (.imm _ n _))=>some (aI .i64 n,M)
    |.string,.c (.t (.str s))=>some (aI .i64 s.length,M)
    |.array n _,_=>some (aI .i64 n,M)
    |_,_=>none)
   |none=>none
  |none=>none
 |.cap,[x]=>match argTs[0]? with
  |some t=>match tinf P t with
   |some i=>(match i.kind with
    |.slice _=>(match x with
     |.c (.sl r _ (some c))=>(match M.at? r with
      |some _=>some (aI .i64 c,M)
      |none=>none)
     |.c (.t (.imm _ _ (some c)))=>some (aI .i64 c,M)
     |_=>none)
    |_=>none)
   |none=>none
  |none=>none
 |.append,[s,x]=>match argTs[0]?,argTs[1]? with
  |some t,some u=>(match tinf P u with
   |some i=>(match i.kind with
    |.slice _=>Jk P M t s x
    |.string=>Jk P M t s x
    |_=>none)
   |none=>none)
  |_,_=>none
 |.copy,[d,s]=>match argTs[0]? with
  |some t=>Uc P M t d s
  |none=>none
 |.min,l=>(Zp false l).map (·,M)
 |.max,l=>(Zp true l).map (·,M)
 |_,_=>none
def refsOf:List AV->Option (List Ref)
 |[]=>some []
 |.c (.ptr r)::rest=>(refsOf rest).map (r::·)
 |_::_=>none
def Ke:List AV->Option (List T)
 |[]=>some []
 |.c (.t x)::rest=>(Ke rest).map (x::·)
 |_::_=>none
def ZP(f:FuncId)(caps:List AV):Option AV:=match Ke caps with
 |some ts=>some (.c (.t (.fn f ts)))
 |none=>match refsOf caps with
  |some rs=>match Nat.beq f YID||Nat.ble BND f with|true=>none|false=>some (.c (.clo f rs))
  |none=>none
def Za(f:FuncId)(first:List AV):Option AV:=match refsOf first with
 |some rs=>some (.c (.clo (BND+f) rs))
 |none=>none
def evo(r:QB):Option Operand->Option (Option AV)
 |none=>some none
 |some x=>(ev r x).map some
def lookupE(P:Program)(t:TypeId)(v n:AV):Option AV:=match v,n with
 |.c (.t (.mp m)),.c (.t (.int .i64 n))=>match P.underlying t with
  |some (.map kt et)=>match P.underlying kt,(Lit.int .i64 n).wf,P.info? et with
   |some (.int .i64),true,some inf=>match m with
    |none=>match inf.zero with
     |some (.agg arr)=>(Ue arr.toList).map λz=>.tup [.inr (z.map .t),.inl (.t (.bool false))]
     |_=>none
    |some D=>match P.underlying et,inf.zero,D.atKey (.int .i64 n) (.lit (.int .i64 0)) with
     |some (.int .i64),some (.int .i64 (.ofNat 0)),.lit (.int .i64 c)=>some (.tup [.inl (.t (.int .i64 c)),.inl (.t (.bool (Maps.has D (.int .i64 n))))])
     |_,_,_=>none
   |_,_,_=>none
  |_=>none
 |_,_=>none
def opE(P:Program)(r:QB)(M:QA):Op->Option (Option AV×QA)
 |.move x|.assign x=>(ev r x).map λv=>(some v,M)
 |.pick c a b=>match ev r c with
  |some (.c (.t (.bool t)))=>(ev r (if t then a else b)).map λv=>(some v,M)
  |_=>none
 |.alloc e=>match tinf P e with
  |some i=>match i.zero with
   |some z=>some (some (Ko M (z.map .t)).1,(Ko M (z.map .t)).2)
   |none=>none
  |none=>none
 |.box _ x=>match ev r x with
  |some v=>if v.flat then some (some (Ko M v.cells).1,(Ko M v.cells).2) else none
  |none=>none
 |.build t ps=>match evs r ps.toList with
  |some vs=>(Vu P t vs).map λv=>(some v,M)
  |none=>none
 |.buildSlice t n ps=>match evs r ps.toList with
  |some vs=>(Ji P (Gl.obj t ps.toList) M t n vs).map λx=>(some x.1,x.2)
  |none=>none
 |.load t a=>match tinf P t,ev r a with
  |some i,some v=>(Zb M i v).map λx=>(some x,M)
  |_,_=>none
 |.store t a x=>match tinf P t,ev r a,ev r x with
  |some i,some v,some u=>(XE M i v u).map λS'=>(none,S')
  |_,_,_=>none
 |.nilCheck x=>match ev r x with
  |some (.c (.ptr p))=>some (some (.c (.ptr p)),M)
  |some (.c (.t (.iptr cs)))=>some (some (.c (.t (.iptr cs))),M)
  |some (.c (.t (.fn f cs)))=>some (some (.c (.t (.fn f cs))),M)
  |some (.c (.clo f cs))=>some (some (.c (.clo f cs)),M)
  |_=>none
 |.binOp op xT x y _=>match ev r x,ev r y with
  |some u,some v=>(binE P op xT u v).map λt=>(some (.c (.t t)),M)
  |_,_=>none
 |.unOp op _ x=>match ev r x with
  |some v=>(unE op v).map λt=>(some (.c (.t t)),M)
  |none=>none
 |.convert src dst x=>match ev r x with
  |some v=>(Vm P src dst v).map λt=>(some (.c (.t t)),M)
  |none=>none
 |.makeFunc (.func f) first caps=>if first.size=0 then (match evl r caps.toList with
  |some vs=>(ZP f vs).map λv=>(some v,M)
  |none=>none) else if caps.size=0 then (match evl r first.toList with
  |some vs=>(Za f vs).map λv=>(some v,M)
  |none=>none) else none
 |.makeSlice t l c=>match ev r l,ev r c with
  |some u,some v=>(JJ P M t u v).map λx=>(some x.1,x.2)
  |_,_=>none
 |.slice t x lo hi mx=>match ev r x,evo r lo,evo r hi,evo r mx with
  |some v,some l,some h,some m=>(Yk P M t v l h m).map λu=>(some u,M)
  |_,_,_,_=>none
 |.fieldAddr t x f=>match ev r x with
  |some v=>(Zg P t v f).map λu=>(some u,M)
  |none=>none
 |.field t x f=>match ev r x with
  |some v=>(Vg P t v f).map λu=>(some u,M)
  |none=>none
 |.indexAddr t x i=>match ev r x,ev r i with
  |some v,some n=>(XW P t v n).map λu=>(some u,M)
  |_,_=>none
 |.index t x i=>match ev r x,ev r i with
  |some v,some n=>(YT P t v n).map λu=>(some u,M)
  |_,_=>none
 |.extract x i=>match ev r x with
  |some v=>(YD v i).map λu=>(some u,M)
  |none=>none
 |.call { callee:=.builtin b,args,argTypes }=>match evl r args.toList with
  |some vs=>(Qu P M b argTypes vs).map λx=>(some x.1,x.2)
  |none=>none
 |.lookup t x k true=>match ev r x,ev r k with
  |some v,some n=>(lookupE P t v n).map λu=>(some u,M)
  |_,_=>none
 |_=>none
end Go.Abs
namespace Go.Abs
variable [Gl]
def noRow(o:Go.Obj):Prop:=∀c e fr,o≠.cells c e fr
def un_noRow{O:Map}{M:QA}{w:World}(h:HR O M w){b:Nat}{o:Go.Obj}(ho:noRow o)(hb:w.heap[b]? =some o):O.un b:=by
 rintro(⟨id,s,l,h3,h4,rfl⟩|hr)
 ·obtain⟨o',_,_,_,h5⟩:=h.obj id s h3;rw[h4]at h5;obtain⟨⟨cells,elem,h6,_⟩,_⟩:=h5;rw[h6]at hb;injection hb with hb;exact ho _ _ _ hb.symm
 ·obtain⟨c,e,fr,h1⟩:=h.resRow b hr;rw[h1]at hb;injection hb with hb;exact ho _ _ _ hb.symm
def badV:Value:=.tuple #[.tuple #[]]
def VR_bad{O:Map}{w:World}{x:AV}(h:VR O w x badV):False:=by
 cases x with
 |c x=>have:=CR.Z2 h;cases this
 |agg xs=>obtain⟨arr,e,_⟩:=h;cases e
 |tup xs=>
  obtain⟨arr,e,h1,h2⟩:=h;injection e with e;subst e
  cases xs with
  |nil=>cases h1
  |cons x xs=>
   obtain⟨u,h3,h4⟩:=h2 0 (by simp);injection h3 with h3;subst h3
   cases x with
   |inl c=>have:=CR.Z2 (show CR O w c (.tuple #[]) from h4);cases this
   |inr cs=>obtain⟨arr,e,_⟩:=(show XF O w cs (.tuple #[]) from h4);cases e
def GH:Nat:=3000000
def modeOf(s:LoopState)(p:Option Code):Value:=match s,p with
 |.ready,none=>.func (.func 0) #[] #[]
 |.done,some .ret=>.func (.func 2) #[] #[]
 |.done,some (.exit id)=>.func (.func (id+3)) #[] #[]
 |_,_=>badV
open Classical in
noncomputable def UU(ex:Ext)(w:World):Value:=match w.heap[ex.l]? with
 |some (.loop r)=>if r={ ex.lr with state:=r.state,pending:=r.pending } then modeOf r.state r.pending else badV
 |_=>badV
def modeV_congr{ex:Ext}{w w':World}(h:w'.heap[ex.l]? =w.heap[ex.l]?):UU ex w'=UU ex w:=by unfold UU;rw[h]
def modeV_loop{ex:Ext}{w:World}(h:UU ex w≠badV):∃r,w.heap[ex.l]? =some (.loop r)/\r={ ex.lr with state:=r.state,pending:=r.pending }/\UU ex w=modeOf r.state r.pending:=by
 unfold UU at h⊢;split at h
 ·rename_i r hr;split at h
  ·rename_i e;exact⟨r,hr,e,by rw[AC e]⟩
  ·exact absurd rfl h
 ·exact absurd rfl h
noncomputable def lk(O:Map)(w:World)(a:Act)(t:Nat):Value:=if BIG<=t then (if t=GH then UU O.ex w else O.ex.o t) else a.tmps.getD t undef
def XZ(O:Map)(w:World):Prop:=∀g c x,Gl.dat g=some ⟨c,x⟩->TR O.un w (.iptr (c.trees x)) (.pointer (some ⟨g,0,none⟩))
def XZ.mono{O I':Map}{w w':World}(h:XZ O w)(hU:∀b,O.un b->UX w b->I'.un b/\w'.heap[b]? =w.heap[b]?):XZ I' w':=λg c x hg=>(h g c x hg).mono hU
def XZ.step{O I':Map}{M S':QA}{w w':World}(hs:Step O M w I' S' w')(h:XZ O w):XZ I' w':=λg c x hg=>(h g c x hg).step hs
structure JP(N:Nat)(O:Map)(w:World)(r:QB)(a:Act):Prop where
 size:a.tmps.size=N
 low:N<=BIG
 get:∀t x,r.get t=some x->VR O w x (lk O w a t)
 gl:XZ O w
def QB.at_get{r:QB}{t:Nat}{v:AV}(h:r.at t=some v):t<BIG/\r.get t=some v:=by
 unfold QB.at at h;split at h
 ·cases h
 ·rename_i hb;refine⟨?_,h⟩;apply CF;intro hn;rw[CB (by omega)]at hb;cases hb
def QB.at_of{r:QB}{t:Nat}{v:AV}(h:r.get t=some v)(ht:t<BIG):r.at t=some v:=by
 unfold QB.at
 split
 ·rename_i hb;have:=BQ hb;omega
 ·exact h
def JP.at{N:Nat}{O:Map}{w:World}{r:QB}{a:Act}(h:JP N O w r a){t:Nat}{x:AV}(ht:r.at t=some x):VR O w x (a.tmps.getD t undef):=by obtain⟨h1,h2⟩:=QB.at_get ht;have:=h.get t x h2;unfold lk at this;rwa [AK (by omega)]at this
def lk_mode{O I':Map}{w w':World}{a:Act}{t:Nat}{x:AV}(hx:VR O w x (lk O w a t))(he:I'.ex=O.ex)(hl:∀r,w.heap[O.ex.l]? =some (.loop r)->w'.heap[O.ex.l]? =w.heap[O.ex.l]?):lk I' w' a t=lk O w a t:=by
 unfold lk at hx⊢;rw[he];split
 ·rename_i hb;rw[AC hb]at hx;split
  ·rename_i e;rw[AC e]at hx;have hne:UU O.ex w≠badV:=λe=>VR_bad (e▸hx);obtain⟨r,hr,_⟩:=modeV_loop hne;exact modeV_congr (hl r hr)
  ·rfl
 ·rfl
def JP.step{N:Nat}{O I':Map}{M S':QA}{w w':World}{r:QB}{a:Act}(hh:HR O M w)(hs:Step O M w I' S' w')(h:JP N O w r a):JP N I' w' r a:=
 ⟨h.size,h.low,λt x hx=>by
  have h1:=h.get t x hx;rw[lk_mode h1 hs.ex λr hr=>hs.frame _ (A8.1 hr).1 (un_noRow hh (λ_ _ _ e=>by cases e) hr)];exact h1.step hs,h.gl.step hs⟩
def QB.Qk(r:QB)(t:Nat)(v:AV):(r.set t v).get t=some v:=by
 induction r with
 |nil=>simp[QB.set,QB.get]
 |cons p r ih=>obtain⟨k,u⟩:=p;by_cases h:k=t<;>simp[QB.set,QB.get,h,ih]
def QB.J7(r:QB){t t':Nat}(v:AV)(h:t≠t'):(r.set t v).get t'=r.get t':=by
 induction r with
 |nil=>simp[QB.set,QB.get,h]
 |cons p r ih=>
  obtain⟨k,u⟩:=p;by_cases h1:k=t
  ·subst h1;simp[QB.set,QB.get,h]
  ·by_cases h2:k=t'
   ·subst h2;simp[QB.set,QB.get,h1]
   ·simp[QB.set,QB.get,h1,h2,ih]
def QB.ZL(r:QB)(t:Nat):(r.del t).get t=none:=by
 induction r with
 |nil=>rfl
 |cons p r ih=>obtain⟨k,u⟩:=p;by_cases h:k=t<;>simp[QB.del,QB.get,h,ih]
def QB.YW(r:QB){t t':Nat}(h:t≠t'):(r.del t).get t'=r.get t':=by
 induction r with
 |nil=>rfl
 |cons p r ih=>
  obtain⟨k,u⟩:=p;by_cases h1:k=t
  ·subst h1;simp[QB.del,QB.get,h,ih]
  ·by_cases h2:k=t'
   ·subst h2;simp[QB.del,QB.get,h1]
   ·simp[QB.del,QB.get,h1,h2,ih]
def getD_set_same(arr:Array Value)(d:Nat)(v:Value)(h:d<arr.size):(arr.setIfInBounds d v).getD d undef=v:=by simp[h]
def getD_set_ne(arr:Array Value){d t:Nat}(v:Value)(h:d≠t):(arr.setIfInBounds d v).getD t undef=arr.getD t undef:=by simp[Array.getElem?_setIfInBounds_ne h]
def JP.put{N:Nat}{O:Map}{w:World}{r:QB}{a:Act}(h:JP N O w r a){dst:Option Nat}(hd:∀d,dst=some d->d<N){x:AV}{v:Value}(hv:VR O w x v):
  JP N O w (r.put dst x) (a.put dst v):=by
 cases dst with
 |none=>exact h
 |some d=>
  refine⟨by simp[Act.put,h.size],h.low,λt y hy=> ?_,h.gl⟩;by_cases e:d=t
  ·subst e;simp only[QB.put,QB.Qk,Kn]at hy;subst hy;have hlt:=hd d rfl;have hlow:=h.low;unfold lk;rw[AK (by omega)];simp only[Act.put];rw[getD_set_same _ _ _ (by rw[h.size];exact hlt)];exact hv
  ·simp only[QB.put,QB.J7 _ _ e]at hy;have:=h.get t y hy;unfold lk at this⊢;simp only[Act.put];rw[getD_set_ne _ _ e];exact this
def JP.drop{N:Nat}{O:Map}{w:World}{r:QB}{a:Act}(h:JP N O w r a){dst:Option Nat}(hd:∀d,dst=some d->d<N):JP N O w (r.drop dst) (a.put dst undef):=by
 cases dst with
 |none=>exact h
 |some d=>
  refine⟨by simp[Act.put,h.size],h.low,λt y hy=> ?_,h.gl⟩;by_cases e:d=t
  ·subst e;simp only[QB.drop,QB.Qk,Kn]at hy;subst hy;have hlt:=hd d rfl;have hlow:=h.low;have:(a.put (some d) undef).tmps.getD d undef=undef:=(by simp only[Act.put,Ay,Array.getElem?_setIfInBounds,Aq];split<;>rfl);unfold lk;rw[AK (by omega),this];exact⟨#[],rfl,rfl,λi hi=>absurd hi (by simp)⟩
  ·simp only[QB.drop,QB.J7 _ _ e]at hy;have:=h.get t y hy;unfold lk at this⊢;simp only[Act.put];rw[getD_set_ne _ _ e];exact this
def tOf_ok{U:Nat->Prop}{w:World}{v:Value}{t:T}(h:tOf v=some t):TR U w t v:=by
 unfold tOf at h;split at h<;>first|(injection h with h;subst h)|cases h
 ·exact .bool _
 ·exact .int _ _
 ·exact .str _
 ·exact .nilp
 ·exact .imm0 _ _ _ rfl
 ·exact .nilf
 ·exact .mpn
def tOfCell_ok{U:Nat->Prop}{w:World}{v:Value}{t:T}(h:tOfCell v=some t):TR U w t v:=by
 unfold tOfCell at h;split at h
 ·rename_i t' ht';injection h with h;subst h;exact tOf_ok ht'
 ·split at h
  ·rename_i hv;injection h with h;subst h;exact .junk _ hv
  ·cases h
def Uj{U:Nat->Prop}{w:World}:∀{vs:List Value} {ts:List T},Ue vs=some ts->ts.length=vs.length/\∀i (h:i<ts.length),∃u,vs[i]? =some u/\TR U w ts[i] u
 |[],ts,h=>by simp only[Ue,Kn]at h;subst h;exact⟨rfl,λi hi=>absurd hi (by simp)⟩
 |v::vs,ts,h=>by
  simp only[Ue]at h;split at h
  ·rename_i t ts' h1 h2;injection h with h;subst h;obtain⟨h3,h4⟩:=Uj (U:=U) (w:=w) h2;refine⟨by simp[h3],λi hi=> ?_⟩
   cases i with
   |zero=>exact⟨v,rfl,tOfCell_ok h1⟩
   |succ i=>exact h4 i (by simpa using hi)
  ·cases h
def aggR_ts{O:Map}{w:World}{vs:Array Value}{ts:List T}(h:Ue vs.toList=some ts):XF O w (ts.map .t) (.agg vs):=by obtain⟨h1,h2⟩:=Uj (U:=O.un) (w:=w) h;refine⟨vs,rfl,by simpa using h1.symm,λi hi=> ?_⟩;obtain⟨u,h3,h4⟩:=h2 i (by simpa using hi);exact⟨u,by simpa using h3,by simpa [CR] using h4⟩
def constAV_ok{O:Map}{w:World}{v:Value}{x:AV}(h:Wo v=some x):VR O w x v:=by
 unfold Wo at h;split at h
 ·simp only[WF]at h;obtain⟨ts,h1,rfl⟩:=h;exact aggR_ts h1
 ·simp only[WF]at h;obtain⟨t,h1,rfl⟩:=h;exact tOf_ok h1
def ev_ok{N:Nat}{O:Map}{w:World}{r:QB}{a:Act}(hr:JP N O w r a){x:Operand}{v:AV}(h:ev r x=some v):VR O w v (a.eval x):=by
 cases x with
 |tmp t=>exact hr.at h
 |const c=>exact constAV_ok h
 |func f=>simp only[ev,Kn]at h;subst h;exact TR.fn f [] #[] rfl (λi hi=>absurd hi (by simp))
 |global g=>
  simp only[ev]at h;split at h
  ·rename_i c x hg;injection h with h;subst h;exact hr.gl g c x hg
  ·cases h
def evl_ok{N:Nat}{O:Map}{w:World}{r:QB}{a:Act}(hr:JP N O w r a):∀{xs:List Operand} {vs:List AV},evl r xs=some vs->
  vs.length=xs.length/\∀i (h:i<vs.length),∃x,xs[i]? =some x/\VR O w vs[i] (a.eval x)
 |[],vs,h=>by simp only[evl,Kn]at h;subst h;exact⟨rfl,λi hi=>absurd hi (by simp)⟩
 |x::xs,vs,h=>by
  simp only[evl]at h;split at h
  ·rename_i v vs' h1 h2;injection h with h;subst h;obtain⟨h3,h4⟩:=evl_ok hr h2;refine⟨by simp[h3],λi hi=> ?_⟩
   cases i with
   |zero=>exact⟨x,rfl,ev_ok hr h1⟩
   |succ i=>exact h4 i (by simpa using hi)
  ·cases h
def WG{P:Program}{t:TypeId}{i:JD}(h:tinf P t=some i):∃d inf,P.underlying t=some d/\P.info? t=some inf/\i.kind=kindOf d/\i.size=inf.size/\i.bytes=inf.bytes/\
  (i.zero=inf.zero.bind λv=>Ue v.cells.toList)/\i.eqs=eqTop P t d:=by
 unfold tinf at h;split at h
 ·rename_i d inf h1 h2;injection h with h;subst h;exact⟨d,inf,h1,h2,rfl,rfl,rfl,rfl,rfl⟩
 ·cases h
def J6{P:Program}{t:TypeId}{i:JD}(h:tinf P t=some i)(w:World):(sizeOf t).run P w=.ok i.size w:=by obtain⟨d,inf,h1,h2,h3,h4,h5,h6,_⟩:=WG h;simp[sizeOf,typeInfo,h2,h4]
def K2{P:Program}{t:TypeId}{i:JD}(h:tinf P t=some i)(w:World):∃inf,(typeInfo t).run P w=.ok inf w/\inf.bytes=i.bytes/\inf.size=i.size/\P.info? t=some inf:=by obtain⟨d,inf,h1,h2,h3,h4,h5,h6,_⟩:=WG h;exact⟨inf,by simp[typeInfo,h2],h5.symm,h4.symm,h2⟩
def Jl{P:Program}{t:TypeId}{i:JD}(h:tinf P t=some i)(w:World):∃d,(underlying t).run P w=.ok d w/\i.kind=kindOf d/\P.underlying t=some d:=by obtain⟨d,inf,h1,h2,h3,h4,h5,h6,_⟩:=WG h;exact⟨d,AZ h1 w,h3,h1⟩
def tinf_agg{P:Program}{t:TypeId}{i:JD}(h:tinf P t=some i)(w:World):(isAgg t).run P w=.ok i.isAgg w:=by obtain⟨d,h1,h2,_⟩:=Jl h w;simp only[isAgg,AR,h1,AX,JD.isAgg,h2];cases d<;>simp[kindOf]
def ZO{P:Program}{t:TypeId}{i:JD}(h:tinf P t=some i){z:List T}(hz:i.zero=some z)(w:World):
  ∃v,(zeroValue t).run P w=.ok v w/\Ue v.cells.toList=some z:=by
 obtain⟨d,inf,h1,h2,h3,h4,h5,h6,_⟩:=WG h;rw[hz]at h6
 cases h7:inf.zero with
 |none=>simp[h7]at h6
 |some v=>simp only[h7,Option.bind_some]at h6;exact⟨v,by simp[zeroValue,typeInfo,h2,h7],h6.symm⟩
def Y3(b o n:Nat):(⟨b,o,none⟩:Addr).add n=⟨b,o+n,none⟩:=by unfold Addr.add;split<;>simp_all
def UZ(p:Nat->Value->Prop):∀(n:Nat),(∀i,i<n->∃v,p i v)->∃vs:List Value,vs.length=n/\∀i v,vs[i]? =some v->p i v
 |0,_=>⟨[],rfl,λi v h=>by simp at h⟩
 |n+1,h=>by
  obtain⟨vs,h1,h2⟩:=UZ p n (λi hi=>h i (by omega));obtain⟨v,hv⟩:=h n (by omega);refine⟨vs++[v],by simp[h1],λi u hu=> ?_⟩;by_cases hi:i<vs.length
  ·rw[AL hi]at hu;exact h2 i u hu
  ·rw[AU (by omega)]at hu;have:i=n:=(by have h3:i - vs.length<[v].length:=(AD.1 hu).1;simp only[Bj]at h3;omega);subst this;have e0:i - vs.length=0:=(by omega);rw[e0]at hu;simp only[BS,Kn]at hu;exact hu▸hv
def WI(O:Map)(w:World)(b off:Nat)(cs:List Cell):Prop:=∀i (h:i<cs.length),∃v,w.cell? ⟨b,off+i,none⟩=some v/\CR O w cs[i] v
def WI.drop{O:Map}{w:World}{b off:Nat}{cs:List Cell}(h:WI O w b off cs)(n:Nat):WI O w b (off+n) (cs.drop n):=λi hi=>by
 have hi':n+i<cs.length:=by simp at hi;omega
 obtain⟨v,h1,h2⟩:=h (n+i) hi';exact⟨v,by rw[<-h1,CJ],by simpa using h2⟩
def WI.take{O:Map}{w:World}{b off:Nat}{cs:List Cell}(h:WI O w b off cs)(n:Nat):WI O w b off (cs.take n):=λi hi=>by
 have hi':i<cs.length:=by simp at hi;omega
 obtain⟨v,h1,h2⟩:=h i hi';exact⟨v,h1,by simpa using h2⟩
def WI.list{O:Map}{w:World}{b off:Nat}{cs:List Cell}(h:WI O w b off cs):
  ∃vs:List Value,vs.length=cs.length/\(∀j v,vs[j]? =some v->w.cell? ((⟨b,off,none⟩:Addr).add j)=some v)/\∀i (hi:i<cs.length),∃u,vs[i]? =some u/\CR O w cs[i] u:=by
 obtain⟨vs,h1,h2⟩:=UZ (λi v=>∃hi:i<cs.length,w.cell? ⟨b,off+i,none⟩=some v/\CR O w cs[i] v) cs.length (λi hi=>let ⟨v,h3,h4⟩:=h i hi;⟨v,hi,h3,h4⟩);refine⟨vs,h1,λj v hv=> ?_,λi hi=> ?_⟩
 ·obtain⟨hi,h3,h4⟩:=h2 j v hv;rw[Y3];exact h3
 ·have hlt:i<vs.length:=(by omega);obtain⟨hi',h3,h4⟩:=h2 i vs[i] (by simp[hlt]);exact⟨vs[i],by simp[hlt],h4⟩
def WI.loadCells{O:Map}{w:World}{b off:Nat}{cs:List Cell}(h:WI O w b off cs)(P:Program){n:Nat}(hn:n=cs.length):
  ∃vs:List Value,vs.length=cs.length/\(Go.loadCells ⟨b,off,none⟩ n).run P w=.ok vs.toArray w/\XF O w cs (.agg vs.toArray)/\∀i (hi:i<cs.length),∃u,vs[i]? =some u/\CR O w cs[i] u:=by
 obtain⟨vs,h1,h2,h3⟩:=h.list;refine⟨vs,h1,?_,⟨vs.toArray,rfl,by simp[h1],λi hi=> ?_⟩,h3⟩
 ·have:=run_loadCells_list (P:=P) (w:=w) ⟨b,off,none⟩ vs h2;rw[hn,<-h1];exact this
 ·obtain⟨u,h4,h5⟩:=h3 i hi;exact⟨u,by simpa using h4,h5⟩
def loadC_ok{P:Program}{t:TypeId}{i:JD}(ht:tinf P t=some i){O:Map}{w:World}{b off:Nat}{cs:List Cell}(h:WI O w b off cs){x:AV}(hx:ZH i cs=some x):
  ∃v,(Instr.loadAt t (.pointer (some ⟨b,off,none⟩))).run P w=.ok v w/\VR O w x v:=by
 unfold ZH at hx;have ha:=tinf_agg ht w;have hz:=J6 ht w
 cases hagg:i.isAgg with
 |true=>
  simp only[hagg,Aq]at hx;split at hx
  ·rename_i hle;injection hx with hx;subst hx;obtain⟨vs,h1,h2,h3,_⟩:=(h.take i.size).loadCells P (n:=i.size) (by simp;omega);rw[hagg]at ha;exact⟨.agg vs.toArray,by simp[Instr.loadAt,Instr.sureAddr,loadVar,ha,hz,h2],h3⟩
  ·cases hx
 |false=>
  simp only[hagg]at hx;rw[hagg]at ha
  cases cs with
  |nil=>simp at hx
  |cons c cs=>simp only[Ab,Al,Kn]at hx;subst hx;obtain⟨v,h1,h2⟩:=h 0 (by simp);exact⟨v,by simp only[BK]at h1;simp[Instr.loadAt,Instr.sureAddr,loadVar,ha,h1],h2⟩
def HR.ref{O:Map}{M:QA}{w:World}(h:HR O M w){r:Ref}{o:Obj}(ho:M.at? r=some o){ok:Jv->Prop}(hr:JU O r ok):
  ∃s,O r.id=some s/\M[r.id]? =some o/\o.ep=r.ep/\OR O w o s/\ok s:=by
 unfold QA.at? at ho
 cases h1:M[r.id]? with
 |none=>simp[h1]at ho
 |some o'=>
  simp only[h1]at ho;split at ho
  ·rename_i hep;injection ho with ho;subst ho;obtain⟨s,h2,h3,h4⟩:=hr;obtain⟨o'',h5,h6⟩:=h.obj _ _ h2;rw[h1]at h5;injection h5 with h5;subst h5;exact⟨s,h2,rfl,hep,h6,h4 (by rw[<-hep];exact h6.2.1)⟩
  ·cases ho
def OR.row{O:Map}{w:World}{o:Obj}{s:Jv}{l:Loc}(h:OR O w o s)(hl:s.loc=some l):WI O w l.blk l.sh o.cs:=by obtain⟨_,_,h3⟩:=h;rw[hl]at h3;exact h3.2.2
def WY{O:Map}{w:World}{cs:List T}{v:Value}(h:TR O.un w (.iptr cs) v):∃b off,v=.pointer (some ⟨b,off,none⟩)/\O.un b/\isRow w b/\WI O w b off (cs.map .t):=by
 cases h with
 |iptr cs b off f h1 h2 h3 h4=>refine⟨b,off,rfl,h1,h2,λi hi=>⟨f i,h3 i (by simpa using hi),?_⟩⟩;have:=h4 i (by simpa using hi);simpa [CR] using this
def loadE_ok{P:Program}{t:TypeId}{i:JD}(ht:tinf P t=some i){O:Map}{M:QA}{w:World}(h:HR O M w){a x:AV}{v:Value}(ha:VR O w a v)(hx:Zb M i a=some x):
  ∃u,(Instr.loadAt t v).run P w=.ok u w/\VR O w x u:=by
 unfold Zb at hx;split at hx
 ·rename_i r;split at hx
  ·rename_i o ho;obtain⟨ad,rfl,hr⟩:=ha;obtain⟨s,_,_,_,hor,l,hl,e⟩:=h.ref ho hr;injection e with e;subst e;have:=(hor.row hl).drop r.off;exact loadC_ok ht this hx
  ·cases hx
 ·rename_i cs;obtain⟨b,off,rfl,_,_,hrow⟩:=WY ha;exact loadC_ok ht hrow hx
 ·cases hx
end Go.Abs
namespace Go.Abs
variable [Gl]
def HR.lt{O:Map}{M:QA}{w:World}(h:HR O M w){id:Nat}{s:Jv}(hs:O id=some s):id<M.length:=by obtain⟨o,ho,_⟩:=h.obj _ _ hs;exact(AD.1 ho).1
def HR.blk_lt{O:Map}{M:QA}{w:World}(h:HR O M w){b:Nat}(hb:O.mapped b):b<w.heap.size:=by
 rcases hb with ⟨id,s,l,h1,h2,rfl⟩|hr
 ·obtain⟨o,_,_,_,h5⟩:=h.obj _ _ h1;rw[h2]at h5;obtain⟨⟨cells,elem,h6,_⟩,_⟩:=h5;exact(A8.1 h6).1
 ·exact(h.resRow _ hr).lt
def Step.same{O:Map}{M:QA}{w w':World}(hh:w'.heap=w.heap)(ho:w'.os=w.os)(hp:w'.output=w.output):Step O M w O M w' where
 len:=A5 _
 size:=by rw[hh];exact A5 _
 os:=ho
 out:=hp
 keep:=λ_ s h=>⟨s,h,A5 _,λ_=>rfl⟩
 none:=λ_ _ h=>h
 new:=λid s' l' h h'=>.inr ⟨id,s',l',h,h',rfl⟩
 res:=rfl
 ex:=rfl
 resKeep:=λb _=>by rw[hh]
 frame:=λb _ _=>by rw[hh]
def HR.same{O:Map}{M:QA}{w w':World}(h:HR O M w)(hh:w'.heap=w.heap)(ho:w'.os=w.os)(hp:w'.output=w.output):HR O M w' where
 obj:=λid s hs=>by obtain⟨o,h1,h2⟩:=h.obj id s hs;exact⟨o,h1,h2.congr (Step.same (O:=O) (M:=M) hh ho hp) (λl _=>by rw[hh])⟩
 inj:=h.inj
 resRow:=λb hb=>by obtain⟨c,e,fr,h1⟩:=h.resRow b hb;exact⟨c,e,fr,by rw[hh];exact h1⟩
 resNo:=h.resNo
def Map.push(O:Map)(n:Nat)(s:Jv):Map:=⟨λid=>if id=n then some s else O id,O.res,O.ex⟩
def Map.Qm(O:Map)(n:Nat)(s:Jv):O.push n s n=some s:=by simp[Map.push]
def Map.Qv(O:Map){n id:Nat}(s:Jv)(h:id≠n):O.push n s id=O id:=by simp[Map.push,h]
section push
variable {O:Map}{M:QA}{w w':World}{arr:Array Value}{e:TypeId}{o:Obj}
def Step.push(h:HR O M w)(hh:w'.heap=w.heap.push (.cells arr e))(ho:w'.os=w.os)(hp:w'.output=w.output)(s:Jv)(hs:∀l,s.loc=some l->l.blk=w.heap.size):
  Step O M w (O.push M.length s) (M++[o]) w' where
 len:=by simp
 size:=by rw[hh];simp
 os:=ho
 out:=hp
 keep:=λid s' hs'=>⟨s',by rw[Map.Qv _ _ (Bx (h.lt hs'))];exact hs',A5 _,λ_=>rfl⟩
 none:=λid hid hn=>by rw[Map.Qv _ _ (Bx hid)];exact hn
 new:=λid s' l' h1 h2=>by
  by_cases e:id=M.length
  ·subst e;rw[Map.Qm]at h1;injection h1 with h1;subst h1;exact .inl (by rw[hs _ h2];exact A5 _)
  ·rw[Map.Qv _ _ e]at h1;exact .inr ⟨id,s',l',h1,h2,rfl⟩
 res:=rfl
 ex:=rfl
 resKeep:=λb hb=>by rw[hh];simp[Ba,Bx (h.resRow b hb).lt]
 frame:=λb hb _=>by rw[hh];simp[Ba,Bx hb]
def HR.push(h:HR O M w)(hh:w'.heap=w.heap.push (.cells arr e))(ho:w'.os=w.os)(hp:w'.output=w.output)(hep:o.ep=0)(hlen:o.cs.length<=arr.size)
  (hc:∀i (hi:i<o.cs.length),∃v,arr[i]? =some v/\CR O w o.cs[i] v):
  Step O M w (O.push M.length ⟨some ⟨w.heap.size,0,arr.size⟩,o.es,0⟩) (M++[o]) w'/\HR (O.push M.length ⟨some ⟨w.heap.size,0,arr.size⟩,o.es,0⟩) (M++[o]) w':=by
 have hs:Step O M w (O.push M.length ⟨some ⟨w.heap.size,0,arr.size⟩,o.es,0⟩) (M++[o]) w':=Step.push h hh ho hp _ (λl hl=>by injection hl with hl;rw[<-hl]);have hnew:w'.heap[w.heap.size]? =some (.cells arr e):=by rw[hh];simp
 refine⟨hs,⟨λid s h1=> ?_,λid id' s s' l l' h1 h2 h3 h4 h5=> ?_,λb hb=> ?_,λid s l h1 h2 hr=> ?_⟩⟩
 ·by_cases e1:id=M.length
  ·subst e1;rw[Map.Qm]at h1;injection h1 with h1;subst h1;refine⟨o,by simp,rfl,hep,⟨⟨arr,e,hnew,by simp⟩,hlen,λi hi=> ?_⟩⟩;obtain⟨v,h2,h3⟩:=hc i hi;exact⟨v,by simp[World.cell?,hnew,h2],h3.step hs⟩
  ·rw[Map.Qv _ _ e1]at h1;obtain⟨o',h2,h3⟩:=h.obj id s h1;refine⟨o',by rw[AL (h.lt h1)];exact h2,h3.congr hs (λl hl=> ?_)⟩;have hb:l.blk<w.heap.size:=h.blk_lt (.inl ⟨id,s,l,h1,hl,rfl⟩);rw[hh];simp[Ba,Bx hb]
 ·by_cases e1:id=M.length
  ·by_cases e2:id'=M.length
   ·omega
   ·subst e1;rw[Map.Qm]at h1;rw[Map.Qv _ _ e2]at h2;injection h1 with h1;subst h1;injection h3 with h3;have:=h.blk_lt (.inl ⟨id',s',l',h2,h4,rfl⟩);rw[<-h5,<-h3]at this;exact absurd this (Nat.lt_irrefl _)
  ·by_cases e2:id'=M.length
   ·subst e2;rw[Map.Qm]at h2;rw[Map.Qv _ _ e1]at h1;injection h2 with h2;subst h2;injection h4 with h4;have:=h.blk_lt (.inl ⟨id,s,l,h1,h3,rfl⟩);rw[h5,<-h4]at this;exact absurd this (Nat.lt_irrefl _)
   ·rw[Map.Qv _ _ e1]at h1;rw[Map.Qv _ _ e2]at h2;exact h.inj id id' s s' l l' h1 h2 h3 h4 h5
 ·obtain⟨c,e,fr,h1⟩:=h.resRow b hb;exact⟨c,e,fr,by rw[hs.resKeep b hb];exact h1⟩
 ·by_cases e1:id=M.length
  ·subst e1;rw[Map.Qm]at h1;injection h1 with h1;subst h1;injection h2 with h2;have:=(h.resRow _ hr).lt;rw[<-h2]at this;exact absurd this (Nat.lt_irrefl _)
  ·rw[Map.Qv _ _ e1]at h1;exact h.resNo id s l h1 h2 hr
end push
section upd
variable {O:Map}{M:QA}{w w':World}{id:Nat}{s s':Jv}{o':Obj}
def Step.upd(h:HR O M w)(hid:O id=some s)(hep:s.ep<=s'.ep)(hes:s.ep=s'.ep->s'=s)(hsz:w.heap.size<=w'.heap.size)(ho:w'.os=w.os)(hp:w'.output=w.output)
  (hloc:∀l',s'.loc=some l'->w.heap.size<=l'.blk\/O.byId l'.blk)
  (hfr:∀b,b<w.heap.size->(∀l,s.loc=some l->l.blk≠b)->w'.heap[b]? =w.heap[b]?):
  Step O M w (O.push id s') (M.set id o') w' where
 len:=by simp
 size:=hsz
 os:=ho
 out:=hp
 keep:=λid' s'' hs''=>by
  by_cases e:id'=id
  ·subst e;rw[hid]at hs'';injection hs'' with hs'';subst hs'';exact⟨s',Map.Qm _ _ _,hep,hes⟩
  ·exact⟨s'',by rw[Map.Qv _ _ e];exact hs'',A5 _,λ_=>rfl⟩
 none:=λid' _ hn=>by have e:id'≠id:=(by intro e;subst e;rw[hid]at hn;cases hn);rw[Map.Qv _ _ e];exact hn
 new:=λid' s'' l' h1 h2=>by
  by_cases e:id'=id
  ·subst e;rw[Map.Qm]at h1;injection h1 with h1;subst h1;exact hloc l' h2
  ·rw[Map.Qv _ _ e]at h1;exact .inr ⟨id',s'',l',h1,h2,rfl⟩
 res:=rfl
 ex:=rfl
 resKeep:=λb hb=>hfr b (h.resRow b hb).lt (λl hl e=>h.resNo id s l hid hl (e▸hb))
 frame:=λb hb hu=>hfr b hb (λl hl e=>hu (.inl ⟨id,s,l,hid,hl,e⟩))
def HR.upd(h:HR O M w)(hid:O id=some s)(hst:Step O M w (O.push id s') (M.set id o') w')
  (hfr:∀b,b<w.heap.size->(∀l,s.loc=some l->l.blk≠b)->w'.heap[b]? =w.heap[b]?)
  (hloc:∀l',s'.loc=some l'->w.heap.size<=l'.blk\/∃l,s.loc=some l/\l.blk=l'.blk)
  (hor:OR (O.push id s') w' o' s'):HR (O.push id s') (M.set id o') w' where
 obj:=λid' s'' h1=>by
  by_cases e:id'=id
  ·subst e;rw[Map.Qm]at h1;injection h1 with h1;subst h1;exact⟨o',by simp[h.lt hid],hor⟩
  ·rw[Map.Qv _ _ e]at h1;obtain⟨o,h2,h3⟩:=h.obj id' s'' h1;refine⟨o,by rw[Bm (λx=>e x.symm)];exact h2,h3.congr hst (λl hl=> ?_)⟩;exact hfr _ (h.blk_lt (.inl ⟨id',s'',l,h1,hl,rfl⟩)) (λl0 hl0 e0=>e (h.inj id' id s'' s l l0 h1 hid hl hl0 e0.symm))
 inj:=λi1 i2 s1 s2 l1 l2 h1 h2 h3 h4 h5=>by
  by_cases e1:i1=id
  ·by_cases e2:i2=id
   ·omega
   ·subst e1;rw[Map.Qm]at h1;rw[Map.Qv _ _ e2]at h2;injection h1 with h1;subst h1;rcases hloc l1 h3 with h6|⟨l,h6,h7⟩
    ·have:=h.blk_lt (.inl ⟨i2,s2,l2,h2,h4,rfl⟩);omega
    ·exact h.inj i1 i2 s s2 l l2 hid h2 h6 h4 (h7.trans h5)
  ·by_cases e2:i2=id
   ·subst e2;rw[Map.Qm]at h2;rw[Map.Qv _ _ e1]at h1;injection h2 with h2;subst h2;rcases hloc l2 h4 with h6|⟨l,h6,h7⟩
    ·have:=h.blk_lt (.inl ⟨i1,s1,l1,h1,h3,rfl⟩);omega
    ·exact h.inj i1 i2 s1 s l1 l h1 hid h3 h6 (h5.trans h7.symm)
   ·rw[Map.Qv _ _ e1]at h1;rw[Map.Qv _ _ e2]at h2;exact h.inj i1 i2 s1 s2 l1 l2 h1 h2 h3 h4 h5
 resRow:=λb hb=>by obtain⟨c,e,fr,h1⟩:=h.resRow b hb;exact⟨c,e,fr,by rw[hst.resKeep b hb];exact h1⟩
 resNo:=λid' s'' l h1 h2 hr=>by
  by_cases e:id'=id
  ·subst e;rw[Map.Qm]at h1;injection h1 with h1;subst h1;rcases hloc l h2 with h3|⟨l0,h3,h4⟩
   ·have:=(h.resRow _ hr).lt;omega
   ·exact h.resNo id' s l0 hid h3 (h4▸hr)
  ·rw[Map.Qv _ _ e]at h1;exact h.resNo id' s'' l h1 h2 hr
end upd
def Map.push_self{O:Map}{id:Nat}{s:Jv}(h:O id=some s):O.push id s=O:=by
 obtain⟨f,q⟩:=O;unfold Map.push;congr 1;funext i;split
 ·rename_i e;subst e;exact h.symm
 ·rfl
def XG(cs:List Cell)(off:Nat)(xs:List Cell)(h:off+xs.length<=cs.length):(Qo cs off xs).length=cs.length:=by simp[Qo];omega
def splice_getElem?(cs:List Cell)(off:Nat)(xs:List Cell)(h:off+xs.length<=cs.length)(i:Nat):
  (Qo cs off xs)[i]? =if i<off then cs[i]? else if i<off+xs.length then xs[i - off]? else cs[i]? :=by
 unfold Qo;by_cases h1:i<off
 ·rw[AC h1,Ad,AL (by simp;omega),List.getElem?_take_of_lt h1]
 ·rw[AK h1,Ad,AU (by simp;omega)];have e:(List.take off cs).length=off:=(by simp;omega);rw[e];by_cases h2:i<off+xs.length
  ·rw[AC h2,AL (by omega)]
  ·rw[AK h2,AU (by omega),C7];congr 1;omega
def HR.write{O:Map}{M:QA}{w:World}(h:HR O M w){id:Nat}{s:Jv}{o:Obj}{l:Loc}(hid:O id=some s)(hl:s.loc=some l)(ho:M[id]? =some o)
  (P:Program) (off:Nat) (xs:List Cell) (vs:List Value) (hn:vs.length=xs.length) (hx:∀i (hi:i<xs.length),∃u,vs[i]? =some u/\CR O w xs[i] u)
  (hfit:off+xs.length<=o.cs.length):
  ∃w',(storeCells ⟨l.blk,l.sh+off,none⟩ vs).run P w=.ok () w'/\Step O M w O (M.set id { o with cs:=Qo o.cs off xs }) w'/\HR O (M.set id { o with cs:=Qo o.cs off xs }) w':=by
 obtain⟨o',ho',hor⟩:=h.obj _ _ hid;rw[ho]at ho';injection ho' with ho';subst ho';have hor0:=hor;obtain⟨h1,h2,h3⟩:=hor;rw[hl]at h3;obtain⟨⟨cells,elem,h4,h5⟩,h6,h7⟩:=h3;have hone:∀v∈vs,v.oneCell'=true:=λv hv=>by obtain⟨i,hi⟩:=List.getElem?_of_mem hv;have hlt:i<xs.length:=(by rw[<-hn];exact(AD.1 hi).1);obtain⟨u,h8,h9⟩:=hx i hlt;rw[hi]at h8;injection h8 with h8;subst h8;exact CR.Z2 h9
 have hrun:=run_storeCells_at P l.blk (l.sh+off) elem vs 0 cells w h4 (by omega) hone;simp only[BK]at hrun;refine⟨_,hrun,?_⟩;generalize hw':w.setRow l.blk (cells.toList.take (l.sh+off)++vs++cells.toList.drop (l.sh+off+vs.length)).toArray=w';have hnew:w'.heap[l.blk]? =some (.cells (cells.toList.take (l.sh+off)++vs++cells.toList.drop (l.sh+off+vs.length)).toArray elem (0,0)):=by rw[<-hw'];exact setRow_heap w l.blk cells _ elem _ h4
 have hfr:∀b,b<w.heap.size->(∀l',s.loc=some l'->l'.blk≠b)->w'.heap[b]? =w.heap[b]? :=λb _ hb=>by rw[<-hw'];simp only[World.setRow];rw[Array.getElem?_modify];simp[hb l hl]
 have hst0:Step O M w (O.push id s) (M.set id { o with cs:=Qo o.cs off xs }) w':=by
  refine Step.upd h hid (A5 _) (λ_=>rfl) ?_ ?_ ?_ (λl' hl'=>.inr ⟨id,s,l',hid,hl',rfl⟩) hfr
  ·rw[<-hw'];simp[World.setRow]
  ·rw[<-hw'];rfl
  ·rw[<-hw'];rfl
 have hsz:(cells.toList.take (l.sh+off)++vs++cells.toList.drop (l.sh+off+vs.length)).toArray.size=cells.size:=by simp;omega
 have hor':OR (O.push id s) w' { o with cs:=Qo o.cs off xs } s:=by
  refine⟨h1,h2,?_⟩;rw[hl];refine⟨⟨_,elem,hnew,by rw[hsz];exact h5⟩,by simp only[XG _ _ _ hfit];exact h6,λi hi=> ?_⟩;have hi':i<o.cs.length:=(by simpa [XG _ _ _ hfit] using hi);have hsp:=splice_getElem? o.cs off xs hfit i;have hget:(Qo o.cs off xs)[i]? =some ((Qo o.cs off xs)[i]'hi):=A4 hi;have hcell:∀v,(cells.toList.take (l.sh+off)++vs++cells.toList.drop (l.sh+off+vs.length))[l.sh+i]? =some v->w'.cell? ⟨l.blk,l.sh+i,none⟩=some v:=λv hv=>(by simp only[World.cell?,hnew];simpa using hv);have hold:w.cell? ⟨l.blk,l.sh+i,none⟩=cells[l.sh+i]? :=(by simp[World.cell?,h4]);by_cases c1:i<off
  ·rw[AC c1]at hsp;obtain⟨v,h8,h9⟩:=h7 i hi';refine⟨v,hcell v ?_,?_⟩
   ·rw[Ad,AL (by simp;omega),List.getElem?_take_of_lt (by omega)];rw[hold]at h8;simpa using h8
   ·have e:(Qo o.cs off xs)[i]'hi=o.cs[i]:=(by rw[hget,A4 hi']at hsp;injection hsp);simp only[e];exact h9.step hst0
  ·rw[AK c1]at hsp;by_cases c2:i<off+xs.length
   ·rw[AC c2]at hsp;have hi2:i - off<xs.length:=(by omega);obtain⟨u,h8,h9⟩:=hx (i - off) hi2;refine⟨u,hcell u ?_,?_⟩
    ·rw[Ad,AU (by simp;omega)];have e0:l.sh+i - (List.take (l.sh+off) cells.toList).length=i - off:=(by simp;omega);rw[e0,AL (by omega)];exact h8
    ·have e:(Qo o.cs off xs)[i]'hi=xs[i - off]:=(by rw[hget,A4 hi2]at hsp;injection hsp);simp only[e];exact h9.step hst0
   ·rw[AK c2]at hsp;obtain⟨v,h8,h9⟩:=h7 i hi';refine⟨v,hcell v ?_,?_⟩
    ·rw[Ad,AU (by simp;omega)];have e0:l.sh+i - (List.take (l.sh+off) cells.toList).length=i - off:=(by simp;omega);rw[e0,AU (by omega),C7];have e1:l.sh+off+vs.length+(i - off - vs.length)=l.sh+i:=(by omega);rw[e1];rw[hold]at h8;simpa using h8
    ·have e:(Qo o.cs off xs)[i]'hi=o.cs[i]:=(by rw[hget,A4 hi']at hsp;injection hsp);simp only[e];exact h9.step hst0
 have hH:=HR.upd h hid hst0 hfr (λl' hl'=>.inr ⟨l',hl',rfl⟩) hor';rw[Map.push_self hid]at hst0 hH;exact⟨hst0,hH⟩
end Go.Abs
namespace Go.Abs
variable [Gl]
section
variable {P:Program}{O:Map}{w:World}
def int_of{k:IntKind}{n:Int}{v:Value}(h:VR O w (.c (.t (.int k n))) v):v=.int k n:=by cases h;rfl
def ZR{s:List UInt8}{v:Value}(h:VR O w (.c (.t (.str s))) v):v=.string ⟨s.toArray⟩:=by cases h;rfl
def bool_of{b:Bool}{v:Value}(h:VR O w (.c (.t (.bool b))) v):v=.bool b:=by cases h;rfl
def Uo{v:Value}(h:VR O w (.c (.t .nilp)) v):v=.pointer none:=by cases h;rfl
def intE_ok{op:BinOp}{k:IntKind}{a b:Int}{t:T}(h:intE op k a b=some t)(hs:WX op=false)(xT:TypeId):
  ∃v,(binOp op xT (.int k a) (.int k b)).run P w=.ok v w/\TR O.un w t v:=by
 cases op<;>simp only[intE,WX]at h hs
 case add=>injection h with h;subst h;exact⟨_,by simp[binOp,Op.intArith],.int _ _⟩
 case sub=>injection h with h;subst h;exact⟨_,by simp[binOp,Op.intArith],.int _ _⟩
 case mul=>injection h with h;subst h;exact⟨_,by simp[binOp,Op.intArith],.int _ _⟩
 case quo=>
  split at h
  ·cases h
  ·rename_i h0;injection h with h;subst h;exact⟨_,by simp[binOp,Op.intDiv,h0],.int _ _⟩
 case rem=>
  split at h
  ·cases h
  ·rename_i h0;injection h with h;subst h;exact⟨_,by simp[binOp,Op.intDiv,h0],.int _ _⟩
 case and=>injection h with h;subst h;exact⟨_,by simp only[binOp];rw[AK (by simp)];rfl,.int _ _⟩
 case or=>injection h with h;subst h;exact⟨_,by simp only[binOp];rw[AK (by simp)];rfl,.int _ _⟩
 case xor=>injection h with h;subst h;exact⟨_,by simp only[binOp];rw[AK (by simp)];rfl,.int _ _⟩
 case andNot=>injection h with h;subst h;exact⟨_,by simp only[binOp];rw[AK (by simp)];rfl,.int _ _⟩
 case eql=>injection h with h;subst h;exact⟨_,by simp[binOp,Op.intCmp],.bool _⟩
 case neq=>injection h with h;subst h;exact⟨_,by simp[binOp,Op.intCmp],.bool _⟩
 case lss=>injection h with h;subst h;exact⟨_,by simp[binOp,Op.intCmp],.bool _⟩
 case leq=>injection h with h;subst h;exact⟨_,by simp[binOp,Op.intCmp],.bool _⟩
 case gtr=>injection h with h;subst h;exact⟨_,by simp[binOp,Op.intCmp],.bool _⟩
 case geq=>injection h with h;subst h;exact⟨_,by simp[binOp,Op.intCmp],.bool _⟩
 case shl=>cases hs
 case shr=>cases hs
def shiftE_ok{op:BinOp}{k k':IntKind}{a b:Int}{t:T}(h:V3 op k a b=some t)(xT:TypeId):
  ∃v,(binOp op xT (.int k a) (.int k' b)).run P w=.ok v w/\TR O.un w t v:=by
 unfold V3 at h;split at h
 ·cases h
 ·rename_i hb;cases op<;>simp only at h<;>first
   |(cases h;done)
   |(injection h with h;subst h;exact⟨_,by simp[binOp,Op.shift,hb],.int _ _⟩)
def bytes_beq(x y:List UInt8):((⟨x.toArray⟩:ByteArray).toList==(⟨y.toArray⟩:ByteArray).toList)=(x==y):=by
 have e:∀z:List UInt8,(⟨z.toArray⟩:ByteArray).toList=z:=λz=>by simp[ByteArray.toList_eq]
 rw[e,e]
def strE_ok{op:BinOp}{a b:List UInt8}{t:T}(h:strE op a b=some t)(xT:TypeId):
  ∃v,(binOp op xT (.string ⟨a.toArray⟩) (.string ⟨b.toArray⟩)).run P w=.ok v w/\TR O.un w t v:=by
 have sz:∀z:List UInt8,(⟨z.toArray⟩:ByteArray).size=z.length:=λz=>by simp[ByteArray.size]
 cases op<;>simp only[strE]at h
 case add=>
  split at h
  ·rename_i hl;injection h with h;subst h;refine⟨_,?_,.str _⟩;have:=run_string_add_sum (P:=P) w ⟨a.toArray⟩ ⟨b.toArray⟩ (by rw[sz,sz];exact hl);simp only[binOp];rw[this];congr 2
  ·cases h
 case eql=>injection h with h;subst h;exact⟨_,by simp[binOp,Op.stringOp,bytes_beq],.bool _⟩
 case neq=>injection h with h;subst h;exact⟨_,by simp[binOp,Op.stringOp,bytes_beq],.bool _⟩
 all_goals cases h
def Yy{op:BinOp}{a b:Bool}{t:T}(h:Wp op a b=some t){x y:Value}{xT:TypeId}(he:(Op.equal xT x y).run P w=.ok (a==b) w)
  (h1:binOp .eql xT x y=(do pure (.bool (<-Op.equal xT x y)))) (h2:binOp .neq xT x y=(do pure (.bool (!(<-Op.equal xT x y))))):
  ∃v,(binOp op xT x y).run P w=.ok v w/\TR O.un w t v:=by
 cases op<;>simp only[Wp]at h<;>first
  |(cases h;done)
  |(injection h with h;subst h;exact⟨_,by rw[h1];simp[he],.bool _⟩)
  |(injection h with h;subst h;exact⟨_,by rw[h2];simp[he],.bool _⟩)
def equal_bool{xT:TypeId}{i:JD}(ht:tinf P xT=some i)(hk:i.kind=.bool)(a b:Bool):(Op.equal xT (.bool a) (.bool b)).run P w=.ok (a==b) w:=by
 obtain⟨d,h1,h2,_⟩:=Jl ht w;rw[hk]at h2;cases d<;>simp[kindOf]at h2;have e:∀d,(Op.equalIn (d+1) xT (.bool a) (.bool b)).run P w=.ok (a==b) w:=λd=>by simp[Op.equalIn,h1]
 exact e 9999
def kind_ptr{xT:TypeId}{i:JD}(ht:tinf P xT=some i){e:TypeId}(hk:i.kind=.ptr e):P.underlying xT=some (.pointer e):=by obtain⟨d,h1,h2,h3⟩:=Jl ht (default:World);rw[hk]at h2;cases d<;>simp[kindOf]at h2;subst h2;exact h3
def UI{xT e:TypeId}{i:JD}(ht:tinf P xT=some i)(hk:i.kind=.ptr e)(p:Option Addr):(Op.equal xT (.pointer p) (.pointer none)).run P w=.ok p.isNone w:=by
 have h:=kind_ptr ht hk;have e':∀d,(Op.equalIn (d+1) xT (.pointer p) (.pointer none)).run P w=.ok p.isNone w:=λd=>by cases p<;>simp[Op.equalIn,AZ h]
 exact e' 9999
def VL{t:TypeId}{j:JD}(hj:tinf P t=some j){cs:List Cell}{off:Nat}{y:AV}(h:KN j cs off=some y){arr:Array Value}(hn:arr.size=cs.length)
  (hc:∀i (hi:i<cs.length),∃u,arr[i]? =some u/\CR O w cs[i] u):∃z,(part t arr off).run P w=.ok z w/\VR O w y z:=by
 unfold KN at h;have ha:=tinf_agg hj w;have hz:=J6 hj w
 cases hagg:j.isAgg with
 |true=>
  rw[hagg]at ha h;simp only[Aq]at h;split at h
  ·rename_i hle;injection h with h;subst h;refine⟨_,by simp[part,ha,hz];rfl,_,rfl,by simp;omega,λi hi=> ?_⟩;have hi':i<j.size:=(by simp at hi;omega);obtain⟨u,h1,h2⟩:=hc (off+i) (by omega);refine⟨u,?_,by simpa using h2⟩;rw[<-h1];simp[Array.getElem?_extract,hi'];intro hge;omega
  ·cases h
 |false=>
  rw[hagg]at ha h;simp only[Ab,Al]at h;split at h
  ·rename_i c hco;injection h with h;subst h;have hlt:off<cs.length:=(AD.1 hco).1;obtain⟨u,h1,h2⟩:=hc off hlt;refine⟨u,by simp[part,ha,h1],?_⟩;have e:cs[off]=c:=(by rw[A4 hlt]at hco;injection hco);rw[e]at h2;exact h2
  ·cases h
def YE:∀{ks:List EK} {xs ys:List Cell} {c:Bool},Xq ks xs ys=some c->xs.length=ks.length/\ys.length=ks.length
 |[],[],[],_,_=>⟨rfl,rfl⟩
 |[],[],_::_,_,h=>by cases h
 |[],_::_,_,_,h=>by cases h
 |_::_,[],_,_,h=>by cases h
 |_::_,_::_,[],_,h=>by cases h
 |k::ks,x::xs,y::ys,c,h=>by
  simp only[Xq]at h;split at h
  ·rename_i a b h1 h2;obtain⟨h3,h4⟩:=YE h2;exact⟨by simp[h3],by simp[h4]⟩
  ·cases h
def eqAll_app:∀{k1 k2:List EK} {xs ys:List Cell} {c:Bool},Xq (k1++k2) xs ys=some c->∃a b,Xq k1 (xs.take k1.length) (ys.take k1.length)=some a/\Xq k2 (xs.drop k1.length) (ys.drop k1.length)=some b/\c=(a&&b)
 |[],k2,xs,ys,c,h=>⟨true,c,by simp[Xq],by simpa using h,by simp⟩
 |k::k1,k2,[],ys,c,h=>by cases h
 |k::k1,k2,x::xs,[],c,h=>by cases h
 |k::k1,k2,x::xs,y::ys,c,h=>by
  simp only[CT,Xq]at h;split at h
  ·rename_i a b h1 h2;injection h with h;obtain⟨a',b',h3,h4,h5⟩:=eqAll_app h2;refine⟨a&&a',b',?_,by simpa using h4,by rw[<-h,h5,Bool.and_assoc]⟩;simp only[As,List.take_succ_cons,Xq,h1,h3]
  ·cases h
def eqAV(ks:List EK):AV->AV->Option Bool
 |.c a,.c b=>Xq ks [a] [b]
 |.agg as,.agg bs=>Xq ks as bs
 |_,_=>none
def okAV(P:Program)(t:TypeId):AV->Prop
 |.c _=>∃i,tinf P t=some i/\i.isAgg=false
 |.agg xs=>∃i,tinf P t=some i/\i.isAgg=true/\xs.length=i.size
 |.tup _=>False
def ekU(P:Program)(t:TypeId):EK->Prop
 |.bool=>P.underlying t=some .bool
 |.int=>∃k',P.underlying t=some (.int k')
 |.str=>P.underlying t=some .string
def cellEq_run{O:Map}{w:World}{P:Program}{t:TypeId}{k:EK}{a b:Cell}{c:Bool}(h:Yx k a b=some c){u v:Value}(hx:CR O w a u)(hy:CR O w b v)(D:Nat)(hu:ekU P t k):
  (Op.equalIn (D+1) t u v).run P w=.ok c w:=by
 have none_of:∀{k a b},Yx k a b=none->Yx k a b=some c->False:=λe e'=>by rw[e]at e';cases e'
 cases k with
 |bool=>
  cases a with
  |t a=>
   cases a with
   |bool a=>
    cases b with
    |t b=>
     cases b with
     |bool b=>have h:some (a==b)=some c:=h;injection h with h;obtain rfl:=bool_of hx;obtain rfl:=bool_of hy;have hu:P.underlying t=some .bool:=hu;rw[<-h];simp[Op.equalIn,AZ hu]
     |_=>exact(none_of rfl h).elim
    |_=>exact(none_of rfl h).elim
   |_=>exact(none_of rfl h).elim
  |_=>exact(none_of rfl h).elim
 |int=>
  cases a with
  |t a=>
   cases a with
   |int k a=>
    cases b with
    |t b=>
     cases b with
     |int k' b=>
      by_cases hk:k=k'
      ·subst hk;have h2:some (a==b)=some c:=(by simpa [Yx] using h);injection h2 with h2;obtain rfl:=int_of hx;obtain rfl:=int_of hy;obtain⟨k',hu⟩:=(show∃k',P.underlying t=some (.int k') from hu);rw[<-h2];simp[Op.equalIn,AZ hu]
      ·exact(none_of (by simp[Yx,hk]) h).elim
     |_=>exact(none_of rfl h).elim
    |_=>exact(none_of rfl h).elim
   |_=>exact(none_of rfl h).elim
  |_=>exact(none_of rfl h).elim
 |str=>
  cases a with
  |t a=>
   cases a with
   |str a=>
    cases b with
    |t b=>
     cases b with
     |str b=>have h:some (a==b)=some c:=h;injection h with h;obtain rfl:=ZR hx;obtain rfl:=ZR hy;have hu:P.underlying t=some .string:=hu;rw[<-h,run_equalIn_string w D t _ _ hu,bytes_beq]
     |_=>exact(none_of rfl h).elim
    |_=>exact(none_of rfl h).elim
   |_=>exact(none_of rfl h).elim
  |_=>exact(none_of rfl h).elim
def eqKs_one{P:Program}{d:Nat}{t:TypeId}{k:EK}(h:eqKs P (d+1) t=some [k]){x:AV}(hx:okAV P t x)(hs:∀fs,P.underlying t≠some (.struct fs)):∃c,x=.c c:=by
 cases x with
 |c c=>exact⟨c,rfl⟩
 |tup _=>exact hx.elim
 |agg xs=>obtain⟨i,h1,h2,_⟩:=hx;obtain⟨d',h3,h4,h5⟩:=Jl h1 (default:World);simp only[JD.isAgg,h4]at h2;simp only[eqKs,h5]at h;cases d'<;>simp[kindOf]at h2 h;exact absurd h5 (hs _)
def Kv{O:Map}{w:World}{P:Program}:∀(d:Nat) (t:TypeId) (ks:List EK),eqKs P d t=some ks->∀D,d<=D->∀(x y:AV) (c:Bool) (u v:Value),eqAV ks x y=some c->okAV P t x->okAV P t y->VR O w x u->VR O w y v->(Op.equalIn D t u v).run P w=.ok c w
 |0,t,ks,h,_,_,_,_,_,_,_,_,_,_,_,_=>by cases h
 |d+1,t,ks,h,D,hD,x,y,c,u,v,he,hx,hy,hu,hv=>by
  obtain⟨D,rfl⟩:∃D',D=D'+1:=⟨D - 1,by omega⟩;have scal:∀k,ks=[k]->(∀fs,P.underlying t≠some (.struct fs))->ekU P t k->(Op.equalIn (D+1) t u v).run P w=.ok c w:=λk hk hs hun=>by
   subst hk;obtain⟨a,rfl⟩:=eqKs_one h hx hs;obtain⟨b,rfl⟩:=eqKs_one h hy hs;simp only[eqAV,Xq]at he;split at he
   ·rename_i x1 y1 h1 h2;injection h2 with h2;subst h2;injection he with he;rw[Bool.and_true]at he;subst he;exact cellEq_run h1 hu hv D hun
   ·cases he
  simp only[eqKs]at h;split at h
  ·rename_i hun _;injection h with h;exact scal _ h.symm (λfs e=>by rw[hun]at e;cases e) hun
  ·rename_i k _ hun _;injection h with h;exact scal _ h.symm (λfs e=>by rw[hun]at e;cases e) ⟨k,hun⟩
  ·rename_i hun _;injection h with h;exact scal _ h.symm (λfs e=>by rw[hun]at e;cases e) hun
  ·rename_i fs i hun hi;split at h
   ·cases h
   ·rename_i hst;split at h
    ·rename_i ks' hfs;split at h
     ·rename_i hlen;injection h with h;subst h;have hst:P.stoodInHeld t=false:=by simpa using hst
      -- both are many cells
      have agg:∀z,okAV P t z->∃zs,z=.agg zs:=λz hz=>by
       cases z with
       |agg zs=>exact⟨zs,rfl⟩
       |tup _=>exact hz.elim
       |c z=>obtain⟨j,h1,h2⟩:=hz;obtain⟨d',h3,h4,h5⟩:=Jl h1 (default:World);rw[hun]at h5;injection h5 with h5;subst h5;simp[JD.isAgg,h4,kindOf]at h2
      obtain⟨xs,rfl⟩:=agg x hx;obtain⟨ys,rfl⟩:=agg y hy;obtain⟨X,rfl,hX1,hX2⟩:=hu;obtain⟨Y,rfl,hY1,hY2⟩:=hv;have hff:P.fieldsOf t=fs:=(by simp[Program.fieldsOf,hun]);rw[run_equalIn_struct w D t X Y (by rw[hff];exact hun) hst,hff];have he:Xq ks' xs ys=some c:=he;obtain⟨l1,l2⟩:=YE he;have key:∀(fl:List Field) (acc:List EK) (rest:List EK),eqFs (eqKs P d) fl acc=some (acc++rest)->∀c,Xq rest (xs.drop acc.length) (ys.drop acc.length)=some c->acc.length+rest.length=ks'.length->(Op.eqFields D X Y fl).run P w=.ok c w:=by
       intro fl
       induction fl with
       |nil=>intro acc rest h1 c h2 h3;simp only[eqFs,Kn]at h1;have:rest=[]:=(by have:=congrArg List.length h1;simp at this;exact this);subst this;have:xs.drop acc.length=[]:=Bw.2 (by simp at h3;omega);rw[this]at h2;have:ys.drop acc.length=[]:=Bw.2 (by simp at h3;omega);rw[this]at h2;simp only[Xq,Kn]at h2;subst h2;rfl
       |cons f fl ih=>
        intro acc rest h1 c h2 h3;simp only[eqFs]at h1;split at h1
        ·rename_i hf;split at h1
         ·rename_i l hl;obtain⟨rest',hr⟩:∃rest',rest=l++rest':=(by have:=eqFs_pre fl h1;obtain⟨r,hr⟩:=this;rw[Ad]at hr;exact⟨r,List.append_cancel_left hr⟩);subst hr;rw[<-Ad]at h1;obtain⟨a,b,h4,h5,rfl⟩:=eqAll_app h2;rw[CA]at h5;rw[CA]at h5;obtain⟨j,hj,hjs⟩:=eqKs_tinf hl;have hoff:f.offset=acc.length:=hf.2;have hx4:=(YE h4).1;have hy4:=(YE h4).2;have hin:acc.length+l.length<=ks'.length:=(by simp only[AG]at h3;omega);have fld:∀(zs:List Cell) (Z:Array Value),zs.length=ks'.length->Z.size=zs.length->(∀i (hi:i<zs.length),∃u,Z[i]? =some u/\CR O w zs[i] u)->∃z u,okAV P f.type z/\(part f.type Z f.offset).run P w=.ok u w/\VR O w z u/\(match z with|.c q=>(zs.drop acc.length).take l.length=[q]|.agg q=>(zs.drop acc.length).take l.length=q|.tup _=>False):=λzs Z hz hZ hc=>by
           have hpart:∃z,KN j zs f.offset=some z/\okAV P f.type z/\(match z with|.c q=>(zs.drop acc.length).take l.length=[q]|.agg q=>(zs.drop acc.length).take l.length=q|.tup _=>False):=by
            unfold KN;rw[hoff]
            cases hag:j.isAgg with
            |true=>rw[hag]at hjs;simp only[Aq]at hjs⊢;rw[AC (by omega),hjs];exact⟨_,rfl,⟨j,hj,hag,by rw[B6,CO,hjs];omega⟩,rfl⟩
            |false=>rw[hag]at hjs;simp only[Ab,Al]at hjs⊢;have hlt:acc.length<zs.length:=(by omega);rw[A4 hlt];refine⟨_,rfl,⟨j,hj,hag⟩,?_⟩;simp only;rw[hjs,Cl hlt];rfl
           obtain⟨z,h6,h7,h8⟩:=hpart;obtain⟨u,h9,h10⟩:=VL hj h6 hZ hc;exact⟨z,u,h7,h9,h10,h8⟩
          obtain⟨z1,u1,p1,p2,p3,p4⟩:=fld xs X l1 hX1 hX2;obtain⟨z2,u2,q1,q2,q3,q4⟩:=fld ys Y l2 hY1 hY2;have heq:eqAV l z1 z2=some a:=by
           cases z1 with
           |c z1=>cases z2 with
            |c z2=>rw[p4,q4]at h4;exact h4
            |agg z2=>obtain⟨j1,e1,e2⟩:=p1;obtain⟨j2,e3,e4,_⟩:=q1;rw[e1]at e3;injection e3 with e3;subst e3;rw[e2]at e4;cases e4
            |tup _=>exact q1.elim
           |agg z1=>cases z2 with
            |agg z2=>rw[p4,q4]at h4;exact h4
            |c z2=>obtain⟨j1,e1,e2⟩:=q1;obtain⟨j2,e3,e4,_⟩:=p1;rw[e1]at e3;injection e3 with e3;subst e3;rw[e2]at e4;cases e4
            |tup _=>exact q1.elim
           |tup _=>exact p1.elim
          have hrec:=Kv d f.type l hl D (by omega) z1 z2 a u1 u2 heq p1 q1 p3 q3;simp only[Op.eqFields,AC hf.1,AR,p2,q2,hrec,AX];have ih':=ih (acc++l) rest' h1 b (by rw[AG];exact h5) (by simp only[AG]at h3⊢;omega)
          cases a with
          |true=>simp only[Cb,Ab,Al,Bool.true_and];exact ih'
          |false=>simp
         ·cases h1
        ·cases h1
      exact key fs.toList [] ks' (by simpa using hfs) c (by simpa using he) (by simp)
     ·cases h
    ·cases h
  ·cases h
where
 eqFs_pre {rec:TypeId->Option (List EK)}:∀(fl:List Field) {acc out:List EK},eqFs rec fl acc=some out->∃r,out=acc++r
  |[],acc,out,h=>by simp only[eqFs,Kn]at h;exact⟨[],by simp[h]⟩
  |f::fl,acc,out,h=>by
   simp only[eqFs]at h;split at h
   ·split at h
    ·rename_i l _;obtain⟨r,hr⟩:=eqFs_pre fl h;exact⟨l++r,by rw[hr,Ad]⟩
    ·cases h
   ·cases h
 eqKs_tinf {d:Nat} {t:TypeId} {ks:List EK} (h:eqKs P d t=some ks):∃j,tinf P t=some j/\(if j.isAgg then j.size=ks.length else ks.length=1):=by
  cases d with
  |zero=>cases h
  |succ d=>
   simp only[eqKs]at h;split at h
   ·rename_i hu hi;injection h with h;exact⟨_,by unfold tinf;rw[hu,hi],by simp[JD.isAgg,kindOf,<-h]⟩
   ·rename_i hu hi;injection h with h;exact⟨_,by unfold tinf;rw[hu,hi],by simp[JD.isAgg,kindOf,<-h]⟩
   ·rename_i hu hi;injection h with h;exact⟨_,by unfold tinf;rw[hu,hi],by simp[JD.isAgg,kindOf,<-h]⟩
   ·rename_i hu hi;split at h
    ·cases h
    ·split at h
     ·split at h
      ·rename_i hl;injection h with h;exact⟨_,by unfold tinf;rw[hu,hi],by simp[JD.isAgg,kindOf,<-h,hl]⟩
      ·cases h
     ·cases h
   ·cases h
def binE_ok{op:BinOp}{xT:TypeId}{x y:AV}{t:T}(h:binE P op xT x y=some t){u v:Value}(hx:VR O w x u)(hy:VR O w y v)(xo yo:Operand):
  ∃z,(do eqGuard op xT xo yo u v;binOp op xT u v).run P w=.ok z w/\TR O.un w t z:=by
 unfold binE at h;split at h
 ·rename_i k a k' b;obtain rfl:=int_of hx;obtain rfl:=int_of hy;have hg:(eqGuard op xT xo yo (.int k a) (.int k' b)).run P w=.ok () w:=(by unfold eqGuard;cases op<;>simp);simp only[AR,hg,AX]
  cases hs:WX op with
  |true=>rw[hs]at h;exact shiftE_ok h xT
  |false=>
   rw[hs]at h;simp only[Ab,Al]at h;split at h
   ·rename_i hk;subst hk;exact intE_ok h hs xT
   ·cases h
 ·rename_i a b;obtain rfl:=ZR hx;obtain rfl:=ZR hy;have hg:(eqGuard op xT xo yo (.string ⟨a.toArray⟩) (.string ⟨b.toArray⟩)).run P w=.ok () w:=(by unfold eqGuard;cases op<;>simp);simp only[AR,hg,AX];exact strE_ok h xT
 ·rename_i a b;obtain rfl:=bool_of hx;obtain rfl:=bool_of hy;have hg:(eqGuard op xT xo yo (.bool a) (.bool b)).run P w=.ok () w:=(by unfold eqGuard;cases op<;>simp);simp only[AR,hg,AX];split at h
  ·rename_i i hi;split at h
   ·rename_i hk;exact Yy h (equal_bool hi hk a b) rfl rfl
   ·cases h
  ·cases h
 ·obtain rfl:=Uo hy;obtain⟨p,rfl,s,_,_,hok⟩:=hx;have hg:∀p',(eqGuard op xT xo yo (.pointer p') (.pointer none)).run P w=.ok () w:=λp'=>(by unfold eqGuard;cases op<;>simp);simp only[AR,hg,AX];rename_i r;split at h
  ·rename_i i hi;split at h
   ·rename_i e hk;exact Yy h (UI hi hk _) rfl rfl
   ·cases h
  ·cases h
 ·rename_i cs;obtain rfl:=Uo hy;obtain⟨b,off,rfl,_⟩:=WY hx;have hg:∀p',(eqGuard op xT xo yo (.pointer p') (.pointer none)).run P w=.ok () w:=λp'=>(by unfold eqGuard;cases op<;>simp);simp only[AR,hg,AX];split at h
  ·rename_i i hi;split at h
   ·rename_i e hk;exact Yy h (UI hi hk _) rfl rfl
   ·cases h
  ·cases h
 ·obtain rfl:=Uo hx;obtain rfl:=Uo hy;have hg:∀p',(eqGuard op xT xo yo (.pointer p') (.pointer none)).run P w=.ok () w:=λp'=>(by unfold eqGuard;cases op<;>simp);simp only[AR,hg,AX];split at h
  ·rename_i i hi;split at h
   ·rename_i e hk;exact Yy h (UI hi hk _) rfl rfl
   ·cases h
  ·cases h
 ·rename_i xs ys;split at h
  ·rename_i i hi;split at h
   ·rename_i ks hks;split at h
    ·rename_i c hc;obtain⟨d,inf,h1,h2,h3,h4,h5,h6,h7⟩:=WG hi;rw[hks]at h7
     cases d with
     |struct fs=>
      simp only[eqTop]at h7;split at h7
      ·cases h7
      ·rename_i hgt;have hgt:P.eqGuardType P.depth xT=false:=(by simpa using hgt);obtain⟨X,rfl,hX⟩:=hx;obtain⟨Y,rfl,hY⟩:=hy;have hg:(eqGuard op xT xo yo (.agg X) (.agg Y)).run P w=.ok () w:=(by unfold eqGuard;cases op<;>simp[hgt]);simp only[AR,hg,AX];have hag:i.isAgg=true:=(by simp[JD.isAgg,h3,kindOf]);obtain⟨l1,l2⟩:=YE hc;obtain⟨j,e1,e2⟩:=Kv.eqKs_tinf (P:=P) h7.symm;rw[hi]at e1;injection e1 with e1;subst e1;rw[AC hag]at e2;have he:(Op.equal xT (.agg X) (.agg Y)).run P w=.ok (c==true) w:=(by have:=Kv (O:=O) (w:=w) 6 xT ks h7.symm 10000 (by decide) (.agg xs) (.agg ys) c (.agg X) (.agg Y) hc ⟨i,hi,hag,by omega⟩ ⟨i,hi,hag,by omega⟩ ⟨X,rfl,hX⟩ ⟨Y,rfl,hY⟩;rw[show(c==true)=c by cases c<;>rfl];exact this);exact Yy h he rfl rfl
     |_=>simp[eqTop]at h7
    ·cases h
   ·cases h
  ·cases h
 ·cases h
end
end Go.Abs
namespace Go.Abs
variable [Gl]
section
variable {P:Program}{O:Map}{M:QA}{w:World}
def unE_ok{op:UnOp}{x:AV}{t:T}(h:unE op x=some t){u:Value}(hx:VR O w x u):∃z,(Op.unary op u).run P w=.ok z w/\TR O.un w t z:=by
 unfold unE at h;split at h
 ·rename_i b;obtain rfl:=bool_of hx;injection h with h;subst h;exact⟨_,by simp[Op.unary],.bool _⟩
 ·rename_i k n;obtain rfl:=int_of hx;injection h with h;subst h;exact⟨_,by simp[Op.unary,Op.intArith],.int _ _⟩
 ·rename_i k n;obtain rfl:=int_of hx;simp only[intE]at h;injection h with h;subst h;exact⟨_,by simp only[Op.unary];rfl,.int _ _⟩
 ·cases h
def kind_int{xT:TypeId}{i:JD}(ht:tinf P xT=some i){k:IntKind}(hk:i.kind=.int k):P.underlying xT=some (.int k):=by obtain⟨d,h1,h2,h3⟩:=Jl ht (default:World);rw[hk]at h2;cases d<;>simp[kindOf]at h2;subst h2;exact h3
def Xd{xT:TypeId}{i:JD}(ht:tinf P xT=some i)(hk:i.kind=.string):P.underlying xT=some .string:=by obtain⟨d,h1,h2,h3⟩:=Jl ht (default:World);rw[hk]at h2;cases d<;>simp[kindOf]at h2;exact h3
def JK{xT:TypeId}{i:JD}(ht:tinf P xT=some i){e:TypeId}(hk:i.kind=.slice e):P.underlying xT=some (.slice e):=by obtain⟨d,h1,h2,h3⟩:=Jl ht (default:World);rw[hk]at h2;cases d<;>simp[kindOf]at h2;subst h2;exact h3
def YQ{xT:TypeId}{i:JD}(ht:tinf P xT=some i){n:Nat}{e:TypeId}(hk:i.kind=.array n e):P.underlying xT=some (.array n e):=by obtain⟨d,h1,h2,h3⟩:=Jl ht (default:World);rw[hk]at h2;cases d<;>simp[kindOf]at h2;obtain⟨rfl,rfl⟩:=h2;exact h3
def Yr{xT:TypeId}{i:JD}(ht:tinf P xT=some i){fs:List (Nat×TypeId)}(hk:i.kind=.struct fs):
  ∃gs:Array Field,P.underlying xT=some (.struct gs)/\fs=gs.toList.map λf=>(f.offset,f.type):=by
 obtain⟨d,h1,h2,h3⟩:=Jl ht (default:World);rw[hk]at h2;cases d<;>simp[kindOf]at h2;exact⟨_,h3,h2⟩
def convE_ok{src dst:TypeId}{x:AV}{t:T}(h:Vm P src dst x=some t){u:Value}(hx:VR O w x u):∃z,(convert src dst u).run P w=.ok z w/\TR O.un w t z:=by
 unfold Vm at h;split at h
 ·rename_i i j k n hi hj;obtain rfl:=int_of hx;split at h
  ·rename_i k' hk;injection h with h;subst h;obtain⟨d,h1,_,h3⟩:=Jl hi w;refine⟨_,?_,.int _ _⟩;simp[convert,AZ (kind_int hj hk),h1,Conv.intToInt]
  ·rename_i hk;injection h with h;subst h;obtain⟨d,h1,_,h3⟩:=Jl hi w;refine⟨_,?_,.str _⟩;simp[convert,AZ (Xd hj hk),h1,Conv.intToString,utf]
  ·cases h
 ·rename_i i j s hi hj;obtain rfl:=ZR hx;split at h
  ·rename_i hk;injection h with h;subst h;obtain⟨d,h1,_,h3⟩:=Jl hi w;refine⟨_,?_,.str _⟩;simp only[convert,AR,AZ (Xd hj hk),h1,AX];rfl
  ·cases h
 ·cases h
def Yt{x:AV}{n:Int}(h:intOfAV x=some n){u:Value}(hx:VR O w x u):∃k,u=.int k n:=by
 unfold intOfAV at h;split at h
 ·injection h with h;subst h;exact⟨_,int_of hx⟩
 ·cases h
def ptr_move{r:Ref}{v:Value}(h:VR O w (.c (.ptr r)) v):∃a:Addr,v=.pointer (some a)/\∀n,VR O w (.c (.ptr { r with off:=r.off+n })) (.pointer (some (a.add n))):=by obtain⟨a,rfl,s,h1,h2,h3⟩:=h;refine⟨a,rfl,λn=>⟨_,rfl,s,h1,h2,λhe=> ?_⟩⟩;obtain⟨l,hl,e⟩:=h3 he;injection e with e;refine⟨l,hl,?_⟩;rw[e,Y3,CJ]
def UA{cs:List T}{v:Value}(h:VR O w (.c (.t (.iptr cs))) v):∃a:Addr,v=.pointer (some a)/\∀n,VR O w (.c (.t (.iptr (cs.drop n)))) (.pointer (some (a.add n))):=by
 cases h with
 |iptr cs b off f h1 h2 h3 h4=>
  refine⟨_,rfl,λn=> ?_⟩;rw[Y3];refine TR.iptr _ _ _ (λi=>f (n+i)) h1 h2 (λi hi=> ?_) (λi hi=> ?_)
  ·rw[CJ];exact h3 (n+i) (by simp at hi;omega)
  ·have:=h4 (n+i) (by simp at hi;omega);simpa using this
def fieldAddrE_ok{t:TypeId}{x y:AV}{f:Nat}(h:Zg P t x f=some y){u:Value}(hx:VR O w x u):
  ∃z,(Instr.fieldAt t u f).run P w=.ok z w/\VR O w y z:=by
 unfold Zg at h;split at h
 ·rename_i i hi;split at h
  ·rename_i fs hk;obtain⟨gs,hu,rfl⟩:=Yr hi hk;split at h
   ·rename_i off ft hf;simp only[BY,WF,A0]at hf;obtain⟨g,hg,rfl,rfl⟩:=hf;have hg':gs[f]? =some g:=(by simpa using hg);split at h
    ·rename_i j hj;split at h
     ·rename_i hpos;have hz:=J6 hj w;have hne:¬j.size=0:=(by omega);split at h
      ·rename_i r;injection h with h;subst h;obtain⟨a,rfl,hm⟩:=ptr_move hx;exact⟨_,by simp[Instr.fieldAt,AZ hu,hg',Instr.sureAddr,fieldPlace,hz,hne],hm _⟩
      ·rename_i cs;injection h with h;subst h;obtain⟨a,rfl,hm⟩:=UA hx;exact⟨_,by simp[Instr.fieldAt,AZ hu,hg',Instr.sureAddr,fieldPlace,hz,hne],hm _⟩
      ·cases h
     ·cases h
    ·cases h
   ·cases h
  ·cases h
 ·cases h
def fieldE_ok{t:TypeId}{x y:AV}{f:Nat}(h:Vg P t x f=some y){u:Value}(hx:VR O w x u):
  ∃z,(Instr.field t u f).run P w=.ok z w/\VR O w y z:=by
 unfold Vg at h;split at h
 ·rename_i i hi;split at h
  ·rename_i fs cs hk;obtain⟨gs,hu,rfl⟩:=Yr hi hk;obtain⟨arr,rfl,hn,hc⟩:=hx;split at h
   ·rename_i off ft hf;simp only[BY,WF,A0]at hf;obtain⟨g,hg,rfl,rfl⟩:=hf;have hg':gs[f]? =some g:=(by simpa using hg);split at h
    ·rename_i j hj;obtain⟨z,h1,h2⟩:=VL hj h hn hc;exact⟨z,by simp[Instr.field,AZ hu,hg',asAgg,h1],h2⟩
    ·cases h
   ·cases h
  ·cases h
 ·cases h
def YU{cs:List T}{len:Nat}{cap:Option Nat}{v:Value}(h:VR O w (.c (.t (.imm cs len cap))) v):∃a c,v=.slice a len c/\Zu cap c/\len<=c:=by
 cases h with
 |imm0 cap a c hc=>exact⟨a,c,rfl,hc,Af _⟩
 |imm cs len cap b off c f _ _ hc hle _ _=>exact⟨_,c,rfl,hc,hle⟩
def indexAddrE_ok(hh:HR O M w){t:TypeId}{x i y:AV}(h:XW P t x i=some y){u v:Value}(hx:VR O w x u)(hi:VR O w i v):
  ∃z,(Instr.indexAt t u v).run P w=.ok z w/\VR O w y z:=by
 unfold XW at h;split at h
 ·rename_i inf n hinf hn;obtain⟨k,rfl⟩:=Yt hn hi;split at h
  ·rename_i e hk;have hu:=JK hinf hk;split at h
   ·rename_i j hj;have hz:=J6 hj w;split at h
    ·rename_i r len cap;split at h
     ·rename_i hb;injection h with h;subst h;obtain⟨a,c,rfl,h0,s,h1,h2,h3⟩:=hx
      cases a with
      |none=>
       rcases h0 with h0|h0
       ·omega
       ·simp at h0
      |some a=>
       refine⟨.pointer (some (a.add (n.toNat*j.size))),by simp[Instr.indexAt,asIntOf,AZ hu,hb,hz],_,rfl,s,h1,h2,λhe=> ?_⟩;obtain⟨h4,h5,h6⟩:=h3 he
       cases hl:s.loc with
       |none=>rw[hl]at h6;omega
       |some l=>rw[hl]at h6;obtain⟨h7,_⟩:=h6;injection h7 with h7;exact⟨l,hl,by rw[h7,Y3,CJ]⟩
     ·cases h
    ·rename_i cs len cap;split at h
     ·rename_i hb;injection h with h;subst h
      cases hx with
      |imm0 cap a c hc=>omega
      |imm cs len cap b off c f h1 h2 hc hle h3 h4=>refine⟨.pointer (some ((⟨b,off,none⟩:Addr).add (n.toNat*j.size))),by simp[Instr.indexAt,asIntOf,AZ hu,hb,hz],?_⟩;obtain⟨a,ha,hm⟩:=UA (O:=O) (w:=w) (cs:=cs) (TR.iptr cs b off f h1 h2 h3 h4);injection ha with ha;injection ha with ha;subst ha;exact hm _
     ·cases h
    ·cases h
   ·cases h
  ·rename_i len e hk;have hu:=YQ hinf hk;split at h
   ·rename_i j hj;have hz:=J6 hj w;split at h
    ·rename_i r;split at h
     ·rename_i hb;injection h with h;subst h;obtain⟨a,rfl,hm⟩:=ptr_move hx;exact⟨_,by simp[Instr.indexAt,asIntOf,AZ hu,Instr.sureAddr,hb,hz],hm _⟩
     ·cases h
    ·rename_i cs;split at h
     ·rename_i hb;injection h with h;subst h;obtain⟨a,rfl,hm⟩:=UA hx;exact⟨_,by simp[Instr.indexAt,asIntOf,AZ hu,Instr.sureAddr,hb,hz],hm _⟩
     ·cases h
    ·cases h
   ·cases h
  ·cases h
 ·cases h
end
end Go.Abs
namespace Go.Abs
variable [Gl]
section
variable {P:Program}{O:Map}{M:QA}{w:World}
def byteArray_get?(l:List UInt8)(n:Nat):(⟨l.toArray⟩:ByteArray)[n]? =l[n]? :=by
 by_cases h:n<l.length
 ·have h2:n<(⟨l.toArray⟩:ByteArray).size:=(by simpa [ByteArray.size] using h);rw[getElem?_pos (⟨l.toArray⟩:ByteArray) n h2,A4 h];rfl
 ·have h2:¬n<(⟨l.toArray⟩:ByteArray).size:=(by simpa [ByteArray.size] using h);rw[getElem?_neg (⟨l.toArray⟩:ByteArray) n h2,B5 (by omega)]
def indexE_ok{t:TypeId}{x i y:AV}(h:YT P t x i=some y){u v:Value}(hx:VR O w x u)(hi:VR O w i v):
  ∃z,(Instr.index t u v).run P w=.ok z w/\VR O w y z:=by
 unfold YT at h;split at h
 ·rename_i inf n hinf hn;obtain⟨k,rfl⟩:=Yt hn hi;split at h
  ·rename_i len e cs hk;have hu:=YQ hinf hk;obtain⟨arr,rfl,hs,hc⟩:=hx;split at h
   ·rename_i j hj;have hz:=J6 hj w;split at h
    ·rename_i hb;obtain⟨z,h1,h2⟩:=VL hj h hs hc;exact⟨z,by simp[Instr.index,asIntOf,AZ hu,hb,hz,h1],h2⟩
    ·cases h
   ·cases h
  ·rename_i s hk;have hu:=Xd hinf hk;obtain rfl:=ZR hx;split at h
   ·rename_i h0;split at h
    ·rename_i b hb;injection h with h;subst h;refine⟨.int .u8 b.toNat,?_,.int _ _⟩;simp[Instr.index,asIntOf,AZ hu,h0,byteArray_get?,hb]
    ·cases h
   ·cases h
  ·cases h
 ·cases h
def extractE_ok{x y:AV}{i:Nat}(h:YD x i=some y){u:Value}(hx:VR O w x u):∃z,(Instr.extract u i).run P w=.ok z w/\VR O w y z:=by
 unfold YD at h;split at h
 ·rename_i xs;obtain⟨arr,rfl,hn,hc⟩:=hx;split at h
  ·rename_i c hco;injection h with h;subst h;have hlt:i<xs.length:=(AD.1 hco).1;obtain⟨u,h1,h2⟩:=hc i hlt;have e:xs[i]=.inl c:=(by rw[A4 hlt]at hco;injection hco);rw[e]at h2;exact⟨u,by simp[Instr.extract,h1],h2⟩
  ·rename_i c hco;injection h with h;subst h;have hlt:i<xs.length:=(AD.1 hco).1;obtain⟨u,h1,h2⟩:=hc i hlt;have e:xs[i]=.inr c:=(by rw[A4 hlt]at hco;injection hco);rw[e]at h2;exact⟨u,by simp[Instr.extract,h1],h2⟩
  ·cases h
 ·cases h
def optR(O:Map)(w:World):Option AV->Option Value->Prop
 |none,none=>True
 |some v,some u=>VR O w v u
 |_,_=>False
def evo_ok{N:Nat}{r:QB}{a:Act}(hr:JP N O w r a){x:Option Operand}{v:Option AV}(h:evo r x=some v):optR O w v (x.map a.eval):=by
 cases x with
 |none=>simp only[evo,Kn]at h;subst h;trivial
 |some x=>simp only[evo,WF]at h;obtain⟨u,h1,rfl⟩:=h;exact ev_ok hr h1
def bound_ok{x:Option AV}{X8 top n:Nat}(h:Jp x X8 top=some n){xo:Option Value}(hx:optR O w x xo):
  (x=none/\xo=none/\n=X8)\/(∃k,xo=some (.int k (n:Int))/\n<=top/\x.isSome=true):=by
 unfold Jp at h;split at h
 ·injection h with h;subst h
  cases xo with
  |none=>exact .inl ⟨rfl,rfl,rfl⟩
  |some u=>exact hx.elim
 ·rename_i v
  cases xo with
  |none=>exact hx.elim
  |some u=>
   split at h
   ·rename_i m hm;obtain⟨k,rfl⟩:=Yt hm hx;split at h
    ·rename_i hb;injection h with h;subst h;refine .inr ⟨k,?_,by omega,rfl⟩;congr 2;omega
    ·cases h
   ·cases h
def XA(k:IntKind)(n y:Nat)(code:BoundsCode)(h:n<=y):(Instr.sliceBound (.int k (n:Int)) y code).run P w=.ok n w:=by
 have:(0:Int)<=n/\(n:Int)<=y:=by omega
 simp[Instr.sliceBound,asIntOf,this]
def ZU{isSlice:Bool}{len cap l h m:Nat}{lo hi mx:Option Value}
  (hm:(mx=none/\m=cap)\/∃k,mx=some (.int k (m:Int))/\m<=cap) (hh:(hi=none/\mx=none/\h=len)\/∃k,hi=some (.int k (h:Int))/\h<=m)
  (hl:(lo=none/\l=0)\/∃k,lo=some (.int k (l:Int))/\l<=h):(Instr.sliceBounds isSlice len cap lo hi mx).run P w=.ok (l,h,m) w:=by
 rcases hm with ⟨rfl,rfl⟩|⟨k,rfl,hm⟩
 ·rcases hh with ⟨rfl,_,rfl⟩|⟨k2,rfl,hh⟩
  ·rcases hl with ⟨rfl,rfl⟩|⟨k3,rfl,hl⟩
   ·simp[Instr.sliceBounds]
   ·simp[Instr.sliceBounds,XA _ _ _ _ hl]
  ·rcases hl with ⟨rfl,rfl⟩|⟨k3,rfl,hl⟩
   ·simp[Instr.sliceBounds,XA _ _ _ _ hh]
   ·simp[Instr.sliceBounds,XA _ _ _ _ hh,XA _ _ _ _ hl]
 ·rcases hh with ⟨rfl,h2,rfl⟩|⟨k2,rfl,hh⟩
  ·cases h2
  ·rcases hl with ⟨rfl,rfl⟩|⟨k3,rfl,hl⟩
   ·simp[Instr.sliceBounds,XA _ _ _ _ hm,XA _ _ _ _ hh]
   ·simp[Instr.sliceBounds,XA _ _ _ _ hm,XA _ _ _ _ hh,XA _ _ _ _ hl]
def KV(s:List UInt8)(l h:Nat):(⟨s.toArray⟩:ByteArray).extract l h=⟨((s.drop l).take (h - l)).toArray⟩:=by apply ByteArray.ext;simp[ByteArray.data_extract]
def Xh{t e:TypeId}(hu:P.underlying t=some (.slice e)){j:JD}(hj:tinf P e=some j)(a:Option Addr){len c l h m:Nat}{lo hi mx:Option Value}
  (hb:(Instr.sliceBounds true len c lo hi mx).run P w=.ok (l,h,m) w):
  (Instr.sliceAt t (.slice a len c) lo hi mx).run P w=.ok (.slice (if m=l then a else a.map (·.add (l*j.size))) (h - l) (m - l)) w:=by
 have hz:=J6 hj w;simp[Instr.sliceAt,Instr.slice,AZ hu,hb,hz]
def imm_slice{cs:List T}{len:Nat}{cap:Option Nat}{v:Value}(hx:VR O w (.c (.t (.imm cs len cap))) v){sz:Nat}(hcs:cs.length=len*sz){l h m:Nat}(hlh:l<=h)(hhl:h<=len)
  (cap':Option Nat) (hcap:Zu cap' (m - l)) (hhm:h<=m) {a:Option Addr} {c:Nat} (hv:v=.slice a len c):
  VR O w (.c (.t (.imm ((cs.drop (l*sz)).take ((h - l)*sz)) (h - l) cap'))) (.slice (if m=l then a else a.map (·.add (l*sz))) (h - l) (m - l)):=by
 by_cases he:h - l=0
 ·have:(cs.drop (l*sz)).take ((h - l)*sz)=[]:=(by rw[he];simp);rw[this,he];exact TR.imm0 _ _ _ hcap
 ·have hml:¬m=l:=(by omega);rw[AK hml];subst hv
  cases hx with
  |imm0=>omega
  |imm cs len cap b off c f h1 h2 hc hle h3 h4=>
   simp only[AI,Y3];refine TR.imm _ _ _ b (off+l*sz) (m - l) (λi=>f (l*sz+i)) h1 h2 hcap (by omega) (λi hi=> ?_) (λi hi=> ?_)
   ·have hi':l*sz+i<cs.length:=(by simp at hi;omega);rw[CJ];exact h3 _ hi'
   ·have hi':l*sz+i<cs.length:=(by simp at hi;omega);have:=h4 _ hi';simpa using this
def V2{r:Ref}{len:Nat}{cap:Option Nat}{s:Jv}(hs:O r.id=some s)(hep:r.ep=s.ep){a:Option Addr}{c:Nat}(hok:slOk r.off len cap a c s){sz:Nat}(hsz:s.es=sz){l h m:Nat}
  (hlh:l<=h) (hhm:h<=m) (hmc:m<=c) (cap':Option Nat) (hcap:Zu cap' (m - l)) (hnone:cap'=none->cap=none/\m=c/\(l<len\/l=0)) (off':Nat) (hoff:off'=if m=l then r.off else r.off+l*sz):
  VR O w (.c (.sl { r with off:=off' } (h - l) cap')) (.slice (if m=l then a else a.map (·.add (l*sz))) (h - l) (m - l)):=by
 obtain⟨h1,h2,h3⟩:=hok;refine⟨_,_,rfl,?_,s,hs,Nat.le_of_eq hep,λ_=>⟨by omega,hcap,?_⟩⟩
 ·cases hl:s.loc with
  |none=>rw[hl]at h3;left;omega
  |some lc=>rw[hl]at h3;obtain⟨rfl,_⟩:=h3;right;split<;>rfl
 ·cases hl:s.loc with
  |none=>rw[hl]at h3;obtain⟨h4,h5,h6⟩:=h3;subst h5;have:m=l:=(by omega);exact⟨by omega,by omega,by rw[hoff,AC this];exact h6⟩
  |some lc=>
   rw[hl]at h3;obtain⟨rfl,h5,h6⟩:=h3;have hmul:(c - l)*sz=c*sz - l*sz:=Nat.sub_mul c l sz;have hmul2:(m - l)*sz=m*sz - l*sz:=Nat.sub_mul m l sz;have hle1:l*sz<=m*sz:=Ar _ (by omega);have hle2:m*sz<=c*sz:=Ar _ hmc;rw[hsz]at h5 h6⊢;subst hoff;refine⟨?_,?_,λhn=> ?_⟩
   ·split
    ·rfl
    ·simp[Y3,CJ]
   ·split
    ·have:(m - l)*sz=0:=by rw[show m - l=0 by omega];simp
     dsimp only;omega
    ·rw[hmul2];dsimp only;omega
   ·obtain⟨hc1,hc2,hc3⟩:=hnone hn;have:=h6 hc1;subst hc2;split
    ·rename_i e;subst e;rcases hc3 with hc3|hc3
     ·exact absurd hc3 (by omega)
     ·subst hc3
      dsimp only;simpa using this
    ·rw[hmul2];dsimp only;omega
def sliceE_ok(hh:HR O M w){t:TypeId}{x y:AV}{lo hi mx:Option AV}(h:Yk P M t x lo hi mx=some y){u:Value}(hx:VR O w x u){lo' hi' mx':Option Value}
  (hlo:optR O w lo lo') (hhi:optR O w hi hi') (hmx:optR O w mx mx'):∃z,(Instr.sliceAt t u lo' hi' mx').run P w=.ok z w/\VR O w y z:=by
 unfold Yk at h;split at h
 ·rename_i inf hinf;split at h
  ·
   rename_i s hk;have hu:=Xd hinf hk;obtain rfl:=ZR hx;split at h
   ·rename_i h' hb;split at h
    ·rename_i l hl;injection h with h;subst h
     cases mx' with
     |some _=>exact hmx.elim
     |none=>
      have hsz:(⟨s.toArray⟩:ByteArray).size=s.length:=(by simp[ByteArray.size]);have hbs:(Instr.sliceBounds false s.length s.length lo' hi' none).run P w=.ok (l,h',s.length) w:=by
       refine ZU (.inl ⟨rfl,rfl⟩) ?_ ?_
       ·rcases bound_ok hb hhi with ⟨_,h2,h3⟩|⟨k,h2,h3,_⟩
        ·exact .inl ⟨h2,rfl,h3⟩
        ·exact .inr ⟨k,h2,h3⟩
       ·rcases bound_ok hl hlo with ⟨_,h2,h3⟩|⟨k,h2,h3,_⟩
        ·exact .inl ⟨h2,h3⟩
        ·exact .inr ⟨k,h2,h3⟩
      refine⟨.string ((⟨s.toArray⟩:ByteArray).extract l h'),?_,?_⟩
      ·simp[Instr.sliceAt,Instr.slice,AZ hu,hsz,hbs]
      ·rw[KV];exact TR.str _
    ·cases h
   ·cases h
  ·
   rename_i e r len cap hk;have hu:=JK hinf hk;split at h
   ·rename_i j o hj ho;split at h
    ·rename_i hes;obtain⟨a,c,rfl,hsome,hr⟩:=hx;obtain⟨s,hs,_,hep,hor,hok⟩:=hh.ref ho hr;have hes':s.es=j.size:=(by rw[<-hor.1];exact hes);have hep':r.ep=s.ep:=(by rw[<-hor.2.1];exact hep.symm);have hroom:cap.getD len<=c:=by
      obtain⟨h1,h2,_⟩:=hok
      cases cap with
      |none=>exact h1
      |some k=>simp only[Zu]at h2;subst h2;exact A5 _
     split at h
     ·
      rename_i mv hv;split at h
      ·rename_i m hm;split at h
       ·rename_i h' hh';split at h
        ·rename_i l hl;injection h with h;subst h;rcases bound_ok hm hmx with ⟨h2,_⟩|⟨km,hm2,hm3,_⟩
         ·cases h2
         rcases bound_ok hh' hhi with ⟨h2,_⟩|⟨kh,hh2,hh3,_⟩
         ·cases h2
         have hlb:(lo'=none/\l=0)\/∃k,lo'=some (.int k (l:Int))/\l<=h':=by
          rcases bound_ok hl hlo with ⟨_,h2,h3⟩|⟨k,h2,h3,_⟩
          ·exact .inl ⟨h2,h3⟩
          ·exact .inr ⟨k,h2,h3⟩
         have hlh:l<=h':=by rcases hlb with ⟨_,e⟩|⟨_,_,e⟩<;>omega
         have hb:=ZU (P:=P) (w:=w) (isSlice:=true) (len:=len) (cap:=c) (m:=m) (h:=h') (l:=l) (.inr ⟨km,hm2,Ao hm3 hroom⟩) (.inr ⟨kh,hh2,hh3⟩) hlb;exact⟨_,Xh hu hj a hb,V2 hs hep' hok hes' hlh hh3 (Ao hm3 hroom) (some (m - l)) rfl (λe=>by cases e) _ rfl⟩
        ·cases h
       ·cases h
      ·cases h
     ·cases h
     ·
      have hmx':mx'=none:=by
       cases mx' with
       |none=>rfl
       |some _=>exact hmx.elim
      split at h
      ·rename_i h' hh';split at h
       ·rename_i l hl;have hlb:(lo'=none/\l=0)\/∃k,lo'=some (.int k (l:Int))/\l<=h':=by
         rcases bound_ok hl hlo with ⟨_,h2,h3⟩|⟨k,h2,h3,_⟩
         ·exact .inl ⟨h2,h3⟩
         ·exact .inr ⟨k,h2,h3⟩
        have hlh:l<=h':=by rcases hlb with ⟨_,e⟩|⟨_,_,e⟩<;>omega
        have hhb:(hi'=none/\mx'=none/\h'=len)\/∃k,hi'=some (.int k (h':Int))/\h'<=c:=by
         rcases bound_ok hh' hhi with ⟨_,h2,h3⟩|⟨k,h2,h3,_⟩
         ·exact .inl ⟨h2,hmx',h3⟩
         ·exact .inr ⟨k,h2,Ao h3 hroom⟩
        have hhc:h'<=c:=by
         rcases hhb with ⟨_,_,e⟩|⟨_,_,e⟩
         ·have:=hok.1;omega
         ·exact e
        have hb:=ZU (P:=P) (w:=w) (isSlice:=true) (len:=len) (cap:=c) (m:=c) (h:=h') (l:=l) (.inl ⟨hmx',rfl⟩) hhb hlb;split at h
        ·rename_i k;have hck:c=k:=hok.2.1;subst hck;injection h with h;subst h;exact⟨_,Xh hu hj a hb,V2 hs hep' hok hes' hlh hhc (A5 _) (some (c - l)) rfl (λe=>by cases e) _ rfl⟩
        ·split at h
         ·rename_i hl0;injection h with h;subst h;refine⟨_,Xh hu hj a hb,V2 hs hep' hok hes' hlh hhc (A5 _) none trivial (λ_=>⟨rfl,rfl,hl0⟩) _ ?_⟩;split
          ·have:=hok.1;have h0:l=0:=(by omega);subst h0;simp
          ·rfl
         ·cases h
       ·cases h
      ·cases h
    ·cases h
   ·cases h
  ·
   rename_i e cs len cap hk;have hu:=JK hinf hk;split at h
   ·rename_i j hj;split at h
    ·rename_i hcs;obtain⟨a,c,rfl,hcap,hlc⟩:=YU hx;split at h
     ·rename_i mv hv;split at h
      ·rename_i m hm;split at h
       ·rename_i h' hh';split at h
        ·rename_i l hl;injection h with h;subst h;rcases bound_ok hm hmx with ⟨h2,_⟩|⟨km,hm2,hm3,_⟩
         ·cases h2
         rcases bound_ok hh' hhi with ⟨h2,_⟩|⟨kh,hh2,hh3,_⟩
         ·cases h2
         have hlb:(lo'=none/\l=0)\/∃k,lo'=some (.int k (l:Int))/\l<=h':=by
          rcases bound_ok hl hlo with ⟨_,h2,h3⟩|⟨k,h2,h3,_⟩
          ·exact .inl ⟨h2,h3⟩
          ·exact .inr ⟨k,h2,h3⟩
         have hlh:l<=h':=by rcases hlb with ⟨_,e⟩|⟨_,_,e⟩<;>omega
         have hb:=ZU (P:=P) (w:=w) (isSlice:=true) (len:=len) (cap:=c) (m:=m) (h:=h') (l:=l) (.inr ⟨km,hm2,Ao hm3 hlc⟩) (.inr ⟨kh,hh2,hh3⟩) hlb;exact⟨_,Xh hu hj a hb,imm_slice hx hcs hlh (Ao hh3 hm3) (some (m - l)) rfl hh3 rfl⟩
        ·cases h
       ·cases h
      ·cases h
     ·cases h
     ·have hmx':mx'=none:=by
       cases mx' with
       |none=>rfl
       |some _=>exact hmx.elim
      split at h
      ·rename_i h' hh';split at h
       ·rename_i l hl;injection h with h;subst h;have hlb:(lo'=none/\l=0)\/∃k,lo'=some (.int k (l:Int))/\l<=h':=by
         rcases bound_ok hl hlo with ⟨_,h2,h3⟩|⟨k,h2,h3,_⟩
         ·exact .inl ⟨h2,h3⟩
         ·exact .inr ⟨k,h2,h3⟩
        have hlh:l<=h':=by rcases hlb with ⟨_,e⟩|⟨_,_,e⟩<;>omega
        have hhl:h'<=len:=by
         rcases bound_ok hh' hhi with ⟨_,_,h3⟩|⟨k,_,h3,_⟩
         ·omega
         ·exact h3
        have hhb:(hi'=none/\mx'=none/\h'=len)\/∃k,hi'=some (.int k (h':Int))/\h'<=c:=by
         rcases bound_ok hh' hhi with ⟨_,h2,h3⟩|⟨k,h2,h3,_⟩
         ·exact .inl ⟨h2,hmx',h3⟩
         ·exact .inr ⟨k,h2,Ao h3 hlc⟩
        have hb:=ZU (P:=P) (w:=w) (isSlice:=true) (len:=len) (cap:=c) (m:=c) (h:=h') (l:=l) (.inl ⟨hmx',rfl⟩) hhb hlb;refine⟨_,Xh hu hj a hb,imm_slice hx hcs hlh hhl _ ?_ (Ao hhl hlc) rfl⟩
        cases cap with
        |none=>trivial
        |some k=>simp only[Zu]at hcap;subst hcap;rfl
       ·cases h
      ·cases h
    ·cases h
   ·cases h
  ·cases h
 ·cases h
end
end Go.Abs
namespace Go.Abs
variable [Gl]
section
variable {P:Program}{O:Map}{M:QA}{w:World}
def Jt(O:Map)(w:World)(cs:List Cell)(arr:Array Value):Prop:=arr.size=cs.length/\∀i (h:i<cs.length),∃u,arr[i]? =some u/\CR O w cs[i] u
def Vq{x:AV}{v:Value}(hf:x.flat=true)(h:VR O w x v):Jt O w x.cells v.cells:=by
 cases x with
 |c x=>
  have h1:=CR.Z2 h;have e:v.cells= #[v]:=by cases v<;>first|rfl|(simp[Value.oneCell']at h1)
  rw[e];refine⟨rfl,λi hi=>⟨v,?_,?_⟩⟩
  ·have:i=0:=(by simpa [AV.cells] using hi);subst this;rfl
  ·have:i=0:=(by simpa [AV.cells] using hi);subst this;exact h
 |agg xs=>obtain⟨arr,rfl,hn,hc⟩:=h;exact⟨hn,hc⟩
 |tup xs=>cases hf
def foldl_set(off:Nat):∀(l:List Value) (s:Nat) (arr:Array Value),off+s+l.length<=arr.size->
  ((l.zipIdx s).foldl (λcs (p:Value×Nat)=>cs.setIfInBounds (off+p.2) p.1) arr).size=arr.size/\
  ∀k,((l.zipIdx s).foldl (λcs (p:Value×Nat)=>cs.setIfInBounds (off+p.2) p.1) arr)[k]? =
   if off+s<=k/\k<off+s+l.length then l[k - (off+s)]? else arr[k]?
 |[],s,arr,_=>⟨rfl,λk=>by simp;intro h1 h2;omega⟩
 |v::l,s,arr,hl=>by
  simp only[List.zipIdx_cons,List.foldl_cons];simp only[As]at hl;obtain⟨h1,h2⟩:=foldl_set off l (s+1) (arr.setIfInBounds (off+s) v) (by simp;omega);refine⟨by rw[h1];simp,λk=> ?_⟩;rw[h2 k];by_cases c1:off+(s+1)<=k/\k<off+(s+1)+l.length
  ·rw[AC c1,AC (by simp;omega)];have e:k - (off+s)=(k - (off+(s+1)))+1:=(by omega);rw[e,BG]
  ·rw[AK c1];by_cases c2:k=off+s
   ·subst c2;rw[AC (by simp)];rw[Array.getElem?_setIfInBounds_self_of_lt (by omega)];simp
   ·rw[AK (by simp;omega)];rw[Array.getElem?_setIfInBounds_ne (λe=>c2 e.symm)]
def Uw{place:Nat->Option (Nat×Nat)}:∀{ps:List (Nat×AV)} {cs cs':List Cell},Yg place ps cs=some cs'->∀{vs:List (Nat×Value)} {arr:Array Value},Jt O w cs arr->
  (vs.length=ps.length/\∀i (h:i<ps.length),∃v,vs[i]? =some (ps[i].1,v)/\VR O w ps[i].2 v)->∃arr',Instr.fill place arr vs=some arr'/\Jt O w cs' arr'
 |[],cs,cs',h,vs,arr,hc,hv=>by simp only[Yg,Kn]at h;subst h;have:vs=[]:=BT hv.1;subst this;exact⟨arr,rfl,hc⟩
 |(n,x)::ps,cs,cs',h,vs,arr,hc,hv=>by
  obtain⟨hn,hv⟩:=hv;obtain⟨v,hv0,hx⟩:=hv 0 (by simp)
  cases vs with
  |nil=>simp at hv0
  |cons p vs=>
   simp only[BS,Kn,List.getElem_cons_zero]at hv0 hx;subst hv0;simp only[Yg]at h;split at h
   ·rename_i off size hp;split at h
    ·rename_i hcond;obtain⟨hf,hl,hfit⟩:=hcond;obtain⟨hs,hcc⟩:=Vq hf hx;have hsz:v.cells.size=size:=(by rw[hs];exact hl);have hle:off+v.cells.size<=arr.size:=(by rw[hc.1];omega);obtain⟨h1,h2⟩:=foldl_set off v.cells.toList 0 arr (by simpa using hle);have harr:Jt O w (Qo cs off x.cells) (v.cells.zipIdx.foldl (λcs (p:Value×Nat)=>cs.setIfInBounds (off+p.2) p.1) arr):=by
      rw[<-Array.foldl_toList,Array.toList_zipIdx];have hfit':off+x.cells.length<=cs.length:=(by omega);refine⟨by rw[h1,hc.1,XG _ _ _ hfit'],λi hi=> ?_⟩;have hi':i<cs.length:=(by simpa [XG _ _ _ hfit'] using hi);have hsp:=splice_getElem? cs off x.cells hfit' i;have hget:(Qo cs off x.cells)[i]? =some ((Qo cs off x.cells)[i]'hi):=A4 hi;rw[h2 i];by_cases c1:off<=i/\i<off+v.cells.size
      ·rw[AC (by simpa using c1)];rw[AK (by omega),AC (by omega)]at hsp;have hi2:i - off<x.cells.length:=(by omega);obtain⟨u,h8,h9⟩:=hcc (i - off) hi2;refine⟨u,by simpa using h8,?_⟩;have e:(Qo cs off x.cells)[i]'hi=x.cells[i - off]:=(by rw[hget,A4 hi2]at hsp;injection hsp);rw[e];exact h9
      ·rw[AK (by simpa using c1)];have hsp':(Qo cs off x.cells)[i]? =cs[i]? :=by
        rw[hsp];split
        ·rfl
        ·rw[AK (by omega)]
       obtain⟨u,h8,h9⟩:=hc.2 i hi';refine⟨u,h8,?_⟩;have e:(Qo cs off x.cells)[i]'hi=cs[i]:=(by rw[hget,A4 hi']at hsp';injection hsp');rw[e];exact h9
     obtain⟨arr',h3,h4⟩:=Uw h harr ⟨by simpa using hn,λi hi=>by
      have:=hv (i+1) (by simpa using hi);simpa using this⟩
     refine⟨arr',?_,h4⟩;simp only[Instr.fill,hp];rw[AK (by simp[hsz];omega)];exact h3
    ·cases h
   ·cases h
def evs_ok{N:Nat}{r:QB}{a:Act}(hr:JP N O w r a):∀{xs:List (Nat×Operand)} {vs:List (Nat×AV)},evs r xs=some vs->
  ((xs.map λ(i,x)=>(i,a.eval x)).length=vs.length/\∀i (h:i<vs.length),∃v,(xs.map λ(i,x)=>(i,a.eval x))[i]? =some (vs[i].1,v)/\VR O w vs[i].2 v)
 |[],vs,h=>by simp only[evs,Kn]at h;subst h;exact⟨rfl,λi hi=>absurd hi (by simp)⟩
 |(n,x)::xs,vs,h=>by
  simp only[evs]at h;split at h
  ·rename_i v vs' h1 h2;injection h with h;subst h;obtain⟨h3,h4⟩:=evs_ok hr h2;refine⟨by simpa using h3,λi hi=> ?_⟩
   cases i with
   |zero=>exact⟨a.eval x,rfl,ev_ok hr h1⟩
   |succ i=>exact h4 i (by simpa using hi)
  ·cases h
def K0{vs:Array Value}{ts:List T}(h:Ue vs.toList=some ts):Jt O w (ts.map .t) vs:=by obtain⟨arr,e,h1,h2⟩:=aggR_ts (O:=O) (w:=w) h;injection e with e;subst e;exact⟨h1,h2⟩
def places_ok:∀{fs:List Field} {ps:List (Nat×Nat)},YO P (fs.map λf=>(f.offset,f.type))=some ps->
  (fs.mapM λf=>(do pure (f.offset,<-sizeOf f.type):Sem (Nat×Nat))).run P w=.ok ps w
 |[],ps,h=>by simp only[Bs,YO,Kn]at h;subst h;simp
 |f::fs,ps,h=>by
  simp only[AY,YO]at h;split at h
  ·rename_i i ps' h1 h2;injection h with h;subst h;have:=places_ok h2;simp only[List.mapM_cons,AR,J6 h1,AX,BC,this]
  ·cases h
def buildE_ok{t:TypeId}{ps:List (Nat×AV)}{y:AV}(h:Vu P t ps=some y){vs:Array (Nat×Value)}
  (hv:vs.toList.length=ps.length/\∀i (h:i<ps.length),∃v,vs.toList[i]? =some (ps[i].1,v)/\VR O w ps[i].2 v):∃z,(Instr.build t vs).run P w=.ok z w/\VR O w y z:=by
 unfold Vu at h;split at h
 ·rename_i i hi;split at h
  ·rename_i z fs hz hk;obtain⟨gs,hu,rfl⟩:=Yr hi hk;obtain⟨zv,hz1,hz2⟩:=ZO hi hz w;split at h
   ·rename_i places hp;simp only[WF]at h;obtain⟨cs,hf,rfl⟩:=h;obtain⟨arr',h1,h2⟩:=Uw hf (K0 (O:=O) (w:=w) hz2) hv;have hpl:(gs.mapM λf=>(do pure (f.offset,<-sizeOf f.type):Sem (Nat×Nat))).run P w=.ok places.toArray w:=(by have:=places_ok (w:=w) hp;rw[Array.mapM_eq_mapM_toList];simp only[Sem.run_map,this,AX]);refine⟨.agg arr',?_,arr',rfl,h2⟩;have h1':Instr.fill (λn=>places.toArray[n]?) zv.cells vs.toList=some arr':=(by simpa using h1);simp only[Instr.build,AR,hz1,AZ hu,hpl,AX,h1'];rfl
   ·cases h
  ·rename_i z n e hz hk;have hu:=YQ hi hk;obtain⟨zv,hz1,hz2⟩:=ZO hi hz w;split at h
   ·rename_i j hj;simp only[WF]at h;obtain⟨cs,hf,rfl⟩:=h;obtain⟨arr',h1,h2⟩:=Uw hf (K0 (O:=O) (w:=w) hz2) hv;refine⟨.agg arr',?_,arr',rfl,h2⟩;simp[Instr.build,hz1,AZ hu,J6 hj w,h1]
   ·cases h
  ·cases h
 ·cases h
def Yl(n:Nat)(z:List T):(Y7 n z).length=n*z.length:=by
 induction n with
 |zero=>simp[Y7]
 |succ n ih=>simp[Y7,ih,BF];omega
def repl_get(n:Nat)(z:List T)(hz:0<z.length)(i:Nat)(hi:i<n*z.length):(Y7 n z)[i]? =z[i%z.length]? :=by
 induction n generalizing i with
 |zero=>simp at hi
 |succ n ih=>
  simp only[Y7];by_cases h:i<z.length
  ·rw[AL h,Nat.mod_eq_of_lt h]
  ·rw[AU (by omega),ih _ (by rw[BF]at hi;omega)];have e:=Nat.mod_eq_sub_mod (a:=i) (b:=z.length) (by omega);rw[e]
def V9{n:Nat}{z:List T}{zv:Array Value}(h:Ue zv.toList=some z)(hz:0<z.length):Jt O w ((Y7 n z).map .t) ((Array.range (n*z.length)).map (zv[· %zv.size]!)):=by
 obtain⟨h1,h2⟩:=K0 (O:=O) (w:=w) h;simp only[AE]at h1;refine⟨by simp[Yl],λi hi=> ?_⟩;have hi':i<n*z.length:=by simpa [Yl] using hi
 have hm:i%z.length<z.length:=Nat.mod_lt _ hz;obtain⟨u,h3,h4⟩:=h2 (i%z.length) (by simpa using hm);refine⟨u,?_,?_⟩
 ·rw[Array.getElem?_map];have:(Array.range (n*z.length))[i]? =some i:=(by simp[hi']);rw[this];simp only[AI,Kn,h1];rw[getElem!_pos zv _ (by omega)];have e:=Bp (xs:=zv) (i:=i%z.length) (by omega);rw[e]at h3;injection h3
 ·have e:=repl_get n z hz i hi';have hg:(Y7 n z)[i]? =some ((Y7 n z)[i]'(by simpa using hi)):=A4 _;rw[hg,A4 hm]at e;injection e with e;simp only[AP,e];simpa using h4
def allT_eq:∀{cs:List Cell} {ts:List T},UN cs=some ts->cs=ts.map .t
 |[],ts,h=>by simp only[UN,Kn]at h;subst h;rfl
 |.t x::cs,ts,h=>by simp only[UN,WF]at h;obtain⟨ts',h1,rfl⟩:=h;simp[allT_eq h1]
 |.ptr _::cs,ts,h=>by simp[UN]at h
 |.sl .. ::cs,ts,h=>by simp[UN]at h
 |.clo .. ::cs,ts,h=>by simp[UN]at h
def new_un(h:HR O M w){w':World}{o:Go.Obj}(hh:w'.heap=w.heap.push o)(ho:w'.os=w.os)(hp:w'.output=w.output):
   Step O M w O M w'/\HR O M w'/\O.un w.heap.size:=by
 have hst:Step O M w O M w':={
   len:=A5 _
   size:=by rw[hh];simp
   os:=ho
   out:=hp
   keep:=λ_ s h=>⟨s,h,A5 _,λ_=>rfl⟩
   none:=λ_ _ h=>h
   new:=λid s' l' h h'=>.inr ⟨id,s',l',h,h',rfl⟩
   res:=rfl
   ex:=rfl
   resKeep:=λb hb=>by rw[hh];simp[Ba,Bx (h.resRow b hb).lt]
   frame:=λb hb _=>by rw[hh];simp[Ba,Bx hb] }
 refine⟨hst,⟨λid s hs=> ?_,h.inj,λb hb=>(let ⟨c,e,fr,h1⟩:=h.resRow b hb;⟨c,e,fr,by rw[hst.resKeep b hb];exact h1⟩),h.resNo⟩,λhm=>absurd (h.blk_lt hm) (Nat.lt_irrefl _)⟩;obtain⟨o',h1,h2⟩:=h.obj id s hs;refine⟨o',h1,h2.congr hst (λl hl=> ?_)⟩;have:=h.blk_lt (.inl ⟨id,s,l,hs,hl,rfl⟩);rw[hh];simp[Ba,Bx this]
end
end Go.Abs
namespace Go.Abs
variable [Gl]
section
variable {P:Program}{O:Map}{M:QA}{w:World}
def ZN(P:Program)(O:Map)(M:QA)(w:World)(s:Sem Value)(x:AV)(S':QA):Prop:=
 ∃I' w' v,s.run P w=.ok v w'/\VR I' w' x v/\Step O M w I' S' w'/\HR I' S' w'
def ZN.pure(h:HR O M w){s:Sem Value}{x:AV}{v:Value}(hr:s.run P w=.ok v w)(hv:VR O w x v):ZN P O M w s x M:=
 ⟨O,w,v,hr,hv,Step.refl O M w,h⟩
def ptr_new{I':Map}{n b tot es:Nat}(h:I' n=some ⟨some ⟨b,0,tot⟩,es,0⟩)(w':World):VR I' w' (.c (.ptr ⟨n,0,0⟩)) (.pointer (some ⟨b,0,none⟩)):=
 ⟨_,rfl,_,h,A5 _,λ_=>⟨_,rfl,rfl⟩⟩
def new_ok(h:HR O M w){cs:List Cell}{arr:Array Value}(hc:Jt O w cs arr)(e:TypeId)(es:Nat):
  ∃I' w',(newRow e arr).run P w=.ok ⟨w.heap.size,0,none⟩ w'/\Step O M w I' (M++[{ cs:=cs,es:=es }]) w'/\HR I' (M++[{ cs:=cs,es:=es }]) w'/\
   I' M.length=some ⟨some ⟨w.heap.size,0,arr.size⟩,es,0⟩:=by
 obtain⟨h1,h2⟩:=HR.push (w':={ w with heap:=w.heap.push (.cells arr e) }) (o:={ cs:=cs,es:=es }) h rfl rfl rfl rfl (by rw[hc.1];exact A5 _) hc.2;exact⟨_,_,rfl,h1,h2,Map.Qm _ _ _⟩
def alloc_ok(h:HR O M w){t:TypeId}{i:JD}(ht:tinf P t=some i){z:List T}(hz:i.zero=some z):
  ZN P O M w (Instr.alloc t true (.tuple #[])) (Ko M (z.map .t)).1 (Ko M (z.map .t)).2:=by
 obtain⟨zv,hz1,hz2⟩:=ZO ht hz w;obtain⟨I',w',h1,h2,h3,h4⟩:=new_ok (P:=P) h (K0 (O:=O) (w:=w) hz2) t 1;exact⟨I',w',_,by simp[Instr.alloc,hz1,newVar,h1],ptr_new h4 w',h2,h3⟩
def box_ok(h:HR O M w){x:AV}{v:Value}(hf:x.flat=true)(hv:VR O w x v)(t:TypeId):
  ZN P O M w (Instr.box t v) (Ko M x.cells).1 (Ko M x.cells).2:=by
 obtain⟨I',w',h1,h2,h3,h4⟩:=new_ok (P:=P) h (Vq hf hv) t 1;exact⟨I',w',_,by simp[Instr.box,newVar,h1],ptr_new h4 w',h2,h3⟩
def storeE_ok(h:HR O M w){t:TypeId}{i:JD}(ht:tinf P t=some i){a x:AV}{u v:Value}(ha:VR O w a u)(hx:VR O w x v){S':QA}(hs:XE M i a x=some S'):
  ∃I' w',(Instr.storeAt t u v).run P w=.ok () w'/\Step O M w I' S' w'/\HR I' S' w':=by
 unfold XE at hs;split at hs
 ·rename_i r;split at hs
  ·rename_i o ho;split at hs
   ·rename_i hc;obtain⟨hf,hl,hfit⟩:=hc;injection hs with hs;subst hs;obtain⟨ad,rfl,hr⟩:=ha;obtain⟨s,h1,h2,h3,h4,l,hl2,e⟩:=h.ref ho hr;injection e with e;subst e;obtain⟨hn,hcc⟩:=Vq hf hx;obtain⟨w',h5,h6,h7⟩:=HR.write h h1 hl2 h2 P r.off x.cells v.cells.toList (by simpa using hn) (λk hk=>by simpa using hcc k hk) (by omega);refine⟨O,w',?_,h6,h7⟩;have hsz:¬(v.cells.size≠i.size):=(by rw[hn,hl];simp);simp only[Instr.storeAt,Instr.sureAddr,AR,BC,AX,storeVar,J6 ht w,AK hsz];simpa using h5
   ·cases hs
  ·cases hs
 ·cases hs
def imm_new{ts:List T}{len c:Nat}{cap:Option Nat}{arr:Array Value}{e:TypeId}(h:HR O M w)(hc:Jt O w (ts.map .t) arr)(hlc:len<=c)(hcap:Zu cap c):
  ZN P O M w (do pure (.slice (some (<-newRow e arr)) len c)) (.c (.t (.imm ts len cap))) M:=by
 obtain⟨h1,h2,h3⟩:=new_un h (w':={ w with heap:=w.heap.push (.cells arr e) }) rfl rfl rfl;refine⟨O,{ w with heap:=w.heap.push (.cells arr e) },.slice (some ⟨w.heap.size,0,none⟩) len c,rfl,?_,h1,h2⟩;have hnew:({ w with heap:=w.heap.push (.cells arr e) }:World).heap[w.heap.size]? =some (.cells arr e):=by simp
 refine TR.imm ts len cap w.heap.size 0 c (λi=>arr.getD i undef) h3 ⟨arr,e,(0,0),hnew⟩ hcap hlc (λi hi=> ?_) (λi hi=> ?_)
 ·obtain⟨u,h4,_⟩:=hc.2 i (by simpa using hi);simp only[World.cell?,hnew,AF];simp[h4]
 ·obtain⟨u,h4,h5⟩:=hc.2 i (by simpa using hi);have e1:arr.getD i undef=u:=(by simp[h4]);have h6:CR O { w with heap:=w.heap.push (.cells arr e) } (Cell.t ts[i]) u:=(by have:=CR.step h1 h5;simpa using this);simpa [e1,CR] using h6
def sl_new{I':Map}{n b tot es len c:Nat}{cap:Option Nat}(h:I' n=some ⟨some ⟨b,0,tot⟩,es,0⟩)(hl:len<=c)(hcap:Zu cap c)(ht:c*es<=tot)(ht':cap=none->c*es=tot)(w':World):
  VR I' w' (.c (.sl ⟨n,0,0⟩ len cap)) (.slice (some ⟨b,0,none⟩) len c):=
 ⟨_,_,rfl,.inr rfl,_,h,A5 _,λ_=>⟨hl,hcap,rfl,by simpa using ht,λe=>by simpa using ht' e⟩⟩
def Vt(h:HR O M w){b:Bool}{t:TypeId}{n:Nat}{ps:List (Nat×AV)}{y:AV}{S':QA}(hb:Ji P b M t n ps=some (y,S')){vs:Array (Nat×Value)}
  (hv:vs.toList.length=ps.length/\∀i (h:i<ps.length),∃v,vs.toList[i]? =some (ps[i].1,v)/\VR O w ps[i].2 v):ZN P O M w (Instr.buildSlice t n vs) y S':=by
 unfold Ji at hb;split at hb
 ·rename_i i hi;split at hb
  ·rename_i e hk;have hu:=JK hi hk;split at hb
   ·rename_i j hj;split at hb
    ·rename_i z hz;obtain⟨zv,hz1,hz2⟩:=ZO hj hz w;split at hb
     ·rename_i hc;obtain⟨hsz,hpos,hmax⟩:=hc;split at hb
      ·rename_i cs hf;obtain⟨arr,h1,h2⟩:=Uw hf (V9 (O:=O) (w:=w) hz2 (by omega)) hv;have h24:¬(n*j.size>2^24):=(by omega);have hrun:(Instr.buildSlice t n vs).run P w=(do pure (.slice (some (<-newRow e arr)) n n):Sem Value).run P w:=by
        by_cases h0:n*j.size=0
        ·have e0:∀f:Nat->Value,(Array.range (n*j.size)).map f= #[]:=λf=>(by rw[h0];simp);rw[<-hsz,e0]at h1;simp only[Instr.buildSlice,AR,AZ hu,AX,J6 hj w,AK h24,AC h0,BC,e0,h1]
        ·rw[<-hsz]at h1;simp only[Instr.buildSlice,AR,AZ hu,AX,J6 hj w,AK h24,AK h0,hz1,BC,h1]
       split at hb
       ·rename_i ts hts;injection hb with hb;injection hb with e1 e2;subst e1;subst e2;have hcs:=allT_eq (objT_eq hts);subst hcs;obtain⟨I',w',v,h3,h4,h5,h6⟩:=imm_new (P:=P) (e:=e) (len:=n) (c:=n) (cap:=some n) h h2 (A5 _) rfl;exact⟨I',w',v,by rw[hrun];exact h3,h4,h5,h6⟩
       ·injection hb with hb;injection hb with e1 e2;subst e1;subst e2;obtain⟨I',w',h3,h4,h5,h6⟩:=new_ok (P:=P) h h2 e j.size;refine⟨I',w',_,by rw[hrun];simp[h3],sl_new (cap:=some n) h6 (A5 _) rfl ?_ (λe=>by cases e) w',h4,h5⟩;have hl:=h2.1;have:cs.length=((Y7 n z).map Cell.t).length:=by
         clear h1 h2 hrun hl;have key:∀(ps:List (Nat×AV)) (cs cs':List Cell),Yg (λm=>some (m*j.size,j.size)) ps cs=some cs'->cs'.length=cs.length:=by
          intro ps
          induction ps with
          |nil=>intro cs cs' hh;simp only[Yg,Kn]at hh;rw[hh]
          |cons p ps ih=>
           intro cs cs' hh;obtain⟨m,x⟩:=p;simp only[Yg]at hh;split at hh
           ·rename_i hc;rw[ih _ _ hh,XG _ _ _ (by omega)]
           ·cases hh
         exact key _ _ _ hf
        rw[hl,this];simp[Yl,hsz]
      ·cases hb
     ·cases hb
    ·cases hb
   ·cases hb
  ·cases hb
 ·cases hb
def makeSliceE_ok(h:HR O M w){t:TypeId}{l c y:AV}{S':QA}(hm:JJ P M t l c=some (y,S')){u v:Value}(hl:VR O w l u)(hc:VR O w c v):ZN P O M w (Instr.makeSlice t u v) y S':=by
 unfold JJ at hm;split at hm
 ·rename_i i n m hi hn hmm;obtain⟨k,rfl⟩:=Yt hn hl;obtain⟨k',rfl⟩:=Yt hmm hc;split at hm
  ·rename_i e hk;have hu:=JK hi hk;split at hm
   ·rename_i j hj;split at hm
    ·rename_i z hz;obtain⟨zv,hz1,hz2⟩:=ZO hj hz w;obtain⟨inf,hinf,hby,_,_⟩:=K2 hj w;split at hm
     ·rename_i hcond;obtain⟨hsz,hpos,h0,hle,hbytes,hmax⟩:=hcond;injection hm with hm;injection hm with e1 e2;subst e1;subst e2;have hw1:IntKind.i64.wrap n=n:=IntWalk.i64_in _ (by omega);have hw2:IntKind.i64.wrap m=m:=IntWalk.i64_in _ (by omega);have hcells:Jt O w ((Y7 m.toNat z).map .t) ((Array.range (m.toNat*z.length)).map (zv.cells[· %zv.cells.size]!)):=V9 hz2 (by omega);obtain⟨I',w',h3,h4,h5,h6⟩:=new_ok (P:=P) h hcells e j.size;have hmb:(inf.bytes:Int)*m<=281474976710656:=(by rw[hby,Int.mul_comm];exact hbytes);have hnb:(inf.bytes:Int)*n<=281474976710656:=(by have:(inf.bytes:Int)*n<=inf.bytes*m:=Int.mul_le_mul_of_nonneg_left hle (by omega);omega);refine⟨I',w',.slice (some ⟨w.heap.size,0,none⟩) n.toNat m.toNat,?_,sl_new (cap:=some m.toNat) h6 (by omega) rfl (by simp[hsz]) (λe=>by cases e) w',h4,h5⟩;have hrun0:∀b:Bool,b=false->(if b=true then True else False)=False:=λb hb=>(by simp[hb]);have c1:¬(m<0):=(by omega);have c2:¬((inf.bytes:Int)*m>2^48):=(by have:(2:Int)^48=281474976710656:=(by decide);rw[this];omega);have c3:¬(n<0):=(by omega);have c4:¬(n>m):=(by omega);by_cases h0':m.toNat*j.size=0
      ·have e0:∀f:Nat->Value,(Array.range (m.toNat*j.size)).map f= #[]:=λf=>(by rw[h0'];simp);rw[<-hsz,e0]at h3;simp only[Instr.makeSlice,AR,AZ hu,AX,asInt,asIntOf,BC,hinf,hw1,hw2];simp only[c1,c2,c3,c4,decide_false,Bool.or_self,Ab,Al,run_askRoom,AX,J6 hj w,AR,AC h0',e0,h3,BC]
      ·rw[<-hsz]at h3;simp only[Instr.makeSlice,AR,AZ hu,AX,asInt,asIntOf,BC,hinf,hw1,hw2];simp only[c1,c2,c3,c4,decide_false,Bool.or_self,Ab,Al,run_askRoom,AX,J6 hj w,AR,AK h0',hz1,h3,BC]
     ·cases hm
    ·cases hm
   ·cases hm
  ·cases hm
 ·cases hm
end
end Go.Abs
namespace Go.Abs
variable [Gl]
section
variable {P:Program}{O:Map}{M:QA}{w:World}
def Vr(s:List UInt8)(n:Nat):(((⟨s.toArray⟩:ByteArray).extract 0 n).data.map λb=>Value.int .u8 b.toNat)=((s.take n).map λb:UInt8=>Value.int .u8 b.toNat).toArray:=by rw[KV];simp
def YC(h:HR O M w){es n:Nat}{x:AV}{new:List Cell}(hf:JF M es n x=some new){v:Value}(hx:VR O w x v):
  new.length=n*es/\∃vs:List Value,Jt O w new vs.toArray/\∀w2:World,w2.heap=w.heap->(Builtin.firstCells es n v).run P w2=.ok vs.toArray w2:=by
 unfold JF at hf;split at hf
 ·rename_i r len cap;split at hf
  ·rename_i o ho;split at hf
   ·rename_i hc;injection hf with hf;subst hf;obtain⟨a,c,rfl,hsome,hr⟩:=hx;obtain⟨s,hs,ho',hep,hor,hok⟩:=h.ref ho hr;have hlen:((o.cs.drop r.off).take (n*es)).length=n*es:=(by simp;omega);refine⟨hlen,?_⟩;by_cases h0:n*es=0
    ·have e:(o.cs.drop r.off).take (n*es)=[]:=(by rw[h0];simp);rw[e];refine⟨[],⟨rfl,λi hi=>absurd hi (by simp)⟩,λw2 _=> ?_⟩
     cases a with
     |none=>simp[Builtin.firstCells]
     |some a=>simp[Builtin.firstCells,h0,loadCells,loadCellsFrom]
    ·obtain⟨h1,h2,h3⟩:=hok
     cases hl:s.loc with
     |none=>have hz:=hor.2.2;rw[hl]at hz;rw[hz]at hc;simp at hc;exact absurd hc.1.2 h0
     |some l=>rw[hl]at h3;obtain⟨rfl,_⟩:=h3;have hrow:=((hor.row hl).drop r.off).take (n*es);obtain⟨vs,h4,h5,h6⟩:=hrow.list;refine⟨vs,⟨by simpa using h4,λi hi=>by simpa using h6 i hi⟩,λw2 hw2=> ?_⟩;refine run_firstCells_some w2 es n _ len c vs (by rw[h4];exact hlen) (λj v hv=> ?_);have:=h5 j v hv;rw[Y3]at this⊢;rw[<-this];exact XY (by rw[hw2]) _
   ·cases hf
  ·cases hf
 ·rename_i cs len cap;split at hf
  ·rename_i hc;injection hf with hf;subst hf;have hlen:((cs.take (n*es)).map Cell.t).length=n*es:=(by have:n*es<=len*es:=Ar _ hc.1;simp;omega);refine⟨hlen,?_⟩
   cases hx with
   |imm0 cap a c hcap=>
    refine⟨[],⟨by simp,λi hi=>absurd hi (by simp)⟩,λw2 _=> ?_⟩;have hn0:n=0:=(by omega);subst hn0
    cases a with
    |none=>simp[Builtin.firstCells]
    |some a=>simp[Builtin.firstCells,loadCells,loadCellsFrom]
   |imm cs len cap b off c f h1 h2 hcp hle h3 h4=>have hrow:WI O w b off ((cs.take (n*es)).map Cell.t):=λi hi=>(by have hi':i<cs.length:=(by simp at hi;omega);refine⟨f i,h3 i hi',?_⟩;have:=h4 i hi';simpa [CR] using this);obtain⟨vs,h5,h6,h7⟩:=hrow.list;refine⟨vs,⟨by simpa using h5,λi hi=>by simpa using h7 i hi⟩,λw2 hw2=> ?_⟩;refine run_firstCells_some w2 es n _ len c vs (by rw[h5];exact hlen) (λj v hv=> ?_);have:=h6 j v hv;rw[Y3]at this⊢;rw[<-this];exact XY (by rw[hw2]) _
  ·cases hf
 ·rename_i s;split at hf
  ·rename_i hc;injection hf with hf;subst hf;obtain rfl:=ZR hx;obtain⟨hc1,rfl⟩:=hc;refine⟨by simp;omega,(s.take n).map λb:UInt8=>Value.int .u8 b.toNat,⟨by simp,λi hi=> ?_⟩,λw2 _=> ?_⟩
   ·have hi':i<(s.take n).length:=(by simpa using hi);exact⟨.int .u8 ((s.take n)[i].toNat),by rw[CE,BY,A4 hi'];rfl,by simp only[AP];exact TR.int _ _⟩
   ·simp only[Builtin.firstCells,Vr];rfl
  ·cases hf
 ·cases hf
def lenE_ok{x:AV}{m:Nat}(h:lenE x=some m){v:Value}(hx:VR O w x v)(w2:World):(Builtin.lenOf v).run P w2=.ok m w2:=by
 unfold lenE at h;split at h
 ·injection h with h;subst h;obtain⟨a,c,rfl,_⟩:=hx;rfl
 ·injection h with h;subst h;obtain⟨a,c,rfl,_⟩:=YU hx;rfl
 ·injection h with h;subst h;obtain rfl:=ZR hx;simp[Builtin.lenOf,ByteArray.size]
 ·cases h
def growBy_le(need:Nat):∀(n c:Nat),Builtin.growBy need n c<=max c (2*need+768)
 |0,c=>by simp[Builtin.growBy];omega
 |n+1,c=>by
  simp only[Builtin.growBy];split
  ·omega
  ·have:=growBy_le need n (c+(c+768) / 4);omega
def nextcap_le{need cap:Nat}(h:cap<need):Builtin.nextslicecap need cap<=2*need+768:=by
 unfold Builtin.nextslicecap;split
 ·omega
 ·split
  ·omega
  ·have:=growBy_le need 4 cap;omega
def ZC.fits{n b:Nat}(h:ZC n b){cap:Nat}(hc:cap<n):¬(Builtin.nextslicecap n cap*b>2^48):=by
 obtain⟨h1,h2,h3⟩:=h;have h4:Builtin.nextslicecap n cap*b<=(2*n+768)*b:=Ar _ (nextcap_le hc);have h5:(2*n+768)*b=2*(n*b)+768*b:=by rw[BJ,Nat.mul_assoc]
 omega
def XH{ts:Array TypeId}{t u e:TypeId}(h0:ts[0]? =some t)(h1:ts[1]? =some u){j:JD}(ht:P.underlying t=some (.slice e))(hj:tinf P e=some j)(hu:(∃e',P.underlying u=some (.slice e'))\/P.underlying u=some .string)(rest:TypeId)
  {a:Option Addr} {len c m:Nat} {x:Value} {new:Array Value} (hlen:(Builtin.lenOf x).run P w=.ok m w) (hfirst:(Builtin.firstCells j.size m x).run P w=.ok new w) (hroom:len+m<=c) {w':World}
  (hst:∀b,a=some b->(storeCells (b.add (len*j.size)) new.toList).run P w=.ok () w') (hst':a=none->w'=w):
  (Builtin.append_ ts rest #[.slice a len c,x]).run P w=.ok (.slice a (len+m) c) w':=by
 rcases hu with ⟨e',hd1⟩|hd1;all_goals
  cases a with
  |none=>obtain rfl:=hst' rfl;simp only[Builtin.append_,h0,h1,CE,BS,BG,AR,AZ ht,AX,J6 hj,AZ hd1,BC,Ab,Al,hlen,AC hroom,Bc,Aq,hfirst]
  |some b=>simp only[Builtin.append_,h0,h1,CE,BS,BG,AR,AZ ht,AX,J6 hj w,AZ hd1,BC,Ab,Al,hlen,AC hroom,Bc,Aq,hfirst,hst b rfl]
def ZV{ts:Array TypeId}{t u e:TypeId}(h0:ts[0]? =some t)(h1:ts[1]? =some u){j:JD}(ht:P.underlying t=some (.slice e))(hj:tinf P e=some j){z:List T}(hz:j.zero=some z)(hzs:j.size=z.length)(hu:(∃e',P.underlying u=some (.slice e'))\/P.underlying u=some .string)(rest:TypeId)
  {a:Option Addr} {len c m:Nat} {x:Value} {old new:Array Value} (hlen:(Builtin.lenOf x).run P w=.ok m w) (hfirst:∀w2:World,w2.heap=w.heap->(Builtin.firstCells j.size m x).run P w2=.ok new w2)
  (hold:∀w2:World,w2.heap=w.heap->(Builtin.firstCells j.size len (.slice a len c)).run P w2=.ok old w2) (hroom:c<len+m) (hok:ZC (len+m) j.bytes):
  ∃(cap:Nat) (more:Array Value),len+m<=cap/\more.size=(cap - (len+m))*j.size/\
   (Builtin.append_ ts rest #[.slice a len c,x]).run P w=.ok (.slice (some ⟨w.heap.size,0,none⟩) (len+m) cap) { w with drawn:=w.drawn+1,heap:=w.heap.push (.cells (old++new++more) e) }:=by
 obtain⟨inf,hinf,hby,_,_⟩:=K2 hj w;obtain⟨zv,hz1,hz2⟩:=ZO hj hz { w with drawn:=w.drawn+1 };have hzl:zv.cells.size=j.size:=by have:=(Uj (U:=λ_=>True) (w:=w) hz2).1;simp at this;omega
 let cap:=(Question.appendCap (len+m) c e).cut (w.tape w.drawn (.appendCap (len+m) c e));refine⟨cap,Builtin.zeroCells zv.cells (cap - (len+m)),?_,by simp[Builtin.zeroCells,hzl],?_⟩
 ·simp only[cap,Question.cut];omega
 ·have hn:¬(len+m<=c):=(by omega);have h63:¬(((len+m:Nat):Int)>IntKind.i64.max/\(False\/inf.bytes=0)):=(by have:(IntKind.i64.max:Int)=9223372036854775807:=(by decide);rw[this];have:=hok.2.1;omega);have h48:¬(Builtin.nextslicecap (len+m) c*inf.bytes>2^48):=(by rw[hby];exact hok.fits hroom);have hf:=hfirst { w with drawn:=w.drawn+1 } rfl;have ho:=hold { w with drawn:=w.drawn+1 } rfl;have hinf2:(typeInfo e).run P { w with drawn:=w.drawn+1 }=.ok inf { w with drawn:=w.drawn+1 }:=(by obtain⟨inf',h1,_,_,h4⟩:=K2 hj { w with drawn:=w.drawn+1 };obtain⟨inf'',h1',_,_,h4'⟩:=K2 hj w;rw[hinf]at h1';injection h1' with h1';subst h1';rw[h4']at h4;injection h4 with h4;subst h4;exact h1);have h63':¬(((len+m:Nat):Int)>IntKind.i64.max/\inf.bytes=0):=λh=>h63 ⟨h.1,.inr h.2⟩;have key:(Builtin.append_ ts rest #[.slice a len c,x]).run P w=((do
    let newCap<-choose (.appendCap (len+m) c e)
    askRoom (newCap*(<-typeInfo e).bytes)
    let old<-Builtin.firstCells j.size len (.slice a len c);let new<-Builtin.firstCells j.size m x;let rest:=Builtin.zeroCells (<-zeroValue e).cells (newCap - (len+m))
    pure (.slice (some (<-newRow e (old++new++rest))) (len+m) newCap):Sem Value)).run P w:=by
   rcases hu with ⟨e',hd1⟩|hd1;all_goals
    simp only[Builtin.append_,h0,h1,CE,BS,BG,AR,AZ ht,AX,J6 hj w,AZ hd1,BC,Ab,Al,hlen,AK hn,hinf,false_or,AK h63',AK h48,Bc,Aq]
  rw[key];have hch:(choose (.appendCap (len+m) c e)).run P w=.ok cap { w with drawn:=w.drawn+1 }:=(by simp[choose,Sem.run,Question.forced,cap]);simp only[AR,hch,AX,hinf2,run_askRoom,ho,hf,hz1,BC];rfl
end
end Go.Abs
namespace Go.Abs
variable [Gl]
section
variable {P:Program}{O:Map}{M:QA}{w:World}
def Jt.append{xs ys:List Cell}{a b:Array Value}(h1:Jt O w xs a)(h2:Jt O w ys b):Jt O w (xs++ys) (a++b):=by
 refine⟨by simp[h1.1,h2.1],λi hi=> ?_⟩;by_cases c:i<xs.length
 ·obtain⟨u,h3,h4⟩:=h1.2 i c;refine⟨u,?_,by rw[Bh c];exact h4⟩;rw[By (by rw[h1.1];exact c)];exact h3
 ·have hi':i - xs.length<ys.length:=(by simp at hi;omega);obtain⟨u,h3,h4⟩:=h2.2 (i - xs.length) hi';refine⟨u,?_,by rw[Bo (by omega)];exact h4⟩;rw[Array.getElem?_append_right (by rw[h1.1];omega),h1.1];exact h3
def push_more(h:HR O M w){cs:List Cell}{arr more:Array Value}(hc:Jt O w cs arr)(e:TypeId)(es:Nat){w':World}(hh:w'.heap=w.heap.push (.cells (arr++more) e))(ho:w'.os=w.os)(hp:w'.output=w.output):
  ∃I',Step O M w I' (M++[{ cs:=cs,es:=es }]) w'/\HR I' (M++[{ cs:=cs,es:=es }]) w'/\I' M.length=some ⟨some ⟨w.heap.size,0,(arr++more).size⟩,es,0⟩:=by
 obtain⟨h1,h2⟩:=HR.push (o:={ cs:=cs,es:=es }) h hh ho hp rfl (by simp[hc.1]) (λi hi=>by
  obtain⟨u,h3,h4⟩:=hc.2 i hi;exact⟨u,by rw[By (by rw[hc.1];exact hi)];exact h3,h4⟩)
 exact⟨_,h1,h2,Map.Qm _ _ _⟩
def HR.writeG(h:HR O M w){id:Nat}{s:Jv}{o o':Obj}{l:Loc}(hid:O id=some s)(hl:s.loc=some l)(ho:M[id]? =some o)
  (P:Program) (off:Nat) (xs:List Cell) (vs:List Value) (hx:Jt O w xs vs.toArray) (hfit:off+xs.length<=l.tot) (s':Jv) (hs':s'.loc=some l) (hes:o'.es=s'.es) (hep:o'.ep=s'.ep)
  (hle:s.ep<=s'.ep) (heq:s.ep=s'.ep->s'=s) (hlen:o'.cs.length<=l.tot)
  (hcs:∀i (hi:i<o'.cs.length),(∃hj:i - off<xs.length,off<=i/\o'.cs[i]=xs[i - off])\/((i<off\/off+xs.length<=i)/\∃hj:i<o.cs.length,o'.cs[i]=o.cs[i])):
  ∃w',(storeCells ⟨l.blk,l.sh+off,none⟩ vs).run P w=.ok () w'/\Step O M w (O.push id s') (M.set id o') w'/\HR (O.push id s') (M.set id o') w':=by
 obtain⟨hn,hxx⟩:=hx;have hn:vs.length=xs.length:=by simpa using hn
 obtain⟨o2,ho2,hor⟩:=h.obj _ _ hid;rw[ho]at ho2;injection ho2 with ho2;subst ho2;obtain⟨h1,h2,h3⟩:=hor;rw[hl]at h3;obtain⟨⟨cells,elem,h4,h5⟩,h6,h7⟩:=h3;have hone:∀v∈vs,v.oneCell'=true:=λv hv=>by obtain⟨i,hi⟩:=List.getElem?_of_mem hv;have hlt:i<xs.length:=(by rw[<-hn];exact(AD.1 hi).1);obtain⟨u,h8,h9⟩:=hxx i hlt;have h8:vs[i]? =some u:=(by simpa using h8);rw[hi]at h8;injection h8 with h8;subst h8;exact CR.Z2 h9
 have hrun:=run_storeCells_at P l.blk (l.sh+off) elem vs 0 cells w h4 (by omega) hone;simp only[BK]at hrun;refine⟨_,hrun,?_⟩;generalize hw':w.setRow l.blk (cells.toList.take (l.sh+off)++vs++cells.toList.drop (l.sh+off+vs.length)).toArray=w';have hnew:w'.heap[l.blk]? =some (.cells (cells.toList.take (l.sh+off)++vs++cells.toList.drop (l.sh+off+vs.length)).toArray elem (0,0)):=by rw[<-hw'];exact setRow_heap w l.blk cells _ elem _ h4
 have hfr:∀b,b<w.heap.size->(∀l',s.loc=some l'->l'.blk≠b)->w'.heap[b]? =w.heap[b]? :=λb _ hb=>by rw[<-hw'];simp only[World.setRow];rw[Array.getElem?_modify];simp[hb l hl]
 have hst0:Step O M w (O.push id s') (M.set id o') w':=by
  refine Step.upd h hid hle heq ?_ ?_ ?_ (λl' hl'=>.inr ⟨id,s,l,hid,hl,by rw[hs']at hl';injection hl' with e;rw[e]⟩) hfr
  ·rw[<-hw'];simp[World.setRow]
  ·rw[<-hw'];rfl
  ·rw[<-hw'];rfl
 have hsz:(cells.toList.take (l.sh+off)++vs++cells.toList.drop (l.sh+off+vs.length)).toArray.size=cells.size:=by simp;omega
 have hcell:∀i v,(cells.toList.take (l.sh+off)++vs++cells.toList.drop (l.sh+off+vs.length))[l.sh+i]? =some v->w'.cell? ⟨l.blk,l.sh+i,none⟩=some v:=λi v hv=>by simp only[World.cell?,hnew];simpa using hv
 have hold:∀i,w.cell? ⟨l.blk,l.sh+i,none⟩=cells[l.sh+i]? :=λi=>by simp[World.cell?,h4]
 have hor':OR (O.push id s') w' o' s':=by
  refine⟨hes,hep,?_⟩;rw[hs'];refine⟨⟨_,elem,hnew,by rw[hsz];exact h5⟩,hlen,λi hi=> ?_⟩;rcases hcs i hi with ⟨hj,hge,e⟩|⟨hout,hj,e⟩
  ·obtain⟨u,h8,h9⟩:=hxx (i - off) hj;refine⟨u,hcell i u ?_,by rw[e];exact h9.step hst0⟩;rw[Ad,AU (by simp;omega)];have e0:l.sh+i - (List.take (l.sh+off) cells.toList).length=i - off:=(by simp;omega);rw[e0,AL (by omega)];simpa using h8
  ·obtain⟨v,h8,h9⟩:=h7 i hj;refine⟨v,hcell i v ?_,by rw[e];exact h9.step hst0⟩;rw[hold i]at h8;rcases hout with hlt|hge
   ·rw[Ad,AL (by simp;omega),List.getElem?_take_of_lt (by omega)];simpa using h8
   ·rw[Ad,AU (by simp;omega)];have e0:l.sh+i - (List.take (l.sh+off) cells.toList).length=i - off:=(by simp;omega);rw[e0,AU (by omega),C7];have e1:l.sh+off+vs.length+(i - off - vs.length)=l.sh+i:=(by omega);rw[e1];simpa using h8
 exact⟨hst0,HR.upd h hid hst0 hfr (λl' hl'=>.inr ⟨l,hl,by rw[hs']at hl';injection hl' with e;rw[e]⟩) hor'⟩
def V4{α:Type}:∀(l:List α) (i:Nat) (x:α),l[i]? =some x->l.set i x=l
 |[],_,_,h=>by simp at h
 |y::l,0,x,h=>by simp at h;simp[h]
 |y::l,i+1,x,h=>by simp at h;simp[V4 l i x h]
def V1(cs:List Cell)(off:Nat):Qo cs off []=cs:=by simp[Qo]
def Vy(h:HR O M w){t u:TypeId}{s x y:AV}{S':QA}(ha:Jk P M t s x=some (y,S'))(hu:(∃e',P.underlying u=some (.slice e'))\/P.underlying u=some .string){sv xv:Value}
  (hs:VR O w s sv) (hx:VR O w x xv) {ts:Array TypeId} (ht0:ts[0]? =some t) (ht1:ts[1]? =some u) (rest:TypeId):ZN P O M w (Builtin.append_ ts rest #[sv,xv]) y S':=by
 unfold Jk at ha;split at ha
 ·rename_i i hi;split at ha
  ·rename_i e hk;have ht:=JK hi hk;split at ha
   ·rename_i j hj;split at ha
    ·rename_i z m hz hm;split at ha
     ·rename_i hzs;obtain⟨hzs,hpos⟩:=hzs;split at ha
      ·rename_i new hnew;obtain⟨hnl,vs,hvs,hfirst⟩:=YC h (P:=P) hnew hx;have hlen:=λw2=>lenE_ok (P:=P) hm hx w2;split at ha
       ·
        rename_i cs len c;split at ha
        ·rename_i hc;obtain⟨rfl,hcs,hroom⟩:=hc;obtain⟨a,c',rfl,hcap,hlc⟩:=YU hs;have hcap:c'=c:=hcap;subst hcap;split at ha
         ·rename_i hm0;subst hm0;injection ha with ha;injection ha with e1 e2;subst e1;subst e2;have hv0:vs=[]:=(by have:=hvs.1;rw[hnl]at this;exact BT (by simpa using this));subst hv0;refine ZN.pure h (XH ht0 ht1 ht hj hu rest (hlen w) (hfirst w rfl) (A5 _) (λb _=> ?_) (λ_=>rfl)) hs;simp[storeCells]
         ·rename_i hm0;injection ha with ha;injection ha with e1 e2;subst e1;subst e2;have hfo:JF M j.size c' (.c (.t (.imm cs c' (some c'))))=some (cs.map .t):=(by simp only[JF];rw[AC ⟨A5 _,hcs⟩,<-hcs,Aa]);obtain⟨hol,vo,hvo,hfold⟩:=YC h (P:=P) hfo hs;obtain⟨cap,more,hge,hms,hrun⟩:=ZV ht0 ht1 ht hj hz hzs hu rest (hlen w) hfirst hfold (by omega) hroom;obtain⟨I',h1,h2,h3⟩:=push_more (more:=more) h (Jt.append hvo hvs) e j.size (w':={ w with drawn:=w.drawn+1,heap:=w.heap.push (.cells (vo.toArray++vs.toArray++more) e) }) rfl rfl rfl;have htot:cap*j.size=(vo.toArray++vs.toArray++more).size:=(by have e1:=hvo.1;have e2:=hvs.1;rw[CI,CI,e1,e2,hms,hol,hnl];have:c'*j.size+m*j.size=(c'+m)*j.size:=(BJ _ _ _).symm;rw[this,<-BJ];congr 1;omega);exact⟨I',_,_,hrun,sl_new (cap:=none) h3 hge trivial (Nat.le_of_eq htot) (λ_=>htot) _,h1,h2⟩
        ·cases ha
       ·
        rename_i r len;split at ha
        ·rename_i o ho;split at ha
         ·rename_i hc;obtain⟨hoff,hoes,hocs,hroom⟩:=hc;injection ha with ha;injection ha with e1 e2;subst e1;subst e2;obtain⟨a,c,rfl,hsome,hr⟩:=hs;obtain⟨sp,hsp,ho',hep,hor,hok⟩:=h.ref ho hr;obtain⟨hlc,_,hok⟩:=hok;have hes:sp.es=j.size:=(by rw[<-hor.1];exact hoes);have hspep:sp.ep=r.ep:=(by rw[<-hor.2.1];exact hep);by_cases hin:len+m<=c
          ·cases hl:sp.loc with
           |none=>
            rw[hl]at hok;have hm0:m=0:=(by omega);subst hm0;have hv0:vs=[]:=(by have:=hvs.1;rw[hnl]at this;exact BT (by simpa using this));have hn0:new=[]:=BT (by rw[hnl];simp);subst hv0;have hocs0:o.cs=[]:=(by have:=hor.2.2;rw[hl]at this;exact this);have hst:Step O M w (O.push r.id ⟨none,sp.es,sp.ep+1⟩) (M.set r.id { o with cs:=o.cs++new,ep:=o.ep+1 }) w:=
             Step.upd h hsp (by simp) (λe=>by simp at e) (A5 _) rfl rfl (λl' hl'=>by cases hl') (λ_ _ _=>rfl)
            have hH:=HR.upd h hsp hst (λ_ _ _=>rfl) (λl' hl'=>by cases hl') ⟨hor.1,by simp[hor.2.1],by simp[hocs0,hn0]⟩;refine⟨_,w,_,XH ht0 ht1 ht hj hu rest (hlen w) (hfirst w rfl) hin (λb _=>by simp[storeCells]) (λ_=>rfl),⟨_,_,rfl,by left;omega,_,Map.Qm _ _ _,by simp[hspep],λ_=>⟨hin,trivial,?_⟩⟩,hst,hH⟩;exact⟨by omega,by omega,hoff⟩
           |some l=>
            rw[hl]at hok;obtain⟨rfl,hle,heq⟩:=hok;have heq:=heq rfl;rw[hoff,hes]at heq hle;simp only[AF]at heq hle;have hmul:len*j.size+m*j.size<=c*j.size:=(by rw[<-BJ];exact Ar _ hin);obtain⟨w',h1,h2,h3⟩:=HR.writeG (o':={ o with cs:=o.cs++new,ep:=o.ep+1 }) h hsp hl ho' P (len*j.size) new vs hvs (by omega) ⟨some l,sp.es,sp.ep+1⟩ rfl hor.1 (by simp[hor.2.1]) (by simp) (λe=>by simp at e)
             (by simp only[AG];omega) (λi hi=>by
              by_cases hlt:i<o.cs.length
              ·exact .inr ⟨.inl (by omega),hlt,by simp[Bh hlt]⟩
              ·have hi':i - len*j.size<new.length:=(by simp at hi;omega);refine .inl ⟨hi',by omega,?_⟩;simp only;rw[Bo (by omega)];congr 1;omega)
            refine⟨_,w',_,XH ht0 ht1 ht hj hu rest (hlen w) (hfirst w rfl) hin (λb hb=> ?_) (λe=>by cases e),⟨_,_,rfl,.inr rfl,_,Map.Qm _ _ _,by simp[hspep],λ_=>⟨hin,trivial,?_⟩⟩,h2,h3⟩
            ·injection hb with hb;subst hb;rw[Y3,hoff];simpa using h1
            ·refine⟨rfl,?_,λ_=> ?_⟩
             ·simp only[hoff,hes];omega
             ·simp only[hoff,hes];omega
          ·have hfo:JF M j.size len (.c (.sl r len none))=some o.cs:=(by simp only[JF,ho];rw[AC ⟨by omega,A5 _⟩,hoff,AW,<-hocs,Aa]);obtain⟨hol,vo,hvo,hfold⟩:=YC h (P:=P) hfo ⟨a,c,rfl,hsome,hr⟩;obtain⟨cap,more,hge,hms,hrun⟩:=ZV ht0 ht1 ht hj hz hzs hu rest (hlen w) hfirst hfold (by omega) hroom;have hca:=Jt.append hvo hvs;generalize hw':({ w with drawn:=w.drawn+1,heap:=w.heap.push (.cells (vo.toArray++vs.toArray++more) e) }:World)=w' at hrun;have hheap:w'.heap=w.heap.push (.cells (vo.toArray++vs.toArray++more) e):=(by rw[<-hw']);have hfr:∀b,b<w.heap.size->w'.heap[b]? =w.heap[b]? :=λb hb=>(by rw[hheap];simp[Ba,Bx hb]);have htot:cap*j.size=(vo.toArray++vs.toArray++more).size:=(by have e1:=hvo.1;have e2:=hvs.1;rw[CI,CI,e1,e2,hms,hol,hnl];have:len*j.size+m*j.size=(len+m)*j.size:=(BJ _ _ _).symm;rw[this,<-BJ];congr 1;omega);have hst:Step O M w (O.push r.id ⟨some ⟨w.heap.size,0,(vo.toArray++vs.toArray++more).size⟩,sp.es,sp.ep+1⟩) (M.set r.id { o with cs:=o.cs++new,ep:=o.ep+1 }) w':=
            Step.upd h hsp (by simp) (λe=>by simp at e) (by rw[hheap];simp) (by rw[<-hw']) (by rw[<-hw']) (λl' hl'=>by injection hl' with hl';exact .inl (by rw[<-hl'];exact A5 _)) (λb hb _=>hfr b hb)
           have hnewb:w'.heap[w.heap.size]? =some (.cells (vo.toArray++vs.toArray++more) e):=(by rw[hheap];simp);have hH:=HR.upd h hsp hst (λb hb _=>hfr b hb) (λl' hl'=>by injection hl' with hl';exact .inl (by rw[<-hl'];exact A5 _)) ⟨hor.1,by simp[hor.2.1],⟨_,e,hnewb,by simp⟩,by
            have e1:=hca.1;simp only[CI]at e1⊢;simp only[AG]at e1⊢;omega,λi hi=>by
            obtain⟨v,h8,h9⟩:=hca.2 i hi;refine⟨v,?_,h9.step hst⟩;simp only[World.cell?,hnewb,AF];have:i<(vo.toArray++vs.toArray).size:=(by rw[hca.1];exact hi);simp only[Option.isSome_none,Ab,Al];rw[By this];exact h8⟩
           refine⟨_,w',_,hrun,⟨_,_,rfl,.inr rfl,_,Map.Qm _ _ _,by simp[hspep],λ_=>⟨hge,trivial,?_⟩⟩,hst,hH⟩;refine⟨by simp[hoff],?_,λ_=> ?_⟩
           ·simp only[hoff,hes];omega
           ·simp only[hoff,hes];omega
         ·cases ha
        ·cases ha
       ·
        rename_i r len c;split at ha
        ·rename_i o ho;obtain⟨a,c',rfl,hsome,hr⟩:=hs;obtain⟨sp,hsp,ho',hep,hor,hok⟩:=h.ref ho hr;obtain⟨hlc,hcap,hok⟩:=hok;have hcap:c'=c:=hcap;subst hcap;split at ha
         ·rename_i hc;obtain⟨hoes,hin,hfit⟩:=hc;have hes:sp.es=j.size:=(by rw[<-hor.1];exact hoes);injection ha with ha;injection ha with e1 e2;subst e1;subst e2;have hmul:len*j.size+m*j.size<=c'*j.size:=by rw[<-BJ];exact Ar _ hin
          cases hl:sp.loc with
          |none=>rw[hl]at hok;have hm0:m=0:=(by omega);subst hm0;have hv0:vs=[]:=(by have:=hvs.1;rw[hnl]at this;exact BT (by simpa using this));have hn0:new=[]:=BT (by rw[hnl];simp);subst hv0;subst hn0;rw[V1];have:({ o with cs:=o.cs }:Obj)=o:=rfl;rw[this,V4 _ _ _ ho'];exact ZN.pure h (XH ht0 ht1 ht hj hu rest (hlen w) (hfirst w rfl) hin (λb _=>by simp[storeCells]) (λ_=>rfl)) ⟨_,_,rfl,by left;omega,sp,hsp,by rw[<-hor.2.1,hep];exact A5 _,λ_=>⟨hin,rfl,by rw[hl];exact⟨by omega,by omega,hok.2.2⟩⟩⟩
          |some l=>rw[hl]at hok;obtain⟨rfl,hle,heq⟩:=hok;obtain⟨w',h1,h2,h3⟩:=HR.write h hsp hl ho' P (r.off+len*j.size) new vs (by simpa using hvs.1) (λk hk=>by simpa using hvs.2 k hk) (by omega);refine⟨O,w',_,XH ht0 ht1 ht hj hu rest (hlen w) (hfirst w rfl) hin (λb hb=> ?_) (λe=>by cases e),⟨_,_,rfl,.inr rfl,sp,hsp,by rw[<-hor.2.1,hep];exact A5 _,λ_=>⟨hin,rfl,by rw[hl];exact⟨rfl,hle,λe=>by cases e⟩⟩⟩,h2,h3⟩;injection hb with hb;subst hb;rw[Y3,CJ];simpa using h1
         ·split at ha
          ·rename_i hc;obtain⟨hoes,hgt,hle',hfit,hroom⟩:=hc;injection ha with ha;injection ha with e1 e2;subst e1;subst e2;have hmul:len*j.size<=c'*j.size:=Ar _ hle';have hfo:JF M j.size len (.c (.sl r len (some c')))=some ((o.cs.drop r.off).take (len*j.size)):=(by simp only[JF,ho];rw[AC ⟨by omega,A5 _⟩]);obtain⟨hol,vo,hvo,hfold⟩:=YC h (P:=P) hfo ⟨a,c',rfl,hsome,hr⟩;obtain⟨cap,more,hge,hms,hrun⟩:=ZV ht0 ht1 ht hj hz hzs hu rest (hlen w) hfirst hfold hgt hroom;obtain⟨I',h1,h2,h3⟩:=push_more (more:=more) h (Jt.append hvo hvs) e j.size (w':={ w with drawn:=w.drawn+1,heap:=w.heap.push (.cells (vo.toArray++vs.toArray++more) e) }) rfl rfl rfl;have htot:cap*j.size=(vo.toArray++vs.toArray++more).size:=(by have e1:=hvo.1;have e2:=hvs.1;rw[CI,CI,e1,e2,hms,hol,hnl];have:len*j.size+m*j.size=(len+m)*j.size:=(BJ _ _ _).symm;rw[this,<-BJ];congr 1;omega);exact⟨I',_,_,hrun,sl_new (cap:=none) h3 hge trivial (Nat.le_of_eq htot) (λ_=>htot) _,h1,h2⟩
          ·cases ha
        ·cases ha
       ·cases ha
      ·cases ha
     ·cases ha
    ·cases ha
   ·cases ha
  ·cases ha
 ·cases ha
end
end Go.Abs
namespace Go.Abs
variable [Gl]
section
variable {P:Program}{O:Map}{M:QA}{w:World}
def V7{t e:TypeId}{j:JD}(ht:P.underlying t=some (.slice e))(hj:tinf P e=some j)(ts:Array TypeId)(hts:ts[0]? =some t)(rest:TypeId){a:Option Addr}{len c m:Nat}{x:Value}{new:Array Value}
  (hlen:(Builtin.lenOf x).run P w=.ok m w) (hfirst:(Builtin.firstCells j.size (min m len) x).run P w=.ok new w) {w':World}
  (hst:∀b,a=some b->(storeCells b new.toList).run P w=.ok () w') (hst':a=none->w'=w):
  (Builtin.copy_ ts rest #[.slice a len c,x]).run P w=.ok (.int .i64 ((min m len:Nat):Int)) w':=by
 have hmin:Nat.min m len=min m len:=rfl
 cases a with
 |none=>obtain rfl:=hst' rfl;simp only[Builtin.copy_,hts,CE,BS,BG,AR,AZ ht,AX,J6 hj,BC,hlen,hmin,hfirst];rfl
 |some b=>simp only[Builtin.copy_,hts,CE,BS,BG,AR,AZ ht,AX,J6 hj,BC,hlen,hmin,hfirst,hst b rfl];rfl
def copyE_ok(h:HR O M w){t:TypeId}{d x y:AV}{S':QA}(ha:Uc P M t d x=some (y,S'))(ts:Array TypeId)(hts:ts[0]? =some t){dv xv:Value}
  (hd:VR O w d dv) (hx:VR O w x xv) (rest:TypeId):ZN P O M w (Builtin.copy_ ts rest #[dv,xv]) y S':=by
 unfold Uc at ha;split at ha
 ·rename_i i hi;split at ha
  ·rename_i e hk;have ht:=JK hi hk;split at ha
   ·rename_i j hj;split at ha
    ·rename_i r len cap m hm;split at ha
     ·rename_i o new ho hnew;split at ha
      ·rename_i hc;obtain⟨hoes,hfit⟩:=hc;injection ha with ha;injection ha with e1 e2;subst e1;subst e2;obtain⟨hnl,vs,hvs,hfirst⟩:=YC h (P:=P) hnew hx;obtain⟨a,c,rfl,hsome,hr⟩:=hd;obtain⟨sp,hsp,ho',hep,hor,hok⟩:=h.ref ho hr;obtain⟨hlc,hcap,hok⟩:=hok;have hlen:=lenE_ok (P:=P) hm hx w;have hmul:min m len*j.size<=len*j.size:=Ar _ (by omega)
       cases hl:sp.loc with
       |none=>rw[hl]at hok;have hl0:len=0:=hok.1;subst hl0;have hn0:new=[]:=BT (by rw[hnl];simp);have hv0:vs=[]:=(by have:=hvs.1;rw[hn0]at this;exact BT (by simpa using this));subst hn0;subst hv0;rw[V1];have:({ o with cs:=o.cs }:Obj)=o:=rfl;rw[this,V4 _ _ _ ho'];exact ZN.pure h (V7 ht hj ts hts rest hlen (hfirst w rfl) (λb _=>by simp[storeCells]) (λ_=>rfl)) (TR.int _ _)
       |some l=>rw[hl]at hok;obtain⟨rfl,hle,heq⟩:=hok;obtain⟨w',h1,h2,h3⟩:=HR.write h hsp hl ho' P r.off new vs (by simpa using hvs.1) (λk hk=>by simpa using hvs.2 k hk) (by omega);refine⟨O,w',_,V7 ht hj ts hts rest hlen (hfirst w rfl) (λb hb=> ?_) (λe=>by cases e),TR.int _ _,h2,h3⟩;injection hb with hb;subst hb;simpa using h1
      ·cases ha
     ·cases ha
    ·rename_i m hm;injection ha with ha;injection ha with e1 e2;subst e1;subst e2;obtain⟨a,c,rfl,_,_⟩:=YU hd;have hlen:=lenE_ok (P:=P) hm hx w;rename_i cs cap;have hf0:(Builtin.firstCells j.size (min m 0) xv).run P w=.ok #[] w:=by
      rw[Nat.min_zero];unfold lenE at hm;split at hm
      ·obtain⟨a',c',rfl,_⟩:=hx;cases a'<;>simp[Builtin.firstCells,loadCells,loadCellsFrom]
      ·obtain⟨a',c',rfl,_⟩:=YU hx;cases a'<;>simp[Builtin.firstCells,loadCells,loadCellsFrom]
      ·obtain rfl:=ZR hx;simp only[Builtin.firstCells,Vr];rfl
      ·cases hm
     have:=V7 (a:=a) (c:=c) ht hj ts hts rest hlen hf0 (w':=w) (λb _=>by simp[storeCells]) (λ_=>rfl);exact ZN.pure h this (by rw[Nat.min_zero];exact TR.int _ _)
    ·cases ha
   ·cases ha
  ·cases ha
 ·cases ha
def Wi{N:Nat}{r:QB}{a:Act}(hr:JP N O w r a){xs:List Operand}{vs:List AV}(h:evl r xs=some vs):∃us:List Value,xs.map a.eval=us/\us.length=vs.length/\∀i (hi:i<vs.length),∃u,us[i]? =some u/\VR O w vs[i] u:=by obtain⟨h1,h2⟩:=evl_ok hr h;refine⟨_,rfl,by simp[h1],λi hi=> ?_⟩;obtain⟨x,h3,h4⟩:=h2 i hi;exact⟨_,by simp[h3],h4⟩
def vals1{vs:AV}{us:List Value}(h:us.length=[vs].length/\∀i (hi:i<[vs].length),∃u,us[i]? =some u/\VR O w [vs][i] u):∃u,us=[u]/\VR O w vs u:=by
 obtain⟨h1,h2⟩:=h
 match us,h1 with
 |[u],_=>obtain⟨u',h3,h4⟩:=h2 0 (by simp);simp at h3;subst h3;exact⟨_,rfl,h4⟩
def vals2{x y:AV}{us:List Value}(h:us.length=[x,y].length/\∀i (hi:i<[x,y].length),∃u,us[i]? =some u/\VR O w [x,y][i] u):∃u v,us=[u,v]/\VR O w x u/\VR O w y v:=by
 obtain⟨h1,h2⟩:=h
 match us,h1 with
 |[u,v],_=>obtain⟨u',h3,h4⟩:=h2 0 (by simp);obtain⟨v',h5,h6⟩:=h2 1 (by simp);simp at h3 h5;subst h3;subst h5;exact⟨_,_,rfl,h4,h6⟩
def builtinE_ok(h:HR O M w){b:Builtin}{ts:Array TypeId}{args:List AV}{y:AV}{S':QA}(hb:Qu P M b ts args=some (y,S')){us:List Value}
  (hu:us.length=args.length/\∀i (hi:i<args.length),∃u,us[i]? =some u/\VR O w args[i] u) (rest:TypeId) (consts:Array Bool):
  ∃s:Sem Value,builtin b ts rest consts us.toArray=(do pure (.value (<-s)))/\ZN P O M w s y S':=by
 unfold Qu at hb;split at hb
 ·rename_i x;obtain⟨u,rfl,hx⟩:=vals1 hu;refine⟨Builtin.len_ ts rest #[u],rfl,?_⟩;split at hb
  ·rename_i t ht;split at hb
   ·rename_i i hi;split at hb
    ·rename_i e r n cap hk;injection hb with hb;injection hb with e1 e2;subst e1;subst e2;obtain⟨a,c,rfl,_⟩:=hx;exact ZN.pure h (by simp[Builtin.len_,ht,AZ (JK hi hk)];rfl) (TR.int _ _)
    ·rename_i e cs n cap hk;injection hb with hb;injection hb with e1 e2;subst e1;subst e2;obtain⟨a,c,rfl,_⟩:=YU hx;exact ZN.pure h (by simp[Builtin.len_,ht,AZ (JK hi hk)];rfl) (TR.int _ _)
    ·rename_i s hk;injection hb with hb;injection hb with e1 e2;subst e1;subst e2;obtain rfl:=ZR hx;exact ZN.pure h (by simp[Builtin.len_,ht,AZ (Xd hi hk)];rfl) (TR.int _ _)
    ·rename_i n e hk;injection hb with hb;injection hb with e1 e2;subst e1;subst e2;exact ZN.pure h (by simp[Builtin.len_,ht,AZ (YQ hi hk)];rfl) (TR.int _ _)
    ·cases hb
   ·cases hb
  ·cases hb
 ·rename_i x;obtain⟨u,rfl,hx⟩:=vals1 hu;refine⟨Builtin.cap_ ts rest #[u],rfl,?_⟩;split at hb
  ·rename_i t ht;split at hb
   ·rename_i i hi;split at hb
    ·rename_i e hk;split at hb
     ·rename_i r len c0;split at hb
      ·rename_i o ho;injection hb with hb;injection hb with e1 e2;subst e1;subst e2;obtain⟨a,c',rfl,hsome,hr⟩:=hx;obtain⟨sp,hsp,ho',hep,hor,hok⟩:=h.ref ho hr;have hcap:c'=c0:=hok.2.1;subst hcap;exact ZN.pure h (by simp[Builtin.cap_,ht,AZ (JK hi hk)];rfl) (TR.int _ _)
      ·cases hb
     ·rename_i cs len c0;injection hb with hb;injection hb with e1 e2;subst e1;subst e2;obtain⟨a,c',rfl,hcap,_⟩:=YU hx;simp only[Zu]at hcap;subst hcap;exact ZN.pure h (by simp[Builtin.cap_,ht,AZ (JK hi hk)];rfl) (TR.int _ _)
     ·cases hb
    ·cases hb
   ·cases hb
  ·cases hb
 ·rename_i s x;obtain⟨u,v,rfl,hs,hx⟩:=vals2 hu;refine⟨Builtin.append_ ts rest #[u,v],rfl,?_⟩;split at hb
  ·rename_i t u' ht hu';split at hb
   ·rename_i i hi;split at hb
    ·rename_i e hk;exact Vy h hb (.inl ⟨e,JK hi hk⟩) hs hx ht hu' rest
    ·rename_i hk;exact Vy h hb (.inr (Xd hi hk)) hs hx ht hu' rest
    ·cases hb
   ·cases hb
  ·cases hb
 ·rename_i d s;obtain⟨u,v,rfl,hd,hs⟩:=vals2 hu;refine⟨Builtin.copy_ ts rest #[u,v],rfl,?_⟩;split at hb
  ·rename_i t ht;exact copyE_ok h hb ts ht hd hs rest
  ·cases hb
 ·refine⟨Builtin.min_ ts rest us.toArray,rfl,?_⟩;simp only[WF,A0]at hb;obtain⟨x,hm,rfl,rfl⟩:=hb;unfold Zp at hm;split at hm
  ·obtain⟨u,v,rfl,h1,h2⟩:=vals2 hu;obtain rfl:=int_of h1;obtain rfl:=int_of h2;split at hm
   ·rename_i hk;subst hk;injection hm with hm;subst hm;simp only[Ab,Al];exact ZN.pure h (by simp[Builtin.min_,Builtin.min2]) (TR.int _ _)
   ·cases hm
  ·cases hm
 ·refine⟨Builtin.max_ ts rest us.toArray,rfl,?_⟩;simp only[WF,A0]at hb;obtain⟨x,hm,rfl,rfl⟩:=hb;unfold Zp at hm;split at hm
  ·obtain⟨u,v,rfl,h1,h2⟩:=vals2 hu;obtain rfl:=int_of h1;obtain rfl:=int_of h2;split at hm
   ·rename_i hk;subst hk;injection hm with hm;subst hm;simp only[Aq];exact ZN.pure h (by simp[Builtin.max_,Builtin.max2]) (TR.int _ _)
   ·cases hm
  ·cases hm
 ·cases hb
end
end Go.Abs
namespace Go.Abs
variable [Gl]
section
variable {P:Program}{O:Map}{M:QA}{w:World}
def tsOfAV_ok:∀{vs:List AV} {ts:List T},Ke vs=some ts->ts.length=vs.length/\∀i (h:i<ts.length),∃hq,vs[i]'hq=.c (.t ts[i])
 |[],ts,h=>by simp only[Ke,Kn]at h;subst h;exact⟨rfl,λi hi=>absurd hi (by simp)⟩
 |v::vs,ts,h=>by
  unfold Ke at h;split at h
  ·rename_i heq;cases heq
  ·rename_i x rest heq;injection heq with e1 e2;subst e1;subst e2;simp only[WF]at h;obtain⟨ts',h1,rfl⟩:=h;obtain⟨h2,h3⟩:=tsOfAV_ok h1;refine⟨by simp[h2],λi hi=> ?_⟩
   cases i with
   |zero=>exact⟨by simp,rfl⟩
   |succ i=>obtain⟨h',h4⟩:=h3 i (by simpa using hi);exact⟨by simpa using h',by simpa using h4⟩
  ·cases h
def Wz:∀{vs:List AV} {ts:List Ref},refsOf vs=some ts->ts.length=vs.length/\∀i (h:i<ts.length),∃hq,vs[i]'hq=.c (.ptr ts[i])
 |[],ts,h=>by simp only[refsOf,Kn]at h;subst h;exact⟨rfl,λi hi=>absurd hi (by simp)⟩
 |v::vs,ts,h=>by
  unfold refsOf at h;split at h
  ·rename_i heq;cases heq
  ·rename_i x rest heq;injection heq with e1 e2;subst e1;subst e2;simp only[WF]at h;obtain⟨ts',h1,rfl⟩:=h;obtain⟨h2,h3⟩:=Wz h1;refine⟨by simp[h2],λi hi=> ?_⟩
   cases i with
   |zero=>exact⟨by simp,rfl⟩
   |succ i=>obtain⟨h',h4⟩:=h3 i (by simpa using hi);exact⟨by simpa using h',by simpa using h4⟩
  ·cases h
def makeFuncE_ok{f:FuncId}{caps:List AV}{y:AV}(h:ZP f caps=some y){us:List Value}
  (hu:us.length=caps.length/\∀i (hi:i<caps.length),∃u,us[i]? =some u/\VR O w caps[i] u):VR O w y (.func (.func f) #[] us.toArray):=by
 unfold ZP at h;split at h
 ·rename_i ts hts;injection h with h;subst h;obtain⟨h1,h2⟩:=tsOfAV_ok hts;refine TR.fn f ts us.toArray (by simp[hu.1,h1]) (λi hi=> ?_);obtain⟨h',e⟩:=h2 i hi;obtain⟨u,h3,h4⟩:=hu.2 i h';rw[e]at h4;have:us.toArray.getD i undef=u:=(by simp[h3]);rw[this];exact h4
 ·split at h
  ·rename_i rs hrs;split at h
   ·cases h
   rename_i hy;injection h with h;subst h;obtain⟨h1,h2⟩:=Wz hrs;have hb:¬BND<=f:=λe=>(by rw[CB e,CG]at hy;cases hy);refine cloR.mk (λe=>by subst e;simp at hy) ⟨us.toArray,(fnv_no hb _).symm,by simp[hu.1,h1],λi hi=> ?_⟩;obtain⟨h',e⟩:=h2 i hi;obtain⟨u,h3,h4⟩:=hu.2 i h';rw[e]at h4;obtain⟨ad,rfl,h5⟩:=h4;exact⟨ad,by simp[h3],h5⟩
  ·cases h
def makeBoundE_ok{f:FuncId}{first:List AV}{y:AV}(h:Za f first=some y){us:List Value}
  (hu:us.length=first.length/\∀i (hi:i<first.length),∃u,us[i]? =some u/\VR O w first[i] u):VR O w y (.func (.func f) us.toArray #[]):=by
 unfold Za at h;split at h
 ·rename_i rs hrs;injection h with h;subst h;obtain⟨h1,h2⟩:=Wz hrs;refine cloR.mk (λe=>absurd (e▸Nat.le_add_right BND f:BND<=YID) (by decide)) ⟨us.toArray,(fnv_bnd _ _).symm,by simp[hu.1,h1],λi hi=> ?_⟩;obtain⟨h',e⟩:=h2 i hi;obtain⟨u,h3,h4⟩:=hu.2 i h';rw[e]at h4;obtain⟨ad,rfl,h5⟩:=h4;exact⟨ad,by simp[h3],h5⟩
 ·cases h
def Did(P:Program)(O:Map)(M:QA)(w:World)(s:Sem Next)(res:Option AV)(S':QA):Prop:=
 ∃I' w' nx,s.run P w=.ok nx w'/\(match res with|some x=>∃v,nx=.value v/\VR I' w' x v|none=>nx=.skip)/\Step O M w I' S' w'/\HR I' S' w'
def ZN.did{s:Sem Value}{x:AV}{S':QA}(h:ZN P O M w s x S'){s2:Sem Next}(e:∀v w',s.run P w=Result.ok v w'->s2.run P w=Result.ok (Next.value v) w'):Did P O M w s2 (some x) S':=by obtain⟨I',w',v,h1,h2,h3,h4⟩:=h;exact⟨I',w',_,e v w' h1,⟨v,rfl,h2⟩,h3,h4⟩
def J9(h:HR O M w){s:Sem Next}{x:AV}{v:Value}(hr:s.run P w=Result.ok (Next.value v) w)(hv:VR O w x v):Did P O M w s (some x) M:=
 ⟨O,w,_,hr,⟨v,rfl,hv⟩,Step.refl O M w,h⟩
def fn_of{f:FuncId}{cs:List T}{v:Value}(h:VR O w (.c (.t (.fn f cs))) v):∃arr,v=.func (.func f) #[] arr:=by cases h;exact⟨_,rfl⟩
def keyOf_i64{P P':Program}{k k':TypeId}(h:P.underlying k=some (.int .i64))(h':P'.underlying k'=some (.int .i64)):keyOf P k=keyOf P' k':=by funext v;simp only[keyOf,h,h',mapKey]
def plainElem_i64{P P':Program}{k k':TypeId}(h:P.underlying k=some (.int .i64))(h':P'.underlying k'=some (.int .i64)):(plainElem P k:Value->Option (DataW Unit×List MemPlace))=plainElem P' k':=by funext v;simp only[plainElem,h,h']
def mapD.own{w:World}{b:Nat}{D:DataW Unit}(h:mapD w b D){P:Program}{k e:TypeId}(hk:P.underlying k=some (.int .i64))(he:P.underlying e=some (.int .i64)):∃n,w.ownsMap P k (plainElem P e) b n D:=by
 obtain⟨P0,k0,e0,n,hk0,he0,es,clock,hb,F,hs,hD⟩:=h;have e1:=keyOf_i64 hk0 hk;have e2:=plainElem_i64 he0 he;have e3:(Go.WideElems.rd P0 k0 (plainElem P0 e0):MapEntry->Option (Lit×DataW Unit))=Go.WideElems.rd P k (plainElem P e):=by funext x;unfold Go.WideElems.rd;rw[e1,e2]
 have e4:(Go.WideElems.rg P0 k0 (plainElem P0 e0):MapEntry->Lit×DataW Unit)=Go.WideElems.rg P k (plainElem P e):=by funext x;unfold Go.WideElems.rg;rw[e3]
 exact⟨n,es,clock,hb,⟨F.size,F.stamped,λx hx=>by rw[<-e3];exact F.reads x hx⟩,hs,by rw[<-e4];exact hD⟩
def lookupE_ok{t:TypeId}{x y z:AV}{u k:Value}(h:lookupE P t x y=some z)(hx:VR O w x u)(hy:VR O w y k):∃v,(Instr.lookup t u k true).run P w=.ok v w/\VR O w z v:=by
 unfold lookupE at h;split at h
 ·rename_i m n;cases (show TR O.un w (.int .i64 n) k from hy);split at h
  ·rename_i kt et ht;split at h
   ·rename_i inf hk hwf hinf;have K:Maps.Keyed P kt:=Maps.int_keyed hk;have hkey:keyOf P kt (.int .i64 n)=some (.int .i64 n):=(by simp[keyOf,hk,mapKey,hwf]);split at h
    ·cases (show TR O.un w (.mp none) u from hx);split at h
     ·rename_i arr hz;rw[WF]at h;obtain⟨ts,hts,rfl⟩:=h;have hz':(zeroValue et).run P w=.ok (.agg arr) w:=(by simp[zeroValue,typeInfo,hinf,hz]);refine⟨_,Maps.look_nil true K ht hz' hkey,?_⟩;obtain⟨h1,h2⟩:=Uj (U:=O.un) (w:=w) hts;refine⟨_,rfl,rfl,λi hi=> ?_⟩;have:i=0\/i=1:=(by simp at hi;omega);rcases this with rfl|rfl
      ·refine⟨.agg arr,rfl,arr,rfl,by simpa using h1.symm,λj hj=> ?_⟩;obtain⟨v,h3,h4⟩:=h2 j (by simpa using hj);exact⟨v,by simpa using h3,by simp only[AP];exact h4⟩
      ·exact⟨.bool false,rfl,.bool false⟩
     ·cases h
    ·rename_i D
     cases (show TR O.un w (.mp (some D)) u from hx) with
     |mp _ b hb hm=>
     split at h
     ·rename_i c he hz hat;injection h with h;subst h;obtain⟨nn,hown⟩:=hm.own (P:=P) hk he;have hz':(zeroValue et).run P w=.ok (.int .i64 0) w:=(by simp[zeroValue,typeInfo,hinf,hz]);obtain⟨v,ps,hrun,hv⟩:=hown.look_ok K ht hz' (plainElem_int he (by decide)) hkey;rw[hat]at hv;obtain⟨c',rfl,hc,_⟩:=plainElem_int_inv he hv;have:c'=c:=(by have h1:=congrArg Prod.fst hc;injection h1 with h1;injection h1 with _ h1;exact h1.symm);subst this;refine⟨_,hrun,_,rfl,rfl,λi hi=> ?_⟩;have:i=0\/i=1:=(by simp at hi;omega);rcases this with rfl|rfl
      ·exact⟨_,rfl,.int _ _⟩
      ·exact⟨_,rfl,.bool _⟩
     ·cases h
   ·cases h
  ·cases h
 ·cases h
def opE_ok{N:Nat}{r:QB}{a:Act}(h:HR O M w)(hr:JP N O w r a){o:Oper}{res:Option AV}{S':QA}(ho:opE P r M o.op=some (res,S')):
  Did P O M w (execOp a.eval o) res S':=by
 obtain⟨dst,op,type,pos,after,guard⟩:=o;simp only at ho;unfold opE at ho;split at ho
 ·
  rename_i x;simp only[WF,A0]at ho;obtain⟨v,h1,rfl,rfl⟩:=ho;exact J9 h rfl (ev_ok hr h1)
 ·
  rename_i x;simp only[WF,A0]at ho;obtain⟨v,h1,rfl,rfl⟩:=ho;exact J9 h rfl (ev_ok hr h1)
 ·
  rename_i c x y;split at ho
  ·rename_i t hc;simp only[WF,A0]at ho;obtain⟨v,h1,rfl,rfl⟩:=ho;have hb:=bool_of (ev_ok hr hc);have hv:=ev_ok hr h1;refine J9 h (v:=a.eval (if t then x else y)) ?_ hv;simp only[execOp,AR,hb,asBool,BC,AX];cases t<;>rfl
  ·cases ho
 ·
  rename_i e;split at ho
  ·rename_i i hi;split at ho
   ·rename_i z hz;injection ho with ho;injection ho with e1 e2;subst e1;subst e2;exact(alloc_ok h hi hz).did (λv' w' hv'=>by simp only[execOp];rw[AR,hv'];rfl)
   ·cases ho
  ·cases ho
 ·
  rename_i t x;split at ho
  ·rename_i v hv;split at ho
   ·rename_i hf;injection ho with ho;injection ho with e1 e2;subst e1;subst e2;exact(box_ok h hf (ev_ok hr hv) t).did (λv' w' hv'=>by simp only[execOp];rw[AR,hv'];rfl)
   ·cases ho
  ·cases ho
 ·
  rename_i t ps;split at ho
  ·rename_i vs hvs;simp only[WF,A0]at ho;obtain⟨v,h1,rfl,rfl⟩:=ho;have hps:=evs_ok hr hvs;obtain⟨z,h2,h3⟩:=buildE_ok (w:=w) h1 (vs:=ps.map λ(i,x)=>(i,a.eval x)) (by simpa using hps);exact J9 h (by simp only[execOp];rw[AR,h2];rfl) h3
  ·cases ho
 ·
  rename_i t n ps;split at ho
  ·rename_i vs hvs;simp only[WF,A0]at ho;obtain⟨⟨v,A1⟩,h1,rfl,rfl⟩:=ho;have hps:=evs_ok hr hvs;exact(Vt h h1 (vs:=ps.map λ(i,x)=>(i,a.eval x)) (by simpa using hps)).did (λv' w' hv'=>by simp only[execOp];rw[AR,hv'];rfl)
  ·cases ho
 ·
  rename_i t x;split at ho
  ·rename_i i v hi hv;simp only[WF,A0]at ho;obtain⟨u,h1,rfl,rfl⟩:=ho;obtain⟨z,h2,h3⟩:=loadE_ok (P:=P) hi h (ev_ok hr hv) h1;exact J9 h (by simp only[execOp];rw[AR,h2];rfl) h3
  ·cases ho
 ·
  rename_i t x y;split at ho
  ·rename_i i v u hi hv hu;simp only[WF,A0]at ho;obtain⟨A1,h1,rfl,rfl⟩:=ho;obtain⟨I',w',h2,h3,h4⟩:=storeE_ok (P:=P) h hi (ev_ok hr hv) (ev_ok hr hu) h1;exact⟨I',w',_,by simp[execOp,h2],rfl,h3,h4⟩
  ·cases ho
 ·
  rename_i x;split at ho
  ·rename_i p hx;injection ho with ho;injection ho with e1 e2;subst e1;subst e2;have hv:=ev_ok hr hx;have hv':=hv;obtain⟨ad,e,_⟩:=hv;exact J9 h (v:=a.eval x) (by simp only[execOp,e];rfl) hv'
  ·rename_i cs hx;injection ho with ho;injection ho with e1 e2;subst e1;subst e2;have hv:=ev_ok hr hx;obtain⟨b,off,e,_⟩:=WY hv;exact J9 h (v:=a.eval x) (by simp only[execOp,e];rfl) hv
  ·rename_i f cs hx;injection ho with ho;injection ho with e1 e2;subst e1;subst e2;have hv:=ev_ok hr hx;obtain⟨arr,e⟩:=fn_of hv;exact J9 h (v:=a.eval x) (by simp only[execOp,e];rfl) hv
  ·rename_i f cs hx;injection ho with ho;injection ho with e1 e2;subst e1;subst e2;have hv:=ev_ok hr hx;have hv':=hv;rcases cloR.func hv with ⟨g,a0,b0,e⟩|⟨l,e⟩<;>exact J9 h (v:=a.eval x) (by simp only[execOp,e];rfl) hv'
  ·cases ho
 ·
  rename_i op xT x y yT;split at ho
  ·rename_i u v hu hv;simp only[WF,A0]at ho;obtain⟨t,h1,rfl,rfl⟩:=ho;obtain⟨z,h2,h3⟩:=binE_ok h1 (ev_ok hr hu) (ev_ok hr hv) x y;exact J9 h (by simp only[execOp];rw[AR,h2];rfl) h3
  ·cases ho
 ·
  rename_i op xT x;split at ho
  ·rename_i u hu;simp only[WF,A0]at ho;obtain⟨t,h1,rfl,rfl⟩:=ho;obtain⟨z,h2,h3⟩:=unE_ok (P:=P) h1 (ev_ok hr hu);exact J9 h (by simp only[execOp];rw[AR,h2];rfl) h3
  ·cases ho
 ·
  rename_i src d x;split at ho
  ·rename_i u hu;simp only[WF,A0]at ho;obtain⟨t,h1,rfl,rfl⟩:=ho;obtain⟨z,h2,h3⟩:=convE_ok h1 (ev_ok hr hu);exact J9 h (by simp only[execOp];rw[AR,h2];rfl) h3
  ·cases ho
 ·
  rename_i f first caps
  split at ho
  ·rename_i hf;split at ho
   ·rename_i vs hvs;simp only[WF,A0]at ho;obtain⟨y,h1,rfl,rfl⟩:=ho;obtain⟨us,hus,h2⟩:=Wi hr hvs;have hfirst:first= #[]:=Array.eq_empty_of_size_eq_zero hf
    subst hfirst;refine J9 h ?_ (makeFuncE_ok h1 h2);simp only[execOp,Instr.makeFunc,AR,BC,AX];congr 3
    ·simp
    ·apply Array.ext';simpa using hus
   ·cases ho
  ·split at ho
   ·rename_i hf;split at ho
    ·rename_i vs hvs;simp only[WF,A0]at ho;obtain⟨y,h1,rfl,rfl⟩:=ho;obtain⟨us,hus,h2⟩:=Wi hr hvs;have hcaps:caps= #[]:=Array.eq_empty_of_size_eq_zero hf;subst hcaps;refine J9 h ?_ (makeBoundE_ok h1 h2);simp only[execOp,Instr.makeFunc,AR,BC,AX];congr 3
     ·apply Array.ext';simpa using hus
     ·simp
    ·cases ho
   ·cases ho
 ·
  rename_i t l c;split at ho
  ·rename_i u v hu hv;simp only[WF,A0]at ho;obtain⟨⟨y,A1⟩,h1,rfl,rfl⟩:=ho;exact(makeSliceE_ok h h1 (ev_ok hr hu) (ev_ok hr hv)).did (λv' w' hv'=>by simp only[execOp];rw[AR,hv'];rfl)
  ·cases ho
 ·
  rename_i t x lo hi mx;split at ho
  ·rename_i v l hh m hv hl hhi hm;simp only[WF,A0]at ho;obtain⟨y,h1,rfl,rfl⟩:=ho;obtain⟨z,h2,h3⟩:=sliceE_ok h h1 (ev_ok hr hv) (evo_ok hr hl) (evo_ok hr hhi) (evo_ok hr hm);exact J9 h (by simp only[execOp];rw[AR,h2];rfl) h3
  ·cases ho
 ·
  rename_i t x f;split at ho
  ·rename_i v hv;simp only[WF,A0]at ho;obtain⟨y,h1,rfl,rfl⟩:=ho;obtain⟨z,h2,h3⟩:=fieldAddrE_ok h1 (ev_ok hr hv);exact J9 h (by simp only[execOp];rw[AR,h2];rfl) h3
  ·cases ho
 ·
  rename_i t x f;split at ho
  ·rename_i v hv;simp only[WF,A0]at ho;obtain⟨y,h1,rfl,rfl⟩:=ho;obtain⟨z,h2,h3⟩:=fieldE_ok h1 (ev_ok hr hv);exact J9 h (by simp only[execOp];rw[AR,h2];rfl) h3
  ·cases ho
 ·
  rename_i t x i;split at ho
  ·rename_i v n hv hn;simp only[WF,A0]at ho;obtain⟨y,h1,rfl,rfl⟩:=ho;obtain⟨z,h2,h3⟩:=indexAddrE_ok h h1 (ev_ok hr hv) (ev_ok hr hn);exact J9 h (by simp only[execOp];rw[AR,h2];rfl) h3
  ·cases ho
 ·
  rename_i t x i;split at ho
  ·rename_i v n hv hn;simp only[WF,A0]at ho;obtain⟨y,h1,rfl,rfl⟩:=ho;obtain⟨z,h2,h3⟩:=indexE_ok h1 (ev_ok hr hv) (ev_ok hr hn);exact J9 h (by simp only[execOp];rw[AR,h2];rfl) h3
  ·cases ho
 ·
  rename_i x i;split at ho
  ·rename_i v hv;simp only[WF,A0]at ho;obtain⟨y,h1,rfl,rfl⟩:=ho;obtain⟨z,h2,h3⟩:=extractE_ok (P:=P) h1 (ev_ok hr hv);exact J9 h (by simp only[execOp];rw[AR,h2];rfl) h3
  ·cases ho
 ·
  rename_i b args ts;split at ho
  ·rename_i vs hvs;simp only[WF,A0]at ho;obtain⟨⟨y,A1⟩,h1,rfl,rfl⟩:=ho;obtain⟨us,hus,h2⟩:=Wi hr hvs;have hargs:args.map a.eval=us.toArray:=(by apply Array.ext';simpa using hus);obtain⟨s,h3,h4⟩:=builtinE_ok h h1 h2 type (args.map fun|.const _=>true|_=>false);have:execOp a.eval { dst:=dst,op:=.call { callee:=.builtin b,args:=args,argTypes:=ts },type:=type,pos:=pos,after:=after,guard:=guard }=(s>>=λv=>Pure.pure (Next.value v)):=(by have h3':builtin b ts type (args.map fun|.const _=>true|_=>false) us.toArray=(s>>=λv=>Pure.pure (Next.value v)):=h3;rw[<-h3'];simp only[execOp,resolve,hargs];rfl);rw[this];exact h4.did (λv' w' hv'=>by rw[AR,hv'];rfl)
  ·cases ho
 ·
  rename_i t x k;split at ho
  ·rename_i v n hv hn;simp only[WF,A0]at ho;obtain⟨y,h1,rfl,rfl⟩:=ho;obtain⟨z,h2,h3⟩:=lookupE_ok (P:=P) h1 (ev_ok hr hv) (ev_ok hr hn);exact J9 h (by simp only[execOp];rw[AR,h2];rfl) h3
  ·cases ho
 ·cases ho
end
end Go.Abs
namespace Go.Abs
variable [Gl]
def wr(ro:Option Nat):Fence:={ Fence.wide with round:=ro }
def Xn (P : Program) (f : FuncId) : Prop := ∃ fn,P.funcs[f]? = some fn /\ (fn.name == "runtime.NumGoroutine") = false /\ fn.body.isNone = false
def KX(O:Map)(w:World)(args:List AV)(cargs:Array Value):Prop:=cargs.size=args.length/\∀i (hi:i<args.length),∃u,cargs[i]? =some u/\VR O w args[i] u
def Jw(P:Program)(f:FuncId)(args:List AV)(M:QA)(Q:AV->QA->Prop):Prop:=
 Xn P f/\∀O w cargs,XZ O w->HR O M w->KX O w args cargs->CallsIn Fence.wide 0 P f cargs w λe w'=>
  ∃v S' I' cv,e=.returned cv/\Q v S'/\VR I' w' v cv/\HR I' S' w'/\Step O M w I' S' w'
def Marks(n:Nat)(w:World)(ms:List Deferred):Prop:=
 (∀d∈ms,∃b,d.target=.collected b/\n<=b/\w.heap[b]? =some (.deferred (some [])))/\ms.Pairwise λd d'=>d.target≠d'.target
def Marks.nil(n:Nat)(w:World):Marks n w []:=⟨λ_ h=>(by cases h),.nil⟩
def un_mark{O:Map}{M:QA}{w:World}(h:HR O M w){b:Nat}{ds:Option (List Deferred)}(hb:w.heap[b]? =some (.deferred ds)):O.un b:=by
 rintro(⟨id,s,l,h3,h4,rfl⟩|hr)
 ·obtain⟨o,_,_,_,h5⟩:=h.obj id s h3;rw[h4]at h5;obtain⟨⟨cells,elem,h6,_⟩,_⟩:=h5;rw[h6]at hb;cases hb
 ·obtain⟨c,e,fr,h1⟩:=h.resRow b hr;rw[h1]at hb;cases hb
def Marks.step{n:Nat}{O I':Map}{M S':QA}{w w':World}{ms:List Deferred}(h:HR O M w)(hs:Step O M w I' S' w')(hm:Marks n w ms):Marks n w' ms:=by refine⟨λd hd=> ?_,hm.2⟩;obtain⟨b,h1,h0,h2⟩:=hm.1 d hd;refine⟨b,h1,h0,?_⟩;rw[hs.frame b (A8.1 h2).1 (un_mark h h2)];exact h2
def Marks.append{n n':Nat}{w:World}{ms ms':List Deferred}(h:Marks n w ms)(h':Marks n' w ms')(hn:n<=n')(hlt:∀d∈ms,∀b,d.target=.collected b->b<n'):Marks n w (ms'++ms):=by
 refine⟨λd hd=> ?_,List.pairwise_append.2 ⟨h'.2,h.2,λd hd d' hd' e=> ?_⟩⟩
 ·rcases Ak.1 hd with hd|hd
  ·obtain⟨b,h1,h0,h2⟩:=h'.1 d hd;exact⟨b,h1,Ao hn h0,h2⟩
  ·exact h.1 d hd
 ·obtain⟨b,h1,h0,h2⟩:=h'.1 d hd;have:=hlt d' hd' b (e▸h1);omega
def Marks.lt{n:Nat}{w:World}{ms:List Deferred}(h:Marks n w ms):∀d∈ms,∀b,d.target=.collected b->b<w.heap.size:=λd hd b hb=>by obtain⟨b',h1,h0,h2⟩:=h.1 d hd;rw[hb]at h1;injection h1 with h1;subst h1;exact(A8.1 h2).1
def post(N:Nat)(Q:Exit->QB->QA->Prop)(O:Map)(M:QA)(w:World)(a:Act):Exit->Act->World->Prop:=λe a' w'=>
 (match e with|.panic _|.outgrown=>False|_=>True)/\∃r' S' I' ms,Q e r' S'/\HR I' S' w'/\JP N I' w' r' a'/\Step O M w I' S' w'/\a'.defers=ms++a.defers/\Marks w.heap.size w' ms
def JZ(P:Program)(N:Nat)(ro:Option Nat)(c:Code)(r:QB)(M:QA)(Q:Exit->QB->QA->Prop):Prop:=∀O w a,HR O M w->JP N O w r a->c.wpIn (wr ro) 0 P (post N Q O M w a) a w
section
variable {P:Program}{N:Nat}{ro:Option Nat}
def post.trans{Q:Exit->QB->QA->Prop}{O i₁:Map}{M s₁:QA}{w w₁:World}{a a₁:Act}{ms:List Deferred}(h:HR i₁ s₁ w₁)(hs:Step O M w i₁ s₁ w₁)(hd:a₁.defers=ms++a.defers)(hm:Marks w.heap.size w₁ ms){e:Exit}{a':Act}{w':World}
  (hp:post N Q i₁ s₁ w₁ a₁ e a' w'):post N Q O M w a e a' w':=by
 obtain⟨h0,r',S',I',ms',h1,h2,h3,h4,h5,h6⟩:=hp;exact⟨h0,r',S',I',ms'++ms,h1,h2,h3,hs.trans h4,by rw[h5,hd,Ad],Marks.append (hm.step h h4) h6 hs.size hm.lt⟩
def JZ.mono{c:Code}{r:QB}{M:QA}{Q Q':Exit->QB->QA->Prop}(h:JZ P N ro c r M Q)(hq:∀e r M,Q e r M->Q' e r M):JZ P N ro c r M Q':=
 λO w a hh hr=>C3 (h O w a hh hr) λ_ _ _ ⟨h0,r',S',I',ms,h1,h2⟩=>⟨h0,r',S',I',ms,hq _ _ _ h1,h2⟩
def U0{Q:Exit->QB->QA->Prop}{e:Exit}(he:match e with|.panic _|.outgrown=>False|_=>True){r:QB}{M:QA}(h:Q e r M){O:Map}{w:World}{a:Act}(hh:HR O M w)(hr:JP N O w r a):post N Q O M w a e a w:=
 ⟨he,r,M,O,[],h,hh,hr,Step.refl O M w,rfl,Marks.nil _ _⟩
def ok_skip{r:QB}{M:QA}{Q:Exit->QB->QA->Prop}(h:Q .normal r M):JZ P N ro .skip r M Q:=
 λ_ _ _ hh hr=>wpIn_skip (U0 trivial h hh hr)
def ok_exit{id:Nat}{r:QB}{M:QA}{Q:Exit->QB->QA->Prop}(h:Q (.exit id) r M):JZ P N ro (.exit id) r M Q:=
 λ_ _ _ hh hr=>wpIn_exit (U0 trivial h hh hr)
def ok_ret{r:QB}{M:QA}{Q:Exit->QB->QA->Prop}(h:Q .ret r M):JZ P N ro .ret r M Q:=
 λ_ _ _ hh hr=>wpIn_ret (U0 trivial h hh hr)
def ok_seq{x y:Code}{r:QB}{M:QA}{Q:Exit->QB->QA->Prop}(h:JZ P N ro x r M λe r' S'=>match e with|.normal=>JZ P N ro y r' S' Q|e=>Q e r' S'):JZ P N ro (.seq x y) r M Q:=
 λO w a hh hr=>wpIn_seq (C3 (h O w a hh hr) λe a' w' hp=>by
  cases e with
  |normal=>obtain⟨_,r',S',I',ms,h1,h2,h3,h4,h5,h6⟩:=hp;exact C3 (h1 I' w' a' h2 h3) λ_ _ _ hp=>post.trans h2 h4 h5 h6 hp
  |_=>exact hp)
def ok_cond{c:Operand}{x y:Code}{r:QB}{M:QA}{t:Bool}(hc:ev r c=some (.c (.t (.bool t)))){Q:Exit->QB->QA->Prop}(h:JZ P N ro (if t then x else y) r M Q):JZ P N ro (.cond c x y) r M Q:=
 λO w a hh hr=>wpIn_cond (bool_of (ev_ok hr hc)) (h O w a hh hr)
def ok_block{id:Nat}{c:Code}{r:QB}{M:QA}{Q:Exit->QB->QA->Prop}(h:JZ P N ro c r M λe r' S'=>match e with|.exit i=>if i=id then Q .normal r' S' else Q (.exit i) r' S'|e=>Q e r' S'):
  JZ P N ro (.block id c) r M Q:=
 λO w a hh hr=>wpIn_block (C3 (h O w a hh hr) λe a' w' hp=>by
  cases e with
  |exit i=>
   obtain⟨_,r',S',I',ms,h1,h2⟩:=hp;by_cases hi:i=id
   ·simp only[hi,Aq]at h1;simp only[Exit.inBlock,hi,Aq];exact⟨trivial,r',S',I',ms,h1,h2⟩
   ·simp only[hi,Al]at h1;simp only[Exit.inBlock,hi,Al];exact⟨trivial,r',S',I',ms,h1,h2⟩
  |_=>exact hp)
def Xa{P:Program}{b:Frame}{a:Act}{k:List Item}{cs:List Frame}{w:World}{c:Code}:step P (lone (b.atR a (.code (.scope c)::k)) cs w)=.next (lone (b.atR a (.code c::.inScope c::k)) cs w):=
 step_lone_go (by simp[stepG,stepG.exec,Frame.atR])
def stepR_inScope{P:Program}{b:Frame}{a:Act}{k:List Item}{cs:List Frame}{w:World}{c:Code}:step P (lone (b.atR a (.inScope c::k)) cs w)=.next (lone (b.atR a k) cs w):=
 step_lone_go (by simp[stepG,stepG.exec,Frame.atR])
def Uy{F:Fence}{n:Nat}{P:Program}{c:Code}{Q:Exit->Act->World->Prop}{a:Act}{w:World}(h:c.wpIn F n P (λe a w=>match e with|.goto _=>False|e=>Q e a w) a w):(Code.scope c).wpIn F n P Q a w:=by
 intro b k cs hro hb hr;have h0:(lone (b.atR a (.code (.scope c)::k)) cs w).fenced P F:=fenced_calm hb hr rfl;obtain⟨e,a₁,w₁,hq,harr⟩:=h b (.inScope c::k) cs hro hb hr
 cases e with
 |normal=>exact⟨.normal,a₁,w₁,hq,.head h0 Xa (StepsIn.trans harr (.one (fenced_calm hb hr rfl) stepR_inScope))⟩
 |exit id'=>
  have hx:exitTo id' (.inScope c::k)=exitTo id' k:=(by simp[exitTo]);exact⟨.exit id',a₁,w₁,hq,λk' hk=>.head h0 Xa (harr.1 k' (by rw[hx];exact hk)),
   λhr' hk=>let ⟨k₁,h1,h2⟩:=harr.2 hr' (by rw[hx];exact hk);⟨k₁,h1,.head h0 Xa h2⟩⟩
 |goto l=>exact hq.elim
 |ret=>exact⟨_,a₁,w₁,hq,.of_steps (.one h0 Xa) harr⟩
 |panic ch=>exact⟨_,a₁,w₁,hq,.of_steps (.one h0 Xa) harr⟩
 |outgrown=>exact⟨_,a₁,w₁,hq,.of_steps (.one h0 Xa) harr⟩
def ok_scope{c:Code}{r:QB}{M:QA}{Q:Exit->QB->QA->Prop}(h:JZ P N ro c r M λe r' S'=>match e with|.goto _=>False|e=>Q e r' S'):JZ P N ro (.scope c) r M Q:=
 λO w a hh hr=>Uy (C3 (h O w a hh hr) λe a' w' hp=>by
  cases e with
  |goto l=>exact hp.2.choose_spec.choose_spec.choose_spec.choose_spec.1.elim
  |_=>exact hp)
def ok_label{l:Nat}{r:QB}{M:QA}{Q:Exit->QB->QA->Prop}(h:Q .normal r M):JZ P N ro (.label l) r M Q:=
 λO w a hh hr=>wpIn_label ⟨trivial,r,M,O,[],h,hh,hr,Step.refl O M w,rfl,.nil _ _⟩
def wpIn_loop'{F:Fence}{n:Nat}{c:Code}{Q:Exit->Act->World->Prop}{a:Act}{w:World}(I:Nat->Act->World->Prop){j:Nat}(h₀:I j a w)
  (round:∀j a w,I j a w->c.wpIn F n P (Exit.then (λa' w'=>∃m,m<j/\I m a' w') Q) a w):(Code.loop c).wpIn F n P Q a w:=by
 intro b k cs hro hb hr;have key:∀j a w,I j a w->
   ∃e a' w',Q e a' w'/\ArrivesIn (Machine.fenced P F) P (lone (b.atR a (.code c::.inLoop c::k)) cs w) b k cs e a' w':=by
  intro j
  induction j using Nat.strongRecOn with
  |_ j ih=>
   intro a w hI;obtain⟨e,a₁,w₁,hq,harr⟩:=round j a w hI b (.inLoop c::k) cs hro hb hr
   cases e with
   |normal=>obtain⟨m,hlt,hI₁⟩:=hq;obtain⟨e₂,a₂,w₂,hq₂,harr₂⟩:=ih m hlt a₁ w₁ hI₁;exact⟨e₂,a₂,w₂,hq₂,.of_steps (StepsIn.trans harr (.one (fenced_calm hb hr rfl) stepR_inLoop)) harr₂⟩
   |exit id=>exact⟨_,a₁,w₁,hq,.pass (x:=.inLoop c) rfl (λ_ _=>.inl (by simp)) harr⟩
   |goto l=>exact⟨_,a₁,w₁,hq,.pass (x:=.inLoop c) rfl (λ_ _=>.inl (by simp)) harr⟩
   |ret=>exact⟨_,a₁,w₁,hq,.pass (x:=.inLoop c) rfl (λ_ _=>.inl (by simp)) harr⟩
   |panic ch=>exact⟨_,a₁,w₁,hq,.pass (x:=.inLoop c) rfl (λ_ _=>.inl (by simp)) harr⟩
   |outgrown=>exact⟨_,a₁,w₁,hq,.pass (x:=.inLoop c) rfl (λ_ _=>.inl (by simp)) harr⟩
 obtain⟨e,a',w',hq,harr⟩:=key j a w h₀;exact⟨e,a',w',hq,.of_steps (.one (fenced_calm hb hr rfl) stepR_loop) harr⟩
def YK(N:Nat)(r:QB)(M:QA)(r':QB)(S':QA):Prop:=
 ∀O w a,HR O M w->JP N O w r a->∃I',HR I' S' w/\JP N I' w r' a/\Step O M w I' S' w
def Zj(v:AV):Option (FuncId×List AV):=match v with
 |.c (.t (.fn f caps))=>some (f,caps.map λt=>.c (.t t))
 |.c (.clo f rs)=>if f=YID\/BND<=f then none else some (f,rs.map λr=>.c (.ptr r))
 |_=>none
def callArgs(v:AV)(as:List AV):Option (FuncId×List AV):=match Zj v with
 |some (g,caps)=>some (g,as++caps)
 |none=>match v with
  |.c (.clo f rs)=>if BND<=f then some (f - BND,(rs.map λr=>.c (.ptr r))++as) else none
  |_=>none
def Ks(v:AV)(want:Bool):Option Bool:=match v with
 |.c (.t (.bool b))=>some (b==want)
 |.tup xs=>if xs.isEmpty then some false else none
 |_=>none
def Jn(ops:Array Oper)(r:QB):Option (Nat×Bool)->Option Bool
 |none=>some true
 |some (j,want)=>match (ops[j]?).bind (·.dst) with
  |some d=>match r.at d with
   |some v=>Ks v want
   |none=>none
  |none=>none
def X3(N:Nat):Option Nat->Bool
 |none=>true
 |some d=>decide (d<N)
def QB.JM(r:QB)(dst:Option Nat):Option AV->QB
 |some v=>r.put dst v
 |none=>r.drop dst
def JS:Operand->Bool
 |.const (.slice none 0 0)=>true
 |_=>false
def slLen:AV->Option Nat
 |.c (.sl _ n _)=>some n
 |.c (.t (.imm _ n _))=>some n
 |_=>none
def eqOp:BinOp->Option Bool
 |.eql=>some false
 |.neq=>some true
 |_=>none
def Jg(P:Program)(r:QB):Op->Option (Nat×Bool)
 |.binOp op xT x y _=>if JS y then (match tinf P xT,ev r x,eqOp op with
  |some i,some v,some ne=>(match i.kind,slLen v with
   |.slice _,some n=>some (n,ne)
   |_,_=>none)
  |_,_,_=>none) else none
 |_=>none
def stepOk(P:Program)(r:QB)(M:QA)(o:Oper)(K:Option AV->QA->Prop):Prop:=
 match o.op with
 |.call { callee:=.value f,args,argTypes:=_ }=>match ev r f,evl r args.toList with
  |some fv,some as=>match callArgs fv as with
   |some (g,as')=>Jw P g as' M λv S'=>K (some v) S'
   |none=>False
  |_,_=>False
 |op=>match Jg P r op with
  |some (n,ne)=>K (some (aB ne)) M/\(n=0->K (some (aB !ne)) M)
  |none=>match opE P r M op with
   |some (res,S')=>K res S'
   |none=>False
end
end Go.Abs
namespace Go.Abs
variable [Gl]
section
variable {P:Program}{N:Nat}{ro:Option Nat}
def Wc{ops:Array Oper}{O:Map}{w:World}{r:QB}{a:Act}(hr:JP N O w r a){o:Oper}{b:Bool}(h:Jn ops r o.guard=some b):Region.wanted o (yielded ops a.tmps)=b:=by
 unfold Region.wanted
 cases hg:o.guard with
 |none=>rw[hg]at h;simp only[Jn,Kn]at h;exact h
 |some p=>
  obtain⟨j,want⟩:=p;rw[hg]at h;simp only[Jn]at h;split at h
  ·rename_i d hd;split at h
   ·rename_i v hb';unfold Ks at h;split at h
    ·rename_i b';injection h with h;have hv:=bool_of (hr.at hb');have ht:a.tmps[d]? =some (.bool b'):=by
      by_cases hlt:d<a.tmps.size
      ·simp only[Array.getD,hlt,dif_pos]at hv;rw[Bp hlt];exact congrArg some hv
      ·simp[Array.getD,hlt,undef]at hv
     have:yielded ops a.tmps j=some b':=(by simp only[yielded,hd,Option.bind_some,ht]);simp only[this];rw[<-h];cases b'<;>cases want<;>rfl
    ·rename_i xs;split at h
     ·injection h with h;subst h;obtain⟨arr,e,_,_⟩:=hr.at hb';have hne:∀b,a.tmps[d]? ≠some (.bool b):=λb hb=>(by have:a.tmps.getD d undef=.bool b:=(by simp[Ay,hb]);rw[e]at this;cases this);have:yielded ops a.tmps j=none:=(by simp only[yielded,hd,Option.bind_some]);simp only[this];rfl
     ·cases h
    ·cases h
   ·cases h
  ·cases h
def YY{dst:Option Nat}(h:X3 N dst=true):∀d,dst=some d->d<N:=λd hd=>by subst hd;simpa [X3] using h
def nilTest_ok{O:Map}{M:QA}{w:World}{r:QB}{a:Act}(hh:HR O M w)(hr:JP N O w r a){o:Oper}{n:Nat}{ne:Bool}(h:Jg P r o.op=some (n,ne)):
  ∃b,(execOp a.eval o).run P w=.ok (.value (.bool b)) w/\(b=ne\/(b=!ne/\n=0)):=by
 obtain⟨dst,op,type,pos,after,guard⟩:=o;simp only at h;unfold Jg at h;split at h
 ·rename_i op xT x y yT;split at h
  ·rename_i hy;split at h
   ·rename_i i v ne' hi hx hop;split at h
    ·rename_i e n' hk hl;injection h with h;injection h with e1 e2;subst e1;subst e2;have hu:=JK hi hk;have hye:a.eval y=.slice none 0 0:=by
      unfold JS at hy;split at hy
      ·rfl
      ·cases hy
     obtain⟨ad,c,hxe,hs⟩:∃ad c,a.eval x=.slice ad n' c/\(n'=0\/ad.isSome=true):=by
      have hv:=ev_ok hr hx;unfold slLen at hl;split at hl
      ·injection hl with hl;subst hl;obtain⟨ad,c,e1,hs,_⟩:=hv;exact⟨ad,c,e1,hs⟩
      ·injection hl with hl;subst hl;generalize a.eval x=u at hv
       cases hv with
       |imm0=>exact⟨_,_,rfl,.inl rfl⟩
       |imm=>exact⟨_,_,rfl,.inr rfl⟩
      ·cases hl
     have heq:∀d,(Op.equalIn (d+1) xT (.slice ad n' c) (.slice none 0 0)).run P w=.ok ad.isNone w:=λd=>(by cases ad<;>simp[Op.equalIn,AZ hu]);have heq':(Op.equal xT (.slice ad n' c) (.slice none 0 0)).run P w=.ok ad.isNone w:=heq 9999;have hfin:∀b:Bool,b=(ad.isNone !=ne')->(b=ne'\/(b=!ne'/\n'=0)):=λb hb=>by
      cases ad with
      |none=>
       rcases hs with hs|hs
       ·right;exact⟨by rw[hb];simp,hs⟩
       ·simp at hs
      |some _=>left;rw[hb];simp
     cases op<;>simp only[eqOp,Kn,reduceCtorEq]at hop
     ·subst hop;refine⟨ad.isNone,?_,hfin _ (by simp)⟩;have hg:(eqGuard .eql xT x y (.slice ad n' c) (.slice none 0 0)).run P w=.ok () w:=(by unfold eqGuard;simp);have hb:(binOp .eql xT (.slice ad n' c) (.slice none 0 0)).run P w=.ok (.bool ad.isNone) w:=(by show(do pure (Value.bool (<-Op.equal xT (.slice ad n' c) (.slice none 0 0))):Sem Value).run P w=_;rw[AR,heq'];rfl);simp only[execOp,hxe,hye,AR,hg,AX,hb,BC]
     ·subst hop;refine⟨!ad.isNone,?_,hfin _ (by simp)⟩;have hg:(eqGuard .neq xT x y (.slice ad n' c) (.slice none 0 0)).run P w=.ok () w:=(by unfold eqGuard;simp);have hb:(binOp .neq xT (.slice ad n' c) (.slice none 0 0)).run P w=.ok (.bool (!ad.isNone)) w:=(by show(do pure (Value.bool (!(<-Op.equal xT (.slice ad n' c) (.slice none 0 0)))):Sem Value).run P w=_;rw[AR,heq'];rfl);simp only[execOp,hxe,hye,AR,hg,AX,hb,BC]
    ·cases h
   ·cases h
  ·cases h
 ·cases h
def Kg{ρ:Operand->Value}{o:Oper}(h:∀c,o.op≠.defer c):o.semAt ro ρ=execOp ρ o:=Oper.semAt_eq ro ρ o h
def opE_defer{r:QB}{M:QA}{op:Op}{x:Option AV×QA}(h:opE P r M op=some x):∀c,op≠.defer c:=λc e=>by subst e;simp[opE]at h
def run_call{ρ:Operand->Value}{o:Oper}{f:Operand}{args:Array Operand}{ts:Array TypeId}(ho:o.op=.call { callee:=.value f,args:=args,argTypes:=ts }){g:FuncId}{arr:Array Value}(hf:ρ f=.func (.func g) #[] arr)
  (hc:Xn P g) (w:World):(execOp ρ o).run P w=.ok (.enter g (args.map ρ++arr)) w:=by
 obtain⟨fn,h1,h2,h3⟩:=hc;have h2' : ¬ fn.name = "runtime.NumGoroutine" := λe => by rw [e] at h2; simp at h2
 have h3':¬fn.body=none:=λe=>by rw[e]at h3;simp at h3
 simp only[execOp,ho,resolve,hf,Deferred.ofValue,invoke,callFunc];simp[h1,h2',h3']
def run_callB{ρ:Operand->Value}{o:Oper}{f:Operand}{args:Array Operand}{ts:Array TypeId}(ho:o.op=.call { callee:=.value f,args:=args,argTypes:=ts }){g:FuncId}{arr:Array Value}(hf:ρ f=.func (.func g) arr #[])
  (hc:Xn P g) (w:World):(execOp ρ o).run P w=.ok (.enter g (arr++args.map ρ)) w:=by
 obtain⟨fn,h1,h2,h3⟩:=hc;have h2' : ¬ fn.name = "runtime.NumGoroutine" := λe => by rw [e] at h2; simp at h2
 have h3':¬fn.body=none:=λe=>by rw[e]at h3;simp at h3
 simp only[execOp,ho,resolve,hf,Deferred.ofValue,invoke,callFunc];simp[h1,h2',h3']
def Zm{O:Map}{M:QA}{w:World}{r:QB}{a:Act}(hh:HR O M w)(hr:JP N O w r a){o:Oper}(hd:X3 N o.dst=true){K:Option AV->QA->Prop}(h:stepOk P r M o K)
  {next:Act->World->Prop} {Q:Exit->Act->World->Prop}
  (hn:∀res S' I' w' a',K res S'->HR I' S' w'->JP N I' w' (r.JM o.dst res) a'->Step O M w I' S' w'->a'.defers=a.defers->next a' w'):
  o.wpIn (wr ro) 0 P a w next Q:=by
 refine⟨λ_ _=>trivial,?_⟩;have hput:∀(v:Value),(a.put o.dst v).defers=a.defers:=λv=>by cases o.dst<;>rfl
 unfold stepOk at h;split at h
 ·rename_i f args ts hop;split at h
  ·rename_i fv as hf has;split at h
   ·rename_i g as' ht;obtain⟨hcal,hcall⟩:=h;have hfv:=ev_ok hr hf;obtain⟨us,hus,hu1,hu2⟩:=Wi hr has;have hargs:args.map a.eval=us.toArray:=(by apply Array.ext';simpa using hus);obtain⟨cargs,hrun,hA⟩:∃cargs:Array Value,(execOp a.eval o).run P w=.ok (.enter g cargs) w/\KX O w as' cargs:=by
     unfold callArgs at ht;split at ht
     ·rename_i g' caps ht';injection ht with ht;injection ht with e3 e4;subst e3;subst e4;obtain⟨arr,e1,hsz,harr⟩:∃arr,a.eval f=.func (.func g') #[] arr/\arr.size=caps.length/\∀i (hi:i<caps.length),∃u,arr[i]? =some u/\VR O w caps[i] u:=by
       have ht:=ht';unfold Zj at ht;split at ht
       ·rename_i f' cs;injection ht with ht;injection ht with e1 e2;subst e1;subst e2;generalize a.eval f=u at hfv
        cases hfv with
        |fn f' cs arr h1 h2=>refine⟨arr,rfl,by simpa using h1,λi hi=> ?_⟩;have hi':i<cs.length:=(by simpa using hi);have hlt:i<arr.size:=(by omega);refine⟨arr[i],by simp[hlt],?_⟩;have:=h2 i hi';simp only[Array.getD,hlt,dif_pos]at this;simpa [VR,CR] using this
       ·rename_i f' rs;split at ht
        ·cases ht
        rename_i hy;injection ht with ht;injection ht with e1 e2;subst e1;subst e2;obtain⟨arr,e,h1,h2⟩:=cloR.no hfv (λe=>hy (.inl e));refine⟨arr,e.trans (fnv_no (λe=>hy (.inr e)) _),by simpa using h1,λi hi=> ?_⟩;have hi':i<rs.length:=(by simpa using hi);have hlt:i<arr.size:=(by omega);obtain⟨ad,h3,h4⟩:=h2 i hi';have h3':arr[i]=.pointer (some ad):=(by simp only[Array.getD,hlt,dif_pos]at h3;exact h3);refine⟨arr[i],by simp[hlt],?_⟩;rw[AP];exact⟨ad,h3',h4⟩
       ·cases ht
      refine⟨_,run_call (P:=P) (ρ:=a.eval) hop e1 hcal w,⟨by simp[hargs,hu1,hsz],λi hi=> ?_⟩⟩;by_cases hlt:i<as.length
      ·obtain⟨u,h3,h4⟩:=hu2 i hlt;refine⟨u,?_,by rw[Bh hlt];exact h4⟩;rw[By (by simp[hargs,hu1,hlt]),hargs];simpa using h3
      ·have hi':i - as.length<caps.length:=(by simp at hi;omega);obtain⟨u,h3,h4⟩:=harr (i - as.length) hi';refine⟨u,?_,by rw[Bo (by omega)];exact h4⟩;rw[Array.getElem?_append_right (by simp[hargs,hu1];omega)];rw[show(args.map a.eval).size=as.length by simp[hargs,hu1]];exact h3
     ·split at ht
      ·rename_i f' rs _;split at ht
       ·rename_i hb;injection ht with ht;injection ht with e3 e4;subst e3;subst e4;have hne:f'≠YID:=λe=>(by rw[e]at hb;unfold BND YID at hb;omega);obtain⟨arr,e,h1,h2⟩:=cloR.no hfv hne;have e1:a.eval f=.func (.func (f' - BND)) arr #[]:=(by rw[e];unfold fnv;rw[AC hb]);refine⟨_,run_callB (P:=P) (ρ:=a.eval) hop e1 hcal w,⟨by simp[hargs,hu1,h1],λi hi=> ?_⟩⟩;by_cases hlt:i<rs.length
        ·have hlt':i<arr.size:=(by omega);obtain⟨ad,h3,h4⟩:=h2 i hlt;have h3':arr[i]=.pointer (some ad):=(by simp only[Array.getD,hlt',dif_pos]at h3;exact h3);refine⟨arr[i],by rw[By hlt'];simp[hlt'],?_⟩;rw[Bh (by simpa using hlt),AP];exact⟨ad,h3',h4⟩
        ·have hi':i - rs.length<as.length:=(by simp at hi;omega);obtain⟨u,h3,h4⟩:=hu2 (i - rs.length) hi';refine⟨u,?_,?_⟩
         ·rw[Array.getElem?_append_right (by omega),hargs,h1];simpa using h3
         ·rw[Bo (by simpa using hlt)];simpa using h4
       ·cases ht
      ·cases ht
    rw[Kg (by rw[hop];intro c e;cases e),hrun,Oper.uponIn_enter];refine⟨(λe=>by cases e),?_⟩;have hc2:=hcall O w cargs hr.gl hh hA;refine Bt (show CallsIn (wr ro) 0 P g cargs w _ from hc2) ?_;rintro e w' ⟨v,S',I',cv,rfl,hK,hv,hh',hs'⟩;exact hn (some v) S' I' w' _ hK hh' ((hr.step hh hs').put (YY hd) hv) hs' (hput _)
   ·cases h
  ·cases h
 ·split at h
  ·rename_i op _ n ne hnil;obtain⟨b,h1,h2⟩:=nilTest_ok hh hr hnil;rw[Kg (λc e=>by rw[e]at hnil;simp[Jg]at hnil),h1,Oper.uponIn_value];obtain⟨h3,h4⟩:=h;rcases h2 with rfl|⟨rfl,hn0⟩
   ·exact hn _ M O w _ h3 hh (hr.put (YY hd) (TR.bool _)) (Step.refl O M w) (hput _)
   ·exact hn _ M O w _ (h4 hn0) hh (hr.put (YY hd) (TR.bool _)) (Step.refl O M w) (hput _)
  ·split at h
   ·rename_i res S' hop;obtain⟨I',w',nx,h1,h2,h3,h4⟩:=opE_ok hh hr hop;rw[Kg (opE_defer hop),h1]
    cases res with
    |none=>subst h2;rw[Oper.uponIn_skip];exact hn none S' I' w' _ h h4 ((hr.step hh h3).drop (YY hd)) h3 (hput _)
    |some v=>obtain⟨u,rfl,hv⟩:=h2;rw[Oper.uponIn_value];exact hn (some v) S' I' w' _ h h4 ((hr.step hh h3).put (YY hd) hv) h3 (hput _)
   ·exact h.elim
end
end Go.Abs
namespace Go.Abs
variable [Gl]
section
variable {P:Program}{N:Nat}{ro:Option Nat}
def resE(P:Program)(r:QB)(M:QA):List ResultVar->Option (List AV)
 |[]=>some []
 |.tmp t::rest=>match r.at t,resE P r M rest with
  |some v,some vs=>some (v::vs)
  |_,_=>none
 |.cell a t::rest=>match tinf P t,r.at a,resE P r M rest with
  |some i,some p,some vs=>match Zb M i p with
   |some v=>some (v::vs)
   |none=>none
  |_,_,_=>none
def compE:AV->Option (Cell⊕List Cell)
 |.c x=>some (.inl x)
 |.agg xs=>some (.inr xs)
 |.tup _=>none
def Ky:List AV->Option (List (Cell⊕List Cell))
 |[]=>some []
 |v::vs=>match compE v,Ky vs with
  |some x,some xs=>some (x::xs)
  |_,_=>none
def packE:List AV->Option AV
 |[v]=>some v
 |vs=>(Ky vs).map .tup
def V8(P:Program)(rs:List ResultVar)(r:QB)(M:QA):Option AV:=match resE P r M rs with
 |some vs=>packE vs
 |none=>none
def resSem(tmps:Array Value):ResultVar->Sem Value
 |.tmp t=>pure (tmps.getD t undef)
 |.cell x t=>do loadVar t (<-asAddr (tmps.getD x undef))
def resE_ok{O:Map}{M:QA}{w:World}{r:QB}{a:Act}(hh:HR O M w)(hr:JP N O w r a):∀{rs:List ResultVar} {vs:List AV},resE P r M rs=some vs->
  ∃us:List Value,((rs.mapM (resSem a.tmps)).run P w=.ok us w)/\us.length=vs.length/\∀i (hi:i<vs.length),∃u,us[i]? =some u/\VR O w vs[i] u
 |[],vs,h=>by simp only[resE,Kn]at h;subst h;exact⟨[],rfl,rfl,λi hi=>absurd hi (by simp)⟩
 |.tmp t::rest,vs,h=>by
  simp only[resE]at h;split at h
  ·rename_i v vs' h1 h2;injection h with h;subst h;obtain⟨us,h3,h4,h5⟩:=resE_ok hh hr h2;refine⟨a.tmps.getD t undef::us,?_,by simp[h4],λi hi=> ?_⟩
   ·simp only[List.mapM_cons,resSem,AR,BC,AX,h3]
   ·cases i with
    |zero=>exact⟨_,rfl,hr.at h1⟩
    |succ i=>simpa using h5 i (by simpa using hi)
  ·cases h
 |.cell x t::rest,vs,h=>by
  simp only[resE]at h;split at h
  ·rename_i i p vs' hi h1 h2;split at h
   ·rename_i v hv;injection h with h;subst h;obtain⟨us,h3,h4,h5⟩:=resE_ok hh hr h2;obtain⟨u,h6,h7⟩:=loadE_ok (P:=P) hi hh (hr.at h1) hv;have haddr:∃ad,a.tmps.getD x undef=.pointer (some ad):=by
     have hp:=hr.at h1;unfold Zb at hv;split at hv
     ·obtain⟨ad,e,_⟩:=hp;exact⟨ad,e⟩
     ·obtain⟨b,off,e,_⟩:=WY hp;exact⟨_,e⟩
     ·cases hv
    obtain⟨ad,e⟩:=haddr;have h8:(loadVar t ad).run P w=.ok u w:=(by rw[e]at h6;simpa [Instr.loadAt,Instr.sureAddr] using h6);refine⟨u::us,?_,by simp[h4],λi hi=> ?_⟩
    ·simp only[List.mapM_cons,resSem,AR,e,asAddr,BC,AX,h8,h3]
    ·cases i with
     |zero=>exact⟨_,rfl,h7⟩
     |succ i=>simpa using h5 i (by simpa using hi)
   ·cases h
  ·cases h
def compsE_ok{O:Map}{w:World}:∀{vs:List AV} {xs:List (Cell⊕List Cell)},Ky vs=some xs->∀{us:List Value},us.length=vs.length->(∀i (hi:i<vs.length),∃u,us[i]? =some u/\VR O w vs[i] u)->
  us.length=xs.length/\∀i (hi:i<xs.length),∃u,us[i]? =some u/\compR O w xs[i] u
 |[],xs,h,us,hl,hv=>by simp only[Ky,Kn]at h;subst h;exact⟨hl,λi hi=>absurd hi (by simp)⟩
 |v::vs,xs,h,us,hl,hv=>by
  simp only[Ky]at h;split at h
  ·rename_i x xs' h1 h2;injection h with h;subst h
   cases us with
   |nil=>simp at hl
   |cons u us=>
    obtain⟨h3,h4⟩:=compsE_ok h2 (us:=us) (by simpa using hl) (λi hi=>by
     obtain⟨u',h5,h6⟩:=hv (i+1) (by simpa using hi);exact⟨u',by simpa using h5,h6⟩)
    refine⟨by simp[h3],λi hi=> ?_⟩
    cases i with
    |zero=>
     obtain⟨u',h5,h6⟩:=hv 0 (by simp);refine⟨u',h5,?_⟩;cases v<;>simp only[compE,Kn,reduceCtorEq]at h1
     ·subst h1;exact h6
     ·subst h1;exact h6
    |succ i=>simpa using h4 i (by simpa using hi)
  ·cases h
def retE_ok{O:Map}{M:QA}{w:World}{r:QB}{a:Act}(hh:HR O M w)(hr:JP N O w r a){fn:Func}{v:AV}(h:V8 P fn.results.toList r M=some v):
  ∃u,(results fn a.tmps).run P w=.ok u w/\VR O w v u:=by
 unfold V8 at h;split at h
 ·rename_i vs hvs;obtain⟨us,h1,h2,h3⟩:=resE_ok (P:=P) hh hr hvs;have hm:(results fn a.tmps).run P w=.ok (if h:us.toArray.size=1 then us.toArray[0] else .tuple us.toArray) w:=(by have hres:results fn a.tmps=(fn.results.mapM (resSem a.tmps)>>=λvs=>Pure.pure (if h:vs.size=1 then vs[0] else .tuple vs)):=(by unfold results;congr 1);rw[hres,AR,Array.mapM_eq_mapM_toList];simp only[Sem.run_map,h1,AX,BC]);refine⟨_,hm,?_⟩;unfold packE at h;split at h
  ·rename_i x;injection h with h;subst h;obtain⟨u,rfl,hv⟩:=vals1 ⟨h2,h3⟩;exact hv
  ·rename_i hne;simp only[WF]at h;obtain⟨xs,h4,rfl⟩:=h;have hn1:¬us.toArray.size=1:=(by intro e;have:vs.length=1:=(by rw[<-h2];simpa using e);obtain⟨x,hx⟩:=List.length_eq_one_iff.1 this;exact hne x hx);rw[dif_neg hn1];obtain⟨h5,h6⟩:=compsE_ok h4 h2 h3;exact⟨us.toArray,rfl,by simpa using h5,λi hi=>by simpa using h6 i hi⟩
 ·cases h
def HR.other{O:Map}{M:QA}{w w':World}(h:HR O M w)(hb:∀b,UX w b->w'.heap[b]? =w.heap[b]?):
  HR O M w'/\∀v u,VR O w v u->VR O w' v u:=by
 have hT:∀t u,TR O.un w t u->TR O.un w' t u:=λt u ht=>ht.mono λb hu hrow=>⟨hu,hb b hrow⟩;have hC:∀c u,CR O w c u->CR O w' c u:=λc u hc=>by
  cases c with
  |t x=>exact hT x u hc
  |ptr r=>exact hc
  |sl r len cap=>exact hc
  |clo f caps=>exact hc
 have hA:∀xs u,XF O w xs u->XF O w' xs u:=λxs u ⟨arr,e,h1,h2⟩=>⟨arr,e,h1,λi hi=>let ⟨v,h3,h4⟩:=h2 i hi;⟨v,h3,hC _ _ h4⟩⟩;refine⟨⟨λid s hs=> ?_,h.inj,λb hr=>(let ⟨c,e,fr,h1⟩:=h.resRow b hr;⟨c,e,fr,(hb b (.inl ⟨c,e,fr,h1⟩)).trans h1⟩),h.resNo⟩,λv u hv=> ?_⟩
 ·obtain⟨o,h1,h2,h3,h4⟩:=h.obj id s hs;refine⟨o,h1,h2,h3,?_⟩
  cases hl:s.loc with
  |none=>rw[hl]at h4;exact h4
  |some l=>rw[hl]at h4;obtain⟨⟨cells,elem,h5,h6⟩,h7,h8⟩:=h4;have e:=hb l.blk (.inl ⟨cells,elem,_,h5⟩);refine⟨⟨cells,elem,e.trans h5,h6⟩,h7,λi hi=> ?_⟩;obtain⟨v,h9,h10⟩:=h8 i hi;exact⟨v,(XY e _).trans h9,hC _ _ h10⟩
 ·cases v with
  |c x=>exact hC x u hv
  |agg xs=>exact hA xs u hv
  |tup xs=>
   obtain⟨arr,e,h1,h2⟩:=hv;refine⟨arr,e,h1,λi hi=> ?_⟩;obtain⟨v,h3,h4⟩:=h2 i hi;refine⟨v,h3,?_⟩
   cases hx:xs[i] with
   |inl x=>rw[hx]at h4;exact hC x v h4
   |inr x=>rw[hx]at h4;exact hA x v h4
def JV(args:List AV):QB:=args.zipIdx.map λ(v,i)=>(i,v)
def YS:∀(args:List AV) (k t:Nat) (v:AV),QB.get ((args.zipIdx k).map λ(v,i)=>(i,v)) t=some v->k<=t/\args[t - k]? =some v
 |[],k,t,v,h=>by simp[QB.get]at h
 |x::args,k,t,v,h=>by
  simp only[List.zipIdx_cons,AY,QB.get]at h;split at h
  ·rename_i e;subst e;injection h with h;exact⟨A5 _,by simp[h]⟩
  ·rename_i hne;obtain⟨h1,h2⟩:=YS args (k+1) t v h;refine⟨by omega,?_⟩;have e:t - k=(t - (k+1))+1:=(by omega);rw[e,BG];exact h2
def XS{w:World}{b:Nat}{o:Go.Obj}{c:Nat}(h:c≠b):(w.putObj b o).heap[c]? =w.heap[c]? :=by simp[World.putObj,Array.getElem?_setIfInBounds,h.symm]
def WS{fn:Func}{tmps:Array Value}{R:Ending->World->Prop}{n:Nat}{P:Program}:∀(ms:List Deferred) (w:World),Marks n w ms->
  (∀w',(∀b,(∀d∈ms,d.target≠.collected b)->w'.heap[b]? =w.heap[b]?)->w'.heap.size=w.heap.size->w'.os=w.os->w'.output=w.output->∃v,(results fn tmps).run P w'=.ok v w'/\R (.returned v) w')->
  LeavesInM Fence.wide 0 P fn tmps R ms .returning w
 |[],w,hm,h=>h w (λ_ _=>rfl) rfl rfl rfl
 |d::ds,w,hm,h=>by
  obtain⟨b,h1,h0,h2⟩:=hm.1 d (by simp);have hne:∀d'∈ds,∀b',d'.target=.collected b'->b'≠b:=λd' hd' b' hb' e=>(by have:=(List.pairwise_cons.1 hm.2).1 d' hd';rw[h1,hb',e]at this;exact this rfl);refine⟨(λe=>by cases e),.inl ⟨b,w.putObj b (.deferred none),h1,run_takeDeferred h2,?_⟩⟩;refine WS (n:=n) ds _ ⟨λd' hd'=> ?_,(List.pairwise_cons.1 hm.2).2⟩ λw' hrow hsz hos hout=> ?_
  ·obtain⟨b',h3,h4,h5⟩:=hm.1 d' (by simp[hd']);exact⟨b',h3,h4,by rw[XS (hne d' hd' b' h3)];exact h5⟩
  ·refine h w' (λc hc=> ?_) (by rw[hsz];simp[World.putObj]) (by rw[hos];rfl) (by rw[hout];rfl);have hcb:c≠b:=λe=>hc d (by simp) (by rw[h1,e]);rw[hrow c λd' hd'=>hc d' (by simp[hd']),XS hcb]
def Marks.others{n:Nat}{w:World}{ms:List Deferred}(hm:Marks n w ms){b:Nat}(h:b<n\/∀ds,w.heap[b]? ≠some (.deferred ds)):∀d∈ms,d.target≠.collected b:=λd hd e=>by
 obtain⟨b',h1,h2,h3⟩:=hm.1 d hd;rw[e]at h1;injection h1 with h1;subst h1;rcases h with h|h
 ·omega
 ·exact h _ h3
def fn_ok {f : FuncId} {fn : Func} {c : Code} {args : List AV} {M : QA} {Q : AV -> QA -> Prop} (hf : P.funcs[f]? = some fn) (hb : fn.body = some c) (hname : (fn.name == "runtime.NumGoroutine") = false) (hn : args.length <= fn.ntmps) (hl : fn.ntmps <= BIG)
   (h : JZ P fn.ntmps none c (JV args) M λe r' S' => (match e with | .normal | .ret => True | _ => False) /\ match V8 P fn.results.toList r' S' with | some v => Q v S' | none => False) : Jw P f args M Q := by
 refine ⟨⟨fn,hf,hname,by rw [hb]; rfl⟩,λO w cargs hgl hh ha => ?_⟩;refine callsIn_of_wp_marks hf hb trivial ?_ rfl;have hsz : (cargs ++ Array.replicate (fn.ntmps - cargs.size) undef).size = fn.ntmps := by have := ha.1;simp; omega
 have hr : JP fn.ntmps O w (JV args) { tmps := cargs ++ Array.replicate (fn.ntmps - cargs.size) undef,defers := [] } := by refine ⟨hsz,hl,λt x hx => ?_,hgl⟩;obtain ⟨_,h2⟩ := YS args 0 t x hx;simp only [Nat.sub_zero] at h2;have hlt : t < args.length := (AD.1 h2).1;obtain ⟨u,h3,h4⟩ := ha.2 t hlt;have e : args[t] = x := (by rw [A4 hlt] at h2;injection h2);rw [e] at h4;have : (cargs ++ Array.replicate (fn.ntmps - cargs.size) undef).getD t undef = u := (by have hlt' : t < cargs.size := (by rw [ha.1]; exact hlt);have : (cargs ++ Array.replicate (fn.ntmps - cargs.size) undef)[t]? = some u := (by rw [By hlt']; exact h3);simp [this]);unfold lk;rw [AK (by omega),this];exact h4
 refine C3 (h O w _ hh hr) λe a' w' hp => ?_;obtain ⟨h0,r',S',I',ms,⟨hex,hret⟩,h2,h3,h4,h5,h6⟩ := hp;have h5 : a'.defers = ms := by simpa using h5
 split at hret
 · rename_i v hv
   have hleave : LeavesInM Fence.wide 0 P fn a'.tmps (λe w' => ∃ v S' I' cv,e = .returned cv /\ Q v S' /\ VR I' w' v cv /\ HR I' S' w' /\ Step O M w I' S' w') ms .returning w' := by
     refine WS ms w' h6 λw'' hoth hsz' hos hout => ?_;have hrow : ∀ b,UX w' b -> w''.heap[b]? = w'.heap[b]? := λb hd => hoth b (h6.others (.inr λds e => by rcases hd with ⟨x,y,z,hb⟩ | ⟨x,y,hb⟩ <;> rw [hb] at e <;> cases e));have hn' : ∀ b,b < w.heap.size -> w''.heap[b]? = w'.heap[b]? := λb hb => hoth b (h6.others (.inl hb));obtain ⟨h7,h8⟩ := h2.other hrow;have hr'' : JP fn.ntmps I' w'' r' a' := ⟨h3.size,h3.low,λt x hx => by
       have hx' := h3.get t x hx;rw [lk_mode hx' rfl λr hr => hoth _ (h6.others (.inr λds e => by rw [hr] at e; cases e))];exact h8 _ _ hx',h3.gl.mono λb hu hb => ⟨hu,hrow b hb⟩⟩
     obtain ⟨u,h9,h10⟩ := retE_ok (P := P) h7 hr'' hv;refine ⟨u,h9,v,S',I',u,rfl,hret,h10,h7,?_⟩
     exact { len := h4.len,size := by rw [hsz']; exact h4.size,os := hos.trans h4.os,out := hout.trans h4.out,keep := h4.keep,none := h4.none,new := h4.new,res := h4.res,ex := h4.ex,resKeep := λb hb => (hrow b (.inl (h2.resRow b (h4.res ▸ hb)))).trans (h4.resKeep b hb),
             frame := λb hb hu => (hn' b hb).trans (h4.frame b hb hu) }
   cases e with
   | normal => show LeavesInM _ _ _ _ _ _ a'.defers _ _; rw [h5]; exact hleave
   | ret => show LeavesInM _ _ _ _ _ _ a'.defers _ _; rw [h5]; exact hleave
   | exit _ => exact hex.elim
   | goto _ => exact hex.elim
   | panic _ => exact hex.elim
   | outgrown => exact hex.elim
 · exact hret.elim
end
end Go.Abs
namespace Go.Abs
variable [Gl]
structure COp where(d:Option Nat)(op:Op)(g:Option (Nat×Bool))(k:List Nat)
inductive CC where
 |skip
 |reg (ops:List COp)
 |drw (ops:List COp) (bef:List Nat)
 |seq (a b:CC)
 |cond (c:Operand) (a b:CC)
 |block (id:Nat) (a:CC)
 |loop (a:CC)
 |exit (id:Nat)
 |ret
 |rng (f:Operand) (ps:Array Tmp) (a b:CC)
 |scp (a:CC)
 |lbl
def stripOps(all:Array Oper):List Oper->List (List Nat)->Option (List COp)
 |[],_=>some []
 |o::os,ks=>match (match o.guard with|none=>some none|some (j,want)=>match (all[j]?).bind (·.dst) with|some d=>some (some (d,want))|none=>none),stripOps all os ks.tail with
  |some g,some cs=>some (⟨o.dst,o.op,g,ks.headD []⟩::cs)
  |_,_=>none
def tmpsOf(o:Oper)(all:Array Oper):List Nat:=
 (o.op.operands.toList.filterMap fun|.tmp t=>some t|_=>none)++(match o.guard with|some (j,_)=>((all[j]?).bind (·.dst)).toList|none=>[])
def Kx(ops:Array Oper):Bool:=
 let B:=Region.before ops
 ops.toList.zipIdx.all λ(o,j)=>
  o.after.all (λe=>!Region.binds .any e||decide (e.on<j))&&
  (List.range j).all λi=>
   (!(B.getD j 0).testBit i||o.after.any λe=>Region.binds .any e&&(e.on==i||decide (i<e.on)&&(B.getD e.on 0).testBit i))&&
   match ops[i]? with
   |some p=>
    let clash:=(match p.dst with|some d=>(tmpsOf o ops).contains d||o.dst==some d|none=>false)||(match o.dst with|some d=>(tmpsOf p ops).contains d|none=>false)
    !clash||(B.getD j 0).testBit i
   |none=>true
abbrev KS:=List (List (List Nat))
def strip:Code->KS->Option (CC×KS)
 |.skip,ks=>some (.skip,ks)
 |.region _ ops false,ks=>(stripOps ops ops.toList (ks.headD [])).map λc=>(.reg c,ks.tail)
 |.region _ ops true,ks=>if Kx ops then (stripOps ops ops.toList (ks.headD [])).map λc=>(.drw c (Region.before ops).toList,ks.tail) else none
 |.seq a b,ks=>match strip a ks with
  |some (x,ks)=>match strip b ks with
   |some (y,ks)=>some (.seq x y,ks)
   |none=>none
  |none=>none
 |.cond c a b,ks=>match strip a ks with
  |some (x,ks)=>match strip b ks with
   |some (y,ks)=>some (.cond c x y,ks)
   |none=>none
  |none=>none
 |.block id a,ks=>match strip a ks with
  |some (x,ks)=>some (.block id x,ks)
  |none=>none
 |.loop a,ks=>match strip a ks with
  |some (x,ks)=>some (.loop x,ks)
  |none=>none
 |.exit id,ks=>some (.exit id,ks)
 |.ret,ks=>some (.ret,ks)
 |.rangeFunc f ps a b,ks=>match strip a ks with
  |some (x,ks)=>match strip b ks with
   |some (y,ks)=>some (.rng f ps x y,ks)
   |none=>none
  |none=>none
 |.scope a,ks=>match strip a ks with
  |some (x,ks)=>some (.scp x,ks)
  |none=>none
 |.label _,ks=>some (.lbl,ks)
 |_,_=>none
def QB.kill(r:QB):List Nat->QB
 |[]=>r
 |t::ts=>QB.kill (r.del t) ts
universe u
structure Tag{β:Sort u}(b:β):Type where
 mk::
def WM(b:Bool)(X:Prop)(_:Tag X):Prop:=b=true/\X
def onGuard(g:Option Bool)(A B:Prop)(_:Tag A)(_:Tag B):Prop:=match g with|some b=>(if b=true then A else B)|none=>False
def U7{α:Type}(x:Option (α×QA))(K:α->QA->Prop)(_:Tag K):Prop:=match x with|some (a,b)=>K a b|none=>False
def onBool(v:Option AV)(A B:Prop)(_:Tag A)(_:Tag B):Prop:=match v with|some (.c (.t (.bool t)))=>(if t=true then A else B)|_=>False
def onIf(b:Prop)(A:Prop)(_:Tag A):Prop:=b->A
def onOpt{α:Type}(v:Option α)(K:α->Prop)(_:Tag K):Prop:=match v with|some a=>K a|none=>False
def YP(A B:Prop)(t:Tag A)(u:Tag B):onGuard (some true) A B t u=A:=by simp[onGuard]
def Zz(r:QB):Option (Nat×Bool)->Option Bool
 |none=>some true
 |some (d,want)=>match r.at d with
  |some v=>Ks v want
  |none=>none
def callE(r:QB)(f:Operand)(args:List Operand):Option (FuncId×List AV):=match ev r f,evl r args with
 |some fv,some as=>callArgs fv as
 |_,_=>none
def callK(P:Program)(g:FuncId)(args:List AV)(M:QA)(K:Option AV->QA->Prop)(_:Tag K):Prop:=Jw P g args M λv S'=>K (some v) S'
def nilK(M:QA)(K:Option AV->QA->Prop)(_:Tag K)(x:Nat×Bool):Prop:=K (some (aB x.2)) M/\onIf (x.1=0) (K (some (aB !x.2)) M) ⟨⟩
def stepC(P:Program)(r:QB)(M:QA)(op:Op)(K:Option AV->QA->Prop)(t:Tag K):Prop:=
 match op with
 |.call { callee:=.value f,args,argTypes:=_ }=>onOpt (callE r f args.toList) (λx=>callK P x.1 x.2 M K t) ⟨⟩
 |.binOp b xT x y yT=>if JS y then (match tinf P xT with
   |some i=>(match i.kind with
    |.slice _=>onOpt (Jg P r (.binOp b xT x y yT)) (nilK M K t) ⟨⟩
    |_=>U7 (opE P r M (.binOp b xT x y yT)) K t)
   |none=>False) else U7 (opE P r M (.binOp b xT x y yT)) K t
 |op=>U7 (opE P r M op) K t
def stepC_eq{P:Program}{r:QB}{M:QA}{o:Oper}{K:Option AV->QA->Prop}{t:Tag K}(h:stepC P r M o.op K t):stepOk P r M o K:=by
 unfold stepC at h;unfold stepOk;split at h
 ·rename_i f args ts hop;rw[hop];simp only;unfold callE onOpt at h;split at h
  ·rename_i x hx;split at hx
   ·rename_i fv as h1 h2;obtain⟨g,as'⟩:=x;first
     |(rw[h1,h2];simp only[hx];exact h)
     |(simp only[hx];exact h)
     |exact h
   ·cases hx
  ·exact h.elim
 ·rename_i b xT x y yT hop;rw[hop];simp only;split at h
  ·rename_i hy;split at h
   ·rename_i i hi;split at h
    ·rename_i e hk;unfold onOpt at h;split at h
     ·rename_i p hp;rw[hp];exact h
     ·exact h.elim
    ·rename_i hne;have hn:Jg P r (.binOp b xT x y yT)=none:=by
      simp only[Jg,hy,Aq,hi];split
      ·rename_i i' v ne e1 e2 e3;injection e1 with e1;subst e1;split
       ·rename_i e n hk _;exact absurd hk (hne e)
       ·rfl
      ·rfl
     rw[hn];unfold U7 at h;split at h
     ·rename_i a b' hab;rw[hab];exact h
     ·exact h.elim
   ·exact h.elim
  ·rename_i hy;have hn:Jg P r (.binOp b xT x y yT)=none:=(by simp only[Jg,hy];rfl);rw[hn];unfold U7 at h;split at h
   ·rename_i a b' hab;rw[hab];exact h
   ·exact h.elim
 ·rename_i h1 h2;have hn:Jg P r o.op=none:=by
   unfold Jg;split
   ·rename_i b xT x y yT hop;exact absurd hop (h2 b xT x y yT)
   ·rfl
  split
  ·rename_i f args ts hop;exact absurd hop (h1 f args ts)
  ·rw[hn];unfold U7 at h;split at h
   ·rename_i a b' hab;rw[hab];exact h
   ·exact h.elim
def opsC(P:Program)(N:Nat):List COp->QB->QA->(K:QB->QA->Prop)->Tag K->Prop
 |[],r,M,K,_=>K r M
 |⟨d,op,g,k⟩::os,r,M,K,t=>WM (X3 N d) (onGuard (Zz r g) (stepC P r M op (λres S'=>opsC P N os ((r.JM d res).kill k) S' K t) ⟨⟩) (opsC P N os ((r.drop d).kill k) M K t) ⟨⟩ ⟨⟩) ⟨⟩
def DrawQ(P:Program)(N:Nat)(ro:Option Nat)(cs:List COp)(bef:List Nat)(r:QB)(M:QA)(Q:Exit->QB->QA->Prop)(_:Tag Q):Prop:=∀id ops ks,stripOps ops ops.toList ks=some cs->bef=(Region.before ops).toList->Kx ops=true->JZ P N ro (.region id ops true) r M Q
def LoopQ(P:Program)(N:Nat)(ro:Option Nat)(C:CC)(r:QB)(M:QA)(Q:Exit->QB->QA->Prop)(_:Tag Q):Prop:=∀c ks ks',strip c ks=some (C,ks')->JZ P N ro (.loop c) r M Q
def RangeQ(P:Program)(N:Nat)(ro:Option Nat)(f:Operand)(ps:Array Tmp)(A B:CC)(r:QB)(M:QA)(Q:Exit->QB->QA->Prop)(_:Tag Q):Prop:=∀a b ks ks' ks'',strip a ks=some (A,ks')->strip b ks'=some (B,ks'')->JZ P N ro (.rangeFunc f ps a b) r M Q
def wpq(P:Program)(N:Nat)(ro:Option Nat):CC->QB->QA->(Q:Exit->QB->QA->Prop)->Tag Q->Prop
 |.skip,r,M,Q,_=>Q .normal r M
 |.reg ops,r,M,Q,_=>opsC P N ops r M (Q .normal) ⟨⟩
 |.drw ops bef,r,M,Q,t=>DrawQ P N ro ops bef r M Q t
 |.seq x y,r,M,Q,t=>wpq P N ro x r M (λe r' S'=>match e with|.normal=>wpq P N ro y r' S' Q t|e=>Q e r' S') ⟨⟩
 |.cond c x y,r,M,Q,t=>onBool (ev r c) (wpq P N ro x r M Q t) (wpq P N ro y r M Q t) ⟨⟩ ⟨⟩
 |.block id c,r,M,Q,_=>wpq P N ro c r M (λe r' S'=>match e with|.exit i=>if i=id then Q .normal r' S' else Q (.exit i) r' S'|e=>Q e r' S') ⟨⟩
 |.loop c,r,M,Q,t=>LoopQ P N ro c r M Q t
 |.exit id,r,M,Q,_=>Q (.exit id) r M
 |.ret,r,M,Q,_=>Q .ret r M
 |.rng f ps x y,r,M,Q,t=>RangeQ P N ro f ps x y r M Q t
 |.scp x,r,M,Q,_=>wpq P N ro x r M (λe r' S'=>match e with|.goto _=>False|e=>Q e r' S') ⟨⟩
 |.lbl,r,M,Q,_=>Q .normal r M
section
variable {P:Program}{N:Nat}{ro:Option Nat}
def QB.get_del_some{r:QB}{t t':Nat}{v:AV}(h:(r.del t).get t'=some v):r.get t'=some v:=by
 by_cases e:t=t'
 ·subst e;rw[QB.ZL]at h;cases h
 ·rw[QB.YW _ e]at h;exact h
def JP.sub{O:Map}{w:World}{r r':QB}{a:Act}(h:JP N O w r a)(hs:∀t v,r'.get t=some v->r.get t=some v):JP N O w r' a:=
 ⟨h.size,h.low,λt v hv=>h.get t v (hs t v hv),h.gl⟩
def QB.Y0:∀{ts:List Nat} {r:QB} {t:Nat} {v:AV},(r.kill ts).get t=some v->r.get t=some v
 |[],_,_,_,h=>h
 |_::ts,r,_,_,h=>QB.get_del_some (QB.Y0 (ts:=ts) h)
def ZQ{all:Array Oper}{r:QB}{o:Oper}{g:Option (Nat×Bool)}(h:(match o.guard with|none=>some none|some (j,want)=>match (all[j]?).bind (·.dst) with|some d=>some (some (d,want))|none=>none)=some g):
  Zz r g=Jn all r o.guard:=by
 cases hg:o.guard with
 |none=>rw[hg]at h;simp only[Kn]at h;subst h;rfl
 |some p=>
  obtain⟨j,want⟩:=p;rw[hg]at h;simp only at h;split at h
  ·rename_i d hd;injection h with h;subst h;simp only[Zz,Jn,hd]<;>rfl
  ·cases h
def opsC_ok{ops:Array Oper}{K:QB->QA->Prop}{i₀:Map}{s₀:QA}{w₀:World}{a₀:Act}{Q:Exit->QB->QA->Prop}(hQ:∀r M,K r M->Q .normal r M):
  ∀(os:List Oper) (cs:List COp) (ks:List (List Nat)),stripOps ops os ks=some cs->∀(k:Nat),os=ops.toList.drop k->∀{r:QB} {M:QA} {t:Tag K},opsC P N cs r M K t->∀{O:Map} {w:World} {a:Act},HR O M w->JP N O w r a->Step i₀ s₀ w₀ O M w->a.defers=a₀.defers->
   wpOpsIn (wr ro) 0 P ops (post N Q i₀ s₀ w₀ a₀) (List.range' k (ops.size - k)) a w
 |[],cs,ks,hst,k,hk,r,M,tg,h,O,w,a,hh,hr,hs,hd=>by simp only[stripOps,Kn]at hst;subst hst;have hlen:ops.toList.length<=k:=Bw.1 hk.symm;have:ops.size - k=0:=(by simp at hlen;omega);rw[this];exact⟨trivial,r,M,O,[],hQ r M h,hh,hr,hs,hd,Marks.nil _ _⟩
 |o::os,cs,ks,hst,k,hk,r,M,tg,h,O,w,a,hh,hr,hs,hd=>by
  simp only[stripOps]at hst;split at hst
  ·rename_i g cs' hg hcs;injection hst with hst;subst hst;have hlt:k<ops.size:=(by have:(ops.toList.drop k).length=os.length+1:=(by rw[<-hk];rfl);simp at this;omega);have hok:ops[k]? =some o:=(by have:(ops.toList.drop k)[0]? =some o:=(by rw[<-hk];rfl);simpa using this);have hos:os=ops.toList.drop (k+1):=(by have:(ops.toList.drop k).tail=os:=(by rw[<-hk];rfl);rw[<-this];simp);have hr':List.range' k (ops.size - k)=k::List.range' (k+1) (ops.size - (k+1)):=(by have:ops.size - k=(ops.size - (k+1))+1:=(by omega);rw[this,List.range'_succ]);rw[hr'];obtain⟨hdst,h⟩:=h;simp only[wpOpsIn,hok];rw[ZQ hg]at h;unfold onGuard at h;split at h
   ·rename_i b hb;have hw:=Wc hr hb;rw[hw]
    cases b with
    |true=>simp only[Aq]at h⊢;refine Zm hh hr hdst (K:=λres S'=>opsC P N cs' ((r.JM o.dst res).kill (ks.headD [])) S' K tg) (stepC_eq h) λres S' I' w' a' hK hh' hr' hs' hd'=> ?_;exact opsC_ok hQ os cs' _ hcs (k+1) hos hK hh' (hr'.sub λ_ _=>QB.Y0) (hs.trans hs') (hd'.trans hd)
    |false=>simp only[Ab,Al]at h⊢;refine⟨λ_ _=>trivial,?_⟩;have hdf:(a.put o.dst undef).defers=a.defers:=(by cases o.dst<;>rfl);exact opsC_ok hQ os cs' _ hcs (k+1) hos h hh ((hr.drop (YY hdst)).sub λ_ _=>QB.Y0) hs (hdf.trans hd)
   ·exact h.elim
  ·cases hst
def Kc:∀{c:Code} {ks ks':KS} {C:CC},strip c ks=some (C,ks')->∀{r:QB} {M:QA} {Q:Exit->QB->QA->Prop} {t:Tag Q},wpq P N ro C r M Q t->JZ P N ro c r M Q
 |.skip,ks,ks',C,hs,r,M,Q,tg,h=>by simp only[strip,Kn,A0]at hs;obtain⟨rfl,rfl⟩:=hs;exact ok_skip h
 |.region id ops false,ks,ks',C,hs,r,M,Q,tg,h=>by simp only[strip,WF,A0]at hs;obtain⟨cs,h1,rfl,rfl⟩:=hs;intro O w a hh hr;refine wpIn_region ?_;rw[List.range_eq_range'];have:=opsC_ok (ro:=ro) (Q:=Q) (a₀:=a) (λ_ _ h=>h) ops.toList cs _ h1 0 (by simp) h hh hr (Step.refl O M w) rfl;simpa using this
 |.region id ops true,ks,ks',C,hs,r,M,Q,tg,h=>by
  simp only[strip]at hs;split at hs
  ·rename_i hd;simp only[WF,A0]at hs;obtain⟨cs,h1,rfl,rfl⟩:=hs;exact h id ops _ h1 rfl hd
  ·cases hs
 |.seq x y,ks,ks',C,hs,r,M,Q,tg,h=>by
  simp only[strip]at hs;split at hs
  ·rename_i X k1 hx;split at hs
   ·rename_i Y k2 hy;injection hs with hs;injection hs with e1 e2;subst e1;subst e2;exact ok_seq ((Kc (c:=x) hx h).mono λe r' S' hq=>by
     cases e with
     |normal=>exact Kc (c:=y) hy hq
     |_=>exact hq)
   ·cases hs
  ·cases hs
 |.cond c x y,ks,ks',C,hs,r,M,Q,tg,h=>by
  simp only[strip]at hs;split at hs
  ·rename_i X k1 hx;split at hs
   ·rename_i Y k2 hy;injection hs with hs;injection hs with e1 e2;subst e1;subst e2;simp only[wpq]at h;unfold onBool at h;split at h
    ·rename_i t ht;refine ok_cond ht ?_
     cases t with
     |true=>exact Kc (c:=x) hx h
     |false=>exact Kc (c:=y) hy h
    ·exact h.elim
   ·cases hs
  ·cases hs
 |.block id x,ks,ks',C,hs,r,M,Q,tg,h=>by
  simp only[strip]at hs;split at hs
  ·rename_i X k1 hx;injection hs with hs;injection hs with e1 e2;subst e1;subst e2;exact ok_block (Kc (c:=x) hx h)
  ·cases hs
 |.loop x,ks,ks',C,hs,r,M,Q,tg,h=>by
  simp only[strip]at hs;split at hs
  ·rename_i X k1 hx;injection hs with hs;injection hs with e1 e2;subst e1;subst e2;exact h x _ _ hx
  ·cases hs
 |.exit id,ks,ks',C,hs,r,M,Q,tg,h=>by simp only[strip,Kn,A0]at hs;obtain⟨rfl,rfl⟩:=hs;exact ok_exit h
 |.ret,ks,ks',C,hs,r,M,Q,tg,h=>by simp only[strip,Kn,A0]at hs;obtain⟨rfl,rfl⟩:=hs;exact ok_ret h
 |.rangeFunc f ps x y,ks,ks',C,hs,r,M,Q,tg,h=>by
  simp only[strip]at hs;split at hs
  ·rename_i X k1 hx;split at hs
   ·rename_i Y k2 hy;injection hs with hs;injection hs with e1 e2;subst e1;subst e2;exact h x y _ _ _ hx hy
   ·cases hs
  ·cases hs
 |.scope x,ks,ks',C,hs,r,M,Q,tg,h=>by
  simp only[strip]at hs;split at hs
  ·rename_i X k1 hx;injection hs with hs;injection hs with e1 e2;subst e1;subst e2;exact ok_scope (Kc (c:=x) hx h)
  ·cases hs
 |.label l,ks,ks',C,hs,r,M,Q,tg,h=>by simp only[strip,Kn,A0]at hs;obtain⟨rfl,rfl⟩:=hs;exact ok_label h
 |.goto l,ks,ks',C,hs,_,_,_,_,_=>by simp[strip]at hs
 |.refuse s,ks,ks',C,hs,_,_,_,_,_=>by simp[strip]at hs
structure QD(P:Program)(f:FuncId)(N:Nat)(rs:List ResultVar)(C:CC):Prop where
 ex : ∃ fn c ks ks',P.funcs[f]? = some fn /\ fn.body = some c /\ (fn.name == "runtime.NumGoroutine") = false /\ fn.ntmps = N /\ fn.results.toList = rs /\ strip c ks = some (C,ks') /\ Nat.ble N BIG = true
def bodyQ(P:Program)(rs:List ResultVar)(Q:AV->QA->Prop):Exit->QB->QA->Prop
 |.normal,r,M=>onOpt (V8 P rs r M) (λv=>Q v M) ⟨⟩
 |.ret,r,M=>onOpt (V8 P rs r M) (λv=>Q v M) ⟨⟩
 |_,_,_=>False
def fnq{f:FuncId}{rs:List ResultVar}{C:CC}(hs:QD P f N rs C){args:List AV}{M:QA}{Q:AV->QA->Prop}(hn:args.length<=N)(h:wpq P N none C (JV args) M (bodyQ P rs Q) ⟨⟩):Jw P f args M Q:=by
 obtain⟨fn,c,ks,ks',h1,h2,h3,rfl,rfl,h6,h7⟩:=hs.ex;refine fn_ok h1 h2 h3 hn (BQ h7) ((Kc h6 h).mono λe r M hq=> ?_)
 cases e with
 |normal=>
  refine⟨trivial,?_⟩;have hq':onOpt (V8 P fn.results.toList r M) (λv=>Q v M) ⟨⟩:=hq
  cases hv:V8 P fn.results.toList r M with
  |none=>rw[hv]at hq';exact hq'
  |some v=>rw[hv]at hq';exact hq'
 |ret=>
  refine⟨trivial,?_⟩;have hq':onOpt (V8 P fn.results.toList r M) (λv=>Q v M) ⟨⟩:=hq
  cases hv:V8 P fn.results.toList r M with
  |none=>rw[hv]at hq';exact hq'
  |some v=>rw[hv]at hq';exact hq'
 |_=>exact False.elim hq
end
end Go.Abs
namespace Go.Abs
variable [Gl]
section
variable (P:Program)(r:QB)(M:QA)(K:Option AV->QA->Prop)(tg:Tag K)
def op_store(t:TypeId)(a:Operand)(x:Operand):opE P r M (.store t a x)=match tinf P t,ev r a,ev r x with
  |some i,some v,some u=>(XE M i v u).map λS'=>(none,S')
  |_,_,_=>none:=rfl
def op_indexAddr(t:TypeId)(x:Operand)(i:Operand):opE P r M (.indexAddr t x i)=match ev r x,ev r i with
  |some v,some n=>(XW P t v n).map λu=>(some u,M)
  |_,_=>none:=rfl
end
end Go.Abs
namespace Go.Abs
variable [Gl]
inductive DL where
 |reg (t:Nat)
 |obj (b:Nat)
 |len
 deriving DecidableEq
abbrev St:=QB×QA
def agree(s s':St):DL->Prop
 |.reg t=>s.1.get t=s'.1.get t
 |.obj b=>s.2[b]? =s'.2[b]?
 |.len=>s.2.length=s'.2.length
def agree.refl(s:St)(l:DL):agree s s l:=by cases l<;>rfl
def agree.symm{s s':St}{l:DL}(h:agree s s' l):agree s' s l:=by cases l<;>exact Eq.symm h
def agree.trans{s s' s'':St}{l:DL}(h:agree s s' l)(h':agree s' s'' l):agree s s'' l:=by cases l<;>exact Eq.trans h h'
structure q7(n:Nat)(S:Nat->St)(R W:Nat->DL->Prop)(bef:Nat->Nat->Prop):Prop where
 same:∀j l,j<n->¬W j l->agree (S (j+1)) (S j) l
 order:∀i j,i<j->j<n->(∃l,(W i l/\(W j l\/R j l))\/(R i l/\W j l))->bef j i
section
variable {n:Nat}{S:Nat->St}{R W:Nat->DL->Prop}{bef:Nat->Nat->Prop}
def q7.skip(h:q7 n S R W bef){l:DL}:∀{k i:Nat},i+k<=n->(∀j,i<=j->j<i+k->¬W j l)->agree (S (i+k)) (S i) l
 |0,i,_,_=>agree.refl _ _
 |k+1,i,hn,hw=>(h.same (i+k) l (by omega) (hw _ (by omega) (by omega))).trans (h.skip (k:=k) (by omega) λj h1 h2=>hw j h1 (by omega))
def q7.skip'(h:q7 n S R W bef){l:DL}{i k:Nat}(hik:i<=k)(hn:k<=n)(hw:∀j,i<=j->j<k->¬W j l):agree (S k) (S i) l:=by have:=h.skip (l:=l) (k:=k - i) (i:=i) (by omega) λj h1 h2=>hw j h1 (by omega);rwa [show i+(k - i)=k by omega]at this
def Y4(S:Nat->St)(W:Nat->DL->Prop)(L:Nat->Prop)(s:St):Prop:=
 ∀l,(∃j,L j/\W j l/\(∀k,L k->W k l->k<=j)/\agree s (S (j+1)) l)\/((∀j,L j->¬W j l)/\agree s (S 0) l)
def q7.read(h:q7 n S R W bef){L:Nat->Prop}{s:St}(hs:Y4 S W L s)(hL:∀k,L k->k<n)(hcl:∀k i,L k->bef k i->L i){j:Nat}(hj:j<n)(hjL:¬L j)(hbef:∀i,bef j i->L i)
  {l:DL} (hl:R j l\/W j l):agree s (S j) l:=by
 have before:∀i,i<j->W i l->L i:=λi hi hw=>hbef i (h.order i j hi hj ⟨l,.inl ⟨hw,hl.symm⟩⟩);have after:∀k,L k->j<k->¬W k l:=λk hk hjk hw=>hjL (hcl k j hk (h.order j k hjk (hL k hk) ⟨l,by
  rcases hl with hr|hw'
  ·exact .inr ⟨hr,hw⟩
  ·exact .inl ⟨hw',.inl hw⟩⟩))
 rcases hs l with ⟨m,hm,hmw,hmax,hag⟩|⟨hno,hag⟩
 ·have hmj:m<j:=by
   rcases Nat.lt_trichotomy m j with h1|h1|h1
   ·exact h1
   ·exact absurd (h1▸hm) hjL
   ·exact absurd hmw (after m hm h1)
  exact hag.trans (h.skip' (i:=m+1) (k:=j) (by omega) (by omega) λi h1 h2 hw=>by
   have:=hmax i (before i h2 hw) hw;omega).symm
 ·exact hag.trans (h.skip' (i:=0) (k:=j) (by omega) (by omega) λi _ h2 hw=>hno i (before i h2 hw) hw).symm
def q7.write(h:q7 n S R W bef){L:Nat->Prop}{s s':St}(hs:Y4 S W L s)(hL:∀k,L k->k<n)(hcl:∀k i,L k->bef k i->L i){j:Nat}(hj:j<n)(hjL:¬L j)
  (h1:∀l,¬W j l->agree s' s l) (h2:∀l,W j l->agree s' (S (j+1)) l):Y4 S W (λk=>k=j\/L k) s':=λl=>by
 by_cases hw:W j l
 ·refine .inl ⟨j,.inl rfl,hw,λk hk hkw=> ?_,h2 l hw⟩;rcases hk with rfl|hk
  ·exact A5 _
  ·rcases Nat.lt_or_ge j k with hlt|hge
   ·exact absurd (hcl k j hk (h.order j k hlt (hL k hk) ⟨l,.inl ⟨hw,.inl hkw⟩⟩)) hjL
   ·exact hge
 ·rcases hs l with ⟨m,hm,hmw,hmax,hag⟩|⟨hno,hag⟩
  ·refine .inl ⟨m,.inr hm,hmw,λk hk hkw=> ?_,(h1 l hw).trans hag⟩;rcases hk with rfl|hk
   ·exact absurd hkw hw
   ·exact hmax k hk hkw
  ·refine .inr ⟨λk hk=> ?_,(h1 l hw).trans hag⟩;rcases hk with rfl|hk
   ·exact hw
   ·exact hno k hk
def q7.done(h:q7 n S R W bef){L:Nat->Prop}{s:St}(hs:Y4 S W L s)(hL:∀k,L k->k<n)(hall:∀k,k<n->L k)(l:DL):agree s (S n) l:=by
 rcases hs l with ⟨m,hm,hmw,hmax,hag⟩|⟨hno,hag⟩
 ·have hmn:=hL m hm;exact hag.trans (h.skip' (i:=m+1) (k:=n) (by omega) (A5 _) λi h1 h2 hw=>by
   have:=hmax i (hall i h2) hw;omega).symm
 ·exact hag.trans (h.skip' (i:=0) (k:=n) (by omega) (A5 _) λi _ h2 hw=>hno i (hall i h2) hw).symm
def agree.heap{s s':St}(h:∀l,agree s s' l):s.2=s'.2:=List.ext_getElem? λi=>h (.obj i)
end
end Go.Abs
namespace Go.Abs
variable [Gl]
def agC(τ M:QA):Nat->Prop
 |0=>τ.length=M.length
 |b+1=>τ[b]? =M[b]?
def agC.refl(τ:QA)(c:Nat):agC τ τ c:=by cases c<;>rfl
def JN:Option AV->List Nat
 |some (.c (.ptr r))=>[r.id+1]
 |some (.c (.sl r _ _))=>[r.id+1]
 |_=>[]
abbrev DR:=Option AV×QA×List Nat×List Nat
def newD(M:QA)(x:Option AV×QA)(rs:List Nat):DR:=if x.2.length=M.length then (x.1,x.2,[],[]) else (x.1,x.2,0::rs,[0,M.length+1])
def opD(P:Program)(r:QB)(M:QA)(op:Op):Option DR:=match op with
 |.load t a=>(opE P r M (.load t a)).map λx=>(x.1,x.2,JN (ev r a),[])
 |.store t a v=>(opE P r M (.store t a v)).map λx=>(x.1,x.2,JN (ev r a),JN (ev r a))
 |.alloc e=>(opE P r M (.alloc e)).map λx=>newD M x []
 |.box t v=>(opE P r M (.box t v)).map λx=>newD M x []
 |.makeSlice t l c=>(opE P r M (.makeSlice t l c)).map λx=>newD M x []
 |.buildSlice t n ps=>(opE P r M (.buildSlice t n ps)).map λx=>newD M x []
 |.slice t v lo hi mx=>(opE P r M (.slice t v lo hi mx)).map λx=>(x.1,x.2,JN (ev r v),[])
 |.call { callee:=.builtin .append,args,argTypes }=>match args.toList with
  |[s,v]=>(opE P r M (.call { callee:=.builtin .append,args,argTypes })).map λx=>
   if x.2.length=M.length then (x.1,x.2,JN (ev r s)++JN (ev r v),JN (ev r s)) else (x.1,x.2,0::(JN (ev r s)++JN (ev r v)),[0,M.length+1])
  |_=>none
 |.call { callee:=.builtin .cap,args,argTypes }=>match args.toList with
  |[s]=>(opE P r M (.call { callee:=.builtin .cap,args,argTypes })).map λx=>(x.1,x.2,JN (ev r s),[])
  |_=>none
 |.call { callee:=.builtin .copy,args,argTypes }=>match args.toList with
  |[s,v]=>(opE P r M (.call { callee:=.builtin .copy,args,argTypes })).map λx=>(x.1,x.2,JN (ev r s)++JN (ev r v),JN (ev r s))
  |_=>none
 |op=>(opE P r M op).map λx=>(x.1,x.2,[],[])
section
variable {P:Program}
def X0(τ A' M S':QA)(ws:List Nat):Prop:=(∀c,c∉ws->agC A' τ c)/\(∀c,c∈ws->agC A' S' c)/\(∀c,c∉ws->agC S' M c)
def X0.none{τ M:QA}:X0 τ τ M M []:=⟨λc _=>agC.refl τ c,λc h=>absurd h (by simp),λc _=>agC.refl M c⟩
def agC_push{τ M:QA}(o:Obj)(h:τ.length=M.length):∀c,c∉[0,M.length+1]->agC (τ++[o]) τ c:=λc hc=>by
 cases c with
 |zero=>simp at hc
 |succ b=>
  have:b≠τ.length:=λe=>hc (by simp[e,h]);show(τ++[o])[b]? =τ[b]?;by_cases hlt:b<τ.length
  ·rw[AL hlt]
  ·rw[AU (by omega),B5 (by omega:τ.length<=b)];rw[B5];simp;omega
def X0.push{τ M:QA}(o:Obj)(h:τ.length=M.length):X0 τ (τ++[o]) M (M++[o]) [0,M.length+1]:=
 ⟨agC_push o h,λc hc=>by
  simp only[AT,Av,Bu]at hc;rcases hc with rfl|rfl
  ·show(τ++[o]).length=(M++[o]).length;simp[h]
  ·show(τ++[o])[M.length]? =(M++[o])[M.length]?;rw[<-h];simp[h],agC_push o rfl⟩
def X0.setAt{τ M:QA}{b:Nat}(o:Obj)(h:τ[b]? =M[b]?):X0 τ (τ.set b o) M (M.set b o) [b+1]:=by
 have off:∀(τ:QA) c,c∉[b+1]->agC (τ.set b o) τ c:=fun τ c hc=>by
  cases c with
  |zero=>exact Ap
  |succ d=>have:b≠d:=λe=>hc (by simp[e]);exact Bm this
 refine⟨off τ,λc hc=> ?_,off M⟩;simp only[AT,Av,Bu]at hc;subst hc;show(τ.set b o)[b]? =(M.set b o)[b]?;by_cases h1:b<τ.length
 ·have h2:b<M.length:=(by rw[A4 h1]at h;exact(AD.1 h.symm).1);rw[CW h1,CW h2]
 ·have h2:¬b<M.length:=λh2=>(by rw[A4 h2]at h;exact h1 (AD.1 h).1);rw[B5 (by simp;omega),B5 (by simp;omega)]
def XM{τ M:QA}{r:Ref}(h:agC τ M (r.id+1)):τ.at? r=M.at? r:=by unfold QA.at?;rw[show τ[r.id]? =M[r.id]? from h]
def UG{r r':QB}:∀{ps:List (Nat×Operand)},(∀x∈ps.map (·.2),ev r' x=ev r x)->evs r' ps=evs r ps
 |[],_=>rfl
 |(i,x)::rest,h=>by simp only[evs];rw[h x (by simp),UG (ps:=rest) λy hy=>h y (by simp at hy⊢;exact .inr hy)]
def XD{r r':QB}:∀{ps:List Operand},(∀x∈ps,ev r' x=ev r x)->evl r' ps=evl r ps
 |[],_=>rfl
 |x::rest,h=>by simp only[evl];rw[h x (by simp),XD (ps:=rest) λy hy=>h y (by simp[hy])]
def UH{r r':QB}:∀{x:Option Operand},(∀y∈x.toArray,ev r' y=ev r y)->evo r' x=evo r x
 |none,_=>rfl
 |some y,h=>by simp only[evo];rw[h y (by simp)]
def opE_regs{r r':QB}{M:QA}{op:Op}(hr:∀x∈op.operands,ev r' x=ev r x):opE P r' M op=opE P r M op:=by
 cases op with
 |move x=>simp only[opE];rw[hr x (by simp[Op.operands])]
 |assign x=>simp only[opE];rw[hr x (by simp[Op.operands])]
 |pick c a b=>
  simp only[opE];rw[hr c (by simp[Op.operands])];split
  ·rename_i t _;cases t
   ·simp only[Ab,Al];rw[hr b (by simp[Op.operands])]
   ·simp only[Aq];rw[hr a (by simp[Op.operands])]
  ·rfl
 |alloc e=>rfl
 |box t x=>simp only[opE];rw[hr x (by simp[Op.operands])]
 |build t ps=>simp only[opE];rw[UG λx hx=>hr x (by simpa [Op.operands] using hx)]
 |buildSlice t n ps=>simp only[opE];rw[UG λx hx=>hr x (by simpa [Op.operands] using hx)]
 |load t a=>simp only[opE];rw[hr a (by simp[Op.operands])]
 |store t a x=>simp only[opE];rw[hr a (by simp[Op.operands]),hr x (by simp[Op.operands])]
 |nilCheck x=>simp only[opE];rw[hr x (by simp[Op.operands])]
 |binOp op t x y u=>simp only[opE];rw[hr x (by simp[Op.operands]),hr y (by simp[Op.operands])]
 |unOp op t x=>simp only[opE];rw[hr x (by simp[Op.operands])]
 |convert s d x=>simp only[opE];rw[hr x (by simp[Op.operands])]
 |makeFunc f first caps=>
  cases f with
  |func f=>simp only[opE];rw[XD (ps:=caps.toList) λx hx=>hr x (by simp[Op.operands];exact .inr (by simpa using hx)),XD (ps:=first.toList) λx hx=>hr x (by simp[Op.operands];exact .inl (by simpa using hx))]
  |_=>rfl
 |makeSlice t l c=>simp only[opE];rw[hr l (by simp[Op.operands]),hr c (by simp[Op.operands])]
 |slice t x l h m=>
  simp only[opE];rw[hr x (by simp[Op.operands]),UH (x:=l) λy hy=>hr y (by simp[Op.operands]at hy⊢;simp[hy]),UH (x:=h) λy hy=>hr y (by simp[Op.operands]at hy⊢;simp[hy]),
   UH (x:=m) λy hy=>hr y (by simp[Op.operands]at hy⊢;simp[hy])]
 |fieldAddr t x f=>simp only[opE];rw[hr x (by simp[Op.operands])]
 |field t x f=>simp only[opE];rw[hr x (by simp[Op.operands])]
 |indexAddr t x i=>simp only[opE];rw[hr x (by simp[Op.operands]),hr i (by simp[Op.operands])]
 |index t x i=>simp only[opE];rw[hr x (by simp[Op.operands]),hr i (by simp[Op.operands])]
 |extract x i=>simp only[opE];rw[hr x (by simp[Op.operands])]
 |call c=>
  obtain⟨callee,args,ts⟩:=c
  cases callee with
  |builtin b=>simp only[opE];rw[XD λx hx=>hr x (by simp[Op.operands,Call.operands];simpa using hx)]
  |_=>rfl
 |lookup t x k c=>
  cases c with
  |true=>simp only[opE];rw[hr x (by simp[Op.operands]),hr k (by simp[Op.operands])]
  |false=>rfl
 |_=>rfl
def loadE_congr{τ M:QA}{i:JD}{v:AV}(h:∀c∈JN (some v),agC τ M c):Zb τ i v=Zb M i v:=by
 unfold Zb;split
 ·rw[XM (h _ (by simp[JN]))]
 ·rfl
 ·rfl
def sliceE_congr{τ M:QA}{t:TypeId}{v:AV}{lo hi mx:Option AV}(h:∀c∈JN (some v),agC τ M c):Yk P τ t v lo hi mx=Yk P M t v lo hi mx:=by
 unfold Yk;split
 ·split
  ·rfl
  ·rw[XM (h _ (by simp[JN]))]
  ·rfl
  ·rfl
 ·rfl
def Wg{τ M:QA}{es n:Nat}{v:AV}(h:∀c∈JN (some v),agC τ M c):JF τ es n v=JF M es n v:=by
 unfold JF;split
 ·rw[XM (h _ (by simp[JN]))]
 ·rfl
 ·rfl
 ·rfl
end
end Go.Abs
