/- A part of the proof. -/
import Derived.CallsIn
import Derived.OrdersIn
import Derived.WalkKit
import Derived.Maps.OwnSet
import Derived.Laws.StructEq
import Derived.RangeFuncLeaves
import Derived.RangeFuncRecord
set_option linter.all false
namespace Go
abbrev X3:=@Option.some.injEq
abbrev WF:=@Option.map_eq_some_iff
abbrev A0:=@Prod.mk.injEq
abbrev A4:=@List.getElem?_eq_getElem
abbrev A5:=@cond_true
abbrev A6:=@Nat.le_refl
abbrev A7:=@cond_false
abbrev A8:=@Array.getElem?_eq_some_iff
abbrev A9:=@Bool.and_eq_true
abbrev AA:=@List.length_map
abbrev AB:=@decide_eq_true
abbrev AC:=@Int.toNat_natCast
abbrev AD:=@Option.map_some
abbrev AE:=@List.getElem?_eq_some_iff
abbrev AF:=@if_pos
abbrev AG:=@Bool.and_self
abbrev AH:=@List.getElem_mem
abbrev AI:=@Nat.zero_add
abbrev AJ:=@List.take_of_length_le
abbrev AK:=@List.getElem?_append_left
abbrev AL:=@List.length_append
abbrev AM:=@Bool.false_eq_true
abbrev AN:=@decide_eq_false
abbrev AO:=@of_decide_eq_true
abbrev AP:=@if_neg
abbrev AQ:=@Sem.run_bind
abbrev AR:=@Result.andThen_ok
abbrev AS:=@List.getElem?_append_right
abbrev AT:=@List.map_cons
abbrev AU:=@List.drop_zero
abbrev AW:=@List.mem_cons
abbrev AX:=@List.getElem_map
abbrev AY:=@run_underlying
abbrev AZ:=@List.map_append
abbrev Aa:=@true_and
abbrev Ab:=@List.getElem?_eq_none
abbrev Ac:=@List.append_assoc
abbrev Ad:=@List.mem_append
abbrev Ae:=@beq_eq_false_iff_ne
abbrev Af:=@if_false
abbrev Ag:=@if_true
abbrev Ah:=@Nat.mul_le_mul_right
abbrev Ai:=@List.mem_singleton
abbrev Aj:=@decide_eq_true_eq
abbrev Ak:=@List.take_length
abbrev Al:=@List.length_eq_zero_iff
abbrev Am:=@List.map_congr_left
abbrev An:=@List.flatMap_cons
abbrev Ao:=@List.not_mem_nil
abbrev Ap:=@Int.tmod_eq_emod_of_nonneg
abbrev Aq:=@Option.some.inj
abbrev Ar:=@List.length_take
abbrev As:=@List.length_cons
abbrev Au:=@Sem.run_pure
abbrev Av:=@beq_iff_eq
abbrev Ax:=@List.getElem?_cons_succ
abbrev Ay:=@Function.comp_def
abbrev Az:=@List.map_drop
abbrev B0:=@Nat.zero_le
abbrev B3:=@Nat.add_mul
abbrev B4:=@List.map_map
abbrev B5:=@Array.getD_eq_getD_getElem?
abbrev B6:=@List.mem_append_left
abbrev B7:=@Option.map_map
abbrev B9:=@List.mem_append_right
abbrev BA:=@List.getElem?_cons_zero
abbrev BB:=@List.eq_nil_of_length_eq_zero
abbrev BC:=@Option.getD_some
abbrev BE:=@Nat.succ_mul
abbrev BF:=@List.map_take
abbrev BG:=@Nat.le_of_ble_eq_true
abbrev BH:=@Nat.zero_mul
abbrev BI:=@CallsIn.mono
abbrev BJ:=@Array.getElem?_push
abbrev BK:=@List.getElem?_map
abbrev BL:=@World.cell?_of_block
abbrev BM:=@List.mem_of_getElem?
abbrev BN:=@Nat.le_trans
abbrev BO:=@Nat.lt_succ_self
abbrev BP:=@List.getElem_append_left
abbrev BQ:=@Nat.eq_of_beq_eq_true
abbrev BR:=@List.length_replicate
abbrev BS:=@heap_setCell_same
abbrev BT:=@decide_false
abbrev BU:=@bne_self_eq_false
abbrev BV:=@Nat.lt_of_lt_of_le
abbrev BW:=@List.getElem?_set_ne
abbrev BX:=@Bool.not_false
abbrev BY:=@List.length_set
abbrev BZ:=@Nat.add_zero
abbrev Ba:=@List.mem_map
abbrev Bb:=@List.map_nil
abbrev Bc:=@List.drop_eq_nil_of_le
abbrev Be:=@List.getElem_append_right
abbrev Bf:=@Array.getElem?_eq_getElem
abbrev Bg:=@List.getElem_of_mem
abbrev Bh:=@List.take_append_drop
abbrev Bi:=@List.length_singleton
abbrev Bj:=@bodyPost_ret
abbrev Bk:=@List.mem_cons_self
abbrev Bl:=@or_false
abbrev Bm:=@World.alloc_heap_new
abbrev Bn:=@Nat.ne_of_lt
abbrev Bo:=@Bool.not_eq_true'
abbrev Bp:=@Array.getElem?_append_left
abbrev Bq:=@decide_true
abbrev Br:=@List.append_nil
abbrev Bs:=@Ne.symm
abbrev Bt:=@List.getElem?_drop
abbrev Bu:=@List.drop_append
abbrev Bv:=@List.mem_range
abbrev Bw:=@List.drop_eq_nil_iff
abbrev Bx:=@List.nil_append
abbrev By:=@Int.toNat_of_nonneg
abbrev Bz:=@wpIn_mono
abbrev C0:=@List.getElem_set
abbrev C1:=@List.ext_getElem
abbrev C2:=@List.filter_append
abbrev C3:=@List.drop_drop
abbrev C6:=@Nat.ble_eq_true_of_le
abbrev C7:=@List.length_filter_le
abbrev C8:=@List.getElem?_toArray
abbrev C9:=@Classical.byContradiction
abbrev CB:=@Bool.or_eq_true
abbrev CD:=@Nat.pow_le_pow_right
abbrev CE:=@List.mem_cons_of_mem
abbrev CG:=@Bool.or_eq_false_iff
abbrev CH:=@Array.size_append
abbrev CI:=@Nat.add_assoc
abbrev CJ:=@List.take_zero
abbrev CK:=@List.length_drop
abbrev CL:=@List.all_eq_true
abbrev CM:=@List.take_append_of_le_length
abbrev CN:=@List.drop_append_of_le_length
abbrev CO:=@List.getElem?_set_self
abbrev CP:=@Bool.or_true
abbrev CQ:=@BitVec.toNat_ofNat
abbrev CS:=@Nat.min_eq_left
abbrev CT:=@List.mem_filter
abbrev CU:=@List.all_cons
abbrev CV:=@Array.ext
abbrev CW:=@List.mem_iff_getElem?
abbrev CX:=@List.mem_of_mem_take
abbrev CY:=@Int.le_refl
abbrev CZ:=@callsIn_wide
abbrev Ca:=@beq_self_eq_true
abbrev Cb:=@Nat.mod_eq_of_lt
abbrev Cc:=@List.take_append
abbrev Cd:=@Option.map_none
abbrev Ce:=@List.countP_append
abbrev Cf:=@Int.emod_lt_of_pos
abbrev Cg:=@List.filter_cons_of_pos
abbrev Ch:=@List.filter_cons_of_neg
end Go
namespace Go.Abs
inductive T where
 |bool (b:Bool)
 |int (k:IntKind) (n:Int)
 |str (s:List UInt8)
 |nilp
 |imm (cs:List T) (len:Nat) (cap:Option Nat)
 |iptr (cs:List T)
 |fn (f:FuncId) (caps:List T)
 |nilf
 |junk
 |mp (m:Option (DataW Unit))
 deriving Inhabited
inductive Ly where
 |int (k:IntKind)|bool|str|sl (c:Ly)|pair (a b:Ly)
 deriving Inhabited
@[reducible] def Ly.ty:Ly->Type
 |.int _=>Int
 |.bool=>Bool
 |.str=>List UInt8
 |.sl c=>List c.ty
 |.pair a b=>a.ty×b.ty
def Ly.JX:(c:Ly)->c.ty
 |.int _=>(0:Int)
 |.bool=>false
 |.str=>([]:List UInt8)
 |.sl _=>[]
 |.pair a b=>(a.JX,b.JX)
def Ly.size:Ly->Nat
 |.pair a b=>a.size+b.size
 |_=>1
def Ly.trees:(c:Ly)->c.ty->List T
 |.int k,n=>[.int k n]
 |.bool,b=>[.bool b]
 |.str,s=>[.str s]
 |.sl c,(xs:List c.ty)=>[.imm (xs.flatMap c.trees) xs.length none]
 |.pair a b,x=>a.trees x.1++b.trees x.2
class Gl where
 dat:Nat->Option ((c:Ly)×c.ty)
 obj:TypeId->List (Nat×Operand)->Bool:=λ_ _=>false
def YN:Option Nat->Nat->Prop
 |some k,c=>c=k
 |none,_=>True
def isRow(w:World)(b:Nat):Prop:=∃c e fr,w.heap[b]? =some (.cells c e fr)
theorem isRow.lt{w:World}{b:Nat}(h:isRow w b):b<w.heap.size:=by obtain⟨c,e,fr,h⟩:=h;exact(A8.1 h).1
def Uj(w:World)(b:Nat):Prop:=isRow w b\/∃es clock,w.heap[b]? =some (.map es clock)
theorem Uj.lt{w:World}{b:Nat}(h:Uj w b):b<w.heap.size:=by
 rcases h with h|⟨es,clock,h⟩
 ·exact h.lt
 ·exact(A8.1 h).1
def mapD(w:World)(b:Nat)(D:DataW Unit):Prop:=∃(P:Program) (k e:TypeId) (n:Nat),P.underlying k=some (.int .i64)/\P.underlying e=some (.int .i64)/\w.ownsMap P k (_root_.Go.plainElem P e) b n D
theorem mapD.dat{w:World}{b:Nat}{D:DataW Unit}(h:mapD w b D):Uj w b:=by obtain⟨P,k,e,n,_,_,es,clock,hb,_⟩:=h;exact .inr ⟨es,clock,hb⟩
theorem mapD.congr{w w':World}{b:Nat}{D:DataW Unit}(h:mapD w b D)(he:w'.heap[b]? =w.heap[b]?):mapD w' b D:=by obtain⟨P,k,e,n,h1,h2,es,clock,hb,h3⟩:=h;exact⟨P,k,e,n,h1,h2,es,clock,he.trans hb,h3⟩
inductive TR(U:Nat->Prop)(w:World):T->Value->Prop
 |bool (b:Bool):TR U w (.bool b) (.bool b)
 |int (k:IntKind) (n:Int):TR U w (.int k n) (.int k n)
 |str (s:List UInt8):TR U w (.str s) (.string ⟨s.toArray⟩)
 |nilp:TR U w .nilp (.pointer none)
 |imm0 (cap:Option Nat) (a:Option Addr) (c:Nat):YN cap c->TR U w (.imm [] 0 cap) (.slice a 0 c)
 |imm (cs:List T) (len:Nat) (cap:Option Nat) (b off c:Nat) (f:Nat->Value):U b->isRow w b->YN cap c->len<=c->
   (∀i (_:i<cs.length),w.cell? ⟨b,off+i,none⟩=some (f i))->(∀i (h:i<cs.length),TR U w cs[i] (f i))->
   TR U w (.imm cs len cap) (.slice (some ⟨b,off,none⟩) len c)
 |iptr (cs:List T) (b off:Nat) (f:Nat->Value):U b->isRow w b->
   (∀i (_:i<cs.length),w.cell? ⟨b,off+i,none⟩=some (f i))->(∀i (h:i<cs.length),TR U w cs[i] (f i))->
   TR U w (.iptr cs) (.pointer (some ⟨b,off,none⟩))
 |fn (g:FuncId) (caps:List T) (arr:Array Value):arr.size=caps.length->(∀i (h:i<caps.length),TR U w caps[i] (arr.getD i undef))->
   TR U w (.fn g caps) (.func (.func g) #[] arr)
 |nilf:TR U w .nilf .nilFunc
 |junk (v:Value):v.oneCell'=true->TR U w .junk v
 |mpn:TR U w (.mp none) (.map none)
 |mp (D:DataW Unit) (b:Nat):U b->mapD w b D->TR U w (.mp (some D)) (.map (some b))
theorem Jt{w w':World}{b:Nat}(h:w'.heap[b]? =w.heap[b]?)(o:Nat):w'.cell? ⟨b,o,none⟩=w.cell? ⟨b,o,none⟩:=by simp only[World.cell?,h]
theorem TR.mono{U U':Nat->Prop}{w w':World}{t:T}{v:Value}(h:TR U w t v)
  (hU:∀b,U b->Uj w b->U' b/\w'.heap[b]? =w.heap[b]?):TR U' w' t v:=by
 induction h with
 |bool b=>exact .bool b
 |int k n=>exact .int k n
 |str s=>exact .str s
 |nilp=>exact .nilp
 |imm0 cap a c hc=>exact .imm0 cap a c hc
 |imm cs len cap b off c f hb hlt hc hle hcells _ ih=>exact .imm cs len cap b off c f (hU b hb (.inl hlt)).1 (by obtain⟨c',e',fr',h'⟩:=hlt;exact⟨c',e',fr',(hU b hb (.inl ⟨c',e',fr',h'⟩)).2.trans h'⟩) hc hle (λi hi=>(Jt (hU b hb (.inl hlt)).2 _).trans (hcells i hi)) ih
 |iptr cs b off f hb hlt hcells _ ih=>exact .iptr cs b off f (hU b hb (.inl hlt)).1 (by obtain⟨c',e',fr',h'⟩:=hlt;exact⟨c',e',fr',(hU b hb (.inl ⟨c',e',fr',h'⟩)).2.trans h'⟩) (λi hi=>(Jt (hU b hb (.inl hlt)).2 _).trans (hcells i hi)) ih
 |fn g caps arr hsz _ ih=>exact .fn g caps arr hsz ih
 |nilf=>exact .nilf
 |junk v hv=>exact .junk v hv
 |mpn=>exact .mpn
 |mp D b hb hm=>exact .mp D b (hU b hb hm.dat).1 (hm.congr (hU b hb hm.dat).2)
theorem TR.XP{U:Nat->Prop}{w:World}{t:T}{v:Value}(h:TR U w t v):v.oneCell'=true:=by cases h<;>first|rfl|assumption
structure Ref where
 id:Nat
 ep:Nat
 off:Nat
 deriving DecidableEq,Inhabited
inductive Cell where
 |t (x:T)
 |ptr (r:Ref)
 |sl (r:Ref) (len:Nat) (cap:Option Nat)
 |clo (f:FuncId) (caps:List Ref)
 deriving Inhabited
structure Obj where
 cs:List Cell
 es:Nat:=1
 ep:Nat:=0
 deriving Inhabited
abbrev Q1:=List Obj
structure Loc where
 blk:Nat
 sh:Nat
 tot:Nat
 deriving Inhabited
structure JH where
 loc:Option Loc
 es:Nat
 ep:Nat
 deriving Inhabited
structure Ext where(yv:Value)(o:Nat->Value)(l:Nat)(lr:Go.Loop)
def YID:Nat:=1000000
def BND:Nat:=2000000
def fnv(f:FuncId)(arr:Array Value):Value:=if BND<=f then .func (.func (f - BND)) arr #[] else .func (.func f) #[] arr
theorem fnv_no{f:FuncId}(h:¬BND<=f)(arr:Array Value):fnv f arr=.func (.func f) #[] arr:=AP h
theorem fnv_bnd(f:FuncId)(arr:Array Value):fnv (BND+f) arr=.func (.func f) arr #[]:=by unfold fnv;rw[AF (Nat.le_add_right _ _),Nat.add_sub_cancel_left]
theorem fnv_is(f:FuncId)(arr:Array Value):∃g a b,fnv f arr=.func (.func g) a b:=by unfold fnv;split<;>exact⟨_,_,_,rfl⟩
structure Map where
 at':Nat->Option JH
 res:Nat->Prop
 ex:Ext
instance:CoeFun Map (λ_=>Nat->Option JH):=⟨Map.at'⟩
def Map.byId(ι:Map)(b:Nat):Prop:=∃id s l,ι id=some s/\s.loc=some l/\l.blk=b
def Map.mapped(ι:Map)(b:Nat):Prop:=ι.byId b\/ι.res b
def Map.un(ι:Map)(b:Nat):Prop:=¬ι.mapped b
def J0(ι:Map)(r:Ref)(ok:JH->Prop):Prop:=∃s,ι r.id=some s/\r.ep<=s.ep/\(r.ep=s.ep->ok s)
def ptrOk(off:Nat)(a:Option Addr)(s:JH):Prop:=∃l,s.loc=some l/\a=some ⟨l.blk,l.sh+off,none⟩
def slOk(off len:Nat)(cap:Option Nat)(a:Option Addr)(c:Nat)(s:JH):Prop:=
 len<=c/\YN cap c/\
 match s.loc with
 |none=>len=0/\c=0/\off=0
 |some l=>a=some ⟨l.blk,l.sh+off,none⟩/\off+c*s.es<=l.tot/\(cap=none->off+c*s.es=l.tot)
def cloR(ι:Map)(f:FuncId)(caps:List Ref)(v:Value):Prop:=if f=YID then v=ι.ex.yv/\∃l,v=.func (.yield l) #[] #[] else∃arr:Array Value,v=fnv f arr/\arr.size=caps.length/\∀i (h:i<caps.length),∃a:Addr,arr.getD i undef=.pointer (some a)/\J0 ι caps[i] (ptrOk caps[i].off (some a))
theorem cloR.no {ι : Map} {f : FuncId} {caps : List Ref} {v : Value} (h : cloR ι f caps v) (hf : f ≠ YID) : ∃ arr : Array Value,v = fnv f arr /\ arr.size = caps.length /\
     ∀ i (h : i < caps.length),∃ a : Addr,arr.getD i undef = .pointer (some a) /\ J0 ι caps[i] (ptrOk caps[i].off (some a)) := by
 unfold cloR at h;rwa [AP hf] at h
theorem cloR.func{ι:Map}{f:FuncId}{caps:List Ref}{v:Value}(h:cloR ι f caps v):(∃g a b,v=.func (.func g) a b)\/∃l,v=.func (.yield l) #[] #[]:=by
 unfold cloR at h;split at h
 ·obtain⟨_,l,rfl⟩:=h;exact .inr ⟨_,rfl⟩
 ·obtain⟨arr,rfl,_⟩:=h;exact .inl (fnv_is _ _)
theorem cloR.mk {ι : Map} {f : FuncId} {caps : List Ref} {v : Value} (hf : f ≠ YID) (h : ∃ arr : Array Value,v = fnv f arr /\ arr.size = caps.length /\
     ∀ i (h : i < caps.length),∃ a : Addr,arr.getD i undef = .pointer (some a) /\ J0 ι caps[i] (ptrOk caps[i].off (some a))) : cloR ι f caps v := by
 unfold cloR;rwa [AP hf]
theorem cloR.imp{ι I':Map}{f:FuncId}{caps caps':List Ref}{v:Value}(h:cloR ι f caps v)(hy:I'.ex.yv=ι.ex.yv)(hl:caps'.length=caps.length)
  (hc:f≠YID->∀i (h:i<caps.length) (h':i<caps'.length) (a:Addr),J0 ι caps[i] (ptrOk caps[i].off (some a))->J0 I' caps'[i] (ptrOk caps'[i].off (some a))):cloR I' f caps' v:=by
 unfold cloR at h⊢;split
 ·rename_i hf;rw[AF hf]at h;rw[hy];exact h
 ·rename_i hf;rw[AP hf]at h;obtain⟨arr,rfl,h1,h2⟩:=h;exact⟨arr,rfl,h1.trans hl.symm,λi hi=>let ⟨a,h3,h4⟩:=h2 i (hl▸hi);⟨a,h3,hc hf i _ hi a h4⟩⟩
def CR(ι:Map)(w:World):Cell->Value->Prop
 |.t x,v=>TR ι.un w x v
 |.ptr r,v=>∃a:Addr,v=.pointer (some a)/\J0 ι r (ptrOk r.off (some a))
 |.sl r len cap,v=>∃a c,v=.slice a len c/\(len=0\/a.isSome=true)/\J0 ι r (slOk r.off len cap a c)
 |.clo f caps,v=>cloR ι f caps v
theorem CR.XP{ι:Map}{w:World}{c:Cell}{v:Value}(h:CR ι w c v):v.oneCell'=true:=by
 cases c with
 |t x=>exact TR.XP h
 |ptr r=>obtain⟨a,rfl,_⟩:=h;rfl
 |sl r len cap=>obtain⟨a,c,rfl,_⟩:=h;rfl
 |clo f caps=>
  have h:cloR ι f caps v:=h;unfold cloR at h;split at h
  ·obtain⟨_,l,rfl⟩:=h;rfl
  ·obtain⟨arr,rfl,_⟩:=h;obtain⟨_,_,_,e⟩:=fnv_is f arr;rw[e];rfl
def OR(ι:Map)(w:World)(o:Obj)(s:JH):Prop:=
 o.es=s.es/\o.ep=s.ep/\
 match s.loc with
 |none=>o.cs=[]
 |some l=>(∃cells elem,w.heap[l.blk]? =some (.cells cells elem (0,0))/\l.sh+l.tot<=cells.size)/\o.cs.length<=l.tot/\
   ∀i (h:i<o.cs.length),∃v,w.cell? ⟨l.blk,l.sh+i,none⟩=some v/\CR ι w o.cs[i] v
structure HR(ι:Map)(J:Q1)(w:World):Prop where
 obj:∀id s,ι id=some s->∃o,J[id]? =some o/\OR ι w o s
 inj:∀id id' s s' l l',ι id=some s->ι id'=some s'->s.loc=some l->s'.loc=some l'->l.blk=l'.blk->id=id'
 resRow:∀b,ι.res b->isRow w b
 resNo:∀id s l,ι id=some s->s.loc=some l->¬ι.res l.blk
structure Step(ι:Map)(J:Q1)(w:World)(I':Map)(S':Q1)(w':World):Prop where
 len:J.length<=S'.length
 size:w.heap.size<=w'.heap.size
 os:w'.os=w.os
 out:w'.output=w.output
 keep:∀id s,ι id=some s->∃s',I' id=some s'/\s.ep<=s'.ep/\(s.ep=s'.ep->s'=s)
 none:∀id,id<J.length->ι id=Option.none->I' id=Option.none
 new:∀id s' l',I' id=some s'->s'.loc=some l'->w.heap.size<=l'.blk\/ι.byId l'.blk
 res:I'.res=ι.res
 ex:I'.ex=ι.ex
 resKeep:∀b,ι.res b->w'.heap[b]? =w.heap[b]?
 frame:∀b,b<w.heap.size->ι.un b->w'.heap[b]? =w.heap[b]?
theorem Step.refl(ι:Map)(J:Q1)(w:World):Step ι J w ι J w where
 len:=A6 _
 size:=A6 _
 os:=rfl
 out:=rfl
 keep:=λ_ s h=>⟨s,h,A6 _,λ_=>rfl⟩
 none:=λ_ _ h=>h
 new:=λid s' l' h h'=>.inr ⟨id,s',l',h,h',rfl⟩
 res:=rfl
 ex:=rfl
 resKeep:=λ_ _=>rfl
 frame:=λ_ _ _=>rfl
theorem Step.un{ι I':Map}{J S':Q1}{w w':World}(h:Step ι J w I' S' w'){b:Nat}(hb:b<w.heap.size)(hu:ι.un b):I'.un b:=by
 rintro(⟨id,s,l,h1,h2,rfl⟩|hr)
 ·rcases h.new id s l h1 h2 with h3|h3
  ·exact absurd h3 (by omega)
  ·exact hu (.inl h3)
 ·exact hu (.inr (h.res▸hr))
theorem Step.trans{ι i₁ i₂:Map}{J s₁ s₂:Q1}{w w₁ w₂:World}(h:Step ι J w i₁ s₁ w₁)(h':Step i₁ s₁ w₁ i₂ s₂ w₂):Step ι J w i₂ s₂ w₂ where
 len:=BN h.len h'.len
 size:=BN h.size h'.size
 os:=h'.os.trans h.os
 out:=h'.out.trans h.out
 keep:=λid s hs=>by obtain⟨s1,h1,hle,he⟩:=h.keep id s hs;obtain⟨s2,h2,hle',he'⟩:=h'.keep id s1 h1;refine⟨s2,h2,BN hle hle',λe=> ?_⟩;have e1:s1=s:=he (by omega);subst e1;exact he' e
 none:=λid hid hn=>h'.none id (BV hid h.len) (h.none id hid hn)
 new:=λid s' l' h1 h2=>by
  rcases h'.new id s' l' h1 h2 with h3|⟨id1,s1,l1,h4,h5,h6⟩
  ·exact .inl (BN h.size h3)
  ·rcases h.new id1 s1 l1 h4 h5 with h7|h7
   ·exact .inl (h6▸h7)
   ·exact .inr (h6▸h7)
 res:=h'.res.trans h.res
 ex:=h'.ex.trans h.ex
 resKeep:=λb hb=>(h'.resKeep b (h.res▸hb)).trans (h.resKeep b hb)
 frame:=λb hb hu=>(h'.frame b (BV hb h.size) (h.un hb hu)).trans (h.frame b hb hu)
theorem TR.step{ι I':Map}{J S':Q1}{w w':World}(hs:Step ι J w I' S' w'){t:T}{v:Value}(h:TR ι.un w t v):TR I'.un w' t v:=
 h.mono (λb hb hlt=>⟨hs.un hlt.lt hb,hs.frame b hlt.lt hb⟩)
theorem J0.step{ι I':Map}{J S':Q1}{w w':World}(hs:Step ι J w I' S' w'){r:Ref}{ok:JH->Prop}(h:J0 ι r ok):J0 I' r ok:=by obtain⟨s,h1,h2,h3⟩:=h;obtain⟨s',h4,h5,h6⟩:=hs.keep r.id s h1;refine⟨s',h4,by omega,λe=> ?_⟩;have e1:s'=s:=h6 (by omega);subst e1;exact h3 e
theorem CR.step{ι I':Map}{J S':Q1}{w w':World}(hs:Step ι J w I' S' w'){c:Cell}{v:Value}(h:CR ι w c v):CR I' w' c v:=by
 cases c with
 |t x=>exact TR.step hs h
 |ptr r=>obtain⟨a,rfl,h1⟩:=h;exact⟨a,rfl,h1.step hs⟩
 |sl r len cap=>obtain⟨a,c,rfl,h0,h1⟩:=h;exact⟨a,c,rfl,h0,h1.step hs⟩
 |clo f caps=>exact cloR.imp h (by rw[hs.ex]) rfl λ_ i _ _ a h4=>h4.step hs
inductive AV where
 |c (x:Cell)
 |agg (xs:List Cell)
 |tup (xs:List (Cell⊕List Cell))
 deriving Inhabited
def Jf(ι:Map)(w:World)(xs:List Cell)(v:Value):Prop:=∃arr:Array Value,v=.agg arr/\arr.size=xs.length/\∀i (h:i<xs.length),∃u,arr[i]? =some u/\CR ι w xs[i] u
def compR(ι:Map)(w:World):Cell⊕List Cell->Value->Prop
 |.inl x,v=>CR ι w x v
 |.inr xs,v=>Jf ι w xs v
def VR(ι:Map)(w:World):AV->Value->Prop
 |.c x,v=>CR ι w x v
 |.agg xs,v=>Jf ι w xs v
 |.tup xs,v=>∃arr:Array Value,v=.tuple arr/\arr.size=xs.length/\∀i (h:i<xs.length),∃u,arr[i]? =some u/\compR ι w xs[i] u
theorem Jf.step{ι I':Map}{J S':Q1}{w w':World}(hs:Step ι J w I' S' w'){xs:List Cell}{v:Value}(h:Jf ι w xs v):Jf I' w' xs v:=by obtain⟨arr,rfl,h1,h2⟩:=h;exact⟨arr,rfl,h1,λi hi=>let ⟨u,h3,h4⟩:=h2 i hi;⟨u,h3,h4.step hs⟩⟩
theorem compR.step{ι I':Map}{J S':Q1}{w w':World}(hs:Step ι J w I' S' w'){x:Cell⊕List Cell}{v:Value}(h:compR ι w x v):compR I' w' x v:=by
 cases x with
 |inl x=>exact CR.step hs h
 |inr xs=>exact Jf.step hs h
theorem VR.step{ι I':Map}{J S':Q1}{w w':World}(hs:Step ι J w I' S' w'){x:AV}{v:Value}(h:VR ι w x v):VR I' w' x v:=by
 cases x with
 |c x=>exact CR.step hs h
 |agg xs=>exact Jf.step hs h
 |tup xs=>obtain⟨arr,rfl,h1,h2⟩:=h;exact⟨arr,rfl,h1,λi hi=>let ⟨u,h3,h4⟩:=h2 i hi;⟨u,h3,h4.step hs⟩⟩
theorem OR.congr{ι I':Map}{J S':Q1}{w w':World}(hs:Step ι J w I' S' w'){o:Obj}{s:JH}(h:OR ι w o s)
  (hb:∀l,s.loc=some l->w'.heap[l.blk]? =w.heap[l.blk]?):OR I' w' o s:=by
 obtain⟨h1,h2,h3⟩:=h;refine⟨h1,h2,?_⟩
 cases hl:s.loc with
 |none=>rw[hl]at h3;exact h3
 |some l=>rw[hl]at h3;obtain⟨⟨cells,elem,h4,h5⟩,h6,h7⟩:=h3;have e:=hb l hl;refine⟨⟨cells,elem,e.trans h4,h5⟩,h6,λi hi=> ?_⟩;obtain⟨v,h8,h9⟩:=h7 i hi;exact⟨v,(Jt e _).trans h8,h9.step hs⟩
end Go.Abs
namespace Go.Abs
variable [Gl]
inductive K where
 |bool|int (k:IntKind)|string|ptr (e:TypeId)|slice (e:TypeId)|array (n:Nat) (e:TypeId)
 |struct (fs:List (Nat×TypeId))|func|other
 deriving Inhabited
inductive EK where
 |bool|int|str
 deriving Inhabited
structure Qj where
 kind:K
 size:Nat
 bytes:Nat
 zero:Option (List T)
 eqs:Option (List EK)
 deriving Inhabited
def kindOf:TypeDesc->K
 |.bool=>.bool
 |.int k=>.int k
 |.string=>.string
 |.pointer e=>.ptr e
 |.slice e=>.slice e
 |.array n e=>.array n e
 |.struct fs=>.struct (fs.toList.map λf=>(f.offset,f.type))
 |.func .. =>.func
 |_=>.other
def tOf:Value->Option T
 |.bool b=>some (.bool b)
 |.int k n=>some (.int k n)
 |.string s=>some (.str s.data.toList)
 |.pointer none=>some .nilp
 |.slice none 0 0=>some (.imm [] 0 (some 0))
 |.nilFunc=>some .nilf
 |.map none=>some (.mp none)
 |_=>none
def tOfCell(v:Value):Option T:=match tOf v with
 |some t=>some t
 |none=>if v.oneCell' then some .junk else none
def Wm:List Value->Option (List T)
 |[]=>some []
 |v::vs=>match tOfCell v,Wm vs with
  |some t,some ts=>some (t::ts)
  |_,_=>none
def eqFs(rec:TypeId->Option (List EK)):List Field->List EK->Option (List EK)
 |[],acc=>some acc
 | f :: fs,acc => if f.name ≠ "_" /\ f.offset = acc.length then (match rec f.type with
  |some l=>eqFs rec fs (acc++l)
  |none=>none) else none
def eqKs(P:Program):Nat->TypeId->Option (List EK)
 |0,_=>none
 |d+1,t=>match P.underlying t,P.info? t with
  |some .bool,some _=>some [.bool]
  |some (.int _),some _=>some [.int]
  |some .string,some _=>some [.str]
  |some (.struct fs),some i=>if P.stoodInHeld t then none else match eqFs (eqKs P d) fs.toList [] with
   |some ks=>if ks.length=i.size then some ks else none
   |none=>none
  |_,_=>none
def eqTop(P:Program)(t:TypeId):TypeDesc->Option (List EK)
 |.struct _=>if P.eqGuardType P.depth t then none else eqKs P 6 t
 |_=>none
def YM:EK->Cell->Cell->Option Bool
 |.bool,.t (.bool a),.t (.bool b)=>some (a==b)
 |.int,.t (.int k a),.t (.int k' b)=>if k=k' then some (a==b) else none
 |.str,.t (.str a),.t (.str b)=>some (a==b)
 |_,_,_=>none
def XE:List EK->List Cell->List Cell->Option Bool
 |[],[],[]=>some true
 |k::ks,a::as,b::bs=>match YM k a b,XE ks as bs with
  |some x,some y=>some (x&&y)
  |_,_=>none
 |_,_,_=>none
def tinf(P:Program)(t:TypeId):Option Qj:=
 match P.underlying t,P.info? t with
 |some d,some i=>some { kind:=kindOf d,size:=i.size,bytes:=i.bytes,zero:=i.zero.bind λv=>Wm v.cells.toList,eqs:=eqTop P t d }
 |_,_=>none
def Qj.isAgg(i:Qj):Bool:=match i.kind with|.struct _|.array .. =>true|_=>false
abbrev Q3:=List (Nat×AV)
def Q3.get:Q3->Nat->Option AV
 |[],_=>none
 |(k,v)::r,t=>if k=t then some v else Q3.get r t
def BIG:Nat:=1000000
def Q3.at(r:Q3)(t:Nat):Option AV:=match Nat.ble BIG t with
 |true=>none
 |false=>r.get t
def Q3.set:Q3->Nat->AV->Q3
 |[],t,v=>[(t,v)]
 |(k,u)::r,t,v=>if k=t then (k,v)::r else (k,u)::Q3.set r t v
def Q3.del:Q3->Nat->Q3
 |[],_=>[]
 |(k,u)::r,t=>if k=t then Q3.del r t else (k,u)::Q3.del r t
def Q3.put(r:Q3):Option Nat->AV->Q3
 |some d,v=>r.set d v
 |none,_=>r
def Q3.drop(r:Q3):Option Nat->Q3
 |some d=>r.set d (.tup [])
 |none=>r
def Kl(v:Value):Option AV:=match v with
 |.agg cs=>(Wm cs.toList).map λts=>.agg (ts.map .t)
 |v=>(tOf v).map λt=>.c (.t t)
def ev(r:Q3):Operand->Option AV
 |.tmp t=>r.at t
 |.const v=>Kl v
 |.func f=>some (.c (.t (.fn f [])))
 |.global g=>match Gl.dat g with
  |some ⟨c,x⟩=>some (.c (.t (.iptr (c.trees x))))
  |none=>none
@[reducible] def aI (k:IntKind) (n:Int):AV:=.c (.t (.int k n))
@[reducible] def aB (b:Bool):AV:=.c (.t (.bool b))
def AV.cells:AV->List Cell
 |.c x=>[x]
 |.agg xs=>xs
 |.tup _=>[]
def AV.flat:AV->Bool
 |.tup _=>false
 |_=>true
def Q1.at?(J:Q1)(r:Ref):Option Obj:=match J[r.id]? with
 |some o=>if o.ep=r.ep then some o else none
 |none=>none
def Xf(i:Qj)(cs:List Cell):Option AV:=
 if i.isAgg then (if i.size<=cs.length then some (.agg (cs.take i.size)) else none)
 else match cs with|c::_=>some (.c c)|[]=>none
def Xy(J:Q1)(i:Qj):AV->Option AV
 |.c (.ptr r)=>match J.at? r with
  |some o=>Xf i (o.cs.drop r.off)
  |none=>none
 |.c (.t (.iptr cs))=>Xf i (cs.map .t)
 |_=>none
def QO(cs:List Cell)(off:Nat)(xs:List Cell):List Cell:=cs.take off++xs++cs.drop (off+xs.length)
def X2(J:Q1)(i:Qj)(a v:AV):Option Q1:=match a with
 |.c (.ptr r)=>match J.at? r with
  |some o=>if v.flat/\v.cells.length=i.size/\r.off+i.size<=o.cs.length then some (J.set r.id { o with cs:=QO o.cs r.off v.cells }) else none
  |none=>none
 |_=>none
def K4(J:Q1)(cs:List Cell):AV×Q1:=(.c (.ptr ⟨J.length,0,0⟩),J++[{ cs:=cs }])
def Y4(place:Nat->Option (Nat×Nat)):List (Nat×AV)->List Cell->Option (List Cell)
 |[],cs=>some cs
 |(i,v)::rest,cs=>match place i with
  |some (off,size)=>if v.flat/\v.cells.length=size/\off+size<=cs.length then Y4 place rest (QO cs off v.cells) else none
  |none=>none
def evs(r:Q3):List (Nat×Operand)->Option (List (Nat×AV))
 |[]=>some []
 |(i,x)::rest=>match ev r x,evs r rest with
  |some v,some vs=>some ((i,v)::vs)
  |_,_=>none
def evl(r:Q3):List Operand->Option (List AV)
 |[]=>some []
 |x::rest=>match ev r x,evl r rest with
  |some v,some vs=>some (v::vs)
  |_,_=>none
def Zn(P:Program):List (Nat×TypeId)->Option (List (Nat×Nat))
 |[]=>some []
 |(off,t)::rest=>match tinf P t,Zn P rest with
  |some i,some ps=>some ((off,i.size)::ps)
  |_,_=>none
def V5(P:Program)(t:TypeId)(ps:List (Nat×AV)):Option AV:=match tinf P t with
 |some i=>match i.zero,i.kind with
  |some z,.struct fs=>match Zn P fs with
   |some places=>(Y4 (λn=>places[n]?) ps (z.map .t)).map .agg
   |none=>none
  |some z,.array _ e=>match tinf P e with
   |some j=>(Y4 (λn=>some (n*j.size,j.size)) ps (z.map .t)).map .agg
   |none=>none
  |_,_=>none
 |none=>none
def ZW:Nat->List T->List T
 |0,_=>[]
 |n+1,z=>z++ZW n z
def WW:List Cell->Option (List T)
 |[]=>some []
 |.t x::r=>(WW r).map (x::·)
 |_::_=>none
def objT(b:Bool)(cs:List Cell):Option (List T):=match b with
 |true=>none
 |false=>WW cs
theorem objT_eq{b:Bool}{cs:List Cell}{ts:List T}(h:objT b cs=some ts):WW cs=some ts:=by
 cases b with
 |true=>cases h
 |false=>exact h
def JB(P:Program)(b:Bool)(J:Q1)(t:TypeId)(n:Nat)(ps:List (Nat×AV)):Option (AV×Q1):=match tinf P t with
 |some i=>match i.kind with
  |.slice e=>match tinf P e with
   |some j=>match j.zero with
    |some z=>if j.size=z.length/\0<j.size/\n*j.size<=1000 then
      match Y4 (λm=>some (m*j.size,j.size)) ps ((ZW n z).map .t) with
      |some cs=>match objT b cs with
       |some ts=>some (.c (.t (.imm ts n (some n))),J)
       |none=>some (.c (.sl ⟨J.length,0,0⟩ n (some n)),J++[{ cs:=cs,es:=j.size }])
      |none=>none
     else none
    |none=>none
   |none=>none
  |_=>none
 |none=>none
def intE(op:BinOp)(k:IntKind)(x y:Int):Option T:=match op with
 |.add=>some (.int k (k.wrap (x+y)))
 |.sub=>some (.int k (k.wrap (x - y)))
 |.mul=>some (.int k (k.wrap (x*y)))
 |.quo=>if y=0 then none else some (.int k (k.wrap (x.tdiv y)))
 |.rem=>if y=0 then none else some (.int k (x.tmod y))
 |.and=>some (.int k (k.wrap (BitVec.ofInt k.bits x&&&BitVec.ofInt k.bits y).toNat))
 |.or=>some (.int k (k.wrap (BitVec.ofInt k.bits x|||BitVec.ofInt k.bits y).toNat))
 |.xor=>some (.int k (k.wrap (BitVec.ofInt k.bits x^^^BitVec.ofInt k.bits y).toNat))
 |.andNot=>some (.int k (k.wrap (BitVec.ofInt k.bits x&&& ~~~BitVec.ofInt k.bits y).toNat))
 |.eql=>some (.bool (x==y))
 |.neq=>some (.bool (x !=y))
 |.lss=>some (.bool (decide (x<y)))
 |.leq=>some (.bool (decide (x<=y)))
 |.gtr=>some (.bool (decide (x>y)))
 |.geq=>some (.bool (decide (x>=y)))
 |_=>none
def UB(op:BinOp)(k:IntKind)(x:Int)(y:Int):Option T:=
 if y<0 then none else match op with
 |.shl=>some (.int k (k.wrap (x*2^(min y.toNat k.bits))))
 |.shr=>some (.int k (x.fdiv (2^(min y.toNat k.bits))))
 |_=>none
def strE(op:BinOp)(x y:List UInt8):Option T:=match op with
 |.add=>if x.length+y.length<=9223372036854775807 then some (.str (x++y)) else none
 |.eql=>some (.bool (x==y))
 |.neq=>some (.bool !(x==y))
 |_=>none
def Ko(op:BinOp)(x y:Bool):Option T:=match op with
 |.eql=>some (.bool (x==y))
 |.neq=>some (.bool !(x==y))
 |_=>none
def KW:BinOp->Bool
 |.shl|.shr=>true
 |_=>false
def binE(P:Program)(op:BinOp)(xT:TypeId)(x y:AV):Option T:=match x,y with
 |.c (.t (.int k a)),.c (.t (.int k' b))=>if KW op then UB op k a b else if k=k' then intE op k a b else none
 |.c (.t (.str a)),.c (.t (.str b))=>strE op a b
 |.c (.t (.bool a)),.c (.t (.bool b))=>match tinf P xT with
  |some i=>match i.kind with|.bool=>Ko op a b|_=>none
  |none=>none
 |.c (.ptr _),.c (.t .nilp)|.c (.t (.iptr _)),.c (.t .nilp)=>match tinf P xT with
  |some i=>match i.kind with|.ptr _=>Ko op false true|_=>none
  |none=>none
 |.c (.t .nilp),.c (.t .nilp)=>match tinf P xT with
  |some i=>match i.kind with|.ptr _=>Ko op true true|_=>none
  |none=>none
 |.agg xs,.agg ys=>match tinf P xT with
  |some i=>match i.eqs with
   |some ks=>match XE ks xs ys with
    |some c=>Ko op c true
    |none=>none
   |none=>none
  |none=>none
 |_,_=>none
def unE(op:UnOp)(x:AV):Option T:=match op,x with
 |.not,.c (.t (.bool b))=>some (.bool !b)
 |.neg,.c (.t (.int k n))=>some (.int k (k.wrap (0 - n)))
 |.xor,.c (.t (.int k n))=>intE .xor k (if k.signed then -1 else k.max) n
 |_,_=>none
def utf(n:Int):List UInt8:=(Utf8.encode n).data.toList
def Uw(P:Program)(src dst:TypeId)(x:AV):Option T:=match tinf P src,tinf P dst,x with
 |some _,some j,.c (.t (.int _ n))=>match j.kind with
  |.int k=>some (.int k (k.wrap n))
  |.string=>some (.str (utf n))
  |_=>none
 |some _,some j,.c (.t (.str s))=>match j.kind with
  |.string=>some (.str s)
  |_=>none
 |_,_,_=>none
def Z2(P:Program)(t:TypeId)(x:AV)(f:Nat):Option AV:=match tinf P t with
 |some i=>match i.kind with
  |.struct fs=>match fs[f]? with
   |some (off,ft)=>match tinf P ft with
    |some j=>if 0<j.size then (match x with
     |.c (.ptr r)=>some (.c (.ptr { r with off:=r.off+off }))
     |.c (.t (.iptr cs))=>some (.c (.t (.iptr (cs.drop off))))
     |_=>none) else none
    |none=>none
   |none=>none
  |_=>none
 |none=>none
def Yf(j:Qj)(cs:List Cell)(off:Nat):Option AV:=
 if j.isAgg then (if off+j.size<=cs.length then some (.agg ((cs.drop off).take j.size)) else none)
 else match cs[off]? with|some c=>some (.c c)|none=>none
def Uq(P:Program)(t:TypeId)(x:AV)(f:Nat):Option AV:=match tinf P t with
 |some i=>match i.kind,x with
  |.struct fs,.agg cs=>match fs[f]? with
   |some (off,ft)=>match tinf P ft with
    |some j=>Yf j cs off
    |none=>none
   |none=>none
  |_,_=>none
 |none=>none
def ZF:AV->Option Int
 |.c (.t (.int _ n))=>some n
 |_=>none
def Z0(P:Program)(t:TypeId)(x i:AV):Option AV:=match tinf P t,ZF i with
 |some inf,some n=>match inf.kind with
  |.slice e=>match tinf P e with
   |some j=>match x with
    |.c (.sl r len _)=>if 0<=n/\n<len then some (.c (.ptr { r with off:=r.off+n.toNat*j.size })) else none
    |.c (.t (.imm cs len _))=>if 0<=n/\n<len then some (.c (.t (.iptr (cs.drop (n.toNat*j.size))))) else none
    |_=>none
   |none=>none
  |.array len e=>match tinf P e with
   |some j=>match x with
    |.c (.ptr r)=>if 0<=n/\n<len then some (.c (.ptr { r with off:=r.off+n.toNat*j.size })) else none
    |.c (.t (.iptr cs))=>if 0<=n/\n<len then some (.c (.t (.iptr (cs.drop (n.toNat*j.size))))) else none
    |_=>none
   |none=>none
  |_=>none
 |_,_=>none
def Zr(P:Program)(t:TypeId)(x i:AV):Option AV:=match tinf P t,ZF i with
 |some inf,some n=>match inf.kind,x with
  |.array len e,.agg cs=>match tinf P e with
   |some j=>if 0<=n/\n<len then Yf j cs (n.toNat*j.size) else none
   |none=>none
  |.string,.c (.t (.str s))=>if 0<=n then (match s[n.toNat]? with|some b=>some (aI .u8 b.toNat)|none=>none) else none
  |_,_=>none
 |_,_=>none
def Zd(x:AV)(i:Nat):Option AV:=match x with
 |.tup xs=>match xs[i]? with
  |some (.inl c)=>some (.c c)
  |some (.inr cs)=>some (.agg cs)
  |none=>none
 |_=>none
def JG(x:Option AV)(JX top:Nat):Option Nat:=match x with
 |none=>some JX
 |some v=>match ZF v with
  |some n=>if 0<=n/\n<=top then some n.toNat else none
  |none=>none
def Y9(P:Program)(J:Q1)(t:TypeId)(x:AV)(lo hi mx:Option AV):Option AV:=match tinf P t with
 |some i=>match i.kind,x with
  |.string,.c (.t (.str s))=>match mx,JG hi s.length s.length with
   |none,some h=>match JG lo 0 h with
    |some l=>some (.c (.t (.str ((s.drop l).take (h - l)))))
    |none=>none
   |_,_=>none
  |.slice e,.c (.sl r len cap)=>match tinf P e,J.at? r with
   |some j,some o=>if o.es=j.size then (match mx,hi with
    |some _,some _=>match JG mx 0 (cap.getD len) with
     |some m=>match JG hi 0 m with
      |some h=>match JG lo 0 h with
       |some l=>some (.c (.sl { r with off:=if m=l then r.off else r.off+l*j.size } (h - l) (some (m - l))))
       |none=>none
      |none=>none
     |none=>none
    |some _,none=>none
    |none,_=>match JG hi len (cap.getD len) with
     |some h=>match JG lo 0 h with
      |some l=>match cap with
       |some c=>some (.c (.sl { r with off:=if c=l then r.off else r.off+l*j.size } (h - l) (some (c - l))))
       |none=>if l<len\/l=0 then some (.c (.sl { r with off:=r.off+l*j.size } (h - l) none)) else none
      |none=>none
     |none=>none) else none
   |_,_=>none
  |.slice e,.c (.t (.imm cs len cap))=>match tinf P e with
   |some j=>if cs.length=len*j.size then (match mx,hi with
    |some _,some _=>match JG mx 0 len with
     |some m=>match JG hi 0 m with
      |some h=>match JG lo 0 h with
       |some l=>some (.c (.t (.imm ((cs.drop (l*j.size)).take ((h - l)*j.size)) (h - l) (some (m - l)))))
       |none=>none
      |none=>none
     |none=>none
    |some _,none=>none
    |none,_=>match JG hi len len with
     |some h=>match JG lo 0 h with
      |some l=>some (.c (.t (.imm ((cs.drop (l*j.size)).take ((h - l)*j.size)) (h - l) (cap.map (· - l)))))
      |none=>none
     |none=>none) else none
   |none=>none
  |_,_=>none
 |none=>none
def lenE(x:AV):Option Nat:=match x with
 |.c (.sl _ n _)=>some n
 |.c (.t (.imm _ n _))=>some n
 |.c (.t (.str s))=>some s.length
 |_=>none
def Qp(P:Program)(J:Q1)(t:TypeId)(l c:AV):Option (AV×Q1):=match tinf P t,ZF l,ZF c with
 |some i,some n,some m=>match i.kind with
  |.slice e=>match tinf P e with
   |some j=>match j.zero with
    |some z=>if j.size=z.length/\0<j.size/\0<=n/\n<=m/\m*j.bytes<=281474976710656/\m<=9223372036854775807 then
      some (.c (.sl ⟨J.length,0,0⟩ n.toNat (some m.toNat)),J++[{ cs:=(ZW m.toNat z).map .t,es:=j.size }])
     else none
    |none=>none
   |none=>none
  |_=>none
 |_,_,_=>none
def Qm(J:Q1)(es n:Nat)(x:AV):Option (List Cell):=match x with
 |.c (.sl r len _)=>match J.at? r with
  |some o=>if r.off+n*es<=o.cs.length/\n<=len then some ((o.cs.drop r.off).take (n*es)) else none
  |none=>none
 |.c (.t (.imm cs len _))=>if n<=len/\cs.length=len*es then some ((cs.take (n*es)).map .t) else none
 |.c (.t (.str s))=>if n<=s.length/\es=1 then some ((s.take n).map λb=>.t (.int .u8 b.toNat)) else none
 |_=>none
def XY(n bytes:Nat):Prop:=n*bytes<=17592186044416/\n<=17592186044416/\bytes<=1073741824
instance (n bytes:Nat):Decidable (XY n bytes):=inferInstanceAs (Decidable (_/\_/\_))
def JC(P:Program)(J:Q1)(t:TypeId)(s x:AV):Option (AV×Q1):=match tinf P t with
 |some i=>match i.kind with
  |.slice e=>match tinf P e with
   |some j=>match j.zero,lenE x with
    |some z,some m=>if j.size=z.length/\0<j.size then
     match Qm J j.size m x with
     |some new=>match s with
      |.c (.t (.imm cs len (some c)))=>
       if c=len/\cs.length=len*j.size/\XY (len+m) j.bytes then
        (if m=0 then some (s,J) else some (.c (.sl ⟨J.length,0,0⟩ (len+m) none),J++[{ cs:=cs.map .t++new,es:=j.size }]))
       else none
      |.c (.sl r len none)=>match J.at? r with
       |some o=>if r.off=0/\o.es=j.size/\o.cs.length=len*j.size/\XY (len+m) j.bytes then
         some (.c (.sl { r with ep:=r.ep+1 } (len+m) none),J.set r.id { o with cs:=o.cs++new,ep:=o.ep+1 })
        else none
       |none=>none
      |.c (.sl r len (some c))=>match J.at? r with
       |some o=>if o.es=j.size/\len+m<=c/\r.off+c*j.size<=o.cs.length then
         some (.c (.sl r (len+m) (some c)),J.set r.id { o with cs:=QO o.cs (r.off+len*j.size) new })
        else if o.es=j.size/\c<len+m/\len<=c/\r.off+c*j.size<=o.cs.length/\XY (len+m) j.bytes then
         some (.c (.sl ⟨J.length,0,0⟩ (len+m) none),J++[{ cs:=(o.cs.drop r.off).take (len*j.size)++new,es:=j.size }])
        else none
       |none=>none
      |_=>none
     |none=>none
     else none
    |_,_=>none
   |none=>none
  |_=>none
 |none=>none
def Wl(P:Program)(J:Q1)(t:TypeId)(d s:AV):Option (AV×Q1):=match tinf P t with
 |some i=>match i.kind with
  |.slice e=>match tinf P e with
   |some j=>match d,lenE s with
    |.c (.sl r len _),some m=>match J.at? r,Qm J j.size (min m len) s with
     |some o,some new=>if o.es=j.size/\r.off+len*j.size<=o.cs.length then
       some (aI .i64 ((min m len:Nat):Int),J.set r.id { o with cs:=QO o.cs r.off new })
      else none
     |_,_=>none
    |.c (.t (.imm _ 0 _)),some _=>some (aI .i64 0,J)
    |_,_=>none
   |none=>none
  |_=>none
 |none=>none
def ZD(mx:Bool):List AV->Option AV
 |[.c (.t (.int k x)),.c (.t (.int k' y))]=>if k=k' then some (aI k (if mx then (if y>x then y else x) else (if y<x then y else x))) else none
 |_=>none
def QU(P:Program)(J:Q1)(b:Builtin)(argTs:Array TypeId)(args:List AV):Option (AV×Q1):=match b,args with
 |.len,[x]=>match argTs[0]? with
  |some t=>match tinf P t with
   |some i=>(match i.kind,x with
    |.slice _,.c (.sl _ n _)=>some (aI .i64 n,J)
    |.slice _,.c (.t (.imm _ n _))=>some (aI .i64 n,J)
    |.string,.c (.t (.str s))=>some (aI .i64 s.length,J)
    |.array n _,_=>some (aI .i64 n,J)
    |_,_=>none)
   |none=>none
  |none=>none
 |.cap,[x]=>match argTs[0]? with
  |some t=>match tinf P t with
   |some i=>(match i.kind with
    |.slice _=>(match x with
     |.c (.sl r _ (some c))=>(match J.at? r with
      |some _=>some (aI .i64 c,J)
      |none=>none)
     |.c (.t (.imm _ _ (some c)))=>some (aI .i64 c,J)
     |_=>none)
    |_=>none)
   |none=>none
  |none=>none
 |.append,[s,x]=>match argTs[0]?,argTs[1]? with
  |some t,some u=>(match tinf P u with
   |some i=>(match i.kind with
    |.slice _=>JC P J t s x
    |.string=>JC P J t s x
    |_=>none)
   |none=>none)
  |_,_=>none
 |.copy,[d,s]=>match argTs[0]? with
  |some t=>Wl P J t d s
  |none=>none
 |.min,l=>(ZD false l).map (·,J)
 |.max,l=>(ZD true l).map (·,J)
 |_,_=>none
def refsOf:List AV->Option (List Ref)
 |[]=>some []
 |.c (.ptr r)::rest=>(refsOf rest).map (r::·)
 |_::_=>none
def Ys:List AV->Option (List T)
 |[]=>some []
 |.c (.t x)::rest=>(Ys rest).map (x::·)
 |_::_=>none
def Xo(f:FuncId)(caps:List AV):Option AV:=match Ys caps with
 |some ts=>some (.c (.t (.fn f ts)))
 |none=>match refsOf caps with
  |some rs=>match Nat.beq f YID||Nat.ble BND f with|true=>none|false=>some (.c (.clo f rs))
  |none=>none
def Xx(f:FuncId)(first:List AV):Option AV:=match refsOf first with
 |some rs=>some (.c (.clo (BND+f) rs))
 |none=>none
def evo(r:Q3):Option Operand->Option (Option AV)
 |none=>some none
 |some x=>(ev r x).map some
def lookupE(P:Program)(t:TypeId)(v n:AV):Option AV:=match v,n with
 |.c (.t (.mp m)),.c (.t (.int .i64 n))=>match P.underlying t with
  |some (.map kt et)=>match P.underlying kt,(Lit.int .i64 n).wf,P.info? et with
   |some (.int .i64),true,some inf=>match m with
    |none=>match inf.zero with
     |some (.agg arr)=>(Wm arr.toList).map λz=>.tup [.inr (z.map .t),.inl (.t (.bool false))]
     |_=>none
    |some D=>match P.underlying et,inf.zero,D.atKey (.int .i64 n) (.lit (.int .i64 0)) with
     |some (.int .i64),some (.int .i64 (.ofNat 0)),.lit (.int .i64 c)=>some (.tup [.inl (.t (.int .i64 c)),.inl (.t (.bool (Maps.has D (.int .i64 n))))])
     |_,_,_=>none
   |_,_,_=>none
  |_=>none
 |_,_=>none
def opE(P:Program)(r:Q3)(J:Q1):Op->Option (Option AV×Q1)
 |.move x|.assign x=>(ev r x).map λv=>(some v,J)
 |.pick c a b=>match ev r c with
  |some (.c (.t (.bool t)))=>(ev r (if t then a else b)).map λv=>(some v,J)
  |_=>none
 |.alloc e=>match tinf P e with
  |some i=>match i.zero with
   |some z=>some (some (K4 J (z.map .t)).1,(K4 J (z.map .t)).2)
   |none=>none
  |none=>none
 |.box _ x=>match ev r x with
  |some v=>if v.flat then some (some (K4 J v.cells).1,(K4 J v.cells).2) else none
  |none=>none
 |.build t ps=>match evs r ps.toList with
  |some vs=>(V5 P t vs).map λv=>(some v,J)
  |none=>none
 |.buildSlice t n ps=>match evs r ps.toList with
  |some vs=>(JB P (Gl.obj t ps.toList) J t n vs).map λx=>(some x.1,x.2)
  |none=>none
 |.load t a=>match tinf P t,ev r a with
  |some i,some v=>(Xy J i v).map λx=>(some x,J)
  |_,_=>none
 |.store t a x=>match tinf P t,ev r a,ev r x with
  |some i,some v,some u=>(X2 J i v u).map λS'=>(none,S')
  |_,_,_=>none
 |.nilCheck x=>match ev r x with
  |some (.c (.ptr p))=>some (some (.c (.ptr p)),J)
  |some (.c (.t (.iptr cs)))=>some (some (.c (.t (.iptr cs))),J)
  |some (.c (.t (.fn f cs)))=>some (some (.c (.t (.fn f cs))),J)
  |some (.c (.clo f cs))=>some (some (.c (.clo f cs)),J)
  |_=>none
 |.binOp op xT x y _=>match ev r x,ev r y with
  |some u,some v=>(binE P op xT u v).map λt=>(some (.c (.t t)),J)
  |_,_=>none
 |.unOp op _ x=>match ev r x with
  |some v=>(unE op v).map λt=>(some (.c (.t t)),J)
  |none=>none
 |.convert src dst x=>match ev r x with
  |some v=>(Uw P src dst v).map λt=>(some (.c (.t t)),J)
  |none=>none
 |.makeFunc (.func f) first caps=>if first.size=0 then (match evl r caps.toList with
  |some vs=>(Xo f vs).map λv=>(some v,J)
  |none=>none) else if caps.size=0 then (match evl r first.toList with
  |some vs=>(Xx f vs).map λv=>(some v,J)
  |none=>none) else none
 |.makeSlice t l c=>match ev r l,ev r c with
  |some u,some v=>(Qp P J t u v).map λx=>(some x.1,x.2)
  |_,_=>none
 |.slice t x lo hi mx=>match ev r x,evo r lo,evo r hi,evo r mx with
  |some v,some l,some h,some m=>(Y9 P J t v l h m).map λu=>(some u,J)
  |_,_,_,_=>none
 |.fieldAddr t x f=>match ev r x with
  |some v=>(Z2 P t v f).map λu=>(some u,J)
  |none=>none
 |.field t x f=>match ev r x with
  |some v=>(Uq P t v f).map λu=>(some u,J)
  |none=>none
 |.indexAddr t x i=>match ev r x,ev r i with
  |some v,some n=>(Z0 P t v n).map λu=>(some u,J)
  |_,_=>none
 |.index t x i=>match ev r x,ev r i with
  |some v,some n=>(Zr P t v n).map λu=>(some u,J)
  |_,_=>none
 |.extract x i=>match ev r x with
  |some v=>(Zd v i).map λu=>(some u,J)
  |none=>none
 |.call { callee:=.builtin b,args,argTypes }=>match evl r args.toList with
  |some vs=>(QU P J b argTypes vs).map λx=>(some x.1,x.2)
  |none=>none
 |.lookup t x k true=>match ev r x,ev r k with
  |some v,some n=>(lookupE P t v n).map λu=>(some u,J)
  |_,_=>none
 |_=>none
end Go.Abs
namespace Go.Abs
variable [Gl]
def noRow(o:Go.Obj):Prop:=∀c e fr,o≠.cells c e fr
theorem un_noRow{ι:Map}{J:Q1}{w:World}(h:HR ι J w){b:Nat}{o:Go.Obj}(ho:noRow o)(hb:w.heap[b]? =some o):ι.un b:=by
 rintro(⟨id,s,l,h3,h4,rfl⟩|hr)
 ·obtain⟨o',_,_,_,h5⟩:=h.obj id s h3;rw[h4]at h5;obtain⟨⟨cells,elem,h6,_⟩,_⟩:=h5;rw[h6]at hb;injection hb with hb;exact ho _ _ _ hb.symm
 ·obtain⟨c,e,fr,h1⟩:=h.resRow b hr;rw[h1]at hb;injection hb with hb;exact ho _ _ _ hb.symm
def badV:Value:=.tuple #[.tuple #[]]
theorem VR_bad{ι:Map}{w:World}{x:AV}(h:VR ι w x badV):False:=by
 cases x with
 |c x=>have:=CR.XP h;cases this
 |agg xs=>obtain⟨arr,e,_⟩:=h;cases e
 |tup xs=>
  obtain⟨arr,e,h1,h2⟩:=h;injection e with e;subst e
  cases xs with
  |nil=>cases h1
  |cons x xs=>
   obtain⟨u,h3,h4⟩:=h2 0 (by simp);injection h3 with h3;subst h3
   cases x with
   |inl c=>have:=CR.XP (show CR ι w c (.tuple #[]) from h4);cases this
   |inr cs=>obtain⟨arr,e,_⟩:=(show Jf ι w cs (.tuple #[]) from h4);cases e
def GH:Nat:=3000000
def modeOf(s:LoopState)(p:Option Code):Value:=match s,p with
 |.ready,none=>.func (.func 0) #[] #[]
 |.done,some .ret=>.func (.func 2) #[] #[]
 |.done,some (.exit id)=>.func (.func (id+3)) #[] #[]
 |_,_=>badV
open Classical in
noncomputable def We(ex:Ext)(w:World):Value:=match w.heap[ex.l]? with
 |some (.loop r)=>if r={ ex.lr with state:=r.state,pending:=r.pending } then modeOf r.state r.pending else badV
 |_=>badV
theorem modeV_congr{ex:Ext}{w w':World}(h:w'.heap[ex.l]? =w.heap[ex.l]?):We ex w'=We ex w:=by unfold We;rw[h]
theorem modeV_loop{ex:Ext}{w:World}(h:We ex w≠badV):∃r,w.heap[ex.l]? =some (.loop r)/\r={ ex.lr with state:=r.state,pending:=r.pending }/\We ex w=modeOf r.state r.pending:=by
 unfold We at h⊢;split at h
 ·rename_i r hr;split at h
  ·rename_i e;exact⟨r,hr,e,by rw[AF e]⟩
  ·exact absurd rfl h
 ·exact absurd rfl h
noncomputable def lk(ι:Map)(w:World)(a:Act)(t:Nat):Value:=if BIG<=t then (if t=GH then We ι.ex w else ι.ex.o t) else a.tmps.getD t undef
def Jc(ι:Map)(w:World):Prop:=∀g c x,Gl.dat g=some ⟨c,x⟩->TR ι.un w (.iptr (c.trees x)) (.pointer (some ⟨g,0,none⟩))
theorem Jc.mono{ι I':Map}{w w':World}(h:Jc ι w)(hU:∀b,ι.un b->Uj w b->I'.un b/\w'.heap[b]? =w.heap[b]?):Jc I' w':=λg c x hg=>(h g c x hg).mono hU
theorem Jc.step{ι I':Map}{J S':Q1}{w w':World}(hs:Step ι J w I' S' w')(h:Jc ι w):Jc I' w':=λg c x hg=>(h g c x hg).step hs
structure Qt(N:Nat)(ι:Map)(w:World)(r:Q3)(a:Act):Prop where
 size:a.tmps.size=N
 low:N<=BIG
 get:∀t x,r.get t=some x->VR ι w x (lk ι w a t)
 gl:Jc ι w
theorem Q3.at_get{r:Q3}{t:Nat}{v:AV}(h:r.at t=some v):t<BIG/\r.get t=some v:=by
 unfold Q3.at at h;split at h
 ·cases h
 ·rename_i hb;refine⟨?_,h⟩;apply C9;intro hn;rw[C6 (by omega)]at hb;cases hb
theorem Q3.at_of{r:Q3}{t:Nat}{v:AV}(h:r.get t=some v)(ht:t<BIG):r.at t=some v:=by
 unfold Q3.at
 split
 ·rename_i hb;have:=BG hb;omega
 ·exact h
theorem Qt.at{N:Nat}{ι:Map}{w:World}{r:Q3}{a:Act}(h:Qt N ι w r a){t:Nat}{x:AV}(ht:r.at t=some x):VR ι w x (a.tmps.getD t undef):=by obtain⟨h1,h2⟩:=Q3.at_get ht;have:=h.get t x h2;unfold lk at this;rwa [AP (by omega)]at this
theorem lk_mode{ι I':Map}{w w':World}{a:Act}{t:Nat}{x:AV}(hx:VR ι w x (lk ι w a t))(he:I'.ex=ι.ex)(hl:∀r,w.heap[ι.ex.l]? =some (.loop r)->w'.heap[ι.ex.l]? =w.heap[ι.ex.l]?):lk I' w' a t=lk ι w a t:=by
 unfold lk at hx⊢;rw[he];split
 ·rename_i hb;rw[AF hb]at hx;split
  ·rename_i e;rw[AF e]at hx;have hne:We ι.ex w≠badV:=λe=>VR_bad (e▸hx);obtain⟨r,hr,_⟩:=modeV_loop hne;exact modeV_congr (hl r hr)
  ·rfl
 ·rfl
theorem Qt.step{N:Nat}{ι I':Map}{J S':Q1}{w w':World}{r:Q3}{a:Act}(hh:HR ι J w)(hs:Step ι J w I' S' w')(h:Qt N ι w r a):Qt N I' w' r a:=
 ⟨h.size,h.low,λt x hx=>by
  have h1:=h.get t x hx;rw[lk_mode h1 hs.ex λr hr=>hs.frame _ (A8.1 hr).1 (un_noRow hh (λ_ _ _ e=>by cases e) hr)];exact h1.step hs,h.gl.step hs⟩
theorem Q3.QM(r:Q3)(t:Nat)(v:AV):(r.set t v).get t=some v:=by
 induction r with
 |nil=>simp[Q3.set,Q3.get]
 |cons p r ih=>obtain⟨k,u⟩:=p;by_cases h:k=t<;>simp[Q3.set,Q3.get,h,ih]
theorem Q3.Qe(r:Q3){t t':Nat}(v:AV)(h:t≠t'):(r.set t v).get t'=r.get t':=by
 induction r with
 |nil=>simp[Q3.set,Q3.get,h]
 |cons p r ih=>
  obtain⟨k,u⟩:=p;by_cases h1:k=t
  ·subst h1;simp[Q3.set,Q3.get,h]
  ·by_cases h2:k=t'
   ·subst h2;simp[Q3.set,Q3.get,h1]
   ·simp[Q3.set,Q3.get,h1,h2,ih]
theorem Q3.Xj(r:Q3)(t:Nat):(r.del t).get t=none:=by
 induction r with
 |nil=>rfl
 |cons p r ih=>obtain⟨k,u⟩:=p;by_cases h:k=t<;>simp[Q3.del,Q3.get,h,ih]
theorem Q3.Zu(r:Q3){t t':Nat}(h:t≠t'):(r.del t).get t'=r.get t':=by
 induction r with
 |nil=>rfl
 |cons p r ih=>
  obtain⟨k,u⟩:=p;by_cases h1:k=t
  ·subst h1;simp[Q3.del,Q3.get,h,ih]
  ·by_cases h2:k=t'
   ·subst h2;simp[Q3.del,Q3.get,h1]
   ·simp[Q3.del,Q3.get,h1,h2,ih]
theorem getD_set_same(arr:Array Value)(d:Nat)(v:Value)(h:d<arr.size):(arr.setIfInBounds d v).getD d undef=v:=by simp[h]
theorem getD_set_ne(arr:Array Value){d t:Nat}(v:Value)(h:d≠t):(arr.setIfInBounds d v).getD t undef=arr.getD t undef:=by simp[Array.getElem?_setIfInBounds_ne h]
theorem Qt.put{N:Nat}{ι:Map}{w:World}{r:Q3}{a:Act}(h:Qt N ι w r a){dst:Option Nat}(hd:∀d,dst=some d->d<N){x:AV}{v:Value}(hv:VR ι w x v):
  Qt N ι w (r.put dst x) (a.put dst v):=by
 cases dst with
 |none=>exact h
 |some d=>
  refine⟨by simp[Act.put,h.size],h.low,λt y hy=> ?_,h.gl⟩;by_cases e:d=t
  ·subst e;simp only[Q3.put,Q3.QM,X3]at hy;subst hy;have hlt:=hd d rfl;have hlow:=h.low;unfold lk;rw[AP (by omega)];simp only[Act.put];rw[getD_set_same _ _ _ (by rw[h.size];exact hlt)];exact hv
  ·simp only[Q3.put,Q3.Qe _ _ e]at hy;have:=h.get t y hy;unfold lk at this⊢;simp only[Act.put];rw[getD_set_ne _ _ e];exact this
theorem Qt.drop{N:Nat}{ι:Map}{w:World}{r:Q3}{a:Act}(h:Qt N ι w r a){dst:Option Nat}(hd:∀d,dst=some d->d<N):Qt N ι w (r.drop dst) (a.put dst undef):=by
 cases dst with
 |none=>exact h
 |some d=>
  refine⟨by simp[Act.put,h.size],h.low,λt y hy=> ?_,h.gl⟩;by_cases e:d=t
  ·subst e;simp only[Q3.drop,Q3.QM,X3]at hy;subst hy;have hlt:=hd d rfl;have hlow:=h.low;have:(a.put (some d) undef).tmps.getD d undef=undef:=(by simp only[Act.put,B5,Array.getElem?_setIfInBounds,Ag];split<;>rfl);unfold lk;rw[AP (by omega),this];exact⟨#[],rfl,rfl,λi hi=>absurd hi (by simp)⟩
  ·simp only[Q3.drop,Q3.Qe _ _ e]at hy;have:=h.get t y hy;unfold lk at this⊢;simp only[Act.put];rw[getD_set_ne _ _ e];exact this
theorem tOf_ok{U:Nat->Prop}{w:World}{v:Value}{t:T}(h:tOf v=some t):TR U w t v:=by
 unfold tOf at h;split at h<;>first|(injection h with h;subst h)|cases h
 ·exact .bool _
 ·exact .int _ _
 ·exact .str _
 ·exact .nilp
 ·exact .imm0 _ _ _ rfl
 ·exact .nilf
 ·exact .mpn
theorem tOfCell_ok{U:Nat->Prop}{w:World}{v:Value}{t:T}(h:tOfCell v=some t):TR U w t v:=by
 unfold tOfCell at h;split at h
 ·rename_i t' ht';injection h with h;subst h;exact tOf_ok ht'
 ·split at h
  ·rename_i hv;injection h with h;subst h;exact .junk _ hv
  ·cases h
theorem Wr{U:Nat->Prop}{w:World}:∀{vs:List Value} {ts:List T},Wm vs=some ts->ts.length=vs.length/\∀i (h:i<ts.length),∃u,vs[i]? =some u/\TR U w ts[i] u
 |[],ts,h=>by simp only[Wm,X3]at h;subst h;exact⟨rfl,λi hi=>absurd hi (by simp)⟩
 |v::vs,ts,h=>by
  simp only[Wm]at h;split at h
  ·rename_i t ts' h1 h2;injection h with h;subst h;obtain⟨h3,h4⟩:=Wr (U:=U) (w:=w) h2;refine⟨by simp[h3],λi hi=> ?_⟩
   cases i with
   |zero=>exact⟨v,rfl,tOfCell_ok h1⟩
   |succ i=>exact h4 i (by simpa using hi)
  ·cases h
theorem aggR_ts{ι:Map}{w:World}{vs:Array Value}{ts:List T}(h:Wm vs.toList=some ts):Jf ι w (ts.map .t) (.agg vs):=by obtain⟨h1,h2⟩:=Wr (U:=ι.un) (w:=w) h;refine⟨vs,rfl,by simpa using h1.symm,λi hi=> ?_⟩;obtain⟨u,h3,h4⟩:=h2 i (by simpa using hi);exact⟨u,by simpa using h3,by simpa [CR] using h4⟩
theorem constAV_ok{ι:Map}{w:World}{v:Value}{x:AV}(h:Kl v=some x):VR ι w x v:=by
 unfold Kl at h;split at h
 ·simp only[WF]at h;obtain⟨ts,h1,rfl⟩:=h;exact aggR_ts h1
 ·simp only[WF]at h;obtain⟨t,h1,rfl⟩:=h;exact tOf_ok h1
theorem ev_ok{N:Nat}{ι:Map}{w:World}{r:Q3}{a:Act}(hr:Qt N ι w r a){x:Operand}{v:AV}(h:ev r x=some v):VR ι w v (a.eval x):=by
 cases x with
 |tmp t=>exact hr.at h
 |const c=>exact constAV_ok h
 |func f=>simp only[ev,X3]at h;subst h;exact TR.fn f [] #[] rfl (λi hi=>absurd hi (by simp))
 |global g=>
  simp only[ev]at h;split at h
  ·rename_i c x hg;injection h with h;subst h;exact hr.gl g c x hg
  ·cases h
theorem evl_ok{N:Nat}{ι:Map}{w:World}{r:Q3}{a:Act}(hr:Qt N ι w r a):∀{xs:List Operand} {vs:List AV},evl r xs=some vs->
  vs.length=xs.length/\∀i (h:i<vs.length),∃x,xs[i]? =some x/\VR ι w vs[i] (a.eval x)
 |[],vs,h=>by simp only[evl,X3]at h;subst h;exact⟨rfl,λi hi=>absurd hi (by simp)⟩
 |x::xs,vs,h=>by
  simp only[evl]at h;split at h
  ·rename_i v vs' h1 h2;injection h with h;subst h;obtain⟨h3,h4⟩:=evl_ok hr h2;refine⟨by simp[h3],λi hi=> ?_⟩
   cases i with
   |zero=>exact⟨x,rfl,ev_ok hr h1⟩
   |succ i=>exact h4 i (by simpa using hi)
  ·cases h
theorem YQ{P:Program}{t:TypeId}{i:Qj}(h:tinf P t=some i):∃d inf,P.underlying t=some d/\P.info? t=some inf/\i.kind=kindOf d/\i.size=inf.size/\i.bytes=inf.bytes/\
  (i.zero=inf.zero.bind λv=>Wm v.cells.toList)/\i.eqs=eqTop P t d:=by
 unfold tinf at h;split at h
 ·rename_i d inf h1 h2;injection h with h;subst h;exact⟨d,inf,h1,h2,rfl,rfl,rfl,rfl,rfl⟩
 ·cases h
theorem Qb{P:Program}{t:TypeId}{i:Qj}(h:tinf P t=some i)(w:World):(sizeOf t).run P w=.ok i.size w:=by obtain⟨d,inf,h1,h2,h3,h4,h5,h6,_⟩:=YQ h;simp[sizeOf,typeInfo,h2,h4]
theorem YR{P:Program}{t:TypeId}{i:Qj}(h:tinf P t=some i)(w:World):∃inf,(typeInfo t).run P w=.ok inf w/\inf.bytes=i.bytes/\inf.size=i.size/\P.info? t=some inf:=by obtain⟨d,inf,h1,h2,h3,h4,h5,h6,_⟩:=YQ h;exact⟨inf,by simp[typeInfo,h2],h5.symm,h4.symm,h2⟩
theorem JD{P:Program}{t:TypeId}{i:Qj}(h:tinf P t=some i)(w:World):∃d,(underlying t).run P w=.ok d w/\i.kind=kindOf d/\P.underlying t=some d:=by obtain⟨d,inf,h1,h2,h3,h4,h5,h6,_⟩:=YQ h;exact⟨d,AY h1 w,h3,h1⟩
theorem tinf_agg{P:Program}{t:TypeId}{i:Qj}(h:tinf P t=some i)(w:World):(isAgg t).run P w=.ok i.isAgg w:=by obtain⟨d,h1,h2,_⟩:=JD h w;simp only[isAgg,AQ,h1,AR,Qj.isAgg,h2];cases d<;>simp[kindOf]
theorem Xn{P:Program}{t:TypeId}{i:Qj}(h:tinf P t=some i){z:List T}(hz:i.zero=some z)(w:World):
  ∃v,(zeroValue t).run P w=.ok v w/\Wm v.cells.toList=some z:=by
 obtain⟨d,inf,h1,h2,h3,h4,h5,h6,_⟩:=YQ h;rw[hz]at h6
 cases h7:inf.zero with
 |none=>simp[h7]at h6
 |some v=>simp only[h7,Option.bind_some]at h6;exact⟨v,by simp[zeroValue,typeInfo,h2,h7],h6.symm⟩
theorem ZS(b o n:Nat):(⟨b,o,none⟩:Addr).add n=⟨b,o+n,none⟩:=by unfold Addr.add;split<;>simp_all
theorem Wh(p:Nat->Value->Prop):∀(n:Nat),(∀i,i<n->∃v,p i v)->∃vs:List Value,vs.length=n/\∀i v,vs[i]? =some v->p i v
 |0,_=>⟨[],rfl,λi v h=>by simp at h⟩
 |n+1,h=>by
  obtain⟨vs,h1,h2⟩:=Wh p n (λi hi=>h i (by omega));obtain⟨v,hv⟩:=h n (by omega);refine⟨vs++[v],by simp[h1],λi u hu=> ?_⟩;by_cases hi:i<vs.length
  ·rw[AK hi]at hu;exact h2 i u hu
  ·rw[AS (by omega)]at hu;have:i=n:=(by have h3:i - vs.length<[v].length:=(AE.1 hu).1;simp only[Bi]at h3;omega);subst this;have e0:i - vs.length=0:=(by omega);rw[e0]at hu;simp only[BA,X3]at hu;exact hu▸hv
def KL(ι:Map)(w:World)(b off:Nat)(cs:List Cell):Prop:=∀i (h:i<cs.length),∃v,w.cell? ⟨b,off+i,none⟩=some v/\CR ι w cs[i] v
theorem KL.drop{ι:Map}{w:World}{b off:Nat}{cs:List Cell}(h:KL ι w b off cs)(n:Nat):KL ι w b (off+n) (cs.drop n):=λi hi=>by
 have hi':n+i<cs.length:=by simp at hi;omega
 obtain⟨v,h1,h2⟩:=h (n+i) hi';exact⟨v,by rw[<-h1,CI],by simpa using h2⟩
theorem KL.take{ι:Map}{w:World}{b off:Nat}{cs:List Cell}(h:KL ι w b off cs)(n:Nat):KL ι w b off (cs.take n):=λi hi=>by
 have hi':i<cs.length:=by simp at hi;omega
 obtain⟨v,h1,h2⟩:=h i hi';exact⟨v,h1,by simpa using h2⟩
theorem KL.list{ι:Map}{w:World}{b off:Nat}{cs:List Cell}(h:KL ι w b off cs):
  ∃vs:List Value,vs.length=cs.length/\(∀j v,vs[j]? =some v->w.cell? ((⟨b,off,none⟩:Addr).add j)=some v)/\∀i (hi:i<cs.length),∃u,vs[i]? =some u/\CR ι w cs[i] u:=by
 obtain⟨vs,h1,h2⟩:=Wh (λi v=>∃hi:i<cs.length,w.cell? ⟨b,off+i,none⟩=some v/\CR ι w cs[i] v) cs.length (λi hi=>let ⟨v,h3,h4⟩:=h i hi;⟨v,hi,h3,h4⟩);refine⟨vs,h1,λj v hv=> ?_,λi hi=> ?_⟩
 ·obtain⟨hi,h3,h4⟩:=h2 j v hv;rw[ZS];exact h3
 ·have hlt:i<vs.length:=(by omega);obtain⟨hi',h3,h4⟩:=h2 i vs[i] (by simp[hlt]);exact⟨vs[i],by simp[hlt],h4⟩
theorem KL.loadCells{ι:Map}{w:World}{b off:Nat}{cs:List Cell}(h:KL ι w b off cs)(P:Program){n:Nat}(hn:n=cs.length):
  ∃vs:List Value,vs.length=cs.length/\(Go.loadCells ⟨b,off,none⟩ n).run P w=.ok vs.toArray w/\Jf ι w cs (.agg vs.toArray)/\∀i (hi:i<cs.length),∃u,vs[i]? =some u/\CR ι w cs[i] u:=by
 obtain⟨vs,h1,h2,h3⟩:=h.list;refine⟨vs,h1,?_,⟨vs.toArray,rfl,by simp[h1],λi hi=> ?_⟩,h3⟩
 ·have:=run_loadCells_list (P:=P) (w:=w) ⟨b,off,none⟩ vs h2;rw[hn,<-h1];exact this
 ·obtain⟨u,h4,h5⟩:=h3 i hi;exact⟨u,by simpa using h4,h5⟩
theorem loadC_ok{P:Program}{t:TypeId}{i:Qj}(ht:tinf P t=some i){ι:Map}{w:World}{b off:Nat}{cs:List Cell}(h:KL ι w b off cs){x:AV}(hx:Xf i cs=some x):
  ∃v,(Instr.loadAt t (.pointer (some ⟨b,off,none⟩))).run P w=.ok v w/\VR ι w x v:=by
 unfold Xf at hx;have ha:=tinf_agg ht w;have hz:=Qb ht w
 cases hagg:i.isAgg with
 |true=>
  simp only[hagg,Ag]at hx;split at hx
  ·rename_i hle;injection hx with hx;subst hx;obtain⟨vs,h1,h2,h3,_⟩:=(h.take i.size).loadCells P (n:=i.size) (by simp;omega);rw[hagg]at ha;exact⟨.agg vs.toArray,by simp[Instr.loadAt,Instr.sureAddr,loadVar,ha,hz,h2],h3⟩
  ·cases hx
 |false=>
  simp only[hagg]at hx;rw[hagg]at ha
  cases cs with
  |nil=>simp at hx
  |cons c cs=>simp only[AM,Af,X3]at hx;subst hx;obtain⟨v,h1,h2⟩:=h 0 (by simp);exact⟨v,by simp only[BZ]at h1;simp[Instr.loadAt,Instr.sureAddr,loadVar,ha,h1],h2⟩
theorem HR.ref{ι:Map}{J:Q1}{w:World}(h:HR ι J w){r:Ref}{o:Obj}(ho:J.at? r=some o){ok:JH->Prop}(hr:J0 ι r ok):
  ∃s,ι r.id=some s/\J[r.id]? =some o/\o.ep=r.ep/\OR ι w o s/\ok s:=by
 unfold Q1.at? at ho
 cases h1:J[r.id]? with
 |none=>simp[h1]at ho
 |some o'=>
  simp only[h1]at ho;split at ho
  ·rename_i hep;injection ho with ho;subst ho;obtain⟨s,h2,h3,h4⟩:=hr;obtain⟨o'',h5,h6⟩:=h.obj _ _ h2;rw[h1]at h5;injection h5 with h5;subst h5;exact⟨s,h2,rfl,hep,h6,h4 (by rw[<-hep];exact h6.2.1)⟩
  ·cases ho
theorem OR.row{ι:Map}{w:World}{o:Obj}{s:JH}{l:Loc}(h:OR ι w o s)(hl:s.loc=some l):KL ι w l.blk l.sh o.cs:=by obtain⟨_,_,h3⟩:=h;rw[hl]at h3;exact h3.2.2
theorem KX{ι:Map}{w:World}{cs:List T}{v:Value}(h:TR ι.un w (.iptr cs) v):∃b off,v=.pointer (some ⟨b,off,none⟩)/\ι.un b/\isRow w b/\KL ι w b off (cs.map .t):=by
 cases h with
 |iptr cs b off f h1 h2 h3 h4=>refine⟨b,off,rfl,h1,h2,λi hi=>⟨f i,h3 i (by simpa using hi),?_⟩⟩;have:=h4 i (by simpa using hi);simpa [CR] using this
theorem loadE_ok{P:Program}{t:TypeId}{i:Qj}(ht:tinf P t=some i){ι:Map}{J:Q1}{w:World}(h:HR ι J w){a x:AV}{v:Value}(ha:VR ι w a v)(hx:Xy J i a=some x):
  ∃u,(Instr.loadAt t v).run P w=.ok u w/\VR ι w x u:=by
 unfold Xy at hx;split at hx
 ·rename_i r;split at hx
  ·rename_i o ho;obtain⟨ad,rfl,hr⟩:=ha;obtain⟨s,_,_,_,hor,l,hl,e⟩:=h.ref ho hr;injection e with e;subst e;have:=(hor.row hl).drop r.off;exact loadC_ok ht this hx
  ·cases hx
 ·rename_i cs;obtain⟨b,off,rfl,_,_,hrow⟩:=KX ha;exact loadC_ok ht hrow hx
 ·cases hx
end Go.Abs
namespace Go.Abs
variable [Gl]
theorem HR.lt{ι:Map}{J:Q1}{w:World}(h:HR ι J w){id:Nat}{s:JH}(hs:ι id=some s):id<J.length:=by obtain⟨o,ho,_⟩:=h.obj _ _ hs;exact(AE.1 ho).1
theorem HR.Zz{ι:Map}{J:Q1}{w:World}(h:HR ι J w){b:Nat}(hb:ι.mapped b):b<w.heap.size:=by
 rcases hb with ⟨id,s,l,h1,h2,rfl⟩|hr
 ·obtain⟨o,_,_,_,h5⟩:=h.obj _ _ h1;rw[h2]at h5;obtain⟨⟨cells,elem,h6,_⟩,_⟩:=h5;exact(A8.1 h6).1
 ·exact(h.resRow _ hr).lt
theorem Step.same{ι:Map}{J:Q1}{w w':World}(hh:w'.heap=w.heap)(ho:w'.os=w.os)(hp:w'.output=w.output):Step ι J w ι J w' where
 len:=A6 _
 size:=by rw[hh];exact A6 _
 os:=ho
 out:=hp
 keep:=λ_ s h=>⟨s,h,A6 _,λ_=>rfl⟩
 none:=λ_ _ h=>h
 new:=λid s' l' h h'=>.inr ⟨id,s',l',h,h',rfl⟩
 res:=rfl
 ex:=rfl
 resKeep:=λb _=>by rw[hh]
 frame:=λb _ _=>by rw[hh]
theorem HR.same{ι:Map}{J:Q1}{w w':World}(h:HR ι J w)(hh:w'.heap=w.heap)(ho:w'.os=w.os)(hp:w'.output=w.output):HR ι J w' where
 obj:=λid s hs=>by obtain⟨o,h1,h2⟩:=h.obj id s hs;exact⟨o,h1,h2.congr (Step.same (ι:=ι) (J:=J) hh ho hp) (λl _=>by rw[hh])⟩
 inj:=h.inj
 resRow:=λb hb=>by obtain⟨c,e,fr,h1⟩:=h.resRow b hb;exact⟨c,e,fr,by rw[hh];exact h1⟩
 resNo:=h.resNo
def Map.push(ι:Map)(n:Nat)(s:JH):Map:=⟨λid=>if id=n then some s else ι id,ι.res,ι.ex⟩
theorem Map.QN(ι:Map)(n:Nat)(s:JH):ι.push n s n=some s:=by simp[Map.push]
theorem Map.QV(ι:Map){n id:Nat}(s:JH)(h:id≠n):ι.push n s id=ι id:=by simp[Map.push,h]
section push
variable {ι:Map}{J:Q1}{w w':World}{arr:Array Value}{e:TypeId}{o:Obj}
theorem Step.push(h:HR ι J w)(hh:w'.heap=w.heap.push (.cells arr e))(ho:w'.os=w.os)(hp:w'.output=w.output)(s:JH)(hs:∀l,s.loc=some l->l.blk=w.heap.size):
  Step ι J w (ι.push J.length s) (J++[o]) w' where
 len:=by simp
 size:=by rw[hh];simp
 os:=ho
 out:=hp
 keep:=λid s' hs'=>⟨s',by rw[Map.QV _ _ (Bn (h.lt hs'))];exact hs',A6 _,λ_=>rfl⟩
 none:=λid hid hn=>by rw[Map.QV _ _ (Bn hid)];exact hn
 new:=λid s' l' h1 h2=>by
  by_cases e:id=J.length
  ·subst e;rw[Map.QN]at h1;injection h1 with h1;subst h1;exact .inl (by rw[hs _ h2];exact A6 _)
  ·rw[Map.QV _ _ e]at h1;exact .inr ⟨id,s',l',h1,h2,rfl⟩
 res:=rfl
 ex:=rfl
 resKeep:=λb hb=>by rw[hh];simp[BJ,Bn (h.resRow b hb).lt]
 frame:=λb hb _=>by rw[hh];simp[BJ,Bn hb]
theorem HR.push(h:HR ι J w)(hh:w'.heap=w.heap.push (.cells arr e))(ho:w'.os=w.os)(hp:w'.output=w.output)(hep:o.ep=0)(hlen:o.cs.length<=arr.size)
  (hc:∀i (hi:i<o.cs.length),∃v,arr[i]? =some v/\CR ι w o.cs[i] v):
  Step ι J w (ι.push J.length ⟨some ⟨w.heap.size,0,arr.size⟩,o.es,0⟩) (J++[o]) w'/\HR (ι.push J.length ⟨some ⟨w.heap.size,0,arr.size⟩,o.es,0⟩) (J++[o]) w':=by
 have hs:Step ι J w (ι.push J.length ⟨some ⟨w.heap.size,0,arr.size⟩,o.es,0⟩) (J++[o]) w':=Step.push h hh ho hp _ (λl hl=>by injection hl with hl;rw[<-hl]);have hnew:w'.heap[w.heap.size]? =some (.cells arr e):=by rw[hh];simp
 refine⟨hs,⟨λid s h1=> ?_,λid id' s s' l l' h1 h2 h3 h4 h5=> ?_,λb hb=> ?_,λid s l h1 h2 hr=> ?_⟩⟩
 ·by_cases e1:id=J.length
  ·subst e1;rw[Map.QN]at h1;injection h1 with h1;subst h1;refine⟨o,by simp,rfl,hep,⟨⟨arr,e,hnew,by simp⟩,hlen,λi hi=> ?_⟩⟩;obtain⟨v,h2,h3⟩:=hc i hi;exact⟨v,by simp[World.cell?,hnew,h2],h3.step hs⟩
  ·rw[Map.QV _ _ e1]at h1;obtain⟨o',h2,h3⟩:=h.obj id s h1;refine⟨o',by rw[AK (h.lt h1)];exact h2,h3.congr hs (λl hl=> ?_)⟩;have hb:l.blk<w.heap.size:=h.Zz (.inl ⟨id,s,l,h1,hl,rfl⟩);rw[hh];simp[BJ,Bn hb]
 ·by_cases e1:id=J.length
  ·by_cases e2:id'=J.length
   ·omega
   ·subst e1;rw[Map.QN]at h1;rw[Map.QV _ _ e2]at h2;injection h1 with h1;subst h1;injection h3 with h3;have:=h.Zz (.inl ⟨id',s',l',h2,h4,rfl⟩);rw[<-h5,<-h3]at this;exact absurd this (Nat.lt_irrefl _)
  ·by_cases e2:id'=J.length
   ·subst e2;rw[Map.QN]at h2;rw[Map.QV _ _ e1]at h1;injection h2 with h2;subst h2;injection h4 with h4;have:=h.Zz (.inl ⟨id,s,l,h1,h3,rfl⟩);rw[h5,<-h4]at this;exact absurd this (Nat.lt_irrefl _)
   ·rw[Map.QV _ _ e1]at h1;rw[Map.QV _ _ e2]at h2;exact h.inj id id' s s' l l' h1 h2 h3 h4 h5
 ·obtain⟨c,e,fr,h1⟩:=h.resRow b hb;exact⟨c,e,fr,by rw[hs.resKeep b hb];exact h1⟩
 ·by_cases e1:id=J.length
  ·subst e1;rw[Map.QN]at h1;injection h1 with h1;subst h1;injection h2 with h2;have:=(h.resRow _ hr).lt;rw[<-h2]at this;exact absurd this (Nat.lt_irrefl _)
  ·rw[Map.QV _ _ e1]at h1;exact h.resNo id s l h1 h2 hr
end push
section upd
variable {ι:Map}{J:Q1}{w w':World}{id:Nat}{s s':JH}{o':Obj}
theorem Step.upd(h:HR ι J w)(hid:ι id=some s)(hep:s.ep<=s'.ep)(hes:s.ep=s'.ep->s'=s)(hsz:w.heap.size<=w'.heap.size)(ho:w'.os=w.os)(hp:w'.output=w.output)
  (hloc:∀l',s'.loc=some l'->w.heap.size<=l'.blk\/ι.byId l'.blk)
  (hfr:∀b,b<w.heap.size->(∀l,s.loc=some l->l.blk≠b)->w'.heap[b]? =w.heap[b]?):
  Step ι J w (ι.push id s') (J.set id o') w' where
 len:=by simp
 size:=hsz
 os:=ho
 out:=hp
 keep:=λid' s'' hs''=>by
  by_cases e:id'=id
  ·subst e;rw[hid]at hs'';injection hs'' with hs'';subst hs'';exact⟨s',Map.QN _ _ _,hep,hes⟩
  ·exact⟨s'',by rw[Map.QV _ _ e];exact hs'',A6 _,λ_=>rfl⟩
 none:=λid' _ hn=>by have e:id'≠id:=(by intro e;subst e;rw[hid]at hn;cases hn);rw[Map.QV _ _ e];exact hn
 new:=λid' s'' l' h1 h2=>by
  by_cases e:id'=id
  ·subst e;rw[Map.QN]at h1;injection h1 with h1;subst h1;exact hloc l' h2
  ·rw[Map.QV _ _ e]at h1;exact .inr ⟨id',s'',l',h1,h2,rfl⟩
 res:=rfl
 ex:=rfl
 resKeep:=λb hb=>hfr b (h.resRow b hb).lt (λl hl e=>h.resNo id s l hid hl (e▸hb))
 frame:=λb hb hu=>hfr b hb (λl hl e=>hu (.inl ⟨id,s,l,hid,hl,e⟩))
theorem HR.upd(h:HR ι J w)(hid:ι id=some s)(hst:Step ι J w (ι.push id s') (J.set id o') w')
  (hfr:∀b,b<w.heap.size->(∀l,s.loc=some l->l.blk≠b)->w'.heap[b]? =w.heap[b]?)
  (hloc:∀l',s'.loc=some l'->w.heap.size<=l'.blk\/∃l,s.loc=some l/\l.blk=l'.blk)
  (hor:OR (ι.push id s') w' o' s'):HR (ι.push id s') (J.set id o') w' where
 obj:=λid' s'' h1=>by
  by_cases e:id'=id
  ·subst e;rw[Map.QN]at h1;injection h1 with h1;subst h1;exact⟨o',by simp[h.lt hid],hor⟩
  ·rw[Map.QV _ _ e]at h1;obtain⟨o,h2,h3⟩:=h.obj id' s'' h1;refine⟨o,by rw[BW (λx=>e x.symm)];exact h2,h3.congr hst (λl hl=> ?_)⟩;exact hfr _ (h.Zz (.inl ⟨id',s'',l,h1,hl,rfl⟩)) (λl0 hl0 e0=>e (h.inj id' id s'' s l l0 h1 hid hl hl0 e0.symm))
 inj:=λi1 i2 s1 s2 l1 l2 h1 h2 h3 h4 h5=>by
  by_cases e1:i1=id
  ·by_cases e2:i2=id
   ·omega
   ·subst e1;rw[Map.QN]at h1;rw[Map.QV _ _ e2]at h2;injection h1 with h1;subst h1;rcases hloc l1 h3 with h6|⟨l,h6,h7⟩
    ·have:=h.Zz (.inl ⟨i2,s2,l2,h2,h4,rfl⟩);omega
    ·exact h.inj i1 i2 s s2 l l2 hid h2 h6 h4 (h7.trans h5)
  ·by_cases e2:i2=id
   ·subst e2;rw[Map.QN]at h2;rw[Map.QV _ _ e1]at h1;injection h2 with h2;subst h2;rcases hloc l2 h4 with h6|⟨l,h6,h7⟩
    ·have:=h.Zz (.inl ⟨i1,s1,l1,h1,h3,rfl⟩);omega
    ·exact h.inj i1 i2 s1 s l1 l h1 hid h3 h6 (h5.trans h7.symm)
   ·rw[Map.QV _ _ e1]at h1;rw[Map.QV _ _ e2]at h2;exact h.inj i1 i2 s1 s2 l1 l2 h1 h2 h3 h4 h5
 resRow:=λb hb=>by obtain⟨c,e,fr,h1⟩:=h.resRow b hb;exact⟨c,e,fr,by rw[hst.resKeep b hb];exact h1⟩
 resNo:=λid' s'' l h1 h2 hr=>by
  by_cases e:id'=id
  ·subst e;rw[Map.QN]at h1;injection h1 with h1;subst h1;rcases hloc l h2 with h3|⟨l0,h3,h4⟩
   ·have:=(h.resRow _ hr).lt;omega
   ·exact h.resNo id' s l0 hid h3 (h4▸hr)
  ·rw[Map.QV _ _ e]at h1;exact h.resNo id' s'' l h1 h2 hr
end upd
theorem Map.push_self{ι:Map}{id:Nat}{s:JH}(h:ι id=some s):ι.push id s=ι:=by
 obtain⟨f,q⟩:=ι;unfold Map.push;congr 1;funext i;split
 ·rename_i e;subst e;exact h.symm
 ·rfl
theorem Jg(cs:List Cell)(off:Nat)(xs:List Cell)(h:off+xs.length<=cs.length):(QO cs off xs).length=cs.length:=by simp[QO];omega
theorem splice_getElem?(cs:List Cell)(off:Nat)(xs:List Cell)(h:off+xs.length<=cs.length)(i:Nat):
  (QO cs off xs)[i]? =if i<off then cs[i]? else if i<off+xs.length then xs[i - off]? else cs[i]? :=by
 unfold QO;by_cases h1:i<off
 ·rw[AF h1,Ac,AK (by simp;omega),List.getElem?_take_of_lt h1]
 ·rw[AP h1,Ac,AS (by simp;omega)];have e:(List.take off cs).length=off:=(by simp;omega);rw[e];by_cases h2:i<off+xs.length
  ·rw[AF h2,AK (by omega)]
  ·rw[AP h2,AS (by omega),Bt];congr 1;omega
theorem HR.write{ι:Map}{J:Q1}{w:World}(h:HR ι J w){id:Nat}{s:JH}{o:Obj}{l:Loc}(hid:ι id=some s)(hl:s.loc=some l)(ho:J[id]? =some o)
  (P:Program) (off:Nat) (xs:List Cell) (vs:List Value) (hn:vs.length=xs.length) (hx:∀i (hi:i<xs.length),∃u,vs[i]? =some u/\CR ι w xs[i] u)
  (hfit:off+xs.length<=o.cs.length):
  ∃w',(storeCells ⟨l.blk,l.sh+off,none⟩ vs).run P w=.ok () w'/\Step ι J w ι (J.set id { o with cs:=QO o.cs off xs }) w'/\HR ι (J.set id { o with cs:=QO o.cs off xs }) w':=by
 obtain⟨o',ho',hor⟩:=h.obj _ _ hid;rw[ho]at ho';injection ho' with ho';subst ho';have hor0:=hor;obtain⟨h1,h2,h3⟩:=hor;rw[hl]at h3;obtain⟨⟨cells,elem,h4,h5⟩,h6,h7⟩:=h3;have hone:∀v∈vs,v.oneCell'=true:=λv hv=>by obtain⟨i,hi⟩:=List.getElem?_of_mem hv;have hlt:i<xs.length:=(by rw[<-hn];exact(AE.1 hi).1);obtain⟨u,h8,h9⟩:=hx i hlt;rw[hi]at h8;injection h8 with h8;subst h8;exact CR.XP h9
 have hrun:=run_storeCells_at P l.blk (l.sh+off) elem vs 0 cells w h4 (by omega) hone;simp only[BZ]at hrun;refine⟨_,hrun,?_⟩;generalize hw':w.setRow l.blk (cells.toList.take (l.sh+off)++vs++cells.toList.drop (l.sh+off+vs.length)).toArray=w';have hnew:w'.heap[l.blk]? =some (.cells (cells.toList.take (l.sh+off)++vs++cells.toList.drop (l.sh+off+vs.length)).toArray elem (0,0)):=by rw[<-hw'];exact setRow_heap w l.blk cells _ elem _ h4
 have hfr:∀b,b<w.heap.size->(∀l',s.loc=some l'->l'.blk≠b)->w'.heap[b]? =w.heap[b]? :=λb _ hb=>by rw[<-hw'];simp only[World.setRow];rw[Array.getElem?_modify];simp[hb l hl]
 have hst0:Step ι J w (ι.push id s) (J.set id { o with cs:=QO o.cs off xs }) w':=by
  refine Step.upd h hid (A6 _) (λ_=>rfl) ?_ ?_ ?_ (λl' hl'=>.inr ⟨id,s,l',hid,hl',rfl⟩) hfr
  ·rw[<-hw'];simp[World.setRow]
  ·rw[<-hw'];rfl
  ·rw[<-hw'];rfl
 have hsz:(cells.toList.take (l.sh+off)++vs++cells.toList.drop (l.sh+off+vs.length)).toArray.size=cells.size:=by simp;omega
 have hor':OR (ι.push id s) w' { o with cs:=QO o.cs off xs } s:=by
  refine⟨h1,h2,?_⟩;rw[hl];refine⟨⟨_,elem,hnew,by rw[hsz];exact h5⟩,by simp only[Jg _ _ _ hfit];exact h6,λi hi=> ?_⟩;have hi':i<o.cs.length:=(by simpa [Jg _ _ _ hfit] using hi);have hsp:=splice_getElem? o.cs off xs hfit i;have hget:(QO o.cs off xs)[i]? =some ((QO o.cs off xs)[i]'hi):=A4 hi;have hcell:∀v,(cells.toList.take (l.sh+off)++vs++cells.toList.drop (l.sh+off+vs.length))[l.sh+i]? =some v->w'.cell? ⟨l.blk,l.sh+i,none⟩=some v:=λv hv=>(by simp only[World.cell?,hnew];simpa using hv);have hold:w.cell? ⟨l.blk,l.sh+i,none⟩=cells[l.sh+i]? :=(by simp[World.cell?,h4]);by_cases c1:i<off
  ·rw[AF c1]at hsp;obtain⟨v,h8,h9⟩:=h7 i hi';refine⟨v,hcell v ?_,?_⟩
   ·rw[Ac,AK (by simp;omega),List.getElem?_take_of_lt (by omega)];rw[hold]at h8;simpa using h8
   ·have e:(QO o.cs off xs)[i]'hi=o.cs[i]:=(by rw[hget,A4 hi']at hsp;injection hsp);simp only[e];exact h9.step hst0
  ·rw[AP c1]at hsp;by_cases c2:i<off+xs.length
   ·rw[AF c2]at hsp;have hi2:i - off<xs.length:=(by omega);obtain⟨u,h8,h9⟩:=hx (i - off) hi2;refine⟨u,hcell u ?_,?_⟩
    ·rw[Ac,AS (by simp;omega)];have e0:l.sh+i - (List.take (l.sh+off) cells.toList).length=i - off:=(by simp;omega);rw[e0,AK (by omega)];exact h8
    ·have e:(QO o.cs off xs)[i]'hi=xs[i - off]:=(by rw[hget,A4 hi2]at hsp;injection hsp);simp only[e];exact h9.step hst0
   ·rw[AP c2]at hsp;obtain⟨v,h8,h9⟩:=h7 i hi';refine⟨v,hcell v ?_,?_⟩
    ·rw[Ac,AS (by simp;omega)];have e0:l.sh+i - (List.take (l.sh+off) cells.toList).length=i - off:=(by simp;omega);rw[e0,AS (by omega),Bt];have e1:l.sh+off+vs.length+(i - off - vs.length)=l.sh+i:=(by omega);rw[e1];rw[hold]at h8;simpa using h8
    ·have e:(QO o.cs off xs)[i]'hi=o.cs[i]:=(by rw[hget,A4 hi']at hsp;injection hsp);simp only[e];exact h9.step hst0
 have hH:=HR.upd h hid hst0 hfr (λl' hl'=>.inr ⟨l',hl',rfl⟩) hor';rw[Map.push_self hid]at hst0 hH;exact⟨hst0,hH⟩
end Go.Abs
namespace Go.Abs
variable [Gl]
section
variable {P:Program}{ι:Map}{w:World}
theorem Xa{k:IntKind}{n:Int}{v:Value}(h:VR ι w (.c (.t (.int k n))) v):v=.int k n:=by cases h;rfl
theorem Xq{s:List UInt8}{v:Value}(h:VR ι w (.c (.t (.str s))) v):v=.string ⟨s.toArray⟩:=by cases h;rfl
theorem Xl{b:Bool}{v:Value}(h:VR ι w (.c (.t (.bool b))) v):v=.bool b:=by cases h;rfl
theorem Ww{v:Value}(h:VR ι w (.c (.t .nilp)) v):v=.pointer none:=by cases h;rfl
theorem intE_ok{op:BinOp}{k:IntKind}{a b:Int}{t:T}(h:intE op k a b=some t)(hs:KW op=false)(xT:TypeId):
  ∃v,(binOp op xT (.int k a) (.int k b)).run P w=.ok v w/\TR ι.un w t v:=by
 cases op<;>simp only[intE,KW]at h hs
 case add=>injection h with h;subst h;exact⟨_,by simp[binOp,Op.intArith],.int _ _⟩
 case sub=>injection h with h;subst h;exact⟨_,by simp[binOp,Op.intArith],.int _ _⟩
 case mul=>injection h with h;subst h;exact⟨_,by simp[binOp,Op.intArith],.int _ _⟩
 case quo=>
  split at h
  ·cases h
  ·rename_i h0;injection h with h;subst h;exact⟨_,by simp[binOp,Op.intDiv,h0],.int _ _⟩
 case rem=>
  split at h
  ·cases h
  ·rename_i h0;injection h with h;subst h;exact⟨_,by simp[binOp,Op.intDiv,h0],.int _ _⟩
 case and=>injection h with h;subst h;exact⟨_,by simp only[binOp];rw[AP (by simp)];rfl,.int _ _⟩
 case or=>injection h with h;subst h;exact⟨_,by simp only[binOp];rw[AP (by simp)];rfl,.int _ _⟩
 case xor=>injection h with h;subst h;exact⟨_,by simp only[binOp];rw[AP (by simp)];rfl,.int _ _⟩
 case andNot=>injection h with h;subst h;exact⟨_,by simp only[binOp];rw[AP (by simp)];rfl,.int _ _⟩
 case eql=>injection h with h;subst h;exact⟨_,by simp[binOp,Op.intCmp],.bool _⟩
 case neq=>injection h with h;subst h;exact⟨_,by simp[binOp,Op.intCmp],.bool _⟩
 case lss=>injection h with h;subst h;exact⟨_,by simp[binOp,Op.intCmp],.bool _⟩
 case leq=>injection h with h;subst h;exact⟨_,by simp[binOp,Op.intCmp],.bool _⟩
 case gtr=>injection h with h;subst h;exact⟨_,by simp[binOp,Op.intCmp],.bool _⟩
 case geq=>injection h with h;subst h;exact⟨_,by simp[binOp,Op.intCmp],.bool _⟩
 case shl=>cases hs
 case shr=>cases hs
theorem shiftE_ok{op:BinOp}{k k':IntKind}{a b:Int}{t:T}(h:UB op k a b=some t)(xT:TypeId):
  ∃v,(binOp op xT (.int k a) (.int k' b)).run P w=.ok v w/\TR ι.un w t v:=by
 unfold UB at h;split at h
 ·cases h
 ·rename_i hb;cases op<;>simp only at h<;>first
   |(cases h;done)
   |(injection h with h;subst h;exact⟨_,by simp[binOp,Op.shift,hb],.int _ _⟩)
theorem bytes_beq(x y:List UInt8):((⟨x.toArray⟩:ByteArray).toList==(⟨y.toArray⟩:ByteArray).toList)=(x==y):=by
 have e:∀z:List UInt8,(⟨z.toArray⟩:ByteArray).toList=z:=λz=>by simp[ByteArray.toList_eq]
 rw[e,e]
theorem strE_ok{op:BinOp}{a b:List UInt8}{t:T}(h:strE op a b=some t)(xT:TypeId):
  ∃v,(binOp op xT (.string ⟨a.toArray⟩) (.string ⟨b.toArray⟩)).run P w=.ok v w/\TR ι.un w t v:=by
 have sz:∀z:List UInt8,(⟨z.toArray⟩:ByteArray).size=z.length:=λz=>by simp[ByteArray.size]
 cases op<;>simp only[strE]at h
 case add=>
  split at h
  ·rename_i hl;injection h with h;subst h;refine⟨_,?_,.str _⟩;have:=run_string_add_sum (P:=P) w ⟨a.toArray⟩ ⟨b.toArray⟩ (by rw[sz,sz];exact hl);simp only[binOp];rw[this];congr 2
  ·cases h
 case eql=>injection h with h;subst h;exact⟨_,by simp[binOp,Op.stringOp,bytes_beq],.bool _⟩
 case neq=>injection h with h;subst h;exact⟨_,by simp[binOp,Op.stringOp,bytes_beq],.bool _⟩
 all_goals cases h
theorem YO{op:BinOp}{a b:Bool}{t:T}(h:Ko op a b=some t){x y:Value}{xT:TypeId}(he:(Op.equal xT x y).run P w=.ok (a==b) w)
  (h1:binOp .eql xT x y=(do pure (.bool (<-Op.equal xT x y)))) (h2:binOp .neq xT x y=(do pure (.bool (!(<-Op.equal xT x y))))):
  ∃v,(binOp op xT x y).run P w=.ok v w/\TR ι.un w t v:=by
 cases op<;>simp only[Ko]at h<;>first
  |(cases h;done)
  |(injection h with h;subst h;exact⟨_,by rw[h1];simp[he],.bool _⟩)
  |(injection h with h;subst h;exact⟨_,by rw[h2];simp[he],.bool _⟩)
theorem equal_bool{xT:TypeId}{i:Qj}(ht:tinf P xT=some i)(hk:i.kind=.bool)(a b:Bool):(Op.equal xT (.bool a) (.bool b)).run P w=.ok (a==b) w:=by
 obtain⟨d,h1,h2,_⟩:=JD ht w;rw[hk]at h2;cases d<;>simp[kindOf]at h2;have e:∀d,(Op.equalIn (d+1) xT (.bool a) (.bool b)).run P w=.ok (a==b) w:=λd=>by simp[Op.equalIn,h1]
 exact e 9999
theorem kind_ptr{xT:TypeId}{i:Qj}(ht:tinf P xT=some i){e:TypeId}(hk:i.kind=.ptr e):P.underlying xT=some (.pointer e):=by obtain⟨d,h1,h2,h3⟩:=JD ht (default:World);rw[hk]at h2;cases d<;>simp[kindOf]at h2;subst h2;exact h3
theorem WK{xT e:TypeId}{i:Qj}(ht:tinf P xT=some i)(hk:i.kind=.ptr e)(p:Option Addr):(Op.equal xT (.pointer p) (.pointer none)).run P w=.ok p.isNone w:=by
 have h:=kind_ptr ht hk;have e':∀d,(Op.equalIn (d+1) xT (.pointer p) (.pointer none)).run P w=.ok p.isNone w:=λd=>by cases p<;>simp[Op.equalIn,AY h]
 exact e' 9999
theorem US{t:TypeId}{j:Qj}(hj:tinf P t=some j){cs:List Cell}{off:Nat}{y:AV}(h:Yf j cs off=some y){arr:Array Value}(hn:arr.size=cs.length)
  (hc:∀i (hi:i<cs.length),∃u,arr[i]? =some u/\CR ι w cs[i] u):∃z,(part t arr off).run P w=.ok z w/\VR ι w y z:=by
 unfold Yf at h;have ha:=tinf_agg hj w;have hz:=Qb hj w
 cases hagg:j.isAgg with
 |true=>
  rw[hagg]at ha h;simp only[Ag]at h;split at h
  ·rename_i hle;injection h with h;subst h;refine⟨_,by simp[part,ha,hz];rfl,_,rfl,by simp;omega,λi hi=> ?_⟩;have hi':i<j.size:=(by simp at hi;omega);obtain⟨u,h1,h2⟩:=hc (off+i) (by omega);refine⟨u,?_,by simpa using h2⟩;rw[<-h1];simp[Array.getElem?_extract,hi'];intro hge;omega
  ·cases h
 |false=>
  rw[hagg]at ha h;simp only[AM,Af]at h;split at h
  ·rename_i c hco;injection h with h;subst h;have hlt:off<cs.length:=(AE.1 hco).1;obtain⟨u,h1,h2⟩:=hc off hlt;refine⟨u,by simp[part,ha,h1],?_⟩;have e:cs[off]=c:=(by rw[A4 hlt]at hco;injection hco);rw[e]at h2;exact h2
  ·cases h
theorem Ze:∀{ks:List EK} {xs ys:List Cell} {c:Bool},XE ks xs ys=some c->xs.length=ks.length/\ys.length=ks.length
 |[],[],[],_,_=>⟨rfl,rfl⟩
 |[],[],_::_,_,h=>by cases h
 |[],_::_,_,_,h=>by cases h
 |_::_,[],_,_,h=>by cases h
 |_::_,_::_,[],_,h=>by cases h
 |k::ks,x::xs,y::ys,c,h=>by
  simp only[XE]at h;split at h
  ·rename_i a b h1 h2;obtain⟨h3,h4⟩:=Ze h2;exact⟨by simp[h3],by simp[h4]⟩
  ·cases h
theorem eqAll_app:∀{k1 k2:List EK} {xs ys:List Cell} {c:Bool},XE (k1++k2) xs ys=some c->∃a b,XE k1 (xs.take k1.length) (ys.take k1.length)=some a/\XE k2 (xs.drop k1.length) (ys.drop k1.length)=some b/\c=(a&&b)
 |[],k2,xs,ys,c,h=>⟨true,c,by simp[XE],by simpa using h,by simp⟩
 |k::k1,k2,[],ys,c,h=>by cases h
 |k::k1,k2,x::xs,[],c,h=>by cases h
 |k::k1,k2,x::xs,y::ys,c,h=>by
  simp only[List.cons_append,XE]at h;split at h
  ·rename_i a b h1 h2;injection h with h;obtain⟨a',b',h3,h4,h5⟩:=eqAll_app h2;refine⟨a&&a',b',?_,by simpa using h4,by rw[<-h,h5,Bool.and_assoc]⟩;simp only[As,List.take_succ_cons,XE,h1,h3]
  ·cases h
def eqAV(ks:List EK):AV->AV->Option Bool
 |.c a,.c b=>XE ks [a] [b]
 |.agg as,.agg bs=>XE ks as bs
 |_,_=>none
def okAV(P:Program)(t:TypeId):AV->Prop
 |.c _=>∃i,tinf P t=some i/\i.isAgg=false
 |.agg xs=>∃i,tinf P t=some i/\i.isAgg=true/\xs.length=i.size
 |.tup _=>False
def ekU(P:Program)(t:TypeId):EK->Prop
 |.bool=>P.underlying t=some .bool
 |.int=>∃k',P.underlying t=some (.int k')
 |.str=>P.underlying t=some .string
theorem cellEq_run{ι:Map}{w:World}{P:Program}{t:TypeId}{k:EK}{a b:Cell}{c:Bool}(h:YM k a b=some c){u v:Value}(hx:CR ι w a u)(hy:CR ι w b v)(D:Nat)(hu:ekU P t k):
  (Op.equalIn (D+1) t u v).run P w=.ok c w:=by
 have none_of:∀{k a b},YM k a b=none->YM k a b=some c->False:=λe e'=>by rw[e]at e';cases e'
 cases k with
 |bool=>
  cases a with
  |t a=>
   cases a with
   |bool a=>
    cases b with
    |t b=>
     cases b with
     |bool b=>have h:some (a==b)=some c:=h;injection h with h;obtain rfl:=Xl hx;obtain rfl:=Xl hy;have hu:P.underlying t=some .bool:=hu;rw[<-h];simp[Op.equalIn,AY hu]
     |_=>exact(none_of rfl h).elim
    |_=>exact(none_of rfl h).elim
   |_=>exact(none_of rfl h).elim
  |_=>exact(none_of rfl h).elim
 |int=>
  cases a with
  |t a=>
   cases a with
   |int k a=>
    cases b with
    |t b=>
     cases b with
     |int k' b=>
      by_cases hk:k=k'
      ·subst hk;have h2:some (a==b)=some c:=(by simpa [YM] using h);injection h2 with h2;obtain rfl:=Xa hx;obtain rfl:=Xa hy;obtain⟨k',hu⟩:=(show∃k',P.underlying t=some (.int k') from hu);rw[<-h2];simp[Op.equalIn,AY hu]
      ·exact(none_of (by simp[YM,hk]) h).elim
     |_=>exact(none_of rfl h).elim
    |_=>exact(none_of rfl h).elim
   |_=>exact(none_of rfl h).elim
  |_=>exact(none_of rfl h).elim
 |str=>
  cases a with
  |t a=>
   cases a with
   |str a=>
    cases b with
    |t b=>
     cases b with
     |str b=>have h:some (a==b)=some c:=h;injection h with h;obtain rfl:=Xq hx;obtain rfl:=Xq hy;have hu:P.underlying t=some .string:=hu;rw[<-h,run_equalIn_string w D t _ _ hu,bytes_beq]
     |_=>exact(none_of rfl h).elim
    |_=>exact(none_of rfl h).elim
   |_=>exact(none_of rfl h).elim
  |_=>exact(none_of rfl h).elim
theorem eqKs_one{P:Program}{d:Nat}{t:TypeId}{k:EK}(h:eqKs P (d+1) t=some [k]){x:AV}(hx:okAV P t x)(hs:∀fs,P.underlying t≠some (.struct fs)):∃c,x=.c c:=by
 cases x with
 |c c=>exact⟨c,rfl⟩
 |tup _=>exact hx.elim
 |agg xs=>obtain⟨i,h1,h2,_⟩:=hx;obtain⟨d',h3,h4,h5⟩:=JD h1 (default:World);simp only[Qj.isAgg,h4]at h2;simp only[eqKs,h5]at h;cases d'<;>simp[kindOf]at h2 h;exact absurd h5 (hs _)
theorem KC{ι:Map}{w:World}{P:Program}:∀(d:Nat) (t:TypeId) (ks:List EK),eqKs P d t=some ks->∀D,d<=D->∀(x y:AV) (c:Bool) (u v:Value),eqAV ks x y=some c->okAV P t x->okAV P t y->VR ι w x u->VR ι w y v->(Op.equalIn D t u v).run P w=.ok c w
 |0,t,ks,h,_,_,_,_,_,_,_,_,_,_,_,_=>by cases h
 |d+1,t,ks,h,D,hD,x,y,c,u,v,he,hx,hy,hu,hv=>by
  obtain⟨D,rfl⟩:∃D',D=D'+1:=⟨D - 1,by omega⟩;have scal:∀k,ks=[k]->(∀fs,P.underlying t≠some (.struct fs))->ekU P t k->(Op.equalIn (D+1) t u v).run P w=.ok c w:=λk hk hs hun=>by
   subst hk;obtain⟨a,rfl⟩:=eqKs_one h hx hs;obtain⟨b,rfl⟩:=eqKs_one h hy hs;simp only[eqAV,XE]at he;split at he
   ·rename_i x1 y1 h1 h2;injection h2 with h2;subst h2;injection he with he;rw[Bool.and_true]at he;subst he;exact cellEq_run h1 hu hv D hun
   ·cases he
  simp only[eqKs]at h;split at h
  ·rename_i hun _;injection h with h;exact scal _ h.symm (λfs e=>by rw[hun]at e;cases e) hun
  ·rename_i k _ hun _;injection h with h;exact scal _ h.symm (λfs e=>by rw[hun]at e;cases e) ⟨k,hun⟩
  ·rename_i hun _;injection h with h;exact scal _ h.symm (λfs e=>by rw[hun]at e;cases e) hun
  ·rename_i fs i hun hi;split at h
   ·cases h
   ·rename_i hst;split at h
    ·rename_i ks' hfs;split at h
     ·rename_i hlen;injection h with h;subst h;have hst:P.stoodInHeld t=false:=by simpa using hst
      -- both are many cells
      have agg:∀z,okAV P t z->∃zs,z=.agg zs:=λz hz=>by
       cases z with
       |agg zs=>exact⟨zs,rfl⟩
       |tup _=>exact hz.elim
       |c z=>obtain⟨j,h1,h2⟩:=hz;obtain⟨d',h3,h4,h5⟩:=JD h1 (default:World);rw[hun]at h5;injection h5 with h5;subst h5;simp[Qj.isAgg,h4,kindOf]at h2
      obtain⟨xs,rfl⟩:=agg x hx;obtain⟨ys,rfl⟩:=agg y hy;obtain⟨X,rfl,hX1,hX2⟩:=hu;obtain⟨Y,rfl,hY1,hY2⟩:=hv;have hff:P.fieldsOf t=fs:=(by simp[Program.fieldsOf,hun]);rw[run_equalIn_struct w D t X Y (by rw[hff];exact hun) hst,hff];have he:XE ks' xs ys=some c:=he;obtain⟨l1,l2⟩:=Ze he;have key:∀(fl:List Field) (acc:List EK) (rest:List EK),eqFs (eqKs P d) fl acc=some (acc++rest)->∀c,XE rest (xs.drop acc.length) (ys.drop acc.length)=some c->acc.length+rest.length=ks'.length->(Op.eqFields D X Y fl).run P w=.ok c w:=by
       intro fl
       induction fl with
       |nil=>intro acc rest h1 c h2 h3;simp only[eqFs,X3]at h1;have:rest=[]:=(by have:=congrArg List.length h1;simp at this;exact this);subst this;have:xs.drop acc.length=[]:=Bw.2 (by simp at h3;omega);rw[this]at h2;have:ys.drop acc.length=[]:=Bw.2 (by simp at h3;omega);rw[this]at h2;simp only[XE,X3]at h2;subst h2;rfl
       |cons f fl ih=>
        intro acc rest h1 c h2 h3;simp only[eqFs]at h1;split at h1
        ·rename_i hf;split at h1
         ·rename_i l hl;obtain⟨rest',hr⟩:∃rest',rest=l++rest':=(by have:=eqFs_pre fl h1;obtain⟨r,hr⟩:=this;rw[Ac]at hr;exact⟨r,List.append_cancel_left hr⟩);subst hr;rw[<-Ac]at h1;obtain⟨a,b,h4,h5,rfl⟩:=eqAll_app h2;rw[C3]at h5;rw[C3]at h5;obtain⟨j,hj,hjs⟩:=eqKs_tinf hl;have hoff:f.offset=acc.length:=hf.2;have hx4:=(Ze h4).1;have hy4:=(Ze h4).2;have hin:acc.length+l.length<=ks'.length:=(by simp only[AL]at h3;omega);have fld:∀(zs:List Cell) (Z:Array Value),zs.length=ks'.length->Z.size=zs.length->(∀i (hi:i<zs.length),∃u,Z[i]? =some u/\CR ι w zs[i] u)->∃z u,okAV P f.type z/\(part f.type Z f.offset).run P w=.ok u w/\VR ι w z u/\(match z with|.c q=>(zs.drop acc.length).take l.length=[q]|.agg q=>(zs.drop acc.length).take l.length=q|.tup _=>False):=λzs Z hz hZ hc=>by
           have hpart:∃z,Yf j zs f.offset=some z/\okAV P f.type z/\(match z with|.c q=>(zs.drop acc.length).take l.length=[q]|.agg q=>(zs.drop acc.length).take l.length=q|.tup _=>False):=by
            unfold Yf;rw[hoff]
            cases hag:j.isAgg with
            |true=>rw[hag]at hjs;simp only[Ag]at hjs⊢;rw[AF (by omega),hjs];exact⟨_,rfl,⟨j,hj,hag,by rw[Ar,CK,hjs];omega⟩,rfl⟩
            |false=>rw[hag]at hjs;simp only[AM,Af]at hjs⊢;have hlt:acc.length<zs.length:=(by omega);rw[A4 hlt];refine⟨_,rfl,⟨j,hj,hag⟩,?_⟩;simp only;rw[hjs,List.drop_eq_getElem_cons hlt];rfl
           obtain⟨z,h6,h7,h8⟩:=hpart;obtain⟨u,h9,h10⟩:=US hj h6 hZ hc;exact⟨z,u,h7,h9,h10,h8⟩
          obtain⟨z1,u1,p1,p2,p3,p4⟩:=fld xs X l1 hX1 hX2;obtain⟨z2,u2,q1,q2,q3,q4⟩:=fld ys Y l2 hY1 hY2;have heq:eqAV l z1 z2=some a:=by
           cases z1 with
           |c z1=>cases z2 with
            |c z2=>rw[p4,q4]at h4;exact h4
            |agg z2=>obtain⟨j1,e1,e2⟩:=p1;obtain⟨j2,e3,e4,_⟩:=q1;rw[e1]at e3;injection e3 with e3;subst e3;rw[e2]at e4;cases e4
            |tup _=>exact q1.elim
           |agg z1=>cases z2 with
            |agg z2=>rw[p4,q4]at h4;exact h4
            |c z2=>obtain⟨j1,e1,e2⟩:=q1;obtain⟨j2,e3,e4,_⟩:=p1;rw[e1]at e3;injection e3 with e3;subst e3;rw[e2]at e4;cases e4
            |tup _=>exact q1.elim
           |tup _=>exact p1.elim
          have hrec:=KC d f.type l hl D (by omega) z1 z2 a u1 u2 heq p1 q1 p3 q3;simp only[Op.eqFields,AF hf.1,AQ,p2,q2,hrec,AR];have ih':=ih (acc++l) rest' h1 b (by rw[AL];exact h5) (by simp only[AL]at h3⊢;omega)
          cases a with
          |true=>simp only[Bool.not_true,AM,Af,Bool.true_and];exact ih'
          |false=>simp
         ·cases h1
        ·cases h1
      exact key fs.toList [] ks' (by simpa using hfs) c (by simpa using he) (by simp)
     ·cases h
    ·cases h
  ·cases h
where
 eqFs_pre {rec:TypeId->Option (List EK)}:∀(fl:List Field) {acc out:List EK},eqFs rec fl acc=some out->∃r,out=acc++r
  |[],acc,out,h=>by simp only[eqFs,X3]at h;exact⟨[],by simp[h]⟩
  |f::fl,acc,out,h=>by
   simp only[eqFs]at h;split at h
   ·split at h
    ·rename_i l _;obtain⟨r,hr⟩:=eqFs_pre fl h;exact⟨l++r,by rw[hr,Ac]⟩
    ·cases h
   ·cases h
 eqKs_tinf {d:Nat} {t:TypeId} {ks:List EK} (h:eqKs P d t=some ks):∃j,tinf P t=some j/\(if j.isAgg then j.size=ks.length else ks.length=1):=by
  cases d with
  |zero=>cases h
  |succ d=>
   simp only[eqKs]at h;split at h
   ·rename_i hu hi;injection h with h;exact⟨_,by unfold tinf;rw[hu,hi],by simp[Qj.isAgg,kindOf,<-h]⟩
   ·rename_i hu hi;injection h with h;exact⟨_,by unfold tinf;rw[hu,hi],by simp[Qj.isAgg,kindOf,<-h]⟩
   ·rename_i hu hi;injection h with h;exact⟨_,by unfold tinf;rw[hu,hi],by simp[Qj.isAgg,kindOf,<-h]⟩
   ·rename_i hu hi;split at h
    ·cases h
    ·split at h
     ·split at h
      ·rename_i hl;injection h with h;exact⟨_,by unfold tinf;rw[hu,hi],by simp[Qj.isAgg,kindOf,<-h,hl]⟩
      ·cases h
     ·cases h
   ·cases h
theorem binE_ok{op:BinOp}{xT:TypeId}{x y:AV}{t:T}(h:binE P op xT x y=some t){u v:Value}(hx:VR ι w x u)(hy:VR ι w y v)(xo yo:Operand):
  ∃z,(do eqGuard op xT xo yo u v;binOp op xT u v).run P w=.ok z w/\TR ι.un w t z:=by
 unfold binE at h;split at h
 ·rename_i k a k' b;obtain rfl:=Xa hx;obtain rfl:=Xa hy;have hg:(eqGuard op xT xo yo (.int k a) (.int k' b)).run P w=.ok () w:=(by unfold eqGuard;cases op<;>simp);simp only[AQ,hg,AR]
  cases hs:KW op with
  |true=>rw[hs]at h;exact shiftE_ok h xT
  |false=>
   rw[hs]at h;simp only[AM,Af]at h;split at h
   ·rename_i hk;subst hk;exact intE_ok h hs xT
   ·cases h
 ·rename_i a b;obtain rfl:=Xq hx;obtain rfl:=Xq hy;have hg:(eqGuard op xT xo yo (.string ⟨a.toArray⟩) (.string ⟨b.toArray⟩)).run P w=.ok () w:=(by unfold eqGuard;cases op<;>simp);simp only[AQ,hg,AR];exact strE_ok h xT
 ·rename_i a b;obtain rfl:=Xl hx;obtain rfl:=Xl hy;have hg:(eqGuard op xT xo yo (.bool a) (.bool b)).run P w=.ok () w:=(by unfold eqGuard;cases op<;>simp);simp only[AQ,hg,AR];split at h
  ·rename_i i hi;split at h
   ·rename_i hk;exact YO h (equal_bool hi hk a b) rfl rfl
   ·cases h
  ·cases h
 ·obtain rfl:=Ww hy;obtain⟨p,rfl,s,_,_,hok⟩:=hx;have hg:∀p',(eqGuard op xT xo yo (.pointer p') (.pointer none)).run P w=.ok () w:=λp'=>(by unfold eqGuard;cases op<;>simp);simp only[AQ,hg,AR];rename_i r;split at h
  ·rename_i i hi;split at h
   ·rename_i e hk;exact YO h (WK hi hk _) rfl rfl
   ·cases h
  ·cases h
 ·rename_i cs;obtain rfl:=Ww hy;obtain⟨b,off,rfl,_⟩:=KX hx;have hg:∀p',(eqGuard op xT xo yo (.pointer p') (.pointer none)).run P w=.ok () w:=λp'=>(by unfold eqGuard;cases op<;>simp);simp only[AQ,hg,AR];split at h
  ·rename_i i hi;split at h
   ·rename_i e hk;exact YO h (WK hi hk _) rfl rfl
   ·cases h
  ·cases h
 ·obtain rfl:=Ww hx;obtain rfl:=Ww hy;have hg:∀p',(eqGuard op xT xo yo (.pointer p') (.pointer none)).run P w=.ok () w:=λp'=>(by unfold eqGuard;cases op<;>simp);simp only[AQ,hg,AR];split at h
  ·rename_i i hi;split at h
   ·rename_i e hk;exact YO h (WK hi hk _) rfl rfl
   ·cases h
  ·cases h
 ·rename_i xs ys;split at h
  ·rename_i i hi;split at h
   ·rename_i ks hks;split at h
    ·rename_i c hc;obtain⟨d,inf,h1,h2,h3,h4,h5,h6,h7⟩:=YQ hi;rw[hks]at h7
     cases d with
     |struct fs=>
      simp only[eqTop]at h7;split at h7
      ·cases h7
      ·rename_i hgt;have hgt:P.eqGuardType P.depth xT=false:=(by simpa using hgt);obtain⟨X,rfl,hX⟩:=hx;obtain⟨Y,rfl,hY⟩:=hy;have hg:(eqGuard op xT xo yo (.agg X) (.agg Y)).run P w=.ok () w:=(by unfold eqGuard;cases op<;>simp[hgt]);simp only[AQ,hg,AR];have hag:i.isAgg=true:=(by simp[Qj.isAgg,h3,kindOf]);obtain⟨l1,l2⟩:=Ze hc;obtain⟨j,e1,e2⟩:=KC.eqKs_tinf (P:=P) h7.symm;rw[hi]at e1;injection e1 with e1;subst e1;rw[AF hag]at e2;have he:(Op.equal xT (.agg X) (.agg Y)).run P w=.ok (c==true) w:=(by have:=KC (ι:=ι) (w:=w) 6 xT ks h7.symm 10000 (by decide) (.agg xs) (.agg ys) c (.agg X) (.agg Y) hc ⟨i,hi,hag,by omega⟩ ⟨i,hi,hag,by omega⟩ ⟨X,rfl,hX⟩ ⟨Y,rfl,hY⟩;rw[show(c==true)=c by cases c<;>rfl];exact this);exact YO h he rfl rfl
     |_=>simp[eqTop]at h7
    ·cases h
   ·cases h
  ·cases h
 ·cases h
end
end Go.Abs
namespace Go.Abs
variable [Gl]
section
variable {P:Program}{ι:Map}{J:Q1}{w:World}
theorem unE_ok{op:UnOp}{x:AV}{t:T}(h:unE op x=some t){u:Value}(hx:VR ι w x u):∃z,(Op.unary op u).run P w=.ok z w/\TR ι.un w t z:=by
 unfold unE at h;split at h
 ·rename_i b;obtain rfl:=Xl hx;injection h with h;subst h;exact⟨_,by simp[Op.unary],.bool _⟩
 ·rename_i k n;obtain rfl:=Xa hx;injection h with h;subst h;exact⟨_,by simp[Op.unary,Op.intArith],.int _ _⟩
 ·rename_i k n;obtain rfl:=Xa hx;simp only[intE]at h;injection h with h;subst h;exact⟨_,by simp only[Op.unary];rfl,.int _ _⟩
 ·cases h
theorem kind_int{xT:TypeId}{i:Qj}(ht:tinf P xT=some i){k:IntKind}(hk:i.kind=.int k):P.underlying xT=some (.int k):=by obtain⟨d,h1,h2,h3⟩:=JD ht (default:World);rw[hk]at h2;cases d<;>simp[kindOf]at h2;subst h2;exact h3
theorem Jx{xT:TypeId}{i:Qj}(ht:tinf P xT=some i)(hk:i.kind=.string):P.underlying xT=some .string:=by obtain⟨d,h1,h2,h3⟩:=JD ht (default:World);rw[hk]at h2;cases d<;>simp[kindOf]at h2;exact h3
theorem Qq{xT:TypeId}{i:Qj}(ht:tinf P xT=some i){e:TypeId}(hk:i.kind=.slice e):P.underlying xT=some (.slice e):=by obtain⟨d,h1,h2,h3⟩:=JD ht (default:World);rw[hk]at h2;cases d<;>simp[kindOf]at h2;subst h2;exact h3
theorem Zo{xT:TypeId}{i:Qj}(ht:tinf P xT=some i){n:Nat}{e:TypeId}(hk:i.kind=.array n e):P.underlying xT=some (.array n e):=by obtain⟨d,h1,h2,h3⟩:=JD ht (default:World);rw[hk]at h2;cases d<;>simp[kindOf]at h2;obtain⟨rfl,rfl⟩:=h2;exact h3
theorem YE{xT:TypeId}{i:Qj}(ht:tinf P xT=some i){fs:List (Nat×TypeId)}(hk:i.kind=.struct fs):
  ∃gs:Array Field,P.underlying xT=some (.struct gs)/\fs=gs.toList.map λf=>(f.offset,f.type):=by
 obtain⟨d,h1,h2,h3⟩:=JD ht (default:World);rw[hk]at h2;cases d<;>simp[kindOf]at h2;exact⟨_,h3,h2⟩
theorem convE_ok{src dst:TypeId}{x:AV}{t:T}(h:Uw P src dst x=some t){u:Value}(hx:VR ι w x u):∃z,(convert src dst u).run P w=.ok z w/\TR ι.un w t z:=by
 unfold Uw at h;split at h
 ·rename_i i j k n hi hj;obtain rfl:=Xa hx;split at h
  ·rename_i k' hk;injection h with h;subst h;obtain⟨d,h1,_,h3⟩:=JD hi w;refine⟨_,?_,.int _ _⟩;simp[convert,AY (kind_int hj hk),h1,Conv.intToInt]
  ·rename_i hk;injection h with h;subst h;obtain⟨d,h1,_,h3⟩:=JD hi w;refine⟨_,?_,.str _⟩;simp[convert,AY (Jx hj hk),h1,Conv.intToString,utf]
  ·cases h
 ·rename_i i j s hi hj;obtain rfl:=Xq hx;split at h
  ·rename_i hk;injection h with h;subst h;obtain⟨d,h1,_,h3⟩:=JD hi w;refine⟨_,?_,.str _⟩;simp only[convert,AQ,AY (Jx hj hk),h1,AR];rfl
  ·cases h
 ·cases h
theorem YH{x:AV}{n:Int}(h:ZF x=some n){u:Value}(hx:VR ι w x u):∃k,u=.int k n:=by
 unfold ZF at h;split at h
 ·injection h with h;subst h;exact⟨_,Xa hx⟩
 ·cases h
theorem ptr_move{r:Ref}{v:Value}(h:VR ι w (.c (.ptr r)) v):∃a:Addr,v=.pointer (some a)/\∀n,VR ι w (.c (.ptr { r with off:=r.off+n })) (.pointer (some (a.add n))):=by obtain⟨a,rfl,s,h1,h2,h3⟩:=h;refine⟨a,rfl,λn=>⟨_,rfl,s,h1,h2,λhe=> ?_⟩⟩;obtain⟨l,hl,e⟩:=h3 he;injection e with e;refine⟨l,hl,?_⟩;rw[e,ZS,CI]
theorem W8{cs:List T}{v:Value}(h:VR ι w (.c (.t (.iptr cs))) v):∃a:Addr,v=.pointer (some a)/\∀n,VR ι w (.c (.t (.iptr (cs.drop n)))) (.pointer (some (a.add n))):=by
 cases h with
 |iptr cs b off f h1 h2 h3 h4=>
  refine⟨_,rfl,λn=> ?_⟩;rw[ZS];refine TR.iptr _ _ _ (λi=>f (n+i)) h1 h2 (λi hi=> ?_) (λi hi=> ?_)
  ·rw[CI];exact h3 (n+i) (by simp at hi;omega)
  ·have:=h4 (n+i) (by simp at hi;omega);simpa using this
theorem fieldAddrE_ok{t:TypeId}{x y:AV}{f:Nat}(h:Z2 P t x f=some y){u:Value}(hx:VR ι w x u):
  ∃z,(Instr.fieldAt t u f).run P w=.ok z w/\VR ι w y z:=by
 unfold Z2 at h;split at h
 ·rename_i i hi;split at h
  ·rename_i fs hk;obtain⟨gs,hu,rfl⟩:=YE hi hk;split at h
   ·rename_i off ft hf;simp only[BK,WF,A0]at hf;obtain⟨g,hg,rfl,rfl⟩:=hf;have hg':gs[f]? =some g:=(by simpa using hg);split at h
    ·rename_i j hj;split at h
     ·rename_i hpos;have hz:=Qb hj w;have hne:¬j.size=0:=(by omega);split at h
      ·rename_i r;injection h with h;subst h;obtain⟨a,rfl,hm⟩:=ptr_move hx;exact⟨_,by simp[Instr.fieldAt,AY hu,hg',Instr.sureAddr,fieldPlace,hz,hne],hm _⟩
      ·rename_i cs;injection h with h;subst h;obtain⟨a,rfl,hm⟩:=W8 hx;exact⟨_,by simp[Instr.fieldAt,AY hu,hg',Instr.sureAddr,fieldPlace,hz,hne],hm _⟩
      ·cases h
     ·cases h
    ·cases h
   ·cases h
  ·cases h
 ·cases h
theorem fieldE_ok{t:TypeId}{x y:AV}{f:Nat}(h:Uq P t x f=some y){u:Value}(hx:VR ι w x u):
  ∃z,(Instr.field t u f).run P w=.ok z w/\VR ι w y z:=by
 unfold Uq at h;split at h
 ·rename_i i hi;split at h
  ·rename_i fs cs hk;obtain⟨gs,hu,rfl⟩:=YE hi hk;obtain⟨arr,rfl,hn,hc⟩:=hx;split at h
   ·rename_i off ft hf;simp only[BK,WF,A0]at hf;obtain⟨g,hg,rfl,rfl⟩:=hf;have hg':gs[f]? =some g:=(by simpa using hg);split at h
    ·rename_i j hj;obtain⟨z,h1,h2⟩:=US hj h hn hc;exact⟨z,by simp[Instr.field,AY hu,hg',asAgg,h1],h2⟩
    ·cases h
   ·cases h
  ·cases h
 ·cases h
theorem Zs{cs:List T}{len:Nat}{cap:Option Nat}{v:Value}(h:VR ι w (.c (.t (.imm cs len cap))) v):∃a c,v=.slice a len c/\YN cap c/\len<=c:=by
 cases h with
 |imm0 cap a c hc=>exact⟨a,c,rfl,hc,B0 _⟩
 |imm cs len cap b off c f _ _ hc hle _ _=>exact⟨_,c,rfl,hc,hle⟩
theorem indexAddrE_ok(hh:HR ι J w){t:TypeId}{x i y:AV}(h:Z0 P t x i=some y){u v:Value}(hx:VR ι w x u)(hi:VR ι w i v):
  ∃z,(Instr.indexAt t u v).run P w=.ok z w/\VR ι w y z:=by
 unfold Z0 at h;split at h
 ·rename_i inf n hinf hn;obtain⟨k,rfl⟩:=YH hn hi;split at h
  ·rename_i e hk;have hu:=Qq hinf hk;split at h
   ·rename_i j hj;have hz:=Qb hj w;split at h
    ·rename_i r len cap;split at h
     ·rename_i hb;injection h with h;subst h;obtain⟨a,c,rfl,h0,s,h1,h2,h3⟩:=hx
      cases a with
      |none=>
       rcases h0 with h0|h0
       ·omega
       ·simp at h0
      |some a=>
       refine⟨.pointer (some (a.add (n.toNat*j.size))),by simp[Instr.indexAt,asIntOf,AY hu,hb,hz],_,rfl,s,h1,h2,λhe=> ?_⟩;obtain⟨h4,h5,h6⟩:=h3 he
       cases hl:s.loc with
       |none=>rw[hl]at h6;omega
       |some l=>rw[hl]at h6;obtain⟨h7,_⟩:=h6;injection h7 with h7;exact⟨l,hl,by rw[h7,ZS,CI]⟩
     ·cases h
    ·rename_i cs len cap;split at h
     ·rename_i hb;injection h with h;subst h
      cases hx with
      |imm0 cap a c hc=>omega
      |imm cs len cap b off c f h1 h2 hc hle h3 h4=>refine⟨.pointer (some ((⟨b,off,none⟩:Addr).add (n.toNat*j.size))),by simp[Instr.indexAt,asIntOf,AY hu,hb,hz],?_⟩;obtain⟨a,ha,hm⟩:=W8 (ι:=ι) (w:=w) (cs:=cs) (TR.iptr cs b off f h1 h2 h3 h4);injection ha with ha;injection ha with ha;subst ha;exact hm _
     ·cases h
    ·cases h
   ·cases h
  ·rename_i len e hk;have hu:=Zo hinf hk;split at h
   ·rename_i j hj;have hz:=Qb hj w;split at h
    ·rename_i r;split at h
     ·rename_i hb;injection h with h;subst h;obtain⟨a,rfl,hm⟩:=ptr_move hx;exact⟨_,by simp[Instr.indexAt,asIntOf,AY hu,Instr.sureAddr,hb,hz],hm _⟩
     ·cases h
    ·rename_i cs;split at h
     ·rename_i hb;injection h with h;subst h;obtain⟨a,rfl,hm⟩:=W8 hx;exact⟨_,by simp[Instr.indexAt,asIntOf,AY hu,Instr.sureAddr,hb,hz],hm _⟩
     ·cases h
    ·cases h
   ·cases h
  ·cases h
 ·cases h
end
end Go.Abs
namespace Go.Abs
variable [Gl]
section
variable {P:Program}{ι:Map}{J:Q1}{w:World}
theorem byteArray_get?(l:List UInt8)(n:Nat):(⟨l.toArray⟩:ByteArray)[n]? =l[n]? :=by
 by_cases h:n<l.length
 ·have h2:n<(⟨l.toArray⟩:ByteArray).size:=(by simpa [ByteArray.size] using h);rw[getElem?_pos (⟨l.toArray⟩:ByteArray) n h2,A4 h];rfl
 ·have h2:¬n<(⟨l.toArray⟩:ByteArray).size:=(by simpa [ByteArray.size] using h);rw[getElem?_neg (⟨l.toArray⟩:ByteArray) n h2,Ab (by omega)]
theorem indexE_ok{t:TypeId}{x i y:AV}(h:Zr P t x i=some y){u v:Value}(hx:VR ι w x u)(hi:VR ι w i v):
  ∃z,(Instr.index t u v).run P w=.ok z w/\VR ι w y z:=by
 unfold Zr at h;split at h
 ·rename_i inf n hinf hn;obtain⟨k,rfl⟩:=YH hn hi;split at h
  ·rename_i len e cs hk;have hu:=Zo hinf hk;obtain⟨arr,rfl,hs,hc⟩:=hx;split at h
   ·rename_i j hj;have hz:=Qb hj w;split at h
    ·rename_i hb;obtain⟨z,h1,h2⟩:=US hj h hs hc;exact⟨z,by simp[Instr.index,asIntOf,AY hu,hb,hz,h1],h2⟩
    ·cases h
   ·cases h
  ·rename_i s hk;have hu:=Jx hinf hk;obtain rfl:=Xq hx;split at h
   ·rename_i h0;split at h
    ·rename_i b hb;injection h with h;subst h;refine⟨.int .u8 b.toNat,?_,.int _ _⟩;simp[Instr.index,asIntOf,AY hu,h0,byteArray_get?,hb]
    ·cases h
   ·cases h
  ·cases h
 ·cases h
theorem extractE_ok{x y:AV}{i:Nat}(h:Zd x i=some y){u:Value}(hx:VR ι w x u):∃z,(Instr.extract u i).run P w=.ok z w/\VR ι w y z:=by
 unfold Zd at h;split at h
 ·rename_i xs;obtain⟨arr,rfl,hn,hc⟩:=hx;split at h
  ·rename_i c hco;injection h with h;subst h;have hlt:i<xs.length:=(AE.1 hco).1;obtain⟨u,h1,h2⟩:=hc i hlt;have e:xs[i]=.inl c:=(by rw[A4 hlt]at hco;injection hco);rw[e]at h2;exact⟨u,by simp[Instr.extract,h1],h2⟩
  ·rename_i c hco;injection h with h;subst h;have hlt:i<xs.length:=(AE.1 hco).1;obtain⟨u,h1,h2⟩:=hc i hlt;have e:xs[i]=.inr c:=(by rw[A4 hlt]at hco;injection hco);rw[e]at h2;exact⟨u,by simp[Instr.extract,h1],h2⟩
  ·cases h
 ·cases h
def optR(ι:Map)(w:World):Option AV->Option Value->Prop
 |none,none=>True
 |some v,some u=>VR ι w v u
 |_,_=>False
theorem evo_ok{N:Nat}{r:Q3}{a:Act}(hr:Qt N ι w r a){x:Option Operand}{v:Option AV}(h:evo r x=some v):optR ι w v (x.map a.eval):=by
 cases x with
 |none=>simp only[evo,X3]at h;subst h;trivial
 |some x=>simp only[evo,WF]at h;obtain⟨u,h1,rfl⟩:=h;exact ev_ok hr h1
theorem bound_ok{x:Option AV}{JX top n:Nat}(h:JG x JX top=some n){xo:Option Value}(hx:optR ι w x xo):
  (x=none/\xo=none/\n=JX)\/(∃k,xo=some (.int k (n:Int))/\n<=top/\x.isSome=true):=by
 unfold JG at h;split at h
 ·injection h with h;subst h
  cases xo with
  |none=>exact .inl ⟨rfl,rfl,rfl⟩
  |some u=>exact hx.elim
 ·rename_i v
  cases xo with
  |none=>exact hx.elim
  |some u=>
   split at h
   ·rename_i m hm;obtain⟨k,rfl⟩:=YH hm hx;split at h
    ·rename_i hb;injection h with h;subst h;refine .inr ⟨k,?_,by omega,rfl⟩;congr 2;omega
    ·cases h
   ·cases h
theorem JZ(k:IntKind)(n y:Nat)(code:BoundsCode)(h:n<=y):(Instr.sliceBound (.int k (n:Int)) y code).run P w=.ok n w:=by
 have:(0:Int)<=n/\(n:Int)<=y:=by omega
 simp[Instr.sliceBound,asIntOf,this]
theorem Xt{isSlice:Bool}{len cap l h m:Nat}{lo hi mx:Option Value}
  (hm:(mx=none/\m=cap)\/∃k,mx=some (.int k (m:Int))/\m<=cap) (hh:(hi=none/\mx=none/\h=len)\/∃k,hi=some (.int k (h:Int))/\h<=m)
  (hl:(lo=none/\l=0)\/∃k,lo=some (.int k (l:Int))/\l<=h):(Instr.sliceBounds isSlice len cap lo hi mx).run P w=.ok (l,h,m) w:=by
 rcases hm with ⟨rfl,rfl⟩|⟨k,rfl,hm⟩
 ·rcases hh with ⟨rfl,_,rfl⟩|⟨k2,rfl,hh⟩
  ·rcases hl with ⟨rfl,rfl⟩|⟨k3,rfl,hl⟩
   ·simp[Instr.sliceBounds]
   ·simp[Instr.sliceBounds,JZ _ _ _ _ hl]
  ·rcases hl with ⟨rfl,rfl⟩|⟨k3,rfl,hl⟩
   ·simp[Instr.sliceBounds,JZ _ _ _ _ hh]
   ·simp[Instr.sliceBounds,JZ _ _ _ _ hh,JZ _ _ _ _ hl]
 ·rcases hh with ⟨rfl,h2,rfl⟩|⟨k2,rfl,hh⟩
  ·cases h2
  ·rcases hl with ⟨rfl,rfl⟩|⟨k3,rfl,hl⟩
   ·simp[Instr.sliceBounds,JZ _ _ _ _ hm,JZ _ _ _ _ hh]
   ·simp[Instr.sliceBounds,JZ _ _ _ _ hm,JZ _ _ _ _ hh,JZ _ _ _ _ hl]
theorem Ym(s:List UInt8)(l h:Nat):(⟨s.toArray⟩:ByteArray).extract l h=⟨((s.drop l).take (h - l)).toArray⟩:=by apply ByteArray.ext;simp[ByteArray.data_extract]
theorem X4{t e:TypeId}(hu:P.underlying t=some (.slice e)){j:Qj}(hj:tinf P e=some j)(a:Option Addr){len c l h m:Nat}{lo hi mx:Option Value}
  (hb:(Instr.sliceBounds true len c lo hi mx).run P w=.ok (l,h,m) w):
  (Instr.sliceAt t (.slice a len c) lo hi mx).run P w=.ok (.slice (if m=l then a else a.map (·.add (l*j.size))) (h - l) (m - l)) w:=by
 have hz:=Qb hj w;simp[Instr.sliceAt,Instr.slice,AY hu,hb,hz]
theorem imm_slice{cs:List T}{len:Nat}{cap:Option Nat}{v:Value}(hx:VR ι w (.c (.t (.imm cs len cap))) v){sz:Nat}(hcs:cs.length=len*sz){l h m:Nat}(hlh:l<=h)(hhl:h<=len)
  (cap':Option Nat) (hcap:YN cap' (m - l)) (hhm:h<=m) {a:Option Addr} {c:Nat} (hv:v=.slice a len c):
  VR ι w (.c (.t (.imm ((cs.drop (l*sz)).take ((h - l)*sz)) (h - l) cap'))) (.slice (if m=l then a else a.map (·.add (l*sz))) (h - l) (m - l)):=by
 by_cases he:h - l=0
 ·have:(cs.drop (l*sz)).take ((h - l)*sz)=[]:=(by rw[he];simp);rw[this,he];exact TR.imm0 _ _ _ hcap
 ·have hml:¬m=l:=(by omega);rw[AP hml];subst hv
  cases hx with
  |imm0=>omega
  |imm cs len cap b off c f h1 h2 hc hle h3 h4=>
   simp only[AD,ZS];refine TR.imm _ _ _ b (off+l*sz) (m - l) (λi=>f (l*sz+i)) h1 h2 hcap (by omega) (λi hi=> ?_) (λi hi=> ?_)
   ·have hi':l*sz+i<cs.length:=(by simp at hi;omega);rw[CI];exact h3 _ hi'
   ·have hi':l*sz+i<cs.length:=(by simp at hi;omega);have:=h4 _ hi';simpa using this
theorem UA{r:Ref}{len:Nat}{cap:Option Nat}{s:JH}(hs:ι r.id=some s)(hep:r.ep=s.ep){a:Option Addr}{c:Nat}(hok:slOk r.off len cap a c s){sz:Nat}(hsz:s.es=sz){l h m:Nat}
  (hlh:l<=h) (hhm:h<=m) (hmc:m<=c) (cap':Option Nat) (hcap:YN cap' (m - l)) (hnone:cap'=none->cap=none/\m=c/\(l<len\/l=0)) (off':Nat) (hoff:off'=if m=l then r.off else r.off+l*sz):
  VR ι w (.c (.sl { r with off:=off' } (h - l) cap')) (.slice (if m=l then a else a.map (·.add (l*sz))) (h - l) (m - l)):=by
 obtain⟨h1,h2,h3⟩:=hok;refine⟨_,_,rfl,?_,s,hs,Nat.le_of_eq hep,λ_=>⟨by omega,hcap,?_⟩⟩
 ·cases hl:s.loc with
  |none=>rw[hl]at h3;left;omega
  |some lc=>rw[hl]at h3;obtain⟨rfl,_⟩:=h3;right;split<;>rfl
 ·cases hl:s.loc with
  |none=>rw[hl]at h3;obtain⟨h4,h5,h6⟩:=h3;subst h5;have:m=l:=(by omega);exact⟨by omega,by omega,by rw[hoff,AF this];exact h6⟩
  |some lc=>
   rw[hl]at h3;obtain⟨rfl,h5,h6⟩:=h3;have hmul:(c - l)*sz=c*sz - l*sz:=Nat.sub_mul c l sz;have hmul2:(m - l)*sz=m*sz - l*sz:=Nat.sub_mul m l sz;have hle1:l*sz<=m*sz:=Ah _ (by omega);have hle2:m*sz<=c*sz:=Ah _ hmc;rw[hsz]at h5 h6⊢;subst hoff;refine⟨?_,?_,λhn=> ?_⟩
   ·split
    ·rfl
    ·simp[ZS,CI]
   ·split
    ·have:(m - l)*sz=0:=by rw[show m - l=0 by omega];simp
     dsimp only;omega
    ·rw[hmul2];dsimp only;omega
   ·obtain⟨hc1,hc2,hc3⟩:=hnone hn;have:=h6 hc1;subst hc2;split
    ·rename_i e;subst e;rcases hc3 with hc3|hc3
     ·exact absurd hc3 (by omega)
     ·subst hc3
      dsimp only;simpa using this
    ·rw[hmul2];dsimp only;omega
theorem sliceE_ok(hh:HR ι J w){t:TypeId}{x y:AV}{lo hi mx:Option AV}(h:Y9 P J t x lo hi mx=some y){u:Value}(hx:VR ι w x u){lo' hi' mx':Option Value}
  (hlo:optR ι w lo lo') (hhi:optR ι w hi hi') (hmx:optR ι w mx mx'):∃z,(Instr.sliceAt t u lo' hi' mx').run P w=.ok z w/\VR ι w y z:=by
 unfold Y9 at h;split at h
 ·rename_i inf hinf;split at h
  ·
   rename_i s hk;have hu:=Jx hinf hk;obtain rfl:=Xq hx;split at h
   ·rename_i h' hb;split at h
    ·rename_i l hl;injection h with h;subst h
     cases mx' with
     |some _=>exact hmx.elim
     |none=>
      have hsz:(⟨s.toArray⟩:ByteArray).size=s.length:=(by simp[ByteArray.size]);have hbs:(Instr.sliceBounds false s.length s.length lo' hi' none).run P w=.ok (l,h',s.length) w:=by
       refine Xt (.inl ⟨rfl,rfl⟩) ?_ ?_
       ·rcases bound_ok hb hhi with ⟨_,h2,h3⟩|⟨k,h2,h3,_⟩
        ·exact .inl ⟨h2,rfl,h3⟩
        ·exact .inr ⟨k,h2,h3⟩
       ·rcases bound_ok hl hlo with ⟨_,h2,h3⟩|⟨k,h2,h3,_⟩
        ·exact .inl ⟨h2,h3⟩
        ·exact .inr ⟨k,h2,h3⟩
      refine⟨.string ((⟨s.toArray⟩:ByteArray).extract l h'),?_,?_⟩
      ·simp[Instr.sliceAt,Instr.slice,AY hu,hsz,hbs]
      ·rw[Ym];exact TR.str _
    ·cases h
   ·cases h
  ·
   rename_i e r len cap hk;have hu:=Qq hinf hk;split at h
   ·rename_i j o hj ho;split at h
    ·rename_i hes;obtain⟨a,c,rfl,hsome,hr⟩:=hx;obtain⟨s,hs,_,hep,hor,hok⟩:=hh.ref ho hr;have hes':s.es=j.size:=(by rw[<-hor.1];exact hes);have hep':r.ep=s.ep:=(by rw[<-hor.2.1];exact hep.symm);have hroom:cap.getD len<=c:=by
      obtain⟨h1,h2,_⟩:=hok
      cases cap with
      |none=>exact h1
      |some k=>simp only[YN]at h2;subst h2;exact A6 _
     split at h
     ·
      rename_i mv hv;split at h
      ·rename_i m hm;split at h
       ·rename_i h' hh';split at h
        ·rename_i l hl;injection h with h;subst h;rcases bound_ok hm hmx with ⟨h2,_⟩|⟨km,hm2,hm3,_⟩
         ·cases h2
         rcases bound_ok hh' hhi with ⟨h2,_⟩|⟨kh,hh2,hh3,_⟩
         ·cases h2
         have hlb:(lo'=none/\l=0)\/∃k,lo'=some (.int k (l:Int))/\l<=h':=by
          rcases bound_ok hl hlo with ⟨_,h2,h3⟩|⟨k,h2,h3,_⟩
          ·exact .inl ⟨h2,h3⟩
          ·exact .inr ⟨k,h2,h3⟩
         have hlh:l<=h':=by rcases hlb with ⟨_,e⟩|⟨_,_,e⟩<;>omega
         have hb:=Xt (P:=P) (w:=w) (isSlice:=true) (len:=len) (cap:=c) (m:=m) (h:=h') (l:=l) (.inr ⟨km,hm2,BN hm3 hroom⟩) (.inr ⟨kh,hh2,hh3⟩) hlb;exact⟨_,X4 hu hj a hb,UA hs hep' hok hes' hlh hh3 (BN hm3 hroom) (some (m - l)) rfl (λe=>by cases e) _ rfl⟩
        ·cases h
       ·cases h
      ·cases h
     ·cases h
     ·
      have hmx':mx'=none:=by
       cases mx' with
       |none=>rfl
       |some _=>exact hmx.elim
      split at h
      ·rename_i h' hh';split at h
       ·rename_i l hl;have hlb:(lo'=none/\l=0)\/∃k,lo'=some (.int k (l:Int))/\l<=h':=by
         rcases bound_ok hl hlo with ⟨_,h2,h3⟩|⟨k,h2,h3,_⟩
         ·exact .inl ⟨h2,h3⟩
         ·exact .inr ⟨k,h2,h3⟩
        have hlh:l<=h':=by rcases hlb with ⟨_,e⟩|⟨_,_,e⟩<;>omega
        have hhb:(hi'=none/\mx'=none/\h'=len)\/∃k,hi'=some (.int k (h':Int))/\h'<=c:=by
         rcases bound_ok hh' hhi with ⟨_,h2,h3⟩|⟨k,h2,h3,_⟩
         ·exact .inl ⟨h2,hmx',h3⟩
         ·exact .inr ⟨k,h2,BN h3 hroom⟩
        have hhc:h'<=c:=by
         rcases hhb with ⟨_,_,e⟩|⟨_,_,e⟩
         ·have:=hok.1;omega
         ·exact e
        have hb:=Xt (P:=P) (w:=w) (isSlice:=true) (len:=len) (cap:=c) (m:=c) (h:=h') (l:=l) (.inl ⟨hmx',rfl⟩) hhb hlb;split at h
        ·rename_i k;have hck:c=k:=hok.2.1;subst hck;injection h with h;subst h;exact⟨_,X4 hu hj a hb,UA hs hep' hok hes' hlh hhc (A6 _) (some (c - l)) rfl (λe=>by cases e) _ rfl⟩
        ·split at h
         ·rename_i hl0;injection h with h;subst h;refine⟨_,X4 hu hj a hb,UA hs hep' hok hes' hlh hhc (A6 _) none trivial (λ_=>⟨rfl,rfl,hl0⟩) _ ?_⟩;split
          ·have:=hok.1;have h0:l=0:=(by omega);subst h0;simp
          ·rfl
         ·cases h
       ·cases h
      ·cases h
    ·cases h
   ·cases h
  ·
   rename_i e cs len cap hk;have hu:=Qq hinf hk;split at h
   ·rename_i j hj;split at h
    ·rename_i hcs;obtain⟨a,c,rfl,hcap,hlc⟩:=Zs hx;split at h
     ·rename_i mv hv;split at h
      ·rename_i m hm;split at h
       ·rename_i h' hh';split at h
        ·rename_i l hl;injection h with h;subst h;rcases bound_ok hm hmx with ⟨h2,_⟩|⟨km,hm2,hm3,_⟩
         ·cases h2
         rcases bound_ok hh' hhi with ⟨h2,_⟩|⟨kh,hh2,hh3,_⟩
         ·cases h2
         have hlb:(lo'=none/\l=0)\/∃k,lo'=some (.int k (l:Int))/\l<=h':=by
          rcases bound_ok hl hlo with ⟨_,h2,h3⟩|⟨k,h2,h3,_⟩
          ·exact .inl ⟨h2,h3⟩
          ·exact .inr ⟨k,h2,h3⟩
         have hlh:l<=h':=by rcases hlb with ⟨_,e⟩|⟨_,_,e⟩<;>omega
         have hb:=Xt (P:=P) (w:=w) (isSlice:=true) (len:=len) (cap:=c) (m:=m) (h:=h') (l:=l) (.inr ⟨km,hm2,BN hm3 hlc⟩) (.inr ⟨kh,hh2,hh3⟩) hlb;exact⟨_,X4 hu hj a hb,imm_slice hx hcs hlh (BN hh3 hm3) (some (m - l)) rfl hh3 rfl⟩
        ·cases h
       ·cases h
      ·cases h
     ·cases h
     ·have hmx':mx'=none:=by
       cases mx' with
       |none=>rfl
       |some _=>exact hmx.elim
      split at h
      ·rename_i h' hh';split at h
       ·rename_i l hl;injection h with h;subst h;have hlb:(lo'=none/\l=0)\/∃k,lo'=some (.int k (l:Int))/\l<=h':=by
         rcases bound_ok hl hlo with ⟨_,h2,h3⟩|⟨k,h2,h3,_⟩
         ·exact .inl ⟨h2,h3⟩
         ·exact .inr ⟨k,h2,h3⟩
        have hlh:l<=h':=by rcases hlb with ⟨_,e⟩|⟨_,_,e⟩<;>omega
        have hhl:h'<=len:=by
         rcases bound_ok hh' hhi with ⟨_,_,h3⟩|⟨k,_,h3,_⟩
         ·omega
         ·exact h3
        have hhb:(hi'=none/\mx'=none/\h'=len)\/∃k,hi'=some (.int k (h':Int))/\h'<=c:=by
         rcases bound_ok hh' hhi with ⟨_,h2,h3⟩|⟨k,h2,h3,_⟩
         ·exact .inl ⟨h2,hmx',h3⟩
         ·exact .inr ⟨k,h2,BN h3 hlc⟩
        have hb:=Xt (P:=P) (w:=w) (isSlice:=true) (len:=len) (cap:=c) (m:=c) (h:=h') (l:=l) (.inl ⟨hmx',rfl⟩) hhb hlb;refine⟨_,X4 hu hj a hb,imm_slice hx hcs hlh hhl _ ?_ (BN hhl hlc) rfl⟩
        cases cap with
        |none=>trivial
        |some k=>simp only[YN]at hcap;subst hcap;rfl
       ·cases h
      ·cases h
    ·cases h
   ·cases h
  ·cases h
 ·cases h
end
end Go.Abs
namespace Go.Abs
variable [Gl]
section
variable {P:Program}{ι:Map}{J:Q1}{w:World}
def JL(ι:Map)(w:World)(cs:List Cell)(arr:Array Value):Prop:=arr.size=cs.length/\∀i (h:i<cs.length),∃u,arr[i]? =some u/\CR ι w cs[i] u
theorem V0{x:AV}{v:Value}(hf:x.flat=true)(h:VR ι w x v):JL ι w x.cells v.cells:=by
 cases x with
 |c x=>
  have h1:=CR.XP h;have e:v.cells= #[v]:=by cases v<;>first|rfl|(simp[Value.oneCell']at h1)
  rw[e];refine⟨rfl,λi hi=>⟨v,?_,?_⟩⟩
  ·have:i=0:=(by simpa [AV.cells] using hi);subst this;rfl
  ·have:i=0:=(by simpa [AV.cells] using hi);subst this;exact h
 |agg xs=>obtain⟨arr,rfl,hn,hc⟩:=h;exact⟨hn,hc⟩
 |tup xs=>cases hf
theorem foldl_set(off:Nat):∀(l:List Value) (s:Nat) (arr:Array Value),off+s+l.length<=arr.size->
  ((l.zipIdx s).foldl (λcs (p:Value×Nat)=>cs.setIfInBounds (off+p.2) p.1) arr).size=arr.size/\
  ∀k,((l.zipIdx s).foldl (λcs (p:Value×Nat)=>cs.setIfInBounds (off+p.2) p.1) arr)[k]? =
   if off+s<=k/\k<off+s+l.length then l[k - (off+s)]? else arr[k]?
 |[],s,arr,_=>⟨rfl,λk=>by simp;intro h1 h2;omega⟩
 |v::l,s,arr,hl=>by
  simp only[List.zipIdx_cons,List.foldl_cons];simp only[As]at hl;obtain⟨h1,h2⟩:=foldl_set off l (s+1) (arr.setIfInBounds (off+s) v) (by simp;omega);refine⟨by rw[h1];simp,λk=> ?_⟩;rw[h2 k];by_cases c1:off+(s+1)<=k/\k<off+(s+1)+l.length
  ·rw[AF c1,AF (by simp;omega)];have e:k - (off+s)=(k - (off+(s+1)))+1:=(by omega);rw[e,Ax]
  ·rw[AP c1];by_cases c2:k=off+s
   ·subst c2;rw[AF (by simp)];rw[Array.getElem?_setIfInBounds_self_of_lt (by omega)];simp
   ·rw[AP (by simp;omega)];rw[Array.getElem?_setIfInBounds_ne (λe=>c2 e.symm)]
theorem U5{place:Nat->Option (Nat×Nat)}:∀{ps:List (Nat×AV)} {cs cs':List Cell},Y4 place ps cs=some cs'->∀{vs:List (Nat×Value)} {arr:Array Value},JL ι w cs arr->
  (vs.length=ps.length/\∀i (h:i<ps.length),∃v,vs[i]? =some (ps[i].1,v)/\VR ι w ps[i].2 v)->∃arr',Instr.fill place arr vs=some arr'/\JL ι w cs' arr'
 |[],cs,cs',h,vs,arr,hc,hv=>by simp only[Y4,X3]at h;subst h;have:vs=[]:=BB hv.1;subst this;exact⟨arr,rfl,hc⟩
 |(n,x)::ps,cs,cs',h,vs,arr,hc,hv=>by
  obtain⟨hn,hv⟩:=hv;obtain⟨v,hv0,hx⟩:=hv 0 (by simp)
  cases vs with
  |nil=>simp at hv0
  |cons p vs=>
   simp only[BA,X3,List.getElem_cons_zero]at hv0 hx;subst hv0;simp only[Y4]at h;split at h
   ·rename_i off size hp;split at h
    ·rename_i hcond;obtain⟨hf,hl,hfit⟩:=hcond;obtain⟨hs,hcc⟩:=V0 hf hx;have hsz:v.cells.size=size:=(by rw[hs];exact hl);have hle:off+v.cells.size<=arr.size:=(by rw[hc.1];omega);obtain⟨h1,h2⟩:=foldl_set off v.cells.toList 0 arr (by simpa using hle);have harr:JL ι w (QO cs off x.cells) (v.cells.zipIdx.foldl (λcs (p:Value×Nat)=>cs.setIfInBounds (off+p.2) p.1) arr):=by
      rw[<-Array.foldl_toList,Array.toList_zipIdx];have hfit':off+x.cells.length<=cs.length:=(by omega);refine⟨by rw[h1,hc.1,Jg _ _ _ hfit'],λi hi=> ?_⟩;have hi':i<cs.length:=(by simpa [Jg _ _ _ hfit'] using hi);have hsp:=splice_getElem? cs off x.cells hfit' i;have hget:(QO cs off x.cells)[i]? =some ((QO cs off x.cells)[i]'hi):=A4 hi;rw[h2 i];by_cases c1:off<=i/\i<off+v.cells.size
      ·rw[AF (by simpa using c1)];rw[AP (by omega),AF (by omega)]at hsp;have hi2:i - off<x.cells.length:=(by omega);obtain⟨u,h8,h9⟩:=hcc (i - off) hi2;refine⟨u,by simpa using h8,?_⟩;have e:(QO cs off x.cells)[i]'hi=x.cells[i - off]:=(by rw[hget,A4 hi2]at hsp;injection hsp);rw[e];exact h9
      ·rw[AP (by simpa using c1)];have hsp':(QO cs off x.cells)[i]? =cs[i]? :=by
        rw[hsp];split
        ·rfl
        ·rw[AP (by omega)]
       obtain⟨u,h8,h9⟩:=hc.2 i hi';refine⟨u,h8,?_⟩;have e:(QO cs off x.cells)[i]'hi=cs[i]:=(by rw[hget,A4 hi']at hsp';injection hsp');rw[e];exact h9
     obtain⟨arr',h3,h4⟩:=U5 h harr ⟨by simpa using hn,λi hi=>by
      have:=hv (i+1) (by simpa using hi);simpa using this⟩
     refine⟨arr',?_,h4⟩;simp only[Instr.fill,hp];rw[AP (by simp[hsz];omega)];exact h3
    ·cases h
   ·cases h
theorem evs_ok{N:Nat}{r:Q3}{a:Act}(hr:Qt N ι w r a):∀{xs:List (Nat×Operand)} {vs:List (Nat×AV)},evs r xs=some vs->
  ((xs.map λ(i,x)=>(i,a.eval x)).length=vs.length/\∀i (h:i<vs.length),∃v,(xs.map λ(i,x)=>(i,a.eval x))[i]? =some (vs[i].1,v)/\VR ι w vs[i].2 v)
 |[],vs,h=>by simp only[evs,X3]at h;subst h;exact⟨rfl,λi hi=>absurd hi (by simp)⟩
 |(n,x)::xs,vs,h=>by
  simp only[evs]at h;split at h
  ·rename_i v vs' h1 h2;injection h with h;subst h;obtain⟨h3,h4⟩:=evs_ok hr h2;refine⟨by simpa using h3,λi hi=> ?_⟩
   cases i with
   |zero=>exact⟨a.eval x,rfl,ev_ok hr h1⟩
   |succ i=>exact h4 i (by simpa using hi)
  ·cases h
theorem YP{vs:Array Value}{ts:List T}(h:Wm vs.toList=some ts):JL ι w (ts.map .t) vs:=by obtain⟨arr,e,h1,h2⟩:=aggR_ts (ι:=ι) (w:=w) h;injection e with e;subst e;exact⟨h1,h2⟩
theorem places_ok:∀{fs:List Field} {ps:List (Nat×Nat)},Zn P (fs.map λf=>(f.offset,f.type))=some ps->
  (fs.mapM λf=>(do pure (f.offset,<-sizeOf f.type):Sem (Nat×Nat))).run P w=.ok ps w
 |[],ps,h=>by simp only[Bb,Zn,X3]at h;subst h;simp
 |f::fs,ps,h=>by
  simp only[AT,Zn]at h;split at h
  ·rename_i i ps' h1 h2;injection h with h;subst h;have:=places_ok h2;simp only[List.mapM_cons,AQ,Qb h1,AR,Au,this]
  ·cases h
theorem buildE_ok{t:TypeId}{ps:List (Nat×AV)}{y:AV}(h:V5 P t ps=some y){vs:Array (Nat×Value)}
  (hv:vs.toList.length=ps.length/\∀i (h:i<ps.length),∃v,vs.toList[i]? =some (ps[i].1,v)/\VR ι w ps[i].2 v):∃z,(Instr.build t vs).run P w=.ok z w/\VR ι w y z:=by
 unfold V5 at h;split at h
 ·rename_i i hi;split at h
  ·rename_i z fs hz hk;obtain⟨gs,hu,rfl⟩:=YE hi hk;obtain⟨zv,hz1,hz2⟩:=Xn hi hz w;split at h
   ·rename_i places hp;simp only[WF]at h;obtain⟨cs,hf,rfl⟩:=h;obtain⟨arr',h1,h2⟩:=U5 hf (YP (ι:=ι) (w:=w) hz2) hv;have hpl:(gs.mapM λf=>(do pure (f.offset,<-sizeOf f.type):Sem (Nat×Nat))).run P w=.ok places.toArray w:=(by have:=places_ok (w:=w) hp;rw[Array.mapM_eq_mapM_toList];simp only[Sem.run_map,this,AR]);refine⟨.agg arr',?_,arr',rfl,h2⟩;have h1':Instr.fill (λn=>places.toArray[n]?) zv.cells vs.toList=some arr':=(by simpa using h1);simp only[Instr.build,AQ,hz1,AY hu,hpl,AR,h1'];rfl
   ·cases h
  ·rename_i z n e hz hk;have hu:=Zo hi hk;obtain⟨zv,hz1,hz2⟩:=Xn hi hz w;split at h
   ·rename_i j hj;simp only[WF]at h;obtain⟨cs,hf,rfl⟩:=h;obtain⟨arr',h1,h2⟩:=U5 hf (YP (ι:=ι) (w:=w) hz2) hv;refine⟨.agg arr',?_,arr',rfl,h2⟩;simp[Instr.build,hz1,AY hu,Qb hj w,h1]
   ·cases h
  ·cases h
 ·cases h
theorem YA(n:Nat)(z:List T):(ZW n z).length=n*z.length:=by
 induction n with
 |zero=>simp[ZW]
 |succ n ih=>simp[ZW,ih,BE];omega
theorem repl_get(n:Nat)(z:List T)(hz:0<z.length)(i:Nat)(hi:i<n*z.length):(ZW n z)[i]? =z[i%z.length]? :=by
 induction n generalizing i with
 |zero=>simp at hi
 |succ n ih=>
  simp only[ZW];by_cases h:i<z.length
  ·rw[AK h,Cb h]
  ·rw[AS (by omega),ih _ (by rw[BE]at hi;omega)];have e:=Nat.mod_eq_sub_mod (a:=i) (b:=z.length) (by omega);rw[e]
theorem UG{n:Nat}{z:List T}{zv:Array Value}(h:Wm zv.toList=some z)(hz:0<z.length):JL ι w ((ZW n z).map .t) ((Array.range (n*z.length)).map (zv[· %zv.size]!)):=by
 obtain⟨h1,h2⟩:=YP (ι:=ι) (w:=w) h;simp only[AA]at h1;refine⟨by simp[YA],λi hi=> ?_⟩;have hi':i<n*z.length:=by simpa [YA] using hi
 have hm:i%z.length<z.length:=Nat.mod_lt _ hz;obtain⟨u,h3,h4⟩:=h2 (i%z.length) (by simpa using hm);refine⟨u,?_,?_⟩
 ·rw[Array.getElem?_map];have:(Array.range (n*z.length))[i]? =some i:=(by simp[hi']);rw[this];simp only[AD,X3,h1];rw[getElem!_pos zv _ (by omega)];have e:=Bf (xs:=zv) (i:=i%z.length) (by omega);rw[e]at h3;injection h3
 ·have e:=repl_get n z hz i hi';have hg:(ZW n z)[i]? =some ((ZW n z)[i]'(by simpa using hi)):=A4 _;rw[hg,A4 hm]at e;injection e with e;simp only[AX,e];simpa using h4
theorem allT_eq:∀{cs:List Cell} {ts:List T},WW cs=some ts->cs=ts.map .t
 |[],ts,h=>by simp only[WW,X3]at h;subst h;rfl
 |.t x::cs,ts,h=>by simp only[WW,WF]at h;obtain⟨ts',h1,rfl⟩:=h;simp[allT_eq h1]
 |.ptr _::cs,ts,h=>by simp[WW]at h
 |.sl .. ::cs,ts,h=>by simp[WW]at h
 |.clo .. ::cs,ts,h=>by simp[WW]at h
theorem new_un(h:HR ι J w){w':World}{o:Go.Obj}(hh:w'.heap=w.heap.push o)(ho:w'.os=w.os)(hp:w'.output=w.output):
   Step ι J w ι J w'/\HR ι J w'/\ι.un w.heap.size:=by
 have hst:Step ι J w ι J w':={
   len:=A6 _
   size:=by rw[hh];simp
   os:=ho
   out:=hp
   keep:=λ_ s h=>⟨s,h,A6 _,λ_=>rfl⟩
   none:=λ_ _ h=>h
   new:=λid s' l' h h'=>.inr ⟨id,s',l',h,h',rfl⟩
   res:=rfl
   ex:=rfl
   resKeep:=λb hb=>by rw[hh];simp[BJ,Bn (h.resRow b hb).lt]
   frame:=λb hb _=>by rw[hh];simp[BJ,Bn hb] }
 refine⟨hst,⟨λid s hs=> ?_,h.inj,λb hb=>(let ⟨c,e,fr,h1⟩:=h.resRow b hb;⟨c,e,fr,by rw[hst.resKeep b hb];exact h1⟩),h.resNo⟩,λhm=>absurd (h.Zz hm) (Nat.lt_irrefl _)⟩;obtain⟨o',h1,h2⟩:=h.obj id s hs;refine⟨o',h1,h2.congr hst (λl hl=> ?_)⟩;have:=h.Zz (.inl ⟨id,s,l,hs,hl,rfl⟩);rw[hh];simp[BJ,Bn this]
end
end Go.Abs
namespace Go.Abs
variable [Gl]
section
variable {P:Program}{ι:Map}{J:Q1}{w:World}
def Xm(P:Program)(ι:Map)(J:Q1)(w:World)(s:Sem Value)(x:AV)(S':Q1):Prop:=
 ∃I' w' v,s.run P w=.ok v w'/\VR I' w' x v/\Step ι J w I' S' w'/\HR I' S' w'
theorem Xm.pure(h:HR ι J w){s:Sem Value}{x:AV}{v:Value}(hr:s.run P w=.ok v w)(hv:VR ι w x v):Xm P ι J w s x J:=
 ⟨ι,w,v,hr,hv,Step.refl ι J w,h⟩
theorem ptr_new{I':Map}{n b tot es:Nat}(h:I' n=some ⟨some ⟨b,0,tot⟩,es,0⟩)(w':World):VR I' w' (.c (.ptr ⟨n,0,0⟩)) (.pointer (some ⟨b,0,none⟩)):=
 ⟨_,rfl,_,h,A6 _,λ_=>⟨_,rfl,rfl⟩⟩
theorem new_ok(h:HR ι J w){cs:List Cell}{arr:Array Value}(hc:JL ι w cs arr)(e:TypeId)(es:Nat):
  ∃I' w',(newRow e arr).run P w=.ok ⟨w.heap.size,0,none⟩ w'/\Step ι J w I' (J++[{ cs:=cs,es:=es }]) w'/\HR I' (J++[{ cs:=cs,es:=es }]) w'/\
   I' J.length=some ⟨some ⟨w.heap.size,0,arr.size⟩,es,0⟩:=by
 obtain⟨h1,h2⟩:=HR.push (w':={ w with heap:=w.heap.push (.cells arr e) }) (o:={ cs:=cs,es:=es }) h rfl rfl rfl rfl (by rw[hc.1];exact A6 _) hc.2;exact⟨_,_,rfl,h1,h2,Map.QN _ _ _⟩
theorem alloc_ok(h:HR ι J w){t:TypeId}{i:Qj}(ht:tinf P t=some i){z:List T}(hz:i.zero=some z):
  Xm P ι J w (Instr.alloc t true (.tuple #[])) (K4 J (z.map .t)).1 (K4 J (z.map .t)).2:=by
 obtain⟨zv,hz1,hz2⟩:=Xn ht hz w;obtain⟨I',w',h1,h2,h3,h4⟩:=new_ok (P:=P) h (YP (ι:=ι) (w:=w) hz2) t 1;exact⟨I',w',_,by simp[Instr.alloc,hz1,newVar,h1],ptr_new h4 w',h2,h3⟩
theorem box_ok(h:HR ι J w){x:AV}{v:Value}(hf:x.flat=true)(hv:VR ι w x v)(t:TypeId):
  Xm P ι J w (Instr.box t v) (K4 J x.cells).1 (K4 J x.cells).2:=by
 obtain⟨I',w',h1,h2,h3,h4⟩:=new_ok (P:=P) h (V0 hf hv) t 1;exact⟨I',w',_,by simp[Instr.box,newVar,h1],ptr_new h4 w',h2,h3⟩
theorem storeE_ok(h:HR ι J w){t:TypeId}{i:Qj}(ht:tinf P t=some i){a x:AV}{u v:Value}(ha:VR ι w a u)(hx:VR ι w x v){S':Q1}(hs:X2 J i a x=some S'):
  ∃I' w',(Instr.storeAt t u v).run P w=.ok () w'/\Step ι J w I' S' w'/\HR I' S' w':=by
 unfold X2 at hs;split at hs
 ·rename_i r;split at hs
  ·rename_i o ho;split at hs
   ·rename_i hc;obtain⟨hf,hl,hfit⟩:=hc;injection hs with hs;subst hs;obtain⟨ad,rfl,hr⟩:=ha;obtain⟨s,h1,h2,h3,h4,l,hl2,e⟩:=h.ref ho hr;injection e with e;subst e;obtain⟨hn,hcc⟩:=V0 hf hx;obtain⟨w',h5,h6,h7⟩:=HR.write h h1 hl2 h2 P r.off x.cells v.cells.toList (by simpa using hn) (λk hk=>by simpa using hcc k hk) (by omega);refine⟨ι,w',?_,h6,h7⟩;have hsz:¬(v.cells.size≠i.size):=(by rw[hn,hl];simp);simp only[Instr.storeAt,Instr.sureAddr,AQ,Au,AR,storeVar,Qb ht w,AP hsz];simpa using h5
   ·cases hs
  ·cases hs
 ·cases hs
theorem imm_new{ts:List T}{len c:Nat}{cap:Option Nat}{arr:Array Value}{e:TypeId}(h:HR ι J w)(hc:JL ι w (ts.map .t) arr)(hlc:len<=c)(hcap:YN cap c):
  Xm P ι J w (do pure (.slice (some (<-newRow e arr)) len c)) (.c (.t (.imm ts len cap))) J:=by
 obtain⟨h1,h2,h3⟩:=new_un h (w':={ w with heap:=w.heap.push (.cells arr e) }) rfl rfl rfl;refine⟨ι,{ w with heap:=w.heap.push (.cells arr e) },.slice (some ⟨w.heap.size,0,none⟩) len c,rfl,?_,h1,h2⟩;have hnew:({ w with heap:=w.heap.push (.cells arr e) }:World).heap[w.heap.size]? =some (.cells arr e):=by simp
 refine TR.imm ts len cap w.heap.size 0 c (λi=>arr.getD i undef) h3 ⟨arr,e,(0,0),hnew⟩ hcap hlc (λi hi=> ?_) (λi hi=> ?_)
 ·obtain⟨u,h4,_⟩:=hc.2 i (by simpa using hi);simp only[World.cell?,hnew,AI];simp[h4]
 ·obtain⟨u,h4,h5⟩:=hc.2 i (by simpa using hi);have e1:arr.getD i undef=u:=(by simp[h4]);have h6:CR ι { w with heap:=w.heap.push (.cells arr e) } (Cell.t ts[i]) u:=(by have:=CR.step h1 h5;simpa using this);simpa [e1,CR] using h6
theorem sl_new{I':Map}{n b tot es len c:Nat}{cap:Option Nat}(h:I' n=some ⟨some ⟨b,0,tot⟩,es,0⟩)(hl:len<=c)(hcap:YN cap c)(ht:c*es<=tot)(ht':cap=none->c*es=tot)(w':World):
  VR I' w' (.c (.sl ⟨n,0,0⟩ len cap)) (.slice (some ⟨b,0,none⟩) len c):=
 ⟨_,_,rfl,.inr rfl,_,h,A6 _,λ_=>⟨hl,hcap,rfl,by simpa using ht,λe=>by simpa using ht' e⟩⟩
theorem V4(h:HR ι J w){b:Bool}{t:TypeId}{n:Nat}{ps:List (Nat×AV)}{y:AV}{S':Q1}(hb:JB P b J t n ps=some (y,S')){vs:Array (Nat×Value)}
  (hv:vs.toList.length=ps.length/\∀i (h:i<ps.length),∃v,vs.toList[i]? =some (ps[i].1,v)/\VR ι w ps[i].2 v):Xm P ι J w (Instr.buildSlice t n vs) y S':=by
 unfold JB at hb;split at hb
 ·rename_i i hi;split at hb
  ·rename_i e hk;have hu:=Qq hi hk;split at hb
   ·rename_i j hj;split at hb
    ·rename_i z hz;obtain⟨zv,hz1,hz2⟩:=Xn hj hz w;split at hb
     ·rename_i hc;obtain⟨hsz,hpos,hmax⟩:=hc;split at hb
      ·rename_i cs hf;obtain⟨arr,h1,h2⟩:=U5 hf (UG (ι:=ι) (w:=w) hz2 (by omega)) hv;have h24:¬(n*j.size>2^24):=(by omega);have hrun:(Instr.buildSlice t n vs).run P w=(do pure (.slice (some (<-newRow e arr)) n n):Sem Value).run P w:=by
        by_cases h0:n*j.size=0
        ·have e0:∀f:Nat->Value,(Array.range (n*j.size)).map f= #[]:=λf=>(by rw[h0];simp);rw[<-hsz,e0]at h1;simp only[Instr.buildSlice,AQ,AY hu,AR,Qb hj w,AP h24,AF h0,Au,e0,h1]
        ·rw[<-hsz]at h1;simp only[Instr.buildSlice,AQ,AY hu,AR,Qb hj w,AP h24,AP h0,hz1,Au,h1]
       split at hb
       ·rename_i ts hts;injection hb with hb;injection hb with e1 e2;subst e1;subst e2;have hcs:=allT_eq (objT_eq hts);subst hcs;obtain⟨I',w',v,h3,h4,h5,h6⟩:=imm_new (P:=P) (e:=e) (len:=n) (c:=n) (cap:=some n) h h2 (A6 _) rfl;exact⟨I',w',v,by rw[hrun];exact h3,h4,h5,h6⟩
       ·injection hb with hb;injection hb with e1 e2;subst e1;subst e2;obtain⟨I',w',h3,h4,h5,h6⟩:=new_ok (P:=P) h h2 e j.size;refine⟨I',w',_,by rw[hrun];simp[h3],sl_new (cap:=some n) h6 (A6 _) rfl ?_ (λe=>by cases e) w',h4,h5⟩;have hl:=h2.1;have:cs.length=((ZW n z).map Cell.t).length:=by
         clear h1 h2 hrun hl;have key:∀(ps:List (Nat×AV)) (cs cs':List Cell),Y4 (λm=>some (m*j.size,j.size)) ps cs=some cs'->cs'.length=cs.length:=by
          intro ps
          induction ps with
          |nil=>intro cs cs' hh;simp only[Y4,X3]at hh;rw[hh]
          |cons p ps ih=>
           intro cs cs' hh;obtain⟨m,x⟩:=p;simp only[Y4]at hh;split at hh
           ·rename_i hc;rw[ih _ _ hh,Jg _ _ _ (by omega)]
           ·cases hh
         exact key _ _ _ hf
        rw[hl,this];simp[YA,hsz]
      ·cases hb
     ·cases hb
    ·cases hb
   ·cases hb
  ·cases hb
 ·cases hb
theorem makeSliceE_ok(h:HR ι J w){t:TypeId}{l c y:AV}{S':Q1}(hm:Qp P J t l c=some (y,S')){u v:Value}(hl:VR ι w l u)(hc:VR ι w c v):Xm P ι J w (Instr.makeSlice t u v) y S':=by
 unfold Qp at hm;split at hm
 ·rename_i i n m hi hn hmm;obtain⟨k,rfl⟩:=YH hn hl;obtain⟨k',rfl⟩:=YH hmm hc;split at hm
  ·rename_i e hk;have hu:=Qq hi hk;split at hm
   ·rename_i j hj;split at hm
    ·rename_i z hz;obtain⟨zv,hz1,hz2⟩:=Xn hj hz w;obtain⟨inf,hinf,hby,_,_⟩:=YR hj w;split at hm
     ·rename_i hcond;obtain⟨hsz,hpos,h0,hle,hbytes,hmax⟩:=hcond;injection hm with hm;injection hm with e1 e2;subst e1;subst e2;have hw1:IntKind.i64.wrap n=n:=IntWalk.i64_in _ (by omega);have hw2:IntKind.i64.wrap m=m:=IntWalk.i64_in _ (by omega);have hcells:JL ι w ((ZW m.toNat z).map .t) ((Array.range (m.toNat*z.length)).map (zv.cells[· %zv.cells.size]!)):=UG hz2 (by omega);obtain⟨I',w',h3,h4,h5,h6⟩:=new_ok (P:=P) h hcells e j.size;have hmb:(inf.bytes:Int)*m<=281474976710656:=(by rw[hby,Int.mul_comm];exact hbytes);have hnb:(inf.bytes:Int)*n<=281474976710656:=(by have:(inf.bytes:Int)*n<=inf.bytes*m:=Int.mul_le_mul_of_nonneg_left hle (by omega);omega);refine⟨I',w',.slice (some ⟨w.heap.size,0,none⟩) n.toNat m.toNat,?_,sl_new (cap:=some m.toNat) h6 (by omega) rfl (by simp[hsz]) (λe=>by cases e) w',h4,h5⟩;have hrun0:∀b:Bool,b=false->(if b=true then True else False)=False:=λb hb=>(by simp[hb]);have c1:¬(m<0):=(by omega);have c2:¬((inf.bytes:Int)*m>2^48):=(by have:(2:Int)^48=281474976710656:=(by decide);rw[this];omega);have c3:¬(n<0):=(by omega);have c4:¬(n>m):=(by omega);by_cases h0':m.toNat*j.size=0
      ·have e0:∀f:Nat->Value,(Array.range (m.toNat*j.size)).map f= #[]:=λf=>(by rw[h0'];simp);rw[<-hsz,e0]at h3;simp only[Instr.makeSlice,AQ,AY hu,AR,asInt,asIntOf,Au,hinf,hw1,hw2];simp only[c1,c2,c3,c4,BT,Bool.or_self,AM,Af,run_askRoom,AR,Qb hj w,AQ,AF h0',e0,h3,Au]
      ·rw[<-hsz]at h3;simp only[Instr.makeSlice,AQ,AY hu,AR,asInt,asIntOf,Au,hinf,hw1,hw2];simp only[c1,c2,c3,c4,BT,Bool.or_self,AM,Af,run_askRoom,AR,Qb hj w,AQ,AP h0',hz1,h3,Au]
     ·cases hm
    ·cases hm
   ·cases hm
  ·cases hm
 ·cases hm
end
end Go.Abs
namespace Go.Abs
variable [Gl]
section
variable {P:Program}{ι:Map}{J:Q1}{w:World}
theorem V1(s:List UInt8)(n:Nat):(((⟨s.toArray⟩:ByteArray).extract 0 n).data.map λb=>Value.int .u8 b.toNat)=((s.take n).map λb:UInt8=>Value.int .u8 b.toNat).toArray:=by rw[Ym];simp
theorem Zc(h:HR ι J w){es n:Nat}{x:AV}{new:List Cell}(hf:Qm J es n x=some new){v:Value}(hx:VR ι w x v):
  new.length=n*es/\∃vs:List Value,JL ι w new vs.toArray/\∀w2:World,w2.heap=w.heap->(Builtin.firstCells es n v).run P w2=.ok vs.toArray w2:=by
 unfold Qm at hf;split at hf
 ·rename_i r len cap;split at hf
  ·rename_i o ho;split at hf
   ·rename_i hc;injection hf with hf;subst hf;obtain⟨a,c,rfl,hsome,hr⟩:=hx;obtain⟨s,hs,ho',hep,hor,hok⟩:=h.ref ho hr;have hlen:((o.cs.drop r.off).take (n*es)).length=n*es:=(by simp;omega);refine⟨hlen,?_⟩;by_cases h0:n*es=0
    ·have e:(o.cs.drop r.off).take (n*es)=[]:=(by rw[h0];simp);rw[e];refine⟨[],⟨rfl,λi hi=>absurd hi (by simp)⟩,λw2 _=> ?_⟩
     cases a with
     |none=>simp[Builtin.firstCells]
     |some a=>simp[Builtin.firstCells,h0,loadCells,loadCellsFrom]
    ·obtain⟨h1,h2,h3⟩:=hok
     cases hl:s.loc with
     |none=>have hz:=hor.2.2;rw[hl]at hz;rw[hz]at hc;simp at hc;exact absurd hc.1.2 h0
     |some l=>rw[hl]at h3;obtain⟨rfl,_⟩:=h3;have hrow:=((hor.row hl).drop r.off).take (n*es);obtain⟨vs,h4,h5,h6⟩:=hrow.list;refine⟨vs,⟨by simpa using h4,λi hi=>by simpa using h6 i hi⟩,λw2 hw2=> ?_⟩;refine run_firstCells_some w2 es n _ len c vs (by rw[h4];exact hlen) (λj v hv=> ?_);have:=h5 j v hv;rw[ZS]at this⊢;rw[<-this];exact Jt (by rw[hw2]) _
   ·cases hf
  ·cases hf
 ·rename_i cs len cap;split at hf
  ·rename_i hc;injection hf with hf;subst hf;have hlen:((cs.take (n*es)).map Cell.t).length=n*es:=(by have:n*es<=len*es:=Ah _ hc.1;simp;omega);refine⟨hlen,?_⟩
   cases hx with
   |imm0 cap a c hcap=>
    refine⟨[],⟨by simp,λi hi=>absurd hi (by simp)⟩,λw2 _=> ?_⟩;have hn0:n=0:=(by omega);subst hn0
    cases a with
    |none=>simp[Builtin.firstCells]
    |some a=>simp[Builtin.firstCells,loadCells,loadCellsFrom]
   |imm cs len cap b off c f h1 h2 hcp hle h3 h4=>have hrow:KL ι w b off ((cs.take (n*es)).map Cell.t):=λi hi=>(by have hi':i<cs.length:=(by simp at hi;omega);refine⟨f i,h3 i hi',?_⟩;have:=h4 i hi';simpa [CR] using this);obtain⟨vs,h5,h6,h7⟩:=hrow.list;refine⟨vs,⟨by simpa using h5,λi hi=>by simpa using h7 i hi⟩,λw2 hw2=> ?_⟩;refine run_firstCells_some w2 es n _ len c vs (by rw[h5];exact hlen) (λj v hv=> ?_);have:=h6 j v hv;rw[ZS]at this⊢;rw[<-this];exact Jt (by rw[hw2]) _
  ·cases hf
 ·rename_i s;split at hf
  ·rename_i hc;injection hf with hf;subst hf;obtain rfl:=Xq hx;obtain⟨hc1,rfl⟩:=hc;refine⟨by simp;omega,(s.take n).map λb:UInt8=>Value.int .u8 b.toNat,⟨by simp,λi hi=> ?_⟩,λw2 _=> ?_⟩
   ·have hi':i<(s.take n).length:=(by simpa using hi);exact⟨.int .u8 ((s.take n)[i].toNat),by rw[C8,BK,A4 hi'];rfl,by simp only[AX];exact TR.int _ _⟩
   ·simp only[Builtin.firstCells,V1];rfl
  ·cases hf
 ·cases hf
theorem lenE_ok{x:AV}{m:Nat}(h:lenE x=some m){v:Value}(hx:VR ι w x v)(w2:World):(Builtin.lenOf v).run P w2=.ok m w2:=by
 unfold lenE at h;split at h
 ·injection h with h;subst h;obtain⟨a,c,rfl,_⟩:=hx;rfl
 ·injection h with h;subst h;obtain⟨a,c,rfl,_⟩:=Zs hx;rfl
 ·injection h with h;subst h;obtain rfl:=Xq hx;simp[Builtin.lenOf,ByteArray.size]
 ·cases h
theorem growBy_le(need:Nat):∀(n c:Nat),Builtin.growBy need n c<=max c (2*need+768)
 |0,c=>by simp[Builtin.growBy];omega
 |n+1,c=>by
  simp only[Builtin.growBy];split
  ·omega
  ·have:=growBy_le need n (c+(c+768) / 4);omega
theorem nextcap_le{need cap:Nat}(h:cap<need):Builtin.nextslicecap need cap<=2*need+768:=by
 unfold Builtin.nextslicecap;split
 ·omega
 ·split
  ·omega
  ·have:=growBy_le need 4 cap;omega
theorem XY.fits{n b:Nat}(h:XY n b){cap:Nat}(hc:cap<n):¬(Builtin.nextslicecap n cap*b>2^48):=by
 obtain⟨h1,h2,h3⟩:=h;have h4:Builtin.nextslicecap n cap*b<=(2*n+768)*b:=Ah _ (nextcap_le hc);have h5:(2*n+768)*b=2*(n*b)+768*b:=by rw[B3,Nat.mul_assoc]
 omega
theorem Jh{ts:Array TypeId}{t u e:TypeId}(h0:ts[0]? =some t)(h1:ts[1]? =some u){j:Qj}(ht:P.underlying t=some (.slice e))(hj:tinf P e=some j)(hu:(∃e',P.underlying u=some (.slice e'))\/P.underlying u=some .string)(rest:TypeId)
  {a:Option Addr} {len c m:Nat} {x:Value} {new:Array Value} (hlen:(Builtin.lenOf x).run P w=.ok m w) (hfirst:(Builtin.firstCells j.size m x).run P w=.ok new w) (hroom:len+m<=c) {w':World}
  (hst:∀b,a=some b->(storeCells (b.add (len*j.size)) new.toList).run P w=.ok () w') (hst':a=none->w'=w):
  (Builtin.append_ ts rest #[.slice a len c,x]).run P w=.ok (.slice a (len+m) c) w':=by
 rcases hu with ⟨e',hd1⟩|hd1;all_goals
  cases a with
  |none=>obtain rfl:=hst' rfl;simp only[Builtin.append_,h0,h1,C8,BA,Ax,AQ,AY ht,AR,Qb hj,AY hd1,Au,AM,Af,hlen,AF hroom,BX,Ag,hfirst]
  |some b=>simp only[Builtin.append_,h0,h1,C8,BA,Ax,AQ,AY ht,AR,Qb hj w,AY hd1,Au,AM,Af,hlen,AF hroom,BX,Ag,hfirst,hst b rfl]
theorem Xu{ts:Array TypeId}{t u e:TypeId}(h0:ts[0]? =some t)(h1:ts[1]? =some u){j:Qj}(ht:P.underlying t=some (.slice e))(hj:tinf P e=some j){z:List T}(hz:j.zero=some z)(hzs:j.size=z.length)(hu:(∃e',P.underlying u=some (.slice e'))\/P.underlying u=some .string)(rest:TypeId)
  {a:Option Addr} {len c m:Nat} {x:Value} {old new:Array Value} (hlen:(Builtin.lenOf x).run P w=.ok m w) (hfirst:∀w2:World,w2.heap=w.heap->(Builtin.firstCells j.size m x).run P w2=.ok new w2)
  (hold:∀w2:World,w2.heap=w.heap->(Builtin.firstCells j.size len (.slice a len c)).run P w2=.ok old w2) (hroom:c<len+m) (hok:XY (len+m) j.bytes):
  ∃(cap:Nat) (more:Array Value),len+m<=cap/\more.size=(cap - (len+m))*j.size/\
   (Builtin.append_ ts rest #[.slice a len c,x]).run P w=.ok (.slice (some ⟨w.heap.size,0,none⟩) (len+m) cap) { w with drawn:=w.drawn+1,heap:=w.heap.push (.cells (old++new++more) e) }:=by
 obtain⟨inf,hinf,hby,_,_⟩:=YR hj w;obtain⟨zv,hz1,hz2⟩:=Xn hj hz { w with drawn:=w.drawn+1 };have hzl:zv.cells.size=j.size:=by have:=(Wr (U:=λ_=>True) (w:=w) hz2).1;simp at this;omega
 let cap:=(Question.appendCap (len+m) c e).cut (w.tape w.drawn (.appendCap (len+m) c e));refine⟨cap,Builtin.zeroCells zv.cells (cap - (len+m)),?_,by simp[Builtin.zeroCells,hzl],?_⟩
 ·simp only[cap,Question.cut];omega
 ·have hn:¬(len+m<=c):=(by omega);have h63:¬(((len+m:Nat):Int)>IntKind.i64.max/\(False\/inf.bytes=0)):=(by have:(IntKind.i64.max:Int)=9223372036854775807:=(by decide);rw[this];have:=hok.2.1;omega);have h48:¬(Builtin.nextslicecap (len+m) c*inf.bytes>2^48):=(by rw[hby];exact hok.fits hroom);have hf:=hfirst { w with drawn:=w.drawn+1 } rfl;have ho:=hold { w with drawn:=w.drawn+1 } rfl;have hinf2:(typeInfo e).run P { w with drawn:=w.drawn+1 }=.ok inf { w with drawn:=w.drawn+1 }:=(by obtain⟨inf',h1,_,_,h4⟩:=YR hj { w with drawn:=w.drawn+1 };obtain⟨inf'',h1',_,_,h4'⟩:=YR hj w;rw[hinf]at h1';injection h1' with h1';subst h1';rw[h4']at h4;injection h4 with h4;subst h4;exact h1);have h63':¬(((len+m:Nat):Int)>IntKind.i64.max/\inf.bytes=0):=λh=>h63 ⟨h.1,.inr h.2⟩;have key:(Builtin.append_ ts rest #[.slice a len c,x]).run P w=((do
    let newCap<-choose (.appendCap (len+m) c e)
    askRoom (newCap*(<-typeInfo e).bytes)
    let old<-Builtin.firstCells j.size len (.slice a len c);let new<-Builtin.firstCells j.size m x;let rest:=Builtin.zeroCells (<-zeroValue e).cells (newCap - (len+m))
    pure (.slice (some (<-newRow e (old++new++rest))) (len+m) newCap):Sem Value)).run P w:=by
   rcases hu with ⟨e',hd1⟩|hd1;all_goals
    simp only[Builtin.append_,h0,h1,C8,BA,Ax,AQ,AY ht,AR,Qb hj w,AY hd1,Au,AM,Af,hlen,AP hn,hinf,false_or,AP h63',AP h48,BX,Ag]
  rw[key];have hch:(choose (.appendCap (len+m) c e)).run P w=.ok cap { w with drawn:=w.drawn+1 }:=(by simp[choose,Sem.run,Question.forced,cap]);simp only[AQ,hch,AR,hinf2,run_askRoom,ho,hf,hz1,Au];rfl
end
end Go.Abs
namespace Go.Abs
variable [Gl]
section
variable {P:Program}{ι:Map}{J:Q1}{w:World}
theorem JL.append{xs ys:List Cell}{a b:Array Value}(h1:JL ι w xs a)(h2:JL ι w ys b):JL ι w (xs++ys) (a++b):=by
 refine⟨by simp[h1.1,h2.1],λi hi=> ?_⟩;by_cases c:i<xs.length
 ·obtain⟨u,h3,h4⟩:=h1.2 i c;refine⟨u,?_,by rw[BP c];exact h4⟩;rw[Bp (by rw[h1.1];exact c)];exact h3
 ·have hi':i - xs.length<ys.length:=(by simp at hi;omega);obtain⟨u,h3,h4⟩:=h2.2 (i - xs.length) hi';refine⟨u,?_,by rw[Be (by omega)];exact h4⟩;rw[Array.getElem?_append_right (by rw[h1.1];omega),h1.1];exact h3
theorem push_more(h:HR ι J w){cs:List Cell}{arr more:Array Value}(hc:JL ι w cs arr)(e:TypeId)(es:Nat){w':World}(hh:w'.heap=w.heap.push (.cells (arr++more) e))(ho:w'.os=w.os)(hp:w'.output=w.output):
  ∃I',Step ι J w I' (J++[{ cs:=cs,es:=es }]) w'/\HR I' (J++[{ cs:=cs,es:=es }]) w'/\I' J.length=some ⟨some ⟨w.heap.size,0,(arr++more).size⟩,es,0⟩:=by
 obtain⟨h1,h2⟩:=HR.push (o:={ cs:=cs,es:=es }) h hh ho hp rfl (by simp[hc.1]) (λi hi=>by
  obtain⟨u,h3,h4⟩:=hc.2 i hi;exact⟨u,by rw[Bp (by rw[hc.1];exact hi)];exact h3,h4⟩)
 exact⟨_,h1,h2,Map.QN _ _ _⟩
theorem HR.writeG(h:HR ι J w){id:Nat}{s:JH}{o o':Obj}{l:Loc}(hid:ι id=some s)(hl:s.loc=some l)(ho:J[id]? =some o)
  (P:Program) (off:Nat) (xs:List Cell) (vs:List Value) (hx:JL ι w xs vs.toArray) (hfit:off+xs.length<=l.tot) (s':JH) (hs':s'.loc=some l) (hes:o'.es=s'.es) (hep:o'.ep=s'.ep)
  (hle:s.ep<=s'.ep) (heq:s.ep=s'.ep->s'=s) (hlen:o'.cs.length<=l.tot)
  (hcs:∀i (hi:i<o'.cs.length),(∃hj:i - off<xs.length,off<=i/\o'.cs[i]=xs[i - off])\/((i<off\/off+xs.length<=i)/\∃hj:i<o.cs.length,o'.cs[i]=o.cs[i])):
  ∃w',(storeCells ⟨l.blk,l.sh+off,none⟩ vs).run P w=.ok () w'/\Step ι J w (ι.push id s') (J.set id o') w'/\HR (ι.push id s') (J.set id o') w':=by
 obtain⟨hn,hxx⟩:=hx;have hn:vs.length=xs.length:=by simpa using hn
 obtain⟨o2,ho2,hor⟩:=h.obj _ _ hid;rw[ho]at ho2;injection ho2 with ho2;subst ho2;obtain⟨h1,h2,h3⟩:=hor;rw[hl]at h3;obtain⟨⟨cells,elem,h4,h5⟩,h6,h7⟩:=h3;have hone:∀v∈vs,v.oneCell'=true:=λv hv=>by obtain⟨i,hi⟩:=List.getElem?_of_mem hv;have hlt:i<xs.length:=(by rw[<-hn];exact(AE.1 hi).1);obtain⟨u,h8,h9⟩:=hxx i hlt;have h8:vs[i]? =some u:=(by simpa using h8);rw[hi]at h8;injection h8 with h8;subst h8;exact CR.XP h9
 have hrun:=run_storeCells_at P l.blk (l.sh+off) elem vs 0 cells w h4 (by omega) hone;simp only[BZ]at hrun;refine⟨_,hrun,?_⟩;generalize hw':w.setRow l.blk (cells.toList.take (l.sh+off)++vs++cells.toList.drop (l.sh+off+vs.length)).toArray=w';have hnew:w'.heap[l.blk]? =some (.cells (cells.toList.take (l.sh+off)++vs++cells.toList.drop (l.sh+off+vs.length)).toArray elem (0,0)):=by rw[<-hw'];exact setRow_heap w l.blk cells _ elem _ h4
 have hfr:∀b,b<w.heap.size->(∀l',s.loc=some l'->l'.blk≠b)->w'.heap[b]? =w.heap[b]? :=λb _ hb=>by rw[<-hw'];simp only[World.setRow];rw[Array.getElem?_modify];simp[hb l hl]
 have hst0:Step ι J w (ι.push id s') (J.set id o') w':=by
  refine Step.upd h hid hle heq ?_ ?_ ?_ (λl' hl'=>.inr ⟨id,s,l,hid,hl,by rw[hs']at hl';injection hl' with e;rw[e]⟩) hfr
  ·rw[<-hw'];simp[World.setRow]
  ·rw[<-hw'];rfl
  ·rw[<-hw'];rfl
 have hsz:(cells.toList.take (l.sh+off)++vs++cells.toList.drop (l.sh+off+vs.length)).toArray.size=cells.size:=by simp;omega
 have hcell:∀i v,(cells.toList.take (l.sh+off)++vs++cells.toList.drop (l.sh+off+vs.length))[l.sh+i]? =some v->w'.cell? ⟨l.blk,l.sh+i,none⟩=some v:=λi v hv=>by simp only[World.cell?,hnew];simpa using hv
 have hold:∀i,w.cell? ⟨l.blk,l.sh+i,none⟩=cells[l.sh+i]? :=λi=>by simp[World.cell?,h4]
 have hor':OR (ι.push id s') w' o' s':=by
  refine⟨hes,hep,?_⟩;rw[hs'];refine⟨⟨_,elem,hnew,by rw[hsz];exact h5⟩,hlen,λi hi=> ?_⟩;rcases hcs i hi with ⟨hj,hge,e⟩|⟨hout,hj,e⟩
  ·obtain⟨u,h8,h9⟩:=hxx (i - off) hj;refine⟨u,hcell i u ?_,by rw[e];exact h9.step hst0⟩;rw[Ac,AS (by simp;omega)];have e0:l.sh+i - (List.take (l.sh+off) cells.toList).length=i - off:=(by simp;omega);rw[e0,AK (by omega)];simpa using h8
  ·obtain⟨v,h8,h9⟩:=h7 i hj;refine⟨v,hcell i v ?_,by rw[e];exact h9.step hst0⟩;rw[hold i]at h8;rcases hout with hlt|hge
   ·rw[Ac,AK (by simp;omega),List.getElem?_take_of_lt (by omega)];simpa using h8
   ·rw[Ac,AS (by simp;omega)];have e0:l.sh+i - (List.take (l.sh+off) cells.toList).length=i - off:=(by simp;omega);rw[e0,AS (by omega),Bt];have e1:l.sh+off+vs.length+(i - off - vs.length)=l.sh+i:=(by omega);rw[e1];simpa using h8
 exact⟨hst0,HR.upd h hid hst0 hfr (λl' hl'=>.inr ⟨l,hl,by rw[hs']at hl';injection hl' with e;rw[e]⟩) hor'⟩
theorem UC{α:Type}:∀(l:List α) (i:Nat) (x:α),l[i]? =some x->l.set i x=l
 |[],_,_,h=>by simp at h
 |y::l,0,x,h=>by simp at h;simp[h]
 |y::l,i+1,x,h=>by simp at h;simp[UC l i x h]
theorem U9(cs:List Cell)(off:Nat):QO cs off []=cs:=by simp[QO]
theorem V9(h:HR ι J w){t u:TypeId}{s x y:AV}{S':Q1}(ha:JC P J t s x=some (y,S'))(hu:(∃e',P.underlying u=some (.slice e'))\/P.underlying u=some .string){sv xv:Value}
  (hs:VR ι w s sv) (hx:VR ι w x xv) {ts:Array TypeId} (ht0:ts[0]? =some t) (ht1:ts[1]? =some u) (rest:TypeId):Xm P ι J w (Builtin.append_ ts rest #[sv,xv]) y S':=by
 unfold JC at ha;split at ha
 ·rename_i i hi;split at ha
  ·rename_i e hk;have ht:=Qq hi hk;split at ha
   ·rename_i j hj;split at ha
    ·rename_i z m hz hm;split at ha
     ·rename_i hzs;obtain⟨hzs,hpos⟩:=hzs;split at ha
      ·rename_i new hnew;obtain⟨hnl,vs,hvs,hfirst⟩:=Zc h (P:=P) hnew hx;have hlen:=λw2=>lenE_ok (P:=P) hm hx w2;split at ha
       ·
        rename_i cs len c;split at ha
        ·rename_i hc;obtain⟨rfl,hcs,hroom⟩:=hc;obtain⟨a,c',rfl,hcap,hlc⟩:=Zs hs;have hcap:c'=c:=hcap;subst hcap;split at ha
         ·rename_i hm0;subst hm0;injection ha with ha;injection ha with e1 e2;subst e1;subst e2;have hv0:vs=[]:=(by have:=hvs.1;rw[hnl]at this;exact BB (by simpa using this));subst hv0;refine Xm.pure h (Jh ht0 ht1 ht hj hu rest (hlen w) (hfirst w rfl) (A6 _) (λb _=> ?_) (λ_=>rfl)) hs;simp[storeCells]
         ·rename_i hm0;injection ha with ha;injection ha with e1 e2;subst e1;subst e2;have hfo:Qm J j.size c' (.c (.t (.imm cs c' (some c'))))=some (cs.map .t):=(by simp only[Qm];rw[AF ⟨A6 _,hcs⟩,<-hcs,Ak]);obtain⟨hol,vo,hvo,hfold⟩:=Zc h (P:=P) hfo hs;obtain⟨cap,more,hge,hms,hrun⟩:=Xu ht0 ht1 ht hj hz hzs hu rest (hlen w) hfirst hfold (by omega) hroom;obtain⟨I',h1,h2,h3⟩:=push_more (more:=more) h (JL.append hvo hvs) e j.size (w':={ w with drawn:=w.drawn+1,heap:=w.heap.push (.cells (vo.toArray++vs.toArray++more) e) }) rfl rfl rfl;have htot:cap*j.size=(vo.toArray++vs.toArray++more).size:=(by have e1:=hvo.1;have e2:=hvs.1;rw[CH,CH,e1,e2,hms,hol,hnl];have:c'*j.size+m*j.size=(c'+m)*j.size:=(B3 _ _ _).symm;rw[this,<-B3];congr 1;omega);exact⟨I',_,_,hrun,sl_new (cap:=none) h3 hge trivial (Nat.le_of_eq htot) (λ_=>htot) _,h1,h2⟩
        ·cases ha
       ·
        rename_i r len;split at ha
        ·rename_i o ho;split at ha
         ·rename_i hc;obtain⟨hoff,hoes,hocs,hroom⟩:=hc;injection ha with ha;injection ha with e1 e2;subst e1;subst e2;obtain⟨a,c,rfl,hsome,hr⟩:=hs;obtain⟨sp,hsp,ho',hep,hor,hok⟩:=h.ref ho hr;obtain⟨hlc,_,hok⟩:=hok;have hes:sp.es=j.size:=(by rw[<-hor.1];exact hoes);have hspep:sp.ep=r.ep:=(by rw[<-hor.2.1];exact hep);by_cases hin:len+m<=c
          ·cases hl:sp.loc with
           |none=>
            rw[hl]at hok;have hm0:m=0:=(by omega);subst hm0;have hv0:vs=[]:=(by have:=hvs.1;rw[hnl]at this;exact BB (by simpa using this));have hn0:new=[]:=BB (by rw[hnl];simp);subst hv0;have hocs0:o.cs=[]:=(by have:=hor.2.2;rw[hl]at this;exact this);have hst:Step ι J w (ι.push r.id ⟨none,sp.es,sp.ep+1⟩) (J.set r.id { o with cs:=o.cs++new,ep:=o.ep+1 }) w:=
             Step.upd h hsp (by simp) (λe=>by simp at e) (A6 _) rfl rfl (λl' hl'=>by cases hl') (λ_ _ _=>rfl)
            have hH:=HR.upd h hsp hst (λ_ _ _=>rfl) (λl' hl'=>by cases hl') ⟨hor.1,by simp[hor.2.1],by simp[hocs0,hn0]⟩;refine⟨_,w,_,Jh ht0 ht1 ht hj hu rest (hlen w) (hfirst w rfl) hin (λb _=>by simp[storeCells]) (λ_=>rfl),⟨_,_,rfl,by left;omega,_,Map.QN _ _ _,by simp[hspep],λ_=>⟨hin,trivial,?_⟩⟩,hst,hH⟩;exact⟨by omega,by omega,hoff⟩
           |some l=>
            rw[hl]at hok;obtain⟨rfl,hle,heq⟩:=hok;have heq:=heq rfl;rw[hoff,hes]at heq hle;simp only[AI]at heq hle;have hmul:len*j.size+m*j.size<=c*j.size:=(by rw[<-B3];exact Ah _ hin);obtain⟨w',h1,h2,h3⟩:=HR.writeG (o':={ o with cs:=o.cs++new,ep:=o.ep+1 }) h hsp hl ho' P (len*j.size) new vs hvs (by omega) ⟨some l,sp.es,sp.ep+1⟩ rfl hor.1 (by simp[hor.2.1]) (by simp) (λe=>by simp at e)
             (by simp only[AL];omega) (λi hi=>by
              by_cases hlt:i<o.cs.length
              ·exact .inr ⟨.inl (by omega),hlt,by simp[BP hlt]⟩
              ·have hi':i - len*j.size<new.length:=(by simp at hi;omega);refine .inl ⟨hi',by omega,?_⟩;simp only;rw[Be (by omega)];congr 1;omega)
            refine⟨_,w',_,Jh ht0 ht1 ht hj hu rest (hlen w) (hfirst w rfl) hin (λb hb=> ?_) (λe=>by cases e),⟨_,_,rfl,.inr rfl,_,Map.QN _ _ _,by simp[hspep],λ_=>⟨hin,trivial,?_⟩⟩,h2,h3⟩
            ·injection hb with hb;subst hb;rw[ZS,hoff];simpa using h1
            ·refine⟨rfl,?_,λ_=> ?_⟩
             ·simp only[hoff,hes];omega
             ·simp only[hoff,hes];omega
          ·have hfo:Qm J j.size len (.c (.sl r len none))=some o.cs:=(by simp only[Qm,ho];rw[AF ⟨by omega,A6 _⟩,hoff,AU,<-hocs,Ak]);obtain⟨hol,vo,hvo,hfold⟩:=Zc h (P:=P) hfo ⟨a,c,rfl,hsome,hr⟩;obtain⟨cap,more,hge,hms,hrun⟩:=Xu ht0 ht1 ht hj hz hzs hu rest (hlen w) hfirst hfold (by omega) hroom;have hca:=JL.append hvo hvs;generalize hw':({ w with drawn:=w.drawn+1,heap:=w.heap.push (.cells (vo.toArray++vs.toArray++more) e) }:World)=w' at hrun;have hheap:w'.heap=w.heap.push (.cells (vo.toArray++vs.toArray++more) e):=(by rw[<-hw']);have hfr:∀b,b<w.heap.size->w'.heap[b]? =w.heap[b]? :=λb hb=>(by rw[hheap];simp[BJ,Bn hb]);have htot:cap*j.size=(vo.toArray++vs.toArray++more).size:=(by have e1:=hvo.1;have e2:=hvs.1;rw[CH,CH,e1,e2,hms,hol,hnl];have:len*j.size+m*j.size=(len+m)*j.size:=(B3 _ _ _).symm;rw[this,<-B3];congr 1;omega);have hst:Step ι J w (ι.push r.id ⟨some ⟨w.heap.size,0,(vo.toArray++vs.toArray++more).size⟩,sp.es,sp.ep+1⟩) (J.set r.id { o with cs:=o.cs++new,ep:=o.ep+1 }) w':=
            Step.upd h hsp (by simp) (λe=>by simp at e) (by rw[hheap];simp) (by rw[<-hw']) (by rw[<-hw']) (λl' hl'=>by injection hl' with hl';exact .inl (by rw[<-hl'];exact A6 _)) (λb hb _=>hfr b hb)
           have hnewb:w'.heap[w.heap.size]? =some (.cells (vo.toArray++vs.toArray++more) e):=(by rw[hheap];simp);have hH:=HR.upd h hsp hst (λb hb _=>hfr b hb) (λl' hl'=>by injection hl' with hl';exact .inl (by rw[<-hl'];exact A6 _)) ⟨hor.1,by simp[hor.2.1],⟨_,e,hnewb,by simp⟩,by
            have e1:=hca.1;simp only[CH]at e1⊢;simp only[AL]at e1⊢;omega,λi hi=>by
            obtain⟨v,h8,h9⟩:=hca.2 i hi;refine⟨v,?_,h9.step hst⟩;simp only[World.cell?,hnewb,AI];have:i<(vo.toArray++vs.toArray).size:=(by rw[hca.1];exact hi);simp only[Option.isSome_none,AM,Af];rw[Bp this];exact h8⟩
           refine⟨_,w',_,hrun,⟨_,_,rfl,.inr rfl,_,Map.QN _ _ _,by simp[hspep],λ_=>⟨hge,trivial,?_⟩⟩,hst,hH⟩;refine⟨by simp[hoff],?_,λ_=> ?_⟩
           ·simp only[hoff,hes];omega
           ·simp only[hoff,hes];omega
         ·cases ha
        ·cases ha
       ·
        rename_i r len c;split at ha
        ·rename_i o ho;obtain⟨a,c',rfl,hsome,hr⟩:=hs;obtain⟨sp,hsp,ho',hep,hor,hok⟩:=h.ref ho hr;obtain⟨hlc,hcap,hok⟩:=hok;have hcap:c'=c:=hcap;subst hcap;split at ha
         ·rename_i hc;obtain⟨hoes,hin,hfit⟩:=hc;have hes:sp.es=j.size:=(by rw[<-hor.1];exact hoes);injection ha with ha;injection ha with e1 e2;subst e1;subst e2;have hmul:len*j.size+m*j.size<=c'*j.size:=by rw[<-B3];exact Ah _ hin
          cases hl:sp.loc with
          |none=>rw[hl]at hok;have hm0:m=0:=(by omega);subst hm0;have hv0:vs=[]:=(by have:=hvs.1;rw[hnl]at this;exact BB (by simpa using this));have hn0:new=[]:=BB (by rw[hnl];simp);subst hv0;subst hn0;rw[U9];have:({ o with cs:=o.cs }:Obj)=o:=rfl;rw[this,UC _ _ _ ho'];exact Xm.pure h (Jh ht0 ht1 ht hj hu rest (hlen w) (hfirst w rfl) hin (λb _=>by simp[storeCells]) (λ_=>rfl)) ⟨_,_,rfl,by left;omega,sp,hsp,by rw[<-hor.2.1,hep];exact A6 _,λ_=>⟨hin,rfl,by rw[hl];exact⟨by omega,by omega,hok.2.2⟩⟩⟩
          |some l=>rw[hl]at hok;obtain⟨rfl,hle,heq⟩:=hok;obtain⟨w',h1,h2,h3⟩:=HR.write h hsp hl ho' P (r.off+len*j.size) new vs (by simpa using hvs.1) (λk hk=>by simpa using hvs.2 k hk) (by omega);refine⟨ι,w',_,Jh ht0 ht1 ht hj hu rest (hlen w) (hfirst w rfl) hin (λb hb=> ?_) (λe=>by cases e),⟨_,_,rfl,.inr rfl,sp,hsp,by rw[<-hor.2.1,hep];exact A6 _,λ_=>⟨hin,rfl,by rw[hl];exact⟨rfl,hle,λe=>by cases e⟩⟩⟩,h2,h3⟩;injection hb with hb;subst hb;rw[ZS,CI];simpa using h1
         ·split at ha
          ·rename_i hc;obtain⟨hoes,hgt,hle',hfit,hroom⟩:=hc;injection ha with ha;injection ha with e1 e2;subst e1;subst e2;have hmul:len*j.size<=c'*j.size:=Ah _ hle';have hfo:Qm J j.size len (.c (.sl r len (some c')))=some ((o.cs.drop r.off).take (len*j.size)):=(by simp only[Qm,ho];rw[AF ⟨by omega,A6 _⟩]);obtain⟨hol,vo,hvo,hfold⟩:=Zc h (P:=P) hfo ⟨a,c',rfl,hsome,hr⟩;obtain⟨cap,more,hge,hms,hrun⟩:=Xu ht0 ht1 ht hj hz hzs hu rest (hlen w) hfirst hfold hgt hroom;obtain⟨I',h1,h2,h3⟩:=push_more (more:=more) h (JL.append hvo hvs) e j.size (w':={ w with drawn:=w.drawn+1,heap:=w.heap.push (.cells (vo.toArray++vs.toArray++more) e) }) rfl rfl rfl;have htot:cap*j.size=(vo.toArray++vs.toArray++more).size:=(by have e1:=hvo.1;have e2:=hvs.1;rw[CH,CH,e1,e2,hms,hol,hnl];have:len*j.size+m*j.size=(len+m)*j.size:=(B3 _ _ _).symm;rw[this,<-B3];congr 1;omega);exact⟨I',_,_,hrun,sl_new (cap:=none) h3 hge trivial (Nat.le_of_eq htot) (λ_=>htot) _,h1,h2⟩
          ·cases ha
        ·cases ha
       ·cases ha
      ·cases ha
     ·cases ha
    ·cases ha
   ·cases ha
  ·cases ha
 ·cases ha
end
end Go.Abs
namespace Go.Abs
variable [Gl]
section
variable {P:Program}{ι:Map}{J:Q1}{w:World}
theorem UF{t e:TypeId}{j:Qj}(ht:P.underlying t=some (.slice e))(hj:tinf P e=some j)(ts:Array TypeId)(hts:ts[0]? =some t)(rest:TypeId){a:Option Addr}{len c m:Nat}{x:Value}{new:Array Value}
  (hlen:(Builtin.lenOf x).run P w=.ok m w) (hfirst:(Builtin.firstCells j.size (min m len) x).run P w=.ok new w) {w':World}
  (hst:∀b,a=some b->(storeCells b new.toList).run P w=.ok () w') (hst':a=none->w'=w):
  (Builtin.copy_ ts rest #[.slice a len c,x]).run P w=.ok (.int .i64 ((min m len:Nat):Int)) w':=by
 have hmin:Nat.min m len=min m len:=rfl
 cases a with
 |none=>obtain rfl:=hst' rfl;simp only[Builtin.copy_,hts,C8,BA,Ax,AQ,AY ht,AR,Qb hj,Au,hlen,hmin,hfirst];rfl
 |some b=>simp only[Builtin.copy_,hts,C8,BA,Ax,AQ,AY ht,AR,Qb hj,Au,hlen,hmin,hfirst,hst b rfl];rfl
theorem copyE_ok(h:HR ι J w){t:TypeId}{d x y:AV}{S':Q1}(ha:Wl P J t d x=some (y,S'))(ts:Array TypeId)(hts:ts[0]? =some t){dv xv:Value}
  (hd:VR ι w d dv) (hx:VR ι w x xv) (rest:TypeId):Xm P ι J w (Builtin.copy_ ts rest #[dv,xv]) y S':=by
 unfold Wl at ha;split at ha
 ·rename_i i hi;split at ha
  ·rename_i e hk;have ht:=Qq hi hk;split at ha
   ·rename_i j hj;split at ha
    ·rename_i r len cap m hm;split at ha
     ·rename_i o new ho hnew;split at ha
      ·rename_i hc;obtain⟨hoes,hfit⟩:=hc;injection ha with ha;injection ha with e1 e2;subst e1;subst e2;obtain⟨hnl,vs,hvs,hfirst⟩:=Zc h (P:=P) hnew hx;obtain⟨a,c,rfl,hsome,hr⟩:=hd;obtain⟨sp,hsp,ho',hep,hor,hok⟩:=h.ref ho hr;obtain⟨hlc,hcap,hok⟩:=hok;have hlen:=lenE_ok (P:=P) hm hx w;have hmul:min m len*j.size<=len*j.size:=Ah _ (by omega)
       cases hl:sp.loc with
       |none=>rw[hl]at hok;have hl0:len=0:=hok.1;subst hl0;have hn0:new=[]:=BB (by rw[hnl];simp);have hv0:vs=[]:=(by have:=hvs.1;rw[hn0]at this;exact BB (by simpa using this));subst hn0;subst hv0;rw[U9];have:({ o with cs:=o.cs }:Obj)=o:=rfl;rw[this,UC _ _ _ ho'];exact Xm.pure h (UF ht hj ts hts rest hlen (hfirst w rfl) (λb _=>by simp[storeCells]) (λ_=>rfl)) (TR.int _ _)
       |some l=>rw[hl]at hok;obtain⟨rfl,hle,heq⟩:=hok;obtain⟨w',h1,h2,h3⟩:=HR.write h hsp hl ho' P r.off new vs (by simpa using hvs.1) (λk hk=>by simpa using hvs.2 k hk) (by omega);refine⟨ι,w',_,UF ht hj ts hts rest hlen (hfirst w rfl) (λb hb=> ?_) (λe=>by cases e),TR.int _ _,h2,h3⟩;injection hb with hb;subst hb;simpa using h1
      ·cases ha
     ·cases ha
    ·rename_i m hm;injection ha with ha;injection ha with e1 e2;subst e1;subst e2;obtain⟨a,c,rfl,_,_⟩:=Zs hd;have hlen:=lenE_ok (P:=P) hm hx w;rename_i cs cap;have hf0:(Builtin.firstCells j.size (min m 0) xv).run P w=.ok #[] w:=by
      rw[Nat.min_zero];unfold lenE at hm;split at hm
      ·obtain⟨a',c',rfl,_⟩:=hx;cases a'<;>simp[Builtin.firstCells,loadCells,loadCellsFrom]
      ·obtain⟨a',c',rfl,_⟩:=Zs hx;cases a'<;>simp[Builtin.firstCells,loadCells,loadCellsFrom]
      ·obtain rfl:=Xq hx;simp only[Builtin.firstCells,V1];rfl
      ·cases hm
     have:=UF (a:=a) (c:=c) ht hj ts hts rest hlen hf0 (w':=w) (λb _=>by simp[storeCells]) (λ_=>rfl);exact Xm.pure h this (by rw[Nat.min_zero];exact TR.int _ _)
    ·cases ha
   ·cases ha
  ·cases ha
 ·cases ha
theorem Kg{N:Nat}{r:Q3}{a:Act}(hr:Qt N ι w r a){xs:List Operand}{vs:List AV}(h:evl r xs=some vs):∃us:List Value,xs.map a.eval=us/\us.length=vs.length/\∀i (hi:i<vs.length),∃u,us[i]? =some u/\VR ι w vs[i] u:=by obtain⟨h1,h2⟩:=evl_ok hr h;refine⟨_,rfl,by simp[h1],λi hi=> ?_⟩;obtain⟨x,h3,h4⟩:=h2 i hi;exact⟨_,by simp[h3],h4⟩
theorem vals1{vs:AV}{us:List Value}(h:us.length=[vs].length/\∀i (hi:i<[vs].length),∃u,us[i]? =some u/\VR ι w [vs][i] u):∃u,us=[u]/\VR ι w vs u:=by
 obtain⟨h1,h2⟩:=h
 match us,h1 with
 |[u],_=>obtain⟨u',h3,h4⟩:=h2 0 (by simp);simp at h3;subst h3;exact⟨_,rfl,h4⟩
theorem vals2{x y:AV}{us:List Value}(h:us.length=[x,y].length/\∀i (hi:i<[x,y].length),∃u,us[i]? =some u/\VR ι w [x,y][i] u):∃u v,us=[u,v]/\VR ι w x u/\VR ι w y v:=by
 obtain⟨h1,h2⟩:=h
 match us,h1 with
 |[u,v],_=>obtain⟨u',h3,h4⟩:=h2 0 (by simp);obtain⟨v',h5,h6⟩:=h2 1 (by simp);simp at h3 h5;subst h3;subst h5;exact⟨_,_,rfl,h4,h6⟩
theorem builtinE_ok(h:HR ι J w){b:Builtin}{ts:Array TypeId}{args:List AV}{y:AV}{S':Q1}(hb:QU P J b ts args=some (y,S')){us:List Value}
  (hu:us.length=args.length/\∀i (hi:i<args.length),∃u,us[i]? =some u/\VR ι w args[i] u) (rest:TypeId) (consts:Array Bool):
  ∃s:Sem Value,builtin b ts rest consts us.toArray=(do pure (.value (<-s)))/\Xm P ι J w s y S':=by
 unfold QU at hb;split at hb
 ·rename_i x;obtain⟨u,rfl,hx⟩:=vals1 hu;refine⟨Builtin.len_ ts rest #[u],rfl,?_⟩;split at hb
  ·rename_i t ht;split at hb
   ·rename_i i hi;split at hb
    ·rename_i e r n cap hk;injection hb with hb;injection hb with e1 e2;subst e1;subst e2;obtain⟨a,c,rfl,_⟩:=hx;exact Xm.pure h (by simp[Builtin.len_,ht,AY (Qq hi hk)];rfl) (TR.int _ _)
    ·rename_i e cs n cap hk;injection hb with hb;injection hb with e1 e2;subst e1;subst e2;obtain⟨a,c,rfl,_⟩:=Zs hx;exact Xm.pure h (by simp[Builtin.len_,ht,AY (Qq hi hk)];rfl) (TR.int _ _)
    ·rename_i s hk;injection hb with hb;injection hb with e1 e2;subst e1;subst e2;obtain rfl:=Xq hx;exact Xm.pure h (by simp[Builtin.len_,ht,AY (Jx hi hk)];rfl) (TR.int _ _)
    ·rename_i n e hk;injection hb with hb;injection hb with e1 e2;subst e1;subst e2;exact Xm.pure h (by simp[Builtin.len_,ht,AY (Zo hi hk)];rfl) (TR.int _ _)
    ·cases hb
   ·cases hb
  ·cases hb
 ·rename_i x;obtain⟨u,rfl,hx⟩:=vals1 hu;refine⟨Builtin.cap_ ts rest #[u],rfl,?_⟩;split at hb
  ·rename_i t ht;split at hb
   ·rename_i i hi;split at hb
    ·rename_i e hk;split at hb
     ·rename_i r len c0;split at hb
      ·rename_i o ho;injection hb with hb;injection hb with e1 e2;subst e1;subst e2;obtain⟨a,c',rfl,hsome,hr⟩:=hx;obtain⟨sp,hsp,ho',hep,hor,hok⟩:=h.ref ho hr;have hcap:c'=c0:=hok.2.1;subst hcap;exact Xm.pure h (by simp[Builtin.cap_,ht,AY (Qq hi hk)];rfl) (TR.int _ _)
      ·cases hb
     ·rename_i cs len c0;injection hb with hb;injection hb with e1 e2;subst e1;subst e2;obtain⟨a,c',rfl,hcap,_⟩:=Zs hx;simp only[YN]at hcap;subst hcap;exact Xm.pure h (by simp[Builtin.cap_,ht,AY (Qq hi hk)];rfl) (TR.int _ _)
     ·cases hb
    ·cases hb
   ·cases hb
  ·cases hb
 ·rename_i s x;obtain⟨u,v,rfl,hs,hx⟩:=vals2 hu;refine⟨Builtin.append_ ts rest #[u,v],rfl,?_⟩;split at hb
  ·rename_i t u' ht hu';split at hb
   ·rename_i i hi;split at hb
    ·rename_i e hk;exact V9 h hb (.inl ⟨e,Qq hi hk⟩) hs hx ht hu' rest
    ·rename_i hk;exact V9 h hb (.inr (Jx hi hk)) hs hx ht hu' rest
    ·cases hb
   ·cases hb
  ·cases hb
 ·rename_i d s;obtain⟨u,v,rfl,hd,hs⟩:=vals2 hu;refine⟨Builtin.copy_ ts rest #[u,v],rfl,?_⟩;split at hb
  ·rename_i t ht;exact copyE_ok h hb ts ht hd hs rest
  ·cases hb
 ·refine⟨Builtin.min_ ts rest us.toArray,rfl,?_⟩;simp only[WF,A0]at hb;obtain⟨x,hm,rfl,rfl⟩:=hb;unfold ZD at hm;split at hm
  ·obtain⟨u,v,rfl,h1,h2⟩:=vals2 hu;obtain rfl:=Xa h1;obtain rfl:=Xa h2;split at hm
   ·rename_i hk;subst hk;injection hm with hm;subst hm;simp only[AM,Af];exact Xm.pure h (by simp[Builtin.min_,Builtin.min2]) (TR.int _ _)
   ·cases hm
  ·cases hm
 ·refine⟨Builtin.max_ ts rest us.toArray,rfl,?_⟩;simp only[WF,A0]at hb;obtain⟨x,hm,rfl,rfl⟩:=hb;unfold ZD at hm;split at hm
  ·obtain⟨u,v,rfl,h1,h2⟩:=vals2 hu;obtain rfl:=Xa h1;obtain rfl:=Xa h2;split at hm
   ·rename_i hk;subst hk;injection hm with hm;subst hm;simp only[Ag];exact Xm.pure h (by simp[Builtin.max_,Builtin.max2]) (TR.int _ _)
   ·cases hm
  ·cases hm
 ·cases hb
end
end Go.Abs
namespace Go.Abs
variable [Gl]
section
variable {P:Program}{ι:Map}{J:Q1}{w:World}
theorem tsOfAV_ok:∀{vs:List AV} {ts:List T},Ys vs=some ts->ts.length=vs.length/\∀i (h:i<ts.length),∃hq,vs[i]'hq=.c (.t ts[i])
 |[],ts,h=>by simp only[Ys,X3]at h;subst h;exact⟨rfl,λi hi=>absurd hi (by simp)⟩
 |v::vs,ts,h=>by
  unfold Ys at h;split at h
  ·rename_i heq;cases heq
  ·rename_i x rest heq;injection heq with e1 e2;subst e1;subst e2;simp only[WF]at h;obtain⟨ts',h1,rfl⟩:=h;obtain⟨h2,h3⟩:=tsOfAV_ok h1;refine⟨by simp[h2],λi hi=> ?_⟩
   cases i with
   |zero=>exact⟨by simp,rfl⟩
   |succ i=>obtain⟨h',h4⟩:=h3 i (by simpa using hi);exact⟨by simpa using h',by simpa using h4⟩
  ·cases h
theorem Ky:∀{vs:List AV} {ts:List Ref},refsOf vs=some ts->ts.length=vs.length/\∀i (h:i<ts.length),∃hq,vs[i]'hq=.c (.ptr ts[i])
 |[],ts,h=>by simp only[refsOf,X3]at h;subst h;exact⟨rfl,λi hi=>absurd hi (by simp)⟩
 |v::vs,ts,h=>by
  unfold refsOf at h;split at h
  ·rename_i heq;cases heq
  ·rename_i x rest heq;injection heq with e1 e2;subst e1;subst e2;simp only[WF]at h;obtain⟨ts',h1,rfl⟩:=h;obtain⟨h2,h3⟩:=Ky h1;refine⟨by simp[h2],λi hi=> ?_⟩
   cases i with
   |zero=>exact⟨by simp,rfl⟩
   |succ i=>obtain⟨h',h4⟩:=h3 i (by simpa using hi);exact⟨by simpa using h',by simpa using h4⟩
  ·cases h
theorem makeFuncE_ok{f:FuncId}{caps:List AV}{y:AV}(h:Xo f caps=some y){us:List Value}
  (hu:us.length=caps.length/\∀i (hi:i<caps.length),∃u,us[i]? =some u/\VR ι w caps[i] u):VR ι w y (.func (.func f) #[] us.toArray):=by
 unfold Xo at h;split at h
 ·rename_i ts hts;injection h with h;subst h;obtain⟨h1,h2⟩:=tsOfAV_ok hts;refine TR.fn f ts us.toArray (by simp[hu.1,h1]) (λi hi=> ?_);obtain⟨h',e⟩:=h2 i hi;obtain⟨u,h3,h4⟩:=hu.2 i h';rw[e]at h4;have:us.toArray.getD i undef=u:=(by simp[h3]);rw[this];exact h4
 ·split at h
  ·rename_i rs hrs;split at h
   ·cases h
   rename_i hy;injection h with h;subst h;obtain⟨h1,h2⟩:=Ky hrs;have hb:¬BND<=f:=λe=>(by rw[C6 e,CP]at hy;cases hy);refine cloR.mk (λe=>by subst e;simp at hy) ⟨us.toArray,(fnv_no hb _).symm,by simp[hu.1,h1],λi hi=> ?_⟩;obtain⟨h',e⟩:=h2 i hi;obtain⟨u,h3,h4⟩:=hu.2 i h';rw[e]at h4;obtain⟨ad,rfl,h5⟩:=h4;exact⟨ad,by simp[h3],h5⟩
  ·cases h
theorem makeBoundE_ok{f:FuncId}{first:List AV}{y:AV}(h:Xx f first=some y){us:List Value}
  (hu:us.length=first.length/\∀i (hi:i<first.length),∃u,us[i]? =some u/\VR ι w first[i] u):VR ι w y (.func (.func f) us.toArray #[]):=by
 unfold Xx at h;split at h
 ·rename_i rs hrs;injection h with h;subst h;obtain⟨h1,h2⟩:=Ky hrs;refine cloR.mk (λe=>absurd (e▸Nat.le_add_right BND f:BND<=YID) (by decide)) ⟨us.toArray,(fnv_bnd _ _).symm,by simp[hu.1,h1],λi hi=> ?_⟩;obtain⟨h',e⟩:=h2 i hi;obtain⟨u,h3,h4⟩:=hu.2 i h';rw[e]at h4;obtain⟨ad,rfl,h5⟩:=h4;exact⟨ad,by simp[h3],h5⟩
 ·cases h
def Did(P:Program)(ι:Map)(J:Q1)(w:World)(s:Sem Next)(res:Option AV)(S':Q1):Prop:=
 ∃I' w' nx,s.run P w=.ok nx w'/\(match res with|some x=>∃v,nx=.value v/\VR I' w' x v|none=>nx=.skip)/\Step ι J w I' S' w'/\HR I' S' w'
theorem Xm.did{s:Sem Value}{x:AV}{S':Q1}(h:Xm P ι J w s x S'){s2:Sem Next}(e:∀v w',s.run P w=Result.ok v w'->s2.run P w=Result.ok (Next.value v) w'):Did P ι J w s2 (some x) S':=by obtain⟨I',w',v,h1,h2,h3,h4⟩:=h;exact⟨I',w',_,e v w' h1,⟨v,rfl,h2⟩,h3,h4⟩
theorem Qg(h:HR ι J w){s:Sem Next}{x:AV}{v:Value}(hr:s.run P w=Result.ok (Next.value v) w)(hv:VR ι w x v):Did P ι J w s (some x) J:=
 ⟨ι,w,_,hr,⟨v,rfl,hv⟩,Step.refl ι J w,h⟩
theorem fn_of{f:FuncId}{cs:List T}{v:Value}(h:VR ι w (.c (.t (.fn f cs))) v):∃arr,v=.func (.func f) #[] arr:=by cases h;exact⟨_,rfl⟩
theorem keyOf_i64{P P':Program}{k k':TypeId}(h:P.underlying k=some (.int .i64))(h':P'.underlying k'=some (.int .i64)):keyOf P k=keyOf P' k':=by funext v;simp only[keyOf,h,h',mapKey]
theorem plainElem_i64{P P':Program}{k k':TypeId}(h:P.underlying k=some (.int .i64))(h':P'.underlying k'=some (.int .i64)):(plainElem P k:Value->Option (DataW Unit×List MemPlace))=plainElem P' k':=by funext v;simp only[plainElem,h,h']
theorem mapD.own{w:World}{b:Nat}{D:DataW Unit}(h:mapD w b D){P:Program}{k e:TypeId}(hk:P.underlying k=some (.int .i64))(he:P.underlying e=some (.int .i64)):∃n,w.ownsMap P k (plainElem P e) b n D:=by
 obtain⟨P0,k0,e0,n,hk0,he0,es,clock,hb,F,hs,hD⟩:=h;have e1:=keyOf_i64 hk0 hk;have e2:=plainElem_i64 he0 he;have e3:(Go.WideElems.rd P0 k0 (plainElem P0 e0):MapEntry->Option (Lit×DataW Unit))=Go.WideElems.rd P k (plainElem P e):=by funext x;unfold Go.WideElems.rd;rw[e1,e2]
 have e4:(Go.WideElems.rg P0 k0 (plainElem P0 e0):MapEntry->Lit×DataW Unit)=Go.WideElems.rg P k (plainElem P e):=by funext x;unfold Go.WideElems.rg;rw[e3]
 exact⟨n,es,clock,hb,⟨F.size,F.stamped,λx hx=>by rw[<-e3];exact F.reads x hx⟩,hs,by rw[<-e4];exact hD⟩
theorem lookupE_ok{t:TypeId}{x y z:AV}{u k:Value}(h:lookupE P t x y=some z)(hx:VR ι w x u)(hy:VR ι w y k):∃v,(Instr.lookup t u k true).run P w=.ok v w/\VR ι w z v:=by
 unfold lookupE at h;split at h
 ·rename_i m n;cases (show TR ι.un w (.int .i64 n) k from hy);split at h
  ·rename_i kt et ht;split at h
   ·rename_i inf hk hwf hinf;have K:Maps.Keyed P kt:=Maps.int_keyed hk;have hkey:keyOf P kt (.int .i64 n)=some (.int .i64 n):=(by simp[keyOf,hk,mapKey,hwf]);split at h
    ·cases (show TR ι.un w (.mp none) u from hx);split at h
     ·rename_i arr hz;rw[WF]at h;obtain⟨ts,hts,rfl⟩:=h;have hz':(zeroValue et).run P w=.ok (.agg arr) w:=(by simp[zeroValue,typeInfo,hinf,hz]);refine⟨_,Maps.look_nil true K ht hz' hkey,?_⟩;obtain⟨h1,h2⟩:=Wr (U:=ι.un) (w:=w) hts;refine⟨_,rfl,rfl,λi hi=> ?_⟩;have:i=0\/i=1:=(by simp at hi;omega);rcases this with rfl|rfl
      ·refine⟨.agg arr,rfl,arr,rfl,by simpa using h1.symm,λj hj=> ?_⟩;obtain⟨v,h3,h4⟩:=h2 j (by simpa using hj);exact⟨v,by simpa using h3,by simp only[AX];exact h4⟩
      ·exact⟨.bool false,rfl,.bool false⟩
     ·cases h
    ·rename_i D
     cases (show TR ι.un w (.mp (some D)) u from hx) with
     |mp _ b hb hm=>
     split at h
     ·rename_i c he hz hat;injection h with h;subst h;obtain⟨nn,hown⟩:=hm.own (P:=P) hk he;have hz':(zeroValue et).run P w=.ok (.int .i64 0) w:=(by simp[zeroValue,typeInfo,hinf,hz]);obtain⟨v,ps,hrun,hv⟩:=hown.look_ok K ht hz' (plainElem_int he (by decide)) hkey;rw[hat]at hv;obtain⟨c',rfl,hc,_⟩:=plainElem_int_inv he hv;have:c'=c:=(by have h1:=congrArg Prod.fst hc;injection h1 with h1;injection h1 with _ h1;exact h1.symm);subst this;refine⟨_,hrun,_,rfl,rfl,λi hi=> ?_⟩;have:i=0\/i=1:=(by simp at hi;omega);rcases this with rfl|rfl
      ·exact⟨_,rfl,.int _ _⟩
      ·exact⟨_,rfl,.bool _⟩
     ·cases h
   ·cases h
  ·cases h
 ·cases h
theorem opE_ok{N:Nat}{r:Q3}{a:Act}(h:HR ι J w)(hr:Qt N ι w r a){o:Oper}{res:Option AV}{S':Q1}(ho:opE P r J o.op=some (res,S')):
  Did P ι J w (execOp a.eval o) res S':=by
 obtain⟨dst,op,type,pos,after,guard⟩:=o;simp only at ho;unfold opE at ho;split at ho
 ·
  rename_i x;simp only[WF,A0]at ho;obtain⟨v,h1,rfl,rfl⟩:=ho;exact Qg h rfl (ev_ok hr h1)
 ·
  rename_i x;simp only[WF,A0]at ho;obtain⟨v,h1,rfl,rfl⟩:=ho;exact Qg h rfl (ev_ok hr h1)
 ·
  rename_i c x y;split at ho
  ·rename_i t hc;simp only[WF,A0]at ho;obtain⟨v,h1,rfl,rfl⟩:=ho;have hb:=Xl (ev_ok hr hc);have hv:=ev_ok hr h1;refine Qg h (v:=a.eval (if t then x else y)) ?_ hv;simp only[execOp,AQ,hb,asBool,Au,AR];cases t<;>rfl
  ·cases ho
 ·
  rename_i e;split at ho
  ·rename_i i hi;split at ho
   ·rename_i z hz;injection ho with ho;injection ho with e1 e2;subst e1;subst e2;exact(alloc_ok h hi hz).did (λv' w' hv'=>by simp only[execOp];rw[AQ,hv'];rfl)
   ·cases ho
  ·cases ho
 ·
  rename_i t x;split at ho
  ·rename_i v hv;split at ho
   ·rename_i hf;injection ho with ho;injection ho with e1 e2;subst e1;subst e2;exact(box_ok h hf (ev_ok hr hv) t).did (λv' w' hv'=>by simp only[execOp];rw[AQ,hv'];rfl)
   ·cases ho
  ·cases ho
 ·
  rename_i t ps;split at ho
  ·rename_i vs hvs;simp only[WF,A0]at ho;obtain⟨v,h1,rfl,rfl⟩:=ho;have hps:=evs_ok hr hvs;obtain⟨z,h2,h3⟩:=buildE_ok (w:=w) h1 (vs:=ps.map λ(i,x)=>(i,a.eval x)) (by simpa using hps);exact Qg h (by simp only[execOp];rw[AQ,h2];rfl) h3
  ·cases ho
 ·
  rename_i t n ps;split at ho
  ·rename_i vs hvs;simp only[WF,A0]at ho;obtain⟨⟨v,A1⟩,h1,rfl,rfl⟩:=ho;have hps:=evs_ok hr hvs;exact(V4 h h1 (vs:=ps.map λ(i,x)=>(i,a.eval x)) (by simpa using hps)).did (λv' w' hv'=>by simp only[execOp];rw[AQ,hv'];rfl)
  ·cases ho
 ·
  rename_i t x;split at ho
  ·rename_i i v hi hv;simp only[WF,A0]at ho;obtain⟨u,h1,rfl,rfl⟩:=ho;obtain⟨z,h2,h3⟩:=loadE_ok (P:=P) hi h (ev_ok hr hv) h1;exact Qg h (by simp only[execOp];rw[AQ,h2];rfl) h3
  ·cases ho
 ·
  rename_i t x y;split at ho
  ·rename_i i v u hi hv hu;simp only[WF,A0]at ho;obtain⟨A1,h1,rfl,rfl⟩:=ho;obtain⟨I',w',h2,h3,h4⟩:=storeE_ok (P:=P) h hi (ev_ok hr hv) (ev_ok hr hu) h1;exact⟨I',w',_,by simp[execOp,h2],rfl,h3,h4⟩
  ·cases ho
 ·
  rename_i x;split at ho
  ·rename_i p hx;injection ho with ho;injection ho with e1 e2;subst e1;subst e2;have hv:=ev_ok hr hx;have hv':=hv;obtain⟨ad,e,_⟩:=hv;exact Qg h (v:=a.eval x) (by simp only[execOp,e];rfl) hv'
  ·rename_i cs hx;injection ho with ho;injection ho with e1 e2;subst e1;subst e2;have hv:=ev_ok hr hx;obtain⟨b,off,e,_⟩:=KX hv;exact Qg h (v:=a.eval x) (by simp only[execOp,e];rfl) hv
  ·rename_i f cs hx;injection ho with ho;injection ho with e1 e2;subst e1;subst e2;have hv:=ev_ok hr hx;obtain⟨arr,e⟩:=fn_of hv;exact Qg h (v:=a.eval x) (by simp only[execOp,e];rfl) hv
  ·rename_i f cs hx;injection ho with ho;injection ho with e1 e2;subst e1;subst e2;have hv:=ev_ok hr hx;have hv':=hv;rcases cloR.func hv with ⟨g,a0,b0,e⟩|⟨l,e⟩<;>exact Qg h (v:=a.eval x) (by simp only[execOp,e];rfl) hv'
  ·cases ho
 ·
  rename_i op xT x y yT;split at ho
  ·rename_i u v hu hv;simp only[WF,A0]at ho;obtain⟨t,h1,rfl,rfl⟩:=ho;obtain⟨z,h2,h3⟩:=binE_ok h1 (ev_ok hr hu) (ev_ok hr hv) x y;exact Qg h (by simp only[execOp];rw[AQ,h2];rfl) h3
  ·cases ho
 ·
  rename_i op xT x;split at ho
  ·rename_i u hu;simp only[WF,A0]at ho;obtain⟨t,h1,rfl,rfl⟩:=ho;obtain⟨z,h2,h3⟩:=unE_ok (P:=P) h1 (ev_ok hr hu);exact Qg h (by simp only[execOp];rw[AQ,h2];rfl) h3
  ·cases ho
 ·
  rename_i src d x;split at ho
  ·rename_i u hu;simp only[WF,A0]at ho;obtain⟨t,h1,rfl,rfl⟩:=ho;obtain⟨z,h2,h3⟩:=convE_ok h1 (ev_ok hr hu);exact Qg h (by simp only[execOp];rw[AQ,h2];rfl) h3
  ·cases ho
 ·
  rename_i f first caps
  split at ho
  ·rename_i hf;split at ho
   ·rename_i vs hvs;simp only[WF,A0]at ho;obtain⟨y,h1,rfl,rfl⟩:=ho;obtain⟨us,hus,h2⟩:=Kg hr hvs;have hfirst:first= #[]:=Array.eq_empty_of_size_eq_zero hf
    subst hfirst;refine Qg h ?_ (makeFuncE_ok h1 h2);simp only[execOp,Instr.makeFunc,AQ,Au,AR];congr 3
    ·simp
    ·apply Array.ext';simpa using hus
   ·cases ho
  ·split at ho
   ·rename_i hf;split at ho
    ·rename_i vs hvs;simp only[WF,A0]at ho;obtain⟨y,h1,rfl,rfl⟩:=ho;obtain⟨us,hus,h2⟩:=Kg hr hvs;have hcaps:caps= #[]:=Array.eq_empty_of_size_eq_zero hf;subst hcaps;refine Qg h ?_ (makeBoundE_ok h1 h2);simp only[execOp,Instr.makeFunc,AQ,Au,AR];congr 3
     ·apply Array.ext';simpa using hus
     ·simp
    ·cases ho
   ·cases ho
 ·
  rename_i t l c;split at ho
  ·rename_i u v hu hv;simp only[WF,A0]at ho;obtain⟨⟨y,A1⟩,h1,rfl,rfl⟩:=ho;exact(makeSliceE_ok h h1 (ev_ok hr hu) (ev_ok hr hv)).did (λv' w' hv'=>by simp only[execOp];rw[AQ,hv'];rfl)
  ·cases ho
 ·
  rename_i t x lo hi mx;split at ho
  ·rename_i v l hh m hv hl hhi hm;simp only[WF,A0]at ho;obtain⟨y,h1,rfl,rfl⟩:=ho;obtain⟨z,h2,h3⟩:=sliceE_ok h h1 (ev_ok hr hv) (evo_ok hr hl) (evo_ok hr hhi) (evo_ok hr hm);exact Qg h (by simp only[execOp];rw[AQ,h2];rfl) h3
  ·cases ho
 ·
  rename_i t x f;split at ho
  ·rename_i v hv;simp only[WF,A0]at ho;obtain⟨y,h1,rfl,rfl⟩:=ho;obtain⟨z,h2,h3⟩:=fieldAddrE_ok h1 (ev_ok hr hv);exact Qg h (by simp only[execOp];rw[AQ,h2];rfl) h3
  ·cases ho
 ·
  rename_i t x f;split at ho
  ·rename_i v hv;simp only[WF,A0]at ho;obtain⟨y,h1,rfl,rfl⟩:=ho;obtain⟨z,h2,h3⟩:=fieldE_ok h1 (ev_ok hr hv);exact Qg h (by simp only[execOp];rw[AQ,h2];rfl) h3
  ·cases ho
 ·
  rename_i t x i;split at ho
  ·rename_i v n hv hn;simp only[WF,A0]at ho;obtain⟨y,h1,rfl,rfl⟩:=ho;obtain⟨z,h2,h3⟩:=indexAddrE_ok h h1 (ev_ok hr hv) (ev_ok hr hn);exact Qg h (by simp only[execOp];rw[AQ,h2];rfl) h3
  ·cases ho
 ·
  rename_i t x i;split at ho
  ·rename_i v n hv hn;simp only[WF,A0]at ho;obtain⟨y,h1,rfl,rfl⟩:=ho;obtain⟨z,h2,h3⟩:=indexE_ok h1 (ev_ok hr hv) (ev_ok hr hn);exact Qg h (by simp only[execOp];rw[AQ,h2];rfl) h3
  ·cases ho
 ·
  rename_i x i;split at ho
  ·rename_i v hv;simp only[WF,A0]at ho;obtain⟨y,h1,rfl,rfl⟩:=ho;obtain⟨z,h2,h3⟩:=extractE_ok (P:=P) h1 (ev_ok hr hv);exact Qg h (by simp only[execOp];rw[AQ,h2];rfl) h3
  ·cases ho
 ·
  rename_i b args ts;split at ho
  ·rename_i vs hvs;simp only[WF,A0]at ho;obtain⟨⟨y,A1⟩,h1,rfl,rfl⟩:=ho;obtain⟨us,hus,h2⟩:=Kg hr hvs;have hargs:args.map a.eval=us.toArray:=(by apply Array.ext';simpa using hus);obtain⟨s,h3,h4⟩:=builtinE_ok h h1 h2 type (args.map fun|.const _=>true|_=>false);have:execOp a.eval { dst:=dst,op:=.call { callee:=.builtin b,args:=args,argTypes:=ts },type:=type,pos:=pos,after:=after,guard:=guard }=(s>>=λv=>Pure.pure (Next.value v)):=(by have h3':builtin b ts type (args.map fun|.const _=>true|_=>false) us.toArray=(s>>=λv=>Pure.pure (Next.value v)):=h3;rw[<-h3'];simp only[execOp,resolve,hargs];rfl);rw[this];exact h4.did (λv' w' hv'=>by rw[AQ,hv'];rfl)
  ·cases ho
 ·
  rename_i t x k;split at ho
  ·rename_i v n hv hn;simp only[WF,A0]at ho;obtain⟨y,h1,rfl,rfl⟩:=ho;obtain⟨z,h2,h3⟩:=lookupE_ok (P:=P) h1 (ev_ok hr hv) (ev_ok hr hn);exact Qg h (by simp only[execOp];rw[AQ,h2];rfl) h3
  ·cases ho
 ·cases ho
end
end Go.Abs
namespace Go.Abs
variable [Gl]
def wr(ro:Option Nat):Fence:={ Fence.wide with round:=ro }
def XB (P : Program) (f : FuncId) : Prop := ∃ fn,P.funcs[f]? = some fn /\ (fn.name == "runtime.NumGoroutine") = false /\ fn.body.isNone = false
def Yn(ι:Map)(w:World)(args:List AV)(cargs:Array Value):Prop:=cargs.size=args.length/\∀i (hi:i<args.length),∃u,cargs[i]? =some u/\VR ι w args[i] u
def Qo(P:Program)(f:FuncId)(args:List AV)(J:Q1)(Q:AV->Q1->Prop):Prop:=
 XB P f/\∀ι w cargs,Jc ι w->HR ι J w->Yn ι w args cargs->CallsIn Fence.wide 0 P f cargs w λe w'=>
  ∃v S' I' cv,e=.returned cv/\Q v S'/\VR I' w' v cv/\HR I' S' w'/\Step ι J w I' S' w'
def Marks(n:Nat)(w:World)(ms:List Deferred):Prop:=
 (∀d∈ms,∃b,d.target=.collected b/\n<=b/\w.heap[b]? =some (.deferred (some [])))/\ms.Pairwise λd d'=>d.target≠d'.target
theorem Marks.nil(n:Nat)(w:World):Marks n w []:=⟨λ_ h=>(by cases h),.nil⟩
theorem un_mark{ι:Map}{J:Q1}{w:World}(h:HR ι J w){b:Nat}{ds:Option (List Deferred)}(hb:w.heap[b]? =some (.deferred ds)):ι.un b:=by
 rintro(⟨id,s,l,h3,h4,rfl⟩|hr)
 ·obtain⟨o,_,_,_,h5⟩:=h.obj id s h3;rw[h4]at h5;obtain⟨⟨cells,elem,h6,_⟩,_⟩:=h5;rw[h6]at hb;cases hb
 ·obtain⟨c,e,fr,h1⟩:=h.resRow b hr;rw[h1]at hb;cases hb
theorem Marks.step{n:Nat}{ι I':Map}{J S':Q1}{w w':World}{ms:List Deferred}(h:HR ι J w)(hs:Step ι J w I' S' w')(hm:Marks n w ms):Marks n w' ms:=by refine⟨λd hd=> ?_,hm.2⟩;obtain⟨b,h1,h0,h2⟩:=hm.1 d hd;refine⟨b,h1,h0,?_⟩;rw[hs.frame b (A8.1 h2).1 (un_mark h h2)];exact h2
theorem Marks.append{n n':Nat}{w:World}{ms ms':List Deferred}(h:Marks n w ms)(h':Marks n' w ms')(hn:n<=n')(hlt:∀d∈ms,∀b,d.target=.collected b->b<n'):Marks n w (ms'++ms):=by
 refine⟨λd hd=> ?_,List.pairwise_append.2 ⟨h'.2,h.2,λd hd d' hd' e=> ?_⟩⟩
 ·rcases Ad.1 hd with hd|hd
  ·obtain⟨b,h1,h0,h2⟩:=h'.1 d hd;exact⟨b,h1,BN hn h0,h2⟩
  ·exact h.1 d hd
 ·obtain⟨b,h1,h0,h2⟩:=h'.1 d hd;have:=hlt d' hd' b (e▸h1);omega
theorem Marks.lt{n:Nat}{w:World}{ms:List Deferred}(h:Marks n w ms):∀d∈ms,∀b,d.target=.collected b->b<w.heap.size:=λd hd b hb=>by obtain⟨b',h1,h0,h2⟩:=h.1 d hd;rw[hb]at h1;injection h1 with h1;subst h1;exact(A8.1 h2).1
def post(N:Nat)(Q:Exit->Q3->Q1->Prop)(ι:Map)(J:Q1)(w:World)(a:Act):Exit->Act->World->Prop:=λe a' w'=>
 (match e with|.panic _|.outgrown=>False|_=>True)/\∃r' S' I' ms,Q e r' S'/\HR I' S' w'/\Qt N I' w' r' a'/\Step ι J w I' S' w'/\a'.defers=ms++a.defers/\Marks w.heap.size w' ms
def Qw(P:Program)(N:Nat)(ro:Option Nat)(c:Code)(r:Q3)(J:Q1)(Q:Exit->Q3->Q1->Prop):Prop:=∀ι w a,HR ι J w->Qt N ι w r a->c.wpIn (wr ro) 0 P (post N Q ι J w a) a w
section
variable {P:Program}{N:Nat}{ro:Option Nat}
theorem post.trans{Q:Exit->Q3->Q1->Prop}{ι i₁:Map}{J s₁:Q1}{w w₁:World}{a a₁:Act}{ms:List Deferred}(h:HR i₁ s₁ w₁)(hs:Step ι J w i₁ s₁ w₁)(hd:a₁.defers=ms++a.defers)(hm:Marks w.heap.size w₁ ms){e:Exit}{a':Act}{w':World}
  (hp:post N Q i₁ s₁ w₁ a₁ e a' w'):post N Q ι J w a e a' w':=by
 obtain⟨h0,r',S',I',ms',h1,h2,h3,h4,h5,h6⟩:=hp;exact⟨h0,r',S',I',ms'++ms,h1,h2,h3,hs.trans h4,by rw[h5,hd,Ac],Marks.append (hm.step h h4) h6 hs.size hm.lt⟩
theorem Qw.mono{c:Code}{r:Q3}{J:Q1}{Q Q':Exit->Q3->Q1->Prop}(h:Qw P N ro c r J Q)(hq:∀e r J,Q e r J->Q' e r J):Qw P N ro c r J Q':=
 fun ι w a hh hr=>Bz (h ι w a hh hr) λ_ _ _ ⟨h0,r',S',I',ms,h1,h2⟩=>⟨h0,r',S',I',ms,hq _ _ _ h1,h2⟩
theorem Kz{Q:Exit->Q3->Q1->Prop}{e:Exit}(he:match e with|.panic _|.outgrown=>False|_=>True){r:Q3}{J:Q1}(h:Q e r J){ι:Map}{w:World}{a:Act}(hh:HR ι J w)(hr:Qt N ι w r a):post N Q ι J w a e a w:=
 ⟨he,r,J,ι,[],h,hh,hr,Step.refl ι J w,rfl,Marks.nil _ _⟩
theorem ok_skip{r:Q3}{J:Q1}{Q:Exit->Q3->Q1->Prop}(h:Q .normal r J):Qw P N ro .skip r J Q:=
 λ_ _ _ hh hr=>wpIn_skip (Kz trivial h hh hr)
theorem ok_exit{id:Nat}{r:Q3}{J:Q1}{Q:Exit->Q3->Q1->Prop}(h:Q (.exit id) r J):Qw P N ro (.exit id) r J Q:=
 λ_ _ _ hh hr=>wpIn_exit (Kz trivial h hh hr)
theorem ok_ret{r:Q3}{J:Q1}{Q:Exit->Q3->Q1->Prop}(h:Q .ret r J):Qw P N ro .ret r J Q:=
 λ_ _ _ hh hr=>wpIn_ret (Kz trivial h hh hr)
theorem ok_seq{x y:Code}{r:Q3}{J:Q1}{Q:Exit->Q3->Q1->Prop}(h:Qw P N ro x r J λe r' S'=>match e with|.normal=>Qw P N ro y r' S' Q|e=>Q e r' S'):Qw P N ro (.seq x y) r J Q:=
 fun ι w a hh hr=>wpIn_seq (Bz (h ι w a hh hr) λe a' w' hp=>by
  cases e with
  |normal=>obtain⟨_,r',S',I',ms,h1,h2,h3,h4,h5,h6⟩:=hp;exact Bz (h1 I' w' a' h2 h3) λ_ _ _ hp=>post.trans h2 h4 h5 h6 hp
  |_=>exact hp)
theorem ok_cond{c:Operand}{x y:Code}{r:Q3}{J:Q1}{t:Bool}(hc:ev r c=some (.c (.t (.bool t)))){Q:Exit->Q3->Q1->Prop}(h:Qw P N ro (if t then x else y) r J Q):Qw P N ro (.cond c x y) r J Q:=
 fun ι w a hh hr=>wpIn_cond (Xl (ev_ok hr hc)) (h ι w a hh hr)
theorem ok_block{id:Nat}{c:Code}{r:Q3}{J:Q1}{Q:Exit->Q3->Q1->Prop}(h:Qw P N ro c r J λe r' S'=>match e with|.exit i=>if i=id then Q .normal r' S' else Q (.exit i) r' S'|e=>Q e r' S'):
  Qw P N ro (.block id c) r J Q:=
 fun ι w a hh hr=>wpIn_block (Bz (h ι w a hh hr) λe a' w' hp=>by
  cases e with
  |exit i=>
   obtain⟨_,r',S',I',ms,h1,h2⟩:=hp;by_cases hi:i=id
   ·simp only[hi,Ag]at h1;simp only[Exit.inBlock,hi,Ag];exact⟨trivial,r',S',I',ms,h1,h2⟩
   ·simp only[hi,Af]at h1;simp only[Exit.inBlock,hi,Af];exact⟨trivial,r',S',I',ms,h1,h2⟩
  |_=>exact hp)
theorem Ju{P:Program}{b:Frame}{a:Act}{k:List Item}{cs:List Frame}{w:World}{c:Code}:step P (lone (b.atR a (.code (.scope c)::k)) cs w)=.next (lone (b.atR a (.code c::.inScope c::k)) cs w):=
 step_lone_go (by simp[stepG,stepG.exec,Frame.atR])
theorem stepR_inScope{P:Program}{b:Frame}{a:Act}{k:List Item}{cs:List Frame}{w:World}{c:Code}:step P (lone (b.atR a (.inScope c::k)) cs w)=.next (lone (b.atR a k) cs w):=
 step_lone_go (by simp[stepG,stepG.exec,Frame.atR])
theorem U6{F:Fence}{n:Nat}{P:Program}{c:Code}{Q:Exit->Act->World->Prop}{a:Act}{w:World}(h:c.wpIn F n P (λe a w=>match e with|.goto _=>False|e=>Q e a w) a w):(Code.scope c).wpIn F n P Q a w:=by
 intro b k cs hro hb hr;have h0:(lone (b.atR a (.code (.scope c)::k)) cs w).fenced P F:=fenced_calm hb hr rfl;obtain⟨e,a₁,w₁,hq,harr⟩:=h b (.inScope c::k) cs hro hb hr
 cases e with
 |normal=>exact⟨.normal,a₁,w₁,hq,.head h0 Ju (StepsIn.trans harr (.one (fenced_calm hb hr rfl) stepR_inScope))⟩
 |exit id'=>
  have hx:exitTo id' (.inScope c::k)=exitTo id' k:=(by simp[exitTo]);exact⟨.exit id',a₁,w₁,hq,λk' hk=>.head h0 Ju (harr.1 k' (by rw[hx];exact hk)),
   λhr' hk=>let ⟨k₁,h1,h2⟩:=harr.2 hr' (by rw[hx];exact hk);⟨k₁,h1,.head h0 Ju h2⟩⟩
 |goto l=>exact hq.elim
 |ret=>exact⟨_,a₁,w₁,hq,.of_steps (.one h0 Ju) harr⟩
 |panic ch=>exact⟨_,a₁,w₁,hq,.of_steps (.one h0 Ju) harr⟩
 |outgrown=>exact⟨_,a₁,w₁,hq,.of_steps (.one h0 Ju) harr⟩
theorem ok_scope{c:Code}{r:Q3}{J:Q1}{Q:Exit->Q3->Q1->Prop}(h:Qw P N ro c r J λe r' S'=>match e with|.goto _=>False|e=>Q e r' S'):Qw P N ro (.scope c) r J Q:=
 fun ι w a hh hr=>U6 (Bz (h ι w a hh hr) λe a' w' hp=>by
  cases e with
  |goto l=>exact hp.2.choose_spec.choose_spec.choose_spec.choose_spec.1.elim
  |_=>exact hp)
theorem ok_label{l:Nat}{r:Q3}{J:Q1}{Q:Exit->Q3->Q1->Prop}(h:Q .normal r J):Qw P N ro (.label l) r J Q:=
 fun ι w a hh hr=>wpIn_label ⟨trivial,r,J,ι,[],h,hh,hr,Step.refl ι J w,rfl,.nil _ _⟩
theorem wpIn_loop'{F:Fence}{n:Nat}{c:Code}{Q:Exit->Act->World->Prop}{a:Act}{w:World}(I:Nat->Act->World->Prop){j:Nat}(h₀:I j a w)
  (round:∀j a w,I j a w->c.wpIn F n P (Exit.then (λa' w'=>∃m,m<j/\I m a' w') Q) a w):(Code.loop c).wpIn F n P Q a w:=by
 intro b k cs hro hb hr;have key:∀j a w,I j a w->
   ∃e a' w',Q e a' w'/\ArrivesIn (Machine.fenced P F) P (lone (b.atR a (.code c::.inLoop c::k)) cs w) b k cs e a' w':=by
  intro j
  induction j using Nat.strongRecOn with
  |_ j ih=>
   intro a w hI;obtain⟨e,a₁,w₁,hq,harr⟩:=round j a w hI b (.inLoop c::k) cs hro hb hr
   cases e with
   |normal=>obtain⟨m,hlt,hI₁⟩:=hq;obtain⟨e₂,a₂,w₂,hq₂,harr₂⟩:=ih m hlt a₁ w₁ hI₁;exact⟨e₂,a₂,w₂,hq₂,.of_steps (StepsIn.trans harr (.one (fenced_calm hb hr rfl) stepR_inLoop)) harr₂⟩
   |exit id=>exact⟨_,a₁,w₁,hq,.pass (x:=.inLoop c) rfl (λ_ _=>.inl (by simp)) harr⟩
   |goto l=>exact⟨_,a₁,w₁,hq,.pass (x:=.inLoop c) rfl (λ_ _=>.inl (by simp)) harr⟩
   |ret=>exact⟨_,a₁,w₁,hq,.pass (x:=.inLoop c) rfl (λ_ _=>.inl (by simp)) harr⟩
   |panic ch=>exact⟨_,a₁,w₁,hq,.pass (x:=.inLoop c) rfl (λ_ _=>.inl (by simp)) harr⟩
   |outgrown=>exact⟨_,a₁,w₁,hq,.pass (x:=.inLoop c) rfl (λ_ _=>.inl (by simp)) harr⟩
 obtain⟨e,a',w',hq,harr⟩:=key j a w h₀;exact⟨e,a',w',hq,.of_steps (.one (fenced_calm hb hr rfl) stepR_loop) harr⟩
def ZI(N:Nat)(r:Q3)(J:Q1)(r':Q3)(S':Q1):Prop:=
 ∀ι w a,HR ι J w->Qt N ι w r a->∃I',HR I' S' w/\Qt N I' w r' a/\Step ι J w I' S' w
def Z7(v:AV):Option (FuncId×List AV):=match v with
 |.c (.t (.fn f caps))=>some (f,caps.map λt=>.c (.t t))
 |.c (.clo f rs)=>if f=YID\/BND<=f then none else some (f,rs.map λr=>.c (.ptr r))
 |_=>none
def Zi(v:AV)(as:List AV):Option (FuncId×List AV):=match Z7 v with
 |some (g,caps)=>some (g,as++caps)
 |none=>match v with
  |.c (.clo f rs)=>if BND<=f then some (f - BND,(rs.map λr=>.c (.ptr r))++as) else none
  |_=>none
def K8(v:AV)(want:Bool):Option Bool:=match v with
 |.c (.t (.bool b))=>some (b==want)
 |.tup xs=>if xs.isEmpty then some false else none
 |_=>none
def JP(ops:Array Oper)(r:Q3):Option (Nat×Bool)->Option Bool
 |none=>some true
 |some (j,want)=>match (ops[j]?).bind (·.dst) with
  |some d=>match r.at d with
   |some v=>K8 v want
   |none=>none
  |none=>none
def Jd(N:Nat):Option Nat->Bool
 |none=>true
 |some d=>decide (d<N)
def Q3.Qu(r:Q3)(dst:Option Nat):Option AV->Q3
 |some v=>r.put dst v
 |none=>r.drop dst
def Qr:Operand->Bool
 |.const (.slice none 0 0)=>true
 |_=>false
def slLen:AV->Option Nat
 |.c (.sl _ n _)=>some n
 |.c (.t (.imm _ n _))=>some n
 |_=>none
def eqOp:BinOp->Option Bool
 |.eql=>some false
 |.neq=>some true
 |_=>none
def J2(P:Program)(r:Q3):Op->Option (Nat×Bool)
 |.binOp op xT x y _=>if Qr y then (match tinf P xT,ev r x,eqOp op with
  |some i,some v,some ne=>(match i.kind,slLen v with
   |.slice _,some n=>some (n,ne)
   |_,_=>none)
  |_,_,_=>none) else none
 |_=>none
def JS(P:Program)(r:Q3)(J:Q1)(o:Oper)(K:Option AV->Q1->Prop):Prop:=
 match o.op with
 |.call { callee:=.value f,args,argTypes:=_ }=>match ev r f,evl r args.toList with
  |some fv,some as=>match Zi fv as with
   |some (g,as')=>Qo P g as' J λv S'=>K (some v) S'
   |none=>False
  |_,_=>False
 |op=>match J2 P r op with
  |some (n,ne)=>K (some (aB ne)) J/\(n=0->K (some (aB !ne)) J)
  |none=>match opE P r J op with
   |some (res,S')=>K res S'
   |none=>False
end
end Go.Abs
namespace Go.Abs
variable [Gl]
section
variable {P:Program}{N:Nat}{ro:Option Nat}
theorem Ka{ops:Array Oper}{ι:Map}{w:World}{r:Q3}{a:Act}(hr:Qt N ι w r a){o:Oper}{b:Bool}(h:JP ops r o.guard=some b):Region.wanted o (yielded ops a.tmps)=b:=by
 unfold Region.wanted
 cases hg:o.guard with
 |none=>rw[hg]at h;simp only[JP,X3]at h;exact h
 |some p=>
  obtain⟨j,want⟩:=p;rw[hg]at h;simp only[JP]at h;split at h
  ·rename_i d hd;split at h
   ·rename_i v hb';unfold K8 at h;split at h
    ·rename_i b';injection h with h;have hv:=Xl (hr.at hb');have ht:a.tmps[d]? =some (.bool b'):=by
      by_cases hlt:d<a.tmps.size
      ·simp only[Array.getD,hlt,dif_pos]at hv;rw[Bf hlt];exact congrArg some hv
      ·simp[Array.getD,hlt,undef]at hv
     have:yielded ops a.tmps j=some b':=(by simp only[yielded,hd,Option.bind_some,ht]);simp only[this];rw[<-h];cases b'<;>cases want<;>rfl
    ·rename_i xs;split at h
     ·injection h with h;subst h;obtain⟨arr,e,_,_⟩:=hr.at hb';have hne:∀b,a.tmps[d]? ≠some (.bool b):=λb hb=>(by have:a.tmps.getD d undef=.bool b:=(by simp[B5,hb]);rw[e]at this;cases this);have:yielded ops a.tmps j=none:=(by simp only[yielded,hd,Option.bind_some]);simp only[this];rfl
     ·cases h
    ·cases h
   ·cases h
  ·cases h
theorem Zx{dst:Option Nat}(h:Jd N dst=true):∀d,dst=some d->d<N:=λd hd=>by subst hd;simpa [Jd] using h
theorem nilTest_ok{ι:Map}{J:Q1}{w:World}{r:Q3}{a:Act}(hh:HR ι J w)(hr:Qt N ι w r a){o:Oper}{n:Nat}{ne:Bool}(h:J2 P r o.op=some (n,ne)):
  ∃b,(execOp a.eval o).run P w=.ok (.value (.bool b)) w/\(b=ne\/(b=!ne/\n=0)):=by
 obtain⟨dst,op,type,pos,after,guard⟩:=o;simp only at h;unfold J2 at h;split at h
 ·rename_i op xT x y yT;split at h
  ·rename_i hy;split at h
   ·rename_i i v ne' hi hx hop;split at h
    ·rename_i e n' hk hl;injection h with h;injection h with e1 e2;subst e1;subst e2;have hu:=Qq hi hk;have hye:a.eval y=.slice none 0 0:=by
      unfold Qr at hy;split at hy
      ·rfl
      ·cases hy
     obtain⟨ad,c,hxe,hs⟩:∃ad c,a.eval x=.slice ad n' c/\(n'=0\/ad.isSome=true):=by
      have hv:=ev_ok hr hx;unfold slLen at hl;split at hl
      ·injection hl with hl;subst hl;obtain⟨ad,c,e1,hs,_⟩:=hv;exact⟨ad,c,e1,hs⟩
      ·injection hl with hl;subst hl;generalize a.eval x=u at hv
       cases hv with
       |imm0=>exact⟨_,_,rfl,.inl rfl⟩
       |imm=>exact⟨_,_,rfl,.inr rfl⟩
      ·cases hl
     have heq:∀d,(Op.equalIn (d+1) xT (.slice ad n' c) (.slice none 0 0)).run P w=.ok ad.isNone w:=λd=>(by cases ad<;>simp[Op.equalIn,AY hu]);have heq':(Op.equal xT (.slice ad n' c) (.slice none 0 0)).run P w=.ok ad.isNone w:=heq 9999;have hfin:∀b:Bool,b=(ad.isNone !=ne')->(b=ne'\/(b=!ne'/\n'=0)):=λb hb=>by
      cases ad with
      |none=>
       rcases hs with hs|hs
       ·right;exact⟨by rw[hb];simp,hs⟩
       ·simp at hs
      |some _=>left;rw[hb];simp
     cases op<;>simp only[eqOp,X3,reduceCtorEq]at hop
     ·subst hop;refine⟨ad.isNone,?_,hfin _ (by simp)⟩;have hg:(eqGuard .eql xT x y (.slice ad n' c) (.slice none 0 0)).run P w=.ok () w:=(by unfold eqGuard;simp);have hb:(binOp .eql xT (.slice ad n' c) (.slice none 0 0)).run P w=.ok (.bool ad.isNone) w:=(by show(do pure (Value.bool (<-Op.equal xT (.slice ad n' c) (.slice none 0 0))):Sem Value).run P w=_;rw[AQ,heq'];rfl);simp only[execOp,hxe,hye,AQ,hg,AR,hb,Au]
     ·subst hop;refine⟨!ad.isNone,?_,hfin _ (by simp)⟩;have hg:(eqGuard .neq xT x y (.slice ad n' c) (.slice none 0 0)).run P w=.ok () w:=(by unfold eqGuard;simp);have hb:(binOp .neq xT (.slice ad n' c) (.slice none 0 0)).run P w=.ok (.bool (!ad.isNone)) w:=(by show(do pure (Value.bool (!(<-Op.equal xT (.slice ad n' c) (.slice none 0 0)))):Sem Value).run P w=_;rw[AQ,heq'];rfl);simp only[execOp,hxe,hye,AQ,hg,AR,hb,Au]
    ·cases h
   ·cases h
  ·cases h
 ·cases h
theorem Yu{ρ:Operand->Value}{o:Oper}(h:∀c,o.op≠.defer c):o.semAt ro ρ=execOp ρ o:=Oper.semAt_eq ro ρ o h
theorem opE_defer{r:Q3}{J:Q1}{op:Op}{x:Option AV×Q1}(h:opE P r J op=some x):∀c,op≠.defer c:=λc e=>by subst e;simp[opE]at h
theorem run_call{ρ:Operand->Value}{o:Oper}{f:Operand}{args:Array Operand}{ts:Array TypeId}(ho:o.op=.call { callee:=.value f,args:=args,argTypes:=ts }){g:FuncId}{arr:Array Value}(hf:ρ f=.func (.func g) #[] arr)
  (hc:XB P g) (w:World):(execOp ρ o).run P w=.ok (.enter g (args.map ρ++arr)) w:=by
 obtain⟨fn,h1,h2,h3⟩:=hc;have h2' : ¬ fn.name = "runtime.NumGoroutine" := λe => by rw [e] at h2; simp at h2
 have h3':¬fn.body=none:=λe=>by rw[e]at h3;simp at h3
 simp only[execOp,ho,resolve,hf,Deferred.ofValue,invoke,callFunc];simp[h1,h2',h3']
theorem run_callB{ρ:Operand->Value}{o:Oper}{f:Operand}{args:Array Operand}{ts:Array TypeId}(ho:o.op=.call { callee:=.value f,args:=args,argTypes:=ts }){g:FuncId}{arr:Array Value}(hf:ρ f=.func (.func g) arr #[])
  (hc:XB P g) (w:World):(execOp ρ o).run P w=.ok (.enter g (arr++args.map ρ)) w:=by
 obtain⟨fn,h1,h2,h3⟩:=hc;have h2' : ¬ fn.name = "runtime.NumGoroutine" := λe => by rw [e] at h2; simp at h2
 have h3':¬fn.body=none:=λe=>by rw[e]at h3;simp at h3
 simp only[execOp,ho,resolve,hf,Deferred.ofValue,invoke,callFunc];simp[h1,h2',h3']
theorem ZA{ι:Map}{J:Q1}{w:World}{r:Q3}{a:Act}(hh:HR ι J w)(hr:Qt N ι w r a){o:Oper}(hd:Jd N o.dst=true){K:Option AV->Q1->Prop}(h:JS P r J o K)
  {next:Act->World->Prop} {Q:Exit->Act->World->Prop}
  (hn:∀res S' I' w' a',K res S'->HR I' S' w'->Qt N I' w' (r.Qu o.dst res) a'->Step ι J w I' S' w'->a'.defers=a.defers->next a' w'):
  o.wpIn (wr ro) 0 P a w next Q:=by
 refine⟨λ_ _=>trivial,?_⟩;have hput:∀(v:Value),(a.put o.dst v).defers=a.defers:=λv=>by cases o.dst<;>rfl
 unfold JS at h;split at h
 ·rename_i f args ts hop;split at h
  ·rename_i fv as hf has;split at h
   ·rename_i g as' ht;obtain⟨hcal,hcall⟩:=h;have hfv:=ev_ok hr hf;obtain⟨us,hus,hu1,hu2⟩:=Kg hr has;have hargs:args.map a.eval=us.toArray:=(by apply Array.ext';simpa using hus);obtain⟨cargs,hrun,hA⟩:∃cargs:Array Value,(execOp a.eval o).run P w=.ok (.enter g cargs) w/\Yn ι w as' cargs:=by
     unfold Zi at ht;split at ht
     ·rename_i g' caps ht';injection ht with ht;injection ht with e3 e4;subst e3;subst e4;obtain⟨arr,e1,hsz,harr⟩:∃arr,a.eval f=.func (.func g') #[] arr/\arr.size=caps.length/\∀i (hi:i<caps.length),∃u,arr[i]? =some u/\VR ι w caps[i] u:=by
       have ht:=ht';unfold Z7 at ht;split at ht
       ·rename_i f' cs;injection ht with ht;injection ht with e1 e2;subst e1;subst e2;generalize a.eval f=u at hfv
        cases hfv with
        |fn f' cs arr h1 h2=>refine⟨arr,rfl,by simpa using h1,λi hi=> ?_⟩;have hi':i<cs.length:=(by simpa using hi);have hlt:i<arr.size:=(by omega);refine⟨arr[i],by simp[hlt],?_⟩;have:=h2 i hi';simp only[Array.getD,hlt,dif_pos]at this;simpa [VR,CR] using this
       ·rename_i f' rs;split at ht
        ·cases ht
        rename_i hy;injection ht with ht;injection ht with e1 e2;subst e1;subst e2;obtain⟨arr,e,h1,h2⟩:=cloR.no hfv (λe=>hy (.inl e));refine⟨arr,e.trans (fnv_no (λe=>hy (.inr e)) _),by simpa using h1,λi hi=> ?_⟩;have hi':i<rs.length:=(by simpa using hi);have hlt:i<arr.size:=(by omega);obtain⟨ad,h3,h4⟩:=h2 i hi';have h3':arr[i]=.pointer (some ad):=(by simp only[Array.getD,hlt,dif_pos]at h3;exact h3);refine⟨arr[i],by simp[hlt],?_⟩;rw[AX];exact⟨ad,h3',h4⟩
       ·cases ht
      refine⟨_,run_call (P:=P) (ρ:=a.eval) hop e1 hcal w,⟨by simp[hargs,hu1,hsz],λi hi=> ?_⟩⟩;by_cases hlt:i<as.length
      ·obtain⟨u,h3,h4⟩:=hu2 i hlt;refine⟨u,?_,by rw[BP hlt];exact h4⟩;rw[Bp (by simp[hargs,hu1,hlt]),hargs];simpa using h3
      ·have hi':i - as.length<caps.length:=(by simp at hi;omega);obtain⟨u,h3,h4⟩:=harr (i - as.length) hi';refine⟨u,?_,by rw[Be (by omega)];exact h4⟩;rw[Array.getElem?_append_right (by simp[hargs,hu1];omega)];rw[show(args.map a.eval).size=as.length by simp[hargs,hu1]];exact h3
     ·split at ht
      ·rename_i f' rs _;split at ht
       ·rename_i hb;injection ht with ht;injection ht with e3 e4;subst e3;subst e4;have hne:f'≠YID:=λe=>(by rw[e]at hb;unfold BND YID at hb;omega);obtain⟨arr,e,h1,h2⟩:=cloR.no hfv hne;have e1:a.eval f=.func (.func (f' - BND)) arr #[]:=(by rw[e];unfold fnv;rw[AF hb]);refine⟨_,run_callB (P:=P) (ρ:=a.eval) hop e1 hcal w,⟨by simp[hargs,hu1,h1],λi hi=> ?_⟩⟩;by_cases hlt:i<rs.length
        ·have hlt':i<arr.size:=(by omega);obtain⟨ad,h3,h4⟩:=h2 i hlt;have h3':arr[i]=.pointer (some ad):=(by simp only[Array.getD,hlt',dif_pos]at h3;exact h3);refine⟨arr[i],by rw[Bp hlt'];simp[hlt'],?_⟩;rw[BP (by simpa using hlt),AX];exact⟨ad,h3',h4⟩
        ·have hi':i - rs.length<as.length:=(by simp at hi;omega);obtain⟨u,h3,h4⟩:=hu2 (i - rs.length) hi';refine⟨u,?_,?_⟩
         ·rw[Array.getElem?_append_right (by omega),hargs,h1];simpa using h3
         ·rw[Be (by simpa using hlt)];simpa using h4
       ·cases ht
      ·cases ht
    rw[Yu (by rw[hop];intro c e;cases e),hrun,Oper.uponIn_enter];refine⟨(λe=>by cases e),?_⟩;have hc2:=hcall ι w cargs hr.gl hh hA;refine BI (show CallsIn (wr ro) 0 P g cargs w _ from hc2) ?_;rintro e w' ⟨v,S',I',cv,rfl,hK,hv,hh',hs'⟩;exact hn (some v) S' I' w' _ hK hh' ((hr.step hh hs').put (Zx hd) hv) hs' (hput _)
   ·cases h
  ·cases h
 ·split at h
  ·rename_i op _ n ne hnil;obtain⟨b,h1,h2⟩:=nilTest_ok hh hr hnil;rw[Yu (λc e=>by rw[e]at hnil;simp[J2]at hnil),h1,Oper.uponIn_value];obtain⟨h3,h4⟩:=h;rcases h2 with rfl|⟨rfl,hn0⟩
   ·exact hn _ J ι w _ h3 hh (hr.put (Zx hd) (TR.bool _)) (Step.refl ι J w) (hput _)
   ·exact hn _ J ι w _ (h4 hn0) hh (hr.put (Zx hd) (TR.bool _)) (Step.refl ι J w) (hput _)
  ·split at h
   ·rename_i res S' hop;obtain⟨I',w',nx,h1,h2,h3,h4⟩:=opE_ok hh hr hop;rw[Yu (opE_defer hop),h1]
    cases res with
    |none=>subst h2;rw[Oper.uponIn_skip];exact hn none S' I' w' _ h h4 ((hr.step hh h3).drop (Zx hd)) h3 (hput _)
    |some v=>obtain⟨u,rfl,hv⟩:=h2;rw[Oper.uponIn_value];exact hn (some v) S' I' w' _ h h4 ((hr.step hh h3).put (Zx hd) hv) h3 (hput _)
   ·exact h.elim
end
end Go.Abs
namespace Go.Abs
variable [Gl]
section
variable {P:Program}{N:Nat}{ro:Option Nat}
def resE(P:Program)(r:Q3)(J:Q1):List ResultVar->Option (List AV)
 |[]=>some []
 |.tmp t::rest=>match r.at t,resE P r J rest with
  |some v,some vs=>some (v::vs)
  |_,_=>none
 |.cell a t::rest=>match tinf P t,r.at a,resE P r J rest with
  |some i,some p,some vs=>match Xy J i p with
   |some v=>some (v::vs)
   |none=>none
  |_,_,_=>none
def compE:AV->Option (Cell⊕List Cell)
 |.c x=>some (.inl x)
 |.agg xs=>some (.inr xs)
 |.tup _=>none
def KF:List AV->Option (List (Cell⊕List Cell))
 |[]=>some []
 |v::vs=>match compE v,KF vs with
  |some x,some xs=>some (x::xs)
  |_,_=>none
def packE:List AV->Option AV
 |[v]=>some v
 |vs=>(KF vs).map .tup
def Yv(P:Program)(rs:List ResultVar)(r:Q3)(J:Q1):Option AV:=match resE P r J rs with
 |some vs=>packE vs
 |none=>none
def resSem(tmps:Array Value):ResultVar->Sem Value
 |.tmp t=>pure (tmps.getD t undef)
 |.cell x t=>do loadVar t (<-asAddr (tmps.getD x undef))
theorem resE_ok{ι:Map}{J:Q1}{w:World}{r:Q3}{a:Act}(hh:HR ι J w)(hr:Qt N ι w r a):∀{rs:List ResultVar} {vs:List AV},resE P r J rs=some vs->
  ∃us:List Value,((rs.mapM (resSem a.tmps)).run P w=.ok us w)/\us.length=vs.length/\∀i (hi:i<vs.length),∃u,us[i]? =some u/\VR ι w vs[i] u
 |[],vs,h=>by simp only[resE,X3]at h;subst h;exact⟨[],rfl,rfl,λi hi=>absurd hi (by simp)⟩
 |.tmp t::rest,vs,h=>by
  simp only[resE]at h;split at h
  ·rename_i v vs' h1 h2;injection h with h;subst h;obtain⟨us,h3,h4,h5⟩:=resE_ok hh hr h2;refine⟨a.tmps.getD t undef::us,?_,by simp[h4],λi hi=> ?_⟩
   ·simp only[List.mapM_cons,resSem,AQ,Au,AR,h3]
   ·cases i with
    |zero=>exact⟨_,rfl,hr.at h1⟩
    |succ i=>simpa using h5 i (by simpa using hi)
  ·cases h
 |.cell x t::rest,vs,h=>by
  simp only[resE]at h;split at h
  ·rename_i i p vs' hi h1 h2;split at h
   ·rename_i v hv;injection h with h;subst h;obtain⟨us,h3,h4,h5⟩:=resE_ok hh hr h2;obtain⟨u,h6,h7⟩:=loadE_ok (P:=P) hi hh (hr.at h1) hv;have haddr:∃ad,a.tmps.getD x undef=.pointer (some ad):=by
     have hp:=hr.at h1;unfold Xy at hv;split at hv
     ·obtain⟨ad,e,_⟩:=hp;exact⟨ad,e⟩
     ·obtain⟨b,off,e,_⟩:=KX hp;exact⟨_,e⟩
     ·cases hv
    obtain⟨ad,e⟩:=haddr;have h8:(loadVar t ad).run P w=.ok u w:=(by rw[e]at h6;simpa [Instr.loadAt,Instr.sureAddr] using h6);refine⟨u::us,?_,by simp[h4],λi hi=> ?_⟩
    ·simp only[List.mapM_cons,resSem,AQ,e,asAddr,Au,AR,h8,h3]
    ·cases i with
     |zero=>exact⟨_,rfl,h7⟩
     |succ i=>simpa using h5 i (by simpa using hi)
   ·cases h
  ·cases h
theorem compsE_ok{ι:Map}{w:World}:∀{vs:List AV} {xs:List (Cell⊕List Cell)},KF vs=some xs->∀{us:List Value},us.length=vs.length->(∀i (hi:i<vs.length),∃u,us[i]? =some u/\VR ι w vs[i] u)->
  us.length=xs.length/\∀i (hi:i<xs.length),∃u,us[i]? =some u/\compR ι w xs[i] u
 |[],xs,h,us,hl,hv=>by simp only[KF,X3]at h;subst h;exact⟨hl,λi hi=>absurd hi (by simp)⟩
 |v::vs,xs,h,us,hl,hv=>by
  simp only[KF]at h;split at h
  ·rename_i x xs' h1 h2;injection h with h;subst h
   cases us with
   |nil=>simp at hl
   |cons u us=>
    obtain⟨h3,h4⟩:=compsE_ok h2 (us:=us) (by simpa using hl) (λi hi=>by
     obtain⟨u',h5,h6⟩:=hv (i+1) (by simpa using hi);exact⟨u',by simpa using h5,h6⟩)
    refine⟨by simp[h3],λi hi=> ?_⟩
    cases i with
    |zero=>
     obtain⟨u',h5,h6⟩:=hv 0 (by simp);refine⟨u',h5,?_⟩;cases v<;>simp only[compE,X3,reduceCtorEq]at h1
     ·subst h1;exact h6
     ·subst h1;exact h6
    |succ i=>simpa using h4 i (by simpa using hi)
  ·cases h
theorem retE_ok{ι:Map}{J:Q1}{w:World}{r:Q3}{a:Act}(hh:HR ι J w)(hr:Qt N ι w r a){fn:Func}{v:AV}(h:Yv P fn.results.toList r J=some v):
  ∃u,(results fn a.tmps).run P w=.ok u w/\VR ι w v u:=by
 unfold Yv at h;split at h
 ·rename_i vs hvs;obtain⟨us,h1,h2,h3⟩:=resE_ok (P:=P) hh hr hvs;have hm:(results fn a.tmps).run P w=.ok (if h:us.toArray.size=1 then us.toArray[0] else .tuple us.toArray) w:=(by have hres:results fn a.tmps=(fn.results.mapM (resSem a.tmps)>>=λvs=>Pure.pure (if h:vs.size=1 then vs[0] else .tuple vs)):=(by unfold results;congr 1);rw[hres,AQ,Array.mapM_eq_mapM_toList];simp only[Sem.run_map,h1,AR,Au]);refine⟨_,hm,?_⟩;unfold packE at h;split at h
  ·rename_i x;injection h with h;subst h;obtain⟨u,rfl,hv⟩:=vals1 ⟨h2,h3⟩;exact hv
  ·rename_i hne;simp only[WF]at h;obtain⟨xs,h4,rfl⟩:=h;have hn1:¬us.toArray.size=1:=(by intro e;have:vs.length=1:=(by rw[<-h2];simpa using e);obtain⟨x,hx⟩:=List.length_eq_one_iff.1 this;exact hne x hx);rw[dif_neg hn1];obtain⟨h5,h6⟩:=compsE_ok h4 h2 h3;exact⟨us.toArray,rfl,by simpa using h5,λi hi=>by simpa using h6 i hi⟩
 ·cases h
theorem HR.other{ι:Map}{J:Q1}{w w':World}(h:HR ι J w)(hb:∀b,Uj w b->w'.heap[b]? =w.heap[b]?):
  HR ι J w'/\∀v u,VR ι w v u->VR ι w' v u:=by
 have hT:∀t u,TR ι.un w t u->TR ι.un w' t u:=λt u ht=>ht.mono λb hu hrow=>⟨hu,hb b hrow⟩;have hC:∀c u,CR ι w c u->CR ι w' c u:=λc u hc=>by
  cases c with
  |t x=>exact hT x u hc
  |ptr r=>exact hc
  |sl r len cap=>exact hc
  |clo f caps=>exact hc
 have hA:∀xs u,Jf ι w xs u->Jf ι w' xs u:=λxs u ⟨arr,e,h1,h2⟩=>⟨arr,e,h1,λi hi=>let ⟨v,h3,h4⟩:=h2 i hi;⟨v,h3,hC _ _ h4⟩⟩;refine⟨⟨λid s hs=> ?_,h.inj,λb hr=>(let ⟨c,e,fr,h1⟩:=h.resRow b hr;⟨c,e,fr,(hb b (.inl ⟨c,e,fr,h1⟩)).trans h1⟩),h.resNo⟩,λv u hv=> ?_⟩
 ·obtain⟨o,h1,h2,h3,h4⟩:=h.obj id s hs;refine⟨o,h1,h2,h3,?_⟩
  cases hl:s.loc with
  |none=>rw[hl]at h4;exact h4
  |some l=>rw[hl]at h4;obtain⟨⟨cells,elem,h5,h6⟩,h7,h8⟩:=h4;have e:=hb l.blk (.inl ⟨cells,elem,_,h5⟩);refine⟨⟨cells,elem,e.trans h5,h6⟩,h7,λi hi=> ?_⟩;obtain⟨v,h9,h10⟩:=h8 i hi;exact⟨v,(Jt e _).trans h9,hC _ _ h10⟩
 ·cases v with
  |c x=>exact hC x u hv
  |agg xs=>exact hA xs u hv
  |tup xs=>
   obtain⟨arr,e,h1,h2⟩:=hv;refine⟨arr,e,h1,λi hi=> ?_⟩;obtain⟨v,h3,h4⟩:=h2 i hi;refine⟨v,h3,?_⟩
   cases hx:xs[i] with
   |inl x=>rw[hx]at h4;exact hC x v h4
   |inr x=>rw[hx]at h4;exact hA x v h4
def Qv(args:List AV):Q3:=args.zipIdx.map λ(v,i)=>(i,v)
theorem Zq:∀(args:List AV) (k t:Nat) (v:AV),Q3.get ((args.zipIdx k).map λ(v,i)=>(i,v)) t=some v->k<=t/\args[t - k]? =some v
 |[],k,t,v,h=>by simp[Q3.get]at h
 |x::args,k,t,v,h=>by
  simp only[List.zipIdx_cons,AT,Q3.get]at h;split at h
  ·rename_i e;subst e;injection h with h;exact⟨A6 _,by simp[h]⟩
  ·rename_i hne;obtain⟨h1,h2⟩:=Zq args (k+1) t v h;refine⟨by omega,?_⟩;have e:t - k=(t - (k+1))+1:=(by omega);rw[e,Ax];exact h2
theorem Jr{w:World}{b:Nat}{o:Go.Obj}{c:Nat}(h:c≠b):(w.putObj b o).heap[c]? =w.heap[c]? :=by simp[World.putObj,Array.getElem?_setIfInBounds,h.symm]
theorem KT{fn:Func}{tmps:Array Value}{R:Ending->World->Prop}{n:Nat}{P:Program}:∀(ms:List Deferred) (w:World),Marks n w ms->
  (∀w',(∀b,(∀d∈ms,d.target≠.collected b)->w'.heap[b]? =w.heap[b]?)->w'.heap.size=w.heap.size->w'.os=w.os->w'.output=w.output->∃v,(results fn tmps).run P w'=.ok v w'/\R (.returned v) w')->
  LeavesInM Fence.wide 0 P fn tmps R ms .returning w
 |[],w,hm,h=>h w (λ_ _=>rfl) rfl rfl rfl
 |d::ds,w,hm,h=>by
  obtain⟨b,h1,h0,h2⟩:=hm.1 d (by simp);have hne:∀d'∈ds,∀b',d'.target=.collected b'->b'≠b:=λd' hd' b' hb' e=>(by have:=(List.pairwise_cons.1 hm.2).1 d' hd';rw[h1,hb',e]at this;exact this rfl);refine⟨(λe=>by cases e),.inl ⟨b,w.putObj b (.deferred none),h1,run_takeDeferred h2,?_⟩⟩;refine KT (n:=n) ds _ ⟨λd' hd'=> ?_,(List.pairwise_cons.1 hm.2).2⟩ λw' hrow hsz hos hout=> ?_
  ·obtain⟨b',h3,h4,h5⟩:=hm.1 d' (by simp[hd']);exact⟨b',h3,h4,by rw[Jr (hne d' hd' b' h3)];exact h5⟩
  ·refine h w' (λc hc=> ?_) (by rw[hsz];simp[World.putObj]) (by rw[hos];rfl) (by rw[hout];rfl);have hcb:c≠b:=λe=>hc d (by simp) (by rw[h1,e]);rw[hrow c λd' hd'=>hc d' (by simp[hd']),Jr hcb]
theorem Marks.others{n:Nat}{w:World}{ms:List Deferred}(hm:Marks n w ms){b:Nat}(h:b<n\/∀ds,w.heap[b]? ≠some (.deferred ds)):∀d∈ms,d.target≠.collected b:=λd hd e=>by
 obtain⟨b',h1,h2,h3⟩:=hm.1 d hd;rw[e]at h1;injection h1 with h1;subst h1;rcases h with h|h
 ·omega
 ·exact h _ h3
theorem fn_ok {f : FuncId} {fn : Func} {c : Code} {args : List AV} {J : Q1} {Q : AV -> Q1 -> Prop} (hf : P.funcs[f]? = some fn) (hb : fn.body = some c) (hname : (fn.name == "runtime.NumGoroutine") = false) (hn : args.length <= fn.ntmps) (hl : fn.ntmps <= BIG)
   (h : Qw P fn.ntmps none c (Qv args) J λe r' S' => (match e with | .normal | .ret => True | _ => False) /\ match Yv P fn.results.toList r' S' with | some v => Q v S' | none => False) : Qo P f args J Q := by
 refine ⟨⟨fn,hf,hname,by rw [hb]; rfl⟩,fun ι w cargs hgl hh ha => ?_⟩;refine callsIn_of_wp_marks hf hb trivial ?_ rfl;have hsz : (cargs ++ Array.replicate (fn.ntmps - cargs.size) undef).size = fn.ntmps := by have := ha.1;simp; omega
 have hr : Qt fn.ntmps ι w (Qv args) { tmps := cargs ++ Array.replicate (fn.ntmps - cargs.size) undef,defers := [] } := by refine ⟨hsz,hl,λt x hx => ?_,hgl⟩;obtain ⟨_,h2⟩ := Zq args 0 t x hx;simp only [Nat.sub_zero] at h2;have hlt : t < args.length := (AE.1 h2).1;obtain ⟨u,h3,h4⟩ := ha.2 t hlt;have e : args[t] = x := (by rw [A4 hlt] at h2;injection h2);rw [e] at h4;have : (cargs ++ Array.replicate (fn.ntmps - cargs.size) undef).getD t undef = u := (by have hlt' : t < cargs.size := (by rw [ha.1]; exact hlt);have : (cargs ++ Array.replicate (fn.ntmps - cargs.size) undef)[t]? = some u := (by rw [Bp hlt']; exact h3);simp [this]);unfold lk;rw [AP (by omega),this];exact h4
 refine Bz (h ι w _ hh hr) λe a' w' hp => ?_;obtain ⟨h0,r',S',I',ms,⟨hex,hret⟩,h2,h3,h4,h5,h6⟩ := hp;have h5 : a'.defers = ms := by simpa using h5
 split at hret
 · rename_i v hv
   have hleave : LeavesInM Fence.wide 0 P fn a'.tmps (λe w' => ∃ v S' I' cv,e = .returned cv /\ Q v S' /\ VR I' w' v cv /\ HR I' S' w' /\ Step ι J w I' S' w') ms .returning w' := by
     refine KT ms w' h6 λw'' hoth hsz' hos hout => ?_;have hrow : ∀ b,Uj w' b -> w''.heap[b]? = w'.heap[b]? := λb hd => hoth b (h6.others (.inr λds e => by rcases hd with ⟨x,y,z,hb⟩ | ⟨x,y,hb⟩ <;> rw [hb] at e <;> cases e));have hn' : ∀ b,b < w.heap.size -> w''.heap[b]? = w'.heap[b]? := λb hb => hoth b (h6.others (.inl hb));obtain ⟨h7,h8⟩ := h2.other hrow;have hr'' : Qt fn.ntmps I' w'' r' a' := ⟨h3.size,h3.low,λt x hx => by
       have hx' := h3.get t x hx;rw [lk_mode hx' rfl λr hr => hoth _ (h6.others (.inr λds e => by rw [hr] at e; cases e))];exact h8 _ _ hx',h3.gl.mono λb hu hb => ⟨hu,hrow b hb⟩⟩
     obtain ⟨u,h9,h10⟩ := retE_ok (P := P) h7 hr'' hv;refine ⟨u,h9,v,S',I',u,rfl,hret,h10,h7,?_⟩
     exact { len := h4.len,size := by rw [hsz']; exact h4.size,os := hos.trans h4.os,out := hout.trans h4.out,keep := h4.keep,none := h4.none,new := h4.new,res := h4.res,ex := h4.ex,resKeep := λb hb => (hrow b (.inl (h2.resRow b (h4.res ▸ hb)))).trans (h4.resKeep b hb),
             frame := λb hb hu => (hn' b hb).trans (h4.frame b hb hu) }
   cases e with
   | normal => show LeavesInM _ _ _ _ _ _ a'.defers _ _; rw [h5]; exact hleave
   | ret => show LeavesInM _ _ _ _ _ _ a'.defers _ _; rw [h5]; exact hleave
   | exit _ => exact hex.elim
   | goto _ => exact hex.elim
   | panic _ => exact hex.elim
   | outgrown => exact hex.elim
 · exact hret.elim
end
end Go.Abs
namespace Go.Abs
variable [Gl]
structure COp where(d:Option Nat)(op:Op)(g:Option (Nat×Bool))(k:List Nat)
inductive CC where
 |skip
 |reg (ops:List COp)
 |drw (ops:List COp) (bef:List Nat)
 |seq (a b:CC)
 |cond (c:Operand) (a b:CC)
 |block (id:Nat) (a:CC)
 |loop (a:CC)
 |exit (id:Nat)
 |ret
 |rng (f:Operand) (ps:Array Tmp) (a b:CC)
 |scp (a:CC)
 |lbl
def Qf(all:Array Oper):List Oper->List (List Nat)->Option (List COp)
 |[],_=>some []
 |o::os,ks=>match (match o.guard with|none=>some none|some (j,want)=>match (all[j]?).bind (·.dst) with|some d=>some (some (d,want))|none=>none),Qf all os ks.tail with
  |some g,some cs=>some (⟨o.dst,o.op,g,ks.headD []⟩::cs)
  |_,_=>none
def tmpsOf(o:Oper)(all:Array Oper):List Nat:=
 (o.op.operands.toList.filterMap fun|.tmp t=>some t|_=>none)++(match o.guard with|some (j,_)=>((all[j]?).bind (·.dst)).toList|none=>[])
def KE(ops:Array Oper):Bool:=
 let B:=Region.before ops
 ops.toList.zipIdx.all λ(o,j)=>
  o.after.all (λe=>!Region.binds .any e||decide (e.on<j))&&
  (List.range j).all λi=>
   (!(B.getD j 0).testBit i||o.after.any λe=>Region.binds .any e&&(e.on==i||decide (i<e.on)&&(B.getD e.on 0).testBit i))&&
   match ops[i]? with
   |some p=>
    let clash:=(match p.dst with|some d=>(tmpsOf o ops).contains d||o.dst==some d|none=>false)||(match o.dst with|some d=>(tmpsOf p ops).contains d|none=>false)
    !clash||(B.getD j 0).testBit i
   |none=>true
abbrev KS:=List (List (List Nat))
def strip:Code->KS->Option (CC×KS)
 |.skip,ks=>some (.skip,ks)
 |.region _ ops false,ks=>(Qf ops ops.toList (ks.headD [])).map λc=>(.reg c,ks.tail)
 |.region _ ops true,ks=>if KE ops then (Qf ops ops.toList (ks.headD [])).map λc=>(.drw c (Region.before ops).toList,ks.tail) else none
 |.seq a b,ks=>match strip a ks with
  |some (x,ks)=>match strip b ks with
   |some (y,ks)=>some (.seq x y,ks)
   |none=>none
  |none=>none
 |.cond c a b,ks=>match strip a ks with
  |some (x,ks)=>match strip b ks with
   |some (y,ks)=>some (.cond c x y,ks)
   |none=>none
  |none=>none
 |.block id a,ks=>match strip a ks with
  |some (x,ks)=>some (.block id x,ks)
  |none=>none
 |.loop a,ks=>match strip a ks with
  |some (x,ks)=>some (.loop x,ks)
  |none=>none
 |.exit id,ks=>some (.exit id,ks)
 |.ret,ks=>some (.ret,ks)
 |.rangeFunc f ps a b,ks=>match strip a ks with
  |some (x,ks)=>match strip b ks with
   |some (y,ks)=>some (.rng f ps x y,ks)
   |none=>none
  |none=>none
 |.scope a,ks=>match strip a ks with
  |some (x,ks)=>some (.scp x,ks)
  |none=>none
 |.label _,ks=>some (.lbl,ks)
 |_,_=>none
def Q3.kill(r:Q3):List Nat->Q3
 |[]=>r
 |t::ts=>Q3.kill (r.del t) ts
universe u
structure Tag{β:Sort u}(b:β):Type where
 mk::
def UU(b:Bool)(X:Prop)(_:Tag X):Prop:=b=true/\X
def X7(g:Option Bool)(A B:Prop)(_:Tag A)(_:Tag B):Prop:=match g with|some b=>(if b=true then A else B)|none=>False
def YC{α:Type}(x:Option (α×Q1))(K:α->Q1->Prop)(_:Tag K):Prop:=match x with|some (a,b)=>K a b|none=>False
def W5(v:Option AV)(A B:Prop)(_:Tag A)(_:Tag B):Prop:=match v with|some (.c (.t (.bool t)))=>(if t=true then A else B)|_=>False
def onIf(b:Prop)(A:Prop)(_:Tag A):Prop:=b->A
def Jv{α:Type}(v:Option α)(K:α->Prop)(_:Tag K):Prop:=match v with|some a=>K a|none=>False
theorem Xh(A B:Prop)(t:Tag A)(u:Tag B):X7 (some true) A B t u=A:=by simp[X7]
theorem ZK(A B:Prop)(t:Tag A)(u:Tag B):X7 (some false) A B t u=B:=by simp[X7]
theorem onBool_true(A B:Prop)(t:Tag A)(u:Tag B):W5 (some (.c (.t (.bool true)))) A B t u=A:=by simp[W5]
theorem onBool_false(A B:Prop)(t:Tag A)(u:Tag B):W5 (some (.c (.t (.bool false)))) A B t u=B:=by simp[W5]
def Xb(r:Q3):Option (Nat×Bool)->Option Bool
 |none=>some true
 |some (d,want)=>match r.at d with
  |some v=>K8 v want
  |none=>none
def XF(r:Q3)(f:Operand)(args:List Operand):Option (FuncId×List AV):=match ev r f,evl r args with
 |some fv,some as=>Zi fv as
 |_,_=>none
def callK(P:Program)(g:FuncId)(args:List AV)(J:Q1)(K:Option AV->Q1->Prop)(_:Tag K):Prop:=Qo P g args J λv S'=>K (some v) S'
def nilK(J:Q1)(K:Option AV->Q1->Prop)(_:Tag K)(x:Nat×Bool):Prop:=K (some (aB x.2)) J/\onIf (x.1=0) (K (some (aB !x.2)) J) ⟨⟩
def stepC(P:Program)(r:Q3)(J:Q1)(op:Op)(K:Option AV->Q1->Prop)(t:Tag K):Prop:=
 match op with
 |.call { callee:=.value f,args,argTypes:=_ }=>Jv (XF r f args.toList) (λx=>callK P x.1 x.2 J K t) ⟨⟩
 |.binOp b xT x y yT=>if Qr y then (match tinf P xT with
   |some i=>(match i.kind with
    |.slice _=>Jv (J2 P r (.binOp b xT x y yT)) (nilK J K t) ⟨⟩
    |_=>YC (opE P r J (.binOp b xT x y yT)) K t)
   |none=>False) else YC (opE P r J (.binOp b xT x y yT)) K t
 |op=>YC (opE P r J op) K t
theorem stepC_eq{P:Program}{r:Q3}{J:Q1}{o:Oper}{K:Option AV->Q1->Prop}{t:Tag K}(h:stepC P r J o.op K t):JS P r J o K:=by
 unfold stepC at h;unfold JS;split at h
 ·rename_i f args ts hop;rw[hop];simp only;unfold XF Jv at h;split at h
  ·rename_i x hx;split at hx
   ·rename_i fv as h1 h2;obtain⟨g,as'⟩:=x;first
     |(rw[h1,h2];simp only[hx];exact h)
     |(simp only[hx];exact h)
     |exact h
   ·cases hx
  ·exact h.elim
 ·rename_i b xT x y yT hop;rw[hop];simp only;split at h
  ·rename_i hy;split at h
   ·rename_i i hi;split at h
    ·rename_i e hk;unfold Jv at h;split at h
     ·rename_i p hp;rw[hp];exact h
     ·exact h.elim
    ·rename_i hne;have hn:J2 P r (.binOp b xT x y yT)=none:=by
      simp only[J2,hy,Ag,hi];split
      ·rename_i i' v ne e1 e2 e3;injection e1 with e1;subst e1;split
       ·rename_i e n hk _;exact absurd hk (hne e)
       ·rfl
      ·rfl
     rw[hn];unfold YC at h;split at h
     ·rename_i a b' hab;rw[hab];exact h
     ·exact h.elim
   ·exact h.elim
  ·rename_i hy;have hn:J2 P r (.binOp b xT x y yT)=none:=(by simp only[J2,hy];rfl);rw[hn];unfold YC at h;split at h
   ·rename_i a b' hab;rw[hab];exact h
   ·exact h.elim
 ·rename_i h1 h2;have hn:J2 P r o.op=none:=by
   unfold J2;split
   ·rename_i b xT x y yT hop;exact absurd hop (h2 b xT x y yT)
   ·rfl
  split
  ·rename_i f args ts hop;exact absurd hop (h1 f args ts)
  ·rw[hn];unfold YC at h;split at h
   ·rename_i a b' hab;rw[hab];exact h
   ·exact h.elim
def opsC(P:Program)(N:Nat):List COp->Q3->Q1->(K:Q3->Q1->Prop)->Tag K->Prop
 |[],r,J,K,_=>K r J
 |⟨d,op,g,k⟩::os,r,J,K,t=>UU (Jd N d) (X7 (Xb r g) (stepC P r J op (λres S'=>opsC P N os ((r.Qu d res).kill k) S' K t) ⟨⟩) (opsC P N os ((r.drop d).kill k) J K t) ⟨⟩ ⟨⟩) ⟨⟩
def DrawQ(P:Program)(N:Nat)(ro:Option Nat)(cs:List COp)(bef:List Nat)(r:Q3)(J:Q1)(Q:Exit->Q3->Q1->Prop)(_:Tag Q):Prop:=∀id ops ks,Qf ops ops.toList ks=some cs->bef=(Region.before ops).toList->KE ops=true->Qw P N ro (.region id ops true) r J Q
def LoopQ(P:Program)(N:Nat)(ro:Option Nat)(C:CC)(r:Q3)(J:Q1)(Q:Exit->Q3->Q1->Prop)(_:Tag Q):Prop:=∀c ks ks',strip c ks=some (C,ks')->Qw P N ro (.loop c) r J Q
def RangeQ(P:Program)(N:Nat)(ro:Option Nat)(f:Operand)(ps:Array Tmp)(A B:CC)(r:Q3)(J:Q1)(Q:Exit->Q3->Q1->Prop)(_:Tag Q):Prop:=∀a b ks ks' ks'',strip a ks=some (A,ks')->strip b ks'=some (B,ks'')->Qw P N ro (.rangeFunc f ps a b) r J Q
def wpq(P:Program)(N:Nat)(ro:Option Nat):CC->Q3->Q1->(Q:Exit->Q3->Q1->Prop)->Tag Q->Prop
 |.skip,r,J,Q,_=>Q .normal r J
 |.reg ops,r,J,Q,_=>opsC P N ops r J (Q .normal) ⟨⟩
 |.drw ops bef,r,J,Q,t=>DrawQ P N ro ops bef r J Q t
 |.seq x y,r,J,Q,t=>wpq P N ro x r J (λe r' S'=>match e with|.normal=>wpq P N ro y r' S' Q t|e=>Q e r' S') ⟨⟩
 |.cond c x y,r,J,Q,t=>W5 (ev r c) (wpq P N ro x r J Q t) (wpq P N ro y r J Q t) ⟨⟩ ⟨⟩
 |.block id c,r,J,Q,_=>wpq P N ro c r J (λe r' S'=>match e with|.exit i=>if i=id then Q .normal r' S' else Q (.exit i) r' S'|e=>Q e r' S') ⟨⟩
 |.loop c,r,J,Q,t=>LoopQ P N ro c r J Q t
 |.exit id,r,J,Q,_=>Q (.exit id) r J
 |.ret,r,J,Q,_=>Q .ret r J
 |.rng f ps x y,r,J,Q,t=>RangeQ P N ro f ps x y r J Q t
 |.scp x,r,J,Q,_=>wpq P N ro x r J (λe r' S'=>match e with|.goto _=>False|e=>Q e r' S') ⟨⟩
 |.lbl,r,J,Q,_=>Q .normal r J
section
variable {P:Program}{N:Nat}{ro:Option Nat}
theorem Q3.get_del_some{r:Q3}{t t':Nat}{v:AV}(h:(r.del t).get t'=some v):r.get t'=some v:=by
 by_cases e:t=t'
 ·subst e;rw[Q3.Xj]at h;cases h
 ·rw[Q3.Zu _ e]at h;exact h
theorem Qt.sub{ι:Map}{w:World}{r r':Q3}{a:Act}(h:Qt N ι w r a)(hs:∀t v,r'.get t=some v->r.get t=some v):Qt N ι w r' a:=
 ⟨h.size,h.low,λt v hv=>h.get t v (hs t v hv),h.gl⟩
theorem Q3.ZP:∀{ts:List Nat} {r:Q3} {t:Nat} {v:AV},(r.kill ts).get t=some v->r.get t=some v
 |[],_,_,_,h=>h
 |_::ts,r,_,_,h=>Q3.get_del_some (Q3.ZP (ts:=ts) h)
theorem Zb{all:Array Oper}{r:Q3}{o:Oper}{g:Option (Nat×Bool)}(h:(match o.guard with|none=>some none|some (j,want)=>match (all[j]?).bind (·.dst) with|some d=>some (some (d,want))|none=>none)=some g):
  Xb r g=JP all r o.guard:=by
 cases hg:o.guard with
 |none=>rw[hg]at h;simp only[X3]at h;subst h;rfl
 |some p=>
  obtain⟨j,want⟩:=p;rw[hg]at h;simp only at h;split at h
  ·rename_i d hd;injection h with h;subst h;simp only[Xb,JP,hd]<;>rfl
  ·cases h
theorem opsC_ok{ops:Array Oper}{K:Q3->Q1->Prop}{i₀:Map}{s₀:Q1}{w₀:World}{a₀:Act}{Q:Exit->Q3->Q1->Prop}(hQ:∀r J,K r J->Q .normal r J):
  ∀(os:List Oper) (cs:List COp) (ks:List (List Nat)),Qf ops os ks=some cs->∀(k:Nat),os=ops.toList.drop k->∀{r:Q3} {J:Q1} {t:Tag K},opsC P N cs r J K t->∀{ι:Map} {w:World} {a:Act},HR ι J w->Qt N ι w r a->Step i₀ s₀ w₀ ι J w->a.defers=a₀.defers->
   wpOpsIn (wr ro) 0 P ops (post N Q i₀ s₀ w₀ a₀) (List.range' k (ops.size - k)) a w
 |[],cs,ks,hst,k,hk,r,J,tg,h,ι,w,a,hh,hr,hs,hd=>by simp only[Qf,X3]at hst;subst hst;have hlen:ops.toList.length<=k:=Bw.1 hk.symm;have:ops.size - k=0:=(by simp at hlen;omega);rw[this];exact⟨trivial,r,J,ι,[],hQ r J h,hh,hr,hs,hd,Marks.nil _ _⟩
 |o::os,cs,ks,hst,k,hk,r,J,tg,h,ι,w,a,hh,hr,hs,hd=>by
  simp only[Qf]at hst;split at hst
  ·rename_i g cs' hg hcs;injection hst with hst;subst hst;have hlt:k<ops.size:=(by have:(ops.toList.drop k).length=os.length+1:=(by rw[<-hk];rfl);simp at this;omega);have hok:ops[k]? =some o:=(by have:(ops.toList.drop k)[0]? =some o:=(by rw[<-hk];rfl);simpa using this);have hos:os=ops.toList.drop (k+1):=(by have:(ops.toList.drop k).tail=os:=(by rw[<-hk];rfl);rw[<-this];simp);have hr':List.range' k (ops.size - k)=k::List.range' (k+1) (ops.size - (k+1)):=(by have:ops.size - k=(ops.size - (k+1))+1:=(by omega);rw[this,List.range'_succ]);rw[hr'];obtain⟨hdst,h⟩:=h;simp only[wpOpsIn,hok];rw[Zb hg]at h;unfold X7 at h;split at h
   ·rename_i b hb;have hw:=Ka hr hb;rw[hw]
    cases b with
    |true=>simp only[Ag]at h⊢;refine ZA hh hr hdst (K:=λres S'=>opsC P N cs' ((r.Qu o.dst res).kill (ks.headD [])) S' K tg) (stepC_eq h) λres S' I' w' a' hK hh' hr' hs' hd'=> ?_;exact opsC_ok hQ os cs' _ hcs (k+1) hos hK hh' (hr'.sub λ_ _=>Q3.ZP) (hs.trans hs') (hd'.trans hd)
    |false=>simp only[AM,Af]at h⊢;refine⟨λ_ _=>trivial,?_⟩;have hdf:(a.put o.dst undef).defers=a.defers:=(by cases o.dst<;>rfl);exact opsC_ok hQ os cs' _ hcs (k+1) hos h hh ((hr.drop (Zx hdst)).sub λ_ _=>Q3.ZP) hs (hdf.trans hd)
   ·exact h.elim
  ·cases hst
theorem Zk:∀{c:Code} {ks ks':KS} {C:CC},strip c ks=some (C,ks')->∀{r:Q3} {J:Q1} {Q:Exit->Q3->Q1->Prop} {t:Tag Q},wpq P N ro C r J Q t->Qw P N ro c r J Q
 |.skip,ks,ks',C,hs,r,J,Q,tg,h=>by simp only[strip,X3,A0]at hs;obtain⟨rfl,rfl⟩:=hs;exact ok_skip h
 |.region id ops false,ks,ks',C,hs,r,J,Q,tg,h=>by simp only[strip,WF,A0]at hs;obtain⟨cs,h1,rfl,rfl⟩:=hs;intro ι w a hh hr;refine wpIn_region ?_;rw[List.range_eq_range'];have:=opsC_ok (ro:=ro) (Q:=Q) (a₀:=a) (λ_ _ h=>h) ops.toList cs _ h1 0 (by simp) h hh hr (Step.refl ι J w) rfl;simpa using this
 |.region id ops true,ks,ks',C,hs,r,J,Q,tg,h=>by
  simp only[strip]at hs;split at hs
  ·rename_i hd;simp only[WF,A0]at hs;obtain⟨cs,h1,rfl,rfl⟩:=hs;exact h id ops _ h1 rfl hd
  ·cases hs
 |.seq x y,ks,ks',C,hs,r,J,Q,tg,h=>by
  simp only[strip]at hs;split at hs
  ·rename_i X k1 hx;split at hs
   ·rename_i Y k2 hy;injection hs with hs;injection hs with e1 e2;subst e1;subst e2;exact ok_seq ((Zk (c:=x) hx h).mono λe r' S' hq=>by
     cases e with
     |normal=>exact Zk (c:=y) hy hq
     |_=>exact hq)
   ·cases hs
  ·cases hs
 |.cond c x y,ks,ks',C,hs,r,J,Q,tg,h=>by
  simp only[strip]at hs;split at hs
  ·rename_i X k1 hx;split at hs
   ·rename_i Y k2 hy;injection hs with hs;injection hs with e1 e2;subst e1;subst e2;simp only[wpq]at h;unfold W5 at h;split at h
    ·rename_i t ht;refine ok_cond ht ?_
     cases t with
     |true=>exact Zk (c:=x) hx h
     |false=>exact Zk (c:=y) hy h
    ·exact h.elim
   ·cases hs
  ·cases hs
 |.block id x,ks,ks',C,hs,r,J,Q,tg,h=>by
  simp only[strip]at hs;split at hs
  ·rename_i X k1 hx;injection hs with hs;injection hs with e1 e2;subst e1;subst e2;exact ok_block (Zk (c:=x) hx h)
  ·cases hs
 |.loop x,ks,ks',C,hs,r,J,Q,tg,h=>by
  simp only[strip]at hs;split at hs
  ·rename_i X k1 hx;injection hs with hs;injection hs with e1 e2;subst e1;subst e2;exact h x _ _ hx
  ·cases hs
 |.exit id,ks,ks',C,hs,r,J,Q,tg,h=>by simp only[strip,X3,A0]at hs;obtain⟨rfl,rfl⟩:=hs;exact ok_exit h
 |.ret,ks,ks',C,hs,r,J,Q,tg,h=>by simp only[strip,X3,A0]at hs;obtain⟨rfl,rfl⟩:=hs;exact ok_ret h
 |.rangeFunc f ps x y,ks,ks',C,hs,r,J,Q,tg,h=>by
  simp only[strip]at hs;split at hs
  ·rename_i X k1 hx;split at hs
   ·rename_i Y k2 hy;injection hs with hs;injection hs with e1 e2;subst e1;subst e2;exact h x y _ _ _ hx hy
   ·cases hs
  ·cases hs
 |.scope x,ks,ks',C,hs,r,J,Q,tg,h=>by
  simp only[strip]at hs;split at hs
  ·rename_i X k1 hx;injection hs with hs;injection hs with e1 e2;subst e1;subst e2;exact ok_scope (Zk (c:=x) hx h)
  ·cases hs
 |.label l,ks,ks',C,hs,r,J,Q,tg,h=>by simp only[strip,X3,A0]at hs;obtain⟨rfl,rfl⟩:=hs;exact ok_label h
 |.goto l,ks,ks',C,hs,_,_,_,_,_=>by simp[strip]at hs
 |.refuse s,ks,ks',C,hs,_,_,_,_,_=>by simp[strip]at hs
structure Q6(P:Program)(f:FuncId)(N:Nat)(rs:List ResultVar)(C:CC):Prop where
 ex : ∃ fn c ks ks',P.funcs[f]? = some fn /\ fn.body = some c /\ (fn.name == "runtime.NumGoroutine") = false /\ fn.ntmps = N /\ fn.results.toList = rs /\ strip c ks = some (C,ks') /\ Nat.ble N BIG = true
def bodyQ(P:Program)(rs:List ResultVar)(Q:AV->Q1->Prop):Exit->Q3->Q1->Prop
 |.normal,r,J=>Jv (Yv P rs r J) (λv=>Q v J) ⟨⟩
 |.ret,r,J=>Jv (Yv P rs r J) (λv=>Q v J) ⟨⟩
 |_,_,_=>False
theorem fnq{f:FuncId}{rs:List ResultVar}{C:CC}(hs:Q6 P f N rs C){args:List AV}{J:Q1}{Q:AV->Q1->Prop}(hn:args.length<=N)(h:wpq P N none C (Qv args) J (bodyQ P rs Q) ⟨⟩):Qo P f args J Q:=by
 obtain⟨fn,c,ks,ks',h1,h2,h3,rfl,rfl,h6,h7⟩:=hs.ex;refine fn_ok h1 h2 h3 hn (BG h7) ((Zk h6 h).mono λe r J hq=> ?_)
 cases e with
 |normal=>
  refine⟨trivial,?_⟩;have hq':Jv (Yv P fn.results.toList r J) (λv=>Q v J) ⟨⟩:=hq
  cases hv:Yv P fn.results.toList r J with
  |none=>rw[hv]at hq';exact hq'
  |some v=>rw[hv]at hq';exact hq'
 |ret=>
  refine⟨trivial,?_⟩;have hq':Jv (Yv P fn.results.toList r J) (λv=>Q v J) ⟨⟩:=hq
  cases hv:Yv P fn.results.toList r J with
  |none=>rw[hv]at hq';exact hq'
  |some v=>rw[hv]at hq';exact hq'
 |_=>exact False.elim hq
end
end Go.Abs
namespace Go.Abs
variable [Gl]
section
variable (P:Program)(r:Q3)(J:Q1)(K:Option AV->Q1->Prop)(tg:Tag K)
end
end Go.Abs
namespace Go.Abs
variable [Gl]
inductive DL where
 |reg (t:Nat)
 |obj (b:Nat)
 |len
 deriving DecidableEq
abbrev St:=Q3×Q1
def agree(s s':St):DL->Prop
 |.reg t=>s.1.get t=s'.1.get t
 |.obj b=>s.2[b]? =s'.2[b]?
 |.len=>s.2.length=s'.2.length
theorem agree.refl(s:St)(l:DL):agree s s l:=by cases l<;>rfl
theorem agree.symm{s s':St}{l:DL}(h:agree s s' l):agree s' s l:=by cases l<;>exact Eq.symm h
theorem agree.trans{s s' s'':St}{l:DL}(h:agree s s' l)(h':agree s' s'' l):agree s s'' l:=by cases l<;>exact Eq.trans h h'
structure VB(n:Nat)(S:Nat->St)(R W:Nat->DL->Prop)(bef:Nat->Nat->Prop):Prop where
 same:∀j l,j<n->¬W j l->agree (S (j+1)) (S j) l
 order:∀i j,i<j->j<n->(∃l,(W i l/\(W j l\/R j l))\/(R i l/\W j l))->bef j i
section
variable {n:Nat}{S:Nat->St}{R W:Nat->DL->Prop}{bef:Nat->Nat->Prop}
theorem VB.skip(h:VB n S R W bef){l:DL}:∀{k i:Nat},i+k<=n->(∀j,i<=j->j<i+k->¬W j l)->agree (S (i+k)) (S i) l
 |0,i,_,_=>agree.refl _ _
 |k+1,i,hn,hw=>(h.same (i+k) l (by omega) (hw _ (by omega) (by omega))).trans (h.skip (k:=k) (by omega) λj h1 h2=>hw j h1 (by omega))
theorem VB.skip'(h:VB n S R W bef){l:DL}{i k:Nat}(hik:i<=k)(hn:k<=n)(hw:∀j,i<=j->j<k->¬W j l):agree (S k) (S i) l:=by have:=h.skip (l:=l) (k:=k - i) (i:=i) (by omega) λj h1 h2=>hw j h1 (by omega);rwa [show i+(k - i)=k by omega]at this
def ZT(S:Nat->St)(W:Nat->DL->Prop)(L:Nat->Prop)(s:St):Prop:=
 ∀l,(∃j,L j/\W j l/\(∀k,L k->W k l->k<=j)/\agree s (S (j+1)) l)\/((∀j,L j->¬W j l)/\agree s (S 0) l)
theorem VB.read(h:VB n S R W bef){L:Nat->Prop}{s:St}(hs:ZT S W L s)(hL:∀k,L k->k<n)(hcl:∀k i,L k->bef k i->L i){j:Nat}(hj:j<n)(hjL:¬L j)(hbef:∀i,bef j i->L i)
  {l:DL} (hl:R j l\/W j l):agree s (S j) l:=by
 have before:∀i,i<j->W i l->L i:=λi hi hw=>hbef i (h.order i j hi hj ⟨l,.inl ⟨hw,hl.symm⟩⟩);have after:∀k,L k->j<k->¬W k l:=λk hk hjk hw=>hjL (hcl k j hk (h.order j k hjk (hL k hk) ⟨l,by
  rcases hl with hr|hw'
  ·exact .inr ⟨hr,hw⟩
  ·exact .inl ⟨hw',.inl hw⟩⟩))
 rcases hs l with ⟨m,hm,hmw,hmax,hag⟩|⟨hno,hag⟩
 ·have hmj:m<j:=by
   rcases Nat.lt_trichotomy m j with h1|h1|h1
   ·exact h1
   ·exact absurd (h1▸hm) hjL
   ·exact absurd hmw (after m hm h1)
  exact hag.trans (h.skip' (i:=m+1) (k:=j) (by omega) (by omega) λi h1 h2 hw=>by
   have:=hmax i (before i h2 hw) hw;omega).symm
 ·exact hag.trans (h.skip' (i:=0) (k:=j) (by omega) (by omega) λi _ h2 hw=>hno i (before i h2 hw) hw).symm
theorem VB.write(h:VB n S R W bef){L:Nat->Prop}{s s':St}(hs:ZT S W L s)(hL:∀k,L k->k<n)(hcl:∀k i,L k->bef k i->L i){j:Nat}(hj:j<n)(hjL:¬L j)
  (h1:∀l,¬W j l->agree s' s l) (h2:∀l,W j l->agree s' (S (j+1)) l):ZT S W (λk=>k=j\/L k) s':=λl=>by
 by_cases hw:W j l
 ·refine .inl ⟨j,.inl rfl,hw,λk hk hkw=> ?_,h2 l hw⟩;rcases hk with rfl|hk
  ·exact A6 _
  ·rcases Nat.lt_or_ge j k with hlt|hge
   ·exact absurd (hcl k j hk (h.order j k hlt (hL k hk) ⟨l,.inl ⟨hw,.inl hkw⟩⟩)) hjL
   ·exact hge
 ·rcases hs l with ⟨m,hm,hmw,hmax,hag⟩|⟨hno,hag⟩
  ·refine .inl ⟨m,.inr hm,hmw,λk hk hkw=> ?_,(h1 l hw).trans hag⟩;rcases hk with rfl|hk
   ·exact absurd hkw hw
   ·exact hmax k hk hkw
  ·refine .inr ⟨λk hk=> ?_,(h1 l hw).trans hag⟩;rcases hk with rfl|hk
   ·exact hw
   ·exact hno k hk
theorem VB.done(h:VB n S R W bef){L:Nat->Prop}{s:St}(hs:ZT S W L s)(hL:∀k,L k->k<n)(hall:∀k,k<n->L k)(l:DL):agree s (S n) l:=by
 rcases hs l with ⟨m,hm,hmw,hmax,hag⟩|⟨hno,hag⟩
 ·have hmn:=hL m hm;exact hag.trans (h.skip' (i:=m+1) (k:=n) (by omega) (A6 _) λi h1 h2 hw=>by
   have:=hmax i (hall i h2) hw;omega).symm
 ·exact hag.trans (h.skip' (i:=0) (k:=n) (by omega) (A6 _) λi _ h2 hw=>hno i (hall i h2) hw).symm
theorem agree.heap{s s':St}(h:∀l,agree s s' l):s.2=s'.2:=List.ext_getElem? λi=>h (.obj i)
end
end Go.Abs
namespace Go.Abs
variable [Gl]
def agC(τ J:Q1):Nat->Prop
 |0=>τ.length=J.length
 |b+1=>τ[b]? =J[b]?
theorem agC.refl(τ:Q1)(c:Nat):agC τ τ c:=by cases c<;>rfl
def J1:Option AV->List Nat
 |some (.c (.ptr r))=>[r.id+1]
 |some (.c (.sl r _ _))=>[r.id+1]
 |_=>[]
abbrev DR:=Option AV×Q1×List Nat×List Nat
def newD(J:Q1)(x:Option AV×Q1)(rs:List Nat):DR:=if x.2.length=J.length then (x.1,x.2,[],[]) else (x.1,x.2,0::rs,[0,J.length+1])
def opD(P:Program)(r:Q3)(J:Q1)(op:Op):Option DR:=match op with
 |.load t a=>(opE P r J (.load t a)).map λx=>(x.1,x.2,J1 (ev r a),[])
 |.store t a v=>(opE P r J (.store t a v)).map λx=>(x.1,x.2,J1 (ev r a),J1 (ev r a))
 |.alloc e=>(opE P r J (.alloc e)).map λx=>newD J x []
 |.box t v=>(opE P r J (.box t v)).map λx=>newD J x []
 |.makeSlice t l c=>(opE P r J (.makeSlice t l c)).map λx=>newD J x []
 |.buildSlice t n ps=>(opE P r J (.buildSlice t n ps)).map λx=>newD J x []
 |.slice t v lo hi mx=>(opE P r J (.slice t v lo hi mx)).map λx=>(x.1,x.2,J1 (ev r v),[])
 |.call { callee:=.builtin .append,args,argTypes }=>match args.toList with
  |[s,v]=>(opE P r J (.call { callee:=.builtin .append,args,argTypes })).map λx=>
   if x.2.length=J.length then (x.1,x.2,J1 (ev r s)++J1 (ev r v),J1 (ev r s)) else (x.1,x.2,0::(J1 (ev r s)++J1 (ev r v)),[0,J.length+1])
  |_=>none
 |.call { callee:=.builtin .cap,args,argTypes }=>match args.toList with
  |[s]=>(opE P r J (.call { callee:=.builtin .cap,args,argTypes })).map λx=>(x.1,x.2,J1 (ev r s),[])
  |_=>none
 |.call { callee:=.builtin .copy,args,argTypes }=>match args.toList with
  |[s,v]=>(opE P r J (.call { callee:=.builtin .copy,args,argTypes })).map λx=>(x.1,x.2,J1 (ev r s)++J1 (ev r v),J1 (ev r s))
  |_=>none
 |op=>(opE P r J op).map λx=>(x.1,x.2,[],[])
section
variable {P:Program}
def JQ(τ T' J S':Q1)(ws:List Nat):Prop:=(∀c,c∉ws->agC T' τ c)/\(∀c,c∈ws->agC T' S' c)/\(∀c,c∉ws->agC S' J c)
theorem JQ.none{τ J:Q1}:JQ τ τ J J []:=⟨λc _=>agC.refl τ c,λc h=>absurd h (by simp),λc _=>agC.refl J c⟩
theorem agC_push{τ J:Q1}(o:Obj)(h:τ.length=J.length):∀c,c∉[0,J.length+1]->agC (τ++[o]) τ c:=λc hc=>by
 cases c with
 |zero=>simp at hc
 |succ b=>
  have:b≠τ.length:=λe=>hc (by simp[e,h]);show(τ++[o])[b]? =τ[b]?;by_cases hlt:b<τ.length
  ·rw[AK hlt]
  ·rw[AS (by omega),Ab (by omega:τ.length<=b)];rw[Ab];simp;omega
theorem JQ.push{τ J:Q1}(o:Obj)(h:τ.length=J.length):JQ τ (τ++[o]) J (J++[o]) [0,J.length+1]:=
 ⟨agC_push o h,λc hc=>by
  simp only[AW,Ao,Bl]at hc;rcases hc with rfl|rfl
  ·show(τ++[o]).length=(J++[o]).length;simp[h]
  ·show(τ++[o])[J.length]? =(J++[o])[J.length]?;rw[<-h];simp[h],agC_push o rfl⟩
theorem JQ.setAt{τ J:Q1}{b:Nat}(o:Obj)(h:τ[b]? =J[b]?):JQ τ (τ.set b o) J (J.set b o) [b+1]:=by
 have off:∀(τ:Q1) c,c∉[b+1]->agC (τ.set b o) τ c:=fun τ c hc=>by
  cases c with
  |zero=>exact BY
  |succ d=>have:b≠d:=λe=>hc (by simp[e]);exact BW this
 refine⟨off τ,λc hc=> ?_,off J⟩;simp only[AW,Ao,Bl]at hc;subst hc;show(τ.set b o)[b]? =(J.set b o)[b]?;by_cases h1:b<τ.length
 ·have h2:b<J.length:=(by rw[A4 h1]at h;exact(AE.1 h.symm).1);rw[CO h1,CO h2]
 ·have h2:¬b<J.length:=λh2=>(by rw[A4 h2]at h;exact h1 (AE.1 h).1);rw[Ab (by simp;omega),Ab (by simp;omega)]
theorem Jl{τ J:Q1}{r:Ref}(h:agC τ J (r.id+1)):τ.at? r=J.at? r:=by unfold Q1.at?;rw[show τ[r.id]? =J[r.id]? from h]
theorem WI{r r':Q3}:∀{ps:List (Nat×Operand)},(∀x∈ps.map (·.2),ev r' x=ev r x)->evs r' ps=evs r ps
 |[],_=>rfl
 |(i,x)::rest,h=>by simp only[evs];rw[h x (by simp),WI (ps:=rest) λy hy=>h y (by simp at hy⊢;exact .inr hy)]
theorem X1{r r':Q3}:∀{ps:List Operand},(∀x∈ps,ev r' x=ev r x)->evl r' ps=evl r ps
 |[],_=>rfl
 |x::rest,h=>by simp only[evl];rw[h x (by simp),X1 (ps:=rest) λy hy=>h y (by simp[hy])]
theorem WJ{r r':Q3}:∀{x:Option Operand},(∀y∈x.toArray,ev r' y=ev r y)->evo r' x=evo r x
 |none,_=>rfl
 |some y,h=>by simp only[evo];rw[h y (by simp)]
theorem opE_regs{r r':Q3}{J:Q1}{op:Op}(hr:∀x∈op.operands,ev r' x=ev r x):opE P r' J op=opE P r J op:=by
 cases op with
 |move x=>simp only[opE];rw[hr x (by simp[Op.operands])]
 |assign x=>simp only[opE];rw[hr x (by simp[Op.operands])]
 |pick c a b=>
  simp only[opE];rw[hr c (by simp[Op.operands])];split
  ·rename_i t _;cases t
   ·simp only[AM,Af];rw[hr b (by simp[Op.operands])]
   ·simp only[Ag];rw[hr a (by simp[Op.operands])]
  ·rfl
 |alloc e=>rfl
 |box t x=>simp only[opE];rw[hr x (by simp[Op.operands])]
 |build t ps=>simp only[opE];rw[WI λx hx=>hr x (by simpa [Op.operands] using hx)]
 |buildSlice t n ps=>simp only[opE];rw[WI λx hx=>hr x (by simpa [Op.operands] using hx)]
 |load t a=>simp only[opE];rw[hr a (by simp[Op.operands])]
 |store t a x=>simp only[opE];rw[hr a (by simp[Op.operands]),hr x (by simp[Op.operands])]
 |nilCheck x=>simp only[opE];rw[hr x (by simp[Op.operands])]
 |binOp op t x y u=>simp only[opE];rw[hr x (by simp[Op.operands]),hr y (by simp[Op.operands])]
 |unOp op t x=>simp only[opE];rw[hr x (by simp[Op.operands])]
 |convert s d x=>simp only[opE];rw[hr x (by simp[Op.operands])]
 |makeFunc f first caps=>
  cases f with
  |func f=>simp only[opE];rw[X1 (ps:=caps.toList) λx hx=>hr x (by simp[Op.operands];exact .inr (by simpa using hx)),X1 (ps:=first.toList) λx hx=>hr x (by simp[Op.operands];exact .inl (by simpa using hx))]
  |_=>rfl
 |makeSlice t l c=>simp only[opE];rw[hr l (by simp[Op.operands]),hr c (by simp[Op.operands])]
 |slice t x l h m=>
  simp only[opE];rw[hr x (by simp[Op.operands]),WJ (x:=l) λy hy=>hr y (by simp[Op.operands]at hy⊢;simp[hy]),WJ (x:=h) λy hy=>hr y (by simp[Op.operands]at hy⊢;simp[hy]),
   WJ (x:=m) λy hy=>hr y (by simp[Op.operands]at hy⊢;simp[hy])]
 |fieldAddr t x f=>simp only[opE];rw[hr x (by simp[Op.operands])]
 |field t x f=>simp only[opE];rw[hr x (by simp[Op.operands])]
 |indexAddr t x i=>simp only[opE];rw[hr x (by simp[Op.operands]),hr i (by simp[Op.operands])]
 |index t x i=>simp only[opE];rw[hr x (by simp[Op.operands]),hr i (by simp[Op.operands])]
 |extract x i=>simp only[opE];rw[hr x (by simp[Op.operands])]
 |call c=>
  obtain⟨callee,args,ts⟩:=c
  cases callee with
  |builtin b=>simp only[opE];rw[X1 λx hx=>hr x (by simp[Op.operands,Call.operands];simpa using hx)]
  |_=>rfl
 |lookup t x k c=>
  cases c with
  |true=>simp only[opE];rw[hr x (by simp[Op.operands]),hr k (by simp[Op.operands])]
  |false=>rfl
 |_=>rfl
theorem loadE_congr{τ J:Q1}{i:Qj}{v:AV}(h:∀c∈J1 (some v),agC τ J c):Xy τ i v=Xy J i v:=by
 unfold Xy;split
 ·rw[Jl (h _ (by simp[J1]))]
 ·rfl
 ·rfl
theorem sliceE_congr{τ J:Q1}{t:TypeId}{v:AV}{lo hi mx:Option AV}(h:∀c∈J1 (some v),agC τ J c):Y9 P τ t v lo hi mx=Y9 P J t v lo hi mx:=by
 unfold Y9;split
 ·split
  ·rfl
  ·rw[Jl (h _ (by simp[J1]))]
  ·rfl
  ·rfl
 ·rfl
theorem Ke{τ J:Q1}{es n:Nat}{v:AV}(h:∀c∈J1 (some v),agC τ J c):Qm τ es n v=Qm J es n v:=by
 unfold Qm;split
 ·rw[Jl (h _ (by simp[J1]))]
 ·rfl
 ·rfl
 ·rfl
end
end Go.Abs
