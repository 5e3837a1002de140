/- A part of the proof. -/
import Derived.CallsIn
import Derived.OrdersIn
import Derived.WalkKit
import Derived.Laws.StructEq
import Derived.RangeFuncLeaves
import Derived.RangeFuncRecord
set_option linter.all false
namespace Go
abbrev WF:=@Array.getElem?_eq_some_iff
abbrev A0:=@Option.some.injEq
abbrev A2:=@Option.map_eq_some_iff
abbrev A3:=@List.getElem?_eq_getElem
abbrev A4:=@Prod.mk.injEq
abbrev A5:=@decide_eq_true
abbrev A6:=@decide_eq_false
abbrev A7:=@cond_true
abbrev A8:=@Int.toNat_natCast
abbrev A9:=@Nat.le_refl
abbrev AA:=@cond_false
abbrev AB:=@if_pos
abbrev AC:=@Bool.and_eq_true
abbrev AD:=@Option.map_some
abbrev AE:=@if_neg
abbrev AF:=@List.getElem?_eq_some_iff
abbrev AG:=@List.length_map
abbrev AH:=@Int.eq_ofNat_of_zero_le
abbrev AI:=@World.alloc_heap_new
abbrev AJ:=@List.getElem_mem
abbrev AK:=@List.getElem?_append_left
abbrev AL:=@Nat.lt_of_lt_of_le
abbrev AM:=@List.getElem_map
abbrev AN:=@List.length_eq_zero_iff
abbrev AO:=@Sem.run_bind
abbrev AP:=@Bool.false_eq_true
abbrev AQ:=@List.map_cons
abbrev AR:=@Result.andThen_ok
abbrev AS:=@List.take_of_length_le
abbrev AT:=@List.getElem?_append_right
abbrev AU:=@World.size_alloc
abbrev AW:=@run_underlying
abbrev AX:=@List.getElem?_map
abbrev AY:=@Bool.and_self
abbrev AZ:=@List.map_append
abbrev Aa:=@List.map_congr_left
abbrev Ab:=@List.length_append
abbrev Ac:=@Nat.zero_add
abbrev Ad:=@List.getElem?_eq_none
abbrev Ae:=@Nat.mul_le_mul_right
abbrev Af:=@if_false
abbrev Ag:=@List.mem_cons
abbrev Ah:=@Array.getD_eq_getD_getElem?
abbrev Ai:=@if_true
abbrev Aj:=@decide_eq_true_eq
abbrev Ak:=@true_and
abbrev Al:=@Option.getD_some
abbrev Am:=@List.mem_map
abbrev An:=@List.drop_zero
abbrev Ao:=@Nat.le_trans
abbrev Ap:=@List.mem_append
abbrev Aq:=@Nat.mod_lt
abbrev Ar:=@List.length_cons
abbrev As:=@Nat.add_mul
abbrev At:=@beq_eq_false_iff_ne
abbrev Au:=@Nat.le_of_ble_eq_true
abbrev Av:=@AllReadyIn.cons
abbrev Aw:=@List.append_assoc
abbrev Ax:=@Classical.byContradiction
abbrev Ay:=@Nat.eq_of_testBit_eq
abbrev Az:=@callsIn_wide
abbrev B0:=@List.map_map
abbrev B1:=@Nat.min_eq_left
abbrev B2:=@World.putObj_heap_other
abbrev B3:=@Array.getElem?_eq_getElem
abbrev B4:=@Nat.zero_le
abbrev B5:=@List.flatMap_cons
abbrev B6:=@Nat.zero_mul
abbrev B7:=@Nat.mod_two_eq_zero_or_one
abbrev B8:=@List.getElem?_cons_zero
abbrev B9:=@List.getElem?_cons_succ
abbrev BA:=@Nat.not_lt_zero
abbrev BB:=@Bool.not_false
abbrev BC:=@Sem.run_pure
abbrev BE:=@List.map_drop
abbrev BF:=@Bool.true_and
abbrev BG:=@Nat.two_pow_pos
abbrev BH:=@List.eq_nil_of_length_eq_zero
abbrev BI:=@List.length_set
abbrev BJ:=@Nat.pow_lt_pow_right
abbrev BK:=@List.mem_range
abbrev BL:=@Function.comp_def
abbrev BM:=@AllReadyIn.nil
abbrev BN:=@CallsIn.mono
abbrev BO:=@Option.map_map
abbrev BP:=@wpAnyIn_ready
abbrev BQ:=@List.map_take
abbrev BR:=@List.mem_append_left
abbrev BS:=@Nat.succ_mul
abbrev BT:=@wpAnyIn_take
abbrev BU:=@Ne.symm
abbrev BV:=@Nat.lt_or_ge
abbrev BW:=@List.mem_of_getElem?
abbrev BX:=@List.getElem?_set_ne
abbrev BY:=@List.nil_append
abbrev BZ:=@Nat.add_zero
abbrev Ba:=@List.map_nil
abbrev Bb:=@List.length_take
abbrev Bc:=@List.getElem?_set_self
abbrev Bd:=@Bool.true_or
abbrev Be:=@List.getElem?_range
abbrev Bf:=@List.mem_append_right
abbrev Bg:=@List.length_nil
abbrev Bh:=@Nat.pow_le_pow_right
abbrev Bi:=@Nat.mod_eq_of_lt
abbrev Bj:=@List.take_length
abbrev Bk:=@List.all_eq_true
abbrev Bl:=@Bool.not_true
abbrev Bm:=@Nat.ne_of_lt
abbrev Bn:=@List.length_range
abbrev Bo:=@List.drop_eq_nil_of_le
abbrev Bp:=@List.range_succ
abbrev Bq:=@beq_self_eq_true
abbrev Br:=@Nat.and_le_right
abbrev Bs:=@BitVec.toNat_ofNat
abbrev Bt:=@Array.ext
abbrev Bu:=@bodyPost_ret
abbrev Bv:=@List.getElem_append_left
abbrev Bw:=@AllReady.cons
abbrev By:=@Bool.or_eq_true
abbrev Bz:=@Array.getElem?_push
abbrev C0:=@World.putObj_heap_same
abbrev C1:=@List.drop_append
abbrev C2:=@Bool.false_and
abbrev C3:=@Array.getElem?_append_left
abbrev C4:=@Nat.eq_of_beq_eq_true
abbrev C5:=@List.getElem?_toArray
abbrev C6:=@List.getElem_append_right
abbrev C7:=@wpIn_mono
abbrev C8:=@List.ext_getElem?
abbrev C9:=@List.drop_eq_nil_iff
abbrev CA:=@Bool.or_eq_false_iff
abbrev CB:=@Bool.not_eq_true'
abbrev CD:=@Array.size_append
abbrev CE:=@Nat.add_assoc
abbrev CF:=@Array.getElem?_setIfInBounds_ne
abbrev CG:=@List.length_drop
abbrev CH:=@List.drop_append_of_le_length
abbrev CI:=@Nat.mul_comm
abbrev CJ:=@Nat.lt_of_le_of_lt
abbrev CK:=@List.mem_singleton
abbrev CL:=@List.getElem?_drop
abbrev CM:=@AllReady.nil
abbrev CN:=@List.nodup_cons
abbrev CO:=@List.all_cons
abbrev CP:=@List.take_append_drop
abbrev CQ:=@List.mem_iff_getElem?
abbrev CS:=@wpList_append_own
abbrev CT:=@World.ownsRow_nil
abbrev CU:=@wpAny_ready
abbrev CV:=@Nat.div_lt_of_lt_mul
abbrev CW:=@List.drop_drop
abbrev CX:=@List.take_append
abbrev CY:=@Bool.or_true
abbrev CZ:=@List.flatMap_append
abbrev Ca:=@Option.map_none
abbrev Cb:=@Nat.and_le_left
abbrev Cc:=@List.getElem?_take
abbrev Cd:=@Nat.testBit_eq_decide_div_mod_eq
end Go
namespace Go.Abs
inductive T where
 |bool (b:Bool)
 |int (k:IntKind) (n:Int)
 |str (s:List UInt8)
 |nilp
 |imm (cs:List T) (len:Nat) (cap:Option Nat)
 |iptr (cs:List T)
 |fn (f:FuncId) (caps:List T)
 |nilf
 |junk
 deriving Inhabited
inductive Ly where
 |int (k:IntKind)|bool|str|sl (c:Ly)|pair (a b:Ly)
 deriving Inhabited
@[reducible] def Ly.ty:Ly->Type
 |.int _=>Int
 |.bool=>Bool
 |.str=>List UInt8
 |.sl c=>List c.ty
 |.pair a b=>a.ty×b.ty
def Ly.XJ:(c:Ly)->c.ty
 |.int _=>(0:Int)
 |.bool=>false
 |.str=>([]:List UInt8)
 |.sl _=>[]
 |.pair a b=>(a.XJ,b.XJ)
def Ly.size:Ly->Nat
 |.pair a b=>a.size+b.size
 |_=>1
def Ly.trees:(c:Ly)->c.ty->List T
 |.int k,n=>[.int k n]
 |.bool,b=>[.bool b]
 |.str,s=>[.str s]
 |.sl c,(xs:List c.ty)=>[.imm (xs.flatMap c.trees) xs.length none]
 |.pair a b,x=>a.trees x.1++b.trees x.2
class Gl where
 dat:Nat->Option ((c:Ly)×c.ty)
 obj:TypeId->List (Nat×Operand)->Bool:=λ_ _=>false
def Ys:Option Nat->Nat->Prop
 |some k,c=>c=k
 |none,_=>True
def Zd(w:World)(b:Nat):Prop:=∃c e fr,w.heap[b]? =some (.cells c e fr)
theorem Zd.lt{w:World}{b:Nat}(h:Zd w b):b<w.heap.size:=by obtain⟨c,e,fr,h⟩:=h;exact(WF.1 h).1
inductive TR(U:Nat->Prop)(w:World):T->Value->Prop
 |bool (b:Bool):TR U w (.bool b) (.bool b)
 |int (k:IntKind) (n:Int):TR U w (.int k n) (.int k n)
 |str (s:List UInt8):TR U w (.str s) (.string ⟨s.toArray⟩)
 |nilp:TR U w .nilp (.pointer none)
 |imm0 (cap:Option Nat) (a:Option Addr) (c:Nat):Ys cap c->TR U w (.imm [] 0 cap) (.slice a 0 c)
 |imm (cs:List T) (len:Nat) (cap:Option Nat) (b off c:Nat) (f:Nat->Value):U b->Zd w b->Ys cap c->len<=c->
   (∀i (_:i<cs.length),w.cell? ⟨b,off+i,none⟩=some (f i))->(∀i (h:i<cs.length),TR U w cs[i] (f i))->
   TR U w (.imm cs len cap) (.slice (some ⟨b,off,none⟩) len c)
 |iptr (cs:List T) (b off:Nat) (f:Nat->Value):U b->Zd w b->
   (∀i (_:i<cs.length),w.cell? ⟨b,off+i,none⟩=some (f i))->(∀i (h:i<cs.length),TR U w cs[i] (f i))->
   TR U w (.iptr cs) (.pointer (some ⟨b,off,none⟩))
 |fn (g:FuncId) (caps:List T) (arr:Array Value):arr.size=caps.length->(∀i (h:i<caps.length),TR U w caps[i] (arr.getD i undef))->
   TR U w (.fn g caps) (.func (.func g) #[] arr)
 |nilf:TR U w .nilf .nilFunc
 |junk (v:Value):v.oneCell'=true->TR U w .junk v
theorem XK{w w':World}{b:Nat}(h:w'.heap[b]? =w.heap[b]?)(o:Nat):w'.cell? ⟨b,o,none⟩=w.cell? ⟨b,o,none⟩:=by simp only[World.cell?,h]
theorem TR.mono{U U':Nat->Prop}{w w':World}{t:T}{v:Value}(h:TR U w t v)
  (hU:∀b,U b->Zd w b->U' b/\w'.heap[b]? =w.heap[b]?):TR U' w' t v:=by
 induction h with
 |bool b=>exact .bool b
 |int k n=>exact .int k n
 |str s=>exact .str s
 |nilp=>exact .nilp
 |imm0 cap a c hc=>exact .imm0 cap a c hc
 |imm cs len cap b off c f hb hlt hc hle hcells _ ih=>exact .imm cs len cap b off c f (hU b hb hlt).1 (by obtain⟨c',e',fr',h'⟩:=hlt;exact⟨c',e',fr',(hU b hb ⟨c',e',fr',h'⟩).2.trans h'⟩) hc hle (λi hi=>(XK (hU b hb hlt).2 _).trans (hcells i hi)) ih
 |iptr cs b off f hb hlt hcells _ ih=>exact .iptr cs b off f (hU b hb hlt).1 (by obtain⟨c',e',fr',h'⟩:=hlt;exact⟨c',e',fr',(hU b hb ⟨c',e',fr',h'⟩).2.trans h'⟩) (λi hi=>(XK (hU b hb hlt).2 _).trans (hcells i hi)) ih
 |fn g caps arr hsz _ ih=>exact .fn g caps arr hsz ih
 |nilf=>exact .nilf
 |junk v hv=>exact .junk v hv
theorem TR.Xr{U:Nat->Prop}{w:World}{t:T}{v:Value}(h:TR U w t v):v.oneCell'=true:=by cases h<;>first|rfl|assumption
structure Ref where
 id:Nat
 ep:Nat
 off:Nat
 deriving DecidableEq,Inhabited
inductive Cell where
 |t (x:T)
 |ptr (r:Ref)
 |sl (r:Ref) (len:Nat) (cap:Option Nat)
 |clo (f:FuncId) (caps:List Ref)
 deriving Inhabited
structure Obj where
 cs:List Cell
 es:Nat:=1
 ep:Nat:=0
 deriving Inhabited
abbrev Q1:=List Obj
structure Loc where
 blk:Nat
 sh:Nat
 tot:Nat
 deriving Inhabited
structure Je where
 loc:Option Loc
 es:Nat
 ep:Nat
 deriving Inhabited
structure Ext where(yv:Value)(o:Nat->Value)(l:Nat)(lr:Go.Loop)
def YID:Nat:=1000000
structure Map where
 at':Nat->Option Je
 res:Nat->Prop
 ex:Ext
instance:CoeFun Map (λ_=>Nat->Option Je):=⟨Map.at'⟩
def Map.byId(ι:Map)(b:Nat):Prop:=∃id s l,ι id=some s/\s.loc=some l/\l.blk=b
def Map.mapped(ι:Map)(b:Nat):Prop:=ι.byId b\/ι.res b
def Map.un(ι:Map)(b:Nat):Prop:=¬ι.mapped b
def J6(ι:Map)(r:Ref)(ok:Je->Prop):Prop:=∃s,ι r.id=some s/\r.ep<=s.ep/\(r.ep=s.ep->ok s)
def ptrOk(off:Nat)(a:Option Addr)(s:Je):Prop:=∃l,s.loc=some l/\a=some ⟨l.blk,l.sh+off,none⟩
def slOk(off len:Nat)(cap:Option Nat)(a:Option Addr)(c:Nat)(s:Je):Prop:=
 len<=c/\Ys cap c/\
 match s.loc with
 |none=>len=0/\c=0/\off=0
 |some l=>a=some ⟨l.blk,l.sh+off,none⟩/\off+c*s.es<=l.tot/\(cap=none->off+c*s.es=l.tot)
def cloR(ι:Map)(f:FuncId)(caps:List Ref)(v:Value):Prop:=if f=YID then v=ι.ex.yv/\∃l,v=.func (.yield l) #[] #[] else∃arr:Array Value,v=.func (.func f) #[] arr/\arr.size=caps.length/\∀i (h:i<caps.length),∃a:Addr,arr.getD i undef=.pointer (some a)/\J6 ι caps[i] (ptrOk caps[i].off (some a))
theorem cloR.no {ι : Map} {f : FuncId} {caps : List Ref} {v : Value} (h : cloR ι f caps v) (hf : f ≠ YID) : ∃ arr : Array Value,v = .func (.func f) #[] arr /\ arr.size = caps.length /\
     ∀ i (h : i < caps.length),∃ a : Addr,arr.getD i undef = .pointer (some a) /\ J6 ι caps[i] (ptrOk caps[i].off (some a)) := by
 unfold cloR at h;rwa [AE hf] at h
theorem cloR.func{ι:Map}{f:FuncId}{caps:List Ref}{v:Value}(h:cloR ι f caps v):(∃g arr,v=.func (.func g) #[] arr)\/∃l,v=.func (.yield l) #[] #[]:=by
 unfold cloR at h;split at h
 ·obtain⟨_,l,rfl⟩:=h;exact .inr ⟨_,rfl⟩
 ·obtain⟨arr,rfl,_⟩:=h;exact .inl ⟨_,_,rfl⟩
theorem cloR.mk {ι : Map} {f : FuncId} {caps : List Ref} {v : Value} (hf : f ≠ YID) (h : ∃ arr : Array Value,v = .func (.func f) #[] arr /\ arr.size = caps.length /\
     ∀ i (h : i < caps.length),∃ a : Addr,arr.getD i undef = .pointer (some a) /\ J6 ι caps[i] (ptrOk caps[i].off (some a))) : cloR ι f caps v := by
 unfold cloR;rwa [AE hf]
theorem cloR.imp{ι I':Map}{f:FuncId}{caps caps':List Ref}{v:Value}(h:cloR ι f caps v)(hy:I'.ex.yv=ι.ex.yv)(hl:caps'.length=caps.length)
  (hc:f≠YID->∀i (h:i<caps.length) (h':i<caps'.length) (a:Addr),J6 ι caps[i] (ptrOk caps[i].off (some a))->J6 I' caps'[i] (ptrOk caps'[i].off (some a))):cloR I' f caps' v:=by
 unfold cloR at h⊢;split
 ·rename_i hf;rw[AB hf]at h;rw[hy];exact h
 ·rename_i hf;rw[AE hf]at h;obtain⟨arr,rfl,h1,h2⟩:=h;exact⟨arr,rfl,h1.trans hl.symm,λi hi=>let ⟨a,h3,h4⟩:=h2 i (hl▸hi);⟨a,h3,hc hf i _ hi a h4⟩⟩
def CR(ι:Map)(w:World):Cell->Value->Prop
 |.t x,v=>TR ι.un w x v
 |.ptr r,v=>∃a:Addr,v=.pointer (some a)/\J6 ι r (ptrOk r.off (some a))
 |.sl r len cap,v=>∃a c,v=.slice a len c/\(len=0\/a.isSome=true)/\J6 ι r (slOk r.off len cap a c)
 |.clo f caps,v=>cloR ι f caps v
theorem CR.Xr{ι:Map}{w:World}{c:Cell}{v:Value}(h:CR ι w c v):v.oneCell'=true:=by
 cases c with
 |t x=>exact TR.Xr h
 |ptr r=>obtain⟨a,rfl,_⟩:=h;rfl
 |sl r len cap=>obtain⟨a,c,rfl,_⟩:=h;rfl
 |clo f caps=>
  have h:cloR ι f caps v:=h;unfold cloR at h;split at h
  ·obtain⟨_,l,rfl⟩:=h;rfl
  ·obtain⟨arr,rfl,_⟩:=h;rfl
def OR(ι:Map)(w:World)(o:Obj)(s:Je):Prop:=
 o.es=s.es/\o.ep=s.ep/\
 match s.loc with
 |none=>o.cs=[]
 |some l=>(∃cells elem,w.heap[l.blk]? =some (.cells cells elem (0,0))/\l.sh+l.tot<=cells.size)/\o.cs.length<=l.tot/\
   ∀i (h:i<o.cs.length),∃v,w.cell? ⟨l.blk,l.sh+i,none⟩=some v/\CR ι w o.cs[i] v
structure HR(ι:Map)(O:Q1)(w:World):Prop where
 obj:∀id s,ι id=some s->∃o,O[id]? =some o/\OR ι w o s
 inj:∀id id' s s' l l',ι id=some s->ι id'=some s'->s.loc=some l->s'.loc=some l'->l.blk=l'.blk->id=id'
 resRow:∀b,ι.res b->Zd w b
 resNo:∀id s l,ι id=some s->s.loc=some l->¬ι.res l.blk
structure Step(ι:Map)(O:Q1)(w:World)(I':Map)(A':Q1)(w':World):Prop where
 len:O.length<=A'.length
 size:w.heap.size<=w'.heap.size
 os:w'.os=w.os
 out:w'.output=w.output
 keep:∀id s,ι id=some s->∃s',I' id=some s'/\s.ep<=s'.ep/\(s.ep=s'.ep->s'=s)
 none:∀id,id<O.length->ι id=Option.none->I' id=Option.none
 new:∀id s' l',I' id=some s'->s'.loc=some l'->w.heap.size<=l'.blk\/ι.byId l'.blk
 res:I'.res=ι.res
 ex:I'.ex=ι.ex
 resKeep:∀b,ι.res b->w'.heap[b]? =w.heap[b]?
 frame:∀b,b<w.heap.size->ι.un b->w'.heap[b]? =w.heap[b]?
theorem Step.refl(ι:Map)(O:Q1)(w:World):Step ι O w ι O w where
 len:=A9 _
 size:=A9 _
 os:=rfl
 out:=rfl
 keep:=λ_ s h=>⟨s,h,A9 _,λ_=>rfl⟩
 none:=λ_ _ h=>h
 new:=λid s' l' h h'=>.inr ⟨id,s',l',h,h',rfl⟩
 res:=rfl
 ex:=rfl
 resKeep:=λ_ _=>rfl
 frame:=λ_ _ _=>rfl
theorem Step.un{ι I':Map}{O A':Q1}{w w':World}(h:Step ι O w I' A' w'){b:Nat}(hb:b<w.heap.size)(hu:ι.un b):I'.un b:=by
 rintro(⟨id,s,l,h1,h2,rfl⟩|hr)
 ·rcases h.new id s l h1 h2 with h3|h3
  ·exact absurd h3 (by omega)
  ·exact hu (.inl h3)
 ·exact hu (.inr (h.res▸hr))
theorem Step.trans{ι i₁ i₂:Map}{O s₁ s₂:Q1}{w w₁ w₂:World}(h:Step ι O w i₁ s₁ w₁)(h':Step i₁ s₁ w₁ i₂ s₂ w₂):Step ι O w i₂ s₂ w₂ where
 len:=Ao h.len h'.len
 size:=Ao h.size h'.size
 os:=h'.os.trans h.os
 out:=h'.out.trans h.out
 keep:=λid s hs=>by obtain⟨s1,h1,hle,he⟩:=h.keep id s hs;obtain⟨s2,h2,hle',he'⟩:=h'.keep id s1 h1;refine⟨s2,h2,Ao hle hle',λe=> ?_⟩;have e1:s1=s:=he (by omega);subst e1;exact he' e
 none:=λid hid hn=>h'.none id (AL hid h.len) (h.none id hid hn)
 new:=λid s' l' h1 h2=>by
  rcases h'.new id s' l' h1 h2 with h3|⟨id1,s1,l1,h4,h5,h6⟩
  ·exact .inl (Ao h.size h3)
  ·rcases h.new id1 s1 l1 h4 h5 with h7|h7
   ·exact .inl (h6▸h7)
   ·exact .inr (h6▸h7)
 res:=h'.res.trans h.res
 ex:=h'.ex.trans h.ex
 resKeep:=λb hb=>(h'.resKeep b (h.res▸hb)).trans (h.resKeep b hb)
 frame:=λb hb hu=>(h'.frame b (AL hb h.size) (h.un hb hu)).trans (h.frame b hb hu)
theorem TR.step{ι I':Map}{O A':Q1}{w w':World}(hs:Step ι O w I' A' w'){t:T}{v:Value}(h:TR ι.un w t v):TR I'.un w' t v:=
 h.mono (λb hb hlt=>⟨hs.un hlt.lt hb,hs.frame b hlt.lt hb⟩)
theorem J6.step{ι I':Map}{O A':Q1}{w w':World}(hs:Step ι O w I' A' w'){r:Ref}{ok:Je->Prop}(h:J6 ι r ok):J6 I' r ok:=by obtain⟨s,h1,h2,h3⟩:=h;obtain⟨s',h4,h5,h6⟩:=hs.keep r.id s h1;refine⟨s',h4,by omega,λe=> ?_⟩;have e1:s'=s:=h6 (by omega);subst e1;exact h3 e
theorem CR.step{ι I':Map}{O A':Q1}{w w':World}(hs:Step ι O w I' A' w'){c:Cell}{v:Value}(h:CR ι w c v):CR I' w' c v:=by
 cases c with
 |t x=>exact TR.step hs h
 |ptr r=>obtain⟨a,rfl,h1⟩:=h;exact⟨a,rfl,h1.step hs⟩
 |sl r len cap=>obtain⟨a,c,rfl,h0,h1⟩:=h;exact⟨a,c,rfl,h0,h1.step hs⟩
 |clo f caps=>exact cloR.imp h (by rw[hs.ex]) rfl λ_ i _ _ a h4=>h4.step hs
inductive AV where
 |c (x:Cell)
 |agg (xs:List Cell)
 |tup (xs:List (Cell⊕List Cell))
 deriving Inhabited
def Jj(ι:Map)(w:World)(xs:List Cell)(v:Value):Prop:=∃arr:Array Value,v=.agg arr/\arr.size=xs.length/\∀i (h:i<xs.length),∃u,arr[i]? =some u/\CR ι w xs[i] u
def compR(ι:Map)(w:World):Cell⊕List Cell->Value->Prop
 |.inl x,v=>CR ι w x v
 |.inr xs,v=>Jj ι w xs v
def VR(ι:Map)(w:World):AV->Value->Prop
 |.c x,v=>CR ι w x v
 |.agg xs,v=>Jj ι w xs v
 |.tup xs,v=>∃arr:Array Value,v=.tuple arr/\arr.size=xs.length/\∀i (h:i<xs.length),∃u,arr[i]? =some u/\compR ι w xs[i] u
theorem Jj.step{ι I':Map}{O A':Q1}{w w':World}(hs:Step ι O w I' A' w'){xs:List Cell}{v:Value}(h:Jj ι w xs v):Jj I' w' xs v:=by obtain⟨arr,rfl,h1,h2⟩:=h;exact⟨arr,rfl,h1,λi hi=>let ⟨u,h3,h4⟩:=h2 i hi;⟨u,h3,h4.step hs⟩⟩
theorem compR.step{ι I':Map}{O A':Q1}{w w':World}(hs:Step ι O w I' A' w'){x:Cell⊕List Cell}{v:Value}(h:compR ι w x v):compR I' w' x v:=by
 cases x with
 |inl x=>exact CR.step hs h
 |inr xs=>exact Jj.step hs h
theorem VR.step{ι I':Map}{O A':Q1}{w w':World}(hs:Step ι O w I' A' w'){x:AV}{v:Value}(h:VR ι w x v):VR I' w' x v:=by
 cases x with
 |c x=>exact CR.step hs h
 |agg xs=>exact Jj.step hs h
 |tup xs=>obtain⟨arr,rfl,h1,h2⟩:=h;exact⟨arr,rfl,h1,λi hi=>let ⟨u,h3,h4⟩:=h2 i hi;⟨u,h3,h4.step hs⟩⟩
theorem OR.congr{ι I':Map}{O A':Q1}{w w':World}(hs:Step ι O w I' A' w'){o:Obj}{s:Je}(h:OR ι w o s)
  (hb:∀l,s.loc=some l->w'.heap[l.blk]? =w.heap[l.blk]?):OR I' w' o s:=by
 obtain⟨h1,h2,h3⟩:=h;refine⟨h1,h2,?_⟩
 cases hl:s.loc with
 |none=>rw[hl]at h3;exact h3
 |some l=>rw[hl]at h3;obtain⟨⟨cells,elem,h4,h5⟩,h6,h7⟩:=h3;have e:=hb l hl;refine⟨⟨cells,elem,e.trans h4,h5⟩,h6,λi hi=> ?_⟩;obtain⟨v,h8,h9⟩:=h7 i hi;exact⟨v,(XK e _).trans h8,h9.step hs⟩
end Go.Abs
namespace Go.Abs
variable [Gl]
inductive K where
 |bool|int (k:IntKind)|string|ptr (e:TypeId)|slice (e:TypeId)|array (n:Nat) (e:TypeId)
 |struct (fs:List (Nat×TypeId))|func|other
 deriving Inhabited
inductive EK where
 |bool|int|str
 deriving Inhabited
structure Qp where
 kind:K
 size:Nat
 bytes:Nat
 zero:Option (List T)
 eqs:Option (List EK)
 deriving Inhabited
def Jd:TypeDesc->K
 |.bool=>.bool
 |.int k=>.int k
 |.string=>.string
 |.pointer e=>.ptr e
 |.slice e=>.slice e
 |.array n e=>.array n e
 |.struct fs=>.struct (fs.toList.map λf=>(f.offset,f.type))
 |.func .. =>.func
 |_=>.other
def tOf:Value->Option T
 |.bool b=>some (.bool b)
 |.int k n=>some (.int k n)
 |.string s=>some (.str s.data.toList)
 |.pointer none=>some .nilp
 |.slice none 0 0=>some (.imm [] 0 (some 0))
 |.nilFunc=>some .nilf
 |_=>none
def tOfCell(v:Value):Option T:=match tOf v with
 |some t=>some t
 |none=>if v.oneCell' then some .junk else none
def V8:List Value->Option (List T)
 |[]=>some []
 |v::vs=>match tOfCell v,V8 vs with
  |some t,some ts=>some (t::ts)
  |_,_=>none
def eqFs(rec:TypeId->Option (List EK)):List Field->List EK->Option (List EK)
 |[],acc=>some acc
 | f :: fs,acc => if f.name ≠ "_" /\ f.offset = acc.length then (match rec f.type with
  |some l=>eqFs rec fs (acc++l)
  |none=>none) else none
def eqKs(P:Program):Nat->TypeId->Option (List EK)
 |0,_=>none
 |d+1,t=>match P.underlying t,P.info? t with
  |some .bool,some _=>some [.bool]
  |some (.int _),some _=>some [.int]
  |some .string,some _=>some [.str]
  |some (.struct fs),some i=>if P.stoodInHeld t then none else match eqFs (eqKs P d) fs.toList [] with
   |some ks=>if ks.length=i.size then some ks else none
   |none=>none
  |_,_=>none
def eqTop(P:Program)(t:TypeId):TypeDesc->Option (List EK)
 |.struct _=>if P.eqGuardType P.depth t then none else eqKs P 6 t
 |_=>none
def Yr:EK->Cell->Cell->Option Bool
 |.bool,.t (.bool a),.t (.bool b)=>some (a==b)
 |.int,.t (.int k a),.t (.int k' b)=>if k=k' then some (a==b) else none
 |.str,.t (.str a),.t (.str b)=>some (a==b)
 |_,_,_=>none
def Xc:List EK->List Cell->List Cell->Option Bool
 |[],[],[]=>some true
 |k::ks,a::as,b::bs=>match Yr k a b,Xc ks as bs with
  |some x,some y=>some (x&&y)
  |_,_=>none
 |_,_,_=>none
def tinf(P:Program)(t:TypeId):Option Qp:=
 match P.underlying t,P.info? t with
 |some d,some i=>some { kind:=Jd d,size:=i.size,bytes:=i.bytes,zero:=i.zero.bind λv=>V8 v.cells.toList,eqs:=eqTop P t d }
 |_,_=>none
def Qp.isAgg(i:Qp):Bool:=match i.kind with|.struct _|.array .. =>true|_=>false
abbrev Q0:=List (Nat×AV)
def Q0.get:Q0->Nat->Option AV
 |[],_=>none
 |(k,v)::r,t=>if k=t then some v else Q0.get r t
def BIG:Nat:=1000000
def Q0.at(r:Q0)(t:Nat):Option AV:=match Nat.ble BIG t with
 |true=>none
 |false=>r.get t
def Q0.set:Q0->Nat->AV->Q0
 |[],t,v=>[(t,v)]
 |(k,u)::r,t,v=>if k=t then (k,v)::r else (k,u)::Q0.set r t v
def Q0.del:Q0->Nat->Q0
 |[],_=>[]
 |(k,u)::r,t=>if k=t then Q0.del r t else (k,u)::Q0.del r t
def Q0.put(r:Q0):Option Nat->AV->Q0
 |some d,v=>r.set d v
 |none,_=>r
def Q0.drop(r:Q0):Option Nat->Q0
 |some d=>r.set d (.tup [])
 |none=>r
def Wq(v:Value):Option AV:=match v with
 |.agg cs=>(V8 cs.toList).map λts=>.agg (ts.map .t)
 |v=>(tOf v).map λt=>.c (.t t)
def ev(r:Q0):Operand->Option AV
 |.tmp t=>r.at t
 |.const v=>Wq v
 |.func f=>some (.c (.t (.fn f [])))
 |.global g=>match Gl.dat g with
  |some ⟨c,x⟩=>some (.c (.t (.iptr (c.trees x))))
  |none=>none
@[reducible] def aI (k:IntKind) (n:Int):AV:=.c (.t (.int k n))
@[reducible] def aB (b:Bool):AV:=.c (.t (.bool b))
def AV.cells:AV->List Cell
 |.c x=>[x]
 |.agg xs=>xs
 |.tup _=>[]
def AV.flat:AV->Bool
 |.tup _=>false
 |_=>true
def Q1.at?(O:Q1)(r:Ref):Option Obj:=match O[r.id]? with
 |some o=>if o.ep=r.ep then some o else none
 |none=>none
def Z2(i:Qp)(cs:List Cell):Option AV:=
 if i.isAgg then (if i.size<=cs.length then some (.agg (cs.take i.size)) else none)
 else match cs with|c::_=>some (.c c)|[]=>none
def ZQ(O:Q1)(i:Qp):AV->Option AV
 |.c (.ptr r)=>match O.at? r with
  |some o=>Z2 i (o.cs.drop r.off)
  |none=>none
 |.c (.t (.iptr cs))=>Z2 i (cs.map .t)
 |_=>none
def QX(cs:List Cell)(off:Nat)(xs:List Cell):List Cell:=cs.take off++xs++cs.drop (off+xs.length)
def Xg(O:Q1)(i:Qp)(a v:AV):Option Q1:=match a with
 |.c (.ptr r)=>match O.at? r with
  |some o=>if v.flat/\v.cells.length=i.size/\r.off+i.size<=o.cs.length then some (O.set r.id { o with cs:=QX o.cs r.off v.cells }) else none
  |none=>none
 |_=>none
def Ki(O:Q1)(cs:List Cell):AV×Q1:=(.c (.ptr ⟨O.length,0,0⟩),O++[{ cs:=cs }])
def YV(place:Nat->Option (Nat×Nat)):List (Nat×AV)->List Cell->Option (List Cell)
 |[],cs=>some cs
 |(i,v)::rest,cs=>match place i with
  |some (off,size)=>if v.flat/\v.cells.length=size/\off+size<=cs.length then YV place rest (QX cs off v.cells) else none
  |none=>none
def evs(r:Q0):List (Nat×Operand)->Option (List (Nat×AV))
 |[]=>some []
 |(i,x)::rest=>match ev r x,evs r rest with
  |some v,some vs=>some ((i,v)::vs)
  |_,_=>none
def evl(r:Q0):List Operand->Option (List AV)
 |[]=>some []
 |x::rest=>match ev r x,evl r rest with
  |some v,some vs=>some (v::vs)
  |_,_=>none
def YE(P:Program):List (Nat×TypeId)->Option (List (Nat×Nat))
 |[]=>some []
 |(off,t)::rest=>match tinf P t,YE P rest with
  |some i,some ps=>some ((off,i.size)::ps)
  |_,_=>none
def qE(P:Program)(t:TypeId)(ps:List (Nat×AV)):Option AV:=match tinf P t with
 |some i=>match i.zero,i.kind with
  |some z,.struct fs=>match YE P fs with
   |some places=>(YV (λn=>places[n]?) ps (z.map .t)).map .agg
   |none=>none
  |some z,.array _ e=>match tinf P e with
   |some j=>(YV (λn=>some (n*j.size,j.size)) ps (z.map .t)).map .agg
   |none=>none
  |_,_=>none
 |none=>none
def Zr:Nat->List T->List T
 |0,_=>[]
 |n+1,z=>z++Zr n z
def UX:List Cell->Option (List T)
 |[]=>some []
 |.t x::r=>(UX r).map (x::·)
 |_::_=>none
def objT(b:Bool)(cs:List Cell):Option (List T):=match b with
 |true=>none
 |false=>UX cs
theorem objT_eq{b:Bool}{cs:List Cell}{ts:List T}(h:objT b cs=some ts):UX cs=some ts:=by
 cases b with
 |true=>cases h
 |false=>exact h
def JK(P:Program)(b:Bool)(O:Q1)(t:TypeId)(n:Nat)(ps:List (Nat×AV)):Option (AV×Q1):=match tinf P t with
 |some i=>match i.kind with
  |.slice e=>match tinf P e with
   |some j=>match j.zero with
    |some z=>if j.size=z.length/\0<j.size/\n*j.size<=1000 then
      match YV (λm=>some (m*j.size,j.size)) ps ((Zr n z).map .t) with
      |some cs=>match objT b cs with
       |some ts=>some (.c (.t (.imm ts n (some n))),O)
       |none=>some (.c (.sl ⟨O.length,0,0⟩ n (some n)),O++[{ cs:=cs,es:=j.size }])
      |none=>none
     else none
    |none=>none
   |none=>none
  |_=>none
 |none=>none
def intE(op:BinOp)(k:IntKind)(x y:Int):Option T:=match op with
 |.add=>some (.int k (k.wrap (x+y)))
 |.sub=>some (.int k (k.wrap (x - y)))
 |.mul=>some (.int k (k.wrap (x*y)))
 |.quo=>if y=0 then none else some (.int k (k.wrap (x.tdiv y)))
 |.rem=>if y=0 then none else some (.int k (x.tmod y))
 |.and=>some (.int k (k.wrap (BitVec.ofInt k.bits x&&&BitVec.ofInt k.bits y).toNat))
 |.or=>some (.int k (k.wrap (BitVec.ofInt k.bits x|||BitVec.ofInt k.bits y).toNat))
 |.xor=>some (.int k (k.wrap (BitVec.ofInt k.bits x^^^BitVec.ofInt k.bits y).toNat))
 |.andNot=>some (.int k (k.wrap (BitVec.ofInt k.bits x&&& ~~~BitVec.ofInt k.bits y).toNat))
 |.eql=>some (.bool (x==y))
 |.neq=>some (.bool (x !=y))
 |.lss=>some (.bool (decide (x<y)))
 |.leq=>some (.bool (decide (x<=y)))
 |.gtr=>some (.bool (decide (x>y)))
 |.geq=>some (.bool (decide (x>=y)))
 |_=>none
def VE(op:BinOp)(k:IntKind)(x:Int)(y:Int):Option T:=
 if y<0 then none else match op with
 |.shl=>some (.int k (k.wrap (x*2^(min y.toNat k.bits))))
 |.shr=>some (.int k (x.fdiv (2^(min y.toNat k.bits))))
 |_=>none
def strE(op:BinOp)(x y:List UInt8):Option T:=match op with
 |.add=>if x.length+y.length<=9223372036854775807 then some (.str (x++y)) else none
 |.eql=>some (.bool (x==y))
 |.neq=>some (.bool !(x==y))
 |_=>none
def Wu(op:BinOp)(x y:Bool):Option T:=match op with
 |.eql=>some (.bool (x==y))
 |.neq=>some (.bool !(x==y))
 |_=>none
def WY:BinOp->Bool
 |.shl|.shr=>true
 |_=>false
def binE(P:Program)(op:BinOp)(xT:TypeId)(x y:AV):Option T:=match x,y with
 |.c (.t (.int k a)),.c (.t (.int k' b))=>if WY op then VE op k a b else if k=k' then intE op k a b else none
 |.c (.t (.str a)),.c (.t (.str b))=>strE op a b
 |.c (.t (.bool a)),.c (.t (.bool b))=>match tinf P xT with
  |some i=>match i.kind with|.bool=>Wu op a b|_=>none
  |none=>none
 |.c (.ptr _),.c (.t .nilp)|.c (.t (.iptr _)),.c (.t .nilp)=>match tinf P xT with
  |some i=>match i.kind with|.ptr _=>Wu op false true|_=>none
  |none=>none
 |.c (.t .nilp),.c (.t .nilp)=>match tinf P xT with
  |some i=>match i.kind with|.ptr _=>Wu op true true|_=>none
  |none=>none
 |.agg xs,.agg ys=>match tinf P xT with
  |some i=>match i.eqs with
   |some ks=>match Xc ks xs ys with
    |some c=>Wu op c true
    |none=>none
   |none=>none
  |none=>none
 |_,_=>none
def unE(op:UnOp)(x:AV):Option T:=match op,x with
 |.not,.c (.t (.bool b))=>some (.bool !b)
 |.neg,.c (.t (.int k n))=>some (.int k (k.wrap (0 - n)))
 |.xor,.c (.t (.int k n))=>intE .xor k (if k.signed then -1 else k.max) n
 |_,_=>none
def utf(n:Int):List UInt8:=(Utf8.encode n).data.toList
def Vw(P:Program)(src dst:TypeId)(x:AV):Option T:=match tinf P src,tinf P dst,x with
 |some _,some j,.c (.t (.int _ n))=>match j.kind with
  |.int k=>some (.int k (k.wrap n))
  |.string=>some (.str (utf n))
  |_=>none
 |some _,some j,.c (.t (.str s))=>match j.kind with
  |.string=>some (.str s)
  |_=>none
 |_,_,_=>none
def ZU(P:Program)(t:TypeId)(x:AV)(f:Nat):Option AV:=match tinf P t with
 |some i=>match i.kind with
  |.struct fs=>match fs[f]? with
   |some (off,ft)=>match tinf P ft with
    |some j=>if 0<j.size then (match x with
     |.c (.ptr r)=>some (.c (.ptr { r with off:=r.off+off }))
     |.c (.t (.iptr cs))=>some (.c (.t (.iptr (cs.drop off))))
     |_=>none) else none
    |none=>none
   |none=>none
  |_=>none
 |none=>none
def KN(j:Qp)(cs:List Cell)(off:Nat):Option AV:=
 if j.isAgg then (if off+j.size<=cs.length then some (.agg ((cs.drop off).take j.size)) else none)
 else match cs[off]? with|some c=>some (.c c)|none=>none
def Vp(P:Program)(t:TypeId)(x:AV)(f:Nat):Option AV:=match tinf P t with
 |some i=>match i.kind,x with
  |.struct fs,.agg cs=>match fs[f]? with
   |some (off,ft)=>match tinf P ft with
    |some j=>KN j cs off
    |none=>none
   |none=>none
  |_,_=>none
 |none=>none
def Ze:AV->Option Int
 |.c (.t (.int _ n))=>some n
 |_=>none
def ZS(P:Program)(t:TypeId)(x i:AV):Option AV:=match tinf P t,Ze i with
 |some inf,some n=>match inf.kind with
  |.slice e=>match tinf P e with
   |some j=>match x with
    |.c (.sl r len _)=>if 0<=n/\n<len then some (.c (.ptr { r with off:=r.off+n.toNat*j.size })) else none
    |.c (.t (.imm cs len _))=>if 0<=n/\n<len then some (.c (.t (.iptr (cs.drop (n.toNat*j.size))))) else none
    |_=>none
   |none=>none
  |.array len e=>match tinf P e with
   |some j=>match x with
    |.c (.ptr r)=>if 0<=n/\n<len then some (.c (.ptr { r with off:=r.off+n.toNat*j.size })) else none
    |.c (.t (.iptr cs))=>if 0<=n/\n<len then some (.c (.t (.iptr (cs.drop (n.toNat*j.size))))) else none
    |_=>none
   |none=>none
  |_=>none
 |_,_=>none
def YK(P:Program)(t:TypeId)(x i:AV):Option AV:=match tinf P t,Ze i with
 |some inf,some n=>match inf.kind,x with
  |.array len e,.agg cs=>match tinf P e with
   |some j=>if 0<=n/\n<len then KN j cs (n.toNat*j.size) else none
   |none=>none
  |.string,.c (.t (.str s))=>if 0<=n then (match s[n.toNat]? with|some b=>some (aI .u8 b.toNat)|none=>none) else none
  |_,_=>none
 |_,_=>none
def Y2(x:AV)(i:Nat):Option AV:=match x with
 |.tup xs=>match xs[i]? with
  |some (.inl c)=>some (.c c)
  |some (.inr cs)=>some (.agg cs)
  |none=>none
 |_=>none
def JR(x:Option AV)(XJ top:Nat):Option Nat:=match x with
 |none=>some XJ
 |some v=>match Ze v with
  |some n=>if 0<=n/\n<=top then some n.toNat else none
  |none=>none
def Yc(P:Program)(O:Q1)(t:TypeId)(x:AV)(lo hi mx:Option AV):Option AV:=match tinf P t with
 |some i=>match i.kind,x with
  |.string,.c (.t (.str s))=>match mx,JR hi s.length s.length with
   |none,some h=>match JR lo 0 h with
    |some l=>some (.c (.t (.str ((s.drop l).take (h - l)))))
    |none=>none
   |_,_=>none
  |.slice e,.c (.sl r len cap)=>match tinf P e,O.at? r with
   |some j,some o=>if o.es=j.size then (match mx,hi with
    |some _,some _=>match JR mx 0 (cap.getD len) with
     |some m=>match JR hi 0 m with
      |some h=>match JR lo 0 h with
       |some l=>some (.c (.sl { r with off:=if m=l then r.off else r.off+l*j.size } (h - l) (some (m - l))))
       |none=>none
      |none=>none
     |none=>none
    |some _,none=>none
    |none,_=>match JR hi len (cap.getD len) with
     |some h=>match JR lo 0 h with
      |some l=>match cap with
       |some c=>some (.c (.sl { r with off:=if c=l then r.off else r.off+l*j.size } (h - l) (some (c - l))))
       |none=>if l<len\/l=0 then some (.c (.sl { r with off:=r.off+l*j.size } (h - l) none)) else none
      |none=>none
     |none=>none) else none
   |_,_=>none
  |.slice e,.c (.t (.imm cs len cap))=>match tinf P e with
   |some j=>if cs.length=len*j.size then (match mx,hi with
    |some _,some _=>match JR mx 0 len with
     |some m=>match JR hi 0 m with
      |some h=>match JR lo 0 h with
       |some l=>some (.c (.t (.imm ((cs.drop (l*j.size)).take ((h - l)*j.size)) (h - l) (some (m - l)))))
       |none=>none
      |none=>none
     |none=>none
    |some _,none=>none
    |none,_=>match JR hi len len with
     |some h=>match JR lo 0 h with
      |some l=>some (.c (.t (.imm ((cs.drop (l*j.size)).take ((h - l)*j.size)) (h - l) (cap.map (· - l)))))
      |none=>none
     |none=>none) else none
   |none=>none
  |_,_=>none
 |none=>none
def lenE(x:AV):Option Nat:=match x with
 |.c (.sl _ n _)=>some n
 |.c (.t (.imm _ n _))=>some n
 |.c (.t (.str s))=>some s.length
 |_=>none
def Qu(P:Program)(O:Q1)(t:TypeId)(l c:AV):Option (AV×Q1):=match tinf P t,Ze l,Ze c with
 |some i,some n,some m=>match i.kind with
  |.slice e=>match tinf P e with
   |some j=>match j.zero with
    |some z=>if j.size=z.length/\0<j.size/\0<=n/\n<=m/\m*j.bytes<=281474976710656/\m<=9223372036854775807 then
      some (.c (.sl ⟨O.length,0,0⟩ n.toNat (some m.toNat)),O++[{ cs:=(Zr m.toNat z).map .t,es:=j.size }])
     else none
    |none=>none
   |none=>none
  |_=>none
 |_,_,_=>none
def Qt(O:Q1)(es n:Nat)(x:AV):Option (List Cell):=match x with
 |.c (.sl r len _)=>match O.at? r with
  |some o=>if r.off+n*es<=o.cs.length/\n<=len then some ((o.cs.drop r.off).take (n*es)) else none
  |none=>none
 |.c (.t (.imm cs len _))=>if n<=len/\cs.length=len*es then some ((cs.take (n*es)).map .t) else none
 |.c (.t (.str s))=>if n<=s.length/\es=1 then some ((s.take n).map λb=>.t (.int .u8 b.toNat)) else none
 |_=>none
def Xy(n bytes:Nat):Prop:=n*bytes<=17592186044416/\n<=17592186044416/\bytes<=1073741824
instance (n bytes:Nat):Decidable (Xy n bytes):=inferInstanceAs (Decidable (_/\_/\_))
def JO(P:Program)(O:Q1)(t:TypeId)(s x:AV):Option (AV×Q1):=match tinf P t with
 |some i=>match i.kind with
  |.slice e=>match tinf P e with
   |some j=>match j.zero,lenE x with
    |some z,some m=>if j.size=z.length/\0<j.size then
     match Qt O j.size m x with
     |some new=>match s with
      |.c (.t (.imm cs len (some c)))=>
       if c=len/\cs.length=len*j.size/\Xy (len+m) j.bytes then
        (if m=0 then some (s,O) else some (.c (.sl ⟨O.length,0,0⟩ (len+m) none),O++[{ cs:=cs.map .t++new,es:=j.size }]))
       else none
      |.c (.sl r len none)=>match O.at? r with
       |some o=>if r.off=0/\o.es=j.size/\o.cs.length=len*j.size/\Xy (len+m) j.bytes then
         some (.c (.sl { r with ep:=r.ep+1 } (len+m) none),O.set r.id { o with cs:=o.cs++new,ep:=o.ep+1 })
        else none
       |none=>none
      |.c (.sl r len (some c))=>match O.at? r with
       |some o=>if o.es=j.size/\len+m<=c/\r.off+c*j.size<=o.cs.length then
         some (.c (.sl r (len+m) (some c)),O.set r.id { o with cs:=QX o.cs (r.off+len*j.size) new })
        else if o.es=j.size/\c<len+m/\len<=c/\r.off+c*j.size<=o.cs.length/\Xy (len+m) j.bytes then
         some (.c (.sl ⟨O.length,0,0⟩ (len+m) none),O++[{ cs:=(o.cs.drop r.off).take (len*j.size)++new,es:=j.size }])
        else none
       |none=>none
      |_=>none
     |none=>none
     else none
    |_,_=>none
   |none=>none
  |_=>none
 |none=>none
def Uj(P:Program)(O:Q1)(t:TypeId)(d s:AV):Option (AV×Q1):=match tinf P t with
 |some i=>match i.kind with
  |.slice e=>match tinf P e with
   |some j=>match d,lenE s with
    |.c (.sl r len _),some m=>match O.at? r,Qt O j.size (min m len) s with
     |some o,some new=>if o.es=j.size/\r.off+len*j.size<=o.cs.length then
       some (aI .i64 ((min m len:Nat):Int),O.set r.id { o with cs:=QX o.cs r.off new })
      else none
     |_,_=>none
    |.c (.t (.imm _ 0 _)),some _=>some (aI .i64 0,O)
    |_,_=>none
   |none=>none
  |_=>none
 |none=>none
def ZZ(mx:Bool):List AV->Option AV
 |[.c (.t (.int k x)),.c (.t (.int k' y))]=>if k=k' then some (aI k (if mx then (if y>x then y else x) else (if y<x then y else x))) else none
 |_=>none
def Qc(P:Program)(O:Q1)(b:Builtin)(argTs:Array TypeId)(args:List AV):Option (AV×Q1):=match b,args with
 |.len,[x]=>match argTs[0]? with
  |some t=>match tinf P t with
   |some i=>(match i.kind,x with
    |.slice _,.c (.sl _ n _)=>some (aI .i64 n,O)
    |.slice _,.c (.t (.imm _ n _))=>some (aI .i64 n,O)
    |.string,.c (.t (.str s))=>some (aI .i64 s.length,O)
    |.array n _,_=>some (aI .i64 n,O)
    |_,_=>none)
   |none=>none
  |none=>none
 |.cap,[x]=>match argTs[0]? with
  |some t=>match tinf P t with
   |some i=>(match i.kind with
    |.slice _=>(match x with
     |.c (.sl r _ (some c))=>(match O.at? r with
      |some _=>some (aI .i64 c,O)
      |none=>none)
     |.c (.t (.imm _ _ (some c)))=>some (aI .i64 c,O)
     |_=>none)
    |_=>none)
   |none=>none
  |none=>none
 |.append,[s,x]=>match argTs[0]?,argTs[1]? with
  |some t,some u=>(match tinf P u with
   |some i=>(match i.kind with
    |.slice _=>JO P O t s x
    |.string=>JO P O t s x
    |_=>none)
   |none=>none)
  |_,_=>none
 |.copy,[d,s]=>match argTs[0]? with
  |some t=>Uj P O t d s
  |none=>none
 |.min,l=>(ZZ false l).map (·,O)
 |.max,l=>(ZZ true l).map (·,O)
 |_,_=>none
def refsOf:List AV->Option (List Ref)
 |[]=>some []
 |.c (.ptr r)::rest=>(refsOf rest).map (r::·)
 |_::_=>none
def Kb:List AV->Option (List T)
 |[]=>some []
 |.c (.t x)::rest=>(Kb rest).map (x::·)
 |_::_=>none
def ZD(f:FuncId)(caps:List AV):Option AV:=match Kb caps with
 |some ts=>some (.c (.t (.fn f ts)))
 |none=>match refsOf caps with
  |some rs=>match Nat.beq f YID with|true=>none|false=>some (.c (.clo f rs))
  |none=>none
def evo(r:Q0):Option Operand->Option (Option AV)
 |none=>some none
 |some x=>(ev r x).map some
def opE(P:Program)(r:Q0)(O:Q1):Op->Option (Option AV×Q1)
 |.move x|.assign x=>(ev r x).map λv=>(some v,O)
 |.pick c a b=>match ev r c with
  |some (.c (.t (.bool t)))=>(ev r (if t then a else b)).map λv=>(some v,O)
  |_=>none
 |.alloc e=>match tinf P e with
  |some i=>match i.zero with
   |some z=>some (some (Ki O (z.map .t)).1,(Ki O (z.map .t)).2)
   |none=>none
  |none=>none
 |.box _ x=>match ev r x with
  |some v=>if v.flat then some (some (Ki O v.cells).1,(Ki O v.cells).2) else none
  |none=>none
 |.build t ps=>match evs r ps.toList with
  |some vs=>(qE P t vs).map λv=>(some v,O)
  |none=>none
 |.buildSlice t n ps=>match evs r ps.toList with
  |some vs=>(JK P (Gl.obj t ps.toList) O t n vs).map λx=>(some x.1,x.2)
  |none=>none
 |.load t a=>match tinf P t,ev r a with
  |some i,some v=>(ZQ O i v).map λx=>(some x,O)
  |_,_=>none
 |.store t a x=>match tinf P t,ev r a,ev r x with
  |some i,some v,some u=>(Xg O i v u).map λA'=>(none,A')
  |_,_,_=>none
 |.nilCheck x=>match ev r x with
  |some (.c (.ptr p))=>some (some (.c (.ptr p)),O)
  |some (.c (.t (.iptr cs)))=>some (some (.c (.t (.iptr cs))),O)
  |some (.c (.t (.fn f cs)))=>some (some (.c (.t (.fn f cs))),O)
  |some (.c (.clo f cs))=>some (some (.c (.clo f cs)),O)
  |_=>none
 |.binOp op xT x y _=>match ev r x,ev r y with
  |some u,some v=>(binE P op xT u v).map λt=>(some (.c (.t t)),O)
  |_,_=>none
 |.unOp op _ x=>match ev r x with
  |some v=>(unE op v).map λt=>(some (.c (.t t)),O)
  |none=>none
 |.convert src dst x=>match ev r x with
  |some v=>(Vw P src dst v).map λt=>(some (.c (.t t)),O)
  |none=>none
 |.makeFunc (.func f) first caps=>if first.size=0 then (match evl r caps.toList with
  |some vs=>(ZD f vs).map λv=>(some v,O)
  |none=>none) else none
 |.makeSlice t l c=>match ev r l,ev r c with
  |some u,some v=>(Qu P O t u v).map λx=>(some x.1,x.2)
  |_,_=>none
 |.slice t x lo hi mx=>match ev r x,evo r lo,evo r hi,evo r mx with
  |some v,some l,some h,some m=>(Yc P O t v l h m).map λu=>(some u,O)
  |_,_,_,_=>none
 |.fieldAddr t x f=>match ev r x with
  |some v=>(ZU P t v f).map λu=>(some u,O)
  |none=>none
 |.field t x f=>match ev r x with
  |some v=>(Vp P t v f).map λu=>(some u,O)
  |none=>none
 |.indexAddr t x i=>match ev r x,ev r i with
  |some v,some n=>(ZS P t v n).map λu=>(some u,O)
  |_,_=>none
 |.index t x i=>match ev r x,ev r i with
  |some v,some n=>(YK P t v n).map λu=>(some u,O)
  |_,_=>none
 |.extract x i=>match ev r x with
  |some v=>(Y2 v i).map λu=>(some u,O)
  |none=>none
 |.call { callee:=.builtin b,args,argTypes }=>match evl r args.toList with
  |some vs=>(Qc P O b argTypes vs).map λx=>(some x.1,x.2)
  |none=>none
 |_=>none
end Go.Abs
namespace Go.Abs
variable [Gl]
def noRow(o:Go.Obj):Prop:=∀c e fr,o≠.cells c e fr
theorem un_noRow{ι:Map}{O:Q1}{w:World}(h:HR ι O w){b:Nat}{o:Go.Obj}(ho:noRow o)(hb:w.heap[b]? =some o):ι.un b:=by
 rintro(⟨id,s,l,h3,h4,rfl⟩|hr)
 ·obtain⟨o',_,_,_,h5⟩:=h.obj id s h3;rw[h4]at h5;obtain⟨⟨cells,elem,h6,_⟩,_⟩:=h5;rw[h6]at hb;injection hb with hb;exact ho _ _ _ hb.symm
 ·obtain⟨c,e,fr,h1⟩:=h.resRow b hr;rw[h1]at hb;injection hb with hb;exact ho _ _ _ hb.symm
def badV:Value:=.tuple #[.tuple #[]]
theorem VR_bad{ι:Map}{w:World}{x:AV}(h:VR ι w x badV):False:=by
 cases x with
 |c x=>have:=CR.Xr h;cases this
 |agg xs=>obtain⟨arr,e,_⟩:=h;cases e
 |tup xs=>
  obtain⟨arr,e,h1,h2⟩:=h;injection e with e;subst e
  cases xs with
  |nil=>cases h1
  |cons x xs=>
   obtain⟨u,h3,h4⟩:=h2 0 (by simp);injection h3 with h3;subst h3
   cases x with
   |inl c=>have:=CR.Xr (show CR ι w c (.tuple #[]) from h4);cases this
   |inr cs=>obtain⟨arr,e,_⟩:=(show Jj ι w cs (.tuple #[]) from h4);cases e
def GH:Nat:=3000000
def UB(s:LoopState)(p:Option Code):Value:=match s,p with
 |.ready,none=>.func (.func 0) #[] #[]
 |.done,some .ret=>.func (.func 2) #[] #[]
 |.done,some (.exit id)=>.func (.func (id+3)) #[] #[]
 |_,_=>badV
open Classical in
noncomputable def ZO(ex:Ext)(w:World):Value:=match w.heap[ex.l]? with
 |some (.loop r)=>if r={ ex.lr with state:=r.state,pending:=r.pending } then UB r.state r.pending else badV
 |_=>badV
theorem modeV_congr{ex:Ext}{w w':World}(h:w'.heap[ex.l]? =w.heap[ex.l]?):ZO ex w'=ZO ex w:=by unfold ZO;rw[h]
theorem Vb{ex:Ext}{w:World}(h:ZO ex w≠badV):∃r,w.heap[ex.l]? =some (.loop r)/\r={ ex.lr with state:=r.state,pending:=r.pending }/\ZO ex w=UB r.state r.pending:=by
 unfold ZO at h⊢;split at h
 ·rename_i r hr;split at h
  ·rename_i e;exact⟨r,hr,e,by rw[AB e]⟩
  ·exact absurd rfl h
 ·exact absurd rfl h
theorem modeV_of{ex:Ext}{w:World}{r:Go.Loop}(h:w.heap[ex.l]? =some (.loop r))(e:r={ ex.lr with state:=r.state,pending:=r.pending }):ZO ex w=UB r.state r.pending:=by unfold ZO;rw[h];simp only;rw[AB e]
noncomputable def lk(ι:Map)(w:World)(a:Act)(t:Nat):Value:=if BIG<=t then (if t=GH then ZO ι.ex w else ι.ex.o t) else a.tmps.getD t undef
def GlOk(ι:Map)(w:World):Prop:=∀g c x,Gl.dat g=some ⟨c,x⟩->TR ι.un w (.iptr (c.trees x)) (.pointer (some ⟨g,0,none⟩))
theorem GlOk.mono{ι I':Map}{w w':World}(h:GlOk ι w)(hU:∀b,ι.un b->Zd w b->I'.un b/\w'.heap[b]? =w.heap[b]?):GlOk I' w':=λg c x hg=>(h g c x hg).mono hU
theorem GlOk.step{ι I':Map}{O A':Q1}{w w':World}(hs:Step ι O w I' A' w')(h:GlOk ι w):GlOk I' w':=λg c x hg=>(h g c x hg).step hs
structure Qn(N:Nat)(ι:Map)(w:World)(r:Q0)(a:Act):Prop where
 size:a.tmps.size=N
 low:N<=BIG
 get:∀t x,r.get t=some x->VR ι w x (lk ι w a t)
 gl:GlOk ι w
theorem Q0.at_get{r:Q0}{t:Nat}{v:AV}(h:r.at t=some v):t<BIG/\r.get t=some v:=by
 unfold Q0.at at h;split at h
 ·cases h
 ·rename_i hb;refine⟨?_,h⟩;apply Ax;intro hn;rw[Nat.ble_eq_true_of_le (by omega)]at hb;cases hb
theorem Q0.at_of{r:Q0}{t:Nat}{v:AV}(h:r.get t=some v)(ht:t<BIG):r.at t=some v:=by
 unfold Q0.at
 split
 ·rename_i hb;have:=Au hb;omega
 ·exact h
theorem Qn.at{N:Nat}{ι:Map}{w:World}{r:Q0}{a:Act}(h:Qn N ι w r a){t:Nat}{x:AV}(ht:r.at t=some x):VR ι w x (a.tmps.getD t undef):=by obtain⟨h1,h2⟩:=Q0.at_get ht;have:=h.get t x h2;unfold lk at this;rwa [AE (by omega)]at this
theorem lk_mode{ι I':Map}{w w':World}{a:Act}{t:Nat}{x:AV}(hx:VR ι w x (lk ι w a t))(he:I'.ex=ι.ex)(hl:∀r,w.heap[ι.ex.l]? =some (.loop r)->w'.heap[ι.ex.l]? =w.heap[ι.ex.l]?):lk I' w' a t=lk ι w a t:=by
 unfold lk at hx⊢;rw[he];split
 ·rename_i hb;rw[AB hb]at hx;split
  ·rename_i e;rw[AB e]at hx;have hne:ZO ι.ex w≠badV:=λe=>VR_bad (e▸hx);obtain⟨r,hr,_⟩:=Vb hne;exact modeV_congr (hl r hr)
  ·rfl
 ·rfl
theorem Qn.step{N:Nat}{ι I':Map}{O A':Q1}{w w':World}{r:Q0}{a:Act}(hh:HR ι O w)(hs:Step ι O w I' A' w')(h:Qn N ι w r a):Qn N I' w' r a:=
 ⟨h.size,h.low,λt x hx=>by
  have h1:=h.get t x hx;rw[lk_mode h1 hs.ex λr hr=>hs.frame _ (WF.1 hr).1 (un_noRow hh (λ_ _ _ e=>by cases e) hr)];exact h1.step hs,h.gl.step hs⟩
theorem Q0.QO(r:Q0)(t:Nat)(v:AV):(r.set t v).get t=some v:=by
 induction r with
 |nil=>simp[Q0.set,Q0.get]
 |cons p r ih=>obtain⟨k,u⟩:=p;by_cases h:k=t<;>simp[Q0.set,Q0.get,h,ih]
theorem Q0.Qj(r:Q0){t t':Nat}(v:AV)(h:t≠t'):(r.set t v).get t'=r.get t':=by
 induction r with
 |nil=>simp[Q0.set,Q0.get,h]
 |cons p r ih=>
  obtain⟨k,u⟩:=p;by_cases h1:k=t
  ·subst h1;simp[Q0.set,Q0.get,h]
  ·by_cases h2:k=t'
   ·subst h2;simp[Q0.set,Q0.get,h1]
   ·simp[Q0.set,Q0.get,h1,h2,ih]
theorem Q0.YM(r:Q0)(t:Nat):(r.del t).get t=none:=by
 induction r with
 |nil=>rfl
 |cons p r ih=>obtain⟨k,u⟩:=p;by_cases h:k=t<;>simp[Q0.del,Q0.get,h,ih]
theorem Q0.Kr(r:Q0){t t':Nat}(h:t≠t'):(r.del t).get t'=r.get t':=by
 induction r with
 |nil=>rfl
 |cons p r ih=>
  obtain⟨k,u⟩:=p;by_cases h1:k=t
  ·subst h1;simp[Q0.del,Q0.get,h,ih]
  ·by_cases h2:k=t'
   ·subst h2;simp[Q0.del,Q0.get,h1]
   ·simp[Q0.del,Q0.get,h1,h2,ih]
theorem KR(arr:Array Value)(d:Nat)(v:Value)(h:d<arr.size):(arr.setIfInBounds d v).getD d undef=v:=by simp[h]
theorem getD_set_ne(arr:Array Value){d t:Nat}(v:Value)(h:d≠t):(arr.setIfInBounds d v).getD t undef=arr.getD t undef:=by simp[CF h]
theorem Qn.put{N:Nat}{ι:Map}{w:World}{r:Q0}{a:Act}(h:Qn N ι w r a){dst:Option Nat}(hd:∀d,dst=some d->d<N){x:AV}{v:Value}(hv:VR ι w x v):
  Qn N ι w (r.put dst x) (a.put dst v):=by
 cases dst with
 |none=>exact h
 |some d=>
  refine⟨by simp[Act.put,h.size],h.low,λt y hy=> ?_,h.gl⟩;by_cases e:d=t
  ·subst e;simp only[Q0.put,Q0.QO,A0]at hy;subst hy;have hlt:=hd d rfl;have hlow:=h.low;unfold lk;rw[AE (by omega)];simp only[Act.put];rw[KR _ _ _ (by rw[h.size];exact hlt)];exact hv
  ·simp only[Q0.put,Q0.Qj _ _ e]at hy;have:=h.get t y hy;unfold lk at this⊢;simp only[Act.put];rw[getD_set_ne _ _ e];exact this
theorem Qn.drop{N:Nat}{ι:Map}{w:World}{r:Q0}{a:Act}(h:Qn N ι w r a){dst:Option Nat}(hd:∀d,dst=some d->d<N):Qn N ι w (r.drop dst) (a.put dst undef):=by
 cases dst with
 |none=>exact h
 |some d=>
  refine⟨by simp[Act.put,h.size],h.low,λt y hy=> ?_,h.gl⟩;by_cases e:d=t
  ·subst e;simp only[Q0.drop,Q0.QO,A0]at hy;subst hy;have hlt:=hd d rfl;have hlow:=h.low;have:(a.put (some d) undef).tmps.getD d undef=undef:=(by simp only[Act.put,Ah,Array.getElem?_setIfInBounds,Ai];split<;>rfl);unfold lk;rw[AE (by omega),this];exact⟨#[],rfl,rfl,λi hi=>absurd hi (by simp)⟩
  ·simp only[Q0.drop,Q0.Qj _ _ e]at hy;have:=h.get t y hy;unfold lk at this⊢;simp only[Act.put];rw[getD_set_ne _ _ e];exact this
theorem tOf_ok{U:Nat->Prop}{w:World}{v:Value}{t:T}(h:tOf v=some t):TR U w t v:=by
 unfold tOf at h;split at h<;>first|(injection h with h;subst h)|cases h
 ·exact .bool _
 ·exact .int _ _
 ·exact .str _
 ·exact .nilp
 ·exact .imm0 _ _ _ rfl
 ·exact .nilf
theorem tOfCell_ok{U:Nat->Prop}{w:World}{v:Value}{t:T}(h:tOfCell v=some t):TR U w t v:=by
 unfold tOfCell at h;split at h
 ·rename_i t' ht';injection h with h;subst h;exact tOf_ok ht'
 ·split at h
  ·rename_i hv;injection h with h;subst h;exact .junk _ hv
  ·cases h
theorem tsOf_ok{U:Nat->Prop}{w:World}:∀{vs:List Value} {ts:List T},V8 vs=some ts->ts.length=vs.length/\∀i (h:i<ts.length),∃u,vs[i]? =some u/\TR U w ts[i] u
 |[],ts,h=>by simp only[V8,A0]at h;subst h;exact⟨rfl,λi hi=>absurd hi (by simp)⟩
 |v::vs,ts,h=>by
  simp only[V8]at h;split at h
  ·rename_i t ts' h1 h2;injection h with h;subst h;obtain⟨h3,h4⟩:=tsOf_ok (U:=U) (w:=w) h2;refine⟨by simp[h3],λi hi=> ?_⟩
   cases i with
   |zero=>exact⟨v,rfl,tOfCell_ok h1⟩
   |succ i=>exact h4 i (by simpa using hi)
  ·cases h
theorem aggR_ts{ι:Map}{w:World}{vs:Array Value}{ts:List T}(h:V8 vs.toList=some ts):Jj ι w (ts.map .t) (.agg vs):=by obtain⟨h1,h2⟩:=tsOf_ok (U:=ι.un) (w:=w) h;refine⟨vs,rfl,by simpa using h1.symm,λi hi=> ?_⟩;obtain⟨u,h3,h4⟩:=h2 i (by simpa using hi);exact⟨u,by simpa using h3,by simpa [CR] using h4⟩
theorem constAV_ok{ι:Map}{w:World}{v:Value}{x:AV}(h:Wq v=some x):VR ι w x v:=by
 unfold Wq at h;split at h
 ·simp only[A2]at h;obtain⟨ts,h1,rfl⟩:=h;exact aggR_ts h1
 ·simp only[A2]at h;obtain⟨t,h1,rfl⟩:=h;exact tOf_ok h1
theorem J8{N:Nat}{ι:Map}{w:World}{r:Q0}{a:Act}(hr:Qn N ι w r a){x:Operand}{v:AV}(h:ev r x=some v):VR ι w v (a.eval x):=by
 cases x with
 |tmp t=>exact hr.at h
 |const c=>exact constAV_ok h
 |func f=>simp only[ev,A0]at h;subst h;exact TR.fn f [] #[] rfl (λi hi=>absurd hi (by simp))
 |global g=>
  simp only[ev]at h;split at h
  ·rename_i c x hg;injection h with h;subst h;exact hr.gl g c x hg
  ·cases h
theorem evl_ok{N:Nat}{ι:Map}{w:World}{r:Q0}{a:Act}(hr:Qn N ι w r a):∀{xs:List Operand} {vs:List AV},evl r xs=some vs->
  vs.length=xs.length/\∀i (h:i<vs.length),∃x,xs[i]? =some x/\VR ι w vs[i] (a.eval x)
 |[],vs,h=>by simp only[evl,A0]at h;subst h;exact⟨rfl,λi hi=>absurd hi (by simp)⟩
 |x::xs,vs,h=>by
  simp only[evl]at h;split at h
  ·rename_i v vs' h1 h2;injection h with h;subst h;obtain⟨h3,h4⟩:=evl_ok hr h2;refine⟨by simp[h3],λi hi=> ?_⟩
   cases i with
   |zero=>exact⟨x,rfl,J8 hr h1⟩
   |succ i=>exact h4 i (by simpa using hi)
  ·cases h
theorem W7{P:Program}{t:TypeId}{i:Qp}(h:tinf P t=some i):∃d inf,P.underlying t=some d/\P.info? t=some inf/\i.kind=Jd d/\i.size=inf.size/\i.bytes=inf.bytes/\
  (i.zero=inf.zero.bind λv=>V8 v.cells.toList)/\i.eqs=eqTop P t d:=by
 unfold tinf at h;split at h
 ·rename_i d inf h1 h2;injection h with h;subst h;exact⟨d,inf,h1,h2,rfl,rfl,rfl,rfl,rfl⟩
 ·cases h
theorem Qg{P:Program}{t:TypeId}{i:Qp}(h:tinf P t=some i)(w:World):(sizeOf t).run P w=.ok i.size w:=by obtain⟨d,inf,h1,h2,h3,h4,h5,h6,_⟩:=W7 h;simp[sizeOf,typeInfo,h2,h4]
theorem K1{P:Program}{t:TypeId}{i:Qp}(h:tinf P t=some i)(w:World):∃inf,(typeInfo t).run P w=.ok inf w/\inf.bytes=i.bytes/\inf.size=i.size/\P.info? t=some inf:=by obtain⟨d,inf,h1,h2,h3,h4,h5,h6,_⟩:=W7 h;exact⟨inf,by simp[typeInfo,h2],h5.symm,h4.symm,h2⟩
theorem JP{P:Program}{t:TypeId}{i:Qp}(h:tinf P t=some i)(w:World):∃d,(underlying t).run P w=.ok d w/\i.kind=Jd d/\P.underlying t=some d:=by obtain⟨d,inf,h1,h2,h3,h4,h5,h6,_⟩:=W7 h;exact⟨d,AW h1 w,h3,h1⟩
theorem tinf_agg{P:Program}{t:TypeId}{i:Qp}(h:tinf P t=some i)(w:World):(isAgg t).run P w=.ok i.isAgg w:=by obtain⟨d,h1,h2,_⟩:=JP h w;simp only[isAgg,AO,h1,AR,Qp.isAgg,h2];cases d<;>simp[Jd]
theorem ZA{P:Program}{t:TypeId}{i:Qp}(h:tinf P t=some i){z:List T}(hz:i.zero=some z)(w:World):
  ∃v,(zeroValue t).run P w=.ok v w/\V8 v.cells.toList=some z:=by
 obtain⟨d,inf,h1,h2,h3,h4,h5,h6,_⟩:=W7 h;rw[hz]at h6
 cases h7:inf.zero with
 |none=>simp[h7]at h6
 |some v=>simp only[h7,Option.bind_some]at h6;exact⟨v,by simp[zeroValue,typeInfo,h2,h7],h6.symm⟩
theorem Zp(b o n:Nat):(⟨b,o,none⟩:Addr).add n=⟨b,o+n,none⟩:=by unfold Addr.add;split<;>simp_all
theorem Ug(p:Nat->Value->Prop):∀(n:Nat),(∀i,i<n->∃v,p i v)->∃vs:List Value,vs.length=n/\∀i v,vs[i]? =some v->p i v
 |0,_=>⟨[],rfl,λi v h=>by simp at h⟩
 |n+1,h=>by
  obtain⟨vs,h1,h2⟩:=Ug p n (λi hi=>h i (by omega));obtain⟨v,hv⟩:=h n (by omega);refine⟨vs++[v],by simp[h1],λi u hu=> ?_⟩;by_cases hi:i<vs.length
  ·rw[AK hi]at hu;exact h2 i u hu
  ·rw[AT (by omega)]at hu;have:i=n:=(by have h3:i - vs.length<[v].length:=(AF.1 hu).1;simp only[List.length_singleton]at h3;omega);subst this;have e0:i - vs.length=0:=(by omega);rw[e0]at hu;simp only[B8,A0]at hu;exact hu▸hv
def WA(ι:Map)(w:World)(b off:Nat)(cs:List Cell):Prop:=∀i (h:i<cs.length),∃v,w.cell? ⟨b,off+i,none⟩=some v/\CR ι w cs[i] v
theorem WA.drop{ι:Map}{w:World}{b off:Nat}{cs:List Cell}(h:WA ι w b off cs)(n:Nat):WA ι w b (off+n) (cs.drop n):=λi hi=>by
 have hi':n+i<cs.length:=by simp at hi;omega
 obtain⟨v,h1,h2⟩:=h (n+i) hi';exact⟨v,by rw[<-h1,CE],by simpa using h2⟩
theorem WA.take{ι:Map}{w:World}{b off:Nat}{cs:List Cell}(h:WA ι w b off cs)(n:Nat):WA ι w b off (cs.take n):=λi hi=>by
 have hi':i<cs.length:=by simp at hi;omega
 obtain⟨v,h1,h2⟩:=h i hi';exact⟨v,h1,by simpa using h2⟩
theorem WA.list{ι:Map}{w:World}{b off:Nat}{cs:List Cell}(h:WA ι w b off cs):
  ∃vs:List Value,vs.length=cs.length/\(∀j v,vs[j]? =some v->w.cell? ((⟨b,off,none⟩:Addr).add j)=some v)/\∀i (hi:i<cs.length),∃u,vs[i]? =some u/\CR ι w cs[i] u:=by
 obtain⟨vs,h1,h2⟩:=Ug (λi v=>∃hi:i<cs.length,w.cell? ⟨b,off+i,none⟩=some v/\CR ι w cs[i] v) cs.length (λi hi=>let ⟨v,h3,h4⟩:=h i hi;⟨v,hi,h3,h4⟩);refine⟨vs,h1,λj v hv=> ?_,λi hi=> ?_⟩
 ·obtain⟨hi,h3,h4⟩:=h2 j v hv;rw[Zp];exact h3
 ·have hlt:i<vs.length:=(by omega);obtain⟨hi',h3,h4⟩:=h2 i vs[i] (by simp[hlt]);exact⟨vs[i],by simp[hlt],h4⟩
theorem WA.loadCells{ι:Map}{w:World}{b off:Nat}{cs:List Cell}(h:WA ι w b off cs)(P:Program){n:Nat}(hn:n=cs.length):
  ∃vs:List Value,vs.length=cs.length/\(Go.loadCells ⟨b,off,none⟩ n).run P w=.ok vs.toArray w/\Jj ι w cs (.agg vs.toArray)/\∀i (hi:i<cs.length),∃u,vs[i]? =some u/\CR ι w cs[i] u:=by
 obtain⟨vs,h1,h2,h3⟩:=h.list;refine⟨vs,h1,?_,⟨vs.toArray,rfl,by simp[h1],λi hi=> ?_⟩,h3⟩
 ·have:=run_loadCells_list (P:=P) (w:=w) ⟨b,off,none⟩ vs h2;rw[hn,<-h1];exact this
 ·obtain⟨u,h4,h5⟩:=h3 i hi;exact⟨u,by simpa using h4,h5⟩
theorem loadC_ok{P:Program}{t:TypeId}{i:Qp}(ht:tinf P t=some i){ι:Map}{w:World}{b off:Nat}{cs:List Cell}(h:WA ι w b off cs){x:AV}(hx:Z2 i cs=some x):
  ∃v,(Instr.loadAt t (.pointer (some ⟨b,off,none⟩))).run P w=.ok v w/\VR ι w x v:=by
 unfold Z2 at hx;have ha:=tinf_agg ht w;have hz:=Qg ht w
 cases hagg:i.isAgg with
 |true=>
  simp only[hagg,Ai]at hx;split at hx
  ·rename_i hle;injection hx with hx;subst hx;obtain⟨vs,h1,h2,h3,_⟩:=(h.take i.size).loadCells P (n:=i.size) (by simp;omega);rw[hagg]at ha;exact⟨.agg vs.toArray,by simp[Instr.loadAt,Instr.sureAddr,loadVar,ha,hz,h2],h3⟩
  ·cases hx
 |false=>
  simp only[hagg]at hx;rw[hagg]at ha
  cases cs with
  |nil=>simp at hx
  |cons c cs=>simp only[AP,Af,A0]at hx;subst hx;obtain⟨v,h1,h2⟩:=h 0 (by simp);exact⟨v,by simp only[BZ]at h1;simp[Instr.loadAt,Instr.sureAddr,loadVar,ha,h1],h2⟩
theorem HR.ref{ι:Map}{O:Q1}{w:World}(h:HR ι O w){r:Ref}{o:Obj}(ho:O.at? r=some o){ok:Je->Prop}(hr:J6 ι r ok):
  ∃s,ι r.id=some s/\O[r.id]? =some o/\o.ep=r.ep/\OR ι w o s/\ok s:=by
 unfold Q1.at? at ho
 cases h1:O[r.id]? with
 |none=>simp[h1]at ho
 |some o'=>
  simp only[h1]at ho;split at ho
  ·rename_i hep;injection ho with ho;subst ho;obtain⟨s,h2,h3,h4⟩:=hr;obtain⟨o'',h5,h6⟩:=h.obj _ _ h2;rw[h1]at h5;injection h5 with h5;subst h5;exact⟨s,h2,rfl,hep,h6,h4 (by rw[<-hep];exact h6.2.1)⟩
  ·cases ho
theorem OR.row{ι:Map}{w:World}{o:Obj}{s:Je}{l:Loc}(h:OR ι w o s)(hl:s.loc=some l):WA ι w l.blk l.sh o.cs:=by obtain⟨_,_,h3⟩:=h;rw[hl]at h3;exact h3.2.2
theorem WZ{ι:Map}{w:World}{cs:List T}{v:Value}(h:TR ι.un w (.iptr cs) v):∃b off,v=.pointer (some ⟨b,off,none⟩)/\ι.un b/\Zd w b/\WA ι w b off (cs.map .t):=by
 cases h with
 |iptr cs b off f h1 h2 h3 h4=>refine⟨b,off,rfl,h1,h2,λi hi=>⟨f i,h3 i (by simpa using hi),?_⟩⟩;have:=h4 i (by simpa using hi);simpa [CR] using this
theorem loadE_ok{P:Program}{t:TypeId}{i:Qp}(ht:tinf P t=some i){ι:Map}{O:Q1}{w:World}(h:HR ι O w){a x:AV}{v:Value}(ha:VR ι w a v)(hx:ZQ O i a=some x):
  ∃u,(Instr.loadAt t v).run P w=.ok u w/\VR ι w x u:=by
 unfold ZQ at hx;split at hx
 ·rename_i r;split at hx
  ·rename_i o ho;obtain⟨ad,rfl,hr⟩:=ha;obtain⟨s,_,_,_,hor,l,hl,e⟩:=h.ref ho hr;injection e with e;subst e;have:=(hor.row hl).drop r.off;exact loadC_ok ht this hx
  ·cases hx
 ·rename_i cs;obtain⟨b,off,rfl,_,_,hrow⟩:=WZ ha;exact loadC_ok ht hrow hx
 ·cases hx
end Go.Abs
namespace Go.Abs
variable [Gl]
theorem HR.lt{ι:Map}{O:Q1}{w:World}(h:HR ι O w){id:Nat}{s:Je}(hs:ι id=some s):id<O.length:=by obtain⟨o,ho,_⟩:=h.obj _ _ hs;exact(AF.1 ho).1
theorem HR.Yw{ι:Map}{O:Q1}{w:World}(h:HR ι O w){b:Nat}(hb:ι.mapped b):b<w.heap.size:=by
 rcases hb with ⟨id,s,l,h1,h2,rfl⟩|hr
 ·obtain⟨o,_,_,_,h5⟩:=h.obj _ _ h1;rw[h2]at h5;obtain⟨⟨cells,elem,h6,_⟩,_⟩:=h5;exact(WF.1 h6).1
 ·exact(h.resRow _ hr).lt
theorem Step.same{ι:Map}{O:Q1}{w w':World}(hh:w'.heap=w.heap)(ho:w'.os=w.os)(hp:w'.output=w.output):Step ι O w ι O w' where
 len:=A9 _
 size:=by rw[hh];exact A9 _
 os:=ho
 out:=hp
 keep:=λ_ s h=>⟨s,h,A9 _,λ_=>rfl⟩
 none:=λ_ _ h=>h
 new:=λid s' l' h h'=>.inr ⟨id,s',l',h,h',rfl⟩
 res:=rfl
 ex:=rfl
 resKeep:=λb _=>by rw[hh]
 frame:=λb _ _=>by rw[hh]
theorem HR.same{ι:Map}{O:Q1}{w w':World}(h:HR ι O w)(hh:w'.heap=w.heap)(ho:w'.os=w.os)(hp:w'.output=w.output):HR ι O w' where
 obj:=λid s hs=>by obtain⟨o,h1,h2⟩:=h.obj id s hs;exact⟨o,h1,h2.congr (Step.same (ι:=ι) (O:=O) hh ho hp) (λl _=>by rw[hh])⟩
 inj:=h.inj
 resRow:=λb hb=>by obtain⟨c,e,fr,h1⟩:=h.resRow b hb;exact⟨c,e,fr,by rw[hh];exact h1⟩
 resNo:=h.resNo
def Map.push(ι:Map)(n:Nat)(s:Je):Map:=⟨λid=>if id=n then some s else ι id,ι.res,ι.ex⟩
theorem Map.QQ(ι:Map)(n:Nat)(s:Je):ι.push n s n=some s:=by simp[Map.push]
theorem Map.Qd(ι:Map){n id:Nat}(s:Je)(h:id≠n):ι.push n s id=ι id:=by simp[Map.push,h]
section push
variable {ι:Map}{O:Q1}{w w':World}{arr:Array Value}{e:TypeId}{o:Obj}
theorem Step.push(h:HR ι O w)(hh:w'.heap=w.heap.push (.cells arr e))(ho:w'.os=w.os)(hp:w'.output=w.output)(s:Je)(hs:∀l,s.loc=some l->l.blk=w.heap.size):
  Step ι O w (ι.push O.length s) (O++[o]) w' where
 len:=by simp
 size:=by rw[hh];simp
 os:=ho
 out:=hp
 keep:=λid s' hs'=>⟨s',by rw[Map.Qd _ _ (Bm (h.lt hs'))];exact hs',A9 _,λ_=>rfl⟩
 none:=λid hid hn=>by rw[Map.Qd _ _ (Bm hid)];exact hn
 new:=λid s' l' h1 h2=>by
  by_cases e:id=O.length
  ·subst e;rw[Map.QQ]at h1;injection h1 with h1;subst h1;exact .inl (by rw[hs _ h2];exact A9 _)
  ·rw[Map.Qd _ _ e]at h1;exact .inr ⟨id,s',l',h1,h2,rfl⟩
 res:=rfl
 ex:=rfl
 resKeep:=λb hb=>by rw[hh];simp[Bz,Bm (h.resRow b hb).lt]
 frame:=λb hb _=>by rw[hh];simp[Bz,Bm hb]
theorem HR.push(h:HR ι O w)(hh:w'.heap=w.heap.push (.cells arr e))(ho:w'.os=w.os)(hp:w'.output=w.output)(hep:o.ep=0)(hlen:o.cs.length<=arr.size)
  (hc:∀i (hi:i<o.cs.length),∃v,arr[i]? =some v/\CR ι w o.cs[i] v):
  Step ι O w (ι.push O.length ⟨some ⟨w.heap.size,0,arr.size⟩,o.es,0⟩) (O++[o]) w'/\HR (ι.push O.length ⟨some ⟨w.heap.size,0,arr.size⟩,o.es,0⟩) (O++[o]) w':=by
 have hs:Step ι O w (ι.push O.length ⟨some ⟨w.heap.size,0,arr.size⟩,o.es,0⟩) (O++[o]) w':=Step.push h hh ho hp _ (λl hl=>by injection hl with hl;rw[<-hl]);have hnew:w'.heap[w.heap.size]? =some (.cells arr e):=by rw[hh];simp
 refine⟨hs,⟨λid s h1=> ?_,λid id' s s' l l' h1 h2 h3 h4 h5=> ?_,λb hb=> ?_,λid s l h1 h2 hr=> ?_⟩⟩
 ·by_cases e1:id=O.length
  ·subst e1;rw[Map.QQ]at h1;injection h1 with h1;subst h1;refine⟨o,by simp,rfl,hep,⟨⟨arr,e,hnew,by simp⟩,hlen,λi hi=> ?_⟩⟩;obtain⟨v,h2,h3⟩:=hc i hi;exact⟨v,by simp[World.cell?,hnew,h2],h3.step hs⟩
  ·rw[Map.Qd _ _ e1]at h1;obtain⟨o',h2,h3⟩:=h.obj id s h1;refine⟨o',by rw[AK (h.lt h1)];exact h2,h3.congr hs (λl hl=> ?_)⟩;have hb:l.blk<w.heap.size:=h.Yw (.inl ⟨id,s,l,h1,hl,rfl⟩);rw[hh];simp[Bz,Bm hb]
 ·by_cases e1:id=O.length
  ·by_cases e2:id'=O.length
   ·omega
   ·subst e1;rw[Map.QQ]at h1;rw[Map.Qd _ _ e2]at h2;injection h1 with h1;subst h1;injection h3 with h3;have:=h.Yw (.inl ⟨id',s',l',h2,h4,rfl⟩);rw[<-h5,<-h3]at this;exact absurd this (Nat.lt_irrefl _)
  ·by_cases e2:id'=O.length
   ·subst e2;rw[Map.QQ]at h2;rw[Map.Qd _ _ e1]at h1;injection h2 with h2;subst h2;injection h4 with h4;have:=h.Yw (.inl ⟨id,s,l,h1,h3,rfl⟩);rw[h5,<-h4]at this;exact absurd this (Nat.lt_irrefl _)
   ·rw[Map.Qd _ _ e1]at h1;rw[Map.Qd _ _ e2]at h2;exact h.inj id id' s s' l l' h1 h2 h3 h4 h5
 ·obtain⟨c,e,fr,h1⟩:=h.resRow b hb;exact⟨c,e,fr,by rw[hs.resKeep b hb];exact h1⟩
 ·by_cases e1:id=O.length
  ·subst e1;rw[Map.QQ]at h1;injection h1 with h1;subst h1;injection h2 with h2;have:=(h.resRow _ hr).lt;rw[<-h2]at this;exact absurd this (Nat.lt_irrefl _)
  ·rw[Map.Qd _ _ e1]at h1;exact h.resNo id s l h1 h2 hr
end push
section upd
variable {ι:Map}{O:Q1}{w w':World}{id:Nat}{s s':Je}{o':Obj}
theorem Step.upd(h:HR ι O w)(hid:ι id=some s)(hep:s.ep<=s'.ep)(hes:s.ep=s'.ep->s'=s)(hsz:w.heap.size<=w'.heap.size)(ho:w'.os=w.os)(hp:w'.output=w.output)
  (hloc:∀l',s'.loc=some l'->w.heap.size<=l'.blk\/ι.byId l'.blk)
  (hfr:∀b,b<w.heap.size->(∀l,s.loc=some l->l.blk≠b)->w'.heap[b]? =w.heap[b]?):
  Step ι O w (ι.push id s') (O.set id o') w' where
 len:=by simp
 size:=hsz
 os:=ho
 out:=hp
 keep:=λid' s'' hs''=>by
  by_cases e:id'=id
  ·subst e;rw[hid]at hs'';injection hs'' with hs'';subst hs'';exact⟨s',Map.QQ _ _ _,hep,hes⟩
  ·exact⟨s'',by rw[Map.Qd _ _ e];exact hs'',A9 _,λ_=>rfl⟩
 none:=λid' _ hn=>by have e:id'≠id:=(by intro e;subst e;rw[hid]at hn;cases hn);rw[Map.Qd _ _ e];exact hn
 new:=λid' s'' l' h1 h2=>by
  by_cases e:id'=id
  ·subst e;rw[Map.QQ]at h1;injection h1 with h1;subst h1;exact hloc l' h2
  ·rw[Map.Qd _ _ e]at h1;exact .inr ⟨id',s'',l',h1,h2,rfl⟩
 res:=rfl
 ex:=rfl
 resKeep:=λb hb=>hfr b (h.resRow b hb).lt (λl hl e=>h.resNo id s l hid hl (e▸hb))
 frame:=λb hb hu=>hfr b hb (λl hl e=>hu (.inl ⟨id,s,l,hid,hl,e⟩))
theorem HR.upd(h:HR ι O w)(hid:ι id=some s)(hst:Step ι O w (ι.push id s') (O.set id o') w')
  (hfr:∀b,b<w.heap.size->(∀l,s.loc=some l->l.blk≠b)->w'.heap[b]? =w.heap[b]?)
  (hloc:∀l',s'.loc=some l'->w.heap.size<=l'.blk\/∃l,s.loc=some l/\l.blk=l'.blk)
  (hor:OR (ι.push id s') w' o' s'):HR (ι.push id s') (O.set id o') w' where
 obj:=λid' s'' h1=>by
  by_cases e:id'=id
  ·subst e;rw[Map.QQ]at h1;injection h1 with h1;subst h1;exact⟨o',by simp[h.lt hid],hor⟩
  ·rw[Map.Qd _ _ e]at h1;obtain⟨o,h2,h3⟩:=h.obj id' s'' h1;refine⟨o,by rw[BX (λx=>e x.symm)];exact h2,h3.congr hst (λl hl=> ?_)⟩;exact hfr _ (h.Yw (.inl ⟨id',s'',l,h1,hl,rfl⟩)) (λl0 hl0 e0=>e (h.inj id' id s'' s l l0 h1 hid hl hl0 e0.symm))
 inj:=λi1 i2 s1 s2 l1 l2 h1 h2 h3 h4 h5=>by
  by_cases e1:i1=id
  ·by_cases e2:i2=id
   ·omega
   ·subst e1;rw[Map.QQ]at h1;rw[Map.Qd _ _ e2]at h2;injection h1 with h1;subst h1;rcases hloc l1 h3 with h6|⟨l,h6,h7⟩
    ·have:=h.Yw (.inl ⟨i2,s2,l2,h2,h4,rfl⟩);omega
    ·exact h.inj i1 i2 s s2 l l2 hid h2 h6 h4 (h7.trans h5)
  ·by_cases e2:i2=id
   ·subst e2;rw[Map.QQ]at h2;rw[Map.Qd _ _ e1]at h1;injection h2 with h2;subst h2;rcases hloc l2 h4 with h6|⟨l,h6,h7⟩
    ·have:=h.Yw (.inl ⟨i1,s1,l1,h1,h3,rfl⟩);omega
    ·exact h.inj i1 i2 s1 s l1 l h1 hid h3 h6 (h5.trans h7.symm)
   ·rw[Map.Qd _ _ e1]at h1;rw[Map.Qd _ _ e2]at h2;exact h.inj i1 i2 s1 s2 l1 l2 h1 h2 h3 h4 h5
 resRow:=λb hb=>by obtain⟨c,e,fr,h1⟩:=h.resRow b hb;exact⟨c,e,fr,by rw[hst.resKeep b hb];exact h1⟩
 resNo:=λid' s'' l h1 h2 hr=>by
  by_cases e:id'=id
  ·subst e;rw[Map.QQ]at h1;injection h1 with h1;subst h1;rcases hloc l h2 with h3|⟨l0,h3,h4⟩
   ·have:=(h.resRow _ hr).lt;omega
   ·exact h.resNo id' s l0 hid h3 (h4▸hr)
  ·rw[Map.Qd _ _ e]at h1;exact h.resNo id' s'' l h1 h2 hr
end upd
theorem Map.push_self{ι:Map}{id:Nat}{s:Je}(h:ι id=some s):ι.push id s=ι:=by
 obtain⟨f,q⟩:=ι;unfold Map.push;congr 1;funext i;split
 ·rename_i e;subst e;exact h.symm
 ·rfl
theorem X2(cs:List Cell)(off:Nat)(xs:List Cell)(h:off+xs.length<=cs.length):(QX cs off xs).length=cs.length:=by simp[QX];omega
theorem splice_getElem?(cs:List Cell)(off:Nat)(xs:List Cell)(h:off+xs.length<=cs.length)(i:Nat):
  (QX cs off xs)[i]? =if i<off then cs[i]? else if i<off+xs.length then xs[i - off]? else cs[i]? :=by
 unfold QX;by_cases h1:i<off
 ·rw[AB h1,Aw,AK (by simp;omega),List.getElem?_take_of_lt h1]
 ·rw[AE h1,Aw,AT (by simp;omega)];have e:(List.take off cs).length=off:=(by simp;omega);rw[e];by_cases h2:i<off+xs.length
  ·rw[AB h2,AK (by omega)]
  ·rw[AE h2,AT (by omega),CL];congr 1;omega
theorem HR.write{ι:Map}{O:Q1}{w:World}(h:HR ι O w){id:Nat}{s:Je}{o:Obj}{l:Loc}(hid:ι id=some s)(hl:s.loc=some l)(ho:O[id]? =some o)
  (P:Program) (off:Nat) (xs:List Cell) (vs:List Value) (hn:vs.length=xs.length) (hx:∀i (hi:i<xs.length),∃u,vs[i]? =some u/\CR ι w xs[i] u)
  (hfit:off+xs.length<=o.cs.length):
  ∃w',(storeCells ⟨l.blk,l.sh+off,none⟩ vs).run P w=.ok () w'/\Step ι O w ι (O.set id { o with cs:=QX o.cs off xs }) w'/\HR ι (O.set id { o with cs:=QX o.cs off xs }) w':=by
 obtain⟨o',ho',hor⟩:=h.obj _ _ hid;rw[ho]at ho';injection ho' with ho';subst ho';have hor0:=hor;obtain⟨h1,h2,h3⟩:=hor;rw[hl]at h3;obtain⟨⟨cells,elem,h4,h5⟩,h6,h7⟩:=h3;have hone:∀v∈vs,v.oneCell'=true:=λv hv=>by obtain⟨i,hi⟩:=List.getElem?_of_mem hv;have hlt:i<xs.length:=(by rw[<-hn];exact(AF.1 hi).1);obtain⟨u,h8,h9⟩:=hx i hlt;rw[hi]at h8;injection h8 with h8;subst h8;exact CR.Xr h9
 have hrun:=run_storeCells_at P l.blk (l.sh+off) elem vs 0 cells w h4 (by omega) hone;simp only[BZ]at hrun;refine⟨_,hrun,?_⟩;generalize hw':w.setRow l.blk (cells.toList.take (l.sh+off)++vs++cells.toList.drop (l.sh+off+vs.length)).toArray=w';have hnew:w'.heap[l.blk]? =some (.cells (cells.toList.take (l.sh+off)++vs++cells.toList.drop (l.sh+off+vs.length)).toArray elem (0,0)):=by rw[<-hw'];exact setRow_heap w l.blk cells _ elem _ h4
 have hfr:∀b,b<w.heap.size->(∀l',s.loc=some l'->l'.blk≠b)->w'.heap[b]? =w.heap[b]? :=λb _ hb=>by rw[<-hw'];simp only[World.setRow];rw[Array.getElem?_modify];simp[hb l hl]
 have hst0:Step ι O w (ι.push id s) (O.set id { o with cs:=QX o.cs off xs }) w':=by
  refine Step.upd h hid (A9 _) (λ_=>rfl) ?_ ?_ ?_ (λl' hl'=>.inr ⟨id,s,l',hid,hl',rfl⟩) hfr
  ·rw[<-hw'];simp[World.setRow]
  ·rw[<-hw'];rfl
  ·rw[<-hw'];rfl
 have hsz:(cells.toList.take (l.sh+off)++vs++cells.toList.drop (l.sh+off+vs.length)).toArray.size=cells.size:=by simp;omega
 have hor':OR (ι.push id s) w' { o with cs:=QX o.cs off xs } s:=by
  refine⟨h1,h2,?_⟩;rw[hl];refine⟨⟨_,elem,hnew,by rw[hsz];exact h5⟩,by simp only[X2 _ _ _ hfit];exact h6,λi hi=> ?_⟩;have hi':i<o.cs.length:=(by simpa [X2 _ _ _ hfit] using hi);have hsp:=splice_getElem? o.cs off xs hfit i;have hget:(QX o.cs off xs)[i]? =some ((QX o.cs off xs)[i]'hi):=A3 hi;have hcell:∀v,(cells.toList.take (l.sh+off)++vs++cells.toList.drop (l.sh+off+vs.length))[l.sh+i]? =some v->w'.cell? ⟨l.blk,l.sh+i,none⟩=some v:=λv hv=>(by simp only[World.cell?,hnew];simpa using hv);have hold:w.cell? ⟨l.blk,l.sh+i,none⟩=cells[l.sh+i]? :=(by simp[World.cell?,h4]);by_cases c1:i<off
  ·rw[AB c1]at hsp;obtain⟨v,h8,h9⟩:=h7 i hi';refine⟨v,hcell v ?_,?_⟩
   ·rw[Aw,AK (by simp;omega),List.getElem?_take_of_lt (by omega)];rw[hold]at h8;simpa using h8
   ·have e:(QX o.cs off xs)[i]'hi=o.cs[i]:=(by rw[hget,A3 hi']at hsp;injection hsp);simp only[e];exact h9.step hst0
  ·rw[AE c1]at hsp;by_cases c2:i<off+xs.length
   ·rw[AB c2]at hsp;have hi2:i - off<xs.length:=(by omega);obtain⟨u,h8,h9⟩:=hx (i - off) hi2;refine⟨u,hcell u ?_,?_⟩
    ·rw[Aw,AT (by simp;omega)];have e0:l.sh+i - (List.take (l.sh+off) cells.toList).length=i - off:=(by simp;omega);rw[e0,AK (by omega)];exact h8
    ·have e:(QX o.cs off xs)[i]'hi=xs[i - off]:=(by rw[hget,A3 hi2]at hsp;injection hsp);simp only[e];exact h9.step hst0
   ·rw[AE c2]at hsp;obtain⟨v,h8,h9⟩:=h7 i hi';refine⟨v,hcell v ?_,?_⟩
    ·rw[Aw,AT (by simp;omega)];have e0:l.sh+i - (List.take (l.sh+off) cells.toList).length=i - off:=(by simp;omega);rw[e0,AT (by omega),CL];have e1:l.sh+off+vs.length+(i - off - vs.length)=l.sh+i:=(by omega);rw[e1];rw[hold]at h8;simpa using h8
    ·have e:(QX o.cs off xs)[i]'hi=o.cs[i]:=(by rw[hget,A3 hi']at hsp;injection hsp);simp only[e];exact h9.step hst0
 have hH:=HR.upd h hid hst0 hfr (λl' hl'=>.inr ⟨l',hl',rfl⟩) hor';rw[Map.push_self hid]at hst0 hH;exact⟨hst0,hH⟩
end Go.Abs
namespace Go.Abs
variable [Gl]
section
variable {P:Program}{ι:Map}{w:World}
theorem Z0{k:IntKind}{n:Int}{v:Value}(h:VR ι w (.c (.t (.int k n))) v):v=.int k n:=by cases h;rfl
theorem ZH{s:List UInt8}{v:Value}(h:VR ι w (.c (.t (.str s))) v):v=.string ⟨s.toArray⟩:=by cases h;rfl
theorem Zh{b:Bool}{v:Value}(h:VR ι w (.c (.t (.bool b))) v):v=.bool b:=by cases h;rfl
theorem Us{v:Value}(h:VR ι w (.c (.t .nilp)) v):v=.pointer none:=by cases h;rfl
theorem intE_ok{op:BinOp}{k:IntKind}{a b:Int}{t:T}(h:intE op k a b=some t)(hs:WY op=false)(xT:TypeId):
  ∃v,(binOp op xT (.int k a) (.int k b)).run P w=.ok v w/\TR ι.un w t v:=by
 cases op<;>simp only[intE,WY]at h hs
 case add=>injection h with h;subst h;exact⟨_,by simp[binOp,Op.intArith],.int _ _⟩
 case sub=>injection h with h;subst h;exact⟨_,by simp[binOp,Op.intArith],.int _ _⟩
 case mul=>injection h with h;subst h;exact⟨_,by simp[binOp,Op.intArith],.int _ _⟩
 case quo=>
  split at h
  ·cases h
  ·rename_i h0;injection h with h;subst h;exact⟨_,by simp[binOp,Op.intDiv,h0],.int _ _⟩
 case rem=>
  split at h
  ·cases h
  ·rename_i h0;injection h with h;subst h;exact⟨_,by simp[binOp,Op.intDiv,h0],.int _ _⟩
 case and=>injection h with h;subst h;exact⟨_,by simp only[binOp];rw[AE (by simp)];rfl,.int _ _⟩
 case or=>injection h with h;subst h;exact⟨_,by simp only[binOp];rw[AE (by simp)];rfl,.int _ _⟩
 case xor=>injection h with h;subst h;exact⟨_,by simp only[binOp];rw[AE (by simp)];rfl,.int _ _⟩
 case andNot=>injection h with h;subst h;exact⟨_,by simp only[binOp];rw[AE (by simp)];rfl,.int _ _⟩
 case eql=>injection h with h;subst h;exact⟨_,by simp[binOp,Op.intCmp],.bool _⟩
 case neq=>injection h with h;subst h;exact⟨_,by simp[binOp,Op.intCmp],.bool _⟩
 case lss=>injection h with h;subst h;exact⟨_,by simp[binOp,Op.intCmp],.bool _⟩
 case leq=>injection h with h;subst h;exact⟨_,by simp[binOp,Op.intCmp],.bool _⟩
 case gtr=>injection h with h;subst h;exact⟨_,by simp[binOp,Op.intCmp],.bool _⟩
 case geq=>injection h with h;subst h;exact⟨_,by simp[binOp,Op.intCmp],.bool _⟩
 case shl=>cases hs
 case shr=>cases hs
theorem shiftE_ok{op:BinOp}{k k':IntKind}{a b:Int}{t:T}(h:VE op k a b=some t)(xT:TypeId):
  ∃v,(binOp op xT (.int k a) (.int k' b)).run P w=.ok v w/\TR ι.un w t v:=by
 unfold VE at h;split at h
 ·cases h
 ·rename_i hb;cases op<;>simp only at h<;>first
   |(cases h;done)
   |(injection h with h;subst h;exact⟨_,by simp[binOp,Op.shift,hb],.int _ _⟩)
theorem bytes_beq(x y:List UInt8):((⟨x.toArray⟩:ByteArray).toList==(⟨y.toArray⟩:ByteArray).toList)=(x==y):=by
 have e:∀z:List UInt8,(⟨z.toArray⟩:ByteArray).toList=z:=λz=>by simp[ByteArray.toList_eq]
 rw[e,e]
theorem strE_ok{op:BinOp}{a b:List UInt8}{t:T}(h:strE op a b=some t)(xT:TypeId):
  ∃v,(binOp op xT (.string ⟨a.toArray⟩) (.string ⟨b.toArray⟩)).run P w=.ok v w/\TR ι.un w t v:=by
 have sz:∀z:List UInt8,(⟨z.toArray⟩:ByteArray).size=z.length:=λz=>by simp[ByteArray.size]
 cases op<;>simp only[strE]at h
 case add=>
  split at h
  ·rename_i hl;injection h with h;subst h;refine⟨_,?_,.str _⟩;have:=run_string_add_sum (P:=P) w ⟨a.toArray⟩ ⟨b.toArray⟩ (by rw[sz,sz];exact hl);simp only[binOp];rw[this];congr 2
  ·cases h
 case eql=>injection h with h;subst h;exact⟨_,by simp[binOp,Op.stringOp,bytes_beq],.bool _⟩
 case neq=>injection h with h;subst h;exact⟨_,by simp[binOp,Op.stringOp,bytes_beq],.bool _⟩
 all_goals cases h
theorem Yv{op:BinOp}{a b:Bool}{t:T}(h:Wu op a b=some t){x y:Value}{xT:TypeId}(he:(Op.equal xT x y).run P w=.ok (a==b) w)
  (h1:binOp .eql xT x y=(do pure (.bool (<-Op.equal xT x y)))) (h2:binOp .neq xT x y=(do pure (.bool (!(<-Op.equal xT x y))))):
  ∃v,(binOp op xT x y).run P w=.ok v w/\TR ι.un w t v:=by
 cases op<;>simp only[Wu]at h<;>first
  |(cases h;done)
  |(injection h with h;subst h;exact⟨_,by rw[h1];simp[he],.bool _⟩)
  |(injection h with h;subst h;exact⟨_,by rw[h2];simp[he],.bool _⟩)
theorem equal_bool{xT:TypeId}{i:Qp}(ht:tinf P xT=some i)(hk:i.kind=.bool)(a b:Bool):(Op.equal xT (.bool a) (.bool b)).run P w=.ok (a==b) w:=by
 obtain⟨d,h1,h2,_⟩:=JP ht w;rw[hk]at h2;cases d<;>simp[Jd]at h2;have e:∀d,(Op.equalIn (d+1) xT (.bool a) (.bool b)).run P w=.ok (a==b) w:=λd=>by simp[Op.equalIn,h1]
 exact e 9999
theorem kind_ptr{xT:TypeId}{i:Qp}(ht:tinf P xT=some i){e:TypeId}(hk:i.kind=.ptr e):P.underlying xT=some (.pointer e):=by obtain⟨d,h1,h2,h3⟩:=JP ht (default:World);rw[hk]at h2;cases d<;>simp[Jd]at h2;subst h2;exact h3
theorem UL{xT e:TypeId}{i:Qp}(ht:tinf P xT=some i)(hk:i.kind=.ptr e)(p:Option Addr):(Op.equal xT (.pointer p) (.pointer none)).run P w=.ok p.isNone w:=by
 have h:=kind_ptr ht hk;have e':∀d,(Op.equalIn (d+1) xT (.pointer p) (.pointer none)).run P w=.ok p.isNone w:=λd=>by cases p<;>simp[Op.equalIn,AW h]
 exact e' 9999
theorem VW{t:TypeId}{j:Qp}(hj:tinf P t=some j){cs:List Cell}{off:Nat}{y:AV}(h:KN j cs off=some y){arr:Array Value}(hn:arr.size=cs.length)
  (hc:∀i (hi:i<cs.length),∃u,arr[i]? =some u/\CR ι w cs[i] u):∃z,(part t arr off).run P w=.ok z w/\VR ι w y z:=by
 unfold KN at h;have ha:=tinf_agg hj w;have hz:=Qg hj w
 cases hagg:j.isAgg with
 |true=>
  rw[hagg]at ha h;simp only[Ai]at h;split at h
  ·rename_i hle;injection h with h;subst h;refine⟨_,by simp[part,ha,hz];rfl,_,rfl,by simp;omega,λi hi=> ?_⟩;have hi':i<j.size:=(by simp at hi;omega);obtain⟨u,h1,h2⟩:=hc (off+i) (by omega);refine⟨u,?_,by simpa using h2⟩;rw[<-h1];simp[Array.getElem?_extract,hi'];intro hge;omega
  ·cases h
 |false=>
  rw[hagg]at ha h;simp only[AP,Af]at h;split at h
  ·rename_i c hco;injection h with h;subst h;have hlt:off<cs.length:=(AF.1 hco).1;obtain⟨u,h1,h2⟩:=hc off hlt;refine⟨u,by simp[part,ha,h1],?_⟩;have e:cs[off]=c:=(by rw[A3 hlt]at hco;injection hco);rw[e]at h2;exact h2
  ·cases h
theorem Y3:∀{ks:List EK} {xs ys:List Cell} {c:Bool},Xc ks xs ys=some c->xs.length=ks.length/\ys.length=ks.length
 |[],[],[],_,_=>⟨rfl,rfl⟩
 |[],[],_::_,_,h=>by cases h
 |[],_::_,_,_,h=>by cases h
 |_::_,[],_,_,h=>by cases h
 |_::_,_::_,[],_,h=>by cases h
 |k::ks,x::xs,y::ys,c,h=>by
  simp only[Xc]at h;split at h
  ·rename_i a b h1 h2;obtain⟨h3,h4⟩:=Y3 h2;exact⟨by simp[h3],by simp[h4]⟩
  ·cases h
theorem eqAll_app:∀{k1 k2:List EK} {xs ys:List Cell} {c:Bool},Xc (k1++k2) xs ys=some c->∃a b,Xc k1 (xs.take k1.length) (ys.take k1.length)=some a/\Xc k2 (xs.drop k1.length) (ys.drop k1.length)=some b/\c=(a&&b)
 |[],k2,xs,ys,c,h=>⟨true,c,by simp[Xc],by simpa using h,by simp⟩
 |k::k1,k2,[],ys,c,h=>by cases h
 |k::k1,k2,x::xs,[],c,h=>by cases h
 |k::k1,k2,x::xs,y::ys,c,h=>by
  simp only[List.cons_append,Xc]at h;split at h
  ·rename_i a b h1 h2;injection h with h;obtain⟨a',b',h3,h4,h5⟩:=eqAll_app h2;refine⟨a&&a',b',?_,by simpa using h4,by rw[<-h,h5,Bool.and_assoc]⟩;simp only[Ar,List.take_succ_cons,Xc,h1,h3]
  ·cases h
def eqAV(ks:List EK):AV->AV->Option Bool
 |.c a,.c b=>Xc ks [a] [b]
 |.agg as,.agg bs=>Xc ks as bs
 |_,_=>none
def okAV(P:Program)(t:TypeId):AV->Prop
 |.c _=>∃i,tinf P t=some i/\i.isAgg=false
 |.agg xs=>∃i,tinf P t=some i/\i.isAgg=true/\xs.length=i.size
 |.tup _=>False
def ekU(P:Program)(t:TypeId):EK->Prop
 |.bool=>P.underlying t=some .bool
 |.int=>∃k',P.underlying t=some (.int k')
 |.str=>P.underlying t=some .string
theorem cellEq_run{ι:Map}{w:World}{P:Program}{t:TypeId}{k:EK}{a b:Cell}{c:Bool}(h:Yr k a b=some c){u v:Value}(hx:CR ι w a u)(hy:CR ι w b v)(D:Nat)(hu:ekU P t k):
  (Op.equalIn (D+1) t u v).run P w=.ok c w:=by
 have none_of:∀{k a b},Yr k a b=none->Yr k a b=some c->False:=λe e'=>by rw[e]at e';cases e'
 cases k with
 |bool=>
  cases a with
  |t a=>
   cases a with
   |bool a=>
    cases b with
    |t b=>
     cases b with
     |bool b=>have h:some (a==b)=some c:=h;injection h with h;obtain rfl:=Zh hx;obtain rfl:=Zh hy;have hu:P.underlying t=some .bool:=hu;rw[<-h];simp[Op.equalIn,AW hu]
     |_=>exact(none_of rfl h).elim
    |_=>exact(none_of rfl h).elim
   |_=>exact(none_of rfl h).elim
  |_=>exact(none_of rfl h).elim
 |int=>
  cases a with
  |t a=>
   cases a with
   |int k a=>
    cases b with
    |t b=>
     cases b with
     |int k' b=>
      by_cases hk:k=k'
      ·subst hk;have h2:some (a==b)=some c:=(by simpa [Yr] using h);injection h2 with h2;obtain rfl:=Z0 hx;obtain rfl:=Z0 hy;obtain⟨k',hu⟩:=(show∃k',P.underlying t=some (.int k') from hu);rw[<-h2];simp[Op.equalIn,AW hu]
      ·exact(none_of (by simp[Yr,hk]) h).elim
     |_=>exact(none_of rfl h).elim
    |_=>exact(none_of rfl h).elim
   |_=>exact(none_of rfl h).elim
  |_=>exact(none_of rfl h).elim
 |str=>
  cases a with
  |t a=>
   cases a with
   |str a=>
    cases b with
    |t b=>
     cases b with
     |str b=>have h:some (a==b)=some c:=h;injection h with h;obtain rfl:=ZH hx;obtain rfl:=ZH hy;have hu:P.underlying t=some .string:=hu;rw[<-h,run_equalIn_string w D t _ _ hu,bytes_beq]
     |_=>exact(none_of rfl h).elim
    |_=>exact(none_of rfl h).elim
   |_=>exact(none_of rfl h).elim
  |_=>exact(none_of rfl h).elim
theorem eqKs_one{P:Program}{d:Nat}{t:TypeId}{k:EK}(h:eqKs P (d+1) t=some [k]){x:AV}(hx:okAV P t x)(hs:∀fs,P.underlying t≠some (.struct fs)):∃c,x=.c c:=by
 cases x with
 |c c=>exact⟨c,rfl⟩
 |tup _=>exact hx.elim
 |agg xs=>obtain⟨i,h1,h2,_⟩:=hx;obtain⟨d',h3,h4,h5⟩:=JP h1 (default:World);simp only[Qp.isAgg,h4]at h2;simp only[eqKs,h5]at h;cases d'<;>simp[Jd]at h2 h;exact absurd h5 (hs _)
theorem Kv{ι:Map}{w:World}{P:Program}:∀(d:Nat) (t:TypeId) (ks:List EK),eqKs P d t=some ks->∀D,d<=D->∀(x y:AV) (c:Bool) (u v:Value),eqAV ks x y=some c->okAV P t x->okAV P t y->VR ι w x u->VR ι w y v->(Op.equalIn D t u v).run P w=.ok c w
 |0,t,ks,h,_,_,_,_,_,_,_,_,_,_,_,_=>by cases h
 |d+1,t,ks,h,D,hD,x,y,c,u,v,he,hx,hy,hu,hv=>by
  obtain⟨D,rfl⟩:∃D',D=D'+1:=⟨D - 1,by omega⟩;have scal:∀k,ks=[k]->(∀fs,P.underlying t≠some (.struct fs))->ekU P t k->(Op.equalIn (D+1) t u v).run P w=.ok c w:=λk hk hs hun=>by
   subst hk;obtain⟨a,rfl⟩:=eqKs_one h hx hs;obtain⟨b,rfl⟩:=eqKs_one h hy hs;simp only[eqAV,Xc]at he;split at he
   ·rename_i x1 y1 h1 h2;injection h2 with h2;subst h2;injection he with he;rw[Bool.and_true]at he;subst he;exact cellEq_run h1 hu hv D hun
   ·cases he
  simp only[eqKs]at h;split at h
  ·rename_i hun _;injection h with h;exact scal _ h.symm (λfs e=>by rw[hun]at e;cases e) hun
  ·rename_i k _ hun _;injection h with h;exact scal _ h.symm (λfs e=>by rw[hun]at e;cases e) ⟨k,hun⟩
  ·rename_i hun _;injection h with h;exact scal _ h.symm (λfs e=>by rw[hun]at e;cases e) hun
  ·rename_i fs i hun hi;split at h
   ·cases h
   ·rename_i hst;split at h
    ·rename_i ks' hfs;split at h
     ·rename_i hlen;injection h with h;subst h;have hst:P.stoodInHeld t=false:=by simpa using hst
      -- both are many cells
      have agg:∀z,okAV P t z->∃zs,z=.agg zs:=λz hz=>by
       cases z with
       |agg zs=>exact⟨zs,rfl⟩
       |tup _=>exact hz.elim
       |c z=>obtain⟨j,h1,h2⟩:=hz;obtain⟨d',h3,h4,h5⟩:=JP h1 (default:World);rw[hun]at h5;injection h5 with h5;subst h5;simp[Qp.isAgg,h4,Jd]at h2
      obtain⟨xs,rfl⟩:=agg x hx;obtain⟨ys,rfl⟩:=agg y hy;obtain⟨X,rfl,hX1,hX2⟩:=hu;obtain⟨Y,rfl,hY1,hY2⟩:=hv;have hff:P.fieldsOf t=fs:=(by simp[Program.fieldsOf,hun]);rw[run_equalIn_struct w D t X Y (by rw[hff];exact hun) hst,hff];have he:Xc ks' xs ys=some c:=he;obtain⟨l1,l2⟩:=Y3 he;have key:∀(fl:List Field) (acc:List EK) (rest:List EK),eqFs (eqKs P d) fl acc=some (acc++rest)->∀c,Xc rest (xs.drop acc.length) (ys.drop acc.length)=some c->acc.length+rest.length=ks'.length->(Op.eqFields D X Y fl).run P w=.ok c w:=by
       intro fl
       induction fl with
       |nil=>intro acc rest h1 c h2 h3;simp only[eqFs,A0]at h1;have:rest=[]:=(by have:=congrArg List.length h1;simp at this;exact this);subst this;have:xs.drop acc.length=[]:=C9.2 (by simp at h3;omega);rw[this]at h2;have:ys.drop acc.length=[]:=C9.2 (by simp at h3;omega);rw[this]at h2;simp only[Xc,A0]at h2;subst h2;rfl
       |cons f fl ih=>
        intro acc rest h1 c h2 h3;simp only[eqFs]at h1;split at h1
        ·rename_i hf;split at h1
         ·rename_i l hl;obtain⟨rest',hr⟩:∃rest',rest=l++rest':=(by have:=eqFs_pre fl h1;obtain⟨r,hr⟩:=this;rw[Aw]at hr;exact⟨r,List.append_cancel_left hr⟩);subst hr;rw[<-Aw]at h1;obtain⟨a,b,h4,h5,rfl⟩:=eqAll_app h2;rw[CW]at h5;rw[CW]at h5;obtain⟨j,hj,hjs⟩:=eqKs_tinf hl;have hoff:f.offset=acc.length:=hf.2;have hx4:=(Y3 h4).1;have hy4:=(Y3 h4).2;have hin:acc.length+l.length<=ks'.length:=(by simp only[Ab]at h3;omega);have fld:∀(zs:List Cell) (Z:Array Value),zs.length=ks'.length->Z.size=zs.length->(∀i (hi:i<zs.length),∃u,Z[i]? =some u/\CR ι w zs[i] u)->∃z u,okAV P f.type z/\(part f.type Z f.offset).run P w=.ok u w/\VR ι w z u/\(match z with|.c q=>(zs.drop acc.length).take l.length=[q]|.agg q=>(zs.drop acc.length).take l.length=q|.tup _=>False):=λzs Z hz hZ hc=>by
           have hpart:∃z,KN j zs f.offset=some z/\okAV P f.type z/\(match z with|.c q=>(zs.drop acc.length).take l.length=[q]|.agg q=>(zs.drop acc.length).take l.length=q|.tup _=>False):=by
            unfold KN;rw[hoff]
            cases hag:j.isAgg with
            |true=>rw[hag]at hjs;simp only[Ai]at hjs⊢;rw[AB (by omega),hjs];exact⟨_,rfl,⟨j,hj,hag,by rw[Bb,CG,hjs];omega⟩,rfl⟩
            |false=>rw[hag]at hjs;simp only[AP,Af]at hjs⊢;have hlt:acc.length<zs.length:=(by omega);rw[A3 hlt];refine⟨_,rfl,⟨j,hj,hag⟩,?_⟩;simp only;rw[hjs,List.drop_eq_getElem_cons hlt];rfl
           obtain⟨z,h6,h7,h8⟩:=hpart;obtain⟨u,h9,h10⟩:=VW hj h6 hZ hc;exact⟨z,u,h7,h9,h10,h8⟩
          obtain⟨z1,u1,p1,p2,p3,p4⟩:=fld xs X l1 hX1 hX2;obtain⟨z2,u2,q1,q2,q3,q4⟩:=fld ys Y l2 hY1 hY2;have heq:eqAV l z1 z2=some a:=by
           cases z1 with
           |c z1=>cases z2 with
            |c z2=>rw[p4,q4]at h4;exact h4
            |agg z2=>obtain⟨j1,e1,e2⟩:=p1;obtain⟨j2,e3,e4,_⟩:=q1;rw[e1]at e3;injection e3 with e3;subst e3;rw[e2]at e4;cases e4
            |tup _=>exact q1.elim
           |agg z1=>cases z2 with
            |agg z2=>rw[p4,q4]at h4;exact h4
            |c z2=>obtain⟨j1,e1,e2⟩:=q1;obtain⟨j2,e3,e4,_⟩:=p1;rw[e1]at e3;injection e3 with e3;subst e3;rw[e2]at e4;cases e4
            |tup _=>exact q1.elim
           |tup _=>exact p1.elim
          have hrec:=Kv d f.type l hl D (by omega) z1 z2 a u1 u2 heq p1 q1 p3 q3;simp only[Op.eqFields,AB hf.1,AO,p2,q2,hrec,AR];have ih':=ih (acc++l) rest' h1 b (by rw[Ab];exact h5) (by simp only[Ab]at h3⊢;omega)
          cases a with
          |true=>simp only[Bl,AP,Af,BF];exact ih'
          |false=>simp
         ·cases h1
        ·cases h1
      exact key fs.toList [] ks' (by simpa using hfs) c (by simpa using he) (by simp)
     ·cases h
    ·cases h
  ·cases h
where
 eqFs_pre {rec:TypeId->Option (List EK)}:∀(fl:List Field) {acc out:List EK},eqFs rec fl acc=some out->∃r,out=acc++r
  |[],acc,out,h=>by simp only[eqFs,A0]at h;exact⟨[],by simp[h]⟩
  |f::fl,acc,out,h=>by
   simp only[eqFs]at h;split at h
   ·split at h
    ·rename_i l _;obtain⟨r,hr⟩:=eqFs_pre fl h;exact⟨l++r,by rw[hr,Aw]⟩
    ·cases h
   ·cases h
 eqKs_tinf {d:Nat} {t:TypeId} {ks:List EK} (h:eqKs P d t=some ks):∃j,tinf P t=some j/\(if j.isAgg then j.size=ks.length else ks.length=1):=by
  cases d with
  |zero=>cases h
  |succ d=>
   simp only[eqKs]at h;split at h
   ·rename_i hu hi;injection h with h;exact⟨_,by unfold tinf;rw[hu,hi],by simp[Qp.isAgg,Jd,<-h]⟩
   ·rename_i hu hi;injection h with h;exact⟨_,by unfold tinf;rw[hu,hi],by simp[Qp.isAgg,Jd,<-h]⟩
   ·rename_i hu hi;injection h with h;exact⟨_,by unfold tinf;rw[hu,hi],by simp[Qp.isAgg,Jd,<-h]⟩
   ·rename_i hu hi;split at h
    ·cases h
    ·split at h
     ·split at h
      ·rename_i hl;injection h with h;exact⟨_,by unfold tinf;rw[hu,hi],by simp[Qp.isAgg,Jd,<-h,hl]⟩
      ·cases h
     ·cases h
   ·cases h
theorem binE_ok{op:BinOp}{xT:TypeId}{x y:AV}{t:T}(h:binE P op xT x y=some t){u v:Value}(hx:VR ι w x u)(hy:VR ι w y v)(xo yo:Operand):
  ∃z,(do eqGuard op xT xo yo u v;binOp op xT u v).run P w=.ok z w/\TR ι.un w t z:=by
 unfold binE at h;split at h
 ·rename_i k a k' b;obtain rfl:=Z0 hx;obtain rfl:=Z0 hy;have hg:(eqGuard op xT xo yo (.int k a) (.int k' b)).run P w=.ok () w:=(by unfold eqGuard;cases op<;>simp);simp only[AO,hg,AR]
  cases hs:WY op with
  |true=>rw[hs]at h;exact shiftE_ok h xT
  |false=>
   rw[hs]at h;simp only[AP,Af]at h;split at h
   ·rename_i hk;subst hk;exact intE_ok h hs xT
   ·cases h
 ·rename_i a b;obtain rfl:=ZH hx;obtain rfl:=ZH hy;have hg:(eqGuard op xT xo yo (.string ⟨a.toArray⟩) (.string ⟨b.toArray⟩)).run P w=.ok () w:=(by unfold eqGuard;cases op<;>simp);simp only[AO,hg,AR];exact strE_ok h xT
 ·rename_i a b;obtain rfl:=Zh hx;obtain rfl:=Zh hy;have hg:(eqGuard op xT xo yo (.bool a) (.bool b)).run P w=.ok () w:=(by unfold eqGuard;cases op<;>simp);simp only[AO,hg,AR];split at h
  ·rename_i i hi;split at h
   ·rename_i hk;exact Yv h (equal_bool hi hk a b) rfl rfl
   ·cases h
  ·cases h
 ·obtain rfl:=Us hy;obtain⟨p,rfl,s,_,_,hok⟩:=hx;have hg:∀p',(eqGuard op xT xo yo (.pointer p') (.pointer none)).run P w=.ok () w:=λp'=>(by unfold eqGuard;cases op<;>simp);simp only[AO,hg,AR];rename_i r;split at h
  ·rename_i i hi;split at h
   ·rename_i e hk;exact Yv h (UL hi hk _) rfl rfl
   ·cases h
  ·cases h
 ·rename_i cs;obtain rfl:=Us hy;obtain⟨b,off,rfl,_⟩:=WZ hx;have hg:∀p',(eqGuard op xT xo yo (.pointer p') (.pointer none)).run P w=.ok () w:=λp'=>(by unfold eqGuard;cases op<;>simp);simp only[AO,hg,AR];split at h
  ·rename_i i hi;split at h
   ·rename_i e hk;exact Yv h (UL hi hk _) rfl rfl
   ·cases h
  ·cases h
 ·obtain rfl:=Us hx;obtain rfl:=Us hy;have hg:∀p',(eqGuard op xT xo yo (.pointer p') (.pointer none)).run P w=.ok () w:=λp'=>(by unfold eqGuard;cases op<;>simp);simp only[AO,hg,AR];split at h
  ·rename_i i hi;split at h
   ·rename_i e hk;exact Yv h (UL hi hk _) rfl rfl
   ·cases h
  ·cases h
 ·rename_i xs ys;split at h
  ·rename_i i hi;split at h
   ·rename_i ks hks;split at h
    ·rename_i c hc;obtain⟨d,inf,h1,h2,h3,h4,h5,h6,h7⟩:=W7 hi;rw[hks]at h7
     cases d with
     |struct fs=>
      simp only[eqTop]at h7;split at h7
      ·cases h7
      ·rename_i hgt;have hgt:P.eqGuardType P.depth xT=false:=(by simpa using hgt);obtain⟨X,rfl,hX⟩:=hx;obtain⟨Y,rfl,hY⟩:=hy;have hg:(eqGuard op xT xo yo (.agg X) (.agg Y)).run P w=.ok () w:=(by unfold eqGuard;cases op<;>simp[hgt]);simp only[AO,hg,AR];have hag:i.isAgg=true:=(by simp[Qp.isAgg,h3,Jd]);obtain⟨l1,l2⟩:=Y3 hc;obtain⟨j,e1,e2⟩:=Kv.eqKs_tinf (P:=P) h7.symm;rw[hi]at e1;injection e1 with e1;subst e1;rw[AB hag]at e2;have he:(Op.equal xT (.agg X) (.agg Y)).run P w=.ok (c==true) w:=(by have:=Kv (ι:=ι) (w:=w) 6 xT ks h7.symm 10000 (by decide) (.agg xs) (.agg ys) c (.agg X) (.agg Y) hc ⟨i,hi,hag,by omega⟩ ⟨i,hi,hag,by omega⟩ ⟨X,rfl,hX⟩ ⟨Y,rfl,hY⟩;rw[show(c==true)=c by cases c<;>rfl];exact this);exact Yv h he rfl rfl
     |_=>simp[eqTop]at h7
    ·cases h
   ·cases h
  ·cases h
 ·cases h
end
end Go.Abs
namespace Go.Abs
variable [Gl]
section
variable {P:Program}{ι:Map}{O:Q1}{w:World}
theorem unE_ok{op:UnOp}{x:AV}{t:T}(h:unE op x=some t){u:Value}(hx:VR ι w x u):∃z,(Op.unary op u).run P w=.ok z w/\TR ι.un w t z:=by
 unfold unE at h;split at h
 ·rename_i b;obtain rfl:=Zh hx;injection h with h;subst h;exact⟨_,by simp[Op.unary],.bool _⟩
 ·rename_i k n;obtain rfl:=Z0 hx;injection h with h;subst h;exact⟨_,by simp[Op.unary,Op.intArith],.int _ _⟩
 ·rename_i k n;obtain rfl:=Z0 hx;simp only[intE]at h;injection h with h;subst h;exact⟨_,by simp only[Op.unary];rfl,.int _ _⟩
 ·cases h
theorem kind_int{xT:TypeId}{i:Qp}(ht:tinf P xT=some i){k:IntKind}(hk:i.kind=.int k):P.underlying xT=some (.int k):=by obtain⟨d,h1,h2,h3⟩:=JP ht (default:World);rw[hk]at h2;cases d<;>simp[Jd]at h2;subst h2;exact h3
theorem XN{xT:TypeId}{i:Qp}(ht:tinf P xT=some i)(hk:i.kind=.string):P.underlying xT=some .string:=by obtain⟨d,h1,h2,h3⟩:=JP ht (default:World);rw[hk]at h2;cases d<;>simp[Jd]at h2;exact h3
theorem Qv{xT:TypeId}{i:Qp}(ht:tinf P xT=some i){e:TypeId}(hk:i.kind=.slice e):P.underlying xT=some (.slice e):=by obtain⟨d,h1,h2,h3⟩:=JP ht (default:World);rw[hk]at h2;cases d<;>simp[Jd]at h2;subst h2;exact h3
theorem YG{xT:TypeId}{i:Qp}(ht:tinf P xT=some i){n:Nat}{e:TypeId}(hk:i.kind=.array n e):P.underlying xT=some (.array n e):=by obtain⟨d,h1,h2,h3⟩:=JP ht (default:World);rw[hk]at h2;cases d<;>simp[Jd]at h2;obtain⟨rfl,rfl⟩:=h2;exact h3
theorem Yj{xT:TypeId}{i:Qp}(ht:tinf P xT=some i){fs:List (Nat×TypeId)}(hk:i.kind=.struct fs):
  ∃gs:Array Field,P.underlying xT=some (.struct gs)/\fs=gs.toList.map λf=>(f.offset,f.type):=by
 obtain⟨d,h1,h2,h3⟩:=JP ht (default:World);rw[hk]at h2;cases d<;>simp[Jd]at h2;exact⟨_,h3,h2⟩
theorem convE_ok{src dst:TypeId}{x:AV}{t:T}(h:Vw P src dst x=some t){u:Value}(hx:VR ι w x u):∃z,(convert src dst u).run P w=.ok z w/\TR ι.un w t z:=by
 unfold Vw at h;split at h
 ·rename_i i j k n hi hj;obtain rfl:=Z0 hx;split at h
  ·rename_i k' hk;injection h with h;subst h;obtain⟨d,h1,_,h3⟩:=JP hi w;refine⟨_,?_,.int _ _⟩;simp[convert,AW (kind_int hj hk),h1,Conv.intToInt]
  ·rename_i hk;injection h with h;subst h;obtain⟨d,h1,_,h3⟩:=JP hi w;refine⟨_,?_,.str _⟩;simp[convert,AW (XN hj hk),h1,Conv.intToString,utf]
  ·cases h
 ·rename_i i j s hi hj;obtain rfl:=ZH hx;split at h
  ·rename_i hk;injection h with h;subst h;obtain⟨d,h1,_,h3⟩:=JP hi w;refine⟨_,?_,.str _⟩;simp only[convert,AO,AW (XN hj hk),h1,AR];rfl
  ·cases h
 ·cases h
theorem Yl{x:AV}{n:Int}(h:Ze x=some n){u:Value}(hx:VR ι w x u):∃k,u=.int k n:=by
 unfold Ze at h;split at h
 ·injection h with h;subst h;exact⟨_,Z0 hx⟩
 ·cases h
theorem ptr_move{r:Ref}{v:Value}(h:VR ι w (.c (.ptr r)) v):∃a:Addr,v=.pointer (some a)/\∀n,VR ι w (.c (.ptr { r with off:=r.off+n })) (.pointer (some (a.add n))):=by obtain⟨a,rfl,s,h1,h2,h3⟩:=h;refine⟨a,rfl,λn=>⟨_,rfl,s,h1,h2,λhe=> ?_⟩⟩;obtain⟨l,hl,e⟩:=h3 he;injection e with e;refine⟨l,hl,?_⟩;rw[e,Zp,CE]
theorem UD{cs:List T}{v:Value}(h:VR ι w (.c (.t (.iptr cs))) v):∃a:Addr,v=.pointer (some a)/\∀n,VR ι w (.c (.t (.iptr (cs.drop n)))) (.pointer (some (a.add n))):=by
 cases h with
 |iptr cs b off f h1 h2 h3 h4=>
  refine⟨_,rfl,λn=> ?_⟩;rw[Zp];refine TR.iptr _ _ _ (λi=>f (n+i)) h1 h2 (λi hi=> ?_) (λi hi=> ?_)
  ·rw[CE];exact h3 (n+i) (by simp at hi;omega)
  ·have:=h4 (n+i) (by simp at hi;omega);simpa using this
theorem fieldAddrE_ok{t:TypeId}{x y:AV}{f:Nat}(h:ZU P t x f=some y){u:Value}(hx:VR ι w x u):
  ∃z,(Instr.fieldAt t u f).run P w=.ok z w/\VR ι w y z:=by
 unfold ZU at h;split at h
 ·rename_i i hi;split at h
  ·rename_i fs hk;obtain⟨gs,hu,rfl⟩:=Yj hi hk;split at h
   ·rename_i off ft hf;simp only[AX,A2,A4]at hf;obtain⟨g,hg,rfl,rfl⟩:=hf;have hg':gs[f]? =some g:=(by simpa using hg);split at h
    ·rename_i j hj;split at h
     ·rename_i hpos;have hz:=Qg hj w;have hne:¬j.size=0:=(by omega);split at h
      ·rename_i r;injection h with h;subst h;obtain⟨a,rfl,hm⟩:=ptr_move hx;exact⟨_,by simp[Instr.fieldAt,AW hu,hg',Instr.sureAddr,fieldPlace,hz,hne],hm _⟩
      ·rename_i cs;injection h with h;subst h;obtain⟨a,rfl,hm⟩:=UD hx;exact⟨_,by simp[Instr.fieldAt,AW hu,hg',Instr.sureAddr,fieldPlace,hz,hne],hm _⟩
      ·cases h
     ·cases h
    ·cases h
   ·cases h
  ·cases h
 ·cases h
theorem fieldE_ok{t:TypeId}{x y:AV}{f:Nat}(h:Vp P t x f=some y){u:Value}(hx:VR ι w x u):
  ∃z,(Instr.field t u f).run P w=.ok z w/\VR ι w y z:=by
 unfold Vp at h;split at h
 ·rename_i i hi;split at h
  ·rename_i fs cs hk;obtain⟨gs,hu,rfl⟩:=Yj hi hk;obtain⟨arr,rfl,hn,hc⟩:=hx;split at h
   ·rename_i off ft hf;simp only[AX,A2,A4]at hf;obtain⟨g,hg,rfl,rfl⟩:=hf;have hg':gs[f]? =some g:=(by simpa using hg);split at h
    ·rename_i j hj;obtain⟨z,h1,h2⟩:=VW hj h hn hc;exact⟨z,by simp[Instr.field,AW hu,hg',asAgg,h1],h2⟩
    ·cases h
   ·cases h
  ·cases h
 ·cases h
theorem YL{cs:List T}{len:Nat}{cap:Option Nat}{v:Value}(h:VR ι w (.c (.t (.imm cs len cap))) v):∃a c,v=.slice a len c/\Ys cap c/\len<=c:=by
 cases h with
 |imm0 cap a c hc=>exact⟨a,c,rfl,hc,B4 _⟩
 |imm cs len cap b off c f _ _ hc hle _ _=>exact⟨_,c,rfl,hc,hle⟩
theorem indexAddrE_ok(hh:HR ι O w){t:TypeId}{x i y:AV}(h:ZS P t x i=some y){u v:Value}(hx:VR ι w x u)(hi:VR ι w i v):
  ∃z,(Instr.indexAt t u v).run P w=.ok z w/\VR ι w y z:=by
 unfold ZS at h;split at h
 ·rename_i inf n hinf hn;obtain⟨k,rfl⟩:=Yl hn hi;split at h
  ·rename_i e hk;have hu:=Qv hinf hk;split at h
   ·rename_i j hj;have hz:=Qg hj w;split at h
    ·rename_i r len cap;split at h
     ·rename_i hb;injection h with h;subst h;obtain⟨a,c,rfl,h0,s,h1,h2,h3⟩:=hx
      cases a with
      |none=>
       rcases h0 with h0|h0
       ·omega
       ·simp at h0
      |some a=>
       refine⟨.pointer (some (a.add (n.toNat*j.size))),by simp[Instr.indexAt,asIntOf,AW hu,hb,hz],_,rfl,s,h1,h2,λhe=> ?_⟩;obtain⟨h4,h5,h6⟩:=h3 he
       cases hl:s.loc with
       |none=>rw[hl]at h6;omega
       |some l=>rw[hl]at h6;obtain⟨h7,_⟩:=h6;injection h7 with h7;exact⟨l,hl,by rw[h7,Zp,CE]⟩
     ·cases h
    ·rename_i cs len cap;split at h
     ·rename_i hb;injection h with h;subst h
      cases hx with
      |imm0 cap a c hc=>omega
      |imm cs len cap b off c f h1 h2 hc hle h3 h4=>refine⟨.pointer (some ((⟨b,off,none⟩:Addr).add (n.toNat*j.size))),by simp[Instr.indexAt,asIntOf,AW hu,hb,hz],?_⟩;obtain⟨a,ha,hm⟩:=UD (ι:=ι) (w:=w) (cs:=cs) (TR.iptr cs b off f h1 h2 h3 h4);injection ha with ha;injection ha with ha;subst ha;exact hm _
     ·cases h
    ·cases h
   ·cases h
  ·rename_i len e hk;have hu:=YG hinf hk;split at h
   ·rename_i j hj;have hz:=Qg hj w;split at h
    ·rename_i r;split at h
     ·rename_i hb;injection h with h;subst h;obtain⟨a,rfl,hm⟩:=ptr_move hx;exact⟨_,by simp[Instr.indexAt,asIntOf,AW hu,Instr.sureAddr,hb,hz],hm _⟩
     ·cases h
    ·rename_i cs;split at h
     ·rename_i hb;injection h with h;subst h;obtain⟨a,rfl,hm⟩:=UD hx;exact⟨_,by simp[Instr.indexAt,asIntOf,AW hu,Instr.sureAddr,hb,hz],hm _⟩
     ·cases h
    ·cases h
   ·cases h
  ·cases h
 ·cases h
end
end Go.Abs
namespace Go.Abs
variable [Gl]
section
variable {P:Program}{ι:Map}{O:Q1}{w:World}
theorem byteArray_get?(l:List UInt8)(n:Nat):(⟨l.toArray⟩:ByteArray)[n]? =l[n]? :=by
 by_cases h:n<l.length
 ·have h2:n<(⟨l.toArray⟩:ByteArray).size:=(by simpa [ByteArray.size] using h);rw[getElem?_pos (⟨l.toArray⟩:ByteArray) n h2,A3 h];rfl
 ·have h2:¬n<(⟨l.toArray⟩:ByteArray).size:=(by simpa [ByteArray.size] using h);rw[getElem?_neg (⟨l.toArray⟩:ByteArray) n h2,Ad (by omega)]
theorem indexE_ok{t:TypeId}{x i y:AV}(h:YK P t x i=some y){u v:Value}(hx:VR ι w x u)(hi:VR ι w i v):
  ∃z,(Instr.index t u v).run P w=.ok z w/\VR ι w y z:=by
 unfold YK at h;split at h
 ·rename_i inf n hinf hn;obtain⟨k,rfl⟩:=Yl hn hi;split at h
  ·rename_i len e cs hk;have hu:=YG hinf hk;obtain⟨arr,rfl,hs,hc⟩:=hx;split at h
   ·rename_i j hj;have hz:=Qg hj w;split at h
    ·rename_i hb;obtain⟨z,h1,h2⟩:=VW hj h hs hc;exact⟨z,by simp[Instr.index,asIntOf,AW hu,hb,hz,h1],h2⟩
    ·cases h
   ·cases h
  ·rename_i s hk;have hu:=XN hinf hk;obtain rfl:=ZH hx;split at h
   ·rename_i h0;split at h
    ·rename_i b hb;injection h with h;subst h;refine⟨.int .u8 b.toNat,?_,.int _ _⟩;simp[Instr.index,asIntOf,AW hu,h0,byteArray_get?,hb]
    ·cases h
   ·cases h
  ·cases h
 ·cases h
theorem extractE_ok{x y:AV}{i:Nat}(h:Y2 x i=some y){u:Value}(hx:VR ι w x u):∃z,(Instr.extract u i).run P w=.ok z w/\VR ι w y z:=by
 unfold Y2 at h;split at h
 ·rename_i xs;obtain⟨arr,rfl,hn,hc⟩:=hx;split at h
  ·rename_i c hco;injection h with h;subst h;have hlt:i<xs.length:=(AF.1 hco).1;obtain⟨u,h1,h2⟩:=hc i hlt;have e:xs[i]=.inl c:=(by rw[A3 hlt]at hco;injection hco);rw[e]at h2;exact⟨u,by simp[Instr.extract,h1],h2⟩
  ·rename_i c hco;injection h with h;subst h;have hlt:i<xs.length:=(AF.1 hco).1;obtain⟨u,h1,h2⟩:=hc i hlt;have e:xs[i]=.inr c:=(by rw[A3 hlt]at hco;injection hco);rw[e]at h2;exact⟨u,by simp[Instr.extract,h1],h2⟩
  ·cases h
 ·cases h
def optR(ι:Map)(w:World):Option AV->Option Value->Prop
 |none,none=>True
 |some v,some u=>VR ι w v u
 |_,_=>False
theorem evo_ok{N:Nat}{r:Q0}{a:Act}(hr:Qn N ι w r a){x:Option Operand}{v:Option AV}(h:evo r x=some v):optR ι w v (x.map a.eval):=by
 cases x with
 |none=>simp only[evo,A0]at h;subst h;trivial
 |some x=>simp only[evo,A2]at h;obtain⟨u,h1,rfl⟩:=h;exact J8 hr h1
theorem bound_ok{x:Option AV}{XJ top n:Nat}(h:JR x XJ top=some n){xo:Option Value}(hx:optR ι w x xo):
  (x=none/\xo=none/\n=XJ)\/(∃k,xo=some (.int k (n:Int))/\n<=top/\x.isSome=true):=by
 unfold JR at h;split at h
 ·injection h with h;subst h
  cases xo with
  |none=>exact .inl ⟨rfl,rfl,rfl⟩
  |some u=>exact hx.elim
 ·rename_i v
  cases xo with
  |none=>exact hx.elim
  |some u=>
   split at h
   ·rename_i m hm;obtain⟨k,rfl⟩:=Yl hm hx;split at h
    ·rename_i hb;injection h with h;subst h;refine .inr ⟨k,?_,by omega,rfl⟩;congr 2;omega
    ·cases h
   ·cases h
theorem Ju(k:IntKind)(n y:Nat)(code:BoundsCode)(h:n<=y):(Instr.sliceBound (.int k (n:Int)) y code).run P w=.ok n w:=by
 have:(0:Int)<=n/\(n:Int)<=y:=by omega
 simp[Instr.sliceBound,asIntOf,this]
theorem ZL{isSlice:Bool}{len cap l h m:Nat}{lo hi mx:Option Value}
  (hm:(mx=none/\m=cap)\/∃k,mx=some (.int k (m:Int))/\m<=cap) (hh:(hi=none/\mx=none/\h=len)\/∃k,hi=some (.int k (h:Int))/\h<=m)
  (hl:(lo=none/\l=0)\/∃k,lo=some (.int k (l:Int))/\l<=h):(Instr.sliceBounds isSlice len cap lo hi mx).run P w=.ok (l,h,m) w:=by
 rcases hm with ⟨rfl,rfl⟩|⟨k,rfl,hm⟩
 ·rcases hh with ⟨rfl,_,rfl⟩|⟨k2,rfl,hh⟩
  ·rcases hl with ⟨rfl,rfl⟩|⟨k3,rfl,hl⟩
   ·simp[Instr.sliceBounds]
   ·simp[Instr.sliceBounds,Ju _ _ _ _ hl]
  ·rcases hl with ⟨rfl,rfl⟩|⟨k3,rfl,hl⟩
   ·simp[Instr.sliceBounds,Ju _ _ _ _ hh]
   ·simp[Instr.sliceBounds,Ju _ _ _ _ hh,Ju _ _ _ _ hl]
 ·rcases hh with ⟨rfl,h2,rfl⟩|⟨k2,rfl,hh⟩
  ·cases h2
  ·rcases hl with ⟨rfl,rfl⟩|⟨k3,rfl,hl⟩
   ·simp[Instr.sliceBounds,Ju _ _ _ _ hm,Ju _ _ _ _ hh]
   ·simp[Instr.sliceBounds,Ju _ _ _ _ hm,Ju _ _ _ _ hh,Ju _ _ _ _ hl]
theorem KV(s:List UInt8)(l h:Nat):(⟨s.toArray⟩:ByteArray).extract l h=⟨((s.drop l).take (h - l)).toArray⟩:=by apply ByteArray.ext;simp[ByteArray.data_extract]
theorem XT{t e:TypeId}(hu:P.underlying t=some (.slice e)){j:Qp}(hj:tinf P e=some j)(a:Option Addr){len c l h m:Nat}{lo hi mx:Option Value}
  (hb:(Instr.sliceBounds true len c lo hi mx).run P w=.ok (l,h,m) w):
  (Instr.sliceAt t (.slice a len c) lo hi mx).run P w=.ok (.slice (if m=l then a else a.map (·.add (l*j.size))) (h - l) (m - l)) w:=by
 have hz:=Qg hj w;simp[Instr.sliceAt,Instr.slice,AW hu,hb,hz]
theorem imm_slice{cs:List T}{len:Nat}{cap:Option Nat}{v:Value}(hx:VR ι w (.c (.t (.imm cs len cap))) v){sz:Nat}(hcs:cs.length=len*sz){l h m:Nat}(hlh:l<=h)(hhl:h<=len)
  (cap':Option Nat) (hcap:Ys cap' (m - l)) (hhm:h<=m) {a:Option Addr} {c:Nat} (hv:v=.slice a len c):
  VR ι w (.c (.t (.imm ((cs.drop (l*sz)).take ((h - l)*sz)) (h - l) cap'))) (.slice (if m=l then a else a.map (·.add (l*sz))) (h - l) (m - l)):=by
 by_cases he:h - l=0
 ·have:(cs.drop (l*sz)).take ((h - l)*sz)=[]:=(by rw[he];simp);rw[this,he];exact TR.imm0 _ _ _ hcap
 ·have hml:¬m=l:=(by omega);rw[AE hml];subst hv
  cases hx with
  |imm0=>omega
  |imm cs len cap b off c f h1 h2 hc hle h3 h4=>
   simp only[AD,Zp];refine TR.imm _ _ _ b (off+l*sz) (m - l) (λi=>f (l*sz+i)) h1 h2 hcap (by omega) (λi hi=> ?_) (λi hi=> ?_)
   ·have hi':l*sz+i<cs.length:=(by simp at hi;omega);rw[CE];exact h3 _ hi'
   ·have hi':l*sz+i<cs.length:=(by simp at hi;omega);have:=h4 _ hi';simpa using this
theorem VD{r:Ref}{len:Nat}{cap:Option Nat}{s:Je}(hs:ι r.id=some s)(hep:r.ep=s.ep){a:Option Addr}{c:Nat}(hok:slOk r.off len cap a c s){sz:Nat}(hsz:s.es=sz){l h m:Nat}
  (hlh:l<=h) (hhm:h<=m) (hmc:m<=c) (cap':Option Nat) (hcap:Ys cap' (m - l)) (hnone:cap'=none->cap=none/\m=c/\(l<len\/l=0)) (off':Nat) (hoff:off'=if m=l then r.off else r.off+l*sz):
  VR ι w (.c (.sl { r with off:=off' } (h - l) cap')) (.slice (if m=l then a else a.map (·.add (l*sz))) (h - l) (m - l)):=by
 obtain⟨h1,h2,h3⟩:=hok;refine⟨_,_,rfl,?_,s,hs,Nat.le_of_eq hep,λ_=>⟨by omega,hcap,?_⟩⟩
 ·cases hl:s.loc with
  |none=>rw[hl]at h3;left;omega
  |some lc=>rw[hl]at h3;obtain⟨rfl,_⟩:=h3;right;split<;>rfl
 ·cases hl:s.loc with
  |none=>rw[hl]at h3;obtain⟨h4,h5,h6⟩:=h3;subst h5;have:m=l:=(by omega);exact⟨by omega,by omega,by rw[hoff,AB this];exact h6⟩
  |some lc=>
   rw[hl]at h3;obtain⟨rfl,h5,h6⟩:=h3;have hmul:(c - l)*sz=c*sz - l*sz:=Nat.sub_mul c l sz;have hmul2:(m - l)*sz=m*sz - l*sz:=Nat.sub_mul m l sz;have hle1:l*sz<=m*sz:=Ae _ (by omega);have hle2:m*sz<=c*sz:=Ae _ hmc;rw[hsz]at h5 h6⊢;subst hoff;refine⟨?_,?_,λhn=> ?_⟩
   ·split
    ·rfl
    ·simp[Zp,CE]
   ·split
    ·have:(m - l)*sz=0:=by rw[show m - l=0 by omega];simp
     dsimp only;omega
    ·rw[hmul2];dsimp only;omega
   ·obtain⟨hc1,hc2,hc3⟩:=hnone hn;have:=h6 hc1;subst hc2;split
    ·rename_i e;subst e;rcases hc3 with hc3|hc3
     ·exact absurd hc3 (by omega)
     ·subst hc3
      dsimp only;simpa using this
    ·rw[hmul2];dsimp only;omega
theorem sliceE_ok(hh:HR ι O w){t:TypeId}{x y:AV}{lo hi mx:Option AV}(h:Yc P O t x lo hi mx=some y){u:Value}(hx:VR ι w x u){lo' hi' mx':Option Value}
  (hlo:optR ι w lo lo') (hhi:optR ι w hi hi') (hmx:optR ι w mx mx'):∃z,(Instr.sliceAt t u lo' hi' mx').run P w=.ok z w/\VR ι w y z:=by
 unfold Yc at h;split at h
 ·rename_i inf hinf;split at h
  ·
   rename_i s hk;have hu:=XN hinf hk;obtain rfl:=ZH hx;split at h
   ·rename_i h' hb;split at h
    ·rename_i l hl;injection h with h;subst h
     cases mx' with
     |some _=>exact hmx.elim
     |none=>
      have hsz:(⟨s.toArray⟩:ByteArray).size=s.length:=(by simp[ByteArray.size]);have hbs:(Instr.sliceBounds false s.length s.length lo' hi' none).run P w=.ok (l,h',s.length) w:=by
       refine ZL (.inl ⟨rfl,rfl⟩) ?_ ?_
       ·rcases bound_ok hb hhi with ⟨_,h2,h3⟩|⟨k,h2,h3,_⟩
        ·exact .inl ⟨h2,rfl,h3⟩
        ·exact .inr ⟨k,h2,h3⟩
       ·rcases bound_ok hl hlo with ⟨_,h2,h3⟩|⟨k,h2,h3,_⟩
        ·exact .inl ⟨h2,h3⟩
        ·exact .inr ⟨k,h2,h3⟩
      refine⟨.string ((⟨s.toArray⟩:ByteArray).extract l h'),?_,?_⟩
      ·simp[Instr.sliceAt,Instr.slice,AW hu,hsz,hbs]
      ·rw[KV];exact TR.str _
    ·cases h
   ·cases h
  ·
   rename_i e r len cap hk;have hu:=Qv hinf hk;split at h
   ·rename_i j o hj ho;split at h
    ·rename_i hes;obtain⟨a,c,rfl,hsome,hr⟩:=hx;obtain⟨s,hs,_,hep,hor,hok⟩:=hh.ref ho hr;have hes':s.es=j.size:=(by rw[<-hor.1];exact hes);have hep':r.ep=s.ep:=(by rw[<-hor.2.1];exact hep.symm);have hroom:cap.getD len<=c:=by
      obtain⟨h1,h2,_⟩:=hok
      cases cap with
      |none=>exact h1
      |some k=>simp only[Ys]at h2;subst h2;exact A9 _
     split at h
     ·
      rename_i mv hv;split at h
      ·rename_i m hm;split at h
       ·rename_i h' hh';split at h
        ·rename_i l hl;injection h with h;subst h;rcases bound_ok hm hmx with ⟨h2,_⟩|⟨km,hm2,hm3,_⟩
         ·cases h2
         rcases bound_ok hh' hhi with ⟨h2,_⟩|⟨kh,hh2,hh3,_⟩
         ·cases h2
         have hlb:(lo'=none/\l=0)\/∃k,lo'=some (.int k (l:Int))/\l<=h':=by
          rcases bound_ok hl hlo with ⟨_,h2,h3⟩|⟨k,h2,h3,_⟩
          ·exact .inl ⟨h2,h3⟩
          ·exact .inr ⟨k,h2,h3⟩
         have hlh:l<=h':=by rcases hlb with ⟨_,e⟩|⟨_,_,e⟩<;>omega
         have hb:=ZL (P:=P) (w:=w) (isSlice:=true) (len:=len) (cap:=c) (m:=m) (h:=h') (l:=l) (.inr ⟨km,hm2,Ao hm3 hroom⟩) (.inr ⟨kh,hh2,hh3⟩) hlb;exact⟨_,XT hu hj a hb,VD hs hep' hok hes' hlh hh3 (Ao hm3 hroom) (some (m - l)) rfl (λe=>by cases e) _ rfl⟩
        ·cases h
       ·cases h
      ·cases h
     ·cases h
     ·
      have hmx':mx'=none:=by
       cases mx' with
       |none=>rfl
       |some _=>exact hmx.elim
      split at h
      ·rename_i h' hh';split at h
       ·rename_i l hl;have hlb:(lo'=none/\l=0)\/∃k,lo'=some (.int k (l:Int))/\l<=h':=by
         rcases bound_ok hl hlo with ⟨_,h2,h3⟩|⟨k,h2,h3,_⟩
         ·exact .inl ⟨h2,h3⟩
         ·exact .inr ⟨k,h2,h3⟩
        have hlh:l<=h':=by rcases hlb with ⟨_,e⟩|⟨_,_,e⟩<;>omega
        have hhb:(hi'=none/\mx'=none/\h'=len)\/∃k,hi'=some (.int k (h':Int))/\h'<=c:=by
         rcases bound_ok hh' hhi with ⟨_,h2,h3⟩|⟨k,h2,h3,_⟩
         ·exact .inl ⟨h2,hmx',h3⟩
         ·exact .inr ⟨k,h2,Ao h3 hroom⟩
        have hhc:h'<=c:=by
         rcases hhb with ⟨_,_,e⟩|⟨_,_,e⟩
         ·have:=hok.1;omega
         ·exact e
        have hb:=ZL (P:=P) (w:=w) (isSlice:=true) (len:=len) (cap:=c) (m:=c) (h:=h') (l:=l) (.inl ⟨hmx',rfl⟩) hhb hlb;split at h
        ·rename_i k;have hck:c=k:=hok.2.1;subst hck;injection h with h;subst h;exact⟨_,XT hu hj a hb,VD hs hep' hok hes' hlh hhc (A9 _) (some (c - l)) rfl (λe=>by cases e) _ rfl⟩
        ·split at h
         ·rename_i hl0;injection h with h;subst h;refine⟨_,XT hu hj a hb,VD hs hep' hok hes' hlh hhc (A9 _) none trivial (λ_=>⟨rfl,rfl,hl0⟩) _ ?_⟩;split
          ·have:=hok.1;have h0:l=0:=(by omega);subst h0;simp
          ·rfl
         ·cases h
       ·cases h
      ·cases h
    ·cases h
   ·cases h
  ·
   rename_i e cs len cap hk;have hu:=Qv hinf hk;split at h
   ·rename_i j hj;split at h
    ·rename_i hcs;obtain⟨a,c,rfl,hcap,hlc⟩:=YL hx;split at h
     ·rename_i mv hv;split at h
      ·rename_i m hm;split at h
       ·rename_i h' hh';split at h
        ·rename_i l hl;injection h with h;subst h;rcases bound_ok hm hmx with ⟨h2,_⟩|⟨km,hm2,hm3,_⟩
         ·cases h2
         rcases bound_ok hh' hhi with ⟨h2,_⟩|⟨kh,hh2,hh3,_⟩
         ·cases h2
         have hlb:(lo'=none/\l=0)\/∃k,lo'=some (.int k (l:Int))/\l<=h':=by
          rcases bound_ok hl hlo with ⟨_,h2,h3⟩|⟨k,h2,h3,_⟩
          ·exact .inl ⟨h2,h3⟩
          ·exact .inr ⟨k,h2,h3⟩
         have hlh:l<=h':=by rcases hlb with ⟨_,e⟩|⟨_,_,e⟩<;>omega
         have hb:=ZL (P:=P) (w:=w) (isSlice:=true) (len:=len) (cap:=c) (m:=m) (h:=h') (l:=l) (.inr ⟨km,hm2,Ao hm3 hlc⟩) (.inr ⟨kh,hh2,hh3⟩) hlb;exact⟨_,XT hu hj a hb,imm_slice hx hcs hlh (Ao hh3 hm3) (some (m - l)) rfl hh3 rfl⟩
        ·cases h
       ·cases h
      ·cases h
     ·cases h
     ·have hmx':mx'=none:=by
       cases mx' with
       |none=>rfl
       |some _=>exact hmx.elim
      split at h
      ·rename_i h' hh';split at h
       ·rename_i l hl;injection h with h;subst h;have hlb:(lo'=none/\l=0)\/∃k,lo'=some (.int k (l:Int))/\l<=h':=by
         rcases bound_ok hl hlo with ⟨_,h2,h3⟩|⟨k,h2,h3,_⟩
         ·exact .inl ⟨h2,h3⟩
         ·exact .inr ⟨k,h2,h3⟩
        have hlh:l<=h':=by rcases hlb with ⟨_,e⟩|⟨_,_,e⟩<;>omega
        have hhl:h'<=len:=by
         rcases bound_ok hh' hhi with ⟨_,_,h3⟩|⟨k,_,h3,_⟩
         ·omega
         ·exact h3
        have hhb:(hi'=none/\mx'=none/\h'=len)\/∃k,hi'=some (.int k (h':Int))/\h'<=c:=by
         rcases bound_ok hh' hhi with ⟨_,h2,h3⟩|⟨k,h2,h3,_⟩
         ·exact .inl ⟨h2,hmx',h3⟩
         ·exact .inr ⟨k,h2,Ao h3 hlc⟩
        have hb:=ZL (P:=P) (w:=w) (isSlice:=true) (len:=len) (cap:=c) (m:=c) (h:=h') (l:=l) (.inl ⟨hmx',rfl⟩) hhb hlb;refine⟨_,XT hu hj a hb,imm_slice hx hcs hlh hhl _ ?_ (Ao hhl hlc) rfl⟩
        cases cap with
        |none=>trivial
        |some k=>simp only[Ys]at hcap;subst hcap;rfl
       ·cases h
      ·cases h
    ·cases h
   ·cases h
  ·cases h
 ·cases h
end
end Go.Abs
namespace Go.Abs
variable [Gl]
section
variable {P:Program}{ι:Map}{O:Q1}{w:World}
def JX(ι:Map)(w:World)(cs:List Cell)(arr:Array Value):Prop:=arr.size=cs.length/\∀i (h:i<cs.length),∃u,arr[i]? =some u/\CR ι w cs[i] u
theorem Vz{x:AV}{v:Value}(hf:x.flat=true)(h:VR ι w x v):JX ι w x.cells v.cells:=by
 cases x with
 |c x=>
  have h1:=CR.Xr h;have e:v.cells= #[v]:=by cases v<;>first|rfl|(simp[Value.oneCell']at h1)
  rw[e];refine⟨rfl,λi hi=>⟨v,?_,?_⟩⟩
  ·have:i=0:=(by simpa [AV.cells] using hi);subst this;rfl
  ·have:i=0:=(by simpa [AV.cells] using hi);subst this;exact h
 |agg xs=>obtain⟨arr,rfl,hn,hc⟩:=h;exact⟨hn,hc⟩
 |tup xs=>cases hf
theorem foldl_set(off:Nat):∀(l:List Value) (s:Nat) (arr:Array Value),off+s+l.length<=arr.size->
  ((l.zipIdx s).foldl (λcs (p:Value×Nat)=>cs.setIfInBounds (off+p.2) p.1) arr).size=arr.size/\
  ∀k,((l.zipIdx s).foldl (λcs (p:Value×Nat)=>cs.setIfInBounds (off+p.2) p.1) arr)[k]? =
   if off+s<=k/\k<off+s+l.length then l[k - (off+s)]? else arr[k]?
 |[],s,arr,_=>⟨rfl,λk=>by simp;intro h1 h2;omega⟩
 |v::l,s,arr,hl=>by
  simp only[List.zipIdx_cons,List.foldl_cons];simp only[Ar]at hl;obtain⟨h1,h2⟩:=foldl_set off l (s+1) (arr.setIfInBounds (off+s) v) (by simp;omega);refine⟨by rw[h1];simp,λk=> ?_⟩;rw[h2 k];by_cases c1:off+(s+1)<=k/\k<off+(s+1)+l.length
  ·rw[AB c1,AB (by simp;omega)];have e:k - (off+s)=(k - (off+(s+1)))+1:=(by omega);rw[e,B9]
  ·rw[AE c1];by_cases c2:k=off+s
   ·subst c2;rw[AB (by simp)];rw[Array.getElem?_setIfInBounds_self_of_lt (by omega)];simp
   ·rw[AE (by simp;omega)];rw[CF (λe=>c2 e.symm)]
theorem V0{place:Nat->Option (Nat×Nat)}:∀{ps:List (Nat×AV)} {cs cs':List Cell},YV place ps cs=some cs'->∀{vs:List (Nat×Value)} {arr:Array Value},JX ι w cs arr->
  (vs.length=ps.length/\∀i (h:i<ps.length),∃v,vs[i]? =some (ps[i].1,v)/\VR ι w ps[i].2 v)->∃arr',Instr.fill place arr vs=some arr'/\JX ι w cs' arr'
 |[],cs,cs',h,vs,arr,hc,hv=>by simp only[YV,A0]at h;subst h;have:vs=[]:=BH hv.1;subst this;exact⟨arr,rfl,hc⟩
 |(n,x)::ps,cs,cs',h,vs,arr,hc,hv=>by
  obtain⟨hn,hv⟩:=hv;obtain⟨v,hv0,hx⟩:=hv 0 (by simp)
  cases vs with
  |nil=>simp at hv0
  |cons p vs=>
   simp only[B8,A0,List.getElem_cons_zero]at hv0 hx;subst hv0;simp only[YV]at h;split at h
   ·rename_i off size hp;split at h
    ·rename_i hcond;obtain⟨hf,hl,hfit⟩:=hcond;obtain⟨hs,hcc⟩:=Vz hf hx;have hsz:v.cells.size=size:=(by rw[hs];exact hl);have hle:off+v.cells.size<=arr.size:=(by rw[hc.1];omega);obtain⟨h1,h2⟩:=foldl_set off v.cells.toList 0 arr (by simpa using hle);have harr:JX ι w (QX cs off x.cells) (v.cells.zipIdx.foldl (λcs (p:Value×Nat)=>cs.setIfInBounds (off+p.2) p.1) arr):=by
      rw[<-Array.foldl_toList,Array.toList_zipIdx];have hfit':off+x.cells.length<=cs.length:=(by omega);refine⟨by rw[h1,hc.1,X2 _ _ _ hfit'],λi hi=> ?_⟩;have hi':i<cs.length:=(by simpa [X2 _ _ _ hfit'] using hi);have hsp:=splice_getElem? cs off x.cells hfit' i;have hget:(QX cs off x.cells)[i]? =some ((QX cs off x.cells)[i]'hi):=A3 hi;rw[h2 i];by_cases c1:off<=i/\i<off+v.cells.size
      ·rw[AB (by simpa using c1)];rw[AE (by omega),AB (by omega)]at hsp;have hi2:i - off<x.cells.length:=(by omega);obtain⟨u,h8,h9⟩:=hcc (i - off) hi2;refine⟨u,by simpa using h8,?_⟩;have e:(QX cs off x.cells)[i]'hi=x.cells[i - off]:=(by rw[hget,A3 hi2]at hsp;injection hsp);rw[e];exact h9
      ·rw[AE (by simpa using c1)];have hsp':(QX cs off x.cells)[i]? =cs[i]? :=by
        rw[hsp];split
        ·rfl
        ·rw[AE (by omega)]
       obtain⟨u,h8,h9⟩:=hc.2 i hi';refine⟨u,h8,?_⟩;have e:(QX cs off x.cells)[i]'hi=cs[i]:=(by rw[hget,A3 hi']at hsp';injection hsp');rw[e];exact h9
     obtain⟨arr',h3,h4⟩:=V0 h harr ⟨by simpa using hn,λi hi=>by
      have:=hv (i+1) (by simpa using hi);simpa using this⟩
     refine⟨arr',?_,h4⟩;simp only[Instr.fill,hp];rw[AE (by simp[hsz];omega)];exact h3
    ·cases h
   ·cases h
theorem evs_ok{N:Nat}{r:Q0}{a:Act}(hr:Qn N ι w r a):∀{xs:List (Nat×Operand)} {vs:List (Nat×AV)},evs r xs=some vs->
  ((xs.map λ(i,x)=>(i,a.eval x)).length=vs.length/\∀i (h:i<vs.length),∃v,(xs.map λ(i,x)=>(i,a.eval x))[i]? =some (vs[i].1,v)/\VR ι w vs[i].2 v)
 |[],vs,h=>by simp only[evs,A0]at h;subst h;exact⟨rfl,λi hi=>absurd hi (by simp)⟩
 |(n,x)::xs,vs,h=>by
  simp only[evs]at h;split at h
  ·rename_i v vs' h1 h2;injection h with h;subst h;obtain⟨h3,h4⟩:=evs_ok hr h2;refine⟨by simpa using h3,λi hi=> ?_⟩
   cases i with
   |zero=>exact⟨a.eval x,rfl,J8 hr h1⟩
   |succ i=>exact h4 i (by simpa using hi)
  ·cases h
theorem Yz{vs:Array Value}{ts:List T}(h:V8 vs.toList=some ts):JX ι w (ts.map .t) vs:=by obtain⟨arr,e,h1,h2⟩:=aggR_ts (ι:=ι) (w:=w) h;injection e with e;subst e;exact⟨h1,h2⟩
theorem places_ok:∀{fs:List Field} {ps:List (Nat×Nat)},YE P (fs.map λf=>(f.offset,f.type))=some ps->
  (fs.mapM λf=>(do pure (f.offset,<-sizeOf f.type):Sem (Nat×Nat))).run P w=.ok ps w
 |[],ps,h=>by simp only[Ba,YE,A0]at h;subst h;simp
 |f::fs,ps,h=>by
  simp only[AQ,YE]at h;split at h
  ·rename_i i ps' h1 h2;injection h with h;subst h;have:=places_ok h2;simp only[List.mapM_cons,AO,Qg h1,AR,BC,this]
  ·cases h
theorem buildE_ok{t:TypeId}{ps:List (Nat×AV)}{y:AV}(h:qE P t ps=some y){vs:Array (Nat×Value)}
  (hv:vs.toList.length=ps.length/\∀i (h:i<ps.length),∃v,vs.toList[i]? =some (ps[i].1,v)/\VR ι w ps[i].2 v):∃z,(Instr.build t vs).run P w=.ok z w/\VR ι w y z:=by
 unfold qE at h;split at h
 ·rename_i i hi;split at h
  ·rename_i z fs hz hk;obtain⟨gs,hu,rfl⟩:=Yj hi hk;obtain⟨zv,hz1,hz2⟩:=ZA hi hz w;split at h
   ·rename_i places hp;simp only[A2]at h;obtain⟨cs,hf,rfl⟩:=h;obtain⟨arr',h1,h2⟩:=V0 hf (Yz (ι:=ι) (w:=w) hz2) hv;have hpl:(gs.mapM λf=>(do pure (f.offset,<-sizeOf f.type):Sem (Nat×Nat))).run P w=.ok places.toArray w:=(by have:=places_ok (w:=w) hp;rw[Array.mapM_eq_mapM_toList];simp only[Sem.run_map,this,AR]);refine⟨.agg arr',?_,arr',rfl,h2⟩;have h1':Instr.fill (λn=>places.toArray[n]?) zv.cells vs.toList=some arr':=(by simpa using h1);simp only[Instr.build,AO,hz1,AW hu,hpl,AR,h1'];rfl
   ·cases h
  ·rename_i z n e hz hk;have hu:=YG hi hk;obtain⟨zv,hz1,hz2⟩:=ZA hi hz w;split at h
   ·rename_i j hj;simp only[A2]at h;obtain⟨cs,hf,rfl⟩:=h;obtain⟨arr',h1,h2⟩:=V0 hf (Yz (ι:=ι) (w:=w) hz2) hv;refine⟨.agg arr',?_,arr',rfl,h2⟩;simp[Instr.build,hz1,AW hu,Qg hj w,h1]
   ·cases h
  ·cases h
 ·cases h
theorem Ye(n:Nat)(z:List T):(Zr n z).length=n*z.length:=by
 induction n with
 |zero=>simp[Zr]
 |succ n ih=>simp[Zr,ih,BS];omega
theorem repl_get(n:Nat)(z:List T)(hz:0<z.length)(i:Nat)(hi:i<n*z.length):(Zr n z)[i]? =z[i%z.length]? :=by
 induction n generalizing i with
 |zero=>simp at hi
 |succ n ih=>
  simp only[Zr];by_cases h:i<z.length
  ·rw[AK h,Bi h]
  ·rw[AT (by omega),ih _ (by rw[BS]at hi;omega)];have e:=Nat.mod_eq_sub_mod (a:=i) (b:=z.length) (by omega);rw[e]
theorem VK{n:Nat}{z:List T}{zv:Array Value}(h:V8 zv.toList=some z)(hz:0<z.length):JX ι w ((Zr n z).map .t) ((Array.range (n*z.length)).map (zv[· %zv.size]!)):=by
 obtain⟨h1,h2⟩:=Yz (ι:=ι) (w:=w) h;simp only[AG]at h1;refine⟨by simp[Ye],λi hi=> ?_⟩;have hi':i<n*z.length:=by simpa [Ye] using hi
 have hm:i%z.length<z.length:=Aq _ hz;obtain⟨u,h3,h4⟩:=h2 (i%z.length) (by simpa using hm);refine⟨u,?_,?_⟩
 ·rw[Array.getElem?_map];have:(Array.range (n*z.length))[i]? =some i:=(by simp[hi']);rw[this];simp only[AD,A0,h1];rw[getElem!_pos zv _ (by omega)];have e:=B3 (xs:=zv) (i:=i%z.length) (by omega);rw[e]at h3;injection h3
 ·have e:=repl_get n z hz i hi';have hg:(Zr n z)[i]? =some ((Zr n z)[i]'(by simpa using hi)):=A3 _;rw[hg,A3 hm]at e;injection e with e;simp only[AM,e];simpa using h4
theorem allT_eq:∀{cs:List Cell} {ts:List T},UX cs=some ts->cs=ts.map .t
 |[],ts,h=>by simp only[UX,A0]at h;subst h;rfl
 |.t x::cs,ts,h=>by simp only[UX,A2]at h;obtain⟨ts',h1,rfl⟩:=h;simp[allT_eq h1]
 |.ptr _::cs,ts,h=>by simp[UX]at h
 |.sl .. ::cs,ts,h=>by simp[UX]at h
 |.clo .. ::cs,ts,h=>by simp[UX]at h
theorem new_un(h:HR ι O w){w':World}{o:Go.Obj}(hh:w'.heap=w.heap.push o)(ho:w'.os=w.os)(hp:w'.output=w.output):
   Step ι O w ι O w'/\HR ι O w'/\ι.un w.heap.size:=by
 have hst:Step ι O w ι O w':={
   len:=A9 _
   size:=by rw[hh];simp
   os:=ho
   out:=hp
   keep:=λ_ s h=>⟨s,h,A9 _,λ_=>rfl⟩
   none:=λ_ _ h=>h
   new:=λid s' l' h h'=>.inr ⟨id,s',l',h,h',rfl⟩
   res:=rfl
   ex:=rfl
   resKeep:=λb hb=>by rw[hh];simp[Bz,Bm (h.resRow b hb).lt]
   frame:=λb hb _=>by rw[hh];simp[Bz,Bm hb] }
 refine⟨hst,⟨λid s hs=> ?_,h.inj,λb hb=>(let ⟨c,e,fr,h1⟩:=h.resRow b hb;⟨c,e,fr,by rw[hst.resKeep b hb];exact h1⟩),h.resNo⟩,λhm=>absurd (h.Yw hm) (Nat.lt_irrefl _)⟩;obtain⟨o',h1,h2⟩:=h.obj id s hs;refine⟨o',h1,h2.congr hst (λl hl=> ?_)⟩;have:=h.Yw (.inl ⟨id,s,l,hs,hl,rfl⟩);rw[hh];simp[Bz,Bm this]
end
end Go.Abs
namespace Go.Abs
variable [Gl]
section
variable {P:Program}{ι:Map}{O:Q1}{w:World}
def Z9(P:Program)(ι:Map)(O:Q1)(w:World)(s:Sem Value)(x:AV)(A':Q1):Prop:=
 ∃I' w' v,s.run P w=.ok v w'/\VR I' w' x v/\Step ι O w I' A' w'/\HR I' A' w'
theorem Z9.pure(h:HR ι O w){s:Sem Value}{x:AV}{v:Value}(hr:s.run P w=.ok v w)(hv:VR ι w x v):Z9 P ι O w s x O:=
 ⟨ι,w,v,hr,hv,Step.refl ι O w,h⟩
theorem ptr_new{I':Map}{n b tot es:Nat}(h:I' n=some ⟨some ⟨b,0,tot⟩,es,0⟩)(w':World):VR I' w' (.c (.ptr ⟨n,0,0⟩)) (.pointer (some ⟨b,0,none⟩)):=
 ⟨_,rfl,_,h,A9 _,λ_=>⟨_,rfl,rfl⟩⟩
theorem new_ok(h:HR ι O w){cs:List Cell}{arr:Array Value}(hc:JX ι w cs arr)(e:TypeId)(es:Nat):
  ∃I' w',(newRow e arr).run P w=.ok ⟨w.heap.size,0,none⟩ w'/\Step ι O w I' (O++[{ cs:=cs,es:=es }]) w'/\HR I' (O++[{ cs:=cs,es:=es }]) w'/\
   I' O.length=some ⟨some ⟨w.heap.size,0,arr.size⟩,es,0⟩:=by
 obtain⟨h1,h2⟩:=HR.push (w':={ w with heap:=w.heap.push (.cells arr e) }) (o:={ cs:=cs,es:=es }) h rfl rfl rfl rfl (by rw[hc.1];exact A9 _) hc.2;exact⟨_,_,rfl,h1,h2,Map.QQ _ _ _⟩
theorem alloc_ok(h:HR ι O w){t:TypeId}{i:Qp}(ht:tinf P t=some i){z:List T}(hz:i.zero=some z):
  Z9 P ι O w (Instr.alloc t true (.tuple #[])) (Ki O (z.map .t)).1 (Ki O (z.map .t)).2:=by
 obtain⟨zv,hz1,hz2⟩:=ZA ht hz w;obtain⟨I',w',h1,h2,h3,h4⟩:=new_ok (P:=P) h (Yz (ι:=ι) (w:=w) hz2) t 1;exact⟨I',w',_,by simp[Instr.alloc,hz1,newVar,h1],ptr_new h4 w',h2,h3⟩
theorem box_ok(h:HR ι O w){x:AV}{v:Value}(hf:x.flat=true)(hv:VR ι w x v)(t:TypeId):
  Z9 P ι O w (Instr.box t v) (Ki O x.cells).1 (Ki O x.cells).2:=by
 obtain⟨I',w',h1,h2,h3,h4⟩:=new_ok (P:=P) h (Vz hf hv) t 1;exact⟨I',w',_,by simp[Instr.box,newVar,h1],ptr_new h4 w',h2,h3⟩
theorem storeE_ok(h:HR ι O w){t:TypeId}{i:Qp}(ht:tinf P t=some i){a x:AV}{u v:Value}(ha:VR ι w a u)(hx:VR ι w x v){A':Q1}(hs:Xg O i a x=some A'):
  ∃I' w',(Instr.storeAt t u v).run P w=.ok () w'/\Step ι O w I' A' w'/\HR I' A' w':=by
 unfold Xg at hs;split at hs
 ·rename_i r;split at hs
  ·rename_i o ho;split at hs
   ·rename_i hc;obtain⟨hf,hl,hfit⟩:=hc;injection hs with hs;subst hs;obtain⟨ad,rfl,hr⟩:=ha;obtain⟨s,h1,h2,h3,h4,l,hl2,e⟩:=h.ref ho hr;injection e with e;subst e;obtain⟨hn,hcc⟩:=Vz hf hx;obtain⟨w',h5,h6,h7⟩:=HR.write h h1 hl2 h2 P r.off x.cells v.cells.toList (by simpa using hn) (λk hk=>by simpa using hcc k hk) (by omega);refine⟨ι,w',?_,h6,h7⟩;have hsz:¬(v.cells.size≠i.size):=(by rw[hn,hl];simp);simp only[Instr.storeAt,Instr.sureAddr,AO,BC,AR,storeVar,Qg ht w,AE hsz];simpa using h5
   ·cases hs
  ·cases hs
 ·cases hs
theorem imm_new{ts:List T}{len c:Nat}{cap:Option Nat}{arr:Array Value}{e:TypeId}(h:HR ι O w)(hc:JX ι w (ts.map .t) arr)(hlc:len<=c)(hcap:Ys cap c):
  Z9 P ι O w (do pure (.slice (some (<-newRow e arr)) len c)) (.c (.t (.imm ts len cap))) O:=by
 obtain⟨h1,h2,h3⟩:=new_un h (w':={ w with heap:=w.heap.push (.cells arr e) }) rfl rfl rfl;refine⟨ι,{ w with heap:=w.heap.push (.cells arr e) },.slice (some ⟨w.heap.size,0,none⟩) len c,rfl,?_,h1,h2⟩;have hnew:({ w with heap:=w.heap.push (.cells arr e) }:World).heap[w.heap.size]? =some (.cells arr e):=by simp
 refine TR.imm ts len cap w.heap.size 0 c (λi=>arr.getD i undef) h3 ⟨arr,e,(0,0),hnew⟩ hcap hlc (λi hi=> ?_) (λi hi=> ?_)
 ·obtain⟨u,h4,_⟩:=hc.2 i (by simpa using hi);simp only[World.cell?,hnew,Ac];simp[h4]
 ·obtain⟨u,h4,h5⟩:=hc.2 i (by simpa using hi);have e1:arr.getD i undef=u:=(by simp[h4]);have h6:CR ι { w with heap:=w.heap.push (.cells arr e) } (Cell.t ts[i]) u:=(by have:=CR.step h1 h5;simpa using this);simpa [e1,CR] using h6
theorem sl_new{I':Map}{n b tot es len c:Nat}{cap:Option Nat}(h:I' n=some ⟨some ⟨b,0,tot⟩,es,0⟩)(hl:len<=c)(hcap:Ys cap c)(ht:c*es<=tot)(ht':cap=none->c*es=tot)(w':World):
  VR I' w' (.c (.sl ⟨n,0,0⟩ len cap)) (.slice (some ⟨b,0,none⟩) len c):=
 ⟨_,_,rfl,.inr rfl,_,h,A9 _,λ_=>⟨hl,hcap,rfl,by simpa using ht,λe=>by simpa using ht' e⟩⟩
theorem qD(h:HR ι O w){b:Bool}{t:TypeId}{n:Nat}{ps:List (Nat×AV)}{y:AV}{A':Q1}(hb:JK P b O t n ps=some (y,A')){vs:Array (Nat×Value)}
  (hv:vs.toList.length=ps.length/\∀i (h:i<ps.length),∃v,vs.toList[i]? =some (ps[i].1,v)/\VR ι w ps[i].2 v):Z9 P ι O w (Instr.buildSlice t n vs) y A':=by
 unfold JK at hb;split at hb
 ·rename_i i hi;split at hb
  ·rename_i e hk;have hu:=Qv hi hk;split at hb
   ·rename_i j hj;split at hb
    ·rename_i z hz;obtain⟨zv,hz1,hz2⟩:=ZA hj hz w;split at hb
     ·rename_i hc;obtain⟨hsz,hpos,hmax⟩:=hc;split at hb
      ·rename_i cs hf;obtain⟨arr,h1,h2⟩:=V0 hf (VK (ι:=ι) (w:=w) hz2 (by omega)) hv;have h24:¬(n*j.size>2^24):=(by omega);have hrun:(Instr.buildSlice t n vs).run P w=(do pure (.slice (some (<-newRow e arr)) n n):Sem Value).run P w:=by
        by_cases h0:n*j.size=0
        ·have e0:∀f:Nat->Value,(Array.range (n*j.size)).map f= #[]:=λf=>(by rw[h0];simp);rw[<-hsz,e0]at h1;simp only[Instr.buildSlice,AO,AW hu,AR,Qg hj w,AE h24,AB h0,BC,e0,h1]
        ·rw[<-hsz]at h1;simp only[Instr.buildSlice,AO,AW hu,AR,Qg hj w,AE h24,AE h0,hz1,BC,h1]
       split at hb
       ·rename_i ts hts;injection hb with hb;injection hb with e1 e2;subst e1;subst e2;have hcs:=allT_eq (objT_eq hts);subst hcs;obtain⟨I',w',v,h3,h4,h5,h6⟩:=imm_new (P:=P) (e:=e) (len:=n) (c:=n) (cap:=some n) h h2 (A9 _) rfl;exact⟨I',w',v,by rw[hrun];exact h3,h4,h5,h6⟩
       ·injection hb with hb;injection hb with e1 e2;subst e1;subst e2;obtain⟨I',w',h3,h4,h5,h6⟩:=new_ok (P:=P) h h2 e j.size;refine⟨I',w',_,by rw[hrun];simp[h3],sl_new (cap:=some n) h6 (A9 _) rfl ?_ (λe=>by cases e) w',h4,h5⟩;have hl:=h2.1;have:cs.length=((Zr n z).map Cell.t).length:=by
         clear h1 h2 hrun hl;have key:∀(ps:List (Nat×AV)) (cs cs':List Cell),YV (λm=>some (m*j.size,j.size)) ps cs=some cs'->cs'.length=cs.length:=by
          intro ps
          induction ps with
          |nil=>intro cs cs' hh;simp only[YV,A0]at hh;rw[hh]
          |cons p ps ih=>
           intro cs cs' hh;obtain⟨m,x⟩:=p;simp only[YV]at hh;split at hh
           ·rename_i hc;rw[ih _ _ hh,X2 _ _ _ (by omega)]
           ·cases hh
         exact key _ _ _ hf
        rw[hl,this];simp[Ye,hsz]
      ·cases hb
     ·cases hb
    ·cases hb
   ·cases hb
  ·cases hb
 ·cases hb
theorem makeSliceE_ok(h:HR ι O w){t:TypeId}{l c y:AV}{A':Q1}(hm:Qu P O t l c=some (y,A')){u v:Value}(hl:VR ι w l u)(hc:VR ι w c v):Z9 P ι O w (Instr.makeSlice t u v) y A':=by
 unfold Qu at hm;split at hm
 ·rename_i i n m hi hn hmm;obtain⟨k,rfl⟩:=Yl hn hl;obtain⟨k',rfl⟩:=Yl hmm hc;split at hm
  ·rename_i e hk;have hu:=Qv hi hk;split at hm
   ·rename_i j hj;split at hm
    ·rename_i z hz;obtain⟨zv,hz1,hz2⟩:=ZA hj hz w;obtain⟨inf,hinf,hby,_,_⟩:=K1 hj w;split at hm
     ·rename_i hcond;obtain⟨hsz,hpos,h0,hle,hbytes,hmax⟩:=hcond;injection hm with hm;injection hm with e1 e2;subst e1;subst e2;have hw1:IntKind.i64.wrap n=n:=IntWalk.i64_in _ (by omega);have hw2:IntKind.i64.wrap m=m:=IntWalk.i64_in _ (by omega);have hcells:JX ι w ((Zr m.toNat z).map .t) ((Array.range (m.toNat*z.length)).map (zv.cells[· %zv.cells.size]!)):=VK hz2 (by omega);obtain⟨I',w',h3,h4,h5,h6⟩:=new_ok (P:=P) h hcells e j.size;have hmb:(inf.bytes:Int)*m<=281474976710656:=(by rw[hby,Int.mul_comm];exact hbytes);have hnb:(inf.bytes:Int)*n<=281474976710656:=(by have:(inf.bytes:Int)*n<=inf.bytes*m:=Int.mul_le_mul_of_nonneg_left hle (by omega);omega);refine⟨I',w',.slice (some ⟨w.heap.size,0,none⟩) n.toNat m.toNat,?_,sl_new (cap:=some m.toNat) h6 (by omega) rfl (by simp[hsz]) (λe=>by cases e) w',h4,h5⟩;have hrun0:∀b:Bool,b=false->(if b=true then True else False)=False:=λb hb=>(by simp[hb]);have c1:¬(m<0):=(by omega);have c2:¬((inf.bytes:Int)*m>2^48):=(by have:(2:Int)^48=281474976710656:=(by decide);rw[this];omega);have c3:¬(n<0):=(by omega);have c4:¬(n>m):=(by omega);by_cases h0':m.toNat*j.size=0
      ·have e0:∀f:Nat->Value,(Array.range (m.toNat*j.size)).map f= #[]:=λf=>(by rw[h0'];simp);rw[<-hsz,e0]at h3;simp only[Instr.makeSlice,AO,AW hu,AR,asInt,asIntOf,BC,hinf,hw1,hw2];simp only[c1,c2,c3,c4,decide_false,Bool.or_self,AP,Af,run_askRoom,AR,Qg hj w,AO,AB h0',e0,h3,BC]
      ·rw[<-hsz]at h3;simp only[Instr.makeSlice,AO,AW hu,AR,asInt,asIntOf,BC,hinf,hw1,hw2];simp only[c1,c2,c3,c4,decide_false,Bool.or_self,AP,Af,run_askRoom,AR,Qg hj w,AO,AE h0',hz1,h3,BC]
     ·cases hm
    ·cases hm
   ·cases hm
  ·cases hm
 ·cases hm
end
end Go.Abs
namespace Go.Abs
variable [Gl]
section
variable {P:Program}{ι:Map}{O:Q1}{w:World}
theorem qB(s:List UInt8)(n:Nat):(((⟨s.toArray⟩:ByteArray).extract 0 n).data.map λb=>Value.int .u8 b.toNat)=((s.take n).map λb:UInt8=>Value.int .u8 b.toNat).toArray:=by rw[KV];simp
theorem Y1(h:HR ι O w){es n:Nat}{x:AV}{new:List Cell}(hf:Qt O es n x=some new){v:Value}(hx:VR ι w x v):
  new.length=n*es/\∃vs:List Value,JX ι w new vs.toArray/\∀w2:World,w2.heap=w.heap->(Builtin.firstCells es n v).run P w2=.ok vs.toArray w2:=by
 unfold Qt at hf;split at hf
 ·rename_i r len cap;split at hf
  ·rename_i o ho;split at hf
   ·rename_i hc;injection hf with hf;subst hf;obtain⟨a,c,rfl,hsome,hr⟩:=hx;obtain⟨s,hs,ho',hep,hor,hok⟩:=h.ref ho hr;have hlen:((o.cs.drop r.off).take (n*es)).length=n*es:=(by simp;omega);refine⟨hlen,?_⟩;by_cases h0:n*es=0
    ·have e:(o.cs.drop r.off).take (n*es)=[]:=(by rw[h0];simp);rw[e];refine⟨[],⟨rfl,λi hi=>absurd hi (by simp)⟩,λw2 _=> ?_⟩
     cases a with
     |none=>simp[Builtin.firstCells]
     |some a=>simp[Builtin.firstCells,h0,loadCells,loadCellsFrom]
    ·obtain⟨h1,h2,h3⟩:=hok
     cases hl:s.loc with
     |none=>have hz:=hor.2.2;rw[hl]at hz;rw[hz]at hc;simp at hc;exact absurd hc.1.2 h0
     |some l=>rw[hl]at h3;obtain⟨rfl,_⟩:=h3;have hrow:=((hor.row hl).drop r.off).take (n*es);obtain⟨vs,h4,h5,h6⟩:=hrow.list;refine⟨vs,⟨by simpa using h4,λi hi=>by simpa using h6 i hi⟩,λw2 hw2=> ?_⟩;refine run_firstCells_some w2 es n _ len c vs (by rw[h4];exact hlen) (λj v hv=> ?_);have:=h5 j v hv;rw[Zp]at this⊢;rw[<-this];exact XK (by rw[hw2]) _
   ·cases hf
  ·cases hf
 ·rename_i cs len cap;split at hf
  ·rename_i hc;injection hf with hf;subst hf;have hlen:((cs.take (n*es)).map Cell.t).length=n*es:=(by have:n*es<=len*es:=Ae _ hc.1;simp;omega);refine⟨hlen,?_⟩
   cases hx with
   |imm0 cap a c hcap=>
    refine⟨[],⟨by simp,λi hi=>absurd hi (by simp)⟩,λw2 _=> ?_⟩;have hn0:n=0:=(by omega);subst hn0
    cases a with
    |none=>simp[Builtin.firstCells]
    |some a=>simp[Builtin.firstCells,loadCells,loadCellsFrom]
   |imm cs len cap b off c f h1 h2 hcp hle h3 h4=>have hrow:WA ι w b off ((cs.take (n*es)).map Cell.t):=λi hi=>(by have hi':i<cs.length:=(by simp at hi;omega);refine⟨f i,h3 i hi',?_⟩;have:=h4 i hi';simpa [CR] using this);obtain⟨vs,h5,h6,h7⟩:=hrow.list;refine⟨vs,⟨by simpa using h5,λi hi=>by simpa using h7 i hi⟩,λw2 hw2=> ?_⟩;refine run_firstCells_some w2 es n _ len c vs (by rw[h5];exact hlen) (λj v hv=> ?_);have:=h6 j v hv;rw[Zp]at this⊢;rw[<-this];exact XK (by rw[hw2]) _
  ·cases hf
 ·rename_i s;split at hf
  ·rename_i hc;injection hf with hf;subst hf;obtain rfl:=ZH hx;obtain⟨hc1,rfl⟩:=hc;refine⟨by simp;omega,(s.take n).map λb:UInt8=>Value.int .u8 b.toNat,⟨by simp,λi hi=> ?_⟩,λw2 _=> ?_⟩
   ·have hi':i<(s.take n).length:=(by simpa using hi);exact⟨.int .u8 ((s.take n)[i].toNat),by rw[C5,AX,A3 hi'];rfl,by simp only[AM];exact TR.int _ _⟩
   ·simp only[Builtin.firstCells,qB];rfl
  ·cases hf
 ·cases hf
theorem lenE_ok{x:AV}{m:Nat}(h:lenE x=some m){v:Value}(hx:VR ι w x v)(w2:World):(Builtin.lenOf v).run P w2=.ok m w2:=by
 unfold lenE at h;split at h
 ·injection h with h;subst h;obtain⟨a,c,rfl,_⟩:=hx;rfl
 ·injection h with h;subst h;obtain⟨a,c,rfl,_⟩:=YL hx;rfl
 ·injection h with h;subst h;obtain rfl:=ZH hx;simp[Builtin.lenOf,ByteArray.size]
 ·cases h
theorem growBy_le(need:Nat):∀(n c:Nat),Builtin.growBy need n c<=max c (2*need+768)
 |0,c=>by simp[Builtin.growBy];omega
 |n+1,c=>by
  simp only[Builtin.growBy];split
  ·omega
  ·have:=growBy_le need n (c+(c+768) / 4);omega
theorem nextcap_le{need cap:Nat}(h:cap<need):Builtin.nextslicecap need cap<=2*need+768:=by
 unfold Builtin.nextslicecap;split
 ·omega
 ·split
  ·omega
  ·have:=growBy_le need 4 cap;omega
theorem Xy.fits{n b:Nat}(h:Xy n b){cap:Nat}(hc:cap<n):¬(Builtin.nextslicecap n cap*b>2^48):=by
 obtain⟨h1,h2,h3⟩:=h;have h4:Builtin.nextslicecap n cap*b<=(2*n+768)*b:=Ae _ (nextcap_le hc);have h5:(2*n+768)*b=2*(n*b)+768*b:=by rw[As,Nat.mul_assoc]
 omega
theorem X4{ts:Array TypeId}{t u e:TypeId}(h0:ts[0]? =some t)(h1:ts[1]? =some u){j:Qp}(ht:P.underlying t=some (.slice e))(hj:tinf P e=some j)(hu:(∃e',P.underlying u=some (.slice e'))\/P.underlying u=some .string)(rest:TypeId)
  {a:Option Addr} {len c m:Nat} {x:Value} {new:Array Value} (hlen:(Builtin.lenOf x).run P w=.ok m w) (hfirst:(Builtin.firstCells j.size m x).run P w=.ok new w) (hroom:len+m<=c) {w':World}
  (hst:∀b,a=some b->(storeCells (b.add (len*j.size)) new.toList).run P w=.ok () w') (hst':a=none->w'=w):
  (Builtin.append_ ts rest #[.slice a len c,x]).run P w=.ok (.slice a (len+m) c) w':=by
 rcases hu with ⟨e',hd1⟩|hd1;all_goals
  cases a with
  |none=>obtain rfl:=hst' rfl;simp only[Builtin.append_,h0,h1,C5,B8,B9,AO,AW ht,AR,Qg hj,AW hd1,BC,AP,Af,hlen,AB hroom,BB,Ai,hfirst]
  |some b=>simp only[Builtin.append_,h0,h1,C5,B8,B9,AO,AW ht,AR,Qg hj w,AW hd1,BC,AP,Af,hlen,AB hroom,BB,Ai,hfirst,hst b rfl]
theorem ZM{ts:Array TypeId}{t u e:TypeId}(h0:ts[0]? =some t)(h1:ts[1]? =some u){j:Qp}(ht:P.underlying t=some (.slice e))(hj:tinf P e=some j){z:List T}(hz:j.zero=some z)(hzs:j.size=z.length)(hu:(∃e',P.underlying u=some (.slice e'))\/P.underlying u=some .string)(rest:TypeId)
  {a:Option Addr} {len c m:Nat} {x:Value} {old new:Array Value} (hlen:(Builtin.lenOf x).run P w=.ok m w) (hfirst:∀w2:World,w2.heap=w.heap->(Builtin.firstCells j.size m x).run P w2=.ok new w2)
  (hold:∀w2:World,w2.heap=w.heap->(Builtin.firstCells j.size len (.slice a len c)).run P w2=.ok old w2) (hroom:c<len+m) (hok:Xy (len+m) j.bytes):
  ∃(cap:Nat) (more:Array Value),len+m<=cap/\more.size=(cap - (len+m))*j.size/\
   (Builtin.append_ ts rest #[.slice a len c,x]).run P w=.ok (.slice (some ⟨w.heap.size,0,none⟩) (len+m) cap) { w with drawn:=w.drawn+1,heap:=w.heap.push (.cells (old++new++more) e) }:=by
 obtain⟨inf,hinf,hby,_,_⟩:=K1 hj w;obtain⟨zv,hz1,hz2⟩:=ZA hj hz { w with drawn:=w.drawn+1 };have hzl:zv.cells.size=j.size:=by have:=(tsOf_ok (U:=λ_=>True) (w:=w) hz2).1;simp at this;omega
 let cap:=(Question.appendCap (len+m) c e).cut (w.tape w.drawn (.appendCap (len+m) c e));refine⟨cap,Builtin.zeroCells zv.cells (cap - (len+m)),?_,by simp[Builtin.zeroCells,hzl],?_⟩
 ·simp only[cap,Question.cut];omega
 ·have hn:¬(len+m<=c):=(by omega);have h63:¬(((len+m:Nat):Int)>IntKind.i64.max/\(False\/inf.bytes=0)):=(by have:(IntKind.i64.max:Int)=9223372036854775807:=(by decide);rw[this];have:=hok.2.1;omega);have h48:¬(Builtin.nextslicecap (len+m) c*inf.bytes>2^48):=(by rw[hby];exact hok.fits hroom);have hf:=hfirst { w with drawn:=w.drawn+1 } rfl;have ho:=hold { w with drawn:=w.drawn+1 } rfl;have hinf2:(typeInfo e).run P { w with drawn:=w.drawn+1 }=.ok inf { w with drawn:=w.drawn+1 }:=(by obtain⟨inf',h1,_,_,h4⟩:=K1 hj { w with drawn:=w.drawn+1 };obtain⟨inf'',h1',_,_,h4'⟩:=K1 hj w;rw[hinf]at h1';injection h1' with h1';subst h1';rw[h4']at h4;injection h4 with h4;subst h4;exact h1);have h63':¬(((len+m:Nat):Int)>IntKind.i64.max/\inf.bytes=0):=λh=>h63 ⟨h.1,.inr h.2⟩;have key:(Builtin.append_ ts rest #[.slice a len c,x]).run P w=((do
    let newCap<-choose (.appendCap (len+m) c e)
    askRoom (newCap*(<-typeInfo e).bytes)
    let old<-Builtin.firstCells j.size len (.slice a len c);let new<-Builtin.firstCells j.size m x;let rest:=Builtin.zeroCells (<-zeroValue e).cells (newCap - (len+m))
    pure (.slice (some (<-newRow e (old++new++rest))) (len+m) newCap):Sem Value)).run P w:=by
   rcases hu with ⟨e',hd1⟩|hd1;all_goals
    simp only[Builtin.append_,h0,h1,C5,B8,B9,AO,AW ht,AR,Qg hj w,AW hd1,BC,AP,Af,hlen,AE hn,hinf,false_or,AE h63',AE h48,BB,Ai]
  rw[key];have hch:(choose (.appendCap (len+m) c e)).run P w=.ok cap { w with drawn:=w.drawn+1 }:=(by simp[choose,Sem.run,Question.forced,cap]);simp only[AO,hch,AR,hinf2,run_askRoom,ho,hf,hz1,BC];rfl
end
end Go.Abs
namespace Go.Abs
variable [Gl]
section
variable {P:Program}{ι:Map}{O:Q1}{w:World}
theorem JX.append{xs ys:List Cell}{a b:Array Value}(h1:JX ι w xs a)(h2:JX ι w ys b):JX ι w (xs++ys) (a++b):=by
 refine⟨by simp[h1.1,h2.1],λi hi=> ?_⟩;by_cases c:i<xs.length
 ·obtain⟨u,h3,h4⟩:=h1.2 i c;refine⟨u,?_,by rw[Bv c];exact h4⟩;rw[C3 (by rw[h1.1];exact c)];exact h3
 ·have hi':i - xs.length<ys.length:=(by simp at hi;omega);obtain⟨u,h3,h4⟩:=h2.2 (i - xs.length) hi';refine⟨u,?_,by rw[C6 (by omega)];exact h4⟩;rw[Array.getElem?_append_right (by rw[h1.1];omega),h1.1];exact h3
theorem push_more(h:HR ι O w){cs:List Cell}{arr more:Array Value}(hc:JX ι w cs arr)(e:TypeId)(es:Nat){w':World}(hh:w'.heap=w.heap.push (.cells (arr++more) e))(ho:w'.os=w.os)(hp:w'.output=w.output):
  ∃I',Step ι O w I' (O++[{ cs:=cs,es:=es }]) w'/\HR I' (O++[{ cs:=cs,es:=es }]) w'/\I' O.length=some ⟨some ⟨w.heap.size,0,(arr++more).size⟩,es,0⟩:=by
 obtain⟨h1,h2⟩:=HR.push (o:={ cs:=cs,es:=es }) h hh ho hp rfl (by simp[hc.1]) (λi hi=>by
  obtain⟨u,h3,h4⟩:=hc.2 i hi;exact⟨u,by rw[C3 (by rw[hc.1];exact hi)];exact h3,h4⟩)
 exact⟨_,h1,h2,Map.QQ _ _ _⟩
theorem HR.writeG(h:HR ι O w){id:Nat}{s:Je}{o o':Obj}{l:Loc}(hid:ι id=some s)(hl:s.loc=some l)(ho:O[id]? =some o)
  (P:Program) (off:Nat) (xs:List Cell) (vs:List Value) (hx:JX ι w xs vs.toArray) (hfit:off+xs.length<=l.tot) (s':Je) (hs':s'.loc=some l) (hes:o'.es=s'.es) (hep:o'.ep=s'.ep)
  (hle:s.ep<=s'.ep) (heq:s.ep=s'.ep->s'=s) (hlen:o'.cs.length<=l.tot)
  (hcs:∀i (hi:i<o'.cs.length),(∃hj:i - off<xs.length,off<=i/\o'.cs[i]=xs[i - off])\/((i<off\/off+xs.length<=i)/\∃hj:i<o.cs.length,o'.cs[i]=o.cs[i])):
  ∃w',(storeCells ⟨l.blk,l.sh+off,none⟩ vs).run P w=.ok () w'/\Step ι O w (ι.push id s') (O.set id o') w'/\HR (ι.push id s') (O.set id o') w':=by
 obtain⟨hn,hxx⟩:=hx;have hn:vs.length=xs.length:=by simpa using hn
 obtain⟨o2,ho2,hor⟩:=h.obj _ _ hid;rw[ho]at ho2;injection ho2 with ho2;subst ho2;obtain⟨h1,h2,h3⟩:=hor;rw[hl]at h3;obtain⟨⟨cells,elem,h4,h5⟩,h6,h7⟩:=h3;have hone:∀v∈vs,v.oneCell'=true:=λv hv=>by obtain⟨i,hi⟩:=List.getElem?_of_mem hv;have hlt:i<xs.length:=(by rw[<-hn];exact(AF.1 hi).1);obtain⟨u,h8,h9⟩:=hxx i hlt;have h8:vs[i]? =some u:=(by simpa using h8);rw[hi]at h8;injection h8 with h8;subst h8;exact CR.Xr h9
 have hrun:=run_storeCells_at P l.blk (l.sh+off) elem vs 0 cells w h4 (by omega) hone;simp only[BZ]at hrun;refine⟨_,hrun,?_⟩;generalize hw':w.setRow l.blk (cells.toList.take (l.sh+off)++vs++cells.toList.drop (l.sh+off+vs.length)).toArray=w';have hnew:w'.heap[l.blk]? =some (.cells (cells.toList.take (l.sh+off)++vs++cells.toList.drop (l.sh+off+vs.length)).toArray elem (0,0)):=by rw[<-hw'];exact setRow_heap w l.blk cells _ elem _ h4
 have hfr:∀b,b<w.heap.size->(∀l',s.loc=some l'->l'.blk≠b)->w'.heap[b]? =w.heap[b]? :=λb _ hb=>by rw[<-hw'];simp only[World.setRow];rw[Array.getElem?_modify];simp[hb l hl]
 have hst0:Step ι O w (ι.push id s') (O.set id o') w':=by
  refine Step.upd h hid hle heq ?_ ?_ ?_ (λl' hl'=>.inr ⟨id,s,l,hid,hl,by rw[hs']at hl';injection hl' with e;rw[e]⟩) hfr
  ·rw[<-hw'];simp[World.setRow]
  ·rw[<-hw'];rfl
  ·rw[<-hw'];rfl
 have hsz:(cells.toList.take (l.sh+off)++vs++cells.toList.drop (l.sh+off+vs.length)).toArray.size=cells.size:=by simp;omega
 have hcell:∀i v,(cells.toList.take (l.sh+off)++vs++cells.toList.drop (l.sh+off+vs.length))[l.sh+i]? =some v->w'.cell? ⟨l.blk,l.sh+i,none⟩=some v:=λi v hv=>by simp only[World.cell?,hnew];simpa using hv
 have hold:∀i,w.cell? ⟨l.blk,l.sh+i,none⟩=cells[l.sh+i]? :=λi=>by simp[World.cell?,h4]
 have hor':OR (ι.push id s') w' o' s':=by
  refine⟨hes,hep,?_⟩;rw[hs'];refine⟨⟨_,elem,hnew,by rw[hsz];exact h5⟩,hlen,λi hi=> ?_⟩;rcases hcs i hi with ⟨hj,hge,e⟩|⟨hout,hj,e⟩
  ·obtain⟨u,h8,h9⟩:=hxx (i - off) hj;refine⟨u,hcell i u ?_,by rw[e];exact h9.step hst0⟩;rw[Aw,AT (by simp;omega)];have e0:l.sh+i - (List.take (l.sh+off) cells.toList).length=i - off:=(by simp;omega);rw[e0,AK (by omega)];simpa using h8
  ·obtain⟨v,h8,h9⟩:=h7 i hj;refine⟨v,hcell i v ?_,by rw[e];exact h9.step hst0⟩;rw[hold i]at h8;rcases hout with hlt|hge
   ·rw[Aw,AK (by simp;omega),List.getElem?_take_of_lt (by omega)];simpa using h8
   ·rw[Aw,AT (by simp;omega)];have e0:l.sh+i - (List.take (l.sh+off) cells.toList).length=i - off:=(by simp;omega);rw[e0,AT (by omega),CL];have e1:l.sh+off+vs.length+(i - off - vs.length)=l.sh+i:=(by omega);rw[e1];simpa using h8
 exact⟨hst0,HR.upd h hid hst0 hfr (λl' hl'=>.inr ⟨l,hl,by rw[hs']at hl';injection hl' with e;rw[e]⟩) hor'⟩
theorem VF{α:Type}:∀(l:List α) (i:Nat) (x:α),l[i]? =some x->l.set i x=l
 |[],_,_,h=>by simp at h
 |y::l,0,x,h=>by simp at h;simp[h]
 |y::l,i+1,x,h=>by simp at h;simp[VF l i x h]
theorem VC(cs:List Cell)(off:Nat):QX cs off []=cs:=by simp[QX]
theorem qJ(h:HR ι O w){t u:TypeId}{s x y:AV}{A':Q1}(ha:JO P O t s x=some (y,A'))(hu:(∃e',P.underlying u=some (.slice e'))\/P.underlying u=some .string){sv xv:Value}
  (hs:VR ι w s sv) (hx:VR ι w x xv) {ts:Array TypeId} (ht0:ts[0]? =some t) (ht1:ts[1]? =some u) (rest:TypeId):Z9 P ι O w (Builtin.append_ ts rest #[sv,xv]) y A':=by
 unfold JO at ha;split at ha
 ·rename_i i hi;split at ha
  ·rename_i e hk;have ht:=Qv hi hk;split at ha
   ·rename_i j hj;split at ha
    ·rename_i z m hz hm;split at ha
     ·rename_i hzs;obtain⟨hzs,hpos⟩:=hzs;split at ha
      ·rename_i new hnew;obtain⟨hnl,vs,hvs,hfirst⟩:=Y1 h (P:=P) hnew hx;have hlen:=λw2=>lenE_ok (P:=P) hm hx w2;split at ha
       ·
        rename_i cs len c;split at ha
        ·rename_i hc;obtain⟨rfl,hcs,hroom⟩:=hc;obtain⟨a,c',rfl,hcap,hlc⟩:=YL hs;have hcap:c'=c:=hcap;subst hcap;split at ha
         ·rename_i hm0;subst hm0;injection ha with ha;injection ha with e1 e2;subst e1;subst e2;have hv0:vs=[]:=(by have:=hvs.1;rw[hnl]at this;exact BH (by simpa using this));subst hv0;refine Z9.pure h (X4 ht0 ht1 ht hj hu rest (hlen w) (hfirst w rfl) (A9 _) (λb _=> ?_) (λ_=>rfl)) hs;simp[storeCells]
         ·rename_i hm0;injection ha with ha;injection ha with e1 e2;subst e1;subst e2;have hfo:Qt O j.size c' (.c (.t (.imm cs c' (some c'))))=some (cs.map .t):=(by simp only[Qt];rw[AB ⟨A9 _,hcs⟩,<-hcs,Bj]);obtain⟨hol,vo,hvo,hfold⟩:=Y1 h (P:=P) hfo hs;obtain⟨cap,more,hge,hms,hrun⟩:=ZM ht0 ht1 ht hj hz hzs hu rest (hlen w) hfirst hfold (by omega) hroom;obtain⟨I',h1,h2,h3⟩:=push_more (more:=more) h (JX.append hvo hvs) e j.size (w':={ w with drawn:=w.drawn+1,heap:=w.heap.push (.cells (vo.toArray++vs.toArray++more) e) }) rfl rfl rfl;have htot:cap*j.size=(vo.toArray++vs.toArray++more).size:=(by have e1:=hvo.1;have e2:=hvs.1;rw[CD,CD,e1,e2,hms,hol,hnl];have:c'*j.size+m*j.size=(c'+m)*j.size:=(As _ _ _).symm;rw[this,<-As];congr 1;omega);exact⟨I',_,_,hrun,sl_new (cap:=none) h3 hge trivial (Nat.le_of_eq htot) (λ_=>htot) _,h1,h2⟩
        ·cases ha
       ·
        rename_i r len;split at ha
        ·rename_i o ho;split at ha
         ·rename_i hc;obtain⟨hoff,hoes,hocs,hroom⟩:=hc;injection ha with ha;injection ha with e1 e2;subst e1;subst e2;obtain⟨a,c,rfl,hsome,hr⟩:=hs;obtain⟨sp,hsp,ho',hep,hor,hok⟩:=h.ref ho hr;obtain⟨hlc,_,hok⟩:=hok;have hes:sp.es=j.size:=(by rw[<-hor.1];exact hoes);have hspep:sp.ep=r.ep:=(by rw[<-hor.2.1];exact hep);by_cases hin:len+m<=c
          ·cases hl:sp.loc with
           |none=>
            rw[hl]at hok;have hm0:m=0:=(by omega);subst hm0;have hv0:vs=[]:=(by have:=hvs.1;rw[hnl]at this;exact BH (by simpa using this));have hn0:new=[]:=BH (by rw[hnl];simp);subst hv0;have hocs0:o.cs=[]:=(by have:=hor.2.2;rw[hl]at this;exact this);have hst:Step ι O w (ι.push r.id ⟨none,sp.es,sp.ep+1⟩) (O.set r.id { o with cs:=o.cs++new,ep:=o.ep+1 }) w:=
             Step.upd h hsp (by simp) (λe=>by simp at e) (A9 _) rfl rfl (λl' hl'=>by cases hl') (λ_ _ _=>rfl)
            have hH:=HR.upd h hsp hst (λ_ _ _=>rfl) (λl' hl'=>by cases hl') ⟨hor.1,by simp[hor.2.1],by simp[hocs0,hn0]⟩;refine⟨_,w,_,X4 ht0 ht1 ht hj hu rest (hlen w) (hfirst w rfl) hin (λb _=>by simp[storeCells]) (λ_=>rfl),⟨_,_,rfl,by left;omega,_,Map.QQ _ _ _,by simp[hspep],λ_=>⟨hin,trivial,?_⟩⟩,hst,hH⟩;exact⟨by omega,by omega,hoff⟩
           |some l=>
            rw[hl]at hok;obtain⟨rfl,hle,heq⟩:=hok;have heq:=heq rfl;rw[hoff,hes]at heq hle;simp only[Ac]at heq hle;have hmul:len*j.size+m*j.size<=c*j.size:=(by rw[<-As];exact Ae _ hin);obtain⟨w',h1,h2,h3⟩:=HR.writeG (o':={ o with cs:=o.cs++new,ep:=o.ep+1 }) h hsp hl ho' P (len*j.size) new vs hvs (by omega) ⟨some l,sp.es,sp.ep+1⟩ rfl hor.1 (by simp[hor.2.1]) (by simp) (λe=>by simp at e)
             (by simp only[Ab];omega) (λi hi=>by
              by_cases hlt:i<o.cs.length
              ·exact .inr ⟨.inl (by omega),hlt,by simp[Bv hlt]⟩
              ·have hi':i - len*j.size<new.length:=(by simp at hi;omega);refine .inl ⟨hi',by omega,?_⟩;simp only;rw[C6 (by omega)];congr 1;omega)
            refine⟨_,w',_,X4 ht0 ht1 ht hj hu rest (hlen w) (hfirst w rfl) hin (λb hb=> ?_) (λe=>by cases e),⟨_,_,rfl,.inr rfl,_,Map.QQ _ _ _,by simp[hspep],λ_=>⟨hin,trivial,?_⟩⟩,h2,h3⟩
            ·injection hb with hb;subst hb;rw[Zp,hoff];simpa using h1
            ·refine⟨rfl,?_,λ_=> ?_⟩
             ·simp only[hoff,hes];omega
             ·simp only[hoff,hes];omega
          ·have hfo:Qt O j.size len (.c (.sl r len none))=some o.cs:=(by simp only[Qt,ho];rw[AB ⟨by omega,A9 _⟩,hoff,An,<-hocs,Bj]);obtain⟨hol,vo,hvo,hfold⟩:=Y1 h (P:=P) hfo ⟨a,c,rfl,hsome,hr⟩;obtain⟨cap,more,hge,hms,hrun⟩:=ZM ht0 ht1 ht hj hz hzs hu rest (hlen w) hfirst hfold (by omega) hroom;have hca:=JX.append hvo hvs;generalize hw':({ w with drawn:=w.drawn+1,heap:=w.heap.push (.cells (vo.toArray++vs.toArray++more) e) }:World)=w' at hrun;have hheap:w'.heap=w.heap.push (.cells (vo.toArray++vs.toArray++more) e):=(by rw[<-hw']);have hfr:∀b,b<w.heap.size->w'.heap[b]? =w.heap[b]? :=λb hb=>(by rw[hheap];simp[Bz,Bm hb]);have htot:cap*j.size=(vo.toArray++vs.toArray++more).size:=(by have e1:=hvo.1;have e2:=hvs.1;rw[CD,CD,e1,e2,hms,hol,hnl];have:len*j.size+m*j.size=(len+m)*j.size:=(As _ _ _).symm;rw[this,<-As];congr 1;omega);have hst:Step ι O w (ι.push r.id ⟨some ⟨w.heap.size,0,(vo.toArray++vs.toArray++more).size⟩,sp.es,sp.ep+1⟩) (O.set r.id { o with cs:=o.cs++new,ep:=o.ep+1 }) w':=
            Step.upd h hsp (by simp) (λe=>by simp at e) (by rw[hheap];simp) (by rw[<-hw']) (by rw[<-hw']) (λl' hl'=>by injection hl' with hl';exact .inl (by rw[<-hl'];exact A9 _)) (λb hb _=>hfr b hb)
           have hnewb:w'.heap[w.heap.size]? =some (.cells (vo.toArray++vs.toArray++more) e):=(by rw[hheap];simp);have hH:=HR.upd h hsp hst (λb hb _=>hfr b hb) (λl' hl'=>by injection hl' with hl';exact .inl (by rw[<-hl'];exact A9 _)) ⟨hor.1,by simp[hor.2.1],⟨_,e,hnewb,by simp⟩,by
            have e1:=hca.1;simp only[CD]at e1⊢;simp only[Ab]at e1⊢;omega,λi hi=>by
            obtain⟨v,h8,h9⟩:=hca.2 i hi;refine⟨v,?_,h9.step hst⟩;simp only[World.cell?,hnewb,Ac];have:i<(vo.toArray++vs.toArray).size:=(by rw[hca.1];exact hi);simp only[Option.isSome_none,AP,Af];rw[C3 this];exact h8⟩
           refine⟨_,w',_,hrun,⟨_,_,rfl,.inr rfl,_,Map.QQ _ _ _,by simp[hspep],λ_=>⟨hge,trivial,?_⟩⟩,hst,hH⟩;refine⟨by simp[hoff],?_,λ_=> ?_⟩
           ·simp only[hoff,hes];omega
           ·simp only[hoff,hes];omega
         ·cases ha
        ·cases ha
       ·
        rename_i r len c;split at ha
        ·rename_i o ho;obtain⟨a,c',rfl,hsome,hr⟩:=hs;obtain⟨sp,hsp,ho',hep,hor,hok⟩:=h.ref ho hr;obtain⟨hlc,hcap,hok⟩:=hok;have hcap:c'=c:=hcap;subst hcap;split at ha
         ·rename_i hc;obtain⟨hoes,hin,hfit⟩:=hc;have hes:sp.es=j.size:=(by rw[<-hor.1];exact hoes);injection ha with ha;injection ha with e1 e2;subst e1;subst e2;have hmul:len*j.size+m*j.size<=c'*j.size:=by rw[<-As];exact Ae _ hin
          cases hl:sp.loc with
          |none=>rw[hl]at hok;have hm0:m=0:=(by omega);subst hm0;have hv0:vs=[]:=(by have:=hvs.1;rw[hnl]at this;exact BH (by simpa using this));have hn0:new=[]:=BH (by rw[hnl];simp);subst hv0;subst hn0;rw[VC];have:({ o with cs:=o.cs }:Obj)=o:=rfl;rw[this,VF _ _ _ ho'];exact Z9.pure h (X4 ht0 ht1 ht hj hu rest (hlen w) (hfirst w rfl) hin (λb _=>by simp[storeCells]) (λ_=>rfl)) ⟨_,_,rfl,by left;omega,sp,hsp,by rw[<-hor.2.1,hep];exact A9 _,λ_=>⟨hin,rfl,by rw[hl];exact⟨by omega,by omega,hok.2.2⟩⟩⟩
          |some l=>rw[hl]at hok;obtain⟨rfl,hle,heq⟩:=hok;obtain⟨w',h1,h2,h3⟩:=HR.write h hsp hl ho' P (r.off+len*j.size) new vs (by simpa using hvs.1) (λk hk=>by simpa using hvs.2 k hk) (by omega);refine⟨ι,w',_,X4 ht0 ht1 ht hj hu rest (hlen w) (hfirst w rfl) hin (λb hb=> ?_) (λe=>by cases e),⟨_,_,rfl,.inr rfl,sp,hsp,by rw[<-hor.2.1,hep];exact A9 _,λ_=>⟨hin,rfl,by rw[hl];exact⟨rfl,hle,λe=>by cases e⟩⟩⟩,h2,h3⟩;injection hb with hb;subst hb;rw[Zp,CE];simpa using h1
         ·split at ha
          ·rename_i hc;obtain⟨hoes,hgt,hle',hfit,hroom⟩:=hc;injection ha with ha;injection ha with e1 e2;subst e1;subst e2;have hmul:len*j.size<=c'*j.size:=Ae _ hle';have hfo:Qt O j.size len (.c (.sl r len (some c')))=some ((o.cs.drop r.off).take (len*j.size)):=(by simp only[Qt,ho];rw[AB ⟨by omega,A9 _⟩]);obtain⟨hol,vo,hvo,hfold⟩:=Y1 h (P:=P) hfo ⟨a,c',rfl,hsome,hr⟩;obtain⟨cap,more,hge,hms,hrun⟩:=ZM ht0 ht1 ht hj hz hzs hu rest (hlen w) hfirst hfold hgt hroom;obtain⟨I',h1,h2,h3⟩:=push_more (more:=more) h (JX.append hvo hvs) e j.size (w':={ w with drawn:=w.drawn+1,heap:=w.heap.push (.cells (vo.toArray++vs.toArray++more) e) }) rfl rfl rfl;have htot:cap*j.size=(vo.toArray++vs.toArray++more).size:=(by have e1:=hvo.1;have e2:=hvs.1;rw[CD,CD,e1,e2,hms,hol,hnl];have:len*j.size+m*j.size=(len+m)*j.size:=(As _ _ _).symm;rw[this,<-As];congr 1;omega);exact⟨I',_,_,hrun,sl_new (cap:=none) h3 hge trivial (Nat.le_of_eq htot) (λ_=>htot) _,h1,h2⟩
          ·cases ha
        ·cases ha
       ·cases ha
      ·cases ha
     ·cases ha
    ·cases ha
   ·cases ha
  ·cases ha
 ·cases ha
end
end Go.Abs
namespace Go.Abs
variable [Gl]
section
variable {P:Program}{ι:Map}{O:Q1}{w:World}
theorem VJ{t e:TypeId}{j:Qp}(ht:P.underlying t=some (.slice e))(hj:tinf P e=some j)(ts:Array TypeId)(hts:ts[0]? =some t)(rest:TypeId){a:Option Addr}{len c m:Nat}{x:Value}{new:Array Value}
  (hlen:(Builtin.lenOf x).run P w=.ok m w) (hfirst:(Builtin.firstCells j.size (min m len) x).run P w=.ok new w) {w':World}
  (hst:∀b,a=some b->(storeCells b new.toList).run P w=.ok () w') (hst':a=none->w'=w):
  (Builtin.copy_ ts rest #[.slice a len c,x]).run P w=.ok (.int .i64 ((min m len:Nat):Int)) w':=by
 have hmin:Nat.min m len=min m len:=rfl
 cases a with
 |none=>obtain rfl:=hst' rfl;simp only[Builtin.copy_,hts,C5,B8,B9,AO,AW ht,AR,Qg hj,BC,hlen,hmin,hfirst];rfl
 |some b=>simp only[Builtin.copy_,hts,C5,B8,B9,AO,AW ht,AR,Qg hj,BC,hlen,hmin,hfirst,hst b rfl];rfl
theorem copyE_ok(h:HR ι O w){t:TypeId}{d x y:AV}{A':Q1}(ha:Uj P O t d x=some (y,A'))(ts:Array TypeId)(hts:ts[0]? =some t){dv xv:Value}
  (hd:VR ι w d dv) (hx:VR ι w x xv) (rest:TypeId):Z9 P ι O w (Builtin.copy_ ts rest #[dv,xv]) y A':=by
 unfold Uj at ha;split at ha
 ·rename_i i hi;split at ha
  ·rename_i e hk;have ht:=Qv hi hk;split at ha
   ·rename_i j hj;split at ha
    ·rename_i r len cap m hm;split at ha
     ·rename_i o new ho hnew;split at ha
      ·rename_i hc;obtain⟨hoes,hfit⟩:=hc;injection ha with ha;injection ha with e1 e2;subst e1;subst e2;obtain⟨hnl,vs,hvs,hfirst⟩:=Y1 h (P:=P) hnew hx;obtain⟨a,c,rfl,hsome,hr⟩:=hd;obtain⟨sp,hsp,ho',hep,hor,hok⟩:=h.ref ho hr;obtain⟨hlc,hcap,hok⟩:=hok;have hlen:=lenE_ok (P:=P) hm hx w;have hmul:min m len*j.size<=len*j.size:=Ae _ (by omega)
       cases hl:sp.loc with
       |none=>rw[hl]at hok;have hl0:len=0:=hok.1;subst hl0;have hn0:new=[]:=BH (by rw[hnl];simp);have hv0:vs=[]:=(by have:=hvs.1;rw[hn0]at this;exact BH (by simpa using this));subst hn0;subst hv0;rw[VC];have:({ o with cs:=o.cs }:Obj)=o:=rfl;rw[this,VF _ _ _ ho'];exact Z9.pure h (VJ ht hj ts hts rest hlen (hfirst w rfl) (λb _=>by simp[storeCells]) (λ_=>rfl)) (TR.int _ _)
       |some l=>rw[hl]at hok;obtain⟨rfl,hle,heq⟩:=hok;obtain⟨w',h1,h2,h3⟩:=HR.write h hsp hl ho' P r.off new vs (by simpa using hvs.1) (λk hk=>by simpa using hvs.2 k hk) (by omega);refine⟨ι,w',_,VJ ht hj ts hts rest hlen (hfirst w rfl) (λb hb=> ?_) (λe=>by cases e),TR.int _ _,h2,h3⟩;injection hb with hb;subst hb;simpa using h1
      ·cases ha
     ·cases ha
    ·rename_i m hm;injection ha with ha;injection ha with e1 e2;subst e1;subst e2;obtain⟨a,c,rfl,_,_⟩:=YL hd;have hlen:=lenE_ok (P:=P) hm hx w;rename_i cs cap;have hf0:(Builtin.firstCells j.size (min m 0) xv).run P w=.ok #[] w:=by
      rw[Nat.min_zero];unfold lenE at hm;split at hm
      ·obtain⟨a',c',rfl,_⟩:=hx;cases a'<;>simp[Builtin.firstCells,loadCells,loadCellsFrom]
      ·obtain⟨a',c',rfl,_⟩:=YL hx;cases a'<;>simp[Builtin.firstCells,loadCells,loadCellsFrom]
      ·obtain rfl:=ZH hx;simp only[Builtin.firstCells,qB];rfl
      ·cases hm
     have:=VJ (a:=a) (c:=c) ht hj ts hts rest hlen hf0 (w':=w) (λb _=>by simp[storeCells]) (λ_=>rfl);exact Z9.pure h this (by rw[Nat.min_zero];exact TR.int _ _)
    ·cases ha
   ·cases ha
  ·cases ha
 ·cases ha
theorem Wi{N:Nat}{r:Q0}{a:Act}(hr:Qn N ι w r a){xs:List Operand}{vs:List AV}(h:evl r xs=some vs):∃us:List Value,xs.map a.eval=us/\us.length=vs.length/\∀i (hi:i<vs.length),∃u,us[i]? =some u/\VR ι w vs[i] u:=by obtain⟨h1,h2⟩:=evl_ok hr h;refine⟨_,rfl,by simp[h1],λi hi=> ?_⟩;obtain⟨x,h3,h4⟩:=h2 i hi;exact⟨_,by simp[h3],h4⟩
theorem vals1{vs:AV}{us:List Value}(h:us.length=[vs].length/\∀i (hi:i<[vs].length),∃u,us[i]? =some u/\VR ι w [vs][i] u):∃u,us=[u]/\VR ι w vs u:=by
 obtain⟨h1,h2⟩:=h
 match us,h1 with
 |[u],_=>obtain⟨u',h3,h4⟩:=h2 0 (by simp);simp at h3;subst h3;exact⟨_,rfl,h4⟩
theorem vals2{x y:AV}{us:List Value}(h:us.length=[x,y].length/\∀i (hi:i<[x,y].length),∃u,us[i]? =some u/\VR ι w [x,y][i] u):∃u v,us=[u,v]/\VR ι w x u/\VR ι w y v:=by
 obtain⟨h1,h2⟩:=h
 match us,h1 with
 |[u,v],_=>obtain⟨u',h3,h4⟩:=h2 0 (by simp);obtain⟨v',h5,h6⟩:=h2 1 (by simp);simp at h3 h5;subst h3;subst h5;exact⟨_,_,rfl,h4,h6⟩
theorem builtinE_ok(h:HR ι O w){b:Builtin}{ts:Array TypeId}{args:List AV}{y:AV}{A':Q1}(hb:Qc P O b ts args=some (y,A')){us:List Value}
  (hu:us.length=args.length/\∀i (hi:i<args.length),∃u,us[i]? =some u/\VR ι w args[i] u) (rest:TypeId) (consts:Array Bool):
  ∃s:Sem Value,builtin b ts rest consts us.toArray=(do pure (.value (<-s)))/\Z9 P ι O w s y A':=by
 unfold Qc at hb;split at hb
 ·rename_i x;obtain⟨u,rfl,hx⟩:=vals1 hu;refine⟨Builtin.len_ ts rest #[u],rfl,?_⟩;split at hb
  ·rename_i t ht;split at hb
   ·rename_i i hi;split at hb
    ·rename_i e r n cap hk;injection hb with hb;injection hb with e1 e2;subst e1;subst e2;obtain⟨a,c,rfl,_⟩:=hx;exact Z9.pure h (by simp[Builtin.len_,ht,AW (Qv hi hk)];rfl) (TR.int _ _)
    ·rename_i e cs n cap hk;injection hb with hb;injection hb with e1 e2;subst e1;subst e2;obtain⟨a,c,rfl,_⟩:=YL hx;exact Z9.pure h (by simp[Builtin.len_,ht,AW (Qv hi hk)];rfl) (TR.int _ _)
    ·rename_i s hk;injection hb with hb;injection hb with e1 e2;subst e1;subst e2;obtain rfl:=ZH hx;exact Z9.pure h (by simp[Builtin.len_,ht,AW (XN hi hk)];rfl) (TR.int _ _)
    ·rename_i n e hk;injection hb with hb;injection hb with e1 e2;subst e1;subst e2;exact Z9.pure h (by simp[Builtin.len_,ht,AW (YG hi hk)];rfl) (TR.int _ _)
    ·cases hb
   ·cases hb
  ·cases hb
 ·rename_i x;obtain⟨u,rfl,hx⟩:=vals1 hu;refine⟨Builtin.cap_ ts rest #[u],rfl,?_⟩;split at hb
  ·rename_i t ht;split at hb
   ·rename_i i hi;split at hb
    ·rename_i e hk;split at hb
     ·rename_i r len c0;split at hb
      ·rename_i o ho;injection hb with hb;injection hb with e1 e2;subst e1;subst e2;obtain⟨a,c',rfl,hsome,hr⟩:=hx;obtain⟨sp,hsp,ho',hep,hor,hok⟩:=h.ref ho hr;have hcap:c'=c0:=hok.2.1;subst hcap;exact Z9.pure h (by simp[Builtin.cap_,ht,AW (Qv hi hk)];rfl) (TR.int _ _)
      ·cases hb
     ·rename_i cs len c0;injection hb with hb;injection hb with e1 e2;subst e1;subst e2;obtain⟨a,c',rfl,hcap,_⟩:=YL hx;simp only[Ys]at hcap;subst hcap;exact Z9.pure h (by simp[Builtin.cap_,ht,AW (Qv hi hk)];rfl) (TR.int _ _)
     ·cases hb
    ·cases hb
   ·cases hb
  ·cases hb
 ·rename_i s x;obtain⟨u,v,rfl,hs,hx⟩:=vals2 hu;refine⟨Builtin.append_ ts rest #[u,v],rfl,?_⟩;split at hb
  ·rename_i t u' ht hu';split at hb
   ·rename_i i hi;split at hb
    ·rename_i e hk;exact qJ h hb (.inl ⟨e,Qv hi hk⟩) hs hx ht hu' rest
    ·rename_i hk;exact qJ h hb (.inr (XN hi hk)) hs hx ht hu' rest
    ·cases hb
   ·cases hb
  ·cases hb
 ·rename_i d s;obtain⟨u,v,rfl,hd,hs⟩:=vals2 hu;refine⟨Builtin.copy_ ts rest #[u,v],rfl,?_⟩;split at hb
  ·rename_i t ht;exact copyE_ok h hb ts ht hd hs rest
  ·cases hb
 ·refine⟨Builtin.min_ ts rest us.toArray,rfl,?_⟩;simp only[A2,A4]at hb;obtain⟨x,hm,rfl,rfl⟩:=hb;unfold ZZ at hm;split at hm
  ·obtain⟨u,v,rfl,h1,h2⟩:=vals2 hu;obtain rfl:=Z0 h1;obtain rfl:=Z0 h2;split at hm
   ·rename_i hk;subst hk;injection hm with hm;subst hm;simp only[AP,Af];exact Z9.pure h (by simp[Builtin.min_,Builtin.min2]) (TR.int _ _)
   ·cases hm
  ·cases hm
 ·refine⟨Builtin.max_ ts rest us.toArray,rfl,?_⟩;simp only[A2,A4]at hb;obtain⟨x,hm,rfl,rfl⟩:=hb;unfold ZZ at hm;split at hm
  ·obtain⟨u,v,rfl,h1,h2⟩:=vals2 hu;obtain rfl:=Z0 h1;obtain rfl:=Z0 h2;split at hm
   ·rename_i hk;subst hk;injection hm with hm;subst hm;simp only[Ai];exact Z9.pure h (by simp[Builtin.max_,Builtin.max2]) (TR.int _ _)
   ·cases hm
  ·cases hm
 ·cases hb
end
end Go.Abs
namespace Go.Abs
variable [Gl]
section
variable {P:Program}{ι:Map}{O:Q1}{w:World}
theorem tsOfAV_ok:∀{vs:List AV} {ts:List T},Kb vs=some ts->ts.length=vs.length/\∀i (h:i<ts.length),∃hq,vs[i]'hq=.c (.t ts[i])
 |[],ts,h=>by simp only[Kb,A0]at h;subst h;exact⟨rfl,λi hi=>absurd hi (by simp)⟩
 |v::vs,ts,h=>by
  unfold Kb at h;split at h
  ·rename_i heq;cases heq
  ·rename_i x rest heq;injection heq with e1 e2;subst e1;subst e2;simp only[A2]at h;obtain⟨ts',h1,rfl⟩:=h;obtain⟨h2,h3⟩:=tsOfAV_ok h1;refine⟨by simp[h2],λi hi=> ?_⟩
   cases i with
   |zero=>exact⟨by simp,rfl⟩
   |succ i=>obtain⟨h',h4⟩:=h3 i (by simpa using hi);exact⟨by simpa using h',by simpa using h4⟩
  ·cases h
theorem refsOf_ok:∀{vs:List AV} {ts:List Ref},refsOf vs=some ts->ts.length=vs.length/\∀i (h:i<ts.length),∃hq,vs[i]'hq=.c (.ptr ts[i])
 |[],ts,h=>by simp only[refsOf,A0]at h;subst h;exact⟨rfl,λi hi=>absurd hi (by simp)⟩
 |v::vs,ts,h=>by
  unfold refsOf at h;split at h
  ·rename_i heq;cases heq
  ·rename_i x rest heq;injection heq with e1 e2;subst e1;subst e2;simp only[A2]at h;obtain⟨ts',h1,rfl⟩:=h;obtain⟨h2,h3⟩:=refsOf_ok h1;refine⟨by simp[h2],λi hi=> ?_⟩
   cases i with
   |zero=>exact⟨by simp,rfl⟩
   |succ i=>obtain⟨h',h4⟩:=h3 i (by simpa using hi);exact⟨by simpa using h',by simpa using h4⟩
  ·cases h
theorem makeFuncE_ok{f:FuncId}{caps:List AV}{y:AV}(h:ZD f caps=some y){us:List Value}
  (hu:us.length=caps.length/\∀i (hi:i<caps.length),∃u,us[i]? =some u/\VR ι w caps[i] u):VR ι w y (.func (.func f) #[] us.toArray):=by
 unfold ZD at h;split at h
 ·rename_i ts hts;injection h with h;subst h;obtain⟨h1,h2⟩:=tsOfAV_ok hts;refine TR.fn f ts us.toArray (by simp[hu.1,h1]) (λi hi=> ?_);obtain⟨h',e⟩:=h2 i hi;obtain⟨u,h3,h4⟩:=hu.2 i h';rw[e]at h4;have:us.toArray.getD i undef=u:=(by simp[h3]);rw[this];exact h4
 ·split at h
  ·rename_i rs hrs;split at h
   ·cases h
   rename_i hy;injection h with h;subst h;obtain⟨h1,h2⟩:=refsOf_ok hrs;refine cloR.mk (λe=>by subst e;simp at hy) ⟨us.toArray,rfl,by simp[hu.1,h1],λi hi=> ?_⟩;obtain⟨h',e⟩:=h2 i hi;obtain⟨u,h3,h4⟩:=hu.2 i h';rw[e]at h4;obtain⟨ad,rfl,h5⟩:=h4;exact⟨ad,by simp[h3],h5⟩
  ·cases h
def Did(P:Program)(ι:Map)(O:Q1)(w:World)(s:Sem Next)(res:Option AV)(A':Q1):Prop:=
 ∃I' w' nx,s.run P w=.ok nx w'/\(match res with|some x=>∃v,nx=.value v/\VR I' w' x v|none=>nx=.skip)/\Step ι O w I' A' w'/\HR I' A' w'
theorem Z9.did{s:Sem Value}{x:AV}{A':Q1}(h:Z9 P ι O w s x A'){s2:Sem Next}(e:∀v w',s.run P w=Result.ok v w'->s2.run P w=Result.ok (Next.value v) w'):Did P ι O w s2 (some x) A':=by obtain⟨I',w',v,h1,h2,h3,h4⟩:=h;exact⟨I',w',_,e v w' h1,⟨v,rfl,h2⟩,h3,h4⟩
theorem Qq(h:HR ι O w){s:Sem Next}{x:AV}{v:Value}(hr:s.run P w=Result.ok (Next.value v) w)(hv:VR ι w x v):Did P ι O w s (some x) O:=
 ⟨ι,w,_,hr,⟨v,rfl,hv⟩,Step.refl ι O w,h⟩
theorem fn_of{f:FuncId}{cs:List T}{v:Value}(h:VR ι w (.c (.t (.fn f cs))) v):∃arr,v=.func (.func f) #[] arr:=by cases h;exact⟨_,rfl⟩
theorem opE_ok{N:Nat}{r:Q0}{a:Act}(h:HR ι O w)(hr:Qn N ι w r a){o:Oper}{res:Option AV}{A':Q1}(ho:opE P r O o.op=some (res,A')):
  Did P ι O w (execOp a.eval o) res A':=by
 obtain⟨dst,op,type,pos,after,guard⟩:=o;simp only at ho;unfold opE at ho;split at ho
 ·
  rename_i x;simp only[A2,A4]at ho;obtain⟨v,h1,rfl,rfl⟩:=ho;exact Qq h rfl (J8 hr h1)
 ·
  rename_i x;simp only[A2,A4]at ho;obtain⟨v,h1,rfl,rfl⟩:=ho;exact Qq h rfl (J8 hr h1)
 ·
  rename_i c x y;split at ho
  ·rename_i t hc;simp only[A2,A4]at ho;obtain⟨v,h1,rfl,rfl⟩:=ho;have hb:=Zh (J8 hr hc);have hv:=J8 hr h1;refine Qq h (v:=a.eval (if t then x else y)) ?_ hv;simp only[execOp,AO,hb,asBool,BC,AR];cases t<;>rfl
  ·cases ho
 ·
  rename_i e;split at ho
  ·rename_i i hi;split at ho
   ·rename_i z hz;injection ho with ho;injection ho with e1 e2;subst e1;subst e2;exact(alloc_ok h hi hz).did (λv' w' hv'=>by simp only[execOp];rw[AO,hv'];rfl)
   ·cases ho
  ·cases ho
 ·
  rename_i t x;split at ho
  ·rename_i v hv;split at ho
   ·rename_i hf;injection ho with ho;injection ho with e1 e2;subst e1;subst e2;exact(box_ok h hf (J8 hr hv) t).did (λv' w' hv'=>by simp only[execOp];rw[AO,hv'];rfl)
   ·cases ho
  ·cases ho
 ·
  rename_i t ps;split at ho
  ·rename_i vs hvs;simp only[A2,A4]at ho;obtain⟨v,h1,rfl,rfl⟩:=ho;have hps:=evs_ok hr hvs;obtain⟨z,h2,h3⟩:=buildE_ok (w:=w) h1 (vs:=ps.map λ(i,x)=>(i,a.eval x)) (by simpa using hps);exact Qq h (by simp only[execOp];rw[AO,h2];rfl) h3
  ·cases ho
 ·
  rename_i t n ps;split at ho
  ·rename_i vs hvs;simp only[A2,A4]at ho;obtain⟨⟨v,A1⟩,h1,rfl,rfl⟩:=ho;have hps:=evs_ok hr hvs;exact(qD h h1 (vs:=ps.map λ(i,x)=>(i,a.eval x)) (by simpa using hps)).did (λv' w' hv'=>by simp only[execOp];rw[AO,hv'];rfl)
  ·cases ho
 ·
  rename_i t x;split at ho
  ·rename_i i v hi hv;simp only[A2,A4]at ho;obtain⟨u,h1,rfl,rfl⟩:=ho;obtain⟨z,h2,h3⟩:=loadE_ok (P:=P) hi h (J8 hr hv) h1;exact Qq h (by simp only[execOp];rw[AO,h2];rfl) h3
  ·cases ho
 ·
  rename_i t x y;split at ho
  ·rename_i i v u hi hv hu;simp only[A2,A4]at ho;obtain⟨A1,h1,rfl,rfl⟩:=ho;obtain⟨I',w',h2,h3,h4⟩:=storeE_ok (P:=P) h hi (J8 hr hv) (J8 hr hu) h1;exact⟨I',w',_,by simp[execOp,h2],rfl,h3,h4⟩
  ·cases ho
 ·
  rename_i x;split at ho
  ·rename_i p hx;injection ho with ho;injection ho with e1 e2;subst e1;subst e2;have hv:=J8 hr hx;have hv':=hv;obtain⟨ad,e,_⟩:=hv;exact Qq h (v:=a.eval x) (by simp only[execOp,e];rfl) hv'
  ·rename_i cs hx;injection ho with ho;injection ho with e1 e2;subst e1;subst e2;have hv:=J8 hr hx;obtain⟨b,off,e,_⟩:=WZ hv;exact Qq h (v:=a.eval x) (by simp only[execOp,e];rfl) hv
  ·rename_i f cs hx;injection ho with ho;injection ho with e1 e2;subst e1;subst e2;have hv:=J8 hr hx;obtain⟨arr,e⟩:=fn_of hv;exact Qq h (v:=a.eval x) (by simp only[execOp,e];rfl) hv
  ·rename_i f cs hx;injection ho with ho;injection ho with e1 e2;subst e1;subst e2;have hv:=J8 hr hx;have hv':=hv;rcases cloR.func hv with ⟨g,arr,e⟩|⟨l,e⟩<;>exact Qq h (v:=a.eval x) (by simp only[execOp,e];rfl) hv'
  ·cases ho
 ·
  rename_i op xT x y yT;split at ho
  ·rename_i u v hu hv;simp only[A2,A4]at ho;obtain⟨t,h1,rfl,rfl⟩:=ho;obtain⟨z,h2,h3⟩:=binE_ok h1 (J8 hr hu) (J8 hr hv) x y;exact Qq h (by simp only[execOp];rw[AO,h2];rfl) h3
  ·cases ho
 ·
  rename_i op xT x;split at ho
  ·rename_i u hu;simp only[A2,A4]at ho;obtain⟨t,h1,rfl,rfl⟩:=ho;obtain⟨z,h2,h3⟩:=unE_ok (P:=P) h1 (J8 hr hu);exact Qq h (by simp only[execOp];rw[AO,h2];rfl) h3
  ·cases ho
 ·
  rename_i src d x;split at ho
  ·rename_i u hu;simp only[A2,A4]at ho;obtain⟨t,h1,rfl,rfl⟩:=ho;obtain⟨z,h2,h3⟩:=convE_ok h1 (J8 hr hu);exact Qq h (by simp only[execOp];rw[AO,h2];rfl) h3
  ·cases ho
 ·
  rename_i f first caps
  split at ho
  ·rename_i hf;split at ho
   ·rename_i vs hvs;simp only[A2,A4]at ho;obtain⟨y,h1,rfl,rfl⟩:=ho;obtain⟨us,hus,h2⟩:=Wi hr hvs;have hfirst:first= #[]:=Array.eq_empty_of_size_eq_zero hf
    subst hfirst;refine Qq h ?_ (makeFuncE_ok h1 h2);simp only[execOp,Instr.makeFunc,AO,BC,AR];congr 3
    ·simp
    ·apply Array.ext';simpa using hus
   ·cases ho
  ·cases ho
 ·
  rename_i t l c;split at ho
  ·rename_i u v hu hv;simp only[A2,A4]at ho;obtain⟨⟨y,A1⟩,h1,rfl,rfl⟩:=ho;exact(makeSliceE_ok h h1 (J8 hr hu) (J8 hr hv)).did (λv' w' hv'=>by simp only[execOp];rw[AO,hv'];rfl)
  ·cases ho
 ·
  rename_i t x lo hi mx;split at ho
  ·rename_i v l hh m hv hl hhi hm;simp only[A2,A4]at ho;obtain⟨y,h1,rfl,rfl⟩:=ho;obtain⟨z,h2,h3⟩:=sliceE_ok h h1 (J8 hr hv) (evo_ok hr hl) (evo_ok hr hhi) (evo_ok hr hm);exact Qq h (by simp only[execOp];rw[AO,h2];rfl) h3
  ·cases ho
 ·
  rename_i t x f;split at ho
  ·rename_i v hv;simp only[A2,A4]at ho;obtain⟨y,h1,rfl,rfl⟩:=ho;obtain⟨z,h2,h3⟩:=fieldAddrE_ok h1 (J8 hr hv);exact Qq h (by simp only[execOp];rw[AO,h2];rfl) h3
  ·cases ho
 ·
  rename_i t x f;split at ho
  ·rename_i v hv;simp only[A2,A4]at ho;obtain⟨y,h1,rfl,rfl⟩:=ho;obtain⟨z,h2,h3⟩:=fieldE_ok h1 (J8 hr hv);exact Qq h (by simp only[execOp];rw[AO,h2];rfl) h3
  ·cases ho
 ·
  rename_i t x i;split at ho
  ·rename_i v n hv hn;simp only[A2,A4]at ho;obtain⟨y,h1,rfl,rfl⟩:=ho;obtain⟨z,h2,h3⟩:=indexAddrE_ok h h1 (J8 hr hv) (J8 hr hn);exact Qq h (by simp only[execOp];rw[AO,h2];rfl) h3
  ·cases ho
 ·
  rename_i t x i;split at ho
  ·rename_i v n hv hn;simp only[A2,A4]at ho;obtain⟨y,h1,rfl,rfl⟩:=ho;obtain⟨z,h2,h3⟩:=indexE_ok h1 (J8 hr hv) (J8 hr hn);exact Qq h (by simp only[execOp];rw[AO,h2];rfl) h3
  ·cases ho
 ·
  rename_i x i;split at ho
  ·rename_i v hv;simp only[A2,A4]at ho;obtain⟨y,h1,rfl,rfl⟩:=ho;obtain⟨z,h2,h3⟩:=extractE_ok (P:=P) h1 (J8 hr hv);exact Qq h (by simp only[execOp];rw[AO,h2];rfl) h3
  ·cases ho
 ·
  rename_i b args ts;split at ho
  ·rename_i vs hvs;simp only[A2,A4]at ho;obtain⟨⟨y,A1⟩,h1,rfl,rfl⟩:=ho;obtain⟨us,hus,h2⟩:=Wi hr hvs;have hargs:args.map a.eval=us.toArray:=(by apply Array.ext';simpa using hus);obtain⟨s,h3,h4⟩:=builtinE_ok h h1 h2 type (args.map fun|.const _=>true|_=>false);have:execOp a.eval { dst:=dst,op:=.call { callee:=.builtin b,args:=args,argTypes:=ts },type:=type,pos:=pos,after:=after,guard:=guard }=(s>>=λv=>Pure.pure (Next.value v)):=(by have h3':builtin b ts type (args.map fun|.const _=>true|_=>false) us.toArray=(s>>=λv=>Pure.pure (Next.value v)):=h3;rw[<-h3'];simp only[execOp,resolve,hargs];rfl);rw[this];exact h4.did (λv' w' hv'=>by rw[AO,hv'];rfl)
  ·cases ho
 ·cases ho
end
end Go.Abs
namespace Go.Abs
variable [Gl]
def wr(ro:Option Nat):Fence:={ Fence.wide with round:=ro }
def Jq (P : Program) (f : FuncId) : Prop := ∃ fn,P.funcs[f]? = some fn /\ (fn.name == "runtime.NumGoroutine") = false /\ fn.body.isNone = false
def Ji(ι:Map)(w:World)(args:List AV)(cargs:Array Value):Prop:=cargs.size=args.length/\∀i (hi:i<args.length),∃u,cargs[i]? =some u/\VR ι w args[i] u
def Qo(P:Program)(f:FuncId)(args:List AV)(O:Q1)(Q:AV->Q1->Prop):Prop:=
 Jq P f/\∀ι w cargs,GlOk ι w->HR ι O w->Ji ι w args cargs->CallsIn Fence.wide 0 P f cargs w λe w'=>
  ∃v A' I' cv,e=.returned cv/\Q v A'/\VR I' w' v cv/\HR I' A' w'/\Step ι O w I' A' w'
def Marks(n:Nat)(w:World)(ms:List Deferred):Prop:=
 (∀d∈ms,∃b,d.target=.collected b/\n<=b/\w.heap[b]? =some (.deferred (some [])))/\ms.Pairwise λd d'=>d.target≠d'.target
theorem Marks.nil(n:Nat)(w:World):Marks n w []:=⟨λ_ h=>(by cases h),.nil⟩
theorem un_mark{ι:Map}{O:Q1}{w:World}(h:HR ι O w){b:Nat}{ds:Option (List Deferred)}(hb:w.heap[b]? =some (.deferred ds)):ι.un b:=by
 rintro(⟨id,s,l,h3,h4,rfl⟩|hr)
 ·obtain⟨o,_,_,_,h5⟩:=h.obj id s h3;rw[h4]at h5;obtain⟨⟨cells,elem,h6,_⟩,_⟩:=h5;rw[h6]at hb;cases hb
 ·obtain⟨c,e,fr,h1⟩:=h.resRow b hr;rw[h1]at hb;cases hb
theorem Marks.step{n:Nat}{ι I':Map}{O A':Q1}{w w':World}{ms:List Deferred}(h:HR ι O w)(hs:Step ι O w I' A' w')(hm:Marks n w ms):Marks n w' ms:=by refine⟨λd hd=> ?_,hm.2⟩;obtain⟨b,h1,h0,h2⟩:=hm.1 d hd;refine⟨b,h1,h0,?_⟩;rw[hs.frame b (WF.1 h2).1 (un_mark h h2)];exact h2
theorem Marks.append{n n':Nat}{w:World}{ms ms':List Deferred}(h:Marks n w ms)(h':Marks n' w ms')(hn:n<=n')(hlt:∀d∈ms,∀b,d.target=.collected b->b<n'):Marks n w (ms'++ms):=by
 refine⟨λd hd=> ?_,List.pairwise_append.2 ⟨h'.2,h.2,λd hd d' hd' e=> ?_⟩⟩
 ·rcases Ap.1 hd with hd|hd
  ·obtain⟨b,h1,h0,h2⟩:=h'.1 d hd;exact⟨b,h1,Ao hn h0,h2⟩
  ·exact h.1 d hd
 ·obtain⟨b,h1,h0,h2⟩:=h'.1 d hd;have:=hlt d' hd' b (e▸h1);omega
theorem Marks.lt{n:Nat}{w:World}{ms:List Deferred}(h:Marks n w ms):∀d∈ms,∀b,d.target=.collected b->b<w.heap.size:=λd hd b hb=>by obtain⟨b',h1,h0,h2⟩:=h.1 d hd;rw[hb]at h1;injection h1 with h1;subst h1;exact(WF.1 h2).1
def post(N:Nat)(Q:Exit->Q0->Q1->Prop)(ι:Map)(O:Q1)(w:World)(a:Act):Exit->Act->World->Prop:=λe a' w'=>
 (match e with|.panic _|.outgrown=>False|_=>True)/\∃r' A' I' ms,Q e r' A'/\HR I' A' w'/\Qn N I' w' r' a'/\Step ι O w I' A' w'/\a'.defers=ms++a.defers/\Marks w.heap.size w' ms
def Yx(P:Program)(N:Nat)(ro:Option Nat)(c:Code)(r:Q0)(O:Q1)(Q:Exit->Q0->Q1->Prop):Prop:=∀ι w a,HR ι O w->Qn N ι w r a->c.wpIn (wr ro) 0 P (post N Q ι O w a) a w
section
variable {P:Program}{N:Nat}{ro:Option Nat}
theorem post.trans{Q:Exit->Q0->Q1->Prop}{ι i₁:Map}{O s₁:Q1}{w w₁:World}{a a₁:Act}{ms:List Deferred}(h:HR i₁ s₁ w₁)(hs:Step ι O w i₁ s₁ w₁)(hd:a₁.defers=ms++a.defers)(hm:Marks w.heap.size w₁ ms){e:Exit}{a':Act}{w':World}
  (hp:post N Q i₁ s₁ w₁ a₁ e a' w'):post N Q ι O w a e a' w':=by
 obtain⟨h0,r',A',I',ms',h1,h2,h3,h4,h5,h6⟩:=hp;exact⟨h0,r',A',I',ms'++ms,h1,h2,h3,hs.trans h4,by rw[h5,hd,Aw],Marks.append (hm.step h h4) h6 hs.size hm.lt⟩
theorem Yx.mono{c:Code}{r:Q0}{O:Q1}{Q Q':Exit->Q0->Q1->Prop}(h:Yx P N ro c r O Q)(hq:∀e r O,Q e r O->Q' e r O):Yx P N ro c r O Q':=
 fun ι w a hh hr=>C7 (h ι w a hh hr) λ_ _ _ ⟨h0,r',A',I',ms,h1,h2⟩=>⟨h0,r',A',I',ms,hq _ _ _ h1,h2⟩
theorem XL{P:Program}{b:Frame}{a:Act}{k:List Item}{cs:List Frame}{w:World}{c:Code}:step P (lone (b.atR a (.code (.scope c)::k)) cs w)=.next (lone (b.atR a (.code c::.inScope c::k)) cs w):=
 step_lone_go (by simp[stepG,stepG.exec,Frame.atR])
theorem stepR_inScope{P:Program}{b:Frame}{a:Act}{k:List Item}{cs:List Frame}{w:World}{c:Code}:step P (lone (b.atR a (.inScope c::k)) cs w)=.next (lone (b.atR a k) cs w):=
 step_lone_go (by simp[stepG,stepG.exec,Frame.atR])
theorem wpIn_scope{F:Fence}{n:Nat}{P:Program}{c:Code}{Q:Exit->Act->World->Prop}{a:Act}{w:World}(h:c.wpIn F n P (λe a w=>match e with|.goto _=>False|e=>Q e a w) a w):(Code.scope c).wpIn F n P Q a w:=by
 intro b k cs hro hb hr;have h0:(lone (b.atR a (.code (.scope c)::k)) cs w).fenced P F:=fenced_calm hb hr rfl;obtain⟨e,a₁,w₁,hq,harr⟩:=h b (.inScope c::k) cs hro hb hr
 cases e with
 |normal=>exact⟨.normal,a₁,w₁,hq,.head h0 XL (StepsIn.trans harr (.one (fenced_calm hb hr rfl) stepR_inScope))⟩
 |exit id'=>
  have hx:exitTo id' (.inScope c::k)=exitTo id' k:=(by simp[exitTo]);exact⟨.exit id',a₁,w₁,hq,λk' hk=>.head h0 XL (harr.1 k' (by rw[hx];exact hk)),
   λhr' hk=>let ⟨k₁,h1,h2⟩:=harr.2 hr' (by rw[hx];exact hk);⟨k₁,h1,.head h0 XL h2⟩⟩
 |goto l=>exact hq.elim
 |ret=>exact⟨_,a₁,w₁,hq,.of_steps (.one h0 XL) harr⟩
 |panic ch=>exact⟨_,a₁,w₁,hq,.of_steps (.one h0 XL) harr⟩
 |outgrown=>exact⟨_,a₁,w₁,hq,.of_steps (.one h0 XL) harr⟩
theorem wpIn_loop'{F:Fence}{n:Nat}{c:Code}{Q:Exit->Act->World->Prop}{a:Act}{w:World}(I:Nat->Act->World->Prop){j:Nat}(h₀:I j a w)
  (round:∀j a w,I j a w->c.wpIn F n P (Exit.then (λa' w'=>∃m,m<j/\I m a' w') Q) a w):(Code.loop c).wpIn F n P Q a w:=by
 intro b k cs hro hb hr;have key:∀j a w,I j a w->
   ∃e a' w',Q e a' w'/\ArrivesIn (Machine.fenced P F) P (lone (b.atR a (.code c::.inLoop c::k)) cs w) b k cs e a' w':=by
  intro j
  induction j using Nat.strongRecOn with
  |_ j ih=>
   intro a w hI;obtain⟨e,a₁,w₁,hq,harr⟩:=round j a w hI b (.inLoop c::k) cs hro hb hr
   cases e with
   |normal=>obtain⟨m,hlt,hI₁⟩:=hq;obtain⟨e₂,a₂,w₂,hq₂,harr₂⟩:=ih m hlt a₁ w₁ hI₁;exact⟨e₂,a₂,w₂,hq₂,.of_steps (StepsIn.trans harr (.one (fenced_calm hb hr rfl) stepR_inLoop)) harr₂⟩
   |exit id=>exact⟨_,a₁,w₁,hq,.pass (x:=.inLoop c) rfl (λ_ _=>.inl (by simp)) harr⟩
   |goto l=>exact⟨_,a₁,w₁,hq,.pass (x:=.inLoop c) rfl (λ_ _=>.inl (by simp)) harr⟩
   |ret=>exact⟨_,a₁,w₁,hq,.pass (x:=.inLoop c) rfl (λ_ _=>.inl (by simp)) harr⟩
   |panic ch=>exact⟨_,a₁,w₁,hq,.pass (x:=.inLoop c) rfl (λ_ _=>.inl (by simp)) harr⟩
   |outgrown=>exact⟨_,a₁,w₁,hq,.pass (x:=.inLoop c) rfl (λ_ _=>.inl (by simp)) harr⟩
 obtain⟨e,a',w',hq,harr⟩:=key j a w h₀;exact⟨e,a',w',hq,.of_steps (.one (fenced_calm hb hr rfl) stepR_loop) harr⟩
def Y9(N:Nat)(r:Q0)(O:Q1)(r':Q0)(A':Q1):Prop:=
 ∀ι w a,HR ι O w->Qn N ι w r a->∃I',HR I' A' w/\Qn N I' w r' a/\Step ι O w I' A' w
def ZW(v:AV):Option (FuncId×List AV):=match v with
 |.c (.t (.fn f caps))=>some (f,caps.map λt=>.c (.t t))
 |.c (.clo f rs)=>if f=YID then none else some (f,rs.map λr=>.c (.ptr r))
 |_=>none
def Kp(v:AV)(want:Bool):Option Bool:=match v with
 |.c (.t (.bool b))=>some (b==want)
 |.tup xs=>if xs.isEmpty then some false else none
 |_=>none
def JQ(ops:Array Oper)(r:Q0):Option (Nat×Bool)->Option Bool
 |none=>some true
 |some (j,want)=>match (ops[j]?).bind (·.dst) with
  |some d=>match r.at d with
   |some v=>Kp v want
   |none=>none
  |none=>none
def Xd(N:Nat):Option Nat->Bool
 |none=>true
 |some d=>decide (d<N)
def Q0.JC(r:Q0)(dst:Option Nat):Option AV->Q0
 |some v=>r.put dst v
 |none=>r.drop dst
def JM:Operand->Bool
 |.const (.slice none 0 0)=>true
 |_=>false
def slLen:AV->Option Nat
 |.c (.sl _ n _)=>some n
 |.c (.t (.imm _ n _))=>some n
 |_=>none
def eqOp:BinOp->Option Bool
 |.eql=>some false
 |.neq=>some true
 |_=>none
def Xs(P:Program)(r:Q0):Op->Option (Nat×Bool)
 |.binOp op xT x y _=>if JM y then (match tinf P xT,ev r x,eqOp op with
  |some i,some v,some ne=>(match i.kind,slLen v with
   |.slice _,some n=>some (n,ne)
   |_,_=>none)
  |_,_,_=>none) else none
 |_=>none
def XD(P:Program)(r:Q0)(O:Q1)(o:Oper)(K:Option AV->Q1->Prop):Prop:=
 match o.op with
 |.call { callee:=.value f,args,argTypes:=_ }=>match ev r f,evl r args.toList with
  |some fv,some as=>match ZW fv with
   |some (g,caps)=>Qo P g (as++caps) O λv A'=>K (some v) A'
   |none=>False
  |_,_=>False
 |op=>match Xs P r op with
  |some (n,ne)=>K (some (aB ne)) O/\(n=0->K (some (aB !ne)) O)
  |none=>match opE P r O op with
   |some (res,A')=>K res A'
   |none=>False
end
end Go.Abs
namespace Go.Abs
variable [Gl]
section
variable {P:Program}{N:Nat}{ro:Option Nat}
theorem Ym{ops:Array Oper}{ι:Map}{w:World}{r:Q0}{a:Act}(hr:Qn N ι w r a){o:Oper}{b:Bool}(h:JQ ops r o.guard=some b):Region.wanted o (yielded ops a.tmps)=b:=by
 unfold Region.wanted
 cases hg:o.guard with
 |none=>rw[hg]at h;simp only[JQ,A0]at h;exact h
 |some p=>
  obtain⟨j,want⟩:=p;rw[hg]at h;simp only[JQ]at h;split at h
  ·rename_i d hd;split at h
   ·rename_i v hb';unfold Kp at h;split at h
    ·rename_i b';injection h with h;have hv:=Zh (hr.at hb');have ht:a.tmps[d]? =some (.bool b'):=by
      by_cases hlt:d<a.tmps.size
      ·simp only[Array.getD,hlt,dif_pos]at hv;rw[B3 hlt];exact congrArg some hv
      ·simp[Array.getD,hlt,undef]at hv
     have:yielded ops a.tmps j=some b':=(by simp only[yielded,hd,Option.bind_some,ht]);simp only[this];rw[<-h];cases b'<;>cases want<;>rfl
    ·rename_i xs;split at h
     ·injection h with h;subst h;obtain⟨arr,e,_,_⟩:=hr.at hb';have hne:∀b,a.tmps[d]? ≠some (.bool b):=λb hb=>(by have:a.tmps.getD d undef=.bool b:=(by simp[Ah,hb]);rw[e]at this;cases this);have:yielded ops a.tmps j=none:=(by simp only[yielded,hd,Option.bind_some]);simp only[this];rfl
     ·cases h
    ·cases h
   ·cases h
  ·cases h
theorem Zo{dst:Option Nat}(h:Xd N dst=true):∀d,dst=some d->d<N:=λd hd=>by subst hd;simpa [Xd] using h
theorem nilTest_ok{ι:Map}{O:Q1}{w:World}{r:Q0}{a:Act}(hh:HR ι O w)(hr:Qn N ι w r a){o:Oper}{n:Nat}{ne:Bool}(h:Xs P r o.op=some (n,ne)):
  ∃b,(execOp a.eval o).run P w=.ok (.value (.bool b)) w/\(b=ne\/(b=!ne/\n=0)):=by
 obtain⟨dst,op,type,pos,after,guard⟩:=o;simp only at h;unfold Xs at h;split at h
 ·rename_i op xT x y yT;split at h
  ·rename_i hy;split at h
   ·rename_i i v ne' hi hx hop;split at h
    ·rename_i e n' hk hl;injection h with h;injection h with e1 e2;subst e1;subst e2;have hu:=Qv hi hk;have hye:a.eval y=.slice none 0 0:=by
      unfold JM at hy;split at hy
      ·rfl
      ·cases hy
     obtain⟨ad,c,hxe,hs⟩:∃ad c,a.eval x=.slice ad n' c/\(n'=0\/ad.isSome=true):=by
      have hv:=J8 hr hx;unfold slLen at hl;split at hl
      ·injection hl with hl;subst hl;obtain⟨ad,c,e1,hs,_⟩:=hv;exact⟨ad,c,e1,hs⟩
      ·injection hl with hl;subst hl;generalize a.eval x=u at hv
       cases hv with
       |imm0=>exact⟨_,_,rfl,.inl rfl⟩
       |imm=>exact⟨_,_,rfl,.inr rfl⟩
      ·cases hl
     have heq:∀d,(Op.equalIn (d+1) xT (.slice ad n' c) (.slice none 0 0)).run P w=.ok ad.isNone w:=λd=>(by cases ad<;>simp[Op.equalIn,AW hu]);have heq':(Op.equal xT (.slice ad n' c) (.slice none 0 0)).run P w=.ok ad.isNone w:=heq 9999;have hfin:∀b:Bool,b=(ad.isNone !=ne')->(b=ne'\/(b=!ne'/\n'=0)):=λb hb=>by
      cases ad with
      |none=>
       rcases hs with hs|hs
       ·right;exact⟨by rw[hb];simp,hs⟩
       ·simp at hs
      |some _=>left;rw[hb];simp
     cases op<;>simp only[eqOp,A0,reduceCtorEq]at hop
     ·subst hop;refine⟨ad.isNone,?_,hfin _ (by simp)⟩;have hg:(eqGuard .eql xT x y (.slice ad n' c) (.slice none 0 0)).run P w=.ok () w:=(by unfold eqGuard;simp);have hb:(binOp .eql xT (.slice ad n' c) (.slice none 0 0)).run P w=.ok (.bool ad.isNone) w:=(by show(do pure (Value.bool (<-Op.equal xT (.slice ad n' c) (.slice none 0 0))):Sem Value).run P w=_;rw[AO,heq'];rfl);simp only[execOp,hxe,hye,AO,hg,AR,hb,BC]
     ·subst hop;refine⟨!ad.isNone,?_,hfin _ (by simp)⟩;have hg:(eqGuard .neq xT x y (.slice ad n' c) (.slice none 0 0)).run P w=.ok () w:=(by unfold eqGuard;simp);have hb:(binOp .neq xT (.slice ad n' c) (.slice none 0 0)).run P w=.ok (.bool (!ad.isNone)) w:=(by show(do pure (Value.bool (!(<-Op.equal xT (.slice ad n' c) (.slice none 0 0)))):Sem Value).run P w=_;rw[AO,heq'];rfl);simp only[execOp,hxe,hye,AO,hg,AR,hb,BC]
    ·cases h
   ·cases h
  ·cases h
 ·cases h
theorem YC{ρ:Operand->Value}{o:Oper}(h:∀c,o.op≠.defer c):o.semAt ro ρ=execOp ρ o:=Oper.semAt_eq ro ρ o h
theorem opE_defer{r:Q0}{O:Q1}{op:Op}{x:Option AV×Q1}(h:opE P r O op=some x):∀c,op≠.defer c:=λc e=>by subst e;simp[opE]at h
theorem run_call{ρ:Operand->Value}{o:Oper}{f:Operand}{args:Array Operand}{ts:Array TypeId}(ho:o.op=.call { callee:=.value f,args:=args,argTypes:=ts }){g:FuncId}{arr:Array Value}(hf:ρ f=.func (.func g) #[] arr)
  (hc:Jq P g) (w:World):(execOp ρ o).run P w=.ok (.enter g (args.map ρ++arr)) w:=by
 obtain⟨fn,h1,h2,h3⟩:=hc;have h2' : ¬ fn.name = "runtime.NumGoroutine" := λe => by rw [e] at h2; simp at h2
 have h3':¬fn.body=none:=λe=>by rw[e]at h3;simp at h3
 simp only[execOp,ho,resolve,hf,Deferred.ofValue,invoke,callFunc];simp[h1,h2',h3']
theorem ZY{ι:Map}{O:Q1}{w:World}{r:Q0}{a:Act}(hh:HR ι O w)(hr:Qn N ι w r a){o:Oper}(hd:Xd N o.dst=true){K:Option AV->Q1->Prop}(h:XD P r O o K)
  {next:Act->World->Prop} {Q:Exit->Act->World->Prop}
  (hn:∀res A' I' w' a',K res A'->HR I' A' w'->Qn N I' w' (r.JC o.dst res) a'->Step ι O w I' A' w'->a'.defers=a.defers->next a' w'):
  o.wpIn (wr ro) 0 P a w next Q:=by
 refine⟨λ_ _=>trivial,?_⟩;have hput:∀(v:Value),(a.put o.dst v).defers=a.defers:=λv=>by cases o.dst<;>rfl
 unfold XD at h;split at h
 ·rename_i f args ts hop;split at h
  ·rename_i fv as hf has;split at h
   ·rename_i g caps ht;obtain⟨hcal,hcall⟩:=h;have hfv:=J8 hr hf;obtain⟨us,hus,hu1,hu2⟩:=Wi hr has;have hargs:args.map a.eval=us.toArray:=by apply Array.ext';simpa using hus
    -- the function's value and what it has captured
    obtain⟨arr,e1,hsz,harr⟩:∃arr,a.eval f=.func (.func g) #[] arr/\arr.size=caps.length/\∀i (hi:i<caps.length),∃u,arr[i]? =some u/\VR ι w caps[i] u:=by
     unfold ZW at ht;split at ht
     ·rename_i f' cs;injection ht with ht;injection ht with e1 e2;subst e1;subst e2;generalize a.eval f=u at hfv
      cases hfv with
      |fn f' cs arr h1 h2=>refine⟨arr,rfl,by simpa using h1,λi hi=> ?_⟩;have hi':i<cs.length:=(by simpa using hi);have hlt:i<arr.size:=(by omega);refine⟨arr[i],by simp[hlt],?_⟩;have:=h2 i hi';simp only[Array.getD,hlt,dif_pos]at this;simpa [VR,CR] using this
     ·rename_i f' rs;split at ht
      ·cases ht
      rename_i hy;injection ht with ht;injection ht with e1 e2;subst e1;subst e2;obtain⟨arr,e,h1,h2⟩:=cloR.no hfv hy;refine⟨arr,e,by simpa using h1,λi hi=> ?_⟩;have hi':i<rs.length:=(by simpa using hi);have hlt:i<arr.size:=(by omega);obtain⟨ad,h3,h4⟩:=h2 i hi';have h3':arr[i]=.pointer (some ad):=(by simp only[Array.getD,hlt,dif_pos]at h3;exact h3);refine⟨arr[i],by simp[hlt],?_⟩;rw[AM];exact⟨ad,h3',h4⟩
     ·cases ht
    have hrun:=run_call (P:=P) (ρ:=a.eval) hop e1 hcal w;rw[YC (by rw[hop];intro c e;cases e),hrun,Oper.uponIn_enter];refine⟨(λe=>by cases e),?_⟩;have hc2:=hcall ι w (args.map a.eval++arr) hr.gl hh ⟨by simp[hargs,hu1,hsz],λi hi=>by
     by_cases hlt:i<as.length
     ·obtain⟨u,h3,h4⟩:=hu2 i hlt;refine⟨u,?_,by rw[Bv hlt];exact h4⟩;rw[C3 (by simp[hargs,hu1,hlt]),hargs];simpa using h3
     ·have hi':i - as.length<caps.length:=(by simp at hi;omega);obtain⟨u,h3,h4⟩:=harr (i - as.length) hi';refine⟨u,?_,by rw[C6 (by omega)];exact h4⟩;rw[Array.getElem?_append_right (by simp[hargs,hu1];omega)];rw[show(args.map a.eval).size=as.length by simp[hargs,hu1]];exact h3⟩
    refine BN (show CallsIn (wr ro) 0 P g (args.map a.eval++arr) w _ from hc2) ?_;rintro e w' ⟨v,A',I',cv,rfl,hK,hv,hh',hs'⟩;exact hn (some v) A' I' w' _ hK hh' ((hr.step hh hs').put (Zo hd) hv) hs' (hput _)
   ·cases h
  ·cases h
 ·split at h
  ·rename_i op _ n ne hnil;obtain⟨b,h1,h2⟩:=nilTest_ok hh hr hnil;rw[YC (λc e=>by rw[e]at hnil;simp[Xs]at hnil),h1,Oper.uponIn_value];obtain⟨h3,h4⟩:=h;rcases h2 with rfl|⟨rfl,hn0⟩
   ·exact hn _ O ι w _ h3 hh (hr.put (Zo hd) (TR.bool _)) (Step.refl ι O w) (hput _)
   ·exact hn _ O ι w _ (h4 hn0) hh (hr.put (Zo hd) (TR.bool _)) (Step.refl ι O w) (hput _)
  ·split at h
   ·rename_i res A' hop;obtain⟨I',w',nx,h1,h2,h3,h4⟩:=opE_ok hh hr hop;rw[YC (opE_defer hop),h1]
    cases res with
    |none=>subst h2;rw[Oper.uponIn_skip];exact hn none A' I' w' _ h h4 ((hr.step hh h3).drop (Zo hd)) h3 (hput _)
    |some v=>obtain⟨u,rfl,hv⟩:=h2;rw[Oper.uponIn_value];exact hn (some v) A' I' w' _ h h4 ((hr.step hh h3).put (Zo hd) hv) h3 (hput _)
   ·exact h.elim
end
end Go.Abs
namespace Go.Abs
variable [Gl]
section
variable {P:Program}{N:Nat}{ro:Option Nat}
def resE(P:Program)(r:Q0)(O:Q1):List ResultVar->Option (List AV)
 |[]=>some []
 |.tmp t::rest=>match r.at t,resE P r O rest with
  |some v,some vs=>some (v::vs)
  |_,_=>none
 |.cell a t::rest=>match tinf P t,r.at a,resE P r O rest with
  |some i,some p,some vs=>match ZQ O i p with
   |some v=>some (v::vs)
   |none=>none
  |_,_,_=>none
def compE:AV->Option (Cell⊕List Cell)
 |.c x=>some (.inl x)
 |.agg xs=>some (.inr xs)
 |.tup _=>none
def Kw:List AV->Option (List (Cell⊕List Cell))
 |[]=>some []
 |v::vs=>match compE v,Kw vs with
  |some x,some xs=>some (x::xs)
  |_,_=>none
def packE:List AV->Option AV
 |[v]=>some v
 |vs=>(Kw vs).map .tup
def retE(P:Program)(rs:List ResultVar)(r:Q0)(O:Q1):Option AV:=match resE P r O rs with
 |some vs=>packE vs
 |none=>none
def resSem(tmps:Array Value):ResultVar->Sem Value
 |.tmp t=>pure (tmps.getD t undef)
 |.cell x t=>do loadVar t (<-asAddr (tmps.getD x undef))
theorem resE_ok{ι:Map}{O:Q1}{w:World}{r:Q0}{a:Act}(hh:HR ι O w)(hr:Qn N ι w r a):∀{rs:List ResultVar} {vs:List AV},resE P r O rs=some vs->
  ∃us:List Value,((rs.mapM (resSem a.tmps)).run P w=.ok us w)/\us.length=vs.length/\∀i (hi:i<vs.length),∃u,us[i]? =some u/\VR ι w vs[i] u
 |[],vs,h=>by simp only[resE,A0]at h;subst h;exact⟨[],rfl,rfl,λi hi=>absurd hi (by simp)⟩
 |.tmp t::rest,vs,h=>by
  simp only[resE]at h;split at h
  ·rename_i v vs' h1 h2;injection h with h;subst h;obtain⟨us,h3,h4,h5⟩:=resE_ok hh hr h2;refine⟨a.tmps.getD t undef::us,?_,by simp[h4],λi hi=> ?_⟩
   ·simp only[List.mapM_cons,resSem,AO,BC,AR,h3]
   ·cases i with
    |zero=>exact⟨_,rfl,hr.at h1⟩
    |succ i=>simpa using h5 i (by simpa using hi)
  ·cases h
 |.cell x t::rest,vs,h=>by
  simp only[resE]at h;split at h
  ·rename_i i p vs' hi h1 h2;split at h
   ·rename_i v hv;injection h with h;subst h;obtain⟨us,h3,h4,h5⟩:=resE_ok hh hr h2;obtain⟨u,h6,h7⟩:=loadE_ok (P:=P) hi hh (hr.at h1) hv;have haddr:∃ad,a.tmps.getD x undef=.pointer (some ad):=by
     have hp:=hr.at h1;unfold ZQ at hv;split at hv
     ·obtain⟨ad,e,_⟩:=hp;exact⟨ad,e⟩
     ·obtain⟨b,off,e,_⟩:=WZ hp;exact⟨_,e⟩
     ·cases hv
    obtain⟨ad,e⟩:=haddr;have h8:(loadVar t ad).run P w=.ok u w:=(by rw[e]at h6;simpa [Instr.loadAt,Instr.sureAddr] using h6);refine⟨u::us,?_,by simp[h4],λi hi=> ?_⟩
    ·simp only[List.mapM_cons,resSem,AO,e,asAddr,BC,AR,h8,h3]
    ·cases i with
     |zero=>exact⟨_,rfl,h7⟩
     |succ i=>simpa using h5 i (by simpa using hi)
   ·cases h
  ·cases h
theorem compsE_ok{ι:Map}{w:World}:∀{vs:List AV} {xs:List (Cell⊕List Cell)},Kw vs=some xs->∀{us:List Value},us.length=vs.length->(∀i (hi:i<vs.length),∃u,us[i]? =some u/\VR ι w vs[i] u)->
  us.length=xs.length/\∀i (hi:i<xs.length),∃u,us[i]? =some u/\compR ι w xs[i] u
 |[],xs,h,us,hl,hv=>by simp only[Kw,A0]at h;subst h;exact⟨hl,λi hi=>absurd hi (by simp)⟩
 |v::vs,xs,h,us,hl,hv=>by
  simp only[Kw]at h;split at h
  ·rename_i x xs' h1 h2;injection h with h;subst h
   cases us with
   |nil=>simp at hl
   |cons u us=>
    obtain⟨h3,h4⟩:=compsE_ok h2 (us:=us) (by simpa using hl) (λi hi=>by
     obtain⟨u',h5,h6⟩:=hv (i+1) (by simpa using hi);exact⟨u',by simpa using h5,h6⟩)
    refine⟨by simp[h3],λi hi=> ?_⟩
    cases i with
    |zero=>
     obtain⟨u',h5,h6⟩:=hv 0 (by simp);refine⟨u',h5,?_⟩;cases v<;>simp only[compE,A0,reduceCtorEq]at h1
     ·subst h1;exact h6
     ·subst h1;exact h6
    |succ i=>simpa using h4 i (by simpa using hi)
  ·cases h
theorem retE_ok{ι:Map}{O:Q1}{w:World}{r:Q0}{a:Act}(hh:HR ι O w)(hr:Qn N ι w r a){fn:Func}{v:AV}(h:retE P fn.results.toList r O=some v):
  ∃u,(results fn a.tmps).run P w=.ok u w/\VR ι w v u:=by
 unfold retE at h;split at h
 ·rename_i vs hvs;obtain⟨us,h1,h2,h3⟩:=resE_ok (P:=P) hh hr hvs;have hm:(results fn a.tmps).run P w=.ok (if h:us.toArray.size=1 then us.toArray[0] else .tuple us.toArray) w:=(by have hres:results fn a.tmps=(fn.results.mapM (resSem a.tmps)>>=λvs=>Pure.pure (if h:vs.size=1 then vs[0] else .tuple vs)):=(by unfold results;congr 1);rw[hres,AO,Array.mapM_eq_mapM_toList];simp only[Sem.run_map,h1,AR,BC]);refine⟨_,hm,?_⟩;unfold packE at h;split at h
  ·rename_i x;injection h with h;subst h;obtain⟨u,rfl,hv⟩:=vals1 ⟨h2,h3⟩;exact hv
  ·rename_i hne;simp only[A2]at h;obtain⟨xs,h4,rfl⟩:=h;have hn1:¬us.toArray.size=1:=(by intro e;have:vs.length=1:=(by rw[<-h2];simpa using e);obtain⟨x,hx⟩:=List.length_eq_one_iff.1 this;exact hne x hx);rw[dif_neg hn1];obtain⟨h5,h6⟩:=compsE_ok h4 h2 h3;exact⟨us.toArray,rfl,by simpa using h5,λi hi=>by simpa using h6 i hi⟩
 ·cases h
theorem HR.other{ι:Map}{O:Q1}{w w':World}(h:HR ι O w)(hb:∀b,Zd w b->w'.heap[b]? =w.heap[b]?):
  HR ι O w'/\∀v u,VR ι w v u->VR ι w' v u:=by
 have hT:∀t u,TR ι.un w t u->TR ι.un w' t u:=λt u ht=>ht.mono λb hu hrow=>⟨hu,hb b hrow⟩;have hC:∀c u,CR ι w c u->CR ι w' c u:=λc u hc=>by
  cases c with
  |t x=>exact hT x u hc
  |ptr r=>exact hc
  |sl r len cap=>exact hc
  |clo f caps=>exact hc
 have hA:∀xs u,Jj ι w xs u->Jj ι w' xs u:=λxs u ⟨arr,e,h1,h2⟩=>⟨arr,e,h1,λi hi=>let ⟨v,h3,h4⟩:=h2 i hi;⟨v,h3,hC _ _ h4⟩⟩;refine⟨⟨λid s hs=> ?_,h.inj,λb hr=>(let ⟨c,e,fr,h1⟩:=h.resRow b hr;⟨c,e,fr,(hb b ⟨c,e,fr,h1⟩).trans h1⟩),h.resNo⟩,λv u hv=> ?_⟩
 ·obtain⟨o,h1,h2,h3,h4⟩:=h.obj id s hs;refine⟨o,h1,h2,h3,?_⟩
  cases hl:s.loc with
  |none=>rw[hl]at h4;exact h4
  |some l=>rw[hl]at h4;obtain⟨⟨cells,elem,h5,h6⟩,h7,h8⟩:=h4;have e:=hb l.blk ⟨cells,elem,_,h5⟩;refine⟨⟨cells,elem,e.trans h5,h6⟩,h7,λi hi=> ?_⟩;obtain⟨v,h9,h10⟩:=h8 i hi;exact⟨v,(XK e _).trans h9,hC _ _ h10⟩
 ·cases v with
  |c x=>exact hC x u hv
  |agg xs=>exact hA xs u hv
  |tup xs=>
   obtain⟨arr,e,h1,h2⟩:=hv;refine⟨arr,e,h1,λi hi=> ?_⟩;obtain⟨v,h3,h4⟩:=h2 i hi;refine⟨v,h3,?_⟩
   cases hx:xs[i] with
   |inl x=>rw[hx]at h4;exact hC x v h4
   |inr x=>rw[hx]at h4;exact hA x v h4
def JI(args:List AV):Q0:=args.zipIdx.map λ(v,i)=>(i,v)
theorem YJ:∀(args:List AV) (k t:Nat) (v:AV),Q0.get ((args.zipIdx k).map λ(v,i)=>(i,v)) t=some v->k<=t/\args[t - k]? =some v
 |[],k,t,v,h=>by simp[Q0.get]at h
 |x::args,k,t,v,h=>by
  simp only[List.zipIdx_cons,AQ,Q0.get]at h;split at h
  ·rename_i e;subst e;injection h with h;exact⟨A9 _,by simp[h]⟩
  ·rename_i hne;obtain⟨h1,h2⟩:=YJ args (k+1) t v h;refine⟨by omega,?_⟩;have e:t - k=(t - (k+1))+1:=(by omega);rw[e,B9];exact h2
theorem JU{w:World}{b:Nat}{o:Go.Obj}{c:Nat}(h:c≠b):(w.putObj b o).heap[c]? =w.heap[c]? :=by simp[World.putObj,Array.getElem?_setIfInBounds,h.symm]
theorem WS{fn:Func}{tmps:Array Value}{R:Ending->World->Prop}{n:Nat}{P:Program}:∀(ms:List Deferred) (w:World),Marks n w ms->
  (∀w',(∀b,(∀d∈ms,d.target≠.collected b)->w'.heap[b]? =w.heap[b]?)->w'.heap.size=w.heap.size->w'.os=w.os->w'.output=w.output->∃v,(results fn tmps).run P w'=.ok v w'/\R (.returned v) w')->
  LeavesInM Fence.wide 0 P fn tmps R ms .returning w
 |[],w,hm,h=>h w (λ_ _=>rfl) rfl rfl rfl
 |d::ds,w,hm,h=>by
  obtain⟨b,h1,h0,h2⟩:=hm.1 d (by simp);have hne:∀d'∈ds,∀b',d'.target=.collected b'->b'≠b:=λd' hd' b' hb' e=>(by have:=(List.pairwise_cons.1 hm.2).1 d' hd';rw[h1,hb',e]at this;exact this rfl);refine⟨(λe=>by cases e),.inl ⟨b,w.putObj b (.deferred none),h1,run_takeDeferred h2,?_⟩⟩;refine WS (n:=n) ds _ ⟨λd' hd'=> ?_,(List.pairwise_cons.1 hm.2).2⟩ λw' hrow hsz hos hout=> ?_
  ·obtain⟨b',h3,h4,h5⟩:=hm.1 d' (by simp[hd']);exact⟨b',h3,h4,by rw[JU (hne d' hd' b' h3)];exact h5⟩
  ·refine h w' (λc hc=> ?_) (by rw[hsz];simp[World.putObj]) (by rw[hos];rfl) (by rw[hout];rfl);have hcb:c≠b:=λe=>hc d (by simp) (by rw[h1,e]);rw[hrow c λd' hd'=>hc d' (by simp[hd']),JU hcb]
theorem Marks.others{n:Nat}{w:World}{ms:List Deferred}(hm:Marks n w ms){b:Nat}(h:b<n\/∀ds,w.heap[b]? ≠some (.deferred ds)):∀d∈ms,d.target≠.collected b:=λd hd e=>by
 obtain⟨b',h1,h2,h3⟩:=hm.1 d hd;rw[e]at h1;injection h1 with h1;subst h1;rcases h with h|h
 ·omega
 ·exact h _ h3
theorem fn_ok {f : FuncId} {fn : Func} {c : Code} {args : List AV} {O : Q1} {Q : AV -> Q1 -> Prop} (hf : P.funcs[f]? = some fn) (hb : fn.body = some c) (hname : (fn.name == "runtime.NumGoroutine") = false) (hn : args.length <= fn.ntmps) (hl : fn.ntmps <= BIG)
   (h : Yx P fn.ntmps none c (JI args) O λe r' A' => (match e with | .normal | .ret => True | _ => False) /\ match retE P fn.results.toList r' A' with | some v => Q v A' | none => False) : Qo P f args O Q := by
 refine ⟨⟨fn,hf,hname,by rw [hb]; rfl⟩,fun ι w cargs hgl hh ha => ?_⟩;refine callsIn_of_wp_marks hf hb trivial ?_ rfl;have hsz : (cargs ++ Array.replicate (fn.ntmps - cargs.size) undef).size = fn.ntmps := by have := ha.1;simp; omega
 have hr : Qn fn.ntmps ι w (JI args) { tmps := cargs ++ Array.replicate (fn.ntmps - cargs.size) undef,defers := [] } := by refine ⟨hsz,hl,λt x hx => ?_,hgl⟩;obtain ⟨_,h2⟩ := YJ args 0 t x hx;simp only [Nat.sub_zero] at h2;have hlt : t < args.length := (AF.1 h2).1;obtain ⟨u,h3,h4⟩ := ha.2 t hlt;have e : args[t] = x := (by rw [A3 hlt] at h2;injection h2);rw [e] at h4;have : (cargs ++ Array.replicate (fn.ntmps - cargs.size) undef).getD t undef = u := (by have hlt' : t < cargs.size := (by rw [ha.1]; exact hlt);have : (cargs ++ Array.replicate (fn.ntmps - cargs.size) undef)[t]? = some u := (by rw [C3 hlt']; exact h3);simp [this]);unfold lk;rw [AE (by omega),this];exact h4
 refine C7 (h ι w _ hh hr) λe a' w' hp => ?_;obtain ⟨h0,r',A',I',ms,⟨hex,hret⟩,h2,h3,h4,h5,h6⟩ := hp;have h5 : a'.defers = ms := by simpa using h5
 split at hret
 · rename_i v hv
   have hleave : LeavesInM Fence.wide 0 P fn a'.tmps (λe w' => ∃ v A' I' cv,e = .returned cv /\ Q v A' /\ VR I' w' v cv /\ HR I' A' w' /\ Step ι O w I' A' w') ms .returning w' := by
     refine WS ms w' h6 λw'' hoth hsz' hos hout => ?_;have hrow : ∀ b,Zd w' b -> w''.heap[b]? = w'.heap[b]? := λb ⟨x,y,z,hb⟩ => hoth b (h6.others (.inr λds e => by rw [hb] at e; cases e));have hn' : ∀ b,b < w.heap.size -> w''.heap[b]? = w'.heap[b]? := λb hb => hoth b (h6.others (.inl hb));obtain ⟨h7,h8⟩ := h2.other hrow;have hr'' : Qn fn.ntmps I' w'' r' a' := ⟨h3.size,h3.low,λt x hx => by
       have hx' := h3.get t x hx;rw [lk_mode hx' rfl λr hr => hoth _ (h6.others (.inr λds e => by rw [hr] at e; cases e))];exact h8 _ _ hx',h3.gl.mono λb hu hb => ⟨hu,hrow b hb⟩⟩
     obtain ⟨u,h9,h10⟩ := retE_ok (P := P) h7 hr'' hv;refine ⟨u,h9,v,A',I',u,rfl,hret,h10,h7,?_⟩
     exact { len := h4.len,size := by rw [hsz']; exact h4.size,os := hos.trans h4.os,out := hout.trans h4.out,keep := h4.keep,none := h4.none,new := h4.new,res := h4.res,ex := h4.ex,resKeep := λb hb => (hrow b (h2.resRow b (h4.res ▸ hb))).trans (h4.resKeep b hb),
             frame := λb hb hu => (hn' b hb).trans (h4.frame b hb hu) }
   cases e with
   | normal => show LeavesInM _ _ _ _ _ _ a'.defers _ _; rw [h5]; exact hleave
   | ret => show LeavesInM _ _ _ _ _ _ a'.defers _ _; rw [h5]; exact hleave
   | exit _ => exact hex.elim
   | goto _ => exact hex.elim
   | panic _ => exact hex.elim
   | outgrown => exact hex.elim
 · exact hret.elim
end
end Go.Abs
namespace Go.Abs
variable [Gl]
structure COp where(d:Option Nat)(op:Op)(g:Option (Nat×Bool))(k:List Nat)
inductive CC where
 |skip
 |reg (ops:List COp)
 |drw (ops:List COp) (bef:List Nat)
 |seq (a b:CC)
 |cond (c:Operand) (a b:CC)
 |block (id:Nat) (a:CC)
 |loop (a:CC)
 |exit (id:Nat)
 |ret
 |rng (f:Operand) (ps:Array Tmp) (a b:CC)
 |scp (a:CC)
 |lbl
def QK(all:Array Oper):List Oper->List (List Nat)->Option (List COp)
 |[],_=>some []
 |o::os,ks=>match (match o.guard with|none=>some none|some (j,want)=>match (all[j]?).bind (·.dst) with|some d=>some (some (d,want))|none=>none),QK all os ks.tail with
  |some g,some cs=>some (⟨o.dst,o.op,g,ks.headD []⟩::cs)
  |_,_=>none
def tmpsOf(o:Oper)(all:Array Oper):List Nat:=
 (o.op.operands.toList.filterMap fun|.tmp t=>some t|_=>none)++(match o.guard with|some (j,_)=>((all[j]?).bind (·.dst)).toList|none=>[])
def ZV(ops:Array Oper):Bool:=
 let B:=Region.before ops
 ops.toList.zipIdx.all λ(o,j)=>
  o.after.all (λe=>!Region.binds .any e||decide (e.on<j))&&
  (List.range j).all λi=>
   (!(B.getD j 0).testBit i||o.after.any λe=>Region.binds .any e&&(e.on==i||decide (i<e.on)&&(B.getD e.on 0).testBit i))&&
   match ops[i]? with
   |some p=>
    let clash:=(match p.dst with|some d=>(tmpsOf o ops).contains d||o.dst==some d|none=>false)||(match o.dst with|some d=>(tmpsOf p ops).contains d|none=>false)
    !clash||(B.getD j 0).testBit i
   |none=>true
abbrev KS:=List (List (List Nat))
def strip:Code->KS->Option (CC×KS)
 |.skip,ks=>some (.skip,ks)
 |.region _ ops false,ks=>(QK ops ops.toList (ks.headD [])).map λc=>(.reg c,ks.tail)
 |.region _ ops true,ks=>if ZV ops then (QK ops ops.toList (ks.headD [])).map λc=>(.drw c (Region.before ops).toList,ks.tail) else none
 |.seq a b,ks=>match strip a ks with
  |some (x,ks)=>match strip b ks with
   |some (y,ks)=>some (.seq x y,ks)
   |none=>none
  |none=>none
 |.cond c a b,ks=>match strip a ks with
  |some (x,ks)=>match strip b ks with
   |some (y,ks)=>some (.cond c x y,ks)
   |none=>none
  |none=>none
 |.block id a,ks=>match strip a ks with
  |some (x,ks)=>some (.block id x,ks)
  |none=>none
 |.loop a,ks=>match strip a ks with
  |some (x,ks)=>some (.loop x,ks)
  |none=>none
 |.exit id,ks=>some (.exit id,ks)
 |.ret,ks=>some (.ret,ks)
 |.rangeFunc f ps a b,ks=>match strip a ks with
  |some (x,ks)=>match strip b ks with
   |some (y,ks)=>some (.rng f ps x y,ks)
   |none=>none
  |none=>none
 |.scope a,ks=>match strip a ks with
  |some (x,ks)=>some (.scp x,ks)
  |none=>none
 |.label _,ks=>some (.lbl,ks)
 |_,_=>none
def Q0.kill(r:Q0):List Nat->Q0
 |[]=>r
 |t::ts=>Q0.kill (r.del t) ts
universe u
structure Tag{β:Sort u}(b:β):Type where
 mk::
def onDst(b:Bool)(X:Prop)(_:Tag X):Prop:=b=true/\X
def K8(g:Option Bool)(A B:Prop)(_:Tag A)(_:Tag B):Prop:=match g with|some b=>(if b=true then A else B)|none=>False
def VY{α:Type}(v:Option α)(K:α->Prop)(_:Tag K):Prop:=match v with|some a=>K a|none=>False
def Kq(r:Q0):Option (Nat×Bool)->Option Bool
 |none=>some true
 |some (d,want)=>match r.at d with
  |some v=>Kp v want
  |none=>none
def Y7(r:Q0)(f:Operand)(args:List Operand):Option (FuncId×List AV):=match ev r f,evl r args with
 |some fv,some as=>match ZW fv with
  |some (g,caps)=>some (g,as++caps)
  |none=>none
 |_,_=>none
def DrawQ(P:Program)(N:Nat)(ro:Option Nat)(cs:List COp)(bef:List Nat)(r:Q0)(O:Q1)(Q:Exit->Q0->Q1->Prop)(_:Tag Q):Prop:=∀id ops ks,QK ops ops.toList ks=some cs->bef=(Region.before ops).toList->ZV ops=true->Yx P N ro (.region id ops true) r O Q
section
variable {P:Program}{N:Nat}{ro:Option Nat}
theorem Qn.sub{ι:Map}{w:World}{r r':Q0}{a:Act}(h:Qn N ι w r a)(hs:∀t v,r'.get t=some v->r.get t=some v):Qn N ι w r' a:=
 ⟨h.size,h.low,λt v hv=>h.get t v (hs t v hv),h.gl⟩
theorem ZE{all:Array Oper}{r:Q0}{o:Oper}{g:Option (Nat×Bool)}(h:(match o.guard with|none=>some none|some (j,want)=>match (all[j]?).bind (·.dst) with|some d=>some (some (d,want))|none=>none)=some g):
  Kq r g=JQ all r o.guard:=by
 cases hg:o.guard with
 |none=>rw[hg]at h;simp only[A0]at h;subst h;rfl
 |some p=>
  obtain⟨j,want⟩:=p;rw[hg]at h;simp only at h;split at h
  ·rename_i d hd;injection h with h;subst h;simp only[Kq,JQ,hd]<;>rfl
  ·cases h
structure Q9(P:Program)(f:FuncId)(N:Nat)(rs:List ResultVar)(C:CC):Prop where
 ex : ∃ fn c ks ks',P.funcs[f]? = some fn /\ fn.body = some c /\ (fn.name == "runtime.NumGoroutine") = false /\ fn.ntmps = N /\ fn.results.toList = rs /\ strip c ks = some (C,ks') /\ Nat.ble N BIG = true
end
end Go.Abs
namespace Go.Abs
variable [Gl]
section
variable (P:Program)(r:Q0)(O:Q1)(K:Option AV->Q1->Prop)(tg:Tag K)
end
end Go.Abs
namespace Go.Abs
variable [Gl]
inductive DL where
 |reg (t:Nat)
 |obj (b:Nat)
 |len
 deriving DecidableEq
abbrev St:=Q0×Q1
def agree(s s':St):DL->Prop
 |.reg t=>s.1.get t=s'.1.get t
 |.obj b=>s.2[b]? =s'.2[b]?
 |.len=>s.2.length=s'.2.length
theorem agree.refl(s:St)(l:DL):agree s s l:=by cases l<;>rfl
theorem agree.symm{s s':St}{l:DL}(h:agree s s' l):agree s' s l:=by cases l<;>exact Eq.symm h
theorem agree.trans{s s' s'':St}{l:DL}(h:agree s s' l)(h':agree s' s'' l):agree s s'' l:=by cases l<;>exact Eq.trans h h'
structure Um(n:Nat)(S:Nat->St)(R W:Nat->DL->Prop)(bef:Nat->Nat->Prop):Prop where
 same:∀j l,j<n->¬W j l->agree (S (j+1)) (S j) l
 order:∀i j,i<j->j<n->(∃l,(W i l/\(W j l\/R j l))\/(R i l/\W j l))->bef j i
section
variable {n:Nat}{S:Nat->St}{R W:Nat->DL->Prop}{bef:Nat->Nat->Prop}
theorem Um.skip(h:Um n S R W bef){l:DL}:∀{k i:Nat},i+k<=n->(∀j,i<=j->j<i+k->¬W j l)->agree (S (i+k)) (S i) l
 |0,i,_,_=>agree.refl _ _
 |k+1,i,hn,hw=>(h.same (i+k) l (by omega) (hw _ (by omega) (by omega))).trans (h.skip (k:=k) (by omega) λj h1 h2=>hw j h1 (by omega))
theorem Um.skip'(h:Um n S R W bef){l:DL}{i k:Nat}(hik:i<=k)(hn:k<=n)(hw:∀j,i<=j->j<k->¬W j l):agree (S k) (S i) l:=by have:=h.skip (l:=l) (k:=k - i) (i:=i) (by omega) λj h1 h2=>hw j h1 (by omega);rwa [show i+(k - i)=k by omega]at this
def Xo(S:Nat->St)(W:Nat->DL->Prop)(L:Nat->Prop)(s:St):Prop:=
 ∀l,(∃j,L j/\W j l/\(∀k,L k->W k l->k<=j)/\agree s (S (j+1)) l)\/((∀j,L j->¬W j l)/\agree s (S 0) l)
theorem Um.read(h:Um n S R W bef){L:Nat->Prop}{s:St}(hs:Xo S W L s)(hL:∀k,L k->k<n)(hcl:∀k i,L k->bef k i->L i){j:Nat}(hj:j<n)(hjL:¬L j)(hbef:∀i,bef j i->L i)
  {l:DL} (hl:R j l\/W j l):agree s (S j) l:=by
 have before:∀i,i<j->W i l->L i:=λi hi hw=>hbef i (h.order i j hi hj ⟨l,.inl ⟨hw,hl.symm⟩⟩);have after:∀k,L k->j<k->¬W k l:=λk hk hjk hw=>hjL (hcl k j hk (h.order j k hjk (hL k hk) ⟨l,by
  rcases hl with hr|hw'
  ·exact .inr ⟨hr,hw⟩
  ·exact .inl ⟨hw',.inl hw⟩⟩))
 rcases hs l with ⟨m,hm,hmw,hmax,hag⟩|⟨hno,hag⟩
 ·have hmj:m<j:=by
   rcases Nat.lt_trichotomy m j with h1|h1|h1
   ·exact h1
   ·exact absurd (h1▸hm) hjL
   ·exact absurd hmw (after m hm h1)
  exact hag.trans (h.skip' (i:=m+1) (k:=j) (by omega) (by omega) λi h1 h2 hw=>by
   have:=hmax i (before i h2 hw) hw;omega).symm
 ·exact hag.trans (h.skip' (i:=0) (k:=j) (by omega) (by omega) λi _ h2 hw=>hno i (before i h2 hw) hw).symm
theorem Um.write(h:Um n S R W bef){L:Nat->Prop}{s s':St}(hs:Xo S W L s)(hL:∀k,L k->k<n)(hcl:∀k i,L k->bef k i->L i){j:Nat}(hj:j<n)(hjL:¬L j)
  (h1:∀l,¬W j l->agree s' s l) (h2:∀l,W j l->agree s' (S (j+1)) l):Xo S W (λk=>k=j\/L k) s':=λl=>by
 by_cases hw:W j l
 ·refine .inl ⟨j,.inl rfl,hw,λk hk hkw=> ?_,h2 l hw⟩;rcases hk with rfl|hk
  ·exact A9 _
  ·rcases BV j k with hlt|hge
   ·exact absurd (hcl k j hk (h.order j k hlt (hL k hk) ⟨l,.inl ⟨hw,.inl hkw⟩⟩)) hjL
   ·exact hge
 ·rcases hs l with ⟨m,hm,hmw,hmax,hag⟩|⟨hno,hag⟩
  ·refine .inl ⟨m,.inr hm,hmw,λk hk hkw=> ?_,(h1 l hw).trans hag⟩;rcases hk with rfl|hk
   ·exact absurd hkw hw
   ·exact hmax k hk hkw
  ·refine .inr ⟨λk hk=> ?_,(h1 l hw).trans hag⟩;rcases hk with rfl|hk
   ·exact hw
   ·exact hno k hk
theorem Um.done(h:Um n S R W bef){L:Nat->Prop}{s:St}(hs:Xo S W L s)(hL:∀k,L k->k<n)(hall:∀k,k<n->L k)(l:DL):agree s (S n) l:=by
 rcases hs l with ⟨m,hm,hmw,hmax,hag⟩|⟨hno,hag⟩
 ·have hmn:=hL m hm;exact hag.trans (h.skip' (i:=m+1) (k:=n) (by omega) (A9 _) λi h1 h2 hw=>by
   have:=hmax i (hall i h2) hw;omega).symm
 ·exact hag.trans (h.skip' (i:=0) (k:=n) (by omega) (A9 _) λi _ h2 hw=>hno i (hall i h2) hw).symm
theorem agree.heap{s s':St}(h:∀l,agree s s' l):s.2=s'.2:=C8 λi=>h (.obj i)
end
end Go.Abs
namespace Go.Abs
variable [Gl]
def agC(τ O:Q1):Nat->Prop
 |0=>τ.length=O.length
 |b+1=>τ[b]? =O[b]?
theorem agC.refl(τ:Q1)(c:Nat):agC τ τ c:=by cases c<;>rfl
def J7:Option AV->List Nat
 |some (.c (.ptr r))=>[r.id+1]
 |some (.c (.sl r _ _))=>[r.id+1]
 |_=>[]
abbrev DR:=Option AV×Q1×List Nat×List Nat
def newD(O:Q1)(x:Option AV×Q1)(rs:List Nat):DR:=if x.2.length=O.length then (x.1,x.2,[],[]) else (x.1,x.2,0::rs,[0,O.length+1])
def opD(P:Program)(r:Q0)(O:Q1)(op:Op):Option DR:=match op with
 |.load t a=>(opE P r O (.load t a)).map λx=>(x.1,x.2,J7 (ev r a),[])
 |.store t a v=>(opE P r O (.store t a v)).map λx=>(x.1,x.2,J7 (ev r a),J7 (ev r a))
 |.alloc e=>(opE P r O (.alloc e)).map λx=>newD O x []
 |.box t v=>(opE P r O (.box t v)).map λx=>newD O x []
 |.makeSlice t l c=>(opE P r O (.makeSlice t l c)).map λx=>newD O x []
 |.buildSlice t n ps=>(opE P r O (.buildSlice t n ps)).map λx=>newD O x []
 |.slice t v lo hi mx=>(opE P r O (.slice t v lo hi mx)).map λx=>(x.1,x.2,J7 (ev r v),[])
 |.call { callee:=.builtin .append,args,argTypes }=>match args.toList with
  |[s,v]=>(opE P r O (.call { callee:=.builtin .append,args,argTypes })).map λx=>
   if x.2.length=O.length then (x.1,x.2,J7 (ev r s)++J7 (ev r v),J7 (ev r s)) else (x.1,x.2,0::(J7 (ev r s)++J7 (ev r v)),[0,O.length+1])
  |_=>none
 |.call { callee:=.builtin .cap,args,argTypes }=>match args.toList with
  |[s]=>(opE P r O (.call { callee:=.builtin .cap,args,argTypes })).map λx=>(x.1,x.2,J7 (ev r s),[])
  |_=>none
 |.call { callee:=.builtin .copy,args,argTypes }=>match args.toList with
  |[s,v]=>(opE P r O (.call { callee:=.builtin .copy,args,argTypes })).map λx=>(x.1,x.2,J7 (ev r s)++J7 (ev r v),J7 (ev r s))
  |_=>none
 |op=>(opE P r O op).map λx=>(x.1,x.2,[],[])
section
variable {P:Program}
def Jg(τ T' O A':Q1)(ws:List Nat):Prop:=(∀c,c∉ws->agC T' τ c)/\(∀c,c∈ws->agC T' A' c)/\(∀c,c∉ws->agC A' O c)
theorem Jg.none{τ O:Q1}:Jg τ τ O O []:=⟨λc _=>agC.refl τ c,λc h=>absurd h (by simp),λc _=>agC.refl O c⟩
theorem agC_push{τ O:Q1}(o:Obj)(h:τ.length=O.length):∀c,c∉[0,O.length+1]->agC (τ++[o]) τ c:=λc hc=>by
 cases c with
 |zero=>simp at hc
 |succ b=>
  have:b≠τ.length:=λe=>hc (by simp[e,h]);show(τ++[o])[b]? =τ[b]?;by_cases hlt:b<τ.length
  ·rw[AK hlt]
  ·rw[AT (by omega),Ad (by omega:τ.length<=b)];rw[Ad];simp;omega
theorem Jg.push{τ O:Q1}(o:Obj)(h:τ.length=O.length):Jg τ (τ++[o]) O (O++[o]) [0,O.length+1]:=
 ⟨agC_push o h,λc hc=>by
  simp only[Ag,List.not_mem_nil,or_false]at hc;rcases hc with rfl|rfl
  ·show(τ++[o]).length=(O++[o]).length;simp[h]
  ·show(τ++[o])[O.length]? =(O++[o])[O.length]?;rw[<-h];simp[h],agC_push o rfl⟩
theorem Jg.setAt{τ O:Q1}{b:Nat}(o:Obj)(h:τ[b]? =O[b]?):Jg τ (τ.set b o) O (O.set b o) [b+1]:=by
 have off:∀(τ:Q1) c,c∉[b+1]->agC (τ.set b o) τ c:=fun τ c hc=>by
  cases c with
  |zero=>exact BI
  |succ d=>have:b≠d:=λe=>hc (by simp[e]);exact BX this
 refine⟨off τ,λc hc=> ?_,off O⟩;simp only[Ag,List.not_mem_nil,or_false]at hc;subst hc;show(τ.set b o)[b]? =(O.set b o)[b]?;by_cases h1:b<τ.length
 ·have h2:b<O.length:=(by rw[A3 h1]at h;exact(AF.1 h.symm).1);rw[Bc h1,Bc h2]
 ·have h2:¬b<O.length:=λh2=>(by rw[A3 h2]at h;exact h1 (AF.1 h).1);rw[Ad (by simp;omega),Ad (by simp;omega)]
theorem X9{τ O:Q1}{r:Ref}(h:agC τ O (r.id+1)):τ.at? r=O.at? r:=by unfold Q1.at?;rw[show τ[r.id]? =O[r.id]? from h]
theorem UJ{r r':Q0}:∀{ps:List (Nat×Operand)},(∀x∈ps.map (·.2),ev r' x=ev r x)->evs r' ps=evs r ps
 |[],_=>rfl
 |(i,x)::rest,h=>by simp only[evs];rw[h x (by simp),UJ (ps:=rest) λy hy=>h y (by simp at hy⊢;exact .inr hy)]
theorem Xn{r r':Q0}:∀{ps:List Operand},(∀x∈ps,ev r' x=ev r x)->evl r' ps=evl r ps
 |[],_=>rfl
 |x::rest,h=>by simp only[evl];rw[h x (by simp),Xn (ps:=rest) λy hy=>h y (by simp[hy])]
theorem UK{r r':Q0}:∀{x:Option Operand},(∀y∈x.toArray,ev r' y=ev r y)->evo r' x=evo r x
 |none,_=>rfl
 |some y,h=>by simp only[evo];rw[h y (by simp)]
theorem opE_regs{r r':Q0}{O:Q1}{op:Op}(hr:∀x∈op.operands,ev r' x=ev r x):opE P r' O op=opE P r O op:=by
 cases op with
 |move x=>simp only[opE];rw[hr x (by simp[Op.operands])]
 |assign x=>simp only[opE];rw[hr x (by simp[Op.operands])]
 |pick c a b=>
  simp only[opE];rw[hr c (by simp[Op.operands])];split
  ·rename_i t _;cases t
   ·simp only[AP,Af];rw[hr b (by simp[Op.operands])]
   ·simp only[Ai];rw[hr a (by simp[Op.operands])]
  ·rfl
 |alloc e=>rfl
 |box t x=>simp only[opE];rw[hr x (by simp[Op.operands])]
 |build t ps=>simp only[opE];rw[UJ λx hx=>hr x (by simpa [Op.operands] using hx)]
 |buildSlice t n ps=>simp only[opE];rw[UJ λx hx=>hr x (by simpa [Op.operands] using hx)]
 |load t a=>simp only[opE];rw[hr a (by simp[Op.operands])]
 |store t a x=>simp only[opE];rw[hr a (by simp[Op.operands]),hr x (by simp[Op.operands])]
 |nilCheck x=>simp only[opE];rw[hr x (by simp[Op.operands])]
 |binOp op t x y u=>simp only[opE];rw[hr x (by simp[Op.operands]),hr y (by simp[Op.operands])]
 |unOp op t x=>simp only[opE];rw[hr x (by simp[Op.operands])]
 |convert s d x=>simp only[opE];rw[hr x (by simp[Op.operands])]
 |makeFunc f first caps=>
  cases f with
  |func f=>simp only[opE];rw[Xn λx hx=>hr x (by simp[Op.operands];exact .inr (by simpa using hx))]
  |_=>rfl
 |makeSlice t l c=>simp only[opE];rw[hr l (by simp[Op.operands]),hr c (by simp[Op.operands])]
 |slice t x l h m=>
  simp only[opE];rw[hr x (by simp[Op.operands]),UK (x:=l) λy hy=>hr y (by simp[Op.operands]at hy⊢;simp[hy]),UK (x:=h) λy hy=>hr y (by simp[Op.operands]at hy⊢;simp[hy]),
   UK (x:=m) λy hy=>hr y (by simp[Op.operands]at hy⊢;simp[hy])]
 |fieldAddr t x f=>simp only[opE];rw[hr x (by simp[Op.operands])]
 |field t x f=>simp only[opE];rw[hr x (by simp[Op.operands])]
 |indexAddr t x i=>simp only[opE];rw[hr x (by simp[Op.operands]),hr i (by simp[Op.operands])]
 |index t x i=>simp only[opE];rw[hr x (by simp[Op.operands]),hr i (by simp[Op.operands])]
 |extract x i=>simp only[opE];rw[hr x (by simp[Op.operands])]
 |call c=>
  obtain⟨callee,args,ts⟩:=c
  cases callee with
  |builtin b=>simp only[opE];rw[Xn λx hx=>hr x (by simp[Op.operands,Call.operands];simpa using hx)]
  |_=>rfl
 |_=>rfl
theorem loadE_congr{τ O:Q1}{i:Qp}{v:AV}(h:∀c∈J7 (some v),agC τ O c):ZQ τ i v=ZQ O i v:=by
 unfold ZQ;split
 ·rw[X9 (h _ (by simp[J7]))]
 ·rfl
 ·rfl
theorem sliceE_congr{τ O:Q1}{t:TypeId}{v:AV}{lo hi mx:Option AV}(h:∀c∈J7 (some v),agC τ O c):Yc P τ t v lo hi mx=Yc P O t v lo hi mx:=by
 unfold Yc;split
 ·split
  ·rfl
  ·rw[X9 (h _ (by simp[J7]))]
  ·rfl
  ·rfl
 ·rfl
theorem Wg{τ O:Q1}{es n:Nat}{v:AV}(h:∀c∈J7 (some v),agC τ O c):Qt τ es n v=Qt O es n v:=by
 unfold Qt;split
 ·rw[X9 (h _ (by simp[J7]))]
 ·rfl
 ·rfl
 ·rfl
end
end Go.Abs
