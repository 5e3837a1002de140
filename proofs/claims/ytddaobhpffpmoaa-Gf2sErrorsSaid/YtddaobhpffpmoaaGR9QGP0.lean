/-
  Gf2s: the examples of the chapter, evaluated.
-/
import Derived.Test.YtddaobhpffpmoaaGR9QGc
set_option linter.all false
namespace Go.Proofs.Ytddaobhpffpmoaa
open Go.Abs
def Le {α : Type} (a b : Option α) : Prop := ∀ y,a = some y → b = some y
theorem Le.refl {α : Type} (a : Option α) : Le a a := fun _ h => h
theorem Le.bind {α β : Type} {a b : Option α} {f g : α → Option β} (h : Le a b) (h' : ∀ y,Le (f y) (g y)) : Le (bindO a f) (bindO b g) := fun z hz => by
 obtain ⟨y,h1,h2⟩ := bindO_some hz
 rw [h y h1]; exact h' y z h2
theorem Le.cond {α : Type} {p : Bool} {a b c d : Option α} (h : Le a b) (h' : Le c d) : Le (bif p then a else c) (bif p then b else d) := by cases p <;> assumption
theorem Le.sum {α β γ : Type} {s : α ⊕ β} {f f' : α → Option γ} {g g' : β → Option γ} (h : ∀ y,Le (f y) (f' y)) (h' : ∀ y,Le (g y) (g' y)) : Le (sumC s f g) (sumC s f' g') := by
 cases s with
 | inl y => exact h y
 | inr y => exact h' y
theorem iterN_le {X Y : Type} {s s' : X → Option (X ⊕ Y)} (h : ∀ x,Le (s x) (s' x)) : ∀ (n : Nat) (x : X),Le (iterN s n x) (iterN s' n x)
 | 0,x => fun y hy => by cases hy
 | n + 1,x => fun y hy => by
  unfold iterN at hy ⊢
  split at hy
  ·rename_i x' e; rw [h x _ e]; exact iterN_le h n x' y hy
  ·rename_i y' e; rw [h x _ e]; exact hy
  ·cases hy
theorem Le.iter {X Y : Type} {s s' : X → Option (X ⊕ Y)} {n : Nat} (h : ∀ x,Le (s x) (s' x)) (x : X) : Le (iterN s n x) (Go.Abs.iter s' x) := fun y hy => iter_of (iterN_le h n x y hy)
namespace M84
def s0' (x : p0X) : Option (p0X ⊕ q0X) := bif decide (x.i < x.k) then bif inR x.i x.l.length then bindO (M108.m ⟨x.l[x.i.toNat]?.getD 0⟩) fun y => some (Sum.inl ⟨IntKind.i64.wrap (x.s + y),x.l,x.k,IntKind.i64.wrap (x.i + 1)⟩) else none else some (Sum.inr ⟨x.s⟩)
theorem s0_le (x : _) : Le (s0' x) (s0 x) := by
 unfold s0' s0
 repeat' first | with_reducible exact Le.refl _ | with_reducible apply Le.bind | with_reducible apply Le.cond | with_reducible apply Le.sum | intro _
def m' (x : gX) : Option fY := bindO (iterN s0' 200 ⟨0,x.w,(↑x.w.length : Int),0⟩) fun y => some y.s
theorem m_le (x : _) : Le (m' x) (m x) := by
 unfold m' m
 repeat' first | with_reducible exact Le.refl _ | with_reducible exact Le.iter s0_le _ | with_reducible apply Le.bind | with_reducible apply Le.cond | with_reducible apply Le.sum | intro _
end M84
namespace M52
def s0' (x : p0X) : Option (p0X ⊕ (q0X ⊕ z0X)) := bif decide (x.i < x.n) then bif inR x.i x.l.length then bif decide (x.l[x.i.toNat]?.getD 0 > 1) then some (Sum.inr (Sum.inr ⟨1,0⟩)) else bif x.l[x.i.toNat]?.getD 0 == 1 then bindO (M75.m ⟨x.vn,x.vw_lo,x.vw_len,x.vw_cap,x.i,x.ws⟩) fun y => some (Sum.inl ⟨x.l,x.n,IntKind.i64.wrap (x.i + 1),y,x.vn,x.vw_lo,x.vw_len,x.vw_cap⟩) else some (Sum.inl ⟨x.l,x.n,IntKind.i64.wrap (x.i + 1),x.ws,x.vn,x.vw_lo,x.vw_len,x.vw_cap⟩) else none else some (Sum.inr (Sum.inl ⟨x.ws,x.vn,x.vw_lo,x.vw_len,x.vw_cap⟩))
theorem s0_le (x : _) : Le (s0' x) (s0 x) := by
 unfold s0' s0
 repeat' first | with_reducible exact Le.refl _ | with_reducible apply Le.bind | with_reducible apply Le.cond | with_reducible apply Le.sum | intro _
def m' (x : gX) : Option fY := bindO (M51.m ⟨(↑x.l.length : Int)⟩) fun y => bif y.snd.snd.snd.snd.fst != 0 then some (0,[],y.snd.snd.snd.snd.fst) else bindO (iterN s0' 200 ⟨x.l,(↑x.l.length : Int),0,y.snd.snd.snd.snd.snd,y.fst,y.snd.fst,y.snd.snd.fst,y.snd.snd.snd.fst⟩) fun s => sumC s (fun y => bif leB (y.vw_lo + y.vw_len) y.ws.length && true && true && true && true then some (y.vn,List.take y.vw_len (List.drop y.vw_lo y.ws),0) else none) fun z => some (z.rn,[],z.e)
theorem m_le (x : _) : Le (m' x) (m x) := by
 unfold m' m
 repeat' first | with_reducible exact Le.refl _ | with_reducible exact Le.iter s0_le _ | with_reducible apply Le.bind | with_reducible apply Le.cond | with_reducible apply Le.sum | intro _
end M52
namespace M24
def m' (x : gX) : Option fY := bindO (M52.m' ⟨x.l⟩) fun y => some (y.fst,y.snd.fst)
theorem m_le (x : _) : Le (m' x) (m x) := by
 unfold m' m
 repeat' first | with_reducible exact Le.refl _ | with_reducible exact M52.m_le _ | with_reducible apply Le.bind | with_reducible apply Le.cond | with_reducible apply Le.sum | intro _
end M24
namespace M34
def s0' (x : p0X) : Option (p0X ⊕ q0X) := bif decide (x.i < x.k) then bindO (M74.m ⟨x.n,x.w,x.i⟩) fun y => bif y then bif inR x.i x.out_len then bif decide (x.out_lo + x.i.toNat < x.xs.length) then some (Sum.inl ⟨x.out_lo,x.out_len,x.out_cap,x.k,IntKind.i64.wrap (x.i + 1),x.n,x.w,x.xs.set (x.out_lo + x.i.toNat) 1⟩) else none else none else some (Sum.inl ⟨x.out_lo,x.out_len,x.out_cap,x.k,IntKind.i64.wrap (x.i + 1),x.n,x.w,x.xs⟩) else some (Sum.inr ⟨x.out_lo,x.out_len,x.out_cap,x.n,x.w,x.xs⟩)
theorem s0_le (x : _) : Le (s0' x) (s0 x) := by
 unfold s0' s0
 repeat' first | with_reducible exact Le.refl _ | with_reducible apply Le.bind | with_reducible apply Le.cond | with_reducible apply Le.sum | intro _
def m' (x : gX) : Option fY := bindO (M38.m ⟨x.n,x.w⟩) fun y => bif y != 0 then some [] else bif decide (0 ≤ x.n) && decide (x.n ≤ x.n) && decide (x.n * (↑1 : Int) ≤ 281474976710656) && decide (x.n ≤ 9223372036854775807) then bindO (iterN s0' 200 ⟨0,x.n.toNat,x.n.toNat,(↑x.n.toNat : Int),0,x.n,x.w,List.replicate x.n.toNat (0 : Int)⟩) fun y => bif leB (y.out_lo + y.out_len) y.xs.length && true && true then some (List.take y.out_len (List.drop y.out_lo y.xs)) else none else none
theorem m_le (x : _) : Le (m' x) (m x) := by
 unfold m' m
 repeat' first | with_reducible exact Le.refl _ | with_reducible exact Le.iter s0_le _ | with_reducible apply Le.bind | with_reducible apply Le.cond | with_reducible apply Le.sum | intro _
end M34
namespace M36
def m' (x : gX) : Option fY := bindO (M38.m ⟨x.n,x.w⟩) fun y => bif y != 0 then some 0 else bindO (M84.m' ⟨x.n,x.w⟩) fun y => some y
theorem m_le (x : _) : Le (m' x) (m x) := by
 unfold m' m
 repeat' first | with_reducible exact Le.refl _ | with_reducible exact M84.m_le _ | with_reducible apply Le.bind | with_reducible apply Le.cond | with_reducible apply Le.sum | intro _
end M36
namespace M79
def s0' (x : p0X) : Option (p0X ⊕ (q0X ⊕ z0X)) := bif decide (x.i < x.k) then bif inR x.i x.l.length then bindO (M38.m ⟨(x.l[x.i.toNat]?.getD (0,[])).fst,(x.l[x.i.toNat]?.getD (0,[])).snd⟩) fun y => bif y != 0 then some (Sum.inr (Sum.inr ⟨y⟩)) else some (Sum.inl ⟨x.l,x.k,IntKind.i64.wrap (x.i + 1),x.an,x.aw,x.bn,x.bw⟩) else none else some (Sum.inr (Sum.inl ⟨x.an,x.aw,x.bn,x.bw⟩))
theorem s0_le (x : _) : Le (s0' x) (s0 x) := by
 unfold s0' s0
 repeat' first | with_reducible exact Le.refl _ | with_reducible apply Le.bind | with_reducible apply Le.cond | with_reducible apply Le.sum | intro _
def m' (x : gX) : Option fY := bindO (iterN s0' 200 ⟨[(x.an,x.aw),(x.bn,x.bw)],(↑2 : Int),0,x.an,x.aw,x.bn,x.bw⟩) fun s => sumC s (fun y => bif y.an != y.bn then some 8 else some 0) fun z => some z.r
theorem m_le (x : _) : Le (m' x) (m x) := by
 unfold m' m
 repeat' first | with_reducible exact Le.refl _ | with_reducible exact Le.iter s0_le _ | with_reducible apply Le.bind | with_reducible apply Le.cond | with_reducible apply Le.sum | intro _
end M79
namespace M104x
def s0' (x : p0X) : Option (p0X ⊕ q0X) := bif decide (x.i < x.k) then bif inR x.i x.aw.length then bif inR x.i x.bw.length then bindO (M105.m ⟨x.aw[x.i.toNat]?.getD 0,x.bw[x.i.toNat]?.getD 0⟩) fun y => bif inR x.i x.ow_len then bif decide (x.ow_lo + x.i.toNat < x.ws.length) then some (Sum.inl ⟨x.k,IntKind.i64.wrap (x.i + 1),x.an,x.aw,x.bn,x.bw,x.ws.set (x.ow_lo + x.i.toNat) y,x.on,x.ow_lo,x.ow_len,x.ow_cap⟩) else none else none else none else none else some (Sum.inr ⟨x.an,x.aw,x.bn,x.bw,x.ws,x.on,x.ow_lo,x.ow_len,x.ow_cap⟩)
theorem s0_le (x : _) : Le (s0' x) (s0 x) := by
 unfold s0' s0
 repeat' first | with_reducible exact Le.refl _ | with_reducible apply Le.bind | with_reducible apply Le.cond | with_reducible apply Le.sum | intro _
def m' (x : gX) : Option fY := bindO (M73.m ⟨x.an⟩) fun y => bindO (iterN s0' 200 ⟨(↑y.snd.snd.fst : Int),0,x.an,x.aw,x.bn,x.bw,y.snd.snd.snd.snd,y.fst,y.snd.fst,y.snd.snd.fst,y.snd.snd.snd.fst⟩) fun y => bif leB (y.ow_lo + y.ow_len) y.ws.length && true && true && true then some (y.on,List.take y.ow_len (List.drop y.ow_lo y.ws)) else none
theorem m_le (x : _) : Le (m' x) (m x) := by
 unfold m' m
 repeat' first | with_reducible exact Le.refl _ | with_reducible exact Le.iter s0_le _ | with_reducible apply Le.bind | with_reducible apply Le.cond | with_reducible apply Le.sum | intro _
end M104x
namespace M104a
def s0' (x : p0X) : Option (p0X ⊕ q0X) := bif decide (x.i < x.k) then bif inR x.i x.aw.length then bif inR x.i x.bw.length then bindO (M106.m ⟨x.aw[x.i.toNat]?.getD 0,x.bw[x.i.toNat]?.getD 0⟩) fun y => bif inR x.i x.ow_len then bif decide (x.ow_lo + x.i.toNat < x.ws.length) then some (Sum.inl ⟨x.k,IntKind.i64.wrap (x.i + 1),x.an,x.aw,x.bn,x.bw,x.ws.set (x.ow_lo + x.i.toNat) y,x.on,x.ow_lo,x.ow_len,x.ow_cap⟩) else none else none else none else none else some (Sum.inr ⟨x.an,x.aw,x.bn,x.bw,x.ws,x.on,x.ow_lo,x.ow_len,x.ow_cap⟩)
theorem s0_le (x : _) : Le (s0' x) (s0 x) := by
 unfold s0' s0
 repeat' first | with_reducible exact Le.refl _ | with_reducible apply Le.bind | with_reducible apply Le.cond | with_reducible apply Le.sum | intro _
def m' (x : gX) : Option fY := bindO (M73.m ⟨x.an⟩) fun y => bindO (iterN s0' 200 ⟨(↑y.snd.snd.fst : Int),0,x.an,x.aw,x.bn,x.bw,y.snd.snd.snd.snd,y.fst,y.snd.fst,y.snd.snd.fst,y.snd.snd.snd.fst⟩) fun y => bif leB (y.ow_lo + y.ow_len) y.ws.length && true && true && true then some (y.on,List.take y.ow_len (List.drop y.ow_lo y.ws)) else none
theorem m_le (x : _) : Le (m' x) (m x) := by
 unfold m' m
 repeat' first | with_reducible exact Le.refl _ | with_reducible exact Le.iter s0_le _ | with_reducible apply Le.bind | with_reducible apply Le.cond | with_reducible apply Le.sum | intro _
end M104a
namespace M80
def m' (x : gX) : Option fY := bindO (M104x.m' ⟨x.an,x.aw,x.bn,x.bw⟩) fun y => some (y.fst,y.snd)
theorem m_le (x : _) : Le (m' x) (m x) := by
 unfold m' m
 repeat' first | with_reducible exact Le.refl _ | with_reducible exact M104x.m_le _ | with_reducible apply Le.bind | with_reducible apply Le.cond | with_reducible apply Le.sum | intro _
end M80
namespace M81
def m' (x : gX) : Option fY := bindO (M104a.m' ⟨x.an,x.aw,x.bn,x.bw⟩) fun y => bindO (M84.m' ⟨y.fst,y.snd⟩) fun y => some (Int.tmod y 2 == 1)
theorem m_le (x : _) : Le (m' x) (m x) := by
 unfold m' m
 repeat' first | with_reducible exact Le.refl _ | with_reducible exact M84.m_le _ | with_reducible exact M104a.m_le _ | with_reducible apply Le.bind | with_reducible apply Le.cond | with_reducible apply Le.sum | intro _
end M81
namespace M28
def m' (x : gX) : Option fY := bindO (M79.m' ⟨x.an,x.aw,x.bn,x.bw⟩) fun y => bif y != 0 then some (0,[],y) else bindO (M80.m' ⟨x.an,x.aw,x.bn,x.bw⟩) fun y => some (y.fst,y.snd,0)
theorem m_le (x : _) : Le (m' x) (m x) := by
 unfold m' m
 repeat' first | with_reducible exact Le.refl _ | with_reducible exact M79.m_le _ | with_reducible exact M80.m_le _ | with_reducible apply Le.bind | with_reducible apply Le.cond | with_reducible apply Le.sum | intro _
end M28
namespace M33
def m' (x : gX) : Option fY := bindO (M79.m' ⟨x.an,x.aw,x.bn,x.bw⟩) fun y => bif y != 0 then some (0,y) else bindO (M81.m' ⟨x.an,x.aw,x.bn,x.bw⟩) fun y => bif y then some (1,0) else some (0,0)
theorem m_le (x : _) : Le (m' x) (m x) := by
 unfold m' m
 repeat' first | with_reducible exact Le.refl _ | with_reducible exact M79.m_le _ | with_reducible exact M81.m_le _ | with_reducible apply Le.bind | with_reducible apply Le.cond | with_reducible apply Le.sum | intro _
end M33
namespace M50
def s0' (x : p0X) : Option (p0X ⊕ (q0X ⊕ z0X)) := bif decide (x.i < x.k) then bif inR x.i x.l.length then bindO (M38.m ⟨(x.l[x.i.toNat]?.getD (0,[])).fst,(x.l[x.i.toNat]?.getD (0,[])).snd⟩) fun y => bif y != 0 then some (Sum.inr (Sum.inr ⟨y⟩)) else bif (x.l[x.i.toNat]?.getD (0,[])).fst != x.c then some (Sum.inr (Sum.inr ⟨8⟩)) else some (Sum.inl ⟨x.l,x.k,IntKind.i64.wrap (x.i + 1),x.c,x.rows⟩) else none else some (Sum.inr (Sum.inl PUnit.unit))
theorem s0_le (x : _) : Le (s0' x) (s0 x) := by
 unfold s0' s0
 repeat' first | with_reducible exact Le.refl _ | with_reducible apply Le.bind | with_reducible apply Le.cond | with_reducible apply Le.sum | intro _
def m' (x : gX) : Option fY := bindO (M85.m ⟨x.c⟩) fun y => bif y != 0 then some y else bindO (M85.m ⟨(↑x.rows.length : Int)⟩) fun y => bif y != 0 then some y else bindO (iterN s0' 200 ⟨x.rows,(↑x.rows.length : Int),0,x.c,x.rows⟩) fun s => sumC s (fun y => some 0) fun z => some z.r
theorem m_le (x : _) : Le (m' x) (m x) := by
 unfold m' m
 repeat' first | with_reducible exact Le.refl _ | with_reducible exact Le.iter s0_le _ | with_reducible apply Le.bind | with_reducible apply Le.cond | with_reducible apply Le.sum | intro _
end M50
namespace M29
def s0' (x : p0X) : Option (p0X ⊕ q0X) := bif decide (x.i < x.k) then bif inR x.i x.l.length then bindO (M81.m' ⟨(x.l[x.i.toNat]?.getD (0,[])).fst,(x.l[x.i.toNat]?.getD (0,[])).snd,x.vn,x.vw⟩) fun y => bif y then bindO (M75.m ⟨x.on,x.ow_lo,x.ow_len,x.ow_cap,x.i,x.ws⟩) fun y => some (Sum.inl ⟨x.l,x.k,IntKind.i64.wrap (x.i + 1),x.c,x.rows,x.vn,x.vw,y,x.on,x.ow_lo,x.ow_len,x.ow_cap⟩) else some (Sum.inl ⟨x.l,x.k,IntKind.i64.wrap (x.i + 1),x.c,x.rows,x.vn,x.vw,x.ws,x.on,x.ow_lo,x.ow_len,x.ow_cap⟩) else none else some (Sum.inr ⟨x.c,x.rows,x.vn,x.vw,x.ws,x.on,x.ow_lo,x.ow_len,x.ow_cap⟩)
theorem s0_le (x : _) : Le (s0' x) (s0 x) := by
 unfold s0' s0
 repeat' first | with_reducible exact Le.refl _ | with_reducible exact M81.m_le _ | with_reducible apply Le.bind | with_reducible apply Le.cond | with_reducible apply Le.sum | intro _
def m' (x : gX) : Option fY := bindO (M50.m' ⟨x.c,x.rows⟩) fun y => bif y != 0 then some (0,[],y) else bindO (M38.m ⟨x.vn,x.vw⟩) fun y => bif y != 0 then some (0,[],y) else bif x.vn != x.c then some (0,[],8) else bindO (M73.m ⟨(↑x.rows.length : Int)⟩) fun y => bindO (iterN s0' 200 ⟨x.rows,(↑x.rows.length : Int),0,x.c,x.rows,x.vn,x.vw,y.snd.snd.snd.snd,y.fst,y.snd.fst,y.snd.snd.fst,y.snd.snd.snd.fst⟩) fun y => bif leB (y.ow_lo + y.ow_len) y.ws.length && true && true && true && true then some (y.on,List.take y.ow_len (List.drop y.ow_lo y.ws),0) else none
theorem m_le (x : _) : Le (m' x) (m x) := by
 unfold m' m
 repeat' first | with_reducible exact Le.refl _ | with_reducible exact M50.m_le _ | with_reducible exact Le.iter s0_le _ | with_reducible apply Le.bind | with_reducible apply Le.cond | with_reducible apply Le.sum | intro _
end M29
namespace M102
def s0' (x : p0X) : Option (p0X ⊕ q0X) := bif decide (x.i < x.n) then bif inR x.i x.rows_len || !!x.i == x.top then bif decide (x.rows_lo + x.i.toNat < x.rs.length) || !!x.i == x.top then bindO (bif !x.i == x.top then M74.m ⟨(x.rs[x.rows_lo + x.i.toNat]?.getD (0,[])).fst,(x.rs[x.rows_lo + x.i.toNat]?.getD (0,[])).snd,x.k⟩ else some false) fun y => bif bif x.i == x.top then true else !y then some (Sum.inl ⟨x.top,x.k,x.n,IntKind.i64.wrap (x.i + 1),x.rows_lo,x.rows_len,x.rows_cap,x.more_lo,x.more_len,x.more_cap,x.piv_lo,x.piv_len,x.rs,x.ms,x.ps⟩) else bif inR x.i x.rows_len then bif decide (x.rows_lo + x.i.toNat < x.rs.length) then bif inR x.top x.rows_len then bif decide (x.rows_lo + x.top.toNat < x.rs.length) then bindO (M80.m' ⟨(x.rs[x.rows_lo + x.i.toNat]?.getD (0,[])).fst,(x.rs[x.rows_lo + x.i.toNat]?.getD (0,[])).snd,(x.rs[x.rows_lo + x.top.toNat]?.getD (0,[])).fst,(x.rs[x.rows_lo + x.top.toNat]?.getD (0,[])).snd⟩) fun y => bif inR x.i x.rows_len then bif decide (x.rows_lo + x.i.toNat < x.rs.length) then bif decide ((↑x.more_len : Int) > 0) then bif inR x.i x.more_len then bif decide (x.more_lo + x.i.toNat < x.ms.length) then bif inR x.top x.more_len then bif decide (x.more_lo + x.top.toNat < x.ms.length) then bindO (M80.m' ⟨(x.ms[x.more_lo + x.i.toNat]?.getD (0,[])).fst,(x.ms[x.more_lo + x.i.toNat]?.getD (0,[])).snd,(x.ms[x.more_lo + x.top.toNat]?.getD (0,[])).fst,(x.ms[x.more_lo + x.top.toNat]?.getD (0,[])).snd⟩) fun y_1 => bif inR x.i x.more_len then bif decide (x.more_lo + x.i.toNat < x.ms.length) then some (Sum.inl ⟨x.top,x.k,x.n,IntKind.i64.wrap (x.i + 1),x.rows_lo,x.rows_len,x.rows_cap,x.more_lo,x.more_len,x.more_cap,x.piv_lo,x.piv_len,x.rs.set (x.rows_lo + x.i.toNat) (y.fst,y.snd),x.ms.set (x.more_lo + x.i.toNat) (y_1.fst,y_1.snd),x.ps⟩) else none else none else none else none else none else none else some (Sum.inl ⟨x.top,x.k,x.n,IntKind.i64.wrap (x.i + 1),x.rows_lo,x.rows_len,x.rows_cap,x.more_lo,x.more_len,x.more_cap,x.piv_lo,x.piv_len,x.rs.set (x.rows_lo + x.i.toNat) (y.fst,y.snd),x.ms,x.ps⟩) else none else none else none else none else none else none else none else none else some (Sum.inr ⟨x.rows_lo,x.rows_len,x.rows_cap,x.more_lo,x.more_len,x.more_cap,x.piv_lo,x.piv_len,x.rs,x.ms,x.ps⟩)
theorem s0_le (x : _) : Le (s0' x) (s0 x) := by
 unfold s0' s0
 repeat' first | with_reducible exact Le.refl _ | with_reducible exact M80.m_le _ | with_reducible apply Le.bind | with_reducible apply Le.cond | with_reducible apply Le.sum | intro _
def m' (x : gX) : Option fY := bindO (iterN s0' 200 ⟨x.top,x.k,(↑x.rows_len : Int),0,x.rows_lo,x.rows_len,x.rows_cap,x.more_lo,x.more_len,x.more_cap,x.piv_lo,x.piv_len,x.rs,x.ms,x.ps⟩) fun y => some (y.rows_lo,y.rows_len,y.rows_cap,y.more_lo,y.more_len,y.more_cap,y.piv_lo,y.piv_len,y.rs,y.ms,y.ps)
theorem m_le (x : _) : Le (m' x) (m x) := by
 unfold m' m
 repeat' first | with_reducible exact Le.refl _ | with_reducible exact Le.iter s0_le _ | with_reducible apply Le.bind | with_reducible apply Le.cond | with_reducible apply Le.sum | intro _
end M102
namespace M76
def s1' (x : p1X) : Option (p1X ⊕ (q1X ⊕ z1X)) := bif decide (x.i < (↑x.wr_len : Int)) then bif inR x.i x.wr_len then bif decide (x.wr_lo + x.i.toNat < x.rs.length) then bindO (M74.m ⟨(x.rs[x.wr_lo + x.i.toNat]?.getD (0,[])).fst,(x.rs[x.wr_lo + x.i.toNat]?.getD (0,[])).snd,x.k1⟩) fun y => bif !y then some (Sum.inl ⟨x.n,x.k,x.k1,x.top,IntKind.i64.wrap (x.i + 1),x.c,x.rows,x.rs,x.ms,x.wr_lo,x.wr_len,x.wr_cap,x.wm_lo,x.wm_len,x.wm_cap,x.wp_lo,x.wp_len,x.ps⟩) else bindO (M101.m ⟨x.i,x.top,x.wr_lo,x.wr_len,x.wr_cap,x.wm_lo,x.wm_len,x.wm_cap,x.wp_lo,x.wp_len,x.rs,x.ms,x.ps⟩) fun y => bindO (M102.m' ⟨x.top,x.k1,y.fst,y.snd.fst,y.snd.snd.fst,y.snd.snd.snd.fst,y.snd.snd.snd.snd.fst,y.snd.snd.snd.snd.snd.fst,y.snd.snd.snd.snd.snd.snd.fst,y.snd.snd.snd.snd.snd.snd.snd.fst,y.snd.snd.snd.snd.snd.snd.snd.snd.fst,y.snd.snd.snd.snd.snd.snd.snd.snd.snd.fst,y.snd.snd.snd.snd.snd.snd.snd.snd.snd.snd⟩) fun y => bif eqN y.snd.snd.snd.snd.snd.snd.fst 0 && eqN y.snd.snd.snd.snd.snd.snd.snd.snd.snd.snd.length y.snd.snd.snd.snd.snd.snd.snd.fst && roomB (y.snd.snd.snd.snd.snd.snd.snd.fst + 1) 8 then some (Sum.inr (Sum.inr ⟨x.n,x.k,x.c,x.rows,y.snd.snd.snd.snd.snd.snd.snd.snd.fst,y.snd.snd.snd.snd.snd.snd.snd.snd.snd.fst,y.fst,y.snd.fst,y.snd.snd.fst,y.snd.snd.snd.fst,y.snd.snd.snd.snd.fst,y.snd.snd.snd.snd.snd.fst,0,y.snd.snd.snd.snd.snd.snd.snd.fst + 1,y.snd.snd.snd.snd.snd.snd.snd.snd.snd.snd ++ [x.k1]⟩)) else none else none else none else some (Sum.inr (Sum.inl ⟨x.n,x.k,x.c,x.rows,x.rs,x.ms,x.wr_lo,x.wr_len,x.wr_cap,x.wm_lo,x.wm_len,x.wm_cap,x.wp_lo,x.wp_len,x.ps⟩))
theorem s1_le (x : _) : Le (s1' x) (s1 x) := by
 unfold s1' s1
 repeat' first | with_reducible exact Le.refl _ | with_reducible exact M102.m_le _ | with_reducible apply Le.bind | with_reducible apply Le.cond | with_reducible apply Le.sum | intro _
def s0' (x : p0X) : Option (p0X ⊕ q0X) := bif decide (x.k < x.n) then bindO (iterN s1' 200 ⟨x.n,x.k,x.k,(↑x.wp_len : Int),(↑x.wp_len : Int),x.c,x.rows,x.rs,x.ms,x.wr_lo,x.wr_len,x.wr_cap,x.wm_lo,x.wm_len,x.wm_cap,x.wp_lo,x.wp_len,x.ps⟩) fun s => sumC s (fun y => some (Sum.inl ⟨y.n,IntKind.i64.wrap (y.k + 1),y.c,y.rows,y.rs,y.ms,y.wr_lo,y.wr_len,y.wr_cap,y.wm_lo,y.wm_len,y.wm_cap,y.wp_lo,y.wp_len,y.ps⟩)) fun z => some (Sum.inl ⟨z.n,IntKind.i64.wrap (z.k + 1),z.c,z.rows,z.rs,z.ms,z.wr_lo,z.wr_len,z.wr_cap,z.wm_lo,z.wm_len,z.wm_cap,z.wp_lo,z.wp_len,z.ps⟩) else some (Sum.inr ⟨x.c,x.rows,x.rs,x.ms,x.wr_lo,x.wr_len,x.wr_cap,x.wm_lo,x.wm_len,x.wm_cap,x.wp_lo,x.wp_len,x.ps⟩)
theorem s0_le (x : _) : Le (s0' x) (s0 x) := by
 unfold s0' s0
 repeat' first | with_reducible exact Le.refl _ | with_reducible exact Le.iter s1_le _ | with_reducible apply Le.bind | with_reducible apply Le.cond | with_reducible apply Le.sum | intro _
def m' (x : gX) : Option fY := bif decide (0 ≤ (↑x.rows.length : Int)) && decide ((↑x.rows.length : Int) ≤ (↑x.rows.length : Int)) && decide ((↑x.rows.length : Int) * (↑32 : Int) ≤ 281474976710656) && decide ((↑x.rows.length : Int) ≤ 9223372036854775807) then bif decide (0 ≤ (↑x.more.length : Int)) && decide ((↑x.more.length : Int) ≤ (↑x.more.length : Int)) && decide ((↑x.more.length : Int) * (↑32 : Int) ≤ 281474976710656) && decide ((↑x.more.length : Int) ≤ 9223372036854775807) then bif leB (0 + (↑x.rows.length : Int).toNat) (List.replicate (↑x.rows.length : Int).toNat ((0,[]) : Int × List Int)).length then bif leB (0 + (↑x.more.length : Int).toNat) (List.replicate (↑x.more.length : Int).toNat ((0,[]) : Int × List Int)).length then bindO (iterN s0' 200 ⟨x.c,0,x.c,x.rows,List.take 0 (List.replicate (↑x.rows.length : Int).toNat (0,[])) ++ List.take (min x.rows.length (↑x.rows.length : Int).toNat) x.rows ++ List.drop (0 + min x.rows.length (↑x.rows.length : Int).toNat) (List.replicate (↑x.rows.length : Int).toNat (0,[])),List.take 0 (List.replicate (↑x.more.length : Int).toNat (0,[])) ++ List.take (min x.more.length (↑x.more.length : Int).toNat) x.more ++ List.drop (0 + min x.more.length (↑x.more.length : Int).toNat) (List.replicate (↑x.more.length : Int).toNat (0,[])),0,(↑x.rows.length : Int).toNat,(↑x.rows.length : Int).toNat,0,(↑x.more.length : Int).toNat,(↑x.more.length : Int).toNat,0,0,[]⟩) fun y => some (y.rs,y.ms,y.wr_lo,y.wr_len,y.wr_cap,y.wm_lo,y.wm_len,y.wm_cap,y.wp_lo,y.wp_len,y.ps) else none else none else none else none
theorem m_le (x : _) : Le (m' x) (m x) := by
 unfold m' m
 repeat' first | with_reducible exact Le.refl _ | with_reducible exact Le.iter s0_le _ | with_reducible apply Le.bind | with_reducible apply Le.cond | with_reducible apply Le.sum | intro _
end M76
namespace M76o
def s1' (x : p1X) : Option (p1X ⊕ (q1X ⊕ z1X)) := bif decide (x.i < (↑x.wr_len : Int)) then bif inR x.i x.wr_len then bif decide (x.wr_lo + x.i.toNat < x.rs.length) then bindO (M74.m ⟨(x.rs[x.wr_lo + x.i.toNat]?.getD (0,[])).fst,(x.rs[x.wr_lo + x.i.toNat]?.getD (0,[])).snd,x.k1⟩) fun y => bif !y then some (Sum.inl ⟨x.n,x.k,x.k1,x.top,IntKind.i64.wrap (x.i + 1),x.m0,x.c,x.rows,x.rs,x.ms,x.wr_lo,x.wr_len,x.wr_cap,x.wm_lo,x.wm_len,x.wm_cap,x.wp_lo,x.wp_len,x.ps⟩) else bindO (M101.m ⟨x.i,x.top,x.wr_lo,x.wr_len,x.wr_cap,x.wm_lo,x.wm_len,x.wm_cap,x.wp_lo,x.wp_len,x.rs,x.ms,x.ps⟩) fun y => bindO (M102.m' ⟨x.top,x.k1,y.fst,y.snd.fst,y.snd.snd.fst,y.snd.snd.snd.fst,y.snd.snd.snd.snd.fst,y.snd.snd.snd.snd.snd.fst,y.snd.snd.snd.snd.snd.snd.fst,y.snd.snd.snd.snd.snd.snd.snd.fst,y.snd.snd.snd.snd.snd.snd.snd.snd.fst,y.snd.snd.snd.snd.snd.snd.snd.snd.snd.fst,y.snd.snd.snd.snd.snd.snd.snd.snd.snd.snd⟩) fun y => bif eqN y.snd.snd.snd.snd.snd.snd.fst 0 && eqN y.snd.snd.snd.snd.snd.snd.snd.snd.snd.snd.length y.snd.snd.snd.snd.snd.snd.snd.fst && roomB (y.snd.snd.snd.snd.snd.snd.snd.fst + 1) 8 then some (Sum.inr (Sum.inr ⟨x.n,x.k,x.m0,x.c,x.rows,y.snd.snd.snd.snd.snd.snd.snd.snd.fst,y.snd.snd.snd.snd.snd.snd.snd.snd.snd.fst,y.fst,y.snd.fst,y.snd.snd.fst,y.snd.snd.snd.fst,y.snd.snd.snd.snd.fst,y.snd.snd.snd.snd.snd.fst,0,y.snd.snd.snd.snd.snd.snd.snd.fst + 1,y.snd.snd.snd.snd.snd.snd.snd.snd.snd.snd ++ [x.k1]⟩)) else none else none else none else some (Sum.inr (Sum.inl ⟨x.n,x.k,x.m0,x.c,x.rows,x.rs,x.ms,x.wr_lo,x.wr_len,x.wr_cap,x.wm_lo,x.wm_len,x.wm_cap,x.wp_lo,x.wp_len,x.ps⟩))
theorem s1_le (x : _) : Le (s1' x) (s1 x) := by
 unfold s1' s1
 repeat' first | with_reducible exact Le.refl _ | with_reducible exact M102.m_le _ | with_reducible apply Le.bind | with_reducible apply Le.cond | with_reducible apply Le.sum | intro _
def s0' (x : p0X) : Option (p0X ⊕ q0X) := bif decide (x.k < x.n) then bindO (iterN s1' 200 ⟨x.n,x.k,x.k,(↑x.wp_len : Int),(↑x.wp_len : Int),x.m0,x.c,x.rows,x.rs,x.ms,x.wr_lo,x.wr_len,x.wr_cap,x.wm_lo,x.wm_len,x.wm_cap,x.wp_lo,x.wp_len,x.ps⟩) fun s => sumC s (fun y => some (Sum.inl ⟨y.n,IntKind.i64.wrap (y.k + 1),y.m0,y.c,y.rows,y.rs,y.ms,y.wr_lo,y.wr_len,y.wr_cap,y.wm_lo,y.wm_len,y.wm_cap,y.wp_lo,y.wp_len,y.ps⟩)) fun z => some (Sum.inl ⟨z.n,IntKind.i64.wrap (z.k + 1),z.m0,z.c,z.rows,z.rs,z.ms,z.wr_lo,z.wr_len,z.wr_cap,z.wm_lo,z.wm_len,z.wm_cap,z.wp_lo,z.wp_len,z.ps⟩) else some (Sum.inr ⟨x.m0,x.c,x.rows,x.rs,x.ms,x.wr_lo,x.wr_len,x.wr_cap,x.wm_lo,x.wm_len,x.wm_cap,x.wp_lo,x.wp_len,x.ps⟩)
theorem s0_le (x : _) : Le (s0' x) (s0 x) := by
 unfold s0' s0
 repeat' first | with_reducible exact Le.refl _ | with_reducible exact Le.iter s1_le _ | with_reducible apply Le.bind | with_reducible apply Le.cond | with_reducible apply Le.sum | intro _
def m' (x : gX) : Option fY := bif decide (0 ≤ (↑x.rows.length : Int)) && decide ((↑x.rows.length : Int) ≤ (↑x.rows.length : Int)) && decide ((↑x.rows.length : Int) * (↑32 : Int) ≤ 281474976710656) && decide ((↑x.rows.length : Int) ≤ 9223372036854775807) then bif decide (0 ≤ (↑x.more_len : Int)) && decide ((↑x.more_len : Int) ≤ (↑x.more_len : Int)) && decide ((↑x.more_len : Int) * (↑32 : Int) ≤ 281474976710656) && decide ((↑x.more_len : Int) ≤ 9223372036854775807) then bif leB (0 + (↑x.rows.length : Int).toNat) (List.replicate (↑x.rows.length : Int).toNat ((0,[]) : Int × List Int)).length then bif leB (x.more_lo + x.more_len) x.m0.length && leB (0 + (↑x.more_len : Int).toNat) (List.replicate (↑x.more_len : Int).toNat ((0,[]) : Int × List Int)).length then bindO (iterN s0' 200 ⟨x.c,0,x.m0,x.c,x.rows,List.take 0 (List.replicate (↑x.rows.length : Int).toNat (0,[])) ++ List.take (min x.rows.length (↑x.rows.length : Int).toNat) x.rows ++ List.drop (0 + min x.rows.length (↑x.rows.length : Int).toNat) (List.replicate (↑x.rows.length : Int).toNat (0,[])),List.take 0 (List.replicate (↑x.more_len : Int).toNat (0,[])) ++ List.take (min x.more_len (↑x.more_len : Int).toNat) (List.take x.more_len (List.drop x.more_lo x.m0)) ++ List.drop (0 + min x.more_len (↑x.more_len : Int).toNat) (List.replicate (↑x.more_len : Int).toNat (0,[])),0,(↑x.rows.length : Int).toNat,(↑x.rows.length : Int).toNat,0,(↑x.more_len : Int).toNat,(↑x.more_len : Int).toNat,0,0,[]⟩) fun y => some (y.m0,y.rs,y.ms,y.wr_lo,y.wr_len,y.wr_cap,y.wm_lo,y.wm_len,y.wm_cap,y.wp_lo,y.wp_len,y.ps) else none else none else none else none
theorem m_le (x : _) : Le (m' x) (m x) := by
 unfold m' m
 repeat' first | with_reducible exact Le.refl _ | with_reducible exact Le.iter s0_le _ | with_reducible apply Le.bind | with_reducible apply Le.cond | with_reducible apply Le.sum | intro _
end M76o
namespace M103
def s0' (x : p0X) : Option (p0X ⊕ (q0X ⊕ z0X)) := bif decide (x.i < x.n) then bif inR x.i x.s.length then bif x.v == x.s[x.i.toNat]?.getD 0 then some (Sum.inr (Sum.inr ⟨x.i⟩)) else some (Sum.inl ⟨x.s,x.v,x.n,IntKind.i64.wrap (x.i + 1)⟩) else none else some (Sum.inr (Sum.inl PUnit.unit))
theorem s0_le (x : _) : Le (s0' x) (s0 x) := by
 unfold s0' s0
 repeat' first | with_reducible exact Le.refl _ | with_reducible apply Le.bind | with_reducible apply Le.cond | with_reducible apply Le.sum | intro _
def m' (x : gX) : Option fY := bindO (iterN s0' 200 ⟨x.s,x.v,(↑x.s.length : Int),0⟩) fun s => sumC s (fun y => some (-1)) fun z => some z.r
theorem m_le (x : _) : Le (m' x) (m x) := by
 unfold m' m
 repeat' first | with_reducible exact Le.refl _ | with_reducible exact Le.iter s0_le _ | with_reducible apply Le.bind | with_reducible apply Le.cond | with_reducible apply Le.sum | intro _
end M103
namespace M77
def m' (x : gX) : Option fY := bindO (M103.m' ⟨x.s,x.v⟩) fun y => some (decide (y ≥ 0))
theorem m_le (x : _) : Le (m' x) (m x) := by
 unfold m' m
 repeat' first | with_reducible exact Le.refl _ | with_reducible exact M103.m_le _ | with_reducible apply Le.bind | with_reducible apply Le.cond | with_reducible apply Le.sum | intro _
end M77
namespace M26
def m' (x : gX) : Option fY := bindO (M50.m' ⟨x.c,x.rows⟩) fun y => bif y != 0 then some (0,y) else bindO (M76.m' ⟨x.c,x.rows,[]⟩) fun y => some ((↑y.snd.snd.snd.snd.snd.snd.snd.snd.snd.fst : Int),0)
theorem m_le (x : _) : Le (m' x) (m x) := by
 unfold m' m
 repeat' first | with_reducible exact Le.refl _ | with_reducible exact M50.m_le _ | with_reducible exact M76.m_le _ | with_reducible apply Le.bind | with_reducible apply Le.cond | with_reducible apply Le.sum | intro _
end M26
namespace M25
def s1' (x : p1X) : Option (p1X ⊕ q1X) := bif decide (x.i2 < x.n2) then bif inR x.i2 x.pv_len then bif decide (x.pv_lo + x.i2.toNat < x.ps.length) then bif inR x.i2 x.wr_len then bif decide (x.wr_lo + x.i2.toNat < x.rs.length) then bindO (M74.m ⟨(x.rs[x.wr_lo + x.i2.toNat]?.getD (0,[])).fst,(x.rs[x.wr_lo + x.i2.toNat]?.getD (0,[])).snd,x.k⟩) fun y => bif y then bindO (M75.m ⟨x.vn,x.vw_lo,x.vw_len,x.vw_cap,x.ps[x.pv_lo + x.i2.toNat]?.getD 0,x.ws⟩) fun y => some (Sum.inl ⟨x.out_lo,x.out_len,x.out_cap,x.n,x.i,x.k,x.pv_lo,x.pv_len,x.n2,IntKind.i64.wrap (x.i2 + 1),x.c,x.rows,x.rs,x.ms,x.wr_lo,x.wr_len,x.wr_cap,x.wm_lo,x.wm_len,x.wm_cap,x.wp_lo,x.wp_len,x.ps,x.out,y,x.vn,x.vw_lo,x.vw_len,x.vw_cap⟩) else some (Sum.inl ⟨x.out_lo,x.out_len,x.out_cap,x.n,x.i,x.k,x.pv_lo,x.pv_len,x.n2,IntKind.i64.wrap (x.i2 + 1),x.c,x.rows,x.rs,x.ms,x.wr_lo,x.wr_len,x.wr_cap,x.wm_lo,x.wm_len,x.wm_cap,x.wp_lo,x.wp_len,x.ps,x.out,x.ws,x.vn,x.vw_lo,x.vw_len,x.vw_cap⟩) else none else none else none else none else some (Sum.inr ⟨x.out_lo,x.out_len,x.out_cap,x.n,x.i,x.c,x.rows,x.rs,x.ms,x.wr_lo,x.wr_len,x.wr_cap,x.wm_lo,x.wm_len,x.wm_cap,x.wp_lo,x.wp_len,x.ps,x.out,x.ws,x.vn,x.vw_lo,x.vw_len,x.vw_cap⟩)
theorem s1_le (x : _) : Le (s1' x) (s1 x) := by
 unfold s1' s1
 repeat' first | with_reducible exact Le.refl _ | with_reducible apply Le.bind | with_reducible apply Le.cond | with_reducible apply Le.sum | intro _
def s0' (x : p0X) : Option (p0X ⊕ q0X) := bif decide (x.i < x.n) then bindO (bif leB (x.wp_lo + x.wp_len) x.ps.length && true then M77.m' ⟨List.take x.wp_len (List.drop x.wp_lo x.ps),x.i⟩ else none) fun y => bif y then some (Sum.inl ⟨x.out_lo,x.out_len,x.out_cap,x.n,IntKind.i64.wrap (x.i + 1),x.c,x.rows,x.rs,x.ms,x.wr_lo,x.wr_len,x.wr_cap,x.wm_lo,x.wm_len,x.wm_cap,x.wp_lo,x.wp_len,x.ps,x.out⟩) else bindO (M73.m ⟨x.c⟩) fun y => bindO (M75.m ⟨y.fst,y.snd.fst,y.snd.snd.fst,y.snd.snd.snd.fst,x.i,y.snd.snd.snd.snd⟩) fun y_1 => bindO (iterN s1' 200 ⟨x.out_lo,x.out_len,x.out_cap,x.n,x.i,x.i,x.wp_lo,x.wp_len,(↑x.wp_len : Int),0,x.c,x.rows,x.rs,x.ms,x.wr_lo,x.wr_len,x.wr_cap,x.wm_lo,x.wm_len,x.wm_cap,x.wp_lo,x.wp_len,x.ps,x.out,y_1,y.fst,y.snd.fst,y.snd.snd.fst,y.snd.snd.snd.fst⟩) fun y => bif leB (y.out_len + 1) y.out_cap && leB (y.out_lo + y.out_cap) y.out.length then bif leB (y.vw_lo + y.vw_len) y.ws.length && true && true then some (Sum.inl ⟨y.out_lo,y.out_len + 1,y.out_cap,y.n,IntKind.i64.wrap (y.i + 1),y.c,y.rows,y.rs,y.ms,y.wr_lo,y.wr_len,y.wr_cap,y.wm_lo,y.wm_len,y.wm_cap,y.wp_lo,y.wp_len,y.ps,List.take (y.out_lo + y.out_len) y.out ++ (y.vn,List.take y.vw_len (List.drop y.vw_lo y.ws)) :: List.drop (y.out_lo + y.out_len + 1) y.out⟩) else none else none else some (Sum.inr ⟨x.out_lo,x.out_len,x.out_cap,x.c,x.rows,x.rs,x.ms,x.wr_lo,x.wr_len,x.wr_cap,x.wm_lo,x.wm_len,x.wm_cap,x.wp_lo,x.wp_len,x.ps,x.out⟩)
theorem s0_le (x : _) : Le (s0' x) (s0 x) := by
 unfold s0' s0
 repeat' first | with_reducible exact Le.refl _ | with_reducible exact M77.m_le _ | with_reducible exact Le.iter s1_le _ | with_reducible apply Le.bind | with_reducible apply Le.cond | with_reducible apply Le.sum | intro _
def m' (x : gX) : Option fY := bindO (M50.m' ⟨x.c,x.rows⟩) fun y => bif y != 0 then some ([],y) else bindO (M76.m' ⟨x.c,x.rows,[]⟩) fun y => bif decide (0 ≤ IntKind.i64.wrap (x.c - (↑y.snd.snd.snd.snd.snd.snd.snd.snd.snd.fst : Int))) && decide (IntKind.i64.wrap (x.c - (↑y.snd.snd.snd.snd.snd.snd.snd.snd.snd.fst : Int)) * (↑32 : Int) ≤ 281474976710656) && decide (IntKind.i64.wrap (x.c - (↑y.snd.snd.snd.snd.snd.snd.snd.snd.snd.fst : Int)) ≤ 9223372036854775807) then bindO (iterN s0' 200 ⟨0,0,(IntKind.i64.wrap (x.c - (↑y.snd.snd.snd.snd.snd.snd.snd.snd.snd.fst : Int))).toNat,x.c,0,x.c,x.rows,y.fst,y.snd.fst,y.snd.snd.fst,y.snd.snd.snd.fst,y.snd.snd.snd.snd.fst,y.snd.snd.snd.snd.snd.fst,y.snd.snd.snd.snd.snd.snd.fst,y.snd.snd.snd.snd.snd.snd.snd.fst,y.snd.snd.snd.snd.snd.snd.snd.snd.fst,y.snd.snd.snd.snd.snd.snd.snd.snd.snd.fst,y.snd.snd.snd.snd.snd.snd.snd.snd.snd.snd,List.replicate (IntKind.i64.wrap (x.c - (↑y.snd.snd.snd.snd.snd.snd.snd.snd.snd.fst : Int))).toNat (0,[])⟩) fun y => bif leB (y.out_lo + y.out_len) y.out.length && true && true && true then some (List.take y.out_len (List.drop y.out_lo y.out),0) else none else none
theorem m_le (x : _) : Le (m' x) (m x) := by
 unfold m' m
 repeat' first | with_reducible exact Le.refl _ | with_reducible exact M50.m_le _ | with_reducible exact M76.m_le _ | with_reducible exact Le.iter s0_le _ | with_reducible apply Le.bind | with_reducible apply Le.cond | with_reducible apply Le.sum | intro _
end M25
namespace M22
def s1' (x : p1X) : Option (p1X ⊕ (q1X ⊕ z1X)) := bif decide (x.i < x.n) then bif inR x.i x.mo_len then bif decide (x.mo_lo + x.i.toNat < x.ms.length) then bindO (M74.m ⟨(x.ms[x.mo_lo + x.i.toNat]?.getD (0,[])).fst,(x.ms[x.mo_lo + x.i.toNat]?.getD (0,[])).snd,0⟩) fun y => bif !y then some (Sum.inl ⟨x.mo_lo,x.mo_len,x.mo_cap,x.n,IntKind.i64.wrap (x.i + 1),x.c,x.rows,x.bn,x.bw,x.side,x.rs,x.ms,x.wr_lo,x.wr_len,x.wr_cap,x.wm_lo,x.wm_len,x.wm_cap,x.wp_lo,x.wp_len,x.ps,x.ws,x.xn,x.xw_lo,x.xw_len,x.xw_cap⟩) else bif decide (x.i ≥ (↑x.wp_len : Int)) then some (Sum.inr (Sum.inr ⟨9,0⟩)) else bif inR x.i x.wp_len then bif decide (x.wp_lo + x.i.toNat < x.ps.length) then bindO (M75.m ⟨x.xn,x.xw_lo,x.xw_len,x.xw_cap,x.ps[x.wp_lo + x.i.toNat]?.getD 0,x.ws⟩) fun y => some (Sum.inl ⟨x.mo_lo,x.mo_len,x.mo_cap,x.n,IntKind.i64.wrap (x.i + 1),x.c,x.rows,x.bn,x.bw,x.side,x.rs,x.ms,x.wr_lo,x.wr_len,x.wr_cap,x.wm_lo,x.wm_len,x.wm_cap,x.wp_lo,x.wp_len,x.ps,y,x.xn,x.xw_lo,x.xw_len,x.xw_cap⟩) else none else none else none else none else some (Sum.inr (Sum.inl ⟨x.c,x.rows,x.bn,x.bw,x.side,x.rs,x.ms,x.wr_lo,x.wr_len,x.wr_cap,x.wm_lo,x.wm_len,x.wm_cap,x.wp_lo,x.wp_len,x.ps,x.ws,x.xn,x.xw_lo,x.xw_len,x.xw_cap⟩))
theorem s1_le (x : _) : Le (s1' x) (s1 x) := by
 unfold s1' s1
 repeat' first | with_reducible exact Le.refl _ | with_reducible apply Le.bind | with_reducible apply Le.cond | with_reducible apply Le.sum | intro _
def s0' (x : p0X) : Option (p0X ⊕ q0X) := bif decide (x.i < x.n) then bindO (M73.m ⟨1⟩) fun y => bif inR x.i x.side_len then bif decide (x.side_lo + x.i.toNat < x.side.length) then bindO (M74.m ⟨x.bn,x.bw,x.i⟩) fun y_1 => bif y_1 then bif inR x.i x.side_len then bif eqN (x.side_lo + x.i.toNat) (List.take (x.side_lo + x.i.toNat) x.side).length then bindO (M75.m ⟨y.fst,y.snd.fst,y.snd.snd.fst,y.snd.snd.snd.fst,0,y.snd.snd.snd.snd⟩) fun y_2 => bif leB (y.snd.fst + y.snd.snd.fst) (List.length y_2) && true && true then some (Sum.inl ⟨x.side_lo,x.side_len,x.side_cap,x.n,IntKind.i64.wrap (x.i + 1),x.c,x.rows,x.bn,x.bw,List.take (x.side_lo + x.i.toNat) x.side ++ (y.fst,List.take y.snd.snd.fst (List.drop y.snd.fst y_2)) :: List.drop (x.side_lo + x.i.toNat + 1) x.side⟩) else none else none else none else bif leB (y.snd.fst + y.snd.snd.fst) y.snd.snd.snd.snd.length && true && true then some (Sum.inl ⟨x.side_lo,x.side_len,x.side_cap,x.n,IntKind.i64.wrap (x.i + 1),x.c,x.rows,x.bn,x.bw,List.take (x.side_lo + x.i.toNat) x.side ++ (y.fst,List.take y.snd.snd.fst (List.drop y.snd.fst y.snd.snd.snd.snd)) :: List.drop (x.side_lo + x.i.toNat + 1) x.side⟩) else none else none else none else some (Sum.inr ⟨x.side_lo,x.side_len,x.side_cap,x.c,x.rows,x.bn,x.bw,x.side⟩)
theorem s0_le (x : _) : Le (s0' x) (s0 x) := by
 unfold s0' s0
 repeat' first | with_reducible exact Le.refl _ | with_reducible apply Le.bind | with_reducible apply Le.cond | with_reducible apply Le.sum | intro _
def m' (x : gX) : Option fY := bindO (M50.m' ⟨x.c,x.rows⟩) fun y => bif y != 0 then some (0,[],y) else bindO (M38.m ⟨x.bn,x.bw⟩) fun y => bif y != 0 then some (0,[],y) else bif x.bn != (↑x.rows.length : Int) then some (0,[],8) else bif decide (0 ≤ (↑x.rows.length : Int)) && decide ((↑x.rows.length : Int) ≤ (↑x.rows.length : Int)) && decide ((↑x.rows.length : Int) * (↑32 : Int) ≤ 281474976710656) && decide ((↑x.rows.length : Int) ≤ 9223372036854775807) then bindO (iterN s0' 200 ⟨0,(↑x.rows.length : Int).toNat,(↑x.rows.length : Int).toNat,(↑(↑x.rows.length : Int).toNat : Int),0,x.c,x.rows,x.bn,x.bw,List.replicate (↑x.rows.length : Int).toNat (0,[])⟩) fun y => bindO (M76o.m' ⟨y.c,y.rows,y.side_lo,y.side_len,y.side_cap,y.side⟩) fun y_1 => bindO (M73.m ⟨y.c⟩) fun y_2 => bindO (iterN s1' 200 ⟨y_1.snd.snd.snd.snd.snd.snd.fst,y_1.snd.snd.snd.snd.snd.snd.snd.fst,y_1.snd.snd.snd.snd.snd.snd.snd.snd.fst,(↑y_1.snd.snd.snd.snd.snd.snd.snd.fst : Int),0,y.c,y.rows,y.bn,y.bw,y_1.fst,y_1.snd.fst,y_1.snd.snd.fst,y_1.snd.snd.snd.fst,y_1.snd.snd.snd.snd.fst,y_1.snd.snd.snd.snd.snd.fst,y_1.snd.snd.snd.snd.snd.snd.fst,y_1.snd.snd.snd.snd.snd.snd.snd.fst,y_1.snd.snd.snd.snd.snd.snd.snd.snd.fst,y_1.snd.snd.snd.snd.snd.snd.snd.snd.snd.fst,y_1.snd.snd.snd.snd.snd.snd.snd.snd.snd.snd.fst,y_1.snd.snd.snd.snd.snd.snd.snd.snd.snd.snd.snd,y_2.snd.snd.snd.snd,y_2.fst,y_2.snd.fst,y_2.snd.snd.fst,y_2.snd.snd.snd.fst⟩) fun s => sumC s (fun y => bif leB (y.xw_lo + y.xw_len) y.ws.length && true && true && true && true then some (y.xn,List.take y.xw_len (List.drop y.xw_lo y.ws),0) else none) fun z => some (z.rn,[],z.e) else none
theorem m_le (x : _) : Le (m' x) (m x) := by
 unfold m' m
 repeat' first | with_reducible exact Le.refl _ | with_reducible exact M50.m_le _ | with_reducible exact M76o.m_le _ | with_reducible exact Le.iter s1_le _ | with_reducible exact Le.iter s0_le _ | with_reducible apply Le.bind | with_reducible apply Le.cond | with_reducible apply Le.sum | intro _
end M22
namespace M45
def s0' (x : p0X) : Option (p0X ⊕ q0X) := bif decide (x.i < x.l) then bindO (M73.m ⟨x.n⟩) fun y => bif inR x.i x.or__len then bif decide (x.or__lo + x.i.toNat < x.out.length) then bif inR x.i x.or__len then bif eqN (x.or__lo + x.i.toNat) (List.take (x.or__lo + x.i.toNat) x.out).length then bindO (M75.m ⟨y.fst,y.snd.fst,y.snd.snd.fst,y.snd.snd.snd.fst,x.i,y.snd.snd.snd.snd⟩) fun y_1 => bif leB (y.snd.fst + y.snd.snd.fst) (List.length y_1) && true && true then some (Sum.inl ⟨x.n,x.l,IntKind.i64.wrap (x.i + 1),List.take (x.or__lo + x.i.toNat) x.out ++ (y.fst,List.take y.snd.snd.fst (List.drop y.snd.fst y_1)) :: List.drop (x.or__lo + x.i.toNat + 1) x.out,x.oc,x.or__lo,x.or__len,x.or__cap⟩) else none else none else none else none else none else some (Sum.inr ⟨x.out,x.oc,x.or__lo,x.or__len,x.or__cap⟩)
theorem s0_le (x : _) : Le (s0' x) (s0 x) := by
 unfold s0' s0
 repeat' first | with_reducible exact Le.refl _ | with_reducible apply Le.bind | with_reducible apply Le.cond | with_reducible apply Le.sum | intro _
def m' (x : gX) : Option fY := bindO (M85.m ⟨x.n⟩) fun y => bif y != 0 then some (0,[],y) else bif decide (0 ≤ x.n) && decide (x.n ≤ x.n) && decide (x.n * (↑32 : Int) ≤ 281474976710656) && decide (x.n ≤ 9223372036854775807) then bindO (iterN s0' 200 ⟨x.n,(↑x.n.toNat : Int),0,List.replicate x.n.toNat (0,[]),x.n,0,x.n.toNat,x.n.toNat⟩) fun y => bif leB (y.or__lo + y.or__len) y.out.length && true && true && true && true then some (y.oc,List.take y.or__len (List.drop y.or__lo y.out),0) else none else none
theorem m_le (x : _) : Le (m' x) (m x) := by
 unfold m' m
 repeat' first | with_reducible exact Le.refl _ | with_reducible exact Le.iter s0_le _ | with_reducible apply Le.bind | with_reducible apply Le.cond | with_reducible apply Le.sum | intro _
end M45
namespace M76g
def s1' (x : p1X) : Option (p1X ⊕ (q1X ⊕ z1X)) := bif decide (x.i < (↑x.wr_len : Int)) then bif inR x.i x.wr_len then bif decide (x.wr_lo + x.i.toNat < x.rs.length) then bindO (M74.m ⟨(x.rs[x.wr_lo + x.i.toNat]?.getD (0,[])).fst,(x.rs[x.wr_lo + x.i.toNat]?.getD (0,[])).snd,x.k1⟩) fun y => bif !y then some (Sum.inl ⟨x.n,x.k,x.k1,x.top,IntKind.i64.wrap (x.i + 1),x.r0,x.c,x.rows_lo,x.rows_len,x.rows_cap,x.rs,x.ms,x.wr_lo,x.wr_len,x.wr_cap,x.wm_lo,x.wm_len,x.wm_cap,x.wp_lo,x.wp_len,x.ps⟩) else bindO (M101.m ⟨x.i,x.top,x.wr_lo,x.wr_len,x.wr_cap,x.wm_lo,x.wm_len,x.wm_cap,x.wp_lo,x.wp_len,x.rs,x.ms,x.ps⟩) fun y => bindO (M102.m' ⟨x.top,x.k1,y.fst,y.snd.fst,y.snd.snd.fst,y.snd.snd.snd.fst,y.snd.snd.snd.snd.fst,y.snd.snd.snd.snd.snd.fst,y.snd.snd.snd.snd.snd.snd.fst,y.snd.snd.snd.snd.snd.snd.snd.fst,y.snd.snd.snd.snd.snd.snd.snd.snd.fst,y.snd.snd.snd.snd.snd.snd.snd.snd.snd.fst,y.snd.snd.snd.snd.snd.snd.snd.snd.snd.snd⟩) fun y => bif eqN y.snd.snd.snd.snd.snd.snd.fst 0 && eqN y.snd.snd.snd.snd.snd.snd.snd.snd.snd.snd.length y.snd.snd.snd.snd.snd.snd.snd.fst && roomB (y.snd.snd.snd.snd.snd.snd.snd.fst + 1) 8 then some (Sum.inr (Sum.inr ⟨x.n,x.k,x.r0,x.c,x.rows_lo,x.rows_len,x.rows_cap,y.snd.snd.snd.snd.snd.snd.snd.snd.fst,y.snd.snd.snd.snd.snd.snd.snd.snd.snd.fst,y.fst,y.snd.fst,y.snd.snd.fst,y.snd.snd.snd.fst,y.snd.snd.snd.snd.fst,y.snd.snd.snd.snd.snd.fst,0,y.snd.snd.snd.snd.snd.snd.snd.fst + 1,y.snd.snd.snd.snd.snd.snd.snd.snd.snd.snd ++ [x.k1]⟩)) else none else none else none else some (Sum.inr (Sum.inl ⟨x.n,x.k,x.r0,x.c,x.rows_lo,x.rows_len,x.rows_cap,x.rs,x.ms,x.wr_lo,x.wr_len,x.wr_cap,x.wm_lo,x.wm_len,x.wm_cap,x.wp_lo,x.wp_len,x.ps⟩))
theorem s1_le (x : _) : Le (s1' x) (s1 x) := by
 unfold s1' s1
 repeat' first | with_reducible exact Le.refl _ | with_reducible exact M102.m_le _ | with_reducible apply Le.bind | with_reducible apply Le.cond | with_reducible apply Le.sum | intro _
def s0' (x : p0X) : Option (p0X ⊕ q0X) := bif decide (x.k < x.n) then bindO (iterN s1' 200 ⟨x.n,x.k,x.k,(↑x.wp_len : Int),(↑x.wp_len : Int),x.r0,x.c,x.rows_lo,x.rows_len,x.rows_cap,x.rs,x.ms,x.wr_lo,x.wr_len,x.wr_cap,x.wm_lo,x.wm_len,x.wm_cap,x.wp_lo,x.wp_len,x.ps⟩) fun s => sumC s (fun y => some (Sum.inl ⟨y.n,IntKind.i64.wrap (y.k + 1),y.r0,y.c,y.rows_lo,y.rows_len,y.rows_cap,y.rs,y.ms,y.wr_lo,y.wr_len,y.wr_cap,y.wm_lo,y.wm_len,y.wm_cap,y.wp_lo,y.wp_len,y.ps⟩)) fun z => some (Sum.inl ⟨z.n,IntKind.i64.wrap (z.k + 1),z.r0,z.c,z.rows_lo,z.rows_len,z.rows_cap,z.rs,z.ms,z.wr_lo,z.wr_len,z.wr_cap,z.wm_lo,z.wm_len,z.wm_cap,z.wp_lo,z.wp_len,z.ps⟩) else some (Sum.inr ⟨x.r0,x.c,x.rows_lo,x.rows_len,x.rows_cap,x.rs,x.ms,x.wr_lo,x.wr_len,x.wr_cap,x.wm_lo,x.wm_len,x.wm_cap,x.wp_lo,x.wp_len,x.ps⟩)
theorem s0_le (x : _) : Le (s0' x) (s0 x) := by
 unfold s0' s0
 repeat' first | with_reducible exact Le.refl _ | with_reducible exact Le.iter s1_le _ | with_reducible apply Le.bind | with_reducible apply Le.cond | with_reducible apply Le.sum | intro _
def m' (x : gX) : Option fY := bif decide (0 ≤ (↑x.rows_len : Int)) && decide ((↑x.rows_len : Int) ≤ (↑x.rows_len : Int)) && decide ((↑x.rows_len : Int) * (↑32 : Int) ≤ 281474976710656) && decide ((↑x.rows_len : Int) ≤ 9223372036854775807) then bif decide (0 ≤ (↑x.more.length : Int)) && decide ((↑x.more.length : Int) ≤ (↑x.more.length : Int)) && decide ((↑x.more.length : Int) * (↑32 : Int) ≤ 281474976710656) && decide ((↑x.more.length : Int) ≤ 9223372036854775807) then bif leB (x.rows_lo + x.rows_len) x.r0.length && leB (0 + (↑x.rows_len : Int).toNat) (List.replicate (↑x.rows_len : Int).toNat ((0,[]) : Int × List Int)).length then bif leB (0 + (↑x.more.length : Int).toNat) (List.replicate (↑x.more.length : Int).toNat ((0,[]) : Int × List Int)).length then bindO (iterN s0' 200 ⟨x.c,0,x.r0,x.c,x.rows_lo,x.rows_len,x.rows_cap,List.take 0 (List.replicate (↑x.rows_len : Int).toNat (0,[])) ++ List.take (min x.rows_len (↑x.rows_len : Int).toNat) (List.take x.rows_len (List.drop x.rows_lo x.r0)) ++ List.drop (0 + min x.rows_len (↑x.rows_len : Int).toNat) (List.replicate (↑x.rows_len : Int).toNat (0,[])),List.take 0 (List.replicate (↑x.more.length : Int).toNat (0,[])) ++ List.take (min x.more.length (↑x.more.length : Int).toNat) x.more ++ List.drop (0 + min x.more.length (↑x.more.length : Int).toNat) (List.replicate (↑x.more.length : Int).toNat (0,[])),0,(↑x.rows_len : Int).toNat,(↑x.rows_len : Int).toNat,0,(↑x.more.length : Int).toNat,(↑x.more.length : Int).toNat,0,0,[]⟩) fun y => some (y.r0,y.rs,y.ms,y.wr_lo,y.wr_len,y.wr_cap,y.wm_lo,y.wm_len,y.wm_cap,y.wp_lo,y.wp_len,y.ps) else none else none else none else none
theorem m_le (x : _) : Le (m' x) (m x) := by
 unfold m' m
 repeat' first | with_reducible exact Le.refl _ | with_reducible exact Le.iter s0_le _ | with_reducible apply Le.bind | with_reducible apply Le.cond | with_reducible apply Le.sum | intro _
end M76g
namespace M47g
def m' (x : gX) : Option fY := bindO (bif leB (x.rows_lo + x.rows_len) x.r0.length && true && true then M50.m' ⟨x.c,List.take x.rows_len (List.drop x.rows_lo x.r0)⟩ else none) fun y => bif y != 0 then some (0,[],y,x.r0) else bif x.c != (↑x.rows_len : Int) then some (0,[],8,x.r0) else bindO (M45.m' ⟨x.c⟩) fun y => bindO (M76g.m' ⟨x.c,x.rows_lo,x.rows_len,x.rows_cap,y.snd.fst,x.r0⟩) fun y => bif decide ((↑y.snd.snd.snd.snd.snd.snd.snd.snd.snd.snd.fst : Int) < x.c) then some (0,[],9,y.fst) else bif leB (y.snd.snd.snd.snd.snd.snd.fst + y.snd.snd.snd.snd.snd.snd.snd.fst) y.snd.snd.fst.length && true && true && true && true then some (x.c,List.take y.snd.snd.snd.snd.snd.snd.snd.fst (List.drop y.snd.snd.snd.snd.snd.snd.fst y.snd.snd.fst),0,y.fst) else none
theorem m_le (x : _) : Le (m' x) (m x) := by
 unfold m' m
 repeat' first | with_reducible exact Le.refl _ | with_reducible exact M50.m_le _ | with_reducible exact M45.m_le _ | with_reducible exact M76g.m_le _ | with_reducible apply Le.bind | with_reducible apply Le.cond | with_reducible apply Le.sum | intro _
end M47g
namespace M22j
def s1' (x : p1X) : Option (p1X ⊕ (q1X ⊕ z1X)) := bif decide (x.i < x.n) then bif inR x.i x.mo_len then bif decide (x.mo_lo + x.i.toNat < x.ms.length) then bindO (M74.m ⟨(x.ms[x.mo_lo + x.i.toNat]?.getD (0,[])).fst,(x.ms[x.mo_lo + x.i.toNat]?.getD (0,[])).snd,0⟩) fun y => bif !y then some (Sum.inl ⟨x.mo_lo,x.mo_len,x.mo_cap,x.n,IntKind.i64.wrap (x.i + 1),x.c,x.rows,x.bn,x.bw,x.side,x.rs,x.ms,x.wr_lo,x.wr_len,x.wr_cap,x.wm_lo,x.wm_len,x.wm_cap,x.wp_lo,x.wp_len,x.ps,x.ws,x.xn,x.xw_lo,x.xw_len,x.xw_cap⟩) else bif decide (x.i ≥ (↑x.wp_len : Int)) then some (Sum.inr (Sum.inr ⟨9,0⟩)) else bif inR x.i x.wp_len then bif decide (x.wp_lo + x.i.toNat < x.ps.length) then bindO (M75.m ⟨x.xn,x.xw_lo,x.xw_len,x.xw_cap,x.ps[x.wp_lo + x.i.toNat]?.getD 0,x.ws⟩) fun y => some (Sum.inl ⟨x.mo_lo,x.mo_len,x.mo_cap,x.n,IntKind.i64.wrap (x.i + 1),x.c,x.rows,x.bn,x.bw,x.side,x.rs,x.ms,x.wr_lo,x.wr_len,x.wr_cap,x.wm_lo,x.wm_len,x.wm_cap,x.wp_lo,x.wp_len,x.ps,y,x.xn,x.xw_lo,x.xw_len,x.xw_cap⟩) else none else none else none else none else some (Sum.inr (Sum.inl ⟨x.c,x.rows,x.bn,x.bw,x.side,x.rs,x.ms,x.wr_lo,x.wr_len,x.wr_cap,x.wm_lo,x.wm_len,x.wm_cap,x.wp_lo,x.wp_len,x.ps,x.ws,x.xn,x.xw_lo,x.xw_len,x.xw_cap⟩))
theorem s1_le (x : _) : Le (s1' x) (s1 x) := by
 unfold s1' s1
 repeat' first | with_reducible exact Le.refl _ | with_reducible apply Le.bind | with_reducible apply Le.cond | with_reducible apply Le.sum | intro _
def s0' (x : p0X) : Option (p0X ⊕ q0X) := bif decide (x.i < x.n) then bindO (M73.m ⟨1⟩) fun y => bif inR x.i x.side_len then bif decide (x.side_lo + x.i.toNat < x.side.length) then bindO (M74.m ⟨x.bn,x.bw,x.i⟩) fun y_1 => bif y_1 then bif inR x.i x.side_len then bif eqN (x.side_lo + x.i.toNat) (List.take (x.side_lo + x.i.toNat) x.side).length then bindO (M75.m ⟨y.fst,y.snd.fst,y.snd.snd.fst,y.snd.snd.snd.fst,0,y.snd.snd.snd.snd⟩) fun y_2 => bif leB (y.snd.fst + y.snd.snd.fst) (List.length y_2) && true && true then some (Sum.inl ⟨x.side_lo,x.side_len,x.side_cap,x.n,IntKind.i64.wrap (x.i + 1),x.c,x.rows,x.bn,x.bw,List.take (x.side_lo + x.i.toNat) x.side ++ (y.fst,List.take y.snd.snd.fst (List.drop y.snd.fst y_2)) :: List.drop (x.side_lo + x.i.toNat + 1) x.side⟩) else none else none else none else bif leB (y.snd.fst + y.snd.snd.fst) y.snd.snd.snd.snd.length && true && true then some (Sum.inl ⟨x.side_lo,x.side_len,x.side_cap,x.n,IntKind.i64.wrap (x.i + 1),x.c,x.rows,x.bn,x.bw,List.take (x.side_lo + x.i.toNat) x.side ++ (y.fst,List.take y.snd.snd.fst (List.drop y.snd.fst y.snd.snd.snd.snd)) :: List.drop (x.side_lo + x.i.toNat + 1) x.side⟩) else none else none else none else some (Sum.inr ⟨x.side_lo,x.side_len,x.side_cap,x.c,x.rows,x.bn,x.bw,x.side⟩)
theorem s0_le (x : _) : Le (s0' x) (s0 x) := by
 unfold s0' s0
 repeat' first | with_reducible exact Le.refl _ | with_reducible apply Le.bind | with_reducible apply Le.cond | with_reducible apply Le.sum | intro _
def m' (x : gX) : Option fY := bindO (M50.m' ⟨x.c,x.rows⟩) fun y => bif y != 0 then some y else bindO (M38.m ⟨x.bn,x.bw⟩) fun y => bif y != 0 then some y else bif x.bn != (↑x.rows.length : Int) then some 8 else bif decide (0 ≤ (↑x.rows.length : Int)) && decide ((↑x.rows.length : Int) ≤ (↑x.rows.length : Int)) && decide ((↑x.rows.length : Int) * (↑32 : Int) ≤ 281474976710656) && decide ((↑x.rows.length : Int) ≤ 9223372036854775807) then bindO (iterN s0' 200 ⟨0,(↑x.rows.length : Int).toNat,(↑x.rows.length : Int).toNat,(↑(↑x.rows.length : Int).toNat : Int),0,x.c,x.rows,x.bn,x.bw,List.replicate (↑x.rows.length : Int).toNat (0,[])⟩) fun y => bindO (M76o.m' ⟨y.c,y.rows,y.side_lo,y.side_len,y.side_cap,y.side⟩) fun y_1 => bindO (M73.m ⟨y.c⟩) fun y_2 => bindO (iterN s1' 200 ⟨y_1.snd.snd.snd.snd.snd.snd.fst,y_1.snd.snd.snd.snd.snd.snd.snd.fst,y_1.snd.snd.snd.snd.snd.snd.snd.snd.fst,(↑y_1.snd.snd.snd.snd.snd.snd.snd.fst : Int),0,y.c,y.rows,y.bn,y.bw,y_1.fst,y_1.snd.fst,y_1.snd.snd.fst,y_1.snd.snd.snd.fst,y_1.snd.snd.snd.snd.fst,y_1.snd.snd.snd.snd.snd.fst,y_1.snd.snd.snd.snd.snd.snd.fst,y_1.snd.snd.snd.snd.snd.snd.snd.fst,y_1.snd.snd.snd.snd.snd.snd.snd.snd.fst,y_1.snd.snd.snd.snd.snd.snd.snd.snd.snd.fst,y_1.snd.snd.snd.snd.snd.snd.snd.snd.snd.snd.fst,y_1.snd.snd.snd.snd.snd.snd.snd.snd.snd.snd.snd,y_2.snd.snd.snd.snd,y_2.fst,y_2.snd.fst,y_2.snd.snd.fst,y_2.snd.snd.snd.fst⟩) fun s => sumC s (fun y => some 0) fun z => some z.e else none
theorem m_le (x : _) : Le (m' x) (m x) := by
 unfold m' m
 repeat' first | with_reducible exact Le.refl _ | with_reducible exact M50.m_le _ | with_reducible exact M76o.m_le _ | with_reducible exact Le.iter s1_le _ | with_reducible exact Le.iter s0_le _ | with_reducible apply Le.bind | with_reducible apply Le.cond | with_reducible apply Le.sum | intro _
end M22j
namespace M87
def s1' (x : p1X) : Option (p1X ⊕ q1X) := bif decide (x.i2 < x.n2) then bif inR x.i2 x.l.length then bindO (M74.m ⟨(x.l[x.i2.toNat]?.getD (0,[])).fst,(x.l[x.i2.toNat]?.getD (0,[])).snd,x.k⟩) fun y => bif y then bif inR x.k x.or__len then bif eqN (x.or__lo + x.k.toNat) x.out.length then bindO (M75.m ⟨x.on,x.ow_lo,x.ow_len,x.ow_cap,x.i2,x.ws⟩) fun y => some (Sum.inl ⟨x.n,x.i,x.k,x.l,x.n2,IntKind.i64.wrap (x.i2 + 1),x.c,x.rows,x.out,x.on,x.ow_lo,x.ow_len,x.ow_cap,x.out_r,x.oc,x.or__lo,x.or__len,x.or__cap,y⟩) else none else none else some (Sum.inl ⟨x.n,x.i,x.k,x.l,x.n2,IntKind.i64.wrap (x.i2 + 1),x.c,x.rows,x.out,x.on,x.ow_lo,x.ow_len,x.ow_cap,x.out_r,x.oc,x.or__lo,x.or__len,x.or__cap,x.ws⟩) else none else some (Sum.inr ⟨x.n,x.i,x.c,x.rows,x.out,x.on,x.ow_lo,x.ow_len,x.ow_cap,x.out_r,x.oc,x.or__lo,x.or__len,x.or__cap,x.ws⟩)
theorem s1_le (x : _) : Le (s1' x) (s1 x) := by
 unfold s1' s1
 repeat' first | with_reducible exact Le.refl _ | with_reducible apply Le.bind | with_reducible apply Le.cond | with_reducible apply Le.sum | intro _
def s0' (x : p0X) : Option (p0X ⊕ q0X) := bif decide (x.i < x.n) then bindO (M73.m ⟨x.oc⟩) fun y => bif inR x.i x.or__len then bif decide (x.or__lo + x.i.toNat < x.out.length) then bindO (iterN s1' 200 ⟨x.n,x.i,x.i,x.rows,(↑x.rows.length : Int),0,x.c,x.rows,List.take (x.or__lo + x.i.toNat) x.out,y.fst,y.snd.fst,y.snd.snd.fst,y.snd.snd.snd.fst,List.drop (x.or__lo + x.i.toNat + 1) x.out,x.oc,x.or__lo,x.or__len,x.or__cap,y.snd.snd.snd.snd⟩) fun y => bif leB (y.ow_lo + y.ow_len) y.ws.length && true && true then some (Sum.inl ⟨y.n,IntKind.i64.wrap (y.i + 1),y.c,y.rows,y.out ++ (y.on,List.take y.ow_len (List.drop y.ow_lo y.ws)) :: y.out_r,y.oc,y.or__lo,y.or__len,y.or__cap⟩) else none else none else none else some (Sum.inr ⟨x.c,x.rows,x.out,x.oc,x.or__lo,x.or__len,x.or__cap⟩)
theorem s0_le (x : _) : Le (s0' x) (s0 x) := by
 unfold s0' s0
 repeat' first | with_reducible exact Le.refl _ | with_reducible exact Le.iter s1_le _ | with_reducible apply Le.bind | with_reducible apply Le.cond | with_reducible apply Le.sum | intro _
def m' (x : gX) : Option fY := bif decide (0 ≤ x.c) && decide (x.c ≤ x.c) && decide (x.c * (↑32 : Int) ≤ 281474976710656) && decide (x.c ≤ 9223372036854775807) then bindO (iterN s0' 200 ⟨(↑x.c.toNat : Int),0,x.c,x.rows,List.replicate x.c.toNat (0,[]),(↑x.rows.length : Int),0,x.c.toNat,x.c.toNat⟩) fun y => bif leB (y.or__lo + y.or__len) y.out.length && true && true && true then some (y.oc,List.take y.or__len (List.drop y.or__lo y.out)) else none else none
theorem m_le (x : _) : Le (m' x) (m x) := by
 unfold m' m
 repeat' first | with_reducible exact Le.refl _ | with_reducible exact Le.iter s0_le _ | with_reducible apply Le.bind | with_reducible apply Le.cond | with_reducible apply Le.sum | intro _
end M87
namespace M40
def m' (x : gX) : Option fY := bindO (M50.m' ⟨x.c,x.rows⟩) fun y => bif y != 0 then some (0,[],y) else bindO (M87.m' ⟨x.c,x.rows⟩) fun y => some (y.fst,y.snd,0)
theorem m_le (x : _) : Le (m' x) (m x) := by
 unfold m' m
 repeat' first | with_reducible exact Le.refl _ | with_reducible exact M50.m_le _ | with_reducible exact M87.m_le _ | with_reducible apply Le.bind | with_reducible apply Le.cond | with_reducible apply Le.sum | intro _
end M40
namespace M90
def s0' (x : p0X) : Option (p0X ⊕ (q0X ⊕ z0X)) := bif decide (x.i < x.n) then bif inR x.i x.a.length then bif inR x.i x.b.length then bif x.a[x.i.toNat]?.getD 0 != x.b[x.i.toNat]?.getD 0 then some (Sum.inr (Sum.inr ⟨false⟩)) else some (Sum.inl ⟨x.a,x.b,x.n,IntKind.i64.wrap (x.i + 1)⟩) else none else none else some (Sum.inr (Sum.inl PUnit.unit))
theorem s0_le (x : _) : Le (s0' x) (s0 x) := by
 unfold s0' s0
 repeat' first | with_reducible exact Le.refl _ | with_reducible apply Le.bind | with_reducible apply Le.cond | with_reducible apply Le.sum | intro _
def m' (x : gX) : Option fY := bif (↑x.a.length : Int) != (↑x.b.length : Int) then some false else bindO (iterN s0' 200 ⟨x.a,x.b,(↑x.a.length : Int),0⟩) fun s => sumC s (fun y => some true) fun z => some z.r
theorem m_le (x : _) : Le (m' x) (m x) := by
 unfold m' m
 repeat' first | with_reducible exact Le.refl _ | with_reducible exact Le.iter s0_le _ | with_reducible apply Le.bind | with_reducible apply Le.cond | with_reducible apply Le.sum | intro _
end M90
namespace M89
def m' (x : gX) : Option fY := bindO (bif x.an == x.bn then M90.m' ⟨x.aw,x.bw⟩ else some false) fun y => some (bif x.an == x.bn then y else false)
theorem m_le (x : _) : Le (m' x) (m x) := by
 unfold m' m
 repeat' first | with_reducible exact Le.refl _ | with_reducible exact M90.m_le _ | with_reducible apply Le.bind | with_reducible apply Le.cond | with_reducible apply Le.sum | intro _
end M89
namespace M88
def s0' (x : p0X) : Option (p0X ⊕ (q0X ⊕ z0X)) := bif decide (x.i < x.n) then bif inR x.i x.l.length then bif inR x.i x.b.length then bindO (M89.m' ⟨(x.l[x.i.toNat]?.getD (0,[])).fst,(x.l[x.i.toNat]?.getD (0,[])).snd,(x.b[x.i.toNat]?.getD (0,[])).fst,(x.b[x.i.toNat]?.getD (0,[])).snd⟩) fun y => bif !y then some (Sum.inr (Sum.inr ⟨false⟩)) else some (Sum.inl ⟨x.b,x.l,x.n,IntKind.i64.wrap (x.i + 1)⟩) else none else none else some (Sum.inr (Sum.inl PUnit.unit))
theorem s0_le (x : _) : Le (s0' x) (s0 x) := by
 unfold s0' s0
 repeat' first | with_reducible exact Le.refl _ | with_reducible exact M89.m_le _ | with_reducible apply Le.bind | with_reducible apply Le.cond | with_reducible apply Le.sum | intro _
def m' (x : gX) : Option fY := bif (↑x.a.length : Int) != (↑x.b.length : Int) then some false else bindO (iterN s0' 200 ⟨x.b,x.a,(↑x.a.length : Int),0⟩) fun s => sumC s (fun y => some true) fun z => some z.r
theorem m_le (x : _) : Le (m' x) (m x) := by
 unfold m' m
 repeat' first | with_reducible exact Le.refl _ | with_reducible exact Le.iter s0_le _ | with_reducible apply Le.bind | with_reducible apply Le.cond | with_reducible apply Le.sum | intro _
end M88
namespace M46
def m' (x : gX) : Option fY := bindO (bif x.ac == x.bc then M88.m' ⟨x.ar,x.br⟩ else some false) fun y => some (bif x.ac == x.bc then y else false)
theorem m_le (x : _) : Le (m' x) (m x) := by
 unfold m' m
 repeat' first | with_reducible exact Le.refl _ | with_reducible exact M88.m_le _ | with_reducible apply Le.bind | with_reducible apply Le.cond | with_reducible apply Le.sum | intro _
end M46
namespace M32
def m' (x : gX) : Option fY := bindO (M34.m' ⟨x.n,x.w⟩) fun l => bif okS l then some (chrs l) else none
theorem m_le (x : _) : Le (m' x) (m x) := by
 unfold m' m
 repeat' first | with_reducible exact Le.refl _ | with_reducible exact M34.m_le _ | with_reducible apply Le.bind | with_reducible apply Le.cond | with_reducible apply Le.sum | intro _
end M32
namespace M19
def m' (x : gX) : Option fY := bindO (M24.m' ⟨[1,1,0]⟩) fun y => bindO (M24.m' ⟨[0,1,1]⟩) fun y_1 => bindO (M28.m' ⟨y.fst,y.snd,y_1.fst,y_1.snd⟩) fun y_2 => bindO (M33.m' ⟨y.fst,y.snd,y_1.fst,y_1.snd⟩) fun y_3 => bindO (M24.m' ⟨[1,0,1]⟩) fun y_4 => bindO (M29.m' ⟨3,[(y.fst,y.snd),(y_1.fst,y_1.snd)],y_4.fst,y_4.snd⟩) fun y_5 => bindO (M40.m' ⟨3,[(y.fst,y.snd),(y_1.fst,y_1.snd)]⟩) fun y_6 => bindO (M26.m' ⟨3,[(y.fst,y.snd),(y_1.fst,y_1.snd)]⟩) fun y_7 => bindO (M25.m' ⟨3,[(y.fst,y.snd),(y_1.fst,y_1.snd)]⟩) fun y_8 => bindO (M24.m' ⟨[1,0]⟩) fun y_9 => bindO (M22.m' ⟨3,[(y.fst,y.snd),(y_1.fst,y_1.snd)],y_9.fst,y_9.snd⟩) fun y => bindO (M24.m' ⟨[1,0,1]⟩) fun y_10 => bindO (M32.m' ⟨y_10.fst,y_10.snd⟩) fun y_11 => bindO (bif !bif !y_11 == [49,48,49] then true else y_2.snd.snd != 0 then M32.m' ⟨y_2.fst,y_2.snd.fst⟩ else some []) fun y_12 => bif !bif bif bif bif !y_11 == [49,48,49] then true else y_2.snd.snd != 0 then true else !y_12 == [49,48,49] then true else y_3.snd != 0 then true else y_3.fst != 1 then bindO (M24.m' ⟨[1,0,1,1]⟩) fun y_13 => bindO (M36.m' ⟨y_13.fst,y_13.snd⟩) fun y_14 => bindO (bif !bif y_14 != 3 then true else y_5.snd.snd != 0 then M32.m' ⟨y_5.fst,y_5.snd.fst⟩ else some []) fun y_15 => bif inR 1 y_6.snd.fst.length || !!bif bif bif bif y_14 != 3 then true else y_5.snd.snd != 0 then true else !y_15 == [49,49] then true else y_6.snd.snd != 0 then true else (↑y_6.snd.fst.length : Int) != 3 then bindO (bif !bif bif bif bif y_14 != 3 then true else y_5.snd.snd != 0 then true else !y_15 == [49,49] then true else y_6.snd.snd != 0 then true else (↑y_6.snd.fst.length : Int) != 3 then M32.m' ⟨(y_6.snd.fst[1]?.getD (0,[])).fst,(y_6.snd.fst[1]?.getD (0,[])).snd⟩ else some []) fun y_16 => bif inR 0 y_8.fst.length || !!bif bif bif bif bif bif bif bif bif y_14 != 3 then true else y_5.snd.snd != 0 then true else !y_15 == [49,49] then true else y_6.snd.snd != 0 then true else (↑y_6.snd.fst.length : Int) != 3 then true else !y_16 == [49,49] then true else y_7.snd != 0 then true else y_7.fst != 2 then true else y_8.snd != 0 then true else (↑y_8.fst.length : Int) != 1 then bindO (bif !bif bif bif bif bif bif bif bif bif y_14 != 3 then true else y_5.snd.snd != 0 then true else !y_15 == [49,49] then true else y_6.snd.snd != 0 then true else (↑y_6.snd.fst.length : Int) != 3 then true else !y_16 == [49,49] then true else y_7.snd != 0 then true else y_7.fst != 2 then true else y_8.snd != 0 then true else (↑y_8.fst.length : Int) != 1 then M32.m' ⟨(y_8.fst[0]?.getD (0,[])).fst,(y_8.fst[0]?.getD (0,[])).snd⟩ else some []) fun y_17 => bindO (bif !bif bif bif bif bif bif bif bif bif bif bif y_14 != 3 then true else y_5.snd.snd != 0 then true else !y_15 == [49,49] then true else y_6.snd.snd != 0 then true else (↑y_6.snd.fst.length : Int) != 3 then true else !y_16 == [49,49] then true else y_7.snd != 0 then true else y_7.fst != 2 then true else y_8.snd != 0 then true else (↑y_8.fst.length : Int) != 1 then true else !y_17 == [49,49,49] then true else y.snd.snd != 0 then M32.m' ⟨y.fst,y.snd.fst⟩ else some []) fun y_18 => bif bif bif bif bif bif bif bif bif bif bif bif bif y_14 != 3 then true else y_5.snd.snd != 0 then true else !y_15 == [49,49] then true else y_6.snd.snd != 0 then true else (↑y_6.snd.fst.length : Int) != 3 then true else !y_16 == [49,49] then true else y_7.snd != 0 then true else y_7.fst != 2 then true else y_8.snd != 0 then true else (↑y_8.fst.length : Int) != 1 then true else !y_17 == [49,49,49] then true else y.snd.snd != 0 then true else !y_18 == [49,48,48] then some false else bindO (M24.m' ⟨[1,1]⟩) fun y => bindO (M24.m' ⟨[1,1]⟩) fun y_19 => bindO (M24.m' ⟨[1,0]⟩) fun y_20 => bindO (M22j.m' ⟨2,List.take 2 (List.drop 0 [(y.fst,y.snd),(y_19.fst,y_19.snd)]),y_20.fst,y_20.snd⟩) fun y_21 => bindO (M24.m' ⟨[0,1]⟩) fun y_22 => bif decide (1 < 2) then bindO (M47g.m' ⟨2,0,2,2,[(y.fst,y.snd),(y_19.fst,y_19.snd)].set 1 (y_22.fst,y_22.snd)⟩) fun y => bindO (M52.m' ⟨[2]⟩) fun y_23 => bindO (M51t.m ⟨-1⟩) fun y_24 => bindO (M51t.m ⟨4097⟩) fun y_25 => bindO (bif bif y_21 == 9 then y.snd.snd.fst == 0 else false then bif leB 2 y.snd.snd.snd.length && true && true then M46.m' ⟨y.fst,y.snd.fst,2,List.take 2 (List.drop 0 y.snd.snd.snd)⟩ else none else some false) fun y_26 => some (bif bif bif bif bif y_21 == 9 then y.snd.snd.fst == 0 else false then y_26 else false then y_23.snd.snd == 1 else false then y_24.snd.snd == 1 else false then y_25.snd.snd == 3 else false) else none else none else none else bindO (some ([] : List UInt8)) fun y => bif inR 1 y_6.snd.fst.length || true then bindO (some ([] : List UInt8)) fun y => bif inR 0 y_8.fst.length || true then bindO (some ([] : List UInt8)) fun y => bindO (some ([] : List UInt8)) fun y => some false else none else none
theorem m_le (x : _) : Le (m' x) (m x) := by
 unfold m' m
 repeat' first | with_reducible exact Le.refl _ | with_reducible exact M52.m_le _ | with_reducible exact M24.m_le _ | with_reducible exact M36.m_le _ | with_reducible exact M28.m_le _ | with_reducible exact M33.m_le _ | with_reducible exact M29.m_le _ | with_reducible exact M26.m_le _ | with_reducible exact M25.m_le _ | with_reducible exact M22.m_le _ | with_reducible exact M47g.m_le _ | with_reducible exact M22j.m_le _ | with_reducible exact M40.m_le _ | with_reducible exact M46.m_le _ | with_reducible exact M32.m_le _ | with_reducible apply Le.bind | with_reducible apply Le.cond | with_reducible apply Le.sum | intro _
end M19
theorem lives19 : M19.m () = some true := M19.m_le _ _ (by kernel_rfl)
end Go.Proofs.Ytddaobhpffpmoaa
