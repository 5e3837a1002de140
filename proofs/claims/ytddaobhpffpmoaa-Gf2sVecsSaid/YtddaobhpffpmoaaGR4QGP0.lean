/-
  Gf2s: the examples of the chapter, evaluated.
-/
import Derived.Test.YtddaobhpffpmoaaGR4QGc
set_option linter.all false
namespace Go.Proofs.Ytddaobhpffpmoaa
open Go.Abs
def Le {α : Type} (a b : Option α) : Prop := ∀ y,a = some y → b = some y
theorem Le.refl {α : Type} (a : Option α) : Le a a := fun _ h => h
theorem Le.bind {α β : Type} {a b : Option α} {f g : α → Option β} (h : Le a b) (h' : ∀ y,Le (f y) (g y)) : Le (bindO a f) (bindO b g) := fun z hz => by
 obtain ⟨y,h1,h2⟩ := bindO_some hz
 rw [h y h1]; exact h' y z h2
theorem Le.cond {α : Type} {p : Bool} {a b c d : Option α} (h : Le a b) (h' : Le c d) : Le (bif p then a else c) (bif p then b else d) := by cases p <;> assumption
theorem Le.sum {α β γ : Type} {s : α ⊕ β} {f f' : α → Option γ} {g g' : β → Option γ} (h : ∀ y,Le (f y) (f' y)) (h' : ∀ y,Le (g y) (g' y)) : Le (sumC s f g) (sumC s f' g') := by
 cases s with
 | inl y => exact h y
 | inr y => exact h' y
theorem iterN_le {X Y : Type} {s s' : X → Option (X ⊕ Y)} (h : ∀ x,Le (s x) (s' x)) : ∀ (n : Nat) (x : X),Le (iterN s n x) (iterN s' n x)
 | 0,x => fun y hy => by cases hy
 | n + 1,x => fun y hy => by
  unfold iterN at hy ⊢
  split at hy
  ·rename_i x' e; rw [h x _ e]; exact iterN_le h n x' y hy
  ·rename_i y' e; rw [h x _ e]; exact hy
  ·cases hy
theorem Le.iter {X Y : Type} {s s' : X → Option (X ⊕ Y)} {n : Nat} (h : ∀ x,Le (s x) (s' x)) (x : X) : Le (iterN s n x) (Go.Abs.iter s' x) := fun y hy => iter_of (iterN_le h n x y hy)
namespace M84
def s0' (x : p0X) : Option (p0X ⊕ q0X) := bif decide (x.i < x.k) then bif inR x.i x.l.length then bindO (M108.m { x := x.l[x.i.toNat]?.getD 0 }) fun y => some (Sum.inl { s := IntKind.i64.wrap (x.s + y),l := x.l,k := x.k,i := IntKind.i64.wrap (x.i + 1) }) else none
else some (Sum.inr { s := x.s })
theorem s0_le (x : _) : Le (s0' x) (s0 x) := by
 unfold s0' s0
 repeat' first | with_reducible exact Le.refl _ | with_reducible apply Le.bind | with_reducible apply Le.cond | with_reducible apply Le.sum | intro _
def m' (x : gX) : Option fY := bindO (iterN s0' 200 { s := 0,l := x.w,k := (↑x.w.length : Int),i := 0 }) fun y => some y.s
theorem m_le (x : _) : Le (m' x) (m x) := by
 unfold m' m
 repeat' first | with_reducible exact Le.refl _ | with_reducible exact Le.iter s0_le _ | with_reducible apply Le.bind | with_reducible apply Le.cond | with_reducible apply Le.sum | intro _
end M84
namespace M52
def s0' (x : p0X) : Option (p0X ⊕ (q0X ⊕ z0X)) := bif decide (x.i < x.n) then bif inR x.i x.l.length then bif decide (x.l[x.i.toNat]?.getD 0 > 1) then some (Sum.inr (Sum.inr { e := 1,rn := 0 })) else bif x.l[x.i.toNat]?.getD 0 == 1 then bindO (M75.m { n := x.vn,w_lo := x.vw_lo,w_len := x.vw_len,w_cap := x.vw_cap,i := x.i,ws := x.ws }) fun y => some (Sum.inl { l := x.l,n := x.n,i := IntKind.i64.wrap (x.i + 1),ws := y,vn := x.vn,vw_lo := x.vw_lo,vw_len := x.vw_len,vw_cap := x.vw_cap }) else some (Sum.inl { l := x.l,n := x.n,i := IntKind.i64.wrap (x.i + 1),ws := x.ws,vn := x.vn,vw_lo := x.vw_lo,vw_len := x.vw_len,vw_cap := x.vw_cap }) else none
else some (Sum.inr (Sum.inl { ws := x.ws,vn := x.vn,vw_lo := x.vw_lo,vw_len := x.vw_len,vw_cap := x.vw_cap }))
theorem s0_le (x : _) : Le (s0' x) (s0 x) := by
 unfold s0' s0
 repeat' first | with_reducible exact Le.refl _ | with_reducible apply Le.bind | with_reducible apply Le.cond | with_reducible apply Le.sum | intro _
def m' (x : gX) : Option fY := bindO (M51.m { n := (↑x.l.length : Int) }) fun y => bif y.snd.snd.snd.snd.fst != 0 then some (0,[],y.snd.snd.snd.snd.fst) else bindO (iterN s0' 200 { l := x.l,n := (↑x.l.length : Int),i := 0,ws := y.snd.snd.snd.snd.snd,vn := y.fst,vw_lo := y.snd.fst,vw_len := y.snd.snd.fst,vw_cap := y.snd.snd.snd.fst }) fun s => sumC s (fun y => bif leB (y.vw_lo + y.vw_len) y.ws.length && true && true && true && true then some (y.vn,List.take y.vw_len (List.drop y.vw_lo y.ws),0) else none) fun z => some (z.rn,[],z.e)
theorem m_le (x : _) : Le (m' x) (m x) := by
 unfold m' m
 repeat' first | with_reducible exact Le.refl _ | with_reducible exact Le.iter s0_le _ | with_reducible apply Le.bind | with_reducible apply Le.cond | with_reducible apply Le.sum | intro _
end M52
namespace M24
def m' (x : gX) : Option fY := bindO (M52.m' { l := x.l }) fun y => some (y.fst,y.snd.fst)
theorem m_le (x : _) : Le (m' x) (m x) := by
 unfold m' m
 repeat' first | with_reducible exact Le.refl _ | with_reducible exact M52.m_le _ | with_reducible apply Le.bind | with_reducible apply Le.cond | with_reducible apply Le.sum | intro _
end M24
namespace M34
def s0' (x : p0X) : Option (p0X ⊕ q0X) := bif decide (x.i < x.k) then bindO (M74.m { n := x.n,w := x.w,i := x.i }) fun y => bif y then bif inR x.i x.out_len then bif decide (x.out_lo + x.i.toNat < x.xs.length) then some (Sum.inl { out_lo := x.out_lo,out_len := x.out_len,out_cap := x.out_cap,k := x.k,i := IntKind.i64.wrap (x.i + 1),n := x.n,w := x.w,xs := x.xs.set (x.out_lo + x.i.toNat) 1 }) else none else none else some (Sum.inl { out_lo := x.out_lo,out_len := x.out_len,out_cap := x.out_cap,k := x.k,i := IntKind.i64.wrap (x.i + 1),n := x.n,w := x.w,xs := x.xs })
else some (Sum.inr { out_lo := x.out_lo,out_len := x.out_len,out_cap := x.out_cap,n := x.n,w := x.w,xs := x.xs })
theorem s0_le (x : _) : Le (s0' x) (s0 x) := by
 unfold s0' s0
 repeat' first | with_reducible exact Le.refl _ | with_reducible apply Le.bind | with_reducible apply Le.cond | with_reducible apply Le.sum | intro _
def m' (x : gX) : Option fY := bindO (M38.m { n := x.n,w := x.w }) fun y => bif y != 0 then some [] else bif decide (0 ≤ x.n) && decide (x.n ≤ x.n) && decide (x.n * (↑1 : Int) ≤ 281474976710656) && decide (x.n ≤ 9223372036854775807) then bindO (iterN s0' 200 { out_lo := 0,out_len := x.n.toNat,out_cap := x.n.toNat,k := (↑x.n.toNat : Int),i := 0,n := x.n,w := x.w,xs := List.replicate x.n.toNat (0 : Int) }) fun y => bif leB (y.out_lo + y.out_len) y.xs.length && true && true then some (List.take y.out_len (List.drop y.out_lo y.xs)) else none else none
theorem m_le (x : _) : Le (m' x) (m x) := by
 unfold m' m
 repeat' first | with_reducible exact Le.refl _ | with_reducible exact Le.iter s0_le _ | with_reducible apply Le.bind | with_reducible apply Le.cond | with_reducible apply Le.sum | intro _
end M34
namespace M36
def m' (x : gX) : Option fY := bindO (M38.m { n := x.n,w := x.w }) fun y => bif y != 0 then some 0 else bindO (M84.m' { n := x.n,w := x.w }) fun y => some y
theorem m_le (x : _) : Le (m' x) (m x) := by
 unfold m' m
 repeat' first | with_reducible exact Le.refl _ | with_reducible exact M84.m_le _ | with_reducible apply Le.bind | with_reducible apply Le.cond | with_reducible apply Le.sum | intro _
end M36
namespace M79
def s0' (x : p0X) : Option (p0X ⊕ (q0X ⊕ z0X)) := bif decide (x.i < x.k) then bif inR x.i x.l.length then bindO (M38.m { n := (x.l[x.i.toNat]?.getD (0,[])).fst,w := (x.l[x.i.toNat]?.getD (0,[])).snd }) fun y => bif y != 0 then some (Sum.inr (Sum.inr { r := y })) else some (Sum.inl { l := x.l,k := x.k,i := IntKind.i64.wrap (x.i + 1),an := x.an,aw := x.aw,bn := x.bn,bw := x.bw }) else none
else some (Sum.inr (Sum.inl { an := x.an,aw := x.aw,bn := x.bn,bw := x.bw }))
theorem s0_le (x : _) : Le (s0' x) (s0 x) := by
 unfold s0' s0
 repeat' first | with_reducible exact Le.refl _ | with_reducible apply Le.bind | with_reducible apply Le.cond | with_reducible apply Le.sum | intro _
def m' (x : gX) : Option fY := bindO (iterN s0' 200 { l := [(x.an,x.aw),(x.bn,x.bw)],k := (↑2 : Int),i := 0,an := x.an,aw := x.aw,bn := x.bn,bw := x.bw }) fun s => sumC s (fun y => bif y.an != y.bn then some 8 else some 0) fun z => some z.r
theorem m_le (x : _) : Le (m' x) (m x) := by
 unfold m' m
 repeat' first | with_reducible exact Le.refl _ | with_reducible exact Le.iter s0_le _ | with_reducible apply Le.bind | with_reducible apply Le.cond | with_reducible apply Le.sum | intro _
end M79
namespace M104x
def s0' (x : p0X) : Option (p0X ⊕ q0X) := bif decide (x.i < x.k) then bif inR x.i x.aw.length then bif inR x.i x.bw.length then bindO (M105.m { x := x.aw[x.i.toNat]?.getD 0,y := x.bw[x.i.toNat]?.getD 0 }) fun y => bif inR x.i x.ow_len then bif decide (x.ow_lo + x.i.toNat < x.ws.length) then some (Sum.inl { k := x.k,i := IntKind.i64.wrap (x.i + 1),an := x.an,aw := x.aw,bn := x.bn,bw := x.bw,ws := x.ws.set (x.ow_lo + x.i.toNat) y,on := x.on,ow_lo := x.ow_lo,ow_len := x.ow_len,ow_cap := x.ow_cap }) else none else none else none else none
else some (Sum.inr { an := x.an,aw := x.aw,bn := x.bn,bw := x.bw,ws := x.ws,on := x.on,ow_lo := x.ow_lo,ow_len := x.ow_len,ow_cap := x.ow_cap })
theorem s0_le (x : _) : Le (s0' x) (s0 x) := by
 unfold s0' s0
 repeat' first | with_reducible exact Le.refl _ | with_reducible apply Le.bind | with_reducible apply Le.cond | with_reducible apply Le.sum | intro _
def m' (x : gX) : Option fY := bindO (M73.m { n := x.an }) fun y => bindO (iterN s0' 200 { k := (↑y.snd.snd.fst : Int),i := 0,an := x.an,aw := x.aw,bn := x.bn,bw := x.bw,ws := y.snd.snd.snd.snd,on := y.fst,ow_lo := y.snd.fst,ow_len := y.snd.snd.fst,ow_cap := y.snd.snd.snd.fst }) fun y => bif leB (y.ow_lo + y.ow_len) y.ws.length && true && true && true then some (y.on,List.take y.ow_len (List.drop y.ow_lo y.ws)) else none
theorem m_le (x : _) : Le (m' x) (m x) := by
 unfold m' m
 repeat' first | with_reducible exact Le.refl _ | with_reducible exact Le.iter s0_le _ | with_reducible apply Le.bind | with_reducible apply Le.cond | with_reducible apply Le.sum | intro _
end M104x
namespace M104a
def s0' (x : p0X) : Option (p0X ⊕ q0X) := bif decide (x.i < x.k) then bif inR x.i x.aw.length then bif inR x.i x.bw.length then bindO (M106.m { x := x.aw[x.i.toNat]?.getD 0,y := x.bw[x.i.toNat]?.getD 0 }) fun y => bif inR x.i x.ow_len then bif decide (x.ow_lo + x.i.toNat < x.ws.length) then some (Sum.inl { k := x.k,i := IntKind.i64.wrap (x.i + 1),an := x.an,aw := x.aw,bn := x.bn,bw := x.bw,ws := x.ws.set (x.ow_lo + x.i.toNat) y,on := x.on,ow_lo := x.ow_lo,ow_len := x.ow_len,ow_cap := x.ow_cap }) else none else none else none else none
else some (Sum.inr { an := x.an,aw := x.aw,bn := x.bn,bw := x.bw,ws := x.ws,on := x.on,ow_lo := x.ow_lo,ow_len := x.ow_len,ow_cap := x.ow_cap })
theorem s0_le (x : _) : Le (s0' x) (s0 x) := by
 unfold s0' s0
 repeat' first | with_reducible exact Le.refl _ | with_reducible apply Le.bind | with_reducible apply Le.cond | with_reducible apply Le.sum | intro _
def m' (x : gX) : Option fY := bindO (M73.m { n := x.an }) fun y => bindO (iterN s0' 200 { k := (↑y.snd.snd.fst : Int),i := 0,an := x.an,aw := x.aw,bn := x.bn,bw := x.bw,ws := y.snd.snd.snd.snd,on := y.fst,ow_lo := y.snd.fst,ow_len := y.snd.snd.fst,ow_cap := y.snd.snd.snd.fst }) fun y => bif leB (y.ow_lo + y.ow_len) y.ws.length && true && true && true then some (y.on,List.take y.ow_len (List.drop y.ow_lo y.ws)) else none
theorem m_le (x : _) : Le (m' x) (m x) := by
 unfold m' m
 repeat' first | with_reducible exact Le.refl _ | with_reducible exact Le.iter s0_le _ | with_reducible apply Le.bind | with_reducible apply Le.cond | with_reducible apply Le.sum | intro _
end M104a
namespace M80
def m' (x : gX) : Option fY := bindO (M104x.m' { an := x.an,aw := x.aw,bn := x.bn,bw := x.bw }) fun y => some (y.fst,y.snd)
theorem m_le (x : _) : Le (m' x) (m x) := by
 unfold m' m
 repeat' first | with_reducible exact Le.refl _ | with_reducible exact M104x.m_le _ | with_reducible apply Le.bind | with_reducible apply Le.cond | with_reducible apply Le.sum | intro _
end M80
namespace M81
def m' (x : gX) : Option fY := bindO (M104a.m' { an := x.an,aw := x.aw,bn := x.bn,bw := x.bw }) fun y => bindO (M84.m' { n := y.fst,w := y.snd }) fun y => some (Int.tmod y 2 == 1)
theorem m_le (x : _) : Le (m' x) (m x) := by
 unfold m' m
 repeat' first | with_reducible exact Le.refl _ | with_reducible exact M84.m_le _ | with_reducible exact M104a.m_le _ | with_reducible apply Le.bind | with_reducible apply Le.cond | with_reducible apply Le.sum | intro _
end M81
namespace M28
def m' (x : gX) : Option fY := bindO (M79.m' { an := x.an,aw := x.aw,bn := x.bn,bw := x.bw }) fun y => bif y != 0 then some (0,[],y) else bindO (M80.m' { an := x.an,aw := x.aw,bn := x.bn,bw := x.bw }) fun y => some (y.fst,y.snd,0)
theorem m_le (x : _) : Le (m' x) (m x) := by
 unfold m' m
 repeat' first | with_reducible exact Le.refl _ | with_reducible exact M79.m_le _ | with_reducible exact M80.m_le _ | with_reducible apply Le.bind | with_reducible apply Le.cond | with_reducible apply Le.sum | intro _
end M28
namespace M33
def m' (x : gX) : Option fY := bindO (M79.m' { an := x.an,aw := x.aw,bn := x.bn,bw := x.bw }) fun y => bif y != 0 then some (0,y) else bindO (M81.m' { an := x.an,aw := x.aw,bn := x.bn,bw := x.bw }) fun y => bif y then some (1,0) else some (0,0)
theorem m_le (x : _) : Le (m' x) (m x) := by
 unfold m' m
 repeat' first | with_reducible exact Le.refl _ | with_reducible exact M79.m_le _ | with_reducible exact M81.m_le _ | with_reducible apply Le.bind | with_reducible apply Le.cond | with_reducible apply Le.sum | intro _
end M33
namespace M50
def s0' (x : p0X) : Option (p0X ⊕ (q0X ⊕ z0X)) := bif decide (x.i < x.k) then bif inR x.i x.l.length then bindO (M38.m { n := (x.l[x.i.toNat]?.getD (0,[])).fst,w := (x.l[x.i.toNat]?.getD (0,[])).snd }) fun y => bif y != 0 then some (Sum.inr (Sum.inr { r := y })) else bif (x.l[x.i.toNat]?.getD (0,[])).fst != x.c then some (Sum.inr (Sum.inr { r := 8 })) else some (Sum.inl { l := x.l,k := x.k,i := IntKind.i64.wrap (x.i + 1),c := x.c,rows := x.rows }) else none
else some (Sum.inr (Sum.inl PUnit.unit))
theorem s0_le (x : _) : Le (s0' x) (s0 x) := by
 unfold s0' s0
 repeat' first | with_reducible exact Le.refl _ | with_reducible apply Le.bind | with_reducible apply Le.cond | with_reducible apply Le.sum | intro _
def m' (x : gX) : Option fY := bindO (M85.m { n := x.c }) fun y => bif y != 0 then some y else bindO (M85.m { n := (↑x.rows.length : Int) }) fun y => bif y != 0 then some y else bindO (iterN s0' 200 { l := x.rows,k := (↑x.rows.length : Int),i := 0,c := x.c,rows := x.rows }) fun s => sumC s (fun y => some 0) fun z => some z.r
theorem m_le (x : _) : Le (m' x) (m x) := by
 unfold m' m
 repeat' first | with_reducible exact Le.refl _ | with_reducible exact Le.iter s0_le _ | with_reducible apply Le.bind | with_reducible apply Le.cond | with_reducible apply Le.sum | intro _
end M50
namespace M29
def s0' (x : p0X) : Option (p0X ⊕ q0X) := bif decide (x.i < x.k) then bif inR x.i x.l.length then bindO (M81.m' { an := (x.l[x.i.toNat]?.getD (0,[])).fst,aw := (x.l[x.i.toNat]?.getD (0,[])).snd,bn := x.vn,bw := x.vw }) fun y => bif y then bindO (M75.m { n := x.on,w_lo := x.ow_lo,w_len := x.ow_len,w_cap := x.ow_cap,i := x.i,ws := x.ws }) fun y => some (Sum.inl { l := x.l,k := x.k,i := IntKind.i64.wrap (x.i + 1),c := x.c,rows := x.rows,vn := x.vn,vw := x.vw,ws := y,on := x.on,ow_lo := x.ow_lo,ow_len := x.ow_len,ow_cap := x.ow_cap }) else some (Sum.inl { l := x.l,k := x.k,i := IntKind.i64.wrap (x.i + 1),c := x.c,rows := x.rows,vn := x.vn,vw := x.vw,ws := x.ws,on := x.on,ow_lo := x.ow_lo,ow_len := x.ow_len,ow_cap := x.ow_cap }) else none
else some (Sum.inr { c := x.c,rows := x.rows,vn := x.vn,vw := x.vw,ws := x.ws,on := x.on,ow_lo := x.ow_lo,ow_len := x.ow_len,ow_cap := x.ow_cap })
theorem s0_le (x : _) : Le (s0' x) (s0 x) := by
 unfold s0' s0
 repeat' first | with_reducible exact Le.refl _ | with_reducible exact M81.m_le _ | with_reducible apply Le.bind | with_reducible apply Le.cond | with_reducible apply Le.sum | intro _
def m' (x : gX) : Option fY := bindO (M50.m' { c := x.c,rows := x.rows }) fun y => bif y != 0 then some (0,[],y) else bindO (M38.m { n := x.vn,w := x.vw }) fun y => bif y != 0 then some (0,[],y) else bif x.vn != x.c then some (0,[],8) else bindO (M73.m { n := (↑x.rows.length : Int) }) fun y => bindO (iterN s0' 200 { l := x.rows,k := (↑x.rows.length : Int),i := 0,c := x.c,rows := x.rows,vn := x.vn,vw := x.vw,ws := y.snd.snd.snd.snd,on := y.fst,ow_lo := y.snd.fst,ow_len := y.snd.snd.fst,ow_cap := y.snd.snd.snd.fst }) fun y => bif leB (y.ow_lo + y.ow_len) y.ws.length && true && true && true && true then some (y.on,List.take y.ow_len (List.drop y.ow_lo y.ws),0) else none
theorem m_le (x : _) : Le (m' x) (m x) := by
 unfold m' m
 repeat' first | with_reducible exact Le.refl _ | with_reducible exact M50.m_le _ | with_reducible exact Le.iter s0_le _ | with_reducible apply Le.bind | with_reducible apply Le.cond | with_reducible apply Le.sum | intro _
end M29
namespace M102
def s0' (x : p0X) : Option (p0X ⊕ q0X) := bif decide (x.i < x.n) then bif inR x.i x.rows_len || !!x.i == x.top then bif decide (x.rows_lo + x.i.toNat < x.rs.length) || !!x.i == x.top then bindO (bif !x.i == x.top then M74.m { n := (x.rs[x.rows_lo + x.i.toNat]?.getD (0,[])).fst,w := (x.rs[x.rows_lo + x.i.toNat]?.getD (0,[])).snd,i := x.k } else some false) fun y => bif bif x.i == x.top then true else !y then some (Sum.inl { top := x.top,k := x.k,n := x.n,i := IntKind.i64.wrap (x.i + 1),rows_lo := x.rows_lo,rows_len := x.rows_len,rows_cap := x.rows_cap,more_lo := x.more_lo,more_len := x.more_len,more_cap := x.more_cap,piv_lo := x.piv_lo,piv_len := x.piv_len,rs := x.rs,ms := x.ms,ps := x.ps }) else bif inR x.i x.rows_len then bif decide (x.rows_lo + x.i.toNat < x.rs.length) then bif inR x.top x.rows_len then bif decide (x.rows_lo + x.top.toNat < x.rs.length) then bindO (M80.m' { an := (x.rs[x.rows_lo + x.i.toNat]?.getD (0,[])).fst,aw := (x.rs[x.rows_lo + x.i.toNat]?.getD (0,[])).snd,bn := (x.rs[x.rows_lo + x.top.toNat]?.getD (0,[])).fst,bw := (x.rs[x.rows_lo + x.top.toNat]?.getD (0,[])).snd }) fun y => bif inR x.i x.rows_len then bif decide (x.rows_lo + x.i.toNat < x.rs.length) then bif decide ((↑x.more_len : Int) > 0) then bif inR x.i x.more_len then bif decide (x.more_lo + x.i.toNat < x.ms.length) then bif inR x.top x.more_len then bif decide (x.more_lo + x.top.toNat < x.ms.length) then bindO (M80.m' { an := (x.ms[x.more_lo + x.i.toNat]?.getD (0,[])).fst,aw := (x.ms[x.more_lo + x.i.toNat]?.getD (0,[])).snd,bn := (x.ms[x.more_lo + x.top.toNat]?.getD (0,[])).fst,bw := (x.ms[x.more_lo + x.top.toNat]?.getD (0,[])).snd }) fun y_1 => bif inR x.i x.more_len then bif decide (x.more_lo + x.i.toNat < x.ms.length) then some (Sum.inl { top := x.top,k := x.k,n := x.n,i := IntKind.i64.wrap (x.i + 1),rows_lo := x.rows_lo,rows_len := x.rows_len,rows_cap := x.rows_cap,more_lo := x.more_lo,more_len := x.more_len,more_cap := x.more_cap,piv_lo := x.piv_lo,piv_len := x.piv_len,rs := x.rs.set (x.rows_lo + x.i.toNat) (y.fst,y.snd),ms := x.ms.set (x.more_lo + x.i.toNat) (y_1.fst,y_1.snd),ps := x.ps }) else none else none else none else none else none else none else some (Sum.inl { top := x.top,k := x.k,n := x.n,i := IntKind.i64.wrap (x.i + 1),rows_lo := x.rows_lo,rows_len := x.rows_len,rows_cap := x.rows_cap,more_lo := x.more_lo,more_len := x.more_len,more_cap := x.more_cap,piv_lo := x.piv_lo,piv_len := x.piv_len,rs := x.rs.set (x.rows_lo + x.i.toNat) (y.fst,y.snd),ms := x.ms,ps := x.ps }) else none else none else none else none else none else none else none else none
else
 some
  (Sum.inr
   {rows_lo := x.rows_lo,rows_len := x.rows_len,rows_cap := x.rows_cap,more_lo := x.more_lo,more_len := x.more_len,more_cap := x.more_cap,piv_lo := x.piv_lo,
    piv_len := x.piv_len,rs := x.rs,ms := x.ms,ps := x.ps })
theorem s0_le (x : _) : Le (s0' x) (s0 x) := by
 unfold s0' s0
 repeat' first | with_reducible exact Le.refl _ | with_reducible exact M80.m_le _ | with_reducible apply Le.bind | with_reducible apply Le.cond | with_reducible apply Le.sum | intro _
def m' (x : gX) : Option fY := bindO (iterN s0' 200 { top := x.top,k := x.k,n := (↑x.rows_len : Int),i := 0,rows_lo := x.rows_lo,rows_len := x.rows_len,rows_cap := x.rows_cap,more_lo := x.more_lo,more_len := x.more_len,more_cap := x.more_cap,piv_lo := x.piv_lo,piv_len := x.piv_len,rs := x.rs,ms := x.ms,ps := x.ps }) fun y => some (y.rows_lo,y.rows_len,y.rows_cap,y.more_lo,y.more_len,y.more_cap,y.piv_lo,y.piv_len,y.rs,y.ms,y.ps)
theorem m_le (x : _) : Le (m' x) (m x) := by
 unfold m' m
 repeat' first | with_reducible exact Le.refl _ | with_reducible exact Le.iter s0_le _ | with_reducible apply Le.bind | with_reducible apply Le.cond | with_reducible apply Le.sum | intro _
end M102
namespace M76
def s1' (x : p1X) : Option (p1X ⊕ (q1X ⊕ z1X)) := bif decide (x.i < (↑x.wr_len : Int)) then bif inR x.i x.wr_len then bif decide (x.wr_lo + x.i.toNat < x.rs.length) then bindO (M74.m { n := (x.rs[x.wr_lo + x.i.toNat]?.getD (0,[])).fst,w := (x.rs[x.wr_lo + x.i.toNat]?.getD (0,[])).snd,i := x.k1 }) fun y => bif !y then some (Sum.inl { n := x.n,k := x.k,k1 := x.k1,top := x.top,i := IntKind.i64.wrap (x.i + 1),c := x.c,rows := x.rows,rs := x.rs,ms := x.ms,wr_lo := x.wr_lo,wr_len := x.wr_len,wr_cap := x.wr_cap,wm_lo := x.wm_lo,wm_len := x.wm_len,wm_cap := x.wm_cap,wp_lo := x.wp_lo,wp_len := x.wp_len,ps := x.ps }) else bindO (M101.m { i := x.i,k := x.top,rows_lo := x.wr_lo,rows_len := x.wr_len,rows_cap := x.wr_cap,more_lo := x.wm_lo,more_len := x.wm_len,more_cap := x.wm_cap,piv_lo := x.wp_lo,piv_len := x.wp_len,rs := x.rs,ms := x.ms,ps := x.ps }) fun y => bindO (M102.m' { top := x.top,k := x.k1,rows_lo := y.fst,rows_len := y.snd.fst,rows_cap := y.snd.snd.fst,more_lo := y.snd.snd.snd.fst,more_len := y.snd.snd.snd.snd.fst,more_cap := y.snd.snd.snd.snd.snd.fst,piv_lo := y.snd.snd.snd.snd.snd.snd.fst,piv_len := y.snd.snd.snd.snd.snd.snd.snd.fst,rs := y.snd.snd.snd.snd.snd.snd.snd.snd.fst,ms := y.snd.snd.snd.snd.snd.snd.snd.snd.snd.fst,ps := y.snd.snd.snd.snd.snd.snd.snd.snd.snd.snd }) fun y => bif eqN y.snd.snd.snd.snd.snd.snd.fst 0 && eqN y.snd.snd.snd.snd.snd.snd.snd.snd.snd.snd.length y.snd.snd.snd.snd.snd.snd.snd.fst && roomB (y.snd.snd.snd.snd.snd.snd.snd.fst + 1) 8 then some (Sum.inr (Sum.inr { n := x.n,k := x.k,c := x.c,rows := x.rows,rs := y.snd.snd.snd.snd.snd.snd.snd.snd.fst,ms := y.snd.snd.snd.snd.snd.snd.snd.snd.snd.fst,wr_lo := y.fst,wr_len := y.snd.fst,wr_cap := y.snd.snd.fst,wm_lo := y.snd.snd.snd.fst,wm_len := y.snd.snd.snd.snd.fst,wm_cap := y.snd.snd.snd.snd.snd.fst,wp_lo := 0,wp_len := y.snd.snd.snd.snd.snd.snd.snd.fst + 1,ps := y.snd.snd.snd.snd.snd.snd.snd.snd.snd.snd ++ [x.k1] })) else none else none else none
else
 some
  (Sum.inr
   (Sum.inl
    {n := x.n,k := x.k,c := x.c,rows := x.rows,rs := x.rs,ms := x.ms,wr_lo := x.wr_lo,wr_len := x.wr_len,wr_cap := x.wr_cap,wm_lo := x.wm_lo,wm_len := x.wm_len,
     wm_cap := x.wm_cap,wp_lo := x.wp_lo,wp_len := x.wp_len,ps := x.ps }))
theorem s1_le (x : _) : Le (s1' x) (s1 x) := by
 unfold s1' s1
 repeat' first | with_reducible exact Le.refl _ | with_reducible exact M102.m_le _ | with_reducible apply Le.bind | with_reducible apply Le.cond | with_reducible apply Le.sum | intro _
def s0' (x : p0X) : Option (p0X ⊕ q0X) := bif decide (x.k < x.n) then bindO (iterN s1' 200 { n := x.n,k := x.k,k1 := x.k,top := (↑x.wp_len : Int),i := (↑x.wp_len : Int),c := x.c,rows := x.rows,rs := x.rs,ms := x.ms,wr_lo := x.wr_lo,wr_len := x.wr_len,wr_cap := x.wr_cap,wm_lo := x.wm_lo,wm_len := x.wm_len,wm_cap := x.wm_cap,wp_lo := x.wp_lo,wp_len := x.wp_len,ps := x.ps }) fun s => sumC s (fun y => some (Sum.inl { n := y.n,k := IntKind.i64.wrap (y.k + 1),c := y.c,rows := y.rows,rs := y.rs,ms := y.ms,wr_lo := y.wr_lo,wr_len := y.wr_len,wr_cap := y.wr_cap,wm_lo := y.wm_lo,wm_len := y.wm_len,wm_cap := y.wm_cap,wp_lo := y.wp_lo,wp_len := y.wp_len,ps := y.ps })) fun z => some (Sum.inl { n := z.n,k := IntKind.i64.wrap (z.k + 1),c := z.c,rows := z.rows,rs := z.rs,ms := z.ms,wr_lo := z.wr_lo,wr_len := z.wr_len,wr_cap := z.wr_cap,wm_lo := z.wm_lo,wm_len := z.wm_len,wm_cap := z.wm_cap,wp_lo := z.wp_lo,wp_len := z.wp_len,ps := z.ps })
else
 some
  (Sum.inr
   {c := x.c,rows := x.rows,rs := x.rs,ms := x.ms,wr_lo := x.wr_lo,wr_len := x.wr_len,wr_cap := x.wr_cap,wm_lo := x.wm_lo,wm_len := x.wm_len,wm_cap := x.wm_cap,
    wp_lo := x.wp_lo,wp_len := x.wp_len,ps := x.ps })
theorem s0_le (x : _) : Le (s0' x) (s0 x) := by
 unfold s0' s0
 repeat' first | with_reducible exact Le.refl _ | with_reducible exact Le.iter s1_le _ | with_reducible apply Le.bind | with_reducible apply Le.cond | with_reducible apply Le.sum | intro _
def m' (x : gX) : Option fY := bif decide (0 ≤ (↑x.rows.length : Int)) && decide ((↑x.rows.length : Int) ≤ (↑x.rows.length : Int)) && decide ((↑x.rows.length : Int) * (↑32 : Int) ≤ 281474976710656) && decide ((↑x.rows.length : Int) ≤ 9223372036854775807) then bif decide (0 ≤ (↑x.more.length : Int)) && decide ((↑x.more.length : Int) ≤ (↑x.more.length : Int)) && decide ((↑x.more.length : Int) * (↑32 : Int) ≤ 281474976710656) && decide ((↑x.more.length : Int) ≤ 9223372036854775807) then bif leB (0 + (↑x.rows.length : Int).toNat) (List.replicate (↑x.rows.length : Int).toNat ((0,[]) : Int × List Int)).length then bif leB (0 + (↑x.more.length : Int).toNat) (List.replicate (↑x.more.length : Int).toNat ((0,[]) : Int × List Int)).length then bindO (iterN s0' 200 { n := x.c,k := 0,c := x.c,rows := x.rows,rs := List.take 0 (List.replicate (↑x.rows.length : Int).toNat (0,[])) ++ List.take (min x.rows.length (↑x.rows.length : Int).toNat) x.rows ++ List.drop (0 + min x.rows.length (↑x.rows.length : Int).toNat) (List.replicate (↑x.rows.length : Int).toNat (0,[])),ms := List.take 0 (List.replicate (↑x.more.length : Int).toNat (0,[])) ++ List.take (min x.more.length (↑x.more.length : Int).toNat) x.more ++ List.drop (0 + min x.more.length (↑x.more.length : Int).toNat) (List.replicate (↑x.more.length : Int).toNat (0,[])),wr_lo := 0,wr_len := (↑x.rows.length : Int).toNat,wr_cap := (↑x.rows.length : Int).toNat,wm_lo := 0,wm_len := (↑x.more.length : Int).toNat,wm_cap := (↑x.more.length : Int).toNat,wp_lo := 0,wp_len := 0,ps := [] }) fun y => some (y.rs,y.ms,y.wr_lo,y.wr_len,y.wr_cap,y.wm_lo,y.wm_len,y.wm_cap,y.wp_lo,y.wp_len,y.ps) else none else none else none
else none
theorem m_le (x : _) : Le (m' x) (m x) := by
 unfold m' m
 repeat' first | with_reducible exact Le.refl _ | with_reducible exact Le.iter s0_le _ | with_reducible apply Le.bind | with_reducible apply Le.cond | with_reducible apply Le.sum | intro _
end M76
namespace M76o
def s1' (x : p1X) : Option (p1X ⊕ (q1X ⊕ z1X)) := bif decide (x.i < (↑x.wr_len : Int)) then bif inR x.i x.wr_len then bif decide (x.wr_lo + x.i.toNat < x.rs.length) then bindO (M74.m { n := (x.rs[x.wr_lo + x.i.toNat]?.getD (0,[])).fst,w := (x.rs[x.wr_lo + x.i.toNat]?.getD (0,[])).snd,i := x.k1 }) fun y => bif !y then some (Sum.inl { n := x.n,k := x.k,k1 := x.k1,top := x.top,i := IntKind.i64.wrap (x.i + 1),m0 := x.m0,c := x.c,rows := x.rows,rs := x.rs,ms := x.ms,wr_lo := x.wr_lo,wr_len := x.wr_len,wr_cap := x.wr_cap,wm_lo := x.wm_lo,wm_len := x.wm_len,wm_cap := x.wm_cap,wp_lo := x.wp_lo,wp_len := x.wp_len,ps := x.ps }) else bindO (M101.m { i := x.i,k := x.top,rows_lo := x.wr_lo,rows_len := x.wr_len,rows_cap := x.wr_cap,more_lo := x.wm_lo,more_len := x.wm_len,more_cap := x.wm_cap,piv_lo := x.wp_lo,piv_len := x.wp_len,rs := x.rs,ms := x.ms,ps := x.ps }) fun y => bindO (M102.m' { top := x.top,k := x.k1,rows_lo := y.fst,rows_len := y.snd.fst,rows_cap := y.snd.snd.fst,more_lo := y.snd.snd.snd.fst,more_len := y.snd.snd.snd.snd.fst,more_cap := y.snd.snd.snd.snd.snd.fst,piv_lo := y.snd.snd.snd.snd.snd.snd.fst,piv_len := y.snd.snd.snd.snd.snd.snd.snd.fst,rs := y.snd.snd.snd.snd.snd.snd.snd.snd.fst,ms := y.snd.snd.snd.snd.snd.snd.snd.snd.snd.fst,ps := y.snd.snd.snd.snd.snd.snd.snd.snd.snd.snd }) fun y => bif eqN y.snd.snd.snd.snd.snd.snd.fst 0 && eqN y.snd.snd.snd.snd.snd.snd.snd.snd.snd.snd.length y.snd.snd.snd.snd.snd.snd.snd.fst && roomB (y.snd.snd.snd.snd.snd.snd.snd.fst + 1) 8 then some (Sum.inr (Sum.inr { n := x.n,k := x.k,m0 := x.m0,c := x.c,rows := x.rows,rs := y.snd.snd.snd.snd.snd.snd.snd.snd.fst,ms := y.snd.snd.snd.snd.snd.snd.snd.snd.snd.fst,wr_lo := y.fst,wr_len := y.snd.fst,wr_cap := y.snd.snd.fst,wm_lo := y.snd.snd.snd.fst,wm_len := y.snd.snd.snd.snd.fst,wm_cap := y.snd.snd.snd.snd.snd.fst,wp_lo := 0,wp_len := y.snd.snd.snd.snd.snd.snd.snd.fst + 1,ps := y.snd.snd.snd.snd.snd.snd.snd.snd.snd.snd ++ [x.k1] })) else none else none else none
else
 some
  (Sum.inr
   (Sum.inl
    {n := x.n,k := x.k,m0 := x.m0,c := x.c,rows := x.rows,rs := x.rs,ms := x.ms,wr_lo := x.wr_lo,wr_len := x.wr_len,wr_cap := x.wr_cap,wm_lo := x.wm_lo,
     wm_len := x.wm_len,wm_cap := x.wm_cap,wp_lo := x.wp_lo,wp_len := x.wp_len,ps := x.ps }))
theorem s1_le (x : _) : Le (s1' x) (s1 x) := by
 unfold s1' s1
 repeat' first | with_reducible exact Le.refl _ | with_reducible exact M102.m_le _ | with_reducible apply Le.bind | with_reducible apply Le.cond | with_reducible apply Le.sum | intro _
def s0' (x : p0X) : Option (p0X ⊕ q0X) := bif decide (x.k < x.n) then bindO (iterN s1' 200 { n := x.n,k := x.k,k1 := x.k,top := (↑x.wp_len : Int),i := (↑x.wp_len : Int),m0 := x.m0,c := x.c,rows := x.rows,rs := x.rs,ms := x.ms,wr_lo := x.wr_lo,wr_len := x.wr_len,wr_cap := x.wr_cap,wm_lo := x.wm_lo,wm_len := x.wm_len,wm_cap := x.wm_cap,wp_lo := x.wp_lo,wp_len := x.wp_len,ps := x.ps }) fun s => sumC s (fun y => some (Sum.inl { n := y.n,k := IntKind.i64.wrap (y.k + 1),m0 := y.m0,c := y.c,rows := y.rows,rs := y.rs,ms := y.ms,wr_lo := y.wr_lo,wr_len := y.wr_len,wr_cap := y.wr_cap,wm_lo := y.wm_lo,wm_len := y.wm_len,wm_cap := y.wm_cap,wp_lo := y.wp_lo,wp_len := y.wp_len,ps := y.ps })) fun z => some (Sum.inl { n := z.n,k := IntKind.i64.wrap (z.k + 1),m0 := z.m0,c := z.c,rows := z.rows,rs := z.rs,ms := z.ms,wr_lo := z.wr_lo,wr_len := z.wr_len,wr_cap := z.wr_cap,wm_lo := z.wm_lo,wm_len := z.wm_len,wm_cap := z.wm_cap,wp_lo := z.wp_lo,wp_len := z.wp_len,ps := z.ps })
else
 some
  (Sum.inr
   {m0 := x.m0,c := x.c,rows := x.rows,rs := x.rs,ms := x.ms,wr_lo := x.wr_lo,wr_len := x.wr_len,wr_cap := x.wr_cap,wm_lo := x.wm_lo,wm_len := x.wm_len,
    wm_cap := x.wm_cap,wp_lo := x.wp_lo,wp_len := x.wp_len,ps := x.ps })
theorem s0_le (x : _) : Le (s0' x) (s0 x) := by
 unfold s0' s0
 repeat' first | with_reducible exact Le.refl _ | with_reducible exact Le.iter s1_le _ | with_reducible apply Le.bind | with_reducible apply Le.cond | with_reducible apply Le.sum | intro _
def m' (x : gX) : Option fY := bif decide (0 ≤ (↑x.rows.length : Int)) && decide ((↑x.rows.length : Int) ≤ (↑x.rows.length : Int)) && decide ((↑x.rows.length : Int) * (↑32 : Int) ≤ 281474976710656) && decide ((↑x.rows.length : Int) ≤ 9223372036854775807) then bif decide (0 ≤ (↑x.more_len : Int)) && decide ((↑x.more_len : Int) ≤ (↑x.more_len : Int)) && decide ((↑x.more_len : Int) * (↑32 : Int) ≤ 281474976710656) && decide ((↑x.more_len : Int) ≤ 9223372036854775807) then bif leB (0 + (↑x.rows.length : Int).toNat) (List.replicate (↑x.rows.length : Int).toNat ((0,[]) : Int × List Int)).length then bif leB (x.more_lo + x.more_len) x.m0.length && leB (0 + (↑x.more_len : Int).toNat) (List.replicate (↑x.more_len : Int).toNat ((0,[]) : Int × List Int)).length then bindO (iterN s0' 200 { n := x.c,k := 0,m0 := x.m0,c := x.c,rows := x.rows,rs := List.take 0 (List.replicate (↑x.rows.length : Int).toNat (0,[])) ++ List.take (min x.rows.length (↑x.rows.length : Int).toNat) x.rows ++ List.drop (0 + min x.rows.length (↑x.rows.length : Int).toNat) (List.replicate (↑x.rows.length : Int).toNat (0,[])),ms := List.take 0 (List.replicate (↑x.more_len : Int).toNat (0,[])) ++ List.take (min x.more_len (↑x.more_len : Int).toNat) (List.take x.more_len (List.drop x.more_lo x.m0)) ++ List.drop (0 + min x.more_len (↑x.more_len : Int).toNat) (List.replicate (↑x.more_len : Int).toNat (0,[])),wr_lo := 0,wr_len := (↑x.rows.length : Int).toNat,wr_cap := (↑x.rows.length : Int).toNat,wm_lo := 0,wm_len := (↑x.more_len : Int).toNat,wm_cap := (↑x.more_len : Int).toNat,wp_lo := 0,wp_len := 0,ps := [] }) fun y => some (y.m0,y.rs,y.ms,y.wr_lo,y.wr_len,y.wr_cap,y.wm_lo,y.wm_len,y.wm_cap,y.wp_lo,y.wp_len,y.ps) else none else none else none
else none
theorem m_le (x : _) : Le (m' x) (m x) := by
 unfold m' m
 repeat' first | with_reducible exact Le.refl _ | with_reducible exact Le.iter s0_le _ | with_reducible apply Le.bind | with_reducible apply Le.cond | with_reducible apply Le.sum | intro _
end M76o
namespace M103
def s0' (x : p0X) : Option (p0X ⊕ (q0X ⊕ z0X)) := bif decide (x.i < x.n) then bif inR x.i x.s.length then bif x.v == x.s[x.i.toNat]?.getD 0 then some (Sum.inr (Sum.inr { r := x.i })) else some (Sum.inl { s := x.s,v := x.v,n := x.n,i := IntKind.i64.wrap (x.i + 1) }) else none
else some (Sum.inr (Sum.inl PUnit.unit))
theorem s0_le (x : _) : Le (s0' x) (s0 x) := by
 unfold s0' s0
 repeat' first | with_reducible exact Le.refl _ | with_reducible apply Le.bind | with_reducible apply Le.cond | with_reducible apply Le.sum | intro _
def m' (x : gX) : Option fY := bindO (iterN s0' 200 { s := x.s,v := x.v,n := (↑x.s.length : Int),i := 0 }) fun s => sumC s (fun y => some (-1)) fun z => some z.r
theorem m_le (x : _) : Le (m' x) (m x) := by
 unfold m' m
 repeat' first | with_reducible exact Le.refl _ | with_reducible exact Le.iter s0_le _ | with_reducible apply Le.bind | with_reducible apply Le.cond | with_reducible apply Le.sum | intro _
end M103
namespace M77
def m' (x : gX) : Option fY := bindO (M103.m' { s := x.s,v := x.v }) fun y => some (decide (y ≥ 0))
theorem m_le (x : _) : Le (m' x) (m x) := by
 unfold m' m
 repeat' first | with_reducible exact Le.refl _ | with_reducible exact M103.m_le _ | with_reducible apply Le.bind | with_reducible apply Le.cond | with_reducible apply Le.sum | intro _
end M77
namespace M26
def m' (x : gX) : Option fY := bindO (M50.m' { c := x.c,rows := x.rows }) fun y => bif y != 0 then some (0,y) else bindO (M76.m' { c := x.c,rows := x.rows,more := [] }) fun y => some ((↑y.snd.snd.snd.snd.snd.snd.snd.snd.snd.fst : Int),0)
theorem m_le (x : _) : Le (m' x) (m x) := by
 unfold m' m
 repeat' first | with_reducible exact Le.refl _ | with_reducible exact M50.m_le _ | with_reducible exact M76.m_le _ | with_reducible apply Le.bind | with_reducible apply Le.cond | with_reducible apply Le.sum | intro _
end M26
namespace M25
def s1' (x : p1X) : Option (p1X ⊕ q1X) := bif decide (x.i2 < x.n2) then bif inR x.i2 x.pv_len then bif decide (x.pv_lo + x.i2.toNat < x.ps.length) then bif inR x.i2 x.wr_len then bif decide (x.wr_lo + x.i2.toNat < x.rs.length) then bindO (M74.m { n := (x.rs[x.wr_lo + x.i2.toNat]?.getD (0,[])).fst,w := (x.rs[x.wr_lo + x.i2.toNat]?.getD (0,[])).snd,i := x.k }) fun y => bif y then bindO (M75.m { n := x.vn,w_lo := x.vw_lo,w_len := x.vw_len,w_cap := x.vw_cap,i := x.ps[x.pv_lo + x.i2.toNat]?.getD 0,ws := x.ws }) fun y => some (Sum.inl { out_lo := x.out_lo,out_len := x.out_len,out_cap := x.out_cap,n := x.n,i := x.i,k := x.k,pv_lo := x.pv_lo,pv_len := x.pv_len,n2 := x.n2,i2 := IntKind.i64.wrap (x.i2 + 1),c := x.c,rows := x.rows,rs := x.rs,ms := x.ms,wr_lo := x.wr_lo,wr_len := x.wr_len,wr_cap := x.wr_cap,wm_lo := x.wm_lo,wm_len := x.wm_len,wm_cap := x.wm_cap,wp_lo := x.wp_lo,wp_len := x.wp_len,ps := x.ps,out := x.out,ws := y,vn := x.vn,vw_lo := x.vw_lo,vw_len := x.vw_len,vw_cap := x.vw_cap }) else some (Sum.inl { out_lo := x.out_lo,out_len := x.out_len,out_cap := x.out_cap,n := x.n,i := x.i,k := x.k,pv_lo := x.pv_lo,pv_len := x.pv_len,n2 := x.n2,i2 := IntKind.i64.wrap (x.i2 + 1),c := x.c,rows := x.rows,rs := x.rs,ms := x.ms,wr_lo := x.wr_lo,wr_len := x.wr_len,wr_cap := x.wr_cap,wm_lo := x.wm_lo,wm_len := x.wm_len,wm_cap := x.wm_cap,wp_lo := x.wp_lo,wp_len := x.wp_len,ps := x.ps,out := x.out,ws := x.ws,vn := x.vn,vw_lo := x.vw_lo,vw_len := x.vw_len,vw_cap := x.vw_cap }) else none else none else none else none
else
 some
  (Sum.inr
   {out_lo := x.out_lo,out_len := x.out_len,out_cap := x.out_cap,n := x.n,i := x.i,c := x.c,rows := x.rows,rs := x.rs,ms := x.ms,wr_lo := x.wr_lo,wr_len := x.wr_len,
    wr_cap := x.wr_cap,wm_lo := x.wm_lo,wm_len := x.wm_len,wm_cap := x.wm_cap,wp_lo := x.wp_lo,wp_len := x.wp_len,ps := x.ps,out := x.out,ws := x.ws,vn := x.vn,
    vw_lo := x.vw_lo,vw_len := x.vw_len,vw_cap := x.vw_cap })
theorem s1_le (x : _) : Le (s1' x) (s1 x) := by
 unfold s1' s1
 repeat' first | with_reducible exact Le.refl _ | with_reducible apply Le.bind | with_reducible apply Le.cond | with_reducible apply Le.sum | intro _
def s0' (x : p0X) : Option (p0X ⊕ q0X) := bif decide (x.i < x.n) then bindO (bif leB (x.wp_lo + x.wp_len) x.ps.length && true then M77.m' { s := List.take x.wp_len (List.drop x.wp_lo x.ps),v := x.i } else none) fun y => bif y then some (Sum.inl { out_lo := x.out_lo,out_len := x.out_len,out_cap := x.out_cap,n := x.n,i := IntKind.i64.wrap (x.i + 1),c := x.c,rows := x.rows,rs := x.rs,ms := x.ms,wr_lo := x.wr_lo,wr_len := x.wr_len,wr_cap := x.wr_cap,wm_lo := x.wm_lo,wm_len := x.wm_len,wm_cap := x.wm_cap,wp_lo := x.wp_lo,wp_len := x.wp_len,ps := x.ps,out := x.out }) else bindO (M73.m { n := x.c }) fun y => bindO (M75.m { n := y.fst,w_lo := y.snd.fst,w_len := y.snd.snd.fst,w_cap := y.snd.snd.snd.fst,i := x.i,ws := y.snd.snd.snd.snd }) fun y_1 => bindO (iterN s1' 200 { out_lo := x.out_lo,out_len := x.out_len,out_cap := x.out_cap,n := x.n,i := x.i,k := x.i,pv_lo := x.wp_lo,pv_len := x.wp_len,n2 := (↑x.wp_len : Int),i2 := 0,c := x.c,rows := x.rows,rs := x.rs,ms := x.ms,wr_lo := x.wr_lo,wr_len := x.wr_len,wr_cap := x.wr_cap,wm_lo := x.wm_lo,wm_len := x.wm_len,wm_cap := x.wm_cap,wp_lo := x.wp_lo,wp_len := x.wp_len,ps := x.ps,out := x.out,ws := y_1,vn := y.fst,vw_lo := y.snd.fst,vw_len := y.snd.snd.fst,vw_cap := y.snd.snd.snd.fst }) fun y => bif leB (y.out_len + 1) y.out_cap && leB (y.out_lo + y.out_cap) y.out.length then bif leB (y.vw_lo + y.vw_len) y.ws.length && true && true then some (Sum.inl { out_lo := y.out_lo,out_len := y.out_len + 1,out_cap := y.out_cap,n := y.n,i := IntKind.i64.wrap (y.i + 1),c := y.c,rows := y.rows,rs := y.rs,ms := y.ms,wr_lo := y.wr_lo,wr_len := y.wr_len,wr_cap := y.wr_cap,wm_lo := y.wm_lo,wm_len := y.wm_len,wm_cap := y.wm_cap,wp_lo := y.wp_lo,wp_len := y.wp_len,ps := y.ps,out := List.take (y.out_lo + y.out_len) y.out ++ (y.vn,List.take y.vw_len (List.drop y.vw_lo y.ws)) :: List.drop (y.out_lo + y.out_len + 1) y.out }) else none else none
else
 some
  (Sum.inr
   {out_lo := x.out_lo,out_len := x.out_len,out_cap := x.out_cap,c := x.c,rows := x.rows,rs := x.rs,ms := x.ms,wr_lo := x.wr_lo,wr_len := x.wr_len,wr_cap := x.wr_cap,
    wm_lo := x.wm_lo,wm_len := x.wm_len,wm_cap := x.wm_cap,wp_lo := x.wp_lo,wp_len := x.wp_len,ps := x.ps,out := x.out })
theorem s0_le (x : _) : Le (s0' x) (s0 x) := by
 unfold s0' s0
 repeat' first | with_reducible exact Le.refl _ | with_reducible exact M77.m_le _ | with_reducible exact Le.iter s1_le _ | with_reducible apply Le.bind | with_reducible apply Le.cond | with_reducible apply Le.sum | intro _
def m' (x : gX) : Option fY := bindO (M50.m' { c := x.c,rows := x.rows }) fun y => bif y != 0 then some ([],y) else bindO (M76.m' { c := x.c,rows := x.rows,more := [] }) fun y => bif decide (0 ≤ IntKind.i64.wrap (x.c - (↑y.snd.snd.snd.snd.snd.snd.snd.snd.snd.fst : Int))) && decide (IntKind.i64.wrap (x.c - (↑y.snd.snd.snd.snd.snd.snd.snd.snd.snd.fst : Int)) * (↑32 : Int) ≤ 281474976710656) && decide (IntKind.i64.wrap (x.c - (↑y.snd.snd.snd.snd.snd.snd.snd.snd.snd.fst : Int)) ≤ 9223372036854775807) then bindO (iterN s0' 200 { out_lo := 0,out_len := 0,out_cap := (IntKind.i64.wrap (x.c - (↑y.snd.snd.snd.snd.snd.snd.snd.snd.snd.fst : Int))).toNat,n := x.c,i := 0,c := x.c,rows := x.rows,rs := y.fst,ms := y.snd.fst,wr_lo := y.snd.snd.fst,wr_len := y.snd.snd.snd.fst,wr_cap := y.snd.snd.snd.snd.fst,wm_lo := y.snd.snd.snd.snd.snd.fst,wm_len := y.snd.snd.snd.snd.snd.snd.fst,wm_cap := y.snd.snd.snd.snd.snd.snd.snd.fst,wp_lo := y.snd.snd.snd.snd.snd.snd.snd.snd.fst,wp_len := y.snd.snd.snd.snd.snd.snd.snd.snd.snd.fst,ps := y.snd.snd.snd.snd.snd.snd.snd.snd.snd.snd,out := List.replicate (IntKind.i64.wrap (x.c - (↑y.snd.snd.snd.snd.snd.snd.snd.snd.snd.fst : Int))).toNat (0,[]) }) fun y => bif leB (y.out_lo + y.out_len) y.out.length && true && true && true then some (List.take y.out_len (List.drop y.out_lo y.out),0) else none else none
theorem m_le (x : _) : Le (m' x) (m x) := by
 unfold m' m
 repeat' first | with_reducible exact Le.refl _ | with_reducible exact M50.m_le _ | with_reducible exact M76.m_le _ | with_reducible exact Le.iter s0_le _ | with_reducible apply Le.bind | with_reducible apply Le.cond | with_reducible apply Le.sum | intro _
end M25
namespace M22
def s1' (x : p1X) : Option (p1X ⊕ (q1X ⊕ z1X)) := bif decide (x.i < x.n) then bif inR x.i x.mo_len then bif decide (x.mo_lo + x.i.toNat < x.ms.length) then bindO (M74.m { n := (x.ms[x.mo_lo + x.i.toNat]?.getD (0,[])).fst,w := (x.ms[x.mo_lo + x.i.toNat]?.getD (0,[])).snd,i := 0 }) fun y => bif !y then some (Sum.inl { mo_lo := x.mo_lo,mo_len := x.mo_len,mo_cap := x.mo_cap,n := x.n,i := IntKind.i64.wrap (x.i + 1),c := x.c,rows := x.rows,bn := x.bn,bw := x.bw,side := x.side,rs := x.rs,ms := x.ms,wr_lo := x.wr_lo,wr_len := x.wr_len,wr_cap := x.wr_cap,wm_lo := x.wm_lo,wm_len := x.wm_len,wm_cap := x.wm_cap,wp_lo := x.wp_lo,wp_len := x.wp_len,ps := x.ps,ws := x.ws,xn := x.xn,xw_lo := x.xw_lo,xw_len := x.xw_len,xw_cap := x.xw_cap }) else bif decide (x.i ≥ (↑x.wp_len : Int)) then some (Sum.inr (Sum.inr { e := 9,rn := 0 })) else bif inR x.i x.wp_len then bif decide (x.wp_lo + x.i.toNat < x.ps.length) then bindO (M75.m { n := x.xn,w_lo := x.xw_lo,w_len := x.xw_len,w_cap := x.xw_cap,i := x.ps[x.wp_lo + x.i.toNat]?.getD 0,ws := x.ws }) fun y => some (Sum.inl { mo_lo := x.mo_lo,mo_len := x.mo_len,mo_cap := x.mo_cap,n := x.n,i := IntKind.i64.wrap (x.i + 1),c := x.c,rows := x.rows,bn := x.bn,bw := x.bw,side := x.side,rs := x.rs,ms := x.ms,wr_lo := x.wr_lo,wr_len := x.wr_len,wr_cap := x.wr_cap,wm_lo := x.wm_lo,wm_len := x.wm_len,wm_cap := x.wm_cap,wp_lo := x.wp_lo,wp_len := x.wp_len,ps := x.ps,ws := y,xn := x.xn,xw_lo := x.xw_lo,xw_len := x.xw_len,xw_cap := x.xw_cap }) else none else none else none else none
else
 some
  (Sum.inr
   (Sum.inl
    {c := x.c,rows := x.rows,bn := x.bn,bw := x.bw,side := x.side,rs := x.rs,ms := x.ms,wr_lo := x.wr_lo,wr_len := x.wr_len,wr_cap := x.wr_cap,wm_lo := x.wm_lo,
     wm_len := x.wm_len,wm_cap := x.wm_cap,wp_lo := x.wp_lo,wp_len := x.wp_len,ps := x.ps,ws := x.ws,xn := x.xn,xw_lo := x.xw_lo,xw_len := x.xw_len,
     xw_cap := x.xw_cap }))
theorem s1_le (x : _) : Le (s1' x) (s1 x) := by
 unfold s1' s1
 repeat' first | with_reducible exact Le.refl _ | with_reducible apply Le.bind | with_reducible apply Le.cond | with_reducible apply Le.sum | intro _
def s0' (x : p0X) : Option (p0X ⊕ q0X) := bif decide (x.i < x.n) then bindO (M73.m { n := 1 }) fun y => bif inR x.i x.side_len then bif decide (x.side_lo + x.i.toNat < x.side.length) then bindO (M74.m { n := x.bn,w := x.bw,i := x.i }) fun y_1 => bif y_1 then bif inR x.i x.side_len then bif eqN (x.side_lo + x.i.toNat) (List.take (x.side_lo + x.i.toNat) x.side).length then bindO (M75.m { n := y.fst,w_lo := y.snd.fst,w_len := y.snd.snd.fst,w_cap := y.snd.snd.snd.fst,i := 0,ws := y.snd.snd.snd.snd }) fun y_2 => bif leB (y.snd.fst + y.snd.snd.fst) (List.length y_2) && true && true then some (Sum.inl { side_lo := x.side_lo,side_len := x.side_len,side_cap := x.side_cap,n := x.n,i := IntKind.i64.wrap (x.i + 1),c := x.c,rows := x.rows,bn := x.bn,bw := x.bw,side := List.take (x.side_lo + x.i.toNat) x.side ++ (y.fst,List.take y.snd.snd.fst (List.drop y.snd.fst y_2)) :: List.drop (x.side_lo + x.i.toNat + 1) x.side }) else none else none else none else bif leB (y.snd.fst + y.snd.snd.fst) y.snd.snd.snd.snd.length && true && true then some (Sum.inl { side_lo := x.side_lo,side_len := x.side_len,side_cap := x.side_cap,n := x.n,i := IntKind.i64.wrap (x.i + 1),c := x.c,rows := x.rows,bn := x.bn,bw := x.bw,side := List.take (x.side_lo + x.i.toNat) x.side ++ (y.fst,List.take y.snd.snd.fst (List.drop y.snd.fst y.snd.snd.snd.snd)) :: List.drop (x.side_lo + x.i.toNat + 1) x.side }) else none else none else none
else some (Sum.inr { side_lo := x.side_lo,side_len := x.side_len,side_cap := x.side_cap,c := x.c,rows := x.rows,bn := x.bn,bw := x.bw,side := x.side })
theorem s0_le (x : _) : Le (s0' x) (s0 x) := by
 unfold s0' s0
 repeat' first | with_reducible exact Le.refl _ | with_reducible apply Le.bind | with_reducible apply Le.cond | with_reducible apply Le.sum | intro _
def m' (x : gX) : Option fY := bindO (M50.m' { c := x.c,rows := x.rows }) fun y => bif y != 0 then some (0,[],y) else bindO (M38.m { n := x.bn,w := x.bw }) fun y => bif y != 0 then some (0,[],y) else bif x.bn != (↑x.rows.length : Int) then some (0,[],8) else bif decide (0 ≤ (↑x.rows.length : Int)) && decide ((↑x.rows.length : Int) ≤ (↑x.rows.length : Int)) && decide ((↑x.rows.length : Int) * (↑32 : Int) ≤ 281474976710656) && decide ((↑x.rows.length : Int) ≤ 9223372036854775807) then bindO (iterN s0' 200 { side_lo := 0,side_len := (↑x.rows.length : Int).toNat,side_cap := (↑x.rows.length : Int).toNat,n := (↑(↑x.rows.length : Int).toNat : Int),i := 0,c := x.c,rows := x.rows,bn := x.bn,bw := x.bw,side := List.replicate (↑x.rows.length : Int).toNat (0,[]) }) fun y => bindO (M76o.m' { c := y.c,rows := y.rows,more_lo := y.side_lo,more_len := y.side_len,more_cap := y.side_cap,m0 := y.side }) fun y_1 => bindO (M73.m { n := y.c }) fun y_2 => bindO (iterN s1' 200 { mo_lo := y_1.snd.snd.snd.snd.snd.snd.fst,mo_len := y_1.snd.snd.snd.snd.snd.snd.snd.fst,mo_cap := y_1.snd.snd.snd.snd.snd.snd.snd.snd.fst,n := (↑y_1.snd.snd.snd.snd.snd.snd.snd.fst : Int),i := 0,c := y.c,rows := y.rows,bn := y.bn,bw := y.bw,side := y_1.fst,rs := y_1.snd.fst,ms := y_1.snd.snd.fst,wr_lo := y_1.snd.snd.snd.fst,wr_len := y_1.snd.snd.snd.snd.fst,wr_cap := y_1.snd.snd.snd.snd.snd.fst,wm_lo := y_1.snd.snd.snd.snd.snd.snd.fst,wm_len := y_1.snd.snd.snd.snd.snd.snd.snd.fst,wm_cap := y_1.snd.snd.snd.snd.snd.snd.snd.snd.fst,wp_lo := y_1.snd.snd.snd.snd.snd.snd.snd.snd.snd.fst,wp_len := y_1.snd.snd.snd.snd.snd.snd.snd.snd.snd.snd.fst,ps := y_1.snd.snd.snd.snd.snd.snd.snd.snd.snd.snd.snd,ws := y_2.snd.snd.snd.snd,xn := y_2.fst,xw_lo := y_2.snd.fst,xw_len := y_2.snd.snd.fst,xw_cap := y_2.snd.snd.snd.fst }) fun s => sumC s (fun y => bif leB (y.xw_lo + y.xw_len) y.ws.length && true && true && true && true then some (y.xn,List.take y.xw_len (List.drop y.xw_lo y.ws),0) else none) fun z => some (z.rn,[],z.e) else none
theorem m_le (x : _) : Le (m' x) (m x) := by
 unfold m' m
 repeat' first | with_reducible exact Le.refl _ | with_reducible exact M50.m_le _ | with_reducible exact M76o.m_le _ | with_reducible exact Le.iter s1_le _ | with_reducible exact Le.iter s0_le _ | with_reducible apply Le.bind | with_reducible apply Le.cond | with_reducible apply Le.sum | intro _
end M22
namespace M45
def s0' (x : p0X) : Option (p0X ⊕ q0X) := bif decide (x.i < x.l) then bindO (M73.m { n := x.n }) fun y => bif inR x.i x.or__len then bif decide (x.or__lo + x.i.toNat < x.out.length) then bif inR x.i x.or__len then bif eqN (x.or__lo + x.i.toNat) (List.take (x.or__lo + x.i.toNat) x.out).length then bindO (M75.m { n := y.fst,w_lo := y.snd.fst,w_len := y.snd.snd.fst,w_cap := y.snd.snd.snd.fst,i := x.i,ws := y.snd.snd.snd.snd }) fun y_1 => bif leB (y.snd.fst + y.snd.snd.fst) (List.length y_1) && true && true then some (Sum.inl { n := x.n,l := x.l,i := IntKind.i64.wrap (x.i + 1),out := List.take (x.or__lo + x.i.toNat) x.out ++ (y.fst,List.take y.snd.snd.fst (List.drop y.snd.fst y_1)) :: List.drop (x.or__lo + x.i.toNat + 1) x.out,oc := x.oc,or__lo := x.or__lo,or__len := x.or__len,or__cap := x.or__cap }) else none else none else none else none else none
else some (Sum.inr { out := x.out,oc := x.oc,or__lo := x.or__lo,or__len := x.or__len,or__cap := x.or__cap })
theorem s0_le (x : _) : Le (s0' x) (s0 x) := by
 unfold s0' s0
 repeat' first | with_reducible exact Le.refl _ | with_reducible apply Le.bind | with_reducible apply Le.cond | with_reducible apply Le.sum | intro _
def m' (x : gX) : Option fY := bindO (M85.m { n := x.n }) fun y => bif y != 0 then some (0,[],y) else bif decide (0 ≤ x.n) && decide (x.n ≤ x.n) && decide (x.n * (↑32 : Int) ≤ 281474976710656) && decide (x.n ≤ 9223372036854775807) then bindO (iterN s0' 200 { n := x.n,l := (↑x.n.toNat : Int),i := 0,out := List.replicate x.n.toNat (0,[]),oc := x.n,or__lo := 0,or__len := x.n.toNat,or__cap := x.n.toNat }) fun y => bif leB (y.or__lo + y.or__len) y.out.length && true && true && true && true then some (y.oc,List.take y.or__len (List.drop y.or__lo y.out),0) else none else none
theorem m_le (x : _) : Le (m' x) (m x) := by
 unfold m' m
 repeat' first | with_reducible exact Le.refl _ | with_reducible exact Le.iter s0_le _ | with_reducible apply Le.bind | with_reducible apply Le.cond | with_reducible apply Le.sum | intro _
end M45
namespace M76g
def s1' (x : p1X) : Option (p1X ⊕ (q1X ⊕ z1X)) := bif decide (x.i < (↑x.wr_len : Int)) then bif inR x.i x.wr_len then bif decide (x.wr_lo + x.i.toNat < x.rs.length) then bindO (M74.m { n := (x.rs[x.wr_lo + x.i.toNat]?.getD (0,[])).fst,w := (x.rs[x.wr_lo + x.i.toNat]?.getD (0,[])).snd,i := x.k1 }) fun y => bif !y then some (Sum.inl { n := x.n,k := x.k,k1 := x.k1,top := x.top,i := IntKind.i64.wrap (x.i + 1),r0 := x.r0,c := x.c,rows_lo := x.rows_lo,rows_len := x.rows_len,rows_cap := x.rows_cap,rs := x.rs,ms := x.ms,wr_lo := x.wr_lo,wr_len := x.wr_len,wr_cap := x.wr_cap,wm_lo := x.wm_lo,wm_len := x.wm_len,wm_cap := x.wm_cap,wp_lo := x.wp_lo,wp_len := x.wp_len,ps := x.ps }) else bindO (M101.m { i := x.i,k := x.top,rows_lo := x.wr_lo,rows_len := x.wr_len,rows_cap := x.wr_cap,more_lo := x.wm_lo,more_len := x.wm_len,more_cap := x.wm_cap,piv_lo := x.wp_lo,piv_len := x.wp_len,rs := x.rs,ms := x.ms,ps := x.ps }) fun y => bindO (M102.m' { top := x.top,k := x.k1,rows_lo := y.fst,rows_len := y.snd.fst,rows_cap := y.snd.snd.fst,more_lo := y.snd.snd.snd.fst,more_len := y.snd.snd.snd.snd.fst,more_cap := y.snd.snd.snd.snd.snd.fst,piv_lo := y.snd.snd.snd.snd.snd.snd.fst,piv_len := y.snd.snd.snd.snd.snd.snd.snd.fst,rs := y.snd.snd.snd.snd.snd.snd.snd.snd.fst,ms := y.snd.snd.snd.snd.snd.snd.snd.snd.snd.fst,ps := y.snd.snd.snd.snd.snd.snd.snd.snd.snd.snd }) fun y => bif eqN y.snd.snd.snd.snd.snd.snd.fst 0 && eqN y.snd.snd.snd.snd.snd.snd.snd.snd.snd.snd.length y.snd.snd.snd.snd.snd.snd.snd.fst && roomB (y.snd.snd.snd.snd.snd.snd.snd.fst + 1) 8 then some (Sum.inr (Sum.inr { n := x.n,k := x.k,r0 := x.r0,c := x.c,rows_lo := x.rows_lo,rows_len := x.rows_len,rows_cap := x.rows_cap,rs := y.snd.snd.snd.snd.snd.snd.snd.snd.fst,ms := y.snd.snd.snd.snd.snd.snd.snd.snd.snd.fst,wr_lo := y.fst,wr_len := y.snd.fst,wr_cap := y.snd.snd.fst,wm_lo := y.snd.snd.snd.fst,wm_len := y.snd.snd.snd.snd.fst,wm_cap := y.snd.snd.snd.snd.snd.fst,wp_lo := 0,wp_len := y.snd.snd.snd.snd.snd.snd.snd.fst + 1,ps := y.snd.snd.snd.snd.snd.snd.snd.snd.snd.snd ++ [x.k1] })) else none else none else none
else
 some
  (Sum.inr
   (Sum.inl
    {n := x.n,k := x.k,r0 := x.r0,c := x.c,rows_lo := x.rows_lo,rows_len := x.rows_len,rows_cap := x.rows_cap,rs := x.rs,ms := x.ms,wr_lo := x.wr_lo,
     wr_len := x.wr_len,wr_cap := x.wr_cap,wm_lo := x.wm_lo,wm_len := x.wm_len,wm_cap := x.wm_cap,wp_lo := x.wp_lo,wp_len := x.wp_len,ps := x.ps }))
theorem s1_le (x : _) : Le (s1' x) (s1 x) := by
 unfold s1' s1
 repeat' first | with_reducible exact Le.refl _ | with_reducible exact M102.m_le _ | with_reducible apply Le.bind | with_reducible apply Le.cond | with_reducible apply Le.sum | intro _
def s0' (x : p0X) : Option (p0X ⊕ q0X) := bif decide (x.k < x.n) then bindO (iterN s1' 200 { n := x.n,k := x.k,k1 := x.k,top := (↑x.wp_len : Int),i := (↑x.wp_len : Int),r0 := x.r0,c := x.c,rows_lo := x.rows_lo,rows_len := x.rows_len,rows_cap := x.rows_cap,rs := x.rs,ms := x.ms,wr_lo := x.wr_lo,wr_len := x.wr_len,wr_cap := x.wr_cap,wm_lo := x.wm_lo,wm_len := x.wm_len,wm_cap := x.wm_cap,wp_lo := x.wp_lo,wp_len := x.wp_len,ps := x.ps }) fun s => sumC s (fun y => some (Sum.inl { n := y.n,k := IntKind.i64.wrap (y.k + 1),r0 := y.r0,c := y.c,rows_lo := y.rows_lo,rows_len := y.rows_len,rows_cap := y.rows_cap,rs := y.rs,ms := y.ms,wr_lo := y.wr_lo,wr_len := y.wr_len,wr_cap := y.wr_cap,wm_lo := y.wm_lo,wm_len := y.wm_len,wm_cap := y.wm_cap,wp_lo := y.wp_lo,wp_len := y.wp_len,ps := y.ps })) fun z => some (Sum.inl { n := z.n,k := IntKind.i64.wrap (z.k + 1),r0 := z.r0,c := z.c,rows_lo := z.rows_lo,rows_len := z.rows_len,rows_cap := z.rows_cap,rs := z.rs,ms := z.ms,wr_lo := z.wr_lo,wr_len := z.wr_len,wr_cap := z.wr_cap,wm_lo := z.wm_lo,wm_len := z.wm_len,wm_cap := z.wm_cap,wp_lo := z.wp_lo,wp_len := z.wp_len,ps := z.ps })
else
 some
  (Sum.inr
   {r0 := x.r0,c := x.c,rows_lo := x.rows_lo,rows_len := x.rows_len,rows_cap := x.rows_cap,rs := x.rs,ms := x.ms,wr_lo := x.wr_lo,wr_len := x.wr_len,
    wr_cap := x.wr_cap,wm_lo := x.wm_lo,wm_len := x.wm_len,wm_cap := x.wm_cap,wp_lo := x.wp_lo,wp_len := x.wp_len,ps := x.ps })
theorem s0_le (x : _) : Le (s0' x) (s0 x) := by
 unfold s0' s0
 repeat' first | with_reducible exact Le.refl _ | with_reducible exact Le.iter s1_le _ | with_reducible apply Le.bind | with_reducible apply Le.cond | with_reducible apply Le.sum | intro _
def m' (x : gX) : Option fY := bif decide (0 ≤ (↑x.rows_len : Int)) && decide ((↑x.rows_len : Int) ≤ (↑x.rows_len : Int)) && decide ((↑x.rows_len : Int) * (↑32 : Int) ≤ 281474976710656) && decide ((↑x.rows_len : Int) ≤ 9223372036854775807) then bif decide (0 ≤ (↑x.more.length : Int)) && decide ((↑x.more.length : Int) ≤ (↑x.more.length : Int)) && decide ((↑x.more.length : Int) * (↑32 : Int) ≤ 281474976710656) && decide ((↑x.more.length : Int) ≤ 9223372036854775807) then bif leB (x.rows_lo + x.rows_len) x.r0.length && leB (0 + (↑x.rows_len : Int).toNat) (List.replicate (↑x.rows_len : Int).toNat ((0,[]) : Int × List Int)).length then bif leB (0 + (↑x.more.length : Int).toNat) (List.replicate (↑x.more.length : Int).toNat ((0,[]) : Int × List Int)).length then bindO (iterN s0' 200 { n := x.c,k := 0,r0 := x.r0,c := x.c,rows_lo := x.rows_lo,rows_len := x.rows_len,rows_cap := x.rows_cap,rs := List.take 0 (List.replicate (↑x.rows_len : Int).toNat (0,[])) ++ List.take (min x.rows_len (↑x.rows_len : Int).toNat) (List.take x.rows_len (List.drop x.rows_lo x.r0)) ++ List.drop (0 + min x.rows_len (↑x.rows_len : Int).toNat) (List.replicate (↑x.rows_len : Int).toNat (0,[])),ms := List.take 0 (List.replicate (↑x.more.length : Int).toNat (0,[])) ++ List.take (min x.more.length (↑x.more.length : Int).toNat) x.more ++ List.drop (0 + min x.more.length (↑x.more.length : Int).toNat) (List.replicate (↑x.more.length : Int).toNat (0,[])),wr_lo := 0,wr_len := (↑x.rows_len : Int).toNat,wr_cap := (↑x.rows_len : Int).toNat,wm_lo := 0,wm_len := (↑x.more.length : Int).toNat,wm_cap := (↑x.more.length : Int).toNat,wp_lo := 0,wp_len := 0,ps := [] }) fun y => some (y.r0,y.rs,y.ms,y.wr_lo,y.wr_len,y.wr_cap,y.wm_lo,y.wm_len,y.wm_cap,y.wp_lo,y.wp_len,y.ps) else none else none else none
else none
theorem m_le (x : _) : Le (m' x) (m x) := by
 unfold m' m
 repeat' first | with_reducible exact Le.refl _ | with_reducible exact Le.iter s0_le _ | with_reducible apply Le.bind | with_reducible apply Le.cond | with_reducible apply Le.sum | intro _
end M76g
namespace M47g
def m' (x : gX) : Option fY := bindO (bif leB (x.rows_lo + x.rows_len) x.r0.length && true && true then M50.m' { c := x.c,rows := List.take x.rows_len (List.drop x.rows_lo x.r0) } else none) fun y => bif y != 0 then some (0,[],y,x.r0) else bif x.c != (↑x.rows_len : Int) then some (0,[],8,x.r0) else bindO (M45.m' { n := x.c }) fun y => bindO (M76g.m' { c := x.c,rows_lo := x.rows_lo,rows_len := x.rows_len,rows_cap := x.rows_cap,more := y.snd.fst,r0 := x.r0 }) fun y => bif decide ((↑y.snd.snd.snd.snd.snd.snd.snd.snd.snd.snd.fst : Int) < x.c) then some (0,[],9,y.fst) else bif leB (y.snd.snd.snd.snd.snd.snd.fst + y.snd.snd.snd.snd.snd.snd.snd.fst) y.snd.snd.fst.length && true && true && true && true then some (x.c,List.take y.snd.snd.snd.snd.snd.snd.snd.fst (List.drop y.snd.snd.snd.snd.snd.snd.fst y.snd.snd.fst),0,y.fst) else none
theorem m_le (x : _) : Le (m' x) (m x) := by
 unfold m' m
 repeat' first | with_reducible exact Le.refl _ | with_reducible exact M50.m_le _ | with_reducible exact M45.m_le _ | with_reducible exact M76g.m_le _ | with_reducible apply Le.bind | with_reducible apply Le.cond | with_reducible apply Le.sum | intro _
end M47g
namespace M22j
def s1' (x : p1X) : Option (p1X ⊕ (q1X ⊕ z1X)) := bif decide (x.i < x.n) then bif inR x.i x.mo_len then bif decide (x.mo_lo + x.i.toNat < x.ms.length) then bindO (M74.m { n := (x.ms[x.mo_lo + x.i.toNat]?.getD (0,[])).fst,w := (x.ms[x.mo_lo + x.i.toNat]?.getD (0,[])).snd,i := 0 }) fun y => bif !y then some (Sum.inl { mo_lo := x.mo_lo,mo_len := x.mo_len,mo_cap := x.mo_cap,n := x.n,i := IntKind.i64.wrap (x.i + 1),c := x.c,rows := x.rows,bn := x.bn,bw := x.bw,side := x.side,rs := x.rs,ms := x.ms,wr_lo := x.wr_lo,wr_len := x.wr_len,wr_cap := x.wr_cap,wm_lo := x.wm_lo,wm_len := x.wm_len,wm_cap := x.wm_cap,wp_lo := x.wp_lo,wp_len := x.wp_len,ps := x.ps,ws := x.ws,xn := x.xn,xw_lo := x.xw_lo,xw_len := x.xw_len,xw_cap := x.xw_cap }) else bif decide (x.i ≥ (↑x.wp_len : Int)) then some (Sum.inr (Sum.inr { e := 9,rn := 0 })) else bif inR x.i x.wp_len then bif decide (x.wp_lo + x.i.toNat < x.ps.length) then bindO (M75.m { n := x.xn,w_lo := x.xw_lo,w_len := x.xw_len,w_cap := x.xw_cap,i := x.ps[x.wp_lo + x.i.toNat]?.getD 0,ws := x.ws }) fun y => some (Sum.inl { mo_lo := x.mo_lo,mo_len := x.mo_len,mo_cap := x.mo_cap,n := x.n,i := IntKind.i64.wrap (x.i + 1),c := x.c,rows := x.rows,bn := x.bn,bw := x.bw,side := x.side,rs := x.rs,ms := x.ms,wr_lo := x.wr_lo,wr_len := x.wr_len,wr_cap := x.wr_cap,wm_lo := x.wm_lo,wm_len := x.wm_len,wm_cap := x.wm_cap,wp_lo := x.wp_lo,wp_len := x.wp_len,ps := x.ps,ws := y,xn := x.xn,xw_lo := x.xw_lo,xw_len := x.xw_len,xw_cap := x.xw_cap }) else none else none else none else none
else
 some
  (Sum.inr
   (Sum.inl
    {c := x.c,rows := x.rows,bn := x.bn,bw := x.bw,side := x.side,rs := x.rs,ms := x.ms,wr_lo := x.wr_lo,wr_len := x.wr_len,wr_cap := x.wr_cap,wm_lo := x.wm_lo,
     wm_len := x.wm_len,wm_cap := x.wm_cap,wp_lo := x.wp_lo,wp_len := x.wp_len,ps := x.ps,ws := x.ws,xn := x.xn,xw_lo := x.xw_lo,xw_len := x.xw_len,
     xw_cap := x.xw_cap }))
theorem s1_le (x : _) : Le (s1' x) (s1 x) := by
 unfold s1' s1
 repeat' first | with_reducible exact Le.refl _ | with_reducible apply Le.bind | with_reducible apply Le.cond | with_reducible apply Le.sum | intro _
def s0' (x : p0X) : Option (p0X ⊕ q0X) := bif decide (x.i < x.n) then bindO (M73.m { n := 1 }) fun y => bif inR x.i x.side_len then bif decide (x.side_lo + x.i.toNat < x.side.length) then bindO (M74.m { n := x.bn,w := x.bw,i := x.i }) fun y_1 => bif y_1 then bif inR x.i x.side_len then bif eqN (x.side_lo + x.i.toNat) (List.take (x.side_lo + x.i.toNat) x.side).length then bindO (M75.m { n := y.fst,w_lo := y.snd.fst,w_len := y.snd.snd.fst,w_cap := y.snd.snd.snd.fst,i := 0,ws := y.snd.snd.snd.snd }) fun y_2 => bif leB (y.snd.fst + y.snd.snd.fst) (List.length y_2) && true && true then some (Sum.inl { side_lo := x.side_lo,side_len := x.side_len,side_cap := x.side_cap,n := x.n,i := IntKind.i64.wrap (x.i + 1),c := x.c,rows := x.rows,bn := x.bn,bw := x.bw,side := List.take (x.side_lo + x.i.toNat) x.side ++ (y.fst,List.take y.snd.snd.fst (List.drop y.snd.fst y_2)) :: List.drop (x.side_lo + x.i.toNat + 1) x.side }) else none else none else none else bif leB (y.snd.fst + y.snd.snd.fst) y.snd.snd.snd.snd.length && true && true then some (Sum.inl { side_lo := x.side_lo,side_len := x.side_len,side_cap := x.side_cap,n := x.n,i := IntKind.i64.wrap (x.i + 1),c := x.c,rows := x.rows,bn := x.bn,bw := x.bw,side := List.take (x.side_lo + x.i.toNat) x.side ++ (y.fst,List.take y.snd.snd.fst (List.drop y.snd.fst y.snd.snd.snd.snd)) :: List.drop (x.side_lo + x.i.toNat + 1) x.side }) else none else none else none
else some (Sum.inr { side_lo := x.side_lo,side_len := x.side_len,side_cap := x.side_cap,c := x.c,rows := x.rows,bn := x.bn,bw := x.bw,side := x.side })
theorem s0_le (x : _) : Le (s0' x) (s0 x) := by
 unfold s0' s0
 repeat' first | with_reducible exact Le.refl _ | with_reducible apply Le.bind | with_reducible apply Le.cond | with_reducible apply Le.sum | intro _
def m' (x : gX) : Option fY := bindO (M50.m' { c := x.c,rows := x.rows }) fun y => bif y != 0 then some y else bindO (M38.m { n := x.bn,w := x.bw }) fun y => bif y != 0 then some y else bif x.bn != (↑x.rows.length : Int) then some 8 else bif decide (0 ≤ (↑x.rows.length : Int)) && decide ((↑x.rows.length : Int) ≤ (↑x.rows.length : Int)) && decide ((↑x.rows.length : Int) * (↑32 : Int) ≤ 281474976710656) && decide ((↑x.rows.length : Int) ≤ 9223372036854775807) then bindO (iterN s0' 200 { side_lo := 0,side_len := (↑x.rows.length : Int).toNat,side_cap := (↑x.rows.length : Int).toNat,n := (↑(↑x.rows.length : Int).toNat : Int),i := 0,c := x.c,rows := x.rows,bn := x.bn,bw := x.bw,side := List.replicate (↑x.rows.length : Int).toNat (0,[]) }) fun y => bindO (M76o.m' { c := y.c,rows := y.rows,more_lo := y.side_lo,more_len := y.side_len,more_cap := y.side_cap,m0 := y.side }) fun y_1 => bindO (M73.m { n := y.c }) fun y_2 => bindO (iterN s1' 200 { mo_lo := y_1.snd.snd.snd.snd.snd.snd.fst,mo_len := y_1.snd.snd.snd.snd.snd.snd.snd.fst,mo_cap := y_1.snd.snd.snd.snd.snd.snd.snd.snd.fst,n := (↑y_1.snd.snd.snd.snd.snd.snd.snd.fst : Int),i := 0,c := y.c,rows := y.rows,bn := y.bn,bw := y.bw,side := y_1.fst,rs := y_1.snd.fst,ms := y_1.snd.snd.fst,wr_lo := y_1.snd.snd.snd.fst,wr_len := y_1.snd.snd.snd.snd.fst,wr_cap := y_1.snd.snd.snd.snd.snd.fst,wm_lo := y_1.snd.snd.snd.snd.snd.snd.fst,wm_len := y_1.snd.snd.snd.snd.snd.snd.snd.fst,wm_cap := y_1.snd.snd.snd.snd.snd.snd.snd.snd.fst,wp_lo := y_1.snd.snd.snd.snd.snd.snd.snd.snd.snd.fst,wp_len := y_1.snd.snd.snd.snd.snd.snd.snd.snd.snd.snd.fst,ps := y_1.snd.snd.snd.snd.snd.snd.snd.snd.snd.snd.snd,ws := y_2.snd.snd.snd.snd,xn := y_2.fst,xw_lo := y_2.snd.fst,xw_len := y_2.snd.snd.fst,xw_cap := y_2.snd.snd.snd.fst }) fun s => sumC s (fun y => some 0) fun z => some z.e else none
theorem m_le (x : _) : Le (m' x) (m x) := by
 unfold m' m
 repeat' first | with_reducible exact Le.refl _ | with_reducible exact M50.m_le _ | with_reducible exact M76o.m_le _ | with_reducible exact Le.iter s1_le _ | with_reducible exact Le.iter s0_le _ | with_reducible apply Le.bind | with_reducible apply Le.cond | with_reducible apply Le.sum | intro _
end M22j
namespace M87
def s1' (x : p1X) : Option (p1X ⊕ q1X) := bif decide (x.i2 < x.n2) then bif inR x.i2 x.l.length then bindO (M74.m { n := (x.l[x.i2.toNat]?.getD (0,[])).fst,w := (x.l[x.i2.toNat]?.getD (0,[])).snd,i := x.k }) fun y => bif y then bif inR x.k x.or__len then bif eqN (x.or__lo + x.k.toNat) x.out.length then bindO (M75.m { n := x.on,w_lo := x.ow_lo,w_len := x.ow_len,w_cap := x.ow_cap,i := x.i2,ws := x.ws }) fun y => some (Sum.inl { n := x.n,i := x.i,k := x.k,l := x.l,n2 := x.n2,i2 := IntKind.i64.wrap (x.i2 + 1),c := x.c,rows := x.rows,out := x.out,on := x.on,ow_lo := x.ow_lo,ow_len := x.ow_len,ow_cap := x.ow_cap,out_r := x.out_r,oc := x.oc,or__lo := x.or__lo,or__len := x.or__len,or__cap := x.or__cap,ws := y }) else none else none else some (Sum.inl { n := x.n,i := x.i,k := x.k,l := x.l,n2 := x.n2,i2 := IntKind.i64.wrap (x.i2 + 1),c := x.c,rows := x.rows,out := x.out,on := x.on,ow_lo := x.ow_lo,ow_len := x.ow_len,ow_cap := x.ow_cap,out_r := x.out_r,oc := x.oc,or__lo := x.or__lo,or__len := x.or__len,or__cap := x.or__cap,ws := x.ws }) else none
else
 some
  (Sum.inr
   {n := x.n,i := x.i,c := x.c,rows := x.rows,out := x.out,on := x.on,ow_lo := x.ow_lo,ow_len := x.ow_len,ow_cap := x.ow_cap,out_r := x.out_r,oc := x.oc,
    or__lo := x.or__lo,or__len := x.or__len,or__cap := x.or__cap,ws := x.ws })
theorem s1_le (x : _) : Le (s1' x) (s1 x) := by
 unfold s1' s1
 repeat' first | with_reducible exact Le.refl _ | with_reducible apply Le.bind | with_reducible apply Le.cond | with_reducible apply Le.sum | intro _
def s0' (x : p0X) : Option (p0X ⊕ q0X) := bif decide (x.i < x.n) then bindO (M73.m { n := x.oc }) fun y => bif inR x.i x.or__len then bif decide (x.or__lo + x.i.toNat < x.out.length) then bindO (iterN s1' 200 { n := x.n,i := x.i,k := x.i,l := x.rows,n2 := (↑x.rows.length : Int),i2 := 0,c := x.c,rows := x.rows,out := List.take (x.or__lo + x.i.toNat) x.out,on := y.fst,ow_lo := y.snd.fst,ow_len := y.snd.snd.fst,ow_cap := y.snd.snd.snd.fst,out_r := List.drop (x.or__lo + x.i.toNat + 1) x.out,oc := x.oc,or__lo := x.or__lo,or__len := x.or__len,or__cap := x.or__cap,ws := y.snd.snd.snd.snd }) fun y => bif leB (y.ow_lo + y.ow_len) y.ws.length && true && true then some (Sum.inl { n := y.n,i := IntKind.i64.wrap (y.i + 1),c := y.c,rows := y.rows,out := y.out ++ (y.on,List.take y.ow_len (List.drop y.ow_lo y.ws)) :: y.out_r,oc := y.oc,or__lo := y.or__lo,or__len := y.or__len,or__cap := y.or__cap }) else none else none else none
else some (Sum.inr { c := x.c,rows := x.rows,out := x.out,oc := x.oc,or__lo := x.or__lo,or__len := x.or__len,or__cap := x.or__cap })
theorem s0_le (x : _) : Le (s0' x) (s0 x) := by
 unfold s0' s0
 repeat' first | with_reducible exact Le.refl _ | with_reducible exact Le.iter s1_le _ | with_reducible apply Le.bind | with_reducible apply Le.cond | with_reducible apply Le.sum | intro _
def m' (x : gX) : Option fY := bif decide (0 ≤ x.c) && decide (x.c ≤ x.c) && decide (x.c * (↑32 : Int) ≤ 281474976710656) && decide (x.c ≤ 9223372036854775807) then bindO (iterN s0' 200 { n := (↑x.c.toNat : Int),i := 0,c := x.c,rows := x.rows,out := List.replicate x.c.toNat (0,[]),oc := (↑x.rows.length : Int),or__lo := 0,or__len := x.c.toNat,or__cap := x.c.toNat }) fun y => bif leB (y.or__lo + y.or__len) y.out.length && true && true && true then some (y.oc,List.take y.or__len (List.drop y.or__lo y.out)) else none
else none
theorem m_le (x : _) : Le (m' x) (m x) := by
 unfold m' m
 repeat' first | with_reducible exact Le.refl _ | with_reducible exact Le.iter s0_le _ | with_reducible apply Le.bind | with_reducible apply Le.cond | with_reducible apply Le.sum | intro _
end M87
namespace M40
def m' (x : gX) : Option fY := bindO (M50.m' { c := x.c,rows := x.rows }) fun y => bif y != 0 then some (0,[],y) else bindO (M87.m' { c := x.c,rows := x.rows }) fun y => some (y.fst,y.snd,0)
theorem m_le (x : _) : Le (m' x) (m x) := by
 unfold m' m
 repeat' first | with_reducible exact Le.refl _ | with_reducible exact M50.m_le _ | with_reducible exact M87.m_le _ | with_reducible apply Le.bind | with_reducible apply Le.cond | with_reducible apply Le.sum | intro _
end M40
namespace M90
def s0' (x : p0X) : Option (p0X ⊕ (q0X ⊕ z0X)) := bif decide (x.i < x.n) then bif inR x.i x.a.length then bif inR x.i x.b.length then bif x.a[x.i.toNat]?.getD 0 != x.b[x.i.toNat]?.getD 0 then some (Sum.inr (Sum.inr { r := false })) else some (Sum.inl { a := x.a,b := x.b,n := x.n,i := IntKind.i64.wrap (x.i + 1) }) else none else none
else some (Sum.inr (Sum.inl PUnit.unit))
theorem s0_le (x : _) : Le (s0' x) (s0 x) := by
 unfold s0' s0
 repeat' first | with_reducible exact Le.refl _ | with_reducible apply Le.bind | with_reducible apply Le.cond | with_reducible apply Le.sum | intro _
def m' (x : gX) : Option fY := bif (↑x.a.length : Int) != (↑x.b.length : Int) then some false
else bindO (iterN s0' 200 { a := x.a,b := x.b,n := (↑x.a.length : Int),i := 0 }) fun s => sumC s (fun y => some true) fun z => some z.r
theorem m_le (x : _) : Le (m' x) (m x) := by
 unfold m' m
 repeat' first | with_reducible exact Le.refl _ | with_reducible exact Le.iter s0_le _ | with_reducible apply Le.bind | with_reducible apply Le.cond | with_reducible apply Le.sum | intro _
end M90
namespace M89
def m' (x : gX) : Option fY := bindO (bif x.an == x.bn then M90.m' { a := x.aw,b := x.bw } else some false) fun y => some (bif x.an == x.bn then y else false)
theorem m_le (x : _) : Le (m' x) (m x) := by
 unfold m' m
 repeat' first | with_reducible exact Le.refl _ | with_reducible exact M90.m_le _ | with_reducible apply Le.bind | with_reducible apply Le.cond | with_reducible apply Le.sum | intro _
end M89
namespace M88
def s0' (x : p0X) : Option (p0X ⊕ (q0X ⊕ z0X)) := bif decide (x.i < x.n) then bif inR x.i x.l.length then bif inR x.i x.b.length then bindO (M89.m' { an := (x.l[x.i.toNat]?.getD (0,[])).fst,aw := (x.l[x.i.toNat]?.getD (0,[])).snd,bn := (x.b[x.i.toNat]?.getD (0,[])).fst,bw := (x.b[x.i.toNat]?.getD (0,[])).snd }) fun y => bif !y then some (Sum.inr (Sum.inr { r := false })) else some (Sum.inl { b := x.b,l := x.l,n := x.n,i := IntKind.i64.wrap (x.i + 1) }) else none else none
else some (Sum.inr (Sum.inl PUnit.unit))
theorem s0_le (x : _) : Le (s0' x) (s0 x) := by
 unfold s0' s0
 repeat' first | with_reducible exact Le.refl _ | with_reducible exact M89.m_le _ | with_reducible apply Le.bind | with_reducible apply Le.cond | with_reducible apply Le.sum | intro _
def m' (x : gX) : Option fY := bif (↑x.a.length : Int) != (↑x.b.length : Int) then some false
else bindO (iterN s0' 200 { b := x.b,l := x.a,n := (↑x.a.length : Int),i := 0 }) fun s => sumC s (fun y => some true) fun z => some z.r
theorem m_le (x : _) : Le (m' x) (m x) := by
 unfold m' m
 repeat' first | with_reducible exact Le.refl _ | with_reducible exact Le.iter s0_le _ | with_reducible apply Le.bind | with_reducible apply Le.cond | with_reducible apply Le.sum | intro _
end M88
namespace M46
def m' (x : gX) : Option fY := bindO (bif x.ac == x.bc then M88.m' { a := x.ar,b := x.br } else some false) fun y => some (bif x.ac == x.bc then y else false)
theorem m_le (x : _) : Le (m' x) (m x) := by
 unfold m' m
 repeat' first | with_reducible exact Le.refl _ | with_reducible exact M88.m_le _ | with_reducible apply Le.bind | with_reducible apply Le.cond | with_reducible apply Le.sum | intro _
end M46
namespace M32
def m' (x : gX) : Option fY := bindO (M34.m' ⟨x.n,x.w⟩) fun l => bif okS l then some (chrs l) else none
theorem m_le (x : _) : Le (m' x) (m x) := by
 unfold m' m
 repeat' first | with_reducible exact Le.refl _ | with_reducible exact M34.m_le _ | with_reducible apply Le.bind | with_reducible apply Le.cond | with_reducible apply Le.sum | intro _
end M32
namespace M19
def m' (x : gX) : Option fY := bindO (M24.m' { l := [1,1,0] }) fun y => bindO (M24.m' { l := [0,1,1] }) fun y_1 => bindO (M28.m' { an := y.fst,aw := y.snd,bn := y_1.fst,bw := y_1.snd }) fun y_2 => bindO (M33.m' { an := y.fst,aw := y.snd,bn := y_1.fst,bw := y_1.snd }) fun y_3 => bindO (M24.m' { l := [1,0,1] }) fun y_4 => bindO (M29.m' { c := 3,rows := [(y.fst,y.snd),(y_1.fst,y_1.snd)],vn := y_4.fst,vw := y_4.snd }) fun y_5 => bindO (M40.m' { c := 3,rows := [(y.fst,y.snd),(y_1.fst,y_1.snd)] }) fun y_6 => bindO (M26.m' { c := 3,rows := [(y.fst,y.snd),(y_1.fst,y_1.snd)] }) fun y_7 => bindO (M25.m' { c := 3,rows := [(y.fst,y.snd),(y_1.fst,y_1.snd)] }) fun y_8 => bindO (M24.m' { l := [1,0] }) fun y_9 => bindO (M22.m' { c := 3,rows := [(y.fst,y.snd),(y_1.fst,y_1.snd)],bn := y_9.fst,bw := y_9.snd }) fun y => bindO (M24.m' { l := [1,0,1] }) fun y_10 => bindO (M32.m' { n := y_10.fst,w := y_10.snd }) fun y_11 => bindO (bif !bif !y_11 == [49,48,49] then true else y_2.snd.snd != 0 then M32.m' { n := y_2.fst,w := y_2.snd.fst } else some []) fun y_12 => bif !bif bif bif bif !y_11 == [49,48,49] then true else y_2.snd.snd != 0 then true else !y_12 == [49,48,49] then true else y_3.snd != 0 then true else y_3.fst != 1 then bindO (M24.m' { l := [1,0,1,1] }) fun y_13 => bindO (M36.m' { n := y_13.fst,w := y_13.snd }) fun y_14 => bindO (bif !bif y_14 != 3 then true else y_5.snd.snd != 0 then M32.m' { n := y_5.fst,w := y_5.snd.fst } else some []) fun y_15 => bif inR 1 y_6.snd.fst.length || !!bif bif bif bif y_14 != 3 then true else y_5.snd.snd != 0 then true else !y_15 == [49,49] then true else y_6.snd.snd != 0 then true else (↑y_6.snd.fst.length : Int) != 3 then bindO (bif !bif bif bif bif y_14 != 3 then true else y_5.snd.snd != 0 then true else !y_15 == [49,49] then true else y_6.snd.snd != 0 then true else (↑y_6.snd.fst.length : Int) != 3 then M32.m' { n := (y_6.snd.fst[1]?.getD (0,[])).fst,w := (y_6.snd.fst[1]?.getD (0,[])).snd } else some []) fun y_16 => bif inR 0 y_8.fst.length || !!bif bif bif bif bif bif bif bif bif y_14 != 3 then true else y_5.snd.snd != 0 then true else !y_15 == [49,49] then true else y_6.snd.snd != 0 then true else (↑y_6.snd.fst.length : Int) != 3 then true else !y_16 == [49,49] then true else y_7.snd != 0 then true else y_7.fst != 2 then true else y_8.snd != 0 then true else (↑y_8.fst.length : Int) != 1 then bindO (bif !bif bif bif bif bif bif bif bif bif y_14 != 3 then true else y_5.snd.snd != 0 then true else !y_15 == [49,49] then true else y_6.snd.snd != 0 then true else (↑y_6.snd.fst.length : Int) != 3 then true else !y_16 == [49,49] then true else y_7.snd != 0 then true else y_7.fst != 2 then true else y_8.snd != 0 then true else (↑y_8.fst.length : Int) != 1 then M32.m' { n := (y_8.fst[0]?.getD (0,[])).fst,w := (y_8.fst[0]?.getD (0,[])).snd } else some []) fun y_17 => bindO (bif !bif bif bif bif bif bif bif bif bif bif bif y_14 != 3 then true else y_5.snd.snd != 0 then true else !y_15 == [49,49] then true else y_6.snd.snd != 0 then true else (↑y_6.snd.fst.length : Int) != 3 then true else !y_16 == [49,49] then true else y_7.snd != 0 then true else y_7.fst != 2 then true else y_8.snd != 0 then true else (↑y_8.fst.length : Int) != 1 then true else !y_17 == [49,49,49] then true else y.snd.snd != 0 then M32.m' { n := y.fst,w := y.snd.fst } else some []) fun y_18 => bif bif bif bif bif bif bif bif bif bif bif bif bif y_14 != 3 then true else y_5.snd.snd != 0 then true else !y_15 == [49,49] then true else y_6.snd.snd != 0 then true else (↑y_6.snd.fst.length : Int) != 3 then true else !y_16 == [49,49] then true else y_7.snd != 0 then true else y_7.fst != 2 then true else y_8.snd != 0 then true else (↑y_8.fst.length : Int) != 1 then true else !y_17 == [49,49,49] then true else y.snd.snd != 0 then true else !y_18 == [49,48,48] then some false else bindO (M24.m' { l := [1,1] }) fun y => bindO (M24.m' { l := [1,1] }) fun y_19 => bindO (M24.m' { l := [1,0] }) fun y_20 => bindO (M22j.m' { c := 2,rows := List.take 2 (List.drop 0 [(y.fst,y.snd),(y_19.fst,y_19.snd)]),bn := y_20.fst,bw := y_20.snd }) fun y_21 => bindO (M24.m' { l := [0,1] }) fun y_22 => bif decide (1 < 2) then bindO (M47g.m' { c := 2,rows_lo := 0,rows_len := 2,rows_cap := 2,r0 := [(y.fst,y.snd),(y_19.fst,y_19.snd)].set 1 (y_22.fst,y_22.snd) }) fun y => bindO (M52.m' { l := [2] }) fun y_23 => bindO (M51t.m { n := -1 }) fun y_24 => bindO (M51t.m { n := 4097 }) fun y_25 => bindO (bif bif y_21 == 9 then y.snd.snd.fst == 0 else false then bif leB 2 y.snd.snd.snd.length && true && true then M46.m' { ac := y.fst,ar := y.snd.fst,bc := 2,br := List.take 2 (List.drop 0 y.snd.snd.snd) } else none else some false) fun y_26 => some (bif bif bif bif bif y_21 == 9 then y.snd.snd.fst == 0 else false then y_26 else false then y_23.snd.snd == 1 else false then y_24.snd.snd == 1 else false then y_25.snd.snd == 3 else false) else none else none else none else bindO (some ([] : List UInt8)) fun y => bif inR 1 y_6.snd.fst.length || true then bindO (some ([] : List UInt8)) fun y => bif inR 0 y_8.fst.length || true then bindO (some ([] : List UInt8)) fun y => bindO (some ([] : List UInt8)) fun y => some false else none else none
theorem m_le (x : _) : Le (m' x) (m x) := by
 unfold m' m
 repeat' first | with_reducible exact Le.refl _ | with_reducible exact M52.m_le _ | with_reducible exact M24.m_le _ | with_reducible exact M36.m_le _ | with_reducible exact M28.m_le _ | with_reducible exact M33.m_le _ | with_reducible exact M29.m_le _ | with_reducible exact M26.m_le _ | with_reducible exact M25.m_le _ | with_reducible exact M22.m_le _ | with_reducible exact M47g.m_le _ | with_reducible exact M22j.m_le _ | with_reducible exact M40.m_le _ | with_reducible exact M46.m_le _ | with_reducible exact M32.m_le _ | with_reducible apply Le.bind | with_reducible apply Le.cond | with_reducible apply Le.sum | intro _
end M19
theorem lives19 : M19.m () = some true := M19.m_le _ _ (by kernel_rfl)
end Go.Proofs.Ytddaobhpffpmoaa
