/-
  A general library: objects that nobody writes any more become trees; the heap is cut.
-/
import Derived.Test.YtcnlccpihknehaaDoorLAbsQ
set_option linter.all false
namespace Go.Abs
variable [Gl]
def mapO {α β : Type} (f : α → Option β) : List α → Option (List β)
 | [] => some []
 | x :: xs => match f x,mapO f xs with
   | some y,some ys => some (y :: ys)
   | _,_ => none
def frzT : Nat → Heap → Nat → Cell → Option T
 | _,_,_,.t x => some x
 | k + 1,σ,n,.sl r len cap => if r.id < n then none else match σ.at? r with
   | some o => if r.off + len * o.es ≤ o.cs.length then (mapO (frzT k σ n) ((o.cs.drop r.off).take (len * o.es))).map fun ts => .imm ts len cap else none
   | none => none
 | k + 1,σ,n,.ptr r => if r.id < n then none else match σ.at? r with
   | some o => (mapO (frzT k σ n) (o.cs.drop r.off)).map .iptr
   | none => none
 | k + 1,σ,n,.clo f rs => match Nat.beq f YID with | true => none | false => (mapO (fun r => frzT k σ n (.ptr r)) rs).map fun ts => .fn f ts
 | _,_,_,_ => none
def frzC (k : Nat) (σ : Heap) (n : Nat) : Cell → Option Cell
 | .t x => some (.t x)
 | .ptr r => if r.id < n then some (.ptr r) else (frzT k σ n (.ptr r)).map .t
 | .sl r len cap => if r.id < n then some (.sl r len cap) else (frzT k σ n (.sl r len cap)).map .t
 | .clo f rs => if rs.all (fun r => decide (r.id < n)) then some (.clo f rs) else (frzT k σ n (.clo f rs)).map .t
def frzP (k : Nat) (σ : Heap) (n : Nat) : Cell ⊕ List Cell → Option (Cell ⊕ List Cell)
 | .inl x => (frzC k σ n x).map .inl
 | .inr xs => (mapO (frzC k σ n) xs).map .inr
def frzV (k : Nat) (σ : Heap) (n : Nat) : AV → Option AV
 | .c x => (frzC k σ n x).map .c
 | .agg xs => (mapO (frzC k σ n) xs).map .agg
 | .tup xs => (mapO (frzP k σ n) xs).map .tup
def frzO (k : Nat) (σ : Heap) (n : Nat) (o : Obj) : Option Obj := (mapO (frzC k σ n) o.cs).map fun cs => { o with cs := cs }
def frzH (k : Nat) (σ : Heap) (n : Nat) : Option Heap := mapO (frzO k σ n) (σ.take n)
def cut (n : Nat) (ι : Map) : Map := ⟨fun id => if id < n then ι id else none,ι.res,ι.ex⟩
section
variable {k n : Nat} {σ σ' : Heap} {ι : Map} {w : World}
theorem mapO_ok {α β : Type} {f : α → Option β} : ∀ {xs : List α} {ys : List β},mapO f xs = some ys → ys.length = xs.length ∧ ∀ i (hi : i < ys.length) (hi' : i < xs.length),f xs[i] = some ys[i]
 | [],ys,h => by
   simp only [mapO,Option.some.injEq] at h
   subst h
   exact ⟨rfl,fun i hi => absurd hi (by simp)⟩
 | x :: xs,ys,h => by
   simp only [mapO] at h
   split at h
   · rename_i y ys' h1 h2
     injection h with h
     subst h
     obtain ⟨h3,h4⟩ := mapO_ok h2
     refine ⟨by simp [h3],fun i hi hi' => ?_⟩
     cases i with
     | zero => simpa using h1
     | succ i => simpa using h4 i (by simpa using hi) (by simpa using hi')
   · cases h
theorem cut_some {id : Nat} {s : Spot} (h : cut n ι id = some s) : id < n ∧ ι id = some s := by
 simp only [cut] at h
 split at h
 · rename_i hl; exact ⟨hl,h⟩
 · cases h
theorem cut_un {b : Nat} (h : ι.un b) : (cut n ι).un b := by
 rintro (⟨id,s,l,h1,h2,rfl⟩ | hr)
 · exact h (.inl ⟨id,s,l,(cut_some h1).2,h2,rfl⟩)
 · exact h (.inr hr)
theorem cut_freed (h : HR ι σ w) {id : Nat} {s : Spot} {l : Loc} (hid : n ≤ id) (hs : ι id = some s) (hl : s.loc = some l) : (cut n ι).un l.blk := by
 rintro (⟨id',s',l',h1,h2,h3⟩ | hr)
 · obtain ⟨h4,h5⟩ := cut_some h1
   have := h.inj id' id s' s l' l h5 hs h2 hl h3
   omega
 · exact h.resNo id s l hs hl hr
theorem cut_ref {r : Ref} {ok : Spot → Prop} (hlt : r.id < n) (h : refAt ι r ok) : refAt (cut n ι) r ok := by
 obtain ⟨s,h1,h2⟩ := h
 exact ⟨s,by simp only [cut,hlt,if_true]; exact h1,h2⟩
theorem frzT_ok (h : HR ι σ w) : ∀ {k : Nat} {c : Cell} {t : T} {v : Value},CR ι w c v → frzT k σ n c = some t → TR (cut n ι).un w t v
 | k,.t x,t,v,hc,hf => by
   have : t = x := by cases k <;> (simp only [frzT,Option.some.injEq] at hf; exact hf.symm)
   subst this
   exact TR.mono hc fun b hb _ => ⟨cut_un hb,rfl⟩
 | 0,.ptr r,t,v,hc,hf => by simp [frzT] at hf
 | 0,.sl r len cap,t,v,hc,hf => by simp [frzT] at hf
 | 0,.clo f rs,t,v,hc,hf => by simp [frzT] at hf
 | k + 1,.sl r len cap,t,v,hc,hf => by
   simp only [frzT] at hf
   split at hf
   · cases hf
   · rename_i hid
     split at hf
     · rename_i o ho
       split at hf
       · rename_i hsz
         rw [Option.map_eq_some_iff] at hf
         obtain ⟨ts,hts,rfl⟩ := hf
         obtain ⟨hl1,hl2⟩ := mapO_ok hts
         obtain ⟨a,c,rfl,h0,href⟩ := hc
         obtain ⟨s,hs,_,_,hor,hok⟩ := h.ref ho href
         obtain ⟨h1,h2,h3⟩ := hok
         cases hloc : s.loc with
         | none =>
           rw [hloc] at h3
           obtain ⟨rfl,rfl,_⟩ := h3
           have : ts = [] := List.length_eq_zero_iff.1 (by rw [hl1]; simp)
           subst this
           exact .imm0 cap a 0 h2
         | some l =>
           rw [hloc] at h3
           obtain ⟨rfl,h4,h5⟩ := h3
           have hrow := ((hor.row hloc).drop r.off).take (len * o.es)
           have hb := hor.2.2
           rw [hloc] at hb
           obtain ⟨⟨cells,elem,h6,_⟩,_⟩ := hb
           obtain ⟨g,hg⟩ : ∃ g : Nat → Value,∀ i (hi : i < ts.length),w.cell? ⟨l.blk,l.sh + r.off + i,none⟩ = some (g i) ∧ TR (cut n ι).un w ts[i] (g i) := by
             refine ⟨fun i => (w.cell? ⟨l.blk,l.sh + r.off + i,none⟩).getD undef,fun i hi => ?_⟩
             obtain ⟨u,h7,h8⟩ := hrow i (by rw [← hl1]; exact hi)
             simp only [h7,Option.getD_some,true_and]
             exact frzT_ok h h8 (hl2 i hi (by rw [← hl1]; exact hi))
           exact .imm ts len cap l.blk (l.sh + r.off) c g (cut_freed h (by omega) hs hloc) ⟨cells,elem,_,h6⟩ h2 h1 (fun i hi => (hg i hi).1) (fun i hi => (hg i hi).2)
       · cases hf
     · cases hf
 | k + 1,.ptr r,t,v,hc,hf => by
   simp only [frzT] at hf
   split at hf
   · cases hf
   · rename_i hid
     split at hf
     · rename_i o ho
       rw [Option.map_eq_some_iff] at hf
       obtain ⟨ts,hts,rfl⟩ := hf
       obtain ⟨hl1,hl2⟩ := mapO_ok hts
       obtain ⟨a,rfl,href⟩ := hc
       obtain ⟨s,hs,_,_,hor,l,hloc,e⟩ := h.ref ho href
       injection e with e
       subst e
       have hrow := (hor.row hloc).drop r.off
       have hb := hor.2.2
       rw [hloc] at hb
       obtain ⟨⟨cells,elem,h6,_⟩,_⟩ := hb
       obtain ⟨g,hg⟩ : ∃ g : Nat → Value,∀ i (hi : i < ts.length),w.cell? ⟨l.blk,l.sh + r.off + i,none⟩ = some (g i) ∧ TR (cut n ι).un w ts[i] (g i) := by
         refine ⟨fun i => (w.cell? ⟨l.blk,l.sh + r.off + i,none⟩).getD undef,fun i hi => ?_⟩
         obtain ⟨u,h7,h8⟩ := hrow i (by rw [← hl1]; exact hi)
         simp only [h7,Option.getD_some,true_and]
         exact frzT_ok h h8 (hl2 i hi (by rw [← hl1]; exact hi))
       exact .iptr ts l.blk (l.sh + r.off) g (cut_freed h (by omega) hs hloc) ⟨cells,elem,_,h6⟩ (fun i hi => (hg i hi).1) (fun i hi => (hg i hi).2)
     · cases hf
 | k + 1,.clo f rs,t,v,hc,hf => by
   simp only [frzT] at hf
   split at hf
   · cases hf
   rename_i hy
   rw [Option.map_eq_some_iff] at hf
   obtain ⟨ts,hts,rfl⟩ := hf
   obtain ⟨hl1,hl2⟩ := mapO_ok hts
   obtain ⟨arr,rfl,h1,h2⟩ := cloR.no hc (fun e => by subst e; simp at hy)
   refine .fn f ts arr (by rw [h1,hl1]) fun i hi => ?_
   obtain ⟨a,h3,h4⟩ := h2 i (by rw [← hl1]; exact hi)
   exact frzT_ok h (c := .ptr rs[i]) ⟨a,h3,h4⟩ (hl2 i hi (by rw [← hl1]; exact hi))
theorem frzC_ok (h : HR ι σ w) {c c' : Cell} {v : Value} (hc : CR ι w c v) (hf : frzC k σ n c = some c') : CR (cut n ι) w c' v := by
 have tree : ∀ {c : Cell},CR ι w c v → (frzT k σ n c).map Cell.t = some c' → CR (cut n ι) w c' v := fun {c} hc hf => by
   rw [Option.map_eq_some_iff] at hf
   obtain ⟨t,h1,rfl⟩ := hf
   exact frzT_ok h hc h1
 cases c with
 | t x =>
   simp only [frzC,Option.some.injEq] at hf
   subst hf
   exact TR.mono hc fun b hb _ => ⟨cut_un hb,rfl⟩
 | ptr r =>
   simp only [frzC] at hf
   split at hf
   · rename_i hlt
     injection hf with hf
     subst hf
     obtain ⟨a,e,h1⟩ := hc
     exact ⟨a,e,cut_ref hlt h1⟩
   · exact tree hc hf
 | sl r len cap =>
   simp only [frzC] at hf
   split at hf
   · rename_i hlt
     injection hf with hf
     subst hf
     obtain ⟨a,c,e,h0,h1⟩ := hc
     exact ⟨a,c,e,h0,cut_ref hlt h1⟩
   · exact tree hc hf
 | clo f rs =>
   simp only [frzC] at hf
   split at hf
   · rename_i hlt
     injection hf with hf
     subst hf
     refine cloR.imp hc rfl rfl fun _ i hi _ a h4 => cut_ref ?_ h4
     rw [List.all_eq_true] at hlt
     simpa using hlt rs[i] (List.getElem_mem hi)
   · exact tree hc hf
theorem frz_agg (h : HR ι σ w) {xs ys : List Cell} {v : Value} (ha : aggR ι w xs v) (hf : mapO (frzC k σ n) xs = some ys) : aggR (cut n ι) w ys v := by
 obtain ⟨arr,e,h1,h2⟩ := ha
 obtain ⟨hl1,hl2⟩ := mapO_ok hf
 refine ⟨arr,e,by rw [h1,hl1],fun i hi => ?_⟩
 obtain ⟨u,h3,h4⟩ := h2 i (by rw [← hl1]; exact hi)
 exact ⟨u,h3,frzC_ok h h4 (hl2 i hi (by rw [← hl1]; exact hi))⟩
theorem frzV_ok (h : HR ι σ w) {x y : AV} {v : Value} (hv : VR ι w x v) (hf : frzV k σ n x = some y) : VR (cut n ι) w y v := by
 cases x with
 | c x =>
   simp only [frzV,Option.map_eq_some_iff] at hf
   obtain ⟨c,h1,rfl⟩ := hf
   exact frzC_ok h hv h1
 | agg xs =>
   simp only [frzV,Option.map_eq_some_iff] at hf
   obtain ⟨c,h1,rfl⟩ := hf
   exact frz_agg h hv h1
 | tup xs =>
   simp only [frzV,Option.map_eq_some_iff] at hf
   obtain ⟨ys,h1,rfl⟩ := hf
   obtain ⟨hl1,hl2⟩ := mapO_ok h1
   obtain ⟨arr,e,h2,h3⟩ := hv
   refine ⟨arr,e,by rw [h2,hl1],fun i hi => ?_⟩
   obtain ⟨u,h4,h5⟩ := h3 i (by rw [← hl1]; exact hi)
   refine ⟨u,h4,?_⟩
   have h6 := hl2 i hi (by rw [← hl1]; exact hi)
   generalize xs[i]'(by rw [← hl1]; exact hi) = y at h5 h6
   cases y with
   | inl x =>
     simp only [frzP,Option.map_eq_some_iff] at h6
     obtain ⟨c,h7,h8⟩ := h6
     rw [← h8]
     exact frzC_ok h h5 h7
   | inr x =>
     simp only [frzP,Option.map_eq_some_iff] at h6
     obtain ⟨c,h7,h8⟩ := h6
     rw [← h8]
     exact frz_agg h h5 h7
theorem frzH_ok (h : HR ι σ w) (hf : frzH k σ n = some σ') : HR (cut n ι) σ' w where
 obj := fun id s hs => by
   obtain ⟨hlt,hs⟩ := cut_some hs
   obtain ⟨o,h1,h2,h3,h4⟩ := h.obj id s hs
   obtain ⟨hl1,hl2⟩ := mapO_ok hf
   have hlt2 : id < σ.length := (List.getElem?_eq_some_iff.1 h1).1
   have hlt3 : id < (σ.take n).length := by rw [List.length_take]; omega
   have hlt4 : id < σ'.length := by rw [hl1]; exact hlt3
   have h5 := hl2 id hlt4 hlt3
   have ho : (σ.take n)[id] = o := by
     rw [List.getElem_take]
     exact (List.getElem?_eq_some_iff.1 h1).2
   rw [ho] at h5
   simp only [frzO,Option.map_eq_some_iff] at h5
   obtain ⟨cs,h6,h7⟩ := h5
   obtain ⟨hm1,hm2⟩ := mapO_ok h6
   refine ⟨σ'[id],List.getElem?_eq_getElem hlt4,by rw [← h7]; exact h2,by rw [← h7]; exact h3,?_⟩
   rw [← h7]
   cases hl : s.loc with
   | none =>
     rw [hl] at h4
     rw [h4] at hm1
     exact List.length_eq_zero_iff.1 (by simpa using hm1)
   | some l =>
     rw [hl] at h4
     refine ⟨h4.1,by simp only [hm1]; exact h4.2.1,fun i hi => ?_⟩
     obtain ⟨v,h8,h9⟩ := h4.2.2 i (by rw [← hm1]; exact hi)
     exact ⟨v,h8,frzC_ok h h9 (hm2 i hi (by rw [← hm1]; exact hi))⟩
 inj := fun id id' s s' l l' h1 h2 h3 h4 h5 => h.inj id id' s s' l l' (cut_some h1).2 (cut_some h2).2 h3 h4 h5
 resRow := h.resRow
 resNo := fun id s l h1 h2 => h.resNo id s l (cut_some h1).2 h2
end
end Go.Abs
