/-
  What the proof stands on.
-/
import Derived.Test.YtcnlccpihknehaaDoorMRAQMu
import Derived.Test.YtcnlccpihknehaaDoorLSyJ
import Derived.Test.YtcnlccpihknehaaDoorMRAQMv
set_option linter.all false
namespace Go.Proofs.YtcnlccpihknehaaDoor
open Go.Abs
namespace Pl
theorem w8 {x : Int} (h : 0 ≤ x) (h' : x ≤ 255) : IntKind.u8.wrap x = x := by
 simp [IntKind.wrap,IntKind.signed,IntKind.bits]; omega
theorem w64 {x : Int} (h : -9223372036854775808 ≤ x) (h' : x ≤ 9223372036854775807) : IntKind.i64.wrap x = x := by
 simp [IntKind.wrap,IntKind.signed,IntKind.bits]; omega
theorem inR_nat {i n : Nat} (h : i < n) : inR (i : Int) n = true := by simp [inR]; omega
def sing (c : Int) : Bool := decide (c ≤ 3) || decide (c = 14) || decide (c = 15)
def at0 (c : List Int) (i : Nat) : Int := c[i]?.getD 0
def hold (k : Int) (p q : Nat) (c : List Int) : List Int := if 10 ≤ k ∧ k ≤ 13 ∧ at0 c q = (k - 10) / 2 then c.set p ((k - 10) % 2) else c
def couple (k : Int) (p : Nat) (c : List Int) (v : Int) : List Int := if k = 4 ∧ v = 1 ∨ k = 5 ∧ v = 0 then c.set p (1 - at0 c p) else if (k = 6 ∨ k = 7) ∧ v = 1 then c.set p (k - 6) else if (k = 8 ∨ k = 9) ∧ v = 0 then c.set p (k - 8) else c
def st (k : Int) (p q : Nat) (c : List Int) (x : Nat) (v : Int) : List Int := if x = p ∧ (k ≤ 1 ∨ k = 2 ∧ v = 1 ∨ k = 3 ∧ v = 0) then c else hold k p q (if x = q ∧ v ≠ at0 c x ∧ sing k = false then couple k p (c.set x v) v else c.set x v)
def Bin (c : List Int) : Prop := ∀ i,at0 c i = 0 ∨ at0 c i = 1
def Bit (v : Int) : Prop := v = 0 ∨ v = 1
theorem k19 {k : Int} (h : 0 ≤ k) (h' : k ≤ 18) : k = 0 ∨ k = 1 ∨ k = 2 ∨ k = 3 ∨ k = 4 ∨ k = 5 ∨ k = 6 ∨ k = 7 ∨ k = 8 ∨ k = 9 ∨ k = 10 ∨ k = 11 ∨ k = 12 ∨ k = 13 ∨ k = 14 ∨ k = 15 ∨ k = 16 ∨ k = 17 ∨ k = 18 := by omega
theorem single (k : Int) : F22.m ⟨k⟩ = some (sing k) := by
 unfold F22.m sing
 simp only [Option.some.injEq]
 by_cases h : k ≤ 3
 · simp [h]
 · by_cases h2 : k = 14
   · subst h2; rfl
   · by_cases h3 : k = 15
     · subst h3; rfl
     · simp [h,h2,h3]
theorem hold_run {k : Int} (h : 0 ≤ k) (h' : k ≤ 18) {p q : Nat} {c : List Int} {n : Nat} (hn : c.length = n) (hp : p < c.length) (hq : sing k = false → q < c.length) :
   F37.m ⟨k,p,q,0,n,false,c⟩ = some (k,(p : Int),(q : Int),0,n,false,hold k p q c) := by
 subst hn
 have a : ∀ j : Nat,((0 : Nat) + (j : Int).toNat) = j := fun j => by simp
 unfold F37.m hold at0
 simp only [a,inR_nat hp,hp,decide_true,cond_true,cond_false]
 by_cases h1 : k < 10
 · simp [h1,show ¬ 10 ≤ k by omega]
 · by_cases h2 : k > 13
   · simp [h1,h2,show ¬ k ≤ 13 by omega]
   · have hq' : q < c.length := hq (by unfold sing; simp; omega)
     have e : IntKind.u8.wrap (k - 10) = k - 10 := w8 (by omega) (by omega)
     have e2 : IntKind.u8.wrap ((k - 10).tdiv 2) = (k - 10) / 2 := by rw [Int.tdiv_eq_ediv_of_nonneg (by omega)]; exact w8 (by omega) (by omega)
     have e3 : (k - 10).tmod 2 = (k - 10) % 2 := Int.tmod_eq_emod_of_nonneg (by omega)
     simp only [e,e2,e3,inR_nat hq',hq',decide_true,cond_true,h1,h2,decide_false,cond_false]
     by_cases h3 : (c[q]?.getD 0 = (k - 10) / 2)
     · simp [h3,show 10 ≤ k by omega,show k ≤ 13 by omega]
     · simp [h3,Bool.cond_eq_ite]
theorem couple_run {k : Int} (h : 0 ≤ k) (h' : k ≤ 18) {p q : Nat} {c : List Int} {n : Nat} (hn : c.length = n) {v : Int} (hp : p < c.length) (hb : Bit (at0 c p)) :
   F38.m ⟨v,k,p,q,0,n,false,c⟩ = some (k,(p : Int),(q : Int),0,n,false,couple k p c v) := by
 subst hn
 have a : ∀ j : Nat,((0 : Nat) + (j : Int).toNat) = j := fun j => by simp
 have hx : IntKind.u8.wrap (((BitVec.ofInt 8 (c[p]?.getD 0) ^^^ BitVec.ofInt 8 1).toNat : Nat) : Int) = 1 - at0 c p := by
   rcases hb with e | e <;> (unfold at0 at e; unfold at0; rw [e]; rfl)
 unfold F38.m couple
 simp only [a,inR_nat hp,hp,decide_true,cond_true,hx]
 rcases k19 h h' with e | e | e | e | e | e | e | e | e | e | e | e | e | e | e | e | e | e | e <;> subst e <;> simp [w8,Bool.cond_eq_ite] <;>
   first
     | (by_cases h1 : v = 1 <;> simp [h1,w8]; done)
     | (by_cases h0 : v = 0 <;> simp [h0,w8]; done)
     | done
theorem at_set (c : List Int) (i j : Nat) (v : Int) : at0 (c.set i v) j = if i = j ∧ j < c.length then v else at0 c j := by
 unfold at0
 rw [List.getElem?_set]
 by_cases h : i = j
 · subst h
   by_cases h2 : i < c.length
   · simp [h2]
   · simp [h2]
 · simp [h]
theorem Bin.set {c : List Int} (h : Bin c) {v : Int} (hv : Bit v) (i : Nat) : Bin (c.set i v) := fun j => by
 rw [at_set]; split
 · exact hv
 · exact h j
theorem Bit.inv {v : Int} (h : Bit v) : Bit (1 - v) := by rcases h with h | h <;> subst h <;> unfold Bit <;> omega
theorem couple_bin {k : Int} {p : Nat} {c : List Int} {v : Int} (h : Bin c) : Bin (couple k p c v) := by
 unfold couple
 split
 · exact h.set (Bit.inv (h p)) p
 · split
   · rename_i h1; exact h.set (by unfold Bit; omega) p
   · split
     · rename_i h1; exact h.set (by unfold Bit; omega) p
     · exact h
theorem hold_bin {k : Int} {p q : Nat} {c : List Int} (h : Bin c) : Bin (hold k p q c) := by
 unfold hold
 split
 · exact h.set (by unfold Bit; omega) p
 · exact h
theorem couple_len (k : Int) (p : Nat) (c : List Int) (v : Int) : (couple k p c v).length = c.length := by
 unfold couple; repeat' split
 all_goals simp
theorem hold_len (k : Int) (p q : Nat) (c : List Int) : (hold k p q c).length = c.length := by
 unfold hold; split <;> simp
theorem st_len (k : Int) (p q : Nat) (c : List Int) (x : Nat) (v : Int) : (st k p q c x v).length = c.length := by
 unfold st; repeat' split
 all_goals simp [hold_len,couple_len]
theorem st_bin {k : Int} {p q : Nat} {c : List Int} {x : Nat} {v : Int} (h : Bin c) (hv : Bit v) : Bin (st k p q c x v) := by
 unfold st; split
 · exact h
 · refine hold_bin ?_
   split
   · exact couple_bin (h.set hv x)
   · exact h.set hv x
theorem store_run {k : Int} (h : 0 ≤ k) (h' : k ≤ 18) {p q x n : Nat} {c : List Int} {v : Int} (hn : c.length = n) (hp : p < n) (hx : x < n) (hq : sing k = false → q < n) (hb : Bin c) (hv : Bit v) :
   F30.m ⟨x,v,k,p,q,0,n,false,c⟩ = some (k,(p : Int),(q : Int),0,n,false,st k p q c x v) := by
 have a : ∀ j : Nat,((0 : Nat) + (j : Int).toNat) = j := fun j => by simp
 have hs : (c.set x v).length = n := by simp [hn]
 have H := fun (c : List Int) (e : c.length = n) => hold_run h h' (p := p) (q := q) e (e ▸ hp) (fun e' => e ▸ hq e')
 have C := fun (c : List Int) (e : c.length = n) (b : Bin c) => couple_run h h' (p := p) (q := q) (v := v) e (e ▸ hp) (b p)
 have hxl : x < c.length := hn ▸ hx
 have e1 : ((x : Int) == (p : Int)) = decide (x = p) := by by_cases h : x = p <;> simp [h]; omega
 have e2 : ((x : Int) == (q : Int)) = decide (x = q) := by by_cases h : x = q <;> simp [h]; omega
 have e3 : (v != c[x]?.getD 0) = decide (v ≠ at0 c x) := by unfold at0; by_cases h : v = c[x]?.getD 0 <;> simp [h]
 have e4 : (bif decide (k ≤ 1) then decide (k ≤ 1) else bif bif k == 2 then v == 1 else false then bif k == 2 then v == 1 else false else bif k == 3 then v == 0 else false) = decide (k ≤ 1 ∨ k = 2 ∧ v = 1 ∨ k = 3 ∧ v = 0) := by
   by_cases h1 : k ≤ 1
   · simp [h1]
   · by_cases h2 : k = 2
     · by_cases h3 : v = 1 <;> simp [h2,h3]
     · by_cases h4 : k = 3
       · by_cases h3 : v = 0 <;> simp [h4,h3]
       · simp [h1,h2,h4,Bool.cond_eq_ite]
 have C' := C _ hs (hb.set hv x)
 have H1 := H _ hs
 have H2 := H _ ((couple_len k p (c.set x v) v).trans hs)
 unfold F30.m st
 simp only [a,inR_nat hx,hxl,decide_true,cond_true,cond_false,single,e1,e2,e3,e4,C',H1]
 by_cases g1 : k ≤ 1 ∨ k = 2 ∧ v = 1 ∨ k = 3 ∧ v = 0 <;> by_cases g2 : x = p <;> by_cases g3 : x = q <;> by_cases g4 : v = at0 c x <;> cases g5 : sing k <;>
   (first | have f1 := eq_false g1 | have f1 := eq_true g1) <;> (first | have f2 := eq_false g2 | have f2 := eq_true g2) <;> (first | have f3 := eq_false g3 | have f3 := eq_true g3) <;> (first | have f4 := eq_false g4 | have f4 := eq_true g4) <;>
   simp only [f1,f2,f3,f4,ne_eq,not_true_eq_false,not_false_eq_true,decide_true,decide_false,cond_true,cond_false,bindO,H2,if_true,if_false,and_true,true_and,and_false,false_and,Bool.not_true,Bool.not_false,Bool.true_eq_false,Bool.false_eq_true]
end Pl
end Go.Proofs.YtcnlccpihknehaaDoor
namespace Go.Proofs.YtcnlccpihknehaaDoor
open Go.Abs
namespace Pl
structure Ok (b : Bool) (k : Int) (p q n : Nat) : Prop where
 lo : 0 ≤ k
 hi : k ≤ 18
 pl : p < n
 ql : q < n
 ne : b = false → sing k = false → q ≠ p
 size : n ≤ 1024
def sto (b : Bool) (k : Int) (p q : Nat) (c : List Int) (x : Nat) (v : Int) : List Int := if b = true then c.set x v else st k p q c x v
def accs (b : Bool) (k : Int) (p q a : Nat) : List Nat := if b = false ∧ a = p then (if k = 14 ∨ k = 15 then [] else if k = 16 then [q] else if k = 17 ∨ k = 18 then [p,q] else [a]) else [a]
def wrt (b : Bool) (k : Int) (p q : Nat) (c : List Int) (a : Nat) (v : Int) : List Int := (accs b k p q a).foldl (fun c x => sto b k p q c x v) c
def rdv (b : Bool) (k : Int) (p q : Nat) (c : List Int) (a : Nat) : Int := if b = false ∧ a = p then (if k = 14 ∨ k = 15 then k - 14 else if k = 16 then at0 c q else if k = 17 then at0 c p * at0 c q else if k = 18 then (if at0 c q > at0 c p then at0 c q else at0 c p) else at0 c a) else at0 c a
theorem sto_len (b : Bool) (k : Int) (p q : Nat) (c : List Int) (x : Nat) (v : Int) : (sto b k p q c x v).length = c.length := by
 unfold sto; split <;> simp [st_len]
theorem sto_bin {b : Bool} {k : Int} {p q : Nat} {c : List Int} {x : Nat} {v : Int} (h : Bin c) (hv : Bit v) : Bin (sto b k p q c x v) := by
 unfold sto; split
 · exact h.set hv x
 · exact st_bin h hv
theorem fold_ok {b : Bool} {k : Int} {p q : Nat} {v : Int} (hv : Bit v) : ∀ (l : List Nat) {c : List Int},Bin c → Bin (l.foldl (fun c x => sto b k p q c x v) c) ∧ (l.foldl (fun c x => sto b k p q c x v) c).length = c.length
 | [],c,h => ⟨h,rfl⟩
 | x :: l,c,h => by
   have := fold_ok (b := b) (k := k) (p := p) (q := q) hv l (sto_bin (b := b) (k := k) (p := p) (q := q) (x := x) h hv)
   exact ⟨this.1,this.2.trans (sto_len ..)⟩
theorem wrt_bin {b : Bool} {k : Int} {p q a : Nat} {c : List Int} {v : Int} (h : Bin c) (hv : Bit v) : Bin (wrt b k p q c a v) := (fold_ok hv _ h).1
theorem wrt_len {b : Bool} {k : Int} {p q a : Nat} {c : List Int} {v : Int} (h : Bin c) (hv : Bit v) : (wrt b k p q c a v).length = c.length := (fold_ok hv _ h).2
theorem bit_and {x y : Int} (hx : Bit x) (hy : Bit y) : IntKind.u8.wrap (((BitVec.ofInt 8 x &&& BitVec.ofInt 8 y).toNat : Nat) : Int) = x * y := by
 rcases hx with h | h <;> rcases hy with h' | h' <;> subst h <;> subst h' <;> rfl
theorem bit_or {x y : Int} (hx : Bit x) (hy : Bit y) : IntKind.u8.wrap (((BitVec.ofInt 8 x ||| BitVec.ofInt 8 y).toNat : Nat) : Int) = if y > x then y else x := by
 rcases hx with h | h <;> rcases hy with h' | h' <;> subst h <;> subst h' <;> rfl
section
variable {b : Bool} {k : Int} {p q n : Nat} (ok : Ok b k p q n)
include ok
theorem sto_run {x : Nat} {c : List Int} {v : Int} (hn : c.length = n) (hx : x < n) (hb : Bin c) (hv : Bit v) :
   F30.m ⟨x,v,k,p,q,0,n,b,c⟩ = some (k,(p : Int),(q : Int),0,n,b,sto b k p q c x v) := by
 cases b with
 | false => exact store_run ok.lo ok.hi hn ok.pl hx (fun _ => ok.ql) hb hv
 | true =>
   have a : ∀ j : Nat,((0 : Nat) + (j : Int).toNat) = j := fun j => by simp
   have hxl : x < c.length := hn ▸ hx
   unfold F30.m sto
   simp only [a,inR_nat hx,hxl,decide_true,cond_true,if_true]
theorem acc_lt {a : Nat} (ha : a < n) : ∀ x ∈ accs b k p q a,x < n := by
 have := ok.pl; have := ok.ql
 unfold accs
 intro x hx
 repeat' split at hx
 all_goals simp at hx
 all_goals omega
theorem acc_run {a : Nat} {c : List Int} : F29.m ⟨a,k,p,q,0,n,b,c⟩ = some ((accs b k p q a).map (fun (i : Nat) => (i : Int)),k,(p : Int),(q : Int),0,n,b,c) := by
 have e1 : ((a : Int) == (p : Int)) = decide (a = p) := by by_cases h : a = p <;> simp [h]; omega
 unfold F29.m accs
 simp only [e1]
 cases b with
 | true => simp
 | false =>
   by_cases h : a = p
   · rcases k19 ok.lo ok.hi with e | e | e | e | e | e | e | e | e | e | e | e | e | e | e | e | e | e | e <;> subst e <;> simp [h]
   · simp [h]
theorem loop_run {v : Int} (hv : Bit v) (l : List Nat) (hl : ∀ x ∈ l,x < n) (hs : l.length ≤ 2) {c : List Int} (hn : c.length = n) (hb : Bin c) :
   iter F15.s0 ⟨v,l.map (fun (i : Nat) => (i : Int)),(l.length : Int),0,k,p,q,0,n,b,c⟩ = some ⟨k,p,q,0,n,b,l.foldl (fun c x => sto b k p q c x v) c⟩ := by
 have key := iter_fun (step := F15.s0) (fun x => ∃ (i : Nat) (c : List Int),x = ⟨v,l.map (fun (i : Nat) => (i : Int)),(l.length : Int),i,k,p,q,0,n,b,c⟩ ∧ i ≤ l.length ∧ c.length = n ∧ Bin c)
   (fun x => l.length - x.i.toNat) (fun x => ⟨k,p,q,0,n,b,(l.drop x.i.toNat).foldl (fun c x => sto b k p q c x v) x.xs⟩) (fun x hx => by
     obtain ⟨i,c,rfl,hi,hc,hB⟩ := hx
     unfold F15.s0
     by_cases h : i < l.length
     · have h1 : ((i : Int) < (l.length : Int)) := by omega
       have h2 : inR (i : Int) (l.map (fun (i : Nat) => (i : Int))).length = true := inR_nat (by simpa using h)
       have h3 : (l.map (fun (i : Nat) => (i : Int)))[(i : Int).toNat]?.getD 0 = ((l[i] : Nat) : Int) := by simp [h]
       have h4 := sto_run ok (x := l[i]) hc (hl _ (List.getElem_mem h)) hB hv
       have h5 : IntKind.i64.wrap ((i : Int) + 1) = ((i + 1 : Nat) : Int) := by rw [w64 (by omega) (by omega)]; omega
       simp only [h1,h2,h3,h4,h5,decide_true,cond_true,bindO]
       refine ⟨_,rfl,⟨i + 1,_,rfl,by omega,(sto_len ..).trans hc,sto_bin hB hv⟩,?_,?_⟩
       · simp only [Int.toNat_natCast]; omega
       · simp only [Int.toNat_natCast]
         rw [List.drop_eq_getElem_cons h,List.foldl_cons]
     · have h1 : ¬ ((i : Int) < (l.length : Int)) := by omega
       simp only [h1,decide_false,cond_false]
       refine ⟨_,rfl,?_⟩
       simp only [Int.toNat_natCast]
       rw [List.drop_eq_nil_of_le (by omega),List.foldl_nil])
 exact key _ ⟨0,c,rfl,by omega,hn,hb⟩
theorem there_run {a : Nat} (ha : a < n) {c : List Int} : F27.m ⟨a,k,p,q,0,n,b,c⟩ = some (0,k,(p : Int),(q : Int),0,n,b,c) := by
 have := ok.pl
 unfold F27.m
 have h1 : ((n : Int) == 0) = false := by simp; omega
 have h2 : ¬ ((a : Int) < 0) := by omega
 have h3 : ¬ ((a : Int) ≥ (n : Int)) := by omega
 simp only [h1,h2,h3,decide_false,cond_false]
theorem write_run {a : Nat} (ha : a < n) {v : Int} (hv : Bit v) {c : List Int} (hn : c.length = n) (hb : Bin c) :
   F15.m ⟨a,v,k,p,q,0,n,b,c⟩ = some (0,k,(p : Int),(q : Int),0,n,b,wrt b k p q c a v) := by
 have h1 : F28.m ⟨v⟩ = some true := by unfold F28.m; rcases hv with h | h <;> subst h <;> rfl
 have hs : (accs b k p q a).length ≤ 2 := by unfold accs; repeat' split
                                             all_goals simp
 unfold F15.m
 simp only [there_run ok ha,bindO,beq_self_eq_true,cond_true,h1,Bool.not_true,bne_self_eq_false,cond_false,acc_run ok,List.length_map]
 rw [loop_run ok hv _ (acc_lt ok ha) hs hn hb]
 rfl
theorem read_run {a : Nat} (ha : a < n) {c : List Int} (hn : c.length = n) (hb : Bin c) :
   F17.m ⟨a,k,p,q,0,n,b,c⟩ = some (rdv b k p q c a,0,k,(p : Int),(q : Int),0,n,b,c) := by
 have aa : ∀ j : Nat,((0 : Nat) + (j : Int).toNat) = j := fun j => by simp
 have hp := ok.pl; have hq := ok.ql
 have hal : a < c.length := hn ▸ ha
 have hpl : p < c.length := hn ▸ hp
 have hql : q < c.length := hn ▸ hq
 have and' := bit_and (hb p) (hb q)
 have or' := bit_or (hb p) (hb q)
 unfold F17.m
 simp only [there_run ok ha,bindO,bne_self_eq_false,cond_false,acc_run ok,List.length_map]
 unfold accs rdv
 by_cases h : b = false ∧ a = p
 · obtain ⟨h1,h2⟩ := h
   subst h2
   simp only [h1,true_and,if_true]
   unfold at0 at and' or'
   rcases k19 ok.lo ok.hi with e | e | e | e | e | e | e | e | e | e | e | e | e | e | e | e | e | e | e <;> subst e <;>
     simp [inR_nat,ha,hal,hq,hql,at0,w8,inR] <;> first | omega | (simp [hpl,hql] at and' or'; first | exact and' | exact or')
 · simp only [h,if_false,false_and]
   simp [inR_nat,ha,hal,at0,inR]
end
end Pl
end Go.Proofs.YtcnlccpihknehaaDoor
namespace Go.Proofs.YtcnlccpihknehaaDoor
open Go.Abs
namespace Pl
def bitAt (start : Int) (i : Nat) : Int := IntKind.u8.wrap (IntKind.u16.wrap ((BitVec.ofInt 16 (start.fdiv (2 ^ min i 16)) &&& BitVec.ofInt 16 1).toNat : Int))
def content (start : Int) (n : Nat) : List Int := (List.range n).map (bitAt start)
structure OkD (b : Bool) (k : Int) (p q n : Nat) : Prop extends Ok b k p q n where
 sg : sing k = true → q = 0
 no : b = true → k = 0 ∧ p = 0 ∧ q = 0
def ini (b : Bool) (k : Int) (p q : Nat) (c : List Int) : List Int := if b = true then c else hold k p q (if k ≤ 1 then c.set p k else c)
theorem ini_len (b : Bool) (k : Int) (p q : Nat) (c : List Int) : (ini b k p q c).length = c.length := by
 unfold ini; repeat' split
 all_goals simp [hold_len]
theorem ini_bin {b : Bool} {k : Int} {p q : Nat} {c : List Int} (h0 : 0 ≤ k) (h : Bin c) : Bin (ini b k p q c) := by
 unfold ini; repeat' split
 · exact h
 · exact hold_bin (h.set (by unfold Bit; omega) p)
 · exact hold_bin h
def lst (b : Bool) (k : Int) (p q : Nat) : List (Int × Int × Int) := if b = true then [] else [(k,(p : Int),(q : Int))]
theorem check_run {b : Bool} {k : Int} {p q n : Nat} (ok : OkD b k p q n) (hb : b = false) (hn : 1 ≤ n) : F21.m ⟨k,p,q,n⟩ = some 0 := by
 have h1 := ok.lo; have h2 := ok.hi; have h3 := ok.pl; have h4 := ok.ql; have h5 := ok.size
 have a1 : ¬ ((n : Int) < 1) := by omega
 have a2 : ¬ ((n : Int) > 1024) := by omega
 have a3 : ¬ (k ≥ 19) := by omega
 have a4 : ((p : Int) ≥ 0) := by omega
 have a5 : ((p : Int) < (n : Int)) := by omega
 have a6 : ((q : Int) ≥ 0) := by omega
 have a7 : ((q : Int) < (n : Int)) := by omega
 unfold F21.m F34.m
 simp only [a1,a2,a3,a4,a5,a6,a7,decide_true,decide_false,cond_true,cond_false,Bool.not_false,Bool.not_true,bindO,single]
 cases hs : sing k with
 | true =>
   have := ok.sg hs
   subst this
   rfl
 | false =>
   have := ok.ne hb hs
   have e : ((q : Int) == (p : Int)) = false := by simp; omega
   simp [e,bindO]
theorem index_run {c : List Int} (hb : Bin c) (hz : c.length ≤ 1024) : F35.m ⟨c⟩ = some false := by
 have key := iter_fun (step := F39.s0) (fun x => ∃ i : Nat,x = ⟨c,(c.length : Int),i⟩ ∧ i ≤ c.length) (fun x => c.length - x.i.toNat) (fun _ => .inl ()) (fun x hx => by
   obtain ⟨i,rfl,hi⟩ := hx
   unfold F39.s0 F36.m F28.m
   by_cases h : i < c.length
   · have e1 : ((i : Int) < (c.length : Int)) := by omega
     have e2 := inR_nat h
     have e3 : c[(i : Int).toNat]?.getD 0 ≤ 1 := by have := hb i; unfold at0 at this; simp only [Int.toNat_natCast]; omega
     have e5 : IntKind.i64.wrap ((i : Int) + 1) = ((i + 1 : Nat) : Int) := by rw [w64 (by omega) (by omega)]; omega
     simp only [e1,e2,e3,e5,decide_true,cond_true,bindO,Bool.not_true,cond_false]
     exact ⟨_,rfl,⟨i + 1,rfl,by omega⟩,by simp only [Int.toNat_natCast]; omega,trivial⟩
   · have e1 : ¬ ((i : Int) < (c.length : Int)) := by omega
     simp only [e1,decide_false,cond_false]
     exact ⟨_,rfl,rfl⟩)
 have h0 := key ⟨c,(c.length : Int),0⟩ ⟨0,rfl,by omega⟩
 show bindO (bindO (iter F39.s0 ⟨c,(c.length : Int),0⟩) _) _ = _
 rw [h0]
 rfl
theorem new_run {b : Bool} {k : Int} {p q n : Nat} (ok : OkD b k p q n) {c : List Int} (hn : c.length = n) (h1 : 1 ≤ n) (hb : Bin c) :
   F24.m ⟨c,lst b k p q⟩ = some (0,k,(p : Int),(q : Int),0,n,b,ini b k p q c) := by
 have hz := ok.size
 have a1 : ((c.length : Int) == 0) = false := by simp; intro h; rw [h] at hn; simp at hn; omega
 have a2 : ¬ ((c.length : Int) > 1024) := by omega
 have a3 : ¬ (((lst b k p q).length : Int) > 1) := by unfold lst; split <;> simp
 have a4 : F33.m ⟨c⟩ = some (0,c.length,c) := by
   unfold F33.m
   have e1 : eqN c.length 0 = false := by simp [eqN]; intro h; rw [h] at hn; simp at hn; omega
   have e2 : roomB c.length 1 = true := by simp [roomB,leB]; omega
   simp only [e1,e2,Bool.not_false,cond_true]
 unfold F24.m
 simp only [a1,a2,a3,a4,decide_false,cond_false,bindO,index_run hb (by omega)]
 cases b with
 | true =>
   obtain ⟨rfl,rfl,rfl⟩ := ok.no rfl
   simp only [lst,if_true]
   rw [iter_eq]
   simp [F24.s0,sumC,ini,hn]
 | false =>
   simp only [lst,Bool.false_eq_true,if_false]
   have hck := check_run ok rfl h1
   have e1 : p < c.length := hn ▸ ok.pl
   have e1' : q < c.length := hn ▸ ok.ql
   have hr := hold_run ok.lo ok.hi (p := p) (q := q) (c := if k ≤ 1 then c.set p k else c) (n := n) (by split <;> simp [hn]) (by split <;> simp [e1]) (fun _ => by split <;> simp [e1'])
   have e2 := inR_nat ok.pl
   have e3 : (0 + (p : Int).toNat) = p := by simp
   have s1 : F24.s0 ⟨c,[(k,(p : Int),(q : Int))],1,0,c,0,0,0,0,n,false⟩ = some (.inl ⟨c,[(k,(p : Int),(q : Int))],1,1,ini false k p q c,k,p,q,0,n,false⟩) := by
     unfold F24.s0 ini
     by_cases hk : k ≤ 1
     · simp only [hk,if_true] at hr
       simp [inR,hn,hck,bindO,hk,hr,e1,ok.pl,w64]
     · simp only [hk,if_false] at hr
       simp [inR,hn,hck,bindO,hk,hr,w64]
   have s2 : F24.s0 ⟨c,[(k,(p : Int),(q : Int))],1,1,ini false k p q c,k,p,q,0,n,false⟩ = some (.inr (.inl ⟨ini false k p q c,k,p,q,0,n,false⟩)) := by
     unfold F24.s0
     simp
   show bindO (iter F24.s0 ⟨c,[(k,(p : Int),(q : Int))],1,0,c,0,0,0,0,c.length,false⟩) _ = _
   rw [hn,iter_eq,s1]
   simp only []
   rw [iter_eq,s2]
   rfl
end Pl
end Go.Proofs.YtcnlccpihknehaaDoor
namespace Go.Proofs.YtcnlccpihknehaaDoor
open Go.Abs
namespace Pl
theorem hold_at {k : Int} {p q j : Nat} {c : List Int} (h : j ≠ p) : at0 (hold k p q c) j = at0 c j := by
 unfold hold; split
 · rw [at_set,if_neg (by omega)]
 · rfl
theorem couple_at {k : Int} {p j : Nat} {c : List Int} {v : Int} (h : j ≠ p) : at0 (couple k p c v) j = at0 c j := by
 unfold couple; repeat' split
 all_goals first | rfl | rw [at_set,if_neg (by omega)]
theorem st_at {k : Int} {p q x j : Nat} {c : List Int} {v : Int} (h : j ≠ p) (hj : j < c.length) : at0 (st k p q c x v) j = if x = j then v else at0 c j := by
 unfold st; split
 · rw [if_neg (by omega)]
 · rw [hold_at h]
   split
   · rw [couple_at h,at_set]; simp [hj]
   · rw [at_set]; simp [hj]
def far (b : Bool) (k : Int) (p q j : Nat) : Prop := b = true ∨ j ≠ p ∧ (sing k = true ∨ j ≠ q)
theorem wrt_at {b : Bool} {k : Int} {p q a j : Nat} {c : List Int} {v : Int} (hf : far b k p q j) (hj : j < c.length) : at0 (wrt b k p q c a v) j = if a = j then v else at0 c j := by
 unfold wrt accs
 cases b with
 | true => simp [sto,at_set,hj]
 | false =>
   rcases hf with h | ⟨h1,h2⟩
   · cases h
   · by_cases ha : a = p
     · subst ha
       have hne : ¬ a = j := by omega
       simp only [true_and,if_true]
       have len1 : ∀ x,j < (st k a q c x v).length := fun x => (st_len ..).symm ▸ hj
       split
       · simp [hne]
       · split
         · rename_i e
           have hq : ¬ q = j := by
             rcases h2 with h | h
             · rw [e] at h; exact absurd h (by decide)
             · exact Ne.symm h
           simp [sto,st_at h1 hj,hne,hq]
         · split
           · rename_i e
             have hq : ¬ q = j := by
               rcases h2 with h | h
               · rcases e with e | e <;> (rw [e] at h; exact absurd h (by decide))
               · exact Ne.symm h
             simp [sto,st_at h1 hj,st_at h1 (len1 _),hne,hq]
           · simp [sto,st_at h1 hj,hne]
     · simp [ha,sto,st_at h1 hj]
theorem rdv_at {b : Bool} {k : Int} {p q j : Nat} {c : List Int} (hf : far b k p q j) : rdv b k p q c j = at0 c j := by
 unfold rdv
 rw [if_neg]
 rintro ⟨rfl,rfl⟩
 rcases hf with h | ⟨h,_⟩
 · cases h
 · exact h rfl
end Pl
end Go.Proofs.YtcnlccpihknehaaDoor
namespace Go.Proofs.YtcnlccpihknehaaDoor
open Go.Abs
namespace Pl
end Pl
end Go.Proofs.YtcnlccpihknehaaDoor
namespace Go.Proofs.YtcnlccpihknehaaDoor
open Go.Abs
namespace Pl
theorem index_run_c {cap : Nat} {c : List Int} (hb : Bin c) (hz : c.length ≤ 1024) : F35c.m ⟨0,c.length,cap,c⟩ = some (false,c) := by
 have key := iter_fun (step := F39c.s0) (fun x => ∃ i : Nat,x = ⟨0,c.length,cap,(c.length : Int),i,c⟩ ∧ i ≤ c.length) (fun x => c.length - x.i.toNat) (fun _ => .inl ⟨c⟩) (fun x hx => by
   obtain ⟨i,rfl,hi⟩ := hx
   unfold F39c.s0 F36.m F28.m
   by_cases h : i < c.length
   · have e1 : ((i : Int) < (c.length : Int)) := by omega
     have e2 := inR_nat h
     have e3 : c[0 + (i : Int).toNat]?.getD 0 ≤ 1 := by have := hb i; unfold at0 at this; simp only [Int.toNat_natCast,Nat.zero_add]; omega
     have e4 : 0 + (i : Int).toNat < c.length := by simpa using h
     have e5 : IntKind.i64.wrap ((i : Int) + 1) = ((i + 1 : Nat) : Int) := by rw [w64 (by omega) (by omega)]; omega
     simp only [e1,e2,e3,e4,e5,decide_true,cond_true,bindO,Bool.not_true,cond_false]
     exact ⟨_,rfl,⟨i + 1,rfl,by omega⟩,by simp only [Int.toNat_natCast]; omega,trivial⟩
   · have e1 : ¬ ((i : Int) < (c.length : Int)) := by omega
     simp only [e1,decide_false,cond_false]
     exact ⟨_,rfl,rfl⟩)
 have h0 := key ⟨0,c.length,cap,(c.length : Int),0,c⟩ ⟨0,rfl,by omega⟩
 show bindO (bindO (iter F39c.s0 ⟨0,c.length,cap,(c.length : Int),0,c⟩) _) _ = _
 rw [h0]
 rfl
theorem new_run_c {cap : Nat} {k : Int} {p q n : Nat} (ok : OkD false k p q n) {c : List Int} (hn : c.length = n) (h1 : 1 ≤ n) (hb : Bin c) :
   F24c.m ⟨0,n,cap,[(k,(p : Int),(q : Int))],c⟩ = some (0,c,k,(p : Int),(q : Int),0,n,false,ini false k p q c) := by
 have hz := ok.size
 have a1 : ((n : Int) == 0) = false := by simp; omega
 have a2 : ¬ ((n : Int) > 1024) := by omega
 have a4 : F33c.m ⟨0,n,cap,c⟩ = some (0,n,c,c) := by
   unfold F33c.m
   have e1 : eqN n 0 = false := by simp [eqN]; omega
   have e2 : roomB n 1 = true := by simp [roomB,leB]; omega
   have e3 : leB (0 + n) c.length = true := by simp [leB]; omega
   simp only [e1,e2,e3,Bool.not_false,cond_true,Bool.and_self,List.drop_zero]
   rw [List.take_of_length_le (by omega)]
 have a5 : F35c.m ⟨0,n,cap,c⟩ = some (false,c) := hn ▸ index_run_c hb (by omega)
 unfold F24c.m
 have hck := check_run ok rfl h1
 have e1 : p < c.length := hn ▸ ok.pl
 have e1' : q < c.length := hn ▸ ok.ql
 have hr := hold_run ok.lo ok.hi (p := p) (q := q) (c := if k ≤ 1 then c.set p k else c) (n := n) (by split <;> simp [hn]) (by split <;> simp [e1]) (fun _ => by split <;> simp [e1'])
 have s1 : F24c.s0 ⟨0,n,cap,[(k,(p : Int),(q : Int))],1,0,c,c,0,0,0,0,n,false⟩ = some (.inl ⟨0,n,cap,[(k,(p : Int),(q : Int))],1,1,c,ini false k p q c,k,p,q,0,n,false⟩) := by
   unfold F24c.s0 ini
   by_cases hk : k ≤ 1
   · simp only [hk,if_true] at hr
     simp [inR,hck,bindO,hk,hr,e1,ok.pl,w64]
   · simp only [hk,if_false] at hr
     simp [inR,hck,bindO,hk,hr,w64]
 have s2 : F24c.s0 ⟨0,n,cap,[(k,(p : Int),(q : Int))],1,1,c,ini false k p q c,k,p,q,0,n,false⟩ = some (.inr (.inl ⟨0,n,cap,c,ini false k p q c,k,p,q,0,n,false⟩)) := by
   unfold F24c.s0
   simp
 simp only [a1,a2,a4,a5,decide_false,cond_false,bindO]
 show bindO (iter F24c.s0 ⟨0,n,cap,[(k,(p : Int),(q : Int))],1,0,c,c,0,0,0,0,n,false⟩) _ = _
 rw [iter_eq,s1]
 simp only []
 rw [iter_eq,s2]
 rfl
end Pl
end Go.Proofs.YtcnlccpihknehaaDoor
