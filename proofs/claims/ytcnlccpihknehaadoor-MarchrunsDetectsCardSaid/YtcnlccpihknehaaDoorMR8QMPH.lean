/-
  March runs: the statement Detects: its run answers true.
-/
import Derived.Test.YtcnlccpihknehaaDoorMR8QMPB
import Derived.Test.YtcnlccpihknehaaDoorMR8QMUH
set_option linter.all false
namespace Go.Proofs.YtcnlccpihknehaaDoor
open Go.Abs
namespace Mr
open Pl
def ct (n t : Nat) : List Int := (List.range n).map fun i => ((t / 2 ^ i % 2 : Nat) : Int)
theorem ct_len (n t : Nat) : (ct n t).length = n := by simp [ct]
theorem ct_at {n t i : Nat} (h : i < n) : at0 (ct n t) i = ((t / 2 ^ i % 2 : Nat) : Int) := by
 unfold at0 ct
 rw [List.getElem?_map,List.getElem?_range h]
 rfl
theorem ct_bin (n t : Nat) : Bin (ct n t) := fun i => by
 by_cases h : i < n
 · rw [ct_at h]; omega
 · left; unfold at0; rw [List.getElem?_eq_none (by rw [ct_len]; omega)]; rfl
theorem ct_succ (n t : Nat) : ct (n + 1) t = ct n t ++ [((t / 2 ^ n % 2 : Nat) : Int)] := by simp [ct,List.range_succ]
theorem bit_of : ∀ k : Nat,k < 32 → ∀ i : Nat,i < 5 → IntKind.u8.wrap (IntKind.i64.wrap (((BitVec.ofInt 64 (((k : Nat) : Int).fdiv (2 ^ min (i : Int).toNat 64)) &&& BitVec.ofInt 64 1).toNat : Nat) : Int)) = ((k / 2 ^ i % 2 : Nat) : Int) := by decide +kernel
theorem two_bits : ∀ p,p < 5 → ∀ q,q < 5 → q ≠ p → 2 ^ p / 2 ^ p % 2 = 1 ∧ 2 ^ p / 2 ^ q % 2 = 0 ∧ (2 ^ p + 2 ^ q) / 2 ^ p % 2 = 1 ∧ (2 ^ p + 2 ^ q) / 2 ^ q % 2 = 1 := by decide +kernel
theorem pow_lt : ∀ n,n < 6 → ∀ p,p < n → ∀ q,q < n → q ≠ p → 2 ^ p + 2 ^ q < 2 ^ n := by decide +kernel
theorem pow_lt1 : ∀ n,n < 6 → ∀ p,p < n → 2 ^ p < 2 ^ n ∧ 2 ^ p / 2 ^ p % 2 = 1 := by decide +kernel
section
variable {k : Int} {p q n : Nat} {m : List El}
def Ft' (m : List El) (k : Int) (p q n t : Nat) : Bool := bad false k p q (ini false k p q (ct n t)) (acs n false m) && bad false k p q (ini false k p q (ct n t)) (acs n true m)
def At (m : List El) (k : Int) (p q n t : Nat) : Bool := (List.range t).all (Ft' m k p q n)
theorem At_succ (t : Nat) : At m k p q n (t + 1) = (At m k p q n t && Ft' m k p q n t) := by
 unfold At
 rw [List.range_succ,List.all_append]
 simp
theorem At_D (ok : OkD false k p q n) (hm : V m) (hn : n < 6) : At m k p q n (2 ^ n) = D m k (decide (q < p)) := by
 have L := fun t down => loc ok.toOk hm (ct_len n t) (ct_bin n t) down
 have hp := ok.pl; have hq := ok.ql
 have hF : ∀ t,Ft' m k p q n t = if sing k = true then D1 m k (at0 (ct n t) p) else (D2 m k (decide (q < p)) false (at0 (ct n t) p) (at0 (ct n t) q) && D2 m k (decide (q < p)) true (at0 (ct n t) p) (at0 (ct n t) q)) := fun t => by
   unfold Ft'
   rw [L t false,L t true]
   cases sing k with
   | true => simp only [if_true,Bool.and_self]
   | false => simp only [Bool.false_eq_true,if_false]
 have hpos : 0 < 2 ^ n := Nat.pos_of_ne_zero (by simp)
 have z : ∀ i,(0 : Nat) / 2 ^ i % 2 = 0 := fun i => by simp
 rw [Bool.eq_iff_iff]
 unfold At
 rw [List.all_eq_true]
 cases hs : sing k with
 | true =>
   simp only [hs,if_true] at hF
   unfold D
   simp only [hs,if_true,Bool.and_eq_true,hF,ct_at hp]
   constructor
   · intro h
     have h0 := h 0 (List.mem_range.2 hpos)
     have h1 := h (2 ^ p) (List.mem_range.2 (pow_lt1 n hn p hp).1)
     rw [z] at h0
     rw [(pow_lt1 n hn p hp).2] at h1
     exact ⟨h0,h1⟩
   · rintro ⟨h0,h1⟩ t _
     rcases Nat.mod_two_eq_zero_or_one (t / 2 ^ p) with e | e <;> rw [e]
     · exact h0
     · exact h1
 | false =>
   have hne := ok.ne rfl hs
   simp only [hs,Bool.false_eq_true,if_false] at hF
   unfold D
   simp only [hs,Bool.false_eq_true,if_false,Bool.and_eq_true,hF,ct_at hp,ct_at hq]
   obtain ⟨a1,a2,a3,a4⟩ := two_bits p (by omega) q (by omega) hne
   obtain ⟨b1,b2,b3,b4⟩ := two_bits q (by omega) p (by omega) (Ne.symm hne)
   constructor
   · intro h
     have h00 := h 0 (List.mem_range.2 hpos)
     have h10 := h (2 ^ p) (List.mem_range.2 (pow_lt1 n hn p hp).1)
     have h01 := h (2 ^ q) (List.mem_range.2 (pow_lt1 n hn q hq).1)
     have h11 := h (2 ^ p + 2 ^ q) (List.mem_range.2 (pow_lt n hn p hp q hq hne))
     rw [z,z] at h00
     rw [a1,a2] at h10
     rw [b1,b2] at h01
     rw [a3,a4] at h11
     exact ⟨⟨⟨h00,h10⟩,h01⟩,h11⟩
   · rintro ⟨⟨⟨h00,h10⟩,h01⟩,h11⟩ t _
     rcases Nat.mod_two_eq_zero_or_one (t / 2 ^ p) with e | e <;> rcases Nat.mod_two_eq_zero_or_one (t / 2 ^ q) with e' | e' <;> rw [e,e']
     · exact h00
     · exact h01
     · exact h10
     · exact h11
theorem fls_pos {c : List Int} {down : Bool} : decide ((((fls false k p q c n down m).length : Nat) : Int) > 0) = bad false k p q (ini false k p q c) (acs n down m) := by
 have h := fls_len (k := k) (p := p) (q := q) (n := n) (m := m) (c := c) (down := down)
 cases hb : bad false k p q (ini false k p q c) (acs n down m) with
 | false =>
   rw [hb] at h
   simp only [Bool.not_false,beq_iff_eq] at h
   rw [h]
   rfl
 | true =>
   rw [hb] at h
   simp only [Bool.not_true,beq_eq_false_iff_ne,ne_eq] at h
   simp only [decide_eq_true_eq]
   omega
end
theorem pow_n : ∀ n : Nat,n < 6 → IntKind.i64.wrap (1 * 2 ^ min (n : Int).toNat 64) = ((2 ^ n : Nat) : Int) := by decide +kernel
theorem pow_le : ∀ n,n < 6 → 2 ^ n ≤ 32 := by decide +kernel
theorem fill11 {m : List El} {n : Nat} (hn : n < 6) {all : Bool} {t : Nat} (ht : t < 32) {s start c p' q' dk dp dq : Int} :
   iter M11.s1 ⟨m,n,all,t,0,0,0,s,start,c,p',q',dk,dp,dq,[]⟩ = some ⟨m,n,all,t,0,n,s,start,c,p',q',dk,dp,dq,ct n t⟩ := by
 have key : iter M11.s1 ⟨m,n,all,t,0,(ct 0 t).length,((0 : Nat) : Int),s,start,c,p',q',dk,dp,dq,ct 0 t⟩ = some ⟨m,n,all,t,0,(ct n t).length,s,start,c,p',q',dk,dp,dq,ct n t⟩ := by
   refine iter_for (step := M11.s1) (fun i => ⟨m,n,all,t,0,(ct i t).length,(i : Int),s,start,c,p',q',dk,dp,dq,ct i t⟩) (n := n) (fun i hi => ?_) ?_
   · have e1 : ((i : Int) < (n : Int)) := by omega
     have e2 : (0 ≤ (i : Int)) := by omega
     have e3 : eqN (ct i t).length (ct i t).length = true := by simp [eqN]
     have e4 : roomB ((ct i t).length + 1) 1 = true := by rw [ct_len]; simp [roomB,leB]; omega
     have e5 : (ct (i + 1) t).length = (ct i t).length + 1 := by rw [ct_len,ct_len]
     unfold M11.s1
     simp only [e1,e2,e3,e4,show eqN 0 0 = true from rfl,suc (show i < 9000000000000000000 by omega),decide_true,cond_true,Bool.and_self,bit_of t ht i (by omega)]
     rw [e5,ct_succ]
   · unfold M11.s1
     simp
 have e : (ct n t).length = n := ct_len n t
 rw [e] at key
 exact key
theorem run11 {orders : List Int} {ops : List (List Int)} (hr : RawOk orders ops) {s start c p' q' : Int} (h : U8 s) (hc : U8 c) (hp : U8 p') (hq : U8 q') : M11.m ⟨orders,ops,s,start,c,p',q'⟩ = some true := by
 obtain ⟨m,hg,hm,_,_⟩ := good hr.1 hr.2
 have hs : s.tmod 4 = s % 4 := Int.tmod_eq_emod_of_nonneg h.1
 have h' : U8 (s % 4) := by unfold U8 at h ⊢; omega
 obtain ⟨b,k,p,q,hd,ok⟩ := defect_run (start := start) h' hc hp hq
 have hn : num (s % 4) < 6 := by unfold num; omega
 have hn2 := num_pos (s % 4)
 unfold M11.m
 simp only [hs]
 cases b with
 | true =>
   simp only [if_true] at hd
   simp only [hg,hd,lives,bindO,show ((0 : Int) == 0) = true from rfl,cond_true]
 | false =>
   simp only [Bool.false_eq_true,if_false] at hd
   have hl := pow_le _ hn
   have key : iter M11.s0 ⟨m,num (s % 4),At m k p q (num (s % 4)) 0,((0 : Nat) : Int),s % 4,start,c,p',q',k,p,q⟩ = some (.inl ⟨m,num (s % 4),At m k p q (num (s % 4)) (2 ^ num (s % 4)),((2 ^ num (s % 4) : Nat) : Int),s % 4,start,c,p',q',k,p,q⟩) := by
     refine iter_for (step := M11.s0) (fun t => ⟨m,num (s % 4),At m k p q (num (s % 4)) t,(t : Int),s % 4,start,c,p',q',k,p,q⟩) (n := 2 ^ num (s % 4)) (fun t ht => ?_) ?_
     · have e0 : (0 ≤ ((num (s % 4) : Nat) : Int)) := by omega
       have e1 : ((t : Int) < ((2 ^ num (s % 4) : Nat) : Int)) := Int.ofNat_lt.2 ht
       have R := fun down => m32o (down := down) hd ok hm (by omega) (ct_len (num (s % 4)) t) (ct_bin (num (s % 4)) t)
       unfold M11.s0
       simp only [e0,pow_n _ hn,e1,fill11 hn (show t < 32 by omega),R,fls_pos,decide_true,cond_true,bindO,show ((0 : Int) != 0) = false from rfl,cond_false,suc (show t < 9000000000000000000 by omega),At_succ]
       unfold Ft'
       cases At m k p q (num (s % 4)) t <;> cases bad false k p q (ini false k p q (ct (num (s % 4)) t)) (acs (num (s % 4)) false m) <;> rfl
     · have e0 : (0 ≤ ((num (s % 4) : Nat) : Int)) := by omega
       unfold M11.s0
       simp only [e0,pow_n _ hn,decide_true,cond_true,Int.lt_irrefl,decide_false,cond_false]
   have key : iter M11.s0 ⟨m,num (s % 4),true,0,s % 4,start,c,p',q',k,p,q⟩ = _ := key
   have h1 := m39 ok hm (by omega)
   simp only [hg,hd,num_run h',key,bindO,sumC,show ((1 : Int) == 0) = false from rfl,cond_false,h1,At_D ok hm hn,beq_self_eq_true,cond_true,lives]
end Mr
end Go.Proofs.YtcnlccpihknehaaDoor
