/-
  Cubes: Texts: its run answers true.
-/
import Derived.Test.YtnmlmdlhhphcoaaER6QEPB
import Derived.Test.YtnmlmdlhhphcoaaER6QEy
set_option linter.all false
namespace Go.Proofs.Ytnmlmdlhhphcoaa
open Go.Abs
namespace Cu
theorem scan_unitU {Y α : Type} (E : Unit → Y) : ∀ (l : List α),scan (fun (_ : Unit) (_ : α) => (.inl () : Unit ⊕ Y)) E () l = E ()
 | [] => rfl
 | _ :: l => by unfold scan; exact scan_unitU E l
theorem okS_V {l : List Int} (h : Vs l) (hl : l.length ≤ 1000000) : M26.okS l = true := by
 unfold M26.okS
 rw [Bool.and_eq_true]
 refine ⟨List.all_eq_true.2 fun x hx => ?_,Nat.ble_eq_true_of_le hl⟩
 rcases h x hx with rfl | rfl | rfl <;> rfl
theorem m26_V {i s : List Int} (h1 : Vs i) (h2 : Vs s) (h : i.length + s.length ≤ 16384) : M26.m ⟨i,s⟩ = some (sgns i ++ 124 :: sgns s) := by
 unfold M26.m
 simp only [m29 (show i.length ≤ 1000000 by omega) (show s.length ≤ 1000000 by omega),chk_V h1 h2 h,bindO,okS_V h1 (by omega),okS_V h2 (by omega)]
 rfl
theorem sgn_Va {v : Int} (h : Va v) : okb (sgn v) = true ∧ vl (sgn v) = v ∧ sgn v ≠ 124 := by
 rcases h with rfl | rfl | rfl <;> exact ⟨by decide,by decide,by decide⟩
theorem sgns_V {l : List Int} (h : Vs l) : (sgns l).all okb = true ∧ (sgns l).map vl = l ∧ 124 ∉ sgns l := by
 induction l with
 | nil => exact ⟨rfl,rfl,by simp [sgns]⟩
 | cons x l ih =>
   obtain ⟨a,b,c⟩ := ih h.tl
   obtain ⟨a',b',c'⟩ := sgn_Va h.hd
   refine ⟨?_,?_,?_⟩
   · show (okb (sgn x) && (sgns l).all okb) = true
     rw [a,a']; rfl
   · show vl (sgn x) :: (sgns l).map vl = _
     rw [b,b']
   · show 124 ∉ sgn x :: sgns l
     simp [c,Ne.symm c']
theorem sgn_vl {b : UInt8} (h : okb b = true) : sgn (vl b) = b ∧ Va (vl b) := by
 unfold okb at h
 simp only [Bool.or_eq_true,beq_iff_eq] at h
 rcases h with (rfl | rfl) | rfl
 · exact ⟨rfl,.inl rfl⟩
 · exact ⟨rfl,.inr (.inl rfl)⟩
 · exact ⟨rfl,.inr (.inr rfl)⟩
theorem sgns_vl {l : List UInt8} (h : l.all okb = true) : sgns (l.map vl) = l ∧ Vs (l.map vl) := by
 induction l with
 | nil => exact ⟨rfl,fun x hx => by simp at hx⟩
 | cons x l ih =>
   rw [List.all_cons,Bool.and_eq_true] at h
   obtain ⟨a,b⟩ := ih h.2
   obtain ⟨a',b'⟩ := sgn_vl h.1
   refine ⟨?_,?_⟩
   · show sgn (vl x) :: sgns (l.map vl) = _
     rw [a,a']
   · intro y hy
     rcases List.mem_cons.1 hy with rfl | hy
     · exact b'
     · exact b y hy
theorem m27_sgns {i s : List Int} (h1 : Vs i) (h2 : Vs s) (h : i.length + s.length ≤ 16384) : M27.m ⟨sgns i ++ 124 :: sgns s⟩ = some (i,s,0) := by
 obtain ⟨a,b,c⟩ := sgns_V h1
 obtain ⟨a',b',_⟩ := sgns_V h2
 rw [m27 (by simp [sgns]; omega),cut_of c,if_pos (by simp),if_pos (by rw [List.all_append,a,a']; rfl),b,b']
theorem byteAt_get {s : List UInt8} {i : Nat} (h : i < s.length) : byteAt s i = (s[i].toNat : Int) := by
 unfold byteAt
 rw [List.getElem?_eq_getElem h]
 rfl
theorem byte_eq (b : UInt8) (n : Nat) (hn : n < 256) : (((b.toNat : Nat) : Int) == (n : Int)) = (b == UInt8.ofNat n) := by
 rw [Bool.eq_iff_iff,beq_iff_eq,beq_iff_eq]
 constructor
 · intro h
   have h : b.toNat = n := by omega
   rw [← h]; simp
 · rintro rfl
   simp
   omega
def nb (s : List UInt8) : Nat := s.count 124
def gd (s : List UInt8) : Bool := s.all fun b => b == 124 || okb b
theorem nb_le (s : List UInt8) : nb s ≤ s.length := List.count_le_length
theorem s1_run {s : List UInt8} (hs : s.length ≤ 60) : iter M6.s1 ⟨s,0,true,0⟩ = some ⟨s,(nb s : Int),gd s⟩ := by
 have key := iter_scan (step := M6.s1) (fun i (_ : Unit) => ⟨s,(nb (s.take i) : Int),gd (s.take i),(i : Int)⟩) s (fun _ _ => .inl ()) (fun _ => ⟨s,(nb s : Int),gd s⟩) (fun _ _ => True) (fun i hi _ _ => by
   have e1 : ((i : Int) < (s.length : Int)) := by omega
   have hn : nb (s.take (i + 1)) = nb (s.take i) + (if (s[i] == 124) = true then 1 else 0) := by
     unfold nb
     rw [List.take_succ_eq_append_getElem hi,List.count_append,List.count_singleton]
   have hg : gd (s.take (i + 1)) = (gd (s.take i) && (s[i] == 124 || okb s[i])) := by
     unfold gd
     rw [List.take_succ_eq_append_getElem hi,List.all_append]
     simp
   have hle := nb_le (s.take i)
   have hll : (s.take i).length ≤ s.length := by simp; omega
   have ew : IntKind.i64.wrap ((nb (s.take i) : Int) + 1) = ((nb (s.take i) + 1 : Nat) : Int) := by rw [w64 (by omega) (by omega)]; omega
   have b1 : (byteAt s (i : Int).toNat == 124) = (s[i] == 124) := by rw [Int.toNat_natCast,byteAt_get hi]; exact byte_eq s[i] 124 (by decide)
   have b2 : (byteAt s (i : Int).toNat == 48) = (s[i] == 48) := by rw [Int.toNat_natCast,byteAt_get hi]; exact byte_eq s[i] 48 (by decide)
   have b3 : (byteAt s (i : Int).toNat == 49) = (s[i] == 49) := by rw [Int.toNat_natCast,byteAt_get hi]; exact byte_eq s[i] 49 (by decide)
   have b4 : (byteAt s (i : Int).toNat == 88) = (s[i] == 88) := by rw [Int.toNat_natCast,byteAt_get hi]; exact byte_eq s[i] 88 (by decide)
   unfold M6.s1
   simp only [e1,inR_nat hi,b1,b2,b3,b4,suc (show i < 9000000000000000000 by omega),decide_true,cond_true,Bool.true_or,Bool.and_self,hn,hg,ew,okb]
   cases (s[i] == 124) <;> cases (s[i] == 48) <;> cases (s[i] == 49) <;> cases (s[i] == 88) <;> cases gd (s.take i) <;> simp) (fun _ _ _ _ _ _ => trivial) (fun _ _ => by unfold M6.s1; simp) () trivial
 rw [scan_unitU] at key
 exact key
theorem bars_iff (s : List UInt8) : (nb s = 1 ∧ gd s = true) ↔ (124 ∈ s ∧ ((Lib.cut s [124]).1 ++ (Lib.cut s [124]).2.1).all okb = true) := by
 have hgd : ∀ t : List UInt8,nb t = 0 → gd t = t.all okb := fun t ht => by
   have : 124 ∉ t := List.count_eq_zero.1 ht
   unfold gd
   induction t with
   | nil => rfl
   | cons x t ih =>
     rw [List.all_cons,List.all_cons,ih (List.count_eq_zero.2 fun h => this (by simp [h])) fun h => this (by simp [h])]
     have : (x == 124) = false := by
       rw [beq_eq_false_iff_ne]; rintro rfl; exact this (by simp)
     rw [this,Bool.false_or]
 have hok : ∀ t : List UInt8,t.all okb = true → nb t = 0 := fun t ht => by
   refine List.count_eq_zero.2 fun hm => ?_
   have := List.all_eq_true.1 ht _ hm
   exact absurd this (by decide)
 rcases cut_bar s with ⟨h1,h2⟩ | ⟨l,r,h1,h2,h3⟩
 · have : nb s = 0 := List.count_eq_zero.2 h1
   constructor
   · intro h; omega
   · intro h; exact absurd h.1 h1
 · rw [h3]
   have hm : 124 ∈ s := by rw [h1]; simp
   have hn : nb s = nb r + 1 := by
     unfold nb
     rw [h1,List.count_append,List.count_cons,List.count_eq_zero.2 h2]; simp
   have hg : gd s = (gd l && gd r) := by
     unfold gd
     rw [h1,List.all_append,List.all_cons]; simp
   rw [hn,hg,hgd l (List.count_eq_zero.2 h2),List.all_append]
   constructor
   · rintro ⟨a,b⟩
     refine ⟨hm,?_⟩
     rw [← hgd r (by omega)]; exact b
   · rintro ⟨_,a⟩
     have hr : r.all okb = true := by rw [Bool.and_eq_true] at a; exact a.2
     have := hok r hr
     exact ⟨by omega,by rw [hgd r this]; exact a⟩
theorem run6 {xi xs : List Int} {s : List UInt8} (p1 : ∀ x ∈ xi,0 ≤ x) (p2 : ∀ x ∈ xs,0 ≤ x) : M6.m ⟨xi,xs,s⟩ = some true := by
 unfold M6.m
 have h9 := m9 (most := 40) (l := [(xi,xs)]) (by simp)
 simp only [h9,bindO]
 cases hb : [(xi,xs)].any (bigP 40) with
 | true => simp only [Bool.not_true,Bool.not_false,cond_true,lives10]
 | false =>
   simp only [List.any_cons,List.any_nil,Bool.or_false] at hb
   have hl : xi.length + xs.length ≤ 40 := by
     unfold bigP at hb
     by_cases h1 : ((xi.length : Int) > 40)
     · simp [h1] at hb
     · by_cases h2 : ((xs.length : Int) > 40)
       · simp [h1,h2] at hb
       · have ew : IntKind.i64.wrap ((xi.length : Int) + (xs.length : Int)) = ((xi.length + xs.length : Nat) : Int) := by rw [w64 (by omega) (by omega)]; omega
         simp only [h1,h2,decide_false,cond_false,ew,decide_eq_false_iff_not] at hb
         omega
   by_cases hs : ((s.length : Int) > 60)
   · simp only [Bool.not_true,Bool.not_false,cond_false,hs,decide_true,cond_true,lives10]
   · simp only [Bool.not_true,Bool.not_false,cond_false,hs,decide_false,m11 (show xi.length ≤ 1000000 by omega) (show xs.length ≤ 1000000 by omega)]
     have hs : s.length ≤ 60 := by omega
     have vA := vals_Vs p1
     have vA' := vals_Vs p2
     have eA : (vals xi).length = xi.length := vals_len xi
     have eA' : (vals xs).length = xs.length := vals_len xs
     simp only [m26_V vA vA' (by omega),m27_sgns vA vA' (by omega),m25 (show (vals xi).length ≤ 1000000 by omega) (show (vals xs).length ≤ 1000000 by omega) (show (vals xi).length ≤ 1000000 by omega) (show (vals xs).length ≤ 1000000 by omega),and_self,decide_true,show ((0 : Int) != 0) = false from rfl,Bool.not_false,cond_true,cond_false,Bool.not_true]
     have hlen : (sgns (vals xi) ++ 124 :: sgns (vals xs)).length = xi.length + 1 + xs.length := by simp [sgns,eA,eA']; omega
     have hin : xi.length < (sgns (vals xi) ++ 124 :: sgns (vals xs)).length := by omega
     have ew : IntKind.i64.wrap (IntKind.i64.wrap ((xi.length : Int) + 1) + (xs.length : Int)) = ((xi.length + 1 + xs.length : Nat) : Int) := by
       rw [w64 (x := (xi.length : Int) + 1) (by omega) (by omega),w64 (by omega) (by omega)]; omega
     have hbar : byteAt (sgns (vals xi) ++ 124 :: sgns (vals xs)) (xi.length : Int).toNat = 124 := by
       rw [Int.toNat_natCast,byteAt_get hin,List.getElem_append_right (by simp [sgns,eA])]
       simp [sgns,eA]
     have hne : ((((sgns (vals xi) ++ 124 :: sgns (vals xs)).length : Nat) : Int) != ((xi.length + 1 + xs.length : Nat) : Int)) = false := by rw [hlen]; simp
     simp only [inR_nat hin,ew,hne,hbar,Bool.true_or,cond_true,cond_false,show ((124 : Int) != 124) = false from rfl]
     have k0 := iter_scan (step := M6.s0) (fun i (_ : Unit) => ⟨s,sgns (vals xi) ++ 124 :: sgns (vals xs),(i : Int),xi,xs,vals xi,vals xs⟩) xi (fun _ _ => .inl ()) (fun _ => .inl ⟨s⟩) (fun _ _ => True) (fun i hi _ _ => by
       have e1 : ((i : Int) < (xi.length : Int)) := by omega
       have hiA : i < (vals xi).length := by omega
       have hit : i < (sgns (vals xi) ++ 124 :: sgns (vals xs)).length := by omega
       have hb : byteAt (sgns (vals xi) ++ 124 :: sgns (vals xs)) (i : Int).toNat = ((sgn (vals xi)[i]).toNat : Int) := by
         rw [Int.toNat_natCast,byteAt_get hit,List.getElem_append_left (by simp [sgns]; omega)]
         simp [sgns]
       have hv := vA _ (List.getElem_mem hiA)
       have hc : inR (vals xi)[i] 3 = true ∧ byteAt [48,49,88] (Int.toNat (vals xi)[i]) = ((sgn (vals xi)[i]).toNat : Int) := by
         rcases hv with h | h | h <;> rw [h] <;> exact ⟨rfl,rfl⟩
       unfold M6.s0
       simp only [e1,inR_nat hit,inR_nat hiA,getD_at hiA,hb,hc.1,hc.2,suc (show i < 9000000000000000000 by omega),decide_true,cond_true,bne_self_eq_false,cond_false]) (fun _ _ _ _ _ _ => trivial) (fun _ _ => by unfold M6.s0; simp) () trivial
     rw [scan_unit] at k0
     have k0 : iter M6.s0 ⟨s,sgns (vals xi) ++ 124 :: sgns (vals xs),0,xi,xs,vals xi,vals xs⟩ = _ := k0
     simp only [k0,sumC,s1_run hs,m27 (show s.length ≤ 16385 by omega)]
     have hbi := bars_iff s
     by_cases hc : nb s = 1 ∧ gd s = true
     · obtain ⟨c1,c2⟩ := hbi.1 hc
       have hcut : s = (Lib.cut s [124]).1 ++ 124 :: (Lib.cut s [124]).2.1 := by
         rcases cut_bar s with ⟨h1,h2⟩ | ⟨l,r,h1,h2,h3⟩
         · exact absurd c1 h1
         · rw [h3]; exact h1
       rw [if_pos c1,if_pos c2,hc.1,hc.2]
       generalize (Lib.cut s [124]).1 = l at *
       generalize (Lib.cut s [124]).2.1 = r at *
       rw [List.all_append,Bool.and_eq_true] at c2
       obtain ⟨a,b⟩ := sgns_vl c2.1
       obtain ⟨a',b'⟩ := sgns_vl c2.2
       have hlr : l.length + 1 + r.length = s.length := by rw [hcut]; simp; omega
       simp only [show (((1 : Nat) : Int) != 1) = false from rfl,Bool.not_true,cond_false,show ((0 : Int) == 0) = true from rfl,cond_true,m26_V b b' (by simp; omega),a,a']
       rw [← hcut]
       simp [lives10]
     · have hp : (if 124 ∈ s then (if ((Lib.cut s [124]).1 ++ (Lib.cut s [124]).2.1).all okb = true then ((Lib.cut s [124]).1.map vl,(Lib.cut s [124]).2.1.map vl,(0 : Int)) else ([],[],4)) else ([],[],4)) = (([] : List Int),([] : List Int),(4 : Int)) := by
         by_cases c1 : 124 ∈ s
         · by_cases c2 : ((Lib.cut s [124]).1 ++ (Lib.cut s [124]).2.1).all okb = true
           · exact absurd (hbi.2 ⟨c1,c2⟩) hc
           · rw [if_pos c1,if_neg c2]
         · rw [if_neg c1]
       rw [hp]
       have hcb : (bif (nb s : Int) != 1 then true else !gd s) = true := by
         by_cases h1 : nb s = 1
         · have h2 : gd s = false := by
             cases h : gd s with
             | false => rfl
             | true => exact absurd ⟨h1,h⟩ hc
           simp [h2]
         · have : ((nb s : Int) != 1) = true := by simp; omega
           rw [this]; rfl
       simp only [hcb,cond_true,show ((4 : Int) == 4) = true from rfl,List.length_nil]
       rw [show (IntKind.i64.wrap (((0 : Nat) : Int) + ((0 : Nat) : Int)) == 0) = true from rfl]
       simp [lives10]
end Cu
end Go.Proofs.Ytnmlmdlhhphcoaa
