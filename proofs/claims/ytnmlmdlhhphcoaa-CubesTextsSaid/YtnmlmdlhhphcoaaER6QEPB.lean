/-
  Cubes: Parse: what it computes.
-/
import Derived.Test.YtnmlmdlhhphcoaaER6QEz
import Derived.Test.YtnmlmdlhhphcoaaER6QEx
import Derived.Lib.IndexLaws
set_option linter.all false
namespace Go.Proofs.Ytnmlmdlhhphcoaa
open Go.Abs
namespace Cu
def okb (b : UInt8) : Bool := b == 48 || b == 49 || b == 88
def vl (b : UInt8) : Int := if b = 48 then 0 else if b = 49 then 1 else 2
def fv (l : List UInt8) (k : Nat) : List Int := (l.take k).map vl ++ List.replicate (l.length - k) 0
theorem ix3 (b : UInt8) : Lib.indexByte [48,49,88] b = if okb b = true then vl b else -1 := by
 by_cases h0 : b = 48
 · subst h0; rfl
 · by_cases h1 : b = 49
   · subst h1; rfl
   · by_cases h2 : b = 88
     · subst h2; rfl
     · simp [Lib.indexByte,okb,h0,h1,h2,Ne.symm h0,Ne.symm h1,Ne.symm h2]
theorem byteAt_at {s : List UInt8} {i : Nat} (h : i < s.length) : (byteAt s i).toNat.toUInt8 = s[i] := by
 unfold byteAt
 rw [List.getElem?_eq_getElem h]
 simp
theorem fv_set {l : List UInt8} {k : Nat} (h : k < l.length) : (fv l k).set k (vl l[k]) = fv l (k + 1) := by
 unfold fv
 rw [List.take_succ_eq_append_getElem h,List.map_append]
 have e : l.length - k = (l.length - (k + 1)) + 1 := by omega
 rw [e,List.replicate_succ,List.set_append_right _ _ (by simp; omega)]
 simp [Nat.min_eq_left (Nat.le_of_lt h)]
theorem fv_len {l : List UInt8} {k : Nat} (h : k ≤ l.length) : (fv l k).length = l.length := by
 unfold fv; simp; omega
theorem fv_zero (l : List UInt8) : fv l 0 = List.replicate l.length 0 := by simp [fv]
theorem fv_full (l : List UInt8) : fv l l.length = l.map vl := by simp [fv]
theorem vl_ge (b : UInt8) : 0 ≤ vl b ∧ vl b ≤ 2 := by unfold vl; split <;> (try split) <;> omega
theorem u8_vl (b : UInt8) : IntKind.u8.wrap (vl b) = vl b := by
 unfold vl; split
 · rfl
 · split <;> rfl
theorem cut_bar (s : List UInt8) : (124 ∉ s ∧ Lib.cut s [124] = (s,[],false)) ∨ ∃ l r,s = l ++ 124 :: r ∧ 124 ∉ l ∧ Lib.cut s [124] = (l,r,true) := by
 unfold Lib.cut
 rw [Lib.index_one]
 have hge := Lib.indexByte_ge s 124
 by_cases h : Lib.indexByte s 124 = -1
 · left
   have hn := Lib.indexByte_none h
   rw [h]
   refine ⟨fun hm => ?_,rfl⟩
   obtain ⟨k,hk⟩ := List.mem_iff_getElem?.1 hm
   exact hn k hk
 · right
   obtain ⟨o,ho⟩ : ∃ o : Nat,Lib.indexByte s 124 = o := ⟨(Lib.indexByte s 124).toNat,by omega⟩
   obtain ⟨h1,h2⟩ := Lib.indexByte_some ho
   rw [ho,if_pos (by omega)]
   have hlt : o < s.length := by
     rcases Nat.lt_or_ge o s.length with h | h
     · exact h
     · rw [List.getElem?_eq_none h] at h1; cases h1
   have e : s[o] = 124 := by rw [List.getElem?_eq_getElem hlt] at h1; injection h1
   refine ⟨s.take o,s.drop (o + 1),?_,?_,?_⟩
   · rw [← e,← List.drop_eq_getElem_cons hlt,List.take_append_drop]
   · intro hm
     obtain ⟨k,hk⟩ := List.mem_iff_getElem?.1 hm
     by_cases hko : k < o
     · rw [List.getElem?_take_of_lt hko] at hk
       exact h2 k hko hk
     · rw [List.getElem?_eq_none (by simp; omega)] at hk; cases hk
   · simp
theorem cut_of {l r : List UInt8} (h : 124 ∉ l) : Lib.cut (l ++ 124 :: r) [124] = (l,r,true) := by
 rcases cut_bar (l ++ 124 :: r) with ⟨h1,_⟩ | ⟨l',r',h1,h2,h3⟩
 · exact absurd (by simp) h1
 · have key : ∀ (l l' r r' : List UInt8),124 ∉ l → 124 ∉ l' → l ++ 124 :: r = l' ++ 124 :: r' → l = l' ∧ r = r' := by
     intro l
     induction l with
     | nil =>
       intro l' r r' _ h' he
       cases l' with
       | nil => simp at he; exact ⟨rfl,he⟩
       | cons x l' => simp at he; exact absurd (by simp [he.1]) h'
     | cons x l ih =>
       intro l' r r' h h' he
       cases l' with
       | nil => simp at he; exact absurd (by simp [he.1]) h
       | cons y l' =>
         simp only [List.cons_append,List.cons.injEq] at he
         obtain ⟨a,b⟩ := ih l' r r' (fun hm => h (by simp [hm])) (fun hm => h' (by simp [hm])) he.2
         exact ⟨by rw [he.1,a],b⟩
   obtain ⟨a,b⟩ := key l l' r r' h h2 h1
   rw [h3,a,b]
theorem m27 {s : List UInt8} (hs : s.length ≤ 16385) : M27.m ⟨s⟩ = some (
   if 124 ∈ s then (if ((Lib.cut s [124]).1 ++ (Lib.cut s [124]).2.1).all okb = true then ((Lib.cut s [124]).1.map vl,(Lib.cut s [124]).2.1.map vl,0) else ([],[],4)) else ([],[],4)) := by
 have hg : ¬ ((s.length : Int) > 16385) := by omega
 have hb : Nat.ble s.length 1000000000 = true := Nat.ble_eq_true_of_le (by omega)
 unfold M27.m M47.m M53.m
 simp only [hg,decide_false,cond_false,hb,cond_true,bindO]
 rcases cut_bar s with ⟨h1,h2⟩ | ⟨l,r,h1,h2,h3⟩
 · rw [h2,if_neg h1]; rfl
 · have hm : 124 ∈ s := by rw [h1]; simp
   rw [h3,if_pos hm]
   have hl : l.length + r.length + 1 = s.length := by rw [h1]; simp; omega
   have g1 : ∀ n : Nat,n ≤ 16385 → (decide (0 ≤ (n : Int)) && decide ((n : Int) ≤ (n : Int)) && decide ((n : Int) * 1 ≤ 281474976710656) && decide ((n : Int) ≤ 9223372036854775807)) = true := fun n hn => by simp; omega
   simp only [Bool.not_true,cond_false,Int.ofNat_one,Int.natCast_one,g1 l.length (by omega),g1 r.length (by omega),cond_true,M36o.m,bindO,Int.toNat_natCast,← fv_zero]
   have hle : leB (l.length + r.length) 9223372036854775807 = true := by simp [leB]; omega
   have k0 := iter_any (step := M27.i0_s0) (fun k => ⟨(l.length : Int),(k : Int),[],[],0,l,r,fv l k,fv r 0,0,l.length,l.length,0,r.length,r.length,0,l.length,l.length,0,r.length,r.length⟩) l (fun b => !okb b)
     (fun k => .inr ⟨[],[],4,l,r,fv l k,fv r 0,0,l.length,l.length,0,r.length,r.length,0,l.length,l.length,0,r.length,r.length⟩)
     (y := .inl ⟨[],[],0,l,r,fv l l.length,fv r 0,0,l.length,l.length,0,r.length,r.length,0,l.length,l.length,0,r.length,r.length⟩) (fun k hk => by
     have e1 : ((k : Int) < (l.length : Int)) := by omega
     have e2 : inR (k : Int) (l ++ r).length = true := inR_nat (by simp; omega)
     have e3 : (byteAt (l ++ r) (k : Int).toNat).toNat.toUInt8 = l[k] := by
       rw [Int.toNat_natCast,byteAt_at (by simp; omega),List.getElem_append_left hk]
     have e4 : 0 + (k : Int).toNat < (fv l k).length := by rw [fv_len (by omega)]; simp; omega
     unfold M27.i0_s0 M27.sb0a M48.m
     simp only [e1,inR_nat hk,e2,hle,e3,ix3,suc (show k < 9000000000000000000 by omega),decide_true,cond_true,bindO]
     cases ho : okb l[k] with
     | false => simp [sumC]
     | true =>
       have := vl_ge l[k]
       have n1 : ¬ (vl l[k] < 0) := by omega
       simp only [if_true,n1,decide_false,cond_false,e4,decide_true,cond_true,sumC,Bool.not_true,Bool.false_eq_true,if_false,u8_vl]
       rw [show 0 + (k : Int).toNat = k by simp,fv_set hk]) (by unfold M27.i0_s0; simp)
   have k1 := iter_any (step := M27.i0_s1) (fun k => ⟨(r.length : Int),(k : Int),[],[],0,l,r,fv l l.length,fv r k,0,l.length,l.length,0,r.length,r.length,0,l.length,l.length,0,r.length,r.length⟩) r (fun b => !okb b)
     (fun k => .inr ⟨[],[],4,l,r,fv l l.length,fv r k,0,l.length,l.length,0,r.length,r.length,0,l.length,l.length,0,r.length,r.length⟩)
     (y := .inl ⟨[],[],0,l,r,fv l l.length,fv r r.length,0,l.length,l.length,0,r.length,r.length,0,l.length,l.length,0,r.length,r.length⟩) (fun k hk => by
     have e1 : ((k : Int) < (r.length : Int)) := by omega
     have ew : IntKind.i64.wrap ((l.length : Int) + (k : Int)) = ((l.length + k : Nat) : Int) := by rw [w64 (by omega) (by omega)]; omega
     have e2 : inR ((l.length + k : Nat) : Int) (l ++ r).length = true := inR_nat (by simp; omega)
     have e3 : (byteAt (l ++ r) (((l.length + k : Nat) : Int)).toNat).toNat.toUInt8 = r[k] := by
       rw [Int.toNat_natCast,byteAt_at (by simp; omega),List.getElem_append_right (by omega)]
       simp
     have e4 : 0 + (k : Int).toNat < (fv r k).length := by rw [fv_len (by omega)]; simp; omega
     unfold M27.i0_s1 M27.sb0b M48.m
     simp only [e1,inR_nat hk,ew,e2,hle,e3,ix3,suc (show k < 9000000000000000000 by omega),decide_true,cond_true,bindO]
     cases ho : okb r[k] with
     | false => simp [sumC]
     | true =>
       have := vl_ge r[k]
       have n1 : ¬ (vl r[k] < 0) := by omega
       simp only [if_true,n1,decide_false,cond_false,e4,decide_true,cond_true,sumC,Bool.not_true,Bool.false_eq_true,if_false,u8_vl]
       rw [show 0 + (k : Int).toNat = k by simp,fv_set hk]) (by unfold M27.i0_s1; simp)
   have hall : (l ++ r).all okb = (!(l.any fun b => !okb b) && !(r.any fun b => !okb b)) := by
     rw [List.all_append,List.all_eq_not_any_not,List.all_eq_not_any_not]
   rw [hall]
   unfold M27.s0
   rcases k0 with ⟨a1,t,a2⟩ | ⟨a1,a2⟩
   · have a2 : iter M27.i0_s0 ⟨(l.length : Int),0,[],[],0,l,r,fv l 0,fv r 0,0,l.length,l.length,0,r.length,r.length,0,l.length,l.length,0,r.length,r.length⟩ = _ := a2
     simp only [a2,bindO,sumC,a1,Bool.not_true,Bool.false_and,Bool.false_eq_true,if_false]
   · have a2 : iter M27.i0_s0 ⟨(l.length : Int),0,[],[],0,l,r,fv l 0,fv r 0,0,l.length,l.length,0,r.length,r.length,0,l.length,l.length,0,r.length,r.length⟩ = _ := a2
     simp only [a2,bindO,sumC,a1]
     rcases k1 with ⟨b1,t,b2⟩ | ⟨b1,b2⟩
     · have b2 : iter M27.i0_s1 ⟨(r.length : Int),0,[],[],0,l,r,fv l l.length,fv r 0,0,l.length,l.length,0,r.length,r.length,0,l.length,l.length,0,r.length,r.length⟩ = _ := b2
       simp only [b2,bindO,sumC,b1]
       rfl
     · have b2 : iter M27.i0_s1 ⟨(r.length : Int),0,[],[],0,l,r,fv l l.length,fv r 0,0,l.length,l.length,0,r.length,r.length,0,l.length,l.length,0,r.length,r.length⟩ = _ := b2
       have q1 : leB (0 + l.length) (fv l l.length).length = true := by rw [fv_len (Nat.le_refl _)]; simp [leB]
       have q2 : leB (0 + r.length) (fv r r.length).length = true := by rw [fv_len (Nat.le_refl _)]; simp [leB]
       simp only [b2,bindO,sumC,b1,q1,q2,Bool.and_self,Bool.not_false,cond_true,if_true,List.drop_zero]
       rw [List.take_of_length_le (by rw [fv_len (Nat.le_refl _)]; omega),List.take_of_length_le (by rw [fv_len (Nat.le_refl _)]; omega),fv_full,fv_full]
end Cu
end Go.Proofs.Ytnmlmdlhhphcoaa
