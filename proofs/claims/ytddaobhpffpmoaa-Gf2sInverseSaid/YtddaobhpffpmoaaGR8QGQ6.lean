/-
  Gf2s: inverses (the law Gf2sInverse).
-/
import Derived.Test.YtddaobhpffpmoaaGR8QGq
import Derived.Test.YtddaobhpffpmoaaGR8QGPL
import Derived.Test.YtddaobhpffpmoaaGR8QGW5
set_option linter.all false
namespace Go.Proofs.Ytddaobhpffpmoaa
open Go.Abs
namespace Gf
theorem rdI_len {n : Nat} {R : List Bits} (hR : R.length = n) (sR : SupM n R) : (rd R (idm n) n).2.1.length = n := by
 have := (rd_inv (d := n) (S := idm n) sR (.inr (by rw [idm_length,hR])) n).1.ls
 rw [idm_length] at this
 exact this
theorem rdI_sup {n : Nat} {R : List Bits} (hR : R.length = n) (sR : SupM n R) : SupM n (rd R (idm n) n).2.1 :=
 supM_rows (rd_sup sR (idm_sup n) (.inr (by rw [idm_length,hR])) n)
theorem inv_both {n : Nat} {R : List Bits} (hR : R.length = n) (sR : SupM n R) (hf : rk n R = n) :
  mulm (rd R (idm n) n).2.1 R = idm n ∧ mulm R (rd R (idm n) n).2.1 = idm n := by
 have lS := rdI_len hR sR
 have sS := rdI_sup hR sR
 have star : ∀ x y,Sup n x → Sup n y → (app n R x = y ↔ x = app n (rd R (idm n) n).2.1 y) := fun x y hx hy => inv_app hR sR hf hx hy
 generalize (rd R (idm n) n).2.1 = S at *
 refine ⟨mat_eq (c := n) (by rw [mulm_length,idm_length,lS]) (mulm_sup sR) (idm_sup n) fun x hx => ?_,mat_eq (c := n) (by rw [mulm_length,idm_length,hR]) (mulm_sup sS) (idm_sup n) fun x hx => ?_⟩
 ·rw [mulm_app,idm_app hx,hR]
  exact ((star x _ hx (app_sup' hR x)).1 rfl).symm
 ·rw [mulm_app,idm_app hx,lS]
  exact (star _ x (app_sup' lS x) hx).2 rfl
theorem mul_full {n : Nat} {X Y : List Bits} (hX : X.length = n) (hY : Y.length = n) (sX : SupM n X) (sY : SupM n Y) (hf : rk n X = n) : rk n (mulm X Y) = n ↔ rk n Y = n := by
 rw [full_iff (by rw [mulm_length,hX]) (mulm_sup sY),full_iff hY sY]
 have k := (full_iff hX sX).1 hf
 constructor
 ·intro h x hx h0
  refine h x hx ?_
  rw [mulm_app,h0,hY]
  funext i
  rw [app_row,dot_no]
 ·intro h x hx h0
  rw [mulm_app,hY] at h0
  exact h x hx (k _ (app_sup' hY x) h0)
theorem inv_mul {n : Nat} {X Y : List Bits} (hX : X.length = n) (hY : Y.length = n) (sX : SupM n X) (sY : SupM n Y) (hfX : rk n X = n) (hfY : rk n Y = n) :
  (rd (mulm X Y) (idm n) n).2.1 = mulm (rd Y (idm n) n).2.1 (rd X (idm n) n).2.1 := by
 have lXY : (mulm X Y).length = n := by rw [mulm_length,hX]
 have sXY : SupM n (mulm X Y) := mulm_sup sY
 have hfXY := (mul_full hX hY sX sY hfX).2 hfY
 have lS := rdI_len hX sX
 have sS := rdI_sup hX sX
 have lT := rdI_len hY sY
 have lU := rdI_len lXY sXY
 refine mat_eq (c := n) (by rw [lU,mulm_length,lT]) (rdI_sup lXY sXY) (mulm_sup sS) fun z hz => ?_
 have h1 : app n X (app n (rd X (idm n) n).2.1 z) = z := (inv_app hX sX hfX (app_sup' lS z) hz).2 rfl
 have h2 : app n Y (app n (rd Y (idm n) n).2.1 (app n (rd X (idm n) n).2.1 z)) = app n (rd X (idm n) n).2.1 z := (inv_app hY sY hfY (app_sup' lT _) (app_sup' lS z)).2 rfl
 rw [mulm_app,lS]
 refine ((inv_app lXY sXY hfXY (app_sup' lT _) hz).1 ?_).symm
 rw [mulm_app,hY,h2,h1]
theorem mulW {n c : Nat} {A B : List Bits} (hn : n ≠ B.length) (hn' : n ≤ 4096) (hc : c ≤ 4096) (hA : A.length ≤ 4096) (hB : B.length ≤ 4096) (sA : SupM n A) (sB : SupM c B) :
  M39.m ⟨n,mr n A,c,mr c B⟩ = some (0,[],8) := by
 have k0 : iter M39.s0 ⟨[((n : Int),mr n A),((c : Int),mr c B)],(↑2 : Int),0,(n : Int),mr n A,(c : Int),mr c B⟩ = some (.inl ⟨(n : Int),mr n A,(c : Int),mr c B⟩) := by
  have vA := valid (R := A) hn' hA sA
  have vB := valid (R := B) hc hB sB
  have k := iter_up (step := M39.s0) (fun i => ⟨[((n : Int),mr n A),((c : Int),mr c B)],2,(i : Int),(n : Int),mr n A,(c : Int),mr c B⟩) 2 (y := .inl ⟨(n : Int),mr n A,(c : Int),mr c B⟩) (fun i hi => by
   rcases (show i = 0 ∨ i = 1 by omega) with rfl | rfl
   ·unfold M39.s0
    simp only [show decide (((0 : Nat) : Int) < 2) = true from rfl,show inR ((0 : Nat) : Int) [((n : Int),mr n A),((c : Int),mr c B)].length = true from rfl,cond_true]
    show bindO (M50.m ⟨(n : Int),mr n A⟩) _ = _
    rw [vA]
    simp only [bindO,nz,cond_false]
    rfl
   ·unfold M39.s0
    simp only [show decide (((1 : Nat) : Int) < 2) = true from rfl,show inR ((1 : Nat) : Int) [((n : Int),mr n A),((c : Int),mr c B)].length = true from rfl,cond_true]
    show bindO (M50.m ⟨(c : Int),mr c B⟩) _ = _
    rw [vB]
    simp only [bindO,nz,cond_false]
    rfl) rfl
  exact k
 have e1 : ((n : Int) != (B.length : Int)) = true := by simp; omega
 unfold M39.m
 simp only [k0,bindO,sumC,mr_length,e1,cond_true]
theorem run8 (ar ac br bc : Nat) (aa ba : List Int) : M8.m ⟨ar,ac,aa,br,bc,ba⟩ = some true := by
 obtain ⟨r,hr⟩ := small [((ar : Int),(ac : Int),aa),((br : Int),(bc : Int),ba)] (by simp)
 unfold M8.m
 simp only [hr,bindO]
 cases r with
 | false => simp only [Bool.not_false,cond_true,lives19]
 | true =>
  have h20a : M20.m ⟨(ar : Int),(ac : Int),aa⟩ = some (((ar % 10 : Nat) : Int),((ac % 140 : Nat) : Int)) := sides ar ac aa
  simp only [Bool.not_true,cond_false,h20a]
  have hm : ar % 10 ≤ 9 := by omega
  generalize ar % 10 = n at *
  obtain ⟨sX,lX,nX⟩ := rows_bits aa n n
  obtain ⟨sY,lY,nY⟩ := rows_bits ba n n
  have h23a := of23 (L := rowsN aa n n) (c := n) (by omega) (by rw [rowsN_length]; omega) (fun r hr => rowsN_row aa n n hr) (n : Int)
  have h23b := of23 (L := rowsN ba n n) (c := n) (by omega) (by rw [rowsN_length]; omega) (fun r hr => rowsN_row ba n n hr) (n : Int)
  simp only [rows' (n := n) (k := n) (ar : Int) (ac : Int) aa (by omega) (by omega),rows' (n := n) (k := n) (br : Int) (bc : Int) ba (by omega) (by omega),h23a,h23b]
  generalize (rowsN aa n n).map bt = X at *
  generalize (rowsN ba n n).map bt = Y at *
  have h26 := rank26 (c := n) (R := X) (by omega) (by omega) sX
  have hi := inv47 (n := n) (R := X) (by omega) nX sX
  have lk := rk_le sX
  simp only [hi,h26]
  by_cases hf : rk n X = n
  rotate_left
  ·have e1 : (((rk n X : Nat) : Int) == (n : Int)) = false := by simp; omega
   simp only [show rk n X < n by omega,if_true,nz,e1,cond_false]
   exact congrArg (fun o => bindO o fun y => some y) lives19
  ·have e1 : (((rk n X : Nat) : Int) == (n : Int)) = true := by simp; omega
   have e2 : ¬ rk n X < n := by omega
   have z0 : ((0 : Int) == 0) = true := rfl
   have lS := rdI_len nX sX
   have sS := rdI_sup nX sX
   obtain ⟨ml,mr_⟩ := inv_both nX sX hf
   have hl := mul (n := n) (c := n) (A := (rd X (idm n) n).2.1) (B := X) nX.symm (by omega) (by omega) (by omega) sS sX
   have hrr := mul (n := n) (c := n) (A := X) (B := (rd X (idm n) n).2.1) lS.symm (by omega) (by omega) (by omega) sX sS
   have hxy := mul (n := n) (c := n) (A := X) (B := Y) nY.symm (by omega) (by omega) (by omega) sX sY
   have ml : ((rd X (idm n) n).2.1.map fun a => mulr a X) = idm n := ml
   have mr_ : (X.map fun a => mulr a (rd X (idm n) n).2.1) = idm n := mr_
   rw [ml] at hl
   rw [mr_] at hrr
   have hone := one45 (n := n) (by omega)
   have hiY := inv47 (n := n) (R := Y) (by omega) nY sY
   have lXY : (mulm X Y).length = n := by rw [mulm_length,nX]
   have sXY : SupM n (mulm X Y) := mulm_sup sY
   have hiXY := inv47 (n := n) (R := mulm X Y) (by omega) lXY sXY
   have hxy : M39.m ⟨n,mr n X,n,mr n Y⟩ = some ((n : Int),mr n (mulm X Y),0) := hxy
   have q1 := same (c := n) (A := idm n) (by omega) (by rw [idm_length]; omega)
   have el : (((mr n (rd X (idm n) n).2.1).length : Nat) : Int) = (n : Int) := by rw [mr_length,lS]
   have nn : ((n : Int) == (n : Int)) = true := by simp
   simp only [e2,if_false,nz,e1,z0,cond_false,hl,hrr,hxy,hone,hiY,hiXY,el,nn,cond_true,q1,Bool.not_true,BEq.rfl,cond_false]
   by_cases hY : rk n Y = n
   ·have hXY := (mul_full nX nY sX sY hf).2 hY
    have lT := rdI_len nY sY
    have sT := rdI_sup nY sY
    have ha := mul (n := n) (c := n) (A := (rd Y (idm n) n).2.1) (B := (rd X (idm n) n).2.1) lS.symm (by omega) (by omega) (by omega) sT sS
    have hm := inv_mul nX nY sX sY hf hY
    have hm : (rd (mulm X Y) (idm n) n).2.1 = ((rd Y (idm n) n).2.1.map fun a => mulr a (rd X (idm n) n).2.1) := hm
    have q2 := same (c := n) (A := (rd Y (idm n) n).2.1.map fun a => mulr a (rd X (idm n) n).2.1) (by omega) (by rw [List.length_map]; omega)
    have e3 : ¬ rk n Y < n := by omega
    have e4 : ¬ rk n (mulm X Y) < n := by omega
    simp only [e3,e4,if_false,ha,hm,nz,BEq.rfl,Bool.not_false,Bool.and_self,cond_true,q2,lives19,cond_false]
   ·have hXY : rk n (mulm X Y) ≠ n := fun e => hY ((mul_full nX nY sX sY hf).1 e)
    have e3 : rk n Y < n := by have := rk_le sY; omega
    have e4 : rk n (mulm X Y) < n := by have := rk_le sXY; omega
    have hw := mulW (n := 0) (c := n) (A := []) (B := (rd X (idm n) n).2.1) (by omega) (by omega) (by omega) (by simp) (by omega) (fun _ h => by cases h) sS
    have hw : M39.m ⟨0,[],n,mr n (rd X (idm n) n).2.1⟩ = some (0,[],8) := hw
    have n9 : ((9 : Int) != 0) = true := rfl
    simp only [e3,e4,if_true,hw,n9,BEq.rfl,Bool.not_true,Bool.and_false,cond_true,lives19,cond_false]
theorem run8' {ar ac br bc : Int} (aa ba : List Int) (h1 : 0 ≤ ar) (h2 : 0 ≤ ac) (h3 : 0 ≤ br) (h4 : 0 ≤ bc) : M8.m ⟨ar,ac,aa,br,bc,ba⟩ = some true := by
 obtain ⟨ar,rfl⟩ := Int.eq_ofNat_of_zero_le h1
 obtain ⟨ac,rfl⟩ := Int.eq_ofNat_of_zero_le h2
 obtain ⟨br,rfl⟩ := Int.eq_ofNat_of_zero_le h3
 obtain ⟨bc,rfl⟩ := Int.eq_ofNat_of_zero_le h4
 exact run8 ar ac br bc aa ba
end Gf
end Go.Proofs.Ytddaobhpffpmoaa
