/-
  Gf2s: the ring of matrices, ranks (the law Gf2sRing).
-/
import Derived.Test.YtddaobhpffpmoaaGR7QGQ8
import Derived.Test.YtddaobhpffpmoaaGR7QGW4
set_option linter.all false
namespace Go.Proofs.Ytddaobhpffpmoaa
open Go.Abs
namespace Gf
theorem mulm_assoc {k o : Nat} {X Y Z : List Bits} (hZ : Z.length = k) (sZ : SupM o Z) : mulm (mulm X Y) Z = mulm X (mulm Y Z) := by
 refine mat_eq (c := o) (by rw [mulm_length,mulm_length,mulm_length]) (mulm_sup sZ) (mulm_sup (mulm_sup sZ)) fun w hw => ?_
 rw [mulm_app,hZ,mulm_app,mulm_app,mulm_length,mulm_app,hZ]
theorem mulm_one {m : Nat} {X : List Bits} (sX : SupM m X) : mulm X (idm m) = X := by
 refine mat_eq (c := m) (by rw [mulm_length]) (mulm_sup (idm_sup m)) sX fun w hw => ?_
 rw [mulm_app,idm_length,idm_app hw]
theorem tr_row (c : Nat) (R : List Bits) {i : Nat} (h : i < c) : row (tr c R) i = col R i := by
 unfold row tr
 rw [List.getElem?_map,List.getElem?_range h]; rfl
theorem tr_mulm {k m : Nat} {X Y : List Bits} (hY : Y.length = m) : tr k (mulm X Y) = mulm (tr k Y) (tr m X) := by
 refine rows_eq (by rw [tr_length,mulm_length,tr_length]) fun i hi => ?_
 rw [tr_length] at hi
 rw [tr_row k _ hi,mulm_row,tr_row k _ hi]
 funext j
 rw [col_row,mulm_row,mulr_dot,mulr_dot,hY,tr_length,dot_comm]
 refine dot_congr fun t ht => ?_
 rw [col_row,tr_row m _ ht,col_row]
theorem tr_tr {m n : Nat} {X : List Bits} (hX : X.length = n) (sX : SupM m X) : tr n (tr m X) = X := by
 refine rows_eq (by rw [tr_length,hX]) fun i hi => ?_
 rw [tr_length] at hi
 rw [tr_row n _ hi]
 refine bits_eq (n := m) (fun t ht => ?_) (row_sup sX i) fun t ht => ?_
 ·rw [col_row,row_out (by rw [tr_length]; exact ht)]
 ·rw [col_row,tr_row m _ ht,col_row]
theorem rk_factor {c t : Nat} {X A B : List Bits} (sX : SupM c X) (hB : B.length = t) (h : ∀ w,app c X w = app t A (app c B w)) : rk c X ≤ t := by
 have inv := (rd_inv (d := 0) (S := []) sX (.inl rfl) c).1
 have kapp : ∀ w,app c X w = (fun _ => false) → ∀ i,dot c (row (rd X [] c).1 i) w = false := fun w => (kernel_app sX w).1
 have hr : rk c X = (rd X [] c).2.2.length := rfl
 rw [hr]
 generalize rd X [] c = st at *
 obtain ⟨R',S',ps⟩ := st
 simp only at kapp ⊢
 refine Nat.le_of_not_lt fun hlt => ?_
 have inj : ∀ u v,u < 2 ^ ps.length → v < 2 ^ ps.length → nb (app c B (cmb (fun _ => false) (tb u) ps ps.length)) t = nb (app c B (cmb (fun _ => false) (tb v) ps ps.length)) t → u = v := fun u v hu hv e => by
  have e1 : app c B (cmb (fun _ => false) (tb u) ps ps.length) = app c B (cmb (fun _ => false) (tb v) ps ps.length) := by
   rw [← tb_nb t (app_sup' hB (cmb (fun _ => false) (tb u) ps ps.length)),e,tb_nb t (app_sup' hB _)]
  have e2 := kapp (xr (cmb (fun _ => false) (tb u) ps ps.length) (cmb (fun _ => false) (tb v) ps ps.length)) (by rw [app_xr,h,h,e1,xr_self])
  have e3 : tb u = tb v := bits_eq (tb_sup hu) (tb_sup hv) fun i hi => by
   have := e2 i
   rw [dot_xr,comb_dot inv,comb_dot inv] at this
   have hd : decide (i < ps.length) = true := by simpa using hi
   rw [hd,Bool.true_and,Bool.true_and] at this
   simpa using this
  rw [← nb_tb hu,← nb_tb hv,e3]
 have a2 : ((List.range (2 ^ ps.length)).map fun u => nb (app c B (cmb (fun _ => false) (tb u) ps ps.length)) t).Nodup := by
  refine List.pairwise_map.2 ?_
  refine List.Pairwise.imp_of_mem ?_ (List.nodup_range (n := 2 ^ ps.length))
  intro u v hu hv hne he
  exact hne (inj u v (List.mem_range.1 hu) (List.mem_range.1 hv) he)
 have := nodup_le a2 (k := List.range (2 ^ t)) fun s hs => by
  obtain ⟨u,_,rfl⟩ := List.mem_map.1 hs
  exact List.mem_range.2 (nb_lt _ _)
 rw [List.length_map,List.length_range,List.length_range] at this
 have := Nat.pow_lt_pow_right (a := 2) (by omega) hlt
 omega
theorem factor {c : Nat} {X : List Bits} (sX : SupM c X) : ∃ A B : List Bits,A.length = X.length ∧ B.length = rk c X ∧ X = mulm A B := by
 obtain ⟨inv,eqs⟩ := rd_inv (d := 0) (S := []) sX (.inl rfl) c
 have kz : ∀ f,f < c → app c X (kv (rd X [] c).1 (rd X [] c).2.2 f) = fun _ => false := fun f hf => kernel_zero sX hf
 have hr : rk c X = (rd X [] c).2.2.length := rfl
 rw [hr]
 generalize rd X [] c = st at *
 obtain ⟨R',S',ps⟩ := st
 simp only at kz ⊢
 have l1 : R'.length = X.length := inv.lr
 have l3 : ps.length ≤ X.length := inv.lt
 have own : ∀ p,p < ps.length → ∀ j,row R' j (pv ps p) = (j == p) := inv.own
 have hp : ∀ p,p < ps.length → pv ps p < c := inv.lk
 have lB : (R'.take ps.length).length = ps.length := by rw [List.length_take]; omega
 have rB : ∀ s,s < ps.length → row (R'.take ps.length) s = row R' s := fun s hs => by
  unfold row
  rw [List.getElem?_take_of_lt hs]
 have sB : SupM c (R'.take ps.length) := supM_rows fun i => by
  rcases Nat.lt_or_ge i ps.length with hi | hi
  ·rw [rB i hi]; exact inv.sup i
  ·rw [row_out (by rw [lB]; exact hi)]; exact fun _ _ => rfl
 refine ⟨(List.range X.length).map fun i => fun s => decide (s < ps.length) && row X i (pv ps s),R'.take ps.length,by simp,lB,?_⟩
 refine rows_eq (by rw [mulm_length]; simp) fun i hi => ?_
 have ra : row ((List.range X.length).map fun i => fun s => decide (s < ps.length) && row X i (pv ps s)) i = fun s => decide (s < ps.length) && row X i (pv ps s) := by
  unfold row
  rw [List.getElem?_map,List.getElem?_range hi]; rfl
 rw [mulm_row,ra]
 refine eq_of_xr ?_
 have sw : Sup c (xr (row X i) (mulr (fun s => decide (s < ps.length) && row X i (pv ps s)) (R'.take ps.length))) := sup_xr (row_sup sX i) (xs_sup sB _)
 have piv : ∀ p,p < ps.length → xr (row X i) (mulr (fun s => decide (s < ps.length) && row X i (pv ps s)) (R'.take ps.length)) (pv ps p) = false := fun p hpl => by
  show Bool.xor _ _ = false
  rw [mulr_dot,lB,dot_one (j := p) fun s hs hne => by
   rw [col_row,rB s hs,own p hpl]
   have : (s == p) = false := by simp [hne]
   rw [this,Bool.and_false]]
  rw [col_row,rB p hpl,own p hpl]
  simp [hpl]
 refine bits_eq sw (fun _ _ => rfl) fun j hj => ?_
 by_cases hm : j ∈ ps
 ·obtain ⟨p,hpl,rfl⟩ := mem_pv.1 hm
  exact piv p hpl
 ·have k1 : dot c (xr (row X i) (mulr (fun s => decide (s < ps.length) && row X i (pv ps s)) (R'.take ps.length))) (kv R' ps j) = false := by
   rw [xr_dot,mulr_app,lB,← app_row,kz j hj]
   have : dot ps.length (fun s => decide (s < ps.length) && row X i (pv ps s)) (fun t => dot c (row (R'.take ps.length) t) (kv R' ps j)) = false := by
    rw [dot_congr (b := fun _ => false) fun s hs => by rw [rB s hs]; exact kv_dot inv hj s]
    exact dot_no _ _
   rw [this]; rfl
  unfold kv at k1
  rw [dot_cmb hp,dot_un _ hj,par_zero fun p hpl => by rw [piv p hpl,Bool.and_false],Bool.xor_false] at k1
  exact k1
theorem rk_mul_left {m k : Nat} {X Y : List Bits} (hY : Y.length = m) (sX : SupM m X) (sY : SupM k Y) : rk k (mulm X Y) ≤ rk m X := by
 obtain ⟨A,B,_,lB,e⟩ := factor sX
 refine rk_factor (A := A) (B := mulm B Y) (mulm_sup sY) (by rw [mulm_length,lB]) fun w => ?_
 rw [mulm_app,mulm_app,hY]
 conv => lhs; rw [e]
 rw [mulm_app,lB]
theorem rk_mul_right {m k : Nat} {X Y : List Bits} (hY : Y.length = m) (sY : SupM k Y) : rk k (mulm X Y) ≤ rk k Y := by
 obtain ⟨A,B,lA,lB,e⟩ := factor sY
 refine rk_factor (A := mulm X A) (B := B) (mulm_sup sY) lB fun w => ?_
 rw [mulm_app,mulm_app,lA]
 conv => lhs; arg 3; rw [e]
 rw [mulm_app,lB]
theorem rk_tr_le {m n : Nat} {X : List Bits} (hX : X.length = n) (sX : SupM m X) : rk n (tr m X) ≤ rk m X := by
 obtain ⟨A,B,lA,lB,e⟩ := factor sX
 have e2 : tr m X = mulm (tr m B) (tr (rk m X) A) := by
  conv => lhs; rw [e]
  exact tr_mulm lB
 refine rk_factor (A := tr m B) (B := tr (rk m X) A) (hX ▸ tr_sup m X) (by rw [tr_length]) fun w => ?_
 conv => lhs; rw [e2]
 rw [mulm_app,tr_length]
theorem rk_tr {m n : Nat} {X : List Bits} (hX : X.length = n) (sX : SupM m X) : rk n (tr m X) = rk m X := by
 refine Nat.le_antisymm (rk_tr_le hX sX) ?_
 have := rk_tr_le (n := m) (m := n) (X := tr m X) (tr_length _ _) (hX ▸ tr_sup m X)
 rw [tr_tr hX sX] at this
 exact this
theorem run7 (ar ac br bc cr cc : Nat) (aa ba ca : List Int) : M7.m ⟨ar,ac,aa,br,bc,ba,cr,cc,ca⟩ = some true := by
 obtain ⟨r,hr⟩ := small [((ar : Int),(ac : Int),aa),((br : Int),(bc : Int),ba),((cr : Int),(cc : Int),ca)] (by simp)
 unfold M7.m
 simp only [hr,bindO]
 cases r with
 | false => simp only [Bool.not_false,cond_true,lives19]
 | true =>
  have h20a : M20.m ⟨(ar : Int),(ac : Int),aa⟩ = some (((ar % 10 : Nat) : Int),((ac % 140 : Nat) : Int)) := sides ar ac aa
  have h20b : M20.m ⟨(br : Int),(bc : Int),ba⟩ = some (((br % 10 : Nat) : Int),((bc % 140 : Nat) : Int)) := sides br bc ba
  have ea : Int.tmod ((ac % 140 : Nat) : Int) 12 = ((ac % 140 % 12 : Nat) : Int) := rfl
  have eb : Int.tmod ((bc % 140 : Nat) : Int) 12 = ((bc % 140 % 12 : Nat) : Int) := rfl
  simp only [Bool.not_true,cond_false,h20a,h20b,ea,eb]
  have hn : ar % 10 ≤ 9 := by omega
  have hm : ac % 140 % 12 ≤ 11 := by omega
  have hk : br % 10 ≤ 9 := by omega
  have ho : bc % 140 % 12 ≤ 11 := by omega
  generalize ar % 10 = n at *
  generalize ac % 140 % 12 = m at *
  generalize br % 10 = k at *
  generalize bc % 140 % 12 = o at *
  obtain ⟨sX,_,nX⟩ := rows_bits aa n m
  obtain ⟨sY,_,nY⟩ := rows_bits ba m k
  obtain ⟨sZ,_,nZ⟩ := rows_bits ca k o
  have h23a := of23 (L := rowsN aa n m) (c := m) (by omega) (by rw [rowsN_length]; omega) (fun r hr => rowsN_row aa n m hr) (m : Int)
  have h23b := of23 (L := rowsN ba m k) (c := k) (by omega) (by rw [rowsN_length]; omega) (fun r hr => rowsN_row ba m k hr) (k : Int)
  have h23c := of23 (L := rowsN ca k o) (c := o) (by omega) (by rw [rowsN_length]; omega) (fun r hr => rowsN_row ca k o hr) (o : Int)
  simp only [rows' (n := n) (k := m) (ar : Int) (ac : Int) aa (by omega) (by omega),rows' (n := m) (k := k) (br : Int) (bc : Int) ba (by omega) (by omega),rows' (n := k) (k := o) (cr : Int) (cc : Int) ca (by omega) (by omega),h23a,h23b,h23c]
  generalize (rowsN aa n m).map bt = X at *
  generalize (rowsN ba m k).map bt = Y at *
  generalize (rowsN ca k o).map bt = Z at *
  have sXY : SupM k (mulm X Y) := mulm_sup sY
  have sYZ : SupM o (mulm Y Z) := mulm_sup sZ
  have lXY : (mulm X Y).length = n := by rw [mulm_length,nX]
  have lYZ : (mulm Y Z).length = m := by rw [mulm_length,nY]
  have m1 : M39.m ⟨m,mr m X,k,mr k Y⟩ = some ((k : Int),mr k (mulm X Y),0) := mul (n := m) (c := k) (A := X) (B := Y) nY.symm (by omega) (by omega) (by omega) sX sY
  have m2 : M39.m ⟨k,mr k Y,o,mr o Z⟩ = some ((o : Int),mr o (mulm Y Z),0) := mul (n := k) (c := o) (A := Y) (B := Z) nZ.symm (by omega) (by omega) (by omega) sY sZ
  have m3 : M39.m ⟨k,mr k (mulm X Y),o,mr o Z⟩ = some ((o : Int),mr o (mulm (mulm X Y) Z),0) := mul (n := k) (c := o) (A := mulm X Y) (B := Z) nZ.symm (by omega) (by omega) (by omega) sXY sZ
  have m4 : M39.m ⟨m,mr m X,o,mr o (mulm Y Z)⟩ = some ((o : Int),mr o (mulm X (mulm Y Z)),0) := mul (n := m) (c := o) (A := X) (B := mulm Y Z) lYZ.symm (by omega) (by omega) (by omega) sX sYZ
  have m5 := one45 (n := m) (by omega)
  have m6 : M39.m ⟨m,mr m X,m,mr m (idm m)⟩ = some ((m : Int),mr m (mulm X (idm m)),0) := mul (n := m) (c := m) (A := X) (B := idm m) (idm_length m).symm (by omega) (by omega) (by omega) sX (idm_sup m)
  rw [mulm_assoc nZ sZ] at m3
  rw [mulm_one sX] at m6
  have t1 := turn40 (c := m) (R := X) (by omega) (by omega) sX
  have t2 := turn40 (c := k) (R := Y) (by omega) (by omega) sY
  have t3 := turn40 (c := k) (R := mulm X Y) (by omega) (by omega) sXY
  have stX := tr_sup m X
  have stY := tr_sup k Y
  rw [nX] at t1 stX
  rw [nY] at t2 stY
  rw [lXY,tr_mulm nY] at t3
  have m7 : M39.m ⟨m,mr m (tr k Y),n,mr n (tr m X)⟩ = some ((n : Int),mr n (mulm (tr k Y) (tr m X)),0) := mul (n := m) (c := n) (A := tr k Y) (B := tr m X) (tr_length m X).symm (by omega) (by omega) (by rw [tr_length]; omega) stY stX
  have q1 := same (c := o) (A := mulm X (mulm Y Z)) (by omega) (by rw [mulm_length]; omega)
  have q2 := same (c := m) (A := X) (by omega) (by omega)
  have q3 := same (c := n) (A := mulm (tr k Y) (tr m X)) (by omega) (by rw [mulm_length,tr_length]; omega)
  have r1 := rank26 (c := m) (R := X) (by omega) (by omega) sX
  have r2 := rank26 (c := n) (R := tr m X) (by omega) (by rw [tr_length]; omega) stX
  have r3 := rank26 (c := k) (R := mulm X Y) (by omega) (by omega) sXY
  have r4 := rank26 (c := k) (R := Y) (by omega) (by omega) sY
  rw [rk_tr nX sX] at r2
  have el : (((mr o (mulm X (mulm Y Z))).length : Nat) : Int) = (n : Int) := by rw [mr_length,mulm_length,nX]
  have d1 : decide (((rk k (mulm X Y) : Nat) : Int) ≤ ((rk m X : Nat) : Int)) = true := decide_eq_true (Int.ofNat_le.2 (rk_mul_left nY sX sY))
  have d2 : decide (((rk k (mulm X Y) : Nat) : Int) ≤ ((rk k Y : Nat) : Int)) = true := decide_eq_true (Int.ofNat_le.2 (rk_mul_right nY sY))
  simp only [m1,m2,m3,m4,m5,m6,t1,t2,t3,m7,nz,cond_false,Bool.not_false,cond_true,q1,q2,q3,Bool.not_true,el,neq_self,r1,r2,r3,r4,BEq.rfl,d1,d2,lives19]
theorem run7' {ar ac br bc cr cc : Int} (aa ba ca : List Int) (h1 : 0 ≤ ar) (h2 : 0 ≤ ac) (h3 : 0 ≤ br) (h4 : 0 ≤ bc) (h5 : 0 ≤ cr) (h6 : 0 ≤ cc) : M7.m ⟨ar,ac,aa,br,bc,ba,cr,cc,ca⟩ = some true := by
 obtain ⟨ar,rfl⟩ := Int.eq_ofNat_of_zero_le h1
 obtain ⟨ac,rfl⟩ := Int.eq_ofNat_of_zero_le h2
 obtain ⟨br,rfl⟩ := Int.eq_ofNat_of_zero_le h3
 obtain ⟨bc,rfl⟩ := Int.eq_ofNat_of_zero_le h4
 obtain ⟨cr,rfl⟩ := Int.eq_ofNat_of_zero_le h5
 obtain ⟨cc,rfl⟩ := Int.eq_ofNat_of_zero_le h6
 exact run7 ar ac br bc cr cc aa ba ca
end Gf
end Go.Proofs.Ytddaobhpffpmoaa
