/-
  What the proof stands on.
-/
import Derived.Test.YtddaobhpffpmoaaGRAQGq
import Derived.Test.YtddaobhpffpmoaaGRAQGW5
import Derived.Test.YtddaobhpffpmoaaGRAQGW4
import Derived.Test.YtddaobhpffpmoaaGRAQGW8
import Derived.Test.YtddaobhpffpmoaaGRAQGX2
set_option linter.all false
namespace Go.Proofs.Ytddaobhpffpmoaa
open Go.Abs
namespace Gf
theorem Kc{n:Nat}{R:List Q7}(hR:R.length=n)(sR:Ql n R):(rd R (idm n) n).2.1.length=n:=by
 have:=(JP (d:=n) (S:=idm n) sR (.inr (by rw[Qj,hR])) n).1.ls
 rw[Qj]at this
 exact this
theorem Wv{n:Nat}{R:List Q7}(hR:R.length=n)(sR:Ql n R):Ql n (rd R (idm n) n).2.1:=
 supM_rows (rd_sup sR (UB n) (.inr (by rw[Qj,hR])) n)
theorem inv_both{n:Nat}{R:List Q7}(hR:R.length=n)(sR:Ql n R)(hf:rk n R=n):
  J7 (rd R (idm n) n).2.1 R=idm n∧J7 R (rd R (idm n) n).2.1=idm n:=by
 have lS:=Kc hR sR
 have sS:=Wv hR sR
 have star:∀x y,Sup n x→Sup n y→(app n R x=y↔x=app n (rd R (idm n) n).2.1 y):=fun x y hx hy=>U8 hR sR hf hx hy
 generalize (rd R (idm n) n).2.1=S at*
 refine⟨qe (c:=n) (by rw[Qe,Qj,lS]) (Ja sR) (UB n) fun x hx=> ?_,qe (c:=n) (by rw[Qe,Qj,hR]) (Ja sS) (UB n) fun x hx=> ?_⟩
 ·rw[JC,idm_app hx,hR]
  exact((star x _ hx (app_sup' hR x)).1 rfl).symm
 ·rw[JC,idm_app hx,lS]
  exact(star _ x (app_sup' lS x) hx).2 rfl
theorem qa{n:Nat}{X Y:List Q7}(hX:X.length=n)(hY:Y.length=n)(sX:Ql n X)(sY:Ql n Y)(hf:rk n X=n):rk n (J7 X Y)=n↔rk n Y=n:=by
 rw[ql (by rw[Qe,hX]) (Ja sY),ql hY sY]
 have k:=(ql hX sX).1 hf
 constructor
 ·intro h x hx h0
  refine h x hx ?_
  rw[JC,h0,hY]
  funext i
  rw[J9,VA]
 ·intro h x hx h0
  rw[JC,hY]at h0
  exact h x hx (k _ (app_sup' hY x) h0)
theorem inv_mul{n:Nat}{X Y:List Q7}(hX:X.length=n)(hY:Y.length=n)(sX:Ql n X)(sY:Ql n Y)(hfX:rk n X=n)(hfY:rk n Y=n):
  (rd (J7 X Y) (idm n) n).2.1=J7 (rd Y (idm n) n).2.1 (rd X (idm n) n).2.1:=by
 have lXY:(J7 X Y).length=n:=by rw[Qe,hX]
 have sXY:Ql n (J7 X Y):=Ja sY
 have hfXY:=(qa hX hY sX sY hfX).2 hfY
 have lS:=Kc hX sX
 have sS:=Wv hX sX
 have lT:=Kc hY sY
 have lU:=Kc lXY sXY
 refine qe (c:=n) (by rw[lU,Qe,lT]) (Wv lXY sXY) (Ja sS) fun z hz=> ?_
 have h1:app n X (app n (rd X (idm n) n).2.1 z)=z:=(U8 hX sX hfX (app_sup' lS z) hz).2 rfl
 have h2:app n Y (app n (rd Y (idm n) n).2.1 (app n (rd X (idm n) n).2.1 z))=app n (rd X (idm n) n).2.1 z:=(U8 hY sY hfY (app_sup' lT _) (app_sup' lS z)).2 rfl
 rw[JC,lS]
 refine((U8 lXY sXY hfXY (app_sup' lT _) hz).1 ?_).symm
 rw[JC,hY,h2,h1]
theorem mulW{n c:Nat}{A B:List Q7}(hn:n≠B.length)(hn':n≤4096)(hc:c≤4096)(hA:A.length≤4096)(hB:B.length≤4096)(sA:Ql n A)(sB:Ql c B):
  M39.m ⟨n,mr n A,c,mr c B⟩=some (0,[],8):=by
 have k0:iter M39.s0 ⟨[((n:Int),mr n A),((c:Int),mr c B)],(↑2:Int),0,(n:Int),mr n A,(c:Int),mr c B⟩=some (.inl ⟨(n:Int),mr n A,(c:Int),mr c B⟩):=by
  have vA:=valid (R:=A) hn' hA sA
  have vB:=valid (R:=B) hc hB sB
  have k:=QR (step:=M39.s0) (fun i=>⟨[((n:Int),mr n A),((c:Int),mr c B)],2,(i:Int),(n:Int),mr n A,(c:Int),mr c B⟩) 2 (y:=.inl ⟨(n:Int),mr n A,(c:Int),mr c B⟩) (fun i hi=>by
   rcases (show i=0∨i=1 by omega) with rfl|rfl
   ·unfold M39.s0
    simp only[show decide (((0:Nat):Int)<2)=true from rfl,show inR ((0:Nat):Int) [((n:Int),mr n A),((c:Int),mr c B)].length=true from rfl,cond_true]
    show Q0 (M50.m ⟨(n:Int),mr n A⟩) _=_
    rw[vA]
    simp only[Q0,nz,cond_false]
    rfl
   ·unfold M39.s0
    simp only[show decide (((1:Nat):Int)<2)=true from rfl,show inR ((1:Nat):Int) [((n:Int),mr n A),((c:Int),mr c B)].length=true from rfl,cond_true]
    show Q0 (M50.m ⟨(c:Int),mr c B⟩) _=_
    rw[vB]
    simp only[Q0,nz,cond_false]
    rfl) rfl
  exact k
 have e1:((n:Int) !=(B.length:Int))=true:=by simp;omega
 unfold M39.m
 simp only[k0,Q0,J6,Q6,e1,cond_true]
theorem run8(ar ac br bc:Nat)(aa ba:List Int):M8.m ⟨ar,ac,aa,br,bc,ba⟩=some true:=by
 obtain⟨r,hr⟩:=small [((ar:Int),(ac:Int),aa),((br:Int),(bc:Int),ba)] (by simp)
 unfold M8.m
 simp only[hr,Q0]
 cases r with
 |false=>simp only[Bool.not_false,cond_true,JJ]
 |true=>
  have h20a:M20.m ⟨(ar:Int),(ac:Int),aa⟩=some (((ar%10:Nat):Int),((ac%140:Nat):Int)):=VH ar ac aa
  simp only[Bool.not_true,cond_false,h20a]
  have hm:ar%10≤9:=by omega
  generalize ar%10=n at*
  obtain⟨sX,lX,nX⟩:=XF aa n n
  obtain⟨sY,lY,nY⟩:=XF ba n n
  have h23a:=of23 (L:=rowsN aa n n) (c:=n) (by omega) (by rw[Qp];omega) (fun r hr=>JY aa n n hr) (n:Int)
  have h23b:=of23 (L:=rowsN ba n n) (c:=n) (by omega) (by rw[Qp];omega) (fun r hr=>JY ba n n hr) (n:Int)
  simp only[rows' (n:=n) (k:=n) (ar:Int) (ac:Int) aa (by omega) (by omega),rows' (n:=n) (k:=n) (br:Int) (bc:Int) ba (by omega) (by omega),h23a,h23b]
  generalize (rowsN aa n n).map bt=X at*
  generalize (rowsN ba n n).map bt=Y at*
  have h26:=K8 (c:=n) (R:=X) (by omega) (by omega) sX
  have hi:=inv47 (n:=n) (R:=X) (by omega) nX sX
  have lk:=rk_le sX
  simp only[hi,h26]
  by_cases hf:rk n X=n
  rotate_left
  ·have e1:(((rk n X:Nat):Int)==(n:Int))=false:=by simp;omega
   simp only[show rk n X<n by omega,if_true,nz,e1,cond_false]
   exact congrArg (fun o=>Q0 o fun y=>some y) JJ
  ·have e1:(((rk n X:Nat):Int)==(n:Int))=true:=by simp;omega
   have e2:¬rk n X<n:=by omega
   have z0:((0:Int)==0)=true:=rfl
   have lS:=Kc nX sX
   have sS:=Wv nX sX
   obtain⟨ml,mr_⟩:=inv_both nX sX hf
   have hl:=mul (n:=n) (c:=n) (A:=(rd X (idm n) n).2.1) (B:=X) nX.symm (by omega) (by omega) (by omega) sS sX
   have hrr:=mul (n:=n) (c:=n) (A:=X) (B:=(rd X (idm n) n).2.1) lS.symm (by omega) (by omega) (by omega) sX sS
   have hxy:=mul (n:=n) (c:=n) (A:=X) (B:=Y) nY.symm (by omega) (by omega) (by omega) sX sY
   have ml:((rd X (idm n) n).2.1.map fun a=>Jq a X)=idm n:=ml
   have mr_:(X.map fun a=>Jq a (rd X (idm n) n).2.1)=idm n:=mr_
   rw[ml]at hl
   rw[mr_]at hrr
   have hone:=one45 (n:=n) (by omega)
   have hiY:=inv47 (n:=n) (R:=Y) (by omega) nY sY
   have lXY:(J7 X Y).length=n:=by rw[Qe,nX]
   have sXY:Ql n (J7 X Y):=Ja sY
   have hiXY:=inv47 (n:=n) (R:=J7 X Y) (by omega) lXY sXY
   have hxy:M39.m ⟨n,mr n X,n,mr n Y⟩=some ((n:Int),mr n (J7 X Y),0):=hxy
   have q1:=same (c:=n) (A:=idm n) (by omega) (by rw[Qj];omega)
   have el:(((mr n (rd X (idm n) n).2.1).length:Nat):Int)=(n:Int):=by rw[Q6,lS]
   have nn:((n:Int)==(n:Int))=true:=by simp
   simp only[e2,if_false,nz,e1,z0,cond_false,hl,hrr,hxy,hone,hiY,hiXY,el,nn,cond_true,q1,Bool.not_true,BEq.rfl,cond_false]
   by_cases hY:rk n Y=n
   ·have hXY:=(qa nX nY sX sY hf).2 hY
    have lT:=Kc nY sY
    have sT:=Wv nY sY
    have ha:=mul (n:=n) (c:=n) (A:=(rd Y (idm n) n).2.1) (B:=(rd X (idm n) n).2.1) lS.symm (by omega) (by omega) (by omega) sT sS
    have hm:=inv_mul nX nY sX sY hf hY
    have hm:(rd (J7 X Y) (idm n) n).2.1=((rd Y (idm n) n).2.1.map fun a=>Jq a (rd X (idm n) n).2.1):=hm
    have q2:=same (c:=n) (A:=(rd Y (idm n) n).2.1.map fun a=>Jq a (rd X (idm n) n).2.1) (by omega) (by rw[List.length_map];omega)
    have e3:¬rk n Y<n:=by omega
    have e4:¬rk n (J7 X Y)<n:=by omega
    simp only[e3,e4,if_false,ha,hm,nz,BEq.rfl,Bool.not_false,Bool.and_self,cond_true,q2,JJ,cond_false]
   ·have hXY:rk n (J7 X Y)≠n:=fun e=>hY ((qa nX nY sX sY hf).1 e)
    have e3:rk n Y<n:=by have:=rk_le sY;omega
    have e4:rk n (J7 X Y)<n:=by have:=rk_le sXY;omega
    have hw:=mulW (n:=0) (c:=n) (A:=[]) (B:=(rd X (idm n) n).2.1) (by omega) (by omega) (by omega) (by simp) (by omega) (fun _ h=>by cases h) sS
    have hw:M39.m ⟨0,[],n,mr n (rd X (idm n) n).2.1⟩=some (0,[],8):=hw
    have n9:((9:Int) !=0)=true:=rfl
    simp only[e3,e4,if_true,hw,n9,BEq.rfl,Bool.not_true,Bool.and_false,cond_true,JJ,cond_false]
theorem run8'{ar ac br bc:Int}(aa ba:List Int)(h1:0≤ar)(h2:0≤ac)(h3:0≤br)(h4:0≤bc):M8.m ⟨ar,ac,aa,br,bc,ba⟩=some true:=by
 obtain⟨ar,rfl⟩:=Int.eq_ofNat_of_zero_le h1
 obtain⟨ac,rfl⟩:=Int.eq_ofNat_of_zero_le h2
 obtain⟨br,rfl⟩:=Int.eq_ofNat_of_zero_le h3
 obtain⟨bc,rfl⟩:=Int.eq_ofNat_of_zero_le h4
 exact run8 ar ac br bc aa ba
end Gf
end Go.Proofs.Ytddaobhpffpmoaa
namespace Go.Proofs.Ytddaobhpffpmoaa
open Go.Abs
namespace Gf
theorem mulm_assoc{k o:Nat}{X Y Z:List Q7}(hZ:Z.length=k)(sZ:Ql o Z):J7 (J7 X Y) Z=J7 X (J7 Y Z):=by
 refine qe (c:=o) (by rw[Qe,Qe,Qe]) (Ja sZ) (Ja (Ja sZ)) fun w hw=> ?_
 rw[JC,hZ,JC,JC,Qe,JC,hZ]
theorem mulm_one{m:Nat}{X:List Q7}(sX:Ql m X):J7 X (idm m)=X:=by
 refine qe (c:=m) (by rw[Qe]) (Ja (UB m)) sX fun w hw=> ?_
 rw[JC,Qj,idm_app hw]
theorem Vz(c:Nat)(R:List Q7){i:Nat}(h:i<c):row (tr c R) i=col R i:=by
 unfold row tr
 rw[List.getElem?_map,List.getElem?_range h];rfl
theorem tr_mulm{k m:Nat}{X Y:List Q7}(hY:Y.length=m):tr k (J7 X Y)=J7 (tr k Y) (tr m X):=by
 refine VY (by rw[Qi,Qe,Qi]) fun i hi=> ?_
 rw[Qi]at hi
 rw[Vz k _ hi,Wz,Vz k _ hi]
 funext j
 rw[Za,Wz,KC,KC,hY,Qi,ZJ]
 refine VB fun t ht=> ?_
 rw[Za,Vz m _ ht,Za]
theorem tr_tr{m n:Nat}{X:List Q7}(hX:X.length=n)(sX:Ql m X):tr n (tr m X)=X:=by
 refine VY (by rw[Qi,hX]) fun i hi=> ?_
 rw[Qi]at hi
 rw[Vz n _ hi]
 refine Zc (n:=m) (fun t ht=> ?_) (ZV sX i) fun t ht=> ?_
 ·rw[Za,ZB (by rw[Qi];exact ht)]
 ·rw[Za,Vz m _ ht,Za]
theorem Um{c t:Nat}{X A B:List Q7}(sX:Ql c X)(hB:B.length=t)(h:∀w,app c X w=app t A (app c B w)):rk c X≤t:=by
 have inv:=(JP (d:=0) (S:=[]) sX (.inl rfl) c).1
 have kapp:∀w,app c X w=(fun _=>false)→∀i,dot c (row (rd X [] c).1 i) w=false:=fun w=>(Wa sX w).1
 have hr:rk c X=(rd X [] c).2.2.length:=rfl
 rw[hr]
 generalize rd X [] c=st at*
 obtain⟨R',S',ps⟩:=st
 simp only at kapp⊢
 refine Nat.le_of_not_lt fun hlt=> ?_
 have inj:∀u v,u<2^ps.length→v<2^ps.length→nb (app c B (cmb (fun _=>false) (tb u) ps ps.length)) t=nb (app c B (cmb (fun _=>false) (tb v) ps ps.length)) t→u=v:=fun u v hu hv e=>by
  have e1:app c B (cmb (fun _=>false) (tb u) ps ps.length)=app c B (cmb (fun _=>false) (tb v) ps ps.length):=by
   rw[←tb_nb t (app_sup' hB (cmb (fun _=>false) (tb u) ps ps.length)),e,tb_nb t (app_sup' hB _)]
  have e2:=kapp (xr (cmb (fun _=>false) (tb u) ps ps.length) (cmb (fun _=>false) (tb v) ps ps.length)) (by rw[app_xr,h,h,e1,xr_self])
  have e3:tb u=tb v:=Zc (WE hu) (WE hv) fun i hi=>by
   have:=e2 i
   rw[dot_xr,j6 inv,j6 inv]at this
   have hd:decide (i<ps.length)=true:=by simpa using hi
   rw[hd,Bool.true_and,Bool.true_and]at this
   simpa using this
  rw[←nb_tb hu,←nb_tb hv,e3]
 have a2:((List.range (2^ps.length)).map fun u=>nb (app c B (cmb (fun _=>false) (tb u) ps ps.length)) t).Nodup:=by
  refine List.pairwise_map.2 ?_
  refine List.Pairwise.imp_of_mem ?_ (List.nodup_range (n:=2^ps.length))
  intro u v hu hv hne he
  exact hne (inj u v (List.mem_range.1 hu) (List.mem_range.1 hv) he)
 have:=Wy a2 (k:=List.range (2^t)) fun s hs=>by
  obtain⟨u,_,rfl⟩:=List.mem_map.1 hs
  exact List.mem_range.2 (VM _ _)
 rw[List.length_map,List.length_range,List.length_range]at this
 have:=Nat.pow_lt_pow_right (a:=2) (by omega) hlt
 omega
theorem factor{c:Nat}{X:List Q7}(sX:Ql c X):∃A B:List Q7,A.length=X.length∧B.length=rk c X∧X=J7 A B:=by
 obtain⟨inv,eqs⟩:=JP (d:=0) (S:=[]) sX (.inl rfl) c
 have kz:∀f,f<c→app c X (kv (rd X [] c).1 (rd X [] c).2.2 f)=fun _=>false:=fun f hf=>Y8 sX hf
 have hr:rk c X=(rd X [] c).2.2.length:=rfl
 rw[hr]
 generalize rd X [] c=st at*
 obtain⟨R',S',ps⟩:=st
 simp only at kz⊢
 have l1:R'.length=X.length:=inv.lr
 have l3:ps.length≤X.length:=inv.lt
 have own:∀p,p<ps.length→∀j,row R' j (pv ps p)=(j==p):=inv.own
 have hp:∀p,p<ps.length→pv ps p<c:=inv.lk
 have lB:(R'.take ps.length).length=ps.length:=by rw[List.length_take];omega
 have rB:∀s,s<ps.length→row (R'.take ps.length) s=row R' s:=fun s hs=>by
  unfold row
  rw[List.getElem?_take_of_lt hs]
 have sB:Ql c (R'.take ps.length):=supM_rows fun i=>by
  rcases Nat.lt_or_ge i ps.length with hi|hi
  ·rw[rB i hi];exact inv.sup i
  ·rw[ZB (by rw[lB];exact hi)];exact fun _ _=>rfl
 refine⟨(List.range X.length).map fun i=>fun s=>decide (s<ps.length)&&row X i (pv ps s),R'.take ps.length,by simp,lB,?_⟩
 refine VY (by rw[Qe];simp) fun i hi=> ?_
 have ra:row ((List.range X.length).map fun i=>fun s=>decide (s<ps.length)&&row X i (pv ps s)) i=fun s=>decide (s<ps.length)&&row X i (pv ps s):=by
  unfold row
  rw[List.getElem?_map,List.getElem?_range hi];rfl
 rw[Wz,ra]
 refine eq_of_xr ?_
 have sw:Sup c (xr (row X i) (Jq (fun s=>decide (s<ps.length)&&row X i (pv ps s)) (R'.take ps.length))):=WG (ZV sX i) (xs_sup sB _)
 have piv:∀p,p<ps.length→xr (row X i) (Jq (fun s=>decide (s<ps.length)&&row X i (pv ps s)) (R'.take ps.length)) (pv ps p)=false:=fun p hpl=>by
  show Bool.xor _ _=false
  rw[KC,lB,dot_one (j:=p) fun s hs hne=>by
   rw[Za,rB s hs,own p hpl]
   have:(s==p)=false:=by simp[hne]
   rw[this,Bool.and_false]]
  rw[Za,rB p hpl,own p hpl]
  simp[hpl]
 refine Zc sw (fun _ _=>rfl) fun j hj=> ?_
 by_cases hm:j∈ps
 ·obtain⟨p,hpl,rfl⟩:=WY.1 hm
  exact piv p hpl
 ·have k1:dot c (xr (row X i) (Jq (fun s=>decide (s<ps.length)&&row X i (pv ps s)) (R'.take ps.length))) (kv R' ps j)=false:=by
   rw[xr_dot,mulr_app,lB,←J9,kz j hj]
   have:dot ps.length (fun s=>decide (s<ps.length)&&row X i (pv ps s)) (fun t=>dot c (row (R'.take ps.length) t) (kv R' ps j))=false:=by
    rw[VB (b:=fun _=>false) fun s hs=>by rw[rB s hs];exact kv_dot inv hj s]
    exact VA _ _
   rw[this];rfl
  unfold kv at k1
  rw[Vp hp,Zz _ hj,qV fun p hpl=>by rw[piv p hpl,Bool.and_false],Bool.xor_false]at k1
  exact k1
theorem rk_mul_left{m k:Nat}{X Y:List Q7}(hY:Y.length=m)(sX:Ql m X)(sY:Ql k Y):rk k (J7 X Y)≤rk m X:=by
 obtain⟨A,B,_,lB,e⟩:=factor sX
 refine Um (A:=A) (B:=J7 B Y) (Ja sY) (by rw[Qe,lB]) fun w=> ?_
 rw[JC,JC,hY]
 conv=>lhs;rw[e]
 rw[JC,lB]
theorem rk_mul_right{m k:Nat}{X Y:List Q7}(hY:Y.length=m)(sY:Ql k Y):rk k (J7 X Y)≤rk k Y:=by
 obtain⟨A,B,lA,lB,e⟩:=factor sY
 refine Um (A:=J7 X A) (B:=B) (Ja sY) lB fun w=> ?_
 rw[JC,JC,lA]
 conv=>lhs;arg 3;rw[e]
 rw[JC,lB]
theorem rk_tr_le{m n:Nat}{X:List Q7}(hX:X.length=n)(sX:Ql m X):rk n (tr m X)≤rk m X:=by
 obtain⟨A,B,lA,lB,e⟩:=factor sX
 have e2:tr m X=J7 (tr m B) (tr (rk m X) A):=by
  conv=>lhs;rw[e]
  exact tr_mulm lB
 refine Um (A:=tr m B) (B:=tr (rk m X) A) (hX▸Uj m X) (by rw[Qi]) fun w=> ?_
 conv=>lhs;rw[e2]
 rw[JC,Qi]
theorem rk_tr{m n:Nat}{X:List Q7}(hX:X.length=n)(sX:Ql m X):rk n (tr m X)=rk m X:=by
 refine Nat.le_antisymm (rk_tr_le hX sX) ?_
 have:=rk_tr_le (n:=m) (m:=n) (X:=tr m X) (Qi _ _) (hX▸Uj m X)
 rw[tr_tr hX sX]at this
 exact this
theorem run7(ar ac br bc cr cc:Nat)(aa ba ca:List Int):M7.m ⟨ar,ac,aa,br,bc,ba,cr,cc,ca⟩=some true:=by
 obtain⟨r,hr⟩:=small [((ar:Int),(ac:Int),aa),((br:Int),(bc:Int),ba),((cr:Int),(cc:Int),ca)] (by simp)
 unfold M7.m
 simp only[hr,Q0]
 cases r with
 |false=>simp only[Bool.not_false,cond_true,JJ]
 |true=>
  have h20a:M20.m ⟨(ar:Int),(ac:Int),aa⟩=some (((ar%10:Nat):Int),((ac%140:Nat):Int)):=VH ar ac aa
  have h20b:M20.m ⟨(br:Int),(bc:Int),ba⟩=some (((br%10:Nat):Int),((bc%140:Nat):Int)):=VH br bc ba
  have ea:Int.tmod ((ac%140:Nat):Int) 12=((ac%140%12:Nat):Int):=rfl
  have eb:Int.tmod ((bc%140:Nat):Int) 12=((bc%140%12:Nat):Int):=rfl
  simp only[Bool.not_true,cond_false,h20a,h20b,ea,eb]
  have hn:ar%10≤9:=by omega
  have hm:ac%140%12≤11:=by omega
  have hk:br%10≤9:=by omega
  have ho:bc%140%12≤11:=by omega
  generalize ar%10=n at*
  generalize ac%140%12=m at*
  generalize br%10=k at*
  generalize bc%140%12=o at*
  obtain⟨sX,_,nX⟩:=XF aa n m
  obtain⟨sY,_,nY⟩:=XF ba m k
  obtain⟨sZ,_,nZ⟩:=XF ca k o
  have h23a:=of23 (L:=rowsN aa n m) (c:=m) (by omega) (by rw[Qp];omega) (fun r hr=>JY aa n m hr) (m:Int)
  have h23b:=of23 (L:=rowsN ba m k) (c:=k) (by omega) (by rw[Qp];omega) (fun r hr=>JY ba m k hr) (k:Int)
  have h23c:=of23 (L:=rowsN ca k o) (c:=o) (by omega) (by rw[Qp];omega) (fun r hr=>JY ca k o hr) (o:Int)
  simp only[rows' (n:=n) (k:=m) (ar:Int) (ac:Int) aa (by omega) (by omega),rows' (n:=m) (k:=k) (br:Int) (bc:Int) ba (by omega) (by omega),rows' (n:=k) (k:=o) (cr:Int) (cc:Int) ca (by omega) (by omega),h23a,h23b,h23c]
  generalize (rowsN aa n m).map bt=X at*
  generalize (rowsN ba m k).map bt=Y at*
  generalize (rowsN ca k o).map bt=Z at*
  have sXY:Ql k (J7 X Y):=Ja sY
  have sYZ:Ql o (J7 Y Z):=Ja sZ
  have lXY:(J7 X Y).length=n:=by rw[Qe,nX]
  have lYZ:(J7 Y Z).length=m:=by rw[Qe,nY]
  have m1:M39.m ⟨m,mr m X,k,mr k Y⟩=some ((k:Int),mr k (J7 X Y),0):=mul (n:=m) (c:=k) (A:=X) (B:=Y) nY.symm (by omega) (by omega) (by omega) sX sY
  have m2:M39.m ⟨k,mr k Y,o,mr o Z⟩=some ((o:Int),mr o (J7 Y Z),0):=mul (n:=k) (c:=o) (A:=Y) (B:=Z) nZ.symm (by omega) (by omega) (by omega) sY sZ
  have m3:M39.m ⟨k,mr k (J7 X Y),o,mr o Z⟩=some ((o:Int),mr o (J7 (J7 X Y) Z),0):=mul (n:=k) (c:=o) (A:=J7 X Y) (B:=Z) nZ.symm (by omega) (by omega) (by omega) sXY sZ
  have m4:M39.m ⟨m,mr m X,o,mr o (J7 Y Z)⟩=some ((o:Int),mr o (J7 X (J7 Y Z)),0):=mul (n:=m) (c:=o) (A:=X) (B:=J7 Y Z) lYZ.symm (by omega) (by omega) (by omega) sX sYZ
  have m5:=one45 (n:=m) (by omega)
  have m6:M39.m ⟨m,mr m X,m,mr m (idm m)⟩=some ((m:Int),mr m (J7 X (idm m)),0):=mul (n:=m) (c:=m) (A:=X) (B:=idm m) (Qj m).symm (by omega) (by omega) (by omega) sX (UB m)
  rw[mulm_assoc nZ sZ]at m3
  rw[mulm_one sX]at m6
  have t1:=Vx (c:=m) (R:=X) (by omega) (by omega) sX
  have t2:=Vx (c:=k) (R:=Y) (by omega) (by omega) sY
  have t3:=Vx (c:=k) (R:=J7 X Y) (by omega) (by omega) sXY
  have stX:=Uj m X
  have stY:=Uj k Y
  rw[nX]at t1 stX
  rw[nY]at t2 stY
  rw[lXY,tr_mulm nY]at t3
  have m7:M39.m ⟨m,mr m (tr k Y),n,mr n (tr m X)⟩=some ((n:Int),mr n (J7 (tr k Y) (tr m X)),0):=mul (n:=m) (c:=n) (A:=tr k Y) (B:=tr m X) (Qi m X).symm (by omega) (by omega) (by rw[Qi];omega) stY stX
  have q1:=same (c:=o) (A:=J7 X (J7 Y Z)) (by omega) (by rw[Qe];omega)
  have q2:=same (c:=m) (A:=X) (by omega) (by omega)
  have q3:=same (c:=n) (A:=J7 (tr k Y) (tr m X)) (by omega) (by rw[Qe,Qi];omega)
  have r1:=K8 (c:=m) (R:=X) (by omega) (by omega) sX
  have r2:=K8 (c:=n) (R:=tr m X) (by omega) (by rw[Qi];omega) stX
  have r3:=K8 (c:=k) (R:=J7 X Y) (by omega) (by omega) sXY
  have r4:=K8 (c:=k) (R:=Y) (by omega) (by omega) sY
  rw[rk_tr nX sX]at r2
  have el:(((mr o (J7 X (J7 Y Z))).length:Nat):Int)=(n:Int):=by rw[Q6,Qe,nX]
  have d1:decide (((rk k (J7 X Y):Nat):Int)≤((rk m X:Nat):Int))=true:=decide_eq_true (Int.ofNat_le.2 (rk_mul_left nY sX sY))
  have d2:decide (((rk k (J7 X Y):Nat):Int)≤((rk k Y:Nat):Int))=true:=decide_eq_true (Int.ofNat_le.2 (rk_mul_right nY sY))
  simp only[m1,m2,m3,m4,m5,m6,t1,t2,t3,m7,nz,cond_false,Bool.not_false,cond_true,q1,q2,q3,Bool.not_true,el,J2,r1,r2,r3,r4,BEq.rfl,d1,d2,JJ]
theorem run7'{ar ac br bc cr cc:Int}(aa ba ca:List Int)(h1:0≤ar)(h2:0≤ac)(h3:0≤br)(h4:0≤bc)(h5:0≤cr)(h6:0≤cc):M7.m ⟨ar,ac,aa,br,bc,ba,cr,cc,ca⟩=some true:=by
 obtain⟨ar,rfl⟩:=Int.eq_ofNat_of_zero_le h1
 obtain⟨ac,rfl⟩:=Int.eq_ofNat_of_zero_le h2
 obtain⟨br,rfl⟩:=Int.eq_ofNat_of_zero_le h3
 obtain⟨bc,rfl⟩:=Int.eq_ofNat_of_zero_le h4
 obtain⟨cr,rfl⟩:=Int.eq_ofNat_of_zero_le h5
 obtain⟨cc,rfl⟩:=Int.eq_ofNat_of_zero_le h6
 exact run7 ar ac br bc cr cc aa ba ca
end Gf
end Go.Proofs.Ytddaobhpffpmoaa
namespace Go.Proofs.Ytddaobhpffpmoaa
open Go.Abs
namespace Gf
def wE(n:Int)(w:List Int):Int:=
 if n<0 then 1 else if 4096<n then 3 else if w.length≠nw n.toNat then 8 else
 if 0<n.toNat%64∧(w[w.length - 1]?.getD 0).fdiv ((2^(n.toNat%64):Nat):Int)≠0 then 1 else 0
theorem qD(n:Int):M85.m ⟨n⟩=some (if n<0 then 1 else if 4096<n then 3 else 0):=by
 unfold M85.m
 by_cases h1:n<0
 ·rw[if_pos h1,decide_eq_true h1,cond_true]
 ·rw[if_neg h1,decide_eq_false h1,cond_false]
  by_cases h2:4096<n
  ·rw[if_pos h2,decide_eq_true (show n>4096 from h2),cond_true]
  ·rw[if_neg h2,decide_eq_false (show¬n>4096 from h2),cond_false]
theorem tail38{N:Nat}{w:List Int}(hN:N≤4096)(hl:w.length=nw N):
  (bif inR (IntKind.i64.wrap ((w.length:Int) - 1)) w.length||!decide ((N:Int).tmod 64>0) then
   bif decide (0≤(N:Int).tmod 64)||!decide ((N:Int).tmod 64>0) then
    bif bif decide ((N:Int).tmod 64>0) then Int.fdiv (w[(IntKind.i64.wrap ((w.length:Int) - 1)).toNat]?.getD 0) (2^min ((N:Int).tmod 64).toNat 64) !=0 else false then
     some (1:Int)
    else some 0
   else none
  else none)=some (if 0<N%64∧(w[w.length - 1]?.getD 0).fdiv ((2^(N%64):Nat):Int)≠0 then 1 else 0):=by
 have hnw:nw N≤100:=by unfold nw;omega
 rw[tmodn]
 by_cases h:0<N%64
 ·have h1:0<nw N:=by unfold nw;omega
  have e3:IntKind.i64.wrap ((w.length:Int) - 1)=((w.length - 1:Nat):Int):=by rw[w64 (by omega) (by omega)];omega
  have e4:inR ((w.length - 1:Nat):Int) w.length=true:=QD (by omega)
  have e5:decide (((N%64:Nat):Int)>0)=true:=by simp;omega
  have e6:decide ((0:Int)≤((N%64:Nat):Int))=true:=by simp;omega
  simp only[e3,e4,e5,e6,Bool.true_or,cond_true,Int.toNat_natCast]
  rw[Nat.min_eq_left (by omega),Kg]
  by_cases hv:(w[w.length - 1]?.getD 0).fdiv ((2^(N%64):Nat):Int)=0
  ·rw[if_neg (fun q=>q.2 hv),hv];rfl
  ·have:((w[w.length - 1]?.getD 0).fdiv ((2^(N%64):Nat):Int) !=0)=true:=by simp only[bne_iff_ne];exact hv
   rw[if_pos ⟨h,hv⟩,this,cond_true]
 ·have e5:decide (((N%64:Nat):Int)>0)=false:=by simp;omega
  rw[if_neg (fun q=>h q.1)]
  simp only[e5,Bool.not_false,Bool.or_true,cond_true,cond_false]
theorem Xq(n:Int){w:List Int}(hw:w.length≤70):M38.m ⟨n,w⟩=some (wE n w):=by
 unfold M38.m wE
 rw[qD]
 by_cases h1:n<0
 ·rw[if_pos h1,if_pos h1];rfl
 ·rw[if_neg h1,if_neg h1]
  by_cases h2:4096<n
  ·rw[if_pos h2,if_pos h2];rfl
  ·rw[if_neg h2,if_neg h2]
   obtain⟨N,rfl⟩:=Int.eq_ofNat_of_zero_le (show 0≤n by omega)
   have hN:N≤4096:=by omega
   simp only[Q0,nz,cond_false,words N (show N≤1000000 by omega),Int.toNat_natCast]
   by_cases h3:w.length=nw N
   ·have e:((w.length:Int) !=((nw N:Nat):Int))=false:=by rw[h3];simp
    rw[e,cond_false,if_neg (fun q=>q h3)]
    exact tail38 hN h3
   ·have e:((w.length:Int) !=((nw N:Nat):Int))=true:=by simp only[bne_iff_ne];omega
    rw[e,cond_true,if_pos h3]
theorem want49(n:Int){w:List Int}(hw:w.length≤70):M49.m ⟨n,w⟩=some (wE n w):=by
 unfold M49.m wE
 by_cases h1:n<0
 ·rw[if_pos h1,decide_eq_true h1,cond_true]
 ·rw[if_neg h1,decide_eq_false h1,cond_false]
  by_cases h2:4096<n
  ·rw[if_pos h2,decide_eq_true (show n>4096 from h2),cond_true]
  ·rw[if_neg h2,decide_eq_false (show¬n>4096 from h2),cond_false]
   obtain⟨N,rfl⟩:=Int.eq_ofNat_of_zero_le (show 0≤n by omega)
   have hN:N≤4096:=by omega
   have hnw:nw N≤100:=by unfold nw;omega
   have ew:IntKind.i64.wrap ((IntKind.i64.wrap ((N:Int)+63)).tdiv 64)=((nw N:Nat):Int):=by
    rw[w64 (show -9223372036854775808≤(N:Int)+63 by omega) (by omega),show((N:Int)+63).tdiv 64=((nw N:Nat):Int) from rfl,w64 (by omega) (by omega)]
   simp only[ew,Int.toNat_natCast]
   by_cases h3:w.length=nw N
   ·have e:((w.length:Int) !=((nw N:Nat):Int))=false:=by rw[h3];simp
    rw[e,cond_false,if_neg (fun q=>q h3)]
    exact tail38 hN h3
   ·have e:((w.length:Int) !=((nw N:Nat):Int))=true:=by simp only[bne_iff_ne];omega
    rw[e,cond_true,if_pos h3]
def U64(w:List Int):Prop:=∀x∈w,0≤x∧x<18446744073709551616
def wb(w:List Int):Q7:=fun i=>((w[i / 64]?.getD 0).toNat).testBit (i%64)
theorem wb_wd{w:List Int}{j x:Nat}(hj:w[j]? =some (x:Int))(hx:x<2^64):wd (wb w) j=x:=by
 refine Nat.eq_of_testBit_eq fun k=> ?_
 rw[XU]
 unfold wb
 by_cases hk:k<64
 ·rw[show(64*j+k) / 64=j by omega,show(64*j+k)%64=k by omega,hj]
  simp[hk]
 ·rw[Nat.testBit_lt_two_pow (Nat.lt_of_lt_of_le hx (Nat.pow_le_pow_right (by omega) (by omega)))]
  simp[hk]
theorem wb_vw{N:Nat}{w:List Int}(hw:U64 w)(hl:w.length=nw N):w=vw N (wb w):=by
 refine List.ext_getElem? fun j=> ?_
 rcases Nat.lt_or_ge j (nw N) with hj|hj
 ·have hj':j<w.length:=by omega
  obtain⟨a,b⟩:=hw _ (List.getElem_mem hj')
  obtain⟨x,hx⟩:=Int.eq_ofNat_of_zero_le a
  have hq:w[j]? =some (x:Int):=by rw[List.getElem?_eq_getElem hj',hx]
  rw[K2 _ _ hj,hq,wb_wd hq (by omega)]
 ·rw[List.getElem?_eq_none (by omega),List.getElem?_eq_none (by rw[J1];omega)]
theorem Xz{n:Int}{w:List Int}(hw:U64 w)(h:wE n w=0):∃N b,n=((N:Nat):Int)∧N≤4096∧Sup N b∧w=vw N b:=by
 unfold wE at h
 split at h
 ·cases h
 split at h
 ·cases h
 obtain⟨N,rfl⟩:=Int.eq_ofNat_of_zero_le (show 0≤n by omega)
 rw[Int.toNat_natCast]at h
 split at h
 ·cases h
 rename_i hlen
 have hlen:w.length=nw N:=Classical.byContradiction hlen
 split at h
 ·cases h
 rename_i hlast
 refine⟨N,wb w,rfl,by omega,fun i hi=> ?_,wb_vw hw hlen⟩
 unfold wb
 rcases Nat.lt_or_ge (i / 64) w.length with hj|hj
 ·have h1:0<N%64:=by unfold nw at hlen;omega
  have h2:i / 64=w.length - 1:=by unfold nw at hlen;omega
  have h3:(w[w.length - 1]?.getD 0).fdiv ((2^(N%64):Nat):Int)=0:=Classical.byContradiction fun q=>hlast ⟨h1,q⟩
  rw[h2]
  rw[List.getElem?_eq_getElem (by omega)]at h3⊢
  obtain⟨a,b⟩:=hw _ (List.getElem_mem (show w.length - 1<w.length by omega))
  rw[Option.getD_some]at h3⊢
  obtain⟨x,hx⟩:=Int.eq_ofNat_of_zero_le a
  rw[hx]at h3⊢
  rw[XQ]at h3
  have h4:x / 2^(N%64)=0:=by omega
  have h5:x<2^(N%64):=by
   rcases Nat.div_eq_zero_iff.1 h4 with e|e
   ·have:=Nat.two_pow_pos (N%64);omega
   ·exact e
  rw[Int.toNat_natCast]
  refine Nat.testBit_lt_two_pow (Nat.lt_of_lt_of_le h5 (Nat.pow_le_pow_right (by omega) ?_))
  unfold nw at hlen
  omega
 ·rw[List.getElem?_eq_none hj];simp
theorem Jv{e:Int}(h:e≠0):(e !=0)=true:=by simp only[bne_iff_ne];exact h
theorem Xo{e:Int}(h:e≠0):(e==0)=false:=by simp only[beq_eq_false_iff_ne];exact h
theorem both_any(n m:Int){w u:List Int}(hw:w.length≤70)(hu:u.length≤70):
  M79.m ⟨n,w,m,u⟩=some (bif bif (bif wE n w==0 then wE m u else wE n w)==0 then n !=m else false then 8 else bif wE n w==0 then wE m u else wE n w):=by
 have s0:M79.s0 ⟨[(n,w),(m,u)],2,0,n,w,m,u⟩=(bif wE n w !=0 then some (.inr (.inr ⟨wE n w⟩)) else some (.inl ⟨[(n,w),(m,u)],2,1,n,w,m,u⟩)):=by
  unfold M79.s0
  show Q0 (M38.m ⟨n,w⟩) _=_
  rw[Xq n hw]
  rfl
 have s1:M79.s0 ⟨[(n,w),(m,u)],2,1,n,w,m,u⟩=(bif wE m u !=0 then some (.inr (.inr ⟨wE m u⟩)) else some (.inl ⟨[(n,w),(m,u)],2,2,n,w,m,u⟩)):=by
  unfold M79.s0
  show Q0 (M38.m ⟨m,u⟩) _=_
  rw[Xq m hu]
  rfl
 have s2:M79.s0 ⟨[(n,w),(m,u)],2,2,n,w,m,u⟩=some (.inr (.inl ⟨n,w,m,u⟩)):=rfl
 unfold M79.m
 show Q0 (iter M79.s0 ⟨[(n,w),(m,u)],2,0,n,w,m,u⟩) _=_
 rw[iter_eq,s0]
 by_cases h1:wE n w=0
 ·simp only[h1,nz,cond_false,BEq.rfl,cond_true]
  rw[iter_eq,s1]
  by_cases h2:wE m u=0
  ·simp only[h2,nz,cond_false,BEq.rfl,cond_true]
   rw[iter_eq,s2]
   simp only[Q0,J6]
   cases n !=m<;>rfl
  ·simp only[Jv h2,cond_true,Xo h2,cond_false,Q0,J6]
 ·simp only[Jv h1,cond_true,Xo h1,cond_false,Q0,J6]
theorem add_any(n m:Int){w u:List Int}(hw:w.length≤70)(hu:u.length≤70)(Uw:U64 w)(Uu:U64 u):
  ∃p q,M28.m ⟨n,w,m,u⟩=some (p,q,bif bif (bif wE n w==0 then wE m u else wE n w)==0 then n !=m else false then 8 else bif wE n w==0 then wE m u else wE n w)∧
   ((bif bif (bif wE n w==0 then wE m u else wE n w)==0 then n !=m else false then 8 else bif wE n w==0 then wE m u else wE n w)≠0→p=0∧q=[]):=by
 unfold M28.m
 simp only[both_any n m hw hu,Q0]
 by_cases h:(bif bif (bif wE n w==0 then wE m u else wE n w)==0 then n !=m else false then 8 else bif wE n w==0 then wE m u else wE n w)=0
 ·have h1:wE n w=0:=Classical.byContradiction fun q=>by
   rw[Xo q,cond_false,Xo q,cond_false,cond_false]at h
   exact q h
  rw[h1,BEq.rfl,cond_true]at h
  have h2:wE m u=0:=Classical.byContradiction fun q=>by
   rw[Xo q,cond_false,cond_false]at h
   exact q h
  rw[h2,BEq.rfl,cond_true]at h
  have h3:n=m:=Classical.byContradiction fun q=>by
   have:(n !=m)=true:=by simp only[bne_iff_ne];exact q
   rw[this]at h
   cases h
  subst h3
  obtain⟨N,a,rfl,hN,sa,rfl⟩:=Xz Uw h1
  obtain⟨N',b,e,_,sb,e2⟩:=Xz Uu h2
  have:N'=N:=by omega
  subst this
  subst e2
  rw[h1,h2]
  refine⟨(N':Int),vw N' (xr a b),?_,fun q=>absurd ?_ q⟩
  ·simp only[BEq.rfl,cond_true,J2,cond_false,nz,sum a b (N':Int) (show N'≤1000000 by omega)]
  ·simp only[BEq.rfl,cond_true,J2,cond_false]
 ·exact⟨0,[],by rw[Jv h,cond_true],fun _=>⟨rfl,rfl⟩⟩
theorem dot_any(n m:Int){w u:List Int}(hw:w.length≤70)(hu:u.length≤70)(Uw:U64 w)(Uu:U64 u):
  ∃p,M33.m ⟨n,w,m,u⟩=some (p,bif bif (bif wE n w==0 then wE m u else wE n w)==0 then n !=m else false then 8 else bif wE n w==0 then wE m u else wE n w)∧
   ((bif bif (bif wE n w==0 then wE m u else wE n w)==0 then n !=m else false then 8 else bif wE n w==0 then wE m u else wE n w)≠0→p=0):=by
 unfold M33.m
 simp only[both_any n m hw hu,Q0]
 by_cases h:(bif bif (bif wE n w==0 then wE m u else wE n w)==0 then n !=m else false then 8 else bif wE n w==0 then wE m u else wE n w)=0
 ·have h1:wE n w=0:=Classical.byContradiction fun q=>by
   rw[Xo q,cond_false,Xo q,cond_false,cond_false]at h
   exact q h
  rw[h1,BEq.rfl,cond_true]at h
  have h2:wE m u=0:=Classical.byContradiction fun q=>by
   rw[Xo q,cond_false,cond_false]at h
   exact q h
  rw[h2,BEq.rfl,cond_true]at h
  have h3:n=m:=Classical.byContradiction fun q=>by
   have:(n !=m)=true:=by simp only[bne_iff_ne];exact q
   rw[this]at h
   cases h
  subst h3
  obtain⟨N,a,rfl,hN,sa,rfl⟩:=Xz Uw h1
  obtain⟨N',b,e,_,sb,e2⟩:=Xz Uu h2
  have:N'=N:=by omega
  subst this
  subst e2
  rw[h1,h2]
  have ho:=odd (n:=N') (a:=a) (b:=b) (N':Int) (by omega) sa
  simp only[BEq.rfl,cond_true,J2,cond_false,nz,ho]
  cases dot N' a b
  ·exact⟨0,rfl,fun _=>rfl⟩
  ·exact⟨1,rfl,fun q=>absurd rfl q⟩
 ·exact⟨0,by rw[Jv h,cond_true],fun _=>rfl⟩
def vS(mc v:Int)(r:Int×List Int):Int:=if v≠0 then v else if wE r.1 r.2≠0 then wE r.1 r.2 else if r.1≠mc then 8 else 0
def v0(mc:Int):Int:=if mc<0 then 1 else if 4096<mc then 3 else 0
def vE(mc:Int)(l:List (Int×List Int)):Int:=l.foldl (vS mc) (v0 mc)
theorem VW{mc v:Int}(h:v≠0):∀l:List (Int×List Int),l.foldl (vS mc) v=v
 |[]=>rfl
 |r::l=>by
  have:vS mc v r=v:=by unfold vS;rw[if_pos h]
  rw[List.foldl_cons,this]
  exact VW h l
theorem JN(mc:Int){l:List (Int×List Int)}(hl:l.length≤8)(hw:∀r∈l,r.2.length≤70):M50.m ⟨mc,l⟩=some (vE mc l):=by
 unfold M50.m
 rw[qD]
 have hv:(if mc<0 then 1 else if 4096<mc then 3 else 0:Int)=v0 mc:=rfl
 rw[hv]
 by_cases h0:v0 mc=0
 rotate_left
 ·simp only[Q0,Jv h0,cond_true]
  unfold vE
  rw[VW h0]
 ·have gen:∀(j i:Nat),i+j=l.length→Q0 (iter M50.s0 ⟨l,(l.length:Int),(i:Int),mc,l⟩) (fun s=>J6 s (fun _=>some 0) fun z=>some z.r)=some ((l.drop i).foldl (vS mc) 0):=by
   intro j
   induction j with
   |zero=>
    intro i hi
    have:i=l.length:=by omega
    subst this
    have e1:decide ((l.length:Int)<(l.length:Int))=false:=by simp
    rw[iter_eq]
    unfold M50.s0
    simp only[e1,cond_false,Q0,J6,List.drop_length,List.foldl_nil]
   |succ j ih=>
    intro i hi
    have hil:i<l.length:=by omega
    have e1:decide ((i:Int)<(l.length:Int))=true:=by simpa using hil
    have hc:=Xq (l[i]).1 (hw _ (List.getElem_mem hil))
    rw[iter_eq,List.drop_eq_getElem_cons hil,List.foldl_cons]
    unfold M50.s0
    simp only[e1,QD hil,XJ hil,cond_true,hc,Q0]
    by_cases hz:wE (l[i]).1 (l[i]).2=0
    ·simp only[hz,nz,cond_false]
     by_cases hm:(l[i]).1=mc
     ·have e2:((l[i]).1 !=mc)=false:=by rw[hm];simp
      have e3:vS mc 0 l[i]=0:=by unfold vS;rw[if_neg (fun q=>q rfl),if_neg (fun q=>q hz),if_neg (fun q=>q hm)]
      rw[e3]
      simp only[e2,cond_false,suc (show i<9000000000000000000 by omega)]
      exact ih (i+1) (by omega)
     ·have e2:((l[i]).1 !=mc)=true:=by simp only[bne_iff_ne];exact hm
      have e3:vS mc 0 l[i]=8:=by unfold vS;rw[if_neg (fun q=>q rfl),if_neg (fun q=>q hz),if_pos hm]
      rw[e3,VW (by decide)]
      simp only[e2,cond_true,J6]
    ·have e3:vS mc 0 l[i]=wE (l[i]).1 (l[i]).2:=by unfold vS;rw[if_neg (fun q=>q rfl),if_pos hz]
     rw[e3,VW hz]
     simp only[Jv hz,cond_true,J6]
  have g:=gen l.length 0 (by omega)
  have hs:=size (n:=l.length) (by omega)
  simp only[h0,Q0,nz,cond_false,hs]
  unfold vE
  rw[h0]
  exact g
theorem foldl_zero{mc:Int}:∀{l:List (Int×List Int)} {v:Int},l.foldl (vS mc) v=0→v=0∧∀r∈l,wE r.1 r.2=0∧r.1=mc
 |[],v,h=>⟨h,fun r hr=>by cases hr⟩
 |a::l,v,h=>by
  rw[List.foldl_cons]at h
  obtain⟨h1,h2⟩:=foldl_zero h
  unfold vS at h1
  by_cases hv:v=0
  ·subst hv
   rw[if_neg (fun q=>q rfl)]at h1
   by_cases hz:wE a.1 a.2=0
   ·rw[if_neg (fun q=>q hz)]at h1
    by_cases hm:a.1=mc
    ·exact⟨rfl,fun r hr=>by
      rcases List.mem_cons.1 hr with rfl|hr
      ·exact⟨hz,hm⟩
      ·exact h2 r hr⟩
    ·rw[if_pos hm]at h1;cases h1
   ·rw[if_pos hz]at h1;exact absurd h1 hz
  ·rw[if_pos hv]at h1;exact absurd h1 hv
theorem KY{mc:Int}{l:List (Int×List Int)}(hw:∀r∈l,U64 r.2)(h:vE mc l=0):∃N R,mc=((N:Nat):Int)∧N≤4096∧Ql N R∧R.length=l.length∧l=mr N R:=by
 obtain⟨h0,h1⟩:=foldl_zero h
 unfold v0 at h0
 split at h0
 ·cases h0
 split at h0
 ·cases h0
 obtain⟨N,rfl⟩:=Int.eq_ofNat_of_zero_le (show 0≤mc by omega)
 have:∀r∈l,∃b,Sup N b∧r=((N:Int),vw N b):=fun r hr=>by
  obtain⟨a,b⟩:=h1 r hr
  obtain⟨N',c,e,_,sc,e2⟩:=Xz (hw r hr) a
  have:N'=N:=by omega
  subst this
  exact⟨c,sc,by rw[←e2,←b]⟩
 clear h h1 hw
 induction l with
 |nil=>exact⟨N,[],rfl,by omega,(fun _ h=>by cases h),rfl,rfl⟩
 |cons a l ih=>
  obtain⟨N',R,e,h2,h3,h4,h5⟩:=ih fun r hr=>this r (by simp[hr])
  have:N'=N:=by omega
  subst this
  obtain⟨b,sb,eb⟩:=this a (by simp)
  refine⟨N',b::R,rfl,h2,fun x hx=> ?_,by simp[h4],?_⟩
  ·rcases List.mem_cons.1 hx with rfl|hx
   ·exact sb
   ·exact h3 x hx
  ·unfold mr at h5⊢
   rw[List.map_cons,←h5,←eb]
section
variable {mc an:Int}{l:List (Int×List Int)}{aw:List Int}(hl:l.length≤8)(hw:∀r∈l,r.2.length≤70)(hU:∀r∈l,U64 r.2)(ha:aw.length≤70)(aU:U64 aw)
include hl hw hU ha aU
theorem apply_any:∃p q,M29.m ⟨mc,l,an,aw⟩=some (p,q,bif bif (bif vE mc l==0 then wE an aw else vE mc l)==0 then an !=mc else false then 8 else bif vE mc l==0 then wE an aw else vE mc l)∧
  ((bif bif (bif vE mc l==0 then wE an aw else vE mc l)==0 then an !=mc else false then 8 else bif vE mc l==0 then wE an aw else vE mc l)≠0→q=[]):=by
 by_cases h:vE mc l=0
 ·rw[h,BEq.rfl,cond_true]
  by_cases h2:wE an aw=0
  ·rw[h2,BEq.rfl,cond_true]
   by_cases h3:an=mc
   ·obtain⟨N,R,rfl,hN,sR,lR,rfl⟩:=KY hU h
    obtain⟨N',b,e,_,sb,rfl⟩:=Xz aU h2
    subst e
    have:N'=N:=by omega
    subst this
    have e:=apply (c:=N') (R:=R) (v:=b) hN (by omega) sR sb
    rw[J2,cond_false]
    exact⟨_,_,e,fun q=>absurd rfl q⟩
   ·have e2:(an !=mc)=true:=by simp only[bne_iff_ne];exact h3
    rw[e2,cond_true]
    refine⟨0,[],?_,fun _=>rfl⟩
    unfold M29.m
    simp only[JN mc hl hw,Q0,h,nz,cond_false,Xq an ha,h2,e2,cond_true]
  ·rw[Xo h2,cond_false,cond_false]
   refine⟨0,[],?_,fun _=>rfl⟩
   unfold M29.m
   simp only[JN mc hl hw,Q0,h,nz,cond_false,Xq an ha,Jv h2,cond_true]
 ·rw[Xo h,cond_false,Xo h,cond_false,cond_false]
  refine⟨0,[],?_,fun _=>rfl⟩
  unfold M29.m
  simp only[JN mc hl hw,Q0,Jv h,cond_true]
theorem solve_any:∃p q E,M22.m ⟨mc,l,an,aw⟩=some (p,q,E)∧
  (bif E==(bif bif (bif vE mc l==0 then wE an aw else vE mc l)==0 then an !=(l.length:Int) else false then 8 else bif vE mc l==0 then wE an aw else vE mc l) then true
   else bif (bif bif (bif vE mc l==0 then wE an aw else vE mc l)==0 then an !=(l.length:Int) else false then 8 else bif vE mc l==0 then wE an aw else vE mc l)==0 then E==9 else false)=true∧
  (E≠0→q=[]):=by
 by_cases h:vE mc l=0
 ·rw[h,BEq.rfl,cond_true]
  by_cases h2:wE an aw=0
  ·rw[h2,BEq.rfl,cond_true]
   by_cases h3:an=(l.length:Int)
   ·obtain⟨N,R,rfl,hN,sR,lR,rfl⟩:=KY hU h
    obtain⟨N',b,e,_,sb,rfl⟩:=Xz aU h2
    subst e
    rw[Q6]at h3
    have:N'=R.length:=by omega
    subst this
    have e:=VX (c:=N) (R:=R) (b:=b) hN (by omega) sR sb
    rw[Q6,J2,cond_false]
    by_cases hb:bad (rd R (sd b R.length) N).2.1 (rd R (sd b R.length) N).2.2.length R.length=true
    ·rw[if_pos hb]at e
     exact⟨_,_,_,e,rfl,fun _=>rfl⟩
    ·rw[if_neg hb]at e
     exact⟨_,_,_,e,rfl,fun q=>absurd rfl q⟩
   ·have e2:(an !=(l.length:Int))=true:=by simp only[bne_iff_ne];exact h3
    rw[e2,cond_true]
    refine⟨0,[],8,?_,rfl,fun _=>rfl⟩
    unfold M22.m
    simp only[JN mc hl hw,Q0,h,nz,cond_false,Xq an ha,h2,e2,cond_true]
  ·rw[Xo h2,cond_false,cond_false]
   refine⟨0,[],wE an aw,?_,by rw[BEq.rfl,cond_true],fun _=>rfl⟩
   unfold M22.m
   simp only[JN mc hl hw,Q0,h,nz,cond_false,Xq an ha,Jv h2,cond_true]
 ·rw[Xo h,cond_false,Xo h,cond_false,cond_false]
  refine⟨0,[],vE mc l,?_,by rw[BEq.rfl,cond_true],fun _=>rfl⟩
  unfold M22.m
  simp only[JN mc hl hw,Q0,Jv h,cond_true]
omit ha aU in
theorem inv_any:∃p q E,M47.m ⟨mc,l⟩=some (p,q,E)∧
  (bif E==(bif bif vE mc l==0 then mc !=(l.length:Int) else false then 8 else vE mc l) then true
   else bif (bif bif vE mc l==0 then mc !=(l.length:Int) else false then 8 else vE mc l)==0 then E==9 else false)=true∧(E≠0→q=[]):=by
 by_cases h:vE mc l=0
 ·rw[h,BEq.rfl,cond_true]
  by_cases h3:mc=(l.length:Int)
  ·obtain⟨N,R,rfl,hN,sR,lR,rfl⟩:=KY hU h
   rw[Q6]at h3
   have:R.length=N:=by omega
   have e:=inv47 (n:=N) (R:=R) hN this sR
   rw[Q6,this,J2,cond_false]
   by_cases hk:rk N R<N
   ·rw[if_pos hk]at e
    exact⟨_,_,_,e,rfl,fun _=>rfl⟩
   ·rw[if_neg hk]at e
    exact⟨_,_,_,e,rfl,fun q=>absurd rfl q⟩
  ·have e2:(mc !=(l.length:Int))=true:=by simp only[bne_iff_ne];exact h3
   rw[e2,cond_true]
   refine⟨0,[],8,?_,rfl,fun _=>rfl⟩
   unfold M47.m
   simp only[JN mc hl hw,Q0,h,nz,cond_false,e2,cond_true]
 ·rw[Xo h,cond_false]
  refine⟨0,[],vE mc l,?_,by rw[cond_false,BEq.rfl,cond_true],fun _=>rfl⟩
  unfold M47.m
  simp only[JN mc hl hw,Q0,Jv h,cond_true]
omit ha aU in
theorem mul_any:∃p q,M39.m ⟨mc,l,mc,l⟩=some (p,q,bif bif vE mc l==0 then mc !=(l.length:Int) else false then 8 else vE mc l)∧
  ((bif bif vE mc l==0 then mc !=(l.length:Int) else false then 8 else vE mc l)≠0→q=[]):=by
 have s0:M39.s0 ⟨[(mc,l),(mc,l)],2,0,mc,l,mc,l⟩=(bif vE mc l !=0 then some (.inr (.inr ⟨vE mc l,0⟩)) else some (.inl ⟨[(mc,l),(mc,l)],2,1,mc,l,mc,l⟩)):=by
  unfold M39.s0
  show Q0 (M50.m ⟨mc,l⟩) _=_
  rw[JN mc hl hw]
  rfl
 have s1:M39.s0 ⟨[(mc,l),(mc,l)],2,1,mc,l,mc,l⟩=(bif vE mc l !=0 then some (.inr (.inr ⟨vE mc l,0⟩)) else some (.inl ⟨[(mc,l),(mc,l)],2,2,mc,l,mc,l⟩)):=by
  unfold M39.s0
  show Q0 (M50.m ⟨mc,l⟩) _=_
  rw[JN mc hl hw]
  rfl
 have s2:M39.s0 ⟨[(mc,l),(mc,l)],2,2,mc,l,mc,l⟩=some (.inr (.inl ⟨mc,l,mc,l⟩)):=rfl
 by_cases h:vE mc l=0
 ·rw[h,BEq.rfl,cond_true]
  by_cases h3:mc=(l.length:Int)
  ·obtain⟨N,R,rfl,hN,sR,lR,rfl⟩:=KY hU h
   rw[Q6]at h3
   have hRN:R.length=N:=by omega
   have e:=mul (n:=N) (c:=N) (A:=R) (B:=R) hRN.symm hN hN (by omega) sR sR
   rw[Q6,hRN,J2,cond_false]
   exact⟨_,_,e,fun q=>absurd rfl q⟩
  ·have e2:(mc !=(l.length:Int))=true:=by simp only[bne_iff_ne];exact h3
   rw[e2,cond_true]
   refine⟨0,[],?_,fun _=>rfl⟩
   have k:iter M39.s0 ⟨[(mc,l),(mc,l)],(↑2:Int),0,mc,l,mc,l⟩=some (.inl ⟨mc,l,mc,l⟩):=by
    show iter M39.s0 ⟨[(mc,l),(mc,l)],2,0,mc,l,mc,l⟩=_
    rw[iter_eq,s0,h,nz,cond_false]
    show iter M39.s0 ⟨[(mc,l),(mc,l)],2,1,mc,l,mc,l⟩=_
    rw[iter_eq,s1,h,nz,cond_false]
    show iter M39.s0 ⟨[(mc,l),(mc,l)],2,2,mc,l,mc,l⟩=_
    rw[iter_eq,s2]
   unfold M39.m
   simp only[k,Q0,J6,e2,cond_true]
 ·rw[Xo h,cond_false]
  refine⟨0,[],?_,fun _=>rfl⟩
  have k:iter M39.s0 ⟨[(mc,l),(mc,l)],(↑2:Int),0,mc,l,mc,l⟩=some (.inr ⟨vE mc l,0⟩):=by
   show iter M39.s0 ⟨[(mc,l),(mc,l)],2,0,mc,l,mc,l⟩=_
   rw[iter_eq,s0,Jv h,cond_true]
  unfold M39.m
  simp only[k,Q0,J6,cond_false]
end
theorem room48{n:Int}{w:List Int}(hw:w.length≤70):M48.m ⟨n,w⟩=some (n,w):=by
 have e1:QP w.length 8=true:=by simp[QP,leB];omega
 have e2:leB (0+w.length) w.length=true:=by simp[leB]
 unfold M48.m
 simp only[e1,e2,Bool.and_self,cond_true,List.drop_zero,List.take_length]
end Gf
end Go.Proofs.Ytddaobhpffpmoaa
namespace Go.Proofs.Ytddaobhpffpmoaa
open Go.Abs
namespace Gf
theorem bits_bad{n:Int}{w:List Int}(hw:w.length≤70)(h:wE n w≠0):M34.m ⟨n,w⟩=some []:=by
 unfold M34.m
 simp only[Xq n hw,Q0,Jv h,cond_true]
theorem at_bad{n:Int}{w:List Int}(hw:w.length≤70)(h:wE n w≠0)(i:Int):M37.m ⟨n,w,i⟩=some 0:=by
 unfold M37.m
 simp only[Xq n hw,Q0,Jv h,cond_true,Bool.not_true,cond_false]
theorem wt_bad{n:Int}{w:List Int}(hw:w.length≤70)(h:wE n w≠0):M36.m ⟨n,w⟩=some 0:=by
 unfold M36.m
 simp only[Xq n hw,Q0,Jv h,cond_true]
theorem text_bad{n:Int}{w:List Int}(hw:w.length≤70)(h:wE n w≠0):M32.m ⟨n,w⟩=some []:=by
 unfold M32.m
 simp only[bits_bad hw h,Q0]
 rfl
theorem loop9(e an mc xn zc:Int)(aw xw:List Int)(l:List (Int×List Int))(hl:l.length≤8):
  ∀j i,i+j=l.length→(∀r∈l.take i,r.2.length≤70)→
   iter M9.s0 ⟨e,(l.take i).foldl (vS mc) (v0 mc),(i:Int),an,aw,mc,l,xn,xw,zc,0,i,l.take i⟩=some (.inr ⟨true⟩)∨
   ((∀r∈l,r.2.length≤70)∧iter M9.s0 ⟨e,(l.take i).foldl (vS mc) (v0 mc),(i:Int),an,aw,mc,l,xn,xw,zc,0,i,l.take i⟩=some (.inl ⟨e,vE mc l,an,aw,mc,l,xn,xw,zc,l⟩)):=by
 intro j
 induction j with
 |zero=>
  intro i hi h
  have:i=l.length:=by omega
  subst this
  rw[List.take_length]at h⊢
  have e1:decide ((l.length:Int)<(l.length:Int))=false:=by simp
  have e2:leB (0+l.length) l.length=true:=by simp[leB]
  refine .inr ⟨h,?_⟩
  rw[iter_eq]
  unfold M9.s0
  simp only[e1,cond_false,e2,Bool.and_self,cond_true,List.drop_zero,List.take_length]
  rfl
 |succ j ih=>
  intro i hi h
  have hil:i<l.length:=by omega
  have e1:decide ((i:Int)<(l.length:Int))=true:=by simpa using hil
  rw[iter_eq]
  by_cases hr:(l[i]).2.length≤70
  ·have e2:decide (((l[i]).2.length:Int)>70)=false:=by simp;omega
   have e3:(eqN 0 0&&eqN (l.take i).length i&&QP (i+1) 32)=true:=by
    have g1:eqN (l.take i).length i=true:=by rw[List.length_take,Nat.min_eq_left (by omega)];simp[eqN]
    have g2:QP (i+1) 32=true:=by simp[QP,leB];omega
    rw[g1,g2];rfl
   have tk:l.take (i+1)=l.take i++[l[i]]:=List.take_succ_eq_append_getElem hil
   have ih:=ih (i+1) (by omega) (fun r hm=>by
    rw[tk,List.mem_append]at hm
    rcases hm with hm|hm
    ·exact h r hm
    ·rw[List.mem_singleton]at hm
     rw[hm];exact hr)
   have st:M9.s0 ⟨e,(l.take i).foldl (vS mc) (v0 mc),(i:Int),an,aw,mc,l,xn,xw,zc,0,i,l.take i⟩=some (.inl ⟨e,(l.take (i+1)).foldl (vS mc) (v0 mc),((i+1:Nat):Int),an,aw,mc,l,xn,xw,zc,0,i+1,l.take (i+1)⟩):=by
    rw[tk,List.foldl_append,List.foldl_cons,List.foldl_nil]
    generalize (l.take i).foldl (vS mc) (v0 mc)=v
    unfold M9.s0
    simp only[e1,QD hil,XJ hil,e2,cond_true,cond_false,room48 hr,want49 _ hr,Q0,e3,Bool.true_or,suc (show i<9000000000000000000 by omega)]
    unfold vS
    by_cases hv:v=0
    ·rw[if_neg (fun q=>q hv)]
     subst hv
     simp only[BEq.rfl,cond_true]
     by_cases hz:wE (l[i]).1 (l[i]).2=0
     ·rw[if_neg (fun q=>q hz)]
      simp only[hz,BEq.rfl,cond_true]
      by_cases hm:(l[i]).1=mc
      ·have e4:((l[i]).1 !=mc)=false:=by rw[hm];simp
       rw[if_neg (fun q=>q hm),e4,cond_false]
      ·rw[if_pos hm,show((l[i]).1 !=mc)=true by simp only[bne_iff_ne];exact hm,cond_true]
     ·rw[if_pos hz]
      simp only[Xo hz,cond_false]
    ·rw[if_pos hv]
     simp only[Xo hv,cond_false]
   rw[st]
   exact ih
  ·have e2:decide (((l[i]).2.length:Int)>70)=true:=by simp;omega
   left
   unfold M9.s0
   simp only[e1,QD hil,XJ hil,e2,cond_true,JJ,Q0]
theorem run9(an bn mc:Int)(aw bw:List Int)(l:List (Int×List Int))(Ua:U64 aw)(Ub:U64 bw)(Ul:∀r∈l,U64 r.2):M9.m ⟨an,aw,bn,bw,mc,l⟩=some true:=by
 unfold M9.m
 cases hg:(bif bif decide ((aw.length:Int)>70) then true else decide ((bw.length:Int)>70) then true else decide ((l.length:Int)>8)) with
 |true=>simp only[cond_true,JJ,Q0]
 |false=>
  have ha:aw.length≤70:=by
   refine Nat.le_of_not_lt fun q=> ?_
   rw[decide_eq_true (show(aw.length:Int)>70 by omega),cond_true,cond_true]at hg
   cases hg
  rw[decide_eq_false (show¬(aw.length:Int)>70 by omega),cond_false]at hg
  have hb:bw.length≤70:=by
   refine Nat.le_of_not_lt fun q=> ?_
   rw[decide_eq_true (show(bw.length:Int)>70 by omega),cond_true]at hg
   cases hg
  rw[decide_eq_false (show¬(bw.length:Int)>70 by omega),cond_false]at hg
  have hl:l.length≤8:=by
   have:=of_decide_eq_false hg
   omega
  obtain⟨p1,q1,h28,z28⟩:=add_any an bn ha hb Ua Ub
  obtain⟨p2,h33,z33⟩:=dot_any an bn ha hb Ua Ub
  simp only[cond_false,room48 ha,room48 hb,want49 an ha,want49 bn hb,Xq an ha,h28,h33,Q0,J2]
  have c1:(bif (bif bif (bif wE an aw==0 then wE bn bw else wE an aw)==0 then an !=bn else false then 8 else bif wE an aw==0 then wE bn bw else wE an aw) !=0 then
    bif bif p1 !=0 then true else decide ((q1.length:Int)>0) then true else p2 !=0 else false)=false:=by
   by_cases h:(bif bif (bif wE an aw==0 then wE bn bw else wE an aw)==0 then an !=bn else false then 8 else bif wE an aw==0 then wE bn bw else wE an aw)=0
   ·rw[h];rfl
   ·obtain⟨rfl,rfl⟩:=z28 h
    have:=z33 h
    subst this
    rw[Jv h,cond_true];rfl
  simp only[c1,cond_false]
  have c2:(bif wE an aw !=0 then M34.m ⟨an,aw⟩ else some [])=some []:=by
   by_cases h:wE an aw=0
   ·rw[h];rfl
   ·rw[Jv h,cond_true,bits_bad ha h]
  have c3:(bif wE an aw !=0&&!decide ((((([]:List Int).length):Nat):Int)>0) then M37.m ⟨an,aw,0⟩ else some (Int.ofNat 0))=some 0:=by
   by_cases h:wE an aw=0
   ·rw[h];rfl
   ·rw[Jv h]
    exact at_bad ha h 0
  have c4:(bif wE an aw !=0&&!bif decide ((((([]:List Int).length):Nat):Int)>0) then true else (0:Int) !=0 then M36.m ⟨an,aw⟩ else some (Int.ofNat 0))=some 0:=by
   by_cases h:wE an aw=0
   ·rw[h];rfl
   ·rw[Jv h]
    exact wt_bad ha h
  have c5:(bif wE an aw !=0&&!bif bif decide ((((([]:List Int).length):Nat):Int)>0) then true else (0:Int) !=0 then true else (0:Int) !=0 then M32.m ⟨an,aw⟩ else some [])=some []:=by
   by_cases h:wE an aw=0
   ·rw[h];rfl
   ·rw[Jv h]
    exact text_bad ha h
  have c6:(bif wE an aw !=0 then bif bif bif decide ((((([]:List Int).length):Nat):Int)>0) then true else (0:Int) !=0 then true else (0:Int) !=0 then true else !(([]:List UInt8)==[]) else false)=false:=by
   cases wE an aw !=0<;>rfl
  simp only[c2,c3,c4,c5,c6,cond_false]
  have hv0:(bif decide (mc<0) then 1 else bif decide (mc>4096) then 3 else 0:Int)=v0 mc:=by
   unfold v0
   by_cases h1:mc<0
   ·rw[decide_eq_true h1,if_pos h1];rfl
   ·rw[decide_eq_false h1,if_neg h1,cond_false]
    by_cases h2:4096<mc
    ·rw[decide_eq_true (show mc>4096 from h2),if_pos h2];rfl
    ·rw[decide_eq_false (show¬mc>4096 from h2),if_neg h2];rfl
  rw[hv0]
  have lp:=loop9 (wE an aw) an mc an mc aw aw l hl l.length 0 (by omega) (fun r h=>by cases h)
  have lp:iter M9.s0 ⟨wE an aw,v0 mc,0,an,aw,mc,l,an,aw,mc,0,0,[]⟩=some (.inr ⟨true⟩)∨((∀r∈l,r.2.length≤70)∧iter M9.s0 ⟨wE an aw,v0 mc,0,an,aw,mc,l,an,aw,mc,0,0,[]⟩=some (.inl ⟨wE an aw,vE mc l,an,aw,mc,l,an,aw,mc,l⟩)):=lp
  rcases lp with lp|⟨hw,lp⟩
  ·simp only[lp,J6]
  ·obtain⟨p3,q3,h29,z29⟩:=apply_any (mc:=mc) (an:=an) hl hw Ul ha Ua
   obtain⟨p4,q4,E4,h22,o22,z22⟩:=solve_any (mc:=mc) (an:=an) hl hw Ul ha Ua
   obtain⟨p5,q5,E5,h47,o47,z47⟩:=inv_any (mc:=mc) hl hw Ul
   obtain⟨p6,q6,h39,z39⟩:=mul_any (mc:=mc) hl hw Ul
   have h46:=same46 mc l (by omega) (fun v hv=>by have:=hw v hv;omega)
   have zz:∀{E:Int} {q:List Int},(E≠0→q=[])→(bif E !=0 then decide ((q.length:Int)>0) else false)=false:=fun{E q} h=>by
    by_cases h0:E=0
    ·rw[h0];rfl
    ·rw[h h0,Jv h0];rfl
   have zm:∀{E:Int} {q:List (Int×List Int)},(E≠0→q=[])→(bif E !=0 then decide ((q.length:Int)>0) else false)=false:=fun{E q} h=>by
    by_cases h0:E=0
    ·rw[h0];rfl
    ·rw[h h0,Jv h0];rfl
   simp only[lp,J6,h29,h22,h47,h39,JN mc hl hw,J2,cond_false,o22,o47,Bool.not_true,Bool.not_false,cond_true,h46,zz z29,zz z22,zm z47,zm z39]
   by_cases hv:vE mc l=0
   ·simp only[hv,BEq.rfl,cond_true,JJ]
   ·have t1:M40.m ⟨mc,l⟩=some (0,[],vE mc l):=by
     unfold M40.m
     simp only[JN mc hl hw,Q0,Jv hv,cond_true]
    have t2:M26.m ⟨mc,l⟩=some (0,vE mc l):=by
     unfold M26.m
     simp only[JN mc hl hw,Q0,Jv hv,cond_true]
    have t3:M25.m ⟨mc,l⟩=some ([],vE mc l):=by
     unfold M25.m
     simp only[JN mc hl hw,Q0,Jv hv,cond_true]
    have s0:(IntKind.i64.wrap (IntKind.i64.wrap ((((([]:List (Int×List Int)).length:Nat):Int))+(((([]:List (Int×List Int)).length:Nat):Int)))+0)==0)=true:=rfl
    simp only[Xo hv,cond_false,t1,t2,t3,BEq.rfl,cond_true,s0,JJ]
end Gf
end Go.Proofs.Ytddaobhpffpmoaa
namespace Go.Proofs.Ytddaobhpffpmoaa
open Go.Abs
namespace Gf
theorem u8w(x:Int):0≤IntKind.u8.wrap x:=by
 simp[IntKind.wrap,IntKind.signed,IntKind.bits];omega
theorem fill10(n:Int):∀(j i:Nat) (k:Int) (a b:List Int),i+j=60→a.length=i→b.length=i→∃k' a' b',List.length a'=60∧iter M10.s1 ⟨k,n,0,i,0,i,(i:Int),a,b⟩=some ⟨k',n,a',b'⟩
 |0,i,k,a,b,hi,ha,hb=>by
  have:i=60:=by omega
  subst this
  have e1:decide (((60:Nat):Int)<60)=false:=rfl
  have e2:leB (0+60) a.length=true:=by simp[leB];omega
  have e3:leB (0+60) b.length=true:=by simp[leB];omega
  refine⟨k,List.take 60 (List.drop 0 a),List.take 60 (List.drop 0 b),by rw[List.drop_zero,List.take_of_length_le (by omega),ha],?_⟩
  rw[iter_eq]
  unfold M10.s1
  simp only[e1,e2,e3,Bool.and_self,cond_true,cond_false]
 |j+1,i,k,a,b,hi,ha,hb=>by
  have e1:decide ((i:Int)<60)=true:=by simp;omega
  have g:∀l:List Int,l.length=i→(eqN 0 0&&eqN l.length i&&QP (i+1) 1)=true:=fun l hl=>by
   have g1:eqN l.length i=true:=by rw[hl];simp[eqN]
   have g2:QP (i+1) 1=true:=by simp[QP,leB];omega
   rw[g1,g2];rfl
  rw[iter_eq]
  unfold M10.s1
  simp only[e1,g a ha,g b hb,cond_true,suc (show i<9000000000000000000 by omega)]
  exact fill10 n j (i+1) _ _ _ (by omega) (by rw[List.length_append,ha];rfl) (by rw[List.length_append,hb];rfl)
theorem rounds10:∀(j n:Nat) (k:Int),n+j=14→iter M10.s0 ⟨k,(n:Int)⟩=some (.inl PUnit.unit)
 |0,n,k,hn=>by
  have:n=14:=by omega
  subst this
  rw[iter_eq]
  rfl
 |j+1,n,k,hn=>by
  obtain⟨k',a,b,ha,hf⟩:=fill10 (n:Int) 60 0 k [] [] (by omega) rfl rfl
  have hf:iter M10.s1 ⟨k,(n:Int),0,0,0,0,0,[],[]⟩=some ⟨k',(n:Int),a,b⟩:=hf
  have e1:decide ((n:Int)<14)=true:=by simp;omega
  have e2:(decide (0≤(n:Int))&&decide ((n:Int)≤(a.length:Int)))=true:=by rw[ha];simp;omega
  have r4:=run4' (mr:=IntKind.u8.wrap (n:Int)) (mc:=IntKind.u8.wrap (IntKind.i64.wrap (10*(n:Int)))) a (n:Int) (u8w _) (u8w _)
  have r6:=run6' (ar:=IntKind.u8.wrap (n:Int)) (ac:=IntKind.u8.wrap (IntKind.i64.wrap (10*(n:Int)))) (br:=IntKind.u8.wrap (IntKind.i64.wrap ((n:Int).tdiv 2))) (bc:=IntKind.u8.wrap (IntKind.i64.wrap (IntKind.i64.wrap (9*(n:Int))+1))) a b b (u8w _) (u8w _) (u8w _) (u8w _)
  have r3:=run3' (ar:=IntKind.u8.wrap (n:Int)) (ac:=IntKind.u8.wrap (n:Int)) a b (u8w _) (u8w _)
  have r5:=run5' (ar:=IntKind.u8.wrap (n:Int)) (ac:=IntKind.u8.wrap (IntKind.i64.wrap ((n:Int)*5))) a b (u8w _) (u8w _)
  have r7:=run7' (ar:=IntKind.u8.wrap (n:Int)) (ac:=IntKind.u8.wrap (IntKind.i64.wrap (10*(n:Int)))) (br:=IntKind.u8.wrap (IntKind.i64.wrap ((n:Int).tdiv 2))) (bc:=IntKind.u8.wrap (IntKind.i64.wrap (IntKind.i64.wrap (9*(n:Int))+1))) (cr:=0) (cc:=0) a b (List.take (a.length - (n:Int).toNat) (List.drop (n:Int).toNat a)) (u8w _) (u8w _) (u8w _) (u8w _) (Int.le_refl _) (Int.le_refl _)
  have r8:=run8' (ar:=IntKind.u8.wrap (n:Int)) (ac:=0) (br:=3) (bc:=0) a b (u8w _) (Int.le_refl _) (by decide) (Int.le_refl _)
  rw[iter_eq]
  unfold M10.s0
  simp only[e1,cond_true,hf,Q0,r4,Bool.not_true,Bool.not_false,r6,cond_false,r3,r5,e2,Bool.true_or,r7,r8,suc (show n<9000000000000000000 by omega)]
  exact rounds10 j (n+1) k' (by omega)
theorem zero_bad{n:Int}(h:n<0∨4096<n):M51t.m ⟨n⟩=some (0,[],if n<0 then 1 else 3):=by
 unfold M51t.m
 rw[qD]
 by_cases h1:n<0
 ·rw[if_pos h1,if_pos h1];rfl
 ·rw[if_neg h1,if_neg h1,if_pos (h.resolve_left h1)];rfl
theorem run10:M10.m PUnit.unit=some true:=by
 have hr:iter M10.s0 ⟨1,0⟩=_:=rounds10 14 0 1 rfl
 have z1:M51t.m ⟨4096⟩=some (4096,vw 4096 (fun _=>false),0):=zero51t (n:=4096) (Nat.le_refl _)
 have l1:(((vw 4096 (fun _=>false)).length:Nat):Int)=64:=by rw[J1];rfl
 have z2:M52e.m ⟨List.take 4097 (List.drop 0 (List.replicate 4097 (0:Int)))⟩=some 3:=by
  have hl:(List.take 4097 (List.drop 0 (List.replicate 4097 (0:Int)))).length=4097:=by simp only[List.drop_zero,List.length_take,List.length_replicate];rfl
  have hz:M51t.m ⟨((4097:Nat):Int)⟩=some (0,[],3):=zero_bad (n:=4097) (.inr (by decide))
  unfold M52e.m
  simp only[hl,hz,Q0]
  rfl
 have z3:M45.m ⟨4097⟩=some (0,[],3):=by
  unfold M45.m
  rw[qD];rfl
 have z4:M53.m ⟨3,3⟩=some (0,[],1):=by
  have hz:M51t.m ⟨3⟩=some (3,vw 3 (fun _=>false),0):=zero51t (n:=3) (by omega)
  unfold M53.m
  simp only[hz,Q0]
  rfl
 have z5:M53.m ⟨-1,0⟩=some (0,[],1):=by
  have hz:M51t.m ⟨-1⟩=some (0,[],1):=zero_bad (n:= -1) (.inl (by decide))
  unfold M53.m
  simp only[hz,Q0]
  rfl
 have z6:M50.m ⟨0,List.take 4097 (List.drop 0 (List.replicate 4097 (0,[])))⟩=some 3:=by
  have hl:(List.take 4097 (List.drop 0 (List.replicate 4097 ((0,[]):Int×List Int)))).length=4097:=by simp only[List.drop_zero,List.length_take,List.length_replicate];rfl
  have h0:M85.m ⟨0⟩=some 0:=size (n:=0) (by omega)
  have h1:M85.m ⟨((4097:Nat):Int)⟩=some 3:=by rw[qD];rfl
  unfold M50.m
  simp only[h0,Q0,nz,cond_false,hl,h1]
  rfl
 have uN:U64 []:=fun _ h=>by cases h
 have u1:∀x:Int,0≤x→x<18446744073709551616→U64 [x]:=fun x h1 h2 y hy=>by
  rw[List.mem_singleton]at hy
  subst hy
  exact⟨h1,h2⟩
 have uF:U64 [18446744073709551615]:=u1 _ (by decide) (by decide)
 have uG:U64 [9223372036854775808]:=u1 _ (by decide) (by decide)
 have w1:=run9 (-1) 64 0 [] [18446744073709551615] [] uN uF (fun _ h=>by cases h)
 have w2:=run9 64 64 64 [18446744073709551615] [18446744073709551615] [(64,[18446744073709551615])] uF uF (fun r h=>by rw[List.mem_singleton]at h;subst h;exact uF)
 have w3:=run9 63 64 63 [9223372036854775808] [18446744073709551615] [(64,[18446744073709551615])] uG uF (fun r h=>by rw[List.mem_singleton]at h;subst h;exact uF)
 have w4:=run9 4097 1 4097 [] [] [(-1,[])] uN uN (fun r h=>by rw[List.mem_singleton]at h;subst h;exact uN)
 have w5:=run9 0 0 (-1) [] [] [] uN uN (fun _ h=>by cases h)
 unfold M10.m
 simp only[hr,Q0,J6,z1,l1,z2,z3,z4,z5,z6,BEq.rfl,cond_true,w1,w2,w3,w4,w5,JJ]
end Gf
end Go.Proofs.Ytddaobhpffpmoaa
