/-
  What the proof stands on.
-/
import Derived.Test.YtddaobhpffpmoaaSR6QGd
import Derived.Test.YtddaobhpffpmoaaSR6QGa
import Derived.Test.YtddaobhpffpmoaaSR6QGb
import Derived.Test.YtddaobhpffpmoaaSR6QGc
set_option linter.all false
namespace Go.Proofs.Ytddaobhpffpmoaa
open Go.Abs
namespace Gf
abbrev Bits:=Nat→Bool
def mr(c:Nat)(R:List Bits):List (Int×List Int):=R.map fun b=>((c:Int),vw c b)
theorem mr_length(c:Nat)(R:List Bits):(mr c R).length=R.length:=by simp[mr]
theorem mr_at{c:Nat}{R:List Bits}{i:Nat}(h:i<R.length):(mr c R)[(i:Int).toNat]?.getD (0,[])=((c:Int),vw c R[i]):=by
 unfold mr
 rw[Int.toNat_natCast,List.getElem?_map,List.getElem?_eq_getElem h];rfl
theorem mr_at'{c:Nat}{R:List Bits}{i:Nat}(h:i<R.length):(mr c R)[i]?.getD (0,[])=((c:Int),vw c R[i]):=by
 unfold mr
 rw[List.getElem?_map,List.getElem?_eq_getElem h];rfl
def SupM(c:Nat)(R:List Bits):Prop:=∀b∈R,Sup c b
theorem nz:((0:Int) !=0)=false:=rfl
theorem neq_self(v:Int):(v !=v)=false:=by simp
theorem valid{c:Nat}{R:List Bits}(hc:c≤4096)(hR:R.length≤4096)(h:SupM c R):M50.m ⟨c,mr c R⟩=some 0:=by
 have key:=iter_up (step:=M50.s0) (fun i=>⟨mr c R,(R.length:Int),(i:Int),(c:Int),mr c R⟩) R.length (y:=.inl PUnit.unit) (fun i hi=>by
  have e1:decide ((i:Int)<(R.length:Int))=true:=by simpa using hi
  have e2:inR (i:Int) (mr c R).length=true:=inR_nat (by rw[mr_length];exact hi)
  unfold M50.s0
  simp only[e1,e2,mr_at hi,check hc (h _ (List.getElem_mem hi)),bindO,nz,neq_self,cond_true,cond_false,suc (show i<9000000000000000000 by omega)]) (by
  have e1:decide ((R.length:Int)<(R.length:Int))=false:=by simp
  unfold M50.s0
  simp only[e1,cond_false])
 have key:iter M50.s0 ⟨mr c R,(R.length:Int),0,(c:Int),mr c R⟩=_:=key
 unfold M50.m
 simp only[size hc,mr_length,size hR,bindO,nz,cond_false,key,sumC]
def app(c:Nat)(R:List Bits)(v:Bits):Bits:=fun i=>match R[i]? with|some b=>dot c b v|none=>false
theorem app_sup(c:Nat)(R:List Bits)(v:Bits):Sup R.length (app c R v):=fun i hi=>by unfold app;rw[List.getElem?_eq_none hi]
theorem app_at{c:Nat}{R:List Bits}(v:Bits){i:Nat}(h:i<R.length):app c R v i=dot c R[i] v:=by unfold app;rw[List.getElem?_eq_getElem h]
theorem upto{b:Bits}{i:Nat}:(b i=false→(fun k=>decide (k<i)&&b k)=fun k=>decide (k<i+1)&&b k)∧(b i=true→fl (fun k=>decide (k<i)&&b k) i=fun k=>decide (k<i+1)&&b k):=by
 constructor
 ·intro h
  funext k
  by_cases hk:k=i
  ·subst hk;simp[h]
  ·have:(k<i)=(k<i+1):=by simp;omega
   simp only[this]
 ·intro h
  funext k
  unfold fl
  by_cases hk:k=i
  ·subst hk;simp[h]
  ·have:(k<i)=(k<i+1):=by simp;omega
   rw[if_neg hk]
   simp only[this]
theorem upto_all{b:Bits}{n:Nat}(h:Sup n b):(fun k=>decide (k<n)&&b k)=b:=by
 funext k
 by_cases hk:k<n
 ·simp[hk]
 ·simp[hk,h k (by omega)]
theorem upto_no{b:Bits}:(fun k=>decide (k<0)&&b k)=fun _=>false:=by funext k;simp
theorem apply{c:Nat}{R:List Bits}{v:Bits}(hc:c≤4096)(hR:R.length≤4096)(h:SupM c R)(hv:Sup c v):M29.m ⟨c,mr c R,c,vw c v⟩=some ((R.length:Int),vw R.length (app c R v),0):=by
 have hnw:nw R.length≤100:=by unfold nw;omega
 have key:=iter_up (step:=M29.s0) (fun i=>⟨mr c R,(R.length:Int),(i:Int),(c:Int),mr c R,(c:Int),vw c v,vw R.length (fun k=>decide (k<i)&&app c R v k),(R.length:Int),0,nw R.length,nw R.length⟩) R.length (y:=⟨(c:Int),mr c R,(c:Int),vw c v,vw R.length (app c R v),(R.length:Int),0,nw R.length,nw R.length⟩) (fun i hi=>by
  have e1:decide ((i:Int)<(R.length:Int))=true:=by simpa using hi
  have e2:inR (i:Int) (mr c R).length=true:=inR_nat (by rw[mr_length];exact hi)
  have e3:=app_at (c:=c) v hi
  unfold M29.s0
  simp only[e1,e2,mr_at hi,odd (b:=v) (c:Int) (show c≤1000000 by omega) (h _ (List.getElem_mem hi)),bindO,cond_true,suc (show i<9000000000000000000 by omega)]
  cases hd:dot c R[i] v with
  |true=>
   rw[←(upto (b:=app c R v) (i:=i)).2 (e3.trans hd)]
   simp only[cond_true,turn (n:=R.length) (i:=i) (R.length:Int) (nw R.length) _ (by omega) (show i / 64<nw R.length by unfold nw;omega)]
  |false=>
   rw[←(upto (b:=app c R v) (i:=i)).1 (e3.trans hd)]
   rfl) (by
  have e1:decide ((R.length:Int)<(R.length:Int))=false:=by simp
  unfold M29.s0
  simp only[e1,cond_false,upto_all (app_sup c R v)])
 rw[upto_no]at key
 have key:iter M29.s0 ⟨mr c R,(R.length:Int),0,(c:Int),mr c R,(c:Int),vw c v,vw R.length (fun _=>false),(R.length:Int),0,nw R.length,nw R.length⟩=_:=key
 unfold M29.m
 simp only[valid hc hR h,check hc hv,bindO,nz,neq_self,cond_false,mr_length,blank R.length (show R.length≤1000000 by omega),key,leB_all,Bool.and_self,cond_true,slice_all]
end Gf
end Go.Proofs.Ytddaobhpffpmoaa
namespace Go.Proofs.Ytddaobhpffpmoaa
open Go.Abs
namespace Gf
def bit(B:List Bits)(t j:Nat):Bool:=match B[t]? with|some b=>b j|none=>false
theorem bit_at{B:List Bits}{t:Nat}(h:t<B.length)(j:Nat):bit B t j=B[t] j:=by unfold bit;rw[List.getElem?_eq_getElem h]
def xs(a:Bits)(B:List Bits)(i:Nat):Bits:=fun j=>cnt (fun t=>a t&&bit B t j) i%2==1
def mulr(a:Bits)(B:List Bits):Bits:=xs a B B.length
theorem xs_zero(a:Bits)(B:List Bits):xs a B 0=fun _=>false:=rfl
theorem xs_yes{a:Bits}{B:List Bits}{k:Nat}(hk:k<B.length)(ha:a k=true):xr (xs a B k) B[k]=xs a B (k+1):=by
 funext j
 unfold xr xs
 simp only[cnt,ha,bit_at hk,Bool.true_and]
 generalize cnt (fun t=>a t&&bit B t j) k=m
 rcases Nat.mod_two_eq_zero_or_one m with h|h
 ·cases B[k] j
  ·simp[h]
  ·have:(m+1)%2=1:=by omega
   simp[h,this]
 ·cases B[k] j
  ·simp[h]
  ·have:(m+1)%2=0:=by omega
   simp[h,this]
theorem xs_no{a:Bits}{B:List Bits}{k:Nat}(ha:a k=false):xs a B k=xs a B (k+1):=by
 funext j
 unfold xs
 simp only[cnt,ha,Bool.false_and,Bool.toNat_false,Nat.add_zero]
theorem xs_sup{c:Nat}{a:Bits}{B:List Bits}(h:SupM c B):∀k,Sup c (xs a B k):=fun k j hj=>by
 unfold xs
 rw[cnt_none fun t _=> ?_]
 ·rfl
 unfold bit
 cases ht:B[t]? with
 |none=>simp
 |some b=>simp[h b (List.mem_of_getElem? ht) j hj]
theorem set_split{α:Type}{l:List α}{i:Nat}(h:i<l.length)(x:α):List.take i l++x::List.drop (i+1) l=l.set i x:=by
 rw[List.set_eq_take_append_cons_drop,if_pos h]
theorem mul{n c:Nat}{A B:List Bits}(hn:n=B.length)(hn':n≤4096)(hc:c≤4096)(hA:A.length≤4096)(sA:SupM n A)(sB:SupM c B):
  M39.m ⟨n,mr n A,c,mr c B⟩=some ((c:Int),mr c (A.map fun a=>mulr a B),0):=by
 have inner:∀(i:Nat) (hi:i<A.length) (out:List (Int×List Int)),out.length=A.length→
   iter M39.s2 ⟨(i:Int),mr n A,(A.length:Int),(i:Int),mr c B,(B.length:Int),0,(n:Int),mr n A,(c:Int),mr c B,out.set i ((c:Int),vw c (fun _=>false)),(c:Int),0,A.length,A.length,(n:Int),vw n A[i]⟩=
    some ⟨mr n A,(A.length:Int),(i:Int),(n:Int),mr n A,(c:Int),mr c B,out.set i ((c:Int),vw c (mulr A[i] B)),(c:Int),0,A.length,A.length⟩:=fun i hi out ho=>by
  have key:=iter_up (step:=M39.s2) (fun k=>⟨(i:Int),mr n A,(A.length:Int),(i:Int),mr c B,(B.length:Int),(k:Int),(n:Int),mr n A,(c:Int),mr c B,out.set i ((c:Int),vw c (xs A[i] B k)),(c:Int),0,A.length,A.length,(n:Int),vw n A[i]⟩) B.length
   (y:=⟨mr n A,(A.length:Int),(i:Int),(n:Int),mr n A,(c:Int),mr c B,out.set i ((c:Int),vw c (mulr A[i] B)),(c:Int),0,A.length,A.length⟩) (fun k hk=>by
    have e1:decide ((k:Int)<(B.length:Int))=true:=by simpa using hk
    have e2:inR (k:Int) (mr c B).length=true:=inR_nat (by rw[mr_length];exact hk)
    have e3:decide (0+i<(out.set i ((c:Int),vw c (xs A[i] B k))).length)=true:=by rw[List.length_set,ho];simpa using hi
    have e4:(out.set i ((c:Int),vw c (xs A[i] B k)))[0+i]?.getD (0,[])=((c:Int),vw c (xs A[i] B k)):=by
     rw[Nat.zero_add,List.getElem?_set_self (by omega)];rfl
    unfold M39.s2
    simp only[e1,e2,has (n:=n) (i:=k) (n:Int) A[i] (by omega) (by unfold nw;omega),bindO,cond_true,suc (show k<9000000000000000000 by omega)]
    cases ha:A[i] k with
    |true=>
     rw[←xs_yes hk ha]
     simp only[cond_true,inR_nat hi,Int.toNat_natCast,e3,e4,mr_at' hk,sum (xs A[i] B k) B[k] (c:Int) (show c≤1000000 by omega)]
     rw[Nat.zero_add,List.set_set]
    |false=>
     rw[←xs_no ha]
     rfl) (by
    have e1:decide ((B.length:Int)<(B.length:Int))=false:=by simp
    unfold M39.s2
    simp only[e1,cond_false]
    rfl)
  rw[xs_zero]at key
  exact key
 have key:=iter_up (step:=M39.s1) (fun i=>⟨mr n A,(A.length:Int),(i:Int),(n:Int),mr n A,(c:Int),mr c B,mix (fun i=>((c:Int),vw c (mulr (A[i]?.getD fun _=>false) B))) (fun _=>(0,[])) i A.length,(c:Int),0,A.length,A.length⟩) A.length
  (y:=⟨(n:Int),mr n A,(c:Int),mr c B,mr c (A.map fun a=>mulr a B),(c:Int),0,A.length,A.length⟩) (fun i hi=>by
   have e1:decide ((i:Int)<(A.length:Int))=true:=by simpa using hi
   have e2:inR (i:Int) (mr n A).length=true:=inR_nat (by rw[mr_length];exact hi)
   have hm:=mix_set (fun i=>((c:Int),vw c (mulr (A[i]?.getD fun _=>false) B))) (fun _=>((0:Int),([]:List Int))) hi
   have hl:=mix_length (fun i=>((c:Int),vw c (mulr (A[i]?.getD fun _=>false) B))) (fun _=>((0:Int),([]:List Int))) i A.length
   rw[←hm]
   generalize mix (fun i=>((c:Int),vw c (mulr (A[i]?.getD fun _=>false) B))) (fun _=>((0:Int),([]:List Int))) i A.length=out at hl⊢
   have e3:decide (0+i<out.length)=true:=by rw[hl];simpa using hi
   have e4:A[i]?.getD (fun _=>false)=A[i]:=by rw[List.getElem?_eq_getElem hi];rfl
   have e5:=inner i hi out hl
   unfold M39.s1
   simp only[e1,e2,blank c (show c≤1000000 by omega),bindO,cond_true,inR_nat hi,Int.toNat_natCast,e3,leB_all,Bool.and_self,slice_all,mr_at' hi,mr_length]
   rw[Nat.zero_add,set_split (by omega),e5]
   simp only[e4,suc (show i<9000000000000000000 by omega)]) (by
   have e1:decide ((A.length:Int)<(A.length:Int))=false:=by simp
   have e2:mix (fun i=>((c:Int),vw c (mulr (A[i]?.getD fun _=>false) B))) (fun _=>((0:Int),([]:List Int))) A.length A.length=mr c (A.map fun a=>mulr a B):=by
    rw[mix_full]
    refine List.ext_getElem? fun j=> ?_
    unfold mr
    by_cases hj:j<A.length
    ·simp[hj]
    ·simp[hj]
   unfold M39.s1
   simp only[e1,cond_false,e2])
 rw[mix_zero,mix_const (fun _=>((0:Int),([]:List Int)))]at key
 have key:iter M39.s1 ⟨mr n A,(A.length:Int),0,(n:Int),mr n A,(c:Int),mr c B,List.replicate A.length (0,[]),(c:Int),0,A.length,A.length⟩=_:=key
 have k0:iter M39.s0 ⟨[((n:Int),mr n A),((c:Int),mr c B)],(↑2:Int),0,(n:Int),mr n A,(c:Int),mr c B⟩=some (.inl ⟨(n:Int),mr n A,(c:Int),mr c B⟩):=by
  have vA:=valid (R:=A) hn' hA sA
  have vB:=valid (R:=B) hc (by omega) sB
  have k:=iter_up (step:=M39.s0) (fun i=>⟨[((n:Int),mr n A),((c:Int),mr c B)],2,(i:Int),(n:Int),mr n A,(c:Int),mr c B⟩) 2 (y:=.inl ⟨(n:Int),mr n A,(c:Int),mr c B⟩) (fun i hi=>by
   rcases (show i=0∨i=1 by omega) with rfl|rfl
   ·unfold M39.s0
    simp only[show decide (((0:Nat):Int)<2)=true from rfl,show inR ((0:Nat):Int) [((n:Int),mr n A),((c:Int),mr c B)].length=true from rfl,cond_true]
    show bindO (M50.m ⟨(n:Int),mr n A⟩) _=_
    rw[vA]
    simp only[bindO,nz,cond_false]
    rfl
   ·unfold M39.s0
    simp only[show decide (((1:Nat):Int)<2)=true from rfl,show inR ((1:Nat):Int) [((n:Int),mr n A),((c:Int),mr c B)].length=true from rfl,cond_true]
    show bindO (M50.m ⟨(c:Int),mr c B⟩) _=_
    rw[vB]
    simp only[bindO,nz,cond_false]
    rfl) rfl
  exact k
 have e1:((n:Int) !=(B.length:Int))=false:=by rw[hn];simp
 have e2:(decide (0≤(A.length:Int))&&decide ((A.length:Int)≤(A.length:Int))&&decide ((A.length:Int)*(↑32:Int)≤281474976710656)&&decide ((A.length:Int)≤9223372036854775807))=true:=by simp;omega
 have e3:leB (0+A.length) (A.map fun a=>mulr a B).length=true:=by simp[leB]
 unfold M39.m
 simp only[k0,bindO,sumC,mr_length,e1,cond_false,e2,cond_true,Int.toNat_natCast,key,e3,Bool.and_self,List.drop_zero]
 rw[List.take_of_length_le (by rw[mr_length];simp)]
end Gf
end Go.Proofs.Ytddaobhpffpmoaa
namespace Go.Proofs.Ytddaobhpffpmoaa
open Go.Abs
namespace Gf
def col(R:List Bits)(k:Nat):Bits:=fun i=>bit R i k
theorem col_sup(R:List Bits)(k:Nat):Sup R.length (col R k):=fun i hi=>by unfold col bit;rw[List.getElem?_eq_none hi]
def tr(c:Nat)(R:List Bits):List Bits:=(List.range c).map (col R)
theorem tr_length(c:Nat)(R:List Bits):(tr c R).length=c:=by simp[tr]
theorem turned{c:Nat}{R:List Bits}(hc:c≤4096)(hR:R.length≤4096):M87.m ⟨c,mr c R⟩=some ((R.length:Int),mr R.length (tr c R)):=by
 have inner:∀(k:Nat) (hk:k<c) (out out_r:List (Int×List Int)),out.length=k→
   iter M87.s1 ⟨(c:Int),(k:Int),(k:Int),mr c R,(R.length:Int),0,(c:Int),mr c R,out,(R.length:Int),0,nw R.length,nw R.length,out_r,(R.length:Int),0,c,c,vw R.length (fun _=>false)⟩=
    some ⟨(c:Int),(k:Int),(c:Int),mr c R,out,(R.length:Int),0,nw R.length,nw R.length,out_r,(R.length:Int),0,c,c,vw R.length (col R k)⟩:=fun k hk out out_r ho=>by
  have key:=iter_up (step:=M87.s1) (fun i=>⟨(c:Int),(k:Int),(k:Int),mr c R,(R.length:Int),(i:Int),(c:Int),mr c R,out,(R.length:Int),0,nw R.length,nw R.length,out_r,(R.length:Int),0,c,c,vw R.length (fun t=>decide (t<i)&&col R k t)⟩) R.length
   (y:=⟨(c:Int),(k:Int),(c:Int),mr c R,out,(R.length:Int),0,nw R.length,nw R.length,out_r,(R.length:Int),0,c,c,vw R.length (col R k)⟩) (fun i hi=>by
    have e1:decide ((i:Int)<(R.length:Int))=true:=by simpa using hi
    have e2:inR (i:Int) (mr c R).length=true:=inR_nat (by rw[mr_length];exact hi)
    have e3:eqN (0+k) out.length=true:=by simp[eqN,ho]
    have e4:col R k i=R[i] k:=bit_at hi k
    unfold M87.s1
    simp only[e1,e2,mr_at hi,has (n:=c) (i:=k) (c:Int) R[i] (by omega) (by unfold nw;omega),bindO,cond_true,suc (show i<9000000000000000000 by omega)]
    cases ha:R[i] k with
    |true=>
     rw[←(upto (b:=col R k) (i:=i)).2 (e4.trans ha)]
     simp only[cond_true,inR_nat hk,Int.toNat_natCast,e3,turn (n:=R.length) (i:=i) (R.length:Int) (nw R.length) _ (by omega) (show i / 64<nw R.length by unfold nw;omega)]
    |false=>
     rw[←(upto (b:=col R k) (i:=i)).1 (e4.trans ha)]
     rfl) (by
    have e1:decide ((R.length:Int)<(R.length:Int))=false:=by simp
    unfold M87.s1
    simp only[e1,cond_false,upto_all (col_sup R k)])
  rw[upto_no]at key
  exact key
 have key:=iter_up (step:=M87.s0) (fun k=>⟨(c:Int),(k:Int),(c:Int),mr c R,mix (fun k=>((R.length:Int),vw R.length (col R k))) (fun _=>(0,[])) k c,(R.length:Int),0,c,c⟩) c
  (y:=⟨(c:Int),mr c R,mr R.length (tr c R),(R.length:Int),0,c,c⟩) (fun k hk=>by
   have e1:decide ((k:Int)<(c:Int))=true:=by simpa using hk
   have hm:=mix_set (fun k=>((R.length:Int),vw R.length (col R k))) (fun _=>((0:Int),([]:List Int))) hk
   have hl:=mix_length (fun k=>((R.length:Int),vw R.length (col R k))) (fun _=>((0:Int),([]:List Int))) k c
   rw[←hm]
   generalize mix (fun k=>((R.length:Int),vw R.length (col R k))) (fun _=>((0:Int),([]:List Int))) k c=out at hl⊢
   have e3:decide (0+k<out.length)=true:=by rw[hl];simpa using hk
   have e5:=inner k hk (List.take k out) (List.drop (k+1) out) (by rw[List.length_take];omega)
   unfold M87.s0
   simp only[e1,blank R.length (show R.length≤1000000 by omega),bindO,cond_true,inR_nat hk,Int.toNat_natCast,e3,mr_length]
   rw[Nat.zero_add,e5]
   simp only[leB_all,Bool.and_self,cond_true,slice_all,suc (show k<9000000000000000000 by omega)]
   rw[set_split (by omega)]) (by
   have e1:decide ((c:Int)<(c:Int))=false:=by simp
   have e2:mix (fun k=>((R.length:Int),vw R.length (col R k))) (fun _=>((0:Int),([]:List Int))) c c=mr R.length (tr c R):=by
    rw[mix_full]
    unfold mr tr
    rw[List.map_map];rfl
   unfold M87.s0
   simp only[e1,cond_false,e2])
 rw[mix_zero,mix_const (fun _=>((0:Int),([]:List Int)))]at key
 have key:iter M87.s0 ⟨(c:Int),0,(c:Int),mr c R,List.replicate c (0,[]),(R.length:Int),0,c,c⟩=_:=key
 have e2:(decide (0≤(c:Int))&&decide ((c:Int)≤(c:Int))&&decide ((c:Int)*(↑32:Int)≤281474976710656)&&decide ((c:Int)≤9223372036854775807))=true:=by simp;omega
 have e3:leB (0+c) (mr R.length (tr c R)).length=true:=by simp[leB,mr_length,tr_length]
 unfold M87.m
 simp only[e2,cond_true,Int.toNat_natCast,mr_length,key,bindO]
 have e3:leB (0+c) (tr c R).length=true:=by simp[leB,tr_length]
 simp only[e3,Bool.and_self,cond_true,List.drop_zero]
 rw[List.take_of_length_le (by rw[mr_length,tr_length];exact Nat.le_refl _)]
theorem turn40{c:Nat}{R:List Bits}(hc:c≤4096)(hR:R.length≤4096)(h:SupM c R):M40.m ⟨c,mr c R⟩=some ((R.length:Int),mr R.length (tr c R),0):=by
 unfold M40.m
 simp only[valid hc hR h,bindO,nz,cond_false,turned hc hR]
end Gf
end Go.Proofs.Ytddaobhpffpmoaa
namespace Go.Proofs.Ytddaobhpffpmoaa
open Go.Abs
namespace Gf
def lr(c:Nat)(R:List Bits):List (List Int):=R.map (lb c)
end Gf
end Go.Proofs.Ytddaobhpffpmoaa
