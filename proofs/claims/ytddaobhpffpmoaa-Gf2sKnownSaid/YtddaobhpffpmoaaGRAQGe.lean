/-
  What the proof stands on.
-/
import Derived.Test.YtddaobhpffpmoaaGRAQGd
import Derived.Test.YtddaobhpffpmoaaGRAQGa
import Derived.Test.YtddaobhpffpmoaaGRAQGb
import Derived.Test.YtddaobhpffpmoaaGRAQGc
set_option linter.all false
namespace Go.Proofs.Ytddaobhpffpmoaa
open Go.Abs
namespace Gf
abbrev Q7:=Nat→Bool
def mr(c:Nat)(R:List Q7):List (Int×List Int):=R.map fun b=>((c:Int),vw c b)
theorem Q6(c:Nat)(R:List Q7):(mr c R).length=R.length:=by simp[mr]
theorem mr_at{c:Nat}{R:List Q7}{i:Nat}(h:i<R.length):(mr c R)[(i:Int).toNat]?.getD (0,[])=((c:Int),vw c R[i]):=by
 unfold mr
 rw[Int.toNat_natCast,List.getElem?_map,List.getElem?_eq_getElem h];rfl
theorem mr_at'{c:Nat}{R:List Q7}{i:Nat}(h:i<R.length):(mr c R)[i]?.getD (0,[])=((c:Int),vw c R[i]):=by
 unfold mr
 rw[List.getElem?_map,List.getElem?_eq_getElem h];rfl
def Ql(c:Nat)(R:List Q7):Prop:=∀b∈R,Sup c b
theorem nz:((0:Int) !=0)=false:=rfl
theorem J2(v:Int):(v !=v)=false:=by simp
theorem valid{c:Nat}{R:List Q7}(hc:c≤4096)(hR:R.length≤4096)(h:Ql c R):M50.m ⟨c,mr c R⟩=some 0:=by
 have key:=QR (step:=M50.s0) (fun i=>⟨mr c R,(R.length:Int),(i:Int),(c:Int),mr c R⟩) R.length (y:=.inl PUnit.unit) (fun i hi=>by
  have e1:decide ((i:Int)<(R.length:Int))=true:=by simpa using hi
  have e2:inR (i:Int) (mr c R).length=true:=QD (by rw[Q6];exact hi)
  unfold M50.s0
  simp only[e1,e2,mr_at hi,check hc (h _ (List.getElem_mem hi)),Q0,nz,J2,cond_true,cond_false,suc (show i<9000000000000000000 by omega)]) (by
  have e1:decide ((R.length:Int)<(R.length:Int))=false:=by simp
  unfold M50.s0
  simp only[e1,cond_false])
 have key:iter M50.s0 ⟨mr c R,(R.length:Int),0,(c:Int),mr c R⟩=_:=key
 unfold M50.m
 simp only[size hc,Q6,size hR,Q0,nz,cond_false,key,J6]
def app(c:Nat)(R:List Q7)(v:Q7):Q7:=fun i=>match R[i]? with|some b=>dot c b v|none=>false
theorem Vr(c:Nat)(R:List Q7)(v:Q7):Sup R.length (app c R v):=fun i hi=>by unfold app;rw[List.getElem?_eq_none hi]
theorem app_at{c:Nat}{R:List Q7}(v:Q7){i:Nat}(h:i<R.length):app c R v i=dot c R[i] v:=by unfold app;rw[List.getElem?_eq_getElem h]
theorem upto{b:Q7}{i:Nat}:(b i=false→(fun k=>decide (k<i)&&b k)=fun k=>decide (k<i+1)&&b k)∧(b i=true→fl (fun k=>decide (k<i)&&b k) i=fun k=>decide (k<i+1)&&b k):=by
 constructor
 ·intro h
  funext k
  by_cases hk:k=i
  ·subst hk;simp[h]
  ·have:(k<i)=(k<i+1):=by simp;omega
   simp only[this]
 ·intro h
  funext k
  unfold fl
  by_cases hk:k=i
  ·subst hk;simp[h]
  ·have:(k<i)=(k<i+1):=by simp;omega
   rw[if_neg hk]
   simp only[this]
theorem upto_all{b:Q7}{n:Nat}(h:Sup n b):(fun k=>decide (k<n)&&b k)=b:=by
 funext k
 by_cases hk:k<n
 ·simp[hk]
 ·simp[hk,h k (by omega)]
theorem upto_no{b:Q7}:(fun k=>decide (k<0)&&b k)=fun _=>false:=by funext k;simp
theorem apply{c:Nat}{R:List Q7}{v:Q7}(hc:c≤4096)(hR:R.length≤4096)(h:Ql c R)(hv:Sup c v):M29.m ⟨c,mr c R,c,vw c v⟩=some ((R.length:Int),vw R.length (app c R v),0):=by
 have hnw:nw R.length≤100:=by unfold nw;omega
 have key:=QR (step:=M29.s0) (fun i=>⟨mr c R,(R.length:Int),(i:Int),(c:Int),mr c R,(c:Int),vw c v,vw R.length (fun k=>decide (k<i)&&app c R v k),(R.length:Int),0,nw R.length,nw R.length⟩) R.length (y:=⟨(c:Int),mr c R,(c:Int),vw c v,vw R.length (app c R v),(R.length:Int),0,nw R.length,nw R.length⟩) (fun i hi=>by
  have e1:decide ((i:Int)<(R.length:Int))=true:=by simpa using hi
  have e2:inR (i:Int) (mr c R).length=true:=QD (by rw[Q6];exact hi)
  have e3:=app_at (c:=c) v hi
  unfold M29.s0
  simp only[e1,e2,mr_at hi,odd (b:=v) (c:Int) (show c≤1000000 by omega) (h _ (List.getElem_mem hi)),Q0,cond_true,suc (show i<9000000000000000000 by omega)]
  cases hd:dot c R[i] v with
  |true=>
   rw[←(upto (b:=app c R v) (i:=i)).2 (e3.trans hd)]
   simp only[cond_true,turn (n:=R.length) (i:=i) (R.length:Int) (nw R.length) _ (by omega) (show i / 64<nw R.length by unfold nw;omega)]
  |false=>
   rw[←(upto (b:=app c R v) (i:=i)).1 (e3.trans hd)]
   rfl) (by
  have e1:decide ((R.length:Int)<(R.length:Int))=false:=by simp
  unfold M29.s0
  simp only[e1,cond_false,upto_all (Vr c R v)])
 rw[upto_no]at key
 have key:iter M29.s0 ⟨mr c R,(R.length:Int),0,(c:Int),mr c R,(c:Int),vw c v,vw R.length (fun _=>false),(R.length:Int),0,nw R.length,nw R.length⟩=_:=key
 unfold M29.m
 simp only[valid hc hR h,check hc hv,Q0,nz,J2,cond_false,Q6,blank R.length (show R.length≤1000000 by omega),key,Jr,Bool.and_self,cond_true,JD]
theorem of23{L:List (List Int)}{c:Nat}(hc:c≤4096)(hL:L.length≤4096)(h:∀r∈L,r.length=c∧B01 r)(k:Int):M23.m ⟨L,k⟩=some (k,mr c (L.map bt)):=by
 have hm:∀i,i<L.length→mr c ((L.take (i+1)).map bt)=mr c ((L.take i).map bt)++[((c:Int),vw c (bt L[i]!))]:=fun i hi=>by
  unfold mr
  rw[List.take_succ_eq_append_getElem hi,List.map_append,List.map_append,getElem!_pos L i hi];rfl
 have key:=QR (step:=M23.s0) (fun i=>⟨L,(i:Int),k,0,i,mr c ((L.take i).map bt)⟩) L.length (y:=⟨k,0,L.length,mr c (L.map bt)⟩) (fun i hi=>by
  have e1:decide ((i:Int)<(L.length:Int))=true:=by simpa using hi
  obtain⟨h1,h2⟩:=h _ (List.getElem_mem hi)
  have e2:M24.m ⟨L[i]⟩=some ((c:Int),vw c (bt L[i])):=by have:=vec (l:=L[i]) (by omega) h2;rw[h1]at this;exact this
  have e3:(eqN 0 0&&eqN (mr c ((L.take i).map bt)).length i&&QP (i+1) 32)=true:=by
   have g1:eqN (mr c ((L.take i).map bt)).length i=true:=by
    rw[Q6];simp[eqN];omega
   have g2:QP (i+1) 32=true:=by simp[QP,leB];omega
   rw[g1,g2];rfl
  have e4:=hm i hi
  rw[getElem!_pos L i hi]at e4
  unfold M23.s0
  rw[e4]
  simp only[e1,QD hi,XJ hi,e2,Q0,e3,cond_true,suc (show i<9000000000000000000 by omega)]) (by
  have e1:decide ((L.length:Int)<(L.length:Int))=false:=by simp
  unfold M23.s0
  simp only[e1,cond_false,List.take_length])
 have key:iter M23.s0 ⟨L,0,k,0,0,[]⟩=_:=key
 have e5:leB (0+L.length) (mr c (L.map bt)).length=true:=by simp[leB,Q6]
 unfold M23.m
 simp only[key,Q0,e5,Bool.and_self,cond_true,List.drop_zero]
 rw[List.take_of_length_le (by rw[Q6];simp)]
end Gf
end Go.Proofs.Ytddaobhpffpmoaa
namespace Go.Proofs.Ytddaobhpffpmoaa
open Go.Abs
namespace Gf
def bit(B:List Q7)(t j:Nat):Bool:=match B[t]? with|some b=>b j|none=>false
theorem bit_at{B:List Q7}{t:Nat}(h:t<B.length)(j:Nat):bit B t j=B[t] j:=by unfold bit;rw[List.getElem?_eq_getElem h]
def xs(a:Q7)(B:List Q7)(i:Nat):Q7:=fun j=>cnt (fun t=>a t&&bit B t j) i%2==1
def Jq(a:Q7)(B:List Q7):Q7:=xs a B B.length
theorem xs_zero(a:Q7)(B:List Q7):xs a B 0=fun _=>false:=rfl
theorem xs_yes{a:Q7}{B:List Q7}{k:Nat}(hk:k<B.length)(ha:a k=true):xr (xs a B k) B[k]=xs a B (k+1):=by
 funext j
 unfold xr xs
 simp only[cnt,ha,bit_at hk,Bool.true_and]
 generalize cnt (fun t=>a t&&bit B t j) k=m
 rcases Nat.mod_two_eq_zero_or_one m with h|h
 ·cases B[k] j
  ·simp[h]
  ·have:(m+1)%2=1:=by omega
   simp[h,this]
 ·cases B[k] j
  ·simp[h]
  ·have:(m+1)%2=0:=by omega
   simp[h,this]
theorem xs_no{a:Q7}{B:List Q7}{k:Nat}(ha:a k=false):xs a B k=xs a B (k+1):=by
 funext j
 unfold xs
 simp only[cnt,ha,Bool.false_and,Bool.toNat_false,Nat.add_zero]
theorem xs_sup{c:Nat}{a:Q7}{B:List Q7}(h:Ql c B):∀k,Sup c (xs a B k):=fun k j hj=>by
 unfold xs
 rw[UT fun t _=> ?_]
 ·rfl
 unfold bit
 cases ht:B[t]? with
 |none=>simp
 |some b=>simp[h b (List.mem_of_getElem? ht) j hj]
theorem Z1{α:Type}{l:List α}{i:Nat}(h:i<l.length)(x:α):List.take i l++x::List.drop (i+1) l=l.set i x:=by
 rw[List.set_eq_take_append_cons_drop,if_pos h]
theorem mul{n c:Nat}{A B:List Q7}(hn:n=B.length)(hn':n≤4096)(hc:c≤4096)(hA:A.length≤4096)(sA:Ql n A)(sB:Ql c B):
  M39.m ⟨n,mr n A,c,mr c B⟩=some ((c:Int),mr c (A.map fun a=>Jq a B),0):=by
 have inner:∀(i:Nat) (hi:i<A.length) (out:List (Int×List Int)),out.length=A.length→
   iter M39.s2 ⟨(i:Int),mr n A,(A.length:Int),(i:Int),mr c B,(B.length:Int),0,(n:Int),mr n A,(c:Int),mr c B,out.set i ((c:Int),vw c (fun _=>false)),(c:Int),0,A.length,A.length,(n:Int),vw n A[i]⟩=
    some ⟨mr n A,(A.length:Int),(i:Int),(n:Int),mr n A,(c:Int),mr c B,out.set i ((c:Int),vw c (Jq A[i] B)),(c:Int),0,A.length,A.length⟩:=fun i hi out ho=>by
  have key:=QR (step:=M39.s2) (fun k=>⟨(i:Int),mr n A,(A.length:Int),(i:Int),mr c B,(B.length:Int),(k:Int),(n:Int),mr n A,(c:Int),mr c B,out.set i ((c:Int),vw c (xs A[i] B k)),(c:Int),0,A.length,A.length,(n:Int),vw n A[i]⟩) B.length
   (y:=⟨mr n A,(A.length:Int),(i:Int),(n:Int),mr n A,(c:Int),mr c B,out.set i ((c:Int),vw c (Jq A[i] B)),(c:Int),0,A.length,A.length⟩) (fun k hk=>by
    have e1:decide ((k:Int)<(B.length:Int))=true:=by simpa using hk
    have e2:inR (k:Int) (mr c B).length=true:=QD (by rw[Q6];exact hk)
    have e3:decide (0+i<(out.set i ((c:Int),vw c (xs A[i] B k))).length)=true:=by rw[List.length_set,ho];simpa using hi
    have e4:(out.set i ((c:Int),vw c (xs A[i] B k)))[0+i]?.getD (0,[])=((c:Int),vw c (xs A[i] B k)):=by
     rw[Nat.zero_add,List.getElem?_set_self (by omega)];rfl
    unfold M39.s2
    simp only[e1,e2,has (n:=n) (i:=k) (n:Int) A[i] (by omega) (by unfold nw;omega),Q0,cond_true,suc (show k<9000000000000000000 by omega)]
    cases ha:A[i] k with
    |true=>
     rw[←xs_yes hk ha]
     simp only[cond_true,QD hi,Int.toNat_natCast,e3,e4,mr_at' hk,sum (xs A[i] B k) B[k] (c:Int) (show c≤1000000 by omega)]
     rw[Nat.zero_add,List.set_set]
    |false=>
     rw[←xs_no ha]
     rfl) (by
    have e1:decide ((B.length:Int)<(B.length:Int))=false:=by simp
    unfold M39.s2
    simp only[e1,cond_false]
    rfl)
  rw[xs_zero]at key
  exact key
 have key:=QR (step:=M39.s1) (fun i=>⟨mr n A,(A.length:Int),(i:Int),(n:Int),mr n A,(c:Int),mr c B,mix (fun i=>((c:Int),vw c (Jq (A[i]?.getD fun _=>false) B))) (fun _=>(0,[])) i A.length,(c:Int),0,A.length,A.length⟩) A.length
  (y:=⟨(n:Int),mr n A,(c:Int),mr c B,mr c (A.map fun a=>Jq a B),(c:Int),0,A.length,A.length⟩) (fun i hi=>by
   have e1:decide ((i:Int)<(A.length:Int))=true:=by simpa using hi
   have e2:inR (i:Int) (mr n A).length=true:=QD (by rw[Q6];exact hi)
   have hm:=Y3 (fun i=>((c:Int),vw c (Jq (A[i]?.getD fun _=>false) B))) (fun _=>((0:Int),([]:List Int))) hi
   have hl:=JW (fun i=>((c:Int),vw c (Jq (A[i]?.getD fun _=>false) B))) (fun _=>((0:Int),([]:List Int))) i A.length
   rw[←hm]
   generalize mix (fun i=>((c:Int),vw c (Jq (A[i]?.getD fun _=>false) B))) (fun _=>((0:Int),([]:List Int))) i A.length=out at hl⊢
   have e3:decide (0+i<out.length)=true:=by rw[hl];simpa using hi
   have e4:A[i]?.getD (fun _=>false)=A[i]:=by rw[List.getElem?_eq_getElem hi];rfl
   have e5:=inner i hi out hl
   unfold M39.s1
   simp only[e1,e2,blank c (show c≤1000000 by omega),Q0,cond_true,QD hi,Int.toNat_natCast,e3,Jr,Bool.and_self,JD,mr_at' hi,Q6]
   rw[Nat.zero_add,Z1 (by omega),e5]
   simp only[e4,suc (show i<9000000000000000000 by omega)]) (by
   have e1:decide ((A.length:Int)<(A.length:Int))=false:=by simp
   have e2:mix (fun i=>((c:Int),vw c (Jq (A[i]?.getD fun _=>false) B))) (fun _=>((0:Int),([]:List Int))) A.length A.length=mr c (A.map fun a=>Jq a B):=by
    rw[ZG]
    refine List.ext_getElem? fun j=> ?_
    unfold mr
    by_cases hj:j<A.length
    ·simp[hj]
    ·simp[hj]
   unfold M39.s1
   simp only[e1,cond_false,e2])
 rw[ZF,XH (fun _=>((0:Int),([]:List Int)))]at key
 have key:iter M39.s1 ⟨mr n A,(A.length:Int),0,(n:Int),mr n A,(c:Int),mr c B,List.replicate A.length (0,[]),(c:Int),0,A.length,A.length⟩=_:=key
 have k0:iter M39.s0 ⟨[((n:Int),mr n A),((c:Int),mr c B)],(↑2:Int),0,(n:Int),mr n A,(c:Int),mr c B⟩=some (.inl ⟨(n:Int),mr n A,(c:Int),mr c B⟩):=by
  have vA:=valid (R:=A) hn' hA sA
  have vB:=valid (R:=B) hc (by omega) sB
  have k:=QR (step:=M39.s0) (fun i=>⟨[((n:Int),mr n A),((c:Int),mr c B)],2,(i:Int),(n:Int),mr n A,(c:Int),mr c B⟩) 2 (y:=.inl ⟨(n:Int),mr n A,(c:Int),mr c B⟩) (fun i hi=>by
   rcases (show i=0∨i=1 by omega) with rfl|rfl
   ·unfold M39.s0
    simp only[show decide (((0:Nat):Int)<2)=true from rfl,show inR ((0:Nat):Int) [((n:Int),mr n A),((c:Int),mr c B)].length=true from rfl,cond_true]
    show Q0 (M50.m ⟨(n:Int),mr n A⟩) _=_
    rw[vA]
    simp only[Q0,nz,cond_false]
    rfl
   ·unfold M39.s0
    simp only[show decide (((1:Nat):Int)<2)=true from rfl,show inR ((1:Nat):Int) [((n:Int),mr n A),((c:Int),mr c B)].length=true from rfl,cond_true]
    show Q0 (M50.m ⟨(c:Int),mr c B⟩) _=_
    rw[vB]
    simp only[Q0,nz,cond_false]
    rfl) rfl
  exact k
 have e1:((n:Int) !=(B.length:Int))=false:=by rw[hn];simp
 have e2:(decide (0≤(A.length:Int))&&decide ((A.length:Int)≤(A.length:Int))&&decide ((A.length:Int)*(↑32:Int)≤281474976710656)&&decide ((A.length:Int)≤9223372036854775807))=true:=by simp;omega
 have e3:leB (0+A.length) (A.map fun a=>Jq a B).length=true:=by simp[leB]
 unfold M39.m
 simp only[k0,Q0,J6,Q6,e1,cond_false,e2,cond_true,Int.toNat_natCast,key,e3,Bool.and_self,List.drop_zero]
 rw[List.take_of_length_le (by rw[Q6];simp)]
end Gf
end Go.Proofs.Ytddaobhpffpmoaa
namespace Go.Proofs.Ytddaobhpffpmoaa
open Go.Abs
namespace Gf
def col(R:List Q7)(k:Nat):Q7:=fun i=>bit R i k
theorem col_sup(R:List Q7)(k:Nat):Sup R.length (col R k):=fun i hi=>by unfold col bit;rw[List.getElem?_eq_none hi]
def tr(c:Nat)(R:List Q7):List Q7:=(List.range c).map (col R)
theorem Qi(c:Nat)(R:List Q7):(tr c R).length=c:=by simp[tr]
theorem turned{c:Nat}{R:List Q7}(hc:c≤4096)(hR:R.length≤4096):M87.m ⟨c,mr c R⟩=some ((R.length:Int),mr R.length (tr c R)):=by
 have inner:∀(k:Nat) (hk:k<c) (out out_r:List (Int×List Int)),out.length=k→
   iter M87.s1 ⟨(c:Int),(k:Int),(k:Int),mr c R,(R.length:Int),0,(c:Int),mr c R,out,(R.length:Int),0,nw R.length,nw R.length,out_r,(R.length:Int),0,c,c,vw R.length (fun _=>false)⟩=
    some ⟨(c:Int),(k:Int),(c:Int),mr c R,out,(R.length:Int),0,nw R.length,nw R.length,out_r,(R.length:Int),0,c,c,vw R.length (col R k)⟩:=fun k hk out out_r ho=>by
  have key:=QR (step:=M87.s1) (fun i=>⟨(c:Int),(k:Int),(k:Int),mr c R,(R.length:Int),(i:Int),(c:Int),mr c R,out,(R.length:Int),0,nw R.length,nw R.length,out_r,(R.length:Int),0,c,c,vw R.length (fun t=>decide (t<i)&&col R k t)⟩) R.length
   (y:=⟨(c:Int),(k:Int),(c:Int),mr c R,out,(R.length:Int),0,nw R.length,nw R.length,out_r,(R.length:Int),0,c,c,vw R.length (col R k)⟩) (fun i hi=>by
    have e1:decide ((i:Int)<(R.length:Int))=true:=by simpa using hi
    have e2:inR (i:Int) (mr c R).length=true:=QD (by rw[Q6];exact hi)
    have e3:eqN (0+k) out.length=true:=by simp[eqN,ho]
    have e4:col R k i=R[i] k:=bit_at hi k
    unfold M87.s1
    simp only[e1,e2,mr_at hi,has (n:=c) (i:=k) (c:Int) R[i] (by omega) (by unfold nw;omega),Q0,cond_true,suc (show i<9000000000000000000 by omega)]
    cases ha:R[i] k with
    |true=>
     rw[←(upto (b:=col R k) (i:=i)).2 (e4.trans ha)]
     simp only[cond_true,QD hk,Int.toNat_natCast,e3,turn (n:=R.length) (i:=i) (R.length:Int) (nw R.length) _ (by omega) (show i / 64<nw R.length by unfold nw;omega)]
    |false=>
     rw[←(upto (b:=col R k) (i:=i)).1 (e4.trans ha)]
     rfl) (by
    have e1:decide ((R.length:Int)<(R.length:Int))=false:=by simp
    unfold M87.s1
    simp only[e1,cond_false,upto_all (col_sup R k)])
  rw[upto_no]at key
  exact key
 have key:=QR (step:=M87.s0) (fun k=>⟨(c:Int),(k:Int),(c:Int),mr c R,mix (fun k=>((R.length:Int),vw R.length (col R k))) (fun _=>(0,[])) k c,(R.length:Int),0,c,c⟩) c
  (y:=⟨(c:Int),mr c R,mr R.length (tr c R),(R.length:Int),0,c,c⟩) (fun k hk=>by
   have e1:decide ((k:Int)<(c:Int))=true:=by simpa using hk
   have hm:=Y3 (fun k=>((R.length:Int),vw R.length (col R k))) (fun _=>((0:Int),([]:List Int))) hk
   have hl:=JW (fun k=>((R.length:Int),vw R.length (col R k))) (fun _=>((0:Int),([]:List Int))) k c
   rw[←hm]
   generalize mix (fun k=>((R.length:Int),vw R.length (col R k))) (fun _=>((0:Int),([]:List Int))) k c=out at hl⊢
   have e3:decide (0+k<out.length)=true:=by rw[hl];simpa using hk
   have e5:=inner k hk (List.take k out) (List.drop (k+1) out) (by rw[List.length_take];omega)
   unfold M87.s0
   simp only[e1,blank R.length (show R.length≤1000000 by omega),Q0,cond_true,QD hk,Int.toNat_natCast,e3,Q6]
   rw[Nat.zero_add,e5]
   simp only[Jr,Bool.and_self,cond_true,JD,suc (show k<9000000000000000000 by omega)]
   rw[Z1 (by omega)]) (by
   have e1:decide ((c:Int)<(c:Int))=false:=by simp
   have e2:mix (fun k=>((R.length:Int),vw R.length (col R k))) (fun _=>((0:Int),([]:List Int))) c c=mr R.length (tr c R):=by
    rw[ZG]
    unfold mr tr
    rw[List.map_map];rfl
   unfold M87.s0
   simp only[e1,cond_false,e2])
 rw[ZF,XH (fun _=>((0:Int),([]:List Int)))]at key
 have key:iter M87.s0 ⟨(c:Int),0,(c:Int),mr c R,List.replicate c (0,[]),(R.length:Int),0,c,c⟩=_:=key
 have e2:(decide (0≤(c:Int))&&decide ((c:Int)≤(c:Int))&&decide ((c:Int)*(↑32:Int)≤281474976710656)&&decide ((c:Int)≤9223372036854775807))=true:=by simp;omega
 have e3:leB (0+c) (mr R.length (tr c R)).length=true:=by simp[leB,Q6,Qi]
 unfold M87.m
 simp only[e2,cond_true,Int.toNat_natCast,Q6,key,Q0]
 have e3:leB (0+c) (tr c R).length=true:=by simp[leB,Qi]
 simp only[e3,Bool.and_self,cond_true,List.drop_zero]
 rw[List.take_of_length_le (by rw[Q6,Qi];exact Nat.le_refl _)]
theorem Vx{c:Nat}{R:List Q7}(hc:c≤4096)(hR:R.length≤4096)(h:Ql c R):M40.m ⟨c,mr c R⟩=some ((R.length:Int),mr R.length (tr c R),0):=by
 unfold M40.m
 simp only[valid hc hR h,Q0,nz,cond_false,turned hc hR]
end Gf
end Go.Proofs.Ytddaobhpffpmoaa
namespace Go.Proofs.Ytddaobhpffpmoaa
open Go.Abs
namespace Gf
theorem lb_more(n:Nat)(b:Nat→Bool):lb (n+1) b=lb n b++[i01 (b n)]:=by
 unfold lb
 rw[List.range_succ,List.map_append];rfl
def lr(c:Nat)(R:List Q7):List (List Int):=R.map (lb c)
theorem Qt(c:Nat)(R:List Q7):(lr c R).length=R.length:=by simp[lr]
theorem lr_at{c:Nat}{R:List Q7}{i:Nat}(h:i<R.length):(lr c R)[(i:Int).toNat]?.getD []=lb c R[i]:=by
 unfold lr
 rw[Int.toNat_natCast,List.getElem?_map,List.getElem?_eq_getElem h];rfl
theorem lr_at'{c:Nat}{R:List Q7}{i:Nat}(h:i<R.length):(lr c R)[i]?.getD []=lb c R[i]:=by
 unfold lr
 rw[List.getElem?_map,List.getElem?_eq_getElem h];rfl
theorem lr_bt{L:List (List Int)}{c:Nat}(h:∀r∈L,r.length=c∧B01 r):lr c (L.map bt)=L:=by
 unfold lr
 rw[List.map_map]
 conv=>rhs;rw[←List.map_id L]
 refine List.map_congr_left fun r hr=> ?_
 obtain⟨h1,h2⟩:=h r hr
 have:=lb_bt h2
 rw[h1]at this
 exact this
theorem matches'{c:Nat}{R:List Q7}(hc:c≤4096)(hR:R.length≤4096)(h:Ql c R):M41.m ⟨c,mr c R,0,lr c R,c⟩=some true:=by
 have key:=QR (step:=M41.s0) (fun i=>⟨lr c R,(i:Int),(c:Int),mr c R⟩) R.length (y:=.inl PUnit.unit) (fun i hi=>by
  have e1:decide ((i:Int)<((lr c R).length:Int))=true:=by rw[Qt];simpa using hi
  have e2:inR (i:Int) (mr c R).length=true:=QD (by rw[Q6];exact hi)
  have e3:inR (i:Int) (lr c R).length=true:=QD (by rw[Qt];exact hi)
  unfold M41.s0
  simp only[e1,e2,e3,mr_at hi,lr_at hi,equal hc (h _ (List.getElem_mem hi)),Q0,cond_true,Bool.not_true,cond_false,suc (show i<9000000000000000000 by omega)]) (by
  have e1:decide ((R.length:Int)<((lr c R).length:Int))=false:=by rw[Qt];simp
  unfold M41.s0
  simp only[e1,cond_false])
 have key:iter M41.s0 ⟨lr c R,0,(c:Int),mr c R⟩=_:=key
 unfold M41.m
 simp only[nz,Bool.not_false,cond_true,valid hc hR h,Q0,cond_false,J2,Q6,Qt,key,J6]
theorem ref44{c:Nat}{R:List Q7}{v:Q7}(hc:c≤4096)(hR:R.length≤4096)(h:Ql c R)(hv:Sup c v):M44.m ⟨lr c R,lb c v⟩=some (lb R.length (app c R v)):=by
 have key:=QR (step:=M44.s0) (fun i=>⟨lr c R,lb c v,0,i,(i:Int),lb i (app c R v)⟩) R.length (y:=⟨0,R.length,lb R.length (app c R v)⟩) (fun i hi=>by
  have e1:decide ((i:Int)<((lr c R).length:Int))=true:=by rw[Qt];simpa using hi
  have e3:inR (i:Int) (lr c R).length=true:=QD (by rw[Qt];exact hi)
  have e4:M35.m ⟨lb c R[i],lb c v⟩=some (i01 (dot c R[i] v)):=by
   have:=ref35 (a:=lb c R[i]) (v:=lb c v) (by rw[Qd];omega) (by rw[Qd,Qd];exact Nat.le_refl _) (lb01 _ _) (lb01 _ _)
   rw[Qd,bt_lb c _ (h _ (List.getElem_mem hi)),bt_lb c _ hv]at this
   exact this
  have e5:(eqN 0 0&&eqN (lb i (app c R v)).length i&&QP (i+1) 1)=true:=by
   have g1:eqN (lb i (app c R v)).length i=true:=by simp[eqN,Qd]
   have g2:QP (i+1) 1=true:=by simp[QP,leB];omega
   rw[g1,g2];rfl
  unfold M44.s0
  rw[lb_more,app_at v hi]
  simp only[e1,e3,lr_at hi,e4,e5,Q0,cond_true,suc (show i<9000000000000000000 by omega)]) (by
  have e1:decide ((R.length:Int)<((lr c R).length:Int))=false:=by rw[Qt];simp
  unfold M44.s0
  simp only[e1,cond_false])
 have key:iter M44.s0 ⟨lr c R,lb c v,0,0,0,[]⟩=_:=key
 have e5:leB (0+R.length) (lb R.length (app c R v)).length=true:=by simp[leB,Qd]
 unfold M44.m
 simp only[key,Q0,e5,Bool.and_self,cond_true,List.drop_zero]
 rw[List.take_of_length_le (by rw[Qd];exact Nat.le_refl _)]
theorem lb_col{R:List Q7}(k:Nat){i:Nat}(hi:i<R.length):lb (i+1) (col R k)=lb i (col R k)++[i01 (R[i] k)]:=by
 rw[lb_more]
 unfold col
 rw[bit_at hi]
theorem ref43{c:Nat}{R:List Q7}(hc:c≤4096)(hR:R.length≤4096):M43.m ⟨lr c R,c⟩=some (lr R.length (tr c R)):=by
 have inner:∀(k:Nat) (hk:k<c) (out:List (List Int)) (ol:Nat),iter M43.s1 ⟨lr c R,(c:Int),0,ol,(k:Int),0,0,0,out,[]⟩=some ⟨lr c R,(c:Int),0,ol,(k:Int),0,R.length,out,lb R.length (col R k)⟩:=fun k hk out ol=>by
  have key:=QR (step:=M43.s1) (fun i=>⟨lr c R,(c:Int),0,ol,(k:Int),0,i,(i:Int),out,lb i (col R k)⟩) R.length (y:=⟨lr c R,(c:Int),0,ol,(k:Int),0,R.length,out,lb R.length (col R k)⟩) (fun i hi=>by
   have e1:decide ((i:Int)<((lr c R).length:Int))=true:=by rw[Qt];simpa using hi
   have e3:inR (i:Int) (lr c R).length=true:=QD (by rw[Qt];exact hi)
   have e4:inR (k:Int) (List.length (lb c R[i]))=true:=QD (by rw[Qd];exact hk)
   have e5:(eqN 0 0&&eqN (lb i (col R k)).length i&&QP (i+1) 1)=true:=by
    have g1:eqN (lb i (col R k)).length i=true:=by simp[eqN,Qd]
    have g2:QP (i+1) 1=true:=by simp[QP,leB];omega
    rw[g1,g2];rfl
   unfold M43.s1
   rw[lb_col k hi]
   simp only[e1,e3,Int.toNat_natCast,lr_at' hi,e4,e5,cond_true,lb_at c R[i] hk,Option.getD_some,suc (show i<9000000000000000000 by omega)]) (by
   have e1:decide ((R.length:Int)<((lr c R).length:Int))=false:=by rw[Qt];simp
   unfold M43.s1
   simp only[e1,cond_false])
  exact key
 have ts:∀k,lr R.length ((List.range (k+1)).map (col R))=lr R.length ((List.range k).map (col R))++[lb R.length (col R k)]:=fun k=>by
  unfold lr
  rw[List.range_succ,List.map_append,List.map_append];rfl
 have key:=QR (step:=M43.s0) (fun k=>⟨lr c R,(c:Int),0,k,(k:Int),lr R.length ((List.range k).map (col R))⟩) c (y:=⟨0,c,lr R.length (tr c R)⟩) (fun k hk=>by
  have e1:decide ((k:Int)<(c:Int))=true:=by simpa using hk
  have e5:(eqN 0 0&&eqN (lr R.length ((List.range k).map (col R))).length k&&QP (k+1) 24)=true:=by
   have g1:eqN (lr R.length ((List.range k).map (col R))).length k=true:=by simp[eqN,Qt]
   have g2:QP (k+1) 24=true:=by simp[QP,leB];omega
   rw[g1,g2];rfl
  have e6:leB (0+R.length) (lb R.length (col R k)).length=true:=by simp[leB,Qd]
  have e7:List.take R.length (List.drop 0 (lb R.length (col R k)))=lb R.length (col R k):=by rw[List.drop_zero,List.take_of_length_le (by rw[Qd];exact Nat.le_refl _)]
  unfold M43.s0
  rw[ts]
  simp only[e1,inner k hk,Q0,e5,e6,e7,Bool.and_self,cond_true,suc (show k<9000000000000000000 by omega)]) (by
  have e1:decide ((c:Int)<(c:Int))=false:=by simp
  unfold M43.s0
  simp only[e1,cond_false]
  rfl)
 have key:iter M43.s0 ⟨lr c R,(c:Int),0,0,0,[]⟩=_:=key
 have e5:leB (0+c) (lr R.length (tr c R)).length=true:=by simp[leB,Qt,Qi]
 unfold M43.m
 simp only[key,Q0,e5,Bool.and_self,cond_true,List.drop_zero]
 rw[List.take_of_length_le (by rw[Qt,Qi];exact Nat.le_refl _)]
end Gf
end Go.Proofs.Ytddaobhpffpmoaa
