/- A part of the proof. -/
import Derived.Test.YtddaobhpffpmoaaSR7QGd
import Derived.Test.YtddaobhpffpmoaaSR7QGa
import Derived.Test.YtddaobhpffpmoaaSR7QGb
import Derived.Test.YtddaobhpffpmoaaSR7QGc
set_option linter.all false
namespace Go.Proofs.Ytddaobhpffpmoaa
open Go.Abs
namespace Gf
abbrev Q7:=Nat->Bool
def mr(c:Nat)(R:List Q7):List (Int×List Int):=R.map λb=>((c:Int),vw c b)
theorem QD(c:Nat)(R:List Q7):(mr c R).length=R.length:=by simp[mr]
theorem mr_at{c:Nat}{R:List Q7}{i:Nat}(h:i<R.length):(mr c R)[(i:Int).toNat]?.getD (0,[])=((c:Int),vw c R[i]):=by unfold mr;rw[A8,AX,A3 h];rfl
theorem mr_at'{c:Nat}{R:List Q7}{i:Nat}(h:i<R.length):(mr c R)[i]?.getD (0,[])=((c:Int),vw c R[i]):=by unfold mr;rw[AX,A3 h];rfl
def Y8(c:Nat)(R:List Q7):Prop:=∀b∈R,Sup c b
theorem nz:((0:Int) !=0)=false:=rfl
theorem X5(v:Int):(v !=v)=false:=by simp
theorem valid{c:Nat}{R:List Q7}(hc:c<=4096)(hR:R.length<=4096)(h:Y8 c R):M50.m ⟨c,mr c R⟩=some 0:=by
 have key:=QV (step:=M50.s0) (λi=>⟨mr c R,(R.length:Int),(i:Int),(c:Int),mr c R⟩) R.length (y:=.inl PUnit.unit) (λi hi=>by
  have e1:decide ((i:Int)<(R.length:Int))=true:=(by simpa using hi);have e2:inR (i:Int) (mr c R).length=true:=Q6 (by rw[QD];exact hi);unfold M50.s0;simp only[e1,e2,mr_at hi,check hc (h _ (AJ hi)),bindO,nz,X5,A7,AA,suc (show i<9000000000000000000 by omega)]) (by
  have e1:decide ((R.length:Int)<(R.length:Int))=false:=(by simp);unfold M50.s0;simp only[e1,AA])
 have key:iter M50.s0 ⟨mr c R,(R.length:Int),0,(c:Int),mr c R⟩=_:=key;unfold M50.m;simp only[size hc,QD,size hR,bindO,nz,AA,key,sumC]
def app(c:Nat)(R:List Q7)(v:Q7):Q7:=λi=>match R[i]? with|some b=>dot c b v|none=>false
theorem V2(c:Nat)(R:List Q7)(v:Q7):Sup R.length (app c R v):=λi hi=>by unfold app;rw[Ad hi]
theorem app_at{c:Nat}{R:List Q7}(v:Q7){i:Nat}(h:i<R.length):app c R v i=dot c R[i] v:=by unfold app;rw[A3 h]
theorem upto{b:Q7}{i:Nat}:(b i=false->(λk=>decide (k<i)&&b k)=λk=>decide (k<i+1)&&b k)/\(b i=true->fl (λk=>decide (k<i)&&b k) i=λk=>decide (k<i+1)&&b k):=by
 constructor
 ·intro h;funext k;by_cases hk:k=i
  ·subst hk;simp[h]
  ·have:(k<i)=(k<i+1):=(by simp;omega);simp only[this]
 ·intro h;funext k;unfold fl;by_cases hk:k=i
  ·subst hk;simp[h]
  ·have:(k<i)=(k<i+1):=(by simp;omega);rw[AE hk];simp only[this]
theorem upto_all{b:Q7}{n:Nat}(h:Sup n b):(λk=>decide (k<n)&&b k)=b:=by
 funext k;by_cases hk:k<n
 ·simp[hk]
 ·simp[hk,h k (by omega)]
theorem upto_no{b:Q7}:(λk=>decide (k<0)&&b k)=λ_=>false:=by funext k;simp
theorem apply{c:Nat}{R:List Q7}{v:Q7}(hc:c<=4096)(hR:R.length<=4096)(h:Y8 c R)(hv:Sup c v):M29.m ⟨c,mr c R,c,vw c v⟩=some ((R.length:Int),vw R.length (app c R v),0):=by
 have hnw:nw R.length<=100:=by unfold nw;omega
 have key:=QV (step:=M29.s0) (λi=>⟨mr c R,(R.length:Int),(i:Int),(c:Int),mr c R,(c:Int),vw c v,vw R.length (λk=>decide (k<i)&&app c R v k),(R.length:Int),0,nw R.length,nw R.length⟩) R.length (y:=⟨(c:Int),mr c R,(c:Int),vw c v,vw R.length (app c R v),(R.length:Int),0,nw R.length,nw R.length⟩) (λi hi=>by
  have e1:decide ((i:Int)<(R.length:Int))=true:=(by simpa using hi);have e2:inR (i:Int) (mr c R).length=true:=Q6 (by rw[QD];exact hi);have e3:=app_at (c:=c) v hi;unfold M29.s0;simp only[e1,e2,mr_at hi,odd (b:=v) (c:Int) (show c<=1000000 by omega) (h _ (AJ hi)),bindO,A7,suc (show i<9000000000000000000 by omega)]
  cases hd:dot c R[i] v with
  |true=>rw[<-(upto (b:=app c R v) (i:=i)).2 (e3.trans hd)];simp only[A7,turn (n:=R.length) (i:=i) (R.length:Int) (nw R.length) _ (by omega) (show i / 64<nw R.length by unfold nw;omega)]
  |false=>
   rw[<-(upto (b:=app c R v) (i:=i)).1 (e3.trans hd)];rfl) (by
  have e1:decide ((R.length:Int)<(R.length:Int))=false:=(by simp);unfold M29.s0;simp only[e1,AA,upto_all (V2 c R v)])
 rw[upto_no]at key;have key:iter M29.s0 ⟨mr c R,(R.length:Int),0,(c:Int),mr c R,(c:Int),vw c v,vw R.length (λ_=>false),(R.length:Int),0,nw R.length,nw R.length⟩=_:=key;unfold M29.m;simp only[valid hc hR h,check hc hv,bindO,nz,X5,AA,QD,blank R.length (show R.length<=1000000 by omega),key,Z6,AY,A7,Jt]
end Gf
namespace Gf
def bit(B:List Q7)(t j:Nat):Bool:=match B[t]? with|some b=>b j|none=>false
theorem bit_at{B:List Q7}{t:Nat}(h:t<B.length)(j:Nat):bit B t j=B[t] j:=by unfold bit;rw[A3 h]
def xs(a:Q7)(B:List Q7)(i:Nat):Q7:=λj=>cnt (λt=>a t&&bit B t j) i%2==1
def YX(a:Q7)(B:List Q7):Q7:=xs a B B.length
theorem xs_zero(a:Q7)(B:List Q7):xs a B 0=λ_=>false:=rfl
theorem xs_yes{a:Q7}{B:List Q7}{k:Nat}(hk:k<B.length)(ha:a k=true):xr (xs a B k) B[k]=xs a B (k+1):=by
 funext j;unfold xr xs;simp only[cnt,ha,bit_at hk,BF];generalize cnt (λt=>a t&&bit B t j) k=m;rcases B7 m with h|h
 ·cases B[k] j
  ·simp[h]
  ·have:(m+1)%2=1:=(by omega);simp[h,this]
 ·cases B[k] j
  ·simp[h]
  ·have:(m+1)%2=0:=(by omega);simp[h,this]
theorem xs_no{a:Q7}{B:List Q7}{k:Nat}(ha:a k=false):xs a B k=xs a B (k+1):=by funext j;unfold xs;simp only[cnt,ha,C2,Bool.toNat_false,BZ]
theorem xs_sup{c:Nat}{a:Q7}{B:List Q7}(h:Y8 c B):∀k,Sup c (xs a B k):=λk j hj=>by
 unfold xs;rw[Wr λt _=> ?_]
 ·rfl
 unfold bit
 cases ht:B[t]? with
 |none=>simp
 |some b=>simp[h b (BW ht) j hj]
theorem K3{α:Type}{l:List α}{i:Nat}(h:i<l.length)(x:α):List.take i l++x::List.drop (i+1) l=l.set i x:=by rw[List.set_eq_take_append_cons_drop,AB h]
theorem mul{n c:Nat}{A B:List Q7}(hn:n=B.length)(hn':n<=4096)(hc:c<=4096)(hA:A.length<=4096)(sA:Y8 n A)(sB:Y8 c B):
  M39.m ⟨n,mr n A,c,mr c B⟩=some ((c:Int),mr c (A.map λa=>YX a B),0):=by
 have inner:∀(i:Nat) (hi:i<A.length) (out:List (Int×List Int)),out.length=A.length->
   iter M39.s2 ⟨(i:Int),mr n A,(A.length:Int),(i:Int),mr c B,(B.length:Int),0,(n:Int),mr n A,(c:Int),mr c B,out.set i ((c:Int),vw c (λ_=>false)),(c:Int),0,A.length,A.length,(n:Int),vw n A[i]⟩=
    some ⟨mr n A,(A.length:Int),(i:Int),(n:Int),mr n A,(c:Int),mr c B,out.set i ((c:Int),vw c (YX A[i] B)),(c:Int),0,A.length,A.length⟩:=λi hi out ho=>by
  have key:=QV (step:=M39.s2) (λk=>⟨(i:Int),mr n A,(A.length:Int),(i:Int),mr c B,(B.length:Int),(k:Int),(n:Int),mr n A,(c:Int),mr c B,out.set i ((c:Int),vw c (xs A[i] B k)),(c:Int),0,A.length,A.length,(n:Int),vw n A[i]⟩) B.length
   (y:=⟨mr n A,(A.length:Int),(i:Int),(n:Int),mr n A,(c:Int),mr c B,out.set i ((c:Int),vw c (YX A[i] B)),(c:Int),0,A.length,A.length⟩) (λk hk=>by
    have e1:decide ((k:Int)<(B.length:Int))=true:=(by simpa using hk);have e2:inR (k:Int) (mr c B).length=true:=Q6 (by rw[QD];exact hk);have e3:decide (0+i<(out.set i ((c:Int),vw c (xs A[i] B k))).length)=true:=(by rw[BI,ho];simpa using hi);have e4:(out.set i ((c:Int),vw c (xs A[i] B k)))[0+i]?.getD (0,[])=((c:Int),vw c (xs A[i] B k)):=(by rw[Ac,Bc (by omega)];rfl);unfold M39.s2;simp only[e1,e2,has (n:=n) (i:=k) (n:Int) A[i] (by omega) (by unfold nw;omega),bindO,A7,suc (show k<9000000000000000000 by omega)]
    cases ha:A[i] k with
    |true=>rw[<-xs_yes hk ha];simp only[A7,Q6 hi,A8,e3,e4,mr_at' hk,sum (xs A[i] B k) B[k] (c:Int) (show c<=1000000 by omega)];rw[Ac,List.set_set]
    |false=>
     rw[<-xs_no ha];rfl) (by
    have e1:decide ((B.length:Int)<(B.length:Int))=false:=(by simp);unfold M39.s2;simp only[e1,AA];rfl)
  rw[xs_zero]at key;exact key
 have key:=QV (step:=M39.s1) (λi=>⟨mr n A,(A.length:Int),(i:Int),(n:Int),mr n A,(c:Int),mr c B,mix (λi=>((c:Int),vw c (YX (A[i]?.getD λ_=>false) B))) (λ_=>(0,[])) i A.length,(c:Int),0,A.length,A.length⟩) A.length
  (y:=⟨(n:Int),mr n A,(c:Int),mr c B,mr c (A.map λa=>YX a B),(c:Int),0,A.length,A.length⟩) (λi hi=>by
   have e1:decide ((i:Int)<(A.length:Int))=true:=(by simpa using hi);have e2:inR (i:Int) (mr n A).length=true:=Q6 (by rw[QD];exact hi);have hm:=KB (λi=>((c:Int),vw c (YX (A[i]?.getD λ_=>false) B))) (λ_=>((0:Int),([]:List Int))) hi;have hl:=JV (λi=>((c:Int),vw c (YX (A[i]?.getD λ_=>false) B))) (λ_=>((0:Int),([]:List Int))) i A.length;rw[<-hm];generalize mix (λi=>((c:Int),vw c (YX (A[i]?.getD λ_=>false) B))) (λ_=>((0:Int),([]:List Int))) i A.length=out at hl⊢;have e3:decide (0+i<out.length)=true:=(by rw[hl];simpa using hi);have e4:A[i]?.getD (λ_=>false)=A[i]:=(by rw[A3 hi];rfl);have e5:=inner i hi out hl;unfold M39.s1;simp only[e1,e2,blank c (show c<=1000000 by omega),bindO,A7,Q6 hi,A8,e3,Z6,AY,Jt,mr_at' hi,QD];rw[Ac,K3 (by omega),e5];simp only[e4,suc (show i<9000000000000000000 by omega)]) (by
   have e1:decide ((A.length:Int)<(A.length:Int))=false:=(by simp);have e2:mix (λi=>((c:Int),vw c (YX (A[i]?.getD λ_=>false) B))) (λ_=>((0:Int),([]:List Int))) A.length A.length=mr c (A.map λa=>YX a B):=by
    rw[Zw];refine C8 λj=> ?_;unfold mr;by_cases hj:j<A.length
    ·simp[hj]
    ·simp[hj]
   unfold M39.s1;simp only[e1,AA,e2])
 rw[Zv,Xh (λ_=>((0:Int),([]:List Int)))]at key;have key:iter M39.s1 ⟨mr n A,(A.length:Int),0,(n:Int),mr n A,(c:Int),mr c B,List.replicate A.length (0,[]),(c:Int),0,A.length,A.length⟩=_:=key;have k0:iter M39.s0 ⟨[((n:Int),mr n A),((c:Int),mr c B)],(↑2:Int),0,(n:Int),mr n A,(c:Int),mr c B⟩=some (.inl ⟨(n:Int),mr n A,(c:Int),mr c B⟩):=by
  have vA:=valid (R:=A) hn' hA sA;have vB:=valid (R:=B) hc (by omega) sB;have k:=QV (step:=M39.s0) (λi=>⟨[((n:Int),mr n A),((c:Int),mr c B)],2,(i:Int),(n:Int),mr n A,(c:Int),mr c B⟩) 2 (y:=.inl ⟨(n:Int),mr n A,(c:Int),mr c B⟩) (λi hi=>by
   rcases (show i=0\/i=1 by omega) with rfl|rfl
   ·unfold M39.s0;simp only[show decide (((0:Nat):Int)<2)=true from rfl,show inR ((0:Nat):Int) [((n:Int),mr n A),((c:Int),mr c B)].length=true from rfl,A7];show bindO (M50.m ⟨(n:Int),mr n A⟩) _=_;rw[vA];simp only[bindO,nz,AA];rfl
   ·unfold M39.s0;simp only[show decide (((1:Nat):Int)<2)=true from rfl,show inR ((1:Nat):Int) [((n:Int),mr n A),((c:Int),mr c B)].length=true from rfl,A7];show bindO (M50.m ⟨(c:Int),mr c B⟩) _=_;rw[vB];simp only[bindO,nz,AA];rfl) rfl
  exact k
 have e1:((n:Int) !=(B.length:Int))=false:=by rw[hn];simp
 have e2:(decide (0<=(A.length:Int))&&decide ((A.length:Int)<=(A.length:Int))&&decide ((A.length:Int)*(↑32:Int)<=281474976710656)&&decide ((A.length:Int)<=9223372036854775807))=true:=by simp;omega
 have e3:leB (0+A.length) (A.map λa=>YX a B).length=true:=by simp[leB]
 unfold M39.m;simp only[k0,bindO,sumC,QD,e1,AA,e2,A7,A8,key,e3,AY,An];rw[AS (by rw[QD];simp)]
end Gf
namespace Gf
def col(R:List Q7)(k:Nat):Q7:=λi=>bit R i k
theorem col_sup(R:List Q7)(k:Nat):Sup R.length (col R k):=λi hi=>by unfold col bit;rw[Ad hi]
def tr(c:Nat)(R:List Q7):List Q7:=(List.range c).map (col R)
theorem K0(c:Nat)(R:List Q7):(tr c R).length=c:=by simp[tr]
theorem turned{c:Nat}{R:List Q7}(hc:c<=4096)(hR:R.length<=4096):M87.m ⟨c,mr c R⟩=some ((R.length:Int),mr R.length (tr c R)):=by
 have inner:∀(k:Nat) (hk:k<c) (out out_r:List (Int×List Int)),out.length=k->
   iter M87.s1 ⟨(c:Int),(k:Int),(k:Int),mr c R,(R.length:Int),0,(c:Int),mr c R,out,(R.length:Int),0,nw R.length,nw R.length,out_r,(R.length:Int),0,c,c,vw R.length (λ_=>false)⟩=
    some ⟨(c:Int),(k:Int),(c:Int),mr c R,out,(R.length:Int),0,nw R.length,nw R.length,out_r,(R.length:Int),0,c,c,vw R.length (col R k)⟩:=λk hk out out_r ho=>by
  have key:=QV (step:=M87.s1) (λi=>⟨(c:Int),(k:Int),(k:Int),mr c R,(R.length:Int),(i:Int),(c:Int),mr c R,out,(R.length:Int),0,nw R.length,nw R.length,out_r,(R.length:Int),0,c,c,vw R.length (λt=>decide (t<i)&&col R k t)⟩) R.length
   (y:=⟨(c:Int),(k:Int),(c:Int),mr c R,out,(R.length:Int),0,nw R.length,nw R.length,out_r,(R.length:Int),0,c,c,vw R.length (col R k)⟩) (λi hi=>by
    have e1:decide ((i:Int)<(R.length:Int))=true:=(by simpa using hi);have e2:inR (i:Int) (mr c R).length=true:=Q6 (by rw[QD];exact hi);have e3:eqN (0+k) out.length=true:=(by simp[eqN,ho]);have e4:col R k i=R[i] k:=bit_at hi k;unfold M87.s1;simp only[e1,e2,mr_at hi,has (n:=c) (i:=k) (c:Int) R[i] (by omega) (by unfold nw;omega),bindO,A7,suc (show i<9000000000000000000 by omega)]
    cases ha:R[i] k with
    |true=>rw[<-(upto (b:=col R k) (i:=i)).2 (e4.trans ha)];simp only[A7,Q6 hk,A8,e3,turn (n:=R.length) (i:=i) (R.length:Int) (nw R.length) _ (by omega) (show i / 64<nw R.length by unfold nw;omega)]
    |false=>
     rw[<-(upto (b:=col R k) (i:=i)).1 (e4.trans ha)];rfl) (by
    have e1:decide ((R.length:Int)<(R.length:Int))=false:=(by simp);unfold M87.s1;simp only[e1,AA,upto_all (col_sup R k)])
  rw[upto_no]at key;exact key
 have key:=QV (step:=M87.s0) (λk=>⟨(c:Int),(k:Int),(c:Int),mr c R,mix (λk=>((R.length:Int),vw R.length (col R k))) (λ_=>(0,[])) k c,(R.length:Int),0,c,c⟩) c
  (y:=⟨(c:Int),mr c R,mr R.length (tr c R),(R.length:Int),0,c,c⟩) (λk hk=>by
   have e1:decide ((k:Int)<(c:Int))=true:=(by simpa using hk);have hm:=KB (λk=>((R.length:Int),vw R.length (col R k))) (λ_=>((0:Int),([]:List Int))) hk;have hl:=JV (λk=>((R.length:Int),vw R.length (col R k))) (λ_=>((0:Int),([]:List Int))) k c;rw[<-hm];generalize mix (λk=>((R.length:Int),vw R.length (col R k))) (λ_=>((0:Int),([]:List Int))) k c=out at hl⊢;have e3:decide (0+k<out.length)=true:=(by rw[hl];simpa using hk);have e5:=inner k hk (List.take k out) (List.drop (k+1) out) (by rw[Bb];omega);unfold M87.s0;simp only[e1,blank R.length (show R.length<=1000000 by omega),bindO,A7,Q6 hk,A8,e3,QD];rw[Ac,e5];simp only[Z6,AY,A7,Jt,suc (show k<9000000000000000000 by omega)];rw[K3 (by omega)]) (by
   have e1:decide ((c:Int)<(c:Int))=false:=(by simp);have e2:mix (λk=>((R.length:Int),vw R.length (col R k))) (λ_=>((0:Int),([]:List Int))) c c=mr R.length (tr c R):=(by rw[Zw];unfold mr tr;rw[B0];rfl);unfold M87.s0;simp only[e1,AA,e2])
 rw[Zv,Xh (λ_=>((0:Int),([]:List Int)))]at key;have key:iter M87.s0 ⟨(c:Int),0,(c:Int),mr c R,List.replicate c (0,[]),(R.length:Int),0,c,c⟩=_:=key;have e2:(decide (0<=(c:Int))&&decide ((c:Int)<=(c:Int))&&decide ((c:Int)*(↑32:Int)<=281474976710656)&&decide ((c:Int)<=9223372036854775807))=true:=by simp;omega
 have e3:leB (0+c) (mr R.length (tr c R)).length=true:=by simp[leB,QD,K0]
 unfold M87.m;simp only[e2,A7,A8,QD,key,bindO];have e3:leB (0+c) (tr c R).length=true:=by simp[leB,K0]
 simp only[e3,AY,A7,An];rw[AS (by rw[QD,K0];exact A9 _)]
theorem turn40{c:Nat}{R:List Q7}(hc:c<=4096)(hR:R.length<=4096)(h:Y8 c R):M40.m ⟨c,mr c R⟩=some ((R.length:Int),mr R.length (tr c R),0):=by unfold M40.m;simp only[valid hc hR h,bindO,nz,AA,turned hc hR]
end Gf
namespace Gf
theorem lb_more(n:Nat)(b:Nat->Bool):lb (n+1) b=lb n b++[i01 (b n)]:=by unfold lb;rw[Bp,AZ];rfl
def lr(c:Nat)(R:List Q7):List (List Int):=R.map (lb c)
end Gf
