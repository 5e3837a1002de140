/- A part of the proof. -/
import Derived.Test.YtddaobhpffpmoaaSR7QGa
import Derived.Test.YtddaobhpffpmoaaSR7QGc
set_option linter.all false
namespace Go.Proofs.Ytddaobhpffpmoaa
open Go.Abs
namespace Gf
theorem w64{x:Int}(h: -9223372036854775808<=x)(h':x<=9223372036854775807):IntKind.i64.wrap x=x:=by simp[IntKind.wrap,IntKind.signed,IntKind.bits];omega
theorem Zq{x:Int}(h:0<=x)(h':x<=18446744073709551615):IntKind.u64.wrap x=x:=by simp[IntKind.wrap,IntKind.signed,IntKind.bits];omega
theorem Q6{i n:Nat}(h:i<n):inR (i:Int) n=true:=by simp[inR];omega
theorem inR_not{i n:Nat}(h:¬i<n):inR (i:Int) n=false:=by simp[inR];omega
theorem getD_at{α:Type}{l:List α}{i:Nat}(h:i<l.length)(d:α):l[(i:Int).toNat]?.getD d=l[i]:=by simp[h]
theorem suc{i:Nat}(h:i<9000000000000000000):IntKind.i64.wrap ((i:Int)+1)=((i+1:Nat):Int):=by rw[w64 (by omega) (by omega)];omega
theorem QV {X Y : Type} {step : X -> Option (X ⊕ Y)} (S : Nat -> X) (N : Nat) {y : Y} (h : ∀ i,i < N -> step (S i) = some (.inl (S (i + 1)))) (he : step (S N) = some (.inr y)) : iter step (S 0) = some y := by
 have : ∀ j i,i + j = N -> iter step (S i) = some y := by
   intro j
   induction j with
   | zero => intro i hi; have : i = N := by omega
             subst this; rw [iter_eq,he]
   | succ j ih => intro i hi; rw [iter_eq,h i (by omega)]; exact ih (i + 1) (by omega)
 exact this N 0 (by omega)
def mix{α:Type}(f g:Nat->α)(i N:Nat):List α:=(List.range N).map λj=>if j<i then f j else g j
theorem JV{α:Type}(f g:Nat->α)(i N:Nat):(mix f g i N).length=N:=by simp[mix]
theorem Zv{α:Type}(f g:Nat->α)(N:Nat):mix f g 0 N=(List.range N).map g:=by simp[mix]
theorem Zw{α:Type}(f g:Nat->α)(N:Nat):mix f g N N=(List.range N).map f:=by unfold mix;refine Aa λj hj=> ?_;rw[AB (BK.1 hj)]
theorem mix_get{α:Type}(f g:Nat->α)(i N:Nat){j:Nat}(h:j<N):(mix f g i N)[j]? =some (if j<i then f j else g j):=by unfold mix;rw[AX,Be h];rfl
theorem KB{α:Type}(f g:Nat->α){i N:Nat}(h:i<N):(mix f g i N).set i (f i)=mix f g (i+1) N:=by
 refine C8 λj=> ?_;rw[List.getElem?_set];by_cases hj:j<N
 ·rw[mix_get _ _ _ _ hj,JV];by_cases e:i=j
  ·subst e;rw[mix_get _ _ _ _ h];simp[h]
  ·rw[AE e,mix_get _ _ _ _ hj];have:(j<i)=(j<i+1):=(by simp;omega);simp[this]
 ·rw[Ad (by rw[JV];omega:(mix f g i N).length<=j),Ad (by rw[JV];omega:(mix f g (i+1) N).length<=j)];by_cases e:i=j
  ·omega
  ·simp[e]
theorem Xh{α:Type}(f:Nat->α)(N:Nat)(d:α):(List.range N).map (λ_=>d)=List.replicate N d:=by
 refine C8 λj=> ?_;simp[AX,List.getElem?_replicate];by_cases h:j<N
 ·simp[h]
 ·simp[h]
def nb(b:Nat->Bool):Nat->Nat
 |0=>0
 |k+1=>(if b k then 2^k else 0)+nb b k
theorem WM(b:Nat->Bool):∀k,nb b k<2^k
 |0=>by simp[nb]
 |k+1=>by have:=WM b k;simp only[nb];have:2^(k+1)=2^k+2^k:=(by rw[Nat.pow_succ];omega);split<;>omega
theorem XI(b:Nat->Bool):∀k i,(nb b k).testBit i=(decide (i<k)&&b i)
 |0,i=>by simp[nb]
 |k+1,i=>by
  have h:=XI b k;have hl:=WM b k;simp only[nb];by_cases e:i=k
  ·subst e;split
   ·rename_i hb;rw[Nat.testBit_two_pow_add_eq,h];simp[hb]
   ·rename_i hb;rw[Ac,h];simp[hb]
  ·by_cases hlt:i<k
   ·split
    ·rw[Nat.testBit_two_pow_add_gt hlt,h];simp[hlt];omega
    ·rw[Ac,h];simp[hlt];omega
   ·have h1:∀x,x<2^(k+1)->x.testBit i=false:=λx hx=>Nat.testBit_lt_two_pow (AL hx (Bh (by omega) (by omega)));rw[h1 _ (by have:=WM b (k+1);simpa only[nb] using this)];have:¬i<k+1:=(by omega);simp[this]
def wd(b:Nat->Bool)(j:Nat):Nat:=nb (λi=>b (64*j+i)) 64
theorem V4(b:Nat->Bool)(j:Nat):wd b j<2^64:=WM _ _
theorem XS(b:Nat->Bool)(j i:Nat):(wd b j).testBit i=(decide (i<64)&&b (64*j+i)):=XI _ _ _
def nw(n:Nat):Nat:=(n+63) / 64
def vw(n:Nat)(b:Nat->Bool):List Int:=(List.range (nw n)).map λj=>((wd b j:Nat):Int)
theorem J3(n:Nat)(b:Nat->Bool):(vw n b).length=nw n:=by simp[vw]
theorem KK(n:Nat)(b:Nat->Bool){j:Nat}(h:j<nw n):(vw n b)[j]? =some ((wd b j:Nat):Int):=by unfold vw;rw[AX,Be h];rfl
theorem Yt{n:Nat}:BitVec.ofInt 64 (n:Int)=BitVec.ofNat 64 n:=by apply BitVec.eq_of_toNat_eq;simp
theorem XC{a c:Nat}(ha:a<2^64)(hc:c<2^64):IntKind.u64.wrap (↑(BitVec.ofInt 64 (a:Int)&&&BitVec.ofInt 64 (c:Int)).toNat:Int)=((a&&&c:Nat):Int):=by rw[Yt,Yt,BitVec.toNat_and,Bs,Bs,Bi ha,Bi hc];have:a&&&c<=a:=Cb;rw[Zq (by omega) (by omega)]
theorem Kx{a c:Nat}(ha:a<2^64)(hc:c<2^64):IntKind.u64.wrap (↑(BitVec.ofInt 64 (a:Int)^^^BitVec.ofInt 64 (c:Int)).toNat:Int)=((a^^^c:Nat):Int):=by rw[Yt,Yt,BitVec.toNat_xor,Bs,Bs,Bi ha,Bi hc];have:a^^^c<2^64:=Nat.xor_lt_two_pow ha hc;rw[Zq (by omega) (by omega)]
theorem Jv(k:Nat):(2:Int)^k=((2^k:Nat):Int):=by simp
theorem JD(a c:Nat):(a:Int).fdiv (c:Int)=((a / c:Nat):Int):=by rw[Int.fdiv_eq_ediv_of_nonneg _ (Int.natCast_nonneg _)];rfl
theorem hasW{a k:Nat}(ha:a<2^64)(hk:k<64):(IntKind.u64.wrap (↑(BitVec.ofInt 64 (Int.fdiv (a:Int) (2^min k 64))&&&BitVec.ofInt 64 1).toNat:Int)==1)=a.testBit k:=by rw[B1 (by omega),Jv,JD];have h1:a / 2^k<2^64:=CJ (Nat.div_le_self _ _) ha;rw[show(1:Int)=((1:Nat):Int) from rfl,XC h1 (by decide),Nat.and_one_is_mod];rw[Cd];rcases B7 (a / 2^k) with e|e<;>rw[e]<;>rfl
theorem flipW{a k:Nat}(ha:a<2^64)(hk:k<64):IntKind.u64.wrap (↑(BitVec.ofInt 64 (a:Int)^^^BitVec.ofInt 64 (IntKind.u64.wrap (1*2^min k 64))).toNat:Int)=((a^^^2^k:Nat):Int):=by have h:2^k<2^64:=BJ (by omega) hk;rw[B1 (by omega),Jv,Int.one_mul];generalize 2^k=m at h⊢;have e:IntKind.u64.wrap (m:Int)=(m:Int):=Zq (by omega) (by omega);rw[e,Kx ha h]
def fl(b:Nat->Bool)(i:Nat):Nat->Bool:=λk=>if k=i then !b k else b k
theorem wd_fl(b:Nat->Bool)(i:Nat):wd b (i / 64)^^^2^(i%64)=wd (fl b i) (i / 64):=by
 refine Ay λk=> ?_;rw[Nat.testBit_xor,XS,XS,Nat.testBit_two_pow];unfold fl;by_cases e:64*(i / 64)+k=i
 ·have h1:k<64:=(by omega);have h2:i%64=k:=(by omega);rw[AB e];simp[h1,h2]
 ·rw[AE e];by_cases h2:i%64=k
  ·omega
  ·simp[h2]
theorem wd_fl_ne(b:Nat->Bool){i j:Nat}(h:j≠i / 64):wd (fl b i) j=wd b j:=by
 refine Ay λk=> ?_;rw[XS,XS];unfold fl;by_cases hk:k<64
 ·rw[AE (by omega)]
 ·simp[hk]
theorem vw_fl{n i:Nat}(b:Nat->Bool)(hi:i / 64<nw n):(vw n b).set (i / 64) ((wd b (i / 64)^^^2^(i%64):Nat):Int)=vw n (fl b i):=by
 refine C8 λj=> ?_;rw[List.getElem?_set];by_cases hj:j<nw n
 ·rw[KK _ _ hj,KK _ _ hj,J3];by_cases e:i / 64=j
  ·subst e;simp[hi,wd_fl]
  ·rw[AE e,wd_fl_ne _ (λe'=>e e'.symm)]
 ·rw[Ad (by rw[J3];omega:(vw n b).length<=j),Ad (by rw[J3];omega:(vw n (fl b i)).length<=j)];by_cases e:i / 64=j
  ·omega
  ·simp[e]
theorem tdivn(i:Nat):(i:Int).tdiv 64=((i / 64:Nat):Int):=rfl
theorem tmodn(i:Nat):(i:Int).tmod 64=((i%64:Nat):Int):=rfl
theorem has{n i:Nat}(x:Int)(b:Nat->Bool)(hn:n<=1000000)(hi:i / 64<nw n):M74.m ⟨x,vw n b,i⟩=some (b i):=by
 have hnw:nw n<=1000000:=by unfold nw;omega
 unfold M74.m;simp only[tdivn,tmodn];rw[w64 (by omega) (by omega)];have e1:inR ((i / 64:Nat):Int) (vw n b).length=true:=Q6 (by rw[J3];exact hi);have e2:decide ((0:Int)<=((i%64:Nat):Int))=true:=by simp;omega
 simp only[e1,e2,A7,A8,KK _ _ hi,Al];rw[hasW (V4 _ _) (by omega),XS];have:i%64<64:=by omega
 simp only[this,decide_true,BF];rw[show 64*(i / 64)+i%64=i by omega]
theorem turn{n i:Nat}(x:Int)(c:Nat)(b:Nat->Bool)(hn:n<=1000000)(hi:i / 64<nw n):M75.m ⟨x,0,nw n,c,i,vw n b⟩=some (vw n (fl b i)):=by
 have hnw:nw n<=1000000:=by unfold nw;omega
 unfold M75.m;have e0:IntKind.i64.wrap ((i / 64:Nat):Int)=((i / 64:Nat):Int):=w64 (by omega) (by omega);simp only[tdivn,tmodn,e0];have e1:inR ((i / 64:Nat):Int) (nw n)=true:=Q6 hi;have e2:decide ((0:Int)<=((i%64:Nat):Int))=true:=by simp;omega
 have e3:decide (0+i / 64<(vw n b).length)=true:=by rw[J3];simpa using hi
 simp only[e1,e2,e3,A8,A7];simp only[Ac,KK _ _ hi,Al];rw[flipW (V4 _ _) (by omega),vw_fl b hi]
theorem words(n:Nat)(hn:n<=1000000):M86.m ⟨n⟩=some ((nw n:Nat):Int):=by
 have h:nw n<=1000000:=by unfold nw;omega
 unfold M86.m;rw[w64 (show -9223372036854775808<=(n:Int)+63 by omega) (by omega),show((n:Int)+63).tdiv 64=((nw n:Nat):Int) from rfl,w64 (by omega) (by omega)]
theorem wd_no(j:Nat):wd (λ_=>false) j=0:=by refine Ay λk=> ?_;rw[XS];simp
theorem vw_no(n:Nat):vw n (λ_=>false)=List.replicate (nw n) 0:=by unfold vw;simp only[wd_no];exact Xh (λ_=>(0:Int)) _ _
theorem blank(n:Nat)(hn:n<=1000000):M73.m ⟨n⟩=some ((n:Int),0,nw n,nw n,vw n (λ_=>false)):=by
 have hnw:nw n<=1000000:=by unfold nw;omega
 unfold M73.m;simp only[words n hn,bindO];have e:(decide (0<=((nw n:Nat):Int))&&decide (((nw n:Nat):Int)<=((nw n:Nat):Int))&&decide (((nw n:Nat):Int)*(↑8:Int)<=281474976710656)&&decide (((nw n:Nat):Int)<=9223372036854775807))=true:=by simp;omega
 rw[e,A7,vw_no,A8]
end Gf
namespace Gf
def Sup(n:Nat)(b:Nat->Bool):Prop:=∀i,n<=i->b i=false
theorem size{n:Nat}(hn:n<=4096):M85.m ⟨n⟩=some 0:=by
 unfold M85.m;have e1:decide ((n:Int)<0)=false:=by simp
 have e2:decide ((n:Int)>4096)=false:=by simp;omega
 rw[e1,e2];rfl
theorem last{n:Nat}{b:Nat->Bool}(hb:Sup n b)(h:0<n%64):wd b (nw n - 1) / 2^(n%64)=0:=by
 refine Ay λk=> ?_;rw[Nat.testBit_div_two_pow,XS,Nat.zero_testBit];by_cases hk:k+n%64<64
 ·have:b (64*(nw n - 1)+(k+n%64))=false:=hb _ (by unfold nw;omega);rw[this,Bool.and_false]
 ·simp[hk]
theorem check{n:Nat}{b:Nat->Bool}(hn:n<=4096)(hb:Sup n b):M38.m ⟨n,vw n b⟩=some 0:=by
 have hnw:nw n<=100:=by unfold nw;omega
 unfold M38.m;simp only[size hn,words n (by omega),bindO];have e1:((0:Int) !=0)=false:=rfl;have e2:(((nw n:Nat):Int) !=((nw n:Nat):Int))=false:=by simp
 simp only[J3,e1,e2,AA,tmodn];by_cases h:0<n%64
 ·have h1:0<nw n:=(by unfold nw;omega);have e3:IntKind.i64.wrap (((nw n:Nat):Int) - 1)=((nw n - 1:Nat):Int):=(by rw[w64 (by omega) (by omega)];omega);have e4:inR ((nw n - 1:Nat):Int) (nw n)=true:=Q6 (by omega);have e5:decide (((n%64:Nat):Int)>0)=true:=(by simp;omega);have e6:decide ((0:Int)<=((n%64:Nat):Int))=true:=(by simp;omega);simp only[e3,e4,e5,e6,Bd,A7,A8,KK n b (show nw n - 1<nw n by omega),Al];rw[B1 (by omega),Jv,JD,last hb h];rfl
 ·have e5:decide (((n%64:Nat):Int)>0)=false:=(by simp;omega);simp only[e5,BB,CY,A7,AA]
theorem zero{n:Nat}(hn:n<=4096):M51.m ⟨n⟩=some ((n:Int),0,nw n,nw n,0,vw n (λ_=>false)):=by unfold M51.m;simp only[size hn,blank n (by omega),bindO];rfl
theorem mix_eq{α:Type}(f g:Nat->α){i N:Nat}(h:f i=g i):mix f g (i+1) N=mix f g i N:=by
 unfold mix;refine Aa λj _=> ?_;by_cases e:j=i
 ·subst e;simp[h]
 ·have:(j<i)=(j<i+1):=(by simp;omega);simp only[this]
def bt(l:List Int)(i:Nat):Bool:=l[i]?.getD 0==1
theorem UR(l:List Int):Sup l.length (bt l):=λi hi=>by unfold bt;rw[Ad hi];rfl
def B01(l:List Int):Prop:=∀x∈l,x=0\/x=1
theorem Jt(n:Nat)(b:Nat->Bool):List.take (nw n) (List.drop 0 (vw n b))=vw n b:=by rw[An,AS (by rw[J3];exact A9 _)]
theorem Z6(n:Nat)(b:Nat->Bool):leB (0+nw n) (vw n b).length=true:=by simp[leB,J3]
theorem of52{l:List Int}(hl:l.length<=4096)(h01:B01 l):M52.m ⟨l⟩=some ((l.length:Int),vw l.length (bt l),0):=by
 have key:=QV (step:=M52.s0) (λi=>⟨l,(l.length:Int),(i:Int),vw l.length (λk=>decide (k<i)&&bt l k),(l.length:Int),0,nw l.length,nw l.length⟩) l.length
  (y:=.inl ⟨vw l.length (bt l),(l.length:Int),0,nw l.length,nw l.length⟩) (λi hi=>by
   have e1:decide ((i:Int)<(l.length:Int))=true:=(by simpa using hi);unfold M52.s0;simp only[e1,Q6 hi,getD_at hi,suc (show i<9000000000000000000 by omega),A7];rcases h01 l[i] (AJ hi) with e|e
   ·have hb:bt l i=false:=(by unfold bt;rw[A3 hi,Al,e];rfl);rw[e];have e2:(λk=>decide (k<i)&&bt l k)=(λk=>decide (k<i+1)&&bt l k):=by
     funext k;by_cases hk:k=i
     ·subst hk;simp[hb]
     ·have:(k<i)=(k<i+1):=(by simp;omega);simp only[this]
    have e3:decide ((0:Int)>1)=false:=(by decide);have e4:((0:Int)==1)=false:=(by decide);simp only[e3,e4,AA,e2]
   ·have hb:bt l i=true:=(by unfold bt;rw[A3 hi,Al,e];rfl);rw[e];have e2:fl (λk=>decide (k<i)&&bt l k) i=(λk=>decide (k<i+1)&&bt l k):=by
     funext k;unfold fl;by_cases hk:k=i
     ·subst hk;simp[hb]
     ·have:(k<i)=(k<i+1):=(by simp;omega);rw[AE hk];simp only[this]
    have e3:decide ((1:Int)>1)=false:=(by decide);have e4:((1:Int)==1)=true:=(by decide);simp only[e3,e4,AA,A7,turn (n:=l.length) (i:=i) (l.length:Int) (nw l.length) _ (by omega) (show i / 64<nw l.length by unfold nw;omega),bindO,e2]) (by
   unfold M52.s0;have e1:decide ((l.length:Int)<(l.length:Int))=false:=(by simp);have e2:(λk=>decide (k<l.length)&&bt l k)=bt l:=by
    funext k;by_cases hk:k<l.length
    ·simp[hk]
    ·simp[hk,UR l k (by omega)]
   simp only[e1,AA,e2])
 have e0:(λk=>decide (k<0)&&bt l k)=λ_=>false:=by funext k;simp
 simp only[e0]at key;have key:iter M52.s0 ⟨l,(l.length:Int),0,vw l.length (λ_=>false),(l.length:Int),0,nw l.length,nw l.length⟩=_:=key;unfold M52.m;have e1:((0:Int) !=0)=false:=rfl;simp only[zero hl,bindO,e1,AA,key,sumC,Z6,AY,A7,Jt]
def i01(b:Bool):Int:=bif b then 1 else 0
def lb(n:Nat)(b:Nat->Bool):List Int:=(List.range n).map λi=>i01 (b i)
theorem Jy(n:Nat)(b:Nat->Bool):(lb n b).length=n:=by simp[lb]
theorem bits{n:Nat}{b:Nat->Bool}(hn:n<=4096)(hb:Sup n b):M34.m ⟨n,vw n b⟩=some (lb n b):=by
 have key:=QV (step:=M34.s0) (λi=>⟨0,n,n,(n:Int),(i:Int),(n:Int),vw n b,mix (λi=>i01 (b i)) (λ_=>0) i n⟩) n (y:=⟨0,n,n,(n:Int),vw n b,lb n b⟩) (λi hi=>by
   have e1:decide ((i:Int)<(n:Int))=true:=(by simpa using hi);unfold M34.s0;simp only[e1,has (n:=n) (i:=i) (n:Int) b (by omega) (by unfold nw;omega),suc (show i<9000000000000000000 by omega),A7,bindO]
   cases hbi:b i with
   |true=>have hm:=KB (λi=>i01 (b i)) (λ_=>(0:Int)) hi;have e2:decide (i<(mix (λi=>i01 (b i)) (λ_=>(0:Int)) i n).length)=true:=(by rw[JV];simpa using hi);rw[<-hm];simp only[Q6 hi,A8,Ac,e2,A7,hbi];rfl
   |false=>
    simp only[AA];rw[mix_eq (λi=>i01 (b i)) (λ_=>(0:Int)) (by simp only[hbi];rfl)]) (by
   unfold M34.s0;have e1:decide ((n:Int)<(n:Int))=false:=(by simp);simp only[e1,AA,Zw];rfl)
 rw[Zv,Xh (λ_=>(0:Int))]at key;have key:iter M34.s0 ⟨0,n,n,(n:Int),0,(n:Int),vw n b,List.replicate n 0⟩=_:=key;unfold M34.m;have e1:((0:Int) !=0)=false:=rfl;have e2:(decide ((0:Int)<=(n:Int))&&decide ((n:Int)<=(n:Int))&&decide ((n:Int)*(↑1:Int)<=281474976710656)&&decide ((n:Int)<=9223372036854775807))=true:=by simp;omega
 have e3:leB (0+n) (lb n b).length=true:=by simp[leB,Jy]
 simp only[check hn hb,bindO,e1,AA,e2,A7,A8,key,e3,AY,An];rw[AS (by rw[Jy];exact A9 _)]
end Gf
namespace Gf
def g1(x:Nat):Nat:=(x / 2&&&6148914691236517205)+(x&&&6148914691236517205)
def g2(x:Nat):Nat:=(x / 4&&&3689348814741910323)+(x&&&3689348814741910323)
def g3(x:Nat):Nat:=(x / 16+x)&&&1085102592571150095
def g4(x:Nat):Nat:=x+x / 256
def g5(x:Nat):Nat:=x+x / 65536
def g6(x:Nat):Nat:=x+x / 4294967296
def ones(x:Nat):Nat:=g6 (g5 (g4 (g3 (g2 (g1 x)))))&&&127
theorem r1{x:Nat}(h:x<2^64):IntKind.u64.wrap (IntKind.u64.wrap (↑(BitVec.ofInt 64 ((x:Int).fdiv (2^1))&&&BitVec.ofInt 64 6148914691236517205).toNat:Int)+IntKind.u64.wrap (↑(BitVec.ofInt 64 (x:Int)&&&BitVec.ofInt 64 6148914691236517205).toNat:Int))=((g1 x:Nat):Int):=by have e:(x:Int).fdiv (2^1)=((x / 2:Nat):Int):=JD x 2;have a:IntKind.u64.wrap (↑(BitVec.ofInt 64 ((x / 2:Nat):Int)&&&BitVec.ofInt 64 6148914691236517205).toNat:Int)=((x / 2&&&6148914691236517205:Nat):Int):=XC (a:=x / 2) (c:=6148914691236517205) (by omega) (by decide);have b:IntKind.u64.wrap (↑(BitVec.ofInt 64 ((x:Nat):Int)&&&BitVec.ofInt 64 6148914691236517205).toNat:Int)=((x&&&6148914691236517205:Nat):Int):=XC (a:=x) (c:=6148914691236517205) (by omega) (by decide);have h1:x / 2&&&6148914691236517205<=6148914691236517205:=Br;have h2:x&&&6148914691236517205<=6148914691236517205:=Br;rw[e,a,b,Zq (by omega) (by omega)];unfold g1;omega
theorem r2{x:Nat}(h:x<2^64):IntKind.u64.wrap (IntKind.u64.wrap (↑(BitVec.ofInt 64 ((x:Int).fdiv (2^2))&&&BitVec.ofInt 64 3689348814741910323).toNat:Int)+IntKind.u64.wrap (↑(BitVec.ofInt 64 (x:Int)&&&BitVec.ofInt 64 3689348814741910323).toNat:Int))=((g2 x:Nat):Int):=by have e:(x:Int).fdiv (2^2)=((x / 4:Nat):Int):=JD x 4;have a:IntKind.u64.wrap (↑(BitVec.ofInt 64 ((x / 4:Nat):Int)&&&BitVec.ofInt 64 3689348814741910323).toNat:Int)=((x / 4&&&3689348814741910323:Nat):Int):=XC (a:=x / 4) (c:=3689348814741910323) (by omega) (by decide);have b:IntKind.u64.wrap (↑(BitVec.ofInt 64 ((x:Nat):Int)&&&BitVec.ofInt 64 3689348814741910323).toNat:Int)=((x&&&3689348814741910323:Nat):Int):=XC (a:=x) (c:=3689348814741910323) (by omega) (by decide);have h1:x / 4&&&3689348814741910323<=3689348814741910323:=Br;have h2:x&&&3689348814741910323<=3689348814741910323:=Br;rw[e,a,b,Zq (by omega) (by omega)];unfold g2;omega
theorem r3{x:Nat}(h:x<=7378697629483820646):IntKind.u64.wrap (↑(BitVec.ofInt 64 (IntKind.u64.wrap ((x:Int).fdiv (2^4)+(x:Int)))&&&BitVec.ofInt 64 1085102592571150095).toNat:Int)=((g3 x:Nat):Int):=by
 have e:(x:Int).fdiv (2^4)=((x / 16:Nat):Int):=JD x 16;have a:IntKind.u64.wrap (↑(BitVec.ofInt 64 ((x / 16+x:Nat):Int)&&&BitVec.ofInt 64 1085102592571150095).toNat:Int)=((x / 16+x&&&1085102592571150095:Nat):Int):=XC (a:=x / 16+x) (c:=1085102592571150095) (by omega) (by decide);have e2:IntKind.u64.wrap ((x:Int).fdiv (2^4)+(x:Int))=((x / 16+x:Nat):Int):=by rw[e,Zq (by omega) (by omega)];omega
 rw[e2,a];rfl
theorem r4{x:Nat}(h:x<2^62):IntKind.u64.wrap ((x:Int)+(x:Int).fdiv (2^8))=((g4 x:Nat):Int):=by have e:(x:Int).fdiv (2^8)=((x / 256:Nat):Int):=JD x 256;rw[e,Zq (by omega) (by omega)];unfold g4;omega
theorem r5{x:Nat}(h:x<2^62):IntKind.u64.wrap ((x:Int)+(x:Int).fdiv (2^16))=((g5 x:Nat):Int):=by have e:(x:Int).fdiv (2^16)=((x / 65536:Nat):Int):=JD x 65536;rw[e,Zq (by omega) (by omega)];unfold g5;omega
theorem r6{x:Nat}(h:x<2^62):IntKind.u64.wrap ((x:Int)+(x:Int).fdiv (2^32))=((g6 x:Nat):Int):=by have e:(x:Int).fdiv (2^32)=((x / 4294967296:Nat):Int):=JD x 4294967296;rw[e,Zq (by omega) (by omega)];unfold g6;omega
theorem r7{x:Nat}(h:x<2^62):IntKind.i64.wrap (↑(BitVec.ofInt 64 (IntKind.i64.wrap (x:Int))&&&BitVec.ofInt 64 127).toNat:Int)=((x&&&127:Nat):Int):=by rw[w64 (x:=(x:Int)) (by omega) (by omega),Yt,show(127:Int)=((127:Nat):Int) from rfl,Yt,BitVec.toNat_and,Bs,Bs,Bi (show x<2^64 by omega)];have:x&&&127<=x:=Cb;rw[show 127%2^64=127 from rfl,w64 (by omega) (by omega)]
theorem g1_le(x:Nat):g1 x<2^64:=by have h1:x / 2&&&6148914691236517205<=6148914691236517205:=Br;have h2:x&&&6148914691236517205<=6148914691236517205:=Br;unfold g1;omega
theorem g2_le(x:Nat):g2 x<=7378697629483820646:=by have h1:x / 4&&&3689348814741910323<=3689348814741910323:=Br;have h2:x&&&3689348814741910323<=3689348814741910323:=Br;unfold g2;omega
theorem g3_le(x:Nat):g3 x<=1085102592571150095:=Br
theorem ones_run{x:Nat}(h:x<2^64):M108.m ⟨x⟩=some ((ones x:Nat):Int):=by
 have b1:=g1_le x;have b2:=g2_le (g1 x);have b3:=g3_le (g2 (g1 x));have b4:g4 (g3 (g2 (g1 x)))<2^61:=by unfold g4;omega
 have b5:g5 (g4 (g3 (g2 (g1 x))))<2^62:=by unfold g5;omega
 have b6:g6 (g5 (g4 (g3 (g2 (g1 x)))))<2^62:=by have:g5 (g4 (g3 (g2 (g1 x))))<2^61+2^50:=(by unfold g5;omega);unfold g6;omega
 unfold M108.m M108.p6 M108.p5 M108.p4 M108.p3 M108.p2 M108.p1;simp only[r1 h];simp only[r2 b1];simp only[r3 b2];simp only[r4 (show g3 (g2 (g1 x))<2^62 by omega)];simp only[r5 (show g4 (g3 (g2 (g1 x)))<2^62 by omega)];simp only[r6 b5];rw[r7 b6];rfl
def ds(B:Nat):Nat->Nat->Nat
 |0,_=>0
 |k+1,x=>x%B+ds B k (x / B)
theorem UW(k x y:Nat):x&&&y=2^k*((x / 2^k)&&&(y / 2^k))+((x%2^k)&&&(y%2^k)):=by rw[<-Nat.and_div_two_pow,<-Nat.and_mod_two_pow];exact(Nat.div_add_mod _ _).symm
theorem and3(d:Nat):d&&&3=d%4:=Nat.and_two_pow_sub_one_eq_mod d 2
theorem and15(d:Nat):d&&&15=d%16:=Nat.and_two_pow_sub_one_eq_mod d 4
def m1:Nat->Nat
 |0=>0
 |k+1=>4*m1 k+1
def m2:Nat->Nat
 |0=>0
 |k+1=>16*m2 k+3
def m3:Nat->Nat
 |0=>0
 |k+1=>256*m3 k+15
def h1(k x:Nat):Nat:=(x / 2&&&m1 k)+(x&&&m1 k)
def h2(k x:Nat):Nat:=(x / 4&&&m2 k)+(x&&&m2 k)
def h3(k x:Nat):Nat:=(x / 16+x)&&&m3 k
theorem h1_suc(k x:Nat):h1 (k+1) x=4*h1 k (x / 4)+((x / 2)%2+x%2):=by
 have e:∀x,x&&&m1 (k+1)=4*(x / 4&&&m1 k)+x%2:=λx=>by have:=UW 2 x (m1 (k+1));rw[show 2^2=4 from rfl,show m1 (k+1) / 4=m1 k by simp only[m1];omega,show m1 (k+1)%4=1 by simp only[m1];omega,Nat.and_one_is_mod]at this;omega
 unfold h1;rw[e,e,show x / 2 / 4=x / 4 / 2 by omega];omega
theorem h2_suc(k x:Nat):h2 (k+1) x=16*h2 k (x / 16)+((x / 4)%4+x%4):=by
 have e:∀x,x&&&m2 (k+1)=16*(x / 16&&&m2 k)+x%4:=λx=>by have:=UW 4 x (m2 (k+1));rw[show 2^4=16 from rfl,show m2 (k+1) / 16=m2 k by simp only[m2];omega,show m2 (k+1)%16=3 by simp only[m2];omega,and3]at this;omega
 unfold h2;rw[e,e,show x / 4 / 16=x / 16 / 4 by omega];omega
theorem ds_h1:∀k x,ds 4 k (h1 k x)=ds 2 (2*k) x
 |0,x=>rfl
 |k+1,x=>by have e:=ds_h1 k (x / 4);rw[show 2*(k+1)=2*k+1+1 by omega];simp only[ds];rw[h1_suc,show(4*h1 k (x / 4)+(x / 2%2+x%2))%4=x / 2%2+x%2 by omega,show(4*h1 k (x / 4)+(x / 2%2+x%2)) / 4=h1 k (x / 4) by omega,e,show x / 2 / 2=x / 4 by omega];omega
theorem ds_h2:∀k x,ds 16 k (h2 k x)=ds 4 (2*k) x
 |0,x=>rfl
 |k+1,x=>by have e:=ds_h2 k (x / 16);rw[show 2*(k+1)=2*k+1+1 by omega];simp only[ds];rw[h2_suc,show(16*h2 k (x / 16)+(x / 4%4+x%4))%16=x / 4%4+x%4 by omega,show(16*h2 k (x / 16)+(x / 4%4+x%4)) / 16=h2 k (x / 16) by omega,e,show x / 4 / 4=x / 16 by omega];omega
def nib:Nat->Nat->Prop
 |0,x=>x=0
 |k+1,x=>x%16<=6/\nib k (x / 16)
theorem nib_h2:∀k x,nib k (h2 k x)
 |0,x=>by simp[nib,h2,m2]
 |k+1,x=>by have e:=nib_h2 k (x / 16);rw[h2_suc];refine⟨by omega,?_⟩;rw[show(16*h2 k (x / 16)+(x / 4%4+x%4)) / 16=h2 k (x / 16) by omega];exact e
theorem nib_mod:∀{k x},nib k x->x%16<=6
 |0,x,h=>by have h:x=0:=h;omega
 |k+1,x,h=>h.1
theorem h3_suc{k x:Nat}(h:nib (2*(k+1)) x):h3 (k+1) x=256*h3 k (x / 256)+(x / 16%16+x%16):=by
 rw[show 2*(k+1)=2*k+1+1 by omega]at h;obtain⟨a,b,c⟩:=h;have c:=nib_mod c;have e:∀x,x&&&m3 (k+1)=256*(x / 256&&&m3 k)+x%16:=λx=>by have:=UW 8 x (m3 (k+1));rw[show 2^8=256 from rfl,show m3 (k+1) / 256=m3 k by simp only[m3];omega,show m3 (k+1)%256=15 by simp only[m3];omega,and15]at this;omega
 have key:∀y h l:Nat,h<=6->l<=6->y%16<=6->(16*y+h+(256*y+16*h+l)) / 256=y / 16+y/\(16*y+h+(256*y+16*h+l))%16=h+l:=λy h l hh hl hy=>by have:16*y+h+(256*y+16*h+l)=256*(y / 16+y)+(16*(y%16)+17*h+l):=(by omega);rw[this];constructor<;>omega
 obtain⟨k1,k2⟩:=key (x / 256) (x / 16%16) (x%16) b a (by rw[show x / 256=x / 16 / 16 by omega];exact c);have hx:16*(x / 256)+x / 16%16+(256*(x / 256)+16*(x / 16%16)+x%16)=x / 16+x:=by omega
 rw[hx]at k1 k2;unfold h3;rw[e,k1,k2]
theorem ds_h3:∀k x,nib (2*k) x->ds 256 k (h3 k x)=ds 16 (2*k) x
 |0,x,_=>rfl
 |k+1,x,h=>by have hs:=h3_suc h;rw[show 2*(k+1)=2*k+1+1 by omega]at h⊢;obtain⟨a,b,c⟩:=h;have e:=ds_h3 k (x / 256) (by rw[show x / 256=x / 16 / 16 by omega];exact c);simp only[ds];rw[hs,show(256*h3 k (x / 256)+(x / 16%16+x%16))%256=x / 16%16+x%16 by omega,show(256*h3 k (x / 256)+(x / 16%16+x%16)) / 256=h3 k (x / 256) by omega,e,show x / 16 / 16=x / 256 by omega];omega
def byt:Nat->Nat->Prop
 |0,x=>x=0
 |k+1,x=>x%256<=12/\byt k (x / 256)
theorem byt_h3:∀k x,nib (2*k) x->byt k (h3 k x)
 |0,x,_=>by simp[byt,h3,m3]
 |k+1,x,h=>by have hs:=h3_suc h;rw[show 2*(k+1)=2*k+1+1 by omega]at h;obtain⟨a,b,c⟩:=h;have e:=byt_h3 k (x / 256) (by rw[show x / 256=x / 16 / 16 by omega];exact c);rw[hs];refine⟨by omega,?_⟩;rw[show(256*h3 k (x / 256)+(x / 16%16+x%16)) / 256=h3 k (x / 256) by omega];exact e
theorem divL{L B H:Nat}(hB:0<B)(hL:L<B):(L+B*H) / B=H:=by rw[Nat.add_mul_div_left _ _ hB,Nat.div_eq_of_lt hL,Ac]
theorem fold_lin{x b0 b1 b2 b3 b4 b5 b6 b7 x1 x2 x3 x4 x5 x6:Nat}(h0:b0<=12)(h1:b1<=12)(h2:b2<=12)(h3:b3<=12)(h4:b4<=12)(h5:b5<=12)(h6:b6<=12)(h7:b7<=12)
  (e0:x=b0+256*x1) (e1:x1=b1+256*x2) (e2:x2=b2+256*x3) (e3:x3=b3+256*x4) (e4:x4=b4+256*x5) (e5:x5=b5+256*x6) (e6:x6=b6+256*b7):
  g6 (g5 (g4 x))%128=b0+(b1+(b2+(b3+(b4+(b5+(b6+b7)))))):=by
 have s0:x / 256=x1:=by rw[e0];exact divL (by decide) (by omega)
 have s1:(x+x1) / 65536=x2+x3:=by rw[show x+x1=(b0+b1+256*(b1+b2))+65536*(x2+x3) by omega];exact divL (by decide) (by omega)
 have s2:(x+x1+(x2+x3)) / 4294967296=x4+x5+(x6+b7):=by rw[show x+x1+(x2+x3)=(b0+b1+b2+b3+256*(b1+b2+b3+b4)+65536*(b2+b3+b4+b5)+16777216*(b3+b4+b5+b6))+4294967296*(x4+x5+(x6+b7)) by omega];exact divL (by decide) (by omega)
 unfold g6 g5 g4;rw[s0,s1,s2];rw[show x+x1+(x2+x3)+(x4+x5+(x6+b7))=(b0+(b1+(b2+(b3+(b4+(b5+(b6+b7)))))))+128*(2*(x1+x2+x3+x4+x5+x6+b7)) by omega,Nat.add_mul_mod_self_left,Bi (by omega)]
theorem fold_ds{x:Nat}(h:byt 8 x):g6 (g5 (g4 x))&&&127=ds 256 8 x:=by
 rw[show 127=2^7 - 1 from rfl,Nat.and_two_pow_sub_one_eq_mod];obtain⟨a0,a1,a2,a3,a4,a5,a6,a7,a8⟩:=h;simp only[ds];have sp:∀y:Nat,y=y%256+256*(y / 256):=λy=>by omega
 have a8:x / 256 / 256 / 256 / 256 / 256 / 256 / 256 / 256=0:=a8;have e6:=sp (x / 256 / 256 / 256 / 256 / 256 / 256);have e7:=sp (x / 256 / 256 / 256 / 256 / 256 / 256 / 256);rw[a8]at e7;generalize hb7:x / 256 / 256 / 256 / 256 / 256 / 256 / 256=b7 at*
 have e7:b7=b7%256:=by omega
 rw[<-e7]at a7⊢;exact fold_lin a0 a1 a2 a3 a4 a5 a6 a7 (sp x) (sp _) (sp _) (sp _) (sp _) (sp _) e6
theorem ones_ds(x:Nat):ones x=ds 2 64 x:=by have e1:g1 x=h1 32 x:=rfl;have e2:∀x,g2 x=h2 16 x:=λx=>rfl;have e3:∀x,g3 x=h3 8 x:=λx=>rfl;unfold ones;rw[e3,e2,e1,fold_ds (byt_h3 8 _ (nib_h2 16 _)),ds_h3 8 _ (nib_h2 16 _),ds_h2 16,ds_h1 32]
end Gf
namespace Gf
def cnt(b:Nat->Bool):Nat->Nat
 |0=>0
 |n+1=>cnt b n+(b n).toNat
theorem cnt_congr{b c:Nat->Bool}:∀{n:Nat},(∀i,i<n->b i=c i)->cnt b n=cnt c n
 |0,_=>rfl
 |n+1,h=>by simp only[cnt];rw[cnt_congr (λi hi=>h i (by omega)),h n (by omega)]
theorem cnt_le(b:Nat->Bool):∀n,cnt b n<=n
 |0=>A9 _
 |n+1=>by have:=cnt_le b n;have:(b n).toNat<=1:=Bool.toNat_le _;simp only[cnt];omega
theorem V1(b:Nat->Bool)(n:Nat):∀m,cnt b (n+m)=cnt b n+cnt (λi=>b (n+i)) m
 |0=>rfl
 |m+1=>by rw[show n+(m+1)=n+m+1 by omega];simp only[cnt];rw[V1 b n m];omega
theorem Wr{b:Nat->Bool}:∀{n:Nat},(∀i,i<n->b i=false)->cnt b n=0
 |0,_=>rfl
 |n+1,h=>by simp only[cnt];rw[Wr (λi hi=>h i (by omega)),h n (by omega)];rfl
theorem cnt_sup{b:Nat->Bool}{n:Nat}(hb:Sup n b)(m:Nat)(h:n<=m):cnt b m=cnt b n:=by obtain⟨k,rfl⟩:=Nat.exists_eq_add_of_le h;rw[V1,Wr (b:=λi=>b (n+i)) λi _=>hb _ (by omega)];rfl
theorem Vt:∀k x,ds 2 k x=cnt (λi=>x.testBit i) k
 |0,x=>rfl
 |k+1,x=>by
  have h:=V1 (λi=>x.testBit i) 1 k;rw[show k+1=1+k by omega,h];rw[show 1+k=k+1 by omega];simp only[ds,cnt];rw[Vt k (x / 2)];have e:(λi=>(x / 2).testBit i)=λi=>x.testBit (1+i):=(by funext i;rw[show 1+i=i+1 by omega,Nat.testBit_succ]);rw[e];have:x%2=(x.testBit 0).toNat:=by rw[Nat.testBit_zero];rcases B7 x with h|h<;>rw[h]<;>rfl
  omega
theorem ones_wd(b:Nat->Bool)(j:Nat):ones (wd b j)=cnt (λi=>b (64*j+i)) 64:=by rw[ones_ds,Vt];refine cnt_congr λi hi=> ?_;rw[XS];simp[hi]
theorem weight{n:Nat}{b:Nat->Bool}(x:Int)(hn:n<=1000000)(hb:Sup n b):M84.m ⟨x,vw n b⟩=some ((cnt b n:Nat):Int):=by
 have hnw:nw n<=1000000:=by unfold nw;omega
 have key:=QV (step:=M84.s0) (λi=>⟨((cnt b (64*i):Nat):Int),vw n b,((nw n:Nat):Int),(i:Int)⟩) (nw n) (y:=⟨((cnt b (64*nw n):Nat):Int)⟩) (λi hi=>by
   have e1:decide ((i:Int)<((nw n:Nat):Int))=true:=(by simpa using hi);have e2:inR (i:Int) (vw n b).length=true:=Q6 (by rw[J3];exact hi);have e3:cnt b (64*(i+1))=cnt b (64*i)+ones (wd b i):=(by rw[ones_wd,show 64*(i+1)=64*i+64 by omega,V1]);have h1:=cnt_le b (64*i);have h2:=cnt_le b (64*(i+1));have e4:IntKind.i64.wrap (((cnt b (64*i):Nat):Int)+((ones (wd b i):Nat):Int))=((cnt b (64*(i+1)):Nat):Int):=(by rw[w64 (by omega) (by omega)];omega);unfold M84.s0;simp only[e1,e2,A7,A8,KK n b hi,Al,ones_run (V4 b i),bindO,e4,suc (show i<9000000000000000000 by omega)]) (by
   unfold M84.s0;have e1:decide (((nw n:Nat):Int)<((nw n:Nat):Int))=false:=(by simp);simp only[e1,AA])
 have key:iter M84.s0 ⟨0,vw n b,((nw n:Nat):Int),0⟩=_:=key;unfold M84.m;simp only[J3,key,bindO];rw[cnt_sup hb _ (by unfold nw;omega)]
def xr(a b:Nat->Bool):Nat->Bool:=λi=>Bool.xor (a i) (b i)
def an(a b:Nat->Bool):Nat->Bool:=λi=>a i&&b i
theorem wd_xr(a b:Nat->Bool)(j:Nat):wd a j^^^wd b j=wd (xr a b) j:=by refine Ay λk=> ?_;rw[Nat.testBit_xor,XS,XS,XS];unfold xr;by_cases h:k<64<;>simp[h]
theorem wd_an(a b:Nat->Bool)(j:Nat):wd a j&&&wd b j=wd (an a b) j:=by refine Ay λk=> ?_;rw[Nat.testBit_and,XS,XS,XS];unfold an;by_cases h:k<64<;>simp[h]
theorem sup_xr{n:Nat}{a b:Nat->Bool}(ha:Sup n a)(hb:Sup n b):Sup n (xr a b):=λi hi=>by unfold xr;rw[ha i hi,hb i hi];rfl
theorem sup_an{n:Nat}{a b:Nat->Bool}(ha:Sup n a):Sup n (an a b):=λi hi=>by unfold an;rw[ha i hi];rfl
theorem comb_x{n:Nat}(a b:Nat->Bool)(y:Int)(hn:n<=1000000):M104x.m ⟨n,vw n a,y,vw n b⟩=some ((n:Int),vw n (xr a b)):=by
 have hnw:nw n<=1000000:=by unfold nw;omega
 have key:=QV (step:=M104x.s0) (λi=>⟨((nw n:Nat):Int),(i:Int),(n:Int),vw n a,y,vw n b,mix (λj=>((wd (xr a b) j:Nat):Int)) (λ_=>0) i (nw n),(n:Int),0,nw n,nw n⟩) (nw n) (y:=⟨(n:Int),vw n a,y,vw n b,vw n (xr a b),(n:Int),0,nw n,nw n⟩) (λi hi=>by
   have e1:decide ((i:Int)<((nw n:Nat):Int))=true:=(by simpa using hi);have e2:inR (i:Int) (vw n a).length=true:=Q6 (by rw[J3];exact hi);have e3:inR (i:Int) (vw n b).length=true:=Q6 (by rw[J3];exact hi);have e4:decide (0+i<(mix (λj=>((wd (xr a b) j:Nat):Int)) (λ_=>0) i (nw n)).length)=true:=(by rw[JV];simpa using hi);have e5:M105.m ⟨((wd a i:Nat):Int),((wd b i:Nat):Int)⟩=some ((wd (xr a b) i:Nat):Int):=(by unfold M105.m;simp only[Kx (V4 a i) (V4 b i),wd_xr]);unfold M104x.s0;simp only[e1,e2,e3,Q6 hi,e4,A7,A8,KK n a hi,KK n b hi,Al,e5,bindO,suc (show i<9000000000000000000 by omega)];have:=KB (λj=>((wd (xr a b) j:Nat):Int)) (λ_=>0) hi;rw[<-this,Ac]) (by
   unfold M104x.s0;have e1:decide (((nw n:Nat):Int)<((nw n:Nat):Int))=false:=(by simp);simp only[e1,AA,Zw];rfl)
 rw[Zv,Xh (λ_=>(0:Int)),<-vw_no]at key;have key:iter M104x.s0 ⟨((nw n:Nat):Int),0,(n:Int),vw n a,y,vw n b,vw n (λ_=>false),(n:Int),0,nw n,nw n⟩=_:=key;unfold M104x.m;simp only[blank n hn,bindO,key,Z6,AY,A7,Jt]
theorem comb_a{n:Nat}(a b:Nat->Bool)(y:Int)(hn:n<=1000000):M104a.m ⟨n,vw n a,y,vw n b⟩=some ((n:Int),vw n (an a b)):=by
 have hnw:nw n<=1000000:=by unfold nw;omega
 have key:=QV (step:=M104a.s0) (λi=>⟨((nw n:Nat):Int),(i:Int),(n:Int),vw n a,y,vw n b,mix (λj=>((wd (an a b) j:Nat):Int)) (λ_=>0) i (nw n),(n:Int),0,nw n,nw n⟩) (nw n) (y:=⟨(n:Int),vw n a,y,vw n b,vw n (an a b),(n:Int),0,nw n,nw n⟩) (λi hi=>by
   have e1:decide ((i:Int)<((nw n:Nat):Int))=true:=(by simpa using hi);have e2:inR (i:Int) (vw n a).length=true:=Q6 (by rw[J3];exact hi);have e3:inR (i:Int) (vw n b).length=true:=Q6 (by rw[J3];exact hi);have e4:decide (0+i<(mix (λj=>((wd (an a b) j:Nat):Int)) (λ_=>0) i (nw n)).length)=true:=(by rw[JV];simpa using hi);have e5:M106.m ⟨((wd a i:Nat):Int),((wd b i:Nat):Int)⟩=some ((wd (an a b) i:Nat):Int):=(by unfold M106.m;simp only[XC (V4 a i) (V4 b i),wd_an]);unfold M104a.s0;simp only[e1,e2,e3,Q6 hi,e4,A7,A8,KK n a hi,KK n b hi,Al,e5,bindO,suc (show i<9000000000000000000 by omega)];have:=KB (λj=>((wd (an a b) j:Nat):Int)) (λ_=>0) hi;rw[<-this,Ac]) (by
   unfold M104a.s0;have e1:decide (((nw n:Nat):Int)<((nw n:Nat):Int))=false:=(by simp);simp only[e1,AA,Zw];rfl)
 rw[Zv,Xh (λ_=>(0:Int)),<-vw_no]at key;have key:iter M104a.s0 ⟨((nw n:Nat):Int),0,(n:Int),vw n a,y,vw n b,vw n (λ_=>false),(n:Int),0,nw n,nw n⟩=_:=key;unfold M104a.m;simp only[blank n hn,bindO,key,Z6,AY,A7,Jt]
theorem sum{n:Nat}(a b:Nat->Bool)(y:Int)(hn:n<=1000000):M80.m ⟨n,vw n a,y,vw n b⟩=some ((n:Int),vw n (xr a b)):=by unfold M80.m;simp only[comb_x a b y hn,bindO]
def dot(n:Nat)(a b:Nat->Bool):Bool:=cnt (an a b) n%2==1
theorem odd{n:Nat}{a b:Nat->Bool}(y:Int)(hn:n<=1000000)(ha:Sup n a):M81.m ⟨n,vw n a,y,vw n b⟩=some (dot n a b):=by unfold M81.m;simp only[comb_a a b y hn,bindO,weight (n:Int) hn (sup_an ha)];rw[show Int.tmod ((cnt (an a b) n:Nat):Int) 2=((cnt (an a b) n%2:Nat):Int) from rfl];unfold dot;rcases B7 (cnt (an a b) n) with h|h<;>rw[h]<;>rfl
end Gf
namespace Gf
theorem at_in{n i:Nat}{b:Nat->Bool}(hn:n<=4096)(hb:Sup n b)(hi:i<n):M37.m ⟨n,vw n b,i⟩=some (i01 (b i)):=by
 have e0:((0:Int) !=0)=false:=rfl;have e1:decide ((i:Int)<0)=false:=by simp
 have e2:decide ((i:Int)>=(n:Int))=false:=by simp;omega
 unfold M37.m;simp only[check hn hb,bindO,e0,e1,e2,AA,BB,A7,has (n:Int) b (show n<=1000000 by omega) (show i / 64<nw n by unfold nw;omega)];cases b i<;>rfl
theorem lb01(n:Nat)(b:Nat->Bool):B01 (lb n b):=λx hx=>by
 unfold lb at hx;obtain⟨i,_,rfl⟩:=Am.1 hx;cases b i
 ·exact .inl rfl
 ·exact .inr rfl
theorem lb_at(n:Nat)(b:Nat->Bool){i:Nat}(h:i<n):(lb n b)[i]? =some (i01 (b i)):=by unfold lb;rw[AX,Be h];rfl
theorem bt_lb(n:Nat)(b:Nat->Bool)(hb:Sup n b):bt (lb n b)=b:=by
 funext i;unfold bt;by_cases hi:i<n
 ·rw[lb_at _ _ hi,Al];cases b i<;>rfl
 ·rw[Ad (by rw[Jy];omega),hb i (by omega)];rfl
theorem okS_lb{n:Nat}(b:Nat->Bool)(hn:n<=1000000):M32.okS (lb n b)=true:=by unfold M32.okS;rw[AC];refine⟨Bk.2 λx hx=> ?_,by rw[Jy];exact Nat.ble_eq_true_of_le hn⟩;rcases lb01 n b x hx with e|e<;>rw[e]<;>rfl
theorem text{n:Nat}{b:Nat->Bool}(hn:n<=4096)(hb:Sup n b):M32.m ⟨n,vw n b⟩=some (UQ (lb n b)):=by unfold M32.m;simp only[bits hn hb,bindO,okS_lb b (show n<=1000000 by omega),A7]
end Gf
namespace Gf
def cell(a:List Int)(i k j:Int):Int:=
 bif decide (IntKind.i64.wrap ((IntKind.i64.wrap (IntKind.i64.wrap (i*k)+j)).tdiv 8)<(↑a.length:Int)) then
  IntKind.u8.wrap (↑(BitVec.ofInt 8 (Int.fdiv (a[(IntKind.i64.wrap ((IntKind.i64.wrap (IntKind.i64.wrap (i*k)+j)).tdiv 8)).toNat]?.getD 0) (2^min ((IntKind.i64.wrap (IntKind.i64.wrap (i*k)+j)).tmod 8).toNat 8))&&&BitVec.ofInt 8 1).toNat:Int)
 else 0
end Gf
