/- A part of the proof. -/
import Derived.Test.YtddaobhpffpmoaaSR7QSp
import Derived.Test.YtddaobhpffpmoaaSR7QGu
set_option linter.all false
set_option maxRecDepth 100000
namespace Go.Proofs.Ytddaobhpffpmoaa
open Go.Abs
namespace Sf
open Gf
def sk(n:Nat)(t:Q7):Nat->Q7->Q7
 |0,x=>x
 |k+1,x=>sb n t (sk n t k x)
theorem sb_xr(n:Nat)(t a b:Q7):sb n t (xr a b)=xr (sb n t a) (sb n t b):=by
 funext i;unfold sb;show _=Bool.xor (decide (i<n)&&(if i=0 then dot 64 a t else a (i - 1))) (decide (i<n)&&(if i=0 then dot 64 b t else b (i - 1)));by_cases h:i<n
 ·simp only[A5 h,BF];by_cases h0:i=0
  ·rw[AB h0,AB h0,AB h0,xr_dot]
  ·rw[AE h0,AE h0,AE h0];rfl
 ·simp only[A6 h,C2];rfl
theorem sk_xr(n:Nat)(t a b:Q7):∀k,sk n t k (xr a b)=xr (sk n t k a) (sk n t k b)
 |0=>rfl
 |k+1=>by show sb n t (sk n t k (xr a b))=_;rw[sk_xr n t a b k,sb_xr];rfl
theorem sb_no(n:Nat)(t:Q7):sb n t (λ_=>false)=λ_=>false:=by
 funext i;unfold sb;by_cases h0:i=0
 ·rw[AB h0,VZ,Bool.and_false]
 ·rw[AE h0,Bool.and_false]
theorem sk_no(n:Nat)(t:Q7):∀k,sk n t k (λ_=>false)=λ_=>false
 |0=>rfl
 |k+1=>by show sb n t (sk n t k _)=_;rw[sk_no n t k,sb_no]
theorem bz_nk{n T:Nat}(hn:n<=64)(s:Nat):∀k,bz (nk n T k s)=sk n (bz T) k (bz s)
 |0=>rfl
 |k+1=>by show bz (nx n T (nk n T k s))=sb n (bz T) (sk n (bz T) k (bz s));rw[bz_nx hn,bz_nk hn s k]
def fc(n:Nat)(t p:Q7)(k:Nat)(x:Q7):Bool:=dot 64 (sk n t k x) p
theorem fc_xr(n:Nat)(t p:Q7)(k:Nat)(a b:Q7):fc n t p k (xr a b)=Bool.xor (fc n t p k a) (fc n t p k b):=by unfold fc;rw[sk_xr,xr_dot]
theorem fc_no(n:Nat)(t p:Q7)(k:Nat):fc n t p k (λ_=>false)=false:=by unfold fc;rw[sk_no,VZ]
theorem lin_dot{f:Q7->Bool}(hx:∀a b,f (xr a b)=Bool.xor (f a) (f b))(h0:f (λ_=>false)=false):∀(n:Nat) (x:Q7),Sup n x->f x=dot n (λk=>f (un k)) x
 |0,x,h=>by have:x=λ_=>false:=(by funext i;exact h i (B4 _));rw[this,h0,dot_no]
 |n+1,x,h=>by
  have hy:Sup n (λi=>decide (i<n)&&x i):=λi hi=>(by simp only[A6 (show¬i<n by omega),C2]);have hd:dot n (λk=>f (un k)) (λi=>decide (i<n)&&x i)=dot n (λk=>f (un k)) x:=ZF λi hi=>(by rw[A5 hi,BF]);have ih:=lin_dot hx h0 n _ hy;have hs:dot (n+1) (λk=>f (un k)) x=Bool.xor (dot n (λk=>f (un k)) x) (f (un n)&&x n):=(by rw[JA,JA];rfl);rw[hs,<-hd,<-ih]
  cases hxn:x n with
  |false=>
   rw[Bool.and_false,Bool.xor_false];congr 1;funext i;by_cases hi:i<n
   ·rw[A5 hi,BF]
   ·rw[A6 hi,C2];by_cases e:i=n
    ·rw[e,hxn]
    ·exact h i (by omega)
  |true=>
   rw[Bool.and_true,<-hx];congr 1;funext i;show x i=Bool.xor (decide (i<n)&&x i) (i==n);by_cases hi:i<n
   ·rw[A5 hi,BF,At.2 (show i≠n by omega),Bool.xor_false]
   ·rw[A6 hi,C2];by_cases e:i=n
    ·subst e;rw[hxn];simp
    ·rw[At.2 e,h i (by omega)];rfl
theorem fc_dot(n:Nat)(t p:Q7)(k:Nat){x:Q7}(hx:Sup n x):fc n t p k x=dot n (λi=>fc n t p k (un i)) x:=lin_dot (fc_xr n t p k) (fc_no n t p k) n x hx
theorem st_nk{n T s:Nat}(h:Vd n T)(hs:s<2^n):∀k,M61.st n T s k=((nk n T k s:Nat):Int)
 |0=>rfl
 |k+1=>by show M61.nx n T (M61.st n T s k)=_;rw[st_nk h hs k];unfold M61.nx;rw[next93 ⟨h.lo,h.hi⟩ h.T64 (AL (nk_lt h.hi hs) (pow_le h.hi))];rfl
theorem pr_band{a b:Nat}(ha:a<2^64)(hb:b<2^64):M61.pr (band a b)=i01 (dot 64 (bz a) (bz b)):=by unfold band M61.pr;rw[XC ha hb,par110 (CJ Cb ha),pz_and];rfl
structure Dc(n T:Nat)(P:List Nat)(c:Nat):Prop where
 vd:Vd n T
 ph:∀p∈P,p<2^n
 len:P.length<=64
 cap:P≠[]->c<=4096 / P.length
 c64:c<=9223372036854775807
theorem ints_get(P:List Nat){j:Nat}(h:j<P.length):(ints P)[j]?.getD 0=((P[j]:Nat):Int):=by simp[ints,h]
theorem Dc.c4{n T:Nat}{P:List Nat}{c:Nat}(h:Dc n T P c)(hp:P≠[]):c<=4096:=Ao (h.cap hp) (Nat.div_le_self _ _)
theorem Dc.all{n T:Nat}{P:List Nat}{c:Nat}(h:Dc n T P c):P.length*c<=4096:=by
 by_cases hp:P=[]
 ·subst hp;simp
 ·have:=Nat.mul_le_mul_left P.length (h.cap hp);exact Ao this (Nat.mul_div_le _ _)
theorem valid72{n T:Nat}{P:List Nat}{c:Nat}(h:Dc n T P c):M72.m ⟨n,T,ints P,c⟩=some 0:=by
 unfold M72.m;have hl:=h.len;have hc:=h.c64;have a1:decide (((ints P).length:Int)>64)=false:=A6 (by rw[Q4];omega);have hi:iter M72.s0 ⟨ints P,((ints P).length:Int),((0:Nat):Int),n,T,ints P,c⟩=some (.inl ⟨n,T,ints P,c⟩):=by
  refine QV (λi=>(⟨ints P,((ints P).length:Int),(i:Int),n,T,ints P,c⟩:M72.p0X)) P.length (λi hi=> ?_) ?_
  ·unfold M72.s0;have b1:decide ((i:Int)<((ints P).length:Int))=true:=A5 (by rw[Q4];omega);have b2:inR (i:Int) (ints P).length=true:=Q6 (by rw[Q4];exact hi);have b3:M100.m ⟨(ints P)[(i:Int).toNat]?.getD 0,n⟩=some false:=(by rw[A8,ints_get P hi];have hp:=h.ph _ (AJ hi);rw[wide100 h.vd.hi (AL hp (pow_le h.vd.hi)),A6 (by omega)]);have b4:IntKind.i64.wrap ((i:Int)+1)=((i+1:Nat):Int):=suc (by omega);simp only[b1,b2,b3,b4,bindO,A7,AA]
  ·unfold M72.s0;have b1:decide ((P.length:Int)<((ints P).length:Int))=false:=A6 (by rw[Q4];omega);simp only[b1,AA]
 simp only[check71 h.vd,bindO,a1,AA];show bindO (iter M72.s0 ⟨ints P,((ints P).length:Int),((0:Nat):Int),n,T,ints P,c⟩) _=_;rw[hi];have c1:decide ((c:Int)<0)=false:=A6 (by omega);simp only[bindO,sumC,c1,Q4];by_cases hp:P=[]
 ·subst hp;rfl
 ·have hpos:0<P.length:=List.length_pos_iff.2 hp;have c2:Go.Abs.nz (P.length:Int)=true:=(by unfold Go.Abs.nz;rw[At.2 (show(P.length:Int)≠0 by omega)];rfl);have c3:decide ((P.length:Int)>0)=true:=A5 (by omega);have c4:IntKind.i64.wrap (Int.tdiv 4096 (P.length:Int))=((4096 / P.length:Nat):Int):=(by have e:Int.tdiv 4096 (P.length:Int)=((4096 / P.length:Nat):Int):=rfl;have:=Nat.div_le_self 4096 P.length;rw[e];generalize 4096 / P.length=q at this;exact w64 (by omega) (by omega));have c5:decide ((c:Int)>((4096 / P.length:Nat):Int))=false:=A6 (by have:=h.cap hp;omega);simp only[AA,c2,c3,c4,c5,Bd,A7]
def fb(n T:Nat)(P:List Nat)(c j i:Nat):Q7->Bool:=fc n (bz T) (bz (P[j]?.getD 0)) (c - 1 - i)
def cellsB(n T:Nat)(P:List Nat)(c s:Nat):List (List Int):=(List.range P.length).map λj=>(List.range c).map λi=>i01 (fb n T P c j i (bz s))
theorem u8_i01(b:Bool):IntKind.u8.wrap (i01 b)=i01 b:=by cases b<;>rfl
theorem exp61{n T:Nat}{P:List Nat}{c s:Nat}(h:Dc n T P c)(hs:s<2^n):M61.m ⟨n,T,ints P,c,s⟩=some (cellsB n T P c s,0):=by
 have hn:=h.vd.hi;have hl:=h.len;have hc:=h.c64;have hok:M61.okE ⟨n,T,ints P,c,s⟩=true:=by
  have a1:decide (0<=(n:Int))=true:=A5 (by omega);have a2:(decide ((ints P)=[])||(decide (0<=(c:Int))&&decide ((c:Int)<=4096)))=true:=by
   by_cases hp:P=[]
   ·subst hp;rfl
   ·have:=h.c4 hp;rw[A5 (show(0:Int)<=c by omega),A5 (show(c:Int)<=4096 by omega),AY,CY]
  have a3:decide ((ints P).length<=4096)=true:=A5 (by rw[Q4];omega);have a4:decide (-9223372036854775808<=(c:Int))=true:=A5 (by omega);have a5:decide ((c:Int)<=9223372036854775807)=true:=A5 (by omega);simp only[M61.okE,a1,a2,a3,a4,a5,AY]
 unfold M61.m;simp only[valid72 h,begin91 h.vd hs,bindO,hok,A7];show some (M61.cells ⟨n,T,ints P,c,s⟩,(0:Int))=_;unfold M61.cells cellsB;rw[Q4,A8];congr 2;refine Aa λj hj=>Aa λi hi=> ?_;have hj:=BK.1 hj;unfold cellV;have hk:=nk_lt (T:=T) hn (k:=c - 1 - i) hs;have hp:=h.ph _ (AJ hj);rw[st_nk h.vd hs,ints_get P hj,pr_band (AL hk (pow_le hn)) (AL hp (pow_le hn)),u8_i01,bz_nk hn];unfold fb fc;rw[A3 hj];rfl
def Rr(n T:Nat)(P:List Nat)(c r:Nat):Q7:=λk=>decide (k<n)&&fb n T P c (r / c) (r%c) (un k)
def Rq(n T:Nat)(P:List Nat)(c:Nat):List Q7:=(List.range (P.length*c)).map (Rr n T P c)
theorem Rq_length(n T:Nat)(P:List Nat)(c:Nat):(Rq n T P c).length=P.length*c:=by simp[Rq]
theorem Rr_sup(n T:Nat)(P:List Nat)(c r:Nat):Sup n (Rr n T P c r):=λi hi=>by unfold Rr;rw[A6 (by omega)];rfl
theorem Rq_sup(n T:Nat)(P:List Nat)(c:Nat):Y8 n (Rq n T P c):=λb hb=>by obtain⟨r,_,rfl⟩:=Am.1 hb;exact Rr_sup _ _ _ _ _
theorem Rr_dot{n T:Nat}{P:List Nat}{c r:Nat}{x:Q7}(hx:Sup n x):dot n (Rr n T P c r) x=fb n T P c (r / c) (r%c) x:=by
 have e:dot n x (Rr n T P c r)=dot n x (λi=>fb n T P c (r / c) (r%c) (un i)):=ZF λi hi=>by unfold Rr;rw[A5 hi,BF]
 rw[Jo,e,Jo];exact(fc_dot n _ _ _ hx).symm
theorem rowV_eq{n T:Nat}{P:List Nat}{c r:Nat}(h:Dc n T P c)(hr:r<P.length*c) (k:Nat):k<=n->rowV (M61.st n T) M61.pr (ints P) c k r=((nb (λj=>decide (j<k)&&fb n T P c (r / c) (r%c) (un j)) 64:Nat):Int):=by
 induction k with
 |zero=>intro _;have e:(λj=>decide (j<0)&&fb n T P c (r / c) (r%c) (un j))=λ_=>false:=(by funext j;simp);rw[e];have:nb (λ_=>false) 64=0:=Ay λi=>(by rw[XI];simp);rw[this];rfl
 |succ k ih=>
  intro hk;have hn:=h.vd.hi;have hj:r / c<P.length:=CV (by rwa [CI]);have hp:=h.ph _ (AJ hj);have hpk:2^k<2^n:=BJ (by omega) (by omega);have hsk:=nk_lt (T:=T) hn (k:=c - 1 - r%c) hpk;show bor (rowV (M61.st n T) M61.pr (ints P) c k r) (IntKind.u64.wrap (M61.pr (band (M61.st n T (IntKind.u64.wrap (1*2^min k 64)) (c - 1 - r%c)) ((ints P)[r / c]?.getD 0))*2^min k 64))=_;rw[ih (by omega),pow_u (by omega),st_nk h.vd hpk,ints_get P hj,pr_band (AL hsk (pow_le hn)) (AL hp (pow_le hn)),bz_nk hn,bz_pow];have hfb:dot 64 (sk n (bz T) (c - 1 - r%c) (un k)) (bz P[r / c])=fb n T P c (r / c) (r%c) (un k):=(by unfold fb fc;rw[A3 hj];rfl);rw[hfb];generalize fb n T P c (r / c) (r%c)=g;have e1:IntKind.u64.wrap (i01 (g (un k))*2^min k 64)=(((g (un k)).toNat*2^k:Nat):Int):=by
   cases g (un k)
   ·show IntKind.u64.wrap (0*2^min k 64)=((0*2^k:Nat):Int);rw[Int.zero_mul,B6];rfl
   ·show IntKind.u64.wrap (1*2^min k 64)=_;rw[pow_u (by omega)];simp
  have hlt:(g (un k)).toNat*2^k<2^64:=by
   have:2^k<2^64:=BJ (by omega) (by omega);cases g (un k)
   ·simp
   ·simpa using this
  rw[e1];unfold bor;have key:(nb (λj=>decide (j<k)&&g (un j)) 64|||(g (un k)).toNat*2^k)=nb (λj=>decide (j<k+1)&&g (un j)) 64:=by
   refine Ay λi=> ?_;rw[Nat.testBit_or,XI,XI];have hb:((g (un k)).toNat*2^k).testBit i=(decide (i=k)&&g (un k)):=by
    cases g (un k)
    ·simp
    ·simp only[Bool.toNat_true,Nat.one_mul,Bool.and_true];rw[Nat.testBit_two_pow];congr 1;exact propext ⟨Eq.symm,Eq.symm⟩
   rw[hb];by_cases e:i=k
   ·subst e;simp[show i<64 by omega]
   ·have h2:decide (i<k+1)=decide (i<k):=(by congr 1;apply propext;omega);rw[h2,A6 e,C2,Bool.or_false]
  rw[or_run (WM _ _) hlt,key]
theorem eqs97{n T:Nat}{P:List Nat}{c:Nat}(h:Dc n T P c):M97.m ⟨n,T,ints P,c⟩=some ((n:Int),mr n (Rq n T P c)):=by
 have hn:1<=n/\n<=64:=⟨h.vd.lo,h.vd.hi⟩;have hl:=h.len;unfold M97.m;by_cases hp:P=[]
 ·subst hp;have:(Rq n T [] c)=[]:=(by unfold Rq;simp);rw[this];rfl
 ·have e:(ints P).isEmpty=false:=by
   cases P with
   |nil=>exact absurd rfl hp
   |cons a l=>rfl
  have hok:M97.okE ⟨n,T,ints P,c⟩=true:=(by have hc:=h.c4 hp;have a1:decide (1<=(n:Int))=true:=A5 (by omega);have a2:decide ((n:Int)<=64)=true:=A5 (by omega);have a3:decide (0<=(c:Int))=true:=A5 (by omega);have a4:decide ((c:Int)<=4096)=true:=A5 (by omega);have a5:decide ((ints P).length<=4096)=true:=A5 (by rw[Q4];omega);simp only[M97.okE,a1,a2,a3,a4,a5,AY]);simp only[e,hok,A7,AA];congr 2;unfold M97.rows mr Rq;rw[Q4,A8,B0];refine Aa λr hr=> ?_;have hr:=BK.1 hr;show((n:Int),[rowV (M61.st n T) M61.pr (ints P) c (n:Int).toNat r])=((n:Int),vw n (Rr n T P c r));rw[A8,rowV_eq h hr n (A9 _)];have hv:=vw1 hn (x:=nb (Rr n T P c r) 64) (WM _ _);rw[show bz (nb (Rr n T P c r) 64)=Rr n T P c r from tb_nb 64 (sup_le (Rr_sup n T P c r) hn.2)]at hv;rw[hv];rfl
theorem eqs65{n T:Nat}{P:List Nat}{c:Nat}(h:Dc n T P c):M65.m ⟨n,T,ints P,c⟩=some ((n:Int),mr n (Rq n T P c),0):=by unfold M65.m;simp only[valid72 h,eqs97 h,bindO];rfl
end Sf
namespace Sf
open Gf
def cv(L:List (List Int))(c r:Nat):Int:=(L[r / c]?.getD [])[r%c]?.getD 0
structure Cl(P:List Nat)(c:Nat)(L:List (List Int)):Prop where
 len:L.length=P.length
 row:∀l∈L,l.length=c
 val:∀l∈L,∀v∈l,v=0\/v=1\/v=2
theorem Cl.at{P:List Nat}{c:Nat}{L:List (List Int)}(h:Cl P c L){r:Nat}(hr:r<P.length*c):cv L c r=0\/cv L c r=1\/cv L c r=2:=by
 have hc:0<c:=Nat.pos_of_ne_zero λe=>by rw[e,Nat.mul_zero]at hr;omega
 have hj:r / c<L.length:=by rw[h.len];exact CV (by rwa [CI])
 have hm:=AJ hj;have hi:r%c<L[r / c].length:=by rw[h.row _ hm];exact Aq _ hc
 unfold cv;rw[A3 hj,Al,A3 hi,Al];exact h.val _ hm _ (AJ hi)
theorem shape96{P:List Nat}{c:Nat}{L:List (List Int)}(h:Cl P c L)(hl:P.length<=64)(hc:c<=9000000000000)(n t:Int):M96.m ⟨n,t,ints P,c,L⟩=some 0:=by
 have hL:=h.len;have i2:∀j,j<L.length->iter M96.s2 ⟨L,(L.length:Int),(j:Int),L[j]?.getD [],((L[j]?.getD []).length:Int),((0:Nat):Int)⟩=some (.inl ⟨L,(L.length:Int),(j:Int)⟩):=λj hj=>by
  rw[A3 hj,Al];have hm:=AJ hj;have hr:=h.row _ hm;refine QV (λi=>(⟨L,(L.length:Int),(j:Int),L[j],(L[j].length:Int),(i:Int)⟩:M96.p2X)) L[j].length (λi hi=> ?_) ?_
  ·unfold M96.s2;have b1:decide ((i:Int)<(L[j].length:Int))=true:=A5 (by omega);have b2:inR (i:Int) L[j].length=true:=Q6 hi;have b3:decide (L[j][(i:Int).toNat]?.getD 0>2)=false:=A6 (by
    rw[A8,A3 hi,Al];have:=h.val _ hm _ (AJ hi);omega)
   have b4:IntKind.i64.wrap ((i:Int)+1)=((i+1:Nat):Int):=suc (by omega);simp only[b1,b2,b3,b4,A7,AA]
  ·unfold M96.s2;have b1:decide ((L[j].length:Int)<(L[j].length:Int))=false:=A6 (by omega);simp only[b1,AA]
 have i1:iter M96.s1 ⟨L,(L.length:Int),((0:Nat):Int)⟩=some (.inl PUnit.unit):=by
  refine QV (λj=>(⟨L,(L.length:Int),(j:Int)⟩:M96.p1X)) L.length (λj hj=> ?_) ?_
  ·unfold M96.s1;have b1:decide ((j:Int)<(L.length:Int))=true:=A5 (by omega);have b2:inR (j:Int) L.length=true:=Q6 hj;have b4:IntKind.i64.wrap ((j:Int)+1)=((j+1:Nat):Int):=suc (by omega);have b5:=i2 j hj;simp only[b1,b2,b4,A8,A7];show bindO (iter M96.s2 ⟨L,(L.length:Int),(j:Int),L[j]?.getD [],((L[j]?.getD []).length:Int),((0:Nat):Int)⟩) _=_;rw[b5];simp only[bindO,sumC,b4]
  ·unfold M96.s1;have b1:decide ((L.length:Int)<(L.length:Int))=false:=A6 (by omega);simp only[b1,AA]
 have i0:iter M96.s0 ⟨L,L,(L.length:Int),((0:Nat):Int),n,t,ints P,c⟩=some (.inl ⟨L⟩):=by
  refine QV (λj=>(⟨L,L,(L.length:Int),(j:Int),n,t,ints P,c⟩:M96.p0X)) L.length (λj hj=> ?_) ?_
  ·unfold M96.s0;have b1:decide ((j:Int)<(L.length:Int))=true:=A5 (by omega);have b2:inR (j:Int) L.length=true:=Q6 hj;have b4:IntKind.i64.wrap ((j:Int)+1)=((j+1:Nat):Int):=suc (by omega);have b5:(((List.length (L[(j:Int).toNat]?.getD [])):Int) !=(c:Int))=false:=(by rw[A8,A3 hj,Al,h.row _ (AJ hj)];simp);simp only[b1,b2,b4,b5,A7,AA]
  ·unfold M96.s0;have b1:decide ((L.length:Int)<(L.length:Int))=false:=A6 (by omega);simp only[b1,AA]
 unfold M96.m;have a1:((L.length:Int) !=((ints P).length:Int))=false:=by rw[Q4,hL];simp
 simp only[a1,AA];show bindO (iter M96.s0 ⟨L,L,(L.length:Int),((0:Nat):Int),n,t,ints P,c⟩) _=_;rw[i0];have i1':iter M96.s1 ⟨L,(L.length:Int),0⟩=some (.inl PUnit.unit):=i1;simp only[bindO,sumC,i1']
def sel(v:Nat->Int)(m:Nat):List Nat:=(List.range m).filter λr=>v r !=2
theorem sel_succ(v:Nat->Int)(m:Nat):sel v (m+1)=if v m !=2 then sel v m++[m] else sel v m:=by unfold sel;rw[Bp,List.filter_append,List.filter_cons];split<;>simp
theorem sel_le(v:Nat->Int)(m:Nat):(sel v m).length<=m:=by unfold sel;have:=List.length_filter_le (λr=>v r !=2) (List.range m);rwa [Bn]at this
theorem mem_sel{v:Nat->Int}{m r:Nat}:r∈sel v m↔r<m/\v r≠2:=by unfold sel;rw[List.mem_filter,BK];simp
section
variable {n T:Nat}{P:List Nat}{c:Nat}{L:List (List Int)}
def rsE(n T:Nat)(P:List Nat)(c:Nat)(L:List (List Int))(m:Nat):List (Int×List Int):=mr n ((sel (cv L c) m).map (Rr n T P c))
def sdE(c:Nat)(L:List (List Int))(m:Nat):List Int:=(sel (cv L c) m).map (cv L c)
theorem rsE_length(n T:Nat)(P:List Nat)(m:Nat):(rsE n T P c L m).length=(sel (cv L c) m).length:=by simp[rsE,QD]
theorem sdE_length(m:Nat):(sdE c L m).length=(sel (cv L c) m).length:=by simp[sdE]
theorem Rq_get{r:Nat}(hr:r<P.length*c):(mr n (Rq n T P c))[r]?.getD (0,[])=((n:Int),vw n (Rr n T P c r)):=by rw[mr_at' (by rw[Rq_length];exact hr)];simp[Rq]
theorem loop63(h:Dc n T P c)(hL:Cl P c L):
  iter M63.s0 ⟨0,0,L,(L.length:Int),((0:Nat):Int),n,T,ints P,c,n,mr n (Rq n T P c),n,0,0,[],[]⟩=
   some ⟨sdE c L (P.length*c),n,T,ints P,c,n,mr n (Rq n T P c),n,rsE n T P c L (P.length*c)⟩:=by
 have hall:=h.all;have hl:=h.len;have hlen:=hL.len;let S1:Nat->Nat->M63.p1X:=λj i=>⟨0,(sel (cv L c) (j*c+i)).length,L,(L.length:Int),(j:Int),(j:Int),L[j]?.getD [],(c:Int),(i:Int),n,T,ints P,c,n,mr n (Rq n T P c),n,0,(sel (cv L c) (j*c+i)).length,rsE n T P c L (j*c+i),sdE c L (j*c+i)⟩;have inner:∀j,j<L.length->iter M63.s1 (S1 j 0)=some ⟨0,(sel (cv L c) ((j+1)*c)).length,L,(L.length:Int),(j:Int),n,T,ints P,c,n,mr n (Rq n T P c),n,0,(sel (cv L c) ((j+1)*c)).length,rsE n T P c L ((j+1)*c),sdE c L ((j+1)*c)⟩:=λj hj=>by
  have hrow:(L[j]?.getD []).length=c:=(by rw[A3 hj];exact hL.row _ (AJ hj));refine QV (S1 j) c (λi hi=> ?_) ?_
  ·have hr:j*c+i<P.length*c:=(by have:=Ae c (show j+1<=P.length by omega);rw[As]at this;omega);have hdv:=divmod (j:=j) hi;have b1:decide ((i:Int)<(c:Int))=true:=A5 (by omega);have b2:inR (i:Int) (L[j]?.getD []).length=true:=Q6 (by rw[hrow];exact hi);have b3:(L[j]?.getD [])[i]?.getD 0=cv L c (j*c+i):=(by unfold cv;rw[hdv.1,hdv.2]);have b4:IntKind.i64.wrap ((i:Int)+1)=((i+1:Nat):Int):=suc (by omega);have b5:IntKind.i64.wrap (IntKind.i64.wrap ((j:Int)*(c:Int))+(i:Int))=((j*c+i:Nat):Int):=(by have e:(j:Int)*(c:Int)=((j*c:Nat):Int):=(by simp);rw[e,w64 (x:=((j*c:Nat):Int)) (by omega) (by omega),w64 (by omega) (by omega)];omega);have b6:inR ((j*c+i:Nat):Int) (mr n (Rq n T P c)).length=true:=Q6 (by rw[QD,Rq_length];exact hr);have hsl:=sel_le (cv L c) (j*c+i);have b7:eqN (rsE n T P c L (j*c+i)).length (sel (cv L c) (j*c+i)).length=true:=(by simp[eqN,rsE_length]);have b8:eqN (sdE c L (j*c+i)).length (sel (cv L c) (j*c+i)).length=true:=(by simp[eqN,sdE_length]);have b9:Ql ((sel (cv L c) (j*c+i)).length+1) 32=true:=room (by omega);have b10:Ql ((sel (cv L c) (j*c+i)).length+1) 1=true:=room (by omega);have b11:eqN 0 0=true:=rfl;have b12:=Rq_get (n:=n) (T:=T) hr;have hsucc:j*c+(i+1)=(j*c+i)+1:=(by omega);show M63.s1 (S1 j i)=some (.inl (S1 j (i+1)));simp only[S1,hsucc];unfold M63.s1;by_cases hv:cv L c (j*c+i) !=2
   ·have e1:sel (cv L c) (j*c+i+1)=sel (cv L c) (j*c+i)++[j*c+i]:=(by rw[sel_succ,AB hv]);have e2:rsE n T P c L (j*c+i+1)=rsE n T P c L (j*c+i)++[((n:Int),vw n (Rr n T P c (j*c+i)))]:=(by unfold rsE;rw[e1];simp[mr]);have e3:sdE c L (j*c+i+1)=sdE c L (j*c+i)++[cv L c (j*c+i)]:=(by unfold sdE;rw[e1];simp);simp only[b1,b2,b3,b4,b5,b6,b7,b8,b9,b10,b11,hv,e1,e2,e3,A8,b12,AY,A7,Ab,List.length_singleton]
   ·have hv:(cv L c (j*c+i) !=2)=false:=(by simpa using hv);have e1:sel (cv L c) (j*c+i+1)=sel (cv L c) (j*c+i):=(by rw[sel_succ,hv];simp);have e2:rsE n T P c L (j*c+i+1)=rsE n T P c L (j*c+i):=(by unfold rsE;rw[e1]);have e3:sdE c L (j*c+i+1)=sdE c L (j*c+i):=(by unfold sdE;rw[e1]);simp only[b1,b2,A8,b3,b4,hv,e1,e2,e3,A7,AA]
  ·have b1:decide ((c:Int)<(c:Int))=false:=A6 (by omega);have e:j*c+c=(j+1)*c:=(by rw[As,Nat.one_mul]);simp only[S1,e];unfold M63.s1;simp only[b1,AA]
 have zero:sel (cv L c) 0=[]:=rfl;have:=QV (step:=M63.s0) (λj=>(⟨0,(sel (cv L c) (j*c)).length,L,(L.length:Int),(j:Int),n,T,ints P,c,n,mr n (Rq n T P c),n,0,(sel (cv L c) (j*c)).length,rsE n T P c L (j*c),sdE c L (j*c)⟩:M63.p0X)) L.length
  (y:=⟨sdE c L (P.length*c),n,T,ints P,c,n,mr n (Rq n T P c),n,rsE n T P c L (P.length*c)⟩) (λj hj=> ?_) ?_
 ·simp only[B6]at this;exact this
 ·have b1:decide ((j:Int)<(L.length:Int))=true:=A5 (by omega);have b2:inR (j:Int) L.length=true:=Q6 hj;have b4:IntKind.i64.wrap ((j:Int)+1)=((j+1:Nat):Int):=suc (by omega);have hrow:(L[j]?.getD []).length=c:=(by rw[A3 hj];exact hL.row _ (AJ hj));have hin:=inner j hj;unfold M63.s0;simp only[b1,b2,A8,hrow,A7];show bindO (iter M63.s1 (S1 j 0)) _=_;rw[hin];simp only[bindO,b4]
 ·have b1:decide ((L.length:Int)<(L.length:Int))=false:=A6 (by omega);rw[hlen];have e1:leB (0+(sel (cv L c) (P.length*c)).length) (sdE c L (P.length*c)).length=true:=(by simp[leB,sdE_length]);have e2:leB (0+(sel (cv L c) (P.length*c)).length) (rsE n T P c L (P.length*c)).length=true:=(by simp[leB,rsE_length]);have e3:List.take (sel (cv L c) (P.length*c)).length (List.drop 0 (sdE c L (P.length*c)))=sdE c L (P.length*c):=(by rw[An,AS (by rw[sdE_length];omega)]);have e4:List.take (sel (cv L c) (P.length*c)).length (List.drop 0 (rsE n T P c L (P.length*c)))=rsE n T P c L (P.length*c):=(by rw[An,AS (by rw[rsE_length];omega)]);rw[hlen]at b1;unfold M63.s0;simp only[b1,e1,e2,e3,e4,AY,A7,AA]
def Ins(n T:Nat)(P:List Nat)(c s:Nat)(L:List (List Int)):Prop:=∀r,r<P.length*c->cv L c r=2\/cv L c r=i01 (fb n T P c (r / c) (r%c) (bz s))
theorem ins_app(hL:Cl P c L){s:Nat}(hs:s<2^n):Ins n T P c s L↔app n ((sel (cv L c) (P.length*c)).map (Rr n T P c)) (bz s)=bt (sdE c L (P.length*c)):=by
 have key:∀r,r<P.length*c->cv L c r≠2->(cv L c r=i01 (fb n T P c (r / c) (r%c) (bz s))↔dot n (Rr n T P c r) (bz s)=(cv L c r==1)):=λr hr hv=>by
  rw[Rr_dot (ZG hs)];rcases hL.at hr with h|h|h
  ·rw[h];cases fb n T P c (r / c) (r%c) (bz s)<;>simp[i01]
  ·rw[h];cases fb n T P c (r / c) (r%c) (bz s)<;>simp[i01]
  ·exact absurd h hv
 have hlen:((sel (cv L c) (P.length*c)).map (Rr n T P c)).length=(sdE c L (P.length*c)).length:=by simp[sdE]
 have at1:∀k (hk:k<(sel (cv L c) (P.length*c)).length),app n ((sel (cv L c) (P.length*c)).map (Rr n T P c)) (bz s) k=dot n (Rr n T P c (sel (cv L c) (P.length*c))[k]) (bz s):=λk hk=>by rw[app_at _ (by simpa using hk)];simp
 have at2:∀k (hk:k<(sel (cv L c) (P.length*c)).length),bt (sdE c L (P.length*c)) k=(cv L c (sel (cv L c) (P.length*c))[k]==1):=λk hk=>by unfold bt sdE;rw[AX,A3 hk];rfl
 constructor
 ·intro h;refine bits_eq (n:=(sdE c L (P.length*c)).length) (by have:=V2 n ((sel (cv L c) (P.length*c)).map (Rr n T P c)) (bz s);rwa [hlen]at this) (UR _) λk hk=> ?_;have hk:k<(sel (cv L c) (P.length*c)).length:=(by rwa [sdE_length]at hk);obtain⟨h1,h2⟩:=mem_sel.1 (AJ hk);rw[at1 k hk,at2 k hk];exact(key _ h1 h2).1 ((h _ h1).resolve_left h2)
 ·intro h r hr;by_cases hv:cv L c r=2
  ·exact .inl hv
  ·obtain⟨k,hk,rfl⟩:=List.getElem_of_mem (mem_sel.2 ⟨hr,hv⟩);refine .inr ((key _ hr hv).2 ?_);rw[<-at1 k hk,<-at2 k hk,h]
def rsR(n T:Nat)(P:List Nat)(c:Nat)(L:List (List Int)):List Q7:=(sel (cv L c) (P.length*c)).map (Rr n T P c)
def bsR(P:List Nat)(c:Nat)(L:List (List Int)):Q7:=bt (sdE c L (P.length*c))
def rdR(n T:Nat)(P:List Nat)(c:Nat)(L:List (List Int)):Gf.St:=rd (rsR n T P c L) (sd (bsR P c L) (rsR n T P c L).length) n
theorem enc_run(h:Dc n T P c)(hL:Cl P c L)(hc:c<=9000000000000):
  M63.m ⟨n,T,ints P,c,L⟩=some (if bad (rdR n T P c L).2.1 (rdR n T P c L).2.2.length (rsR n T P c L).length=true then (0,9) else (((nb (sol (rdR n T P c L).2.1 (rdR n T P c L).2.2) 64:Nat):Int),0)):=by
 have hn:1<=n/\n<=64:=⟨h.vd.lo,h.vd.hi⟩;have hall:=h.all;have hsl:=sel_le (cv L c) (P.length*c);have h01:B01 (sdE c L (P.length*c)):=λx hx=>by unfold sdE at hx;obtain⟨r,hr,rfl⟩:=Am.1 hx;obtain⟨h1,h2⟩:=mem_sel.1 hr;have:=hL.at h1;omega
 have h52:=of52 (l:=sdE c L (P.length*c)) (by rw[sdE_length];omega) h01;have hlen:(rsR n T P c L).length=(sdE c L (P.length*c)).length:=by simp[sdE,rsR]
 have sR:Y8 n (rsR n T P c L):=λb hb=>by obtain⟨r,_,rfl⟩:=Am.1 hb;exact Rr_sup _ _ _ _ _
 have sb:Sup (rsR n T P c L).length (bsR P c L):=by rw[hlen];exact UR _
 have h22:=solve22 (c:=n) (R:=rsR n T P c L) (b:=bsR P c L) (by omega) (by unfold rsR;rw[AG];omega) sR sb;have hM:M63.m ⟨n,T,ints P,c,L⟩=bindO (M22.m ⟨n,rsE n T P c L (P.length*c),((sdE c L (P.length*c)).length:Int),vw (sdE c L (P.length*c)).length (bt (sdE c L (P.length*c)))⟩) λy=>bif y.2.2 !=0 then some (0,y.2.2) else bif inR 0 y.2.1.length then some (y.2.1[0]?.getD 0,0) else none:=by unfold M63.m;have hl':iter M63.s0 ⟨0,0,L,(L.length:Int),0,n,T,ints P,c,n,mr n (Rq n T P c),n,0,0,[],[]⟩=some ⟨sdE c L (P.length*c),n,T,ints P,c,n,mr n (Rq n T P c),n,rsE n T P c L (P.length*c)⟩:=loop63 h hL;simp only[valid72 h,shape96 hL h.len hc,eqs97 h,bindO,hl',h52];rfl
 rw[hM];show bindO (M22.m ⟨n,mr n (rsR n T P c L),((sdE c L (P.length*c)).length:Int),vw (sdE c L (P.length*c)).length (bsR P c L)⟩) _=_;rw[<-hlen,h22];unfold rdR;by_cases hb:bad (rd (rsR n T P c L) (sd (bsR P c L) (rsR n T P c L).length) n).2.1 (rd (rsR n T P c L) (sd (bsR P c L) (rsR n T P c L).length) n).2.2.length (rsR n T P c L).length=true
 ·rw[AB hb,AB hb];rfl
 ·rw[AE hb,AE hb];have hinv:=(Yf (d:=1) (S:=sd (bsR P c L) (rsR n T P c L).length) sR (.inr (JZ _ _)) n).1;have hsx:=Un hinv;have hbz:bz (nb (sol (rd (rsR n T P c L) (sd (bsR P c L) (rsR n T P c L).length) n).2.1 (rd (rsR n T P c L) (sd (bsR P c L) (rsR n T P c L).length) n).2.2) 64)=_:=tb_nb 64 (sup_le hsx hn.2);have hv:=vw1 hn (x:=nb (sol (rd (rsR n T P c L) (sd (bsR P c L) (rsR n T P c L).length) n).2.1 (rd (rsR n T P c L) (sd (bsR P c L) (rsR n T P c L).length) n).2.2) 64) (WM _ _);rw[hbz]at hv;show bindO (some ((n:Int),vw n _,(0:Int))) _=_;rw[hv];rfl
theorem enc63(h:Dc n T P c)(hL:Cl P c L)(hc:c<=9000000000000):
  (M63.m ⟨n,T,ints P,c,L⟩=some (0,9)/\∀s,s<2^n->¬Ins n T P c s L)\/(∃s:Nat,s<2^n/\M63.m ⟨n,T,ints P,c,L⟩=some ((s:Int),0)/\Ins n T P c s L):=by
 have hn:1<=n/\n<=64:=⟨h.vd.lo,h.vd.hi⟩;have hlen:(rsR n T P c L).length=(sdE c L (P.length*c)).length:=by simp[sdE,rsR]
 have sR:Y8 n (rsR n T P c L):=λb hb=>by obtain⟨r,_,rfl⟩:=Am.1 hb;exact Rr_sup _ _ _ _ _
 have sb:Sup (rsR n T P c L).length (bsR P c L):=by rw[hlen];exact UR _
 obtain⟨ok1,ok2⟩:=solve_ok (c:=n) sR sb;rw[enc_run h hL hc];by_cases hb:bad (rdR n T P c L).2.1 (rdR n T P c L).2.2.length (rsR n T P c L).length=true
 ·rw[AB hb];exact .inl ⟨rfl,λs hs hi=>ok2 hb (bz s) ((ins_app hL hs).1 hi)⟩
 ·rw[AE hb];have hx:=ok1 (Bool.eq_false_iff.2 hb);have hinv:=(Yf (d:=1) (S:=sd (bsR P c L) (rsR n T P c L).length) sR (.inr (JZ _ _)) n).1;have hsx:=Un hinv;unfold rdR;generalize sol (rd (rsR n T P c L) (sd (bsR P c L) (rsR n T P c L).length) n).2.1 (rd (rsR n T P c L) (sd (bsR P c L) (rsR n T P c L).length) n).2.2=x at hx hsx⊢;have hbz:bz (nb x 64)=x:=tb_nb 64 (sup_le hsx hn.2);have hlt:nb x 64<2^n:=lt_of_sup λi hi=>(by have:=congrFun hbz i;rw[hsx i hi]at this;exact this);exact .inr ⟨nb x 64,hlt,rfl,(ins_app hL hlt).2 (by rw[hbz];exact hx)⟩
end
end Sf
namespace Sf
open Gf
def ce(A:List (List Int))(j i:Nat):Int:=(A[j]?.getD [])[i]?.getD 0
def badc(A B:List (List Int))(j i:Nat):Bool:=(ce B j i !=2)&&(ce B j i !=ce A j i)
theorem inside64{A B:List (List Int)}{m c:Nat}(hA:A.length=m)(hB:B.length=m)(rA:∀l∈A,l.length=c)(rB:∀l∈B,l.length=c)(hm:m<=1000000)(hc:c<=1000000):
  ∃r:Bool,M64.m ⟨A,B⟩=some r/\(r=true↔∀j,j<m->∀i,i<c->ce B j i=2\/ce B j i=ce A j i):=by
 have la:∀j,j<m->(A[j]?.getD []).length=c:=λj hj=>by rw[A3 (by omega)];exact rA _ (AJ _)
 have lb:∀j,j<m->(B[j]?.getD []).length=c:=λj hj=>by rw[A3 (by omega)];exact rB _ (AJ _)
 have inner:∀j,j<m->iter M64.s1 ⟨A,B,(j:Int),((0:Nat):Int)⟩=some (match fnd (badc A B j) c 0 with|some _=>.inr ⟨false⟩|none=>.inl ⟨A,B,(j:Int)⟩):=λj hj=>by have common:∀i,i<c->M64.s1 ⟨A,B,(j:Int),(i:Int)⟩=some (bif badc A B j i then .inr (.inr ⟨false⟩) else .inl ⟨A,B,(j:Int),((i+1:Nat):Int)⟩):=λi hi=>(by unfold M64.s1;have b1:inR (j:Int) B.length=true:=Q6 (by omega);have b2:inR (j:Int) A.length=true:=Q6 (by omega);have b3:decide ((i:Int)<(((B[j]?.getD []).length:Nat):Int))=true:=A5 (by rw[lb j hj];omega);have b4:inR (i:Int) (B[j]?.getD []).length=true:=Q6 (by rw[lb j hj];exact hi);have b5:inR (i:Int) (A[j]?.getD []).length=true:=Q6 (by rw[la j hj];exact hi);have b6:IntKind.i64.wrap ((i:Int)+1)=((i+1:Nat):Int):=suc (by omega);simp only[A8,b1,b2,b3,b4,b5,b6,Bd,A7];unfold badc ce;cases ((B[j]?.getD [])[i]?.getD 0 !=2)<;>cases ((B[j]?.getD [])[i]?.getD 0 !=(A[j]?.getD [])[i]?.getD 0)<;>rfl);have he:M64.s1 ⟨A,B,(j:Int),(c:Int)⟩=some (.inr (.inl ⟨A,B,(j:Int)⟩)):=(by unfold M64.s1;have b1:inR (j:Int) B.length=true:=Q6 (by omega);have b3:decide ((c:Int)<(((B[j]?.getD []).length:Nat):Int))=false:=A6 (by rw[lb j hj];omega);simp only[A8,b1,b3,A7,AA]);have:=iter_fnd (step:=M64.s1) (λi=>⟨A,B,(j:Int),(i:Int)⟩) c (badc A B j) (λ_=>.inr ⟨false⟩) (y:=.inl ⟨A,B,(j:Int)⟩) (λi hi hp=>by rw[common i hi,hp];rfl) (λi hi hp=>by rw[common i hi,hp];rfl) he c 0 (by omega);exact this
 have outer:∀j,j<m->M64.s0 ⟨A,B,(j:Int)⟩=some (bif (fnd (badc A B j) c 0).isSome then .inr (.inr ⟨false⟩) else .inl ⟨A,B,((j+1:Nat):Int)⟩):=λj hj=>by
  unfold M64.s0;have b0:decide ((j:Int)<(B.length:Int))=true:=A5 (by omega);have b1:inR (j:Int) B.length=true:=Q6 (by omega);have b2:inR (j:Int) A.length=true:=Q6 (by omega);have b3:((((A[j]?.getD []).length:Nat):Int) !=(((B[j]?.getD []).length:Nat):Int))=false:=(by rw[la j hj,lb j hj];simp);have b6:IntKind.i64.wrap ((j:Int)+1)=((j+1:Nat):Int):=suc (by omega);have hin:iter M64.s1 ⟨A,B,(j:Int),0⟩=_:=inner j hj;simp only[A8,b0,b1,b2,b3,A7,AA,hin,bindO]
  cases fnd (badc A B j) c 0 with
  |some k=>rfl
  |none=>simp only[sumC,b6];rfl
 have he:M64.s0 ⟨A,B,(m:Int)⟩=some (.inr (.inl PUnit.unit)):=by unfold M64.s0;have b0:decide ((m:Int)<(B.length:Int))=false:=A6 (by omega);simp only[b0,AA]
 have hout:=iter_fnd (step:=M64.s0) (λj=>⟨A,B,(j:Int)⟩) m (λj=>(fnd (badc A B j) c 0).isSome) (λ_=>.inr ⟨false⟩) (y:=.inl PUnit.unit) (λi hi hp=>by rw[outer i hi,hp];rfl) (λi hi hp=>by rw[outer i hi,hp];rfl) he m 0 (by omega);have a1:((A.length:Int) !=(B.length:Int))=false:=by rw[hA,hB];simp
 have hout:iter M64.s0 ⟨A,B,0⟩=_:=hout;have good:∀j i,badc A B j i=false↔(ce B j i=2\/ce B j i=ce A j i):=λj i=>by
  unfold badc;by_cases h1:ce B j i=2
  ·simp[h1]
  ·by_cases h2:ce B j i=ce A j i
   ·simp[h2]
   ·simp[h1,h2]
 unfold M64.m;simp only[a1,AA,hout,bindO]
 cases hf:fnd (λj=>(fnd (badc A B j) c 0).isSome) m 0 with
 |some j=>
  refine⟨false,rfl,⟨λh=>(by cases h),λh=> ?_⟩⟩;obtain⟨_,h2,h3,_⟩:=Zz hf
  cases hg:fnd (badc A B j) c 0 with
  |none=>simp only[hg]at h3;cases h3
  |some i=>obtain⟨_,h5,h6,_⟩:=Zz hg;have:=(good j i).2 (h j (by omega) i (by omega));rw[h6]at this;cases this
 |none=>
  refine⟨true,rfl,⟨λ_ j hj i hi=> ?_,λ_=>rfl⟩⟩;have h1:=Y0 hf j (B4 _) (by omega)
  cases hg:fnd (badc A B j) c 0 with
  |some i=>simp only[hg]at h1;cases h1
  |none=>exact(good j i).1 (Y0 hg i (B4 _) (by omega))
section
variable {n T:Nat}{P:List Nat}{c:Nat}{L:List (List Int)}
theorem cellsB_length(s:Nat):(cellsB n T P c s).length=P.length:=by simp[cellsB]
theorem cellsB_row(s:Nat):∀l∈cellsB n T P c s,l.length=c:=λl hl=>by unfold cellsB at hl;obtain⟨j,_,rfl⟩:=Am.1 hl;simp
theorem cellsB_at(s:Nat){j i:Nat}(hj:j<P.length)(hi:i<c):ce (cellsB n T P c s) j i=i01 (fb n T P c j i (bz s)):=by simp[ce,cellsB,hj,hi]
theorem inside_ins(h:Dc n T P c)(hL:Cl P c L)(hc:c<=1000000)(s:Nat):∃r:Bool,M64.m ⟨cellsB n T P c s,L⟩=some r/\(r=true↔Ins n T P c s L):=by
 have hl:=h.len;obtain⟨r,h1,h2⟩:=inside64 (m:=P.length) (c:=c) (cellsB_length s) hL.len (cellsB_row s) hL.row (by omega) hc;refine⟨r,h1,h2.trans ⟨λh r hr=> ?_,λh j hj i hi=> ?_⟩⟩
 ·have hc0:0<c:=Nat.pos_of_ne_zero λe=>(by rw[e,Nat.mul_zero]at hr;omega);have hj:r / c<P.length:=CV (by rwa [CI]);have hi:=Aq r hc0;have:=h _ hj _ hi;rw[cellsB_at s hj hi]at this;exact this
 ·have hr:j*c+i<P.length*c:=(by have:=Ae c (show j+1<=P.length by omega);rw[As]at this;omega);have hdv:=divmod (j:=j) hi;have:=h _ hr;unfold cv at this;rw[hdv.1,hdv.2]at this;rw[cellsB_at s hj hi];exact this
end
theorem vd412:Vd 4 12:=⟨by omega,by omega,by omega,by omega⟩
theorem dc1:Dc 4 12 [1,6] 3:=⟨vd412,λp hp=>by simp at hp;omega,by decide,λ_=>by decide,by decide⟩
theorem dc2:Dc 4 12 [1,1] 3:=⟨vd412,λp hp=>by simp at hp;omega,by decide,λ_=>by decide,by decide⟩
theorem lives59:M59.m PUnit.unit=some true:=by
 have s1:M58.m ⟨4,12,1⟩=some (2,0):=by kernel_rfl
 have s2:M58.m ⟨4,12,4⟩=some (9,0):=by kernel_rfl
 have s3:M58.m ⟨4,12,13⟩=some (10,0):=by kernel_rfl
 have s4:M58.m ⟨4,12,16⟩=some (0,1):=by kernel_rfl
 have j1:M69.m ⟨4,12,1,7⟩=some (10,0):=by have:=jump69 (n:=4) (T:=12) (s:=1) (k:=7) vd412 (by decide) (by decide);have e:nk 4 12 7 1=10:=(by kernel_rfl);rw[e]at this;exact this
 have p1:M55.m ⟨4,12,1,20⟩=some (15,0):=by kernel_rfl
 have p2:M55.m ⟨4,12,1,14⟩=some (0,3):=by kernel_rfl
 have x1:M61.m ⟨4,12,[1,6],3,5⟩=some (cellsB 4 12 [1,6] 3 5,0):=exp61 (s:=5) dc1 (by decide);have x2:cellsB 4 12 [1,6] 3 5=[[1,1,1],[0,1,1]]:=by kernel_rfl
 rw[x2]at x1;have i1:M64.m ⟨[[1,1,1],[0,1,1]],[[1,1,1],[0,1,1]]⟩=some true:=by obtain⟨r,h1,h2⟩:=inside64 (A:=[[1,1,1],[0,1,1]]) (B:=[[1,1,1],[0,1,1]]) (m:=2) (c:=3) rfl rfl (by simp) (by simp) (by omega) (by omega);rw[h1,h2.2 λj _ i _=>.inr rfl]
 have e1:M63.m ⟨4,12,[1,6],3,[[2,1,2],[1,2,2]]⟩=some (4,0):=by have:=enc_run (L:=[[2,1,2],[1,2,2]]) dc1 ⟨rfl,by simp,by simp⟩ (by decide);have e:(if bad (rdR 4 12 [1,6] 3 [[2,1,2],[1,2,2]]).2.1 (rdR 4 12 [1,6] 3 [[2,1,2],[1,2,2]]).2.2.length (rsR 4 12 [1,6] 3 [[2,1,2],[1,2,2]]).length=true then ((0:Int),(9:Int)) else (((nb (sol (rdR 4 12 [1,6] 3 [[2,1,2],[1,2,2]]).2.1 (rdR 4 12 [1,6] 3 [[2,1,2],[1,2,2]]).2.2) 64:Nat):Int),0))=(4,0):=(by kernel_rfl);rw[e]at this;exact this
 have e2:M63.m ⟨4,12,[1,1],3,[[1,2,2],[0,2,2]]⟩=some (0,9):=by have:=enc_run (L:=[[1,2,2],[0,2,2]]) dc2 ⟨rfl,by simp,by simp⟩ (by decide);have e:bad (rdR 4 12 [1,1] 3 [[1,2,2],[0,2,2]]).2.1 (rdR 4 12 [1,1] 3 [[1,2,2],[0,2,2]]).2.2.length (rsR 4 12 [1,1] 3 [[1,2,2],[0,2,2]]).length=true:=(by kernel_rfl);rw[AB e]at this;exact this
 have c1:M71.m ⟨4,3⟩=some 1:=by kernel_rfl
 unfold M59.m;simp only[s1,s2,s3,s4,j1,p1,p2,x1,i1,e1,e2,c1,bindO];rfl
end Sf
