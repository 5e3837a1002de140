/- A part of the proof. -/
import Derived.Test.YtddaobhpffpmoaaSR7QGs
import Derived.Test.YtddaobhpffpmoaaSR7QGq
set_option linter.all false
namespace Go.Proofs.Ytddaobhpffpmoaa
open Go.Abs
namespace Sf
open Gf
abbrev bz(n:Nat):Q7:=Gf.tb n
theorem or_run{a c:Nat}(ha:a<2^64)(hc:c<2^64):IntKind.u64.wrap (↑(BitVec.ofInt 64 (a:Int)|||BitVec.ofInt 64 (c:Int)).toNat:Int)=((a|||c:Nat):Int):=by
 rw[Yt,Yt,BitVec.toNat_or,Bs,Bs,Bi ha,Bi hc];have:a|||c<2^64:=Nat.or_lt_two_pow ha hc
 rw[Zq (by omega) (by omega)]
def pz(x:Nat):Bool:=par (bz x) 64
theorem par110{x:Nat}(h:x<2^64):M110.m ⟨x⟩=some (i01 (pz x)):=by unfold M110.m;show bindO (M108.m ⟨x⟩) _=_;rw[ones_run h,ones_ds,Vt];show some (IntKind.u64.wrap (Int.tmod ((cnt (bz x) 64:Nat):Int) 2))=_;have e:Int.tmod ((cnt (bz x) 64:Nat):Int) 2=((cnt (bz x) 64%2:Nat):Int):=rfl;rw[e];unfold pz;rw[<-WI];rcases B7 (cnt (bz x) 64) with h|h<;>rw[h]<;>rfl
theorem cnt_half(x f:Nat):cnt (bz x) (f+1)=x%2+cnt (bz (x / 2)) f:=by have h:=Vt (f+1) x;have h2:=Vt f (x / 2);have e1:cnt (bz x) (f+1)=ds 2 (f+1) x:=h.symm;have e2:cnt (bz (x / 2)) f=ds 2 f (x / 2):=h2.symm;rw[e1,e2];rfl
theorem odd_iter:∀(f x n:Nat),x<2^f->f<=64->n+f<=1000->iter M67.s0 ⟨(x:Int),(n:Int)⟩=some ⟨((n+cnt (bz x) f:Nat):Int)⟩
 |f,0,n,hx,hf,hn=>by have e:cnt (bz 0) f=0:=Wr λi _=>(by simp[bz,Gf.tb]);rw[e,iter_eq];rfl
 |0,x+1,n,hx,hf,hn=>by simp at hx
 |f+1,x+1,n,hx,hf,hn=>by have h1:(x+1) / 2<2^f:=(by rw[Nat.pow_succ]at hx;omega);have hp:2^(f+1)<=2^64:=Bh (by omega) hf;have h2:=odd_iter f ((x+1) / 2) (n+(x+1)%2) h1 (by omega) (by omega);rw[iter_eq];have e:M67.s0 ⟨((x+1:Nat):Int),(n:Int)⟩=some (Sum.inl ⟨(((x+1) / 2:Nat):Int),((n+(x+1)%2:Nat):Int)⟩):=(by unfold M67.s0;have hd:decide (((x+1:Nat):Int)>0)=true:=A5 (by omega);have a1:IntKind.u64.wrap (((x+1:Nat):Int).tdiv 2)=(((x+1) / 2:Nat):Int):=(by have:((x+1:Nat):Int).tdiv 2=(((x+1) / 2:Nat):Int):=rfl;rw[this,Zq (by omega) (by omega)]);have a2:IntKind.u64.wrap ((n:Int)+((x+1:Nat):Int).tmod 2)=((n+(x+1)%2:Nat):Int):=(by have:((x+1:Nat):Int).tmod 2=(((x+1)%2:Nat):Int):=rfl;rw[this,Zq (by omega) (by omega)];omega);simp only[hd,A7,a1,a2]);rw[e];show iter M67.s0 _=_;rw[h2,cnt_half];congr 2;omega
theorem odd67{x:Nat}(h:x<2^64):M67.m ⟨x⟩=some (i01 (pz x)):=by
 unfold M67.m;show bindO (iter M67.s0 ⟨(x:Int),((0:Nat):Int)⟩) _=_;rw[odd_iter 64 x 0 h (by omega) (by omega)];show some (Int.tmod ((0+cnt (bz x) 64:Nat):Int) 2)=_;have e:Int.tmod ((0+cnt (bz x) 64:Nat):Int) 2=((cnt (bz x) 64%2:Nat):Int):=by rw[Ac];rfl
 rw[e];unfold pz;rw[<-WI];rcases B7 (cnt (bz x) 64) with h|h<;>rw[h]<;>rfl
theorem bz_and(x y:Nat):bz (x&&&y)=an (bz x) (bz y):=by funext i;unfold bz Gf.tb an;rw[Nat.testBit_and]
theorem bz_xor(x y:Nat):bz (x^^^y)=xr (bz x) (bz y):=by funext i;unfold bz Gf.tb xr;rw[Nat.testBit_xor]
theorem pz_and(x y:Nat):pz (x&&&y)=dot 64 (bz x) (bz y):=by unfold pz;rw[bz_and,JA]
def sb(n:Nat)(t s:Q7):Q7:=λi=>decide (i<n)&&(if i=0 then dot 64 s t else s (i - 1))
def nx(n T s:Nat):Nat:=nb (sb n (bz T) (bz s)) 64
theorem sb_sup(n:Nat)(t s:Q7):Sup n (sb n t s):=λi hi=>by unfold sb;rw[A6 (by omega)];rfl
theorem sup_le{n m:Nat}{b:Q7}(h:Sup n b)(hm:n<=m):Sup m b:=λi hi=>h i (by omega)
theorem bz_nx{n T s:Nat}(hn:n<=64):bz (nx n T s)=sb n (bz T) (bz s):=tb_nb 64 (sup_le (sb_sup _ _ _) hn)
theorem lt_of_sup{n x:Nat}(h:∀i,n<=i->x.testBit i=false):x<2^n:=Nat.lt_pow_two_of_testBit x h
theorem nx_lt{n T s:Nat}(hn:n<=64):nx n T s<2^n:=lt_of_sup λi hi=>by have:=congrFun (bz_nx (n:=n) (T:=T) (s:=s) hn) i;have h2:=sb_sup n (bz T) (bz s) i hi;rw[h2]at this;exact this
theorem i01_nat(b:Bool):i01 b=((b.toNat:Nat):Int):=by cases b<;>rfl
theorem toNat_bit(b:Bool)(i:Nat):(b.toNat).testBit i=(decide (i=0)&&b):=by
 cases b
 ·simp
 ·cases i with
  |zero=>rfl
  |succ i=>rw[Nat.testBit_succ];simp
theorem dbl_bit(s i:Nat):(2*s).testBit i=(decide (0<i)&&s.testBit (i - 1)):=by
 cases i with
 |zero=>rw[Nat.testBit_zero];simp
 |succ i=>rw[Nat.testBit_succ,Nat.mul_div_cancel_left _ (by omega)];simp
theorem next93{n T s:Nat}(hn:1<=n/\n<=64)(hT:T<2^64)(hs:s<2^64):M93.m ⟨n,T,s⟩=some ((n:Int),(T:Int),((nx n T s:Nat):Int)):=by
 unfold M93.m;have hand:s&&&T<2^64:=CJ Cb hs;rw[XC hs hT,par110 hand];show(bif decide ((n:Int)<64) then _ else _)=_;have e1:IntKind.u64.wrap ((s:Int)*2^1)=((2*s%2^64:Nat):Int):=by simp only[IntKind.wrap,IntKind.signed,IntKind.bits];simp;omega
 have hm:2*s%2^64<2^64:=Aq _ (by decide);have hp:(pz (s&&&T)).toNat<2^64:=by cases pz (s&&&T)<;>decide
 have hor:(2*s%2^64|||(pz (s&&&T)).toNat)<2^64:=Nat.or_lt_two_pow hm hp;have bits:∀i,(2*s%2^64|||(pz (s&&&T)).toNat).testBit i=(decide (i<64)&&(if i=0 then dot 64 (bz s) (bz T) else s.testBit (i - 1))):=λi=>by
  rw[Nat.testBit_or,Nat.testBit_mod_two_pow,dbl_bit,toNat_bit,pz_and];by_cases h0:i=0
  ·subst h0;simp
  ·rw[A6 h0,AE h0,A5 (show 0<i by omega)];simp
 rw[e1,i01_nat,or_run hm hp];by_cases h64:n<64
 ·rw[A5 (by omega)];show(bif decide (0<=(n:Int)) then _ else _)=_;rw[A5 (by omega)];show some (_,_,_)=_;have hlt:2^n<2^64:=BJ (by omega) h64;have hpos:0<2^n:=BG n;have e2:IntKind.u64.wrap (IntKind.u64.wrap (1*2^min (n:Int).toNat 64) - 1)=((2^n - 1:Nat):Int):=(by rw[A8,B1 (by omega),Jv,Int.one_mul];generalize 2^n=q at hlt hpos;have e:((q - 1:Nat):Int)=(q:Int) - 1:=(by omega);rw[e,Zq (x:=(q:Int)) (by omega) (by omega),Zq (by omega) (by omega)]);have key:(2*s%2^64|||(pz (s&&&T)).toNat)&&&(2^n - 1)=nx n T s:=by
   refine Ay λi=> ?_;rw[Nat.testBit_and,bits,Nat.testBit_two_pow_sub_one];unfold nx;rw[XI];unfold sb bz Gf.tb;by_cases hi:i<n
   ·simp[hi,show i<64 by omega]
   ·simp[hi]
  rw[e2,XC hor (CJ (Nat.sub_le _ _) hlt),key]
 ·have:n=64:=(by omega);subst this;have key:(2*s%2^64|||(pz (s&&&T)).toNat)=nx 64 T s:=by
   refine Ay λi=> ?_;rw[bits];unfold nx;rw[XI];unfold sb bz Gf.tb;by_cases hi:i<64
   ·simp[hi]
   ·simp[hi]
  rw[key];rfl
end Sf
namespace Sf
open Gf
theorem pow_u{n:Nat}(hn:n<64):IntKind.u64.wrap (1*2^min n 64)=((2^n:Nat):Int):=by have h:2^n<2^64:=BJ (by omega) hn;rw[B1 (by omega),Jv,Int.one_mul];generalize 2^n=q at h;exact Zq (by omega) (by omega)
theorem tbit{s k:Nat}(hk:k<64):(((s:Int).fdiv (2^min k 64)).tmod 2==1)=s.testBit k:=by rw[B1 (by omega),Jv,JD];have e:Int.tmod ((s / 2^k:Nat):Int) 2=((s / 2^k%2:Nat):Int):=rfl;rw[e,Cd];rcases B7 (s / 2^k) with e|e<;>rw[e]<;>rfl
def ok_(T s k:Nat):Nat:=nb (λi=>decide (i<=k)&&(if i=0 then dot 64 (bz s) (bz T) else s.testBit (i - 1))) 64
theorem ok_succ{T s k:Nat}(hk:k+1<64):(if s.testBit k then ok_ T s k|||2^(k+1) else ok_ T s k)=ok_ T s (k+1):=by
 refine Ay λi=> ?_;unfold ok_;rw[XI];by_cases hb:s.testBit k=true
 ·rw[AB hb,Nat.testBit_or,XI,Nat.testBit_two_pow];by_cases e:i=k+1
  ·subst e;simp[hk,hb]
  ·have h1:decide (k+1=i)=false:=A6 (BU e);have h2:decide (i<=k+1)=decide (i<=k):=(by congr 1;apply propext;omega);rw[h1,h2,Bool.or_false]
 ·rw[AE hb,XI];by_cases e:i=k+1
  ·subst e;have hb:s.testBit k=false:=(by simpa using hb);simp[hb]
  ·have h2:decide (i<=k+1)=decide (i<=k):=(by congr 1;apply propext;omega);rw[h2]
theorem ok_last{n T s:Nat}(hn:1<=n):ok_ T s (n - 1)=nx n T s:=by
 refine Ay λi=> ?_;unfold ok_ nx;rw[XI,XI];unfold sb bz Gf.tb;have h2:decide (i<=n - 1)=decide (i<n):=by congr 1;apply propext;omega
 rw[h2]
theorem ok_zero(T s:Nat):ok_ T s 0=(dot 64 (bz s) (bz T)).toNat:=by
 refine Ay λi=> ?_;unfold ok_;rw[XI,toNat_bit];by_cases h:i=0
 ·subst h;simp
 ·simp[h]
theorem ok_lt(T s k:Nat):ok_ T s k<2^64:=WM _ _
theorem next57{n T s:Nat}(hn:1<=n/\n<=64)(hT:T<2^64)(hs:s<2^64):M57.m ⟨n,T,s⟩=some ((nx n T s:Nat):Int):=by
 unfold M57.m;have hand:s&&&T<2^64:=CJ Cb hs;rw[XC hs hT,odd67 hand];have hi:iter M57.s0 ⟨(s:Int),((ok_ T s 0:Nat):Int),((0:Nat):Int),n,T⟩=some ⟨((ok_ T s (n - 1):Nat):Int),n,T⟩:=by
  refine QV (λk=>(⟨(s:Int),((ok_ T s k:Nat):Int),(k:Int),n,T⟩:M57.p0X)) (n - 1) (λk hk=> ?_) ?_
  ·unfold M57.s0;have a0:IntKind.i64.wrap ((k:Int)+1)=((k+1:Nat):Int):=suc (by omega);have a1:decide (((k+1:Nat):Int)<(n:Int))=true:=A5 (by omega);have a2:decide (0<=(k:Int))=true:=A5 (by omega);have a3:decide (0<=((k+1:Nat):Int))=true:=A5 (by omega);have a4:=tbit (s:=s) (k:=k) (by omega);have a5:IntKind.u64.wrap (↑(BitVec.ofInt 64 ((ok_ T s k:Nat):Int)|||BitVec.ofInt 64 (IntKind.u64.wrap (1*2^min (k+1) 64))).toNat:Int)=((ok_ T s k|||2^(k+1):Nat):Int):=(by have h:2^(k+1)<2^64:=BJ (by omega) (by omega);rw[pow_u (n:=k+1) (by omega),or_run (ok_lt _ _ _) h]);have a6:=ok_succ (T:=T) (s:=s) (k:=k) (by omega);simp only[a0,a1,a2,a3,A8,a4,a5,A7,AY,BF];congr 3;rw[<-a6];cases s.testBit k<;>rfl
  ·unfold M57.s0;have a0:IntKind.i64.wrap (((n - 1:Nat):Int)+1)=((n - 1+1:Nat):Int):=suc (by omega);have a1:decide (((n - 1+1:Nat):Int)<(n:Int))=false:=A6 (by omega);simp only[a0,a1,AA]
 have e:(i01 (pz (s&&&T)))=((ok_ T s 0:Nat):Int):=by rw[ok_zero,pz_and,i01_nat]
 rw[e];show bindO (iter M57.s0 ⟨(s:Int),((ok_ T s 0:Nat):Int),((0:Nat):Int),n,T⟩) _=_;rw[hi,ok_last hn.1];rfl
def nk(n T:Nat):Nat->Nat->Nat
 |0,s=>s
 |k+1,s=>nx n T (nk n T k s)
theorem nk_lt{n T:Nat}(hn:n<=64):∀{k s:Nat},s<2^n->nk n T k s<2^n
 |0,_,h=>h
 |_+1,_,_=>nx_lt hn
theorem nk_add(n T:Nat)(a:Nat):∀b s,nk n T b (nk n T a s)=nk n T (a+b) s
 |0,s=>rfl
 |b+1,s=>by show nx n T (nk n T b (nk n T a s))=nx n T (nk n T (a+b) s);rw[nk_add n T a b s]
theorem pow_le{n:Nat}(hn:n<=64):2^n<=2^64:=Bh (by omega) hn
theorem after56{n T s k:Nat}(hn:1<=n/\n<=64)(hT:T<2^64)(hs:s<2^n)(hk:k<1000000000):M56.m ⟨n,T,s,k⟩=some ((nk n T k s:Nat):Int):=by
 unfold M56.m;have hi:iter M56.s0 ⟨((nk n T 0 s:Nat):Int),(k:Int),((0:Nat):Int),n,T⟩=some ⟨((nk n T k s:Nat):Int),n,T⟩:=by
  refine QV (λi=>(⟨((nk n T i s:Nat):Int),(k:Int),(i:Int),n,T⟩:M56.p0X)) k (λi hi=> ?_) ?_
  ·unfold M56.s0;have a0:IntKind.i64.wrap ((i:Int)+1)=((i+1:Nat):Int):=suc (by omega);have a1:decide ((i:Int)<(k:Int))=true:=A5 (by omega);have a2:=next57 (n:=n) (T:=T) (s:=nk n T i s) hn hT (AL (nk_lt hn.2 hs) (pow_le hn.2));simp only[a0,a1,a2,A7];rfl
  ·unfold M56.s0;have a1:decide ((k:Int)<(k:Int))=false:=A6 (by omega);simp only[a1,AA]
 show bindO (iter M56.s0 ⟨((nk n T 0 s:Nat):Int),(k:Int),((0:Nat):Int),n,T⟩) _=_;rw[hi];rfl
structure Vd(n T:Nat):Prop where
 lo:1<=n
 hi:n<=64
 top:T<2^n
 bot:2^(n - 1)<=T
theorem Vd.T64{n T:Nat}(h:Vd n T):T<2^64:=AL h.top (pow_le h.hi)
theorem wide100{n x:Nat}(hn:n<=64)(hx:x<2^64):M100.m ⟨x,n⟩=some (decide (2^n<=x)):=by
 unfold M100.m;have a2:decide (0<=(n:Int))=true:=A5 (by omega);by_cases h:n<64
 ·have a1:decide ((n:Int)<64)=true:=A5 (by omega);have hd:((x:Int).fdiv (2^min n 64) !=0)=decide (2^n<=x):=by
   rw[B1 (by omega),Jv,JD];have hpos:0<2^n:=BG n;by_cases h:2^n<=x
   ·have:0<x / 2^n:=Nat.div_pos h hpos;rw[A5 h];generalize x / 2^n=q at this;have:(q:Int)≠0:=(by omega);simpa using this
   ·rw[A6 h,Nat.div_eq_of_lt (by omega)];rfl
  simp only[a1,a2,A8,hd,A7,Bd]
 ·have:n=64:=(by omega);subst this;rw[A6 (show¬2^64<=x by omega)];rfl
theorem check71{n T:Nat}(h:Vd n T):M71.m ⟨n,T⟩=some 0:=by
 unfold M71.m;have h1:=h.lo;have h2:=h.hi;have h3:=h.top;have h4:=h.bot;have a1:decide ((n:Int)<1)=false:=A6 (by omega);have a2:decide ((n:Int)>64)=false:=A6 (by omega);have a3:=wide100 (n:=n) (x:=T) h.hi h.T64;rw[A6 (show¬2^n<=T by omega)]at a3;have a4:IntKind.i64.wrap ((n:Int) - 1)=((n - 1:Nat):Int):=by rw[w64 (by omega) (by omega)];omega
 have a5:decide (0<=((n - 1:Nat):Int))=true:=A5 (by omega);have a6:((T:Int).fdiv (2^min (n - 1) 64)==0)=false:=by rw[B1 (by omega),Jv,JD];have:0<T / 2^(n - 1):=Nat.div_pos h4 (BG _);rw[At];omega
 simp only[a1,a2,a3,a4,a5,AA,bindO,Bd,A7,A8,a6]
theorem begin91{n T s:Nat}(h:Vd n T)(hs:s<2^n):M91.m ⟨n,T,s⟩=some ((n:Int),(T:Int),(s:Int),0):=by unfold M91.m;have a3:=wide100 (n:=n) (x:=s) h.hi (AL hs (pow_le h.hi));rw[A6 (show¬2^n<=s by omega)]at a3;simp only[check71 h,a3,bindO];rfl
theorem step58{n T s:Nat}(h:Vd n T)(hs:s<2^n):M58.m ⟨n,T,s⟩=some (((nx n T s:Nat):Int),0):=by unfold M58.m;have a:=next93 (n:=n) (T:=T) (s:=s) ⟨h.lo,h.hi⟩ h.T64 (AL hs (pow_le h.hi));simp only[begin91 h hs,bindO];show bindO (M93.m ⟨n,T,s⟩) _=_;rw[a];rfl
def Lt(n t:Nat):Nat:=t%2^n|||2^(n - 1)
theorem Lt_vd{n t:Nat}(hn:1<=n/\n<=64):Vd n (Lt n t):=by refine⟨hn.1,hn.2,?_,Nat.right_le_or⟩;unfold Lt;exact Nat.or_lt_two_pow (Aq _ (BG _)) (BJ (by omega) (by omega))
theorem nz_pow(n:Nat):Go.Abs.nz ((2^n:Nat):Int)=true:=by
 have:0<2^n:=BG n;generalize 2^n=q at this;have h:(q:Int)≠0:=by omega
 unfold Go.Abs.nz;rw[At.2 h];rfl
theorem of54(a t:Nat):M54.m ⟨a,t⟩=some (((1+a%16:Nat):Int),((Lt (1+a%16) t:Nat):Int)):=by
 unfold M54.m;have hlt:=Aq a (show 0<16 by omega);have e0:(a:Int).tmod 16=((a%16:Nat):Int):=rfl;have e1:IntKind.i64.wrap ((a%16:Nat):Int)=((a%16:Nat):Int):=w64 (by omega) (by omega);have e2:IntKind.i64.wrap (1+((a%16:Nat):Int))=((1+a%16:Nat):Int):=by rw[w64 (by omega) (by omega)];omega
 have e3:IntKind.i64.wrap (((1+a%16:Nat):Int) - 1)=((1+a%16 - 1:Nat):Int):=by rw[w64 (by omega) (by omega)];omega
 have a1:decide (0<=((1+a%16:Nat):Int))=true:=A5 (by omega);have a2:decide (0<=((1+a%16 - 1:Nat):Int))=true:=A5 (by omega);have p1:=pow_u (n:=1+a%16) (by omega);have p2:=pow_u (n:=1+a%16 - 1) (by omega);have e4:(t:Int).tmod ((2^(1+a%16):Nat):Int)=((t%2^(1+a%16):Nat):Int):=rfl;have e5:IntKind.u64.wrap (↑(BitVec.ofInt 64 ((t%2^(1+a%16):Nat):Int)|||BitVec.ofInt 64 ((2^(1+a%16 - 1):Nat):Int)).toNat:Int)=((Lt (1+a%16) t:Nat):Int):=
  or_run (AL (Aq _ (BG _)) (pow_le (by omega))) (BJ (by omega) (by omega))
 simp only[e0,e1,e2,e3,a1,a2,A8,p1,p2,nz_pow,e4,e5,A7]
end Sf
namespace Sf
open Gf
theorem room{a b:Nat}(h:a<=17000000/\b<=1000):Ql a b=true:=by have:a*b<=17000000*1000:=Nat.mul_le_mul h.1 h.2;simp[Ql,leB];omega
theorem nw1{n:Nat}(h:1<=n/\n<=64):nw n=1:=by unfold nw;omega
theorem vw1{n x:Nat}(h:1<=n/\n<=64)(hx:x<2^64):vw n (bz x)=[(x:Int)]:=by
 unfold vw;rw[nw1 h];show [((wd (bz x) 0:Nat):Int)]=_;have:wd (bz x) 0=x:=by unfold wd;have e:(λi=>bz x (64*0+i))=bz x:=(by funext i;rw[Nat.mul_zero,Ac]);rw[e];exact nb_tb hx
 rw[this]
theorem split98{n s:Nat}(h:1<=n/\n<=64)(hs:s<2^64):M98.m ⟨s,n⟩=some ((n:Int),vw n (bz s)):=by
 unfold M98.m;have z:M51.m ⟨n⟩=some ((n:Int),0,1,1,0,[0]):=by have:=Gf.zero (n:=n) (by omega);rw[nw1 h,vw_no,nw1 h]at this;exact this
 rw[vw1 h hs];show bindO (M51.m ⟨n⟩) _=_;rw[z];rfl
theorem bt_lbz{n s:Nat}(hs:s<2^n):bt (lb n (bz s))=bz s:=bt_lb n (bz s) (ZG hs)
theorem bits66{n s:Nat}(hn:n<=64)(hs:s<2^n):M66.m ⟨s,n⟩=some ((n:Int),vw n (bz s)):=by
 unfold M66.m;have hi:iter M66.s0 ⟨(s:Int),n,0,0,((0:Nat):Int),lb 0 (bz s)⟩=some ⟨lb n (bz s)⟩:=by
  refine QV (λi=>(⟨(s:Int),n,0,i,(i:Int),lb i (bz s)⟩:M66.p0X)) n (λi hi=> ?_) ?_
  ·unfold M66.s0;have a1:decide ((i:Int)<(n:Int))=true:=A5 (by omega);have a2:decide (0<=(i:Int))=true:=A5 (by omega);have a3:eqN (lb i (bz s)).length i=true:=(by simp[eqN,Jy]);have a4:Ql (i+1) 1=true:=room (by omega);have a5:IntKind.i64.wrap ((i:Int)+1)=((i+1:Nat):Int):=suc (by omega);have a6:IntKind.u8.wrap (((s:Int).fdiv (2^min i 64)).tmod 2)=i01 (bz s i):=by
    have:=tbit (s:=s) (k:=i) (by omega);have e:((s:Int).fdiv (2^min i 64)).tmod 2=i01 (s.testBit i):=by rw[<-this,B1 (by omega),Jv,JD];have e:Int.tmod ((s / 2^i:Nat):Int) 2=((s / 2^i%2:Nat):Int):=rfl;rw[e];rcases B7 (s / 2^i) with e|e<;>rw[e]<;>rfl
    rw[e];show _=i01 (s.testBit i);cases s.testBit i<;>rfl
   have a7:eqN 0 0=true:=rfl;simp only[a1,a2,a3,a4,a5,a6,a7,A8,AY,A7,lb_more]
  ·unfold M66.s0;have a1:decide ((n:Int)<(n:Int))=false:=A6 (by omega);have a3:leB (0+n) (lb n (bz s)).length=true:=(by simp[leB,Jy]);have a4:List.take n (List.drop 0 (lb n (bz s)))=lb n (bz s):=(by rw[An,AS (by rw[Jy];omega)]);simp only[a1,a3,a4,AY,A7,AA]
 have h52:=of52 (l:=lb n (bz s)) (by rw[Jy];omega) (lb01 _ _);rw[Jy,bt_lbz hs]at h52;show bindO (iter M66.s0 ⟨(s:Int),n,0,0,((0:Nat):Int),lb 0 (bz s)⟩) _=_;rw[hi];show bindO (M52.m ⟨lb n (bz s)⟩) _=_;rw[h52];rfl
def Mx(n:Nat)(t:Q7):List Q7:=tr n ((List.range n).map λi=>sb n t (un i))
theorem Mx_length(n:Nat)(t:Q7):(Mx n t).length=n:=K0 _ _
theorem Mx_sup(n:Nat)(t:Q7):Y8 n (Mx n t):=λb hb=>by unfold Mx tr at hb;obtain⟨k,_,rfl⟩:=Am.1 hb;have:=col_sup ((List.range n).map λi=>sb n t (un i)) k;rwa [AG,Bn]at this
theorem bz_pow(i:Nat):bz (2^i)=un i:=by
 funext j;unfold bz Gf.tb un;rw[Nat.testBit_two_pow];by_cases h:i=j
 ·subst h;simp
 ·simp[h,BU h]
theorem matrix99{n T:Nat}(h:Vd n T):M99.m ⟨n,T⟩=some ((n:Int),mr n (Mx n (bz T))):=by
 unfold M99.m;have hn:1<=n/\n<=64:=⟨h.lo,h.hi⟩;have hi:iter M99.s0 ⟨(n:Int),((0:Nat):Int),n,T,n,0,0,mr n ((List.range 0).map λi=>sb n (bz T) (un i))⟩=some ⟨n,T,n,mr n ((List.range n).map λi=>sb n (bz T) (un i))⟩:=by
  refine QV (λi=>(⟨(n:Int),(i:Int),n,T,n,0,i,mr n ((List.range i).map λi=>sb n (bz T) (un i))⟩:M99.p0X)) n (λi hi=> ?_) ?_
  ·unfold M99.s0;have a1:decide ((i:Int)<(n:Int))=true:=A5 (by omega);have a2:decide (0<=(i:Int))=true:=A5 (by omega);have a3:eqN (mr n ((List.range i).map λi=>sb n (bz T) (un i))).length i=true:=(by simp[eqN,QD]);have a4:Ql (i+1) 32=true:=room (by omega);have a5:IntKind.i64.wrap ((i:Int)+1)=((i+1:Nat):Int):=suc (by omega);have hp:2^i<2^64:=BJ (by omega) (by omega);have a6:=next93 (n:=n) (T:=T) (s:=2^i) hn h.T64 hp;have a7:=split98 (n:=n) (s:=nx n T (2^i)) hn (AL (nx_lt hn.2) (pow_le hn.2));rw[bz_nx hn.2,bz_pow]at a7;have a8:eqN 0 0=true:=rfl;have a9:mr n ((List.range (i+1)).map λi=>sb n (bz T) (un i))=mr n ((List.range i).map λi=>sb n (bz T) (un i))++[((n:Int),vw n (sb n (bz T) (un i)))]:=(by simp[mr,Bp]);simp only[a1,a2,a3,a4,a5,a6,a7,a8,a9,A8,pow_u (n:=i) (by omega),AY,A7,bindO]
  ·unfold M99.s0;have a1:decide ((n:Int)<(n:Int))=false:=A6 (by omega);have a3:leB (0+n) (mr n ((List.range n).map λi=>sb n (bz T) (un i))).length=true:=(by simp[leB,QD]);have a4:List.take n (List.drop 0 (mr n ((List.range n).map λi=>sb n (bz T) (un i))))=mr n ((List.range n).map λi=>sb n (bz T) (un i)):=(by rw[An,AS (by simp[QD])]);simp only[a1,a3,a4,AY,A7,AA]
 have hl:((List.range n).map λi=>sb n (bz T) (un i)).length=n:=by simp
 have h40:=turn40 (c:=n) (R:=(List.range n).map λi=>sb n (bz T) (un i)) (by omega) (by omega) (λb hb=>by
  obtain⟨k,_,rfl⟩:=Am.1 hb;exact sb_sup _ _ _)
 rw[hl]at h40;show bindO (iter M99.s0 ⟨(n:Int),((0:Nat):Int),n,T,n,0,0,mr n ((List.range 0).map λi=>sb n (bz T) (un i))⟩) _=_;rw[hi];show bindO (M40.m ⟨n,mr n ((List.range n).map λi=>sb n (bz T) (un i))⟩) _=_;rw[h40];rfl
theorem matrix70{n T:Nat}(h:Vd n T):M70.m ⟨n,T⟩=some ((n:Int),mr n (Mx n (bz T)),0):=by unfold M70.m;simp only[check71 h,bindO];show bindO (M99.m ⟨n,T⟩) _=_;rw[matrix99 h];rfl
theorem dot_le{n m:Nat}{a b:Q7}(h:n<=m)(ha:Sup n a):dot m a b=dot n a b:=by
 rw[JA,JA];obtain⟨k,rfl⟩:=Nat.exists_eq_add_of_le h;clear h
 induction k with
 |zero=>rfl
 |succ k ih=>
  show Bool.xor (par (an a b) (n+k)) (an a b (n+k))=_;rw[ih];have:an a b (n+k)=false:=by unfold an;rw[ha _ (by omega)];rfl
  rw[this,Bool.xor_false]
theorem Mx_app{n:Nat}{t x:Q7}(hn:n<=64)(hx:Sup n x):app n (Mx n t) x=sb n t x:=by
 refine bits_eq (n:=n) (by have:=V2 n (Mx n t) x;rwa [Mx_length]at this) (sb_sup _ _ _) λi hi=> ?_;have hl:i<(Mx n t).length:=by rw[Mx_length];exact hi
 rw[app_at x hl];have hrow:∀k,k<n->(Mx n t)[i] k=sb n t (un k) i:=λk hk=>by have e:(Mx n t)[i]=col ((List.range n).map λi=>sb n t (un i)) i:=(by simp[Mx,tr]);rw[e];show bit _ k i=_;rw[bit_at (by simpa using hk),AM,List.getElem_range]
 rw[Jo,ZF hrow,Jo];by_cases h0:i=0
 ·subst h0;have e:∀k,k<n->sb n t (un k) 0=t k:=λk hk=>(by unfold sb;rw[A5 hi,BF,AB rfl,Jo,UO t (by omega)]);rw[Jo,ZF (x:=x) (b:=t) e,<-dot_le hn hx];unfold sb;rw[A5 hi,BF,AB rfl]
 ·have e:∀k,k<n->sb n t (un k) i=un (i - 1) k:=λk hk=>by
   unfold sb;rw[A5 hi,AE h0,BF];show(i - 1==k)=(k==i - 1);by_cases h:i - 1=k
   ·subst h;rfl
   ·rw[At.2 h,At.2 (BU h)]
  rw[Jo,ZF (x:=x) (b:=un (i - 1)) e,UO x (by omega)];unfold sb;rw[A5 hi,AE h0,BF]
def Ks(n T k:Nat)(A:List Q7):Prop:=A.length=n/\Y8 n A/\∀x,x<2^n->app n A (bz x)=bz (nk n T k x)
theorem Mx_ks{n T:Nat}(hn:n<=64):Ks n T 1 (Mx n (bz T)):=⟨Mx_length _ _,Mx_sup _ _,λx hx=>by rw[Mx_app hn (ZG hx),<-bz_nx hn];rfl⟩
theorem Ks.sq{n T k:Nat}{A:List Q7}(hn:n<=64)(h:Ks n T k A):Ks n T (k+k) (Ul A A):=by refine⟨by rw[mulm_length,h.1],mulm_sup h.2.1,λx hx=> ?_⟩;rw[mulm_app,h.1,h.2.2 x hx,h.2.2 _ (nk_lt hn hx),nk_add]
theorem jump69{n T s k:Nat}(h:Vd n T)(hs:s<2^n)(hk:k<2^64):M69.m ⟨n,T,s,k⟩=some (((nk n T k s:Nat):Int),0):=by
 have hn:1<=n/\n<=64:=⟨h.lo,h.hi⟩;have key:∀(f k m x:Nat) (A:List Q7),k<2^f->x<2^n->Ks n T m A->∃B,iter M69.s0 ⟨(k:Int),n,vw n (bz x),n,mr n A⟩=some ⟨n,vw n (bz (nk n T (k*m) x)),n,B⟩:=by
  intro f
  induction f with
  |zero=>intro k m x A hk hx hA;have:k=0:=(by simpa using hk);subst this;refine⟨mr n A,?_⟩;rw[iter_eq,B6];rfl
  |succ f ih=>
   intro k m x A hk hx hA;by_cases h0:k=0
   ·subst h0;refine⟨mr n A,?_⟩;rw[iter_eq,B6];rfl
   ·have hk2:k / 2<2^f:=(by rw[Nat.pow_succ]at hk;omega);have a1:decide ((k:Int)>0)=true:=A5 (by omega);have a2:(k:Int).tmod 2=((k%2:Nat):Int):=rfl;have a3:(k:Int).fdiv (2^1)=((k / 2:Nat):Int):=JD k 2;have a4:M39.m ⟨n,mr n A,n,mr n A⟩=some ((n:Int),mr n (Ul A A),0):=mul (n:=n) (c:=n) (A:=A) (B:=A) hA.1.symm (by omega) (by omega) (by rw[hA.1];omega) hA.2.1 hA.2.1;have hm:k / 2*(m+m)+k%2*m=k*m:=by
     have:k=2*(k / 2)+k%2:=by omega
     calc k / 2*(m+m)+k%2*m=(2*(k / 2)+k%2)*m:=by rw[As,Nat.mul_add,Nat.mul_assoc,Nat.two_mul]
      _=k*m:=by rw[<-this]
    have a5:M29.m ⟨n,mr n A,n,vw n (bz x)⟩=some ((n:Int),vw n (bz (nk n T m x)),0):=(by have:=apply (c:=n) (R:=A) (v:=bz x) (by omega) (by rw[hA.1];omega) hA.2.1 (ZG hx);rw[hA.1,hA.2.2 x hx]at this;exact this);rcases B7 k with e|e
    ·obtain⟨B,hB⟩:=ih (k / 2) (m+m) x (Ul A A) hk2 hx (hA.sq hn.2);refine⟨B,?_⟩;rw[iter_eq];have hs0:M69.s0 ⟨(k:Int),n,vw n (bz x),n,mr n A⟩=some (.inl ⟨((k / 2:Nat):Int),n,vw n (bz x),n,mr n (Ul A A)⟩):=(by unfold M69.s0;simp only[a1,a2,a3,e,a4,bindO,A7];rfl);rw[hs0];show iter M69.s0 _=_;rw[hB,<-hm,e,B6,BZ]
    ·obtain⟨B,hB⟩:=ih (k / 2) (m+m) (nk n T m x) (Ul A A) hk2 (nk_lt hn.2 hx) (hA.sq hn.2);refine⟨B,?_⟩;rw[iter_eq];have hs0:M69.s0 ⟨(k:Int),n,vw n (bz x),n,mr n A⟩=some (.inl ⟨((k / 2:Nat):Int),n,vw n (bz (nk n T m x)),n,mr n (Ul A A)⟩):=(by unfold M69.s0;simp only[a1,a2,a3,e,a4,a5,bindO,A7];rfl);rw[hs0];show iter M69.s0 _=_;rw[hB,nk_add,<-hm,e,Nat.one_mul,Nat.add_comm m]
 obtain⟨B,hB⟩:=key 64 k 1 s (Mx n (bz T)) hk hs (Mx_ks hn.2);unfold M69.m;simp only[begin91 h hs,split98 hn (AL hs (pow_le hn.2)),matrix99 h,bindO];show bindO (iter M69.s0 _) _=_;rw[hB,Nat.mul_one,vw1 hn (AL (nk_lt hn.2 hs) (pow_le hn.2))];rfl
end Sf
