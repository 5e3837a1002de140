/-
  What the proof stands on.
-/
import Derived.Test.YtddaobhpffpmoaaSR6QGs
import Derived.Test.YtddaobhpffpmoaaSR6QGq
set_option linter.all false
namespace Go.Proofs.Ytddaobhpffpmoaa
open Go.Abs
namespace Sf
open Gf
abbrev bz(n:Nat):Bits:=Gf.tb n
theorem or_run{a c:Nat}(ha:a<2^64)(hc:c<2^64):IntKind.u64.wrap (↑(BitVec.ofInt 64 (a:Int)|||BitVec.ofInt 64 (c:Int)).toNat:Int)=((a|||c:Nat):Int):=by
 rw[bv_nat,bv_nat,BitVec.toNat_or,BitVec.toNat_ofNat,BitVec.toNat_ofNat,Nat.mod_eq_of_lt ha,Nat.mod_eq_of_lt hc]
 have:a|||c<2^64:=Nat.or_lt_two_pow ha hc
 rw[wu64 (by omega) (by omega)]
def pz(x:Nat):Bool:=par (bz x) 64
theorem par110{x:Nat}(h:x<2^64):M110.m ⟨x⟩=some (i01 (pz x)):=by
 unfold M110.m
 show bindO (M108.m ⟨x⟩) _=_
 rw[ones_run h,ones_ds,ds_cnt]
 show some (IntKind.u64.wrap (Int.tmod ((cnt (bz x) 64:Nat):Int) 2))=_
 have e:Int.tmod ((cnt (bz x) 64:Nat):Int) 2=((cnt (bz x) 64%2:Nat):Int):=rfl
 rw[e]
 unfold pz
 rw[←par_cnt]
 rcases Nat.mod_two_eq_zero_or_one (cnt (bz x) 64) with h|h<;>rw[h]<;>rfl
theorem bz_and(x y:Nat):bz (x&&&y)=an (bz x) (bz y):=by funext i;unfold bz Gf.tb an;rw[Nat.testBit_and]
theorem pz_and(x y:Nat):pz (x&&&y)=dot 64 (bz x) (bz y):=by unfold pz;rw[bz_and,dot_par]
def sb(n:Nat)(t s:Bits):Bits:=fun i=>decide (i<n)&&(if i=0 then dot 64 s t else s (i - 1))
def nx(n T s:Nat):Nat:=nb (sb n (bz T) (bz s)) 64
theorem sb_sup(n:Nat)(t s:Bits):Sup n (sb n t s):=fun i hi=>by unfold sb;rw[decide_eq_false (by omega)];rfl
theorem sup_le{n m:Nat}{b:Bits}(h:Sup n b)(hm:n≤m):Sup m b:=fun i hi=>h i (by omega)
theorem bz_nx{n T s:Nat}(hn:n≤64):bz (nx n T s)=sb n (bz T) (bz s):=tb_nb 64 (sup_le (sb_sup _ _ _) hn)
theorem lt_of_sup{n x:Nat}(h:∀i,n≤i→x.testBit i=false):x<2^n:=Nat.lt_pow_two_of_testBit x h
theorem nx_lt{n T s:Nat}(hn:n≤64):nx n T s<2^n:=lt_of_sup fun i hi=>by
 have:=congrFun (bz_nx (n:=n) (T:=T) (s:=s) hn) i
 have h2:=sb_sup n (bz T) (bz s) i hi
 rw[h2]at this
 exact this
theorem i01_nat(b:Bool):i01 b=((b.toNat:Nat):Int):=by cases b<;>rfl
theorem toNat_bit(b:Bool)(i:Nat):(b.toNat).testBit i=(decide (i=0)&&b):=by
 cases b
 ·simp
 ·cases i with
  |zero=>rfl
  |succ i=>rw[Nat.testBit_succ];simp
theorem dbl_bit(s i:Nat):(2*s).testBit i=(decide (0<i)&&s.testBit (i - 1)):=by
 cases i with
 |zero=>rw[Nat.testBit_zero];simp
 |succ i=>
  rw[Nat.testBit_succ,Nat.mul_div_cancel_left _ (by omega)]
  simp
theorem next93{n T s:Nat}(hn:1≤n∧n≤64)(hT:T<2^64)(hs:s<2^64):M93.m ⟨n,T,s⟩=some ((n:Int),(T:Int),((nx n T s:Nat):Int)):=by
 unfold M93.m
 have hand:s&&&T<2^64:=Nat.lt_of_le_of_lt Nat.and_le_left hs
 rw[and_run hs hT,par110 hand]
 show(bif decide ((n:Int)<64) then _ else _)=_
 have e1:IntKind.u64.wrap ((s:Int)*2^1)=((2*s%2^64:Nat):Int):=by
  simp only[IntKind.wrap,IntKind.signed,IntKind.bits]
  simp
  omega
 have hm:2*s%2^64<2^64:=Nat.mod_lt _ (by decide)
 have hp:(pz (s&&&T)).toNat<2^64:=by cases pz (s&&&T)<;>decide
 have hor:(2*s%2^64|||(pz (s&&&T)).toNat)<2^64:=Nat.or_lt_two_pow hm hp
 have bits:∀i,(2*s%2^64|||(pz (s&&&T)).toNat).testBit i=(decide (i<64)&&(if i=0 then dot 64 (bz s) (bz T) else s.testBit (i - 1))):=fun i=>by
  rw[Nat.testBit_or,Nat.testBit_mod_two_pow,dbl_bit,toNat_bit,pz_and]
  by_cases h0:i=0
  ·subst h0;simp
  ·rw[decide_eq_false h0,if_neg h0,decide_eq_true (show 0<i by omega)]
   simp
 rw[e1,i01_nat,or_run hm hp]
 by_cases h64:n<64
 ·rw[decide_eq_true (by omega)]
  show(bif decide (0≤(n:Int)) then _ else _)=_
  rw[decide_eq_true (by omega)]
  show some (_,_,_)=_
  have hlt:2^n<2^64:=Nat.pow_lt_pow_right (by omega) h64
  have hpos:0<2^n:=Nat.two_pow_pos n
  have e2:IntKind.u64.wrap (IntKind.u64.wrap (1*2^min (n:Int).toNat 64) - 1)=((2^n - 1:Nat):Int):=by
   rw[Int.toNat_natCast,Nat.min_eq_left (by omega),pow_int,Int.one_mul]
   generalize 2^n=q at hlt hpos
   have e:((q - 1:Nat):Int)=(q:Int) - 1:=by omega
   rw[e,wu64 (x:=(q:Int)) (by omega) (by omega),wu64 (by omega) (by omega)]
  have key:(2*s%2^64|||(pz (s&&&T)).toNat)&&&(2^n - 1)=nx n T s:=by
   refine Nat.eq_of_testBit_eq fun i=> ?_
   rw[Nat.testBit_and,bits,Nat.testBit_two_pow_sub_one]
   unfold nx
   rw[nb_bit]
   unfold sb bz Gf.tb
   by_cases hi:i<n
   ·simp[hi,show i<64 by omega]
   ·simp[hi]
  rw[e2,and_run hor (Nat.lt_of_le_of_lt (Nat.sub_le _ _) hlt),key]
 ·have:n=64:=by omega
  subst this
  have key:(2*s%2^64|||(pz (s&&&T)).toNat)=nx 64 T s:=by
   refine Nat.eq_of_testBit_eq fun i=> ?_
   rw[bits]
   unfold nx
   rw[nb_bit]
   unfold sb bz Gf.tb
   by_cases hi:i<64
   ·simp[hi]
   ·simp[hi]
  rw[key]
  rfl
end Sf
end Go.Proofs.Ytddaobhpffpmoaa
namespace Go.Proofs.Ytddaobhpffpmoaa
open Go.Abs
namespace Sf
open Gf
theorem pow_u{n:Nat}(hn:n<64):IntKind.u64.wrap (1*2^min n 64)=((2^n:Nat):Int):=by
 have h:2^n<2^64:=Nat.pow_lt_pow_right (by omega) hn
 rw[Nat.min_eq_left (by omega),pow_int,Int.one_mul]
 generalize 2^n=q at h
 exact wu64 (by omega) (by omega)
def nk(n T:Nat):Nat→Nat→Nat
 |0,s=>s
 |k+1,s=>nx n T (nk n T k s)
theorem nk_lt{n T:Nat}(hn:n≤64):∀{k s:Nat},s<2^n→nk n T k s<2^n
 |0,_,h=>h
 |_+1,_,_=>nx_lt hn
theorem nk_add(n T:Nat)(a:Nat):∀b s,nk n T b (nk n T a s)=nk n T (a+b) s
 |0,s=>rfl
 |b+1,s=>by show nx n T (nk n T b (nk n T a s))=nx n T (nk n T (a+b) s);rw[nk_add n T a b s]
theorem pow_le{n:Nat}(hn:n≤64):2^n≤2^64:=Nat.pow_le_pow_right (by omega) hn
structure Vd(n T:Nat):Prop where
 lo:1≤n
 hi:n≤64
 top:T<2^n
 bot:2^(n - 1)≤T
theorem Vd.T64{n T:Nat}(h:Vd n T):T<2^64:=Nat.lt_of_lt_of_le h.top (pow_le h.hi)
theorem wide100{n x:Nat}(hn:n≤64)(hx:x<2^64):M100.m ⟨x,n⟩=some (decide (2^n≤x)):=by
 unfold M100.m
 have a2:decide (0≤(n:Int))=true:=decide_eq_true (by omega)
 by_cases h:n<64
 ·have a1:decide ((n:Int)<64)=true:=decide_eq_true (by omega)
  have hd:((x:Int).fdiv (2^min n 64) !=0)=decide (2^n≤x):=by
   rw[Nat.min_eq_left (by omega),pow_int,fdiv_nat]
   have hpos:0<2^n:=Nat.two_pow_pos n
   by_cases h:2^n≤x
   ·have:0<x / 2^n:=Nat.div_pos h hpos
    rw[decide_eq_true h]
    generalize x / 2^n=q at this
    have:(q:Int)≠0:=by omega
    simpa using this
   ·rw[decide_eq_false h,Nat.div_eq_of_lt (by omega)];rfl
  simp only[a1,a2,Int.toNat_natCast,hd,cond_true,Bool.true_or]
 ·have:n=64:=by omega
  subst this
  rw[decide_eq_false (show¬2^64≤x by omega)]
  rfl
theorem check71{n T:Nat}(h:Vd n T):M71.m ⟨n,T⟩=some 0:=by
 unfold M71.m
 have h1:=h.lo
 have h2:=h.hi
 have h3:=h.top
 have h4:=h.bot
 have a1:decide ((n:Int)<1)=false:=decide_eq_false (by omega)
 have a2:decide ((n:Int)>64)=false:=decide_eq_false (by omega)
 have a3:=wide100 (n:=n) (x:=T) h.hi h.T64
 rw[decide_eq_false (show¬2^n≤T by omega)]at a3
 have a4:IntKind.i64.wrap ((n:Int) - 1)=((n - 1:Nat):Int):=by rw[w64 (by omega) (by omega)];omega
 have a5:decide (0≤((n - 1:Nat):Int))=true:=decide_eq_true (by omega)
 have a6:((T:Int).fdiv (2^min (n - 1) 64)==0)=false:=by
  rw[Nat.min_eq_left (by omega),pow_int,fdiv_nat]
  have:0<T / 2^(n - 1):=Nat.div_pos h4 (Nat.two_pow_pos _)
  rw[beq_eq_false_iff_ne];omega
 simp only[a1,a2,a3,a4,a5,cond_false,bindO,Bool.true_or,cond_true,Int.toNat_natCast,a6]
theorem begin91{n T s:Nat}(h:Vd n T)(hs:s<2^n):M91.m ⟨n,T,s⟩=some ((n:Int),(T:Int),(s:Int),0):=by
 unfold M91.m
 have a3:=wide100 (n:=n) (x:=s) h.hi (Nat.lt_of_lt_of_le hs (pow_le h.hi))
 rw[decide_eq_false (show¬2^n≤s by omega)]at a3
 simp only[check71 h,a3,bindO]
 rfl
def Lt(n t:Nat):Nat:=t%2^n|||2^(n - 1)
theorem Lt_vd{n t:Nat}(hn:1≤n∧n≤64):Vd n (Lt n t):=by
 refine⟨hn.1,hn.2,?_,Nat.right_le_or⟩
 unfold Lt
 exact Nat.or_lt_two_pow (Nat.mod_lt _ (Nat.two_pow_pos _)) (Nat.pow_lt_pow_right (by omega) (by omega))
theorem nz_pow(n:Nat):Go.Abs.nz ((2^n:Nat):Int)=true:=by
 have:0<2^n:=Nat.two_pow_pos n
 generalize 2^n=q at this
 have h:(q:Int)≠0:=by omega
 unfold Go.Abs.nz
 rw[beq_eq_false_iff_ne.2 h]
 rfl
theorem of54(a t:Nat):M54.m ⟨a,t⟩=some (((1+a%16:Nat):Int),((Lt (1+a%16) t:Nat):Int)):=by
 unfold M54.m
 have hlt:=Nat.mod_lt a (show 0<16 by omega)
 have e0:(a:Int).tmod 16=((a%16:Nat):Int):=rfl
 have e1:IntKind.i64.wrap ((a%16:Nat):Int)=((a%16:Nat):Int):=w64 (by omega) (by omega)
 have e2:IntKind.i64.wrap (1+((a%16:Nat):Int))=((1+a%16:Nat):Int):=by rw[w64 (by omega) (by omega)];omega
 have e3:IntKind.i64.wrap (((1+a%16:Nat):Int) - 1)=((1+a%16 - 1:Nat):Int):=by rw[w64 (by omega) (by omega)];omega
 have a1:decide (0≤((1+a%16:Nat):Int))=true:=decide_eq_true (by omega)
 have a2:decide (0≤((1+a%16 - 1:Nat):Int))=true:=decide_eq_true (by omega)
 have p1:=pow_u (n:=1+a%16) (by omega)
 have p2:=pow_u (n:=1+a%16 - 1) (by omega)
 have e4:(t:Int).tmod ((2^(1+a%16):Nat):Int)=((t%2^(1+a%16):Nat):Int):=rfl
 have e5:IntKind.u64.wrap (↑(BitVec.ofInt 64 ((t%2^(1+a%16):Nat):Int)|||BitVec.ofInt 64 ((2^(1+a%16 - 1):Nat):Int)).toNat:Int)=((Lt (1+a%16) t:Nat):Int):=
  or_run (Nat.lt_of_lt_of_le (Nat.mod_lt _ (Nat.two_pow_pos _)) (pow_le (by omega))) (Nat.pow_lt_pow_right (by omega) (by omega))
 simp only[e0,e1,e2,e3,a1,a2,Int.toNat_natCast,p1,p2,nz_pow,e4,e5,cond_true]
end Sf
end Go.Proofs.Ytddaobhpffpmoaa
namespace Go.Proofs.Ytddaobhpffpmoaa
open Go.Abs
namespace Sf
open Gf
theorem room{a b:Nat}(h:a≤17000000∧b≤1000):roomB a b=true:=by
 have:a*b≤17000000*1000:=Nat.mul_le_mul h.1 h.2
 simp[roomB,leB]
 omega
theorem nw1{n:Nat}(h:1≤n∧n≤64):nw n=1:=by unfold nw;omega
theorem vw1{n x:Nat}(h:1≤n∧n≤64)(hx:x<2^64):vw n (bz x)=[(x:Int)]:=by
 unfold vw
 rw[nw1 h]
 show [((wd (bz x) 0:Nat):Int)]=_
 have:wd (bz x) 0=x:=by
  unfold wd
  have e:(fun i=>bz x (64*0+i))=bz x:=by funext i;rw[Nat.mul_zero,Nat.zero_add]
  rw[e]
  exact nb_tb hx
 rw[this]
theorem split98{n s:Nat}(h:1≤n∧n≤64)(hs:s<2^64):M98.m ⟨s,n⟩=some ((n:Int),vw n (bz s)):=by
 unfold M98.m
 have z:M51.m ⟨n⟩=some ((n:Int),0,1,1,0,[0]):=by
  have:=Gf.zero (n:=n) (by omega)
  rw[nw1 h,vw_no,nw1 h]at this
  exact this
 rw[vw1 h hs]
 show bindO (M51.m ⟨n⟩) _=_
 rw[z];rfl
def Mx(n:Nat)(t:Bits):List Bits:=tr n ((List.range n).map fun i=>sb n t (un i))
theorem Mx_length(n:Nat)(t:Bits):(Mx n t).length=n:=tr_length _ _
theorem Mx_sup(n:Nat)(t:Bits):SupM n (Mx n t):=fun b hb=>by
 unfold Mx tr at hb
 obtain⟨k,_,rfl⟩:=List.mem_map.1 hb
 have:=col_sup ((List.range n).map fun i=>sb n t (un i)) k
 rwa [List.length_map,List.length_range]at this
theorem bz_pow(i:Nat):bz (2^i)=un i:=by
 funext j
 unfold bz Gf.tb un
 rw[Nat.testBit_two_pow]
 by_cases h:i=j
 ·subst h;simp
 ·simp[h,Ne.symm h]
theorem matrix99{n T:Nat}(h:Vd n T):M99.m ⟨n,T⟩=some ((n:Int),mr n (Mx n (bz T))):=by
 unfold M99.m
 have hn:1≤n∧n≤64:=⟨h.lo,h.hi⟩
 have hi:iter M99.s0 ⟨(n:Int),((0:Nat):Int),n,T,n,0,0,mr n ((List.range 0).map fun i=>sb n (bz T) (un i))⟩=some ⟨n,T,n,mr n ((List.range n).map fun i=>sb n (bz T) (un i))⟩:=by
  refine iter_up (fun i=>(⟨(n:Int),(i:Int),n,T,n,0,i,mr n ((List.range i).map fun i=>sb n (bz T) (un i))⟩:M99.p0X)) n (fun i hi=> ?_) ?_
  ·unfold M99.s0
   have a1:decide ((i:Int)<(n:Int))=true:=decide_eq_true (by omega)
   have a2:decide (0≤(i:Int))=true:=decide_eq_true (by omega)
   have a3:eqN (mr n ((List.range i).map fun i=>sb n (bz T) (un i))).length i=true:=by simp[eqN,mr_length]
   have a4:roomB (i+1) 32=true:=room (by omega)
   have a5:IntKind.i64.wrap ((i:Int)+1)=((i+1:Nat):Int):=suc (by omega)
   have hp:2^i<2^64:=Nat.pow_lt_pow_right (by omega) (by omega)
   have a6:=next93 (n:=n) (T:=T) (s:=2^i) hn h.T64 hp
   have a7:=split98 (n:=n) (s:=nx n T (2^i)) hn (Nat.lt_of_lt_of_le (nx_lt hn.2) (pow_le hn.2))
   rw[bz_nx hn.2,bz_pow]at a7
   have a8:eqN 0 0=true:=rfl
   have a9:mr n ((List.range (i+1)).map fun i=>sb n (bz T) (un i))=mr n ((List.range i).map fun i=>sb n (bz T) (un i))++[((n:Int),vw n (sb n (bz T) (un i)))]:=by
    simp[mr,List.range_succ]
   simp only[a1,a2,a3,a4,a5,a6,a7,a8,a9,Int.toNat_natCast,pow_u (n:=i) (by omega),Bool.and_self,cond_true,bindO]
  ·unfold M99.s0
   have a1:decide ((n:Int)<(n:Int))=false:=decide_eq_false (by omega)
   have a3:leB (0+n) (mr n ((List.range n).map fun i=>sb n (bz T) (un i))).length=true:=by simp[leB,mr_length]
   have a4:List.take n (List.drop 0 (mr n ((List.range n).map fun i=>sb n (bz T) (un i))))=mr n ((List.range n).map fun i=>sb n (bz T) (un i)):=by rw[List.drop_zero,List.take_of_length_le (by simp[mr_length])]
   simp only[a1,a3,a4,Bool.and_self,cond_true,cond_false]
 have hl:((List.range n).map fun i=>sb n (bz T) (un i)).length=n:=by simp
 have h40:=turn40 (c:=n) (R:=(List.range n).map fun i=>sb n (bz T) (un i)) (by omega) (by omega) (fun b hb=>by
  obtain⟨k,_,rfl⟩:=List.mem_map.1 hb
  exact sb_sup _ _ _)
 rw[hl]at h40
 show bindO (iter M99.s0 ⟨(n:Int),((0:Nat):Int),n,T,n,0,0,mr n ((List.range 0).map fun i=>sb n (bz T) (un i))⟩) _=_
 rw[hi]
 show bindO (M40.m ⟨n,mr n ((List.range n).map fun i=>sb n (bz T) (un i))⟩) _=_
 rw[h40];rfl
theorem dot_le{n m:Nat}{a b:Bits}(h:n≤m)(ha:Sup n a):dot m a b=dot n a b:=by
 rw[dot_par,dot_par]
 obtain⟨k,rfl⟩:=Nat.exists_eq_add_of_le h
 clear h
 induction k with
 |zero=>rfl
 |succ k ih=>
  show Bool.xor (par (an a b) (n+k)) (an a b (n+k))=_
  rw[ih]
  have:an a b (n+k)=false:=by unfold an;rw[ha _ (by omega)];rfl
  rw[this,Bool.xor_false]
theorem Mx_app{n:Nat}{t x:Bits}(hn:n≤64)(hx:Sup n x):app n (Mx n t) x=sb n t x:=by
 refine bits_eq (n:=n) (by have:=app_sup n (Mx n t) x;rwa [Mx_length]at this) (sb_sup _ _ _) fun i hi=> ?_
 have hl:i<(Mx n t).length:=by rw[Mx_length];exact hi
 rw[app_at x hl]
 have hrow:∀k,k<n→(Mx n t)[i] k=sb n t (un k) i:=fun k hk=>by
  have e:(Mx n t)[i]=col ((List.range n).map fun i=>sb n t (un i)) i:=by simp[Mx,tr]
  rw[e]
  show bit _ k i=_
  rw[bit_at (by simpa using hk),List.getElem_map,List.getElem_range]
 rw[dot_comm,dot_congr hrow,dot_comm]
 by_cases h0:i=0
 ·subst h0
  have e:∀k,k<n→sb n t (un k) 0=t k:=fun k hk=>by
   unfold sb
   rw[decide_eq_true hi,Bool.true_and,if_pos rfl,dot_comm,dot_un t (by omega)]
  rw[dot_comm,dot_congr (x:=x) (b:=t) e,←dot_le hn hx]
  unfold sb
  rw[decide_eq_true hi,Bool.true_and,if_pos rfl]
 ·have e:∀k,k<n→sb n t (un k) i=un (i - 1) k:=fun k hk=>by
   unfold sb
   rw[decide_eq_true hi,if_neg h0,Bool.true_and]
   show(i - 1==k)=(k==i - 1)
   by_cases h:i - 1=k
   ·subst h;rfl
   ·rw[beq_eq_false_iff_ne.2 h,beq_eq_false_iff_ne.2 (Ne.symm h)]
  rw[dot_comm,dot_congr (x:=x) (b:=un (i - 1)) e,dot_un x (by omega)]
  unfold sb
  rw[decide_eq_true hi,if_neg h0,Bool.true_and]
def Ks(n T k:Nat)(A:List Bits):Prop:=A.length=n∧SupM n A∧∀x,x<2^n→app n A (bz x)=bz (nk n T k x)
theorem Mx_ks{n T:Nat}(hn:n≤64):Ks n T 1 (Mx n (bz T)):=⟨Mx_length _ _,Mx_sup _ _,fun x hx=>by rw[Mx_app hn (tb_sup hx),←bz_nx hn];rfl⟩
theorem Ks.sq{n T k:Nat}{A:List Bits}(hn:n≤64)(h:Ks n T k A):Ks n T (k+k) (mulm A A):=by
 refine⟨by rw[mulm_length,h.1],mulm_sup h.2.1,fun x hx=> ?_⟩
 rw[mulm_app,h.1,h.2.2 x hx,h.2.2 _ (nk_lt hn hx),nk_add]
theorem jump69{n T s k:Nat}(h:Vd n T)(hs:s<2^n)(hk:k<2^64):M69.m ⟨n,T,s,k⟩=some (((nk n T k s:Nat):Int),0):=by
 have hn:1≤n∧n≤64:=⟨h.lo,h.hi⟩
 have key:∀(f k m x:Nat) (A:List Bits),k<2^f→x<2^n→Ks n T m A→∃B,iter M69.s0 ⟨(k:Int),n,vw n (bz x),n,mr n A⟩=some ⟨n,vw n (bz (nk n T (k*m) x)),n,B⟩:=by
  intro f
  induction f with
  |zero=>
   intro k m x A hk hx hA
   have:k=0:=by simpa using hk
   subst this
   refine⟨mr n A,?_⟩
   rw[iter_eq,Nat.zero_mul];rfl
  |succ f ih=>
   intro k m x A hk hx hA
   by_cases h0:k=0
   ·subst h0
    refine⟨mr n A,?_⟩
    rw[iter_eq,Nat.zero_mul];rfl
   ·have hk2:k / 2<2^f:=by rw[Nat.pow_succ]at hk;omega
    have a1:decide ((k:Int)>0)=true:=decide_eq_true (by omega)
    have a2:(k:Int).tmod 2=((k%2:Nat):Int):=rfl
    have a3:(k:Int).fdiv (2^1)=((k / 2:Nat):Int):=fdiv_nat k 2
    have a4:M39.m ⟨n,mr n A,n,mr n A⟩=some ((n:Int),mr n (mulm A A),0):=mul (n:=n) (c:=n) (A:=A) (B:=A) hA.1.symm (by omega) (by omega) (by rw[hA.1];omega) hA.2.1 hA.2.1
    have hm:k / 2*(m+m)+k%2*m=k*m:=by
     have:k=2*(k / 2)+k%2:=by omega
     calc k / 2*(m+m)+k%2*m=(2*(k / 2)+k%2)*m:=by rw[Nat.add_mul,Nat.mul_add,Nat.mul_assoc,Nat.two_mul]
      _=k*m:=by rw[←this]
    have a5:M29.m ⟨n,mr n A,n,vw n (bz x)⟩=some ((n:Int),vw n (bz (nk n T m x)),0):=by
     have:=apply (c:=n) (R:=A) (v:=bz x) (by omega) (by rw[hA.1];omega) hA.2.1 (tb_sup hx)
     rw[hA.1,hA.2.2 x hx]at this
     exact this
    rcases Nat.mod_two_eq_zero_or_one k with e|e
    ·obtain⟨B,hB⟩:=ih (k / 2) (m+m) x (mulm A A) hk2 hx (hA.sq hn.2)
     refine⟨B,?_⟩
     rw[iter_eq]
     have hs0:M69.s0 ⟨(k:Int),n,vw n (bz x),n,mr n A⟩=some (.inl ⟨((k / 2:Nat):Int),n,vw n (bz x),n,mr n (mulm A A)⟩):=by
      unfold M69.s0
      simp only[a1,a2,a3,e,a4,bindO,cond_true]
      rfl
     rw[hs0]
     show iter M69.s0 _=_
     rw[hB,←hm,e,Nat.zero_mul,Nat.add_zero]
    ·obtain⟨B,hB⟩:=ih (k / 2) (m+m) (nk n T m x) (mulm A A) hk2 (nk_lt hn.2 hx) (hA.sq hn.2)
     refine⟨B,?_⟩
     rw[iter_eq]
     have hs0:M69.s0 ⟨(k:Int),n,vw n (bz x),n,mr n A⟩=some (.inl ⟨((k / 2:Nat):Int),n,vw n (bz (nk n T m x)),n,mr n (mulm A A)⟩):=by
      unfold M69.s0
      simp only[a1,a2,a3,e,a4,a5,bindO,cond_true]
      rfl
     rw[hs0]
     show iter M69.s0 _=_
     rw[hB,nk_add,←hm,e,Nat.one_mul,Nat.add_comm m]
 obtain⟨B,hB⟩:=key 64 k 1 s (Mx n (bz T)) hk hs (Mx_ks hn.2)
 unfold M69.m
 simp only[begin91 h hs,split98 hn (Nat.lt_of_lt_of_le hs (pow_le hn.2)),matrix99 h,bindO]
 show bindO (iter M69.s0 _) _=_
 rw[hB,Nat.mul_one,vw1 hn (Nat.lt_of_lt_of_le (nk_lt hn.2 hs) (pow_le hn.2))]
 rfl
end Sf
end Go.Proofs.Ytddaobhpffpmoaa
