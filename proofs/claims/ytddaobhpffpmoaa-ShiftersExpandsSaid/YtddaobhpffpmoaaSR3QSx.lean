/-
  What the proof stands on.
-/
import Derived.Test.YtddaobhpffpmoaaSR3QSq
import Derived.Test.YtddaobhpffpmoaaSR3QGv
set_option linter.all false
namespace Go.Proofs.Ytddaobhpffpmoaa
open Go.Abs
namespace Sf
open Gf
theorem tmod_nat(a b:Nat):(a:Int).tmod (b:Int)=((a%b:Nat):Int):=rfl
end Sf
end Go.Proofs.Ytddaobhpffpmoaa
namespace Go.Proofs.Ytddaobhpffpmoaa
open Go.Abs
namespace Sf
open Gf
theorem take_one{α:Type}{l:List α}{i:Nat}(h:i<l.length):l.take (i+1)=l.take i++[l[i]]:=by
 rw[List.take_add_one,List.getElem?_eq_getElem h];rfl
def cut(N:Nat)(Q:List Nat):List Nat:=Q.map fun p=>p%2^N
theorem of60(n t c:Nat){Q:List Nat}(hQ:Q.length≤1000000):
  M60.m ⟨n,t,ints Q,c⟩=some (((1+n%16:Nat):Int),((Lt (1+n%16) t:Nat):Int),ints (cut (1+n%16) Q),((c%13:Nat):Int)):=by
 have hlt:=Nat.mod_lt n (show 0<16 by omega)
 unfold M60.m
 simp only[of54 n t,bindO]
 generalize hN:1+n%16=N at*
 have e1:(c:Int).tmod 13=((c%13:Nat):Int):=rfl
 have hc:=Nat.mod_lt c (show 0<13 by omega)
 have e2:IntKind.i64.wrap ((c%13:Nat):Int)=((c%13:Nat):Int):=w64 (by omega) (by omega)
 have hpu:=pow_u (n:=N) (by omega)
 have hi:iter M60.s0 ⟨((0:Nat):Int),n,t,ints Q,c,(N:Int),(Lt N t:Int),(N:Int),(Lt N t:Int),0,0,((c%13:Nat):Int),ints (cut N (Q.take 0))⟩=some ⟨n,t,ints Q,c,(N:Int),(Lt N t:Int),(N:Int),(Lt N t:Int),ints (cut N Q),((c%13:Nat):Int)⟩:=by
  refine iter_up (fun i=>(⟨(i:Int),n,t,ints Q,c,(N:Int),(Lt N t:Int),(N:Int),(Lt N t:Int),0,i,((c%13:Nat):Int),ints (cut N (Q.take i))⟩:M60.p0X)) Q.length (fun i hi=> ?_) ?_
  ·unfold M60.s0
   have b1:decide ((i:Int)<((ints Q).length:Int))=true:=decide_eq_true (by rw[ints_length];omega)
   have b2:inR (i:Int) (ints Q).length=true:=inR_nat (by rw[ints_length];exact hi)
   have b3:decide (0≤(N:Int))=true:=decide_eq_true (by omega)
   have b4:IntKind.i64.wrap ((i:Int)+1)=((i+1:Nat):Int):=suc (by omega)
   have b5:eqN (ints (cut N (Q.take i))).length i=true:=by simp[eqN,ints_length,cut];omega
   have b6:roomB (i+1) 8=true:=room (by omega)
   have b7:eqN 0 0=true:=rfl
   have b8:ints (cut N (Q.take (i+1)))=ints (cut N (Q.take i))++[((Q[i]%2^N:Nat):Int)]:=by unfold ints cut;rw[take_one hi,List.map_append,List.map_append];rfl
   simp only[b1,b2,b3,b4,b5,b6,b7,b8,Int.toNat_natCast,ints_get Q hi,hpu,nz_pow,tmod_nat,cond_true,Bool.and_self]
  ·unfold M60.s0
   have b1:decide ((Q.length:Int)<((ints Q).length:Int))=false:=decide_eq_false (by rw[ints_length];omega)
   have b2:leB (0+Q.length) (ints (cut N (Q.take Q.length))).length=true:=by simp[leB,ints_length,cut]
   have b3:List.take Q.length (List.drop 0 (ints (cut N (Q.take Q.length))))=ints (cut N Q):=by
    rw[List.drop_zero,List.take_of_length_le (by simp[ints_length,cut]),List.take_length]
   simp only[b1,b2,b3,cond_false,cond_true,Bool.and_self]
 rw[e1,e2]
 have hi:iter M60.s0 ⟨0,n,t,ints Q,c,(N:Int),(Lt N t:Int),(N:Int),(Lt N t:Int),0,0,((c%13:Nat):Int),[]⟩=some ⟨n,t,ints Q,c,(N:Int),(Lt N t:Int),(N:Int),(Lt N t:Int),ints (cut N Q),((c%13:Nat):Int)⟩:=hi
 simp only[hi]
theorem cut_length(N:Nat)(Q:List Nat):(cut N Q).length=Q.length:=by simp[cut]
theorem dc_of{n t c:Nat}{Q:List Nat}(hQ:Q.length≤64):Dc (1+n%16) (Lt (1+n%16) t) (cut (1+n%16) Q) (c%13):=by
 have hlt:=Nat.mod_lt n (show 0<16 by omega)
 have hc:=Nat.mod_lt c (show 0<13 by omega)
 refine⟨Lt_vd ⟨by omega,by omega⟩,fun p hp=> ?_,by rw[cut_length];exact hQ,fun hne=> ?_,by omega⟩
 ·obtain⟨q,_,rfl⟩:=List.mem_map.1 hp
  exact Nat.mod_lt _ (Nat.two_pow_pos _)
 ·rw[cut_length]
  have hpos:0<Q.length:=by
   have:=List.length_pos_iff.2 hne
   rwa [cut_length]at this
  have:4096 / 64≤4096 / Q.length:=Nat.div_le_div_left hQ hpos
  omega
theorem xor8(a b:Bool):IntKind.u8.wrap (↑(BitVec.ofInt 8 (i01 a)^^^BitVec.ofInt 8 (i01 b)).toNat:Int)=i01 (Bool.xor a b):=by cases a<;>cases b<;>rfl
theorem u64_i01(b:Bool):IntKind.u64.wrap (i01 b)=i01 b:=by cases b<;>rfl
theorem cells_row{n T:Nat}{P:List Nat}{c s j:Nat}(hj:j<P.length):((cellsB n T P c s)[j]?.getD []).length=c:=by simp[cellsB,hj]
theorem cells_cell{n T:Nat}{P:List Nat}{c s j i:Nat}(hj:j<P.length)(hi:i<c):((cellsB n T P c s)[j]?.getD [])[i]?.getD 0=i01 (fb n T P c j i (bz s)):=cellsB_at s hj hi
theorem fb_run{n T:Nat}{P:List Nat}{c s j i:Nat}(h:Dc n T P c)(hs:s<2^n)(hj:j<P.length):
  M67.m ⟨IntKind.u64.wrap (↑(BitVec.ofInt 64 ((nk n T (c - 1 - i) s:Nat):Int)&&&BitVec.ofInt 64 ((P[j]:Nat):Int)).toNat:Int)⟩=some (i01 (fb n T P c j i (bz s))):=by
 have hn:=h.vd.hi
 have hk:=Nat.lt_of_lt_of_le (nk_lt (T:=T) (k:=c - 1 - i) hn hs) (pow_le hn)
 have hp:=Nat.lt_of_lt_of_le (h.ph _ (List.getElem_mem hj)) (pow_le hn)
 rw[and_run hk hp,odd67 (Nat.lt_of_le_of_lt Nat.and_le_left hk),pz_and,bz_nk hn]
 unfold fb fc
 rw[List.getElem?_eq_getElem hj];rfl
theorem loop14{N T C a b:Nat}{P:List Nat}(h:Dc N T P C)(ha:a<2^N)(hb:b<2^N)(hC:C≤4096):
  iter M14.s0 ⟨(a:Int),cellsB N T P C a,cellsB N T P C b,cellsB N T P C (a^^^b),0,(N:Int),(T:Int),ints P,(C:Int),((P.length*C:Nat):Int),vw (P.length*C) (app N (Rq N T P C) (bz a))⟩=some (.inl PUnit.unit):=by
 have hall:=h.all
 have hl:=h.len
 have hv:=h.vd
 have hN:1≤N∧N≤64:=⟨hv.lo,hv.hi⟩
 have inner:∀j,j<P.length→iter M14.s1 ⟨(a:Int),cellsB N T P C a,cellsB N T P C b,cellsB N T P C (a^^^b),(j:Int),((0:Nat):Int),(N:Int),(T:Int),ints P,(C:Int),((P.length*C:Nat):Int),vw (P.length*C) (app N (Rq N T P C) (bz a))⟩=
   some (.inl ⟨(a:Int),cellsB N T P C a,cellsB N T P C b,cellsB N T P C (a^^^b),(j:Int),(N:Int),(T:Int),ints P,(C:Int),((P.length*C:Nat):Int),vw (P.length*C) (app N (Rq N T P C) (bz a))⟩):=fun j hj=>by
  refine iter_up (fun i=>(⟨(a:Int),cellsB N T P C a,cellsB N T P C b,cellsB N T P C (a^^^b),(j:Int),(i:Int),(N:Int),(T:Int),ints P,(C:Int),((P.length*C:Nat):Int),vw (P.length*C) (app N (Rq N T P C) (bz a))⟩:M14.p1X)) C (fun i hi=> ?_) ?_
  ·have hr:j*C+i<P.length*C:=by
    have:=Nat.mul_le_mul_right C (show j+1≤P.length by omega)
    rw[Nat.add_mul]at this
    omega
   have hdv:=divmod (j:=j) hi
   unfold M14.s1
   have b1:decide ((i:Int)<(C:Int))=true:=decide_eq_true (by omega)
   have b2:IntKind.i64.wrap (IntKind.i64.wrap ((C:Int) - 1) - (i:Int))=((C - 1 - i:Nat):Int):=by
    rw[w64 (x:=(C:Int) - 1) (by omega) (by omega),w64 (by omega) (by omega)];omega
   have b3:=after56 (n:=N) (T:=T) (s:=a) (k:=C - 1 - i) hN hv.T64 ha (by omega)
   have b4:inR (j:Int) (ints P).length=true:=inR_nat (by rw[ints_length];exact hj)
   have b5:=fb_run (i:=i) h ha hj
   have b6:inR (j:Int) (cellsB N T P C a).length=true:=inR_nat (by rw[cellsB_length];exact hj)
   have b7:inR (i:Int) ((cellsB N T P C a)[j]?.getD []).length=true:=inR_nat (by rw[cells_row hj];exact hi)
   have b8:inR (j:Int) (cellsB N T P C (a^^^b)).length=true:=inR_nat (by rw[cellsB_length];exact hj)
   have b9:inR (i:Int) ((cellsB N T P C (a^^^b))[j]?.getD []).length=true:=inR_nat (by rw[cells_row hj];exact hi)
   have b10:inR (j:Int) (cellsB N T P C b).length=true:=inR_nat (by rw[cellsB_length];exact hj)
   have b11:inR (i:Int) ((cellsB N T P C b)[j]?.getD []).length=true:=inR_nat (by rw[cells_row hj];exact hi)
   have c1:=cells_cell (n:=N) (T:=T) (s:=a) hj hi
   have c2:=cells_cell (n:=N) (T:=T) (s:=b) hj hi
   have c3:((cellsB N T P C (a^^^b))[j]?.getD [])[i]?.getD 0=i01 (Bool.xor (fb N T P C j i (bz a)) (fb N T P C j i (bz b))):=by
    rw[cells_cell hj hi,bz_xor]
    unfold fb
    rw[fc_xr]
   have b12:IntKind.i64.wrap (IntKind.i64.wrap ((j:Int)*(C:Int))+(i:Int))=((j*C+i:Nat):Int):=by
    have e:(j:Int)*(C:Int)=((j*C:Nat):Int):=by simp
    rw[e,w64 (x:=((j*C:Nat):Int)) (by omega) (by omega),w64 (by omega) (by omega)];omega
   have b13:M37.m ⟨((P.length*C:Nat):Int),vw (P.length*C) (app N (Rq N T P C) (bz a)),((j*C+i:Nat):Int)⟩=some (i01 (fb N T P C j i (bz a))):=by
    have hs:=app_sup N (Rq N T P C) (bz a)
    rw[Rq_length]at hs
    rw[at_in hall hs hr,app_at _ (by rw[Rq_length];exact hr)]
    have e:(Rq N T P C)[j*C+i]'(by rw[Rq_length];exact hr)=Rr N T P C (j*C+i):=by simp[Rq]
    rw[e,Rr_dot (tb_sup ha),hdv.1,hdv.2]
   have b14:IntKind.i64.wrap ((i:Int)+1)=((i+1:Nat):Int):=suc (by omega)
   simp only[b1,b2,b3,bindO,b4,Int.toNat_natCast,ints_get P hj,b5,b6,b7,b8,b9,b10,b11,c1,c2,c3,u64_i01,neq_self,xor8,b12,b13,b14,cond_true,cond_false,Bool.true_or,Bool.not_false]
  ·unfold M14.s1
   have b1:decide ((C:Int)<(C:Int))=false:=decide_eq_false (by omega)
   simp only[b1,cond_false]
 have:=iter_up (step:=M14.s0) (fun j=>(⟨(a:Int),cellsB N T P C a,cellsB N T P C b,cellsB N T P C (a^^^b),(j:Int),(N:Int),(T:Int),ints P,(C:Int),((P.length*C:Nat):Int),vw (P.length*C) (app N (Rq N T P C) (bz a))⟩:M14.p0X)) P.length (y:=.inl PUnit.unit) (fun j hj=> ?_) ?_
 ·exact this
 ·unfold M14.s0
  have b1:decide ((j:Int)<((cellsB N T P C a).length:Int))=true:=decide_eq_true (by rw[cellsB_length];omega)
  have b2:inR (j:Int) (cellsB N T P C a).length=true:=inR_nat (by rw[cellsB_length];exact hj)
  have b3:inR (j:Int) (cellsB N T P C b).length=true:=inR_nat (by rw[cellsB_length];exact hj)
  have b4:inR (j:Int) (cellsB N T P C (a^^^b)).length=true:=inR_nat (by rw[cellsB_length];exact hj)
  have b5:IntKind.i64.wrap ((j:Int)+1)=((j+1:Nat):Int):=suc (by omega)
  have hin:iter M14.s1 ⟨(a:Int),cellsB N T P C a,cellsB N T P C b,cellsB N T P C (a^^^b),(j:Int),0,(N:Int),(T:Int),ints P,(C:Int),((P.length*C:Nat):Int),vw (P.length*C) (app N (Rq N T P C) (bz a))⟩=_:=inner j hj
  simp only[b1,b2,b3,b4,b5,Int.toNat_natCast,cells_row hj,neq_self,hin,bindO,sumC,cond_true,cond_false,Bool.true_or]
 ·unfold M14.s0
  have b1:decide ((P.length:Int)<((cellsB N T P C a).length:Int))=false:=decide_eq_false (by rw[cellsB_length];omega)
  simp only[b1,cond_false]
theorem run14(n t c sa sb:Nat)(Q:List Nat):M14.m ⟨n,t,ints Q,c,sa,sb⟩=some true:=by
 unfold M14.m
 by_cases hQ:Q.length≤8
 ·have a0:decide ((Q.length:Int)>8)=false:=decide_eq_false (by omega)
  have h60:=of60 n t c (Q:=Q) (by omega)
  have hd:=dc_of (n:=n) (t:=t) (c:=c) (Q:=Q) (by omega)
  have hc:=Nat.mod_lt c (show 0<13 by omega)
  have hN64:1+n%16<64:=by have:=Nat.mod_lt n (show 0<16 by omega);omega
  have hPl:=cut_length (1+n%16) Q
  generalize 1+n%16=N at*
  generalize Lt N t=T at*
  generalize cut N Q=P at*
  generalize c%13=C at*
  have hv:=hd.vd
  have hN:1≤N∧N≤64:=⟨hv.lo,hv.hi⟩
  have hpos:=Nat.two_pow_pos N
  have hp:=pow_u hN64
  have ha:sa%2^N<2^N:=Nat.mod_lt _ hpos
  have hb:sb%2^N<2^N:=Nat.mod_lt _ hpos
  have hab:sa%2^N^^^sb%2^N<2^N:=Nat.xor_lt_two_pow ha hb
  have h2:=pow_le hN.2
  have a1:decide (0≤(N:Int))=true:=decide_eq_true (by omega)
  have x1:=xor_run (Nat.lt_of_lt_of_le ha h2) (Nat.lt_of_lt_of_le hb h2)
  have e1:=exp61 hd ha
  have e2:=exp61 hd hb
  have e3:=exp61 hd hab
  have e4:=eqs65 hd
  have b1:=bits66 hN.2 ha
  have hall:=hd.all
  have ap:=apply (c:=N) (R:=Rq N T P C) (v:=bz (sa%2^N)) (by omega) (by rw[Rq_length];exact hall) (Rq_sup _ _ _ _) (tb_sup ha)
  rw[Rq_length]at ap
  have l1:IntKind.i64.wrap ((P.length:Int)*(C:Int))=((P.length*C:Nat):Int):=by
   have e:(P.length:Int)*(C:Int)=((P.length*C:Nat):Int):=by simp
   rw[e,w64 (by omega) (by omega)]
  have lp:=loop14 hd ha hb (by omega)
  simp only[a0,cond_false,h60,bindO,a1,Int.toNat_natCast,hp,nz_pow,cond_true,tmod_nat,e1,e2,x1,e3,e4,b1,ap,l1,cellsB_length,ints_length,Gf.nz,neq_self,lp,sumC,lives59]
 ·have a0:decide ((Q.length:Int)>8)=true:=decide_eq_true (by omega)
  simp only[ints_length,a0,cond_true,lives59,bindO]
theorem ints_of{l:List Int}(h:∀p∈l,0≤p∧p<18446744073709551616):∃Q:List Nat,l=ints Q∧∀p∈Q,p<2^64:=by
 refine⟨l.map Int.toNat,?_,fun p hp=> ?_⟩
 ·unfold ints
  rw[List.map_map]
  have:∀x∈l,((fun(x:Nat)=>(x:Int))∘Int.toNat) x=x:=fun x hx=>by have:=h x hx;show((x.toNat:Nat):Int)=x;omega
  rw[List.map_congr_left this,List.map_id']
 ·obtain⟨x,hx,rfl⟩:=List.mem_map.1 hp
  have:=h x hx
  omega
theorem run14'{n t c sa sb:Int}{ph:List Int}(hn:0≤n∧n<256)(ht:0≤t∧t<18446744073709551616)(hp:∀p∈ph,0≤p∧p<18446744073709551616)(hc:0≤c∧c<256)(ha:0≤sa∧sa<18446744073709551616)(hb:0≤sb∧sb<18446744073709551616):M14.m ⟨n,t,ph,c,sa,sb⟩=some true:=by
 obtain⟨n,rfl⟩:=Int.eq_ofNat_of_zero_le hn.1
 obtain⟨t,rfl⟩:=Int.eq_ofNat_of_zero_le ht.1
 obtain⟨c,rfl⟩:=Int.eq_ofNat_of_zero_le hc.1
 obtain⟨sa,rfl⟩:=Int.eq_ofNat_of_zero_le ha.1
 obtain⟨sb,rfl⟩:=Int.eq_ofNat_of_zero_le hb.1
 obtain⟨Q,rfl,_⟩:=ints_of hp
 exact run14 n t c sa sb Q
end Sf
end Go.Proofs.Ytddaobhpffpmoaa
