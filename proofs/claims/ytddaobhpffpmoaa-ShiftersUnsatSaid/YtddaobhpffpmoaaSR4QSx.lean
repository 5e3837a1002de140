/-
  What the proof stands on.
-/
import Derived.Test.YtddaobhpffpmoaaSR4QSq
import Derived.Test.YtddaobhpffpmoaaSR4QGv
set_option linter.all false
namespace Go.Proofs.Ytddaobhpffpmoaa
open Go.Abs
namespace Sf
open Gf
theorem tmod_nat(a b:Nat):(a:Int).tmod (b:Int)=((a%b:Nat):Int):=rfl
end Sf
end Go.Proofs.Ytddaobhpffpmoaa
namespace Go.Proofs.Ytddaobhpffpmoaa
open Go.Abs
namespace Sf
open Gf
theorem take_one{α:Type}{l:List α}{i:Nat}(h:i<l.length):l.take (i+1)=l.take i++[l[i]]:=by
 rw[List.take_add_one,List.getElem?_eq_getElem h];rfl
def cut(N:Nat)(Q:List Nat):List Nat:=Q.map fun p=>p%2^N
theorem of60(n t c:Nat){Q:List Nat}(hQ:Q.length≤1000000):
  M60.m ⟨n,t,ints Q,c⟩=some (((1+n%16:Nat):Int),((Lt (1+n%16) t:Nat):Int),ints (cut (1+n%16) Q),((c%13:Nat):Int)):=by
 have hlt:=Nat.mod_lt n (show 0<16 by omega)
 unfold M60.m
 simp only[of54 n t,bindO]
 generalize hN:1+n%16=N at*
 have e1:(c:Int).tmod 13=((c%13:Nat):Int):=rfl
 have hc:=Nat.mod_lt c (show 0<13 by omega)
 have e2:IntKind.i64.wrap ((c%13:Nat):Int)=((c%13:Nat):Int):=w64 (by omega) (by omega)
 have hpu:=pow_u (n:=N) (by omega)
 have hi:iter M60.s0 ⟨((0:Nat):Int),n,t,ints Q,c,(N:Int),(Lt N t:Int),(N:Int),(Lt N t:Int),0,0,((c%13:Nat):Int),ints (cut N (Q.take 0))⟩=some ⟨n,t,ints Q,c,(N:Int),(Lt N t:Int),(N:Int),(Lt N t:Int),ints (cut N Q),((c%13:Nat):Int)⟩:=by
  refine iter_up (fun i=>(⟨(i:Int),n,t,ints Q,c,(N:Int),(Lt N t:Int),(N:Int),(Lt N t:Int),0,i,((c%13:Nat):Int),ints (cut N (Q.take i))⟩:M60.p0X)) Q.length (fun i hi=> ?_) ?_
  ·unfold M60.s0
   have b1:decide ((i:Int)<((ints Q).length:Int))=true:=decide_eq_true (by rw[ints_length];omega)
   have b2:inR (i:Int) (ints Q).length=true:=inR_nat (by rw[ints_length];exact hi)
   have b3:decide (0≤(N:Int))=true:=decide_eq_true (by omega)
   have b4:IntKind.i64.wrap ((i:Int)+1)=((i+1:Nat):Int):=suc (by omega)
   have b5:eqN (ints (cut N (Q.take i))).length i=true:=by simp[eqN,ints_length,cut];omega
   have b6:roomB (i+1) 8=true:=room (by omega)
   have b7:eqN 0 0=true:=rfl
   have b8:ints (cut N (Q.take (i+1)))=ints (cut N (Q.take i))++[((Q[i]%2^N:Nat):Int)]:=by unfold ints cut;rw[take_one hi,List.map_append,List.map_append];rfl
   simp only[b1,b2,b3,b4,b5,b6,b7,b8,Int.toNat_natCast,ints_get Q hi,hpu,nz_pow,tmod_nat,cond_true,Bool.and_self]
  ·unfold M60.s0
   have b1:decide ((Q.length:Int)<((ints Q).length:Int))=false:=decide_eq_false (by rw[ints_length];omega)
   have b2:leB (0+Q.length) (ints (cut N (Q.take Q.length))).length=true:=by simp[leB,ints_length,cut]
   have b3:List.take Q.length (List.drop 0 (ints (cut N (Q.take Q.length))))=ints (cut N Q):=by
    rw[List.drop_zero,List.take_of_length_le (by simp[ints_length,cut]),List.take_length]
   simp only[b1,b2,b3,cond_false,cond_true,Bool.and_self]
 rw[e1,e2]
 have hi:iter M60.s0 ⟨0,n,t,ints Q,c,(N:Int),(Lt N t:Int),(N:Int),(Lt N t:Int),0,0,((c%13:Nat):Int),[]⟩=some ⟨n,t,ints Q,c,(N:Int),(Lt N t:Int),(N:Int),(Lt N t:Int),ints (cut N Q),((c%13:Nat):Int)⟩:=hi
 simp only[hi]
theorem cut_length(N:Nat)(Q:List Nat):(cut N Q).length=Q.length:=by simp[cut]
theorem dc_of{n t c:Nat}{Q:List Nat}(hQ:Q.length≤64):Dc (1+n%16) (Lt (1+n%16) t) (cut (1+n%16) Q) (c%13):=by
 have hlt:=Nat.mod_lt n (show 0<16 by omega)
 have hc:=Nat.mod_lt c (show 0<13 by omega)
 refine⟨Lt_vd ⟨by omega,by omega⟩,fun p hp=> ?_,by rw[cut_length];exact hQ,fun hne=> ?_,by omega⟩
 ·obtain⟨q,_,rfl⟩:=List.mem_map.1 hp
  exact Nat.mod_lt _ (Nat.two_pow_pos _)
 ·rw[cut_length]
  have hpos:0<Q.length:=by
   have:=List.length_pos_iff.2 hne
   rwa [cut_length]at this
  have:4096 / 64≤4096 / Q.length:=Nat.div_le_div_left hQ hpos
  omega
theorem ints_of{l:List Int}(h:∀p∈l,0≤p∧p<18446744073709551616):∃Q:List Nat,l=ints Q∧∀p∈Q,p<2^64:=by
 refine⟨l.map Int.toNat,?_,fun p hp=> ?_⟩
 ·unfold ints
  rw[List.map_map]
  have:∀x∈l,((fun(x:Nat)=>(x:Int))∘Int.toNat) x=x:=fun x hx=>by have:=h x hx;show((x.toNat:Nat):Int)=x;omega
  rw[List.map_congr_left this,List.map_id']
 ·obtain⟨x,hx,rfl⟩:=List.mem_map.1 hp
  have:=h x hx
  omega
end Sf
end Go.Proofs.Ytddaobhpffpmoaa
namespace Go.Proofs.Ytddaobhpffpmoaa
open Go.Abs
namespace Sf
open Gf
def wv(v:List Int)(k:Nat):Int:=bif decide ((k:Int)<(v.length:Int)) then if 2<Int.tmod (v[k]?.getD 0) 4 then 2 else Int.tmod (v[k]?.getD 0) 4 else 2
def wr_(v:List Int)(C j m:Nat):List Int:=(List.range m).map fun i=>wv v (j*C+i)
def wl(v:List Int)(C m:Nat):List (List Int):=(List.range m).map fun j=>wr_ v C j C
theorem wr_length(v:List Int)(C j m:Nat):(wr_ v C j m).length=m:=by simp[wr_]
theorem wl_length(v:List Int)(C m:Nat):(wl v C m).length=m:=by simp[wl]
theorem wv_val{v:List Int}(hv:∀x∈v,0≤x∧x<256)(k:Nat):wv v k=0∨wv v k=1∨wv v k=2:=by
 unfold wv
 by_cases h:(k:Int)<(v.length:Int)
 ·have hk:k<v.length:=by omega
  have hx:=hv _ (List.getElem_mem hk)
  rw[decide_eq_true h,List.getElem?_eq_getElem hk,Option.getD_some,cond_true]
  generalize v[k]=x at hx
  obtain⟨x,rfl⟩:=Int.eq_ofNat_of_zero_le hx.1
  have e:Int.tmod (x:Int) 4=((x%4:Nat):Int):=rfl
  rw[e]
  split<;>omega
 ·rw[decide_eq_false h];exact .inr (.inr rfl)
theorem wl_cl{v:List Int}(hv:∀x∈v,0≤x∧x<256)(P:List Nat)(C:Nat):Cl P C (wl v C P.length):=by
 refine⟨wl_length _ _ _,fun l hl=> ?_,fun l hl x hx=> ?_⟩
 ·obtain⟨j,_,rfl⟩:=List.mem_map.1 hl
  exact wr_length _ _ _ _
 ·obtain⟨j,_,rfl⟩:=List.mem_map.1 hl
  obtain⟨i,_,rfl⟩:=List.mem_map.1 hx
  exact wv_val hv _
theorem loop13{v:List Int}{N T C:Nat}{P:List Nat}(hP:P.length≤1000)(hC:C≤1000):
  iter M13.s0 ⟨v,0,0,0,0,(N:Int),(T:Int),ints P,(C:Int),[]⟩=some ⟨wl v C P.length,(N:Int),(T:Int),ints P,(C:Int)⟩:=by
 have inner:∀j,j<P.length→iter M13.s1 ⟨v,0,j,((j*C+0:Nat):Int),(j:Int),0,0,((0:Nat):Int),(N:Int),(T:Int),ints P,(C:Int),wl v C j,wr_ v C j 0⟩=some ⟨v,0,j,((j*C+C:Nat):Int),(j:Int),wr_ v C j C,(N:Int),(T:Int),ints P,(C:Int),wl v C j⟩:=fun j hj=>by
  have hjc:j*C≤1000*1000:=Nat.mul_le_mul (by omega) hC
  refine iter_up (fun i=>(⟨v,0,j,((j*C+i:Nat):Int),(j:Int),0,i,(i:Int),(N:Int),(T:Int),ints P,(C:Int),wl v C j,wr_ v C j i⟩:M13.p1X)) C (fun i hi=> ?_) ?_
  ·unfold M13.s1
   have b1:decide ((i:Int)<(C:Int))=true:=decide_eq_true (by omega)
   have b2:(bif inR ((j*C+i:Nat):Int) v.length&&true then true else bif decide (((j*C+i:Nat):Int)<(v.length:Int)) then false else true)=true:=by
    by_cases h:j*C+i<v.length
    ·rw[inR_nat h];rfl
    ·rw[inR_not h,decide_eq_false (by omega)];rfl
   have b3:eqN (wr_ v C j i).length i=true:=by simp[eqN,wr_length]
   have b4:roomB (i+1) 1=true:=room (by omega)
   have b5:eqN 0 0=true:=rfl
   have b6:IntKind.i64.wrap (((j*C+i:Nat):Int)+1)=((j*C+(i+1):Nat):Int):=suc (by omega)
   have b7:IntKind.i64.wrap ((i:Int)+1)=((i+1:Nat):Int):=suc (by omega)
   have b8:wr_ v C j (i+1)=wr_ v C j i++[bif decide (((j*C+i:Nat):Int)<(v.length:Int)) then if 2<Int.tmod (v[j*C+i]?.getD 0) 4 then 2 else Int.tmod (v[j*C+i]?.getD 0) 4 else 2]:=by
    unfold wr_
    rw[List.range_succ,List.map_append];rfl
   simp only[b1,b2,b3,b4,b5,b6,b7,b8,Int.toNat_natCast,cond_true,Bool.and_self]
  ·unfold M13.s1
   have b1:decide ((C:Int)<(C:Int))=false:=decide_eq_false (by omega)
   have b2:leB (0+C) (wr_ v C j C).length=true:=by simp[leB,wr_length]
   have b3:List.take C (List.drop 0 (wr_ v C j C))=wr_ v C j C:=by rw[List.drop_zero,List.take_of_length_le (by rw[wr_length];omega)]
   simp only[b1,b2,b3,cond_false,cond_true,Bool.and_self]
 have:=iter_up (step:=M13.s0) (fun j=>(⟨v,0,j,((j*C:Nat):Int),(j:Int),(N:Int),(T:Int),ints P,(C:Int),wl v C j⟩:M13.p0X)) P.length (y:=⟨wl v C P.length,(N:Int),(T:Int),ints P,(C:Int)⟩) (fun j hj=> ?_) ?_
 ·simp only[Nat.zero_mul]at this
  exact this
 ·unfold M13.s0
  have b1:decide ((j:Int)<((ints P).length:Int))=true:=decide_eq_true (by rw[ints_length];omega)
  have hin:iter M13.s1 ⟨v,0,j,((j*C:Nat):Int),(j:Int),0,0,0,(N:Int),(T:Int),ints P,(C:Int),wl v C j,[]⟩=_:=inner j hj
  have b2:eqN 0 0=true:=rfl
  have b3:eqN (wl v C j).length j=true:=by simp[eqN,wl_length]
  have b4:roomB (j+1) 24=true:=room (by omega)
  have b5:IntKind.i64.wrap ((j:Int)+1)=((j+1:Nat):Int):=suc (by omega)
  have b6:wl v C (j+1)=wl v C j++[wr_ v C j C]:=by
   unfold wl
   rw[List.range_succ,List.map_append];rfl
  have b7:(j+1)*C=j*C+C:=by rw[Nat.add_mul,Nat.one_mul]
  simp only[b1,hin,bindO,b2,b3,b4,b5,b6,b7,cond_true,Bool.and_self]
 ·unfold M13.s0
  have b1:decide ((P.length:Int)<((ints P).length:Int))=false:=decide_eq_false (by rw[ints_length];omega)
  have b2:leB (0+P.length) (wl v C P.length).length=true:=by simp[leB,wl_length]
  have b3:List.take P.length (List.drop 0 (wl v C P.length))=wl v C P.length:=by rw[List.drop_zero,List.take_of_length_le (by rw[wl_length];omega)]
  simp only[b1,b2,b3,cond_false,cond_true,Bool.and_self]
open Classical in
noncomputable def sm(N T:Nat)(P:List Nat)(C:Nat)(L:List (List Int))(s:Nat):Bool:=decide (∃s',s'<s∧Ins N T P C s' L)
open Classical in
theorem sm_iff{N T:Nat}{P:List Nat}{C:Nat}{L:List (List Int)}{s:Nat}:sm N T P C L s=true↔∃s',s'<s∧Ins N T P C s' L:=by unfold sm;rw[decide_eq_true_eq]
theorem sm_no{N T:Nat}{P:List Nat}{C:Nat}{L:List (List Int)}{s:Nat}(h:¬∃s',s'<s∧Ins N T P C s' L):sm N T P C L s=false:=by
 cases e:sm N T P C L s with
 |true=>exact absurd (sm_iff.1 e) h
 |false=>rfl
theorem loop13b{N T C:Nat}{P:List Nat}{L:List (List Int)}(h:Dc N T P C)(hL:Cl P C L)(hC:C≤1000)(hN:N<60):
  iter M13.s2 ⟨L,false,0,(N:Int),(T:Int),ints P,(C:Int)⟩=some (.inl ⟨L,sm N T P C L (2^N),(N:Int),(T:Int),ints P,(C:Int)⟩):=by
 have hp60:2^N≤2^60:=Nat.pow_le_pow_right (by omega) (by omega)
 have hpu:=pow_u (n:=N) (by omega)
 have a1:decide (0≤(N:Int))=true:=decide_eq_true (by omega)
 have:=iter_up (step:=M13.s2) (fun s=>(⟨L,sm N T P C L s,(s:Int),(N:Int),(T:Int),ints P,(C:Int)⟩:M13.p2X)) (2^N) (y:=.inl ⟨L,sm N T P C L (2^N),(N:Int),(T:Int),ints P,(C:Int)⟩) (fun s hs=> ?_) ?_
 ·have e:sm N T P C L 0=false:=sm_no fun⟨_,h,_⟩=>absurd h (Nat.not_lt_zero _)
  rw[e]at this
  exact this
 ·unfold M13.s2
  have b1:decide ((s:Int)<((2^N:Nat):Int))=true:=decide_eq_true (by omega)
  have b2:=exp61 (s:=s) h hs
  have b3:IntKind.u64.wrap ((s:Int)+1)=((s+1:Nat):Int):=by rw[wu64 (by omega) (by omega)];omega
  obtain⟨r,hr,hri⟩:=inside_ins h hL (by omega) s
  simp only[a1,Int.toNat_natCast,hpu,b1,b2,bindO,b3,Gf.nz,cond_true,cond_false]
  cases hsm:sm N T P C L s with
  |true=>
   have e:sm N T P C L (s+1)=true:=by
    obtain⟨s',h1,h2⟩:=sm_iff.1 hsm
    exact sm_iff.2 ⟨s',by omega,h2⟩
   simp only[Bool.not_true,cond_true,cond_false,e]
  |false=>
   have e:sm N T P C L (s+1)=r:=by
    cases r with
    |true=>exact sm_iff.2 ⟨s,by omega,hri.1 rfl⟩
    |false=>
     refine sm_no ?_
     rintro⟨s',h1,h2⟩
     by_cases e:s'=s
     ·subst e
      have:=hri.2 h2
      cases this
     ·rw[sm_iff.2 ⟨s',by omega,h2⟩]at hsm
      cases hsm
   simp only[Bool.not_false,cond_true,cond_false,hr,e]
 ·unfold M13.s2
  have b1:decide (((2^N:Nat):Int)<((2^N:Nat):Int))=false:=decide_eq_false (by omega)
  simp only[a1,Int.toNat_natCast,hpu,b1,cond_true,cond_false]
theorem run13(n t c:Nat)(Q:List Nat)(v:List Int)(hv:∀x∈v,0≤x∧x<256):M13.m ⟨n,t,ints Q,c,v⟩=some true:=by
 unfold M13.m
 by_cases hQ:Q.length≤4∧v.length≤60
 ·have a0:decide ((Q.length:Int)>4)=false:=decide_eq_false (by omega)
  have a1:decide ((v.length:Int)>60)=false:=decide_eq_false (by omega)
  have e6:(n:Int).tmod 6=((n%6:Nat):Int):=rfl
  have h60:=of60 (n%6) t c (Q:=Q) (by omega)
  have hd:=dc_of (n:=n%6) (t:=t) (c:=c) (Q:=Q) (by omega)
  have hc:=Nat.mod_lt c (show 0<13 by omega)
  have hN64:1+n%6%16<60:=by have:=Nat.mod_lt (n%6) (show 0<16 by omega);omega
  have hPl:=cut_length (1+n%6%16) Q
  generalize 1+n%6%16=N at*
  generalize Lt N t=T at*
  generalize cut N Q=P at*
  generalize c%13=C at*
  have hL:=wl_cl hv P C
  have l1:=loop13 (v:=v) (N:=N) (T:=T) (C:=C) (P:=P) (by omega) (by omega)
  have l2:=loop13b hd hL (by omega) hN64
  generalize wl v C P.length=L at*
  simp only[ints_length,a0,a1,cond_false,e6,h60,bindO,l1,l2,sumC]
  rcases enc63 hd hL (by omega) with ⟨h1,h2⟩|⟨s,h1,h2,h3⟩
  ·have e:sm N T P C L (2^N)=false:=sm_no fun⟨s,h3,h4⟩=>h2 s h3 h4
   simp only[h1,e,Bool.not_false,beq_self_eq_true,cond_true,lives59]
  ·have e:sm N T P C L (2^N)=true:=sm_iff.2 ⟨s,h1,h3⟩
   have x1:=exp61 hd h1
   obtain⟨r,hr,hri⟩:=inside_ins hd hL (by omega) s
   have hrt:=hri.2 h3
   subst hrt
   simp only[h2,e,Bool.not_true,beq_self_eq_true,cond_true,cond_false,x1,hr,lives59]
 ·have a0:(bif decide ((Q.length:Int)>4) then true else decide ((v.length:Int)>60))=true:=by
   by_cases h:Q.length≤4
   ·rw[decide_eq_false (by omega),decide_eq_true (by omega)];rfl
   ·rw[decide_eq_true (by omega)];rfl
  simp only[ints_length,a0,cond_true,lives59,bindO]
theorem run13'{n t c:Int}{ph v:List Int}(hn:0≤n∧n<256)(ht:0≤t∧t<18446744073709551616)(hp:∀p∈ph,0≤p∧p<18446744073709551616)(hc:0≤c∧c<256)(hv:∀x∈v,0≤x∧x<256):M13.m ⟨n,t,ph,c,v⟩=some true:=by
 obtain⟨n,rfl⟩:=Int.eq_ofNat_of_zero_le hn.1
 obtain⟨t,rfl⟩:=Int.eq_ofNat_of_zero_le ht.1
 obtain⟨c,rfl⟩:=Int.eq_ofNat_of_zero_le hc.1
 obtain⟨Q,rfl,_⟩:=ints_of hp
 exact run13 n t c Q v hv
end Sf
end Go.Proofs.Ytddaobhpffpmoaa
