/-
  What the proof stands on.
-/
import Derived.Test.YtddaobhpffpmoaaSR6QSq
import Derived.Test.YtddaobhpffpmoaaSR6QGv
set_option linter.all false
namespace Go.Proofs.Ytddaobhpffpmoaa
open Go.Abs
namespace Sf
open Gf
theorem tmod_nat(a b:Nat):(a:Int).tmod (b:Int)=((a%b:Nat):Int):=rfl
end Sf
end Go.Proofs.Ytddaobhpffpmoaa
namespace Go.Proofs.Ytddaobhpffpmoaa
open Go.Abs
namespace Sf
open Gf
theorem take_one{α:Type}{l:List α}{i:Nat}(h:i<l.length):l.take (i+1)=l.take i++[l[i]]:=by
 rw[List.take_add_one,List.getElem?_eq_getElem h];rfl
def cut(N:Nat)(Q:List Nat):List Nat:=Q.map fun p=>p%2^N
theorem of60(n t c:Nat){Q:List Nat}(hQ:Q.length≤1000000):
  M60.m ⟨n,t,ints Q,c⟩=some (((1+n%16:Nat):Int),((Lt (1+n%16) t:Nat):Int),ints (cut (1+n%16) Q),((c%13:Nat):Int)):=by
 have hlt:=Nat.mod_lt n (show 0<16 by omega)
 unfold M60.m
 simp only[of54 n t,bindO]
 generalize hN:1+n%16=N at*
 have e1:(c:Int).tmod 13=((c%13:Nat):Int):=rfl
 have hc:=Nat.mod_lt c (show 0<13 by omega)
 have e2:IntKind.i64.wrap ((c%13:Nat):Int)=((c%13:Nat):Int):=w64 (by omega) (by omega)
 have hpu:=pow_u (n:=N) (by omega)
 have hi:iter M60.s0 ⟨((0:Nat):Int),n,t,ints Q,c,(N:Int),(Lt N t:Int),(N:Int),(Lt N t:Int),0,0,((c%13:Nat):Int),ints (cut N (Q.take 0))⟩=some ⟨n,t,ints Q,c,(N:Int),(Lt N t:Int),(N:Int),(Lt N t:Int),ints (cut N Q),((c%13:Nat):Int)⟩:=by
  refine iter_up (fun i=>(⟨(i:Int),n,t,ints Q,c,(N:Int),(Lt N t:Int),(N:Int),(Lt N t:Int),0,i,((c%13:Nat):Int),ints (cut N (Q.take i))⟩:M60.p0X)) Q.length (fun i hi=> ?_) ?_
  ·unfold M60.s0
   have b1:decide ((i:Int)<((ints Q).length:Int))=true:=decide_eq_true (by rw[ints_length];omega)
   have b2:inR (i:Int) (ints Q).length=true:=inR_nat (by rw[ints_length];exact hi)
   have b3:decide (0≤(N:Int))=true:=decide_eq_true (by omega)
   have b4:IntKind.i64.wrap ((i:Int)+1)=((i+1:Nat):Int):=suc (by omega)
   have b5:eqN (ints (cut N (Q.take i))).length i=true:=by simp[eqN,ints_length,cut];omega
   have b6:roomB (i+1) 8=true:=room (by omega)
   have b7:eqN 0 0=true:=rfl
   have b8:ints (cut N (Q.take (i+1)))=ints (cut N (Q.take i))++[((Q[i]%2^N:Nat):Int)]:=by unfold ints cut;rw[take_one hi,List.map_append,List.map_append];rfl
   simp only[b1,b2,b3,b4,b5,b6,b7,b8,Int.toNat_natCast,ints_get Q hi,hpu,nz_pow,tmod_nat,cond_true,Bool.and_self]
  ·unfold M60.s0
   have b1:decide ((Q.length:Int)<((ints Q).length:Int))=false:=decide_eq_false (by rw[ints_length];omega)
   have b2:leB (0+Q.length) (ints (cut N (Q.take Q.length))).length=true:=by simp[leB,ints_length,cut]
   have b3:List.take Q.length (List.drop 0 (ints (cut N (Q.take Q.length))))=ints (cut N Q):=by
    rw[List.drop_zero,List.take_of_length_le (by simp[ints_length,cut]),List.take_length]
   simp only[b1,b2,b3,cond_false,cond_true,Bool.and_self]
 rw[e1,e2]
 have hi:iter M60.s0 ⟨0,n,t,ints Q,c,(N:Int),(Lt N t:Int),(N:Int),(Lt N t:Int),0,0,((c%13:Nat):Int),[]⟩=some ⟨n,t,ints Q,c,(N:Int),(Lt N t:Int),(N:Int),(Lt N t:Int),ints (cut N Q),((c%13:Nat):Int)⟩:=hi
 simp only[hi]
theorem cut_length(N:Nat)(Q:List Nat):(cut N Q).length=Q.length:=by simp[cut]
theorem dc_of{n t c:Nat}{Q:List Nat}(hQ:Q.length≤64):Dc (1+n%16) (Lt (1+n%16) t) (cut (1+n%16) Q) (c%13):=by
 have hlt:=Nat.mod_lt n (show 0<16 by omega)
 have hc:=Nat.mod_lt c (show 0<13 by omega)
 refine⟨Lt_vd ⟨by omega,by omega⟩,fun p hp=> ?_,by rw[cut_length];exact hQ,fun hne=> ?_,by omega⟩
 ·obtain⟨q,_,rfl⟩:=List.mem_map.1 hp
  exact Nat.mod_lt _ (Nat.two_pow_pos _)
 ·rw[cut_length]
  have hpos:0<Q.length:=by
   have:=List.length_pos_iff.2 hne
   rwa [cut_length]at this
  have:4096 / 64≤4096 / Q.length:=Nat.div_le_div_left hQ hpos
  omega
theorem ints_of{l:List Int}(h:∀p∈l,0≤p∧p<18446744073709551616):∃Q:List Nat,l=ints Q∧∀p∈Q,p<2^64:=by
 refine⟨l.map Int.toNat,?_,fun p hp=> ?_⟩
 ·unfold ints
  rw[List.map_map]
  have:∀x∈l,((fun(x:Nat)=>(x:Int))∘Int.toNat) x=x:=fun x hx=>by have:=h x hx;show((x.toNat:Nat):Int)=x;omega
  rw[List.map_congr_left this,List.map_id']
 ·obtain⟨x,hx,rfl⟩:=List.mem_map.1 hp
  have:=h x hx
  omega
end Sf
end Go.Proofs.Ytddaobhpffpmoaa
