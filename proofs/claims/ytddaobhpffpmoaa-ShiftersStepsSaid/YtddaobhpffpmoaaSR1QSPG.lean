/-
  Shifters: the law Steps.
-/
import Derived.Test.YtddaobhpffpmoaaSR1QSq
import Derived.Test.YtddaobhpffpmoaaSR1QGS9
set_option linter.all false
namespace Go.Proofs.Ytddaobhpffpmoaa
open Go.Abs
namespace Sf
open Gf
theorem bz_inj{x y:Nat}(h:bz x=bz y):x=y:=Nat.eq_of_testBit_eq fun i=>congrFun h i
theorem nx_xor{n T:Nat}(hn:n≤64)(a b:Nat):nx n T (a^^^b)=nx n T a^^^nx n T b:=by
 apply bz_inj
 rw[bz_nx hn,bz_xor,sb_xr,bz_xor,bz_nx hn,bz_nx hn]
theorem tmod_nat(a b:Nat):(a:Int).tmod (b:Int)=((a%b:Nat):Int):=rfl
theorem run16(n t sa sb ka kb:Nat)(ht:t<2^64)(hka:ka<2^64)(hkb:kb<2^64):M16.m ⟨n,t,sa,sb,ka,kb⟩=some true:=by
 have hN:1≤1+n%16∧1+n%16≤64:=by have:=Nat.mod_lt n (show 0<16 by omega);omega
 have hv:=Lt_vd (t:=t) hN
 have h54:=of54 n t
 generalize hNe:1+n%16=N at*
 generalize Lt N t=T at*
 have hpos:=Nat.two_pow_pos N
 have hN64:N<64:=by have:=Nat.mod_lt n (show 0<16 by omega);omega
 have hp:=pow_u hN64
 have ha:sa%2^N<2^N:=Nat.mod_lt _ hpos
 have hb:sb%2^N<2^N:=Nat.mod_lt _ hpos
 have hab:sa%2^N^^^sb%2^N<2^N:=Nat.xor_lt_two_pow ha hb
 have h2:=pow_le hN.2
 have a1:decide (0≤(N:Int))=true:=decide_eq_true (by omega)
 have e1:=step58 hv ha
 have e2:=step58 hv hb
 have e3:=step58 hv hab
 have x1:=xor_run (Nat.lt_of_lt_of_le ha h2) (Nat.lt_of_lt_of_le hb h2)
 have m1:=matrix70 hv
 have b1:=bits66 hN.2 ha
 have hna:=nx_lt (T:=T) (s:=sa%2^N) hN.2
 have hnb:=nx_lt (T:=T) (s:=sb%2^N) hN.2
 have b2:=bits66 hN.2 hna
 have ap:M29.m ⟨(N:Int),mr N (Mx N (bz T)),(N:Int),vw N (bz (sa%2^N))⟩=some ((N:Int),vw N (bz (nx N T (sa%2^N))),0):=by
  have:=apply (c:=N) (R:=Mx N (bz T)) (v:=bz (sa%2^N)) (by omega) (by rw[Mx_length];omega) (Mx_sup _ _) (tb_sup ha)
  rw[Mx_length,Mx_app hN.2 (tb_sup ha),←bz_nx hN.2]at this
  exact this
 have n1:=next57 (n:=N) (T:=T) (s:=sa%2^N) hN hv.T64 (Nat.lt_of_lt_of_le ha h2)
 have x2:=xor_run (Nat.lt_of_lt_of_le hna h2) (Nat.lt_of_lt_of_le hnb h2)
 have tx:=text (n:=N) (b:=bz (nx N T (sa%2^N))) (by omega) (tb_sup hna)
 have l1:((mr N (Mx N (bz T))).length:Int)=(N:Int):=by rw[mr_length,Mx_length]
 have k0:IntKind.i64.wrap ((ka:Int).tmod 200)=((ka%200:Nat):Int):=by
  have e:(ka:Int).tmod 200=((ka%200:Nat):Int):=rfl
  have:=Nat.mod_lt ka (show 0<200 by omega)
  rw[e,w64 (by omega) (by omega)]
 have k1:IntKind.u64.wrap ((ka%200:Nat):Int)=((ka%200:Nat):Int):=by
  have:=Nat.mod_lt ka (show 0<200 by omega)
  exact wu64 (by omega) (by omega)
 have k2:IntKind.u64.wrap ((ka:Int).tdiv 2)=((ka / 2:Nat):Int):=by
  have e:(ka:Int).tdiv 2=((ka / 2:Nat):Int):=rfl
  rw[e,wu64 (by omega) (by omega)]
 have k3:IntKind.u64.wrap ((kb:Int).tdiv 2)=((kb / 2:Nat):Int):=by
  have e:(kb:Int).tdiv 2=((kb / 2:Nat):Int):=rfl
  rw[e,wu64 (by omega) (by omega)]
 have k4:IntKind.u64.wrap (((ka / 2:Nat):Int)+((kb / 2:Nat):Int))=((ka / 2+kb / 2:Nat):Int):=by
  rw[wu64 (by omega) (by omega)];omega
 have hk:=Nat.mod_lt ka (show 0<200 by omega)
 have j1:=jump69 (k:=ka%200) hv ha (by omega)
 have j2:=jump69 (k:=ka / 2) hv ha (by omega)
 have j3:=jump69 (k:=kb / 2) hv (nk_lt (T:=T) (k:=ka / 2) hN.2 ha) (by omega)
 have j4:=jump69 (k:=ka / 2+kb / 2) hv ha (by omega)
 have af:=after56 (k:=ka%200) hN hv.T64 ha (by omega)
 rw[nk_add]at j3
 unfold M16.m
 simp only[h54,bindO,a1,Int.toNat_natCast,hp,nz_pow,cond_true,tmod_nat,e1,e2,x1,e3,m1,b1,ap,n1,b2,tx,nx_xor hN.2,x2,l1,k0,k1,k2,k3,k4,j1,j2,j3,j4,af,lives59,Gf.nz,neq_self,cond_false,Bool.not_false,beq_self_eq_true,Bool.not_true]
theorem run16'{n t sa sb ka kb:Int}(hn:0≤n∧n<256)(ht:0≤t∧t<18446744073709551616)(ha:0≤sa∧sa<18446744073709551616)(hb:0≤sb∧sb<18446744073709551616)(hka:0≤ka∧ka<18446744073709551616)(hkb:0≤kb∧kb<18446744073709551616):M16.m ⟨n,t,sa,sb,ka,kb⟩=some true:=by
 obtain⟨n,rfl⟩:=Int.eq_ofNat_of_zero_le hn.1
 obtain⟨t,rfl⟩:=Int.eq_ofNat_of_zero_le ht.1
 obtain⟨sa,rfl⟩:=Int.eq_ofNat_of_zero_le ha.1
 obtain⟨sb,rfl⟩:=Int.eq_ofNat_of_zero_le hb.1
 obtain⟨ka,rfl⟩:=Int.eq_ofNat_of_zero_le hka.1
 obtain⟨kb,rfl⟩:=Int.eq_ofNat_of_zero_le hkb.1
 exact run16 n t sa sb ka kb (by omega) (by omega) (by omega)
end Sf
end Go.Proofs.Ytddaobhpffpmoaa
