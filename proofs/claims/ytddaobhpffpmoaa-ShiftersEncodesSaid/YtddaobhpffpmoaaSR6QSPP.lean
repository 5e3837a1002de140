/-
  Shifters: the law Encodes, whole.
-/
import Derived.Test.YtddaobhpffpmoaaSR6QSe
import Derived.Test.YtddaobhpffpmoaaSR6QSx
set_option linter.all false
namespace Go.Proofs.Ytddaobhpffpmoaa
open Go.Abs Go.RowKit
namespace Sf
open Gf
theorem cubeV_val{care:List Int}{k:Nat}{x:Int}(h:x=0∨x=1):cubeV care k x=0∨cubeV care k x=1∨cubeV care k x=2:=by
 unfold cubeV
 split
 ·rcases h with h|h
  ·exact .inl h
  ·exact .inr (.inl h)
 ·exact .inr (.inr rfl)
theorem cubeV_or(care:List Int)(k:Nat)(x:Int):cubeV care k x=2∨cubeV care k x=x:=by
 unfold cubeV
 split
 ·exact .inr rfl
 ·exact .inl rfl
theorem i01_val(b:Bool):i01 b=0∨i01 b=1:=by cases b<;>simp[i01]
variable {n T:Nat}{P:List Nat}{c:Nat}
theorem ce_cells(s:Nat)(j i:Nat):ce (cellsB n T P c s) j i=0∨ce (cellsB n T P c s) j i=1:=by
 by_cases hj:j<P.length
 ·by_cases hi:i<c
  ·rw[cellsB_at s hj hi];exact i01_val _
  ·refine .inl ?_
   unfold ce
   rw[List.getElem?_eq_none (l:=(cellsB n T P c s)[j]?.getD []) (by
    rw[List.getElem?_eq_getElem (by rw[cellsB_length];exact hj),Option.getD_some,cellsB_row s _ (List.getElem_mem _)];omega)]
   rfl
 ·refine .inl ?_
  unfold ce
  rw[List.getElem?_eq_none (l:=cellsB n T P c s) (i:=j) (by rw[cellsB_length];omega)];rfl
theorem want_cl(care:List Int)(s:Nat):Cl P c (wantL care c (cellsB n T P c s)):=by
 refine⟨by simp[wantL,cellsB_length],fun l hl=> ?_,fun l hl x hx=> ?_⟩
 ·obtain⟨j,_,rfl⟩:=List.mem_map.1 hl
  exact cubeRow_len _ _ _ _ _
 ·obtain⟨j,_,rfl⟩:=List.mem_map.1 hl
  obtain⟨i,_,rfl⟩:=List.mem_map.1 hx
  exact cubeV_val (ce_cells s j i)
theorem want_ins(care:List Int)(s:Nat):Ins n T P c s (wantL care c (cellsB n T P c s)):=fun r hr=>by
 have hc0:0<c:=Nat.pos_of_ne_zero fun e=>by rw[e,Nat.mul_zero]at hr;omega
 have hj:r / c<P.length:=Nat.div_lt_of_lt_mul (by rwa [Nat.mul_comm])
 have hi:=Nat.mod_lt r hc0
 have h1:cv (wantL care c (cellsB n T P c s)) c r=cubeV care ((r / c)*c+r%c) (ce (cellsB n T P c s) (r / c) (r%c)):=by
  unfold cv wantL
  rw[List.getElem?_map,List.getElem?_range (by rw[cellsB_length];exact hj)]
  simp only[Option.map_some,Option.getD_some]
  unfold cubeRow
  rw[List.getElem?_map,List.getElem?_range hi]
  rfl
 rw[h1,←cellsB_at s hj hi]
 exact cubeV_or _ _ _
theorem wantS_cl(care:List Int)(s:Nat){j i:Nat}{y:Int}(hy:y=0∨y=1):Cl P c (wantS care c (cellsB n T P c s) j i y):=by
 have h:=want_cl (n:=n) (T:=T) (P:=P) (c:=c) care s
 refine⟨by simp[wantS,cellsB_length],fun l hl=> ?_,fun l hl x hx=> ?_⟩
 ·obtain⟨q,_,rfl⟩:=List.mem_map.1 hl
  split
  ·rw[List.length_set];exact cubeRow_len _ _ _ _ _
  ·exact cubeRow_len _ _ _ _ _
 ·obtain⟨q,hq,rfl⟩:=List.mem_map.1 hl
  split at hx
  ·rename_i e
   subst e
   rcases List.mem_or_eq_of_mem_set hx with hx|rfl
   ·exact h.val _ (List.mem_map.2 ⟨q,hq,rfl⟩) x hx
   ·rcases hy with h|h
    ·exact .inl h
    ·exact .inr (.inl h)
  ·exact h.val _ (List.mem_map.2 ⟨q,hq,rfl⟩) x hx
theorem encOk(n t c seed:Nat){Q:List Nat}(care:List Int)(hQ:Q.length≤8):
  ∃(s:Int) (got:List (List Int)),EncOk n t c ((seed%2^(1+n%16):Nat):Int) (ints Q) care (1+n%16) ((Lt (1+n%16) t:Nat):Int) (ints (cut (1+n%16) Q)) (c%13)
   (cellsB (1+n%16) (Lt (1+n%16) t) (cut (1+n%16) Q) (c%13) (seed%2^(1+n%16))) s got:=by
 have hd:=dc_of (n:=n) (t:=t) (c:=c) (Q:=Q) (by omega)
 have h60:=of60 n t c (Q:=Q) (by omega)
 have hlt:=Nat.mod_lt n (show 0<16 by omega)
 have hc13:=Nat.mod_lt c (show 0<13 by omega)
 have hcl:=cut_length (1+n%16) Q
 generalize hN:1+n%16=N at*
 generalize Lt N t=T at*
 generalize cut N Q=P at*
 generalize c%13=C at*
 have hs:=Nat.mod_lt seed (Nat.two_pow_pos N)
 generalize seed%2^N=s0 at*
 have hw:=want_cl (n:=N) (T:=T) (P:=P) (c:=C) care s0
 rcases enc63 hd hw (by omega) with ⟨_,h2⟩|⟨s,hs2,h1,h2⟩
 ·exact absurd (want_ins care s0) (h2 s0 hs)
 obtain⟨r,hr1,hr2⟩:=inside_ins hd hw (by omega) s
 have hr:r=true:=hr2.2 h2
 subst hr
 refine⟨(s:Int),cellsB N T P C s,h60,by omega,exp61 hd hs,cellsB_row s0,by rw[cellsB_length];omega,by omega,h1,exp61 hd hs2,hr1,fun j i x hj hx hx2=> ?_⟩
 have hx01:x=0∨x=1:=by
  have hm:cubeRow care C (cellsB N T P C s0) j C∈wantL care C (cellsB N T P C s0):=List.mem_map.2 ⟨j,List.mem_range.2 hj,rfl⟩
  rcases hw.val _ hm x (List.mem_of_getElem? hx) with h|h|h
  ·exact .inl h
  ·exact .inr h
  ·exact absurd h hx2
 refine⟨hx01,?_⟩
 have hy:(1 - x)=0∨(1 - x)=1:=by omega
 have hws:=wantS_cl (n:=N) (T:=T) (P:=P) (c:=C) care s0 (j:=j) (i:=i) hy
 rcases enc63 hd hws (by omega) with ⟨g1,_⟩|⟨s',hs',g1,g2⟩
 ·exact⟨0,9,_,0,g1,exp61 (s:=0) hd (Nat.two_pow_pos N),.inl ⟨rfl,rfl⟩⟩
 ·obtain⟨r',e1,e2⟩:=inside_ins hd hws (by omega) s'
  have hr':r'=true:=e2.2 g2
  subst hr'
  exact⟨(s':Int),0,_,0,g1,exp61 hd hs',.inr ⟨rfl,e1⟩⟩
theorem callable12:callable Try.prog 12:=⟨Try.f12,Try.func12,by kernel_rfl,by kernel_rfl⟩
theorem run12{n t c seed:Int}{ph care:List Int}(hn:0≤n∧n<256)(ht:0≤t∧t<18446744073709551616)(hp:∀p∈ph,0≤p∧p<18446744073709551616)(hc:0≤c∧c<256)(hs:0≤seed∧seed<18446744073709551616):
  FnOk Try.prog 12 [.agg [.t (.int .u8 n),.t (.int .u64 t),.t (phT ph),.t (.int .u8 c)],.c (.t (.int .u64 seed)),.c (.t (.imm (care.flatMap (Ly.int .u8).trees) care.length none))] [] fun v τ=>v=.c (.t (.bool true))∧τ=[]:=by
 obtain⟨n,rfl⟩:=Int.eq_ofNat_of_zero_le hn.1
 obtain⟨t,rfl⟩:=Int.eq_ofNat_of_zero_le ht.1
 obtain⟨c,rfl⟩:=Int.eq_ofNat_of_zero_le hc.1
 obtain⟨seed,rfl⟩:=Int.eq_ofNat_of_zero_le hs.1
 obtain⟨Q,rfl,_⟩:=ints_of hp
 refine M61.fn_belW callable12 fun ι w cargs hH ha=> ?_
 obtain⟨hsz,ha⟩:=ha
 obtain⟨u0,e0,h0⟩:=ha 0 (by simp)
 obtain⟨us,es,hs0⟩:=ha 1 (by simp)
 obtain⟨uc,ec,hc0⟩:=ha 2 (by simp)
 have hs0:TR ι.un w (.int .u64 seed) us:=hs0
 have hc0:TR ι.un w (.imm (care.flatMap (Ly.int .u8).trees) care.length none) uc:=hc0
 cases hs0
 obtain⟨arr,rfl,h1,h2⟩:=h0
 obtain⟨u1,e1,g1⟩:=h2 0 (by simp)
 obtain⟨u2,e2,g2⟩:=h2 1 (by simp)
 obtain⟨u3,e3,g3⟩:=h2 2 (by simp)
 obtain⟨u4,e4,g4⟩:=h2 3 (by simp)
 have g1:TR ι.un w (.int .u8 n) u1:=g1
 have g2:TR ι.un w (.int .u64 t) u2:=g2
 have g3:TR ι.un w (phT (ints Q)) u3:=g3
 have g4:TR ι.un w (.int .u8 c) u4:=g4
 cases g1;cases g2;cases g4
 obtain⟨a,k,rfl,_⟩:=M61.u64_tree g3
 obtain⟨ac,kc,rfl,_⟩:=bytes_read hc0
 have ea:arr= #[.int .u8 n,.int .u64 t,.slice a (ints Q).length k,.int .u8 c]:=by
  refine Array.ext (by simpa using h1) fun i hi _=> ?_
  have hi:i<4:=by simpa [h1] using hi
  match i,hi with
  |0,_=>exact(Array.getElem?_eq_some_iff.1 e1).2
  |1,_=>exact(Array.getElem?_eq_some_iff.1 e2).2
  |2,_=>exact(Array.getElem?_eq_some_iff.1 e3).2
  |3,_=>exact(Array.getElem?_eq_some_iff.1 e4).2
 have ec:cargs= #[.agg #[.int .u8 n,.int .u64 t,.slice a (ints Q).length k,.int .u8 c],.int .u64 seed,.slice ac care.length kc]:=by
  refine Array.ext (by simpa using hsz) fun i hi _=> ?_
  have hi:i<3:=by simpa [hsz] using hi
  match i,hi with
  |0,_=>rw[(Array.getElem?_eq_some_iff.1 e0).2,ea];rfl
  |1,_=>exact(Array.getElem?_eq_some_iff.1 es).2
  |2,_=>exact(Array.getElem?_eq_some_iff.1 ec).2
 subst ec
 have key:∃(s:Int) (got:List (List Int)),(ints Q).length≤8→care.length≤20→EncOk n t c ((seed%2^(1+n%16):Nat):Int) (ints Q) care (1+n%16) ((Lt (1+n%16) t:Nat):Int) (ints (cut (1+n%16) Q)) (c%13)
   (cellsB (1+n%16) (Lt (1+n%16) t) (cut (1+n%16) Q) (c%13) (seed%2^(1+n%16))) s got:=by
  by_cases h8:Q.length≤8
  ·obtain⟨s,got,h⟩:=encOk n t c seed care h8
   exact⟨s,got,fun _ _=>h⟩
  ·exact⟨0,[],fun h=>absurd (by rwa [ints_length]at h) h8⟩
 obtain⟨s,got,hok⟩:=key
 refine(enc_law w n t c seed _ (ints Q) care a k ac kc (tr_below g3) (tr_below hc0) lives59 _ _ _ _ _ s got (fun _ _=> ?_) hok).mono fun e w' h=> ?_
 ·have e:((2:Int)^(1+n%16))=((2^(1+n%16):Nat):Int):=by simp
  rw[e,tmod_nat]
 ·obtain⟨h1,h2⟩:=h.ex
  exact⟨⟨_,h1,TR.bool _⟩,h2⟩
end Sf
end Go.Proofs.Ytddaobhpffpmoaa
