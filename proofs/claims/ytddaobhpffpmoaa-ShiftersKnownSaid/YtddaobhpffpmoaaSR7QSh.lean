/- A part of the proof. -/
import Derived.Test.YtddaobhpffpmoaaSR7QSe
import Derived.Test.YtddaobhpffpmoaaSR7QSx
import Derived.Test.YtddaobhpffpmoaaSR7QSyL
import Derived.Test.YtddaobhpffpmoaaSR7QSz
import Derived.Maps.AppendAt
set_option linter.all false
set_option maxRecDepth 100000
set_option maxHeartbeats 4000000
namespace Go.Proofs.Ytddaobhpffpmoaa
section
open Go.Abs Go.RowKit
namespace Sf
open Gf
theorem cubeV_val{care:List Int}{k:Nat}{x:Int}(h:x=0\/x=1):cubeV care k x=0\/cubeV care k x=1\/cubeV care k x=2:=by
 unfold cubeV;split
 ·rcases h with h|h
  ·exact .inl h
  ·exact .inr (.inl h)
 ·exact .inr (.inr rfl)
theorem cubeV_or(care:List Int)(k:Nat)(x:Int):cubeV care k x=2\/cubeV care k x=x:=by
 unfold cubeV;split
 ·exact .inr rfl
 ·exact .inl rfl
theorem i01_val(b:Bool):i01 b=0\/i01 b=1:=by cases b<;>simp[i01]
variable {n T:Nat}{P:List Nat}{c:Nat}
theorem ce_cells(s:Nat)(j i:Nat):ce (cellsB n T P c s) j i=0\/ce (cellsB n T P c s) j i=1:=by
 by_cases hj:j<P.length
 ·by_cases hi:i<c
  ·rw[cellsB_at s hj hi];exact i01_val _
  ·refine .inl ?_;unfold ce;rw[Ad (l:=(cellsB n T P c s)[j]?.getD []) (by
    rw[A3 (by rw[cellsB_length];exact hj),Al,cellsB_row s _ (AJ _)];omega)]
   rfl
 ·refine .inl ?_;unfold ce;rw[Ad (l:=cellsB n T P c s) (i:=j) (by rw[cellsB_length];omega)];rfl
theorem want_cl(care:List Int)(s:Nat):Cl P c (wantL care c (cellsB n T P c s)):=by
 refine⟨by simp[wantL,cellsB_length],λl hl=> ?_,λl hl x hx=> ?_⟩
 ·obtain⟨j,_,rfl⟩:=Am.1 hl;exact cubeRow_len _ _ _ _ _
 ·obtain⟨j,_,rfl⟩:=Am.1 hl;obtain⟨i,_,rfl⟩:=Am.1 hx;exact cubeV_val (ce_cells s j i)
theorem want_ins(care:List Int)(s:Nat):Ins n T P c s (wantL care c (cellsB n T P c s)):=λr hr=>by
 have hc0:0<c:=Nat.pos_of_ne_zero λe=>by rw[e,Nat.mul_zero]at hr;omega
 have hj:r / c<P.length:=CV (by rwa [CI]);have hi:=Aq r hc0;have h1:cv (wantL care c (cellsB n T P c s)) c r=cubeV care ((r / c)*c+r%c) (ce (cellsB n T P c s) (r / c) (r%c)):=by unfold cv wantL;rw[AX,Be (by rw[cellsB_length];exact hj)];simp only[AD,Al];unfold cubeRow;rw[AX,Be hi];rfl
 rw[h1,<-cellsB_at s hj hi];exact cubeV_or _ _ _
theorem wantS_cl(care:List Int)(s:Nat){j i:Nat}{y:Int}(hy:y=0\/y=1):Cl P c (wantS care c (cellsB n T P c s) j i y):=by
 have h:=want_cl (n:=n) (T:=T) (P:=P) (c:=c) care s;refine⟨by simp[wantS,cellsB_length],λl hl=> ?_,λl hl x hx=> ?_⟩
 ·obtain⟨q,_,rfl⟩:=Am.1 hl;split
  ·rw[BI];exact cubeRow_len _ _ _ _ _
  ·exact cubeRow_len _ _ _ _ _
 ·obtain⟨q,hq,rfl⟩:=Am.1 hl;split at hx
  ·rename_i e;subst e;rcases List.mem_or_eq_of_mem_set hx with hx|rfl
   ·exact h.val _ (Am.2 ⟨q,hq,rfl⟩) x hx
   ·rcases hy with h|h
    ·exact .inl h
    ·exact .inr (.inl h)
  ·exact h.val _ (Am.2 ⟨q,hq,rfl⟩) x hx
theorem encOk(n t c seed:Nat){Q:List Nat}(care:List Int)(hQ:Q.length<=8):
  ∃(s:Int) (got:List (List Int)),EncOk n t c ((seed%2^(1+n%16):Nat):Int) (ints Q) care (1+n%16) ((Lt (1+n%16) t:Nat):Int) (ints (cut (1+n%16) Q)) (c%13)
   (cellsB (1+n%16) (Lt (1+n%16) t) (cut (1+n%16) Q) (c%13) (seed%2^(1+n%16))) s got:=by
 have hd:=dc_of (n:=n) (t:=t) (c:=c) (Q:=Q) (by omega);have h60:=of60 n t c (Q:=Q) (by omega);have hlt:=Aq n (show 0<16 by omega);have hc13:=Aq c (show 0<13 by omega);have hcl:=cut_length (1+n%16) Q;generalize hN:1+n%16=N at*
 generalize Lt N t=T at*
 generalize cut N Q=P at*
 generalize c%13=C at*
 have hs:=Aq seed (BG N);generalize seed%2^N=s0 at*
 have hw:=want_cl (n:=N) (T:=T) (P:=P) (c:=C) care s0;rcases enc63 hd hw (by omega) with ⟨_,h2⟩|⟨s,hs2,h1,h2⟩
 ·exact absurd (want_ins care s0) (h2 s0 hs)
 obtain⟨r,hr1,hr2⟩:=inside_ins hd hw (by omega) s;have hr:r=true:=hr2.2 h2;subst hr;refine⟨(s:Int),cellsB N T P C s,h60,by omega,exp61 hd hs,cellsB_row s0,by rw[cellsB_length];omega,by omega,h1,exp61 hd hs2,hr1,λj i x hj hx hx2=> ?_⟩;have hx01:x=0\/x=1:=by
  have hm:cubeRow care C (cellsB N T P C s0) j C∈wantL care C (cellsB N T P C s0):=Am.2 ⟨j,BK.2 hj,rfl⟩;rcases hw.val _ hm x (BW hx) with h|h|h
  ·exact .inl h
  ·exact .inr h
  ·exact absurd h hx2
 refine⟨hx01,?_⟩;have hy:(1 - x)=0\/(1 - x)=1:=by omega
 have hws:=wantS_cl (n:=N) (T:=T) (P:=P) (c:=C) care s0 (j:=j) (i:=i) hy;rcases enc63 hd hws (by omega) with ⟨g1,_⟩|⟨s',hs',g1,g2⟩
 ·exact⟨0,9,_,0,g1,exp61 (s:=0) hd (BG N),.inl ⟨rfl,rfl⟩⟩
 ·obtain⟨r',e1,e2⟩:=inside_ins hd hws (by omega) s';have hr':r'=true:=e2.2 g2;subst hr';exact⟨(s':Int),0,_,0,g1,exp61 hd hs',.inr ⟨rfl,e1⟩⟩
theorem callable12:Jq Try.prog 12:=⟨Try.f12,Try.func12,by kernel_rfl,by kernel_rfl⟩
theorem run12{n t c seed:Int}{ph care:List Int}(hn:0<=n/\n<256)(ht:0<=t/\t<18446744073709551616)(hp:∀p∈ph,0<=p/\p<18446744073709551616)(hc:0<=c/\c<256)(hs:0<=seed/\seed<18446744073709551616):
  Qo Try.prog 12 [.agg [.t (.int .u8 n),.t (.int .u64 t),.t (phT ph),.t (.int .u8 c)],.c (.t (.int .u64 seed)),.c (.t (.imm (care.flatMap (Ly.int .u8).trees) care.length none))] [] λv τ=>v=.c (.t (.bool true))/\τ=[]:=by
 obtain⟨n,rfl⟩:=AH hn.1;obtain⟨t,rfl⟩:=AH ht.1;obtain⟨c,rfl⟩:=AH hc.1;obtain⟨seed,rfl⟩:=AH hs.1;obtain⟨Q,rfl,_⟩:=ints_of hp;refine M61.fn_belW callable12 fun ι w cargs hH ha=> ?_;obtain⟨hsz,ha⟩:=ha;obtain⟨u0,e0,h0⟩:=ha 0 (by simp);obtain⟨us,es,hs0⟩:=ha 1 (by simp);obtain⟨uc,ec,hc0⟩:=ha 2 (by simp);have hs0:TR ι.un w (.int .u64 seed) us:=hs0;have hc0:TR ι.un w (.imm (care.flatMap (Ly.int .u8).trees) care.length none) uc:=hc0;cases hs0;obtain⟨arr,rfl,h1,h2⟩:=h0;obtain⟨u1,e1,g1⟩:=h2 0 (by simp);obtain⟨u2,e2,g2⟩:=h2 1 (by simp);obtain⟨u3,e3,g3⟩:=h2 2 (by simp);obtain⟨u4,e4,g4⟩:=h2 3 (by simp);have g1:TR ι.un w (.int .u8 n) u1:=g1;have g2:TR ι.un w (.int .u64 t) u2:=g2;have g3:TR ι.un w (phT (ints Q)) u3:=g3;have g4:TR ι.un w (.int .u8 c) u4:=g4;cases g1;cases g2;cases g4;obtain⟨a,k,rfl,_⟩:=M61.u64_tree g3;obtain⟨ac,kc,rfl,_⟩:=bytes_read hc0;have ea:arr= #[.int .u8 n,.int .u64 t,.slice a (ints Q).length k,.int .u8 c]:=by
  refine Bt (by simpa using h1) λi hi _=> ?_;have hi:i<4:=by simpa [h1] using hi
  match i,hi with
  |0,_=>exact(WF.1 e1).2
  |1,_=>exact(WF.1 e2).2
  |2,_=>exact(WF.1 e3).2
  |3,_=>exact(WF.1 e4).2
 have ec:cargs= #[.agg #[.int .u8 n,.int .u64 t,.slice a (ints Q).length k,.int .u8 c],.int .u64 seed,.slice ac care.length kc]:=by
  refine Bt (by simpa using hsz) λi hi _=> ?_;have hi:i<3:=by simpa [hsz] using hi
  match i,hi with
  |0,_=>rw[(WF.1 e0).2,ea];rfl
  |1,_=>exact(WF.1 es).2
  |2,_=>exact(WF.1 ec).2
 subst ec;have key:∃(s:Int) (got:List (List Int)),(ints Q).length<=8->care.length<=20->EncOk n t c ((seed%2^(1+n%16):Nat):Int) (ints Q) care (1+n%16) ((Lt (1+n%16) t:Nat):Int) (ints (cut (1+n%16) Q)) (c%13)
   (cellsB (1+n%16) (Lt (1+n%16) t) (cut (1+n%16) Q) (c%13) (seed%2^(1+n%16))) s got:=by
  by_cases h8:Q.length<=8
  ·obtain⟨s,got,h⟩:=encOk n t c seed care h8;exact⟨s,got,λ_ _=>h⟩
  ·exact⟨0,[],λh=>absurd (by rwa [Q4]at h) h8⟩
 obtain⟨s,got,hok⟩:=key;refine(enc_law w n t c seed _ (ints Q) care a k ac kc (tr_below g3) (tr_below hc0) lives59 _ _ _ _ _ s got (λ_ _=> ?_) hok).mono λe w' h=> ?_
 ·have e:((2:Int)^(1+n%16))=((2^(1+n%16):Nat):Int):=(by simp);rw[e,tmod_nat]
 ·obtain⟨h1,h2⟩:=h.ex;exact⟨⟨_,h1,TR.bool _⟩,h2⟩
end Sf
end
section
open Go.Abs Go.RowKit
theorem law_calls{f:FuncId}{args:List AV}{W:World}{cargs:Array Value}(hk:Qo Try.prog f args [] λv τ=>v=.c (.t (.bool true))/\τ=[])(ha:Ji Qf W args cargs):Calls Try.prog f cargs W (IsB true W):=by refine(calls_tree hk ha).mono λe w' ⟨⟨I',cv,he,hv⟩,hb⟩=> ?_;have hv:TR I'.un w' (.bool true) cv:=hv;cases hv;exact⟨⟨he,hb⟩⟩
theorem agg2{W:World}{a b:T}{x y:Value}(h1:TR Qf.un W a x)(h2:TR Qf.un W b y):VR Qf W (.agg [.t a,.t b]) (.agg #[x,y]):=
 ⟨_,rfl,rfl,λi hi=>by
  match i,hi with
  |0,_=>exact⟨_,rfl,h1⟩
  |1,_=>exact⟨_,rfl,h2⟩⟩
theorem agg4{W:World}{a b c d:T}{x y z u:Value}(h1:TR Qf.un W a x)(h2:TR Qf.un W b y)(h3:TR Qf.un W c z)(h4:TR Qf.un W d u):VR Qf W (.agg [.t a,.t b,.t c,.t d]) (.agg #[x,y,z,u]):=
 ⟨_,rfl,rfl,λi hi=>by
  match i,hi with
  |0,_=>exact⟨_,rfl,h1⟩
  |1,_=>exact⟨_,rfl,h2⟩
  |2,_=>exact⟨_,rfl,h3⟩
  |3,_=>exact⟨_,rfl,h4⟩⟩
theorem agg6{W:World}{a b c d e f:T}{x y z u v q:Value}(h1:TR Qf.un W a x)(h2:TR Qf.un W b y)(h3:TR Qf.un W c z)(h4:TR Qf.un W d u)(h5:TR Qf.un W e v)(h6:TR Qf.un W f q):
  VR Qf W (.agg [.t a,.t b,.t c,.t d,.t e,.t f]) (.agg #[x,y,z,u,v,q]):=
 ⟨_,rfl,rfl,λi hi=>by
  match i,hi with
  |0,_=>exact⟨_,rfl,h1⟩
  |1,_=>exact⟨_,rfl,h2⟩
  |2,_=>exact⟨_,rfl,h3⟩
  |3,_=>exact⟨_,rfl,h4⟩
  |4,_=>exact⟨_,rfl,h5⟩
  |5,_=>exact⟨_,rfl,h6⟩⟩
abbrev R8(x:Int):Prop:=0<=x/\x<256
abbrev R16(x:Int):Prop:=0<=x/\x<65536
abbrev R64(x:Int):Prop:=0<=x/\x<18446744073709551616
abbrev I64(x:Int):Prop:= -9223372036854775808<=x/\x<=9223372036854775807
section
variable {W:World}{U:Nat->Prop}{n t c a b k d l:Int}{ph v:List Int}{q:Option Addr}{kq:Nat}
theorem c16(h1:R8 n)(h2:R64 t)(h3:R64 a)(h4:R64 b)(h5:R64 c)(h6:R64 d):Calls Try.prog 16 #[.agg #[.int .u8 n,.int .u64 t],.agg #[.int .u64 a,.int .u64 b],.agg #[.int .u64 c,.int .u64 d]] W (IsB true W):=
 law_calls (M16.known.ok ⟨n,t,a,b,c,d⟩ true (Sf.run16' h1 h2 h3 h4 h5 h6)) (qH (agg2 (TR.int _ _) (TR.int _ _)) (agg2 (TR.int _ _) (TR.int _ _)) (agg2 (TR.int _ _) (TR.int _ _)))
theorem c11(h1:R8 n)(h2:R64 t)(h3:R64 a)(h4:R64 b)(h5:R16 l):Calls Try.prog 11 #[.agg #[.int .u8 n,.int .u64 t],.agg #[.int .u64 a,.int .u64 b],.int .u16 l] W (IsB true W):=
 law_calls (M11.known.ok ⟨n,t,a,b,l⟩ true (Sf.run11' h1 h2 h3 h4 h5)) (qH (agg2 (TR.int _ _) (TR.int _ _)) (agg2 (TR.int _ _) (TR.int _ _)) (TR.int _ _))
theorem c14(h1:R8 n)(h2:R64 t)(hp:TR U W (phT ph) (.slice q ph.length kq))(hr:∀p∈ph,R64 p)(h3:R8 c)(h4:R64 a)(h5:R64 b):
  Calls Try.prog 14 #[.agg #[.int .u8 n,.int .u64 t,.slice q ph.length kq,.int .u8 c],.agg #[.int .u64 a,.int .u64 b]] W (IsB true W):=
 law_calls (M14.known.ok ⟨n,t,ph,c,a,b⟩ true (Sf.run14' h1 h2 hr h3 h4 h5)) (argsR2 (agg4 (TR.int _ _) (TR.int _ _) (noTR hp) (TR.int _ _)) (agg2 (TR.int _ _) (TR.int _ _)))
theorem c12{x:Value}(h1:R8 n)(h2:R64 t)(hp:TR U W (phT ph) (.slice q ph.length kq))(hr:∀p∈ph,R64 p)(h3:R8 c)(h4:R64 a)(hv:TR U W (.imm (v.flatMap (Ly.int .u8).trees) v.length none) x):
  Calls Try.prog 12 #[.agg #[.int .u8 n,.int .u64 t,.slice q ph.length kq,.int .u8 c],.int .u64 a,x] W (IsB true W):=
 law_calls (Sf.run12 h1 h2 hr h3 h4) (qH (agg4 (TR.int _ _) (TR.int _ _) (noTR hp) (TR.int _ _)) (TR.int _ _) (noTR hv))
theorem c13{x:Value}(h1:R8 n)(h2:R64 t)(hp:TR U W (phT ph) (.slice q ph.length kq))(hr:∀p∈ph,R64 p)(h3:R8 c)(hv:TR U W (.imm (v.flatMap (Ly.int .u8).trees) v.length none) x)(hw:∀x∈v,R8 x):
  Calls Try.prog 13 #[.agg #[.int .u8 n,.int .u64 t,.slice q ph.length kq,.int .u8 c],x] W (IsB true W):=
 law_calls (M13.known.ok ⟨n,t,ph,c,v⟩ true (Sf.run13' h1 h2 hr h3 hw)) (argsR2 (agg4 (TR.int _ _) (TR.int _ _) (noTR hp) (TR.int _ _)) (noTR hv))
theorem c15{x:Value}{L:List (List Int)}(h1:I64 n)(h2:R64 t)(hp:TR U W (phT ph) (.slice q ph.length kq))(hr:∀p∈ph,R64 p)(h3:I64 c)(h4:R64 a)(hv:TR U W (celT L) x)(hw:∀r∈L,∀y∈r,R8 y):
  Calls Try.prog 15 #[.agg #[.int .i64 n,.int .u64 t,.slice q ph.length kq,.int .i64 c,.int .u64 a,.int .i64 l],x] W (IsB true W):=
 law_calls (M15.known.ok ⟨n,t,ph,c,a,l,L⟩ true (Sf.run15' h1 h2 hr h3 h4 hw)) (argsR2 (agg6 (TR.int _ _) (TR.int _ _) (noTR hp) (TR.int _ _) (TR.int _ _) (TR.int _ _)) (noTR hv))
end
structure Kn(w:World)(B:Nat)(v3 v4 v5:Value)(ph ca va:List Int)(wr:World):Prop where
 o3:wr.ownsRow B 85 1 v3 ph.length (ph.map (Value.int .u64))
 o4:wr.ownsRow B 5 1 v4 ca.length (ca.map (Value.int .u8))
 o5:wr.ownsRow B 5 1 v5 va.length (va.map (Value.int .u8))
 apart:∀g,v4.ownBlock=some g->v5.ownBlock=some g->False
 r3:∀p∈ph,R64 p
 r4:∀p∈ca,R8 p
 r5:∀p∈va,R8 p
 fr:Fr (· <B) w wr
theorem Kn.nil{w wr:World}{B:Nat}(h:Fr (· <B) w wr):Kn w B (.slice none 0 0) (.slice none 0 0) (.slice none 0 0) [] [] [] wr:=
 ⟨CT _ _ _ _,CT _ _ _ _,CT _ _ _ _,λg h=>(by cases h),λp hp=>(by cases hp),λp hp=>(by cases hp),λp hp=>(by cases hp),h⟩
variable {w wr w1:World}{B:Nat}{v3 v4 v5 v':Value}{ph ca va:List Int}{o:Obj}{x:Int}
theorem ne_of{u v:Value}(h:∀g,u.ownBlock=some g->v.ownBlock=some g->False):u.ownBlock=none\/u.ownBlock≠v.ownBlock:=by
 cases e:u.ownBlock with
 |none=>exact .inl rfl
 |some g=>exact .inr λh1=>h g e h1.symm
theorem Kn.gr(h:Kn w B v3 v4 v5 ph ca va wr){u:Value}(hu:∀g,u.ownBlock=some g->B<=g)(hg:(wr.alloc o).grownBy w1 u.ownBlock):Fr (· <B) w w1:=
 (h.fr.trans (Fr.alloc _ _ _)).trans (grown_fr hg λb hb e=>by have:=hu b e;omega)
theorem Kn.push3(h:Kn w B v3 v4 v5 ph ca va wr)(hx:R64 x)(ho:w1.ownsRow B 85 1 v' (ph.length+1) (ph.map (Value.int .u64)++[.int .u64 x]))(hg:(wr.alloc o).grownBy w1 v3.ownBlock):Kn w B v' v4 v5 (ph++[x]) ca va w1:=
 ⟨by simpa using ho,(h.o4.alloc o).kept hg (own_ty h.o4 h.o3 (by decide)),(h.o5.alloc o).kept hg (own_ty h.o5 h.o3 (by decide)),h.apart,λp hp=>by
  rcases Ap.1 hp with hp|hp
  ·exact h.r3 p hp
  ·simp at hp;rw[hp];exact hx,h.r4,h.r5,h.gr (λg hg=>(own_lt h.o3 hg).1) hg⟩
theorem Kn.push4(h:Kn w B v3 v4 v5 ph ca va wr)(hx:R8 x)(ho:w1.ownsRow B 5 1 v' (ca.length+1) (ca.map (Value.int .u8)++[.int .u8 x]))(hg:(wr.alloc o).grownBy w1 v4.ownBlock)(hat:v'.ownBlock=v4.ownBlock\/∃b,wr.heap.size<=b/\v'.ownBlock=some b):Kn w B v3 v' v5 ph (ca++[x]) va w1:=
 ⟨(h.o3.alloc o).kept hg (own_ty h.o3 h.o4 (by decide)),by simpa using ho,(h.o5.alloc o).kept hg (ne_of λg h1 h2=>h.apart g h2 h1),λg h1 h2=>by
  rcases hat with e|⟨b,hb,e⟩
  ·exact h.apart g (e▸h1) h2
  ·rw[e]at h1;have:=(own_lt h.o5 h2).2;injection h1 with h1;omega,h.r3,λp hp=>by
  rcases Ap.1 hp with hp|hp
  ·exact h.r4 p hp
  ·simp at hp;rw[hp];exact hx,h.r5,h.gr (λg hg=>(own_lt h.o4 hg).1) hg⟩
theorem Kn.push5(h:Kn w B v3 v4 v5 ph ca va wr)(hx:R8 x)(ho:w1.ownsRow B 5 1 v' (va.length+1) (va.map (Value.int .u8)++[.int .u8 x]))(hg:(wr.alloc o).grownBy w1 v5.ownBlock)(hat:v'.ownBlock=v5.ownBlock\/∃b,wr.heap.size<=b/\v'.ownBlock=some b):Kn w B v3 v4 v' ph ca (va++[x]) w1:=
 ⟨(h.o3.alloc o).kept hg (own_ty h.o3 h.o5 (by decide)),(h.o4.alloc o).kept hg (ne_of h.apart),by simpa using ho,λg h1 h2=>by
  rcases hat with e|⟨b,hb,e⟩
  ·exact h.apart g h1 (e▸h2)
  ·rw[e]at h2;have:=(own_lt h.o4 h1).2;injection h2 with h2;omega,h.r3,h.r4,λp hp=>by
  rcases Ap.1 hp with hp|hp
  ·exact h.r5 p hp
  ·simp at hp;rw[hp];exact hx,h.gr (λg hg=>(own_lt h.o5 hg).1) hg⟩
theorem Kn.bel(h:Kn w B v3 v4 v5 ph ca va wr)(hb:Bel wr.heap.size wr w1)(hB:B<=wr.heap.size):Kn w B v3 v4 v5 ph ca va w1:=
 ⟨own_keep h.o3 λg hg=>hb.block g (own_lt h.o3 hg).2,own_keep h.o4 λg hg=>hb.block g (own_lt h.o4 hg).2,own_keep h.o5 λg hg=>hb.block g (own_lt h.o5 hg).2,h.apart,h.r3,h.r4,h.r5,h.fr.trans (hb.fr.imp λb _ hb=>by omega)⟩
theorem Kn.alloc(h:Kn w B v3 v4 v5 ph ca va wr)(o:Obj):Kn w B v3 v4 v5 ph ca va (wr.alloc o):=
 ⟨h.o3.alloc o,h.o4.alloc o,h.o5.alloc o,h.apart,h.r3,h.r4,h.r5,h.fr.trans (Fr.alloc _ _ _)⟩
theorem Kn.t3(h:Kn w B v3 v4 v5 ph ca va wr):TR (λ_=>True) wr (phT ph) v3:=by
 unfold phT;rw[M61.u64_trees];refine own_tree h.o3 _ (by simp) (λi hi u hu=> ?_) λ_ _=>trivial;have hi':i<ph.length:=by simpa using hi
 rw[AX,A3 hi']at hu;cases hu;simp only[AM];exact TR.int _ _
theorem bytes_tree{W:World}{lo:Nat}{v:Value}{l:List Int}(h:W.ownsRow lo 5 1 v l.length (l.map (Value.int .u8))):TR (λ_=>True) W (.imm (l.flatMap (Ly.int .u8).trees) l.length none) v:=by
 rw[u8_trees];refine own_tree h _ (by simp) (λi hi u hu=> ?_) λ_ _=>trivial;have hi':i<l.length:=by simpa using hi
 rw[AX,A3 hi']at hu;cases hu;simp only[AM];exact TR.int _ _
end
section
open Go.Abs Go.RowKit
theorem info5:(Try.prog.info? 5).map (λi=>(i.zero,i.size,i.bytes))=some (some (.int .u8 0),1,1):=by kernel_rfl
theorem int_calls2{W:World}{N T s x er:Int}(h:M58.m ⟨N,T,s⟩=some (x,er)):Calls Try.prog 58 #[.agg #[.int .i64 N,.int .u64 T],.int .u64 s] W (IsE x er W):=by have hk:Qo Try.prog 58 [.agg [.t (.int .i64 N),.t (.int .u64 T)],.c (.t (.int .u64 s))] [] λv τ=>v=.tup [.inl (.t (.int .u64 x)),.inl (.t (.int .i64 er))]/\τ=[]:=M58.known.ok ⟨N,T,s⟩ (x,er) h;refine(calls_tree hk (argsR2 (agg2 (TR.int _ _) (TR.int _ _)) (TR.int _ _))).mono λe w' ⟨⟨I',cv,he,hv⟩,hb⟩=> ?_;obtain⟨u,v,rfl,h1,h2⟩:=tup2_out hv;cases h1;cases h2;exact⟨⟨he,hb⟩⟩
theorem words_tree{W:World}{b:Nat}{l:List Int}{cur:Array Value}(hb:W.heap[b]? =some (.cells cur 85 (0,0)))(hc:∀i (h:i<l.length),cur[i]? =some (.int .u64 l[i])):TR (λ_=>True) W (phT l) (.slice (some ⟨b,0,none⟩) l.length l.length):=by
 unfold phT;rw[M61.u64_trees];refine TR.imm _ l.length none b 0 l.length (λi=>.int .u64 (l[i]?.getD 0)) trivial ⟨_,_,_,hb⟩ trivial (A9 _) (λi hi=> ?_) (λi hi=> ?_)
 ·have hi:i<l.length:=(by simpa using hi);rw[A3 hi,Ac];simp only[World.cell?,hb];exact hc i hi
 ·have hi':i<l.length:=(by simpa using hi);rw[A3 hi'];simp only[AM];exact TR.int _ _
theorem one_tree{W:World}{lo g cap n:Nat}{va:List Int}(h:W.ownsRow lo 5 1 (.slice (some ⟨g,0,none⟩) va.length cap) va.length (va.map (Value.int .u8)))(hn:n<=va.length):
  TR (λ_=>True) (W.alloc (.cells #[.slice (some ⟨g,0,none⟩) n cap] 22)) (celT [va.take n]) (.slice (some ⟨W.heap.size,0,none⟩) 1 1):=by
 rcases h.2 with ⟨h,_⟩|⟨g',cap',cur,h,h1,h2,h3,h4,h5,h6⟩
 ·cases h
 cases h;have hl:=(WF.1 h2).1;have hw:=AI W (.cells #[.slice (some ⟨g,0,none⟩) n cap] 22);have hg:=(Below.heap_alloc W (.cells #[.slice (some ⟨g,0,none⟩) n cap] 22) g hl).trans h2;refine TR.imm _ 1 none W.heap.size 0 1 (λ_=>.slice (some ⟨g,0,none⟩) n cap) trivial ⟨_,_,_,hw⟩ trivial (A9 _) (λi hi=> ?_) (λi hi=> ?_)
 ·have hi:i<1:=hi;obtain rfl:i=0:=(by omega);simp
 ·have hi':i<1:=hi;obtain rfl:i=0:=(by omega);show TR _ _ (.imm ((va.take n).flatMap (Ly.int .u8).trees) (va.take n).length none) _;rw[u8_trees,Bb,B1 hn];refine TR.imm _ n none g 0 cap (λi=>.int .u8 (va[i]?.getD 0)) trivial ⟨_,_,_,hg⟩ trivial (by omega) (λi hi=> ?_) (λi hi=> ?_)
  ·have hi:i<n:=(by simp at hi;omega);have h7:(va.map (Value.int .u8))[i]? =some (.int .u8 va[i]):=(by rw[AX,A3 (by omega)];rfl);rw[<-h6,Cc,AB (by omega)]at h7;have h8:cur[i]? =some (.int .u8 va[i]):=(by rw[<-h7];simp);rw[A3 (by omega),Ac];simp only[World.cell?,hg];exact h8
  ·have hi':i<n:=(by simp at hi;omega);rw[A3 (by omega)];simp only[AM,List.getElem_take];exact TR.int _ _
structure Bxx(b7 b8:Nat)(m kk:Nat)(q:Option Addr)(n k:Nat)(W:World):Prop where
 h7:W.heap[b7]? =some (.cells #[.int .u8 m,.int .u64 kk] 87 (0,0))
 h8:W.heap[b8]? =some (.cells #[.int .u8 m,.int .u64 kk,.slice q n k,.int .u8 m] 100 (0,0))
theorem Bxx.bel{b7 b8 m kk n k:Nat}{q:Option Addr}{W W':World}(h:Bxx b7 b8 m kk q n k W)(hb:Bel W.heap.size W W'):Bxx b7 b8 m kk q n k W':=
 ⟨(hb.block _ (WF.1 h.h7).1).trans h.h7,(hb.block _ (WF.1 h.h8).1).trans h.h8⟩
theorem Bxx.cells{b7 b8 m kk n k:Nat}{q:Option Addr}{W:World}(h:Bxx b7 b8 m kk q n k W):
  W.cell? ⟨b7,0,none⟩=some (.int .u8 m)/\W.cell? ⟨b7,1,none⟩=some (.int .u64 kk)/\W.cell? ⟨b8,0,none⟩=some (.int .u8 m)/\W.cell? ⟨b8,1,none⟩=some (.int .u64 kk)/\W.cell? ⟨b8,2,none⟩=some (.slice q n k)/\W.cell? ⟨b8,3,none⟩=some (.int .u8 m):=by
 have h1:=h.h7;have h2:=h.h8;refine⟨?_,?_,?_,?_,?_,?_⟩<;>first|(simp[World.cell?,h1];done)|(simp[World.cell?,h2];done)
theorem jump_calls{W:World}{N T s j x er:Int}(h:M69.m ⟨N,T,s,j⟩=some (x,er)):Calls Try.prog 69 #[.agg #[.int .i64 N,.int .u64 T],.int .u64 s,.int .u64 j] W (IsE x er W):=by have hk:Qo Try.prog 69 [.agg [.t (.int .i64 N),.t (.int .u64 T)],.c (.t (.int .u64 s)),.c (.t (.int .u64 j))] [] λv τ=>v=.tup [.inl (.t (.int .u64 x)),.inl (.t (.int .i64 er))]/\τ=[]:=M69.known.ok ⟨N,T,s,j⟩ (x,er) h;refine(calls_tree hk (qH (agg2 (TR.int _ _) (TR.int _ _)) (TR.int _ _) (TR.int _ _))).mono λe w' ⟨⟨I',cv,he,hv⟩,hb⟩=> ?_;obtain⟨u,v,rfl,h1,h2⟩:=tup2_out hv;cases h1;cases h2;exact⟨⟨he,hb⟩⟩
structure IsN(k:IntKind)(x:Int)(W:World)(e:Ending)(W':World):Prop where
 ex:e=.returned (.int k x)/\Bel W.heap.size W W'
theorem after_calls{W:World}{N T s j x:Int}(h:M56.m ⟨N,T,s,j⟩=some x):Calls Try.prog 56 #[.agg #[.int .i64 N,.int .u64 T],.int .u64 s,.int .i64 j] W (IsN .u64 x W):=by have hk:Qo Try.prog 56 [.agg [.t (.int .i64 N),.t (.int .u64 T)],.c (.t (.int .u64 s)),.c (.t (.int .i64 j))] [] λv τ=>v=.c (.t (.int .u64 x))/\τ=[]:=M56.known.ok ⟨N,T,s,j⟩ x h;refine(calls_tree hk (qH (agg2 (TR.int _ _) (TR.int _ _)) (TR.int _ _) (TR.int _ _))).mono λe w' ⟨⟨I',cv,he,hv⟩,hb⟩=> ?_;have hv:TR I'.un w' (.int .u64 x) cv:=hv;cases hv;exact⟨⟨he,hb⟩⟩
theorem valid_calls{U:Nat->Prop}{W:World}{N T c x:Int}{ph:List Int}{a:Option Addr}{k:Nat}(h:M72.m ⟨N,T,ph,c⟩=some x)(hp:TR U W (phT ph) (.slice a ph.length k)):Calls Try.prog 72 #[dV N T ph a k c] W (IsN .i64 x W):=by
 have hk:Qo Try.prog 72 [.agg [.t (.int .i64 N),.t (.int .u64 T),.t (phT ph),.t (.int .i64 c)]] [] λv τ=>v=.c (.t (.int .i64 x))/\τ=[]:=M72.known.ok ⟨N,T,ph,c⟩ x h;have ha:Ji Qf W [.agg [.t (.int .i64 N),.t (.int .u64 T),.t (phT ph),.t (.int .i64 c)]] #[dV N T ph a k c]:=⟨rfl,λi hi=>by
  match i,hi with
  |0,_=>exact⟨_,rfl,agg4 (TR.int _ _) (TR.int _ _) (noTR hp) (TR.int _ _)⟩⟩
 refine(calls_tree hk ha).mono λe w' ⟨⟨I',cv,he,hv⟩,hb⟩=> ?_;have hv:TR I'.un w' (.int .i64 x) cv:=hv;cases hv;exact⟨⟨he,hb⟩⟩
theorem known_walk(w:World)(x:Int)(h58:M58.m ⟨64,15564440312192434176,9223372036854775808⟩=some (1,0))(h69:M69.m ⟨64,15564440312192434176,1,64⟩=some (x,0))(h56:M56.m ⟨64,15564440312192434176,1,64⟩=some x)
  (h61:M61.m ⟨64,15564440312192434176,[],9223372036854775807,7⟩=some ([],0)) (h72:M72.m ⟨64,15564440312192434176,[9223372036854775808],4096⟩=some 0) (h59:M59.m ()=some true):Calls Try.prog 17 #[] w (IsB true w):=by
 obtain⟨i0,hi,hz0,hz1,hz2⟩:=info_parts info85;obtain⟨i1,hj,hy0,hy1,hy2⟩:=info_parts info5
 go_enter Try.func17,Try.ntmps17
 go_wp2
 go_loopw [1,2] (λk n wr=>∃(m kk:Nat),n=.int .i64 m/\k=.int .u64 kk/\kk<1000003/\m<=16/\Fr (· <w.heap.size) w wr) (λ_ n _=>16 - (intOf n).toNat)
 case atStart=>exact⟨0,1,rfl,rfl,by decide,by decide,Fr.refl _ _⟩
 case round=>
  obtain⟨m,kk,rfl,rfl,hkk,hm,hf⟩:=hrel;by_cases hml:m<16
  ·go_wp2
   simp only[show decide ((m:Int)<16)=true from A5 (by omega)]
   go_loopw [1,3,4,5,6] (λk v3 v4 v5 q wi=>∃(i kk:Nat) (ph ca va:List Int),q=.int .i64 i/\k=.int .u64 kk/\kk<1000003/\i<=20/\ca.length=i/\va.length=i/\ph.length<=i/\Kn w w.heap.size v3 v4 v5 ph ca va wi) (λ_ _ _ _ q _=>20 - (intOf q).toNat)
   case atStart=>exact⟨0,kk,[],[],[],rfl,rfl,hkk,by decide,rfl,rfl,A9 _,Kn.nil hf⟩
   case round=>
    clear hkk hf;obtain⟨i,kk,ph,ca,va,rfl,rfl,hkk,hi20,hca,hva,hph,hkn⟩:=hrel;have hB:=hkn.fr.size;have hm5:Int.tmod (m:Int) 5=((m%5:Nat):Int):=rfl;by_cases hil:i<20
    ·by_cases hc:(i:Int)<((m%5:Nat):Int)
     ·skip
      go_wp2_with (at_builtin;refine wpList_append_own_at _ rfl (.tmp 30) (.tmp 32) 32 rfl w.heap.size 85 i0 (.int .u64 0) 1 8 Try.underlying32 hi hz0 hz1 hz2 rfl (by decide) u3 ph.length _ rfl (hkn.o3.alloc _) ⟨wr.heap.size,0,none⟩ 1 1 [.int .u64 kk] rfl rfl ?a1 ?a2 ?a3 ?a4 ?a5 ?_)
      try case a1=>
       intro j' u hj'
       match j',hj' with
       |0,hj'=>simp at hj';subst hj';simp[Addr.add]
      case a2=>first|rfl|(intro u hu;simp at hu;subst hu;rfl)
      case a3=>unfold maxLen;omega
      case a4=>omega
      case a5=>first|omega|(simp;omega)
      intro v3 w1 ho1 hg1 _ hat1;have hk1:=hkn.push3 (x:=kk) (by omega) ho1 hg1;have hl1:(ph++[(kk:Int)]).length<=i+1:=(by simp;omega);have hB1:=hk1.fr.size;clear ho1 hg1 hat1 hkn hph;generalize ph++[(kk:Int)]=ph at hk1 hl1
      go_wp2_with (at_builtin;refine wpList_append_own_at _ rfl (.tmp 34) (.tmp 38) 22 rfl w.heap.size 5 i1 (.int .u8 0) 1 1 Try.underlying22 hj hy0 hy1 hy2 rfl (by decide) u4 ca.length _ rfl (hk1.o4.alloc _) ⟨w1.heap.size,0,none⟩ 1 1 [.int .u8 ((kk:Int) / 256%256)] rfl rfl ?pb1 ?pb2 ?pb3 ?pb4 ?pb5 ?_)
      try case pb1=>
       intro j' u hj'
       match j',hj' with
       |0,hj'=>simp at hj';subst hj';simp[Addr.add]
      case pb2=>first|rfl|(intro u hu;simp at hu;subst hu;rfl)
      case pb3=>unfold maxLen;omega
      case pb4=>omega
      case pb5=>first|omega|(simp;omega)
      intro v4 w2 ho2 hg2 _ hat2;have hk2:=hk1.push4 (x:=(kk:Int) / 256%256) (by omega) (by rw[hca];exact ho2) hg2 (hat2.imp (λh=>h) λh=>⟨_,by simp,h⟩);have hB2:=hk2.fr.size;clear ho2 hg2 hat2 hk1
      go_wp2_with (at_builtin;refine wpList_append_own_at _ rfl (.tmp 40) (.tmp 44) 22 rfl w.heap.size 5 i1 (.int .u8 0) 1 1 Try.underlying22 hj hy0 hy1 hy2 rfl (by decide) u5 va.length _ rfl (hk2.o5.alloc _) ⟨w2.heap.size,0,none⟩ 1 1 [.int .u8 ((kk:Int) / 8%256)] rfl rfl ?pc1 ?pc2 ?pc3 ?pc4 ?pc5 ?_)
      try case pc1=>
       intro j' u hj'
       match j',hj' with
       |0,hj'=>simp at hj';subst hj';simp[Addr.add]
      case pc2=>first|rfl|(intro u hu;simp at hu;subst hu;rfl)
      case pc3=>unfold maxLen;omega
      case pc4=>omega
      case pc5=>first|omega|(simp;omega)
      intro v5 w3 ho3 hg3 _ hat3;have hk3:=hk2.push5 (x:=(kk:Int) / 8%256) (by omega) (by rw[hva];exact ho3) hg3 (hat3.imp (λh=>h) λh=>⟨_,by simp,h⟩);clear ho3 hg3 hat3 hk2
      go_wp2
      go_roundw
      case rel=>exact⟨i+1,(kk*31+7*i+11)%1000003,ph,ca++[(kk:Int) / 256%256],va++[(kk:Int) / 8%256],by simp,by simp,Aq _ (by decide),by omega,by simp[hca],by simp[hva],hl1,hk3⟩
      case measure=>simp[intOf];omega
     ·have hl1:ph.length<=i+1:=(by omega);clear hph
      go_wp2_with (at_builtin;refine wpList_append_own_at _ rfl (.tmp 34) (.tmp 38) 22 rfl w.heap.size 5 i1 (.int .u8 0) 1 1 Try.underlying22 hj hy0 hy1 hy2 rfl (by decide) u4 ca.length _ rfl (hkn.o4.alloc _) ⟨wr.heap.size,0,none⟩ 1 1 [.int .u8 ((kk:Int) / 256%256)] rfl rfl ?qb1 ?qb2 ?qb3 ?qb4 ?qb5 ?_)
      try case qb1=>
       intro j' u hj'
       match j',hj' with
       |0,hj'=>simp at hj';subst hj';simp[Addr.add]
      case qb2=>first|rfl|(intro u hu;simp at hu;subst hu;rfl)
      case qb3=>unfold maxLen;omega
      case qb4=>omega
      case qb5=>first|omega|(simp;omega)
      intro v4 w2 ho2 hg2 _ hat2;have hk2:=hkn.push4 (x:=(kk:Int) / 256%256) (by omega) (by rw[hca];exact ho2) hg2 (hat2.imp (λh=>h) λh=>⟨_,by simp,h⟩);have hB2:=hk2.fr.size;clear ho2 hg2 hat2 hkn
      go_wp2_with (at_builtin;refine wpList_append_own_at _ rfl (.tmp 40) (.tmp 44) 22 rfl w.heap.size 5 i1 (.int .u8 0) 1 1 Try.underlying22 hj hy0 hy1 hy2 rfl (by decide) u5 va.length _ rfl (hk2.o5.alloc _) ⟨w2.heap.size,0,none⟩ 1 1 [.int .u8 ((kk:Int) / 8%256)] rfl rfl ?qc1 ?qc2 ?qc3 ?qc4 ?qc5 ?_)
      try case qc1=>
       intro j' u hj'
       match j',hj' with
       |0,hj'=>simp at hj';subst hj';simp[Addr.add]
      case qc2=>first|rfl|(intro u hu;simp at hu;subst hu;rfl)
      case qc3=>unfold maxLen;omega
      case qc4=>omega
      case qc5=>first|omega|(simp;omega)
      intro v5 w3 ho3 hg3 _ hat3;have hk3:=hk2.push5 (x:=(kk:Int) / 8%256) (by omega) (by rw[hva];exact ho3) hg3 (hat3.imp (λh=>h) λh=>⟨_,by simp,h⟩);clear ho3 hg3 hat3 hk2
      go_wp2
      go_roundw
      case rel=>exact⟨i+1,(kk*31+7*i+11)%1000003,ph,ca++[(kk:Int) / 256%256],va++[(kk:Int) / 8%256],by simp,by simp,Aq _ (by decide),by omega,by simp[hca],by simp[hva],hl1,hk3⟩
      case measure=>simp[intOf];omega
    ·have hi:i=20:=(by omega);subst hi;obtain⟨q3,k3,rfl⟩:=own_slice hkn.o3;obtain⟨g5,cap5,hv5,hcap5⟩:∃g cap,u5=.slice (some ⟨g,0,none⟩) 20 cap/\20<=cap:=by
      rcases hkn.o5.2 with ⟨_,h⟩|⟨g,cap,cur,h,_,_,h3,_⟩
      ·omega
      ·rw[hva]at h h3;exact⟨g,cap,h,h3⟩
     subst hv5;have w64:∀y:Int,R64 (IntKind.u64.wrap y):=λy=>(by have:=IntKind.wrap_u64 (n:=y);rw[this];omega);have w16:∀y:Int,R16 (IntKind.u16.wrap y):=λy=>(by have:=IntKind.wrap_u16 (n:=y);rw[this];omega);have hsq:=w64 (kk*kk);clear w64
     go_wp2_with (go_at_call 16;refine(c16 (by omega) (by omega) (by omega) (by omega) hsq (by omega)).mono ?_)
     rintro e w5 ⟨⟨rfl,hb5⟩⟩;have hbx:Bxx wr.heap.size (wr.heap.size+1) m kk q3 ph.length k3 ((wr.alloc (.cells #[.int .u8 m,.int .u64 kk] 87)).alloc (.cells #[.int .u8 m,.int .u64 kk,.slice q3 ph.length k3,.int .u8 m] 100)):=(by refine⟨(Below.heap_alloc _ _ _ (by simp)).trans (AI _ _),?_⟩;have:=AI (wr.alloc (.cells #[.int .u8 m,.int .u64 kk] 87)) (.cells #[.int .u8 m,.int .u64 kk,.slice q3 ph.length k3,.int .u8 m] 100);rwa [AU]at this);have hk5:=((hkn.alloc (.cells #[.int .u8 m,.int .u64 kk] 87)).alloc (.cells #[.int .u8 m,.int .u64 kk,.slice q3 ph.length k3,.int .u8 m] 100)).bel hb5 (by simp;omega);have hx5:=hbx.bel hb5;have hs5:=hb5.size;clear hkn hbx hb5 hsq;generalize hb7:wr.heap.size=b7 at*
     obtain⟨a0,a1,a2,a3,a4,a5⟩:=hx5.cells;have hs16:=w16 kk;clear w16
     go_wp2_with (go_at_call 11;refine(c11 (by omega) (by omega) (by omega) (by omega) hs16).mono ?_)
     rintro e w6 ⟨⟨rfl,hb6⟩⟩;have hk6:=hk5.bel hb6 hk5.fr.size;have hx6:=hx5.bel hb6;clear hk5 hx5 hb6 a0 a1 a2 a3 a4 a5;obtain⟨a0,a1,a2,a3,a4,a5⟩:=hx6.cells;clear hs16
     go_wp2_with (go_at_call 14;refine(c14 (by omega) (by omega) hk6.t3 hk6.r3 (by omega) (by omega) (by omega)).mono ?_)
     rintro e w7 ⟨⟨rfl,hb7⟩⟩;have hk7:=hk6.bel hb7 hk6.fr.size;have hx7:=hx6.bel hb7;clear hk6 hx6 hb7 a0 a1 a2 a3 a4 a5;obtain⟨a0,a1,a2,a3,a4,a5⟩:=hx7.cells
     go_wp2_with (go_at_call 12;refine(c12 (by omega) (by omega) hk7.t3 hk7.r3 (by omega) (by omega) (bytes_tree hk7.o4)).mono ?_)
     rintro e w8 ⟨⟨rfl,hb8⟩⟩;have hk8:=hk7.bel hb8 hk7.fr.size;have hx8:=hx7.bel hb8;clear hk7 hx7 hb8 a0 a1 a2 a3 a4 a5;obtain⟨a0,a1,a2,a3,a4,a5⟩:=hx8.cells
     go_wp2_with (go_at_call 13;refine(c13 (by omega) (by omega) hk8.t3 hk8.r3 (by omega) (bytes_tree hk8.o5) hk8.r5).mono ?_)
     rintro e w9 ⟨⟨rfl,hb9⟩⟩;have hk9:=hk8.bel hb9 hk8.fr.size;have hx9:=hx8.bel hb9;clear hk8 hx8 hb9 a0 a1 a2 a3 a4 a5;obtain⟨a0,a1,a2,a3,a4,a5⟩:=hx9.cells;have ht15:=one_tree (n:=m%3) (by have:=hk9.o5;rw[<-hva]at this;exact this) (by omega)
     go_wp2_with (go_at_call 15;refine(c15 (by omega) (by omega) (hk9.alloc _).t3 hk9.r3 (by omega) (by omega) ht15 ?r15).mono ?_)
     case r15=>intro r hr y hy;have hr:=CK.1 hr;subst hr;exact hk9.r5 y (List.mem_of_mem_take hy)
     rintro e w10 ⟨⟨rfl,hb10⟩⟩;have hk10:=(hk9.alloc _).bel hb10 (Ao hk9.fr.size (by simp));have hfr:=hk10.fr;clear hk10 hk9 hx9 hb10 ht15 a0 a1 a2 a3 a4 a5
     go_wp2
     go_roundw
     case rel=>exact⟨m+1,kk,by simp,rfl,hkk,by omega,hfr⟩
     case measure=>simp[intOf];omega
  ·have hm16:m=16:=(by omega);subst hm16;have hw9:(wr.alloc (.cells #[.int .i64 64,.int .u64 15564440312192434176] 91)).heap[wr.heap.size]? =some (.cells #[.int .i64 64,.int .u64 15564440312192434176] 91 (0,0)):=AI _ _;have hf9:Fr (· <w.heap.size) w (wr.alloc (.cells #[.int .i64 64,.int .u64 15564440312192434176] 91)):=hf.trans (Fr.alloc _ _ _);have hlt9:wr.heap.size<(wr.alloc (.cells #[.int .i64 64,.int .u64 15564440312192434176] 91)).heap.size:=by simp
   go_wp2_with (go_at_call 58;refine(int_calls2 h58).mono ?_)
   rintro e w5 ⟨⟨rfl,hb5⟩⟩;have hx5:=(hb5.block _ hlt9).trans hw9;have hf5:=hf9.trans (hb5.fr.imp λb _ hb=>by have:=hf9.size;omega);clear hw9 hf9 hlt9 hb5 hf;generalize hb7:wr.heap.size=b7 at*
   have a0:w5.cell? ⟨b7,0,none⟩=some (.int .i64 64):=(by simp[World.cell?,hx5]);have a1:w5.cell? ⟨b7,1,none⟩=some (.int .u64 15564440312192434176):=by simp[World.cell?,hx5]
   go_wp2_with (go_at_call 69;refine(jump_calls h69).mono ?_)
   rintro e w6 ⟨⟨rfl,hb6⟩⟩;have hx6:=(hb6.block _ (WF.1 hx5).1).trans hx5;have hf6:=hf5.trans (hb6.fr.imp λb _ hb=>by have:=hf5.size;omega);clear hx5 hf5 hb6 a0 a1;have a0:w6.cell? ⟨b7,0,none⟩=some (.int .i64 64):=(by simp[World.cell?,hx6]);have a1:w6.cell? ⟨b7,1,none⟩=some (.int .u64 15564440312192434176):=(by simp[World.cell?,hx6]);have hl6:=(WF.1 hx6).1;have hx7:((w6.alloc (.cells #[.int .u64 9223372036854775808] 85)).alloc (.cells #[.int .i64 64,.int .u64 15564440312192434176,.slice (some ⟨w6.heap.size,0,none⟩) 1 1,.int .i64 4096] 102)).heap[b7]? =some (.cells #[.int .i64 64,.int .u64 15564440312192434176] 91 (0,0)):=
    (Below.heap_alloc _ _ _ (by simp;omega)).trans ((Below.heap_alloc _ _ _ hl6).trans hx6)
   have a2:((w6.alloc (.cells #[.int .u64 9223372036854775808] 85)).alloc (.cells #[.int .i64 64,.int .u64 15564440312192434176,.slice (some ⟨w6.heap.size,0,none⟩) 1 1,.int .i64 4096] 102)).cell? ⟨b7,0,none⟩=some (.int .i64 64):=(by simp only[World.cell?,hx7];rfl);have a3:((w6.alloc (.cells #[.int .u64 9223372036854775808] 85)).alloc (.cells #[.int .i64 64,.int .u64 15564440312192434176,.slice (some ⟨w6.heap.size,0,none⟩) 1 1,.int .i64 4096] 102)).cell? ⟨b7,1,none⟩=some (.int .u64 15564440312192434176):=by simp only[World.cell?,hx7];rfl
   go_wp2_with (go_at_call 61;refine(exp_calls (U:=λ_=>True) (ph:=[]) (a:=none) (k:=0) h61 (TR.imm0 none none 0 trivial)).mono ?_)
   rintro e w7 ⟨⟨vo,rfl,hto,hb7'⟩⟩;obtain⟨ao,ko,rfl,_⟩:=rows_read hto;have hxs:=AI w6 (.cells #[.int .u64 9223372036854775808] 85);have hx14:=AI (w6.alloc (.cells #[.int .u64 9223372036854775808] 85)) (.cells #[.int .i64 64,.int .u64 15564440312192434176,.slice (some ⟨w6.heap.size,0,none⟩) 1 1,.int .i64 4096] 102);rw[AU]at hx14;have hxs7:=(hb7'.block w6.heap.size (by simp;omega)).trans ((Below.heap_alloc _ _ _ (by simp;omega)).trans ((Below.heap_alloc _ _ _ (by simp)).trans hxs));have hx147:=(hb7'.block (w6.heap.size+1) (by simp)).trans ((Below.heap_alloc _ _ _ (by simp)).trans hx14);have hx77:=(hb7'.block b7 (by simp;omega)).trans ((Below.heap_alloc _ _ _ (by simp;omega)).trans hx7);have hf7:Fr (· <w.heap.size) w w7:=(((hf6.trans (Fr.alloc _ _ _)).trans (Fr.alloc _ _ _)).trans (Fr.alloc _ _ _)).trans (hb7'.fr.imp λb _ hb=>by have:=hf6.size;simp;omega);clear hto hxs hx14 hb7' hx7 hx6 hf6 a0 a1 a2 a3 hl6;generalize hbs:w6.heap.size=bs at*
   have a0:w7.cell? ⟨b7,0,none⟩=some (.int .i64 64):=(by simp[World.cell?,hx77]);have a1:w7.cell? ⟨b7,1,none⟩=some (.int .u64 15564440312192434176):=by simp[World.cell?,hx77]
   go_wp2_with (go_at_call 56;refine(after_calls h56).mono ?_)
   rintro e w8 ⟨⟨rfl,hb8⟩⟩;have hxs8:=(hb8.block _ (WF.1 hxs7).1).trans hxs7;have hx148:=(hb8.block _ (WF.1 hx147).1).trans hx147;have hf8:=hf7.trans (hb8.fr.imp λb _ hb=>by have:=hf7.size;omega);clear hxs7 hx147 hx77 hf7 hb8 a0 a1;have a0:w8.cell? ⟨bs+1,0,none⟩=some (.int .i64 64):=(by simp[World.cell?,hx148]);have a1:w8.cell? ⟨bs+1,1,none⟩=some (.int .u64 15564440312192434176):=(by simp[World.cell?,hx148]);have a2:w8.cell? ⟨bs+1,2,none⟩=some (.slice (some ⟨bs,0,none⟩) 1 1):=(by simp[World.cell?,hx148]);have a3:w8.cell? ⟨bs+1,3,none⟩=some (.int .i64 4096):=(by simp[World.cell?,hx148]);have ht8:TR (λ_=>True) w8 (phT [9223372036854775808]) (.slice (some ⟨bs,0,none⟩) 1 1):=words_tree (l:=[9223372036854775808]) hxs8 λi hi=>by have hi:i<1:=hi;obtain rfl:i=0:=(by omega);rfl
   go_wp2_with (go_at_call 72;refine(valid_calls (ph:=[9223372036854775808]) h72 ht8).mono ?_)
   rintro e w9 ⟨⟨rfl,hb9⟩⟩;have hf9:=hf8.trans (hb9.fr.imp λb _ hb=>by have:=hf8.size;omega);clear hxs8 hx148 hf8 hb9 a0 a1 a2 a3 ht8;have ht9:TR (λ_=>True) (w9.alloc (.cells #[.int .u64 1,.int .u64 1] 85)) (phT [1,1]) (.slice (some ⟨w9.heap.size,0,none⟩) 2 2):=words_tree (l:=[1,1]) (AI _ _) λi hi=>by
    have hi:i<2:=hi
    match i,hi with
    |0,_=>rfl
    |1,_=>rfl
   have tn:∀W,TR (λ_=>True) W (celT []) (.slice none 0 0):=λW=>TR.imm0 none none 0 trivial;have tp:∀W,TR (λ_=>True) W (phT []) (.slice none 0 0):=λW=>TR.imm0 none none 0 trivial
   go_wp2_with (go_at_call 15;refine(c15 (ph:=[1,1]) (by omega) (by omega) ht9 (by intro p hp;simp at hp;omega) (by omega) (by omega) (tn _) (λr hr=>by cases hr)).mono ?_)
   rintro e w10 ⟨⟨rfl,hb10⟩⟩;have hf10:=(hf9.trans (Fr.alloc _ _ _)).trans (hb10.fr.imp λb _ hb=>by have:=hf9.size;simp;omega);clear hf9 hb10 ht9
   go_wp2_with (go_at_call 15;refine(c15 (ph:=[]) (by omega) (by omega) (tp _) (by intro p hp;cases hp) (by omega) (by omega) (tn _) (λr hr=>by cases hr)).mono ?_)
   rintro e w11 ⟨⟨rfl,hb11⟩⟩;have hf11:=hf10.trans (hb11.fr.imp λb _ hb=>by have:=hf10.size;omega);clear hf10 hb11
   go_wp2_with (go_at_call 15;refine(c15 (ph:=[]) (by omega) (by omega) (tp _) (by intro p hp;cases hp) (by omega) (by omega) (tn _) (λr hr=>by cases hr)).mono ?_)
   rintro e w12 ⟨⟨rfl,hb12⟩⟩;have hf12:=hf11.trans (hb12.fr.imp λb _ hb=>by have:=hf11.size;omega);clear hf11 hb12;obtain⟨w13,hrun,ho13,hg13⟩:=run_make_full (P:=Try.prog) w12 w.heap.size 32 85 i0 (.int .u64 0) 1 Try.underlying32 hi hz0 hz1 .i64 .i64 65 (by rw[hz2];decide) (by decide) hf12.size;have hrun:Sem.run Try.prog (Instr.makeSlice 32 (Value.int IntKind.i64 65) (Value.int IntKind.i64 65)) w12=.ok (.slice (some ⟨w12.heap.size,0,none⟩) 65 65) w13:=hrun;have ht13:TR (λ_=>True) w13 (phT (List.replicate 65 0)) (.slice (some ⟨w12.heap.size,0,none⟩) 65 65):=(by unfold phT;rw[M61.u64_trees];refine own_tree ho13 _ (by simp) (λi hi u hu=> ?_) λ_ _=>trivial;have e:(madeCells (Value.int .u64 0).cells (65*1)).toList=List.replicate 65 (.int .u64 0):=(by kernel_rfl);have hi':i<65:=(by simpa using hi);rw[e,List.getElem?_replicate,AB hi']at hu;cases hu;simp only[AM,List.getElem_replicate];exact TR.int _ _);have hf13:=hf12.trans (grown_fr (p:=(· <w.heap.size)) hg13 λb _=>by simp);clear hf12 ho13 hg13
   go_wp2_with (go_at_call 15;refine(c15 (ph:=List.replicate 65 0) (by omega) (by omega) ht13 (by intro p hp;have:=List.eq_of_mem_replicate hp;omega) (by omega) (by omega) (tn _) (λr hr=>by cases hr)).mono ?_)
   rintro e w14 ⟨⟨rfl,hb14⟩⟩;have hf14:=hf13.trans (hb14.fr.imp λb _ hb=>by have:=hf13.size;omega);clear hf13 hb14
   go_wp2_with (go_at_call 59;refine(lives_calls _ h59).mono ?_)
   rintro e w15 ⟨⟨rfl,hb15⟩⟩;have hf15:=hf14.trans (hb15.fr.imp λb _ hb=>by have:=hf14.size;omega);clear hf14 hb15
   go_wp2
   exact Bu (results_tmp rfl _ _ _) rfl ⟨⟨rfl,hf15.bel (A9 _)⟩⟩
end
section
open Go.Abs Go.RowKit
namespace Sf
open Gf
theorem vd64:Vd 64 15564440312192434176:=⟨by omega,by omega,by decide,by decide⟩
theorem dcL:Dc 64 15564440312192434176 [9223372036854775808] 4096:=⟨vd64,λp hp=>by simp at hp;subst hp;decide,by decide,λ_=>by decide,by decide⟩
theorem dcN:Dc 64 15564440312192434176 [] 9223372036854775807:=⟨vd64,λp hp=>(by cases hp),by decide,λh=>absurd rfl h,by decide⟩
theorem k58:M58.m ⟨64,15564440312192434176,9223372036854775808⟩=some (1,0):=by kernel_rfl
end Sf
theorem callable17:Jq Try.prog 17:=⟨Try.f17,Try.func17,by kernel_rfl,by kernel_rfl⟩
theorem run17:Qo Try.prog 17 [] [] λv τ=>v=.c (.t (.bool true))/\τ=[]:=by refine M61.fn_belW callable17 fun ι w cargs hH ha=> ?_;have hc:cargs= #[]:=Array.eq_empty_of_size_eq_zero ha.1;subst hc;have h69:=Sf.jump69 (s:=1) (k:=64) Sf.vd64 (by decide) (by decide);have h56:=Sf.after56 (n:=64) (s:=1) (k:=64) ⟨by decide,by decide⟩ Sf.vd64.T64 (by decide) (by decide);have h61:=Sf.exp61 (s:=7) Sf.dcN (by decide);have h72:=Sf.valid72 Sf.dcL;refine(known_walk w _ Sf.k58 h69 h56 h61 h72 Sf.lives59).mono λe w' h=> ?_;obtain⟨h1,h2⟩:=h.ex;exact⟨⟨_,h1,TR.bool _⟩,h2⟩
end
