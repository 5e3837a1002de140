/- A part of the proof. -/
import Derived.Test.YtnmlmdlhhphcoaaER8QEq
import Derived.Deep.RegionHeld3
set_option linter.all false
set_option maxRecDepth 100000
set_option maxHeartbeats 4000000
namespace Go.Proofs.Ytnmlmdlhhphcoaa
open Go.Abs Go.RowKit
attribute [local go_sem ↓] Go.wp_at_zero Go.wp_at_succ strs_cell
def YX(n:Nat):Code->Option Code
 |.region k ops d=>if k=n then some (.region k ops d) else none
 |.seq a b=>match YX n a with
  |some c=>some c
  |none=>YX n b
 |.block _ c=>YX n c
 |.loop c=>YX n c
 |.cond _ a b=>match YX n a with
  |some c=>some c
  |none=>YX n b
 |_=>none
noncomputable def r19:Code:=(Try.f8.body.bind (YX 19)).getD .skip
theorem tk{l:List Oper}{Q0:Exit->Act->World->Prop}{S:World->Prop}{fuel:Nat}{listed:Array Bool}{t t':List Value}{c:List Deferred}{w:World}{d:Nat}{op:Op}{ty:Nat}{p:String}{b:Array Edge}{g:Option (Nat×Bool)}{v:Value}(i:Nat)(hi:l[i]? =some ⟨some d,op,ty,p,b,g⟩)
  (h:wpAnyH Try.prog .any l.toArray (NoPanic Q0) S fuel (listed.setIfInBounds i true) ⟨t'.toArray,c⟩ w) (hf:Region.free .any l.toArray listed i=true:=by decide+kernel) (hr:(Region.ready .any l.toArray listed).contains i=true:=by decide+kernel) (hw:Region.wanted ⟨some d,op,ty,p,b,g⟩ (yielded l.toArray t.toArray)=true:=by rfl) (hy:∀w,S w->(execOp (Act.eval ⟨t.toArray,c⟩) ⟨some d,op,ty,p,b,g⟩).run Try.prog w=.ok (.value v) w:=by(intro w h;(try dsimp only at h);go_simp;(try with_reducible rfl))) (ht:t.set d v=t':=by(simp only[List.set_cons_zero,List.set_cons_succ];rfl)) (hS:S w:=by assumption) (hs:Region.noSelect l.toArray=true:=by kernel_rfl):wpAnyH Try.prog .any l.toArray (NoPanic Q0) S (fuel+1) listed ⟨t.toArray,c⟩ w:=by
 subst ht;refine wpAnyH_take ((List.getElem?_toArray ..).trans hi) hs hf hr (λ_ _ _ h=>h) (Or.inl ⟨hw,hy⟩) hS ?_;simpa only[Act.put,List.setIfInBounds_toArray] using h
theorem cs{l:List Oper}{Q:Exit->Act->World->Prop}{S:World->Prop}{fuel:Nat}{listed:Array Bool}{a:Act}{w:World}{i:Nat}{oi:Oper}{rs:List Nat}
  (h:∀K':Act->World->Prop,Shut (∀a w,S w->(S w->wpAnyH Try.prog .any l.toArray Q S fuel (listed.setIfInBounds i true) a w)->K' a w)->if Region.wanted oi (yielded l.toArray a.tmps)=true then Oper.wp Try.prog oi a w K' Q else K' (a.put oi.dst undef) w)
  (hs:AllReadyH Try.prog .any l.toArray Q S fuel listed a w rs) (hi:l[i]? =some oi:=by rfl):AllReadyH Try.prog .any l.toArray Q S fuel listed a w (i::rs):=
 AllReadyH.cons ((List.getElem?_toArray ..).trans hi) h hs
theorem r19_ok(Q0:Exit->Act->World->Prop)(w wr:World)(bL m k6:Nat)(q6:Option Addr)(v:Nat->Value)(L:Nat->List Int)(hk:Kc w w.heap.size bL v L wr)(hml:m<16)(h6:(L 6).length=12)(e6:v 6=.slice q6 12 k6)(c0 c1 c5 c6 c7 c8 c9 c10 c11 c12 c13 c14 c15 c16 c17 c18 c19 c20 c21 c22 c23 c24 c25 c26 c27 c28 c29 c30 c31 c32 c33 c34 c35 c36 c37 c38 c39 c40 c41 c42 c43 c44 c45 c46 c47 c48 c49 c50 c51 c52 c53 c54 c55 c56 c57 c58 c59 c60 c61 c62 c63 c64 c65 c66 c67 c68 c69 c70 c71 c72 c73 c74 c75 c76 c77 c78 c79 c80 c81 c82 c83 c84 c85 c86 c87 c88 c89 c90 c91 c92 c93 c94 c95 c96 c97 c98 c99 c100 c101 c102 c103 c104 c105 c106 c107 c108 c109 c110 c111 c112 c113 c114 c115 c116 c117 c118 c119 c120 c121 c122 c123 c124 c125 c126 c127 c128 c129 c130 c131 c132 c133 c134 c135 c136 c137 c138 c139 c140 c141 c142 c143 c144 c145 c146 c147 c148 c149 c150 c151 c152 c153 c154 c155 c156 c157 c158 c159 c160 c161 c162 c163 c164 c165 c166 c167 c168 c169 c170 c171 c172 c173 c174 c175 c176 c177 c178 c179 c180 c181 c182 c183 c184 c185 c186 c187 c188 c189 c190 c191 c192 c193 c194 c195 c196 c197 c198 c199 c200 c201 c202 c203 c204 c205 c206 c207 c208 c209 c210 c211 c212 c213 c214 c215 c216 c217 c218 c219 c220 c221 c222 c223 c224 c225 c226 c227 c228 c229 c230 c231 c232 c233 c234 c235 c236 c237 c238 c239 c240 c241 c242 c243 c244 c245 c246 c247 c248:Value)
  (hQ:∀(d81 d82 d83 d84 d85 d86 d87 d88 d89 d90 d91 d92 d93 d94 d95 d96 d97 d98 d99 d100 d101 d102 d103 d104 d105 d106 d107 d108 d109 d110 d111 d112 d113 d114 d115 d116 d117 d118 d119 d120 d121 d122 d123 d124 d125 d126 d127 d128 d129 d130 d131 d132 d133 d134 d135 d136 d137 d138 d139 d140 d141 d142 d143 d144 d145 d146 d147 d148:Value) (w':World),Kc w w.heap.size bL v L w'->Q0 .normal ⟨#[c0,c1,.int .i64 m,.pointer (some ⟨bL,0,none⟩),.slice q6 12 k6,c5,c6,c7,c8,c9,c10,c11,c12,c13,c14,c15,c16,c17,c18,c19,c20,c21,c22,c23,c24,c25,c26,c27,c28,c29,c30,c31,c32,c33,c34,c35,c36,c37,c38,c39,c40,c41,c42,c43,c44,c45,c46,c47,c48,c49,c50,c51,c52,c53,c54,c55,c56,c57,c58,c59,c60,c61,c62,c63,c64,c65,c66,c67,c68,c69,c70,c71,c72,c73,c74,c75,c76,c77,c78,c79,c80,d81,d82,d83,d84,d85,d86,d87,d88,d89,d90,d91,d92,d93,d94,d95,d96,d97,d98,d99,d100,d101,d102,d103,d104,d105,d106,d107,d108,d109,d110,d111,d112,d113,d114,d115,d116,d117,d118,d119,d120,d121,d122,d123,d124,d125,d126,d127,d128,d129,d130,d131,d132,d133,d134,d135,d136,d137,d138,d139,d140,d141,d142,d143,d144,d145,d146,d147,d148,.bool false,c150,c151,c152,c153,c154,c155,c156,c157,c158,c159,c160,c161,c162,c163,c164,c165,c166,c167,c168,c169,c170,c171,c172,c173,c174,c175,c176,c177,c178,c179,c180,c181,c182,c183,c184,c185,c186,c187,c188,c189,c190,c191,c192,c193,c194,c195,c196,c197,c198,c199,c200,c201,c202,c203,c204,c205,c206,c207,c208,c209,c210,c211,c212,c213,c214,c215,c216,c217,c218,c219,c220,c221,c222,c223,c224,c225,c226,c227,c228,c229,c230,c231,c232,c233,c234,c235,c236,c237,c238,c239,c240,c241,c242,c243,c244,c245,c246,c247,c248],[]⟩ w'):Code.wp Try.prog r19 Q0 ⟨#[c0,c1,.int .i64 m,.pointer (some ⟨bL,0,none⟩),.slice q6 12 k6,c5,c6,c7,c8,c9,c10,c11,c12,c13,c14,c15,c16,c17,c18,c19,c20,c21,c22,c23,c24,c25,c26,c27,c28,c29,c30,c31,c32,c33,c34,c35,c36,c37,c38,c39,c40,c41,c42,c43,c44,c45,c46,c47,c48,c49,c50,c51,c52,c53,c54,c55,c56,c57,c58,c59,c60,c61,c62,c63,c64,c65,c66,c67,c68,c69,c70,c71,c72,c73,c74,c75,c76,c77,c78,c79,c80,c81,c82,c83,c84,c85,c86,c87,c88,c89,c90,c91,c92,c93,c94,c95,c96,c97,c98,c99,c100,c101,c102,c103,c104,c105,c106,c107,c108,c109,c110,c111,c112,c113,c114,c115,c116,c117,c118,c119,c120,c121,c122,c123,c124,c125,c126,c127,c128,c129,c130,c131,c132,c133,c134,c135,c136,c137,c138,c139,c140,c141,c142,c143,c144,c145,c146,c147,c148,c149,c150,c151,c152,c153,c154,c155,c156,c157,c158,c159,c160,c161,c162,c163,c164,c165,c166,c167,c168,c169,c170,c171,c172,c173,c174,c175,c176,c177,c178,c179,c180,c181,c182,c183,c184,c185,c186,c187,c188,c189,c190,c191,c192,c193,c194,c195,c196,c197,c198,c199,c200,c201,c202,c203,c204,c205,c206,c207,c208,c209,c210,c211,c212,c213,c214,c215,c216,c217,c218,c219,c220,c221,c222,c223,c224,c225,c226,c227,c228,c229,c230,c231,c232,c233,c234,c235,c236,c237,c238,c239,c240,c241,c242,c243,c244,c245,c246,c247,c248],[]⟩ wr:=by
 conv=>arg 2;whnf
 have hm6:Int.tmod (m:Int) 6=((m%6:Nat):Int):=rfl;have hm8:Int.tmod (m:Int) 8=((m%8:Nat):Int):=rfl;have hm4:Int.tmod (m:Int) 4=((m%4:Nat):Int):=rfl;have hm3:Int.tmod (m:Int) 3=((m%3:Nat):Int):=rfl;have hm5:Int.tmod (m:Int) 5=((m%5:Nat):Int):=rfl;have hcap:12<=k6:=by
  rcases (hk.own 6 (by omega)).2 with ⟨_,h0⟩|⟨g,cap,cur,h1,_,_,h3,_⟩
  ·rw[h6]at h0;omega
  ·injection (e6.symm.trans h1) with _ _ h9;omega
 have b0:(0:Int)<=(m:Int)%6:=by omega
 have b1:(m:Int)%6<=(k6:Int):=by omega
 have b2:(0:Int)<=(m:Int)%4:=by omega
 have b3:(m:Int)%4<=(k6:Int):=by omega
 have b4:(m:Int)%4<=3:=by omega
 have b5:(0:Int)<=(m:Int)%3:=by omega
 have b6:(m:Int)%3<=(k6:Int):=by omega
 have b7:(m:Int)%3<=2:=by omega
 simp only[List.append_eq,List.cons_append,List.nil_append];refine wp_region_noPanic ?_;refine wp_region_held_drew (S:=(λw'=>w'.cell? ⟨bL,0,none⟩=some (v 0)/\w'.cell? ⟨bL,1,none⟩=some (v 1)/\w'.cell? ⟨bL,2,none⟩=some (v 2)/\w'.cell? ⟨bL,3,none⟩=some (v 3)/\w'.cell? ⟨bL,4,none⟩=some (v 4)/\w'.cell? ⟨bL,5,none⟩=some (v 5)/\Kc w w.heap.size bL v L w')) (by kernel_rfl) ?_ (λhHeld=> ?_)
 ·try dsimp only
  exact hk.drew.all
 refine tk 0 rfl ?_;refine tk 1 rfl ?_;refine tk 2 rfl ?_;refine tk 3 rfl ?_;refine wpAnyH_ready (rs:=[4]) (by kernel_rfl) (by simp) (cs (λK hK=> ?_) AllReadyH.nil)
 go_simp
 go_at_call 3;refine(Kc.c3 (by go_split_ands;assumption)).mono ?_;rintro e w3 ⟨⟨rfl,hb⟩⟩
 go_wp2_with fail
 refine hK.out _ _ ?_ ?_
 ·(try dsimp only);(try go_split_ands);refine Kc.all (Kc.bel' ?_ hb);repeat (first|assumption|refine Kc.drew ?_|refine Kc.alloc ?_ _)
 clear hHeld hK K;intro hHeld;refine tk 5 rfl ?_;refine tk 6 rfl ?_;refine tk 7 rfl ?_;refine tk 8 rfl ?_;refine tk 9 rfl ?_;refine tk 10 rfl ?_;refine tk 11 rfl ?_;refine tk 12 rfl ?_;refine wpAnyH_ready (rs:=[13]) (by kernel_rfl) (by simp) (cs (λK hK=> ?_) AllReadyH.nil)
 go_simp
 go_at_call 5;refine(Kc.c5 (by go_split_ands;assumption)).mono ?_;rintro e w5 ⟨⟨rfl,hb⟩⟩
 go_wp2_with fail
 refine hK.out _ _ ?_ ?_
 ·(try dsimp only);(try go_split_ands);refine Kc.all (Kc.bel' ?_ hb);repeat (first|assumption|refine Kc.drew ?_|refine Kc.alloc ?_ _)
 clear hHeld hK K;intro hHeld;refine tk 14 rfl ?_;refine tk 15 rfl ?_;refine tk 16 rfl ?_;refine tk 17 rfl ?_;refine tk 18 rfl ?_;refine tk 19 rfl ?_;refine tk 20 rfl ?_;refine tk 21 rfl ?_;refine tk 22 rfl ?_;refine wpAnyH_ready (rs:=[23]) (by kernel_rfl) (by simp) (cs (λK hK=> ?_) AllReadyH.nil)
 go_simp
 go_at_call 4;refine(Kc.c4 (by go_split_ands;assumption) e6 h6 (by omega)).mono ?_;rintro e w4 ⟨⟨rfl,hb⟩⟩
 go_wp2_with fail
 refine hK.out _ _ ?_ ?_
 ·(try dsimp only);(try go_split_ands);refine Kc.all (Kc.bel' ?_ hb);repeat (first|assumption|refine Kc.drew ?_|refine Kc.alloc ?_ _)
 clear hHeld hK K;intro hHeld;refine tk 24 rfl ?_;refine tk 25 rfl ?_;refine tk 26 rfl ?_;refine tk 27 rfl ?_;refine tk 28 rfl ?_;refine tk 30 rfl ?_;refine tk 31 rfl ?_;refine wpAnyH_ready (rs:=[29]) (by kernel_rfl) (by simp) (cs (λK hK=> ?_) AllReadyH.nil)
 go_simp
 refine hK.out _ _ ?_ ?_
 ·(try dsimp only);(try go_split_ands);refine Kc.all (?_);repeat (first|assumption|refine Kc.drew ?_|refine Kc.alloc ?_ _)
 clear hHeld hK K;intro hHeld;refine wpAnyH_ready (rs:=[32]) (by kernel_rfl) (by simp) (cs (λK hK=> ?_) AllReadyH.nil)
 go_simp
 go_wp2_with fail
 refine hK.out _ _ ?_ ?_
 ·(try dsimp only);(try go_split_ands);refine Kc.all (?_);repeat (first|assumption|refine Kc.drew ?_|refine Kc.alloc ?_ _)
 clear hHeld hK K;intro hHeld;refine wpAnyH_ready (rs:=[33]) (by kernel_rfl) (by simp) (cs (λK hK=> ?_) AllReadyH.nil)
 go_simp
 go_wp2_with fail
 refine hK.out _ _ ?_ ?_
 ·(try dsimp only);(try go_split_ands);refine Kc.all (?_);repeat (first|assumption|refine Kc.drew ?_|refine Kc.alloc ?_ _)
 clear hHeld hK K;intro hHeld;refine wpAnyH_ready (rs:=[34]) (by kernel_rfl) (by simp) (cs (λK hK=> ?_) AllReadyH.nil)
 go_simp
 go_at_call 6;refine(Kc.c6 (by go_split_ands;assumption) _).mono ?_;rintro e w6 ⟨⟨rfl,hb⟩⟩
 go_wp2_with fail
 refine hK.out _ _ ?_ ?_
 ·(try dsimp only);(try go_split_ands);refine Kc.all (Kc.bel' ?_ hb);repeat (first|assumption|refine Kc.drew ?_|refine Kc.alloc ?_ _)
 clear hHeld hK K;intro hHeld;refine tk 35 rfl ?_;refine tk 36 rfl ?_;refine tk 37 rfl ?_;refine tk 38 rfl ?_;refine tk 39 rfl ?_;refine tk 40 rfl ?_;refine tk 41 rfl ?_;refine tk 43 rfl ?_;refine tk 44 rfl ?_;refine tk 48 rfl ?_;refine tk 49 rfl ?_;refine tk 51 rfl ?_;refine tk 52 rfl ?_;refine tk 53 rfl ?_;refine tk 54 rfl ?_;refine tk 57 rfl ?_;refine tk 58 rfl ?_;refine tk 59 rfl ?_;refine tk 60 rfl ?_;refine tk 61 rfl ?_;refine tk 63 rfl ?_;refine tk 64 rfl ?_;refine wpAnyH_ready (rs:=[42,47,62]) (by kernel_rfl) (by simp) (cs (λK hK=> ?_) (cs (λK hK=> ?_) (cs (λK hK=> ?_) AllReadyH.nil)));all_goals
  go_simp
  refine hK.out _ _ ?_ ?_
  ·(try dsimp only);(try go_split_ands);refine Kc.all (?_);repeat (first|assumption|refine Kc.drew ?_|refine Kc.alloc ?_ _)
  clear hHeld hK K;intro hHeld;repeat (first|refine tk 45 rfl ?_|refine tk 46 rfl ?_|refine tk 50 rfl ?_|refine tk 55 rfl ?_|refine tk 56 rfl ?_|refine tk 65 rfl ?_)
 refine wpAnyH_ready (rs:=[47,62]) (by kernel_rfl) (by simp) (cs (λK hK=> ?_) (cs (λK hK=> ?_) AllReadyH.nil))
 rotate_left 2
 refine wpAnyH_ready (rs:=[42,62]) (by kernel_rfl) (by simp) (cs (λK hK=> ?_) (cs (λK hK=> ?_) AllReadyH.nil))
 rotate_left 2
 refine wpAnyH_ready (rs:=[42,47]) (by kernel_rfl) (by simp) (cs (λK hK=> ?_) (cs (λK hK=> ?_) AllReadyH.nil))
 rotate_left 2
 all_goals
  go_simp
  refine hK.out _ _ ?_ ?_
  ·(try dsimp only);(try go_split_ands);refine Kc.all (?_);repeat (first|assumption|refine Kc.drew ?_|refine Kc.alloc ?_ _)
  clear hHeld hK K;intro hHeld;repeat (first|refine tk 45 rfl ?_|refine tk 46 rfl ?_|refine tk 50 rfl ?_|refine tk 55 rfl ?_|refine tk 56 rfl ?_|refine tk 65 rfl ?_)
 refine wpAnyH_ready (rs:=[62]) (by kernel_rfl) (by simp) (cs (λK hK=> ?_) AllReadyH.nil)
 rotate_left
 refine wpAnyH_ready (rs:=[47]) (by kernel_rfl) (by simp) (cs (λK hK=> ?_) AllReadyH.nil)
 rotate_left
 refine wpAnyH_ready (rs:=[62]) (by kernel_rfl) (by simp) (cs (λK hK=> ?_) AllReadyH.nil)
 rotate_left
 refine wpAnyH_ready (rs:=[42]) (by kernel_rfl) (by simp) (cs (λK hK=> ?_) AllReadyH.nil)
 rotate_left
 refine wpAnyH_ready (rs:=[47]) (by kernel_rfl) (by simp) (cs (λK hK=> ?_) AllReadyH.nil)
 rotate_left
 refine wpAnyH_ready (rs:=[42]) (by kernel_rfl) (by simp) (cs (λK hK=> ?_) AllReadyH.nil)
 rotate_left
 all_goals
  go_simp
  refine hK.out _ _ ?_ ?_
  ·(try dsimp only);(try go_split_ands);refine Kc.all (?_);repeat (first|assumption|refine Kc.drew ?_|refine Kc.alloc ?_ _)
  clear hHeld hK K;intro hHeld;repeat (first|refine tk 45 rfl ?_|refine tk 46 rfl ?_|refine tk 50 rfl ?_|refine tk 55 rfl ?_|refine tk 56 rfl ?_|refine tk 65 rfl ?_)
  refine wpAnyH_ready (rs:=[66]) (by kernel_rfl) (by simp) (cs (λK hK=> ?_) AllReadyH.nil)
  go_simp
  go_at_call 7;refine(Kc.c7 (by go_split_ands;assumption) e6 h6 (by omega) (by omega) (by omega) (by omega) (by omega) (by first|omega|exact(wr8 _).1) (by first|exact al0 _ _ _ _ _ rfl|exact al1 _ _ _ _ _ rfl|exact al2 _ _ _ _ _ rfl) (by first|exact al0 _ _ _ _ _ rfl|exact al1 _ _ _ _ _ rfl|exact al2 _ _ _ _ _ rfl) (by first|exact al0 _ _ _ _ _ rfl|exact al1 _ _ _ _ _ rfl|exact al2 _ _ _ _ _ rfl)).mono ?_;rintro e w7 ⟨⟨rfl,hb⟩⟩
  go_wp2_with fail
  refine hK.out _ _ ?_ ?_
  ·(try dsimp only);(try go_split_ands);refine Kc.all (Kc.bel' ?_ hb);repeat (first|assumption|refine Kc.drew ?_|refine Kc.alloc ?_ _)
  clear hHeld hK K;intro hHeld;refine tk 67 rfl ?_;refine tk 68 rfl ?_;refine wpAnyH_done (by kernel_rfl) (NoPanic.normal ?_) _;exact hQ _ _ _ _ _ _ _ _ _ _ _ _ _ _ _ _ _ _ _ _ _ _ _ _ _ _ _ _ _ _ _ _ _ _ _ _ _ _ _ _ _ _ _ _ _ _ _ _ _ _ _ _ _ _ _ _ _ _ _ _ _ _ _ _ _ _ _ _ _ (by go_split_ands;assumption)
end Go.Proofs.Ytnmlmdlhhphcoaa
