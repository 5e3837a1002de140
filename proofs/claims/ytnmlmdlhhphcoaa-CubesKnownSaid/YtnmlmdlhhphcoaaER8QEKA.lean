/- A part of the proof. -/
import Derived.Test.YtnmlmdlhhphcoaaER8QEq
set_option linter.all false
set_option maxRecDepth 100000
set_option maxHeartbeats 4000000
namespace Go.Proofs.Ytnmlmdlhhphcoaa
open Go.Abs Go.RowKit
attribute [local go_sem ↓] Go.wp_at_zero Go.wp_at_succ strs_cell
def YX(n:Nat):Code->Option Code
 |.region k ops d=>if k=n then some (.region k ops d) else none
 |.seq a b=>match YX n a with
  |some c=>some c
  |none=>YX n b
 |.block _ c=>YX n c
 |.loop c=>YX n c
 |.cond _ a b=>match YX n a with
  |some c=>some c
  |none=>YX n b
 |_=>none
noncomputable def r19:Code:=(Try.f8.body.bind (YX 19)).getD .skip
theorem r19_ok(Q0:Exit->Act->World->Prop)(w wr:World)(bL m k6:Nat)(q6:Option Addr)(v:Nat->Value)(L:Nat->List Int)(hk:Kc w w.heap.size bL v L wr)(hml:m<16)(h6:(L 6).length=12)(e6:v 6=.slice q6 12 k6)(c0 c1 c5 c6 c7 c8 c9 c10 c11 c12 c13 c14 c15 c16 c17 c18 c19 c20 c21 c22 c23 c24 c25 c26 c27 c28 c29 c30 c31 c32 c33 c34 c35 c36 c37 c38 c39 c40 c41 c42 c43 c44 c45 c46 c47 c48 c49 c50 c51 c52 c53 c54 c55 c56 c57 c58 c59 c60 c61 c62 c63 c64 c65 c66 c67 c68 c69 c70 c71 c72 c73 c74 c75 c76 c77 c78 c79 c80 c81 c82 c83 c84 c85 c86 c87 c88 c89 c90 c91 c92 c93 c94 c95 c96 c97 c98 c99 c100 c101 c102 c103 c104 c105 c106 c107 c108 c109 c110 c111 c112 c113 c114 c115 c116 c117 c118 c119 c120 c121 c122 c123 c124 c125 c126 c127 c128 c129 c130 c131 c132 c133 c134 c135 c136 c137 c138 c139 c140 c141 c142 c143 c144 c145 c146 c147 c148 c149 c150 c151 c152 c153 c154 c155 c156 c157 c158 c159 c160 c161 c162 c163 c164 c165 c166 c167 c168 c169 c170 c171 c172 c173 c174 c175 c176 c177 c178 c179 c180 c181 c182 c183 c184 c185 c186 c187 c188 c189 c190 c191 c192 c193 c194 c195 c196 c197 c198 c199 c200 c201 c202 c203 c204 c205 c206 c207 c208 c209 c210 c211 c212 c213 c214 c215 c216 c217 c218 c219 c220 c221 c222 c223 c224 c225 c226 c227 c228 c229 c230 c231 c232 c233 c234 c235 c236 c237 c238 c239 c240 c241 c242 c243 c244 c245 c246 c247 c248:Value)
  (hQ:∀(d81 d82 d83 d84 d85 d86 d87 d88 d89 d90 d91 d92 d93 d94 d95 d96 d97 d98 d99 d100 d101 d102 d103 d104 d105 d106 d107 d108 d109 d110 d111 d112 d113 d114 d115 d116 d117 d118 d119 d120 d121 d122 d123 d124 d125 d126 d127 d128 d129 d130 d131 d132 d133 d134 d135 d136 d137 d138 d139 d140 d141 d142 d143 d144 d145 d146 d147 d148:Value) (w':World),Kc w w.heap.size bL v L w'->Q0 .normal ⟨#[c0,c1,.int .i64 m,.pointer (some ⟨bL,0,none⟩),.slice q6 12 k6,c5,c6,c7,c8,c9,c10,c11,c12,c13,c14,c15,c16,c17,c18,c19,c20,c21,c22,c23,c24,c25,c26,c27,c28,c29,c30,c31,c32,c33,c34,c35,c36,c37,c38,c39,c40,c41,c42,c43,c44,c45,c46,c47,c48,c49,c50,c51,c52,c53,c54,c55,c56,c57,c58,c59,c60,c61,c62,c63,c64,c65,c66,c67,c68,c69,c70,c71,c72,c73,c74,c75,c76,c77,c78,c79,c80,d81,d82,d83,d84,d85,d86,d87,d88,d89,d90,d91,d92,d93,d94,d95,d96,d97,d98,d99,d100,d101,d102,d103,d104,d105,d106,d107,d108,d109,d110,d111,d112,d113,d114,d115,d116,d117,d118,d119,d120,d121,d122,d123,d124,d125,d126,d127,d128,d129,d130,d131,d132,d133,d134,d135,d136,d137,d138,d139,d140,d141,d142,d143,d144,d145,d146,d147,d148,.bool false,c150,c151,c152,c153,c154,c155,c156,c157,c158,c159,c160,c161,c162,c163,c164,c165,c166,c167,c168,c169,c170,c171,c172,c173,c174,c175,c176,c177,c178,c179,c180,c181,c182,c183,c184,c185,c186,c187,c188,c189,c190,c191,c192,c193,c194,c195,c196,c197,c198,c199,c200,c201,c202,c203,c204,c205,c206,c207,c208,c209,c210,c211,c212,c213,c214,c215,c216,c217,c218,c219,c220,c221,c222,c223,c224,c225,c226,c227,c228,c229,c230,c231,c232,c233,c234,c235,c236,c237,c238,c239,c240,c241,c242,c243,c244,c245,c246,c247,c248],[]⟩ w'):Code.wp Try.prog r19 Q0 ⟨#[c0,c1,.int .i64 m,.pointer (some ⟨bL,0,none⟩),.slice q6 12 k6,c5,c6,c7,c8,c9,c10,c11,c12,c13,c14,c15,c16,c17,c18,c19,c20,c21,c22,c23,c24,c25,c26,c27,c28,c29,c30,c31,c32,c33,c34,c35,c36,c37,c38,c39,c40,c41,c42,c43,c44,c45,c46,c47,c48,c49,c50,c51,c52,c53,c54,c55,c56,c57,c58,c59,c60,c61,c62,c63,c64,c65,c66,c67,c68,c69,c70,c71,c72,c73,c74,c75,c76,c77,c78,c79,c80,c81,c82,c83,c84,c85,c86,c87,c88,c89,c90,c91,c92,c93,c94,c95,c96,c97,c98,c99,c100,c101,c102,c103,c104,c105,c106,c107,c108,c109,c110,c111,c112,c113,c114,c115,c116,c117,c118,c119,c120,c121,c122,c123,c124,c125,c126,c127,c128,c129,c130,c131,c132,c133,c134,c135,c136,c137,c138,c139,c140,c141,c142,c143,c144,c145,c146,c147,c148,c149,c150,c151,c152,c153,c154,c155,c156,c157,c158,c159,c160,c161,c162,c163,c164,c165,c166,c167,c168,c169,c170,c171,c172,c173,c174,c175,c176,c177,c178,c179,c180,c181,c182,c183,c184,c185,c186,c187,c188,c189,c190,c191,c192,c193,c194,c195,c196,c197,c198,c199,c200,c201,c202,c203,c204,c205,c206,c207,c208,c209,c210,c211,c212,c213,c214,c215,c216,c217,c218,c219,c220,c221,c222,c223,c224,c225,c226,c227,c228,c229,c230,c231,c232,c233,c234,c235,c236,c237,c238,c239,c240,c241,c242,c243,c244,c245,c246,c247,c248],[]⟩ wr:=by
 conv=>arg 2;whnf
 have hm6:Int.tmod (m:Int) 6=((m%6:Nat):Int):=rfl;have hm8:Int.tmod (m:Int) 8=((m%8:Nat):Int):=rfl;have hm4:Int.tmod (m:Int) 4=((m%4:Nat):Int):=rfl;have hm3:Int.tmod (m:Int) 3=((m%3:Nat):Int):=rfl;have hm5:Int.tmod (m:Int) 5=((m%5:Nat):Int):=rfl;have hcap:12<=k6:=by
  rcases (hk.own 6 (by omega)).2 with ⟨_,h0⟩|⟨g,cap,cur,h1,_,_,h3,_⟩
  ·rw[h6]at h0;omega
  ·injection (e6.symm.trans h1) with _ _ h9;omega
 have b0:(0:Int)<=(m:Int)%6:=by omega
 have b1:(m:Int)%6<=(k6:Int):=by omega
 have b2:(0:Int)<=(m:Int)%4:=by omega
 have b3:(m:Int)%4<=(k6:Int):=by omega
 have b4:(m:Int)%4<=3:=by omega
 have b5:(0:Int)<=(m:Int)%3:=by omega
 have b6:(m:Int)%3<=(k6:Int):=by omega
 have b7:(m:Int)%3<=2:=by omega
 simp only[List.append_eq,List.cons_append,List.nil_append]
 go_region_held3 (λw'=>w'.cell? ⟨bL,0,none⟩=some (v 0)/\w'.cell? ⟨bL,1,none⟩=some (v 1)/\w'.cell? ⟨bL,2,none⟩=some (v 2)/\w'.cell? ⟨bL,3,none⟩=some (v 3)/\w'.cell? ⟨bL,4,none⟩=some (v 4)/\w'.cell? ⟨bL,5,none⟩=some (v 5)/\Kc w w.heap.size bL v L w')
  (first
   |((try dsimp only);(try go_split_ands);refine Kc.all ?_;(repeat (first|assumption|refine Kc.drew ?_|refine Kc.alloc ?_ _));done)
   |((try dsimp only);(try go_split_ands);refine Kc.all (Kc.bel' ?_ hb);(repeat (first|assumption|refine Kc.drew ?_|refine Kc.alloc ?_ _));done)
   |go_keep)
  (first
   |(go_at_call 3;refine(Kc.c3 (by go_split_ands;assumption)).mono ?_;rintro e w3 ⟨⟨rfl,hb⟩⟩)
   |(go_at_call 5;refine(Kc.c5 (by go_split_ands;assumption)).mono ?_;rintro e w5 ⟨⟨rfl,hb⟩⟩)
   |(go_at_call 4;refine(Kc.c4 (by go_split_ands;assumption) e6 h6 (by omega)).mono ?_;rintro e w4 ⟨⟨rfl,hb⟩⟩)
   |(go_at_call 6;refine(Kc.c6 (by go_split_ands;assumption) _).mono ?_;rintro e w6 ⟨⟨rfl,hb⟩⟩)
   |(go_at_call 7;refine(Kc.c7 (by go_split_ands;assumption) e6 h6 (by omega) (by omega) (by omega) (by omega) (by omega) (by first|omega|exact(wr8 _).1) (by first|exact al0 _ _ _ _ _ rfl|exact al1 _ _ _ _ _ rfl|exact al2 _ _ _ _ _ rfl) (by first|exact al0 _ _ _ _ _ rfl|exact al1 _ _ _ _ _ rfl|exact al2 _ _ _ _ _ rfl) (by first|exact al0 _ _ _ _ _ rfl|exact al1 _ _ _ _ _ rfl|exact al2 _ _ _ _ _ rfl)).mono ?_;rintro e w7 ⟨⟨rfl,hb⟩⟩))
 all_goals exact hQ _ _ _ _ _ _ _ _ _ _ _ _ _ _ _ _ _ _ _ _ _ _ _ _ _ _ _ _ _ _ _ _ _ _ _ _ _ _ _ _ _ _ _ _ _ _ _ _ _ _ _ _ _ _ _ _ _ _ _ _ _ _ _ _ _ _ _ _  _ (by go_split_ands;assumption)
end Go.Proofs.Ytnmlmdlhhphcoaa
