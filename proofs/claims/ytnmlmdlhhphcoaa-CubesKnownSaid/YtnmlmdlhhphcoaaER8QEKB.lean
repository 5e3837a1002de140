/- A part of the proof. -/
import Derived.Test.YtnmlmdlhhphcoaaER8QEKD
set_option linter.all false
set_option maxRecDepth 100000
set_option maxHeartbeats 4000000
namespace Go.Proofs.Ytnmlmdlhhphcoaa
open Go.Abs Go.RowKit
attribute [local go_sem ↓] Go.wp_at_zero Go.wp_at_succ
theorem info5:(Try.prog.info? 5).map (λi=>(i.zero,i.size,i.bytes))=some (some (.int .u8 0),1,1):=by kernel_rfl
def Kg(n:Nat):Code->Option Code
 |.block k c=>if k=n then some (.block k c) else Kg n c
 |.seq a b=>match Kg n a with
  |some c=>some c
  |none=>Kg n b
 |.loop c=>Kg n c
 |.cond _ a b=>match Kg n a with
  |some c=>some c
  |none=>Kg n b
 |_=>none
noncomputable def b0c:Code:=(Try.f8.body.bind (Kg 0)).getD .skip
theorem loop_ok(K:Act->World->Prop)(w:World)(c0 c3 c4 c5 c6 c7 c8 c9 c10 c11 c12 c13 c14 c15 c16 c17 c18 c19 c20 c21 c22 c23 c24 c25 c26 c27 c28 c29 c30 c31 c32 c33 c34 c35 c36 c37 c38 c39 c40 c41 c42 c43 c44 c45 c46 c47 c48 c49 c50 c51 c52 c53 c54 c55 c56 c57 c58 c59 c60 c61 c62 c63 c64 c65 c66 c67 c68 c69 c70 c71 c72 c73 c74 c75 c76 c77 c78 c79 c80 c81 c82 c83 c84 c85 c86 c87 c88 c89 c90 c91 c92 c93 c94 c95 c96 c97 c98 c99 c100 c101 c102 c103 c104 c105 c106 c107 c108 c109 c110 c111 c112 c113 c114 c115 c116 c117 c118 c119 c120 c121 c122 c123 c124 c125 c126 c127 c128 c129 c130 c131 c132 c133 c134 c135 c136 c137 c138 c139 c140 c141 c142 c143 c144 c145 c146 c147 c148 c149 c150 c151 c152 c153 c154 c155 c156 c157 c158 c159 c160 c161 c162 c163 c164 c165 c166 c167 c168 c169 c170 c171 c172 c173 c174 c175 c176 c177 c178 c179 c180 c181 c182 c183 c184 c185 c186 c187 c188 c189 c190 c191 c192 c193 c194 c195 c196 c197 c198 c199 c200 c201 c202 c203 c204 c205 c206 c207 c208 c209 c210 c211 c212 c213 c214 c215 c216 c217 c218 c219 c220 c221 c222 c223 c224 c225 c226 c227 c228 c229 c230 c231 c232 c233 c234 c235 c236 c237 c238 c239 c240 c241 c242 c243 c244 c245 c246 c247 c248:Value)
  (hQ:∀(d0 d1 d2 d3 d4 d5 d6 d23 d24 d25 d26 d27 d28 d29 d30 d31 d32 d33 d34 d35 d36 d37 d38 d39 d40 d41 d42 d43 d44 d45 d46 d47 d48 d49 d50 d51 d52 d53 d54 d55 d56 d57 d58 d59 d60 d61 d62 d63 d64 d65 d66 d67 d68 d69 d70 d71 d72 d73 d74 d75 d76 d77 d78 d79 d80 d81 d82 d83 d84 d85 d86 d87 d88 d89 d90 d91 d92 d93 d94 d95 d96 d97 d98 d99 d100 d101 d102 d103 d104 d105 d106 d107 d108 d109 d110 d111 d112 d113 d114 d115 d116 d117 d118 d119 d120 d121 d122 d123 d124 d125 d126 d127 d128 d129 d130 d131 d132 d133 d134 d135 d136 d137 d138 d139 d140 d141 d142 d143 d144 d145 d146 d147 d148 d149:Value) (w':World),Fr (· <w.heap.size) w w'->K ⟨#[d0,d1,d2,d3,d4,d5,d6,c7,c8,c9,c10,c11,c12,c13,c14,c15,c16,c17,c18,c19,c20,c21,c22,d23,d24,d25,d26,d27,d28,d29,d30,d31,d32,d33,d34,d35,d36,d37,d38,d39,d40,d41,d42,d43,d44,d45,d46,d47,d48,d49,d50,d51,d52,d53,d54,d55,d56,d57,d58,d59,d60,d61,d62,d63,d64,d65,d66,d67,d68,d69,d70,d71,d72,d73,d74,d75,d76,d77,d78,d79,d80,d81,d82,d83,d84,d85,d86,d87,d88,d89,d90,d91,d92,d93,d94,d95,d96,d97,d98,d99,d100,d101,d102,d103,d104,d105,d106,d107,d108,d109,d110,d111,d112,d113,d114,d115,d116,d117,d118,d119,d120,d121,d122,d123,d124,d125,d126,d127,d128,d129,d130,d131,d132,d133,d134,d135,d136,d137,d138,d139,d140,d141,d142,d143,d144,d145,d146,d147,d148,d149,c150,c151,c152,c153,c154,c155,c156,c157,c158,c159,c160,c161,c162,c163,c164,c165,c166,c167,c168,c169,c170,c171,c172,c173,c174,c175,c176,c177,c178,c179,c180,c181,c182,c183,c184,c185,c186,c187,c188,c189,c190,c191,c192,c193,c194,c195,c196,c197,c198,c199,c200,c201,c202,c203,c204,c205,c206,c207,c208,c209,c210,c211,c212,c213,c214,c215,c216,c217,c218,c219,c220,c221,c222,c223,c224,c225,c226,c227,c228,c229,c230,c231,c232,c233,c234,c235,c236,c237,c238,c239,c240,c241,c242,c243,c244,c245,c246,c247,c248],[]⟩ w'):Code.wp Try.prog b0c (Exit.then K (bodyPost Try.prog Try.f8 (IsB true w))) ⟨#[c0,.int .i64 1,.int .i64 0,c3,c4,c5,c6,c7,c8,c9,c10,c11,c12,c13,c14,c15,c16,c17,c18,c19,c20,c21,c22,c23,c24,c25,c26,c27,c28,c29,c30,c31,c32,c33,c34,c35,c36,c37,c38,c39,c40,c41,c42,c43,c44,c45,c46,c47,c48,c49,c50,c51,c52,c53,c54,c55,c56,c57,c58,c59,c60,c61,c62,c63,c64,c65,c66,c67,c68,c69,c70,c71,c72,c73,c74,c75,c76,c77,c78,c79,c80,c81,c82,c83,c84,c85,c86,c87,c88,c89,c90,c91,c92,c93,c94,c95,c96,c97,c98,c99,c100,c101,c102,c103,c104,c105,c106,c107,c108,c109,c110,c111,c112,c113,c114,c115,c116,c117,c118,c119,c120,c121,c122,c123,c124,c125,c126,c127,c128,c129,c130,c131,c132,c133,c134,c135,c136,c137,c138,c139,c140,c141,c142,c143,c144,c145,c146,c147,c148,c149,c150,c151,c152,c153,c154,c155,c156,c157,c158,c159,c160,c161,c162,c163,c164,c165,c166,c167,c168,c169,c170,c171,c172,c173,c174,c175,c176,c177,c178,c179,c180,c181,c182,c183,c184,c185,c186,c187,c188,c189,c190,c191,c192,c193,c194,c195,c196,c197,c198,c199,c200,c201,c202,c203,c204,c205,c206,c207,c208,c209,c210,c211,c212,c213,c214,c215,c216,c217,c218,c219,c220,c221,c222,c223,c224,c225,c226,c227,c228,c229,c230,c231,c232,c233,c234,c235,c236,c237,c238,c239,c240,c241,c242,c243,c244,c245,c246,c247,c248],[]⟩ w:=by
 obtain⟨i1,hj,hy0,hy1,hy2⟩:=info_parts info5
 conv=>arg 2;whnf
 go_wp2
 go_loopw [1,2] (λk n wr=>∃(m kk:Nat),n=.int .i64 m/\k=.int .i64 kk/\kk<100003/\m<=16/\Fr (· <w.heap.size) w wr) (λ_ n _=>16 - (intOf n).toNat)
 case atStart=>exact⟨0,1,rfl,rfl,by decide,by decide,Fr.refl _ _⟩
 case round=>
  obtain⟨m,kk,rfl,rfl,hkk,hm,hf⟩:=hrel;by_cases hml:m<16
  ·go_wp2
   simp only[show decide ((m:Int)<16)=true from decide_eq_true (by omega)];have hk0:Kc w w.heap.size wr.heap.size (λ_=>.slice none 0 0) (λ_=>[]) (wr.alloc (Obj.cells #[Value.slice none 0 0,Value.slice none 0 0,Value.slice none 0 0,Value.slice none 0 0,Value.slice none 0 0,Value.slice none 0 0] 63)):=Kc.nil (hf.trans (Fr.alloc _ _ _)) hf.size (World.alloc_heap_new _ _);generalize (wr.alloc (Obj.cells #[Value.slice none 0 0,Value.slice none 0 0,Value.slice none 0 0,Value.slice none 0 0,Value.slice none 0 0,Value.slice none 0 0] 63))=wa at hk0⊢;clear hf;generalize wr.heap.size=bL at hk0⊢
   go_loopw [1,4,5] (λk v4 q wi=>∃(i kk:Nat) (v:Nat->Value) (L:Nat->List Int),q=.int .i64 i/\k=.int .i64 kk/\v4=v 6/\kk<100003/\i<=12/\(L 6).length=i/\(∀t,(L t).length<=3*i)/\Kc w w.heap.size bL v L wi) (λ_ _ q _=>12 - (intOf q).toNat)
   case atStart=>exact⟨0,kk,_,_,rfl,rfl,rfl,hkk,by decide,rfl,λt=>by simp,hk0⟩
   case round=>
    clear hkk hk0;obtain⟨i,kk,v,L,rfl,rfl,rfl,hkk,hi12,h6,hlen,hk⟩:=hrel;by_cases hil:i<12
    ·go_wp2
     simp only[show decide ((i:Int)<12)=true from decide_eq_true (by omega)]
     go_loopw [1,6] (λk q wi=>∃(j kk:Nat) (v':Nat->Value) (L:Nat->List Int),q=.int .i64 j/\k=.int .i64 kk/\kk<100003/\j<=3/\v' 6=v 6/\(L 6).length=i/\(∀t,(L t).length<=3*i+j)/\Kc w w.heap.size bL v' L wi) (λ_ q _=>3 - (intOf q).toNat)
     case atStart=>exact⟨0,kk,v,L,rfl,rfl,hkk,by decide,rfl,h6,hlen,hk⟩
     case round=>
      clear hkk hlen h6 hk L;obtain⟨j,kk,v',L,rfl,rfl,hkk,hj3,h6,h6l,hlen,hk⟩:=hrel;have hB:=hk.fr.size;have hm5:Int.tmod (m:Int) 5=((m%5:Nat):Int):=rfl;have hm8:Int.tmod (m:Int) 8=((m%8:Nat):Int):=rfl;by_cases hjl:j<3
      ·have hj0:(0:Int)<=(j:Int):=Int.natCast_nonneg _;have hj1:(j:Int)<3:=(by omega);by_cases hc:(i:Int)<((m%5:Nat):Int)
       ·go_wp2_with fail
        have hc0:=hk.cell (j*2) (by omega);have hown:=hk.own (j*2) (by omega);have hno:=hk.notown (t:=j*2) (by omega);have hll:=hk.lt
        go_region_law ((refine step_append_lies _ (by rfl) _ _ _ (by rfl) w.heap.size 5 i1 _ 1 1 Try.underlying22 hj hy0 hy1 hy2 rfl (by omega) (v' (j*2)) (L (j*2)).length _ (by rfl) ((hown.alloc _).drew) ⟨wr.heap.size,0,none⟩ 1 1 [_] (by rfl) (by rfl) (World.news_of_block (cs:= #[_]) (t:=5) (fr:=(0,0)) (heap_alloc_new _ _)) (by simp[Value.oneCell']) (by omega) (by have:=hlen (j*2);unfold maxLen;omega) (by have:=hlen (j*2);omega) (by simp;omega) wr.heap.size.succ (by simp) ?_;intro gg cap w1 hown1 hgrow hat hlt;have hf1:w1.frozen? ⟨bL,j*2,none⟩=false:=(hgrow.frozen_far _ (by simp;omega) (Ne.symm hno)).trans (((hk.alloc _).drew).fz _);have hc1:w1.cell? ⟨bL,j*2,none⟩=some (v' (j*2)):=(hgrow.cell_far _ (by simp;omega) (Ne.symm hno)).trans (((hk.alloc _).drew).cell _ (by omega))))
        all_goals
         have hk2:=((((hk.alloc _).drew).push (t:=j*2) (by omega) (wr8 _) hown1 hgrow (hat.imp Eq.symm λh=>⟨gg,by subst h;exact Nat.le_of_eq (World.size_alloc _ _),rfl⟩)).store (by omega));have h62:upd v' (j*2) (.slice (some ⟨gg,0,none⟩) ((L (j*2)).length+1) cap) 6=v 6:=(Zt (by omega)).trans h6;have h6l2:=upd_len (t:=j*2) (x:=IntKind.u8.wrap (↑kk / 2^j)) hlen;have h6m2:(upd L (j*2) (L (j*2)++[IntKind.u8.wrap (↑kk / 2^j)]) 6).length=i:=(by rw[Zt (by omega)];exact h6l);clear hk hown1 hgrow hat hlt hf1 hc1 hc0 hown hno hll hlen h6l h6;generalize upd v' (j*2) (.slice (some ⟨gg,0,none⟩) ((L (j*2)).length+1) cap)=v2 at hk2 h62;generalize upd L (j*2) (L (j*2)++[IntKind.u8.wrap (↑kk / 2^j)])=L2 at hk2 h6l2 h6m2
         go_wp2
         go_roundw
         case rel=>exact⟨j+1,(kk*31+7*i+11)%100003,v2,L2,by simp,by simp,Nat.mod_lt _ (by decide),by omega,h62,h6m2,h6l2,hk2⟩
         case measure=>simp[intOf];omega
       ·by_cases hd:(i:Int)<((m%8:Nat):Int)
        ·go_wp2_with fail
         have hc0:=hk.cell (j*2+1) (by omega);have hown:=hk.own (j*2+1) (by omega);have hno:=hk.notown (t:=j*2+1) (by omega);have hll:=hk.lt
         go_region_law ((refine step_append_lies _ (by rfl) _ _ _ (by rfl) w.heap.size 5 i1 _ 1 1 Try.underlying22 hj hy0 hy1 hy2 rfl (by omega) (v' (j*2+1)) (L (j*2+1)).length _ (by rfl) ((hown.alloc _).drew) ⟨wr.heap.size,0,none⟩ 1 1 [_] (by rfl) (by rfl) (World.news_of_block (cs:= #[_]) (t:=5) (fr:=(0,0)) (heap_alloc_new _ _)) (by simp[Value.oneCell']) (by omega) (by have:=hlen (j*2+1);unfold maxLen;omega) (by have:=hlen (j*2+1);omega) (by simp;omega) wr.heap.size.succ (by simp) ?_;intro gg cap w1 hown1 hgrow hat hlt;have hf1:w1.frozen? ⟨bL,j*2+1,none⟩=false:=(hgrow.frozen_far _ (by simp;omega) (Ne.symm hno)).trans (((hk.alloc _).drew).fz _);have hc1:w1.cell? ⟨bL,j*2+1,none⟩=some (v' (j*2+1)):=(hgrow.cell_far _ (by simp;omega) (Ne.symm hno)).trans (((hk.alloc _).drew).cell _ (by omega))))
         all_goals
          have hk2:=((((hk.alloc _).drew).push (t:=j*2+1) (by omega) (wr8 _) hown1 hgrow (hat.imp Eq.symm λh=>⟨gg,by subst h;exact Nat.le_of_eq (World.size_alloc _ _),rfl⟩)).store (by omega));have h62:upd v' (j*2+1) (.slice (some ⟨gg,0,none⟩) ((L (j*2+1)).length+1) cap) 6=v 6:=(Zt (by omega)).trans h6;have h6l2:=upd_len (t:=j*2+1) (x:=IntKind.u8.wrap (↑kk / 2^j)) hlen;have h6m2:(upd L (j*2+1) (L (j*2+1)++[IntKind.u8.wrap (↑kk / 2^j)]) 6).length=i:=(by rw[Zt (by omega)];exact h6l);clear hk hown1 hgrow hat hlt hf1 hc1 hc0 hown hno hll hlen h6l h6;generalize upd v' (j*2+1) (.slice (some ⟨gg,0,none⟩) ((L (j*2+1)).length+1) cap)=v2 at hk2 h62;generalize upd L (j*2+1) (L (j*2+1)++[IntKind.u8.wrap (↑kk / 2^j)])=L2 at hk2 h6l2 h6m2
          go_wp2
          go_roundw
          case rel=>exact⟨j+1,(kk*31+7*i+11)%100003,v2,L2,by simp,by simp,Nat.mod_lt _ (by decide),by omega,h62,h6m2,h6l2,hk2⟩
          case measure=>simp[intOf];omega
        ·go_wp2
         go_roundw
         case rel=>exact⟨j+1,(kk*31+7*i+11)%100003,v',L,by simp,by simp,Nat.mod_lt _ (by decide),by omega,h6,h6l,λt=>by have:=hlen t;omega,hk⟩
         case measure=>simp[intOf];omega
      ·have hj3':j=3:=(by omega);subst hj3';have hown:=hk.own 6 (by omega);rw[h6]at hown
       go_wp2_with (at_builtin;refine wpList_append_own_at _ rfl (.tmp 76) (.tmp 79) 22 rfl w.heap.size 5 i1 (.int .u8 0) 1 1 Try.underlying22 hj hy0 hy1 hy2 rfl (by decide) (v 6) (L 6).length _ rfl (hown.alloc _) ⟨wr.heap.size,0,none⟩ 1 1 [.int .u8 ((kk:Int)%256)] rfl rfl ?x1 ?x2 ?x3 ?x4 ?x5 ?_)
       try case x1=>
        intro j' u hj'
        match j',hj' with
        |0,hj'=>simp at hj';subst hj';simp[Addr.add]
       case x2=>first|rfl|(intro u hu;simp at hu;subst hu;rfl)
       case x3=>unfold maxLen;omega
       case x4=>omega
       case x5=>first|omega|(simp;omega)
       intro v4 w2 ho2 hg2 _ hat2;rw[<-h6]at hg2 hat2;have hk2:=((hk.alloc _).push (t:=6) (x:=(kk:Int)%256) (by omega) ⟨by omega,by omega⟩ (by rw[h6l];exact ho2) hg2 (hat2.imp (λh=>h) λh=>⟨_,by simp,h⟩)).seven;have h6l2:(upd L 6 (L 6++[(kk:Int)%256]) 6).length=i+1:=(by rw[Ze];simp;exact h6l);have hlen2:∀t,(upd L 6 (L 6++[(kk:Int)%256]) t).length<=3*i+3:=λt=>by
        by_cases e:t=6
        ·subst e;rw[h6l2];omega
        ·rw[Zt e];exact hlen t
       have h62:v4=upd v' 6 v4 6:=(Ze _ _ _).symm;clear hk ho2 hg2 hat2 hlen h6l h6 hown;generalize upd v' 6 v4=v2 at hk2 h62;generalize upd L 6 (L 6++[(kk:Int)%256])=L2 at hk2 hlen2 h6l2
       go_wp2
       go_roundw
       case rel=>exact⟨i+1,kk,v2,L2,by simp,rfl,h62,hkk,by omega,h6l2,λt=>by have:=hlen2 t;omega,hk2⟩
       case measure=>simp[intOf];omega
    ·have hi12':i=12:=(by omega);subst hi12';obtain⟨q6,k6,e6⟩:=own_slice (hk.own 6 (by omega));rw[h6]at e6;rw[e6];clear hlen hi12 hil
     go_wp2_with fail
     refine r19_ok _ w wr bL m k6 q6 v L hk hml h6 e6 _ _ _ _ _ _ _ _ _ _ _ _ _ _ _ _ _ _ _ _ _ _ _ _ _ _ _ _ _ _ _ _ _ _ _ _ _ _ _ _ _ _ _ _ _ _ _ _ _ _ _ _ _ _ _ _ _ _ _ _ _ _ _ _ _ _ _ _ _ _ _ _ _ _ _ _ _ _ _ _ _ _ _ _ _ _ _ _ _ _ _ _ _ _ _ _ _ _ _ _ _ _ _ _ _ _ _ _ _ _ _ _ _ _ _ _ _ _ _ _ _ _ _ _ _ _ _ _ _ _ _ _ _ _ _ _ _ _ _ _ _ _ _ _ _ _ _ _ _ _ _ _ _ _ _ _ _ _ _ _ _ _ _ _ _ _ _ _ _ _ _ _ _ _ _ _ _ _ _ _ _ _ _ _ _ _ _ _ _ _ _ _ _ _ _ _ _ _ _ _ _ _ _ _ _ _ _ _ _ _ _ _ _ _ _ _ _ _ _ _ _ _ _ _ _ _ _ _ _ _ _ _ _ _ _ _ _ _ _ _ _ _ _ _ _ _  ?_;intro d81 d82 d83 d84 d85 d86 d87 d88 d89 d90 d91 d92 d93 d94 d95 d96 d97 d98 d99 d100 d101 d102 d103 d104 d105 d106 d107 d108 d109 d110 d111 d112 d113 d114 d115 d116 d117 d118 d119 d120 d121 d122 d123 d124 d125 d126 d127 d128 d129 d130 d131 d132 d133 d134 d135 d136 d137 d138 d139 d140 d141 d142 d143 d144 d145 d146 d147 d148 w7 hk7;have hf7:=hk7.fr;clear hk hk7 h6 e6
     go_wp2
     go_roundw
     case rel=>exact⟨m+1,kk,by simp,rfl,hkk,by omega,hf7⟩
     case measure=>simp[intOf];omega
  ·have hm16:m=16:=(by omega);subst hm16;clear hm hml hkk
   go_wp2
   exact hf
end Go.Proofs.Ytnmlmdlhhphcoaa
