/- A part of the proof. -/
import Derived.Test.YtpbplpgfloaaiaaGreatDoorXS2QZc
import Derived.Test.YtpbplpgfloaaiaaGreatDoorXS2QZb
import Derived.Test.YtpbplpgfloaaiaaGreatDoorXS2QZd
import Derived.Test.YtpbplpgfloaaiaaGreatDoorXS2QSyL
import Derived.Test.YtpbplpgfloaaiaaGreatDoorXS2QAbsY
import Derived.BigRegion
import Derived.StillTailTactics
import Derived.Deep.AppendLies
import Derived.Deep.RegionHeld3
import Derived.Test.YtpbplpgfloaaiaaGreatDoorTie
import Derived.Test.YtpbplpgfloaaiaaGreatDoorCards
import Derived.LaidLaws
import Derived.SevenTiedAt
import Derived.ChangeSame
import Derived.RowKitTokens
import Derived.ChangeVars
set_option linter.all false
set_option maxRecDepth 100000
set_option maxHeartbeats 8000000
noncomputable section
namespace Go.Proofs.YtpbplpgfloaaiaaGreatDoor
open Go.Abs
open Go.IntKind(i64)
open Sum(inl inr)
open Go.Proofs.Tryz(prog)
section
open Go.RowKit
namespace Ft
structure FP where(pt so bf off kf bp op kp:Nat)
structure ForAt(w:World)(P:FP)(fs ps:List Int):Prop where
 c0:w.cell? ⟨P.pt,P.so,none⟩=some (.slice (some ⟨P.bf,P.off,none⟩) fs.length P.kf)
 c1:w.cell? ⟨P.pt,P.so+1,none⟩=some (.slice (some ⟨P.bp,P.op,none⟩) ps.length P.kp)
 pr:∃cp ep,w.heap[P.bp]? =some (.cells cp ep (0,0))/\∀i (hi:i<ps.length),cp[P.op+i]? =some (.int .i64 ps[i])
 fr:∃cf ef,w.heap[P.bf]? =some (.cells cf ef (0,0))/\∀i (hi:i<fs.length),cf[P.off+i]? =some (.int .i64 fs[i])
 n1:P.pt≠P.bp
 n2:P.bf≠P.bp
structure But(b:Nat)(w w':World):Prop where
 os:w'.os=w.os
 out:w'.output=w.output
 size:w'.heap.size=w.heap.size
 block:∀k,k≠b->w'.heap[k]? =w.heap[k]?
def But.refl(b:Nat)(w:World):But b w w:=⟨rfl,rfl,rfl,λ_ _=>rfl⟩
def But.trans{b:Nat}{w w1 w2:World}(h:But b w w1)(h':But b w1 w2):But b w w2:=⟨h'.os.trans h.os,h'.out.trans h.out,h'.size.trans h.size,λk hk=>(h'.block k hk).trans (h.block k hk)⟩
def But.drew(b:Nat)(w:World):But b w w.drew:=⟨rfl,rfl,rfl,λ_ _=>rfl⟩
def But.set(b o:Nat)(w:World)(v:Value):But b w (w.setCell ⟨b,o,none⟩ v):=⟨rfl,rfl,by simp[World.setCell],λk hk=>Below.heap_setCell w _ v k hk⟩
section
variable {w:World}{P:FP}{fs ps:List Int}
def ForAt.p(h:ForAt w P fs ps){i:Nat}(hi:i<ps.length):w.cell? ⟨P.bp,P.op+i,none⟩=some (.int .i64 ps[i])/\w.frozen? ⟨P.bp,P.op+i,none⟩=false:=by obtain⟨cp,ep,h1,h2⟩:=h.pr;exact⟨by simp[World.cell?,h1,h2 i hi],by simp[World.frozen?,h1]⟩
def ForAt.f(h:ForAt w P fs ps){i:Nat}(hi:i<fs.length):w.cell? ⟨P.bf,P.off+i,none⟩=some (.int .i64 fs[i]):=by obtain⟨cf,ef,h1,h2⟩:=h.fr;simp[World.cell?,h1,h2 i hi]
def ForAt.set(h:ForAt w P fs ps){i:Nat}(hi:i<ps.length)(v:Int):ForAt (w.setCell ⟨P.bp,P.op+i,none⟩ (.int .i64 v)) P fs (ps.set i v):=by
 obtain⟨cp,ep,h1,h2⟩:=h.pr;obtain⟨cf,ef,h3,h4⟩:=h.fr;refine⟨(An (Below.heap_setCell _ _ _ _ h.n1)).trans h.c0,?_,⟨cp.setIfInBounds (P.op+i) (.int .i64 v),ep,?_,λj hj=> ?_⟩,⟨cf,ef,(Below.heap_setCell _ _ _ _ h.n2).trans h3,h4⟩,h.n1,h.n2⟩
 ·rw[Ap];exact(An (Below.heap_setCell _ _ _ _ h.n1)).trans h.c1
 ·exact C1 _ _ _ _ _ _ h1
 ·have hj':j<ps.length:=(by simpa using hj);rw[BV];by_cases e:i=j
  ·subst e;have:=h2 i hi;rw[AC rfl,Array.getElem?_setIfInBounds_self_of_lt];exact(A8.1 this).1
  ·rw[AK e,Array.getElem?_setIfInBounds_ne (by omega)];exact h2 j hj'
def ForAt.keep{w':World}(h:ForAt w P fs ps)(hk:∀b,b=P.pt\/b=P.bf\/b=P.bp->w'.heap[b]? =w.heap[b]?):ForAt w' P fs ps:=by obtain⟨cp,ep,h1,h2⟩:=h.pr;obtain⟨cf,ef,h3,h4⟩:=h.fr;exact⟨(An (hk _ (.inl rfl))).trans h.c0,(An (hk _ (.inl rfl))).trans h.c1,⟨cp,ep,(hk _ (.inr (.inr rfl))).trans h1,h2⟩,⟨cf,ef,(hk _ (.inr (.inl rfl))).trans h3,h4⟩,h.n1,h.n2⟩
end
structure Rt(R:Nat->Nat)(n:Nat)(h:Nat->Nat)(B:Nat)(ps:List Int):Prop where
 uf:Co.UF R n h B ps
 fix:∀i,i<n->Co.pa ps i=i->R i=i
def root_walk{R h:Nat->Nat}{n B:Nat}{P:FP}{fs ps:List Int}(w:World)(hF:ForAt w P fs ps)(hR:Rt R n h B ps)(i:Nat)(hi:i<n):
  Calls prog 61 #[.pointer (some ⟨P.pt,P.so,none⟩),.int .i64 i] w λe w'=>∃ps',e=.returned (.int .i64 (R i))/\ForAt w' P fs ps'/\Rt R n h B ps'/\But P.bp w w':=by
 go_enter Tryz.func61,Tryz.ntmps61
 go_wp2
 go_loopw [1] (λp wr=>∃(j:Nat) (qs:List Int),p=.int .i64 j/\j<n/\R i=R j/\ForAt wr P fs qs/\Rt R n h B qs/\But P.bp w wr) (λp _=>B - h (intOf p).toNat)
 case atStart=>exact⟨i,ps,rfl,hi,rfl,hF,hR,But.refl _ _⟩
 case round=>
  obtain⟨j,qs,rfl,hj,hij,hFq,hRq,hB⟩:=hrel;have hlen:=hRq.uf.len;have hjl:j<qs.length:=(by omega);have hp:=hRq.uf.lt hj;have hpp:=hRq.uf.lt hp;have hpl:Co.pa qs j<qs.length:=(by omega);have e1:qs[j]=(Co.pa qs j:Int):=(by have:=hRq.uf.pa_eq hj;rwa [A4 hjl]at this);have e2:qs[Co.pa qs j]=(Co.pa qs (Co.pa qs j):Int):=(by have:=hRq.uf.pa_eq hp;rwa [A4 hpl]at this);have q1:=hFq.c1;obtain⟨r0,z0⟩:=hFq.p hjl;obtain⟨r1,_⟩:=hFq.p hpl;rw[e1]at r0;rw[e2]at r1;have hS:=hFq.set hjl (Co.pa qs (Co.pa qs j):Int);by_cases e:Co.pa qs j=j
  ·have hfix:=hRq.fix j hj e;rw[e]at r0;clear r1 e2 e1
   go_wp2
   go_ret
   exact⟨qs,by rw[hij,hfix];rfl,hFq,hRq,hB⟩
  ·have hne:¬((Co.pa qs j:Int)=(j:Int)):=(by omega);have g1:=hRq.uf.up j hj e;have g2:h (Co.pa qs j)<=h (Co.pa qs (Co.pa qs j)):=by
    by_cases e':Co.pa qs (Co.pa qs j)=Co.pa qs j
    ·rw[e'];exact A5 _
    ·exact Nat.le_of_lt (hRq.uf.up _ hp e')
   have g3:=hRq.uf.eq j hj;have g4:=hRq.uf.eq _ hp;have g5:=hRq.uf.top _ hpp;have HR:Hid (Rt R n h B (qs.set j (Co.pa qs (Co.pa qs j):Int))):=⟨hRq.uf.set hj hpp (by omega) (g3.trans g4),λt ht hr=>by
    rw[Co.pa_set hjl]at hr;by_cases e':t=j
    ·rw[AC e']at hr;rw[hr,e']at g2;omega
    ·rw[AK e']at hr;exact hRq.fix t ht hr⟩
   have HE:Hid (R j=R (Co.pa qs (Co.pa qs j))):=g3.trans g4;clear g3 g4 e1 e2 hR hF;generalize Co.pa qs (Co.pa qs j)=pp at*
   generalize Co.pa qs j=p at*
   go_wp2_with fail
   go_region
   have hS':ForAt (wr.setCell ⟨P.bp,P.op+j,none⟩ (.int .i64 (pp:Int))).drew P fs (qs.set j (pp:Int)):=hS.keep λ_ _=>rfl;have hB':But P.bp w (wr.setCell ⟨P.bp,P.op+j,none⟩ (.int .i64 (pp:Int))).drew:=hB.trans ((But.set _ _ _ _).trans (But.drew _ _));clear hS r0 r1 z0 q1 hFq hB hRq;generalize (wr.setCell ⟨P.bp,P.op+j,none⟩ (.int .i64 (pp:Int))).drew=w5 at hS' hB'⊢;have q1:=hS'.c1;have hjl':j<(qs.set j (pp:Int)).length:=(by rw[Ap];exact hjl);obtain⟨r0,_⟩:=hS'.p hjl';rw[BV,AC rfl]at r0;rw[Ap,hlen]at q1
   go_wp2
   go_roundw
   case rel=>exact⟨pp,_,rfl,hpp,hij.trans HE.out,hS',HR.out,hB'⟩
   case measure=>simp[intOf];omega
def at_walk{P:FP}{fs ps:List Int}(w:World)(hF:ForAt w P fs ps)(i p v:Nat)(z:Nat)(hi:i<fs.length)(hz:fs[i]=(z:Int))(b0:z<=100000)(b1:p<=100000)(b2:v<=1):
  Calls prog 62 #[.pointer (some ⟨P.pt,P.so,none⟩),.int .i64 i,.int .i64 ((p:Int) - 1),.int .u8 v] w λe w'=>e=.returned (.int .i64 ((z+2*p+v:Nat):Int))/\w=w':=by
 have q0:=hF.c0;have r0:=hF.f hi;rw[hz]at r0
 go_enter Tryz.func62,Tryz.ntmps62
 go_wp2
 refine BO (results_tmp rfl _ _ _) rfl ⟨?_,rfl⟩;have e:((z+2*p+v:Nat):Int)=(z:Int)+2*(p:Int)+(v:Int):=by omega
 rw[e];rfl
end Ft
end
section
open Go.RowKit Go.Maps
namespace Cs
open Ho (intv)
def seen(R:Nat->Nat):Nat->List Nat
 |0=>[]
 |j+1=>if R j∈seen R j then seen R j else seen R j++[R j]
def mem(R:Nat->Nat)(j k:Nat):List Int:=((List.range j).filter λi=>R i==k).map λi:Nat=>(i:Int)
def mem_succ(R:Nat->Nat)(j k:Nat):mem R (j+1) k=if R j=k then mem R j k++[(j:Int)] else mem R j k:=by
 unfold mem;rw[Br,C8];by_cases e:R j=k
 ·rw[AC e,CP (by simpa using e)];simp
 ·rw[AK e,CQ (by simpa using e)];simp
def mem_len(R:Nat->Nat)(j k:Nat):(mem R j k).length<=j:=by have:=CD (λi=>R i==k) (List.range j);simpa [mem] using this
def mem_in{R:Nat->Nat}{j k:Nat}{x:Int}:x∈mem R j k↔∃i:Nat,i<j/\R i=k/\x=(i:Int):=by
 simp only[mem,BR,CY,Bg,BU];constructor
 ·rintro⟨i,⟨h1,h2⟩,rfl⟩;exact⟨i,h1,h2,rfl⟩
 ·rintro⟨i,h1,h2,rfl⟩;exact⟨i,⟨h1,h2⟩,rfl⟩
def seen_in{R:Nat->Nat}:∀{j k:Nat},k∈seen R j↔∃i,i<j/\R i=k
 |0,k=>by simp[seen]
 |j+1,k=>by
  have ih:=seen_in (R:=R) (j:=j) (k:=k);have key:k∈seen R (j+1)↔k∈seen R j\/k=R j:=by
   by_cases h:R j∈seen R j
   ·rw[show seen R (j+1)=seen R j from by rw[seen,AC h]];exact⟨.inl,λh'=>h'.elim (λh=>h) λe=>e▸h⟩
   ·rw[show seen R (j+1)=seen R j++[R j] from by rw[seen,AK h]];simp
  rw[key,ih];constructor
  ·rintro(⟨i,h1,h2⟩|rfl)
   ·exact⟨i,by omega,h2⟩
   ·exact⟨j,by omega,rfl⟩
  ·rintro⟨i,h1,h2⟩;by_cases e:i=j
   ·subst e;exact .inr h2.symm
   ·exact .inl ⟨i,by omega,h2⟩
def seen_len(R:Nat->Nat):∀j,(seen R j).length<=j
 |0=>A5 _
 |j+1=>by
  have:=seen_len R j;by_cases h:R j∈seen R j
  ·rw[show seen R (j+1)=seen R j from by rw[seen,AC h]];omega
  ·rw[show seen R (j+1)=seen R j++[R j] from by rw[seen,AK h],AG];simp;omega
def seen_old{R:Nat->Nat}{j:Nat}(h:R j∈seen R j):seen R (j+1)=seen R j:=by rw[seen,AC h]
def seen_new{R:Nat->Nat}{j:Nat}(h:R j∉seen R j):seen R (j+1)=seen R j++[R j]:=by rw[seen,AK h]
def mem_new{R:Nat->Nat}{j:Nat}(h:R j∉seen R j):mem R j (R j)=[]:=by refine CS.2 λx hx=> ?_;obtain⟨i,h1,h2,_⟩:=mem_in.1 hx;exact h (seen_in.2 ⟨i,h1,h2⟩)
def seen_nodup(R:Nat->Nat):∀j,(seen R j).Nodup
 |0=>List.nodup_nil
 |j+1=>by
  by_cases h:R j∈seen R j
  ·rw[seen_old h];exact seen_nodup R j
  ·rw[seen_new h,List.nodup_append];refine⟨seen_nodup R j,by simp,λa ha b hb e=> ?_⟩;simp at hb;exact h (by rw[<-hb,<-e];exact ha)
structure MapOk(D:DataW Unit)(s:List Nat):Prop where
 is:IsMap D
 has:∀k:Nat,Maps.has D (.int .i64 (k:Int))=decide (k∈s)
 at':∀k:Nat,k∈s->∀z,D.atKey (.int .i64 (k:Int)) z=.lit (.int .i64 (s.idxOf k:Int))
def MapOk.nil:MapOk (.map []) []:=⟨⟨_,rfl⟩,λ_=>rfl,λk h=>by cases h⟩
def lit_ne{k k':Nat}(h:k'≠k):(Lit.int .i64 (k':Int))≠.int .i64 (k:Int):=λe=>by injection e with _ e;exact h (by omega)
def MapOk.put{D:DataW Unit}{s:List Nat}(h:MapOk D s){k:Nat}(hk:k∉s):MapOk (D.put (.int .i64 (k:Int)) (.lit (.int .i64 (s.length:Int)))) (s++[k]) where
 is:=by obtain⟨es,rfl⟩:=h.is;exact⟨_,rfl⟩
 has:=λk'=>by
  by_cases e:k'=k
  ·subst e;rw[has_put_same h.is (by trivial)];simp
  ·rw[has_put_other (lit_ne e),h.has];simp[e]
 at':=λk' hk' z=>by
  by_cases e:k'=k
  ·subst e;rw[atKey_put_same h.is (by trivial),List.idxOf_append,AK hk];simp
  ·rw[atKey_put_other (lit_ne e)];have hs:k'∈s:=(by simpa [e] using hk');rw[h.at' k' hs,List.idxOf_append,AC hs]
def idx_lt{s:List Nat}{k:Nat}(h:k∈s):s.idxOf k<s.length:=List.idxOf_lt_length_iff.2 h
def idx_at{s:List Nat}{k:Nat}(h:k∈s):s[s.idxOf k]'(idx_lt h)=k:=by have:=List.getElem_idxOf (idx_lt h);exact this
structure Cls(W:World)(lo:Nat)(vt:Value)(m i:Nat)(rv:Nat->Value)(L:Nat->List Int)(vo:Value)(xo:List Int):Prop where
 top:W.ownsRow lo 32 1 vt m ((List.range m).map λj=>if j<i then Fo.clip (rv j) else rv j)
 row:∀j,j<m->W.ownsRow lo 3 1 (rv j) (L j).length (intv (L j))
 apart:∀j j',j<m->j'<m->j≠j'->(rv j).ownBlock=none\/(rv j).ownBlock≠(rv j').ownBlock
 of:W.ownsRow lo 3 1 vo xo.length (intv xo)
 oap:∀j,j<m->(rv j).ownBlock=none\/(rv j).ownBlock≠vo.ownBlock
section
variable {W W1:World}{lo m i:Nat}{vt vo:Value}{rv:Nat->Value}{L:Nat->List Int}{xo:List Int}
def two_types{lo' e e' n n' s s':Nat}{v v':Value}{xs xs':List Value}(h:W.ownsRow lo e s v n xs)(h':W.ownsRow lo' e' s' v' n' xs')(he:e≠e'):v.ownBlock=none\/v.ownBlock≠v'.ownBlock:=by
 rcases h.2 with ⟨rfl,_⟩|⟨g,cap,cur,rfl,_,h3,_⟩
 ·exact .inl rfl
 ·right;rcases h'.2 with ⟨rfl,_⟩|⟨g',cap',cur',rfl,_,h3',_⟩
  ·simp[Value.ownBlock]
  ·intro e1;injection e1 with e1;have e1:g=g':=e1;rw[e1,h3']at h3;cases h3;exact he rfl
def sym_ne{a b:Value}(h:a.ownBlock=none\/a.ownBlock≠b.ownBlock):b.ownBlock=none\/b.ownBlock≠a.ownBlock:=by
 rcases h with h|h
 ·rw[h]
  cases b.ownBlock with
  |none=>exact .inl rfl
  |some x=>exact .inr (by simp)
 ·exact .inr λe=>h e.symm
def Cls.keep(h:Cls W lo vt m i rv L vo xo)(hk:∀b,lo<=b->b<W.heap.size->W1.heap[b]? =W.heap[b]?):Cls W1 lo vt m i rv L vo xo:=
 ⟨Fo.own_keep h.top λg hg=>hk g (h.top.lt g hg).1 (h.top.lt g hg).2,λj hj=>Fo.own_keep (h.row j hj) λg hg=>hk g ((h.row j hj).lt g hg).1 ((h.row j hj).lt g hg).2,h.apart,
  Fo.own_keep h.of λg hg=>hk g (h.of.lt g hg).1 (h.of.lt g hg).2,h.oap⟩
def Cls.alloc(h:Cls W lo vt m i rv L vo xo)(o:Obj):Cls (W.alloc o) lo vt m i rv L vo xo:=h.keep λb _ hlt=>Below.heap_alloc W o b hlt
def Cls.low(h:Cls W lo vt m i rv L vo xo){b o:Nat}(hb:b<lo)(v:Value):Cls (W.setCell ⟨b,o,none⟩ v) lo vt m i rv L vo xo:=h.keep λc hc _=>Below.heap_setCell W _ _ _ (by show c≠b;omega)
def Cls.grow{vt':Value}(h:Cls W lo vt m 0 rv L vo xo)(ho:W1.ownsRow lo 32 1 vt' (m+1) (((List.range m).map λj=>if j<0 then Fo.clip (rv j) else rv j)++[.slice none 0 0]))(hg:W.grownBy W1 vt.ownBlock):
  Cls W1 lo vt' (m+1) 0 (λk=>if k=m then .slice none 0 0 else rv k) (λk=>if k=m then [] else L k) vo xo:=by
 refine⟨?_,λj hj=> ?_,λj j' hj hj' hne=> ?_,h.of.kept hg (two_types h.of h.top (by decide)),λj hj=> ?_⟩
 ·have e:((List.range (m+1)).map λj=>if j<0 then Fo.clip (if j=m then .slice none 0 0 else rv j) else (if j=m then .slice none 0 0 else rv j))=((List.range m).map λj=>if j<0 then Fo.clip (rv j) else rv j)++[.slice none 0 0]:=by
   rw[Br,AS];congr 1
   ·refine Ai λk hk=> ?_;have:=Bg.1 hk;rw[AK (CX _),AK (CX _),AK (by omega)]
   ·simp
  rw[e];exact ho
 ·by_cases e:j=m
  ·rw[AC e,AC e];exact Ce _ _ _ _
  ·rw[AK e,AK e];exact(h.row j (by omega)).kept hg (two_types (h.row j (by omega)) h.top (by decide))
 ·by_cases e:j=m
  ·rw[AC e];exact .inl rfl
  ·rw[AK e];by_cases e':j'=m
   ·rw[AC e'];exact sym_ne (.inl rfl)
   ·rw[AK e'];exact h.apart j j' (by omega) (by omega) hne
 ·by_cases e:j=m
  ·rw[AC e];exact .inl rfl
  ·rw[AK e];exact h.oap j (by omega)
def Cls.step{g cap:Nat}(h:Cls W lo (.slice (some ⟨g,0,none⟩) m cap) m 0 rv L vo xo){c:Nat}(hc:c<m){v':Value}{x:Int}
  (ho:W1.ownsRow lo 3 1 v' ((L c).length+1) (intv (L c)++[.int .i64 x])) (hg:W.grownBy W1 (rv c).ownBlock) (hat:v'.ownBlock=(rv c).ownBlock\/v'.ownBlock=some W.heap.size):
  Cls (W1.setCell ⟨g,c,none⟩ v') lo (.slice (some ⟨g,0,none⟩) m cap) m 0 (λk=>if k=c then v' else rv k) (λk=>if k=c then L c++[x] else L k) vo xo:=by
 have hrow:=h.row c hc;have ht:=two_types hrow h.top (by decide);have htop:=h.top.kept hg (sym_ne ht);have hv't:=two_types ho htop (by decide);have hnew:∀u:Value,(∀b,u.ownBlock=some b->b<W.heap.size)->((rv c).ownBlock=none\/(rv c).ownBlock≠u.ownBlock)->(v'.ownBlock=none\/v'.ownBlock≠u.ownBlock):=λu hu h1=>by
  rcases hat with hat|hat
  ·rw[hat];exact h1
  ·right;rw[hat];intro e;have:=hu _ e.symm;omega
 have far:∀{e n s:Nat} {u:Value} {xs:List Value},W1.ownsRow lo e s u n xs->(u.ownBlock=none\/u.ownBlock≠some g)->(W1.setCell ⟨g,c,none⟩ v').ownsRow lo e s u n xs:=λhu hne=>Fo.own_keep hu λb hb=>Below.heap_setCell W1 _ _ _ (by
  show b≠g;intro e;rcases hne with hne|hne
  ·rw[hne]at hb;cases hb
  ·exact hne (by rw[hb,e]))
 have topb:(Value.slice (some ⟨g,0,none⟩) m cap).ownBlock=some g:=rfl;rw[topb]at hv't;have hlt:∀k,k<m->∀b,(rv k).ownBlock=some b->b<W.heap.size:=λk hk b hb=>((h.row k hk).lt b hb).2;refine⟨?_,λj hj=> ?_,λj j' hj hj' hne=> ?_,?_,λj hj=> ?_⟩
 ·have hs:=(htop.stored c v').1;have e:((List.range m).map λj=>if j<0 then Fo.clip (rv j) else rv j).set c v'=(List.range m).map λj=>if j<0 then Fo.clip (if j=c then v' else rv j) else (if j=c then v' else rv j):=by
   refine BW (by simp) λk h1 h2=> ?_;rw[BV];simp only[AP,C4,CX,Al];by_cases e:c=k
   ·rw[AC e,AC e.symm]
   ·rw[AK e,AK (λh=>e h.symm)]
  rw[e]at hs;exact hs
 ·by_cases e:j=c
  ·subst e;simp only[Aq];have:intv (L j++[x])=intv (L j)++[.int .i64 x]:=(by simp[intv]);rw[this,AG];exact far ho hv't
  ·simp only[AK e];have hj1:=h.row j hj;have hjt:=two_types hj1 h.top (by decide);rw[topb]at hjt;exact far (hj1.kept hg (h.apart j c hj hc e)) hjt
 ·by_cases e:j=c
  ·subst e;rw[AC rfl,AK (λe=>hne e.symm)];exact hnew _ (hlt j' hj') (h.apart j j' hj hj' hne)
  ·rw[AK e];by_cases e':j'=c
   ·subst e';rw[AC rfl];exact sym_ne (hnew _ (hlt j hj) (h.apart j' j hj' hj (λe1=>hne e1.symm)))
   ·rw[AK e'];exact h.apart j j' hj hj' hne
 ·have h2:=two_types h.of h.top (by decide);rw[topb]at h2;exact far (h.of.kept hg (sym_ne (h.oap c hc))) h2
 ·by_cases e:j=c
  ·rw[AC e];subst e;exact hnew _ (λb hb=>(h.of.lt b hb).2) (h.oap j hj)
  ·rw[AK e];exact h.oap j hj
def Cls.ofs{vo':Value}{x:Int}(h:Cls W lo vt m i rv L vo xo)(ho:W1.ownsRow lo 3 1 vo' (xo.length+1) (intv xo++[.int .i64 x]))(hg:W.grownBy W1 vo.ownBlock)(hat:vo'.ownBlock=vo.ownBlock\/vo'.ownBlock=some W.heap.size):
  Cls W1 lo vt m i rv L vo' (xo++[x]):=by
 refine⟨h.top.kept hg (sym_ne (two_types h.of h.top (by decide))),λj hj=>(h.row j hj).kept hg (h.oap j hj),h.apart,?_,λj hj=> ?_⟩
 ·have:intv (xo++[x])=intv xo++[.int .i64 x]:=(by simp[intv]);rw[this,AG];exact ho
 ·rcases hat with hat|hat
  ·rw[hat];exact h.oap j hj
  ·rw[hat]
   cases hb:(rv j).ownBlock with
   |none=>exact .inl rfl
   |some b=>right;intro e;injection e with e;have:=((h.row j hj).lt b hb).2;omega
def Cls.clip1{g cap:Nat}(h:Cls W lo (.slice (some ⟨g,0,none⟩) m cap) m i rv L vo xo)(hi:i<m):Cls (W.setCell ⟨g,i,none⟩ (Fo.clip (rv i))) lo (.slice (some ⟨g,0,none⟩) m cap) m (i+1) rv L vo xo:=by
 have topb:(Value.slice (some ⟨g,0,none⟩) m cap).ownBlock=some g:=rfl
 have far:∀{e n s:Nat} {u:Value} {xs:List Value},W.ownsRow lo e s u n xs->(u.ownBlock=none\/u.ownBlock≠some g)->(W.setCell ⟨g,i,none⟩ (Fo.clip (rv i))).ownsRow lo e s u n xs:=λhu hne=>Fo.own_keep hu λb hb=>Below.heap_setCell W _ _ _ (by
  show b≠g;intro e;rcases hne with hne|hne
  ·rw[hne]at hb;cases hb
  ·exact hne (by rw[hb,e]))
 refine⟨?_,λj hj=> ?_,h.apart,?_,h.oap⟩
 ·have hs:=(h.top.stored i (Fo.clip (rv i))).1;have e:((List.range m).map λj=>if j<i then Fo.clip (rv j) else rv j).set i (Fo.clip (rv i))=(List.range m).map λj=>if j<i+1 then Fo.clip (rv j) else rv j:=by
   refine BW (by simp) λk h1 h2=> ?_;rw[BV];simp only[AP,C4];by_cases e:i=k
   ·subst e;rw[AC rfl,AC (by omega)]
   ·rw[AK e];by_cases e2:k<i
    ·rw[AC e2,AC (by omega)]
    ·rw[AK e2,AK (by omega)]
  rw[e]at hs;exact hs
 ·have h2:=two_types (h.row j hj) h.top (by decide);rw[topb]at h2;exact far (h.row j hj) h2
 ·have h2:=two_types h.of h.top (by decide);rw[topb]at h2;exact far h.of h2
def Cls.congr{rv':Nat->Value}{L':Nat->List Int}(h:Cls W lo vt m i rv L vo xo)(h1:∀j,j<m->rv j=rv' j)(h2:∀j,j<m->L j=L' j):Cls W lo vt m i rv' L' vo xo:=by
 refine⟨?_,λj hj=>h1 j hj▸h2 j hj▸h.row j hj,λj j' hj hj' hne=>h1 j hj▸h1 j' hj'▸h.apart j j' hj hj' hne,h.of,λj hj=>h1 j hj▸h.oap j hj⟩;have e:((List.range m).map λj=>if j<i then Fo.clip (rv j) else rv j)=(List.range m).map λj=>if j<i then Fo.clip (rv' j) else rv' j:=Ai λk hk=>by rw[h1 k (Bg.1 hk)]
 rw[<-e];exact h.top
end
end Cs
end
section
open Go.RowKit Go.Maps
namespace Pt
open Cs Ft Ho
abbrev FltT:=Int×Int×Int×Int×Int
structure FltsAt(w:World)(B:Nat)(v:Value)(l:List FltT):Prop where
 ex:∃a k,v=.slice a l.length k/\∀i (hi:i<l.length),∃b off,a=some ⟨b,off,none⟩/\b<B/\
  w.cell? ⟨b,off+i*5,none⟩=some (.int .u8 l[i].1)/\w.cell? ⟨b,off+i*5+1,none⟩=some (.int .i64 l[i].2.1)/\w.cell? ⟨b,off+i*5+2,none⟩=some (.int .i64 l[i].2.2.1)/\
  w.cell? ⟨b,off+i*5+3,none⟩=some (.int .u8 l[i].2.2.2.1)/\w.cell? ⟨b,off+i*5+4,none⟩=some (.int .i64 l[i].2.2.2.2)
def FltsAt.keep{w w':World}{B:Nat}{v:Value}{l:List FltT}(h:FltsAt w B v l)(hk:∀b,b<B->w'.heap[b]? =w.heap[b]?):FltsAt w' B v l:=by obtain⟨a,k,rfl,hx⟩:=h.ex;refine⟨a,k,rfl,λi hi=> ?_⟩;obtain⟨b,off,h1,h2,h3,h4,h5,h6,h7⟩:=hx i hi;have e:∀o,w'.cell? ⟨b,o,none⟩=w.cell? ⟨b,o,none⟩:=λo=>An (hk b h2);exact⟨b,off,h1,h2,(e _).trans h3,(e _).trans h4,(e _).trans h5,(e _).trans h6,(e _).trans h7⟩
def FltsAt.up{w:World}{B B':Nat}{v:Value}{l:List FltT}(h:FltsAt w B v l)(hB:B<=B'):FltsAt w B' v l:=by obtain⟨a,k,rfl,hx⟩:=h.ex;refine⟨a,k,rfl,λi hi=> ?_⟩;obtain⟨b,off,h1,h2,h3⟩:=hx i hi;exact⟨b,off,h1,by omega,h3⟩
structure IsFor(fs ps:List Int)(W:World)(e:Ending)(W':World):Prop where
 ex:∃P:FP,e=.returned (.pointer (some ⟨P.pt,P.so,none⟩))/\ForAt W' P fs ps/\(W.heap.size<=P.pt/\W.heap.size<=P.bf/\W.heap.size<=P.bp)/\(P.pt<W'.heap.size/\P.bf<W'.heap.size/\P.bp<W'.heap.size)/\Aw.Bel W.heap.size W W'
def Nums(fs:List Int)(l:List FltT):Prop:=∀j (hj:j<l.length),∃nd p v z:Nat,l[j]=(0,(nd:Int),(p:Int) - 1,(v:Int),0)/\(∃hn:nd<fs.length,fs[nd]=(z:Int))/\z+2*p+v=j/\v<=1
def own_slice{W:World}{lo e s n:Nat}{v:Value}{xs:List Value}(h:W.ownsRow lo e s v n xs):∃a k,v=.slice a n k:=by
 rcases h.2 with ⟨rfl,rfl,_⟩|⟨g,cap,cur,rfl,_⟩
 ·exact⟨none,0,rfl⟩
 ·exact⟨_,_,rfl⟩
def info32:(prog.info? 32).map (λi=>(i.zero,i.size,i.bytes))=some (some (.slice none 0 0),1,24):=by kernel_rfl
def law3:Keyed prog 3:=int_keyed Tryz.underlying3
def zero3(w:World):(zeroValue 3).run prog w=.ok (.int .i64 0) w:=by kernel_rfl
def wf_nat{k:Nat}(h:k<=100000):(Lit.int .i64 (k:Int)).wf=true:=wf_small (by omega) (by omega)
structure PI(w:World)(P:FP)(fs:List Int)(R h:Nat->Nat)(n B lo pb bm:Nat)(s:List Nat)(j:Nat)(W:World)(ps:List Int)(vt vo:Value)(xo:List Int)(rv:Nat->Value)(D:DataW Unit)(nm:Nat):Prop where
 box:W.heap[pb]? =some (.cells #[.pointer (some ⟨P.pt,P.so,none⟩),vt,vo,.map (some bm)] 107 (0,0))
 for':ForAt W P fs ps
 rt:Rt R n h B ps
 map:W.ownsMap prog 3 (plainElem (H:=Unit) prog 3) bm nm D
 mok:MapOk D s
 nmj:nm<=s.length
 cls:Cls W lo vt s.length 0 rv (λc=>Cs.mem R j (s[c]?.getD 0)) vo xo
 xol:xo.length<=j
 bel:Aw.Bel w.heap.size w W
 los:lo<=W.heap.size
structure Pl(w:World)(P:FP)(lo pb bm:Nat):Prop where
 a:w.heap.size<=P.pt/\w.heap.size<=P.bf/\w.heap.size<=P.bp
 b:P.pt<bm/\P.bf<bm/\P.bp<bm
 c:w.heap.size<=bm
 d:pb=bm+1
 e:lo=bm+3
section
variable {w:World}{P:FP}{fs:List Int}{R h:Nat->Nat}{n B lo pb bm j:Nat}{s:List Nat}{W W1:World}{ps:List Int}{vt vo:Value}{xo:List Int}{rv:Nat->Value}{D:DataW Unit}{nm:Nat}
def PI.keep(hI:PI w P fs R h n B lo pb bm s j W ps vt vo xo rv D nm)(hs:W.heap.size<=W1.heap.size)(hos:W1.os=W.os)(ho:W1.output=W.output)(hk:∀b,b<W.heap.size->W1.heap[b]? =W.heap[b]?)(hP:Pl w P lo pb bm):PI w P fs R h n B lo pb bm s j W1 ps vt vo xo rv D nm where
 box:=(hk _ (A8.1 hI.box).1).trans hI.box
 for':=hI.for'.keep λb hb=>hk b (by have:=hI.los;have:=hP.b;have:=hP.e;omega)
 rt:=hI.rt
 map:=by have hlt:=hI.map.lt;obtain⟨es,clock,h1,h2⟩:=hI.map;exact⟨es,clock,(hk _ hlt).trans h1,h2⟩
 mok:=hI.mok
 nmj:=hI.nmj
 cls:=hI.cls.keep λb _ hlt=>hk b hlt
 xol:=hI.xol
 bel:=⟨hos.trans hI.bel.os,ho.trans hI.bel.out,Ao hI.bel.size hs,λb hb'=>(hk b (by have:=hI.bel.size;omega)).trans (hI.bel.block b hb')⟩
 los:=Ao hI.los hs
def PI.alloc(hI:PI w P fs R h n B lo pb bm s j W ps vt vo xo rv D nm)(o:Obj)(hP:Pl w P lo pb bm):PI w P fs R h n B lo pb bm s j (W.alloc o) ps vt vo xo rv D nm:=
 hI.keep (by simp) rfl rfl (λb hb=>Below.heap_alloc W o b hb) hP
def PI.drew(hI:PI w P fs R h n B lo pb bm s j W ps vt vo xo rv D nm)(hP:Pl w P lo pb bm):PI w P fs R h n B lo pb bm s j W.drew ps vt vo xo rv D nm:=
 hI.keep (A5 _) rfl rfl (λb hb=>rfl) hP
def PI.cells(hI:PI w P fs R h n B lo pb bm s j W ps vt vo xo rv D nm):W.cell? ⟨pb,0,none⟩=some (.pointer (some ⟨P.pt,P.so,none⟩))/\W.cell? ⟨pb,1,none⟩=some vt/\W.cell? ⟨pb,2,none⟩=some vo/\W.cell? ⟨pb,3,none⟩=some (.map (some bm))/\∀o,W.frozen? ⟨pb,o,none⟩=false:=by refine⟨?_,?_,?_,?_,λo=> ?_⟩<;>simp[World.cell?,World.frozen?,hI.box]
def PI.root{ps1:List Int}(hI:PI w P fs R h n B lo pb bm s j W ps vt vo xo rv D nm)(hF:ForAt W1 P fs ps1)(hR:Rt R n h B ps1)(hB:But P.bp W W1)(hP:Pl w P lo pb bm):PI w P fs R h n B lo pb bm s j W1 ps1 vt vo xo rv D nm where
 box:=(hB.block _ (by have:=hP.b;have:=hP.d;omega)).trans hI.box
 for':=hF
 rt:=hR
 map:=by obtain⟨es,clock,h1,h2⟩:=hI.map;exact⟨es,clock,(hB.block _ (by have:=hP.b;omega)).trans h1,h2⟩
 mok:=hI.mok
 nmj:=hI.nmj
 cls:=hI.cls.keep λb hb _=>hB.block b (by have:=hP.b;have:=hP.e;omega)
 xol:=hI.xol
 bel:=⟨hB.os.trans hI.bel.os,hB.out.trans hI.bel.out,by rw[hB.size];exact hI.bel.size,λb hb=>(hB.block b (by have:=hP.a;omega)).trans (hI.bel.block b hb)⟩
 los:=by rw[hB.size];exact hI.los
def PI.key{D':DataW Unit}(hI:PI w P fs R h n B lo pb bm s j W ps vt vo xo rv D nm)(hm:W1.ownsMap prog 3 (plainElem (H:=Unit) prog 3) bm (nm+1) D')(hg:W.grownBy W1 (some bm))(hP:Pl w P lo pb bm):
  W1.heap[pb]? =some (.cells #[.pointer (some ⟨P.pt,P.so,none⟩),vt,vo,.map (some bm)] 107 (0,0))/\ForAt W1 P fs ps/\Cls W1 lo vt s.length 0 rv (λc=>Cs.mem R j (s[c]?.getD 0)) vo xo/\Aw.Bel w.heap.size w W1/\lo<=W1.heap.size:=by
 have hb:=hP.b;have hd:=hP.d;have he:=hP.e;have hl:=hI.los;refine⟨(hg.block _ (by omega) (by simp;omega)).trans hI.box,hI.for'.keep λb hb'=>hg.block b (by omega) (by simp;omega),hI.cls.keep λb h1 h2=>hg.block b h2 (by simp;omega),⟨hg.os.trans hI.bel.os,hg.output.trans hI.bel.out,Ao hI.bel.size hg.size,λb hb'=>(hg.block b (by have:=hI.bel.size;omega) (by have:=hP.c;simp;omega)).trans (hI.bel.block b hb')⟩,Ao hl hg.size⟩
def low_of{o:Obj}{v:Value}{W6:World}(hg:(W.alloc o).grownBy W6 v.ownBlock)(hlo:lo<=W.heap.size)(hv:∀b,v.ownBlock=some b->lo<=b):(∀b,b<lo->W6.heap[b]? =W.heap[b]?)/\W6.os=W.os/\W6.output=W.output/\W.heap.size<=W6.heap.size:=
 ⟨λb hb=>(hg.block b (by simp;omega) (λe=>by have:=hv b e.symm;omega)).trans (Below.heap_alloc W o b (by omega)),hg.os,hg.output,by have:=hg.size;simp at this;omega⟩
def low_set{W6 W7:World}{g o:Nat}{v:Value}(h:(∀b,b<lo->W6.heap[b]? =W7.heap[b]?)/\W6.os=W7.os/\W6.output=W7.output/\W7.heap.size<=W6.heap.size):(∀b,b<lo->b≠g->(W6.setCell ⟨g,o,none⟩ v).heap[b]? =W7.heap[b]?)/\(W6.setCell ⟨g,o,none⟩ v).os=W7.os/\(W6.setCell ⟨g,o,none⟩ v).output=W7.output/\W7.heap.size<=(W6.setCell ⟨g,o,none⟩ v).heap.size:=
 ⟨λb hb hne=>(Below.heap_setCell _ _ _ _ hne).trans (h.1 b hb),h.2.1,h.2.2.1,by rw[World.size_setCell];exact h.2.2.2⟩
def PI.mk2{vt' vo':Value}{W5 W':World}{s':List Nat}{D':DataW Unit}{nm' j':Nat}{xo':List Int}{rv':Nat->Value}(x1:ForAt W5 P fs ps)(hrt:Rt R n h B ps)(hmap:W5.ownsMap prog 3 (plainElem (H:=Unit) prog 3) bm nm' D')(hmok:MapOk D' s')(hnm:nm'<=s'.length)(x3:Aw.Bel w.heap.size w W5)(x4:lo<=W5.heap.size)
  (hl:(∀b,b<lo->b≠pb->W'.heap[b]? =W5.heap[b]?)/\W'.os=W5.os/\W'.output=W5.output/\W5.heap.size<=W'.heap.size) (hbox:W'.heap[pb]? =some (.cells #[.pointer (some ⟨P.pt,P.so,none⟩),vt',vo',.map (some bm)] 107 (0,0)))
  (hcls:Cls W' lo vt' s'.length 0 rv' (λc=>Cs.mem R j' (s'[c]?.getD 0)) vo' xo') (hx:xo'.length<=j') (hP:Pl w P lo pb bm):PI w P fs R h n B lo pb bm s' j' W' ps vt' vo' xo' rv' D' nm' where
 box:=hbox
 for':=x1.keep λb hb=>hl.1 b (by have:=hP.b;have:=hP.e;omega) (by have:=hP.b;have:=hP.d;omega)
 rt:=hrt
 map:=by obtain⟨es,clock,h1,h2⟩:=hmap;exact⟨es,clock,(hl.1 _ (by have:=hP.e;omega) (by have:=hP.d;omega)).trans h1,h2⟩
 mok:=hmok
 nmj:=hnm
 cls:=hcls
 xol:=hx
 bel:=⟨hl.2.1.trans x3.os,hl.2.2.1.trans x3.out,Ao x3.size hl.2.2.2,λb hb=>(hl.1 b (by have:=hP.c;have:=hP.e;omega) (by have:=hP.c;have:=hP.d;omega)).trans (x3.block b hb)⟩
 los:=Ao x4 hl.2.2.2
def PI.newc{W5 W6:World}{vt2:Value}{o:Obj}(hs:R j∉Cs.seen R j)(x0:W5.heap[pb]? =some (.cells #[.pointer (some ⟨P.pt,P.so,none⟩),vt,vo,.map (some bm)] 107 (0,0)))(x1:ForAt W5 P fs ps)(hrt:Rt R n h B ps)
  (hmap:W5.ownsMap prog 3 (plainElem (H:=Unit) prog 3) bm (nm+1) (D.put (.int .i64 (R j:Int)) (.lit (.int .i64 ((Cs.seen R j).length:Int))))) (hmok:MapOk D (Cs.seen R j)) (hnm:nm<=(Cs.seen R j).length) (x3:Aw.Bel w.heap.size w W5) (x4:lo<=W5.heap.size)
  (x2:Cls W5 lo vt (Cs.seen R j).length 0 rv (λc=>Cs.mem R j ((Cs.seen R j)[c]?.getD 0)) vo xo) (hx:xo.length<=j) (ho:W6.ownsRow lo 32 1 vt2 ((Cs.seen R j).length+1) (((List.range (Cs.seen R j).length).map λj=>rv j)++[.slice none 0 0])) (hg:(W5.alloc o).grownBy W6 vt.ownBlock) (hP:Pl w P lo pb bm):
  PI w P fs R h n B lo pb bm (Cs.seen R (j+1)) j (W6.setCell ⟨pb,1,none⟩ vt2) ps vt2 vo xo (λk=>if k=(Cs.seen R j).length then .slice none 0 0 else rv k) (D.put (.int .i64 (R j:Int)) (.lit (.int .i64 ((Cs.seen R j).length:Int)))) (nm+1):=by
 have hl:=low_of hg x4 (λb hb=>(x2.top.lt b hb).1);have hpb:pb<lo:=by have:=hP.d;have:=hP.e;omega
 refine PI.mk2 x1 hrt hmap (by rw[Cs.seen_new hs];exact hmok.put hs) (by rw[Cs.seen_new hs,AG];simpa using hnm) x3 x4 (low_set hl) ?_ ?_ hx hP
 ·exact C1 _ _ _ _ _ _ ((hl.1 pb hpb).trans x0)
 ·have h1:=((x2.alloc o).grow (vt':=vt2) (W1:=W6) (by simpa using ho) hg).low hpb vt2 (o:=1);rw[Cs.seen_new hs,AG];refine h1.congr (λ_ _=>rfl) λk hk=> ?_;by_cases e:k=(Cs.seen R j).length
  ·rw[AC e,e];have:(Cs.seen R j++[R j])[(Cs.seen R j).length]?.getD 0=R j:=(by simp);rw[this,Cs.mem_new hs]
  ·rw[AK e,AL (by omega)]
def PI.pushm{W1:World}{g cap c:Nat}{v':Value}{o:Obj}(hI:PI w P fs R h n B lo pb bm s j W ps (.slice (some ⟨g,0,none⟩) s.length cap) vo xo rv D nm)(hnd:s.Nodup)(hc:c<s.length)(hk:s[c]? =some (R j))
  (ho:W1.ownsRow lo 3 1 v' ((Cs.mem R j (R j)).length+1) (Ho.intv (Cs.mem R j (R j))++[.int .i64 (j:Int)])) (hg:(W.alloc o).grownBy W1 (rv c).ownBlock) (hat:v'.ownBlock=(rv c).ownBlock\/v'.ownBlock=some (W.heap.size+1)) (hP:Pl w P lo pb bm):
  PI w P fs R h n B lo pb bm s (j+1) (W1.setCell ⟨g,c,none⟩ v') ps (.slice (some ⟨g,0,none⟩) s.length cap) vo xo (λk=>if k=c then v' else rv k) D nm:=by
 have hl:=low_of hg hI.los (λb hb=>((hI.cls.row c hc).lt b hb).1);have hgl:lo<=g:=(hI.cls.top.lt g rfl).1;have hpb:pb<lo:=by have:=hP.d;have:=hP.e;omega
 have h2:=low_set (g:=g) (o:=c) (v:=v') hl;refine PI.mk2 hI.for' hI.rt hI.map hI.mok hI.nmj hI.bel hI.los ⟨λb hb _=>h2.1 b hb (by omega),h2.2⟩ ((h2.1 pb hpb (by omega)).trans hI.box) ?_ (Nat.le_succ_of_le hI.xol) hP;have h3:=(hI.cls.alloc o).step hc (v':=v') (W1:=W1) (x:=(j:Int)) (by simp only[hk,Aj];exact ho) hg (by simpa using hat);refine h3.congr (λ_ _=>rfl) λk hk'=> ?_;by_cases e:k=c
 ·rw[AC e,e,hk,Aj,Cs.mem_succ,AC rfl]
 ·rw[AK e,Cs.mem_succ,AK];rw[A4 hk',Aj];rw[A4 hc]at hk;injection hk with hk;rw[<-hk];exact λe1=>e ((List.getElem_inj hnd).1 e1.symm)
def PI.pusho{W1:World}{vo':Value}{x:Int}{o:Obj}(hI:PI w P fs R h n B lo pb bm s j W ps vt vo xo rv D nm)(hx:xo.length+1<=j)(ho:W1.ownsRow lo 3 1 vo' (xo.length+1) (Ho.intv xo++[.int .i64 x]))(hg:(W.alloc o).grownBy W1 vo.ownBlock)(hat:vo'.ownBlock=vo.ownBlock\/vo'.ownBlock=some (W.heap.size+1))(hP:Pl w P lo pb bm):
  PI w P fs R h n B lo pb bm s j (W1.setCell ⟨pb,2,none⟩ vo') ps vt vo' (xo++[x]) rv D nm:=by
 have hl:=low_of hg hI.los (λb hb=>(hI.cls.of.lt b hb).1);have hpb:pb<lo:=by have:=hP.d;have:=hP.e;omega
 refine PI.mk2 hI.for' hI.rt hI.map hI.mok hI.nmj hI.bel hI.los (low_set hl) (C1 _ _ _ _ _ _ ((hl.1 pb hpb).trans hI.box)) (((hI.cls.alloc o).ofs ho hg (by simpa using hat)).low hpb vo') (by rw[AG];simpa using hx) hP
end
def regionAt(n:Nat):Code->Option Code
 |.region k ops d=>if k=n then some (.region k ops d) else none
 |.seq a b=>match regionAt n a with
  |some c=>some c
  |none=>regionAt n b
 |.block _ c=>regionAt n c
 |.loop c=>regionAt n c
 |.cond _ a b=>match regionAt n a with
  |some c=>some c
  |none=>regionAt n b
 |_=>none
noncomputable def r20:Code:=(Tryz.f29.body.bind (regionAt 20)).getD .skip
def r20_ok(Q:Exit->Act->World->Prop){w wm:World}{P:FP}{fs:List Int}{R h:Nat->Nat}{n B bm j g cap c:Nat}{s:List Nat}{ps:List Int}{vo:Value}{xo:List Int}{rv:Nat->Value}{D:DataW Unit}{nm:Nat}(hM:PI w P fs R h n B (bm+3) (bm+1) bm s j wm ps (.slice (some ⟨g,0,none⟩) s.length cap) vo xo rv D nm)(hP:Pl w P (bm+3) (bm+1) bm)(hnd:s.Nodup)(hc:c<s.length)(hk:s[c]? =some (R j))(hjl:j<=1000)(c0 c1 c2 c3 c4 c6 c7 c9 c11 c12 c13 c14 c15 c16 c17 c18 c19 c20 c21 c22 c23 c24 c25 c26 c27 c28 c29 c30 c31 c32 c33 c34 c35 c36 c37 c38 c39 c40 c41 c42 c43 c44 c45 c46 c47 c48 c49 c50 c51 c52 c53 c54 c55 c56 c57 c58 c59 c60 c61 c62 c63 c64 c65 c66 c67 c68 c69 c70 c71 c72 c73 c74 c75 c76 c77 c78 c79 c80 c81 c82 c83 c84 c85 c86 c87 c88 c89 c90 c91 c92 c93 c94 c95 c96 c97 c98 c99 c100 c101 c102 c103 c104 c105 c106 c107 c108 c109 c110 c111 c112 c113 c114 c115 c116 c117 c118 c119 c120 c121 c122 c123 c124 c125 c126 c127 c128 c129 c130 c131 c132 c133 c134 c135 c136 c137 c138 c139 c140 c141 c142 c143 c144 c145 c146 c147 c148 c149 c150 c151 c152:Value)
  (hQ:∀(d102 d103 d104 d105 d106 d107 d108 d109 d110 d111 d112 d113 d114 d115 d116 d117:Value) (v':Value) (W':World),PI w P fs R h n B (bm+3) (bm+1) bm s (j+1) W' ps (.slice (some ⟨g,0,none⟩) s.length cap) vo xo (λk=>if k=c then v' else rv k) D nm->Q .normal ⟨#[c0,c1,c2,c3,c4,.pointer (some ⟨bm+1,0,none⟩),c6,c7,.int .i64 (j:Int),c9,.int .i64 (c:Int),c11,c12,c13,c14,c15,c16,c17,c18,c19,c20,c21,c22,c23,c24,c25,c26,c27,c28,c29,c30,c31,c32,c33,c34,c35,c36,c37,c38,c39,c40,c41,c42,c43,c44,c45,c46,c47,c48,c49,c50,c51,c52,c53,c54,c55,c56,c57,c58,c59,c60,c61,c62,c63,c64,c65,c66,c67,c68,c69,c70,c71,c72,c73,c74,c75,c76,c77,c78,c79,c80,c81,c82,c83,c84,c85,c86,c87,c88,c89,c90,c91,c92,c93,c94,c95,c96,c97,c98,c99,c100,c101,d102,d103,d104,d105,d106,d107,d108,d109,d110,d111,d112,d113,d114,d115,d116,d117,c118,c119,c120,c121,c122,c123,c124,c125,c126,c127,c128,c129,c130,c131,c132,c133,c134,c135,c136,c137,c138,c139,c140,c141,c142,c143,c144,c145,c146,c147,c148,c149,c150,c151,c152],[]⟩ W'):
  Code.wp prog r20 Q ⟨#[c0,c1,c2,c3,c4,.pointer (some ⟨bm+1,0,none⟩),c6,c7,.int .i64 (j:Int),c9,.int .i64 (c:Int),c11,c12,c13,c14,c15,c16,c17,c18,c19,c20,c21,c22,c23,c24,c25,c26,c27,c28,c29,c30,c31,c32,c33,c34,c35,c36,c37,c38,c39,c40,c41,c42,c43,c44,c45,c46,c47,c48,c49,c50,c51,c52,c53,c54,c55,c56,c57,c58,c59,c60,c61,c62,c63,c64,c65,c66,c67,c68,c69,c70,c71,c72,c73,c74,c75,c76,c77,c78,c79,c80,c81,c82,c83,c84,c85,c86,c87,c88,c89,c90,c91,c92,c93,c94,c95,c96,c97,c98,c99,c100,c101,c102,c103,c104,c105,c106,c107,c108,c109,c110,c111,c112,c113,c114,c115,c116,c117,c118,c119,c120,c121,c122,c123,c124,c125,c126,c127,c128,c129,c130,c131,c132,c133,c134,c135,c136,c137,c138,c139,c140,c141,c142,c143,c144,c145,c146,c147,c148,c149,c150,c151,c152],[]⟩ wm:=by
 conv=>arg 2;whnf
 obtain⟨i1,hj,hy0,hy1,hy2⟩:=info_parts info3;have hMd:=hM.drew hP;obtain⟨c0,c1,c2,c3,c4⟩:=hM.cells;have hrow:=hM.cls.row c hc;simp only[hk,Aj]at hrow;have hc0:wm.cell? ⟨g,c,none⟩=some (rv c):=by rw[hM.cls.top.cellAt c (by omega)];simp[hc]
 have hno:some g≠(rv c).ownBlock:=λe=>by
  rcases Cs.two_types hrow hM.cls.top (by decide) with h|h
  ·rw[h]at e;cases e
  ·exact h e.symm
 have hgw:g<wm.heap.size:=(hM.cls.top.lt g rfl).2;have hfz:∀o,wm.frozen? ⟨g,o,none⟩=false:=λo=>hM.cls.top.frozenAt o;have hml:=Cs.mem_len R j (R j);have hlos:=hM.los;have hpw:bm+1<wm.heap.size:=by omega
 have hno1:some (bm+1)≠(rv c).ownBlock:=λe=>by have:=(hrow.lt _ e.symm).1;omega
 clear hM;simp only[List.append_eq,CT,Bf];refine wp_region_noPanic ?_
 go_region_law ((refine step_append_lies _ (by rfl) _ _ _ (by rfl) (bm+3) 3 i1 _ 1 8 Tryz.underlying32 hj hy0 hy1 hy2 rfl (by omega) (rv c) (Cs.mem R j (R j)).length _ (by rfl) ((hrow.alloc _).drew) ⟨wm.heap.size,0,none⟩ 1 1 [_] (by rfl) (by rfl) (World.news_of_block (cs:= #[_]) (t:=3) (fr:=(0,0)) (heap_alloc_new _ _)) (by simp[Value.oneCell']) (by omega) (by unfold maxLen;omega) (by omega) (by simp;omega) wm.heap.size.succ (by simp) ?_;intro gg cap2 w1 hown1 hgrow hat hlt;have hf1:w1.frozen? ⟨g,c,none⟩=false:=(hgrow.frozen_far _ (by simp;omega) hno).trans ((World.frozen?_of_block (Below.heap_alloc _ _ _ hgw)).trans (hfz c));have hc2:w1.cell? ⟨bm+1,1,none⟩=some (.slice (some ⟨g,0,none⟩) s.length cap):=(hgrow.cell_far _ (by simp;omega) hno1).trans ((An (Below.heap_alloc _ _ _ hpw)).trans c1);have hc1:w1.cell? ⟨g,c,none⟩=some (rv c):=(hgrow.cell_far _ (by simp;omega) hno).trans ((An (Below.heap_alloc _ _ _ hgw)).trans hc0)))
 all_goals exact hQ _ _ _ _ _ _ _ _ _ _ _ _ _ _ _ _ _ _ (hMd.pushm hnd hc hk hown1 hgrow (hat.imp Eq.symm λe=>by rw[e];rfl) hP)
end Pt
end
section
open Go.RowKit Go.Maps
namespace Pt
open Cs Ft Ho
structure PE(w:World)(lo pb:Nat)(vp vt vo vm:Value)(m i:Nat)(rv:Nat->Value)(L:Nat->List Int)(xo:List Int)(W:World):Prop where
 box:W.heap[pb]? =some (.cells #[vp,vt,vo,vm] 107 (0,0))
 cls:Cls W lo vt m i rv L vo xo
 bel:Aw.Bel w.heap.size w W
def PE.cells{w W:World}{lo pb:Nat}{vp vt vo vm:Value}{m i:Nat}{rv:Nat->Value}{L:Nat->List Int}{xo:List Int}(h:PE w lo pb vp vt vo vm m i rv L xo W):W.cell? ⟨pb,1,none⟩=some vt/\W.frozen? ⟨pb,1,none⟩=false:=by constructor<;>simp[World.cell?,World.frozen?,h.box]
def part_walk{R h:Nat->Nat}{n B:Nat}{fs ps:List Int}(w:World)(v0 v1 v2 v3 vl:Value)(l:List FltT)(hl:FltsAt w w.heap.size vl l)(hn:l.length=n)(hlen:l.length<=1000)(hR:Rt R n h B ps)(hnum:Nums fs l)(hRn:∀i,i<n->R i<n)(hn0:0<n)
  (c60:∀w1,Aw.Bel w.heap.size w w1->Calls prog 60 #[.agg #[v0,v1,v2,v3]] w1 (IsFor fs ps w1)):
  Calls prog 29 #[.agg #[v0,v1,v2,v3],vl] w λe w'=>∃pb lo g cap rv vp vo vm xo,e=.returned (.pointer (some ⟨pb,0,none⟩))/\w'.heap[pb]? =some (.cells #[vp,.slice (some ⟨g,0,none⟩) (Cs.seen R n).length cap,vo,vm] 107 (0,0))/\
   Cls w' lo (.slice (some ⟨g,0,none⟩) (Cs.seen R n).length cap) (Cs.seen R n).length (Cs.seen R n).length rv (λc=>Cs.mem R n ((Cs.seen R n)[c]?.getD 0)) vo xo/\w.heap.size<=lo/\Aw.Bel w.heap.size w w':=by
 obtain⟨i1,hj,hy0,hy1,hy2⟩:=info_parts info3;obtain⟨i2,hj2,hz0,hz1,hz2⟩:=info_parts info32;have hmm:=@run_makeMap prog;obtain⟨a,k,rfl,_⟩:=hl.ex
 go_enter Tryz.func29,Tryz.ntmps29
 go_wp2_with (first|(go_at_call 60;refine(c60 _ (Aw.Bel.alloc _ (A5 _))).mono ?_;rintro e w1 ⟨P,rfl,hF1,⟨s1,s2,s3⟩,⟨z1,z2,z3⟩,hB1⟩;simp only[Am]at s1 s2 s3)|go_in)
 obtain⟨W0,hW0⟩:∃W0,((w1.alloc (.map #[] 0)).alloc (.cells #[.pointer (some ⟨P.pt,P.so,none⟩),.slice none 0 0,.slice none 0 0,.map (some w1.heap.size)] 107)).alloc (.map #[] 0)=W0:=⟨_,rfl⟩;have hs0:W0.heap.size=w1.heap.size+3:=by rw[<-hW0];simp
 have hws:w.heap.size+1<=w1.heap.size:=by have:=hB1.size;simpa using this
 have hA0:∀b,b<w1.heap.size->W0.heap[b]? =w1.heap[b]? :=λb hb=>by rw[<-hW0];exact((Below.heap_alloc _ _ _ (by simp;omega)).trans (Below.heap_alloc _ _ _ (by simp;omega))).trans (Below.heap_alloc _ _ _ hb)
 have hPI:PI w P fs R h n B (w1.heap.size+3) (w1.heap.size+1) w1.heap.size [] 0 W0 ps (.slice none 0 0) (.slice none 0 0) [] (λ_=>.slice none 0 0) (.map []) 0:=by
  refine⟨?_,hF1.keep λb hb=>hA0 b (by omega),hR,?_,MapOk.nil,A5 _,⟨Ce _ _ _ _,λj hj=>absurd hj (CX j),λj _ hj=>absurd hj (CX j),Ce _ _ _ _,λj hj=>absurd hj (CX j)⟩,A5 _,?_,by omega⟩
  ·rw[<-hW0,Below.heap_alloc _ _ _ (by simp)];have:=AQ (w1.alloc (.map #[] 0)) (.cells #[.pointer (some ⟨P.pt,P.so,none⟩),.slice none 0 0,.slice none 0 0,.map (some w1.heap.size)] 107);rwa [Am]at this
  ·rw[<-hW0];exact((Cp w1 prog 3 (plainElem (H:=Unit) prog 3)).alloc _).alloc _
  ·have h0:Aw.Bel w.heap.size w w1:=(Aw.Bel.alloc _ (A5 _)).trans (hB1.le (by simp));rw[<-hW0];exact((h0.trans (Aw.Bel.alloc _ (by omega))).trans (Aw.Bel.alloc _ (by simp;omega))).trans (Aw.Bel.alloc _ (by simp;omega))
 obtain⟨bm,hbm⟩:∃bm,w1.heap.size=bm:=⟨_,rfl⟩;rw[hW0];rw[hbm]at hPI hs0 hws z1 z2 z3;simp only[Am,hbm];have hlo:bm+3<=W0.heap.size:=by omega
 have hP:Pl w P (bm+3) (bm+1) bm:=⟨⟨by omega,by omega,by omega⟩,⟨by omega,by omega,by omega⟩,by omega,rfl,rfl⟩;clear hW0 hA0 hF1 hB1 hbm s1 s2 s3 hs0 z1 z2 z3
 go_loopw [27] (λp wr=>∃(j:Nat) (ps:List Int) (vt vo:Value) (xo:List Int) (rv:Nat->Value) (D:DataW Unit) (nm:Nat),p=.int .i64 j/\j<=n/\PI w P fs R h n B (bm+3) (bm+1) bm (Cs.seen R j) j wr ps vt vo xo rv D nm) (λp _=>n - (intOf p).toNat)
 case atStart=>exact⟨0,_,_,_,_,_,_,_,rfl,Af _,hPI⟩
 case round=>
  clear hPI hlo hR;obtain⟨j,ps,vt,vo,xo,rv,D,nm,rfl,hjn,hI⟩:=hrel;by_cases hjl:j<l.length
  ·have hlw:=hl.keep hI.bel.block;obtain⟨a',k',hh,hread⟩:=hlw.ex;cases hh;obtain⟨b,off,rfl,hbB,r0,r1,r2,r3,r4⟩:=hread j hjl;obtain⟨nd,p,v,z,enum,⟨hnd,efs⟩,hz,hv1⟩:=hnum j hjl;rw[enum]at r0 r1 r2 r3 r4;simp only at r0 r1 r2 r3 r4;clear hread hlw
   go_wp2_with fail
   have hIa:=hI.alloc (.cells #[.int .u8 0,.int .i64 (nd:Int),.int .i64 ((p:Int) - 1),.int .u8 (v:Int),.int .i64 0] 58) hP;have hfb:(wr.alloc (.cells #[.int .u8 0,.int .i64 (nd:Int),.int .i64 ((p:Int) - 1),.int .u8 (v:Int),.int .i64 0] 58)).heap[wr.heap.size]? =some (.cells #[.int .u8 0,.int .i64 (nd:Int),.int .i64 ((p:Int) - 1),.int .u8 (v:Int),.int .i64 0] 58 (0,0)):=AQ _ _;obtain⟨c0,c1,c2,c3,c4⟩:=hIa.cells;clear r0 r1 r2 r3 r4;clear hI;generalize wr.alloc (.cells #[.int .u8 0,.int .i64 (nd:Int),.int .i64 ((p:Int) - 1),.int .u8 (v:Int),.int .i64 0] 58)=wa at hIa hfb c0 c1 c2 c3 c4⊢;generalize wr.heap.size=t9 at hfb⊢;have d0:wa.cell? ⟨bm+1,0,none⟩=some (.pointer (some ⟨P.pt,P.so,none⟩)):=c0;have d1:wa.cell? ⟨t9,1,none⟩=some (.int .i64 (nd:Int)):=(by simp[World.cell?,hfb]);have d2:wa.cell? ⟨t9,2,none⟩=some (.int .i64 ((p:Int) - 1)):=(by simp[World.cell?,hfb]);have d3:wa.cell? ⟨t9,3,none⟩=some (.int .u8 (v:Int)):=(by simp[World.cell?,hfb]);have hIb:=hIa.drew hP;have HA:=at_walk wa.drew hIb.for' nd p v z hnd efs (by omega) (by omega) hv1;rw[hz]at HA;clear hfb c0 c1 c2 c3 c4
   go_still_tail 14,(by kernel_rfl)
   still_call (HA.mono (λe w' ⟨h1,h2⟩=>⟨h1,h2.symm⟩))
   refine wpStill_nil ?_;clear HA d0 d1 d2 d3 hIa
   change wpList _ _ _ _ _ wa.drew
   generalize wa.drew=wd at hIb⊢;have hkey:=keyOf_int_mk Tryz.underlying3 (wf_nat (k:=R j) (by have:=hRn j (by omega);omega));by_cases hsj:R j∈Cs.seen R j
   ·have hil:=Cs.idx_lt hsj;have hik:(Cs.seen R j)[(Cs.seen R j).idxOf (R j)]? =some (R j):=by rw[A4 hil,Cs.idx_at hsj]
    go_wp2_with (first|(go_at_call 61;refine(root_walk _ hIb.for' hIb.rt j (by omega)).mono ?_;rintro e w2 ⟨ps2,rfl,hF2,hR2,hBut⟩;have hI2:=hIb.root hF2 hR2 hBut hP;clear hIb hF2 hR2 hBut;obtain⟨c0,c1,c2,c3,c4⟩:=hI2.cells;have hhas:=hI2.mok.has (R j);have hat:=hI2.mok.at' (R j) hsj (.lit (.int .i64 0)))|(at_lookup;refine wpList_lookup_own_ok _ rfl _ _ 105 rfl 3 3 law3 Tryz.underlying105 (plainElem (H:=Unit) prog 3) (zero3 _) (.lit (.int .i64 0)) [] (plainElem_int Tryz.underlying3 (by decide)) bm nm D rfl hI2.map _ _ rfl hkey ?_;intro v5 ps5 hv5;rw[hhas,AB hsj];rw[hat]at hv5;obtain⟨a5,rfl,hz5,_⟩:=plainElem_int_inv Tryz.underlying3 hv5;injection hz5 with hz6 _;injection hz6 with hz6;injection hz6 with _ hz6;subst hz6;clear hv5))
    obtain⟨g,cap,rfl,hgl,_⟩:=hI2.cls.top.form (by omega);have hnd:=Cs.seen_nodup R (j+1);have hI2x:=hI2.xol;have hM:=hI2;clear hI2 c0 c1 c2 c3 c4 hhas hat;generalize List.idxOf (R j) (Cs.seen R j)=c at hil hik⊢;have hs2:=Cs.seen_old hsj;rw[hs2]at hnd;have hc:=hil;have hk:=hik;clear hil hik;generalize Cs.seen R j=s2 at hM hc hk hnd hs2⊢;refine r20_ok _ hM hP hnd hc hk (by omega) _ _ _ _ _ _ _ _ _ _ _ _ _ _ _ _ _ _ _ _ _ _ _ _ _ _ _ _ _ _ _ _ _ _ _ _ _ _ _ _ _ _ _ _ _ _ _ _ _ _ _ _ _ _ _ _ _ _ _ _ _ _ _ _ _ _ _ _ _ _ _ _ _ _ _ _ _ _ _ _ _ _ _ _ _ _ _ _ _ _ _ _ _ _ _ _ _ _ _ _ _ _ _ _ _ _ _ _ _ _ _ _ _ _ _ _ _ _ _ _ _ _ _ _ _ _ _ _ _ _ _ _ _ _ _ _ _ _ _ _ _ _ _ _ _ _ _ _ _ _ ?_;intro d102 d103 d104 d105 d106 d107 d108 d109 d110 d111 d112 d113 d114 d115 d116 d117 v' wn hN;clear hM;obtain⟨c0,c1,c2,c3,c4⟩:=hN.cells;have hno:=hN.los;have hnx:=hI2x
    go_wp2_with (first
     |(at_builtin;go_loud (refine wpList_append_own_at _ rfl _ _ 32 rfl (bm+3) 3 i1 (.int .i64 0) 1 8 Tryz.underlying32 hj hy0 hy1 hy2 rfl (by decide) vo xo.length _ rfl (hN.cls.of.alloc _) ⟨wn.heap.size,0,none⟩ 1 1 [.int .i64 (c:Int)] rfl rfl ?p1 ?p2 ?p3 ?p4 ?p5 ?_))
     |go_in)
    case p1=>exact cell_one_new _ _ _
    case p2=>intro u hu;simp at hu;subst hu;rfl
    case p3=>unfold maxLen;omega
    case p4=>omega
    case p5=>simp;omega
    intro vo2 w6 hown6 hgrow6 _ hat6;obtain⟨go,kao,rfl,hgo,_⟩:=hown6.form (by omega);have hN2:=hN.pusho (by omega) hown6 hgrow6 (by simpa using hat6) hP;have hl6:=low_of hgrow6 hN.los (λb hb=>(hN.cls.of.lt b hb).1);have hb6:=(hl6.1 (bm+1) (by omega)).trans hN.box;have f0:w6.frozen? ⟨bm+1,2,none⟩=false:=(by simp[World.frozen?,hb6]);have f1:w6.cell? ⟨bm+1,2,none⟩=some vo:=(by simp[World.cell?,hb6]);clear hl6 hb6 hown6 hgrow6 hat6 hN c0 c1 c2 c3 c4
    go_wp2_with fail
    go_roundw
    case rel=>exact⟨j+1,ps2,_,_,_,_,_,_,by simp,by omega,by rw[hs2];exact hN2⟩
    case measure=>simp[intOf];omega
   ·go_wp2_with (first|(go_at_call 61;refine(root_walk _ hIb.for' hIb.rt j (by omega)).mono ?_;rintro e w2 ⟨ps2,rfl,hF2,hR2,hBut⟩;have hI2:=hIb.root hF2 hR2 hBut hP;clear hIb hF2 hR2 hBut;obtain⟨c0,c1,c2,c3,c4⟩:=hI2.cells;have hhas:=hI2.mok.has (R j))|(at_lookup;refine wpList_lookup_own_ok _ rfl _ _ 105 rfl 3 3 law3 Tryz.underlying105 (plainElem (H:=Unit) prog 3) (zero3 _) (.lit (.int .i64 0)) [] (plainElem_int Tryz.underlying3 (by decide)) bm nm D rfl hI2.map _ _ rfl hkey ?_;intro v5 ps5 hv5;clear hv5;rw[hhas,AM hsj]))
    obtain⟨aT,kT,rfl⟩:=own_slice hI2.cls.top;have d0:w2.cell? ⟨bm+1,1,none⟩=some (.slice aT (Cs.seen R j).length kT):=c1;have d1:w2.cell? ⟨bm+1,3,none⟩=some (.map (some bm)):=c3
    go_still_tail 10,(by kernel_rfl)
    clear d0 d1 c0 c1 c2 c3 c4;have hI3:=hI2.drew hP;clear hI2
    change wpList _ _ _ _ _ w2.drew
    generalize w2.drew=w3 at hI3⊢;obtain⟨c0,c1,c2,c3,c4⟩:=hI3.cells;have hnml:=hI3.nmj;have hsl:=Cs.seen_len R j
    go_wp2_with (first
     |(at_mapUpdate;go_loud (refine Cg _ rfl _ _ _ 105 rfl 3 3 law3 Tryz.underlying105 (plainElem (H:=Unit) prog 3) bm nm _ rfl hI3.map (by unfold maxLen;omega) _ _ _ rfl rfl hkey _ [] (plainElem_int Tryz.underlying3 (wf_nat (by omega))) ?_);intro w5 hown5 hgrow5;obtain⟨x0,x1,x2,x3,x4⟩:=hI3.key hown5 hgrow5 hP;clear hgrow5;have y1:w5.cell? ⟨bm+1,1,none⟩=some (.slice aT (Cs.seen R j).length kT):=by simp[World.cell?,x0])
     |(at_builtin;go_loud (refine wpList_append_own_at _ rfl _ _ 43 rfl (bm+3) 32 i2 (.slice none 0 0) 1 24 Tryz.underlying43 hj2 hz0 hz1 hz2 rfl (by decide) (.slice aT (Cs.seen R j).length kT) (Cs.seen R j).length _ rfl (x2.top.alloc _) ⟨w5.heap.size,0,none⟩ 1 1 [.slice none 0 0] rfl rfl ?p1 ?p2 ?p3 ?p4 ?p5 ?_))
     |go_in)
    case p1=>exact cell_one_new _ _ _
    case p2=>intro u hu;simp at hu;subst hu;rfl
    case p3=>unfold maxLen;omega
    case p4=>omega
    case p5=>simp;omega
    intro vt2 w6 hown6 hgrow6 _ hat6;obtain⟨g,cap,rfl,hgl,_⟩:=hown6.form (by omega);have hM:=PI.newc hsj x0 x1 hI3.rt hown5 hI3.mok hnml x3 x4 x2 hI3.xol (by simpa using hown6) hgrow6 hP;have hl6:=low_of hgrow6 x4 (λb hb=>(x2.top.lt b hb).1);have hb6:=(hl6.1 (bm+1) (by omega)).trans x0;have f0:w6.frozen? ⟨bm+1,1,none⟩=false:=(by simp[World.frozen?,hb6]);have f1:w6.cell? ⟨bm+1,1,none⟩=some (.slice aT (Cs.seen R j).length kT):=(by simp[World.cell?,hb6]);have hnd:=Cs.seen_nodup R (j+1);have hI2x:=hI3.xol;clear hl6 hb6 x0 x1 x2 x3 x4 y1 hown5 hown6 hgrow6 hat6 hI3 c0 c1 c2 c3 c4 hnml hhas
    go_wp2_with fail
    have hsl1:(Cs.seen R j).length+1=(Cs.seen R (j+1)).length:=(by rw[Cs.seen_new hsj];simp);rw[hsl1]at hM⊢;have hc:(Cs.seen R j).length<(Cs.seen R (j+1)).length:=(by rw[Cs.seen_new hsj];simp);have hk:(Cs.seen R (j+1))[(Cs.seen R j).length]? =some (R j):=(by rw[Cs.seen_new hsj];simp);clear f0 f1 hsl;generalize (λk=>if k=(Cs.seen R j).length then Value.slice none 0 0 else rv k)=rv2 at hM;generalize D.put _ _=D2 at hM;generalize nm+1=nm2 at hM;generalize w6.setCell _ _=wm at hM⊢;generalize (Cs.seen R j).length=c at hM hc hk⊢;generalize (.slice aT c kT:Value)=vold;obtain⟨s2,hs2⟩:∃s2,Cs.seen R (j+1)=s2:=⟨_,rfl⟩;rw[hs2]at hM hc hk hnd⊢;refine r20_ok _ hM hP hnd hc hk (by omega) _ _ _ _ _ _ _ _ _ _ _ _ _ _ _ _ _ _ _ _ _ _ _ _ _ _ _ _ _ _ _ _ _ _ _ _ _ _ _ _ _ _ _ _ _ _ _ _ _ _ _ _ _ _ _ _ _ _ _ _ _ _ _ _ _ _ _ _ _ _ _ _ _ _ _ _ _ _ _ _ _ _ _ _ _ _ _ _ _ _ _ _ _ _ _ _ _ _ _ _ _ _ _ _ _ _ _ _ _ _ _ _ _ _ _ _ _ _ _ _ _ _ _ _ _ _ _ _ _ _ _ _ _ _ _ _ _ _ _ _ _ _ _ _ _ _ _ _ _ _ ?_;intro d102 d103 d104 d105 d106 d107 d108 d109 d110 d111 d112 d113 d114 d115 d116 d117 v' wn hN;clear hM;obtain⟨c0,c1,c2,c3,c4⟩:=hN.cells;have hno:=hN.los;have hnx:=hI2x
    go_wp2_with (first
     |(at_builtin;go_loud (refine wpList_append_own_at _ rfl _ _ 32 rfl (bm+3) 3 i1 (.int .i64 0) 1 8 Tryz.underlying32 hj hy0 hy1 hy2 rfl (by decide) vo xo.length _ rfl (hN.cls.of.alloc _) ⟨wn.heap.size,0,none⟩ 1 1 [.int .i64 (c:Int)] rfl rfl ?p1 ?p2 ?p3 ?p4 ?p5 ?_))
     |go_in)
    case p1=>exact cell_one_new _ _ _
    case p2=>intro u hu;simp at hu;subst hu;rfl
    case p3=>unfold maxLen;omega
    case p4=>omega
    case p5=>simp;omega
    intro vo2 w6 hown6 hgrow6 _ hat6;obtain⟨go,kao,rfl,hgo,_⟩:=hown6.form (by omega);have hN2:=hN.pusho (by omega) hown6 hgrow6 (by simpa using hat6) hP;have hl6:=low_of hgrow6 hN.los (λb hb=>(hN.cls.of.lt b hb).1);have hb6:=(hl6.1 (bm+1) (by omega)).trans hN.box;have f0:w6.frozen? ⟨bm+1,2,none⟩=false:=(by simp[World.frozen?,hb6]);have f1:w6.cell? ⟨bm+1,2,none⟩=some vo:=(by simp[World.cell?,hb6]);clear hl6 hb6 hown6 hgrow6 hat6 hN c0 c1 c2 c3 c4
    go_wp2_with fail
    go_roundw
    case rel=>exact⟨j+1,ps2,_,_,_,_,D2,nm2,by simp,by omega,by rw[hs2];exact hN2⟩
    case measure=>simp[intOf];omega
  ·have hje:j=n:=(by omega);subst hje;have hE:PE w (bm+3) (bm+1) (.pointer (some ⟨P.pt,P.so,none⟩)) vt vo (.map (some bm)) (Cs.seen R j).length 0 rv (λc=>Cs.mem R j ((Cs.seen R j)[c]?.getD 0)) xo wr:=⟨hI.box,hI.cls,hI.bel⟩;have hpos:0<(Cs.seen R j).length:=(by have:R 0∈Cs.seen R j:=Cs.seen_in.2 ⟨0,by omega,rfl⟩;exact List.length_pos_iff.2 (λe=>by rw[e]at this;cases this));clear hI hRn hnum c60;have hmle:(Cs.seen R j).length<=1000:=(by have:=Cs.seen_len R j;omega);obtain⟨L,hL⟩:∃L:Nat->List Int,(λc=>Cs.mem R j ((Cs.seen R j)[c]?.getD 0))=L:=⟨_,rfl⟩;rw[hL]at hE;obtain⟨m,hm⟩:∃m,(Cs.seen R j).length=m:=⟨_,rfl⟩;rw[hm]at hE hpos hmle;obtain⟨g,cap,rfl,hgl,_⟩:=hE.cls.top.form hpos;obtain⟨c0,c1⟩:=hE.cells
   go_wp2_with fail
   clear c0 c1
   go_loopw [134] (λp W=>∃i:Nat,p=.int .i64 i/\i<=m/\PE w (bm+3) (bm+1) (.pointer (some ⟨P.pt,P.so,none⟩)) (.slice (some ⟨g,0,none⟩) m cap) vo (.map (some bm)) m i rv L xo W) (λp _=>m - (intOf p).toNat)
   case atStart=>exact⟨0,rfl,Af _,hE⟩
   case round=>
    clear hE;obtain⟨i,rfl,him,hE⟩:=hrel;obtain⟨c0,c1⟩:=hE.cells;by_cases hil:i<m
    ·have hr:=hE.cls.row i hil;have hle:∃a k,rv i=.slice a (L i).length k/\(L i).length<=k:=by
      rcases hr.2 with ⟨h1,h2⟩|⟨g',cap',cur',h1,_,_,h3,_⟩
      ·exact⟨none,0,by rw[h1,h2],by omega⟩
      ·exact⟨_,_,h1,h3⟩
     obtain⟨ai,ki,hri,hle⟩:=hle;have hgl':=(hE.cls.top.lt g rfl);have hE1:PE w (bm+3) (bm+1) (.pointer (some ⟨P.pt,P.so,none⟩)) (.slice (some ⟨g,0,none⟩) m cap) vo (.map (some bm)) m (i+1) rv L xo (wr.drew.setCell ⟨g,i,none⟩ (.slice ai (L i).length (L i).length)):=(by have h1:Cls wr.drew (bm+3) (.slice (some ⟨g,0,none⟩) m cap) m i rv L vo xo:=hE.cls.keep λ_ _ _=>rfl;have h2:=h1.clip1 hil;rw[hri]at h2;exact⟨(Below.heap_setCell _ _ _ _ (show bm+1≠g by omega)).trans hE.box,h2,⟨hE.bel.os,hE.bel.out,by rw[World.size_setCell];exact hE.bel.size,λb hb=>(Below.heap_setCell _ _ _ _ (show b≠g by omega)).trans (hE.bel.block b hb)⟩⟩);have d1:wr.cell? ⟨g,i,none⟩=some (.slice ai (L i).length ki):=(by rw[hE.cls.top.cellAt i (by omega)];simp[hil,hri]);have d2:wr.drew.cell? ⟨g,i,none⟩=some (.slice ai (L i).length ki):=d1;have d3:wr.drew.frozen? ⟨g,i,none⟩=false:=hE.cls.top.frozenAt i;have d0:wr.cell? ⟨bm+1,1,none⟩=some (.slice (some ⟨g,0,none⟩) m cap):=c0;have HA:=Ho.clip34 wr.drew ai (L i).length ki hle;clear hE hr c0 c1 hri
     go_wp2_with fail
     go_still_tail 13,(by kernel_rfl)
     still_call (HA.mono (λe w' ⟨h1,h2⟩=>⟨h1,h2.symm⟩))
     refine wpStill_nil ?_;clear HA d0 d1
     change wpList _ _ _ _ _ wr.drew
     generalize wr.drew=wd at hE1 d2 d3⊢
     go_wp2_with fail
     go_roundw
     case rel=>exact⟨i+1,by simp,by omega,hE1⟩
     case measure=>simp[intOf];omega
    ·have him:i=m:=(by omega);rw[him]at hE;clear him
     go_wp2
     refine BO (results_tmp rfl _ _ _) rfl ?_;subst hm hL;exact⟨bm+1,bm+3,g,cap,rv,_,_,_,_,rfl,hE.box,hE.cls,by omega,hE.bel⟩
end Pt
end
section
open Go.RowKit Go.Maps
namespace Pt
open Cs Ft Ho
def clip28(w:World)(a:Option Addr)(n k:Nat)(h:n<=k):Calls prog 28 #[.slice a n k] w λe w'=>e=.returned (.slice a n n)/\w=w':=by
 go_enter Tryz.func28,Tryz.ntmps28
 go_wp2
 exact BO (results_tmp rfl _ _ _) rfl ⟨rfl,rfl⟩
def cells4{w:World}{b:Nat}{v0 v1 v2 v3:Value}{t:TypeId}(h:w.heap[b]? =some (.cells #[v0,v1,v2,v3] t (0,0))):w.cell? ⟨b,0,none⟩=some v0/\w.cell? ⟨b,1,none⟩=some v1/\w.cell? ⟨b,2,none⟩=some v2/\w.cell? ⟨b,3,none⟩=some v3:=by refine⟨?_,?_,?_,?_⟩<;>simp[World.cell?,h]
def box_after{w w1:World}{cs:Array Value}{t:TypeId}(h:Aw.Bel (w.heap.size+1) (w.alloc (.cells cs t)) w1):w1.heap[w.heap.size]? =some (.cells cs t (0,0)):=(h.block _ (Nat.lt_succ_self _)).trans (AQ _ _)
structure IsCl(R:Nat->Nat)(n:Nat)(w:World)(e:Ending)(w':World):Prop where
 ex:∃lo g cap rv vo xo,e=.returned (.tuple #[.slice (some ⟨g,0,none⟩) (Cs.seen R n).length (Cs.seen R n).length,.int .i64 0])/\
   Cls w' lo (.slice (some ⟨g,0,none⟩) (Cs.seen R n).length cap) (Cs.seen R n).length (Cs.seen R n).length rv (λc=>Cs.mem R n ((Cs.seen R n)[c]?.getD 0)) vo xo/\w.heap.size<=lo/\Aw.Bel w.heap.size w w'
def classes_walk{R h:Nat->Nat}{n B:Nat}{fs ps:List Int}(w:World)(v0 v1 v2 v3 vl:Value)(l:List FltT)(hl:FltsAt w w.heap.size vl l)(hn:l.length=n)(hlen:l.length<=1000)(hR:Rt R n h B ps)(hnum:Nums fs l)(hRn:∀i,i<n->R i<n)(hn0:0<n)
  (c27:∀w1,Aw.Bel w.heap.size w w1->Calls prog 27 #[.agg #[v0,v1,v2,v3],vl] w1 λe w'=>e=.returned (.int .i64 0)/\Aw.Bel w1.heap.size w1 w')
  (c60:∀w1,Aw.Bel w.heap.size w w1->Calls prog 60 #[.agg #[v0,v1,v2,v3]] w1 (IsFor fs ps w1)):
  Calls prog 8 #[.agg #[v0,v1,v2,v3],vl] w (IsCl R n w):=by
 go_enter Tryz.func8,Tryz.ntmps8
 go_wp2_with (first
  |(go_at_call 27;refine(c27 _ (Aw.Bel.alloc _ (A5 _))).mono ?_;rintro e w1 ⟨rfl,hB1⟩;simp only[Am]at hB1;have hW1:Aw.Bel w.heap.size w w1:=(Aw.Bel.alloc _ (A5 _)).trans (hB1.le (by omega));obtain⟨x0,x1,x2,x3⟩:=cells4 (box_after hB1))
  |(go_at_call 29;refine(part_walk _ v0 v1 v2 v3 vl l ((hl.keep hW1.block).up hW1.size) hn hlen hR hnum hRn hn0 (λw2 hb=>c60 w2 (hW1.trans (hb.le hW1.size)))).mono ?_;rintro e w2 ⟨pb,lo,g,cap,rv,vp,vo,vm,xo,rfl,hbox,hcls,hlo,hB2⟩;have hW2:=hW1.trans (hB2.le hW1.size);obtain⟨z0,z1,z2,z3⟩:=cells4 hbox;have hle:(Cs.seen R n).length<=cap:=by { rcases hcls.top.2 with ⟨h1,_⟩|⟨g',cap',cur',h1,_,_,h3,_⟩;{ cases h1 };{ injection h1 with _ _ h1;omega } })
  |(go_at_call 28;go_loud (refine(clip28 _ _ _ _ (by assumption)).mono ?_);rintro e w3 ⟨rfl,rfl⟩)
  |go_in)
 refine BO (results_tmp2 rfl _ _ _) rfl ?_;exact⟨⟨lo,g,cap,rv,vo,xo,rfl,hcls,Ao hW1.size hlo,hW2⟩⟩
end Pt
end
section
open Go.RowKit Go.Maps
def wpListIn_append_at{F:Fence}{n:Nat}{P:Program}(w:World){ops:Array Oper}{rest:List Oper}{o:Oper}{a:Act}{Q:Exit->Act->World->Prop}
  (hg:o.guard=none) (s x:Operand) (t:TypeId) (hop:o.op=Op.call { callee:=Callee.builtin Builtin.append,args:= #[s,x],argTypes:= #[t,t] })
  (base:Nat) (e:TypeId) (i:TypeInfo) (z:Value) (size bytes:Nat) (h1:P.underlying t=some (.slice e)) (h2:P.info? e=some i) (h3:i.zero=some z) (h4:i.size=size) (h5:i.bytes=bytes) (h6:z.cells.size=size) (h7:0<size)
  (v:Value) (k:Nat) (xs:List Value) (hs:a.eval s=v) (hown:w.ownsRow base e size v k xs) (ad:Addr) (m c:Nat) (news:List Value) (hx:a.eval x=.slice (some ad) m c) (hn:news.length=m*size)
  (hc:∀j u,news[j]? =some u->w.cell? (ad.add j)=some u) (h1c:∀u∈news,u.oneCell'=true) (b1:k+m<=maxLen) (b2:(k+m)*bytes<=140737488355328) (b3:base<=w.heap.size)
  (hK:∀v' w',w'.ownsRow base e size v' (k+m) (xs++news)->w.grownBy w' v.ownBlock->(v'.ownBlock=v.ownBlock\/v'.ownBlock=some w.heap.size)->wpListIn F n P ops Q rest (a.put o.dst v') w'):
  wpListIn F n P ops Q (o::rest) a w:=by
 refine wpListIn_plain hg λK hK'=> ?_;obtain⟨v',w',hrun,r1,r2,r3,r4⟩:=run_append_own_at (P:=P) w base t o.type e i z size bytes h1 h2 h3 h4 h5 h6 h7 v k xs hown ad m c news hn hc h1c b1 b2 b3;unfold Oper.wpIn;refine⟨?_,?_⟩
 ·simp[Oper.about,hop,resolve,Target.leads,BC]
 ·rw[Oper.semAt_plain F _ _ (by rw[hop];intro c hc';cases hc')];simp[execOp,hop,resolve,invoke,builtin,hs,hx,hrun,Result.andThen];exact hK' _ _ (hK v' w' r1 r2 r4)
namespace Rf
attribute [local go_sem] Oper.semAt_some
open Pt (cells4 box_after)
def info58:(prog.info? 58).map (λi=>(i.zero,i.size,i.bytes))=some (some (.agg #[.int .u8 0,.int .i64 0,.int .i64 0,.int .u8 0,.int .i64 0]),5,40):=by kernel_rfl
def clip26(w:World)(a:Option Addr)(n k:Nat)(h:n<=k):Calls prog 26 #[.slice a n k] w λe w'=>e=.returned (.slice a n n)/\w=w':=by
 go_enter Tryz.func26,Tryz.ntmps26
 go_wp2
 exact BO (results_tmp rfl _ _ _) rfl ⟨rfl,rfl⟩
def results_cell2{P:Program}{fn:Func}{p q:Tmp}{t1 t2:TypeId}(h:fn.results= #[.cell p t1,.cell q t2])(tmps:Array Value)(w:World)(a b:Addr)(v1 v2:Value)(hp:tmps.getD p undef=.pointer (some a))(hq:tmps.getD q undef=.pointer (some b))
  (h1:(loadVar t1 a).run P w=.ok v1 w) (h2:(loadVar t2 b).run P w=.ok v2 w):(results fn tmps).run P w=.ok (.tuple #[v1,v2]) w:=by
 have hp':tmps[p]?.getD undef=.pointer (some a):=by simpa using hp
 have hq':tmps[q]?.getD undef=.pointer (some b):=by simpa using hq
 simp[results,h,hp',hq',asAddr,h1,h2,AR,Result.andThen]
def load_38{w:World}{a:Addr}{v:Value}(h:w.cell? a=some v):(loadVar 38 a).run prog w=.ok v w:=by
 unfold loadVar
 go_simp
def load_39{w:World}{a:Addr}{v:Value}(h:w.cell? a=some v):(loadVar 39 a).run prog w=.ok v w:=by
 unfold loadVar
 go_simp
def own_mono{w:World}{base base':Nat}{e:TypeId}{size:Nat}{v:Value}{n:Nat}{xs:List Value}(h:w.ownsRow base e size v n xs)(hb:base'<=base):w.ownsRow base' e size v n xs:=
 ⟨h.1,h.2.imp id λ⟨g,cap,cur,h1,h2,h3⟩=>⟨g,cap,cur,h1,Ao hb h2,h3⟩⟩
structure IsLn(ln:Nat->Int×Int)(m:Nat)(w:World)(e:Ending)(w':World):Prop where
 ex:∃bl off cap,e=.returned (.tuple #[.slice (some ⟨bl,off,none⟩) m cap,.int .i64 0])/\bl<w'.heap.size/\(∀i,i<m->w'.cell? ⟨bl,off+i*2,none⟩=some (.int .i64 (ln i).1)/\w'.cell? ⟨bl,off+i*2+1,none⟩=some (.int .i64 (ln i).2))/\Aw.Bel w.heap.size w w'
def cellsF(ln:Nat->Int×Int)(k:Nat):List Value:=[.int .u8 0,.int .i64 (ln (k / 2)).1,.int .i64 (ln (k / 2)).2,.int .u8 ((k%2:Nat):Int),.int .i64 0]
structure B3(B:Nat)(v0 v1 v2 v3 r e:Value)(W:World):Prop where
 a:W.heap[B]? =some (.cells #[v0,v1,v2,v3] 34 (0,0))
 r:W.heap[B+1]? =some (.cells #[r] 38 (0,0))
 e:W.heap[B+1+1]? =some (.cells #[e] 39 (0,0))
def B3.bel{B:Nat}{v0 v1 v2 v3 r e:Value}{W W':World}(h:B3 B v0 v1 v2 v3 r e W)(hb:Aw.Bel W.heap.size W W')(hl:B+1+1<W.heap.size):B3 B v0 v1 v2 v3 r e W':=
 ⟨(hb.block _ (by omega)).trans h.a,(hb.block _ (by omega)).trans h.r,(hb.block _ (by omega)).trans h.e⟩
structure At9(ln:Nat->Int×Int)(k b9:Nat)(W:World):Prop where
 h:W.heap[b9]? =some (.cells (cellsF ln k).toArray 58 (0,0))
structure Po(w:World)(v0 v1 v2 v3:Value)(ln:Nat->Int×Int)(bo lo N k:Nat)(g:Option Nat)(W:World):Prop where
 ex:∃v,W.heap[bo]? =some (.cells #[v] 38 (0,0))/\v.ownBlock=g/\W.ownsRow lo 58 5 v k ((List.range k).flatMap (cellsF ln))
 le:k<=N
 box:B3 w.heap.size v0 v1 v2 v3 (.slice none 0 0) (.int .i64 0) W
 bel:Aw.Bel w.heap.size w W
 lo:bo+1<lo
 w2:w.heap.size+1+1<bo
def Po.lt{w:World}{v0 v1 v2 v3:Value}{ln:Nat->Int×Int}{bo lo N k b:Nat}{W:World}(h:Po w v0 v1 v2 v3 ln bo lo N k (some b) W):lo<=b/\b<W.heap.size:=by obtain⟨v,h1,h2,h3⟩:=h.ex;exact h3.lt b h2
def Po.keep{w:World}{v0 v1 v2 v3:Value}{ln:Nat->Int×Int}{bo B N k:Nat}{g:Option Nat}{W W':World}(h:Po w v0 v1 v2 v3 ln bo (B+2) N k g W)(h1:bo<B)(h2:w.heap.size+1+1<bo)(hf:Fr (λb=>b≠B/\b≠B+1) W W'):Po w v0 v1 v2 v3 ln bo (B+2) N k g W':=by obtain⟨v,r1,r2,r3⟩:=h.ex;have hlt:=(A8.1 r1).1;refine⟨⟨v,(hf.keep _ hlt (by omega)).trans r1,r2,Fo.own_keep r3 λb hb=>hf.keep _ (r3.lt b hb).2 (by have:=r3.lt b hb;omega)⟩,h.le,⟨(hf.keep _ (by omega) (by omega)).trans h.box.a,(hf.keep _ (by omega) (by omega)).trans h.box.r,(hf.keep _ (by omega) (by omega)).trans h.box.e⟩,⟨hf.os.trans h.bel.os,hf.out.trans h.bel.out,Ao h.bel.size hf.size,λb hb=>(hf.keep _ (by omega) (by omega)).trans (h.bel.block b hb)⟩,h.lo,h.w2⟩
structure IsAll(ln:Nat->Int×Int)(m:Nat)(w:World)(e:Ending)(w':World):Prop where
 ex:∃g cap,e=.returned (.tuple #[.slice (some ⟨g,0,none⟩) (2*m) (2*m),.int .i64 0])/\w'.ownsRow w.heap.size 58 5 (.slice (some ⟨g,0,none⟩) (2*m) cap) (2*m) ((List.range (2*m)).flatMap (cellsF ln))/\Aw.Bel w.heap.size w w'
def all_walk(n:Nat)(w:World)(v0 v1 v2 v3:Value)(ln:Nat->Int×Int)(m:Nat)(hm:m<=1000)(hm0:0<m)
  (c24:∀w1,Aw.Bel w.heap.size w w1->Calls prog 24 #[.agg #[v0,v1,v2,v3]] w1 (IsLn ln m w1)):
  CallsIn Fence.wide n prog 7 #[.agg #[v0,v1,v2,v3],.int .u8 0] w (IsAll ln m w):=by
 obtain⟨i1,hj,hy0,hy1,hy2⟩:=info_parts info58;refine callsIn_of_wp_marks Tryz.func7 rfl trivial ?_ rfl;simp only[Tryz.ntmps7,List.size_toArray,As,CZ,Nat.reduceAdd,Nat.reduceSub,Array.replicate_succ,Array.replicate_zero,List.push_toArray,List.append_toArray,Bf,CT]
 gi_wp2
 obtain⟨W1,hW1⟩:∃W1,((w.alloc (.cells #[v0,v1,v2,v3] 34)).alloc (.cells #[.slice none 0 0] 38)).alloc (.cells #[.int .i64 0] 39)=W1:=⟨_,rfl⟩;have hB1:B3 w.heap.size v0 v1 v2 v3 (.slice none 0 0) (.int .i64 0) W1:=by
  rw[<-hW1];refine⟨?_,?_,?_⟩
  ·rw[Below.heap_alloc _ _ _ (by simp<;>omega),Below.heap_alloc _ _ _ (by simp)];exact AQ _ _
  ·rw[Below.heap_alloc _ _ _ (by simp)];have:=AQ (w.alloc (.cells #[v0,v1,v2,v3] 34)) (.cells #[.slice none 0 0] 38);rwa [Am]at this
  ·have:=AQ ((w.alloc (.cells #[v0,v1,v2,v3] 34)).alloc (.cells #[.slice none 0 0] 38)) (.cells #[.int .i64 0] 39);rwa [Am,Am]at this
 have hs1:W1.heap.size=w.heap.size+3:=by rw[<-hW1];simp
 have hw1:Aw.Bel w.heap.size w W1:=by rw[<-hW1];exact((Aw.Bel.alloc _ (A5 _)).trans (Aw.Bel.alloc _ (by simp))).trans (Aw.Bel.alloc _ (by simp;omega))
 rw[hW1];clear hW1;refine⟨trivial,λh=>(by cases h),(callsIn_wide.2 (c24 _ hw1)).mono ?_⟩;rintro e W2 ⟨bl,off,cap,rfl,hbl,hln,hb2⟩;have hB2:=hB1.bel hb2 (by omega);have hw2:Aw.Bel w.heap.size w W2:=hw1.trans (hb2.le (by omega));have hs2:=hb2.size;have p0:w.heap.size<W2.heap.size:=by omega
 have p1:w.heap.size+1<W2.heap.size:=by omega
 have p2:w.heap.size+1+1<W2.heap.size:=by omega
 clear hB1 hw1 hb2 hs1 hs2 c24;obtain⟨x0,x1,x2,x3⟩:=cells4 hB2.a
 gi_wp2
 refine⟨trivial,λh=>(by cases h),(sites_walk _ _ v0 v1 v2 v3 _ _ _).mono ?_⟩;rintro e w' ⟨rfl,rfl⟩
 gi_wp2
 obtain⟨bo,hbo⟩:∃bo,W2.heap.size=bo:=⟨_,rfl⟩;obtain⟨W0,hW0⟩:∃W0,(((W2.alloc (.cells #[.slice none 0 0] 38)).alloc (.cells #[v0,v1,v2,v3] 34)).alloc (.cells #[.int .u8 0] 42)).alloc (.cells #[.slice (some ⟨bl,off,none⟩) m cap] 95)=W0:=⟨_,rfl⟩;have hb20:Aw.Bel W2.heap.size W2 W0:=by rw[<-hW0];exact(((Aw.Bel.alloc _ (A5 _)).trans (Aw.Bel.alloc _ (by simp))).trans (Aw.Bel.alloc _ (by simp;omega))).trans (Aw.Bel.alloc _ (by simp;omega))
 have hs0:W0.heap.size=bo+4:=by rw[<-hW0,<-hbo];simp
 have ho0:W0.heap[bo]? =some (.cells #[.slice none 0 0] 38 (0,0)):=by rw[<-hW0,<-hbo,Below.heap_alloc _ _ _ (by simp<;>omega),Below.heap_alloc _ _ _ (by simp<;>omega),Below.heap_alloc _ _ _ (by simp)];exact AQ _ _
 have h40:W0.heap[bo+1+1]? =some (.cells #[.int .u8 0] 42 (0,0)):=by rw[<-hW0,<-hbo,Below.heap_alloc _ _ _ (by simp<;>omega)];have:=AQ ((W2.alloc (.cells #[.slice none 0 0] 38)).alloc (.cells #[v0,v1,v2,v3] 34)) (.cells #[.int .u8 0] 42);rwa [Am,Am]at this
 have h50:W0.heap[bo+1+1+1]? =some (.cells #[.slice (some ⟨bl,off,none⟩) m cap] 95 (0,0)):=by rw[<-hW0,<-hbo];have:=AQ (((W2.alloc (.cells #[.slice none 0 0] 38)).alloc (.cells #[v0,v1,v2,v3] 34)).alloc (.cells #[.int .u8 0] 42)) (.cells #[.slice (some ⟨bl,off,none⟩) m cap] 95);rwa [Am,Am,Am]at this
 have hB0:=hB2.bel hb20 p2;have hw0:=hw2.trans (hb20.le (by omega))
 have hln0:∀i,i<m->W0.cell? ⟨bl,off+i*2,none⟩=some (.int .i64 (ln i).1)/\W0.cell? ⟨bl,off+i*2+1,none⟩=some (.int .i64 (ln i).2):=λi hi=>
  ⟨(An (hb20.block _ hbl)).trans (hln i hi).1,(An (hb20.block _ hbl)).trans (hln i hi).2⟩
 rw[hW0];rw[hbo]at p0 p1 p2 hbl;simp only[hbo];clear hW0 hb20 hB2 hw2 hln x0 x1 x2 x3 hbo;refine rng_law (gf:=57) (lb:= #[.pointer (some ⟨bo+1+1,0,none⟩),.pointer (some ⟨bo+1+1+1,0,none⟩),.pointer (some ⟨bo+1,0,none⟩)]) rfl (enters_of Tryz.func57 (by kernel_rfl) rfl) (enc:=encF ln) (bo:=bo) (by omega)
  (sites_seq (n - 1) ln m (bo+1+1) (bo+1+1+1) (bo+1) bl off cap bo hm) (λ_=>rfl)
  (λk g W=>Po w v0 v1 v2 v3 ln bo (W0.heap.size+2) (2*m) k g W)
  (λk g W W' h hf=>h.keep (by omega) p2 hf) (λk b W h=>by have:=h.lt;omega) ⟨⟨_,ho0,rfl,Ce _ _ _ _⟩,Af _,hB0,hw0,by omega,p2⟩
  (λW hf=>⟨?_,?_,λi hi=>⟨?_,?_⟩,⟨by omega,by omega,by omega⟩,⟨by omega,by omega,by omega⟩⟩)
  (λk a' W=>∃b9,At9 ln k b9 W/\W0.heap.size+2<=b9/\a'={ tmps:= #[.agg #[v0,v1,v2,v3],.int .u8 0,.pointer (some ⟨w.heap.size,0,none⟩),undef,.pointer (some ⟨w.heap.size+1,0,none⟩),.pointer (some ⟨w.heap.size+1+1,0,none⟩),.slice (some ⟨bl,off,none⟩) m cap,.int .i64 0,.pointer (some ⟨bo,0,none⟩),.pointer (some ⟨b9,0,none⟩),.tuple #[.slice (some ⟨bl,off,none⟩) m cap,.int .i64 0],.agg #[v0,v1,v2,v3],.tuple #[.slice (some ⟨bl,off,none⟩) m cap,.int .i64 0],.slice (some ⟨bl,off,none⟩) m cap,.int .i64 0,.bool false,.int .i64 0,.bool false,undef,.bool false,.int .u8 0,.bool false,.agg #[v0,v1,v2,v3],.int .u8 0,.slice (some ⟨bl,off,none⟩) m cap,.func (.func 57) #[] #[.pointer (some ⟨bo+1+1,0,none⟩),.pointer (some ⟨bo+1+1+1,0,none⟩),.pointer (some ⟨bo+1,0,none⟩)],.agg (cellsF ln k).toArray,undef,undef,undef,undef,undef,undef,undef,undef,undef],defers:=[] })
  (λk a' W W' ⟨b9,h1,h2,h3⟩ hf=>⟨b9,⟨(hf.keep _ (A8.1 h1.h).1 (by omega)).trans h1.h⟩,h2,h3⟩)
  ?assign ?body ?done
 ·have:=(hf.keep _ (A8.1 h40).1 trivial).trans h40;simp[World.cell?,this]
 ·have:=(hf.keep _ (A8.1 h50).1 trivial).trans h50;simp[World.cell?,this]
 ·exact(An (hf.keep bl (by omega) trivial)).trans (hln0 i hi).1
 ·exact(An (hf.keep bl (by omega) trivial)).trans (hln0 i hi).2
 case assign=>
  rintro l k g W K h hk hsz hK;unfold encF
  gi_wp2
  exact hK _ _ ⟨W.heap.size,⟨AQ _ _⟩,hsz,rfl⟩ (Fr.alloc _ _ _)
 case body=>
  rintro l k g a' W h ⟨b9,⟨hb9⟩,h9,rfl⟩ hk hsz;obtain⟨v,ho,hg,hown⟩:=h.ex;obtain⟨av,kv,rfl⟩:=Pt.own_slice hown;subst hg;have c0:W.cell? ⟨bo,0,none⟩=some (.slice av k kv):=(by simp[World.cell?,ho]);have d0:W.cell? ⟨b9,0,none⟩=some (.int .u8 0):=(by simp[World.cell?,hb9,cellsF]);have d1:W.cell? ⟨b9,1,none⟩=some (.int .i64 (ln (k / 2)).1):=(by simp[World.cell?,hb9,cellsF]);have d2:W.cell? ⟨b9,2,none⟩=some (.int .i64 (ln (k / 2)).2):=(by simp[World.cell?,hb9,cellsF]);have d3:W.cell? ⟨b9,3,none⟩=some (.int .u8 ((k%2:Nat):Int)):=(by simp[World.cell?,hb9,cellsF]);have d4:W.cell? ⟨b9,4,none⟩=some (.int .i64 0):=by simp[World.cell?,hb9,cellsF]
  gi_wp2_with (gi_at_builtin;go_loud (refine wpListIn_append_at _ rfl _ _ 38 rfl (W0.heap.size+2) 58 i1 (.agg #[.int .u8 0,.int .i64 0,.int .i64 0,.int .u8 0,.int .i64 0]) 5 40 Tryz.underlying38 hj hy0 hy1 hy2 rfl (by decide) (.slice av k kv) k _ rfl (hown.alloc _) ⟨W.heap.size,0,none⟩ 1 1 (cellsF ln k) rfl rfl ?p1 ?p2 ?p3 ?p4 ?p5 ?_))
  case p1=>exact World.news_of_block (cs:=(cellsF ln k).toArray) (t:=58) (fr:=(0,0)) (AQ _ _)
  case p2=>intro u hu;unfold cellsF at hu;simp only[AT,Av,Bu]at hu;rcases hu with rfl|rfl|rfl|rfl|rfl<;>rfl
  case p3=>unfold maxLen;omega
  case p4=>omega
  case p5=>simp;omega
  intro v2 W6 hown6 hgrow6 hat6;obtain⟨g2,cap2,rfl,hg2,hg2l⟩:=hown6.form (by omega);have hbW:=(A8.1 ho).1;have hob:=(hgrow6.block bo (by simp;omega) (λe=>by have:=(hown.lt _ e.symm).1;omega)).trans ((Below.heap_alloc _ _ _ hbW).trans ho);have f0:W6.frozen? ⟨bo,0,none⟩=false:=(by simp[World.frozen?,hob]);have f1:W6.cell? ⟨bo,0,none⟩=some (.slice av k kv):=(by simp[World.cell?,hob]);have hs6:=hgrow6.size;simp only[Am]at hs6 hat6;have hf6:Fr (λb=>b≠bo/\some b≠(Value.slice av k kv).ownBlock) W (W6.setCell ⟨bo,0,none⟩ (.slice (some ⟨g2,0,none⟩) (k+1) cap2)):=
   ⟨hgrow6.os,hgrow6.output,by rw[World.size_setCell];omega,λb hb hp=>(Below.heap_setCell _ _ _ _ hp.1).trans ((hgrow6.block b (by simp;omega) hp.2).trans (Below.heap_alloc _ _ _ hb))⟩
  have hlow:∀b,b<W.heap.size->b<bo->(W6.setCell ⟨bo,0,none⟩ (.slice (some ⟨g2,0,none⟩) (k+1) cap2)).heap[b]? =W.heap[b]? :=λb hb hbb=>hf6.keep b hb ⟨by omega,λe=>by have:=(hown.lt _ e.symm).1;omega⟩;have hPo:Po w v0 v1 v2 v3 ln bo (W0.heap.size+2) (2*m) (k+1) (some g2) (W6.setCell ⟨bo,0,none⟩ (.slice (some ⟨g2,0,none⟩) (k+1) cap2)):=(by refine⟨⟨_,C1 _ _ _ _ _ _ hob,rfl,?_⟩,by omega,⟨(hlow _ (by omega) (by omega)).trans h.box.a,(hlow _ (by omega) (by omega)).trans h.box.r,(hlow _ (by omega) (by omega)).trans h.box.e⟩,⟨hf6.os.trans h.bel.os,hf6.out.trans h.bel.out,Ao h.bel.size hf6.size,λb hb=>(hlow b (by omega) (by omega)).trans (h.bel.block b hb)⟩,h.lo,h.w2⟩;have e:(List.range (k+1)).flatMap (cellsF ln)=(List.range k).flatMap (cellsF ln)++cellsF ln k:=(by rw[Br,CL];simp);rw[e];exact Fo.own_keep (by rw[hs0];exact hown6) λb hb=>Below.heap_setCell _ _ _ _ (by have:=hown6.lt b hb;show b≠bo;omega));have hg':(some g2=(Value.slice av k kv).ownBlock)\/∃x,some g2=some x/\W.heap.size<=x/\x<(W6.setCell ⟨bo,0,none⟩ (.slice (some ⟨g2,0,none⟩) (k+1) cap2)).heap.size:=by
   rcases hat6 with e|e
   ·exact .inl e
   ·injection e with e;have e:g2=W.heap.size+1:=e;exact .inr ⟨g2,rfl,by omega,by rw[World.size_setCell];exact hg2l⟩
  clear hgrow6 hat6 hown6 hob hlow hown
  gi_wp2_with fail
  exact⟨_,hPo,hg',hf6⟩
 case done=>
  rintro D g W hD h hd;obtain⟨v,ho,hg,hown⟩:=h.ex;obtain⟨gg,cap2,rfl,hg2,hg2l⟩:=hown.form (by omega);have c0:W.cell? ⟨bo,0,none⟩=some (.slice (some ⟨gg,0,none⟩) (2*m) cap2):=(by simp[World.cell?,ho]);have hle:2*m<=cap2:=by
   rcases hown.2 with ⟨h1,_⟩|⟨g',cap',cur',h1,_,_,h3,_⟩
   ·cases h1
   ·injection h1 with _ _ h1;omega
  have e1:W.cell? ⟨w.heap.size+1,0,none⟩=some (.slice none 0 0):=(by simp[World.cell?,h.box.r]);have e2:W.cell? ⟨w.heap.size+1+1,0,none⟩=some (.int .i64 0):=(by simp[World.cell?,h.box.e]);have e3:W.frozen? ⟨w.heap.size+1,0,none⟩=false:=(by simp[World.frozen?,h.box.r]);have e4:W.frozen? ⟨w.heap.size+1+1,0,none⟩=false:=by simp[World.frozen?,h.box.e]
  gi_wp2
  refine⟨trivial,λh=>(by cases h),(callsIn_wide.2 (clip26 _ _ _ _ hle)).mono ?_⟩;rintro e W' ⟨rfl,rfl⟩
  gi_wp2
  obtain⟨W5,hW5⟩:∃W5,(W.setCell ⟨w.heap.size+1,0,none⟩ (.slice (some ⟨gg,0,none⟩) (2*m) (2*m))).setCell ⟨w.heap.size+1+1,0,none⟩ (.int .i64 0)=W5:=⟨_,rfl⟩;have q1:W5.heap[w.heap.size+1]? =some (.cells #[.slice (some ⟨gg,0,none⟩) (2*m) (2*m)] 38 (0,0)):=(by rw[<-hW5,Below.heap_setCell _ _ _ _ (show w.heap.size+1≠w.heap.size+1+1 by omega)];exact C1 _ _ _ _ _ _ h.box.r);have q2:W5.heap[w.heap.size+1+1]? =some (.cells #[.int .i64 0] 39 (0,0)):=(by rw[<-hW5];exact C1 _ _ _ _ _ _ ((Below.heap_setCell _ _ _ _ (show w.heap.size+1+1≠w.heap.size+1 by omega)).trans h.box.e));have q3:Fr (λb=>b≠w.heap.size+1/\b≠w.heap.size+1+1) W W5:=(by rw[<-hW5];exact(Fr.setCell _ _ _ (λh=>h.1 rfl)).trans (Fr.setCell _ _ _ (λh=>h.2 rfl)));have hD':=(A8.1 hd).1;have hd5:=(q3.keep D hD' (by omega)).trans hd;rw[hW5];clear hW5;refine⟨by simp,.inl ⟨_,_,rfl,run_takeDeferred hd5,?_⟩⟩;have q4:∀b,b≠D->(W5.putObj D (.deferred none)).heap[b]? =W5.heap[b]? :=λb hb=>CM hb;have r1:(W5.putObj D (.deferred none)).cell? ⟨w.heap.size+1,0,none⟩=some (.slice (some ⟨gg,0,none⟩) (2*m) (2*m)):=(by have:=(q4 (w.heap.size+1) (by omega)).trans q1;simp[World.cell?,this]);have r2:(W5.putObj D (.deferred none)).cell? ⟨w.heap.size+1+1,0,none⟩=some (.int .i64 0):=(by have:=(q4 (w.heap.size+1+1) (by omega)).trans q2;simp[World.cell?,this]);have q5:Fr (λb=>b≠w.heap.size+1/\b≠w.heap.size+1+1/\b≠D) W (W5.putObj D (.deferred none)):=(q3.imp λb _ h=>⟨h.1,h.2.1⟩).trans (Fr.putObj _ _ _ (λh=>h.2.2 rfl));have hgD:gg≠D:=λe=>by
   rcases hown.2 with ⟨h1,_⟩|⟨g',cap',cur',h1,_,h3,_⟩
   ·cases h1
   ·injection h1 with h1;injection h1 with h1;injection h1 with h1;rw[<-h1,e,hd]at h3;cases h3
  refine⟨_,results_cell2 rfl _ _ _ _ _ _ rfl rfl (load_38 r1) (load_39 r2),⟨gg,cap2,rfl,?_,?_⟩⟩
  ·exact own_mono (Fo.own_keep hown λb hb=>q5.keep b (hown.lt b hb).2 (by
    have h1:=hown.lt b hb;injection hb with hb;have hb:gg=b:=hb;omega)) (by omega)
  ·exact⟨q5.os.trans h.bel.os,q5.out.trans h.bel.out,Ao h.bel.size q5.size,λb hb=>(q5.keep b (by omega) (by omega)).trans (h.bel.block b hb)⟩
end Rf
end
section
open Go.RowKit Go.Maps
namespace Pt
open Cs Ft Ho
abbrev ci(x:Int):Cell:=.t (.int .i64 x)
def flat_ci:∀xs:List Int,((xs.flatMap (Ly.trees (.int .i64))).map Cell.t)=xs.map ci
 |[]=>rfl
 |x::xs=>by rw[Ac,AS,flat_ci xs];rfl
abbrev fH(n T:Nat)(fs ps:List Int):QA:=[⟨[.sl ⟨1,0,0⟩ n none,.sl ⟨2,0,0⟩ T (some T)],1,0⟩,⟨fs.map ci,1,0⟩,⟨ps.map ci,1,0⟩]
def h60(n T:Nat)(fs ps:List Int):SH.den (M60.f.H (0,n,0,T,T,fs,ps))=fH n T fs ps:=by show [_,(⟨((fs.flatMap (Ly.trees (.int .i64))).map Cell.t),1,0⟩:Go.Abs.Obj),(⟨((ps.flatMap (Ly.trees (.int .i64))).map Cell.t),1,0⟩:Go.Abs.Obj)]=_;rw[flat_ci,flat_ci];rfl
def loc_of{O:Map}{M:QA}{w:World}(h:HR O M w){id:Nat}{s:Jv}(hs:O id=some s){o:Go.Abs.Obj}(ho:M[id]? =some o)(hc:o.cs≠[]):
  o.es=s.es/\o.ep=s.ep/\∃l,s.loc=some l/\(∃cells elem,w.heap[l.blk]? =some (.cells cells elem (0,0))/\l.sh+l.tot<=cells.size)/\o.cs.length<=l.tot/\∀i (hi:i<o.cs.length),∃v,w.cell? ⟨l.blk,l.sh+i,none⟩=some v/\CR O w o.cs[i] v:=by
 obtain⟨o',h1,h2,h3,h4⟩:=h.obj id s hs;rw[ho]at h1;injection h1 with h1;subst h1;refine⟨h2,h3,?_⟩
 cases hl:s.loc with
 |none=>rw[hl]at h4;exact absurd h4 hc
 |some l=>rw[hl]at h4;exact⟨l,rfl,h4⟩
def ints_at{O:Map}{w:World}{b sh:Nat}{xs:List Int}{cells:Array Value}{el:TypeId}(hb:w.heap[b]? =some (.cells cells el (0,0)))
  (h:∀i (hi:i<(xs.map ci).length),∃v,w.cell? ⟨b,sh+i,none⟩=some v/\CR O w (xs.map ci)[i] v):∃cp ep,w.heap[b]? =some (.cells cp ep (0,0))/\∀i (hi:i<xs.length),cp[sh+i]? =some (.int .i64 xs[i]):=by
 refine⟨cells,el,hb,λi hi=> ?_⟩;obtain⟨v,h1,h2⟩:=h i (by simpa using hi);rw[AP]at h2;have h2:TR O.un w (.int .i64 xs[i]) v:=h2;cases h2;simpa [World.cell?,hb] using h1
def blk_lt{w:World}{b:Nat}{o:Go.Obj}(h:w.heap[b]? =some o):b<w.heap.size:=(A8.1 h).1
def call60{N:List (Int×List Int×Int×Int)}{A:List (List UInt8)}{C:List Int}{n T:Nat}{fs ps:List Int}(hm:M60.m ⟨N,A,[],C⟩=some (0,n,0,T,T,fs,ps))(hf:fs.length=n)(hp:ps.length=T)(hn:0<n)(hT:0<T){w:World}{v:Value}(hg:XZ Qd w)
  (ha:KX Qd w ((M60.g.A ⟨N,A,[],C⟩).map SV.den) #[v]):Calls prog 60 #[v] w (IsFor fs ps w):=by
 have hk:=M60.known.ok ⟨N,A,[],C⟩ (0,n,0,T,T,fs,ps) hm;refine callsIn_wide.1 (Bt (hk.2 Qd w #[v] hg (noMap_HR w) ha) λe w' ⟨v',S',I',cv,he,⟨h1,h2⟩,h3,h4,h5⟩=> ?_);rw[h60]at h2;subst h1;subst h2;obtain⟨a,rfl,s0,q1,_,q3⟩:=h3;obtain⟨e0,e1,l0,r0,⟨cells0,el0,r1,r2⟩,r3,r4⟩:=loc_of h4 q1 (o:=⟨[.sl ⟨1,0,0⟩ n none,.sl ⟨2,0,0⟩ T (some T)],1,0⟩) rfl (by simp);obtain⟨l,q4,q5⟩:=q3 e1;rw[r0]at q4;injection q4 with q4;subst q4;injection q5 with q5;subst q5;obtain⟨u0,t0,a0,c0,rfl,_,s1,k1,_,k3⟩:=r4 0 (by show 0<2;omega);obtain⟨u1,t1,a1,c1,rfl,_,s2,m1,_,m3⟩:=r4 1 (by show 1<2;omega);have hfn:(fs.map ci)≠[]:=by intro e;have:=congrArg List.length e;rw[AE,CZ]at this;omega
 have hpn:(ps.map ci)≠[]:=by intro e;have:=congrArg List.length e;rw[AE,CZ]at this;omega
 obtain⟨f0,f1,lf,rf,⟨cf,ef,b0,b1⟩,b2,b3⟩:=loc_of h4 k1 (o:=⟨fs.map ci,1,0⟩) rfl hfn;obtain⟨g0,g1,lp,rp,⟨cp,ep,d0,d1⟩,d2,d3⟩:=loc_of h4 m1 (o:=⟨ps.map ci,1,0⟩) rfl hpn;obtain⟨_,_,k4⟩:=k3 f1;obtain⟨_,_,m4⟩:=m3 g1;rw[rf]at k4;rw[rp]at m4;obtain⟨rfl,_⟩:=k4;obtain⟨rfl,_⟩:=m4;have new:∀{id:Nat} {s:Jv} {l:Go.Abs.Loc},I' id=some s->s.loc=some l->w.heap.size<=l.blk:=λh1 h2=>by
  rcases h5.new _ _ _ h1 h2 with h|⟨id,s',l',h,_⟩
  ·exact h
  ·cases h
 refine⟨⟨⟨l0.blk,l0.sh,lf.blk,lf.sh,c0,lp.blk,lp.sh,c1⟩,by rw[he];rfl,⟨?_,?_,ints_at d0 d3,ints_at b0 b3,λe=> ?_,λe=> ?_⟩,⟨new q1 r0,new k1 rf,new m1 rp⟩,⟨blk_lt r1,blk_lt b0,blk_lt d0⟩,⟨h5.os,h5.out,h5.size,λb hb=>h5.frame b hb (Jx b)⟩⟩⟩
 ·rw[hf];exact t0
 ·rw[hp];exact t1
 ·have:=h4.inj 0 2 s0 s2 l0 lp q1 m1 r0 rp e;cases this
 ·have:=h4.inj 1 2 s1 s2 lf lp k1 m1 rf rp e;cases this
def up(ps:List Int):Nat->Nat->Nat
 |0,i=>i
 |k+1,i=>up ps k (Co.pa ps i)
def up_fix{ps:List Int}{i:Nat}(h:Co.pa ps i=i):∀k,up ps k i=i
 |0=>rfl
 |k+1=>by show up ps k (Co.pa ps i)=i;rw[h];exact up_fix h k
def up_comm(ps:List Int):∀k i,up ps (k+1) i=Co.pa ps (up ps k i)
 |0,_=>rfl
 |k+1,i=>by show up ps (k+1) (Co.pa ps i)=Co.pa ps (up ps k (Co.pa ps i));exact up_comm ps k _
section
variable {X:Type}{ρ:Nat->X}{n B:Nat}{h:Nat->Nat}{ps:List Int}
def up_lt(U:Co.UF ρ n h B ps):∀(k:Nat) {i:Nat},i<n->up ps k i<n
 |0,_,hi=>hi
 |k+1,_,hi=>up_lt U k (U.lt hi)
def up_root(U:Co.UF ρ n h B ps):∀(k:Nat) {i:Nat},i<n->Co.pa ps (up ps k i)=up ps k i\/h i+k<=h (up ps k i)
 |0,_,_=>.inr (A5 _)
 |k+1,i,hi=>by
  by_cases e:Co.pa ps i=i
  ·left;rw[up_fix e,e]
  ·show Co.pa ps (up ps k (Co.pa ps i))=up ps k (Co.pa ps i)\/_<=h (up ps k (Co.pa ps i));rcases up_root U k (U.lt hi) with h1|h1
   ·exact .inl h1
   ·right;have:=U.up i hi e;omega
def up_eq(U:Co.UF ρ n h B ps):∀(k:Nat) {i:Nat},i<n->ρ i=ρ (up ps k i)
 |0,_,_=>rfl
 |k+1,i,hi=>(U.eq i hi).trans (up_eq U k (U.lt hi))
def up_top(U:Co.UF ρ n h B ps){i:Nat}(hi:i<n):Co.pa ps (up ps (B+1) i)=up ps (B+1) i:=by
 rcases up_root U (B+1) hi with h1|h1
 ·exact h1
 ·have:=U.top _ (up_lt U (B+1) hi);omega
def rt_of(U:Co.UF ρ n h B ps):Rt (up ps (B+1)) n h B ps:=
 ⟨⟨U.len,U.rng,U.up,U.top,λi hi=>by rw[<-up_top U hi,<-up_comm];rfl⟩,λi _ e=>up_fix e _⟩
end
end Pt
end
section
open Go.RowKit
namespace Tx
def flat_at{α β:Type}(f:α->List β)(k:Nat)(hk:∀x,(f x).length=k):∀(xs:List α) (i j:Nat) (hi:i<xs.length),j<k->(xs.flatMap f)[i*k+j]? =(f xs[i])[j]?
 |x::xs,0,j,_,hj=>by rw[Ac,BP,AF,AL (by rw[hk];exact hj)];rfl
 |x::xs,i+1,j,hi,hj=>by have ih:=flat_at f k hk xs i j (by simpa using hi) hj;rw[Ac,AU (by rw[hk,BF];omega),hk];rw[show(i+1)*k+j - k=i*k+j by rw[BF];omega];exact ih
def flat_len{α β:Type}(f:α->List β)(k:Nat)(hk:∀x,(f x).length=k):∀xs:List α,(xs.flatMap f).length=xs.length*k
 |[]=>by simp
 |x::xs=>by rw[Ac,AG,hk,flat_len f k hk xs,As,BF];omega
def imm_inv{U:Nat->Prop}{w:World}{cs:List T}{len:Nat}{cap:Option Nat}{v:Value}(h:TR U w (.imm cs len cap) v):(cs=[]/\len=0/\∃a c,v=.slice a 0 c/\Zu cap c)\/
  ∃(b off c:Nat) (f:Nat->Value),v=.slice (some ⟨b,off,none⟩) len c/\U b/\isRow w b/\Zu cap c/\len<=c/\(∀i (_:i<cs.length),w.cell? ⟨b,off+i,none⟩=some (f i))/\∀i (h:i<cs.length),TR U w cs[i] (f i):=by
 cases h with
 |imm0 cap a c hc=>exact .inl ⟨rfl,rfl,a,c,rfl,hc⟩
 |imm cs len cap b off c g hU hrow hcap hle hcells hT=>exact .inr ⟨b,off,c,g,rfl,hU,hrow,hcap,hle,hcells,hT⟩
def rows_at{U:Nat->Prop}{w:World}{α:Type}{f:α->List T}{k:Nat}(hk:∀x,(f x).length=k)(h0:0<k){xs:List α}{cap:Option Nat}{v:Value}(h:TR U w (.imm (xs.flatMap f) xs.length cap) v):
  ∃a c,v=.slice a xs.length c/\xs.length<=c/\Zu cap c/\∀i (hi:i<xs.length),∃b off,a=some ⟨b,off,none⟩/\U b/\b<w.heap.size/\∀j t,(f xs[i])[j]? =some t->∃u,w.cell? ⟨b,off+(i*k+j),none⟩=some u/\TR U w t u:=by
 rcases imm_inv h with ⟨_,hl,a,c,rfl,hc⟩|⟨b,off,c,g,rfl,hU,hrow,hcap,hle,hcells,hT⟩
 ·exact⟨a,c,by rw[hl],by omega,hc,λi hi=>by omega⟩
 ·refine⟨_,c,rfl,hle,hcap,λi hi=>⟨b,off,rfl,hU,hrow.lt,λj t ht=> ?_⟩⟩;have hj:j<k:=(by rw[<-hk xs[i]];exact(AD.1 ht).1);have e:=flat_at f k hk xs i j hi hj;rw[ht]at e;obtain⟨h1,h2⟩:=AD.1 e;have:=hT _ h1;rw[h2]at this;exact⟨_,hcells _ h1,this⟩
def int_of{U:Nat->Prop}{w:World}{k:IntKind}{n:Int}{u:Value}(h:TR U w (.int k n) u):u=.int k n:=by cases h;rfl
def bool_of{U:Nat->Prop}{w:World}{b:Bool}{u:Value}(h:TR U w (.bool b) u):u=.bool b:=by cases h;rfl
abbrev lyF:Ly:=.pair (.int .i64) (.pair .bool (.int .i64))
def fails_at{U:Nat->Prop}{w:World}{lg:List FailT}{cap:Option Nat}{v:Value}(h:TR U w (.imm (lg.flatMap (Ly.trees lyF)) lg.length cap) v):Ho.FailsAt w w.heap.size v lg:=by obtain⟨a,c,rfl,_,_,hx⟩:=rows_at (k:=3) (λ_=>rfl) (by decide) h;refine⟨a,c,rfl,λi hi=> ?_⟩;obtain⟨b,off,h1,_,h2,h3⟩:=hx i hi;obtain⟨u0,e0,t0⟩:=h3 0 _ rfl;obtain⟨u1,e1,t1⟩:=h3 1 _ rfl;obtain⟨u2,e2,t2⟩:=h3 2 _ rfl;have t0:=int_of t0;have t1:=bool_of t1;have t2:=int_of t2;subst t0;subst t1;subst t2;exact⟨b,off,h1,h2,e0,e1,e2⟩
def dict_at{U:Nat->Prop}{w:World}{d:List (List FailT)}{cap:Option Nat}{v:Value}(h:TR U w (.imm (d.flatMap (Ly.trees (.sl lyF))) d.length cap) v):Ho.DictAt w w.heap.size v d:=by obtain⟨a,c,rfl,_,_,hx⟩:=rows_at (k:=1) (λ_=>rfl) (by decide) h;refine⟨a,c,rfl,λi hi=> ?_⟩;obtain⟨b,off,h1,_,h2,h3⟩:=hx i hi;obtain⟨u0,e0,t0⟩:=h3 0 _ rfl;exact⟨b,off,u0,h1,h2,by rw[Nat.mul_one]at e0;exact e0,fails_at t0⟩
abbrev lyN:Ly:=.pair (.int .u8) (.pair (.sl (.int .i64)) (.pair (.int .i64) (.int .i64)))
abbrev lyT:Ly:=.pair (.int .u8) (.pair (.int .i64) (.pair (.int .i64) (.pair (.int .u8) (.int .i64))))
abbrev lyP:Ly:=.pair (.sl (.int .u8)) (.sl (.int .u8))
abbrev NodeL:=List (Int×List Int×Int×Int)
def cC(N:NodeL)(A:List (List UInt8))(C:List Int):List Cell:=[.t (.imm (N.flatMap (Ly.trees lyN)) N.length none),.t (.imm (A.flatMap (Ly.trees .str)) A.length none),.t (.imm [] 0 none),.t (.imm (C.flatMap (Ly.trees (.int .i64))) C.length none)]
structure Cir(N:NodeL)(A:List (List UInt8))(C:List Int)(w:World)(v:Value):Prop where
 h:VR Qd w (.agg (cC N A C)) v
def bel_TR{w w':World}(hb:Aw.Bel w.heap.size w w'){t:T}{v:Value}(h:TR Qd.un w t v):TR Qd.un w' t v:=h.mono λb _ hlt=>⟨Jx b,hb.block b hlt.lt⟩
def noTR{U:Nat->Prop}{w:World}{t:T}{v:Value}(h:TR U w t v):TR Qd.un w t v:=h.mono λb _ _=>⟨Jx b,rfl⟩
section
variable {N:NodeL}{A:List (List UInt8)}{C:List Int}{w w':World}{v vl vt:Value}
def Cir.bel(h:Cir N A C w v)(hb:Aw.Bel w.heap.size w w'):Cir N A C w' v:=by
 obtain⟨arr,rfl,h1,h2⟩:=h.h;refine⟨arr,rfl,h1,λi hi=> ?_⟩;obtain⟨u,e,h3⟩:=h2 i hi;refine⟨u,e,?_⟩;have ht:∀c∈cC N A C,∀u,CR Qd w c u->CR Qd w' c u:=by intro c hc u hu;simp only[cC,AT,Av,Bu]at hc;rcases hc with rfl|rfl|rfl|rfl<;>exact bel_TR hb hu
 exact ht _ (A9 hi) u h3
def Cir.ex(h:Cir N A C w v):∃v0 v1 v2 v3,v=.agg #[v0,v1,v2,v3]:=by
 obtain⟨arr,rfl,h1,_⟩:=h.h;have h1:arr.size=4:=h1;refine⟨arr[0],arr[1],arr[2],arr[3],?_⟩;congr 1;refine Cc (by simp[h1]) λj hj hj'=> ?_;have:j<4:=by omega
 rcases (show j=0\/j=1\/j=2\/j=3 by omega) with rfl|rfl|rfl|rfl<;>rfl
def args1{a:AV}(h:VR Qd w a v):KX Qd w [a] #[v]:=⟨rfl,λi hi=>by
 obtain rfl:i=0:=by simpa using hi
 exact⟨v,rfl,h⟩⟩
def args2{a b:AV}(h:VR Qd w a v)(h':VR Qd w b vl):KX Qd w [a,b] #[v,vl]:=⟨rfl,λi hi=>by
 have:i<2:=hi;rcases (show i=0\/i=1 by omega) with rfl|rfl
 ·exact⟨v,rfl,h⟩
 ·exact⟨vl,rfl,h'⟩⟩
def args3{a b c:AV}(h:VR Qd w a v)(h':VR Qd w b vl)(h'':VR Qd w c vt):KX Qd w [a,b,c] #[v,vl,vt]:=⟨rfl,λi hi=>by
 have:i<3:=hi;rcases (show i=0\/i=1\/i=2 by omega) with rfl|rfl|rfl
 ·exact⟨v,rfl,h⟩
 ·exact⟨vl,rfl,h'⟩
 ·exact⟨vt,rfl,h''⟩⟩
def tup2{O:Map}{t:T}{k:IntKind}{n:Int}{cv:Value}(h:VR O w (.tup [.inl (.t t),.inl (.t (.int k n))]) cv):∃u,cv=.tuple #[u,.int k n]/\TR Qd.un w t u:=by
 obtain⟨arr,rfl,hs,hq⟩:=h;have hs:arr.size=2:=hs;obtain⟨u0,e0,t0⟩:=hq 0 (show 0<2 by omega);obtain⟨u1,e1,t1⟩:=hq 1 (show 1<2 by omega);have t1:TR O.un w (.int k n) u1:=t1;have t1:=int_of t1;subst t1;refine⟨u0,?_,noTR t0⟩;congr 1;refine Cc (by simp[hs]) λj hj hj'=> ?_;rcases (show j=0\/j=1 by omega) with rfl|rfl
 ·exact(A8.1 e0).2
 ·exact(A8.1 e1).2
structure IsT(t:T)(w:World)(e:Ending)(w':World):Prop where
 ex:∃u,e=.returned (.tuple #[u,.int .i64 0])/\TR Qd.un w' t u/\Aw.Bel w.heap.size w w'
def call24{xs:List (Int×Int)}(hm:M24.m ⟨N,A,[],C⟩=some (xs,0))(hg:XZ Qd w)(hc:Cir N A C w v):Calls prog 24 #[v] w (IsT (.imm (xs.flatMap (Ly.trees (.pair (.int .i64) (.int .i64)))) xs.length none) w):=by refine(Aw.calls_tree (M24.known.ok ⟨N,A,[],C⟩ (xs,0) hm) hg (args1 hc.h)).mono λe w' ⟨⟨I',cv,he,hv⟩,hb⟩=> ?_;obtain⟨u,rfl,hu⟩:=tup2 hv;exact⟨u,he,hu,hb⟩
def call27{l:List Pt.FltT}(hm:M27.m ⟨N,A,[],C,l⟩=some 0)(hg:XZ Qd w)(hc:Cir N A C w v)(hl:TR Qd.un w (.imm (l.flatMap (Ly.trees lyT)) l.length none) vl):Calls prog 27 #[v,vl] w λe w'=>e=.returned (.int .i64 0)/\Aw.Bel w.heap.size w w':=by refine(Aw.calls_tree (M27.known.ok ⟨N,A,[],C,l⟩ 0 hm) hg (args2 hc.h hl)).mono λe w' ⟨⟨I',cv,he,hv⟩,hb⟩=> ?_;have hv:TR I'.un w' (.int .i64 0) cv:=hv;have:=int_of hv;subst this;exact⟨he,hb⟩
def call9{l:List Pt.FltT}{Q7:List (List Int×List Int)}{d:List (List FailT)}(hm:M9.m ⟨N,A,[],C,l,Q7⟩=some (d,0))(hg:XZ Qd w)(hc:Cir N A C w v)(hl:TR Qd.un w (.imm (l.flatMap (Ly.trees lyT)) l.length none) vl)(ht:TR Qd.un w (.imm (Q7.flatMap (Ly.trees lyP)) Q7.length none) vt):
  Calls prog 9 #[v,vl,vt] w (IsT (.imm (d.flatMap (Ly.trees (.sl lyF))) d.length none) w):=by
 refine(Aw.calls_tree (M9.known.ok ⟨N,A,[],C,l,Q7⟩ (d,0) hm) hg (args3 hc.h hl ht)).mono λe w' ⟨⟨I',cv,he,hv⟩,hb⟩=> ?_;obtain⟨u,rfl,hu⟩:=tup2 hv;exact⟨u,he,hu,hb⟩
def call11{lg:List FailT}{bk:List Int}(hm:M11.m ⟨N,A,[],C,lg⟩=some (bk,0))(hg:XZ Qd w)(hc:Cir N A C w v)(hl:TR Qd.un w (.imm (lg.flatMap (Ly.trees lyF)) lg.length none) vl):
  Calls prog 11 #[v,vl] w (IsT (.imm (bk.flatMap (Ly.trees (.int .i64))) bk.length none) w):=by
 refine(Aw.calls_tree (M11.known.ok ⟨N,A,[],C,lg⟩ (bk,0) hm) hg (args2 hc.h hl)).mono λe w' ⟨⟨I',cv,he,hv⟩,hb⟩=> ?_;obtain⟨u,rfl,hu⟩:=tup2 hv;exact⟨u,he,hu,hb⟩
def call6{z Q7:List (List Int×List Int)}(hm:M6.m ⟨N,A,[],C,z⟩=some Q7)(hg:XZ Qd w)(hc:Cir N A C w v)(hz:TR Qd.un w (.imm (z.flatMap (Ly.trees lyP)) z.length none) vl):
  Calls prog 6 #[v,vl] w λe w'=>∃u,e=.returned u/\TR Qd.un w' (.imm (Q7.flatMap (Ly.trees lyP)) Q7.length none) u/\Aw.Bel w.heap.size w w':=
 (Aw.calls_tree (M6.known.ok ⟨N,A,[],C,z⟩ Q7 hm) hg (args2 hc.h hz)).mono λe w' ⟨⟨I',cv,he,hv⟩,hb⟩=>⟨cv,he,noTR hv,hb⟩
def call5{x:M5.gX}(hm:M5.m x=some (N,A,[],C))(hg:XZ Qd w)(ha:VR Qd w ((M5.g.A x).map SV.den)[0]! v):Calls prog 5 #[v] w λe w'=>∃u,e=.returned u/\Cir N A C w' u/\Aw.Bel w.heap.size w w':=by
 refine(Aw.calls_tree (M5.known.ok x (N,A,[],C) hm) hg (args1 ha)).mono λe w' ⟨⟨I',cv,he,hv⟩,hb⟩=> ?_;refine⟨cv,he,⟨?_⟩,hb⟩;obtain⟨arr,rfl,h1,h2⟩:=hv;refine⟨arr,rfl,h1,λi hi=> ?_⟩;obtain⟨u,e,h3⟩:=h2 i hi;refine⟨u,e,?_⟩;have ht:∀c∈cC N A C,∀u,CR I' w' c u->CR Qd w' c u:=by intro c hc u hu;simp only[cC,AT,Av,Bu]at hc;rcases hc with rfl|rfl|rfl|rfl<;>exact noTR hu
 exact ht _ (A9 hi) u h3
end
end Tx
end
section
open Go.RowKit
namespace Tx
open Co
def lines_of{xs:List (Int×Int)}(h0:0<xs.length){w:World}{e:Ending}{w':World}(h:IsT (.imm (xs.flatMap (Ly.trees (.pair (.int .i64) (.int .i64)))) xs.length none) w e w'):Rf.IsLn (λi=>xs[i]?.getD (0,0)) xs.length w e w':=by obtain⟨u,rfl,hu,hb⟩:=h.ex;obtain⟨a,c,rfl,_,_,hx⟩:=rows_at (k:=2) (λ_=>rfl) (by decide) hu;obtain⟨b,off,rfl,_,hbl,_⟩:=hx 0 h0;refine⟨b,off,c,rfl,hbl,λi hi=> ?_,hb⟩;obtain⟨b',off',e1,_,_,h3⟩:=hx i hi;cases e1;obtain⟨u0,e0,t0⟩:=h3 0 _ rfl;obtain⟨u1,e1,t1⟩:=h3 1 _ rfl;have t0:=int_of t0;have t1:=int_of t1;subst t0;subst t1;rw[A4 hi];exact⟨e0,e1⟩
def tv:T->Value
 |.int k n=>.int k n
 |_=>undef
def pairs_map{β:Type}(f:Nat->List β):∀m,(List.range (2*m)).flatMap f=(List.range m).flatMap λi=>f (2*i)++f (2*i+1)
 |0=>rfl
 |m+1=>by rw[show 2*(m+1)=2*m+1+1 by omega,Br,Br,Br];simp only[CL,Ac,List.flatMap_nil,Bn,pairs_map f m,Ad]
def range_get{α β:Type}(d:α)(G:α->List β)(xs:List α):(List.range xs.length).flatMap (λi=>G (xs[i]?.getD d))=xs.flatMap G:=by
 have:(List.range xs.length).map (λi=>xs[i]?.getD d)=xs:=by refine BW (by simp) λi h1 h2=> ?_;simp[h2]
 conv=>rhs;rw[<-this,List.flatMap_map]
def cells_eq(xs:List (Int×Int)):(List.range (2*xs.length)).flatMap (Rf.cellsF λi=>xs[i]?.getD (0,0))=(((xs.flatMap fl2).flatMap (Ly.trees lyT)).map tv):=by
 rw[pairs_map];have e:(λi=>Rf.cellsF (λi=>xs[i]?.getD (0,0)) (2*i)++Rf.cellsF (λi=>xs[i]?.getD (0,0)) (2*i+1))=λi=>(λx:Int×Int=>((fl2 x).flatMap (Ly.trees lyT)).map tv) (xs[i]?.getD (0,0)):=by funext i;unfold Rf.cellsF;rw[show 2*i / 2=i by omega,show 2*i%2=0 by omega,show(2*i+1) / 2=i by omega,show(2*i+1)%2=1 by omega];rfl
 rw[e];refine(range_get (0,0) (λx:Int×Int=>((fl2 x).flatMap (Ly.trees lyT)).map tv) xs).trans ?_;rw[List.flatMap_assoc,List.map_flatMap]
structure Fls(l:List Pt.FltT)(w:World)(vl:Value):Prop where
 t:TR Qd.un w (.imm (l.flatMap (Ly.trees lyT)) l.length none) vl
 at':Pt.FltsAt w w.heap.size vl l
def fls_of{l:List Pt.FltT}{w:World}{vl:Value}(t:TR Qd.un w (.imm (l.flatMap (Ly.trees lyT)) l.length none) vl):Fls l w vl:=by refine⟨t,?_⟩;obtain⟨a,c,rfl,_,_,hx⟩:=rows_at (k:=5) (λ_=>rfl) (by decide) t;refine⟨a,c,rfl,λi hi=> ?_⟩;obtain⟨b,off,h1,_,h2,h3⟩:=hx i hi;obtain⟨u0,e0,t0⟩:=h3 0 _ rfl;obtain⟨u1,e1,t1⟩:=h3 1 _ rfl;obtain⟨u2,e2,t2⟩:=h3 2 _ rfl;obtain⟨u3,e3,t3⟩:=h3 3 _ rfl;obtain⟨u4,e4,t4⟩:=h3 4 _ rfl;have t0:=int_of t0;have t1:=int_of t1;have t2:=int_of t2;have t3:=int_of t3;have t4:=int_of t4;subst t0;subst t1;subst t2;subst t3;subst t4;exact⟨b,off,h1,h2,e0,e1,e2,e3,e4⟩
def Fls.bel{l:List Pt.FltT}{w w':World}{vl:Value}(h:Fls l w vl)(hb:Aw.Bel w.heap.size w w'):Fls l w' vl:=fls_of (bel_TR hb h.t)
def all_tree{xs:List (Int×Int)}{w:World}{g cap:Nat}{lo:Nat}(h0:0<xs.length)(h:w.ownsRow lo 58 5 (.slice (some ⟨g,0,none⟩) (2*xs.length) cap) (2*xs.length) ((List.range (2*xs.length)).flatMap (Rf.cellsF λi=>xs[i]?.getD (0,0)))):
  Fls (xs.flatMap fl2) w (.slice (some ⟨g,0,none⟩) (2*xs.length) (2*xs.length)):=by
 have hl:(xs.flatMap fl2).length=2*xs.length:=by rw[flat_len fl2 2 (λ_=>rfl)];omega
 refine fls_of ?_;rw[cells_eq]at h;rw[hl];have hrow:isRow w g:=by
  rcases h.2 with ⟨h1,_⟩|⟨g',cap',cur',h1,_,h3,_⟩
  ·cases h1
  ·injection h1 with h1;injection h1 with h1;injection h1 with h1;exact⟨cur',58,(0,0),h1▸h3⟩
 have h5:=h.1;have hint:∀t∈(xs.flatMap fl2).flatMap (Ly.trees lyT),∃k n,t=.int k n:=by intro t ht;obtain⟨f,_,hf⟩:=List.mem_flatMap.1 ht;have hf:t∈[T.int .u8 f.1,.int .i64 f.2.1,.int .i64 f.2.2.1,.int .u8 f.2.2.2.1,.int .i64 f.2.2.2.2]:=hf;simp only[AT,Av,Bu]at hf;rcases hf with rfl|rfl|rfl|rfl|rfl<;>exact⟨_,_,rfl⟩
 refine .imm _ _ none g 0 (2*xs.length) (λi=>tv (((xs.flatMap fl2).flatMap (Ly.trees lyT))[i]?.getD .junk)) (Jx g) hrow trivial (A5 _) (λi hi=> ?_) (λi hi=> ?_)
 ·rw[AF,h.cellAt i (by rw[<-h5];simpa using hi),BY,A4 hi];rfl
 ·rw[A4 hi,Aj];obtain⟨k,n,e⟩:=hint _ (A9 hi);rw[e];exact .int _ _
end Tx
end
section
open Go.RowKit
namespace Tx
open Co
section
variable {N:Tx.NodeL}{A:List (List UInt8)}{C o:List Int}{w:World}{v vl:Value}
def fst_pos(h:1<=N.length):0<fst N N.length:=by obtain⟨n,hn⟩:∃n,N.length=n+1:=⟨N.length - 1,by omega⟩;rw[hn];show 0<fst N n+2*((pn N n).length+1);omega
structure IsFl(N:Tx.NodeL)(w:World)(e:Ending)(w':World):Prop where
 ex:∃vl,e=.returned (.tuple #[vl,.int .i64 0])/\Fls (flN N) w' vl/\Aw.Bel w.heap.size w w'
def all_call(hk:Ck N A C)(ht:Topo N)(hg:XZ Qd w)(hc:Cir N A C w v):Calls prog 7 #[v,.int .u8 0] w (IsFl N w):=by
 obtain⟨v0,v1,v2,v3,rfl⟩:=hc.ex;have h1:=fst_646 hk (A5 _);have h2:=lnN_len (N:=N) N.length;have h3:=fst_pos hk.some';have h4:0<(lnN N N.length).length:=by omega
 refine(callsIn_wide.1 (Rf.all_walk 0 w v0 v1 v2 v3 (λi=>(lnN N N.length)[i]?.getD (0,0)) (lnN N N.length).length (by omega) h4 λw1 hb=>(call24 (m24 hk ht) (Aw.gl_bel hg hb) (hc.bel hb)).mono λe w' h=>lines_of h4 h)).mono ?_;rintro e w' ⟨g,cap,rfl,hown,hb⟩;exact⟨_,rfl,all_tree h4 hown,hb⟩
structure IsCs(N:Tx.NodeL)(C o:List Int)(w:World)(e:Ending)(w':World):Prop where
 ex:∃Rr:Nat->Nat,(∀i,i<fst N N.length->rho N C o i=rho N C o (Rr i))/\(∀i,i<fst N N.length->Rr i<fst N N.length)/\Pt.IsCl Rr (fst N N.length) w e w'
def nums_ok:Pt.Nums (fsL N N.length) (flN N):=λj hj=>by obtain⟨i,p,v,h1,h2,h3,h4⟩:=num_all N.length j (by rw[<-flN_len];exact hj);have h5:=flN_at h1 h2 h3;rw[<-h4,A4 hj]at h5;injection h5 with h5;refine⟨i,p,v,fst N i,h5,⟨by rw[fsL_len];exact h1,?_⟩,h4.symm,h3⟩;simp[fsL]
def classes_call(R:Runs N A C o)(hg:XZ Qd w)(hc:Cir N A C w v)(hl:Fls (flN N) w vl):Calls prog 8 #[v,vl] w (IsCs N C o w):=by
 obtain⟨v0,v1,v2,v3,rfl⟩:=hc.ex;have hk:=R.ck;have h1:=fst_646 hk (A5 _);have h3:=fst_pos hk.some';obtain⟨ps,hm,hU,B,U⟩:=m60 hk (eqs R);have hR:=Pt.rt_of U;refine(Pt.classes_walk w v0 v1 v2 v3 vl (flN N) hl.at' flN_len (by rw[flN_len];omega) hR nums_ok (λi hi=>Pt.up_lt U _ hi) h3 (λw1 hb=>call27 (m27 hk R.tp (by rw[flN_len];omega) flN_fa) (Aw.gl_bel hg hb) (hc.bel hb) (hl.bel hb).t)
  (λw1 hb=>Pt.call60 hm fsL_len U.len (by have:=hk.some';omega) h3 (Aw.gl_bel hg hb) (args1 (hc.bel hb).h))).mono ?_
 exact λe w' h=>⟨_,λi hi=>Pt.up_eq U _ hi,λi hi=>Pt.up_lt U _ hi,h⟩
end
end Tx
end
section
open Go.RowKit Go.Maps
namespace Tx
open Co Ho
structure IntsAt(w:World)(B:Nat)(v:Value)(xs:List Int):Prop where
 ex:∃a k,v=.slice a xs.length k/\∀i (hi:i<xs.length),∃b off,a=some ⟨b,off,none⟩/\b<B/\w.cell? ⟨b,off+i,none⟩=some (.int .i64 xs[i])
def IntsAt.keep{w w':World}{B:Nat}{v:Value}{xs:List Int}(h:IntsAt w B v xs)(hk:∀b,b<B->w'.heap[b]? =w.heap[b]?):IntsAt w' B v xs:=by obtain⟨a,k,rfl,hx⟩:=h.ex;refine⟨a,k,rfl,λi hi=> ?_⟩;obtain⟨b,off,h1,h2,h3⟩:=hx i hi;exact⟨b,off,h1,h2,(An (hk b h2)).trans h3⟩
def ints_tree{U:Nat->Prop}{w:World}{xs:List Int}{cap:Option Nat}{v:Value}(h:TR U w (.imm (xs.flatMap (Ly.trees (.int .i64))) xs.length cap) v):IntsAt w w.heap.size v xs:=by obtain⟨a,c,rfl,_,_,hx⟩:=rows_at (k:=1) (λ_=>rfl) (by decide) h;refine⟨a,c,rfl,λi hi=> ?_⟩;obtain⟨b,off,h1,_,h2,h3⟩:=hx i hi;obtain⟨u0,e0,t0⟩:=h3 0 _ rfl;have t0:=int_of t0;subst t0;exact⟨b,off,h1,h2,by rw[Nat.mul_one]at e0;exact e0⟩
def ints_own{w:World}{lo n k c:Nat}{a:Option Addr}{xs:List Int}(hn:n=xs.length)(h:w.ownsRow lo 3 1 (.slice a n k) n (intv xs)):IntsAt w w.heap.size (.slice a n c) xs:=by
 subst hn;refine⟨a,c,rfl,λi hi=> ?_⟩;rcases h.2 with ⟨_,h0⟩|⟨g,cap,cur,h1,_,h3,_⟩
 ·omega
 ·injection h1 with h1;subst h1;refine⟨g,0,rfl,Pt.blk_lt h3,?_⟩;have:=h.cellAt (cap:=k) i (by omega);rw[AF,this];simp[intv,hi]
def IntsAt.up{w:World}{B B':Nat}{v:Value}{xs:List Int}(h:IntsAt w B v xs)(hB:B<=B'):IntsAt w B' v xs:=by obtain⟨a,k,rfl,hx⟩:=h.ex;refine⟨a,k,rfl,λi hi=> ?_⟩;obtain⟨b,off,h1,h2,h3⟩:=hx i hi;exact⟨b,off,h1,by omega,h3⟩
def dict_up{w:World}{B B':Nat}{v:Value}{d:List (List FailT)}(h:DictAt w B v d)(hB:B<=B'):DictAt w B' v d:=by obtain⟨a,k,rfl,hx⟩:=h.ex;refine⟨a,k,rfl,λi hi=> ?_⟩;obtain⟨b,off,u,h1,h2,h3,h4⟩:=hx i hi;exact⟨b,off,u,h1,by omega,h3,h4.up hB⟩
def dict_tr{U:Nat->Prop}{w:World}{d:List (List FailT)}{cap:Option Nat}{v:Value}(h:TR U w (.imm (d.flatMap (Ly.trees (.sl lyF))) d.length cap) v):
  ∃a k,v=.slice a d.length k/\∀i (hi:i<d.length),∃b off u,a=some ⟨b,off,none⟩/\b<w.heap.size/\w.cell? ⟨b,off+i,none⟩=some u/\TR U w (.imm (d[i].flatMap (Ly.trees lyF)) d[i].length none) u:=by
 obtain⟨a,c,rfl,_,_,hx⟩:=rows_at (k:=1) (λ_=>rfl) (by decide) h;refine⟨a,c,rfl,λi hi=> ?_⟩;obtain⟨b,off,h1,_,h2,h3⟩:=hx i hi;obtain⟨u0,e0,t0⟩:=h3 0 _ rfl;exact⟨b,off,u0,h1,h2,by rw[Nat.mul_one]at e0;exact e0,t0⟩
structure Fx(W:World)(B:Nat)(ve ub vc vd vg vl:Value)(xe bk xs:List Int)(d:List (List FailT))(lg:List FailT)(l:List Pt.FltT):Prop where
 ex:IntsAt W B ve xe
 bk:IntsAt W B ub bk
 cl:IntsAt W B vc xs
 di:DictAt W B vd d
 lg:FailsAt W B vg lg
 fl:Pt.FltsAt W B vl l
def Fx.keep{W W':World}{B:Nat}{ve ub vc vd vg vl:Value}{xe bk xs:List Int}{d:List (List FailT)}{lg:List FailT}{l:List Pt.FltT}(h:Fx W B ve ub vc vd vg vl xe bk xs d lg l)(hk:∀b,b<B->W'.heap[b]? =W.heap[b]?):Fx W' B ve ub vc vd vg vl xe bk xs d lg l:=
 ⟨h.ex.keep hk,h.bk.keep hk,h.cl.keep hk,h.di.keep hk,h.lg.keep hk,h.fl.keep hk⟩
def setI:List Int->DataW Unit->DataW Unit
 |[],D=>D
 |x::l,D=>setI l (D.put (.int .i64 x) (.lit (.bool true)))
def setI_snoc:∀(l:List Int) (D:DataW Unit) (x:Int),setI (l++[x]) D=(setI l D).put (.int .i64 x) (.lit (.bool true))
 |[],_,_=>rfl
 |a::l,D,x=>setI_snoc l _ x
def setI_old:∀(l:List Int) (D:DataW Unit) (y:Int),IsMap D->(∀z,D.atKey (.int .i64 y) z=.lit (.bool true))->∀z,(setI l D).atKey (.int .i64 y) z=.lit (.bool true)
 |[],_,_,_,h=>h
 |x::l,D,y,hm,h=>setI_old l _ y (by obtain⟨es,rfl⟩:=hm;exact⟨_,rfl⟩) λz=>by
  by_cases e:y=x
  ·subst e;exact atKey_put_same hm (by trivial) _ _
  ·rw[atKey_put_other (λe1=>e (by injection e1))];exact h z
def setI_at:∀(l:List Int) (D:DataW Unit) (y:Int),IsMap D->y∈l->∀z,(setI l D).atKey (.int .i64 y) z=.lit (.bool true)
 |x::l,D,y,hm,h=>by
  have hm':IsMap (D.put (.int .i64 x) (.lit (.bool true))):=(by obtain⟨es,rfl⟩:=hm;exact⟨_,rfl⟩);rcases AT.1 h with e|h
  ·subst e;exact setI_old l _ y hm' λz=>atKey_put_same hm (by trivial) _ _
  ·exact setI_at l _ y hm' h
def Cir.ex4{N:Tx.NodeL}{A:List (List UInt8)}{C:List Int}{w:World}{v:Value}(h:Cir N A C w v):∃a0 l0 k0 a1 l1 k1 a2 l2 k2 a3 l3 k3,v=.agg #[.slice a0 l0 k0,.slice a1 l1 k1,.slice a2 l2 k2,.slice a3 l3 k3]:=by
 obtain⟨v0,v1,v2,v3,rfl⟩:=h.ex;obtain⟨arr,e,_,hq⟩:=h.h;have e: #[v0,v1,v2,v3]=arr:=by injection e
 subst e;have s:∀{cs:List T} {n:Nat} {c:Option Nat} {u:Value},TR Qd.un w (.imm cs n c) u->∃a l k,u=.slice a l k:=λh=>by
  rcases imm_inv h with ⟨_,_,a,c,rfl,_⟩|⟨b,off,c,g,rfl,_⟩
  ·exact⟨_,_,_,rfl⟩
  ·exact⟨_,_,_,rfl⟩
 obtain⟨u0,e0,t0⟩:=hq 0 (show 0<4 by omega);obtain⟨u1,e1,t1⟩:=hq 1 (show 1<4 by omega);obtain⟨u2,e2,t2⟩:=hq 2 (show 2<4 by omega);obtain⟨u3,e3,t3⟩:=hq 3 (show 3<4 by omega);obtain rfl:v0=u0:=by simpa using e0
 obtain rfl:v1=u1:=by simpa using e1
 obtain rfl:v2=u2:=by simpa using e2
 obtain rfl:v3=u3:=by simpa using e3
 obtain⟨a0,l0,k0,rfl⟩:=s t0;obtain⟨a1,l1,k1,rfl⟩:=s t1;obtain⟨a2,l2,k2,rfl⟩:=s t2;obtain⟨a3,l3,k3,rfl⟩:=s t3;exact⟨_,_,_,_,_,_,_,_,_,_,_,_,rfl⟩
structure ClsAt(W:World)(g c T:Nat)(Rr:Nat->Nat)(ac:Option Addr)(xs:List Int)(i0:Nat):Prop where
 cell:W.cell? ⟨g,c,none⟩=some (.slice ac xs.length xs.length)
 at':IntsAt W W.heap.size (.slice ac xs.length xs.length) xs
 hd:xs[0]? =some (i0:Int)
 lt:i0<T
 all:∀x∈xs,∃i:Nat,x=(i:Int)/\i<T/\Rr i=Rr i0
 len:xs.length<=T
def class_at{W:World}{lo g cap T c:Nat}{Rr:Nat->Nat}{rv:Nat->Value}{vo:Value}{xo:List Int}(h:Cs.Cls W lo (.slice (some ⟨g,0,none⟩) (Cs.seen Rr T).length cap) (Cs.seen Rr T).length (Cs.seen Rr T).length rv (λc=>Cs.mem Rr T ((Cs.seen Rr T)[c]?.getD 0)) vo xo)(hc:c<(Cs.seen Rr T).length):
  ∃ac xs i0,ClsAt W g c T Rr ac xs i0:=by
 have hrow:=h.row c hc;simp only[A4 hc,Aj]at hrow;have hmem:(Cs.seen Rr T)[c]∈Cs.seen Rr T:=A9 hc;obtain⟨i1,h1,h2⟩:=Cs.seen_in.1 hmem;have hall:∀x∈Cs.mem Rr T (Cs.seen Rr T)[c],∃i:Nat,x=(i:Int)/\i<T/\Rr i=(Cs.seen Rr T)[c]:=λx hx=>by obtain⟨i,a,b,e⟩:=Cs.mem_in.1 hx;exact⟨i,e,a,b⟩
 have hin:((i1:Nat):Int)∈Cs.mem Rr T (Cs.seen Rr T)[c]:=Cs.mem_in.2 ⟨i1,h1,h2,rfl⟩;have hlen:=Cs.mem_len Rr T (Cs.seen Rr T)[c];have htop:W.cell? ⟨g,c,none⟩=some (Fo.clip (rv c)):=by rw[h.top.cellAt c (by omega)];simp[hc]
 generalize (Cs.seen Rr T)[c]=k at*
 generalize Cs.mem Rr T k=xs at*
 obtain⟨a,kk,e⟩:=Pt.own_slice hrow;rw[e]at hrow htop
 cases xs with
 |nil=>cases hin
 |cons x xs=>
  obtain⟨i0,e0,l0,r0⟩:=hall x (B4 ..);exact⟨a,x::xs,i0,htop,ints_own rfl hrow,by rw[e0];rfl,l0,λy hy=>by
   obtain⟨i,e1,e2,e3⟩:=hall y hy;exact⟨i,e1,e2,by rw[e3,r0]⟩,hlen⟩
def look_in{W:World}{b n:Nat}{l:List Int}{y:Int}(h:W.ownsMap prog 3 (plainElem (H:=Unit) prog 4) b n (setI l (.map [])))(hy:y∈l)(hw:(Lit.int .i64 y).wf=true):(Instr.lookup 53 (.map (some b)) (.int .i64 y) false).run prog W=.ok (.bool true) W:=by
 obtain⟨v,ps,hrun,hv⟩:=h.lookup Pt.law3 Tryz.underlying53 (Nm.zero4 W) (Ch Tryz.underlying4 false) (keyOf_int_mk Tryz.underlying3 hw);rw[setI_at l _ y ⟨_,rfl⟩ hy]at hv;obtain⟨x,rfl,e⟩:=bool_inv2 hv;have:x=true:=by simpa using e.symm
 subst this;exact hrun
def map_keep{W W':World}{k e:TypeId}{b n:Nat}{D:DataW Unit}(h:W.ownsMap prog k (plainElem (H:=Unit) prog e) b n D)(hk:W'.heap[b]? =W.heap[b]?):W'.ownsMap prog k (plainElem (H:=Unit) prog e) b n D:=by obtain⟨es,clock,h1,h2⟩:=h;exact⟨es,clock,hk.trans h1,h2⟩
def bel_grown{B b:Nat}{W W1 W':World}(h:Aw.Bel B W W1)(hg:W1.grownBy W' (some b))(hb:B<=b)(hl:B<=W1.heap.size):Aw.Bel B W W':=
 h.trans ⟨hg.os,hg.output,hg.size,λc hc=>hg.block c (by omega) (λe=>by injection e with e;omega)⟩
structure Base(N:Tx.NodeL)(A:List (List UInt8))(C:List Int)(w:World)(b7:Nat)(v0 v1 v2 v3:Value)(W:World):Prop where
 box:W.heap[b7]? =some (.cells #[v0,v1,v2,v3] 34 (0,0))
 cir:Cir N A C W (.agg #[v0,v1,v2,v3])
 bel:Aw.Bel w.heap.size w W
 gl:XZ Qd W
def Base.next{N:Tx.NodeL}{A:List (List UInt8)}{C:List Int}{w:World}{b7:Nat}{v0 v1 v2 v3:Value}{W W':World}(h:Base N A C w b7 v0 v1 v2 v3 W)(hb:Aw.Bel W.heap.size W W'):Base N A C w b7 v0 v1 v2 v3 W':=
 ⟨(hb.block _ (Pt.blk_lt h.box)).trans h.box,h.cir.bel hb,h.bel.trans (hb.le h.bel.size),Aw.gl_bel h.gl hb⟩
def Base.cells{N:Tx.NodeL}{A:List (List UInt8)}{C:List Int}{w:World}{b7:Nat}{v0 v1 v2 v3:Value}{W:World}(h:Base N A C w b7 v0 v1 v2 v3 W):W.cell? ⟨b7,0,none⟩=some v0/\W.cell? ⟨b7,1,none⟩=some v1/\W.cell? ⟨b7,2,none⟩=some v2/\W.cell? ⟨b7,3,none⟩=some v3:=Pt.cells4 h.box
end Tx
end
section
open Go.RowKit Go.Maps
namespace Tx
open Co Ho
structure DOk(N:Tx.NodeL)(A:List (List UInt8))(C o:List Int)(d:List (List FailT)):Prop where
 len:d.length=(flN N).length
 same:∀i j (hi:i<d.length) (hj:j<d.length),rho N C o i=rho N C o j->d[i]=d[j]
 row:∀r∈d,r.length<=100000
 sm:∀r∈d,∀f∈r,Small f
 bk:∀i (hi:i<d.length),∃bk,M11.m ⟨N,A,[],C,d[i]⟩=some (bk,0)/\bk.length<=100/\(∀x∈bk,0<=x/\x<=100000)/\∀j (hj:j<d.length) (hj':j<(flN N).length),d[j]=d[i]->(flN N)[j].2.1∈bk
def class_walk{N:Tx.NodeL}{A:List (List UInt8)}{C o:List Int}(R:Runs N A C o)(w:World)(hg:XZ Qd w)(x0 x1 x2 x3 x4 x5 x6 x7 x8 x9 x10 x11 vz:Value)(qn:Nat)(hq:qn<256)
  (c5:∀w1,Aw.Bel w.heap.size w w1->Calls prog 5 #[.agg #[x0,x1,x2,x3,x4,x5,x6,x7,x8,x9,x10,x11]] w1 λe w'=>∃u,e=.returned u/\Cir N A C w' u/\Aw.Bel w1.heap.size w1 w')
  {z Q7:List (List Int×List Int)} (hm6:M6.m ⟨N,A,[],C,z⟩=some Q7) (hz:TR Qd.un w (.imm (z.flatMap (Ly.trees lyP)) z.length none) vz)
  {d:List (List FailT)} (hm9:M9.m ⟨N,A,[],C,flN N,Q7⟩=some (d,0)) (hD:DOk N A C o d)
  (c12:∀w1,XZ Qd w1->Calls prog 12 #[] w1 λe w'=>e=.returned (.bool true)/\Aw.Bel w1.heap.size w1 w'):
  Calls prog 3 #[.agg #[x0,x1,x2,x3,x4,x5,x6,x7,x8,x9,x10,x11],vz,.int .u8 (qn:Int)] w λe w'=>e=.returned (.bool true)/\Aw.Bel w.heap.size w w':=by
 have hT3:=fst_pos R.ck.some';have hT1:=fst_646 R.ck (A5 _);have hT:=flN_len (N:=N);have hmm:=@run_makeMap prog
 go_enter Tryz.func3,Tryz.ntmps3
 go_wp2_with (first
  |(go_at_call 5;refine(c5 _ (Aw.Bel.alloc _ (A5 _))).mono ?_;rintro e w1 ⟨u,rfl,hc,hb⟩;obtain⟨a0,l0,k0,a1,l1,k1,a2,l2,k2,a3,l3,k3,rfl⟩:=hc.ex4;simp only[Am]at hb;have hBa:Base N A C w w1.heap.size (.slice a0 l0 k0) (.slice a1 l1 k1) (.slice a2 l2 k2) (.slice a3 l3 k3) (w1.alloc (.cells #[.slice a0 l0 k0,.slice a1 l1 k1,.slice a2 l2 k2,.slice a3 l3 k3] 34)):=⟨AQ _ _,hc.bel (Aw.Bel.alloc _ (A5 _)),((Aw.Bel.alloc _ (A5 _)).trans (hb.le (by omega))).trans (Aw.Bel.alloc _ (by have:=hb.size;simp at this;omega)),Aw.gl_bel (Aw.gl_bel (Aw.gl_bel hg (Aw.Bel.alloc _ (A5 _))) (by rw[Am];exact hb)) (Aw.Bel.alloc _ (A5 _))⟩)
  |(go_at_call 6;go_loud (refine(call6 hm6 hBa.gl hBa.cir (bel_TR hBa.bel hz)).mono ?_);rintro e w2 ⟨vt,rfl,ht,hb2⟩;have hB2:=hBa.next hb2;obtain⟨y0,y1,y2,y3⟩:=hB2.cells)
  |(go_at_call 7;go_loud (refine(all_call R.ck R.tp hB2.gl hB2.cir).mono ?_);rintro e w3 ⟨vl,rfl,hl,hb3⟩;have hB3:=hB2.next hb3;clear y0 y1 y2 y3;obtain⟨y0,y1,y2,y3⟩:=hB3.cells)
  |(go_at_call 8;go_loud (refine(classes_call R hB3.gl hB3.cir hl).mono ?_);rintro e w4 ⟨Rr,Hr,hRlt,⟨lo,g,cap,rv,vo,xo,rfl,hcls,hlo,hb4⟩⟩;have hB4:=hB3.next hb4;clear y0 y1 y2 y3;obtain⟨y0,y1,y2,y3⟩:=hB4.cells;have hl4:=hl.bel hb4)
  |(go_at_call 9;go_loud (refine(call9 hm9 hB4.gl hB4.cir hl4.t (bel_TR (hb3.trans (hb4.le hb3.size)) ht)).mono ?_);rintro e w5 ⟨vd,rfl,hd,hb5⟩;have hB5:=hB4.next hb5;clear y0 y1 y2 y3;obtain⟨y0,y1,y2,y3⟩:=hB5.cells;have hl5:=hl4.bel hb5;obtain⟨al,kl,rfl,_⟩:=hl5.at'.ex;have hdA:=dict_at hd;obtain⟨ad,kd,rfl,hdx⟩:=dict_tr hd;have hdl:d.length=fst N N.length:=hD.len.trans hT;rw[hdl];rw[hdl]at hdA;have hcls5:=hcls.keep (W1:=w5) (λb _ hlt=>hb5.block b hlt);have hmp:0<(Cs.seen Rr (fst N N.length)).length:=(List.length_pos_iff.2 (λe=>by { have:Rr 0∈Cs.seen Rr (fst N N.length):=Cs.seen_in.2 ⟨0,hT3,rfl⟩;rw[e]at this;cases this }));have hml:=Cs.seen_len Rr (fst N N.length);obtain⟨ac,xs,i0,hca⟩:=class_at hcls5 (Nat.mod_lt qn hmp);have hcell:=hca.cell;have hxl:0<xs.length:=(AD.1 hca.hd).1;obtain⟨a',k',ea,hx⟩:=hca.at'.ex;cases ea;obtain⟨bc,oc,rfl,hbc,hc0⟩:=hx 0 hxl;rw[(AD.1 hca.hd).2,BK]at hc0;have hi0:=hca.lt;have hid:i0<d.length:=(by omega);obtain⟨bd,od,ud,rfl,hbd,hdc,htr⟩:=hdx i0 hid;obtain⟨lg,hlg⟩:∃lg,d[i0]=lg:=⟨_,rfl⟩;rw[hlg]at htr;obtain⟨alg,klg,rfl,_⟩:=(fails_at htr).ex;clear hx hdx;obtain⟨nx,hnx⟩:∃nx,xs.length=nx:=⟨_,rfl⟩;have HNX:Hid (xs.length=nx):=hnx;rw[hnx]at hcell hxl;have hcl:=hca.at';rw[hnx]at hcl;have hn1:¬((i0:Int)<0):=(by omega);have hn2:¬(fst N N.length<=i0):=(by omega);  have hrem:Int.tmod (qn:Int) ((Cs.seen Rr (fst N N.length)).length:Int)=((qn%(Cs.seen Rr (fst N N.length)).length:Nat):Int):=rfl;have hmod:=Nat.mod_lt qn hmp;clear hcls hcls5 hlo;generalize (Cs.seen Rr (fst N N.length)).length=m at*)
  |(go_at_call 10;go_loud (refine(exact_walk _ _ _ d lg hdA (fails_at htr) (by omega) (hD.row _ (hlg▸A9 hid)) hD.row (hD.sm _ (hlg▸A9 hid)) hD.sm).mono ?_);rintro e w6 ⟨ae,ke,xe,rfl,hxe,hxel,hxeb,hxin,hb6⟩;have hB6:=hB5.next hb6;clear y0 y1 y2 y3;obtain⟨y0,y1,y2,y3⟩:=hB6.cells)
  |(go_at_call 11;obtain⟨bk,hm11,hbkl,hbkb,hbki⟩:=hD.bk i0 hid;rw[hlg]at hm11;go_loud (refine(call11 hm11 hB6.gl hB6.cir (bel_TR hb6 htr)).mono ?_);rintro e w7 ⟨ub,rfl,hub,hb7⟩;have hB7:=hB6.next hb7;obtain⟨au,ku,rfl,_⟩:=(ints_tree hub).ex;have hF:Fx w7 w7.heap.size (.slice ae xe.length xe.length) (.slice au bk.length ku) (.slice (some ⟨bc,oc,none⟩) nx nx) (.slice (some ⟨bd,od,none⟩) (fst N N.length) kd) (.slice alg lg.length klg) (.slice al (flN N).length kl) xe bk xs d lg (flN N):=⟨((ints_own rfl hxe).keep hb7.block).up hb7.size,ints_tree hub,((hcl.keep hb6.block).keep (λb hb=>hb7.block b (Bl hb hb6.size))).up (Ao hb6.size hb7.size),dict_up ((hdA.keep hb6.block).keep (λb hb=>hb7.block b (Bl hb hb6.size))) (Ao hb6.size hb7.size),(fails_at (bel_TR hb7 (bel_TR hb6 htr))),((hl5.bel hb6).bel hb7).at'⟩)
  |go_in)
 all_goals first
  |(exact absurd ‹((nx:Int)==0)=true\/(i0:Int)<0› (by
    rintro(h|h)
    ·have:=eq_of_beq h;omega
    ·omega))
  |skip
 have hbel7:=hB7.bel;have hgl7:=hB7.gl;have hsame:∀j (hj:j<d.length),Rr j=Rr i0->d[j]=lg:=λj hj e=>by rw[<-hlg];exact hD.same j i0 hj hid ((Hr j (by omega)).trans (e▸(Hr i0 hi0).symm))
 have hlgl:lg.length<=100000:=hD.row _ (hlg▸A9 hid);have hall:=hca.all;have hxn:xs.length<=fst N N.length:=hca.len;clear hB7 hB6 hB5 hB4 hB3 hB2 hBa hcl hdA htr hxe hub hl5 hl4 hl hd ht hb7 hb6 hb5 hb4 hb3 hb2 hb hc y0 y1 y2 y3 hcell hc0 hdc hca c5 hm6 hm9 hz hm11 Hr hRlt;rw[hT]at hF;obtain⟨W8,hW8⟩:∃W8,w7.alloc (.map #[] 0)=W8:=⟨_,rfl⟩;have hm8:=Cp w7 prog 3 (plainElem (H:=Unit) prog 4);have hb8:Aw.Bel w7.heap.size w7 W8:=hW8▸Aw.Bel.alloc _ (A5 _);have hs8:w7.heap.size<W8.heap.size:=by rw[<-hW8];simp
 rw[hW8]at hm8⊢;clear hW8;have hw7:=hbel7.size;have hwB:∀b,UX w7 b->b<w7.heap.size:=λb hr=>hr.lt;generalize w7.heap.size=B at*
 have hF8:=hF.keep hb8.block;have hgl8:XZ Qd W8:=hgl7.mono λb _ hr=>⟨Jx b,hb8.block b (hwB b hr)⟩;have hbel8:=hbel7.trans (hb8.le hw7);clear hF hbel7 hgl7
 go_loopw [21] (λp wr=>∃(i n:Nat),p=.int .i64 i/\i<=xe.length/\n<=i/\wr.ownsMap prog 3 (plainElem (H:=Unit) prog 4) B n (setI (xe.take i) (.map []))/\Aw.Bel B W8 wr) (λp _=>xe.length - (intOf p).toNat)
 case atStart=>exact⟨0,0,rfl,Af _,A5 _,hm8,Aw.Bel.refl _ _⟩
 case round=>
  clear hm8;obtain⟨i,n,rfl,hi,hn,hmap,hbw⟩:=hrel;have hFw:=hF8.keep hbw.block;by_cases hil:i<xe.length
  ·obtain⟨a',k',ea,hx⟩:=hFw.ex.ex;cases ea;obtain⟨be,oe,rfl,hbe,hce⟩:=hx i hil;have hwf:=hxeb _ (A9 hil);have hkey:=keyOf_int_mk Tryz.underlying3 (wf_small hwf.1 hwf.2);have hsn:=setI_snoc (xe.take i) (.map []) xe[i];rw[C0 hil]at hsn;generalize xe[i]=y at*
   clear hx hsame hall hxin hxeb hbkb hbki hD
   go_wp2_with (first
    |(at_mapUpdate;go_loud (refine Cg _ rfl _ _ _ 53 rfl 3 4 Pt.law3 Tryz.underlying53 (plainElem (H:=Unit) prog 4) B n _ rfl hmap (by unfold maxLen;omega) _ _ _ rfl rfl hkey _ [] (Ch Tryz.underlying4 true) ?_);intro w5 hown5 hgrow5)
    |go_in)
   go_roundw
   case rel=>exact⟨i+1,n+1,by simp,hil,by omega,by rw[hsn];exact hown5,bel_grown hbw hgrow5 (A5 _) (by have:=hbw.size;omega)⟩
   case measure=>simp[intOf];omega
  ·have hie:i=xe.length:=(by omega);have hmapE:=hmap;rw[hie,Aa]at hmapE;clear hie hmap
   go_wp2_with fail
   obtain⟨W9,hW9⟩:∃W9,wr.alloc (.map #[] 0)=W9:=⟨_,rfl⟩;have hm9:=Cp wr prog 3 (plainElem (H:=Unit) prog 4);have hb9:Aw.Bel wr.heap.size wr W9:=hW9▸Aw.Bel.alloc _ (A5 _);have hs9:wr.heap.size<W9.heap.size:=(by rw[<-hW9];simp);have hBr:B<wr.heap.size:=(by have:=hbw.size;omega);rw[hW9]at hm9⊢;clear hW9;have hF9:=hFw.keep λb hb=>hb9.block b (by omega);have hmapE9:=map_keep hmapE (hb9.block B hBr);have hbw9:Aw.Bel B W8 W9:=hbw.trans (hb9.le (by omega));clear hFw hmapE;generalize wr.heap.size=B2 at*
   go_loopw [23] (λp wq=>∃(i n:Nat),p=.int .i64 i/\i<=bk.length/\n<=i/\wq.ownsMap prog 3 (plainElem (H:=Unit) prog 4) B2 n (setI (bk.take i) (.map []))/\Aw.Bel B2 W9 wq) (λp _=>bk.length - (intOf p).toNat)
   case atStart=>exact⟨0,0,rfl,Af _,A5 _,hm9,Aw.Bel.refl _ _⟩
   case round=>
    clear hm9;obtain⟨i,n2,rfl,hi,hn2,hmap,hbq⟩:=hrel;have hFq:=hF9.keep λb hb=>hbq.block b (by omega);by_cases hil:i<bk.length
    ·obtain⟨a',k',ea,hx⟩:=hFq.bk.ex;cases ea;obtain⟨be,oe,rfl,hbe,hce⟩:=hx i hil;have hwf:=hbkb _ (A9 hil);have hkey:=keyOf_int_mk Tryz.underlying3 (wf_small hwf.1 hwf.2);have hsn:=setI_snoc (bk.take i) (.map []) bk[i];rw[C0 hil]at hsn;generalize bk[i]=y at*
     clear hx hsame hall hxin hxeb hbkb hbki hD
     go_wp2_with (first
      |(at_mapUpdate;go_loud (refine Cg _ rfl _ _ _ 53 rfl 3 4 Pt.law3 Tryz.underlying53 (plainElem (H:=Unit) prog 4) B2 n2 _ rfl hmap (by unfold maxLen;omega) _ _ _ rfl rfl hkey _ [] (Ch Tryz.underlying4 true) ?_);intro w5 hown5 hgrow5)
      |go_in)
     go_roundw
     case rel=>exact⟨i+1,n2+1,by simp,hil,by omega,by rw[hsn];exact hown5,bel_grown hbq hgrow5 (A5 _) (by have:=hbq.size;omega)⟩
     case measure=>simp[intOf];omega
    ·have hie:i=bk.length:=(by omega);have hmapB:=hmap;rw[hie,Aa]at hmapB;have hmapE2:=map_keep hmapE9 (hbq.block B hBr);have hbw2:Aw.Bel B W8 wr:=hbw9.trans (hbq.le (by omega));clear hie hmap hF9 hmapE9 hbw9 hbq hb9 hbw;generalize wr=wq at*
     go_wp2_with fail
     go_loopw [24] (λp wz=>∃k:Nat,p=.int .i64 k/\k<=nx/\Aw.Bel wq.heap.size wq wz) (λp _=>nx - (intOf p).toNat)
     case atStart=>exact⟨0,rfl,Af _,Aw.Bel.refl _ _⟩
     case round=>
      obtain⟨k,rfl,hk,hbz⟩:=hrel;by_cases hkl:k<nx
      ·have hkx:k<xs.length:=(by have:=HNX.out;omega);obtain⟨j,hyj,hj,hRj⟩:=hall _ (A9 hkx);have hjd:j<d.length:=(by omega);have hdj:=hsame j hjd hRj;have hin1:=hxin j hjd hdj;have hjl:j<(flN N).length:=(by omega);have hin2:=hbki j hjd hjl (hdj.trans hlg.symm);have hwf2:=hbkb _ hin2;have hFz:=hFq.keep λb hb=>hbz.block b (by have:=hmapE2.lt;omega);have hk1:=look_in (map_keep hmapE2 (hbz.block B hmapE2.lt)) hin1 (Pt.wf_nat (by omega));have hk2:=look_in (map_keep hmapB (hbz.block B2 hmapB.lt)) hin2 (wf_small hwf2.1 hwf2.2);have hcz:=hFz.cl.ex;obtain⟨a1',k1',ea1,hx1⟩:=hcz;obtain⟨bc',oc',ec1,_,hcc⟩:=hx1 k hkx;injection ea1 with ea1 el1 ek1;clear el1 ek1;subst ea1;cases ec1;rw[hyj]at hcc;obtain⟨a2',k2',ea2,hx2⟩:=hFz.di.ex;obtain⟨bd',od',uj,ec2,hbd2,hdc,hfj⟩:=hx2 j hjd;injection ea2 with ea2 el2 ek2;clear el2 ek2;subst ea2;cases ec2;rw[hdj]at hfj;obtain⟨aj,kj,rfl,hxj⟩:=hfj.ex;obtain⟨a3',k3',ea3,hx3⟩:=hFz.fl.ex;obtain⟨bl,ol,ec3,_,_,hlc,_⟩:=hx3 j hjl;injection ea3 with ea3 el3 ek3;clear el3 ek3;subst ea3;subst ec3;obtain⟨a4',k4',ea4,hx4⟩:=hFz.lg.ex;injection ea4 with ea4 el4 ek4;clear el4 ek4;subst ea4;have hBz:B<=wr.heap.size:=(by have:=hbz.size;have:=hmapE2.lt;omega);generalize (flN N)[j].2.1=nd at*
       clear hx1 hx2 hx3 hin1 hin2 hbki hbkb hxin hxeb hD hsame hall hFz hFq hfj hF8 hdj
       go_wp2_with fail
       generalize wr=wz at*
       go_loopw [26] (λp wy=>∃t:Nat,p=.int .i64 t/\t<=lg.length/\Aw.Bel wz.heap.size wz wy) (λp _=>lg.length - (intOf p).toNat)
       case atStart=>exact⟨0,rfl,Af _,Aw.Bel.refl _ _⟩
       case round=>
        obtain⟨t,rfl,ht,hby⟩:=hrel;by_cases htl:t<lg.length
        ·obtain⟨bj,oj,rfl,hbj,j0,j1,j2⟩:=hxj t htl;obtain⟨bg,og,rfl,hbg,g0,g1,g2⟩:=hx4 t htl;have hcy:∀b,b<B->∀o,wr.cell? ⟨b,o,none⟩=wz.cell? ⟨b,o,none⟩:=λb hb o=>An (hby.block b (by omega));rw[<-hcy _ hbj]at j0 j1 j2;rw[<-hcy _ hbg]at g0 g1 g2;rw[<-hcy _ hbd2]at hdc;generalize lg[t]=ft at*
         obtain⟨f0,f1,f2⟩:=ft;simp only at j0 j1 j2 g0 g1 g2;clear hcy hxj hx4 hk1 hk2 hcc hlc
         go_wp2_with fail
         go_region
         go_wp2_with fail
         go_roundw
         case rel=>exact⟨t+1,by simp,htl,⟨hby.os,hby.out,hby.size,hby.block⟩⟩
         case measure=>simp[intOf];omega
        ·clear hxj hx4
         go_wp2_with fail
         go_roundw
         case rel=>exact⟨k+1,by simp,by omega,hbz.trans (hby.le hbz.size)⟩
         case measure=>simp[intOf];omega
      ·have hbelz:Aw.Bel w.heap.size w wr:=hbel8.trans ((hbw2.le hw7).trans (hbz.le (by have:=hbw2.size;have:=hmapE2.lt;omega)))
       go_wp2_with (first|(go_at_call 12;refine(c12 _ (Aw.gl_bel hg hbelz)).mono ?_;rintro e w9 ⟨rfl,hb9⟩)|go_in)
       go_ret
       exact⟨rfl,hbelz.trans (hb9.le hbelz.size)⟩
end Tx
end
section
open Go.RowKit
namespace Tx
open Co Ho
def lgN_lt{gs bs:Nat->List Int×List Int}{f:Int×Bool×Int}:∀{n:Nat},f∈lgN gs bs n->0<=f.1/\f.1<n
 |n+1,h=>by
  have h:f∈lgN gs bs n++ent n (gs n) (bs n):=h;rcases Ak.1 h with h|h
  ·have:=lgN_lt h;omega
  ·rcases Ak.1 h with h|h
   ·obtain⟨j,_,rfl⟩:=BR.1 h;exact⟨by show 0<=(n:Int);omega,by show(n:Int)<((n+1:Nat):Int);omega⟩
   ·obtain⟨j,_,rfl⟩:=BR.1 h;exact⟨by show 0<=(n:Int);omega,by show(n:Int)<((n+1:Nat):Int);omega⟩
section
variable {N:Tx.NodeL}{A:List (List UInt8)}{C o:List Int}
def dictF(N:Tx.NodeL)(C o:List Int)(Q7:List (List Int×List Int)):List (List FailT):=(flN N).map λf=>lgF N C o Q7 f Q7.length
def dict_at'{Q7:List (List Int×List Int)}{i:Nat}(hi:i<(dictF N C o Q7).length):(dictF N C o Q7)[i]=lgF N C o Q7 (fAt N i) Q7.length:=by
 have hl:i<(flN N).length:=by simpa [dictF] using hi
 simp only[dictF,AP];unfold fAt;rw[A4 hl];rfl
def dict_ok(R:Runs N A C o)(hC:C.length<=40){Q7:List (List Int×List Int)}(h20:Q7.length<=20):DOk N A C o (dictF N C o Q7) where
 len:=by simp[dictF]
 same:=λi j hi hj e=>by rw[dict_at' hi,dict_at' hj];exact lg_eq e Q7 _
 row:=λr hr=>by obtain⟨i,hi,rfl⟩:=BB hr;rw[dict_at' hi];have:=lgF_len (o:=o) hC R.ck.few (Q7:=Q7) (f:=fAt N i) Q7.length;omega
 sm:=λr hr f hf=>by obtain⟨i,hi,rfl⟩:=BB hr;rw[dict_at' hi]at hf;have h1:=lgN_lt hf;have h2:=(lg_pos hf).2;have h3:(ofK N 14).length<=N.length:=ofN_len;have h4:=R.ck.few;obtain⟨a,b⟩:=h2;refine⟨h1.1,by omega,a,?_⟩;split at b<;>omega
 bk:=λi hi=>by
  have hp:∀f∈(dictF N C o Q7)[i],Pos N C f:=λf hf=>(by rw[dict_at' hi]at hf;exact lg_pos hf);have hl:((dictF N C o Q7)[i]).length<=1000000:=(by rw[dict_at' hi];have:=lgF_len (o:=o) hC R.ck.few (Q7:=Q7) (f:=fAt N i) Q7.length;omega);obtain⟨bk,h1,h2,h3,h4⟩:=m11 R.ck R.tp hl hp;have h5:=R.ck.few;refine⟨bk,h1,by omega,λx hx=> ?_,λj hj hj' e=> ?_⟩
  ·obtain⟨a,b⟩:=h3 x hx;exact⟨a,by omega⟩
  ·obtain⟨_,_,⟨a,b⟩,_⟩:=flN_fa _ (A9 hj');have hn:(flN N)[j].2.1=(((flN N)[j].2.1.toNat:Nat):Int):=(Az a).symm;rw[hn];refine h4 _ (by omega) λf hf ins hc=> ?_;have ef:fAt N j=(flN N)[j]:=(by unfold fAt;rw[A4 hj'];rfl);rw[<-e,dict_at' hj,ef]at hf;exact lg_cause R a hf hc
end
end Tx
end
section
open Go.RowKit
namespace Tx
open Co Ho
def ck3:Ck N3 A3 [2] where
 some':=by decide
 few:=by decide
 nd:=by
  intro x hx;simp only[N3,AT,Av,Bu]at hx;rcases hx with rfl|rfl|rfl
  ·exact⟨by decide,by decide,by decide,by decide,by decide,by decide,rfl,rfl,by decide⟩
  ·exact⟨by decide,by decide,by decide,by decide,by decide,by decide,rfl,rfl,by decide⟩
  ·refine⟨by decide,by decide,by decide,by decide,?_,by decide,rfl,rfl,by decide⟩;intro a ha;simp only[AT,Av,Bu]at ha;rcases ha with rfl|rfl<;>exact⟨by decide,by decide⟩
 nm:=.inr (.inr rfl)
 ln:=rfl
 Q3:=by intro a ha;simp only[AT,Av,Bu]at ha;subst ha;exact⟨by decide,by decide⟩
 fewC:=by decide
def tp3:Topo N3:=by
 intro i hi hc a ha;have hi:i<3:=hi;rcases (show i=0\/i=1\/i=2 by omega) with rfl|rfl|rfl
 ·cases ha
 ·cases ha
 ·have ha:a∈[(0:Int),1]:=ha;simp only[AT,Av,Bu]at ha;rcases ha with rfl|rfl<;>exact⟨by decide,by decide⟩
def ord3{o:List Int}(h:Ord N3 o):o=[0,1,2]\/o=[1,0,2]:=by
 have hp:o.Perm [0,1,2]:=h.p;have hl:o.length=3:=hp.length_eq
 match o,hl with
 |[x,y,z],_=>
  have hm:∀a∈[x,y,z],a=0\/a=1\/a=2:=λa ha=>(by simpa using hp.mem_iff.1 ha);have hn:[x,y,z].Nodup:=hp.nodup_iff.2 (by decide);simp only[List.nodup_cons,AT,Av,Bu,not_or,List.nodup_nil,and_true,not_false_eq_true]at hn;have h1:=hm x (by simp);have h2:=hm y (by simp);have h3:=hm z (by simp);have b1:x≠2:=λe=>(by subst e;have:=h.b [] 2 [y,z] rfl rfl 0 (by decide);cases this);have b2:y≠2:=λe=>(by subst e;have q0:=h.b [x] 2 [z] rfl rfl 0 (by decide);have q1:=h.b [x] 2 [z] rfl rfl 1 (by decide);simp only[Ae]at q0 q1;omega);obtain⟨⟨n1,n2⟩,n3⟩:=hn;have hz:z=2:=(by omega);subst hz;rcases (show(x=0/\y=1)\/(x=1/\y=0) by omega) with ⟨rfl,rfl⟩|⟨rfl,rfl⟩
  ·exact .inl rfl
  ·exact .inr rfl
def m118a:M118.m { l:=[1,0],low:=1,high:=0 }=some 1:=by have e:iter M118.s0 { low:=1,high:=0,out:=0,l:=[1,0],n:=2,i:=0 }=some (.inr { r:=1 }):=Zs (n:=10) (by kernel_rfl);show bindO (iter M118.s0 { low:=1,high:=0,out:=0,l:=[1,0],n:=2,i:=0 }) _=some 1;rw[e];rfl
def m118b:M118.m { l:=[0,0],low:=1,high:=0 }=some 0:=by have e:iter M118.s0 { low:=1,high:=0,out:=0,l:=[0,0],n:=2,i:=0 }=some (.inl { out:=0 }):=Zs (n:=10) (by kernel_rfl);show bindO (iter M118.s0 { low:=1,high:=0,out:=0,l:=[0,0],n:=2,i:=0 }) _=some 0;rw[e];rfl
def ev_nor{l:List Int}{y v:Int}(hl:l.length=2)(h:M118.m { l:=l,low:=1,high:=0 }=some y)(h2:M80.m { v:=y }=some v):Co.ev 8 l=v:=by
 have e:M44.m ⟨8,l⟩=bindO (M82.m { l:=l }) λy=>bindO (M80.m { v:=y }) λy=>some y:=by
  match l,hl with
  |[a,b],_=>rfl
 unfold Co.ev;rw[e];unfold M82.m;rw[h];simp only[bindO,h2,Aj]
def ev10:Co.ev 8 [1,0]=0:=ev_nor rfl m118a (by kernel_rfl)
def ev00:Co.ev 8 [0,0]=1:=ev_nor rfl m118b (by kernel_rfl)
abbrev tests3:List (List Int×List Int):=[([1,0],[]),([0,0],[])]
def log3{o:List Int}(h:o=[0,1,2]\/o=[1,0,2]):lgF N3 [2] o tests3 (0,2,-1,0,0) 2=[(1,false,0)]:=by
 have g1:sim good N3 o (base N3 [1,0] [])=[1,0,0]:=by rcases h with rfl|rfl<;>(show [(1:Int),0,Co.ev 8 [1,0]]=_;rw[ev10])
 have g2:sim good N3 o (base N3 [0,0] [])=[0,0,1]:=by rcases h with rfl|rfl<;>(show [(0:Int),0,Co.ev 8 [0,0]]=_;rw[ev00])
 have b1:sim (flt 2 (-1) 0) N3 o (base N3 [1,0] [])=[1,0,0]:=by rcases h with rfl|rfl<;>rfl
 have b2:sim (flt 2 (-1) 0) N3 o (base N3 [0,0] [])=[0,0,0]:=by rcases h with rfl|rfl<;>rfl
 show([]++ent 0 (rspG N3 [2] o (base N3 [1,0] [])) (rsp N3 [2] o 2 (-1) 0 (base N3 [1,0] [])))++ent 1 (rspG N3 [2] o (base N3 [0,0] [])) (rsp N3 [2] o 2 (-1) 0 (base N3 [0,0] []))=_;unfold rspG rsp;rw[g1,g2,b1,b2];decide
def pat3:PatL N3 tests3:=by
 intro t ht;simp only[AT,Av,Bu]at ht;rcases ht with rfl|rfl
 ·exact⟨rfl,rfl,by decide,by decide⟩
 ·exact⟨rfl,rfl,by decide,by decide⟩
def m9_3{o:List Int}(R:Runs N3 A3 [2] o):M9.m ⟨N3,A3,[],[2],[(0,2,-1,0,0)],tests3⟩=some ([[(1,false,0)]],0):=by
 rw[m9 R (by decide) (by decide) (λf hf=>by
  simp only[AT,Av,Bu]at hf;subst hf;exact⟨rfl,rfl,⟨by decide,by decide⟩,by decide,by decide,.inl rfl⟩) (by decide) pat3]
 show some ([lgF N3 [2] o tests3 (0,2,-1,0,0) 2],(0:Int))=_;rw[log3 (ord3 R.od)]
def seen3{B:Nat}{h:Nat->Nat}{X:Type}{ρ:Nat->X}(U:UF ρ 10 h B ps3):(Cs.seen (Pt.up ps3 (B+1)) 10).length=4:=by have R:=Pt.rt_of U;generalize Pt.up ps3 (B+1)=Rr at R;have h4:Rr 4=4:=R.fix 4 (by decide) rfl;have h5:Rr 5=5:=R.fix 5 (by decide) rfl;have h6:Rr 6=6:=R.fix 6 (by decide) rfl;have h8:Rr 8=8:=R.fix 8 (by decide) rfl;have h0:Rr 0=6:=(R.uf.eq 0 (by decide)).trans h6;have h1:Rr 1=4:=(R.uf.eq 1 (by decide)).trans h4;have h2:Rr 2=8:=(R.uf.eq 2 (by decide)).trans h8;have h3:Rr 3=4:=(R.uf.eq 3 (by decide)).trans h4;have h7:Rr 7=4:=(R.uf.eq 7 (by decide)).trans h4;have h9:Rr 9=4:=(R.uf.eq 9 (by decide)).trans h4;simp[Cs.seen,h0,h1,h2,h3,h4,h5,h6,h7,h8,h9]
structure IsC4(w:World)(e:Ending)(w':World):Prop where
 ex:∃Rr:Nat->Nat,(Cs.seen Rr 10).length=4/\Pt.IsCl Rr 10 w e w'
def classes3{o:List Int}{w:World}{v vl:Value}(R:Runs N3 A3 [2] o)(hg:XZ Qd w)(hc:Cir N3 A3 [2] w v)(hl:Fls (flN N3) w vl):Calls prog 8 #[v,vl] w (IsC4 w):=by
 obtain⟨v0,v1,v2,v3,rfl⟩:=hc.ex;have hk:=R.ck;obtain⟨ps,hm,hU,B,U⟩:=m60 hk (eqs R);have e:=m60_3.symm.trans hm;obtain rfl:ps=ps3:=by injection e with e;injection e with _ e;injection e with _ e;injection e with _ e;injection e with _ e;injection e with _ e;injection e with _ e;exact e.symm
 have hR:=Pt.rt_of U;refine(Pt.classes_walk w v0 v1 v2 v3 vl (flN N3) hl.at' flN_len (by decide) hR nums_ok (λi hi=>Pt.up_lt U _ hi) (by decide) (λw1 hb=>call27 (m27 hk R.tp (by decide) flN_fa) (Aw.gl_bel hg hb) (hc.bel hb) (hl.bel hb).t)
  (λw1 hb=>Pt.call60 hm fsL_len U.len (by decide) (by decide) (Aw.gl_bel hg hb) (args1 (hc.bel hb).h))).mono ?_
 exact λe w' h=>⟨_,seen3 U,h⟩
end Tx
end
section
open Go.RowKit
namespace Tx
open Co Ho
def imm_blk{W:World}{b len c:Nat}{cs:Array Value}{el:TypeId}{ts:List T}(hb:W.heap[b]? =some (.cells cs el (0,0)))(hc:len<=c)(h:∀i (hi:i<ts.length),∃u,cs[i]? =some u/\TR Qd.un W ts[i] u):TR Qd.un W (.imm ts len none) (.slice (some ⟨b,0,none⟩) len c):=by
 refine .imm _ _ none b 0 c (λi=>cs[i]?.getD undef) (Jx b) ⟨_,_,_,hb⟩ trivial hc (λi hi=> ?_) (λi hi=> ?_)
 ·obtain⟨u,h1,_⟩:=h i hi;rw[AF,h1,Aj,World.cell?,hb];exact h1
 ·obtain⟨u,h1,h2⟩:=h i hi;rw[h1,Aj];exact h2
abbrev IsLg(lg:List FailT):=IsT (.imm (lg.flatMap (Ly.trees lyF)) lg.length none)
def log_walk{N:Tx.NodeL}{A:List (List UInt8)}{C:List Int}{w:World}{v vt:Value}{f0 f1 f2 f3 f4:Int}{Q7:List (List Int×List Int)}{lg:List FailT}(hm:M9.m ⟨N,A,[],C,[(f0,f1,f2,f3,f4)],Q7⟩=some ([lg],0))(hg:XZ Qd w)(hc:Cir N A C w v)(ht:TR Qd.un w (.imm (Q7.flatMap (Ly.trees lyP)) Q7.length none) vt):
  Calls prog 38 #[v,.agg #[.int .u8 f0,.int .i64 f1,.int .i64 f2,.int .u8 f3,.int .i64 f4],vt] w (IsLg lg w):=by
 obtain⟨a0,l0,k0,a1,l1,k1,a2,l2,k2,a3,l3,k3,rfl⟩:=hc.ex4;obtain⟨W1,hW1⟩:∃W1,(w.alloc (.cells #[.slice a0 l0 k0,.slice a1 l1 k1,.slice a2 l2 k2,.slice a3 l3 k3] 34)).alloc (.cells #[.int .u8 f0,.int .i64 f1,.int .i64 f2,.int .u8 f3,.int .i64 f4] 58)=W1:=⟨_,rfl⟩;have hb1:Aw.Bel w.heap.size w W1:=hW1▸(Aw.Bel.alloc _ (A5 _)).trans (Aw.Bel.alloc _ (by simp));have hb2:Aw.Bel w.heap.size w (W1.alloc (.cells #[.int .u8 f0,.int .i64 f1,.int .i64 f2,.int .u8 f3,.int .i64 f4] 58)):=hb1.trans (Aw.Bel.alloc _ hb1.size);have hn:=AQ W1 (.cells #[.int .u8 f0,.int .i64 f1,.int .i64 f2,.int .u8 f3,.int .i64 f4] 58);have hl:TR Qd.un (W1.alloc (.cells #[.int .u8 f0,.int .i64 f1,.int .i64 f2,.int .u8 f3,.int .i64 f4] 58)) (.imm ([(f0,f1,f2,f3,f4)].flatMap (Ly.trees lyT)) 1 none) (.slice (some ⟨W1.heap.size,0,none⟩) 1 1):=imm_blk hn (A5 _) λi hi=>by have hi:i<5:=hi;rcases (show i=0\/i=1\/i=2\/i=3\/i=4 by omega) with rfl|rfl|rfl|rfl|rfl<;>exact⟨_,rfl,TR.int _ _⟩
 have q1:W1.heap[w.heap.size]? =some (.cells #[.slice a0 l0 k0,.slice a1 l1 k1,.slice a2 l2 k2,.slice a3 l3 k3] 34 (0,0)):=hW1▸(Below.heap_alloc _ _ _ (by simp)).trans (AQ _ _);have q2:W1.heap[w.heap.size+1]? =some (.cells #[.int .u8 f0,.int .i64 f1,.int .i64 f2,.int .u8 f3,.int .i64 f4] 58 (0,0)):=by rw[<-hW1];have:=AQ (w.alloc (.cells #[.slice a0 l0 k0,.slice a1 l1 k1,.slice a2 l2 k2,.slice a3 l3 k3] 34)) (.cells #[.int .u8 f0,.int .i64 f1,.int .i64 f2,.int .u8 f3,.int .i64 f4] 58);rwa [Am]at this
 obtain⟨x0,x1,x2,x3⟩:=Pt.cells4 q1;have y0:W1.cell? ⟨w.heap.size+1,0,none⟩=some (.int .u8 f0):=by simp[World.cell?,q2]
 have y1:W1.cell? ⟨w.heap.size+1,1,none⟩=some (.int .i64 f1):=by simp[World.cell?,q2]
 have y2:W1.cell? ⟨w.heap.size+1,2,none⟩=some (.int .i64 f2):=by simp[World.cell?,q2]
 have y3:W1.cell? ⟨w.heap.size+1,3,none⟩=some (.int .u8 f3):=by simp[World.cell?,q2]
 have y4:W1.cell? ⟨w.heap.size+1,4,none⟩=some (.int .i64 f4):=by simp[World.cell?,q2]
 clear q1 q2 hn
 go_enter Tryz.func38,Tryz.ntmps38
 go_wp2_with (first
  |(go_at_call 9;go_loud (refine(call9 hm (Aw.gl_bel hg hb2) (hc.bel hb2) hl (bel_TR hb2 ht)).mono ?_);rintro e w5 ⟨vd,rfl,hd,hb5⟩;obtain⟨ad,kd,rfl,hdx⟩:=dict_tr hd;obtain⟨bd,od,ud,rfl,hbd,hdc,htr⟩:=hdx 0 (Nat.zero_lt_one);rw[BK]at hdc)
  |go_in)
 refine BO (results_tmp2 rfl _ _ _) rfl ?_;exact⟨_,rfl,htr,hb2.trans (hb5.le hb2.size)⟩
structure Kb(B:Nat)(W:World):Prop where
 p:W.heap[B]? =some (.cells #[.int .i64 0,.int .i64 1] 3 (0,0))
 n:W.heap[B+1]? =some (.cells #[.int .u8 0,.slice none 0 0,.int .i64 0,.int .i64 0,.int .u8 0,.slice none 0 0,.int .i64 0,.int .i64 0,.int .u8 8,.slice (some ⟨B,0,none⟩) 2 2,.int .i64 0,.int .i64 0] 124 (0,0))
 a:W.heap[B+1+1]? =some (.cells #[.string ⟨#[97]⟩,.string ⟨#[98]⟩,.string ⟨#[121]⟩] 9 (0,0))
 o:W.heap[B+1+1+1]? =some (.cells #[.int .i64 2] 3 (0,0))
def Kb.cir{B:Nat}{W:World}(h:Kb B W):Cir N3 A3 [2] W (.agg #[.slice (some ⟨B+1,0,none⟩) 3 3,.slice (some ⟨B+1+1,0,none⟩) 3 3,.slice none 0 0,.slice (some ⟨B+1+1+1,0,none⟩) 1 1]):=by
 have tp:TR Qd.un W (.imm ([(0:Int),1].flatMap (Ly.trees (.int .i64))) 2 none) (.slice (some ⟨B,0,none⟩) 2 2):=imm_blk h.p (A5 _) λi hi=>by have hi:i<2:=hi;rcases (show i=0\/i=1 by omega) with rfl|rfl<;>exact⟨_,rfl,TR.int _ _⟩
 have t0:TR Qd.un W (.imm [] 0 none) (.slice none 0 0):=TR.imm0 none none 0 trivial;refine⟨⟨_,rfl,rfl,λi hi=> ?_⟩⟩;have hi:i<4:=hi;rcases (show i=0\/i=1\/i=2\/i=3 by omega) with rfl|rfl|rfl|rfl
 ·refine⟨_,rfl,?_⟩;refine imm_blk h.n (A5 _) λi hi=> ?_;have hi:i<12:=hi;rcases (show i=0\/i=1\/i=2\/i=3\/i=4\/i=5\/i=6\/i=7\/i=8\/i=9\/i=10\/i=11 by omega) with rfl|rfl|rfl|rfl|rfl|rfl|rfl|rfl|rfl|rfl|rfl|rfl<;>first|exact⟨_,rfl,TR.int _ _⟩|exact⟨_,rfl,t0⟩|exact⟨_,rfl,tp⟩
 ·refine⟨_,rfl,?_⟩;refine imm_blk h.a (A5 _) λi hi=> ?_;have hi:i<3:=hi;rcases (show i=0\/i=1\/i=2 by omega) with rfl|rfl|rfl<;>exact⟨_,rfl,TR.str _⟩
 ·exact⟨_,rfl,t0⟩
 ·refine⟨_,rfl,?_⟩;refine imm_blk h.o (A5 _) λi hi=> ?_;have hi:i<1:=hi;rcases (show i=0 by omega) with rfl;exact⟨_,rfl,TR.int _ _⟩
def tests_tr(W:World)(tA tB:TypeId):TR Qd.un (((W.alloc (.cells #[.int .u8 1,.int .u8 0] tA)).alloc (.cells #[.int .u8 0,.int .u8 0] tA)).alloc (.cells #[.slice (some ⟨W.heap.size,0,none⟩) 2 2,.slice none 0 0,.slice (some ⟨W.heap.size+1,0,none⟩) 2 2,.slice none 0 0] tB)) (.imm (tests3.flatMap (Ly.trees lyP)) 2 none) (.slice (some ⟨W.heap.size+1+1,0,none⟩) 2 2):=by
 obtain⟨W2,hW2⟩:∃W2,((W.alloc (.cells #[.int .u8 1,.int .u8 0] tA)).alloc (.cells #[.int .u8 0,.int .u8 0] tA))=W2:=⟨_,rfl⟩;have hs:W2.heap.size=W.heap.size+1+1:=by rw[<-hW2];simp
 have h0:W2.heap[W.heap.size]? =some (.cells #[.int .u8 1,.int .u8 0] tA (0,0)):=hW2▸(Below.heap_alloc _ _ _ (by simp)).trans (AQ _ _);have h1:W2.heap[W.heap.size+1]? =some (.cells #[.int .u8 0,.int .u8 0] tA (0,0)):=by rw[<-hW2];have:=AQ (W.alloc (.cells #[.int .u8 1,.int .u8 0] tA)) (.cells #[.int .u8 0,.int .u8 0] tA);rwa [Am]at this
 rw[hW2,<-hs];have t0:∀W',TR Qd.un W' (.imm [] 0 none) (.slice none 0 0):=λW'=>TR.imm0 none none 0 trivial;have hb:Aw.Bel W2.heap.size W2 (W2.alloc (.cells #[.slice (some ⟨W.heap.size,0,none⟩) 2 2,.slice none 0 0,.slice (some ⟨W.heap.size+1,0,none⟩) 2 2,.slice none 0 0] tB)):=Aw.Bel.alloc _ (A5 _);have ta:TR Qd.un W2 (.imm ([(1:Int),0].flatMap (Ly.trees (.int .u8))) 2 none) (.slice (some ⟨W.heap.size,0,none⟩) 2 2):=imm_blk h0 (A5 _) λi hi=>by have hi:i<2:=hi;rcases (show i=0\/i=1 by omega) with rfl|rfl<;>exact⟨_,rfl,TR.int _ _⟩
 have tb:TR Qd.un W2 (.imm ([(0:Int),0].flatMap (Ly.trees (.int .u8))) 2 none) (.slice (some ⟨W.heap.size+1,0,none⟩) 2 2):=imm_blk h1 (A5 _) λi hi=>by have hi:i<2:=hi;rcases (show i=0\/i=1 by omega) with rfl|rfl<;>exact⟨_,rfl,TR.int _ _⟩
 have ta':=bel_TR hb ta;have tb':=bel_TR hb tb;refine imm_blk (AQ _ _) (A5 _) λi hi=> ?_;have hi:i<4:=hi;rcases (show i=0\/i=1\/i=2\/i=3 by omega) with rfl|rfl|rfl|rfl
 ·exact⟨_,rfl,ta'⟩
 ·exact⟨_,rfl,t0 _⟩
 ·exact⟨_,rfl,tb'⟩
 ·exact⟨_,rfl,t0 _⟩
def al3(W:World)(o1 o2 o3:Go.Obj):Aw.Bel W.heap.size W (((W.alloc o1).alloc o2).alloc o3):=((Aw.Bel.alloc _ (A5 _)).trans (Aw.Bel.alloc _ (by simp))).trans (Aw.Bel.alloc _ (by simp;omega))
def known_walk{w:World}(hg:XZ Qd w):Calls prog 12 #[] w λe w'=>e=.returned (.bool true)/\Aw.Bel w.heap.size w w':=by
 obtain⟨o,R⟩:=runs ck3 tp3;have hfl:(flN N3).length=10:=flN_len;obtain⟨W0,hW0⟩:∃W0,(((w.alloc (.cells #[.int .i64 0,.int .i64 1] 3)).alloc (.cells #[.int .u8 0,.slice none 0 0,.int .i64 0,.int .i64 0,.int .u8 0,.slice none 0 0,.int .i64 0,.int .i64 0,.int .u8 8,.slice (some ⟨w.heap.size,0,none⟩) 2 2,.int .i64 0,.int .i64 0] 124)).alloc (.cells #[.string ⟨#[97]⟩,.string ⟨#[98]⟩,.string ⟨#[121]⟩] 9)).alloc (.cells #[.int .i64 2] 3)=W0:=⟨_,rfl⟩;have hs0:W0.heap.size=w.heap.size+1+1+1+1:=by rw[<-hW0];simp
 have hK0:Kb w.heap.size W0:=by
  rw[<-hW0];refine⟨?_,?_,?_,?_⟩
  ·rw[Below.heap_alloc _ _ _ (by simp<;>omega),Below.heap_alloc _ _ _ (by simp<;>omega),Below.heap_alloc _ _ _ (by simp)];exact AQ _ _
  ·rw[Below.heap_alloc _ _ _ (by simp<;>omega),Below.heap_alloc _ _ _ (by simp)];have:=AQ (w.alloc (.cells #[.int .i64 0,.int .i64 1] 3)) (.cells #[.int .u8 0,.slice none 0 0,.int .i64 0,.int .i64 0,.int .u8 0,.slice none 0 0,.int .i64 0,.int .i64 0,.int .u8 8,.slice (some ⟨w.heap.size,0,none⟩) 2 2,.int .i64 0,.int .i64 0] 124);rwa [Am]at this
  ·rw[Below.heap_alloc _ _ _ (by simp)];have:=AQ ((w.alloc (.cells #[.int .i64 0,.int .i64 1] 3)).alloc (.cells #[.int .u8 0,.slice none 0 0,.int .i64 0,.int .i64 0,.int .u8 0,.slice none 0 0,.int .i64 0,.int .i64 0,.int .u8 8,.slice (some ⟨w.heap.size,0,none⟩) 2 2,.int .i64 0,.int .i64 0] 124)) (.cells #[.string ⟨#[97]⟩,.string ⟨#[98]⟩,.string ⟨#[121]⟩] 9);rwa [Am,Am]at this
  ·have:=AQ (((w.alloc (.cells #[.int .i64 0,.int .i64 1] 3)).alloc (.cells #[.int .u8 0,.slice none 0 0,.int .i64 0,.int .i64 0,.int .u8 0,.slice none 0 0,.int .i64 0,.int .i64 0,.int .u8 8,.slice (some ⟨w.heap.size,0,none⟩) 2 2,.int .i64 0,.int .i64 0] 124)).alloc (.cells #[.string ⟨#[97]⟩,.string ⟨#[98]⟩,.string ⟨#[121]⟩] 9)) (.cells #[.int .i64 2] 3);rwa [Am,Am,Am]at this
 have hb0:Aw.Bel w.heap.size w W0:=by rw[<-hW0];exact(((Aw.Bel.alloc _ (A5 _)).trans (Aw.Bel.alloc _ (by simp))).trans (Aw.Bel.alloc _ (by simp;omega))).trans (Aw.Bel.alloc _ (by simp;omega))
 have hB1:Base N3 A3 [2] w W0.heap.size (.slice (some ⟨w.heap.size+1,0,none⟩) 3 3) (.slice (some ⟨w.heap.size+1+1,0,none⟩) 3 3) (.slice none 0 0) (.slice (some ⟨w.heap.size+1+1+1,0,none⟩) 1 1) (W0.alloc (.cells #[.slice (some ⟨w.heap.size+1,0,none⟩) 3 3,.slice (some ⟨w.heap.size+1+1,0,none⟩) 3 3,.slice none 0 0,.slice (some ⟨w.heap.size+1+1+1,0,none⟩) 1 1] 34)):=
  ⟨AQ _ _,hK0.cir.bel (Aw.Bel.alloc _ (A5 _)),hb0.trans (Aw.Bel.alloc _ hb0.size),Aw.gl_bel (Aw.gl_bel hg hb0) (Aw.Bel.alloc _ (A5 _))⟩
 rw[hs0,<-hW0]at hB1;clear hK0 hb0 hs0 hW0
 go_enter Tryz.func12,Tryz.ntmps12
 go_wp2_with (first
  |(go_at_call 7;go_loud (refine(all_call ck3 tp3 hB1.gl hB1.cir).mono ?_);rintro e w3 ⟨vl,rfl,hl,hb3⟩;have hB3:=hB1.next hb3;obtain⟨y0,y1,y2,y3⟩:=hB3.cells;obtain⟨al,kl,rfl,_⟩:=hl.at'.ex)
  |(go_at_call 8;go_loud (refine(classes3 R hB3.gl hB3.cir hl).mono ?_);rintro e w4 ⟨Rr,h4,⟨lo,g,cap,rv,vo,xo,rfl,_,_,hb4⟩⟩;rw[h4];have hB4:=hB3.next hb4;clear y0 y1 y2 y3;obtain⟨y0,y1,y2,y3⟩:=hB4.cells)
  |(go_at_call 38;have hb5:=al3 w4 (.cells #[.int .u8 1,.int .u8 0] 56) (.cells #[.int .u8 0,.int .u8 0] 56) (.cells #[.slice (some ⟨w4.heap.size,0,none⟩) 2 2,.slice none 0 0,.slice (some ⟨w4.heap.size+1,0,none⟩) 2 2,.slice none 0 0] 74);go_loud (refine(log_walk (m9_3 R) (Aw.gl_bel hB4.gl hb5) (hB4.cir.bel hb5) (tests_tr w4 56 74)).mono ?_);rintro e w6 ⟨ud,rfl,hud,hb6⟩;have hB6:Aw.Bel w.heap.size w w6:=hB4.bel.trans ((hb5.trans (hb6.le hb5.size)).le hB4.bel.size);obtain⟨ag,kg,rfl,hgx⟩:=(fails_at hud).ex;obtain⟨bg,og,rfl,hbg,g0,g1,g2⟩:=hgx 0 Nat.zero_lt_one;simp only[BP,BK,List.getElem_cons_zero]at g0 g1 g2)
  |go_in)
 go_ret
 exact⟨rfl,hB6⟩
end Tx
end
section
open Go.ChangeShapes Go.WideShapes Go.ChangeAt Go.RowKit
def mapM_get{α β:Type}{f:α->Option β}:∀{l:List α} {ys:List β},l.mapM f=some ys->ys.length=l.length/\∀i (h:i<l.length) (h':i<ys.length),f l[i]=some ys[i]
 |[],ys,h=>by simp only[List.mapM_nil,Option.pure_def,Kn]at h;subst h;exact⟨rfl,λi h=>by simp at h⟩
 |a::l,ys,h=>by
  rw[List.mapM_cons]at h;simp only[Option.pure_def,Option.bind_eq_bind,Option.bind_eq_some_iff,Kn]at h;obtain⟨y,h1,ys',h2,rfl⟩:=h;obtain⟨h3,h4⟩:=mapM_get h2;refine⟨by simp[h3],λi hi hi'=> ?_⟩
  cases i with
  |zero=>exact h1
  |succ i=>exact h4 i (by simpa using hi) (by simpa using hi')
def int_trod{H:Type}{enc:TypeId×Value->H}{P:Program}{w:World}{base:Nat}{spare:Nat->Bool}{held:Bool}{fuel:Nat}{t:TypeId}{cs:List Value}{k:IntKind}{n:Int}{p:List MemPlace}(ht:P.underlying t=some (.int k))
  (h:DataW.trod enc P w base spare held fuel t cs=some (.lit (.int k n),p)):cs=[.int k n]:=by
 cases fuel with
 |zero=>simp[DataW.trod]at h
 |succ fuel=>
  match cs with
  |[]=>simp[DataW.trod,ht]at h
  |_::_::_=>simp[DataW.trod,ht]at h
  |[c]=>cases c<;>simp[DataW.trod,ht]at h;rename_i b;obtain⟨⟨rfl,_⟩,rfl,_⟩:=h;rfl
def arr_trod{H:Type}{enc:TypeId×Value->H}{P:Program}{w:World}{base:Nat}{spare:Nat->Bool}{held:Bool}{fuel:Nat}{t e:TypeId}{n:Nat}{cs:List Value}{ds:List (DataW H)}{p:List MemPlace}(ht:P.underlying t=some (.array n e))
  (h:DataW.trod enc P w base spare held fuel t cs=some (.agg ds,p)):cs.length=P.cellsOf t/\ds.length=n/\∃fuel',∀i (h:i<ds.length),∃q,DataW.trod enc P w base spare held fuel' e ((cs.drop (i*P.cellsOf e)).take (P.cellsOf e))=some (ds[i],q):=by
 cases fuel with
 |zero=>simp[DataW.trod]at h
 |succ fuel=>
  simp only[DataW.trod,ht]at h;split at h
  ·rename_i hl;obtain⟨xs,h1,h2⟩:=WF.1 h;simp only[A0,DataW.agg.injEq]at h2;obtain⟨rfl,_⟩:=h2;obtain⟨h3,h4⟩:=mapM_get h1;refine⟨hl,by simpa using h3,fuel,λi hi=> ?_⟩;have hi':i<xs.length:=(by simpa using hi);have hi2:i<(List.range n).length:=(by omega);refine⟨xs[i].2,?_⟩;have:=h4 i hi2 hi';simp only[C4]at this;rw[this];simp
  ·cases h
def fan:List (Int×Int):=[(0,0),(0,0),(0,0),(1,1),(1,1),(2,16),(2,16),(2,16),(2,16),(2,16),(2,16),(3,3),(2,2),(1,16),(1,1),(0,0)]
def ints:List Int:=fan.flatMap λx=>[x.1,x.2]
def laid_eq{H:Type}:(Rows.laid_probecard_logic_fanins:DataW H)=.agg (fan.map λx=>.agg [.lit (.int .i64 x.1),.lit (.int .i64 x.2)]):=rfl
def Tryz.u232:prog.underlying 232=some (.array 16 231):=by kernel_rfl
def Tryz.u231:prog.underlying 231=some (.array 2 3):=by kernel_rfl
def Tryz.u3:prog.underlying 3=some (.int .i64):=by kernel_rfl
def Tryz.c231:prog.cellsOf 231=2:=by kernel_rfl
def Tryz.c232:prog.cellsOf 232=32:=by kernel_rfl
def Tryz.c3:prog.cellsOf 3=1:=by kernel_rfl
def tab_cells{H:Type}{enc:TypeId×Value->H}{w:World}{base:Nat}{spare:Nat->Bool}{held:Bool}{fuel:Nat}{cs:List Value}{p:List MemPlace}(h:DataW.trod enc prog w base spare held fuel 232 cs=some (Rows.laid_probecard_logic_fanins,p)):
  ∀i,i<32->cs[i]? =some (.int .i64 (ints[i]?.getD 0)):=by
 rw[laid_eq]at h;obtain⟨hl,hd,fuel',he⟩:=arr_trod Tryz.u232 h;rw[Tryz.c232]at hl;intro i hi;have hj:i / 2<(fan.map λx=>(DataW.agg [.lit (.int .i64 x.1),.lit (.int .i64 x.2)]:DataW H)).length:=by rw[hd];omega
 obtain⟨q,h1⟩:=he (i / 2) hj;rw[Tryz.c231,AP]at h1;obtain⟨_,h2,fuel2,h3⟩:=arr_trod Tryz.u231 h1;have hm:i%2<2:=Nat.mod_lt _ (by decide);obtain⟨q2,h4⟩:=h3 (i%2) (show i%2<2 from hm);rw[Tryz.c3,Nat.mul_one]at h4;have hj':i / 2<fan.length:=by simpa using hj
 have hs:∃s,([.lit (.int .i64 (fan[i / 2]'hj').1),.lit (.int .i64 (fan[i / 2]'hj').2)]:List (DataW H))[i%2]'(by simp;omega)=.lit (.int .i64 s)/\ints[i]?.getD 0=s:=by
  have hst:∀j (h:j<fan.length),ints[2*j]? =some fan[j].1/\ints[2*j+1]? =some fan[j].2:=(by unfold ints;decide);obtain⟨a1,a2⟩:=hst (i / 2) hj';rcases Nat.mod_two_eq_zero_or_one i with e|e
  ·refine⟨(fan[i / 2]'hj').1,by simp[e],?_⟩;have e2:ints[i]? =ints[2*(i / 2)]? :=congrArg (λz=>ints[z]?) (by omega);rw[e2,a1];rfl
  ·refine⟨(fan[i / 2]'hj').2,by simp[e],?_⟩;have e2:ints[i]? =ints[2*(i / 2)+1]? :=congrArg (λz=>ints[z]?) (by omega);rw[e2,a2];rfl
 obtain⟨s,hs1,hs2⟩:=hs;rw[hs1]at h4;have h5:=int_trod Tryz.u3 h4;rw[hs2];have h6:(((cs.drop (i / 2*2)).take 2).drop (i%2))[0]? =some (.int .i64 s):=by have:=congrArg (λl:List Value=>l[0]?) h5;simpa using this
 rw[C7,List.getElem?_take,AC (by omega),C7]at h6;have e3:i / 2*2+(i%2+0)=i:=by omega
 rw[e3]at h6;exact h6
def Tryz.gn : prog.globalNamed "probecard/logic.fanins" = some 0 := by kernel_rfl
def Tryz.gt:(prog.globals[0]?).map (·.type)=some 232:=by kernel_rfl
def var_row{W:World}{nm:String}{g:Nat}{cs:Array Value}(hg:prog.globalNamed nm=some g)(h:W.var? prog nm=some cs):∃e fr,W.heap[g]? =some (.cells cs e fr):=by
 unfold World.var? at h;rw[hg]at h;simp only[Option.bind_some]at h;split at h
 ·rename_i x y z e;simp only[Kn]at h;subst h;exact⟨_,_,e⟩
 ·cases h
abbrev laidV : List (String × DataW Unit) := [("probecard/logic.fanins",Rows.laid_probecard_logic_fanins)]
def gl_laid{W:World}(h:laidMet prog laidV W):XZ Qd W:=by
 unfold laidV at h;revert h;generalize hd:(Rows.laid_probecard_logic_fanins:DataW Unit)=d;intro h;obtain⟨ps,hL,_,_⟩:=h;obtain⟨g,t,cs,fuel,p,q,h1,h2,h3,h4,_,_⟩:=hL;rw[<-hd]at h4;obtain rfl:g=0:=(BA (Tryz.gn.symm.trans h1)).symm;obtain rfl:t=232:=(BA (Tryz.gt.symm.trans h2)).symm;have hc:=tab_cells h4;obtain⟨e,fr,hh⟩:=var_row Tryz.gn h3;intro g c x hg
 match g,hg with
 |0,hg=>
  have hx:c.trees x=ints.map (T.int .i64):=(by cases hg;rfl);rw[hx];refine .iptr _ 0 0 (λi=>.int .i64 (ints[i]?.getD 0)) (Jx 0) ⟨cs,e,fr,hh⟩ (λi hi=> ?_) (λi hi=> ?_)
  ·have hi:i<32:=(by have:ints.length=32:=rfl;rw[AE,this]at hi;exact hi);have:=hc i hi;simp only[World.cell?,AF,hh];simpa using this
  ·have hi':i<ints.length:=(by simpa using hi);simp only[AP,A4 hi',Aj];exact .int _ _
 |n+1,hg=>cases hg
end
section
open Go.ChangeShapes Go.WideShapes Go.ChangeAt Go.RowKit
def Tryz.own:ownKnob prog.godebug=none:=by kernel_rfl
def Tryz.laidOut:laidOutB prog=true:=by kernel_rfl
abbrev b8:Ly:=.int .u8
abbrev xL:Ly:=.pair b8 (.pair b8 (.pair (.pair b8 b8) (.pair .bool (.pair .bool (.pair (arL b8 3) (.pair (.sl (.pair b8 (arL b8 2))) (.sl b8)))))))
def xO:TyO prog xL 27:=Kd (n:=6) (by kernel_rfl)
def xS:∃fs,prog.underlying 27=some (.struct fs):=isSt_yes (by kernel_rfl)
abbrev zL:Ly:=.sl (.pair (.sl b8) (.sl b8))
def zO:TyO prog zL 28:=Kd (n:=6) (by kernel_rfl)
def zS:(∀fs,prog.underlying 28≠some (.struct fs))/\∀n e,prog.underlying 28≠some (.array n e):=isAg_no (by kernel_rfl)
def bO:TyO prog b8 5:=Kd (n:=5) (by kernel_rfl)
def bS:(∀fs,prog.underlying 5≠some (.struct fs))/\∀n e,prog.underlying 5≠some (.array n e):=isAg_no (by kernel_rfl)
noncomputable def laidWorld(os:Os):World:=
 let w0:=World.holding prog os ⟨#[],#[],[]⟩
 {w0 with heap:=w0.heap.modify 0 fun
   |.cells _ t frozen=>.cells (ints.map λs=>.int .i64 s).toArray t frozen
   |o=>o }
def laidWorld_met(os:Os)(args:Array Value):laidMet prog laidV ((laidWorld os).forCall (λ_ _=>0) ⟨#[],args,[]⟩).memory:=
 laidMet_of_run' 8 (by kernel_rfl) (by kernel_rfl)
end
