/- A part of the proof. -/
import Derived.Test.YtnmlmdlhhphcoaaER8QEx
import Derived.Test.YtnmlmdlhhphcoaaER8QEy
import Derived.Lib.IndexLaws
set_option linter.all false
namespace Go.Proofs.Ytnmlmdlhhphcoaa
open Go.Abs
namespace Cu
theorem w64{x:Int}(h: -9223372036854775808<=x)(h':x<=9223372036854775807):IntKind.i64.wrap x=x:=by simp[IntKind.wrap,IntKind.signed,IntKind.bits];omega
theorem QC{i n:Nat}(h:i<n):inR (i:Int) n=true:=by simp[inR];omega
theorem QY{α:Type}{l:List α}{i:Nat}(h:i<l.length)(d:α):l[(i:Int).toNat]?.getD d=l[i]:=by simp[h]
theorem suc{i:Nat}(h:i<9000000000000000000):IntKind.i64.wrap ((i:Int)+1)=((i+1:Nat):Int):=by rw[w64 (by omega) (by omega)];omega
def scan{A α Y:Type}(F:A->α->A⊕Y)(E:A->Y):A->List α->Y
 |a,[]=>E a
 |a,x::l=>match F a x with|.inl a'=>scan F E a' l|.inr y=>y
theorem QR{X Y A α:Type}{step:X->Option (X⊕Y)}(S:Nat->A->X)(l:List α)(F:A->α->A⊕Y)(E:A->Y)(I:Nat->A->Prop)
  (h:∀i (hi:i<l.length) a,I i a->step (S i a)=some (match F a l[i] with|.inl a'=>.inl (S (i+1) a')|.inr y=>.inr y))
  (hI:∀i (hi:i<l.length) a a',I i a->F a l[i]=.inl a'->I (i+1) a')
  (he:∀a,I l.length a->step (S l.length a)=some (.inr (E a))) (a:A) (ha:I 0 a):iter step (S 0 a)=some (scan F E a l):=by
 have:∀j i a,i+j=l.length->I i a->iter step (S i a)=some (scan F E a (l.drop i)):=by
  intro j
  induction j with
  |zero=>intro i a hi ha;have e:i=l.length:=(by omega);subst e;rw[iter_eq,he a ha,List.drop_length];rfl
  |succ j ih=>
   intro i a hi ha;have hil:i<l.length:=(by omega);rw[iter_eq,h i hil a ha,List.drop_eq_getElem_cons hil];unfold scan
   cases hF:F a l[i] with
   |inl a'=>exact ih (i+1) a' (by omega) (hI i hil a a' ha hF)
   |inr y=>rfl
 have h:=this l.length 0 a (by omega) ha;rwa [List.drop_zero]at h
theorem Zj{X Y α:Type}{step:X->Option (X⊕Y)}(S:Nat->X)(l:List α)(P:α->Bool)(Z:Nat->Y){y:Y}
  (h:∀i (hi:i<l.length),step (S i)=some (if P l[i]=true then .inr (Z i) else .inl (S (i+1)))) (he:step (S l.length)=some (.inr y)):
  (l.any P=true/\∃i:Nat,iter step (S 0)=some (Z i))\/(l.any P=false/\iter step (S 0)=some y):=by
 have:∀j i,i+j=l.length->((l.drop i).any P=true/\∃t:Nat,iter step (S i)=some (Z t))\/((l.drop i).any P=false/\iter step (S i)=some y):=by
  intro j
  induction j with
  |zero=>intro i hi;have e:i=l.length:=(by omega);subst e;exact .inr ⟨by rw[List.drop_length];rfl,by rw[iter_eq,he]⟩
  |succ j ih=>
   intro i hi;have hil:i<l.length:=(by omega);rw[List.drop_eq_getElem_cons hil,List.any_cons,iter_eq,h i hil]
   cases hP:P l[i] with
   |true=>exact .inl ⟨by simp,i,rfl⟩
   |false=>simp only[Bool.false_eq_true,if_false,Bool.false_or];exact ih (i+1) (by omega)
 have h:=this l.length 0 (by omega);rwa [List.drop_zero]at h
def vals(l:List Int):List Int:=l.map (λv=>Int.tmod v 3)
theorem m32{l:List Int}(hl:l.length<=1000000):M32.m ⟨l⟩=some (vals l):=by
 have key:=QR (step:=M32.s0) (λi (xs:List Int)=>⟨l,0,i,(i:Int),xs⟩) l (λxs v=>.inl (xs++[Int.tmod v 3])) (λxs=>⟨0,xs.length,xs⟩) (λi xs=>xs.length=i) (λi hi xs hx=>by
   have e1:((i:Int)<(l.length:Int)):=(by omega);have e2:(eqN 0 0&&eqN xs.length i&&Qz (i+1) 1)=true:=(by have h1:eqN xs.length i=true:=(by simp[eqN,hx]);have h2:Qz (i+1) 1=true:=(by simp[Qz,leB];omega);rw[h1,h2];rfl);unfold M32.s0;simp only[e1,QC hi,QY hi,e2,suc (show i<9000000000000000000 by omega),decide_true,cond_true]) (λi hi xs xs' hx hF=>by
   cases hF;show(xs++[_]).length=i+1;simp[show xs.length=i from hx]) (λxs hx=>by
   have hx:xs.length=l.length:=hx;unfold M32.s0;simp[hx]) [] rfl
 have key:iter M32.s0 ⟨l,0,0,0,[]⟩=_:=key;have hsc:∀(l xs:List Int),scan (λ(xs:List Int) (v:Int)=>(.inl (xs++[Int.tmod v 3]):List Int⊕M32.q0X)) (λxs=>⟨0,xs.length,xs⟩) xs l=⟨0,(xs++vals l).length,xs++vals l⟩:=by
  intro l
  induction l with
  |nil=>intro xs;simp[scan,vals]
  |cons v l ih=>intro xs;unfold scan;refine(ih _).trans ?_;simp[vals]
 rw[hsc,List.nil_append]at key;unfold M32.m;have e:leB (0+(vals l).length) (vals l).length=true:=by simp[leB]
 simp only[key,Q1,e,Bool.and_self,cond_true,List.drop_zero,List.take_length]
theorem m11{i s:List Int}(hi:i.length<=1000000)(hs:s.length<=1000000):M11.m ⟨i,s⟩=some (vals i,vals s):=by unfold M11.m;simp only[m32 hi,m32 hs,Q1]
def bad(l:List Int):Bool:=l.any λv=>decide (v>2)
def chk(i s:List Int):Int:=if i.length+s.length>16384 then 3 else if bad i=true\/bad s=true then 1 else 0
theorem m29{i s:List Int}(hi:i.length<=1000000)(hs:s.length<=1000000):M29.m ⟨i,s⟩=some (chk i s):=by
 have k0:=Zj (step:=M29.QL) (λk=>⟨(i.length:Int),(k:Int),0,i,s⟩) i (λv=>decide (v>2)) (λ_=>.inr ⟨1,i,s⟩) (y:=.inl ⟨0,i,s⟩) (λk hk=>by
  have e1:((k:Int)<(i.length:Int)):=(by omega);unfold M29.QL M29.sb0;simp only[e1,QC hk,QY hk,suc (show k<9000000000000000000 by omega),decide_true,cond_true,Q1];cases decide (i[k]>2)<;>rfl) (by unfold M29.QL;simp)
 have k1:=Zj (step:=M29.QK) (λk=>⟨(s.length:Int),(k:Int),0,i,s⟩) s (λv=>decide (v>2)) (λ_=>.inr ⟨1,i,s⟩) (y:=.inl ⟨0,i,s⟩) (λk hk=>by
  have e1:((k:Int)<(s.length:Int)):=(by omega);unfold M29.QK M29.sb0;simp only[e1,QC hk,QY hk,suc (show k<9000000000000000000 by omega),decide_true,cond_true,Q1];cases decide (s[k]>2)<;>rfl) (by unfold M29.QK;simp)
 have ew:IntKind.i64.wrap ((i.length:Int)+(s.length:Int))=((i.length+s.length:Nat):Int):=by rw[w64 (by omega) (by omega)];omega
 unfold M29.m chk M36.m;simp only[ew,Q1];by_cases hg:i.length+s.length>16384
 ·have:(((i.length+s.length:Nat):Int)>16384):=(by omega);simp only[this,decide_true,cond_true,hg,if_true]
 ·have:¬(((i.length+s.length:Nat):Int)>16384):=(by omega);simp only[this,decide_false,cond_false,hg,if_false];unfold M29.s0;rcases k0 with ⟨h1,t,h2⟩|⟨h1,h2⟩
  ·have h2:iter M29.QL ⟨(i.length:Int),0,0,i,s⟩=_:=h2;have hb:bad i=true:=h1;simp only[h2,Q1,Qn,hb,true_or,if_true]
  ·have h2:iter M29.QL ⟨(i.length:Int),0,0,i,s⟩=_:=h2;have hb:bad i=false:=h1;rcases k1 with ⟨h3,t,h4⟩|⟨h3,h4⟩
   ·have h4:iter M29.QK ⟨(s.length:Int),0,0,i,s⟩=_:=h4;have hb2:bad s=true:=h3;simp only[h2,h4,Q1,Qn,hb,hb2,or_true,if_true]
   ·have h4:iter M29.QK ⟨(s.length:Int),0,0,i,s⟩=_:=h4;have hb2:bad s=false:=h3;simp only[h2,h4,Q1,Qn,hb,hb2];rfl
end Cu
namespace Cu
def chk2(ai as_ bi bs:List Int):Int:=if chk ai as_≠0 then chk ai as_ else if chk bi bs≠0 then chk bi bs else if ai.length≠bi.length\/as_.length≠bs.length then 8 else 0
theorem m33{ai as_ bi bs:List Int}(h1:ai.length<=1000000)(h2:as_.length<=1000000)(h3:bi.length<=1000000)(h4:bs.length<=1000000):M33.m ⟨ai,as_,bi,bs⟩=some (chk2 ai as_ bi bs):=by
 have s0:M33.s0 ⟨[(ai,as_),(bi,bs)],2,0,ai,as_,bi,bs⟩=some (if chk ai as_≠0 then .inr (.inr ⟨chk ai as_⟩) else .inl ⟨[(ai,as_),(bi,bs)],2,1,ai,as_,bi,bs⟩):=by
  unfold M33.s0;simp only[m29 h1 h2,show decide ((0:Int)<2)=true from rfl,show inR 0 [(ai,as_),(bi,bs)].length=true from rfl,cond_true,Q1,show([(ai,as_),(bi,bs)]:List (List Int×List Int))[(0:Int).toNat]?.getD ([],[])=(ai,as_) from rfl];by_cases h:chk ai as_=0
  ·simp[h];rfl
  ·have hb:(chk ai as_ !=0)=true:=(by simpa using h);rw[hb,if_pos h];rfl
 have s1:M33.s0 ⟨[(ai,as_),(bi,bs)],2,1,ai,as_,bi,bs⟩=some (if chk bi bs≠0 then .inr (.inr ⟨chk bi bs⟩) else .inl ⟨[(ai,as_),(bi,bs)],2,2,ai,as_,bi,bs⟩):=by
  unfold M33.s0;simp only[m29 h3 h4,show decide ((1:Int)<2)=true from rfl,show inR 1 [(ai,as_),(bi,bs)].length=true from rfl,cond_true,Q1,show([(ai,as_),(bi,bs)]:List (List Int×List Int))[(1:Int).toNat]?.getD ([],[])=(bi,bs) from rfl];by_cases h:chk bi bs=0
  ·simp[h];rfl
  ·have hb:(chk bi bs !=0)=true:=(by simpa using h);rw[hb,if_pos h];rfl
 have s2:M33.s0 ⟨[(ai,as_),(bi,bs)],2,2,ai,as_,bi,bs⟩=some (.inr (.inl ⟨ai,as_,bi,bs⟩)):=by unfold M33.s0;simp
 unfold M33.m chk2;have key:iter M33.s0 ⟨[(ai,as_),(bi,bs)],2,0,ai,as_,bi,bs⟩=some (if chk ai as_≠0 then .inr ⟨chk ai as_⟩ else if chk bi bs≠0 then .inr ⟨chk bi bs⟩ else .inl ⟨ai,as_,bi,bs⟩):=by
  rw[iter_eq,s0];by_cases h:chk ai as_=0
  ·simp only[h,ne_eq,not_true,if_false];rw[iter_eq,s1];by_cases h':chk bi bs=0
   ·simp only[h',ne_eq,not_true,if_false];rw[iter_eq,s2]
   ·simp only[h',ne_eq,not_false_eq_true,if_true]
  ·simp only[h,ne_eq,not_false_eq_true,if_true]
 show Q1 (iter M33.s0 ⟨[(ai,as_),(bi,bs)],2,0,ai,as_,bi,bs⟩) _=_;rw[key];by_cases h:chk ai as_=0
 ·by_cases h':chk bi bs=0
  ·simp only[h,h',ne_eq,not_true,if_false,Q1,Qn];by_cases e1:ai.length=bi.length
   ·by_cases e2:as_.length=bs.length
    ·simp[e1,e2]
    ·have:((as_.length:Int) !=(bs.length:Int))=true:=(by simp;omega);simp[e1,e2,this]
   ·have:((ai.length:Int) !=(bi.length:Int))=true:=(by simp;omega);simp[e1,this]
  ·simp only[h,h',ne_eq,not_true,not_false_eq_true,if_true,if_false,Q1,Qn]
 ·simp only[h,ne_eq,not_false_eq_true,if_true,Q1,Qn]
theorem m35{i s:List Int}(hi:i.length<=1000000)(hs:s.length<=1000000):M35.m ⟨i,s⟩=some (i++s):=by
 have w1:IntKind.i64.wrap (0+(i.length:Int))=(i.length:Int):=by rw[w64 (by omega) (by omega)];omega
 have w2:IntKind.i64.wrap ((i.length:Int)+(s.length:Int))=((i.length+s.length:Nat):Int):=by rw[w64 (by omega) (by omega)];omega
 have n1:¬((i.length:Int)<0):=by omega
 have n2:¬(((i.length+s.length:Nat):Int)<0):=by omega
 have a0:M49.s0 ⟨[i,s],0,[i,s],2,0⟩=some (.inl ⟨[i,s],(i.length:Int),[i,s],2,1⟩):=by unfold M49.s0;simp only[show decide ((0:Int)<2)=true from rfl,show inR 0 [i,s].length=true from rfl,cond_true,show([i,s]:List (List Int))[(0:Int).toNat]?.getD []=i from rfl,w1,n1,decide_false,cond_false];rfl
 have a1:M49.s0 ⟨[i,s],(i.length:Int),[i,s],2,1⟩=some (.inl ⟨[i,s],((i.length+s.length:Nat):Int),[i,s],2,2⟩):=by unfold M49.s0;simp only[show decide ((1:Int)<2)=true from rfl,show inR 1 [i,s].length=true from rfl,cond_true,show([i,s]:List (List Int))[(1:Int).toNat]?.getD []=s from rfl,w2,n2,decide_false,cond_false];rfl
 have a2:M49.s0 ⟨[i,s],((i.length+s.length:Nat):Int),[i,s],2,2⟩=some (.inr ⟨[i,s],((i.length+s.length:Nat):Int)⟩):=by unfold M49.s0;simp
 have k0:iter M49.s0 ⟨[i,s],0,[i,s],(([i,s]:List (List Int)).length:Int),0⟩=some ⟨[i,s],((i.length+s.length:Nat):Int)⟩:=by show iter M49.s0 ⟨[i,s],0,[i,s],2,0⟩=_;rw[iter_eq,a0];show iter M49.s0 _=_;rw[iter_eq,a1];show iter M49.s0 _=_;rw[iter_eq,a2]
 have r1:(eqN 0 0&&eqN ([]:List Int).length 0&&Qz (0+i.length) 1)=true:=by have:Qz (0+i.length) 1=true:=(by simp[Qz,leB];omega);rw[this];rfl
 have r2:(eqN 0 0&&eqN ([]++i).length (0+i.length)&&Qz (0+i.length+s.length) 1)=true:=by have h1:Qz (0+i.length+s.length) 1=true:=(by simp[Qz,leB];omega);have h2:eqN ([]++i).length (0+i.length)=true:=(by simp[eqN]);rw[h1,h2];rfl
 have b0:M49.s1 ⟨0,0,[i,s],2,0,[]⟩=some (.inl ⟨0,0+i.length,[i,s],2,1,[]++i⟩):=by unfold M49.s1;simp only[show decide ((0:Int)<2)=true from rfl,show inR 0 [i,s].length=true from rfl,cond_true,show([i,s]:List (List Int))[(0:Int).toNat]?.getD []=i from rfl,r1];rfl
 have b1:M49.s1 ⟨0,0+i.length,[i,s],2,1,[]++i⟩=some (.inl ⟨0,0+i.length+s.length,[i,s],2,2,[]++i++s⟩):=by unfold M49.s1;simp only[show decide ((1:Int)<2)=true from rfl,show inR 1 [i,s].length=true from rfl,cond_true,show([i,s]:List (List Int))[(1:Int).toNat]?.getD []=s from rfl,r2];rfl
 have b2:M49.s1 ⟨0,0+i.length+s.length,[i,s],2,2,[]++i++s⟩=some (.inr ⟨0,0+i.length+s.length,[]++i++s⟩):=by unfold M49.s1;simp
 have k1:iter M49.s1 ⟨0,0,[i,s],(([i,s]:List (List Int)).length:Int),0,[]⟩=some ⟨0,0+i.length+s.length,[]++i++s⟩:=by show iter M49.s1 ⟨0,0,[i,s],2,0,[]⟩=_;rw[iter_eq,b0];show iter M49.s1 _=_;rw[iter_eq,b1];show iter M49.s1 _=_;rw[iter_eq,b2]
 have g:(decide ((0:Int)<=((i.length+s.length:Nat):Int))&&decide (((i.length+s.length:Nat):Int)<=1000000000))=true:=by simp;omega
 unfold M35.m M49.m M55.m;simp only[k0,Q1,g,cond_true,k1];have e:leB (0+(0+i.length+s.length)) ([]++i++s).length=true:=by simp[leB]
 rw[e];simp only[Bool.and_self,cond_true,List.drop_zero,List.nil_append,Nat.zero_add,Option.some.injEq];exact List.take_of_length_le (by simp)
end Cu
namespace Cu
def cnt(f:Int->Int->Bool)(xs ys:List Int):Nat:=(xs.zip ys).countP λp=>f p.1 p.2
def fc(x y:Int):Bool:=bif x !=2 then x !=y else false
def fd(x y:Int):Bool:=IntKind.u8.wrap (x+y)==1
theorem m38(x y:Int):M38.m ⟨x,y⟩=some (fc x y):=rfl
theorem m39(x y:Int):M39.m ⟨x,y⟩=some (fd x y):=rfl
theorem Ku{Y:Type}(f:Int->Int->Bool)(E:Nat->Y):∀(zs:List (Int×Int)) (n:Nat),scan (λ(n:Nat) (p:Int×Int)=>(.inl (if f p.1 p.2=true then n+1 else n):Nat⊕Y)) E n zs=E (n+zs.countP λp=>f p.1 p.2)
 |[],n=>by simp[scan]
 |p::zs,n=>by unfold scan;refine(Ku f E zs _).trans ?_;rw[List.countP_cons];congr 1;cases f p.1 p.2<;>simp<;>omega
theorem M37c_run{ai as_ bi bs:List Int}(h1:ai.length<=1000000)(h2:as_.length<=1000000)(h3:bi.length<=1000000)(h4:bs.length<=1000000):
  M37c.m ⟨ai,as_,bi,bs⟩=some (if chk2 ai as_ bi bs≠0 then -1 else ((cnt fc ai bi+cnt fc as_ bs:Nat):Int)):=by
 unfold M37c.m;simp only[m33 h1 h2 h3 h4,Q1];by_cases hc:chk2 ai as_ bi bs=0
 ·have hlen:ai.length=bi.length/\as_.length=bs.length:=by
   unfold chk2 at hc;split at hc
   ·contradiction
   ·split at hc
    ·contradiction
    ·split at hc
     ·cases hc
     ·omega
  have hb:(chk2 ai as_ bi bs !=0)=false:=(by simp[hc]);simp only[hb,cond_false,m35 h3 h4,Q1,hc,ne_eq,not_true,if_false];unfold M36.m;simp only[Q1];unfold M37c.s0;generalize hl:bi++bs=l;have hll:l.length=ai.length+as_.length:=(by rw[<-hl,List.length_append];omega);have z1:(ai.zip l).length=ai.length:=(by rw[List.length_zip];omega);have z2:(as_.zip (l.drop ai.length)).length=as_.length:=(by rw[List.length_zip,List.length_drop];omega);have k0:=QR (step:=M37c.QL) (λi (n:Nat)=>⟨(ai.length:Int),(i:Int),(n:Int),l,ai,as_⟩) (ai.zip l) (λ(n:Nat) (p:Int×Int)=>.inl (if fc p.1 p.2=true then n+1 else n)) (λn=>⟨(n:Int),l,ai,as_⟩) (λi n=>n<=i) (λi hi n hn=>by
   have hia:i<ai.length:=(by omega);have hil:i<l.length:=(by omega);have e1:((i:Int)<(ai.length:Int)):=(by omega);have hn:n<=i:=hn;unfold M37c.QL M37c.sb0;simp only[m38,e1,QC hia,QC hil,QY hia,QY hil,suc (show i<9000000000000000000 by omega),suc (show n<9000000000000000000 by omega),decide_true,cond_true,Q1,List.getElem_zip];cases fc ai[i] l[i]<;>rfl) (λi hi n n' hn hF=>by
   have hn:n<=i:=hn;cases hF;show(if _ then n+1 else n)<=i+1;split
   ·exact Nat.succ_le_succ hn
   ·exact Nat.le_succ_of_le hn) (λn _=>by
   unfold M37c.QL;simp[z1]) 0 (Nat.zero_le _)
  have k0:iter M37c.QL ⟨(ai.length:Int),0,0,l,ai,as_⟩=_:=k0;rw[Ku,Nat.zero_add]at k0;have c0:(ai.zip l).countP (λp=>fc p.1 p.2)<=1000000:=(by have:=List.countP_le_length (p:=λp:Int×Int=>fc p.1 p.2) (l:=ai.zip l);omega);have k1:=QR (step:=M37c.QK) (λi (n:Nat)=>⟨(as_.length:Int),(i:Int),(n:Int),l,ai,as_⟩) (as_.zip (l.drop ai.length)) (λ(n:Nat) (p:Int×Int)=>.inl (if fc p.1 p.2=true then n+1 else n)) (λn=>⟨(n:Int),l,ai,as_⟩) (λi n=>n<=1000000+i) (λi hi n hn=>by
   have hia:i<as_.length:=(by omega);have hil:ai.length+i<l.length:=(by omega);have e1:((i:Int)<(as_.length:Int)):=(by omega);have hn:n<=1000000+i:=hn;have ew:IntKind.i64.wrap ((ai.length:Int)+(i:Int))=((ai.length+i:Nat):Int):=(by rw[w64 (by omega) (by omega)];omega);unfold M37c.QK M37c.sb0;simp only[m38,e1,ew,QC hia,QC hil,QY hia,QY hil,suc (show i<9000000000000000000 by omega),suc (show n<9000000000000000000 by omega),decide_true,cond_true,Q1,List.getElem_zip,List.getElem_drop];cases fc as_[i] l[ai.length+i]<;>rfl) (λi hi n n' hn hF=>by
   have hn:n<=1000000+i:=hn;cases hF;show(if _ then n+1 else n)<=1000000+(i+1);split
   ·exact Nat.succ_le_succ hn
   ·exact Nat.le_succ_of_le hn) (λn _=>by
   unfold M37c.QK;simp[z2]) ((ai.zip l).countP λp=>fc p.1 p.2) (by omega)
  have k1:iter M37c.QK ⟨(as_.length:Int),0,(((ai.zip l).countP λp=>fc p.1 p.2:Nat):Int),l,ai,as_⟩=_:=k1;rw[Ku]at k1;simp only[k0,k1,Q1];have e1:ai.zip l=ai.zip bi:=(by rw[<-hl];have:=List.zip_append (l₁:=ai) (l₂:=bi) (r₁:=[]) (r₂:=bs) hlen.1;simpa using this);have e2:l.drop ai.length=bs:=(by rw[<-hl,hlen.1,List.drop_left]);rw[e1,e2];rfl
 ·have hb:(chk2 ai as_ bi bs !=0)=true:=(by simpa using hc);simp only[hb,cond_true,hc,ne_eq,not_false_eq_true,if_true]
theorem M37d_run{ai as_ bi bs:List Int}(h1:ai.length<=1000000)(h2:as_.length<=1000000)(h3:bi.length<=1000000)(h4:bs.length<=1000000):
  M37d.m ⟨ai,as_,bi,bs⟩=some (if chk2 ai as_ bi bs≠0 then -1 else ((cnt fd ai bi+cnt fd as_ bs:Nat):Int)):=by
 unfold M37d.m;simp only[m33 h1 h2 h3 h4,Q1];by_cases hc:chk2 ai as_ bi bs=0
 ·have hlen:ai.length=bi.length/\as_.length=bs.length:=by
   unfold chk2 at hc;split at hc
   ·contradiction
   ·split at hc
    ·contradiction
    ·split at hc
     ·cases hc
     ·omega
  have hb:(chk2 ai as_ bi bs !=0)=false:=(by simp[hc]);simp only[hb,cond_false,m35 h3 h4,Q1,hc,ne_eq,not_true,if_false];unfold M36.m;simp only[Q1];unfold M37d.s0;generalize hl:bi++bs=l;have hll:l.length=ai.length+as_.length:=(by rw[<-hl,List.length_append];omega);have z1:(ai.zip l).length=ai.length:=(by rw[List.length_zip];omega);have z2:(as_.zip (l.drop ai.length)).length=as_.length:=(by rw[List.length_zip,List.length_drop];omega);have k0:=QR (step:=M37d.QL) (λi (n:Nat)=>⟨(ai.length:Int),(i:Int),(n:Int),l,ai,as_⟩) (ai.zip l) (λ(n:Nat) (p:Int×Int)=>.inl (if fd p.1 p.2=true then n+1 else n)) (λn=>⟨(n:Int),l,ai,as_⟩) (λi n=>n<=i) (λi hi n hn=>by
   have hia:i<ai.length:=(by omega);have hil:i<l.length:=(by omega);have e1:((i:Int)<(ai.length:Int)):=(by omega);have hn:n<=i:=hn;unfold M37d.QL M37d.sb0;simp only[m39,e1,QC hia,QC hil,QY hia,QY hil,suc (show i<9000000000000000000 by omega),suc (show n<9000000000000000000 by omega),decide_true,cond_true,Q1,List.getElem_zip];cases fd ai[i] l[i]<;>rfl) (λi hi n n' hn hF=>by
   have hn:n<=i:=hn;cases hF;show(if _ then n+1 else n)<=i+1;split
   ·exact Nat.succ_le_succ hn
   ·exact Nat.le_succ_of_le hn) (λn _=>by
   unfold M37d.QL;simp[z1]) 0 (Nat.zero_le _)
  have k0:iter M37d.QL ⟨(ai.length:Int),0,0,l,ai,as_⟩=_:=k0;rw[Ku,Nat.zero_add]at k0;have c0:(ai.zip l).countP (λp=>fd p.1 p.2)<=1000000:=(by have:=List.countP_le_length (p:=λp:Int×Int=>fd p.1 p.2) (l:=ai.zip l);omega);have k1:=QR (step:=M37d.QK) (λi (n:Nat)=>⟨(as_.length:Int),(i:Int),(n:Int),l,ai,as_⟩) (as_.zip (l.drop ai.length)) (λ(n:Nat) (p:Int×Int)=>.inl (if fd p.1 p.2=true then n+1 else n)) (λn=>⟨(n:Int),l,ai,as_⟩) (λi n=>n<=1000000+i) (λi hi n hn=>by
   have hia:i<as_.length:=(by omega);have hil:ai.length+i<l.length:=(by omega);have e1:((i:Int)<(as_.length:Int)):=(by omega);have hn:n<=1000000+i:=hn;have ew:IntKind.i64.wrap ((ai.length:Int)+(i:Int))=((ai.length+i:Nat):Int):=(by rw[w64 (by omega) (by omega)];omega);unfold M37d.QK M37d.sb0;simp only[m39,e1,ew,QC hia,QC hil,QY hia,QY hil,suc (show i<9000000000000000000 by omega),suc (show n<9000000000000000000 by omega),decide_true,cond_true,Q1,List.getElem_zip,List.getElem_drop];cases fd as_[i] l[ai.length+i]<;>rfl) (λi hi n n' hn hF=>by
   have hn:n<=1000000+i:=hn;cases hF;show(if _ then n+1 else n)<=1000000+(i+1);split
   ·exact Nat.succ_le_succ hn
   ·exact Nat.le_succ_of_le hn) (λn _=>by
   unfold M37d.QK;simp[z2]) ((ai.zip l).countP λp=>fd p.1 p.2) (by omega)
  have k1:iter M37d.QK ⟨(as_.length:Int),0,(((ai.zip l).countP λp=>fd p.1 p.2:Nat):Int),l,ai,as_⟩=_:=k1;rw[Ku]at k1;simp only[k0,k1,Q1];have e1:ai.zip l=ai.zip bi:=(by rw[<-hl];have:=List.zip_append (l₁:=ai) (l₂:=bi) (r₁:=[]) (r₂:=bs) hlen.1;simpa using this);have e2:l.drop ai.length=bs:=(by rw[<-hl,hlen.1,List.drop_left]);rw[e1,e2];rfl
 ·have hb:(chk2 ai as_ bi bs !=0)=true:=(by simpa using hc);simp only[hb,cond_true,hc,ne_eq,not_false_eq_true,if_true]
theorem m18{ai as_ bi bs:List Int}(h1:ai.length<=1000000)(h2:as_.length<=1000000)(h3:bi.length<=1000000)(h4:bs.length<=1000000):
  M18.m ⟨ai,as_,bi,bs⟩=some (if chk2 ai as_ bi bs≠0 then -1 else ((cnt fd ai bi+cnt fd as_ bs:Nat):Int)):=by
 unfold M18.m;simp only[M37d_run h1 h2 h3 h4,Q1]
def comp(ai as_ bi bs:List Int):Bool:=decide (chk2 ai as_ bi bs=0/\cnt fd ai bi+cnt fd as_ bs=0)
def Jr(ai as_ bi bs:List Int):Bool:=decide (chk2 ai as_ bi bs=0/\cnt fc ai bi+cnt fc as_ bs=0)
theorem eq0{c:Int}{n:Nat}:((if c≠0 then (-1:Int) else (n:Int))==0)=decide (c=0/\n=0):=by
 by_cases h:c=0
 ·subst h;by_cases hn:n=0
  ·subst hn;rfl
  ·have:((n:Int)==0)=false:=(by simp only[beq_eq_false_iff_ne,ne_eq];omega);simp[hn]
 ·simp[h]
theorem m16{ai as_ bi bs:List Int}(h1:ai.length<=1000000)(h2:as_.length<=1000000)(h3:bi.length<=1000000)(h4:bs.length<=1000000):M16.m ⟨ai,as_,bi,bs⟩=some (comp ai as_ bi bs):=by unfold M16.m comp;simp only[m18 h1 h2 h3 h4,Q1,eq0]
theorem m17{ai as_ bi bs:List Int}(h1:ai.length<=1000000)(h2:as_.length<=1000000)(h3:bi.length<=1000000)(h4:bs.length<=1000000):M17.m ⟨ai,as_,bi,bs⟩=some (Jr ai as_ bi bs):=by unfold M17.m Jr;simp only[M37c_run h1 h2 h3 h4,Q1,eq0]
end Cu
namespace Cu
theorem m34{i s:List Int}(hi:i.length<=1000000)(hs:s.length<=1000000):M34.m ⟨i,s⟩=some (0,i.length,i.length,0,s.length,s.length,i,s):=by
 have e:∀l:List Int,l.length<=1000000->(decide (0<=(l.length:Int))&&decide ((l.length:Int)*1<=281474976710656)&&decide ((l.length:Int)<=9223372036854775807))=true:=λl hl=>by simp;omega
 have e2:∀l:List Int,(leB l.length l.length&&leB l.length (List.replicate l.length (0:Int)).length)=true:=λl=>by simp[leB]
 have e3:∀l:List Int,List.take 0 (List.replicate l.length (0:Int))++l++List.drop l.length (List.replicate l.length (0:Int))=l:=λl=>by rw[List.take_zero,List.nil_append,List.drop_eq_nil_of_le (by simp),List.append_nil]
 unfold M34.m;have k1:=e i hi;have k2:=e s hs;simp only[Nat.zero_add,Int.toNat_natCast,Int.ofNat_one,Int.natCast_one,k1,k2,e2,e3,cond_true]
def mn(x y:Int):Int:=if y<x then y else x
def upd(xs l:List Int)(i:Nat):List Int:=(List.zipWith mn xs l).take i++xs.drop i
theorem qo{xs l:List Int}{i:Nat}(hl:xs.length<=l.length)(hi:i<=xs.length):(upd xs l i).length=xs.length:=by unfold upd;rw[List.length_append,List.length_take,List.length_zipWith,List.length_drop];omega
theorem upd_at{xs l:List Int}{i:Nat}(hl:xs.length<=l.length)(hi:i<xs.length):(upd xs l i)[i]?.getD 0=xs[i]:=by unfold upd;rw[List.getElem?_append_right (by rw[List.length_take];omega),List.length_take,List.length_zipWith,List.getElem?_drop];rw[show i+(i - min i (min xs.length l.length))=i by omega,List.getElem?_eq_getElem hi];rfl
theorem upd_step{xs l:List Int}{i:Nat}(hl:xs.length<=l.length)(hi:i<xs.length):(upd xs l i).set i (mn xs[i] (l[i]'(by omega)))=upd xs l (i+1):=by
 have hz:i<(List.zipWith mn xs l).length:=by rw[List.length_zipWith];omega
 unfold upd;rw[List.set_append_right _ _ (by rw[List.length_take];omega),List.length_take,List.drop_eq_getElem_cons hi,List.take_succ_eq_append_getElem hz,show i - min i (List.zipWith mn xs l).length=0 by omega,List.set_cons_zero,List.getElem_zipWith,List.append_assoc];rfl
theorem upd_end{xs l:List Int}(hl:xs.length<=l.length):upd xs l xs.length=List.zipWith mn xs l:=by unfold upd;rw[List.drop_length,List.append_nil,List.take_of_length_le (by rw[List.length_zipWith];omega)]
theorem upd_0(xs l:List Int):upd xs l 0=xs:=by simp[upd]
theorem JK{Y:Type}(E:Unit->Y):∀(l:List Int),scan (λ(_:Unit) (_:Int)=>(.inl ():Unit⊕Y)) E () l=E ()
 |[]=>rfl
 |_::l=>by unfold scan;exact JK E l
theorem m13{ai as_ bi bs:List Int}(h1:ai.length<=1000000)(h2:as_.length<=1000000)(h3:bi.length<=1000000)(h4:bs.length<=1000000):
  M13.m ⟨ai,as_,bi,bs⟩=some (if chk2 ai as_ bi bs≠0 then ([],[],chk2 ai as_ bi bs) else if comp ai as_ bi bs=true then (List.zipWith mn ai bi,List.zipWith mn as_ bs,0) else ([],[],9)):=by
 unfold M13.m;simp only[m33 h1 h2 h3 h4,m16 h1 h2 h3 h4,m34 h1 h2,m35 h3 h4,Q1];by_cases hc:chk2 ai as_ bi bs=0
 ·have hlen:ai.length=bi.length/\as_.length=bs.length:=by
   unfold chk2 at hc;split at hc
   ·contradiction
   ·split at hc
    ·contradiction
    ·split at hc
     ·cases hc
     ·omega
  have hb:(chk2 ai as_ bi bs !=0)=false:=(by simp[hc]);simp only[hb,cond_false,hc,ne_eq,not_true,if_false]
  cases hk:comp ai as_ bi bs with
  |false=>rfl
  |true=>
   simp only[Bool.not_true,cond_false,if_true];unfold M36o.m;simp only[Q1];unfold M13.s0;generalize hl:bi++bs=l;have hll:l.length=ai.length+as_.length:=(by rw[<-hl,List.length_append];omega);have k0:=QR (step:=M13.QL) (λi (_:Unit)=>⟨(ai.length:Int),(i:Int),upd ai l i,as_,0,ai.length,ai.length,0,as_.length,as_.length,l,0,ai.length,ai.length,0,as_.length,as_.length⟩) ai (λ_ _=>.inl ()) (λ_=>⟨upd ai l ai.length,as_,0,ai.length,ai.length,0,as_.length,as_.length,l,0,ai.length,ai.length,0,as_.length,as_.length⟩) (λ_ _=>True) (λi hi _ _=>by
    have hil:i<l.length:=(by omega);have e1:((i:Int)<(ai.length:Int)):=(by omega);have e2:i<(upd ai l i).length:=(by rw[qo (by omega) (by omega)];omega);have e3:l[i]?.getD 0=l[i]:=(by simp[hil]);unfold M13.QL M13.Xo;simp only[e1,QC hi,QC hil,QY hil,suc (show i<9000000000000000000 by omega),Int.toNat_natCast,e3,decide_true,cond_true,Q1,Nat.zero_add,e2,upd_at (show ai.length<=l.length by omega) hi];rw[<-upd_step (show ai.length<=l.length by omega) hi];rfl) (λ_ _ _ _ _ _=>trivial) (λ_ _=>by
    unfold M13.QL;simp) () trivial
   rw[JK,upd_end (show ai.length<=l.length by omega)]at k0;simp only[upd_0]at k0;have k0:iter M13.QL ⟨(ai.length:Int),0,ai,as_,0,ai.length,ai.length,0,as_.length,as_.length,l,0,ai.length,ai.length,0,as_.length,as_.length⟩=_:=k0;generalize hz:List.zipWith mn ai l=zi at k0;have hd:as_.length<=(l.drop ai.length).length:=(by rw[List.length_drop];omega);have k1:=QR (step:=M13.QK) (λi (_:Unit)=>⟨(as_.length:Int),(i:Int),zi,upd as_ (l.drop ai.length) i,0,ai.length,ai.length,0,as_.length,as_.length,l,0,ai.length,ai.length,0,as_.length,as_.length⟩) as_ (λ_ _=>.inl ()) (λ_=>⟨zi,upd as_ (l.drop ai.length) as_.length,0,ai.length,ai.length,0,as_.length,as_.length,l,0,ai.length,ai.length,0,as_.length,as_.length⟩) (λ_ _=>True) (λi hi _ _=>by
    have hil:ai.length+i<l.length:=(by omega);have e1:((i:Int)<(as_.length:Int)):=(by omega);have ew:IntKind.i64.wrap ((ai.length:Int)+(i:Int))=((ai.length+i:Nat):Int):=(by rw[w64 (by omega) (by omega)];omega);have e2:i<(upd as_ (l.drop ai.length) i).length:=(by rw[qo hd (by omega)];omega);have e3:l[ai.length+i]?.getD 0=(l.drop ai.length)[i]'(by omega):=(by simp[hil]);unfold M13.QK M13.Xn;simp only[e1,ew,QC hi,QC hil,suc (show i<9000000000000000000 by omega),Int.toNat_natCast,e3,decide_true,cond_true,Q1,Nat.zero_add,e2,upd_at hd hi];rw[<-upd_step hd hi];rfl) (λ_ _ _ _ _ _=>trivial) (λ_ _=>by
    unfold M13.QK;simp) () trivial
   rw[JK,upd_end hd]at k1;simp only[upd_0]at k1;have k1:iter M13.QK ⟨(as_.length:Int),0,zi,as_,0,ai.length,ai.length,0,as_.length,as_.length,l,0,ai.length,ai.length,0,as_.length,as_.length⟩=_:=k1;simp only[k0,k1,Q1];have ez1:zi=List.zipWith mn ai bi:=(by rw[<-hz,<-hl];have:=List.zipWith_append (f:=mn) (l₁:=ai) (l₂:=bi) (l₁':=[]) (l₂':=bs) hlen.1;simpa using this);have ez2:l.drop ai.length=bs:=(by rw[<-hl,hlen.1,List.drop_left]);have g1:leB (0+ai.length) zi.length=true:=(by rw[ez1];simp[leB,List.length_zipWith];omega);have g2:leB (0+as_.length) (List.zipWith mn as_ bs).length=true:=(by simp[leB,List.length_zipWith];omega);rw[ez2];simp only[g1,g2,Bool.and_self,cond_true,List.drop_zero];rw[List.take_of_length_le (by rw[ez1,List.length_zipWith];omega),List.take_of_length_le (by rw[List.length_zipWith];omega),ez1];rfl
 ·have hb:(chk2 ai as_ bi bs !=0)=true:=(by simpa using hc);simp only[hb,cond_true,hc,ne_eq,not_false_eq_true,if_true]
end Cu
namespace Cu
theorem eq_zip:∀{s t:List Int},s.length=t.length->(((s.zip t).any λp=>p.1 !=p.2)=false↔s=t)
 |[],[],_=>by simp
 |[],_::_,h=>by simp at h
 |_::_,[],h=>by simp at h
 |x::s,y::t,h=>by have ih:=eq_zip (s:=s) (t:=t) (by simpa using h);rw[List.zip_cons_cons,List.any_cons,Bool.or_eq_false_iff,ih];simp
theorem m44{s t:List Int}(hs:s.length<=1000000)(ht:t.length<=1000000):M44.m ⟨s,t⟩=some (decide (s=t)):=by
 unfold M44.m;by_cases hl:s.length=t.length
 ·have hb:((s.length:Int) !=(t.length:Int))=false:=(by simp[hl]);simp only[hb,cond_false];have hz:(s.zip t).length=s.length:=(by rw[List.length_zip];omega);have key:=Zj (step:=M44.s0) (λk=>⟨s,t,(s.length:Int),(k:Int)⟩) (s.zip t) (λp=>p.1 !=p.2) (λ_=>.inr ⟨false⟩) (y:=.inl ⟨⟩) (λk hk=>by
   have hks:k<s.length:=(by omega);have hkt:k<t.length:=(by omega);have e1:((k:Int)<(s.length:Int)):=(by omega);unfold M44.s0;simp only[e1,QC hks,QC hkt,QY hks,QY hkt,suc (show k<9000000000000000000 by omega),decide_true,cond_true,List.getElem_zip];cases (s[k] !=t[k])<;>rfl) (by unfold M44.s0;simp[hz])
  rcases key with ⟨h1,i,h2⟩|⟨h1,h2⟩
  ·have h2:iter M44.s0 ⟨s,t,(s.length:Int),0⟩=_:=h2;have hne:s≠t:=λe=>(by have:=(eq_zip hl).2 e;rw[this]at h1;cases h1);simp only[h2,Q1,Qn,hne,decide_false]
  ·have h2:iter M44.s0 ⟨s,t,(s.length:Int),0⟩=_:=h2;have he:s=t:=(eq_zip hl).1 h1;simp only[h2,Q1,Qn];simp[he]
 ·have hb:((s.length:Int) !=(t.length:Int))=true:=(by simp;omega);have hne:s≠t:=λe=>hl (by rw[e]);simp only[hb,cond_true,hne,decide_false]
theorem m25{ai as_ bi bs:List Int}(h1:ai.length<=1000000)(h2:as_.length<=1000000)(h3:bi.length<=1000000)(h4:bs.length<=1000000):M25.m ⟨ai,as_,bi,bs⟩=some (decide (ai=bi/\as_=bs)):=by
 unfold M25.m;simp only[m44 h1 h3,m44 h2 h4,Q1];by_cases e1:ai=bi
 ·by_cases e2:as_=bs
  ·simp[e1,e2]
  ·simp[e1,e2]
 ·simp[e1]
end Cu
namespace Cu
def shp(n:Nat)(q:List Int):List Int:=(List.range n).map λk=>q[k]?.getD 2
theorem Qs(n:Nat)(q:List Int):(shp n q).length=n:=by simp[shp]
theorem shp_succ(n:Nat)(q:List Int):shp (n+1) q=shp n q++[q[n]?.getD 2]:=by simp[shp,List.range_succ]
theorem m12{pi ps qi qs:List Int}(h1:pi.length<=1000000)(h2:ps.length<=1000000):M12.m ⟨pi,ps,qi,qs⟩=some (shp pi.length qi,shp ps.length qs):=by
 have el:∀(q:List Int) (i:Nat),i<1000000->(bif decide ((i:Int)<(q.length:Int)) then q[(i:Int).toNat]?.getD 0 else 2)=q[i]?.getD 2:=λq i _=>by
  by_cases h:i<q.length
  ·have:((i:Int)<(q.length:Int)):=(by omega);simp[h]
  ·have:¬((i:Int)<(q.length:Int)):=(by omega);simp[this,List.getElem?_eq_none (show q.length<=i by omega)]
 have gd:∀(q:List Int) (i:Nat),(bif bif inR (i:Int) q.length&&true then true else bif decide ((i:Int)<(q.length:Int)) then false else true then true else false)=true:=λq i=>by
  by_cases h:i<q.length
  ·simp[QC h]
  ·have:¬((i:Int)<(q.length:Int)):=(by omega);simp[this]
 have gd':∀(q:List Int) (i:Nat),(bif inR (i:Int) q.length&&true then true else bif decide ((i:Int)<(q.length:Int)) then false else true)=true:=λq i=>by
  by_cases h:i<q.length
  ·simp[QC h]
  ·have:¬((i:Int)<(q.length:Int)):=(by omega);simp[this]
 have rm:∀(q:List Int) (i:Nat),i<1000000->(eqN 0 0&&eqN (shp i q).length i&&Qz (i+1) 1)=true:=λq i hi=>by have a:eqN (shp i q).length i=true:=(by simp[eqN,Qs]);have b:Qz (i+1) 1=true:=(by simp[Qz,leB];omega);rw[a,b];rfl
 have k0:=QR (step:=M12.s0) (λi (_:Unit)=>⟨(i:Int),pi,ps,qi,qs,0,i,shp i qi⟩) pi (λ_ _=>.inl ()) (λ_=>⟨pi,ps,qi,qs,0,pi.length,shp pi.length qi⟩) (λ_ _=>True) (λi hi _ _=>by
  have e1:((i:Int)<(pi.length:Int)):=(by omega);unfold M12.s0;simp only[e1,gd',rm qi i (by omega),el qi i (by omega),suc (show i<9000000000000000000 by omega),decide_true,cond_true,shp_succ]) (λ_ _ _ _ _ _=>trivial) (λ_ _=>by unfold M12.s0;simp) () trivial
 have k1:=QR (step:=M12.s1) (λi (_:Unit)=>⟨(i:Int),pi,ps,qi,qs,0,pi.length,0,i,shp pi.length qi,shp i qs⟩) ps (λ_ _=>.inl ()) (λ_=>⟨pi,ps,qi,qs,0,pi.length,0,ps.length,shp pi.length qi,shp ps.length qs⟩) (λ_ _=>True) (λi hi _ _=>by
  have e1:((i:Int)<(ps.length:Int)):=(by omega);unfold M12.s1;simp only[e1,gd',rm qs i (by omega),el qs i (by omega),suc (show i<9000000000000000000 by omega),decide_true,cond_true,shp_succ]) (λ_ _ _ _ _ _=>trivial) (λ_ _=>by unfold M12.s1;simp) () trivial
 rw[JK]at k0 k1;have k0:iter M12.s0 ⟨0,pi,ps,qi,qs,0,0,[]⟩=_:=k0;have k1:iter M12.s1 ⟨0,pi,ps,qi,qs,0,pi.length,0,0,shp pi.length qi,[]⟩=_:=k1;unfold M12.m;simp only[k0,k1,Q1];have g1:leB (0+pi.length) (shp pi.length qi).length=true:=by simp[leB,Qs]
 have g2:leB (0+ps.length) (shp ps.length qs).length=true:=by simp[leB,Qs]
 simp only[g1,g2,Bool.and_self,cond_true,List.drop_zero];rw[List.take_of_length_le (by rw[Qs];omega),List.take_of_length_le (by rw[Qs];omega)]
end Cu
namespace Cu
def bigP(most:Int)(p:List Int×List Int):Bool:=bif bif decide ((p.1.length:Int)>most) then true else decide ((p.2.length:Int)>most) then true else decide (IntKind.i64.wrap ((p.1.length:Int)+(p.2.length:Int))>most)
theorem m9{most:Int}{l:List (List Int×List Int)}(hl:l.length<=1000):M9.m ⟨most,l⟩=some (!(l.any (bigP most))):=by
 have key:=Zj (step:=M9.s0) (λk=>⟨most,l,(k:Int)⟩) l (bigP most) (λ_=>.inr ⟨false⟩) (y:=.inl ⟨⟩) (λk hk=>by
  have e1:((k:Int)<(l.length:Int)):=(by omega);unfold M9.s0;simp only[e1,QC hk,QY hk,suc (show k<9000000000000000000 by omega),decide_true,cond_true,Bool.true_or];show(bif bigP most l[k] then _ else _)=_;cases bigP most l[k]<;>rfl) (by unfold M9.s0;simp)
 unfold M9.m;rcases key with ⟨h1,i,h2⟩|⟨h1,h2⟩
 ·have h2:iter M9.s0 ⟨most,l,0⟩=_:=h2;simp only[h2,Q1,Qn,h1,Bool.not_true]
 ·have h2:iter M9.s0 ⟨most,l,0⟩=_:=h2;simp only[h2,Q1,Qn,h1,Bool.not_false]
end Cu
namespace Cu
def Va(x:Int):Prop:=x=0\/x=1\/x=2
def Vs(l:List Int):Prop:=∀x∈l,Va x
theorem Vs.hd{x:Int}{l:List Int}(h:Vs (x::l)):Va x:=h x (by simp)
theorem Vs.tl{x:Int}{l:List Int}(h:Vs (x::l)):Vs l:=λy hy=>h y (by simp[hy])
theorem XP{l:List Int}(h:∀x∈l,0<=x):Vs (vals l):=λx hx=>by obtain⟨v,hv,rfl⟩:=List.mem_map.1 hx;have:=h v hv;show Int.tmod v 3=0\/_\/_;rw[Int.tmod_eq_emod_of_nonneg this];omega
theorem Ja(f:Int->Int->Bool)(x y:Int)(l r:List Int):cnt f (x::l) (y::r)=0↔f x y=false/\cnt f l r=0:=by unfold cnt;rw[List.zip_cons_cons,List.countP_cons];cases f x y<;>simp
theorem cp_comm:∀(l r:List Int),l.length=r.length->(cnt fd l r=0↔cnt fd r l=0)
 |[],[],_=>Iff.rfl
 |[],_::_,h=>by simp at h
 |_::_,[],h=>by simp at h
 |x::l,y::r,h=>by rw[Ja,Ja,cp_comm l r (by simpa using h)];have:fd x y=fd y x:=(by unfold fd;rw[Int.add_comm]);rw[this]
theorem mn_comm(x y:Int):mn x y=mn y x:=by unfold mn;split<;>split<;>omega
theorem zw_comm:∀(l r:List Int),List.zipWith mn l r=List.zipWith mn r l
 |[],[]=>rfl
 |[],_::_=>rfl
 |_::_,[]=>rfl
 |x::l,y::r=>by rw[List.zipWith_cons_cons,List.zipWith_cons_cons,mn_comm,zw_comm l r]
theorem self:∀(l:List Int),Vs l->cnt fd l l=0/\List.zipWith mn l l=l/\cnt fc l l=0
 |[],_=>⟨rfl,rfl,rfl⟩
 |x::l,h=>by
  obtain⟨h1,h2,h3⟩:=self l h.tl;rw[Ja,Ja,List.zipWith_cons_cons,h2];have hx:=h.hd;have:fd x x=false/\mn x x=x/\fc x x=false:=by rcases hx with rfl|rfl|rfl<;>exact⟨by decide,by decide,by decide⟩
  exact⟨⟨this.1,h1⟩,by rw[this.2.1],⟨this.2.2,h3⟩⟩
theorem zw_V:∀(l r:List Int),Vs l->Vs r->Vs (List.zipWith mn l r)
 |[],r,_,_=>by intro x hx;simp at hx
 |_::_,[],_,_=>by intro x hx;simp at hx
 |x::l,y::r,h,h'=>by
  intro z hz;rw[List.zipWith_cons_cons]at hz;rcases List.mem_cons.1 hz with rfl|hz
  ·unfold mn;split
   ·exact h'.hd
   ·exact h.hd
  ·exact zw_V l r h.tl h'.tl z hz
theorem cov2:∀(l r:List Int),l.length=r.length->Vs l->Vs r->cnt fd l r=0->cnt fc l (List.zipWith mn l r)=0/\cnt fc r (List.zipWith mn l r)=0
 |[],[],_,_,_,_=>⟨rfl,rfl⟩
 |[],_::_,h,_,_,_=>by simp at h
 |_::_,[],h,_,_,_=>by simp at h
 |x::l,y::r,h,hl,hr,hc=>by
  rw[Ja]at hc;obtain⟨h1,h2⟩:=cov2 l r (by simpa using h) hl.tl hr.tl hc.2;rw[List.zipWith_cons_cons,Ja,Ja];have hx:=hl.hd;have hy:=hr.hd;have hc:=hc.1;have:fc x (mn x y)=false/\fc y (mn x y)=false:=by rcases hx with rfl|rfl|rfl<;>rcases hy with rfl|rfl|rfl<;>first|exact⟨by decide,by decide⟩|exact absurd hc (by decide)
  exact⟨⟨this.1,h1⟩,⟨this.2,h2⟩⟩
theorem cov_eq:∀(l r:List Int),l.length=r.length->Vs l->Vs r->cnt fc l r=0->cnt fc r l=0->l=r
 |[],[],_,_,_,_,_=>rfl
 |[],_::_,h,_,_,_,_=>by simp at h
 |_::_,[],h,_,_,_,_=>by simp at h
 |x::l,y::r,h,hl,hr,hc,hd=>by
  rw[Ja]at hc hd;have ih:=cov_eq l r (by simpa using h) hl.tl hr.tl hc.2 hd.2;have hx:=hl.hd;have hy:=hr.hd;have hc:=hc.1;have hd:=hd.1;have:x=y:=by rcases hx with rfl|rfl|rfl<;>rcases hy with rfl|rfl|rfl<;>first|rfl|exact absurd hc (by decide)|exact absurd hd (by decide)
  rw[this,ih]
theorem cov3:∀(a b c:List Int),a.length=b.length->b.length=c.length->Vs a->Vs b->Vs c->
  (cnt fc a b=0->cnt fc b c=0->cnt fc a c=0)/\(cnt fc a c=0->cnt fc b c=0->cnt fd a b=0/\cnt fc (List.zipWith mn a b) c=0)/\
  (cnt fd a b=0->cnt fd b c=0->(cnt fd (List.zipWith mn a b) c=0↔cnt fd a (List.zipWith mn b c)=0)/\List.zipWith mn (List.zipWith mn a b) c=List.zipWith mn a (List.zipWith mn b c))
 |[],[],[],_,_,_,_,_=>⟨λ_ _=>rfl,λ_ _=>⟨rfl,rfl⟩,λ_ _=>⟨Iff.rfl,rfl⟩⟩
 |[],_::_,_,h,_,_,_,_=>by simp at h
 |_::_,[],_,h,_,_,_,_=>by simp at h
 |_::_,_::_,[],_,h,_,_,_=>by simp at h
 |[],[],_::_,_,h,_,_,_=>by simp at h
 |x::a,y::b,z::c,h,h',ha,hb,hc=>by
  obtain⟨i1,i2,i3⟩:=cov3 a b c (by simpa using h) (by simpa using h') ha.tl hb.tl hc.tl;simp only[List.zipWith_cons_cons,Ja];have hx:=ha.hd;have hy:=hb.hd;have hz:=hc.hd;have key:(fc x y=false->fc y z=false->fc x z=false)/\(fc x z=false->fc y z=false->fd x y=false/\fc (mn x y) z=false)/\
    (fd x y=false->fd y z=false->(fd (mn x y) z=false↔fd x (mn y z)=false)/\mn (mn x y) z=mn x (mn y z)):=by
   rcases hx with rfl|rfl|rfl<;>rcases hy with rfl|rfl|rfl<;>rcases hz with rfl|rfl|rfl<;>decide
  refine⟨λg1 g2=>⟨key.1 g1.1 g2.1,i1 g1.2 g2.2⟩,λg1 g2=>⟨⟨(key.2.1 g1.1 g2.1).1,(i2 g1.2 g2.2).1⟩,⟨(key.2.1 g1.1 g2.1).2,(i2 g1.2 g2.2).2⟩⟩,λg1 g2=> ?_⟩;obtain⟨k1,k2⟩:=key.2.2 g1.1 g2.1;obtain⟨j1,j2⟩:=i3 g1.2 g2.2;exact⟨by rw[k1,j1],by rw[k2,j2]⟩
theorem qP{i s:List Int}(hi:Vs i)(hs:Vs s)(h:i.length+s.length<=16384):chk i s=0:=by
 have hb:∀l:List Int,Vs l->bad l=false:=λl hl=>by unfold bad;rw[List.any_eq_false];intro x hx;have:=hl x hx;unfold Va at this;simp;omega
 unfold chk;rw[if_neg (by omega),hb i hi,hb s hs];rfl
theorem chk2_V{ai as_ bi bs:List Int}(h1:Vs ai)(h2:Vs as_)(h3:Vs bi)(h4:Vs bs)(e1:ai.length=bi.length)(e2:as_.length=bs.length)(h:ai.length+as_.length<=16384):chk2 ai as_ bi bs=0:=by unfold chk2;rw[qP h1 h2 h,qP h3 h4 (by omega)];simp[e1,e2]
end Cu
def Le{α:Type}(a b:Option α):Prop:=∀y,a=some y->b=some y
theorem Le.refl{α:Type}(a:Option α):Le a a:=λ_ h=>h
theorem Le.bind{α β:Type}{a b:Option α}{f g:α->Option β}(h:Le a b)(h':∀y,Le (f y) (g y)):Le (Q1 a f) (Q1 b g):=λz hz=>by obtain⟨y,h1,h2⟩:=Je hz;rw[h y h1];exact h' y z h2
theorem Le.cond{α:Type}{p:Bool}{a b c d:Option α}(h:Le a b)(h':Le c d):Le (bif p then a else c) (bif p then b else d):=by cases p<;>assumption
theorem Le.sum{α β γ:Type}{s:α⊕β}{f f':α->Option γ}{g g':β->Option γ}(h:∀y,Le (f y) (f' y))(h':∀y,Le (g y) (g' y)):Le (Qn s f g) (Qn s f' g'):=by
 cases s with
 |inl y=>exact h y
 |inr y=>exact h' y
theorem iterN_le{X Y:Type}{s s':X->Option (X⊕Y)}(h:∀x,Le (s x) (s' x)):∀(n:Nat) (x:X),Le (Qo s n x) (Qo s' n x)
 |0,x=>λy hy=>by cases hy
 |n+1,x=>λy hy=>by
  unfold Qo at hy⊢;split at hy
  ·rename_i x' e;rw[h x _ e];exact iterN_le h n x' y hy
  ·rename_i y' e;rw[h x _ e];exact hy
  ·cases hy
theorem Le.iter{X Y:Type}{s s':X->Option (X⊕Y)}{n:Nat}(h:∀x,Le (s x) (s' x))(x:X):Le (Qo s n x) (Go.Abs.iter s' x):=λy hy=>Un (iterN_le h n x y hy)
namespace M29
def sb0'(x:Kf):Option (UT⊕bz0X):=bif decide (x.v>2) then some (Sum.inr { e:=1,bi:=x.bi,bs:=x.bs }) else some (Sum.inl { e:=x.e,bi:=x.bi,bs:=x.bs })
theorem YS(x:_):Le (sb0' x) (sb0 x):=by
 unfold sb0' sb0
 repeat' first|with_reducible exact Le.refl _|with_reducible apply Le.bind|with_reducible apply Le.cond|with_reducible apply Le.sum|intro _
def i0_s1'(x:QM):Option (QM⊕(Qt⊕UI)):=bif decide (x.i2<x.n2) then bif inR x.i2 x.bs.length then Q1 (sb0' { v:=x.bs[x.i2.toNat]?.getD 0,e:=x.e,bi:=x.bi,bs:=x.bs }) λs=>Qn s (λy=>some (Sum.inl { n2:=x.n2,i2:=IntKind.i64.wrap (x.i2+1),e:=y.e,bi:=y.bi,bs:=y.bs })) λz=>some (Sum.inr (Sum.inr { e:=z.e,bi:=z.bi,bs:=z.bs })) else none
else some (Sum.inr (Sum.inl { e:=x.e,bi:=x.bi,bs:=x.bs }))
theorem JT(x:_):Le (i0_s1' x) (QK x):=by
 unfold i0_s1' QK
 repeat' first|with_reducible exact Le.refl _|with_reducible exact YS _|with_reducible apply Le.bind|with_reducible apply Le.cond|with_reducible apply Le.sum|intro _
def i0_s0'(x:QN):Option (QN⊕(Qu⊕UJ)):=bif decide (x.i<x.n) then bif inR x.i x.bi.length then Q1 (sb0' { v:=x.bi[x.i.toNat]?.getD 0,e:=x.e,bi:=x.bi,bs:=x.bs }) λs=>Qn s (λy=>some (Sum.inl { n:=x.n,i:=IntKind.i64.wrap (x.i+1),e:=y.e,bi:=y.bi,bs:=y.bs })) λz=>some (Sum.inr (Sum.inr { e:=z.e,bi:=z.bi,bs:=z.bs })) else none
else some (Sum.inr (Sum.inl { e:=x.e,bi:=x.bi,bs:=x.bs }))
theorem JV(x:_):Le (i0_s0' x) (QL x):=by
 unfold i0_s0' QL
 repeat' first|with_reducible exact Le.refl _|with_reducible exact YS _|with_reducible apply Le.bind|with_reducible apply Le.cond|with_reducible apply Le.sum|intro _
def s0'(x:p0X):Option (q0X⊕z0X):=Q1 (Qo i0_s0' 200 ⟨(↑x.bi.length:Int),0,x.e,x.bi,x.bs⟩) λs=>Qn s (λy=>Q1 (Qo i0_s1' 200 ⟨(↑y.bs.length:Int),0,y.e,y.bi,y.bs⟩) λs=>Qn s (λy=>some (Sum.inl ⟨y.e,y.bi,y.bs⟩)) λz=>some (Sum.inr ⟨z.e,z.bi,z.bs⟩)) λz=>some (Sum.inr ⟨z.e,z.bi,z.bs⟩)
theorem Jn(x:_):Le (s0' x) (s0 x):=by
 unfold s0' s0
 repeat' first|with_reducible exact Le.refl _|with_reducible exact Le.iter JT _|with_reducible exact Le.iter JV _|with_reducible apply Le.bind|with_reducible apply Le.cond|with_reducible apply Le.sum|intro _
def m'(x:gX):Option fY:=bif decide (IntKind.i64.wrap ((↑x.i.length:Int)+(↑x.s.length:Int))>16384) then some 3 else Q1 (M36.m ⟨x.i,x.s⟩) λy=>Q1 (s0' ⟨0,y.1,y.2⟩) λs=>Qn s (λy=>some 0) λz=>some z.e
theorem Qw(x:_):Le (m' x) (m x):=by
 unfold m' m
 repeat' first|with_reducible exact Le.refl _|with_reducible exact Jn _|with_reducible apply Le.bind|with_reducible apply Le.cond|with_reducible apply Le.sum|intro _
end M29
namespace M22
def sb0'(x:Kf):Option UT:=bif x.v !=2 then some { n0:=IntKind.i64.wrap (x.n0+1),bi:=x.bi,bs:=x.bs } else some { n0:=x.n0,bi:=x.bi,bs:=x.bs }
theorem YS(x:_):Le (sb0' x) (sb0 x):=by
 unfold sb0' sb0
 repeat' first|with_reducible exact Le.refl _|with_reducible apply Le.bind|with_reducible apply Le.cond|with_reducible apply Le.sum|intro _
def i0_s1'(x:QM):Option (QM⊕Qt):=bif decide (x.i2<x.n2) then bif inR x.i2 x.bs.length then Q1 (sb0' { v:=x.bs[x.i2.toNat]?.getD 0,n0:=x.n0,bi:=x.bi,bs:=x.bs }) λy=>some (Sum.inl { n2:=x.n2,i2:=IntKind.i64.wrap (x.i2+1),n0:=y.n0,bi:=y.bi,bs:=y.bs }) else none
else some (Sum.inr { n0:=x.n0,bi:=x.bi,bs:=x.bs })
theorem JT(x:_):Le (i0_s1' x) (QK x):=by
 unfold i0_s1' QK
 repeat' first|with_reducible exact Le.refl _|with_reducible exact YS _|with_reducible apply Le.bind|with_reducible apply Le.cond|with_reducible apply Le.sum|intro _
def i0_s0'(x:QN):Option (QN⊕Qu):=bif decide (x.i<x.n) then bif inR x.i x.bi.length then Q1 (sb0' { v:=x.bi[x.i.toNat]?.getD 0,n0:=x.n0,bi:=x.bi,bs:=x.bs }) λy=>some (Sum.inl { n:=x.n,i:=IntKind.i64.wrap (x.i+1),n0:=y.n0,bi:=y.bi,bs:=y.bs }) else none
else some (Sum.inr { n0:=x.n0,bi:=x.bi,bs:=x.bs })
theorem JV(x:_):Le (i0_s0' x) (QL x):=by
 unfold i0_s0' QL
 repeat' first|with_reducible exact Le.refl _|with_reducible exact YS _|with_reducible apply Le.bind|with_reducible apply Le.cond|with_reducible apply Le.sum|intro _
def s0'(x:p0X):Option q0X:=Q1 (Qo i0_s0' 200 ⟨(↑x.bi.length:Int),0,x.n0,x.bi,x.bs⟩) λy=>Q1 (Qo i0_s1' 200 ⟨(↑y.bs.length:Int),0,y.n0,y.bi,y.bs⟩) λy=>some ⟨y.n0,y.bi,y.bs⟩
theorem Jn(x:_):Le (s0' x) (s0 x):=by
 unfold s0' s0
 repeat' first|with_reducible exact Le.refl _|with_reducible exact Le.iter JT _|with_reducible exact Le.iter JV _|with_reducible apply Le.bind|with_reducible apply Le.cond|with_reducible apply Le.sum|intro _
def m'(x:gX):Option fY:=Q1 (M29.m' ⟨x.i,x.s⟩) λy=>bif y !=0 then some 0 else Q1 (M36.m ⟨x.i,x.s⟩) λy=>Q1 (s0' ⟨0,y.1,y.2⟩) λy=>some y.n0
theorem Qw(x:_):Le (m' x) (m x):=by
 unfold m' m
 repeat' first|with_reducible exact Le.refl _|with_reducible exact M29.Qw _|with_reducible exact Jn _|with_reducible apply Le.bind|with_reducible apply Le.cond|with_reducible apply Le.sum|intro _
end M22
namespace M33
def s0'(x:p0X):Option (p0X⊕(q0X⊕z0X)):=bif decide (x.i<x.n) then bif inR x.i x.l.length then Q1 (M29.m' ⟨(x.l[x.i.toNat]?.getD ([],[])).1,(x.l[x.i.toNat]?.getD ([],[])).2⟩) λy=>bif y !=0 then some (Sum.inr (Sum.inr ⟨y⟩)) else some (Sum.inl ⟨x.l,x.n,IntKind.i64.wrap (x.i+1),x.ai,x.as_,x.bi,x.bs⟩) else none else some (Sum.inr (Sum.inl ⟨x.ai,x.as_,x.bi,x.bs⟩))
theorem Jn(x:_):Le (s0' x) (s0 x):=by
 unfold s0' s0
 repeat' first|with_reducible exact Le.refl _|with_reducible exact M29.Qw _|with_reducible apply Le.bind|with_reducible apply Le.cond|with_reducible apply Le.sum|intro _
def m'(x:gX):Option fY:=Q1 (Qo s0' 200 ⟨[(x.ai,x.as_),(x.bi,x.bs)],(↑2:Int),0,x.ai,x.as_,x.bi,x.bs⟩) λs=>Qn s (λy=>bif bif (↑y.ai.length:Int) !=(↑y.bi.length:Int) then true else (↑y.as_.length:Int) !=(↑y.bs.length:Int) then some 8 else some 0) λz=>some z.r
theorem Qw(x:_):Le (m' x) (m x):=by
 unfold m' m
 repeat' first|with_reducible exact Le.refl _|with_reducible exact Le.iter Jn _|with_reducible apply Le.bind|with_reducible apply Le.cond|with_reducible apply Le.sum|intro _
end M33
namespace M49
def s1'(x:p1X):Option (p1X⊕q1X):=bif decide (x.i<x.n) then bif inR x.i x.l.length then bif eqN x.s_lo 0&&eqN x.xs.length x.s_len&&Qz (x.s_len+List.length (x.l[x.i.toNat]?.getD [])) 1 then some (Sum.inl ⟨0,x.s_len+List.length (x.l[x.i.toNat]?.getD []),x.l,x.n,IntKind.i64.wrap (x.i+1),x.xs++x.l[x.i.toNat]?.getD []⟩) else none else none else some (Sum.inr ⟨x.s_lo,x.s_len,x.xs⟩)
theorem s1_le(x:_):Le (s1' x) (s1 x):=by
 unfold s1' s1
 repeat' first|with_reducible exact Le.refl _|with_reducible apply Le.bind|with_reducible apply Le.cond|with_reducible apply Le.sum|intro _
def s0'(x:p0X):Option (p0X⊕q0X):=bif decide (x.i<x.n) then bif inR x.i x.l9.length then bif decide (IntKind.i64.wrap (x.size+(↑(List.length (x.l9[x.i.toNat]?.getD [])):Int))<0) then none else some (Sum.inl ⟨x.l,IntKind.i64.wrap (x.size+(↑(List.length (x.l9[x.i.toNat]?.getD [])):Int)),x.l9,x.n,IntKind.i64.wrap (x.i+1)⟩) else none else some (Sum.inr ⟨x.l,x.size⟩)
theorem Jn(x:_):Le (s0' x) (s0 x):=by
 unfold s0' s0
 repeat' first|with_reducible exact Le.refl _|with_reducible apply Le.bind|with_reducible apply Le.cond|with_reducible apply Le.sum|intro _
def m'(x:gX):Option fY:=Q1 (Qo s0' 200 ⟨x.l,0,x.l,(↑x.l.length:Int),0⟩) λy=>Q1 (M55.m ⟨y.size⟩) λy_1=>Q1 (Qo s1' 200 ⟨y_1.1,y_1.2.1,y.l,(↑y.l.length:Int),0,y_1.2.2⟩) λy=>bif leB (y.s_lo+y.s_len) y.xs.length&&true&&true then some (List.take y.s_len (List.drop y.s_lo y.xs)) else none
theorem Qw(x:_):Le (m' x) (m x):=by
 unfold m' m
 repeat' first|with_reducible exact Le.refl _|with_reducible exact Le.iter s1_le _|with_reducible exact Le.iter Jn _|with_reducible apply Le.bind|with_reducible apply Le.cond|with_reducible apply Le.sum|intro _
end M49
namespace M35
def m'(x:gX):Option fY:=Q1 (M49.m' ⟨[x.i,x.s]⟩) λy=>some y
theorem Qw(x:_):Le (m' x) (m x):=by
 unfold m' m
 repeat' first|with_reducible exact Le.refl _|with_reducible exact M49.Qw _|with_reducible apply Le.bind|with_reducible apply Le.cond|with_reducible apply Le.sum|intro _
end M35
namespace M38
def m'(x:gX):Option fY:=some (bif x.x !=2 then x.x !=x.y else false)
theorem Qw(x:_):Le (m' x) (m x):=by
 unfold m' m
 repeat' first|with_reducible exact Le.refl _|with_reducible apply Le.bind|with_reducible apply Le.cond|with_reducible apply Le.sum|intro _
end M38
namespace M39
def m'(x:gX):Option fY:=some (IntKind.u8.wrap (x.x+x.y)==1)
theorem Qw(x:_):Le (m' x) (m x):=by
 unfold m' m
 repeat' first|with_reducible exact Le.refl _|with_reducible apply Le.bind|with_reducible apply Le.cond|with_reducible apply Le.sum|intro _
end M39
namespace M37c
def sb0'(x:Kf):Option UT:=bif inR x.i x.l.length then Q1 (M38.m' { x:=x.v,y:=x.l[x.i.toNat]?.getD 0 }) λy=>bif y then some { n0:=IntKind.i64.wrap (x.n0+1),l:=x.l,bi:=x.bi,bs:=x.bs } else some { n0:=x.n0,l:=x.l,bi:=x.bi,bs:=x.bs }
else none
theorem YS(x:_):Le (sb0' x) (sb0 x):=by
 unfold sb0' sb0
 repeat' first|with_reducible exact Le.refl _|with_reducible exact M38.Qw _|with_reducible apply Le.bind|with_reducible apply Le.cond|with_reducible apply Le.sum|intro _
def i0_s1'(x:QM):Option (QM⊕Qt):=bif decide (x.i2<x.n2) then bif inR x.i2 x.bs.length then Q1 (sb0' { i:=IntKind.i64.wrap ((↑x.bi.length:Int)+x.i2),v:=x.bs[x.i2.toNat]?.getD 0,n0:=x.n0,l:=x.l,bi:=x.bi,bs:=x.bs }) λy=>some (Sum.inl { n2:=x.n2,i2:=IntKind.i64.wrap (x.i2+1),n0:=y.n0,l:=y.l,bi:=y.bi,bs:=y.bs }) else none
else some (Sum.inr { n0:=x.n0,l:=x.l,bi:=x.bi,bs:=x.bs })
theorem JT(x:_):Le (i0_s1' x) (QK x):=by
 unfold i0_s1' QK
 repeat' first|with_reducible exact Le.refl _|with_reducible exact YS _|with_reducible apply Le.bind|with_reducible apply Le.cond|with_reducible apply Le.sum|intro _
def i0_s0'(x:QN):Option (QN⊕Qu):=bif decide (x.i<x.n) then bif inR x.i x.bi.length then Q1 (sb0' { i:=x.i,v:=x.bi[x.i.toNat]?.getD 0,n0:=x.n0,l:=x.l,bi:=x.bi,bs:=x.bs }) λy=>some (Sum.inl { n:=x.n,i:=IntKind.i64.wrap (x.i+1),n0:=y.n0,l:=y.l,bi:=y.bi,bs:=y.bs }) else none
else some (Sum.inr { n0:=x.n0,l:=x.l,bi:=x.bi,bs:=x.bs })
theorem JV(x:_):Le (i0_s0' x) (QL x):=by
 unfold i0_s0' QL
 repeat' first|with_reducible exact Le.refl _|with_reducible exact YS _|with_reducible apply Le.bind|with_reducible apply Le.cond|with_reducible apply Le.sum|intro _
def s0'(x:p0X):Option q0X:=Q1 (Qo i0_s0' 200 ⟨(↑x.bi.length:Int),0,x.n0,x.l,x.bi,x.bs⟩) λy=>Q1 (Qo i0_s1' 200 ⟨(↑y.bs.length:Int),0,y.n0,y.l,y.bi,y.bs⟩) λy=>some ⟨y.n0,y.l,y.bi,y.bs⟩
theorem Jn(x:_):Le (s0' x) (s0 x):=by
 unfold s0' s0
 repeat' first|with_reducible exact Le.refl _|with_reducible exact Le.iter JT _|with_reducible exact Le.iter JV _|with_reducible apply Le.bind|with_reducible apply Le.cond|with_reducible apply Le.sum|intro _
def m'(x:gX):Option fY:=Q1 (M33.m' ⟨x.ai,x.as_,x.bi,x.bs⟩) λy=>bif y !=0 then some (-1) else Q1 (M35.m' ⟨x.bi,x.bs⟩) λy=>Q1 (M36.m ⟨x.ai,x.as_⟩) λy_1=>Q1 (s0' ⟨0,y,y_1.1,y_1.2⟩) λy=>some y.n0
theorem Qw(x:_):Le (m' x) (m x):=by
 unfold m' m
 repeat' first|with_reducible exact Le.refl _|with_reducible exact M33.Qw _|with_reducible exact M35.Qw _|with_reducible exact Jn _|with_reducible apply Le.bind|with_reducible apply Le.cond|with_reducible apply Le.sum|intro _
end M37c
namespace M37d
def sb0'(x:Kf):Option UT:=bif inR x.i x.l.length then Q1 (M39.m' { x:=x.v,y:=x.l[x.i.toNat]?.getD 0 }) λy=>bif y then some { n0:=IntKind.i64.wrap (x.n0+1),l:=x.l,bi:=x.bi,bs:=x.bs } else some { n0:=x.n0,l:=x.l,bi:=x.bi,bs:=x.bs }
else none
theorem YS(x:_):Le (sb0' x) (sb0 x):=by
 unfold sb0' sb0
 repeat' first|with_reducible exact Le.refl _|with_reducible exact M39.Qw _|with_reducible apply Le.bind|with_reducible apply Le.cond|with_reducible apply Le.sum|intro _
def i0_s1'(x:QM):Option (QM⊕Qt):=bif decide (x.i2<x.n2) then bif inR x.i2 x.bs.length then Q1 (sb0' { i:=IntKind.i64.wrap ((↑x.bi.length:Int)+x.i2),v:=x.bs[x.i2.toNat]?.getD 0,n0:=x.n0,l:=x.l,bi:=x.bi,bs:=x.bs }) λy=>some (Sum.inl { n2:=x.n2,i2:=IntKind.i64.wrap (x.i2+1),n0:=y.n0,l:=y.l,bi:=y.bi,bs:=y.bs }) else none
else some (Sum.inr { n0:=x.n0,l:=x.l,bi:=x.bi,bs:=x.bs })
theorem JT(x:_):Le (i0_s1' x) (QK x):=by
 unfold i0_s1' QK
 repeat' first|with_reducible exact Le.refl _|with_reducible exact YS _|with_reducible apply Le.bind|with_reducible apply Le.cond|with_reducible apply Le.sum|intro _
def i0_s0'(x:QN):Option (QN⊕Qu):=bif decide (x.i<x.n) then bif inR x.i x.bi.length then Q1 (sb0' { i:=x.i,v:=x.bi[x.i.toNat]?.getD 0,n0:=x.n0,l:=x.l,bi:=x.bi,bs:=x.bs }) λy=>some (Sum.inl { n:=x.n,i:=IntKind.i64.wrap (x.i+1),n0:=y.n0,l:=y.l,bi:=y.bi,bs:=y.bs }) else none
else some (Sum.inr { n0:=x.n0,l:=x.l,bi:=x.bi,bs:=x.bs })
theorem JV(x:_):Le (i0_s0' x) (QL x):=by
 unfold i0_s0' QL
 repeat' first|with_reducible exact Le.refl _|with_reducible exact YS _|with_reducible apply Le.bind|with_reducible apply Le.cond|with_reducible apply Le.sum|intro _
def s0'(x:p0X):Option q0X:=Q1 (Qo i0_s0' 200 ⟨(↑x.bi.length:Int),0,x.n0,x.l,x.bi,x.bs⟩) λy=>Q1 (Qo i0_s1' 200 ⟨(↑y.bs.length:Int),0,y.n0,y.l,y.bi,y.bs⟩) λy=>some ⟨y.n0,y.l,y.bi,y.bs⟩
theorem Jn(x:_):Le (s0' x) (s0 x):=by
 unfold s0' s0
 repeat' first|with_reducible exact Le.refl _|with_reducible exact Le.iter JT _|with_reducible exact Le.iter JV _|with_reducible apply Le.bind|with_reducible apply Le.cond|with_reducible apply Le.sum|intro _
def m'(x:gX):Option fY:=Q1 (M33.m' ⟨x.ai,x.as_,x.bi,x.bs⟩) λy=>bif y !=0 then some (-1) else Q1 (M35.m' ⟨x.bi,x.bs⟩) λy=>Q1 (M36.m ⟨x.ai,x.as_⟩) λy_1=>Q1 (s0' ⟨0,y,y_1.1,y_1.2⟩) λy=>some y.n0
theorem Qw(x:_):Le (m' x) (m x):=by
 unfold m' m
 repeat' first|with_reducible exact Le.refl _|with_reducible exact M33.Qw _|with_reducible exact M35.Qw _|with_reducible exact Jn _|with_reducible apply Le.bind|with_reducible apply Le.cond|with_reducible apply Le.sum|intro _
end M37d
namespace M18
def m'(x:gX):Option fY:=Q1 (M37d.m' ⟨x.ai,x.as_,x.bi,x.bs⟩) λy=>some y
theorem Qw(x:_):Le (m' x) (m x):=by
 unfold m' m
 repeat' first|with_reducible exact Le.refl _|with_reducible exact M37d.Qw _|with_reducible apply Le.bind|with_reducible apply Le.cond|with_reducible apply Le.sum|intro _
end M18
namespace M16
def m'(x:gX):Option fY:=Q1 (M18.m' ⟨x.ai,x.as_,x.bi,x.bs⟩) λy=>some (y==0)
theorem Qw(x:_):Le (m' x) (m x):=by
 unfold m' m
 repeat' first|with_reducible exact Le.refl _|with_reducible exact M18.Qw _|with_reducible apply Le.bind|with_reducible apply Le.cond|with_reducible apply Le.sum|intro _
end M16
namespace M17
def m'(x:gX):Option fY:=Q1 (M37c.m' ⟨x.ai,x.as_,x.bi,x.bs⟩) λy=>some (y==0)
theorem Qw(x:_):Le (m' x) (m x):=by
 unfold m' m
 repeat' first|with_reducible exact Le.refl _|with_reducible exact M37c.Qw _|with_reducible apply Le.bind|with_reducible apply Le.cond|with_reducible apply Le.sum|intro _
end M17
namespace M13
def sb0a'(x:XT):Option ZG:=bif decide (x.v<x.xs.length) then bif inR x.i x.l.length then bif decide (x.v<x.xs.length) then some { xs:=x.xs.set x.v (if x.l[x.i.toNat]?.getD 0<x.xs[x.v]?.getD 0 then x.l[x.i.toNat]?.getD 0 else x.xs[x.v]?.getD 0),ys:=x.ys,oi_lo:=x.oi_lo,oi_len:=x.oi_len,oi_cap:=x.oi_cap,os_lo:=x.os_lo,os_len:=x.os_len,os_cap:=x.os_cap,l:=x.l,bi_lo:=x.bi_lo,bi_len:=x.bi_len,bi_cap:=x.bi_cap,bs_lo:=x.bs_lo,bs_len:=x.bs_len,bs_cap:=x.bs_cap } else none else none
else none
theorem Y8(x:_):Le (sb0a' x) (Xo x):=by
 unfold sb0a' Xo
 repeat' first|with_reducible exact Le.refl _|with_reducible apply Le.bind|with_reducible apply Le.cond|with_reducible apply Le.sum|intro _
def sb0b'(x:XS):Option ZF:=bif decide (x.v<x.ys.length) then bif inR x.i x.l.length then bif decide (x.v<x.ys.length) then some { xs:=x.xs,ys:=x.ys.set x.v (if x.l[x.i.toNat]?.getD 0<x.ys[x.v]?.getD 0 then x.l[x.i.toNat]?.getD 0 else x.ys[x.v]?.getD 0),oi_lo:=x.oi_lo,oi_len:=x.oi_len,oi_cap:=x.oi_cap,os_lo:=x.os_lo,os_len:=x.os_len,os_cap:=x.os_cap,l:=x.l,bi_lo:=x.bi_lo,bi_len:=x.bi_len,bi_cap:=x.bi_cap,bs_lo:=x.bs_lo,bs_len:=x.bs_len,bs_cap:=x.bs_cap } else none else none
else none
theorem Y6(x:_):Le (sb0b' x) (Xn x):=by
 unfold sb0b' Xn
 repeat' first|with_reducible exact Le.refl _|with_reducible apply Le.bind|with_reducible apply Le.cond|with_reducible apply Le.sum|intro _
def i0_s1'(x:QM):Option (QM⊕Qt):=bif decide (x.i2<x.n2) then bif inR x.i2 x.bs_len then Q1 (sb0b' { i:=IntKind.i64.wrap ((↑x.bi_len:Int)+x.i2),v:=x.bs_lo+x.i2.toNat,xs:=x.xs,ys:=x.ys,oi_lo:=x.oi_lo,oi_len:=x.oi_len,oi_cap:=x.oi_cap,os_lo:=x.os_lo,os_len:=x.os_len,os_cap:=x.os_cap,l:=x.l,bi_lo:=x.bi_lo,bi_len:=x.bi_len,bi_cap:=x.bi_cap,bs_lo:=x.bs_lo,bs_len:=x.bs_len,bs_cap:=x.bs_cap }) λy=>some (Sum.inl { n2:=x.n2,i2:=IntKind.i64.wrap (x.i2+1),xs:=y.xs,ys:=y.ys,oi_lo:=y.oi_lo,oi_len:=y.oi_len,oi_cap:=y.oi_cap,os_lo:=y.os_lo,os_len:=y.os_len,os_cap:=y.os_cap,l:=y.l,bi_lo:=y.bi_lo,bi_len:=y.bi_len,bi_cap:=y.bi_cap,bs_lo:=y.bs_lo,bs_len:=y.bs_len,bs_cap:=y.bs_cap }) else none
else
 some
  (Sum.inr
   {xs:=x.xs,ys:=x.ys,oi_lo:=x.oi_lo,oi_len:=x.oi_len,oi_cap:=x.oi_cap,os_lo:=x.os_lo,os_len:=x.os_len,os_cap:=x.os_cap,l:=x.l,bi_lo:=x.bi_lo,
    bi_len:=x.bi_len,bi_cap:=x.bi_cap,bs_lo:=x.bs_lo,bs_len:=x.bs_len,bs_cap:=x.bs_cap })
theorem JT(x:_):Le (i0_s1' x) (QK x):=by
 unfold i0_s1' QK
 repeat' first|with_reducible exact Le.refl _|with_reducible exact Y6 _|with_reducible apply Le.bind|with_reducible apply Le.cond|with_reducible apply Le.sum|intro _
def i0_s0'(x:QN):Option (QN⊕Qu):=bif decide (x.i<x.n) then bif inR x.i x.bi_len then Q1 (sb0a' { i:=x.i,v:=x.bi_lo+x.i.toNat,xs:=x.xs,ys:=x.ys,oi_lo:=x.oi_lo,oi_len:=x.oi_len,oi_cap:=x.oi_cap,os_lo:=x.os_lo,os_len:=x.os_len,os_cap:=x.os_cap,l:=x.l,bi_lo:=x.bi_lo,bi_len:=x.bi_len,bi_cap:=x.bi_cap,bs_lo:=x.bs_lo,bs_len:=x.bs_len,bs_cap:=x.bs_cap }) λy=>some (Sum.inl { n:=x.n,i:=IntKind.i64.wrap (x.i+1),xs:=y.xs,ys:=y.ys,oi_lo:=y.oi_lo,oi_len:=y.oi_len,oi_cap:=y.oi_cap,os_lo:=y.os_lo,os_len:=y.os_len,os_cap:=y.os_cap,l:=y.l,bi_lo:=y.bi_lo,bi_len:=y.bi_len,bi_cap:=y.bi_cap,bs_lo:=y.bs_lo,bs_len:=y.bs_len,bs_cap:=y.bs_cap }) else none
else
 some
  (Sum.inr
   {xs:=x.xs,ys:=x.ys,oi_lo:=x.oi_lo,oi_len:=x.oi_len,oi_cap:=x.oi_cap,os_lo:=x.os_lo,os_len:=x.os_len,os_cap:=x.os_cap,l:=x.l,bi_lo:=x.bi_lo,
    bi_len:=x.bi_len,bi_cap:=x.bi_cap,bs_lo:=x.bs_lo,bs_len:=x.bs_len,bs_cap:=x.bs_cap })
theorem JV(x:_):Le (i0_s0' x) (QL x):=by
 unfold i0_s0' QL
 repeat' first|with_reducible exact Le.refl _|with_reducible exact Y8 _|with_reducible apply Le.bind|with_reducible apply Le.cond|with_reducible apply Le.sum|intro _
def s0'(x:p0X):Option q0X:=Q1 (Qo i0_s0' 200 ⟨(↑x.bi_len:Int),0,x.xs,x.ys,x.oi_lo,x.oi_len,x.oi_cap,x.os_lo,x.os_len,x.os_cap,x.l,x.bi_lo,x.bi_len,x.bi_cap,x.bs_lo,x.bs_len,x.bs_cap⟩) λy=>Q1 (Qo i0_s1' 200 ⟨(↑y.bs_len:Int),0,y.xs,y.ys,y.oi_lo,y.oi_len,y.oi_cap,y.os_lo,y.os_len,y.os_cap,y.l,y.bi_lo,y.bi_len,y.bi_cap,y.bs_lo,y.bs_len,y.bs_cap⟩) λy=>some ⟨y.xs,y.ys,y.oi_lo,y.oi_len,y.oi_cap,y.os_lo,y.os_len,y.os_cap,y.l,y.bi_lo,y.bi_len,y.bi_cap,y.bs_lo,y.bs_len,y.bs_cap⟩
theorem Jn(x:_):Le (s0' x) (s0 x):=by
 unfold s0' s0
 repeat' first|with_reducible exact Le.refl _|with_reducible exact Le.iter JT _|with_reducible exact Le.iter JV _|with_reducible apply Le.bind|with_reducible apply Le.cond|with_reducible apply Le.sum|intro _
def m'(x:gX):Option fY:=Q1 (M33.m' ⟨x.ai,x.as_,x.bi,x.bs⟩) λy=>bif y !=0 then some ([],[],y) else Q1 (M16.m' ⟨x.ai,x.as_,x.bi,x.bs⟩) λy=>bif !y then some ([],[],9) else Q1 (M34.m ⟨x.ai,x.as_⟩) λy=>Q1 (M35.m' ⟨x.bi,x.bs⟩) λy_1=>Q1 (M36o.m ⟨y.1,y.2.1,y.2.2.1,y.2.2.2.1,y.2.2.2.2.1,y.2.2.2.2.2.1,y.2.2.2.2.2.2.1,y.2.2.2.2.2.2.2⟩) λy_2=>Q1 (s0' ⟨y_2.1,y_2.2.1,y.1,y.2.1,y.2.2.1,y.2.2.2.1,y.2.2.2.2.1,y.2.2.2.2.2.1,y_1,y_2.2.2.1,y_2.2.2.2.1,y_2.2.2.2.2.1,y_2.2.2.2.2.2.1,y_2.2.2.2.2.2.2.1,y_2.2.2.2.2.2.2.2⟩) λy=>bif leB (y.oi_lo+y.oi_len) y.xs.length&&(leB (y.os_lo+y.os_len) y.ys.length&&true)&&true&&true&&true then some (List.take y.oi_len (List.drop y.oi_lo y.xs),List.take y.os_len (List.drop y.os_lo y.ys),0) else none
theorem Qw(x:_):Le (m' x) (m x):=by
 unfold m' m
 repeat' first|with_reducible exact Le.refl _|with_reducible exact M33.Qw _|with_reducible exact M35.Qw _|with_reducible exact M16.Qw _|with_reducible exact Jn _|with_reducible apply Le.bind|with_reducible apply Le.cond|with_reducible apply Le.sum|intro _
end M13
namespace M40
def s0'(x:p0X):Option (p0X⊕(q0X⊕z0X)):=bif decide (x.i<x.n) then bif inR x.i x.s.length then Q1 (M41.m ⟨x.s[x.i.toNat]?.getD 0⟩) λy=>bif y then some (Sum.inr (Sum.inr ⟨x.i⟩)) else some (Sum.inl ⟨x.s,x.n,IntKind.i64.wrap (x.i+1)⟩) else none else some (Sum.inr (Sum.inl PUnit.unit))
theorem Jn(x:_):Le (s0' x) (s0 x):=by
 unfold s0' s0
 repeat' first|with_reducible exact Le.refl _|with_reducible apply Le.bind|with_reducible apply Le.cond|with_reducible apply Le.sum|intro _
def m'(x:gX):Option fY:=Q1 (Qo s0' 200 ⟨x.s,(↑x.s.length:Int),0⟩) λs=>Qn s (λy=>some (-1)) λz=>some z.r
theorem Qw(x:_):Le (m' x) (m x):=by
 unfold m' m
 repeat' first|with_reducible exact Le.refl _|with_reducible exact Le.iter Jn _|with_reducible apply Le.bind|with_reducible apply Le.cond|with_reducible apply Le.sum|intro _
end M40
namespace M19
def sb0a'(x:XT):Option ZG:=bif decide (x.v<x.xs.length) then bif x.xs[x.v]?.getD 0==2 then bif decide (x.v<x.xs.length) then some { w:=x.w,last:=x.last,xs:=x.xs.set x.v x.last,ys:=x.ys,oi_lo:=x.oi_lo,oi_len:=x.oi_len,oi_cap:=x.oi_cap,os_lo:=x.os_lo,os_len:=x.os_len,os_cap:=x.os_cap,bi_lo:=x.bi_lo,bi_len:=x.bi_len,bi_cap:=x.bi_cap,bs_lo:=x.bs_lo,bs_len:=x.bs_len,bs_cap:=x.bs_cap } else none else bif x.w==2 then bif decide (x.v<x.xs.length) then some { w:=x.w,last:=x.xs[x.v]?.getD 0,xs:=x.xs,ys:=x.ys,oi_lo:=x.oi_lo,oi_len:=x.oi_len,oi_cap:=x.oi_cap,os_lo:=x.os_lo,os_len:=x.os_len,os_cap:=x.os_cap,bi_lo:=x.bi_lo,bi_len:=x.bi_len,bi_cap:=x.bi_cap,bs_lo:=x.bs_lo,bs_len:=x.bs_len,bs_cap:=x.bs_cap } else none else some { w:=x.w,last:=x.last,xs:=x.xs,ys:=x.ys,oi_lo:=x.oi_lo,oi_len:=x.oi_len,oi_cap:=x.oi_cap,os_lo:=x.os_lo,os_len:=x.os_len,os_cap:=x.os_cap,bi_lo:=x.bi_lo,bi_len:=x.bi_len,bi_cap:=x.bi_cap,bs_lo:=x.bs_lo,bs_len:=x.bs_len,bs_cap:=x.bs_cap }
else none
theorem Y8(x:_):Le (sb0a' x) (Xo x):=by
 unfold sb0a' Xo
 repeat' first|with_reducible exact Le.refl _|with_reducible apply Le.bind|with_reducible apply Le.cond|with_reducible apply Le.sum|intro _
def sb0b'(x:XS):Option ZF:=bif decide (x.v<x.ys.length) then bif x.ys[x.v]?.getD 0==2 then bif decide (x.v<x.ys.length) then some { w:=x.w,last:=x.last,xs:=x.xs,ys:=x.ys.set x.v x.last,oi_lo:=x.oi_lo,oi_len:=x.oi_len,oi_cap:=x.oi_cap,os_lo:=x.os_lo,os_len:=x.os_len,os_cap:=x.os_cap,bi_lo:=x.bi_lo,bi_len:=x.bi_len,bi_cap:=x.bi_cap,bs_lo:=x.bs_lo,bs_len:=x.bs_len,bs_cap:=x.bs_cap } else none else bif x.w==2 then bif decide (x.v<x.ys.length) then some { w:=x.w,last:=x.ys[x.v]?.getD 0,xs:=x.xs,ys:=x.ys,oi_lo:=x.oi_lo,oi_len:=x.oi_len,oi_cap:=x.oi_cap,os_lo:=x.os_lo,os_len:=x.os_len,os_cap:=x.os_cap,bi_lo:=x.bi_lo,bi_len:=x.bi_len,bi_cap:=x.bi_cap,bs_lo:=x.bs_lo,bs_len:=x.bs_len,bs_cap:=x.bs_cap } else none else some { w:=x.w,last:=x.last,xs:=x.xs,ys:=x.ys,oi_lo:=x.oi_lo,oi_len:=x.oi_len,oi_cap:=x.oi_cap,os_lo:=x.os_lo,os_len:=x.os_len,os_cap:=x.os_cap,bi_lo:=x.bi_lo,bi_len:=x.bi_len,bi_cap:=x.bi_cap,bs_lo:=x.bs_lo,bs_len:=x.bs_len,bs_cap:=x.bs_cap }
else none
theorem Y6(x:_):Le (sb0b' x) (Xn x):=by
 unfold sb0b' Xn
 repeat' first|with_reducible exact Le.refl _|with_reducible apply Le.bind|with_reducible apply Le.cond|with_reducible apply Le.sum|intro _
def i0_s1'(x:QM):Option (QM⊕Qt):=bif decide (x.i2<x.n2) then bif inR x.i2 x.bs_len then Q1 (sb0b' { v:=x.bs_lo+x.i2.toNat,w:=x.w,last:=x.last,xs:=x.xs,ys:=x.ys,oi_lo:=x.oi_lo,oi_len:=x.oi_len,oi_cap:=x.oi_cap,os_lo:=x.os_lo,os_len:=x.os_len,os_cap:=x.os_cap,bi_lo:=x.bi_lo,bi_len:=x.bi_len,bi_cap:=x.bi_cap,bs_lo:=x.bs_lo,bs_len:=x.bs_len,bs_cap:=x.bs_cap }) λy=>some (Sum.inl { n2:=x.n2,i2:=IntKind.i64.wrap (x.i2+1),w:=y.w,last:=y.last,xs:=y.xs,ys:=y.ys,oi_lo:=y.oi_lo,oi_len:=y.oi_len,oi_cap:=y.oi_cap,os_lo:=y.os_lo,os_len:=y.os_len,os_cap:=y.os_cap,bi_lo:=y.bi_lo,bi_len:=y.bi_len,bi_cap:=y.bi_cap,bs_lo:=y.bs_lo,bs_len:=y.bs_len,bs_cap:=y.bs_cap }) else none
else
 some
  (Sum.inr
   {w:=x.w,last:=x.last,xs:=x.xs,ys:=x.ys,oi_lo:=x.oi_lo,oi_len:=x.oi_len,oi_cap:=x.oi_cap,os_lo:=x.os_lo,os_len:=x.os_len,os_cap:=x.os_cap,
    bi_lo:=x.bi_lo,bi_len:=x.bi_len,bi_cap:=x.bi_cap,bs_lo:=x.bs_lo,bs_len:=x.bs_len,bs_cap:=x.bs_cap })
theorem JT(x:_):Le (i0_s1' x) (QK x):=by
 unfold i0_s1' QK
 repeat' first|with_reducible exact Le.refl _|with_reducible exact Y6 _|with_reducible apply Le.bind|with_reducible apply Le.cond|with_reducible apply Le.sum|intro _
def i0_s0'(x:QN):Option (QN⊕Qu):=bif decide (x.i<x.n) then bif inR x.i x.bi_len then Q1 (sb0a' { v:=x.bi_lo+x.i.toNat,w:=x.w,last:=x.last,xs:=x.xs,ys:=x.ys,oi_lo:=x.oi_lo,oi_len:=x.oi_len,oi_cap:=x.oi_cap,os_lo:=x.os_lo,os_len:=x.os_len,os_cap:=x.os_cap,bi_lo:=x.bi_lo,bi_len:=x.bi_len,bi_cap:=x.bi_cap,bs_lo:=x.bs_lo,bs_len:=x.bs_len,bs_cap:=x.bs_cap }) λy=>some (Sum.inl { n:=x.n,i:=IntKind.i64.wrap (x.i+1),w:=y.w,last:=y.last,xs:=y.xs,ys:=y.ys,oi_lo:=y.oi_lo,oi_len:=y.oi_len,oi_cap:=y.oi_cap,os_lo:=y.os_lo,os_len:=y.os_len,os_cap:=y.os_cap,bi_lo:=y.bi_lo,bi_len:=y.bi_len,bi_cap:=y.bi_cap,bs_lo:=y.bs_lo,bs_len:=y.bs_len,bs_cap:=y.bs_cap }) else none
else
 some
  (Sum.inr
   {w:=x.w,last:=x.last,xs:=x.xs,ys:=x.ys,oi_lo:=x.oi_lo,oi_len:=x.oi_len,oi_cap:=x.oi_cap,os_lo:=x.os_lo,os_len:=x.os_len,os_cap:=x.os_cap,
    bi_lo:=x.bi_lo,bi_len:=x.bi_len,bi_cap:=x.bi_cap,bs_lo:=x.bs_lo,bs_len:=x.bs_len,bs_cap:=x.bs_cap })
theorem JV(x:_):Le (i0_s0' x) (QL x):=by
 unfold i0_s0' QL
 repeat' first|with_reducible exact Le.refl _|with_reducible exact Y8 _|with_reducible apply Le.bind|with_reducible apply Le.cond|with_reducible apply Le.sum|intro _
def s0'(x:p0X):Option q0X:=Q1 (Qo i0_s0' 200 ⟨(↑x.bi_len:Int),0,x.w,x.last,x.xs,x.ys,x.oi_lo,x.oi_len,x.oi_cap,x.os_lo,x.os_len,x.os_cap,x.bi_lo,x.bi_len,x.bi_cap,x.bs_lo,x.bs_len,x.bs_cap⟩) λy=>Q1 (Qo i0_s1' 200 ⟨(↑y.bs_len:Int),0,y.w,y.last,y.xs,y.ys,y.oi_lo,y.oi_len,y.oi_cap,y.os_lo,y.os_len,y.os_cap,y.bi_lo,y.bi_len,y.bi_cap,y.bs_lo,y.bs_len,y.bs_cap⟩) λy=>some ⟨y.w,y.last,y.xs,y.ys,y.oi_lo,y.oi_len,y.oi_cap,y.os_lo,y.os_len,y.os_cap,y.bi_lo,y.bi_len,y.bi_cap,y.bs_lo,y.bs_len,y.bs_cap⟩
theorem Jn(x:_):Le (s0' x) (s0 x):=by
 unfold s0' s0
 repeat' first|with_reducible exact Le.refl _|with_reducible exact Le.iter JT _|with_reducible exact Le.iter JV _|with_reducible apply Le.bind|with_reducible apply Le.cond|with_reducible apply Le.sum|intro _
def m'(x:gX):Option fY:=Q1 (M29.m' ⟨x.i,x.s⟩) λy=>bif y !=0 then some ([],[],y) else bif x.w==0 then Q1 (M34.m ⟨x.i,x.s⟩) λy=>Q1 (M36o.m ⟨y.1,y.2.1,y.2.2.1,y.2.2.2.1,y.2.2.2.2.1,y.2.2.2.2.2.1,y.2.2.2.2.2.2.1,y.2.2.2.2.2.2.2⟩) λy_1=>Q1 (s0' ⟨x.w,0,y_1.1,y_1.2.1,y.1,y.2.1,y.2.2.1,y.2.2.2.1,y.2.2.2.2.1,y.2.2.2.2.2.1,y_1.2.2.1,y_1.2.2.2.1,y_1.2.2.2.2.1,y_1.2.2.2.2.2.1,y_1.2.2.2.2.2.2.1,y_1.2.2.2.2.2.2.2⟩) λy=>bif leB (y.oi_lo+y.oi_len) y.xs.length&&(leB (y.os_lo+y.os_len) y.ys.length&&true)&&true&&true&&true then some (List.take y.oi_len (List.drop y.oi_lo y.xs),List.take y.os_len (List.drop y.os_lo y.ys),0) else none else bif x.w==1 then Q1 (M34.m ⟨x.i,x.s⟩) λy=>Q1 (M36o.m ⟨y.1,y.2.1,y.2.2.1,y.2.2.2.1,y.2.2.2.2.1,y.2.2.2.2.2.1,y.2.2.2.2.2.2.1,y.2.2.2.2.2.2.2⟩) λy_1=>Q1 (s0' ⟨x.w,1,y_1.1,y_1.2.1,y.1,y.2.1,y.2.2.1,y.2.2.2.1,y.2.2.2.2.1,y.2.2.2.2.2.1,y_1.2.2.1,y_1.2.2.2.1,y_1.2.2.2.2.1,y_1.2.2.2.2.2.1,y_1.2.2.2.2.2.2.1,y_1.2.2.2.2.2.2.2⟩) λy=>bif leB (y.oi_lo+y.oi_len) y.xs.length&&(leB (y.os_lo+y.os_len) y.ys.length&&true)&&true&&true&&true then some (List.take y.oi_len (List.drop y.oi_lo y.xs),List.take y.os_len (List.drop y.os_lo y.ys),0) else none else bif x.w==2 then Q1 (M35.m' ⟨x.i,x.s⟩) λy=>Q1 (M40.m' ⟨y⟩) λy=>bif decide (y>=0) then Q1 (M35.m' ⟨x.i,x.s⟩) λy_1=>bif inR y (List.length y_1) then Q1 (M34.m ⟨x.i,x.s⟩) λy_2=>Q1 (M36o.m ⟨y_2.1,y_2.2.1,y_2.2.2.1,y_2.2.2.2.1,y_2.2.2.2.2.1,y_2.2.2.2.2.2.1,y_2.2.2.2.2.2.2.1,y_2.2.2.2.2.2.2.2⟩) λy_3=>Q1 (s0' ⟨x.w,y_1[Int.toNat y]?.getD 0,y_3.1,y_3.2.1,y_2.1,y_2.2.1,y_2.2.2.1,y_2.2.2.2.1,y_2.2.2.2.2.1,y_2.2.2.2.2.2.1,y_3.2.2.1,y_3.2.2.2.1,y_3.2.2.2.2.1,y_3.2.2.2.2.2.1,y_3.2.2.2.2.2.2.1,y_3.2.2.2.2.2.2.2⟩) λy=>bif leB (y.oi_lo+y.oi_len) y.xs.length&&(leB (y.os_lo+y.os_len) y.ys.length&&true)&&true&&true&&true then some (List.take y.oi_len (List.drop y.oi_lo y.xs),List.take y.os_len (List.drop y.os_lo y.ys),0) else none else none else Q1 (M34.m ⟨x.i,x.s⟩) λy=>Q1 (M36o.m ⟨y.1,y.2.1,y.2.2.1,y.2.2.2.1,y.2.2.2.2.1,y.2.2.2.2.2.1,y.2.2.2.2.2.2.1,y.2.2.2.2.2.2.2⟩) λy_1=>Q1 (s0' ⟨x.w,0,y_1.1,y_1.2.1,y.1,y.2.1,y.2.2.1,y.2.2.2.1,y.2.2.2.2.1,y.2.2.2.2.2.1,y_1.2.2.1,y_1.2.2.2.1,y_1.2.2.2.2.1,y_1.2.2.2.2.2.1,y_1.2.2.2.2.2.2.1,y_1.2.2.2.2.2.2.2⟩) λy=>bif leB (y.oi_lo+y.oi_len) y.xs.length&&(leB (y.os_lo+y.os_len) y.ys.length&&true)&&true&&true&&true then some (List.take y.oi_len (List.drop y.oi_lo y.xs),List.take y.os_len (List.drop y.os_lo y.ys),0) else none else some ([],[],1)
theorem Qw(x:_):Le (m' x) (m x):=by
 unfold m' m
 repeat' first|with_reducible exact Le.refl _|with_reducible exact M29.Qw _|with_reducible exact M35.Qw _|with_reducible exact M40.Qw _|with_reducible exact Jn _|with_reducible apply Le.bind|with_reducible apply Le.cond|with_reducible apply Le.sum|intro _
end M19
namespace M47
def m'(x:gX):Option fY:=Q1 (M53.m ⟨x.s,x.sep⟩) λy=>some (y.1,y.2.1,y.2.2)
theorem Qw(x:_):Le (m' x) (m x):=by
 unfold m' m
 repeat' first|with_reducible exact Le.refl _|with_reducible apply Le.bind|with_reducible apply Le.cond|with_reducible apply Le.sum|intro _
end M47
namespace M27
def sb0a'(x:XT):Option (ZG⊕bz0aX):=bif leB (x.left.length+x.right.length) 9223372036854775807 then bif inR x.i (x.left++x.right).length then Q1 (M48.m { s:=[48,49,88],c:=J8 (x.left++x.right) x.i.toNat }) λy=>bif decide (y<0) then some (Sum.inr { ri:=[],rs:=[],e:=4,left:=x.left,right:=x.right,xs:=x.xs,ys:=x.ys,oi_lo:=x.oi_lo,oi_len:=x.oi_len,oi_cap:=x.oi_cap,os_lo:=x.os_lo,os_len:=x.os_len,os_cap:=x.os_cap,bi_lo:=x.bi_lo,bi_len:=x.bi_len,bi_cap:=x.bi_cap,bs_lo:=x.bs_lo,bs_len:=x.bs_len,bs_cap:=x.bs_cap }) else bif decide (x.v<x.xs.length) then some (Sum.inl { ri:=x.ri,rs:=x.rs,e:=x.e,left:=x.left,right:=x.right,xs:=x.xs.set x.v (IntKind.u8.wrap y),ys:=x.ys,oi_lo:=x.oi_lo,oi_len:=x.oi_len,oi_cap:=x.oi_cap,os_lo:=x.os_lo,os_len:=x.os_len,os_cap:=x.os_cap,bi_lo:=x.bi_lo,bi_len:=x.bi_len,bi_cap:=x.bi_cap,bs_lo:=x.bs_lo,bs_len:=x.bs_len,bs_cap:=x.bs_cap }) else none else none
else none
theorem Y8(x:_):Le (sb0a' x) (Xo x):=by
 unfold sb0a' Xo
 repeat' first|with_reducible exact Le.refl _|with_reducible apply Le.bind|with_reducible apply Le.cond|with_reducible apply Le.sum|intro _
def sb0b'(x:XS):Option (ZF⊕bz0bX):=bif leB (x.left.length+x.right.length) 9223372036854775807 then bif inR x.i (x.left++x.right).length then Q1 (M48.m { s:=[48,49,88],c:=J8 (x.left++x.right) x.i.toNat }) λy=>bif decide (y<0) then some (Sum.inr { ri:=[],rs:=[],e:=4,left:=x.left,right:=x.right,xs:=x.xs,ys:=x.ys,oi_lo:=x.oi_lo,oi_len:=x.oi_len,oi_cap:=x.oi_cap,os_lo:=x.os_lo,os_len:=x.os_len,os_cap:=x.os_cap,bi_lo:=x.bi_lo,bi_len:=x.bi_len,bi_cap:=x.bi_cap,bs_lo:=x.bs_lo,bs_len:=x.bs_len,bs_cap:=x.bs_cap }) else bif decide (x.v<x.ys.length) then some (Sum.inl { ri:=x.ri,rs:=x.rs,e:=x.e,left:=x.left,right:=x.right,xs:=x.xs,ys:=x.ys.set x.v (IntKind.u8.wrap y),oi_lo:=x.oi_lo,oi_len:=x.oi_len,oi_cap:=x.oi_cap,os_lo:=x.os_lo,os_len:=x.os_len,os_cap:=x.os_cap,bi_lo:=x.bi_lo,bi_len:=x.bi_len,bi_cap:=x.bi_cap,bs_lo:=x.bs_lo,bs_len:=x.bs_len,bs_cap:=x.bs_cap }) else none else none
else none
theorem Y6(x:_):Le (sb0b' x) (Xn x):=by
 unfold sb0b' Xn
 repeat' first|with_reducible exact Le.refl _|with_reducible apply Le.bind|with_reducible apply Le.cond|with_reducible apply Le.sum|intro _
def i0_s1'(x:QM):Option (QM⊕(Qt⊕UI)):=bif decide (x.i2<x.n2) then bif inR x.i2 x.bs_len then Q1 (sb0b' { i:=IntKind.i64.wrap ((↑x.bi_len:Int)+x.i2),v:=x.bs_lo+x.i2.toNat,ri:=x.ri,rs:=x.rs,e:=x.e,left:=x.left,right:=x.right,xs:=x.xs,ys:=x.ys,oi_lo:=x.oi_lo,oi_len:=x.oi_len,oi_cap:=x.oi_cap,os_lo:=x.os_lo,os_len:=x.os_len,os_cap:=x.os_cap,bi_lo:=x.bi_lo,bi_len:=x.bi_len,bi_cap:=x.bi_cap,bs_lo:=x.bs_lo,bs_len:=x.bs_len,bs_cap:=x.bs_cap }) λs=>Qn s (λy=>some (Sum.inl { n2:=x.n2,i2:=IntKind.i64.wrap (x.i2+1),ri:=y.ri,rs:=y.rs,e:=y.e,left:=y.left,right:=y.right,xs:=y.xs,ys:=y.ys,oi_lo:=y.oi_lo,oi_len:=y.oi_len,oi_cap:=y.oi_cap,os_lo:=y.os_lo,os_len:=y.os_len,os_cap:=y.os_cap,bi_lo:=y.bi_lo,bi_len:=y.bi_len,bi_cap:=y.bi_cap,bs_lo:=y.bs_lo,bs_len:=y.bs_len,bs_cap:=y.bs_cap })) λz=>some (Sum.inr (Sum.inr { ri:=z.ri,rs:=z.rs,e:=z.e,left:=z.left,right:=z.right,xs:=z.xs,ys:=z.ys,oi_lo:=z.oi_lo,oi_len:=z.oi_len,oi_cap:=z.oi_cap,os_lo:=z.os_lo,os_len:=z.os_len,os_cap:=z.os_cap,bi_lo:=z.bi_lo,bi_len:=z.bi_len,bi_cap:=z.bi_cap,bs_lo:=z.bs_lo,bs_len:=z.bs_len,bs_cap:=z.bs_cap })) else none
else
 some
  (Sum.inr
   (Sum.inl
    {ri:=x.ri,rs:=x.rs,e:=x.e,left:=x.left,right:=x.right,xs:=x.xs,ys:=x.ys,oi_lo:=x.oi_lo,oi_len:=x.oi_len,oi_cap:=x.oi_cap,os_lo:=x.os_lo,
     os_len:=x.os_len,os_cap:=x.os_cap,bi_lo:=x.bi_lo,bi_len:=x.bi_len,bi_cap:=x.bi_cap,bs_lo:=x.bs_lo,bs_len:=x.bs_len,bs_cap:=x.bs_cap }))
theorem JT(x:_):Le (i0_s1' x) (QK x):=by
 unfold i0_s1' QK
 repeat' first|with_reducible exact Le.refl _|with_reducible exact Y6 _|with_reducible apply Le.bind|with_reducible apply Le.cond|with_reducible apply Le.sum|intro _
def i0_s0'(x:QN):Option (QN⊕(Qu⊕UJ)):=bif decide (x.i<x.n) then bif inR x.i x.bi_len then Q1 (sb0a' { i:=x.i,v:=x.bi_lo+x.i.toNat,ri:=x.ri,rs:=x.rs,e:=x.e,left:=x.left,right:=x.right,xs:=x.xs,ys:=x.ys,oi_lo:=x.oi_lo,oi_len:=x.oi_len,oi_cap:=x.oi_cap,os_lo:=x.os_lo,os_len:=x.os_len,os_cap:=x.os_cap,bi_lo:=x.bi_lo,bi_len:=x.bi_len,bi_cap:=x.bi_cap,bs_lo:=x.bs_lo,bs_len:=x.bs_len,bs_cap:=x.bs_cap }) λs=>Qn s (λy=>some (Sum.inl { n:=x.n,i:=IntKind.i64.wrap (x.i+1),ri:=y.ri,rs:=y.rs,e:=y.e,left:=y.left,right:=y.right,xs:=y.xs,ys:=y.ys,oi_lo:=y.oi_lo,oi_len:=y.oi_len,oi_cap:=y.oi_cap,os_lo:=y.os_lo,os_len:=y.os_len,os_cap:=y.os_cap,bi_lo:=y.bi_lo,bi_len:=y.bi_len,bi_cap:=y.bi_cap,bs_lo:=y.bs_lo,bs_len:=y.bs_len,bs_cap:=y.bs_cap })) λz=>some (Sum.inr (Sum.inr { ri:=z.ri,rs:=z.rs,e:=z.e,left:=z.left,right:=z.right,xs:=z.xs,ys:=z.ys,oi_lo:=z.oi_lo,oi_len:=z.oi_len,oi_cap:=z.oi_cap,os_lo:=z.os_lo,os_len:=z.os_len,os_cap:=z.os_cap,bi_lo:=z.bi_lo,bi_len:=z.bi_len,bi_cap:=z.bi_cap,bs_lo:=z.bs_lo,bs_len:=z.bs_len,bs_cap:=z.bs_cap })) else none
else
 some
  (Sum.inr
   (Sum.inl
    {ri:=x.ri,rs:=x.rs,e:=x.e,left:=x.left,right:=x.right,xs:=x.xs,ys:=x.ys,oi_lo:=x.oi_lo,oi_len:=x.oi_len,oi_cap:=x.oi_cap,os_lo:=x.os_lo,
     os_len:=x.os_len,os_cap:=x.os_cap,bi_lo:=x.bi_lo,bi_len:=x.bi_len,bi_cap:=x.bi_cap,bs_lo:=x.bs_lo,bs_len:=x.bs_len,bs_cap:=x.bs_cap }))
theorem JV(x:_):Le (i0_s0' x) (QL x):=by
 unfold i0_s0' QL
 repeat' first|with_reducible exact Le.refl _|with_reducible exact Y8 _|with_reducible apply Le.bind|with_reducible apply Le.cond|with_reducible apply Le.sum|intro _
def s0'(x:p0X):Option (q0X⊕z0X):=Q1 (Qo i0_s0' 200 ⟨(↑x.bi_len:Int),0,x.ri,x.rs,x.e,x.left,x.right,x.xs,x.ys,x.oi_lo,x.oi_len,x.oi_cap,x.os_lo,x.os_len,x.os_cap,x.bi_lo,x.bi_len,x.bi_cap,x.bs_lo,x.bs_len,x.bs_cap⟩) λs=>Qn s (λy=>Q1 (Qo i0_s1' 200 ⟨(↑y.bs_len:Int),0,y.ri,y.rs,y.e,y.left,y.right,y.xs,y.ys,y.oi_lo,y.oi_len,y.oi_cap,y.os_lo,y.os_len,y.os_cap,y.bi_lo,y.bi_len,y.bi_cap,y.bs_lo,y.bs_len,y.bs_cap⟩) λs=>Qn s (λy=>some (Sum.inl ⟨y.ri,y.rs,y.e,y.left,y.right,y.xs,y.ys,y.oi_lo,y.oi_len,y.oi_cap,y.os_lo,y.os_len,y.os_cap,y.bi_lo,y.bi_len,y.bi_cap,y.bs_lo,y.bs_len,y.bs_cap⟩)) λz=>some (Sum.inr ⟨z.ri,z.rs,z.e,z.left,z.right,z.xs,z.ys,z.oi_lo,z.oi_len,z.oi_cap,z.os_lo,z.os_len,z.os_cap,z.bi_lo,z.bi_len,z.bi_cap,z.bs_lo,z.bs_len,z.bs_cap⟩)) λz=>some (Sum.inr ⟨z.ri,z.rs,z.e,z.left,z.right,z.xs,z.ys,z.oi_lo,z.oi_len,z.oi_cap,z.os_lo,z.os_len,z.os_cap,z.bi_lo,z.bi_len,z.bi_cap,z.bs_lo,z.bs_len,z.bs_cap⟩)
theorem Jn(x:_):Le (s0' x) (s0 x):=by
 unfold s0' s0
 repeat' first|with_reducible exact Le.refl _|with_reducible exact Le.iter JT _|with_reducible exact Le.iter JV _|with_reducible apply Le.bind|with_reducible apply Le.cond|with_reducible apply Le.sum|intro _
def m'(x:gX):Option fY:=bif decide ((↑x.s.length:Int)>16385) then some ([],[],3) else Q1 (M47.m' ⟨x.s,[124]⟩) λy=>bif !y.2.2 then some ([],[],4) else bif decide (0<=(↑y.1.length:Int))&&decide ((↑y.1.length:Int)<=(↑y.1.length:Int))&&decide ((↑y.1.length:Int)*(↑1:Int)<=281474976710656)&&decide ((↑y.1.length:Int)<=9223372036854775807) then bif decide (0<=(↑y.2.1.length:Int))&&decide ((↑y.2.1.length:Int)<=(↑y.2.1.length:Int))&&decide ((↑y.2.1.length:Int)*(↑1:Int)<=281474976710656)&&decide ((↑y.2.1.length:Int)<=9223372036854775807) then Q1 (M36o.m ⟨0,(↑y.1.length:Int).toNat,(↑y.1.length:Int).toNat,0,(↑y.2.1.length:Int).toNat,(↑y.2.1.length:Int).toNat,List.replicate (↑y.1.length:Int).toNat (0:Int),List.replicate (↑y.2.1.length:Int).toNat (0:Int)⟩) λy_1=>Q1 (s0' ⟨[],[],0,y.1,y.2.1,y_1.1,y_1.2.1,0,(↑y.1.length:Int).toNat,(↑y.1.length:Int).toNat,0,(↑y.2.1.length:Int).toNat,(↑y.2.1.length:Int).toNat,y_1.2.2.1,y_1.2.2.2.1,y_1.2.2.2.2.1,y_1.2.2.2.2.2.1,y_1.2.2.2.2.2.2.1,y_1.2.2.2.2.2.2.2⟩) λs=>Qn s (λy=>bif leB (y.oi_lo+y.oi_len) y.xs.length&&(leB (y.os_lo+y.os_len) y.ys.length&&true)&&true&&true&&true then some (List.take y.oi_len (List.drop y.oi_lo y.xs),List.take y.os_len (List.drop y.os_lo y.ys),0) else none) λz=>some (z.ri,z.rs,z.e) else none else none
theorem Qw(x:_):Le (m' x) (m x):=by
 unfold m' m
 repeat' first|with_reducible exact Le.refl _|with_reducible exact M47.Qw _|with_reducible exact Jn _|with_reducible apply Le.bind|with_reducible apply Le.cond|with_reducible apply Le.sum|intro _
end M27
namespace M31
def m'(x:gX):Option fY:=Q1 (M27.m' ⟨x.s⟩) λy=>some (y.1,y.2.1)
theorem Qw(x:_):Le (m' x) (m x):=by
 unfold m' m
 repeat' first|with_reducible exact Le.refl _|with_reducible exact M27.Qw _|with_reducible apply Le.bind|with_reducible apply Le.cond|with_reducible apply Le.sum|intro _
end M31
namespace M51
def s0'(x:p0X):Option (p0X⊕(q0X⊕z0X)):=bif decide (x.i<x.n) then bif inR x.i x.s.length then Q1 (M43.m ⟨x.s[x.i.toNat]?.getD 0,x.pi,x.ps⟩) λy=>bif y.1 then some (Sum.inr (Sum.inr ⟨x.i,x.pi,x.ps⟩)) else some (Sum.inl ⟨x.s,x.n,IntKind.i64.wrap (x.i+1),x.pi,x.ps⟩) else none else some (Sum.inr (Sum.inl ⟨x.pi,x.ps⟩))
theorem Jn(x:_):Le (s0' x) (s0 x):=by
 unfold s0' s0
 repeat' first|with_reducible exact Le.refl _|with_reducible apply Le.bind|with_reducible apply Le.cond|with_reducible apply Le.sum|intro _
def m'(x:gX):Option fY:=Q1 (Qo s0' 200 ⟨x.s,(↑x.s.length:Int),0,x.pi,x.ps⟩) λs=>Qn s (λy=>some (-1,y.pi,y.ps)) λz=>some (z.r,z.pi,z.ps)
theorem Qw(x:_):Le (m' x) (m x):=by
 unfold m' m
 repeat' first|with_reducible exact Le.refl _|with_reducible exact Le.iter Jn _|with_reducible apply Le.bind|with_reducible apply Le.cond|with_reducible apply Le.sum|intro _
end M51
namespace M42
def m'(x:gX):Option fY:=Q1 (M51.m' ⟨x.s,x.pi,x.ps⟩) λy=>some (decide (y.1>=0),x.pi,x.ps)
theorem Qw(x:_):Le (m' x) (m x):=by
 unfold m' m
 repeat' first|with_reducible exact Le.refl _|with_reducible exact M51.Qw _|with_reducible apply Le.bind|with_reducible apply Le.cond|with_reducible apply Le.sum|intro _
end M42
namespace M23
def s0'(x:p0X):Option (p0X⊕q0X):=bif decide (x.i<x.n) then bif inR x.i x.l.length then bif decide (x.l[x.i.toNat]?.getD 0<(↑x.pi.length:Int)) then bif inR (x.l[x.i.toNat]?.getD 0) x.oi_len then bif decide (x.oi_lo+Int.toNat (x.l[x.i.toNat]?.getD 0)<x.xs.length) then some (Sum.inl ⟨x.l,x.n,IntKind.i64.wrap (x.i+1),x.pi,x.ps,x.xs.set (x.oi_lo+Int.toNat (x.l[x.i.toNat]?.getD 0)) 2,x.ys,x.oi_lo,x.oi_len,x.oi_cap,x.os_lo,x.os_len,x.os_cap⟩) else none else none else bif inR (IntKind.i64.wrap (x.l[x.i.toNat]?.getD 0 - (↑x.pi.length:Int))) x.os_len then bif decide (x.os_lo+(IntKind.i64.wrap (x.l[x.i.toNat]?.getD 0 - (↑x.pi.length:Int))).toNat<x.ys.length) then some (Sum.inl ⟨x.l,x.n,IntKind.i64.wrap (x.i+1),x.pi,x.ps,x.xs,x.ys.set (x.os_lo+(IntKind.i64.wrap (x.l[x.i.toNat]?.getD 0 - (↑x.pi.length:Int))).toNat) 2,x.oi_lo,x.oi_len,x.oi_cap,x.os_lo,x.os_len,x.os_cap⟩) else none else none else none else some (Sum.inr ⟨x.pi,x.ps,x.xs,x.ys,x.oi_lo,x.oi_len,x.oi_cap,x.os_lo,x.os_len,x.os_cap⟩)
theorem Jn(x:_):Le (s0' x) (s0 x):=by
 unfold s0' s0
 repeat' first|with_reducible exact Le.refl _|with_reducible apply Le.bind|with_reducible apply Le.cond|with_reducible apply Le.sum|intro _
def m'(x:gX):Option fY:=Q1 (M29.m' ⟨x.i,x.s⟩) λy=>bif y !=0 then some ([],[],y) else Q1 (M42.m' ⟨x.l,x.i,x.s⟩) λy=>bif y.1 then some ([],[],1) else Q1 (M34.m ⟨x.i,x.s⟩) λy=>Q1 (Qo s0' 200 ⟨x.l,(↑x.l.length:Int),0,x.i,x.s,y.2.2.2.2.2.2.1,y.2.2.2.2.2.2.2,y.1,y.2.1,y.2.2.1,y.2.2.2.1,y.2.2.2.2.1,y.2.2.2.2.2.1⟩) λy=>bif leB (y.oi_lo+y.oi_len) y.xs.length&&(leB (y.os_lo+y.os_len) y.ys.length&&true)&&true&&true&&true then some (List.take y.oi_len (List.drop y.oi_lo y.xs),List.take y.os_len (List.drop y.os_lo y.ys),0) else none
theorem Qw(x:_):Le (m' x) (m x):=by
 unfold m' m
 repeat' first|with_reducible exact Le.refl _|with_reducible exact M29.Qw _|with_reducible exact M42.Qw _|with_reducible exact Le.iter Jn _|with_reducible apply Le.bind|with_reducible apply Le.cond|with_reducible apply Le.sum|intro _
end M23
namespace M30
def sb1a'(x:bp1aX):Option bq1aX:=bif decide (x.v<x.xs.length) then bif x.xs[x.v]?.getD 0==2 then bif decide (0<=IntKind.i64.wrap (x.left - 1)) then bif decide (x.v<x.xs.length) then some { opn:=x.opn2,out_lo:=x.out_lo2,out_len:=x.out_len2,out_cap:=x.out_cap2,n:=x.n2,i:=x.i2,pi:=x.pi,ps:=x.ps,out:=x.out,x_lo:=x.x_lo,x_len:=x.x_len,x_cap:=x.x_cap,y_lo:=x.y_lo,y_len:=x.y_len,y_cap:=x.y_cap,out_r:=x.out_r,nn:=x.nn,xs:=x.xs.set x.v (IntKind.u8.wrap (IntKind.i64.wrap (↑(BitVec.ofInt 64 (x.nn.fdiv (2^min (IntKind.i64.wrap (x.left - 1)).toNat 64))&&&BitVec.ofInt 64 1).toNat:Int))),ys:=x.ys,left:=IntKind.i64.wrap (x.left - 1),bi_lo:=x.bi_lo,bi_len:=x.bi_len,bi_cap:=x.bi_cap,bs_lo:=x.bs_lo,bs_len:=x.bs_len,bs_cap:=x.bs_cap } else none else none else some { opn:=x.opn2,out_lo:=x.out_lo2,out_len:=x.out_len2,out_cap:=x.out_cap2,n:=x.n2,i:=x.i2,pi:=x.pi,ps:=x.ps,out:=x.out,x_lo:=x.x_lo,x_len:=x.x_len,x_cap:=x.x_cap,y_lo:=x.y_lo,y_len:=x.y_len,y_cap:=x.y_cap,out_r:=x.out_r,nn:=x.nn,xs:=x.xs,ys:=x.ys,left:=x.left,bi_lo:=x.bi_lo,bi_len:=x.bi_len,bi_cap:=x.bi_cap,bs_lo:=x.bs_lo,bs_len:=x.bs_len,bs_cap:=x.bs_cap }
else none
theorem sb1a_le(x:_):Le (sb1a' x) (sb1a x):=by
 unfold sb1a' sb1a
 repeat' first|with_reducible exact Le.refl _|with_reducible apply Le.bind|with_reducible apply Le.cond|with_reducible apply Le.sum|intro _
def sb1b'(x:bp1bX):Option bq1bX:=bif decide (x.v<x.ys.length) then bif x.ys[x.v]?.getD 0==2 then bif decide (0<=IntKind.i64.wrap (x.left - 1)) then bif decide (x.v<x.ys.length) then some { opn:=x.opn2,out_lo:=x.out_lo2,out_len:=x.out_len2,out_cap:=x.out_cap2,n:=x.n2,i:=x.i2,pi:=x.pi,ps:=x.ps,out:=x.out,x_lo:=x.x_lo,x_len:=x.x_len,x_cap:=x.x_cap,y_lo:=x.y_lo,y_len:=x.y_len,y_cap:=x.y_cap,out_r:=x.out_r,nn:=x.nn,xs:=x.xs,ys:=x.ys.set x.v (IntKind.u8.wrap (IntKind.i64.wrap (↑(BitVec.ofInt 64 (x.nn.fdiv (2^min (IntKind.i64.wrap (x.left - 1)).toNat 64))&&&BitVec.ofInt 64 1).toNat:Int))),left:=IntKind.i64.wrap (x.left - 1),bi_lo:=x.bi_lo,bi_len:=x.bi_len,bi_cap:=x.bi_cap,bs_lo:=x.bs_lo,bs_len:=x.bs_len,bs_cap:=x.bs_cap } else none else none else some { opn:=x.opn2,out_lo:=x.out_lo2,out_len:=x.out_len2,out_cap:=x.out_cap2,n:=x.n2,i:=x.i2,pi:=x.pi,ps:=x.ps,out:=x.out,x_lo:=x.x_lo,x_len:=x.x_len,x_cap:=x.x_cap,y_lo:=x.y_lo,y_len:=x.y_len,y_cap:=x.y_cap,out_r:=x.out_r,nn:=x.nn,xs:=x.xs,ys:=x.ys,left:=x.left,bi_lo:=x.bi_lo,bi_len:=x.bi_len,bi_cap:=x.bi_cap,bs_lo:=x.bs_lo,bs_len:=x.bs_len,bs_cap:=x.bs_cap }
else none
theorem sb1b_le(x:_):Le (sb1b' x) (sb1b x):=by
 unfold sb1b' sb1b
 repeat' first|with_reducible exact Le.refl _|with_reducible apply Le.bind|with_reducible apply Le.cond|with_reducible apply Le.sum|intro _
def i1_s1'(x:Vj):Option (Vj⊕i1_q1X):=bif decide (x.i2<x.n2) then bif inR x.i2 x.bs_len then Q1 (sb1b' { opn:=x.opn,out_lo:=x.out_lo,out_len:=x.out_len,out_cap:=x.out_cap,n:=x.n,i:=x.i,v:=x.bs_lo+x.i2.toNat,opn2:=x.opn,out_lo2:=x.out_lo,out_len2:=x.out_len,out_cap2:=x.out_cap,n2:=x.n,i2:=x.i,pi:=x.pi,ps:=x.ps,out:=x.out,x_lo:=x.x_lo,x_len:=x.x_len,x_cap:=x.x_cap,y_lo:=x.y_lo,y_len:=x.y_len,y_cap:=x.y_cap,out_r:=x.out_r,nn:=x.nn,xs:=x.xs,ys:=x.ys,left:=x.left,bi_lo:=x.bi_lo,bi_len:=x.bi_len,bi_cap:=x.bi_cap,bs_lo:=x.bs_lo,bs_len:=x.bs_len,bs_cap:=x.bs_cap }) λy=>some (Sum.inl { n2:=x.n2,i2:=IntKind.i64.wrap (x.i2+1),opn:=y.opn,out_lo:=y.out_lo,out_len:=y.out_len,out_cap:=y.out_cap,n:=y.n,i:=y.i,pi:=y.pi,ps:=y.ps,out:=y.out,x_lo:=y.x_lo,x_len:=y.x_len,x_cap:=y.x_cap,y_lo:=y.y_lo,y_len:=y.y_len,y_cap:=y.y_cap,out_r:=y.out_r,nn:=y.nn,xs:=y.xs,ys:=y.ys,left:=y.left,bi_lo:=y.bi_lo,bi_len:=y.bi_len,bi_cap:=y.bi_cap,bs_lo:=y.bs_lo,bs_len:=y.bs_len,bs_cap:=y.bs_cap }) else none
else
 some
  (Sum.inr
   {opn:=x.opn,out_lo:=x.out_lo,out_len:=x.out_len,out_cap:=x.out_cap,n:=x.n,i:=x.i,pi:=x.pi,ps:=x.ps,out:=x.out,x_lo:=x.x_lo,x_len:=x.x_len,
    x_cap:=x.x_cap,y_lo:=x.y_lo,y_len:=x.y_len,y_cap:=x.y_cap,out_r:=x.out_r,nn:=x.nn,xs:=x.xs,ys:=x.ys,left:=x.left,bi_lo:=x.bi_lo,
    bi_len:=x.bi_len,bi_cap:=x.bi_cap,bs_lo:=x.bs_lo,bs_len:=x.bs_len,bs_cap:=x.bs_cap })
theorem i1_s1_le(x:_):Le (i1_s1' x) (qH x):=by
 unfold i1_s1' qH
 repeat' first|with_reducible exact Le.refl _|with_reducible exact sb1b_le _|with_reducible apply Le.bind|with_reducible apply Le.cond|with_reducible apply Le.sum|intro _
def i1_s0'(x:Vk):Option (Vk⊕i1_q0X):=bif decide (x.i<x.n) then bif inR x.i x.bi_len then Q1 (sb1a' { opn:=x.opn,out_lo:=x.out_lo,out_len:=x.out_len,out_cap:=x.out_cap,n:=x.n2,i:=x.i2,v:=x.bi_lo+x.i.toNat,opn2:=x.opn,out_lo2:=x.out_lo,out_len2:=x.out_len,out_cap2:=x.out_cap,n2:=x.n2,i2:=x.i2,pi:=x.pi,ps:=x.ps,out:=x.out,x_lo:=x.x_lo,x_len:=x.x_len,x_cap:=x.x_cap,y_lo:=x.y_lo,y_len:=x.y_len,y_cap:=x.y_cap,out_r:=x.out_r,nn:=x.nn,xs:=x.xs,ys:=x.ys,left:=x.left,bi_lo:=x.bi_lo,bi_len:=x.bi_len,bi_cap:=x.bi_cap,bs_lo:=x.bs_lo,bs_len:=x.bs_len,bs_cap:=x.bs_cap }) λy=>some (Sum.inl { n:=x.n,i:=IntKind.i64.wrap (x.i+1),opn:=y.opn,out_lo:=y.out_lo,out_len:=y.out_len,out_cap:=y.out_cap,n2:=y.n,i2:=y.i,pi:=y.pi,ps:=y.ps,out:=y.out,x_lo:=y.x_lo,x_len:=y.x_len,x_cap:=y.x_cap,y_lo:=y.y_lo,y_len:=y.y_len,y_cap:=y.y_cap,out_r:=y.out_r,nn:=y.nn,xs:=y.xs,ys:=y.ys,left:=y.left,bi_lo:=y.bi_lo,bi_len:=y.bi_len,bi_cap:=y.bi_cap,bs_lo:=y.bs_lo,bs_len:=y.bs_len,bs_cap:=y.bs_cap }) else none
else
 some
  (Sum.inr
   {opn:=x.opn,out_lo:=x.out_lo,out_len:=x.out_len,out_cap:=x.out_cap,n:=x.n2,i:=x.i2,pi:=x.pi,ps:=x.ps,out:=x.out,x_lo:=x.x_lo,x_len:=x.x_len,
    x_cap:=x.x_cap,y_lo:=x.y_lo,y_len:=x.y_len,y_cap:=x.y_cap,out_r:=x.out_r,nn:=x.nn,xs:=x.xs,ys:=x.ys,left:=x.left,bi_lo:=x.bi_lo,
    bi_len:=x.bi_len,bi_cap:=x.bi_cap,bs_lo:=x.bs_lo,bs_len:=x.bs_len,bs_cap:=x.bs_cap })
theorem i1_s0_le(x:_):Le (i1_s0' x) (qI x):=by
 unfold i1_s0' qI
 repeat' first|with_reducible exact Le.refl _|with_reducible exact sb1a_le _|with_reducible apply Le.bind|with_reducible apply Le.cond|with_reducible apply Le.sum|intro _
def s1'(x:p1X):Option q1X:=Q1 (Qo i1_s0' 200 ⟨(↑x.bi_len:Int),0,x.opn,x.out_lo,x.out_len,x.out_cap,x.n,x.i,x.pi,x.ps,x.out,x.x_lo,x.x_len,x.x_cap,x.y_lo,x.y_len,x.y_cap,x.out_r,x.nn,x.xs,x.ys,x.left,x.bi_lo,x.bi_len,x.bi_cap,x.bs_lo,x.bs_len,x.bs_cap⟩) λy=>Q1 (Qo i1_s1' 200 ⟨(↑y.bs_len:Int),0,y.opn,y.out_lo,y.out_len,y.out_cap,y.n,y.i,y.pi,y.ps,y.out,y.x_lo,y.x_len,y.x_cap,y.y_lo,y.y_len,y.y_cap,y.out_r,y.nn,y.xs,y.ys,y.left,y.bi_lo,y.bi_len,y.bi_cap,y.bs_lo,y.bs_len,y.bs_cap⟩) λy=>some ⟨y.opn,y.out_lo,y.out_len,y.out_cap,y.n,y.i,y.pi,y.ps,y.out,y.x_lo,y.x_len,y.x_cap,y.y_lo,y.y_len,y.y_cap,y.out_r,y.nn,y.xs,y.ys,y.left,y.bi_lo,y.bi_len,y.bi_cap,y.bs_lo,y.bs_len,y.bs_cap⟩
theorem s1_le(x:_):Le (s1' x) (s1 x):=by
 unfold s1' s1
 repeat' first|with_reducible exact Le.refl _|with_reducible exact Le.iter i1_s1_le _|with_reducible exact Le.iter i1_s0_le _|with_reducible apply Le.bind|with_reducible apply Le.cond|with_reducible apply Le.sum|intro _
def s0'(x:p0X):Option (p0X⊕q0X):=bif decide (x.i<x.n) then Q1 (M34.m ⟨x.pi,x.ps⟩) λy=>bif inR x.i x.out_len then bif decide (x.out_lo+x.i.toNat<x.out.length) then bif inR x.i x.out_len then bif eqN (x.out_lo+x.i.toNat) (List.take (x.out_lo+x.i.toNat) x.out).length then Q1 (M36o.m ⟨y.1,y.2.1,y.2.2.1,y.2.2.2.1,y.2.2.2.2.1,y.2.2.2.2.2.1,y.2.2.2.2.2.2.1,y.2.2.2.2.2.2.2⟩) λy_1=>Q1 (s1' ⟨x.opn,x.out_lo,x.out_len,x.out_cap,x.n,x.i,x.pi,x.ps,List.take (x.out_lo+x.i.toNat) x.out,y.1,y.2.1,y.2.2.1,y.2.2.2.1,y.2.2.2.2.1,y.2.2.2.2.2.1,List.drop (x.out_lo+x.i.toNat+1) x.out,x.i,y_1.1,y_1.2.1,x.opn,y_1.2.2.1,y_1.2.2.2.1,y_1.2.2.2.2.1,y_1.2.2.2.2.2.1,y_1.2.2.2.2.2.2.1,y_1.2.2.2.2.2.2.2⟩) λy=>bif leB (y.x_lo+y.x_len) y.xs.length&&(leB (y.y_lo+y.y_len) y.ys.length&&true)&&true then some (Sum.inl ⟨y.opn,y.out_lo,y.out_len,y.out_cap,y.n,IntKind.i64.wrap (y.i+1),y.pi,y.ps,y.out++(List.take y.x_len (List.drop y.x_lo y.xs),List.take y.y_len (List.drop y.y_lo y.ys))::y.out_r⟩) else none else none else none else none else none else some (Sum.inr ⟨x.out_lo,x.out_len,x.out_cap,x.pi,x.ps,x.out⟩)
theorem Jn(x:_):Le (s0' x) (s0 x):=by
 unfold s0' s0
 repeat' first|with_reducible exact Le.refl _|with_reducible exact s1_le _|with_reducible apply Le.bind|with_reducible apply Le.cond|with_reducible apply Le.sum|intro _
def m'(x:gX):Option fY:=Q1 (M29.m' ⟨x.i,x.s⟩) λy=>bif y !=0 then some ([],y) else Q1 (M22.m' ⟨x.i,x.s⟩) λy=>bif decide (IntKind.i64.wrap (IntKind.i64.wrap ((↑x.i.length:Int)+(↑x.s.length:Int)) - y)>12) then some ([],3) else bif decide (0<=IntKind.i64.wrap (IntKind.i64.wrap ((↑x.i.length:Int)+(↑x.s.length:Int)) - y)) then bif decide (0<=IntKind.i64.wrap (1*2^min (IntKind.i64.wrap (IntKind.i64.wrap ((↑x.i.length:Int)+(↑x.s.length:Int)) - y)).toNat 64))&&decide (IntKind.i64.wrap (1*2^min (IntKind.i64.wrap (IntKind.i64.wrap ((↑x.i.length:Int)+(↑x.s.length:Int)) - y)).toNat 64)<=IntKind.i64.wrap (1*2^min (IntKind.i64.wrap (IntKind.i64.wrap ((↑x.i.length:Int)+(↑x.s.length:Int)) - y)).toNat 64))&&decide (IntKind.i64.wrap (1*2^min (IntKind.i64.wrap (IntKind.i64.wrap ((↑x.i.length:Int)+(↑x.s.length:Int)) - y)).toNat 64)*(↑48:Int)<=281474976710656)&&decide (IntKind.i64.wrap (1*2^min (IntKind.i64.wrap (IntKind.i64.wrap ((↑x.i.length:Int)+(↑x.s.length:Int)) - y)).toNat 64)<=9223372036854775807) then Q1 (Qo s0' 200 ⟨IntKind.i64.wrap (IntKind.i64.wrap ((↑x.i.length:Int)+(↑x.s.length:Int)) - y),0,(IntKind.i64.wrap (1*2^min (IntKind.i64.wrap (IntKind.i64.wrap ((↑x.i.length:Int)+(↑x.s.length:Int)) - y)).toNat 64)).toNat,(IntKind.i64.wrap (1*2^min (IntKind.i64.wrap (IntKind.i64.wrap ((↑x.i.length:Int)+(↑x.s.length:Int)) - y)).toNat 64)).toNat,(↑(IntKind.i64.wrap (1*2^min (IntKind.i64.wrap (IntKind.i64.wrap ((↑x.i.length:Int)+(↑x.s.length:Int)) - y)).toNat 64)).toNat:Int),0,x.i,x.s,List.replicate (IntKind.i64.wrap (1*2^min (IntKind.i64.wrap (IntKind.i64.wrap ((↑x.i.length:Int)+(↑x.s.length:Int)) - y)).toNat 64)).toNat ([],[])⟩) λy=>bif leB (y.out_lo+y.out_len) y.out.length&&true&&true&&true then some (List.take y.out_len (List.drop y.out_lo y.out),0) else none else none else none
theorem Qw(x:_):Le (m' x) (m x):=by
 unfold m' m
 repeat' first|with_reducible exact Le.refl _|with_reducible exact M29.Qw _|with_reducible exact M22.Qw _|with_reducible exact Le.iter Jn _|with_reducible apply Le.bind|with_reducible apply Le.cond|with_reducible apply Le.sum|intro _
end M30
namespace M26
def m'(x:gX):Option fY:=Q1 (M29.m' ⟨x.i,x.s⟩) λe=>bif e==0 then (bif okS x.i&&okS x.s then some (Qq x.i++124::Qq x.s) else none) else some []
theorem Qw(x:_):Le (m' x) (m x):=by
 unfold m' m
 repeat' first|with_reducible exact Le.refl _|with_reducible exact M29.Qw _|with_reducible apply Le.bind|with_reducible apply Le.cond|with_reducible apply Le.sum|intro _
end M26
namespace M10
def m'(x:gX):Option fY:=Q1 (M31.m' ⟨[48,88,88,124,49]⟩) λy=>Q1 (M31.m' ⟨[48,88,49,124,88]⟩) λy_1=>Q1 (M13.m' ⟨y.1,y.2,y_1.1,y_1.2⟩) λy=>Q1 (M31.m' ⟨[48,88,124]⟩) λy_2=>Q1 (M31.m' ⟨[49,88,124]⟩) λy_3=>Q1 (M13.m' ⟨y_2.1,y_2.2,y_3.1,y_3.2⟩) λy_4=>Q1 (M31.m' ⟨[88,88,49,88,124,48,88]⟩) λy_5=>Q1 (M19.m' ⟨y_5.1,y_5.2,2⟩) λy_6=>Q1 (M31.m' ⟨[88,88,49,88,124,48,88]⟩) λy_7=>Q1 (M19.m' ⟨y_7.1,y_7.2,1⟩) λy_8=>Q1 (M31.m' ⟨[88,48,124,88]⟩) λy_9=>Q1 (M30.m' ⟨y_9.1,y_9.2⟩) λy_10=>Q1 (bif !y.2.2 !=0 then M26.m' ⟨y.1,y.2.1⟩ else some []) λy_11=>Q1 (bif !bif bif y.2.2 !=0 then true else !y_11==[48,88,49,124,49] then true else y_4.2.2 !=9 then M31.m' ⟨[48,49,88,124,49]⟩ else some ([],[])) λy_12=>Q1 (bif !bif bif y.2.2 !=0 then true else !y_11==[48,88,49,124,49] then true else y_4.2.2 !=9 then M31.m' ⟨[49,48,88,124,88]⟩ else some ([],[])) λy_13=>Q1 (bif !bif bif y.2.2 !=0 then true else !y_11==[48,88,49,124,49] then true else y_4.2.2 !=9 then M18.m' ⟨y_12.1,y_12.2,y_13.1,y_13.2⟩ else some (Int.ofNat 0)) λy_14=>Q1 (bif !bif bif bif bif y.2.2 !=0 then true else !y_11==[48,88,49,124,49] then true else y_4.2.2 !=9 then true else y_14 !=2 then true else y_6.2.2 !=0 then M26.m' ⟨y_6.1,y_6.2.1⟩ else some []) λy_15=>Q1 (bif !bif bif bif bif bif bif y.2.2 !=0 then true else !y_11==[48,88,49,124,49] then true else y_4.2.2 !=9 then true else y_14 !=2 then true else y_6.2.2 !=0 then true else !y_15==[49,49,49,49,124,48,48] then true else y_8.2.2 !=0 then M26.m' ⟨y_8.1,y_8.2.1⟩ else some []) λy_16=>bif inR 1 y_10.1.length||!!bif bif bif bif bif bif bif bif bif y.2.2 !=0 then true else !y_11==[48,88,49,124,49] then true else y_4.2.2 !=9 then true else y_14 !=2 then true else y_6.2.2 !=0 then true else !y_15==[49,49,49,49,124,48,48] then true else y_8.2.2 !=0 then true else !y_16==[49,49,49,49,124,48,49] then true else y_10.2 !=0 then true else (↑y_10.1.length:Int) !=4 then Q1 (bif !bif bif bif bif bif bif bif bif bif y.2.2 !=0 then true else !y_11==[48,88,49,124,49] then true else y_4.2.2 !=9 then true else y_14 !=2 then true else y_6.2.2 !=0 then true else !y_15==[49,49,49,49,124,48,48] then true else y_8.2.2 !=0 then true else !y_16==[49,49,49,49,124,48,49] then true else y_10.2 !=0 then true else (↑y_10.1.length:Int) !=4 then M26.m' ⟨(y_10.1[1]?.getD ([],[])).1,(y_10.1[1]?.getD ([],[])).2⟩ else some []) λy_17=>bif inR 2 y_10.1.length||!!bif bif bif bif bif bif bif bif bif bif y.2.2 !=0 then true else !y_11==[48,88,49,124,49] then true else y_4.2.2 !=9 then true else y_14 !=2 then true else y_6.2.2 !=0 then true else !y_15==[49,49,49,49,124,48,48] then true else y_8.2.2 !=0 then true else !y_16==[49,49,49,49,124,48,49] then true else y_10.2 !=0 then true else (↑y_10.1.length:Int) !=4 then true else !y_17==[48,48,124,49] then Q1 (bif !bif bif bif bif bif bif bif bif bif bif y.2.2 !=0 then true else !y_11==[48,88,49,124,49] then true else y_4.2.2 !=9 then true else y_14 !=2 then true else y_6.2.2 !=0 then true else !y_15==[49,49,49,49,124,48,48] then true else y_8.2.2 !=0 then true else !y_16==[49,49,49,49,124,48,49] then true else y_10.2 !=0 then true else (↑y_10.1.length:Int) !=4 then true else !y_17==[48,48,124,49] then M26.m' ⟨(y_10.1[2]?.getD ([],[])).1,(y_10.1[2]?.getD ([],[])).2⟩ else some []) λy_18=>bif bif bif bif bif bif bif bif bif bif bif bif y.2.2 !=0 then true else !y_11==[48,88,49,124,49] then true else y_4.2.2 !=9 then true else y_14 !=2 then true else y_6.2.2 !=0 then true else !y_15==[49,49,49,49,124,48,48] then true else y_8.2.2 !=0 then true else !y_16==[49,49,49,49,124,48,49] then true else y_10.2 !=0 then true else (↑y_10.1.length:Int) !=4 then true else !y_17==[48,48,124,49] then true else !y_18==[49,48,124,48] then some false else Q1 (M31.m' ⟨[48,49,49,124,48]⟩) λy=>Q1 (M23.m' ⟨y.1,y.2,[0,3]⟩) λy=>Q1 (M27.m' ⟨[48,49]⟩) λy_19=>Q1 (M27.m' ⟨[48,124,50]⟩) λy_20=>Q1 (M27.m' ⟨[124]⟩) λy_21=>Q1 (M31.m' ⟨[88,49,124]⟩) λy_22=>Q1 (M31.m' ⟨[48,49,124]⟩) λy_23=>Q1 (M17.m' ⟨y_22.1,y_22.2,y_23.1,y_23.2⟩) λy_24=>Q1 (bif y_24 then M31.m' ⟨[48,49,124]⟩ else some ([],[])) λy_25=>Q1 (bif y_24 then M31.m' ⟨[88,49,124]⟩ else some ([],[])) λy_26=>Q1 (bif y_24 then M17.m' ⟨y_25.1,y_25.2,y_26.1,y_26.2⟩ else some false) λy_27=>Q1 (bif bif bif y_24 then !y_27 else false then y.2.2==0 else false then M26.m' ⟨y.1,y.2.1⟩ else some []) λy_28=>some (bif bif bif bif bif bif bif y_24 then !y_27 else false then y.2.2==0 else false then y_28==[88,49,49,124,88] else false then y_19.2.2==4 else false then y_20.2.2==4 else false then y_21.2.2==0 else false then IntKind.i64.wrap ((↑y_21.1.length:Int)+(↑y_21.2.1.length:Int))==0 else false) else none else none
theorem Qw(x:_):Le (m' x) (m x):=by
 unfold m' m
 repeat' first|with_reducible exact Le.refl _|with_reducible exact M18.Qw _|with_reducible exact M17.Qw _|with_reducible exact M13.Qw _|with_reducible exact M19.Qw _|with_reducible exact M27.Qw _|with_reducible exact M31.Qw _|with_reducible exact M23.Qw _|with_reducible exact M30.Qw _|with_reducible exact M26.Qw _|with_reducible apply Le.bind|with_reducible apply Le.cond|with_reducible apply Le.sum|intro _
end M10
theorem Jo:M10.m ()=some true:=M10.Qw _ _ (by kernel_rfl)
namespace Cu
theorem U2(l r:List Int)(h:l.length=r.length):(List.zipWith mn l r).length=l.length:=by rw[List.length_zipWith];omega
theorem J9(l:List Int):(vals l).length=l.length:=by simp[vals]
theorem WM{n:Nat}{q:List Int}(h:∀x∈q,0<=x):∀x∈shp n q,0<=x:=λx hx=>by
 obtain⟨k,_,rfl⟩:=List.mem_map.1 hx;show 0<=q[k]?.getD 2;by_cases hk:k<q.length
 ·rw[List.getElem?_eq_getElem hk];exact h _ (List.getElem_mem hk)
 ·rw[List.getElem?_eq_none (by omega)];decide
theorem jU{ai as_ bi bs:List Int}(h1:Vs ai)(h2:Vs as_)(h3:Vs bi)(h4:Vs bs)(e1:ai.length=bi.length)(e2:as_.length=bs.length)(h:ai.length+as_.length<=16384):
  M13.m ⟨ai,as_,bi,bs⟩=some (if comp ai as_ bi bs=true then (List.zipWith mn ai bi,List.zipWith mn as_ bs,0) else ([],[],9)):=by
 rw[m13 (by omega) (by omega) (by omega) (by omega),chk2_V h1 h2 h3 h4 e1 e2 h];simp
theorem UQ{ai as_ bi bs:List Int}(h1:Vs ai)(h2:Vs as_)(h3:Vs bi)(h4:Vs bs)(e1:ai.length=bi.length)(e2:as_.length=bs.length)(h:ai.length+as_.length<=16384):
  comp ai as_ bi bs=decide (cnt fd ai bi=0/\cnt fd as_ bs=0):=by
 unfold comp;rw[chk2_V h1 h2 h3 h4 e1 e2 h];congr 1;simp
theorem K1{ai as_ bi bs:List Int}(h1:Vs ai)(h2:Vs as_)(h3:Vs bi)(h4:Vs bs)(e1:ai.length=bi.length)(e2:as_.length=bs.length)(h:ai.length+as_.length<=16384):
  Jr ai as_ bi bs=decide (cnt fc ai bi=0/\cnt fc as_ bs=0):=by
 unfold Jr;rw[chk2_V h1 h2 h3 h4 e1 e2 h];congr 1;simp
end Cu
namespace Cu
theorem big_no{p:List Int×List Int}(h:bigP 30 p=false):p.1.length<=30/\p.2.length<=30:=by
 unfold bigP at h;by_cases h1:((p.1.length:Int)>30)
 ·simp[h1]at h
 ·by_cases h2:((p.2.length:Int)>30)
  ·simp[h1,h2]at h
  ·omega
theorem run5{xi xs yi ys zi zs:List Int}(p1:∀x∈xi,0<=x)(p2:∀x∈xs,0<=x)(p3:∀x∈yi,0<=x)(p4:∀x∈ys,0<=x)(p5:∀x∈zi,0<=x)(p6:∀x∈zs,0<=x):M5.m ⟨xi,xs,yi,ys,zi,zs⟩=some true:=by
 unfold M5.m;have h9:=m9 (most:=30) (l:=[(xi,xs),(yi,ys),(zi,zs)]) (by simp);simp only[h9,Q1]
 cases hb:[(xi,xs),(yi,ys),(zi,zs)].any (bigP 30) with
 |true=>simp only[Bool.not_true,Bool.not_false,cond_true,Jo]
 |false=>
  simp only[List.any_cons,List.any_nil,Bool.or_false,Bool.or_eq_false_iff]at hb;obtain⟨l1,l2⟩:=big_no hb.1;have l1:xi.length<=30:=l1;have l2:xs.length<=30:=l2;simp only[Bool.not_true,Bool.not_false,cond_false,m11 (show xi.length<=1000000 by omega) (show xs.length<=1000000 by omega),m12 (show xi.length<=1000000 by omega) (show xs.length<=1000000 by omega),
   m11 (show(shp xi.length yi).length<=1000000 by rw[Qs];omega) (show(shp xs.length ys).length<=1000000 by rw[Qs];omega),
   m11 (show(shp xi.length zi).length<=1000000 by rw[Qs];omega) (show(shp xs.length zs).length<=1000000 by rw[Qs];omega)]
  have vA:=XP p1;have vA':=XP p2;have vB:=XP (WM (n:=xi.length) p3);have vB':=XP (WM (n:=xs.length) p4);have vC:=XP (WM (n:=xi.length) p5);have vC':=XP (WM (n:=xs.length) p6);have eA:(vals xi).length<=30:=(by rw[J9];omega);have eA':(vals xs).length<=30:=(by rw[J9];omega);have eB:(vals xi).length=(vals (shp xi.length yi)).length:=(by rw[J9,J9,Qs]);have eB':(vals xs).length=(vals (shp xs.length ys)).length:=(by rw[J9,J9,Qs]);have eC:(vals xi).length=(vals (shp xi.length zi)).length:=(by rw[J9,J9,Qs]);have eC':(vals xs).length=(vals (shp xs.length zs)).length:=(by rw[J9,J9,Qs]);generalize vals xi=A at*
  generalize vals xs=A' at*
  generalize vals (shp xi.length yi)=B at*
  generalize vals (shp xs.length ys)=B' at*
  generalize vals (shp xi.length zi)=C at*
  generalize vals (shp xs.length zs)=C' at*
  clear h9 hb p1 p2 p3 p4 p5 p6 l1 l2;have cAB:=UQ vA vA' vB vB' eB eB' (by omega);have cBA:=UQ vB vB' vA vA' eB.symm eB'.symm (by omega);have cAA:=UQ vA vA' vA vA' rfl rfl (by omega);have cBC:=UQ vB vB' vC vC' (eB.symm.trans eC) (eB'.symm.trans eC') (by omega);have cBA:comp B B' A A'=comp A A' B B':=(by rw[cBA,cAB,decide_eq_decide];exact and_congr (cp_comm B A eB.symm) (cp_comm B' A' eB'.symm));obtain⟨sA1,sA2,sA3⟩:=self A vA;obtain⟨sA4,sA5,sA6⟩:=self A' vA';simp only[sA1,sA4,and_self,decide_true]at cAA;have vAB:=zw_V A B vA vB;have vAB':=zw_V A' B' vA' vB';have lAB:=U2 A B eB;have lAB':=U2 A' B' eB';have oAB:=K1 vA vA' vB vB' eB eB' (by omega);have oBA:=K1 vB vB' vA vA' eB.symm eB'.symm (by omega);have oAA:=K1 vA vA' vA vA' rfl rfl (by omega);have oAC:=K1 vA vA' vC vC' eC eC' (by omega);have oBC:=K1 vB vB' vC vC' (eB.symm.trans eC) (eB'.symm.trans eC') (by omega);have oXC:=K1 vAB vAB' vC vC' (lAB.trans eC) (lAB'.trans eC') (by omega);have oAX:=K1 vA vA' vAB vAB' lAB.symm lAB'.symm (by omega);have oBX:=K1 vB vB' vAB vAB' (eB.symm.trans lAB.symm) (eB'.symm.trans lAB'.symm) (by omega);simp only[sA3,sA6,and_self,decide_true]at oAA;obtain⟨t1,t2,t3⟩:=cov3 A B C eB (eB.symm.trans eC) vA vB vC;obtain⟨t1',t2',t3'⟩:=cov3 A' B' C' eB' (eB'.symm.trans eC') vA' vB' vC'
  -- the two orders:Covers(a,b),Covers(b,a),a=b
  have q25:M25.m ⟨A,A',B,B'⟩=some (decide (A=B/\A'=B')):=m25 (by omega) (by omega) (by omega) (by omega);have q17a:M17.m ⟨A,A',B,B'⟩=some (Jr A A' B B'):=m17 (by omega) (by omega) (by omega) (by omega);have q17b:M17.m ⟨B,B',A,A'⟩=some (Jr B B' A A'):=m17 (by omega) (by omega) (by omega) (by omega);have q17c:M17.m ⟨B,B',C,C'⟩=some (Jr B B' C C'):=m17 (by omega) (by omega) (by omega) (by omega);have q17d:M17.m ⟨A,A',C,C'⟩=some (Jr A A' C C'):=m17 (by omega) (by omega) (by omega) (by omega);have q17e:M17.m ⟨A,A',A,A'⟩=some true:=(m17 (by omega) (by omega) (by omega) (by omega)).trans (by rw[oAA]);have hord:Jr A A' B B'=true->Jr B B' A A'=decide (A=B/\A'=B'):=λh=>by
   rw[oAB,decide_eq_true_eq]at h;rw[oBA];by_cases e:A=B/\A'=B'
   ·obtain⟨rfl,rfl⟩:=e;simp[sA3,sA6]
   ·have:¬(cnt fc B A=0/\cnt fc B' A'=0):=λg=>e ⟨cov_eq A B eB vA vB h.1 g.1,cov_eq A' B' eB' vA' vB' h.2 g.2⟩;simp[e,this]
  have htr:Jr A A' B B'=true->Jr B B' C C'=true->Jr A A' C C'=true:=λh g=>(by rw[oAB,decide_eq_true_eq]at h;rw[oBC,decide_eq_true_eq]at g;rw[oAC,decide_eq_true_eq];exact⟨t1 h.1 g.1,t1' h.2 g.2⟩);have hlub:Jr A A' C C'=true->Jr B B' C C'=true->comp A A' B B'=true/\Jr (List.zipWith mn A B) (List.zipWith mn A' B') C C'=true:=λh g=>(by rw[oAC,decide_eq_true_eq]at h;rw[oBC,decide_eq_true_eq]at g;rw[cAB,oXC,decide_eq_true_eq,decide_eq_true_eq];exact⟨⟨(t2 h.1 g.1).1,(t2' h.2 g.2).1⟩,⟨(t2 h.1 g.1).2,(t2' h.2 g.2).2⟩⟩);simp only[jU vA vA' vB vB' eB eB' (by omega),jU vB vB' vA vA' eB.symm eB'.symm (by omega),jU vA vA' vA vA' rfl rfl (by omega),jU vB vB' vC vC' (eB.symm.trans eC) (eB'.symm.trans eC') (by omega),cAA,cBA,if_true,sA2,sA5,q17a,q17b,q17c,q17d,q17e,q25];have q25A:M25.m ⟨A,A',A,A'⟩=some true:=(m25 (by omega) (by omega) (by omega) (by omega)).trans (by simp);have zc:=zw_comm B A;have zc':=zw_comm B' A';simp only[zc,zc']
  cases hab:comp A A' B B' with
  |false=>
   obtain⟨v,r9⟩:∃v,M13.m ⟨[],[],C,C'⟩=some v:=⟨_,m13 (by simp) (by simp) (by omega) (by omega)⟩;have hl2:Jr A A' C C'=true->Jr B B' C C'=false:=λh=>by
    cases g:Jr B B' C C' with
    |false=>rfl
    |true=>have:=(hlub h g).1;rw[hab]at this;cases this
   cases hbc:comp B B' C C' with
   |false=>obtain⟨u,r10⟩:∃u,M13.m ⟨A,A',[],[]⟩=some u:=⟨_,m13 (by omega) (by omega) (by simp) (by simp)⟩;simp only[Bool.false_eq_true,if_false,r9,r10];cases h1:Jr A A' B B'<;>cases h2:Jr B B' C C'<;>cases h3:Jr A A' C C'<;>simp_all [Jo]
   |true=>obtain⟨u,r10⟩:∃u,M13.m ⟨A,A',List.zipWith mn B C,List.zipWith mn B' C'⟩=some u:=⟨_,m13 (by omega) (by omega) (by rw[List.length_zipWith];omega) (by rw[List.length_zipWith];omega)⟩;simp only[Bool.false_eq_true,if_false,if_true,r9,r10];cases h1:Jr A A' B B'<;>cases h2:Jr B B' C C'<;>cases h3:Jr A A' C C'<;>simp_all [Jo]
  |true=>
   have hab':=hab;rw[cAB,decide_eq_true_eq]at hab';obtain⟨g1,g2⟩:=cov2 A B eB vA vB hab'.1;obtain⟨g1',g2'⟩:=cov2 A' B' eB' vA' vB' hab'.2;have mX:(List.zipWith mn A B).length<=1000000:=(by omega);have mX':(List.zipWith mn A' B').length<=1000000:=(by omega);have q25X:M25.m ⟨List.zipWith mn A B,List.zipWith mn A' B',List.zipWith mn A B,List.zipWith mn A' B'⟩=some true:=(m25 mX mX' mX mX').trans (by simp);have q17x:M17.m ⟨A,A',List.zipWith mn A B,List.zipWith mn A' B'⟩=some true:=(m17 (by omega) (by omega) mX mX').trans (by rw[oAX];simp[g1,g1']);have q17y:M17.m ⟨B,B',List.zipWith mn A B,List.zipWith mn A' B'⟩=some true:=(m17 (by omega) (by omega) mX mX').trans (by rw[oBX];simp[g2,g2']);have q17z:M17.m ⟨List.zipWith mn A B,List.zipWith mn A' B',C,C'⟩=some (Jr (List.zipWith mn A B) (List.zipWith mn A' B') C C'):=m17 mX mX' (by omega) (by omega);have hl2:Jr A A' C C'=true->Jr B B' C C'=true->Jr (List.zipWith mn A B) (List.zipWith mn A' B') C C'=true:=λh g=>(hlub h g).2
   cases hbc:comp B B' C C' with
   |false=>obtain⟨v,r9⟩:∃v,M13.m ⟨List.zipWith mn A B,List.zipWith mn A' B',C,C'⟩=some v:=⟨_,m13 mX mX' (by omega) (by omega)⟩;obtain⟨u,r10⟩:∃u,M13.m ⟨A,A',[],[]⟩=some u:=⟨_,m13 (by omega) (by omega) (by simp) (by simp)⟩;simp only[Bool.false_eq_true,if_false,if_true,r9,r10,q25X,q25A,q17x,q17y,q17z];cases h1:Jr A A' B B'<;>cases h2:Jr B B' C C'<;>cases h3:Jr A A' C C'<;>simp_all [Jo]
   |true=>
    have hbc':=hbc;rw[cBC,decide_eq_true_eq]at hbc';obtain⟨k1,k2⟩:=t3 hab'.1 hbc'.1;obtain⟨k1',k2'⟩:=t3' hab'.2 hbc'.2;have vBC:=zw_V B C vB vC;have vBC':=zw_V B' C' vB' vC';have lBC:=U2 B C (eB.symm.trans eC);have lBC':=U2 B' C' (eB'.symm.trans eC');have r9:=jU vAB vAB' vC vC' (lAB.trans eC) (lAB'.trans eC') (by omega);have r10:=jU vA vA' vBC vBC' (eB.trans lBC.symm) (eB'.trans lBC'.symm) (by omega);have c9:=UQ vAB vAB' vC vC' (lAB.trans eC) (lAB'.trans eC') (by omega);have c10:=UQ vA vA' vBC vBC' (eB.trans lBC.symm) (eB'.trans lBC'.symm) (by omega);have ce:comp A A' (List.zipWith mn B C) (List.zipWith mn B' C')=comp (List.zipWith mn A B) (List.zipWith mn A' B') C C':=(by rw[c9,c10,decide_eq_decide];exact and_congr k1.symm k1'.symm);rw[ce,<-k2,<-k2']at r10;have mY:(List.zipWith mn (List.zipWith mn A B) C).length<=1000000:=(by rw[List.length_zipWith];omega);have mY':(List.zipWith mn (List.zipWith mn A' B') C').length<=1000000:=(by rw[List.length_zipWith];omega);have q25Y:M25.m ⟨List.zipWith mn (List.zipWith mn A B) C,List.zipWith mn (List.zipWith mn A' B') C',List.zipWith mn (List.zipWith mn A B) C,List.zipWith mn (List.zipWith mn A' B') C'⟩=some true:=(m25 mY mY' mY mY').trans (by simp)
    cases hx:comp (List.zipWith mn A B) (List.zipWith mn A' B') C C' with
    |false=>rw[hx]at r9 r10;simp only[Bool.false_eq_true,if_false]at r9 r10;simp only[if_true,r9,r10,q25X,q25A,q17x,q17y,q17z];cases h1:Jr A A' B B'<;>cases h2:Jr B B' C C'<;>cases h3:Jr A A' C C'<;>simp_all [Jo]
    |true=>rw[hx]at r9 r10;simp only[if_true]at r9 r10;simp only[if_true,r9,r10,q25X,q25Y,q25A,q17x,q17y,q17z];cases h1:Jr A A' B B'<;>cases h2:Jr B B' C C'<;>cases h3:Jr A A' C C'<;>simp_all [Jo]
end Cu
namespace Cu
def okb(b:UInt8):Bool:=b==48||b==49||b==88
def vl(b:UInt8):Int:=if b=48 then 0 else if b=49 then 1 else 2
def fv(l:List UInt8)(k:Nat):List Int:=(l.take k).map vl++List.replicate (l.length - k) 0
theorem ix3(b:UInt8):Lib.indexByte [48,49,88] b=if okb b=true then vl b else -1:=by
 by_cases h0:b=48
 ·subst h0;rfl
 ·by_cases h1:b=49
  ·subst h1;rfl
  ·by_cases h2:b=88
   ·subst h2;rfl
   ·simp[Lib.indexByte,okb,h0,h1,h2,Ne.symm h0,Ne.symm h1,Ne.symm h2]
theorem byteAt_at{s:List UInt8}{i:Nat}(h:i<s.length):(J8 s i).toNat.toUInt8=s[i]:=by unfold J8;rw[List.getElem?_eq_getElem h];simp
theorem fv_set{l:List UInt8}{k:Nat}(h:k<l.length):(fv l k).set k (vl l[k])=fv l (k+1):=by
 unfold fv;rw[List.take_succ_eq_append_getElem h,List.map_append];have e:l.length - k=(l.length - (k+1))+1:=by omega
 rw[e,List.replicate_succ,List.set_append_right _ _ (by simp;omega)];simp[Nat.min_eq_left (Nat.le_of_lt h)]
theorem Vm{l:List UInt8}{k:Nat}(h:k<=l.length):(fv l k).length=l.length:=by unfold fv;simp;omega
theorem fv_zero(l:List UInt8):fv l 0=List.replicate l.length 0:=by simp[fv]
theorem fv_full(l:List UInt8):fv l l.length=l.map vl:=by simp[fv]
theorem vl_ge(b:UInt8):0<=vl b/\vl b<=2:=by unfold vl;split<;>(try split)<;>omega
theorem u8_vl(b:UInt8):IntKind.u8.wrap (vl b)=vl b:=by
 unfold vl;split
 ·rfl
 ·split<;>rfl
theorem cut_bar(s:List UInt8):(124∉s/\Lib.cut s [124]=(s,[],false))\/∃l r,s=l++124::r/\124∉l/\Lib.cut s [124]=(l,r,true):=by
 unfold Lib.cut;rw[Lib.index_one];have hge:=Lib.indexByte_ge s 124;by_cases h:Lib.indexByte s 124= -1
 ·left;have hn:=Lib.indexByte_none h;rw[h];refine⟨λhm=> ?_,rfl⟩;obtain⟨k,hk⟩:=List.mem_iff_getElem?.1 hm;exact hn k hk
 ·right;obtain⟨o,ho⟩:∃o:Nat,Lib.indexByte s 124=o:=⟨(Lib.indexByte s 124).toNat,by omega⟩;obtain⟨h1,h2⟩:=Lib.indexByte_some ho;rw[ho,if_pos (by omega)];have hlt:o<s.length:=by
   rcases Nat.lt_or_ge o s.length with h|h
   ·exact h
   ·rw[List.getElem?_eq_none h]at h1;cases h1
  have e:s[o]=124:=(by rw[List.getElem?_eq_getElem hlt]at h1;injection h1);refine⟨s.take o,s.drop (o+1),?_,?_,?_⟩
  ·rw[<-e,<-List.drop_eq_getElem_cons hlt,List.take_append_drop]
  ·intro hm;obtain⟨k,hk⟩:=List.mem_iff_getElem?.1 hm;by_cases hko:k<o
   ·rw[List.getElem?_take_of_lt hko]at hk;exact h2 k hko hk
   ·rw[List.getElem?_eq_none (by simp;omega)]at hk;cases hk
  ·simp
theorem cut_of{l r:List UInt8}(h:124∉l):Lib.cut (l++124::r) [124]=(l,r,true):=by
 rcases cut_bar (l++124::r) with ⟨h1,_⟩|⟨l',r',h1,h2,h3⟩
 ·exact absurd (by simp) h1
 ·have key:∀(l l' r r':List UInt8),124∉l->124∉l'->l++124::r=l'++124::r'->l=l'/\r=r':=by
   intro l
   induction l with
   |nil=>
    intro l' r r' _ h' he
    cases l' with
    |nil=>simp at he;exact⟨rfl,he⟩
    |cons x l'=>simp at he;exact absurd (by simp[he.1]) h'
   |cons x l ih=>
    intro l' r r' h h' he
    cases l' with
    |nil=>simp at he;exact absurd (by simp[he.1]) h
    |cons y l'=>simp only[List.cons_append,List.cons.injEq]at he;obtain⟨a,b⟩:=ih l' r r' (λhm=>h (by simp[hm])) (λhm=>h' (by simp[hm])) he.2;exact⟨by rw[he.1,a],b⟩
  obtain⟨a,b⟩:=key l l' r r' h h2 h1;rw[h3,a,b]
theorem m27{s:List UInt8}(hs:s.length<=16385):M27.m ⟨s⟩=some (
  if 124∈s then (if ((Lib.cut s [124]).1++(Lib.cut s [124]).2.1).all okb=true then ((Lib.cut s [124]).1.map vl,(Lib.cut s [124]).2.1.map vl,0) else ([],[],4)) else ([],[],4)):=by
 have hg:¬((s.length:Int)>16385):=by omega
 have hb:Nat.ble s.length 1000000000=true:=Nat.ble_eq_true_of_le (by omega);unfold M27.m M47.m M53.m;simp only[hg,decide_false,cond_false,hb,cond_true,Q1];rcases cut_bar s with ⟨h1,h2⟩|⟨l,r,h1,h2,h3⟩
 ·rw[h2,if_neg h1];rfl
 ·have hm:124∈s:=(by rw[h1];simp);rw[h3,if_pos hm];have hl:l.length+r.length+1=s.length:=(by rw[h1];simp;omega);have g1:∀n:Nat,n<=16385->(decide (0<=(n:Int))&&decide ((n:Int)<=(n:Int))&&decide ((n:Int)*1<=281474976710656)&&decide ((n:Int)<=9223372036854775807))=true:=λn hn=>(by simp;omega);simp only[Bool.not_true,cond_false,Int.ofNat_one,Int.natCast_one,g1 l.length (by omega),g1 r.length (by omega),cond_true,M36o.m,Q1,Int.toNat_natCast,<-fv_zero];have hle:leB (l.length+r.length) 9223372036854775807=true:=(by simp[leB];omega);have k0:=Zj (step:=M27.QL) (λk=>⟨(l.length:Int),(k:Int),[],[],0,l,r,fv l k,fv r 0,0,l.length,l.length,0,r.length,r.length,0,l.length,l.length,0,r.length,r.length⟩) l (λb=>!okb b)
   (λk=>.inr ⟨[],[],4,l,r,fv l k,fv r 0,0,l.length,l.length,0,r.length,r.length,0,l.length,l.length,0,r.length,r.length⟩)
   (y:=.inl ⟨[],[],0,l,r,fv l l.length,fv r 0,0,l.length,l.length,0,r.length,r.length,0,l.length,l.length,0,r.length,r.length⟩) (λk hk=>by
   have e1:((k:Int)<(l.length:Int)):=(by omega);have e2:inR (k:Int) (l++r).length=true:=QC (by simp;omega);have e3:(J8 (l++r) (k:Int).toNat).toNat.toUInt8=l[k]:=(by rw[Int.toNat_natCast,byteAt_at (by simp;omega),List.getElem_append_left hk]);have e4:0+(k:Int).toNat<(fv l k).length:=(by rw[Vm (by omega)];simp;omega);unfold M27.QL M27.Xo M48.m;simp only[e1,QC hk,e2,hle,e3,ix3,suc (show k<9000000000000000000 by omega),decide_true,cond_true,Q1]
   cases ho:okb l[k] with
   |false=>simp[Qn]
   |true=>
    have:=vl_ge l[k];have n1:¬(vl l[k]<0):=(by omega);simp only[if_true,n1,decide_false,cond_false,e4,decide_true,cond_true,Qn,Bool.not_true,Bool.false_eq_true,if_false,u8_vl];rw[show 0+(k:Int).toNat=k by simp,fv_set hk]) (by unfold M27.QL;simp)
  have k1:=Zj (step:=M27.QK) (λk=>⟨(r.length:Int),(k:Int),[],[],0,l,r,fv l l.length,fv r k,0,l.length,l.length,0,r.length,r.length,0,l.length,l.length,0,r.length,r.length⟩) r (λb=>!okb b)
   (λk=>.inr ⟨[],[],4,l,r,fv l l.length,fv r k,0,l.length,l.length,0,r.length,r.length,0,l.length,l.length,0,r.length,r.length⟩)
   (y:=.inl ⟨[],[],0,l,r,fv l l.length,fv r r.length,0,l.length,l.length,0,r.length,r.length,0,l.length,l.length,0,r.length,r.length⟩) (λk hk=>by
   have e1:((k:Int)<(r.length:Int)):=(by omega);have ew:IntKind.i64.wrap ((l.length:Int)+(k:Int))=((l.length+k:Nat):Int):=(by rw[w64 (by omega) (by omega)];omega);have e2:inR ((l.length+k:Nat):Int) (l++r).length=true:=QC (by simp;omega);have e3:(J8 (l++r) (((l.length+k:Nat):Int)).toNat).toNat.toUInt8=r[k]:=(by rw[Int.toNat_natCast,byteAt_at (by simp;omega),List.getElem_append_right (by omega)];simp);have e4:0+(k:Int).toNat<(fv r k).length:=(by rw[Vm (by omega)];simp;omega);unfold M27.QK M27.Xn M48.m;simp only[e1,QC hk,ew,e2,hle,e3,ix3,suc (show k<9000000000000000000 by omega),decide_true,cond_true,Q1]
   cases ho:okb r[k] with
   |false=>simp[Qn]
   |true=>
    have:=vl_ge r[k];have n1:¬(vl r[k]<0):=(by omega);simp only[if_true,n1,decide_false,cond_false,e4,decide_true,cond_true,Qn,Bool.not_true,Bool.false_eq_true,if_false,u8_vl];rw[show 0+(k:Int).toNat=k by simp,fv_set hk]) (by unfold M27.QK;simp)
  have hall:(l++r).all okb=(!(l.any λb=>!okb b)&&!(r.any λb=>!okb b)):=(by rw[List.all_append,List.all_eq_not_any_not,List.all_eq_not_any_not]);rw[hall];unfold M27.s0;rcases k0 with ⟨a1,t,a2⟩|⟨a1,a2⟩
  ·have a2:iter M27.QL ⟨(l.length:Int),0,[],[],0,l,r,fv l 0,fv r 0,0,l.length,l.length,0,r.length,r.length,0,l.length,l.length,0,r.length,r.length⟩=_:=a2;simp only[a2,Q1,Qn,a1,Bool.not_true,Bool.false_and,Bool.false_eq_true,if_false]
  ·have a2:iter M27.QL ⟨(l.length:Int),0,[],[],0,l,r,fv l 0,fv r 0,0,l.length,l.length,0,r.length,r.length,0,l.length,l.length,0,r.length,r.length⟩=_:=a2;simp only[a2,Q1,Qn,a1];rcases k1 with ⟨b1,t,b2⟩|⟨b1,b2⟩
   ·have b2:iter M27.QK ⟨(r.length:Int),0,[],[],0,l,r,fv l l.length,fv r 0,0,l.length,l.length,0,r.length,r.length,0,l.length,l.length,0,r.length,r.length⟩=_:=b2;simp only[b2,Q1,Qn,b1];rfl
   ·have b2:iter M27.QK ⟨(r.length:Int),0,[],[],0,l,r,fv l l.length,fv r 0,0,l.length,l.length,0,r.length,r.length,0,l.length,l.length,0,r.length,r.length⟩=_:=b2;have q1:leB (0+l.length) (fv l l.length).length=true:=(by rw[Vm (Nat.le_refl _)];simp[leB]);have q2:leB (0+r.length) (fv r r.length).length=true:=(by rw[Vm (Nat.le_refl _)];simp[leB]);simp only[b2,Q1,Qn,b1,q1,q2,Bool.and_self,Bool.not_false,cond_true,if_true,List.drop_zero];rw[List.take_of_length_le (by rw[Vm (Nat.le_refl _)];omega),List.take_of_length_le (by rw[Vm (Nat.le_refl _)];omega),fv_full,fv_full]
end Cu
namespace Cu
theorem ZR{Y α:Type}(E:Unit->Y):∀(l:List α),scan (λ(_:Unit) (_:α)=>(.inl ():Unit⊕Y)) E () l=E ()
 |[]=>rfl
 |_::l=>by unfold scan;exact ZR E l
theorem okS_V{l:List Int}(h:Vs l)(hl:l.length<=1000000):M26.okS l=true:=by unfold M26.okS;rw[Bool.and_eq_true];refine⟨List.all_eq_true.2 λx hx=> ?_,Nat.ble_eq_true_of_le hl⟩;rcases h x hx with rfl|rfl|rfl<;>rfl
theorem m26_V{i s:List Int}(h1:Vs i)(h2:Vs s)(h:i.length+s.length<=16384):M26.m ⟨i,s⟩=some (Qq i++124::Qq s):=by unfold M26.m;simp only[m29 (show i.length<=1000000 by omega) (show s.length<=1000000 by omega),qP h1 h2 h,Q1,okS_V h1 (by omega),okS_V h2 (by omega)];rfl
theorem sgn_Va{v:Int}(h:Va v):okb (sgn v)=true/\vl (sgn v)=v/\sgn v≠124:=by rcases h with rfl|rfl|rfl<;>exact⟨by decide,by decide,by decide⟩
theorem sgns_V{l:List Int}(h:Vs l):(Qq l).all okb=true/\(Qq l).map vl=l/\124∉Qq l:=by
 induction l with
 |nil=>exact⟨rfl,rfl,by simp[Qq]⟩
 |cons x l ih=>
  obtain⟨a,b,c⟩:=ih h.tl;obtain⟨a',b',c'⟩:=sgn_Va h.hd;refine⟨?_,?_,?_⟩
  ·show(okb (sgn x)&&(Qq l).all okb)=true;rw[a,a'];rfl
  ·show vl (sgn x)::(Qq l).map vl=_;rw[b,b']
  ·show 124∉sgn x::Qq l;simp[c,Ne.symm c']
theorem sgn_vl{b:UInt8}(h:okb b=true):sgn (vl b)=b/\Va (vl b):=by
 unfold okb at h;simp only[Bool.or_eq_true,beq_iff_eq]at h;rcases h with (rfl|rfl)|rfl
 ·exact⟨rfl,.inl rfl⟩
 ·exact⟨rfl,.inr (.inl rfl)⟩
 ·exact⟨rfl,.inr (.inr rfl)⟩
theorem sgns_vl{l:List UInt8}(h:l.all okb=true):Qq (l.map vl)=l/\Vs (l.map vl):=by
 induction l with
 |nil=>exact⟨rfl,λx hx=>by simp at hx⟩
 |cons x l ih=>
  rw[List.all_cons,Bool.and_eq_true]at h;obtain⟨a,b⟩:=ih h.2;obtain⟨a',b'⟩:=sgn_vl h.1;refine⟨?_,?_⟩
  ·show sgn (vl x)::Qq (l.map vl)=_;rw[a,a']
  ·intro y hy;rcases List.mem_cons.1 hy with rfl|hy
   ·exact b'
   ·exact b y hy
theorem Um{i s:List Int}(h1:Vs i)(h2:Vs s)(h:i.length+s.length<=16384):M27.m ⟨Qq i++124::Qq s⟩=some (i,s,0):=by obtain⟨a,b,c⟩:=sgns_V h1;obtain⟨a',b',_⟩:=sgns_V h2;rw[m27 (by simp[Qq];omega),cut_of c,if_pos (by simp),if_pos (by rw[List.all_append,a,a'];rfl),b,b']
theorem ZW{s:List UInt8}{i:Nat}(h:i<s.length):J8 s i=(s[i].toNat:Int):=by unfold J8;rw[List.getElem?_eq_getElem h];rfl
theorem qj(b:UInt8)(n:Nat)(hn:n<256):(((b.toNat:Nat):Int)==(n:Int))=(b==UInt8.ofNat n):=by
 rw[Bool.eq_iff_iff,beq_iff_eq,beq_iff_eq];constructor
 ·intro h;have h:b.toNat=n:=(by omega);rw[<-h];simp
 ·rintro rfl;simp;omega
def nb(s:List UInt8):Nat:=s.count 124
def gd(s:List UInt8):Bool:=s.all λb=>b==124||okb b
theorem nb_le(s:List UInt8):nb s<=s.length:=List.count_le_length
theorem s1_run{s:List UInt8}(hs:s.length<=60):iter M6.s1 ⟨s,0,true,0⟩=some ⟨s,(nb s:Int),gd s⟩:=by
 have key:=QR (step:=M6.s1) (λi (_:Unit)=>⟨s,(nb (s.take i):Int),gd (s.take i),(i:Int)⟩) s (λ_ _=>.inl ()) (λ_=>⟨s,(nb s:Int),gd s⟩) (λ_ _=>True) (λi hi _ _=>by
  have e1:((i:Int)<(s.length:Int)):=(by omega);have hn:nb (s.take (i+1))=nb (s.take i)+(if (s[i]==124)=true then 1 else 0):=(by unfold nb;rw[List.take_succ_eq_append_getElem hi,List.count_append,List.count_singleton]);have hg:gd (s.take (i+1))=(gd (s.take i)&&(s[i]==124||okb s[i])):=(by unfold gd;rw[List.take_succ_eq_append_getElem hi,List.all_append];simp);have hle:=nb_le (s.take i);have hll:(s.take i).length<=s.length:=(by simp;omega);have ew:IntKind.i64.wrap ((nb (s.take i):Int)+1)=((nb (s.take i)+1:Nat):Int):=(by rw[w64 (by omega) (by omega)];omega);have b1:(J8 s (i:Int).toNat==124)=(s[i]==124):=(by rw[Int.toNat_natCast,ZW hi];exact qj s[i] 124 (by decide));have b2:(J8 s (i:Int).toNat==48)=(s[i]==48):=(by rw[Int.toNat_natCast,ZW hi];exact qj s[i] 48 (by decide));have b3:(J8 s (i:Int).toNat==49)=(s[i]==49):=(by rw[Int.toNat_natCast,ZW hi];exact qj s[i] 49 (by decide));have b4:(J8 s (i:Int).toNat==88)=(s[i]==88):=(by rw[Int.toNat_natCast,ZW hi];exact qj s[i] 88 (by decide));unfold M6.s1;simp only[e1,QC hi,b1,b2,b3,b4,suc (show i<9000000000000000000 by omega),decide_true,cond_true,Bool.true_or,Bool.and_self,hn,hg,ew,okb];cases (s[i]==124)<;>cases (s[i]==48)<;>cases (s[i]==49)<;>cases (s[i]==88)<;>cases gd (s.take i)<;>simp) (λ_ _ _ _ _ _=>trivial) (λ_ _=>by unfold M6.s1;simp) () trivial
 rw[ZR]at key;exact key
theorem bars_iff(s:List UInt8):(nb s=1/\gd s=true)↔(124∈s/\((Lib.cut s [124]).1++(Lib.cut s [124]).2.1).all okb=true):=by
 have hgd:∀t:List UInt8,nb t=0->gd t=t.all okb:=λt ht=>by
  have:124∉t:=List.count_eq_zero.1 ht;unfold gd
  induction t with
  |nil=>rfl
  |cons x t ih=>rw[List.all_cons,List.all_cons,ih (List.count_eq_zero.2 λh=>this (by simp[h])) λh=>this (by simp[h])];have:(x==124)=false:=(by rw[beq_eq_false_iff_ne];rintro rfl;exact this (by simp));rw[this,Bool.false_or]
 have hok:∀t:List UInt8,t.all okb=true->nb t=0:=λt ht=>by refine List.count_eq_zero.2 λhm=> ?_;have:=List.all_eq_true.1 ht _ hm;exact absurd this (by decide)
 rcases cut_bar s with ⟨h1,h2⟩|⟨l,r,h1,h2,h3⟩
 ·have:nb s=0:=List.count_eq_zero.2 h1;constructor
  ·intro h;omega
  ·intro h;exact absurd h.1 h1
 ·rw[h3];have hm:124∈s:=(by rw[h1];simp);have hn:nb s=nb r+1:=(by unfold nb;rw[h1,List.count_append,List.count_cons,List.count_eq_zero.2 h2];simp);have hg:gd s=(gd l&&gd r):=(by unfold gd;rw[h1,List.all_append,List.all_cons];simp);rw[hn,hg,hgd l (List.count_eq_zero.2 h2),List.all_append];constructor
  ·rintro⟨a,b⟩;refine⟨hm,?_⟩;rw[<-hgd r (by omega)];exact b
  ·rintro⟨_,a⟩;have hr:r.all okb=true:=(by rw[Bool.and_eq_true]at a;exact a.2);have:=hok r hr;exact⟨by omega,by rw[hgd r this];exact a⟩
theorem run6{xi xs:List Int}{s:List UInt8}(p1:∀x∈xi,0<=x)(p2:∀x∈xs,0<=x):M6.m ⟨xi,xs,s⟩=some true:=by
 unfold M6.m;have h9:=m9 (most:=40) (l:=[(xi,xs)]) (by simp);simp only[h9,Q1]
 cases hb:[(xi,xs)].any (bigP 40) with
 |true=>simp only[Bool.not_true,Bool.not_false,cond_true,Jo]
 |false=>
  simp only[List.any_cons,List.any_nil,Bool.or_false]at hb;have hl:xi.length+xs.length<=40:=by
   unfold bigP at hb;by_cases h1:((xi.length:Int)>40)
   ·simp[h1]at hb
   ·by_cases h2:((xs.length:Int)>40)
    ·simp[h1,h2]at hb
    ·have ew:IntKind.i64.wrap ((xi.length:Int)+(xs.length:Int))=((xi.length+xs.length:Nat):Int):=(by rw[w64 (by omega) (by omega)];omega);simp only[h1,h2,decide_false,cond_false,ew,decide_eq_false_iff_not]at hb;omega
  by_cases hs:((s.length:Int)>60)
  ·simp only[Bool.not_true,Bool.not_false,cond_false,hs,decide_true,cond_true,Jo]
  ·simp only[Bool.not_true,Bool.not_false,cond_false,hs,decide_false,m11 (show xi.length<=1000000 by omega) (show xs.length<=1000000 by omega)];have hs:s.length<=60:=(by omega);have vA:=XP p1;have vA':=XP p2;have eA:(vals xi).length=xi.length:=J9 xi;have eA':(vals xs).length=xs.length:=J9 xs;simp only[m26_V vA vA' (by omega),Um vA vA' (by omega),m25 (show(vals xi).length<=1000000 by omega) (show(vals xs).length<=1000000 by omega) (show(vals xi).length<=1000000 by omega) (show(vals xs).length<=1000000 by omega),and_self,decide_true,show((0:Int) !=0)=false from rfl,Bool.not_false,cond_true,cond_false,Bool.not_true];have hlen:(Qq (vals xi)++124::Qq (vals xs)).length=xi.length+1+xs.length:=(by simp[Qq,eA,eA'];omega);have hin:xi.length<(Qq (vals xi)++124::Qq (vals xs)).length:=(by omega);have ew:IntKind.i64.wrap (IntKind.i64.wrap ((xi.length:Int)+1)+(xs.length:Int))=((xi.length+1+xs.length:Nat):Int):=(by rw[w64 (x:=(xi.length:Int)+1) (by omega) (by omega),w64 (by omega) (by omega)];omega);have hbar:J8 (Qq (vals xi)++124::Qq (vals xs)) (xi.length:Int).toNat=124:=(by rw[Int.toNat_natCast,ZW hin,List.getElem_append_right (by simp[Qq,eA])];simp[Qq,eA]);have hne:((((Qq (vals xi)++124::Qq (vals xs)).length:Nat):Int) !=((xi.length+1+xs.length:Nat):Int))=false:=(by rw[hlen];simp);simp only[QC hin,ew,hne,hbar,Bool.true_or,cond_true,cond_false,show((124:Int) !=124)=false from rfl];have k0:=QR (step:=M6.s0) (λi (_:Unit)=>⟨s,Qq (vals xi)++124::Qq (vals xs),(i:Int),xi,xs,vals xi,vals xs⟩) xi (λ_ _=>.inl ()) (λ_=>.inl ⟨s⟩) (λ_ _=>True) (λi hi _ _=>by
    have e1:((i:Int)<(xi.length:Int)):=(by omega);have hiA:i<(vals xi).length:=(by omega);have hit:i<(Qq (vals xi)++124::Qq (vals xs)).length:=(by omega);have hb:J8 (Qq (vals xi)++124::Qq (vals xs)) (i:Int).toNat=((sgn (vals xi)[i]).toNat:Int):=(by rw[Int.toNat_natCast,ZW hit,List.getElem_append_left (by simp[Qq];omega)];simp[Qq]);have hv:=vA _ (List.getElem_mem hiA);have hc:inR (vals xi)[i] 3=true/\J8 [48,49,88] (Int.toNat (vals xi)[i])=((sgn (vals xi)[i]).toNat:Int):=by rcases hv with h|h|h<;>rw[h]<;>exact⟨rfl,rfl⟩
    unfold M6.s0;simp only[e1,QC hit,QC hiA,QY hiA,hb,hc.1,hc.2,suc (show i<9000000000000000000 by omega),decide_true,cond_true,bne_self_eq_false,cond_false]) (λ_ _ _ _ _ _=>trivial) (λ_ _=>by unfold M6.s0;simp) () trivial
   rw[JK]at k0;have k0:iter M6.s0 ⟨s,Qq (vals xi)++124::Qq (vals xs),0,xi,xs,vals xi,vals xs⟩=_:=k0;simp only[k0,Qn,s1_run hs,m27 (show s.length<=16385 by omega)];have hbi:=bars_iff s;by_cases hc:nb s=1/\gd s=true
   ·obtain⟨c1,c2⟩:=hbi.1 hc;have hcut:s=(Lib.cut s [124]).1++124::(Lib.cut s [124]).2.1:=by
     rcases cut_bar s with ⟨h1,h2⟩|⟨l,r,h1,h2,h3⟩
     ·exact absurd c1 h1
     ·rw[h3];exact h1
    rw[if_pos c1,if_pos c2,hc.1,hc.2];generalize (Lib.cut s [124]).1=l at*
    generalize (Lib.cut s [124]).2.1=r at*
    rw[List.all_append,Bool.and_eq_true]at c2;obtain⟨a,b⟩:=sgns_vl c2.1;obtain⟨a',b'⟩:=sgns_vl c2.2;have hlr:l.length+1+r.length=s.length:=(by rw[hcut];simp;omega);simp only[show(((1:Nat):Int) !=1)=false from rfl,Bool.not_true,cond_false,show((0:Int)==0)=true from rfl,cond_true,m26_V b b' (by simp;omega),a,a'];rw[<-hcut];simp[Jo]
   ·have hp:(if 124∈s then (if ((Lib.cut s [124]).1++(Lib.cut s [124]).2.1).all okb=true then ((Lib.cut s [124]).1.map vl,(Lib.cut s [124]).2.1.map vl,(0:Int)) else ([],[],4)) else ([],[],4))=(([]:List Int),([]:List Int),(4:Int)):=by
     by_cases c1:124∈s
     ·by_cases c2:((Lib.cut s [124]).1++(Lib.cut s [124]).2.1).all okb=true
      ·exact absurd (hbi.2 ⟨c1,c2⟩) hc
      ·rw[if_pos c1,if_neg c2]
     ·rw[if_neg c1]
    rw[hp];have hcb:(bif (nb s:Int) !=1 then true else !gd s)=true:=by
     by_cases h1:nb s=1
     ·have h2:gd s=false:=by
       cases h:gd s with
       |false=>rfl
       |true=>exact absurd ⟨h1,h⟩ hc
      simp[h2]
     ·have:((nb s:Int) !=1)=true:=(by simp;omega);rw[this];rfl
    simp only[hcb,cond_true,show((4:Int)==4)=true from rfl,List.length_nil];rw[show(IntKind.i64.wrap (((0:Nat):Int)+((0:Nat):Int))==0)=true from rfl];simp[Jo]
end Cu
namespace Cu
def fst(w:Int)(a:Int×List Int)(v:Int):Int×List Int:=if v=2 then (a.1,a.2++[a.1]) else if w=2 then (v,a.2++[v]) else (a.1,a.2++[v])
def fil(w last:Int)(l:List Int):Int×List Int:=l.foldl (fst w) (last,[])
theorem fst_len(w:Int)(a:Int×List Int)(v:Int):(fst w a v).2.length=a.2.length+1:=by
 unfold fst;split
 ·simp
 ·split<;>simp
theorem V1(w:Int):∀(l:List Int) (a:Int×List Int),(l.foldl (fst w) a).2.length=a.2.length+l.length
 |[],a=>by simp
 |v::l,a=>by rw[List.foldl_cons,V1 w l,fst_len];simp;omega
theorem YH{A α Y:Type}(F:A->α->A)(E:A->Y):∀(l:List α) (a:A),scan (λa x=>(.inl (F a x):A⊕Y)) E a l=E (l.foldl F a)
 |[],_=>rfl
 |x::l,a=>by unfold scan;exact YH F E l (F a x)
theorem mid_at{d l:List Int}{i:Nat}(hd:d.length=i)(hi:i<l.length):(d++l.drop i)[i]?.getD 0=l[i]:=by rw[List.getElem?_append_right (by omega),List.getElem?_drop,hd];simp[hi]
theorem mid_set{d l:List Int}{i:Nat}(hd:d.length=i)(hi:i<l.length)(v:Int):(d++l.drop i).set i v=(d++[v])++l.drop (i+1):=by rw[List.set_append_right _ _ (by omega),List.drop_eq_getElem_cons hi,show i - d.length=0 by omega,List.set_cons_zero,List.append_assoc];rfl
theorem Kz{d l:List Int}{i:Nat}(hi:i<l.length):d++l.drop i=(d++[l[i]])++l.drop (i+1):=by rw[List.drop_eq_getElem_cons hi,List.append_assoc];rfl
theorem fillrun{w last:Int}{xs ys:List Int}(hx:xs.length<=1000000)(hy:ys.length<=1000000):
  M19.s0 ⟨w,last,xs,ys,0,xs.length,xs.length,0,ys.length,ys.length,0,xs.length,xs.length,0,ys.length,ys.length⟩
  =some ⟨w,(fil w (fil w last xs).1 ys).1,(fil w last xs).2,(fil w (fil w last xs).1 ys).2,0,xs.length,xs.length,0,ys.length,ys.length,0,xs.length,xs.length,0,ys.length,ys.length⟩:=by
 have k0:=QR (step:=M19.QL) (λi (a:Int×List Int)=>⟨(xs.length:Int),(i:Int),w,a.1,a.2++xs.drop i,ys,0,xs.length,xs.length,0,ys.length,ys.length,0,xs.length,xs.length,0,ys.length,ys.length⟩) xs
  (λa v=>.inl (fst w a v)) (λa=>⟨w,a.1,a.2,ys,0,xs.length,xs.length,0,ys.length,ys.length,0,xs.length,xs.length,0,ys.length,ys.length⟩) (λi a=>a.2.length=i) (λi hi a ha=>by
   have ha:a.2.length=i:=ha;have e1:((i:Int)<(xs.length:Int)):=(by omega);have e2:i<(a.2++xs.drop i).length:=(by simp;omega);have e3:=mid_at ha hi;unfold M19.QL M19.Xo fst;simp only[e1,QC hi,suc (show i<9000000000000000000 by omega),Int.toNat_natCast,Nat.zero_add,e2,e3,decide_true,cond_true,mid_set ha hi];by_cases h2:xs[i]=2
   ·simp only[h2,beq_self_eq_true,cond_true,Q1,if_true]
   ·have:(xs[i]==2)=false:=(by simpa using h2);simp only[this,cond_false,h2,if_false];by_cases hw:w=2
    ·subst hw;simp only[beq_self_eq_true,cond_true,Q1,if_true];rw[<-Kz hi]
    ·have:(w==2)=false:=(by simpa using hw);simp only[this,cond_false,hw,if_false,Q1];rw[<-Kz hi]) (λi hi a a' ha hF=>by
   have hF:fst w a xs[i]=a':=(by injection hF);have ha:a.2.length=i:=ha;show a'.2.length=i+1;rw[<-hF,fst_len,ha]) (λa ha=>by
   unfold M19.QL;simp) (last,[]) rfl
 rw[YH]at k0;have k0:iter M19.QL ⟨(xs.length:Int),0,w,last,xs,ys,0,xs.length,xs.length,0,ys.length,ys.length,0,xs.length,xs.length,0,ys.length,ys.length⟩=some ⟨w,(fil w last xs).1,(fil w last xs).2,ys,0,xs.length,xs.length,0,ys.length,ys.length,0,xs.length,xs.length,0,ys.length,ys.length⟩:=k0;generalize fil w last xs=p at k0;have k1:=QR (step:=M19.QK) (λi (a:Int×List Int)=>⟨(ys.length:Int),(i:Int),w,a.1,p.2,a.2++ys.drop i,0,xs.length,xs.length,0,ys.length,ys.length,0,xs.length,xs.length,0,ys.length,ys.length⟩) ys
  (λa v=>.inl (fst w a v)) (λa=>⟨w,a.1,p.2,a.2,0,xs.length,xs.length,0,ys.length,ys.length,0,xs.length,xs.length,0,ys.length,ys.length⟩) (λi a=>a.2.length=i) (λi hi a ha=>by
   have ha:a.2.length=i:=ha;have e1:((i:Int)<(ys.length:Int)):=(by omega);have e2:i<(a.2++ys.drop i).length:=(by simp;omega);have e3:=mid_at ha hi;unfold M19.QK M19.Xn fst;simp only[e1,QC hi,suc (show i<9000000000000000000 by omega),Int.toNat_natCast,Nat.zero_add,e2,e3,decide_true,cond_true,mid_set ha hi];by_cases h2:ys[i]=2
   ·simp only[h2,beq_self_eq_true,cond_true,Q1,if_true]
   ·have:(ys[i]==2)=false:=(by simpa using h2);simp only[this,cond_false,h2,if_false];by_cases hw:w=2
    ·subst hw;simp only[beq_self_eq_true,cond_true,Q1,if_true];rw[<-Kz hi]
    ·have:(w==2)=false:=(by simpa using hw);simp only[this,cond_false,hw,if_false,Q1];rw[<-Kz hi]) (λi hi a a' ha hF=>by
   have hF:fst w a ys[i]=a':=(by injection hF);have ha:a.2.length=i:=ha;show a'.2.length=i+1;rw[<-hF,fst_len,ha]) (λa ha=>by
   unfold M19.QK;simp) (p.1,[]) rfl
 rw[YH]at k1;have k1:iter M19.QK ⟨(ys.length:Int),0,w,p.1,p.2,ys,0,xs.length,xs.length,0,ys.length,ys.length,0,xs.length,xs.length,0,ys.length,ys.length⟩=some ⟨w,(fil w p.1 ys).1,p.2,(fil w p.1 ys).2,0,xs.length,xs.length,0,ys.length,ys.length,0,xs.length,xs.length,0,ys.length,ys.length⟩:=k1;unfold M19.s0;simp only[k0,k1,Q1]
def JO(l:List Int):Int:=(l.find? λv=>v !=2).getD 0
theorem m40{l:List Int}(hl:l.length<=2000000):(∃i:Nat,∃h:i<l.length,M40.m ⟨l⟩=some (i:Int)/\l[i]=JO l)\/(M40.m ⟨l⟩=some (-1)/\JO l=0):=by
 have:∀j i,i+j=l.length->(∃t:Nat,∃h:t<l.length,iter M40.s0 ⟨l,(l.length:Int),(i:Int)⟩=some (.inr ⟨(t:Int)⟩)/\l[t]=JO (l.drop i))\/(iter M40.s0 ⟨l,(l.length:Int),(i:Int)⟩=some (.inl ⟨⟩)/\JO (l.drop i)=0):=by
  intro j
  induction j with
  |zero=>intro i hi;have e:i=l.length:=(by omega);subst e;right;rw[List.drop_length];refine⟨?_,rfl⟩;rw[iter_eq];have:M40.s0 ⟨l,(l.length:Int),(l.length:Int)⟩=some (.inr (.inl ⟨⟩)):=(by unfold M40.s0;simp);rw[this]
  |succ j ih=>
   intro i hi;have hil:i<l.length:=(by omega);have e1:((i:Int)<(l.length:Int)):=(by omega);have hst:M40.s0 ⟨l,(l.length:Int),(i:Int)⟩=some (if (l[i] !=2)=true then .inr (.inr ⟨(i:Int)⟩) else .inl ⟨l,(l.length:Int),((i+1:Nat):Int)⟩):=(by unfold M40.s0 M41.m;simp only[e1,QC hil,QY hil,suc (show i<9000000000000000000 by omega),decide_true,cond_true,Q1];cases (l[i] !=2)<;>rfl);rw[iter_eq,hst,List.drop_eq_getElem_cons hil]
   cases hP:(l[i] !=2) with
   |true=>left;refine⟨i,hil,rfl,?_⟩;unfold JO;rw[List.find?_cons,hP];rfl
   |false=>simp only[Bool.false_eq_true,if_false];have e:JO (l[i]::l.drop (i+1))=JO (l.drop (i+1)):=(by unfold JO;rw[List.find?_cons,hP]);rw[e];exact ih (i+1) (by omega)
 unfold M40.m;have h:=this l.length 0 (by omega);rw[List.drop_zero]at h;rcases h with ⟨t,h1,h2,h3⟩|⟨h2,h3⟩
 ·have h2:iter M40.s0 ⟨l,(l.length:Int),0⟩=_:=h2;exact .inl ⟨t,h1,by simp only[h2,Q1,Qn],h3⟩
 ·have h2:iter M40.s0 ⟨l,(l.length:Int),0⟩=_:=h2;exact .inr ⟨by simp only[h2,Q1,Qn],h3⟩
def jV(w:Int)(l:List Int):Int:=if w=0 then 0 else if w=1 then 1 else JO l
def flr(i s:List Int)(w:Int):List Int×List Int×Int:=((fil w (jV w (i++s)) i).2,(fil w (fil w (jV w (i++s)) i).1 s).2,0)
theorem m19{i s:List Int}{w:Int}(hi:i.length<=1000000)(hs:s.length<=1000000):
  M19.m ⟨i,s,w⟩=some (if chk i s≠0 then ([],[],chk i s) else if w=0\/w=1\/w=2 then flr i s w else ([],[],1)):=by
 unfold M19.m;simp only[m29 hi hs,m34 hi hs,m35 hi hs,Q1];by_cases hc:chk i s=0
 ·have hb:(chk i s !=0)=false:=(by simp[hc]);have q1:∀last,leB (0+i.length) (fil w last i).2.length=true:=λlast=>(by unfold fil;rw[V1];simp[leB]);have q2:∀last,leB (0+s.length) (fil w last s).2.length=true:=λlast=>(by unfold fil;rw[V1];simp[leB]);have t1:∀last,List.take i.length (fil w last i).2=(fil w last i).2:=λlast=>List.take_of_length_le (by unfold fil;rw[V1];simp);have t2:∀last,List.take s.length (fil w last s).2=(fil w last s).2:=λlast=>List.take_of_length_le (by unfold fil;rw[V1];simp);simp only[hb,cond_false,hc,bne_self_eq_false,ne_eq,not_true,if_false];unfold M36o.m;simp only[Q1,fillrun hi hs,q1,q2,Bool.and_self,cond_true,List.drop_zero,t1,t2];by_cases h0:w=0
  ·subst h0;rfl
  ·have b0:(w==0)=false:=(by simpa using h0);simp only[b0,cond_false];by_cases h1:w=1
   ·subst h1;rfl
   ·have b1:(w==1)=false:=(by simpa using h1);simp only[b1,cond_false];by_cases h2:w=2
    ·subst h2;simp only[beq_self_eq_true,cond_true];have hl:jV 2 (i++s)=JO (i++s):=rfl;rcases m40 (l:=i++s) (by simp;omega) with ⟨t,g1,g2,g3⟩|⟨g2,g3⟩
     ·have ge:((t:Int)>=0):=(by omega);simp only[g2,ge,decide_true,cond_true,QC g1,QY g1,g3];simp[flr,hl]
     ·simp only[g2,show decide ((-1:Int)>=0)=false from rfl,cond_false];simp[flr,hl,g3]
    ·have b2:(w==2)=false:=(by simpa using h2);simp only[b2,cond_false,h0,h1,h2,or_self,if_false]
 ·have hb:(chk i s !=0)=true:=(by simpa using hc);simp only[hb,cond_true,hc,ne_eq,not_false_eq_true,if_true]
def JG(l:List Int):Nat:=l.countP λv=>v !=2
theorem jq(l:List Int):JG l<=l.length:=List.countP_le_length
theorem US(l:List Int)(k:Nat)(h:k<l.length):JG (l.take (k+1))=JG (l.take k)+(if (l[k] !=2)=true then 1 else 0):=by unfold JG;rw[List.take_succ_eq_append_getElem h,List.countP_append,List.countP_cons,List.countP_nil];simp
theorem m22{i s:List Int}(hi:i.length<=1000000)(hs:s.length<=1000000):M22.m ⟨i,s⟩=some (if chk i s≠0 then 0 else ((JG i+JG s:Nat):Int)):=by
 have c1:∀(l:List Int) (k:Nat),JG (l.take k)<=l.length:=λl k=>Nat.le_trans (jq _) (by simp;omega);unfold M22.m;simp only[m29 hi hs,Q1];by_cases hc:chk i s=0
 ·have hb:(chk i s !=0)=false:=(by simp[hc]);simp only[hb,cond_false,hc,bne_self_eq_false,ne_eq,not_true,if_false];unfold M36.m;simp only[Q1];have k0:=QR (step:=M22.QL) (λk (_:Unit)=>⟨(i.length:Int),(k:Int),(JG (i.take k):Int),i,s⟩) i (λ_ _=>.inl ()) (λ_=>⟨(JG i:Int),i,s⟩) (λ_ _=>True) (λk hk _ _=>by
   have e1:((k:Int)<(i.length:Int)):=(by omega);have:=c1 i k;have ew:IntKind.i64.wrap ((JG (i.take k):Int)+1)=((JG (i.take k)+1:Nat):Int):=(by rw[w64 (by omega) (by omega)];omega);unfold M22.QL M22.sb0;simp only[e1,QC hk,QY hk,suc (show k<9000000000000000000 by omega),decide_true,cond_true,US i k hk,ew];cases (i[k] !=2)<;>simp[Q1]) (λ_ _ _ _ _ _=>trivial) (λ_ _=>by unfold M22.QL;simp) () trivial
  rw[JK]at k0;have k0:iter M22.QL ⟨(i.length:Int),0,0,i,s⟩=_:=k0;have k1:=QR (step:=M22.QK) (λk (_:Unit)=>⟨(s.length:Int),(k:Int),((JG i+JG (s.take k):Nat):Int),i,s⟩) s (λ_ _=>.inl ()) (λ_=>⟨((JG i+JG s:Nat):Int),i,s⟩) (λ_ _=>True) (λk hk _ _=>by
   have e1:((k:Int)<(s.length:Int)):=(by omega);have:=c1 s k;have:=jq i;have ew:IntKind.i64.wrap (((JG i+JG (s.take k):Nat):Int)+1)=((JG i+(JG (s.take k)+1):Nat):Int):=(by rw[w64 (by omega) (by omega)];omega);unfold M22.QK M22.sb0;simp only[e1,QC hk,QY hk,suc (show k<9000000000000000000 by omega),decide_true,cond_true,US s k hk,ew];cases (s[k] !=2)<;>simp[Q1]) (λ_ _ _ _ _ _=>trivial) (λ_ _=>by unfold M22.QK;simp) () trivial
  rw[JK]at k1;have k1:iter M22.QK ⟨(s.length:Int),0,(JG i:Int),i,s⟩=_:=k1;unfold M22.s0;simp only[k0,k1,Q1]
 ·have hb:(chk i s !=0)=true:=(by simpa using hc);simp only[hb,cond_true,hc,ne_eq,not_false_eq_true,if_true]
def outP(n:Nat)(p:Int):Bool:=decide (p<0)||decide (p>=(n:Int))
theorem m43{p:Int}{i s:List Int}(hi:i.length<=1000000)(hs:s.length<=1000000):M43.m ⟨p,i,s⟩=some (outP (i.length+s.length) p,i,s):=by
 have ew:IntKind.i64.wrap ((i.length:Int)+(s.length:Int))=((i.length+s.length:Nat):Int):=by rw[w64 (by omega) (by omega)];omega
 unfold M43.m outP;rw[ew];by_cases h:p<0<;>simp[h]
theorem m42{l i s:List Int}(hl:l.length<=1000000)(hi:i.length<=1000000)(hs:s.length<=1000000):M42.m ⟨l,i,s⟩=some (l.any (outP (i.length+s.length)),i,s):=by
 have key:(l.any (outP (i.length+s.length))=true/\∃r:Int,0<=r/\M51.m ⟨l,i,s⟩=some (r,i,s))\/(l.any (outP (i.length+s.length))=false/\M51.m ⟨l,i,s⟩=some (-1,i,s)):=by
  have h:=Zj (step:=M51.s0) (λk=>⟨l,(l.length:Int),(k:Int),i,s⟩) l (outP (i.length+s.length)) (λk=>.inr ⟨(k:Int),i,s⟩) (y:=.inl ⟨i,s⟩) (λk hk=>by
   have e1:((k:Int)<(l.length:Int)):=(by omega);unfold M51.s0;simp only[e1,QC hk,QY hk,m43 hi hs,suc (show k<9000000000000000000 by omega),decide_true,cond_true,Q1];cases outP (i.length+s.length) l[k]<;>rfl) (by unfold M51.s0;simp)
  unfold M51.m;rcases h with ⟨h1,t,h2⟩|⟨h1,h2⟩
  ·have h2:iter M51.s0 ⟨l,(l.length:Int),0,i,s⟩=_:=h2;exact .inl ⟨h1,(t:Int),by omega,by simp only[h2,Q1,Qn]⟩
  ·have h2:iter M51.s0 ⟨l,(l.length:Int),0,i,s⟩=_:=h2;exact .inr ⟨h1,by simp only[h2,Q1,Qn]⟩
 unfold M42.m;rcases key with ⟨h1,r,h0,h2⟩|⟨h1,h2⟩
 ·simp only[h2,Q1,h1,ge_iff_le,h0,decide_true]
 ·simp only[h2,Q1,h1];rfl
theorem m42o{l i s:List Int}(hl:l.length<=1000000)(hi:i.length<=1000000)(hs:s.length<=1000000):M42o.m ⟨0,l.length,l,i,s⟩=some (l.any (outP (i.length+s.length)),l,i,s):=by
 have key:(l.any (outP (i.length+s.length))=true/\∃r:Int,0<=r/\M51o.m ⟨0,l.length,l,i,s⟩=some (r,l,i,s))\/(l.any (outP (i.length+s.length))=false/\M51o.m ⟨0,l.length,l,i,s⟩=some (-1,l,i,s)):=by
  have h:=Zj (step:=M51o.s0) (λk=>⟨0,l.length,(l.length:Int),(k:Int),l,i,s⟩) l (outP (i.length+s.length)) (λk=>.inr ⟨(k:Int),l,i,s⟩) (y:=.inl ⟨l,i,s⟩) (λk hk=>by
   have e1:((k:Int)<(l.length:Int)):=(by omega);have e2:l[k]?.getD 0=l[k]:=(by simp[hk]);unfold M51o.s0;simp only[e1,QC hk,Int.toNat_natCast,Nat.zero_add,hk,e2,m43 hi hs,suc (show k<9000000000000000000 by omega),decide_true,cond_true,Q1];cases outP (i.length+s.length) l[k]<;>rfl) (by unfold M51o.s0;simp)
  unfold M51o.m;rcases h with ⟨h1,t,h2⟩|⟨h1,h2⟩
  ·have h2:iter M51o.s0 ⟨0,l.length,(l.length:Int),0,l,i,s⟩=_:=h2;exact .inl ⟨h1,(t:Int),by omega,by simp only[h2,Q1,Qn]⟩
  ·have h2:iter M51o.s0 ⟨0,l.length,(l.length:Int),0,l,i,s⟩=_:=h2;exact .inr ⟨h1,by simp only[h2,Q1,Qn]⟩
 unfold M42o.m;rcases key with ⟨h1,r,h0,h2⟩|⟨h1,h2⟩
 ·simp only[h2,Q1,h1,ge_iff_le,h0,decide_true]
 ·simp only[h2,Q1,h1];rfl
def rst(n:Nat)(a:List Int×List Int)(p:Int):List Int×List Int:=if p<(n:Int) then (a.1.set p.toNat 2,a.2) else (a.1,a.2.set (p - (n:Int)).toNat 2)
theorem WQ(n:Nat)(a:List Int×List Int)(p:Int):(rst n a p).1.length=a.1.length/\(rst n a p).2.length=a.2.length:=by unfold rst;split<;>simp
theorem WS(n:Nat):∀(l:List Int) (a:List Int×List Int),(l.foldl (rst n) a).1.length=a.1.length/\(l.foldl (rst n) a).2.length=a.2.length
 |[],a=>⟨rfl,rfl⟩
 |p::l,a=>by rw[List.foldl_cons];have h1:=WS n l (rst n a p);have h2:=WQ n a p;exact⟨h1.1.trans h2.1,h1.2.trans h2.2⟩
def rlx(i s l:List Int):List Int×List Int:=l.foldl (rst i.length) (i,s)
theorem in_of{n:Nat}{p:Int}(h:outP n p=false):0<=p/\p<(n:Int):=by unfold outP at h;simp only[Bool.or_eq_false_iff,decide_eq_false_iff_not]at h;omega
theorem m23{i s l:List Int}(hi:i.length<=1000000)(hs:s.length<=1000000)(hl:l.length<=1000000):
  M23.m ⟨i,s,l⟩=some (if chk i s≠0 then ([],[],chk i s) else if l.any (outP (i.length+s.length))=true then ([],[],1) else ((rlx i s l).1,(rlx i s l).2,0)):=by
 unfold M23.m;simp only[m29 hi hs,m42 hl hi hs,m34 hi hs,Q1];by_cases hc:chk i s=0
 ·have hb:(chk i s !=0)=false:=(by simp[hc]);simp only[hb,cond_false,hc,bne_self_eq_false,ne_eq,not_true,if_false]
  cases ha:l.any (outP (i.length+s.length)) with
  |true=>rfl
  |false=>
   have hin:=List.any_eq_false.1 ha;simp only[cond_false,Bool.false_eq_true,if_false];have k0:=QR (step:=M23.s0) (λk (a:List Int×List Int)=>⟨l,(l.length:Int),(k:Int),i,s,a.1,a.2,0,i.length,i.length,0,s.length,s.length⟩) l (λa p=>.inl (rst i.length a p)) (λa=>⟨i,s,a.1,a.2,0,i.length,i.length,0,s.length,s.length⟩)
    (λ_ a=>a.1.length=i.length/\a.2.length=s.length) (λk hk a h=>by
     obtain⟨g1,g2⟩:=h;have e1:((k:Int)<(l.length:Int)):=(by omega);obtain⟨p1,p2⟩:=in_of (by simpa using hin l[k] (List.getElem_mem hk));unfold M23.s0 rst;simp only[e1,QC hk,QY hk,suc (show k<9000000000000000000 by omega),decide_true,cond_true,Nat.zero_add];by_cases hp:l[k]<(i.length:Int)
     ·have r1:inR l[k] i.length=true:=(by simp[inR];omega);have r2:l[k].toNat<a.1.length:=(by omega);simp only[hp,r1,r2,decide_true,cond_true,if_true]
     ·have ew:IntKind.i64.wrap (l[k] - (i.length:Int))=l[k] - (i.length:Int):=w64 (by omega) (by omega);have r1:inR (l[k] - (i.length:Int)) s.length=true:=(by simp[inR];omega);have r2:(l[k] - (i.length:Int)).toNat<a.2.length:=(by omega);simp only[hp,ew,r1,r2,decide_true,decide_false,cond_true,cond_false,if_false]) (λk hk a a' h hF=>by
     have hF:rst i.length a l[k]=a':=(by injection hF);rw[<-hF];exact⟨(WQ _ _ _).1.trans h.1,(WQ _ _ _).2.trans h.2⟩) (λa h=>by unfold M23.s0;simp) (i,s) ⟨rfl,rfl⟩
   rw[YH]at k0;have k0:iter M23.s0 ⟨l,(l.length:Int),0,i,s,i,s,0,i.length,i.length,0,s.length,s.length⟩=some ⟨i,s,(rlx i s l).1,(rlx i s l).2,0,i.length,i.length,0,s.length,s.length⟩:=k0;obtain⟨z1,z2⟩:(rlx i s l).1.length=i.length/\(rlx i s l).2.length=s.length:=WS i.length l (i,s);have q1:leB (0+i.length) (rlx i s l).1.length=true:=(by rw[z1];simp[leB]);have q2:leB (0+s.length) (rlx i s l).2.length=true:=(by rw[z2];simp[leB]);simp only[k0,q1,q2,Bool.and_self,cond_true,List.drop_zero];rw[List.take_of_length_le (by omega),List.take_of_length_le (by omega)]
 ·have hb:(chk i s !=0)=true:=(by simpa using hc);simp only[hb,cond_true,hc,ne_eq,not_false_eq_true,if_true]
theorem m23o{i s l:List Int}(hi:i.length<=1000000)(hs:s.length<=1000000)(hl:l.length<=1000000):
  M23o.m ⟨i,s,0,l.length,l⟩=some (if chk i s≠0 then ([],[],chk i s,l) else if l.any (outP (i.length+s.length))=true then ([],[],1,l) else ((rlx i s l).1,(rlx i s l).2,0,l)):=by
 unfold M23o.m;simp only[m29 hi hs,m42o hl hi hs,m34 hi hs,Q1];by_cases hc:chk i s=0
 ·have hb:(chk i s !=0)=false:=(by simp[hc]);simp only[hb,cond_false,hc,bne_self_eq_false,ne_eq,not_true,if_false]
  cases ha:l.any (outP (i.length+s.length)) with
  |true=>rfl
  |false=>
   have hin:=List.any_eq_false.1 ha;simp only[cond_false,Bool.false_eq_true,if_false];have k0:=QR (step:=M23o.s0) (λk (a:List Int×List Int)=>⟨0,l.length,(l.length:Int),(k:Int),l,i,s,a.1,a.2,0,i.length,i.length,0,s.length,s.length⟩) l (λa p=>.inl (rst i.length a p)) (λa=>⟨l,i,s,a.1,a.2,0,i.length,i.length,0,s.length,s.length⟩)
    (λ_ a=>a.1.length=i.length/\a.2.length=s.length) (λk hk a h=>by
     obtain⟨g1,g2⟩:=h;have e1:((k:Int)<(l.length:Int)):=(by omega);have e2:l[k]?.getD 0=l[k]:=(by simp[hk]);obtain⟨p1,p2⟩:=in_of (by simpa using hin l[k] (List.getElem_mem hk));unfold M23o.s0 rst;simp only[e1,QC hk,Int.toNat_natCast,Nat.zero_add,hk,e2,suc (show k<9000000000000000000 by omega),decide_true,cond_true];by_cases hp:l[k]<(i.length:Int)
     ·have r1:inR l[k] i.length=true:=(by simp[inR];omega);have r2:l[k].toNat<a.1.length:=(by omega);simp only[hp,r1,r2,decide_true,cond_true,if_true]
     ·have ew:IntKind.i64.wrap (l[k] - (i.length:Int))=l[k] - (i.length:Int):=w64 (by omega) (by omega);have r1:inR (l[k] - (i.length:Int)) s.length=true:=(by simp[inR];omega);have r2:(l[k] - (i.length:Int)).toNat<a.2.length:=(by omega);simp only[hp,ew,r1,r2,decide_true,decide_false,cond_true,cond_false,if_false]) (λk hk a a' h hF=>by
     have hF:rst i.length a l[k]=a':=(by injection hF);rw[<-hF];exact⟨(WQ _ _ _).1.trans h.1,(WQ _ _ _).2.trans h.2⟩) (λa h=>by unfold M23o.s0;simp) (i,s) ⟨rfl,rfl⟩
   rw[YH]at k0;have k0:iter M23o.s0 ⟨0,l.length,(l.length:Int),0,l,i,s,i,s,0,i.length,i.length,0,s.length,s.length⟩=some ⟨l,i,s,(rlx i s l).1,(rlx i s l).2,0,i.length,i.length,0,s.length,s.length⟩:=k0;obtain⟨z1,z2⟩:(rlx i s l).1.length=i.length/\(rlx i s l).2.length=s.length:=WS i.length l (i,s);have q1:leB (0+i.length) (rlx i s l).1.length=true:=(by rw[z1];simp[leB]);have q2:leB (0+s.length) (rlx i s l).2.length=true:=(by rw[z2];simp[leB]);simp only[k0,q1,q2,Bool.and_self,cond_true,List.drop_zero];rw[List.take_of_length_le (by omega),List.take_of_length_le (by omega)]
 ·have hb:(chk i s !=0)=true:=(by simpa using hc);simp only[hb,cond_true,hc,ne_eq,not_false_eq_true,if_true]
end Cu
namespace Cu
def pe(a b:List Int):Int:=if bad a=true\/bad b=true then 1 else 0
theorem bad_app(l:List Int)(x:Int):bad (l++[x])=(bad l||decide (x>2)):=by unfold bad;rw[List.any_append];simp
theorem m28{a b:List Int}(ha:a.length<=1000000)(hb:b.length<=1000000):M28.m ⟨a,b⟩=some (a,b,pe a b):=by
 have rm:∀(q:List Int) (i:Nat),i<q.length->q.length<=1000000->(eqN 0 0&&eqN (q.take i).length i&&Qz (i+1) 1)=true:=λq i hi hq=>by have e1:eqN (q.take i).length i=true:=(by simp[eqN];omega);have e2:Qz (i+1) 1=true:=(by simp[Qz,leB];omega);rw[e1,e2];rfl
 have k0:=QR (step:=M28.s0) (λi (_:Unit)=>⟨if bad (a.take i)=true then 1 else 0,(i:Int),a,b,0,i,a.take i⟩) a (λ_ _=>.inl ()) (λ_=>⟨if bad a=true then 1 else 0,a,b,0,a.length,a⟩) (λ_ _=>True) (λi hi _ _=>by
  have e1:((i:Int)<(a.length:Int)):=(by omega);unfold M28.s0;simp only[e1,QC hi,QY hi,rm a i hi ha,suc (show i<9000000000000000000 by omega),decide_true,cond_true,bad_app,List.take_succ_eq_append_getElem hi];cases bad (a.take i)<;>cases decide (a[i]>2)<;>rfl) (λ_ _ _ _ _ _=>trivial) (λ_ _=>by unfold M28.s0;simp) () trivial
 have k1:=QR (step:=M28.s1) (λi (_:Unit)=>⟨if (bad a||bad (b.take i))=true then 1 else 0,(i:Int),a,b,0,a.length,0,i,a,b.take i⟩) b (λ_ _=>.inl ()) (λ_=>⟨if (bad a||bad b)=true then 1 else 0,a,b,0,a.length,0,b.length,a,b⟩) (λ_ _=>True) (λi hi _ _=>by
  have e1:((i:Int)<(b.length:Int)):=(by omega);unfold M28.s1;simp only[e1,QC hi,QY hi,rm b i hi hb,suc (show i<9000000000000000000 by omega),decide_true,cond_true,bad_app,List.take_succ_eq_append_getElem hi];cases bad a<;>cases bad (b.take i)<;>cases decide (b[i]>2)<;>rfl) (λ_ _ _ _ _ _=>trivial) (λ_ _=>by unfold M28.s1;simp) () trivial
 rw[JK]at k0 k1;have k0:iter M28.s0 ⟨0,0,a,b,0,0,[]⟩=_:=k0;have e0:(if (bad a||bad (b.take 0))=true then (1:Int) else 0)=if bad a=true then 1 else 0:=by have:bad (b.take 0)=false:=rfl;rw[this,Bool.or_false]
 simp only[e0]at k1;have k1:iter M28.s1 ⟨if bad a=true then 1 else 0,0,a,b,0,a.length,0,0,a,[]⟩=_:=k1;unfold M28.m;have q1:leB (0+a.length) a.length=true:=by simp[leB]
 have q2:leB (0+b.length) b.length=true:=by simp[leB]
 simp only[k0,k1,Q1,q1,q2,Bool.and_self,cond_true,List.drop_zero,List.take_length];unfold pe;simp
theorem pe_chk{a b:List Int}(h:a.length+b.length<=40):chk a b=pe a b:=by unfold chk pe;rw[if_neg (by omega)]
theorem m26_bad{i s:List Int}(hi:i.length<=1000000)(hs:s.length<=1000000)(h:chk i s≠0):M26.m ⟨i,s⟩=some []:=by
 have hb:(chk i s==0)=false:=by simpa using h
 unfold M26.m;simp only[m29 hi hs,Q1,hb,cond_false]
theorem m30_bad{i s:List Int}(hi:i.length<=1000000)(hs:s.length<=1000000)(h:chk i s≠0):M30.m ⟨i,s⟩=some ([],chk i s):=by
 have hb:(chk i s !=0)=true:=by simpa using h
 unfold M30.m;simp only[m29 hi hs,Q1,hb,cond_true]
theorem s0_run{w e n way:Int}{l a b:List Int}(hl:l.length<=1000000):iter M7.s0 ⟨w,l,e,n,way,e,0,a,b⟩=some ⟨w,l,e,n,way,if e≠0 then e else if (l.any λp=>decide (p<0)||decide (p>=n))=true then 1 else 0,a,b⟩:=by
 have key:=QR (step:=M7.s0) (λi (_:Unit)=>⟨w,l,e,n,way,if e≠0 then e else if ((l.take i).any λp=>decide (p<0)||decide (p>=n))=true then 1 else 0,(i:Int),a,b⟩) l (λ_ _=>.inl ())
  (λ_=>⟨w,l,e,n,way,if e≠0 then e else if (l.any λp=>decide (p<0)||decide (p>=n))=true then 1 else 0,a,b⟩) (λ_ _=>True) (λi hi _ _=>by
  have e1:((i:Int)<(l.length:Int)):=(by omega);have hs:((l.take (i+1)).any λp=>decide (p<0)||decide (p>=n))=(((l.take i).any λp=>decide (p<0)||decide (p>=n))||(decide (l[i]<0)||decide (l[i]>=n))):=(by rw[List.take_succ_eq_append_getElem hi,List.any_append];simp);unfold M7.s0;simp only[e1,QC hi,QY hi,suc (show i<9000000000000000000 by omega),decide_true,cond_true,Bool.true_or,hs];by_cases he:e=0
  ·simp only[he,ne_eq,not_true,if_false];cases ((l.take i).any λp=>decide (p<0)||decide (p>=n))<;>cases decide (l[i]<0)<;>cases decide (l[i]>=n)<;>rfl
  ·have hb:(e==0)=false:=(by simpa using he);simp only[he,ne_eq,not_false_eq_true,if_true,hb,cond_false]) (λ_ _ _ _ _ _=>trivial) (λ_ _=>by unfold M7.s0;simp) () trivial
 rw[JK]at key;have e0:(if e≠0 then e else if ((l.take 0).any λp=>decide (p<0)||decide (p>=n))=true then (1:Int) else 0)=e:=by by_cases he:e=0<;>simp[he]
 simp only[e0]at key;exact key
theorem run7{a0 a1 b0 b1 l:List Int}{w:Int}(l1:a0.length<=140737488351232)(l2:a1.length<=140737488351232)(l3:b0.length<=140737488351232)(l4:b1.length<=140737488351232)
  (p1:∀x∈a0,0<=x) (p2:∀x∈a1,0<=x) (hw0:0<=w):M7.m ⟨a0,a1,b0,b1,w,l⟩=some true:=by
 have ea:IntKind.i64.wrap ((a0.length:Int)+(a1.length:Int))=((a0.length+a1.length:Nat):Int):=by rw[w64 (by omega) (by omega)];omega
 have eb:IntKind.i64.wrap ((b0.length:Int)+(b1.length:Int))=((b0.length+b1.length:Nat):Int):=by rw[w64 (by omega) (by omega)];omega
 unfold M7.m;simp only[ea,eb];by_cases ha:a0.length+a1.length>40
 ·have:(((a0.length+a1.length:Nat):Int)>40):=(by omega);simp only[this,decide_true,cond_true,Jo,Q1]
 have na:¬(((a0.length+a1.length:Nat):Int)>40):=by omega
 by_cases hb:b0.length+b1.length>40
 ·have:(((b0.length+b1.length:Nat):Int)>40):=(by omega);simp only[na,this,decide_true,decide_false,cond_true,cond_false,Jo,Q1]
 have nb':¬(((b0.length+b1.length:Nat):Int)>40):=by omega
 by_cases hl:l.length>20
 ·have:((l.length:Int)>20):=(by omega);simp only[na,nb',this,decide_true,decide_false,cond_true,cond_false,Jo,Q1]
 have nl:¬((l.length:Int)>20):=by omega
 have h1:a0.length<=1000000:=by omega
 have h2:a1.length<=1000000:=by omega
 have h3:b0.length<=1000000:=by omega
 have h4:b1.length<=1000000:=by omega
 have hl':l.length<=1000000:=by omega
 have hca:=pe_chk (a:=a0) (b:=a1) (by omega);have hcb:=pe_chk (a:=b0) (b:=b1) (by omega);simp only[na,nb',nl,decide_false,cond_false,m28 h1 h2,m28 h3 h4,m13 h1 h2 h3 h4,m29 h1 h2,m16 h1 h2 h3 h4,m17 h1 h2 h3 h4,m18 h1 h2 h3 h4,Q1];have hboth:(bif bif (bif pe a0 a1==0 then pe b0 b1 else pe a0 a1)==0 then bif (a0.length:Int) !=(b0.length:Int) then true else (a1.length:Int) !=(b1.length:Int) else false then 8 else bif pe a0 a1==0 then pe b0 b1 else pe a0 a1)=chk2 a0 a1 b0 b1:=by
  unfold chk2;rw[hca,hcb];by_cases e0:pe a0 a1=0
  ·by_cases f0:pe b0 b1=0
   ·simp only[e0,f0,beq_self_eq_true,cond_true,ne_eq,not_true,if_false];by_cases q1:a0.length=b0.length
    ·by_cases q2:a1.length=b1.length
     ·simp[q1,q2]
     ·have:((a1.length:Int) !=(b1.length:Int))=true:=(by simp;omega);simp[q1,q2,this]
    ·have:((a0.length:Int) !=(b0.length:Int))=true:=(by simp;omega);simp[q1,this]
   ·have:(pe b0 b1==0)=false:=(by simpa using f0);simp only[e0,f0,this,beq_self_eq_true,cond_true,cond_false,ne_eq,not_true,not_false_eq_true,if_false,if_true]
  ·have:(pe a0 a1==0)=false:=(by simpa using e0);simp only[e0,this,cond_false,ne_eq,not_false_eq_true,if_true]
 simp only[hboth,hca,bne_self_eq_false,cond_false]
 -- the first tests
 have hg:∀g:List Int×List Int×Int,g=(if chk2 a0 a1 b0 b1≠0 then (([]:List Int),([]:List Int),chk2 a0 a1 b0 b1) else if comp a0 a1 b0 b1=true then (List.zipWith mn a0 b0,List.zipWith mn a1 b1,0) else ([],[],9))->
   (bif !bif g.2.2==chk2 a0 a1 b0 b1 then true else bif chk2 a0 a1 b0 b1==0 then g.2.2==9 else false then true else bif g.2.2 !=0 then decide (IntKind.i64.wrap ((g.1.length:Int)+(g.2.1.length:Int))>0) else false)=false:=λg hg=>by
  subst hg;by_cases hc:chk2 a0 a1 b0 b1=0
  ·simp only[hc,ne_eq,not_true,if_false];cases comp a0 a1 b0 b1<;>rfl
  ·simp only[hc,ne_eq,not_false_eq_true,if_true,beq_self_eq_true,cond_true,Bool.not_true,cond_false,List.length_nil];cases (chk2 a0 a1 b0 b1 !=0)<;>rfl
 generalize hgg:(if chk2 a0 a1 b0 b1≠0 then (([]:List Int),([]:List Int),chk2 a0 a1 b0 b1) else if comp a0 a1 b0 b1=true then (List.zipWith mn a0 b0,List.zipWith mn a1 b1,0) else ([],[],9))=g;have hz:=hg g hgg.symm;simp only[hz,Bool.not_false,Bool.true_and,cond_false];have hcs:chk2 a0 a1 b0 b1≠0->comp a0 a1 b0 b1=false/\Jr a0 a1 b0 b1=false:=λh=>by unfold comp Jr;simp[h]
 have hk:∀(X:Option Bool),(Q1 (bif chk2 a0 a1 b0 b1 !=0 then some (comp a0 a1 b0 b1) else some false) λy_4=>
   Q1 (bif chk2 a0 a1 b0 b1 !=0&&!y_4 then some (Jr a0 a1 b0 b1) else some false) λy_5=>
   Q1 (bif chk2 a0 a1 b0 b1 !=0&&!bif y_4 then true else y_5 then some (if chk2 a0 a1 b0 b1≠0 then (-1:Int) else ((cnt fd a0 b0+cnt fd a1 b1:Nat):Int)) else some (Int.ofNat 0)) λy_6=>
   bif bif chk2 a0 a1 b0 b1 !=0 then bif bif y_4 then true else y_5 then true else y_6 != -1 else false then some false else X)=X:=λX=>by
  by_cases hc:chk2 a0 a1 b0 b1=0
  ·simp[hc,Q1]
  ·obtain⟨g1,g2⟩:=hcs hc;have hb:(chk2 a0 a1 b0 b1 !=0)=true:=(by simpa using hc);simp only[hb,hc,g1,g2,Q1,cond_true,ne_eq,not_false_eq_true,if_true,Bool.not_false,Bool.and_self,cond_false,bne_self_eq_false]
 refine(hk _).trans ?_;rw[s0_run hl'];simp only[ea];have hn:∀p:Int,(decide (p<0)||decide (p>=((a0.length+a1.length:Nat):Int)))=outP (a0.length+a1.length) p:=λp=>rfl;simp only[hn,m19 h1 h2,m23 h1 h2 hl',hca,m25 h1 h2 h1 h2,and_self,decide_true];by_cases he:pe a0 a1=0
 ·have hb:(pe a0 a1==0)=true:=(by simp[he]);have hg7:∀g:List Int×List Int×Int,g=(if w=0\/w=1\/w=2 then flr a0 a1 w else ([],[],1))->
    g.2.2=(bif decide (w>2) then 1 else 0)/\(bif g.2.2 !=0 then decide (IntKind.i64.wrap ((g.1.length:Int)+(g.2.1.length:Int))>0) else false)=false:=λg hg=>by
   subst hg;by_cases hw:w>2
   ·rw[if_neg (by omega)];exact⟨by simp[hw],rfl⟩
   ·rw[if_pos (by omega)];exact⟨by simp[hw,flr],rfl⟩
  have hg8:∀g:List Int×List Int×Int,g=(if l.any (outP (a0.length+a1.length))=true then ([],[],1) else ((rlx a0 a1 l).1,(rlx a0 a1 l).2,0))->
    g.2.2=(if l.any (outP (a0.length+a1.length))=true then 1 else 0)/\(bif g.2.2 !=0 then decide (IntKind.i64.wrap ((g.1.length:Int)+(g.2.1.length:Int))>0) else false)=false:=λg hg=>by
   subst hg;cases l.any (outP (a0.length+a1.length))<;>exact⟨rfl,rfl⟩
  simp only[he,ne_eq,not_true,if_false,beq_self_eq_true,cond_true];generalize hg7':(if w=0\/w=1\/w=2 then flr a0 a1 w else ([],[],1))=g7;generalize hg8':(if l.any (outP (a0.length+a1.length))=true then (([]:List Int),([]:List Int),(1:Int)) else ((rlx a0 a1 l).1,(rlx a0 a1 l).2,0))=g8;obtain⟨x1,x2⟩:=hg7 g7 hg7'.symm;obtain⟨x3,x4⟩:=hg8 g8 hg8'.symm;simp only[x2,x4];simp only[x1,x3,bne_self_eq_false,cond_false,Bool.not_false,cond_true,Bool.not_true,Jo,Q1]
 ·have hb:(pe a0 a1==0)=false:=(by simpa using he);have hb':(pe a0 a1 !=0)=true:=(by simpa using he);have hc:chk a0 a1≠0:=(by rw[hca];exact he);simp only[he,hb,hb',ne_eq,not_false_eq_true,if_true,cond_false,bne_self_eq_false,cond_true,List.length_nil,m30_bad h1 h2 hc,m26_bad h1 h2 hc,m22 h1 h2,hca,beq_self_eq_true,Jo];rfl
end Cu
namespace Cu
theorem m14{i s:List Int}(hi:i.length<=1000000)(hs:s.length<=1000000):M14.m ⟨i,s⟩=some (i++s):=by
 have e1:Qz i.length 1=true:=by simp[Qz,leB];omega
 have e2:(eqN i.length i.length&&Qz (i.length+s.length) 1)=true:=by have h1:eqN i.length i.length=true:=(by simp[eqN]);have h2:Qz (i.length+s.length) 1=true:=(by simp[Qz,leB];omega);rw[h1,h2];rfl
 have e3:leB (0+(i.length+s.length)) (i++s).length=true:=by simp[leB]
 unfold M14.m;simp only[e1,e2,e3,Bool.and_self,cond_true,List.drop_zero];rw[List.take_of_length_le (by simp)]
def anyI{α:Type}(P:Nat->α->Bool):Nat->List α->Bool
 |_,[]=>false
 |k,x::l=>P k x||anyI P (k+1) l
theorem iter_anyI{X Y α:Type}{step:X->Option (X⊕Y)}(S:Nat->X)(l:List α)(P:Nat->α->Bool)(Z:Nat->Y){y:Y}
  (h:∀i (hi:i<l.length),step (S i)=some (if P i l[i]=true then .inr (Z i) else .inl (S (i+1)))) (he:step (S l.length)=some (.inr y)):
  (anyI P 0 l=true/\∃i:Nat,iter step (S 0)=some (Z i))\/(anyI P 0 l=false/\iter step (S 0)=some y):=by
 have:∀j i,i+j=l.length->(anyI P i (l.drop i)=true/\∃t:Nat,iter step (S i)=some (Z t))\/(anyI P i (l.drop i)=false/\iter step (S i)=some y):=by
  intro j
  induction j with
  |zero=>intro i hi;have e:i=l.length:=(by omega);subst e;exact .inr ⟨by rw[List.drop_length];rfl,by rw[iter_eq,he]⟩
  |succ j ih=>
   intro i hi;have hil:i<l.length:=(by omega);rw[List.drop_eq_getElem_cons hil,anyI,iter_eq,h i hil]
   cases hP:P i l[i] with
   |true=>exact .inl ⟨by simp,i,rfl⟩
   |false=>simp only[Bool.false_eq_true,if_false,Bool.false_or];exact ih (i+1) (by omega)
 have h:=this l.length 0 (by omega);rwa [List.drop_zero]at h
def cpl:List Int->Nat->Bool
 |[],_=>true
 |x::l,n=>(x==2||x==((n%2:Nat):Int))&&cpl l (n / 2)
def offP(n i:Nat)(x:Int):Bool:=x !=2&&x !=((n / 2^i%2:Nat):Int)
theorem any_cpl(n:Nat):∀(l:List Int) (k:Nat),anyI (offP n) k l=!cpl l (n / 2^k)
 |[],_=>rfl
 |x::l,k=>by rw[anyI,cpl,any_cpl n l (k+1),Nat.pow_succ,Nat.div_div_eq_div_mul];unfold offP;simp only[bne];generalize (x==2)=p;generalize (x==((n / 2^k%2:Nat):Int))=q;cases p<;>cases q<;>cases cpl l (n / (2^k*2))<;>rfl
theorem jf(n i:Nat)(hi:i<=64):((n:Int).fdiv (2^min i 64)).tmod 2=((n / 2^i%2:Nat):Int):=by
 rw[Nat.min_eq_left hi];have e:((2:Int)^i)=((2^i:Nat):Int):=by simp
 rw[e,Int.fdiv_eq_ediv_of_nonneg _ (Int.natCast_nonneg _),<-Int.natCast_ediv,Int.tmod_eq_emod_of_nonneg (Int.natCast_nonneg _)];omega
theorem Va_w{x:Int}(h:Va x):IntKind.i64.wrap x=x:=by rcases h with rfl|rfl|rfl<;>rfl
theorem m15{i s:List Int}{n:Nat}(h1:Vs i)(h2:Vs s)(h:i.length+s.length<=60):M15.m ⟨i,s,n⟩=some (cpl (i++s) n):=by
 unfold M15.m;simp only[m14 (show i.length<=1000000 by omega) (show s.length<=1000000 by omega),Q1];have hv:Vs (i++s):=λx hx=>by
  rcases List.mem_append.1 hx with hx|hx
  ·exact h1 x hx
  ·exact h2 x hx
 have hl:(i++s).length<=60:=by simp;omega
 generalize i++s=l at*
 have key:=iter_anyI (step:=M15.s0) (λk=>⟨(n:Int),l,(k:Int)⟩) l (offP n) (λ_=>.inr ⟨false⟩) (y:=.inl ⟨⟩) (λk hk=>by
  have e1:((k:Int)<(l.length:Int)):=(by omega);have e2:(0:Int)<=(k:Int):=(by omega);have e3:((n:Int).fdiv (2^min (k:Int).toNat 64)).tmod 2=((n / 2^k%2:Nat):Int):=(by rw[Int.toNat_natCast];exact jf n k (by omega));unfold M15.s0;simp only[e1,QC hk,QY hk,e2,e3,Va_w (hv _ (List.getElem_mem hk)),suc (show k<9000000000000000000 by omega),decide_true,cond_true,Bool.true_or];show(bif (bif l[k] !=2 then l[k] !=_ else false) then _ else _)=_;unfold offP;cases (l[k] !=2)<;>cases (l[k] !=((n / 2^k%2:Nat):Int))<;>rfl) (by unfold M15.s0;simp)
 rw[any_cpl,Nat.pow_zero,Nat.div_one]at key;rcases key with ⟨h1,i,h2⟩|⟨h1,h2⟩
 ·have h2:iter M15.s0 ⟨(n:Int),l,0⟩=_:=h2;simp only[h2,Qn]
  cases hc:cpl l n with
  |true=>rw[hc]at h1;cases h1
  |false=>rfl
 ·have h2:iter M15.s0 ⟨(n:Int),l,0⟩=_:=h2;simp only[h2,Qn]
  cases hc:cpl l n with
  |true=>rfl
  |false=>rw[hc]at h1;cases h1
def bit(x:Int):Nat:=if x=1 then 1 else 0
theorem W9(x:Int)(l:List Int)(d n:Nat)(hd:d<2):cpl (x::l) (d+2*n)=((x==2||x==(d:Int))&&cpl l n):=by
 rw[cpl];have e1:(d+2*n)%2=d:=by omega
 have e2:(d+2*n) / 2=n:=by omega
 rw[e1,e2]
theorem bit_ok{x:Int}(h:Va x):bit x<2/\(x==2||x==(bit x:Int))=true:=by rcases h with rfl|rfl|rfl<;>exact⟨by decide,by decide⟩
theorem ex_cpl:∀(l:List Int),Vs l->∃n,n<2^l.length/\cpl l n=true
 |[],_=>⟨0,by decide,rfl⟩
 |x::l,h=>by
  obtain⟨n,h1,h2⟩:=ex_cpl l h.tl;obtain⟨b1,b2⟩:=bit_ok h.hd;refine⟨bit x+2*n,?_,?_⟩
  ·rw[List.length_cons,Nat.pow_succ];omega
  ·rw[W9 _ _ _ _ b1,b2,h2];rfl
theorem both_fd:∀(a b:List Int) (n:Nat),a.length=b.length->Vs a->Vs b->cpl a n=true->cpl b n=true->cnt fd a b=0
 |[],_,_,_,_,_,_,_=>rfl
 |_::_,[],_,h,_,_,_,_=>by simp at h
 |x::a,y::b,n,h,ha,hb,h1,h2=>by rw[cpl,Bool.and_eq_true]at h1 h2;rw[Ja];refine⟨?_,both_fd a b (n / 2) (by simpa using h) ha.tl hb.tl h1.2 h2.2⟩;have h1:=h1.1;have h2:=h2.1;have hd:n%2=0\/n%2=1:=(by omega);rcases hd with hd|hd<;>rw[hd]at h1 h2<;>rcases ha.hd with rfl|rfl|rfl<;>rcases hb.hd with rfl|rfl|rfl<;>first|decide|exact absurd h1 (by decide)|exact absurd h2 (by decide)
theorem mrg_cpl:∀(a b:List Int) (n:Nat),a.length=b.length->Vs a->Vs b->cnt fd a b=0->cpl (List.zipWith mn a b) n=(cpl a n&&cpl b n)
 |[],[],_,_,_,_,_=>rfl
 |[],_::_,_,h,_,_,_=>by simp at h
 |_::_,[],_,h,_,_,_=>by simp at h
 |x::a,y::b,n,h,ha,hb,hc=>by
  rw[Ja]at hc;rw[List.zipWith_cons_cons,cpl,cpl,cpl,mrg_cpl a b (n / 2) (by simpa using h) ha.tl hb.tl hc.2];have key:(mn x y==2||mn x y==((n%2:Nat):Int))=((x==2||x==((n%2:Nat):Int))&&(y==2||y==((n%2:Nat):Int))):=by have hc:=hc.1;have hd:n%2=0\/n%2=1:=(by omega);rcases hd with hd|hd<;>rw[hd]<;>rcases ha.hd with rfl|rfl|rfl<;>rcases hb.hd with rfl|rfl|rfl<;>first|decide|exact absurd hc (by decide)
  rw[key];cases (x==2||x==((n%2:Nat):Int))<;>cases (y==2||y==((n%2:Nat):Int))<;>cases cpl a (n / 2)<;>rfl
theorem cov_cpl:∀(a b:List Int) (n:Nat),a.length=b.length->Vs a->Vs b->cnt fc a b=0->cpl b n=true->cpl a n=true
 |[],_,_,_,_,_,_,_=>rfl
 |_::_,[],_,h,_,_,_,_=>by simp at h
 |x::a,y::b,n,h,ha,hb,hc,hn=>by rw[Ja]at hc;rw[cpl,Bool.and_eq_true]at hn;rw[cpl,Bool.and_eq_true];refine⟨?_,cov_cpl a b (n / 2) (by simpa using h) ha.tl hb.tl hc.2 hn.2⟩;have hc:=hc.1;have hn:=hn.1;have hd:n%2=0\/n%2=1:=(by omega);rcases hd with hd|hd<;>rw[hd]at hn⊢ <;>rcases ha.hd with rfl|rfl|rfl<;>rcases hb.hd with rfl|rfl|rfl<;>first|decide|exact absurd hc (by decide)|exact absurd hn (by decide)
theorem nocov_cpl:∀(a b:List Int),a.length=b.length->Vs a->Vs b->cnt fc a b≠0->∃n,n<2^b.length/\cpl b n=true/\cpl a n=false
 |[],_,_,_,_,h=>absurd rfl h
 |_::_,[],h,_,_,_=>by simp at h
 |x::a,y::b,h,ha,hb,hc=>by
  cases hf:fc x y with
  |false=>
   have hc':cnt fc a b≠0:=λe=>hc (by rw[Ja];exact⟨hf,e⟩);obtain⟨n,h1,h2,h3⟩:=nocov_cpl a b (by simpa using h) ha.tl hb.tl hc';obtain⟨b1,b2⟩:=bit_ok hb.hd;refine⟨bit y+2*n,?_,?_,?_⟩
   ·rw[List.length_cons,Nat.pow_succ];omega
   ·rw[W9 _ _ _ _ b1,b2,h2];rfl
   ·rw[W9 _ _ _ _ b1,h3];simp
  |true=>
   obtain⟨n,h1,h2⟩:=ex_cpl b hb.tl;obtain⟨d,d1,d2,d3⟩:∃d:Nat,d<2/\(y==2||y==(d:Int))=true/\(x==2||x==(d:Int))=false:=by rcases ha.hd with rfl|rfl|rfl<;>rcases hb.hd with rfl|rfl|rfl<;>first|exact absurd hf (by decide)|exact⟨0,by decide,by decide,by decide⟩|exact⟨1,by decide,by decide,by decide⟩
   refine⟨d+2*n,?_,?_,?_⟩
   ·rw[List.length_cons,Nat.pow_succ];omega
   ·rw[W9 _ _ _ _ d1,d2,h2];rfl
   ·rw[W9 _ _ _ _ d1,d3];rfl
theorem cnt_app(f:Int->Int->Bool){a b:List Int}(c d:List Int)(h:a.length=b.length):cnt f (a++c) (b++d)=cnt f a b+cnt f c d:=by unfold cnt;rw[List.zip_append h,List.countP_append]
theorem zw_app{a b:List Int}(c d:List Int)(h:a.length=b.length):List.zipWith mn (a++c) (b++d)=List.zipWith mn a b++List.zipWith mn c d:=List.zipWith_append h
theorem zC{a b:List Int}(h1:Vs a)(h2:Vs b):Vs (a++b):=λx hx=>by
 rcases List.mem_append.1 hx with hx|hx
 ·exact h1 x hx
 ·exact h2 x hx
end Cu
namespace Cu
theorem pow_w{k:Nat}(h:k<=8):IntKind.i64.wrap (1*2^min ((k:Int)).toNat 64)=((2^k:Nat):Int):=by
 rw[Int.toNat_natCast];have key:∀k:Fin 9,IntKind.i64.wrap (1*2^min k.1 64)=((2^k.1:Nat):Int):=by decide
 exact key ⟨k,by omega⟩
theorem pow_le8{k:Nat}(h:k<=8):2^k<=256:=Nat.le_trans (Nat.pow_le_pow_right (by decide) h) (by decide)
theorem big_sum{most:Nat}{p:List Int×List Int}(hm:most<=1000)(h:bigP most p=false):p.1.length+p.2.length<=most:=by
 unfold bigP at h;by_cases h1:((p.1.length:Int)>(most:Int))
 ·simp[h1]at h
 ·by_cases h2:((p.2.length:Int)>(most:Int))
  ·simp[h1,h2]at h
  ·have ew:IntKind.i64.wrap ((p.1.length:Int)+(p.2.length:Int))=((p.1.length+p.2.length:Nat):Int):=(by rw[w64 (by omega) (by omega)];omega);simp only[h1,h2,decide_false,cond_false,ew,decide_eq_false_iff_not]at h;omega
theorem run3{xi xs yi ys:List Int}(p1:∀x∈xi,0<=x)(p2:∀x∈xs,0<=x)(p3:∀x∈yi,0<=x)(p4:∀x∈ys,0<=x):M3.m ⟨xi,xs,yi,ys⟩=some true:=by
 unfold M3.m;have h9:=m9 (most:=8) (l:=[(xi,xs)]) (by simp);have h9':=m9 (most:=30) (l:=[(yi,ys)]) (by simp);simp only[h9,h9',Q1,Jo]
 cases hb:[(xi,xs)].any (bigP 8) with
 |true=>rfl
 |false=>
  simp only[List.any_cons,List.any_nil,Bool.or_false]at hb;have hl:xi.length+xs.length<=8:=big_sum (most:=8) (by decide) hb
  cases hb':[(yi,ys)].any (bigP 30) with
  |true=>rfl
  |false=>
   simp only[Bool.not_false,Bool.not_true,cond_true,cond_false,m11 (show xi.length<=1000000 by omega) (show xs.length<=1000000 by omega),m12 (show xi.length<=1000000 by omega) (show xs.length<=1000000 by omega),
    m11 (show(shp xi.length yi).length<=1000000 by rw[Qs];omega) (show(shp xs.length ys).length<=1000000 by rw[Qs];omega)]
   have vA:=XP p1;have vA':=XP p2;have vB:=XP (WM (n:=xi.length) p3);have vB':=XP (WM (n:=xs.length) p4);have eA:(vals xi).length+(vals xs).length<=8:=(by rw[J9,J9];omega);have eB:(vals xi).length=(vals (shp xi.length yi)).length:=(by rw[J9,J9,Qs]);have eB':(vals xs).length=(vals (shp xs.length ys)).length:=(by rw[J9,J9,Qs]);generalize vals xi=A at*
   generalize vals xs=A' at*
   generalize vals (shp xi.length yi)=B at*
   generalize vals (shp xs.length ys)=B' at*
   clear h9 h9' hb hb' p1 p2 p3 p4 hl;have cAB:=UQ vA vA' vB vB' eB eB' (by omega);have oAB:=K1 vA vA' vB vB' eB eB' (by omega);have hc:comp A A' B B'=decide (cnt fd (A++A') (B++B')=0):=(by rw[cAB,cnt_app _ _ _ eB,decide_eq_decide];omega);have ho:Jr A A' B B'=decide (cnt fc (A++A') (B++B')=0):=(by rw[oAB,cnt_app _ _ _ eB,decide_eq_decide];omega);have va:=zC vA vA';have vb:=zC vB vB';have el:(A++A').length=(B++B').length:=(by simp;omega);have eK:(A++A').length<=8:=(by simp;omega);simp only[jU vA vA' vB vB' eB eB' (by omega)]
   -- the loop over the completions
   have hloop:∀g:List Int×List Int×Int,g=(if comp A A' B B'=true then (List.zipWith mn A B,List.zipWith mn A' B',(0:Int)) else ([],[],9))->
     iter M3.s0 ⟨g.2.2,0,true,0,A,A',B,B',g.1,g.2.1⟩=some (.inl ⟨g.2.2,(((List.range (2^(A++A').length)).countP λn=>cpl (A++A') n&&cpl (B++B') n:Nat):Int),(List.range (2^(A++A').length)).all λn=>cpl (A++A') n||!cpl (B++B') n,A,A',B,B',g.1,g.2.1⟩):=λg hg=>by
    have hp:=pow_le8 eK;have key:=QR (step:=M3.s0) (λi (_:Unit)=>⟨g.2.2,(((List.range i).countP λn=>cpl (A++A') n&&cpl (B++B') n:Nat):Int),(List.range i).all λn=>cpl (A++A') n||!cpl (B++B') n,(i:Int),A,A',B,B',g.1,g.2.1⟩)
     (List.range (2^(A++A').length)) (λ_ _=>.inl ())
     (λ_=>.inl ⟨g.2.2,(((List.range (2^(A++A').length)).countP λn=>cpl (A++A') n&&cpl (B++B') n:Nat):Int),(List.range (2^(A++A').length)).all λn=>cpl (A++A') n||!cpl (B++B') n,A,A',B,B',g.1,g.2.1⟩) (λ_ _=>True) (λi hi _ _=>by
      have hi:i<2^(A++A').length:=(by simpa using hi);have e1:((i:Int)<((2^(A++A').length:Nat):Int)):=(by omega);have e0:(0:Int)<=((A++A').length:Int):=(by omega);have hcl:(List.range i).countP (λn=>cpl (A++A') n&&cpl (B++B') n)<=i:=Nat.le_trans List.countP_le_length (by simp);have ew:IntKind.i64.wrap ((((List.range i).countP λn=>cpl (A++A') n&&cpl (B++B') n:Nat):Int)+1)=(((List.range i).countP (λn=>cpl (A++A') n&&cpl (B++B') n)+1:Nat):Int):=(by rw[w64 (by omega) (by omega)];omega);have q1:M15.m ⟨A,A',(i:Int)⟩=some (cpl (A++A') i):=m15 vA vA' (by omega);have q2:M15.m ⟨B,B',(i:Int)⟩=some (cpl (B++B') i):=m15 vB vB' (by omega);have q3:(bif g.2.2==0 then M15.m ⟨g.1,g.2.1,(i:Int)⟩ else some false)=some (bif g.2.2==0 then cpl (A++A') i&&cpl (B++B') i else false):=by
       subst hg;rw[hc];by_cases h0:cnt fd (A++A') (B++B')=0
       ·simp only[h0,decide_true,if_true,beq_self_eq_true,cond_true];rw[m15 (zw_V _ _ vA vB) (zw_V _ _ vA' vB') (by rw[List.length_zipWith,List.length_zipWith];omega),<-zw_app _ _ eB,mrg_cpl _ _ _ el va vb h0]
       ·simp only[h0,decide_false,Bool.false_eq_true,if_false];rfl
      unfold M3.s0;simp only[m14 (show A.length<=1000000 by omega) (show A'.length<=1000000 by omega),e0,pow_w eK,e1,q1,q2,q3,Q1,decide_true,cond_true,ew,suc (show i<9000000000000000000 by omega),List.range_succ,List.countP_append,List.countP_singleton,List.all_append,List.all_cons,List.all_nil,Bool.and_true];cases (g.2.2==0)<;>cases cpl (A++A') i<;>cases cpl (B++B') i<;>cases ((List.range i).all λn=>cpl (A++A') n||!cpl (B++B') n)<;>simp) (λ_ _ _ _ _ _=>trivial) (λ_ _=>by
      have e0:(0:Int)<=((A++A').length:Int):=(by omega);unfold M3.s0;simp only[m14 (show A.length<=1000000 by omega) (show A'.length<=1000000 by omega),e0,pow_w eK,Q1,decide_true,cond_true,List.length_range,Int.lt_irrefl,decide_false,cond_false]) () trivial
    rw[ZR]at key;exact key
   generalize hg:(if comp A A' B B'=true then (List.zipWith mn A B,List.zipWith mn A' B',(0:Int)) else ([],[],9))=g;simp only[hloop g hg.symm,Qn];have hcommon:decide ((((List.range (2^(A++A').length)).countP λn=>cpl (A++A') n&&cpl (B++B') n:Nat):Int)>0)=comp A A' B B':=by
    rw[hc,decide_eq_decide];constructor
    ·intro h;have h:0<(List.range (2^(A++A').length)).countP λn=>cpl (A++A') n&&cpl (B++B') n:=(by omega);obtain⟨n,_,hn⟩:=List.countP_pos_iff.1 h;rw[Bool.and_eq_true]at hn;exact both_fd _ _ n el va vb hn.1 hn.2
    ·intro h;obtain⟨n,h1,h2⟩:=ex_cpl _ (zw_V _ _ va vb);rw[mrg_cpl _ _ _ el va vb h]at h2;rw[U2 _ _ el]at h1;have:0<(List.range (2^(A++A').length)).countP λn=>cpl (A++A') n&&cpl (B++B') n:=List.countP_pos_iff.2 ⟨n,List.mem_range.2 h1,h2⟩;omega
   have hcovers:((List.range (2^(A++A').length)).all λn=>cpl (A++A') n||!cpl (B++B') n)=Jr A A' B B':=by
    rw[ho,Bool.eq_iff_iff,decide_eq_true_eq,List.all_eq_true];constructor
    ·intro h;refine Classical.byContradiction λhn=> ?_;obtain⟨n,h1,h2,h3⟩:=nocov_cpl _ _ el va vb hn;have:=h n (List.mem_range.2 (by rw[el];exact h1));rw[h2,h3]at this;cases this
    ·intro h n _
     cases hb:cpl (B++B') n with
     |false=>simp
     |true=>rw[cov_cpl _ _ n el va vb h hb];rfl
   simp only[hcommon,hcovers,m16 (show A.length<=1000000 by omega) (show A'.length<=1000000 by omega) (show B.length<=1000000 by omega) (show B'.length<=1000000 by omega),m17 (show A.length<=1000000 by omega) (show A'.length<=1000000 by omega) (show B.length<=1000000 by omega) (show B'.length<=1000000 by omega),m18 (show A.length<=1000000 by omega) (show A'.length<=1000000 by omega) (show B.length<=1000000 by omega) (show B'.length<=1000000 by omega)];have h18:((if chk2 A A' B B'≠0 then (-1:Int) else ((cnt fd A B+cnt fd A' B':Nat):Int))==0)=comp A A' B B':=by rw[eq0];rfl
   cases hk:comp A A' B B' with
   |true=>rw[hk]at hg h18;simp only[if_true]at hg;subst hg;have z1:(((List.zipWith mn A B).length:Int) !=(A.length:Int))=false:=(by rw[U2 _ _ eB];simp);have z2:(((List.zipWith mn A' B').length:Int) !=(A'.length:Int))=false:=(by rw[U2 _ _ eB'];simp);simp only[z1,z2,h18,beq_self_eq_true,cond_true,cond_false,Bool.not_true,Q1]
   |false=>rw[hk]at hg h18;simp only[Bool.false_eq_true,if_false]at hg;subst hg;simp only[h18,List.length_nil,beq_self_eq_true,cond_true,Q1];rfl
end Cu
namespace Cu
def opn(l:List Int):Nat:=l.countP λv=>v==2
theorem YK(l:List Int):JG l+opn l=l.length:=by
 unfold JG opn
 induction l with
 |nil=>rfl
 |cons v l ih=>rw[List.countP_cons,List.countP_cons,List.length_cons];have a:(if (v !=2)=true then 1 else 0)+(if (v==2)=true then 1 else 0)=1:=(by by_cases h:v=2<;>simp[h]);omega
theorem opn_le(l:List Int):opn l<=l.length:=List.countP_le_length
theorem Uh(v:Int)(l:List Int):opn (v::l)=(if v=2 then 1 else 0)+opn l:=by unfold opn;rw[List.countP_cons];by_cases h:v=2<;>simp[h]<;>omega
theorem opn_app(a b:List Int):opn (a++b)=opn a+opn b:=by unfold opn;rw[List.countP_append]
def cfo(n:Nat)(z:Nat):List Int->List Int
 |[]=>[]
 |v::l=>(if v=2 then ((n / 2^(opn l+z)%2:Nat):Int) else v)::cfo n z l
theorem XR(n z:Nat):∀l,(cfo n z l).length=l.length
 |[]=>rfl
 |v::l=>by rw[cfo,List.length_cons,List.length_cons,XR n z l]
theorem cfo_get(n z:Nat):∀(l:List Int) (k:Nat) (h:k<l.length),(cfo n z l)[k]'(by rw[XR];exact h)=if l[k]=2 then ((n / 2^(opn (l.drop (k+1))+z)%2:Nat):Int) else l[k]
 |[],_,h=>by simp at h
 |v::l,0,_=>rfl
 |v::l,k+1,h=>by have:=cfo_get n z l k (by simpa using h);simpa [cfo] using this
theorem cfo_app(n z:Nat):∀(a b:List Int),cfo n z (a++b)=cfo n (opn b+z) a++cfo n z b
 |[],b=>rfl
 |v::a,b=>by rw[List.cons_append,cfo,cfo,cfo_app n z a b,opn_app,List.cons_append];congr 3;rw[Nat.add_assoc]
theorem bit_w{n k:Nat}(hk:k<=60):IntKind.u8.wrap (IntKind.i64.wrap (((BitVec.ofInt 64 ((n:Int).fdiv (2^min k 64))&&&BitVec.ofInt 64 1).toNat:Nat):Int))=((n / 2^k%2:Nat):Int):=by
 rw[Nat.min_eq_left (by omega)];have e:((2:Int)^k)=((2^k:Nat):Int):=by simp
 rw[e,Int.fdiv_eq_ediv_of_nonneg _ (Int.natCast_nonneg _),<-Int.natCast_ediv];generalize n / 2^k=q;have h1:(BitVec.ofInt 64 (q:Int)&&&BitVec.ofInt 64 1).toNat=q%2:=by have e1:BitVec.ofInt 64 (q:Int)=BitVec.ofNat 64 q:=(by apply BitVec.eq_of_toNat_eq;simp);have e2:BitVec.ofInt 64 1=BitVec.ofNat 64 1:=(by decide);rw[e1,e2,BitVec.toNat_and,BitVec.toNat_ofNat,BitVec.toNat_ofNat,Nat.mod_eq_of_lt (show 1<2^64 by decide),Nat.and_one_is_mod];omega
 rw[h1];have hq:q%2=0\/q%2=1:=by omega
 rcases hq with hq|hq<;>rw[hq]<;>rfl
theorem V6{l:List Int}{k:Nat}(h:k<l.length):opn (l.drop k)=(if l[k]=2 then 1 else 0)+opn (l.drop (k+1)):=by rw[List.drop_eq_getElem_cons h,Uh]
def mid(n z:Nat)(l:List Int)(k:Nat):List Int:=(cfo n z l).take k++l.drop k
theorem mid_tk{n z:Nat}{l:List Int}{k:Nat}(h:k<=l.length):((cfo n z l).take k).length=k:=by rw[List.length_take,XR];omega
theorem mid_len{n z:Nat}{l:List Int}{k:Nat}(h:k<=l.length):(mid n z l k).length=l.length:=by unfold mid;rw[List.length_append,mid_tk h,List.length_drop];omega
theorem mid_get{n z:Nat}{l:List Int}{k:Nat}(h:k<l.length):(mid n z l k)[k]?.getD 0=l[k]:=mid_at (mid_tk (by omega)) h
theorem mid_two{n z:Nat}{l:List Int}{k:Nat}(h:k<l.length)(h2:l[k]=2):(mid n z l k).set k (((n / 2^(opn (l.drop (k+1))+z)%2:Nat):Int))=mid n z l (k+1):=by unfold mid;rw[mid_set (mid_tk (by omega)) h,List.take_succ_eq_append_getElem (by rw[XR];exact h),cfo_get n z l k h,if_pos h2]
theorem mid_one{n z:Nat}{l:List Int}{k:Nat}(h:k<l.length)(h2:l[k]≠2):mid n z l k=mid n z l (k+1):=by unfold mid;rw[Kz h,List.take_succ_eq_append_getElem (by rw[XR];exact h),cfo_get n z l k h,if_neg h2]
theorem mid_0(n z:Nat)(l:List Int):mid n z l 0=l:=by simp[mid]
theorem mid_end(n z:Nat)(l:List Int):mid n z l l.length=cfo n z l:=by unfold mid;rw[List.take_of_length_le (by rw[XR];omega),List.drop_length,List.append_nil]
theorem s1_run30{op:Int}{ol oc:Nat}{N i1:Int}{pi ps:List Int}{out outr:List (List Int×List Int)}{n:Nat}{xs ys:List Int}(h:xs.length+ys.length<=40):
  M30.s1 { opn:=op,out_lo:=0,out_len:=ol,out_cap:=oc,n:=N,i:=i1,pi:=pi,ps:=ps,out:=out,x_lo:=0,x_len:=xs.length,x_cap:=xs.length,y_lo:=0,y_len:=ys.length,y_cap:=ys.length,out_r:=outr,nn:=n,xs:=xs,ys:=ys,left:=((opn xs+opn ys:Nat):Int),bi_lo:=0,bi_len:=xs.length,bi_cap:=xs.length,bs_lo:=0,bs_len:=ys.length,bs_cap:=ys.length }
  =some { opn:=op,out_lo:=0,out_len:=ol,out_cap:=oc,n:=N,i:=i1,pi:=pi,ps:=ps,out:=out,x_lo:=0,x_len:=xs.length,x_cap:=xs.length,y_lo:=0,y_len:=ys.length,y_cap:=ys.length,out_r:=outr,nn:=n,xs:=cfo n (opn ys) xs,ys:=cfo n 0 ys,left:=0,bi_lo:=0,bi_len:=xs.length,bi_cap:=xs.length,bs_lo:=0,bs_len:=ys.length,bs_cap:=ys.length }:=by
 have hle:∀(l:List Int) (k:Nat),opn (l.drop k)<=l.length:=λl k=>Nat.le_trans (opn_le _) (by simp);have k0:=QR (step:=M30.qI) (λk (_:Unit)=>{ n:=(xs.length:Int),i:=(k:Int),opn:=op,out_lo:=0,out_len:=ol,out_cap:=oc,n2:=N,i2:=i1,pi:=pi,ps:=ps,out:=out,x_lo:=0,x_len:=xs.length,x_cap:=xs.length,y_lo:=0,y_len:=ys.length,y_cap:=ys.length,out_r:=outr,nn:=(n:Int),xs:=mid n (opn ys) xs k,ys:=ys,left:=((opn (xs.drop k)+opn ys:Nat):Int),bi_lo:=0,bi_len:=xs.length,bi_cap:=xs.length,bs_lo:=0,bs_len:=ys.length,bs_cap:=ys.length }) xs (λ_ _=>.inl ())
  (λ_=>{ opn:=op,out_lo:=0,out_len:=ol,out_cap:=oc,n:=N,i:=i1,pi:=pi,ps:=ps,out:=out,x_lo:=0,x_len:=xs.length,x_cap:=xs.length,y_lo:=0,y_len:=ys.length,y_cap:=ys.length,out_r:=outr,nn:=(n:Int),xs:=cfo n (opn ys) xs,ys:=ys,left:=((opn ys:Nat):Int),bi_lo:=0,bi_len:=xs.length,bi_cap:=xs.length,bs_lo:=0,bs_len:=ys.length,bs_cap:=ys.length }) (λ_ _=>True) (λk hk _ _=>by
  have e1:((k:Int)<(xs.length:Int)):=(by omega);have e2:k<(mid n (opn ys) xs k).length:=(by rw[mid_len (by omega)];exact hk);have h1:=hle xs (k+1);have h2:=opn_le ys;unfold M30.qI M30.sb1a;simp only[e1,QC hk,suc (show k<9000000000000000000 by omega),Int.toNat_natCast,Nat.zero_add,e2,mid_get hk,decide_true,cond_true];by_cases hv:xs[k]=2
  ·have ed:opn (xs.drop k)+opn ys=(opn (xs.drop (k+1))+opn ys)+1:=(by rw[V6 hk,if_pos hv];omega);have ew:IntKind.i64.wrap (((opn (xs.drop k)+opn ys:Nat):Int) - 1)=((opn (xs.drop (k+1))+opn ys:Nat):Int):=(by rw[ed,w64 (by omega) (by omega)];omega);have e0:(0:Int)<=((opn (xs.drop (k+1))+opn ys:Nat):Int):=(by omega);simp only[hv,beq_self_eq_true,cond_true,ew,e0,decide_true,Int.toNat_natCast,Q1,bit_w (show opn (xs.drop (k+1))+opn ys<=60 by omega),mid_two hk hv]
  ·have hb:(xs[k]==2)=false:=(by simpa using hv);have ed:opn (xs.drop k)=opn (xs.drop (k+1)):=(by rw[V6 hk,if_neg hv];omega);simp only[hb,cond_false,Q1,ed];rw[mid_one hk hv]) (λ_ _ _ _ _ _=>trivial) (λ_ _=>by
  unfold M30.qI;simp[mid_end,opn]) () trivial
 rw[JK]at k0;simp only[mid_0,List.drop_zero]at k0;have k1:=QR (step:=M30.qH) (λk (_:Unit)=>{ n2:=(ys.length:Int),i2:=(k:Int),opn:=op,out_lo:=0,out_len:=ol,out_cap:=oc,n:=N,i:=i1,pi:=pi,ps:=ps,out:=out,x_lo:=0,x_len:=xs.length,x_cap:=xs.length,y_lo:=0,y_len:=ys.length,y_cap:=ys.length,out_r:=outr,nn:=(n:Int),xs:=cfo n (opn ys) xs,ys:=mid n 0 ys k,left:=((opn (ys.drop k)+0:Nat):Int),bi_lo:=0,bi_len:=xs.length,bi_cap:=xs.length,bs_lo:=0,bs_len:=ys.length,bs_cap:=ys.length }) ys (λ_ _=>.inl ())
  (λ_=>{ opn:=op,out_lo:=0,out_len:=ol,out_cap:=oc,n:=N,i:=i1,pi:=pi,ps:=ps,out:=out,x_lo:=0,x_len:=xs.length,x_cap:=xs.length,y_lo:=0,y_len:=ys.length,y_cap:=ys.length,out_r:=outr,nn:=(n:Int),xs:=cfo n (opn ys) xs,ys:=cfo n 0 ys,left:=0,bi_lo:=0,bi_len:=xs.length,bi_cap:=xs.length,bs_lo:=0,bs_len:=ys.length,bs_cap:=ys.length }) (λ_ _=>True) (λk hk _ _=>by
  have e1:((k:Int)<(ys.length:Int)):=(by omega);have e2:k<(mid n 0 ys k).length:=(by rw[mid_len (by omega)];exact hk);have h1:=hle ys (k+1);unfold M30.qH M30.sb1b;simp only[e1,QC hk,suc (show k<9000000000000000000 by omega),Int.toNat_natCast,Nat.zero_add,e2,mid_get hk,decide_true,cond_true];by_cases hv:ys[k]=2
  ·have ed:opn (ys.drop k)+0=(opn (ys.drop (k+1))+0)+1:=(by rw[V6 hk,if_pos hv];omega);have ew:IntKind.i64.wrap (((opn (ys.drop k)+0:Nat):Int) - 1)=((opn (ys.drop (k+1))+0:Nat):Int):=(by rw[ed,w64 (by omega) (by omega)];omega);have e0:(0:Int)<=((opn (ys.drop (k+1))+0:Nat):Int):=(by omega);simp only[hv,beq_self_eq_true,cond_true,ew,e0,decide_true,Int.toNat_natCast,Q1,bit_w (show opn (ys.drop (k+1))+0<=60 by omega),mid_two hk hv]
  ·have hb:(ys[k]==2)=false:=(by simpa using hv);have ed:opn (ys.drop k)=opn (ys.drop (k+1)):=(by rw[V6 hk,if_neg hv];omega);simp only[hb,cond_false,Q1,ed];rw[mid_one hk hv]) (λ_ _ _ _ _ _=>trivial) (λ_ _=>by
  unfold M30.qH;simp[mid_end,opn]) () trivial
 rw[JK]at k1;simp only[mid_0,List.drop_zero,Nat.add_zero]at k1;unfold M30.s1;simp only[Int.ofNat_zero,Int.natCast_zero]at k0 k1;simp only[k0,k1,Q1]
def cpt(i s:List Int)(n:Nat):List Int×List Int:=(cfo n (opn s) i,cfo n 0 s)
def outs(i s:List Int)(k:Nat):List (List Int×List Int):=(List.range k).map (cpt i s)++List.replicate (2^(opn i+opn s) - k) ([],[])
theorem pow_w12{k:Nat}(h:k<=12):IntKind.i64.wrap (1*2^min ((k:Int)).toNat 64)=((2^k:Nat):Int):=by
 rw[Int.toNat_natCast];have key:∀k:Fin 13,IntKind.i64.wrap (1*2^min k.1 64)=((2^k.1:Nat):Int):=by decide
 exact key ⟨k,by omega⟩
theorem pow_le12{k:Nat}(h:k<=12):2^k<=4096:=Nat.le_trans (Nat.pow_le_pow_right (by decide) h) (by decide)
theorem m30b{i s:List Int}(h1:Vs i)(h2:Vs s)(h:i.length+s.length<=40)(hK:opn i+opn s<=12):M30.m ⟨i,s⟩=some ((List.range (2^(opn i+opn s))).map (cpt i s),0):=by
 have ho1:=YK i;have ho2:=YK s;have hp:=pow_le12 hK;have ew:IntKind.i64.wrap (IntKind.i64.wrap ((i.length:Int)+(s.length:Int)) - ((JG i+JG s:Nat):Int))=((opn i+opn s:Nat):Int):=by rw[w64 (x:=(i.length:Int)+(s.length:Int)) (by omega) (by omega),w64 (by omega) (by omega)];omega
 have g0:(0:Int)<=((opn i+opn s:Nat):Int):=by omega
 have g1:¬(((opn i+opn s:Nat):Int)>12):=by omega
 have g2:(decide (0<=((2^(opn i+opn s):Nat):Int))&&decide (((2^(opn i+opn s):Nat):Int)<=((2^(opn i+opn s):Nat):Int))&&decide (((2^(opn i+opn s):Nat):Int)*48<=281474976710656)&&decide (((2^(opn i+opn s):Nat):Int)<=9223372036854775807))=true:=by
  generalize 2^(opn i+opn s)=q at*
  simp;omega
 unfold M30.m;simp only[m29 (show i.length<=1000000 by omega) (show s.length<=1000000 by omega),qP h1 h2 (show i.length+s.length<=16384 by omega),m22 (show i.length<=1000000 by omega) (show s.length<=1000000 by omega),ne_eq,not_true,if_false,bne_self_eq_false,cond_false,Q1,ew,g0,g1,decide_true,decide_false,cond_true,pow_w12 hK];have g3:((48:Nat):Int)=48:=rfl;simp only[g3,g2,cond_true,Int.toNat_natCast];have key:=QR (step:=M30.s0) (λk (_:Unit)=>{ opn:=((opn i+opn s:Nat):Int),out_lo:=0,out_len:=2^(opn i+opn s),out_cap:=2^(opn i+opn s),n:=((2^(opn i+opn s):Nat):Int),i:=(k:Int),pi:=i,ps:=s,out:=outs i s k }) (List.range (2^(opn i+opn s))) (λ_ _=>.inl ())
  (λ_=>{ out_lo:=0,out_len:=2^(opn i+opn s),out_cap:=2^(opn i+opn s),pi:=i,ps:=s,out:=(List.range (2^(opn i+opn s))).map (cpt i s) }) (λ_ _=>True) (λk hk _ _=>by
  have hk:k<2^(opn i+opn s):=(by simpa using hk);have e1:((k:Int)<((2^(opn i+opn s):Nat):Int)):=(by omega);have hlen:(outs i s k).length=2^(opn i+opn s):=(by unfold outs;simp;omega);have e2:k<(outs i s k).length:=(by rw[hlen];exact hk);have htk:List.take k (outs i s k)=(List.range k).map (cpt i s):=(by unfold outs;rw[List.take_append_of_le_length (by simp),List.take_of_length_le (by simp)]);have hdr:List.drop (k+1) (outs i s k)=List.replicate (2^(opn i+opn s) - (k+1)) ([],[]):=(by unfold outs;rw[List.drop_append,List.drop_of_length_le (by simp),List.nil_append,List.length_map,List.length_range,List.drop_replicate];congr 1;omega);have e3:eqN k ((List.range k).map (cpt i s)).length=true:=(by simp[eqN]);have e4:leB (0+i.length) (cfo k (opn s) i).length=true:=(by rw[XR];simp[leB]);have e5:leB (0+s.length) (cfo k 0 s).length=true:=(by rw[XR];simp[leB]);unfold M30.s0;simp only[m34 (show i.length<=1000000 by omega) (show s.length<=1000000 by omega),Q1,QC hk,e1,e2,decide_true,cond_true,Int.toNat_natCast,Nat.zero_add,htk,e3,hdr];unfold M36o.m;simp only[Q1,s1_run30 (show i.length+s.length<=40 by omega)];have e4:leB i.length (cfo k (opn s) i).length=true:=(by rw[XR];simp[leB]);have e5:leB s.length (cfo k 0 s).length=true:=(by rw[XR];simp[leB]);simp only[e4,e5,Nat.zero_add,Bool.and_self,cond_true,List.drop_zero,suc (show k<9000000000000000000 by omega)];rw[List.take_of_length_le (by rw[XR];omega),List.take_of_length_le (by rw[XR];omega)];have ho:outs i s (k+1)=(List.range k).map (cpt i s)++(cfo k (opn s) i,cfo k 0 s)::List.replicate (2^(opn i+opn s) - (k+1)) ([],[]):=(by unfold outs;rw[List.range_succ,List.map_append,List.append_assoc];rfl);rw[ho]) (λ_ _ _ _ _ _=>trivial) (λ_ _=>by
  unfold M30.s0;simp[outs]) () trivial
 rw[ZR]at key;have hout0:outs i s 0=List.replicate (2^(opn i+opn s)) ([],[]):=by simp[outs]
 simp only[hout0,Int.ofNat_zero,Int.natCast_zero]at key;have q:leB (0+2^(opn i+opn s)) ((List.range (2^(opn i+opn s))).map (cpt i s)).length=true:=by simp[leB]
 simp only[key,q,Bool.and_self,cond_true,List.drop_zero];rw[List.take_of_length_le (by simp)]
theorem m30{i s:List Int}(h1:Vs i)(h2:Vs s)(h:i.length+s.length<=8):M30.m ⟨i,s⟩=some ((List.range (2^(opn i+opn s))).map (cpt i s),0):=
 m30b h1 h2 (by omega) (by have:=YK i;have:=YK s;omega)
theorem m30c{i s:List Int}(h1:Vs i)(h2:Vs s)(h:i.length+s.length<=40)(hK:12<opn i+opn s):M30.m ⟨i,s⟩=some ([],3):=by
 have ho1:=YK i;have ho2:=YK s;have ew:IntKind.i64.wrap (IntKind.i64.wrap ((i.length:Int)+(s.length:Int)) - ((JG i+JG s:Nat):Int))=((opn i+opn s:Nat):Int):=by rw[w64 (x:=(i.length:Int)+(s.length:Int)) (by omega) (by omega),w64 (by omega) (by omega)];omega
 have g1:(((opn i+opn s:Nat):Int)>12):=by omega
 unfold M30.m;simp only[m29 (show i.length<=1000000 by omega) (show s.length<=1000000 by omega),qP h1 h2 (show i.length+s.length<=16384 by omega),m22 (show i.length<=1000000 by omega) (show s.length<=1000000 by omega),ne_eq,not_true,if_false,bne_self_eq_false,cond_false,Q1,ew,g1,decide_true,cond_true]
end Cu
namespace Cu
def bts:Nat->Nat->List Int
 |0,_=>[]
 |m+1,k=>((k / 2^m%2:Nat):Int)::bts m k
def mt:List Int->Nat->Bool
 |[],_=>true
 |v::l,k=>(v==2||v==((k / 2^l.length%2:Nat):Int))&&mt l k
def cps:List Int->List (List Int)
 |[]=>[[]]
 |v::l=>if v=2 then (cps l).map (0::·)++(cps l).map (1::·) else (cps l).map (v::·)
theorem low{o e n:Nat}(h:e<o):(2^o+n) / 2^e%2=n / 2^e%2:=by
 obtain⟨d,rfl⟩:∃d,o=e+1+d:=⟨o - (e+1),by omega⟩;have e1:2^(e+1+d)+n=n+2^e*(2*2^d):=by rw[Nat.pow_add,Nat.pow_succ,Nat.mul_assoc,Nat.mul_comm 2,Nat.add_comm,Nat.mul_comm (2^d) 2]
 rw[e1,Nat.add_mul_div_left _ _ (Nat.two_pow_pos e)];omega
theorem high0{o n:Nat}(h:n<2^o):n / 2^o%2=0:=by rw[Nat.div_eq_of_lt h]
theorem high1{o n:Nat}(h:n<2^o):(2^o+n) / 2^o%2=1:=by rw[Nat.add_div_left _ (Nat.two_pow_pos o),Nat.div_eq_of_lt h]
theorem cfo_low{o n:Nat}:∀(l:List Int),opn l<=o->cfo (2^o+n) 0 l=cfo n 0 l
 |[],_=>rfl
 |v::l,h=>by
  rw[Uh]at h;have ih:=cfo_low (o:=o) (n:=n) l (by omega);rw[cfo,cfo,ih];by_cases hv:v=2
  ·rw[if_pos hv,if_pos hv];rw[if_pos hv]at h;rw[Nat.add_zero,low (show opn l<o by omega)]
  ·rw[if_neg hv,if_neg hv]
theorem q8(o:Nat):2^(1+o)=2^o+2^o:=by rw[Nat.add_comm,Nat.pow_succ];omega
theorem outs_cps:∀(l:List Int),(List.range (2^opn l)).map (λn=>cfo n 0 l)=cps l
 |[]=>rfl
 |v::l=>by
  have ih:=outs_cps l;rw[cps];by_cases hv:v=2
  ·subst hv;rw[if_pos rfl,Uh,if_pos rfl,q8,List.range_add,List.map_append,List.map_map];congr 1
   ·rw[<-ih,List.map_map];refine List.map_congr_left λn hn=> ?_;have hn:=List.mem_range.1 hn;show cfo n 0 (2::l)=0::cfo n 0 l;rw[cfo,if_pos rfl,Nat.add_zero,high0 hn];rfl
   ·rw[<-ih,List.map_map];refine List.map_congr_left λn hn=> ?_;have hn:=List.mem_range.1 hn;show cfo (2^opn l+n) 0 (2::l)=1::cfo n 0 l;rw[cfo,if_pos rfl,Nat.add_zero,high1 hn,cfo_low l (Nat.le_refl _)];rfl
  ·rw[if_neg hv,Uh,if_neg hv,Nat.zero_add,<-ih,List.map_map];refine List.map_congr_left λn _=> ?_;show cfo n 0 (v::l)=v::cfo n 0 l;rw[cfo,if_neg hv]
theorem bts_low{o k:Nat}:∀m,m<=o->bts m (2^o+k)=bts m k
 |0,_=>rfl
 |m+1,h=>by rw[bts,bts,bts_low m (by omega),low (by omega)]
theorem mt_low{o k:Nat}:∀(l:List Int),l.length<=o->mt l (2^o+k)=mt l k
 |[],_=>rfl
 |v::l,h=>by simp only[List.length_cons]at h;rw[mt,mt,mt_low l (by omega),low (by omega)]
theorem bts_cps:∀(l:List Int),Vs l->((List.range (2^l.length)).filter (mt l)).map (bts l.length)=cps l
 |[],_=>rfl
 |v::l,h=>by
  have ih:=bts_cps l h.tl;have h0:∀k∈List.range (2^l.length),mt (v::l) k=((v==2||v==0)&&mt l k):=λk hk=>(by rw[mt,high0 (List.mem_range.1 hk)];rfl);have h1:∀k∈List.range (2^l.length),(mt (v::l)∘(2^l.length+·)) k=((v==2||v==1)&&mt l k):=λk hk=>(by show mt (v::l) (2^l.length+k)=_;rw[mt,high1 (List.mem_range.1 hk),mt_low l (Nat.le_refl _)];rfl);have m0:((List.range (2^l.length)).filter (mt l)).map (bts (l.length+1))=(cps l).map (0::·):=(by rw[<-ih,List.map_map];refine List.map_congr_left λk hk=> ?_;have hk:=List.mem_range.1 (List.mem_filter.1 hk).1;show bts (l.length+1) k=0::bts l.length k;rw[bts,high0 hk];rfl);have m1:((List.range (2^l.length)).filter (mt l)).map (bts (l.length+1)∘(2^l.length+·))=(cps l).map (1::·):=(by rw[<-ih,List.map_map];refine List.map_congr_left λk hk=> ?_;have hk:=List.mem_range.1 (List.mem_filter.1 hk).1;show bts (l.length+1) (2^l.length+k)=1::bts l.length k;rw[bts,high1 hk,bts_low _ (Nat.le_refl _)];rfl);rw[List.length_cons,Nat.add_comm l.length 1,q8,List.range_add,List.filter_append,List.map_append,List.filter_map,List.map_map,List.filter_congr h0,List.filter_congr h1,Nat.add_comm 1 l.length,cps];have ff:∀l:List Nat,l.filter (λ_=>false)=[]:=λl=>by induction l<;>simp_all
  rcases h.hd with rfl|rfl|rfl
  ·simp only[show((0:Int)==2||(0:Int)==0)=true from rfl,show((0:Int)==2||(0:Int)==1)=false from rfl,Bool.true_and,Bool.false_and];rw[m0,if_neg (by decide),ff,List.map_nil,List.append_nil]
  ·simp only[show((1:Int)==2||(1:Int)==0)=false from rfl,show((1:Int)==2||(1:Int)==1)=true from rfl,Bool.true_and,Bool.false_and];rw[m1,if_neg (by decide),ff,List.map_nil,List.nil_append]
  ·simp only[show((2:Int)==2||(2:Int)==0)=true from rfl,show((2:Int)==2||(2:Int)==1)=true from rfl,Bool.true_and];rw[m0,m1];simp
theorem ql:∀m k,(bts m k).length=m
 |0,_=>rfl
 |m+1,k=>by rw[bts,List.length_cons,ql m k]
theorem bts_get:∀(m k j:Nat) (h:j<m),(bts m k)[j]'(by rw[ql];exact h)=((k / 2^(m - 1 - j)%2:Nat):Int)
 |m+1,k,0,_=>by simp[bts]
 |m+1,k,j+1,h=>by have:=bts_get m k j (by omega);simp only[bts,List.getElem_cons_succ];rw[this];congr 3;rw[show m+1 - 1 - (j+1)=m - 1 - j by omega]
def okj(l:List Int)(k j:Nat):Bool:=l[j]?.getD 0==2||l[j]?.getD 0==((k / 2^(l.length - 1 - j)%2:Nat):Int)
theorem mt_all(k:Nat):∀(l:List Int),mt l k=(List.range l.length).all (okj l k)
 |[]=>rfl
 |v::l=>by rw[mt,List.length_cons,List.range_succ_eq_map,List.all_cons,mt_all k l,List.all_map];have e0:okj (v::l) k 0=(v==2||v==((k / 2^l.length%2:Nat):Int)):=(by unfold okj;simp);rw[e0];congr 1;congr 1;funext j;show okj l k j=okj (v::l) k (j+1);unfold okj;simp only[List.getElem?_cons_succ,List.length_cons];rw[show l.length+1 - 1 - (j+1)=l.length - 1 - j by omega]
theorem s1_run24{O:List (List Int×List Int)}{i s:List Int}{at_:Int}{k:Nat}(h1:Vs i)(h2:Vs s)(h:i.length+s.length<=8):
  iter M24.s1 ⟨O,((i++s).length:Int),at_,(k:Int),true,0,i,s⟩=some ⟨O,((i++s).length:Int),at_,(k:Int),mt (i++s) k,i,s⟩:=by
 have hv:=zC h1 h2;have hl:(i++s).length<=8:=by simp;omega
 have key:=QR (step:=M24.s1) (λj (_:Unit)=>⟨O,((i++s).length:Int),at_,(k:Int),(List.range j).all (okj (i++s) k),(j:Int),i,s⟩) (List.range (i++s).length) (λ_ _=>.inl ()) (λ_=>⟨O,((i++s).length:Int),at_,(k:Int),mt (i++s) k,i,s⟩) (λ_ _=>True) (λj hj _ _=>by
  have hj:j<(i++s).length:=(by simpa using hj);have e1:((j:Int)<((i++s).length:Int)):=(by omega);have ew:IntKind.i64.wrap (IntKind.i64.wrap (((i++s).length:Int) - 1) - (j:Int))=(((i++s).length - 1 - j:Nat):Int):=(by rw[w64 (x:=((i++s).length:Int) - 1) (by omega) (by omega),w64 (by omega) (by omega)];omega);have e0:(0:Int)<=(((i++s).length - 1 - j:Nat):Int):=(by omega);have eg:∀d,(i++s)[j]?.getD d=(i++s)[j]:=λd=>(by rw[List.getElem?_eq_getElem hj];rfl);unfold M24.s1;simp only[m14 (show i.length<=1000000 by omega) (show s.length<=1000000 by omega),e1,QC hj,eg,ew,e0,Int.toNat_natCast,jf k ((i++s).length - 1 - j) (by omega),Va_w (hv _ (List.getElem_mem hj)),suc (show j<9000000000000000000 by omega),decide_true,cond_true,Bool.true_or,Q1,List.range_succ,List.all_append,List.all_cons,List.all_nil,Bool.and_true];have ho:okj (i++s) k j=((i++s)[j]==2||(i++s)[j]==((k / 2^((i++s).length - 1 - j)%2:Nat):Int)):=(by unfold okj;rw[List.getElem?_eq_getElem hj];rfl);rw[ho];cases (List.range j).all (okj (i++s) k)<;>cases ((i++s)[j]==2)<;>rfl) (λ_ _ _ _ _ _=>trivial) (λ_ _=>by
  unfold M24.s1;simp only[List.length_range,Int.lt_irrefl,decide_false,cond_false,<-mt_all]) () trivial
 rw[ZR]at key;exact key
theorem s2_run24{O:List (List Int×List Int)}{i s:List Int}{a k:Nat}(h:i.length+s.length<=8)(ha:a<O.length)(hf:O[a].1++O[a].2=bts (i++s).length k):
  iter M24.s2 ⟨O,((i++s).length:Int),(a:Int),(k:Int),0,i,s⟩=some (.inl ⟨O,((i++s).length:Int),(a:Int),(k:Int),i,s⟩):=by
 have hl:(i++s).length<=8:=by simp;omega
 have hln:O[a].1.length+O[a].2.length=(i++s).length:=by rw[<-List.length_append,hf,ql]
 have key:=QR (step:=M24.s2) (λj (_:Unit)=>⟨O,((i++s).length:Int),(a:Int),(k:Int),(j:Int),i,s⟩) (List.range (i++s).length) (λ_ _=>.inl ()) (λ_=>.inl ⟨O,((i++s).length:Int),(a:Int),(k:Int),i,s⟩) (λ_ _=>True) (λj hj _ _=>by
  have hj:j<(i++s).length:=(by simpa using hj);have e1:((j:Int)<((i++s).length:Int)):=(by omega);have ew:IntKind.i64.wrap (IntKind.i64.wrap (((i++s).length:Int) - 1) - (j:Int))=(((i++s).length - 1 - j:Nat):Int):=(by rw[w64 (x:=((i++s).length:Int) - 1) (by omega) (by omega),w64 (by omega) (by omega)];omega);have e0:(0:Int)<=(((i++s).length - 1 - j:Nat):Int):=(by omega);have hjb:j<(bts (i++s).length k).length:=(by rw[ql];exact hj);have hb:=bts_get (i++s).length k j hj;have hw:IntKind.i64.wrap ((k / 2^((i++s).length - 1 - j)%2:Nat):Int)=((k / 2^((i++s).length - 1 - j)%2:Nat):Int):=(by have:k / 2^((i++s).length - 1 - j)%2<2:=Nat.mod_lt _ (by decide);exact w64 (by omega) (by omega));have hg:∀d,O[a]?.getD d=O[a]:=λd=>(by simp[ha]);have eg:∀d,(bts (i++s).length k)[j]?.getD d=(bts (i++s).length k)[j]:=λd=>(by rw[List.getElem?_eq_getElem hjb];rfl);unfold M24.s2;simp only[e1,QC ha,hg,m14 (show O[a].1.length<=1000000 by omega) (show O[a].2.length<=1000000 by omega),hf,QC hjb,eg,hb,hw,ew,e0,Int.toNat_natCast,jf k ((i++s).length - 1 - j) (by omega),suc (show j<9000000000000000000 by omega),decide_true,cond_true,Q1,bne_self_eq_false,cond_false]) (λ_ _ _ _ _ _=>trivial) (λ_ _=>by
  unfold M24.s2;simp only[List.length_range,Int.lt_irrefl,decide_false,cond_false]) () trivial
 rw[ZR]at key;exact key
theorem m24{i s:List Int}(h1:Vs i)(h2:Vs s)(h:i.length+s.length<=8):M24.m ⟨i,s⟩=some true:=by
 have hl:(i++s).length<=8:=by simp;omega
 have hp:=pow_le8 hl;have hv:=zC h1 h2;unfold M24.m;simp only[m30 h1 h2 h,m14 (show i.length<=1000000 by omega) (show s.length<=1000000 by omega),Q1,bne_self_eq_false,cond_false];have hfl:((List.range (2^(opn i+opn s))).map (cpt i s)).map (λp=>p.1++p.2)=cps (i++s):=by rw[<-outs_cps,opn_app,List.map_map];refine List.map_congr_left λn _=> ?_;show(cpt i s n).1++(cpt i s n).2=_;rw[cfo_app];rfl
 have hle:∀p∈(List.range (2^(opn i+opn s))).map (cpt i s),p.1.length=i.length/\p.2.length=s.length:=λp hp=>by obtain⟨n,_,rfl⟩:=List.mem_map.1 hp;exact⟨XR _ _ _,XR _ _ _⟩
 generalize (List.range (2^(opn i+opn s))).map (cpt i s)=O at hfl hle;have hlen:(cps (i++s)).length=O.length:=by rw[<-hfl,List.length_map]
 have hb:=bts_cps (i++s) hv;have key:=QR (step:=M24.s0) (λk (a:Nat)=>⟨O,((i++s).length:Int),(a:Int),(k:Int),i,s⟩) (List.range (2^(i++s).length)) (λa k=>.inl (if mt (i++s) k=true then a+1 else a)) (λa=>.inl ⟨O,(a:Int)⟩)
  (λk a=>a<=O.length/\(cps (i++s)).drop a=((List.range' k (2^(i++s).length - k)).filter (mt (i++s))).map (bts (i++s).length)) (λk hk a hI=>by
   have hk:k<2^(i++s).length:=(by simpa using hk);have e1:((k:Int)<((2^(i++s).length:Nat):Int)):=(by omega);have e0:(0:Int)<=((i++s).length:Int):=(by omega);have hr:List.range' k (2^(i++s).length - k)=k::List.range' (k+1) (2^(i++s).length - (k+1)):=(by rw[show 2^(i++s).length - k=(2^(i++s).length - (k+1))+1 by omega,List.range'_succ]);obtain⟨ha,hI⟩:=hI;rw[hr]at hI;unfold M24.s0;simp only[e0,pow_w hl,e1,decide_true,cond_true,s1_run24 h1 h2 h,Q1,List.getElem_range]
   cases hm:mt (i++s) k with
   |false=>simp only[Bool.not_false,cond_true,Bool.false_eq_true,if_false,suc (show k<9000000000000000000 by omega)]
   |true=>
    rw[List.filter_cons,if_pos hm,List.map_cons]at hI;have hal:a<O.length:=by
     rcases Nat.lt_or_ge a O.length with h|h
     ·exact h
     ·rw[List.drop_of_length_le (by omega)]at hI;cases hI
    have hf:O[a].1++O[a].2=bts (i++s).length k:=(by have hac:a<(cps (i++s)).length:=(by omega);rw[List.drop_eq_getElem_cons hac]at hI;have hh:=(List.cons.inj hI).1;simp only[<-hfl,List.getElem_map]at hh;exact hh);have hlp:=hle O[a] (List.getElem_mem hal);have n1:¬((a:Int)>=(O.length:Int)):=(by omega);have hg:∀d,O[(a:Int).toNat]?.getD d=O[a]:=λd=>(by simp[hal]);have hO:O.length<=256:=(by rw[<-hlen,<-hb,List.length_map];exact Nat.le_trans (List.length_filter_le _ _) (by simpa using hp));simp only[Bool.not_true,cond_false,QC hal,Bool.true_or,cond_true,n1,decide_false,hg,hlp.1,hlp.2,bne_self_eq_false,s2_run24 h hal hf,Qn,suc (show k<9000000000000000000 by omega),suc (show a<9000000000000000000 by omega),if_true]) (λk hk a a' hI hF=>by
   have hk:k<2^(i++s).length:=(by simpa using hk);have hF:(if mt (i++s) k=true then a+1 else a)=a':=(by rw[List.getElem_range]at hF;injection hF);have hr:List.range' k (2^(i++s).length - k)=k::List.range' (k+1) (2^(i++s).length - (k+1)):=(by rw[show 2^(i++s).length - k=(2^(i++s).length - (k+1))+1 by omega,List.range'_succ]);obtain⟨ha,hI⟩:=hI;rw[hr,List.filter_cons]at hI;subst hF
   cases hm:mt (i++s) k with
   |false=>rw[hm]at hI;exact⟨ha,hI⟩
   |true=>
    rw[hm]at hI;simp only[if_true,List.map_cons]at hI⊢;have hal:a<(cps (i++s)).length:=by
     rcases Nat.lt_or_ge a (cps (i++s)).length with h|h
     ·exact h
     ·rw[List.drop_of_length_le h]at hI;cases hI
    refine⟨by omega,?_⟩;rw[List.drop_eq_getElem_cons hal]at hI;exact(List.cons.inj hI).2) (λa hI=>by
   have e0:(0:Int)<=((i++s).length:Int):=(by omega);unfold M24.s0;simp only[e0,pow_w hl,List.length_range,Int.lt_irrefl,decide_true,decide_false,cond_true,cond_false]) 0 ⟨by omega,by rw[List.drop_zero,Nat.sub_zero,<-List.range_eq_range',hb]⟩
 have hfin:∀(N:List Nat) (a:Nat),(a<=O.length/\(cps (i++s)).drop a=(N.filter (mt (i++s))).map (bts (i++s).length))->N.foldl (λa k=>if mt (i++s) k=true then a+1 else a) a=O.length:=λN=>by
  induction N with
  |nil=>intro a hI;have:=hI.2;rw[List.filter_nil,List.map_nil,List.drop_eq_nil_iff]at this;show a=_;omega
  |cons k N ih=>
   intro a hI;rw[List.foldl_cons];refine ih _ ?_;obtain⟨ha,hI⟩:=hI;rw[List.filter_cons]at hI
   cases hm:mt (i++s) k with
   |false=>rw[hm]at hI;exact⟨ha,hI⟩
   |true=>
    rw[hm]at hI;simp only[if_true,List.map_cons]at hI⊢;have hal:a<(cps (i++s)).length:=by
     rcases Nat.lt_or_ge a (cps (i++s)).length with h|h
     ·exact h
     ·rw[List.drop_of_length_le h]at hI;cases hI
    refine⟨by omega,?_⟩;rw[List.drop_eq_getElem_cons hal]at hI;exact(List.cons.inj hI).2
 rw[YH,hfin _ 0 ⟨by omega,by rw[List.drop_zero,hb]⟩]at key;have key:iter M24.s0 ⟨O,((i++s).length:Int),0,0,i,s⟩=_:=key;simp only[key,Qn,beq_self_eq_true]
end Cu
namespace Cu
theorem Vn{w last:Int}(hw:w≠2):∀(l d:List Int),l.foldl (fst w) (last,d)=(last,d++l.map λv=>if v=2 then last else v)
 |[],d=>by simp
 |v::l,d=>by have e:fst w (last,d) v=(last,d++[if v=2 then last else v]):=(by unfold fst;by_cases hv:v=2<;>simp[hv,hw]);rw[List.foldl_cons,e,Vn hw l];simp
def nxt(z v:Int):Int:=if v=2 then z else v
def XC:Int->List Int->List Int
 |_,[]=>[]
 |z,v::l=>nxt z v::XC (nxt z v) l
def Y2:Int->List Int->Int
 |z,[]=>z
 |z,v::l=>Y2 (nxt z v) l
theorem fil_rep:∀(l d:List Int) (z:Int),l.foldl (fst 2) (z,d)=(Y2 z l,d++XC z l)
 |[],d,z=>by simp[Y2,XC]
 |v::l,d,z=>by have e:fst 2 (z,d) v=(nxt z v,d++[nxt z v]):=(by unfold fst nxt;by_cases hv:v=2<;>simp[hv]);rw[List.foldl_cons,e,fil_rep l];simp[Y2,XC]
theorem reps_app:∀(a b:List Int) (z:Int),XC z (a++b)=XC z a++XC (Y2 z a) b
 |[],_,_=>rfl
 |v::a,b,z=>by simp only[List.cons_append,XC,Y2,reps_app a b]
theorem Kv:∀(l:List Int) (z:Int),(XC z l).length=l.length
 |[],_=>rfl
 |v::l,z=>by simp[XC,Kv l]
theorem reps_at:∀(l:List Int) (z:Int) (k:Nat),(XC z l)[k+1]?.getD 0=if k+1<l.length then nxt ((XC z l)[k]?.getD 0) (l[k+1]?.getD 0) else 0
 |[],_,_=>by simp[XC]
 |[v],z,k=>by simp[XC]
 |v::u::l,z,0=>by simp[XC]
 |v::u::l,z,k+1=>by have ih:=reps_at (u::l) (nxt z v) k;have e:(v::u::l)[k+1+1]?.getD 0=(u::l)[k+1]?.getD 0:=rfl;rw[e,XC,List.getElem?_cons_succ,List.getElem?_cons_succ,ih];simp only[List.length_cons,Nat.add_lt_add_iff_right]
theorem reps_V:∀(l:List Int) (z:Int),Vs l->z=0\/z=1->∀x∈XC z l,x=0\/x=1
 |[],_,_,_,x,hx=>by simp[XC]at hx
 |v::l,z,h,hz,x,hx=>by
  have hn:nxt z v=0\/nxt z v=1:=by
   unfold nxt;rcases h.hd with rfl|rfl|rfl
   ·exact .inl rfl
   ·exact .inr rfl
   ·exact hz
  rw[XC]at hx;rcases List.mem_cons.1 hx with rfl|hx
  ·exact hn
  ·exact reps_V l _ h.tl hn x hx
theorem spec1_V{l:List Int}(h:Vs l):JO l=0\/JO l=1:=by
 unfold JO
 cases hf:l.find? λv=>v !=2 with
 |none=>exact .inl rfl
 |some x=>
  have h1:=List.find?_some hf;rcases h x (List.mem_of_find?_eq_some hf) with rfl|rfl|rfl
  ·exact .inl rfl
  ·exact .inr rfl
  ·cases h1
def bk(l:List Int):Nat->Option Int
 |0=>if l[0]?.getD 0=2 then none else some (l[0]?.getD 0)
 |k+1=>if l[k+1]?.getD 0=2 then bk l k else some (l[k+1]?.getD 0)
theorem reps_bk(l:List Int)(z:Int):∀k,k<l.length->(XC z l)[k]?.getD 0=(bk l k).getD z
 |0,h=>by
  match l,h with
  |v::l,_=>simp only[XC,bk,nxt,List.getElem?_cons_zero,Option.getD_some];by_cases hv:v=2<;>simp[hv]
 |k+1,h=>by
  rw[reps_at,if_pos h,reps_bk l z k (by omega),bk];unfold nxt;by_cases hv:l[k+1]?.getD 0=2
  ·rw[if_pos hv,if_pos hv]
  ·rw[if_neg hv,if_neg hv];rfl
theorem gd0{l:List Int}{i:Nat}(h:i<l.length):l[i]?.getD 0=l[i]:=by rw[List.getElem?_eq_getElem h];rfl
theorem m20{l:List Int}{i:Nat}{v:Int}(h:i<l.length):M20.m ⟨l,(i:Int),v⟩=some (if l[i]=2 then v else l[i]):=by
 unfold M20.m;simp only[QC h,QY h,cond_true];by_cases hv:l[i]=2
 ·simp[hv]
 ·have hb:(l[i] !=2)=true:=(by simpa using hv);rw[hb,if_neg hv];rfl
theorem m21_back{l:List Int}(hl:l.length<=1000000):∀k,k<l.length->(∃r,bk l k=some r/\iter M21.s0 ⟨l,(k:Int)⟩=some (.inr ⟨r⟩))\/(bk l k=none/\iter M21.s0 ⟨l,(k:Int)⟩=some (.inl ⟨l⟩))
 |0,h=>by
  have hst:M21.s0 ⟨l,((0:Nat):Int)⟩=some (if l[0]=2 then .inl ⟨l,-1⟩ else .inr (.inr ⟨l[0]⟩)):=by
   unfold M21.s0;simp only[QC h,QY h,show(((0:Nat):Int)>=0) from by omega,decide_true,cond_true];by_cases hv:l[0]=2
   ·simp[hv];rfl
   ·have hb:(l[0] !=2)=true:=(by simpa using hv);rw[hb,if_neg hv];rfl
  have hend:M21.s0 ⟨l,-1⟩=some (.inr (.inl ⟨l⟩)):=(by unfold M21.s0;rfl);rw[bk,gd0 h,iter_eq,hst];by_cases hv:l[0]=2
  ·rw[if_pos hv,if_pos hv];right;refine⟨rfl,?_⟩;show iter M21.s0 ⟨l,-1⟩=_;rw[iter_eq,hend]
  ·rw[if_neg hv,if_neg hv];exact .inl ⟨_,rfl,rfl⟩
 |k+1,h=>by
  have hw:IntKind.i64.wrap (((k+1:Nat):Int) - 1)=(k:Int):=(by rw[w64 (by omega) (by omega)];omega);have hst:M21.s0 ⟨l,((k+1:Nat):Int)⟩=some (if l[k+1]=2 then .inl ⟨l,(k:Int)⟩ else .inr (.inr ⟨l[k+1]⟩)):=by
   unfold M21.s0;simp only[QC h,QY h,hw,show(((k+1:Nat):Int)>=0) from by omega,decide_true,cond_true];by_cases hv:l[k+1]=2
   ·simp[hv]
   ·have hb:(l[k+1] !=2)=true:=(by simpa using hv);rw[hb,if_neg hv];rfl
  rw[bk,gd0 h,iter_eq,hst];by_cases hv:l[k+1]=2
  ·rw[if_pos hv,if_pos hv];exact m21_back hl k (by omega)
  ·rw[if_neg hv,if_neg hv];exact .inl ⟨_,rfl,rfl⟩
theorem m21_fwd{l:List Int}(hl:l.length<=1000000):∀j i,i+j=l.length->(∃r,(l.drop i).find? (λv=>v !=2)=some r/\iter M21.s1 ⟨l,(i:Int)⟩=some (.inr ⟨r⟩))\/((l.drop i).find? (λv=>v !=2)=none/\iter M21.s1 ⟨l,(i:Int)⟩=some (.inl ⟨⟩))
 |0,i,hi=>by have e:i=l.length:=(by omega);subst e;right;rw[List.drop_length,iter_eq];have:M21.s1 ⟨l,(l.length:Int)⟩=some (.inr (.inl ⟨⟩)):=(by unfold M21.s1;simp);rw[this];exact⟨rfl,rfl⟩
 |j+1,i,hi=>by
  have hil:i<l.length:=(by omega);have e1:((i:Int)<(l.length:Int)):=(by omega);have hst:M21.s1 ⟨l,(i:Int)⟩=some (if (l[i] !=2)=true then .inr (.inr ⟨l[i]⟩) else .inl ⟨l,((i+1:Nat):Int)⟩):=(by unfold M21.s1;simp only[e1,QC hil,QY hil,suc (show i<9000000000000000000 by omega),decide_true,cond_true];cases (l[i] !=2)<;>rfl);rw[iter_eq,hst,List.drop_eq_getElem_cons hil,List.find?_cons]
  cases hP:(l[i] !=2) with
  |true=>exact .inl ⟨_,rfl,rfl⟩
  |false=>simp only[Bool.false_eq_true,if_false];exact m21_fwd hl j (i+1) (by omega)
theorem m21{l:List Int}{k:Nat}(hl:l.length<=1000000)(h:k<l.length):M21.m ⟨l,(k:Int)⟩=some ((bk l k).getD (JO l)):=by
 unfold M21.m;rcases m21_back hl k h with ⟨r,h1,h2⟩|⟨h1,h2⟩
 ·simp only[h2,Q1,Qn,h1,Option.getD_some]
 ·simp only[h2,Q1,Qn,h1,Option.getD_none];have hf:=m21_fwd hl l.length 0 (by omega);rw[List.drop_zero]at hf;unfold JO;rcases hf with ⟨r,h3,h4⟩|⟨h3,h4⟩
  ·have h4:iter M21.s1 ⟨l,0⟩=_:=h4;simp only[h4,Q1,Qn,h3,Option.getD_some]
  ·have h4:iter M21.s1 ⟨l,0⟩=_:=h4;simp only[h4,Q1,Qn,h3,Option.getD_none]
def rsa(l:List Int)(ps:List Int):List Int:=ps.foldl (λl p=>l.set p.toNat 2) l
theorem rlx_app:∀(ps i s:List Int),(∀p∈ps,0<=p)->(rlx i s ps).1++(rlx i s ps).2=rsa (i++s) ps:=by
 intro ps;have key:∀(n:Nat) (a:List Int×List Int),a.1.length=n->(∀p∈ps,0<=p)->(ps.foldl (rst n) a).1++(ps.foldl (rst n) a).2=rsa (a.1++a.2) ps:=by
  induction ps with
  |nil=>intro n a _ _;rfl
  |cons p ps ih=>
   intro n a ha hp;have h0:=hp p (by simp);have hl:=WQ n a p;rw[List.foldl_cons,ih n (rst n a p) (hl.1.trans ha) (λq hq=>hp q (by simp[hq]))];show rsa _ ps=rsa ((a.1++a.2).set p.toNat 2) ps;congr 1;unfold rst;rw[List.set_append];by_cases h:p<(n:Int)
   ·rw[if_pos h,if_pos (by omega)]
   ·rw[if_neg h,if_neg (by omega)];have:(p - (n:Int)).toNat=p.toNat - a.1.length:=(by omega);rw[this]
 intro i s hp;exact key i.length (i,s) rfl hp
theorem rsa_len:∀(ps l:List Int),(rsa l ps).length=l.length
 |[],_=>rfl
 |p::ps,l=>by show(rsa (l.set p.toNat 2) ps).length=_;rw[rsa_len ps,List.length_set]
theorem rsa_get:∀(ps l:List Int) (k:Nat),k<l.length->(rsa l ps)[k]?.getD 0=if (ps.any λp=>p.toNat==k)=true then 2 else l[k]?.getD 0
 |[],l,k,_=>by simp[rsa]
 |p::ps,l,k,h=>by
  show(rsa (l.set p.toNat 2) ps)[k]?.getD 0=_;rw[rsa_get ps (l.set p.toNat 2) k (by rw[List.length_set];exact h),List.any_cons,List.getElem?_set];by_cases hp:p.toNat=k
  ·subst hp;simp[h]
  ·have:(p.toNat==k)=false:=(by simpa using hp);rw[this,if_neg hp,Bool.false_or]
theorem fc_set:∀(l b:List Int) (n:Nat),cnt fc l b=0->cnt fc (l.set n 2) b=0
 |[],_,_,_=>rfl
 |x::l,[],n,_=>by cases n<;>rfl
 |x::l,y::b,0,h=>by rw[Ja]at h;rw[List.set_cons_zero,Ja];exact⟨rfl,h.2⟩
 |x::l,y::b,n+1,h=>by rw[Ja]at h;rw[List.set_cons_succ,Ja];exact⟨h.1,fc_set l b n h.2⟩
theorem Vs_set{l:List Int}(h:Vs l)(n:Nat):Vs (l.set n 2):=λx hx=>by
 rcases List.mem_or_eq_of_mem_set hx with hx|rfl
 ·exact h x hx
 ·exact .inr (.inr rfl)
theorem rsa_fc:∀(ps l b:List Int),cnt fc l b=0->cnt fc (rsa l ps) b=0
 |[],_,_,h=>h
 |p::ps,l,b,h=>rsa_fc ps _ b (fc_set l b p.toNat h)
theorem rsa_V:∀(ps l:List Int),Vs l->Vs (rsa l ps)
 |[],_,h=>h
 |p::ps,l,h=>rsa_V ps _ (Vs_set h p.toNat)
end Cu
namespace Cu
def vsB(l:List Int):Bool:=l.all λx=>x==0||x==1||x==2
theorem qQ{l:List Int}(h:vsB l=true):Vs l:=λx hx=>by have:=List.all_eq_true.1 h x hx;simp only[Bool.or_eq_true,beq_iff_eq]at this;unfold Va;omega
theorem YZ{i s:List Int}(h1:vsB i=true)(h2:vsB s=true)(h:Nat.ble (i.length+s.length) 100=true){t:List UInt8}(ht:Qq i++124::Qq s=t):M31.m ⟨t⟩=some (i,s):=by subst ht;unfold M31.m;rw[Um (qQ h1) (qQ h2) (by have:=Nat.le_of_ble_eq_true h;omega)];rfl
theorem VP{i s:List Int}(h1:vsB i=true)(h2:vsB s=true)(h:Nat.ble (i.length+s.length) 100=true){t:List UInt8}(ht:Qq i++124::Qq s=t):M26.m ⟨i,s⟩=some t:=by subst ht;exact m26_V (qQ h1) (qQ h2) (by have:=Nat.le_of_ble_eq_true h;omega)
theorem livesL:M10.m ()=some true:=by
 have o1:M31.m ⟨[48,88,88,124,49]⟩=some ([0,2,2],[1]):=YZ rfl rfl rfl rfl;have o2:M31.m ⟨[48,88,49,124,88]⟩=some ([0,2,1],[2]):=YZ rfl rfl rfl rfl;have o3:M31.m ⟨[48,88,124]⟩=some ([0,2],[]):=YZ rfl rfl rfl rfl;have o4:M31.m ⟨[49,88,124]⟩=some ([1,2],[]):=YZ rfl rfl rfl rfl;have o5:M31.m ⟨[88,88,49,88,124,48,88]⟩=some ([2,2,1,2],[0,2]):=YZ rfl rfl rfl rfl;have o6:M31.m ⟨[88,48,124,88]⟩=some ([2,0],[2]):=YZ rfl rfl rfl rfl;have o7:M31.m ⟨[48,49,88,124,49]⟩=some ([0,1,2],[1]):=YZ rfl rfl rfl rfl;have o8:M31.m ⟨[49,48,88,124,88]⟩=some ([1,0,2],[2]):=YZ rfl rfl rfl rfl;have o9:M31.m ⟨[48,49,49,124,48]⟩=some ([0,1,1],[0]):=YZ rfl rfl rfl rfl;have oA:M31.m ⟨[88,49,124]⟩=some ([2,1],[]):=YZ rfl rfl rfl rfl;have oB:M31.m ⟨[48,49,124]⟩=some ([0,1],[]):=YZ rfl rfl rfl rfl;have a1:M13.m ⟨[0,2,2],[1],[0,2,1],[2]⟩=some ([0,2,1],[1],0):=(m13 (by decide) (by decide) (by decide) (by decide)).trans (by decide);have a2:M13.m ⟨[0,2],[],[1,2],[]⟩=some ([],[],9):=(m13 (by decide) (by decide) (by decide) (by decide)).trans (by decide);have a3:M19.m ⟨[2,2,1,2],[0,2],2⟩=some ([1,1,1,1],[0,0],0):=(m19 (by decide) (by decide)).trans (by decide);have a4:M19.m ⟨[2,2,1,2],[0,2],1⟩=some ([1,1,1,1],[0,1],0):=(m19 (by decide) (by decide)).trans (by decide);have a5:M30.m ⟨[2,0],[2]⟩=some ([([0,0],[0]),([0,0],[1]),([1,0],[0]),([1,0],[1])],0):=(m30 (qQ rfl) (qQ rfl) (by decide)).trans (by decide);have a6:M18.m ⟨[0,1,2],[1],[1,0,2],[2]⟩=some 2:=(m18 (by decide) (by decide) (by decide) (by decide)).trans (by decide);have a7:M23.m ⟨[0,1,1],[0],[0,3]⟩=some ([2,1,1],[2],0):=(m23 (by decide) (by decide) (by decide)).trans (by decide);have a8:M27.m ⟨[48,49]⟩=some ([],[],4):=(m27 (by decide)).trans (by decide);have a9:M27.m ⟨[48,124,50]⟩=some ([],[],4):=(m27 (by decide)).trans (by decide);have aA:M27.m ⟨[124]⟩=some ([],[],0):=Um (i:=[]) (s:=[]) (qQ rfl) (qQ rfl) (by decide);have aB:M17.m ⟨[2,1],[],[0,1],[]⟩=some true:=(m17 (by decide) (by decide) (by decide) (by decide)).trans (by decide);have aC:M17.m ⟨[0,1],[],[2,1],[]⟩=some false:=(m17 (by decide) (by decide) (by decide) (by decide)).trans (by decide);have t1:M26.m ⟨[0,2,1],[1]⟩=some [48,88,49,124,49]:=VP rfl rfl rfl rfl;have t2:M26.m ⟨[1,1,1,1],[0,0]⟩=some [49,49,49,49,124,48,48]:=VP rfl rfl rfl rfl;have t3:M26.m ⟨[1,1,1,1],[0,1]⟩=some [49,49,49,49,124,48,49]:=VP rfl rfl rfl rfl;have t4:M26.m ⟨[0,0],[1]⟩=some [48,48,124,49]:=VP rfl rfl rfl rfl;have t5:M26.m ⟨[1,0],[0]⟩=some [49,48,124,48]:=VP rfl rfl rfl rfl;have t6:M26.m ⟨[2,1,1],[2]⟩=some [88,49,49,124,88]:=VP rfl rfl rfl rfl;unfold M10.m;simp only[o1,o2,o3,o4,o5,o6,o7,o8,o9,oA,oB,a1,a2,a3,a4,a5,a6,a7,a8,a9,aA,aB,aC,t1,t2,t3,t4,t5,t6,Q1,bne_self_eq_false,beq_self_eq_true,cond_true,cond_false,Bool.not_true,Bool.not_false,
  show((9:Int) !=9)=false from rfl,show((0:Int) !=0)=false from rfl,List.getElem?_cons_succ,List.getElem?_cons_zero,Option.getD_some,List.length_cons,List.length_nil]
 first|rfl|decide|skip
end Cu
namespace Cu
def fx(z v:Int):Int:=if v=2 then z else v
theorem flr0{w:Int}(hw:w=0\/w=1)(i s:List Int):flr i s w=(i.map (fx w),s.map (fx w),0):=by
 have hz:jV w (i++s)=w:=by rcases hw with rfl|rfl<;>rfl
 have hn:w≠2:=by omega
 unfold flr fil;rw[hz,Vn hn];simp only[Vn hn,List.nil_append];rfl
theorem flr2(i s:List Int):flr i s 2=(XC (JO (i++s)) i,XC (Y2 (JO (i++s)) i) s,0):=by have hz:jV 2 (i++s)=JO (i++s):=rfl;unfold flr fil;rw[hz,fil_rep];simp only[fil_rep,List.nil_append]
theorem lastz_01:∀(l:List Int) (z:Int),Vs l->z=0\/z=1->Y2 z l=0\/Y2 z l=1
 |[],_,_,h=>h
 |v::l,z,h,hz=>by
  refine lastz_01 l _ h.tl ?_;unfold nxt;rcases h.hd with rfl|rfl|rfl
  ·exact .inl rfl
  ·exact .inr rfl
  ·exact hz
theorem cares_all:∀{l:List Int},(∀x∈l,x=0\/x=1)->JG l=l.length:=λ{l} h=>by unfold JG;rw[List.countP_eq_length];intro x hx;rcases h x hx with rfl|rfl<;>rfl
theorem s0_run4{l ai as_ gi gs p q r bits:List Int}(hb:bits.length<=1000000)(hp:p=bits.map (fx 0))(hq:q=bits.map (fx 1))(hr:r=XC (JO bits) bits):
  iter M4.s0 ⟨l,bits,0,p,q,r,0,ai,as_,gi,gs⟩=some (.inl ⟨l,bits,((JG bits:Nat):Int),ai,as_,gi,gs⟩):=by
 have lp:p.length=bits.length:=by rw[hp];simp
 have lq:q.length=bits.length:=by rw[hq];simp
 have lr:r.length=bits.length:=by rw[hr,Kv]
 have key:=QR (step:=M4.s0) (λk (_:Unit)=>⟨l,bits,((JG (bits.take k):Nat):Int),p,q,r,(k:Int),ai,as_,gi,gs⟩) bits (λ_ _=>.inl ()) (λ_=>.inl ⟨l,bits,((JG bits:Nat):Int),ai,as_,gi,gs⟩) (λ_ _=>True) (λk hk _ _=>by
  have e1:((k:Int)<(bits.length:Int)):=(by omega);have kp:k<p.length:=(by omega);have kq:k<q.length:=(by omega);have kr:k<r.length:=(by omega);have ep:p[k]=if bits[k]=2 then 0 else bits[k]:=by simp[hp,fx]
  have eq:q[k]=if bits[k]=2 then 1 else bits[k]:=by simp[hq,fx]
  have er:r[k]=if bits[k]=2 then (bk bits k).getD (JO bits) else bits[k]:=by
   have h1:=reps_bk bits (JO bits) k hk;rw[<-hr,gd0 kr]at h1;rw[h1];by_cases hv:bits[k]=2
   ·rw[if_pos hv]
   ·rw[if_neg hv]
    match k,hk,hv with
    |0,hk,hv=>rw[bk,gd0 hk,if_neg hv];rfl
    |k+1,hk,hv=>rw[bk,gd0 hk,if_neg hv];rfl
  have hc:=jq (bits.take k);have hc2:(bits.take k).length<=bits.length:=(by simp;omega);have ew:IntKind.i64.wrap ((JG (bits.take k):Int)+1)=((JG (bits.take k)+1:Nat):Int):=(by rw[w64 (by omega) (by omega)];omega);unfold M4.s0;simp only[e1,QC hk,QC kp,QC kq,QC kr,QY hk,QY kp,QY kq,QY kr,m20 hk,m21 hb hk,Q1,decide_true,cond_true,Bool.true_or,suc (show k<9000000000000000000 by omega),ep,eq,er,bne_self_eq_false,Bool.not_false,cond_false,US bits k hk,ew];cases (bits[k] !=2)<;>simp) (λ_ _ _ _ _ _=>trivial) (λ_ _=>by unfold M4.s0;simp) () trivial
 rw[JK]at key;exact key
def pos(K:Nat)(l:List Int):List Int:=if K=0 then [] else l.map λv=>Int.tmod v K
theorem s1_run4{l bits ai as_:List Int}(hl:l.length<=20)(hv:∀v∈l,0<=v/\v<=255):iter M4.s1 ⟨l,bits,0,0,0,ai,as_,[]⟩=some ⟨bits,0,(pos bits.length l).length,ai,as_,pos bits.length l⟩:=by
 by_cases hK:bits.length=0
 ·have:¬((bits.length:Int)>0):=(by omega);rw[iter_eq];have hst:M4.s1 ⟨l,bits,0,0,0,ai,as_,[]⟩=some (.inr ⟨bits,0,0,ai,as_,[]⟩):=(by unfold M4.s1;simp only[this,decide_false];cases decide ((0:Int)<(l.length:Int))<;>rfl);rw[hst];simp[pos,hK]
 ·have hb:((bits.length:Int)>0):=(by omega);have hnz:nz (bits.length:Int)=true:=(by unfold nz;rw[Bool.not_eq_true',beq_eq_false_iff_ne];omega);have hpos:pos bits.length l=l.map λv=>Int.tmod v bits.length:=(by simp[pos,hK]);have key:=QR (step:=M4.s1) (λk (_:Unit)=>⟨l,bits,0,k,(k:Int),ai,as_,(l.take k).map λv=>Int.tmod v bits.length⟩) l (λ_ _=>.inl ()) (λ_=>⟨bits,0,l.length,ai,as_,l.map λv=>Int.tmod v bits.length⟩) (λ_ _=>True) (λk hk _ _=>by
   have e1:((k:Int)<(l.length:Int)):=(by omega);have hvk:=hv _ (List.getElem_mem hk);have ew:IntKind.i64.wrap l[k]=l[k]:=w64 (by omega) (by omega);have e2:(eqN 0 0&&eqN ((l.take k).map λv=>Int.tmod v bits.length).length k&&Qz (k+1) 8)=true:=(by have a:eqN ((l.take k).map λv=>Int.tmod v bits.length).length k=true:=(by simp[eqN];omega);have b:Qz (k+1) 8=true:=(by simp[Qz,leB];omega);rw[a,b];rfl);unfold M4.s1;simp only[e1,hb,QC hk,QY hk,hnz,e2,ew,decide_true,cond_true,suc (show k<9000000000000000000 by omega),List.take_succ_eq_append_getElem hk,List.map_append,List.map_cons,List.map_nil]) (λ_ _ _ _ _ _=>trivial) (λ_ _=>by
   unfold M4.s1;simp) () trivial
  rw[JK]at key;rw[hpos,List.length_map];exact key
theorem pos_in{K:Nat}{l:List Int}(hv:∀v∈l,0<=v/\v<=255):∀p∈pos K l,0<=p/\p<(K:Int):=λp hp=>by
 unfold pos at hp;by_cases hK:K=0
 ·rw[if_pos hK]at hp;cases hp
 ·rw[if_neg hK]at hp;obtain⟨v,hv',rfl⟩:=List.mem_map.1 hp;have:=hv v hv';have hKp:0<(K:Int):=Int.natCast_pos.2 (Nat.pos_of_ne_zero hK);show 0<=Int.tmod v (K:Int)/\Int.tmod v (K:Int)<(K:Int);rw[Int.tmod_eq_emod_of_nonneg this.1];exact⟨Int.emod_nonneg _ (Int.ne_of_gt hKp),Int.emod_lt_of_pos _ hKp⟩
theorem s3_run4{bits ps got ai as_:List Int}{i:Nat}(w:Int)(hps:ps.length<=1000)(h0:∀p∈ps,0<=p):
  iter M4.s3 ⟨bits,0,ps.length,got,(i:Int),w,0,ai,as_,ps⟩=some ⟨bits,0,ps.length,got,(i:Int),if (ps.any λp=>p.toNat==i)=true then 2 else w,ai,as_,ps⟩:=by
 have key:=QR (step:=M4.s3) (λk (_:Unit)=>⟨bits,0,ps.length,got,(i:Int),if ((ps.take k).any λp=>p.toNat==i)=true then 2 else w,(k:Int),ai,as_,ps⟩) ps (λ_ _=>.inl ()) (λ_=>⟨bits,0,ps.length,got,(i:Int),if (ps.any λp=>p.toNat==i)=true then 2 else w,ai,as_,ps⟩) (λ_ _=>True) (λk hk _ _=>by
  have e1:((k:Int)<(ps.length:Int)):=(by omega);have hp:=h0 _ (List.getElem_mem hk);have eb:(ps[k]==(i:Int))=(ps[k].toNat==i):=(by rw[Bool.eq_iff_iff,beq_iff_eq,beq_iff_eq];omega);have ha:((ps.take (k+1)).any λp=>p.toNat==i)=(((ps.take k).any λp=>p.toNat==i)||ps[k].toNat==i):=(by rw[List.take_succ_eq_append_getElem hk,List.any_append];simp);unfold M4.s3;simp only[e1,QC hk,Int.toNat_natCast,Nat.zero_add,hk,gd0 hk,eb,ha,decide_true,cond_true,suc (show k<9000000000000000000 by omega)];cases ((ps.take k).any λp=>p.toNat==i)<;>cases (ps[k].toNat==i)<;>rfl) (λ_ _ _ _ _ _=>trivial) (λ_ _=>by unfold M4.s3;simp) () trivial
 rw[JK]at key;exact key
theorem s2_run4{bits ps ai as_:List Int}(hb:bits.length<=1000000)(hps:ps.length<=1000)(h0:∀p∈ps,0<=p):
  iter M4.s2 ⟨bits,0,ps.length,rsa bits ps,0,ai,as_,ps⟩=some (.inl ⟨bits,ai,as_⟩):=by
 have key:=QR (step:=M4.s2) (λk (_:Unit)=>⟨bits,0,ps.length,rsa bits ps,(k:Int),ai,as_,ps⟩) bits (λ_ _=>.inl ()) (λ_=>.inl ⟨bits,ai,as_⟩) (λ_ _=>True) (λk hk _ _=>by
  have e1:((k:Int)<(bits.length:Int)):=(by omega);have hk':k<(rsa bits ps).length:=(by rw[rsa_len];exact hk);have hg:=rsa_get ps bits k hk;rw[gd0 hk',gd0 hk]at hg;unfold M4.s2;simp only[e1,QC hk,QY hk,s3_run4 bits[k] hps h0,QC hk',QY hk',hg,Q1,decide_true,cond_true,bne_self_eq_false,cond_false,suc (show k<9000000000000000000 by omega)]) (λ_ _ _ _ _ _=>trivial) (λ_ _=>by unfold M4.s2;simp) () trivial
 rw[JK]at key;exact key
theorem run4{xi xs l:List Int}(p1:∀x∈xi,0<=x)(p2:∀x∈xs,0<=x)(p3:∀x∈l,0<=x/\x<=255):M4.m ⟨xi,xs,l⟩=some true:=by
 unfold M4.m;have h9:=m9 (most:=40) (l:=[(xi,xs)]) (by simp);simp only[h9,Q1,livesL]
 cases hb:[(xi,xs)].any (bigP 40) with
 |true=>rfl
 |false=>
  simp only[List.any_cons,List.any_nil,Bool.or_false]at hb;have hl:xi.length+xs.length<=40:=big_sum (most:=40) (by decide) hb;by_cases hll:((l.length:Int)>20)
  ·simp only[Bool.not_false,Bool.not_true,cond_false,hll,decide_true,cond_true]
  have hl20:l.length<=20:=(by omega);have vA:=XP p1;have vA':=XP p2;have eA:(vals xi).length+(vals xs).length<=40:=(by rw[J9,J9];omega);simp only[Bool.not_false,Bool.not_true,cond_false,hll,decide_false,m11 (show xi.length<=1000000 by omega) (show xs.length<=1000000 by omega)];generalize vals xi=A at*
  generalize vals xs=A' at*
  clear h9 hb p1 p2 hl;have hA:A.length<=1000000:=(by omega);have hA':A'.length<=1000000:=(by omega);have hK:(A++A').length<=40:=(by simp;omega);have vv:=zC vA vA';have hz:=spec1_V vv;have hc0:chk A A'=0:=qP vA vA' (by omega);have hg1:∀x∈XC (JO (A++A')) A,x=0\/x=1:=reps_V _ _ vA hz;have hg2:∀x∈XC (Y2 (JO (A++A')) A) A',x=0\/x=1:=reps_V _ _ vA' (lastz_01 _ _ vA hz);have vg1:Vs (XC (JO (A++A')) A):=λx hx=>by rcases hg1 x hx with h|h;exact .inl h;exact .inr (.inl h)
  have vg2:Vs (XC (Y2 (JO (A++A')) A) A'):=λx hx=>by rcases hg2 x hx with h|h;exact .inl h;exact .inr (.inl h)
  have lg1:(XC (JO (A++A')) A).length=A.length:=Kv _ _;have lg2:(XC (Y2 (JO (A++A')) A) A').length=A'.length:=Kv _ _;have hcg:chk (XC (JO (A++A')) A) (XC (Y2 (JO (A++A')) A) A')=0:=qP vg1 vg2 (by omega);have hcare:JG (A++A')=JG A+JG A':=(by unfold JG;rw[List.countP_append]);have hcg2:JG (XC (JO (A++A')) A)+JG (XC (Y2 (JO (A++A')) A) A')=(A++A').length:=(by rw[cares_all hg1,cares_all hg2,lg1,lg2,List.length_append]);simp only[m14 hA hA',m19 hA hA',hc0,ne_eq,not_true,if_false,true_or,or_true,if_true,flr0 (w:=0) (.inl rfl),flr0 (w:=1) (.inr rfl),flr2,
   m14 (show(A.map (fx 0)).length<=1000000 by simpa using hA) (show(A'.map (fx 0)).length<=1000000 by simpa using hA'),m14 (show(A.map (fx 1)).length<=1000000 by simpa using hA) (show(A'.map (fx 1)).length<=1000000 by simpa using hA'),
   m14 (show(XC (JO (A++A')) A).length<=1000000 by omega) (show(XC (Y2 (JO (A++A')) A) A').length<=1000000 by omega),<-reps_app,<-List.map_append]
  have n1:∀f:Int->Int,((((A++A').map f).length:Int) !=((A++A').length:Int))=false:=λf=>(by simp);have n2:(((XC (JO (A++A')) (A++A')).length:Int) !=((A++A').length:Int))=false:=(by rw[Kv];simp);simp only[n1,n2,bne_self_eq_false,cond_false,s0_run4 (show(A++A').length<=1000000 by omega) rfl rfl rfl,Qn,m22 hA hA',hc0,ne_eq,not_true,if_false,hcare,
   m22 (show(XC (JO (A++A')) A).length<=1000000 by omega) (show(XC (Y2 (JO (A++A')) A) A').length<=1000000 by omega),hcg,hcg2,Bool.not_false,cond_true,s1_run4 hl20 p3]
  have hpi:=pos_in (K:=(A++A').length) p3;have hpl:(pos (A++A').length l).length<=20:=by
   unfold pos;split
   ·simp
   ·simp;omega
  generalize pos (A++A').length l=ps at*
  have ho:ps.any (outP (A.length+A'.length))=false:=(by rw[List.any_eq_false];intro p hp;have:=hpi p hp;rw[List.length_append]at this;unfold outP;simp;omega);have hr:=rlx_app ps A A' (λp hp=>(hpi p hp).1);have hlr:=WS A.length ps (A,A');have hlr1:(rlx A A' ps).1.length=A.length:=hlr.1;have hlr2:(rlx A A' ps).2.length=A'.length:=hlr.2;have vr:Vs ((rlx A A' ps).1++(rlx A A' ps).2):=(by rw[hr];exact rsa_V _ _ vv);have vr1:Vs (rlx A A' ps).1:=λx hx=>vr x (List.mem_append_left _ hx);have vr2:Vs (rlx A A' ps).2:=λx hx=>vr x (List.mem_append_right _ hx);have hcov:Jr (rlx A A' ps).1 (rlx A A' ps).2 A A'=true:=(by rw[K1 vr1 vr2 vA vA' hlr1 hlr2 (by omega),decide_eq_true_eq];have h:=rsa_fc ps (A++A') (A++A') (self _ vv).2.2;rw[<-hr,cnt_app _ _ _ hlr1]at h;omega);have hll3:((List.length (rsa (A++A') ps):Int) !=((A++A').length:Int))=false:=(by rw[rsa_len];simp);simp only[m23o hA hA' (show ps.length<=1000000 by omega),hc0,ho,ne_eq,not_true,if_false,Bool.false_eq_true,m14 (show(rlx A A' ps).1.length<=1000000 by omega) (show(rlx A A' ps).2.length<=1000000 by omega),hr,hll3,bne_self_eq_false,cond_false,Bool.not_false,cond_true,
   m17 (show(rlx A A' ps).1.length<=1000000 by omega) (show(rlx A A' ps).2.length<=1000000 by omega) hA hA',hcov,Bool.not_true,s2_run4 (show(A++A').length<=1000000 by omega) (show ps.length<=1000 by omega) (λp hp=>(hpi p hp).1)]
  by_cases h8:(((A++A').length:Int)>8)
  ·simp only[h8,decide_true,Bool.not_true,cond_false,cond_true]
  ·simp only[h8,decide_false,Bool.not_false,cond_true,cond_false,m24 vA vA' (show A.length+A'.length<=8 by rw[List.length_append]at h8;omega)]
end Cu
