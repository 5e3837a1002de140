/- A part of the proof. -/
import Derived.Test.YtddaobhpffpmoaaSR7QGe
import Derived.Test.YtddaobhpffpmoaaSR7QGa
import Derived.Test.YtddaobhpffpmoaaSR7QGb
import Derived.Test.YtddaobhpffpmoaaSR7QGc
set_option linter.all false
namespace Go.Proofs.Ytddaobhpffpmoaa
open Go.Abs
namespace Gf
def sw(R:List Q7)(i k:Nat):List Q7:=(R.set i (R[k]?.getD λ_=>false)).set k (R[i]?.getD λ_=>false)
theorem JE(R:List Q7)(i k:Nat):(sw R i k).length=R.length:=by simp[sw]
theorem mr_set(c:Nat)(R:List Q7)(i:Nat)(b:Q7):(mr c R).set i ((c:Int),vw c b)=mr c (R.set i b):=by unfold mr;rw[List.map_set]
theorem mr_sw{c:Nat}{R:List Q7}{i k:Nat}(hi:i<R.length)(hk:k<R.length):
  ((mr c R).set (0+i) (((mr c R)[0+k]?.getD (0,[])).1,((mr c R)[0+k]?.getD (0,[])).2)).set (0+k) (((mr c R)[0+i]?.getD (0,[])).1,((mr c R)[0+i]?.getD (0,[])).2)=mr c (sw R i k):=by
 rw[Ac,Ac,mr_at' hi,mr_at' hk,mr_set,mr_set];unfold sw;rw[A3 hi,A3 hk];rfl
theorem swap101{c d i k cp cq pl pn:Nat}{R S:List Q7}{ps:List Int}(hi:i<R.length)(hk:k<R.length)(hS:S=[]\/S.length=R.length):
  M101.m ⟨i,k,0,R.length,cp,0,S.length,cq,pl,pn,mr c R,mr d S,ps⟩=some (0,R.length,cp,0,S.length,cq,pl,pn,mr c (sw R i k),mr d (sw S i k),ps):=by
 have e1:decide (0+i<(mr c R).length)=true:=by rw[QD];simpa using hi
 have e2:decide (0+k<(mr c R).length)=true:=by rw[QD];simpa using hk
 have e3:∀v:Int×List Int,decide (0+k<((mr c R).set (0+i) v).length)=true:=λv=>by rw[BI];exact e2
 unfold M101.m;simp only[Q6 hi,Q6 hk,A8,e1,e2,e3,A7,mr_sw hi hk];rcases hS with rfl|hS
 ·rfl
 ·by_cases h0:S.length=0
  ·have:S=[]:=AN.1 h0;subst this;rfl
  ·have hi':i<S.length:=(by omega);have hk':k<S.length:=(by omega);have f0:decide ((S.length:Int)>0)=true:=(by simp;omega);have f1:decide (0+i<(mr d S).length)=true:=(by rw[QD];simpa using hi');have f2:decide (0+k<(mr d S).length)=true:=(by rw[QD];simpa using hk');have f3:∀v:Int×List Int,decide (0+k<((mr d S).set (0+i) v).length)=true:=λv=>(by rw[BI];exact f2);simp only[f0,Q6 hi',Q6 hk',f1,f2,f3,A7,mr_sw hi' hk']
def row(R:List Q7)(i:Nat):Q7:=R[i]?.getD λ_=>false
theorem YD{R:List Q7}{i:Nat}(h:i<R.length):row R i=R[i]:=by unfold row;rw[A3 h];rfl
def clS(top k:Nat)(p:List Q7×List Q7)(i:Nat):List Q7×List Q7:=
 if i≠top/\row p.1 i k=true then (p.1.set i (xr (row p.1 i) (row p.1 top)),p.2.set i (xr (row p.2 i) (row p.2 top))) else p
def clN(top k:Nat)(p:List Q7×List Q7):Nat->List Q7×List Q7
 |0=>p
 |i+1=>clS top k (clN top k p i) i
theorem clS_length(top k:Nat)(p:List Q7×List Q7)(i:Nat):(clS top k p i).1.length=p.1.length/\(clS top k p i).2.length=p.2.length:=by unfold clS;split<;>simp
theorem YQ(top k:Nat)(p:List Q7×List Q7):∀i,(clN top k p i).1.length=p.1.length/\(clN top k p i).2.length=p.2.length
 |0=>⟨rfl,rfl⟩
 |i+1=>by have h1:=clS_length top k (clN top k p i) i;have h2:=YQ top k p i;exact⟨h1.1.trans h2.1,h1.2.trans h2.2⟩
theorem cl_step {c d i top k cp cq pl pn : Nat} {P : List Q7 × List Q7} {ps : List Int} (hc : c <= 4096) (hd : d <= 4096) (hR : P.1.length <= 4096) (hi : i < P.1.length) (ht : top < P.1.length) (hk : k < c) (hS : P.2 = [] \/ P.2.length = P.1.length) :
   M102.s0 ⟨top,k,P.1.length,i,0,P.1.length,cp,0,P.2.length,cq,pl,pn,mr c P.1,mr d P.2,ps⟩ =
     some (.inl ⟨top,k,P.1.length,((i + 1 : Nat) : Int),0,P.1.length,cp,0,P.2.length,cq,pl,pn,mr c (clS top k P i).1,mr d (clS top k P i).2,ps⟩) := by
 obtain ⟨R,S⟩ := P;simp only at hR hi ht hS ⊢;have e0 : decide ((i : Int) < (R.length : Int)) = true := by simpa using hi
 have e1 : decide (i < (mr c R).length) = true := by rw [QD]; simpa using hi
 have e2 : decide (top < (mr c R).length) = true := by rw [QD]; simpa using ht
 unfold M102.s0;simp only [e0,Q6 hi,Q6 ht,A8,e1,e2,Bd,A7,Ac,mr_at' hi,mr_at' ht,has (n := c) (i := k) (c : Int) R[i] (by omega) (by unfold nw; omega),suc (show i < 9000000000000000000 by omega)];by_cases hit : i = top
 · subst hit
   have f : ((i : Int) == (i : Int)) = true := (by simp);simp only [f,A7,Bl,AA,bindO];unfold clS;simp
 · have f : ((i : Int) == (top : Int)) = false := by simp; omega
   simp only [f,AA,BB,A7,bindO];unfold clS;simp only [YD hi]
   cases hb : R[i] k with
   | false => simp
   | true =>
     simp only [Bl,AA,sum R[i] R[top] (c : Int) (show c <= 1000000 by omega),YD ht,ne_eq,hit,not_false_eq_true,and_self,Ai,mr_set];by_cases h0 : S.length = 0
     · have : S = [] := AN.1 h0
       subst this;rfl
     · have hS : S.length = R.length := by rcases hS with h | h; · subst h; exact absurd rfl h0
                                           · exact h
       have hi' : i < S.length := (by omega);have ht' : top < S.length := (by omega);have f0 : decide ((S.length : Int) > 0) = true := (by simp; omega);have f1 : decide (i < (mr d S).length) = true := (by rw [QD]; simpa using hi');have f2 : decide (top < (mr d S).length) = true := (by rw [QD]; simpa using ht');simp only [f0,Q6 hi',Q6 ht',f1,f2,A7,mr_at' hi',mr_at' ht',sum S[i] S[top] (d : Int) (show d <= 1000000 by omega),YD hi',YD ht',mr_set]
theorem clear102{c d top k cp cq pl pn:Nat}{R S:List Q7}{ps:List Int}(hc:c<=4096)(hd:d<=4096)(hR:R.length<=4096)(ht:top<R.length)(hk:k<c)(hS:S=[]\/S.length=R.length):
  M102.m ⟨top,k,0,R.length,cp,0,S.length,cq,pl,pn,mr c R,mr d S,ps⟩=some (0,R.length,cp,0,S.length,cq,pl,pn,mr c (clN top k (R,S) R.length).1,mr d (clN top k (R,S) R.length).2,ps):=by
 have key:=QV (step:=M102.s0) (λi=>⟨top,k,R.length,i,0,R.length,cp,0,S.length,cq,pl,pn,mr c (clN top k (R,S) i).1,mr d (clN top k (R,S) i).2,ps⟩) R.length
  (y:=⟨0,R.length,cp,0,S.length,cq,pl,pn,mr c (clN top k (R,S) R.length).1,mr d (clN top k (R,S) R.length).2,ps⟩) (λi hi=>by
   obtain⟨h1,h2⟩:=YQ top k (R,S) i;have h1:(clN top k (R,S) i).1.length=R.length:=h1;have h2:(clN top k (R,S) i).2.length=S.length:=h2;have:=cl_step (cp:=cp) (cq:=cq) (pl:=pl) (pn:=pn) (P:=clN top k (R,S) i) (ps:=ps) hc hd (by omega) (show i<_ by omega) (show top<_ by omega) hk (by
    rcases hS with h|h
    ·exact .inl (AN.1 (by rw[h2,h];rfl))
    ·exact .inr (by omega))
   rw[h1,h2]at this;exact this) (by
   have e1:decide ((R.length:Int)<(R.length:Int))=false:=(by simp);unfold M102.s0;simp only[e1,AA])
 have key:iter M102.s0 ⟨top,k,R.length,0,0,R.length,cp,0,S.length,cq,pl,pn,mr c R,mr d S,ps⟩=_:=key;unfold M102.m;simp only[key,bindO]
end Gf
namespace Gf
def fnd(P:Nat->Bool):Nat->Nat->Option Nat
 |0,_=>none
 |f+1,i=>if P i=true then some i else fnd P f (i+1)
theorem Zz{P:Nat->Bool}:∀{f i j:Nat},fnd P f i=some j->i<=j/\j<i+f/\P j=true/\∀t,i<=t->t<j->P t=false
 |0,i,j,h=>by cases h
 |f+1,i,j,h=>by
  unfold fnd at h;split at h
  ·rename_i hp;cases h;exact⟨A9 _,by omega,hp,λt h1 h2=>by omega⟩
  ·rename_i hp;obtain⟨h1,h2,h3,h4⟩:=Zz h;exact⟨by omega,by omega,h3,λt h5 h6=>by
    by_cases e:t=i
    ·subst e;simpa using hp
    ·exact h4 t (by omega) h6⟩
theorem Y0{P:Nat->Bool}:∀{f i:Nat},fnd P f i=none->∀t,i<=t->t<i+f->P t=false
 |0,i,_,t,h1,h2=>by omega
 |f+1,i,h,t,h1,h2=>by
  unfold fnd at h;split at h
  ·cases h
  ·rename_i hp;by_cases e:t=i
   ·subst e;simpa using hp
   ·exact Y0 h t (by omega) (by omega)
theorem iter_fnd{X Y:Type}{step:X->Option (X⊕Y)}(S:Nat->X)(N:Nat)(P:Nat->Bool)(Z:Nat->Y){y:Y}(h0:∀i,i<N->P i=false->step (S i)=some (.inl (S (i+1))))
  (h1:∀i,i<N->P i=true->step (S i)=some (.inr (Z i))) (he:step (S N)=some (.inr y)):∀f i,i+f=N->iter step (S i)=some (match fnd P f i with|some j=>Z j|none=>y)
 |0,i,hi=>by have:i=N:=(by omega);subst this;rw[iter_eq,he];rfl
 |f+1,i,hi=>by
  unfold fnd;rw[iter_eq]
  cases hp:P i with
  |true=>rw[h1 i (by omega) hp];rfl
  |false=>rw[h0 i (by omega) hp];simpa using iter_fnd S N P Z h0 h1 he f (i+1) (by omega)
end Gf
namespace Gf
def par(f:Q7):Nat->Bool
 |0=>false
 |n+1=>Bool.xor (par f n) (f n)
theorem WI(f:Q7):∀n,(cnt f n%2==1)=par f n
 |0=>rfl
 |n+1=>by
  have h:=WI f n;simp only[par,cnt];rw[<-h];rcases B7 (cnt f n) with e|e
  ·cases f n
   ·simp[e]
   ·have:(cnt f n+1)%2=1:=(by omega);simp[e,this]
  ·cases f n
   ·simp[e]
   ·have:(cnt f n+1)%2=0:=(by omega);simp[e,this]
theorem JA(n:Nat)(a b:Q7):dot n a b=par (an a b) n:=WI _ _
theorem XM{f g:Q7}:∀{n:Nat},(∀i,i<n->f i=g i)->par f n=par g n
 |0,_=>rfl
 |n+1,h=>by simp only[par];rw[XM λi hi=>h i (by omega),h n (by omega)]
theorem par_xr(f g:Q7):∀n,par (xr f g) n=Bool.xor (par f n) (par g n)
 |0=>rfl
 |n+1=>by simp only[par,par_xr f g n,xr];cases par f n<;>cases par g n<;>cases f n<;>cases g n<;>rfl
theorem par_no:∀n,par (λ_=>false) n=false
 |0=>rfl
 |n+1=>by simp only[par,par_no n];rfl
theorem par_zero{f:Q7}{n:Nat}(h:∀i,i<n->f i=false):par f n=false:=by rw[XM h,par_no]
theorem par_one{f:Q7}{j:Nat}:∀{n:Nat},(∀i,i<n->i≠j->f i=false)->par f n=(decide (j<n)&&f j)
 |0,_=>by simp[par]
 |n+1,h=>by
  simp only[par];rw[par_one λi hi=>h i (by omega)];by_cases e:n=j
  ·subst e;simp
  ·have e1:=h n (by omega) e;have e2:(j<n+1)=(j<n):=(by simp;omega);simp only[e1,e2,Bool.xor_false]
theorem Jo(n:Nat)(a b:Q7):dot n a b=dot n b a:=by rw[JA,JA];exact XM λi _=>Bool.and_comm _ _
theorem dot_xr(n:Nat)(a b c:Q7):dot n a (xr b c)=Bool.xor (dot n a b) (dot n a c):=by rw[JA,JA,JA,<-par_xr];refine XM λi _=> ?_;show(a i&&Bool.xor (b i) (c i))=Bool.xor (a i&&b i) (a i&&c i);cases a i<;>cases b i<;>cases c i<;>rfl
theorem xr_dot(n:Nat)(a b c:Q7):dot n (xr a b) c=Bool.xor (dot n a c) (dot n b c):=by rw[Jo,dot_xr,Jo n c a,Jo n c b]
theorem dot_no(n:Nat)(a:Q7):dot n a (λ_=>false)=false:=by rw[JA];exact par_zero λi _=>by unfold an;simp
theorem VZ(n:Nat)(a:Q7):dot n (λ_=>false) a=false:=by rw[Jo,dot_no]
theorem ZF{n:Nat}{a b x:Q7}(h:∀i,i<n->a i=b i):dot n x a=dot n x b:=by rw[JA,JA];exact XM λi hi=>by unfold an;rw[h i hi]
theorem dot_one{n j:Nat}{a b:Q7}(h:∀i,i<n->i≠j->(a i&&b i)=false):dot n a b=(decide (j<n)&&(a j&&b j)):=by rw[JA];exact par_one h
def un(j:Nat):Q7:=λi=>i==j
theorem UO{n j:Nat}(a:Q7)(h:j<n):dot n a (un j)=a j:=by rw[dot_one (j:=j) λi _ hi=>by unfold un;simp[hi]];unfold un;simp[h]
theorem W9{R:List Q7}{i:Nat}(h:R.length<=i):row R i=λ_=>false:=by unfold row;rw[Ad h];rfl
theorem row_lt{R:List Q7}{i k:Nat}(h:row R i k=true):i<R.length:=by
 rcases BV i R.length with h'|h'
 ·exact h'
 ·rw[W9 h']at h;cases h
theorem Uo{R:List Q7}{i:Nat}(b:Q7)(j:Nat)(h:i<R.length):row (R.set i b) j=if j=i then b else row R j:=by
 unfold row;rw[List.getElem?_set];by_cases e:i=j
 ·subst e;simp[h]
 ·rw[AE e,AE (λh=>e h.symm)]
theorem row_sup{c:Nat}{R:List Q7}(h:Y8 c R)(i:Nat):Sup c (row R i):=by
 rcases BV i R.length with h'|h'
 ·rw[YD h'];exact h _ (AJ h')
 ·rw[W9 h'];exact λ_ _=>rfl
def Mt(R S:List Q7):Prop:=S=[]\/S.length=R.length
def pm(i t j:Nat):Nat:=if j=t then i else if j=i then t else j
theorem row_sw{R:List Q7}{i t:Nat}(hi:i<R.length)(ht:t<R.length)(j:Nat):row (sw R i t) j=row R (pm i t j):=by
 unfold sw;rw[Uo _ _ (by rw[BI];exact ht),Uo _ _ hi];unfold pm;by_cases h1:j=t
 ·rw[AB h1,AB h1];rfl
 ·rw[AE h1,AE h1];by_cases h2:j=i
  ·rw[AB h2,AB h2];rfl
  ·rw[AE h2,AE h2]
theorem row_sw2{R S:List Q7}{i t:Nat}(hi:i<R.length)(ht:t<R.length)(hS:Mt R S)(j:Nat):row (sw S i t) j=row S (pm i t j):=by
 rcases hS with rfl|h
 ·rfl
 ·exact row_sw (by omega) (by omega) j
def clR(F G:Nat->Q7)(t k i j:Nat):Q7:=if j<i/\j≠t/\F j k=true then xr (G j) (G t) else G j
theorem set_rows{R S:List Q7}(hS:Mt R S){i:Nat}(hi:i<R.length)(b:Q7)(hb:S=[]->b=λ_=>false)(j:Nat):row (S.set i b) j=if j=i then b else row S j:=by
 rcases hS with rfl|h
 ·rw[hb rfl];split<;>rfl
 ·exact Uo _ _ (by omega)
theorem row_clN{R S:List Q7}{t:Nat}(hS:Mt R S)(ht:t<R.length)(k:Nat):∀i,i<=R.length->(∀j,row (clN t k (R,S) i).1 j=clR (row R) (row R) t k i j)/\(∀j,row (clN t k (R,S) i).2 j=clR (row R) (row S) t k i j)
 |0,_=>by constructor<;>intro j<;>unfold clR<;>rw[AE (λh=>absurd h.1 (BA _))]<;>rfl
 |i+1,hi=>by
  obtain⟨h1,h2⟩:=row_clN hS ht k i (by omega);obtain⟨l1,l2⟩:=YQ t k (R,S) i;have l1:(clN t k (R,S) i).1.length=R.length:=l1;have l2:(clN t k (R,S) i).2.length=S.length:=l2;have hS':Mt (clN t k (R,S) i).1 (clN t k (R,S) i).2:=by
   rcases hS with h|h
   ·exact .inl (AN.1 (by rw[l2,h];rfl))
   ·exact .inr (by omega)
  have hii:clR (row R) (row R) t k i i=row R i:=(by unfold clR;rw[AE (λh=>absurd h.1 (Nat.lt_irrefl _))]);have htt:∀G:Nat->Q7,clR (row R) G t k i t=G t:=λG=>(by unfold clR;rw[AE (λh=>absurd rfl h.2.1)]);have hii2:clR (row R) (row S) t k i i=row S i:=(by unfold clR;rw[AE (λh=>absurd h.1 (Nat.lt_irrefl _))]);have main:∀(G:Nat->Q7) (j:Nat),clR (row R) G t k (i+1) j=if i≠t/\row R i k=true then (if j=i then xr (G i) (G t) else clR (row R) G t k i j) else clR (row R) G t k i j:=by
   intro G j;unfold clR;by_cases e:j=i
   ·subst e;by_cases c:j≠t/\row R j k=true
    ·simp[c]
    ·simp only[c,and_false,Af]
   ·have:(j<i+1)=(j<i):=(by simp;omega);simp only[this,e,Af,ite_self]
  simp only[clN];unfold clS;rw[h1 i,hii];refine⟨λj=> ?_,λj=> ?_⟩
  ·rw[main];by_cases c:i≠t/\row R i k=true
   ·rw[AB c,AB c];show row (List.set _ _ _) j=_;rw[Uo _ _ (by omega),h1 t,htt,h1 j]
   ·rw[AE c,AE c,h1 j]
  ·rw[main];by_cases c:i≠t/\row R i k=true
   ·rw[AB c,AB c];show row (List.set _ _ _) j=_;rw[set_rows hS' (by omega),h2 t,h2 i,htt,hii2,h2 j];intro hn;rw[hn];rfl
   ·rw[AE c,AE c,h2 j]
abbrev St:=List Q7×List Q7×List Nat
def Yd(k:Nat)(s:St):St:=
 match fnd (λi=>row s.1 i k) (s.1.length - s.2.2.length) s.2.2.length with
 |some i=>((clN s.2.2.length k (sw s.1 i s.2.2.length,sw s.2.1 i s.2.2.length) s.1.length).1,(clN s.2.2.length k (sw s.1 i s.2.2.length,sw s.2.1 i s.2.2.length) s.1.length).2,s.2.2++[k])
 |none=>s
def rd(R S:List Q7):Nat->St
 |0=>(R,S,[])
 |k+1=>Yd k (rd R S k)
def pv(ps:List Nat)(s:Nat):Nat:=ps[s]?.getD 0
def Eqs(c d:Nat)(R S:List Q7)(x y:Q7):Prop:=∀i,dot c (row R i) x=dot d (row S i) y
structure Inv(c k r s:Nat)(st:St):Prop where
 lr:st.1.length=r
 ls:st.2.1.length=s
 lt:st.2.2.length<=r
 lk:∀p,p<st.2.2.length->pv st.2.2 p<k
 inc:∀p q,p<q->q<st.2.2.length->pv st.2.2 p<pv st.2.2 q
 own:∀p,p<st.2.2.length->∀j,row st.1 j (pv st.2.2 p)=(j==p)
 zero:∀i j,st.2.2.length<=i->j<k->row st.1 i j=false
 sup:∀i,Sup c (row st.1 i)
theorem pv_old{ps:List Nat}{k p:Nat}(h:p<ps.length):pv (ps++[k]) p=pv ps p:=by unfold pv;rw[AK h]
theorem pv_new{ps:List Nat}{k:Nat}:pv (ps++[k]) ps.length=k:=by unfold pv;rw[AT (A9 _)];simp
theorem rstep_some{c d k r s:Nat}{st:St}(h:Inv c k r s st)(hs:s=0\/s=r){i:Nat}(hf:fnd (λi=>row st.1 i k) (st.1.length - st.2.2.length) st.2.2.length=some i):
  Inv c (k+1) r s (Yd k st)/\(∀x y,Eqs c d (Yd k st).1 (Yd k st).2.1 x y↔Eqs c d st.1 st.2.1 x y)/\(Yd k st).2.2=st.2.2++[k]/\((∀i,Sup d (row st.2.1 i))->∀i,Sup d (row (Yd k st).2.1 i)):=by
 obtain⟨R,S,ps⟩:=st;obtain⟨f1,f2,f3,_⟩:=Zz hf;simp only at f1 f2 f3 hf;have lr:R.length=r:=h.lr;have ls:S.length=s:=h.ls;have lt:ps.length<=r:=h.lt;have hi:i<R.length:=row_lt f3;have ht:ps.length<R.length:=by omega
 have hS:Mt R S:=by
  rcases hs with e|e
  ·exact .inl (AN.1 (by omega))
  ·exact .inr (by omega)
 have hS':Mt (sw R i ps.length) (sw S i ps.length):=by
  rcases hS with rfl|e
  ·exact .inl rfl
  ·exact .inr (by rw[JE,JE];exact e)
 have e0:Yd k (R,S,ps)=((clN ps.length k (sw R i ps.length,sw S i ps.length) R.length).1,(clN ps.length k (sw R i ps.length,sw S i ps.length) R.length).2,ps++[k]):=by unfold Yd;simp only[hf]
 obtain⟨c1,c2⟩:=row_clN (t:=ps.length) hS' (by rw[JE];exact ht) k R.length (by rw[JE];exact A9 _);obtain⟨l1,l2⟩:=YQ ps.length k (sw R i ps.length,sw S i ps.length) R.length;have l1:(clN ps.length k (sw R i ps.length,sw S i ps.length) R.length).1.length=R.length:=l1.trans (JE _ _ _);have l2:(clN ps.length k (sw R i ps.length,sw S i ps.length) R.length).2.length=S.length:=l2.trans (JE _ _ _);have q1:row (sw R i ps.length)=λj=>row R (pm i ps.length j):=funext λj=>row_sw hi ht j;have q2:row (sw S i ps.length)=λj=>row S (pm i ps.length j):=funext λj=>row_sw2 hi ht hS j;rw[q1]at c1;rw[q1,q2]at c2;generalize (clN ps.length k (sw R i ps.length,sw S i ps.length) R.length).1=R' at*
 generalize (clN ps.length k (sw R i ps.length,sw S i ps.length) R.length).2=S' at*
 have ptt:pm i ps.length ps.length=i:=by unfold pm;rw[AB rfl]
 have pge:∀j,ps.length<=pm i ps.length j↔ps.length<=j:=λj=>by
  unfold pm;split
  ·omega
  ·split<;>omega
 have plt:∀j,j<ps.length->pm i ps.length j=j:=λj hj=>by unfold pm;rw[AE (by omega),AE (by omega)]
 have val:∀j m,row R' j m=if j≠ps.length/\row R (pm i ps.length j) k=true then Bool.xor (row R (pm i ps.length j) m) (row R i m) else row R (pm i ps.length j) m:=λj m=>by
  rw[c1];unfold clR;by_cases hc:j≠ps.length/\row R (pm i ps.length j) k=true
  ·have hj:j<R.length:=by
    have:=row_lt hc.2;unfold pm at this;split at this
    ·omega
    ·split at this<;>omega
   rw[AB ⟨hj,hc⟩,AB hc];show xr _ _ m=_;unfold xr;simp only[];rw[ptt]
  ·rw[AE (λh=>hc h.2),AE hc]
 have own:∀p,p<ps.length->∀j,row R' j (pv ps p)=(j==p):=λp hp j=>by
  have o:=h.own p hp;have o1:row R (pm i ps.length j) (pv ps p)=(j==p):=by
   have:=o (pm i ps.length j);simp only at this;rw[this];by_cases hj:j<ps.length
   ·rw[plt j hj]
   ·have h1:=(pge j).2 (by omega);have h2:(pm i ps.length j==p)=false:=(by simp;omega);have h3:(j==p)=false:=(by simp;omega);rw[h2,h3]
  have o2:row R i (pv ps p)=false:=(by have:=o i;simp only at this;rw[this];simp;omega);rw[val,o1,o2];simp
 have new:∀j,row R' j k=(j==ps.length):=λj=>by
  rw[val,f3];by_cases e:j=ps.length
  ·subst e;rw[AE (λh=>absurd rfl h.1),ptt,f3];simp
  ·have e':(j==ps.length)=false:=(by simp;omega);rw[e']
   cases hv:row R (pm i ps.length j) k with
   |true=>simp[e]
   |false=>simp
 refine⟨?_,?_,?_,?_⟩
 rotate_left 3
 ·intro hd j;rw[e0];simp only;rw[c2];unfold clR;split
  ·exact sup_xr (hd _) (hd _)
  ·exact hd _
 ·rw[e0];refine⟨l1.trans lr,l2.trans ls,?_,?_,?_,?_,?_,?_⟩
  ·simp only[Ab,Ar,Bg];omega
  ·intro p hp;simp only[Ab,Ar,Bg]at hp⊢;by_cases e:p=ps.length
   ·subst e;rw[pv_new];omega
   ·rw[pv_old (by omega)];have:=h.lk p (show p<ps.length by omega);simp only at this;omega
  ·intro p q hpq hq;simp only[Ab,Ar,Bg]at hq⊢;rw[pv_old (show p<ps.length by omega)];by_cases e:q=ps.length
   ·subst e;rw[pv_new];exact h.lk p (show p<ps.length by omega)
   ·rw[pv_old (show q<ps.length by omega)];exact h.inc p q hpq (show q<ps.length by omega)
  ·intro p hp j;simp only[Ab,Ar,Bg]at hp⊢;by_cases e:p=ps.length
   ·subst e;rw[pv_new];exact new j
   ·rw[pv_old (show p<ps.length by omega)];exact own p (by omega) j
  ·intro a j ha hj;simp only[Ab,Ar,Bg]at ha⊢;by_cases e:j=k
   ·subst e;rw[new];simp;omega
   ·have z1:=h.zero (pm i ps.length a) j ((pge a).2 (by omega)) (by omega);have z2:=h.zero i j f1 (by omega);simp only at z1 z2;rw[val,z1,z2];simp
  ·intro a m hm;have z1:=h.sup (pm i ps.length a) m hm;have z2:=h.sup i m hm;simp only at z1 z2⊢;rw[val,z1,z2];simp
 ·intro x y;rw[e0];show(∀j,_)↔∀j,_;simp only;have t1:∀j,(dot c (row R' j) x=dot d (row S' j) y)↔((if j<R.length/\j≠ps.length/\row R (pm i ps.length j) k=true then (Bool.xor (dot c (row R (pm i ps.length j)) x) (dot c (row R i) x)=Bool.xor (dot d (row S (pm i ps.length j)) y) (dot d (row S i) y)) else dot c (row R (pm i ps.length j)) x=dot d (row S (pm i ps.length j)) y)):=λj=>by
   rw[c1,c2];unfold clR;split
   ·rw[xr_dot,xr_dot];simp only[];rw[ptt]
   ·rfl
  constructor
  ·intro H;have Ht:dot c (row R i) x=dot d (row S i) y:=(by have:=(t1 ps.length).1 (H ps.length);rw[AE (λh=>absurd rfl h.2.1),ptt]at this;exact this);have Hp:∀j,dot c (row R (pm i ps.length j)) x=dot d (row S (pm i ps.length j)) y:=λj=>by
    have:=(t1 j).1 (H j);split at this
    ·rw[Ht]at this;exact Bool.xor_left_inj.1 this
    ·exact this
   intro j;have hpp:pm i ps.length (pm i ps.length j)=j:=by
    unfold pm;by_cases h1:j=ps.length
    ·subst h1;rw[AB rfl];by_cases h2:i=ps.length
     ·rw[AB h2,h2]
     ·rw[AE h2,AB rfl]
    ·rw[AE h1];by_cases h2:j=i
     ·rw[AB h2,AB rfl,h2]
     ·rw[AE h2,AE h1,AE h2]
   have:=Hp (pm i ps.length j);rw[hpp]at this;exact this
  ·intro H j;rw[t1];split
   ·rw[H,H]
   ·exact H _
 ·rw[e0]
theorem rstep_none{c k r s:Nat}{st:St}(h:Inv c k r s st)(hf:fnd (λi=>row st.1 i k) (st.1.length - st.2.2.length) st.2.2.length=none):
  Inv c (k+1) r s st/\Yd k st=st:=by
 have hn:=Y0 hf;have lt:=h.lt;have lr:=h.lr;refine⟨⟨h.lr,h.ls,h.lt,λp hp=>by have:=h.lk p hp;omega,h.inc,h.own,λi j hi hj=> ?_,h.sup⟩,?_⟩
 ·by_cases e:j=k
  ·subst e;rcases BV i st.1.length with hl|hl
   ·exact hn i hi (by omega)
   ·rw[W9 hl]
  ·exact h.zero i j hi (by omega)
 ·unfold Yd;rw[hf]
theorem Yf{c d:Nat}{R S:List Q7}(sR:Y8 c R)(hS:Mt R S):∀k,Inv c k R.length S.length (rd R S k)/\∀x y,Eqs c d (rd R S k).1 (rd R S k).2.1 x y↔Eqs c d R S x y
 |0=>⟨⟨rfl,rfl,B4 _,λp hp=>absurd hp (BA _),λp q _ hq=>absurd hq (BA _),λp hp=>absurd hp (BA _),λi j _ hj=>absurd hj (BA _),row_sup sR⟩,λx y=>Iff.rfl⟩
 |k+1=>by
  obtain⟨h1,h2⟩:=Yf (d:=d) sR hS k;simp only[rd]
  cases hf:fnd (λi=>row (rd R S k).1 i k) ((rd R S k).1.length - (rd R S k).2.2.length) (rd R S k).2.2.length with
  |some i=>
   have:=rstep_some (d:=d) h1 (by
    rcases hS with e|e
    ·left;rw[e];rfl
    ·right;exact e) hf
   exact⟨this.1,λx y=>(this.2.1 x y).trans (h2 x y)⟩
  |none=>have:=rstep_none h1 hf;rw[this.2];exact⟨this.1,h2⟩
end Gf
namespace Gf
theorem find76o{c d k cp cq:Nat}{R S:List Q7}{ps:List Int}{r0 m0:List (Int×List Int)}(hc:c<=4096)(hd:d<=4096)(hR:R.length<=4096)(hk:k<c)(hS:S=[]\/S.length=R.length)(hp:ps.length<=R.length):
  iter M76o.s1 ⟨c,k,k,((ps.length:Nat):Int),((ps.length:Nat):Int),m0,c,r0,mr c R,mr d S,0,R.length,cp,0,S.length,cq,0,ps.length,ps⟩=
   some (match fnd (λi=>row R i k) (R.length - ps.length) ps.length with
    |some i=>.inr ⟨c,k,m0,c,r0,mr c (clN ps.length k (sw R i ps.length,sw S i ps.length) R.length).1,mr d (clN ps.length k (sw R i ps.length,sw S i ps.length) R.length).2,0,R.length,cp,0,S.length,cq,0,ps.length+1,ps++[(k:Int)]⟩
    |none=>.inl ⟨c,k,m0,c,r0,mr c R,mr d S,0,R.length,cp,0,S.length,cq,0,ps.length,ps⟩):=by
 have hend:M76o.s1 ⟨c,k,k,((ps.length:Nat):Int),((R.length:Nat):Int),m0,c,r0,mr c R,mr d S,0,R.length,cp,0,S.length,cq,0,ps.length,ps⟩=some (.inr (.inl ⟨c,k,m0,c,r0,mr c R,mr d S,0,R.length,cp,0,S.length,cq,0,ps.length,ps⟩)):=by have e0:decide ((R.length:Int)<(R.length:Int))=false:=(by simp);unfold M76o.s1;simp only[e0,AA]
 rcases BV ps.length R.length with ht|ht
 rotate_left
 ·have e:ps.length=R.length:=(by omega);have e2:R.length - ps.length=0:=(by omega);rw[e2];unfold fnd;have hend':=hend;rw[<-e]at hend'⊢;rw[iter_eq,hend']
 refine iter_fnd (step:=M76o.s1) (λi=>⟨c,k,k,((ps.length:Nat):Int),(i:Int),m0,c,r0,mr c R,mr d S,0,R.length,cp,0,S.length,cq,0,ps.length,ps⟩) R.length (λi=>row R i k)
  (λi=>.inr ⟨c,k,m0,c,r0,mr c (clN ps.length k (sw R i ps.length,sw S i ps.length) R.length).1,mr d (clN ps.length k (sw R i ps.length,sw S i ps.length) R.length).2,0,R.length,cp,0,S.length,cq,0,ps.length+1,ps++[(k:Int)]⟩) (λi hi hP=> ?_) (λi hi hP=> ?_) ?_ _ _ (by omega)
 ·have e0:decide ((i:Int)<(R.length:Int))=true:=(by simpa using hi);have e1:decide (0+i<(mr c R).length)=true:=(by rw[QD];simpa using hi);rw[YD hi]at hP;have e1':decide (i<(mr c R).length)=true:=(by rw[QD];simpa using hi);unfold M76o.s1;simp only[e0,Q6 hi,A8,e1',A7,Ac,mr_at' hi,has (n:=c) (i:=k) (c:Int) R[i] (by omega) (by unfold nw;omega),bindO,hP,BB,suc (show i<9000000000000000000 by omega)]
 ·have e0:decide ((i:Int)<(R.length:Int))=true:=(by simpa using hi);have e1':decide (i<(mr c R).length)=true:=(by rw[QD];simpa using hi);rw[YD hi]at hP;have hsw:(sw S i ps.length)=[]\/(sw S i ps.length).length=(sw R i ps.length).length:=by
   rcases hS with rfl|h
   ·exact .inl rfl
   ·exact .inr (by rw[JE,JE];exact h)
  have hcl:=clear102 (cp:=cp) (cq:=cq) (pl:=0) (pn:=ps.length) (R:=sw R i ps.length) (S:=sw S i ps.length) (ps:=ps) (top:=ps.length) (k:=k) hc hd (by rw[JE];exact hR) (by rw[JE];exact ht) hk hsw;rw[JE,JE]at hcl;have e5:(eqN 0 0&&eqN ps.length ps.length&&Ql (ps.length+1) 8)=true:=(by have g1:eqN ps.length ps.length=true:=(by simp[eqN]);have g2:Ql (ps.length+1) 8=true:=(by simp[Ql,leB];omega);rw[g1,g2];rfl);unfold M76o.s1;simp only[e0,Q6 hi,A8,e1',A7,Ac,mr_at' hi,has (n:=c) (i:=k) (c:Int) R[i] (by omega) (by unfold nw;omega),bindO,hP,Bl,AA,swap101 (R:=R) (S:=S) hi ht hS,hcl,e5]
 ·exact hend
theorem red76o{c d q:Nat}{R S:List Q7}(hc:c<=4096)(hd:d<=4096)(hR:R.length<=4096)(sR:Y8 c R)(hS:Mt R S):
  M76o.m ⟨c,mr c R,0,S.length,q,mr d S⟩=some (mr d S,mr c (rd R S c).1,mr d (rd R S c).2.1,0,R.length,R.length,0,S.length,S.length,0,(rd R S c).2.2.length,(rd R S c).2.2.map λ(x:Nat)=>(x:Int)):=by
 have key:=QV (step:=M76o.s0) (λk=>⟨c,k,mr d S,c,mr c R,mr c (rd R S k).1,mr d (rd R S k).2.1,0,R.length,R.length,0,S.length,S.length,0,(rd R S k).2.2.length,(rd R S k).2.2.map λ(x:Nat)=>(x:Int)⟩) c
  (y:=⟨mr d S,c,mr c R,mr c (rd R S c).1,mr d (rd R S c).2.1,0,R.length,R.length,0,S.length,S.length,0,(rd R S c).2.2.length,(rd R S c).2.2.map λ(x:Nat)=>(x:Int)⟩) (λk hk=>by
   have e1:decide ((k:Int)<(c:Int))=true:=(by simpa using hk);have inv:=(Yf (d:=d) sR hS k).1;have l1:=inv.lr;have l2:=inv.ls;have l3:=inv.lt;have hS':Mt (rd R S k).1 (rd R S k).2.1:=by
    rcases hS with e|e
    ·exact .inl (AN.1 (by rw[l2,e];rfl))
    ·exact .inr (by omega)
   simp only[rd];generalize rd R S k=st at*
   obtain⟨R',S',ps⟩:=st;simp only at l1 l2 l3 hS'⊢;have f:=find76o (c:=c) (d:=d) (k:=k) (cp:=R.length) (cq:=S.length) (R:=R') (S:=S') (ps:=ps.map λ(x:Nat)=>(x:Int)) (r0:=mr c R) (m0:=mr d S) hc hd (by omega) hk hS' (by rw[AG];omega);rw[AG,l1,l2]at f;unfold M76o.s0;simp only[e1,A7,f,bindO];unfold Yd;simp only[l1]
   cases fnd (λi=>row R' i k) (R.length - ps.length) ps.length with
   |some i=>simp only[sumC,suc (show k<9000000000000000000 by omega),AZ,AQ,Ba,Ab,Ar,Bg,Ac]
   |none=>simp only[sumC,suc (show k<9000000000000000000 by omega)]) (by
   have e1:decide ((c:Int)<(c:Int))=false:=(by simp);unfold M76o.s0;simp only[e1,AA])
 have key:iter M76o.s0 ⟨c,0,mr d S,c,mr c R,mr c R,mr d S,0,R.length,R.length,0,S.length,S.length,0,0,[]⟩=_:=key;have hSl:S.length<=4096:=by
  rcases hS with e|e
  ·rw[e];simp
  ·omega
 have e1:∀n:Nat,n<=4096->(decide (0<=(n:Int))&&decide ((n:Int)<=(n:Int))&&decide ((n:Int)*(↑32:Int)<=281474976710656)&&decide ((n:Int)<=9223372036854775807))=true:=λn hn=>by simp;omega
 have e2:∀n:Nat,leB (0+n) (List.replicate n ((0,[]):Int×List Int)).length=true:=λn=>by simp[leB]
 have e3:∀(k:Nat) (Q:List Q7),List.take 0 (List.replicate Q.length ((0,[]):Int×List Int))++List.take (min Q.length Q.length) (mr k Q)++List.drop (0+min Q.length Q.length) (List.replicate Q.length (0,[]))=mr k Q:=λk Q=>by rw[Nat.min_self,List.take_zero,BY,AS (l:=mr k Q) (by rw[QD];exact A9 _),List.drop_of_length_le (by simp),List.append_nil]
 have e4:leB (0+S.length) S.length=true:=by simp[leB]
 have e5:List.take S.length (List.drop 0 (mr d S))=mr d S:=by rw[An,AS (by rw[QD];exact A9 _)]
 unfold M76o.m;simp only[QD,A8,e1 _ hR,e1 _ hSl,e2,e4,e5,AY,A7,e3,key,bindO]
end Gf
namespace Gf
theorem iter_to{X Y:Type}{step:X->Option (X⊕Y)}(S:Nat->X):∀k,(∀i,i<k->step (S i)=some (.inl (S (i+1))))->iter step (S 0)=iter step (S k)
 |0,_=>rfl
 |k+1,h=>by rw[iter_to S k λi hi=>h i (by omega),iter_eq,h k (by omega)]
def ints(ps:List Nat):List Int:=ps.map λ(x:Nat)=>(x:Int)
theorem Q4(ps:List Nat):(ints ps).length=ps.length:=by simp[ints]
theorem ints_at{ps:List Nat}{s:Nat}(h:s<ps.length):(ints ps)[s]?.getD 0=((pv ps s:Nat):Int):=by unfold ints pv;rw[AX,A3 h];rfl
theorem fl_xr(b:Q7)(i:Nat):fl b i=xr b (un i):=by
 funext k;unfold fl xr un;by_cases h:k=i
 ·subst h;simp
 ·have:(k==i)=false:=(by simp[h]);rw[AE h,this,Bool.xor_false]
theorem no_xr(b:Q7):xr (λ_=>false) b=b:=by funext k;unfold xr;simp
theorem fl_no(i:Nat):fl (λ_=>false) i=un i:=by rw[fl_xr,no_xr]
theorem un_sup{c j:Nat}(h:j<c):Sup c (un j):=λi hi=>by unfold un;simp;omega
def cmb(b:Q7)(g:Nat->Bool)(ps:List Nat):Nat->Q7
 |0=>b
 |s+1=>if g s=true then fl (cmb b g ps s) (pv ps s) else cmb b g ps s
theorem cmb_sup{c:Nat}{b:Q7}{g:Nat->Bool}{ps:List Nat}(hb:Sup c b):∀{s:Nat},(∀p,p<s->pv ps p<c)->Sup c (cmb b g ps s)
 |0,_=>hb
 |s+1,h=>by
  have ih:=cmb_sup (g:=g) (s:=s) hb λp hp=>h p (show p<s+1 by omega);unfold cmb;split
  ·rw[fl_xr];exact sup_xr ih (un_sup (h s (by omega)))
  ·exact ih
theorem dot_cmb{c:Nat}{a b:Q7}{g:Nat->Bool}{ps:List Nat}:∀{s:Nat},(∀p,p<s->pv ps p<c)->dot c a (cmb b g ps s)=Bool.xor (dot c a b) (par (λp=>g p&&a (pv ps p)) s)
 |0,_=>by simp[cmb,par]
 |s+1,h=>by
  have ih:=dot_cmb (a:=a) (b:=b) (g:=g) (s:=s) λp hp=>h p (show p<s+1 by omega);unfold cmb;simp only[par]
  cases hg:g s with
  |true=>rw[AB rfl,fl_xr,dot_xr,ih,UO _ (h s (by omega))];simp
  |false=>rw[AE (by simp),ih];simp
def fr(ps:List Nat)(k:Nat):List Nat:=(List.range k).filter λj=>decide (¬j∈ps)
def kv(R:List Q7)(ps:List Nat)(f:Nat):Q7:=cmb (un f) (λs=>row R s f) ps ps.length
end Gf
namespace Gf
def sd(b:Q7)(r:Nat):List Q7:=(List.range r).map λi=>λj=>j==0&&b i
theorem JZ(b:Q7)(r:Nat):(sd b r).length=r:=by simp[sd]
theorem sd_row(b:Q7){r i:Nat}(h:i<r)(j:Nat):row (sd b r) i j=(j==0&&b i):=by unfold row sd;rw[AX,Be h];rfl
def sol(S:List Q7)(ps:List Nat):Q7:=cmb (λ_=>false) (λs=>row S s 0) ps ps.length
theorem side22{c r:Nat}{R:List (Int×List Int)}{b:Q7}(hr:r<=4096):
  iter M22.s0 ⟨0,r,r,r,0,c,R,r,vw r b,List.replicate r (0,[])⟩=some ⟨0,r,r,c,R,r,vw r b,mr 1 (sd b r)⟩:=by
 have hm:∀i,i<r->(λj=>j==0&&b i)=(if b i=true then fl (λ_=>false) 0 else λ_=>false):=λi _=>by
  funext j
  cases hb:b i with
  |true=>rw[AB rfl,fl_no];unfold un;simp
  |false=>simp
 have key:=QV (step:=M22.s0) (λi=>⟨0,r,r,r,(i:Int),c,R,r,vw r b,mix (λi=>((1:Int),vw 1 (λj=>j==0&&b i))) (λ_=>(0,[])) i r⟩) r
  (y:=⟨0,r,r,c,R,r,vw r b,mr 1 (sd b r)⟩) (λi hi=>by
   have e1:decide ((i:Int)<(r:Int))=true:=(by simpa using hi);have ms:=KB (λi=>((1:Int),vw 1 (λj=>j==0&&b i))) (λ_=>((0:Int),([]:List Int))) hi;have ml:=JV (λi=>((1:Int),vw 1 (λj=>j==0&&b i))) (λ_=>((0:Int),([]:List Int))) i r;rw[<-ms];generalize mix (λi=>((1:Int),vw 1 (λj=>j==0&&b i))) (λ_=>((0:Int),([]:List Int))) i r=out at ml⊢;have e2:decide (0+i<out.length)=true:=(by rw[ml];simpa using hi);have e3:eqN (0+i) (List.take (0+i) out).length=true:=(by simp[eqN,ml];omega);have e4:=blank 1 (show 1<=1000000 by omega);have e4:M73.m ⟨1⟩=some (1,0,nw 1,nw 1,vw 1 λ_=>false):=e4;have e5:=turn (n:=1) (i:=0) (1:Int) (nw 1) (λ_=>false) (by omega) (by decide);have e5:M75.m ⟨1,0,nw 1,nw 1,0,vw 1 λ_=>false⟩=some (vw 1 (fl (λ_=>false) 0)):=e5;have e6:=hm i hi;unfold M22.s0;simp only[e1,e4,bindO,Q6 hi,e2,e3,A7,A8,has (n:=r) (i:=i) (r:Int) b (by omega) (by unfold nw;omega),e5,suc (show i<9000000000000000000 by omega)];rw[e6]
   cases hb:b i with
   |true=>have l1:leB (0+nw 1) (vw 1 (fl (λ_=>false) 0)).length=true:=Z6 1 _;simp only[A7,l1,Jt,AY,Ai];rw[Ac,K3 (by omega)]
   |false=>
    have l1:leB (0+nw 1) (vw 1 (λ_=>false)).length=true:=Z6 1 _;simp only[AA,l1,Jt,AY,A7,AP,Af];rw[Ac,K3 (by omega)]) (by
   have e1:decide ((r:Int)<(r:Int))=false:=(by simp);have e2:mix (λi=>((1:Int),vw 1 (λj=>j==0&&b i))) (λ_=>((0:Int),([]:List Int))) r r=mr 1 (sd b r):=(by rw[Zw];unfold mr sd;rw[B0];rfl);unfold M22.s0;simp only[e1,AA,e2])
 rw[Zv,Xh (λ_=>((0:Int),([]:List Int)))]at key;exact key
def bad(S:List Q7)(t r:Nat):Bool:=(fnd (λi=>row S i 0) (r - t) t).isSome
theorem solve22{c:Nat}{R:List Q7}{b:Q7}(hc:c<=4096)(hR:R.length<=4096)(sR:Y8 c R)(sb:Sup R.length b):
  M22.m ⟨c,mr c R,R.length,vw R.length b⟩=
   some (if bad (rd R (sd b R.length) c).2.1 (rd R (sd b R.length) c).2.2.length R.length=true then (0,[],9) else ((c:Int),vw c (sol (rd R (sd b R.length) c).2.1 (rd R (sd b R.length) c).2.2),0)):=by
 have hS:Mt R (sd b R.length):=.inr (JZ _ _);have h:=red76o (q:=R.length) (d:=1) hc (show 1<=4096 by omega) hR sR hS;rw[JZ]at h;have inv:=(Yf (d:=1) sR hS c).1;have l1:=inv.lr;have l2:=inv.ls;have l3:=inv.lt;rw[JZ]at l2;have h:=h;generalize rd R (sd b R.length) c=st at*
 obtain⟨R',S',ps⟩:=st;simp only at l1 l2 l3 h;have hpc:∀p,p<ps.length->pv ps p<c:=inv.lk;have to:=iter_to (step:=M22.s1) (λi=>⟨0,R.length,R.length,R.length,(i:Int),c,mr c R,R.length,vw R.length b,mr 1 (sd b R.length),mr c R',mr 1 S',0,R.length,R.length,0,R.length,R.length,0,ps.length,ints ps,vw c (cmb (λ_=>false) (λs=>row S' s 0) ps i),c,0,nw c,nw c⟩) ps.length (λi hi=>by
  have e1:decide ((i:Int)<(R.length:Int))=true:=(by simp;omega);have e2:inR (i:Int) R.length=true:=Q6 (by omega);have e3:decide (i<(mr 1 S').length)=true:=(by rw[QD];simp;omega);have e4:(mr 1 S')[i]?.getD (0,[])=(((1:Nat):Int),vw 1 (row S' i)):=(by rw[mr_at' (show i<S'.length by omega),YD (show i<S'.length by omega)]);have e5:M74.m ⟨((1:Nat):Int),vw 1 (row S' i),0⟩=some (row S' i 0):=has (n:=1) (i:=0) (1:Int) (row S' i) (by omega) (by decide);have e6:decide ((i:Int)>=(ps.length:Int))=false:=(by simp;omega);have e7:decide (i<(ints ps).length)=true:=(by rw[Q4];simpa using hi);have e8:=hpc i hi;unfold M22.s1;simp only[e1,e2,A8,Ac,e3,A7,e4,e5,bindO,e6,Q6 hi,e7,AA,ints_at hi,turn (n:=c) (i:=pv ps i) (c:Int) (nw c) _ (show c<=1000000 by omega) (show pv ps i / 64<nw c by unfold nw;omega),suc (show i<9000000000000000000 by omega),cmb];by_cases hb:row S' i 0=true
  ·simp only[hb,Bl,AA,Ai]
  ·simp only[eq_false_of_ne_true hb,BB,A7,AP,Af])
 have en:M22.s1 ⟨0,R.length,R.length,R.length,((R.length:Nat):Int),c,mr c R,R.length,vw R.length b,mr 1 (sd b R.length),mr c R',mr 1 S',0,R.length,R.length,0,R.length,R.length,0,ps.length,ints ps,vw c (sol S' ps),c,0,nw c,nw c⟩=some (.inr (.inl ⟨c,mr c R,R.length,vw R.length b,mr 1 (sd b R.length),mr c R',mr 1 S',0,R.length,R.length,0,R.length,R.length,0,ps.length,ints ps,vw c (sol S' ps),c,0,nw c,nw c⟩)):=by have e1:decide ((R.length:Int)<(R.length:Int))=false:=(by simp);unfold M22.s1;simp only[e1,AA]
 have st:∀i,i<R.length->ps.length<=i->M22.s1 ⟨0,R.length,R.length,R.length,(i:Int),c,mr c R,R.length,vw R.length b,mr 1 (sd b R.length),mr c R',mr 1 S',0,R.length,R.length,0,R.length,R.length,0,ps.length,ints ps,vw c (sol S' ps),c,0,nw c,nw c⟩=
   if row S' i 0=true then some (.inr (.inr ⟨9,0⟩)) else some (.inl ⟨0,R.length,R.length,R.length,((i+1:Nat):Int),c,mr c R,R.length,vw R.length b,mr 1 (sd b R.length),mr c R',mr 1 S',0,R.length,R.length,0,R.length,R.length,0,ps.length,ints ps,vw c (sol S' ps),c,0,nw c,nw c⟩):=λi hi hp=>by
  have e1:decide ((i:Int)<(R.length:Int))=true:=(by simp;omega);have e2:inR (i:Int) R.length=true:=Q6 (by omega);have e3:decide (i<(mr 1 S').length)=true:=(by rw[QD];simp;omega);have e4:(mr 1 S')[i]?.getD (0,[])=(((1:Nat):Int),vw 1 (row S' i)):=(by rw[mr_at' (show i<S'.length by omega),YD (show i<S'.length by omega)]);have e5:M74.m ⟨((1:Nat):Int),vw 1 (row S' i),0⟩=some (row S' i 0):=has (n:=1) (i:=0) (1:Int) (row S' i) (by omega) (by decide);have e6:decide ((i:Int)>=(ps.length:Int))=true:=(by simp;omega);unfold M22.s1;simp only[e1,e2,A8,Ac,e3,A7,e4,e5,bindO,e6,suc (show i<9000000000000000000 by omega)]
  cases row S' i 0 with
  |true=>simp only[Bl,AA,Ai]
  |false=>simp only[BB,A7,AP,Af]
 have from_:iter M22.s1 ⟨0,R.length,R.length,R.length,((ps.length:Nat):Int),c,mr c R,R.length,vw R.length b,mr 1 (sd b R.length),mr c R',mr 1 S',0,R.length,R.length,0,R.length,R.length,0,ps.length,ints ps,vw c (sol S' ps),c,0,nw c,nw c⟩=
   some (match fnd (λi=>row S' i 0) (R.length - ps.length) ps.length with|some _=>.inr ⟨9,0⟩|none=>.inl ⟨c,mr c R,R.length,vw R.length b,mr 1 (sd b R.length),mr c R',mr 1 S',0,R.length,R.length,0,R.length,R.length,0,ps.length,ints ps,vw c (sol S' ps),c,0,nw c,nw c⟩):=by
  have gen:∀f i,i+f=R.length->ps.length<=i->iter M22.s1 ⟨0,R.length,R.length,R.length,(i:Int),c,mr c R,R.length,vw R.length b,mr 1 (sd b R.length),mr c R',mr 1 S',0,R.length,R.length,0,R.length,R.length,0,ps.length,ints ps,vw c (sol S' ps),c,0,nw c,nw c⟩=
    some (match fnd (λi=>row S' i 0) f i with|some _=>.inr ⟨9,0⟩|none=>.inl ⟨c,mr c R,R.length,vw R.length b,mr 1 (sd b R.length),mr c R',mr 1 S',0,R.length,R.length,0,R.length,R.length,0,ps.length,ints ps,vw c (sol S' ps),c,0,nw c,nw c⟩):=by
   intro f
   induction f with
   |zero=>intro i hi _;have:i=R.length:=(by omega);subst this;rw[iter_eq,en];rfl
   |succ f ih=>
    intro i hi hp;rw[iter_eq,st i (by omega) hp];unfold fnd
    cases row S' i 0 with
    |true=>rfl
    |false=>simp only[AP,Af];exact ih (i+1) (by omega) (by omega)
  exact gen _ _ (by omega) (A9 _)
 have h:M76o.m ⟨c,mr c R,0,R.length,R.length,mr 1 (sd b R.length)⟩=some (mr 1 (sd b R.length),mr c R',mr 1 S',0,R.length,R.length,0,R.length,R.length,0,ps.length,ints ps):=h;have all:iter M22.s1 ⟨0,R.length,R.length,R.length,0,c,mr c R,R.length,vw R.length b,mr 1 (sd b R.length),mr c R',mr 1 S',0,R.length,R.length,0,R.length,R.length,0,ps.length,ints ps,vw c (λ_=>false),c,0,nw c,nw c⟩=_:=to.trans from_;have e1:(decide (0<=(R.length:Int))&&decide ((R.length:Int)<=(R.length:Int))&&decide ((R.length:Int)*(↑32:Int)<=281474976710656)&&decide ((R.length:Int)<=9223372036854775807))=true:=by simp;omega
 unfold M22.m;simp only[valid hc hR sR,check hR sb,bindO,nz,X5,AA,QD,e1,A7,A8,side22 hR,h,blank c (show c<=1000000 by omega),all];unfold bad
 cases fnd (λi=>row S' i 0) (R.length - ps.length) ps.length with
 |some i=>rfl
 |none=>simp only[sumC,Z6,Jt,AY,A7,Option.isSome_none,AP,Af]
end Gf
namespace Gf
theorem par_swap(f:Nat->Nat->Bool)(n:Nat):∀m,par (λj=>par (λt=>f t j) n) m=par (λt=>par (λj=>f t j) m) n
 |0=>(par_no n).symm
 |m+1=>by have ih:=par_swap f n m;simp only[par];rw[ih,<-par_xr];rfl
theorem par_and(b:Bool)(f:Q7):∀n,par (λi=>b&&f i) n=(b&&par f n)
 |0=>by simp[par]
 |n+1=>by simp only[par,par_and b f n];cases b<;>simp
theorem bit_row(B:List Q7)(t j:Nat):bit B t j=row B t j:=by unfold bit row;cases B[t]? <;>rfl
theorem mulr_dot(a:Q7)(B:List Q7)(j:Nat):YX a B j=dot B.length a (col B j):=by unfold YX xs;rw[JA,WI];rfl
theorem col_row(B:List Q7)(j t:Nat):col B j t=row B t j:=bit_row B t j
theorem mulr_app(m:Nat)(a:Q7)(B:List Q7)(y:Q7):dot m (YX a B) y=dot B.length a (λt=>dot m (row B t) y):=by
 have e1:dot m (YX a B) y=par (λj=>par (λt=>(a t&&row B t j)&&y j) B.length) m:=by rw[JA];refine XM λj _=> ?_;unfold an;rw[mulr_dot,JA];have:(λt=>(a t&&row B t j)&&y j)=λt=>y j&&an a (col B j) t:=(by funext t;unfold an;rw[col_row,Bool.and_comm]);rw[this,par_and,Bool.and_comm]
 rw[e1,par_swap,JA];refine XM λt _=> ?_;show _=(a t&&dot m (row B t) y);rw[JA,<-par_and];refine XM λj _=> ?_;unfold an;rw[Bool.and_assoc]
theorem Wv(c:Nat)(R:List Q7)(x:Q7)(i:Nat):app c R x i=dot c (row R i) x:=by
 unfold app row
 cases R[i]? with
 |some b=>rfl
 |none=>exact(VZ _ _).symm
def Ul(A B:List Q7):List Q7:=A.map λa=>YX a B
theorem mulm_length(A B:List Q7):(Ul A B).length=A.length:=by simp[Ul]
theorem no_mulr(B:List Q7):YX (λ_=>false) B=λ_=>false:=by funext j;rw[mulr_dot,VZ]
theorem mulm_row(A B:List Q7)(i:Nat):row (Ul A B) i=YX (row A i) B:=by
 unfold Ul row;rw[AX]
 cases A[i]? with
 |some a=>rfl
 |none=>exact(no_mulr B).symm
theorem mulm_app(c:Nat)(A B:List Q7)(x:Q7):app c (Ul A B) x=app B.length A (app c B x):=by funext i;rw[Wv,Wv,mulm_row,mulr_app];exact ZF λt _=>(Wv c B x t).symm
theorem mulm_sup{c:Nat}{A B:List Q7}(sB:Y8 c B):Y8 c (Ul A B):=λb hb=>by obtain⟨a,_,rfl⟩:=Am.1 hb;exact xs_sup sB _
theorem bits_eq{n:Nat}{a b:Q7}(ha:Sup n a)(hb:Sup n b)(h:∀i,i<n->a i=b i):a=b:=by
 funext i;rcases BV i n with hi|hi
 ·exact h i hi
 ·rw[ha i hi,hb i hi]
section
variable {c r s:Nat}{R S:List Q7}{ps:List Nat}
theorem low(inv:Inv c c r s (R,S,ps)){i:Nat}(h:ps.length<=i):row R i=λ_=>false:=by
 funext j;rcases BV j c with hj|hj
 ·exact inv.zero i j h hj
 ·exact inv.sup i j hj
theorem Un(inv:Inv c c r s (R,S,ps)):Sup c (sol S ps):=cmb_sup (λ_ _=>rfl) inv.lk
theorem comb_dot(inv:Inv c c r s (R,S,ps))(g:Nat->Bool)(i:Nat):dot c (row R i) (cmb (λ_=>false) g ps ps.length)=(decide (i<ps.length)&&g i):=by
 have own:∀p,p<ps.length->∀j,row R j (pv ps p)=(j==p):=inv.own;rw[dot_cmb inv.lk,dot_no,Bool.false_xor];rw[par_one (j:=i) λp h1 h2=>by
  have:(i==p)=false:=(by simp;omega);rw[own p h1,this,Bool.and_false]]
 rcases BV i ps.length with hi|hi
 ·rw[own i hi];simp
 ·have:decide (i<ps.length)=false:=(by simp;omega);rw[this];rfl
end
theorem eqs_sd{c:Nat}{R:List Q7}{b x:Q7}(sb:Sup R.length b):Eqs c 1 R (sd b R.length) x (un 0)↔app c R x=b:=by
 have e:∀i,dot 1 (row (sd b R.length) i) (un 0)=b i:=λi=>by
  rw[UO _ (by omega)];rcases BV i R.length with hi|hi
  ·rw[sd_row b hi];simp
  ·rw[W9 (by rw[JZ];exact hi),sb i hi]
 unfold Eqs;constructor
 ·intro h;funext i;rw[Wv,h i,e]
 ·intro h i;rw[<-Wv,h,e]
theorem solve_ok{c:Nat}{R:List Q7}{b:Q7}(sR:Y8 c R)(sb:Sup R.length b):
  (bad (rd R (sd b R.length) c).2.1 (rd R (sd b R.length) c).2.2.length R.length=false->app c R (sol (rd R (sd b R.length) c).2.1 (rd R (sd b R.length) c).2.2)=b)/\
  (bad (rd R (sd b R.length) c).2.1 (rd R (sd b R.length) c).2.2.length R.length=true->∀x,app c R x≠b):=by
 obtain⟨inv,eqs⟩:=Yf (d:=1) (S:=sd b R.length) sR (.inr (JZ _ _)) c;have l2:=inv.ls;rw[JZ]at l2;have l3:=inv.lt;generalize rd R (sd b R.length) c=st at*
 obtain⟨R',S',ps⟩:=st;simp only at l2 l3 eqs⊢;constructor
 ·intro hb;rw[<-eqs_sd sb,<-eqs];intro i;unfold sol;rw[comb_dot inv,UO _ (by omega)];rcases BV i ps.length with hi|hi
  ·simp[hi]
  ·have h1:decide (i<ps.length)=false:=(by simp;omega);rw[h1,C2];rcases BV i R.length with hr|hr
   ·unfold bad at hb
    cases hf:fnd (λi=>row S' i 0) (R.length - ps.length) ps.length with
    |some j=>rw[hf]at hb;cases hb
    |none=>exact(Y0 hf i hi (by omega)).symm
   ·rw[W9 (by omega)]
 ·intro hb x hx;rw[<-eqs_sd sb,<-eqs]at hx;unfold bad at hb
  cases hf:fnd (λi=>row S' i 0) (R.length - ps.length) ps.length with
  |none=>rw[hf]at hb;cases hb
  |some j=>obtain⟨h1,_,h3,_⟩:=Zz hf;have:=hx j;rw[low inv h1,VZ,UO _ (by omega)]at this;rw[h3]at this;cases this
end Gf
namespace Gf
end Gf
namespace Gf
end Gf
namespace Gf
def pc(R:List Q7)(k:Nat):Nat:=(rd R [] k).2.2.length
section
variable {side ma:List Int}{nr:Nat}{c:Nat}{L:List (List Int)}{mr0 mc0:Int}{wr:List (Int×List Int)}
end
end Gf
namespace Gf
theorem nodup_le{α:Type}[DecidableEq α]:∀{l k:List α},l.Nodup->(∀x∈l,x∈k)->l.length<=k.length
 |[],_,_,_=>B4 _
 |a::l,k,hn,h=>by have ha:=h a (by simp);have hn':=CN.1 hn;have:=nodup_le (l:=l) (k:=k.erase a) hn'.2 λx hx=>(by have hne:x≠a:=λe=>hn'.1 (e▸hx);exact(List.mem_erase_of_ne hne).2 (h x (by simp[hx])));rw[List.length_erase_of_mem ha]at this;have:0<k.length:=List.length_pos_of_mem ha;simp only[Ar];omega
def tb(n:Nat):Q7:=λj=>n.testBit j
theorem ZG{n c:Nat}(h:n<2^c):Sup c (tb n):=λi hi=>Nat.testBit_lt_two_pow (AL h (Bh (by omega) hi))
theorem tb_nb(c:Nat){b:Q7}(hb:Sup c b):tb (nb b c)=b:=by
 funext i;unfold tb;rw[XI];by_cases h:i<c
 ·simp[h]
 ·simp[h,hb i (by omega)]
theorem nb_tb{n c:Nat}(h:n<2^c):nb (tb n) c=n:=by
 refine Ay λi=> ?_;rw[XI];by_cases hi:i<c
 ·simp[hi,tb]
 ·have:=ZG h i (by omega);unfold tb at this;simp[hi,this]
def yv(x:Q7)(K:List Q7)(n:Nat):Nat->Q7
 |0=>x
 |k+1=>if tb n k=true then xr (yv x K n k) (row K k) else yv x K n k
section
variable {c f:Nat}{x:Q7}{K:List Q7}
end
end Gf
