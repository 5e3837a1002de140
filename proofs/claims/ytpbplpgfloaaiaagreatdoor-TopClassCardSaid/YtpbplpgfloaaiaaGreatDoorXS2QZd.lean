/- A part of the proof. -/
import Derived.Test.YtpbplpgfloaaiaaGreatDoorXS2QZc
import Derived.Test.YtpbplpgfloaaiaaGreatDoorXS2QZa
set_option linter.all false
set_option maxHeartbeats 1000000
noncomputable section
namespace Go.Proofs.YtpbplpgfloaaiaaGreatDoor
open Go.Abs
open Go.IntKind(i64)
open Sum(inl inr)
open Go.Proofs.Tryz(prog)
namespace Co
section
variable {N:NodeL}{A:List (List UInt8)}{C:List Int}
def m53{l:List Int}{n:Nat}{most:Nat}(hl:l.length<=maxLen)(hv:∀v∈l,0<=v)(hn:n<=1000)(h0:0<most)(hm:most<=4):∃xs,M53.m ⟨l,(n:Int),(most:Int)⟩=some xs/\xs.length=n/\AllV xs:=by
 obtain⟨y,h1,xs,rfl,h3,h4⟩:=iter_inv (step:=M53.s0) (λx=>∃(i:Nat) (xs:List Int),x=({ l:=l,n:=(n:Int),most:=(most:Int),QC:=0,Q8:=xs.length,i:=(i:Int),xs:=xs }:M53.p0X)/\i<=n/\xs.length=i/\AllV xs) (λx=>n - x.i.toNat)
  (λy=>∃xs,y=({ QC:=0,Q8:=xs.length,xs:=xs }:M53.q0X)/\xs.length=n/\AllV xs) (by
   rintro x ⟨i,xs,rfl,hi,hl2,hV⟩;have snoc:∀v:Int,V v->AllV (xs++[v]):=λv hv u hu=>by
    rcases Ak.1 hu with hu|hu
    ·exact hV u hu
    ·rw[Ae.1 hu];exact hv
   unfold M53.s0;by_cases hlt:i<n
   ·have c1:=ilt (a:=(i:Int)) (b:=(n:Int)) (by omega);have hr:(eqN 0 0&&eqN xs.length xs.length&&J1 (xs.length+1) 1)=true:=(by rw[eqN_of rfl,eqN_of rfl,room (by omega) (by omega)];rfl);simp only[c1,A6,hr,suc (i:=i) (by omega)];by_cases e0:l.length=0
    ·have c2:((l.length:Int)==0)=true:=BU.2 (by omega);simp only[c2,A6];exact⟨_,rfl,⟨i+1,xs++[2],by rw[AG];rfl,hlt,by rw[AG];simp;omega,snoc 2 Co.two⟩,by simp;omega⟩
    ·have c2:((l.length:Int)==0)=false:=Ag.2 (by omega);have et:(i:Int).tmod (l.length:Int)=(i:Int)%(l.length:Int):=Bb (by omega);have ht0:0<=(i:Int)%(l.length:Int):=Int.emod_nonneg _ (by omega);have ht1:(i:Int)%(l.length:Int)<(l.length:Int):=Cr _ (by omega);have ht:((i:Int)%(l.length:Int)).toNat<l.length:=(by omega);have hm':nz (most:Int)=true:=nzN h0;have hvv:=hv _ (A9 ht);simp only[c2,A7,nzN (show 0<l.length by omega),A6,et,inR_int ⟨ht0,ht1⟩,hm'];rw[A4 ht,Aj];have ev:(l[((i:Int)%(l.length:Int)).toNat]).tmod (most:Int)=l[((i:Int)%(l.length:Int)).toNat]%(most:Int):=Bb hvv;have e1:0<=l[((i:Int)%(l.length:Int)).toNat]%(most:Int):=Int.emod_nonneg _ (by omega);have e2:l[((i:Int)%(l.length:Int)).toNat]%(most:Int)<(most:Int):=Cr _ (by omega);exact⟨_,rfl,⟨i+1,xs++[(l[((i:Int)%(l.length:Int)).toNat]).tmod (most:Int)],by rw[AG];rfl,hlt,by rw[AG];simp;omega,snoc _ (by rw[ev];exact⟨e1,by omega⟩)⟩,by simp;omega⟩
   ·have c1:=inlt (a:=(i:Int)) (b:=(n:Int)) (by omega);simp only[c1,A7]
    exact⟨_,rfl,xs,rfl,by omega,hV⟩) { l:=l,n:=(n:Int),most:=(most:Int),QC:=0,Q8:=0,i:=((0:Nat):Int),xs:=[] } ⟨0,[],rfl,Af _,rfl,λv hv=>by cases hv⟩
 refine⟨xs,?_,h3,h4⟩;have h1':iter M53.s0 { l:=l,n:=(n:Int),most:=(most:Int),QC:=0,Q8:=0,i:=0,xs:=[] }=_:=h1;unfold M53.m;simp only[h1',bindO,AF,leB_of (A5 _),AH,A6,AW,Aa]
def m54(hN:N.length<=100)(k:Int):M54.m ⟨N,A,[],C,k⟩=some (((ofK N k).length:Nat):Int):=by
 have k0:=iter_count (step:=M54.s0) (λi=>{ kind:=k,n:=((ofN N k i).length:Int),i:=(i:Int),Q0:=N,Q1:=A,Q4:=[],Q3:=C }) (y:=⟨((ofN N k N.length).length:Int)⟩) N.length (λi hi=>by
  have c1:=ilt (a:=(i:Int)) (b:=(N.length:Int)) (by omega);have hl:=ofN_len (N:=N) (k:=k) (i:=i);have hs:ofN N k (i+1)=if kd N (i:Int)==k then ofN N k i++[(i:Int)] else ofN N k i:=by
   unfold ofN;rw[nums_succ,C8]
   cases e:kd N (i:Int)==k with
   |true=>rw[CP (p:=λa=>kd N a==k) e];rfl
   |false=>rw[CQ (p:=λa=>kd N a==k) (by show¬(kd N (i:Int)==k)=true;rw[e];simp)];simp
  have e6:(N[i]?.getD (0,[],0,0)).1=kd N (i:Int):=rfl;unfold M54.s0;simp only[c1,inR_nat hi,A6,AA,e6,suc (i:=i) (by omega),hs]
  cases kd N (i:Int)==k with
  |true=>simp only[A6,suc (i:=(ofN N k i).length) (by omega),Aq,AG,Bj]
  |false=>simp only[A7];rfl) (by
  have c1:=inlt (a:=(N.length:Int)) (b:=(N.length:Int)) (by omega);unfold M54.s0;simp only[c1,A7])
 have k0':iter M54.s0 { kind:=k,n:=0,i:=0,Q0:=N,Q1:=A,Q4:=[],Q3:=C }=_:=k0;unfold M54.m;simp only[k0',bindO];rfl
def m23(hN:N.length<=100){p q:List Int}(hp:p.length<=maxLen)(hq:q.length<=maxLen)(vp:∀v∈p,0<=v)(vq:∀v∈q,0<=v):∃inn st,M23.m ⟨p,q,N,A,[],C⟩=some (inn,st)/\Pat N inn st:=by have l0:(ofK N 0).length<=N.length:=ofN_len;have l1:(ofK N 14).length<=N.length:=ofN_len;obtain⟨a,h1,h2,h3⟩:=m53 (n:=(ofK N 0).length) (most:=4) hp vp (by omega) (by omega) (A5 _);obtain⟨b,h4,h5,h6⟩:=m53 (n:=(ofK N 14).length) (most:=3) hq vq (by omega) (by omega) (by omega);refine⟨a,b,?_,h2,h5,h3,h6⟩;have h1':M53.m ⟨p,((ofK N 0).length:Int),4⟩=some a:=h1;have h4':M53.m ⟨q,((ofK N 14).length:Int),3⟩=some b:=h4;unfold M23.m;simp only[m54 hN,bindO,h1',h4']
def m6(hN:N.length<=100){z:List (List Int×List Int)}(hz:∀t∈z,t.1.length<=maxLen/\t.2.length<=maxLen/\(∀v∈t.1,0<=v)/\∀v∈t.2,0<=v):∃Q7,M6.m ⟨N,A,[],C,z⟩=some Q7/\Q7.length<=20/\PatL N Q7:=by
 obtain⟨y,h1,xs,rfl,h3,h4⟩:=iter_inv (step:=M6.s0) (λx=>∃(i:Nat) (xs:List (List Int×List Int)),x=({ z:=z,QC:=0,Q8:=xs.length,i:=(i:Int),Q0:=N,Q1:=A,Q4:=[],Q3:=C,xs:=xs }:M6.p0X)/\i<=20/\xs.length=i/\PatL N xs) (λx=>20 - x.i.toNat)
  (λy=>∃xs,y=({ QC:=0,Q8:=xs.length,xs:=xs }:M6.q0X)/\xs.length<=20/\PatL N xs) (by
   rintro x ⟨i,xs,rfl,hi,hl2,hV⟩;unfold M6.s0;by_cases hlt:i<z.length/\i<20
   ·have c1:=ilt (a:=(i:Int)) (b:=(z.length:Int)) (by omega);have c2:=ilt (a:=(i:Int)) (b:=20) (by omega);have e:z[i]?.getD ([],[])=z[i]:=(by rw[A4 hlt.1];rfl);obtain⟨z1,z2,z3,z4⟩:=hz _ (A9 hlt.1);obtain⟨inn,st,q1,q2⟩:=m23 (A:=A) (C:=C) hN z1 z2 z3 z4;simp only[c1,c2,A6,inR_nat hlt.1,AA,e,q1,bindO,eqN_of rfl,room (n:=xs.length+1) (b:=48) (by omega) (by omega),AH,suc (i:=i) (by omega)];exact⟨_,rfl,⟨i+1,xs++[(inn,st)],by rw[AG];rfl,by omega,by rw[AG];simp;omega,λt ht=>by
     rcases Ak.1 ht with ht|ht
     ·exact hV t ht
     ·rw[Ae.1 ht];exact q2⟩,by simp;omega⟩
   ·have c1:(bif decide ((i:Int)<(z.length:Int)) then decide ((i:Int)<20) else false)=false:=by
     by_cases hz:i<z.length
     ·rw[ilt (a:=(i:Int)) (b:=(z.length:Int)) (by omega),inlt (a:=(i:Int)) (b:=20) (by omega)];rfl
     ·rw[inlt (a:=(i:Int)) (b:=(z.length:Int)) (by omega)];rfl
    simp only[c1,A7]
    exact⟨_,rfl,xs,rfl,by omega,hV⟩) { z:=z,QC:=0,Q8:=0,i:=((0:Nat):Int),Q0:=N,Q1:=A,Q4:=[],Q3:=C,xs:=[] } ⟨0,[],rfl,Af _,rfl,λv hv=>by cases hv⟩
 refine⟨xs,?_,h3,h4⟩;have h1':iter M6.s0 { z:=z,QC:=0,Q8:=0,i:=0,Q0:=N,Q1:=A,Q4:=[],Q3:=C,xs:=[] }=_:=h1;unfold M6.m;simp only[h1',bindO,AF,leB_of (A5 _),AH,A6,AW,Aa]
def mk(xs:List Bool)(j:Nat):Bool:=xs[j]?.getD false
def mk_set{xs:List Bool}{i j:Nat}(hi:i<xs.length){v:Bool}:mk (xs.set i v) j=if j=i then v else mk xs j:=by
 unfold mk;rw[BM];by_cases e:i=j
 ·rw[AC e,AC hi,AC e.symm];rfl
 ·rw[AK e,AK (λh=>e h.symm)]
def left_le:∀{xs ys:List Bool},ys.length=xs.length->(∀j,mk xs j=true->mk ys j=true)->ys.count false<=xs.count false
 |[],[],_,_=>A5 _
 |a::xs,b::ys,hl,h=>by
  have ih:=left_le (xs:=xs) (ys:=ys) (by simpa using hl) λj hj=>h (j+1) hj;have h0:a=true->b=true:=h 0;rw[List.count_cons,List.count_cons]
  cases a with
  |true=>rw[h0 rfl];simpa using ih
  |false=>cases b<;>simp<;>omega
def left_set{xs:List Bool}{i:Nat}(hi:i<xs.length)(h:mk xs i=false):(xs.set i true).count false+1=xs.count false:=by
 have hx:xs[i]=false:=by unfold mk at h;rwa [A4 hi]at h
 have hp:0<xs.count false:=List.count_pos_iff.2 (hx▸A9 hi);rw[List.count_set hi,hx];simp;omega
structure Cone(N:NodeL)(xs ys:List Bool):Prop where
 len:ys.length=xs.length
 sub:∀j,mk xs j=true->mk ys j=true
 new:∀i,In N.length i->mk ys i.toNat=true->mk xs i.toNat=false->kd N i≠14->∀a∈pn N i.toNat,mk ys a.toNat=true
def cone(h:Ck N A C):∀(d:Nat) {xs:List Bool} {n:Int},xs.length=N.length->In N.length n->xs.count false<d->
  ∃ys,M69.mf d ⟨N,A,[],C,n,0,N.length,N.length,xs⟩=some ys/\Cone N xs ys/\mk ys n.toNat=true
 |d+1,xs,n,hl,hn,hd=>by
  have hN:=h.few;have hlt:=ck_lt hn;have hx:n.toNat<xs.length:=(by omega);have em:M69.mf (d+1)=@M69.m (M69.Rn d):=rfl;have er:@M69.Rc.mr (M69.Rn d)=M69.mf d:=rfl;have e2:(N[n.toNat]?.getD (0,[],0,0)).2.1=pn N n.toNat:=rfl;have e1:(N[n.toNat]?.getD (0,[],0,0)).1=kd N n:=rfl;rw[em];unfold M69.m;simp only[inR_int hn,A6,AF,dlt hx,e2];have e3:xs[n.toNat]?.getD false=mk xs n.toNat:=rfl;rw[e3]
  cases hmk:mk xs n.toNat with
  |true=>exact⟨xs,rfl,⟨rfl,λ_ h=>h,λi hi h1 h2=>by rw[h1]at h2;cases h2⟩,hmk⟩
  |false=>
   simp only[A7];have hpl:=(h.pins hn).1;have hs1:(xs.set n.toNat true).length=N.length:=(by rw[Ap,hl]);have hc1:=left_set hx hmk;obtain⟨y,h1,ys,rfl,hC,hP⟩:=iter_inv (step:=@M69.s0 (M69.Rn d)) (λx=>∃(i:Nat) (zs:List Bool),x=({ n:=n,Xk:=0,XO:=N.length,Z3:=N.length,l:=pn N n.toNat,m:=((pn N n.toNat).length:Int),i:=(i:Int),xs:=zs,Q0:=N,Q1:=A,Q4:=[],Q3:=C }:M69.p0X)/\i<=(pn N n.toNat).length/\Cone N (xs.set n.toNat true) zs/\∀p,p<i->kd N n≠14->mk zs ((pn N n.toNat)[p]?.getD 0).toNat=true) (λx=>(pn N n.toNat).length - x.i.toNat)
    (λy=>∃zs,y=({ xs:=zs }:M69.q0X)/\Cone N (xs.set n.toNat true) zs/\(kd N n≠14->∀a∈pn N n.toNat,mk zs a.toNat=true)) (by
     rintro x ⟨i,zs,rfl,hi,hC,hP⟩;unfold M69.s0;by_cases hi':i<(pn N n.toNat).length
     ·have c1:=ilt (a:=(i:Int)) (b:=((pn N n.toNat).length:Int)) (by omega);have ha:=(h.pins hn).2 _ (A9 hi');simp only[c1,inR_nat hi',A6,inR_int hn,e1,getD_at hi',er,suc (i:=i) (by omega)];by_cases hk:kd N n=14
      ·have c2:(kd N n !=14)=false:=(by rw[hk];rfl);simp only[c2,A7];exact⟨_,rfl,⟨i+1,zs,rfl,hi',hC,λp _ hk'=>absurd hk hk'⟩,by simp;omega⟩
      ·have c2:(kd N n !=14)=true:=bne_iff_ne.2 hk;have hzl:zs.length=N.length:=(by rw[hC.len,hs1]);have hle:=left_le hC.len hC.sub;obtain⟨ys,q1,q2,q3⟩:=cone h d (xs:=zs) hzl ha (by omega);simp only[c2,A6,q1,bindO];refine⟨_,rfl,⟨i+1,ys,rfl,hi',⟨q2.len.trans hC.len,λj hj=>q2.sub j (hC.sub j hj),λk hk1 hk2 hk3 hk4 a ha=> ?_⟩,λp hp hk'=> ?_⟩,by simp;omega⟩
       ·cases hz:mk zs k.toNat with
        |true=>exact q2.sub _ (hC.new k hk1 hz hk3 hk4 a ha)
        |false=>exact q2.new k hk1 hk2 hz hk4 a ha
       ·by_cases e:p=i
        ·subst e;rw[A4 hi',Aj];exact q3
        ·exact q2.sub _ (hP p (by omega) hk')
     ·have c1:=inlt (a:=(i:Int)) (b:=((pn N n.toNat).length:Int)) (by omega);simp only[c1,A7];refine⟨_,rfl,zs,rfl,hC,λhk a ha=> ?_⟩;obtain⟨p,hp,rfl⟩:=BB ha;have:=hP p (by omega) hk
      rwa [A4 hp,Aj]at this) { n:=n,Xk:=0,XO:=N.length,Z3:=N.length,l:=pn N n.toNat,m:=((pn N n.toNat).length:Int),i:=((0:Nat):Int),xs:=xs.set n.toNat true,Q0:=N,Q1:=A,Q4:=[],Q3:=C } ⟨0,_,rfl,Af _,⟨rfl,λ_ h=>h,λi hi h1 h2=>by rw[h1]at h2;cases h2⟩,λp hp=>by cases hp⟩
   have h1':iter (@M69.s0 (M69.Rn d)) { n:=n,Xk:=0,XO:=N.length,Z3:=N.length,l:=pn N n.toNat,m:=((pn N n.toNat).length:Int),i:=0,xs:=xs.set n.toNat true,Q0:=N,Q1:=A,Q4:=[],Q3:=C }=_:=h1;rw[h1'];have hnn:mk (xs.set n.toNat true) n.toNat=true:=(by rw[mk_set hx,AC rfl]);refine⟨ys,rfl,⟨by rw[hC.len,Ap],λj hj=>hC.sub j (by
    rw[mk_set hx];split
    ·rfl
    ·exact hj),λi hi hi1 hi2 hi3 a ha=> ?_⟩,hC.sub _ hnn⟩
   by_cases e:i=n
   ·subst e;exact hP hi3 a ha
   ·refine hC.new i hi hi1 ?_ hi3 a ha;rw[mk_set hx,AK (λh=>e (by obtain⟨q1,_⟩:=hi;obtain⟨q2,_⟩:=hn;omega))];exact hi2
def mk_none{n j:Nat}:mk (List.replicate n false) j=false:=by
 unfold mk;by_cases h:j<n
 ·rw[List.getElem?_replicate,AC h];rfl
 ·rw[List.getElem?_replicate,AK h];rfl
def cone0(h:Ck N A C){n:Int}(hn:In N.length n):∃ys,M69.mf 64 ⟨N,A,[],C,n,0,N.length,N.length,List.replicate N.length false⟩=some ys/\ys.length=N.length/\Closed N (λj=>mk ys j=true)/\mk ys n.toNat=true:=by have hN:=h.few;obtain⟨ys,h1,h2,h3⟩:=cone h 64 (xs:=List.replicate N.length false) (by simp) hn (by rw[List.count_replicate_self];omega);exact⟨ys,h1,by rw[h2.len];simp,λi hi hm hk a ha=>h2.new i hi hm mk_none hk a ha,h3⟩
structure Cause(N:NodeL)(C:List Int)(f:Int×Bool×Int)(ins:List Bool):Prop where
 len:ins.length=N.length
 cl:Closed N (λj=>mk ins j=true)
 out:f.2.1=false->mk ins (C[f.2.2.toNat]?.getD 0).toNat=true
 nxt:f.2.1=true->mk ins ((ofK N 14)[f.2.2.toNat]?.getD 0).toNat=true/\mk ins (pin0 N ((ofK N 14)[f.2.2.toNat]?.getD 0)).toNat=true
def Pos(N:NodeL)(C:List Int)(f:Int×Bool×Int):Prop:=0<=f.1/\In (if f.2.1=true then (ofK N 14).length else C.length) f.2.2
def m37(h:Ck N A C){f:Int×Bool×Int}(hf:Pos N C f):∃ins,M37.m ⟨N,A,[],C,ofK N 14,f.1,f.2.1,f.2.2⟩=some (ins,true)/\Cause N C f ins:=by
 have hN:=h.few;obtain⟨t,b,ix⟩:=f;obtain⟨h0,h1⟩:=hf;have h0:0<=t:=h0;have h1:In (if b=true then (ofK N 14).length else C.length) ix:=h1;have c1:decide (0<=(N.length:Int))=true:=AB (by omega);have c2:decide ((N.length:Int)<=(N.length:Int))=true:=AB (by omega);have c3:decide ((N.length:Int)*1<=281474976710656)=true:=AB (by omega);have c4:decide ((N.length:Int)<=9223372036854775807)=true:=AB (by omega);have c5:=inlt (a:=t) (b:=0) (by omega);have c6:=inlt (a:=ix) (b:=0) (by obtain⟨q,_⟩:=h1;omega);unfold M37.m
 cases b with
 |false=>have h1:In C.length ix:=h1;have c7:decide (ix>=(C.length:Int))=false:=AM (by obtain⟨_,q⟩:=h1;omega);have hlt:=ck_lt h1;have ha:In N.length C[ix.toNat]:=h.Q3 _ (A9 hlt);have e:C[ix.toNat]?.getD 0=C[ix.toNat]:=(by rw[A4 hlt];rfl);obtain⟨ys,q1,q2,q3,q4⟩:=cone0 h ha;simp only[c1,c2,c3,c4,c5,c6,c7,AH,A6,A7,Bc,inR_int h1,e,AA,q1,bindO,AF,q2,leB_of (A5 N.length),AW];rw[AN (by omega)];exact⟨ys,rfl,q2,q3,λ_=>by show mk ys (C[ix.toNat]?.getD 0).toNat=true;rw[e];exact q4,λh=>by cases h⟩
 |true=>
  have h1:In (ofK N 14).length ix:=h1;have c7:decide (ix>=((ofK N 14).length:Int))=false:=AM (by obtain⟨_,q⟩:=h1;omega);have hlt:=ck_lt h1;obtain⟨hs,hk⟩:=ofK_at hlt;have e:(ofK N 14)[ix.toNat]?.getD 0=(ofK N 14)[ix.toNat]:=(by rw[A4 hlt];rfl);have hp:=h.dff hs hk;have hp0:0<(pn N (ofK N 14)[ix.toNat].toNat).length:=(by omega);have e5:(N[(ofK N 14)[ix.toNat].toNat]?.getD (0,[],0,0)).2.1=pn N (ofK N 14)[ix.toNat].toNat:=rfl;have e6:(pn N (ofK N 14)[ix.toNat].toNat)[0]?.getD 0=pin0 N (ofK N 14)[ix.toNat]:=rfl;have hpin:In N.length (pin0 N (ofK N 14)[ix.toNat]):=(by unfold pin0;rw[A4 hp0];exact(h.pins hs).2 _ (A9 hp0));have c8:inR 0 (pn N (ofK N 14)[ix.toNat].toNat).length=true:=(by rw[hp];rfl);obtain⟨ys,q1,q2,q3,q4⟩:=cone0 h hpin;have hsl:=ck_lt hs;have hsl':(ofK N 14)[ix.toNat].toNat<ys.length:=(by omega);simp only[c1,c2,c3,c4,c5,c6,c7,AH,A6,A7,Cb,inR_int h1,e,inR_int hs,e5,c8,e6,AA,q1,bindO,AF,dlt hsl',dlt hsl,Ap,q2,leB_of (A5 N.length),AW];rw[AN (by rw[Ap];omega)];refine⟨ys.set (ofK N 14)[ix.toNat].toNat true,rfl,by rw[Ap];exact q2,λi hi hm hk' a ha=> ?_,λh=>by(cases h),λ_=>⟨?_,?_⟩⟩
  ·have hm:mk (ys.set (ofK N 14)[ix.toNat].toNat true) i.toNat=true:=hm;show mk (ys.set (ofK N 14)[ix.toNat].toNat true) a.toNat=true;rw[mk_set (v:=true) hsl']at hm;rw[mk_set (v:=true) hsl'];split
   ·rfl
   ·by_cases e2:i.toNat=(ofK N 14)[ix.toNat].toNat
    ·have:i=(ofK N 14)[ix.toNat]:=(by obtain⟨a1,_⟩:=hi;obtain⟨a2,_⟩:=hs;omega);rw[this]at hk';exact absurd hk hk'
    ·rw[AK e2]at hm;exact q3 i hi hm hk' a ha
  ·show mk _ ((ofK N 14)[ix.toNat]?.getD 0).toNat=true;rw[e,mk_set (v:=true) hsl',AC rfl]
  ·show mk _ (pin0 N ((ofK N 14)[ix.toNat]?.getD 0)).toNat=true;rw[e,mk_set (v:=true) hsl'];split
   ·rfl
   ·exact q4
def m35{n:Nat}(h0:0<n)(h1:n<=19):M35.m ⟨[true],(n:Int)⟩=some (0,n,n,List.replicate n true):=by
 have e:n=1\/n=2\/n=3\/n=4\/n=5\/n=6\/n=7\/n=8\/n=9\/n=10\/n=11\/n=12\/n=13\/n=14\/n=15\/n=16\/n=17\/n=18\/n=19:=by omega
 clear h0 h1;have key:∀n:Nat,M67.m ⟨IntKind.u64.wrap (([true]:List Bool).length:Int),IntKind.u64.wrap (n:Int)⟩=some (0,(n:Int))->(bif decide ((0:Int)>0) then true else decide ((n:Int)>9223372036854775807))=false->decide ((n:Int)<0)=false->i64.wrap (n:Int)=(n:Int)->
   (decide (0<=(n:Int))&&decide ((n:Int)<=(n:Int))&&decide ((n:Int)*1<=281474976710656)&&decide ((n:Int)<=9223372036854775807))=true->leB (0+(n:Int).toNat) (List.replicate (n:Int).toNat false).length=true->
   iterN M35.s0 8 { ZX:=0,Xt:=(n:Int).toNat,ZY:=(n:Int).toNat,i:=((min ([true]:List Bool).length (n:Int).toNat:Nat):Int),xs:=List.take 0 (List.replicate (n:Int).toNat false)++List.take (min ([true]:List Bool).length (n:Int).toNat) [true]++List.drop (0+min ([true]:List Bool).length (n:Int).toNat) (List.replicate (n:Int).toNat false) }=some ⟨0,n,n,List.replicate n true⟩->M35.m ⟨[true],(n:Int)⟩=some (0,n,n,List.replicate n true):=by
  intro n a1 a2 a3 a4 a5 a6 a7;unfold M35.m;simp only[a3,A7,a1,bindO,a2,a4,a5,A6,a6,Zs a7]
 rcases e with rfl|rfl|rfl|rfl|rfl|rfl|rfl|rfl|rfl|rfl|rfl|rfl|rfl|rfl|rfl|rfl|rfl|rfl|rfl<;>
  exact key _ (by kernel_rfl) (by kernel_rfl) (by kernel_rfl) (by kernel_rfl) (by kernel_rfl) (by kernel_rfl) (by kernel_rfl)
def m11(h:Ck N A C)(ht:Topo N){lg:List (Int×Bool×Int)}(hl:lg.length<=1000000)(hp:∀f∈lg,Pos N C f):
  ∃bk,M11.m ⟨N,A,[],C,lg⟩=some (bk,0)/\bk.length<=N.length/\(∀x∈bk,In N.length x)/\∀n:Nat,n<N.length->(∀f∈lg,∀ins,Cause N C f ins->mk ins n=true)->(n:Int)∈bk:=by
 have hN:=h.few;obtain⟨y0,k0,al,rfl,a1,a2⟩:=iter_inv (step:=M11.s0) (λx=>∃(i:Nat) (al:List Bool),x=({ JO:=0,J8:=N.length,JG:=N.length,ss:=ofK N 14,lg:=lg,n:=(lg.length:Int),i:=(i:Int),Q0:=N,Q1:=A,Q4:=[],Q3:=C,xs:=al }:M11.p0X)/\i<=lg.length/\al.length=N.length/\∀n,n<N.length->(∀f∈lg.take i,∀ins,Cause N C f ins->mk ins n=true)->mk al n=true) (λx=>lg.length - x.i.toNat)
  (λy=>∃al,y=.inl ({ JO:=0,J8:=N.length,JG:=N.length,xs:=al }:M11.q0X)/\al.length=N.length/\∀n,n<N.length->(∀f∈lg,∀ins,Cause N C f ins->mk ins n=true)->mk al n=true) (by
   rintro x ⟨i,al,rfl,hi,hal,hA⟩;unfold M11.s0;by_cases hlt:i<lg.length
   ·have c1:=ilt (a:=(i:Int)) (b:=(lg.length:Int)) (by omega);have e:lg[i]?.getD (0,false,0)=lg[i]:=(by rw[A4 hlt];rfl);obtain⟨ins,q1,q2⟩:=m37 h (hp _ (A9 hlt));have hil:=q2.len;obtain⟨y1,k1,bl,rfl,b1,b2⟩:=iter_inv (step:=M11.s1) (λx=>∃(j:Nat) (bl:List Bool),x=({ JO:=0,J8:=N.length,JG:=N.length,ss:=ofK N 14,lg:=lg,n:=(lg.length:Int),i:=(i:Int),ins:=ins,m:=(N.length:Int),j:=(j:Int),Q0:=N,Q1:=A,Q4:=[],Q3:=C,xs:=bl }:M11.p1X)/\j<=N.length/\bl.length=N.length/\∀n,mk al n=true->mk ins n=true->mk bl n=true) (λx=>N.length - x.j.toNat)
     (λy=>∃bl,y=({ JO:=0,J8:=N.length,JG:=N.length,ss:=ofK N 14,lg:=lg,n:=(lg.length:Int),i:=(i:Int),Q0:=N,Q1:=A,Q4:=[],Q3:=C,xs:=bl }:M11.q1X)/\bl.length=N.length/\∀n,mk al n=true->mk ins n=true->mk bl n=true) (by
      rintro x ⟨j,bl,rfl,hj,hbl,hB⟩;unfold M11.s1;by_cases hjl:j<N.length
      ·have c1:=ilt (a:=(j:Int)) (b:=(N.length:Int)) (by omega);have hj1:j<bl.length:=(by omega);have hj2:j<ins.length:=(by omega);have e1:bl[j]?.getD false=mk bl j:=rfl;have e2:ins[j]?.getD false=mk ins j:=rfl;simp only[c1,inR_nat hjl,A6,AF,AA,dlt hj1,inR_nat hj2,Bool.true_or,e1,e2,suc (i:=j) (by omega)];refine⟨_,rfl,⟨j+1,_,rfl,hjl,by rw[Ap];exact hbl,λn n1 n2=> ?_⟩,by simp;omega⟩;rw[mk_set hj1];split
       ·rename_i e;subst e;rw[hB n n1 n2,n2];rfl
       ·exact hB n n1 n2
      ·have c1:=inlt (a:=(j:Int)) (b:=(N.length:Int)) (by omega);simp only[c1,A7]
       exact⟨_,rfl,bl,rfl,hbl,hB⟩) { JO:=0,J8:=N.length,JG:=N.length,ss:=ofK N 14,lg:=lg,n:=(lg.length:Int),i:=(i:Int),ins:=ins,m:=(N.length:Int),j:=((0:Nat):Int),Q0:=N,Q1:=A,Q4:=[],Q3:=C,xs:=al } ⟨0,al,rfl,Af _,hal,λ_ h _=>h⟩
    have k1':iter M11.s1 { JO:=0,J8:=N.length,JG:=N.length,ss:=ofK N 14,lg:=lg,n:=(lg.length:Int),i:=(i:Int),ins:=ins,m:=(N.length:Int),j:=0,Q0:=N,Q1:=A,Q4:=[],Q3:=C,xs:=al }=some _:=k1;simp only[c1,inR_nat hlt,A6,AA,e,q1,bindO,Cb,A7,k1',suc (i:=i) (by omega)];refine⟨_,rfl,⟨i+1,bl,rfl,hlt,b1,λn hn hf=> ?_⟩,by simp;omega⟩;rw[take_succ' hlt]at hf;exact b2 n (hA n hn λf hf'=>hf f (B0 _ hf')) (hf _ (B7 _ (B4 ..)) _ q2)
   ·have c1:=inlt (a:=(i:Int)) (b:=(lg.length:Int)) (by omega);have:i=lg.length:=(by omega);subst this;rw[Aa]at hA;simp only[c1,A7]
    exact⟨_,rfl,al,rfl,hal,hA⟩) { JO:=0,J8:=N.length,JG:=N.length,ss:=ofK N 14,lg:=lg,n:=(lg.length:Int),i:=((0:Nat):Int),Q0:=N,Q1:=A,Q4:=[],Q3:=C,xs:=List.replicate N.length true } ⟨0,_,rfl,Af _,by simp,λn hn _=>by unfold mk;rw[List.getElem?_replicate,AC hn];rfl⟩
 obtain⟨y2,k2,os,rfl,o1,oI,o2⟩:=iter_inv (step:=M11.s2) (λx=>∃(i:Nat) (os:List Int),x=({ QC:=0,Q8:=os.length,JO:=0,J8:=N.length,JG:=N.length,n:=(N.length:Int),i:=(i:Int),xs:=al,os:=os }:M11.p2X)/\i<=N.length/\os.length<=i/\(∀x∈os,In N.length x)/\∀n,n<i->mk al n=true->(n:Int)∈os) (λx=>N.length - x.i.toNat)
  (λy=>∃os,y=({ QC:=0,Q8:=os.length,xs:=al,os:=os }:M11.q2X)/\os.length<=N.length/\(∀x∈os,In N.length x)/\∀n,n<N.length->mk al n=true->(n:Int)∈os) (by
   rintro x ⟨i,os,rfl,hi,hos,hI,hO⟩;unfold M11.s2;by_cases hlt:i<N.length
   ·have c1:=ilt (a:=(i:Int)) (b:=(N.length:Int)) (by omega);have hi1:i<al.length:=(by omega);have e1:al[i]?.getD false=mk al i:=rfl;simp only[c1,inR_nat hlt,A6,AF,AA,dlt hi1,e1,suc (i:=i) (by omega)]
    cases hm:mk al i with
    |true=>
     simp only[A6,eqN_of rfl,room (n:=os.length+1) (b:=8) (by omega) (by omega),AH];refine⟨_,rfl,⟨i+1,os++[(i:Int)],by rw[AG];rfl,hlt,by rw[AG];simp;omega,λx hx=>by { rcases Ak.1 hx with h|h;{ exact hI x h };{ rw[Ae.1 h];exact⟨by omega,by omega⟩ } },λn hn hm'=> ?_⟩,by simp;omega⟩;by_cases e:n=i
     ·subst e;simp
     ·exact B0 _ (hO n (by omega) hm')
    |false=>
     simp only[A7];refine⟨_,rfl,⟨i+1,os,rfl,hlt,by omega,hI,λn hn hm'=> ?_⟩,by simp;omega⟩;by_cases e:n=i
     ·subst e;rw[hm]at hm';cases hm'
     ·exact hO n (by omega) hm'
   ·have c1:=inlt (a:=(i:Int)) (b:=(N.length:Int)) (by omega);have:i=N.length:=(by omega);subst this;simp only[c1,A7]
    exact⟨_,rfl,os,rfl,hos,hI,hO⟩) { QC:=0,Q8:=0,JO:=0,J8:=N.length,JG:=N.length,n:=(N.length:Int),i:=((0:Nat):Int),xs:=al,os:=[] } ⟨0,[],rfl,Af _,A5 _,(λx hx=>by cases hx),λn hn=>by cases hn⟩
 have k0':iter M11.s0 { JO:=0,J8:=N.length,JG:=N.length,ss:=ofK N 14,lg:=lg,n:=(lg.length:Int),i:=0,Q0:=N,Q1:=A,Q4:=[],Q3:=C,xs:=List.replicate N.length true }=some _:=k0;have k2':iter M11.s2 { QC:=0,Q8:=0,JO:=0,J8:=N.length,JG:=N.length,n:=(N.length:Int),i:=0,xs:=al,os:=[] }=some _:=k2;refine⟨os,?_,o1,oI,λn hn hf=>o2 n hn (a2 n hn hf)⟩;unfold M11.m;simp only[m24 h ht,bindO,BE,A7,m35 h.some' hN,m36 h,k0',sumC,k2',m34 (xs:=os) (by omega),AF,leB_of (A5 _),AH,A6,AW,Aa]
end
end Co
namespace Co
abbrev fAt(N:NodeL)(k:Nat):FT:=(flN N)[k]?.getD (0,0,0,0,0)
def rho(N:NodeL)(C o:List Int)(k:Nat):(b:List Int)->b.length=N.length->List Int×List Int:=λb _=>rsp N C o (fAt N k).2.1 (fAt N k).2.2.1 (fAt N k).2.2.2.1 b
section
variable {N:NodeL}{A:List (List UInt8)}{C o:List Int}
def fAt_num{i p v:Nat}(hi:i<N.length)(hp:p<=(pn N i).length)(hv:v<=1):fAt N (num N i p v)=(0,(i:Int),(p:Int) - 1,(v:Int),0):=by unfold fAt;rw[flN_at hi hp hv];rfl
def Rule.cm{i:Nat}{len:Nat}{r:Int×Int}(h:Rule (kd N (i:Int)) len r):cm N i=true:=by have e:Co.cm N i=isC (kd N (i:Int)):=rfl;rw[e];generalize kd N (i:Int)=k at h;rcases h with ⟨rfl|⟨rfl,_⟩,_⟩|⟨rfl,_⟩|⟨rfl,_⟩|⟨rfl,_⟩|⟨rfl,_⟩|⟨rfl,_⟩<;>rfl
def Ord.all(h:Ord N o):∀i∈o,In N.length i:=λi hi=>nums_mem.1 (h.p.mem_iff.1 hi)
def one_of_readers{n m q:Nat}(hn:n<N.length)(hr:readers n N 0=[((m:Int),(q:Int))])(hc:(n:Int)∉C):One N C (n:Int) (m:Int) (q:Int):=by obtain⟨j,q',hj,he,hq⟩:=readers_mem n N 0 (e:=((m:Int),(q:Int))) (by rw[hr];exact B4 ..);have he:=Prod.mk.inj he;obtain⟨rfl,rfl⟩:m=j/\q=q':=⟨by omega,by omega⟩;refine⟨⟨by omega,by omega⟩,⟨by omega,by omega⟩,by omega,by rw[AA,AA];exact hq,λi k hi hk=> ?_,hc⟩;have:=mem_readers n N 0 i k hi hk;rw[hr,AF]at this;exact Prod.mk.inj (Ae.1 this)
def eqs(R:Runs N A C o):Eqs (rho N C o) N C where
 gate:=λi p r hi hr hp=>by have h01:=hr.r01;have e1:((r.1.toNat:Nat):Int)=r.1:=Az (by omega);have e2:((r.2.toNat:Nat):Int)=r.2:=Az (by omega);funext b hb;unfold rho;rw[fAt_num hi (show p+1<=_ by omega) (by omega),fAt_num hi (Af _) (by omega)];show rsp N C o (i:Int) (((p+1:Nat):Int) - 1) (r.1.toNat:Int) b=rsp N C o (i:Int) (((0:Nat):Int) - 1) (r.2.toNat:Int) b;rw[e1,e2,show((p+1:Nat):Int) - 1=(p:Int) by omega,show((0:Nat):Int) - 1= -1 by omega];exact rsp_gate R.ck R.od.all (n:=(i:Int)) ⟨by omega,by omega⟩ (by rw[AA];exact hr.cm) (by rw[AA];exact hr) (by rw[AA];exact hp)
 stem:=λn m q v hn hr hc hv=>by have hO:=one_of_readers hn hr hc;have hm:=ck_lt hO.hm;rw[AA]at hm;have hq:q<(pn N m).length:=(by have:=(AD.1 hO.rd).1;rwa [AA,AA]at this);funext b hb;unfold rho;rw[fAt_num hn (Af _) hv,fAt_num hm (show q+1<=_ from hq) hv];show rsp N C o (n:Int) (((0:Nat):Int) - 1) (v:Int) b=rsp N C o (m:Int) (((q+1:Nat):Int) - 1) (v:Int) b;rw[show((q+1:Nat):Int) - 1=(q:Int) by omega,show((0:Nat):Int) - 1= -1 by omega];exact rsp_stem R.ck R.od hO hb
def lg_eq{i j:Nat}(h:rho N C o i=rho N C o j)(Q7:List (List Int×List Int))(n:Nat):lgF N C o Q7 (fAt N i) n=lgF N C o Q7 (fAt N j) n:=by unfold lgF;congr 1;funext k;exact congrFun (congrFun h (base N (tAt Q7 k).1 (tAt Q7 k).2)) base_len
def ctr_mem{a b:List Int}{i:Nat}{j:Int}(h:j∈ctr a b i):In i j/\Co.ky a j≠Co.ky b j:=by obtain⟨h1,h2⟩:=CY.1 h;refine⟨nums_mem.1 h1,λe=> ?_⟩;unfold ctb at h2;rw[e]at h2;cases decide (Co.ky b j<=1)<;>simp at h2
def lgN_mem{gs bs:Nat->List Int×List Int}{f:Int×Bool×Int}:∀{n:Nat},f∈lgN gs bs n->∃k,f∈ent k (gs k) (bs k)
 |n+1,h=>by
  have h:f∈lgN gs bs n++ent n (gs n) (bs n):=h;rcases Ak.1 h with h|h
  ·exact lgN_mem h
  ·exact⟨n,h⟩
def lg_pos{Q7:List (List Int×List Int)}{t:FT}{n:Nat}{f:Int×Bool×Int}(h:f∈lgF N C o Q7 t n):Pos N C f:=by
 obtain⟨k,h⟩:=lgN_mem h;rcases Ak.1 h with h|h
 ·obtain⟨j,hj,rfl⟩:=BR.1 h;have:=(ctr_mem hj).1;refine⟨by show 0<=(k:Int);omega,?_⟩;show In C.length j;simpa [rspG,outsV] using this
 ·obtain⟨j,hj,rfl⟩:=BR.1 h;have:=(ctr_mem hj).1;refine⟨by show 0<=(k:Int);omega,?_⟩;show In (ofK N 14).length j;simpa [rspG,nexts] using this
def ky_map{f:Int->Int}{l:List Int}{j:Int}(h:In l.length j):Co.ky (l.map f) j=f (l[j.toNat]?.getD 0):=by have:=ck_lt h;unfold Co.ky;simp[this]
def lg_cause(R:Runs N A C o){Q7:List (List Int×List Int)}{t:FT}(ht:0<=t.2.1){n:Nat}{f:Int×Bool×Int}(h:f∈lgF N C o Q7 t n){ins:List Bool}(hc:Cause N C f ins):mk ins t.2.1.toNat=true:=by
 cases hm:mk ins t.2.1.toNat with
 |true=>rfl
 |false=>
  exfalso;have hne:∀i,In N.length i->mk ins i.toNat=true->i≠t.2.1:=λi _ h1 e=>(by rw[e,hm]at h1;cases h1);have hF:∀i,In N.length i->mk ins i.toNat=true->(∀k v,(flt t.2.1 t.2.2.1 t.2.2.2.1).rd i k v=v)/\∀v,(flt t.2.1 t.2.2.1 t.2.2.2.1).nt i v=v:=λi hi h1=>flt_off (hne i hi h1);obtain⟨k,h⟩:=lgN_mem h;have hS:∀j,mk ins j=true->(sim (flt t.2.1 t.2.2.1 t.2.2.2.1) N o (base N (tAt Q7 k).1 (tAt Q7 k).2))[j]? =(sim good N o (base N (tAt Q7 k).1 (tAt Q7 k).2))[j]? :=cone_sim (S:=λj=>mk ins j=true) hc.cl hF o R.od.all rfl (λ_ _=>rfl);rcases Ak.1 h with h|h
  ·obtain⟨j,hj,rfl⟩:=BR.1 h;obtain⟨h1,h2⟩:=ctr_mem hj;have h1:In C.length j:=(by simpa [rspG,outsV] using h1);have h3:=hc.out rfl;refine h2 ?_;show Co.ky (outsV C _) j=Co.ky (outsV C _) j;unfold outsV;rw[ky_map h1,ky_map h1];unfold Co.ky;rw[hS _ h3]
  ·obtain⟨j,hj,rfl⟩:=BR.1 h;obtain⟨h1,h2⟩:=ctr_mem hj;have h1:In (ofK N 14).length j:=(by simpa [rspG,nexts] using h1);obtain⟨h3,h4⟩:=hc.nxt rfl;have h3:mk ins ((ofK N 14)[j.toNat]?.getD 0).toNat=true:=h3;have h4:mk ins (pin0 N ((ofK N 14)[j.toNat]?.getD 0)).toNat=true:=h4;have hs:In N.length ((ofK N 14)[j.toNat]?.getD 0):=(by rw[A4 (ck_lt h1),Aj];exact(ofK_at (ck_lt h1)).1);refine h2 ?_;show Co.ky (nexts _ N _) j=Co.ky (nexts _ N _) j;unfold nexts;rw[ky_map h1,ky_map h1,(hF _ hs h3).1];show rdv (Co.ky _ _)=rdv (Co.ky _ _);unfold Co.ky;rw[hS _ h4]
end
end Co
def Le{α:Type}(a b:Option α):Prop:=∀y,a=some y->b=some y
def Le.refl{α:Type}(a:Option α):Le a a:=λ_ h=>h
def Le.bind{α β:Type}{a b:Option α}{f g:α->Option β}(h:Le a b)(h':∀y,Le (f y) (g y)):Le (bindO a f) (bindO b g):=λz hz=>by obtain⟨y,h1,h2⟩:=Qf hz;rw[h y h1];exact h' y z h2
def Le.cond{α:Type}{p:Bool}{a b c d:Option α}(h:Le a b)(h':Le c d):Le (bif p then a else c) (bif p then b else d):=by cases p<;>assumption
def Le.sum{α β γ:Type}{s:α⊕β}{f f':α->Option γ}{g g':β->Option γ}(h:∀y,Le (f y) (f' y))(h':∀y,Le (g y) (g' y)):Le (sumC s f g) (sumC s f' g'):=by
 cases s with
 |inl y=>exact h y
 |inr y=>exact h' y
def iterN_le{X Y:Type}{s s':X->Option (X⊕Y)}(h:∀x,Le (s x) (s' x)):∀(n:Nat) (x:X),Le (iterN s n x) (iterN s' n x)
 |0,x=>λy hy=>by cases hy
 |n+1,x=>λy hy=>by
  unfold iterN at hy⊢;split at hy
  ·rename_i x' e;rw[h x _ e];exact iterN_le h n x' y hy
  ·rename_i y' e;rw[h x _ e];exact hy
  ·cases hy
def Le.iter{X Y:Type}{s s':X->Option (X⊕Y)}{n:Nat}(h:∀x,Le (s x) (s' x))(x:X):Le (iterN s n x) (Go.Abs.iter s' x):=λy hy=>Zs (iterN_le h n x y hy)
namespace M61
def s0'(x:p0X):Option (p0X⊕q0X):=bif inR x.i x.Qe then bif decide (x.QS+x.i.toNat<x.ps.length) then bif x.ps[x.QS+x.i.toNat]?.getD 0 !=x.i then bif inR x.i x.Qe then bif decide (x.QS+x.i.toNat<x.ps.length) then bif inR (x.ps[x.QS+x.i.toNat]?.getD 0) x.Qe then bif decide (x.QS+Int.toNat (x.ps[x.QS+x.i.toNat]?.getD 0)<x.ps.length) then bif inR x.i x.Qe then bif decide (x.QS+x.i.toNat<x.ps.length) then bif inR x.i x.Qe then bif decide (x.QS+x.i.toNat<(x.ps.set (x.QS+x.i.toNat) (x.ps[x.QS+Int.toNat (x.ps[x.QS+x.i.toNat]?.getD 0)]?.getD 0)).length) then some (inl ⟨(x.ps.set (x.QS+x.i.toNat) (x.ps[x.QS+Int.toNat (x.ps[x.QS+x.i.toNat]?.getD 0)]?.getD 0))[x.QS+x.i.toNat]?.getD 0,x.J5,x.Qt,x.QS,x.Qe,x.Qw,x.fs,x.ps.set (x.QS+x.i.toNat) (x.ps[x.QS+Int.toNat (x.ps[x.QS+x.i.toNat]?.getD 0)]?.getD 0)⟩) else none else none else none else none else none else none else none else none else some (inr ⟨x.i,x.J5,x.Qt,x.QS,x.Qe,x.Qw,x.fs,x.ps⟩) else none else none
def s0_le(x:_):Le (s0' x) (s0 x):=by
 unfold s0' s0
 repeat' first|with_reducible exact Le.refl _|with_reducible apply Le.bind|with_reducible apply Le.cond|with_reducible apply Le.sum|intro _
def m'(x:gX):Option fY:=bindO (iterN s0' 200 ⟨x.i,x.J5,x.Qt,x.QS,x.Qe,x.Qw,x.fs,x.ps⟩) λy=>some (y.i,y.J5,y.Qt,y.QS,y.Qe,y.Qw,y.fs,y.ps)
def m_le(x:_):Le (m' x) (m x):=by
 unfold m' m
 repeat' first|with_reducible exact Le.refl _|with_reducible exact Le.iter s0_le _|with_reducible apply Le.bind|with_reducible apply Le.cond|with_reducible apply Le.sum|intro _
end M61
namespace M105
def m'(x:gX):Option fY:=bindO (M61.m' ⟨x.a,x.J5,x.Qt,x.QS,x.Qe,x.Qw,x.fs,x.ps⟩) λy=>bindO (M61.m' ⟨x.b,y.2.1,y.2.2.1,y.2.2.2.1,y.2.2.2.2.1,y.2.2.2.2.2.1,y.2.2.2.2.2.2.1,y.2.2.2.2.2.2.2⟩) λz=>bif inR y.1 x.Qe then bif decide (x.QS+y.1.toNat<z.2.2.2.2.2.2.2.length) then some (z.2.1,z.2.2.1,z.2.2.2.1,z.2.2.2.2.1,z.2.2.2.2.2.1,z.2.2.2.2.2.2.1,z.2.2.2.2.2.2.2.set (x.QS+y.1.toNat) z.1) else none else none
def m_le(x:_):Le (m' x) (m x):=by
 unfold m' m
 repeat' first|with_reducible exact Le.refl _|with_reducible exact M61.m_le _|with_reducible apply Le.bind|with_reducible apply Le.cond|with_reducible apply Le.sum|intro _
end M105
namespace M103
def s1'(x:p1X):Option (p1X⊕q1X):=bif decide (x.i<x.m) then bif inR x.i x.QI then bif decide (x.QM+x.i.toNat<x.ps.length) then some (inl ⟨x.m,i64.wrap (x.i+1),x.QK,x.QE,x.QM,x.QI,x.QJ,x.fs,x.ps.set (x.QM+x.i.toNat) x.i⟩) else none else none else some (inr ⟨x.QK,x.QE,x.QM,x.QI,x.QJ,x.fs,x.ps⟩)
def s1_le(x:_):Le (s1' x) (s1 x):=by
 unfold s1' s1
 repeat' first|with_reducible exact Le.refl _|with_reducible apply Le.bind|with_reducible apply Le.cond|with_reducible apply Le.sum|intro _
def s0'(x:p0X):Option (p0X⊕q0X):=bif decide (x.i<x.m) then bif inR x.i x.ns.length then bif eqN x.QK 0&&eqN x.fs.length x.QE&&J1 (x.QE+1) 8 then some (inl ⟨i64.wrap (x.n+i64.wrap (2*i64.wrap ((↑(List.length (x.ns[x.i.toNat]?.getD (0,[],0,0)).2.1):Int)+1))),x.ns,x.m,i64.wrap (x.i+1),x.Q0,x.Q1,x.Q4,x.Q3,0,x.QE+1,x.fs++[x.n]⟩) else none else none else some (inr ⟨x.n,x.QK,x.QE,x.fs⟩)
def s0_le(x:_):Le (s0' x) (s0 x):=by
 unfold s0' s0
 repeat' first|with_reducible exact Le.refl _|with_reducible apply Le.bind|with_reducible apply Le.cond|with_reducible apply Le.sum|intro _
def m'(x:gX):Option fY:=bindO (iterN s0' 200 ⟨0,x.Q0,(x.Q0.length:Int),0,x.Q0,x.Q1,x.Q4,x.Q3,0,0,[]⟩) λy=>bif decide (0<=y.n)&&decide (y.n<=y.n)&&decide (y.n*(↑8:Int)<=281474976710656)&&decide (y.n<=9223372036854775807) then bindO (iterN s1' 200 ⟨(y.n.toNat:Int),0,y.QK,y.QE,0,y.n.toNat,y.n.toNat,y.fs,List.replicate y.n.toNat (0:Int)⟩) λy=>some (y.QK,y.QE,y.QM,y.QI,y.QJ,y.fs,y.ps) else none
def m_le(x:_):Le (m' x) (m x):=by
 unfold m' m
 repeat' first|with_reducible exact Le.refl _|with_reducible exact Le.iter s1_le _|with_reducible exact Le.iter s0_le _|with_reducible apply Le.bind|with_reducible apply Le.cond|with_reducible apply Le.sum|intro _
end M103
namespace M140
def s0'(x:p0X):Option (p0X⊕(q0X⊕z0X)):=bif decide (x.i<x.n) then bif inR x.i x.s.length then bif x.v==x.s[x.i.toNat]?.getD 0 then some (inr (inr ⟨x.i⟩)) else some (inl ⟨x.s,x.v,x.n,i64.wrap (x.i+1)⟩) else none else some (inr (inl PUnit.unit))
def s0_le(x:_):Le (s0' x) (s0 x):=by
 unfold s0' s0
 repeat' first|with_reducible exact Le.refl _|with_reducible apply Le.bind|with_reducible apply Le.cond|with_reducible apply Le.sum|intro _
def m'(x:gX):Option fY:=bindO (iterN s0' 200 ⟨x.s,x.v,(x.s.length:Int),0⟩) λs=>sumC s (λy=>some (-1)) λz=>some z.r
def m_le(x:_):Le (m' x) (m x):=by
 unfold m' m
 repeat' first|with_reducible exact Le.refl _|with_reducible exact Le.iter s0_le _|with_reducible apply Le.bind|with_reducible apply Le.cond|with_reducible apply Le.sum|intro _
end M140
namespace M107
def m'(x:gX):Option fY:=bindO (M140.m' ⟨x.s,x.v⟩) λy=>some (decide (y>=0))
def m_le(x:_):Le (m' x) (m x):=by
 unfold m' m
 repeat' first|with_reducible exact Le.refl _|with_reducible exact M140.m_le _|with_reducible apply Le.bind|with_reducible apply Le.cond|with_reducible apply Le.sum|intro _
end M107
namespace M60
def s4'(x:p4X):Option (p4X⊕q4X):=bif decide (x.v<=1) then bindO (M62.m ⟨x.n,-1,x.v,x.QK,x.QE,x.QM,x.QI,x.QJ,x.fs,x.ps⟩) λy=>bif inR 0 x.l.length then bif inR 0 x.l.length then bindO (M62.m ⟨(x.l[0]?.getD (0,0)).1,(x.l[0]?.getD (0,0)).2,x.v,x.QK,x.QE,x.QM,x.QI,x.QJ,x.fs,x.ps⟩) λy_1=>bindO (M105.m' ⟨y.1,y_1.1,x.QK,x.QE,x.QM,x.QI,x.QJ,x.fs,x.ps⟩) λy=>some (inl ⟨x.fan,x.m,x.i,x.n,x.l,IntKind.u8.wrap (x.v+1),x.Q0,x.Q1,x.Q4,x.Q3,y.1,y.2.1,y.2.2.1,y.2.2.2.1,y.2.2.2.2.1,y.2.2.2.2.2.1,y.2.2.2.2.2.2⟩) else none else none else some (inr ⟨x.fan,x.m,x.i,x.Q0,x.Q1,x.Q4,x.Q3,x.QK,x.QE,x.QM,x.QI,x.QJ,x.fs,x.ps⟩)
def s4_le(x:_):Le (s4' x) (s4 x):=by
 unfold s4' s4
 repeat' first|with_reducible exact Le.refl _|with_reducible exact M105.m_le _|with_reducible apply Le.bind|with_reducible apply Le.cond|with_reducible apply Le.sum|intro _
def s3'(x:p3X):Option (p3X⊕q3X):=bif decide (x.i<x.m) then bif inR x.i x.fan.length then bindO (bif (↑(List.length (x.fan[x.i.toNat]?.getD [])):Int)==1 then M107.m' ⟨x.Q3,x.i⟩ else some false) λy=>bif bif (↑(List.length (x.fan[x.i.toNat]?.getD [])):Int)==1 then !y else false then bindO (iterN s4' 200 ⟨x.fan,x.m,x.i,x.i,x.fan[x.i.toNat]?.getD [],0,x.Q0,x.Q1,x.Q4,x.Q3,x.QK,x.QE,x.QM,x.QI,x.QJ,x.fs,x.ps⟩) λy=>some (inl ⟨y.fan,y.m,i64.wrap (y.i+1),y.Q0,y.Q1,y.Q4,y.Q3,y.QK,y.QE,y.QM,y.QI,y.QJ,y.fs,y.ps⟩) else some (inl ⟨x.fan,x.m,i64.wrap (x.i+1),x.Q0,x.Q1,x.Q4,x.Q3,x.QK,x.QE,x.QM,x.QI,x.QJ,x.fs,x.ps⟩) else none else some (inr ⟨x.QK,x.QE,x.QM,x.QI,x.QJ,x.fs,x.ps⟩)
def s3_le(x:_):Le (s3' x) (s3 x):=by
 unfold s3' s3
 repeat' first|with_reducible exact Le.refl _|with_reducible exact M107.m_le _|with_reducible exact Le.iter s4_le _|with_reducible apply Le.bind|with_reducible apply Le.cond|with_reducible apply Le.sum|intro _
def s2'(x:p2X):Option (p2X⊕q2X):=bif decide (x.pi<x.pm) then bindO (M62.m ⟨x.n,x.pi,x.rp,x.QK,x.QE,x.QM,x.QI,x.QJ,x.fs,x.ps⟩) λy=>bindO (M62.m ⟨x.n,-1,x.ro,x.QK,x.QE,x.QM,x.QI,x.QJ,x.fs,x.ps⟩) λy_1=>bindO (M105.m' ⟨y.1,y_1.1,x.QK,x.QE,x.QM,x.QI,x.QJ,x.fs,x.ps⟩) λy=>some (inl ⟨x.n,x.ns,x.m,x.i,x.rs,x.rm,x.ri,x.pm,i64.wrap (x.pi+1),x.Q0,x.Q1,x.Q4,x.Q3,y.1,y.2.1,y.2.2.1,y.2.2.2.1,y.2.2.2.2.1,y.2.2.2.2.2.1,y.2.2.2.2.2.2,x.kind,x.inn,x.mem,x.bit,x.rp,x.ro⟩) else some (inr ⟨x.n,x.ns,x.m,x.i,x.rs,x.rm,x.ri,x.Q0,x.Q1,x.Q4,x.Q3,x.QK,x.QE,x.QM,x.QI,x.QJ,x.fs,x.ps,x.kind,x.inn,x.mem,x.bit,x.rp,x.ro⟩)
def s2_le(x:_):Le (s2' x) (s2 x):=by
 unfold s2' s2
 repeat' first|with_reducible exact Le.refl _|with_reducible exact M105.m_le _|with_reducible apply Le.bind|with_reducible apply Le.cond|with_reducible apply Le.sum|intro _
def s1'(x:p1X):Option (p1X⊕q1X):=bif decide (x.ri<x.rm) then bif inR x.ri x.rs.length then bindO (iterN s2' 200 ⟨x.n,x.ns,x.m,x.i,x.rs,x.rm,x.ri,(x.inn.length:Int),0,x.Q0,x.Q1,x.Q4,x.Q3,x.QK,x.QE,x.QM,x.QI,x.QJ,x.fs,x.ps,x.kind,x.inn,x.mem,x.bit,(x.rs[x.ri.toNat]?.getD (0,0)).1,(x.rs[x.ri.toNat]?.getD (0,0)).2⟩) λy=>some (inl ⟨y.n,y.ns,y.m,y.i,y.rs,y.rm,i64.wrap (y.ri+1),y.Q0,y.Q1,y.Q4,y.Q3,y.QK,y.QE,y.QM,y.QI,y.QJ,y.fs,y.ps,y.kind,y.inn,y.mem,y.bit⟩) else none else some (inr ⟨x.n,x.ns,x.m,x.i,x.Q0,x.Q1,x.Q4,x.Q3,x.QK,x.QE,x.QM,x.QI,x.QJ,x.fs,x.ps,x.kind,x.inn,x.mem,x.bit⟩)
def s1_le(x:_):Le (s1' x) (s1 x):=by
 unfold s1' s1
 repeat' first|with_reducible exact Le.refl _|with_reducible exact Le.iter s2_le _|with_reducible apply Le.bind|with_reducible apply Le.cond|with_reducible apply Le.sum|intro _
def s0'(x:p0X):Option (p0X⊕q0X):=bif decide (x.i<x.m) then bif inR x.i x.ns.length then bindO (M104.m ⟨(x.ns[x.i.toNat]?.getD (0,[],0,0)).1,(x.ns[x.i.toNat]?.getD (0,[],0,0)).2.1,(x.ns[x.i.toNat]?.getD (0,[],0,0)).2.2.1,(x.ns[x.i.toNat]?.getD (0,[],0,0)).2.2.2⟩) λy=>bindO (iterN s1' 200 ⟨x.i,x.ns,x.m,x.i,y,(↑(List.length y):Int),0,x.Q0,x.Q1,x.Q4,x.Q3,x.QK,x.QE,x.QM,x.QI,x.QJ,x.fs,x.ps,(x.ns[x.i.toNat]?.getD (0,[],0,0)).1,(x.ns[x.i.toNat]?.getD (0,[],0,0)).2.1,(x.ns[x.i.toNat]?.getD (0,[],0,0)).2.2.1,(x.ns[x.i.toNat]?.getD (0,[],0,0)).2.2.2⟩) λy=>some (inl ⟨y.ns,y.m,i64.wrap (y.i+1),y.Q0,y.Q1,y.Q4,y.Q3,y.QK,y.QE,y.QM,y.QI,y.QJ,y.fs,y.ps⟩) else none else some (inr ⟨x.Q0,x.Q1,x.Q4,x.Q3,x.QK,x.QE,x.QM,x.QI,x.QJ,x.fs,x.ps⟩)
def s0_le(x:_):Le (s0' x) (s0 x):=by
 unfold s0' s0
 repeat' first|with_reducible exact Le.refl _|with_reducible exact Le.iter s1_le _|with_reducible apply Le.bind|with_reducible apply Le.cond|with_reducible apply Le.sum|intro _
def m'(x:gX):Option fY:=bindO (M103.m' ⟨x.Q0,x.Q1,x.Q4,x.Q3⟩) λy=>bindO (iterN s0' 200 ⟨x.Q0,(x.Q0.length:Int),0,x.Q0,x.Q1,x.Q4,x.Q3,y.1,y.2.1,y.2.2.1,y.2.2.2.1,y.2.2.2.2.1,y.2.2.2.2.2.1,y.2.2.2.2.2.2⟩) λy=>bindO (M106.m ⟨y.Q0,y.Q1,y.Q4,y.Q3⟩) λy_1=>bindO (iterN s3' 200 ⟨y_1,(↑(List.length y_1):Int),0,y.Q0,y.Q1,y.Q4,y.Q3,y.QK,y.QE,y.QM,y.QI,y.QJ,y.fs,y.ps⟩) λy=>some (y.QK,y.QE,y.QM,y.QI,y.QJ,y.fs,y.ps)
def m_le(x:_):Le (m' x) (m x):=by
 unfold m' m
 repeat' first|with_reducible exact Le.refl _|with_reducible exact M103.m_le _|with_reducible exact Le.iter s3_le _|with_reducible exact Le.iter s0_le _|with_reducible apply Le.bind|with_reducible apply Le.cond|with_reducible apply Le.sum|intro _
end M60
namespace Tx
def N3:List (Int×List Int×Int×Int):=[(0,[],0,0),(0,[],0,0),(8,[0,1],0,0)]
def A3:List (List UInt8):=[[97],[98],[121]]
def ps3:List Int:=[6,4,8,4,4,5,6,4,8,4]
def m60_ev:M60.m' ⟨N3,A3,[],[2]⟩=some (0,3,0,10,10,[0,2,4],ps3):=by kernel_rfl
def m60_3:M60.m ⟨N3,A3,[],[2]⟩=some (0,3,0,10,10,[0,2,4],ps3):=M60.m_le _ _ m60_ev
end Tx
