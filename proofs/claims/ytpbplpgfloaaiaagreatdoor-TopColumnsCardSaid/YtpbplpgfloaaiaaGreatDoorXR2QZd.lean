/- A part of the proof. -/
import Derived.Test.YtpbplpgfloaaiaaGreatDoorXR2QZc
import Derived.Test.YtpbplpgfloaaiaaGreatDoorXR2QZa
import Derived.Test.YtpbplpgfloaaiaaGreatDoorXR2QZb
set_option linter.all false
set_option maxRecDepth 100000
set_option maxHeartbeats 1000000
noncomputable section
namespace Go.Proofs.YtpbplpgfloaaiaaGreatDoor
open Go.Abs
namespace Co
theorem rds_at{F:Flt}{N:NodeL}{nets:List Int}{i:Int}{k:Nat}(h:k<(rds F N nets i).length)(hk:k<(pn N i.toNat).length):(rds F N nets i)[k]=F.rd i (k:Int) (ky nets (pn N i.toNat)[k]):=List.getElem_mapIdx
def flta(ln _lp val:Int):Flt:=⟨λ_ _ v=>v,λi v=>if i=ln then val else v⟩
def fltb(ln lp val:Int):Flt:=⟨λi k v=>if i=ln/\k=lp then val else v,λ_ v=>v⟩
theorem flta_ok{ln lp val:Int}(h:V val):(flta ln lp val).Ok:=⟨λ_ _ _ h=>h,λi v hv=>by
 show V (if i=ln then val else v);split
 ·exact h
 ·exact hv⟩
theorem fltb_ok{ln lp val:Int}(h:V val):(fltb ln lp val).Ok:=⟨λi k v hv=>by
 show V (if i=ln/\k=lp then val else v);split
 ·exact h
 ·exact hv,λ_ _ h=>h⟩
section
variable {N:NodeL}{A:List (List UInt8)}{C:List Int}{ln lp md l1 l2 val ot:Int}
theorem mrda(h:Ck N A C){nets:List Int}(hl:nets.length=N.length){i:Int}(hi:In N.length i):
  M130a.m ⟨i,N,A,[],C,0,N.length,N.length,ln,lp,md,l1,l2,val,ot,nets⟩=some (rds (flta ln lp val) N nets i,N,A,[],C,0,N.length,N.length,ln,lp,md,l1,l2,val,ot,nets):=by
 have hN:=h.few;have hp:=h.pins hi;have e5:(N[i.toNat]?.getD (0,[],0,0)).2.1=pn N i.toNat:=rfl;have key:=iter_count (step:=M130a.s0) (λk=>⟨i,0,k,pn N i.toNat,((pn N i.toNat).length:Int),(k:Int),N,A,[],C,0,N.length,N.length,ln,lp,md,l1,l2,val,ot,nets,(rds (flta ln lp val) N nets i).take k⟩) (y:=⟨0,(pn N i.toNat).length,N,A,[],C,0,N.length,N.length,ln,lp,md,l1,l2,val,ot,nets,rds (flta ln lp val) N nets i⟩) (pn N i.toNat).length (λk hk=>by
  have c1:=ilt (a:=(k:Int)) (b:=((pn N i.toNat).length:Int)) (by omega);have ha:=hp.2 _ (AH hk);have hlt:(pn N i.toNat)[k].toNat<nets.length:=(by obtain⟨q1,q2⟩:=ha;omega);have hr:k<(rds (flta ln lp val) N nets i).length:=(by rw[rds_len];exact hk);have hrk:(rds (flta ln lp val) N nets i).take (k+1)=(rds (flta ln lp val) N nets i).take k++[(flta ln lp val).rd i (k:Int) (nets[(pn N i.toNat)[k].toNat]?.getD 0)]:=(by rw[take_succ' hr];congr 2;rw[rds_at hr hk];rfl);unfold M130a.s0;simp only[c1,inR_nat hk,A5,getD_at hk,inR_int ha,AI,dlt hlt,eqN_of rfl,eqN_of (show((rds (flta ln lp val) N nets i).take k).length=k by rw[Ar];omega),room (n:=k+1) (b:=1) (by omega) (by omega),AG,suc (i:=k) (by omega),hrk];rfl) (by
  have c1:=inlt (a:=((pn N i.toNat).length:Int)) (b:=((pn N i.toNat).length:Int)) (by omega);have:(rds (flta ln lp val) N nets i).take (pn N i.toNat).length=rds (flta ln lp val) N nets i:=AJ (by rw[rds_len];exact A6 _);unfold M130a.s0;simp only[c1,A7,this])
 rw[CJ]at key;have key':iter M130a.s0 { n:=i,out_lo:=0,out_len:=0,l:=pn N i.toNat,m:=((pn N i.toNat).length:Int),i:=0,nodes:=N,names:=A,mems:=[],outs:=C,nets_lo:=0,nets_len:=N.length,nets_cap:=N.length,ln:=ln,lp:=lp,model:=md,lnode:=l1,lpin:=l2,value:=val,other:=ot,xs:=nets,out:=[] }=_:=key;have hrl:(rds (flta ln lp val) N nets i).length=(pn N i.toNat).length:=rds_len;unfold M130a.m;simp only[inR_int hi,A5,e5,key',bindO,AI,hrl,leB_of (A6 (pn N i.toNat).length),AG,AU];rw[AJ (by omega)]
theorem meva(h:Ck N A C)(hF:V val){nets:List Int}(hl:nets.length=N.length)(hv:AllV nets){i:Int}(hi:In N.length i):
  M129a.m ⟨i,N,A,[],C,0,N.length,N.length,ln,lp,md,l1,l2,val,ot,nets⟩=some (ev (kd N i) (rds (flta ln lp val) N nets i),N,A,[],C,0,N.length,N.length,ln,lp,md,l1,l2,val,ot,nets):=by
 have hk:=h.kind hi;have hp:=h.pins hi;have e6:(N[i.toNat]?.getD (0,[],0,0)).1=kd N i:=rfl;have hev:=(ev_ok (k:=kd N i) (l:=rds (flta ln lp val) N nets i) hk.1 (by omega) (by rw[rds_len];have:=hp.1;omega) (rds_V (flta_ok hF) hv)).1;unfold M129a.m;simp only[inR_int hi,A5,mrda h hl hi,bindO,e6,hev]
theorem m90a_2(h:Ck N A C)(hF:V val){o:List Int}(ho:Ord N o){b inn st sts:List Int}(hb:b.length=N.length)(hv:AllV b):
  iter M90a.s2 ⟨sts,o,(o.length:Int),0,N,A,[],C,0,N.length,N.length,ln,lp,md,l1,l2,val,ot,inn,st,b⟩=some ⟨sts,N,A,[],C,0,N.length,N.length,ln,lp,md,l1,l2,val,ot,inn,st,sim (flta ln lp val) N o b⟩:=by
 have hN:=h.few;have hlo:=ho.len;have key:=iter_count (step:=M90a.s2) (λi=>⟨sts,o,(o.length:Int),(i:Int),N,A,[],C,0,N.length,N.length,ln,lp,md,l1,l2,val,ot,inn,st,sim (flta ln lp val) N (o.take i) b⟩) (y:=⟨sts,N,A,[],C,0,N.length,N.length,ln,lp,md,l1,l2,val,ot,inn,st,sim (flta ln lp val) N o b⟩) o.length (λi hlt=>by
  have c1:=ilt (a:=(i:Int)) (b:=(o.length:Int)) (by omega);have hr:=ho.rng hlt;have hk:=h.kind hr;have hs:=sim_snoc (N:=N) (F:=flta ln lp val) (b:=b) hlt;have hsl:(sim (flta ln lp val) N (o.take i) b).length=N.length:=(by rw[sim_len,hb]);have hsv:AllV (sim (flta ln lp val) N (o.take i) b):=sim_V h (flta_ok hF) (λa ha=>by
   obtain⟨k,hk,e⟩:=Bg (CX ha);rw[<-e];exact ho.rng hk) hv
  have e6:(N[o[i].toNat]?.getD (0,[],0,0)).1=kd N o[i]:=rfl;have hc:(bif kd N o[i] !=0 then kd N o[i] !=14 else false)=cm N o[i].toNat:=by
   show _=isC (kd N o[i]);unfold isC;by_cases h0:kd N o[i]=0
   ·rw[h0];rfl
   ·by_cases h14:kd N o[i]=14
    ·rw[h14];rfl
    ·have g1:(kd N o[i] !=0)=true:=(by simpa using h0);have g2:(kd N o[i] !=14)=true:=(by simpa using h14);have g3:decide (kd N o[i]>=1)=true:=AB (by omega);have g4:decide (kd N o[i]<=13)=true:=AB (by omega);rw[g1,g2,g3,g4]
  have hlt2:o[i].toNat<(sim (flta ln lp val) N (o.take i) b).length:=(by rw[hsl];obtain⟨q1,q2⟩:=hr;omega);unfold M90a.s2;simp only[c1,inR_nat hlt,A5,getD_at hlt,inR_int hr,e6,hc,suc (i:=i) (by omega)];have hst:∀nets:List Int,nxt (flta ln lp val) N (sim (flta ln lp val) N (o.take i) b) o[i]=nets->nets.set o[i].toNat ((flta ln lp val).nt o[i] (nets[o[i].toNat]?.getD 0))=sim (flta ln lp val) N (o.take (i+1)) b:=λnets e=>by rw[hs];unfold stp;rw[e];rfl
  cases hcm:cm N o[i].toNat with
  |true=>
   have hn:nxt (flta ln lp val) N (sim (flta ln lp val) N (o.take i) b) o[i]=(sim (flta ln lp val) N (o.take i) b).set o[i].toNat (ev (kd N o[i]) (rds (flta ln lp val) N (sim (flta ln lp val) N (o.take i) b) o[i])):=(by unfold nxt;rw[AF hcm]);have hst:=hst _ hn;have hlt3:o[i].toNat<((sim (flta ln lp val) N (o.take i) b).set o[i].toNat (ev (kd N o[i]) (rds (flta ln lp val) N (sim (flta ln lp val) N (o.take i) b) o[i]))).length:=(by rw[BY];exact hlt2);simp only[A5,meva h hF hsl hsv hr,bindO,AI,dlt hlt2,dlt hlt3];rw[<-hst];by_cases e:o[i]=ln
   ·have g:(o[i]==ln)=true:=(by simpa using e);have g2:∀v,(flta ln lp val).nt o[i] v=val:=λv=>(by show(if _ then _ else _)=_;rw[AF e]);unfold M151.m;simp only[g,A5,bindO,M128.m,g2]
   ·have g:(o[i]==ln)=false:=Ae.2 e;have g2:∀v,(flta ln lp val).nt o[i] v=v:=λv=>(by show(if _ then _ else _)=_;rw[AP e]);unfold M151.m;simp only[g,A7,bindO,g2]
  |false=>
   have hn:nxt (flta ln lp val) N (sim (flta ln lp val) N (o.take i) b) o[i]=sim (flta ln lp val) N (o.take i) b:=(by unfold nxt;rw[AP (by rw[hcm];simp)]);have hst:=hst _ hn;simp only[A7,AI,dlt hlt2,A5];rw[<-hst];by_cases e:o[i]=ln
   ·have g:(o[i]==ln)=true:=(by simpa using e);have g2:∀v,(flta ln lp val).nt o[i] v=val:=λv=>(by show(if _ then _ else _)=_;rw[AF e]);unfold M151.m;simp only[g,A5,bindO,M128.m,g2]
   ·have g:(o[i]==ln)=false:=Ae.2 e;have g2:∀v,(flta ln lp val).nt o[i] v=v:=λv=>(by show(if _ then _ else _)=_;rw[AP e]);unfold M151.m;simp only[g,A7,bindO,g2]) (by
  have c1:=inlt (a:=(o.length:Int)) (b:=(o.length:Int)) (by omega);unfold M90a.s2;simp only[c1,A7,Ak])
 rw[CJ]at key;exact key
theorem m90a(h:Ck N A C)(hF:V val){o:List Int}(ho:Ord N o)(h40:M40.m ⟨N,A,[],C⟩=some (o,0)){inn st:List Int}(hp:Pat N inn st):
  M90a.m ⟨inn,st,N,A,[],C,ln,lp,md,l1,l2,val,ot⟩=some (outsV C (sim (flta ln lp val) N o (base N inn st)),nexts (flta ln lp val) N (sim (flta ln lp val) N o (base N inn st)),N,A,[],C,0,N.length,N.length,ln,lp,md,l1,l2,val,ot,sim (flta ln lp val) N o (base N inn st)):=by
 have hN:=h.few;have hC:=h.fewC;have lK:(ofK N 14).length<=N.length:=ofN_len;have lI:(ofK N 0).length<=N.length:=ofN_len;have hbV:=base_V (N:=N) hp.vi hp.vs;have hbl:=base_len (N:=N) (inn:=inn) (st:=st);have k0:=iter_count (step:=M90a.s0) (λi=>⟨ofK N 14,ofK N 0,((ofK N 0).length:Int),(i:Int),N,A,[],C,0,N.length,N.length,ln,lp,md,l1,l2,val,ot,inn,st,puts (ofK N 0) inn i (List.replicate N.length 0)⟩) (y:=⟨ofK N 14,N,A,[],C,0,N.length,N.length,ln,lp,md,l1,l2,val,ot,inn,st,puts (ofK N 0) inn (ofK N 0).length (List.replicate N.length 0)⟩) (ofK N 0).length (λi hi=>by
  have c1:=ilt (a:=(i:Int)) (b:=((ofK N 0).length:Int)) (by omega);have hr:=(ofK_at hi).1;have hii:i<inn.length:=(by rw[hp.li];exact hi);have hlt:(ofK N 0)[i].toNat<(puts (ofK N 0) inn i (List.replicate N.length 0)).length:=(by rw[puts_len,BR];obtain⟨q1,q2⟩:=hr;omega);unfold M90a.s0;simp only[c1,inR_nat hi,inR_nat hii,A5,getD_at hi,getD_at hii,inR_int hr,AI,dlt hlt,suc (i:=i) (by omega),puts_succ hi hii]) (by
  have c1:=inlt (a:=((ofK N 0).length:Int)) (b:=((ofK N 0).length:Int)) (by omega);unfold M90a.s0;simp only[c1,A7])
 have k1:=iter_count (step:=M90a.s1) (λi=>⟨ofK N 14,ofK N 14,((ofK N 14).length:Int),(i:Int),N,A,[],C,0,N.length,N.length,ln,lp,md,l1,l2,val,ot,inn,st,puts (ofK N 14) st i (puts (ofK N 0) inn (ofK N 0).length (List.replicate N.length 0))⟩) (y:=⟨ofK N 14,N,A,[],C,0,N.length,N.length,ln,lp,md,l1,l2,val,ot,inn,st,base N inn st⟩) (ofK N 14).length (λi hi=>by
  have c1:=ilt (a:=(i:Int)) (b:=((ofK N 14).length:Int)) (by omega);have hr:=(ofK_at hi).1;have hii:i<st.length:=(by rw[hp.ls];exact hi);have hlt:(ofK N 14)[i].toNat<(puts (ofK N 14) st i (puts (ofK N 0) inn (ofK N 0).length (List.replicate N.length 0))).length:=(by rw[puts_len,puts_len,BR];obtain⟨q1,q2⟩:=hr;omega);unfold M90a.s1;simp only[c1,inR_nat hi,inR_nat hii,A5,getD_at hi,getD_at hii,inR_int hr,AI,dlt hlt,suc (i:=i) (by omega),puts_succ hi hii]) (by
  have c1:=inlt (a:=((ofK N 14).length:Int)) (b:=((ofK N 14).length:Int)) (by omega);unfold M90a.s1;simp only[c1,A7];rfl)
 have k2:=m90a_2 (md:=md) (l1:=l1) (l2:=l2) (ot:=ot) (ln:=ln) (lp:=lp) h hF ho (inn:=inn) (st:=st) (sts:=ofK N 14) hbl hbV;have hnl:(sim (flta ln lp val) N o (base N inn st)).length=N.length:=by rw[sim_len,hbl]
 have hnv:AllV (sim (flta ln lp val) N o (base N inn st)):=sim_V h (flta_ok hF) (λa ha=>by
  obtain⟨k,hk,e⟩:=Bg ha;rw[<-e];exact ho.rng hk) hbV
 revert k2 hnl hnv;generalize sim (flta ln lp val) N o (base N inn st)=nets;intro k2 hnl hnv;have k3:=iter_count (step:=M90a.s3) (λi=>⟨ofK N 14,C,(C.length:Int),(i:Int),N,A,[],C,0,N.length,N.length,ln,lp,md,l1,l2,val,ot,inn,st,nets,0,i,(C.take i).map (ky nets)⟩) (y:=⟨ofK N 14,N,A,[],C,0,N.length,N.length,ln,lp,md,l1,l2,val,ot,inn,st,nets,outsV C nets⟩) C.length (λi hi=>by
  have c1:=ilt (a:=(i:Int)) (b:=(C.length:Int)) (by omega);have hr:In N.length C[i]:=h.outs _ (AH hi);have hlt:C[i].toNat<nets.length:=(by rw[hnl];obtain⟨q1,q2⟩:=hr;omega);have e:nets[C[i].toNat]?.getD 0=ky nets C[i]:=rfl;unfold M90a.s3;simp only[c1,inR_nat hi,A5,getD_at hi,inR_int hr,AI,dlt hlt,e,eqN_of rfl,eqN_of (show((C.take i).map (ky nets)).length=i by simp;omega),room (n:=i+1) (b:=1) (by omega) (by omega),AG,suc (i:=i) (by omega),map_snoc hi]) (by
  have c1:=inlt (a:=(C.length:Int)) (b:=(C.length:Int)) (by omega);unfold M90a.s3;simp only[c1,A7,AI,Ak,AA,leB_of (A6 _),AG,A5,AU];rw[AJ (by simp)];rfl)
 have k4:=iter_count (step:=M90a.s4) (λi=>⟨ofK N 14,((ofK N 14).length:Int),(i:Int),N,A,[],C,0,N.length,N.length,ln,lp,md,l1,l2,val,ot,inn,st,nets,outsV C nets,0,i,((ofK N 14).take i).map λi=>rdv ((flta ln lp val).rd i 0 (ky nets (pin0 N i)))⟩) (y:=⟨N,A,[],C,0,N.length,N.length,ln,lp,md,l1,l2,val,ot,inn,st,nets,outsV C nets,nexts (flta ln lp val) N nets⟩) (ofK N 14).length (λi hi=>by
  have c1:=ilt (a:=(i:Int)) (b:=((ofK N 14).length:Int)) (by omega);obtain⟨hr,hk⟩:=ofK_at hi;have hd:=h.dff hr hk;have h0:0<(rds (flta ln lp val) N nets (ofK N 14)[i]).length:=(by rw[rds_len];omega);have e0:(rds (flta ln lp val) N nets (ofK N 14)[i])[0]?.getD 0=(flta ln lp val).rd (ofK N 14)[i] 0 (ky nets (pin0 N (ofK N 14)[i])):=(by have h0':0<(pn N (ofK N 14)[i].toNat).length:=(by omega);rw[A4 h0,BC,rds_at h0 h0'];unfold pin0;rw[A4 h0'];rfl);have hV:=(flta_ok (ln:=ln) (lp:=lp) hF).rd (ofK N 14)[i] 0 _ (allV_ky hnv (pin0 N (ofK N 14)[i]));have e1:(bif (flta ln lp val).rd (ofK N 14)[i] 0 (ky nets (pin0 N (ofK N 14)[i]))==3 then 2 else (flta ln lp val).rd (ofK N 14)[i] 0 (ky nets (pin0 N (ofK N 14)[i])))=rdv ((flta ln lp val).rd (ofK N 14)[i] 0 (ky nets (pin0 N (ofK N 14)[i]))):=by
   revert hV;generalize (flta ln lp val).rd (ofK N 14)[i] 0 (ky nets (pin0 N (ofK N 14)[i]))=w;intro hV;obtain⟨v1,v2⟩:=hV;unfold rdv;by_cases e3:w=3
   ·subst e3;rfl
   ·have g:(w==3)=false:=Ae.2 e3;rw[g,A7,AP (by omega)]
  have c3:inR 0 (rds (flta ln lp val) N nets (ofK N 14)[i]).length=true:=inR_nat h0;unfold M90a.s4;simp only[c1,inR_nat hi,A5,getD_at hi,mrda h hnl hr,bindO,c3,e0,e1,eqN_of rfl,eqN_of (show(((ofK N 14).take i).map λi=>rdv ((flta ln lp val).rd i 0 (ky nets (pin0 N i)))).length=i by simp;omega),room (n:=i+1) (b:=1) (by omega) (by omega),AG,suc (i:=i) (by omega),map_snoc (f:=λi=>rdv ((flta ln lp val).rd i 0 (ky nets (pin0 N i)))) hi]) (by
  have c1:=inlt (a:=((ofK N 14).length:Int)) (b:=((ofK N 14).length:Int)) (by omega);unfold M90a.s4;simp only[c1,A7,AI,Ak,AA,leB_of (A6 _),AG,A5,AU];rw[AJ (by simp)];rfl)
 have k0':iter M90a.s0 { sts:=ofK N 14,l:=ofK N 0,n:=((ofK N 0).length:Int),i:=0,nodes:=N,names:=A,mems:=[],outs:=C,nets_lo:=0,nets_len:=N.length,nets_cap:=N.length,ln:=ln,lp:=lp,model:=md,lnode:=l1,lpin:=l2,value:=val,other:=ot,inn:=inn,state:=st,xs:=List.replicate N.length 0 }=_:=k0;have k1':iter M90a.s1 { sts:=ofK N 14,l:=ofK N 14,n:=((ofK N 14).length:Int),i:=0,nodes:=N,names:=A,mems:=[],outs:=C,nets_lo:=0,nets_len:=N.length,nets_cap:=N.length,ln:=ln,lp:=lp,model:=md,lnode:=l1,lpin:=l2,value:=val,other:=ot,inn:=inn,state:=st,xs:=puts (ofK N 0) inn (ofK N 0).length (List.replicate N.length 0) }=_:=k1;have k3':iter M90a.s3 { sts:=ofK N 14,l:=C,n:=(C.length:Int),i:=0,nodes:=N,names:=A,mems:=[],outs:=C,nets_lo:=0,nets_len:=N.length,nets_cap:=N.length,ln:=ln,lp:=lp,model:=md,lnode:=l1,lpin:=l2,value:=val,other:=ot,inn:=inn,state:=st,xs:=nets,oa_lo:=0,oa_len:=0,oxs:=[] }=_:=k3;have k4':iter M90a.s4 { l:=ofK N 14,n:=((ofK N 14).length:Int),i:=0,nodes:=N,names:=A,mems:=[],outs:=C,nets_lo:=0,nets_len:=N.length,nets_cap:=N.length,ln:=ln,lp:=lp,model:=md,lnode:=l1,lpin:=l2,value:=val,other:=ot,inn:=inn,state:=st,xs:=nets,oa:=outsV C nets,ob_lo:=0,ob_len:=0,oxs:=[] }=_:=k4;unfold M90a.m;have c1:decide (0<=(N.length:Int))=true:=AB (by omega);have c2:decide ((N.length:Int)<=(N.length:Int))=true:=AB (by omega);have c3:decide ((N.length:Int)*1<=281474976710656)=true:=AB (by omega);have c4:decide ((N.length:Int)<=9223372036854775807)=true:=AB (by omega);simp only[c1,c2,c3,c4,AG,A5,m36 h,m75 h,bindO,AC,k0',k1',h40,k2,k3',k4',m88 (l:=outsV C nets) (by simp[outsV];omega),m88 (l:=nexts (flta ln lp val) N nets) (by simp[nexts];omega)]
end
section
variable {N:NodeL}{A:List (List UInt8)}{C:List Int}{ln lp md l1 l2 val ot:Int}
theorem mrdb(h:Ck N A C){nets:List Int}(hl:nets.length=N.length){i:Int}(hi:In N.length i):
  M130b.m ⟨i,N,A,[],C,0,N.length,N.length,ln,lp,md,l1,l2,val,ot,nets⟩=some (rds (fltb ln lp val) N nets i,N,A,[],C,0,N.length,N.length,ln,lp,md,l1,l2,val,ot,nets):=by
 have hN:=h.few;have hp:=h.pins hi;have e5:(N[i.toNat]?.getD (0,[],0,0)).2.1=pn N i.toNat:=rfl;have key:=iter_count (step:=M130b.s0) (λk=>⟨i,0,k,pn N i.toNat,((pn N i.toNat).length:Int),(k:Int),N,A,[],C,0,N.length,N.length,ln,lp,md,l1,l2,val,ot,nets,(rds (fltb ln lp val) N nets i).take k⟩) (y:=⟨0,(pn N i.toNat).length,N,A,[],C,0,N.length,N.length,ln,lp,md,l1,l2,val,ot,nets,rds (fltb ln lp val) N nets i⟩) (pn N i.toNat).length (λk hk=>by
  have c1:=ilt (a:=(k:Int)) (b:=((pn N i.toNat).length:Int)) (by omega);have ha:=hp.2 _ (AH hk);have hlt:(pn N i.toNat)[k].toNat<nets.length:=(by obtain⟨q1,q2⟩:=ha;omega);have hr:k<(rds (fltb ln lp val) N nets i).length:=(by rw[rds_len];exact hk);have hrk:(rds (fltb ln lp val) N nets i).take (k+1)=(rds (fltb ln lp val) N nets i).take k++[(fltb ln lp val).rd i (k:Int) (nets[(pn N i.toNat)[k].toNat]?.getD 0)]:=(by rw[take_succ' hr];congr 2;rw[rds_at hr hk];rfl);unfold M130b.s0;simp only[c1,inR_nat hk,A5,getD_at hk,inR_int ha,AI,dlt hlt,eqN_of rfl,eqN_of (show((rds (fltb ln lp val) N nets i).take k).length=k by rw[Ar];omega),room (n:=k+1) (b:=1) (by omega) (by omega),AG,suc (i:=k) (by omega),hrk];by_cases e:(i=ln/\(k:Int)=lp)
  ·have g:(bif i==ln then (k:Int)==lp else false)=true:=(by rw[e.1,e.2];simp);have g2:(fltb ln lp val).rd i (k:Int) (nets[(pn N i.toNat)[k].toNat]?.getD 0)=val:=(by show(if _/\_ then _ else _)=_;rw[AF e]);unfold M152.m;simp only[g,A5,bindO,M128.m,g2,eqN_of rfl,eqN_of (show((rds (fltb ln lp val) N nets i).take k).length=k by rw[Ar];omega),room (n:=k+1) (b:=1) (by omega) (by omega),AG]
  ·have g:(bif i==ln then (k:Int)==lp else false)=false:=by
    by_cases e1:i=ln
    ·have:(k:Int)≠lp:=λe2=>e ⟨e1,e2⟩;rw[e1];simpa using this
    ·have:(i==ln)=false:=Ae.2 e1;rw[this];rfl
   have g2:(fltb ln lp val).rd i (k:Int) (nets[(pn N i.toNat)[k].toNat]?.getD 0)=nets[(pn N i.toNat)[k].toNat]?.getD 0:=(by show(if _/\_ then _ else _)=_;rw[AP e]);unfold M152.m;simp only[g,A7,bindO,g2,eqN_of rfl,eqN_of (show((rds (fltb ln lp val) N nets i).take k).length=k by rw[Ar];omega),room (n:=k+1) (b:=1) (by omega) (by omega),AG,A5]) (by
  have c1:=inlt (a:=((pn N i.toNat).length:Int)) (b:=((pn N i.toNat).length:Int)) (by omega);have:(rds (fltb ln lp val) N nets i).take (pn N i.toNat).length=rds (fltb ln lp val) N nets i:=AJ (by rw[rds_len];exact A6 _);unfold M130b.s0;simp only[c1,A7,this])
 rw[CJ]at key;have key':iter M130b.s0 { n:=i,out_lo:=0,out_len:=0,l:=pn N i.toNat,m:=((pn N i.toNat).length:Int),i:=0,nodes:=N,names:=A,mems:=[],outs:=C,nets_lo:=0,nets_len:=N.length,nets_cap:=N.length,ln:=ln,lp:=lp,model:=md,lnode:=l1,lpin:=l2,value:=val,other:=ot,xs:=nets,out:=[] }=_:=key;have hrl:(rds (fltb ln lp val) N nets i).length=(pn N i.toNat).length:=rds_len;unfold M130b.m;simp only[inR_int hi,A5,e5,key',bindO,AI,hrl,leB_of (A6 (pn N i.toNat).length),AG,AU];rw[AJ (by omega)]
theorem mevb(h:Ck N A C)(hF:V val){nets:List Int}(hl:nets.length=N.length)(hv:AllV nets){i:Int}(hi:In N.length i):
  M129b.m ⟨i,N,A,[],C,0,N.length,N.length,ln,lp,md,l1,l2,val,ot,nets⟩=some (ev (kd N i) (rds (fltb ln lp val) N nets i),N,A,[],C,0,N.length,N.length,ln,lp,md,l1,l2,val,ot,nets):=by
 have hk:=h.kind hi;have hp:=h.pins hi;have e6:(N[i.toNat]?.getD (0,[],0,0)).1=kd N i:=rfl;have hev:=(ev_ok (k:=kd N i) (l:=rds (fltb ln lp val) N nets i) hk.1 (by omega) (by rw[rds_len];have:=hp.1;omega) (rds_V (fltb_ok hF) hv)).1;unfold M129b.m;simp only[inR_int hi,A5,mrdb h hl hi,bindO,e6,hev]
theorem m90b_2(h:Ck N A C)(hF:V val){o:List Int}(ho:Ord N o){b inn st sts:List Int}(hb:b.length=N.length)(hv:AllV b):
  iter M90b.s2 ⟨sts,o,(o.length:Int),0,N,A,[],C,0,N.length,N.length,ln,lp,md,l1,l2,val,ot,inn,st,b⟩=some ⟨sts,N,A,[],C,0,N.length,N.length,ln,lp,md,l1,l2,val,ot,inn,st,sim (fltb ln lp val) N o b⟩:=by
 have hN:=h.few;have hlo:=ho.len;have key:=iter_count (step:=M90b.s2) (λi=>⟨sts,o,(o.length:Int),(i:Int),N,A,[],C,0,N.length,N.length,ln,lp,md,l1,l2,val,ot,inn,st,sim (fltb ln lp val) N (o.take i) b⟩) (y:=⟨sts,N,A,[],C,0,N.length,N.length,ln,lp,md,l1,l2,val,ot,inn,st,sim (fltb ln lp val) N o b⟩) o.length (λi hlt=>by
  have c1:=ilt (a:=(i:Int)) (b:=(o.length:Int)) (by omega);have hr:=ho.rng hlt;have hk:=h.kind hr;have hs:=sim_snoc (N:=N) (F:=fltb ln lp val) (b:=b) hlt;have hsl:(sim (fltb ln lp val) N (o.take i) b).length=N.length:=(by rw[sim_len,hb]);have hsv:AllV (sim (fltb ln lp val) N (o.take i) b):=sim_V h (fltb_ok hF) (λa ha=>by
   obtain⟨k,hk,e⟩:=Bg (CX ha);rw[<-e];exact ho.rng hk) hv
  have e6:(N[o[i].toNat]?.getD (0,[],0,0)).1=kd N o[i]:=rfl;have hc:(bif kd N o[i] !=0 then kd N o[i] !=14 else false)=cm N o[i].toNat:=by
   show _=isC (kd N o[i]);unfold isC;by_cases h0:kd N o[i]=0
   ·rw[h0];rfl
   ·by_cases h14:kd N o[i]=14
    ·rw[h14];rfl
    ·have g1:(kd N o[i] !=0)=true:=(by simpa using h0);have g2:(kd N o[i] !=14)=true:=(by simpa using h14);have g3:decide (kd N o[i]>=1)=true:=AB (by omega);have g4:decide (kd N o[i]<=13)=true:=AB (by omega);rw[g1,g2,g3,g4]
  have hlt2:o[i].toNat<(sim (fltb ln lp val) N (o.take i) b).length:=(by rw[hsl];obtain⟨q1,q2⟩:=hr;omega);unfold M90b.s2;simp only[c1,inR_nat hlt,A5,getD_at hlt,inR_int hr,e6,hc,suc (i:=i) (by omega)];have hst:∀nets:List Int,nxt (fltb ln lp val) N (sim (fltb ln lp val) N (o.take i) b) o[i]=nets->nets.set o[i].toNat ((fltb ln lp val).nt o[i] (nets[o[i].toNat]?.getD 0))=sim (fltb ln lp val) N (o.take (i+1)) b:=λnets e=>by rw[hs];unfold stp;rw[e];rfl
  cases hcm:cm N o[i].toNat with
  |true=>have hn:nxt (fltb ln lp val) N (sim (fltb ln lp val) N (o.take i) b) o[i]=(sim (fltb ln lp val) N (o.take i) b).set o[i].toNat (ev (kd N o[i]) (rds (fltb ln lp val) N (sim (fltb ln lp val) N (o.take i) b) o[i])):=(by unfold nxt;rw[AF hcm]);have hst:=hst _ hn;have hlt3:o[i].toNat<((sim (fltb ln lp val) N (o.take i) b).set o[i].toNat (ev (kd N o[i]) (rds (fltb ln lp val) N (sim (fltb ln lp val) N (o.take i) b) o[i]))).length:=(by rw[BY];exact hlt2);simp only[A5,mevb h hF hsl hsv hr,bindO,AI,dlt hlt2,dlt hlt3];rw[<-hst];rfl
  |false=>
   have hn:nxt (fltb ln lp val) N (sim (fltb ln lp val) N (o.take i) b) o[i]=sim (fltb ln lp val) N (o.take i) b:=(by unfold nxt;rw[AP (by rw[hcm];simp)]);have hst:=hst _ hn;simp only[A7,AI,dlt hlt2,A5];rw[<-hst];rfl) (by
  have c1:=inlt (a:=(o.length:Int)) (b:=(o.length:Int)) (by omega);unfold M90b.s2;simp only[c1,A7,Ak])
 rw[CJ]at key;exact key
theorem m90b(h:Ck N A C)(hF:V val){o:List Int}(ho:Ord N o)(h40:M40.m ⟨N,A,[],C⟩=some (o,0)){inn st:List Int}(hp:Pat N inn st):
  M90b.m ⟨inn,st,N,A,[],C,ln,lp,md,l1,l2,val,ot⟩=some (outsV C (sim (fltb ln lp val) N o (base N inn st)),nexts (fltb ln lp val) N (sim (fltb ln lp val) N o (base N inn st)),N,A,[],C,0,N.length,N.length,ln,lp,md,l1,l2,val,ot,sim (fltb ln lp val) N o (base N inn st)):=by
 have hN:=h.few;have hC:=h.fewC;have lK:(ofK N 14).length<=N.length:=ofN_len;have lI:(ofK N 0).length<=N.length:=ofN_len;have hbV:=base_V (N:=N) hp.vi hp.vs;have hbl:=base_len (N:=N) (inn:=inn) (st:=st);have k0:=iter_count (step:=M90b.s0) (λi=>⟨ofK N 14,ofK N 0,((ofK N 0).length:Int),(i:Int),N,A,[],C,0,N.length,N.length,ln,lp,md,l1,l2,val,ot,inn,st,puts (ofK N 0) inn i (List.replicate N.length 0)⟩) (y:=⟨ofK N 14,N,A,[],C,0,N.length,N.length,ln,lp,md,l1,l2,val,ot,inn,st,puts (ofK N 0) inn (ofK N 0).length (List.replicate N.length 0)⟩) (ofK N 0).length (λi hi=>by
  have c1:=ilt (a:=(i:Int)) (b:=((ofK N 0).length:Int)) (by omega);have hr:=(ofK_at hi).1;have hii:i<inn.length:=(by rw[hp.li];exact hi);have hlt:(ofK N 0)[i].toNat<(puts (ofK N 0) inn i (List.replicate N.length 0)).length:=(by rw[puts_len,BR];obtain⟨q1,q2⟩:=hr;omega);unfold M90b.s0;simp only[c1,inR_nat hi,inR_nat hii,A5,getD_at hi,getD_at hii,inR_int hr,AI,dlt hlt,suc (i:=i) (by omega),puts_succ hi hii]) (by
  have c1:=inlt (a:=((ofK N 0).length:Int)) (b:=((ofK N 0).length:Int)) (by omega);unfold M90b.s0;simp only[c1,A7])
 have k1:=iter_count (step:=M90b.s1) (λi=>⟨ofK N 14,ofK N 14,((ofK N 14).length:Int),(i:Int),N,A,[],C,0,N.length,N.length,ln,lp,md,l1,l2,val,ot,inn,st,puts (ofK N 14) st i (puts (ofK N 0) inn (ofK N 0).length (List.replicate N.length 0))⟩) (y:=⟨ofK N 14,N,A,[],C,0,N.length,N.length,ln,lp,md,l1,l2,val,ot,inn,st,base N inn st⟩) (ofK N 14).length (λi hi=>by
  have c1:=ilt (a:=(i:Int)) (b:=((ofK N 14).length:Int)) (by omega);have hr:=(ofK_at hi).1;have hii:i<st.length:=(by rw[hp.ls];exact hi);have hlt:(ofK N 14)[i].toNat<(puts (ofK N 14) st i (puts (ofK N 0) inn (ofK N 0).length (List.replicate N.length 0))).length:=(by rw[puts_len,puts_len,BR];obtain⟨q1,q2⟩:=hr;omega);unfold M90b.s1;simp only[c1,inR_nat hi,inR_nat hii,A5,getD_at hi,getD_at hii,inR_int hr,AI,dlt hlt,suc (i:=i) (by omega),puts_succ hi hii]) (by
  have c1:=inlt (a:=((ofK N 14).length:Int)) (b:=((ofK N 14).length:Int)) (by omega);unfold M90b.s1;simp only[c1,A7];rfl)
 have k2:=m90b_2 (md:=md) (l1:=l1) (l2:=l2) (ot:=ot) (ln:=ln) (lp:=lp) h hF ho (inn:=inn) (st:=st) (sts:=ofK N 14) hbl hbV;have hnl:(sim (fltb ln lp val) N o (base N inn st)).length=N.length:=by rw[sim_len,hbl]
 have hnv:AllV (sim (fltb ln lp val) N o (base N inn st)):=sim_V h (fltb_ok hF) (λa ha=>by
  obtain⟨k,hk,e⟩:=Bg ha;rw[<-e];exact ho.rng hk) hbV
 revert k2 hnl hnv;generalize sim (fltb ln lp val) N o (base N inn st)=nets;intro k2 hnl hnv;have k3:=iter_count (step:=M90b.s3) (λi=>⟨ofK N 14,C,(C.length:Int),(i:Int),N,A,[],C,0,N.length,N.length,ln,lp,md,l1,l2,val,ot,inn,st,nets,0,i,(C.take i).map (ky nets)⟩) (y:=⟨ofK N 14,N,A,[],C,0,N.length,N.length,ln,lp,md,l1,l2,val,ot,inn,st,nets,outsV C nets⟩) C.length (λi hi=>by
  have c1:=ilt (a:=(i:Int)) (b:=(C.length:Int)) (by omega);have hr:In N.length C[i]:=h.outs _ (AH hi);have hlt:C[i].toNat<nets.length:=(by rw[hnl];obtain⟨q1,q2⟩:=hr;omega);have e:nets[C[i].toNat]?.getD 0=ky nets C[i]:=rfl;unfold M90b.s3;simp only[c1,inR_nat hi,A5,getD_at hi,inR_int hr,AI,dlt hlt,e,eqN_of rfl,eqN_of (show((C.take i).map (ky nets)).length=i by simp;omega),room (n:=i+1) (b:=1) (by omega) (by omega),AG,suc (i:=i) (by omega),map_snoc hi]) (by
  have c1:=inlt (a:=(C.length:Int)) (b:=(C.length:Int)) (by omega);unfold M90b.s3;simp only[c1,A7,AI,Ak,AA,leB_of (A6 _),AG,A5,AU];rw[AJ (by simp)];rfl)
 have k4:=iter_count (step:=M90b.s4) (λi=>⟨ofK N 14,((ofK N 14).length:Int),(i:Int),N,A,[],C,0,N.length,N.length,ln,lp,md,l1,l2,val,ot,inn,st,nets,outsV C nets,0,i,((ofK N 14).take i).map λi=>rdv ((fltb ln lp val).rd i 0 (ky nets (pin0 N i)))⟩) (y:=⟨N,A,[],C,0,N.length,N.length,ln,lp,md,l1,l2,val,ot,inn,st,nets,outsV C nets,nexts (fltb ln lp val) N nets⟩) (ofK N 14).length (λi hi=>by
  have c1:=ilt (a:=(i:Int)) (b:=((ofK N 14).length:Int)) (by omega);obtain⟨hr,hk⟩:=ofK_at hi;have hd:=h.dff hr hk;have h0:0<(rds (fltb ln lp val) N nets (ofK N 14)[i]).length:=(by rw[rds_len];omega);have e0:(rds (fltb ln lp val) N nets (ofK N 14)[i])[0]?.getD 0=(fltb ln lp val).rd (ofK N 14)[i] 0 (ky nets (pin0 N (ofK N 14)[i])):=(by have h0':0<(pn N (ofK N 14)[i].toNat).length:=(by omega);rw[A4 h0,BC,rds_at h0 h0'];unfold pin0;rw[A4 h0'];rfl);have hV:=(fltb_ok (ln:=ln) (lp:=lp) hF).rd (ofK N 14)[i] 0 _ (allV_ky hnv (pin0 N (ofK N 14)[i]));have e1:(bif (fltb ln lp val).rd (ofK N 14)[i] 0 (ky nets (pin0 N (ofK N 14)[i]))==3 then 2 else (fltb ln lp val).rd (ofK N 14)[i] 0 (ky nets (pin0 N (ofK N 14)[i])))=rdv ((fltb ln lp val).rd (ofK N 14)[i] 0 (ky nets (pin0 N (ofK N 14)[i]))):=by
   revert hV;generalize (fltb ln lp val).rd (ofK N 14)[i] 0 (ky nets (pin0 N (ofK N 14)[i]))=w;intro hV;obtain⟨v1,v2⟩:=hV;unfold rdv;by_cases e3:w=3
   ·subst e3;rfl
   ·have g:(w==3)=false:=Ae.2 e3;rw[g,A7,AP (by omega)]
  have c3:inR 0 (rds (fltb ln lp val) N nets (ofK N 14)[i]).length=true:=inR_nat h0;unfold M90b.s4;simp only[c1,inR_nat hi,A5,getD_at hi,mrdb h hnl hr,bindO,c3,e0,e1,eqN_of rfl,eqN_of (show(((ofK N 14).take i).map λi=>rdv ((fltb ln lp val).rd i 0 (ky nets (pin0 N i)))).length=i by simp;omega),room (n:=i+1) (b:=1) (by omega) (by omega),AG,suc (i:=i) (by omega),map_snoc (f:=λi=>rdv ((fltb ln lp val).rd i 0 (ky nets (pin0 N i)))) hi]) (by
  have c1:=inlt (a:=((ofK N 14).length:Int)) (b:=((ofK N 14).length:Int)) (by omega);unfold M90b.s4;simp only[c1,A7,AI,Ak,AA,leB_of (A6 _),AG,A5,AU];rw[AJ (by simp)];rfl)
 have k0':iter M90b.s0 { sts:=ofK N 14,l:=ofK N 0,n:=((ofK N 0).length:Int),i:=0,nodes:=N,names:=A,mems:=[],outs:=C,nets_lo:=0,nets_len:=N.length,nets_cap:=N.length,ln:=ln,lp:=lp,model:=md,lnode:=l1,lpin:=l2,value:=val,other:=ot,inn:=inn,state:=st,xs:=List.replicate N.length 0 }=_:=k0;have k1':iter M90b.s1 { sts:=ofK N 14,l:=ofK N 14,n:=((ofK N 14).length:Int),i:=0,nodes:=N,names:=A,mems:=[],outs:=C,nets_lo:=0,nets_len:=N.length,nets_cap:=N.length,ln:=ln,lp:=lp,model:=md,lnode:=l1,lpin:=l2,value:=val,other:=ot,inn:=inn,state:=st,xs:=puts (ofK N 0) inn (ofK N 0).length (List.replicate N.length 0) }=_:=k1;have k3':iter M90b.s3 { sts:=ofK N 14,l:=C,n:=(C.length:Int),i:=0,nodes:=N,names:=A,mems:=[],outs:=C,nets_lo:=0,nets_len:=N.length,nets_cap:=N.length,ln:=ln,lp:=lp,model:=md,lnode:=l1,lpin:=l2,value:=val,other:=ot,inn:=inn,state:=st,xs:=nets,oa_lo:=0,oa_len:=0,oxs:=[] }=_:=k3;have k4':iter M90b.s4 { l:=ofK N 14,n:=((ofK N 14).length:Int),i:=0,nodes:=N,names:=A,mems:=[],outs:=C,nets_lo:=0,nets_len:=N.length,nets_cap:=N.length,ln:=ln,lp:=lp,model:=md,lnode:=l1,lpin:=l2,value:=val,other:=ot,inn:=inn,state:=st,xs:=nets,oa:=outsV C nets,ob_lo:=0,ob_len:=0,oxs:=[] }=_:=k4;unfold M90b.m;have c1:decide (0<=(N.length:Int))=true:=AB (by omega);have c2:decide ((N.length:Int)<=(N.length:Int))=true:=AB (by omega);have c3:decide ((N.length:Int)*1<=281474976710656)=true:=AB (by omega);have c4:decide ((N.length:Int)<=9223372036854775807)=true:=AB (by omega);simp only[c1,c2,c3,c4,AG,A5,m36 h,m75 h,bindO,AC,k0',k1',h40,k2,k3',k4',m88 (l:=outsV C nets) (by simp[outsV];omega),m88 (l:=nexts (fltb ln lp val) N nets) (by simp[nexts];omega)]
end
end Co
namespace M55
structure gX where(nodes:List ((Int)×(List (Int))×(Int)×Int))(names:List (List UInt8))(mems:List ((List (Int))×(List (Int))×Int))(outs:List (Int))
def g:Sg gX:=⟨[.agg [.arr (.pair (.int .u8) (.pair (.sl (.int .i64)) (.pair (.int .i64) (.int .i64)))),.arr .str,.arr (.pair (.sl (.int .i64)) (.pair (.sl (.int .i64)) (.int .i64))),.arr (.int .i64)]],[],λa b=>⟨a.1.1,a.1.2.1,a.1.2.2.1,a.1.2.2.2.1⟩,λx=>((x.nodes,(x.names,(x.mems,(x.outs,())))),()),λx=>()⟩
abbrev fY:=Int
def f:Ft fY:=⟨none,.c (.it .i64),[],λa b=>(a),λy=>y,λy=>()⟩
def cl:List (FuncId×Con):=[(98,M98.con)]
theorem cl_ok:Q8 Tryz.prog cl:=⟨M98.con_ok,trivial⟩
def E0:Env:=⟨ty,QE cl,λ_=>none,none⟩
def m(x:gX):Option fY:=bindO (M98.m ⟨x.nodes,x.names,x.mems,x.outs⟩) λy=>bif y !=0 then some y else bif decide ((↑x.mems.length:Int)>0) then some 7 else some 0
theorem m_eq(x:gX):exec E0 13 C55 0 (QD 0 (g.A x)) (g.H x) (finish 0 ty [.tmp 2] f)=m x:=by kernel_rfl
theorem tl:QA C55 0=[]:=by kernel_rfl
theorem known:QB Tryz.prog 55 g f m:=
 Q5 mixed (Q4 ty_ok cl_ok _) s55 rfl rfl tl Q7.nil (λ_ _=>⟨rfl,rfl⟩) (λ_ _=>⟨rfl,rfl⟩) m_eq
def con:Con:=Qa g f m default
theorem con_ok:QC Tryz.prog 55 con:=Q9 known (λ_=>rfl) rfl
end M55
namespace M101
structure gX where(nodes:List ((Int)×(List (Int))×(Int)×Int))(names:List (List UInt8))(mems:List ((List (Int))×(List (Int))×Int))(outs:List (Int))(ln lp:Int)
def g:Sg gX:=⟨[.agg [.arr (.pair (.int .u8) (.pair (.sl (.int .i64)) (.pair (.int .i64) (.int .i64)))),.arr .str,.arr (.pair (.sl (.int .i64)) (.pair (.sl (.int .i64)) (.int .i64))),.arr (.int .i64)],.agg [.it .i64,.it .i64]],[],λa b=>⟨a.1.1,a.1.2.1,a.1.2.2.1,a.1.2.2.2.1,a.2.1.1,a.2.1.2.1⟩,λx=>((x.nodes,(x.names,(x.mems,(x.outs,())))),((x.ln,(x.lp,())),())),λx=>()⟩
abbrev fY:=Bool
def f:Ft fY:=⟨none,.c (.bo),[],λa b=>(a),λy=>y,λy=>()⟩
def cl:List (FuncId×Con):=[]
theorem cl_ok:Q8 Tryz.prog cl:=trivial
def E0:Env:=⟨ty,QE cl,λ_=>none,none⟩
def m(x:gX):Option fY:=bif inR x.ln x.nodes.length||!bif bif decide (x.ln>=0) then decide (x.ln<(↑x.nodes.length:Int)) else false then decide (x.lp>= -1) else false then some (bif bif bif decide (x.ln>=0) then decide (x.ln<(↑x.nodes.length:Int)) else false then decide (x.lp>= -1) else false then decide (x.lp<(↑(List.length (x.nodes[x.ln.toNat]?.getD (0,[],0,0)).2.1):Int)) else false) else none
theorem m_eq(x:gX):exec E0 34 C101 0 (QD 0 (g.A x)) (g.H x) (finish 0 ty [.tmp 4] f)=m x:=by kernel_rfl
theorem tl:QA C101 0=[]:=by kernel_rfl
theorem known:QB Tryz.prog 101 g f m:=
 Q5 mixed (Q4 ty_ok cl_ok _) s101 rfl rfl tl Q7.nil (λ_ _=>⟨rfl,rfl⟩) (λ_ _=>⟨rfl,rfl⟩) m_eq
def con:Con:=Qa g f m default
theorem con_ok:QC Tryz.prog 101 con:=Q9 known (λ_=>rfl) rfl
end M101
namespace M59
structure gX where(nodes:List ((Int)×(List (Int))×(Int)×Int))(names:List (List UInt8))(mems:List ((List (Int))×(List (Int))×Int))(outs:List (Int))(model lnode lpin value other:Int)
def g:Sg gX:=⟨[.agg [.arr (.pair (.int .u8) (.pair (.sl (.int .i64)) (.pair (.int .i64) (.int .i64)))),.arr .str,.arr (.pair (.sl (.int .i64)) (.pair (.sl (.int .i64)) (.int .i64))),.arr (.int .i64)],.agg [.it .u8,.it .i64,.it .i64,.it .u8,.it .i64]],[],λa b=>⟨a.1.1,a.1.2.1,a.1.2.2.1,a.1.2.2.2.1,a.2.1.1,a.2.1.2.1,a.2.1.2.2.1,a.2.1.2.2.2.1,a.2.1.2.2.2.2.1⟩,λx=>((x.nodes,(x.names,(x.mems,(x.outs,())))),((x.model,(x.lnode,(x.lpin,(x.value,(x.other,()))))),())),λx=>()⟩
abbrev fY:=Int
def f:Ft fY:=⟨none,.c (.it .i64),[],λa b=>(a),λy=>y,λy=>()⟩
def cl:List (FuncId×Con):=[(55,M55.con),(101,M101.con)]
theorem cl_ok:Q8 Tryz.prog cl:=⟨M55.con_ok,M101.con_ok,trivial⟩
def E0:Env:=⟨ty,QE cl,λ_=>none,none⟩
def m(x:gX):Option fY:=bindO (M55.m ⟨x.nodes,x.names,x.mems,x.outs⟩) λy=>bif y !=0 then some y else bindO (bif !bif decide (x.model>3) then true else decide (x.value>1) then M101.m ⟨x.nodes,x.names,x.mems,x.outs,x.lnode,x.lpin⟩ else some false) λy=>bif bif bif decide (x.model>3) then true else decide (x.value>1) then true else !y then some 1 else bif decide (x.model>=2) then none else bif x.other !=0 then some 1 else some 0
theorem m_eq(x:gX):exec E0 38 C59 0 (QD 0 (g.A x)) (g.H x) (finish 0 ty [.tmp 4] f)=m x:=by kernel_rfl
theorem tl:QA C59 0=[]:=by kernel_rfl
theorem known:QB Tryz.prog 59 g f m:=
 Q5 mixed (Q4 ty_ok cl_ok _) s59 rfl rfl tl Q7.nil (λ_ _=>⟨rfl,rfl⟩) (λ_ _=>⟨rfl,rfl⟩) m_eq
def con:Con:=Qa g f m default
theorem con_ok:QC Tryz.prog 59 con:=Q9 known (λ_=>rfl) rfl
end M59
namespace M46a
structure gX where(nodes:List ((Int)×(List (Int))×(Int)×Int))(names:List (List UInt8))(mems:List ((List (Int))×(List (Int))×Int))(outs:List (Int))(model lnode lpin value other:Int)(inn state:List (Int))
def g:Sg gX:=⟨[.agg [.arr (.pair (.int .u8) (.pair (.sl (.int .i64)) (.pair (.int .i64) (.int .i64)))),.arr .str,.arr (.pair (.sl (.int .i64)) (.pair (.sl (.int .i64)) (.int .i64))),.arr (.int .i64)],.agg [.it .u8,.it .i64,.it .i64,.it .u8,.it .i64],.agg [.arr (.int .u8),.arr (.int .u8)]],[],λa b=>⟨a.1.1,a.1.2.1,a.1.2.2.1,a.1.2.2.2.1,a.2.1.1,a.2.1.2.1,a.2.1.2.2.1,a.2.1.2.2.2.1,a.2.1.2.2.2.2.1,a.2.2.1.1,a.2.2.1.2.1⟩,λx=>((x.nodes,(x.names,(x.mems,(x.outs,())))),((x.model,(x.lnode,(x.lpin,(x.value,(x.other,()))))),((x.inn,(x.state,())),()))),λx=>()⟩
abbrev fY:=List (Int)×List (Int)×List (Int)×List (Int)×List (Int)×Int
def f:Ft fY:=⟨none,.tup [.inr [.arr (.int .u8),.arr (.int .u8)],.inr [.arr (.int .u8),.arr (.int .u8)],.inl (.arr (.int .u8)),.inl (.it .i64)],[],λa b=>(a.1.1,a.1.2.1,a.2.1.1,a.2.1.2.1,a.2.2.1,a.2.2.2.1),λy=>((y.1,(y.2.1,())),((y.2.2.1,(y.2.2.2.1,())),(y.2.2.2.2.1,(y.2.2.2.2.2,())))),λy=>()⟩
def cl:List (FuncId×Con):=[(59,M59.con),(15,M15.con),(89,M89a.con),(90,M90a.con)]
theorem cl_ok:Q8 Tryz.prog cl:=⟨M59.con_ok,M15.con_ok,M89a.con_ok,M90a.con_ok,trivial⟩
def E0:Env:=⟨ty,QE cl,λ_=>none,none⟩
def m(x:gX):Option fY:=bindO (M59.m ⟨x.nodes,x.names,x.mems,x.outs,x.model,x.lnode,x.lpin,x.value,x.other⟩) λy=>bif y !=0 then some ([],[],[],[],[],y) else bif x.model==1 then some ([],[],[],[],[],7) else bindO (M15.m ⟨x.nodes,x.names,x.mems,x.outs,x.inn,x.state⟩) λy=>bif y.2.2.2 !=0 then some ([],[],[],[],[],y.2.2.2) else bindO (M89a.m ⟨x.nodes,x.names,x.mems,x.outs,x.model,x.lnode,x.lpin,x.value,x.other,y.2.2.1⟩) λy_1=>bindO (M90a.m ⟨x.inn,x.state,y_1.2.2.2.2.2.2.2.1,y_1.2.2.2.2.2.2.2.2.1,y_1.2.2.2.2.2.2.2.2.2.1,y_1.2.2.2.2.2.2.2.2.2.2,y_1.2.2.2.2.2.1,y_1.2.2.2.2.2.2.1,y_1.1,y_1.2.1,y_1.2.2.1,y_1.2.2.2.1,y_1.2.2.2.2.1⟩) λy_2=>bif leB (y_2.2.2.2.2.2.2.1+y_2.2.2.2.2.2.2.2.1) y_2.2.2.2.2.2.2.2.2.2.2.2.2.2.2.2.2.length&&true&&true&&true then some (y.1,y.2.1,y_2.1,y_2.2.1,List.take y_2.2.2.2.2.2.2.2.1 (List.drop y_2.2.2.2.2.2.2.1 y_2.2.2.2.2.2.2.2.2.2.2.2.2.2.2.2.2),0) else none
theorem m_eq(x:gX):exec E0 50 C46 0 (QD 0 (g.A x)) (g.H x) (finish 0 ty [.cell 6 77,.cell 7 77,.tmp 8,.tmp 9] f)=m x:=by kernel_rfl
theorem tl:QA C46 0=[]:=by kernel_rfl
theorem known:QB Tryz.prog 46 g f m:=
 Q5 mixed (Q4 ty_ok cl_ok _) s46 rfl rfl tl Q7.nil (λ_ _=>⟨rfl,rfl⟩) (λ_ _=>⟨rfl,rfl⟩) m_eq
end M46a
namespace M46b
structure gX where(nodes:List ((Int)×(List (Int))×(Int)×Int))(names:List (List UInt8))(mems:List ((List (Int))×(List (Int))×Int))(outs:List (Int))(model lnode lpin value other:Int)(inn state:List (Int))
def g:Sg gX:=⟨[.agg [.arr (.pair (.int .u8) (.pair (.sl (.int .i64)) (.pair (.int .i64) (.int .i64)))),.arr .str,.arr (.pair (.sl (.int .i64)) (.pair (.sl (.int .i64)) (.int .i64))),.arr (.int .i64)],.agg [.it .u8,.it .i64,.it .i64,.it .u8,.it .i64],.agg [.arr (.int .u8),.arr (.int .u8)]],[],λa b=>⟨a.1.1,a.1.2.1,a.1.2.2.1,a.1.2.2.2.1,a.2.1.1,a.2.1.2.1,a.2.1.2.2.1,a.2.1.2.2.2.1,a.2.1.2.2.2.2.1,a.2.2.1.1,a.2.2.1.2.1⟩,λx=>((x.nodes,(x.names,(x.mems,(x.outs,())))),((x.model,(x.lnode,(x.lpin,(x.value,(x.other,()))))),((x.inn,(x.state,())),()))),λx=>()⟩
abbrev fY:=List (Int)×List (Int)×List (Int)×List (Int)×List (Int)×Int
def f:Ft fY:=⟨none,.tup [.inr [.arr (.int .u8),.arr (.int .u8)],.inr [.arr (.int .u8),.arr (.int .u8)],.inl (.arr (.int .u8)),.inl (.it .i64)],[],λa b=>(a.1.1,a.1.2.1,a.2.1.1,a.2.1.2.1,a.2.2.1,a.2.2.2.1),λy=>((y.1,(y.2.1,())),((y.2.2.1,(y.2.2.2.1,())),(y.2.2.2.2.1,(y.2.2.2.2.2,())))),λy=>()⟩
def cl:List (FuncId×Con):=[(59,M59.con),(15,M15.con),(89,M89b.con),(90,M90b.con)]
theorem cl_ok:Q8 Tryz.prog cl:=⟨M59.con_ok,M15.con_ok,M89b.con_ok,M90b.con_ok,trivial⟩
def E0:Env:=⟨ty,QE cl,λ_=>none,none⟩
def m(x:gX):Option fY:=bindO (M59.m ⟨x.nodes,x.names,x.mems,x.outs,x.model,x.lnode,x.lpin,x.value,x.other⟩) λy=>bif y !=0 then some ([],[],[],[],[],y) else bif x.model==1 then some ([],[],[],[],[],7) else bindO (M15.m ⟨x.nodes,x.names,x.mems,x.outs,x.inn,x.state⟩) λy=>bif y.2.2.2 !=0 then some ([],[],[],[],[],y.2.2.2) else bindO (M89b.m ⟨x.nodes,x.names,x.mems,x.outs,x.model,x.lnode,x.lpin,x.value,x.other,y.2.2.1⟩) λy_1=>bindO (M90b.m ⟨x.inn,x.state,y_1.2.2.2.2.2.2.2.1,y_1.2.2.2.2.2.2.2.2.1,y_1.2.2.2.2.2.2.2.2.2.1,y_1.2.2.2.2.2.2.2.2.2.2,y_1.2.2.2.2.2.1,y_1.2.2.2.2.2.2.1,y_1.1,y_1.2.1,y_1.2.2.1,y_1.2.2.2.1,y_1.2.2.2.2.1⟩) λy_2=>bif leB (y_2.2.2.2.2.2.2.1+y_2.2.2.2.2.2.2.2.1) y_2.2.2.2.2.2.2.2.2.2.2.2.2.2.2.2.2.length&&true&&true&&true then some (y.1,y.2.1,y_2.1,y_2.2.1,List.take y_2.2.2.2.2.2.2.2.1 (List.drop y_2.2.2.2.2.2.2.1 y_2.2.2.2.2.2.2.2.2.2.2.2.2.2.2.2.2),0) else none
theorem m_eq(x:gX):exec E0 50 C46 0 (QD 0 (g.A x)) (g.H x) (finish 0 ty [.cell 6 77,.cell 7 77,.tmp 8,.tmp 9] f)=m x:=by kernel_rfl
theorem tl:QA C46 0=[]:=by kernel_rfl
theorem known:QB Tryz.prog 46 g f m:=
 Q5 mixed (Q4 ty_ok cl_ok _) s46 rfl rfl tl Q7.nil (λ_ _=>⟨rfl,rfl⟩) (λ_ _=>⟨rfl,rfl⟩) m_eq
end M46b
namespace M46
structure gX where(nodes:List ((Int)×(List (Int))×(Int)×Int))(names:List (List UInt8))(mems:List ((List (Int))×(List (Int))×Int))(outs:List (Int))(model lnode lpin value other:Int)(inn state:List (Int))
def g:Sg gX:=⟨[.agg [.arr (.pair (.int .u8) (.pair (.sl (.int .i64)) (.pair (.int .i64) (.int .i64)))),.arr .str,.arr (.pair (.sl (.int .i64)) (.pair (.sl (.int .i64)) (.int .i64))),.arr (.int .i64)],.agg [.it .u8,.it .i64,.it .i64,.it .u8,.it .i64],.agg [.arr (.int .u8),.arr (.int .u8)]],[],λa b=>⟨a.1.1,a.1.2.1,a.1.2.2.1,a.1.2.2.2.1,a.2.1.1,a.2.1.2.1,a.2.1.2.2.1,a.2.1.2.2.2.1,a.2.1.2.2.2.2.1,a.2.2.1.1,a.2.2.1.2.1⟩,λx=>((x.nodes,(x.names,(x.mems,(x.outs,())))),((x.model,(x.lnode,(x.lpin,(x.value,(x.other,()))))),((x.inn,(x.state,())),()))),λx=>()⟩
abbrev fY:=List (Int)×List (Int)×List (Int)×List (Int)×List (Int)×Int
def f:Ft fY:=⟨none,.tup [.inr [.arr (.int .u8),.arr (.int .u8)],.inr [.arr (.int .u8),.arr (.int .u8)],.inl (.arr (.int .u8)),.inl (.it .i64)],[],λa b=>(a.1.1,a.1.2.1,a.2.1.1,a.2.1.2.1,a.2.2.1,a.2.2.2.1),λy=>((y.1,(y.2.1,())),((y.2.2.1,(y.2.2.2.1,())),(y.2.2.2.2.1,(y.2.2.2.2.2,())))),λy=>()⟩
def ga(x:gX):M46a.gX:=⟨x.nodes,x.names,x.mems,x.outs,x.model,x.lnode,x.lpin,x.value,x.other,x.inn,x.state⟩
def gb(x:gX):M46b.gX:=⟨x.nodes,x.names,x.mems,x.outs,x.model,x.lnode,x.lpin,x.value,x.other,x.inn,x.state⟩
def m(x:gX):Option fY:=bif decide (x.lpin<0) then M46a.m (ga x) else M46b.m (gb x)
theorem known:QB Tryz.prog 46 g f m:=by
 refine⟨λ_ _=>⟨rfl,rfl⟩,by decide,λx y h=> ?_⟩;rcases cond_some h with ⟨_,h⟩|⟨_,h⟩
 ·exact M46a.known.ok (ga x) y h
 ·exact M46b.known.ok (gb x) y h
def con:Con:=Qa g f m default
theorem con_ok:QC Tryz.prog 46 con:=Q9 known (λ_=>rfl) rfl
end M46
namespace M16
structure gX where(nodes:List ((Int)×(List (Int))×(Int)×Int))(names:List (List UInt8))(mems:List ((List (Int))×(List (Int))×Int))(outs:List (Int))(model lnode lpin value other:Int)(inn state:List (Int))
def g:Sg gX:=⟨[.agg [.arr (.pair (.int .u8) (.pair (.sl (.int .i64)) (.pair (.int .i64) (.int .i64)))),.arr .str,.arr (.pair (.sl (.int .i64)) (.pair (.sl (.int .i64)) (.int .i64))),.arr (.int .i64)],.agg [.it .u8,.it .i64,.it .i64,.it .u8,.it .i64],.agg [.arr (.int .u8),.arr (.int .u8)]],[],λa b=>⟨a.1.1,a.1.2.1,a.1.2.2.1,a.1.2.2.2.1,a.2.1.1,a.2.1.2.1,a.2.1.2.2.1,a.2.1.2.2.2.1,a.2.1.2.2.2.2.1,a.2.2.1.1,a.2.2.1.2.1⟩,λx=>((x.nodes,(x.names,(x.mems,(x.outs,())))),((x.model,(x.lnode,(x.lpin,(x.value,(x.other,()))))),((x.inn,(x.state,())),()))),λx=>()⟩
abbrev fY:=List (Int)×List (Int)×List (Int)×Int
def f:Ft fY:=⟨none,.tup [.inr [.arr (.int .u8),.arr (.int .u8)],.inl (.arr (.int .u8)),.inl (.it .i64)],[],λa b=>(a.1.1,a.1.2.1,a.2.1,a.2.2.1),λy=>((y.1,(y.2.1,())),(y.2.2.1,(y.2.2.2,()))),λy=>()⟩
def cl:List (FuncId×Con):=[(46,M46.con)]
theorem cl_ok:Q8 Tryz.prog cl:=⟨M46.con_ok,trivial⟩
def E0:Env:=⟨ty,QE cl,λ_=>none,none⟩
def m(x:gX):Option fY:=bindO (M46.m ⟨x.nodes,x.names,x.mems,x.outs,x.model,x.lnode,x.lpin,x.value,x.other,x.inn,x.state⟩) λy=>some (y.2.2.1,y.2.2.2.1,y.2.2.2.2.1,y.2.2.2.2.2)
theorem m_eq(x:gX):exec E0 25 C16 0 (QD 0 (g.A x)) (g.H x) (finish 0 ty [.cell 6 77,.tmp 7,.tmp 8] f)=m x:=by kernel_rfl
theorem tl:QA C16 0=[]:=by kernel_rfl
theorem known:QB Tryz.prog 16 g f m:=
 Q5 mixed (Q4 ty_ok cl_ok _) s16 rfl rfl tl Q7.nil (λ_ _=>⟨rfl,rfl⟩) (λ_ _=>⟨rfl,rfl⟩) m_eq
def con:Con:=Qa g f m default
theorem con_ok:QC Tryz.prog 16 con:=Q9 known (λ_=>rfl) rfl
end M16
namespace M17
structure gX where(nodes:List ((Int)×(List (Int))×(Int)×Int))(names:List (List UInt8))(mems:List ((List (Int))×(List (Int))×Int))(outs:List (Int))(model lnode lpin value other:Int)(inn state:List (Int))
def g:Sg gX:=⟨[.agg [.arr (.pair (.int .u8) (.pair (.sl (.int .i64)) (.pair (.int .i64) (.int .i64)))),.arr .str,.arr (.pair (.sl (.int .i64)) (.pair (.sl (.int .i64)) (.int .i64))),.arr (.int .i64)],.agg [.it .u8,.it .i64,.it .i64,.it .u8,.it .i64],.agg [.arr (.int .u8),.arr (.int .u8)]],[],λa b=>⟨a.1.1,a.1.2.1,a.1.2.2.1,a.1.2.2.2.1,a.2.1.1,a.2.1.2.1,a.2.1.2.2.1,a.2.1.2.2.2.1,a.2.1.2.2.2.2.1,a.2.2.1.1,a.2.2.1.2.1⟩,λx=>((x.nodes,(x.names,(x.mems,(x.outs,())))),((x.model,(x.lnode,(x.lpin,(x.value,(x.other,()))))),((x.inn,(x.state,())),()))),λx=>()⟩
abbrev fY:=Bool×Int
def f:Ft fY:=⟨none,.tup [.inl (.bo),.inl (.it .i64)],[],λa b=>(a.1,a.2.1),λy=>(y.1,(y.2,())),λy=>()⟩
def cl:List (FuncId×Con):=[(46,M46.con),(47,M47.con)]
theorem cl_ok:Q8 Tryz.prog cl:=⟨M46.con_ok,M47.con_ok,trivial⟩
def E0:Env:=⟨ty,QE cl,λ_=>none,none⟩
def m(x:gX):Option fY:=bindO (M46.m ⟨x.nodes,x.names,x.mems,x.outs,x.model,x.lnode,x.lpin,x.value,x.other,x.inn,x.state⟩) λy=>bindO (M47.m ⟨y.1,y.2.1,y.2.2.1,y.2.2.2.1⟩) λy_1=>some (y_1,y.2.2.2.2.2)
theorem m_eq(x:gX):exec E0 25 C17 0 (QD 0 (g.A x)) (g.H x) (finish 0 ty [.tmp 6,.tmp 7] f)=m x:=by kernel_rfl
theorem tl:QA C17 0=[]:=by kernel_rfl
theorem known:QB Tryz.prog 17 g f m:=
 Q5 mixed (Q4 ty_ok cl_ok _) s17 rfl rfl tl Q7.nil (λ_ _=>⟨rfl,rfl⟩) (λ_ _=>⟨rfl,rfl⟩) m_eq
def con:Con:=Qa g f m default
theorem con_ok:QC Tryz.prog 17 con:=Q9 known (λ_=>rfl) rfl
end M17
namespace Co
def ctb(a b:List Int)(k:Int):Bool:=bif bif decide (ky a k<=1) then decide (ky b k<=1) else false then ky a k !=ky b k else false
def ctr(a b:List Int)(i:Nat):List Int:=(nums i).filter (ctb a b)
theorem ctr_len{a b:List Int}{i:Nat}:(ctr a b i).length<=i:=by have:=C7 (ctb a b) (nums i);rwa [nums_len]at this
theorem ctr_succ{a b:List Int}{i:Nat}:ctr a b (i+1)=if ctb a b (i:Int)=true then ctr a b i++[(i:Int)] else ctr a b i:=by
 unfold ctr;rw[nums_succ,C2]
 cases e:ctb a b (i:Int) with
 |true=>rw[Cg e];rfl
 |false=>rw[Ch (by rw[e];simp)];simp
theorem m108{a b:List Int}(hl:b.length=a.length)(hb:a.length<=100000):M108.m ⟨a,b⟩=some (ctr a b a.length):=by
 have key:=iter_count (step:=M108.s0) (λi=>⟨a,b,0,(ctr a b i).length,(a.length:Int),(i:Int),ctr a b i⟩) (y:=⟨0,(ctr a b a.length).length,ctr a b a.length⟩) a.length (λi hi=>by
  have c1:=ilt (a:=(i:Int)) (b:=(a.length:Int)) (by omega);have hl1:=ctr_len (a:=a) (b:=b) (i:=i);have g1:inR (i:Int) a.length=true:=inR_nat hi;have g2:inR (i:Int) b.length=true:=inR_nat (by omega);have e1:(bif bif decide (a[i]?.getD 0<=1) then decide (b[i]?.getD 0<=1) else false then a[i]?.getD 0 !=b[i]?.getD 0 else false)=ctb a b (i:Int):=rfl;unfold M108.s0;simp only[c1,g1,g2,Bool.true_or,A5,AC,e1,ctr_succ (a:=a) (b:=b) (i:=i),suc (i:=i) (by omega)]
  cases ctb a b (i:Int) with
  |true=>simp only[A5,eqN_of rfl,room (n:=(ctr a b i).length+1) (b:=8) (by omega) (by omega),AG,Ag,AL,Bi]
  |false=>simp only[A7];rfl) (by
  have c1:=inlt (a:=(a.length:Int)) (b:=(a.length:Int)) (by omega);unfold M108.s0;simp only[c1,A7])
 have hn:(if (b.length:Int)<(a.length:Int) then (b.length:Int) else (a.length:Int))=(a.length:Int):=AP (by omega);have key':iter M108.s0 { a:=a,b:=b,out_lo:=0,out_len:=0,n:=(a.length:Int),i:=0,xs:=[] }=_:=key;have hl1:=ctr_len (a:=a) (b:=b) (i:=a.length);unfold M108.m;simp only[hn,key',bindO,m34 (xs:=ctr a b a.length) (by omega),AI,leB_of (A6 _),AG,A5,AU,Ak]
def see(ao an bo bn:List Int):Bool:=decide (0<(ctr ao bo ao.length).length+(ctr an bn an.length).length)
theorem m47{ao an bo bn:List Int}(h1:bo.length=ao.length)(h2:bn.length=an.length)(b1:ao.length<=100000)(b2:an.length<=100000):M47.m ⟨ao,an,bo,bn⟩=some (see ao an bo bn):=by
 have l1:=ctr_len (a:=ao) (b:=bo) (i:=ao.length);have l2:=ctr_len (a:=an) (b:=bn) (i:=an.length);have w:IntKind.i64.wrap (((ctr ao bo ao.length).length:Int)+((ctr an bn an.length).length:Int))=((ctr ao bo ao.length).length:Int)+((ctr an bn an.length).length:Int):=w64 (by omega) (by omega);unfold M47.m M65.m;simp only[m108 h1 b1,m108 h2 b2,bindO,w];congr 1;unfold see;by_cases h:0<(ctr ao bo ao.length).length+(ctr an bn an.length).length
 ·rw[AB h,AB (by omega)]
 ·rw[AN h,AN (by omega)]
structure Fa(N:NodeL)(ln lp val:Int):Prop where
 n:In N.length ln
 p: -1<=lp
 q:lp<(pn N ln.toNat).length
 v:val=0\/val=1
def flt(ln lp val:Int):Flt:=if lp<0 then flta ln lp val else fltb ln lp val
theorem Fa.V{N:NodeL}{ln lp val:Int}(h:Fa N ln lp val):V val:=by
 rcases h.v with rfl|rfl
 ·exact⟨by omega,by omega⟩
 ·exact⟨by omega,by omega⟩
theorem flt_ok{N:NodeL}{ln lp val:Int}(h:Fa N ln lp val):(flt ln lp val).Ok:=by
 unfold flt;split
 ·exact flta_ok h.V
 ·exact fltb_ok h.V
section
variable {N:NodeL}{A:List (List UInt8)}{C:List Int}{ln lp val:Int}
theorem m98(h:Ck N A C)(ht:Topo N):M98.m ⟨N,A,[],C⟩=some 0:=by obtain⟨lev,h1,_⟩:=m71 h ht;unfold M98.m;simp only[h1,bindO]
theorem m55(h:Ck N A C)(ht:Topo N):M55.m ⟨N,A,[],C⟩=some 0:=by unfold M55.m;simp only[m98 h ht,bindO];rfl
theorem m59(h:Ck N A C)(ht:Topo N)(hf:Fa N ln lp val):M59.m ⟨N,A,[],C,0,ln,lp,val,0⟩=some 0:=by
 obtain⟨q1,q2⟩:=hf.n;have p:=hf.p;have q:=hf.q;have e5:(N[ln.toNat]?.getD (0,[],0,0)).2.1=pn N ln.toNat:=rfl;have c1:decide ((0:Int)>3)=false:=rfl;have c2:decide (val>1)=false:=AN (by have:=hf.v;omega);have c3:decide (ln>=0)=true:=AB (by omega);have c4:decide (ln<(N.length:Int))=true:=AB (by omega);have c5:decide (lp>= -1)=true:=AB (by omega);have c6:decide (lp<((pn N ln.toNat).length:Int))=true:=AB (by omega);have h101:M101.m ⟨N,A,[],C,ln,lp⟩=some true:=by unfold M101.m;simp only[inR_int hf.n,Bool.true_or,A5,c3,c4,c5,e5,c6]
 unfold M59.m;simp only[m55 h ht,bindO,BU,A7,c1,c2,BX,A5,h101,Bool.not_true];rfl
theorem m89a(hp:lp<0){g:List Int}:M89a.m ⟨N,A,[],C,0,ln,lp,val,0,g⟩=some (0,ln,lp,val,0,ln,lp,N,A,[],C):=by have c:decide (lp<0)=true:=AB hp;unfold M89a.m M126a.m;simp only[c,A5,bindO];rfl
theorem m89b(hp:¬lp<0){g:List Int}:M89b.m ⟨N,A,[],C,0,ln,lp,val,0,g⟩=some (0,ln,lp,val,0,ln,lp,N,A,[],C):=by have c:decide (lp<0)=false:=AN hp;unfold M89b.m M126b.m;simp only[c,A7,bindO];rfl
structure Runs(N:NodeL)(A:List (List UInt8))(C:List Int)(o:List Int):Prop where
 ck:Ck N A C
 tp:Topo N
 od:Ord N o
 m40:M40.m ⟨N,A,[],C⟩=some (o,0)
 m15:∀{inn st:List Int},Pat N inn st->M15.m ⟨N,A,[],C,inn,st⟩=some (outsV C (sim good N o (base N inn st)),nexts good N (sim good N o (base N inn st)),sim good N o (base N inn st),0)
theorem runs(h:Ck N A C)(ht:Topo N):∃o,Runs N A C o:=by obtain⟨o,h1,h2,h3⟩:=m15 h ht;exact⟨o,h,ht,h1,h2,h3⟩
theorem m46{o:List Int}(R:Runs N A C o)(hf:Fa N ln lp val){inn st:List Int}(hp:Pat N inn st):
  M46.m ⟨N,A,[],C,0,ln,lp,val,0,inn,st⟩=some (outsV C (sim good N o (base N inn st)),nexts good N (sim good N o (base N inn st)),outsV C (sim (flt ln lp val) N o (base N inn st)),nexts (flt ln lp val) N (sim (flt ln lp val) N o (base N inn st)),sim (flt ln lp val) N o (base N inn st),0):=by
 have hl:∀F:Flt,(sim F N o (base N inn st)).length=N.length:=λF=>by rw[sim_len,base_len]
 unfold M46.m M46.ga M46.gb;by_cases hlp:lp<0
 ·have e:flt ln lp val=flta ln lp val:=AF hlp;have c:decide (lp<0)=true:=AB hlp;have hl:=hl (flta ln lp val);rw[e];unfold M46a.m;simp only[c,A5,m59 R.ck R.tp hf,bindO,BU,A7,R.m15 hp,m89a hlp,m90a R.ck hf.V R.od R.m40 hp,AI,hl,leB_of (A6 _),AG,AU];rw[AJ (by omega)];rfl
 ·have e:flt ln lp val=fltb ln lp val:=AP hlp;have c:decide (lp<0)=false:=AN hlp;have hl:=hl (fltb ln lp val);rw[e];unfold M46b.m;simp only[c,A5,A7,m59 R.ck R.tp hf,bindO,BU,R.m15 hp,m89b hlp,m90b R.ck hf.V R.od R.m40 hp,AI,hl,leB_of (A6 _),AG,AU];rw[AJ (by omega)];rfl
theorem m16{o:List Int}(R:Runs N A C o)(hf:Fa N ln lp val){inn st:List Int}(hp:Pat N inn st):
  M16.m ⟨N,A,[],C,0,ln,lp,val,0,inn,st⟩=some (outsV C (sim (flt ln lp val) N o (base N inn st)),nexts (flt ln lp val) N (sim (flt ln lp val) N o (base N inn st)),sim (flt ln lp val) N o (base N inn st),0):=by
 unfold M16.m;simp only[m46 R hf hp,bindO]
theorem m17{o:List Int}(R:Runs N A C o)(hf:Fa N ln lp val){inn st:List Int}(hp:Pat N inn st):
  M17.m ⟨N,A,[],C,0,ln,lp,val,0,inn,st⟩=some (see (outsV C (sim good N o (base N inn st))) (nexts good N (sim good N o (base N inn st))) (outsV C (sim (flt ln lp val) N o (base N inn st))) (nexts (flt ln lp val) N (sim (flt ln lp val) N o (base N inn st))),0):=by
 have hC:=R.ck.fewC;have hN:=R.ck.few;have lK:(ofK N 14).length<=N.length:=ofN_len;unfold M17.m;simp only[m46 R hf hp,bindO];rw[m47 (by simp[outsV]) (by simp[nexts]) (by simp[outsV];omega) (by simp[nexts];omega)]
end
end Co
namespace M22
structure gX where(xin dffs d0 d1:Int)(bus mem:Bool)(w0 w1 w2 w3:Int)(gates:List ((Int)×(Int)×(Int)×Int))(xouts:List (Int))
def g:Sg gX:=⟨[.agg [.it .u8,.it .u8,.it .u8,.it .u8,.bo,.bo,.it .u8,.it .u8,.it .u8,.it .u8,.arr (.pair (.int .u8) (.pair (.int .u8) (.pair (.int .u8) (.int .u8)))),.arr (.int .u8)]],[],λa b=>⟨a.1.1,a.1.2.1,a.1.2.2.1,a.1.2.2.2.1,a.1.2.2.2.2.1,a.1.2.2.2.2.2.1,a.1.2.2.2.2.2.2.1,a.1.2.2.2.2.2.2.2.1,a.1.2.2.2.2.2.2.2.2.1,a.1.2.2.2.2.2.2.2.2.2.1,a.1.2.2.2.2.2.2.2.2.2.2.1,a.1.2.2.2.2.2.2.2.2.2.2.2.1⟩,λx=>((x.xin,(x.dffs,(x.d0,(x.d1,(x.bus,(x.mem,(x.w0,(x.w1,(x.w2,(x.w3,(x.gates,(x.xouts,())))))))))))),()),λx=>()⟩
abbrev fY:=(List ((Int)×(List (Int))×(Int)×Int))×List (List UInt8)×(List ((List (Int))×(List (Int))×Int))×List (Int)
def f:Ft fY:=⟨none,.agg [.arr (.pair (.int .u8) (.pair (.sl (.int .i64)) (.pair (.int .i64) (.int .i64)))),.arr .str,.arr (.pair (.sl (.int .i64)) (.pair (.sl (.int .i64)) (.int .i64))),.arr (.int .i64)],[],λa b=>(a.1,a.2.1,a.2.2.1,a.2.2.2.1),λy=>(y.1,(y.2.1,(y.2.2.1,(y.2.2.2,())))),λy=>()⟩
def cl:List (FuncId×Con):=[(51,M51.con),(52,M52.con)]
theorem cl_ok:Q8 Tryz.prog cl:=⟨M51.con_ok,M52.con_ok,trivial⟩
def E6:Env:=⟨ty,QE cl,λ_=>none,none⟩
structure p5X where(n i xin dffs d0 d1:Int)(bus mem:Bool)(w0 w1 w2 w3:Int)(gates:List ((Int)×(Int)×(Int)×Int))(xouts:List (Int))(ns_lo ns_len:Nat)(nm:List (List UInt8))(os_lo os_len:Nat)(nd:List ((Int)×(List (Int))×(Int)×Int))(oxs:List (Int))
def p5:Pt p5X where
 own:=[.cell 2 3 (.int .i64)]
 t:=⟨[(1,.c (.ptr 0 0)),(2,.c (.ptr 1 0)),(3,.c (.ptr 2 0)),(9,.c (.it .i64)),(12,.c (.it .i64))],[.st [.it .u8,.it .u8,.it .u8,.it .u8,.bo,.bo,.it .u8,.it .u8,.it .u8,.it .u8,.arr (.pair (.int .u8) (.pair (.int .u8) (.pair (.int .u8) (.int .u8)))),.arr (.int .u8)] 1 0,.st [.junk,.junk,.junk,.junk] 1 0,.st [.sl 3 0 4,.arr .str,.nils,.sl 4 0 1] 1 0,.arr (.pair (.int .u8) (.pair (.sl (.int .i64)) (.pair (.int .i64) (.int .i64)))) 0,.arr (.int .i64) 0]⟩
 to:=λv=>⟨v.1.2.2.2.1,v.1.2.2.2.2.1,v.2.1.1,v.2.1.2.1,v.2.1.2.2.1,v.2.1.2.2.2.1,v.2.1.2.2.2.2.1,v.2.1.2.2.2.2.2.1,v.2.1.2.2.2.2.2.2.1,v.2.1.2.2.2.2.2.2.2.1,v.2.1.2.2.2.2.2.2.2.2.1,v.2.1.2.2.2.2.2.2.2.2.2.1,v.2.1.2.2.2.2.2.2.2.2.2.2.1,v.2.1.2.2.2.2.2.2.2.2.2.2.2.1,v.2.2.2.1.1.1,v.2.2.2.1.1.2,v.2.2.2.1.2.1,v.2.2.2.1.2.2.2.1.1,v.2.2.2.1.2.2.2.1.2,v.2.2.2.2.1,v.2.2.2.2.2.1⟩
 fr:=λx=>(((),((),((),(x.n,(x.i,()))))),((x.xin,(x.dffs,(x.d0,(x.d1,(x.bus,(x.mem,(x.w0,(x.w1,(x.w2,(x.w3,(x.gates,(x.xouts,())))))))))))),(((),((),((),((),())))),(((x.ns_lo,x.ns_len),(x.nm,((),((x.os_lo,x.os_len),())))),(x.nd,(x.oxs,()))))))
structure q5X where(n:Int)(ns_lo ns_len:Nat)(nm:List (List UInt8))(os_lo os_len:Nat)(nd:List ((Int)×(List (Int))×(Int)×Int))(oxs:List (Int))
def q5:Pt q5X where
 own:=[]
 t:=⟨[(2,.c (.ptr 1 0)),(3,.c (.ptr 2 0)),(9,.c (.it .i64))],[.st [.junk,.junk,.junk,.junk,.junk,.junk,.junk,.junk,.junk,.junk,.junk,.junk] 1 0,.st [.junk,.junk,.junk,.junk] 1 0,.st [.sl 3 0 4,.arr .str,.nils,.sl 4 0 1] 1 0,.arr (.pair (.int .u8) (.pair (.sl (.int .i64)) (.pair (.int .i64) (.int .i64)))) 0,.arr (.int .i64) 0]⟩
 to:=λv=>⟨v.1.2.2.1,v.2.2.2.1.1.1,v.2.2.2.1.1.2,v.2.2.2.1.2.1,v.2.2.2.1.2.2.2.1.1,v.2.2.2.1.2.2.2.1.2,v.2.2.2.2.1,v.2.2.2.2.2.1⟩
 fr:=λx=>(((),((),(x.n,()))),(((),((),((),((),((),((),((),((),((),((),((),((),())))))))))))),(((),((),((),((),())))),(((x.ns_lo,x.ns_len),(x.nm,((),((x.os_lo,x.os_len),())))),(x.nd,(x.oxs,()))))))
def s5(x:p5X):Option (p5X⊕q5X):=bif bif decide (x.i<(↑x.xouts.length:Int)) then decide (x.i<3) else false then bif inR x.i x.xouts.length then bif nz x.n then bif eqN x.os_lo 0&&eqN x.oxs.length x.os_len&&QT (x.os_len+1) 8 then some (Sum.inl ⟨x.n,IntKind.i64.wrap (x.i+1),x.xin,x.dffs,x.d0,x.d1,x.bus,x.mem,x.w0,x.w1,x.w2,x.w3,x.gates,x.xouts,x.ns_lo,x.ns_len,x.nm,0,x.os_len+1,x.nd,x.oxs++[(IntKind.i64.wrap (x.xouts[x.i.toNat]?.getD 0)).tmod x.n]⟩) else none else none else none else some (Sum.inr ⟨x.n,x.ns_lo,x.ns_len,x.nm,x.os_lo,x.os_len,x.nd,x.oxs⟩)
theorem s5_eq(x:p5X):exec E6 178 (C22.Q0 5) 6 (p5.R x) (p5.H x) (QP 0 p5 (.exit 10) q5)=s5 x:=by kernel_rfl
def l5:QJ:=QQ 0 p5 (.exit 10) q5 s5
theorem tl5:QA (C22.Q0 5) 6=[]:=by kernel_rfl
theorem l5_ok  :QF Tryz.prog 178 none 0 (C22.Q0 5) l5:=QG mixed (Q4 ty_ok cl_ok _) (by trivial) (λ_=>rfl) (λ_=>rfl) (tl5▸Q7.nil) s5_eq
def E5:Env:=⟨ty,QE cl,Qi [(5,l5)],none⟩
structure p4X where(n i xin dffs d0 d1:Int)(bus mem:Bool)(w0 w1 w2 w3:Int)(gates:List ((Int)×(Int)×(Int)×Int))(xouts:List (Int))(ns_lo ns_len nm_lo nm_len:Nat)(nd:List ((Int)×(List (Int))×(Int)×Int))(nms:List (List UInt8))
def p4:Pt p4X where
 own:=[.cell 2 1 .str]
 t:=⟨[(1,.c (.ptr 0 0)),(2,.c (.ptr 1 0)),(3,.c (.ptr 2 0)),(9,.c (.it .i64)),(11,.c (.it .i64))],[.st [.it .u8,.it .u8,.it .u8,.it .u8,.bo,.bo,.it .u8,.it .u8,.it .u8,.it .u8,.arr (.pair (.int .u8) (.pair (.int .u8) (.pair (.int .u8) (.int .u8)))),.arr (.int .u8)] 1 0,.st [.junk,.junk,.junk,.junk] 1 0,.st [.sl 3 0 4,.sl 4 0 1,.nils,.nils] 1 0,.arr (.pair (.int .u8) (.pair (.sl (.int .i64)) (.pair (.int .i64) (.int .i64)))) 0,.arr .str 0]⟩
 to:=λv=>⟨v.1.2.2.2.1,v.1.2.2.2.2.1,v.2.1.1,v.2.1.2.1,v.2.1.2.2.1,v.2.1.2.2.2.1,v.2.1.2.2.2.2.1,v.2.1.2.2.2.2.2.1,v.2.1.2.2.2.2.2.2.1,v.2.1.2.2.2.2.2.2.2.1,v.2.1.2.2.2.2.2.2.2.2.1,v.2.1.2.2.2.2.2.2.2.2.2.1,v.2.1.2.2.2.2.2.2.2.2.2.2.1,v.2.1.2.2.2.2.2.2.2.2.2.2.2.1,v.2.2.2.1.1.1,v.2.2.2.1.1.2,v.2.2.2.1.2.1.1,v.2.2.2.1.2.1.2,v.2.2.2.2.1,v.2.2.2.2.2.1⟩
 fr:=λx=>(((),((),((),(x.n,(x.i,()))))),((x.xin,(x.dffs,(x.d0,(x.d1,(x.bus,(x.mem,(x.w0,(x.w1,(x.w2,(x.w3,(x.gates,(x.xouts,())))))))))))),(((),((),((),((),())))),(((x.ns_lo,x.ns_len),((x.nm_lo,x.nm_len),((),((),())))),(x.nd,(x.nms,()))))))
structure q4X where(n xin dffs d0 d1:Int)(bus mem:Bool)(w0 w1 w2 w3:Int)(gates:List ((Int)×(Int)×(Int)×Int))(xouts:List (Int))(ns_lo ns_len:Nat)(nm:List (List UInt8))(nd:List ((Int)×(List (Int))×(Int)×Int))
def q4:Pt q4X where
 own:=[]
 t:=⟨[(1,.c (.ptr 0 0)),(2,.c (.ptr 1 0)),(3,.c (.ptr 2 0)),(9,.c (.it .i64))],[.st [.it .u8,.it .u8,.it .u8,.it .u8,.bo,.bo,.it .u8,.it .u8,.it .u8,.it .u8,.arr (.pair (.int .u8) (.pair (.int .u8) (.pair (.int .u8) (.int .u8)))),.arr (.int .u8)] 1 0,.st [.junk,.junk,.junk,.junk] 1 0,.st [.sl 3 0 4,.arr .str,.nils,.nils] 1 0,.arr (.pair (.int .u8) (.pair (.sl (.int .i64)) (.pair (.int .i64) (.int .i64)))) 0]⟩
 to:=λv=>⟨v.1.2.2.2.1,v.2.1.1,v.2.1.2.1,v.2.1.2.2.1,v.2.1.2.2.2.1,v.2.1.2.2.2.2.1,v.2.1.2.2.2.2.2.1,v.2.1.2.2.2.2.2.2.1,v.2.1.2.2.2.2.2.2.2.1,v.2.1.2.2.2.2.2.2.2.2.1,v.2.1.2.2.2.2.2.2.2.2.2.1,v.2.1.2.2.2.2.2.2.2.2.2.2.1,v.2.1.2.2.2.2.2.2.2.2.2.2.2.1,v.2.2.2.1.1.1,v.2.2.2.1.1.2,v.2.2.2.1.2.1,v.2.2.2.2.1⟩
 fr:=λx=>(((),((),((),(x.n,())))),((x.xin,(x.dffs,(x.d0,(x.d1,(x.bus,(x.mem,(x.w0,(x.w1,(x.w2,(x.w3,(x.gates,(x.xouts,())))))))))))),(((),((),((),((),())))),(((x.ns_lo,x.ns_len),(x.nm,((),((),())))),(x.nd,())))))
def s4(x:p4X):Option (p4X⊕q4X):=bif decide (x.i<x.n) then bindO (M52.m ⟨x.i⟩) λy=>bif eqN x.nm_lo 0&&eqN x.nms.length x.nm_len&&QT (x.nm_len+1) 16 then some (Sum.inl ⟨x.n,IntKind.i64.wrap (x.i+1),x.xin,x.dffs,x.d0,x.d1,x.bus,x.mem,x.w0,x.w1,x.w2,x.w3,x.gates,x.xouts,x.ns_lo,x.ns_len,0,x.nm_len+1,x.nd,x.nms++[y]⟩) else none else bif leB (x.nm_lo+x.nm_len) x.nms.length&&true&&true then some (Sum.inr ⟨x.n,x.xin,x.dffs,x.d0,x.d1,x.bus,x.mem,x.w0,x.w1,x.w2,x.w3,x.gates,x.xouts,x.ns_lo,x.ns_len,List.take x.nm_len (List.drop x.nm_lo x.nms),x.nd⟩) else none
theorem s4_eq(x:p4X):exec E5 178 (C22.Q0 4) 5 (p4.R x) (p4.H x) (QP 0 p4 (.exit 8) q4)=s4 x:=by kernel_rfl
def l4:QJ:=QQ 0 p4 (.exit 8) q4 s4
theorem tl4:QA (C22.Q0 4) 5=[]:=by kernel_rfl
theorem l4_ok  :QF Tryz.prog 178 none 0 (C22.Q0 4) l4:=QG mixed (Q4 ty_ok cl_ok _) (by trivial) (λ_=>rfl) (λ_=>rfl) (tl4▸Q7.nil) s4_eq
def E3:Env:=⟨ty,QE cl,Qi [(4,l4),(5,l5)],none⟩
structure p2X where(first df i xin dffs d0 d1:Int)(bus mem:Bool)(w0 w1 w2 w3:Int)(gates:List ((Int)×(Int)×(Int)×Int))(xouts:List (Int))(ns_lo ns_len:Nat)(nd:List ((Int)×(List (Int))×(Int)×Int))
def p2:Pt p2X where
 own:=[]
 t:=⟨[(1,.c (.ptr 0 0)),(2,.c (.ptr 1 0)),(3,.c (.ptr 2 0)),(5,.c (.it .i64)),(6,.c (.it .i64)),(8,.c (.it .i64))],[.st [.it .u8,.it .u8,.it .u8,.it .u8,.bo,.bo,.it .u8,.it .u8,.it .u8,.it .u8,.arr (.pair (.int .u8) (.pair (.int .u8) (.pair (.int .u8) (.int .u8)))),.arr (.int .u8)] 1 0,.st [.junk,.junk,.junk,.junk] 1 0,.st [.sl 3 0 4,.nils,.nils,.nils] 1 0,.arr (.pair (.int .u8) (.pair (.sl (.int .i64)) (.pair (.int .i64) (.int .i64)))) 0]⟩
 to:=λv=>⟨v.1.2.2.2.1,v.1.2.2.2.2.1,v.1.2.2.2.2.2.1,v.2.1.1,v.2.1.2.1,v.2.1.2.2.1,v.2.1.2.2.2.1,v.2.1.2.2.2.2.1,v.2.1.2.2.2.2.2.1,v.2.1.2.2.2.2.2.2.1,v.2.1.2.2.2.2.2.2.2.1,v.2.1.2.2.2.2.2.2.2.2.1,v.2.1.2.2.2.2.2.2.2.2.2.1,v.2.1.2.2.2.2.2.2.2.2.2.2.1,v.2.1.2.2.2.2.2.2.2.2.2.2.2.1,v.2.2.2.1.1.1,v.2.2.2.1.1.2,v.2.2.2.2.1⟩
 fr:=λx=>(((),((),((),(x.first,(x.df,(x.i,())))))),((x.xin,(x.dffs,(x.d0,(x.d1,(x.bus,(x.mem,(x.w0,(x.w1,(x.w2,(x.w3,(x.gates,(x.xouts,())))))))))))),(((),((),((),((),())))),(((x.ns_lo,x.ns_len),((),((),((),())))),(x.nd,())))))
structure q2X where(first df xin dffs d0 d1:Int)(bus mem:Bool)(w0 w1 w2 w3:Int)(gates:List ((Int)×(Int)×(Int)×Int))(xouts:List (Int))(ns_lo ns_len:Nat)(nd:List ((Int)×(List (Int))×(Int)×Int))
def q2:Pt q2X where
 own:=[]
 t:=⟨[(1,.c (.ptr 0 0)),(2,.c (.ptr 1 0)),(3,.c (.ptr 2 0)),(5,.c (.it .i64)),(6,.c (.it .i64))],[.st [.it .u8,.it .u8,.it .u8,.it .u8,.bo,.bo,.it .u8,.it .u8,.it .u8,.it .u8,.arr (.pair (.int .u8) (.pair (.int .u8) (.pair (.int .u8) (.int .u8)))),.arr (.int .u8)] 1 0,.st [.junk,.junk,.junk,.junk] 1 0,.st [.sl 3 0 4,.nils,.nils,.nils] 1 0,.arr (.pair (.int .u8) (.pair (.sl (.int .i64)) (.pair (.int .i64) (.int .i64)))) 0]⟩
 to:=λv=>⟨v.1.2.2.2.1,v.1.2.2.2.2.1,v.2.1.1,v.2.1.2.1,v.2.1.2.2.1,v.2.1.2.2.2.1,v.2.1.2.2.2.2.1,v.2.1.2.2.2.2.2.1,v.2.1.2.2.2.2.2.2.1,v.2.1.2.2.2.2.2.2.2.1,v.2.1.2.2.2.2.2.2.2.2.1,v.2.1.2.2.2.2.2.2.2.2.2.1,v.2.1.2.2.2.2.2.2.2.2.2.2.1,v.2.1.2.2.2.2.2.2.2.2.2.2.2.1,v.2.2.2.1.1.1,v.2.2.2.1.1.2,v.2.2.2.2.1⟩
 fr:=λx=>(((),((),((),(x.first,(x.df,()))))),((x.xin,(x.dffs,(x.d0,(x.d1,(x.bus,(x.mem,(x.w0,(x.w1,(x.w2,(x.w3,(x.gates,(x.xouts,())))))))))))),(((),((),((),((),())))),(((x.ns_lo,x.ns_len),((),((),((),())))),(x.nd,())))))
def s2(x:p2X):Option (p2X⊕q2X):=bif bif decide (x.i<(↑x.gates.length:Int)) then decide (x.i<8) else false then bif inR x.i x.gates.length then bindO (M51.m ⟨x.xin,x.dffs,x.d0,x.d1,x.bus,x.mem,x.w0,x.w1,x.w2,x.w3,x.gates,x.xouts,(x.gates[x.i.toNat]?.getD (0,0,0,0)).1,(x.gates[x.i.toNat]?.getD (0,0,0,0)).2.1,(x.gates[x.i.toNat]?.getD (0,0,0,0)).2.2.1,(x.gates[x.i.toNat]?.getD (0,0,0,0)).2.2.2,x.ns_lo,x.ns_len,x.nd⟩) λy=>bif eqN x.ns_lo 0&&eqN x.nd.length x.ns_len&&QT (x.ns_len+1) 48 then some (Sum.inl ⟨x.first,x.df,IntKind.i64.wrap (x.i+1),x.xin,x.dffs,x.d0,x.d1,x.bus,x.mem,x.w0,x.w1,x.w2,x.w3,x.gates,x.xouts,0,x.ns_len+1,x.nd++[(y.1,y.2.1,y.2.2.1,y.2.2.2.1)]⟩) else none else none else some (Sum.inr ⟨x.first,x.df,x.xin,x.dffs,x.d0,x.d1,x.bus,x.mem,x.w0,x.w1,x.w2,x.w3,x.gates,x.xouts,x.ns_lo,x.ns_len,x.nd⟩)
theorem s2_eq(x:p2X):exec E3 178 (C22.Q0 2) 3 (p2.R x) (p2.H x) (QP 0 p2 (.exit 4) q2)=s2 x:=by kernel_rfl
def l2:QJ:=QQ 0 p2 (.exit 4) q2 s2
theorem tl2:QA (C22.Q0 2) 3=[]:=by kernel_rfl
theorem l2_ok  :QF Tryz.prog 178 none 0 (C22.Q0 2) l2:=QG mixed (Q4 ty_ok cl_ok _) (by trivial) (λ_=>rfl) (λ_=>rfl) (tl2▸Q7.nil) s2_eq
def E2:Env:=⟨ty,QE cl,Qi [(2,l2),(4,l4),(5,l5)],none⟩
structure p1X where(first df i xin dffs d0 d1:Int)(bus mem:Bool)(w0 w1 w2 w3:Int)(gates:List ((Int)×(Int)×(Int)×Int))(xouts:List (Int))(ns_lo ns_len:Nat)(nd:List ((Int)×(List (Int))×(Int)×Int))
def p1:Pt p1X where
 own:=[]
 t:=⟨[(1,.c (.ptr 0 0)),(2,.c (.ptr 1 0)),(3,.c (.ptr 2 0)),(5,.c (.it .i64)),(6,.c (.it .i64)),(7,.c (.it .i64))],[.st [.it .u8,.it .u8,.it .u8,.it .u8,.bo,.bo,.it .u8,.it .u8,.it .u8,.it .u8,.arr (.pair (.int .u8) (.pair (.int .u8) (.pair (.int .u8) (.int .u8)))),.arr (.int .u8)] 1 0,.st [.junk,.junk,.junk,.junk] 1 0,.st [.sl 3 0 4,.nils,.nils,.nils] 1 0,.arr (.pair (.int .u8) (.pair (.sl (.int .i64)) (.pair (.int .i64) (.int .i64)))) 0]⟩
 to:=λv=>⟨v.1.2.2.2.1,v.1.2.2.2.2.1,v.1.2.2.2.2.2.1,v.2.1.1,v.2.1.2.1,v.2.1.2.2.1,v.2.1.2.2.2.1,v.2.1.2.2.2.2.1,v.2.1.2.2.2.2.2.1,v.2.1.2.2.2.2.2.2.1,v.2.1.2.2.2.2.2.2.2.1,v.2.1.2.2.2.2.2.2.2.2.1,v.2.1.2.2.2.2.2.2.2.2.2.1,v.2.1.2.2.2.2.2.2.2.2.2.2.1,v.2.1.2.2.2.2.2.2.2.2.2.2.2.1,v.2.2.2.1.1.1,v.2.2.2.1.1.2,v.2.2.2.2.1⟩
 fr:=λx=>(((),((),((),(x.first,(x.df,(x.i,())))))),((x.xin,(x.dffs,(x.d0,(x.d1,(x.bus,(x.mem,(x.w0,(x.w1,(x.w2,(x.w3,(x.gates,(x.xouts,())))))))))))),(((),((),((),((),())))),(((x.ns_lo,x.ns_len),((),((),((),())))),(x.nd,())))))
structure q1X where(first df xin dffs d0 d1:Int)(bus mem:Bool)(w0 w1 w2 w3:Int)(gates:List ((Int)×(Int)×(Int)×Int))(xouts:List (Int))(ns_lo ns_len:Nat)(nd:List ((Int)×(List (Int))×(Int)×Int))
def q1:Pt q1X where
 own:=[]
 t:=⟨[(1,.c (.ptr 0 0)),(2,.c (.ptr 1 0)),(3,.c (.ptr 2 0)),(5,.c (.it .i64)),(6,.c (.it .i64))],[.st [.it .u8,.it .u8,.it .u8,.it .u8,.bo,.bo,.it .u8,.it .u8,.it .u8,.it .u8,.arr (.pair (.int .u8) (.pair (.int .u8) (.pair (.int .u8) (.int .u8)))),.arr (.int .u8)] 1 0,.st [.junk,.junk,.junk,.junk] 1 0,.st [.sl 3 0 4,.nils,.nils,.nils] 1 0,.arr (.pair (.int .u8) (.pair (.sl (.int .i64)) (.pair (.int .i64) (.int .i64)))) 0]⟩
 to:=λv=>⟨v.1.2.2.2.1,v.1.2.2.2.2.1,v.2.1.1,v.2.1.2.1,v.2.1.2.2.1,v.2.1.2.2.2.1,v.2.1.2.2.2.2.1,v.2.1.2.2.2.2.2.1,v.2.1.2.2.2.2.2.2.1,v.2.1.2.2.2.2.2.2.2.1,v.2.1.2.2.2.2.2.2.2.2.1,v.2.1.2.2.2.2.2.2.2.2.2.1,v.2.1.2.2.2.2.2.2.2.2.2.2.1,v.2.1.2.2.2.2.2.2.2.2.2.2.2.1,v.2.2.2.1.1.1,v.2.2.2.1.1.2,v.2.2.2.2.1⟩
 fr:=λx=>(((),((),((),(x.first,(x.df,()))))),((x.xin,(x.dffs,(x.d0,(x.d1,(x.bus,(x.mem,(x.w0,(x.w1,(x.w2,(x.w3,(x.gates,(x.xouts,())))))))))))),(((),((),((),((),())))),(((x.ns_lo,x.ns_len),((),((),((),())))),(x.nd,())))))
def s1(x:p1X):Option (p1X⊕q1X):=bif decide (x.i<x.df) then bif eqN x.ns_lo 0&&eqN x.nd.length x.ns_len&&QT (x.ns_len+1) 48 then some (Sum.inl ⟨x.first,x.df,IntKind.i64.wrap (x.i+1),x.xin,x.dffs,x.d0,x.d1,x.bus,x.mem,x.w0,x.w1,x.w2,x.w3,x.gates,x.xouts,0,x.ns_len+1,x.nd++[(14,[0],0,0)]⟩) else none else some (Sum.inr ⟨x.first,x.df,x.xin,x.dffs,x.d0,x.d1,x.bus,x.mem,x.w0,x.w1,x.w2,x.w3,x.gates,x.xouts,x.ns_lo,x.ns_len,x.nd⟩)
theorem s1_eq(x:p1X):exec E2 178 (C22.Q0 1) 2 (p1.R x) (p1.H x) (QP 0 p1 (.exit 2) q1)=s1 x:=by kernel_rfl
def l1:QJ:=QQ 0 p1 (.exit 2) q1 s1
theorem tl1:QA (C22.Q0 1) 2=[]:=by kernel_rfl
theorem l1_ok  :QF Tryz.prog 178 none 0 (C22.Q0 1) l1:=QG mixed (Q4 ty_ok cl_ok _) (by trivial) (λ_=>rfl) (λ_=>rfl) (tl1▸Q7.nil) s1_eq
def E1:Env:=⟨ty,QE cl,Qi [(1,l1),(2,l2),(4,l4),(5,l5)],none⟩
structure p0X where(i xin dffs d0 d1:Int)(bus mem:Bool)(w0 w1 w2 w3:Int)(gates:List ((Int)×(Int)×(Int)×Int))(xouts:List (Int))(ns_lo ns_len:Nat)(nd:List ((Int)×(List (Int))×(Int)×Int))
def p0:Pt p0X where
 own:=[.cell 2 0 (.pair (.int .u8) (.pair (.sl (.int .i64)) (.pair (.int .i64) (.int .i64))))]
 t:=⟨[(1,.c (.ptr 0 0)),(2,.c (.ptr 1 0)),(3,.c (.ptr 2 0)),(4,.c (.it .i64))],[.st [.it .u8,.it .u8,.it .u8,.it .u8,.bo,.bo,.it .u8,.it .u8,.it .u8,.it .u8,.arr (.pair (.int .u8) (.pair (.int .u8) (.pair (.int .u8) (.int .u8)))),.arr (.int .u8)] 1 0,.st [.junk,.junk,.junk,.junk] 1 0,.st [.sl 3 0 4,.nils,.nils,.nils] 1 0,.arr (.pair (.int .u8) (.pair (.sl (.int .i64)) (.pair (.int .i64) (.int .i64)))) 0]⟩
 to:=λv=>⟨v.1.2.2.2.1,v.2.1.1,v.2.1.2.1,v.2.1.2.2.1,v.2.1.2.2.2.1,v.2.1.2.2.2.2.1,v.2.1.2.2.2.2.2.1,v.2.1.2.2.2.2.2.2.1,v.2.1.2.2.2.2.2.2.2.1,v.2.1.2.2.2.2.2.2.2.2.1,v.2.1.2.2.2.2.2.2.2.2.2.1,v.2.1.2.2.2.2.2.2.2.2.2.2.1,v.2.1.2.2.2.2.2.2.2.2.2.2.2.1,v.2.2.2.1.1.1,v.2.2.2.1.1.2,v.2.2.2.2.1⟩
 fr:=λx=>(((),((),((),(x.i,())))),((x.xin,(x.dffs,(x.d0,(x.d1,(x.bus,(x.mem,(x.w0,(x.w1,(x.w2,(x.w3,(x.gates,(x.xouts,())))))))))))),(((),((),((),((),())))),(((x.ns_lo,x.ns_len),((),((),((),())))),(x.nd,())))))
structure q0X where(xin dffs d0 d1:Int)(bus mem:Bool)(w0 w1 w2 w3:Int)(gates:List ((Int)×(Int)×(Int)×Int))(xouts:List (Int))(ns_lo ns_len:Nat)(nd:List ((Int)×(List (Int))×(Int)×Int))
def q0:Pt q0X where
 own:=[]
 t:=⟨[(1,.c (.ptr 0 0)),(2,.c (.ptr 1 0)),(3,.c (.ptr 2 0))],[.st [.it .u8,.it .u8,.it .u8,.it .u8,.bo,.bo,.it .u8,.it .u8,.it .u8,.it .u8,.arr (.pair (.int .u8) (.pair (.int .u8) (.pair (.int .u8) (.int .u8)))),.arr (.int .u8)] 1 0,.st [.junk,.junk,.junk,.junk] 1 0,.st [.sl 3 0 4,.nils,.nils,.nils] 1 0,.arr (.pair (.int .u8) (.pair (.sl (.int .i64)) (.pair (.int .i64) (.int .i64)))) 0]⟩
 to:=λv=>⟨v.2.1.1,v.2.1.2.1,v.2.1.2.2.1,v.2.1.2.2.2.1,v.2.1.2.2.2.2.1,v.2.1.2.2.2.2.2.1,v.2.1.2.2.2.2.2.2.1,v.2.1.2.2.2.2.2.2.2.1,v.2.1.2.2.2.2.2.2.2.2.1,v.2.1.2.2.2.2.2.2.2.2.2.1,v.2.1.2.2.2.2.2.2.2.2.2.2.1,v.2.1.2.2.2.2.2.2.2.2.2.2.2.1,v.2.2.2.1.1.1,v.2.2.2.1.1.2,v.2.2.2.2.1⟩
 fr:=λx=>(((),((),((),()))),((x.xin,(x.dffs,(x.d0,(x.d1,(x.bus,(x.mem,(x.w0,(x.w1,(x.w2,(x.w3,(x.gates,(x.xouts,())))))))))))),(((),((),((),((),())))),(((x.ns_lo,x.ns_len),((),((),((),())))),(x.nd,())))))
def s0(x:p0X):Option (p0X⊕q0X):=bif decide (x.i<=IntKind.i64.wrap (x.xin.tmod 4)) then bif eqN x.ns_lo 0&&eqN x.nd.length x.ns_len&&QT (x.ns_len+1) 48 then some (Sum.inl ⟨IntKind.i64.wrap (x.i+1),x.xin,x.dffs,x.d0,x.d1,x.bus,x.mem,x.w0,x.w1,x.w2,x.w3,x.gates,x.xouts,0,x.ns_len+1,x.nd++[(0,[],0,0)]⟩) else none else some (Sum.inr ⟨x.xin,x.dffs,x.d0,x.d1,x.bus,x.mem,x.w0,x.w1,x.w2,x.w3,x.gates,x.xouts,x.ns_lo,x.ns_len,x.nd⟩)
theorem s0_eq(x:p0X):exec E1 178 (C22.Q0 0) 1 (p0.R x) (p0.H x) (QP 0 p0 (.exit 0) q0)=s0 x:=by kernel_rfl
def l0:QJ:=QQ 0 p0 (.exit 0) q0 s0
theorem tl0:QA (C22.Q0 0) 1=[]:=by kernel_rfl
theorem l0_ok  :QF Tryz.prog 178 none 0 (C22.Q0 0) l0:=QG mixed (Q4 ty_ok cl_ok _) (by trivial) (λ_=>rfl) (λ_=>rfl) (tl0▸Q7.nil) s0_eq
def E0:Env:=⟨ty,QE cl,Qi [(0,l0),(1,l1),(2,l2),(4,l4),(5,l5)],none⟩
def m(x:gX):Option fY:=bindO (iter s0 ⟨0,x.xin,x.dffs,x.d0,x.d1,x.bus,x.mem,x.w0,x.w1,x.w2,x.w3,x.gates,x.xouts,0,0,[]⟩) λy=>bindO (iter s1 ⟨(↑y.ns_len:Int),IntKind.i64.wrap (y.dffs.tmod 3),0,y.xin,y.dffs,y.d0,y.d1,y.bus,y.mem,y.w0,y.w1,y.w2,y.w3,y.gates,y.xouts,y.ns_lo,y.ns_len,y.nd⟩) λy=>bif y.mem then bif eqN y.ns_lo 0&&eqN y.nd.length y.ns_len&&QT (y.ns_len+2) 48 then bindO (iter s2 ⟨y.first,y.df,0,y.xin,y.dffs,y.d0,y.d1,y.bus,y.mem,y.w0,y.w1,y.w2,y.w3,y.gates,y.xouts,0,y.ns_len+2,y.nd++[(15,[],0,0),(15,[],0,1)]⟩) λy=>bif decide (0<y.df) then bif nz (↑y.ns_len:Int) then bif inR (IntKind.i64.wrap (y.first+0)) y.ns_len then bif decide (y.ns_lo+(IntKind.i64.wrap (y.first+0)).toNat<y.nd.length) then bif decide (IntKind.i64.wrap (0+1)<y.df) then bif nz (↑y.ns_len:Int) then bif inR (IntKind.i64.wrap (y.first+IntKind.i64.wrap (0+1))) y.ns_len then bif decide (y.ns_lo+(IntKind.i64.wrap (y.first+IntKind.i64.wrap (0+1))).toNat<(List.take (y.ns_lo+(IntKind.i64.wrap (y.first+0)).toNat) y.nd++((y.nd[y.ns_lo+(IntKind.i64.wrap (y.first+0)).toNat]?.getD (0,[],0,0)).1,[(IntKind.i64.wrap y.d0).tmod (↑y.ns_len:Int)],(y.nd[y.ns_lo+(IntKind.i64.wrap (y.first+0)).toNat]?.getD (0,[],0,0)).2.2.1,(y.nd[y.ns_lo+(IntKind.i64.wrap (y.first+0)).toNat]?.getD (0,[],0,0)).2.2.2)::List.drop (y.ns_lo+(IntKind.i64.wrap (y.first+0)).toNat+1) y.nd).length) then bif decide (IntKind.i64.wrap (IntKind.i64.wrap (0+1)+1)<y.df) then none else bif y.mem then bif nz (↑y.ns_len:Int) then bif nz (↑y.ns_len:Int) then bif nz (↑y.ns_len:Int) then bif nz (↑y.ns_len:Int) then none else none else none else none else none else bindO (iter s4 ⟨(↑y.ns_len:Int),0,y.xin,y.dffs,y.d0,y.d1,y.bus,y.mem,y.w0,y.w1,y.w2,y.w3,y.gates,y.xouts,y.ns_lo,y.ns_len,0,0,List.take (y.ns_lo+(IntKind.i64.wrap (y.first+IntKind.i64.wrap (0+1))).toNat) (List.take (y.ns_lo+(IntKind.i64.wrap (y.first+0)).toNat) y.nd++((y.nd[y.ns_lo+(IntKind.i64.wrap (y.first+0)).toNat]?.getD (0,[],0,0)).1,[(IntKind.i64.wrap y.d0).tmod (↑y.ns_len:Int)],(y.nd[y.ns_lo+(IntKind.i64.wrap (y.first+0)).toNat]?.getD (0,[],0,0)).2.2.1,(y.nd[y.ns_lo+(IntKind.i64.wrap (y.first+0)).toNat]?.getD (0,[],0,0)).2.2.2)::List.drop (y.ns_lo+(IntKind.i64.wrap (y.first+0)).toNat+1) y.nd)++(((List.take (y.ns_lo+(IntKind.i64.wrap (y.first+0)).toNat) y.nd++((y.nd[y.ns_lo+(IntKind.i64.wrap (y.first+0)).toNat]?.getD (0,[],0,0)).1,[(IntKind.i64.wrap y.d0).tmod (↑y.ns_len:Int)],(y.nd[y.ns_lo+(IntKind.i64.wrap (y.first+0)).toNat]?.getD (0,[],0,0)).2.2.1,(y.nd[y.ns_lo+(IntKind.i64.wrap (y.first+0)).toNat]?.getD (0,[],0,0)).2.2.2)::List.drop (y.ns_lo+(IntKind.i64.wrap (y.first+0)).toNat+1) y.nd)[y.ns_lo+(IntKind.i64.wrap (y.first+IntKind.i64.wrap (0+1))).toNat]?.getD (0,[],0,0)).1,[(IntKind.i64.wrap y.d1).tmod (↑y.ns_len:Int)],((List.take (y.ns_lo+(IntKind.i64.wrap (y.first+0)).toNat) y.nd++((y.nd[y.ns_lo+(IntKind.i64.wrap (y.first+0)).toNat]?.getD (0,[],0,0)).1,[(IntKind.i64.wrap y.d0).tmod (↑y.ns_len:Int)],(y.nd[y.ns_lo+(IntKind.i64.wrap (y.first+0)).toNat]?.getD (0,[],0,0)).2.2.1,(y.nd[y.ns_lo+(IntKind.i64.wrap (y.first+0)).toNat]?.getD (0,[],0,0)).2.2.2)::List.drop (y.ns_lo+(IntKind.i64.wrap (y.first+0)).toNat+1) y.nd)[y.ns_lo+(IntKind.i64.wrap (y.first+IntKind.i64.wrap (0+1))).toNat]?.getD (0,[],0,0)).2.2.1,((List.take (y.ns_lo+(IntKind.i64.wrap (y.first+0)).toNat) y.nd++((y.nd[y.ns_lo+(IntKind.i64.wrap (y.first+0)).toNat]?.getD (0,[],0,0)).1,[(IntKind.i64.wrap y.d0).tmod (↑y.ns_len:Int)],(y.nd[y.ns_lo+(IntKind.i64.wrap (y.first+0)).toNat]?.getD (0,[],0,0)).2.2.1,(y.nd[y.ns_lo+(IntKind.i64.wrap (y.first+0)).toNat]?.getD (0,[],0,0)).2.2.2)::List.drop (y.ns_lo+(IntKind.i64.wrap (y.first+0)).toNat+1) y.nd)[y.ns_lo+(IntKind.i64.wrap (y.first+IntKind.i64.wrap (0+1))).toNat]?.getD (0,[],0,0)).2.2.2)::List.drop (y.ns_lo+(IntKind.i64.wrap (y.first+IntKind.i64.wrap (0+1))).toNat+1) (List.take (y.ns_lo+(IntKind.i64.wrap (y.first+0)).toNat) y.nd++((y.nd[y.ns_lo+(IntKind.i64.wrap (y.first+0)).toNat]?.getD (0,[],0,0)).1,[(IntKind.i64.wrap y.d0).tmod (↑y.ns_len:Int)],(y.nd[y.ns_lo+(IntKind.i64.wrap (y.first+0)).toNat]?.getD (0,[],0,0)).2.2.1,(y.nd[y.ns_lo+(IntKind.i64.wrap (y.first+0)).toNat]?.getD (0,[],0,0)).2.2.2)::List.drop (y.ns_lo+(IntKind.i64.wrap (y.first+0)).toNat+1) y.nd),[]⟩) λy=>bindO (iter s5 ⟨y.n,0,y.xin,y.dffs,y.d0,y.d1,y.bus,y.mem,y.w0,y.w1,y.w2,y.w3,y.gates,y.xouts,y.ns_lo,y.ns_len,y.nm,0,0,y.nd,[]⟩) λy=>bif eqN y.os_lo 0&&eqN y.oxs.length y.os_len&&QT (y.os_len+1) 8 then bif leB (y.ns_lo+y.ns_len) y.nd.length&&(leB (0+(y.os_len+1)) (y.oxs++[IntKind.i64.wrap (y.n - 1)]).length&&true)&&true&&true then some (List.take y.ns_len (List.drop y.ns_lo y.nd),y.nm,[],List.take (y.os_len+1) (List.drop 0 (y.oxs++[IntKind.i64.wrap (y.n - 1)]))) else none else none else none else none else none else bif y.mem then bif nz (↑y.ns_len:Int) then bif nz (↑y.ns_len:Int) then bif nz (↑y.ns_len:Int) then bif nz (↑y.ns_len:Int) then none else none else none else none else none else bindO (iter s4 ⟨(↑y.ns_len:Int),0,y.xin,y.dffs,y.d0,y.d1,y.bus,y.mem,y.w0,y.w1,y.w2,y.w3,y.gates,y.xouts,y.ns_lo,y.ns_len,0,0,List.take (y.ns_lo+(IntKind.i64.wrap (y.first+0)).toNat) y.nd++((y.nd[y.ns_lo+(IntKind.i64.wrap (y.first+0)).toNat]?.getD (0,[],0,0)).1,[(IntKind.i64.wrap y.d0).tmod (↑y.ns_len:Int)],(y.nd[y.ns_lo+(IntKind.i64.wrap (y.first+0)).toNat]?.getD (0,[],0,0)).2.2.1,(y.nd[y.ns_lo+(IntKind.i64.wrap (y.first+0)).toNat]?.getD (0,[],0,0)).2.2.2)::List.drop (y.ns_lo+(IntKind.i64.wrap (y.first+0)).toNat+1) y.nd,[]⟩) λy=>bindO (iter s5 ⟨y.n,0,y.xin,y.dffs,y.d0,y.d1,y.bus,y.mem,y.w0,y.w1,y.w2,y.w3,y.gates,y.xouts,y.ns_lo,y.ns_len,y.nm,0,0,y.nd,[]⟩) λy=>bif eqN y.os_lo 0&&eqN y.oxs.length y.os_len&&QT (y.os_len+1) 8 then bif leB (y.ns_lo+y.ns_len) y.nd.length&&(leB (0+(y.os_len+1)) (y.oxs++[IntKind.i64.wrap (y.n - 1)]).length&&true)&&true&&true then some (List.take y.ns_len (List.drop y.ns_lo y.nd),y.nm,[],List.take (y.os_len+1) (List.drop 0 (y.oxs++[IntKind.i64.wrap (y.n - 1)]))) else none else none else none else none else none else bif y.mem then bif nz (↑y.ns_len:Int) then bif nz (↑y.ns_len:Int) then bif nz (↑y.ns_len:Int) then bif nz (↑y.ns_len:Int) then none else none else none else none else none else bindO (iter s4 ⟨(↑y.ns_len:Int),0,y.xin,y.dffs,y.d0,y.d1,y.bus,y.mem,y.w0,y.w1,y.w2,y.w3,y.gates,y.xouts,y.ns_lo,y.ns_len,0,0,y.nd,[]⟩) λy=>bindO (iter s5 ⟨y.n,0,y.xin,y.dffs,y.d0,y.d1,y.bus,y.mem,y.w0,y.w1,y.w2,y.w3,y.gates,y.xouts,y.ns_lo,y.ns_len,y.nm,0,0,y.nd,[]⟩) λy=>bif eqN y.os_lo 0&&eqN y.oxs.length y.os_len&&QT (y.os_len+1) 8 then bif leB (y.ns_lo+y.ns_len) y.nd.length&&(leB (0+(y.os_len+1)) (y.oxs++[IntKind.i64.wrap (y.n - 1)]).length&&true)&&true&&true then some (List.take y.ns_len (List.drop y.ns_lo y.nd),y.nm,[],List.take (y.os_len+1) (List.drop 0 (y.oxs++[IntKind.i64.wrap (y.n - 1)]))) else none else none else none else bindO (iter s2 ⟨y.first,y.df,0,y.xin,y.dffs,y.d0,y.d1,y.bus,y.mem,y.w0,y.w1,y.w2,y.w3,y.gates,y.xouts,y.ns_lo,y.ns_len,y.nd⟩) λy=>bif decide (0<y.df) then bif nz (↑y.ns_len:Int) then bif inR (IntKind.i64.wrap (y.first+0)) y.ns_len then bif decide (y.ns_lo+(IntKind.i64.wrap (y.first+0)).toNat<y.nd.length) then bif decide (IntKind.i64.wrap (0+1)<y.df) then bif nz (↑y.ns_len:Int) then bif inR (IntKind.i64.wrap (y.first+IntKind.i64.wrap (0+1))) y.ns_len then bif decide (y.ns_lo+(IntKind.i64.wrap (y.first+IntKind.i64.wrap (0+1))).toNat<(List.take (y.ns_lo+(IntKind.i64.wrap (y.first+0)).toNat) y.nd++((y.nd[y.ns_lo+(IntKind.i64.wrap (y.first+0)).toNat]?.getD (0,[],0,0)).1,[(IntKind.i64.wrap y.d0).tmod (↑y.ns_len:Int)],(y.nd[y.ns_lo+(IntKind.i64.wrap (y.first+0)).toNat]?.getD (0,[],0,0)).2.2.1,(y.nd[y.ns_lo+(IntKind.i64.wrap (y.first+0)).toNat]?.getD (0,[],0,0)).2.2.2)::List.drop (y.ns_lo+(IntKind.i64.wrap (y.first+0)).toNat+1) y.nd).length) then bif decide (IntKind.i64.wrap (IntKind.i64.wrap (0+1)+1)<y.df) then none else bif y.mem then bif nz (↑y.ns_len:Int) then bif nz (↑y.ns_len:Int) then bif nz (↑y.ns_len:Int) then bif nz (↑y.ns_len:Int) then none else none else none else none else none else bindO (iter s4 ⟨(↑y.ns_len:Int),0,y.xin,y.dffs,y.d0,y.d1,y.bus,y.mem,y.w0,y.w1,y.w2,y.w3,y.gates,y.xouts,y.ns_lo,y.ns_len,0,0,List.take (y.ns_lo+(IntKind.i64.wrap (y.first+IntKind.i64.wrap (0+1))).toNat) (List.take (y.ns_lo+(IntKind.i64.wrap (y.first+0)).toNat) y.nd++((y.nd[y.ns_lo+(IntKind.i64.wrap (y.first+0)).toNat]?.getD (0,[],0,0)).1,[(IntKind.i64.wrap y.d0).tmod (↑y.ns_len:Int)],(y.nd[y.ns_lo+(IntKind.i64.wrap (y.first+0)).toNat]?.getD (0,[],0,0)).2.2.1,(y.nd[y.ns_lo+(IntKind.i64.wrap (y.first+0)).toNat]?.getD (0,[],0,0)).2.2.2)::List.drop (y.ns_lo+(IntKind.i64.wrap (y.first+0)).toNat+1) y.nd)++(((List.take (y.ns_lo+(IntKind.i64.wrap (y.first+0)).toNat) y.nd++((y.nd[y.ns_lo+(IntKind.i64.wrap (y.first+0)).toNat]?.getD (0,[],0,0)).1,[(IntKind.i64.wrap y.d0).tmod (↑y.ns_len:Int)],(y.nd[y.ns_lo+(IntKind.i64.wrap (y.first+0)).toNat]?.getD (0,[],0,0)).2.2.1,(y.nd[y.ns_lo+(IntKind.i64.wrap (y.first+0)).toNat]?.getD (0,[],0,0)).2.2.2)::List.drop (y.ns_lo+(IntKind.i64.wrap (y.first+0)).toNat+1) y.nd)[y.ns_lo+(IntKind.i64.wrap (y.first+IntKind.i64.wrap (0+1))).toNat]?.getD (0,[],0,0)).1,[(IntKind.i64.wrap y.d1).tmod (↑y.ns_len:Int)],((List.take (y.ns_lo+(IntKind.i64.wrap (y.first+0)).toNat) y.nd++((y.nd[y.ns_lo+(IntKind.i64.wrap (y.first+0)).toNat]?.getD (0,[],0,0)).1,[(IntKind.i64.wrap y.d0).tmod (↑y.ns_len:Int)],(y.nd[y.ns_lo+(IntKind.i64.wrap (y.first+0)).toNat]?.getD (0,[],0,0)).2.2.1,(y.nd[y.ns_lo+(IntKind.i64.wrap (y.first+0)).toNat]?.getD (0,[],0,0)).2.2.2)::List.drop (y.ns_lo+(IntKind.i64.wrap (y.first+0)).toNat+1) y.nd)[y.ns_lo+(IntKind.i64.wrap (y.first+IntKind.i64.wrap (0+1))).toNat]?.getD (0,[],0,0)).2.2.1,((List.take (y.ns_lo+(IntKind.i64.wrap (y.first+0)).toNat) y.nd++((y.nd[y.ns_lo+(IntKind.i64.wrap (y.first+0)).toNat]?.getD (0,[],0,0)).1,[(IntKind.i64.wrap y.d0).tmod (↑y.ns_len:Int)],(y.nd[y.ns_lo+(IntKind.i64.wrap (y.first+0)).toNat]?.getD (0,[],0,0)).2.2.1,(y.nd[y.ns_lo+(IntKind.i64.wrap (y.first+0)).toNat]?.getD (0,[],0,0)).2.2.2)::List.drop (y.ns_lo+(IntKind.i64.wrap (y.first+0)).toNat+1) y.nd)[y.ns_lo+(IntKind.i64.wrap (y.first+IntKind.i64.wrap (0+1))).toNat]?.getD (0,[],0,0)).2.2.2)::List.drop (y.ns_lo+(IntKind.i64.wrap (y.first+IntKind.i64.wrap (0+1))).toNat+1) (List.take (y.ns_lo+(IntKind.i64.wrap (y.first+0)).toNat) y.nd++((y.nd[y.ns_lo+(IntKind.i64.wrap (y.first+0)).toNat]?.getD (0,[],0,0)).1,[(IntKind.i64.wrap y.d0).tmod (↑y.ns_len:Int)],(y.nd[y.ns_lo+(IntKind.i64.wrap (y.first+0)).toNat]?.getD (0,[],0,0)).2.2.1,(y.nd[y.ns_lo+(IntKind.i64.wrap (y.first+0)).toNat]?.getD (0,[],0,0)).2.2.2)::List.drop (y.ns_lo+(IntKind.i64.wrap (y.first+0)).toNat+1) y.nd),[]⟩) λy=>bindO (iter s5 ⟨y.n,0,y.xin,y.dffs,y.d0,y.d1,y.bus,y.mem,y.w0,y.w1,y.w2,y.w3,y.gates,y.xouts,y.ns_lo,y.ns_len,y.nm,0,0,y.nd,[]⟩) λy=>bif eqN y.os_lo 0&&eqN y.oxs.length y.os_len&&QT (y.os_len+1) 8 then bif leB (y.ns_lo+y.ns_len) y.nd.length&&(leB (0+(y.os_len+1)) (y.oxs++[IntKind.i64.wrap (y.n - 1)]).length&&true)&&true&&true then some (List.take y.ns_len (List.drop y.ns_lo y.nd),y.nm,[],List.take (y.os_len+1) (List.drop 0 (y.oxs++[IntKind.i64.wrap (y.n - 1)]))) else none else none else none else none else none else bif y.mem then bif nz (↑y.ns_len:Int) then bif nz (↑y.ns_len:Int) then bif nz (↑y.ns_len:Int) then bif nz (↑y.ns_len:Int) then none else none else none else none else none else bindO (iter s4 ⟨(↑y.ns_len:Int),0,y.xin,y.dffs,y.d0,y.d1,y.bus,y.mem,y.w0,y.w1,y.w2,y.w3,y.gates,y.xouts,y.ns_lo,y.ns_len,0,0,List.take (y.ns_lo+(IntKind.i64.wrap (y.first+0)).toNat) y.nd++((y.nd[y.ns_lo+(IntKind.i64.wrap (y.first+0)).toNat]?.getD (0,[],0,0)).1,[(IntKind.i64.wrap y.d0).tmod (↑y.ns_len:Int)],(y.nd[y.ns_lo+(IntKind.i64.wrap (y.first+0)).toNat]?.getD (0,[],0,0)).2.2.1,(y.nd[y.ns_lo+(IntKind.i64.wrap (y.first+0)).toNat]?.getD (0,[],0,0)).2.2.2)::List.drop (y.ns_lo+(IntKind.i64.wrap (y.first+0)).toNat+1) y.nd,[]⟩) λy=>bindO (iter s5 ⟨y.n,0,y.xin,y.dffs,y.d0,y.d1,y.bus,y.mem,y.w0,y.w1,y.w2,y.w3,y.gates,y.xouts,y.ns_lo,y.ns_len,y.nm,0,0,y.nd,[]⟩) λy=>bif eqN y.os_lo 0&&eqN y.oxs.length y.os_len&&QT (y.os_len+1) 8 then bif leB (y.ns_lo+y.ns_len) y.nd.length&&(leB (0+(y.os_len+1)) (y.oxs++[IntKind.i64.wrap (y.n - 1)]).length&&true)&&true&&true then some (List.take y.ns_len (List.drop y.ns_lo y.nd),y.nm,[],List.take (y.os_len+1) (List.drop 0 (y.oxs++[IntKind.i64.wrap (y.n - 1)]))) else none else none else none else none else none else bif y.mem then bif nz (↑y.ns_len:Int) then bif nz (↑y.ns_len:Int) then bif nz (↑y.ns_len:Int) then bif nz (↑y.ns_len:Int) then none else none else none else none else none else bindO (iter s4 ⟨(↑y.ns_len:Int),0,y.xin,y.dffs,y.d0,y.d1,y.bus,y.mem,y.w0,y.w1,y.w2,y.w3,y.gates,y.xouts,y.ns_lo,y.ns_len,0,0,y.nd,[]⟩) λy=>bindO (iter s5 ⟨y.n,0,y.xin,y.dffs,y.d0,y.d1,y.bus,y.mem,y.w0,y.w1,y.w2,y.w3,y.gates,y.xouts,y.ns_lo,y.ns_len,y.nm,0,0,y.nd,[]⟩) λy=>bif eqN y.os_lo 0&&eqN y.oxs.length y.os_len&&QT (y.os_len+1) 8 then bif leB (y.ns_lo+y.ns_len) y.nd.length&&(leB (0+(y.os_len+1)) (y.oxs++[IntKind.i64.wrap (y.n - 1)]).length&&true)&&true&&true then some (List.take y.ns_len (List.drop y.ns_lo y.nd),y.nm,[],List.take (y.os_len+1) (List.drop 0 (y.oxs++[IntKind.i64.wrap (y.n - 1)]))) else none else none
theorem m_eq(x:gX):exec E0 178 C22 0 (QD 0 (g.A x)) (g.H x) (finish 0 ty [.cell 2 34] f)=m x:=by kernel_rfl
theorem tl:QA C22 0=[(0,C22.Q0 0),(1,C22.Q0 1),(2,C22.Q0 2),(3,C22.Q0 3),(4,C22.Q0 4),(5,C22.Q0 5)]:=by kernel_rfl
theorem known:QB Tryz.prog 22 g f m:=
 Q5 mixed (Q4 ty_ok cl_ok _) s22 rfl rfl tl (Q7.cons rfl l0_ok (Q7.cons rfl l1_ok (Q7.cons rfl l2_ok (Q7.skip rfl (Q7.cons rfl l4_ok (Q7.cons rfl l5_ok Q7.nil)))))) (λ_ _=>⟨rfl,rfl⟩) (λ_ _=>⟨rfl,rfl⟩) m_eq
def con:Con:=Qa g f m default
theorem con_ok:QC Tryz.prog 22 con:=Q9 known (λ_=>rfl) rfl
end M22
namespace M14
structure gX where(nodes:List ((Int)×(List (Int))×(Int)×Int))(names:List (List UInt8))(mems:List ((List (Int))×(List (Int))×Int))(outs:List (Int))(n:Int)
def g:Sg gX:=⟨[.agg [.arr (.pair (.int .u8) (.pair (.sl (.int .i64)) (.pair (.int .i64) (.int .i64)))),.arr .str,.arr (.pair (.sl (.int .i64)) (.pair (.sl (.int .i64)) (.int .i64))),.arr (.int .i64)],.c (.it .u64)],[],λa b=>⟨a.1.1,a.1.2.1,a.1.2.2.1,a.1.2.2.2.1,a.2.1⟩,λx=>((x.nodes,(x.names,(x.mems,(x.outs,())))),(x.n,())),λx=>()⟩
abbrev fY:=List (Int)×List (Int)
def f:Ft fY:=⟨none,.agg [.arr (.int .u8),.arr (.int .u8)],[],λa b=>(a.1,a.2.1),λy=>(y.1,(y.2,())),λy=>()⟩
def cl:List (FuncId×Con):=[]
theorem cl_ok:Q8 Tryz.prog cl:=trivial
def E2:Env:=⟨ty,QE cl,λ_=>none,none⟩
structure p1X where(n k i:Int)(nodes:List ((Int)×(List (Int))×(Int)×Int))(names:List (List UInt8))(mems:List ((List (Int))×(List (Int))×Int))(outs a:List (Int))(b_lo b_len:Nat)(bxs:List (Int))
def p1:Pt p1X where
 own:=[.cell 2 1 (.int .u8)]
 t:=⟨[(1,.c (.it .u64)),(2,.c (.ptr 0 0)),(4,.c (.ptr 1 0)),(5,.c (.ptr 2 0)),(6,.c (.it .u64)),(8,.c (.it .i64))],[.st [.arr (.pair (.int .u8) (.pair (.sl (.int .i64)) (.pair (.int .i64) (.int .i64)))),.arr .str,.arr (.pair (.sl (.int .i64)) (.pair (.sl (.int .i64)) (.int .i64))),.arr (.int .i64)] 1 0,.st [.junk,.junk] 1 0,.st [.arr (.int .u8),.sl 3 0 1] 1 0,.arr (.int .u8) 0]⟩
 to:=λv=>⟨v.1.1,v.1.2.2.2.2.1,v.1.2.2.2.2.2.1,v.2.1.1,v.2.1.2.1,v.2.1.2.2.1,v.2.1.2.2.2.1,v.2.2.2.1.1,v.2.2.2.1.2.1.1,v.2.2.2.1.2.1.2,v.2.2.2.2.1⟩
 fr:=λx=>((x.n,((),((),((),(x.k,(x.i,())))))),((x.nodes,(x.names,(x.mems,(x.outs,())))),(((),((),())),((x.a,((x.b_lo,x.b_len),())),(x.bxs,())))))
structure q1X where(a b:List (Int))
def q1:Pt q1X where
 own:=[]
 t:=⟨[(4,.c (.ptr 1 0)),(5,.c (.ptr 2 0))],[.st [.junk,.junk,.junk,.junk] 1 0,.st [.junk,.junk] 1 0,.st [.arr (.int .u8),.arr (.int .u8)] 1 0]⟩
 to:=λv=>⟨v.2.2.2.1.1,v.2.2.2.1.2.1⟩
 fr:=λx=>(((),((),())),(((),((),((),((),())))),(((),((),())),((x.a,(x.b,())),()))))
def s1(x:p1X):Option (p1X⊕q1X):=bif decide (x.i<(↑x.nodes.length:Int)) then bif inR x.i x.nodes.length then bif (x.nodes[x.i.toNat]?.getD (0,[],0,0)).1==14 then bif decide (0<=x.k.tmod 64) then bif eqN x.b_lo 0&&eqN x.bxs.length x.b_len&&QT (x.b_len+1) 1 then some (Sum.inl ⟨x.n,IntKind.u64.wrap (x.k+1),IntKind.i64.wrap (x.i+1),x.nodes,x.names,x.mems,x.outs,x.a,0,x.b_len+1,x.bxs++[IntKind.u8.wrap (IntKind.u64.wrap (↑(BitVec.ofInt 64 (x.n.fdiv (2^min (x.k.tmod 64).toNat 64))&&&BitVec.ofInt 64 1).toNat:Int))]⟩) else none else none else some (Sum.inl ⟨x.n,x.k,IntKind.i64.wrap (x.i+1),x.nodes,x.names,x.mems,x.outs,x.a,x.b_lo,x.b_len,x.bxs⟩) else none else bif leB (x.b_lo+x.b_len) x.bxs.length&&true&&true then some (Sum.inr ⟨x.a,List.take x.b_len (List.drop x.b_lo x.bxs)⟩) else none
theorem s1_eq(x:p1X):exec E2 64 (C14.Q0 1) 2 (p1.R x) (p1.H x) (QP 0 p1 (.exit 2) q1)=s1 x:=by kernel_rfl
def l1:QJ:=QQ 0 p1 (.exit 2) q1 s1
theorem tl1:QA (C14.Q0 1) 2=[]:=by kernel_rfl
theorem l1_ok  :QF Tryz.prog 64 none 0 (C14.Q0 1) l1:=QG mixed (Q4 ty_ok cl_ok _) (by trivial) (λ_=>rfl) (λ_=>rfl) (tl1▸Q7.nil) s1_eq
def E1:Env:=⟨ty,QE cl,Qi [(1,l1)],none⟩
structure p0X where(n k i:Int)(nodes:List ((Int)×(List (Int))×(Int)×Int))(names:List (List UInt8))(mems:List ((List (Int))×(List (Int))×Int))(outs:List (Int))(a_lo a_len:Nat)(axs:List (Int))
def p0:Pt p0X where
 own:=[.cell 2 0 (.int .u8)]
 t:=⟨[(1,.c (.it .u64)),(2,.c (.ptr 0 0)),(4,.c (.ptr 1 0)),(5,.c (.ptr 2 0)),(6,.c (.it .u64)),(7,.c (.it .i64))],[.st [.arr (.pair (.int .u8) (.pair (.sl (.int .i64)) (.pair (.int .i64) (.int .i64)))),.arr .str,.arr (.pair (.sl (.int .i64)) (.pair (.sl (.int .i64)) (.int .i64))),.arr (.int .i64)] 1 0,.st [.junk,.junk] 1 0,.st [.sl 3 0 1,.nils] 1 0,.arr (.int .u8) 0]⟩
 to:=λv=>⟨v.1.1,v.1.2.2.2.2.1,v.1.2.2.2.2.2.1,v.2.1.1,v.2.1.2.1,v.2.1.2.2.1,v.2.1.2.2.2.1,v.2.2.2.1.1.1,v.2.2.2.1.1.2,v.2.2.2.2.1⟩
 fr:=λx=>((x.n,((),((),((),(x.k,(x.i,())))))),((x.nodes,(x.names,(x.mems,(x.outs,())))),(((),((),())),(((x.a_lo,x.a_len),((),())),(x.axs,())))))
structure q0X where(n k:Int)(nodes:List ((Int)×(List (Int))×(Int)×Int))(names:List (List UInt8))(mems:List ((List (Int))×(List (Int))×Int))(outs a:List (Int))
def q0:Pt q0X where
 own:=[]
 t:=⟨[(1,.c (.it .u64)),(2,.c (.ptr 0 0)),(4,.c (.ptr 1 0)),(5,.c (.ptr 2 0)),(6,.c (.it .u64))],[.st [.arr (.pair (.int .u8) (.pair (.sl (.int .i64)) (.pair (.int .i64) (.int .i64)))),.arr .str,.arr (.pair (.sl (.int .i64)) (.pair (.sl (.int .i64)) (.int .i64))),.arr (.int .i64)] 1 0,.st [.junk,.junk] 1 0,.st [.arr (.int .u8),.nils] 1 0]⟩
 to:=λv=>⟨v.1.1,v.1.2.2.2.2.1,v.2.1.1,v.2.1.2.1,v.2.1.2.2.1,v.2.1.2.2.2.1,v.2.2.2.1.1⟩
 fr:=λx=>((x.n,((),((),((),(x.k,()))))),((x.nodes,(x.names,(x.mems,(x.outs,())))),(((),((),())),((x.a,((),())),()))))
def s0(x:p0X):Option (p0X⊕q0X):=bif decide (x.i<(↑x.nodes.length:Int)) then bif inR x.i x.nodes.length then bif (x.nodes[x.i.toNat]?.getD (0,[],0,0)).1==0 then bif decide (0<=x.k.tmod 64) then bif eqN x.a_lo 0&&eqN x.axs.length x.a_len&&QT (x.a_len+1) 1 then some (Sum.inl ⟨x.n,IntKind.u64.wrap (x.k+1),IntKind.i64.wrap (x.i+1),x.nodes,x.names,x.mems,x.outs,0,x.a_len+1,x.axs++[IntKind.u8.wrap (IntKind.u64.wrap (↑(BitVec.ofInt 64 (x.n.fdiv (2^min (x.k.tmod 64).toNat 64))&&&BitVec.ofInt 64 1).toNat:Int))]⟩) else none else none else some (Sum.inl ⟨x.n,x.k,IntKind.i64.wrap (x.i+1),x.nodes,x.names,x.mems,x.outs,x.a_lo,x.a_len,x.axs⟩) else none else bif leB (x.a_lo+x.a_len) x.axs.length&&true&&true then some (Sum.inr ⟨x.n,x.k,x.nodes,x.names,x.mems,x.outs,List.take x.a_len (List.drop x.a_lo x.axs)⟩) else none
theorem s0_eq(x:p0X):exec E1 64 (C14.Q0 0) 1 (p0.R x) (p0.H x) (QP 0 p0 (.exit 0) q0)=s0 x:=by kernel_rfl
def l0:QJ:=QQ 0 p0 (.exit 0) q0 s0
theorem tl0:QA (C14.Q0 0) 1=[]:=by kernel_rfl
theorem l0_ok  :QF Tryz.prog 64 none 0 (C14.Q0 0) l0:=QG mixed (Q4 ty_ok cl_ok _) (by trivial) (λ_=>rfl) (λ_=>rfl) (tl0▸Q7.nil) s0_eq
def E0:Env:=⟨ty,QE cl,Qi [(0,l0),(1,l1)],none⟩
def m(x:gX):Option fY:=bindO (iter s0 ⟨x.n,0,0,x.nodes,x.names,x.mems,x.outs,0,0,[]⟩) λy=>bindO (iter s1 ⟨y.n,y.k,0,y.nodes,y.names,y.mems,y.outs,y.a,0,0,[]⟩) λy=>some (y.a,y.b)
theorem m_eq(x:gX):exec E0 64 C14 0 (QD 0 (g.A x)) (g.H x) (finish 0 ty [.cell 4 74] f)=m x:=by kernel_rfl
theorem tl:QA C14 0=[(0,C14.Q0 0),(1,C14.Q0 1)]:=by kernel_rfl
theorem known:QB Tryz.prog 14 g f m:=
 Q5 mixed (Q4 ty_ok cl_ok _) s14 rfl rfl tl (Q7.cons rfl l0_ok (Q7.cons rfl l1_ok Q7.nil)) (λ_ _=>⟨rfl,rfl⟩) (λ_ _=>⟨rfl,rfl⟩) m_eq
def con:Con:=Qa g f m default
theorem con_ok:QC Tryz.prog 14 con:=Q9 known (λ_=>rfl) rfl
end M14
namespace M39
structure gX where(fmodel fnode fpin fother:Int)(fone:Bool)(nodes:List ((Int)×(List (Int))×(Int)×Int))(names:List (List UInt8))(mems:List ((List (Int))×(List (Int))×Int))(outs:List (Int))
def g:Sg gX:=⟨[.agg [.it .u8,.it .u8,.it .u8,.it .u8,.bo],.agg [.arr (.pair (.int .u8) (.pair (.sl (.int .i64)) (.pair (.int .i64) (.int .i64)))),.arr .str,.arr (.pair (.sl (.int .i64)) (.pair (.sl (.int .i64)) (.int .i64))),.arr (.int .i64)]],[],λa b=>⟨a.1.1,a.1.2.1,a.1.2.2.1,a.1.2.2.2.1,a.1.2.2.2.2.1,a.2.1.1,a.2.1.2.1,a.2.1.2.2.1,a.2.1.2.2.2.1⟩,λx=>((x.fmodel,(x.fnode,(x.fpin,(x.fother,(x.fone,()))))),((x.nodes,(x.names,(x.mems,(x.outs,())))),())),λx=>()⟩
abbrev fY:=Int×Int×Int×Int×Int
def f:Ft fY:=⟨none,.agg [.it .u8,.it .i64,.it .i64,.it .u8,.it .i64],[],λa b=>(a.1,a.2.1,a.2.2.1,a.2.2.2.1,a.2.2.2.2.1),λy=>(y.1,(y.2.1,(y.2.2.1,(y.2.2.2.1,(y.2.2.2.2,()))))),λy=>()⟩
def cl:List (FuncId×Con):=[]
theorem cl_ok:Q8 Tryz.prog cl:=trivial
def E0:Env:=⟨ty,QE cl,λ_=>none,none⟩
def m(x:gX):Option fY:=bif (↑x.nodes.length:Int)==0 then some (0,0,-1,0,0) else bif nz (↑x.nodes.length:Int) then bif x.fone then bif decide (x.fmodel.tmod 4>=2) then bif nz (↑x.nodes.length:Int) then bif bif x.fmodel.tmod 4==2 then decide ((IntKind.i64.wrap x.fother).tmod (↑x.nodes.length:Int)<(IntKind.i64.wrap x.fnode).tmod (↑x.nodes.length:Int)) else false then bif x.fmodel.tmod 4==3 then none else none else bif x.fmodel.tmod 4==3 then none else none else none else bif inR ((IntKind.i64.wrap x.fnode).tmod (↑x.nodes.length:Int)) x.nodes.length then bif nz (IntKind.i64.wrap ((↑(List.length (x.nodes[((IntKind.i64.wrap x.fnode).tmod (↑x.nodes.length:Int)).toNat]?.getD (0,[],0,0)).2.1):Int)+1)) then some (x.fmodel.tmod 4,(IntKind.i64.wrap x.fnode).tmod (↑x.nodes.length:Int), IntKind.i64.wrap ((IntKind.i64.wrap x.fpin).tmod (IntKind.i64.wrap ((↑(List.length (x.nodes[((IntKind.i64.wrap x.fnode).tmod (↑x.nodes.length:Int)).toNat]?.getD (0,[],0,0)).2.1):Int)+1)) - 1), 1,0) else none else none else bif decide (x.fmodel.tmod 4>=2) then bif nz (↑x.nodes.length:Int) then bif bif x.fmodel.tmod 4==2 then decide ((IntKind.i64.wrap x.fother).tmod (↑x.nodes.length:Int)<(IntKind.i64.wrap x.fnode).tmod (↑x.nodes.length:Int)) else false then bif x.fmodel.tmod 4==3 then none else none else bif x.fmodel.tmod 4==3 then none else none else none else bif inR ((IntKind.i64.wrap x.fnode).tmod (↑x.nodes.length:Int)) x.nodes.length then bif nz (IntKind.i64.wrap ((↑(List.length (x.nodes[((IntKind.i64.wrap x.fnode).tmod (↑x.nodes.length:Int)).toNat]?.getD (0,[],0,0)).2.1):Int)+1)) then some (x.fmodel.tmod 4,(IntKind.i64.wrap x.fnode).tmod (↑x.nodes.length:Int), IntKind.i64.wrap ((IntKind.i64.wrap x.fpin).tmod (IntKind.i64.wrap ((↑(List.length (x.nodes[((IntKind.i64.wrap x.fnode).tmod (↑x.nodes.length:Int)).toNat]?.getD (0,[],0,0)).2.1):Int)+1)) - 1), 0,0) else none else none else none
theorem m_eq(x:gX):exec E0 86 C39 0 (QD 0 (g.A x)) (g.H x) (finish 0 ty [.cell 4 58] f)=m x:=by kernel_rfl
theorem tl:QA C39 0=[]:=by kernel_rfl
theorem known:QB Tryz.prog 39 g f m:=
 Q5 mixed (Q4 ty_ok cl_ok _) s39 rfl rfl tl Q7.nil (λ_ _=>⟨rfl,rfl⟩) (λ_ _=>⟨rfl,rfl⟩) m_eq
def con:Con:=Qa g f m default
theorem con_ok:QC Tryz.prog 39 con:=Q9 known (λ_=>rfl) rfl
end M39
namespace M13
structure gX where(nodes:List ((Int)×(List (Int))×(Int)×Int))(names:List (List UInt8))(mems:List ((List (Int))×(List (Int))×Int))(outs:List (Int))(fmodel fnode fpin fother:Int)(fone:Bool)
def g:Sg gX:=⟨[.agg [.arr (.pair (.int .u8) (.pair (.sl (.int .i64)) (.pair (.int .i64) (.int .i64)))),.arr .str,.arr (.pair (.sl (.int .i64)) (.pair (.sl (.int .i64)) (.int .i64))),.arr (.int .i64)],.agg [.it .u8,.it .u8,.it .u8,.it .u8,.bo]],[],λa b=>⟨a.1.1,a.1.2.1,a.1.2.2.1,a.1.2.2.2.1,a.2.1.1,a.2.1.2.1,a.2.1.2.2.1,a.2.1.2.2.2.1,a.2.1.2.2.2.2.1⟩,λx=>((x.nodes,(x.names,(x.mems,(x.outs,())))),((x.fmodel,(x.fnode,(x.fpin,(x.fother,(x.fone,()))))),())),λx=>()⟩
abbrev fY:=Int×Int×Int×Int×Int
def f:Ft fY:=⟨none,.agg [.it .u8,.it .i64,.it .i64,.it .u8,.it .i64],[],λa b=>(a.1,a.2.1,a.2.2.1,a.2.2.2.1,a.2.2.2.2.1),λy=>(y.1,(y.2.1,(y.2.2.1,(y.2.2.2.1,(y.2.2.2.2,()))))),λy=>()⟩
def cl:List (FuncId×Con):=[(39,M39.con)]
theorem cl_ok:Q8 Tryz.prog cl:=⟨M39.con_ok,trivial⟩
def E0:Env:=⟨ty,QE cl,λ_=>none,none⟩
def m(x:gX):Option fY:=bindO (M39.m ⟨0,x.fnode,x.fpin,x.fother,x.fone,x.nodes,x.names,x.mems,x.outs⟩) λy=>some (y.1,y.2.1,y.2.2.1,y.2.2.2.1,y.2.2.2.2)
theorem m_eq(x:gX):exec E0 9 C13 0 (QD 0 (g.A x)) (g.H x) (finish 0 ty [.cell 4 58] f)=m x:=by kernel_rfl
theorem tl:QA C13 0=[]:=by kernel_rfl
theorem known:QB Tryz.prog 13 g f m:=
 Q5 mixed (Q4 ty_ok cl_ok _) s13 rfl rfl tl Q7.nil (λ_ _=>⟨rfl,rfl⟩) (λ_ _=>⟨rfl,rfl⟩) m_eq
def con:Con:=Qa g f m default
theorem con_ok:QC Tryz.prog 13 con:=Q9 known (λ_=>rfl) rfl
end M13
namespace M5
structure gX where(xin dffs d0 d1:Int)(bus mem:Bool)(w0 w1 w2 w3:Int)(gates:List ((Int)×(Int)×(Int)×Int))(xouts:List (Int))
def g:Sg gX:=⟨[.agg [.it .u8,.it .u8,.it .u8,.it .u8,.bo,.bo,.it .u8,.it .u8,.it .u8,.it .u8,.arr (.pair (.int .u8) (.pair (.int .u8) (.pair (.int .u8) (.int .u8)))),.arr (.int .u8)]],[],λa b=>⟨a.1.1,a.1.2.1,a.1.2.2.1,a.1.2.2.2.1,a.1.2.2.2.2.1,a.1.2.2.2.2.2.1,a.1.2.2.2.2.2.2.1,a.1.2.2.2.2.2.2.2.1,a.1.2.2.2.2.2.2.2.2.1,a.1.2.2.2.2.2.2.2.2.2.1,a.1.2.2.2.2.2.2.2.2.2.2.1,a.1.2.2.2.2.2.2.2.2.2.2.2.1⟩,λx=>((x.xin,(x.dffs,(x.d0,(x.d1,(x.bus,(x.mem,(x.w0,(x.w1,(x.w2,(x.w3,(x.gates,(x.xouts,())))))))))))),()),λx=>()⟩
abbrev fY:=(List ((Int)×(List (Int))×(Int)×Int))×List (List UInt8)×(List ((List (Int))×(List (Int))×Int))×List (Int)
def f:Ft fY:=⟨none,.agg [.arr (.pair (.int .u8) (.pair (.sl (.int .i64)) (.pair (.int .i64) (.int .i64)))),.arr .str,.arr (.pair (.sl (.int .i64)) (.pair (.sl (.int .i64)) (.int .i64))),.arr (.int .i64)],[],λa b=>(a.1,a.2.1,a.2.2.1,a.2.2.2.1),λy=>(y.1,(y.2.1,(y.2.2.1,(y.2.2.2,())))),λy=>()⟩
def cl:List (FuncId×Con):=[(22,M22.con)]
theorem cl_ok:Q8 Tryz.prog cl:=⟨M22.con_ok,trivial⟩
def E0:Env:=⟨ty,QE cl,λ_=>none,none⟩
def m(x:gX):Option fY:=bindO (M22.m ⟨x.xin,x.dffs,x.d0,x.d1,x.bus,false,x.w0,x.w1,x.w2,x.w3,x.gates,x.xouts⟩) λy=>some (y.1,y.2.1,y.2.2.1,y.2.2.2)
theorem m_eq(x:gX):exec E0 6 C5 0 (QD 0 (g.A x)) (g.H x) (finish 0 ty [.cell 2 34] f)=m x:=by kernel_rfl
theorem tl:QA C5 0=[]:=by kernel_rfl
theorem known:QB Tryz.prog 5 g f m:=
 Q5 mixed (Q4 ty_ok cl_ok _) s5 rfl rfl tl Q7.nil (λ_ _=>⟨rfl,rfl⟩) (λ_ _=>⟨rfl,rfl⟩) m_eq
def con:Con:=Qa g f m default
theorem con_ok:QC Tryz.prog 5 con:=Q9 known (λ_=>rfl) rfl
end M5
namespace Co
abbrev inpN:Int×List Int×Int×Int:=(0,[],0,0)
abbrev dffN:Int×List Int×Int×Int:=(14,[0],0,0)
theorem Bd.nil:Bd []:=⟨λi hi=>by cases hi⟩
theorem bd_inp:∀i,Bd (List.replicate i inpN)
 |0=>Bd.nil
 |i+1=>by rw[List.replicate_succ'];exact(bd_inp i).snoc ⟨CY _,by decide,AO rfl,AO rfl,AO rfl,λa ha=>(by cases ha),λh=>(by cases h),λh=>absurd h (by decide),rfl,rfl⟩
theorem bd_dff{i:Nat}(h:0<i):∀j,Bd (List.replicate i inpN++List.replicate j dffN)
 |0=>by rw[List.replicate_zero,Br];exact bd_inp i
 |j+1=>by rw[List.replicate_succ',<-Ac];refine(bd_dff h j).snoc ⟨by decide,by decide,AO rfl,AO rfl,AO rfl,λa ha=> ?_,λh=>(by cases h),λh=>absurd h (by decide),rfl,rfl⟩;have ha:a∈([0]:List Int):=ha;rw[Ai.1 ha];exact⟨CY _,by simp;omega⟩
def putN(nd:NodeL)(i:Nat)(v:Int):NodeL:=nd.set i ((nd[i]?.getD (0,[],0,0)).1,[v],(nd[i]?.getD (0,[],0,0)).2.2.1,(nd[i]?.getD (0,[],0,0)).2.2.2)
theorem putN_eq{nd:NodeL}{i:Nat}{v:Int}(hi:i<nd.length):List.take i nd++((nd[i]?.getD (0,[],0,0)).1,[v],(nd[i]?.getD (0,[],0,0)).2.2.1,(nd[i]?.getD (0,[],0,0)).2.2.2)::List.drop (i+1) nd=putN nd i v:=by unfold putN;rw[List.set_eq_take_append_cons_drop,AF hi]
theorem putN_len{nd:NodeL}{i:Nat}{v:Int}:(putN nd i v).length=nd.length:=BY
theorem putN_kd{nd:NodeL}{i:Nat}{v a:Int}:kd (putN nd i v) a=kd nd a:=by
 unfold kd putN;rw[List.getElem?_set];by_cases e:i=a.toNat
 ·subst e;by_cases hi:a.toNat<nd.length
  ·rw[AF rfl,AF hi];rfl
  ·rw[AF rfl,AP hi,Ab (by omega)]
 ·rw[AP e]
theorem putN_at{nd:NodeL}{i j:Nat}{v:Int}(h:i≠j):(putN nd i v)[j]?.getD (0,[],0,0)=nd[j]?.getD (0,[],0,0):=by unfold putN;rw[List.getElem?_set,AP h]
theorem Bd.put{nd:NodeL}(h:Bd nd){i:Nat}(hi:i<nd.length){v:Int}(hv:In nd.length v)(hk:(nd[i]?.getD (0,[],0,0)).1=14):Bd (putN nd i v) where
 nn:=λj hj=>by
  rw[putN_len]at hj⊢;have h2:(putN nd i v)[j]'(by rw[putN_len];exact hj)=if i=j then ((nd[i]?.getD (0,[],0,0)).1,[v],(nd[i]?.getD (0,[],0,0)).2.2.1,(nd[i]?.getD (0,[],0,0)).2.2.2) else nd[j]:=by unfold putN;rw[C0]
  rw[h2];by_cases e:i=j
  ·subst e;rw[AF rfl,hk];have g:=h.nn i hi;rw[A4 hi,BC];refine⟨AO rfl,AO rfl,AO rfl,AO rfl,AO rfl,λa ha=> ?_,λh=>(by cases h),λh=>absurd h (by show¬(14:Int)=13;omega),g.mem,g.bit⟩;have ha:a∈[v]:=ha;rw[Ai.1 ha];exact hv
  ·rw[AP e];have g:=h.nn j hj;exact { g with tri:=λhk a ha=>by rw[putN_kd];exact g.tri hk a ha }
structure Xc(xi df d0 d1:Int)(gs:List (Int×Int×Int×Int))(xo:List Int):Prop where
 xi:B8 xi
 df:B8 df
 d0:B8 d0
 d1:B8 d1
 gs:∀g∈gs,B8 g.1/\B8 g.2.1/\B8 g.2.2.1/\B8 g.2.2.2
 xo:∀o∈xo,B8 o
theorem rem8{x:Int}(h:B8 x){k:Nat}(hk:0<k)(hk':k<=100):∃r:Nat,IntKind.i64.wrap (x.tmod (k:Int))=(r:Int)/\r<k:=by have e:x.tmod (k:Int)=x%(k:Int):=Ap h.1;have h1:0<=x%(k:Int):=Int.emod_nonneg _ (by omega);have h2:x%(k:Int)<(k:Int):=Cf _ (by omega);refine⟨(x%(k:Int)).toNat,?_,by omega⟩;rw[e,w64 (by omega) (by omega)];omega
theorem m52{i:Nat}(h:i<100):M52.m ⟨(i:Int)⟩=some (M52.nm i):=by unfold M52.m;exact AF ⟨by show(0:Int)<=i;omega,by show(i:Int)<100;omega⟩
section
variable {xi df d0 d1 w0 w1 w2 w3:Int}{bus:Bool}{gs:List (Int×Int×Int×Int)}{xo:List Int}
theorem m22_4{nd:NodeL}{n:Nat}(hn:n<=14):iter M22.s4 ⟨(n:Int),0,xi,df,d0,d1,bus,false,w0,w1,w2,w3,gs,xo,0,n,0,0,nd,[]⟩=some ⟨(n:Int),xi,df,d0,d1,bus,false,w0,w1,w2,w3,gs,xo,0,n,(List.range n).map M52.nm,nd⟩:=by
 have key:=iter_count (step:=M22.s4) (λi=>⟨(n:Int),(i:Int),xi,df,d0,d1,bus,false,w0,w1,w2,w3,gs,xo,0,n,0,i,nd,(List.range i).map M52.nm⟩) (y:=⟨(n:Int),xi,df,d0,d1,bus,false,w0,w1,w2,w3,gs,xo,0,n,(List.range n).map M52.nm,nd⟩) n (λi hi=>by
  have c1:=ilt (a:=(i:Int)) (b:=(n:Int)) (by omega);have e:(List.range (i+1)).map M52.nm=(List.range i).map M52.nm++[M52.nm i]:=(by rw[List.range_succ,AZ];rfl);unfold M22.s4;simp only[c1,A5,m52 (i:=i) (by omega),bindO,eqN_of rfl,eqN_of (show((List.range i).map M52.nm).length=i by simp),room (n:=i+1) (b:=16) (by omega) (by omega),AG,suc (i:=i) (by omega),e]) (by
  have c1:=inlt (a:=(n:Int)) (b:=(n:Int)) (by omega);unfold M22.s4;simp only[c1,A7,AI,AA,List.length_range,leB_of (A6 _),AG,A5,AU];rw[AJ (by simp)])
 exact key
def oxn(xo:List Int)(n i:Nat):List Int:=(xo.take i).map λo=>(IntKind.i64.wrap o).tmod (n:Int)
theorem m22_5{nd:NodeL}{nm:List (List UInt8)}{n:Nat}(h0:0<n)(hn:n<=14):iter M22.s5 ⟨(n:Int),0,xi,df,d0,d1,bus,false,w0,w1,w2,w3,gs,xo,0,n,nm,0,0,nd,[]⟩=some ⟨(n:Int),0,n,nm,0,min xo.length 3,nd,oxn xo n (min xo.length 3)⟩:=by
 have key:=iter_count (step:=M22.s5) (λi=>⟨(n:Int),(i:Int),xi,df,d0,d1,bus,false,w0,w1,w2,w3,gs,xo,0,n,nm,0,i,nd,oxn xo n i⟩) (y:=⟨(n:Int),0,n,nm,0,min xo.length 3,nd,oxn xo n (min xo.length 3)⟩) (min xo.length 3) (λi hi=>by
  have hi1:i<xo.length:=(by omega);have c1:=ilt (a:=(i:Int)) (b:=(xo.length:Int)) (by omega);have c2:=ilt (a:=(i:Int)) (b:=3) (by omega);have hl:(oxn xo n i).length=i:=(by simp[oxn];omega);have e:oxn xo n (i+1)=oxn xo n i++[(IntKind.i64.wrap xo[i]).tmod (n:Int)]:=(by unfold oxn;rw[take_succ' hi1,AZ];rfl);unfold M22.s5;simp only[c1,c2,A5,inR_nat hi1,nzN h0,eqN_of rfl,eqN_of hl,room (n:=i+1) (b:=8) (by omega) (by omega),AG,suc (i:=i) (by omega),getD_at hi1,e]) (by
  have c1:(bif decide (((min xo.length 3:Nat):Int)<(xo.length:Int)) then decide (((min xo.length 3:Nat):Int)<3) else false)=false:=by
   by_cases h:xo.length<=3
   ·rw[inlt (a:=((min xo.length 3:Nat):Int)) (b:=(xo.length:Int)) (by omega)];rfl
   ·rw[inlt (a:=((min xo.length 3:Nat):Int)) (b:=3) (by omega)];cases decide (((min xo.length 3:Nat):Int)<(xo.length:Int))<;>rfl
  unfold M22.s5;simp only[c1,A7])
 exact key
structure Ofd(N:NodeL)(C:List Int):Prop where
 bd:Bd N
 l0:0<N.length
 l1:N.length<=14
 oc:∀a∈C,In N.length a
 lc:C.length<=4
theorem m22(h:Xc xi df d0 d1 gs xo):∃N C,M22.m ⟨xi,df,d0,d1,bus,false,w0,w1,w2,w3,gs,xo⟩=some (N,(List.range N.length).map M52.nm,[],C)/\Ofd N C:=by
 obtain⟨a,ha,ha4⟩:=rem8 h.xi (k:=4) (by omega) (by omega);obtain⟨b,hb,hb3⟩:=rem8 h.df (k:=3) (by omega) (by omega);have ha:IntKind.i64.wrap (xi.tmod 4)=(a:Int):=ha;have hb:IntKind.i64.wrap (df.tmod 3)=(b:Int):=hb;have k0:=iter_count (step:=M22.s0) (λi=>⟨(i:Int),xi,df,d0,d1,bus,false,w0,w1,w2,w3,gs,xo,0,i,List.replicate i inpN⟩) (y:=⟨xi,df,d0,d1,bus,false,w0,w1,w2,w3,gs,xo,0,a+1,List.replicate (a+1) inpN⟩) (a+1) (λi hi=>by
  have c1:decide ((i:Int)<=(a:Int))=true:=AB (by omega);unfold M22.s0;simp only[ha,c1,A5,eqN_of rfl,BR,room (n:=i+1) (b:=48) (by omega) (by omega),AG,suc (i:=i) (by omega)];rw[<-List.replicate_succ']) (by
  have c1:decide (((a+1:Nat):Int)<=(a:Int))=false:=AN (by omega);unfold M22.s0;simp only[ha,c1,A7])
 have k1:=iter_count (step:=M22.s1) (λj=>⟨((a+1:Nat):Int),(b:Int),(j:Int),xi,df,d0,d1,bus,false,w0,w1,w2,w3,gs,xo,0,a+1+j,List.replicate (a+1) inpN++List.replicate j dffN⟩) (y:=⟨((a+1:Nat):Int),(b:Int),xi,df,d0,d1,bus,false,w0,w1,w2,w3,gs,xo,0,a+1+b,List.replicate (a+1) inpN++List.replicate b dffN⟩) b (λj hj=>by
  have c1:=ilt (a:=(j:Int)) (b:=(b:Int)) (by omega);have e:List.replicate (a+1) inpN++List.replicate (j+1) dffN=List.replicate (a+1) inpN++List.replicate j dffN++[dffN]:=(by rw[List.replicate_succ' (n:=j),Ac]);unfold M22.s1;simp only[c1,A5,eqN_of rfl,eqN_of (show(List.replicate (a+1) inpN++List.replicate j dffN).length=a+1+j by simp),room (n:=a+1+j+1) (b:=48) (by omega) (by omega),AG,suc (i:=j) (by omega),e];rfl) (by
  have c1:=inlt (a:=(b:Int)) (b:=(b:Int)) (by omega);unfold M22.s1;simp only[c1,A7])
 obtain⟨y,k2,nd,e2,B,L1,L2,t,T⟩:=iter_inv (step:=M22.s2) (λx=>∃(i:Nat) (nd:NodeL),x=(⟨((a+1:Nat):Int),(b:Int),(i:Int),xi,df,d0,d1,bus,false,w0,w1,w2,w3,gs,xo,0,nd.length,nd⟩:M22.p2X)/\i<=8/\Bd nd/\a+1+b+i=nd.length/\∃t,nd=(List.replicate (a+1) inpN++List.replicate b dffN)++t) (λx=>8 - x.i.toNat)
  (λy=>∃nd:NodeL,y=(⟨((a+1:Nat):Int),(b:Int),xi,df,d0,d1,bus,false,w0,w1,w2,w3,gs,xo,0,nd.length,nd⟩:M22.q2X)/\Bd nd/\a+1+b<=nd.length/\nd.length<=14/\∃t,nd=(List.replicate (a+1) inpN++List.replicate b dffN)++t) (by
   rintro x ⟨i,nd,rfl,hi,B,L,t,T⟩;unfold M22.s2;by_cases hlt:i<gs.length/\i<8
   ·have c1:=ilt (a:=(i:Int)) (b:=(gs.length:Int)) (by omega);have c2:=ilt (a:=(i:Int)) (b:=8) (by omega);have hg:=h.gs _ (AH hlt.1);have e:gs[(i:Int).toNat]?.getD (0,0,0,0)=gs[i]:=getD_at hlt.1 _;obtain⟨k,p,g1,g2⟩:=m51 (xi:=xi) (df:=df) (d0:=d0) (d1:=d1) (w0:=w0) (w1:=w1) (w2:=w2) (w3:=w3) (bus:=bus) (mem:=false) (gs:=gs) (xo:=xo) (nd:=nd) (by omega) (by omega) hg.1 hg.2.1 hg.2.2.1 hg.2.2.2;simp only[c1,c2,A5,inR_nat hlt.1,e,g1,bindO,eqN_of rfl,room (n:=nd.length+1) (b:=48) (by omega) (by omega),AG,suc (i:=i) (by omega)];exact⟨_,rfl,⟨i+1,nd++[(k,p,0,0)],by simp,by omega,B.snoc g2,by simp;omega,t++[(k,p,0,0)],by rw[T];simp⟩,by simp;omega⟩
   ·have c:(bif decide ((i:Int)<(gs.length:Int)) then decide ((i:Int)<8) else false)=false:=by
     by_cases h1:i<gs.length
     ·have:¬i<8:=λh2=>hlt ⟨h1,h2⟩;rw[inlt (a:=(i:Int)) (b:=8) (by omega)];cases decide ((i:Int)<(gs.length:Int))<;>rfl
     ·rw[inlt (a:=(i:Int)) (b:=(gs.length:Int)) (by omega)];rfl
    simp only[c,A7];exact⟨_,rfl,nd,rfl,B,by omega,by omega,t,T⟩) ⟨((a+1:Nat):Int),(b:Int),((0:Nat):Int),xi,df,d0,d1,bus,false,w0,w1,w2,w3,gs,xo,0,(List.replicate (a+1) inpN++List.replicate b dffN).length,List.replicate (a+1) inpN++List.replicate b dffN⟩ ⟨0,_,rfl,by omega,bd_dff (by omega) b,by simp,[],by simp⟩
 have hlen:(List.replicate (a+1) inpN++List.replicate b dffN).length=a+1+b:=by simp
 rw[hlen]at k2;have kdf:∀j,j<b->(nd[a+1+j]?.getD (0,[],0,0)).1=14:=λj hj=>by rw[T,AK (by rw[hlen];omega),AS (by simp),BR,show a+1+j - (a+1)=j by omega];simp[hj]
 have hn0:0<nd.length:=by omega
 -- the outputs
 have fin:∀N:NodeL,N.length=nd.length->Bd N->∃C,(oxn xo nd.length (min xo.length 3)++[IntKind.i64.wrap ((nd.length:Int) - 1)])=C/\Ofd N C:=λN hN hB=>by
  refine⟨_,rfl,hB,by omega,by omega,λx hx=> ?_,?_⟩
  ·rw[hN];rcases Ad.1 hx with hx|hx
   ·unfold oxn at hx;obtain⟨o,ho,rfl⟩:=Ba.1 hx;exact modIn (h.xo o (CX ho)) hn0
   ·rw[Ai.1 hx,w64 (by omega) (by omega)];exact⟨by omega,by omega⟩
  ·simp[oxn];omega
 have hol:(oxn xo nd.length (min xo.length 3)).length=min xo.length 3:=by simp[oxn]
 have k0':iter M22.s0 { i:=0,xin:=xi,dffs:=df,d0:=d0,d1:=d1,bus:=bus,mem:=false,w0:=w0,w1:=w1,w2:=w2,w3:=w3,gates:=gs,xouts:=xo,ns_lo:=0,ns_len:=0,nd:=[] }=_:=k0;have k1':iter M22.s1 { first:=((a+1:Nat):Int),df:=(b:Int),i:=0,xin:=xi,dffs:=df,d0:=d0,d1:=d1,bus:=bus,mem:=false,w0:=w0,w1:=w1,w2:=w2,w3:=w3,gates:=gs,xouts:=xo,ns_lo:=0,ns_len:=a+1,nd:=List.replicate (a+1) inpN }=some ⟨((a+1:Nat):Int),(b:Int),xi,df,d0,d1,bus,false,w0,w1,w2,w3,gs,xo,0,a+1+b,List.replicate (a+1) inpN++List.replicate b dffN⟩:=by have:=k1;simp only[List.replicate_zero,Br,BZ]at this;exact this
 have k2':iter M22.s2 { first:=((a+1:Nat):Int),df:=(b:Int),i:=0,xin:=xi,dffs:=df,d0:=d0,d1:=d1,bus:=bus,mem:=false,w0:=w0,w1:=w1,w2:=w2,w3:=w3,gates:=gs,xouts:=xo,ns_lo:=0,ns_len:=a+1+b,nd:=List.replicate (a+1) inpN++List.replicate b dffN }=some y:=k2;unfold M22.m;simp only[k0',hb,k1',k2',e2,bindO,A7];have v0:=modIn (n:=nd.length) h.d0 hn0;have v1:=modIn (n:=nd.length) h.d1 hn0;have x0:IntKind.i64.wrap (((a+1:Nat):Int)+0)=((a+1:Nat):Int):=by rw[Int.add_zero];exact w64 (by omega) (by omega)
 have x1:IntKind.i64.wrap (0+1)=1:=w64 (by omega) (by omega);have x2:IntKind.i64.wrap (((a+1:Nat):Int)+1)=((a+1+1:Nat):Int):=by rw[w64 (by omega) (by omega)];omega
 have x3:IntKind.i64.wrap (1+1)=2:=w64 (by omega) (by omega);have lo:∀N:NodeL,N.length=nd.length->List.take nd.length N=N:=λN hN=>AJ (by omega);have l1:(oxn xo nd.length (min xo.length 3)++[IntKind.i64.wrap ((nd.length:Int) - 1)]).length=min xo.length 3+1:=by rw[AL,hol];rfl
 have l2:List.take (min xo.length 3+1) (oxn xo nd.length (min xo.length 3)++[IntKind.i64.wrap ((nd.length:Int) - 1)])=oxn xo nd.length (min xo.length 3)++[IntKind.i64.wrap ((nd.length:Int) - 1)]:=AJ (by omega);have hb':b=0\/b=1\/b=2:=by omega
 rcases hb' with rfl|rfl|rfl
 ·have c0:decide (0<((0:Nat):Int))=false:=rfl;obtain⟨C,hC,hO⟩:=fin nd rfl B;have l1':C.length=min xo.length 3+1:=(by rw[<-hC];exact l1);have l2':List.take (min xo.length 3+1) C=C:=(by rw[<-hC];exact l2);refine⟨nd,C,?_,hO⟩;simp only[c0,A7,m22_4 (nd:=nd) L2,bindO,m22_5 (nd:=nd) hn0 L2,eqN_of rfl,eqN_of hol,room (n:=min xo.length 3+1) (b:=8) (by omega) (by omega),AG,A5,AI,leB_of (A6 _),hC,l1',l2',AU,lo nd rfl]
 ·have c0:decide (0<((1:Nat):Int))=true:=rfl;have c1:decide ((1:Int)<((1:Nat):Int))=false:=rfl;have i1:a+1<nd.length:=(by omega);have B1:=B.put i1 v0 (by have:=kdf 0 (by omega);exact this);obtain⟨C,hC,hO⟩:=fin (putN nd (a+1) ((IntKind.i64.wrap d0).tmod (nd.length:Int))) putN_len B1;have l1':C.length=min xo.length 3+1:=(by rw[<-hC];exact l1);have l2':List.take (min xo.length 3+1) C=C:=(by rw[<-hC];exact l2);refine⟨_,C,?_,hO⟩;simp only[c0,A5,nzN hn0,x0,inR_nat i1,AI,AC,dlt i1,x1,c1,A7,putN_eq i1,m22_4 (nd:=putN nd (a+1) ((IntKind.i64.wrap d0).tmod (nd.length:Int))) L2,bindO,m22_5 (nd:=putN nd (a+1) ((IntKind.i64.wrap d0).tmod (nd.length:Int))) hn0 L2,eqN_of rfl,eqN_of hol,room (n:=min xo.length 3+1) (b:=8) (by omega) (by omega),AG,putN_len,leB_of (A6 _),hC,l1',l2',AU,lo _ (putN_len (nd:=nd) (i:=a+1) (v:=(IntKind.i64.wrap d0).tmod (nd.length:Int)))]
 ·have c0:decide (0<((2:Nat):Int))=true:=rfl;have c1:decide ((1:Int)<((2:Nat):Int))=true:=rfl;have c2:decide ((2:Int)<((2:Nat):Int))=false:=rfl;have i1:a+1<nd.length:=(by omega);have i2:a+1+1<nd.length:=(by omega);have B1:=B.put i1 v0 (by have:=kdf 0 (by omega);exact this);have i2':a+1+1<(putN nd (a+1) ((IntKind.i64.wrap d0).tmod (nd.length:Int))).length:=(by rw[putN_len];exact i2);have B2:=B1.put (i:=a+1+1) i2' (v:=(IntKind.i64.wrap d1).tmod (nd.length:Int)) (by rw[putN_len];exact v1) (by rw[putN_at (by omega)];exact kdf 1 (by omega));have P2:(putN (putN nd (a+1) ((IntKind.i64.wrap d0).tmod (nd.length:Int))) (a+1+1) ((IntKind.i64.wrap d1).tmod (nd.length:Int))).length=nd.length:=(by rw[putN_len,putN_len]);obtain⟨C,hC,hO⟩:=fin (putN (putN nd (a+1) ((IntKind.i64.wrap d0).tmod (nd.length:Int))) (a+1+1) ((IntKind.i64.wrap d1).tmod (nd.length:Int))) P2 B2;have l1':C.length=min xo.length 3+1:=(by rw[<-hC];exact l1);have l2':List.take (min xo.length 3+1) C=C:=(by rw[<-hC];exact l2);refine⟨_,C,?_,hO⟩;simp only[c0,A5,nzN hn0,x0,inR_nat i1,AI,AC,dlt i1,x1,c1,x2,inR_nat i2,putN_eq i1,dlt i2',x3,c2,A7,putN_eq i2',m22_4 (nd:=putN (putN nd (a+1) ((IntKind.i64.wrap d0).tmod (nd.length:Int))) (a+1+1) ((IntKind.i64.wrap d1).tmod (nd.length:Int))) L2,bindO,m22_5 (nd:=putN (putN nd (a+1) ((IntKind.i64.wrap d0).tmod (nd.length:Int))) (a+1+1) ((IntKind.i64.wrap d1).tmod (nd.length:Int))) hn0 L2,eqN_of rfl,eqN_of hol,room (n:=min xo.length 3+1) (b:=8) (by omega) (by omega),AG,P2,leB_of (A6 _),hC,l1',l2',AU,lo _ P2]
end
end Co
namespace Co
theorem Ofd.ck{N:NodeL}{C:List Int}(h:Ofd N C):Ck N ((List.range N.length).map M52.nm) C where
 some':=h.l0
 few:=by have:=h.l1;omega
 nd:=λx hx=>by obtain⟨i,hi,rfl⟩:=Bg hx;have g:=h.bd.nn i hi;exact⟨g.k0,g.k1,g.f0,g.f1,g.pins,g.tri,g.mem,g.bit,by have:=g.few;omega⟩
 nm:=rfl
 outs:=h.oc
 fewC:=by have:=h.lc;omega
theorem Ofd.tp{N:NodeL}{C:List Int}(h:Ofd N C):Topo N:=λi hi hc a ha=>by
 have g:=h.bd.nn i hi;have e1:N[i]?.getD (0,[],0,0)=N[i]:=by rw[A4 hi];rfl
 unfold cm at hc;unfold pn at ha;rw[e1]at hc ha;exact⟨(g.pins a ha).1,g.low hc a ha⟩
theorem m5{xi df d0 d1 w0 w1 w2 w3:Int}{bus mem:Bool}{gs:List (Int×Int×Int×Int)}{xo:List Int}(h:Xc xi df d0 d1 gs xo):∃N C,M5.m ⟨xi,df,d0,d1,bus,mem,w0,w1,w2,w3,gs,xo⟩=some (N,(List.range N.length).map M52.nm,[],C)/\Ofd N C:=by obtain⟨N,C,h1,h2⟩:=m22 (w0:=w0) (w1:=w1) (w2:=w2) (w3:=w3) (bus:=bus) h;refine⟨N,C,?_,h2⟩;unfold M5.m;simp only[h1,bindO]
section
variable {N:NodeL}{A:List (List UInt8)}{C:List Int}
theorem m13{fm fn fp fo:Int}{fone:Bool}(h0:0<N.length)(hN:N.length<=100)(few:∀i,i<N.length->(pn N i).length<=100)(hn:B8 fn)(hp:B8 fp):∃ln lp val,M13.m ⟨N,A,[],C,fm,fn,fp,fo,fone⟩=some (0,ln,lp,val,0)/\Fa N ln lp val:=by
 have hln:=modIn (n:=N.length) hn h0;have hl:((IntKind.i64.wrap fn).tmod (N.length:Int)).toNat<N.length:=by obtain⟨q1,q2⟩:=hln;omega
 have hf:=few _ hl;have e5:(N[((IntKind.i64.wrap fn).tmod (N.length:Int)).toNat]?.getD (0,[],0,0)).2.1=pn N ((IntKind.i64.wrap fn).tmod (N.length:Int)).toNat:=rfl;have c0:((N.length:Int)==0)=false:=Ae.2 (by omega);have c1:decide ((0:Int).tmod 4>=2)=false:=rfl;have w1:IntKind.i64.wrap (((pn N ((IntKind.i64.wrap fn).tmod (N.length:Int)).toNat).length:Int)+1)=(((pn N ((IntKind.i64.wrap fn).tmod (N.length:Int)).toNat).length+1:Nat):Int):=by rw[w64 (by omega) (by omega)];omega
 have hq:=modIn (n:=(pn N ((IntKind.i64.wrap fn).tmod (N.length:Int)).toNat).length+1) hp (by omega);have w2:IntKind.i64.wrap ((IntKind.i64.wrap fp).tmod (((pn N ((IntKind.i64.wrap fn).tmod (N.length:Int)).toNat).length+1:Nat):Int) - 1)=(IntKind.i64.wrap fp).tmod (((pn N ((IntKind.i64.wrap fn).tmod (N.length:Int)).toNat).length+1:Nat):Int) - 1:=by obtain⟨q1,q2⟩:=hq;exact w64 (by omega) (by omega)
 have fa:∀val:Int,(val=0\/val=1)->Fa N ((IntKind.i64.wrap fn).tmod (N.length:Int)) ((IntKind.i64.wrap fp).tmod (((pn N ((IntKind.i64.wrap fn).tmod (N.length:Int)).toNat).length+1:Nat):Int) - 1) val:=λval hv=>by obtain⟨q1,q2⟩:=hq;exact⟨hln,by omega,by omega,hv⟩
 have e0:(0:Int).tmod 4=0:=rfl;unfold M13.m M39.m;simp only[c0,A7,nzN h0,A5,c1,inR_int hln,e5,w1,nzN (Nat.succ_pos (pn N ((IntKind.i64.wrap fn).tmod (N.length:Int)).toNat).length),w2,e0]
 cases fone with
 |true=>exact⟨_,_,1,rfl,fa 1 (.inr rfl)⟩
 |false=>exact⟨_,_,0,rfl,fa 0 (.inl rfl)⟩
abbrev Kn(l:List Int):Prop:=∀v∈l,v=0\/v=1
theorem Kn.allV{l:List Int}(h:Kn l):AllV l:=λv hv=>by
 rcases h v hv with rfl|rfl
 ·exact⟨by omega,by omega⟩
 ·exact⟨by omega,by omega⟩
theorem bit01(x:BitVec 64):IntKind.u8.wrap (IntKind.u64.wrap ((x&&&BitVec.ofInt 64 1).toNat:Int))=0\/IntKind.u8.wrap (IntKind.u64.wrap ((x&&&BitVec.ofInt 64 1).toNat:Int))=1:=by
 have h:(x&&&BitVec.ofInt 64 1).toNat=0\/(x&&&BitVec.ofInt 64 1).toNat=1:=by have e:(BitVec.ofInt 64 1).toNat=1:=rfl;rw[BitVec.toNat_and,e,Nat.and_one_is_mod];omega
 rcases h with h|h
 ·rw[h];exact .inl rfl
 ·rw[h];exact .inr rfl
theorem kn_snoc{l:List Int}{v:Int}(h:Kn l)(hv:v=0\/v=1):Kn (l++[v]):=λx hx=>by
 rcases Ad.1 hx with hx|hx
 ·exact h x hx
 ·rw[Ai.1 hx];exact hv
theorem ofN_succ{k:Int}{i:Nat}:ofN N k (i+1)=if kd N (i:Int)==k then ofN N k i++[(i:Int)] else ofN N k i:=by
 unfold ofN;rw[nums_succ,C2]
 cases e:kd N (i:Int)==k with
 |true=>rw[Cg (p:=λa=>kd N a==k) e];rfl
 |false=>rw[Ch (p:=λa=>kd N a==k) (by show¬(kd N (i:Int)==k)=true;rw[e];simp)];simp
theorem tmod64{k:Nat}(hk:k<=100):decide (0<=(k:Int).tmod 64)=true:=AB (by rw[Ap (by omega)];omega)
theorem wu64{x:Int}(h:0<=x)(h':x<=18446744073709551615):IntKind.u64.wrap x=x:=by simp[IntKind.wrap,IntKind.signed,IntKind.bits];omega
theorem m14{n:Int}(hN:N.length<=40):∃inn st,M14.m ⟨N,A,[],C,n⟩=some (inn,st)/\inn.length=(ofK N 0).length/\st.length=(ofK N 14).length/\Kn inn/\Kn st:=by
 obtain⟨y,k0,k,a,e,K,L,V⟩:=iter_inv (step:=M14.s0) (λx=>∃(i k:Nat) (a:List Int),x=(⟨n,(k:Int),(i:Int),N,A,[],C,0,a.length,a⟩:M14.p0X)/\i<=N.length/\k<=i/\a.length=(ofN N 0 i).length/\Kn a) (λx=>N.length - x.i.toNat)
  (λy=>∃(k:Nat) (a:List Int),y=(⟨n,(k:Int),N,A,[],C,a⟩:M14.q0X)/\k<=N.length/\a.length=(ofK N 0).length/\Kn a) (by
   rintro x ⟨i,k,a,rfl,hi,hk,hl,hv⟩;unfold M14.s0;by_cases hlt:i<N.length
   ·have c1:=ilt (a:=(i:Int)) (b:=(N.length:Int)) (by omega);have e6:(N[i]?.getD (0,[],0,0)).1=kd N (i:Int):=rfl;have hs:=ofN_succ (N:=N) (k:=0) (i:=i);have hle:=ofN_len (N:=N) (k:=0) (i:=i);simp only[c1,inR_nat hlt,A5,AC,e6,suc (i:=i) (by omega),tmod64 (k:=k) (by omega)]
    cases hc:kd N (i:Int)==0 with
    |true=>rw[hc,AF rfl]at hs;have w:IntKind.u64.wrap ((k:Int)+1)=((k+1:Nat):Int):=(by rw[wu64 (by omega) (by omega)];omega);simp only[A5,eqN_of rfl,room (n:=a.length+1) (b:=1) (by omega) (by omega),AG,w];exact⟨_,rfl,⟨i+1,k+1,_,by rw[AL];rfl,hlt,by omega,by rw[hs,AL,AL,hl];rfl,kn_snoc hv (bit01 _)⟩,by simp;omega⟩
    |false=>rw[hc,AP (by simp)]at hs;simp only[A7];exact⟨_,rfl,⟨i+1,k,a,rfl,hlt,by omega,by rw[hs,hl],hv⟩,by simp;omega⟩
   ·have c1:=inlt (a:=(i:Int)) (b:=(N.length:Int)) (by omega);have hi':i=N.length:=(by omega);subst hi';simp only[c1,A7,AI,leB_of (A6 _),AG,A5,AU,Ak];exact⟨_,rfl,k,a,rfl,hk,hl,hv⟩) ⟨n,((0:Nat):Int),((0:Nat):Int),N,A,[],C,0,0,[]⟩ ⟨0,0,[],rfl,B0 _,A6 _,rfl,λv hv=>by cases hv⟩
 obtain⟨z,k1,b,f,L2,V2⟩:=iter_inv (step:=M14.s1) (λx=>∃(i k:Nat) (b:List Int),x=(⟨n,(k:Int),(i:Int),N,A,[],C,a,0,b.length,b⟩:M14.p1X)/\i<=N.length/\k<=N.length+i/\b.length=(ofN N 14 i).length/\Kn b) (λx=>N.length - x.i.toNat)
  (λy=>∃(b:List Int),y=(⟨a,b⟩:M14.q1X)/\b.length=(ofK N 14).length/\Kn b) (by
   rintro x ⟨i,k,b,rfl,hi,hk,hl,hv⟩;unfold M14.s1;by_cases hlt:i<N.length
   ·have c1:=ilt (a:=(i:Int)) (b:=(N.length:Int)) (by omega);have e6:(N[i]?.getD (0,[],0,0)).1=kd N (i:Int):=rfl;have hs:=ofN_succ (N:=N) (k:=14) (i:=i);have hle:=ofN_len (N:=N) (k:=14) (i:=i);simp only[c1,inR_nat hlt,A5,AC,e6,suc (i:=i) (by omega),tmod64 (k:=k) (by omega)]
    cases hc:kd N (i:Int)==14 with
    |true=>rw[hc,AF rfl]at hs;have w:IntKind.u64.wrap ((k:Int)+1)=((k+1:Nat):Int):=(by rw[wu64 (by omega) (by omega)];omega);simp only[A5,eqN_of rfl,room (n:=b.length+1) (b:=1) (by omega) (by omega),AG,w];exact⟨_,rfl,⟨i+1,k+1,_,by rw[AL];rfl,hlt,by omega,by rw[hs,AL,AL,hl];rfl,kn_snoc hv (bit01 _)⟩,by simp;omega⟩
    |false=>rw[hc,AP (by simp)]at hs;simp only[A7];exact⟨_,rfl,⟨i+1,k,b,rfl,hlt,by omega,by rw[hs,hl],hv⟩,by simp;omega⟩
   ·have c1:=inlt (a:=(i:Int)) (b:=(N.length:Int)) (by omega);have hi':i=N.length:=(by omega);subst hi';simp only[c1,A7,AI,leB_of (A6 _),AG,A5,AU,Ak];exact⟨_,rfl,b,rfl,hl,hv⟩) ⟨n,(k:Int),((0:Nat):Int),N,A,[],C,a,0,0,[]⟩ ⟨0,k,[],rfl,B0 _,by omega,rfl,λv hv=>by cases hv⟩
 have k0':iter M14.s0 { n:=n,k:=0,i:=0,nodes:=N,names:=A,mems:=[],outs:=C,a_lo:=0,a_len:=0,axs:=[] }=some y:=k0;have k1':iter M14.s1 { n:=n,k:=(k:Int),i:=0,nodes:=N,names:=A,mems:=[],outs:=C,a:=a,b_lo:=0,b_len:=0,bxs:=[] }=some z:=k1;refine⟨a,b,?_,L,L2,V,V2⟩;unfold M14.m;simp only[k0',bindO,e,k1',f]
end
end Co
namespace Gn
abbrev ii(n:Int):T:=.int .i64 n
abbrev bb(n:Int):T:=.int .u8 n
abbrev il(l:List Int):T:=.imm (l.map ii) l.length none
abbrev bl(l:List Int):T:=.imm (l.map bb) l.length none
abbrev namesA:T:=.imm [.str [97],.str [98],.str [100],.str [101]] 4 none
abbrev nd(k:Int)(l:List Int):List T:=[bb k,il l,ii 0,ii 0]
abbrev nodesA:T:=.imm (nd 0 []++nd 0 []++nd 5 [0,1]++nd 7 [0,2]) 4 none
abbrev cA:AV:=.agg [.t nodesA,.t namesA,.t (.imm [] 0 none),.t (il [3])]
end Gn
namespace Gn
abbrev fl(n:Int):AV:=.agg [.t (bb 0),.t (ii n),.t (ii (-1)),.t (bb 0),.t (ii 0)]
abbrev cu(a b:Int):AV:=.agg [.t (bl [a,b]),.t (.imm [] 0 none)]
def aeq:AV->AV->Bool
 |.c x,.c y=>ceq x y
 |.agg xs,.agg ys=>ceqL xs ys
 |_,_=>false
def aeqL:List AV->List AV->Bool
 |[],[]=>true
 |x::xs,y::ys=>aeq x y&&aeqL xs ys
 |_,_=>false
theorem aeq_ok{x y:AV}(h:aeq x y=true):x=y:=by
 cases x<;>cases y<;>simp only[aeq,reduceCtorEq,AM]at h
 ·rw[ceq_ok h]
 ·rw[ceqL_ok h]
theorem aeqL_ok:∀{x y:List AV},aeqL x y=true->x=y
 |[],[],_=>rfl
 |x::xs,y::ys,h=>by simp only[aeqL,A9]at h;rw[aeq_ok h.1,aeqL_ok h.2]
abbrev Lits:=List (FuncId×List AV×AV)
def cfT:Lits->CF->CF
 |[],cf=>cf
 |(f,bs,v)::l,cf=>λg args J=>if g=f&&aeqL args bs then some (v,J) else cfT l cf g args J
def LitOk(P:Program)(x:FuncId×List AV×AV):Prop:=x.2.1.all AV.isT=true/\x.2.2.isT=true/\Qo P x.1 x.2.1 [] λu τ=>u=x.2.2/\τ=[]
theorem cfT_ok{P:Program}{cf:CF}(h0:Y5 P cf):∀{l:Lits},(∀x∈l,LitOk P x)->Y5 P (cfT l cf)
 |[],_=>h0
 |(f,bs,v)::l,h=>by
  intro g args J u τ hu;simp only[cfT]at hu;split at hu
  ·rename_i hc;simp only[A9,Aj]at hc;obtain⟨rfl,hc⟩:=hc;have:=aeqL_ok hc;subst this;injection hu with hu;injection hu with h1 h2;subst h1;subst h2;obtain⟨i1,i2,i3⟩:=h _ (Bk ..);exact WQ (J:=J) i1 i2 i3 J (λc hc=>by cases hc)
  ·exact cfT_ok h0 (λx hx=>h x (CE _ hx)) _ _ _ _ _ hu
def plainB:AV->Bool
 |.c x=>X5 x
 |.agg xs=>xs.all X5
 |.tup xs=>xs.all fun|.inl x=>X5 x|.inr cs=>cs.all X5
theorem plainB_ok{v:AV}(h:plainB v=true):plainV v:=by
 cases v with
 |c x=>exact h
 |agg xs=>exact λc hc=>CL.1 h c hc
 |tup xs=>
  intro p hp;have:=CL.1 h p hp
  cases p with
  |inl x=>exact this
  |inr cs=>exact λc hc=>CL.1 this c hc
def tabW(l:List Nat):Tab:=λf=>if l.contains f then none else tab2 f
theorem tabW_ok(l:List Nat)(f:FuncId)(N:Nat)(rs:List ResultVar)(C:CC)(h:tabW l f=some (N,rs,C)):Q6 Tryz.prog f N rs C:=by
 unfold tabW at h;split at h
 ·cases h
 ·exact tab2_ok _ _ _ _ h
end Gn
namespace Gn
def cfM(mode:FuncId->Nat)(cf:CF):CF:=λg args J=>match mode g with
 |0=>cf g args J
 |1=>(match J6 (XL 8 J 0) args with
  |some as'=>(match cf g as' [] with
   |some (v,τ)=>(match XL 8 τ 0 v with
    |some u=>if u.isT&&plainB u then some (u,J) else none
    |none=>none)
   |none=>none)
  |none=>none)
 |2=>if args.all AV.isT then (match cf g args [] with
   |some (v,τ)=>(match XL 8 τ 0 v with
    |some u=>if u.isT then some (u,J) else none
    |none=>none)
   |none=>none) else none
 |_=>(match cf g args J with
  |some (v,A1)=>(match XL 8 A1 J.length v,Wp 8 A1 J.length with
   |some u,some A2=>some (u,A2)
   |_,_=>none)
  |none=>none)
theorem cfM_ok{P:Program}{mode:FuncId->Nat}{cf:CF}(hcf:Y5 P cf):Y5 P (cfM mode cf):=by
 intro g args J v S' h
 have frz0:∀{as':List AV} {v0:AV} {τ:Q1} {u:AV},cf g as' []=some (v0,τ)->XL 8 τ 0 v0=some u->Qo P g as' [] λx τ=>x=u/\τ=[]:=λh1 h2=>
  K9 0 (by simp) ((hcf _ _ _ _ _ h1).mono λv' S' ⟨e1,e2⟩=>by subst e1;subst e2;exact⟨8,_,[],h2,by simp[Wp,J6],rfl,rfl⟩)
 unfold cfM at h;split at h
 ·exact hcf _ _ _ _ _ h
 ·split at h
  ·rename_i as' has;split at h
   ·rename_i v0 τ h1;split at h
    ·rename_i u hu;split at h
     ·rename_i hc;simp only[A9]at hc;simp only[X3,A0]at h;obtain⟨rfl,rfl⟩:=h;obtain⟨m1,m2⟩:=XQ has;refine(fn_read (J:=J) (args:=args) 8 m1 (λi x y hx hy=> ?_) ((frz0 h1 hu).mono λv' S' ⟨e1,e2⟩=>(⟨⟨e1,e2⟩,by subst e1;exact plainB_ok hc.2,by subst e2;intro o ho;cases ho⟩:(v'=u/\S'=[])/\_))).mono λv' S' ⟨v0,T',⟨e1,e2⟩,e3,e4⟩=> ?_
      ·obtain⟨j1,e1⟩:=AE.1 hx;obtain⟨j2,e2⟩:=AE.1 hy;subst e1;subst e2;exact m2 i j2 j1
      ·subst e1;subst e2;rw[Y7 hc.1]at e3;exact⟨e3,by simpa using e4⟩
     ·cases h
    ·cases h
   ·cases h
  ·cases h
 ·split at h
  ·rename_i ha;split at h
   ·rename_i v0 τ h1;split at h
    ·rename_i u hu;split at h
     ·rename_i hc;simp only[X3,A0]at h;obtain⟨rfl,rfl⟩:=h;exact WQ (J:=J) ha hc (frz0 h1 hu) J (λc hc=>by cases hc)
     ·cases h
    ·cases h
   ·cases h
  ·cases h
 ·split at h
  ·rename_i v0 A1 h1;split at h
   ·rename_i u A2 h2 h3;simp only[X3,A0]at h;obtain⟨rfl,rfl⟩:=h;exact K9 J.length (A6 _) ((hcf _ _ _ _ _ h1).mono λv' S' ⟨e1,e2⟩=>by subst e1;subst e2;exact⟨8,_,_,h2,h3,rfl,rfl⟩)
   ·cases h
  ·cases h
def runF3(P:Program)(T:Tab)(mode:FuncId->Nat)(cf0:CF)(L:Nat):Nat->CF
 |0,_,_,_=>none
 |k+1,f,args,J=>match T f with
  |some (N,rs,C)=>if args.length<=N then (match runC2 P (cfM mode (runF3 P T mode cf0 L k)) N L C (Qv args) J with
   |some (.normal,r,S')=>(Yv P rs r S').map λv=>(v,S')
   |some (.ret,r,S')=>(Yv P rs r S').map λv=>(v,S')
   |_=>none) else none
  |none=>cf0 f args J
section
variable {P:Program}
theorem runF3_ok(hm:P.follows .mixedOrders=true){T:Tab}{mode:FuncId->Nat}(hT:∀f N rs C,T f=some (N,rs,C)->Q6 P f N rs C){cf0:CF}(h0:Y5 P cf0)(L:Nat):∀k,Y5 P (runF3 P T mode cf0 L k):=by
 intro k
 induction k with
 |zero=>intro f args J v S' h;simp[runF3]at h
 |succ k ih=>
  intro f args J v S' h;simp only[runF3]at h;split at h
  ·rename_i N rs C hf;split at h
   ·rename_i hn;refine fnq (hT f N rs C hf) hn ?_;split at h
    ·rename_i r1 A1 h1;rw[WF]at h;obtain⟨u,h2,h3⟩:=h;injection h3 with h3 h4;subst h3;subst h4;refine runC2_ok hm (cfM_ok ih) h1 ?_;simp only[bodyQ,h2,Jv,and_self]
    ·rename_i r1 A1 h1;rw[WF]at h;obtain⟨u,h2,h3⟩:=h;injection h3 with h3 h4;subst h3;subst h4;refine runC2_ok hm (cfM_ok ih) h1 ?_;simp only[bodyQ,h2,Jv,and_self]
    ·cases h
   ·cases h
  ·exact h0 _ _ _ _ _ h
end
end Gn
namespace Gn
def md:FuncId->Nat
 |44|87|41|129|47|17|173|174|156|157|64|159=>1
 |36|75|68|98|71|59|131|113|190|108=>2
 |15|16|46|175|189|45=>3
 |_=>0
def noCF:CF:=λ_ _ _=>none
theorem noCF_ok{P:Program}:Y5 P noCF:=λ_ _ _ _ _ h=>by cases h
def ck(ex:List Nat)(L:Lits)(f:FuncId)(a:List AV):Option AV:=match runF3 Tryz.prog (tabW ex) md (cfT L noCF) 400 40 f a [] with
 |some (v,J)=>XL 8 J 0 v
 |none=>none
theorem ck_lit(ex:List Nat){L:Lits}(hL:∀x∈L,LitOk Tryz.prog x){x:FuncId×List AV×AV}(h:ck ex L x.1 x.2.1=some x.2.2)(ht:(x.2.1.all AV.isT&&x.2.2.isT)=true):LitOk Tryz.prog x:=by
 simp only[A9]at ht;refine⟨ht.1,ht.2,?_⟩;unfold ck at h;split at h
 ·rename_i u J h1;refine K9 0 (by simp) ((runF3_ok mixed (tabW_ok ex) (cfT_ok noCF_ok hL) 400 40 _ _ [] u J h1).mono λv' S' ⟨e1,e2⟩=> ?_);subst e1;subst e2;exact⟨8,_,[],h,by simp[Wp,J6],rfl,rfl⟩
 ·cases h
def lit143v:FuncId×List AV×AV:=(143,[cA],.c (.t (ii 0)))
theorem lit143:LitOk Tryz.prog lit143v:=by refine⟨rfl,rfl,?_⟩;have h:=M143.known.ok ⟨[(0,[],0,0),(0,[],0,0),(5,[0,1],0,0),(7,[0,2],0,0)],[[97],[98],[100],[101]],[],[3]⟩ 0 rfl;exact h
abbrev L0:Lits:=[lit143v]
theorem L0_ok:∀x∈L0,LitOk Tryz.prog x:=λx hx=>by rw[Ai.1 hx];exact lit143
def l40v:FuncId×List AV×AV:=(40,[cA],(.tup [.inl (.t (.imm [ii 0,ii 1,ii 2,ii 3] 4 (some 4))),.inl (.t (ii 0))]))
theorem l40:LitOk Tryz.prog l40v:=ck_lit [143] L0_ok (by kernel_rfl) rfl
abbrev L1:Lits:=[l40v]++L0
theorem L1_ok:∀x∈L1,LitOk Tryz.prog x:=by
 intro x hx;rcases Ad.1 hx with h|h
 ·simp only[AW,Ao,Bl]at h;rcases h with rfl
  ·exact l40
 ·exact L0_ok x h
def l98v:FuncId×List AV×AV:=(98,[cA],(.c (.t (ii 0))))
theorem l98:LitOk Tryz.prog l98v:=ck_lit [143,40] L1_ok (by kernel_rfl) rfl
def l36v:FuncId×List AV×AV:=(36,[cA],(.c (.t (.imm [] 0 (some 0)))))
theorem l36:LitOk Tryz.prog l36v:=ck_lit [143,40] L1_ok (by kernel_rfl) rfl
def l75v:FuncId×List AV×AV:=(75,[cA],(.c (.t (.imm [(ii 0),(ii 1)] 2 (some 2)))))
theorem l75:LitOk Tryz.prog l75v:=ck_lit [143,40] L1_ok (by kernel_rfl) rfl
abbrev L2:Lits:=[l98v,l36v,l75v]++L1
theorem L2_ok:∀x∈L2,LitOk Tryz.prog x:=by
 intro x hx;rcases Ad.1 hx with h|h
 ·simp only[AW,Ao,Bl]at h;rcases h with rfl|rfl|rfl
  ·exact l98
  ·exact l36
  ·exact l75
 ·exact L1_ok x h
def l131v:FuncId×List AV×AV:=(131,[cA],(.c (.t (ii 0))))
theorem l131:LitOk Tryz.prog l131v:=ck_lit [143,40,98,36,75] L2_ok (by kernel_rfl) rfl
def l593v:FuncId×List AV×AV:=(59,[cA,fl 3],(.c (.t (ii 0))))
theorem l593:LitOk Tryz.prog l593v:=ck_lit [143,40,98,36,75] L2_ok (by kernel_rfl) rfl
def l591v:FuncId×List AV×AV:=(59,[cA,fl 1],(.c (.t (ii 0))))
theorem l591:LitOk Tryz.prog l591v:=ck_lit [143,40,98,36,75] L2_ok (by kernel_rfl) rfl
abbrev L3:Lits:=[l131v,l593v,l591v]++L2
theorem L3_ok:∀x∈L3,LitOk Tryz.prog x:=by
 intro x hx;rcases Ad.1 hx with h|h
 ·simp only[AW,Ao,Bl]at h;rcases h with rfl|rfl|rfl
  ·exact l131
  ·exact l593
  ·exact l591
 ·exact L2_ok x h
def l1522v:FuncId×List AV×AV:=(15,[cA,cu 2 2],(.tup [.inr [(.t (.imm [(bb 2)] 1 (some 1))),(.t (.imm [] 0 (some 0)))],.inl (.t (.imm [(bb 2),(bb 2),(bb 2),(bb 2)] 4 (some 4))),.inl (.t (ii 0))]))
theorem l1522:LitOk Tryz.prog l1522v:=ck_lit [143,40,98,36,75,131,59] L3_ok (by kernel_rfl) rfl
def l1512v:FuncId×List AV×AV:=(15,[cA,cu 1 2],(.tup [.inr [(.t (.imm [(bb 1)] 1 (some 1))),(.t (.imm [] 0 (some 0)))],.inl (.t (.imm [(bb 1),(bb 2),(bb 2),(bb 1)] 4 (some 4))),.inl (.t (ii 0))]))
theorem l1512:LitOk Tryz.prog l1512v:=ck_lit [143,40,98,36,75,131,59] L3_ok (by kernel_rfl) rfl
def l1521v:FuncId×List AV×AV:=(15,[cA,cu 2 1],(.tup [.inr [(.t (.imm [(bb 2)] 1 (some 1))),(.t (.imm [] 0 (some 0)))],.inl (.t (.imm [(bb 2),(bb 1),(bb 2),(bb 2)] 4 (some 4))),.inl (.t (ii 0))]))
theorem l1521:LitOk Tryz.prog l1521v:=ck_lit [143,40,98,36,75,131,59] L3_ok (by kernel_rfl) rfl
def l1511v:FuncId×List AV×AV:=(15,[cA,cu 1 1],(.tup [.inr [(.t (.imm [(bb 1)] 1 (some 1))),(.t (.imm [] 0 (some 0)))],.inl (.t (.imm [(bb 1),(bb 1),(bb 1),(bb 1)] 4 (some 4))),.inl (.t (ii 0))]))
theorem l1511:LitOk Tryz.prog l1511v:=ck_lit [143,40,98,36,75,131,59] L3_ok (by kernel_rfl) rfl
def l1501v:FuncId×List AV×AV:=(15,[cA,cu 0 1],(.tup [.inr [(.t (.imm [(bb 0)] 1 (some 1))),(.t (.imm [] 0 (some 0)))],.inl (.t (.imm [(bb 0),(bb 1),(bb 0),(bb 0)] 4 (some 4))),.inl (.t (ii 0))]))
theorem l1501:LitOk Tryz.prog l1501v:=ck_lit [143,40,98,36,75,131,59] L3_ok (by kernel_rfl) rfl
def l1520v:FuncId×List AV×AV:=(15,[cA,cu 2 0],(.tup [.inr [(.t (.imm [(bb 2)] 1 (some 1))),(.t (.imm [] 0 (some 0)))],.inl (.t (.imm [(bb 2),(bb 0),(bb 0),(bb 2)] 4 (some 4))),.inl (.t (ii 0))]))
theorem l1520:LitOk Tryz.prog l1520v:=ck_lit [143,40,98,36,75,131,59] L3_ok (by kernel_rfl) rfl
abbrev L4:Lits:=[l1522v,l1512v,l1521v,l1511v,l1501v,l1520v]++L3
theorem L4_ok:∀x∈L4,LitOk Tryz.prog x:=by
 intro x hx;rcases Ad.1 hx with h|h
 ·simp only[AW,Ao,Bl]at h;rcases h with rfl|rfl|rfl|rfl|rfl|rfl
  ·exact l1522
  ·exact l1512
  ·exact l1521
  ·exact l1511
  ·exact l1501
  ·exact l1520
 ·exact L3_ok x h
end Gn
namespace Gn
def l46322v:FuncId×List AV×AV:=(46,[cA,fl 3,cu 2 2],(.tup [.inr [(.t (.imm [(bb 2)] 1 (some 1))),(.t (.imm [] 0 (some 0)))],.inr [(.t (.imm [(bb 0)] 1 (some 1))),(.t (.imm [] 0 (some 0)))],.inl (.t (.imm [(bb 2),(bb 2),(bb 2),(bb 0)] 4 (some 4))),.inl (.t (ii 0))]))
theorem l46322:LitOk Tryz.prog l46322v:=ck_lit [143,40,98,36,75,131,59,15] L4_ok (by kernel_rfl) rfl
def l46312v:FuncId×List AV×AV:=(46,[cA,fl 3,cu 1 2],(.tup [.inr [(.t (.imm [(bb 1)] 1 (some 1))),(.t (.imm [] 0 (some 0)))],.inr [(.t (.imm [(bb 0)] 1 (some 1))),(.t (.imm [] 0 (some 0)))],.inl (.t (.imm [(bb 1),(bb 2),(bb 2),(bb 0)] 4 (some 4))),.inl (.t (ii 0))]))
theorem l46312:LitOk Tryz.prog l46312v:=ck_lit [143,40,98,36,75,131,59,15] L4_ok (by kernel_rfl) rfl
def l46122v:FuncId×List AV×AV:=(46,[cA,fl 1,cu 2 2],(.tup [.inr [(.t (.imm [(bb 2)] 1 (some 1))),(.t (.imm [] 0 (some 0)))],.inr [(.t (.imm [(bb 2)] 1 (some 1))),(.t (.imm [] 0 (some 0)))],.inl (.t (.imm [(bb 2),(bb 0),(bb 0),(bb 2)] 4 (some 4))),.inl (.t (ii 0))]))
theorem l46122:LitOk Tryz.prog l46122v:=ck_lit [143,40,98,36,75,131,59,15] L4_ok (by kernel_rfl) rfl
def l46121v:FuncId×List AV×AV:=(46,[cA,fl 1,cu 2 1],(.tup [.inr [(.t (.imm [(bb 2)] 1 (some 1))),(.t (.imm [] 0 (some 0)))],.inr [(.t (.imm [(bb 2)] 1 (some 1))),(.t (.imm [] 0 (some 0)))],.inl (.t (.imm [(bb 2),(bb 0),(bb 0),(bb 2)] 4 (some 4))),.inl (.t (ii 0))]))
theorem l46121:LitOk Tryz.prog l46121v:=ck_lit [143,40,98,36,75,131,59,15] L4_ok (by kernel_rfl) rfl
def l46111v:FuncId×List AV×AV:=(46,[cA,fl 1,cu 1 1],(.tup [.inr [(.t (.imm [(bb 1)] 1 (some 1))),(.t (.imm [] 0 (some 0)))],.inr [(.t (.imm [(bb 1)] 1 (some 1))),(.t (.imm [] 0 (some 0)))],.inl (.t (.imm [(bb 1),(bb 0),(bb 0),(bb 1)] 4 (some 4))),.inl (.t (ii 0))]))
theorem l46111:LitOk Tryz.prog l46111v:=ck_lit [143,40,98,36,75,131,59,15] L4_ok (by kernel_rfl) rfl
def l46101v:FuncId×List AV×AV:=(46,[cA,fl 1,cu 0 1],(.tup [.inr [(.t (.imm [(bb 0)] 1 (some 1))),(.t (.imm [] 0 (some 0)))],.inr [(.t (.imm [(bb 0)] 1 (some 1))),(.t (.imm [] 0 (some 0)))],.inl (.t (.imm [(bb 0),(bb 0),(bb 0),(bb 0)] 4 (some 4))),.inl (.t (ii 0))]))
theorem l46101:LitOk Tryz.prog l46101v:=ck_lit [143,40,98,36,75,131,59,15] L4_ok (by kernel_rfl) rfl
def l46120v:FuncId×List AV×AV:=(46,[cA,fl 1,cu 2 0],(.tup [.inr [(.t (.imm [(bb 2)] 1 (some 1))),(.t (.imm [] 0 (some 0)))],.inr [(.t (.imm [(bb 2)] 1 (some 1))),(.t (.imm [] 0 (some 0)))],.inl (.t (.imm [(bb 2),(bb 0),(bb 0),(bb 2)] 4 (some 4))),.inl (.t (ii 0))]))
theorem l46120:LitOk Tryz.prog l46120v:=ck_lit [143,40,98,36,75,131,59,15] L4_ok (by kernel_rfl) rfl
abbrev L5:Lits:=[l46322v,l46312v,l46122v,l46121v,l46111v,l46101v,l46120v]++L4
theorem L5_ok:∀x∈L5,LitOk Tryz.prog x:=by
 intro x hx;rcases Ad.1 hx with h|h
 ·simp only[AW,Ao,Bl]at h;rcases h with rfl|rfl|rfl|rfl|rfl|rfl|rfl
  ·exact l46322
  ·exact l46312
  ·exact l46122
  ·exact l46121
  ·exact l46111
  ·exact l46101
  ·exact l46120
 ·exact L4_ok x h
def l156322v:FuncId×List AV×AV:=(156,[cA,fl 3,cu 2 2],(.tup [.inl (.t (.bool false)),.inl (.t (ii 0))]))
theorem l156322:LitOk Tryz.prog l156322v:=ck_lit [143,40,98,36,75,131,59,15,46] L5_ok (by kernel_rfl) rfl
def l156312v:FuncId×List AV×AV:=(156,[cA,fl 3,cu 1 2],(.tup [.inl (.t (.bool true)),.inl (.t (ii 0))]))
theorem l156312:LitOk Tryz.prog l156312v:=ck_lit [143,40,98,36,75,131,59,15,46] L5_ok (by kernel_rfl) rfl
def l156122v:FuncId×List AV×AV:=(156,[cA,fl 1,cu 2 2],(.tup [.inl (.t (.bool false)),.inl (.t (ii 0))]))
theorem l156122:LitOk Tryz.prog l156122v:=ck_lit [143,40,98,36,75,131,59,15,46] L5_ok (by kernel_rfl) rfl
def l156121v:FuncId×List AV×AV:=(156,[cA,fl 1,cu 2 1],(.tup [.inl (.t (.bool false)),.inl (.t (ii 0))]))
theorem l156121:LitOk Tryz.prog l156121v:=ck_lit [143,40,98,36,75,131,59,15,46] L5_ok (by kernel_rfl) rfl
def l156111v:FuncId×List AV×AV:=(156,[cA,fl 1,cu 1 1],(.tup [.inl (.t (.bool false)),.inl (.t (ii 0))]))
theorem l156111:LitOk Tryz.prog l156111v:=ck_lit [143,40,98,36,75,131,59,15,46] L5_ok (by kernel_rfl) rfl
def l156101v:FuncId×List AV×AV:=(156,[cA,fl 1,cu 0 1],(.tup [.inl (.t (.bool false)),.inl (.t (ii 0))]))
theorem l156101:LitOk Tryz.prog l156101v:=ck_lit [143,40,98,36,75,131,59,15,46] L5_ok (by kernel_rfl) rfl
def l156120v:FuncId×List AV×AV:=(156,[cA,fl 1,cu 2 0],(.tup [.inl (.t (.bool false)),.inl (.t (ii 0))]))
theorem l156120:LitOk Tryz.prog l156120v:=ck_lit [143,40,98,36,75,131,59,15,46] L5_ok (by kernel_rfl) rfl
def l157322v:FuncId×List AV×AV:=(157,[cA,fl 3,cu 2 2],(.tup [.inl (.t (.bool false)),.inl (.t (ii 0))]))
theorem l157322:LitOk Tryz.prog l157322v:=ck_lit [143,40,98,36,75,131,59,15,46] L5_ok (by kernel_rfl) rfl
def l157122v:FuncId×List AV×AV:=(157,[cA,fl 1,cu 2 2],(.tup [.inl (.t (.bool false)),.inl (.t (ii 0))]))
theorem l157122:LitOk Tryz.prog l157122v:=ck_lit [143,40,98,36,75,131,59,15,46] L5_ok (by kernel_rfl) rfl
def l157121v:FuncId×List AV×AV:=(157,[cA,fl 1,cu 2 1],(.tup [.inl (.t (.bool false)),.inl (.t (ii 0))]))
theorem l157121:LitOk Tryz.prog l157121v:=ck_lit [143,40,98,36,75,131,59,15,46] L5_ok (by kernel_rfl) rfl
def l157111v:FuncId×List AV×AV:=(157,[cA,fl 1,cu 1 1],(.tup [.inl (.t (.bool true)),.inl (.t (ii 0))]))
theorem l157111:LitOk Tryz.prog l157111v:=ck_lit [143,40,98,36,75,131,59,15,46] L5_ok (by kernel_rfl) rfl
def l157101v:FuncId×List AV×AV:=(157,[cA,fl 1,cu 0 1],(.tup [.inl (.t (.bool true)),.inl (.t (ii 0))]))
theorem l157101:LitOk Tryz.prog l157101v:=ck_lit [143,40,98,36,75,131,59,15,46] L5_ok (by kernel_rfl) rfl
def l157120v:FuncId×List AV×AV:=(157,[cA,fl 1,cu 2 0],(.tup [.inl (.t (.bool true)),.inl (.t (ii 0))]))
theorem l157120:LitOk Tryz.prog l157120v:=ck_lit [143,40,98,36,75,131,59,15,46] L5_ok (by kernel_rfl) rfl
def l175322v:FuncId×List AV×AV:=(175,[cA,fl 3,cu 2 2],(.tup [.inl (.t (.imm [(bb 2),(bb 2),(bb 2),(bb 2)] 4 (some 4))),.inl (.t (.imm [(bb 2),(bb 2),(bb 2),(bb 0)] 4 (some 4))),.inl (.t (ii 0))]))
theorem l175322:LitOk Tryz.prog l175322v:=ck_lit [143,40,98,36,75,131,59,15,46] L5_ok (by kernel_rfl) rfl
def l175122v:FuncId×List AV×AV:=(175,[cA,fl 1,cu 2 2],(.tup [.inl (.t (.imm [(bb 2),(bb 2),(bb 2),(bb 2)] 4 (some 4))),.inl (.t (.imm [(bb 2),(bb 0),(bb 0),(bb 2)] 4 (some 4))),.inl (.t (ii 0))]))
theorem l175122:LitOk Tryz.prog l175122v:=ck_lit [143,40,98,36,75,131,59,15,46] L5_ok (by kernel_rfl) rfl
def l175121v:FuncId×List AV×AV:=(175,[cA,fl 1,cu 2 1],(.tup [.inl (.t (.imm [(bb 2),(bb 1),(bb 2),(bb 2)] 4 (some 4))),.inl (.t (.imm [(bb 2),(bb 0),(bb 0),(bb 2)] 4 (some 4))),.inl (.t (ii 0))]))
theorem l175121:LitOk Tryz.prog l175121v:=ck_lit [143,40,98,36,75,131,59,15,46] L5_ok (by kernel_rfl) rfl
abbrev L6:Lits:=[l156322v,l156312v,l156122v,l156121v,l156111v,l156101v,l156120v,l157322v,l157122v,l157121v,l157111v,l157101v,l157120v,l175322v,l175122v,l175121v]++L5
theorem L6_ok:∀x∈L6,LitOk Tryz.prog x:=by
 intro x hx;rcases Ad.1 hx with h|h
 ·simp only[AW,Ao,Bl]at h;rcases h with rfl|rfl|rfl|rfl|rfl|rfl|rfl|rfl|rfl|rfl|rfl|rfl|rfl|rfl|rfl|rfl
  ·exact l156322
  ·exact l156312
  ·exact l156122
  ·exact l156121
  ·exact l156111
  ·exact l156101
  ·exact l156120
  ·exact l157322
  ·exact l157122
  ·exact l157121
  ·exact l157111
  ·exact l157101
  ·exact l157120
  ·exact l175322
  ·exact l175122
  ·exact l175121
 ·exact L5_ok x h
end Gn
namespace Gn
def D2:DataW Unit:=.map [(.int .i64 0,.lit (.int .i64 0)),(.int .i64 1,.lit (.int .i64 1))]
def sig(n u a b:Int):Q1:=[{ cs:=[.t (ii 9),.t (ii u)] },{ cs:=[.t (bb a),.t (bb b)] },
 {cs:=[.ptr ⟨0,0,0⟩,.t nodesA,.t namesA,.t (.imm [] 0 none),.t (il [3]),.t (bb 0),.t (ii n),.t (ii (-1)),.t (bb 0),.t (ii 0),
  .t (.imm [ii 1,ii 1,ii 1,ii 1,ii 2,ii 3,ii 4,ii 2] 4 (some 4)),.t (.mp (some D2)),.t (.imm [ii 0,ii 1,ii 2,ii 3] 4 (some 4)),.sl ⟨1,0,0⟩ 2 none,.t (.imm [] 0 none)] }]
def sT(n u a b:Int):T:=.iptr [.iptr [ii 9,ii u],nodesA,namesA,.imm [] 0 none,il [3],bb 0,ii n,ii (-1),bb 0,ii 0,.imm [ii 1,ii 1,ii 1,ii 1,ii 2,ii 3,ii 4,ii 2] 4 (some 4),.mp (some D2),.imm [ii 0,ii 1,ii 2,ii 3] 4 (some 4),bl [a,b],.imm [] 0 none]
def l1593122v:FuncId×List AV×AV:=(159,[.c (.t (sT 3 1 2 2))],(.tup [.inl (.t (ii 0)),.inl (.t (bb 1))]))
theorem l1593122:LitOk Tryz.prog l1593122v:=ck_lit [143,40,98,36,75,131,59,15,46,156,157,175] L6_ok (by kernel_rfl) rfl
def l1591122v:FuncId×List AV×AV:=(159,[.c (.t (sT 1 1 2 2))],(.tup [.inl (.t (ii 1)),.inl (.t (bb 1))]))
theorem l1591122:LitOk Tryz.prog l1591122v:=ck_lit [143,40,98,36,75,131,59,15,46,156,157,175] L6_ok (by kernel_rfl) rfl
def l1591221v:FuncId×List AV×AV:=(159,[.c (.t (sT 1 2 2 1))],(.tup [.inl (.t (ii 0)),.inl (.t (bb 1))]))
theorem l1591221:LitOk Tryz.prog l1591221v:=ck_lit [143,40,98,36,75,131,59,15,46,156,157,175] L6_ok (by kernel_rfl) rfl
abbrev L7:Lits:=[l1593122v,l1591122v,l1591221v]++L6
theorem L7_ok:∀x∈L7,LitOk Tryz.prog x:=by
 intro x hx;rcases Ad.1 hx with h|h
 ·simp only[AW,Ao,Bl]at h;rcases h with rfl|rfl|rfl
  ·exact l1593122
  ·exact l1591122
  ·exact l1591221
 ·exact L6_ok x h
def ckH(n:Int):Option (AV×Option Q1):=match runF3 Tryz.prog (tabW [143,40,98,36,75,131,59,15,46,156,157,175,159]) md (cfT L7 noCF) 400 40 135 [.c (.ptr ⟨2,0,0⟩)] (sig n 0 2 2) with
 |some (v,J)=>(XL 8 J 3 v).map λu=>(u,Wp 8 J 3)
 |none=>none
theorem ckH_ok{n:Int}{v:AV}{τ:Q1}(h:ckH n=some (v,some τ)):Qo Tryz.prog 135 [.c (.ptr ⟨2,0,0⟩)] (sig n 0 2 2) λu J=>u=v/\J=τ:=by
 unfold ckH at h;split at h
 ·rename_i u J h1;rw[WF]at h;obtain⟨y,h2,h3⟩:=h;simp only[A0]at h3;obtain⟨rfl,h3⟩:=h3;refine K9 3 (by exact A6 3) ((runF3_ok mixed (tabW_ok _) (cfT_ok noCF_ok L7_ok) 400 40 _ _ _ u J h1).mono λv' S' ⟨e1,e2⟩=> ?_);subst e1;subst e2;exact⟨8,_,_,h2,h3,rfl,rfl⟩
 ·cases h
theorem s135a:ckH 3=some (.tup [.inl (.t (.bool true)),.inl (.t (.imm [] 0 (some 0)))],some (sig 3 1 1 2)):=by kernel_rfl
theorem s135b:ckH 1=some (.tup [.inl (.t (.bool false)),.inl (.t (.imm [ii 1,ii 1,ii 2,ii (-1),ii 0,ii 0,ii 0,ii 3,ii 4,ii (-1),ii 0,ii 0,ii (-1),ii 0,ii 0] 5 (some 5)))],some (sig 1 2 2 2)):=by kernel_rfl
end Gn
