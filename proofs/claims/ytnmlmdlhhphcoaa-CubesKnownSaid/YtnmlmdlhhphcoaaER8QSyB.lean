/- A part of the proof. -/
import Derived.Test.YtnmlmdlhhphcoaaER8QSyA
import Derived.Test.YtnmlmdlhhphcoaaER8QSyX
set_option linter.all false
namespace Go.Abs
variable [Gl]
theorem SR.QU(r:SR)(t:Nat)(v:Tg×SV):(r.set t v).get t=some v:=by
 induction r with
 |nil=>simp[SR.set,SR.get]
 |cons p r ih=>
  obtain⟨k,u⟩:=p;simp only[SR.set];split
  ·rename_i h;simp[SR.get,h]
  ·rename_i h;simp[SR.get,h,ih]
theorem UU{a b:Nat}(h:Nat.beq a b=false):a≠b:=λe=>by subst e;simp at h
theorem ne_beq{a b:Nat}(h:a≠b):Nat.beq a b=false:=by
 cases hb:Nat.beq a b with
 |false=>rfl
 |true=>exact absurd (eqB hb) h
theorem Ul{x:Nat}:∀{l:List Nat},Vd x l=true↔x∈l
 |[]=>by simp[Vd]
 |y::l=>by
  simp only[Vd];split
  ·rename_i h;simp[eqB h]
  ·rename_i h;simp[Ul (l:=l),Ne.symm (UU h)]
theorem K7:∀{l:List Nat},Vb l=true->l.Nodup
 |[],_=>List.nodup_nil
 |x::l,h=>by
  simp only[Vb]at h;split at h
  ·cases h
  ·rename_i h1;exact List.nodup_cons.2 ⟨λhm=>(by rw[Ul.2 hm]at h1;cases h1),K7 h⟩
theorem SR.Qy(r:SR){t t':Nat}(v:Tg×SV)(h:t≠t'):(r.set t v).get t'=r.get t':=by
 induction r with
 |nil=>simp[SR.set,SR.get,ne_beq h]
 |cons p r ih=>
  obtain⟨k,u⟩:=p;simp only[SR.set];split
  ·rename_i h1;have e:=eqB h1;subst e;simp[SR.get,ne_beq h]
  ·rename_i h1;simp only[SR.get];split
   ·rfl
   ·exact ih
theorem SR.UL(r:SR){t t':Nat}(h:t≠t'):(r.del t).get t'=r.get t':=by
 induction r with
 |nil=>rfl
 |cons p r ih=>
  obtain⟨k,u⟩:=p;simp only[SR.del];split
  ·rename_i h1;have e:=eqB h1;subst e;simp[SR.get,ne_beq h,ih]
  ·rename_i h1;simp only[SR.get];split
   ·rfl
   ·exact ih
theorem SR.YC(r:SR)(t:Nat):(r.del t).get t=none:=by
 induction r with
 |nil=>rfl
 |cons p r ih=>
  obtain⟨k,u⟩:=p;simp only[SR.del];split
  ·exact ih
  ·rename_i h1;simp[SR.get,h1,ih]
theorem SR.W7{r:SR}{d t:Nat}{tg:Tg}{v:SV}(h:r.free d=true)(hg:r.get t=some (tg,v)):inTg d tg=false:=by
 induction r with
 |nil=>simp[SR.get]at hg
 |cons p r ih=>
  obtain⟨k,tg',u⟩:=p;simp only[SR.free]at h;split at h
  ·cases h
  ·rename_i h1;simp only[SR.get]at hg;split at hg
   ·injection hg with hg;injection hg with hg _;subst hg;exact h1
   ·exact ih h hg
theorem Xd{r r':SR}{d:Nat}(h:∀t,t≠d->r'.get t=r.get t):∀{L:Tg},inTg d L=false->r'.holds L=r.holds L
 |[],_=>rfl
 |(t,w)::l,hl=>by
  simp only[inTg]at hl;split at hl
  ·cases hl
  ·rename_i h1;rw[SR.XE,SR.XE,Xd h hl];simp only[SR.isB,h t (UU h1)]
theorem KF{r r':SR}{tg:Tg}{v:SV}(h:r'.holds tg=r.holds tg):r'.dv tg v=r.dv tg v:=by
 cases tg with
 |nil=>rfl
 |cons x l=>simp only[SR.dv,h]
theorem KE{r:SR}{tg:Tg}{v:SV}:r.dv tg v=if r.holds tg=true then v.den else .tup []:=by
 cases tg with
 |nil=>simp[SR.dv,SR.holds]
 |cons x l=>simp only[SR.dv];cases r.holds (x::l)<;>simp
theorem Zm{r:SR}{t:Nat}{u:AV}(h:r.den.get t=some u):∃tg v,r.get t=some (tg,v)/\u=r.dv tg v:=by
 cases hg:r.get t with
 |none=>rw[SR.jj hg]at h;cases h
 |some p=>obtain⟨tg,v⟩:=p;rw[SR.QS hg]at h;injection h with h;exact⟨tg,v,rfl,h.symm⟩
theorem set_get{r:SR}{d:Nat}{L:Tg}{v:SV}(h1:r.free d=true)(h2:inTg d L=false){t:Nat}{u:AV}(h:(r.set d (L,v)).den.get t=some u):
  (t=d/\u=r.dv L v)\/(t≠d/\r.den.get t=some u):=by
 obtain⟨tg,v',h3,rfl⟩:=Zm h;have hc:∀t,t≠d->(r.set d (L,v)).get t=r.get t:=λt ht=>SR.Qy r _ (Ne.symm ht);by_cases e:t=d
 ·subst e;rw[SR.QU]at h3;injection h3 with h3;injection h3 with h3 h4;subst h3;subst h4;exact .inl ⟨rfl,KF (Xd hc h2)⟩
 ·rw[hc t e]at h3;refine .inr ⟨e,?_⟩;rw[SR.QS h3];congr 1;exact(KF (Xd hc (SR.W7 h1 h3))).symm
theorem del_sub{r:SR}{d:Nat}(h1:r.free d=true):J6 r.den (r.del d).den:=λt u h=>by
 obtain⟨tg,v',h3,rfl⟩:=Zm h;have hc:∀t,t≠d->(r.del d).get t=r.get t:=λt ht=>SR.UL r (Ne.symm ht);by_cases e:t=d
 ·subst e;rw[SR.YC]at h3;cases h3
 ·rw[hc t e]at h3;rw[SR.QS h3];congr 1;exact(KF (Xd hc (SR.W7 h1 h3))).symm
theorem J6.trans{a b c:Q3}(h:J6 a b)(h':J6 b c):J6 a c:=λt v hv=>h t v (h' t v hv)
theorem J6.rfl'{a:Q3}:J6 a a:=λ_ _ h=>h
theorem J6.wr{a b:Q3}(h:J6 a b):WR a b:=λt v hv=>⟨v,h t v hv,WV.rfl'⟩
theorem Xa:∀(ts:List Nat) (r:SR),J6 r.den (r.kill ts).den
 |[],r=>J6.rfl'
 |t::ts,r=>by
  simp only[SR.kill];split
  ·rename_i h;exact(del_sub h).trans (Xa ts _)
  ·exact Xa ts r
theorem put_get{r r':SR}{d:Nat}{L:Tg}{v:Option SV}(h:r.put (some d) L v=some r'){t:Nat}{u:AV}(hg:r'.den.get t=some u):
  (t=d/\u=(match v with|some v=>r.dv L v|none=>.tup []))\/(t≠d/\r.den.get t=some u):=by
 simp only[SR.put]at h;split at h
 ·rename_i h1 h2;split at h
  ·injection h with h;subst h;exact set_get h1 h2 hg
  ·injection h with h;subst h;exact set_get h1 rfl hg
 ·cases h
theorem JP{r r':SR}{d:Option Nat}{L:Tg}{v:Option SV}{ρ:Q3}(Hr:J6 ρ r.den)(hL:r.holds L=true)(h:r.put d L v=some r'):J6 (ρ.Jj d (v.map SV.den)) r'.den:=λt u hu=>by
 cases d with
 |none=>simp only[SR.put,Option.some.injEq]at h;subst h;cases v<;>exact Hr t u hu
 |some d=>
  rcases put_get h hu with ⟨rfl,rfl⟩|⟨h1,h2⟩
  ·cases v with
   |none=>simp[Q3.Jj,Q3.drop,Q3.QU]
   |some v=>simp[Q3.Jj,Q3.put,Q3.QU,KE,hL]
  ·have:=Hr t u h2;cases v<;>simp[Q3.Jj,Q3.drop,Q3.put,Q3.Qy _ _ (Ne.symm h1),this]
theorem jB{r r':SR}{d:Option Nat}{L:Tg}{v:SV}{ρ:Q3}(Hr:J6 ρ r.den)(hL:r.holds L=false)(h:r.put d L (some v)=some r'):J6 (ρ.drop d) r'.den:=λt u hu=>by
 cases d with
 |none=>simp only[SR.put,Option.some.injEq]at h;subst h;exact Hr t u hu
 |some d=>
  rcases put_get h hu with ⟨rfl,rfl⟩|⟨h1,h2⟩
  ·simp[Q3.drop,Q3.QU,KE,hL]
  ·simp[Q3.drop,Q3.Qy _ _ (Ne.symm h1),Hr t u h2]
theorem WR.JJ{a b c:Q3}(h:WR a b)(h':J6 b c):WR a c:=λt v hv=>h t v (h' t v hv)
theorem WU{ρ:Q3}{d:Option Nat}{a b:Option AV}(h:WVO a b):WR (ρ.Jj d a) (ρ.Jj d b):=λt v hv=>by
 cases d with
 |none=>cases a<;>cases b<;>first|exact⟨v,hv,WV.rfl'⟩|exact h.elim
 |some d=>
  cases a<;>cases b<;>first|exact h.elim|exact⟨v,hv,WV.rfl'⟩|skip
  rename_i a b;simp only[Q3.Jj,Q3.put]at hv⊢;by_cases e:d=t
  ·subst e;rw[Q3.QU]at hv⊢;injection hv with hv;subst hv;exact⟨a,rfl,h⟩
  ·rw[Q3.Qy _ _ e]at hv⊢;exact⟨v,hv,WV.rfl'⟩
theorem zB_ok:∀{c:Ly} {z:List T},zB c z=true->WL (z.map .t) ((c.trees c.Z0).map .t)
 |.int k,z,h=>by
  simp only[zB]at h;split at h
  ·rw[XZ h];exact WL.rfl'
  ·cases h
 |.bool,z,h=>by
  simp only[zB]at h;split at h
  ·exact WL.rfl'
  ·cases h
 |.str,z,h=>by
  simp only[zB]at h;split at h
  ·exact WL.rfl'
  ·cases h
 |.sl c,z,h=>by
  simp only[zB]at h;split at h
  ·exact⟨.t (.cap _ _ _),trivial⟩
  ·cases h
 |.pair a b,z,h=>by
  simp only[zB]at h;split at h
  ·rename_i h1;have h2:=zB_ok h1;have h3:=zB_ok h;have e:z.map Cell.t=(z.take a.size).map Cell.t++(z.drop a.size).map Cell.t:=(by rw[<-List.map_append,List.take_append_drop]);rw[e];simp only[Ly.trees,Ly.Z0,List.map_append];exact h2.append h3
  ·cases h
theorem norm_ok(o:SO):WO o.den o.norm.den:=by
 cases o with
 |st cs es ep=>exact WO.rfl'
 |arr c xs ep=>exact WO.rfl'
 |opn c xs cs ys ep=>exact WO.rfl'
 |zer z c n=>
  simp only[SO.norm];split
  ·rename_i h;refine⟨?_,rfl,rfl⟩;show WL ((K4 n z).map .t) (((List.replicate n c.Z0).flatMap c.trees).map .t);have:=zB_ok h
   induction n with
   |zero=>exact trivial
   |succ n ih=>simp only[K4,List.replicate_succ,List.flatMap_cons,List.map_append];exact this.append ih
  ·exact WO.rfl'
theorem Xh(J:SH):WH (SH.den J) (SH.den (SH.norm J)):=by
 unfold SH.norm;split
 ·rename_i hz;clear hz;show WH (List.map SO.den J) (List.map SO.den (List.map SO.norm J))
  induction J with
  |nil=>exact trivial
  |cons o J ih=>exact⟨norm_ok o,ih⟩
 ·exact WH.rfl'
section
variable {P:Program}{N:Nat}{ro:Option Nat}{n0:Nat}
theorem Qc.tr{n:Nat}{r r' r'':Q3}{J S' S'':Q4}(h:Qc N n r J r' S')(h':Qc N n r' S' r'' S''):Qc N n r J r'' S'':=λM w a hh hr=>by obtain⟨I',h1,h2,h3⟩:=h M w a hh hr;obtain⟨i'',h4,h5,h6⟩:=h' I' w a h1 h2;exact⟨i'',h4,h5,λI0 S0 w0 h0 hn hs=>h6 I0 S0 w0 h0 hn (h3 I0 S0 w0 h0 hn hs)⟩
theorem ghost_add{n:Nat}{r:Q3}{J:Q4}(o:Obj):Qc N n r J r (J++[o]):=λM w a hh hr=>
 ⟨M,⟨λid s hs=>by
   obtain⟨o',h1,h2⟩:=hh.obj id s hs
   exact⟨o',by rw[List.getElem?_append_left (hh.lt hs)];exact h1,h2⟩,hh.inj,hh.resRow,hh.resNo⟩,hr,λ_ _ _ _ _ hs=>
  ⟨by have:=hs.len;simp;omega,hs.size,hs.os,hs.out,hs.keep,hs.none,hs.new,hs.res,hs.ex,hs.resKeep,hs.frame⟩⟩
theorem Out.ghost{ex:Bool}{J τ T':Q4}{a b:Option AV}(h:Out ex J a τ b T')(ρ:Q3)(d:Option Nat)(n:Nat):Qc N n (ρ.Jj d a) τ (ρ.Jj d b) T':=by
 cases h with
 |ZI h1 h2 _=>exact QI (WU h1) h2
 |own es _=>
  cases d with
  |none=>exact ghost_add _
  |some d=>
   refine Qc.tr (KI.f (Vl (t:=d) es (by simp[Q3.Jj,Q3.put,Q3.QU])) n) (QI ?_ WH.rfl');refine J6.wr λt v hv=> ?_;simp only[Q3.Jj,Q3.put]at hv⊢;by_cases e:d=t
   ·subst e;rw[Q3.QU]at hv⊢;exact hv
   ·rw[Q3.Qy _ _ e]at hv⊢;rw[Q3.Qy _ _ e];exact hv
theorem W2{op:Op}(h:Xc op=none):∀f args ts,op≠.call { callee:=.value f,args:=args,argTypes:=ts }:=λf args ts e=>by subst e;cases h
theorem Xb{op:Op}{f:Operand}{args:List Operand}(h:Xc op=some (f,args)):∃as ts,op=.call { callee:=.value f,args:=as,argTypes:=ts }/\args=as.toList:=by
 unfold Xc at h;split at h
 ·injection h with h;injection h with h1 h2;subst h1;subst h2;exact⟨_,_,rfl,rfl⟩
 ·cases h
theorem jK{ty:TyT}(hty:Zz P ty){r:SR}{L:Tg}{ρ:Q3}(Hr:J6 ρ r.den)(hL:r.holds L=true){J:SH}{o:Oper}(hc:Xc o.op=none){res:Option SV}{S':SH}
  (h:opS false ty r L J o.op=some (true,res,S')):Xu P ρ (SH.den J) o λres0 τ=>Out false (SH.den J) res0 τ (res.map SV.den) (SH.den S'):=by
 by_cases hb:∀b xT x y yT,o.op=.binOp b xT x y yT->Ju y=false
 ·obtain⟨res0,τ,h1,h2⟩:=opS_ok hty Hr hL hb h;exact XB (W2 hc) (XY hb ρ) h1 h2
 ·simp only[Classical.not_forall]at hb;obtain⟨b,xT,x,y,yT,hop,hy⟩:=hb;have hy:Ju y=true:=(by simpa using hy);rw[hop]at h;simp only[opS,hy]at h;split at h
  ·rename_i i c hi;have hti:=hty.ok _ _ _ hi;split at h
   ·rename_i e hk;split at h
    ·rename_i ne n hne hn;rw[Option.bind_eq_some_iff]at hn;obtain⟨v,hv,hlen⟩:=hn;rw[hv]at h;have key:eqN n 0=false/\(∀s,v≠.c (.sg s))/\res=some (.c (.bo ne))/\S'=J:=by
      split at h
      ·cases h
      ·rename_i hns;simp only[Option.some.injEq,Prod.mk.injEq,Bool.not_eq_true']at h;exact⟨h.1,λs e=>hns s (by rw[e]),h.2.1.symm,h.2.2.symm⟩
     obtain⟨h1,h2,rfl,rfl⟩:=key;have hev:=Qg Hr hL hv;have hsl:slLen v.den=some n:=by
      unfold lenS at hlen;split at hlen
      ·injection hlen with hlen;subst hlen;rfl
      ·injection hlen with hlen;subst hlen;rfl
      ·injection hlen with hlen;subst hlen;rfl
      ·exact absurd rfl (h2 _)
      ·cases hlen
     unfold Xu;rw[hop];simp only[Za,hy,if_true,hti,hev,hne,hk,hsl];refine⟨Out.same,λe=> ?_⟩;simp[eqN,e]at h1
    ·cases h
   ·rename_i hns;split at h
    ·rename_i u v hu hv;rw[Option.map_eq_some_iff]at h;obtain⟨t,h1,h2⟩:=h;obtain⟨b',t⟩:=t;simp only[Prod.mk.injEq]at h2;obtain⟨rfl,rfl,rfl⟩:=h2;have hb:=binS_ok hty h1;rw[Option.map_eq_some_iff]at hb;obtain⟨tt,h5,h6⟩:=hb;refine XB (W2 hc) ?_ (res:=some (.c (.t tt))) (S':=SH.den J) ?_ ?_
     ·rw[hop];simp only[Za,hy,if_true,hti];split
      ·rename_i i' v' ne e1 e2 e3;injection e1 with e1;subst e1;split
       ·rename_i e n hk _;exact absurd hk (hns e)
       ·rfl
      ·rfl
     ·rw[hop];simp only[opE,Qg Hr hL hu,Qg Hr hL hv,h5,Option.map_some]
     ·rw[Option.map_some,SV.ZD,<-h6];exact Out.same
    ·cases h
  ·cases h
theorem Jv{r:SR}{L:Tg}{ρ:Q3}(Hr:J6 ρ r.den)(hL:r.holds L=true){f:Operand}{args:List Operand}{g:FuncId}{as:List SV}(h:ZE r L f args=some (g,as)):Yt ρ f args=some (g,as.map SV.den):=by
 unfold ZE at h;split at h
 ·rename_i g' as' h1 h2;injection h with h;injection h with h3 h4;subst h3;subst h4;simp only[Yt,Qg Hr hL h1,Ys Hr hL h2,SV.ZD,SC.den_fn,Jw,List.map_nil,List.append_nil]
 ·rename_i g' rs as' h1 h2;split at h
  ·rename_i h0 hy;injection h with h;injection h with h3 h4;subst h3;subst h4;have hy':¬g'=YID:=λe=>(by subst e;simp at hy);have:∀{rs:List Ref},allE0 rs=true->(rs.map refArg).map SV.den=rs.map λr=>AV.c (.ptr r):=λ{rs}=>by
    induction rs with
    |nil=>intro _;rfl
    |cons r rs ih=>
     intro h;simp only[allE0]at h;split at h
     ·rename_i he;obtain⟨id,ep,off⟩:=r;have he':ep=0:=eqB he;subst he';simp only[List.map_cons,ih h];rfl
     ·cases h
   simp only[Yt,Qg Hr hL h1,Ys Hr hL h2,SV.ZD,SC.den_clo,Jw,hy',if_false,List.map_append,this h0]
  ·cases h
 ·cases h
structure Qk(P:Program)(g:FuncId)(c:Con):Prop where
 ok:∀as J x y,c.dec as J=some x->c.run x=some y->Jl P g (as.map SV.den) (SH.den J) λv τ=>WV v (c.val x y J).den/\WH τ (SH.den (c.heap x y J))
 rd:∀as J x y rs,c.dec as J=some x->c.rd x=some rs->c.heap x y J=J/\(c.run x=some y->VJ P g (as.map SV.den) (SH.den J) rs (c.val x y J).den)
structure Xk(P:Program)(E:Env):Prop where
 ty:Zz P E.ty
 cf:∀g c,c∈E.cf g->Qk P g c
theorem Xy{as:List SV}{J:SH}:∀{l:List Con} {c:Con} {x:c.X},ZB as J l=some ⟨c,x⟩->c∈l/\c.dec as J=some x
 |[],c,x,h=>by cases h
 |c0::l,c,x,h=>by
  simp only[ZB]at h;split at h
  ·rename_i x0 hx;simp only[Option.some.injEq,Sigma.mk.injEq]at h;obtain⟨rfl,h⟩:=h;have h:=eq_of_heq h;subst h;exact⟨by simp,hx⟩
  ·obtain⟨h1,h2⟩:=Xy h;exact⟨by simp[h1],h2⟩
theorem callS_ok{E:Env}(hE:Xk P E){β:Type}{g:FuncId}{as:List SV}{J:SH}{K:SV->SH->Option β}{b:β}(h:callS E g as J K=some b):
  ∃v S',K v S'=some b/\Jl P g (as.map SV.den) (SH.den J) λu τ=>WV u v.den/\WH τ (SH.den S'):=by
 unfold callS at h;split at h
 ·rename_i c x hcx;obtain⟨hc,hx⟩:=Xy hcx;unfold Q1 at h;split at h
  ·rename_i y hy;exact⟨_,_,h,(hE.cf g c hc).ok as J x y hx hy⟩
  ·cases h
 ·cases h
theorem callG_ok{E:Env}(hE:Xk P E){β:Type}{g:FuncId}{as:List SV}{J:SH}{w:Bool}{K:SV->Option β}{b:β}(h:callG E w g as J K=some b):
  ∃v,K v=some b/\(w=true->Jl P g (as.map SV.den) (SH.den J) λu τ=>WV u v.den/\WH τ (SH.den J)):=by
 unfold callG at h;split at h
 ·rename_i c x hcx;obtain⟨hc,hx⟩:=Xy hcx;split at h
  ·rename_i rs hrs;unfold Q1 at h;split at h
   ·rename_i y hy;refine⟨_,h,λhw=> ?_⟩;subst hw;have:=(hE.cf g c hc).ok as J x y hx hy;rw[((hE.cf g c hc).rd as J x y rs hx hrs).1]at this;exact this
   ·cases h
  ·cases h
 ·cases h
theorem builtin_quiet{ex:Bool}{ty:TyT}{J:SH}{b:Builtin}{ts:Array TypeId}{vs:List SV}{x:Bool×SV×SH}(hb:(match b with|.len|.cap|.min|.max=>true|_=>false)=true)(h:Zn ex ty J b ts vs=some x):x.2.2=J:=by
 unfold Zn at h;split at h<;>first|cases hb;done|skip
 all_goals repeat' (first|(cases h;done)|(rw[Option.map_eq_some_iff]at h;obtain⟨v,h1,h2⟩:=h;rw[<-h2])|(simp only[Option.some.injEq]at h;rw[<-h];done)|split at h)
theorem U9{ex:Bool}{ty:TyT}{r:SR}{L:Tg}{J S':SH}{op:Op}(hq:quiet op=true){p:Bool}{res:Option SV}(h:opS ex ty r L J op=some (p,res,S')):S'=J:=by
 unfold opS at h;split at h<;>first|cases hq;done|skip
 all_goals repeat' (first|(cases h;done)|(rw[Option.map_eq_some_iff]at h;obtain⟨v,h1,h2⟩:=h;simp only[Prod.mk.injEq]at h2;first|exact h2.2.2.symm|skip)|(simp only[Option.some.injEq,Prod.mk.injEq]at h;exact h.2.2.symm)|split at h)
 rw[<-h2.2.2];exact builtin_quiet hq h1
theorem guardE_holds{ops:Array Oper}{o:Oper}{d:Nat}{w:Bool}(hg:(match o.guard with|none=>some none|some (j,want)=>match (ops[j]?).bind (·.dst) with|some d=>some (some (d,want))|none=>none)=some (some (d,w))){r:SR}{tg:Tg}{b:Bool}(hr0:r.gget d=some (tg,.c (.bo b))){ρ:Q3}(Hr:J6 ρ r.den):
  X0 ops ρ o.guard=some (r.holds ((d,w)::tg)):=by
 rw[<-YN (all:=ops) (r:=ρ) (o:=o) hg];have hr:=(SR.ZC hr0).2;have h1:=Q3.at_of (Hr _ _ (SR.QS hr)) (SR.ZC hr0).1;simp only[W5,h1,KE,SR.XE]
 cases hh:r.holds tg with
 |false=>simp[UK]
 |true=>simp only[if_true,SV.ZD,SC.den_bo,UK,Bool.true_and,SR.isB,hr];cases w<;>cases b<;>rfl
def SaysU(F:Q3->Q4->(Exit->Q3->Q4->Prop)->Prop):QB->Prop
 |.one _ _ dec run out=>∀r J x y,dec r J=some (true,x)->run x=some y->F r.den (SH.den J) λe ρ τ=>e=(out x y).1/\WR ρ (out x y).2.1.den/\WH τ (SH.den (out x y).2.2)
 |.two _ _ _ dec run outY outZ=>∀r J x s,dec r J=some (true,x)->run x=some s->F r.den (SH.den J) λe ρ τ=>match s with
  |.inl y=>e=(outY x y).1/\WR ρ (outY x y).2.1.den/\WH τ (SH.den (outY x y).2.2)
  |.inr z=>e=(outZ x z).1/\WR ρ (outZ x z).2.1.den/\WH τ (SH.den (outZ x z).2.2)
 |.alt u v=>SaysU F u/\SaysU F v
theorem qt{F:Q3->Q4->(Exit->Q3->Q4->Prop)->Prop}{u:QB}(hu:SaysU F u){β:Type}{r:SR}{J:SH}{K:Exit->SR->SH->Option β}{b:β}(h:UY u r J K=some b):
  ∃Q:Exit->Q3->Q4->Prop,F r.den (SH.den J) Q/\∀e ρ τ,Q e ρ τ->∃r' S',WR ρ r'.den/\WH τ (SH.den S')/\K e r' S'=some b:=by
 induction u with
 |alt u v ih1 ih2=>
  simp only[UY]at h;split at h
  ·exact ih1 hu.1 h
  ·exact ih2 hu.2 h
 |one X Y dec run out=>
  simp only[UY]at h;split at h
  ·rename_i p x hx
   cases p with
   |false=>cases h
   |true=>
    simp only[cond_true,Q1]at h;split at h
    ·rename_i y hy;exact⟨_,hu r J x y hx hy,λe ρ τ ⟨h1,h2,h3⟩=>⟨_,_,h2,h3,by rw[h1];exact h⟩⟩
    ·cases h
  ·cases h
 |two X Y Z dec run outY outZ=>
  simp only[UY]at h;split at h
  ·rename_i p x hx
   cases p with
   |false=>cases h
   |true=>
    simp only[cond_true,Q1]at h;split at h
    ·rename_i s hs;refine⟨_,hu r J x s hx hs,λe ρ τ hq=> ?_⟩
     cases s with
     |inl y=>exact⟨_,_,hq.2.1,hq.2.2,by rw[hq.1];exact h⟩
     |inr z=>exact⟨_,_,hq.2.1,hq.2.2,by rw[hq.1];exact h⟩
    ·cases h
  ·cases h
def J2(P:Program)(N n0:Nat)(A B:Code)(u:QB):Prop:=SaysU (Y3 P N n0 A B) u
def Qp(P:Program)(n0:Nat)(E:Env)(yk:Option YI):Prop:=∀ps u,E.yb=some (ps,u)->∃y,yk=some y/\y.ps=ps/\y.n<=BIG/\(∀p∈ps.toList,p<y.n)/\J2 P y.n n0 y.assign y.body u
theorem Qp.no{E:Env}{yk:Option YI}(h:E.yb=none):Qp P n0 E yk:=λ_ _ e=>by rw[h]at e;cases e
theorem SR.get_mem:∀{r:SR} {t:Nat} {x:Tg×SV},r.get t=some x->(t,x)∈r
 |(k,v)::r,t,x,h=>by
  simp only[SR.get]at h;split at h
  ·rename_i e;have e:=eqB e;subst e;injection h with h;subst h;simp
  ·exact List.mem_cons_of_mem _ (SR.get_mem h)
theorem JR{f:Nat->Option Nat}{r0:SR}:∀{r:SR} {t':Nat} {tg:Tg} {v:SV},(t',tg,v)∈mapB f r0 r->tg=[]/\∃t,f t=some t'/\r0.get t=some ([],v)
 |(t,x,y)::r,t',tg,v,h=>by
  simp only[mapB]at h;split at h
  ·rename_i t1 h1;split at h
   ·rename_i v1 h2;rcases List.mem_cons.1 h with h|h
    ·injection h with h3 h4;injection h4 with h4 h5;subst h3;subst h4;subst h5;exact⟨rfl,t,h1,h2⟩
    ·exact JR h
   ·exact JR h
  ·exact JR h
theorem qm:∀{ps:List Nat} {as:List SV} {t:Nat} {tg:Tg} {v:SV},(t,tg,v)∈zipS ps as->tg=[]/\∃i:Nat,ps[i]? =some t/\as[i]? =some v
 |p::ps,a::as,t,tg,v,h=>by
  simp only[zipS]at h;rcases List.mem_cons.1 h with h|h
  ·injection h with h3 h4;injection h4 with h4 h5;subst h3;subst h4;subst h5;exact⟨rfl,0,rfl,rfl⟩
  ·obtain⟨h1,i,h2,h3⟩:=qm h;exact⟨h1,i+1,by simpa using h2,by simpa using h3⟩
 |[],_,t,tg,v,h=>by simp[zipS]at h
 |_::_,[],t,tg,v,h=>by simp[zipS]at h
theorem VB{r:SR}(hr:∀t tg v,(t,tg,v)∈r->tg=[]){t:Nat}{u:AV}(h:r.den.get t=some u):∃v,(t,[],v)∈r/\u=v.den:=by obtain⟨tg,v,h1,rfl⟩:=Zm h;have h2:=SR.get_mem h1;have:=hr _ _ _ h2;subst this;exact⟨v,h2,rfl⟩
theorem fOwn_ok{ps:List Nat}{t t':Nat}(h:fOwn ps t=some t'):t=2000000+t'/\t'<BIG/\t'∉ps:=by
 unfold fOwn at h;split at h
 ·rename_i h1 h2;split at h
  ·cases h
  ·rename_i h3;injection h with h;have h1:=Nat.le_of_ble_eq_true h1;have h2:t+1<=3000000:=Nat.le_of_ble_eq_true h2;subst h;refine⟨by omega,by unfold BIG;omega,λhm=> ?_⟩;rw[Ul.2 hm]at h3;cases h3
 ·cases h
theorem fIt_ok{t t':Nat}(h:fIt t=some t'):t<BIG/\t'=1000000+t:=by
 unfold fIt at h;split at h
 ·rename_i h1;injection h with h;have h1:t+1<=1000000:=Nat.le_of_ble_eq_true h1;exact⟨by unfold BIG;omega,h.symm⟩
 ·cases h
theorem jg{t t':Nat}(h:fKeep t=some t'):t'=t/\2000000<=t/\t<3000000:=by
 unfold fKeep at h;split at h
 ·rename_i h1 h2;injection h with h;have h1:=Nat.le_of_ble_eq_true h1;have h2:t+1<=3000000:=Nat.le_of_ble_eq_true h2;exact⟨h.symm,h1,by omega⟩
 ·cases h
theorem fBack_ok{t t':Nat}(h:fBack t=some t'):t=1000000+t'/\t'<BIG:=by
 unfold fBack at h;split at h
 ·rename_i h1 h2;injection h with h;have h1:=Nat.le_of_ble_eq_true h1;have h2:t+1<=2000000:=Nat.le_of_ble_eq_true h2;exact⟨by omega,by unfold BIG;omega⟩
 ·cases h
theorem bodyS_ok{ps:Array Tmp}{as:List SV}{r R:SR}(h:bodyS ps as r=some R):as.length=ps.size/\ps.toList.Nodup/\HeadR ps.toList (as.map SV.den) r.den R.den:=by
 unfold bodyS at h;split at h
 ·rename_i h1 h2;injection h with h;refine⟨eqB h1,K7 h2,λt v hv=> ?_⟩;have hu:∀t tg v,(t,tg,v)∈R->tg=[]:=λt tg v hm=>by
   rw[<-h]at hm;simp only[List.mem_append]at hm;rcases hm with hm|hm|hm|hm
   ·exact(qm hm).1
   ·exact(JR hm).1
   ·exact(JR hm).1
   ·exact(JR hm).1
  obtain⟨v',hm,rfl⟩:=VB hu hv;rw[<-h]at hm;simp only[List.mem_append]at hm;rcases hm with hm|hm|hm|hm
  ·obtain⟨_,i,h3,h4⟩:=qm hm;exact .inl ⟨i,h3,by simp[h4]⟩
  ·obtain⟨_,t1,h3,h4⟩:=JR hm;obtain⟨rfl,h5,h6⟩:=fOwn_ok h3;exact .inr (.inl ⟨h5,h6,SR.QS h4⟩)
  ·obtain⟨_,t1,h3,h4⟩:=JR hm;obtain⟨h5,rfl⟩:=fIt_ok h3;exact .inr (.inr (.inl ⟨t1,h5,rfl,SR.QS h4⟩))
  ·obtain⟨_,t1,h3,h4⟩:=JR hm;obtain⟨rfl,h5,h6⟩:=jg h3;exact .inr (.inr (.inr ⟨h5,h6,SR.QS h4⟩))
 ·cases h
theorem backS_ok(m:Nat)(r:SR):BackR m r.den (Wx m r).den:=λt v hv=>by
 have hu:∀t tg v,(t,tg,v)∈Wx m r->tg=[]:=λt tg v hm=>by
  unfold Wx at hm;simp only[List.mem_append,List.mem_singleton]at hm;rcases hm with hm|hm|hm
  ·exact(JR hm).1
  ·exact(JR hm).1
  ·injection hm with _ hm;injection hm
 obtain⟨v',hm,rfl⟩:=VB hu hv;unfold Wx at hm;simp only[List.mem_append,List.mem_singleton]at hm;rcases hm with hm|hm|hm
 ·obtain⟨_,t1,h3,h4⟩:=JR hm;obtain⟨rfl,h5⟩:=fBack_ok h3;exact .inl ⟨h5,SR.QS h4⟩
 ·obtain⟨_,t1,h3,h4⟩:=JR hm;obtain⟨rfl,h5,h6⟩:=jg h3;exact .inr (.inl ⟨h5,h6,SR.QS h4⟩)
 ·injection hm with h1 hm;injection hm with _ hm;subst h1;subst hm;exact .inr (.inr ⟨rfl,rfl⟩)
theorem YJ{r0:SR}:∀{r:SR} {t:Nat} {tg:Tg} {v:SV},(t,tg,v)∈Wm r0 r->tg=[]/\t<BIG/\r0.get t=some ([],v)/\((∃k n,v=.c (.it k n))\/∃b,v=.c (.bo b))
 |[],t,tg,v,h=>by cases h
 |(t0,tg0,v0)::r,t,tg,v,h=>by
  simp only[Wm]at h;split at h
  ·rename_i hb;have hlt:t0<BIG:=(by simpa [BIG] using hb);split at h
   ·rename_i k n hg;rcases List.mem_cons.1 h with h|h
    ·injection h with h1 h2;injection h2 with h2 h3;subst h1;subst h2;subst h3;exact⟨rfl,hlt,hg,.inl ⟨_,_,rfl⟩⟩
    ·exact YJ h
   ·rename_i b hg;rcases List.mem_cons.1 h with h|h
    ·injection h with h1 h2;injection h2 with h2 h3;subst h1;subst h2;subst h3;exact⟨rfl,hlt,hg,.inr ⟨_,rfl⟩⟩
    ·exact YJ h
   ·exact YJ h
  ·exact YJ h
theorem back_scal{N:Nat}{M I2:Map}{w w2:World}{r r':SR}{a:Act}{m:Nat}{R2:Q3}(hr:J3 N M w r.den a)(hreg:∀r3 ρ,WR R2 r3->BackR m r3 ρ->J3 N I2 w2 ρ a)(hw:WR R2 r'.den):J3 N I2 w2 (Wx m r'++Wm r r).den a:=by
 have h0:=hreg _ _ hw (backS_ok m r');refine⟨h0.size,h0.low,λt x hx=> ?_,h0.gl⟩;have hu:∀t tg v,(t,tg,v)∈Wx m r'++Wm r r->tg=[]:=λt tg v hm=>by
  rcases List.mem_append.1 hm with hm|hm
  ·unfold Wx at hm;simp only[List.mem_append,List.mem_singleton]at hm;rcases hm with hm|hm|hm
   ·exact(JR hm).1
   ·exact(JR hm).1
   ·injection hm with _ hm;injection hm
  ·exact(YJ hm).1
 obtain⟨v',hm,rfl⟩:=VB hu hx;rcases List.mem_append.1 hm with hm|hm
 ·have hB:BackR m r'.den [(t,v'.den)]:=λt1 v1 hv1=>by
   simp only[Q3.get]at hv1;split at hv1
   ·rename_i e;subst e;injection hv1 with hv1;subst hv1;unfold Wx at hm;simp only[List.mem_append,List.mem_singleton]at hm;rcases hm with hm|hm|hm
    ·obtain⟨_,t1,h3,h4⟩:=JR hm;obtain⟨rfl,h5⟩:=fBack_ok h3;exact .inl ⟨h5,SR.QS h4⟩
    ·obtain⟨_,t1,h3,h4⟩:=JR hm;obtain⟨rfl,h5,h6⟩:=jg h3;exact .inr (.inl ⟨h5,h6,SR.QS h4⟩)
    ·cases hm;exact .inr (.inr ⟨rfl,rfl⟩)
   ·cases hv1
  exact(hreg _ _ hw hB).get t _ (by simp[Q3.get])
 ·obtain⟨_,hlt,hg,hv⟩:=YJ hm;have h1:=hr.get t _ (SR.QS hg);have e:∀(M:Map) (w:World),lk M w a t=a.tmps.getD t undef:=λM w=>(by unfold lk;rw[if_neg (by omega)]);rw[e]at h1⊢;rcases hv with ⟨k,n,rfl⟩|⟨b,rfl⟩
  ·have h1:TR M.un w (.int k n) (a.tmps.getD t undef):=h1;show TR I2.un w2 (.int k n) (a.tmps.getD t undef);generalize a.tmps.getD t undef=u at h1;cases h1;exact .int k n
  ·have h1:TR M.un w (.bool b) (a.tmps.getD t undef):=h1;show TR I2.un w2 (.bool b) (a.tmps.getD t undef);generalize a.tmps.getD t undef=u at h1;cases h1;exact .bool b
theorem isReady_ok{r:SR}(h:isReady r=true):r.den.get GH=some (.c (.t (.fn 0 []))):=by
 unfold isReady at h;split at h
 ·rename_i m hm;have:=eqB h;subst this;exact SR.QS hm
 ·cases h
theorem Uo{E:Env}{r:SR}{op:Op}(h:Xc op=none):Up E r op=none:=by
 unfold Up;split
 ·rfl
 ·rw[h]
theorem isYield_some{E:Env}{r:SR}{op:Op}{ps:Array Tmp}{u:QB}{as:List SV}(h:Up E r op=some (ps,u,as)):
  E.yb=some (ps,u)/\∃f args ts caps,op=.call { callee:=.value f,args:=args,argTypes:=ts }/\ev r.den f=some (.c (.clo YID caps))/\evl r.den args.toList=some (as.map SV.den):=by
 unfold Up at h;split at h
 ·cases h
 ·rename_i ps' u' hyb;split at h
  ·rename_i f args hc;obtain⟨as',ts,hop,rfl⟩:=Xb hc;split at h
   ·rename_i g rs hf;split at h
    ·rename_i hg;split at h
     ·rename_i as0 has;simp only[Option.some.injEq,Prod.mk.injEq]at h;obtain⟨rfl,rfl,rfl⟩:=h;have:=eqB hg;subst this;refine⟨hyb,f,as',ts,rs,hop,?_,?_⟩
      ·rw[Qg (L:=[]) J6.rfl' rfl hf];rfl
      ·exact Ys (L:=[]) J6.rfl' rfl has
     ·cases h
    ·cases h
   ·cases h
  ·cases h
theorem jumpS_eq(e:Exit):jumpS e=jumpE e:=by cases e<;>rfl
theorem qe(d:Nat)(w:Bool):∀(r:SR) (t:Nat),(SR.fix d w r).get t=(r.get t).map λx=>if t=d then ([],SV.c (.bo w)) else (fixT d w x.1,x.2)
 |[],t=>rfl
 |(k,tg,v)::r,t=>by
  simp only[SR.fix];split
  ·rename_i hk;have hk:k=d:=Nat.eq_of_beq_eq_true hk;subst hk;simp only[SR.get];split
   ·rename_i ht;have ht:k=t:=Nat.eq_of_beq_eq_true ht;subst ht;simp
   ·exact qe k w r t
  ·rename_i hk;simp only[SR.get];split
   ·rename_i ht;have ht:k=t:=Nat.eq_of_beq_eq_true ht;subst ht;have:¬k=d:=λe=>(by subst e;simp at hk);simp[this]
   ·exact qe d w r t
theorem fix_isB{d:Nat}{w:Bool}{r:SR}{tg:Tg}(hd:r.get d=some (tg,.c (.bo w)))(t:Nat)(u:Bool):(SR.fix d w r).isB t u=r.isB t u:=by
 unfold SR.isB;rw[qe];by_cases e:t=d
 ·subst e;rw[hd];simp
 ·cases hg:r.get t with
  |none=>rfl
  |some x=>
   obtain⟨tg',v⟩:=x;simp only[Option.map_some,e,if_false]
   cases v with
   |c y=>cases y<;>rfl
   |_=>rfl
theorem fix_holds{d:Nat}{w:Bool}{r:SR}{tg0:Tg}(hd:r.get d=some (tg0,.c (.bo w))):∀(tg:Tg),(SR.fix d w r).holds (fixT d w tg)=r.holds tg
 |[]=>rfl
 |(t,u)::l=>by
  have ih:=fix_holds hd l;have keep:(SR.fix d w r).holds ((t,u)::fixT d w l)=r.holds ((t,u)::l):=(by rw[SR.XE,SR.XE,ih,fix_isB hd]);have drop:t=d->u=w->(SR.fix d w r).holds (fixT d w l)=r.holds ((t,u)::l):=λe1 e2=>(by subst e1;subst e2;rw[ih,SR.XE];have:r.isB t u=true:=(by unfold SR.isB;rw[hd];cases u<;>rfl);simp[this]);simp only[fixT];split
  ·rename_i ht;have ht:t=d:=Nat.eq_of_beq_eq_true ht;cases u<;>cases w
   ·exact drop ht rfl
   ·exact keep
   ·exact keep
   ·exact drop ht rfl
  ·exact keep
theorem fix_den{d:Nat}{w:Bool}{r:SR}{tg0:Tg}(hd:r.get d=some (tg0,.c (.bo w)))(ht0:r.holds tg0=true)(t:Nat)(u:AV)(h:(SR.fix d w r).den.get t=some u):r.den.get t=some u:=by
 obtain⟨tg,v,hg,rfl⟩:=Zm h;rw[qe]at hg;by_cases e:t=d
 ·subst e;rw[hd]at hg;simp at hg;obtain⟨rfl,rfl⟩:=hg;rw[SR.den_get' hd ht0];rfl
 ·cases hr:r.get t with
  |none=>rw[hr]at hg;cases hg
  |some x=>obtain⟨tg',v'⟩:=x;rw[hr]at hg;simp[e]at hg;obtain⟨rfl,rfl⟩:=hg;rw[SR.QS hr,KE,KE,fix_holds hd]
theorem holds_one{r:SR}{d:Nat}{b w:Bool}(hd:r.get d=some ([],.c (.bo b)))(h:r.holds [(d,w)]=true):b=w:=by unfold SR.holds SR.isB at h;rw[hd]at h;cases w<;>simpa using h
theorem holds_one'{r:SR}{d:Nat}{b w:Bool}(hd:r.get d=some ([],.c (.bo b)))(h:r.holds [(d,w)]=false):b=!w:=by unfold SR.holds SR.isB at h;rw[hd]at h;cases w<;>simpa using h
theorem nrm_weak(op:Op)(J:SH):WH (SH.den J) (SH.den (nrm op J)):=by cases op<;>first|exact Xh _|exact WH.rfl'
theorem stepU_ok{E:Env}(hE:Xk P E){β:Type}{r:SR}{J:SH}{o:Oper}{k:List Nat}{K:SR->SH->Option β}{b:β}(h:stepU E o.dst o.op k r J K=some b)(hdst:ZL N o.dst=true)
  {M:Map} {w:World} {a:Act} (hh:HR M (SH.den J) w) (hr:J3 N M w r.den a) {next:Act->World->Prop} {Q:Exit->Act->World->Prop}
  (hn:∀(r':SR) (S':SH),K r' S'=some b->∀ρ τ I' w' a',Qc N n0 ρ τ r'.den (SH.den S')->HR I' τ w'->J3 N I' w' ρ a'->Step M (SH.den J) w I' τ w'->a'.defers=a.defers->next a' w'):o.wpIn (wr ro) 0 P a w next Q:=by
 unfold stepU at h;split at h
 ·rename_i f args hcall;obtain⟨as',ts,hop,rfl⟩:=Xb hcall;split at h
  ·rename_i gg as hcal;obtain⟨v,S',h1,h2⟩:=callS_ok hE h;split at h1
   ·rename_i r' hput;have hce:=Jv (L:=[]) J6.rfl' rfl hcal;refine Yk hh hr hdst (K:=λres τ=>∃u,res=some u/\WV u v.den/\WH τ (SH.den S')) ?_ λres τ I' w' a' hK hh' hr' hs' hd'=> ?_
    ·unfold Xu;rw[hop];simp only;unfold Yt at hce;split at hce
     ·rename_i fv as0 e1 e2;split at hce
      ·rename_i g' caps e3;injection hce with hce;injection hce with e4 e5;subst e4;try rw[e1,e2]
       try simp only[e3]
       rw[e5];exact h2.mono λu τ hu=>⟨u,rfl,hu⟩
      ·cases hce
     ·cases hce
    ·obtain⟨u,rfl,hu1,hu2⟩:=hK;refine hn _ _ h1 _ _ _ _ _ ?_ hh' hr' hs' hd';exact(QI (((WU (ρ:=r.den) (d:=o.dst) (a:=some u) (b:=some v.den) hu1).JJ (JP (v:=some v) J6.rfl' rfl hput)).JJ (Xa _ _)) hu2).tr (QI WR.rfl' (Xh _))
   ·cases h1
  ·cases h
 ·rename_i hcall;split at h
  ·rename_i p v S' hop;split at h
   ·rename_i r' hput
    cases p with
    |false=>cases h
    |true=>have hst:=jK hE.ty (L:=[]) J6.rfl' rfl hcall hop;refine Yk hh hr hdst hst λres τ I' w' a' hK hh' hr' hs' hd'=> ?_;refine hn _ _ h _ _ _ _ _ ?_ hh' hr' hs' hd';refine(hK.ghost r.den o.dst n0).tr (QI ?_ (nrm_weak _ _));exact((JP J6.rfl' rfl hput).wr).JJ (Xa _ _)
   ·cases h
  ·cases h
theorem opsS_ok{E:Env}(hE:Xk P E){yk:Option YI}(hyk:Qp P n0 E yk){β:Type}{ops:Array Oper}{I0:Map}{S0:Q4}{w0:World}{ds:DS}(h0:HR I0 S0 w0)(hn0:S0.length<=n0)(hY:∀y,yk=some y->ExOk y I0.ex w0/\∀p∈ds.S,p.1≠I0.ex.l){K:SR->SH->Option β}{b:β}:
  ∀(os:List Oper) (cs:List COp) (ks:List (List Nat)),QO ops os ks=some cs->∀(k:Nat),os=ops.toList.drop k->∀{r:SR} {J:SH},K6 E N cs r J K=some b->
   ∀{M:Map} {w:World} {a:Act} {ms:List Deferred},HR M (SH.den J) w->J3 N M w r.den a->Step I0 S0 w0 M (SH.den J) w->a.defers=ms++ds.l->XG ds w0.heap.size w ms->
   wpOpsIn (wr ro) 0 P ops (Uf N (λe ρ τ=>e=.normal/\∃r' S',WR ρ r'.den/\WH τ (SH.den S')/\K r' S'=some b) I0 S0 w0 ds) (List.range' k (ops.size - k)) a w
 |[],cs,ks,hst,k,hk,r,J,h,M,w,a,ms,hh,hr,hs,hd,hm=>by simp only[QO,Option.some.injEq]at hst;subst hst;have hlen:ops.toList.length<=k:=List.drop_eq_nil_iff.1 hk.symm;have:ops.size - k=0:=(by simp at hlen;omega);rw[this];simp only[K6]at h;exact⟨trivial,r.den,SH.den J,M,ms,⟨rfl,r,SH.norm J,WR.rfl',Xh J,h⟩,hh,hr,hs,hd,hm⟩
 |o::os,cs,ks,hst,k,hk,r,J,h,M,w,a,ms,hh,hr,hs,hd,hm=>by
  simp only[QO]at hst;split at hst
  ·rename_i g cs' hg hcs;injection hst with hst;subst hst;have hlt:k<ops.size:=(by have:(ops.toList.drop k).length=os.length+1:=(by rw[<-hk];rfl);simp at this;omega);have hok:ops[k]? =some o:=(by have:(ops.toList.drop k)[0]? =some o:=(by rw[<-hk];rfl);simpa using this);have hos:os=ops.toList.drop (k+1):=(by have:(ops.toList.drop k).tail=os:=(by rw[<-hk];rfl);rw[<-this];simp);have hr':List.range' k (ops.size - k)=k::List.range' (k+1) (ops.size - (k+1)):=(by have:ops.size - k=(ops.size - (k+1))+1:=(by omega);rw[this,List.range'_succ]);rw[hr'];simp only[wpOpsIn,hok]
   -- behind an operation:another description,then the rest
   have rest:∀{r':SR} {S':SH},K6 E N cs' r' S' K=some b->∀(ρ:Q3) (τ:Q4) {I':Map} {w':World} {a':Act} {ms':List Deferred},Qc N n0 ρ τ r'.den (SH.den S')->HR I' τ w'->J3 N I' w' ρ a'->Step I0 S0 w0 I' τ w'->a'.defers=ms'++ds.l->XG ds w0.heap.size w' ms'->
     wpOpsIn (wr ro) 0 P ops (Uf N (λe ρ τ=>e=.normal/\∃r' S',WR ρ r'.den/\WH τ (SH.den S')/\K r' S'=some b) I0 S0 w0 ds) (List.range' (k+1) (ops.size - (k+1))) a' w':=λh ρ τ _ _ _ _ hgh hh hr hs hd hm=>by
    obtain⟨I2,h1,h2,h3⟩:=hgh _ _ _ hh hr;exact opsS_ok hE hyk h0 hn0 hY os cs' _ hcs (k+1) hos h h1 h2 (h3 I0 S0 w0 h0 hn0 hs) hd hm
   simp only[K6]at h;split at h
   ·cases h
   ·rename_i hdst;split at h
    ·
     rename_i ps u as hyl;split at h
     ·rename_i R hready hbody;have hgd:X0 ops r.den o.guard=some true:=(by rw[<-YN (all:=ops) (r:=r.den) (o:=o) hg];rfl);have hw:=W4 hr hgd;rw[hw];simp only[if_true];obtain⟨hyb,f,args,ts,caps,hop,hf,has⟩:=isYield_some hyl;obtain⟨y,hy1,rfl,hyn,hpn,hbo⟩:=hyk ps u hyb;obtain⟨hex,hS⟩:=hY y hy1;obtain⟨hb1,hb2,hb3⟩:=bodyS_ok hbody;obtain⟨Qb,hF,hQb⟩:=qt hbo h;refine yield_ok hyn hb2 hpn h0 hn0 hex hS hh hr hs hm hop hf has (by simpa using hb1) (isReady_ok hready) hb3 hF (λe ρ τ hq=> ?_) λe b' m r2 S2 I2 w2 hq hje hh2 hreg hs2 hm2=> ?_
      ·obtain⟨r',S',_,_,hk⟩:=hQb e ρ τ hq;rw[jumpS_eq]at hk
       cases hj:jumpE e with
       |none=>rw[hj]at hk;cases hk
       |some _=>rfl
      ·obtain⟨r',S',hw1,hw2,hk⟩:=hQb e r2 S2 hq;rw[jumpS_eq,hje]at hk;simp only at hk;split at hk
       ·rename_i r'' hput;have hdf:(a.put o.dst (.bool b')).defers=a.defers:=(by cases o.dst<;>rfl);refine rest hk ((Wx m r'++Wm r r).den.Jj o.dst (some (SV.c (.bo b')).den)) S2 ?_ hh2 ((back_scal hr hreg hw1).put (K0 hdst) (TR.bool b')) hs2 (hdf.trans hd) hm2;exact(QI (((JP (v:=some (.c (.bo b'))) J6.rfl' rfl hput).wr).JJ (Xa _ _)) hw2).tr (QI WR.rfl' (Xh _))
       ·cases hk
     ·cases h
    split at h
    ·
     have hgd:X0 ops r.den o.guard=some true:=(by rw[<-YN (all:=ops) (r:=r.den) (o:=o) hg];rfl);have hw:=W4 hr hgd;rw[hw];simp only[if_true];split at h
     ·rename_i f args hcall;obtain⟨as',ts,hop,rfl⟩:=Xb hcall;split at h
      ·rename_i gg as hcal;obtain⟨v,S',h1,h2⟩:=callS_ok hE h;split at h1
       ·rename_i r' hput;have hce:=Jv (L:=[]) J6.rfl' rfl hcal;refine Yk hh hr hdst (K:=λres τ=>∃u,res=some u/\WV u v.den/\WH τ (SH.den S')) ?_ λres τ I' w' a' hK hh' hr' hs' hd'=> ?_
        ·unfold Xu;rw[hop];simp only;unfold Yt at hce;split at hce
         ·rename_i fv as0 e1 e2;split at hce
          ·rename_i g' caps e3;injection hce with hce;injection hce with e4 e5;subst e4;try rw[e1,e2]
           try simp only[e3]
           rw[e5];exact h2.mono λu τ hu=>⟨u,rfl,hu⟩
          ·cases hce
         ·cases hce
        ·obtain⟨u,rfl,hu1,hu2⟩:=hK;refine rest h1 _ _ ?_ hh' hr' (hs.trans hs') (hd'.trans hd) (hm.step hh hs');exact(QI (((WU (ρ:=r.den) (d:=o.dst) (a:=some u) (b:=some v.den) hu1).JJ (JP (v:=some v) J6.rfl' rfl hput)).JJ (Xa _ _)) hu2).tr (QI WR.rfl' (Xh _))
       ·cases h1
      ·cases h
     ·rename_i hcall;split at h
      ·rename_i p v S' hop;split at h
       ·rename_i r' hput
        cases p with
        |false=>cases h
        |true=>have hst:=jK hE.ty (L:=[]) J6.rfl' rfl hcall hop;refine Yk hh hr hdst hst λres τ I' w' a' hK hh' hr' hs' hd'=> ?_;refine rest h _ _ ?_ hh' hr' (hs.trans hs') (hd'.trans hd) (hm.step hh hs');refine(hK.ghost r.den o.dst n0).tr (QI ?_ (nrm_weak _ _));exact((JP J6.rfl' rfl hput).wr).JJ (Xa _ _)
       ·cases h
      ·cases h
    ·
     rename_i gd wnt;split at h
     ·rename_i tg b' hget;have hgd:=guardE_holds hg hget (ρ:=r.den) J6.rfl';have hw:=W4 hr hgd;rw[hw];have skip:∀{r':SR} {v:SV},r.holds ((gd,wnt)::tg)=false->r.put o.dst ((gd,wnt)::tg) (some v)=some r'->K6 E N cs' (r'.kill (ks.headD [])) J K=some b->
        wpOpsIn (wr ro) 0 P ops (Uf N (λe ρ τ=>e=.normal/\∃r' S',WR ρ r'.den/\WH τ (SH.den S')/\K r' S'=some b) I0 S0 w0 ds) (List.range' (k+1) (ops.size - (k+1))) (a.put o.dst undef) w:=λhf hput h'=>by
       have hdf:(a.put o.dst undef).defers=a.defers:=(by cases o.dst<;>rfl);refine rest h' _ _ (QI ?_ WH.rfl') hh (hr.drop (K0 hdst)) hs (hdf.trans hd) hm;exact((jB J6.rfl' hf hput).wr).JJ (Xa _ _)
      split at h
      ·split at h
       ·
        cases hf:r.holds [(gd,wnt)] with
        |true=>rw[hf]at h;simp only[cond_true]at h;simp only[if_true];have hg2:=(SR.ZC hget).2;have hbw:=holds_one hg2 hf;subst hbw;refine stepU_ok (n0:=n0) hE h hdst hh (hr.sub (fix_den hg2 rfl)) λr' S' h' ρ τ I' w' a' hgh hh' hr' hs' hd'=> ?_;exact rest h' ρ τ hgh hh' hr' (hs.trans hs') (hd'.trans hd) (hm.step hh hs')
        |false=>
         rw[hf]at h;simp only[cond_false]at h;simp only[Bool.false_eq_true,if_false];have hg2:=(SR.ZC hget).2;have hbw:=holds_one' hg2 hf;subst hbw;split at h
         ·rename_i r' hput;have hf2:(SR.fix gd (!wnt) r).holds [(gd,wnt)]=false:=(by have:(SR.fix gd (!wnt) r).isB gd wnt=false:=(by rw[fix_isB hg2];simpa [SR.holds] using hf);simpa [SR.holds] using this);refine⟨λ_ _=>trivial,?_⟩;have hdf:(a.put o.dst undef).defers=a.defers:=(by cases o.dst<;>rfl);refine rest h _ _ (QI ?_ WH.rfl') hh ((hr.sub (fix_den hg2 rfl)).drop (K0 hdst)) hs (hdf.trans hd) hm;exact((jB J6.rfl' hf2 hput).wr).JJ (Xa _ _)
         ·cases h
       split at h
       ·rename_i r' hput
        cases hf:r.holds ((gd,wnt)::_) with
        |true=>rw[hf]at h;cases h
        |false=>rw[hf]at h;simp only[Bool.false_eq_true,if_false];exact⟨λ_ _=>trivial,skip hf hput h⟩
       ·cases h
      split at h
      ·rename_i f args hcall;obtain⟨as',ts,hop,rfl⟩:=Xb hcall;split at h
       ·rename_i gg as hcal;obtain⟨v,h1,h2⟩:=callG_ok hE h;split at h1
        ·rename_i r' hput
         cases hf:r.holds ((gd,wnt)::tg) with
         |false=>simp only[Bool.false_eq_true,if_false];exact⟨λ_ _=>trivial,skip hf hput h1⟩
         |true=>
          simp only[if_true];have hce:=Jv J6.rfl' hf hcal;refine Yk hh hr hdst (K:=λres τ=>∃u,res=some u/\WV u v.den/\WH τ (SH.den J)) ?_ λres τ I' w' a' hK hh' hr' hs' hd'=> ?_
          ·unfold Xu;rw[hop];simp only;unfold Yt at hce;split at hce
           ·rename_i fv as0 e1 e2;split at hce
            ·rename_i g' caps e3;injection hce with hce;injection hce with e4 e5;subst e4;try rw[e1,e2]
             try simp only[e3]
             rw[e5];exact(h2 hf).mono λu τ hu=>⟨u,rfl,hu⟩
            ·cases hce
           ·cases hce
          ·obtain⟨u,rfl,hu1,hu2⟩:=hK;refine rest h1 _ _ ?_ hh' hr' (hs.trans hs') (hd'.trans hd) (hm.step hh hs');exact QI (((WU (ρ:=r.den) (d:=o.dst) (a:=some u) (b:=some v.den) hu1).JJ (JP (v:=some v) J6.rfl' hf hput)).JJ (Xa _ _)) hu2
        ·cases h1
       ·cases h
      ·rename_i hcall;split at h
       ·rename_i p v S' hq hop;have HS:=U9 hq hop;subst HS;split at h
        ·rename_i r' hput
         cases hf:r.holds ((gd,wnt)::tg) with
         |false=>rw[hf]at h;simp only[Bool.not_false,Bool.or_true,cond_true]at h;simp only[Bool.false_eq_true,if_false];exact⟨λ_ _=>trivial,skip hf hput h⟩
         |true=>
          rw[hf]at h;simp only[if_true]
          cases p with
          |false=>cases h
          |true=>have hst:=jK hE.ty J6.rfl' hf hcall hop;refine Yk hh hr hdst hst λres τ I' w' a' hK hh' hr' hs' hd'=> ?_;refine rest h _ _ ?_ hh' hr' (hs.trans hs') (hd'.trans hd) (hm.step hh hs');refine(hK.ghost r.den o.dst n0).tr (QI ?_ WH.rfl');exact((JP (v:=some v) J6.rfl' hf hput).wr).JJ (Xa _ _)
        ·cases h
       ·cases h
     ·cases h
  ·cases hst
end
end Go.Abs
