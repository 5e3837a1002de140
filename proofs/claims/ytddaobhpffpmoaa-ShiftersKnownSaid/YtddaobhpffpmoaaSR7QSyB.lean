/- A part of the proof. -/
import Derived.Test.YtddaobhpffpmoaaSR7QSyA
import Derived.Test.YtddaobhpffpmoaaSR7QSyX
set_option linter.all false
namespace Go.Abs
variable [Gl]
theorem SR.QO(r:SR)(t:Nat)(v:Tg×SV):(r.set t v).get t=some v:=by
 induction r with
 |nil=>simp[SR.set,SR.get]
 |cons p r ih=>
  obtain⟨k,u⟩:=p;simp only[SR.set];split
  ·rename_i h;simp[SR.get,h]
  ·rename_i h;simp[SR.get,h,ih]
theorem UT{a b:Nat}(h:Nat.beq a b=false):a≠b:=λe=>by subst e;simp at h
theorem ne_beq{a b:Nat}(h:a≠b):Nat.beq a b=false:=by
 cases hb:Nat.beq a b with
 |false=>rfl
 |true=>exact absurd (eqB hb) h
theorem WQ{x:Nat}:∀{l:List Nat},UC x l=true↔x∈l
 |[]=>by simp[UC]
 |y::l=>by
  simp only[UC];split
  ·rename_i h;simp[eqB h]
  ·rename_i h;simp[WQ (l:=l),BU (UT h)]
theorem K9:∀{l:List Nat},UA l=true->l.Nodup
 |[],_=>List.nodup_nil
 |x::l,h=>by
  simp only[UA]at h;split at h
  ·cases h
  ·rename_i h1;exact CN.2 ⟨λhm=>(by rw[WQ.2 hm]at h1;cases h1),K9 h⟩
theorem SR.Qj(r:SR){t t':Nat}(v:Tg×SV)(h:t≠t'):(r.set t v).get t'=r.get t':=by
 induction r with
 |nil=>simp[SR.set,SR.get,ne_beq h]
 |cons p r ih=>
  obtain⟨k,u⟩:=p;simp only[SR.set];split
  ·rename_i h1;have e:=eqB h1;subst e;simp[SR.get,ne_beq h]
  ·rename_i h1;simp only[SR.get];split
   ·rfl
   ·exact ih
theorem SR.Kr(r:SR){t t':Nat}(h:t≠t'):(r.del t).get t'=r.get t':=by
 induction r with
 |nil=>rfl
 |cons p r ih=>
  obtain⟨k,u⟩:=p;simp only[SR.del];split
  ·rename_i h1;have e:=eqB h1;subst e;simp[SR.get,ne_beq h,ih]
  ·rename_i h1;simp only[SR.get];split
   ·rfl
   ·exact ih
theorem SR.YM(r:SR)(t:Nat):(r.del t).get t=none:=by
 induction r with
 |nil=>rfl
 |cons p r ih=>
  obtain⟨k,u⟩:=p;simp only[SR.del];split
  ·exact ih
  ·rename_i h1;simp[SR.get,h1,ih]
theorem SR.Yo{r:SR}{d t:Nat}{tg:Tg}{v:SV}(h:r.free d=true)(hg:r.get t=some (tg,v)):inTg d tg=false:=by
 induction r with
 |nil=>simp[SR.get]at hg
 |cons p r ih=>
  obtain⟨k,tg',u⟩:=p;simp only[SR.free]at h;split at h
  ·cases h
  ·rename_i h1;simp only[SR.get]at hg;split at hg
   ·injection hg with hg;injection hg with hg _;subst hg;exact h1
   ·exact ih h hg
theorem Jn{r r':SR}{d:Nat}(h:∀t,t≠d->r'.get t=r.get t):∀{L:Tg},inTg d L=false->r'.holds L=r.holds L
 |[],_=>rfl
 |(t,w)::l,hl=>by
  simp only[inTg]at hl;split at hl
  ·cases hl
  ·rename_i h1;rw[SR.JW,SR.JW,Jn h hl];simp only[SR.isB,h t (UT h1)]
theorem Y5{r r':SR}{tg:Tg}{v:SV}(h:r'.holds tg=r.holds tg):r'.dv tg v=r.dv tg v:=by
 cases tg with
 |nil=>rfl
 |cons x l=>simp only[SR.dv,h]
theorem Y4{r:SR}{tg:Tg}{v:SV}:r.dv tg v=if r.holds tg=true then v.den else .tup []:=by
 cases tg with
 |nil=>simp[SR.dv,SR.holds]
 |cons x l=>simp only[SR.dv];cases r.holds (x::l)<;>simp
theorem Xv{r:SR}{t:Nat}{u:AV}(h:r.den.get t=some u):∃tg v,r.get t=some (tg,v)/\u=r.dv tg v:=by
 cases hg:r.get t with
 |none=>rw[SR.den_none hg]at h;cases h
 |some p=>obtain⟨tg,v⟩:=p;rw[SR.QT hg]at h;injection h with h;exact⟨tg,v,rfl,h.symm⟩
theorem set_get{r:SR}{d:Nat}{L:Tg}{v:SV}(h1:r.free d=true)(h2:inTg d L=false){t:Nat}{u:AV}(h:(r.set d (L,v)).den.get t=some u):
  (t=d/\u=r.dv L v)\/(t≠d/\r.den.get t=some u):=by
 obtain⟨tg,v',h3,rfl⟩:=Xv h;have hc:∀t,t≠d->(r.set d (L,v)).get t=r.get t:=λt ht=>SR.Qj r _ (BU ht);by_cases e:t=d
 ·subst e;rw[SR.QO]at h3;injection h3 with h3;injection h3 with h3 h4;subst h3;subst h4;exact .inl ⟨rfl,Y5 (Jn hc h2)⟩
 ·rw[hc t e]at h3;refine .inr ⟨e,?_⟩;rw[SR.QT h3];congr 1;exact(Y5 (Jn hc (SR.Yo h1 h3))).symm
theorem del_sub{r:SR}{d:Nat}(h1:r.free d=true):Qm r.den (r.del d).den:=λt u h=>by
 obtain⟨tg,v',h3,rfl⟩:=Xv h;have hc:∀t,t≠d->(r.del d).get t=r.get t:=λt ht=>SR.Kr r (BU ht);by_cases e:t=d
 ·subst e;rw[SR.YM]at h3;cases h3
 ·rw[hc t e]at h3;rw[SR.QT h3];congr 1;exact(Y5 (Jn hc (SR.Yo h1 h3))).symm
theorem Qm.trans{a b c:Q0}(h:Qm a b)(h':Qm b c):Qm a c:=λt v hv=>h t v (h' t v hv)
theorem Qm.rfl'{a:Q0}:Qm a a:=λ_ _ h=>h
theorem Qm.wr{a b:Q0}(h:Qm a b):WR a b:=λt v hv=>⟨v,h t v hv,WV.rfl'⟩
theorem Jl:∀(ts:List Nat) (r:SR),Qm r.den (r.kill ts).den
 |[],r=>Qm.rfl'
 |t::ts,r=>by
  simp only[SR.kill];split
  ·rename_i h;exact(del_sub h).trans (Jl ts _)
  ·exact Jl ts r
theorem put_get{r r':SR}{d:Nat}{L:Tg}{v:Option SV}(h:r.put (some d) L v=some r'){t:Nat}{u:AV}(hg:r'.den.get t=some u):
  (t=d/\u=(match v with|some v=>r.dv L v|none=>.tup []))\/(t≠d/\r.den.get t=some u):=by
 simp only[SR.put]at h;split at h
 ·rename_i h1 h2;split at h
  ·injection h with h;subst h;exact set_get h1 h2 hg
  ·injection h with h;subst h;exact set_get h1 rfl hg
 ·cases h
theorem Qy{r r':SR}{d:Option Nat}{L:Tg}{v:Option SV}{ρ:Q0}(Hr:Qm ρ r.den)(hL:r.holds L=true)(h:r.put d L v=some r'):Qm (ρ.JC d (v.map SV.den)) r'.den:=λt u hu=>by
 cases d with
 |none=>simp only[SR.put,A0]at h;subst h;cases v<;>exact Hr t u hu
 |some d=>
  rcases put_get h hu with ⟨rfl,rfl⟩|⟨h1,h2⟩
  ·cases v with
   |none=>simp[Q0.JC,Q0.drop,Q0.QO]
   |some v=>simp[Q0.JC,Q0.put,Q0.QO,Y4,hL]
  ·have:=Hr t u h2;cases v<;>simp[Q0.JC,Q0.drop,Q0.put,Q0.Qj _ _ (BU h1),this]
theorem VP{r r':SR}{d:Option Nat}{L:Tg}{v:SV}{ρ:Q0}(Hr:Qm ρ r.den)(hL:r.holds L=false)(h:r.put d L (some v)=some r'):Qm (ρ.drop d) r'.den:=λt u hu=>by
 cases d with
 |none=>simp only[SR.put,A0]at h;subst h;exact Hr t u hu
 |some d=>
  rcases put_get h hu with ⟨rfl,rfl⟩|⟨h1,h2⟩
  ·simp[Q0.drop,Q0.QO,Y4,hL]
  ·simp[Q0.drop,Q0.Qj _ _ (BU h1),Hr t u h2]
theorem WR.J4{a b c:Q0}(h:WR a b)(h':Qm b c):WR a c:=λt v hv=>h t v (h' t v hv)
theorem K4{ρ:Q0}{d:Option Nat}{a b:Option AV}(h:WVO a b):WR (ρ.JC d a) (ρ.JC d b):=λt v hv=>by
 cases d with
 |none=>cases a<;>cases b<;>first|exact⟨v,hv,WV.rfl'⟩|exact h.elim
 |some d=>
  cases a<;>cases b<;>first|exact h.elim|exact⟨v,hv,WV.rfl'⟩|skip
  rename_i a b;simp only[Q0.JC,Q0.put]at hv⊢;by_cases e:d=t
  ·subst e;rw[Q0.QO]at hv⊢;injection hv with hv;subst hv;exact⟨a,rfl,h⟩
  ·rw[Q0.Qj _ _ e]at hv⊢;exact⟨v,hv,WV.rfl'⟩
theorem zB_ok:∀{c:Ly} {z:List T},zB c z=true->WL (z.map .t) ((c.trees c.XJ).map .t)
 |.int k,z,h=>by
  simp only[zB]at h;split at h
  ·rw[X7 h];exact WL.rfl'
  ·cases h
 |.bool,z,h=>by
  simp only[zB]at h;split at h
  ·exact WL.rfl'
  ·cases h
 |.str,z,h=>by
  simp only[zB]at h;split at h
  ·exact WL.rfl'
  ·cases h
 |.sl c,z,h=>by
  simp only[zB]at h;split at h
  ·exact⟨.t (.cap _ _ _),trivial⟩
  ·cases h
 |.pair a b,z,h=>by
  simp only[zB]at h;split at h
  ·rename_i h1;have h2:=zB_ok h1;have h3:=zB_ok h;have e:z.map Cell.t=(z.take a.size).map Cell.t++(z.drop a.size).map Cell.t:=(by rw[<-AZ,CP]);rw[e];simp only[Ly.trees,Ly.XJ,AZ];exact h2.append h3
  ·cases h
theorem norm_ok(o:SO):WO o.den o.norm.den:=by
 cases o with
 |st cs es ep=>exact WO.rfl'
 |arr c xs ep=>exact WO.rfl'
 |opn c xs cs ys ep=>exact WO.rfl'
 |zer z c n=>
  simp only[SO.norm];split
  ·rename_i h;refine⟨?_,rfl,rfl⟩;show WL ((Zr n z).map .t) (((List.replicate n c.XJ).flatMap c.trees).map .t);have:=zB_ok h
   induction n with
   |zero=>exact trivial
   |succ n ih=>simp only[Zr,List.replicate_succ,B5,AZ];exact this.append ih
  ·exact WO.rfl'
theorem Jw(O:SH):WH (SH.den O) (SH.den (SH.norm O)):=by
 unfold SH.norm;split
 ·rename_i hz;clear hz;show WH (List.map SO.den O) (List.map SO.den (List.map SO.norm O))
  induction O with
  |nil=>exact trivial
  |cons o O ih=>exact⟨norm_ok o,ih⟩
 ·exact WH.rfl'
section
variable {P:Program}{N:Nat}{ro:Option Nat}{n0:Nat}
theorem Qe.tr{n:Nat}{r r' r'':Q0}{O A' S'':Q1}(h:Qe N n r O r' A')(h':Qe N n r' A' r'' S''):Qe N n r O r'' S'':=fun ι w a hh hr=>by obtain⟨I',h1,h2,h3⟩:=h ι w a hh hr;obtain⟨i'',h4,h5,h6⟩:=h' I' w a h1 h2;exact⟨i'',h4,h5,λI0 S0 w0 h0 hn hs=>h6 I0 S0 w0 h0 hn (h3 I0 S0 w0 h0 hn hs)⟩
theorem ghost_add{n:Nat}{r:Q0}{O:Q1}(o:Obj):Qe N n r O r (O++[o]):=fun ι w a hh hr=>
 ⟨ι,⟨λid s hs=>by
   obtain⟨o',h1,h2⟩:=hh.obj id s hs
   exact⟨o',by rw[AK (hh.lt hs)];exact h1,h2⟩,hh.inj,hh.resRow,hh.resNo⟩,hr,λ_ _ _ _ _ hs=>
  ⟨by have:=hs.len;simp;omega,hs.size,hs.os,hs.out,hs.keep,hs.none,hs.new,hs.res,hs.ex,hs.resKeep,hs.frame⟩⟩
theorem Out.ghost{ex:Bool}{O τ T':Q1}{a b:Option AV}(h:Out ex O a τ b T')(ρ:Q0)(d:Option Nat)(n:Nat):Qe N n (ρ.JC d a) τ (ρ.JC d b) T':=by
 cases h with
 |Xf h1 h2 _=>exact QJ (K4 h1) h2
 |own es _=>
  cases d with
  |none=>exact ghost_add _
  |some d=>
   refine Qe.tr (Y9.f (UG (t:=d) es (by simp[Q0.JC,Q0.put,Q0.QO])) n) (QJ ?_ WH.rfl');refine Qm.wr λt v hv=> ?_;simp only[Q0.JC,Q0.put]at hv⊢;by_cases e:d=t
   ·subst e;rw[Q0.QO]at hv⊢;exact hv
   ·rw[Q0.Qj _ _ e]at hv⊢;rw[Q0.Qj _ _ e];exact hv
theorem Yk{op:Op}(h:X1 op=none):∀f args ts,op≠.call { callee:=.value f,args:=args,argTypes:=ts }:=λf args ts e=>by subst e;cases h
theorem Jm{op:Op}{f:Operand}{args:List Operand}(h:X1 op=some (f,args)):∃as ts,op=.call { callee:=.value f,args:=as,argTypes:=ts }/\args=as.toList:=by
 unfold X1 at h;split at h
 ·injection h with h;injection h with h1 h2;subst h1;subst h2;exact⟨_,_,rfl,rfl⟩
 ·cases h
theorem VX{ty:TyT}(hty:Z1 P ty){r:SR}{L:Tg}{ρ:Q0}(Hr:Qm ρ r.den)(hL:r.holds L=true){O:SH}{o:Oper}(hc:X1 o.op=none){res:Option SV}{A':SH}
  (h:opS false ty r L O o.op=some (true,res,A')):XD P ρ (SH.den O) o λres0 τ=>Out false (SH.den O) res0 τ (res.map SV.den) (SH.den A'):=by
 by_cases hb:∀b xT x y yT,o.op=.binOp b xT x y yT->JM y=false
 ·obtain⟨res0,τ,h1,h2⟩:=opS_ok hty Hr hL hb h;exact JT (Yk hc) (Jk hb ρ) h1 h2
 ·simp only[Classical.not_forall]at hb;obtain⟨b,xT,x,y,yT,hop,hy⟩:=hb;have hy:JM y=true:=(by simpa using hy);rw[hop]at h;simp only[opS,hy]at h;split at h
  ·rename_i i c hi;have hti:=hty.ok _ _ _ hi;split at h
   ·rename_i e hk;split at h
    ·rename_i ne n hne hn;rw[Option.bind_eq_some_iff]at hn;obtain⟨v,hv,hlen⟩:=hn;rw[hv]at h;have key:eqN n 0=false/\(∀s,v≠.c (.sg s))/\res=some (.c (.bo ne))/\A'=O:=by
      split at h
      ·cases h
      ·rename_i hns;simp only[A0,A4,CB]at h;exact⟨h.1,λs e=>hns s (by rw[e]),h.2.1.symm,h.2.2.symm⟩
     obtain⟨h1,h2,rfl,rfl⟩:=key;have hev:=QY Hr hL hv;have hsl:slLen v.den=some n:=by
      unfold lenS at hlen;split at hlen
      ·injection hlen with hlen;subst hlen;rfl
      ·injection hlen with hlen;subst hlen;rfl
      ·injection hlen with hlen;subst hlen;rfl
      ·exact absurd rfl (h2 _)
      ·cases hlen
     unfold XD;rw[hop];simp only[Xs,hy,Ai,hti,hev,hne,hk,hsl];refine⟨Out.same,λe=> ?_⟩;simp[eqN,e]at h1
    ·cases h
   ·rename_i hns;split at h
    ·rename_i u v hu hv;rw[A2]at h;obtain⟨t,h1,h2⟩:=h;obtain⟨b',t⟩:=t;simp only[A4]at h2;obtain⟨rfl,rfl,rfl⟩:=h2;have hb:=binS_ok hty h1;rw[A2]at hb;obtain⟨tt,h5,h6⟩:=hb;refine JT (Yk hc) ?_ (res:=some (.c (.t tt))) (A':=SH.den O) ?_ ?_
     ·rw[hop];simp only[Xs,hy,Ai,hti];split
      ·rename_i i' v' ne e1 e2 e3;injection e1 with e1;subst e1;split
       ·rename_i e n hk _;exact absurd hk (hns e)
       ·rfl
      ·rfl
     ·rw[hop];simp only[opE,QY Hr hL hu,QY Hr hL hv,h5,AD]
     ·rw[AD,SV.XW,<-h6];exact Out.same
    ·cases h
  ·cases h
theorem JY{r:SR}{L:Tg}{ρ:Q0}(Hr:Qm ρ r.den)(hL:r.holds L=true){f:Operand}{args:List Operand}{g:FuncId}{as:List SV}(h:Z8 r L f args=some (g,as)):Y7 ρ f args=some (g,as.map SV.den):=by
 unfold Z8 at h;split at h
 ·rename_i g' as' h1 h2;injection h with h;injection h with h3 h4;subst h3;subst h4;simp only[Y7,QY Hr hL h1,Zg Hr hL h2,SV.XW,SC.den_fn,ZW,Ba,List.append_nil]
 ·rename_i g' rs as' h1 h2;split at h
  ·rename_i h0 hy;injection h with h;injection h with h3 h4;subst h3;subst h4;have hy':¬g'=YID:=λe=>(by subst e;simp at hy);have:∀{rs:List Ref},allE0 rs=true->(rs.map refArg).map SV.den=rs.map λr=>AV.c (.ptr r):=λ{rs}=>by
    induction rs with
    |nil=>intro _;rfl
    |cons r rs ih=>
     intro h;simp only[allE0]at h;split at h
     ·rename_i he;obtain⟨id,ep,off⟩:=r;have he':ep=0:=eqB he;subst he';simp only[AQ,ih h];rfl
     ·cases h
   simp only[Y7,QY Hr hL h1,Zg Hr hL h2,SV.XW,SC.den_clo,ZW,hy',Af,AZ,this h0]
  ·cases h
 ·cases h
structure QR(P:Program)(g:FuncId)(c:Con):Prop where
 ok:∀as O x y,c.dec as O=some x->c.run x=some y->Qo P g (as.map SV.den) (SH.den O) λv τ=>WV v (c.val x y O).den/\WH τ (SH.den (c.heap x y O))
 rd:∀as O x y rs,c.dec as O=some x->c.rd x=some rs->c.heap x y O=O/\(c.run x=some y->ConstAt P g (as.map SV.den) (SH.den O) rs (c.val x y O).den)
structure Z4(P:Program)(E:Env):Prop where
 ty:Z1 P E.ty
 cf:∀g c,c∈E.cf g->QR P g c
theorem XH{as:List SV}{O:SH}:∀{l:List Con} {c:Con} {x:c.X},Xq as O l=some ⟨c,x⟩->c∈l/\c.dec as O=some x
 |[],c,x,h=>by cases h
 |c0::l,c,x,h=>by
  simp only[Xq]at h;split at h
  ·rename_i x0 hx;simp only[A0,Sigma.mk.injEq]at h;obtain⟨rfl,h⟩:=h;have h:=eq_of_heq h;subst h;exact⟨by simp,hx⟩
  ·obtain⟨h1,h2⟩:=XH h;exact⟨by simp[h1],h2⟩
theorem callS_ok{E:Env}(hE:Z4 P E){β:Type}{g:FuncId}{as:List SV}{O:SH}{K:SV->SH->Option β}{b:β}(h:callS E g as O K=some b):
  ∃v A',K v A'=some b/\Qo P g (as.map SV.den) (SH.den O) λu τ=>WV u v.den/\WH τ (SH.den A'):=by
 unfold callS at h;split at h
 ·rename_i c x hcx;obtain⟨hc,hx⟩:=XH hcx;unfold bindO at h;split at h
  ·rename_i y hy;exact⟨_,_,h,(hE.cf g c hc).ok as O x y hx hy⟩
  ·cases h
 ·cases h
theorem callG_ok{E:Env}(hE:Z4 P E){β:Type}{g:FuncId}{as:List SV}{O:SH}{w:Bool}{K:SV->Option β}{b:β}(h:callG E w g as O K=some b):
  ∃v,K v=some b/\(w=true->Qo P g (as.map SV.den) (SH.den O) λu τ=>WV u v.den/\WH τ (SH.den O)):=by
 unfold callG at h;split at h
 ·rename_i c x hcx;obtain⟨hc,hx⟩:=XH hcx;split at h
  ·rename_i rs hrs;unfold bindO at h;split at h
   ·rename_i y hy;refine⟨_,h,λhw=> ?_⟩;subst hw;have:=(hE.cf g c hc).ok as O x y hx hy;rw[((hE.cf g c hc).rd as O x y rs hx hrs).1]at this;exact this
   ·cases h
  ·cases h
 ·cases h
theorem builtin_quiet{ex:Bool}{ty:TyT}{O:SH}{b:Builtin}{ts:Array TypeId}{vs:List SV}{x:Bool×SV×SH}(hb:(match b with|.len|.cap|.min|.max=>true|_=>false)=true)(h:Xw ex ty O b ts vs=some x):x.2.2=O:=by
 unfold Xw at h;split at h<;>first|cases hb;done|skip
 all_goals repeat' (first|(cases h;done)|(rw[A2]at h;obtain⟨v,h1,h2⟩:=h;rw[<-h2])|(simp only[A0]at h;rw[<-h];done)|split at h)
theorem Kd{ex:Bool}{ty:TyT}{r:SR}{L:Tg}{O A':SH}{op:Op}(hq:quiet op=true){p:Bool}{res:Option SV}(h:opS ex ty r L O op=some (p,res,A')):A'=O:=by
 unfold opS at h;split at h<;>first|cases hq;done|skip
 all_goals repeat' (first|(cases h;done)|(rw[A2]at h;obtain⟨v,h1,h2⟩:=h;simp only[A4]at h2;first|exact h2.2.2.symm|skip)|(simp only[A0,A4]at h;exact h.2.2.symm)|split at h)
 rw[<-h2.2.2];exact builtin_quiet hq h1
theorem guardE_holds{ops:Array Oper}{o:Oper}{d:Nat}{w:Bool}(hg:(match o.guard with|none=>some none|some (j,want)=>match (ops[j]?).bind (·.dst) with|some d=>some (some (d,want))|none=>none)=some (some (d,w))){r:SR}{tg:Tg}{b:Bool}(hr0:r.gget d=some (tg,.c (.bo b))){ρ:Q0}(Hr:Qm ρ r.den):
  JQ ops ρ o.guard=some (r.holds ((d,w)::tg)):=by
 rw[<-ZE (all:=ops) (r:=ρ) (o:=o) hg];have hr:=(SR.XU hr0).2;have h1:=Q0.at_of (Hr _ _ (SR.QT hr)) (SR.XU hr0).1;simp only[Kq,h1,Y4,SR.JW]
 cases hh:r.holds tg with
 |false=>simp[Kp]
 |true=>simp only[Ai,SV.XW,SC.den_bo,Kp,BF,SR.isB,hr];cases w<;>cases b<;>rfl
def SaysU(F:Q0->Q1->(Exit->Q0->Q1->Prop)->Prop):QU->Prop
 |.one _ _ dec run out=>∀r O x y,dec r O=some (true,x)->run x=some y->F r.den (SH.den O) λe ρ τ=>e=(out x y).1/\WR ρ (out x y).2.1.den/\WH τ (SH.den (out x y).2.2)
 |.two _ _ _ dec run outY outZ=>∀r O x s,dec r O=some (true,x)->run x=some s->F r.den (SH.den O) λe ρ τ=>match s with
  |.inl y=>e=(outY x y).1/\WR ρ (outY x y).2.1.den/\WH τ (SH.den (outY x y).2.2)
  |.inr z=>e=(outZ x z).1/\WR ρ (outZ x z).2.1.den/\WH τ (SH.den (outZ x z).2.2)
 |.alt u v=>SaysU F u/\SaysU F v
theorem V7{F:Q0->Q1->(Exit->Q0->Q1->Prop)->Prop}{u:QU}(hu:SaysU F u){β:Type}{r:SR}{O:SH}{K:Exit->SR->SH->Option β}{b:β}(h:W6 u r O K=some b):
  ∃Q:Exit->Q0->Q1->Prop,F r.den (SH.den O) Q/\∀e ρ τ,Q e ρ τ->∃r' A',WR ρ r'.den/\WH τ (SH.den A')/\K e r' A'=some b:=by
 induction u with
 |alt u v ih1 ih2=>
  simp only[W6]at h;split at h
  ·exact ih1 hu.1 h
  ·exact ih2 hu.2 h
 |one X Y dec run out=>
  simp only[W6]at h;split at h
  ·rename_i p x hx
   cases p with
   |false=>cases h
   |true=>
    simp only[A7,bindO]at h;split at h
    ·rename_i y hy;exact⟨_,hu r O x y hx hy,λe ρ τ ⟨h1,h2,h3⟩=>⟨_,_,h2,h3,by rw[h1];exact h⟩⟩
    ·cases h
  ·cases h
 |two X Y Z dec run outY outZ=>
  simp only[W6]at h;split at h
  ·rename_i p x hx
   cases p with
   |false=>cases h
   |true=>
    simp only[A7,bindO]at h;split at h
    ·rename_i s hs;refine⟨_,hu r O x s hx hs,λe ρ τ hq=> ?_⟩
     cases s with
     |inl y=>exact⟨_,_,hq.2.1,hq.2.2,by rw[hq.1];exact h⟩
     |inr z=>exact⟨_,_,hq.2.1,hq.2.2,by rw[hq.1];exact h⟩
    ·cases h
  ·cases h
def BodyOkS(P:Program)(N n0:Nat)(A B:Code)(u:QU):Prop:=SaysU (Yy P N n0 A B) u
def Zj(P:Program)(n0:Nat)(E:Env)(yk:Option YI):Prop:=∀ps u,E.yb=some (ps,u)->∃y,yk=some y/\y.ps=ps/\y.n<=BIG/\(∀p∈ps.toList,p<y.n)/\BodyOkS P y.n n0 y.assign y.body u
theorem Zj.no{E:Env}{yk:Option YI}(h:E.yb=none):Zj P n0 E yk:=λ_ _ e=>by rw[h]at e;cases e
theorem SR.get_mem:∀{r:SR} {t:Nat} {x:Tg×SV},r.get t=some x->(t,x)∈r
 |(k,v)::r,t,x,h=>by
  simp only[SR.get]at h;split at h
  ·rename_i e;have e:=eqB e;subst e;injection h with h;subst h;simp
  ·exact List.mem_cons_of_mem _ (SR.get_mem h)
theorem J1{f:Nat->Option Nat}{r0:SR}:∀{r:SR} {t':Nat} {tg:Tg} {v:SV},(t',tg,v)∈mapB f r0 r->tg=[]/\∃t,f t=some t'/\r0.get t=some ([],v)
 |(t,x,y)::r,t',tg,v,h=>by
  simp only[mapB]at h;split at h
  ·rename_i t1 h1;split at h
   ·rename_i v1 h2;rcases Ag.1 h with h|h
    ·injection h with h3 h4;injection h4 with h4 h5;subst h3;subst h4;subst h5;exact⟨rfl,t,h1,h2⟩
    ·exact J1 h
   ·exact J1 h
  ·exact J1 h
theorem V3:∀{ps:List Nat} {as:List SV} {t:Nat} {tg:Tg} {v:SV},(t,tg,v)∈zipS ps as->tg=[]/\∃i:Nat,ps[i]? =some t/\as[i]? =some v
 |p::ps,a::as,t,tg,v,h=>by
  simp only[zipS]at h;rcases Ag.1 h with h|h
  ·injection h with h3 h4;injection h4 with h4 h5;subst h3;subst h4;subst h5;exact⟨rfl,0,rfl,rfl⟩
  ·obtain⟨h1,i,h2,h3⟩:=V3 h;exact⟨h1,i+1,by simpa using h2,by simpa using h3⟩
 |[],_,t,tg,v,h=>by simp[zipS]at h
 |_::_,[],t,tg,v,h=>by simp[zipS]at h
theorem den_mem{r:SR}(hr:∀t tg v,(t,tg,v)∈r->tg=[]){t:Nat}{u:AV}(h:r.den.get t=some u):∃v,(t,[],v)∈r/\u=v.den:=by obtain⟨tg,v,h1,rfl⟩:=Xv h;have h2:=SR.get_mem h1;have:=hr _ _ _ h2;subst this;exact⟨v,h2,rfl⟩
theorem fOwn_ok{ps:List Nat}{t t':Nat}(h:fOwn ps t=some t'):t=2000000+t'/\t'<BIG/\t'∉ps:=by
 unfold fOwn at h;split at h
 ·rename_i h1 h2;split at h
  ·cases h
  ·rename_i h3;injection h with h;have h1:=Au h1;have h2:t+1<=3000000:=Au h2;subst h;refine⟨by omega,by unfold BIG;omega,λhm=> ?_⟩;rw[WQ.2 hm]at h3;cases h3
 ·cases h
theorem fIt_ok{t t':Nat}(h:fIt t=some t'):t<BIG/\t'=1000000+t:=by
 unfold fIt at h;split at h
 ·rename_i h1;injection h with h;have h1:t+1<=1000000:=Au h1;exact⟨by unfold BIG;omega,h.symm⟩
 ·cases h
theorem Vq{t t':Nat}(h:fKeep t=some t'):t'=t/\2000000<=t/\t<3000000:=by
 unfold fKeep at h;split at h
 ·rename_i h1 h2;injection h with h;have h1:=Au h1;have h2:t+1<=3000000:=Au h2;exact⟨h.symm,h1,by omega⟩
 ·cases h
theorem fBack_ok{t t':Nat}(h:fBack t=some t'):t=1000000+t'/\t'<BIG:=by
 unfold fBack at h;split at h
 ·rename_i h1 h2;injection h with h;have h1:=Au h1;have h2:t+1<=2000000:=Au h2;exact⟨by omega,by unfold BIG;omega⟩
 ·cases h
theorem bodyS_ok{ps:Array Tmp}{as:List SV}{r R:SR}(h:bodyS ps as r=some R):as.length=ps.size/\ps.toList.Nodup/\HeadR ps.toList (as.map SV.den) r.den R.den:=by
 unfold bodyS at h;split at h
 ·rename_i h1 h2;injection h with h;refine⟨eqB h1,K9 h2,λt v hv=> ?_⟩;have hu:∀t tg v,(t,tg,v)∈R->tg=[]:=λt tg v hm=>by
   rw[<-h]at hm;simp only[Ap]at hm;rcases hm with hm|hm|hm|hm
   ·exact(V3 hm).1
   ·exact(J1 hm).1
   ·exact(J1 hm).1
   ·exact(J1 hm).1
  obtain⟨v',hm,rfl⟩:=den_mem hu hv;rw[<-h]at hm;simp only[Ap]at hm;rcases hm with hm|hm|hm|hm
  ·obtain⟨_,i,h3,h4⟩:=V3 hm;exact .inl ⟨i,h3,by simp[h4]⟩
  ·obtain⟨_,t1,h3,h4⟩:=J1 hm;obtain⟨rfl,h5,h6⟩:=fOwn_ok h3;exact .inr (.inl ⟨h5,h6,SR.QT h4⟩)
  ·obtain⟨_,t1,h3,h4⟩:=J1 hm;obtain⟨h5,rfl⟩:=fIt_ok h3;exact .inr (.inr (.inl ⟨t1,h5,rfl,SR.QT h4⟩))
  ·obtain⟨_,t1,h3,h4⟩:=J1 hm;obtain⟨rfl,h5,h6⟩:=Vq h3;exact .inr (.inr (.inr ⟨h5,h6,SR.QT h4⟩))
 ·cases h
theorem backS_ok(m:Nat)(r:SR):BackR m r.den (KW m r).den:=λt v hv=>by
 have hu:∀t tg v,(t,tg,v)∈KW m r->tg=[]:=λt tg v hm=>by
  unfold KW at hm;simp only[Ap,CK]at hm;rcases hm with hm|hm|hm
  ·exact(J1 hm).1
  ·exact(J1 hm).1
  ·injection hm with _ hm;injection hm
 obtain⟨v',hm,rfl⟩:=den_mem hu hv;unfold KW at hm;simp only[Ap,CK]at hm;rcases hm with hm|hm|hm
 ·obtain⟨_,t1,h3,h4⟩:=J1 hm;obtain⟨rfl,h5⟩:=fBack_ok h3;exact .inl ⟨h5,SR.QT h4⟩
 ·obtain⟨_,t1,h3,h4⟩:=J1 hm;obtain⟨rfl,h5,h6⟩:=Vq h3;exact .inr (.inl ⟨h5,h6,SR.QT h4⟩)
 ·injection hm with h1 hm;injection hm with _ hm;subst h1;subst hm;exact .inr (.inr ⟨rfl,rfl⟩)
theorem ZB{r0:SR}:∀{r:SR} {t:Nat} {tg:Tg} {v:SV},(t,tg,v)∈KM r0 r->tg=[]/\t<BIG/\r0.get t=some ([],v)/\((∃k n,v=.c (.it k n))\/∃b,v=.c (.bo b))
 |[],t,tg,v,h=>by cases h
 |(t0,tg0,v0)::r,t,tg,v,h=>by
  simp only[KM]at h;split at h
  ·rename_i hb;have hlt:t0<BIG:=(by simpa [BIG] using hb);split at h
   ·rename_i k n hg;rcases Ag.1 h with h|h
    ·injection h with h1 h2;injection h2 with h2 h3;subst h1;subst h2;subst h3;exact⟨rfl,hlt,hg,.inl ⟨_,_,rfl⟩⟩
    ·exact ZB h
   ·rename_i b hg;rcases Ag.1 h with h|h
    ·injection h with h1 h2;injection h2 with h2 h3;subst h1;subst h2;subst h3;exact⟨rfl,hlt,hg,.inr ⟨_,rfl⟩⟩
    ·exact ZB h
   ·exact ZB h
  ·exact ZB h
theorem back_scal{N:Nat}{ι I2:Map}{w w2:World}{r r':SR}{a:Act}{m:Nat}{R2:Q0}(hr:Qn N ι w r.den a)(hreg:∀r3 ρ,WR R2 r3->BackR m r3 ρ->Qn N I2 w2 ρ a)(hw:WR R2 r'.den):Qn N I2 w2 (KW m r'++KM r r).den a:=by
 have h0:=hreg _ _ hw (backS_ok m r');refine⟨h0.size,h0.low,λt x hx=> ?_,h0.gl⟩;have hu:∀t tg v,(t,tg,v)∈KW m r'++KM r r->tg=[]:=λt tg v hm=>by
  rcases Ap.1 hm with hm|hm
  ·unfold KW at hm;simp only[Ap,CK]at hm;rcases hm with hm|hm|hm
   ·exact(J1 hm).1
   ·exact(J1 hm).1
   ·injection hm with _ hm;injection hm
  ·exact(ZB hm).1
 obtain⟨v',hm,rfl⟩:=den_mem hu hx;rcases Ap.1 hm with hm|hm
 ·have hB:BackR m r'.den [(t,v'.den)]:=λt1 v1 hv1=>by
   simp only[Q0.get]at hv1;split at hv1
   ·rename_i e;subst e;injection hv1 with hv1;subst hv1;unfold KW at hm;simp only[Ap,CK]at hm;rcases hm with hm|hm|hm
    ·obtain⟨_,t1,h3,h4⟩:=J1 hm;obtain⟨rfl,h5⟩:=fBack_ok h3;exact .inl ⟨h5,SR.QT h4⟩
    ·obtain⟨_,t1,h3,h4⟩:=J1 hm;obtain⟨rfl,h5,h6⟩:=Vq h3;exact .inr (.inl ⟨h5,h6,SR.QT h4⟩)
    ·cases hm;exact .inr (.inr ⟨rfl,rfl⟩)
   ·cases hv1
  exact(hreg _ _ hw hB).get t _ (by simp[Q0.get])
 ·obtain⟨_,hlt,hg,hv⟩:=ZB hm;have h1:=hr.get t _ (SR.QT hg);have e:∀(ι:Map) (w:World),lk ι w a t=a.tmps.getD t undef:=fun ι w=>(by unfold lk;rw[AE (by omega)]);rw[e]at h1⊢;rcases hv with ⟨k,n,rfl⟩|⟨b,rfl⟩
  ·have h1:TR ι.un w (.int k n) (a.tmps.getD t undef):=h1;show TR I2.un w2 (.int k n) (a.tmps.getD t undef);generalize a.tmps.getD t undef=u at h1;cases h1;exact .int k n
  ·have h1:TR ι.un w (.bool b) (a.tmps.getD t undef):=h1;show TR I2.un w2 (.bool b) (a.tmps.getD t undef);generalize a.tmps.getD t undef=u at h1;cases h1;exact .bool b
theorem isReady_ok{r:SR}(h:isReady r=true):r.den.get GH=some (.c (.t (.fn 0 []))):=by
 unfold isReady at h;split at h
 ·rename_i m hm;have:=eqB h;subst this;exact SR.QT hm
 ·cases h
theorem WU{E:Env}{r:SR}{op:Op}(h:X1 op=none):WW E r op=none:=by
 unfold WW;split
 ·rfl
 ·rw[h]
theorem isYield_some{E:Env}{r:SR}{op:Op}{ps:Array Tmp}{u:QU}{as:List SV}(h:WW E r op=some (ps,u,as)):
  E.yb=some (ps,u)/\∃f args ts caps,op=.call { callee:=.value f,args:=args,argTypes:=ts }/\ev r.den f=some (.c (.clo YID caps))/\evl r.den args.toList=some (as.map SV.den):=by
 unfold WW at h;split at h
 ·cases h
 ·rename_i ps' u' hyb;split at h
  ·rename_i f args hc;obtain⟨as',ts,hop,rfl⟩:=Jm hc;split at h
   ·rename_i g rs hf;split at h
    ·rename_i hg;split at h
     ·rename_i as0 has;simp only[A0,A4]at h;obtain⟨rfl,rfl,rfl⟩:=h;have:=eqB hg;subst this;refine⟨hyb,f,as',ts,rs,hop,?_,?_⟩
      ·rw[QY (L:=[]) Qm.rfl' rfl hf];rfl
      ·exact Zg (L:=[]) Qm.rfl' rfl has
     ·cases h
    ·cases h
   ·cases h
  ·cases h
theorem jumpS_eq(e:Exit):jumpS e=jumpE e:=by cases e<;>rfl
theorem Uy(d:Nat)(w:Bool):∀(r:SR) (t:Nat),(SR.fix d w r).get t=(r.get t).map λx=>if t=d then ([],SV.c (.bo w)) else (fixT d w x.1,x.2)
 |[],t=>rfl
 |(k,tg,v)::r,t=>by
  simp only[SR.fix];split
  ·rename_i hk;have hk:k=d:=C4 hk;subst hk;simp only[SR.get];split
   ·rename_i ht;have ht:k=t:=C4 ht;subst ht;simp
   ·exact Uy k w r t
  ·rename_i hk;simp only[SR.get];split
   ·rename_i ht;have ht:k=t:=C4 ht;subst ht;have:¬k=d:=λe=>(by subst e;simp at hk);simp[this]
   ·exact Uy d w r t
theorem fix_isB{d:Nat}{w:Bool}{r:SR}{tg:Tg}(hd:r.get d=some (tg,.c (.bo w)))(t:Nat)(u:Bool):(SR.fix d w r).isB t u=r.isB t u:=by
 unfold SR.isB;rw[Uy];by_cases e:t=d
 ·subst e;rw[hd];simp
 ·cases hg:r.get t with
  |none=>rfl
  |some x=>
   obtain⟨tg',v⟩:=x;simp only[AD,e,Af]
   cases v with
   |c y=>cases y<;>rfl
   |_=>rfl
theorem fix_holds{d:Nat}{w:Bool}{r:SR}{tg0:Tg}(hd:r.get d=some (tg0,.c (.bo w))):∀(tg:Tg),(SR.fix d w r).holds (fixT d w tg)=r.holds tg
 |[]=>rfl
 |(t,u)::l=>by
  have ih:=fix_holds hd l;have keep:(SR.fix d w r).holds ((t,u)::fixT d w l)=r.holds ((t,u)::l):=(by rw[SR.JW,SR.JW,ih,fix_isB hd]);have drop:t=d->u=w->(SR.fix d w r).holds (fixT d w l)=r.holds ((t,u)::l):=λe1 e2=>(by subst e1;subst e2;rw[ih,SR.JW];have:r.isB t u=true:=(by unfold SR.isB;rw[hd];cases u<;>rfl);simp[this]);simp only[fixT];split
  ·rename_i ht;have ht:t=d:=C4 ht;cases u<;>cases w
   ·exact drop ht rfl
   ·exact keep
   ·exact keep
   ·exact drop ht rfl
  ·exact keep
theorem fix_den{d:Nat}{w:Bool}{r:SR}{tg0:Tg}(hd:r.get d=some (tg0,.c (.bo w)))(ht0:r.holds tg0=true)(t:Nat)(u:AV)(h:(SR.fix d w r).den.get t=some u):r.den.get t=some u:=by
 obtain⟨tg,v,hg,rfl⟩:=Xv h;rw[Uy]at hg;by_cases e:t=d
 ·subst e;rw[hd]at hg;simp at hg;obtain⟨rfl,rfl⟩:=hg;rw[SR.den_get' hd ht0];rfl
 ·cases hr:r.get t with
  |none=>rw[hr]at hg;cases hg
  |some x=>obtain⟨tg',v'⟩:=x;rw[hr]at hg;simp[e]at hg;obtain⟨rfl,rfl⟩:=hg;rw[SR.QT hr,Y4,Y4,fix_holds hd]
theorem holds_one{r:SR}{d:Nat}{b w:Bool}(hd:r.get d=some ([],.c (.bo b)))(h:r.holds [(d,w)]=true):b=w:=by unfold SR.holds SR.isB at h;rw[hd]at h;cases w<;>simpa using h
theorem holds_one'{r:SR}{d:Nat}{b w:Bool}(hd:r.get d=some ([],.c (.bo b)))(h:r.holds [(d,w)]=false):b=!w:=by unfold SR.holds SR.isB at h;rw[hd]at h;cases w<;>simpa using h
theorem nrm_weak(op:Op)(O:SH):WH (SH.den O) (SH.den (nrm op O)):=by cases op<;>first|exact Jw _|exact WH.rfl'
theorem stepU_ok{E:Env}(hE:Z4 P E){β:Type}{r:SR}{O:SH}{o:Oper}{k:List Nat}{K:SR->SH->Option β}{b:β}(h:stepU E o.dst o.op k r O K=some b)(hdst:Xd N o.dst=true)
  {ι:Map} {w:World} {a:Act} (hh:HR ι (SH.den O) w) (hr:Qn N ι w r.den a) {next:Act->World->Prop} {Q:Exit->Act->World->Prop}
  (hn:∀(r':SR) (A':SH),K r' A'=some b->∀ρ τ I' w' a',Qe N n0 ρ τ r'.den (SH.den A')->HR I' τ w'->Qn N I' w' ρ a'->Step ι (SH.den O) w I' τ w'->a'.defers=a.defers->next a' w'):o.wpIn (wr ro) 0 P a w next Q:=by
 unfold stepU at h;split at h
 ·rename_i f args hcall;obtain⟨as',ts,hop,rfl⟩:=Jm hcall;split at h
  ·rename_i gg as hcal;obtain⟨v,A',h1,h2⟩:=callS_ok hE h;split at h1
   ·rename_i r' hput;have hce:=JY (L:=[]) Qm.rfl' rfl hcal;refine ZY hh hr hdst (K:=λres τ=>∃u,res=some u/\WV u v.den/\WH τ (SH.den A')) ?_ λres τ I' w' a' hK hh' hr' hs' hd'=> ?_
    ·unfold XD;rw[hop];simp only;unfold Y7 at hce;split at hce
     ·rename_i fv as0 e1 e2;split at hce
      ·rename_i g' caps e3;injection hce with hce;injection hce with e4 e5;subst e4;try rw[e1,e2]
       try simp only[e3]
       rw[e5];exact h2.mono λu τ hu=>⟨u,rfl,hu⟩
      ·cases hce
     ·cases hce
    ·obtain⟨u,rfl,hu1,hu2⟩:=hK;refine hn _ _ h1 _ _ _ _ _ ?_ hh' hr' hs' hd';exact(QJ (((K4 (ρ:=r.den) (d:=o.dst) (a:=some u) (b:=some v.den) hu1).J4 (Qy (v:=some v) Qm.rfl' rfl hput)).J4 (Jl _ _)) hu2).tr (QJ WR.rfl' (Jw _))
   ·cases h1
  ·cases h
 ·rename_i hcall;split at h
  ·rename_i p v A' hop;split at h
   ·rename_i r' hput
    cases p with
    |false=>cases h
    |true=>have hst:=VX hE.ty (L:=[]) Qm.rfl' rfl hcall hop;refine ZY hh hr hdst hst λres τ I' w' a' hK hh' hr' hs' hd'=> ?_;refine hn _ _ h _ _ _ _ _ ?_ hh' hr' hs' hd';refine(hK.ghost r.den o.dst n0).tr (QJ ?_ (nrm_weak _ _));exact((Qy Qm.rfl' rfl hput).wr).J4 (Jl _ _)
   ·cases h
  ·cases h
theorem opsS_ok{E:Env}(hE:Z4 P E){yk:Option YI}(hyk:Zj P n0 E yk){β:Type}{ops:Array Oper}{I0:Map}{S0:Q1}{w0:World}{ds:DS}(h0:HR I0 S0 w0)(hn0:S0.length<=n0)(hY:∀y,yk=some y->ExOk y I0.ex w0/\∀p∈ds.S,p.1≠I0.ex.l){K:SR->SH->Option β}{b:β}:
  ∀(os:List Oper) (cs:List COp) (ks:List (List Nat)),QK ops os ks=some cs->∀(k:Nat),os=ops.toList.drop k->∀{r:SR} {O:SH},Zt E N cs r O K=some b->
   ∀{ι:Map} {w:World} {a:Act} {ms:List Deferred},HR ι (SH.den O) w->Qn N ι w r.den a->Step I0 S0 w0 ι (SH.den O) w->a.defers=ms++ds.l->Js ds w0.heap.size w ms->
   wpOpsIn (wr ro) 0 P ops (VS N (λe ρ τ=>e=.normal/\∃r' A',WR ρ r'.den/\WH τ (SH.den A')/\K r' A'=some b) I0 S0 w0 ds) (List.range' k (ops.size - k)) a w
 |[],cs,ks,hst,k,hk,r,O,h,ι,w,a,ms,hh,hr,hs,hd,hm=>by simp only[QK,A0]at hst;subst hst;have hlen:ops.toList.length<=k:=C9.1 hk.symm;have:ops.size - k=0:=(by simp at hlen;omega);rw[this];simp only[Zt]at h;exact⟨trivial,r.den,SH.den O,ι,ms,⟨rfl,r,SH.norm O,WR.rfl',Jw O,h⟩,hh,hr,hs,hd,hm⟩
 |o::os,cs,ks,hst,k,hk,r,O,h,ι,w,a,ms,hh,hr,hs,hd,hm=>by
  simp only[QK]at hst;split at hst
  ·rename_i g cs' hg hcs;injection hst with hst;subst hst;have hlt:k<ops.size:=(by have:(ops.toList.drop k).length=os.length+1:=(by rw[<-hk];rfl);simp at this;omega);have hok:ops[k]? =some o:=(by have:(ops.toList.drop k)[0]? =some o:=(by rw[<-hk];rfl);simpa using this);have hos:os=ops.toList.drop (k+1):=(by have:(ops.toList.drop k).tail=os:=(by rw[<-hk];rfl);rw[<-this];simp);have hr':List.range' k (ops.size - k)=k::List.range' (k+1) (ops.size - (k+1)):=(by have:ops.size - k=(ops.size - (k+1))+1:=(by omega);rw[this,List.range'_succ]);rw[hr'];simp only[wpOpsIn,hok]
   -- behind an operation:another description,then the rest
   have rest:∀{r':SR} {A':SH},Zt E N cs' r' A' K=some b->∀(ρ:Q0) (τ:Q1) {I':Map} {w':World} {a':Act} {ms':List Deferred},Qe N n0 ρ τ r'.den (SH.den A')->HR I' τ w'->Qn N I' w' ρ a'->Step I0 S0 w0 I' τ w'->a'.defers=ms'++ds.l->Js ds w0.heap.size w' ms'->
     wpOpsIn (wr ro) 0 P ops (VS N (λe ρ τ=>e=.normal/\∃r' A',WR ρ r'.den/\WH τ (SH.den A')/\K r' A'=some b) I0 S0 w0 ds) (List.range' (k+1) (ops.size - (k+1))) a' w':=λh ρ τ _ _ _ _ hgh hh hr hs hd hm=>by
    obtain⟨I2,h1,h2,h3⟩:=hgh _ _ _ hh hr;exact opsS_ok hE hyk h0 hn0 hY os cs' _ hcs (k+1) hos h h1 h2 (h3 I0 S0 w0 h0 hn0 hs) hd hm
   simp only[Zt]at h;split at h
   ·cases h
   ·rename_i hdst;split at h
    ·
     rename_i ps u as hyl;split at h
     ·rename_i R hready hbody;have hgd:JQ ops r.den o.guard=some true:=(by rw[<-ZE (all:=ops) (r:=r.den) (o:=o) hg];rfl);have hw:=Ym hr hgd;rw[hw];simp only[Ai];obtain⟨hyb,f,args,ts,caps,hop,hf,has⟩:=isYield_some hyl;obtain⟨y,hy1,rfl,hyn,hpn,hbo⟩:=hyk ps u hyb;obtain⟨hex,hS⟩:=hY y hy1;obtain⟨hb1,hb2,hb3⟩:=bodyS_ok hbody;obtain⟨Qb,hF,hQb⟩:=V7 hbo h;refine yield_ok hyn hb2 hpn h0 hn0 hex hS hh hr hs hm hop hf has (by simpa using hb1) (isReady_ok hready) hb3 hF (λe ρ τ hq=> ?_) λe b' m r2 S2 I2 w2 hq hje hh2 hreg hs2 hm2=> ?_
      ·obtain⟨r',A',_,_,hk⟩:=hQb e ρ τ hq;rw[jumpS_eq]at hk
       cases hj:jumpE e with
       |none=>rw[hj]at hk;cases hk
       |some _=>rfl
      ·obtain⟨r',A',hw1,hw2,hk⟩:=hQb e r2 S2 hq;rw[jumpS_eq,hje]at hk;simp only at hk;split at hk
       ·rename_i r'' hput;have hdf:(a.put o.dst (.bool b')).defers=a.defers:=(by cases o.dst<;>rfl);refine rest hk ((KW m r'++KM r r).den.JC o.dst (some (SV.c (.bo b')).den)) S2 ?_ hh2 ((back_scal hr hreg hw1).put (Zo hdst) (TR.bool b')) hs2 (hdf.trans hd) hm2;exact(QJ (((Qy (v:=some (.c (.bo b'))) Qm.rfl' rfl hput).wr).J4 (Jl _ _)) hw2).tr (QJ WR.rfl' (Jw _))
       ·cases hk
     ·cases h
    split at h
    ·
     have hgd:JQ ops r.den o.guard=some true:=(by rw[<-ZE (all:=ops) (r:=r.den) (o:=o) hg];rfl);have hw:=Ym hr hgd;rw[hw];simp only[Ai];split at h
     ·rename_i f args hcall;obtain⟨as',ts,hop,rfl⟩:=Jm hcall;split at h
      ·rename_i gg as hcal;obtain⟨v,A',h1,h2⟩:=callS_ok hE h;split at h1
       ·rename_i r' hput;have hce:=JY (L:=[]) Qm.rfl' rfl hcal;refine ZY hh hr hdst (K:=λres τ=>∃u,res=some u/\WV u v.den/\WH τ (SH.den A')) ?_ λres τ I' w' a' hK hh' hr' hs' hd'=> ?_
        ·unfold XD;rw[hop];simp only;unfold Y7 at hce;split at hce
         ·rename_i fv as0 e1 e2;split at hce
          ·rename_i g' caps e3;injection hce with hce;injection hce with e4 e5;subst e4;try rw[e1,e2]
           try simp only[e3]
           rw[e5];exact h2.mono λu τ hu=>⟨u,rfl,hu⟩
          ·cases hce
         ·cases hce
        ·obtain⟨u,rfl,hu1,hu2⟩:=hK;refine rest h1 _ _ ?_ hh' hr' (hs.trans hs') (hd'.trans hd) (hm.step hh hs');exact(QJ (((K4 (ρ:=r.den) (d:=o.dst) (a:=some u) (b:=some v.den) hu1).J4 (Qy (v:=some v) Qm.rfl' rfl hput)).J4 (Jl _ _)) hu2).tr (QJ WR.rfl' (Jw _))
       ·cases h1
      ·cases h
     ·rename_i hcall;split at h
      ·rename_i p v A' hop;split at h
       ·rename_i r' hput
        cases p with
        |false=>cases h
        |true=>have hst:=VX hE.ty (L:=[]) Qm.rfl' rfl hcall hop;refine ZY hh hr hdst hst λres τ I' w' a' hK hh' hr' hs' hd'=> ?_;refine rest h _ _ ?_ hh' hr' (hs.trans hs') (hd'.trans hd) (hm.step hh hs');refine(hK.ghost r.den o.dst n0).tr (QJ ?_ (nrm_weak _ _));exact((Qy Qm.rfl' rfl hput).wr).J4 (Jl _ _)
       ·cases h
      ·cases h
    ·
     rename_i gd wnt;split at h
     ·rename_i tg b' hget;have hgd:=guardE_holds hg hget (ρ:=r.den) Qm.rfl';have hw:=Ym hr hgd;rw[hw];have skip:∀{r':SR} {v:SV},r.holds ((gd,wnt)::tg)=false->r.put o.dst ((gd,wnt)::tg) (some v)=some r'->Zt E N cs' (r'.kill (ks.headD [])) O K=some b->
        wpOpsIn (wr ro) 0 P ops (VS N (λe ρ τ=>e=.normal/\∃r' A',WR ρ r'.den/\WH τ (SH.den A')/\K r' A'=some b) I0 S0 w0 ds) (List.range' (k+1) (ops.size - (k+1))) (a.put o.dst undef) w:=λhf hput h'=>by
       have hdf:(a.put o.dst undef).defers=a.defers:=(by cases o.dst<;>rfl);refine rest h' _ _ (QJ ?_ WH.rfl') hh (hr.drop (Zo hdst)) hs (hdf.trans hd) hm;exact((VP Qm.rfl' hf hput).wr).J4 (Jl _ _)
      split at h
      ·split at h
       ·
        cases hf:r.holds [(gd,wnt)] with
        |true=>rw[hf]at h;simp only[A7]at h;simp only[Ai];have hg2:=(SR.XU hget).2;have hbw:=holds_one hg2 hf;subst hbw;refine stepU_ok (n0:=n0) hE h hdst hh (hr.sub (fix_den hg2 rfl)) λr' A' h' ρ τ I' w' a' hgh hh' hr' hs' hd'=> ?_;exact rest h' ρ τ hgh hh' hr' (hs.trans hs') (hd'.trans hd) (hm.step hh hs')
        |false=>
         rw[hf]at h;simp only[AA]at h;simp only[AP,Af];have hg2:=(SR.XU hget).2;have hbw:=holds_one' hg2 hf;subst hbw;split at h
         ·rename_i r' hput;have hf2:(SR.fix gd (!wnt) r).holds [(gd,wnt)]=false:=(by have:(SR.fix gd (!wnt) r).isB gd wnt=false:=(by rw[fix_isB hg2];simpa [SR.holds] using hf);simpa [SR.holds] using this);refine⟨λ_ _=>trivial,?_⟩;have hdf:(a.put o.dst undef).defers=a.defers:=(by cases o.dst<;>rfl);refine rest h _ _ (QJ ?_ WH.rfl') hh ((hr.sub (fix_den hg2 rfl)).drop (Zo hdst)) hs (hdf.trans hd) hm;exact((VP Qm.rfl' hf2 hput).wr).J4 (Jl _ _)
         ·cases h
       split at h
       ·rename_i r' hput
        cases hf:r.holds ((gd,wnt)::_) with
        |true=>rw[hf]at h;cases h
        |false=>rw[hf]at h;simp only[AP,Af];exact⟨λ_ _=>trivial,skip hf hput h⟩
       ·cases h
      split at h
      ·rename_i f args hcall;obtain⟨as',ts,hop,rfl⟩:=Jm hcall;split at h
       ·rename_i gg as hcal;obtain⟨v,h1,h2⟩:=callG_ok hE h;split at h1
        ·rename_i r' hput
         cases hf:r.holds ((gd,wnt)::tg) with
         |false=>simp only[AP,Af];exact⟨λ_ _=>trivial,skip hf hput h1⟩
         |true=>
          simp only[Ai];have hce:=JY Qm.rfl' hf hcal;refine ZY hh hr hdst (K:=λres τ=>∃u,res=some u/\WV u v.den/\WH τ (SH.den O)) ?_ λres τ I' w' a' hK hh' hr' hs' hd'=> ?_
          ·unfold XD;rw[hop];simp only;unfold Y7 at hce;split at hce
           ·rename_i fv as0 e1 e2;split at hce
            ·rename_i g' caps e3;injection hce with hce;injection hce with e4 e5;subst e4;try rw[e1,e2]
             try simp only[e3]
             rw[e5];exact(h2 hf).mono λu τ hu=>⟨u,rfl,hu⟩
            ·cases hce
           ·cases hce
          ·obtain⟨u,rfl,hu1,hu2⟩:=hK;refine rest h1 _ _ ?_ hh' hr' (hs.trans hs') (hd'.trans hd) (hm.step hh hs');exact QJ (((K4 (ρ:=r.den) (d:=o.dst) (a:=some u) (b:=some v.den) hu1).J4 (Qy (v:=some v) Qm.rfl' hf hput)).J4 (Jl _ _)) hu2
        ·cases h1
       ·cases h
      ·rename_i hcall;split at h
       ·rename_i p v A' hq hop;have Hs:=Kd hq hop;subst Hs;split at h
        ·rename_i r' hput
         cases hf:r.holds ((gd,wnt)::tg) with
         |false=>rw[hf]at h;simp only[BB,CY,A7]at h;simp only[AP,Af];exact⟨λ_ _=>trivial,skip hf hput h⟩
         |true=>
          rw[hf]at h;simp only[Ai]
          cases p with
          |false=>cases h
          |true=>have hst:=VX hE.ty Qm.rfl' hf hcall hop;refine ZY hh hr hdst hst λres τ I' w' a' hK hh' hr' hs' hd'=> ?_;refine rest h _ _ ?_ hh' hr' (hs.trans hs') (hd'.trans hd) (hm.step hh hs');refine(hK.ghost r.den o.dst n0).tr (QJ ?_ WH.rfl');exact((Qy (v:=some v) Qm.rfl' hf hput).wr).J4 (Jl _ _)
        ·cases h
       ·cases h
     ·cases h
  ·cases hst
end
end Go.Abs
