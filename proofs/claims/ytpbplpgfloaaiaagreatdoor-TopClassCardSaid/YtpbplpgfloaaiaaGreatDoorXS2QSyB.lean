/- A part of the proof. -/
import Derived.Test.YtpbplpgfloaaiaaGreatDoorXS2QSyA
import Derived.Test.YtpbplpgfloaaiaaGreatDoorXS2QSyX
set_option linter.all false
namespace Go.Abs
variable [Gl]
def SR.Qk(r:SR)(t:Nat)(v:Tg×SV):(r.set t v).get t=some v:=by
 induction r with
 |nil=>simp[SR.set,SR.get]
 |cons p r ih=>
  obtain⟨k,u⟩:=p;simp only[SR.set];split
  ·rename_i h;simp[SR.get,h]
  ·rename_i h;simp[SR.get,h,ih]
def UM{a b:Nat}(h:Nat.beq a b=false):a≠b:=λe=>by subst e;simp at h
def ne_beq{a b:Nat}(h:a≠b):Nat.beq a b=false:=by
 cases hb:Nat.beq a b with
 |false=>rfl
 |true=>exact absurd (eqB hb) h
def VU{x:Nat}:∀{l:List Nat},Ug x l=true↔x∈l
 |[]=>by simp[Ug]
 |y::l=>by
  simp only[Ug];split
  ·rename_i h;simp[eqB h]
  ·rename_i h;simp[VU (l:=l),Cf (UM h)]
def K8:∀{l:List Nat},VO l=true->l.Nodup
 |[],_=>List.nodup_nil
 |x::l,h=>by
  simp only[VO]at h;split at h
  ·cases h
  ·rename_i h1;exact List.nodup_cons.2 ⟨λhm=>(by rw[VU.2 hm]at h1;cases h1),K8 h⟩
def SR.J7(r:SR){t t':Nat}(v:Tg×SV)(h:t≠t'):(r.set t v).get t'=r.get t':=by
 induction r with
 |nil=>simp[SR.set,SR.get,ne_beq h]
 |cons p r ih=>
  obtain⟨k,u⟩:=p;simp only[SR.set];split
  ·rename_i h1;have e:=eqB h1;subst e;simp[SR.get,ne_beq h]
  ·rename_i h1;simp only[SR.get];split
   ·rfl
   ·exact ih
def SR.YW(r:SR){t t':Nat}(h:t≠t'):(r.del t).get t'=r.get t':=by
 induction r with
 |nil=>rfl
 |cons p r ih=>
  obtain⟨k,u⟩:=p;simp only[SR.del];split
  ·rename_i h1;have e:=eqB h1;subst e;simp[SR.get,ne_beq h,ih]
  ·rename_i h1;simp only[SR.get];split
   ·rfl
   ·exact ih
def SR.ZL(r:SR)(t:Nat):(r.del t).get t=none:=by
 induction r with
 |nil=>rfl
 |cons p r ih=>
  obtain⟨k,u⟩:=p;simp only[SR.del];split
  ·exact ih
  ·rename_i h1;simp[SR.get,h1,ih]
def SR.Yv{r:SR}{d t:Nat}{tg:Tg}{v:SV}(h:r.free d=true)(hg:r.get t=some (tg,v)):inTg d tg=false:=by
 induction r with
 |nil=>simp[SR.get]at hg
 |cons p r ih=>
  obtain⟨k,tg',u⟩:=p;simp only[SR.free]at h;split at h
  ·cases h
  ·rename_i h1;simp only[SR.get]at hg;split at hg
   ·injection hg with hg;injection hg with hg _;subst hg;exact h1
   ·exact ih h hg
def X7{r r':SR}{d:Nat}(h:∀t,t≠d->r'.get t=r.get t):∀{L:Tg},inTg d L=false->r'.holds L=r.holds L
 |[],_=>rfl
 |(t,w)::l,hl=>by
  simp only[inTg]at hl;split at hl
  ·cases hl
  ·rename_i h1;rw[SR.Js,SR.Js,X7 h hl];simp only[SR.isB,h t (UM h1)]
def YG{r r':SR}{tg:Tg}{v:SV}(h:r'.holds tg=r.holds tg):r'.dv tg v=r.dv tg v:=by
 cases tg with
 |nil=>rfl
 |cons x l=>simp only[SR.dv,h]
def YF{r:SR}{tg:Tg}{v:SV}:r.dv tg v=if r.holds tg=true then v.den else .tup []:=by
 cases tg with
 |nil=>simp[SR.dv,SR.holds]
 |cons x l=>simp only[SR.dv];cases r.holds (x::l)<;>simp
def Zi{r:SR}{t:Nat}{u:AV}(h:r.den.get t=some u):∃tg v,r.get t=some (tg,v)/\u=r.dv tg v:=by
 cases hg:r.get t with
 |none=>rw[SR.den_none hg]at h;cases h
 |some p=>obtain⟨tg,v⟩:=p;rw[SR.Qy hg]at h;injection h with h;exact⟨tg,v,rfl,h.symm⟩
def set_get{r:SR}{d:Nat}{L:Tg}{v:SV}(h1:r.free d=true)(h2:inTg d L=false){t:Nat}{u:AV}(h:(r.set d (L,v)).den.get t=some u):
  (t=d/\u=r.dv L v)\/(t≠d/\r.den.get t=some u):=by
 obtain⟨tg,v',h3,rfl⟩:=Zi h;have hc:∀t,t≠d->(r.set d (L,v)).get t=r.get t:=λt ht=>SR.J7 r _ (Cf ht);by_cases e:t=d
 ·subst e;rw[SR.Qk]at h3;injection h3 with h3;injection h3 with h3 h4;subst h3;subst h4;exact .inl ⟨rfl,YG (X7 hc h2)⟩
 ·rw[hc t e]at h3;refine .inr ⟨e,?_⟩;rw[SR.Qy h3];congr 1;exact(YG (X7 hc (SR.Yv h1 h3))).symm
def del_sub{r:SR}{d:Nat}(h1:r.free d=true):JE r.den (r.del d).den:=λt u h=>by
 obtain⟨tg,v',h3,rfl⟩:=Zi h;have hc:∀t,t≠d->(r.del d).get t=r.get t:=λt ht=>SR.YW r (Cf ht);by_cases e:t=d
 ·subst e;rw[SR.ZL]at h3;cases h3
 ·rw[hc t e]at h3;rw[SR.Qy h3];congr 1;exact(YG (X7 hc (SR.Yv h1 h3))).symm
def JE.trans{a b c:QB}(h:JE a b)(h':JE b c):JE a c:=λt v hv=>h t v (h' t v hv)
def JE.rfl'{a:QB}:JE a a:=λ_ _ h=>h
def JE.wr{a b:QB}(h:JE a b):WR a b:=λt v hv=>⟨v,h t v hv,WV.rfl'⟩
def XI:∀(ts:List Nat) (r:SR),JE r.den (r.kill ts).den
 |[],r=>JE.rfl'
 |t::ts,r=>by
  simp only[SR.kill];split
  ·rename_i h;exact(del_sub h).trans (XI ts _)
  ·exact XI ts r
def put_get{r r':SR}{d:Nat}{L:Tg}{v:Option SV}(h:r.put (some d) L v=some r'){t:Nat}{u:AV}(hg:r'.den.get t=some u):
  (t=d/\u=(match v with|some v=>r.dv L v|none=>.tup []))\/(t≠d/\r.den.get t=some u):=by
 simp only[SR.put]at h;split at h
 ·rename_i h1 h2;split at h
  ·injection h with h;subst h;exact set_get h1 h2 hg
  ·injection h with h;subst h;exact set_get h1 rfl hg
 ·cases h
def JR{r r':SR}{d:Option Nat}{L:Tg}{v:Option SV}{ρ:QB}(Hr:JE ρ r.den)(hL:r.holds L=true)(h:r.put d L v=some r'):JE (ρ.JM d (v.map SV.den)) r'.den:=λt u hu=>by
 cases d with
 |none=>simp only[SR.put,Kn]at h;subst h;cases v<;>exact Hr t u hu
 |some d=>
  rcases put_get h hu with ⟨rfl,rfl⟩|⟨h1,h2⟩
  ·cases v with
   |none=>simp[QB.JM,QB.drop,QB.Qk]
   |some v=>simp[QB.JM,QB.put,QB.Qk,YF,hL]
  ·have:=Hr t u h2;cases v<;>simp[QB.JM,QB.drop,QB.put,QB.J7 _ _ (Cf h1),this]
def VD{r r':SR}{d:Option Nat}{L:Tg}{v:SV}{ρ:QB}(Hr:JE ρ r.den)(hL:r.holds L=false)(h:r.put d L (some v)=some r'):JE (ρ.drop d) r'.den:=λt u hu=>by
 cases d with
 |none=>simp only[SR.put,Kn]at h;subst h;exact Hr t u hu
 |some d=>
  rcases put_get h hu with ⟨rfl,rfl⟩|⟨h1,h2⟩
  ·simp[QB.drop,QB.Qk,YF,hL]
  ·simp[QB.drop,QB.J7 _ _ (Cf h1),Hr t u h2]
def WR.Ja{a b c:QB}(h:WR a b)(h':JE b c):WR a c:=λt v hv=>h t v (h' t v hv)
def K4{ρ:QB}{d:Option Nat}{a b:Option AV}(h:WVO a b):WR (ρ.JM d a) (ρ.JM d b):=λt v hv=>by
 cases d with
 |none=>cases a<;>cases b<;>first|exact⟨v,hv,WV.rfl'⟩|exact h.elim
 |some d=>
  cases a<;>cases b<;>first|exact h.elim|exact⟨v,hv,WV.rfl'⟩|skip
  rename_i a b;simp only[QB.JM,QB.put]at hv⊢;by_cases e:d=t
  ·subst e;rw[QB.Qk]at hv⊢;injection hv with hv;subst hv;exact⟨a,rfl,h⟩
  ·rw[QB.J7 _ _ e]at hv⊢;exact⟨v,hv,WV.rfl'⟩
def zB_ok:∀{c:Ly} {z:List T},zB c z=true->WL (z.map .t) ((c.trees c.X8).map .t)
 |.int k,z,h=>by
  simp only[zB]at h;split at h
  ·rw[Jm h];exact WL.rfl'
  ·cases h
 |.bool,z,h=>by
  simp only[zB]at h;split at h
  ·exact WL.rfl'
  ·cases h
 |.str,z,h=>by
  simp only[zB]at h;split at h
  ·exact WL.rfl'
  ·cases h
 |.sl c,z,h=>by
  simp only[zB]at h;split at h
  ·exact⟨.t (.cap _ _ _),trivial⟩
  ·cases h
 |.pair a b,z,h=>by
  simp only[zB]at h;split at h
  ·rename_i h1;have h2:=zB_ok h1;have h3:=zB_ok h;have e:z.map Cell.t=(z.take a.size).map Cell.t++(z.drop a.size).map Cell.t:=(by rw[<-AS,Bq]);rw[e];simp only[Ly.trees,Ly.X8,AS];exact h2.append h3
  ·cases h
def norm_ok(o:SO):WO o.den o.norm.den:=by
 cases o with
 |st cs es ep=>exact WO.rfl'
 |arr c xs ep=>exact WO.rfl'
 |opn c xs cs ys ep=>
  simp only[SO.norm];split
  ·rename_i y h;refine⟨?_,rfl,rfl⟩;show WL ((xs.flatMap c.trees).map .t++(cs.map SC.den++(ys.flatMap c.trees).map .t)) (((xs++y::ys).flatMap c.trees).map .t);rw[CL,Ac,AS,AS];exact WL.rfl'.append ((Ly.Kw h).1.append WL.rfl')
  ·exact WO.rfl'
 |zer z c n=>
  simp only[SO.norm];split
  ·rename_i h;refine⟨?_,rfl,rfl⟩;show WL ((Y7 n z).map .t) (((List.replicate n c.X8).flatMap c.trees).map .t);have:=zB_ok h
   induction n with
   |zero=>exact trivial
   |succ n ih=>simp only[Y7,List.replicate_succ,Ac,AS];exact this.append ih
  ·exact WO.rfl'
def Xb(M:SH):WH (SH.den M) (SH.den (SH.norm M)):=by
 unfold SH.norm;split
 ·rename_i hz;clear hz;show WH (List.map SO.den M) (List.map SO.den (List.map SO.norm M))
  induction M with
  |nil=>exact trivial
  |cons o M ih=>exact⟨norm_ok o,ih⟩
 ·exact WH.rfl'
section
variable {P:Program}{N:Nat}{ro:Option Nat}{n0:Nat}
def J0.tr{n:Nat}{r r' r'':QB}{M S' S'':QA}(h:J0 N n r M r' S')(h':J0 N n r' S' r'' S''):J0 N n r M r'' S'':=λO w a hh hr=>by obtain⟨I',h1,h2,h3⟩:=h O w a hh hr;obtain⟨i'',h4,h5,h6⟩:=h' I' w a h1 h2;exact⟨i'',h4,h5,λI0 S0 w0 h0 hn hs=>h6 I0 S0 w0 h0 hn (h3 I0 S0 w0 h0 hn hs)⟩
def ghost_add{n:Nat}{r:QB}{M:QA}(o:Obj):J0 N n r M r (M++[o]):=λO w a hh hr=>
 ⟨O,⟨λid s hs=>by
   obtain⟨o',h1,h2⟩:=hh.obj id s hs
   exact⟨o',by rw[AL (hh.lt hs)];exact h1,h2⟩,hh.inj,hh.resRow,hh.resNo⟩,hr,λ_ _ _ _ _ hs=>
  ⟨by have:=hs.len;simp;omega,hs.size,hs.os,hs.out,hs.keep,hs.none,hs.new,hs.res,hs.ex,hs.resKeep,hs.frame⟩⟩
def Out.ghost{ex:Bool}{M τ A':QA}{a b:Option AV}(h:Out ex M a τ b A')(ρ:QB)(d:Option Nat)(n:Nat):J0 N n (ρ.JM d a) τ (ρ.JM d b) A':=by
 cases h with
 |ZB h1 h2 _=>exact Qi (K4 h1) h2
 |own es _=>
  cases d with
  |none=>exact ghost_add _
  |some d=>
   refine J0.tr (YK.f (UD (t:=d) es (by simp[QB.JM,QB.put,QB.Qk])) n) (Qi ?_ WH.rfl');refine JE.wr λt v hv=> ?_;simp only[QB.JM,QB.put]at hv⊢;by_cases e:d=t
   ·subst e;rw[QB.Qk]at hv⊢;exact hv
   ·rw[QB.J7 _ _ e]at hv⊢;rw[QB.J7 _ _ e];exact hv
def Ys{op:Op}(h:X6 op=none):∀f args ts,op≠.call { callee:=.value f,args:=args,argTypes:=ts }:=λf args ts e=>by subst e;cases h
def Xf{op:Op}{f:Operand}{args:List Operand}(h:X6 op=some (f,args)):∃as ts,op=.call { callee:=.value f,args:=as,argTypes:=ts }/\args=as.toList:=by
 unfold X6 at h;split at h
 ·injection h with h;injection h with h1 h2;subst h1;subst h2;exact⟨_,_,rfl,rfl⟩
 ·cases h
def VM{ty:TyT}(hty:ZF P ty){r:SR}{L:Tg}{ρ:QB}(Hr:JE ρ r.den)(hL:r.holds L=true){M:SH}{o:Oper}(hc:X6 o.op=none){res:Option SV}{S':SH}
  (h:opS false ty r L M o.op=some (true,res,S')):stepOk P ρ (SH.den M) o λres0 τ=>Out false (SH.den M) res0 τ (res.map SV.den) (SH.den S'):=by
 by_cases hb:∀b xT x y yT,o.op=.binOp b xT x y yT->JS y=false
 ·obtain⟨res0,τ,h1,h2⟩:=opS_ok hty Hr hL hb h;exact Jr (Ys hc) (Jf hb ρ) h1 h2
 ·simp only[Classical.not_forall]at hb;obtain⟨b,xT,x,y,yT,hop,hy⟩:=hb;have hy:JS y=true:=(by simpa using hy);rw[hop]at h;simp only[opS,hy]at h;split at h
  ·rename_i i c hi;have hti:=hty.ok _ _ _ hi;split at h
   ·rename_i e hk;split at h
    ·rename_i ne n hne hn;rw[Option.bind_eq_some_iff]at hn;obtain⟨v,hv,hlen⟩:=hn;rw[hv]at h;have key:eqN n 0=false/\(∀s,v≠.c (.sg s))/\res=some (.c (.bo ne))/\S'=M:=by
      split at h
      ·cases h
      ·rename_i hns;simp only[Kn,A0,C2]at h;exact⟨h.1,λs e=>hns s (by rw[e]),h.2.1.symm,h.2.2.symm⟩
     obtain⟨h1,h2,rfl,rfl⟩:=key;have hev:=Qs Hr hL hv;have hsl:slLen v.den=some n:=by
      unfold lenS at hlen;split at hlen
      ·injection hlen with hlen;subst hlen;rfl
      ·injection hlen with hlen;subst hlen;rfl
      ·injection hlen with hlen;subst hlen;rfl
      ·exact absurd rfl (h2 _)
      ·cases hlen
     unfold stepOk;rw[hop];simp only[Jg,hy,Aq,hti,hev,hne,hk,hsl];refine⟨Out.same,λe=> ?_⟩;simp[eqN,e]at h1
    ·cases h
   ·rename_i hns;split at h
    ·rename_i u v hu hv;rw[WF]at h;obtain⟨t,h1,h2⟩:=h;obtain⟨b',t⟩:=t;simp only[A0]at h2;obtain⟨rfl,rfl,rfl⟩:=h2;have hb:=binS_ok hty h1;rw[WF]at hb;obtain⟨tt,h5,h6⟩:=hb;refine Jr (Ys hc) ?_ (res:=some (.c (.t tt))) (S':=SH.den M) ?_ ?_
     ·rw[hop];simp only[Jg,hy,Aq,hti];split
      ·rename_i i' v' ne e1 e2 e3;injection e1 with e1;subst e1;split
       ·rename_i e n hk _;exact absurd hk (hns e)
       ·rfl
      ·rfl
     ·rw[hop];simp only[opE,Qs Hr hL hu,Qs Hr hL hv,h5,AI]
     ·rw[AI,SV.XL,<-h6];exact Out.same
    ·cases h
  ·cases h
def UQ{rs:List Ref}(h:allE0 rs=true):(rs.map refArg).map SV.den=rs.map λr=>AV.c (.ptr r):=by
 induction rs with
 |nil=>rfl
 |cons r rs ih=>
  simp only[allE0]at h;split at h
  ·rename_i he;obtain⟨id,ep,off⟩:=r;have he':ep=0:=eqB he;subst he';simp only[AY,ih h];rfl
  ·cases h
def Ju{r:SR}{L:Tg}{ρ:QB}(Hr:JE ρ r.den)(hL:r.holds L=true){f:Operand}{args:List Operand}{g:FuncId}{as:List SV}(h:Z4 r L f args=some (g,as)):callE ρ f args=some (g,as.map SV.den):=by
 unfold Z4 at h;split at h
 ·rename_i g' as' h1 h2;injection h with h;injection h with h3 h4;subst h3;subst h4;simp only[callE,callArgs,Qs Hr hL h1,ZM Hr hL h2,SV.XL,SC.den_fn,Zj,Bs,Bn]
 ·rename_i g' rs as' h1 h2;split at h
  ·rename_i h0 hy;have hy':¬g'=YID:=λe=>(by subst e;simp at hy);split at h
   ·rename_i hb;have hb':BND<=g':=BQ hb;have h3:=(Prod.mk.inj (BA h)).1;have h4:=(Prod.mk.inj (BA h)).2;rw[<-h3,<-h4];have e1:Zj (.c (.clo g' rs))=none:=AC (.inr hb');simp only[callE,callArgs,Qs Hr hL h1,ZM Hr hL h2,SV.XL,SC.Wm,e1,AS,UQ h0];exact AC hb'
   ·rename_i hb;have hb':¬BND<=g':=λe=>(by rw[CB e]at hb;cases hb);injection h with h;injection h with h3 h4;subst h3;subst h4;have e1:Zj (.c (.clo g' rs))=some (g',rs.map λr=>.c (.ptr r)):=AK (λe=>e.elim hy' hb');simp only[callE,callArgs,Qs Hr hL h1,ZM Hr hL h2,SV.XL,SC.Wm,e1,AS,UQ h0]
  ·cases h
 ·cases h
structure J4(P:Program)(g:FuncId)(c:Con):Prop where
 ok:∀as M x y,c.dec as M=some x->c.run x=some y->Jw P g (as.map SV.den) (SH.den M) λv τ=>WV v (c.val x y M).den/\WH τ (SH.den (c.heap x y M))
 rd:∀as M x y rs,c.dec as M=some x->c.rd x=some rs->c.heap x y M=M/\(c.run x=some y->KH P g (as.map SV.den) (SH.den M) rs (c.val x y M).den)
structure Zk(P:Program)(E:Env):Prop where
 ty:ZF P E.ty
 cf:∀g c,c∈E.cf g->J4 P g c
def XT{as:List SV}{M:SH}:∀{l:List Con} {c:Con} {x:c.X},Xi as M l=some ⟨c,x⟩->c∈l/\c.dec as M=some x
 |[],c,x,h=>by cases h
 |c0::l,c,x,h=>by
  simp only[Xi]at h;split at h
  ·rename_i x0 hx;simp only[Kn,Sigma.mk.injEq]at h;obtain⟨rfl,h⟩:=h;have h:=eq_of_heq h;subst h;exact⟨by simp,hx⟩
  ·obtain⟨h1,h2⟩:=XT h;exact⟨by simp[h1],h2⟩
def callS_ok{E:Env}(hE:Zk P E){β:Type}{g:FuncId}{as:List SV}{M:SH}{K:SV->SH->Option β}{b:β}(h:callS E g as M K=some b):
  ∃v S',K v S'=some b/\Jw P g (as.map SV.den) (SH.den M) λu τ=>WV u v.den/\WH τ (SH.den S'):=by
 unfold callS at h;split at h
 ·rename_i c x hcx;obtain⟨hc,hx⟩:=XT hcx;unfold bindO at h;split at h
  ·rename_i y hy;exact⟨_,_,h,(hE.cf g c hc).ok as M x y hx hy⟩
  ·cases h
 ·cases h
def callG_ok{E:Env}(hE:Zk P E){β:Type}{g:FuncId}{as:List SV}{M:SH}{w:Bool}{K:SV->Option β}{b:β}(h:callG E w g as M K=some b):
  ∃v,K v=some b/\(w=true->Jw P g (as.map SV.den) (SH.den M) λu τ=>WV u v.den/\WH τ (SH.den M)):=by
 unfold callG at h;split at h
 ·rename_i c x hcx;obtain⟨hc,hx⟩:=XT hcx;split at h
  ·rename_i rs hrs;unfold bindO at h;split at h
   ·rename_i y hy;refine⟨_,h,λhw=> ?_⟩;subst hw;have:=(hE.cf g c hc).ok as M x y hx hy;rw[((hE.cf g c hc).rd as M x y rs hx hrs).1]at this;exact this
   ·cases h
  ·cases h
 ·cases h
def builtin_quiet{ex:Bool}{ty:TyT}{M:SH}{b:Builtin}{ts:Array TypeId}{vs:List SV}{x:Bool×SV×SH}(hb:(match b with|.len|.cap|.min|.max=>true|_=>false)=true)(h:Z7 ex ty M b ts vs=some x):x.2.2=M:=by
 unfold Z7 at h;split at h<;>first|cases hb;done|skip
 all_goals repeat' (first|(cases h;done)|(rw[WF]at h;obtain⟨v,h1,h2⟩:=h;rw[<-h2])|(simp only[Kn]at h;rw[<-h];done)|split at h)
def Kk{ex:Bool}{ty:TyT}{r:SR}{L:Tg}{M S':SH}{op:Op}(hq:quiet op=true){p:Bool}{res:Option SV}(h:opS ex ty r L M op=some (p,res,S')):S'=M:=by
 unfold opS at h;split at h<;>first|cases hq;done|skip
 all_goals repeat' (first|(cases h;done)|(rw[WF]at h;obtain⟨v,h1,h2⟩:=h;simp only[A0]at h2;first|exact h2.2.2.symm|skip)|(simp only[Kn,A0]at h;exact h.2.2.symm)|split at h)
 rw[<-h2.2.2];exact builtin_quiet hq h1
def guardE_holds{ops:Array Oper}{o:Oper}{d:Nat}{w:Bool}(hg:(match o.guard with|none=>some none|some (j,want)=>match (ops[j]?).bind (·.dst) with|some d=>some (some (d,want))|none=>none)=some (some (d,w))){r:SR}{tg:Tg}{b:Bool}(hr0:r.gget d=some (tg,.c (.bo b))){ρ:QB}(Hr:JE ρ r.den):
  Jn ops ρ o.guard=some (r.holds ((d,w)::tg)):=by
 rw[<-ZQ (all:=ops) (r:=ρ) (o:=o) hg];have hr:=(SR.Xl hr0).2;have h1:=QB.at_of (Hr _ _ (SR.Qy hr)) (SR.Xl hr0).1;simp only[Zz,h1,YF,SR.Js]
 cases hh:r.holds tg with
 |false=>simp[Ks]
 |true=>simp only[Aq,SV.XL,SC.den_bo,Ks,Bool.true_and,SR.isB,hr];cases w<;>cases b<;>rfl
def SaysU(F:QB->QA->(Exit->QB->QA->Prop)->Prop):QT->Prop
 |.one _ _ dec run out=>∀r M x y,dec r M=some (true,x)->run x=some y->F r.den (SH.den M) λe ρ τ=>e=(out x y).1/\WR ρ (out x y).2.1.den/\WH τ (SH.den (out x y).2.2)
 |.two _ _ _ dec run outY outZ=>∀r M x s,dec r M=some (true,x)->run x=some s->F r.den (SH.den M) λe ρ τ=>match s with
  |.inl y=>e=(outY x y).1/\WR ρ (outY x y).2.1.den/\WH τ (SH.den (outY x y).2.2)
  |.inr z=>e=(outZ x z).1/\WR ρ (outZ x z).2.1.den/\WH τ (SH.den (outZ x z).2.2)
 |.alt u v=>SaysU F u/\SaysU F v
def unitK_ok{F:QB->QA->(Exit->QB->QA->Prop)->Prop}{u:QT}(hu:SaysU F u){β:Type}{r:SR}{M:SH}{K:Exit->SR->SH->Option β}{b:β}(h:UO u r M K=some b):
  ∃Q:Exit->QB->QA->Prop,F r.den (SH.den M) Q/\∀e ρ τ,Q e ρ τ->∃r' S',WR ρ r'.den/\WH τ (SH.den S')/\K e r' S'=some b:=by
 induction u with
 |alt u v ih1 ih2=>
  simp only[UO]at h;split at h
  ·exact ih1 hu.1 h
  ·exact ih2 hu.2 h
 |one X Y dec run out=>
  simp only[UO]at h;split at h
  ·rename_i p x hx
   cases p with
   |false=>cases h
   |true=>
    simp only[A6,bindO]at h;split at h
    ·rename_i y hy;exact⟨_,hu r M x y hx hy,λe ρ τ ⟨h1,h2,h3⟩=>⟨_,_,h2,h3,by rw[h1];exact h⟩⟩
    ·cases h
  ·cases h
 |two X Y Z dec run outY outZ=>
  simp only[UO]at h;split at h
  ·rename_i p x hx
   cases p with
   |false=>cases h
   |true=>
    simp only[A6,bindO]at h;split at h
    ·rename_i s hs;refine⟨_,hu r M x s hx hs,λe ρ τ hq=> ?_⟩
     cases s with
     |inl y=>exact⟨_,_,hq.2.1,hq.2.2,by rw[hq.1];exact h⟩
     |inr z=>exact⟨_,_,hq.2.1,hq.2.2,by rw[hq.1];exact h⟩
    ·cases h
  ·cases h
def BodyOkS(P:Program)(N n0:Nat)(A B:Code)(u:QT):Prop:=SaysU (Ka P N n0 A B) u
def ZI(P:Program)(n0:Nat)(E:Env)(yk:Option YI):Prop:=∀ps u,E.yb=some (ps,u)->∃y,yk=some y/\y.ps=ps/\y.n<=BIG/\(∀p∈ps.toList,p<y.n)/\BodyOkS P y.n n0 y.assign y.body u
def ZI.no{E:Env}{yk:Option YI}(h:E.yb=none):ZI P n0 E yk:=λ_ _ e=>by rw[h]at e;cases e
def WU{E:Env}{r:SR}{op:Op}(h:X6 op=none):isYield E r op=none:=by
 unfold isYield;split
 ·rfl
 ·rw[h]
def Uv(d:Nat)(w:Bool):∀(r:SR) (t:Nat),(SR.fix d w r).get t=(r.get t).map λx=>if t=d then ([],SV.c (.bo w)) else (fixT d w x.1,x.2)
 |[],t=>rfl
 |(k,tg,v)::r,t=>by
  simp only[SR.fix];split
  ·rename_i hk;have hk:k=d:=Bi hk;subst hk;simp only[SR.get];split
   ·rename_i ht;have ht:k=t:=Bi ht;subst ht;simp
   ·exact Uv k w r t
  ·rename_i hk;simp only[SR.get];split
   ·rename_i ht;have ht:k=t:=Bi ht;subst ht;have:¬k=d:=λe=>(by subst e;simp at hk);simp[this]
   ·exact Uv d w r t
def fix_isB{d:Nat}{w:Bool}{r:SR}{tg:Tg}(hd:r.get d=some (tg,.c (.bo w)))(t:Nat)(u:Bool):(SR.fix d w r).isB t u=r.isB t u:=by
 unfold SR.isB;rw[Uv];by_cases e:t=d
 ·subst e;rw[hd];simp
 ·cases hg:r.get t with
  |none=>rfl
  |some x=>
   obtain⟨tg',v⟩:=x;simp only[AI,e,Al]
   cases v with
   |c y=>cases y<;>rfl
   |_=>rfl
def fix_holds{d:Nat}{w:Bool}{r:SR}{tg0:Tg}(hd:r.get d=some (tg0,.c (.bo w))):∀(tg:Tg),(SR.fix d w r).holds (fixT d w tg)=r.holds tg
 |[]=>rfl
 |(t,u)::l=>by
  have ih:=fix_holds hd l;have keep:(SR.fix d w r).holds ((t,u)::fixT d w l)=r.holds ((t,u)::l):=(by rw[SR.Js,SR.Js,ih,fix_isB hd]);have drop:t=d->u=w->(SR.fix d w r).holds (fixT d w l)=r.holds ((t,u)::l):=λe1 e2=>(by subst e1;subst e2;rw[ih,SR.Js];have:r.isB t u=true:=(by unfold SR.isB;rw[hd];cases u<;>rfl);simp[this]);simp only[fixT];split
  ·rename_i ht;have ht:t=d:=Bi ht;cases u<;>cases w
   ·exact drop ht rfl
   ·exact keep
   ·exact keep
   ·exact drop ht rfl
  ·exact keep
def fix_den{d:Nat}{w:Bool}{r:SR}{tg0:Tg}(hd:r.get d=some (tg0,.c (.bo w)))(ht0:r.holds tg0=true)(t:Nat)(u:AV)(h:(SR.fix d w r).den.get t=some u):r.den.get t=some u:=by
 obtain⟨tg,v,hg,rfl⟩:=Zi h;rw[Uv]at hg;by_cases e:t=d
 ·subst e;rw[hd]at hg;simp at hg;obtain⟨rfl,rfl⟩:=hg;rw[SR.den_get' hd ht0];rfl
 ·cases hr:r.get t with
  |none=>rw[hr]at hg;cases hg
  |some x=>obtain⟨tg',v'⟩:=x;rw[hr]at hg;simp[e]at hg;obtain⟨rfl,rfl⟩:=hg;rw[SR.Qy hr,YF,YF,fix_holds hd]
def holds_one{r:SR}{d:Nat}{b w:Bool}(hd:r.get d=some ([],.c (.bo b)))(h:r.holds [(d,w)]=true):b=w:=by unfold SR.holds SR.isB at h;rw[hd]at h;cases w<;>simpa using h
def holds_one'{r:SR}{d:Nat}{b w:Bool}(hd:r.get d=some ([],.c (.bo b)))(h:r.holds [(d,w)]=false):b=!w:=by unfold SR.holds SR.isB at h;rw[hd]at h;cases w<;>simpa using h
def nrm_weak(op:Op)(M:SH):WH (SH.den M) (SH.den (nrm op M)):=by cases op<;>first|exact Xb _|exact WH.rfl'
def stepU_ok{E:Env}(hE:Zk P E){β:Type}{r:SR}{M:SH}{o:Oper}{k:List Nat}{K:SR->SH->Option β}{b:β}(h:stepU E o.dst o.op k r M K=some b)(hdst:X3 N o.dst=true)
  {O:Map} {w:World} {a:Act} (hh:HR O (SH.den M) w) (hr:JP N O w r.den a) {next:Act->World->Prop} {Q:Exit->Act->World->Prop}
  (hn:∀(r':SR) (S':SH),K r' S'=some b->∀ρ τ I' w' a',J0 N n0 ρ τ r'.den (SH.den S')->HR I' τ w'->JP N I' w' ρ a'->Step O (SH.den M) w I' τ w'->a'.defers=a.defers->next a' w'):o.wpIn (wr ro) 0 P a w next Q:=by
 unfold stepU at h;split at h
 ·rename_i f args hcall;obtain⟨as',ts,hop,rfl⟩:=Xf hcall;split at h
  ·rename_i gg as hcal;obtain⟨v,S',h1,h2⟩:=callS_ok hE h;split at h1
   ·rename_i r' hput;have hce:=Ju (L:=[]) JE.rfl' rfl hcal;refine Zm hh hr hdst (K:=λres τ=>∃u,res=some u/\WV u v.den/\WH τ (SH.den S')) ?_ λres τ I' w' a' hK hh' hr' hs' hd'=> ?_
    ·unfold stepOk;rw[hop];simp only;unfold callE at hce;split at hce
     ·rename_i fv as0 e1 e2
      ·try rw[e1,e2]
       try simp only[hce]
       exact h2.mono λu τ hu=>⟨u,rfl,hu⟩
     ·cases hce
    ·obtain⟨u,rfl,hu1,hu2⟩:=hK;refine hn _ _ h1 _ _ _ _ _ ?_ hh' hr' hs' hd';exact(Qi (((K4 (ρ:=r.den) (d:=o.dst) (a:=some u) (b:=some v.den) hu1).Ja (JR (v:=some v) JE.rfl' rfl hput)).Ja (XI _ _)) hu2).tr (Qi WR.rfl' (Xb _))
   ·cases h1
  ·cases h
 ·rename_i hcall;split at h
  ·rename_i p v S' hop;split at h
   ·rename_i r' hput
    cases p with
    |false=>cases h
    |true=>have hst:=VM hE.ty (L:=[]) JE.rfl' rfl hcall hop;refine Zm hh hr hdst hst λres τ I' w' a' hK hh' hr' hs' hd'=> ?_;refine hn _ _ h _ _ _ _ _ ?_ hh' hr' hs' hd';refine(hK.ghost r.den o.dst n0).tr (Qi ?_ (nrm_weak _ _));exact((JR JE.rfl' rfl hput).wr).Ja (XI _ _)
   ·cases h
  ·cases h
def opsS_ok{E:Env}(hE:Zk P E){yk:Option YI}(hyk:ZI P n0 E yk){β:Type}{ops:Array Oper}{I0:Map}{S0:QA}{w0:World}{ds:DS}(h0:HR I0 S0 w0)(hn0:S0.length<=n0)(hY:∀y,yk=some y->ExOk y I0.ex w0/\∀p∈ds.S,p.1≠I0.ex.l){K:SR->SH->Option β}{b:β}:
  ∀(os:List Oper) (cs:List COp) (ks:List (List Nat)),stripOps ops os ks=some cs->∀(k:Nat),os=ops.toList.drop k->∀{r:SR} {M:SH},Yn E N cs r M K=some b->
   ∀{O:Map} {w:World} {a:Act} {ms:List Deferred},HR O (SH.den M) w->JP N O w r.den a->Step I0 S0 w0 O (SH.den M) w->a.defers=ms++ds.l->ZG ds w0.heap.size w ms->
   wpOpsIn (wr ro) 0 P ops (VF N (λe ρ τ=>e=.normal/\∃r' S',WR ρ r'.den/\WH τ (SH.den S')/\K r' S'=some b) I0 S0 w0 ds) (List.range' k (ops.size - k)) a w
 |[],cs,ks,hst,k,hk,r,M,h,O,w,a,ms,hh,hr,hs,hd,hm=>by simp only[stripOps,Kn]at hst;subst hst;have hlen:ops.toList.length<=k:=Bw.1 hk.symm;have:ops.size - k=0:=(by simp at hlen;omega);rw[this];simp only[Yn]at h;exact⟨trivial,r.den,SH.den M,O,ms,⟨rfl,r,SH.norm M,WR.rfl',Xb M,h⟩,hh,hr,hs,hd,hm⟩
 |o::os,cs,ks,hst,k,hk,r,M,h,O,w,a,ms,hh,hr,hs,hd,hm=>by
  simp only[stripOps]at hst;split at hst
  ·rename_i g cs' hg hcs;injection hst with hst;subst hst;have hlt:k<ops.size:=(by have:(ops.toList.drop k).length=os.length+1:=(by rw[<-hk];rfl);simp at this;omega);have hok:ops[k]? =some o:=(by have:(ops.toList.drop k)[0]? =some o:=(by rw[<-hk];rfl);simpa using this);have hos:os=ops.toList.drop (k+1):=(by have:(ops.toList.drop k).tail=os:=(by rw[<-hk];rfl);rw[<-this];simp);have hr':List.range' k (ops.size - k)=k::List.range' (k+1) (ops.size - (k+1)):=(by have:ops.size - k=(ops.size - (k+1))+1:=(by omega);rw[this,List.range'_succ]);rw[hr'];simp only[wpOpsIn,hok]
   -- behind an operation:another description,then the rest
   have rest:∀{r':SR} {S':SH},Yn E N cs' r' S' K=some b->∀(ρ:QB) (τ:QA) {I':Map} {w':World} {a':Act} {ms':List Deferred},J0 N n0 ρ τ r'.den (SH.den S')->HR I' τ w'->JP N I' w' ρ a'->Step I0 S0 w0 I' τ w'->a'.defers=ms'++ds.l->ZG ds w0.heap.size w' ms'->
     wpOpsIn (wr ro) 0 P ops (VF N (λe ρ τ=>e=.normal/\∃r' S',WR ρ r'.den/\WH τ (SH.den S')/\K r' S'=some b) I0 S0 w0 ds) (List.range' (k+1) (ops.size - (k+1))) a' w':=λh ρ τ _ _ _ _ hgh hh hr hs hd hm=>by
    obtain⟨I2,h1,h2,h3⟩:=hgh _ _ _ hh hr;exact opsS_ok hE hyk h0 hn0 hY os cs' _ hcs (k+1) hos h h1 h2 (h3 I0 S0 w0 h0 hn0 hs) hd hm
   simp only[Yn]at h;split at h
   ·cases h
   ·rename_i hdst;split at h
    ·cases h
    split at h
    ·
     have hgd:Jn ops r.den o.guard=some true:=(by rw[<-ZQ (all:=ops) (r:=r.den) (o:=o) hg];rfl);have hw:=Wc hr hgd;rw[hw];simp only[Aq];split at h
     ·rename_i f args hcall;obtain⟨as',ts,hop,rfl⟩:=Xf hcall;split at h
      ·rename_i gg as hcal;obtain⟨v,S',h1,h2⟩:=callS_ok hE h;split at h1
       ·rename_i r' hput;have hce:=Ju (L:=[]) JE.rfl' rfl hcal;refine Zm hh hr hdst (K:=λres τ=>∃u,res=some u/\WV u v.den/\WH τ (SH.den S')) ?_ λres τ I' w' a' hK hh' hr' hs' hd'=> ?_
        ·unfold stepOk;rw[hop];simp only;unfold callE at hce;split at hce
         ·rename_i fv as0 e1 e2
          ·try rw[e1,e2]
           try simp only[hce]
           exact h2.mono λu τ hu=>⟨u,rfl,hu⟩
         ·cases hce
        ·obtain⟨u,rfl,hu1,hu2⟩:=hK;refine rest h1 _ _ ?_ hh' hr' (hs.trans hs') (hd'.trans hd) (hm.step hh hs');exact(Qi (((K4 (ρ:=r.den) (d:=o.dst) (a:=some u) (b:=some v.den) hu1).Ja (JR (v:=some v) JE.rfl' rfl hput)).Ja (XI _ _)) hu2).tr (Qi WR.rfl' (Xb _))
       ·cases h1
      ·cases h
     ·rename_i hcall;split at h
      ·rename_i p v S' hop;split at h
       ·rename_i r' hput
        cases p with
        |false=>cases h
        |true=>have hst:=VM hE.ty (L:=[]) JE.rfl' rfl hcall hop;refine Zm hh hr hdst hst λres τ I' w' a' hK hh' hr' hs' hd'=> ?_;refine rest h _ _ ?_ hh' hr' (hs.trans hs') (hd'.trans hd) (hm.step hh hs');refine(hK.ghost r.den o.dst n0).tr (Qi ?_ (nrm_weak _ _));exact((JR JE.rfl' rfl hput).wr).Ja (XI _ _)
       ·cases h
      ·cases h
    ·
     rename_i gd wnt;split at h
     ·rename_i tg b' hget;have hgd:=guardE_holds hg hget (ρ:=r.den) JE.rfl';have hw:=Wc hr hgd;rw[hw];have skip:∀{r':SR} {v:SV},r.holds ((gd,wnt)::tg)=false->r.put o.dst ((gd,wnt)::tg) (some v)=some r'->Yn E N cs' (r'.kill (ks.headD [])) M K=some b->
        wpOpsIn (wr ro) 0 P ops (VF N (λe ρ τ=>e=.normal/\∃r' S',WR ρ r'.den/\WH τ (SH.den S')/\K r' S'=some b) I0 S0 w0 ds) (List.range' (k+1) (ops.size - (k+1))) (a.put o.dst undef) w:=λhf hput h'=>by
       have hdf:(a.put o.dst undef).defers=a.defers:=(by cases o.dst<;>rfl);refine rest h' _ _ (Qi ?_ WH.rfl') hh (hr.drop (YY hdst)) hs (hdf.trans hd) hm;exact((VD JE.rfl' hf hput).wr).Ja (XI _ _)
      split at h
      ·split at h
       ·
        cases hf:r.holds [(gd,wnt)] with
        |true=>rw[hf]at h;simp only[A6]at h;simp only[Aq];have hg2:=(SR.Xl hget).2;have hbw:=holds_one hg2 hf;subst hbw;refine stepU_ok (n0:=n0) hE h hdst hh (hr.sub (fix_den hg2 rfl)) λr' S' h' ρ τ I' w' a' hgh hh' hr' hs' hd'=> ?_;exact rest h' ρ τ hgh hh' hr' (hs.trans hs') (hd'.trans hd) (hm.step hh hs')
        |false=>
         rw[hf]at h;simp only[A7]at h;simp only[Ab,Al];have hg2:=(SR.Xl hget).2;have hbw:=holds_one' hg2 hf;subst hbw;split at h
         ·rename_i r' hput;have hf2:(SR.fix gd (!wnt) r).holds [(gd,wnt)]=false:=(by have:(SR.fix gd (!wnt) r).isB gd wnt=false:=(by rw[fix_isB hg2];simpa [SR.holds] using hf);simpa [SR.holds] using this);refine⟨λ_ _=>trivial,?_⟩;have hdf:(a.put o.dst undef).defers=a.defers:=(by cases o.dst<;>rfl);refine rest h _ _ (Qi ?_ WH.rfl') hh ((hr.sub (fix_den hg2 rfl)).drop (YY hdst)) hs (hdf.trans hd) hm;exact((VD JE.rfl' hf2 hput).wr).Ja (XI _ _)
         ·cases h
       split at h
       ·rename_i r' hput
        cases hf:r.holds ((gd,wnt)::_) with
        |true=>rw[hf]at h;cases h
        |false=>rw[hf]at h;simp only[Ab,Al];exact⟨λ_ _=>trivial,skip hf hput h⟩
       ·cases h
      split at h
      ·rename_i f args hcall;obtain⟨as',ts,hop,rfl⟩:=Xf hcall;split at h
       ·rename_i gg as hcal;obtain⟨v,h1,h2⟩:=callG_ok hE h;split at h1
        ·rename_i r' hput
         cases hf:r.holds ((gd,wnt)::tg) with
         |false=>simp only[Ab,Al];exact⟨λ_ _=>trivial,skip hf hput h1⟩
         |true=>
          simp only[Aq];have hce:=Ju JE.rfl' hf hcal;refine Zm hh hr hdst (K:=λres τ=>∃u,res=some u/\WV u v.den/\WH τ (SH.den M)) ?_ λres τ I' w' a' hK hh' hr' hs' hd'=> ?_
          ·unfold stepOk;rw[hop];simp only;unfold callE at hce;split at hce
           ·rename_i fv as0 e1 e2
            ·try rw[e1,e2]
             try simp only[hce]
             exact(h2 hf).mono λu τ hu=>⟨u,rfl,hu⟩
           ·cases hce
          ·obtain⟨u,rfl,hu1,hu2⟩:=hK;refine rest h1 _ _ ?_ hh' hr' (hs.trans hs') (hd'.trans hd) (hm.step hh hs');exact Qi (((K4 (ρ:=r.den) (d:=o.dst) (a:=some u) (b:=some v.den) hu1).Ja (JR (v:=some v) JE.rfl' hf hput)).Ja (XI _ _)) hu2
        ·cases h1
       ·cases h
      ·rename_i hcall;split at h
       ·rename_i p v S' hq hop;have hσ:=Kk hq hop;subst hσ;split at h
        ·rename_i r' hput
         cases hf:r.holds ((gd,wnt)::tg) with
         |false=>rw[hf]at h;simp only[Bc,CG,A6]at h;simp only[Ab,Al];exact⟨λ_ _=>trivial,skip hf hput h⟩
         |true=>
          rw[hf]at h;simp only[Aq]
          cases p with
          |false=>cases h
          |true=>have hst:=VM hE.ty JE.rfl' hf hcall hop;refine Zm hh hr hdst hst λres τ I' w' a' hK hh' hr' hs' hd'=> ?_;refine rest h _ _ ?_ hh' hr' (hs.trans hs') (hd'.trans hd) (hm.step hh hs');refine(hK.ghost r.den o.dst n0).tr (Qi ?_ WH.rfl');exact((JR (v:=some v) JE.rfl' hf hput).wr).Ja (XI _ _)
        ·cases h
       ·cases h
     ·cases h
  ·cases hst
end
end Go.Abs
