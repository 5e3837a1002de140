/- A part of the proof. -/
import Derived.Test.YtpbplpgfloaaiaaGreatDoorXR2QSyA
import Derived.Test.YtpbplpgfloaaiaaGreatDoorXR2QSyX
set_option linter.all false
namespace Go.Abs
variable [Gl]
theorem SR.QM(r:SR)(t:Nat)(v:Tg×SV):(r.set t v).get t=some v:=by
 induction r with
 |nil=>simp[SR.set,SR.get]
 |cons p r ih=>
  obtain⟨k,u⟩:=p;simp only[SR.set];split
  ·rename_i h;simp[SR.get,h]
  ·rename_i h;simp[SR.get,h,ih]
theorem WU{a b:Nat}(h:Nat.beq a b=false):a≠b:=λe=>by subst e;simp at h
theorem ne_beq{a b:Nat}(h:a≠b):Nat.beq a b=false:=by
 cases hb:Nat.beq a b with
 |false=>rfl
 |true=>exact absurd (eqB hb) h
theorem Ud{x:Nat}:∀{l:List Nat},Wn x l=true↔x∈l
 |[]=>by simp[Wn]
 |y::l=>by
  simp only[Wn];split
  ·rename_i h;simp[eqB h]
  ·rename_i h;simp[Ud (l:=l),Bs (WU h)]
theorem YW:∀{l:List Nat},UX l=true->l.Nodup
 |[],_=>List.nodup_nil
 |x::l,h=>by
  simp only[UX]at h;split at h
  ·cases h
  ·rename_i h1;exact List.nodup_cons.2 ⟨λhm=>(by rw[Ud.2 hm]at h1;cases h1),YW h⟩
theorem SR.Qe(r:SR){t t':Nat}(v:Tg×SV)(h:t≠t'):(r.set t v).get t'=r.get t':=by
 induction r with
 |nil=>simp[SR.set,SR.get,ne_beq h]
 |cons p r ih=>
  obtain⟨k,u⟩:=p;simp only[SR.set];split
  ·rename_i h1;have e:=eqB h1;subst e;simp[SR.get,ne_beq h]
  ·rename_i h1;simp only[SR.get];split
   ·rfl
   ·exact ih
theorem SR.Zu(r:SR){t t':Nat}(h:t≠t'):(r.del t).get t'=r.get t':=by
 induction r with
 |nil=>rfl
 |cons p r ih=>
  obtain⟨k,u⟩:=p;simp only[SR.del];split
  ·rename_i h1;have e:=eqB h1;subst e;simp[SR.get,ne_beq h,ih]
  ·rename_i h1;simp only[SR.get];split
   ·rfl
   ·exact ih
theorem SR.Xj(r:SR)(t:Nat):(r.del t).get t=none:=by
 induction r with
 |nil=>rfl
 |cons p r ih=>
  obtain⟨k,u⟩:=p;simp only[SR.del];split
  ·exact ih
  ·rename_i h1;simp[SR.get,h1,ih]
theorem SR.YK{r:SR}{d t:Nat}{tg:Tg}{v:SV}(h:r.free d=true)(hg:r.get t=some (tg,v)):inTg d tg=false:=by
 induction r with
 |nil=>simp[SR.get]at hg
 |cons p r ih=>
  obtain⟨k,tg',u⟩:=p;simp only[SR.free]at h;split at h
  ·cases h
  ·rename_i h1;simp only[SR.get]at hg;split at hg
   ·injection hg with hg;injection hg with hg _;subst hg;exact h1
   ·exact ih h hg
theorem JW{r r':SR}{d:Nat}(h:∀t,t≠d->r'.get t=r.get t):∀{L:Tg},inTg d L=false->r'.holds L=r.holds L
 |[],_=>rfl
 |(t,w)::l,hl=>by
  simp only[inTg]at hl;split at hl
  ·cases hl
  ·rename_i h1;rw[SR.JK,SR.JK,JW h hl];simp only[SR.isB,h t (WU h1)]
theorem Zg{r r':SR}{tg:Tg}{v:SV}(h:r'.holds tg=r.holds tg):r'.dv tg v=r.dv tg v:=by
 cases tg with
 |nil=>rfl
 |cons x l=>simp only[SR.dv,h]
theorem Zf{r:SR}{tg:Tg}{v:SV}:r.dv tg v=if r.holds tg=true then v.den else .tup []:=by
 cases tg with
 |nil=>simp[SR.dv,SR.holds]
 |cons x l=>simp only[SR.dv];cases r.holds (x::l)<;>simp
theorem Z5{r:SR}{t:Nat}{u:AV}(h:r.den.get t=some u):∃tg v,r.get t=some (tg,v)/\u=r.dv tg v:=by
 cases hg:r.get t with
 |none=>rw[SR.den_none hg]at h;cases h
 |some p=>obtain⟨tg,v⟩:=p;rw[SR.QX hg]at h;injection h with h;exact⟨tg,v,rfl,h.symm⟩
theorem set_get{r:SR}{d:Nat}{L:Tg}{v:SV}(h1:r.free d=true)(h2:inTg d L=false){t:Nat}{u:AV}(h:(r.set d (L,v)).den.get t=some u):
  (t=d/\u=r.dv L v)\/(t≠d/\r.den.get t=some u):=by
 obtain⟨tg,v',h3,rfl⟩:=Z5 h;have hc:∀t,t≠d->(r.set d (L,v)).get t=r.get t:=λt ht=>SR.Qe r _ (Bs ht);by_cases e:t=d
 ·subst e;rw[SR.QM]at h3;injection h3 with h3;injection h3 with h3 h4;subst h3;subst h4;exact .inl ⟨rfl,Zg (JW hc h2)⟩
 ·rw[hc t e]at h3;refine .inr ⟨e,?_⟩;rw[SR.QX h3];congr 1;exact(Zg (JW hc (SR.YK h1 h3))).symm
theorem del_sub{r:SR}{d:Nat}(h1:r.free d=true):Qk r.den (r.del d).den:=λt u h=>by
 obtain⟨tg,v',h3,rfl⟩:=Z5 h;have hc:∀t,t≠d->(r.del d).get t=r.get t:=λt ht=>SR.Zu r (Bs ht);by_cases e:t=d
 ·subst e;rw[SR.Xj]at h3;cases h3
 ·rw[hc t e]at h3;rw[SR.QX h3];congr 1;exact(Zg (JW hc (SR.YK h1 h3))).symm
theorem Qk.trans{a b c:Q3}(h:Qk a b)(h':Qk b c):Qk a c:=λt v hv=>h t v (h' t v hv)
theorem Qk.rfl'{a:Q3}:Qk a a:=λ_ _ h=>h
theorem Qk.wr{a b:Q3}(h:Qk a b):WR a b:=λt v hv=>⟨v,h t v hv,WV.rfl'⟩
theorem Ji:∀(ts:List Nat) (r:SR),Qk r.den (r.kill ts).den
 |[],r=>Qk.rfl'
 |t::ts,r=>by
  simp only[SR.kill];split
  ·rename_i h;exact(del_sub h).trans (Ji ts _)
  ·exact Ji ts r
theorem put_get{r r':SR}{d:Nat}{L:Tg}{v:Option SV}(h:r.put (some d) L v=some r'){t:Nat}{u:AV}(hg:r'.den.get t=some u):
  (t=d/\u=(match v with|some v=>r.dv L v|none=>.tup []))\/(t≠d/\r.den.get t=some u):=by
 simp only[SR.put]at h;split at h
 ·rename_i h1 h2;split at h
  ·injection h with h;subst h;exact set_get h1 h2 hg
  ·injection h with h;subst h;exact set_get h1 rfl hg
 ·cases h
theorem Qy{r r':SR}{d:Option Nat}{L:Tg}{v:Option SV}{ρ:Q3}(Hr:Qk ρ r.den)(hL:r.holds L=true)(h:r.put d L v=some r'):Qk (ρ.Qu d (v.map SV.den)) r'.den:=λt u hu=>by
 cases d with
 |none=>simp only[SR.put,X3]at h;subst h;cases v<;>exact Hr t u hu
 |some d=>
  rcases put_get h hu with ⟨rfl,rfl⟩|⟨h1,h2⟩
  ·cases v with
   |none=>simp[Q3.Qu,Q3.drop,Q3.QM]
   |some v=>simp[Q3.Qu,Q3.put,Q3.QM,Zf,hL]
  ·have:=Hr t u h2;cases v<;>simp[Q3.Qu,Q3.drop,Q3.put,Q3.Qe _ _ (Bs h1),this]
theorem UM{r r':SR}{d:Option Nat}{L:Tg}{v:SV}{ρ:Q3}(Hr:Qk ρ r.den)(hL:r.holds L=false)(h:r.put d L (some v)=some r'):Qk (ρ.drop d) r'.den:=λt u hu=>by
 cases d with
 |none=>simp only[SR.put,X3]at h;subst h;exact Hr t u hu
 |some d=>
  rcases put_get h hu with ⟨rfl,rfl⟩|⟨h1,h2⟩
  ·simp[Q3.drop,Q3.QM,Zf,hL]
  ·simp[Q3.drop,Q3.Qe _ _ (Bs h1),Hr t u h2]
theorem WR.J5{a b c:Q3}(h:WR a b)(h':Qk b c):WR a c:=λt v hv=>h t v (h' t v hv)
theorem YT{ρ:Q3}{d:Option Nat}{a b:Option AV}(h:WVO a b):WR (ρ.Qu d a) (ρ.Qu d b):=λt v hv=>by
 cases d with
 |none=>cases a<;>cases b<;>first|exact⟨v,hv,WV.rfl'⟩|exact h.elim
 |some d=>
  cases a<;>cases b<;>first|exact h.elim|exact⟨v,hv,WV.rfl'⟩|skip
  rename_i a b;simp only[Q3.Qu,Q3.put]at hv⊢;by_cases e:d=t
  ·subst e;rw[Q3.QM]at hv⊢;injection hv with hv;subst hv;exact⟨a,rfl,h⟩
  ·rw[Q3.Qe _ _ e]at hv⊢;exact⟨v,hv,WV.rfl'⟩
theorem zB_ok:∀{c:Ly} {z:List T},zB c z=true->WL (z.map .t) ((c.trees c.JX).map .t)
 |.int k,z,h=>by
  simp only[zB]at h;split at h
  ·rw[JE h];exact WL.rfl'
  ·cases h
 |.bool,z,h=>by
  simp only[zB]at h;split at h
  ·exact WL.rfl'
  ·cases h
 |.str,z,h=>by
  simp only[zB]at h;split at h
  ·exact WL.rfl'
  ·cases h
 |.sl c,z,h=>by
  simp only[zB]at h;split at h
  ·exact⟨.t (.cap _ _ _),trivial⟩
  ·cases h
 |.pair a b,z,h=>by
  simp only[zB]at h;split at h
  ·rename_i h1;have h2:=zB_ok h1;have h3:=zB_ok h;have e:z.map Cell.t=(z.take a.size).map Cell.t++(z.drop a.size).map Cell.t:=(by rw[<-AZ,Bh]);rw[e];simp only[Ly.trees,Ly.JX,AZ];exact h2.append h3
  ·cases h
theorem norm_ok(o:SO):WO o.den o.norm.den:=by
 cases o with
 |st cs es ep=>exact WO.rfl'
 |arr c xs ep=>exact WO.rfl'
 |opn c xs cs ys ep=>
  simp only[SO.norm];split
  ·rename_i y h;refine⟨?_,rfl,rfl⟩;show WL ((xs.flatMap c.trees).map .t++(cs.map SC.den++(ys.flatMap c.trees).map .t)) (((xs++y::ys).flatMap c.trees).map .t);rw[List.flatMap_append,An,AZ,AZ];exact WL.rfl'.append ((Ly.KD h).1.append WL.rfl')
  ·exact WO.rfl'
 |zer z c n=>
  simp only[SO.norm];split
  ·rename_i h;refine⟨?_,rfl,rfl⟩;show WL ((ZW n z).map .t) (((List.replicate n c.JX).flatMap c.trees).map .t);have:=zB_ok h
   induction n with
   |zero=>exact trivial
   |succ n ih=>simp only[ZW,List.replicate_succ,An,AZ];exact this.append ih
  ·exact WO.rfl'
theorem Jw(J:SH):WH (SH.den J) (SH.den (SH.norm J)):=by
 unfold SH.norm;split
 ·rename_i hz;clear hz;show WH (List.map SO.den J) (List.map SO.den (List.map SO.norm J))
  induction J with
  |nil=>exact trivial
  |cons o J ih=>exact⟨norm_ok o,ih⟩
 ·exact WH.rfl'
section
variable {P:Program}{N:Nat}{ro:Option Nat}{n0:Nat}
theorem QW.tr{n:Nat}{r r' r'':Q3}{J S' S'':Q1}(h:QW N n r J r' S')(h':QW N n r' S' r'' S''):QW N n r J r'' S'':=fun ι w a hh hr=>by obtain⟨I',h1,h2,h3⟩:=h ι w a hh hr;obtain⟨i'',h4,h5,h6⟩:=h' I' w a h1 h2;exact⟨i'',h4,h5,λI0 S0 w0 h0 hn hs=>h6 I0 S0 w0 h0 hn (h3 I0 S0 w0 h0 hn hs)⟩
theorem ghost_add{n:Nat}{r:Q3}{J:Q1}(o:Obj):QW N n r J r (J++[o]):=fun ι w a hh hr=>
 ⟨ι,⟨λid s hs=>by
   obtain⟨o',h1,h2⟩:=hh.obj id s hs
   exact⟨o',by rw[AK (hh.lt hs)];exact h1,h2⟩,hh.inj,hh.resRow,hh.resNo⟩,hr,λ_ _ _ _ _ hs=>
  ⟨by have:=hs.len;simp;omega,hs.size,hs.os,hs.out,hs.keep,hs.none,hs.new,hs.res,hs.ex,hs.resKeep,hs.frame⟩⟩
theorem Out.ghost{ex:Bool}{J τ T':Q1}{a b:Option AV}(h:Out ex J a τ b T')(ρ:Q3)(d:Option Nat)(n:Nat):QW N n (ρ.Qu d a) τ (ρ.Qu d b) T':=by
 cases h with
 |XS h1 h2 _=>exact QL (YT h1) h2
 |own es _=>
  cases d with
  |none=>exact ghost_add _
  |some d=>
   refine QW.tr (ZI.f (WB (t:=d) es (by simp[Q3.Qu,Q3.put,Q3.QM])) n) (QL ?_ WH.rfl');refine Qk.wr λt v hv=> ?_;simp only[Q3.Qu,Q3.put]at hv⊢;by_cases e:d=t
   ·subst e;rw[Q3.QM]at hv⊢;exact hv
   ·rw[Q3.Qe _ _ e]at hv⊢;rw[Q3.Qe _ _ e];exact hv
theorem YG{op:Op}(h:JV op=none):∀f args ts,op≠.call { callee:=.value f,args:=args,argTypes:=ts }:=λf args ts e=>by subst e;cases h
theorem Jz{op:Op}{f:Operand}{args:List Operand}(h:JV op=some (f,args)):∃as ts,op=.call { callee:=.value f,args:=as,argTypes:=ts }/\args=as.toList:=by
 unfold JV at h;split at h
 ·injection h with h;injection h with h1 h2;subst h1;subst h2;exact⟨_,_,rfl,rfl⟩
 ·cases h
theorem UT{ty:TyT}(hty:Xd P ty){r:SR}{L:Tg}{ρ:Q3}(Hr:Qk ρ r.den)(hL:r.holds L=true){J:SH}{o:Oper}(hc:JV o.op=none){res:Option SV}{S':SH}
  (h:opS false ty r L J o.op=some (true,res,S')):JS P ρ (SH.den J) o λres0 τ=>Out false (SH.den J) res0 τ (res.map SV.den) (SH.den S'):=by
 by_cases hb:∀b xT x y yT,o.op=.binOp b xT x y yT->Qr y=false
 ·obtain⟨res0,τ,h1,h2⟩:=opS_ok hty Hr hL hb h;exact JJ (YG hc) (JU hb ρ) h1 h2
 ·simp only[Classical.not_forall]at hb;obtain⟨b,xT,x,y,yT,hop,hy⟩:=hb;have hy:Qr y=true:=(by simpa using hy);rw[hop]at h;simp only[opS,hy]at h;split at h
  ·rename_i i c hi;have hti:=hty.ok _ _ _ hi;split at h
   ·rename_i e hk;split at h
    ·rename_i ne n hne hn;rw[Option.bind_eq_some_iff]at hn;obtain⟨v,hv,hlen⟩:=hn;rw[hv]at h;have key:eqN n 0=false/\(∀s,v≠.c (.sg s))/\res=some (.c (.bo ne))/\S'=J:=by
      split at h
      ·cases h
      ·rename_i hns;simp only[X3,A0,Bo]at h;exact⟨h.1,λs e=>hns s (by rw[e]),h.2.1.symm,h.2.2.symm⟩
     obtain⟨h1,h2,rfl,rfl⟩:=key;have hev:=QS Hr hL hv;have hsl:slLen v.den=some n:=by
      unfold lenS at hlen;split at hlen
      ·injection hlen with hlen;subst hlen;rfl
      ·injection hlen with hlen;subst hlen;rfl
      ·injection hlen with hlen;subst hlen;rfl
      ·exact absurd rfl (h2 _)
      ·cases hlen
     unfold JS;rw[hop];simp only[J2,hy,Ag,hti,hev,hne,hk,hsl];refine⟨Out.same,λe=> ?_⟩;simp[eqN,e]at h1
    ·cases h
   ·rename_i hns;split at h
    ·rename_i u v hu hv;rw[WF]at h;obtain⟨t,h1,h2⟩:=h;obtain⟨b',t⟩:=t;simp only[A0]at h2;obtain⟨rfl,rfl,rfl⟩:=h2;have hb:=binS_ok hty h1;rw[WF]at hb;obtain⟨tt,h5,h6⟩:=hb;refine JJ (YG hc) ?_ (res:=some (.c (.t tt))) (S':=SH.den J) ?_ ?_
     ·rw[hop];simp only[J2,hy,Ag,hti];split
      ·rename_i i' v' ne e1 e2 e3;injection e1 with e1;subst e1;split
       ·rename_i e n hk _;exact absurd hk (hns e)
       ·rfl
      ·rfl
     ·rw[hop];simp only[opE,QS Hr hL hu,QS Hr hL hv,h5,AD]
     ·rw[AD,SV.Jk,<-h6];exact Out.same
    ·cases h
  ·cases h
theorem Wa{rs:List Ref}(h:allE0 rs=true):(rs.map refArg).map SV.den=rs.map λr=>AV.c (.ptr r):=by
 induction rs with
 |nil=>rfl
 |cons r rs ih=>
  simp only[allE0]at h;split at h
  ·rename_i he;obtain⟨id,ep,off⟩:=r;have he':ep=0:=eqB he;subst he';simp only[AT,ih h];rfl
  ·cases h
theorem JM{r:SR}{L:Tg}{ρ:Q3}(Hr:Qk ρ r.den)(hL:r.holds L=true){f:Operand}{args:List Operand}{g:FuncId}{as:List SV}(h:XR r L f args=some (g,as)):XF ρ f args=some (g,as.map SV.den):=by
 unfold XR at h;split at h
 ·rename_i g' as' h1 h2;injection h with h;injection h with h3 h4;subst h3;subst h4;simp only[XF,Zi,QS Hr hL h1,Xk Hr hL h2,SV.Jk,SC.den_fn,Z7,Bb,Br]
 ·rename_i g' rs as' h1 h2;split at h
  ·rename_i h0 hy;have hy':¬g'=YID:=λe=>(by subst e;simp at hy);split at h
   ·rename_i hb;have hb':BND<=g':=BG hb;have h3:=(Prod.mk.inj (Aq h)).1;have h4:=(Prod.mk.inj (Aq h)).2;rw[<-h3,<-h4];have e1:Z7 (.c (.clo g' rs))=none:=AF (.inr hb');simp only[XF,Zi,QS Hr hL h1,Xk Hr hL h2,SV.Jk,SC.Kj,e1,AZ,Wa h0];exact AF hb'
   ·rename_i hb;have hb':¬BND<=g':=λe=>(by rw[C6 e]at hb;cases hb);injection h with h;injection h with h3 h4;subst h3;subst h4;have e1:Z7 (.c (.clo g' rs))=some (g',rs.map λr=>.c (.ptr r)):=AP (λe=>e.elim hy' hb');simp only[XF,Zi,QS Hr hL h1,Xk Hr hL h2,SV.Jk,SC.Kj,e1,AZ,Wa h0]
  ·cases h
 ·cases h
structure QC(P:Program)(g:FuncId)(c:Con):Prop where
 ok:∀as J x y,c.dec as J=some x->c.run x=some y->Qo P g (as.map SV.den) (SH.den J) λv τ=>WV v (c.val x y J).den/\WH τ (SH.den (c.heap x y J))
 rd:∀as J x y rs,c.dec as J=some x->c.rd x=some rs->c.heap x y J=J/\(c.run x=some y->ZJ P g (as.map SV.den) (SH.den J) rs (c.val x y J).den)
structure Z8(P:Program)(E:Env):Prop where
 ty:Xd P E.ty
 cf:∀g c,c∈E.cf g->QC P g c
theorem Js{as:List SV}{J:SH}:∀{l:List Con} {c:Con} {x:c.X},X6 as J l=some ⟨c,x⟩->c∈l/\c.dec as J=some x
 |[],c,x,h=>by cases h
 |c0::l,c,x,h=>by
  simp only[X6]at h;split at h
  ·rename_i x0 hx;simp only[X3,Sigma.mk.injEq]at h;obtain⟨rfl,h⟩:=h;have h:=eq_of_heq h;subst h;exact⟨by simp,hx⟩
  ·obtain⟨h1,h2⟩:=Js h;exact⟨by simp[h1],h2⟩
theorem callS_ok{E:Env}(hE:Z8 P E){β:Type}{g:FuncId}{as:List SV}{J:SH}{K:SV->SH->Option β}{b:β}(h:callS E g as J K=some b):
  ∃v S',K v S'=some b/\Qo P g (as.map SV.den) (SH.den J) λu τ=>WV u v.den/\WH τ (SH.den S'):=by
 unfold callS at h;split at h
 ·rename_i c x hcx;obtain⟨hc,hx⟩:=Js hcx;unfold bindO at h;split at h
  ·rename_i y hy;exact⟨_,_,h,(hE.cf g c hc).ok as J x y hx hy⟩
  ·cases h
 ·cases h
theorem callG_ok{E:Env}(hE:Z8 P E){β:Type}{g:FuncId}{as:List SV}{J:SH}{w:Bool}{K:SV->Option β}{b:β}(h:callG E w g as J K=some b):
  ∃v,K v=some b/\(w=true->Qo P g (as.map SV.den) (SH.den J) λu τ=>WV u v.den/\WH τ (SH.den J)):=by
 unfold callG at h;split at h
 ·rename_i c x hcx;obtain⟨hc,hx⟩:=Js hcx;split at h
  ·rename_i rs hrs;unfold bindO at h;split at h
   ·rename_i y hy;refine⟨_,h,λhw=> ?_⟩;subst hw;have:=(hE.cf g c hc).ok as J x y hx hy;rw[((hE.cf g c hc).rd as J x y rs hx hrs).1]at this;exact this
   ·cases h
  ·cases h
 ·cases h
theorem builtin_quiet{ex:Bool}{ty:TyT}{J:SH}{b:Builtin}{ts:Array TypeId}{vs:List SV}{x:Bool×SV×SH}(hb:(match b with|.len|.cap|.min|.max=>true|_=>false)=true)(h:XU ex ty J b ts vs=some x):x.2.2=J:=by
 unfold XU at h;split at h<;>first|cases hb;done|skip
 all_goals repeat' (first|(cases h;done)|(rw[WF]at h;obtain⟨v,h1,h2⟩:=h;rw[<-h2])|(simp only[X3]at h;rw[<-h];done)|split at h)
theorem Yx{ex:Bool}{ty:TyT}{r:SR}{L:Tg}{J S':SH}{op:Op}(hq:quiet op=true){p:Bool}{res:Option SV}(h:opS ex ty r L J op=some (p,res,S')):S'=J:=by
 unfold opS at h;split at h<;>first|cases hq;done|skip
 all_goals repeat' (first|(cases h;done)|(rw[WF]at h;obtain⟨v,h1,h2⟩:=h;simp only[A0]at h2;first|exact h2.2.2.symm|skip)|(simp only[X3,A0]at h;exact h.2.2.symm)|split at h)
 rw[<-h2.2.2];exact builtin_quiet hq h1
theorem guardE_holds{ops:Array Oper}{o:Oper}{d:Nat}{w:Bool}(hg:(match o.guard with|none=>some none|some (j,want)=>match (ops[j]?).bind (·.dst) with|some d=>some (some (d,want))|none=>none)=some (some (d,w))){r:SR}{tg:Tg}{b:Bool}(hr0:r.gget d=some (tg,.c (.bo b))){ρ:Q3}(Hr:Qk ρ r.den):
  JP ops ρ o.guard=some (r.holds ((d,w)::tg)):=by
 rw[<-Zb (all:=ops) (r:=ρ) (o:=o) hg];have hr:=(SR.X9 hr0).2;have h1:=Q3.at_of (Hr _ _ (SR.QX hr)) (SR.X9 hr0).1;simp only[Xb,h1,Zf,SR.JK]
 cases hh:r.holds tg with
 |false=>simp[K8]
 |true=>simp only[Ag,SV.Jk,SC.den_bo,K8,Bool.true_and,SR.isB,hr];cases w<;>cases b<;>rfl
def SaysU(F:Q3->Q1->(Exit->Q3->Q1->Prop)->Prop):QJ->Prop
 |.one _ _ dec run out=>∀r J x y,dec r J=some (true,x)->run x=some y->F r.den (SH.den J) λe ρ τ=>e=(out x y).1/\WR ρ (out x y).2.1.den/\WH τ (SH.den (out x y).2.2)
 |.two _ _ _ dec run outY outZ=>∀r J x s,dec r J=some (true,x)->run x=some s->F r.den (SH.den J) λe ρ τ=>match s with
  |.inl y=>e=(outY x y).1/\WR ρ (outY x y).2.1.den/\WH τ (SH.den (outY x y).2.2)
  |.inr z=>e=(outZ x z).1/\WR ρ (outZ x z).2.1.den/\WH τ (SH.den (outZ x z).2.2)
 |.alt u v=>SaysU F u/\SaysU F v
theorem unitK_ok{F:Q3->Q1->(Exit->Q3->Q1->Prop)->Prop}{u:QJ}(hu:SaysU F u){β:Type}{r:SR}{J:SH}{K:Exit->SR->SH->Option β}{b:β}(h:WX u r J K=some b):
  ∃Q:Exit->Q3->Q1->Prop,F r.den (SH.den J) Q/\∀e ρ τ,Q e ρ τ->∃r' S',WR ρ r'.den/\WH τ (SH.den S')/\K e r' S'=some b:=by
 induction u with
 |alt u v ih1 ih2=>
  simp only[WX]at h;split at h
  ·exact ih1 hu.1 h
  ·exact ih2 hu.2 h
 |one X Y dec run out=>
  simp only[WX]at h;split at h
  ·rename_i p x hx
   cases p with
   |false=>cases h
   |true=>
    simp only[A5,bindO]at h;split at h
    ·rename_i y hy;exact⟨_,hu r J x y hx hy,λe ρ τ ⟨h1,h2,h3⟩=>⟨_,_,h2,h3,by rw[h1];exact h⟩⟩
    ·cases h
  ·cases h
 |two X Y Z dec run outY outZ=>
  simp only[WX]at h;split at h
  ·rename_i p x hx
   cases p with
   |false=>cases h
   |true=>
    simp only[A5,bindO]at h;split at h
    ·rename_i s hs;refine⟨_,hu r J x s hx hs,λe ρ τ hq=> ?_⟩
     cases s with
     |inl y=>exact⟨_,_,hq.2.1,hq.2.2,by rw[hq.1];exact h⟩
     |inr z=>exact⟨_,_,hq.2.1,hq.2.2,by rw[hq.1];exact h⟩
    ·cases h
  ·cases h
def BodyOkS(P:Program)(N n0:Nat)(A B:Code)(u:QJ):Prop:=SaysU (Yq P N n0 A B) u
def Zj(P:Program)(n0:Nat)(E:Env)(yk:Option YI):Prop:=∀ps u,E.yb=some (ps,u)->∃y,yk=some y/\y.ps=ps/\y.n<=BIG/\(∀p∈ps.toList,p<y.n)/\BodyOkS P y.n n0 y.assign y.body u
theorem Zj.no{E:Env}{yk:Option YI}(h:E.yb=none):Zj P n0 E yk:=λ_ _ e=>by rw[h]at e;cases e
theorem KU{E:Env}{r:SR}{op:Op}(h:JV op=none):isYield E r op=none:=by
 unfold isYield;split
 ·rfl
 ·rw[h]
theorem U4(d:Nat)(w:Bool):∀(r:SR) (t:Nat),(SR.fix d w r).get t=(r.get t).map λx=>if t=d then ([],SV.c (.bo w)) else (fixT d w x.1,x.2)
 |[],t=>rfl
 |(k,tg,v)::r,t=>by
  simp only[SR.fix];split
  ·rename_i hk;have hk:k=d:=BQ hk;subst hk;simp only[SR.get];split
   ·rename_i ht;have ht:k=t:=BQ ht;subst ht;simp
   ·exact U4 k w r t
  ·rename_i hk;simp only[SR.get];split
   ·rename_i ht;have ht:k=t:=BQ ht;subst ht;have:¬k=d:=λe=>(by subst e;simp at hk);simp[this]
   ·exact U4 d w r t
theorem fix_isB{d:Nat}{w:Bool}{r:SR}{tg:Tg}(hd:r.get d=some (tg,.c (.bo w)))(t:Nat)(u:Bool):(SR.fix d w r).isB t u=r.isB t u:=by
 unfold SR.isB;rw[U4];by_cases e:t=d
 ·subst e;rw[hd];simp
 ·cases hg:r.get t with
  |none=>rfl
  |some x=>
   obtain⟨tg',v⟩:=x;simp only[AD,e,Af]
   cases v with
   |c y=>cases y<;>rfl
   |_=>rfl
theorem fix_holds{d:Nat}{w:Bool}{r:SR}{tg0:Tg}(hd:r.get d=some (tg0,.c (.bo w))):∀(tg:Tg),(SR.fix d w r).holds (fixT d w tg)=r.holds tg
 |[]=>rfl
 |(t,u)::l=>by
  have ih:=fix_holds hd l;have keep:(SR.fix d w r).holds ((t,u)::fixT d w l)=r.holds ((t,u)::l):=(by rw[SR.JK,SR.JK,ih,fix_isB hd]);have drop:t=d->u=w->(SR.fix d w r).holds (fixT d w l)=r.holds ((t,u)::l):=λe1 e2=>(by subst e1;subst e2;rw[ih,SR.JK];have:r.isB t u=true:=(by unfold SR.isB;rw[hd];cases u<;>rfl);simp[this]);simp only[fixT];split
  ·rename_i ht;have ht:t=d:=BQ ht;cases u<;>cases w
   ·exact drop ht rfl
   ·exact keep
   ·exact keep
   ·exact drop ht rfl
  ·exact keep
theorem fix_den{d:Nat}{w:Bool}{r:SR}{tg0:Tg}(hd:r.get d=some (tg0,.c (.bo w)))(ht0:r.holds tg0=true)(t:Nat)(u:AV)(h:(SR.fix d w r).den.get t=some u):r.den.get t=some u:=by
 obtain⟨tg,v,hg,rfl⟩:=Z5 h;rw[U4]at hg;by_cases e:t=d
 ·subst e;rw[hd]at hg;simp at hg;obtain⟨rfl,rfl⟩:=hg;rw[SR.den_get' hd ht0];rfl
 ·cases hr:r.get t with
  |none=>rw[hr]at hg;cases hg
  |some x=>obtain⟨tg',v'⟩:=x;rw[hr]at hg;simp[e]at hg;obtain⟨rfl,rfl⟩:=hg;rw[SR.QX hr,Zf,Zf,fix_holds hd]
theorem holds_one{r:SR}{d:Nat}{b w:Bool}(hd:r.get d=some ([],.c (.bo b)))(h:r.holds [(d,w)]=true):b=w:=by unfold SR.holds SR.isB at h;rw[hd]at h;cases w<;>simpa using h
theorem holds_one'{r:SR}{d:Nat}{b w:Bool}(hd:r.get d=some ([],.c (.bo b)))(h:r.holds [(d,w)]=false):b=!w:=by unfold SR.holds SR.isB at h;rw[hd]at h;cases w<;>simpa using h
theorem nrm_weak(op:Op)(J:SH):WH (SH.den J) (SH.den (nrm op J)):=by cases op<;>first|exact Jw _|exact WH.rfl'
theorem stepU_ok{E:Env}(hE:Z8 P E){β:Type}{r:SR}{J:SH}{o:Oper}{k:List Nat}{K:SR->SH->Option β}{b:β}(h:stepU E o.dst o.op k r J K=some b)(hdst:Jd N o.dst=true)
  {ι:Map} {w:World} {a:Act} (hh:HR ι (SH.den J) w) (hr:Qt N ι w r.den a) {next:Act->World->Prop} {Q:Exit->Act->World->Prop}
  (hn:∀(r':SR) (S':SH),K r' S'=some b->∀ρ τ I' w' a',QW N n0 ρ τ r'.den (SH.den S')->HR I' τ w'->Qt N I' w' ρ a'->Step ι (SH.den J) w I' τ w'->a'.defers=a.defers->next a' w'):o.wpIn (wr ro) 0 P a w next Q:=by
 unfold stepU at h;split at h
 ·rename_i f args hcall;obtain⟨as',ts,hop,rfl⟩:=Jz hcall;split at h
  ·rename_i gg as hcal;obtain⟨v,S',h1,h2⟩:=callS_ok hE h;split at h1
   ·rename_i r' hput;have hce:=JM (L:=[]) Qk.rfl' rfl hcal;refine ZA hh hr hdst (K:=λres τ=>∃u,res=some u/\WV u v.den/\WH τ (SH.den S')) ?_ λres τ I' w' a' hK hh' hr' hs' hd'=> ?_
    ·unfold JS;rw[hop];simp only;unfold XF at hce;split at hce
     ·rename_i fv as0 e1 e2
      ·try rw[e1,e2]
       try simp only[hce]
       exact h2.mono λu τ hu=>⟨u,rfl,hu⟩
     ·cases hce
    ·obtain⟨u,rfl,hu1,hu2⟩:=hK;refine hn _ _ h1 _ _ _ _ _ ?_ hh' hr' hs' hd';exact(QL (((YT (ρ:=r.den) (d:=o.dst) (a:=some u) (b:=some v.den) hu1).J5 (Qy (v:=some v) Qk.rfl' rfl hput)).J5 (Ji _ _)) hu2).tr (QL WR.rfl' (Jw _))
   ·cases h1
  ·cases h
 ·rename_i hcall;split at h
  ·rename_i p v S' hop;split at h
   ·rename_i r' hput
    cases p with
    |false=>cases h
    |true=>have hst:=UT hE.ty (L:=[]) Qk.rfl' rfl hcall hop;refine ZA hh hr hdst hst λres τ I' w' a' hK hh' hr' hs' hd'=> ?_;refine hn _ _ h _ _ _ _ _ ?_ hh' hr' hs' hd';refine(hK.ghost r.den o.dst n0).tr (QL ?_ (nrm_weak _ _));exact((Qy Qk.rfl' rfl hput).wr).J5 (Ji _ _)
   ·cases h
  ·cases h
theorem opsS_ok{E:Env}(hE:Z8 P E){yk:Option YI}(hyk:Zj P n0 E yk){β:Type}{ops:Array Oper}{I0:Map}{S0:Q1}{w0:World}{ds:DS}(h0:HR I0 S0 w0)(hn0:S0.length<=n0)(hY:∀y,yk=some y->ExOk y I0.ex w0/\∀p∈ds.S,p.1≠I0.ex.l){K:SR->SH->Option β}{b:β}:
  ∀(os:List Oper) (cs:List COp) (ks:List (List Nat)),Qf ops os ks=some cs->∀(k:Nat),os=ops.toList.drop k->∀{r:SR} {J:SH},YB E N cs r J K=some b->
   ∀{ι:Map} {w:World} {a:Act} {ms:List Deferred},HR ι (SH.den J) w->Qt N ι w r.den a->Step I0 S0 w0 ι (SH.den J) w->a.defers=ms++ds.l->Xe ds w0.heap.size w ms->
   wpOpsIn (wr ro) 0 P ops (UO N (λe ρ τ=>e=.normal/\∃r' S',WR ρ r'.den/\WH τ (SH.den S')/\K r' S'=some b) I0 S0 w0 ds) (List.range' k (ops.size - k)) a w
 |[],cs,ks,hst,k,hk,r,J,h,ι,w,a,ms,hh,hr,hs,hd,hm=>by simp only[Qf,X3]at hst;subst hst;have hlen:ops.toList.length<=k:=Bw.1 hk.symm;have:ops.size - k=0:=(by simp at hlen;omega);rw[this];simp only[YB]at h;exact⟨trivial,r.den,SH.den J,ι,ms,⟨rfl,r,SH.norm J,WR.rfl',Jw J,h⟩,hh,hr,hs,hd,hm⟩
 |o::os,cs,ks,hst,k,hk,r,J,h,ι,w,a,ms,hh,hr,hs,hd,hm=>by
  simp only[Qf]at hst;split at hst
  ·rename_i g cs' hg hcs;injection hst with hst;subst hst;have hlt:k<ops.size:=(by have:(ops.toList.drop k).length=os.length+1:=(by rw[<-hk];rfl);simp at this;omega);have hok:ops[k]? =some o:=(by have:(ops.toList.drop k)[0]? =some o:=(by rw[<-hk];rfl);simpa using this);have hos:os=ops.toList.drop (k+1):=(by have:(ops.toList.drop k).tail=os:=(by rw[<-hk];rfl);rw[<-this];simp);have hr':List.range' k (ops.size - k)=k::List.range' (k+1) (ops.size - (k+1)):=(by have:ops.size - k=(ops.size - (k+1))+1:=(by omega);rw[this,List.range'_succ]);rw[hr'];simp only[wpOpsIn,hok]
   -- behind an operation:another description,then the rest
   have rest:∀{r':SR} {S':SH},YB E N cs' r' S' K=some b->∀(ρ:Q3) (τ:Q1) {I':Map} {w':World} {a':Act} {ms':List Deferred},QW N n0 ρ τ r'.den (SH.den S')->HR I' τ w'->Qt N I' w' ρ a'->Step I0 S0 w0 I' τ w'->a'.defers=ms'++ds.l->Xe ds w0.heap.size w' ms'->
     wpOpsIn (wr ro) 0 P ops (UO N (λe ρ τ=>e=.normal/\∃r' S',WR ρ r'.den/\WH τ (SH.den S')/\K r' S'=some b) I0 S0 w0 ds) (List.range' (k+1) (ops.size - (k+1))) a' w':=λh ρ τ _ _ _ _ hgh hh hr hs hd hm=>by
    obtain⟨I2,h1,h2,h3⟩:=hgh _ _ _ hh hr;exact opsS_ok hE hyk h0 hn0 hY os cs' _ hcs (k+1) hos h h1 h2 (h3 I0 S0 w0 h0 hn0 hs) hd hm
   simp only[YB]at h;split at h
   ·cases h
   ·rename_i hdst;split at h
    ·cases h
    split at h
    ·
     have hgd:JP ops r.den o.guard=some true:=(by rw[<-Zb (all:=ops) (r:=r.den) (o:=o) hg];rfl);have hw:=Ka hr hgd;rw[hw];simp only[Ag];split at h
     ·rename_i f args hcall;obtain⟨as',ts,hop,rfl⟩:=Jz hcall;split at h
      ·rename_i gg as hcal;obtain⟨v,S',h1,h2⟩:=callS_ok hE h;split at h1
       ·rename_i r' hput;have hce:=JM (L:=[]) Qk.rfl' rfl hcal;refine ZA hh hr hdst (K:=λres τ=>∃u,res=some u/\WV u v.den/\WH τ (SH.den S')) ?_ λres τ I' w' a' hK hh' hr' hs' hd'=> ?_
        ·unfold JS;rw[hop];simp only;unfold XF at hce;split at hce
         ·rename_i fv as0 e1 e2
          ·try rw[e1,e2]
           try simp only[hce]
           exact h2.mono λu τ hu=>⟨u,rfl,hu⟩
         ·cases hce
        ·obtain⟨u,rfl,hu1,hu2⟩:=hK;refine rest h1 _ _ ?_ hh' hr' (hs.trans hs') (hd'.trans hd) (hm.step hh hs');exact(QL (((YT (ρ:=r.den) (d:=o.dst) (a:=some u) (b:=some v.den) hu1).J5 (Qy (v:=some v) Qk.rfl' rfl hput)).J5 (Ji _ _)) hu2).tr (QL WR.rfl' (Jw _))
       ·cases h1
      ·cases h
     ·rename_i hcall;split at h
      ·rename_i p v S' hop;split at h
       ·rename_i r' hput
        cases p with
        |false=>cases h
        |true=>have hst:=UT hE.ty (L:=[]) Qk.rfl' rfl hcall hop;refine ZA hh hr hdst hst λres τ I' w' a' hK hh' hr' hs' hd'=> ?_;refine rest h _ _ ?_ hh' hr' (hs.trans hs') (hd'.trans hd) (hm.step hh hs');refine(hK.ghost r.den o.dst n0).tr (QL ?_ (nrm_weak _ _));exact((Qy Qk.rfl' rfl hput).wr).J5 (Ji _ _)
       ·cases h
      ·cases h
    ·
     rename_i gd wnt;split at h
     ·rename_i tg b' hget;have hgd:=guardE_holds hg hget (ρ:=r.den) Qk.rfl';have hw:=Ka hr hgd;rw[hw];have skip:∀{r':SR} {v:SV},r.holds ((gd,wnt)::tg)=false->r.put o.dst ((gd,wnt)::tg) (some v)=some r'->YB E N cs' (r'.kill (ks.headD [])) J K=some b->
        wpOpsIn (wr ro) 0 P ops (UO N (λe ρ τ=>e=.normal/\∃r' S',WR ρ r'.den/\WH τ (SH.den S')/\K r' S'=some b) I0 S0 w0 ds) (List.range' (k+1) (ops.size - (k+1))) (a.put o.dst undef) w:=λhf hput h'=>by
       have hdf:(a.put o.dst undef).defers=a.defers:=(by cases o.dst<;>rfl);refine rest h' _ _ (QL ?_ WH.rfl') hh (hr.drop (Zx hdst)) hs (hdf.trans hd) hm;exact((UM Qk.rfl' hf hput).wr).J5 (Ji _ _)
      split at h
      ·split at h
       ·
        cases hf:r.holds [(gd,wnt)] with
        |true=>rw[hf]at h;simp only[A5]at h;simp only[Ag];have hg2:=(SR.X9 hget).2;have hbw:=holds_one hg2 hf;subst hbw;refine stepU_ok (n0:=n0) hE h hdst hh (hr.sub (fix_den hg2 rfl)) λr' S' h' ρ τ I' w' a' hgh hh' hr' hs' hd'=> ?_;exact rest h' ρ τ hgh hh' hr' (hs.trans hs') (hd'.trans hd) (hm.step hh hs')
        |false=>
         rw[hf]at h;simp only[A7]at h;simp only[AM,Af];have hg2:=(SR.X9 hget).2;have hbw:=holds_one' hg2 hf;subst hbw;split at h
         ·rename_i r' hput;have hf2:(SR.fix gd (!wnt) r).holds [(gd,wnt)]=false:=(by have:(SR.fix gd (!wnt) r).isB gd wnt=false:=(by rw[fix_isB hg2];simpa [SR.holds] using hf);simpa [SR.holds] using this);refine⟨λ_ _=>trivial,?_⟩;have hdf:(a.put o.dst undef).defers=a.defers:=(by cases o.dst<;>rfl);refine rest h _ _ (QL ?_ WH.rfl') hh ((hr.sub (fix_den hg2 rfl)).drop (Zx hdst)) hs (hdf.trans hd) hm;exact((UM Qk.rfl' hf2 hput).wr).J5 (Ji _ _)
         ·cases h
       split at h
       ·rename_i r' hput
        cases hf:r.holds ((gd,wnt)::_) with
        |true=>rw[hf]at h;cases h
        |false=>rw[hf]at h;simp only[AM,Af];exact⟨λ_ _=>trivial,skip hf hput h⟩
       ·cases h
      split at h
      ·rename_i f args hcall;obtain⟨as',ts,hop,rfl⟩:=Jz hcall;split at h
       ·rename_i gg as hcal;obtain⟨v,h1,h2⟩:=callG_ok hE h;split at h1
        ·rename_i r' hput
         cases hf:r.holds ((gd,wnt)::tg) with
         |false=>simp only[AM,Af];exact⟨λ_ _=>trivial,skip hf hput h1⟩
         |true=>
          simp only[Ag];have hce:=JM Qk.rfl' hf hcal;refine ZA hh hr hdst (K:=λres τ=>∃u,res=some u/\WV u v.den/\WH τ (SH.den J)) ?_ λres τ I' w' a' hK hh' hr' hs' hd'=> ?_
          ·unfold JS;rw[hop];simp only;unfold XF at hce;split at hce
           ·rename_i fv as0 e1 e2
            ·try rw[e1,e2]
             try simp only[hce]
             exact(h2 hf).mono λu τ hu=>⟨u,rfl,hu⟩
           ·cases hce
          ·obtain⟨u,rfl,hu1,hu2⟩:=hK;refine rest h1 _ _ ?_ hh' hr' (hs.trans hs') (hd'.trans hd) (hm.step hh hs');exact QL (((YT (ρ:=r.den) (d:=o.dst) (a:=some u) (b:=some v.den) hu1).J5 (Qy (v:=some v) Qk.rfl' hf hput)).J5 (Ji _ _)) hu2
        ·cases h1
       ·cases h
      ·rename_i hcall;split at h
       ·rename_i p v S' hq hop;have Hs:=Yx hq hop;subst Hs;split at h
        ·rename_i r' hput
         cases hf:r.holds ((gd,wnt)::tg) with
         |false=>rw[hf]at h;simp only[BX,CP,A5]at h;simp only[AM,Af];exact⟨λ_ _=>trivial,skip hf hput h⟩
         |true=>
          rw[hf]at h;simp only[Ag]
          cases p with
          |false=>cases h
          |true=>have hst:=UT hE.ty Qk.rfl' hf hcall hop;refine ZA hh hr hdst hst λres τ I' w' a' hK hh' hr' hs' hd'=> ?_;refine rest h _ _ ?_ hh' hr' (hs.trans hs') (hd'.trans hd) (hm.step hh hs');refine(hK.ghost r.den o.dst n0).tr (QL ?_ WH.rfl');exact((Qy (v:=some v) Qk.rfl' hf hput).wr).J5 (Ji _ _)
        ·cases h
       ·cases h
     ·cases h
  ·cases hst
end
end Go.Abs
