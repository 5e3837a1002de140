/- A part of the proof. -/
import Derived.Test.YtddaobhpffpmoaaSR7QMs
set_option linter.all false
namespace Go.Abs
variable [Gl]
theorem eqB{a b:Nat}(h:Nat.beq a b=true):a=b:=C4 h
theorem leB'{a b:Nat}(h:Nat.ble a b=true):a<=b:=Au h
theorem ltB{a b:Nat}(h:Nat.blt a b=true):a<b:=Au h
theorem U4{t:T}{c:SC}(h:VH t=some c):c.den=.t t:=by unfold VH at h;split at h<;>first|(injection h with h;subst h;rfl)|cases h
theorem VG:∀{z:List T} {cs:List SC},JL VH z=some cs->cs.map SC.den=z.map .t
 |[],cs,h=>by simp only[JL,A0]at h;subst h;rfl
 |t::z,cs,h=>by
  simp only[JL]at h;split at h
  ·rename_i y ys h1 h2;injection h with h;subst h;simp[U4 h1,VG h2]
  ·cases h
theorem Ly.YZ:∀(c:Ly) (x:c.ty),(c.view x).map SC.den=(c.trees x).map .t
 |.int _,_=>rfl
 |.bool,_=>rfl
 |.str,_=>rfl
 |.sl _,_=>rfl
 |.pair a b,x=>by simp only[Ly.view,Ly.trees,AZ,a.YZ,b.YZ]
theorem Qk{a b:Ly}(h:a.beq b=true)(xs:List a.ty):(Ly.JS h xs).flatMap b.trees=xs.flatMap a.trees:=by have e:=Ly.beq_eq h;subst e;rfl
theorem Qz{a b:Ly}(h:a.beq b=true)(xs:List a.ty):(Ly.JS h xs).length=xs.length:=by have e:=Ly.beq_eq h;subst e;rfl
theorem Jr{a b:Ly}(h:a.beq b=true):a.size=b.size:=by rw[Ly.beq_eq h]
theorem QW(c:Ly):∀(xs:List c.ty),(xs.flatMap c.trees).length=xs.length*c.size
 |[]=>by simp
 |x::xs=>by simp only[B5,Ab,c.QC,QW c xs,Ar,BS];omega
theorem XO(c:Ly):∀(n:Nat) (xs:List c.ty),(xs.flatMap c.trees).drop (n*c.size)=(xs.drop n).flatMap c.trees
 |0,_=>by simp
 |n+1,[]=>by simp
 |n+1,x::xs=>by rw[B5,List.drop_succ_cons,<-XO c n xs,C1,c.QC];have h1:(n+1)*c.size - c.size=n*c.size:=(by rw[BS];omega);have h2:(c.trees x).drop ((n+1)*c.size)=[]:=Bo (by rw[c.QC,BS];omega);rw[h1,h2,BY]
theorem Xm(c:Ly):∀(n:Nat) (xs:List c.ty),(xs.flatMap c.trees).take (n*c.size)=(xs.take n).flatMap c.trees
 |0,_=>by simp
 |n+1,[]=>by simp
 |n+1,x::xs=>by rw[B5,List.take_succ_cons,B5,<-Xm c n xs,CX,c.QC];have h1:(n+1)*c.size - c.size=n*c.size:=(by rw[BS];omega);have h2:(c.trees x).take ((n+1)*c.size)=c.trees x:=AS (by rw[c.QC,BS];omega);rw[h1,h2]
theorem drop_at{α:Type}{xs:List α}{k:Nat}{d:α}(h:k<xs.length):xs.drop k=(xs[k]?).getD d::xs.drop (k+1):=by rw[List.drop_eq_getElem_cons h];simp[h]
theorem Ux(c:Ly){xs:List c.ty}{k:Nat}(h:k<xs.length):(xs.flatMap c.trees).drop (k*c.size)=c.trees ((xs[k]?).getD c.XJ)++(xs.drop (k+1)).flatMap c.trees:=by rw[XO,drop_at (d:=c.XJ) h,B5]
theorem Ly.UM{ex:Bool}:∀{c:Ly} {l:List SC} {x:c.ty},c.enc ex l=some x->WL (l.map SC.den) ((c.trees x).map .t)/\(ex=true->l.map SC.den=(c.trees x).map .t)
 |.int k,l,x,h=>by
  simp only[Ly.enc,encInt]at h;split at h
  ·split at h
   ·rename_i hk;injection h with h;subst h;rw[X7 hk];exact⟨WL.rfl',λ_=>rfl⟩
   ·cases h
  ·cases h
 |.bool,l,x,h=>by
  simp only[Ly.enc,encBool]at h;split at h
  ·injection h with h;subst h;exact⟨WL.rfl',λ_=>rfl⟩
  ·cases h
 |.str,l,x,h=>by
  simp only[Ly.enc,encStr]at h;split at h
  ·injection h with h;subst h;exact⟨WL.rfl',λ_=>rfl⟩
  ·cases h
 |.sl c,l,x,h=>by
  simp only[Ly.enc,encSl]at h;split at h
  ·rename_i c' xs cap;split at h
   ·rename_i hb;have key:∀y,y=Ly.JS hb xs->WL ([SC.arr c' xs cap].map SC.den) (((Ly.sl c).trees y).map .t):=λy hy=>(by subst hy;simp only[AQ,Ba,SC.den,Ly.trees,Qk,Qz];exact⟨.t (.cap _ _ _),trivial⟩);split at h
    ·injection h with h;refine⟨key x h.symm,λ_=> ?_⟩;subst h;simp only[AQ,Ba,SC.den,Ly.trees,Qk,Qz]
    ·split at h
     ·cases h
     ·injection h with h;exact⟨key x h.symm,λhex=>by cases hex⟩
   ·cases h
  ·split at h
   ·cases h
   ·injection h with h;subst h;exact⟨⟨.t (.cap _ _ _),trivial⟩,λhex=>by cases hex⟩
  ·cases h
 |.pair a b,l,x,h=>by
  simp only[Ly.enc]at h;split at h
  ·rename_i y z h1 h2;injection h with h;subst h;obtain⟨h3,h4⟩:=Ly.UM h1;obtain⟨h5,h6⟩:=Ly.UM h2;have e:l.map SC.den=(l.take a.size).map SC.den++(l.drop a.size).map SC.den:=(by rw[<-AZ,CP]);refine⟨?_,λhex=> ?_⟩
   ·rw[e];simp only[Ly.trees,AZ];exact h3.append h5
   ·rw[e,h4 hex,h6 hex];simp only[Ly.trees,AZ]
  ·cases h
theorem Wk{ex:Bool}{c:Ly}:∀{n:Nat} {l:List SC} {xs:List c.ty},encL ex c n l=some xs->xs.length=n/\WL (l.map SC.den) ((xs.flatMap c.trees).map .t)/\(ex=true->l.map SC.den=(xs.flatMap c.trees).map .t)
 |0,[],xs,h=>by simp only[encL,A0]at h;subst h;exact⟨rfl,WL.rfl',λ_=>rfl⟩
 |0,_::_,xs,h=>by cases h
 |n+1,l,xs,h=>by
  simp only[encL]at h;split at h
  ·rename_i y ys h1 h2;injection h with h;subst h;obtain⟨h3,h4⟩:=Ly.UM h1;obtain⟨h5,h6,h7⟩:=Wk h2;have e:l.map SC.den=(l.take c.size).map SC.den++(l.drop c.size).map SC.den:=(by rw[<-AZ,CP]);refine⟨by simp[h5],?_,λhex=> ?_⟩
   ·rw[e,B5,AZ];exact h3.append h6
   ·rw[e,B5,AZ,h4 hex,h7 hex]
  ·cases h
theorem eqTg_eq:∀{a b:Tg},eqTg a b=true->a=b
 |[],[],_=>rfl
 |[],_::_,h=>by cases h
 |_::_,[],h=>by cases h
 |(a,x)::l,(b,y)::m,h=>by
  simp only[eqTg]at h;split at h
  ·rename_i h1;rw[eqB h1];cases x<;>cases y<;>simp only at h<;>first|(rw[eqTg_eq h])|cases h
  ·cases h
theorem SR.JW{r:SR}{x:Nat×Bool}{l:Tg}:r.holds (x::l)=(r.holds l&&r.isB x.1 x.2):=by
 obtain⟨t,w⟩:=x
 cases l with
 |nil=>simp[SR.holds]
 |cons y l=>rfl
theorem suf_holds{r:SR}{a:Tg}:∀{L:Tg},sufB a L=true->r.holds L=true->r.holds a=true
 |[],h,hL=>by
  simp only[sufB]at h;split at h
  ·rfl
  ·cases h
 |x::L,h,hL=>by
  simp only[sufB]at h;split at h
  ·rfl
  ·split at h
   ·rename_i he;rw[eqTg_eq he];exact hL
   ·rw[SR.JW,AC]at hL;exact suf_holds h hL.1
theorem SR.QT{r:SR}{t:Nat}{tg:Tg}{v:SV}(h:r.get t=some (tg,v)):r.den.get t=some (r.dv tg v):=by
 unfold SR.den
 suffices∀(l:SR),l.get t=some (tg,v)->Q0.get (l.map r.den1) t=some (r.dv tg v) from this r h
 intro l hl
 induction l with
 |nil=>simp[SR.get]at hl
 |cons p l ih=>
  obtain⟨k,q⟩:=p;simp only[SR.get]at hl;simp only[AQ,SR.den1,Q0.get];split at hl
  ·rename_i hk;rw[AB (eqB hk)];injection hl with hl;subst hl;rfl
  ·rename_i hk;rw[AE (λe=>by subst e;simp at hk)];exact ih hl
theorem SR.den_get'{r:SR}{t:Nat}{tg:Tg}{v:SV}(h:r.get t=some (tg,v))(hh:r.holds tg=true):r.den.get t=some v.den:=by
 rw[SR.QT h]
 cases tg with
 |nil=>rfl
 |cons x l=>simp only[SR.dv,hh,A7]
theorem SR.XU{r:SR}{t:Nat}{x:Tg×SV}(h:r.gget t=some x):t<BIG/\r.get t=some x:=by
 unfold SR.gget at h;split at h
 ·cases h
 ·rename_i hb;refine⟨?_,h⟩;apply Ax;intro hn;rw[Nat.ble_eq_true_of_le (by omega)]at hb;cases hb
theorem SR.den_none{r:SR}{t:Nat}(h:r.get t=none):r.den.get t=none:=by
 unfold SR.den
 suffices∀(l:SR),l.get t=none->Q0.get (l.map r.den1) t=none from this r h
 intro l hl
 induction l with
 |nil=>rfl
 |cons p l ih=>
  obtain⟨k,q⟩:=p;simp only[SR.get]at hl;simp only[AQ,SR.den1,Q0.get];split at hl
  ·cases hl
  ·rename_i hk;rw[AE (λe=>by subst e;simp at hk)];exact ih hl
section
variable {r:SR}{L:Tg}{ρ:Q0}
theorem constSV_den{v:Value}{x:SV}(h:constSV v=some x):Wq v=some x.den:=by
 unfold constSV at h;split at h
 ·rename_i t ht;rw[A2]at h;obtain⟨c,h1,rfl⟩:=h;rw[ht];simp[SV.den,U4 h1]
 ·rename_i cs hcs;rw[A2]at h;obtain⟨ys,h1,rfl⟩:=h;rw[hcs];have:∀{cs:List Cell} {ys:List SC},JL (fun|.t t=>VH t|_=>none) cs=some ys->ys.map SC.den=cs:=λ{cs}=>by
   induction cs with
   |nil=>intro ys h;simp only[JL,A0]at h;subst h;rfl
   |cons c cs ih=>
    intro ys h;simp only[JL]at h;split at h
    ·rename_i y ys' h2 h3;injection h with h;subst h
     cases c with
     |t t=>simp[U4 h2,ih h3]
     |_=>cases h2
    ·cases h
  simp[SV.den,this h1]
 ·cases h
theorem QY(Hr:Qm ρ r.den)(hL:r.holds L=true){x:Operand}{v:SV}(h:evS r L x=some v):ev ρ x=some v.den:=by
 cases x with
 |tmp t=>
  simp only[evS,SR.at]at h;split at h
  ·rename_i tg v' h1;split at h
   ·rename_i hs;injection h with h;subst h;exact Q0.at_of (Hr _ _ (SR.den_get' (SR.XU h1).2 (suf_holds hs hL))) (SR.XU h1).1
   ·cases h
  ·cases h
 |const c=>exact constSV_den h
 |func f=>simp only[evS,A0]at h;subst h;rfl
 |global g=>
  simp only[evS]at h;split at h
  ·rename_i c x hg;injection h with h;subst h;simp only[ev,hg,SV.den,SC.den,An]
  ·cases h
theorem Zg(Hr:Qm ρ r.den)(hL:r.holds L=true):∀{xs:List Operand} {vs:List SV},Wj r L xs=some vs->evl ρ xs=some (vs.map SV.den)
 |[],vs,h=>by simp only[Wj,A0]at h;subst h;rfl
 |x::xs,vs,h=>by
  simp only[Wj]at h;split at h
  ·rename_i v vs' h1 h2;injection h with h;subst h;simp[evl,QY Hr hL h1,Zg Hr hL h2]
  ·cases h
theorem evsS_ok(Hr:Qm ρ r.den)(hL:r.holds L=true):∀{xs:List (Nat×Operand)} {vs:List (Nat×SV)},evsS r L xs=some vs->evs ρ xs=some (vs.map λx=>(x.1,x.2.den))
 |[],vs,h=>by simp only[evsS,A0]at h;subst h;rfl
 |(i,x)::xs,vs,h=>by
  simp only[evsS]at h;split at h
  ·rename_i v vs' h1 h2;injection h with h;subst h;simp[evs,QY Hr hL h1,evsS_ok Hr hL h2]
  ·cases h
theorem evoS_ok(Hr:Qm ρ r.den)(hL:r.holds L=true){x:Option Operand}{v:Option SV}(h:evoS r L x=some v):evo ρ x=some (v.map SV.den):=by
 cases x with
 |none=>simp only[evoS,A0]at h;subst h;rfl
 |some x=>simp only[evoS,A2]at h;obtain⟨u,h1,rfl⟩:=h;simp[evo,QY Hr hL h1]
end
theorem SV.XW(x:SC):(SV.c x).den=.c x.den:=rfl
theorem SC.den_bo(x:Bool):(SC.bo x).den=.t (.bool x):=rfl
theorem SC.den_ptr(id off:Nat):(SC.ptr id off).den=.ptr ⟨id,0,off⟩:=rfl
theorem SC.den_fn(f:FuncId):(SC.fn f).den=.t (.fn f []):=rfl
theorem SC.den_clo(f:FuncId)(rs:List Ref):(SC.clo f rs).den=.clo f rs:=rfl
theorem SV.Jb(v:SV):v.den.cells=v.cells.map SC.den:=by cases v<;>rfl
theorem SV.Vn(v:SV):v.den.flat=v.flat:=by cases v<;>rfl
end Go.Abs
namespace Go.Abs
variable [Gl]
structure Z1(P:Program)(ty:TyT):Prop where
 ok:∀t i c,ty t=some (i,c)->tinf P t=some i
 lay:∀t i c,ty t=some (i,some c)->i.size=c.size/\∃z,i.zero=some z/\WL (z.map .t) ((c.trees c.XJ).map .t)
theorem SH.QT{O:SH}{id:Nat}{o:SO}(h:O[id]? =some o):(SH.den O)[id]? =some o.den:=by simp[SH.den,h]
theorem SH.QE(O:SH):(SH.den O).length=O.length:=by simp[SH.den]
theorem SH.JJ(O:SH)(id:Nat)(o:SO):SH.den (O.set id o)=(SH.den O).set id o.den:=by simp[SH.den,List.map_set]
theorem SH.Jp(O:SH)(o:SO):SH.den (O++[o])=SH.den O++[o.den]:=by simp[SH.den]
theorem SH.JB{O:SH}{r:Ref}{o:SO}(h:O[r.id]? =some o)(he:o.den.ep=r.ep):(SH.den O).at? r=some o.den:=by simp only[Q1.at?,SH.QT h];rw[AB he]
theorem ZI(cs:List SC)(off:Nat)(xs:List SC):(YB cs off xs).map SC.den=QX (cs.map SC.den) off (xs.map SC.den):=by simp[YB,QX,BQ,BE]
section
variable {P:Program}{ty:TyT}{O:SH}
theorem Zy{i:Qp}{cs:List SC}{v:SV}(h:Zn i cs=some v):Z2 i (cs.map SC.den)=some v.den:=by
 unfold Zn at h;unfold Z2;split at h
 ·rename_i hi;split at h
  ·rename_i hl;injection h with h;subst h;simp[hi,leB' hl,SV.den,BQ]
  ·cases h
 ·rename_i hi;rw[AE (by simp[hi])]
  cases cs with
  |nil=>cases h
  |cons c cs=>injection h with h;subst h;rfl
theorem loadC_more{i:Qp}{cs ds:List Cell}(hi:0<i.size\/i.isAgg=true)(hl:i.size<=cs.length)(h0:i.isAgg=false->i.size=1):Z2 i (cs++ds)=Z2 i cs:=by
 unfold Z2;by_cases ha:i.isAgg=true
 ·simp only[ha,Ai];rw[AB (by simp;omega),AB hl,List.take_append_of_le_length hl]
 ·simp only[ha,AP,Af];have h1:=h0 (by simpa using ha)
  cases cs with
  |nil=>simp at hl;omega
  |cons c cs=>rfl
theorem Uc{i:Qp}{cs:List SC}{v:SV}(h:Zn i cs=some v){ds:List Cell}:Z2 i (cs.map SC.den++ds)=some v.den:=by
 have h':=Zy h;unfold Zn at h;split at h
 ·rename_i ha;split at h
  ·rename_i hl;rw[loadC_more (.inr ha) (by simpa using leB' hl) (by simp[ha])];exact h'
  ·cases h
 ·rename_i ha
  cases cs with
  |nil=>cases h
  |cons c cs=>simpa [Z2,ha] using h'
theorem Vv(cs:List SC)(n:Nat):(cs.map SC.den).drop n=(cs.drop n).map SC.den:=by simp
theorem Wz(c:Ly)(x:c.ty)(off:Nat):((c.trees x).drop off).map Cell.t=((c.view x).drop off).map SC.den:=by rw[BE,<-c.YZ,<-BE]
theorem loadS_ok{i:Qp}{a:SC}{v:SV}(h:loadS O i a=some (true,v)):ZQ (SH.den O) i (.c a.den)=some v.den:=by
 unfold loadS at h;split at h
 ·
  rename_i id off;split at h
  ·rename_i cs es ep ho;split at h
   ·rename_i he;rw[A2]at h;obtain⟨u,h1,h2⟩:=h;injection h2 with _ h2;subst h2;have hat:(SH.den O).at? ⟨id,0,off⟩=some (SO.st cs es ep).den:=SH.JB ho (eqB he);simp only[SC.den,ZQ,hat];show Z2 i ((cs.map SC.den).drop off)=_;rw[Vv];exact Zy h1
   ·cases h
  ·cases h
 ·
  rename_i id ep es k off;split at h
  ·rename_i c xs ep' ho;split at h
   ·rename_i he hs;split at h
    ·rename_i hb;rw[A2]at h;obtain⟨u,h1,h2⟩:=h;injection h2 with h3 h2;subst h2;have hk:k<xs.length:=(by simpa using h3);have hat:(SH.den O).at? ⟨id,ep,k*es+off⟩=some (SO.arr c xs ep').den:=SH.JB ho (eqB he);simp only[SC.den,ZQ,hat];show Z2 i (((xs.flatMap c.trees).map Cell.t).drop (k*es+off))=_;have hb':=leB' hb;rw[eqB hs,<-CW,<-BE,Ux c hk,<-BE,CH (by rw[c.QC];omega),AZ,Wz];exact Uc h1
    ·cases h
   ·cases h
  ·rename_i cs es' ep' ho;split at h
   ·rename_i he hs;rw[A2]at h;obtain⟨u,h1,h2⟩:=h;injection h2 with _ h2;subst h2;have hat:(SH.den O).at? ⟨id,ep,k*es+off⟩=some (SO.st cs es' ep').den:=SH.JB ho (eqB he);simp only[SC.den,ZQ,hat];show Z2 i ((cs.map SC.den).drop _)=_;rw[Vv];exact Zy h1
   ·cases h
  ·rename_i c xs cs ys ep' ho;split at h
   ·rename_i he hs hb;rw[A2]at h;obtain⟨u,h1,h2⟩:=h;injection h2 with hk h2;subst h2;have hk:k=xs.length:=(by simpa [eqN] using hk);have hat:(SH.den O).at? ⟨id,ep,k*es+off⟩=some (SO.opn c xs cs ys ep').den:=SH.JB ho (eqB he);simp only[SC.den,ZQ,hat];show Z2 i (((xs.flatMap c.trees).map Cell.t++(cs.map SC.den++(ys.flatMap c.trees).map Cell.t)).drop _)=_;have hl:((xs.flatMap c.trees).map Cell.t).length=k*es:=(by rw[AG,QW,hk,eqB hs]);rw[C1,hl,Bo (by rw[hl];omega),BY,show k*es+off - k*es=off by omega,CH (by rw[AG];have:=leB' hb;omega),Vv];have h3:=Zy h1;have hb':=leB' hb;unfold Z2 at h3⊢;split
    ·rename_i hag;rw[AB hag]at h3;split at h3
     ·rename_i hle;rw[AB (by rw[Ab];omega),List.take_append_of_le_length hle];exact h3
     ·cases h3
    ·rename_i hag;rw[AE hag]at h3;split at h3
     ·rename_i d ds hd;rw[hd];exact h3
     ·cases h3
   ·cases h
  ·cases h
 ·
  rename_i c x off;split at h
  ·rw[A2]at h;obtain⟨u,h1,h2⟩:=h;injection h2 with _ h2;subst h2;simp only[SC.den,ZQ];rw[Wz];exact Zy h1
  ·cases h
 ·
  rename_i c xs k off;split at h
  ·rename_i hb;rw[A2]at h;obtain⟨u,h1,h2⟩:=h;injection h2 with _ h2;subst h2;have hb':=leB' hb;simp only[SC.den,ZQ];rw[CH (by rw[c.QC];omega),AZ,Wz];exact Uc h1
  ·cases h
 ·cases h
theorem Vm(c:Ly)(y:c.ty):∀(xs:List c.ty) (k:Nat),k<xs.length->((xs.set k y).flatMap c.trees)=(xs.flatMap c.trees).take (k*c.size)++c.trees y++(xs.flatMap c.trees).drop (k*c.size+c.size)
 |x::xs,0,_=>by simp only[List.set_cons_zero,B5,B6,List.take_zero,BY,Ac];rw[C1,c.QC,Bo (by rw[c.QC];exact A9 _)];simp
 |x::xs,k+1,h=>by have ih:=Vm c y xs k (by simpa using h);simp only[List.set_cons_succ,B5,ih];rw[CX,C1,c.QC];have h1:(k+1)*c.size - c.size=k*c.size:=(by rw[BS];omega);have h2:(k+1)*c.size+c.size - c.size=k*c.size+c.size:=(by rw[BS];omega);have h3:(c.trees x).take ((k+1)*c.size)=c.trees x:=AS (by rw[c.QC,BS];omega);have h4:(c.trees x).drop ((k+1)*c.size+c.size)=[]:=Bo (by rw[c.QC,BS];omega);rw[h1,h2,h3,h4];simp[Aw]
theorem WL.take{a b:List Cell}(h:WL a b)(n:Nat):WL (a.take n) (b.take n):=
 WL.of_get (by simp[h.length]) λi hi hi'=>by simp only[List.getElem_take];exact h.get _ _
theorem WL.drop{a b:List Cell}(h:WL a b)(n:Nat):WL (a.drop n) (b.drop n):=
 WL.of_get (by simp[h.length]) λi hi hi'=>by simp only[List.getElem_drop];exact h.get _ _
theorem Yb{c:Ly}{xs:List c.ty}{k off:Nat}(hk:k<xs.length){vs:List Cell}(hb:off+vs.length<=c.size):
  QX ((xs.flatMap c.trees).map .t) (k*c.size+off) vs=((xs.flatMap c.trees).map .t).take (k*c.size)++QX ((c.trees ((xs[k]?).getD c.XJ)).map .t) off vs++((xs.flatMap c.trees).map .t).drop (k*c.size+c.size):=by
 have hlen:((xs.flatMap c.trees).map Cell.t).length=xs.length*c.size:=by rw[AG,QW]
 have hle:(k+1)*c.size<=xs.length*c.size:=Ae _ hk;rw[BS]at hle;have hsplit:(xs.flatMap c.trees).map Cell.t=((xs.flatMap c.trees).map Cell.t).take (k*c.size)++((c.trees ((xs[k]?).getD c.XJ)).map Cell.t++((xs.drop (k+1)).flatMap c.trees).map Cell.t):=by rw[<-AZ,<-Ux c hk,BE,CP]
 have htk:(((xs.flatMap c.trees).map Cell.t).take (k*c.size)).length=k*c.size:=by rw[Bb,hlen];omega
 have htl:((c.trees ((xs[k]?).getD c.XJ)).map Cell.t).length=c.size:=by rw[AG,c.QC]
 have hrest:((xs.drop (k+1)).flatMap c.trees).map Cell.t=((xs.flatMap c.trees).map Cell.t).drop (k*c.size+c.size):=by rw[<-BS,<-BE,XO]
 generalize ((xs.flatMap c.trees).map Cell.t).take (k*c.size)=A at hsplit htk⊢;rw[<-hrest];generalize (c.trees ((xs[k]?).getD c.XJ)).map Cell.t=B at hsplit htl⊢;generalize ((xs.drop (k+1)).flatMap c.trees).map Cell.t=C at hsplit⊢;rw[hsplit];unfold QX;rw[CX,C1,htk,CX,C1,htl];have e1:k*c.size+off - k*c.size=off:=by omega
 have e2:k*c.size+off+vs.length - k*c.size=off+vs.length:=by omega
 have e3:off - c.size=0:=by omega
 have e4:off+vs.length - c.size=0:=by omega
 rw[e1,e2,e3,e4,AS (by omega),Bo (by omega:A.length<=k*c.size+off+vs.length)];simp[Aw]
theorem Kc{cs vs:List Cell}(h:vs.length=cs.length):QX cs 0 vs=vs:=by simp[QX,h]
theorem splice_mid{A B C vs:List Cell}{k off:Nat}(hA:A.length=k)(hb:off+vs.length<=B.length):QX (A++(B++C)) (k+off) vs=A++(QX B off vs++C):=by
 unfold QX;rw[CX,C1,hA,CX,C1];have e1:k+off - k=off:=by omega
 have e2:k+off+vs.length - k=off+vs.length:=by omega
 have e3:off - B.length=0:=by omega
 have e4:off+vs.length - B.length=0:=by omega
 rw[e1,e2,e3,e4,AS (by omega),Bo (by omega:A.length<=k+off+vs.length)];simp[Aw]
inductive Out(ex:Bool)(O:Q1):Option AV->Q1->Option AV->Q1->Prop
 |Xf {a b:Option AV} {τ T':Q1}:WVO a b->WH τ T'->(ex=true->a=b/\τ=T')->Out ex O a τ b T'
 |own (es:Nat):ex=false->Out ex O (some (.c (.t (.imm [] 0 (some 0))))) O (some (.c (.sl ⟨O.length,0,0⟩ 0 none))) (O++[{ cs:=[],es:=es }])
theorem Out.same{ex:Bool}{O:Q1}{a:Option AV}{τ:Q1}:Out ex O a τ a τ:=.Xf WVO.rfl' WH.rfl' λ_=>⟨rfl,rfl⟩
theorem storeS_ok{ex:Bool}{i:Qp}{a:SC}{v:SV}{A':SH}(h:storeS ex O i a v=some (true,A')):
  ∃τ,Xg (SH.den O) i (.c a.den) v.den=some τ/\WH τ (SH.den A')/\(ex=true->τ=SH.den A'):=by
 unfold storeS at h;split at h
 ·rename_i hf hc;have hf':v.den.flat=true:=(by rw[SV.Vn];exact hf);have hc':v.den.cells.length=i.size:=(by rw[SV.Jb,AG];exact eqB hc);split at h
  ·rename_i id off;split at h
   ·rename_i cs es ep ho;split at h
    ·rename_i he hb;injection h with h;injection h with _ h;subst h;have hat:(SH.den O).at? ⟨id,0,off⟩=some (SO.st cs es ep).den:=SH.JB ho (eqB he);refine⟨_,?_,WH.rfl',λ_=>rfl⟩;simp only[SC.den,Xg,hat];rw[AB ⟨hf',hc',by simpa [SO.den] using leB' hb⟩,SH.JJ];simp[SO.den,ZI,SV.Jb]
    ·cases h
   ·cases h
  ·rename_i id ep es k off;split at h
   ·rename_i c xs ep' ho;split at h
    ·rename_i he hs hb;have hat:(SH.den O).at? ⟨id,ep,k*es+off⟩=some (SO.arr c xs ep').den:=SH.JB ho (eqB he);have hb':=leB' hb;have hlen:((xs.flatMap c.trees).map Cell.t).length=xs.length*c.size:=(by rw[AG,QW]);have main:∀(hk:k<xs.length) (y:c.ty) (l:List SC),QX ((c.trees ((xs[k]?).getD c.XJ)).map Cell.t) off v.den.cells=l.map SC.den->c.enc ex l=some y->
       ∃τ,Xg (SH.den O) i (.c (SC.el id ep es k off).den) v.den=some τ/\WH τ (SH.den (O.set id (.arr c (xs.set k y) ep')))/\(ex=true->τ=SH.den (O.set id (.arr c (xs.set k y) ep'))):=λhk y l hl hy=>by
      have hle:(k+1)*c.size<=xs.length*c.size:=Ae _ hk;rw[BS]at hle;obtain⟨hw,hx⟩:=Ly.UM hy;refine⟨_,by
       simp only[SC.den,Xg,hat];rw[AB ⟨hf',hc',by simp only[SO.den,hlen,eqB hs];omega⟩],?_,?_⟩
      all_goals simp only[SH.JJ,SO.den]
      all_goals rw[eqB hs,Yb hk (by rw[hc'];omega),hl]
      ·refine WH.set WH.rfl' ⟨?_,rfl,rfl⟩;show WL _ (((xs.set k y).flatMap c.trees).map Cell.t);rw[Vm c y xs k hk,AZ,AZ,BQ,BE];exact(WL.rfl'.append hw).append WL.rfl'
      ·intro hex;congr 1;show _=({ cs:=((xs.set k y).flatMap c.trees).map Cell.t,es:=c.size,ep:=ep' }:Obj);rw[Vm c y xs k hk,AZ,AZ,BQ,BE,hx hex]
     split at h
     ·rename_i ho0 hsz;split at h
      ·rename_i y hy;injection h with h;injection h with h1 h;subst h;have hk:k<xs.length:=(by simpa using h1);exact main hk y v.cells (by rw[eqB ho0,SV.Jb,Kc (by rw[AG,AG,c.QC,<-eqB hsz];exact eqB hc)]) hy
      ·injection h with h;injection h with h1 h;subst h;have hk:k<xs.length:=(by simpa using h1);have hle:(k+1)*c.size<=xs.length*c.size:=Ae _ hk;rw[BS]at hle;refine⟨_,by
        simp only[SC.den,Xg,hat];rw[AB ⟨hf',hc',by simp only[SO.den,hlen,eqB hs];omega⟩],?_⟩
       have e:({ (SO.arr c xs ep').den with cs:=QX (SO.arr c xs ep').den.cs (k*es+off) v.den.cells }:Obj)=(SO.opn c (xs.take k) v.cells (xs.drop (k+1)) ep').den:=by
        simp only[SO.den];rw[eqB hs,Yb hk (by rw[hc'];omega),eqB ho0,Kc (by rw[hc',AG,c.QC,eqB hsz]),SV.Jb,Aw];congr 2
        ·rw[<-BQ,Xm]
        ·rw[<-BE,<-BS,<-XO]
       rw[SH.JJ];exact⟨by rw[e];exact WH.rfl',λ_=>by rw[e]⟩
     ·split at h
      ·rename_i y hy;injection h with h;injection h with h1 h;subst h;have hk:k<xs.length:=(by simpa using h1);exact main hk y _ (by rw[ZI,SV.Jb,c.YZ]) hy
      ·cases h
    ·cases h
   ·rename_i cs es' ep' ho;split at h
    ·rename_i he hs hb;injection h with h;injection h with _ h;subst h;have hat:(SH.den O).at? ⟨id,ep,k*es+off⟩=some (SO.st cs es' ep').den:=SH.JB ho (eqB he);refine⟨_,?_,WH.rfl',λ_=>rfl⟩;simp only[SC.den,Xg,hat];rw[AB ⟨hf',hc',by simpa [SO.den] using leB' hb⟩,SH.JJ];simp[SO.den,ZI,SV.Jb]
    ·cases h
   ·rename_i c xs cs ys ep' ho;split at h
    ·rename_i he hs hb;injection h with h;injection h with hk h;subst h;have hk:k=xs.length:=(by simpa [eqN] using hk);have hat:(SH.den O).at? ⟨id,ep,k*es+off⟩=some (SO.opn c xs cs ys ep').den:=SH.JB ho (eqB he);have hl:((xs.flatMap c.trees).map Cell.t).length=k*es:=(by rw[AG,QW,hk,eqB hs]);have hb':=leB' hb;refine⟨_,?_,WH.rfl',λ_=>rfl⟩;simp only[SC.den,Xg,hat];rw[AB ⟨hf',hc',by simp only[SO.den,Ab,hl,AG];omega⟩,SH.JJ];congr 2;simp only[SO.den];congr 1;rw[splice_mid (A:=(xs.flatMap c.trees).map Cell.t) hl (by rw[AG,hc'];omega),ZI,SV.Jb]
    ·cases h
   ·cases h
  ·cases h
 ·cases h
end
end Go.Abs
namespace Go.Abs
variable [Gl]
section
variable {P:Program}{ty:TyT}{O:SH}
theorem intS_ok{op:BinOp}{k:IntKind}{x y:Int}{c:SC}(h:intS op k x y=some (true,c)):(intE op k x y).map .t=some c.den:=by
 unfold intS at h;unfold intE;cases op<;>simp only[A0,A4,Ak,reduceCtorEq]at h<;>first
  |(subst h;rfl)
  |(obtain⟨h1,rfl⟩:=h;simp only[nz,CB,At]at h1;simp[h1,SC.den])
theorem shiftS_ok{op:BinOp}{k:IntKind}{x y:Int}{c:SC}(h:shiftS op k x y=some (true,c)):(VE op k x y).map .t=some c.den:=by unfold shiftS at h;unfold VE;cases op<;>simp only[A0,A4,reduceCtorEq,Aj]at h<;>(obtain⟨h1,rfl⟩:=h;rw[AE (by omega)];rfl)
theorem strS_ok{op:BinOp}{x y:List UInt8}{c:SC}(h:strS op x y=some (true,c)):(strE op x y).map .t=some c.den:=by
 unfold strS at h;unfold strE;cases op<;>simp only[A0,A4,Ak,reduceCtorEq,leB,Aj]at h<;>first
  |(subst h;rfl)
  |(obtain⟨h1,rfl⟩:=h;rw[AB h1];rfl)
theorem qF{op:BinOp}{x y:Bool}{b:Bool}{c:SC}(h:qG op x y=some (b,c)):b=true/\(Wu op x y).map .t=some c.den:=by unfold qG at h;unfold Wu;cases op<;>simp only[A0,A4,reduceCtorEq]at h<;>(obtain⟨h1,h2⟩:=h;subst h1;subst h2;exact⟨rfl,rfl⟩)
theorem isPtrK_ok(hty:Z1 P ty){t:TypeId}(h:Vj ty t=true):∃i e,tinf P t=some i/\i.kind=.ptr e:=by
 unfold Vj at h;split at h
 ·rename_i i c hi;split at h
  ·rename_i e he;exact⟨i,e,hty.ok t i c hi,he⟩
  ·cases h
 ·cases h
theorem isBoolK_ok(hty:Z1 P ty){t:TypeId}(h:isBoolK ty t=true):∃i,tinf P t=some i/\i.kind=.bool:=by
 unfold isBoolK at h;split at h
 ·rename_i i c hi;split at h
  ·rename_i he;exact⟨i,hty.ok t i c hi,he⟩
  ·cases h
 ·cases h
theorem cellEqS_ok{k:EK}{a b:SC}{c:Bool}(h:cellEqS k a b=some c):Yr k a.den b.den=some c:=by
 unfold cellEqS at h;split at h
 ·exact h
 ·split at h
  ·rename_i hk;rw[X7 hk];simp only[SC.den,Yr,Ai];exact h
  ·cases h
 ·exact h
 ·cases h
theorem eqAllS_ok:∀{ks:List EK} {xs ys:List SC} {c:Bool},eqAllS ks xs ys=some c->Xc ks (xs.map SC.den) (ys.map SC.den)=some c
 |[],[],[],c,h=>h
 |[],[],_::_,_,h=>by cases h
 |[],_::_,_,_,h=>by cases h
 |_::_,[],_,_,h=>by cases h
 |_::_,_::_,[],_,h=>by cases h
 |k::ks,x::xs,y::ys,c,h=>by
  simp only[eqAllS]at h;split at h
  ·rename_i a b h1 h2;simp only[AQ,Xc,cellEqS_ok h1,eqAllS_ok h2];exact h
  ·cases h
theorem binS_ok(hty:Z1 P ty){op:BinOp}{xT:TypeId}{x y:SV}{c:SC}(h:binS ty op xT x y=some (true,c)):(binE P op xT x.den y.den).map .t=some c.den:=by
 have hp:∀{b:Bool},(match Vj ty xT with|true=>qG op b true|false=>none)=some (true,c)->∃i e,tinf P xT=some i/\i.kind=.ptr e/\(Wu op b true).map .t=some c.den:=λ{b} hh=>by
  split at hh
  ·rename_i hk;obtain⟨i,e,h1,h2⟩:=isPtrK_ok hty hk;exact⟨i,e,h1,h2,(qF hh).2⟩
  ·cases hh
 unfold binS at h;split at h
 ·rename_i k a k' b;simp only[SV.den,SC.den,binE];split at h
  ·rename_i hs;rw[hs];exact shiftS_ok h
  ·rename_i hs;split at h
   ·rename_i hk;rw[X7 hk];simp only[hs,AP,Af,Ai];rw[X7 hk]at h;exact intS_ok h
   ·cases h
 ·exact strS_ok h
 ·split at h
  ·rename_i hk;obtain⟨i,h1,h2⟩:=isBoolK_ok hty hk;simp only[SV.den,SC.den,binE,h1,h2];exact(qF h).2
  ·cases h
 case h_9=>
  split at h
  ·rename_i i c1 hi;split at h
   ·rename_i ks hks;split at h
    ·rename_i b hb;simp only[SV.den,binE,hty.ok _ _ _ hi,hks,eqAllS_ok hb];exact(qF h).2
    ·cases h
   ·cases h
  ·cases h
 all_goals first
  |(obtain⟨i,e,h1,h2,h3⟩:=hp h;simp only[SV.den,SC.den,binE,h1,h2];exact h3)
  |cases h
theorem unS_ok{op:UnOp}{x:SV}{c:SC}(h:unS op x=some c):(unE op x.den).map .t=some c.den:=by
 unfold unS at h;split at h
 ·injection h with h;subst h;rfl
 ·injection h with h;subst h;rfl
 ·rw[A2]at h;obtain⟨p,h1,rfl⟩:=h;obtain⟨b,c⟩:=p;have hb:b=true:=(by simp only[intS,A0,A4]at h1;exact h1.1.symm);subst hb;exact intS_ok h1
 ·cases h
theorem convS_ok(hty:Z1 P ty){src dst:TypeId}{x:SV}{c:SC}(h:convS ty src dst x=some c):(Vw P src dst x.den).map .t=some c.den:=by
 unfold convS at h;split at h
 ·rename_i i1 j c2 k n h1 h2;obtain⟨i1,c1⟩:=i1;split at h
  ·rename_i k' hk;injection h with h;subst h;simp only[SV.den,SC.den,Vw,hty.ok _ _ _ h1,hty.ok _ _ _ h2,hk];rfl
  ·rename_i hk;injection h with h;subst h;simp only[SV.den,SC.den,Vw,hty.ok _ _ _ h1,hty.ok _ _ _ h2,hk];rfl
  ·cases h
 ·rename_i i1 j c2 n h1 h2;obtain⟨i1,c1⟩:=i1;split at h
  ·rename_i hk;injection h with h;subst h;simp only[SV.den,SC.den,Vw,hty.ok _ _ _ h1,hty.ok _ _ _ h2,hk];rfl
  ·cases h
 ·cases h
theorem offS_av {off : Nat} {x y : SC} (h : offS off x = some y) : (match (AV.c x.den) with
         | .c (.ptr r) => some (.c (.ptr { r with off := r.off + off }))
         | .c (.t (.iptr cs)) => some (.c (.t (.iptr (cs.drop off))))
         | _ => none) = some (AV.c y.den) := by
 unfold offS at h;split at h <;> first | (injection h with h; subst h) | cases h
 · rfl
 · simp only [SC.den,CE]
 · simp only [SC.den,CW]
 · simp only [SC.den,CW]
theorem fieldAddrS_ok(hty:Z1 P ty){t:TypeId}{x:SV}{f:Nat}{c:SC}(h:Ku ty t x f=some c):ZU P t x.den f=some (.c c.den):=by
 unfold Ku at h;split at h
 ·rename_i i c1 hi;split at h
  ·rename_i fs x hk;split at h
   ·rename_i off ft hf;split at h
    ·rename_i j c2 hj;split at h
     ·rename_i hz;have hz':0<j.size:=ltB hz;simp only[ZU,hty.ok _ _ _ hi,hk,hf,hty.ok _ _ _ hj];rw[AB hz'];exact offS_av h
     ·cases h
    ·cases h
   ·cases h
  ·cases h
 ·cases h
theorem VU{j:Qp}{cs:List SC}{off:Nat}{v:SV}(h:VV j cs off=some v):KN j (cs.map SC.den) off=some v.den:=by
 unfold VV at h;unfold KN;split at h
 ·rename_i ha;split at h
  ·rename_i hl;injection h with h;subst h;simp[ha,SV.den,leB' hl,BQ,BE]
  ·cases h
 ·rename_i ha;split at h
  ·rename_i c hc;injection h with h;subst h;simp[ha,hc,SV.den]
  ·cases h
theorem fieldS_ok(hty:Z1 P ty){t:TypeId}{x:SV}{f:Nat}{v:SV}(h:fieldS ty t x f=some v):Vp P t x.den f=some v.den:=by
 unfold fieldS at h;split at h
 ·rename_i i c1 hi;split at h
  ·rename_i fs cs hk;split at h
   ·rename_i off ft hf;split at h
    ·rename_i j c2 hj;simp only[SV.den,Vp,hty.ok _ _ _ hi,hk,hf,hty.ok _ _ _ hj];exact VU h
    ·cases h
   ·cases h
  ·cases h
 ·cases h
theorem Xj{x:SV}{n:Int}(h:Km x=some n):Ze x.den=some n:=by
 unfold Km at h;split at h
 ·injection h with h;subst h;rfl
 ·cases h
theorem UF{n:Int}{l:Nat}(h:inR n l=true):0<=n/\n<l:=by simpa [inR] using h
theorem indexAddrS_ok(hty:Z1 P ty){t:TypeId}{x i:SV}{c:SC}(h:Ko ty t x i=some (true,c)):ZS P t x.den i.den=some (.c c.den):=by
 unfold Ko at h;split at h
 ·rename_i inf c1 n hi hn;simp only[ZS,hty.ok _ _ _ hi,Xj hn];split at h
  ·rename_i e hk;rw[hk];split at h
   ·rename_i j c2 hj;simp only[hty.ok _ _ _ hj];split at h
    ·rename_i id ep es lo len cap;split at h
     ·rename_i hs;injection h with h;injection h with h1 h;subst h;simp only[SV.den,SC.den];rw[AB (UF h1),eqB hs,As,BZ]
     ·cases h
    ·rename_i c3 xs cap;split at h
     ·rename_i hs;injection h with h;injection h with h1 h;subst h;have hr:=UF h1;have hk':n.toNat<xs.length:=(by omega);simp only[SV.den,SC.den];rw[AB hr,<-eqB hs,Ux c3 hk',An]
     ·cases h
    ·injection h with h;injection h with h1 h;cases h1
    ·cases h
   ·cases h
  ·rename_i len e hk;rw[hk];split at h
   ·rename_i j c2 hj;simp only[hty.ok _ _ _ hj];split at h<;>first|cases h;done|skip
    all_goals
     injection h with h;injection h with h1 h;subst h;simp only[SV.den,SC.den];rw[AB (UF h1)];try first|rfl|simp only[CE]|simp only[CW]
   ·cases h
  ·cases h
 ·cases h
theorem indexS_ok(hty:Z1 P ty){t:TypeId}{x i:SV}{v:SV}(h:indexS ty t x i=some (true,v)):YK P t x.den i.den=some v.den:=by
 unfold indexS at h;split at h
 ·rename_i inf c1 n hi hn;simp only[YK,hty.ok _ _ _ hi,Xj hn];split at h
  ·rename_i len e cs hk;have old:∀{j:Qp} {c2:Option Ly},ty e=some (j,c2)->(VV j cs (n.toNat*j.size)).map (λv=>(inR n len,v))=some (true,v)->YK P t (SV.agg cs).den i.den=some v.den:=λ{j c2} hj h=>by rw[A2]at h;obtain⟨u,h1,h2⟩:=h;injection h2 with h2 h3;subst h3;simp only[YK,hty.ok _ _ _ hi,Xj hn];rw[show(SV.agg cs).den=AV.agg (cs.map SC.den) from rfl,hk];simp only[hty.ok _ _ _ hj];rw[AB (UF h2)];exact VU h1
   have back:∀{x:AV},YK P t (SV.agg cs).den i.den=some x->(match inf.kind,(SV.agg cs).den with
    |.array len e,.agg cs=>match tinf P e with
     |some j=>if 0<=n/\n<len then KN j cs (n.toNat*j.size) else none
     |none=>none
    |.string,.c (.t (.str s))=>if 0<=n then (match s[n.toNat]? with|some b=>some (aI .u8 b.toNat)|none=>none) else none
    |_,_=>none)=some x:=λ{x} h=>by
    simp only[YK,hty.ok _ _ _ hi,Xj hn]at h;exact h
   split at h
   ·rename_i j c hj;split at h
    ·rename_i xs hs henc;rw[A2]at h;obtain⟨u,h1,h2⟩:=h;injection h2 with h2 h3;subst h3;rw[show(SV.agg cs).den=AV.agg (cs.map SC.den) from rfl,hk];simp only[hty.ok _ _ _ hj];have hr:=UF h2;rw[AB hr];obtain⟨q1,q2,q3⟩:=Wk henc;have hn':n.toNat<xs.length:=(by omega);have hp:=VU h1;have hsz:=eqB hs;rw[q3 rfl,<-hp,Ly.YZ];have hd:=Ux c hn';unfold KN
     cases hag:j.isAgg with
     |true=>simp only[Ai,AG,Ac,An,Ly.QC];have hle:n.toNat*j.size+j.size<=(xs.flatMap c.trees).length:=(by have:=congrArg List.length hd;simp only[CG,Ab,Ly.QC]at this;rw[hsz];have h2:0<c.size:=c.size_pos;omega);rw[AB hle,AB (by omega),<-BE,<-BQ,<-BQ,hsz,hd];congr 2;rw[List.take_append_of_le_length (by rw[Ly.QC];exact A9 _)]
     |false=>simp only[AP,Af];rw[<-BZ (n.toNat*j.size),<-CL,<-BE,hsz,hd,AZ,AK (by rw[AG,Ly.QC];exact c.size_pos)]
    ·exact back (old hj h)
   ·rename_i j hj;exact back (old hj h)
   ·cases h
  ·rename_i s hk;injection h with h;injection h with h1 h;subst h;have hr:=UF h1;have hl:n.toNat<s.length:=(by omega);simp only[SV.den,SC.den,hk];rw[AB hr.1];simp[hl,byteAt,aI]
  ·cases h
 ·cases h
theorem extractS_ok{x:SV}{i:Nat}{v:SV}(h:Vr x i=some v):Y2 x.den i=some v.den:=by
 unfold Vr at h;split at h
 ·rename_i xs;split at h
  ·rename_i c hc;injection h with h;subst h;simp[SV.den,Y2,hc,Wp]
  ·rename_i c hc;injection h with h;subst h;simp[SV.den,Y2,hc,Wp]
  ·cases h
 ·cases h
theorem YY{i:Qp}{cs:List SC}(h:zeroS i=some cs):∃z,i.zero=some z/\cs.map SC.den=z.map .t:=by
 unfold zeroS at h;split at h
 ·rename_i z hz;exact⟨z,hz,VG h⟩
 ·cases h
theorem Wh{place:Nat->Option (Nat×Nat)}:∀{ps:List (Nat×SV)} {cs cs':List SC},Vo place ps cs=some cs'->YV place (ps.map λx=>(x.1,x.2.den)) (cs.map SC.den)=some (cs'.map SC.den)
 |[],cs,cs',h=>by simp only[Vo,A0]at h;subst h;rfl
 |(i,v)::ps,cs,cs',h=>by
  simp only[Vo]at h;split at h
  ·rename_i off size hp;split at h
   ·rename_i h1 h2 h3;simp only[AQ,YV,hp];rw[AB ⟨by rw[SV.Vn];exact h1,by rw[SV.Jb,AG];exact eqB h2,by rw[AG];exact leB' h3⟩];have:=Wh h;rw[ZI]at this;rw[SV.Jb];exact this
   ·cases h
  ·cases h
theorem VT(hty:Z1 P ty):∀{fs:List (Nat×TypeId)} {ps:List (Nat×Nat)},WG ty fs=some ps->YE P fs=some ps
 |[],ps,h=>by simp only[WG,A0]at h;subst h;rfl
 |(off,t)::fs,ps,h=>by
  simp only[WG]at h;split at h
  ·rename_i i c ps' h1 h2;injection h with h;subst h;simp[YE,hty.ok _ _ _ h1,VT hty h2]
  ·cases h
theorem buildS_ok(hty:Z1 P ty){t:TypeId}{ps:List (Nat×SV)}{v:SV}(h:buildS ty t ps=some v):qE P t (ps.map λx=>(x.1,x.2.den))=some v.den:=by
 unfold buildS at h;split at h
 ·rename_i i c hi;simp only[qE,hty.ok _ _ _ hi];split at h
  ·rename_i z fs hz hk;obtain⟨z',h1,h2⟩:=YY hz;split at h
   ·rename_i places hp;rw[A2]at h;obtain⟨cs,h3,rfl⟩:=h;simp only[h1,hk,VT hty hp,<-h2,Wh h3];rfl
   ·cases h
  ·rename_i z n e hz hk;obtain⟨z',h1,h2⟩:=YY hz;split at h
   ·rename_i j c2 hj;rw[A2]at h;obtain⟨cs,h3,rfl⟩:=h;simp only[h1,hk,hty.ok _ _ _ hj,<-h2,Wh h3];rfl
   ·cases h
  ·cases h
 ·cases h
theorem refsS_ok:∀{vs:List SV} {rs:List Ref},refsS vs=some rs->refsOf (vs.map SV.den)=some rs
 |[],rs,h=>by simp only[refsS,A0]at h;subst h;rfl
 |v::vs,rs,h=>by
  cases v with
  |c x=>cases x with
   |ptr id off=>simp only[refsS,A2]at h;obtain⟨rs',h1,rfl⟩:=h;simp[SV.den,SC.den,refsOf,refsS_ok h1]
   |_=>cases h
  |_=>cases h
theorem mergeC_ok{b:Bool}{x y z:SC}(h:mergeC b x y=some z):z.den=bif b then x.den else y.den:=by
 unfold mergeC at h;split at h
 ·injection h with h;subst h;cases b<;>rfl
 ·split at h
  ·rename_i hk;injection h with h;subst h;rw[X7 hk];cases b<;>rfl
  ·cases h
 ·injection h with h;subst h;cases b<;>rfl
 ·injection h with h;subst h;cases b<;>rfl
 ·injection h with h;subst h;cases b<;>rfl
 ·injection h with h;subst h;cases b<;>rfl
 ·injection h with h;subst h;cases b<;>rfl
 ·split at h
  ·rename_i hb;injection h with h;subst h;cases b
   ·simp only[AA,SC.den,Qk,Qz]
   ·rfl
  ·cases h
 ·split at h
  ·rename_i h1 h2;injection h with h;subst h;rw[eqB h1,eqB h2];cases b<;>rfl
  ·cases h
 ·split at h
  ·rename_i h1 h2 h3;injection h with h;subst h;rw[eqB h1,eqB h2,eqB h3];cases b<;>rfl
  ·cases h
 ·split at h
  ·rename_i h1 h2 h3;injection h with h;subst h;rw[eqB h1,eqB h2,eqB h3];cases b<;>rfl
  ·cases h
 ·split at h
  ·rename_i h1;injection h with h;subst h;rw[eqB h1];cases b<;>rfl
  ·cases h
 ·cases h
theorem Ve{b:Bool}:∀{x y z:List SC},WN b x y=some z->z.map SC.den=bif b then x.map SC.den else y.map SC.den
 |[],[],z,h=>by simp only[WN,A0]at h;subst h;cases b<;>rfl
 |[],_::_,z,h=>by cases h
 |_::_,[],z,h=>by cases h
 |x::xs,y::ys,z,h=>by
  simp only[WN]at h;split at h
  ·rename_i u us h1 h2;injection h with h;subst h;simp only[AQ,mergeC_ok h1,Ve h2];cases b<;>rfl
  ·cases h
theorem mergeV_ok{b:Bool}{x y z:SV}(h:mergeV b x y=some z):z.den=bif b then x.den else y.den:=by
 unfold mergeV at h;split at h
 ·rw[A2]at h;obtain⟨u,h1,rfl⟩:=h;simp only[SV.den,mergeC_ok h1];cases b<;>rfl
 ·rw[A2]at h;obtain⟨u,h1,rfl⟩:=h;simp only[SV.den,Ve h1];cases b<;>rfl
 ·cases h
theorem Vc{mx:Bool}{l:List SV}{c:SC}(h:Ut mx l=some c):ZZ mx (l.map SV.den)=some (.c c.den):=by
 unfold Ut at h;split at h
 ·rename_i k x k' y;split at h
  ·rename_i hk;injection h with h;subst h;simp only[AQ,Ba,SV.den,SC.den,ZZ];rw[AB (X7 hk)];cases mx<;>rfl
  ·cases h
 ·cases h
end
end Go.Abs
