/- A part of the proof. -/
import Derived.Test.YtpbplpgfloaaiaaGreatDoorXS2QMs
set_option linter.all false
namespace Go.Abs
variable [Gl]
def eqB{a b:Nat}(h:Nat.beq a b=true):a=b:=Bi h
def leB'{a b:Nat}(h:Nat.ble a b=true):a<=b:=BQ h
def ltB{a b:Nat}(h:Nat.blt a b=true):a<b:=BQ h
def Wy{t:T}{c:SC}(h:V6 t=some c):c.den=.t t:=by unfold V6 at h;split at h<;>first|(injection h with h;subst h;rfl)|cases h
def V5:∀{z:List T} {cs:List SC},Jj V6 z=some cs->cs.map SC.den=z.map .t
 |[],cs,h=>by simp only[Jj,Kn]at h;subst h;rfl
 |t::z,cs,h=>by
  simp only[Jj]at h;split at h
  ·rename_i y ys h1 h2;injection h with h;subst h;simp[Wy h1,V5 h2]
  ·cases h
def Ly.Y5:∀(c:Ly) (x:c.ty),(c.view x).map SC.den=(c.trees x).map .t
 |.int _,_=>rfl
 |.bool,_=>rfl
 |.str,_=>rfl
 |.sl _,_=>rfl
 |.pair a b,x=>by simp only[Ly.view,Ly.trees,AS,a.Y5,b.Y5]
def Qz{a b:Ly}(h:a.beq b=true)(xs:List a.ty):(Ly.Jq h xs).flatMap b.trees=xs.flatMap a.trees:=by have e:=Ly.beq_eq h;subst e;rfl
def JA{a b:Ly}(h:a.beq b=true)(xs:List a.ty):(Ly.Jq h xs).length=xs.length:=by have e:=Ly.beq_eq h;subst e;rfl
def Jy{a b:Ly}(h:a.beq b=true):a.size=b.size:=by rw[Ly.beq_eq h]
def Qr(c:Ly):∀(xs:List c.ty),(xs.flatMap c.trees).length=xs.length*c.size
 |[]=>by simp
 |x::xs=>by simp only[Ac,AG,c.QW,Qr c xs,As,BF];omega
def XC(c:Ly):∀(n:Nat) (xs:List c.ty),(xs.flatMap c.trees).drop (n*c.size)=(xs.drop n).flatMap c.trees
 |0,_=>by simp
 |n+1,[]=>by simp
 |n+1,x::xs=>by rw[Ac,List.drop_succ_cons,<-XC c n xs,Bz,c.QW];have h1:(n+1)*c.size - c.size=n*c.size:=(by rw[BF];omega);have h2:(c.trees x).drop ((n+1)*c.size)=[]:=Be (by rw[c.QW,BF];omega);rw[h1,h2,Bf]
def Xg(c:Ly):∀(n:Nat) (xs:List c.ty),(xs.flatMap c.trees).take (n*c.size)=(xs.take n).flatMap c.trees
 |0,_=>by simp
 |n+1,[]=>by simp
 |n+1,x::xs=>by rw[Ac,List.take_succ_cons,Ac,<-Xg c n xs,Cj,c.QW];have h1:(n+1)*c.size - c.size=n*c.size:=(by rw[BF];omega);have h2:(c.trees x).take ((n+1)*c.size)=c.trees x:=AN (by rw[c.QW,BF];omega);rw[h1,h2]
def drop_at{α:Type}{xs:List α}{k:Nat}{d:α}(h:k<xs.length):xs.drop k=(xs[k]?).getD d::xs.drop (k+1):=by rw[Cl h];simp[h]
def flat_at(c:Ly){xs:List c.ty}{k:Nat}(h:k<xs.length):(xs.flatMap c.trees).drop (k*c.size)=c.trees ((xs[k]?).getD c.X8)++(xs.drop (k+1)).flatMap c.trees:=by rw[XC,drop_at (d:=c.X8) h,Ac]
def Ly.Kw{ex:Bool}:∀{c:Ly} {l:List SC} {x:c.ty},c.enc ex l=some x->WL (l.map SC.den) ((c.trees x).map .t)/\(ex=true->l.map SC.den=(c.trees x).map .t)
 |.int k,l,x,h=>by
  simp only[Ly.enc,encInt]at h;split at h
  ·split at h
   ·rename_i hk;injection h with h;subst h;rw[Jm hk];exact⟨WL.rfl',λ_=>rfl⟩
   ·cases h
  ·cases h
 |.bool,l,x,h=>by
  simp only[Ly.enc,encBool]at h;split at h
  ·injection h with h;subst h;exact⟨WL.rfl',λ_=>rfl⟩
  ·cases h
 |.str,l,x,h=>by
  simp only[Ly.enc,encStr]at h;split at h
  ·injection h with h;subst h;exact⟨WL.rfl',λ_=>rfl⟩
  ·cases h
 |.sl c,l,x,h=>by
  simp only[Ly.enc,encSl]at h;split at h
  ·rename_i c' xs cap;split at h
   ·rename_i hb;have key:∀y,y=Ly.Jq hb xs->WL ([SC.arr c' xs cap].map SC.den) (((Ly.sl c).trees y).map .t):=λy hy=>(by subst hy;simp only[AY,Bs,SC.den,Ly.trees,Qz,JA];exact⟨.t (.cap _ _ _),trivial⟩);split at h
    ·injection h with h;refine⟨key x h.symm,λ_=> ?_⟩;subst h;simp only[AY,Bs,SC.den,Ly.trees,Qz,JA]
    ·split at h
     ·cases h
     ·injection h with h;exact⟨key x h.symm,λhex=>by cases hex⟩
   ·cases h
  ·split at h
   ·cases h
   ·injection h with h;subst h;exact⟨⟨.t (.cap _ _ _),trivial⟩,λhex=>by cases hex⟩
  ·cases h
 |.pair a b,l,x,h=>by
  simp only[Ly.enc]at h;split at h
  ·rename_i y z h1 h2;injection h with h;subst h;obtain⟨h3,h4⟩:=Ly.Kw h1;obtain⟨h5,h6⟩:=Ly.Kw h2;have e:l.map SC.den=(l.take a.size).map SC.den++(l.drop a.size).map SC.den:=(by rw[<-AS,Bq]);refine⟨?_,λhex=> ?_⟩
   ·rw[e];simp only[Ly.trees,AS];exact h3.append h5
   ·rw[e,h4 hex,h6 hex];simp only[Ly.trees,AS]
  ·cases h
def Wj{ex:Bool}{c:Ly}:∀{n:Nat} {l:List SC} {xs:List c.ty},encL ex c n l=some xs->xs.length=n/\WL (l.map SC.den) ((xs.flatMap c.trees).map .t)/\(ex=true->l.map SC.den=(xs.flatMap c.trees).map .t)
 |0,[],xs,h=>by simp only[encL,Kn]at h;subst h;exact⟨rfl,WL.rfl',λ_=>rfl⟩
 |0,_::_,xs,h=>by cases h
 |n+1,l,xs,h=>by
  simp only[encL]at h;split at h
  ·rename_i y ys h1 h2;injection h with h;subst h;obtain⟨h3,h4⟩:=Ly.Kw h1;obtain⟨h5,h6,h7⟩:=Wj h2;have e:l.map SC.den=(l.take c.size).map SC.den++(l.drop c.size).map SC.den:=(by rw[<-AS,Bq]);refine⟨by simp[h5],?_,λhex=> ?_⟩
   ·rw[e,Ac,AS];exact h3.append h6
   ·rw[e,Ac,AS,h4 hex,h7 hex]
  ·cases h
def eqTg_eq:∀{a b:Tg},eqTg a b=true->a=b
 |[],[],_=>rfl
 |[],_::_,h=>by cases h
 |_::_,[],h=>by cases h
 |(a,x)::l,(b,y)::m,h=>by
  simp only[eqTg]at h;split at h
  ·rename_i h1;rw[eqB h1];cases x<;>cases y<;>simp only at h<;>first|(rw[eqTg_eq h])|cases h
  ·cases h
def SR.Js{r:SR}{x:Nat×Bool}{l:Tg}:r.holds (x::l)=(r.holds l&&r.isB x.1 x.2):=by
 obtain⟨t,w⟩:=x
 cases l with
 |nil=>simp[SR.holds]
 |cons y l=>rfl
def suf_holds{r:SR}{a:Tg}:∀{L:Tg},sufB a L=true->r.holds L=true->r.holds a=true
 |[],h,hL=>by
  simp only[sufB]at h;split at h
  ·rfl
  ·cases h
 |x::L,h,hL=>by
  simp only[sufB]at h;split at h
  ·rfl
  ·split at h
   ·rename_i he;rw[eqTg_eq he];exact hL
   ·rw[SR.Js,AJ]at hL;exact suf_holds h hL.1
def SR.Qy{r:SR}{t:Nat}{tg:Tg}{v:SV}(h:r.get t=some (tg,v)):r.den.get t=some (r.dv tg v):=by
 unfold SR.den
 suffices∀(l:SR),l.get t=some (tg,v)->QB.get (l.map r.den1) t=some (r.dv tg v) from this r h
 intro l hl
 induction l with
 |nil=>simp[SR.get]at hl
 |cons p l ih=>
  obtain⟨k,q⟩:=p;simp only[SR.get]at hl;simp only[AY,SR.den1,QB.get];split at hl
  ·rename_i hk;rw[AC (eqB hk)];injection hl with hl;subst hl;rfl
  ·rename_i hk;rw[AK (λe=>by subst e;simp at hk)];exact ih hl
def SR.den_get'{r:SR}{t:Nat}{tg:Tg}{v:SV}(h:r.get t=some (tg,v))(hh:r.holds tg=true):r.den.get t=some v.den:=by
 rw[SR.Qy h]
 cases tg with
 |nil=>rfl
 |cons x l=>simp only[SR.dv,hh,A6]
def SR.Xl{r:SR}{t:Nat}{x:Tg×SV}(h:r.gget t=some x):t<BIG/\r.get t=some x:=by
 unfold SR.gget at h;split at h
 ·cases h
 ·rename_i hb;refine⟨?_,h⟩;apply CF;intro hn;rw[CB (by omega)]at hb;cases hb
def SR.den_none{r:SR}{t:Nat}(h:r.get t=none):r.den.get t=none:=by
 unfold SR.den
 suffices∀(l:SR),l.get t=none->QB.get (l.map r.den1) t=none from this r h
 intro l hl
 induction l with
 |nil=>rfl
 |cons p l ih=>
  obtain⟨k,q⟩:=p;simp only[SR.get]at hl;simp only[AY,SR.den1,QB.get];split at hl
  ·cases hl
  ·rename_i hk;rw[AK (λe=>by subst e;simp at hk)];exact ih hl
section
variable {r:SR}{L:Tg}{ρ:QB}
def constSV_den{v:Value}{x:SV}(h:constSV v=some x):Wo v=some x.den:=by
 unfold constSV at h;split at h
 ·rename_i t ht;rw[WF]at h;obtain⟨c,h1,rfl⟩:=h;rw[ht];simp[SV.den,Wy h1]
 ·rename_i cs hcs;rw[WF]at h;obtain⟨ys,h1,rfl⟩:=h;rw[hcs];have:∀{cs:List Cell} {ys:List SC},Jj (fun|.t t=>V6 t|_=>none) cs=some ys->ys.map SC.den=cs:=λ{cs}=>by
   induction cs with
   |nil=>intro ys h;simp only[Jj,Kn]at h;subst h;rfl
   |cons c cs ih=>
    intro ys h;simp only[Jj]at h;split at h
    ·rename_i y ys' h2 h3;injection h with h;subst h
     cases c with
     |t t=>simp[Wy h2,ih h3]
     |_=>cases h2
    ·cases h
  simp[SV.den,this h1]
 ·cases h
def Qs(Hr:JE ρ r.den)(hL:r.holds L=true){x:Operand}{v:SV}(h:evS r L x=some v):ev ρ x=some v.den:=by
 cases x with
 |tmp t=>
  simp only[evS,SR.at]at h;split at h
  ·rename_i tg v' h1;split at h
   ·rename_i hs;injection h with h;subst h;exact QB.at_of (Hr _ _ (SR.den_get' (SR.Xl h1).2 (suf_holds hs hL))) (SR.Xl h1).1
   ·cases h
  ·cases h
 |const c=>exact constSV_den h
 |func f=>simp only[evS,Kn]at h;subst h;rfl
 |global g=>
  simp only[evS]at h;split at h
  ·rename_i c x hg;injection h with h;subst h;simp only[ev,hg,SV.den,SC.den,AW]
  ·cases h
def ZM(Hr:JE ρ r.den)(hL:r.holds L=true):∀{xs:List Operand} {vs:List SV},Ku r L xs=some vs->evl ρ xs=some (vs.map SV.den)
 |[],vs,h=>by simp only[Ku,Kn]at h;subst h;rfl
 |x::xs,vs,h=>by
  simp only[Ku]at h;split at h
  ·rename_i v vs' h1 h2;injection h with h;subst h;simp[evl,Qs Hr hL h1,ZM Hr hL h2]
  ·cases h
def evsS_ok(Hr:JE ρ r.den)(hL:r.holds L=true):∀{xs:List (Nat×Operand)} {vs:List (Nat×SV)},evsS r L xs=some vs->evs ρ xs=some (vs.map λx=>(x.1,x.2.den))
 |[],vs,h=>by simp only[evsS,Kn]at h;subst h;rfl
 |(i,x)::xs,vs,h=>by
  simp only[evsS]at h;split at h
  ·rename_i v vs' h1 h2;injection h with h;subst h;simp[evs,Qs Hr hL h1,evsS_ok Hr hL h2]
  ·cases h
def evoS_ok(Hr:JE ρ r.den)(hL:r.holds L=true){x:Option Operand}{v:Option SV}(h:evoS r L x=some v):evo ρ x=some (v.map SV.den):=by
 cases x with
 |none=>simp only[evoS,Kn]at h;subst h;rfl
 |some x=>simp only[evoS,WF]at h;obtain⟨u,h1,rfl⟩:=h;simp[evo,Qs Hr hL h1]
end
def SV.XL(x:SC):(SV.c x).den=.c x.den:=rfl
def SC.den_bo(x:Bool):(SC.bo x).den=.t (.bool x):=rfl
def SC.den_ptr(id off:Nat):(SC.ptr id off).den=.ptr ⟨id,0,off⟩:=rfl
def SC.den_fn(f:FuncId):(SC.fn f).den=.t (.fn f []):=rfl
def SC.Wm(f:FuncId)(rs:List Ref):(SC.clo f rs).den=.clo f rs:=rfl
def SV.Jo(v:SV):v.den.cells=v.cells.map SC.den:=by cases v<;>rfl
def SV.Ve(v:SV):v.den.flat=v.flat:=by cases v<;>rfl
end Go.Abs
namespace Go.Abs
variable [Gl]
structure ZF(P:Program)(ty:TyT):Prop where
 ok:∀t i c,ty t=some (i,c)->tinf P t=some i
 lay:∀t i c,ty t=some (i,some c)->i.size=c.size/\∃z,i.zero=some z/\WL (z.map .t) ((c.trees c.X8).map .t)
def SH.Qy{M:SH}{id:Nat}{o:SO}(h:M[id]? =some o):(SH.den M)[id]? =some o.den:=by simp[SH.den,h]
def SH.QU(M:SH):(SH.den M).length=M.length:=by simp[SH.den]
def SH.Jc(M:SH)(id:Nat)(o:SO):SH.den (M.set id o)=(SH.den M).set id o.den:=by simp[SH.den,List.map_set]
def SH.X9(M:SH)(o:SO):SH.den (M++[o])=SH.den M++[o.den]:=by simp[SH.den]
def SH.JX{M:SH}{r:Ref}{o:SO}(h:M[r.id]? =some o)(he:o.den.ep=r.ep):(SH.den M).at? r=some o.den:=by simp only[QA.at?,SH.Qy h];rw[AC he]
def Xs(cs:List SC)(off:Nat)(xs:List SC):(Z0 cs off xs).map SC.den=Qo (cs.map SC.den) off (xs.map SC.den):=by simp[Z0,Qo,BZ,BI]
section
variable {P:Program}{ty:TyT}{M:SH}
def YA{i:JD}{cs:List SC}{v:SV}(h:Zy i cs=some v):ZH i (cs.map SC.den)=some v.den:=by
 unfold Zy at h;unfold ZH;split at h
 ·rename_i hi;split at h
  ·rename_i hl;injection h with h;subst h;simp[hi,leB' hl,SV.den,BZ]
  ·cases h
 ·rename_i hi;rw[AK (by simp[hi])]
  cases cs with
  |nil=>cases h
  |cons c cs=>injection h with h;subst h;rfl
def loadC_more{i:JD}{cs ds:List Cell}(hi:0<i.size\/i.isAgg=true)(hl:i.size<=cs.length)(h0:i.isAgg=false->i.size=1):ZH i (cs++ds)=ZH i cs:=by
 unfold ZH;by_cases ha:i.isAgg=true
 ·simp only[ha,Aq];rw[AC (by simp;omega),AC hl,CU hl]
 ·simp only[ha,Ab,Al];have h1:=h0 (by simpa using ha)
  cases cs with
  |nil=>simp at hl;omega
  |cons c cs=>rfl
def UW{i:JD}{cs:List SC}{v:SV}(h:Zy i cs=some v){ds:List Cell}:ZH i (cs.map SC.den++ds)=some v.den:=by
 have h':=YA h;unfold Zy at h;split at h
 ·rename_i ha;split at h
  ·rename_i hl;rw[loadC_more (.inr ha) (by simpa using leB' hl) (by simp[ha])];exact h'
  ·cases h
 ·rename_i ha
  cases cs with
  |nil=>cases h
  |cons c cs=>simpa [ZH,ha] using h'
def Vl(cs:List SC)(n:Nat):(cs.map SC.den).drop n=(cs.drop n).map SC.den:=by simp
def Ws(c:Ly)(x:c.ty)(off:Nat):((c.trees x).drop off).map Cell.t=((c.view x).drop off).map SC.den:=by rw[BI,<-c.Y5,<-BI]
def loadS_ok{i:JD}{a:SC}{v:SV}(h:loadS M i a=some (true,v)):Zb (SH.den M) i (.c a.den)=some v.den:=by
 unfold loadS at h;split at h
 ·
  rename_i id off;split at h
  ·rename_i cs es ep ho;split at h
   ·rename_i he;rw[WF]at h;obtain⟨u,h1,h2⟩:=h;injection h2 with _ h2;subst h2;have hat:(SH.den M).at? ⟨id,0,off⟩=some (SO.st cs es ep).den:=SH.JX ho (eqB he);simp only[SC.den,Zb,hat];show ZH i ((cs.map SC.den).drop off)=_;rw[Vl];exact YA h1
   ·cases h
  ·cases h
 ·
  rename_i id ep es k off;split at h
  ·rename_i c xs ep' ho;split at h
   ·rename_i he hs;split at h
    ·rename_i hb;rw[WF]at h;obtain⟨u,h1,h2⟩:=h;injection h2 with h3 h2;subst h2;have hk:k<xs.length:=(by simpa using h3);have hat:(SH.den M).at? ⟨id,ep,k*es+off⟩=some (SO.arr c xs ep').den:=SH.JX ho (eqB he);simp only[SC.den,Zb,hat];show ZH i (((xs.flatMap c.trees).map Cell.t).drop (k*es+off))=_;have hb':=leB' hb;rw[eqB hs,<-CA,<-BI,flat_at c hk,<-BI,CV (by rw[c.QW];omega),AS,Ws];exact UW h1
    ·cases h
   ·cases h
  ·rename_i cs es' ep' ho;split at h
   ·rename_i he hs;rw[WF]at h;obtain⟨u,h1,h2⟩:=h;injection h2 with _ h2;subst h2;have hat:(SH.den M).at? ⟨id,ep,k*es+off⟩=some (SO.st cs es' ep').den:=SH.JX ho (eqB he);simp only[SC.den,Zb,hat];show ZH i ((cs.map SC.den).drop _)=_;rw[Vl];exact YA h1
   ·cases h
  ·rename_i c xs cs ys ep' ho;split at h
   ·rename_i he hs hb;rw[WF]at h;obtain⟨u,h1,h2⟩:=h;injection h2 with hk h2;subst h2;have hk:k=xs.length:=(by simpa [eqN] using hk);have hat:(SH.den M).at? ⟨id,ep,k*es+off⟩=some (SO.opn c xs cs ys ep').den:=SH.JX ho (eqB he);simp only[SC.den,Zb,hat];show ZH i (((xs.flatMap c.trees).map Cell.t++(cs.map SC.den++(ys.flatMap c.trees).map Cell.t)).drop _)=_;have hl:((xs.flatMap c.trees).map Cell.t).length=k*es:=(by rw[AE,Qr,hk,eqB hs]);rw[Bz,hl,Be (by rw[hl];omega),Bf,show k*es+off - k*es=off by omega,CV (by rw[AE];have:=leB' hb;omega),Vl];have h3:=YA h1;have hb':=leB' hb;unfold ZH at h3⊢;split
    ·rename_i hag;rw[AC hag]at h3;split at h3
     ·rename_i hle;rw[AC (by rw[AG];omega),CU hle];exact h3
     ·cases h3
    ·rename_i hag;rw[AK hag]at h3;split at h3
     ·rename_i d ds hd;rw[hd];exact h3
     ·cases h3
   ·cases h
  ·cases h
 ·
  rename_i c x off;split at h
  ·rw[WF]at h;obtain⟨u,h1,h2⟩:=h;injection h2 with _ h2;subst h2;simp only[SC.den,Zb];rw[Ws];exact YA h1
  ·cases h
 ·
  rename_i c xs k off;split at h
  ·rename_i hb;rw[WF]at h;obtain⟨u,h1,h2⟩:=h;injection h2 with _ h2;subst h2;have hb':=leB' hb;simp only[SC.den,Zb];rw[CV (by rw[c.QW];omega),AS,Ws];exact UW h1
  ·cases h
 ·cases h
def Vd(c:Ly)(y:c.ty):∀(xs:List c.ty) (k:Nat),k<xs.length->((xs.set k y).flatMap c.trees)=(xs.flatMap c.trees).take (k*c.size)++c.trees y++(xs.flatMap c.trees).drop (k*c.size+c.size)
 |x::xs,0,_=>by simp only[List.set_cons_zero,Ac,BP,CN,Bf,AF];rw[Bz,c.QW,Be (by rw[c.QW];exact A5 _)];simp
 |x::xs,k+1,h=>by have ih:=Vd c y xs k (by simpa using h);simp only[List.set_cons_succ,Ac,ih];rw[Cj,Bz,c.QW];have h1:(k+1)*c.size - c.size=k*c.size:=(by rw[BF];omega);have h2:(k+1)*c.size+c.size - c.size=k*c.size+c.size:=(by rw[BF];omega);have h3:(c.trees x).take ((k+1)*c.size)=c.trees x:=AN (by rw[c.QW,BF];omega);have h4:(c.trees x).drop ((k+1)*c.size+c.size)=[]:=Be (by rw[c.QW,BF];omega);rw[h1,h2,h3,h4];simp[Ad]
def WL.take{a b:List Cell}(h:WL a b)(n:Nat):WL (a.take n) (b.take n):=
 WL.of_get (by simp[h.length]) λi hi hi'=>by simp only[List.getElem_take];exact h.get _ _
def WL.drop{a b:List Cell}(h:WL a b)(n:Nat):WL (a.drop n) (b.drop n):=
 WL.of_get (by simp[h.length]) λi hi hi'=>by simp only[List.getElem_drop];exact h.get _ _
def Zn{c:Ly}{xs:List c.ty}{k off:Nat}(hk:k<xs.length){vs:List Cell}(hb:off+vs.length<=c.size):
  Qo ((xs.flatMap c.trees).map .t) (k*c.size+off) vs=((xs.flatMap c.trees).map .t).take (k*c.size)++Qo ((c.trees ((xs[k]?).getD c.X8)).map .t) off vs++((xs.flatMap c.trees).map .t).drop (k*c.size+c.size):=by
 have hlen:((xs.flatMap c.trees).map Cell.t).length=xs.length*c.size:=by rw[AE,Qr]
 have hle:(k+1)*c.size<=xs.length*c.size:=Ar _ hk;rw[BF]at hle;have hsplit:(xs.flatMap c.trees).map Cell.t=((xs.flatMap c.trees).map Cell.t).take (k*c.size)++((c.trees ((xs[k]?).getD c.X8)).map Cell.t++((xs.drop (k+1)).flatMap c.trees).map Cell.t):=by rw[<-AS,<-flat_at c hk,BI,Bq]
 have htk:(((xs.flatMap c.trees).map Cell.t).take (k*c.size)).length=k*c.size:=by rw[B6,hlen];omega
 have htl:((c.trees ((xs[k]?).getD c.X8)).map Cell.t).length=c.size:=by rw[AE,c.QW]
 have hrest:((xs.drop (k+1)).flatMap c.trees).map Cell.t=((xs.flatMap c.trees).map Cell.t).drop (k*c.size+c.size):=by rw[<-BF,<-BI,XC]
 generalize ((xs.flatMap c.trees).map Cell.t).take (k*c.size)=A at hsplit htk⊢;rw[<-hrest];generalize (c.trees ((xs[k]?).getD c.X8)).map Cell.t=B at hsplit htl⊢;generalize ((xs.drop (k+1)).flatMap c.trees).map Cell.t=C at hsplit⊢;rw[hsplit];unfold Qo;rw[Cj,Bz,htk,Cj,Bz,htl];have e1:k*c.size+off - k*c.size=off:=by omega
 have e2:k*c.size+off+vs.length - k*c.size=off+vs.length:=by omega
 have e3:off - c.size=0:=by omega
 have e4:off+vs.length - c.size=0:=by omega
 rw[e1,e2,e3,e4,AN (by omega),Be (by omega:A.length<=k*c.size+off+vs.length)];simp[Ad]
def Kf{cs vs:List Cell}(h:vs.length=cs.length):Qo cs 0 vs=vs:=by simp[Qo,h]
def splice_mid{A B C vs:List Cell}{k off:Nat}(hA:A.length=k)(hb:off+vs.length<=B.length):Qo (A++(B++C)) (k+off) vs=A++(Qo B off vs++C):=by
 unfold Qo;rw[Cj,Bz,hA,Cj,Bz];have e1:k+off - k=off:=by omega
 have e2:k+off+vs.length - k=off+vs.length:=by omega
 have e3:off - B.length=0:=by omega
 have e4:off+vs.length - B.length=0:=by omega
 rw[e1,e2,e3,e4,AN (by omega),Be (by omega:A.length<=k+off+vs.length)];simp[Ad]
inductive Out(ex:Bool)(M:QA):Option AV->QA->Option AV->QA->Prop
 |ZB {a b:Option AV} {τ A':QA}:WVO a b->WH τ A'->(ex=true->a=b/\τ=A')->Out ex M a τ b A'
 |own (es:Nat):ex=false->Out ex M (some (.c (.t (.imm [] 0 (some 0))))) M (some (.c (.sl ⟨M.length,0,0⟩ 0 none))) (M++[{ cs:=[],es:=es }])
def Out.same{ex:Bool}{M:QA}{a:Option AV}{τ:QA}:Out ex M a τ a τ:=.ZB WVO.rfl' WH.rfl' λ_=>⟨rfl,rfl⟩
def storeS_ok{ex:Bool}{i:JD}{a:SC}{v:SV}{S':SH}(h:storeS ex M i a v=some (true,S')):
  ∃τ,XE (SH.den M) i (.c a.den) v.den=some τ/\WH τ (SH.den S')/\(ex=true->τ=SH.den S'):=by
 unfold storeS at h;split at h
 ·rename_i hf hc;have hf':v.den.flat=true:=(by rw[SV.Ve];exact hf);have hc':v.den.cells.length=i.size:=(by rw[SV.Jo,AE];exact eqB hc);split at h
  ·rename_i id off;split at h
   ·rename_i cs es ep ho;split at h
    ·rename_i he hb;injection h with h;injection h with _ h;subst h;have hat:(SH.den M).at? ⟨id,0,off⟩=some (SO.st cs es ep).den:=SH.JX ho (eqB he);refine⟨_,?_,WH.rfl',λ_=>rfl⟩;simp only[SC.den,XE,hat];rw[AC ⟨hf',hc',by simpa [SO.den] using leB' hb⟩,SH.Jc];simp[SO.den,Xs,SV.Jo]
    ·cases h
   ·cases h
  ·rename_i id ep es k off;split at h
   ·rename_i c xs ep' ho;split at h
    ·rename_i he hs hb;have hat:(SH.den M).at? ⟨id,ep,k*es+off⟩=some (SO.arr c xs ep').den:=SH.JX ho (eqB he);have hb':=leB' hb;have hlen:((xs.flatMap c.trees).map Cell.t).length=xs.length*c.size:=(by rw[AE,Qr]);have main:∀(hk:k<xs.length) (y:c.ty) (l:List SC),Qo ((c.trees ((xs[k]?).getD c.X8)).map Cell.t) off v.den.cells=l.map SC.den->c.enc ex l=some y->
       ∃τ,XE (SH.den M) i (.c (SC.el id ep es k off).den) v.den=some τ/\WH τ (SH.den (M.set id (.arr c (xs.set k y) ep')))/\(ex=true->τ=SH.den (M.set id (.arr c (xs.set k y) ep'))):=λhk y l hl hy=>by
      have hle:(k+1)*c.size<=xs.length*c.size:=Ar _ hk;rw[BF]at hle;obtain⟨hw,hx⟩:=Ly.Kw hy;refine⟨_,by
       simp only[SC.den,XE,hat];rw[AC ⟨hf',hc',by simp only[SO.den,hlen,eqB hs];omega⟩],?_,?_⟩
      all_goals simp only[SH.Jc,SO.den]
      all_goals rw[eqB hs,Zn hk (by rw[hc'];omega),hl]
      ·refine WH.set WH.rfl' ⟨?_,rfl,rfl⟩;show WL _ (((xs.set k y).flatMap c.trees).map Cell.t);rw[Vd c y xs k hk,AS,AS,BZ,BI];exact(WL.rfl'.append hw).append WL.rfl'
      ·intro hex;congr 1;show _=({ cs:=((xs.set k y).flatMap c.trees).map Cell.t,es:=c.size,ep:=ep' }:Obj);rw[Vd c y xs k hk,AS,AS,BZ,BI,hx hex]
     split at h
     ·rename_i ho0 hsz;split at h
      ·rename_i y hy;injection h with h;injection h with h1 h;subst h;have hk:k<xs.length:=(by simpa using h1);exact main hk y v.cells (by rw[eqB ho0,SV.Jo,Kf (by rw[AE,AE,c.QW,<-eqB hsz];exact eqB hc)]) hy
      ·injection h with h;injection h with h1 h;subst h;have hk:k<xs.length:=(by simpa using h1);have hle:(k+1)*c.size<=xs.length*c.size:=Ar _ hk;rw[BF]at hle;refine⟨_,by
        simp only[SC.den,XE,hat];rw[AC ⟨hf',hc',by simp only[SO.den,hlen,eqB hs];omega⟩],?_⟩
       have e:({ (SO.arr c xs ep').den with cs:=Qo (SO.arr c xs ep').den.cs (k*es+off) v.den.cells }:Obj)=(SO.opn c (xs.take k) v.cells (xs.drop (k+1)) ep').den:=by
        simp only[SO.den];rw[eqB hs,Zn hk (by rw[hc'];omega),eqB ho0,Kf (by rw[hc',AE,c.QW,eqB hsz]),SV.Jo,Ad];congr 2
        ·rw[<-BZ,Xg]
        ·rw[<-BI,<-BF,<-XC]
       rw[SH.Jc];exact⟨by rw[e];exact WH.rfl',λ_=>by rw[e]⟩
     ·split at h
      ·rename_i y hy;injection h with h;injection h with h1 h;subst h;have hk:k<xs.length:=(by simpa using h1);exact main hk y _ (by rw[Xs,SV.Jo,c.Y5]) hy
      ·injection h with h;injection h with h1 h;subst h;have hk:k<xs.length:=(by simpa using h1);have hle:(k+1)*c.size<=xs.length*c.size:=Ar _ hk;rw[BF]at hle;refine⟨_,by
        simp only[SC.den,XE,hat];rw[AC ⟨hf',hc',by simp only[SO.den,hlen,eqB hs];omega⟩],?_⟩
       have hspl:Qo ((c.trees ((xs[k]?).getD c.X8)).map Cell.t) off v.den.cells=(Z0 (c.view ((xs[k]?).getD c.X8)) off v.cells).map SC.den:=(by rw[Xs,SV.Jo,c.Y5]);have e:({ (SO.arr c xs ep').den with cs:=Qo (SO.arr c xs ep').den.cs (k*es+off) v.den.cells }:Obj)=(SO.opn c (xs.take k) (Z0 (c.view ((xs[k]?).getD c.X8)) off v.cells) (xs.drop (k+1)) ep').den:=by
        simp only[SO.den];rw[eqB hs,Zn hk (by rw[hc'];omega),hspl,Ad];congr 2
        ·rw[<-BZ,Xg]
        ·rw[<-BI,<-BF,<-XC]
       rw[SH.Jc];exact⟨by rw[e];exact WH.rfl',λ_=>by rw[e]⟩
    ·cases h
   ·rename_i cs es' ep' ho;split at h
    ·rename_i he hs hb;injection h with h;injection h with _ h;subst h;have hat:(SH.den M).at? ⟨id,ep,k*es+off⟩=some (SO.st cs es' ep').den:=SH.JX ho (eqB he);refine⟨_,?_,WH.rfl',λ_=>rfl⟩;simp only[SC.den,XE,hat];rw[AC ⟨hf',hc',by simpa [SO.den] using leB' hb⟩,SH.Jc];simp[SO.den,Xs,SV.Jo]
    ·cases h
   ·rename_i c xs cs ys ep' ho;split at h
    ·rename_i he hs hb;injection h with h;injection h with hk h;subst h;have hk:k=xs.length:=(by simpa [eqN] using hk);have hat:(SH.den M).at? ⟨id,ep,k*es+off⟩=some (SO.opn c xs cs ys ep').den:=SH.JX ho (eqB he);have hl:((xs.flatMap c.trees).map Cell.t).length=k*es:=(by rw[AE,Qr,hk,eqB hs]);have hb':=leB' hb;refine⟨_,?_,WH.rfl',λ_=>rfl⟩;simp only[SC.den,XE,hat];rw[AC ⟨hf',hc',by simp only[SO.den,AG,hl,AE];omega⟩,SH.Jc];congr 2;simp only[SO.den];congr 1;rw[splice_mid (A:=(xs.flatMap c.trees).map Cell.t) hl (by rw[AE,hc'];omega),Xs,SV.Jo]
    ·cases h
   ·cases h
  ·cases h
 ·cases h
end
end Go.Abs
namespace Go.Abs
variable [Gl]
def SC.tv:SC->Option T
 |.bo x=>some (.bool x)
 |.it k n=>some (.int k n)
 |.sg x=>some (.str x)
 |_=>none
section
variable {P:Program}{ty:TyT}{M:SH}
def intS_ok{op:BinOp}{k:IntKind}{x y:Int}{c:SC}(h:intS op k x y=some (true,c)):(intE op k x y).map .t=some c.den:=by
 unfold intS at h;unfold intE;cases op<;>simp only[Kn,A0,Ah,reduceCtorEq]at h<;>first
  |(subst h;rfl)
  |(obtain⟨h1,rfl⟩:=h;simp only[nz,C2,Ag]at h1;simp[h1,SC.den])
def shiftS_ok{op:BinOp}{k:IntKind}{x y:Int}{c:SC}(h:shiftS op k x y=some (true,c)):(V3 op k x y).map .t=some c.den:=by unfold shiftS at h;unfold V3;cases op<;>simp only[Kn,A0,reduceCtorEq,B9]at h<;>(obtain⟨h1,rfl⟩:=h;rw[AK (by omega)];rfl)
def strS_ok{op:BinOp}{x y:List UInt8}{c:SC}(h:strS op x y=some (true,c)):(strE op x y).map .t=some c.den:=by
 unfold strS at h;unfold strE;cases op<;>simp only[Kn,A0,Ah,reduceCtorEq,leB,B9]at h<;>first
  |(subst h;rfl)
  |(obtain⟨h1,rfl⟩:=h;rw[AC h1];rfl)
def Vv{op:BinOp}{x y:Bool}{b:Bool}{c:SC}(h:Vw op x y=some (b,c)):b=true/\(Wp op x y).map .t=some c.den:=by unfold Vw at h;unfold Wp;cases op<;>simp only[Kn,A0,reduceCtorEq]at h<;>(obtain⟨h1,h2⟩:=h;subst h1;subst h2;exact⟨rfl,rfl⟩)
def isPtrK_ok(hty:ZF P ty){t:TypeId}(h:VY ty t=true):∃i e,tinf P t=some i/\i.kind=.ptr e:=by
 unfold VY at h;split at h
 ·rename_i i c hi;split at h
  ·rename_i e he;exact⟨i,e,hty.ok t i c hi,he⟩
  ·cases h
 ·cases h
def isBoolK_ok(hty:ZF P ty){t:TypeId}(h:isBoolK ty t=true):∃i,tinf P t=some i/\i.kind=.bool:=by
 unfold isBoolK at h;split at h
 ·rename_i i c hi;split at h
  ·rename_i he;exact⟨i,hty.ok t i c hi,he⟩
  ·cases h
 ·cases h
def cellEqS_ok{k:EK}{a b:SC}{c:Bool}(h:cellEqS k a b=some c):Yx k a.den b.den=some c:=by
 unfold cellEqS at h;split at h
 ·exact h
 ·split at h
  ·rename_i hk;rw[Jm hk];simp only[SC.den,Yx,Aq];exact h
  ·cases h
 ·exact h
 ·cases h
def eqAllS_ok:∀{ks:List EK} {xs ys:List SC} {c:Bool},eqAllS ks xs ys=some c->Xq ks (xs.map SC.den) (ys.map SC.den)=some c
 |[],[],[],c,h=>h
 |[],[],_::_,_,h=>by cases h
 |[],_::_,_,_,h=>by cases h
 |_::_,[],_,_,h=>by cases h
 |_::_,_::_,[],_,h=>by cases h
 |k::ks,x::xs,y::ys,c,h=>by
  simp only[eqAllS]at h;split at h
  ·rename_i a b h1 h2;simp only[AY,Xq,cellEqS_ok h1,eqAllS_ok h2];exact h
  ·cases h
def binS_ok(hty:ZF P ty){op:BinOp}{xT:TypeId}{x y:SV}{c:SC}(h:binS ty op xT x y=some (true,c)):(binE P op xT x.den y.den).map .t=some c.den:=by
 have hp:∀{b:Bool},(match VY ty xT with|true=>Vw op b true|false=>none)=some (true,c)->∃i e,tinf P xT=some i/\i.kind=.ptr e/\(Wp op b true).map .t=some c.den:=λ{b} hh=>by
  split at hh
  ·rename_i hk;obtain⟨i,e,h1,h2⟩:=isPtrK_ok hty hk;exact⟨i,e,h1,h2,(Vv hh).2⟩
  ·cases hh
 unfold binS at h;split at h
 ·rename_i k a k' b;simp only[SV.den,SC.den,binE];split at h
  ·rename_i hs;rw[hs];exact shiftS_ok h
  ·rename_i hs;split at h
   ·rename_i hk;rw[Jm hk];simp only[hs,Ab,Al,Aq];rw[Jm hk]at h;exact intS_ok h
   ·cases h
 ·exact strS_ok h
 ·split at h
  ·rename_i hk;obtain⟨i,h1,h2⟩:=isBoolK_ok hty hk;simp only[SV.den,SC.den,binE,h1,h2];exact(Vv h).2
  ·cases h
 case h_9=>
  split at h
  ·rename_i i c1 hi;split at h
   ·rename_i ks hks;split at h
    ·rename_i b hb;simp only[SV.den,binE,hty.ok _ _ _ hi,hks,eqAllS_ok hb];exact(Vv h).2
    ·cases h
   ·cases h
  ·cases h
 all_goals first
  |(obtain⟨i,e,h1,h2,h3⟩:=hp h;simp only[SV.den,SC.den,binE,h1,h2];exact h3)
  |cases h
def unS_ok{op:UnOp}{x:SV}{c:SC}(h:unS op x=some c):(unE op x.den).map .t=some c.den:=by
 unfold unS at h;split at h
 ·injection h with h;subst h;rfl
 ·injection h with h;subst h;rfl
 ·rw[WF]at h;obtain⟨p,h1,rfl⟩:=h;obtain⟨b,c⟩:=p;have hb:b=true:=(by simp only[intS,Kn,A0]at h1;exact h1.1.symm);subst hb;exact intS_ok h1
 ·cases h
def convS_ok(hty:ZF P ty){src dst:TypeId}{x:SV}{c:SC}(h:convS ty src dst x=some c):(Vm P src dst x.den).map .t=some c.den:=by
 unfold convS at h;split at h
 ·rename_i i1 j c2 k n h1 h2;obtain⟨i1,c1⟩:=i1;split at h
  ·rename_i k' hk;injection h with h;subst h;simp only[SV.den,SC.den,Vm,hty.ok _ _ _ h1,hty.ok _ _ _ h2,hk];rfl
  ·rename_i hk;injection h with h;subst h;simp only[SV.den,SC.den,Vm,hty.ok _ _ _ h1,hty.ok _ _ _ h2,hk];rfl
  ·cases h
 ·rename_i i1 j c2 n h1 h2;obtain⟨i1,c1⟩:=i1;split at h
  ·rename_i hk;injection h with h;subst h;simp only[SV.den,SC.den,Vm,hty.ok _ _ _ h1,hty.ok _ _ _ h2,hk];rfl
  ·cases h
 ·cases h
def offS_av {off : Nat} {x y : SC} (h : offS off x = some y) : (match (AV.c x.den) with
         | .c (.ptr r) => some (.c (.ptr { r with off := r.off + off }))
         | .c (.t (.iptr cs)) => some (.c (.t (.iptr (cs.drop off))))
         | _ => none) = some (AV.c y.den) := by
 unfold offS at h;split at h <;> first | (injection h with h; subst h) | cases h
 · rfl
 · simp only [SC.den,CJ]
 · simp only [SC.den,CA]
 · simp only [SC.den,CA]
def fieldAddrS_ok(hty:ZF P ty){t:TypeId}{x:SV}{f:Nat}{c:SC}(h:Kt ty t x f=some c):Zg P t x.den f=some (.c c.den):=by
 unfold Kt at h;split at h
 ·rename_i i c1 hi;split at h
  ·rename_i fs x hk;split at h
   ·rename_i off ft hf;split at h
    ·rename_i j c2 hj;split at h
     ·rename_i hz;have hz':0<j.size:=ltB hz;simp only[Zg,hty.ok _ _ _ hi,hk,hf,hty.ok _ _ _ hj];rw[AC hz'];exact offS_av h
     ·cases h
    ·cases h
   ·cases h
  ·cases h
 ·cases h
def VJ{j:JD}{cs:List SC}{off:Nat}{v:SV}(h:VK j cs off=some v):KN j (cs.map SC.den) off=some v.den:=by
 unfold VK at h;unfold KN;split at h
 ·rename_i ha;split at h
  ·rename_i hl;injection h with h;subst h;simp[ha,SV.den,leB' hl,BZ,BI]
  ·cases h
 ·rename_i ha;split at h
  ·rename_i c hc;injection h with h;subst h;simp[ha,hc,SV.den]
  ·cases h
def fieldS_ok(hty:ZF P ty){t:TypeId}{x:SV}{f:Nat}{v:SV}(h:fieldS ty t x f=some v):Vg P t x.den f=some v.den:=by
 unfold fieldS at h;split at h
 ·rename_i i c1 hi;split at h
  ·rename_i fs cs hk;split at h
   ·rename_i off ft hf;split at h
    ·rename_i j c2 hj;simp only[SV.den,Vg,hty.ok _ _ _ hi,hk,hf,hty.ok _ _ _ hj];exact VJ h
    ·cases h
   ·cases h
  ·cases h
 ·cases h
def Xv{x:SV}{n:Int}(h:Kq x=some n):intOfAV x.den=some n:=by
 unfold Kq at h;split at h
 ·injection h with h;subst h;rfl
 ·cases h
def UC{n:Int}{l:Nat}(h:inR n l=true):0<=n/\n<l:=by simpa [inR] using h
def indexAddrS_ok(hty:ZF P ty){t:TypeId}{x i:SV}{c:SC}(h:Kr ty t x i=some (true,c)):XW P t x.den i.den=some (.c c.den):=by
 unfold Kr at h;split at h
 ·rename_i inf c1 n hi hn;simp only[XW,hty.ok _ _ _ hi,Xv hn];split at h
  ·rename_i e hk;rw[hk];split at h
   ·rename_i j c2 hj;simp only[hty.ok _ _ _ hj];split at h
    ·rename_i id ep es lo len cap;split at h
     ·rename_i hs;injection h with h;injection h with h1 h;subst h;simp only[SV.den,SC.den];rw[AC (UC h1),eqB hs,BJ,BK]
     ·cases h
    ·rename_i c3 xs cap;split at h
     ·rename_i hs;injection h with h;injection h with h1 h;subst h;have hr:=UC h1;have hk':n.toNat<xs.length:=(by omega);simp only[SV.den,SC.den];rw[AC hr,<-eqB hs,flat_at c3 hk',AW]
     ·cases h
    ·injection h with h;injection h with h1 h;cases h1
    ·cases h
   ·cases h
  ·rename_i len e hk;rw[hk];split at h
   ·rename_i j c2 hj;simp only[hty.ok _ _ _ hj];split at h<;>first|cases h;done|skip
    all_goals
     injection h with h;injection h with h1 h;subst h;simp only[SV.den,SC.den];rw[AC (UC h1)];try first|rfl|simp only[CJ]|simp only[CA]
   ·cases h
  ·cases h
 ·cases h
def indexS_ok(hty:ZF P ty){t:TypeId}{x i:SV}{v:SV}(h:indexS ty t x i=some (true,v)):YT P t x.den i.den=some v.den:=by
 unfold indexS at h;split at h
 ·rename_i inf c1 n hi hn;simp only[YT,hty.ok _ _ _ hi,Xv hn];split at h
  ·rename_i len e cs hk;have old:∀{j:JD} {c2:Option Ly},ty e=some (j,c2)->(VK j cs (n.toNat*j.size)).map (λv=>(inR n len,v))=some (true,v)->YT P t (SV.agg cs).den i.den=some v.den:=λ{j c2} hj h=>by rw[WF]at h;obtain⟨u,h1,h2⟩:=h;injection h2 with h2 h3;subst h3;simp only[YT,hty.ok _ _ _ hi,Xv hn];rw[show(SV.agg cs).den=AV.agg (cs.map SC.den) from rfl,hk];simp only[hty.ok _ _ _ hj];rw[AC (UC h2)];exact VJ h1
   have back:∀{x:AV},YT P t (SV.agg cs).den i.den=some x->(match inf.kind,(SV.agg cs).den with
    |.array len e,.agg cs=>match tinf P e with
     |some j=>if 0<=n/\n<len then KN j cs (n.toNat*j.size) else none
     |none=>none
    |.string,.c (.t (.str s))=>if 0<=n then (match s[n.toNat]? with|some b=>some (aI .u8 b.toNat)|none=>none) else none
    |_,_=>none)=some x:=λ{x} h=>by
    simp only[YT,hty.ok _ _ _ hi,Xv hn]at h;exact h
   split at h
   ·rename_i j c hj;split at h
    ·rename_i xs hs henc;rw[WF]at h;obtain⟨u,h1,h2⟩:=h;injection h2 with h2 h3;subst h3;rw[show(SV.agg cs).den=AV.agg (cs.map SC.den) from rfl,hk];simp only[hty.ok _ _ _ hj];have hr:=UC h2;rw[AC hr];obtain⟨q1,q2,q3⟩:=Wj henc;have hn':n.toNat<xs.length:=(by omega);have hp:=VJ h1;have hsz:=eqB hs;rw[q3 rfl,<-hp,Ly.Y5];have hd:=flat_at c hn';unfold KN
     cases hag:j.isAgg with
     |true=>simp only[Aq,AE,AF,AW,Ly.QW];have hle:n.toNat*j.size+j.size<=(xs.flatMap c.trees).length:=(by have:=congrArg List.length hd;simp only[CO,AG,Ly.QW]at this;rw[hsz];have h2:0<c.size:=c.size_pos;omega);rw[AC hle,AC (by omega),<-BI,<-BZ,<-BZ,hsz,hd];congr 2;rw[CU (by rw[Ly.QW];exact A5 _)]
     |false=>simp only[Ab,Al];rw[<-BK (n.toNat*j.size),<-C7,<-BI,hsz,hd,AS,AL (by rw[AE,Ly.QW];exact c.size_pos)]
    ·exact back (old hj h)
   ·rename_i j hj;exact back (old hj h)
   ·cases h
  ·rename_i s hk;injection h with h;injection h with h1 h;subst h;have hr:=UC h1;have hl:n.toNat<s.length:=(by omega);simp only[SV.den,SC.den,hk];rw[AC hr.1];simp[hl,byteAt,aI]
  ·cases h
 ·cases h
def extractS_ok{x:SV}{i:Nat}{v:SV}(h:Vh x i=some v):YD x.den i=some v.den:=by
 unfold Vh at h;split at h
 ·rename_i xs;split at h
  ·rename_i c hc;injection h with h;subst h;simp[SV.den,YD,hc,Wn]
  ·rename_i c hc;injection h with h;subst h;simp[SV.den,YD,hc,Wn]
  ·cases h
 ·cases h
def Yi{i:JD}{cs:List SC}(h:zeroS i=some cs):∃z,i.zero=some z/\cs.map SC.den=z.map .t:=by
 unfold zeroS at h;split at h
 ·rename_i z hz;exact⟨z,hz,V5 h⟩
 ·cases h
def Wh{place:Nat->Option (Nat×Nat)}:∀{ps:List (Nat×SV)} {cs cs':List SC},Vf place ps cs=some cs'->Yg place (ps.map λx=>(x.1,x.2.den)) (cs.map SC.den)=some (cs'.map SC.den)
 |[],cs,cs',h=>by simp only[Vf,Kn]at h;subst h;rfl
 |(i,v)::ps,cs,cs',h=>by
  simp only[Vf]at h;split at h
  ·rename_i off size hp;split at h
   ·rename_i h1 h2 h3;simp only[AY,Yg,hp];rw[AC ⟨by rw[SV.Ve];exact h1,by rw[SV.Jo,AE];exact eqB h2,by rw[AE];exact leB' h3⟩];have:=Wh h;rw[Xs]at this;rw[SV.Jo];exact this
   ·cases h
  ·cases h
def VI(hty:ZF P ty):∀{fs:List (Nat×TypeId)} {ps:List (Nat×Nat)},WK ty fs=some ps->YO P fs=some ps
 |[],ps,h=>by simp only[WK,Kn]at h;subst h;rfl
 |(off,t)::fs,ps,h=>by
  simp only[WK]at h;split at h
  ·rename_i i c ps' h1 h2;injection h with h;subst h;simp[YO,hty.ok _ _ _ h1,VI hty h2]
  ·cases h
def buildS_ok(hty:ZF P ty){t:TypeId}{ps:List (Nat×SV)}{v:SV}(h:buildS ty t ps=some v):Vu P t (ps.map λx=>(x.1,x.2.den))=some v.den:=by
 unfold buildS at h;split at h
 ·rename_i i c hi;simp only[Vu,hty.ok _ _ _ hi];split at h
  ·rename_i z fs hz hk;obtain⟨z',h1,h2⟩:=Yi hz;split at h
   ·rename_i places hp;rw[WF]at h;obtain⟨cs,h3,rfl⟩:=h;simp only[h1,hk,VI hty hp,<-h2,Wh h3];rfl
   ·cases h
  ·rename_i z n e hz hk;obtain⟨z',h1,h2⟩:=Yi hz;split at h
   ·rename_i j c2 hj;rw[WF]at h;obtain⟨cs,h3,rfl⟩:=h;simp only[h1,hk,hty.ok _ _ _ hj,<-h2,Wh h3];rfl
   ·cases h
  ·cases h
 ·cases h
def VB:∀{vs:List SV} {rs:List Ref},refsS vs=some rs->refsOf (vs.map SV.den)=some rs
 |[],rs,h=>by simp only[refsS,Kn]at h;subst h;rfl
 |v::vs,rs,h=>by
  cases v with
  |c x=>cases x with
   |ptr id off=>simp only[refsS,WF]at h;obtain⟨rs',h1,rfl⟩:=h;simp[SV.den,SC.den,refsOf,VB h1]
   |_=>cases h
  |_=>cases h
def mergeC_ok{b:Bool}{x y z:SC}(h:mergeC b x y=some z):z.den=bif b then x.den else y.den:=by
 unfold mergeC at h;split at h
 ·injection h with h;subst h;cases b<;>rfl
 ·split at h
  ·rename_i hk;injection h with h;subst h;rw[Jm hk];cases b<;>rfl
  ·cases h
 ·injection h with h;subst h;cases b<;>rfl
 ·injection h with h;subst h;cases b<;>rfl
 ·injection h with h;subst h;cases b<;>rfl
 ·injection h with h;subst h;cases b<;>rfl
 ·injection h with h;subst h;cases b<;>rfl
 ·split at h
  ·rename_i hb;injection h with h;subst h;cases b
   ·simp only[A7,SC.den,Qz,JA]
   ·rfl
  ·cases h
 ·split at h
  ·rename_i h1 h2;injection h with h;subst h;rw[eqB h1,eqB h2];cases b<;>rfl
  ·cases h
 ·split at h
  ·rename_i h1 h2 h3;injection h with h;subst h;rw[eqB h1,eqB h2,eqB h3];cases b<;>rfl
  ·cases h
 ·split at h
  ·rename_i h1 h2 h3;injection h with h;subst h;rw[eqB h1,eqB h2,eqB h3];cases b<;>rfl
  ·cases h
 ·split at h
  ·rename_i h1;injection h with h;subst h;rw[eqB h1];cases b<;>rfl
  ·cases h
 ·cases h
def VT{b:Bool}:∀{x y z:List SC},WQ b x y=some z->z.map SC.den=bif b then x.map SC.den else y.map SC.den
 |[],[],z,h=>by simp only[WQ,Kn]at h;subst h;cases b<;>rfl
 |[],_::_,z,h=>by cases h
 |_::_,[],z,h=>by cases h
 |x::xs,y::ys,z,h=>by
  simp only[WQ]at h;split at h
  ·rename_i u us h1 h2;injection h with h;subst h;simp only[AY,mergeC_ok h1,VT h2];cases b<;>rfl
  ·cases h
def mergeV_ok{b:Bool}{x y z:SV}(h:mergeV b x y=some z):z.den=bif b then x.den else y.den:=by
 unfold mergeV at h;split at h
 ·rw[WF]at h;obtain⟨u,h1,rfl⟩:=h;simp only[SV.den,mergeC_ok h1];cases b<;>rfl
 ·rw[WF]at h;obtain⟨u,h1,rfl⟩:=h;simp only[SV.den,VT h1];cases b<;>rfl
 ·cases h
def VS{mx:Bool}{l:List SV}{c:SC}(h:Uq mx l=some c):Zp mx (l.map SV.den)=some (.c c.den):=by
 unfold Uq at h;split at h
 ·rename_i k x k' y;split at h
  ·rename_i hk;injection h with h;subst h;simp only[AY,Bs,SV.den,SC.den,Zp];rw[AC (Jm hk)];cases mx<;>rfl
  ·cases h
 ·cases h
end
end Go.Abs
