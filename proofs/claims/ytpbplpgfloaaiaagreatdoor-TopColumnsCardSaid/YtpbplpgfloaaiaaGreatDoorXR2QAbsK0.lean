/- A part of the proof. -/
import Derived.Test.YtpbplpgfloaaiaaGreatDoorXR2QMc
set_option linter.all false
namespace Go.Abs
variable [Gl]
def bitN(t:Nat):Nat:=Nat.shiftLeft 1 t
def hasN(m t:Nat):Bool:=Nat.beq (Nat.land (Nat.shiftRight m t) 1) 1
def Ua:List Nat->Nat->Nat
 |[],m=>m
 |t::ts,m=>Ua ts (Nat.lor m (bitN t))
def outN(m k:Nat):Nat:=Nat.xor m (Nat.land m k)
def opdN:Operand->List Nat
 |.tmp t=>[t]
 |_=>[]
def rdsO(all:Array Oper)(o:Oper):List Nat:=o.op.operands.toList.flatMap opdN++(match o.guard with
 |some (j,_)=>(match all[j]? with
  |some x=>x.dst.toList
  |none=>[])
 |none=>[])
structure RI where(os:List (List Nat×List Nat))(lp:Bool)(m d u:Nat)
def riL:List (List Nat×List Nat)->Nat->Nat->Nat->Nat×Nat×Nat
 |[],m,d,u=>(m,d,u)
 |(rs,ds)::os,m,d,u=>riL os (Ua ds (Ua rs m)) (Ua ds d) (Nat.lor u (outN (Ua rs 0) d))
def ri(lp:Bool)(ops:Array Oper):RI:=
 let os:=ops.toList.map λo=>(rdsO ops o,o.dst.toList);let x:=riL os 0 0 0
 ⟨os,lp,x.1,x.2.1,x.2.2⟩
def wkC(lp:Bool):Code->List RI×Nat->List RI×Nat
 |.region _ ops _,s=>(ri lp ops::s.1,s.2)
 |.seq a b,s=>wkC lp b (wkC lp a s)
 |.cond c a b,s=>wkC lp b (wkC lp a (s.1,Ua (opdN c) s.2))
 |.block _ a,s=>wkC lp a s
 |.scope a,s=>wkC lp a s
 |.loop a,s=>wkC true a s
 |.rangeFunc f ps a b,s=>wkC true b (wkC true a (s.1,Ua ps.toList (Ua (opdN f) s.2)))
 |_,s=>s
def manyN:List RI->Nat->Nat->Nat
 |[],_,mu=>mu
 |r::rs,acc,mu=>manyN rs (Nat.lor acc r.m) (Nat.lor mu (Nat.land acc r.m))
def killL(c:Nat):List (List Nat×List Nat)->List (List Nat)×Nat
 |[]=>([],0)
 |(rs,ds)::os=>
  let x:=killL c os
  ((rs++ds).eraseDups.filter (λt=>hasN c t&&!hasN x.2 t)::x.1,Ua ds (Ua rs x.2))
def resN:ResultVar->List Nat
 |.tmp t=>[t]
 |.cell a _=>[a]
def klF(fn:Func):KS:=match fn.body with
 |some c=>
  let s:=wkC false c ([],Ua (fn.results.toList.flatMap resN) 0);let mu:=manyN s.1 s.2 0;let np:=fn.params.size+fn.nfree
  s.1.reverse.map λr=>
   let c:=outN r.m mu;let k:=Nat.lor (outN (Nat.land c r.d) r.u) (if r.lp then 0 else Nat.land (outN c r.d) (Nat.pred (bitN np)))
   (killL k r.os).1
 |none=>[]
def rowC(fn:Func):Option (Nat×List ResultVar×CC):=match fn.body with
 |some c=>(match strip c (klF fn) with
  | some (C,_) => if fn.name == "runtime.NumGoroutine" then none else if Nat.ble fn.ntmps BIG then some (fn.ntmps,fn.results.toList,C) else none
  |none=>none)
 |none=>none
noncomputable def cq(fn:Func):CC:=match rowC fn with
 |some x=>x.2.2
 |none=>.skip
theorem sq{P:Program}{f:FuncId}{fn:Func}{N:Nat}{rs:List ResultVar}{C:CC}(h1:P.funcs[f]? =some fn)(h:rowC fn=some (N,rs,C)):Q6 P f N rs C:=by
 unfold rowC at h;split at h
 ·rename_i c hb;split at h
  ·rename_i C' ks hs;split at h
   ·cases h
   ·rename_i hn;split at h
    ·rename_i hl;simp only[X3,A0]at h;obtain⟨rfl,rfl,rfl⟩:=h;exact⟨fn,c,_,ks,h1,hb,by simpa using hn,rfl,rfl,hs,hl⟩
    ·cases h
  ·cases h
 ·cases h
def tabC(P:Program)(l:List Nat):Tab:=λf=>if l.contains f then (match P.funcs[f]? with
 |some fn=>rowC fn
 |none=>none) else none
theorem tabC_ok{P:Program}{l:List Nat}{f:FuncId}{N:Nat}{rs:List ResultVar}{C:CC}(h:tabC P l f=some (N,rs,C)):Q6 P f N rs C:=by
 unfold tabC at h;split at h
 ·split at h
  ·rename_i fn hf;exact sq hf h
  ·cases h
 ·cases h
end Go.Abs
