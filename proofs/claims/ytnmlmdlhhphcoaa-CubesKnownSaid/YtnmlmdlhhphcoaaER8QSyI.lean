/- A part of the proof. -/
import Derived.Test.YtnmlmdlhhphcoaaER8QSyH
set_option linter.all false
namespace Go.Abs
variable [Gl]
def QJ(l:List (FuncId×Con))(g:FuncId):List Con:=match l with
 |[]=>[]
 |(f,c)::l=>match Nat.beq f g with|true=>c::QJ l g|false=>QJ l g
def JB(l:List (Nat×QB))(i:Nat):Option QB:=match l with
 |[]=>none
 |(k,c)::l=>match Nat.beq k i with|true=>some c|false=>JB l i
def CC.Q2:CC->Nat->CC
 |.seq a b,i=>match Nat.blt i a.nl with|true=>a.Q2 i|false=>b.Q2 (i - a.nl)
 |.cond _ a b,i=>match Nat.blt i a.nl with|true=>a.Q2 i|false=>b.Q2 (i - a.nl)
 |.block _ a,i=>a.Q2 i
 |.scp a,i=>a.Q2 i
 |.loop a,i=>match i with|0=>a|i+1=>a.Q2 i
 |_,_=>.skip
inductive TB where
 |no
 |at (l:TB) (k:TypeId) (i:JC) (c:Option Ly) (r:TB)
def TB.find:TB->TypeId->Option (JC×Option Ly)
 |.no,_=>none
 |.at l k i c r,t=>match Nat.beq t k with
  |true=>some (i,c)
  |false=>match Nat.blt t k with
   |true=>l.find t
   |false=>r.find t
def layB(i:JC)(c:Ly):Bool:=match i.zero with
 |some z=>Nat.beq i.size c.size&&zB c z
 |none=>false
def TB.ok(P:Program):TB->Prop
 |.no=>True
 |.at l k i c r=>l.ok P/\(tinf P k=some i/\(match c with|some c=>layB i c|none=>true)=true)/\r.ok P
theorem TB.qf{P:Program}:∀{b:TB},b.ok P->∀t i c,b.find t=some (i,c)->tinf P t=some i/\(match c with|some c=>layB i c|none=>true)=true
 |.no,_,t,i,c,h=>by cases h
 |.at l k i' c' r,ho,t,i,c,h=>by
  simp only[TB.find]at h;split at h
  ·rename_i hk;injection h with h;injection h with h1 h2;subst h1;subst h2;rw[eqB hk];exact ho.2.1
  ·split at h
   ·exact TB.qf ho.1 t i c h
   ·exact TB.qf ho.2.2 t i c h
theorem tyOk_of{P:Program}{b:TB}(h:b.ok P):Zz P b.find where
 ok:=λt i c hf=>(TB.qf h t i c hf).1
 lay:=λt i c hf=>by
  have:=(TB.qf h t i (some c) hf).2;simp only[layB]at this;split at this
  ·rename_i z hz;rw[Bool.and_eq_true]at this;exact⟨eqB this.1,z,hz,zB_ok this.2⟩
  ·cases this
def QT(P:Program):List (FuncId×Con)->Prop
 |[]=>True
 |(f,c)::l=>Qk P f c/\QT P l
section
variable {P:Program}{N n0:Nat}
theorem cfOf_ok:∀{l:List (FuncId×Con)},QT P l->∀g c,c∈QJ l g->Qk P g c
 |[],_,g,c,h=>by simp[QJ]at h
 |(f,c')::l,ha,g,c,h=>by
  simp only[QJ]at h;split at h
  ·rename_i hf;simp only[List.mem_cons]at h;rcases h with rfl|h
   ·rw[<-eqB hf];exact ha.1
   ·exact cfOf_ok ha.2 g c h
  ·exact cfOf_ok ha.2 g c h
theorem Q7{ty:TyT}(hty:Zz P ty){l:List (FuncId×Con)}(hl:QT P l)(lp:Nat->Option QB){yb:Option (Array Tmp×QB)}:Xk P ⟨ty,QJ l,lp,yb⟩:=⟨hty,cfOf_ok hl⟩
theorem Q8.nil{ro:Option Nat}{E:Env}{yk:Option YI}:Q8 P N ro n0 E [] yk:=λp hp=>by simp at hp
theorem Q8.cons{ro:Option Nat}{E:Env}{yk:Option YI}{i:Nat}{B:CC}{l:List (Nat×CC)}{lp:QB}(h1:E.lp i=some lp)(h2:QH P N ro n0 B lp yk)(h:Q8 P N ro n0 E l yk):Q8 P N ro n0 E ((i,B)::l) yk:=λp hp lp' hlp=>by
 simp only[List.mem_cons]at hp;rcases hp with rfl|hp
 ·rw[h1]at hlp;injection hlp with hlp;subst hlp;exact h2
 ·exact h p hp lp' hlp
theorem QD(hm:P.follows .mixedOrders=true){E:Env}(hE:Xk P E){f:FuncId}{rs:List ResultVar}{C:CC}(hs:QE P f N rs C){X Y:Type}{g:Sg X}{ft:Ft Y}(hn0:Nat.beq g.h.length n0=true)(hn:Nat.ble g.vs.length N=true)
  {l:List (Nat×CC)} (hl:QA C 0=l) (hal:Q8 P N none n0 E l) (hf:∀a b,ft.fv (ft.to a b)=a/\ft.fh (ft.to a b)=b) (hto:∀a b,g.fa (g.to a b)=a/\g.fh (g.to a b)=b)
  {m:X->Option Y} (hrun:∀x,exec E N C 0 (QX 0 (g.A x)) (g.H x) (finish n0 E.ty rs ft)=m x) (hyk:Qp P n0 E none:=by exact Qp.no rfl) (hg:Jx P N none n0 E none C 0:=by exact Jx.no (by kernel_rfl)):QV P f g ft m:=
 ⟨hto,Nat.le_trans (leB' hn) (let ⟨_,_,_,_,h⟩:=hs.ex;Nat.le_of_ble_eq_true h.2.2.2.2.2.2),λx y hp=>fn_exec hm hE hs (n0:=n0) (by rw[Sg.H,YD];exact eqB hn0) (by rw[Sg.A,Yj];exact leB' hn) (hl▸hal) hf ((hrun x).trans hp) hyk hg⟩
end
end Go.Abs
