/- A part of the proof. -/
import Derived.Test.YtpbplpgfloaaiaaGreatDoorXR2QSyH
set_option linter.all false
namespace Go.Abs
variable [Gl]
def QE(l:List (FuncId×Con))(g:FuncId):List Con:=match l with
 |[]=>[]
 |(f,c)::l=>match Nat.beq f g with|true=>c::QE l g|false=>QE l g
def Qi(l:List (Nat×QJ))(i:Nat):Option QJ:=match l with
 |[]=>none
 |(k,c)::l=>match Nat.beq k i with|true=>some c|false=>Qi l i
def CC.Q0:CC->Nat->CC
 |.seq a b,i=>match Nat.blt i a.nl with|true=>a.Q0 i|false=>b.Q0 (i - a.nl)
 |.cond _ a b,i=>match Nat.blt i a.nl with|true=>a.Q0 i|false=>b.Q0 (i - a.nl)
 |.block _ a,i=>a.Q0 i
 |.scp a,i=>a.Q0 i
 |.loop a,i=>match i with|0=>a|i+1=>a.Q0 i
 |_,_=>.skip
inductive TB where
 |no
 |at (l:TB) (k:TypeId) (i:Qj) (c:Option Ly) (r:TB)
def layB(i:Qj)(c:Ly):Bool:=match i.zero with
 |some z=>Nat.beq i.size c.size&&zB c z
 |none=>false
def TB.ok(P:Program):TB->Prop
 |.no=>True
 |.at l k i c r=>l.ok P/\(tinf P k=some i/\(match c with|some c=>layB i c|none=>true)=true)/\r.ok P
def Q8(P:Program):List (FuncId×Con)->Prop
 |[]=>True
 |(f,c)::l=>QC P f c/\Q8 P l
section
variable {P:Program}{N n0:Nat}
theorem cfOf_ok:∀{l:List (FuncId×Con)},Q8 P l->∀g c,c∈QE l g->QC P g c
 |[],_,g,c,h=>by simp[QE]at h
 |(f,c')::l,ha,g,c,h=>by
  simp only[QE]at h;split at h
  ·rename_i hf;simp only[AW]at h;rcases h with rfl|h
   ·rw[<-eqB hf];exact ha.1
   ·exact cfOf_ok ha.2 g c h
  ·exact cfOf_ok ha.2 g c h
theorem Q4{ty:TyT}(hty:Xd P ty){l:List (FuncId×Con)}(hl:Q8 P l)(lp:Nat->Option QJ){yb:Option (Array Tmp×QJ)}:Z8 P ⟨ty,QE l,lp,yb⟩:=⟨hty,cfOf_ok hl⟩
theorem Q7.nil{ro:Option Nat}{E:Env}{yk:Option YI}:Q7 P N ro n0 E [] yk:=λp hp=>by simp at hp
theorem Q7.skip{ro:Option Nat}{E:Env}{yk:Option YI}{i:Nat}{B:CC}{l:List (Nat×CC)}(h1:E.lp i=none)(h:Q7 P N ro n0 E l yk):Q7 P N ro n0 E ((i,B)::l) yk:=λp hp lp' hlp=>by
 rcases AW.1 hp with rfl|hp
 ·rw[h1]at hlp;cases hlp
 ·exact h p hp lp' hlp
theorem Q7.cons{ro:Option Nat}{E:Env}{yk:Option YI}{i:Nat}{B:CC}{l:List (Nat×CC)}{lp:QJ}(h1:E.lp i=some lp)(h2:QF P N ro n0 B lp yk)(h:Q7 P N ro n0 E l yk):Q7 P N ro n0 E ((i,B)::l) yk:=λp hp lp' hlp=>by
 simp only[AW]at hp;rcases hp with rfl|hp
 ·rw[h1]at hlp;injection hlp with hlp;subst hlp;exact h2
 ·exact h p hp lp' hlp
theorem Q5(hm:P.follows .mixedOrders=true){E:Env}(hE:Z8 P E){f:FuncId}{rs:List ResultVar}{C:CC}(hs:Q6 P f N rs C){X Y:Type}{g:Sg X}{ft:Ft Y}(hn0:Nat.beq g.h.length n0=true)(hn:Nat.ble g.vs.length N=true)
  {l:List (Nat×CC)} (hl:QA C 0=l) (hal:Q7 P N none n0 E l) (hf:∀a b,ft.fv (ft.to a b)=a/\ft.fh (ft.to a b)=b) (hto:∀a b,g.fa (g.to a b)=a/\g.fh (g.to a b)=b)
  {m:X->Option Y} (hrun:∀x,exec E N C 0 (QD 0 (g.A x)) (g.H x) (finish n0 E.ty rs ft)=m x) (hyk:Zj P n0 E none:=by exact Zj.no rfl) (hg:Jb P N none n0 E none C 0:=by exact Jb.no (by kernel_rfl)):QB P f g ft m:=
 ⟨hto,BN (leB' hn) (let ⟨_,_,_,_,h⟩:=hs.ex;BG h.2.2.2.2.2.2),λx y hp=>fn_exec hm hE hs (n0:=n0) (by rw[Sg.H,XA];exact eqB hn0) (by rw[Sg.A,Z9];exact leB' hn) (hl▸hal) hf ((hrun x).trans hp) hyk hg⟩
end
end Go.Abs
