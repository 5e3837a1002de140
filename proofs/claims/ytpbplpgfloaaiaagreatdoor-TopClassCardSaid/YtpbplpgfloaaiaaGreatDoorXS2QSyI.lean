/- A part of the proof. -/
import Derived.Test.YtpbplpgfloaaiaaGreatDoorXS2QSyH
set_option linter.all false
namespace Go.Abs
variable [Gl]
def Xy(l:List (FuncId×Con))(g:FuncId):List Con:=match l with
 |[]=>[]
 |(f,c)::l=>match Nat.beq f g with|true=>c::Xy l g|false=>Xy l g
def J2(l:List (Nat×QT))(i:Nat):Option QT:=match l with
 |[]=>none
 |(k,c)::l=>match Nat.beq k i with|true=>some c|false=>J2 l i
def CC.QR:CC->Nat->CC
 |.seq a b,i=>match Nat.blt i a.nl with|true=>a.QR i|false=>b.QR (i - a.nl)
 |.cond _ a b,i=>match Nat.blt i a.nl with|true=>a.QR i|false=>b.QR (i - a.nl)
 |.block _ a,i=>a.QR i
 |.scp a,i=>a.QR i
 |.loop a,i=>match i with|0=>a|i+1=>a.QR i
 |_,_=>.skip
inductive TB where
 |no
 |at (l:TB) (k:TypeId) (i:JD) (c:Option Ly) (r:TB)
def layB(i:JD)(c:Ly):Bool:=match i.zero with
 |some z=>Nat.beq i.size c.size&&zB c z
 |none=>false
def TB.ok(P:Program):TB->Prop
 |.no=>True
 |.at l k i c r=>l.ok P/\(tinf P k=some i/\(match c with|some c=>layB i c|none=>true)=true)/\r.ok P
def Yz(P:Program):List (FuncId×Con)->Prop
 |[]=>True
 |(f,c)::l=>J4 P f c/\Yz P l
section
variable {P:Program}{N n0:Nat}
def cfOf_ok:∀{l:List (FuncId×Con)},Yz P l->∀g c,c∈Xy l g->J4 P g c
 |[],_,g,c,h=>by simp[Xy]at h
 |(f,c')::l,ha,g,c,h=>by
  simp only[Xy]at h;split at h
  ·rename_i hf;simp only[AT]at h;rcases h with rfl|h
   ·rw[<-eqB hf];exact ha.1
   ·exact cfOf_ok ha.2 g c h
  ·exact cfOf_ok ha.2 g c h
def env_ok{ty:TyT}(hty:ZF P ty){l:List (FuncId×Con)}(hl:Yz P l)(lp:Nat->Option QT){yb:Option (Array Tmp×QT)}:Zk P ⟨ty,Xy l,lp,yb⟩:=⟨hty,cfOf_ok hl⟩
def QX.nil{ro:Option Nat}{E:Env}{yk:Option YI}:QX P N ro n0 E [] yk:=λp hp=>by simp at hp
def QX.skip{ro:Option Nat}{E:Env}{yk:Option YI}{i:Nat}{B:CC}{l:List (Nat×CC)}(h1:E.lp i=none)(h:QX P N ro n0 E l yk):QX P N ro n0 E ((i,B)::l) yk:=λp hp lp' hlp=>by
 rcases AT.1 hp with rfl|hp
 ·rw[h1]at hlp;cases hlp
 ·exact h p hp lp' hlp
def QX.cons{ro:Option Nat}{E:Env}{yk:Option YI}{i:Nat}{B:CC}{l:List (Nat×CC)}{lp:QT}(h1:E.lp i=some lp)(h2:QO P N ro n0 B lp yk)(h:QX P N ro n0 E l yk):QX P N ro n0 E ((i,B)::l) yk:=λp hp lp' hlp=>by
 simp only[AT]at hp;rcases hp with rfl|hp
 ·rw[h1]at hlp;injection hlp with hlp;subst hlp;exact h2
 ·exact h p hp lp' hlp
def mk_known(hm:P.follows .mixedOrders=true){E:Env}(hE:Zk P E){f:FuncId}{rs:List ResultVar}{C:CC}(hs:QD P f N rs C){X Y:Type}{g:Sg X}{ft:Ft Y}(hn0:Nat.beq g.h.length n0=true)(hn:Nat.ble g.vs.length N=true)
  {l:List (Nat×CC)} (hl:Xr C 0=l) (hal:QX P N none n0 E l) (hf:∀a b,ft.fv (ft.to a b)=a/\ft.fh (ft.to a b)=b) (hto:∀a b,g.fa (g.to a b)=a/\g.fh (g.to a b)=b)
  {m:X->Option Y} (hrun:∀x,exec E N C 0 (Zd 0 (g.A x)) (g.H x) (finish n0 E.ty rs ft)=m x) (hyk:ZI P n0 E none:=by exact ZI.no rfl) (hg:Jb P N none n0 E none C 0:=by exact Jb.no (by kernel_rfl)):QQ P f g ft m:=
 ⟨hto,Ao (leB' hn) (let ⟨_,_,_,_,h⟩:=hs.ex;BQ h.2.2.2.2.2.2),λx y hp=>fn_exec hm hE hs (n0:=n0) (by rw[Sg.H,Xm];exact eqB hn0) (by rw[Sg.A,Zl];exact leB' hn) (hl▸hal) hf ((hrun x).trans hp) hyk hg⟩
end
end Go.Abs
