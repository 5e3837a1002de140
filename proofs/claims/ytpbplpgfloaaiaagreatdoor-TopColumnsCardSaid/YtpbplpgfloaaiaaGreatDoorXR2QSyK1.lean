/- A part of the proof. -/
import Derived.Test.YtpbplpgfloaaiaaGreatDoorXR2QSyI
set_option linter.all false
namespace Go.Abs
variable [Gl]
def pairL:List Ly->Option Ly
 |[]=>none
 |[c]=>some c
 |c::d::l=>match pairL (d::l) with
  |some x=>some (.pair c x)
  |none=>none
def allL:List (Option Ly)->Option (List Ly)
 |[]=>some []
 |some c::l=>match allL l with
  |some x=>some (c::x)
  |none=>none
 |none::_=>none
def lyT(P:Program):Nat->TypeId->Option Ly
 |0,_=>none
 |n+1,t=>match tinf P t with
  |some i=>(match i.kind with
   |.int k=>some (.int k)
   |.bool=>some .bool
   |.string=>some .str
   |.slice e=>(match lyT P n e with
    |some c=>some (.sl c)
    |none=>none)
   |.struct fs=>(match allL (fs.map λf=>lyT P n f.2) with
    |some l=>pairL l
    |none=>none)
   |.array k e=>(match lyT P n e,Nat.ble k 16 with
    |some c,true=>pairL (List.replicate k c)
    |_,_=>none)
   |_=>none)
  |none=>none
noncomputable def tyC(P:Program):TyT:=λt=>match tinf P t with
 |some i=>some (i,match lyT P 8 t with
  |some c=>(match layB i c with
   |true=>some c
   |false=>none)
  |none=>none)
 |none=>none
theorem tyC_ok{P:Program}:Xd P (tyC P) where
 ok:=λt i c h=>by
  unfold tyC at h;split at h
  ·rename_i j hj;simp only[X3,A0]at h;rw[hj,h.1]
  ·cases h
 lay:=λt i c h=>by
  unfold tyC at h;split at h
  ·rename_i j hj;simp only[X3,A0]at h;obtain⟨rfl,h⟩:=h;split at h
   ·split at h
    ·rename_i this;cases h;simp only[layB]at this;split at this
     ·rename_i z hz;rw[A9]at this;exact⟨eqB this.1,z,hz,zB_ok this.2⟩
     ·cases this
    ·cases h
   ·cases h
  ·cases h
end Go.Abs
