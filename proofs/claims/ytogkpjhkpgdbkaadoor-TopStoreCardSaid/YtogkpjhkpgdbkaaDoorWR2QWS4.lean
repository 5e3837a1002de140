/-
  The table of the stripped functions.
-/
import Derived.Test.YtogkpjhkpgdbkaaDoorWR2QWS3
set_option linter.all false
namespace Go.Proofs.YtogkpjhkpgdbkaaDoor
open Go.Abs
def tab : Tab := fun f => match f with
 | 3 => some (126,[.tmp 4],C3)
 | 4 => some (13,[.tmp 0],C4)
 | 5 => some (63,[.tmp 4,.tmp 5],C5)
 | 6 => some (36,[.tmp 6],C6)
 | 7 => some (96,[.tmp 8],C7)
 | 8 => some (90,[.tmp 4,.tmp 5],C8)
 | 9 => some (55,[.tmp 4],C9)
 | 10 => some (91,[.tmp 4],C10)
 | 11 => some (25,[.tmp 2],C11)
 | 12 => some (14,[.tmp 2],C12)
 | 13 => some (9,[.tmp 4],C13)
 | 14 => some (6,[.tmp 2],C14)
 | 15 => some (5,[.tmp 2],C15)
 | 16 => some (8,[.tmp 2],C16)
 | 17 => some (51,[.tmp 4],C17)
 | 18 => some (55,[],C18)
 | 19 => some (28,[.tmp 4],C19)
 | 20 => some (51,[.tmp 4],C20)
 | 21 => some (92,[],C21)
 | 22 => some (6,[.tmp 2],C22)
 | 23 => some (5,[.tmp 2],C23)
 | 24 => some (14,[.tmp 4],C24)
 | 25 => some (27,[.tmp 4],C25)
 | 26 => some (9,[.tmp 4],C26)
 | 27 => some (6,[.tmp 2],C27)
 | 28 => some (15,[.tmp 2,.tmp 3],C28)
 | 29 => some (5,[.tmp 2],C29)
 | 30 => some (7,[.tmp 2],C30)
 | 31 => some (5,[.tmp 2],C31)
 | 32 => some (5,[.tmp 2],C32)
 | 33 => some (20,[.tmp 2],C33)
 | 34 => some (23,[.tmp 6],C34)
 | 35 => some (12,[.tmp 4],C35)
 | 36 => some (24,[.tmp 2],C36)
 | 37 => some (6,[.tmp 2],C37)
 | 38 => some (19,[.tmp 4],C38)
 | 39 => some (11,[.tmp 3],C39)
 | 40 => some (13,[.tmp 2],C40)
 | 41 => some (108,[],C41)
 | 42 => some (48,[.tmp 4],C42)
 | 43 => some (28,[.tmp 6],C43)
 | 44 => some (6,[.tmp 2],C44)
 | 45 => some (5,[.tmp 2],C45)
 | 46 => some (9,[.tmp 2],C46)
 | 47 => some (30,[.tmp 4,.tmp 5],C47)
 | 48 => some (9,[.tmp 4],C48)
 | 49 => some (17,[.tmp 4,.tmp 5],C49)
 | 50 => some (51,[.tmp 4,.tmp 5],C50)
 | 51 => some (19,[.tmp 4],C51)
 | _ => none
theorem tab_ok (f : FuncId) (N : Nat) (rs : List ResultVar) (C : CC) (h : tab f = some (N,rs,C)) : Stripped Tryd.prog f N rs C := by
 unfold tab at h
 split at h
 ·injection h with h; injection h with h1 h; injection h with h2 h3; subst h1; subst h2; subst h3; exact s3
 ·injection h with h; injection h with h1 h; injection h with h2 h3; subst h1; subst h2; subst h3; exact s4
 ·injection h with h; injection h with h1 h; injection h with h2 h3; subst h1; subst h2; subst h3; exact s5
 ·injection h with h; injection h with h1 h; injection h with h2 h3; subst h1; subst h2; subst h3; exact s6
 ·injection h with h; injection h with h1 h; injection h with h2 h3; subst h1; subst h2; subst h3; exact s7
 ·injection h with h; injection h with h1 h; injection h with h2 h3; subst h1; subst h2; subst h3; exact s8
 ·injection h with h; injection h with h1 h; injection h with h2 h3; subst h1; subst h2; subst h3; exact s9
 ·injection h with h; injection h with h1 h; injection h with h2 h3; subst h1; subst h2; subst h3; exact s10
 ·injection h with h; injection h with h1 h; injection h with h2 h3; subst h1; subst h2; subst h3; exact s11
 ·injection h with h; injection h with h1 h; injection h with h2 h3; subst h1; subst h2; subst h3; exact s12
 ·injection h with h; injection h with h1 h; injection h with h2 h3; subst h1; subst h2; subst h3; exact s13
 ·injection h with h; injection h with h1 h; injection h with h2 h3; subst h1; subst h2; subst h3; exact s14
 ·injection h with h; injection h with h1 h; injection h with h2 h3; subst h1; subst h2; subst h3; exact s15
 ·injection h with h; injection h with h1 h; injection h with h2 h3; subst h1; subst h2; subst h3; exact s16
 ·injection h with h; injection h with h1 h; injection h with h2 h3; subst h1; subst h2; subst h3; exact s17
 ·injection h with h; injection h with h1 h; injection h with h2 h3; subst h1; subst h2; subst h3; exact s18
 ·injection h with h; injection h with h1 h; injection h with h2 h3; subst h1; subst h2; subst h3; exact s19
 ·injection h with h; injection h with h1 h; injection h with h2 h3; subst h1; subst h2; subst h3; exact s20
 ·injection h with h; injection h with h1 h; injection h with h2 h3; subst h1; subst h2; subst h3; exact s21
 ·injection h with h; injection h with h1 h; injection h with h2 h3; subst h1; subst h2; subst h3; exact s22
 ·injection h with h; injection h with h1 h; injection h with h2 h3; subst h1; subst h2; subst h3; exact s23
 ·injection h with h; injection h with h1 h; injection h with h2 h3; subst h1; subst h2; subst h3; exact s24
 ·injection h with h; injection h with h1 h; injection h with h2 h3; subst h1; subst h2; subst h3; exact s25
 ·injection h with h; injection h with h1 h; injection h with h2 h3; subst h1; subst h2; subst h3; exact s26
 ·injection h with h; injection h with h1 h; injection h with h2 h3; subst h1; subst h2; subst h3; exact s27
 ·injection h with h; injection h with h1 h; injection h with h2 h3; subst h1; subst h2; subst h3; exact s28
 ·injection h with h; injection h with h1 h; injection h with h2 h3; subst h1; subst h2; subst h3; exact s29
 ·injection h with h; injection h with h1 h; injection h with h2 h3; subst h1; subst h2; subst h3; exact s30
 ·injection h with h; injection h with h1 h; injection h with h2 h3; subst h1; subst h2; subst h3; exact s31
 ·injection h with h; injection h with h1 h; injection h with h2 h3; subst h1; subst h2; subst h3; exact s32
 ·injection h with h; injection h with h1 h; injection h with h2 h3; subst h1; subst h2; subst h3; exact s33
 ·injection h with h; injection h with h1 h; injection h with h2 h3; subst h1; subst h2; subst h3; exact s34
 ·injection h with h; injection h with h1 h; injection h with h2 h3; subst h1; subst h2; subst h3; exact s35
 ·injection h with h; injection h with h1 h; injection h with h2 h3; subst h1; subst h2; subst h3; exact s36
 ·injection h with h; injection h with h1 h; injection h with h2 h3; subst h1; subst h2; subst h3; exact s37
 ·injection h with h; injection h with h1 h; injection h with h2 h3; subst h1; subst h2; subst h3; exact s38
 ·injection h with h; injection h with h1 h; injection h with h2 h3; subst h1; subst h2; subst h3; exact s39
 ·injection h with h; injection h with h1 h; injection h with h2 h3; subst h1; subst h2; subst h3; exact s40
 ·injection h with h; injection h with h1 h; injection h with h2 h3; subst h1; subst h2; subst h3; exact s41
 ·injection h with h; injection h with h1 h; injection h with h2 h3; subst h1; subst h2; subst h3; exact s42
 ·injection h with h; injection h with h1 h; injection h with h2 h3; subst h1; subst h2; subst h3; exact s43
 ·injection h with h; injection h with h1 h; injection h with h2 h3; subst h1; subst h2; subst h3; exact s44
 ·injection h with h; injection h with h1 h; injection h with h2 h3; subst h1; subst h2; subst h3; exact s45
 ·injection h with h; injection h with h1 h; injection h with h2 h3; subst h1; subst h2; subst h3; exact s46
 ·injection h with h; injection h with h1 h; injection h with h2 h3; subst h1; subst h2; subst h3; exact s47
 ·injection h with h; injection h with h1 h; injection h with h2 h3; subst h1; subst h2; subst h3; exact s48
 ·injection h with h; injection h with h1 h; injection h with h2 h3; subst h1; subst h2; subst h3; exact s49
 ·injection h with h; injection h with h1 h; injection h with h2 h3; subst h1; subst h2; subst h3; exact s50
 ·injection h with h; injection h with h1 h; injection h with h2 h3; subst h1; subst h2; subst h3; exact s51
 ·cases h
theorem mixed : Tryd.prog.follows .mixedOrders = true := by kernel_rfl
end Go.Proofs.YtogkpjhkpgdbkaaDoor
