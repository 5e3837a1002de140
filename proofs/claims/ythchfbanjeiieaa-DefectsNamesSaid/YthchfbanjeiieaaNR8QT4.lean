/-
  The table of the stripped functions.
-/
import Derived.Test.YthchfbanjeiieaaNR8QT3
set_option linter.all false
namespace Go.Proofs.Ythchfbanjeiieaa
open Go.Abs
def tab : Tab := fun f => match f with
 | 3 => some (136,[.tmp 4],C3)
 | 4 => some (47,[.tmp 4],C4)
 | 5 => some (158,[.tmp 6],C5)
 | 6 => some (111,[.tmp 4],C6)
 | 7 => some (150,[.tmp 4],C7)
 | 8 => some (62,[.tmp 2],C8)
 | 9 => some (135,[.tmp 0],C9)
 | 10 => some (25,[.tmp 2,.tmp 3],C10)
 | 11 => some (48,[.cell 2 33,.tmp 3],C11)
 | 12 => some (33,[.cell 8 38],C12)
 | 13 => some (21,[.tmp 2],C13)
 | 14 => some (8,[.tmp 2],C14)
 | 15 => some (36,[.tmp 6],C15)
 | 16 => some (61,[.cell 6 38],C16)
 | 17 => some (90,[.tmp 4,.tmp 5],C17)
 | 18 => some (58,[.tmp 4],C18)
 | 19 => some (11,[.tmp 2],C19)
 | 20 => some (48,[.tmp 8],C20)
 | 21 => some (51,[.tmp 4],C21)
 | 22 => some (13,[.tmp 2],C22)
 | 23 => some (31,[.tmp 2],C23)
 | 24 => some (63,[.tmp 4,.tmp 5],C24)
 | 25 => some (14,[.tmp 2],C25)
 | 26 => some (56,[.cell 2 38],C26)
 | 27 => some (28,[.tmp 4],C27)
 | 28 => some (5,[.tmp 2],C28)
 | 29 => some (51,[.tmp 4],C29)
 | 30 => some (92,[],C30)
 | 31 => some (132,[.cell 6 38],C31)
 | 32 => some (9,[.tmp 2],C32)
 | 33 => some (8,[.tmp 2],C33)
 | 34 => some (11,[.tmp 3],C34)
 | 35 => some (9,[.tmp 4],C35)
 | 36 => some (6,[.tmp 2],C36)
 | 37 => some (55,[],C37)
 | 38 => some (108,[],C38)
 | 39 => some (19,[.tmp 4],C39)
 | _ => none
theorem tab_ok (f : FuncId) (N : Nat) (rs : List ResultVar) (C : CC) (h : tab f = some (N,rs,C)) : Stripped Try.prog f N rs C := by
 unfold tab at h
 split at h
 ·injection h with h; injection h with h1 h; injection h with h2 h3; subst h1; subst h2; subst h3; exact s3
 ·injection h with h; injection h with h1 h; injection h with h2 h3; subst h1; subst h2; subst h3; exact s4
 ·injection h with h; injection h with h1 h; injection h with h2 h3; subst h1; subst h2; subst h3; exact s5
 ·injection h with h; injection h with h1 h; injection h with h2 h3; subst h1; subst h2; subst h3; exact s6
 ·injection h with h; injection h with h1 h; injection h with h2 h3; subst h1; subst h2; subst h3; exact s7
 ·injection h with h; injection h with h1 h; injection h with h2 h3; subst h1; subst h2; subst h3; exact s8
 ·injection h with h; injection h with h1 h; injection h with h2 h3; subst h1; subst h2; subst h3; exact s9
 ·injection h with h; injection h with h1 h; injection h with h2 h3; subst h1; subst h2; subst h3; exact s10
 ·injection h with h; injection h with h1 h; injection h with h2 h3; subst h1; subst h2; subst h3; exact s11
 ·injection h with h; injection h with h1 h; injection h with h2 h3; subst h1; subst h2; subst h3; exact s12
 ·injection h with h; injection h with h1 h; injection h with h2 h3; subst h1; subst h2; subst h3; exact s13
 ·injection h with h; injection h with h1 h; injection h with h2 h3; subst h1; subst h2; subst h3; exact s14
 ·injection h with h; injection h with h1 h; injection h with h2 h3; subst h1; subst h2; subst h3; exact s15
 ·injection h with h; injection h with h1 h; injection h with h2 h3; subst h1; subst h2; subst h3; exact s16
 ·injection h with h; injection h with h1 h; injection h with h2 h3; subst h1; subst h2; subst h3; exact s17
 ·injection h with h; injection h with h1 h; injection h with h2 h3; subst h1; subst h2; subst h3; exact s18
 ·injection h with h; injection h with h1 h; injection h with h2 h3; subst h1; subst h2; subst h3; exact s19
 ·injection h with h; injection h with h1 h; injection h with h2 h3; subst h1; subst h2; subst h3; exact s20
 ·injection h with h; injection h with h1 h; injection h with h2 h3; subst h1; subst h2; subst h3; exact s21
 ·injection h with h; injection h with h1 h; injection h with h2 h3; subst h1; subst h2; subst h3; exact s22
 ·injection h with h; injection h with h1 h; injection h with h2 h3; subst h1; subst h2; subst h3; exact s23
 ·injection h with h; injection h with h1 h; injection h with h2 h3; subst h1; subst h2; subst h3; exact s24
 ·injection h with h; injection h with h1 h; injection h with h2 h3; subst h1; subst h2; subst h3; exact s25
 ·injection h with h; injection h with h1 h; injection h with h2 h3; subst h1; subst h2; subst h3; exact s26
 ·injection h with h; injection h with h1 h; injection h with h2 h3; subst h1; subst h2; subst h3; exact s27
 ·injection h with h; injection h with h1 h; injection h with h2 h3; subst h1; subst h2; subst h3; exact s28
 ·injection h with h; injection h with h1 h; injection h with h2 h3; subst h1; subst h2; subst h3; exact s29
 ·injection h with h; injection h with h1 h; injection h with h2 h3; subst h1; subst h2; subst h3; exact s30
 ·injection h with h; injection h with h1 h; injection h with h2 h3; subst h1; subst h2; subst h3; exact s31
 ·injection h with h; injection h with h1 h; injection h with h2 h3; subst h1; subst h2; subst h3; exact s32
 ·injection h with h; injection h with h1 h; injection h with h2 h3; subst h1; subst h2; subst h3; exact s33
 ·injection h with h; injection h with h1 h; injection h with h2 h3; subst h1; subst h2; subst h3; exact s34
 ·injection h with h; injection h with h1 h; injection h with h2 h3; subst h1; subst h2; subst h3; exact s35
 ·injection h with h; injection h with h1 h; injection h with h2 h3; subst h1; subst h2; subst h3; exact s36
 ·injection h with h; injection h with h1 h; injection h with h2 h3; subst h1; subst h2; subst h3; exact s37
 ·injection h with h; injection h with h1 h; injection h with h2 h3; subst h1; subst h2; subst h3; exact s38
 ·injection h with h; injection h with h1 h; injection h with h2 h3; subst h1; subst h2; subst h3; exact s39
 ·cases h
theorem mixed : Try.prog.follows .mixedOrders = true := by kernel_rfl
end Go.Proofs.Ythchfbanjeiieaa
