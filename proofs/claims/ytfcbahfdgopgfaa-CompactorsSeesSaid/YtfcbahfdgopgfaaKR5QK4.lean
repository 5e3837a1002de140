/-
  The table of the stripped functions.
-/
import Derived.Test.YtfcbahfdgopgfaaKR5QK3
set_option linter.unusedSimpArgs false
set_option linter.unusedVariables false
namespace Go.Proofs.Ytfcbahfdgopgfaa
open Go.Abs
def tab : Tab := fun f => match f with
  | 3 => some (212, [.tmp 4], C3)
  | 4 => some (201, [.tmp 6], C4)
  | 6 => some (153, [.tmp 6], C6)
  | 7 => some (176, [.tmp 6], C7)
  | 9 => some (235, [.tmp 0], C9)
  | 10 => some (33, [.cell 2 32], C10)
  | 11 => some (29, [.tmp 4], C11)
  | 12 => some (21, [.tmp 6, .tmp 7], C12)
  | 13 => some (54, [.tmp 8, .tmp 9], C13)
  | 14 => some (28, [.tmp 2, .tmp 3], C14)
  | 15 => some (42, [.tmp 8], C15)
  | 16 => some (16, [.tmp 6], C16)
  | 17 => some (55, [.tmp 6, .tmp 7], C17)
  | 18 => some (54, [.tmp 4, .tmp 5], C18)
  | 19 => some (20, [.cell 2 59], C19)
  | 20 => some (20, [.tmp 4, .tmp 5], C20)
  | 21 => some (51, [.tmp 6, .tmp 7], C21)
  | 22 => some (380, [.tmp 4], C22)
  | 23 => some (44, [.tmp 6], C23)
  | 24 => some (61, [.tmp 6], C24)
  | 25 => some (9, [.tmp 2], C25)
  | 26 => some (22, [.tmp 2], C26)
  | 27 => some (13, [.tmp 4], C27)
  | 28 => some (10, [.tmp 4], C28)
  | 29 => some (19, [.tmp 4], C29)
  | 30 => some (9, [.tmp 4], C30)
  | 31 => some (21, [.cell 4 75, .tmp 5], C31)
  | 32 => some (42, [], C32)
  | 33 => some (26, [.tmp 2], C33)
  | 34 => some (9, [.tmp 4], C34)
  | 35 => some (5, [.tmp 2], C35)
  | 36 => some (9, [.tmp 4], C36)
  | 37 => some (8, [.tmp 3], C37)
  | 38 => some (13, [.tmp 4], C38)
  | 39 => some (7, [.tmp 2], C39)
  | 40 => some (19, [.tmp 4], C40)
  | 41 => some (19, [.tmp 4], C41)
  | 42 => some (35, [.tmp 2], C42)
  | _ => none
theorem tab_ok (f : FuncId) (N : Nat) (rs : List ResultVar) (C : CC) (h : tab f = some (N, rs, C)) : Stripped Try.prog f N rs C := by
  unfold tab at h
  split at h
  · injection h with h; injection h with h1 h; injection h with h2 h3; subst h1; subst h2; subst h3; exact s3
  · injection h with h; injection h with h1 h; injection h with h2 h3; subst h1; subst h2; subst h3; exact s4
  · injection h with h; injection h with h1 h; injection h with h2 h3; subst h1; subst h2; subst h3; exact s6
  · injection h with h; injection h with h1 h; injection h with h2 h3; subst h1; subst h2; subst h3; exact s7
  · injection h with h; injection h with h1 h; injection h with h2 h3; subst h1; subst h2; subst h3; exact s9
  · injection h with h; injection h with h1 h; injection h with h2 h3; subst h1; subst h2; subst h3; exact s10
  · injection h with h; injection h with h1 h; injection h with h2 h3; subst h1; subst h2; subst h3; exact s11
  · injection h with h; injection h with h1 h; injection h with h2 h3; subst h1; subst h2; subst h3; exact s12
  · injection h with h; injection h with h1 h; injection h with h2 h3; subst h1; subst h2; subst h3; exact s13
  · injection h with h; injection h with h1 h; injection h with h2 h3; subst h1; subst h2; subst h3; exact s14
  · injection h with h; injection h with h1 h; injection h with h2 h3; subst h1; subst h2; subst h3; exact s15
  · injection h with h; injection h with h1 h; injection h with h2 h3; subst h1; subst h2; subst h3; exact s16
  · injection h with h; injection h with h1 h; injection h with h2 h3; subst h1; subst h2; subst h3; exact s17
  · injection h with h; injection h with h1 h; injection h with h2 h3; subst h1; subst h2; subst h3; exact s18
  · injection h with h; injection h with h1 h; injection h with h2 h3; subst h1; subst h2; subst h3; exact s19
  · injection h with h; injection h with h1 h; injection h with h2 h3; subst h1; subst h2; subst h3; exact s20
  · injection h with h; injection h with h1 h; injection h with h2 h3; subst h1; subst h2; subst h3; exact s21
  · injection h with h; injection h with h1 h; injection h with h2 h3; subst h1; subst h2; subst h3; exact s22
  · injection h with h; injection h with h1 h; injection h with h2 h3; subst h1; subst h2; subst h3; exact s23
  · injection h with h; injection h with h1 h; injection h with h2 h3; subst h1; subst h2; subst h3; exact s24
  · injection h with h; injection h with h1 h; injection h with h2 h3; subst h1; subst h2; subst h3; exact s25
  · injection h with h; injection h with h1 h; injection h with h2 h3; subst h1; subst h2; subst h3; exact s26
  · injection h with h; injection h with h1 h; injection h with h2 h3; subst h1; subst h2; subst h3; exact s27
  · injection h with h; injection h with h1 h; injection h with h2 h3; subst h1; subst h2; subst h3; exact s28
  · injection h with h; injection h with h1 h; injection h with h2 h3; subst h1; subst h2; subst h3; exact s29
  · injection h with h; injection h with h1 h; injection h with h2 h3; subst h1; subst h2; subst h3; exact s30
  · injection h with h; injection h with h1 h; injection h with h2 h3; subst h1; subst h2; subst h3; exact s31
  · injection h with h; injection h with h1 h; injection h with h2 h3; subst h1; subst h2; subst h3; exact s32
  · injection h with h; injection h with h1 h; injection h with h2 h3; subst h1; subst h2; subst h3; exact s33
  · injection h with h; injection h with h1 h; injection h with h2 h3; subst h1; subst h2; subst h3; exact s34
  · injection h with h; injection h with h1 h; injection h with h2 h3; subst h1; subst h2; subst h3; exact s35
  · injection h with h; injection h with h1 h; injection h with h2 h3; subst h1; subst h2; subst h3; exact s36
  · injection h with h; injection h with h1 h; injection h with h2 h3; subst h1; subst h2; subst h3; exact s37
  · injection h with h; injection h with h1 h; injection h with h2 h3; subst h1; subst h2; subst h3; exact s38
  · injection h with h; injection h with h1 h; injection h with h2 h3; subst h1; subst h2; subst h3; exact s39
  · injection h with h; injection h with h1 h; injection h with h2 h3; subst h1; subst h2; subst h3; exact s40
  · injection h with h; injection h with h1 h; injection h with h2 h3; subst h1; subst h2; subst h3; exact s41
  · injection h with h; injection h with h1 h; injection h with h2 h3; subst h1; subst h2; subst h3; exact s42
  · cases h
theorem mixed : Try.prog.follows .mixedOrders = true := by kernel_rfl
end Go.Proofs.Ytfcbahfdgopgfaa
