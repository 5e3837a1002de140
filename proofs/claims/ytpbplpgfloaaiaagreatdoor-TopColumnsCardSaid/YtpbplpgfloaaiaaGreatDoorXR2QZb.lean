/- A part of the proof. -/
import Derived.Test.YtpbplpgfloaaiaaGreatDoorXR2QZa
set_option linter.all false
namespace Go.Proofs.YtpbplpgfloaaiaaGreatDoor
open Go.Abs
namespace Gn
noncomputable def tab2:Tab:=tabC Tryz.prog [4,5,13,14,15,16,17,18,19,20,21,22,34,36,39,40,41,42,43,44,45,46,47,49,50,51,52,55,56,59,64,65,67,68,70,71,72,73,74,75,76,77,78,79,80,81,82,83,84,85,86,87,88,89,90,91,94,95,96,97,98,100,101,102,106,108,110,111,112,113,114,115,116,117,118,119,120,121,122,123,124,125,126,127,128,129,130,131,132,133,135,136,137,139,141,142,144,145,146,147,148,149,150,151,152,153,154,155,156,157,158,159,160,161,162,163,164,165,166,167,168,169,170,171,172,173,174,175,176,177,178,179,180,181,182,183,184,186,188,189,190,191,192,194,195,196,199,200,201,204]
theorem tab2_ok(f:FuncId)(N:Nat)(rs:List ResultVar)(C:CC)(h:tab2 f=some (N,rs,C)):Q6 Tryz.prog f N rs C:=tabC_ok h
end Gn
end Go.Proofs.YtpbplpgfloaaiaaGreatDoor
