/- A part of the proof. -/
import Derived.Test.YtpbplpgfloaaiaaGreatDoorXR2QMc
import Derived.Test.YtpbplpgfloaaiaaGreatDoorXR2QAbsK0
import Derived.Test.YtpbplpgfloaaiaaGreatDoorXR2QSyJ
import Derived.Test.YtpbplpgfloaaiaaGreatDoorXR2QSyN
import Derived.Test.YtpbplpgfloaaiaaGreatDoorXR2QSyO
import Derived.Test.YtpbplpgfloaaiaaGreatDoorXR2QSyK1
import Derived.Test.YtpbplpgfloaaiaaGreatDoorXR2QSyC
import Derived.Test.YtpbplpgfloaaiaaGreatDoorRows
import Derived.Shelf.GgClosure.StringsIndexFuncTop
import Derived.Shelf.Strings.Runes
import Derived.Test.YtpbplpgfloaaiaaGreatDoorProg
set_option linter.all false
set_option maxRecDepth 100000
noncomputable section
namespace Go.Proofs.YtpbplpgfloaaiaaGreatDoor
open Go.Abs
instance glI:Gl:={ dat:=λg=>match g with
 |0=>some ⟨(.pair (.pair (.int .i64) (.int .i64)) (.pair (.pair (.int .i64) (.int .i64)) (.pair (.pair (.int .i64) (.int .i64)) (.pair (.pair (.int .i64) (.int .i64)) (.pair (.pair (.int .i64) (.int .i64)) (.pair (.pair (.int .i64) (.int .i64)) (.pair (.pair (.int .i64) (.int .i64)) (.pair (.pair (.int .i64) (.int .i64)) (.pair (.pair (.int .i64) (.int .i64)) (.pair (.pair (.int .i64) (.int .i64)) (.pair (.pair (.int .i64) (.int .i64)) (.pair (.pair (.int .i64) (.int .i64)) (.pair (.pair (.int .i64) (.int .i64)) (.pair (.pair (.int .i64) (.int .i64)) (.pair (.pair (.int .i64) (.int .i64)) (.pair (.int .i64) (.int .i64))))))))))))))))),((0,0),((0,0),((0,0),((1,1),((1,1),((2,16),((2,16),((2,16),((2,16),((2,16),((2,16),((3,3),((2,2),((1,16),((1,1),(0,0))))))))))))))))⟩
 |1=>some ⟨(.pair (.int .i64) (.int .i64)),(1073741824,1073741824)⟩
 |2=>some ⟨(.pair (.int .i64) (.int .i64)),(1,1)⟩
 |_=>none }
theorem Tryz.ti283:tinf Tryz.prog 283=some ⟨.struct [(0,3),(1,3)],2,16,some [.int .i64 0,.int .i64 0],some [.int,.int]⟩:=by kernel_rfl
end Go.Proofs.YtpbplpgfloaaiaaGreatDoor
namespace Go.Proofs.YtpbplpgfloaaiaaGreatDoor
open Go.Abs
def C4:CC:=cq Tryz.f4
theorem s4:Q6 Tryz.prog 4 291 [.tmp 6] C4:=sq Tryz.func4 (by kernel_rfl)
def C5:CC:=cq Tryz.f5
theorem s5:Q6 Tryz.prog 5 6 [.cell 2 34] C5:=sq Tryz.func5 (by kernel_rfl)
def C13:CC:=cq Tryz.f13
theorem s13:Q6 Tryz.prog 13 9 [.cell 4 58] C13:=sq Tryz.func13 (by kernel_rfl)
def C14:CC:=cq Tryz.f14
theorem s14:Q6 Tryz.prog 14 64 [.cell 4 74] C14:=sq Tryz.func14 (by kernel_rfl)
def C15:CC:=cq Tryz.f15
theorem s15:Q6 Tryz.prog 15 87 [.cell 4 77,.tmp 5,.tmp 6] C15:=sq Tryz.func15 (by kernel_rfl)
def C16:CC:=cq Tryz.f16
theorem s16:Q6 Tryz.prog 16 25 [.cell 6 77,.tmp 7,.tmp 8] C16:=sq Tryz.func16 (by kernel_rfl)
def C17:CC:=cq Tryz.f17
theorem s17:Q6 Tryz.prog 17 25 [.tmp 6,.tmp 7] C17:=sq Tryz.func17 (by kernel_rfl)
def C19:CC:=cq Tryz.f19
theorem s19:Q6 Tryz.prog 19 33 [.cell 2 85] C19:=sq Tryz.func19 (by kernel_rfl)
def C20:CC:=cq Tryz.f20
theorem s20:Q6 Tryz.prog 20 54 [.tmp 8,.tmp 9] C20:=sq Tryz.func20 (by kernel_rfl)
def C21:CC:=cq Tryz.f21
theorem s21:Q6 Tryz.prog 21 28 [.tmp 2,.tmp 3] C21:=sq Tryz.func21 (by kernel_rfl)
def C22:CC:=cq Tryz.f22
theorem s22:Q6 Tryz.prog 22 178 [.cell 2 34] C22:=sq Tryz.func22 (by kernel_rfl)
def C34:CC:=cq Tryz.f34
theorem s34:Q6 Tryz.prog 34 9 [.tmp 2] C34:=sq Tryz.func34 (by kernel_rfl)
def C36:CC:=cq Tryz.f36
theorem s36:Q6 Tryz.prog 36 6 [.tmp 2] C36:=sq Tryz.func36 (by kernel_rfl)
def C39:CC:=cq Tryz.f39
theorem s39:Q6 Tryz.prog 39 86 [.cell 4 58] C39:=sq Tryz.func39 (by kernel_rfl)
def C40:CC:=cq Tryz.f40
theorem s40:Q6 Tryz.prog 40 34 [.tmp 2,.tmp 3] C40:=sq Tryz.func40 (by kernel_rfl)
def C41:CC:=cq Tryz.f41
theorem s41:Q6 Tryz.prog 41 43 [.tmp 4] C41:=sq Tryz.func41 (by kernel_rfl)
def C42:CC:=cq Tryz.f42
theorem s42:Q6 Tryz.prog 42 46 [] C42:=sq Tryz.func42 (by kernel_rfl)
def C43:CC:=cq Tryz.f43
theorem s43:Q6 Tryz.prog 43 9 [.tmp 2] C43:=sq Tryz.func43 (by kernel_rfl)
def C44:CC:=cq Tryz.f44
theorem s44:Q6 Tryz.prog 44 91 [.tmp 4] C44:=sq Tryz.func44 (by kernel_rfl)
def C45:CC:=cq Tryz.f45
theorem s45:Q6 Tryz.prog 45 65 [.cell 2 77] C45:=sq Tryz.func45 (by kernel_rfl)
def C46:CC:=cq Tryz.f46
theorem s46:Q6 Tryz.prog 46 50 [.cell 6 77,.cell 7 77,.tmp 8,.tmp 9] C46:=sq Tryz.func46 (by kernel_rfl)
def C47:CC:=cq Tryz.f47
theorem s47:Q6 Tryz.prog 47 19 [.tmp 4] C47:=sq Tryz.func47 (by kernel_rfl)
def C49:CC:=cq Tryz.f49
theorem s49:Q6 Tryz.prog 49 44 [.tmp 6] C49:=sq Tryz.func49 (by kernel_rfl)
def C50:CC:=cq Tryz.f50
theorem s50:Q6 Tryz.prog 50 61 [.tmp 6] C50:=sq Tryz.func50 (by kernel_rfl)
def C51:CC:=cq Tryz.f51
theorem s51:Q6 Tryz.prog 51 158 [.cell 6 124] C51:=sq Tryz.func51 (by kernel_rfl)
def C55:CC:=cq Tryz.f55
theorem s55:Q6 Tryz.prog 55 13 [.tmp 2] C55:=sq Tryz.func55 (by kernel_rfl)
def C59:CC:=cq Tryz.f59
theorem s59:Q6 Tryz.prog 59 38 [.tmp 4] C59:=sq Tryz.func59 (by kernel_rfl)
def C65:CC:=cq Tryz.f65
theorem s65:Q6 Tryz.prog 65 16 [.tmp 4,.tmp 5] C65:=sq Tryz.func65 (by kernel_rfl)
def C68:CC:=cq Tryz.f68
theorem s68:Q6 Tryz.prog 68 27 [.tmp 4] C68:=sq Tryz.func68 (by kernel_rfl)
def C71:CC:=cq Tryz.f71
theorem s71:Q6 Tryz.prog 71 131 [.tmp 2,.tmp 3] C71:=sq Tryz.func71 (by kernel_rfl)
def C72:CC:=cq Tryz.f72
theorem s72:Q6 Tryz.prog 72 9 [] C72:=sq Tryz.func72 (by kernel_rfl)
def C73:CC:=cq Tryz.f73
theorem s73:Q6 Tryz.prog 73 15 [.tmp 5] C73:=sq Tryz.func73 (by kernel_rfl)
def C74:CC:=cq Tryz.f74
theorem s74:Q6 Tryz.prog 74 20 [.tmp 4] C74:=sq Tryz.func74 (by kernel_rfl)
def C75:CC:=cq Tryz.f75
theorem s75:Q6 Tryz.prog 75 6 [.tmp 2] C75:=sq Tryz.func75 (by kernel_rfl)
def C76:CC:=cq Tryz.f76
theorem s76:Q6 Tryz.prog 76 9 [.tmp 4] C76:=sq Tryz.func76 (by kernel_rfl)
def C77:CC:=cq Tryz.f77
theorem s77:Q6 Tryz.prog 77 5 [.tmp 2] C77:=sq Tryz.func77 (by kernel_rfl)
def C79:CC:=cq Tryz.f79
theorem s79:Q6 Tryz.prog 79 5 [.tmp 2] C79:=sq Tryz.func79 (by kernel_rfl)
def C80:CC:=cq Tryz.f80
theorem s80:Q6 Tryz.prog 80 7 [.tmp 2] C80:=sq Tryz.func80 (by kernel_rfl)
def C81:CC:=cq Tryz.f81
theorem s81:Q6 Tryz.prog 81 5 [.tmp 2] C81:=sq Tryz.func81 (by kernel_rfl)
def C82:CC:=cq Tryz.f82
theorem s82:Q6 Tryz.prog 82 5 [.tmp 2] C82:=sq Tryz.func82 (by kernel_rfl)
def C83:CC:=cq Tryz.f83
theorem s83:Q6 Tryz.prog 83 20 [.tmp 2] C83:=sq Tryz.func83 (by kernel_rfl)
def C84:CC:=cq Tryz.f84
theorem s84:Q6 Tryz.prog 84 23 [.tmp 6] C84:=sq Tryz.func84 (by kernel_rfl)
def C85:CC:=cq Tryz.f85
theorem s85:Q6 Tryz.prog 85 12 [.tmp 4] C85:=sq Tryz.func85 (by kernel_rfl)
def C86:CC:=cq Tryz.f86
theorem s86:Q6 Tryz.prog 86 24 [.tmp 2] C86:=sq Tryz.func86 (by kernel_rfl)
def C87:CC:=cq Tryz.f87
theorem s87:Q6 Tryz.prog 87 20 [.tmp 4] C87:=sq Tryz.func87 (by kernel_rfl)
def C88:CC:=cq Tryz.f88
theorem s88:Q6 Tryz.prog 88 9 [.tmp 2] C88:=sq Tryz.func88 (by kernel_rfl)
def C89:CC:=cq Tryz.f89
theorem s89:Q6 Tryz.prog 89 47 [.tmp 6] C89:=sq Tryz.func89 (by kernel_rfl)
def C90:CC:=cq Tryz.f90
theorem s90:Q6 Tryz.prog 90 189 [.cell 4 77] C90:=sq Tryz.func90 (by kernel_rfl)
def C94:CC:=cq Tryz.f94
theorem s94:Q6 Tryz.prog 94 22 [.tmp 2] C94:=sq Tryz.func94 (by kernel_rfl)
def C95:CC:=cq Tryz.f95
theorem s95:Q6 Tryz.prog 95 5 [.tmp 2] C95:=sq Tryz.func95 (by kernel_rfl)
def C96:CC:=cq Tryz.f96
theorem s96:Q6 Tryz.prog 96 13 [.tmp 4] C96:=sq Tryz.func96 (by kernel_rfl)
def C97:CC:=cq Tryz.f97
theorem s97:Q6 Tryz.prog 97 10 [.tmp 4] C97:=sq Tryz.func97 (by kernel_rfl)
def C98:CC:=cq Tryz.f98
theorem s98:Q6 Tryz.prog 98 11 [.tmp 2] C98:=sq Tryz.func98 (by kernel_rfl)
def C101:CC:=cq Tryz.f101
theorem s101:Q6 Tryz.prog 101 34 [.tmp 4] C101:=sq Tryz.func101 (by kernel_rfl)
def C108:CC:=cq Tryz.f108
theorem s108:Q6 Tryz.prog 108 45 [.tmp 4] C108:=sq Tryz.func108 (by kernel_rfl)
def C111:CC:=cq Tryz.f111
theorem s111:Q6 Tryz.prog 111 9 [.tmp 4] C111:=sq Tryz.func111 (by kernel_rfl)
def C113:CC:=cq Tryz.f113
theorem s113:Q6 Tryz.prog 113 73 [.tmp 2] C113:=sq Tryz.func113 (by kernel_rfl)
def C114:CC:=cq Tryz.f114
theorem s114:Q6 Tryz.prog 114 63 [] C114:=sq Tryz.func114 (by kernel_rfl)
def C115:CC:=cq Tryz.f115
theorem s115:Q6 Tryz.prog 115 6 [.tmp 2] C115:=sq Tryz.func115 (by kernel_rfl)
def C116:CC:=cq Tryz.f116
theorem s116:Q6 Tryz.prog 116 19 [.tmp 4] C116:=sq Tryz.func116 (by kernel_rfl)
def C117:CC:=cq Tryz.f117
theorem s117:Q6 Tryz.prog 117 5 [.tmp 2] C117:=sq Tryz.func117 (by kernel_rfl)
def C118:CC:=cq Tryz.f118
theorem s118:Q6 Tryz.prog 118 28 [.tmp 6] C118:=sq Tryz.func118 (by kernel_rfl)
def C119:CC:=cq Tryz.f119
theorem s119:Q6 Tryz.prog 119 6 [.tmp 2] C119:=sq Tryz.func119 (by kernel_rfl)
def C120:CC:=cq Tryz.f120
theorem s120:Q6 Tryz.prog 120 6 [.tmp 2] C120:=sq Tryz.func120 (by kernel_rfl)
def C121:CC:=cq Tryz.f121
theorem s121:Q6 Tryz.prog 121 5 [.tmp 2] C121:=sq Tryz.func121 (by kernel_rfl)
def C122:CC:=cq Tryz.f122
theorem s122:Q6 Tryz.prog 122 9 [.tmp 2] C122:=sq Tryz.func122 (by kernel_rfl)
def C124:CC:=cq Tryz.f124
theorem s124:Q6 Tryz.prog 124 8 [.tmp 6] C124:=sq Tryz.func124 (by kernel_rfl)
def C126:CC:=cq Tryz.f126
theorem s126:Q6 Tryz.prog 126 24 [.tmp 6] C126:=sq Tryz.func126 (by kernel_rfl)
def C128:CC:=cq Tryz.f128
theorem s128:Q6 Tryz.prog 128 6 [.tmp 3] C128:=sq Tryz.func128 (by kernel_rfl)
def C129:CC:=cq Tryz.f129
theorem s129:Q6 Tryz.prog 129 18 [.tmp 4] C129:=sq Tryz.func129 (by kernel_rfl)
def C130:CC:=cq Tryz.f130
theorem s130:Q6 Tryz.prog 130 42 [.tmp 4] C130:=sq Tryz.func130 (by kernel_rfl)
def C136:CC:=cq Tryz.f136
theorem s136:Q6 Tryz.prog 136 9 [.tmp 4] C136:=sq Tryz.func136 (by kernel_rfl)
def C137:CC:=cq Tryz.f137
theorem s137:Q6 Tryz.prog 137 8 [.tmp 3] C137:=sq Tryz.func137 (by kernel_rfl)
def C139:CC:=cq Tryz.f139
theorem s139:Q6 Tryz.prog 139 4 [.tmp 2] C139:=sq Tryz.func139 (by kernel_rfl)
def C141:CC:=cq Tryz.f141
theorem s141:Q6 Tryz.prog 141 19 [.tmp 4] C141:=sq Tryz.func141 (by kernel_rfl)
def C142:CC:=cq Tryz.f142
theorem s142:Q6 Tryz.prog 142 53 [.tmp 4] C142:=sq Tryz.func142 (by kernel_rfl)
def C145:CC:=cq Tryz.f145
theorem s145:Q6 Tryz.prog 145 9 [.tmp 4] C145:=sq Tryz.func145 (by kernel_rfl)
def C146:CC:=cq Tryz.f146
theorem s146:Q6 Tryz.prog 146 53 [] C146:=sq Tryz.func146 (by kernel_rfl)
def C148:CC:=cq Tryz.f148
theorem s148:Q6 Tryz.prog 148 9 [.tmp 4] C148:=sq Tryz.func148 (by kernel_rfl)
def C150:CC:=cq Tryz.f150
theorem s150:Q6 Tryz.prog 150 6 [.tmp 4] C150:=sq Tryz.func150 (by kernel_rfl)
def C151:CC:=cq Tryz.f151
theorem s151:Q6 Tryz.prog 151 15 [.tmp 6] C151:=sq Tryz.func151 (by kernel_rfl)
def C152:CC:=cq Tryz.f152
theorem s152:Q6 Tryz.prog 152 23 [.tmp 8] C152:=sq Tryz.func152 (by kernel_rfl)
def C162:CC:=cq Tryz.f162
theorem s162:Q6 Tryz.prog 162 19 [.tmp 4] C162:=sq Tryz.func162 (by kernel_rfl)
def C163:CC:=cq Tryz.f163
theorem s163:Q6 Tryz.prog 163 13 [.tmp 3] C163:=sq Tryz.func163 (by kernel_rfl)
def C164:CC:=cq Tryz.f164
theorem s164:Q6 Tryz.prog 164 11 [.tmp 3] C164:=sq Tryz.func164 (by kernel_rfl)
def C165:CC:=cq Tryz.f165
theorem s165:Q6 Tryz.prog 165 45 [.tmp 4] C165:=sq Tryz.func165 (by kernel_rfl)
def C168:CC:=cq Tryz.f168
theorem s168:Q6 Tryz.prog 168 19 [.tmp 4] C168:=sq Tryz.func168 (by kernel_rfl)
def C170:CC:=cq Tryz.f170
theorem s170:Q6 Tryz.prog 170 19 [.tmp 4] C170:=sq Tryz.func170 (by kernel_rfl)
end Go.Proofs.YtpbplpgfloaaiaaGreatDoor
namespace Go.Proofs.YtpbplpgfloaaiaaGreatDoor
open Go.Abs
noncomputable def tab:Tab:=tabC Tryz.prog [4,5,13,14,15,16,17,19,20,21,22,34,36,39,40,41,42,43,44,45,46,47,49,50,51,52,55,56,59,65,68,70,71,72,73,74,75,76,77,78,79,80,81,82,83,84,85,86,87,88,89,90,94,95,96,97,98,100,101,102,106,108,111,112,113,114,115,116,117,118,119,120,121,122,123,124,125,126,127,128,129,130,136,137,139,141,142,144,145,146,147,148,149,150,151,152,162,163,164,165,166,167,168,169,170,178,179,180,181,194,199,200,201,204]
theorem tab_ok(f:FuncId)(N:Nat)(rs:List ResultVar)(C:CC)(h:tab f=some (N,rs,C)):Q6 Tryz.prog f N rs C:=tabC_ok h
theorem mixed:Tryz.prog.follows .mixedOrders=true:=by kernel_rfl
end Go.Proofs.YtpbplpgfloaaiaaGreatDoor
namespace Go.Proofs.YtpbplpgfloaaiaaGreatDoor
open Go.Abs
def ty:TyT:=tyC Tryz.prog
theorem ty_ok:Xd Tryz.prog ty:=tyC_ok
end Go.Proofs.YtpbplpgfloaaiaaGreatDoor
namespace Go.Proofs.YtpbplpgfloaaiaaGreatDoor
open Go.Abs
namespace M117
structure gX where(v:Int)
def g:Sg gX:=⟨[.c (.it .u8)],[],λa b=>⟨a.1⟩,λx=>(x.v,()),λx=>()⟩
abbrev fY:=Bool
def f:Ft fY:=⟨none,.c (.bo),[],λa b=>(a),λy=>y,λy=>()⟩
def cl:List (FuncId×Con):=[]
theorem cl_ok:Q8 Tryz.prog cl:=trivial
def E0:Env:=⟨ty,QE cl,λ_=>none,none⟩
def m(x:gX):Option fY:=some (decide (x.v<=1))
theorem m_eq(x:gX):exec E0 5 C117 0 (QD 0 (g.A x)) (g.H x) (finish 0 ty [.tmp 2] f)=m x:=by kernel_rfl
theorem tl:QA C117 0=[]:=by kernel_rfl
theorem known:QB Tryz.prog 117 g f m:=
 Q5 mixed (Q4 ty_ok cl_ok _) s117 rfl rfl tl Q7.nil (λ_ _=>⟨rfl,rfl⟩) (λ_ _=>⟨rfl,rfl⟩) m_eq
def con:Con:=Qa g f m default
theorem con_ok:QC Tryz.prog 117 con:=Q9 known (λ_=>rfl) rfl
end M117
namespace M120
structure gX where(v:Int)
def g:Sg gX:=⟨[.c (.it .u8)],[],λa b=>⟨a.1⟩,λx=>(x.v,()),λx=>()⟩
abbrev fY:=Int
def f:Ft fY:=⟨none,.c (.it .u8),[],λa b=>(a),λy=>y,λy=>()⟩
def cl:List (FuncId×Con):=[]
theorem cl_ok:Q8 Tryz.prog cl:=trivial
def E0:Env:=⟨ty,QE cl,λ_=>none,none⟩
def m(x:gX):Option fY:=bif decide (x.v>3) then some 2 else some x.v
theorem m_eq(x:gX):exec E0 6 C120 0 (QD 0 (g.A x)) (g.H x) (finish 0 ty [.tmp 2] f)=m x:=by kernel_rfl
theorem tl:QA C120 0=[]:=by kernel_rfl
theorem known:QB Tryz.prog 120 g f m:=
 Q5 mixed (Q4 ty_ok cl_ok _) s120 rfl rfl tl Q7.nil (λ_ _=>⟨rfl,rfl⟩) (λ_ _=>⟨rfl,rfl⟩) m_eq
def con:Con:=Qa g f m default
theorem con_ok:QC Tryz.prog 120 con:=Q9 known (λ_=>rfl) rfl
end M120
namespace M79
structure gX where(v:Int)
def g:Sg gX:=⟨[.c (.it .u8)],[],λa b=>⟨a.1⟩,λx=>(x.v,()),λx=>()⟩
abbrev fY:=Int
def f:Ft fY:=⟨none,.c (.it .u8),[],λa b=>(a),λy=>y,λy=>()⟩
def cl:List (FuncId×Con):=[]
theorem cl_ok:Q8 Tryz.prog cl:=trivial
def E0:Env:=⟨ty,QE cl,λ_=>none,none⟩
def m(x:gX):Option fY:=some (if 2<x.v then 2 else x.v)
theorem m_eq(x:gX):exec E0 5 C79 0 (QD 0 (g.A x)) (g.H x) (finish 0 ty [.tmp 2] f)=m x:=by kernel_rfl
theorem tl:QA C79 0=[]:=by kernel_rfl
theorem known:QB Tryz.prog 79 g f m:=
 Q5 mixed (Q4 ty_ok cl_ok _) s79 rfl rfl tl Q7.nil (λ_ _=>⟨rfl,rfl⟩) (λ_ _=>⟨rfl,rfl⟩) m_eq
def con:Con:=Qa g f m default
theorem con_ok:QC Tryz.prog 79 con:=Q9 known (λ_=>rfl) rfl
end M79
namespace M80
structure gX where(v:Int)
def g:Sg gX:=⟨[.c (.it .u8)],[],λa b=>⟨a.1⟩,λx=>(x.v,()),λx=>()⟩
abbrev fY:=Int
def f:Ft fY:=⟨none,.c (.it .u8),[],λa b=>(a),λy=>y,λy=>()⟩
def cl:List (FuncId×Con):=[(117,M117.con)]
theorem cl_ok:Q8 Tryz.prog cl:=⟨M117.con_ok,trivial⟩
def E0:Env:=⟨ty,QE cl,λ_=>none,none⟩
def m(x:gX):Option fY:=bindO (M117.m ⟨x.v⟩) λy=>bif y then some (IntKind.u8.wrap (1 - x.v)) else some 2
theorem m_eq(x:gX):exec E0 7 C80 0 (QD 0 (g.A x)) (g.H x) (finish 0 ty [.tmp 2] f)=m x:=by kernel_rfl
theorem tl:QA C80 0=[]:=by kernel_rfl
theorem known:QB Tryz.prog 80 g f m:=
 Q5 mixed (Q4 ty_ok cl_ok _) s80 rfl rfl tl Q7.nil (λ_ _=>⟨rfl,rfl⟩) (λ_ _=>⟨rfl,rfl⟩) m_eq
def con:Con:=Qa g f m default
theorem con_ok:QC Tryz.prog 80 con:=Q9 known (λ_=>rfl) rfl
end M80
namespace M118
structure gX where(l:List (Int))(low high:Int)
def g:Sg gX:=⟨[.c (.arr (.int .u8)),.c (.it .u8),.c (.it .u8)],[],λa b=>⟨a.1,a.2.1,a.2.2.1⟩,λx=>(x.l,(x.low,(x.high,()))),λx=>()⟩
abbrev fY:=Int
def f:Ft fY:=⟨none,.c (.it .u8),[],λa b=>(a),λy=>y,λy=>()⟩
def cl:List (FuncId×Con):=[]
theorem cl_ok:Q8 Tryz.prog cl:=trivial
def E1:Env:=⟨ty,QE cl,λ_=>none,none⟩
structure p0X where(low high out:Int)(l:List (Int))(n i:Int)
def p0:Pt p0X where
 own:=[]
 t:=⟨[(1,.c (.it .u8)),(2,.c (.it .u8)),(7,.c (.it .u8)),(11,.c (.arr (.int .u8))),(12,.c (.it .i64)),(13,.c (.it .i64))],[]⟩
 to:=λv=>⟨v.1.1,v.1.2.1,v.1.2.2.1,v.1.2.2.2.1,v.1.2.2.2.2.1,v.1.2.2.2.2.2.1⟩
 fr:=λx=>((x.low,(x.high,(x.out,(x.l,(x.n,(x.i,())))))),())
structure q0X where(out:Int)
def q0:Pt q0X where
 own:=[]
 t:=⟨[(7,.c (.it .u8))],[]⟩
 to:=λv=>⟨v.1.1⟩
 fr:=λx=>((x.out,()),())
structure z0X where(r:Int)
def z0:Pt z0X where
 own:=[]
 t:=⟨[(6,.c (.it .u8))],[]⟩
 to:=λv=>⟨v.1.1⟩
 fr:=λx=>((x.r,()),())
def s0(x:p0X):Option (p0X⊕(q0X⊕z0X)):=bif decide (x.i<x.n) then bif inR x.i x.l.length then bif x.l[x.i.toNat]?.getD 0==x.low then some (Sum.inr (Sum.inr ⟨x.low⟩)) else some (Sum.inl ⟨x.low,x.high,bif x.l[x.i.toNat]?.getD 0 !=x.high then 2 else x.out,x.l,x.n,IntKind.i64.wrap (x.i+1)⟩) else none else some (Sum.inr (Sum.inl ⟨x.out⟩))
theorem s0_eq(x:p0X):exec E1 28 (C118.Q0 0) 1 (p0.R x) (p0.H x) (J9 0 p0 (.exit 0) q0 .ret z0)=s0 x:=by kernel_rfl
def l0:QJ:=JA 0 p0 (.exit 0) q0 .ret z0 s0
theorem tl0:QA (C118.Q0 0) 1=[]:=by kernel_rfl
theorem l0_ok  :QF Tryz.prog 28 none 0 (C118.Q0 0) l0:=Qd mixed (Q4 ty_ok cl_ok _) (by trivial) (by trivial) (λ_=>rfl) (λ_=>rfl) (λ_=>rfl) (tl0▸Q7.nil) s0_eq
def E0:Env:=⟨ty,QE cl,Qi [(0,l0)],none⟩
def m(x:gX):Option fY:=bindO (iter s0 ⟨x.low,x.high,x.high,x.l,(↑x.l.length:Int),0⟩) λs=>sumC s (λy=>some y.out) λz=>some z.r
theorem m_eq(x:gX):exec E0 28 C118 0 (QD 0 (g.A x)) (g.H x) (finish 0 ty [.tmp 6] f)=m x:=by kernel_rfl
theorem tl:QA C118 0=[(0,C118.Q0 0)]:=by kernel_rfl
theorem known:QB Tryz.prog 118 g f m:=
 Q5 mixed (Q4 ty_ok cl_ok _) s118 rfl rfl tl (Q7.cons rfl l0_ok Q7.nil) (λ_ _=>⟨rfl,rfl⟩) (λ_ _=>⟨rfl,rfl⟩) m_eq
def con:Con:=Qa g f m default
theorem con_ok:QC Tryz.prog 118 con:=Q9 known (λ_=>rfl) rfl
end M118
namespace M81
structure gX where(l:List (Int))
def g:Sg gX:=⟨[.c (.arr (.int .u8))],[],λa b=>⟨a.1⟩,λx=>(x.l,()),λx=>()⟩
abbrev fY:=Int
def f:Ft fY:=⟨none,.c (.it .u8),[],λa b=>(a),λy=>y,λy=>()⟩
def cl:List (FuncId×Con):=[(118,M118.con)]
theorem cl_ok:Q8 Tryz.prog cl:=⟨M118.con_ok,trivial⟩
def E0:Env:=⟨ty,QE cl,λ_=>none,none⟩
def m(x:gX):Option fY:=bindO (M118.m ⟨x.l,0,1⟩) λy=>some y
theorem m_eq(x:gX):exec E0 5 C81 0 (QD 0 (g.A x)) (g.H x) (finish 0 ty [.tmp 2] f)=m x:=by kernel_rfl
theorem tl:QA C81 0=[]:=by kernel_rfl
theorem known:QB Tryz.prog 81 g f m:=
 Q5 mixed (Q4 ty_ok cl_ok _) s81 rfl rfl tl Q7.nil (λ_ _=>⟨rfl,rfl⟩) (λ_ _=>⟨rfl,rfl⟩) m_eq
def con:Con:=Qa g f m default
theorem con_ok:QC Tryz.prog 81 con:=Q9 known (λ_=>rfl) rfl
end M81
namespace M82
structure gX where(l:List (Int))
def g:Sg gX:=⟨[.c (.arr (.int .u8))],[],λa b=>⟨a.1⟩,λx=>(x.l,()),λx=>()⟩
abbrev fY:=Int
def f:Ft fY:=⟨none,.c (.it .u8),[],λa b=>(a),λy=>y,λy=>()⟩
def cl:List (FuncId×Con):=[(118,M118.con)]
theorem cl_ok:Q8 Tryz.prog cl:=⟨M118.con_ok,trivial⟩
def E0:Env:=⟨ty,QE cl,λ_=>none,none⟩
def m(x:gX):Option fY:=bindO (M118.m ⟨x.l,1,0⟩) λy=>some y
theorem m_eq(x:gX):exec E0 5 C82 0 (QD 0 (g.A x)) (g.H x) (finish 0 ty [.tmp 2] f)=m x:=by kernel_rfl
theorem tl:QA C82 0=[]:=by kernel_rfl
theorem known:QB Tryz.prog 82 g f m:=
 Q5 mixed (Q4 ty_ok cl_ok _) s82 rfl rfl tl Q7.nil (λ_ _=>⟨rfl,rfl⟩) (λ_ _=>⟨rfl,rfl⟩) m_eq
def con:Con:=Qa g f m default
theorem con_ok:QC Tryz.prog 82 con:=Q9 known (λ_=>rfl) rfl
end M82
namespace M83
structure gX where(l:List (Int))
def g:Sg gX:=⟨[.c (.arr (.int .u8))],[],λa b=>⟨a.1⟩,λx=>(x.l,()),λx=>()⟩
abbrev fY:=Int
def f:Ft fY:=⟨none,.c (.it .u8),[],λa b=>(a),λy=>y,λy=>()⟩
def cl:List (FuncId×Con):=[(117,M117.con)]
theorem cl_ok:Q8 Tryz.prog cl:=⟨M117.con_ok,trivial⟩
def E1:Env:=⟨ty,QE cl,λ_=>none,none⟩
structure p0X where(out:Int)(l:List (Int))(n i:Int)
def p0:Pt p0X where
 own:=[]
 t:=⟨[(3,.c (.it .u8)),(6,.c (.arr (.int .u8))),(7,.c (.it .i64)),(8,.c (.it .i64))],[]⟩
 to:=λv=>⟨v.1.1,v.1.2.1,v.1.2.2.1,v.1.2.2.2.1⟩
 fr:=λx=>((x.out,(x.l,(x.n,(x.i,())))),())
structure q0X where(out:Int)
def q0:Pt q0X where
 own:=[]
 t:=⟨[(3,.c (.it .u8))],[]⟩
 to:=λv=>⟨v.1.1⟩
 fr:=λx=>((x.out,()),())
structure z0X where(r:Int)
def z0:Pt z0X where
 own:=[]
 t:=⟨[(2,.c (.it .u8))],[]⟩
 to:=λv=>⟨v.1.1⟩
 fr:=λx=>((x.r,()),())
def s0(x:p0X):Option (p0X⊕(q0X⊕z0X)):=bif decide (x.i<x.n) then bif inR x.i x.l.length then bindO (M117.m ⟨x.l[x.i.toNat]?.getD 0⟩) λy=>bif !y then some (Sum.inr (Sum.inr ⟨2⟩)) else some (Sum.inl ⟨IntKind.u8.wrap (↑(BitVec.ofInt 8 x.out^^^BitVec.ofInt 8 (x.l[x.i.toNat]?.getD 0)).toNat:Int),x.l,x.n,IntKind.i64.wrap (x.i+1)⟩) else none else some (Sum.inr (Sum.inl ⟨x.out⟩))
theorem s0_eq(x:p0X):exec E1 20 (C83.Q0 0) 1 (p0.R x) (p0.H x) (J9 0 p0 (.exit 0) q0 .ret z0)=s0 x:=by kernel_rfl
def l0:QJ:=JA 0 p0 (.exit 0) q0 .ret z0 s0
theorem tl0:QA (C83.Q0 0) 1=[]:=by kernel_rfl
theorem l0_ok  :QF Tryz.prog 20 none 0 (C83.Q0 0) l0:=Qd mixed (Q4 ty_ok cl_ok _) (by trivial) (by trivial) (λ_=>rfl) (λ_=>rfl) (λ_=>rfl) (tl0▸Q7.nil) s0_eq
def E0:Env:=⟨ty,QE cl,Qi [(0,l0)],none⟩
def m(x:gX):Option fY:=bindO (iter s0 ⟨0,x.l,(↑x.l.length:Int),0⟩) λs=>sumC s (λy=>some y.out) λz=>some z.r
theorem m_eq(x:gX):exec E0 20 C83 0 (QD 0 (g.A x)) (g.H x) (finish 0 ty [.tmp 2] f)=m x:=by kernel_rfl
theorem tl:QA C83 0=[(0,C83.Q0 0)]:=by kernel_rfl
theorem known:QB Tryz.prog 83 g f m:=
 Q5 mixed (Q4 ty_ok cl_ok _) s83 rfl rfl tl (Q7.cons rfl l0_ok Q7.nil) (λ_ _=>⟨rfl,rfl⟩) (λ_ _=>⟨rfl,rfl⟩) m_eq
def con:Con:=Qa g f m default
theorem con_ok:QC Tryz.prog 83 con:=Q9 known (λ_=>rfl) rfl
end M83
namespace M84
structure gX where(sel a b:Int)
def g:Sg gX:=⟨[.c (.it .u8),.c (.it .u8),.c (.it .u8)],[],λa b=>⟨a.1,a.2.1,a.2.2.1⟩,λx=>(x.sel,(x.a,(x.b,()))),λx=>()⟩
abbrev fY:=Int
def f:Ft fY:=⟨none,.c (.it .u8),[],λa b=>(a),λy=>y,λy=>()⟩
def cl:List (FuncId×Con):=[(79,M79.con)]
theorem cl_ok:Q8 Tryz.prog cl:=⟨M79.con_ok,trivial⟩
def E0:Env:=⟨ty,QE cl,λ_=>none,none⟩
def m(x:gX):Option fY:=bif x.sel==0 then bindO (M79.m ⟨x.a⟩) λy=>some y else bif x.sel==1 then bindO (M79.m ⟨x.b⟩) λy=>some y else bif x.a==x.b then bindO (M79.m ⟨x.a⟩) λy=>some y else some 2
theorem m_eq(x:gX):exec E0 23 C84 0 (QD 0 (g.A x)) (g.H x) (finish 0 ty [.tmp 6] f)=m x:=by kernel_rfl
theorem tl:QA C84 0=[]:=by kernel_rfl
theorem known:QB Tryz.prog 84 g f m:=
 Q5 mixed (Q4 ty_ok cl_ok _) s84 rfl rfl tl Q7.nil (λ_ _=>⟨rfl,rfl⟩) (λ_ _=>⟨rfl,rfl⟩) m_eq
def con:Con:=Qa g f m default
theorem con_ok:QC Tryz.prog 84 con:=Q9 known (λ_=>rfl) rfl
end M84
namespace M85
structure gX where(en d:Int)
def g:Sg gX:=⟨[.c (.it .u8),.c (.it .u8)],[],λa b=>⟨a.1,a.2.1⟩,λx=>(x.en,(x.d,())),λx=>()⟩
abbrev fY:=Int
def f:Ft fY:=⟨none,.c (.it .u8),[],λa b=>(a),λy=>y,λy=>()⟩
def cl:List (FuncId×Con):=[(79,M79.con)]
theorem cl_ok:Q8 Tryz.prog cl:=⟨M79.con_ok,trivial⟩
def E0:Env:=⟨ty,QE cl,λ_=>none,none⟩
def m(x:gX):Option fY:=bif x.en==0 then some 3 else bif x.en==1 then bindO (M79.m ⟨x.d⟩) λy=>some y else some 2
theorem m_eq(x:gX):exec E0 12 C85 0 (QD 0 (g.A x)) (g.H x) (finish 0 ty [.tmp 4] f)=m x:=by kernel_rfl
theorem tl:QA C85 0=[]:=by kernel_rfl
theorem known:QB Tryz.prog 85 g f m:=
 Q5 mixed (Q4 ty_ok cl_ok _) s85 rfl rfl tl Q7.nil (λ_ _=>⟨rfl,rfl⟩) (λ_ _=>⟨rfl,rfl⟩) m_eq
def con:Con:=Qa g f m default
theorem con_ok:QC Tryz.prog 85 con:=Q9 known (λ_=>rfl) rfl
end M85
namespace M119
structure gX where(v:Int)
def g:Sg gX:=⟨[.c (.it .u8)],[],λa b=>⟨a.1⟩,λx=>(x.v,()),λx=>()⟩
abbrev fY:=Bool
def f:Ft fY:=⟨none,.c (.bo),[],λa b=>(a),λy=>y,λy=>()⟩
def cl:List (FuncId×Con):=[(120,M120.con)]
theorem cl_ok:Q8 Tryz.prog cl:=⟨M120.con_ok,trivial⟩
def E0:Env:=⟨ty,QE cl,λ_=>none,none⟩
def m(x:gX):Option fY:=bindO (M120.m ⟨x.v⟩) λy=>some (y==2)
theorem m_eq(x:gX):exec E0 6 C119 0 (QD 0 (g.A x)) (g.H x) (finish 0 ty [.tmp 2] f)=m x:=by kernel_rfl
theorem tl:QA C119 0=[]:=by kernel_rfl
theorem known:QB Tryz.prog 119 g f m:=
 Q5 mixed (Q4 ty_ok cl_ok _) s119 rfl rfl tl Q7.nil (λ_ _=>⟨rfl,rfl⟩) (λ_ _=>⟨rfl,rfl⟩) m_eq
def con:Con:=Qa g f m default
theorem con_ok:QC Tryz.prog 119 con:=Q9 known (λ_=>rfl) rfl
end M119
namespace M121
structure gX where(v:Int)
def g:Sg gX:=⟨[.c (.it .u8)],[],λa b=>⟨a.1⟩,λx=>(x.v,()),λx=>()⟩
abbrev fY:=Bool
def f:Ft fY:=⟨none,.c (.bo),[],λa b=>(a),λy=>y,λy=>()⟩
def cl:List (FuncId×Con):=[]
theorem cl_ok:Q8 Tryz.prog cl:=trivial
def E0:Env:=⟨ty,QE cl,λ_=>none,none⟩
def m(x:gX):Option fY:=some (x.v !=3)
theorem m_eq(x:gX):exec E0 5 C121 0 (QD 0 (g.A x)) (g.H x) (finish 0 ty [.tmp 2] f)=m x:=by kernel_rfl
theorem tl:QA C121 0=[]:=by kernel_rfl
theorem known:QB Tryz.prog 121 g f m:=
 Q5 mixed (Q4 ty_ok cl_ok _) s121 rfl rfl tl Q7.nil (λ_ _=>⟨rfl,rfl⟩) (λ_ _=>⟨rfl,rfl⟩) m_eq
def con:Con:=Qa g f m default
theorem con_ok:QC Tryz.prog 121 con:=Q9 known (λ_=>rfl) rfl
end M121
namespace M116a
structure gX where(s:List (Int))
def g:Sg gX:=⟨[.c (.arr (.int .u8)),.c (.fn 119)],[],λa b=>⟨a.1⟩,λx=>(x.s,((),())),λx=>()⟩
abbrev fY:=Int
def f:Ft fY:=⟨none,.c (.it .i64),[],λa b=>(a),λy=>y,λy=>()⟩
def cl:List (FuncId×Con):=[(119,M119.con)]
theorem cl_ok:Q8 Tryz.prog cl:=⟨M119.con_ok,trivial⟩
def E1:Env:=⟨ty,QE cl,λ_=>none,none⟩
structure p0X where(s:List (Int))(n i:Int)
def p0:Pt p0X where
 own:=[]
 t:=⟨[(0,.c (.arr (.int .u8))),(1,.c (.fn 119)),(7,.c (.it .i64)),(8,.c (.it .i64))],[]⟩
 to:=λv=>⟨v.1.1,v.1.2.2.1,v.1.2.2.2.1⟩
 fr:=λx=>((x.s,((),(x.n,(x.i,())))),())
abbrev q0X:=Unit
def q0:Pt q0X where
 own:=[]
 t:=⟨[],[]⟩
 to:=λv=>()
 fr:=λx=>((),())
structure z0X where(r:Int)
def z0:Pt z0X where
 own:=[]
 t:=⟨[(4,.c (.it .i64))],[]⟩
 to:=λv=>⟨v.1.1⟩
 fr:=λx=>((x.r,()),())
def s0(x:p0X):Option (p0X⊕(q0X⊕z0X)):=bif decide (x.i<x.n) then bif inR x.i x.s.length then bindO (M119.m ⟨x.s[x.i.toNat]?.getD 0⟩) λy=>bif y then some (Sum.inr (Sum.inr ⟨x.i⟩)) else some (Sum.inl ⟨x.s,x.n,IntKind.i64.wrap (x.i+1)⟩) else none else some (Sum.inr (Sum.inl PUnit.unit))
theorem s0_eq(x:p0X):exec E1 19 (C116.Q0 0) 1 (p0.R x) (p0.H x) (J9 0 p0 (.exit 0) q0 .ret z0)=s0 x:=by kernel_rfl
def l0:QJ:=JA 0 p0 (.exit 0) q0 .ret z0 s0
theorem tl0:QA (C116.Q0 0) 1=[]:=by kernel_rfl
theorem l0_ok  :QF Tryz.prog 19 none 0 (C116.Q0 0) l0:=Qd mixed (Q4 ty_ok cl_ok _) (by trivial) (by trivial) (λ_=>rfl) (λ_=>rfl) (λ_=>rfl) (tl0▸Q7.nil) s0_eq
def E0:Env:=⟨ty,QE cl,Qi [(0,l0)],none⟩
def m(x:gX):Option fY:=bindO (iter s0 ⟨x.s,(↑x.s.length:Int),0⟩) λs=>sumC s (λy=>some (-1)) λz=>some z.r
theorem m_eq(x:gX):exec E0 19 C116 0 (QD 0 (g.A x)) (g.H x) (finish 0 ty [.tmp 4] f)=m x:=by kernel_rfl
theorem tl:QA C116 0=[(0,C116.Q0 0)]:=by kernel_rfl
theorem known:QB Tryz.prog 116 g f m:=
 Q5 mixed (Q4 ty_ok cl_ok _) s116 rfl rfl tl (Q7.cons rfl l0_ok Q7.nil) (λ_ _=>⟨rfl,rfl⟩) (λ_ _=>⟨rfl,rfl⟩) m_eq
def con:Con:=Qa g f m default
theorem con_ok:QC Tryz.prog 116 con:=Q9 known (λ_=>rfl) rfl
end M116a
namespace M76a
structure gX where(s:List (Int))
def g:Sg gX:=⟨[.c (.arr (.int .u8)),.c (.fn 119)],[],λa b=>⟨a.1⟩,λx=>(x.s,((),())),λx=>()⟩
abbrev fY:=Bool
def f:Ft fY:=⟨none,.c (.bo),[],λa b=>(a),λy=>y,λy=>()⟩
def cl:List (FuncId×Con):=[(116,M116a.con)]
theorem cl_ok:Q8 Tryz.prog cl:=⟨M116a.con_ok,trivial⟩
def E0:Env:=⟨ty,QE cl,λ_=>none,none⟩
def m(x:gX):Option fY:=bindO (M116a.m ⟨x.s⟩) λy=>some (decide (y>=0))
theorem m_eq(x:gX):exec E0 9 C76 0 (QD 0 (g.A x)) (g.H x) (finish 0 ty [.tmp 4] f)=m x:=by kernel_rfl
theorem tl:QA C76 0=[]:=by kernel_rfl
theorem known:QB Tryz.prog 76 g f m:=
 Q5 mixed (Q4 ty_ok cl_ok _) s76 rfl rfl tl Q7.nil (λ_ _=>⟨rfl,rfl⟩) (λ_ _=>⟨rfl,rfl⟩) m_eq
def con:Con:=Qa g f m default
theorem con_ok:QC Tryz.prog 76 con:=Q9 known (λ_=>rfl) rfl
end M76a
namespace M116b
structure gX where(s:List (Int))
def g:Sg gX:=⟨[.c (.arr (.int .u8)),.c (.fn 121)],[],λa b=>⟨a.1⟩,λx=>(x.s,((),())),λx=>()⟩
abbrev fY:=Int
def f:Ft fY:=⟨none,.c (.it .i64),[],λa b=>(a),λy=>y,λy=>()⟩
def cl:List (FuncId×Con):=[(121,M121.con)]
theorem cl_ok:Q8 Tryz.prog cl:=⟨M121.con_ok,trivial⟩
def E1:Env:=⟨ty,QE cl,λ_=>none,none⟩
structure p0X where(s:List (Int))(n i:Int)
def p0:Pt p0X where
 own:=[]
 t:=⟨[(0,.c (.arr (.int .u8))),(1,.c (.fn 121)),(7,.c (.it .i64)),(8,.c (.it .i64))],[]⟩
 to:=λv=>⟨v.1.1,v.1.2.2.1,v.1.2.2.2.1⟩
 fr:=λx=>((x.s,((),(x.n,(x.i,())))),())
abbrev q0X:=Unit
def q0:Pt q0X where
 own:=[]
 t:=⟨[],[]⟩
 to:=λv=>()
 fr:=λx=>((),())
structure z0X where(r:Int)
def z0:Pt z0X where
 own:=[]
 t:=⟨[(4,.c (.it .i64))],[]⟩
 to:=λv=>⟨v.1.1⟩
 fr:=λx=>((x.r,()),())
def s0(x:p0X):Option (p0X⊕(q0X⊕z0X)):=bif decide (x.i<x.n) then bif inR x.i x.s.length then bindO (M121.m ⟨x.s[x.i.toNat]?.getD 0⟩) λy=>bif y then some (Sum.inr (Sum.inr ⟨x.i⟩)) else some (Sum.inl ⟨x.s,x.n,IntKind.i64.wrap (x.i+1)⟩) else none else some (Sum.inr (Sum.inl PUnit.unit))
theorem s0_eq(x:p0X):exec E1 19 (C116.Q0 0) 1 (p0.R x) (p0.H x) (J9 0 p0 (.exit 0) q0 .ret z0)=s0 x:=by kernel_rfl
def l0:QJ:=JA 0 p0 (.exit 0) q0 .ret z0 s0
theorem tl0:QA (C116.Q0 0) 1=[]:=by kernel_rfl
theorem l0_ok  :QF Tryz.prog 19 none 0 (C116.Q0 0) l0:=Qd mixed (Q4 ty_ok cl_ok _) (by trivial) (by trivial) (λ_=>rfl) (λ_=>rfl) (λ_=>rfl) (tl0▸Q7.nil) s0_eq
def E0:Env:=⟨ty,QE cl,Qi [(0,l0)],none⟩
def m(x:gX):Option fY:=bindO (iter s0 ⟨x.s,(↑x.s.length:Int),0⟩) λs=>sumC s (λy=>some (-1)) λz=>some z.r
theorem m_eq(x:gX):exec E0 19 C116 0 (QD 0 (g.A x)) (g.H x) (finish 0 ty [.tmp 4] f)=m x:=by kernel_rfl
theorem tl:QA C116 0=[(0,C116.Q0 0)]:=by kernel_rfl
theorem known:QB Tryz.prog 116 g f m:=
 Q5 mixed (Q4 ty_ok cl_ok _) s116 rfl rfl tl (Q7.cons rfl l0_ok Q7.nil) (λ_ _=>⟨rfl,rfl⟩) (λ_ _=>⟨rfl,rfl⟩) m_eq
def con:Con:=Qa g f m default
theorem con_ok:QC Tryz.prog 116 con:=Q9 known (λ_=>rfl) rfl
end M116b
namespace M170
structure gX where(s:List (Int))(v:Int)
def g:Sg gX:=⟨[.c (.arr (.int .u8)),.c (.it .u8)],[],λa b=>⟨a.1,a.2.1⟩,λx=>(x.s,(x.v,())),λx=>()⟩
abbrev fY:=Int
def f:Ft fY:=⟨none,.c (.it .i64),[],λa b=>(a),λy=>y,λy=>()⟩
def cl:List (FuncId×Con):=[]
theorem cl_ok:Q8 Tryz.prog cl:=trivial
def E1:Env:=⟨ty,QE cl,λ_=>none,none⟩
structure p0X where(s:List (Int))(v n i:Int)
def p0:Pt p0X where
 own:=[]
 t:=⟨[(0,.c (.arr (.int .u8))),(1,.c (.it .u8)),(7,.c (.it .i64)),(8,.c (.it .i64))],[]⟩
 to:=λv=>⟨v.1.1,v.1.2.1,v.1.2.2.1,v.1.2.2.2.1⟩
 fr:=λx=>((x.s,(x.v,(x.n,(x.i,())))),())
abbrev q0X:=Unit
def q0:Pt q0X where
 own:=[]
 t:=⟨[],[]⟩
 to:=λv=>()
 fr:=λx=>((),())
structure z0X where(r:Int)
def z0:Pt z0X where
 own:=[]
 t:=⟨[(4,.c (.it .i64))],[]⟩
 to:=λv=>⟨v.1.1⟩
 fr:=λx=>((x.r,()),())
def s0(x:p0X):Option (p0X⊕(q0X⊕z0X)):=bif decide (x.i<x.n) then bif inR x.i x.s.length then bif x.v==x.s[x.i.toNat]?.getD 0 then some (Sum.inr (Sum.inr ⟨x.i⟩)) else some (Sum.inl ⟨x.s,x.v,x.n,IntKind.i64.wrap (x.i+1)⟩) else none else some (Sum.inr (Sum.inl PUnit.unit))
theorem s0_eq(x:p0X):exec E1 19 (C170.Q0 0) 1 (p0.R x) (p0.H x) (J9 0 p0 (.exit 0) q0 .ret z0)=s0 x:=by kernel_rfl
def l0:QJ:=JA 0 p0 (.exit 0) q0 .ret z0 s0
theorem tl0:QA (C170.Q0 0) 1=[]:=by kernel_rfl
theorem l0_ok  :QF Tryz.prog 19 none 0 (C170.Q0 0) l0:=Qd mixed (Q4 ty_ok cl_ok _) (by trivial) (by trivial) (λ_=>rfl) (λ_=>rfl) (λ_=>rfl) (tl0▸Q7.nil) s0_eq
def E0:Env:=⟨ty,QE cl,Qi [(0,l0)],none⟩
def m(x:gX):Option fY:=bindO (iter s0 ⟨x.s,x.v,(↑x.s.length:Int),0⟩) λs=>sumC s (λy=>some (-1)) λz=>some z.r
theorem m_eq(x:gX):exec E0 19 C170 0 (QD 0 (g.A x)) (g.H x) (finish 0 ty [.tmp 4] f)=m x:=by kernel_rfl
theorem tl:QA C170 0=[(0,C170.Q0 0)]:=by kernel_rfl
theorem known:QB Tryz.prog 170 g f m:=
 Q5 mixed (Q4 ty_ok cl_ok _) s170 rfl rfl tl (Q7.cons rfl l0_ok Q7.nil) (λ_ _=>⟨rfl,rfl⟩) (λ_ _=>⟨rfl,rfl⟩) m_eq
def con:Con:=Qa g f m default
theorem con_ok:QC Tryz.prog 170 con:=Q9 known (λ_=>rfl) rfl
end M170
namespace M148
structure gX where(s:List (Int))(v:Int)
def g:Sg gX:=⟨[.c (.arr (.int .u8)),.c (.it .u8)],[],λa b=>⟨a.1,a.2.1⟩,λx=>(x.s,(x.v,())),λx=>()⟩
abbrev fY:=Bool
def f:Ft fY:=⟨none,.c (.bo),[],λa b=>(a),λy=>y,λy=>()⟩
def cl:List (FuncId×Con):=[(170,M170.con)]
theorem cl_ok:Q8 Tryz.prog cl:=⟨M170.con_ok,trivial⟩
def E0:Env:=⟨ty,QE cl,λ_=>none,none⟩
def m(x:gX):Option fY:=bindO (M170.m ⟨x.s,x.v⟩) λy=>some (decide (y>=0))
theorem m_eq(x:gX):exec E0 9 C148 0 (QD 0 (g.A x)) (g.H x) (finish 0 ty [.tmp 4] f)=m x:=by kernel_rfl
theorem tl:QA C148 0=[]:=by kernel_rfl
theorem known:QB Tryz.prog 148 g f m:=
 Q5 mixed (Q4 ty_ok cl_ok _) s148 rfl rfl tl Q7.nil (λ_ _=>⟨rfl,rfl⟩) (λ_ _=>⟨rfl,rfl⟩) m_eq
def con:Con:=Qa g f m default
theorem con_ok:QC Tryz.prog 148 con:=Q9 known (λ_=>rfl) rfl
end M148
namespace M122
structure gX where(l:List (Int))
def g:Sg gX:=⟨[.c (.arr (.int .u8))],[],λa b=>⟨a.1⟩,λx=>(x.l,()),λx=>()⟩
abbrev fY:=Bool
def f:Ft fY:=⟨none,.c (.bo),[],λa b=>(a),λy=>y,λy=>()⟩
def cl:List (FuncId×Con):=[(148,M148.con)]
theorem cl_ok:Q8 Tryz.prog cl:=⟨M148.con_ok,trivial⟩
def E0:Env:=⟨ty,QE cl,λ_=>none,none⟩
def m(x:gX):Option fY:=bindO (M148.m ⟨x.l,0⟩) λy=>bindO (bif y then M148.m ⟨x.l,1⟩ else some false) λy_1=>some (bif y then y_1 else false)
theorem m_eq(x:gX):exec E0 9 C122 0 (QD 0 (g.A x)) (g.H x) (finish 0 ty [.tmp 2] f)=m x:=by kernel_rfl
theorem tl:QA C122 0=[]:=by kernel_rfl
theorem known:QB Tryz.prog 122 g f m:=
 Q5 mixed (Q4 ty_ok cl_ok _) s122 rfl rfl tl Q7.nil (λ_ _=>⟨rfl,rfl⟩) (λ_ _=>⟨rfl,rfl⟩) m_eq
def con:Con:=Qa g f m default
theorem con_ok:QC Tryz.prog 122 con:=Q9 known (λ_=>rfl) rfl
end M122
namespace M86
structure gX where(l:List (Int))
def g:Sg gX:=⟨[.c (.arr (.int .u8))],[],λa b=>⟨a.1⟩,λx=>(x.l,()),λx=>()⟩
abbrev fY:=Int
def f:Ft fY:=⟨none,.c (.it .u8),[],λa b=>(a),λy=>y,λy=>()⟩
def cl:List (FuncId×Con):=[(116,M116b.con),(122,M122.con),(76,M76a.con)]
theorem cl_ok:Q8 Tryz.prog cl:=⟨M116b.con_ok,M122.con_ok,M76a.con_ok,trivial⟩
def E0:Env:=⟨ty,QE cl,λ_=>none,none⟩
def m(x:gX):Option fY:=bindO (M116b.m ⟨x.l⟩) λy=>bif decide (y<0) then some 3 else bindO (M122.m ⟨x.l⟩) λy_1=>bindO (bif !y_1 then M76a.m ⟨x.l⟩ else some false) λy_2=>bif bif y_1 then true else y_2 then some 2 else bif inR y x.l.length then some (x.l[Int.toNat y]?.getD 0) else none
theorem m_eq(x:gX):exec E0 24 C86 0 (QD 0 (g.A x)) (g.H x) (finish 0 ty [.tmp 2] f)=m x:=by kernel_rfl
theorem tl:QA C86 0=[]:=by kernel_rfl
theorem known:QB Tryz.prog 86 g f m:=
 Q5 mixed (Q4 ty_ok cl_ok _) s86 rfl rfl tl Q7.nil (λ_ _=>⟨rfl,rfl⟩) (λ_ _=>⟨rfl,rfl⟩) m_eq
def con:Con:=Qa g f m default
theorem con_ok:QC Tryz.prog 86 con:=Q9 known (λ_=>rfl) rfl
end M86
namespace M141
structure gX where(s:List (Int))(v:Int)
def g:Sg gX:=⟨[.c (.arr (.int .u8)),.c (.it .u8)],[],λa b=>⟨a.1,a.2.1⟩,λx=>(x.s,(x.v,())),λx=>()⟩
abbrev fY:=Int
def f:Ft fY:=⟨none,.c (.it .i64),[],λa b=>(a),λy=>y,λy=>()⟩
def cl:List (FuncId×Con):=[]
theorem cl_ok:Q8 Tryz.prog cl:=trivial
def E1:Env:=⟨ty,QE cl,λ_=>none,none⟩
structure p0X where(s:List (Int))(v n i:Int)
def p0:Pt p0X where
 own:=[]
 t:=⟨[(0,.c (.arr (.int .u8))),(1,.c (.it .u8)),(7,.c (.it .i64)),(8,.c (.it .i64))],[]⟩
 to:=λv=>⟨v.1.1,v.1.2.1,v.1.2.2.1,v.1.2.2.2.1⟩
 fr:=λx=>((x.s,(x.v,(x.n,(x.i,())))),())
abbrev q0X:=Unit
def q0:Pt q0X where
 own:=[]
 t:=⟨[],[]⟩
 to:=λv=>()
 fr:=λx=>((),())
structure z0X where(r:Int)
def z0:Pt z0X where
 own:=[]
 t:=⟨[(4,.c (.it .i64))],[]⟩
 to:=λv=>⟨v.1.1⟩
 fr:=λx=>((x.r,()),())
def s0(x:p0X):Option (p0X⊕(q0X⊕z0X)):=bif decide (x.i<x.n) then bif inR x.i x.s.length then bif x.v==x.s[x.i.toNat]?.getD 0 then some (Sum.inr (Sum.inr ⟨x.i⟩)) else some (Sum.inl ⟨x.s,x.v,x.n,IntKind.i64.wrap (x.i+1)⟩) else none else some (Sum.inr (Sum.inl PUnit.unit))
theorem s0_eq(x:p0X):exec E1 19 (C141.Q0 0) 1 (p0.R x) (p0.H x) (J9 0 p0 (.exit 0) q0 .ret z0)=s0 x:=by kernel_rfl
def l0:QJ:=JA 0 p0 (.exit 0) q0 .ret z0 s0
theorem tl0:QA (C141.Q0 0) 1=[]:=by kernel_rfl
theorem l0_ok  :QF Tryz.prog 19 none 0 (C141.Q0 0) l0:=Qd mixed (Q4 ty_ok cl_ok _) (by trivial) (by trivial) (λ_=>rfl) (λ_=>rfl) (λ_=>rfl) (tl0▸Q7.nil) s0_eq
def E0:Env:=⟨ty,QE cl,Qi [(0,l0)],none⟩
def m(x:gX):Option fY:=bindO (iter s0 ⟨x.s,x.v,(↑x.s.length:Int),0⟩) λs=>sumC s (λy=>some (-1)) λz=>some z.r
theorem m_eq(x:gX):exec E0 19 C141 0 (QD 0 (g.A x)) (g.H x) (finish 0 ty [.tmp 4] f)=m x:=by kernel_rfl
theorem tl:QA C141 0=[(0,C141.Q0 0)]:=by kernel_rfl
theorem known:QB Tryz.prog 141 g f m:=
 Q5 mixed (Q4 ty_ok cl_ok _) s141 rfl rfl tl (Q7.cons rfl l0_ok Q7.nil) (λ_ _=>⟨rfl,rfl⟩) (λ_ _=>⟨rfl,rfl⟩) m_eq
def con:Con:=Qa g f m default
theorem con_ok:QC Tryz.prog 141 con:=Q9 known (λ_=>rfl) rfl
end M141
namespace M111
structure gX where(s:List (Int))(v:Int)
def g:Sg gX:=⟨[.c (.arr (.int .u8)),.c (.it .u8)],[],λa b=>⟨a.1,a.2.1⟩,λx=>(x.s,(x.v,())),λx=>()⟩
abbrev fY:=Bool
def f:Ft fY:=⟨none,.c (.bo),[],λa b=>(a),λy=>y,λy=>()⟩
def cl:List (FuncId×Con):=[(141,M141.con)]
theorem cl_ok:Q8 Tryz.prog cl:=⟨M141.con_ok,trivial⟩
def E0:Env:=⟨ty,QE cl,λ_=>none,none⟩
def m(x:gX):Option fY:=bindO (M141.m ⟨x.s,x.v⟩) λy=>some (decide (y>=0))
theorem m_eq(x:gX):exec E0 9 C111 0 (QD 0 (g.A x)) (g.H x) (finish 0 ty [.tmp 4] f)=m x:=by kernel_rfl
theorem tl:QA C111 0=[]:=by kernel_rfl
theorem known:QB Tryz.prog 111 g f m:=
 Q5 mixed (Q4 ty_ok cl_ok _) s111 rfl rfl tl Q7.nil (λ_ _=>⟨rfl,rfl⟩) (λ_ _=>⟨rfl,rfl⟩) m_eq
def con:Con:=Qa g f m default
theorem con_ok:QC Tryz.prog 111 con:=Q9 known (λ_=>rfl) rfl
end M111
namespace M43
structure gX where(k:Int)
def g:Sg gX:=⟨[.c (.it .u8)],[],λa b=>⟨a.1⟩,λx=>(x.k,()),λx=>()⟩
abbrev fY:=Bool
def f:Ft fY:=⟨none,.c (.bo),[],λa b=>(a),λy=>y,λy=>()⟩
def cl:List (FuncId×Con):=[]
theorem cl_ok:Q8 Tryz.prog cl:=trivial
def E0:Env:=⟨ty,QE cl,λ_=>none,none⟩
def m(x:gX):Option fY:=some (bif decide (x.k>=1) then decide (x.k<=13) else false)
theorem m_eq(x:gX):exec E0 9 C43 0 (QD 0 (g.A x)) (g.H x) (finish 0 ty [.tmp 2] f)=m x:=by kernel_rfl
theorem tl:QA C43 0=[]:=by kernel_rfl
theorem known:QB Tryz.prog 43 g f m:=
 Q5 mixed (Q4 ty_ok cl_ok _) s43 rfl rfl tl Q7.nil (λ_ _=>⟨rfl,rfl⟩) (λ_ _=>⟨rfl,rfl⟩) m_eq
def con:Con:=Qa g f m default
theorem con_ok:QC Tryz.prog 43 con:=Q9 known (λ_=>rfl) rfl
end M43
namespace M77
structure gX where(v:Int)
def g:Sg gX:=⟨[.c (.it .u8)],[],λa b=>⟨a.1⟩,λx=>(x.v,()),λx=>()⟩
abbrev fY:=Bool
def f:Ft fY:=⟨none,.c (.bo),[],λa b=>(a),λy=>y,λy=>()⟩
def cl:List (FuncId×Con):=[]
theorem cl_ok:Q8 Tryz.prog cl:=trivial
def E0:Env:=⟨ty,QE cl,λ_=>none,none⟩
def m(x:gX):Option fY:=some (decide (x.v>3))
theorem m_eq(x:gX):exec E0 5 C77 0 (QD 0 (g.A x)) (g.H x) (finish 0 ty [.tmp 2] f)=m x:=by kernel_rfl
theorem tl:QA C77 0=[]:=by kernel_rfl
theorem known:QB Tryz.prog 77 g f m:=
 Q5 mixed (Q4 ty_ok cl_ok _) s77 rfl rfl tl Q7.nil (λ_ _=>⟨rfl,rfl⟩) (λ_ _=>⟨rfl,rfl⟩) m_eq
def con:Con:=Qa g f m default
theorem con_ok:QC Tryz.prog 77 con:=Q9 known (λ_=>rfl) rfl
end M77
namespace M116c
structure gX where(s:List (Int))
def g:Sg gX:=⟨[.c (.arr (.int .u8)),.c (.fn 77)],[],λa b=>⟨a.1⟩,λx=>(x.s,((),())),λx=>()⟩
abbrev fY:=Int
def f:Ft fY:=⟨none,.c (.it .i64),[],λa b=>(a),λy=>y,λy=>()⟩
def cl:List (FuncId×Con):=[(77,M77.con)]
theorem cl_ok:Q8 Tryz.prog cl:=⟨M77.con_ok,trivial⟩
def E1:Env:=⟨ty,QE cl,λ_=>none,none⟩
structure p0X where(s:List (Int))(n i:Int)
def p0:Pt p0X where
 own:=[]
 t:=⟨[(0,.c (.arr (.int .u8))),(1,.c (.fn 77)),(7,.c (.it .i64)),(8,.c (.it .i64))],[]⟩
 to:=λv=>⟨v.1.1,v.1.2.2.1,v.1.2.2.2.1⟩
 fr:=λx=>((x.s,((),(x.n,(x.i,())))),())
abbrev q0X:=Unit
def q0:Pt q0X where
 own:=[]
 t:=⟨[],[]⟩
 to:=λv=>()
 fr:=λx=>((),())
structure z0X where(r:Int)
def z0:Pt z0X where
 own:=[]
 t:=⟨[(4,.c (.it .i64))],[]⟩
 to:=λv=>⟨v.1.1⟩
 fr:=λx=>((x.r,()),())
def s0(x:p0X):Option (p0X⊕(q0X⊕z0X)):=bif decide (x.i<x.n) then bif inR x.i x.s.length then bindO (M77.m ⟨x.s[x.i.toNat]?.getD 0⟩) λy=>bif y then some (Sum.inr (Sum.inr ⟨x.i⟩)) else some (Sum.inl ⟨x.s,x.n,IntKind.i64.wrap (x.i+1)⟩) else none else some (Sum.inr (Sum.inl PUnit.unit))
theorem s0_eq(x:p0X):exec E1 19 (C116.Q0 0) 1 (p0.R x) (p0.H x) (J9 0 p0 (.exit 0) q0 .ret z0)=s0 x:=by kernel_rfl
def l0:QJ:=JA 0 p0 (.exit 0) q0 .ret z0 s0
theorem tl0:QA (C116.Q0 0) 1=[]:=by kernel_rfl
theorem l0_ok  :QF Tryz.prog 19 none 0 (C116.Q0 0) l0:=Qd mixed (Q4 ty_ok cl_ok _) (by trivial) (by trivial) (λ_=>rfl) (λ_=>rfl) (λ_=>rfl) (tl0▸Q7.nil) s0_eq
def E0:Env:=⟨ty,QE cl,Qi [(0,l0)],none⟩
def m(x:gX):Option fY:=bindO (iter s0 ⟨x.s,(↑x.s.length:Int),0⟩) λs=>sumC s (λy=>some (-1)) λz=>some z.r
theorem m_eq(x:gX):exec E0 19 C116 0 (QD 0 (g.A x)) (g.H x) (finish 0 ty [.tmp 4] f)=m x:=by kernel_rfl
theorem tl:QA C116 0=[(0,C116.Q0 0)]:=by kernel_rfl
theorem known:QB Tryz.prog 116 g f m:=
 Q5 mixed (Q4 ty_ok cl_ok _) s116 rfl rfl tl (Q7.cons rfl l0_ok Q7.nil) (λ_ _=>⟨rfl,rfl⟩) (λ_ _=>⟨rfl,rfl⟩) m_eq
def con:Con:=Qa g f m default
theorem con_ok:QC Tryz.prog 116 con:=Q9 known (λ_=>rfl) rfl
end M116c
namespace M76c
structure gX where(s:List (Int))
def g:Sg gX:=⟨[.c (.arr (.int .u8)),.c (.fn 77)],[],λa b=>⟨a.1⟩,λx=>(x.s,((),())),λx=>()⟩
abbrev fY:=Bool
def f:Ft fY:=⟨none,.c (.bo),[],λa b=>(a),λy=>y,λy=>()⟩
def cl:List (FuncId×Con):=[(116,M116c.con)]
theorem cl_ok:Q8 Tryz.prog cl:=⟨M116c.con_ok,trivial⟩
def E0:Env:=⟨ty,QE cl,λ_=>none,none⟩
def m(x:gX):Option fY:=bindO (M116c.m ⟨x.s⟩) λy=>some (decide (y>=0))
theorem m_eq(x:gX):exec E0 9 C76 0 (QD 0 (g.A x)) (g.H x) (finish 0 ty [.tmp 4] f)=m x:=by kernel_rfl
theorem tl:QA C76 0=[]:=by kernel_rfl
theorem known:QB Tryz.prog 76 g f m:=
 Q5 mixed (Q4 ty_ok cl_ok _) s76 rfl rfl tl Q7.nil (λ_ _=>⟨rfl,rfl⟩) (λ_ _=>⟨rfl,rfl⟩) m_eq
def con:Con:=Qa g f m default
theorem con_ok:QC Tryz.prog 76 con:=Q9 known (λ_=>rfl) rfl
end M76c
end Go.Proofs.YtpbplpgfloaaiaaGreatDoor
namespace Go.Abs
variable [Gl]
def leq:List (Lit×DataW Unit)->List (Lit×DataW Unit)->Bool
 |[],[]=>true
 |(.int k n,.lit (.int k2 n2))::l,(.int j m,.lit (.int j2 m2))::l'=>(decide (k=j)&&decide (n=m))&&((decide (k2=j2)&&decide (n2=m2))&&leq l l')
 |_,_=>false
theorem leq_ok:∀{x y:List (Lit×DataW Unit)},leq x y=true->x=y:=by
 intro x y h
 induction x,y using leq.induct with
 |case1=>rfl
 |case2 k n k2 n2 l j m j2 m2 l' ih=>simp only[leq,A9,Aj]at h;obtain⟨⟨rfl,rfl⟩,⟨rfl,rfl⟩,h3⟩:=h;rw[ih h3]
 |case3 x y h1 h2=>
  unfold leq at h;split at h<;>first|rfl|cases h|exact absurd rfl (h2 _ _ _ _ _ _ _ _ _ _ rfl)|skip
  all_goals first|exact(h1 rfl rfl).elim|exact(h2 _ _ _ _ _ _ _ _ _ _ rfl rfl).elim
def meq:Option (DataW Unit)->Option (DataW Unit)->Bool
 |none,none=>true
 |some (.map l),some (.map l')=>leq l l'
 |_,_=>false
theorem meq_ok{x y:Option (DataW Unit)}(h:meq x y=true):x=y:=by
 unfold meq at h;split at h
 ·rfl
 ·rw[leq_ok h]
 ·cases h
mutual
def teq:T->T->Bool
 |.bool a,.bool b=>a==b
 |.int k n,.int k' n'=>decide (k=k')&&decide (n=n')
 |.str a,.str b=>a==b
 |.nilp,.nilp=>true
 |.imm cs l c,.imm cs' l' c'=>teqL cs cs'&&(decide (l=l')&&decide (c=c'))
 |.iptr cs,.iptr cs'=>teqL cs cs'
 |.fn f cs,.fn f' cs'=>decide (f=f')&&teqL cs cs'
 |.nilf,.nilf=>true
 |.junk,.junk=>true
 |.mp m,.mp m'=>meq m m'
 |_,_=>false
def teqL:List T->List T->Bool
 |[],[]=>true
 |x::xs,y::ys=>teq x y&&teqL xs ys
 |_,_=>false
end
mutual
theorem teq_ok:∀{x y:T},teq x y=true->x=y:=by
 intro x y h;cases x<;>cases y<;>simp only[teq,A9,Av,Aj,reduceCtorEq]at h<;>first
  |(subst h;rfl)
  |(obtain⟨h1,h2⟩:=h;subst h1;subst h2;rfl)
  |(obtain⟨h1,h2,h3⟩:=h;have:=teqL_ok h1;subst this;subst h2;subst h3;rfl)
  |(obtain⟨h1,h2⟩:=h;have:=teqL_ok h2;subst this;subst h1;rfl)
  |(have:=teqL_ok h;subst this;rfl)
  |(have:=meq_ok h;subst this;rfl)
  |rfl
theorem teqL_ok:∀{x y:List T},teqL x y=true->x=y:=by
 intro x y h;cases x<;>cases y<;>simp only[teqL,A9,reduceCtorEq]at h
 ·rfl
 ·obtain⟨h1,h2⟩:=h;rw[teq_ok h1,teqL_ok h2]
end
def ceq:Cell->Cell->Bool
 |.t x,.t y=>teq x y
 |.ptr r,.ptr s=>decide (r=s)
 |.sl r l c,.sl r' l' c'=>decide (r=r')&&(decide (l=l')&&decide (c=c'))
 |.clo f rs,.clo f' rs'=>decide (f=f')&&decide (rs=rs')
 |_,_=>false
theorem ceq_ok{x y:Cell}(h:ceq x y=true):x=y:=by
 cases x<;>cases y<;>simp only[ceq,A9,Aj,reduceCtorEq]at h<;>first
  |(subst h;rfl)
  |(have:=teq_ok h;subst this;rfl)
  |(obtain⟨h1,h2⟩:=h;subst h1;subst h2;rfl)
  |(obtain⟨h1,h2,h3⟩:=h;subst h1;subst h2;subst h3;rfl)
def ceqL:List Cell->List Cell->Bool
 |[],[]=>true
 |x::xs,y::ys=>ceq x y&&ceqL xs ys
 |_,_=>false
theorem ceqL_ok:∀{x y:List Cell},ceqL x y=true->x=y
 |[],[],_=>rfl
 |x::xs,y::ys,h=>by simp only[ceqL,A9]at h;rw[ceq_ok h.1,ceqL_ok h.2]
def heq:Q1->Q1->Bool
 |[],[]=>true
 |x::xs,y::ys=>(ceqL x.cs y.cs&&(decide (x.es=y.es)&&decide (x.ep=y.ep)))&&heq xs ys
 |_,_=>false
theorem heq_ok:∀{x y:Q1},heq x y=true->x=y
 |[],[],_=>rfl
 |⟨a,b,c⟩::xs,⟨a',b',c'⟩::ys,h=>by simp only[heq,A9,Aj]at h;obtain⟨⟨h1,h2,h3⟩,h4⟩:=h;rw[ceqL_ok h1,heq_ok h4,h2,h3]
def readR(cf:CF)(J:Q1)(g:FuncId)(args:List AV):Option AV:=match cf g args J with
 |some (v,A1)=>match XL 8 A1 J.length v,Wp 8 A1 J.length with
  |some u,some A2=>if heq A2 J then some u else none
  |_,_=>none
 |none=>none
def isWaitO:Obj->Bool
 |⟨[.t (.imm [.int .u8 n] 1 (some 0))],1,0⟩=>n==0
 |_=>false
theorem isWaitO_ok{o:Obj}(h:isWaitO o=true):o=Xp:=by
 unfold isWaitO at h;split at h
 ·rename_i n;have:n=0:=(by simpa using h);subst this;rfl
 ·cases h
def stepDR2(P:Program)(cf:CF)(r:Q3)(J:Q1)(op:Op):Option DR:=match op with
 |.call { callee:=.value f,args,argTypes:=_ }=>match XF r f args.toList with
   |some x=>match constR cf x.1 x.2 with
     |some v=>some (some v,J,[],[])
     |none=>match readR cf J x.1 x.2 with
      |some v=>some (some v,J,List.range (J.length+1),[])
      |none=>match cf x.1 x.2 J with
       |some (v,S')=>if J.length<=S'.length then some (some v,S',List.range (J.length+1),List.range (S'.length+1)) else none
       |none=>none
   |none=>none
 |.binOp b xT x y yT=>if Qr y then none else opD P r J (.binOp b xT x y yT)
 |op=>opD P r J op
def allocD(P:Program)(q:Nat)(J:Q1):Op->Option DR
 |.alloc e=>match tinf P e with
  |some i=>match i.zero,J[q]? with
   |some z,some ow=>if isWaitO ow then some (some (.c (.ptr ⟨q,0,0⟩)),J.set q { cs:=z.map .t },[q+1],[q+1]) else none
   |_,_=>none
  |none=>none
 |_=>none
def drawR2(P:Program)(cf:CF)(N:Nat):List COp->Nat->List Nat->Ql->Q3->Q1->Option (Q3×Q1)
 |[],_,_,_,r,J=>some (r,J)
 |⟨d,op,g,_⟩::os,j,bef,log,r,J=>if Jd N d then (match Xb r g with
  |some true=>match stepDR2 P cf r J op with
   |some (res,S',rs,ws)=>if Qc (bef.headD 0) rs ws log then drawR2 P cf N os (j+1) bef.tail ((j,rs,ws)::log) (r.Qu d res) S' else none
   |none=>none
  |some false=>drawR2 P cf N os (j+1) bef.tail ((j,[],[])::log) (r.drop d) J
  |none=>none) else none
def drawRW(P:Program)(cf:CF)(N:Nat):List COp->Nat->List Nat->Ql->Nat->Q3->Q1->Option (Q3×Q1)
 |[],_,_,_,_,r,J=>some (r,J)
 |⟨d,op,g,_⟩::os,j,bef,log,q,r,J=>if Jd N d then (match Xb r g with
  |some true=>match allocD P q J op with
   |some (res,S',rs,ws)=>if Qc (bef.headD 0) rs ws log then drawRW P cf N os (j+1) bef.tail ((j,rs,ws)::log) (q+1) (r.Qu d res) S' else none
   |none=>match stepDR2 P cf r J op with
    |some (res,S',rs,ws)=>if Qc (bef.headD 0) rs ws log then drawRW P cf N os (j+1) bef.tail ((j,rs,ws)::log) q (r.Qu d res) S' else none
    |none=>none
  |some false=>drawRW P cf N os (j+1) bef.tail ((j,[],[])::log) q (r.drop d) J
  |none=>none) else none
def cntA:List COp->Nat
 |[]=>0
 |⟨_,.alloc ..,_,_⟩::os=>cntA os+1
 |_::os=>cntA os
section
variable {P:Program}{N:Nat}
theorem readR_ok{cf:CF}(hcf:Y5 P cf){g:FuncId}{args:List AV}{v:AV}{J:Q1}(h:readR cf J g args=some v):ZJ P g args J (List.range (J.length+1)) v:=by
 intro τ Ht;have e:τ=J:=by
  have h0:τ.length=J.length:=Ht 0 (by simp);refine List.ext_getElem? λi=> ?_;by_cases hi:i<J.length
  ·exact Ht (i+1) (by simp;exact hi)
  ·rw[Ab (by omega),Ab (by omega)]
 subst e;unfold readR at h;split at h
 ·rename_i v0 A1 h1;split at h
  ·rename_i u A2 hu h2;split at h
   ·rename_i hc;injection h with h;subst h;have:=heq_ok hc;subst this;refine K9 A2.length (A6 _) ((hcf _ _ _ _ _ h1).mono λv' S' ⟨e1,e2⟩=> ?_);subst e1;subst e2;exact⟨8,u,A2,hu,h2,rfl,rfl⟩
   ·cases h
  ·cases h
 ·cases h
theorem stepDR2_ok{cf:CF}(hcf:Y5 P cf){r:Q3}{J S':Q1}{op:Op}{res:Option AV}{rs ws:List Nat}{K:Option AV->Q1->List Nat->List Nat->Prop}{t:Tag K}(h:stepDR2 P cf r J op=some (res,S',rs,ws))(hK:K res S' rs ws):stepD P r J op K t:=by
 unfold stepDR2 at h;unfold stepD;split at h
 ·rename_i f args ts;simp only;split at h
  ·rename_i x hx;rw[hx];split at h
   ·rename_i v h1;simp only[X3,A0]at h;obtain⟨rfl,rfl,rfl,rfl⟩:=h;exact .inl ⟨v,[],constR_ok hcf h1,hK⟩
   ·split at h
    ·rename_i v h1;simp only[X3,A0]at h;obtain⟨rfl,rfl,rfl,rfl⟩:=h;exact .inl ⟨v,_,readR_ok hcf h1,hK⟩
    ·split at h
     ·rename_i v τ h1;split at h
      ·rename_i hl;simp only[X3,A0]at h;obtain⟨rfl,rfl,rfl,rfl⟩:=h;exact .inr ⟨v,τ,hcf _ _ _ _ _ h1,hl,hK⟩
      ·cases h
     ·cases h
  ·cases h
 ·rename_i b xT x y yT;simp only;split at h
  ·cases h
  ·rename_i hy;simp only[hy,AM,Af,h,ZL];exact hK
 ·rename_i h1 h2;split
  ·rename_i f args ts;exact absurd rfl (h1 f args ts)
  ·rename_i b xT x y yT;exact absurd rfl (h2 b xT x y yT)
  ·simp only[h,ZL];exact hK
theorem drawR2_ok{cf:CF}(hcf:Y5 P cf){K:Q3->Q1->Prop}{t:Tag K}:∀{os:List COp} {j:Nat} {bef:List Nat} {log:Ql} {r r':Q3} {J S':Q1},drawR2 P cf N os j bef log r J=some (r',S')->K r' S'->Wk P N os j bef log r J K t
 |[],j,bef,log,r,r',J,S',h,hK=>by simp only[drawR2,X3,A0]at h;obtain⟨rfl,rfl⟩:=h;exact hK
 |⟨d,op,g,k⟩::os,j,bef,log,r,r',J,S',h,hK=>by
  simp only[drawR2]at h;split at h
  ·rename_i hd;refine⟨hd,?_⟩;split at h
   ·rename_i hg;rw[hg,Xh];split at h
    ·rename_i res A1 rs ws h1;split at h
     ·rename_i hf;exact stepDR2_ok hcf h1 ⟨hf,drawR2_ok hcf h hK⟩
     ·cases h
    ·cases h
   ·rename_i hg;rw[hg,ZK];exact drawR2_ok hcf h hK
   ·cases h
  ·cases h
theorem drawRW_ok{m:Nat}{cf:CF}(hcf:Y5 P cf){K:Q3->Q1->Prop}{t:Tag K}:∀{os:List COp} {j:Nat} {bef:List Nat} {log:Ql} {q:Nat} {r r':Q3} {J S':Q1},m<=q->drawRW P cf N os j bef log q r J=some (r',S')->K r' S'->Yj P N m os j bef log r J K t
 |[],j,bef,log,q,r,r',J,S',hq,h,hK=>by simp only[drawRW,X3,A0]at h;obtain⟨rfl,rfl⟩:=h;exact hK
 |⟨d,op,g,k⟩::os,j,bef,log,q,r,r',J,S',hq,h,hK=>by
  simp only[drawRW]at h;split at h
  ·rename_i hd;refine⟨hd,?_⟩;split at h
   ·rename_i hg;rw[hg,Xh];split at h
    ·rename_i res A1 rs ws h1;split at h
     ·rename_i hf;refine .inr (.inl ?_);unfold allocD at h1;split at h1
      ·rename_i e;split at h1
       ·rename_i i hi;split at h1
        ·rename_i z ow hz hw;split at h1
         ·rename_i hiw;simp only[X3,A0]at h1;obtain⟨rfl,rfl,rfl,rfl⟩:=h1;have hw':J[q]? =some Xp:=(by rw[hw,isWaitO_ok hiw]);refine⟨q,[{ cs:=z.map .t }],.c (.ptr ⟨q,0,0⟩),hq,Nat.zero_lt_one,λi hi=> ?_,λo ho c hc=> ?_,WY hi hz q,hf,?_⟩
          ·have:i=0:=(by simpa using hi);subst this;exact hw'
          ·simp only[Ai]at ho;subst ho;obtain⟨t,_,rfl⟩:=Ba.1 hc;exact⟨t,rfl⟩
          ·exact drawRW_ok hcf (Nat.le_succ_of_le hq) h hK
         ·cases h1
        ·cases h1
       ·cases h1
      ·cases h1
     ·cases h
    ·split at h
     ·rename_i res A1 rs ws h1;split at h
      ·rename_i hf;exact .inl (stepDR2_ok hcf h1 ⟨hf,drawRW_ok hcf hq h hK⟩)
      ·cases h
     ·cases h
   ·rename_i hg;rw[hg,ZK];exact drawRW_ok hcf hq h hK
   ·cases h
  ·cases h
end
def runC2(P:Program)(cf:CF)(N:Nat):Nat->CC->Q3->Q1->Option (Exit×Q3×Q1)
 |0,_,_,_=>none
 |_+1,.skip,r,J=>some (.normal,r,J)
 |_+1,.reg ops,r,J=>(opsR P cf N ops r J).map λx=>(.normal,x)
 |_+1,.drw ops bef,r,J=>(match drawR2 P cf N ops 0 bef [] r J with|some x=>some x|none=>drawRW P cf N ops 0 bef [] J.length r (J++List.replicate (cntA ops) Xp)).map λx=>(.normal,x)
 |k+1,.seq a b,r,J=>match runC2 P cf N k a r J with
  |some (.normal,r',S')=>runC2 P cf N k b r' S'
  |x=>x
 |k+1,.cond c a b,r,J=>match ev r c with
  |some (.c (.t (.bool true)))=>runC2 P cf N k a r J
  |some (.c (.t (.bool false)))=>runC2 P cf N k b r J
  |_=>none
 |k+1,.block id a,r,J=>match runC2 P cf N k a r J with
  |some (.exit i,r',S')=>if i=id then some (.normal,r',S') else some (.exit i,r',S')
  |x=>x
 |k+1,.loop a,r,J=>match runC2 P cf N k a r J with
  |some (.normal,r',S')=>runC2 P cf N k (.loop a) r' S'
  |x=>x
 |_+1,.exit id,r,J=>some (.exit id,r,J)
 |_+1,.ret,r,J=>some (.ret,r,J)
 |_+1,.rng ..,_,_=>none
 |k+1,.scp a,r,J=>match runC2 P cf N k a r J with
  |some (.goto _,_,_)=>none
  |x=>x
 |_+1,.lbl,r,J=>some (.normal,r,J)
def runF2(P:Program)(T:Tab)(cf0:CF)(L:Nat):Nat->CF
 |0,_,_,_=>none
 |k+1,f,args,J=>match T f with
  |some (N,rs,C)=>if args.length<=N then (match runC2 P (runF2 P T cf0 L k) N L C (Qv args) J with
   |some (.normal,r,S')=>(Yv P rs r S').map λv=>(v,S')
   |some (.ret,r,S')=>(Yv P rs r S').map λv=>(v,S')
   |_=>none) else none
  |none=>cf0 f args J
section
variable {P:Program}{N:Nat}{ro:Option Nat}
theorem runC2_ok(hm:P.follows .mixedOrders=true){cf:CF}(hcf:Y5 P cf):∀{k:Nat} {C:CC} {r r':Q3} {J S':Q1} {e:Exit} {Q:Exit->Q3->Q1->Prop} {t:Tag Q},runC2 P cf N k C r J=some (e,r',S')->Q e r' S'->wpq P N ro C r J Q t:=by
 intro k
 induction k using Nat.strongRecOn with
 |_ k ih=>
 cases k with
 |zero=>intro C r r' J S' e Q t h;simp[runC2]at h
 |succ k=>
  intro C r r' J S' e Q t h hQ
  cases C with
  |skip=>simp only[runC2,X3,A0]at h;obtain⟨rfl,rfl,rfl⟩:=h;exact hQ
  |reg ops=>simp only[runC2,WF]at h;obtain⟨⟨r1,A1⟩,h1,h2⟩:=h;simp only[A0]at h2;obtain⟨rfl,rfl,rfl⟩:=h2;exact opsR_ok hcf h1 hQ
  |drw ops bef=>
   simp only[runC2,WF]at h;obtain⟨⟨r1,A1⟩,h1,h2⟩:=h;simp only[A0]at h2;obtain⟨rfl,rfl,rfl⟩:=h2;split at h1
   ·rename_i x hx;injection h1 with h1;subst h1;exact draw_ok hm (t':=⟨⟩) (drawR2_ok hcf hx hQ)
   ·exact Ut hm _ (t':=⟨⟩) (drawRW_ok hcf (A6 _) h1 hQ)
  |seq a b=>
   simp only[runC2]at h;simp only[wpq];split at h
   ·rename_i r1 A1 h1;exact ih k (BO k) h1 (ih k (BO k) h hQ)
   ·rename_i hne;refine ih k (BO k) h ?_
    cases e with
    |normal=>exact absurd h (hne _ _)
    |_=>exact hQ
  |cond c a b=>
   simp only[runC2]at h;simp only[wpq];split at h
   ·rename_i hc;rw[hc,onBool_true];exact ih k (BO k) h hQ
   ·rename_i hc;rw[hc,onBool_false];exact ih k (BO k) h hQ
   ·cases h
  |block id a=>
   simp only[runC2]at h;simp only[wpq];split at h
   ·rename_i i r1 A1 h1;refine ih k (BO k) h1 ?_;simp only;split at h
    ·rename_i hi;rw[AF hi];simp only[X3,A0]at h;obtain⟨rfl,rfl,rfl⟩:=h;exact hQ
    ·rename_i hi;rw[AP hi];simp only[X3,A0]at h;obtain⟨rfl,rfl,rfl⟩:=h;exact hQ
   ·rename_i hne;refine ih k (BO k) h ?_
    cases e with
    |exit i=>exact absurd h (hne _ _ _)
    |_=>exact hQ
  |loop a=>
   intro c ks ks' hc;refine ok_loop2 (λn r J=>∃e r' S',n<=k+1/\runC2 P cf N n (.loop a) r J=some (e,r',S')/\Q e r' S') (n:=k+1) ⟨e,r',S',A6 _,h,hQ⟩ ?_;rintro n r1 A1 ⟨e2,r2,A2,hn,h2,hQ2⟩
   cases n with
   |zero=>simp[runC2]at h2
   |succ n=>
    simp only[runC2]at h2;split at h2
    ·rename_i r3 A3 h3;refine Zk (t:=⟨⟩) hc (ih n (by omega) h3 ?_);exact⟨n,r3,A3,BO n,(ZI.sub λ_ _ h=>h).f _,e2,r2,A2,by omega,h2,hQ2⟩
    ·rename_i hne;refine Zk (t:=⟨⟩) hc (ih n (by omega) h2 ?_)
     cases e2 with
     |normal=>exact absurd h2 (hne _ _)
     |_=>exact hQ2
  |exit id=>simp only[runC2,X3,A0]at h;obtain⟨rfl,rfl,rfl⟩:=h;exact hQ
  |ret=>simp only[runC2,X3,A0]at h;obtain⟨rfl,rfl,rfl⟩:=h;exact hQ
  |rng f ps a b=>simp[runC2]at h
  |scp a=>
   simp only[runC2]at h;simp only[wpq];split at h
   ·cases h
   ·rename_i hne;refine ih k (BO k) h ?_
    cases e with
    |goto l=>exact absurd h (hne _ _ _)
    |_=>exact hQ
  |lbl=>simp only[runC2,X3,A0]at h;obtain⟨rfl,rfl,rfl⟩:=h;exact hQ
theorem runF2_ok(hm:P.follows .mixedOrders=true){T:Tab}(hT:∀f N rs C,T f=some (N,rs,C)->Q6 P f N rs C){cf0:CF}(h0:Y5 P cf0)(L:Nat):∀k,Y5 P (runF2 P T cf0 L k):=by
 intro k
 induction k with
 |zero=>intro f args J v S' h;simp[runF2]at h
 |succ k ih=>
  intro f args J v S' h;simp only[runF2]at h;split at h
  ·rename_i N rs C hf;split at h
   ·rename_i hn;refine fnq (hT f N rs C hf) hn ?_;split at h
    ·rename_i r1 A1 h1;rw[WF]at h;obtain⟨u,h2,h3⟩:=h;injection h3 with h3 h4;subst h3;subst h4;refine runC2_ok hm ih h1 ?_;simp only[bodyQ,h2,Jv,and_self]
    ·rename_i r1 A1 h1;rw[WF]at h;obtain⟨u,h2,h3⟩:=h;injection h3 with h3 h4;subst h3;subst h4;refine runC2_ok hm ih h1 ?_;simp only[bodyQ,h2,Jv,and_self]
    ·cases h
   ·cases h
  ·exact h0 _ _ _ _ _ h
def checkR2(P:Program)(T:Tab)(cf0:CF)(L k:Nat)(f:FuncId)(args:List AV):Option AV:=match runF2 P T cf0 L k f args [] with
 |some (v,J)=>XL 8 J 0 v
 |none=>none
theorem checkR2_ok(hm:P.follows .mixedOrders=true){T:Tab}(hT:∀f N rs C,T f=some (N,rs,C)->Q6 P f N rs C){cf0:CF}(h0:Y5 P cf0){L k:Nat}{f:FuncId}{args:List AV}{v:AV}(h:checkR2 P T cf0 L k f args=some v):Qo P f args [] λu τ=>u=v/\τ=[]:=by
 unfold checkR2 at h;split at h
 ·rename_i u J h1;refine K9 0 (by simp) ((runF2_ok hm hT h0 L k f args [] u J h1).mono λv' S' ⟨e1,e2⟩=> ?_);subst e1;subst e2;exact⟨8,v,[],h,by simp[Wp,J6],rfl,rfl⟩
 ·cases h
end
end Go.Abs
namespace Go.Proofs.YtpbplpgfloaaiaaGreatDoor
open Go.Abs
namespace M78
structure gX where(kind:Int)
def g:Sg gX:=⟨[.c (.it .u8)],[],λa b=>⟨a.1⟩,λx=>(x.kind,()),λx=>()⟩
abbrev fY:=Int×Int
def f:Ft fY:=⟨none,.tup [.inl (.it .i64),.inl (.it .i64)],[],λa b=>(a.1,a.2.1),λy=>(y.1,(y.2,())),λy=>()⟩
def fan:List (Int×Int):=[(0,0),(0,0),(0,0),(1,1),(1,1),(2,16),(2,16),(2,16),(2,16),(2,16),(2,16),(3,3),(2,2),(1,16),(1,1),(0,0)]
def m(x:gX):Option fY:=if 0<=x.kind/\x.kind<16 then some (fan.getD x.kind.toNat (0,0)) else none
theorem known:QB Tryz.prog 78 g f m:=by
 refine⟨λ_ _=>⟨rfl,rfl⟩,by decide,λ⟨k⟩ y h=> ?_⟩;by_cases hk:0<=k/\k<16
 ·have h:(if 0<=k/\k<16 then some (fan.getD k.toNat (0,0)) else none)=some y:=h;rw[AF hk]at h;obtain rfl:=Aq h;clear h;have e:k=0\/k=1\/k=2\/k=3\/k=4\/k=5\/k=6\/k=7\/k=8\/k=9\/k=10\/k=11\/k=12\/k=13\/k=14\/k=15:=(by omega);clear hk;rcases e with rfl|rfl|rfl|rfl|rfl|rfl|rfl|rfl|rfl|rfl|rfl|rfl|rfl|rfl|rfl|rfl<;>
   exact checkR2_ok mixed tab_ok (cf0:=λ_ _ _=>none) (λ_ _ _ _ _ h=>by cases h) (L:=200) (k:=20) (v:=.tup [.inl (.t (.int .i64 _)),.inl (.t (.int .i64 _))]) (by kernel_rfl)
 ·have h:(if 0<=k/\k<16 then some (fan.getD k.toNat (0,0)) else none)=some y:=h;rw[AP hk]at h;cases h
def con:Con:=Qa g f m default
theorem con_ok:QC Tryz.prog 78 con:=Q9 known (λ_=>rfl) rfl
end M78
end Go.Proofs.YtpbplpgfloaaiaaGreatDoor
namespace Go.Proofs.YtpbplpgfloaaiaaGreatDoor
open Go.Abs
namespace M44
structure gX where(kind:Int)(l:List (Int))
def g:Sg gX:=⟨[.c (.it .u8),.c (.arr (.int .u8))],[],λa b=>⟨a.1,a.2.1⟩,λx=>(x.kind,(x.l,())),λx=>()⟩
abbrev fY:=Int
def f:Ft fY:=⟨none,.c (.it .u8),[],λa b=>(a),λy=>y,λy=>()⟩
def cl:List (FuncId×Con):=[(78,M78.con),(79,M79.con),(80,M80.con),(81,M81.con),(82,M82.con),(83,M83.con),(84,M84.con),(85,M85.con),(86,M86.con)]
theorem cl_ok:Q8 Tryz.prog cl:=⟨M78.con_ok,M79.con_ok,M80.con_ok,M81.con_ok,M82.con_ok,M83.con_ok,M84.con_ok,M85.con_ok,M86.con_ok,trivial⟩
def E0:Env:=⟨ty,QE cl,λ_=>none,none⟩
def m(x:gX):Option fY:=bindO (M78.m ⟨x.kind⟩) λy=>bif bif decide ((↑x.l.length:Int)<y.1) then true else decide ((↑x.l.length:Int)>y.2) then some 2 else bif x.kind==1 then some 0 else bif x.kind==2 then some 1 else bif x.kind==3 then bif inR 0 x.l.length then bindO (M79.m ⟨x.l[0]?.getD 0⟩) λy=>some y else none else bif x.kind==4 then bif inR 0 x.l.length then bindO (M80.m ⟨x.l[0]?.getD 0⟩) λy=>some y else none else bif x.kind==5 then bindO (M81.m ⟨x.l⟩) λy=>some y else bif x.kind==6 then bindO (M81.m ⟨x.l⟩) λy=>bindO (M80.m ⟨y⟩) λy=>some y else bif x.kind==7 then bindO (M82.m ⟨x.l⟩) λy=>some y else bif x.kind==8 then bindO (M82.m ⟨x.l⟩) λy=>bindO (M80.m ⟨y⟩) λy=>some y else bif x.kind==9 then bindO (M83.m ⟨x.l⟩) λy=>some y else bif x.kind==10 then bindO (M83.m ⟨x.l⟩) λy=>bindO (M80.m ⟨y⟩) λy=>some y else bif x.kind==11 then bif inR 0 x.l.length then bif inR 1 x.l.length then bif inR 2 x.l.length then bindO (M84.m ⟨x.l[0]?.getD 0,x.l[1]?.getD 0,x.l[2]?.getD 0⟩) λy=>some y else none else none else none else bif x.kind==12 then bif inR 0 x.l.length then bif inR 1 x.l.length then bindO (M85.m ⟨x.l[0]?.getD 0,x.l[1]?.getD 0⟩) λy=>some y else none else none else bif x.kind==13 then bindO (M86.m ⟨x.l⟩) λy=>some y else some 2
theorem m_eq(x:gX):exec E0 91 C44 0 (QD 0 (g.A x)) (g.H x) (finish 0 ty [.tmp 4] f)=m x:=by kernel_rfl
theorem tl:QA C44 0=[]:=by kernel_rfl
theorem known:QB Tryz.prog 44 g f m:=
 Q5 mixed (Q4 ty_ok cl_ok _) s44 rfl rfl tl Q7.nil (λ_ _=>⟨rfl,rfl⟩) (λ_ _=>⟨rfl,rfl⟩) m_eq
def con:Con:=Qa g f m default
theorem con_ok:QC Tryz.prog 44 con:=Q9 known (λ_=>rfl) rfl
end M44
end Go.Proofs.YtpbplpgfloaaiaaGreatDoor
namespace Go.Proofs.YtpbplpgfloaaiaaGreatDoor
open Go.Abs
namespace Co
theorem w64{x:Int}(h: -9223372036854775808<=x)(h':x<=9223372036854775807):IntKind.i64.wrap x=x:=by simp[IntKind.wrap,IntKind.signed,IntKind.bits];omega
theorem inR_nat{i n:Nat}(h:i<n):inR (i:Int) n=true:=by simp[inR];omega
theorem getD_at{α:Type}{l:List α}{i:Nat}(h:i<l.length)(d:α):l[(i:Int).toNat]?.getD d=l[i]:=by simp[h]
theorem suc{i:Nat}(h:i<9000000000000000000):IntKind.i64.wrap ((i:Int)+1)=((i+1:Nat):Int):=by rw[w64 (by omega) (by omega)];omega
theorem m118(l:List Int)(low high:Int)(hl:l.length<=1000000):∃v,M118.m ⟨l,low,high⟩=some v/\(v=low\/v=2\/v=high):=by
 obtain⟨y,h1,h2⟩:=iter_inv (step:=M118.s0) (λx=>x.low=low/\x.high=high/\x.l=l/\x.n=(l.length:Int)/\∃k:Nat,x.i=(k:Int)/\k<=l.length/\(x.out=2\/x.out=high)) (λx=>l.length - x.i.toNat)
  (λy=>match y with|.inl q=>q.out=2\/q.out=high|.inr z=>z.r=low) (by
   rintro⟨lo,hg,out,l',n,i⟩ ⟨h1,h2,h3,h4,k,h5,hk,ho⟩;obtain rfl:lo=low:=h1;obtain rfl:hg=high:=h2;obtain rfl:l'=l:=h3;obtain rfl:n=(l'.length:Int):=h4;obtain rfl:i=(k:Int):=h5;have ho:out=2\/out=hg:=ho;unfold M118.s0;by_cases hlt:k<l'.length
   ·have e1:decide ((k:Int)<(l'.length:Int))=true:=AB (by omega);simp only[e1,inR_nat hlt,getD_at hlt,A5,suc (i:=k) (by omega)];by_cases e2:l'[k]=lo
    ·exact⟨.inr (.inr ⟨lo⟩),by rw[Av.2 e2,A5],rfl⟩
    ·refine⟨.inl ⟨lo,hg,bif l'[k] !=hg then 2 else out,l',(l'.length:Int),((k+1:Nat):Int)⟩,by rw[Ae.2 e2,A7],⟨rfl,rfl,rfl,rfl,k+1,rfl,hlt,?_⟩,by simp;omega⟩;show(bif l'[k] !=hg then (2:Int) else out)=2\/(bif l'[k] !=hg then (2:Int) else out)=hg
     cases (l'[k] !=hg) with
     |true=>exact .inl rfl
     |false=>exact ho
   ·have e1:decide ((k:Int)<(l'.length:Int))=false:=AN (by omega);simp only[e1,A7];exact⟨.inr (.inl ⟨out⟩),rfl,ho⟩) ⟨low,high,high,l,(l.length:Int),0⟩ ⟨rfl,rfl,rfl,rfl,0,rfl,B0 _,.inr rfl⟩
 unfold M118.m;have h1':iter M118.s0 { low:=low,high:=high,out:=high,l:=l,n:=(l.length:Int),i:=0 }=some y:=h1;simp only[h1',bindO]
 cases y with
 |inl q=>exact⟨_,rfl,.inr h2⟩
 |inr z=>exact⟨_,rfl,.inl h2⟩
theorem iter_find{X Y Z:Type}{step:X->Option (X⊕(Y⊕Z))}(S:Nat->X)(n:Nat)(F:Nat->Z){y:Y}(h:∀k,k<n->step (S k)=some (.inl (S (k+1)))\/step (S k)=some (.inr (.inr (F k))))(he:step (S n)=some (.inr (.inl y))):
  ∃s,iter step (S 0)=some s/\(s=.inl y\/∃k,k<n/\s=.inr (F k)):=by
 have:∀j i,i+j=n->∃s,iter step (S i)=some s/\(s=.inl y\/∃k,k<n/\s=.inr (F k)):=by
  intro j
  induction j with
  |zero=>intro i hi;have e:i=n:=(by omega);subst e;exact⟨_,by rw[iter_eq,he],.inl rfl⟩
  |succ j ih=>
   intro i hi;rcases h i (by omega) with h1|h1
   ·obtain⟨s,h2,h3⟩:=ih (i+1) (by omega);exact⟨s,by rw[iter_eq,h1];exact h2,h3⟩
   ·exact⟨_,by rw[iter_eq,h1],.inr ⟨i,by omega,rfl⟩⟩
 exact this n 0 (by omega)
abbrev At(r:Int)(n:Nat):Prop:=r= -1\/(0<=r/\r<n)
theorem m170(l:List Int)(v:Int)(hl:l.length<=1000000):∃r,M170.m ⟨l,v⟩=some r/\At r l.length:=by
 obtain⟨s,h1,h2⟩:=iter_find (step:=M170.s0) (λk=>⟨l,v,(l.length:Int),(k:Int)⟩) l.length (λk=>⟨(k:Int)⟩) (y:=PUnit.unit) (λk hk=>by
   have e1:decide ((k:Int)<(l.length:Int))=true:=AB (by omega);unfold M170.s0;simp only[e1,inR_nat hk,A5,suc (i:=k) (by omega)]
   cases (v==l[(k:Int).toNat]?.getD 0) with
   |true=>exact .inr rfl
   |false=>exact .inl rfl) (by
   have e1:decide ((l.length:Int)<(l.length:Int))=false:=AN (by omega);unfold M170.s0;simp only[e1,A7])
 unfold M170.m;have h1':iter M170.s0 { s:=l,v:=v,n:=(l.length:Int),i:=0 }=some s:=h1;simp only[h1',bindO];rcases h2 with rfl|⟨k,hk,rfl⟩
 ·exact⟨_,rfl,.inl rfl⟩
 ·exact⟨(k:Int),rfl,.inr ⟨by omega,by omega⟩⟩
end Co
end Go.Proofs.YtpbplpgfloaaiaaGreatDoor
namespace Go.Proofs.YtpbplpgfloaaiaaGreatDoor
open Go.Abs
namespace M163
structure gX where(n:Int)(nodes:List ((Int)×(List (Int))×(Int)×Int))(names:List (List UInt8))(mems:List ((List (Int))×(List (Int))×Int))(outs:List (Int))
def g:Sg gX:=⟨[.c (.it .i64),.c (.ptr 0 0)],[.st [.arr (.pair (.int .u8) (.pair (.sl (.int .i64)) (.pair (.int .i64) (.int .i64)))),.arr .str,.arr (.pair (.sl (.int .i64)) (.pair (.sl (.int .i64)) (.int .i64))),.arr (.int .i64)] 1 0],λa b=>⟨a.1,b.1.1,b.1.2.1,b.1.2.2.1,b.1.2.2.2.1⟩,λx=>(x.n,((),())),λx=>((x.nodes,(x.names,(x.mems,(x.outs,())))),())⟩
abbrev fY:=Bool×(List ((Int)×(List (Int))×(Int)×Int))×List (List UInt8)×(List ((List (Int))×(List (Int))×Int))×List (Int)
def f:Ft fY:=⟨none,.c (.bo),[.st [.arr (.pair (.int .u8) (.pair (.sl (.int .i64)) (.pair (.int .i64) (.int .i64)))),.arr .str,.arr (.pair (.sl (.int .i64)) (.pair (.sl (.int .i64)) (.int .i64))),.arr (.int .i64)] 1 0],λa b=>(a,b.1.1,b.1.2.1,b.1.2.2.1,b.1.2.2.2.1),λy=>y.1,λy=>((y.2.1,(y.2.2.1,(y.2.2.2.1,(y.2.2.2.2,())))),())⟩
def cl:List (FuncId×Con):=[]
theorem cl_ok:Q8 Tryz.prog cl:=trivial
def E0:Env:=⟨ty,QE cl,λ_=>none,none⟩
def m(x:gX):Option fY:=some (bif decide (x.n<0) then true else decide (x.n>=(↑x.nodes.length:Int)),x.nodes,x.names,x.mems,x.outs)
theorem m_eq(x:gX):exec E0 13 C163 0 (QD 0 (g.A x)) (g.H x) (finish 1 ty [.tmp 3] f)=m x:=by kernel_rfl
theorem tl:QA C163 0=[]:=by kernel_rfl
theorem known:QB Tryz.prog 163 g f m:=
 Q5 mixed (Q4 ty_ok cl_ok _) s163 rfl rfl tl Q7.nil (λ_ _=>⟨rfl,rfl⟩) (λ_ _=>⟨rfl,rfl⟩) m_eq
def con:Con:=ZR g [.arg 1 0] f m default
theorem con_ok:QC Tryz.prog 163 con:=J4 known (λ_=>rfl) (λ_ _ h=>by unfold m at h;cases h;rfl)
end M163
namespace M164
structure gX where(n:Int)(nodes:List ((Int)×(List (Int))×(Int)×Int))(names:List (List UInt8))(mems:List ((List (Int))×(List (Int))×Int))(outs:List (Int))
def g:Sg gX:=⟨[.c (.it .i64),.c (.ptr 0 0)],[.st [.arr (.pair (.int .u8) (.pair (.sl (.int .i64)) (.pair (.int .i64) (.int .i64)))),.arr .str,.arr (.pair (.sl (.int .i64)) (.pair (.sl (.int .i64)) (.int .i64))),.arr (.int .i64)] 1 0],λa b=>⟨a.1,b.1.1,b.1.2.1,b.1.2.2.1,b.1.2.2.2.1⟩,λx=>(x.n,((),())),λx=>((x.nodes,(x.names,(x.mems,(x.outs,())))),())⟩
abbrev fY:=Bool×(List ((Int)×(List (Int))×(Int)×Int))×List (List UInt8)×(List ((List (Int))×(List (Int))×Int))×List (Int)
def f:Ft fY:=⟨none,.c (.bo),[.st [.arr (.pair (.int .u8) (.pair (.sl (.int .i64)) (.pair (.int .i64) (.int .i64)))),.arr .str,.arr (.pair (.sl (.int .i64)) (.pair (.sl (.int .i64)) (.int .i64))),.arr (.int .i64)] 1 0],λa b=>(a,b.1.1,b.1.2.1,b.1.2.2.1,b.1.2.2.2.1),λy=>y.1,λy=>((y.2.1,(y.2.2.1,(y.2.2.2.1,(y.2.2.2.2,())))),())⟩
def cl:List (FuncId×Con):=[]
theorem cl_ok:Q8 Tryz.prog cl:=trivial
def E0:Env:=⟨ty,QE cl,λ_=>none,none⟩
def m(x:gX):Option fY:=bif inR x.n x.nodes.length then some ((x.nodes[x.n.toNat]?.getD (0,[],0,0)).1 !=12,x.nodes,x.names,x.mems,x.outs) else none
theorem m_eq(x:gX):exec E0 11 C164 0 (QD 0 (g.A x)) (g.H x) (finish 1 ty [.tmp 3] f)=m x:=by kernel_rfl
theorem tl:QA C164 0=[]:=by kernel_rfl
theorem known:QB Tryz.prog 164 g f m:=
 Q5 mixed (Q4 ty_ok cl_ok _) s164 rfl rfl tl Q7.nil (λ_ _=>⟨rfl,rfl⟩) (λ_ _=>⟨rfl,rfl⟩) m_eq
def con:Con:=ZR g [.arg 1 0] f m default
theorem con_ok:QC Tryz.prog 164 con:=J4 known (λ_=>rfl) (λ_ _ h=>by unfold m at h;rcases cond_some h with ⟨_,h⟩|⟨_,h⟩<;>cases h;rfl)
end M164
namespace M168a
structure gX where(s:List (Int))(nodes:List ((Int)×(List (Int))×(Int)×Int))(names:List (List UInt8))(mems:List ((List (Int))×(List (Int))×Int))(outs:List (Int))
def g:Sg gX:=⟨[.c (.arr (.int .i64)),.c (.clo 163 [⟨0,0,0⟩])],[.st [.arr (.pair (.int .u8) (.pair (.sl (.int .i64)) (.pair (.int .i64) (.int .i64)))),.arr .str,.arr (.pair (.sl (.int .i64)) (.pair (.sl (.int .i64)) (.int .i64))),.arr (.int .i64)] 1 0],λa b=>⟨a.1,b.1.1,b.1.2.1,b.1.2.2.1,b.1.2.2.2.1⟩,λx=>(x.s,((),())),λx=>((x.nodes,(x.names,(x.mems,(x.outs,())))),())⟩
abbrev fY:=Int×(List ((Int)×(List (Int))×(Int)×Int))×List (List UInt8)×(List ((List (Int))×(List (Int))×Int))×List (Int)
def f:Ft fY:=⟨none,.c (.it .i64),[.st [.arr (.pair (.int .u8) (.pair (.sl (.int .i64)) (.pair (.int .i64) (.int .i64)))),.arr .str,.arr (.pair (.sl (.int .i64)) (.pair (.sl (.int .i64)) (.int .i64))),.arr (.int .i64)] 1 0],λa b=>(a,b.1.1,b.1.2.1,b.1.2.2.1,b.1.2.2.2.1),λy=>y.1,λy=>((y.2.1,(y.2.2.1,(y.2.2.2.1,(y.2.2.2.2,())))),())⟩
def cl:List (FuncId×Con):=[(163,M163.con)]
theorem cl_ok:Q8 Tryz.prog cl:=⟨M163.con_ok,trivial⟩
def E1:Env:=⟨ty,QE cl,λ_=>none,none⟩
structure p0X where(s:List (Int))(n i:Int)(nodes:List ((Int)×(List (Int))×(Int)×Int))(names:List (List UInt8))(mems:List ((List (Int))×(List (Int))×Int))(outs:List (Int))
def p0:Pt p0X where
 own:=[]
 t:=⟨[(0,.c (.arr (.int .i64))),(1,.c (.clo 163 [⟨0,0,0⟩])),(7,.c (.it .i64)),(8,.c (.it .i64))],[.st [.arr (.pair (.int .u8) (.pair (.sl (.int .i64)) (.pair (.int .i64) (.int .i64)))),.arr .str,.arr (.pair (.sl (.int .i64)) (.pair (.sl (.int .i64)) (.int .i64))),.arr (.int .i64)] 1 0]⟩
 to:=λv=>⟨v.1.1,v.1.2.2.1,v.1.2.2.2.1,v.2.1.1,v.2.1.2.1,v.2.1.2.2.1,v.2.1.2.2.2.1⟩
 fr:=λx=>((x.s,((),(x.n,(x.i,())))),((x.nodes,(x.names,(x.mems,(x.outs,())))),()))
structure q0X where(nodes:List ((Int)×(List (Int))×(Int)×Int))(names:List (List UInt8))(mems:List ((List (Int))×(List (Int))×Int))(outs:List (Int))
def q0:Pt q0X where
 own:=[]
 t:=⟨[],[.st [.arr (.pair (.int .u8) (.pair (.sl (.int .i64)) (.pair (.int .i64) (.int .i64)))),.arr .str,.arr (.pair (.sl (.int .i64)) (.pair (.sl (.int .i64)) (.int .i64))),.arr (.int .i64)] 1 0]⟩
 to:=λv=>⟨v.2.1.1,v.2.1.2.1,v.2.1.2.2.1,v.2.1.2.2.2.1⟩
 fr:=λx=>((),((x.nodes,(x.names,(x.mems,(x.outs,())))),()))
structure z0X where(r:Int)(nodes:List ((Int)×(List (Int))×(Int)×Int))(names:List (List UInt8))(mems:List ((List (Int))×(List (Int))×Int))(outs:List (Int))
def z0:Pt z0X where
 own:=[]
 t:=⟨[(4,.c (.it .i64))],[.st [.arr (.pair (.int .u8) (.pair (.sl (.int .i64)) (.pair (.int .i64) (.int .i64)))),.arr .str,.arr (.pair (.sl (.int .i64)) (.pair (.sl (.int .i64)) (.int .i64))),.arr (.int .i64)] 1 0]⟩
 to:=λv=>⟨v.1.1,v.2.1.1,v.2.1.2.1,v.2.1.2.2.1,v.2.1.2.2.2.1⟩
 fr:=λx=>((x.r,()),((x.nodes,(x.names,(x.mems,(x.outs,())))),()))
def s0(x:p0X):Option (p0X⊕(q0X⊕z0X)):=bif decide (x.i<x.n) then bif inR x.i x.s.length then bindO (M163.m ⟨x.s[x.i.toNat]?.getD 0,x.nodes,x.names,x.mems,x.outs⟩) λy=>bif y.1 then some (Sum.inr (Sum.inr ⟨x.i,x.nodes,x.names,x.mems,x.outs⟩)) else some (Sum.inl ⟨x.s,x.n,IntKind.i64.wrap (x.i+1),x.nodes,x.names,x.mems,x.outs⟩) else none else some (Sum.inr (Sum.inl ⟨x.nodes,x.names,x.mems,x.outs⟩))
theorem s0_eq(x:p0X):exec E1 19 (C168.Q0 0) 1 (p0.R x) (p0.H x) (J9 1 p0 (.exit 0) q0 .ret z0)=s0 x:=by kernel_rfl
def l0:QJ:=JA 1 p0 (.exit 0) q0 .ret z0 s0
theorem tl0:QA (C168.Q0 0) 1=[]:=by kernel_rfl
theorem l0_ok  :QF Tryz.prog 19 none 1 (C168.Q0 0) l0:=Qd mixed (Q4 ty_ok cl_ok _) (by trivial) (by trivial) (λ_=>rfl) (λ_=>rfl) (λ_=>rfl) (tl0▸Q7.nil) s0_eq
def E0:Env:=⟨ty,QE cl,Qi [(0,l0)],none⟩
def m(x:gX):Option fY:=bindO (iter s0 ⟨x.s,(↑x.s.length:Int),0,x.nodes,x.names,x.mems,x.outs⟩) λs=>sumC s (λy=>some (-1,y.nodes,y.names,y.mems,y.outs)) λz=>some (z.r,z.nodes,z.names,z.mems,z.outs)
theorem m_eq(x:gX):exec E0 19 C168 0 (QD 0 (g.A x)) (g.H x) (finish 1 ty [.tmp 4] f)=m x:=by kernel_rfl
theorem tl:QA C168 0=[(0,C168.Q0 0)]:=by kernel_rfl
theorem known:QB Tryz.prog 168 g f m:=
 Q5 mixed (Q4 ty_ok cl_ok _) s168 rfl rfl tl (Q7.cons rfl l0_ok Q7.nil) (λ_ _=>⟨rfl,rfl⟩) (λ_ _=>⟨rfl,rfl⟩) m_eq
theorem hh{x:gX}{y:fY}(h:m x=some y):f.H y=g.H x:=by
 unfold m at h;obtain⟨r,h1,h2⟩:=QK h;have h3:=Jy (λz=>z.nodes=x.nodes/\z.names=x.names/\z.mems=x.mems/\z.outs=x.outs) (λr=>match r with|.inl y=>y.nodes=x.nodes/\y.names=x.names/\y.mems=x.mems/\y.outs=x.outs|.inr z=>z.nodes=x.nodes/\z.names=x.names/\z.mems=x.mems/\z.outs=x.outs) (λz r hz hr=>by
  unfold s0 at hr;rcases cond_some hr with ⟨_,hr⟩|⟨_,hr⟩
  ·rcases cond_some hr with ⟨_,hr⟩|⟨_,hr⟩
   ·obtain⟨b,_,hr⟩:=QK hr;rcases cond_some hr with ⟨_,hr⟩|⟨_,hr⟩<;>(cases hr;exact hz)
   ·cases hr
  ·cases hr;exact hz) ⟨rfl,rfl,rfl,rfl⟩ h1
 rcases sumC_some h2 with ⟨z,rfl,h4⟩|⟨z,rfl,h4⟩<;>(cases h4;obtain⟨e1,e2,e3,e4⟩:=h3;simp only[Ft.H,Sg.H,f,g,e1,e2,e3,e4])
def con:Con:=ZR g [.arg 1 0] f m default
theorem con_ok:QC Tryz.prog 168 con:=J4 known (λ_=>rfl) (λ_ _ h=>by exact hh h)
end M168a
namespace M168b
structure gX where(s:List (Int))(nodes:List ((Int)×(List (Int))×(Int)×Int))(names:List (List UInt8))(mems:List ((List (Int))×(List (Int))×Int))(outs:List (Int))
def g:Sg gX:=⟨[.c (.arr (.int .i64)),.c (.clo 164 [⟨0,0,0⟩])],[.st [.arr (.pair (.int .u8) (.pair (.sl (.int .i64)) (.pair (.int .i64) (.int .i64)))),.arr .str,.arr (.pair (.sl (.int .i64)) (.pair (.sl (.int .i64)) (.int .i64))),.arr (.int .i64)] 1 0],λa b=>⟨a.1,b.1.1,b.1.2.1,b.1.2.2.1,b.1.2.2.2.1⟩,λx=>(x.s,((),())),λx=>((x.nodes,(x.names,(x.mems,(x.outs,())))),())⟩
abbrev fY:=Int×(List ((Int)×(List (Int))×(Int)×Int))×List (List UInt8)×(List ((List (Int))×(List (Int))×Int))×List (Int)
def f:Ft fY:=⟨none,.c (.it .i64),[.st [.arr (.pair (.int .u8) (.pair (.sl (.int .i64)) (.pair (.int .i64) (.int .i64)))),.arr .str,.arr (.pair (.sl (.int .i64)) (.pair (.sl (.int .i64)) (.int .i64))),.arr (.int .i64)] 1 0],λa b=>(a,b.1.1,b.1.2.1,b.1.2.2.1,b.1.2.2.2.1),λy=>y.1,λy=>((y.2.1,(y.2.2.1,(y.2.2.2.1,(y.2.2.2.2,())))),())⟩
def cl:List (FuncId×Con):=[(164,M164.con)]
theorem cl_ok:Q8 Tryz.prog cl:=⟨M164.con_ok,trivial⟩
def E1:Env:=⟨ty,QE cl,λ_=>none,none⟩
structure p0X where(s:List (Int))(n i:Int)(nodes:List ((Int)×(List (Int))×(Int)×Int))(names:List (List UInt8))(mems:List ((List (Int))×(List (Int))×Int))(outs:List (Int))
def p0:Pt p0X where
 own:=[]
 t:=⟨[(0,.c (.arr (.int .i64))),(1,.c (.clo 164 [⟨0,0,0⟩])),(7,.c (.it .i64)),(8,.c (.it .i64))],[.st [.arr (.pair (.int .u8) (.pair (.sl (.int .i64)) (.pair (.int .i64) (.int .i64)))),.arr .str,.arr (.pair (.sl (.int .i64)) (.pair (.sl (.int .i64)) (.int .i64))),.arr (.int .i64)] 1 0]⟩
 to:=λv=>⟨v.1.1,v.1.2.2.1,v.1.2.2.2.1,v.2.1.1,v.2.1.2.1,v.2.1.2.2.1,v.2.1.2.2.2.1⟩
 fr:=λx=>((x.s,((),(x.n,(x.i,())))),((x.nodes,(x.names,(x.mems,(x.outs,())))),()))
structure q0X where(nodes:List ((Int)×(List (Int))×(Int)×Int))(names:List (List UInt8))(mems:List ((List (Int))×(List (Int))×Int))(outs:List (Int))
def q0:Pt q0X where
 own:=[]
 t:=⟨[],[.st [.arr (.pair (.int .u8) (.pair (.sl (.int .i64)) (.pair (.int .i64) (.int .i64)))),.arr .str,.arr (.pair (.sl (.int .i64)) (.pair (.sl (.int .i64)) (.int .i64))),.arr (.int .i64)] 1 0]⟩
 to:=λv=>⟨v.2.1.1,v.2.1.2.1,v.2.1.2.2.1,v.2.1.2.2.2.1⟩
 fr:=λx=>((),((x.nodes,(x.names,(x.mems,(x.outs,())))),()))
structure z0X where(r:Int)(nodes:List ((Int)×(List (Int))×(Int)×Int))(names:List (List UInt8))(mems:List ((List (Int))×(List (Int))×Int))(outs:List (Int))
def z0:Pt z0X where
 own:=[]
 t:=⟨[(4,.c (.it .i64))],[.st [.arr (.pair (.int .u8) (.pair (.sl (.int .i64)) (.pair (.int .i64) (.int .i64)))),.arr .str,.arr (.pair (.sl (.int .i64)) (.pair (.sl (.int .i64)) (.int .i64))),.arr (.int .i64)] 1 0]⟩
 to:=λv=>⟨v.1.1,v.2.1.1,v.2.1.2.1,v.2.1.2.2.1,v.2.1.2.2.2.1⟩
 fr:=λx=>((x.r,()),((x.nodes,(x.names,(x.mems,(x.outs,())))),()))
def s0(x:p0X):Option (p0X⊕(q0X⊕z0X)):=bif decide (x.i<x.n) then bif inR x.i x.s.length then bindO (M164.m ⟨x.s[x.i.toNat]?.getD 0,x.nodes,x.names,x.mems,x.outs⟩) λy=>bif y.1 then some (Sum.inr (Sum.inr ⟨x.i,x.nodes,x.names,x.mems,x.outs⟩)) else some (Sum.inl ⟨x.s,x.n,IntKind.i64.wrap (x.i+1),x.nodes,x.names,x.mems,x.outs⟩) else none else some (Sum.inr (Sum.inl ⟨x.nodes,x.names,x.mems,x.outs⟩))
theorem s0_eq(x:p0X):exec E1 19 (C168.Q0 0) 1 (p0.R x) (p0.H x) (J9 1 p0 (.exit 0) q0 .ret z0)=s0 x:=by kernel_rfl
def l0:QJ:=JA 1 p0 (.exit 0) q0 .ret z0 s0
theorem tl0:QA (C168.Q0 0) 1=[]:=by kernel_rfl
theorem l0_ok  :QF Tryz.prog 19 none 1 (C168.Q0 0) l0:=Qd mixed (Q4 ty_ok cl_ok _) (by trivial) (by trivial) (λ_=>rfl) (λ_=>rfl) (λ_=>rfl) (tl0▸Q7.nil) s0_eq
def E0:Env:=⟨ty,QE cl,Qi [(0,l0)],none⟩
def m(x:gX):Option fY:=bindO (iter s0 ⟨x.s,(↑x.s.length:Int),0,x.nodes,x.names,x.mems,x.outs⟩) λs=>sumC s (λy=>some (-1,y.nodes,y.names,y.mems,y.outs)) λz=>some (z.r,z.nodes,z.names,z.mems,z.outs)
theorem m_eq(x:gX):exec E0 19 C168 0 (QD 0 (g.A x)) (g.H x) (finish 1 ty [.tmp 4] f)=m x:=by kernel_rfl
theorem tl:QA C168 0=[(0,C168.Q0 0)]:=by kernel_rfl
theorem known:QB Tryz.prog 168 g f m:=
 Q5 mixed (Q4 ty_ok cl_ok _) s168 rfl rfl tl (Q7.cons rfl l0_ok Q7.nil) (λ_ _=>⟨rfl,rfl⟩) (λ_ _=>⟨rfl,rfl⟩) m_eq
theorem hh{x:gX}{y:fY}(h:m x=some y):f.H y=g.H x:=by
 unfold m at h;obtain⟨r,h1,h2⟩:=QK h;have h3:=Jy (λz=>z.nodes=x.nodes/\z.names=x.names/\z.mems=x.mems/\z.outs=x.outs) (λr=>match r with|.inl y=>y.nodes=x.nodes/\y.names=x.names/\y.mems=x.mems/\y.outs=x.outs|.inr z=>z.nodes=x.nodes/\z.names=x.names/\z.mems=x.mems/\z.outs=x.outs) (λz r hz hr=>by
  unfold s0 at hr;rcases cond_some hr with ⟨_,hr⟩|⟨_,hr⟩
  ·rcases cond_some hr with ⟨_,hr⟩|⟨_,hr⟩
   ·obtain⟨b,_,hr⟩:=QK hr;rcases cond_some hr with ⟨_,hr⟩|⟨_,hr⟩<;>(cases hr;exact hz)
   ·cases hr
  ·cases hr;exact hz) ⟨rfl,rfl,rfl,rfl⟩ h1
 rcases sumC_some h2 with ⟨z,rfl,h4⟩|⟨z,rfl,h4⟩<;>(cases h4;obtain⟨e1,e2,e3,e4⟩:=h3;simp only[Ft.H,Sg.H,f,g,e1,e2,e3,e4])
def con:Con:=ZR g [.arg 1 0] f m default
theorem con_ok:QC Tryz.prog 168 con:=J4 known (λ_=>rfl) (λ_ _ h=>by exact hh h)
end M168b
namespace M145a
structure gX where(s:List (Int))(nodes:List ((Int)×(List (Int))×(Int)×Int))(names:List (List UInt8))(mems:List ((List (Int))×(List (Int))×Int))(outs:List (Int))
def g:Sg gX:=⟨[.c (.arr (.int .i64)),.c (.clo 163 [⟨0,0,0⟩])],[.st [.arr (.pair (.int .u8) (.pair (.sl (.int .i64)) (.pair (.int .i64) (.int .i64)))),.arr .str,.arr (.pair (.sl (.int .i64)) (.pair (.sl (.int .i64)) (.int .i64))),.arr (.int .i64)] 1 0],λa b=>⟨a.1,b.1.1,b.1.2.1,b.1.2.2.1,b.1.2.2.2.1⟩,λx=>(x.s,((),())),λx=>((x.nodes,(x.names,(x.mems,(x.outs,())))),())⟩
abbrev fY:=Bool×(List ((Int)×(List (Int))×(Int)×Int))×List (List UInt8)×(List ((List (Int))×(List (Int))×Int))×List (Int)
def f:Ft fY:=⟨none,.c (.bo),[.st [.arr (.pair (.int .u8) (.pair (.sl (.int .i64)) (.pair (.int .i64) (.int .i64)))),.arr .str,.arr (.pair (.sl (.int .i64)) (.pair (.sl (.int .i64)) (.int .i64))),.arr (.int .i64)] 1 0],λa b=>(a,b.1.1,b.1.2.1,b.1.2.2.1,b.1.2.2.2.1),λy=>y.1,λy=>((y.2.1,(y.2.2.1,(y.2.2.2.1,(y.2.2.2.2,())))),())⟩
def cl:List (FuncId×Con):=[(168,M168a.con)]
theorem cl_ok:Q8 Tryz.prog cl:=⟨M168a.con_ok,trivial⟩
def E0:Env:=⟨ty,QE cl,λ_=>none,none⟩
def m(x:gX):Option fY:=bindO (M168a.m ⟨x.s,x.nodes,x.names,x.mems,x.outs⟩) λy=>some (decide (y.1>=0),x.nodes,x.names,x.mems,x.outs)
theorem m_eq(x:gX):exec E0 9 C145 0 (QD 0 (g.A x)) (g.H x) (finish 1 ty [.tmp 4] f)=m x:=by kernel_rfl
theorem tl:QA C145 0=[]:=by kernel_rfl
theorem known:QB Tryz.prog 145 g f m:=
 Q5 mixed (Q4 ty_ok cl_ok _) s145 rfl rfl tl Q7.nil (λ_ _=>⟨rfl,rfl⟩) (λ_ _=>⟨rfl,rfl⟩) m_eq
theorem hh{x:gX}{y:fY}(h:m x=some y):f.H y=g.H x:=by unfold m at h;obtain⟨r,h1,h2⟩:=QK h;cases h2;rfl
def con:Con:=ZR g [.arg 1 0] f m default
theorem con_ok:QC Tryz.prog 145 con:=J4 known (λ_=>rfl) (λ_ _ h=>by exact hh h)
end M145a
namespace M145b
structure gX where(s:List (Int))(nodes:List ((Int)×(List (Int))×(Int)×Int))(names:List (List UInt8))(mems:List ((List (Int))×(List (Int))×Int))(outs:List (Int))
def g:Sg gX:=⟨[.c (.arr (.int .i64)),.c (.clo 164 [⟨0,0,0⟩])],[.st [.arr (.pair (.int .u8) (.pair (.sl (.int .i64)) (.pair (.int .i64) (.int .i64)))),.arr .str,.arr (.pair (.sl (.int .i64)) (.pair (.sl (.int .i64)) (.int .i64))),.arr (.int .i64)] 1 0],λa b=>⟨a.1,b.1.1,b.1.2.1,b.1.2.2.1,b.1.2.2.2.1⟩,λx=>(x.s,((),())),λx=>((x.nodes,(x.names,(x.mems,(x.outs,())))),())⟩
abbrev fY:=Bool×(List ((Int)×(List (Int))×(Int)×Int))×List (List UInt8)×(List ((List (Int))×(List (Int))×Int))×List (Int)
def f:Ft fY:=⟨none,.c (.bo),[.st [.arr (.pair (.int .u8) (.pair (.sl (.int .i64)) (.pair (.int .i64) (.int .i64)))),.arr .str,.arr (.pair (.sl (.int .i64)) (.pair (.sl (.int .i64)) (.int .i64))),.arr (.int .i64)] 1 0],λa b=>(a,b.1.1,b.1.2.1,b.1.2.2.1,b.1.2.2.2.1),λy=>y.1,λy=>((y.2.1,(y.2.2.1,(y.2.2.2.1,(y.2.2.2.2,())))),())⟩
def cl:List (FuncId×Con):=[(168,M168b.con)]
theorem cl_ok:Q8 Tryz.prog cl:=⟨M168b.con_ok,trivial⟩
def E0:Env:=⟨ty,QE cl,λ_=>none,none⟩
def m(x:gX):Option fY:=bindO (M168b.m ⟨x.s,x.nodes,x.names,x.mems,x.outs⟩) λy=>some (decide (y.1>=0),x.nodes,x.names,x.mems,x.outs)
theorem m_eq(x:gX):exec E0 9 C145 0 (QD 0 (g.A x)) (g.H x) (finish 1 ty [.tmp 4] f)=m x:=by kernel_rfl
theorem tl:QA C145 0=[]:=by kernel_rfl
theorem known:QB Tryz.prog 145 g f m:=
 Q5 mixed (Q4 ty_ok cl_ok _) s145 rfl rfl tl Q7.nil (λ_ _=>⟨rfl,rfl⟩) (λ_ _=>⟨rfl,rfl⟩) m_eq
theorem hh{x:gX}{y:fY}(h:m x=some y):f.H y=g.H x:=by unfold m at h;obtain⟨r,h1,h2⟩:=QK h;cases h2;rfl
def con:Con:=ZR g [.arg 1 0] f m default
theorem con_ok:QC Tryz.prog 145 con:=J4 known (λ_=>rfl) (λ_ _ h=>by exact hh h)
end M145b
namespace M139
structure gX where(nodes:List ((Int)×(List (Int))×(Int)×Int))(names:List (List UInt8))(mems:List ((List (Int))×(List (Int))×Int))(outs:List (Int))
def g:Sg gX:=⟨[.agg [.arr (.pair (.int .u8) (.pair (.sl (.int .i64)) (.pair (.int .i64) (.int .i64)))),.arr .str,.arr (.pair (.sl (.int .i64)) (.pair (.sl (.int .i64)) (.int .i64))),.arr (.int .i64)]],[],λa b=>⟨a.1.1,a.1.2.1,a.1.2.2.1,a.1.2.2.2.1⟩,λx=>((x.nodes,(x.names,(x.mems,(x.outs,())))),()),λx=>()⟩
abbrev fY:=(List ((Int)×(List (Int))×(Int)×Int))×List (List UInt8)×(List ((List (Int))×(List (Int))×Int))×List (Int)
def f:Ft fY:=⟨some [0],.c (.clo 163 [⟨0,0,0⟩]),[.st [.arr (.pair (.int .u8) (.pair (.sl (.int .i64)) (.pair (.int .i64) (.int .i64)))),.arr .str,.arr (.pair (.sl (.int .i64)) (.pair (.sl (.int .i64)) (.int .i64))),.arr (.int .i64)] 1 0],λa b=>(b.1.1,b.1.2.1,b.1.2.2.1,b.1.2.2.2.1),λy=>(),λy=>((y.1,(y.2.1,(y.2.2.1,(y.2.2.2,())))),())⟩
def cl:List (FuncId×Con):=[]
theorem cl_ok:Q8 Tryz.prog cl:=trivial
def E0:Env:=⟨ty,QE cl,λ_=>none,none⟩
def m(x:gX):Option fY:=some (x.nodes,x.names,x.mems,x.outs)
theorem m_eq(x:gX):exec E0 4 C139 0 (QD 0 (g.A x)) (g.H x) (finish 0 ty [.tmp 2] f)=m x:=by kernel_rfl
theorem tl:QA C139 0=[]:=by kernel_rfl
theorem known:QB Tryz.prog 139 g f m:=
 Q5 mixed (Q4 ty_ok cl_ok _) s139 rfl rfl tl Q7.nil (λ_ _=>⟨rfl,rfl⟩) (λ_ _=>⟨rfl,rfl⟩) m_eq
def con:Con:=Km g [] f m default
theorem con_ok:QC Tryz.prog 139 con:=Jn known
end M139
end Go.Proofs.YtpbplpgfloaaiaaGreatDoor
namespace Go.Proofs.YtpbplpgfloaaiaaGreatDoor
open Go.Abs
namespace M165
structure gX where(nodes:List ((Int)×(List (Int))×(Int)×Int))(names:List (List UInt8))(mems:List ((List (Int))×(List (Int))×Int))(outs:List (Int))(kind:Int)(inn:List (Int))(mem bit:Int)
def g:Sg gX:=⟨[.agg [.arr (.pair (.int .u8) (.pair (.sl (.int .i64)) (.pair (.int .i64) (.int .i64)))),.arr .str,.arr (.pair (.sl (.int .i64)) (.pair (.sl (.int .i64)) (.int .i64))),.arr (.int .i64)],.agg [.it .u8,.arr (.int .i64),.it .i64,.it .i64]],[],λa b=>⟨a.1.1,a.1.2.1,a.1.2.2.1,a.1.2.2.2.1,a.2.1.1,a.2.1.2.1,a.2.1.2.2.1,a.2.1.2.2.2.1⟩,λx=>((x.nodes,(x.names,(x.mems,(x.outs,())))),((x.kind,(x.inn,(x.mem,(x.bit,())))),())),λx=>()⟩
abbrev fY:=Bool
def f:Ft fY:=⟨none,.c (.bo),[],λa b=>(a),λy=>y,λy=>()⟩
def cl:List (FuncId×Con):=[]
theorem cl_ok:Q8 Tryz.prog cl:=trivial
def E0:Env:=⟨ty,QE cl,λ_=>none,none⟩
def m(x:gX):Option fY:=bif x.kind !=15 then some (bif x.mem==0 then x.bit==0 else false) else bif inR x.mem x.mems.length||!bif bif decide (x.mem>=0) then decide (x.mem<(↑x.mems.length:Int)) else false then decide (x.bit>=0) else false then some (bif bif bif decide (x.mem>=0) then decide (x.mem<(↑x.mems.length:Int)) else false then decide (x.bit>=0) else false then decide (x.bit<(↑(List.length (x.mems[x.mem.toNat]?.getD ([],[],0)).2.1):Int)) else false) else none
theorem m_eq(x:gX):exec E0 45 C165 0 (QD 0 (g.A x)) (g.H x) (finish 0 ty [.tmp 4] f)=m x:=by kernel_rfl
theorem tl:QA C165 0=[]:=by kernel_rfl
theorem known:QB Tryz.prog 165 g f m:=
 Q5 mixed (Q4 ty_ok cl_ok _) s165 rfl rfl tl Q7.nil (λ_ _=>⟨rfl,rfl⟩) (λ_ _=>⟨rfl,rfl⟩) m_eq
def con:Con:=Qa g f m default
theorem con_ok:QC Tryz.prog 165 con:=Q9 known (λ_=>rfl) rfl
end M165
namespace M142
structure gX where(nodes:List ((Int)×(List (Int))×(Int)×Int))(names:List (List UInt8))(mems:List ((List (Int))×(List (Int))×Int))(outs:List (Int))(kind:Int)(inn:List (Int))(mem bit:Int)
def g:Sg gX:=⟨[.agg [.arr (.pair (.int .u8) (.pair (.sl (.int .i64)) (.pair (.int .i64) (.int .i64)))),.arr .str,.arr (.pair (.sl (.int .i64)) (.pair (.sl (.int .i64)) (.int .i64))),.arr (.int .i64)],.agg [.it .u8,.arr (.int .i64),.it .i64,.it .i64]],[],λa b=>⟨a.1.1,a.1.2.1,a.1.2.2.1,a.1.2.2.2.1,a.2.1.1,a.2.1.2.1,a.2.1.2.2.1,a.2.1.2.2.2.1⟩,λx=>((x.nodes,(x.names,(x.mems,(x.outs,())))),((x.kind,(x.inn,(x.mem,(x.bit,())))),())),λx=>()⟩
abbrev fY:=Int
def f:Ft fY:=⟨none,.c (.it .i64),[],λa b=>(a),λy=>y,λy=>()⟩
def cl:List (FuncId×Con):=[(78,M78.con),(139,M139.con),(145,M145a.con),(145,M145b.con),(165,M165.con)]
theorem cl_ok:Q8 Tryz.prog cl:=⟨M78.con_ok,M139.con_ok,M145a.con_ok,M145b.con_ok,M165.con_ok,trivial⟩
def E0:Env:=⟨ty,QE cl,λ_=>none,none⟩
def m(x:gX):Option fY:=bindO (M78.m ⟨x.kind⟩) λy=>bif decide (x.kind>15) then some 7 else bif bif decide ((↑x.inn.length:Int)<y.1) then true else decide ((↑x.inn.length:Int)>y.2) then some 8 else bindO (M139.m ⟨x.nodes,x.names,x.mems,x.outs⟩) λy=>bindO (M145a.m ⟨x.inn,y.1,y.2.1,y.2.2.1,y.2.2.2⟩) λy=>bif y.1 then some 1 else bindO (bif x.kind==13 then M145b.m ⟨x.inn,x.nodes,x.names,x.mems,x.outs⟩ else some (false,[],[],[],[])) λy=>bif bif x.kind==13 then y.1 else false then some 7 else bindO (M165.m ⟨x.nodes,x.names,x.mems,x.outs,x.kind,x.inn,x.mem,x.bit⟩) λy=>bif !y then some 1 else some 0
theorem m_eq(x:gX):exec E0 53 C142 0 (QD 0 (g.A x)) (g.H x) (finish 0 ty [.tmp 4] f)=m x:=by kernel_rfl
theorem tl:QA C142 0=[]:=by kernel_rfl
theorem known:QB Tryz.prog 142 g f m:=
 Q5 mixed (Q4 ty_ok cl_ok _) s142 rfl rfl tl Q7.nil (λ_ _=>⟨rfl,rfl⟩) (λ_ _=>⟨rfl,rfl⟩) m_eq
def con:Con:=Qa g f m default
theorem con_ok:QC Tryz.prog 142 con:=Q9 known (λ_=>rfl) rfl
end M142
end Go.Proofs.YtpbplpgfloaaiaaGreatDoor
namespace Go.Proofs.YtpbplpgfloaaiaaGreatDoor
open Go.Abs
namespace Co
theorem iter_count {X Y : Type} {step : X -> Option (X ⊕ Y)} (S : Nat -> X) {y : Y} : ∀ n : Nat,(∀ i,i < n -> step (S i) = some (.inl (S (i + 1)))) -> step (S n) = some (.inr y) -> iter step (S 0) = some y := by
 have key : ∀ j i n : Nat,i + j = n -> (∀ i,i < n -> step (S i) = some (.inl (S (i + 1)))) -> step (S n) = some (.inr y) -> iter step (S i) = some y := by
   intro j
   induction j with
   | zero => intro i n hi _ he; have e : i = n := by omega
             subst e; rw [iter_eq,he]
   | succ j ih => intro i n hi h he; rw [iter_eq,h i (by omega)]; exact ih (i + 1) n (by omega) h he
 exact λn => key n 0 n (by omega)
abbrev In(n:Nat)(a:Int):Prop:=0<=a/\a<n
theorem m163{a:Int}{N:List (Int×List Int×Int×Int)}{A:List (List UInt8)}{B:List (List Int×List Int×Int)}{C:List Int}(h:In N.length a):M163.m ⟨a,N,A,B,C⟩=some (false,N,A,B,C):=by unfold M163.m;have e1:decide (a<0)=false:=AN (Int.not_lt.2 h.1);have e2:decide (a>=(N.length:Int))=false:=AN (Int.not_le.2 h.2);simp only[e1,e2,A7]
theorem m145a{s:List Int}{N:List (Int×List Int×Int×Int)}{A:List (List UInt8)}{B:List (List Int×List Int×Int)}{C:List Int}(hl:s.length<=1000000)(h:∀a∈s,In N.length a):M145a.m ⟨s,N,A,B,C⟩=some (false,N,A,B,C):=by
 have key:=iter_count (step:=M168a.s0) (λi=>⟨s,(s.length:Int),(i:Int),N,A,B,C⟩) (y:=.inl ⟨N,A,B,C⟩) s.length (λi hi=>by
  have e1:decide ((i:Int)<(s.length:Int))=true:=AB (by omega);unfold M168a.s0;simp only[e1,inR_nat hi,A5,getD_at hi,m163 (h _ (AH hi)),bindO,A7,suc (i:=i) (by omega)]) (by
  have e1:decide ((s.length:Int)<(s.length:Int))=false:=AN (by omega);unfold M168a.s0;simp only[e1,A7])
 unfold M145a.m M168a.m;have key':iter M168a.s0 { s:=s,n:=(s.length:Int),i:=0,nodes:=N,names:=A,mems:=B,outs:=C }=_:=key;simp only[key',bindO,sumC];rfl
end Co
end Go.Proofs.YtpbplpgfloaaiaaGreatDoor
namespace Go.Proofs.YtpbplpgfloaaiaaGreatDoor
open Go.Abs
namespace Co
abbrev NodeL:=List (Int×List Int×Int×Int)
def kd(N:NodeL)(a:Int):Int:=(N[a.toNat]?.getD (0,[],0,0)).1
theorem m164{a:Int}{N:NodeL}{A:List (List UInt8)}{B:List (List Int×List Int×Int)}{C:List Int}(h:In N.length a)(hk:kd N a=12):M164.m ⟨a,N,A,B,C⟩=some (false,N,A,B,C):=by
 unfold M164.m;have e1:inR a N.length=true:=by simp[inR];exact h
 have e2:((N[a.toNat]?.getD (0,[],0,0)).1 !=12)=false:=by rw[show(N[a.toNat]?.getD (0,[],0,0)).1=12 from hk];rfl
 simp only[e1,A5,e2]
theorem m145b{s:List Int}{N:NodeL}{A:List (List UInt8)}{B:List (List Int×List Int×Int)}{C:List Int}(hl:s.length<=1000000)(h:∀a∈s,In N.length a/\kd N a=12):M145b.m ⟨s,N,A,B,C⟩=some (false,N,A,B,C):=by
 have key:=iter_count (step:=M168b.s0) (λi=>⟨s,(s.length:Int),(i:Int),N,A,B,C⟩) (y:=.inl ⟨N,A,B,C⟩) s.length (λi hi=>by
  have e1:decide ((i:Int)<(s.length:Int))=true:=AB (by omega);have h2:=h _ (AH hi);unfold M168b.s0;simp only[e1,inR_nat hi,A5,getD_at hi,m164 h2.1 h2.2,bindO,A7,suc (i:=i) (by omega)]) (by
  have e1:decide ((s.length:Int)<(s.length:Int))=false:=AN (by omega);unfold M168b.s0;simp only[e1,A7])
 unfold M145b.m M168b.m;have key':iter M168b.s0 { s:=s,n:=(s.length:Int),i:=0,nodes:=N,names:=A,mems:=B,outs:=C }=_:=key;simp only[key',bindO,sumC];rfl
def fan(k:Int):Int×Int:=M78.fan.getD k.toNat (0,0)
structure Nd(N:NodeL)(x:Int×List Int×Int×Int):Prop where
 k0:0<=x.1
 k1:x.1<15
 f0:(fan x.1).1<=x.2.1.length
 f1:(x.2.1.length:Int)<=(fan x.1).2
 pins:∀a∈x.2.1,In N.length a
 tri:x.1=13->∀a∈x.2.1,kd N a=12
 mem:x.2.2.1=0
 bit:x.2.2.2=0
 few:x.2.1.length<=1000000
theorem m142{N:NodeL}{A:List (List UInt8)}{B:List (List Int×List Int×Int)}{C:List Int}{x:Int×List Int×Int×Int}(h:Nd N x):M142.m ⟨N,A,B,C,x.1,x.2.1,x.2.2.1,x.2.2.2⟩=some 0:=by
 obtain⟨k,p,m,b⟩:=x;obtain⟨k0,k1,f0,f1,pins,tri,hm,hb,few⟩:=h;obtain rfl:m=0:=hm;obtain rfl:b=0:=hb;have k0:0<=k:=k0;have k1:k<15:=k1;have e78:M78.m ⟨k⟩=some (fan k):=by unfold M78.m;rw[AF ⟨k0,by show k<16;omega⟩];rfl
 have e1:decide (k>15)=false:=AN (by omega);have e2:decide ((p.length:Int)<(fan k).1)=false:=AN (Int.not_lt.2 f0);have e3:decide ((p.length:Int)>(fan k).2)=false:=AN (Int.not_lt.2 f1);have e4:M139.m ⟨N,A,B,C⟩=some (N,A,B,C):=rfl;have e5:M165.m ⟨N,A,B,C,k,p,0,0⟩=some true:=by unfold M165.m;have:(k !=15)=true:=(by simp;omega);rw[this];rfl
 unfold M142.m;simp only[e78,bindO,e1,A7,e2,e3,e4,m145a few pins,e5];by_cases h13:k=13
 ·subst h13;simp only[m145b few (λa ha=>⟨pins a ha,tri rfl a ha⟩)];rfl
 ·have:(k==13)=false:=(by simp;exact h13);simp only[this,A7];rfl
end Co
end Go.Proofs.YtpbplpgfloaaiaaGreatDoor
namespace Go.Proofs.YtpbplpgfloaaiaaGreatDoor
open Go.Abs
namespace M34o
structure gX where(s_lo s_len:Nat)(xs:List (Int))
def g:Sg gX:=⟨[.c (.sl 0 0 1)],[.arr (.int .i64) 0],λa b=>⟨a.1.1,a.1.2,b.1⟩,λx=>((x.s_lo,x.s_len),()),λx=>(x.xs,())⟩
abbrev fY:=Nat×Nat×Nat×List (Int)
def f:Ft fY:=⟨none,.c (.slc 0 0 1),[.arr (.int .i64) 0],λa b=>(a.1,a.2.1,a.2.2,b.1),λy=>(y.1,y.2.1,y.2.2.1),λy=>(y.2.2.2,())⟩
def cl:List (FuncId×Con):=[]
theorem cl_ok:Q8 Tryz.prog cl:=trivial
def E0:Env:=⟨ty,QE cl,λ_=>none,none⟩
def m(x:gX):Option fY:=bif decide (0<=(↑x.s_len:Int))&&decide ((↑x.s_len:Int)<=(↑x.s_len:Int))&&(decide (0<=(↑x.s_len:Int))&&decide ((↑x.s_len:Int)<=(↑(↑x.s_len:Int).toNat:Int))) then some (x.s_lo,(↑x.s_len:Int).toNat,(↑x.s_len:Int).toNat,x.xs) else none
theorem m_eq(x:gX):exec E0 9 C34 0 (QD 0 (g.A x)) (g.H x) (finish 1 ty [.tmp 2] f)=m x:=by kernel_rfl
theorem tl:QA C34 0=[]:=by kernel_rfl
theorem known:QB Tryz.prog 34 g f m:=
 Q5 mixed (Q4 ty_ok cl_ok _) s34 rfl rfl tl Q7.nil (λ_ _=>⟨rfl,rfl⟩) (λ_ _=>⟨rfl,rfl⟩) m_eq
def con:Con:=Km g [.arg 0 0] f m default
theorem con_ok:QC Tryz.prog 34 con:=Jn known
end M34o
namespace M68
structure gX where(nodes:List ((Int)×(List (Int))×(Int)×Int))(names:List (List UInt8))(mems:List ((List (Int))×(List (Int))×Int))(outs kinds:List (Int))
def g:Sg gX:=⟨[.agg [.arr (.pair (.int .u8) (.pair (.sl (.int .i64)) (.pair (.int .i64) (.int .i64)))),.arr .str,.arr (.pair (.sl (.int .i64)) (.pair (.sl (.int .i64)) (.int .i64))),.arr (.int .i64)],.c (.arr (.int .u8))],[],λa b=>⟨a.1.1,a.1.2.1,a.1.2.2.1,a.1.2.2.2.1,a.2.1⟩,λx=>((x.nodes,(x.names,(x.mems,(x.outs,())))),(x.kinds,())),λx=>()⟩
abbrev fY:=List (Int)
def f:Ft fY:=⟨none,.c (.arr (.int .i64)),[],λa b=>(a),λy=>y,λy=>()⟩
def cl:List (FuncId×Con):=[(111,M111.con),(34,M34o.con)]
theorem cl_ok:Q8 Tryz.prog cl:=⟨M111.con_ok,M34o.con_ok,trivial⟩
def E1:Env:=⟨ty,QE cl,λ_=>none,none⟩
structure p0X where(kinds:List (Int))(out_lo out_len:Nat)(ns:List ((Int)×(List (Int))×(Int)×Int))(n i:Int)(nodes:List ((Int)×(List (Int))×(Int)×Int))(names:List (List UInt8))(mems:List ((List (Int))×(List (Int))×Int))(outs xs:List (Int))
def p0:Pt p0X where
 own:=[.reg 5 (.int .i64)]
 t:=⟨[(1,.c (.arr (.int .u8))),(2,.c (.ptr 0 0)),(5,.c (.sl 1 0 1)),(9,.c (.arr (.pair (.int .u8) (.pair (.sl (.int .i64)) (.pair (.int .i64) (.int .i64)))))),(10,.c (.it .i64)),(11,.c (.it .i64))],[.st [.arr (.pair (.int .u8) (.pair (.sl (.int .i64)) (.pair (.int .i64) (.int .i64)))),.arr .str,.arr (.pair (.sl (.int .i64)) (.pair (.sl (.int .i64)) (.int .i64))),.arr (.int .i64)] 1 0,.arr (.int .i64) 0]⟩
 to:=λv=>⟨v.1.1,v.1.2.2.1.1,v.1.2.2.1.2,v.1.2.2.2.1,v.1.2.2.2.2.1,v.1.2.2.2.2.2.1,v.2.1.1,v.2.1.2.1,v.2.1.2.2.1,v.2.1.2.2.2.1,v.2.2.1⟩
 fr:=λx=>((x.kinds,((),((x.out_lo,x.out_len),(x.ns,(x.n,(x.i,())))))),((x.nodes,(x.names,(x.mems,(x.outs,())))),(x.xs,())))
structure q0X where(out_lo out_len:Nat)(nodes:List ((Int)×(List (Int))×(Int)×Int))(names:List (List UInt8))(mems:List ((List (Int))×(List (Int))×Int))(outs xs:List (Int))
def q0:Pt q0X where
 own:=[]
 t:=⟨[(5,.c (.sl 1 0 1))],[.st [.arr (.pair (.int .u8) (.pair (.sl (.int .i64)) (.pair (.int .i64) (.int .i64)))),.arr .str,.arr (.pair (.sl (.int .i64)) (.pair (.sl (.int .i64)) (.int .i64))),.arr (.int .i64)] 1 0,.arr (.int .i64) 0]⟩
 to:=λv=>⟨v.1.1.1,v.1.1.2,v.2.1.1,v.2.1.2.1,v.2.1.2.2.1,v.2.1.2.2.2.1,v.2.2.1⟩
 fr:=λx=>(((x.out_lo,x.out_len),()),((x.nodes,(x.names,(x.mems,(x.outs,())))),(x.xs,())))
def s0(x:p0X):Option (p0X⊕q0X):=bif decide (x.i<x.n) then bif inR x.i x.ns.length then bindO (M111.m ⟨x.kinds,(x.ns[x.i.toNat]?.getD (0,[],0,0)).1⟩) λy=>bif y then bif eqN x.out_lo 0&&eqN x.xs.length x.out_len&&QT (x.out_len+1) 8 then some (Sum.inl ⟨x.kinds,0,x.out_len+1,x.ns,x.n,IntKind.i64.wrap (x.i+1),x.nodes,x.names,x.mems,x.outs,x.xs++[x.i]⟩) else none else some (Sum.inl ⟨x.kinds,x.out_lo,x.out_len,x.ns,x.n,IntKind.i64.wrap (x.i+1),x.nodes,x.names,x.mems,x.outs,x.xs⟩) else none else some (Sum.inr ⟨x.out_lo,x.out_len,x.nodes,x.names,x.mems,x.outs,x.xs⟩)
theorem s0_eq(x:p0X):exec E1 27 (C68.Q0 0) 1 (p0.R x) (p0.H x) (QP 0 p0 (.exit 0) q0)=s0 x:=by kernel_rfl
def l0:QJ:=QQ 0 p0 (.exit 0) q0 s0
theorem tl0:QA (C68.Q0 0) 1=[]:=by kernel_rfl
theorem l0_ok  :QF Tryz.prog 27 none 0 (C68.Q0 0) l0:=QG mixed (Q4 ty_ok cl_ok _) (by trivial) (λ_=>rfl) (λ_=>rfl) (tl0▸Q7.nil) s0_eq
def E0:Env:=⟨ty,QE cl,Qi [(0,l0)],none⟩
def m(x:gX):Option fY:=bindO (iter s0 ⟨x.kinds,0,0,x.nodes,(↑x.nodes.length:Int),0,x.nodes,x.names,x.mems,x.outs,[]⟩) λy=>bindO (M34o.m ⟨y.out_lo,y.out_len,y.xs⟩) λy=>bif leB (y.1+y.2.1) y.2.2.2.length&&true&&true then some (List.take y.2.1 (List.drop y.1 y.2.2.2)) else none
theorem m_eq(x:gX):exec E0 27 C68 0 (QD 0 (g.A x)) (g.H x) (finish 0 ty [.tmp 4] f)=m x:=by kernel_rfl
theorem tl:QA C68 0=[(0,C68.Q0 0)]:=by kernel_rfl
theorem known:QB Tryz.prog 68 g f m:=
 Q5 mixed (Q4 ty_ok cl_ok _) s68 rfl rfl tl (Q7.cons rfl l0_ok Q7.nil) (λ_ _=>⟨rfl,rfl⟩) (λ_ _=>⟨rfl,rfl⟩) m_eq
def con:Con:=Qa g f m default
theorem con_ok:QC Tryz.prog 68 con:=Q9 known (λ_=>rfl) rfl
end M68
namespace M36
structure gX where(nodes:List ((Int)×(List (Int))×(Int)×Int))(names:List (List UInt8))(mems:List ((List (Int))×(List (Int))×Int))(outs:List (Int))
def g:Sg gX:=⟨[.agg [.arr (.pair (.int .u8) (.pair (.sl (.int .i64)) (.pair (.int .i64) (.int .i64)))),.arr .str,.arr (.pair (.sl (.int .i64)) (.pair (.sl (.int .i64)) (.int .i64))),.arr (.int .i64)]],[],λa b=>⟨a.1.1,a.1.2.1,a.1.2.2.1,a.1.2.2.2.1⟩,λx=>((x.nodes,(x.names,(x.mems,(x.outs,())))),()),λx=>()⟩
abbrev fY:=List (Int)
def f:Ft fY:=⟨none,.c (.arr (.int .i64)),[],λa b=>(a),λy=>y,λy=>()⟩
def cl:List (FuncId×Con):=[(68,M68.con)]
theorem cl_ok:Q8 Tryz.prog cl:=⟨M68.con_ok,trivial⟩
def E0:Env:=⟨ty,QE cl,λ_=>none,none⟩
def m(x:gX):Option fY:=bindO (M68.m ⟨x.nodes,x.names,x.mems,x.outs,[14]⟩) λy=>some y
theorem m_eq(x:gX):exec E0 6 C36 0 (QD 0 (g.A x)) (g.H x) (finish 0 ty [.tmp 2] f)=m x:=by kernel_rfl
theorem tl:QA C36 0=[]:=by kernel_rfl
theorem known:QB Tryz.prog 36 g f m:=
 Q5 mixed (Q4 ty_ok cl_ok _) s36 rfl rfl tl Q7.nil (λ_ _=>⟨rfl,rfl⟩) (λ_ _=>⟨rfl,rfl⟩) m_eq
def con:Con:=Qa g f m default
theorem con_ok:QC Tryz.prog 36 con:=Q9 known (λ_=>rfl) rfl
end M36
namespace M75
structure gX where(nodes:List ((Int)×(List (Int))×(Int)×Int))(names:List (List UInt8))(mems:List ((List (Int))×(List (Int))×Int))(outs:List (Int))
def g:Sg gX:=⟨[.agg [.arr (.pair (.int .u8) (.pair (.sl (.int .i64)) (.pair (.int .i64) (.int .i64)))),.arr .str,.arr (.pair (.sl (.int .i64)) (.pair (.sl (.int .i64)) (.int .i64))),.arr (.int .i64)]],[],λa b=>⟨a.1.1,a.1.2.1,a.1.2.2.1,a.1.2.2.2.1⟩,λx=>((x.nodes,(x.names,(x.mems,(x.outs,())))),()),λx=>()⟩
abbrev fY:=List (Int)
def f:Ft fY:=⟨none,.c (.arr (.int .i64)),[],λa b=>(a),λy=>y,λy=>()⟩
def cl:List (FuncId×Con):=[(68,M68.con)]
theorem cl_ok:Q8 Tryz.prog cl:=⟨M68.con_ok,trivial⟩
def E0:Env:=⟨ty,QE cl,λ_=>none,none⟩
def m(x:gX):Option fY:=bindO (M68.m ⟨x.nodes,x.names,x.mems,x.outs,[0]⟩) λy=>some y
theorem m_eq(x:gX):exec E0 6 C75 0 (QD 0 (g.A x)) (g.H x) (finish 0 ty [.tmp 2] f)=m x:=by kernel_rfl
theorem tl:QA C75 0=[]:=by kernel_rfl
theorem known:QB Tryz.prog 75 g f m:=
 Q5 mixed (Q4 ty_ok cl_ok _) s75 rfl rfl tl Q7.nil (λ_ _=>⟨rfl,rfl⟩) (λ_ _=>⟨rfl,rfl⟩) m_eq
def con:Con:=Qa g f m default
theorem con_ok:QC Tryz.prog 75 con:=Q9 known (λ_=>rfl) rfl
end M75
end Go.Proofs.YtpbplpgfloaaiaaGreatDoor
namespace Go.Proofs.YtpbplpgfloaaiaaGreatDoor
open Go.Shelf
def Tryz.laysGw17_ren:Go.Shelf.Ren:=⟨fun|17=>180|15=>194|20=>203|n=>n,fun|9=>9|23=>296|4=>4|3=>3|0=>0|21=>21|n=>n,fun|n=>n⟩
theorem Tryz.laysGw17:Go.Proofs.LaysGw.n17 Tryz.prog Tryz.laysGw17_ren:={
 mixed:=by kernel_rfl
 f15:=Tryz.func194.trans (congrArg some (by kernel_rfl))
 f17:=Tryz.func180.trans (congrArg some (by kernel_rfl))
 f20:=Tryz.func203.trans (congrArg some (by kernel_rfl))
 t0:=Tryz.underlying0
 a0:=Tryz.isAgg0
 z0:=Tryz.sizeOf0
 v0:=Tryz.zeroValue0
 i0:=by kernel_rfl
 t3:=Tryz.underlying3
 a3:=Tryz.isAgg3
 z3:=Tryz.sizeOf3
 v3:=Tryz.zeroValue3
 i3:=by kernel_rfl
 t4:=Tryz.underlying4
 a4:=Tryz.isAgg4
 z4:=Tryz.sizeOf4
 v4:=Tryz.zeroValue4
 i4:=by kernel_rfl
 t9:=Tryz.underlying9
 a9:=Tryz.isAgg9
 z9:=Tryz.sizeOf9
 v9:=Tryz.zeroValue9
 i9:=by kernel_rfl
 t21:=Tryz.underlying21
 a21:=Tryz.isAgg21
 z21:=Tryz.sizeOf21
 v21:=Tryz.zeroValue21
 i21:=by kernel_rfl
 t23:=Tryz.underlying296
 a23:=Tryz.isAgg296
 z23:=Tryz.sizeOf296
 v23:=Tryz.zeroValue296
 i23:=by kernel_rfl }
def Tryz.lays151_ren:Go.Shelf.Ren:=⟨fun|151=>179|152=>193|137=>199|119=>200|224=>201|225=>202|217=>204|266=>205|n=>n,fun|9=>9|21=>21|4=>4|3=>3|5=>5|0=>0|46=>128|n=>n,fun|n=>n⟩
theorem Tryz.lays151:Go.Proofs.Lays.n151 Tryz.prog Tryz.lays151_ren:={
 mixed:=by kernel_rfl
 f119:=Tryz.func200.trans (congrArg some (by kernel_rfl))
 f137:=Tryz.func199.trans (congrArg some (by kernel_rfl))
 f151:=Tryz.func179.trans (congrArg some (by kernel_rfl))
 f152:=Tryz.func193.trans (congrArg some (by kernel_rfl))
 f217:=Tryz.func204.trans (congrArg some (by kernel_rfl))
 f224:=Tryz.func201.trans (congrArg some (by kernel_rfl))
 f225:=Tryz.func202.trans (congrArg some (by kernel_rfl))
 f266:=Tryz.func205.trans (congrArg some (by kernel_rfl))
 t0:=Tryz.underlying0
 a0:=Tryz.isAgg0
 z0:=Tryz.sizeOf0
 v0:=Tryz.zeroValue0
 t3:=Tryz.underlying3
 a3:=Tryz.isAgg3
 z3:=Tryz.sizeOf3
 v3:=Tryz.zeroValue3
 t4:=Tryz.underlying4
 a4:=Tryz.isAgg4
 z4:=Tryz.sizeOf4
 v4:=Tryz.zeroValue4
 t5:=Tryz.underlying5
 a5:=Tryz.isAgg5
 z5:=Tryz.sizeOf5
 v5:=Tryz.zeroValue5
 t9:=Tryz.underlying9
 a9:=Tryz.isAgg9
 z9:=Tryz.sizeOf9
 v9:=Tryz.zeroValue9
 t21:=Tryz.underlying21
 a21:=Tryz.isAgg21
 z21:=Tryz.sizeOf21
 v21:=Tryz.zeroValue21
 t46:=Tryz.underlying128
 a46:=Tryz.isAgg128
 z46:=Tryz.sizeOf128
 v46:=Tryz.zeroValue128 }
end Go.Proofs.YtpbplpgfloaaiaaGreatDoor
namespace Go.Proofs.YtpbplpgfloaaiaaGreatDoor
open Go.Abs
namespace Co
abbrev V(v:Int):Prop:=0<=v/\v<=3
theorem m79{a:Int}(h:V a):∃v,M79.m ⟨a⟩=some v/\V v:=by
 unfold M79.m;refine⟨_,rfl,?_⟩;show V (if 2<a then 2 else a);split
 ·exact⟨by omega,by omega⟩
 ·exact h
theorem w8{x:Int}(h:0<=x)(h':x<=255):IntKind.u8.wrap x=x:=by simp[IntKind.wrap,IntKind.signed,IntKind.bits];omega
theorem m80{a:Int}(h:V a):∃v,M80.m ⟨a⟩=some v/\V v:=by
 unfold M80.m M117.m;simp only[bindO];by_cases h1:a<=1
 ·rw[AB h1,A5,w8 (by have:=h.1;omega) (by have:=h.1;omega)];exact⟨_,rfl,by have:=h.1;omega,by have:=h.1;omega⟩
 ·rw[AN h1,A7];exact⟨_,rfl,by omega,by omega⟩
theorem m85{a b:Int}(ha:V a)(hb:V b):∃v,M85.m ⟨a,b⟩=some v/\V v:=by
 unfold M85.m;obtain⟨v,h1,h2⟩:=m79 hb;simp only[h1,bindO]
 cases (a==0) with
 |true=>exact⟨3,rfl,by omega,by omega⟩
 |false=>
  cases (a==1) with
  |true=>exact⟨v,rfl,h2⟩
  |false=>exact⟨2,rfl,by omega,by omega⟩
theorem m84{s a b:Int}(ha:V a)(hb:V b):∃v,M84.m ⟨s,a,b⟩=some v/\V v:=by
 unfold M84.m;obtain⟨v,h1,h2⟩:=m79 ha;obtain⟨u,h3,h4⟩:=m79 hb;simp only[h1,h3,bindO]
 cases (s==0) with
 |true=>exact⟨v,rfl,h2⟩
 |false=>
  cases (s==1) with
  |true=>exact⟨u,rfl,h4⟩
  |false=>
   cases (a==b) with
   |true=>exact⟨v,rfl,h2⟩
   |false=>exact⟨2,rfl,by omega,by omega⟩
theorem m81(l:List Int)(hl:l.length<=1000000):∃v,M81.m ⟨l⟩=some v/\V v:=by obtain⟨v,h1,h2⟩:=m118 l 0 1 hl;unfold M81.m;simp only[h1,bindO];exact⟨v,rfl,by rcases h2 with rfl|rfl|rfl<;>omega,by rcases h2 with rfl|rfl|rfl<;>omega⟩
theorem m82(l:List Int)(hl:l.length<=1000000):∃v,M82.m ⟨l⟩=some v/\V v:=by obtain⟨v,h1,h2⟩:=m118 l 1 0 hl;unfold M82.m;simp only[h1,bindO];exact⟨v,rfl,by rcases h2 with rfl|rfl|rfl<;>omega,by rcases h2 with rfl|rfl|rfl<;>omega⟩
theorem m122(l:List Int)(hl:l.length<=1000000):∃b,M122.m ⟨l⟩=some b:=by
 obtain⟨r,h1,_⟩:=m170 l 0 hl;obtain⟨s,h2,_⟩:=m170 l 1 hl;unfold M122.m M148.m;simp only[h1,h2,bindO]
 cases decide (r>=0) with
 |true=>exact⟨_,rfl⟩
 |false=>exact⟨_,rfl⟩
end Co
end Go.Proofs.YtpbplpgfloaaiaaGreatDoor
namespace Go.Proofs.YtpbplpgfloaaiaaGreatDoor
open Go.Abs
namespace Co
theorem xor01{a b:Int}(ha:a=0\/a=1)(hb:b=0\/b=1):IntKind.u8.wrap (((BitVec.ofInt 8 a^^^BitVec.ofInt 8 b).toNat:Nat):Int)=0\/IntKind.u8.wrap (((BitVec.ofInt 8 a^^^BitVec.ofInt 8 b).toNat:Nat):Int)=1:=by rcases ha with rfl|rfl<;>rcases hb with rfl|rfl<;>decide
theorem m83(l:List Int)(hl:l.length<=1000000)(hv:∀v∈l,V v):∃v,M83.m ⟨l⟩=some v/\V v:=by
 obtain⟨y,h1,h2⟩:=iter_inv (step:=M83.s0) (λx=>x.l=l/\x.n=(l.length:Int)/\∃k:Nat,x.i=(k:Int)/\k<=l.length/\(x.out=0\/x.out=1)) (λx=>l.length - x.i.toNat)
  (λy=>match y with|.inl q=>q.out=0\/q.out=1|.inr z=>z.r=2) (by
   rintro⟨out,l',n,i⟩ ⟨h3,h4,k,h5,hk,ho⟩;obtain rfl:l'=l:=h3;obtain rfl:n=(l'.length:Int):=h4;obtain rfl:i=(k:Int):=h5;have ho:out=0\/out=1:=ho;unfold M83.s0 M117.m;by_cases hlt:k<l'.length
   ·have e1:decide ((k:Int)<(l'.length:Int))=true:=AB (by omega);have hvk:=hv _ (AH hlt);simp only[e1,inR_nat hlt,getD_at hlt,A5,suc (i:=k) (by omega),bindO];by_cases e2:l'[k]<=1
    ·refine⟨.inl ⟨_,l',(l'.length:Int),((k+1:Nat):Int)⟩,by rw[AB e2];rfl,⟨rfl,rfl,k+1,rfl,hlt,?_⟩,by simp;omega⟩;exact xor01 ho (by have:=hvk.1;omega)
    ·exact⟨.inr (.inr ⟨2⟩),by rw[AN e2];rfl,rfl⟩
   ·have e1:decide ((k:Int)<(l'.length:Int))=false:=AN (by omega);simp only[e1,A7];exact⟨.inr (.inl ⟨out⟩),rfl,ho⟩) ⟨0,l,(l.length:Int),0⟩ ⟨rfl,rfl,0,rfl,B0 _,.inl rfl⟩
 unfold M83.m;have h1':iter M83.s0 { out:=0,l:=l,n:=(l.length:Int),i:=0 }=some y:=h1;simp only[h1',bindO]
 cases y with
 |inl q=>have h2:q.out=0\/q.out=1:=h2;exact⟨q.out,rfl,by rcases h2 with h|h<;>omega,by rcases h2 with h|h<;>omega⟩
 |inr z=>have h2:z.r=2:=h2;exact⟨z.r,rfl,by omega,by omega⟩
theorem m119(v:Int):∃b,M119.m ⟨v⟩=some b:=by
 unfold M119.m M120.m;simp only[bindO]
 cases decide (v>3) with
 |true=>exact⟨_,rfl⟩
 |false=>exact⟨_,rfl⟩
theorem m116a(l:List Int)(hl:l.length<=1000000):∃r,M116a.m ⟨l⟩=some r/\At r l.length:=by
 obtain⟨s,h1,h2⟩:=iter_find (step:=M116a.s0) (λk=>⟨l,(l.length:Int),(k:Int)⟩) l.length (λk=>⟨(k:Int)⟩) (y:=PUnit.unit) (λk hk=>by
   have e1:decide ((k:Int)<(l.length:Int))=true:=AB (by omega);obtain⟨b,hb⟩:=m119 (l[(k:Int).toNat]?.getD 0);unfold M116a.s0;simp only[e1,inR_nat hk,A5,suc (i:=k) (by omega),hb,bindO]
   cases b with
   |true=>exact .inr rfl
   |false=>exact .inl rfl) (by
   have e1:decide ((l.length:Int)<(l.length:Int))=false:=AN (by omega);unfold M116a.s0;simp only[e1,A7])
 unfold M116a.m;have h1':iter M116a.s0 { s:=l,n:=(l.length:Int),i:=0 }=some s:=h1;simp only[h1',bindO];rcases h2 with rfl|⟨k,hk,rfl⟩
 ·exact⟨_,rfl,.inl rfl⟩
 ·exact⟨(k:Int),rfl,.inr ⟨by omega,by omega⟩⟩
theorem m116b(l:List Int)(hl:l.length<=1000000):∃r,M116b.m ⟨l⟩=some r/\At r l.length:=by
 obtain⟨s,h1,h2⟩:=iter_find (step:=M116b.s0) (λk=>⟨l,(l.length:Int),(k:Int)⟩) l.length (λk=>⟨(k:Int)⟩) (y:=PUnit.unit) (λk hk=>by
   have e1:decide ((k:Int)<(l.length:Int))=true:=AB (by omega);unfold M116b.s0 M121.m;simp only[e1,inR_nat hk,A5,suc (i:=k) (by omega),bindO]
   cases (l[(k:Int).toNat]?.getD 0 !=3) with
   |true=>exact .inr rfl
   |false=>exact .inl rfl) (by
   have e1:decide ((l.length:Int)<(l.length:Int))=false:=AN (by omega);unfold M116b.s0;simp only[e1,A7])
 unfold M116b.m;have h1':iter M116b.s0 { s:=l,n:=(l.length:Int),i:=0 }=some s:=h1;simp only[h1',bindO];rcases h2 with rfl|⟨k,hk,rfl⟩
 ·exact⟨_,rfl,.inl rfl⟩
 ·exact⟨(k:Int),rfl,.inr ⟨by omega,by omega⟩⟩
theorem m86(l:List Int)(hl:l.length<=1000000)(hv:∀v∈l,V v):∃v,M86.m ⟨l⟩=some v/\V v:=by
 obtain⟨r,h1,h2⟩:=m116b l hl;obtain⟨q,h3,h4⟩:=m116a l hl;obtain⟨b,h5⟩:=m122 l hl;unfold M86.m M76a.m;simp only[h1,h3,h5,bindO];rcases h2 with rfl|⟨h6,h7⟩
 ·exact⟨3,rfl,by omega,by omega⟩
 ·have e0:decide (r<0)=false:=AN (Int.not_lt.2 h6);simp only[e0,A7];obtain⟨k,rfl⟩:=Int.eq_ofNat_of_zero_le h6;have hk:k<l.length:=(by omega);have hV:=hv _ (AH hk)
  cases b with
  |true=>exact⟨2,rfl,by omega,by omega⟩
  |false=>
   simp only[BX,A5,A7]
   cases decide (q>=0) with
   |true=>exact⟨2,rfl,by omega,by omega⟩
   |false=>simp only[A7,inR_nat hk,A5,getD_at hk];exact⟨_,rfl,hV⟩
end Co
end Go.Proofs.YtpbplpgfloaaiaaGreatDoor
namespace Go.Proofs.YtpbplpgfloaaiaaGreatDoor
open Go.Abs
namespace Co
theorem two:V 2:=⟨by omega,by omega⟩
theorem head{l:List Int}{n k:Nat}(hv:∀v∈l,V v)(h:¬(l.length:Int)<n)(hk:k<n):inR (k:Int) l.length=true/\V (l[k]?.getD 0):=by
 have hk':k<l.length:=by omega
 refine⟨inR_nat hk',?_⟩;simp only[hk',A4,BC];exact hv _ (AH hk')
theorem m44(k:Nat)(hk:k<16)(l:List Int)(hl:l.length<=1000000)(hv:∀v∈l,V v):∃v,M44.m ⟨(k:Int),l⟩=some v/\V v:=by
 obtain⟨a1,q1,r1⟩:=m81 l hl;obtain⟨a2,q2,r2⟩:=m82 l hl;obtain⟨a3,q3,r3⟩:=m83 l hl hv;obtain⟨a4,q4,r4⟩:=m86 l hl hv;obtain⟨b1,s1,t1⟩:=m80 r1;obtain⟨b2,s2,t2⟩:=m80 r2;obtain⟨b3,s3,t3⟩:=m80 r3;have key:∀(lo hi:Int) (o:Option Int),M78.m ⟨(k:Int)⟩=some (lo,hi)->(¬(l.length:Int)<lo->∃v,o=some v/\V v)->(∀y:Int×Int,y=(lo,hi)->M44.m ⟨(k:Int),l⟩=(bif bif decide ((l.length:Int)<y.1) then true else decide ((l.length:Int)>y.2) then some 2 else o))->∃v,M44.m ⟨(k:Int),l⟩=some v/\V v:=by
  intro lo hi o _ ho hm;rw[hm _ rfl];by_cases h1:(l.length:Int)<lo
  ·rw[AB h1];exact⟨2,rfl,two⟩
  ·rw[AN h1]
   cases decide ((l.length:Int)>hi) with
   |true=>exact⟨2,rfl,two⟩
   |false=>exact ho h1
 have e:k=0\/k=1\/k=2\/k=3\/k=4\/k=5\/k=6\/k=7\/k=8\/k=9\/k=10\/k=11\/k=12\/k=13\/k=14\/k=15:=by omega
 clear hk;rcases e with rfl|rfl|rfl|rfl|rfl|rfl|rfl|rfl|rfl|rfl|rfl|rfl|rfl|rfl|rfl|rfl
 ·refine key 0 0 (some 2) rfl (λ_=>⟨2,rfl,two⟩) (λy hy=> ?_);subst hy;unfold M44.m;rw[show M78.m ⟨((0:Nat):Int)⟩=some (0,0) from rfl];rfl
 ·refine key 0 0 (some 0) rfl (λ_=>⟨0,rfl,by omega,by omega⟩) (λy hy=> ?_);subst hy;unfold M44.m;rw[show M78.m ⟨((1:Nat):Int)⟩=some (0,0) from rfl];rfl
 ·refine key 0 0 (some 1) rfl (λ_=>⟨1,rfl,by omega,by omega⟩) (λy hy=> ?_);subst hy;unfold M44.m;rw[show M78.m ⟨((2:Nat):Int)⟩=some (0,0) from rfl];rfl
 ·by_cases h1:(l.length:Int)<1
  ·refine key 1 1 (some 2) rfl (λh=>absurd h1 h) (λy hy=> ?_);subst hy;unfold M44.m;rw[show M78.m ⟨((3:Nat):Int)⟩=some (1,1) from rfl];simp only[bindO,AB h1,A5]
  ·obtain⟨i0,v0⟩:=head (n:=1) (k:=0) hv h1 (by omega);obtain⟨c,w1,w2⟩:=m79 v0;refine key 1 1 (some c) rfl (λ_=>⟨c,rfl,w2⟩) (λy hy=> ?_);subst hy;unfold M44.m;rw[show M78.m ⟨((3:Nat):Int)⟩=some (1,1) from rfl];have i0:inR 0 l.length=true:=i0;simp only[w1,i0,bindO];rfl
 ·by_cases h1:(l.length:Int)<1
  ·refine key 1 1 (some 2) rfl (λh=>absurd h1 h) (λy hy=> ?_);subst hy;unfold M44.m;rw[show M78.m ⟨((4:Nat):Int)⟩=some (1,1) from rfl];simp only[bindO,AB h1,A5]
  ·obtain⟨i0,v0⟩:=head (n:=1) (k:=0) hv h1 (by omega);obtain⟨c,w1,w2⟩:=m80 v0;refine key 1 1 (some c) rfl (λ_=>⟨c,rfl,w2⟩) (λy hy=> ?_);subst hy;unfold M44.m;rw[show M78.m ⟨((4:Nat):Int)⟩=some (1,1) from rfl];have i0:inR 0 l.length=true:=i0;simp only[w1,i0,bindO];rfl
 ·refine key 2 16 (some a1) rfl (λ_=>⟨a1,rfl,r1⟩) (λy hy=> ?_);subst hy;unfold M44.m;rw[show M78.m ⟨((5:Nat):Int)⟩=some (2,16) from rfl];simp only[q1,bindO];rfl
 ·refine key 2 16 (some b1) rfl (λ_=>⟨b1,rfl,t1⟩) (λy hy=> ?_);subst hy;unfold M44.m;rw[show M78.m ⟨((6:Nat):Int)⟩=some (2,16) from rfl];simp only[q1,s1,bindO];rfl
 ·refine key 2 16 (some a2) rfl (λ_=>⟨a2,rfl,r2⟩) (λy hy=> ?_);subst hy;unfold M44.m;rw[show M78.m ⟨((7:Nat):Int)⟩=some (2,16) from rfl];simp only[q2,bindO];rfl
 ·refine key 2 16 (some b2) rfl (λ_=>⟨b2,rfl,t2⟩) (λy hy=> ?_);subst hy;unfold M44.m;rw[show M78.m ⟨((8:Nat):Int)⟩=some (2,16) from rfl];simp only[q2,s2,bindO];rfl
 ·refine key 2 16 (some a3) rfl (λ_=>⟨a3,rfl,r3⟩) (λy hy=> ?_);subst hy;unfold M44.m;rw[show M78.m ⟨((9:Nat):Int)⟩=some (2,16) from rfl];simp only[q3,bindO];rfl
 ·refine key 2 16 (some b3) rfl (λ_=>⟨b3,rfl,t3⟩) (λy hy=> ?_);subst hy;unfold M44.m;rw[show M78.m ⟨((10:Nat):Int)⟩=some (2,16) from rfl];simp only[q3,s3,bindO];rfl
 ·by_cases h1:(l.length:Int)<3
  ·refine key 3 3 (some 2) rfl (λh=>absurd h1 h) (λy hy=> ?_);subst hy;unfold M44.m;rw[show M78.m ⟨((11:Nat):Int)⟩=some (3,3) from rfl];simp only[bindO,AB h1,A5]
  ·obtain⟨i0,v0⟩:=head (n:=3) (k:=0) hv h1 (by omega);have i0:inR 0 l.length=true:=i0;obtain⟨i1,v1⟩:=head (n:=3) (k:=1) hv h1 (by omega);have i1:inR 1 l.length=true:=i1;obtain⟨i2,v2⟩:=head (n:=3) (k:=2) hv h1 (by omega);have i2:inR 2 l.length=true:=i2;obtain⟨c,w1,w2⟩:=m84 (s:=l[0]?.getD 0) v1 v2;refine key 3 3 (some c) rfl (λ_=>⟨c,rfl,w2⟩) (λy hy=> ?_);subst hy;unfold M44.m;rw[show M78.m ⟨((11:Nat):Int)⟩=some (3,3) from rfl];simp only[w1,i0,i1,i2,bindO];rfl
 ·by_cases h1:(l.length:Int)<2
  ·refine key 2 2 (some 2) rfl (λh=>absurd h1 h) (λy hy=> ?_);subst hy;unfold M44.m;rw[show M78.m ⟨((12:Nat):Int)⟩=some (2,2) from rfl];simp only[bindO,AB h1,A5]
  ·obtain⟨i0,v0⟩:=head (n:=2) (k:=0) hv h1 (by omega);have i0:inR 0 l.length=true:=i0;obtain⟨i1,v1⟩:=head (n:=2) (k:=1) hv h1 (by omega);have i1:inR 1 l.length=true:=i1;obtain⟨c,w1,w2⟩:=m85 v0 v1;refine key 2 2 (some c) rfl (λ_=>⟨c,rfl,w2⟩) (λy hy=> ?_);subst hy;unfold M44.m;rw[show M78.m ⟨((12:Nat):Int)⟩=some (2,2) from rfl];simp only[w1,i0,i1,bindO];rfl
 ·refine key 1 16 (some a4) rfl (λ_=>⟨a4,rfl,r4⟩) (λy hy=> ?_);subst hy;unfold M44.m;rw[show M78.m ⟨((13:Nat):Int)⟩=some (1,16) from rfl];simp only[q4,bindO];rfl
 ·refine key 1 1 (some 2) rfl (λ_=>⟨2,rfl,two⟩) (λy hy=> ?_);subst hy;unfold M44.m;rw[show M78.m ⟨((14:Nat):Int)⟩=some (1,1) from rfl];rfl
 ·refine key 0 0 (some 2) rfl (λ_=>⟨2,rfl,two⟩) (λy hy=> ?_);subst hy;unfold M44.m;rw[show M78.m ⟨((15:Nat):Int)⟩=some (0,0) from rfl];rfl
end Co
end Go.Proofs.YtpbplpgfloaaiaaGreatDoor
namespace Go.Proofs.YtpbplpgfloaaiaaGreatDoor
open Go.Abs
namespace M41
structure gX where(nodes:List ((Int)×(List (Int))×(Int)×Int))(names:List (List UInt8))(mems:List ((List (Int))×(List (Int))×Int))(outs inn state:List (Int))
def g:Sg gX:=⟨[.agg [.arr (.pair (.int .u8) (.pair (.sl (.int .i64)) (.pair (.int .i64) (.int .i64)))),.arr .str,.arr (.pair (.sl (.int .i64)) (.pair (.sl (.int .i64)) (.int .i64))),.arr (.int .i64)],.agg [.arr (.int .u8),.arr (.int .u8)]],[],λa b=>⟨a.1.1,a.1.2.1,a.1.2.2.1,a.1.2.2.2.1,a.2.1.1,a.2.1.2.1⟩,λx=>((x.nodes,(x.names,(x.mems,(x.outs,())))),((x.inn,(x.state,())),())),λx=>()⟩
abbrev fY:=Int
def f:Ft fY:=⟨none,.c (.it .i64),[],λa b=>(a),λy=>y,λy=>()⟩
def cl:List (FuncId×Con):=[(68,M68.con),(75,M75.con),(36,M36.con),(76,M76c.con)]
theorem cl_ok:Q8 Tryz.prog cl:=⟨M68.con_ok,M75.con_ok,M36.con_ok,M76c.con_ok,trivial⟩
def E0:Env:=⟨ty,QE cl,λ_=>none,none⟩
def m(x:gX):Option fY:=bif !decide ((↑x.mems.length:Int)>0) then bindO (M68.m ⟨x.nodes,x.names,x.mems,x.outs,[15]⟩) λy=>bif decide ((↑(List.length y):Int)>0) then some 7 else bindO (M75.m ⟨x.nodes,x.names,x.mems,x.outs⟩) λy=>bindO (bif !(↑x.inn.length:Int) !=(↑(List.length y):Int) then M36.m ⟨x.nodes,x.names,x.mems,x.outs⟩ else some []) λy_1=>bif bif (↑x.inn.length:Int) !=(↑(List.length y):Int) then true else (↑x.state.length:Int) !=(↑(List.length y_1):Int) then some 8 else bindO (M76c.m ⟨x.inn⟩) λy=>bindO (bif !y then M76c.m ⟨x.state⟩ else some false) λy_2=>bif bif y then true else y_2 then some 1 else some 0 else some 7
theorem m_eq(x:gX):exec E0 43 C41 0 (QD 0 (g.A x)) (g.H x) (finish 0 ty [.tmp 4] f)=m x:=by kernel_rfl
theorem tl:QA C41 0=[]:=by kernel_rfl
theorem known:QB Tryz.prog 41 g f m:=
 Q5 mixed (Q4 ty_ok cl_ok _) s41 rfl rfl tl Q7.nil (λ_ _=>⟨rfl,rfl⟩) (λ_ _=>⟨rfl,rfl⟩) m_eq
def con:Con:=Qa g f m default
theorem con_ok:QC Tryz.prog 41 con:=Q9 known (λ_=>rfl) rfl
end M41
namespace M42
structure gX where(nodes:List ((Int)×(List (Int))×(Int)×Int))(names:List (List UInt8))(mems:List ((List (Int))×(List (Int))×Int))(outs:List (Int))(nets_lo nets_len nets_cap:Nat)(inn state xs:List (Int))
def g:Sg gX:=⟨[.agg [.arr (.pair (.int .u8) (.pair (.sl (.int .i64)) (.pair (.int .i64) (.int .i64)))),.arr .str,.arr (.pair (.sl (.int .i64)) (.pair (.sl (.int .i64)) (.int .i64))),.arr (.int .i64),.slc 0 0 1],.agg [.arr (.int .u8),.arr (.int .u8)]],[.arr (.int .u8) 0],λa b=>⟨a.1.1,a.1.2.1,a.1.2.2.1,a.1.2.2.2.1,a.1.2.2.2.2.1.1,a.1.2.2.2.2.1.2.1,a.1.2.2.2.2.1.2.2,a.2.1.1,a.2.1.2.1,b.1⟩,λx=>((x.nodes,(x.names,(x.mems,(x.outs,((x.nets_lo,x.nets_len,x.nets_cap),()))))),((x.inn,(x.state,())),())),λx=>(x.xs,())⟩
abbrev fY:=List (Int)
def f:Ft fY:=⟨none,.tup [],[.arr (.int .u8) 0],λa b=>(b.1),λy=>(),λy=>(y,())⟩
def cl:List (FuncId×Con):=[(75,M75.con),(36,M36.con)]
theorem cl_ok:Q8 Tryz.prog cl:=⟨M75.con_ok,M36.con_ok,trivial⟩
def E2:Env:=⟨ty,QE cl,λ_=>none,none⟩
structure p1X where(l:List (Int))(n i:Int)(xs:List (Int))(nodes:List ((Int)×(List (Int))×(Int)×Int))(names:List (List UInt8))(mems:List ((List (Int))×(List (Int))×Int))(outs:List (Int))(nets_lo nets_len nets_cap:Nat)(inn state:List (Int))
def p1:Pt p1X where
 own:=[]
 t:=⟨[(2,.c (.ptr 1 0)),(3,.c (.ptr 2 0)),(29,.c (.arr (.int .i64))),(30,.c (.it .i64)),(31,.c (.it .i64))],[.arr (.int .u8) 0,.st [.arr (.pair (.int .u8) (.pair (.sl (.int .i64)) (.pair (.int .i64) (.int .i64)))),.arr .str,.arr (.pair (.sl (.int .i64)) (.pair (.sl (.int .i64)) (.int .i64))),.arr (.int .i64),.slc 0 0 1] 1 0,.st [.arr (.int .u8),.arr (.int .u8)] 1 0]⟩
 to:=λv=>⟨v.1.2.2.1,v.1.2.2.2.1,v.1.2.2.2.2.1,v.2.1,v.2.2.1.1,v.2.2.1.2.1,v.2.2.1.2.2.1,v.2.2.1.2.2.2.1,v.2.2.1.2.2.2.2.1.1,v.2.2.1.2.2.2.2.1.2.1,v.2.2.1.2.2.2.2.1.2.2,v.2.2.2.1.1,v.2.2.2.1.2.1⟩
 fr:=λx=>(((),((),(x.l,(x.n,(x.i,()))))),(x.xs,((x.nodes,(x.names,(x.mems,(x.outs,((x.nets_lo,x.nets_len,x.nets_cap),()))))),((x.inn,(x.state,())),()))))
structure q1X where(xs:List (Int))
def q1:Pt q1X where
 own:=[]
 t:=⟨[],[.arr (.int .u8) 0]⟩
 to:=λv=>⟨v.2.1⟩
 fr:=λx=>((),(x.xs,()))
def s1(x:p1X):Option (p1X⊕q1X):=bif decide (x.i<x.n) then bif inR x.i x.l.length then bif inR x.i x.state.length then bif inR (x.l[x.i.toNat]?.getD 0) x.nets_len then bif decide (x.nets_lo+Int.toNat (x.l[x.i.toNat]?.getD 0)<x.xs.length) then some (Sum.inl ⟨x.l,x.n,IntKind.i64.wrap (x.i+1),x.xs.set (x.nets_lo+Int.toNat (x.l[x.i.toNat]?.getD 0)) (x.state[x.i.toNat]?.getD 0),x.nodes,x.names,x.mems,x.outs,x.nets_lo,x.nets_len,x.nets_cap,x.inn,x.state⟩) else none else none else none else none else some (Sum.inr ⟨x.xs⟩)
theorem s1_eq(x:p1X):exec E2 46 (C42.Q0 1) 2 (p1.R x) (p1.H x) (QP 1 p1 (.exit 2) q1)=s1 x:=by kernel_rfl
def l1:QJ:=QQ 1 p1 (.exit 2) q1 s1
theorem tl1:QA (C42.Q0 1) 2=[]:=by kernel_rfl
theorem l1_ok  :QF Tryz.prog 46 none 1 (C42.Q0 1) l1:=QG mixed (Q4 ty_ok cl_ok _) (by trivial) (λ_=>rfl) (λ_=>rfl) (tl1▸Q7.nil) s1_eq
def E1:Env:=⟨ty,QE cl,Qi [(1,l1)],none⟩
structure p0X where(l:List (Int))(n i:Int)(xs:List (Int))(nodes:List ((Int)×(List (Int))×(Int)×Int))(names:List (List UInt8))(mems:List ((List (Int))×(List (Int))×Int))(outs:List (Int))(nets_lo nets_len nets_cap:Nat)(inn state:List (Int))
def p0:Pt p0X where
 own:=[]
 t:=⟨[(2,.c (.ptr 1 0)),(3,.c (.ptr 2 0)),(10,.c (.arr (.int .i64))),(11,.c (.it .i64)),(12,.c (.it .i64))],[.arr (.int .u8) 0,.st [.arr (.pair (.int .u8) (.pair (.sl (.int .i64)) (.pair (.int .i64) (.int .i64)))),.arr .str,.arr (.pair (.sl (.int .i64)) (.pair (.sl (.int .i64)) (.int .i64))),.arr (.int .i64),.slc 0 0 1] 1 0,.st [.arr (.int .u8),.arr (.int .u8)] 1 0]⟩
 to:=λv=>⟨v.1.2.2.1,v.1.2.2.2.1,v.1.2.2.2.2.1,v.2.1,v.2.2.1.1,v.2.2.1.2.1,v.2.2.1.2.2.1,v.2.2.1.2.2.2.1,v.2.2.1.2.2.2.2.1.1,v.2.2.1.2.2.2.2.1.2.1,v.2.2.1.2.2.2.2.1.2.2,v.2.2.2.1.1,v.2.2.2.1.2.1⟩
 fr:=λx=>(((),((),(x.l,(x.n,(x.i,()))))),(x.xs,((x.nodes,(x.names,(x.mems,(x.outs,((x.nets_lo,x.nets_len,x.nets_cap),()))))),((x.inn,(x.state,())),()))))
structure q0X where(xs:List (Int))(nodes:List ((Int)×(List (Int))×(Int)×Int))(names:List (List UInt8))(mems:List ((List (Int))×(List (Int))×Int))(outs:List (Int))(nets_lo nets_len nets_cap:Nat)(inn state:List (Int))
def q0:Pt q0X where
 own:=[]
 t:=⟨[(2,.c (.ptr 1 0)),(3,.c (.ptr 2 0))],[.arr (.int .u8) 0,.st [.arr (.pair (.int .u8) (.pair (.sl (.int .i64)) (.pair (.int .i64) (.int .i64)))),.arr .str,.arr (.pair (.sl (.int .i64)) (.pair (.sl (.int .i64)) (.int .i64))),.arr (.int .i64),.slc 0 0 1] 1 0,.st [.arr (.int .u8),.arr (.int .u8)] 1 0]⟩
 to:=λv=>⟨v.2.1,v.2.2.1.1,v.2.2.1.2.1,v.2.2.1.2.2.1,v.2.2.1.2.2.2.1,v.2.2.1.2.2.2.2.1.1,v.2.2.1.2.2.2.2.1.2.1,v.2.2.1.2.2.2.2.1.2.2,v.2.2.2.1.1,v.2.2.2.1.2.1⟩
 fr:=λx=>(((),((),())),(x.xs,((x.nodes,(x.names,(x.mems,(x.outs,((x.nets_lo,x.nets_len,x.nets_cap),()))))),((x.inn,(x.state,())),()))))
def s0(x:p0X):Option (p0X⊕q0X):=bif decide (x.i<x.n) then bif inR x.i x.l.length then bif inR x.i x.inn.length then bif inR (x.l[x.i.toNat]?.getD 0) x.nets_len then bif decide (x.nets_lo+Int.toNat (x.l[x.i.toNat]?.getD 0)<x.xs.length) then some (Sum.inl ⟨x.l,x.n,IntKind.i64.wrap (x.i+1),x.xs.set (x.nets_lo+Int.toNat (x.l[x.i.toNat]?.getD 0)) (x.inn[x.i.toNat]?.getD 0),x.nodes,x.names,x.mems,x.outs,x.nets_lo,x.nets_len,x.nets_cap,x.inn,x.state⟩) else none else none else none else none else some (Sum.inr ⟨x.xs,x.nodes,x.names,x.mems,x.outs,x.nets_lo,x.nets_len,x.nets_cap,x.inn,x.state⟩)
theorem s0_eq(x:p0X):exec E1 46 (C42.Q0 0) 1 (p0.R x) (p0.H x) (QP 1 p0 (.exit 0) q0)=s0 x:=by kernel_rfl
def l0:QJ:=QQ 1 p0 (.exit 0) q0 s0
theorem tl0:QA (C42.Q0 0) 1=[]:=by kernel_rfl
theorem l0_ok  :QF Tryz.prog 46 none 1 (C42.Q0 0) l0:=QG mixed (Q4 ty_ok cl_ok _) (by trivial) (λ_=>rfl) (λ_=>rfl) (tl0▸Q7.nil) s0_eq
def E0:Env:=⟨ty,QE cl,Qi [(0,l0),(1,l1)],none⟩
def m(x:gX):Option fY:=bindO (M75.m ⟨x.nodes,x.names,x.mems,x.outs⟩) λy=>bindO (iter s0 ⟨y,(↑(List.length y):Int),0,x.xs,x.nodes,x.names,x.mems,x.outs,x.nets_lo,x.nets_len,x.nets_cap,x.inn,x.state⟩) λy=>bindO (M36.m ⟨y.nodes,y.names,y.mems,y.outs⟩) λy_1=>bindO (iter s1 ⟨y_1,(↑(List.length y_1):Int),0,y.xs,y.nodes,y.names,y.mems,y.outs,y.nets_lo,y.nets_len,y.nets_cap,y.inn,y.state⟩) λy=>some y.xs
theorem m_eq(x:gX):exec E0 46 C42 0 (QD 0 (g.A x)) (g.H x) (finish 1 ty [] f)=m x:=by kernel_rfl
theorem tl:QA C42 0=[(0,C42.Q0 0),(1,C42.Q0 1)]:=by kernel_rfl
theorem known:QB Tryz.prog 42 g f m:=
 Q5 mixed (Q4 ty_ok cl_ok _) s42 rfl rfl tl (Q7.cons rfl l0_ok (Q7.cons rfl l1_ok Q7.nil)) (λ_ _=>⟨rfl,rfl⟩) (λ_ _=>⟨rfl,rfl⟩) m_eq
def con:Con:=Km g [.arg 0 4] f m default
theorem con_ok:QC Tryz.prog 42 con:=Jn known
end M42
namespace M87
structure gX where(nodes:List ((Int)×(List (Int))×(Int)×Int))(names:List (List UInt8))(mems:List ((List (Int))×(List (Int))×Int))(outs nets:List (Int))(n:Int)
def g:Sg gX:=⟨[.agg [.arr (.pair (.int .u8) (.pair (.sl (.int .i64)) (.pair (.int .i64) (.int .i64)))),.arr .str,.arr (.pair (.sl (.int .i64)) (.pair (.sl (.int .i64)) (.int .i64))),.arr (.int .i64),.arr (.int .u8)],.c (.it .i64)],[],λa b=>⟨a.1.1,a.1.2.1,a.1.2.2.1,a.1.2.2.2.1,a.1.2.2.2.2.1,a.2.1⟩,λx=>((x.nodes,(x.names,(x.mems,(x.outs,(x.nets,()))))),(x.n,())),λx=>()⟩
abbrev fY:=Int
def f:Ft fY:=⟨none,.c (.it .u8),[],λa b=>(a),λy=>y,λy=>()⟩
def cl:List (FuncId×Con):=[(120,M120.con)]
theorem cl_ok:Q8 Tryz.prog cl:=⟨M120.con_ok,trivial⟩
def E0:Env:=⟨ty,QE cl,λ_=>none,none⟩
def m(x:gX):Option fY:=bif bif decide (x.n<0) then true else decide (x.n>=(↑x.nets.length:Int)) then some 2 else bif inR x.n x.nets.length then bindO (M120.m ⟨x.nets[x.n.toNat]?.getD 0⟩) λy=>some y else none
theorem m_eq(x:gX):exec E0 20 C87 0 (QD 0 (g.A x)) (g.H x) (finish 0 ty [.tmp 4] f)=m x:=by kernel_rfl
theorem tl:QA C87 0=[]:=by kernel_rfl
theorem known:QB Tryz.prog 87 g f m:=
 Q5 mixed (Q4 ty_ok cl_ok _) s87 rfl rfl tl Q7.nil (λ_ _=>⟨rfl,rfl⟩) (λ_ _=>⟨rfl,rfl⟩) m_eq
def con:Con:=Qa g f m default
theorem con_ok:QC Tryz.prog 87 con:=Q9 known (λ_=>rfl) rfl
end M87
namespace M88
structure gX where(s:List (Int))
def g:Sg gX:=⟨[.c (.arr (.int .u8))],[],λa b=>⟨a.1⟩,λx=>(x.s,()),λx=>()⟩
abbrev fY:=List (Int)
def f:Ft fY:=⟨none,.c (.arr (.int .u8)),[],λa b=>(a),λy=>y,λy=>()⟩
def cl:List (FuncId×Con):=[]
theorem cl_ok:Q8 Tryz.prog cl:=trivial
def E0:Env:=⟨ty,QE cl,λ_=>none,none⟩
def m(x:gX):Option fY:=bif decide (0<=(↑x.s.length:Int))&&decide ((↑x.s.length:Int)<=(↑x.s.length:Int))&&(decide (0<=(↑x.s.length:Int))&&decide ((↑x.s.length:Int)<=(↑(↑x.s.length:Int).toNat:Int)))&&true then some (List.take ((↑x.s.length:Int).toNat - 0) (List.drop 0 x.s)) else none
theorem m_eq(x:gX):exec E0 9 C88 0 (QD 0 (g.A x)) (g.H x) (finish 0 ty [.tmp 2] f)=m x:=by kernel_rfl
theorem tl:QA C88 0=[]:=by kernel_rfl
theorem known:QB Tryz.prog 88 g f m:=
 Q5 mixed (Q4 ty_ok cl_ok _) s88 rfl rfl tl Q7.nil (λ_ _=>⟨rfl,rfl⟩) (λ_ _=>⟨rfl,rfl⟩) m_eq
def con:Con:=Qa g f m default
theorem con_ok:QC Tryz.prog 88 con:=Q9 known (λ_=>rfl) rfl
end M88
end Go.Proofs.YtpbplpgfloaaiaaGreatDoor
namespace Go.Proofs.YtpbplpgfloaaiaaGreatDoor
open Go.Abs
def c87:Con:=Ux M87.g M87.f M87.m default
theorem c87_ok:QC Tryz.prog 87 c87:=conFR_ok M87.known (λ_=>rfl) (λ_=>rfl)
namespace M45
structure gX where(nodes:List ((Int)×(List (Int))×(Int)×Int))(names:List (List UInt8))(mems:List ((List (Int))×(List (Int))×Int))(outs:List (Int))(nets_lo nets_len nets_cap:Nat)(xs:List (Int))
def g:Sg gX:=⟨[.agg [.arr (.pair (.int .u8) (.pair (.sl (.int .i64)) (.pair (.int .i64) (.int .i64)))),.arr .str,.arr (.pair (.sl (.int .i64)) (.pair (.sl (.int .i64)) (.int .i64))),.arr (.int .i64),.slc 0 0 1]],[.arr (.int .u8) 0],λa b=>⟨a.1.1,a.1.2.1,a.1.2.2.1,a.1.2.2.2.1,a.1.2.2.2.2.1.1,a.1.2.2.2.2.1.2.1,a.1.2.2.2.2.1.2.2,b.1⟩,λx=>((x.nodes,(x.names,(x.mems,(x.outs,((x.nets_lo,x.nets_len,x.nets_cap),()))))),()),λx=>(x.xs,())⟩
abbrev fY:=List (Int)×List (Int)×List (Int)
def f:Ft fY:=⟨none,.agg [.arr (.int .u8),.arr (.int .u8)],[.arr (.int .u8) 0],λa b=>(a.1,a.2.1,b.1),λy=>(y.1,(y.2.1,())),λy=>(y.2.2,())⟩
def cl:List (FuncId×Con):=[(87,c87),(36,M36.con),(79,M79.con),(88,M88.con)]
theorem cl_ok:Q8 Tryz.prog cl:=⟨c87_ok,M36.con_ok,M79.con_ok,M88.con_ok,trivial⟩
def E2:Env:=⟨ty,QE cl,λ_=>none,none⟩
structure p1X where(l:List (Int))(n i:Int)(xs:List (Int))(nodes:List ((Int)×(List (Int))×(Int)×Int))(names:List (List UInt8))(mems:List ((List (Int))×(List (Int))×Int))(outs:List (Int))(nets_lo nets_len nets_cap:Nat)(a:List (Int))(b_lo b_len:Nat)(oxs:List (Int))
def p1:Pt p1X where
 own:=[.cell 3 1 (.int .u8)]
 t:=⟨[(1,.c (.ptr 1 0)),(2,.c (.ptr 2 0)),(3,.c (.ptr 3 0)),(29,.c (.arr (.int .i64))),(30,.c (.it .i64)),(31,.c (.it .i64))],[.arr (.int .u8) 0,.st [.arr (.pair (.int .u8) (.pair (.sl (.int .i64)) (.pair (.int .i64) (.int .i64)))),.arr .str,.arr (.pair (.sl (.int .i64)) (.pair (.sl (.int .i64)) (.int .i64))),.arr (.int .i64),.slc 0 0 1] 1 0,.st [.junk,.junk] 1 0,.st [.arr (.int .u8),.sl 4 0 1] 1 0,.arr (.int .u8) 0]⟩
 to:=λv=>⟨v.1.2.2.2.1,v.1.2.2.2.2.1,v.1.2.2.2.2.2.1,v.2.1,v.2.2.1.1,v.2.2.1.2.1,v.2.2.1.2.2.1,v.2.2.1.2.2.2.1,v.2.2.1.2.2.2.2.1.1,v.2.2.1.2.2.2.2.1.2.1,v.2.2.1.2.2.2.2.1.2.2,v.2.2.2.2.1.1,v.2.2.2.2.1.2.1.1,v.2.2.2.2.1.2.1.2,v.2.2.2.2.2.1⟩
 fr:=λx=>(((),((),((),(x.l,(x.n,(x.i,())))))),(x.xs,((x.nodes,(x.names,(x.mems,(x.outs,((x.nets_lo,x.nets_len,x.nets_cap),()))))),(((),((),())),((x.a,((x.b_lo,x.b_len),())),(x.oxs,()))))))
structure q1X where(xs a b:List (Int))
def q1:Pt q1X where
 own:=[]
 t:=⟨[(2,.c (.ptr 2 0)),(3,.c (.ptr 3 0))],[.arr (.int .u8) 0,.st [.junk,.junk,.junk,.junk,.junk] 1 0,.st [.junk,.junk] 1 0,.st [.arr (.int .u8),.arr (.int .u8)] 1 0]⟩
 to:=λv=>⟨v.2.1,v.2.2.2.2.1.1,v.2.2.2.2.1.2.1⟩
 fr:=λx=>(((),((),())),(x.xs,(((),((),((),((),((),()))))),(((),((),())),((x.a,(x.b,())),())))))
def s1(x:p1X):Option (p1X⊕q1X):=bif decide (x.i<x.n) then bif inR x.i x.l.length then bif inR (x.l[x.i.toNat]?.getD 0) x.nodes.length then bif (↑(List.length (x.nodes[Int.toNat (x.l[x.i.toNat]?.getD 0)]?.getD (0,[],0,0)).2.1):Int)==1 then bif inR 0 (List.length (x.nodes[Int.toNat (x.l[x.i.toNat]?.getD 0)]?.getD (0,[],0,0)).2.1) then bindO (bif leB (x.nets_lo+x.nets_len) x.xs.length&&true&&true then M87.m ⟨x.nodes,x.names,x.mems,x.outs,List.take x.nets_len (List.drop x.nets_lo x.xs),(x.nodes[Int.toNat (x.l[x.i.toNat]?.getD 0)]?.getD (0,[],0,0)).2.1[0]?.getD 0⟩ else none) λy=>bindO (M79.m ⟨y⟩) λy=>bif eqN x.b_lo 0&&eqN x.oxs.length x.b_len&&QT (x.b_len+1) 1 then some (Sum.inl ⟨x.l,x.n,IntKind.i64.wrap (x.i+1),x.xs,x.nodes,x.names,x.mems,x.outs,x.nets_lo,x.nets_len,x.nets_cap,x.a,0,x.b_len+1,x.oxs++[y]⟩) else none else none else bif eqN x.b_lo 0&&eqN x.oxs.length x.b_len&&QT (x.b_len+1) 1 then some (Sum.inl ⟨x.l,x.n,IntKind.i64.wrap (x.i+1),x.xs,x.nodes,x.names,x.mems,x.outs,x.nets_lo,x.nets_len,x.nets_cap,x.a,0,x.b_len+1,x.oxs++[2]⟩) else none else none else none else bif leB (x.b_lo+x.b_len) x.oxs.length&&true&&true then some (Sum.inr ⟨x.xs,x.a,List.take x.b_len (List.drop x.b_lo x.oxs)⟩) else none
theorem s1_eq(x:p1X):exec E2 65 (C45.Q0 1) 2 (p1.R x) (p1.H x) (QP 1 p1 (.exit 2) q1)=s1 x:=by kernel_rfl
def l1:QJ:=QQ 1 p1 (.exit 2) q1 s1
theorem tl1:QA (C45.Q0 1) 2=[]:=by kernel_rfl
theorem l1_ok  :QF Tryz.prog 65 none 1 (C45.Q0 1) l1:=QG mixed (Q4 ty_ok cl_ok _) (by trivial) (λ_=>rfl) (λ_=>rfl) (tl1▸Q7.nil) s1_eq
def E1:Env:=⟨ty,QE cl,Qi [(1,l1)],none⟩
structure p0X where(l:List (Int))(n i:Int)(xs:List (Int))(nodes:List ((Int)×(List (Int))×(Int)×Int))(names:List (List UInt8))(mems:List ((List (Int))×(List (Int))×Int))(outs:List (Int))(nets_lo nets_len nets_cap a_lo a_len:Nat)(oxs:List (Int))
def p0:Pt p0X where
 own:=[.cell 3 0 (.int .u8)]
 t:=⟨[(1,.c (.ptr 1 0)),(2,.c (.ptr 2 0)),(3,.c (.ptr 3 0)),(12,.c (.arr (.int .i64))),(13,.c (.it .i64)),(14,.c (.it .i64))],[.arr (.int .u8) 0,.st [.arr (.pair (.int .u8) (.pair (.sl (.int .i64)) (.pair (.int .i64) (.int .i64)))),.arr .str,.arr (.pair (.sl (.int .i64)) (.pair (.sl (.int .i64)) (.int .i64))),.arr (.int .i64),.slc 0 0 1] 1 0,.st [.junk,.junk] 1 0,.st [.sl 4 0 1,.nils] 1 0,.arr (.int .u8) 0]⟩
 to:=λv=>⟨v.1.2.2.2.1,v.1.2.2.2.2.1,v.1.2.2.2.2.2.1,v.2.1,v.2.2.1.1,v.2.2.1.2.1,v.2.2.1.2.2.1,v.2.2.1.2.2.2.1,v.2.2.1.2.2.2.2.1.1,v.2.2.1.2.2.2.2.1.2.1,v.2.2.1.2.2.2.2.1.2.2,v.2.2.2.2.1.1.1,v.2.2.2.2.1.1.2,v.2.2.2.2.2.1⟩
 fr:=λx=>(((),((),((),(x.l,(x.n,(x.i,())))))),(x.xs,((x.nodes,(x.names,(x.mems,(x.outs,((x.nets_lo,x.nets_len,x.nets_cap),()))))),(((),((),())),(((x.a_lo,x.a_len),((),())),(x.oxs,()))))))
structure q0X where(xs:List (Int))(nodes:List ((Int)×(List (Int))×(Int)×Int))(names:List (List UInt8))(mems:List ((List (Int))×(List (Int))×Int))(outs:List (Int))(nets_lo nets_len nets_cap:Nat)(a:List (Int))
def q0:Pt q0X where
 own:=[]
 t:=⟨[(1,.c (.ptr 1 0)),(2,.c (.ptr 2 0)),(3,.c (.ptr 3 0))],[.arr (.int .u8) 0,.st [.arr (.pair (.int .u8) (.pair (.sl (.int .i64)) (.pair (.int .i64) (.int .i64)))),.arr .str,.arr (.pair (.sl (.int .i64)) (.pair (.sl (.int .i64)) (.int .i64))),.arr (.int .i64),.slc 0 0 1] 1 0,.st [.junk,.junk] 1 0,.st [.arr (.int .u8),.nils] 1 0]⟩
 to:=λv=>⟨v.2.1,v.2.2.1.1,v.2.2.1.2.1,v.2.2.1.2.2.1,v.2.2.1.2.2.2.1,v.2.2.1.2.2.2.2.1.1,v.2.2.1.2.2.2.2.1.2.1,v.2.2.1.2.2.2.2.1.2.2,v.2.2.2.2.1.1⟩
 fr:=λx=>(((),((),((),()))),(x.xs,((x.nodes,(x.names,(x.mems,(x.outs,((x.nets_lo,x.nets_len,x.nets_cap),()))))),(((),((),())),((x.a,((),())),())))))
def s0(x:p0X):Option (p0X⊕q0X):=bif decide (x.i<x.n) then bif inR x.i x.l.length then bindO (bif leB (x.nets_lo+x.nets_len) x.xs.length&&true&&true then M87.m ⟨x.nodes,x.names,x.mems,x.outs,List.take x.nets_len (List.drop x.nets_lo x.xs),x.l[x.i.toNat]?.getD 0⟩ else none) λy=>bif eqN x.a_lo 0&&eqN x.oxs.length x.a_len&&QT (x.a_len+1) 1 then some (Sum.inl ⟨x.l,x.n,IntKind.i64.wrap (x.i+1),x.xs,x.nodes,x.names,x.mems,x.outs,x.nets_lo,x.nets_len,x.nets_cap,0,x.a_len+1,x.oxs++[y]⟩) else none else none else bif leB (x.a_lo+x.a_len) x.oxs.length&&true&&true then some (Sum.inr ⟨x.xs,x.nodes,x.names,x.mems,x.outs,x.nets_lo,x.nets_len,x.nets_cap,List.take x.a_len (List.drop x.a_lo x.oxs)⟩) else none
theorem s0_eq(x:p0X):exec E1 65 (C45.Q0 0) 1 (p0.R x) (p0.H x) (QP 1 p0 (.exit 0) q0)=s0 x:=by kernel_rfl
def l0:QJ:=QQ 1 p0 (.exit 0) q0 s0
theorem tl0:QA (C45.Q0 0) 1=[]:=by kernel_rfl
theorem l0_ok  :QF Tryz.prog 65 none 1 (C45.Q0 0) l0:=QG mixed (Q4 ty_ok cl_ok _) (by trivial) (λ_=>rfl) (λ_=>rfl) (tl0▸Q7.nil) s0_eq
def E0:Env:=⟨ty,QE cl,Qi [(0,l0),(1,l1)],none⟩
def m(x:gX):Option fY:=bindO (iter s0 ⟨x.outs,(↑x.outs.length:Int),0,x.xs,x.nodes,x.names,x.mems,x.outs,x.nets_lo,x.nets_len,x.nets_cap,0,0,[]⟩) λy=>bindO (M36.m ⟨y.nodes,y.names,y.mems,y.outs⟩) λy_1=>bindO (iter s1 ⟨y_1,(↑(List.length y_1):Int),0,y.xs,y.nodes,y.names,y.mems,y.outs,y.nets_lo,y.nets_len,y.nets_cap,y.a,0,0,[]⟩) λy=>bindO (M88.m ⟨y.a⟩) λy_2=>bindO (M88.m ⟨y.b⟩) λy_3=>some (y_2,y_3,y.xs)
theorem m_eq(x:gX):exec E0 65 C45 0 (QD 0 (g.A x)) (g.H x) (finish 1 ty [.cell 2 77] f)=m x:=by kernel_rfl
theorem tl:QA C45 0=[(0,C45.Q0 0),(1,C45.Q0 1)]:=by kernel_rfl
theorem known:QB Tryz.prog 45 g f m:=
 Q5 mixed (Q4 ty_ok cl_ok _) s45 rfl rfl tl (Q7.cons rfl l0_ok (Q7.cons rfl l1_ok Q7.nil)) (λ_ _=>⟨rfl,rfl⟩) (λ_ _=>⟨rfl,rfl⟩) m_eq
theorem condK{α:Type}{Q:α->Prop}{b:Bool}{p q:Option α}(hp:∀r,p=some r->Q r)(hq:∀r,q=some r->Q r):∀r,(bif b then p else q)=some r->Q r:=by
 intro r h;cases b
 ·exact hq r h
 ·exact hp r h
theorem bindK{α β:Type}{Q:β->Prop}{o:Option α}{k:α->Option β}(h:∀y,o=some y->∀r,k y=some r->Q r):∀r,bindO o k=some r->Q r:=by intro r hr;obtain⟨y,h1,h2⟩:=QK hr;exact h y h1 r h2
theorem k0{z:p0X}{y:q0X}(h:iter s0 z=some y):y.xs=z.xs:=by
 refine Jy (λu=>u.xs=z.xs) (λr=>r.xs=z.xs) (λu r hu=> ?_) rfl h;revert r;unfold s0
 repeat' (first|(intro r h;cases h;done)|(intro r h;cases h;exact hu)|refine condK ?_ ?_|refine bindK λy _=> ?_)
theorem k1{z:p1X}{y:q1X}(h:iter s1 z=some y):y.xs=z.xs:=by
 refine Jy (λu=>u.xs=z.xs) (λr=>r.xs=z.xs) (λu r hu=> ?_) rfl h;revert r;unfold s1
 repeat' (first|(intro r h;cases h;done)|(intro r h;cases h;exact hu)|refine condK ?_ ?_|refine bindK λy _=> ?_)
theorem hh{x:gX}{y:fY}(h:m x=some y):f.H y=g.H x:=by unfold m at h;obtain⟨y0,h0,h⟩:=QK h;obtain⟨_,_,h⟩:=QK h;obtain⟨y1,h1,h⟩:=QK h;obtain⟨_,_,h⟩:=QK h;obtain⟨_,_,h⟩:=QK h;cases h;have e0:=k0 h0;have e1:=k1 h1;have e2:y1.xs=x.xs:=e1.trans e0;show [SO.arr (.int .u8) y1.xs 0]=[SO.arr (.int .u8) x.xs 0];rw[e2]
def con:Con:=ZR g [.arg 0 4] f m default
theorem con_ok:QC Tryz.prog 45 con:=J4 known (λ_=>rfl) (λ_ _ h=>by exact hh h)
end M45
end Go.Proofs.YtpbplpgfloaaiaaGreatDoor
namespace Go.Proofs.YtpbplpgfloaaiaaGreatDoor
open Go.Abs
namespace M51
structure gX where(xin dffs d0 d1:Int)(bus mem:Bool)(w0 w1 w2 w3:Int)(gates:List ((Int)×(Int)×(Int)×Int))(xouts:List (Int))(gk g0 g1 g2:Int)(nodes_lo nodes_len:Nat)(nd:List ((Int)×(List (Int))×(Int)×Int))
def g:Sg gX:=⟨[.agg [.it .u8,.it .u8,.it .u8,.it .u8,.bo,.bo,.it .u8,.it .u8,.it .u8,.it .u8,.arr (.pair (.int .u8) (.pair (.int .u8) (.pair (.int .u8) (.int .u8)))),.arr (.int .u8)],.agg [.it .u8,.it .u8,.it .u8,.it .u8],.c (.sl 0 0 4)],[.arr (.pair (.int .u8) (.pair (.sl (.int .i64)) (.pair (.int .i64) (.int .i64)))) 0],λa b=>⟨a.1.1,a.1.2.1,a.1.2.2.1,a.1.2.2.2.1,a.1.2.2.2.2.1,a.1.2.2.2.2.2.1,a.1.2.2.2.2.2.2.1,a.1.2.2.2.2.2.2.2.1,a.1.2.2.2.2.2.2.2.2.1,a.1.2.2.2.2.2.2.2.2.2.1,a.1.2.2.2.2.2.2.2.2.2.2.1,a.1.2.2.2.2.2.2.2.2.2.2.2.1,a.2.1.1,a.2.1.2.1,a.2.1.2.2.1,a.2.1.2.2.2.1,a.2.2.1.1,a.2.2.1.2,b.1⟩,λx=>((x.xin,(x.dffs,(x.d0,(x.d1,(x.bus,(x.mem,(x.w0,(x.w1,(x.w2,(x.w3,(x.gates,(x.xouts,())))))))))))),((x.gk,(x.g0,(x.g1,(x.g2,())))),((x.nodes_lo,x.nodes_len),()))),λx=>(x.nd,())⟩
abbrev fY:=Int×List (Int)×Int×Int×(List ((Int)×(List (Int))×(Int)×Int))
def f:Ft fY:=⟨none,.agg [.it .u8,.arr (.int .i64),.it .i64,.it .i64],[.arr (.pair (.int .u8) (.pair (.sl (.int .i64)) (.pair (.int .i64) (.int .i64)))) 0],λa b=>(a.1,a.2.1,a.2.2.1,a.2.2.2.1,b.1),λy=>(y.1,(y.2.1,(y.2.2.1,(y.2.2.2.1,())))),λy=>(y.2.2.2.2,())⟩
def cl:List (FuncId×Con):=[]
theorem cl_ok:Q8 Tryz.prog cl:=trivial
def E1:Env:=⟨ty,QE cl,λ_=>none,none⟩
structure p0X where(nodes_lo nodes_len:Nat)(n a bb d:Int)(tris_lo tris_len:Nat)(i:Int)(nd:List ((Int)×(List (Int))×(Int)×Int))(xin dffs d0 d1:Int)(bus mem:Bool)(w0 w1 w2 w3:Int)(gates:List ((Int)×(Int)×(Int)×Int))(xouts:List (Int))(gk g0 g1 g2:Int)(tr:List (Int))
def p0:Pt p0X where
 own:=[.reg 11 (.int .i64)]
 t:=⟨[(2,.c (.sl 0 0 4)),(3,.c (.ptr 1 0)),(4,.c (.ptr 2 0)),(6,.c (.ptr 3 0)),(7,.c (.it .i64)),(8,.c (.it .i64)),(9,.c (.it .i64)),(10,.c (.it .i64)),(11,.c (.sl 4 0 1)),(12,.c (.it .i64))],[.arr (.pair (.int .u8) (.pair (.sl (.int .i64)) (.pair (.int .i64) (.int .i64)))) 0,.st [.it .u8,.it .u8,.it .u8,.it .u8,.bo,.bo,.it .u8,.it .u8,.it .u8,.it .u8,.arr (.pair (.int .u8) (.pair (.int .u8) (.pair (.int .u8) (.int .u8)))),.arr (.int .u8)] 1 0,.st [.it .u8,.it .u8,.it .u8,.it .u8] 1 0,.st [.junk,.junk,.junk,.junk] 1 0,.arr (.int .i64) 0]⟩
 to:=λv=>⟨v.1.1.1,v.1.1.2,v.1.2.2.2.2.1,v.1.2.2.2.2.2.1,v.1.2.2.2.2.2.2.1,v.1.2.2.2.2.2.2.2.1,v.1.2.2.2.2.2.2.2.2.1.1,v.1.2.2.2.2.2.2.2.2.1.2,v.1.2.2.2.2.2.2.2.2.2.1,v.2.1,v.2.2.1.1,v.2.2.1.2.1,v.2.2.1.2.2.1,v.2.2.1.2.2.2.1,v.2.2.1.2.2.2.2.1,v.2.2.1.2.2.2.2.2.1,v.2.2.1.2.2.2.2.2.2.1,v.2.2.1.2.2.2.2.2.2.2.1,v.2.2.1.2.2.2.2.2.2.2.2.1,v.2.2.1.2.2.2.2.2.2.2.2.2.1,v.2.2.1.2.2.2.2.2.2.2.2.2.2.1,v.2.2.1.2.2.2.2.2.2.2.2.2.2.2.1,v.2.2.2.1.1,v.2.2.2.1.2.1,v.2.2.2.1.2.2.1,v.2.2.2.1.2.2.2.1,v.2.2.2.2.2.1⟩
 fr:=λx=>(((x.nodes_lo,x.nodes_len),((),((),((),(x.n,(x.a,(x.bb,(x.d,((x.tris_lo,x.tris_len),(x.i,())))))))))),(x.nd,((x.xin,(x.dffs,(x.d0,(x.d1,(x.bus,(x.mem,(x.w0,(x.w1,(x.w2,(x.w3,(x.gates,(x.xouts,())))))))))))),((x.gk,(x.g0,(x.g1,(x.g2,())))),(((),((),((),((),())))),(x.tr,()))))))
structure q0X where(a bb d:Int)(tris:List (Int))(nd:List ((Int)×(List (Int))×(Int)×Int))(xin dffs d0 d1:Int)(bus mem:Bool)(w0 w1 w2 w3:Int)(gates:List ((Int)×(Int)×(Int)×Int))(xouts:List (Int))(gk g0 g1 g2:Int)
def q0:Pt q0X where
 own:=[]
 t:=⟨[(3,.c (.ptr 1 0)),(4,.c (.ptr 2 0)),(6,.c (.ptr 3 0)),(8,.c (.it .i64)),(9,.c (.it .i64)),(10,.c (.it .i64)),(11,.c (.arr (.int .i64)))],[.arr (.pair (.int .u8) (.pair (.sl (.int .i64)) (.pair (.int .i64) (.int .i64)))) 0,.st [.it .u8,.it .u8,.it .u8,.it .u8,.bo,.bo,.it .u8,.it .u8,.it .u8,.it .u8,.arr (.pair (.int .u8) (.pair (.int .u8) (.pair (.int .u8) (.int .u8)))),.arr (.int .u8)] 1 0,.st [.it .u8,.it .u8,.it .u8,.it .u8] 1 0,.st [.junk,.junk,.junk,.junk] 1 0]⟩
 to:=λv=>⟨v.1.2.2.2.1,v.1.2.2.2.2.1,v.1.2.2.2.2.2.1,v.1.2.2.2.2.2.2.1,v.2.1,v.2.2.1.1,v.2.2.1.2.1,v.2.2.1.2.2.1,v.2.2.1.2.2.2.1,v.2.2.1.2.2.2.2.1,v.2.2.1.2.2.2.2.2.1,v.2.2.1.2.2.2.2.2.2.1,v.2.2.1.2.2.2.2.2.2.2.1,v.2.2.1.2.2.2.2.2.2.2.2.1,v.2.2.1.2.2.2.2.2.2.2.2.2.1,v.2.2.1.2.2.2.2.2.2.2.2.2.2.1,v.2.2.1.2.2.2.2.2.2.2.2.2.2.2.1,v.2.2.2.1.1,v.2.2.2.1.2.1,v.2.2.2.1.2.2.1,v.2.2.2.1.2.2.2.1⟩
 fr:=λx=>(((),((),((),(x.a,(x.bb,(x.d,(x.tris,()))))))),(x.nd,((x.xin,(x.dffs,(x.d0,(x.d1,(x.bus,(x.mem,(x.w0,(x.w1,(x.w2,(x.w3,(x.gates,(x.xouts,())))))))))))),((x.gk,(x.g0,(x.g1,(x.g2,())))),(((),((),((),((),())))),())))))
def s0(x:p0X):Option (p0X⊕q0X):=bif decide (x.i<x.n) then bif inR x.i x.nodes_len then bif decide (x.nodes_lo+x.i.toNat<x.nd.length) then bif (x.nd[x.nodes_lo+x.i.toNat]?.getD (0,[],0,0)).1==12 then bif eqN x.tris_lo 0&&eqN x.tr.length x.tris_len&&QT (x.tris_len+1) 8 then some (Sum.inl ⟨x.nodes_lo,x.nodes_len,x.n,x.a,x.bb,x.d,0,x.tris_len+1,IntKind.i64.wrap (x.i+1),x.nd,x.xin,x.dffs,x.d0,x.d1,x.bus,x.mem,x.w0,x.w1,x.w2,x.w3,x.gates,x.xouts,x.gk,x.g0,x.g1,x.g2,x.tr++[x.i]⟩) else none else some (Sum.inl ⟨x.nodes_lo,x.nodes_len,x.n,x.a,x.bb,x.d,x.tris_lo,x.tris_len,IntKind.i64.wrap (x.i+1),x.nd,x.xin,x.dffs,x.d0,x.d1,x.bus,x.mem,x.w0,x.w1,x.w2,x.w3,x.gates,x.xouts,x.gk,x.g0,x.g1,x.g2,x.tr⟩) else none else none else bif leB (x.tris_lo+x.tris_len) x.tr.length&&true&&true then some (Sum.inr ⟨x.a,x.bb,x.d,List.take x.tris_len (List.drop x.tris_lo x.tr),x.nd,x.xin,x.dffs,x.d0,x.d1,x.bus,x.mem,x.w0,x.w1,x.w2,x.w3,x.gates,x.xouts,x.gk,x.g0,x.g1,x.g2⟩) else none
theorem s0_eq(x:p0X):exec E1 158 (C51.Q0 0) 1 (p0.R x) (p0.H x) (QP 1 p0 (.exit 0) q0)=s0 x:=by kernel_rfl
def l0:QJ:=QQ 1 p0 (.exit 0) q0 s0
theorem tl0:QA (C51.Q0 0) 1=[]:=by kernel_rfl
theorem l0_ok  :QF Tryz.prog 158 none 1 (C51.Q0 0) l0:=QG mixed (Q4 ty_ok cl_ok _) (by trivial) (λ_=>rfl) (λ_=>rfl) (tl0▸Q7.nil) s0_eq
def E0:Env:=⟨ty,QE cl,Qi [(0,l0)],none⟩
def m(x:gX):Option fY:=bif nz (↑x.nodes_len:Int) then bif nz (↑x.nodes_len:Int) then bif nz (↑x.nodes_len:Int) then bindO (iter s0 ⟨x.nodes_lo,x.nodes_len,(↑x.nodes_len:Int),(IntKind.i64.wrap x.g0).tmod (↑x.nodes_len:Int),(IntKind.i64.wrap x.g1).tmod (↑x.nodes_len:Int),(IntKind.i64.wrap x.g2).tmod (↑x.nodes_len:Int),0,0,0,x.nd,x.xin,x.dffs,x.d0,x.d1,x.bus,x.mem,x.w0,x.w1,x.w2,x.w3,x.gates,x.xouts,x.gk,x.g0,x.g1,x.g2,[]⟩) λy=>bif decide ((bif y.bus then IntKind.i64.wrap (y.gk.tmod 13) else IntKind.i64.wrap (y.gk.tmod 9))<6) then bif decide (y.gk>=128) then bif leB 3 ([y.a,y.bb]++[y.d]).length&&true&&true&&true then some (IntKind.u8.wrap (5+IntKind.u8.wrap (bif y.bus then IntKind.i64.wrap (y.gk.tmod 13) else IntKind.i64.wrap (y.gk.tmod 9))),List.take 3 (List.drop 0 ([y.a,y.bb]++[y.d])),0,0,y.nd) else none else some (IntKind.u8.wrap (5+IntKind.u8.wrap (bif y.bus then IntKind.i64.wrap (y.gk.tmod 13) else IntKind.i64.wrap (y.gk.tmod 9))),[y.a,y.bb],0,0,y.nd) else bif (bif y.bus then IntKind.i64.wrap (y.gk.tmod 13) else IntKind.i64.wrap (y.gk.tmod 9))==6 then some (4,[y.a],0,0,y.nd) else bif (bif y.bus then IntKind.i64.wrap (y.gk.tmod 13) else IntKind.i64.wrap (y.gk.tmod 9))==7 then some (11,[y.a,y.bb,y.d],0,0,y.nd) else bif bif (bif y.bus then IntKind.i64.wrap (y.gk.tmod 13) else IntKind.i64.wrap (y.gk.tmod 9))==9 then true else (bif y.bus then IntKind.i64.wrap (y.gk.tmod 13) else IntKind.i64.wrap (y.gk.tmod 9))==10 then some (12,[y.a,y.bb],0,0,y.nd) else bif bif decide ((bif y.bus then IntKind.i64.wrap (y.gk.tmod 13) else IntKind.i64.wrap (y.gk.tmod 9))>10) then decide ((↑y.tris.length:Int)>0) else false then bif nz (↑y.tris.length:Int) then bif inR ((IntKind.i64.wrap y.g0).tmod (↑y.tris.length:Int)) y.tris.length then bif decide ((↑y.tris.length:Int)>1) then bif nz (↑y.tris.length:Int) then bif inR ((IntKind.i64.wrap ((IntKind.i64.wrap y.g0).tmod (↑y.tris.length:Int)+1)).tmod (↑y.tris.length:Int)) y.tris.length then bif leB 2 ([y.tris[((IntKind.i64.wrap y.g0).tmod (↑y.tris.length:Int)).toNat]?.getD 0]++[y.tris[((IntKind.i64.wrap ((IntKind.i64.wrap y.g0).tmod (↑y.tris.length:Int)+1)).tmod (↑y.tris.length:Int)).toNat]?.getD 0]).length&&true&&true&&true then some (13,List.take 2 (List.drop 0 ([y.tris[((IntKind.i64.wrap y.g0).tmod (↑y.tris.length:Int)).toNat]?.getD 0]++[y.tris[((IntKind.i64.wrap ((IntKind.i64.wrap y.g0).tmod (↑y.tris.length:Int)+1)).tmod (↑y.tris.length:Int)).toNat]?.getD 0])),0,0,y.nd) else none else none else none else some (13,[y.tris[((IntKind.i64.wrap y.g0).tmod (↑y.tris.length:Int)).toNat]?.getD 0],0,0,y.nd) else none else none else bif decide (y.gk>240) then some (IntKind.u8.wrap (1+y.g0.tmod 2),[],0,0,y.nd) else some (3,[y.a],0,0,y.nd) else none else none else none
theorem m_eq(x:gX):exec E0 158 C51 0 (QD 0 (g.A x)) (g.H x) (finish 1 ty [.cell 6 124] f)=m x:=by kernel_rfl
theorem tl:QA C51 0=[(0,C51.Q0 0)]:=by kernel_rfl
theorem known:QB Tryz.prog 51 g f m:=
 Q5 mixed (Q4 ty_ok cl_ok _) s51 rfl rfl tl (Q7.cons rfl l0_ok Q7.nil) (λ_ _=>⟨rfl,rfl⟩) (λ_ _=>⟨rfl,rfl⟩) m_eq
theorem k0{z:p0X}{y:q0X}(h:iter s0 z=some y):y.nd=z.nd:=by
 refine Jy (λu=>u.nd=z.nd) (λr=>r.nd=z.nd) (λu r hu hr=> ?_) rfl h;unfold s0 at hr;rcases cond_some hr with ⟨_,hr⟩|⟨_,hr⟩
 ·rcases cond_some hr with ⟨_,hr⟩|⟨_,hr⟩
  ·rcases cond_some hr with ⟨_,hr⟩|⟨_,hr⟩
   ·rcases cond_some hr with ⟨_,hr⟩|⟨_,hr⟩
    ·rcases cond_some hr with ⟨_,hr⟩|⟨_,hr⟩
     ·cases hr;exact hu
     ·cases hr
    ·cases hr;exact hu
   ·cases hr
  ·cases hr
 ·rcases cond_some hr with ⟨_,hr⟩|⟨_,hr⟩
  ·cases hr;exact hu
  ·cases hr
theorem condK{α:Type}{Q:α->Prop}{b:Bool}{p q:Option α}(hp:∀r,p=some r->Q r)(hq:∀r,q=some r->Q r):∀r,(bif b then p else q)=some r->Q r:=by
 intro r h;cases b
 ·exact hq r h
 ·exact hp r h
theorem bindK{α β:Type}{Q:β->Prop}{o:Option α}{k:α->Option β}(h:∀y,o=some y->∀r,k y=some r->Q r):∀r,bindO o k=some r->Q r:=by intro r hr;obtain⟨y,h1,h2⟩:=QK hr;exact h y h1 r h2
theorem hm{x:gX}:∀y,m x=some y->y.2.2.2.2=x.nd:=by
 unfold m;refine condK (condK (condK (bindK λy hy=> ?_) ?_) ?_) ?_
 ·have e:=k0 hy;have e:y.nd=x.nd:=e;rw[<-e]
  repeat' (first|(intro r h;cases h;done)|(intro r h;cases h;exact rfl)|refine condK ?_ ?_)
 all_goals (intro r h;cases h)
theorem hh{x:gX}{y:fY}(h:m x=some y):f.H y=g.H x:=by have e:=hm y h;show [SO.arr (.pair (.int .u8) (.pair (.sl (.int .i64)) (.pair (.int .i64) (.int .i64)))) y.2.2.2.2 0]=[SO.arr (.pair (.int .u8) (.pair (.sl (.int .i64)) (.pair (.int .i64) (.int .i64)))) x.nd 0];rw[e]
def con:Con:=ZR g [.arg 2 0] f m default
theorem con_ok:QC Tryz.prog 51 con:=J4 known (λ_=>rfl) (λ_ _ h=>by exact hh h)
end M51
end Go.Proofs.YtpbplpgfloaaiaaGreatDoor
namespace Go.Proofs.YtpbplpgfloaaiaaGreatDoor
open Go.Abs
namespace M128
structure gX where(v model lnode lpin value other:Int)
def g:Sg gX:=⟨[.c (.it .u8),.c (.ptr 0 0)],[.st [.it .u8,.it .i64,.it .i64,.it .u8,.it .i64] 1 0],λa b=>⟨a.1,b.1.1,b.1.2.1,b.1.2.2.1,b.1.2.2.2.1,b.1.2.2.2.2.1⟩,λx=>(x.v,((),())),λx=>((x.model,(x.lnode,(x.lpin,(x.value,(x.other,()))))),())⟩
abbrev fY:=Int×Int×Int×Int×Int×Int
def f:Ft fY:=⟨none,.c (.it .u8),[.st [.it .u8,.it .i64,.it .i64,.it .u8,.it .i64] 1 0],λa b=>(a,b.1.1,b.1.2.1,b.1.2.2.1,b.1.2.2.2.1,b.1.2.2.2.2.1),λy=>y.1,λy=>((y.2.1,(y.2.2.1,(y.2.2.2.1,(y.2.2.2.2.1,(y.2.2.2.2.2,()))))),())⟩
def cl:List (FuncId×Con):=[]
theorem cl_ok:Q8 Tryz.prog cl:=trivial
def E0:Env:=⟨ty,QE cl,λ_=>none,none⟩
def m(x:gX):Option fY:=some (x.value,x.model,x.lnode,x.lpin,x.value,x.other)
theorem m_eq(x:gX):exec E0 6 C128 0 (QD 0 (g.A x)) (g.H x) (finish 1 ty [.tmp 3] f)=m x:=by kernel_rfl
theorem tl:QA C128 0=[]:=by kernel_rfl
theorem known:QB Tryz.prog 128 g f m:=
 Q5 mixed (Q4 ty_ok cl_ok _) s128 rfl rfl tl Q7.nil (λ_ _=>⟨rfl,rfl⟩) (λ_ _=>⟨rfl,rfl⟩) m_eq
def con:Con:=ZR g [.arg 1 0] f m default
theorem con_ok:QC Tryz.prog 128 con:=J4 known (λ_=>rfl) (λ_ _ h=>by unfold m at h;cases h;rfl)
end M128
namespace M151
structure gX where(n v ln lp model lnode lpin value other:Int)
def g:Sg gX:=⟨[.c (.it .i64),.c (.it .u8),.c (.ptr 0 0),.c (.ptr 1 0)],[.st [.it .i64,.it .i64] 1 0,.st [.clo 128 [⟨2,0,0⟩]] 1 0,.st [.it .u8,.it .i64,.it .i64,.it .u8,.it .i64] 1 0],λa b=>⟨a.1,a.2.1,b.1.1,b.1.2.1,b.2.2.1.1,b.2.2.1.2.1,b.2.2.1.2.2.1,b.2.2.1.2.2.2.1,b.2.2.1.2.2.2.2.1⟩,λx=>(x.n,(x.v,((),((),())))),λx=>((x.ln,(x.lp,())),(((),()),((x.model,(x.lnode,(x.lpin,(x.value,(x.other,()))))),())))⟩
abbrev fY:=Int×Int×Int×Int×Int×Int×Int×Int
def f:Ft fY:=⟨none,.c (.it .u8),[.st [.it .i64,.it .i64] 1 0,.st [.clo 128 [⟨2,0,0⟩]] 1 0,.st [.it .u8,.it .i64,.it .i64,.it .u8,.it .i64] 1 0],λa b=>(a,b.1.1,b.1.2.1,b.2.2.1.1,b.2.2.1.2.1,b.2.2.1.2.2.1,b.2.2.1.2.2.2.1,b.2.2.1.2.2.2.2.1),λy=>y.1,λy=>((y.2.1,(y.2.2.1,())),(((),()),((y.2.2.2.1,(y.2.2.2.2.1,(y.2.2.2.2.2.1,(y.2.2.2.2.2.2.1,(y.2.2.2.2.2.2.2,()))))),())))⟩
def cl:List (FuncId×Con):=[(128,M128.con)]
theorem cl_ok:Q8 Tryz.prog cl:=⟨M128.con_ok,trivial⟩
def E0:Env:=⟨ty,QE cl,λ_=>none,none⟩
def m(x:gX):Option fY:=bif x.n==x.ln then bindO (M128.m ⟨x.v,x.model,x.lnode,x.lpin,x.value,x.other⟩) λy=>some (y.1,x.ln,x.lp,x.model,x.lnode,x.lpin,x.value,x.other) else some (x.v,x.ln,x.lp,x.model,x.lnode,x.lpin,x.value,x.other)
theorem m_eq(x:gX):exec E0 15 C151 0 (QD 0 (g.A x)) (g.H x) (finish 3 ty [.tmp 6] f)=m x:=by kernel_rfl
theorem tl:QA C151 0=[]:=by kernel_rfl
theorem known:QB Tryz.prog 151 g f m:=
 Q5 mixed (Q4 ty_ok cl_ok _) s151 rfl rfl tl Q7.nil (λ_ _=>⟨rfl,rfl⟩) (λ_ _=>⟨rfl,rfl⟩) m_eq
theorem hh{x:gX}{y:fY}(h:m x=some y):f.H y=g.H x:=by
 unfold m at h;rcases cond_some h with ⟨_,h⟩|⟨_,h⟩
 ·obtain⟨_,_,h⟩:=QK h;cases h;rfl
 ·cases h;rfl
def con:Con:=ZR g [.arg 2 0,.arg 3 0,.cell 1 0] f m default
theorem con_ok:QC Tryz.prog 151 con:=J4 known (λ_=>rfl) (λ_ _ h=>by exact hh h)
end M151
namespace M152
structure gX where(n pin v ln lp model lnode lpin value other:Int)
def g:Sg gX:=⟨[.c (.it .i64),.c (.it .i64),.c (.it .u8),.c (.ptr 0 0),.c (.ptr 1 0)],[.st [.it .i64,.it .i64] 1 0,.st [.clo 128 [⟨2,0,0⟩]] 1 0,.st [.it .u8,.it .i64,.it .i64,.it .u8,.it .i64] 1 0],λa b=>⟨a.1,a.2.1,a.2.2.1,b.1.1,b.1.2.1,b.2.2.1.1,b.2.2.1.2.1,b.2.2.1.2.2.1,b.2.2.1.2.2.2.1,b.2.2.1.2.2.2.2.1⟩,λx=>(x.n,(x.pin,(x.v,((),((),()))))),λx=>((x.ln,(x.lp,())),(((),()),((x.model,(x.lnode,(x.lpin,(x.value,(x.other,()))))),())))⟩
abbrev fY:=Int×Int×Int×Int×Int×Int×Int×Int
def f:Ft fY:=⟨none,.c (.it .u8),[.st [.it .i64,.it .i64] 1 0,.st [.clo 128 [⟨2,0,0⟩]] 1 0,.st [.it .u8,.it .i64,.it .i64,.it .u8,.it .i64] 1 0],λa b=>(a,b.1.1,b.1.2.1,b.2.2.1.1,b.2.2.1.2.1,b.2.2.1.2.2.1,b.2.2.1.2.2.2.1,b.2.2.1.2.2.2.2.1),λy=>y.1,λy=>((y.2.1,(y.2.2.1,())),(((),()),((y.2.2.2.1,(y.2.2.2.2.1,(y.2.2.2.2.2.1,(y.2.2.2.2.2.2.1,(y.2.2.2.2.2.2.2,()))))),())))⟩
def cl:List (FuncId×Con):=[(128,M128.con)]
theorem cl_ok:Q8 Tryz.prog cl:=⟨M128.con_ok,trivial⟩
def E0:Env:=⟨ty,QE cl,λ_=>none,none⟩
def m(x:gX):Option fY:=bif bif x.n==x.ln then x.pin==x.lp else false then bindO (M128.m ⟨x.v,x.model,x.lnode,x.lpin,x.value,x.other⟩) λy=>some (y.1,x.ln,x.lp,x.model,x.lnode,x.lpin,x.value,x.other) else some (x.v,x.ln,x.lp,x.model,x.lnode,x.lpin,x.value,x.other)
theorem m_eq(x:gX):exec E0 23 C152 0 (QD 0 (g.A x)) (g.H x) (finish 3 ty [.tmp 8] f)=m x:=by kernel_rfl
theorem tl:QA C152 0=[]:=by kernel_rfl
theorem known:QB Tryz.prog 152 g f m:=
 Q5 mixed (Q4 ty_ok cl_ok _) s152 rfl rfl tl Q7.nil (λ_ _=>⟨rfl,rfl⟩) (λ_ _=>⟨rfl,rfl⟩) m_eq
theorem hh{x:gX}{y:fY}(h:m x=some y):f.H y=g.H x:=by
 unfold m at h;rcases cond_some h with ⟨_,h⟩|⟨_,h⟩
 ·obtain⟨_,_,h⟩:=QK h;cases h;rfl
 ·cases h;rfl
def con:Con:=ZR g [.arg 3 0,.arg 4 0,.cell 1 0] f m default
theorem con_ok:QC Tryz.prog 152 con:=J4 known (λ_=>rfl) (λ_ _ h=>by exact hh h)
end M152
namespace M124
structure gX where(a b v:Int)
def g:Sg gX:=⟨[.c (.it .i64),.c (.it .i64),.c (.it .u8)],[],λa b=>⟨a.1,a.2.1,a.2.2.1⟩,λx=>(x.a,(x.b,(x.v,()))),λx=>()⟩
abbrev fY:=Int
def f:Ft fY:=⟨none,.c (.it .u8),[],λa b=>(a),λy=>y,λy=>()⟩
def cl:List (FuncId×Con):=[]
theorem cl_ok:Q8 Tryz.prog cl:=trivial
def E0:Env:=⟨ty,QE cl,λ_=>none,none⟩
def m(x:gX):Option fY:=some x.v
theorem m_eq(x:gX):exec E0 8 C124 0 (QD 0 (g.A x)) (g.H x) (finish 0 ty [.tmp 6] f)=m x:=by kernel_rfl
theorem tl:QA C124 0=[]:=by kernel_rfl
theorem known:QB Tryz.prog 124 g f m:=
 Q5 mixed (Q4 ty_ok cl_ok _) s124 rfl rfl tl Q7.nil (λ_ _=>⟨rfl,rfl⟩) (λ_ _=>⟨rfl,rfl⟩) m_eq
def con:Con:=Qa g f m default
theorem con_ok:QC Tryz.prog 124 con:=Q9 known (λ_=>rfl) rfl
end M124
namespace M150
structure gX where(a v:Int)
def g:Sg gX:=⟨[.c (.it .i64),.c (.it .u8)],[],λa b=>⟨a.1,a.2.1⟩,λx=>(x.a,(x.v,())),λx=>()⟩
abbrev fY:=Int
def f:Ft fY:=⟨none,.c (.it .u8),[],λa b=>(a),λy=>y,λy=>()⟩
def cl:List (FuncId×Con):=[]
theorem cl_ok:Q8 Tryz.prog cl:=trivial
def E0:Env:=⟨ty,QE cl,λ_=>none,none⟩
def m(x:gX):Option fY:=some x.v
theorem m_eq(x:gX):exec E0 6 C150 0 (QD 0 (g.A x)) (g.H x) (finish 0 ty [.tmp 4] f)=m x:=by kernel_rfl
theorem tl:QA C150 0=[]:=by kernel_rfl
theorem known:QB Tryz.prog 150 g f m:=
 Q5 mixed (Q4 ty_ok cl_ok _) s150 rfl rfl tl Q7.nil (λ_ _=>⟨rfl,rfl⟩) (λ_ _=>⟨rfl,rfl⟩) m_eq
def con:Con:=Qa g f m default
theorem con_ok:QC Tryz.prog 150 con:=Q9 known (λ_=>rfl) rfl
end M150
namespace M126a
structure gX where(nodes:List ((Int)×(List (Int))×(Int)×Int))(names:List (List UInt8))(mems:List ((List (Int))×(List (Int))×Int))(outs:List (Int))(ln lp model lnode lpin value other:Int)
def g:Sg gX:=⟨[.agg [.arr (.pair (.int .u8) (.pair (.sl (.int .i64)) (.pair (.int .i64) (.int .i64)))),.arr .str,.arr (.pair (.sl (.int .i64)) (.pair (.sl (.int .i64)) (.int .i64))),.arr (.int .i64)],.agg [.it .i64,.it .i64],.c (.clo 128 [⟨0,0,0⟩])],[.st [.it .u8,.it .i64,.it .i64,.it .u8,.it .i64] 1 0],λa b=>⟨a.1.1,a.1.2.1,a.1.2.2.1,a.1.2.2.2.1,a.2.1.1,a.2.1.2.1,b.1.1,b.1.2.1,b.1.2.2.1,b.1.2.2.2.1,b.1.2.2.2.2.1⟩,λx=>((x.nodes,(x.names,(x.mems,(x.outs,())))),((x.ln,(x.lp,())),((),()))),λx=>((x.model,(x.lnode,(x.lpin,(x.value,(x.other,()))))),())⟩
abbrev fY:=Int×Int×Int×Int×Int×Int×Int×(List ((Int)×(List (Int))×(Int)×Int))×List (List UInt8)×(List ((List (Int))×(List (Int))×Int))×List (Int)
def f:Ft fY:=⟨some [0,2,3,4,1],.c (.ptr 3 0),[.st [.it .u8,.it .i64,.it .i64,.it .u8,.it .i64] 1 0,.st [.it .i64,.it .i64] 1 0,.st [.clo 128 [⟨0,0,0⟩]] 1 0,.st [.arr (.pair (.int .u8) (.pair (.sl (.int .i64)) (.pair (.int .i64) (.int .i64)))),.arr .str,.arr (.pair (.sl (.int .i64)) (.pair (.sl (.int .i64)) (.int .i64))),.arr (.int .i64),.nils,.clo 151 [⟨1,0,0⟩,⟨2,0,0⟩],.fn 124] 1 0],λa b=>(b.1.1,b.1.2.1,b.1.2.2.1,b.1.2.2.2.1,b.1.2.2.2.2.1,b.2.1.1,b.2.1.2.1,b.2.2.2.1.1,b.2.2.2.1.2.1,b.2.2.2.1.2.2.1,b.2.2.2.1.2.2.2.1),λy=>(),λy=>((y.1,(y.2.1,(y.2.2.1,(y.2.2.2.1,(y.2.2.2.2.1,()))))),((y.2.2.2.2.2.1,(y.2.2.2.2.2.2.1,())),(((),()),((y.2.2.2.2.2.2.2.1,(y.2.2.2.2.2.2.2.2.1,(y.2.2.2.2.2.2.2.2.2.1,(y.2.2.2.2.2.2.2.2.2.2,((),((),((),()))))))),()))))⟩
def cl:List (FuncId×Con):=[]
theorem cl_ok:Q8 Tryz.prog cl:=trivial
def E0:Env:=⟨ty,QE cl,λ_=>none,none⟩
def m(x:gX):Option fY:=bif decide (x.lp<0) then some (x.model,x.lnode,x.lpin,x.value,x.other,x.ln,x.lp,x.nodes,x.names,x.mems,x.outs) else none
theorem m_eq(x:gX):exec E0 24 C126 0 (QD 0 (g.A x)) (g.H x) (finish 1 ty [.tmp 6] f)=m x:=by kernel_rfl
theorem tl:QA C126 0=[]:=by kernel_rfl
theorem known:QB Tryz.prog 126 g f m:=
 Q5 mixed (Q4 ty_ok cl_ok _) s126 rfl rfl tl Q7.nil (λ_ _=>⟨rfl,rfl⟩) (λ_ _=>⟨rfl,rfl⟩) m_eq
def con:Con:=Km g [.arg 2 0] f m default
theorem con_ok:QC Tryz.prog 126 con:=Jn known
end M126a
namespace M126b
structure gX where(nodes:List ((Int)×(List (Int))×(Int)×Int))(names:List (List UInt8))(mems:List ((List (Int))×(List (Int))×Int))(outs:List (Int))(ln lp model lnode lpin value other:Int)
def g:Sg gX:=⟨[.agg [.arr (.pair (.int .u8) (.pair (.sl (.int .i64)) (.pair (.int .i64) (.int .i64)))),.arr .str,.arr (.pair (.sl (.int .i64)) (.pair (.sl (.int .i64)) (.int .i64))),.arr (.int .i64)],.agg [.it .i64,.it .i64],.c (.clo 128 [⟨0,0,0⟩])],[.st [.it .u8,.it .i64,.it .i64,.it .u8,.it .i64] 1 0],λa b=>⟨a.1.1,a.1.2.1,a.1.2.2.1,a.1.2.2.2.1,a.2.1.1,a.2.1.2.1,b.1.1,b.1.2.1,b.1.2.2.1,b.1.2.2.2.1,b.1.2.2.2.2.1⟩,λx=>((x.nodes,(x.names,(x.mems,(x.outs,())))),((x.ln,(x.lp,())),((),()))),λx=>((x.model,(x.lnode,(x.lpin,(x.value,(x.other,()))))),())⟩
abbrev fY:=Int×Int×Int×Int×Int×Int×Int×(List ((Int)×(List (Int))×(Int)×Int))×List (List UInt8)×(List ((List (Int))×(List (Int))×Int))×List (Int)
def f:Ft fY:=⟨some [0,2,3,4,1],.c (.ptr 3 0),[.st [.it .u8,.it .i64,.it .i64,.it .u8,.it .i64] 1 0,.st [.it .i64,.it .i64] 1 0,.st [.clo 128 [⟨0,0,0⟩]] 1 0,.st [.arr (.pair (.int .u8) (.pair (.sl (.int .i64)) (.pair (.int .i64) (.int .i64)))),.arr .str,.arr (.pair (.sl (.int .i64)) (.pair (.sl (.int .i64)) (.int .i64))),.arr (.int .i64),.nils,.fn 150,.clo 152 [⟨1,0,0⟩,⟨2,0,0⟩]] 1 0],λa b=>(b.1.1,b.1.2.1,b.1.2.2.1,b.1.2.2.2.1,b.1.2.2.2.2.1,b.2.1.1,b.2.1.2.1,b.2.2.2.1.1,b.2.2.2.1.2.1,b.2.2.2.1.2.2.1,b.2.2.2.1.2.2.2.1),λy=>(),λy=>((y.1,(y.2.1,(y.2.2.1,(y.2.2.2.1,(y.2.2.2.2.1,()))))),((y.2.2.2.2.2.1,(y.2.2.2.2.2.2.1,())),(((),()),((y.2.2.2.2.2.2.2.1,(y.2.2.2.2.2.2.2.2.1,(y.2.2.2.2.2.2.2.2.2.1,(y.2.2.2.2.2.2.2.2.2.2,((),((),((),()))))))),()))))⟩
def cl:List (FuncId×Con):=[]
theorem cl_ok:Q8 Tryz.prog cl:=trivial
def E0:Env:=⟨ty,QE cl,λ_=>none,none⟩
def m(x:gX):Option fY:=bif decide (x.lp<0) then none else some (x.model,x.lnode,x.lpin,x.value,x.other,x.ln,x.lp,x.nodes,x.names,x.mems,x.outs)
theorem m_eq(x:gX):exec E0 24 C126 0 (QD 0 (g.A x)) (g.H x) (finish 1 ty [.tmp 6] f)=m x:=by kernel_rfl
theorem tl:QA C126 0=[]:=by kernel_rfl
theorem known:QB Tryz.prog 126 g f m:=
 Q5 mixed (Q4 ty_ok cl_ok _) s126 rfl rfl tl Q7.nil (λ_ _=>⟨rfl,rfl⟩) (λ_ _=>⟨rfl,rfl⟩) m_eq
def con:Con:=Km g [.arg 2 0] f m default
theorem con_ok:QC Tryz.prog 126 con:=Jn known
end M126b
namespace M89a
structure gX where(nodes:List ((Int)×(List (Int))×(Int)×Int))(names:List (List UInt8))(mems:List ((List (Int))×(List (Int))×Int))(outs:List (Int))(model lnode lpin value other:Int)(good:List (Int))
def g:Sg gX:=⟨[.agg [.arr (.pair (.int .u8) (.pair (.sl (.int .i64)) (.pair (.int .i64) (.int .i64)))),.arr .str,.arr (.pair (.sl (.int .i64)) (.pair (.sl (.int .i64)) (.int .i64))),.arr (.int .i64)],.agg [.it .u8,.it .i64,.it .i64,.it .u8,.it .i64],.c (.arr (.int .u8))],[],λa b=>⟨a.1.1,a.1.2.1,a.1.2.2.1,a.1.2.2.2.1,a.2.1.1,a.2.1.2.1,a.2.1.2.2.1,a.2.1.2.2.2.1,a.2.1.2.2.2.2.1,a.2.2.1⟩,λx=>((x.nodes,(x.names,(x.mems,(x.outs,())))),((x.model,(x.lnode,(x.lpin,(x.value,(x.other,()))))),(x.good,()))),λx=>()⟩
abbrev fY:=Int×Int×Int×Int×Int×Int×Int×(List ((Int)×(List (Int))×(Int)×Int))×List (List UInt8)×(List ((List (Int))×(List (Int))×Int))×List (Int)
def f:Ft fY:=⟨some [1,5,6,7,0,2,3,4],.c (.ptr 3 0),[.st [.it .u8,.it .i64,.it .i64,.it .u8,.it .i64] 1 0,.st [.it .i64,.it .i64] 1 0,.st [.clo 128 [⟨0,0,0⟩]] 1 0,.st [.arr (.pair (.int .u8) (.pair (.sl (.int .i64)) (.pair (.int .i64) (.int .i64)))),.arr .str,.arr (.pair (.sl (.int .i64)) (.pair (.sl (.int .i64)) (.int .i64))),.arr (.int .i64),.nils,.clo 151 [⟨1,0,0⟩,⟨2,0,0⟩],.fn 124] 1 0],λa b=>(b.1.1,b.1.2.1,b.1.2.2.1,b.1.2.2.2.1,b.1.2.2.2.2.1,b.2.1.1,b.2.1.2.1,b.2.2.2.1.1,b.2.2.2.1.2.1,b.2.2.2.1.2.2.1,b.2.2.2.1.2.2.2.1),λy=>(),λy=>((y.1,(y.2.1,(y.2.2.1,(y.2.2.2.1,(y.2.2.2.2.1,()))))),((y.2.2.2.2.2.1,(y.2.2.2.2.2.2.1,())),(((),()),((y.2.2.2.2.2.2.2.1,(y.2.2.2.2.2.2.2.2.1,(y.2.2.2.2.2.2.2.2.2.1,(y.2.2.2.2.2.2.2.2.2.2,((),((),((),()))))))),()))))⟩
def cl:List (FuncId×Con):=[(126,M126a.con)]
theorem cl_ok:Q8 Tryz.prog cl:=⟨M126a.con_ok,trivial⟩
def E0:Env:=⟨ty,QE cl,λ_=>none,none⟩
def m(x:gX):Option fY:=bif x.model==2 then none else bif x.model==3 then none else bindO (M126a.m ⟨x.nodes,x.names,x.mems,x.outs,x.lnode,x.lpin,x.model,x.lnode,x.lpin,x.value,x.other⟩) λy=>some (y.1,y.2.1,y.2.2.1,y.2.2.2.1,y.2.2.2.2.1,y.2.2.2.2.2.1,y.2.2.2.2.2.2.1,y.2.2.2.2.2.2.2.1, y.2.2.2.2.2.2.2.2.1,y.2.2.2.2.2.2.2.2.2.1,y.2.2.2.2.2.2.2.2.2.2)
theorem m_eq(x:gX):exec E0 47 C89 0 (QD 0 (g.A x)) (g.H x) (finish 0 ty [.tmp 6] f)=m x:=by kernel_rfl
theorem tl:QA C89 0=[]:=by kernel_rfl
theorem known:QB Tryz.prog 89 g f m:=
 Q5 mixed (Q4 ty_ok cl_ok _) s89 rfl rfl tl Q7.nil (λ_ _=>⟨rfl,rfl⟩) (λ_ _=>⟨rfl,rfl⟩) m_eq
def con:Con:=Km g [] f m default
theorem con_ok:QC Tryz.prog 89 con:=Jn known
end M89a
namespace M89b
structure gX where(nodes:List ((Int)×(List (Int))×(Int)×Int))(names:List (List UInt8))(mems:List ((List (Int))×(List (Int))×Int))(outs:List (Int))(model lnode lpin value other:Int)(good:List (Int))
def g:Sg gX:=⟨[.agg [.arr (.pair (.int .u8) (.pair (.sl (.int .i64)) (.pair (.int .i64) (.int .i64)))),.arr .str,.arr (.pair (.sl (.int .i64)) (.pair (.sl (.int .i64)) (.int .i64))),.arr (.int .i64)],.agg [.it .u8,.it .i64,.it .i64,.it .u8,.it .i64],.c (.arr (.int .u8))],[],λa b=>⟨a.1.1,a.1.2.1,a.1.2.2.1,a.1.2.2.2.1,a.2.1.1,a.2.1.2.1,a.2.1.2.2.1,a.2.1.2.2.2.1,a.2.1.2.2.2.2.1,a.2.2.1⟩,λx=>((x.nodes,(x.names,(x.mems,(x.outs,())))),((x.model,(x.lnode,(x.lpin,(x.value,(x.other,()))))),(x.good,()))),λx=>()⟩
abbrev fY:=Int×Int×Int×Int×Int×Int×Int×(List ((Int)×(List (Int))×(Int)×Int))×List (List UInt8)×(List ((List (Int))×(List (Int))×Int))×List (Int)
def f:Ft fY:=⟨some [1,5,6,7,0,2,3,4],.c (.ptr 3 0),[.st [.it .u8,.it .i64,.it .i64,.it .u8,.it .i64] 1 0,.st [.it .i64,.it .i64] 1 0,.st [.clo 128 [⟨0,0,0⟩]] 1 0,.st [.arr (.pair (.int .u8) (.pair (.sl (.int .i64)) (.pair (.int .i64) (.int .i64)))),.arr .str,.arr (.pair (.sl (.int .i64)) (.pair (.sl (.int .i64)) (.int .i64))),.arr (.int .i64),.nils,.fn 150,.clo 152 [⟨1,0,0⟩,⟨2,0,0⟩]] 1 0],λa b=>(b.1.1,b.1.2.1,b.1.2.2.1,b.1.2.2.2.1,b.1.2.2.2.2.1,b.2.1.1,b.2.1.2.1,b.2.2.2.1.1,b.2.2.2.1.2.1,b.2.2.2.1.2.2.1,b.2.2.2.1.2.2.2.1),λy=>(),λy=>((y.1,(y.2.1,(y.2.2.1,(y.2.2.2.1,(y.2.2.2.2.1,()))))),((y.2.2.2.2.2.1,(y.2.2.2.2.2.2.1,())),(((),()),((y.2.2.2.2.2.2.2.1,(y.2.2.2.2.2.2.2.2.1,(y.2.2.2.2.2.2.2.2.2.1,(y.2.2.2.2.2.2.2.2.2.2,((),((),((),()))))))),()))))⟩
def cl:List (FuncId×Con):=[(126,M126b.con)]
theorem cl_ok:Q8 Tryz.prog cl:=⟨M126b.con_ok,trivial⟩
def E0:Env:=⟨ty,QE cl,λ_=>none,none⟩
def m(x:gX):Option fY:=bif x.model==2 then none else bif x.model==3 then none else bindO (M126b.m ⟨x.nodes,x.names,x.mems,x.outs,x.lnode,x.lpin,x.model,x.lnode,x.lpin,x.value,x.other⟩) λy=>some (y.1,y.2.1,y.2.2.1,y.2.2.2.1,y.2.2.2.2.1,y.2.2.2.2.2.1,y.2.2.2.2.2.2.1,y.2.2.2.2.2.2.2.1, y.2.2.2.2.2.2.2.2.1,y.2.2.2.2.2.2.2.2.2.1,y.2.2.2.2.2.2.2.2.2.2)
theorem m_eq(x:gX):exec E0 47 C89 0 (QD 0 (g.A x)) (g.H x) (finish 0 ty [.tmp 6] f)=m x:=by kernel_rfl
theorem tl:QA C89 0=[]:=by kernel_rfl
theorem known:QB Tryz.prog 89 g f m:=
 Q5 mixed (Q4 ty_ok cl_ok _) s89 rfl rfl tl Q7.nil (λ_ _=>⟨rfl,rfl⟩) (λ_ _=>⟨rfl,rfl⟩) m_eq
def con:Con:=Km g [] f m default
theorem con_ok:QC Tryz.prog 89 con:=Jn known
end M89b
end Go.Proofs.YtpbplpgfloaaiaaGreatDoor
namespace Go.Proofs.YtpbplpgfloaaiaaGreatDoor
open Go.Abs
namespace M130a
structure gX where(n:Int)(nodes:List ((Int)×(List (Int))×(Int)×Int))(names:List (List UInt8))(mems:List ((List (Int))×(List (Int))×Int))(outs:List (Int))(nets_lo nets_len nets_cap:Nat)(ln lp model lnode lpin value other:Int)(xs:List (Int))
def g:Sg gX:=⟨[.c (.ptr 0 0),.c (.it .i64)],[.st [.arr (.pair (.int .u8) (.pair (.sl (.int .i64)) (.pair (.int .i64) (.int .i64)))),.arr .str,.arr (.pair (.sl (.int .i64)) (.pair (.sl (.int .i64)) (.int .i64))),.arr (.int .i64),.slc 4 0 1,.clo 151 [⟨1,0,0⟩,⟨2,0,0⟩],.fn 124] 1 0,.st [.it .i64,.it .i64] 1 0,.st [.clo 128 [⟨3,0,0⟩]] 1 0,.st [.it .u8,.it .i64,.it .i64,.it .u8,.it .i64] 1 0,.arr (.int .u8) 0],λa b=>⟨a.2.1,b.1.1,b.1.2.1,b.1.2.2.1,b.1.2.2.2.1,b.1.2.2.2.2.1.1,b.1.2.2.2.2.1.2.1,b.1.2.2.2.2.1.2.2,b.2.1.1,b.2.1.2.1,b.2.2.2.1.1,b.2.2.2.1.2.1,b.2.2.2.1.2.2.1,b.2.2.2.1.2.2.2.1,b.2.2.2.1.2.2.2.2.1,b.2.2.2.2.1⟩,λx=>((),(x.n,())),λx=>((x.nodes,(x.names,(x.mems,(x.outs,((x.nets_lo,x.nets_len,x.nets_cap),((),((),()))))))),((x.ln,(x.lp,())),(((),()),((x.model,(x.lnode,(x.lpin,(x.value,(x.other,()))))),(x.xs,())))))⟩
abbrev fY:=List (Int)×(List ((Int)×(List (Int))×(Int)×Int))×List (List UInt8)×(List ((List (Int))×(List (Int))×Int))×List (Int)×Nat×Nat×Nat×Int×Int×Int×Int×Int×Int×Int×List (Int)
def f:Ft fY:=⟨none,.c (.arr (.int .u8)),[.st [.arr (.pair (.int .u8) (.pair (.sl (.int .i64)) (.pair (.int .i64) (.int .i64)))),.arr .str,.arr (.pair (.sl (.int .i64)) (.pair (.sl (.int .i64)) (.int .i64))),.arr (.int .i64),.slc 4 0 1,.clo 151 [⟨1,0,0⟩,⟨2,0,0⟩],.fn 124] 1 0,.st [.it .i64,.it .i64] 1 0,.st [.clo 128 [⟨3,0,0⟩]] 1 0,.st [.it .u8,.it .i64,.it .i64,.it .u8,.it .i64] 1 0,.arr (.int .u8) 0],λa b=>(a,b.1.1,b.1.2.1,b.1.2.2.1,b.1.2.2.2.1,b.1.2.2.2.2.1.1,b.1.2.2.2.2.1.2.1,b.1.2.2.2.2.1.2.2,b.2.1.1,b.2.1.2.1,b.2.2.2.1.1,b.2.2.2.1.2.1,b.2.2.2.1.2.2.1,b.2.2.2.1.2.2.2.1,b.2.2.2.1.2.2.2.2.1,b.2.2.2.2.1),λy=>y.1,λy=>((y.2.1,(y.2.2.1,(y.2.2.2.1,(y.2.2.2.2.1,((y.2.2.2.2.2.1,y.2.2.2.2.2.2.1,y.2.2.2.2.2.2.2.1),((),((),()))))))),((y.2.2.2.2.2.2.2.2.1,(y.2.2.2.2.2.2.2.2.2.1,())),(((),()),((y.2.2.2.2.2.2.2.2.2.2.1,(y.2.2.2.2.2.2.2.2.2.2.2.1,(y.2.2.2.2.2.2.2.2.2.2.2.2.1,(y.2.2.2.2.2.2.2.2.2.2.2.2.2.1,(y.2.2.2.2.2.2.2.2.2.2.2.2.2.2.1,()))))),(y.2.2.2.2.2.2.2.2.2.2.2.2.2.2.2,())))))⟩
def cl:List (FuncId×Con):=[(124,M124.con)]
theorem cl_ok:Q8 Tryz.prog cl:=⟨M124.con_ok,trivial⟩
def E1:Env:=⟨ty,QE cl,λ_=>none,none⟩
structure p0X where(n:Int)(out_lo out_len:Nat)(l:List (Int))(m i:Int)(nodes:List ((Int)×(List (Int))×(Int)×Int))(names:List (List UInt8))(mems:List ((List (Int))×(List (Int))×Int))(outs:List (Int))(nets_lo nets_len nets_cap:Nat)(ln lp model lnode lpin value other:Int)(xs out:List (Int))
def p0:Pt p0X where
 own:=[.reg 5 (.int .u8)]
 t:=⟨[(0,.c (.ptr 0 0)),(1,.c (.it .i64)),(5,.c (.sl 5 0 1)),(16,.c (.arr (.int .i64))),(17,.c (.it .i64)),(18,.c (.it .i64))],[.st [.arr (.pair (.int .u8) (.pair (.sl (.int .i64)) (.pair (.int .i64) (.int .i64)))),.arr .str,.arr (.pair (.sl (.int .i64)) (.pair (.sl (.int .i64)) (.int .i64))),.arr (.int .i64),.slc 4 0 1,.clo 151 [⟨1,0,0⟩,⟨2,0,0⟩],.fn 124] 1 0,.st [.it .i64,.it .i64] 1 0,.st [.clo 128 [⟨3,0,0⟩]] 1 0,.st [.it .u8,.it .i64,.it .i64,.it .u8,.it .i64] 1 0,.arr (.int .u8) 0,.arr (.int .u8) 0]⟩
 to:=λv=>⟨v.1.2.1,v.1.2.2.1.1,v.1.2.2.1.2,v.1.2.2.2.1,v.1.2.2.2.2.1,v.1.2.2.2.2.2.1,v.2.1.1,v.2.1.2.1,v.2.1.2.2.1,v.2.1.2.2.2.1,v.2.1.2.2.2.2.1.1,v.2.1.2.2.2.2.1.2.1,v.2.1.2.2.2.2.1.2.2,v.2.2.1.1,v.2.2.1.2.1,v.2.2.2.2.1.1,v.2.2.2.2.1.2.1,v.2.2.2.2.1.2.2.1,v.2.2.2.2.1.2.2.2.1,v.2.2.2.2.1.2.2.2.2.1,v.2.2.2.2.2.1,v.2.2.2.2.2.2.1⟩
 fr:=λx=>(((),(x.n,((x.out_lo,x.out_len),(x.l,(x.m,(x.i,())))))),((x.nodes,(x.names,(x.mems,(x.outs,((x.nets_lo,x.nets_len,x.nets_cap),((),((),()))))))),((x.ln,(x.lp,())),(((),()),((x.model,(x.lnode,(x.lpin,(x.value,(x.other,()))))),(x.xs,(x.out,())))))))
structure q0X where(out_lo out_len:Nat)(nodes:List ((Int)×(List (Int))×(Int)×Int))(names:List (List UInt8))(mems:List ((List (Int))×(List (Int))×Int))(outs:List (Int))(nets_lo nets_len nets_cap:Nat)(ln lp model lnode lpin value other:Int)(xs out:List (Int))
def q0:Pt q0X where
 own:=[]
 t:=⟨[(5,.c (.sl 5 0 1))],[.st [.arr (.pair (.int .u8) (.pair (.sl (.int .i64)) (.pair (.int .i64) (.int .i64)))),.arr .str,.arr (.pair (.sl (.int .i64)) (.pair (.sl (.int .i64)) (.int .i64))),.arr (.int .i64),.slc 4 0 1,.clo 151 [⟨1,0,0⟩,⟨2,0,0⟩],.fn 124] 1 0,.st [.it .i64,.it .i64] 1 0,.st [.clo 128 [⟨3,0,0⟩]] 1 0,.st [.it .u8,.it .i64,.it .i64,.it .u8,.it .i64] 1 0,.arr (.int .u8) 0,.arr (.int .u8) 0]⟩
 to:=λv=>⟨v.1.1.1,v.1.1.2,v.2.1.1,v.2.1.2.1,v.2.1.2.2.1,v.2.1.2.2.2.1,v.2.1.2.2.2.2.1.1,v.2.1.2.2.2.2.1.2.1,v.2.1.2.2.2.2.1.2.2,v.2.2.1.1,v.2.2.1.2.1,v.2.2.2.2.1.1,v.2.2.2.2.1.2.1,v.2.2.2.2.1.2.2.1,v.2.2.2.2.1.2.2.2.1,v.2.2.2.2.1.2.2.2.2.1,v.2.2.2.2.2.1,v.2.2.2.2.2.2.1⟩
 fr:=λx=>(((x.out_lo,x.out_len),()),((x.nodes,(x.names,(x.mems,(x.outs,((x.nets_lo,x.nets_len,x.nets_cap),((),((),()))))))),((x.ln,(x.lp,())),(((),()),((x.model,(x.lnode,(x.lpin,(x.value,(x.other,()))))),(x.xs,(x.out,())))))))
def s0(x:p0X):Option (p0X⊕q0X):=bif decide (x.i<x.m) then bif inR x.i x.l.length then bif inR (x.l[x.i.toNat]?.getD 0) x.nets_len then bif decide (x.nets_lo+Int.toNat (x.l[x.i.toNat]?.getD 0)<x.xs.length) then bindO (M124.m ⟨x.n,x.i,x.xs[x.nets_lo+Int.toNat (x.l[x.i.toNat]?.getD 0)]?.getD 0⟩) λy=>bif eqN x.out_lo 0&&eqN x.out.length x.out_len&&QT (x.out_len+1) 1 then some (Sum.inl ⟨x.n,0,x.out_len+1,x.l,x.m,IntKind.i64.wrap (x.i+1),x.nodes,x.names,x.mems,x.outs,x.nets_lo,x.nets_len,x.nets_cap,x.ln,x.lp,x.model,x.lnode,x.lpin,x.value,x.other,x.xs,x.out++[y]⟩) else none else none else none else none else some (Sum.inr ⟨x.out_lo,x.out_len,x.nodes,x.names,x.mems,x.outs,x.nets_lo,x.nets_len,x.nets_cap,x.ln,x.lp,x.model,x.lnode,x.lpin,x.value,x.other,x.xs,x.out⟩)
theorem s0_eq(x:p0X):exec E1 42 (C130.Q0 0) 1 (p0.R x) (p0.H x) (QP 5 p0 (.exit 0) q0)=s0 x:=by kernel_rfl
def l0:QJ:=QQ 5 p0 (.exit 0) q0 s0
theorem tl0:QA (C130.Q0 0) 1=[]:=by kernel_rfl
theorem l0_ok  :QF Tryz.prog 42 none 5 (C130.Q0 0) l0:=QG mixed (Q4 ty_ok cl_ok _) (by trivial) (λ_=>rfl) (λ_=>rfl) (tl0▸Q7.nil) s0_eq
def E0:Env:=⟨ty,QE cl,Qi [(0,l0)],none⟩
def m(x:gX):Option fY:=bif inR x.n x.nodes.length then bindO (iter s0 ⟨x.n,0,0,(x.nodes[x.n.toNat]?.getD (0,[],0,0)).2.1,(↑(List.length (x.nodes[x.n.toNat]?.getD (0,[],0,0)).2.1):Int),0,x.nodes,x.names,x.mems,x.outs,x.nets_lo,x.nets_len,x.nets_cap,x.ln,x.lp,x.model,x.lnode,x.lpin,x.value,x.other,x.xs,[]⟩) λy=>bif leB (y.out_lo+y.out_len) y.out.length&&true&&true then some (List.take y.out_len (List.drop y.out_lo y.out),y.nodes,y.names,y.mems,y.outs,y.nets_lo,y.nets_len,y.nets_cap,y.ln,y.lp,y.model,y.lnode,y.lpin,y.value,y.other,y.xs) else none else none
theorem m_eq(x:gX):exec E0 42 C130 0 (QD 0 (g.A x)) (g.H x) (finish 5 ty [.tmp 4] f)=m x:=by kernel_rfl
theorem tl:QA C130 0=[(0,C130.Q0 0)]:=by kernel_rfl
theorem known:QB Tryz.prog 130 g f m:=
 Q5 mixed (Q4 ty_ok cl_ok _) s130 rfl rfl tl (Q7.cons rfl l0_ok Q7.nil) (λ_ _=>⟨rfl,rfl⟩) (λ_ _=>⟨rfl,rfl⟩) m_eq
def ky(z:p0X):=(z.nodes,z.names,z.mems,z.outs,z.nets_lo,z.nets_len,z.nets_cap,z.ln,z.lp,z.model,z.lnode,z.lpin,z.value,z.other,z.xs)
def kq(z:q0X):=(z.nodes,z.names,z.mems,z.outs,z.nets_lo,z.nets_len,z.nets_cap,z.ln,z.lp,z.model,z.lnode,z.lpin,z.value,z.other,z.xs)
theorem k0{z:p0X}{y:q0X}(h:iter s0 z=some y):kq y=ky z:=by
 refine Jy (λu=>ky u=ky z) (λr=>kq r=ky z) (λu r hu hr=> ?_) rfl h;unfold s0 at hr;rcases cond_some hr with ⟨_,hr⟩|⟨_,hr⟩
 ·rcases cond_some hr with ⟨_,hr⟩|⟨_,hr⟩
  ·rcases cond_some hr with ⟨_,hr⟩|⟨_,hr⟩
   ·rcases cond_some hr with ⟨_,hr⟩|⟨_,hr⟩
    ·obtain⟨b,_,hr⟩:=QK hr;rcases cond_some hr with ⟨_,hr⟩|⟨_,hr⟩
     ·cases hr;exact hu
     ·cases hr
    ·cases hr
   ·cases hr
  ·cases hr
 ·cases hr;exact hu
theorem hh{x:gX}{y:fY}(h:m x=some y):f.H y=g.H x:=by
 unfold m at h;rcases cond_some h with ⟨_,h⟩|⟨_,h⟩
 ·obtain⟨v,h1,h⟩:=QK h;have h2:=k0 h1;rcases cond_some h with ⟨_,h⟩|⟨_,h⟩
  ·cases h;obtain⟨v0,v1,v2,v3,v4,v5,v6,v7,v8,v9,v10,v11,v12,v13,v14,v15,v16,v17⟩:=v;simp only[ky,kq,A0]at h2;obtain⟨rfl,rfl,rfl,rfl,rfl,rfl,rfl,rfl,rfl,rfl,rfl,rfl,rfl,rfl,rfl⟩:=h2;rfl
  ·cases h
 ·cases h
def con:Con:=ZR g [.arg 0 0,.cell 0 105,.cell 0 205,.cell 2 0,.cell 0 4] f m default
theorem con_ok:QC Tryz.prog 130 con:=J4 known (λ_=>rfl) (λ_ _ h=>by exact hh h)
end M130a
namespace M130b
structure gX where(n:Int)(nodes:List ((Int)×(List (Int))×(Int)×Int))(names:List (List UInt8))(mems:List ((List (Int))×(List (Int))×Int))(outs:List (Int))(nets_lo nets_len nets_cap:Nat)(ln lp model lnode lpin value other:Int)(xs:List (Int))
def g:Sg gX:=⟨[.c (.ptr 0 0),.c (.it .i64)],[.st [.arr (.pair (.int .u8) (.pair (.sl (.int .i64)) (.pair (.int .i64) (.int .i64)))),.arr .str,.arr (.pair (.sl (.int .i64)) (.pair (.sl (.int .i64)) (.int .i64))),.arr (.int .i64),.slc 4 0 1,.fn 150,.clo 152 [⟨1,0,0⟩,⟨2,0,0⟩]] 1 0,.st [.it .i64,.it .i64] 1 0,.st [.clo 128 [⟨3,0,0⟩]] 1 0,.st [.it .u8,.it .i64,.it .i64,.it .u8,.it .i64] 1 0,.arr (.int .u8) 0],λa b=>⟨a.2.1,b.1.1,b.1.2.1,b.1.2.2.1,b.1.2.2.2.1,b.1.2.2.2.2.1.1,b.1.2.2.2.2.1.2.1,b.1.2.2.2.2.1.2.2,b.2.1.1,b.2.1.2.1,b.2.2.2.1.1,b.2.2.2.1.2.1,b.2.2.2.1.2.2.1,b.2.2.2.1.2.2.2.1,b.2.2.2.1.2.2.2.2.1,b.2.2.2.2.1⟩,λx=>((),(x.n,())),λx=>((x.nodes,(x.names,(x.mems,(x.outs,((x.nets_lo,x.nets_len,x.nets_cap),((),((),()))))))),((x.ln,(x.lp,())),(((),()),((x.model,(x.lnode,(x.lpin,(x.value,(x.other,()))))),(x.xs,())))))⟩
abbrev fY:=List (Int)×(List ((Int)×(List (Int))×(Int)×Int))×List (List UInt8)×(List ((List (Int))×(List (Int))×Int))×List (Int)×Nat×Nat×Nat×Int×Int×Int×Int×Int×Int×Int×List (Int)
def f:Ft fY:=⟨none,.c (.arr (.int .u8)),[.st [.arr (.pair (.int .u8) (.pair (.sl (.int .i64)) (.pair (.int .i64) (.int .i64)))),.arr .str,.arr (.pair (.sl (.int .i64)) (.pair (.sl (.int .i64)) (.int .i64))),.arr (.int .i64),.slc 4 0 1,.fn 150,.clo 152 [⟨1,0,0⟩,⟨2,0,0⟩]] 1 0,.st [.it .i64,.it .i64] 1 0,.st [.clo 128 [⟨3,0,0⟩]] 1 0,.st [.it .u8,.it .i64,.it .i64,.it .u8,.it .i64] 1 0,.arr (.int .u8) 0],λa b=>(a,b.1.1,b.1.2.1,b.1.2.2.1,b.1.2.2.2.1,b.1.2.2.2.2.1.1,b.1.2.2.2.2.1.2.1,b.1.2.2.2.2.1.2.2,b.2.1.1,b.2.1.2.1,b.2.2.2.1.1,b.2.2.2.1.2.1,b.2.2.2.1.2.2.1,b.2.2.2.1.2.2.2.1,b.2.2.2.1.2.2.2.2.1,b.2.2.2.2.1),λy=>y.1,λy=>((y.2.1,(y.2.2.1,(y.2.2.2.1,(y.2.2.2.2.1,((y.2.2.2.2.2.1,y.2.2.2.2.2.2.1,y.2.2.2.2.2.2.2.1),((),((),()))))))),((y.2.2.2.2.2.2.2.2.1,(y.2.2.2.2.2.2.2.2.2.1,())),(((),()),((y.2.2.2.2.2.2.2.2.2.2.1,(y.2.2.2.2.2.2.2.2.2.2.2.1,(y.2.2.2.2.2.2.2.2.2.2.2.2.1,(y.2.2.2.2.2.2.2.2.2.2.2.2.2.1,(y.2.2.2.2.2.2.2.2.2.2.2.2.2.2.1,()))))),(y.2.2.2.2.2.2.2.2.2.2.2.2.2.2.2,())))))⟩
def cl:List (FuncId×Con):=[(152,M152.con)]
theorem cl_ok:Q8 Tryz.prog cl:=⟨M152.con_ok,trivial⟩
def E1:Env:=⟨ty,QE cl,λ_=>none,none⟩
structure p0X where(n:Int)(out_lo out_len:Nat)(l:List (Int))(m i:Int)(nodes:List ((Int)×(List (Int))×(Int)×Int))(names:List (List UInt8))(mems:List ((List (Int))×(List (Int))×Int))(outs:List (Int))(nets_lo nets_len nets_cap:Nat)(ln lp model lnode lpin value other:Int)(xs out:List (Int))
def p0:Pt p0X where
 own:=[.reg 5 (.int .u8)]
 t:=⟨[(0,.c (.ptr 0 0)),(1,.c (.it .i64)),(5,.c (.sl 5 0 1)),(16,.c (.arr (.int .i64))),(17,.c (.it .i64)),(18,.c (.it .i64))],[.st [.arr (.pair (.int .u8) (.pair (.sl (.int .i64)) (.pair (.int .i64) (.int .i64)))),.arr .str,.arr (.pair (.sl (.int .i64)) (.pair (.sl (.int .i64)) (.int .i64))),.arr (.int .i64),.slc 4 0 1,.fn 150,.clo 152 [⟨1,0,0⟩,⟨2,0,0⟩]] 1 0,.st [.it .i64,.it .i64] 1 0,.st [.clo 128 [⟨3,0,0⟩]] 1 0,.st [.it .u8,.it .i64,.it .i64,.it .u8,.it .i64] 1 0,.arr (.int .u8) 0,.arr (.int .u8) 0]⟩
 to:=λv=>⟨v.1.2.1,v.1.2.2.1.1,v.1.2.2.1.2,v.1.2.2.2.1,v.1.2.2.2.2.1,v.1.2.2.2.2.2.1,v.2.1.1,v.2.1.2.1,v.2.1.2.2.1,v.2.1.2.2.2.1,v.2.1.2.2.2.2.1.1,v.2.1.2.2.2.2.1.2.1,v.2.1.2.2.2.2.1.2.2,v.2.2.1.1,v.2.2.1.2.1,v.2.2.2.2.1.1,v.2.2.2.2.1.2.1,v.2.2.2.2.1.2.2.1,v.2.2.2.2.1.2.2.2.1,v.2.2.2.2.1.2.2.2.2.1,v.2.2.2.2.2.1,v.2.2.2.2.2.2.1⟩
 fr:=λx=>(((),(x.n,((x.out_lo,x.out_len),(x.l,(x.m,(x.i,())))))),((x.nodes,(x.names,(x.mems,(x.outs,((x.nets_lo,x.nets_len,x.nets_cap),((),((),()))))))),((x.ln,(x.lp,())),(((),()),((x.model,(x.lnode,(x.lpin,(x.value,(x.other,()))))),(x.xs,(x.out,())))))))
structure q0X where(out_lo out_len:Nat)(nodes:List ((Int)×(List (Int))×(Int)×Int))(names:List (List UInt8))(mems:List ((List (Int))×(List (Int))×Int))(outs:List (Int))(nets_lo nets_len nets_cap:Nat)(ln lp model lnode lpin value other:Int)(xs out:List (Int))
def q0:Pt q0X where
 own:=[]
 t:=⟨[(5,.c (.sl 5 0 1))],[.st [.arr (.pair (.int .u8) (.pair (.sl (.int .i64)) (.pair (.int .i64) (.int .i64)))),.arr .str,.arr (.pair (.sl (.int .i64)) (.pair (.sl (.int .i64)) (.int .i64))),.arr (.int .i64),.slc 4 0 1,.fn 150,.clo 152 [⟨1,0,0⟩,⟨2,0,0⟩]] 1 0,.st [.it .i64,.it .i64] 1 0,.st [.clo 128 [⟨3,0,0⟩]] 1 0,.st [.it .u8,.it .i64,.it .i64,.it .u8,.it .i64] 1 0,.arr (.int .u8) 0,.arr (.int .u8) 0]⟩
 to:=λv=>⟨v.1.1.1,v.1.1.2,v.2.1.1,v.2.1.2.1,v.2.1.2.2.1,v.2.1.2.2.2.1,v.2.1.2.2.2.2.1.1,v.2.1.2.2.2.2.1.2.1,v.2.1.2.2.2.2.1.2.2,v.2.2.1.1,v.2.2.1.2.1,v.2.2.2.2.1.1,v.2.2.2.2.1.2.1,v.2.2.2.2.1.2.2.1,v.2.2.2.2.1.2.2.2.1,v.2.2.2.2.1.2.2.2.2.1,v.2.2.2.2.2.1,v.2.2.2.2.2.2.1⟩
 fr:=λx=>(((x.out_lo,x.out_len),()),((x.nodes,(x.names,(x.mems,(x.outs,((x.nets_lo,x.nets_len,x.nets_cap),((),((),()))))))),((x.ln,(x.lp,())),(((),()),((x.model,(x.lnode,(x.lpin,(x.value,(x.other,()))))),(x.xs,(x.out,())))))))
def s0(x:p0X):Option (p0X⊕q0X):=bif decide (x.i<x.m) then bif inR x.i x.l.length then bif inR (x.l[x.i.toNat]?.getD 0) x.nets_len then bif decide (x.nets_lo+Int.toNat (x.l[x.i.toNat]?.getD 0)<x.xs.length) then bindO (M152.m ⟨x.n,x.i,x.xs[x.nets_lo+Int.toNat (x.l[x.i.toNat]?.getD 0)]?.getD 0,x.ln,x.lp,x.model,x.lnode,x.lpin,x.value,x.other⟩) λy=>bif eqN x.out_lo 0&&eqN x.out.length x.out_len&&QT (x.out_len+1) 1 then some (Sum.inl ⟨x.n,0,x.out_len+1,x.l,x.m,IntKind.i64.wrap (x.i+1),x.nodes,x.names,x.mems,x.outs,x.nets_lo,x.nets_len,x.nets_cap,x.ln,x.lp,x.model,x.lnode,x.lpin,x.value,x.other,x.xs,x.out++[y.1]⟩) else none else none else none else none else some (Sum.inr ⟨x.out_lo,x.out_len,x.nodes,x.names,x.mems,x.outs,x.nets_lo,x.nets_len,x.nets_cap,x.ln,x.lp,x.model,x.lnode,x.lpin,x.value,x.other,x.xs,x.out⟩)
theorem s0_eq(x:p0X):exec E1 42 (C130.Q0 0) 1 (p0.R x) (p0.H x) (QP 5 p0 (.exit 0) q0)=s0 x:=by kernel_rfl
def l0:QJ:=QQ 5 p0 (.exit 0) q0 s0
theorem tl0:QA (C130.Q0 0) 1=[]:=by kernel_rfl
theorem l0_ok  :QF Tryz.prog 42 none 5 (C130.Q0 0) l0:=QG mixed (Q4 ty_ok cl_ok _) (by trivial) (λ_=>rfl) (λ_=>rfl) (tl0▸Q7.nil) s0_eq
def E0:Env:=⟨ty,QE cl,Qi [(0,l0)],none⟩
def m(x:gX):Option fY:=bif inR x.n x.nodes.length then bindO (iter s0 ⟨x.n,0,0,(x.nodes[x.n.toNat]?.getD (0,[],0,0)).2.1,(↑(List.length (x.nodes[x.n.toNat]?.getD (0,[],0,0)).2.1):Int),0,x.nodes,x.names,x.mems,x.outs,x.nets_lo,x.nets_len,x.nets_cap,x.ln,x.lp,x.model,x.lnode,x.lpin,x.value,x.other,x.xs,[]⟩) λy=>bif leB (y.out_lo+y.out_len) y.out.length&&true&&true then some (List.take y.out_len (List.drop y.out_lo y.out),y.nodes,y.names,y.mems,y.outs,y.nets_lo,y.nets_len,y.nets_cap,y.ln,y.lp,y.model,y.lnode,y.lpin,y.value,y.other,y.xs) else none else none
theorem m_eq(x:gX):exec E0 42 C130 0 (QD 0 (g.A x)) (g.H x) (finish 5 ty [.tmp 4] f)=m x:=by kernel_rfl
theorem tl:QA C130 0=[(0,C130.Q0 0)]:=by kernel_rfl
theorem known:QB Tryz.prog 130 g f m:=
 Q5 mixed (Q4 ty_ok cl_ok _) s130 rfl rfl tl (Q7.cons rfl l0_ok Q7.nil) (λ_ _=>⟨rfl,rfl⟩) (λ_ _=>⟨rfl,rfl⟩) m_eq
def ky(z:p0X):=(z.nodes,z.names,z.mems,z.outs,z.nets_lo,z.nets_len,z.nets_cap,z.ln,z.lp,z.model,z.lnode,z.lpin,z.value,z.other,z.xs)
def kq(z:q0X):=(z.nodes,z.names,z.mems,z.outs,z.nets_lo,z.nets_len,z.nets_cap,z.ln,z.lp,z.model,z.lnode,z.lpin,z.value,z.other,z.xs)
theorem k0{z:p0X}{y:q0X}(h:iter s0 z=some y):kq y=ky z:=by
 refine Jy (λu=>ky u=ky z) (λr=>kq r=ky z) (λu r hu hr=> ?_) rfl h;unfold s0 at hr;rcases cond_some hr with ⟨_,hr⟩|⟨_,hr⟩
 ·rcases cond_some hr with ⟨_,hr⟩|⟨_,hr⟩
  ·rcases cond_some hr with ⟨_,hr⟩|⟨_,hr⟩
   ·rcases cond_some hr with ⟨_,hr⟩|⟨_,hr⟩
    ·obtain⟨b,_,hr⟩:=QK hr;rcases cond_some hr with ⟨_,hr⟩|⟨_,hr⟩
     ·cases hr;exact hu
     ·cases hr
    ·cases hr
   ·cases hr
  ·cases hr
 ·cases hr;exact hu
theorem hh{x:gX}{y:fY}(h:m x=some y):f.H y=g.H x:=by
 unfold m at h;rcases cond_some h with ⟨_,h⟩|⟨_,h⟩
 ·obtain⟨v,h1,h⟩:=QK h;have h2:=k0 h1;rcases cond_some h with ⟨_,h⟩|⟨_,h⟩
  ·cases h;obtain⟨v0,v1,v2,v3,v4,v5,v6,v7,v8,v9,v10,v11,v12,v13,v14,v15,v16,v17⟩:=v;simp only[ky,kq,A0]at h2;obtain⟨rfl,rfl,rfl,rfl,rfl,rfl,rfl,rfl,rfl,rfl,rfl,rfl,rfl,rfl,rfl⟩:=h2;rfl
  ·cases h
 ·cases h
def con:Con:=ZR g [.arg 0 0,.cell 0 106,.cell 0 206,.cell 2 0,.cell 0 4] f m default
theorem con_ok:QC Tryz.prog 130 con:=J4 known (λ_=>rfl) (λ_ _ h=>by exact hh h)
end M130b
end Go.Proofs.YtpbplpgfloaaiaaGreatDoor
namespace Go.Proofs.YtpbplpgfloaaiaaGreatDoor
open Go.Abs
namespace M129a
structure gX where(n:Int)(nodes:List ((Int)×(List (Int))×(Int)×Int))(names:List (List UInt8))(mems:List ((List (Int))×(List (Int))×Int))(outs:List (Int))(nets_lo nets_len nets_cap:Nat)(ln lp model lnode lpin value other:Int)(xs:List (Int))
def g:Sg gX:=⟨[.c (.ptr 0 0),.c (.it .i64)],[.st [.arr (.pair (.int .u8) (.pair (.sl (.int .i64)) (.pair (.int .i64) (.int .i64)))),.arr .str,.arr (.pair (.sl (.int .i64)) (.pair (.sl (.int .i64)) (.int .i64))),.arr (.int .i64),.slc 4 0 1,.clo 151 [⟨1,0,0⟩,⟨2,0,0⟩],.fn 124] 1 0,.st [.it .i64,.it .i64] 1 0,.st [.clo 128 [⟨3,0,0⟩]] 1 0,.st [.it .u8,.it .i64,.it .i64,.it .u8,.it .i64] 1 0,.arr (.int .u8) 0],λa b=>⟨a.2.1,b.1.1,b.1.2.1,b.1.2.2.1,b.1.2.2.2.1,b.1.2.2.2.2.1.1,b.1.2.2.2.2.1.2.1,b.1.2.2.2.2.1.2.2,b.2.1.1,b.2.1.2.1,b.2.2.2.1.1,b.2.2.2.1.2.1,b.2.2.2.1.2.2.1,b.2.2.2.1.2.2.2.1,b.2.2.2.1.2.2.2.2.1,b.2.2.2.2.1⟩,λx=>((),(x.n,())),λx=>((x.nodes,(x.names,(x.mems,(x.outs,((x.nets_lo,x.nets_len,x.nets_cap),((),((),()))))))),((x.ln,(x.lp,())),(((),()),((x.model,(x.lnode,(x.lpin,(x.value,(x.other,()))))),(x.xs,())))))⟩
abbrev fY:=Int×(List ((Int)×(List (Int))×(Int)×Int))×List (List UInt8)×(List ((List (Int))×(List (Int))×Int))×List (Int)×Nat×Nat×Nat×Int×Int×Int×Int×Int×Int×Int×List (Int)
def f:Ft fY:=⟨none,.c (.it .u8),[.st [.arr (.pair (.int .u8) (.pair (.sl (.int .i64)) (.pair (.int .i64) (.int .i64)))),.arr .str,.arr (.pair (.sl (.int .i64)) (.pair (.sl (.int .i64)) (.int .i64))),.arr (.int .i64),.slc 4 0 1,.clo 151 [⟨1,0,0⟩,⟨2,0,0⟩],.fn 124] 1 0,.st [.it .i64,.it .i64] 1 0,.st [.clo 128 [⟨3,0,0⟩]] 1 0,.st [.it .u8,.it .i64,.it .i64,.it .u8,.it .i64] 1 0,.arr (.int .u8) 0],λa b=>(a,b.1.1,b.1.2.1,b.1.2.2.1,b.1.2.2.2.1,b.1.2.2.2.2.1.1,b.1.2.2.2.2.1.2.1,b.1.2.2.2.2.1.2.2,b.2.1.1,b.2.1.2.1,b.2.2.2.1.1,b.2.2.2.1.2.1,b.2.2.2.1.2.2.1,b.2.2.2.1.2.2.2.1,b.2.2.2.1.2.2.2.2.1,b.2.2.2.2.1),λy=>y.1,λy=>((y.2.1,(y.2.2.1,(y.2.2.2.1,(y.2.2.2.2.1,((y.2.2.2.2.2.1,y.2.2.2.2.2.2.1,y.2.2.2.2.2.2.2.1),((),((),()))))))),((y.2.2.2.2.2.2.2.2.1,(y.2.2.2.2.2.2.2.2.2.1,())),(((),()),((y.2.2.2.2.2.2.2.2.2.2.1,(y.2.2.2.2.2.2.2.2.2.2.2.1,(y.2.2.2.2.2.2.2.2.2.2.2.2.1,(y.2.2.2.2.2.2.2.2.2.2.2.2.2.1,(y.2.2.2.2.2.2.2.2.2.2.2.2.2.2.1,()))))),(y.2.2.2.2.2.2.2.2.2.2.2.2.2.2.2,())))))⟩
def cl:List (FuncId×Con):=[(130,M130a.con),(44,M44.con)]
theorem cl_ok:Q8 Tryz.prog cl:=⟨M130a.con_ok,M44.con_ok,trivial⟩
def E0:Env:=⟨ty,QE cl,λ_=>none,none⟩
def m(x:gX):Option fY:=bif inR x.n x.nodes.length then bindO (M130a.m ⟨x.n,x.nodes,x.names,x.mems,x.outs,x.nets_lo,x.nets_len,x.nets_cap,x.ln,x.lp,x.model,x.lnode,x.lpin,x.value,x.other,x.xs⟩) λy=>bindO (M44.m ⟨(x.nodes[x.n.toNat]?.getD (0,[],0,0)).1,y.1⟩) λy=>some (y,x.nodes,x.names,x.mems,x.outs,x.nets_lo,x.nets_len,x.nets_cap,x.ln,x.lp,x.model,x.lnode,x.lpin,x.value,x.other,x.xs) else none
theorem m_eq(x:gX):exec E0 18 C129 0 (QD 0 (g.A x)) (g.H x) (finish 5 ty [.tmp 4] f)=m x:=by kernel_rfl
theorem tl:QA C129 0=[]:=by kernel_rfl
theorem known:QB Tryz.prog 129 g f m:=
 Q5 mixed (Q4 ty_ok cl_ok _) s129 rfl rfl tl Q7.nil (λ_ _=>⟨rfl,rfl⟩) (λ_ _=>⟨rfl,rfl⟩) m_eq
theorem hh{x:gX}{y:fY}(h:m x=some y):f.H y=g.H x:=by
 unfold m at h;rcases cond_some h with ⟨_,h⟩|⟨_,h⟩
 ·obtain⟨_,_,h⟩:=QK h;obtain⟨_,_,h⟩:=QK h;cases h;rfl
 ·cases h
def con:Con:=ZR g [.arg 0 0,.cell 0 105,.cell 0 205,.cell 2 0,.cell 0 4] f m default
theorem con_ok:QC Tryz.prog 129 con:=J4 known (λ_=>rfl) (λ_ _ h=>by exact hh h)
end M129a
namespace M129b
structure gX where(n:Int)(nodes:List ((Int)×(List (Int))×(Int)×Int))(names:List (List UInt8))(mems:List ((List (Int))×(List (Int))×Int))(outs:List (Int))(nets_lo nets_len nets_cap:Nat)(ln lp model lnode lpin value other:Int)(xs:List (Int))
def g:Sg gX:=⟨[.c (.ptr 0 0),.c (.it .i64)],[.st [.arr (.pair (.int .u8) (.pair (.sl (.int .i64)) (.pair (.int .i64) (.int .i64)))),.arr .str,.arr (.pair (.sl (.int .i64)) (.pair (.sl (.int .i64)) (.int .i64))),.arr (.int .i64),.slc 4 0 1,.fn 150,.clo 152 [⟨1,0,0⟩,⟨2,0,0⟩]] 1 0,.st [.it .i64,.it .i64] 1 0,.st [.clo 128 [⟨3,0,0⟩]] 1 0,.st [.it .u8,.it .i64,.it .i64,.it .u8,.it .i64] 1 0,.arr (.int .u8) 0],λa b=>⟨a.2.1,b.1.1,b.1.2.1,b.1.2.2.1,b.1.2.2.2.1,b.1.2.2.2.2.1.1,b.1.2.2.2.2.1.2.1,b.1.2.2.2.2.1.2.2,b.2.1.1,b.2.1.2.1,b.2.2.2.1.1,b.2.2.2.1.2.1,b.2.2.2.1.2.2.1,b.2.2.2.1.2.2.2.1,b.2.2.2.1.2.2.2.2.1,b.2.2.2.2.1⟩,λx=>((),(x.n,())),λx=>((x.nodes,(x.names,(x.mems,(x.outs,((x.nets_lo,x.nets_len,x.nets_cap),((),((),()))))))),((x.ln,(x.lp,())),(((),()),((x.model,(x.lnode,(x.lpin,(x.value,(x.other,()))))),(x.xs,())))))⟩
abbrev fY:=Int×(List ((Int)×(List (Int))×(Int)×Int))×List (List UInt8)×(List ((List (Int))×(List (Int))×Int))×List (Int)×Nat×Nat×Nat×Int×Int×Int×Int×Int×Int×Int×List (Int)
def f:Ft fY:=⟨none,.c (.it .u8),[.st [.arr (.pair (.int .u8) (.pair (.sl (.int .i64)) (.pair (.int .i64) (.int .i64)))),.arr .str,.arr (.pair (.sl (.int .i64)) (.pair (.sl (.int .i64)) (.int .i64))),.arr (.int .i64),.slc 4 0 1,.fn 150,.clo 152 [⟨1,0,0⟩,⟨2,0,0⟩]] 1 0,.st [.it .i64,.it .i64] 1 0,.st [.clo 128 [⟨3,0,0⟩]] 1 0,.st [.it .u8,.it .i64,.it .i64,.it .u8,.it .i64] 1 0,.arr (.int .u8) 0],λa b=>(a,b.1.1,b.1.2.1,b.1.2.2.1,b.1.2.2.2.1,b.1.2.2.2.2.1.1,b.1.2.2.2.2.1.2.1,b.1.2.2.2.2.1.2.2,b.2.1.1,b.2.1.2.1,b.2.2.2.1.1,b.2.2.2.1.2.1,b.2.2.2.1.2.2.1,b.2.2.2.1.2.2.2.1,b.2.2.2.1.2.2.2.2.1,b.2.2.2.2.1),λy=>y.1,λy=>((y.2.1,(y.2.2.1,(y.2.2.2.1,(y.2.2.2.2.1,((y.2.2.2.2.2.1,y.2.2.2.2.2.2.1,y.2.2.2.2.2.2.2.1),((),((),()))))))),((y.2.2.2.2.2.2.2.2.1,(y.2.2.2.2.2.2.2.2.2.1,())),(((),()),((y.2.2.2.2.2.2.2.2.2.2.1,(y.2.2.2.2.2.2.2.2.2.2.2.1,(y.2.2.2.2.2.2.2.2.2.2.2.2.1,(y.2.2.2.2.2.2.2.2.2.2.2.2.2.1,(y.2.2.2.2.2.2.2.2.2.2.2.2.2.2.1,()))))),(y.2.2.2.2.2.2.2.2.2.2.2.2.2.2.2,())))))⟩
def cl:List (FuncId×Con):=[(130,M130b.con),(44,M44.con)]
theorem cl_ok:Q8 Tryz.prog cl:=⟨M130b.con_ok,M44.con_ok,trivial⟩
def E0:Env:=⟨ty,QE cl,λ_=>none,none⟩
def m(x:gX):Option fY:=bif inR x.n x.nodes.length then bindO (M130b.m ⟨x.n,x.nodes,x.names,x.mems,x.outs,x.nets_lo,x.nets_len,x.nets_cap,x.ln,x.lp,x.model,x.lnode,x.lpin,x.value,x.other,x.xs⟩) λy=>bindO (M44.m ⟨(x.nodes[x.n.toNat]?.getD (0,[],0,0)).1,y.1⟩) λy=>some (y,x.nodes,x.names,x.mems,x.outs,x.nets_lo,x.nets_len,x.nets_cap,x.ln,x.lp,x.model,x.lnode,x.lpin,x.value,x.other,x.xs) else none
theorem m_eq(x:gX):exec E0 18 C129 0 (QD 0 (g.A x)) (g.H x) (finish 5 ty [.tmp 4] f)=m x:=by kernel_rfl
theorem tl:QA C129 0=[]:=by kernel_rfl
theorem known:QB Tryz.prog 129 g f m:=
 Q5 mixed (Q4 ty_ok cl_ok _) s129 rfl rfl tl Q7.nil (λ_ _=>⟨rfl,rfl⟩) (λ_ _=>⟨rfl,rfl⟩) m_eq
theorem hh{x:gX}{y:fY}(h:m x=some y):f.H y=g.H x:=by
 unfold m at h;rcases cond_some h with ⟨_,h⟩|⟨_,h⟩
 ·obtain⟨_,_,h⟩:=QK h;obtain⟨_,_,h⟩:=QK h;cases h;rfl
 ·cases h
def con:Con:=ZR g [.arg 0 0,.cell 0 106,.cell 0 206,.cell 2 0,.cell 0 4] f m default
theorem con_ok:QC Tryz.prog 129 con:=J4 known (λ_=>rfl) (λ_ _ h=>by exact hh h)
end M129b
end Go.Proofs.YtpbplpgfloaaiaaGreatDoor
namespace Go.Proofs.YtpbplpgfloaaiaaGreatDoor
open Go.Abs
namespace M108
structure gX where(a b:List (Int))
def g:Sg gX:=⟨[.c (.arr (.int .u8)),.c (.arr (.int .u8))],[],λa b=>⟨a.1,a.2.1⟩,λx=>(x.a,(x.b,())),λx=>()⟩
abbrev fY:=List (Int)
def f:Ft fY:=⟨none,.c (.arr (.int .i64)),[],λa b=>(a),λy=>y,λy=>()⟩
def cl:List (FuncId×Con):=[(34,M34o.con)]
theorem cl_ok:Q8 Tryz.prog cl:=⟨M34o.con_ok,trivial⟩
def E1:Env:=⟨ty,QE cl,λ_=>none,none⟩
structure p0X where(a b:List (Int))(out_lo out_len:Nat)(n i:Int)(xs:List (Int))
def p0:Pt p0X where
 own:=[.reg 5 (.int .i64)]
 t:=⟨[(0,.c (.arr (.int .u8))),(1,.c (.arr (.int .u8))),(5,.c (.sl 0 0 1)),(11,.c (.it .i64)),(12,.c (.it .i64))],[.arr (.int .i64) 0]⟩
 to:=λv=>⟨v.1.1,v.1.2.1,v.1.2.2.1.1,v.1.2.2.1.2,v.1.2.2.2.1,v.1.2.2.2.2.1,v.2.1⟩
 fr:=λx=>((x.a,(x.b,((x.out_lo,x.out_len),(x.n,(x.i,()))))),(x.xs,()))
structure q0X where(out_lo out_len:Nat)(xs:List (Int))
def q0:Pt q0X where
 own:=[]
 t:=⟨[(5,.c (.sl 0 0 1))],[.arr (.int .i64) 0]⟩
 to:=λv=>⟨v.1.1.1,v.1.1.2,v.2.1⟩
 fr:=λx=>(((x.out_lo,x.out_len),()),(x.xs,()))
def s0(x:p0X):Option (p0X⊕q0X):=bif decide (x.i<x.n) then bif inR x.i x.a.length then bif inR x.i x.b.length||!decide (x.a[x.i.toNat]?.getD 0<=1) then bif inR x.i x.a.length||!bif decide (x.a[x.i.toNat]?.getD 0<=1) then decide (x.b[x.i.toNat]?.getD 0<=1) else false then bif inR x.i x.b.length||!bif decide (x.a[x.i.toNat]?.getD 0<=1) then decide (x.b[x.i.toNat]?.getD 0<=1) else false then bif bif bif decide (x.a[x.i.toNat]?.getD 0<=1) then decide (x.b[x.i.toNat]?.getD 0<=1) else false then x.a[x.i.toNat]?.getD 0 !=x.b[x.i.toNat]?.getD 0 else false then bif eqN x.out_lo 0&&eqN x.xs.length x.out_len&&QT (x.out_len+1) 8 then some (Sum.inl ⟨x.a,x.b,0,x.out_len+1,x.n,IntKind.i64.wrap (x.i+1),x.xs++[x.i]⟩) else none else some (Sum.inl ⟨x.a,x.b,x.out_lo,x.out_len,x.n,IntKind.i64.wrap (x.i+1),x.xs⟩) else none else none else none else none else some (Sum.inr ⟨x.out_lo,x.out_len,x.xs⟩)
theorem s0_eq(x:p0X):exec E1 45 (C108.Q0 0) 1 (p0.R x) (p0.H x) (QP 0 p0 (.exit 0) q0)=s0 x:=by kernel_rfl
def l0:QJ:=QQ 0 p0 (.exit 0) q0 s0
theorem tl0:QA (C108.Q0 0) 1=[]:=by kernel_rfl
theorem l0_ok  :QF Tryz.prog 45 none 0 (C108.Q0 0) l0:=QG mixed (Q4 ty_ok cl_ok _) (by trivial) (λ_=>rfl) (λ_=>rfl) (tl0▸Q7.nil) s0_eq
def E0:Env:=⟨ty,QE cl,Qi [(0,l0)],none⟩
def m(x:gX):Option fY:=bindO (iter s0 ⟨x.a,x.b,0,0,if (↑x.b.length:Int)<(↑x.a.length:Int) then (↑x.b.length:Int) else (↑x.a.length:Int),0,[]⟩) λy=>bindO (M34o.m ⟨y.out_lo,y.out_len,y.xs⟩) λy=>bif leB (y.1+y.2.1) y.2.2.2.length&&true&&true then some (List.take y.2.1 (List.drop y.1 y.2.2.2)) else none
theorem m_eq(x:gX):exec E0 45 C108 0 (QD 0 (g.A x)) (g.H x) (finish 0 ty [.tmp 4] f)=m x:=by kernel_rfl
theorem tl:QA C108 0=[(0,C108.Q0 0)]:=by kernel_rfl
theorem known:QB Tryz.prog 108 g f m:=
 Q5 mixed (Q4 ty_ok cl_ok _) s108 rfl rfl tl (Q7.cons rfl l0_ok Q7.nil) (λ_ _=>⟨rfl,rfl⟩) (λ_ _=>⟨rfl,rfl⟩) m_eq
def con:Con:=Qa g f m default
theorem con_ok:QC Tryz.prog 108 con:=Q9 known (λ_=>rfl) rfl
end M108
namespace M65
structure gX where(ao an bo bn:List (Int))
def g:Sg gX:=⟨[.agg [.arr (.int .u8),.arr (.int .u8)],.agg [.arr (.int .u8),.arr (.int .u8)]],[],λa b=>⟨a.1.1,a.1.2.1,a.2.1.1,a.2.1.2.1⟩,λx=>((x.ao,(x.an,())),((x.bo,(x.bn,())),())),λx=>()⟩
abbrev fY:=List (Int)×List (Int)
def f:Ft fY:=⟨none,.tup [.inl (.arr (.int .i64)),.inl (.arr (.int .i64))],[],λa b=>(a.1,a.2.1),λy=>(y.1,(y.2,())),λy=>()⟩
def cl:List (FuncId×Con):=[(108,M108.con)]
theorem cl_ok:Q8 Tryz.prog cl:=⟨M108.con_ok,trivial⟩
def E0:Env:=⟨ty,QE cl,λ_=>none,none⟩
def m(x:gX):Option fY:=bindO (M108.m ⟨x.ao,x.bo⟩) λy=>bindO (M108.m ⟨x.an,x.bn⟩) λy_1=>some (y,y_1)
theorem m_eq(x:gX):exec E0 16 C65 0 (QD 0 (g.A x)) (g.H x) (finish 0 ty [.tmp 4,.tmp 5] f)=m x:=by kernel_rfl
theorem tl:QA C65 0=[]:=by kernel_rfl
theorem known:QB Tryz.prog 65 g f m:=
 Q5 mixed (Q4 ty_ok cl_ok _) s65 rfl rfl tl Q7.nil (λ_ _=>⟨rfl,rfl⟩) (λ_ _=>⟨rfl,rfl⟩) m_eq
def con:Con:=Qa g f m default
theorem con_ok:QC Tryz.prog 65 con:=Q9 known (λ_=>rfl) rfl
end M65
namespace M47
structure gX where(ao an bo bn:List (Int))
def g:Sg gX:=⟨[.agg [.arr (.int .u8),.arr (.int .u8)],.agg [.arr (.int .u8),.arr (.int .u8)]],[],λa b=>⟨a.1.1,a.1.2.1,a.2.1.1,a.2.1.2.1⟩,λx=>((x.ao,(x.an,())),((x.bo,(x.bn,())),())),λx=>()⟩
abbrev fY:=Bool
def f:Ft fY:=⟨none,.c (.bo),[],λa b=>(a),λy=>y,λy=>()⟩
def cl:List (FuncId×Con):=[(65,M65.con)]
theorem cl_ok:Q8 Tryz.prog cl:=⟨M65.con_ok,trivial⟩
def E0:Env:=⟨ty,QE cl,λ_=>none,none⟩
def m(x:gX):Option fY:=bindO (M65.m ⟨x.ao,x.an,x.bo,x.bn⟩) λy=>some (decide (IntKind.i64.wrap ((↑y.1.length:Int)+(↑y.2.length:Int))>0))
theorem m_eq(x:gX):exec E0 19 C47 0 (QD 0 (g.A x)) (g.H x) (finish 0 ty [.tmp 4] f)=m x:=by kernel_rfl
theorem tl:QA C47 0=[]:=by kernel_rfl
theorem known:QB Tryz.prog 47 g f m:=
 Q5 mixed (Q4 ty_ok cl_ok _) s47 rfl rfl tl Q7.nil (λ_ _=>⟨rfl,rfl⟩) (λ_ _=>⟨rfl,rfl⟩) m_eq
def con:Con:=Qa g f m default
theorem con_ok:QC Tryz.prog 47 con:=Q9 known (λ_=>rfl) rfl
end M47
end Go.Proofs.YtpbplpgfloaaiaaGreatDoor
namespace Go.Proofs.YtpbplpgfloaaiaaGreatDoor
open Go.Abs
namespace M96
structure gX where(x n:Int)
def g:Sg gX:=⟨[.c (.it .u64),.c (.it .i64)],[],λa b=>⟨a.1,a.2.1⟩,λx=>(x.x,(x.n,())),λx=>()⟩
abbrev fY:=Bool
def f:Ft fY:=⟨none,.c (.bo),[],λa b=>(a),λy=>y,λy=>()⟩
def cl:List (FuncId×Con):=[]
theorem cl_ok:Q8 Tryz.prog cl:=trivial
def E0:Env:=⟨ty,QE cl,λ_=>none,none⟩
def m(x:gX):Option fY:=bif decide (0<=x.n)||!decide (x.n<64) then some (bif decide (x.n<64) then x.x.fdiv (2^min x.n.toNat 64) !=0 else false) else none
theorem m_eq(x:gX):exec E0 13 C96 0 (QD 0 (g.A x)) (g.H x) (finish 0 ty [.tmp 4] f)=m x:=by kernel_rfl
theorem tl:QA C96 0=[]:=by kernel_rfl
theorem known:QB Tryz.prog 96 g f m:=
 Q5 mixed (Q4 ty_ok cl_ok _) s96 rfl rfl tl Q7.nil (λ_ _=>⟨rfl,rfl⟩) (λ_ _=>⟨rfl,rfl⟩) m_eq
def con:Con:=Qa g f m default
theorem con_ok:QC Tryz.prog 96 con:=Q9 known (λ_=>rfl) rfl
end M96
namespace M97
structure gX where(x i:Int)
def g:Sg gX:=⟨[.c (.it .u64),.c (.it .i64)],[],λa b=>⟨a.1,a.2.1⟩,λx=>(x.x,(x.i,())),λx=>()⟩
abbrev fY:=Bool
def f:Ft fY:=⟨none,.c (.bo),[],λa b=>(a),λy=>y,λy=>()⟩
def cl:List (FuncId×Con):=[]
theorem cl_ok:Q8 Tryz.prog cl:=trivial
def E0:Env:=⟨ty,QE cl,λ_=>none,none⟩
def m(x:gX):Option fY:=bif decide (0<=x.i) then some (IntKind.u64.wrap (↑(BitVec.ofInt 64 (x.x.fdiv (2^min x.i.toNat 64))&&&BitVec.ofInt 64 1).toNat:Int)==1) else none
theorem m_eq(x:gX):exec E0 10 C97 0 (QD 0 (g.A x)) (g.H x) (finish 0 ty [.tmp 4] f)=m x:=by kernel_rfl
theorem tl:QA C97 0=[]:=by kernel_rfl
theorem known:QB Tryz.prog 97 g f m:=
 Q5 mixed (Q4 ty_ok cl_ok _) s97 rfl rfl tl Q7.nil (λ_ _=>⟨rfl,rfl⟩) (λ_ _=>⟨rfl,rfl⟩) m_eq
def con:Con:=Qa g f m default
theorem con_ok:QC Tryz.prog 97 con:=Q9 known (λ_=>rfl) rfl
end M97
namespace M95
structure gX where(v:Int)
def g:Sg gX:=⟨[.c (.it .u8)],[],λa b=>⟨a.1⟩,λx=>(x.v,()),λx=>()⟩
abbrev fY:=Bool
def f:Ft fY:=⟨none,.c (.bo),[],λa b=>(a),λy=>y,λy=>()⟩
def cl:List (FuncId×Con):=[]
theorem cl_ok:Q8 Tryz.prog cl:=trivial
def E0:Env:=⟨ty,QE cl,λ_=>none,none⟩
def m(x:gX):Option fY:=some (decide (x.v>2))
theorem m_eq(x:gX):exec E0 5 C95 0 (QD 0 (g.A x)) (g.H x) (finish 0 ty [.tmp 2] f)=m x:=by kernel_rfl
theorem tl:QA C95 0=[]:=by kernel_rfl
theorem known:QB Tryz.prog 95 g f m:=
 Q5 mixed (Q4 ty_ok cl_ok _) s95 rfl rfl tl Q7.nil (λ_ _=>⟨rfl,rfl⟩) (λ_ _=>⟨rfl,rfl⟩) m_eq
def con:Con:=Qa g f m default
theorem con_ok:QC Tryz.prog 95 con:=Q9 known (λ_=>rfl) rfl
end M95
namespace M116d
structure gX where(s:List (Int))
def g:Sg gX:=⟨[.c (.arr (.int .u8)),.c (.fn 95)],[],λa b=>⟨a.1⟩,λx=>(x.s,((),())),λx=>()⟩
abbrev fY:=Int
def f:Ft fY:=⟨none,.c (.it .i64),[],λa b=>(a),λy=>y,λy=>()⟩
def cl:List (FuncId×Con):=[(95,M95.con)]
theorem cl_ok:Q8 Tryz.prog cl:=⟨M95.con_ok,trivial⟩
def E1:Env:=⟨ty,QE cl,λ_=>none,none⟩
structure p0X where(s:List (Int))(n i:Int)
def p0:Pt p0X where
 own:=[]
 t:=⟨[(0,.c (.arr (.int .u8))),(1,.c (.fn 95)),(7,.c (.it .i64)),(8,.c (.it .i64))],[]⟩
 to:=λv=>⟨v.1.1,v.1.2.2.1,v.1.2.2.2.1⟩
 fr:=λx=>((x.s,((),(x.n,(x.i,())))),())
abbrev q0X:=Unit
def q0:Pt q0X where
 own:=[]
 t:=⟨[],[]⟩
 to:=λv=>()
 fr:=λx=>((),())
structure z0X where(r:Int)
def z0:Pt z0X where
 own:=[]
 t:=⟨[(4,.c (.it .i64))],[]⟩
 to:=λv=>⟨v.1.1⟩
 fr:=λx=>((x.r,()),())
def s0(x:p0X):Option (p0X⊕(q0X⊕z0X)):=bif decide (x.i<x.n) then bif inR x.i x.s.length then bindO (M95.m ⟨x.s[x.i.toNat]?.getD 0⟩) λy=>bif y then some (Sum.inr (Sum.inr ⟨x.i⟩)) else some (Sum.inl ⟨x.s,x.n,IntKind.i64.wrap (x.i+1)⟩) else none else some (Sum.inr (Sum.inl PUnit.unit))
theorem s0_eq(x:p0X):exec E1 19 (C116.Q0 0) 1 (p0.R x) (p0.H x) (J9 0 p0 (.exit 0) q0 .ret z0)=s0 x:=by kernel_rfl
def l0:QJ:=JA 0 p0 (.exit 0) q0 .ret z0 s0
theorem tl0:QA (C116.Q0 0) 1=[]:=by kernel_rfl
theorem l0_ok  :QF Tryz.prog 19 none 0 (C116.Q0 0) l0:=Qd mixed (Q4 ty_ok cl_ok _) (by trivial) (by trivial) (λ_=>rfl) (λ_=>rfl) (λ_=>rfl) (tl0▸Q7.nil) s0_eq
def E0:Env:=⟨ty,QE cl,Qi [(0,l0)],none⟩
def m(x:gX):Option fY:=bindO (iter s0 ⟨x.s,(↑x.s.length:Int),0⟩) λs=>sumC s (λy=>some (-1)) λz=>some z.r
theorem m_eq(x:gX):exec E0 19 C116 0 (QD 0 (g.A x)) (g.H x) (finish 0 ty [.tmp 4] f)=m x:=by kernel_rfl
theorem tl:QA C116 0=[(0,C116.Q0 0)]:=by kernel_rfl
theorem known:QB Tryz.prog 116 g f m:=
 Q5 mixed (Q4 ty_ok cl_ok _) s116 rfl rfl tl (Q7.cons rfl l0_ok Q7.nil) (λ_ _=>⟨rfl,rfl⟩) (λ_ _=>⟨rfl,rfl⟩) m_eq
def con:Con:=Qa g f m default
theorem con_ok:QC Tryz.prog 116 con:=Q9 known (λ_=>rfl) rfl
end M116d
namespace M76d
structure gX where(s:List (Int))
def g:Sg gX:=⟨[.c (.arr (.int .u8)),.c (.fn 95)],[],λa b=>⟨a.1⟩,λx=>(x.s,((),())),λx=>()⟩
abbrev fY:=Bool
def f:Ft fY:=⟨none,.c (.bo),[],λa b=>(a),λy=>y,λy=>()⟩
def cl:List (FuncId×Con):=[(116,M116d.con)]
theorem cl_ok:Q8 Tryz.prog cl:=⟨M116d.con_ok,trivial⟩
def E0:Env:=⟨ty,QE cl,λ_=>none,none⟩
def m(x:gX):Option fY:=bindO (M116d.m ⟨x.s⟩) λy=>some (decide (y>=0))
theorem m_eq(x:gX):exec E0 9 C76 0 (QD 0 (g.A x)) (g.H x) (finish 0 ty [.tmp 4] f)=m x:=by kernel_rfl
theorem tl:QA C76 0=[]:=by kernel_rfl
theorem known:QB Tryz.prog 76 g f m:=
 Q5 mixed (Q4 ty_ok cl_ok _) s76 rfl rfl tl Q7.nil (λ_ _=>⟨rfl,rfl⟩) (λ_ _=>⟨rfl,rfl⟩) m_eq
def con:Con:=Qa g f m default
theorem con_ok:QC Tryz.prog 76 con:=Q9 known (λ_=>rfl) rfl
end M76d
namespace M137
structure gX where(x kouts:Int)(kcols:List (Int))
def g:Sg gX:=⟨[.c (.it .u64),.c (.ptr 0 0)],[.st [.it .i64,.arr (.int .u64)] 1 0],λa b=>⟨a.1,b.1.1,b.1.2.1⟩,λx=>(x.x,((),())),λx=>((x.kouts,(x.kcols,())),())⟩
abbrev fY:=Bool×Int×List (Int)
def f:Ft fY:=⟨none,.c (.bo),[.st [.it .i64,.arr (.int .u64)] 1 0],λa b=>(a,b.1.1,b.1.2.1),λy=>y.1,λy=>((y.2.1,(y.2.2,())),())⟩
def cl:List (FuncId×Con):=[(96,M96.con)]
theorem cl_ok:Q8 Tryz.prog cl:=⟨M96.con_ok,trivial⟩
def E0:Env:=⟨ty,QE cl,λ_=>none,none⟩
def m(x:gX):Option fY:=bindO (M96.m ⟨x.x,x.kouts⟩) λy=>some (y,x.kouts,x.kcols)
theorem m_eq(x:gX):exec E0 8 C137 0 (QD 0 (g.A x)) (g.H x) (finish 1 ty [.tmp 3] f)=m x:=by kernel_rfl
theorem tl:QA C137 0=[]:=by kernel_rfl
theorem known:QB Tryz.prog 137 g f m:=
 Q5 mixed (Q4 ty_ok cl_ok _) s137 rfl rfl tl Q7.nil (λ_ _=>⟨rfl,rfl⟩) (λ_ _=>⟨rfl,rfl⟩) m_eq
theorem hh{x:gX}{y:fY}(h:m x=some y):f.H y=g.H x:=by unfold m at h;obtain⟨r,h1,h2⟩:=QK h;cases h2;rfl
def con:Con:=ZR g [.arg 1 0] f m default
theorem con_ok:QC Tryz.prog 137 con:=J4 known (λ_=>rfl) (λ_ _ h=>by exact hh h)
end M137
namespace M162
structure gX where(s:List (Int))(kouts:Int)(kcols:List (Int))
def g:Sg gX:=⟨[.c (.arr (.int .u64)),.c (.clo 137 [⟨0,0,0⟩])],[.st [.it .i64,.arr (.int .u64)] 1 0],λa b=>⟨a.1,b.1.1,b.1.2.1⟩,λx=>(x.s,((),())),λx=>((x.kouts,(x.kcols,())),())⟩
abbrev fY:=Int×Int×List (Int)
def f:Ft fY:=⟨none,.c (.it .i64),[.st [.it .i64,.arr (.int .u64)] 1 0],λa b=>(a,b.1.1,b.1.2.1),λy=>y.1,λy=>((y.2.1,(y.2.2,())),())⟩
def cl:List (FuncId×Con):=[(137,M137.con)]
theorem cl_ok:Q8 Tryz.prog cl:=⟨M137.con_ok,trivial⟩
def E1:Env:=⟨ty,QE cl,λ_=>none,none⟩
structure p0X where(s:List (Int))(n i kouts:Int)(kcols:List (Int))
def p0:Pt p0X where
 own:=[]
 t:=⟨[(0,.c (.arr (.int .u64))),(1,.c (.clo 137 [⟨0,0,0⟩])),(7,.c (.it .i64)),(8,.c (.it .i64))],[.st [.it .i64,.arr (.int .u64)] 1 0]⟩
 to:=λv=>⟨v.1.1,v.1.2.2.1,v.1.2.2.2.1,v.2.1.1,v.2.1.2.1⟩
 fr:=λx=>((x.s,((),(x.n,(x.i,())))),((x.kouts,(x.kcols,())),()))
structure q0X where(kouts:Int)(kcols:List (Int))
def q0:Pt q0X where
 own:=[]
 t:=⟨[],[.st [.it .i64,.arr (.int .u64)] 1 0]⟩
 to:=λv=>⟨v.2.1.1,v.2.1.2.1⟩
 fr:=λx=>((),((x.kouts,(x.kcols,())),()))
structure z0X where(r kouts:Int)(kcols:List (Int))
def z0:Pt z0X where
 own:=[]
 t:=⟨[(4,.c (.it .i64))],[.st [.it .i64,.arr (.int .u64)] 1 0]⟩
 to:=λv=>⟨v.1.1,v.2.1.1,v.2.1.2.1⟩
 fr:=λx=>((x.r,()),((x.kouts,(x.kcols,())),()))
def s0(x:p0X):Option (p0X⊕(q0X⊕z0X)):=bif decide (x.i<x.n) then bif inR x.i x.s.length then bindO (M137.m ⟨x.s[x.i.toNat]?.getD 0,x.kouts,x.kcols⟩) λy=>bif y.1 then some (Sum.inr (Sum.inr ⟨x.i,x.kouts,x.kcols⟩)) else some (Sum.inl ⟨x.s,x.n,IntKind.i64.wrap (x.i+1),x.kouts,x.kcols⟩) else none else some (Sum.inr (Sum.inl ⟨x.kouts,x.kcols⟩))
theorem s0_eq(x:p0X):exec E1 19 (C162.Q0 0) 1 (p0.R x) (p0.H x) (J9 1 p0 (.exit 0) q0 .ret z0)=s0 x:=by kernel_rfl
def l0:QJ:=JA 1 p0 (.exit 0) q0 .ret z0 s0
theorem tl0:QA (C162.Q0 0) 1=[]:=by kernel_rfl
theorem l0_ok  :QF Tryz.prog 19 none 1 (C162.Q0 0) l0:=Qd mixed (Q4 ty_ok cl_ok _) (by trivial) (by trivial) (λ_=>rfl) (λ_=>rfl) (λ_=>rfl) (tl0▸Q7.nil) s0_eq
def E0:Env:=⟨ty,QE cl,Qi [(0,l0)],none⟩
def m(x:gX):Option fY:=bindO (iter s0 ⟨x.s,(↑x.s.length:Int),0,x.kouts,x.kcols⟩) λs=>sumC s (λy=>some (-1,y.kouts,y.kcols)) λz=>some (z.r,z.kouts,z.kcols)
theorem m_eq(x:gX):exec E0 19 C162 0 (QD 0 (g.A x)) (g.H x) (finish 1 ty [.tmp 4] f)=m x:=by kernel_rfl
theorem tl:QA C162 0=[(0,C162.Q0 0)]:=by kernel_rfl
theorem known:QB Tryz.prog 162 g f m:=
 Q5 mixed (Q4 ty_ok cl_ok _) s162 rfl rfl tl (Q7.cons rfl l0_ok Q7.nil) (λ_ _=>⟨rfl,rfl⟩) (λ_ _=>⟨rfl,rfl⟩) m_eq
theorem hh{x:gX}{y:fY}(h:m x=some y):f.H y=g.H x:=by
 unfold m at h;obtain⟨r,h1,h2⟩:=QK h;have h3:=Jy (λz=>z.kouts=x.kouts/\z.kcols=x.kcols) (λr=>match r with|.inl y=>y.kouts=x.kouts/\y.kcols=x.kcols|.inr z=>z.kouts=x.kouts/\z.kcols=x.kcols) (λz r hz hr=>by
  unfold s0 at hr;rcases cond_some hr with ⟨_,hr⟩|⟨_,hr⟩
  ·rcases cond_some hr with ⟨_,hr⟩|⟨_,hr⟩
   ·obtain⟨b,_,hr⟩:=QK hr;rcases cond_some hr with ⟨_,hr⟩|⟨_,hr⟩<;>(cases hr;exact hz)
   ·cases hr
  ·cases hr;exact hz) ⟨rfl,rfl⟩ h1
 rcases sumC_some h2 with ⟨z,rfl,h4⟩|⟨z,rfl,h4⟩<;>(cases h4;obtain⟨e1,e2⟩:=h3;simp only[Ft.H,Sg.H,f,g,e1,e2])
def con:Con:=ZR g [.arg 1 0] f m default
theorem con_ok:QC Tryz.prog 162 con:=J4 known (λ_=>rfl) (λ_ _ h=>by exact hh h)
end M162
namespace M136
structure gX where(s:List (Int))(kouts:Int)(kcols:List (Int))
def g:Sg gX:=⟨[.c (.arr (.int .u64)),.c (.clo 137 [⟨0,0,0⟩])],[.st [.it .i64,.arr (.int .u64)] 1 0],λa b=>⟨a.1,b.1.1,b.1.2.1⟩,λx=>(x.s,((),())),λx=>((x.kouts,(x.kcols,())),())⟩
abbrev fY:=Bool×Int×List (Int)
def f:Ft fY:=⟨none,.c (.bo),[.st [.it .i64,.arr (.int .u64)] 1 0],λa b=>(a,b.1.1,b.1.2.1),λy=>y.1,λy=>((y.2.1,(y.2.2,())),())⟩
def cl:List (FuncId×Con):=[(162,M162.con)]
theorem cl_ok:Q8 Tryz.prog cl:=⟨M162.con_ok,trivial⟩
def E0:Env:=⟨ty,QE cl,λ_=>none,none⟩
def m(x:gX):Option fY:=bindO (M162.m ⟨x.s,x.kouts,x.kcols⟩) λy=>some (decide (y.1>=0),x.kouts,x.kcols)
theorem m_eq(x:gX):exec E0 9 C136 0 (QD 0 (g.A x)) (g.H x) (finish 1 ty [.tmp 4] f)=m x:=by kernel_rfl
theorem tl:QA C136 0=[]:=by kernel_rfl
theorem known:QB Tryz.prog 136 g f m:=
 Q5 mixed (Q4 ty_ok cl_ok _) s136 rfl rfl tl Q7.nil (λ_ _=>⟨rfl,rfl⟩) (λ_ _=>⟨rfl,rfl⟩) m_eq
theorem hh{x:gX}{y:fY}(h:m x=some y):f.H y=g.H x:=by unfold m at h;obtain⟨r,h1,h2⟩:=QK h;cases h2;rfl
def con:Con:=ZR g [.arg 1 0] f m default
theorem con_ok:QC Tryz.prog 136 con:=J4 known (λ_=>rfl) (λ_ _ h=>by exact hh h)
end M136
namespace M94
structure gX where(kouts:Int)(kcols:List (Int))
def g:Sg gX:=⟨[.agg [.it .i64,.arr (.int .u64)]],[],λa b=>⟨a.1.1,a.1.2.1⟩,λx=>((x.kouts,(x.kcols,())),()),λx=>()⟩
abbrev fY:=Int
def f:Ft fY:=⟨none,.c (.it .i64),[],λa b=>(a),λy=>y,λy=>()⟩
def cl:List (FuncId×Con):=[(136,M136.con)]
theorem cl_ok:Q8 Tryz.prog cl:=⟨M136.con_ok,trivial⟩
def E0:Env:=⟨ty,QE cl,λ_=>none,none⟩
def m(x:gX):Option fY:=bif decide (x.kouts<0) then some 1 else bif bif decide (x.kouts>64) then true else decide ((↑x.kcols.length:Int)>64) then some 3 else bindO (M136.m ⟨x.kcols,x.kouts,x.kcols⟩) λy=>bif y.1 then some 1 else some 0
theorem m_eq(x:gX):exec E0 22 C94 0 (QD 0 (g.A x)) (g.H x) (finish 0 ty [.tmp 2] f)=m x:=by kernel_rfl
theorem tl:QA C94 0=[]:=by kernel_rfl
theorem known:QB Tryz.prog 94 g f m:=
 Q5 mixed (Q4 ty_ok cl_ok _) s94 rfl rfl tl Q7.nil (λ_ _=>⟨rfl,rfl⟩) (λ_ _=>⟨rfl,rfl⟩) m_eq
def con:Con:=Qa g f m default
theorem con_ok:QC Tryz.prog 94 con:=Q9 known (λ_=>rfl) rfl
end M94
namespace M49
structure gX where(kouts:Int)(kcols:List (Int))(mask:Int)(l:List (List (Int)))
def g:Sg gX:=⟨[.agg [.it .i64,.arr (.int .u64)],.c (.it .u64),.c (.arr (.sl (.int .u8)))],[],λa b=>⟨a.1.1,a.1.2.1,a.2.1,a.2.2.1⟩,λx=>((x.kouts,(x.kcols,())),(x.mask,(x.l,()))),λx=>()⟩
abbrev fY:=Int
def f:Ft fY:=⟨none,.c (.it .i64),[],λa b=>(a),λy=>y,λy=>()⟩
def cl:List (FuncId×Con):=[(94,M94.con),(76,M76d.con),(96,M96.con)]
theorem cl_ok:Q8 Tryz.prog cl:=⟨M94.con_ok,M76d.con_ok,M96.con_ok,trivial⟩
def E2:Env:=⟨ty,QE cl,λ_=>none,none⟩
structure p1X where(mask:Int)(w:List (List (Int)))(n i kouts:Int)(kcols:List (Int))
def p1:Pt p1X where
 own:=[]
 t:=⟨[(1,.c (.it .u64)),(3,.c (.ptr 0 0)),(30,.c (.arr (.sl (.int .u8)))),(31,.c (.it .i64)),(32,.c (.it .i64))],[.st [.it .i64,.arr (.int .u64)] 1 0]⟩
 to:=λv=>⟨v.1.1,v.1.2.2.1,v.1.2.2.2.1,v.1.2.2.2.2.1,v.2.1.1,v.2.1.2.1⟩
 fr:=λx=>((x.mask,((),(x.w,(x.n,(x.i,()))))),((x.kouts,(x.kcols,())),()))
structure q1X where(mask kouts:Int)(kcols:List (Int))
def q1:Pt q1X where
 own:=[]
 t:=⟨[(1,.c (.it .u64)),(3,.c (.ptr 0 0))],[.st [.it .i64,.arr (.int .u64)] 1 0]⟩
 to:=λv=>⟨v.1.1,v.2.1.1,v.2.1.2.1⟩
 fr:=λx=>((x.mask,((),())),((x.kouts,(x.kcols,())),()))
structure z1X where(r:Int)
def z1:Pt z1X where
 own:=[]
 t:=⟨[(6,.c (.it .i64))],[]⟩
 to:=λv=>⟨v.1.1⟩
 fr:=λx=>((x.r,()),())
def s1(x:p1X):Option (p1X⊕(q1X⊕z1X)):=bif decide (x.i<x.n) then bif inR x.i x.w.length then bindO (M76d.m ⟨x.w[x.i.toNat]?.getD []⟩) λy=>bif y then some (Sum.inr (Sum.inr ⟨1⟩)) else some (Sum.inl ⟨x.mask,x.w,x.n,IntKind.i64.wrap (x.i+1),x.kouts,x.kcols⟩) else none else some (Sum.inr (Sum.inl ⟨x.mask,x.kouts,x.kcols⟩))
theorem s1_eq(x:p1X):exec E2 44 (C49.Q0 1) 2 (p1.R x) (p1.H x) (J9 0 p1 (.exit 2) q1 .ret z1)=s1 x:=by kernel_rfl
def l1:QJ:=JA 0 p1 (.exit 2) q1 .ret z1 s1
theorem tl1:QA (C49.Q0 1) 2=[]:=by kernel_rfl
theorem l1_ok  :QF Tryz.prog 44 none 0 (C49.Q0 1) l1:=Qd mixed (Q4 ty_ok cl_ok _) (by trivial) (by trivial) (λ_=>rfl) (λ_=>rfl) (λ_=>rfl) (tl1▸Q7.nil) s1_eq
def E1:Env:=⟨ty,QE cl,Qi [(1,l1)],none⟩
structure p0X where(mask:Int)(l w:List (List (Int)))(n i kouts:Int)(kcols:List (Int))
def p0:Pt p0X where
 own:=[]
 t:=⟨[(1,.c (.it .u64)),(2,.c (.arr (.sl (.int .u8)))),(3,.c (.ptr 0 0)),(17,.c (.arr (.sl (.int .u8)))),(18,.c (.it .i64)),(19,.c (.it .i64))],[.st [.it .i64,.arr (.int .u64)] 1 0]⟩
 to:=λv=>⟨v.1.1,v.1.2.1,v.1.2.2.2.1,v.1.2.2.2.2.1,v.1.2.2.2.2.2.1,v.2.1.1,v.2.1.2.1⟩
 fr:=λx=>((x.mask,(x.l,((),(x.w,(x.n,(x.i,())))))),((x.kouts,(x.kcols,())),()))
structure q0X where(mask:Int)(l:List (List (Int)))(kouts:Int)(kcols:List (Int))
def q0:Pt q0X where
 own:=[]
 t:=⟨[(1,.c (.it .u64)),(2,.c (.arr (.sl (.int .u8)))),(3,.c (.ptr 0 0))],[.st [.it .i64,.arr (.int .u64)] 1 0]⟩
 to:=λv=>⟨v.1.1,v.1.2.1,v.2.1.1,v.2.1.2.1⟩
 fr:=λx=>((x.mask,(x.l,((),()))),((x.kouts,(x.kcols,())),()))
structure z0X where(r:Int)
def z0:Pt z0X where
 own:=[]
 t:=⟨[(6,.c (.it .i64))],[]⟩
 to:=λv=>⟨v.1.1⟩
 fr:=λx=>((x.r,()),())
def s0(x:p0X):Option (p0X⊕(q0X⊕z0X)):=bif decide (x.i<x.n) then bif inR x.i x.w.length then bif (↑(List.length (x.w[x.i.toNat]?.getD [])):Int) !=(↑x.kcols.length:Int) then some (Sum.inr (Sum.inr ⟨8⟩)) else some (Sum.inl ⟨x.mask,x.l,x.w,x.n,IntKind.i64.wrap (x.i+1),x.kouts,x.kcols⟩) else none else some (Sum.inr (Sum.inl ⟨x.mask,x.l,x.kouts,x.kcols⟩))
theorem s0_eq(x:p0X):exec E1 44 (C49.Q0 0) 1 (p0.R x) (p0.H x) (J9 0 p0 (.exit 0) q0 .ret z0)=s0 x:=by kernel_rfl
def l0:QJ:=JA 0 p0 (.exit 0) q0 .ret z0 s0
theorem tl0:QA (C49.Q0 0) 1=[]:=by kernel_rfl
theorem l0_ok  :QF Tryz.prog 44 none 0 (C49.Q0 0) l0:=Qd mixed (Q4 ty_ok cl_ok _) (by trivial) (by trivial) (λ_=>rfl) (λ_=>rfl) (λ_=>rfl) (tl0▸Q7.nil) s0_eq
def E0:Env:=⟨ty,QE cl,Qi [(0,l0),(1,l1)],none⟩
def m(x:gX):Option fY:=bindO (M94.m ⟨x.kouts,x.kcols⟩) λy=>bif y !=0 then some y else bindO (iter s0 ⟨x.mask,x.l,x.l,(↑x.l.length:Int),0,x.kouts,x.kcols⟩) λs=>sumC s (λy=>bindO (iter s1 ⟨y.mask,y.l,(↑y.l.length:Int),0,y.kouts,y.kcols⟩) λs=>sumC s (λy=>bindO (M96.m ⟨y.mask,(↑y.kcols.length:Int)⟩) λy=>bif y then some 1 else some 0) λz=>some z.r) λz=>some z.r
theorem m_eq(x:gX):exec E0 44 C49 0 (QD 0 (g.A x)) (g.H x) (finish 0 ty [.tmp 6] f)=m x:=by kernel_rfl
theorem tl:QA C49 0=[(0,C49.Q0 0),(1,C49.Q0 1)]:=by kernel_rfl
theorem known:QB Tryz.prog 49 g f m:=
 Q5 mixed (Q4 ty_ok cl_ok _) s49 rfl rfl tl (Q7.cons rfl l0_ok (Q7.cons rfl l1_ok Q7.nil)) (λ_ _=>⟨rfl,rfl⟩) (λ_ _=>⟨rfl,rfl⟩) m_eq
def con:Con:=Qa g f m default
theorem con_ok:QC Tryz.prog 49 con:=Q9 known (λ_=>rfl) rfl
end M49
namespace M50
structure gX where(kouts:Int)(kcols s:List (Int))(mask:Int)
def g:Sg gX:=⟨[.agg [.it .i64,.arr (.int .u64)],.c (.arr (.int .u8)),.c (.it .u64)],[],λa b=>⟨a.1.1,a.1.2.1,a.2.1,a.2.2.1⟩,λx=>((x.kouts,(x.kcols,())),(x.s,(x.mask,()))),λx=>()⟩
abbrev fY:=List (Int)
def f:Ft fY:=⟨none,.c (.arr (.int .u8)),[],λa b=>(a),λy=>y,λy=>()⟩
def cl:List (FuncId×Con):=[(97,M97.con)]
theorem cl_ok:Q8 Tryz.prog cl:=⟨M97.con_ok,trivial⟩
def E2:Env:=⟨ty,QE cl,λ_=>none,none⟩
structure p1X where(mask:Int)(out_lo out_len out_cap:Nat)(s:List (Int))(n i c v m o kouts:Int)(kcols xs:List (Int))
def p1:Pt p1X where
 own:=[]
 t:=⟨[(2,.c (.it .u64)),(3,.c (.ptr 0 0)),(7,.c (.slc 1 0 1)),(14,.c (.arr (.int .u8))),(15,.c (.it .i64)),(16,.c (.it .i64)),(8,.c (.it .i64)),(9,.c (.it .u8)),(25,.c (.it .i64)),(26,.c (.it .i64))],[.st [.it .i64,.arr (.int .u64)] 1 0,.arr (.int .u8) 0]⟩
 to:=λv=>⟨v.1.1,v.1.2.2.1.1,v.1.2.2.1.2.1,v.1.2.2.1.2.2,v.1.2.2.2.1,v.1.2.2.2.2.1,v.1.2.2.2.2.2.1,v.1.2.2.2.2.2.2.1,v.1.2.2.2.2.2.2.2.1,v.1.2.2.2.2.2.2.2.2.1,v.1.2.2.2.2.2.2.2.2.2.1,v.2.1.1,v.2.1.2.1,v.2.2.1⟩
 fr:=λx=>((x.mask,((),((x.out_lo,x.out_len,x.out_cap),(x.s,(x.n,(x.i,(x.c,(x.v,(x.m,(x.o,())))))))))),((x.kouts,(x.kcols,())),(x.xs,())))
structure q1X where(mask:Int)(out_lo out_len out_cap:Nat)(s:List (Int))(n i kouts:Int)(kcols xs:List (Int))
def q1:Pt q1X where
 own:=[]
 t:=⟨[(2,.c (.it .u64)),(3,.c (.ptr 0 0)),(7,.c (.slc 1 0 1)),(14,.c (.arr (.int .u8))),(15,.c (.it .i64)),(16,.c (.it .i64))],[.st [.it .i64,.arr (.int .u64)] 1 0,.arr (.int .u8) 0]⟩
 to:=λv=>⟨v.1.1,v.1.2.2.1.1,v.1.2.2.1.2.1,v.1.2.2.1.2.2,v.1.2.2.2.1,v.1.2.2.2.2.1,v.1.2.2.2.2.2.1,v.2.1.1,v.2.1.2.1,v.2.2.1⟩
 fr:=λx=>((x.mask,((),((x.out_lo,x.out_len,x.out_cap),(x.s,(x.n,(x.i,())))))),((x.kouts,(x.kcols,())),(x.xs,())))
def s1(x:p1X):Option (p1X⊕q1X):=bif decide (x.o<x.m) then bif inR x.c x.kcols.length then bindO (M97.m ⟨x.kcols[x.c.toNat]?.getD 0,x.o⟩) λy=>bif inR x.o x.out_len||!!!y then bif decide (x.out_lo+x.o.toNat<x.xs.length)||!!!y then bif bif !y then true else x.xs[x.out_lo+x.o.toNat]?.getD 0==2 then some (Sum.inl ⟨x.mask,x.out_lo,x.out_len,x.out_cap,x.s,x.n,x.i,x.c,x.v,x.m,IntKind.i64.wrap (x.o+1),x.kouts,x.kcols,x.xs⟩) else bif x.v==2 then bif inR x.o x.out_len then bif decide (x.out_lo+x.o.toNat<x.xs.length) then some (Sum.inl ⟨x.mask,x.out_lo,x.out_len,x.out_cap,x.s,x.n,x.i,x.c,x.v,x.m,IntKind.i64.wrap (x.o+1),x.kouts,x.kcols,x.xs.set (x.out_lo+x.o.toNat) 2⟩) else none else none else bif inR x.o x.out_len then bif decide (x.out_lo+x.o.toNat<x.xs.length) then bif inR x.o x.out_len then bif decide (x.out_lo+x.o.toNat<x.xs.length) then some (Sum.inl ⟨x.mask,x.out_lo,x.out_len,x.out_cap,x.s,x.n,x.i,x.c,x.v,x.m,IntKind.i64.wrap (x.o+1),x.kouts,x.kcols,x.xs.set (x.out_lo+x.o.toNat) (IntKind.u8.wrap (↑(BitVec.ofInt 8 (x.xs[x.out_lo+x.o.toNat]?.getD 0)^^^BitVec.ofInt 8 x.v).toNat:Int))⟩) else none else none else none else none else none else none else none else some (Sum.inr ⟨x.mask,x.out_lo,x.out_len,x.out_cap,x.s,x.n,x.i,x.kouts,x.kcols,x.xs⟩)
theorem s1_eq(x:p1X):exec E2 61 (C50.Q0 1) 2 (p1.R x) (p1.H x) (QP 0 p1 (.exit 2) q1)=s1 x:=by kernel_rfl
def l1:QJ:=QQ 0 p1 (.exit 2) q1 s1
theorem tl1:QA (C50.Q0 1) 2=[]:=by kernel_rfl
theorem l1_ok  :QF Tryz.prog 61 none 0 (C50.Q0 1) l1:=QG mixed (Q4 ty_ok cl_ok _) (by trivial) (λ_=>rfl) (λ_=>rfl) (tl1▸Q7.nil) s1_eq
def E1:Env:=⟨ty,QE cl,Qi [(1,l1)],none⟩
structure p0X where(mask:Int)(out_lo out_len out_cap:Nat)(s:List (Int))(n i kouts:Int)(kcols xs:List (Int))
def p0:Pt p0X where
 own:=[]
 t:=⟨[(2,.c (.it .u64)),(3,.c (.ptr 0 0)),(7,.c (.slc 1 0 1)),(14,.c (.arr (.int .u8))),(15,.c (.it .i64)),(16,.c (.it .i64))],[.st [.it .i64,.arr (.int .u64)] 1 0,.arr (.int .u8) 0]⟩
 to:=λv=>⟨v.1.1,v.1.2.2.1.1,v.1.2.2.1.2.1,v.1.2.2.1.2.2,v.1.2.2.2.1,v.1.2.2.2.2.1,v.1.2.2.2.2.2.1,v.2.1.1,v.2.1.2.1,v.2.2.1⟩
 fr:=λx=>((x.mask,((),((x.out_lo,x.out_len,x.out_cap),(x.s,(x.n,(x.i,())))))),((x.kouts,(x.kcols,())),(x.xs,())))
structure q0X where(out_lo out_len out_cap:Nat)(kouts:Int)(kcols xs:List (Int))
def q0:Pt q0X where
 own:=[]
 t:=⟨[(7,.c (.slc 1 0 1))],[.st [.it .i64,.arr (.int .u64)] 1 0,.arr (.int .u8) 0]⟩
 to:=λv=>⟨v.1.1.1,v.1.1.2.1,v.1.1.2.2,v.2.1.1,v.2.1.2.1,v.2.2.1⟩
 fr:=λx=>(((x.out_lo,x.out_len,x.out_cap),()),((x.kouts,(x.kcols,())),(x.xs,())))
def s0(x:p0X):Option (p0X⊕q0X):=bif decide (x.i<x.n) then bif inR x.i x.s.length then bindO (M97.m ⟨x.mask,x.i⟩) λy=>bif y then some (Sum.inl ⟨x.mask,x.out_lo,x.out_len,x.out_cap,x.s,x.n,IntKind.i64.wrap (x.i+1),x.kouts,x.kcols,x.xs⟩) else bindO (iter s1 ⟨x.mask,x.out_lo,x.out_len,x.out_cap,x.s,x.n,x.i,x.i,x.s[x.i.toNat]?.getD 0,(↑x.out_len:Int),0,x.kouts,x.kcols,x.xs⟩) λy=>some (Sum.inl ⟨y.mask,y.out_lo,y.out_len,y.out_cap,y.s,y.n,IntKind.i64.wrap (y.i+1),y.kouts,y.kcols,y.xs⟩) else none else some (Sum.inr ⟨x.out_lo,x.out_len,x.out_cap,x.kouts,x.kcols,x.xs⟩)
theorem s0_eq(x:p0X):exec E1 61 (C50.Q0 0) 1 (p0.R x) (p0.H x) (QP 0 p0 (.exit 0) q0)=s0 x:=by kernel_rfl
def l0:QJ:=QQ 0 p0 (.exit 0) q0 s0
theorem tl0:QA (C50.Q0 0) 1=[(1,C50.Q0 1)]:=by kernel_rfl
theorem l0_ok  :QF Tryz.prog 61 none 0 (C50.Q0 0) l0:=QG mixed (Q4 ty_ok cl_ok _) (by trivial) (λ_=>rfl) (λ_=>rfl) (tl0▸(Q7.cons rfl l1_ok Q7.nil)) s0_eq
def E0:Env:=⟨ty,QE cl,Qi [(0,l0),(1,l1)],none⟩
def m(x:gX):Option fY:=bif decide (0<=x.kouts)&&decide (x.kouts<=x.kouts)&&decide (x.kouts*(↑1:Int)<=281474976710656)&&decide (x.kouts<=9223372036854775807) then bindO (iter s0 ⟨x.mask,0,x.kouts.toNat,x.kouts.toNat,x.s,(↑x.s.length:Int),0,x.kouts,x.kcols,List.replicate x.kouts.toNat (0:Int)⟩) λy=>bif leB (y.out_lo+y.out_len) y.xs.length&&true&&true then some (List.take y.out_len (List.drop y.out_lo y.xs)) else none else none
theorem m_eq(x:gX):exec E0 61 C50 0 (QD 0 (g.A x)) (g.H x) (finish 0 ty [.tmp 6] f)=m x:=by kernel_rfl
theorem tl:QA C50 0=[(0,C50.Q0 0)]:=by kernel_rfl
theorem known:QB Tryz.prog 50 g f m:=
 Q5 mixed (Q4 ty_ok cl_ok _) s50 rfl rfl tl (Q7.cons rfl l0_ok Q7.nil) (λ_ _=>⟨rfl,rfl⟩) (λ_ _=>⟨rfl,rfl⟩) m_eq
def con:Con:=Qa g f m default
theorem con_ok:QC Tryz.prog 50 con:=Q9 known (λ_=>rfl) rfl
end M50
namespace M20
structure gX where(kouts:Int)(kcols good bad:List (Int))(mask:Int)
def g:Sg gX:=⟨[.agg [.it .i64,.arr (.int .u64)],.c (.arr (.int .u8)),.c (.arr (.int .u8)),.c (.it .u64)],[],λa b=>⟨a.1.1,a.1.2.1,a.2.1,a.2.2.1,a.2.2.2.1⟩,λx=>((x.kouts,(x.kcols,())),(x.good,(x.bad,(x.mask,())))),λx=>()⟩
abbrev fY:=List (Int)×Int
def f:Ft fY:=⟨none,.tup [.inl (.arr (.int .i64)),.inl (.it .i64)],[],λa b=>(a.1,a.2.1),λy=>(y.1,(y.2,())),λy=>()⟩
def cl:List (FuncId×Con):=[(49,M49.con),(50,M50.con),(34,M34o.con)]
theorem cl_ok:Q8 Tryz.prog cl:=⟨M49.con_ok,M50.con_ok,M34o.con_ok,trivial⟩
def E1:Env:=⟨ty,QE cl,λ_=>none,none⟩
structure p0X where(out_lo out_len:Nat)(x y:List (Int))(n i kouts:Int)(kcols xs:List (Int))
def p0:Pt p0X where
 own:=[.reg 11 (.int .i64)]
 t:=⟨[(4,.c (.ptr 0 0)),(11,.c (.sl 5 0 1)),(12,.c (.arr (.int .u8))),(13,.c (.arr (.int .u8))),(33,.c (.it .i64)),(34,.c (.it .i64))],[.st [.it .i64,.arr (.int .u64)] 1 0,.st [.junk] 1 0,.st [.junk] 1 0,.st [.junk] 1 0,.st [.junk] 1 0,.arr (.int .i64) 0]⟩
 to:=λv=>⟨v.1.2.1.1,v.1.2.1.2,v.1.2.2.1,v.1.2.2.2.1,v.1.2.2.2.2.1,v.1.2.2.2.2.2.1,v.2.1.1,v.2.1.2.1,v.2.2.2.2.2.2.1⟩
 fr:=λx=>(((),((x.out_lo,x.out_len),(x.x,(x.y,(x.n,(x.i,())))))),((x.kouts,(x.kcols,())),(((),()),(((),()),(((),()),(((),()),(x.xs,())))))))
structure q0X where(out_lo out_len:Nat)(kouts:Int)(kcols xs:List (Int))
def q0:Pt q0X where
 own:=[]
 t:=⟨[(11,.c (.sl 5 0 1))],[.st [.it .i64,.arr (.int .u64)] 1 0,.st [.junk] 1 0,.st [.junk] 1 0,.st [.junk] 1 0,.st [.junk] 1 0,.arr (.int .i64) 0]⟩
 to:=λv=>⟨v.1.1.1,v.1.1.2,v.2.1.1,v.2.1.2.1,v.2.2.2.2.2.2.1⟩
 fr:=λx=>(((x.out_lo,x.out_len),()),((x.kouts,(x.kcols,())),(((),()),(((),()),(((),()),(((),()),(x.xs,())))))))
def s0(x:p0X):Option (p0X⊕q0X):=bif decide (x.i<x.n) then bif inR x.i x.x.length then bif inR x.i x.y.length then bif IntKind.u8.wrap (x.x[x.i.toNat]?.getD 0+x.y[x.i.toNat]?.getD 0)==1 then bif eqN x.out_lo 0&&eqN x.xs.length x.out_len&&QT (x.out_len+1) 8 then some (Sum.inl ⟨0,x.out_len+1,x.x,x.y,x.n,IntKind.i64.wrap (x.i+1),x.kouts,x.kcols,x.xs++[x.i]⟩) else none else some (Sum.inl ⟨x.out_lo,x.out_len,x.x,x.y,x.n,IntKind.i64.wrap (x.i+1),x.kouts,x.kcols,x.xs⟩) else none else none else some (Sum.inr ⟨x.out_lo,x.out_len,x.kouts,x.kcols,x.xs⟩)
theorem s0_eq(x:p0X):exec E1 54 (C20.Q0 0) 1 (p0.R x) (p0.H x) (QP 0 p0 (.exit 0) q0)=s0 x:=by kernel_rfl
def l0:QJ:=QQ 0 p0 (.exit 0) q0 s0
theorem tl0:QA (C20.Q0 0) 1=[]:=by kernel_rfl
theorem l0_ok  :QF Tryz.prog 54 none 0 (C20.Q0 0) l0:=QG mixed (Q4 ty_ok cl_ok _) (by trivial) (λ_=>rfl) (λ_=>rfl) (tl0▸Q7.nil) s0_eq
def E0:Env:=⟨ty,QE cl,Qi [(0,l0)],none⟩
def m(x:gX):Option fY:=bindO (M49.m ⟨x.kouts,x.kcols,x.mask,[x.good,x.bad]⟩) λy=>bif y !=0 then some ([],y) else bindO (M50.m ⟨x.kouts,x.kcols,x.good,x.mask⟩) λy=>bindO (M50.m ⟨x.kouts,x.kcols,x.bad,x.mask⟩) λy_1=>bindO (iter s0 ⟨0,0,y,y_1,x.kouts,0,x.kouts,x.kcols,[]⟩) λy=>bindO (M34o.m ⟨y.out_lo,y.out_len,y.xs⟩) λy=>bif leB (y.1+y.2.1) y.2.2.2.length&&true&&true&&true then some (List.take y.2.1 (List.drop y.1 y.2.2.2),0) else none
theorem m_eq(x:gX):exec E0 54 C20 0 (QD 0 (g.A x)) (g.H x) (finish 0 ty [.tmp 8,.tmp 9] f)=m x:=by kernel_rfl
theorem tl:QA C20 0=[(0,C20.Q0 0)]:=by kernel_rfl
theorem known:QB Tryz.prog 20 g f m:=
 Q5 mixed (Q4 ty_ok cl_ok _) s20 rfl rfl tl (Q7.cons rfl l0_ok Q7.nil) (λ_ _=>⟨rfl,rfl⟩) (λ_ _=>⟨rfl,rfl⟩) m_eq
def con:Con:=Qa g f m default
theorem con_ok:QC Tryz.prog 20 con:=Q9 known (λ_=>rfl) rfl
end M20
namespace M21
structure gX where(s:List (Int))
def g:Sg gX:=⟨[.c (.arr (.int .u8))],[],λa b=>⟨a.1⟩,λx=>(x.s,()),λx=>()⟩
abbrev fY:=Int×Int
def f:Ft fY:=⟨none,.tup [.inl (.it .u64),.inl (.it .i64)],[],λa b=>(a.1,a.2.1),λy=>(y.1,(y.2,())),λy=>()⟩
def cl:List (FuncId×Con):=[]
theorem cl_ok:Q8 Tryz.prog cl:=trivial
def E1:Env:=⟨ty,QE cl,λ_=>none,none⟩
structure p0X where(mask:Int)(s:List (Int))(n i:Int)
def p0:Pt p0X where
 own:=[]
 t:=⟨[(2,.c (.it .u64)),(9,.c (.arr (.int .u8))),(10,.c (.it .i64)),(11,.c (.it .i64))],[]⟩
 to:=λv=>⟨v.1.1,v.1.2.1,v.1.2.2.1,v.1.2.2.2.1⟩
 fr:=λx=>((x.mask,(x.s,(x.n,(x.i,())))),())
structure q0X where(mask:Int)
def q0:Pt q0X where
 own:=[]
 t:=⟨[(2,.c (.it .u64))],[]⟩
 to:=λv=>⟨v.1.1⟩
 fr:=λx=>((x.mask,()),())
structure z0X where(mask e:Int)
def z0:Pt z0X where
 own:=[]
 t:=⟨[(2,.c (.it .u64)),(3,.c (.it .i64))],[]⟩
 to:=λv=>⟨v.1.1,v.1.2.1⟩
 fr:=λx=>((x.mask,(x.e,())),())
def s0(x:p0X):Option (p0X⊕(q0X⊕z0X)):=bif decide (x.i<x.n) then bif inR x.i x.s.length then bif decide (x.s[x.i.toNat]?.getD 0>2) then some (Sum.inr (Sum.inr ⟨0,1⟩)) else bif bif decide (0<=x.i)&&true then true else bif x.s[x.i.toNat]?.getD 0==2 then false else true then some (Sum.inl ⟨bif x.s[x.i.toNat]?.getD 0==2 then IntKind.u64.wrap (↑(BitVec.ofInt 64 x.mask|||BitVec.ofInt 64 (IntKind.u64.wrap (1*2^min x.i.toNat 64))).toNat:Int) else x.mask,x.s,x.n,IntKind.i64.wrap (x.i+1)⟩) else none else none else some (Sum.inr (Sum.inl ⟨x.mask⟩))
theorem s0_eq(x:p0X):exec E1 28 (C21.Q0 0) 1 (p0.R x) (p0.H x) (J9 0 p0 (.exit 0) q0 .ret z0)=s0 x:=by kernel_rfl
def l0:QJ:=JA 0 p0 (.exit 0) q0 .ret z0 s0
theorem tl0:QA (C21.Q0 0) 1=[]:=by kernel_rfl
theorem l0_ok  :QF Tryz.prog 28 none 0 (C21.Q0 0) l0:=Qd mixed (Q4 ty_ok cl_ok _) (by trivial) (by trivial) (λ_=>rfl) (λ_=>rfl) (λ_=>rfl) (tl0▸Q7.nil) s0_eq
def E0:Env:=⟨ty,QE cl,Qi [(0,l0)],none⟩
def m(x:gX):Option fY:=bif decide ((↑x.s.length:Int)>64) then some (0,3) else bindO (iter s0 ⟨0,x.s,(↑x.s.length:Int),0⟩) λs=>sumC s (λy=>some (y.mask,0)) λz=>some (z.mask,z.e)
theorem m_eq(x:gX):exec E0 28 C21 0 (QD 0 (g.A x)) (g.H x) (finish 0 ty [.tmp 2,.tmp 3] f)=m x:=by kernel_rfl
theorem tl:QA C21 0=[(0,C21.Q0 0)]:=by kernel_rfl
theorem known:QB Tryz.prog 21 g f m:=
 Q5 mixed (Q4 ty_ok cl_ok _) s21 rfl rfl tl (Q7.cons rfl l0_ok Q7.nil) (λ_ _=>⟨rfl,rfl⟩) (λ_ _=>⟨rfl,rfl⟩) m_eq
def con:Con:=Qa g f m default
theorem con_ok:QC Tryz.prog 21 con:=Q9 known (λ_=>rfl) rfl
end M21
namespace M19
structure gX where(xouts:Int)(xcols:List (Int))
def g:Sg gX:=⟨[.agg [.it .u8,.arr (.int .u32)]],[],λa b=>⟨a.1.1,a.1.2.1⟩,λx=>((x.xouts,(x.xcols,())),()),λx=>()⟩
abbrev fY:=Int×List (Int)
def f:Ft fY:=⟨none,.agg [.it .i64,.arr (.int .u64)],[],λa b=>(a.1,a.2.1),λy=>(y.1,(y.2,())),λy=>()⟩
def cl:List (FuncId×Con):=[]
theorem cl_ok:Q8 Tryz.prog cl:=trivial
def E1:Env:=⟨ty,QE cl,λ_=>none,none⟩
structure p0X where(i xouts:Int)(xcols:List (Int))(kouts:Int)(kcols_lo kcols_len:Nat)(xs:List (Int))
def p0:Pt p0X where
 own:=[.cell 2 1 (.int .u64)]
 t:=⟨[(1,.c (.ptr 0 0)),(2,.c (.ptr 1 0)),(3,.c (.ptr 2 0)),(4,.c (.it .i64))],[.st [.it .u8,.arr (.int .u32)] 1 0,.st [.junk,.junk] 1 0,.st [.it .i64,.sl 3 0 1] 1 0,.arr (.int .u64) 0]⟩
 to:=λv=>⟨v.1.2.2.2.1,v.2.1.1,v.2.1.2.1,v.2.2.2.1.1,v.2.2.2.1.2.1.1,v.2.2.2.1.2.1.2,v.2.2.2.2.1⟩
 fr:=λx=>(((),((),((),(x.i,())))),((x.xouts,(x.xcols,())),(((),((),())),((x.kouts,((x.kcols_lo,x.kcols_len),())),(x.xs,())))))
structure q0X where(xouts:Int)(xcols:List (Int))(kouts:Int)(kcols_lo kcols_len:Nat)(xs:List (Int))
def q0:Pt q0X where
 own:=[]
 t:=⟨[(2,.c (.ptr 1 0)),(3,.c (.ptr 2 0))],[.st [.it .u8,.arr (.int .u32)] 1 0,.st [.junk,.junk] 1 0,.st [.it .i64,.sl 3 0 1] 1 0,.arr (.int .u64) 0]⟩
 to:=λv=>⟨v.2.1.1,v.2.1.2.1,v.2.2.2.1.1,v.2.2.2.1.2.1.1,v.2.2.2.1.2.1.2,v.2.2.2.2.1⟩
 fr:=λx=>(((),((),())),((x.xouts,(x.xcols,())),(((),((),())),((x.kouts,((x.kcols_lo,x.kcols_len),())),(x.xs,())))))
def s0(x:p0X):Option (p0X⊕q0X):=bif decide (x.i<(↑x.xcols.length:Int)) then bif inR x.i x.xcols.length then bif decide (0<=x.kouts) then bif nz (IntKind.u64.wrap (1*2^min x.kouts.toNat 64)) then bif eqN x.kcols_lo 0&&eqN x.xs.length x.kcols_len&&QT (x.kcols_len+1) 8 then some (Sum.inl ⟨IntKind.i64.wrap (x.i+1),x.xouts,x.xcols,x.kouts,0,x.kcols_len+1,x.xs++[(IntKind.u64.wrap (x.xcols[x.i.toNat]?.getD 0)).tmod (IntKind.u64.wrap (1*2^min x.kouts.toNat 64))]⟩) else none else none else none else none else some (Sum.inr ⟨x.xouts,x.xcols,x.kouts,x.kcols_lo,x.kcols_len,x.xs⟩)
theorem s0_eq(x:p0X):exec E1 33 (C19.Q0 0) 1 (p0.R x) (p0.H x) (QP 0 p0 (.exit 0) q0)=s0 x:=by kernel_rfl
def l0:QJ:=QQ 0 p0 (.exit 0) q0 s0
theorem tl0:QA (C19.Q0 0) 1=[]:=by kernel_rfl
theorem l0_ok  :QF Tryz.prog 33 none 0 (C19.Q0 0) l0:=QG mixed (Q4 ty_ok cl_ok _) (by trivial) (λ_=>rfl) (λ_=>rfl) (tl0▸Q7.nil) s0_eq
def E0:Env:=⟨ty,QE cl,Qi [(0,l0)],none⟩
def m(x:gX):Option fY:=bindO (iter s0 ⟨0,x.xouts,x.xcols,IntKind.i64.wrap (x.xouts.tmod 17),0,0,[]⟩) λy=>bif leB (y.kcols_lo+y.kcols_len) y.xs.length&&true&&true&&true then some (y.kouts,List.take y.kcols_len (List.drop y.kcols_lo y.xs)) else none
theorem m_eq(x:gX):exec E0 33 C19 0 (QD 0 (g.A x)) (g.H x) (finish 0 ty [.cell 2 85] f)=m x:=by kernel_rfl
theorem tl:QA C19 0=[(0,C19.Q0 0)]:=by kernel_rfl
theorem known:QB Tryz.prog 19 g f m:=
 Q5 mixed (Q4 ty_ok cl_ok _) s19 rfl rfl tl (Q7.cons rfl l0_ok Q7.nil) (λ_ _=>⟨rfl,rfl⟩) (λ_ _=>⟨rfl,rfl⟩) m_eq
def con:Con:=Qa g f m default
theorem con_ok:QC Tryz.prog 19 con:=Q9 known (λ_=>rfl) rfl
end M19
end Go.Proofs.YtpbplpgfloaaiaaGreatDoor
namespace Go.Proofs.YtpbplpgfloaaiaaGreatDoor
open Go.Abs
namespace Pl
theorem w8{x:Int}(h:0<=x)(h':x<=255):IntKind.u8.wrap x=x:=by simp[IntKind.wrap,IntKind.signed,IntKind.bits];omega
theorem w64{x:Int}(h: -9223372036854775808<=x)(h':x<=9223372036854775807):IntKind.i64.wrap x=x:=by simp[IntKind.wrap,IntKind.signed,IntKind.bits];omega
theorem wu64{x:Int}(h:0<=x)(h':x<=18446744073709551615):IntKind.u64.wrap x=x:=by simp[IntKind.wrap,IntKind.signed,IntKind.bits];omega
theorem inR_nat{i n:Nat}(h:i<n):inR (i:Int) n=true:=by simp[inR];omega
theorem next_run{i n:Nat}(h:i<n)(hn:n<=1000000):IntKind.i64.wrap ((i:Int)+1)=((i+1:Nat):Int):=by rw[w64 (by omega) (by omega)];omega
def at0(c:List Int)(i:Nat):Int:=c[i]?.getD 0
theorem at_set(c:List Int)(i j:Nat)(v:Int):at0 (c.set i v) j=if i=j/\j<c.length then v else at0 c j:=by
 unfold at0;rw[List.getElem?_set];by_cases h:i=j
 ·subst h;by_cases h2:i<c.length
  ·simp[h2]
  ·simp[h2]
 ·simp[h]
theorem at_repl(n i:Nat):at0 (List.replicate n 0) i=0:=by unfold at0;rw[List.getElem?_replicate];split<;>rfl
theorem list_eq{c d:List Int}(h:c.length=d.length)(e:∀i,i<c.length->at0 c i=at0 d i):c=d:=by apply C1 h;intro i h1 h2;have:=e i h1;unfold at0 at this;rw[A4 h1,A4 h2]at this;exact this
def W(x:Int):Prop:=0<=x/\x<18446744073709551616
def tb(x:Int)(i:Nat):Bool:=x.toNat.testBit i
theorem tb_eq(a i:Nat):tb (a:Int) i=decide (a / 2^i%2=1):=by unfold tb;rw[AC,Nat.testBit_eq_decide_div_mod_eq]
theorem fdiv_nat(a i:Nat)(hi:i<=64):(a:Int).fdiv (2^min i 64)=((a / 2^i:Nat):Int):=by
 rw[CS hi];have:(2:Int)^i=((2^i:Nat):Int):=by simp
 rw[this,Int.fdiv_eq_ediv_of_nonneg _ (Int.natCast_nonneg _)];rfl
theorem tb_rem{x:Int}(h:W x){i:Nat}(hi:i<=64):((x.fdiv (2^min i 64)).tmod 2==1)=tb x i:=by
 obtain⟨a,rfl⟩:∃a:Nat,x=a:=⟨x.toNat,by have:=h.1;omega⟩;rw[fdiv_nat _ _ hi,tb_eq];generalize a / 2^i=d;have:(d:Int).tmod 2=((d%2:Nat):Int):=by rw[Ap (by omega)];omega
 rw[this];by_cases h:d%2=1
 ·simp[h]
 ·simp only[h,BT];rw[Ae];omega
theorem bv_nat{n:Nat}:BitVec.ofInt 64 (n:Int)=BitVec.ofNat 64 n:=by apply BitVec.eq_of_toNat_eq;simp
theorem has_run{x:Int}(h:W x){i:Nat}(hi:i<=64):M97.m ⟨x,i⟩=some (tb x i):=by
 obtain⟨a,rfl⟩:∃a:Nat,x=a:=⟨x.toNat,by have:=h.1;omega⟩;have ha:a<2^64:=by have:=h.2;omega
 unfold M97.m;have h0:(0:Int)<=(i:Int):=by omega
 simp only[h0,Bq,A5,AC,fdiv_nat _ _ hi,X3];have e1:(BitVec.ofInt 64 ((a / 2^i:Nat):Int)&&&BitVec.ofInt 64 1).toNat=a / 2^i%2:=by rw[bv_nat,show(1:Int)=((1:Nat):Int) from rfl,bv_nat,BitVec.toNat_and,CQ,CQ];have:a / 2^i<2^64:=Nat.lt_of_le_of_lt (Nat.div_le_self _ _) ha;rw[Cb this,show(1:Nat)%2^64=1 from rfl,Nat.and_one_is_mod]
 rw[e1,tb_eq,wu64 (by omega) (by omega)];by_cases h:a / 2^i%2=1
 ·simp[h]
 ·simp only[h,BT];rw[Ae];omega
theorem beyond_run{x:Int}{n:Nat}(h:0<=x)(h':x<2^n)(hn:n<=64):M96.m ⟨x,n⟩=some false:=by
 obtain⟨a,rfl⟩:∃a:Nat,x=a:=⟨x.toNat,by omega⟩;unfold M96.m;have h0:(0:Int)<=(n:Int):=by omega
 have h1:a<2^n:=by have:((a:Nat):Int)<((2^n:Nat):Int):=(by simpa using h');omega
 simp only[h0,Bq,Bool.true_or,A5,AC,fdiv_nat _ _ hn,Nat.div_eq_of_lt h1];by_cases h2:(n:Int)<64<;>simp[h2]
theorem pow_wrap{n:Nat}(hn:n<=63):IntKind.u64.wrap (1*2^min n 64)=2^n:=by
 rw[CS (by omega),Int.one_mul];have h1:(2:Int)^n=((2^n:Nat):Int):=by simp
 have h2:2^n<=2^63:=CD (by omega) hn;rw[h1];generalize 2^n=t at h2;exact wu64 (by omega) (by omega)
theorem or_run{u:Nat}{i:Nat}(hu:u<2^64)(hi:i<=63):IntKind.u64.wrap (↑(BitVec.ofInt 64 (u:Int)|||BitVec.ofInt 64 (2^i)).toNat:Int)=((u|||2^i:Nat):Int):=by
 have h1:(2:Int)^i=((2^i:Nat):Int):=by simp
 have h2:2^i<2^64:=Nat.pow_lt_pow_right (by omega) (by omega);have h3:u|||2^i<2^64:=Nat.or_lt_two_pow hu h2
 rw[h1,bv_nat,bv_nat,BitVec.toNat_or,CQ,CQ,Cb hu,Cb h2];rw[wu64 (by omega) (by omega)]
end Pl
end Go.Proofs.YtpbplpgfloaaiaaGreatDoor
namespace Go.Proofs.YtpbplpgfloaaiaaGreatDoor
open Go.Abs
namespace Pl
structure Cp(m:Nat)(cs:List Int):Prop where
 most:m<=16
 len:cs.length<=40
 lo:∀i,0<=at0 cs i
 hi:∀i,at0 cs i<2^m
def Vl(s:List Int):Prop:=∀i,at0 s i=0\/at0 s i=1\/at0 s i=2
theorem Cp.w{m:Nat}{cs:List Int}(h:Cp m cs)(i:Nat):W (at0 cs i):=by
 refine⟨h.lo i,?_⟩;have h1:=h.hi i;have h2:2^m<=2^16:=CD (by omega) h.most;have h3:(2:Int)^m=((2^m:Nat):Int):=by simp
 rw[h3]at h1;generalize 2^m=t at h1 h2;omega
theorem cols_run{m:Nat}{cs:List Int}(h:Cp m cs):M94.m ⟨m,cs⟩=some 0:=by
 have hm:=h.most;have hn:=h.len;have key:=YF (step:=M162.s0) (λx=>∃i:Nat,x=⟨cs,cs.length,i,m,cs⟩/\i<=cs.length) (λx=>cs.length - x.i.toNat) (λ_=>.inl ⟨m,cs⟩) (λx hx=>by
  obtain⟨i,rfl,hi⟩:=hx;unfold M162.s0;by_cases g:i<cs.length
  ·have e1:((i:Int)<(cs.length:Int)):=(by omega);have e2:cs[i]?.getD 0=at0 cs i:=rfl;have e3:M137.m ⟨at0 cs i,m,cs⟩=some (false,(m:Int),cs):=(by unfold M137.m;rw[beyond_run (h.lo i) (h.hi i) (by omega)];rfl);simp only[e1,inR_nat g,Bq,A5,AC,e2,e3,bindO,A7,next_run g (by omega)];exact⟨_,rfl,⟨i+1,rfl,by omega⟩,by simp only[AC];omega,trivial⟩
  ·have e1:¬((i:Int)<(cs.length:Int)):=(by omega);simp only[e1,BT,A7];exact⟨_,rfl,rfl⟩)
 have k0:iter M162.s0 ⟨cs,cs.length,0,m,cs⟩=some (.inl ⟨m,cs⟩):=key _ ⟨0,rfl,by omega⟩;unfold M94.m M136.m M162.m;have e1:¬((m:Int)<0):=by omega
 have e2:¬((m:Int)>64):=by omega
 have e3:¬((cs.length:Int)>64):=by omega
 simp only[e1,e2,e3,BT,A7,k0,bindO,sumC];simp
theorem vals_run{s:List Int}(h:Vl s)(hn:s.length<=1000):M76d.m ⟨s⟩=some false:=by
 have key:=YF (step:=M116d.s0) (λx=>∃i:Nat,x=⟨s,s.length,i⟩/\i<=s.length) (λx=>s.length - x.i.toNat) (λ_=>.inl ()) (λx hx=>by
  obtain⟨i,rfl,hi⟩:=hx;unfold M116d.s0;by_cases g:i<s.length
  ·have e1:((i:Int)<(s.length:Int)):=(by omega);have e2:s[i]?.getD 0=at0 s i:=rfl;have e3:M95.m ⟨at0 s i⟩=some false:=(by unfold M95.m;have:=h i;simp;omega);simp only[e1,inR_nat g,Bq,A5,AC,e2,e3,bindO,A7,next_run g (by omega)];exact⟨_,rfl,⟨i+1,rfl,by omega⟩,by simp only[AC];omega,trivial⟩
  ·have e1:¬((i:Int)<(s.length:Int)):=(by omega);simp only[e1,BT,A7];exact⟨_,rfl,rfl⟩)
 have k0:=key _ ⟨0,rfl,by omega⟩;unfold M76d.m M116d.m;have:iter M116d.s0 ⟨s,s.length,0⟩=some (.inl ()):=k0;simp only[this,bindO,sumC];simp
theorem args_run{m:Nat}{cs:List Int}(h:Cp m cs){mask:Int}(h0:0<=mask)(h1:mask<2^cs.length){l:List (List Int)}(hl:l.length<=2)(hs:∀s∈l,s.length=cs.length/\Vl s):
  M49.m ⟨m,cs,mask,l⟩=some 0:=by
 have hn:=h.len;have get:∀i,i<l.length->(l[i]?.getD [])∈l:=λi hi=>by rw[A4 hi];exact AH hi
 have key:=YF (step:=M49.s0) (λx=>∃i:Nat,x=⟨mask,l,l,l.length,i,m,cs⟩/\i<=l.length) (λx=>l.length - x.i.toNat) (λ_=>.inl ⟨mask,l,m,cs⟩) (λx hx=>by
  obtain⟨i,rfl,hi⟩:=hx;unfold M49.s0;by_cases g:i<l.length
  ·have e1:((i:Int)<(l.length:Int)):=(by omega);have e2:=(hs _ (get i g)).1;simp only[e1,inR_nat g,Bq,A5,AC,e2,BU,A7,next_run g (by omega)];exact⟨_,rfl,⟨i+1,rfl,by omega⟩,by simp only[AC];omega,trivial⟩
  ·have e1:¬((i:Int)<(l.length:Int)):=(by omega);simp only[e1,BT,A7];exact⟨_,rfl,rfl⟩)
 have key2:=YF (step:=M49.s1) (λx=>∃i:Nat,x=⟨mask,l,l.length,i,m,cs⟩/\i<=l.length) (λx=>l.length - x.i.toNat) (λ_=>.inl ⟨mask,m,cs⟩) (λx hx=>by
  obtain⟨i,rfl,hi⟩:=hx;unfold M49.s1;by_cases g:i<l.length
  ·have e1:((i:Int)<(l.length:Int)):=(by omega);have e2:=hs _ (get i g);have e3:=vals_run e2.2 (by omega);simp only[e1,inR_nat g,Bq,A5,AC,e3,bindO,A7,next_run g (by omega)];exact⟨_,rfl,⟨i+1,rfl,by omega⟩,by simp only[AC];omega,trivial⟩
  ·have e1:¬((i:Int)<(l.length:Int)):=(by omega);simp only[e1,BT,A7];exact⟨_,rfl,rfl⟩)
 have k0:iter M49.s0 ⟨mask,l,l,l.length,0,m,cs⟩=_:=key _ ⟨0,rfl,by omega⟩;have k1:iter M49.s1 ⟨mask,l,l.length,0,m,cs⟩=_:=key2 _ ⟨0,rfl,by omega⟩;unfold M49.m;simp only[cols_run h,bindO,BU,A7,k0,k1,sumC,beyond_run h0 h1 (by omega)]
def cstep(a:Int)(b:Bool)(v:Int):Int:=if b=false\/a=2 then a else if v=2 then 2 else if a=v then 0 else 1
def cv(cs s:List Int)(mask:Int)(o:Nat):Nat->Int
 |0=>0
 |i+1=>if tb mask i=true then cv cs s mask o i else cstep (cv cs s mask o i) (tb (at0 cs i) o) (at0 s i)
theorem cstep_v{a v:Int}{b:Bool}(ha:a=0\/a=1\/a=2):cstep a b v=0\/cstep a b v=1\/cstep a b v=2:=by
 unfold cstep;repeat' split
 all_goals omega
theorem cv_v(cs s:List Int)(mask:Int)(o:Nat):∀i,cv cs s mask o i=0\/cv cs s mask o i=1\/cv cs s mask o i=2
 |0=>.inl rfl
 |i+1=>by
  unfold cv;split
  ·exact cv_v cs s mask o i
  ·exact cstep_v (cv_v cs s mask o i)
theorem xor_run{a v:Int}(ha:a=0\/a=1)(hv:v=0\/v=1):IntKind.u8.wrap (↑(BitVec.ofInt 8 a^^^BitVec.ofInt 8 v).toNat:Int)=if a=v then 0 else 1:=by rcases ha with h|h<;>rcases hv with h'|h'<;>subst h<;>subst h'<;>rfl
theorem chain_run{m n i:Nat}{cs s:List Int}{mask:Int}(h:Cp m cs)(hi:i<cs.length)(hv:Vl s){xs:List Int}(hx:xs.length=m)(hX:Vl xs):
  ∃y,iter M50.s1 ⟨mask,0,m,m,s,n,i,i,at0 s i,m,0,m,cs,xs⟩=some y/\∃ys:List Int,y=⟨mask,0,m,m,s,n,i,m,cs,ys⟩/\ys.length=m/\∀t,t<m->at0 ys t=cstep (at0 xs t) (tb (at0 cs i) t) (at0 s i):=by
 have hm:=h.most;have hn:=h.len;refine iter_inv (step:=M50.s1) (λx=>∃(o:Nat) (ys:List Int),x=⟨mask,0,m,m,s,n,i,i,at0 s i,m,o,m,cs,ys⟩/\o<=m/\ys.length=m/\(∀t,t<o->at0 ys t=cstep (at0 xs t) (tb (at0 cs i) t) (at0 s i))/\∀t,o<=t->at0 ys t=at0 xs t)
  (λx=>m - x.o.toNat) (λy=>∃ys:List Int,y=⟨mask,0,m,m,s,n,i,m,cs,ys⟩/\ys.length=m/\∀t,t<m->at0 ys t=cstep (at0 xs t) (tb (at0 cs i) t) (at0 s i)) (λx hx=> ?_) _ ⟨0,xs,rfl,by omega,hx,λt ht=>by omega,λ_ _=>rfl⟩
 obtain⟨o,ys,rfl,ho,hy,h1,h2⟩:=hx;unfold M50.s1;by_cases g:o<m
 ·have e1:((o:Int)<(m:Int)):=(by omega);have e2:cs[i]?.getD 0=at0 cs i:=rfl;have e3:=has_run (h.w i) (i:=o) (by omega);have e4:ys[o]?.getD 0=at0 ys o:=rfl;have e5:o<ys.length:=(by omega);have e6:=h2 o (by omega);have fin:∀w,w=cstep (at0 xs o) (tb (at0 cs i) o) (at0 s i)->∀zs,(zs=ys.set o w\/(zs=ys/\w=at0 xs o))->zs.length=m/\(∀t,t<o+1->at0 zs t=cstep (at0 xs t) (tb (at0 cs i) t) (at0 s i))/\∀t,o+1<=t->at0 zs t=at0 xs t:=λw hw zs hz=>by
   rcases hz with rfl|⟨rfl,hz⟩
   ·refine⟨by simp[hy],λt ht=> ?_,λt ht=> ?_⟩
    ·rw[at_set];by_cases q:o=t
     ·subst q;simp[e5,hw]
     ·simp[q];exact h1 t (by omega)
    ·rw[at_set,AP (by omega)];exact h2 t (by omega)
   ·refine⟨hy,λt ht=> ?_,λt ht=>h2 t (by omega)⟩;by_cases q:o=t
    ·subst q;rw[e6,<-hw,hz]
    ·exact h1 t (by omega)
  simp only[e1,inR_nat hi,Bq,A5,AC,e2,e3,bindO,inR_nat g,Bool.true_or,AI,e5,e4,e6,next_run g (by omega)];have hXo:=hX o;have hvi:=hv i;by_cases c1:tb (at0 cs i) o=false\/at0 xs o=2
  ·have e7:(bif !tb (at0 cs i) o then true else at0 xs o==2)=true:=by
    rcases c1 with c|c
    ·simp[c]
    ·simp[c]
   have e8:at0 xs o=cstep (at0 xs o) (tb (at0 cs i) o) (at0 s i):=(by unfold cstep;rw[AF c1]);obtain⟨f1,f2,f3⟩:=fin _ e8 ys (.inr ⟨rfl,rfl⟩);simp only[e7,A5];exact⟨_,rfl,⟨o+1,ys,rfl,by omega,f1,f2,f3⟩,by simp only[AC];omega⟩
  ·have e7:(bif !tb (at0 cs i) o then true else at0 xs o==2)=false:=(by simp only[not_or,Bool.not_eq_false]at c1;simp[c1.1,c1.2]);simp only[e7,A7];by_cases c2:at0 s i=2
   ·have e8:2=cstep (at0 xs o) (tb (at0 cs i) o) (at0 s i):=(by unfold cstep;rw[AP c1,AF c2]);obtain⟨f1,f2,f3⟩:=fin _ e8 _ (.inl rfl);have e9:(at0 s i==2)=true:=(by simp[c2]);simp only[e9,A5];exact⟨_,rfl,⟨o+1,_,rfl,by omega,f1,f2,f3⟩,by simp only[AC];omega⟩
   ·have e9:(at0 s i==2)=false:=(by simp[c2]);have e8:IntKind.u8.wrap (↑(BitVec.ofInt 8 (at0 xs o)^^^BitVec.ofInt 8 (at0 s i)).toNat:Int)=cstep (at0 xs o) (tb (at0 cs i) o) (at0 s i):=(by have c3:at0 xs o≠2:=λe=>c1 (.inr e);rw[xor_run (by omega) (by omega)];unfold cstep;rw[AP c1,AP c2]);obtain⟨f1,f2,f3⟩:=fin _ e8 _ (.inl rfl);simp only[e9,A7];exact⟨_,rfl,⟨o+1,_,rfl,by omega,f1,f2,f3⟩,by simp only[AC];omega⟩
 ·have e1:¬((o:Int)<(m:Int)):=(by omega);simp only[e1,BT,A7];exact⟨_,rfl,ys,rfl,hy,λt ht=>h1 t (by omega)⟩
end Pl
end Go.Proofs.YtpbplpgfloaaiaaGreatDoor
namespace Go.Proofs.YtpbplpgfloaaiaaGreatDoor
open Go.Abs
namespace Pl
theorem at_map(f:Nat->Int)(m t:Nat):at0 ((List.range m).map f) t=if t<m then f t else 0:=by
 unfold at0;by_cases h:t<m
 ·simp[h]
 ·rw[Ab (by simpa using h),AP h];rfl
def comp(cs s:List Int)(mask:Int)(m:Nat):List Int:=(List.range m).map λt=>cv cs s mask t cs.length
theorem comp_len(cs s:List Int)(mask:Int)(m:Nat):(comp cs s mask m).length=m:=by simp[comp]
theorem comp_at{cs s:List Int}{mask:Int}{m t:Nat}(h:t<m):at0 (comp cs s mask m) t=cv cs s mask t cs.length:=by rw[comp,at_map,AF h]
theorem compact_run{m:Nat}{cs s:List Int}{mask:Int}(h:Cp m cs)(hs:s.length=cs.length)(hv:Vl s)(hw:W mask):M50.m ⟨m,cs,s,mask⟩=some (comp cs s mask m):=by
 have hm:=h.most;have hn:=h.len;obtain⟨y,k1,xs,rfl,k2,k3⟩:=iter_inv (step:=M50.s0) (λx=>∃(i:Nat) (xs:List Int),x=⟨mask,0,m,m,s,s.length,i,m,cs,xs⟩/\i<=cs.length/\xs.length=m/\∀t,at0 xs t=if t<m then cv cs s mask t i else 0)
  (λx=>cs.length - x.i.toNat) (λy=>∃xs:List Int,y=⟨0,m,m,m,cs,xs⟩/\xs.length=m/\∀t,t<m->at0 xs t=cv cs s mask t cs.length) (λx hx=>by
   obtain⟨i,xs,rfl,hi,hx,ha⟩:=hx;unfold M50.s0;by_cases g:i<cs.length
   ·have e1:((i:Int)<(s.length:Int)):=(by omega);have e2:s[i]?.getD 0=at0 s i:=rfl;have e3:=has_run hw (i:=i) (by omega);simp only[e1,inR_nat (hs▸g),Bq,A5,AC,e2,e3,bindO]
    cases hb:tb mask i with
    |true=>simp only[A5,next_run g (by omega)];exact⟨_,rfl,⟨i+1,xs,rfl,by omega,hx,λt=>by rw[ha t];simp only[cv,hb,Ag]⟩,by simp only[AC];omega⟩
    |false=>
     have hX:Vl xs:=λt=>by
      rw[ha t];split
      ·exact cv_v _ _ _ _ _
      ·exact .inl rfl
     obtain⟨y,c1,ys,rfl,c2,c3⟩:=chain_run (n:=s.length) (mask:=mask) h g hv hx hX;simp only[A7,c1,next_run g (by omega)];refine⟨_,rfl,⟨i+1,ys,rfl,by omega,c2,λt=> ?_⟩,by simp only[AC];omega⟩;split
     ·rename_i ht;rw[c3 t ht,ha t,AF ht];simp only[cv,hb,AM,Af]
     ·unfold at0;rw[Ab (by omega)];rfl
   ·have e1:¬((i:Int)<(s.length:Int)):=(by omega);have e2:i=cs.length:=(by omega);simp only[e1,BT,A7];exact⟨_,rfl,xs,rfl,hx,λt ht=>by rw[ha t,AF ht,e2]⟩) ⟨mask,0,m,m,s,s.length,0,m,cs,List.replicate m 0⟩
  ⟨0,_,rfl,by omega,by simp,λt=>by rw[at_repl];split<;>rfl⟩
 have e0:(decide (0<=(m:Int))&&decide ((m:Int)<=(m:Int))&&decide ((m:Int)*1<=281474976710656)&&decide ((m:Int)<=9223372036854775807))=true:=by simp;omega
 unfold M50.m;simp only[e0,A5,AC,k1,bindO,leB,k2,AI,A6,Bq,AG,AU];rw[AJ (by omega)];refine congrArg some (list_eq (k2.trans (comp_len ..).symm) λt ht=> ?_);rw[k3 t (by omega),comp_at (by omega)]
def dif(cs a b:List Int)(mask:Int)(o:Nat):Bool:=cv cs a mask o cs.length+cv cs b mask o cs.length==1
def difs(cs a b:List Int)(mask:Int)(m:Nat):List Int:=((List.range m).filter (dif cs a b mask)).map λ(o:Nat)=>(o:Int)
theorem difs_succ(cs a b:List Int)(mask:Int)(m:Nat):difs cs a b mask (m+1)=difs cs a b mask m++if dif cs a b mask m=true then [(m:Int)] else []:=by unfold difs;rw[List.range_succ,C2,AZ];by_cases h:dif cs a b mask m=true<;>simp[h]
theorem difs_len_le(cs a b:List Int)(mask:Int)(m:Nat):(difs cs a b mask m).length<=m:=by unfold difs;rw[AA];exact BN (C7 _ _) (by simp)
theorem clip_run{xs:List Int}{n:Nat}(hn:xs.length=n):M34o.m ⟨0,n,xs⟩=some (0,n,n,xs):=by unfold M34o.m;simp
theorem differs_run{m:Nat}{cs a b:List Int}{mask:Int}(h:Cp m cs)(ha:a.length=cs.length)(hb:b.length=cs.length)(va:Vl a)(vb:Vl b)(h0:0<=mask)(h1:mask<2^cs.length)(hw:W mask):
  M20.m ⟨m,cs,a,b,mask⟩=some (difs cs a b mask m,0):=by
 have hm:=h.most;have hn:=h.len;have hargs:=args_run h h0 h1 (l:=[a,b]) (by simp) (λx hx=>by
  simp at hx;rcases hx with rfl|rfl
  ·exact⟨ha,va⟩
  ·exact⟨hb,vb⟩)
 have key:=YF (step:=M20.s0) (λx=>∃o:Nat,x=⟨0,(difs cs a b mask o).length,comp cs a mask m,comp cs b mask m,m,o,m,cs,difs cs a b mask o⟩/\o<=m) (λx=>m - x.i.toNat)
  (λ_=>⟨0,(difs cs a b mask m).length,m,cs,difs cs a b mask m⟩) (λx hx=>by
   obtain⟨o,rfl,ho⟩:=hx;unfold M20.s0;by_cases g:o<m
   ·have e1:((o:Int)<(m:Int)):=(by omega);have e2:(comp cs a mask m)[o]?.getD 0=cv cs a mask o cs.length:=comp_at g;have e3:(comp cs b mask m)[o]?.getD 0=cv cs b mask o cs.length:=comp_at g;have v1:=cv_v cs a mask o cs.length;have v2:=cv_v cs b mask o cs.length;have e4:IntKind.u8.wrap (cv cs a mask o cs.length+cv cs b mask o cs.length)=cv cs a mask o cs.length+cv cs b mask o cs.length:=w8 (by omega) (by omega);have e5:=difs_len_le cs a b mask o;have e6:QT ((difs cs a b mask o).length+1) 8=true:=(by simp[QT,leB];omega);simp only[e1,comp_len,inR_nat g,Bq,A5,AC,e2,e3,e4,eqN,Ca,e6,AG,next_run g (by omega)];have e7:=difs_succ cs a b mask o
    cases hd:dif cs a b mask o with
    |true=>have hd':(cv cs a mask o cs.length+cv cs b mask o cs.length==1)=true:=hd;rw[hd,AF rfl]at e7;simp only[hd',A5];refine⟨_,rfl,⟨o+1,?_,by omega⟩,by simp only[AC];omega,trivial⟩;rw[e7];simp
    |false=>have hd':(cv cs a mask o cs.length+cv cs b mask o cs.length==1)=false:=hd;rw[hd,AP (by simp),Br]at e7;simp only[hd',A7];refine⟨_,rfl,⟨o+1,?_,by omega⟩,by simp only[AC];omega,trivial⟩;rw[e7]
   ·have e1:¬((o:Int)<(m:Int)):=(by omega);have e2:o=m:=(by omega);subst e2;simp only[e1,BT,A7];exact⟨_,rfl,rfl⟩)
 have k0:iter M20.s0 ⟨0,0,comp cs a mask m,comp cs b mask m,m,0,m,cs,[]⟩=_:=key _ ⟨0,rfl,by omega⟩;unfold M20.m;simp only[hargs,bindO,BU,A7,compact_run h ha va hw,compact_run h hb vb hw,k0,clip_run rfl,leB,AI,A6,Bq,AG,A5,AU];rw[AJ (by omega)]
theorem masks_run{s:List Int}(hv:Vl s)(hn:s.length<=63):∃u:Nat,M21.m ⟨s⟩=some ((u:Int),0)/\u<2^s.length/\∀i,i<s.length->u.testBit i=(at0 s i==2):=by
 obtain⟨y,k1,u,rfl,k2,k3⟩:=iter_inv (step:=M21.s0) (λx=>∃(i u:Nat),x=⟨u,s,s.length,i⟩/\i<=s.length/\u<2^i/\∀t,t<i->u.testBit t=(at0 s t==2)) (λx=>s.length - x.i.toNat)
  (λy=>∃u:Nat,y=.inl ⟨u⟩/\u<2^s.length/\∀t,t<s.length->u.testBit t=(at0 s t==2)) (λx hx=>by
   obtain⟨i,u,rfl,hi,hu,ht⟩:=hx;unfold M21.s0;by_cases g:i<s.length
   ·have e1:((i:Int)<(s.length:Int)):=(by omega);have e2:s[i]?.getD 0=at0 s i:=rfl;have e3:¬(at0 s i>2):=(by have:=hv i;omega);have e4:(bif decide (0<=(i:Int))&&true then true else bif at0 s i==2 then false else true)=true:=(by simp);have hu2:u<2^(i+1):=BV hu (CD (by omega) (by omega));have hu64:u<2^64:=BV hu (CD (by omega) (by omega));simp only[e1,inR_nat g,Bq,A5,AC,e2,e3,BT,A7,e4,next_run g (by omega),pow_wrap (show i<=63 by omega),or_run hu64 (show i<=63 by omega)]
    cases hb:(at0 s i==2) with
    |true=>
     refine⟨_,rfl,⟨i+1,u|||2^i,rfl,by omega,Nat.or_lt_two_pow hu2 (Nat.pow_lt_pow_right (by omega) (by omega)),λt h=> ?_⟩,by simp only[AC];omega⟩;rw[Nat.testBit_or,Nat.testBit_two_pow];by_cases q:i=t
     ·subst q;simp[hb]
     ·simp[q,ht t (by omega)]
    |false=>
     refine⟨_,rfl,⟨i+1,u,rfl,by omega,hu2,λt h=> ?_⟩,by simp only[AC];omega⟩;by_cases q:i=t
     ·subst q;rw[hb,Nat.testBit_lt_two_pow hu]
     ·exact ht t (by omega)
   ·have e1:¬((i:Int)<(s.length:Int)):=(by omega);have e2:i=s.length:=(by omega);subst e2;simp only[e1,BT,A7];exact⟨_,rfl,u,rfl,hu,ht⟩) ⟨0,s,s.length,0⟩ ⟨0,0,rfl,by omega,by simp,λt h=>by omega⟩
 refine⟨u,?_,k2,k3⟩;have e1:¬((s.length:Int)>64):=by omega
 unfold M21.m;simp only[e1,BT,A7,k1,bindO,sumC]
theorem at_app(xs:List Int)(v:Int)(t:Nat):at0 (xs++[v]) t=if t<xs.length then at0 xs t else if t=xs.length then v else 0:=by
 unfold at0;by_cases h:t<xs.length
 ·simp[h,List.getElem?_append]
 ·by_cases h2:t=xs.length
  ·subst h2;simp
  ·rw[Ab (by simp;omega),AP h,AP h2];rfl
def B8(x:Int):Prop:=0<=x/\x<=255
theorem of_run{o:Int}{cols:List Int}(ho:B8 o)(hc:∀i,0<=at0 cols i/\at0 cols i<4294967296)(hl:cols.length<=40):∃(m:Nat) (cs:List Int),M19.m ⟨o,cols⟩=some ((m:Int),cs)/\Cp m cs/\cs.length=cols.length:=by
 obtain⟨m,hm,hm16⟩:∃m:Nat,IntKind.i64.wrap (o.tmod 17)=(m:Int)/\m<=16:=by have h1:o.tmod 17=o%17:=Ap ho.1;refine⟨(o%17).toNat,?_,by omega⟩;rw[h1,w64 (by omega) (by omega)];omega
 have hpow:(2:Int)^m=((2^m:Nat):Int):=by simp
 have hp0:0<2^m:=Nat.two_pow_pos m;obtain⟨y,k1,cs,rfl,k2,k3⟩:=iter_inv (step:=M19.s0) (λx=>∃(i:Nat) (xs:List Int),x=⟨i,o,cols,m,0,i,xs⟩/\i<=cols.length/\xs.length=i/\∀t,0<=at0 xs t/\at0 xs t<2^m) (λx=>cols.length - x.i.toNat)
  (λy=>∃xs:List Int,y=⟨o,cols,m,0,cols.length,xs⟩/\xs.length=cols.length/\∀t,0<=at0 xs t/\at0 xs t<2^m) (λx hx=>by
   obtain⟨i,xs,rfl,hi,hx,ha⟩:=hx;unfold M19.s0;by_cases g:i<cols.length
   ·have e1:((i:Int)<(cols.length:Int)):=(by omega);have e2:cols[i]?.getD 0=at0 cols i:=rfl;have e3:(0:Int)<=(m:Int):=(by omega);have e4:nz ((2:Int)^m)=true:=by rw[hpow];simp only[nz,Bo,Ae];generalize 2^m=t at hp0;first|omega|(simp;omega)
    have hci:=hc i;have e5:IntKind.u64.wrap (at0 cols i)=at0 cols i:=wu64 (by omega) (by omega);have e6:QT (i+1) 8=true:=(by simp[QT,leB];omega);simp only[e1,inR_nat g,Bq,A5,AC,e2,e3,pow_wrap (show m<=63 by omega),e4,e5,eqN,hx,Ca,e6,AG,next_run g (by omega)];refine⟨_,rfl,⟨i+1,_,rfl,by omega,by simp[hx],λt=> ?_⟩,by simp only[AC];omega⟩;rw[at_app];split
    ·exact ha t
    ·split
     ·rw[Ap hci.1,hpow];have:((2^m:Nat):Int)≠0:=(by generalize 2^m=t at hp0;omega);have hp:(0:Int)<((2^m:Nat):Int):=(by generalize 2^m=t at hp0;omega);exact⟨Int.emod_nonneg _ this,Cf _ hp⟩
     ·rw[hpow];generalize 2^m=t at hp0;omega
   ·have e1:¬((i:Int)<(cols.length:Int)):=(by omega);have e2:i=cols.length:=(by omega);subst e2;simp only[e1,BT,A7];exact⟨_,rfl,xs,rfl,hx,ha⟩) ⟨0,o,cols,m,0,0,[]⟩ ⟨0,[],rfl,by omega,rfl,λt=>by
     have:at0 [] t=0:=rfl;rw[this,hpow];generalize 2^m=t at hp0;omega⟩
 refine⟨m,cs,?_,⟨hm16,by omega,λi=>(k3 i).1,λi=>(k3 i).2⟩,k2⟩;unfold M19.m;simp only[hm,k1,bindO,leB,k2,AI,A6,Bq,AG,A5,AU];rw[AJ (by omega)]
end Pl
end Go.Proofs.YtpbplpgfloaaiaaGreatDoor
namespace Go.Proofs.YtpbplpgfloaaiaaGreatDoor
open Go.Abs
namespace Pl
theorem difs_pre(cs a b:List Int)(mask:Int)(o:Nat):∀d,∃r,difs cs a b mask (o+d)=difs cs a b mask o++r
 |0=>⟨[],by simp⟩
 |d+1=>by obtain⟨r,hr⟩:=difs_pre cs a b mask o d;exact⟨r++_,by rw[show o+(d+1)=(o+d)+1 from rfl,difs_succ,hr,Ac]⟩
theorem difs_get{cs a b:List Int}{mask:Int}{o m:Nat}(h:o<m)(hd:dif cs a b mask o=true):(difs cs a b mask o).length<(difs cs a b mask m).length/\(difs cs a b mask m)[(difs cs a b mask o).length]?.getD 0=(o:Int):=by obtain⟨r,hr⟩:=difs_pre cs a b mask (o+1) (m - (o+1));rw[show o+1+(m - (o+1))=m by omega,difs_succ,AF hd,Ac]at hr;rw[hr];simp
def sm(cs a b:List Int)(M:Int)(o:Nat):Nat->Bool
 |0=>false
 |c+1=>sm cs a b M o c||(tb (at0 cs c) o&&(!tb M c&&(at0 a c+at0 b c==1)))
theorem sm_ok{cs a b:List Int}{M:Int}{o:Nat}(va:Vl a)(vb:Vl b):∀i,sm cs a b M o i=false->cv cs a M o i=cv cs b M o i\/cv cs a M o i=2\/cv cs b M o i=2
 |0,_=>.inl rfl
 |i+1,h=>by
  simp only[sm,CG]at h;have ih:=sm_ok va vb i h.1;have h2:=h.2;simp only[cv];by_cases hm:tb M i=true
  ·simp only[hm,Ag];exact ih
  ·have hm':tb M i=false:=(by simpa using hm);simp only[hm',AM,Af];have hva:=va i;have hvb:=vb i;rw[hm']at h2
   cases hf:tb (at0 cs i) o with
   |false=>unfold cstep;simp only[true_or,Ag];exact ih
   |true=>
    rw[hf]at h2;simp only[BX,Bool.true_and,Ae]at h2;generalize cv cs a M o i=x at ih;generalize cv cs b M o i=y at ih;unfold cstep;simp only[Bool.true_eq_false,false_or]
    repeat' split
    all_goals omega
theorem dif_iff{cs a b:List Int}{M:Int}{o:Nat}(va:Vl a)(vb:Vl b)(hd:dif cs a b M o=true):sm cs a b M o cs.length=true:=by
 cases h:sm cs a b M o cs.length with
 |true=>rfl
 |false=>have:=sm_ok va vb _ h;have v1:=cv_v cs a M o cs.length;have v2:=cv_v cs b M o cs.length;unfold dif at hd;rw[Av]at hd;omega
theorem difs_mem{cs a b:List Int}{M:Int}{m i:Nat}(h:i<(difs cs a b M m).length):∃o,o<m/\dif cs a b M o=true/\(difs cs a b M m)[i]?.getD 0=(o:Int):=by
 have h1:(difs cs a b M m)[i]∈difs cs a b M m:=AH h;have h2:(difs cs a b M m)[i]?.getD 0=(difs cs a b M m)[i]:=by rw[A4 h];rfl
 rw[h2];generalize (difs cs a b M m)[i]=v at h1;unfold difs at h1;rw[Ba]at h1;obtain⟨o,ho,rfl⟩:=h1;rw[CT,Bv]at ho;exact⟨o,ho.1,ho.2,rfl⟩
theorem difs_pos{cs a b:List Int}{M:Int}{m:Nat}:0<(difs cs a b M m).length↔∃o,o<m/\dif cs a b M o=true:=by
 constructor
 ·intro h;obtain⟨o,h1,h2,_⟩:=difs_mem h;exact⟨o,h1,h2⟩
 ·rintro⟨o,h1,h2⟩;have:=(difs_get h1 h2).1;omega
theorem two_iff{cs s:List Int}{M:Int}{o:Nat}(hv:Vl s):∀i,cv cs s M o i=2↔∃j,j<i/\tb M j=false/\tb (at0 cs j) o=true/\at0 s j=2
 |0=>by simp[cv]
 |i+1=>by
  have ih:=two_iff (cs:=cs) (M:=M) (o:=o) hv i;have v:=cv_v cs s M o i;have hvi:=hv i;have key:cv cs s M o (i+1)=2↔cv cs s M o i=2\/(tb M i=false/\tb (at0 cs i) o=true/\at0 s i=2):=by
   simp only[cv];generalize cv cs s M o i=x at v
   cases hm:tb M i with
   |true=>simp
   |false=>
    cases hf:tb (at0 cs i) o with
    |false=>simp[cstep]
    |true=>
     simp only[AM,Af,Aa];unfold cstep;simp only[Bool.true_eq_false,false_or]
     repeat' split
     all_goals omega
  rw[key,ih];constructor
  ·rintro(⟨j,h1,h2⟩|h)
   ·exact⟨j,by omega,h2⟩
   ·exact⟨i,by omega,h⟩
  ·rintro⟨j,h1,h2⟩;by_cases q:j=i
   ·subst q;exact .inr h2
   ·exact .inl ⟨j,by omega,h2⟩
section
variable {cs one two:List Int}{M:Int}{c o:Nat}(v1:Vl one)(hs:∀j,j≠c->at0 two j=at0 one j)(h0:at0 one c=0)(h1:at0 two c=1)
include v1 hs h0 h1
theorem pair_rel(hm:tb M c=false):∀i,(cv cs one M o i=2/\cv cs two M o i=2)\/(cv cs one M o i≠2/\cv cs two M o i≠2/\(cv cs one M o i≠cv cs two M o i↔c<i/\tb (at0 cs c) o=true))
 |0=>.inr (by simp[cv])
 |i+1=>by
  have ih:=pair_rel hm i;have w1:=cv_v cs one M o i;have w2:=cv_v cs two M o i;simp only[cv];by_cases q:i=c
  ·subst q;rw[h0,h1];simp only[hm,AM,Af];generalize cv cs one M o i=x at ih w1;generalize cv cs two M o i=y at ih w2
   cases hf:tb (at0 cs i) o with
   |false=>rw[hf]at ih;simp only[cstep,true_or,Ag,AM,and_false]at ih⊢;exact ih
   |true=>unfold cstep;simp only[Bool.true_eq_false,false_or,and_true];have:¬(i<i):=(by omega);simp only[this,false_and]at ih;have q3:i<i+1:=(by omega);simp only[q3,iff_true];rcases w1 with r|r|r<;>rcases w2 with r'|r'|r'<;>subst r<;>subst r'<;>simp_all
  ·rw[hs i q];have q2:(c<i+1)↔(c<i):=(by omega);rw[q2];have hv:=v1 i
   cases hb:tb M i with
   |true=>simp only[Ag];exact ih
   |false=>
    simp only[AM,Af];generalize cv cs one M o i=x at ih w1;generalize cv cs two M o i=y at ih w2;generalize at0 one i=v at hv;generalize (c<i/\tb (at0 cs c) o=true)=R at ih⊢
    cases hf:tb (at0 cs i) o with
    |false=>simp only[cstep,true_or,Ag];exact ih
    |true=>unfold cstep;simp only[Bool.true_eq_false,false_or];rcases hv with e|e|e<;>rcases w1 with r|r|r<;>rcases w2 with r'|r'|r'<;>subst e<;>subst r<;>subst r'<;>simp_all
theorem pair_dif(hm:tb M c=false)(hc:c<cs.length):dif cs one two M o=true↔tb (at0 cs c) o=true/\∀j,j<cs.length->tb M j=false->at0 one j=2->tb (at0 cs j) o=false:=by
 have rel:=pair_rel (cs:=cs) (o:=o) v1 hs h0 h1 hm cs.length;have w1:=cv_v cs one M o cs.length;have w2:=cv_v cs two M o cs.length;have k:=two_iff (cs:=cs) (M:=M) (o:=o) v1 cs.length;have d:dif cs one two M o=true↔cv cs one M o cs.length≠2/\tb (at0 cs c) o=true:=by
  unfold dif;rw[Av];rcases rel with ⟨a,b⟩|⟨a,b,r⟩
  ·rw[a,b];simp
  ·have:(cv cs one M o cs.length+cv cs two M o cs.length=1)↔cv cs one M o cs.length≠cv cs two M o cs.length:=(by omega);rw[this,r];simp[hc,a]
 rw[d];constructor
 ·rintro⟨a,b⟩;refine⟨b,λj hj q1 q2=> ?_⟩
  cases hf:tb (at0 cs j) o with
  |false=>rfl
  |true=>exact absurd (k.2 ⟨j,hj,q1,hf,q2⟩) a
 ·rintro⟨b,a⟩;refine⟨λe=> ?_,b⟩;obtain⟨j,q1,q2,q3,q4⟩:=k.1 e;rw[a j q1 q2 q4]at q3;cases q3
end
end Pl
end Go.Proofs.YtpbplpgfloaaiaaGreatDoor
