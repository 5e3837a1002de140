/- A part of the proof. -/
import Derived.Test.YtpbplpgfloaaiaaGreatDoorXS2QMc
import Derived.Test.YtpbplpgfloaaiaaGreatDoorXS2QAbsK0
import Derived.Test.YtpbplpgfloaaiaaGreatDoorXS2QSyJ
import Derived.Test.YtpbplpgfloaaiaaGreatDoorXS2QSyN
import Derived.Test.YtpbplpgfloaaiaaGreatDoorXS2QSyO
import Derived.Test.YtpbplpgfloaaiaaGreatDoorXS2QSyK1
import Derived.Test.YtpbplpgfloaaiaaGreatDoorXS2QAbsO
import Derived.Test.YtpbplpgfloaaiaaGreatDoorRows
import Derived.Shelf.GgClosure.StringsIndexFuncTop
import Derived.Shelf.Strings.Runes
import Derived.Test.YtpbplpgfloaaiaaGreatDoorProg
set_option linter.all false
set_option maxRecDepth 100000
set_option maxHeartbeats 4000000
noncomputable section
namespace Go.Proofs.YtpbplpgfloaaiaaGreatDoor
open Go.Abs
open Go.IntKind(i64)
open Sum(inl inr)
open Go.Proofs.Tryz(prog)
instance glI:Gl:={ dat:=λg=>match g with
 |0=>some ⟨(.pair (.pair (.int .i64) (.int .i64)) (.pair (.pair (.int .i64) (.int .i64)) (.pair (.pair (.int .i64) (.int .i64)) (.pair (.pair (.int .i64) (.int .i64)) (.pair (.pair (.int .i64) (.int .i64)) (.pair (.pair (.int .i64) (.int .i64)) (.pair (.pair (.int .i64) (.int .i64)) (.pair (.pair (.int .i64) (.int .i64)) (.pair (.pair (.int .i64) (.int .i64)) (.pair (.pair (.int .i64) (.int .i64)) (.pair (.pair (.int .i64) (.int .i64)) (.pair (.pair (.int .i64) (.int .i64)) (.pair (.pair (.int .i64) (.int .i64)) (.pair (.pair (.int .i64) (.int .i64)) (.pair (.pair (.int .i64) (.int .i64)) (.pair (.int .i64) (.int .i64))))))))))))))))),((0,0),((0,0),((0,0),((1,1),((1,1),((2,16),((2,16),((2,16),((2,16),((2,16),((2,16),((3,3),((2,2),((1,16),((1,1),(0,0))))))))))))))))⟩
 |_=>none }
def Tryz.ti3:tinf prog 3=some ⟨.int .i64,1,8,some [.int .i64 0],none⟩:=by kernel_rfl
def Tryz.ti32:tinf prog 32=some ⟨.slice 3,1,24,some [.imm [] 0 (some 0)],none⟩:=by kernel_rfl
def C5:CC:=cq Tryz.f5
def s5:QD prog 5 6 [.cell 2 34] C5:=sq Tryz.func5 (by kernel_rfl)
def C6:CC:=cq Tryz.f6
def s6:QD prog 6 27 [.tmp 4] C6:=sq Tryz.func6 (by kernel_rfl)
def C9:CC:=cq Tryz.f9
def s9:QD prog 9 63 [.tmp 6,.tmp 7] C9:=sq Tryz.func9 (by kernel_rfl)
def C11:CC:=cq Tryz.f11
def s11:QD prog 11 83 [.tmp 4,.tmp 5] C11:=sq Tryz.func11 (by kernel_rfl)
def C15:CC:=cq Tryz.f15
def s15:QD prog 15 87 [.cell 4 77,.tmp 5,.tmp 6] C15:=sq Tryz.func15 (by kernel_rfl)
def C16:CC:=cq Tryz.f16
def s16:QD prog 16 25 [.cell 6 77,.tmp 7,.tmp 8] C16:=sq Tryz.func16 (by kernel_rfl)
def C22:CC:=cq Tryz.f22
def s22:QD prog 22 178 [.cell 2 34] C22:=sq Tryz.func22 (by kernel_rfl)
def C23:CC:=cq Tryz.f23
def s23:QD prog 23 16 [.cell 4 74] C23:=sq Tryz.func23 (by kernel_rfl)
def C24:CC:=cq Tryz.f24
def s24:QD prog 24 40 [.tmp 2,.tmp 3] C24:=sq Tryz.func24 (by kernel_rfl)
def C27:CC:=cq Tryz.f27
def s27:QD prog 27 34 [.tmp 4] C27:=sq Tryz.func27 (by kernel_rfl)
def C30:CC:=cq Tryz.f30
def s30:QD prog 30 71 [.tmp 6] C30:=sq Tryz.func30 (by kernel_rfl)
def C31:CC:=cq Tryz.f31
def s31:QD prog 31 74 [.tmp 8] C31:=sq Tryz.func31 (by kernel_rfl)
def C34:CC:=cq Tryz.f34
def s34:QD prog 34 9 [.tmp 2] C34:=sq Tryz.func34 (by kernel_rfl)
def C35:CC:=cq Tryz.f35
def s35:QD prog 35 48 [.tmp 4] C35:=sq Tryz.func35 (by kernel_rfl)
def C36:CC:=cq Tryz.f36
def s36:QD prog 36 6 [.tmp 2] C36:=sq Tryz.func36 (by kernel_rfl)
def C37:CC:=cq Tryz.f37
def s37:QD prog 37 79 [.tmp 6,.tmp 7] C37:=sq Tryz.func37 (by kernel_rfl)
def C40:CC:=cq Tryz.f40
def s40:QD prog 40 34 [.tmp 2,.tmp 3] C40:=sq Tryz.func40 (by kernel_rfl)
def C41:CC:=cq Tryz.f41
def s41:QD prog 41 43 [.tmp 4] C41:=sq Tryz.func41 (by kernel_rfl)
def C42:CC:=cq Tryz.f42
def s42:QD prog 42 46 [] C42:=sq Tryz.func42 (by kernel_rfl)
def C43:CC:=cq Tryz.f43
def s43:QD prog 43 9 [.tmp 2] C43:=sq Tryz.func43 (by kernel_rfl)
def C44:CC:=cq Tryz.f44
def s44:QD prog 44 91 [.tmp 4] C44:=sq Tryz.func44 (by kernel_rfl)
def C45:CC:=cq Tryz.f45
def s45:QD prog 45 65 [.cell 2 77] C45:=sq Tryz.func45 (by kernel_rfl)
def C46:CC:=cq Tryz.f46
def s46:QD prog 46 50 [.cell 6 77,.cell 7 77,.tmp 8,.tmp 9] C46:=sq Tryz.func46 (by kernel_rfl)
def C51:CC:=cq Tryz.f51
def s51:QD prog 51 158 [.cell 6 124] C51:=sq Tryz.func51 (by kernel_rfl)
def C53:CC:=cq Tryz.f53
def s53:QD prog 53 33 [.tmp 6] C53:=sq Tryz.func53 (by kernel_rfl)
def C54:CC:=cq Tryz.f54
def s54:QD prog 54 25 [.tmp 4] C54:=sq Tryz.func54 (by kernel_rfl)
def C55:CC:=cq Tryz.f55
def s55:QD prog 55 13 [.tmp 2] C55:=sq Tryz.func55 (by kernel_rfl)
def C56:CC:=cq Tryz.f56
def s56:QD prog 56 9 [.tmp 2] C56:=sq Tryz.func56 (by kernel_rfl)
def C59:CC:=cq Tryz.f59
def s59:QD prog 59 38 [.tmp 4] C59:=sq Tryz.func59 (by kernel_rfl)
def C60:CC:=cq Tryz.f60
def s60:QD prog 60 92 [.tmp 2] C60:=sq Tryz.func60 (by kernel_rfl)
def C61:CC:=cq Tryz.f61
def s61:QD prog 61 41 [.tmp 4] C61:=sq Tryz.func61 (by kernel_rfl)
def C62:CC:=cq Tryz.f62
def s62:QD prog 62 23 [.tmp 8] C62:=sq Tryz.func62 (by kernel_rfl)
def C63:CC:=cq Tryz.f63
def s63:QD prog 63 23 [.tmp 2] C63:=sq Tryz.func63 (by kernel_rfl)
def C64:CC:=cq Tryz.f64
def s64:QD prog 64 14 [.tmp 4] C64:=sq Tryz.func64 (by kernel_rfl)
def C65:CC:=cq Tryz.f65
def s65:QD prog 65 16 [.tmp 4,.tmp 5] C65:=sq Tryz.func65 (by kernel_rfl)
def C66:CC:=cq Tryz.f66
def s66:QD prog 66 9 [.tmp 2] C66:=sq Tryz.func66 (by kernel_rfl)
def C67:CC:=cq Tryz.f67
def s67:QD prog 67 30 [.tmp 4,.tmp 5] C67:=sq Tryz.func67 (by kernel_rfl)
def C68:CC:=cq Tryz.f68
def s68:QD prog 68 27 [.tmp 4] C68:=sq Tryz.func68 (by kernel_rfl)
def C69:CC:=cq Tryz.f69
def s69:QD prog 69 38 [] C69:=sq Tryz.func69 (by kernel_rfl)
def C71:CC:=cq Tryz.f71
def s71:QD prog 71 131 [.tmp 2,.tmp 3] C71:=sq Tryz.func71 (by kernel_rfl)
def C72:CC:=cq Tryz.f72
def s72:QD prog 72 9 [] C72:=sq Tryz.func72 (by kernel_rfl)
def C73:CC:=cq Tryz.f73
def s73:QD prog 73 15 [.tmp 5] C73:=sq Tryz.func73 (by kernel_rfl)
def C74:CC:=cq Tryz.f74
def s74:QD prog 74 20 [.tmp 4] C74:=sq Tryz.func74 (by kernel_rfl)
def C75:CC:=cq Tryz.f75
def s75:QD prog 75 6 [.tmp 2] C75:=sq Tryz.func75 (by kernel_rfl)
def C76:CC:=cq Tryz.f76
def s76:QD prog 76 9 [.tmp 4] C76:=sq Tryz.func76 (by kernel_rfl)
def C77:CC:=cq Tryz.f77
def s77:QD prog 77 5 [.tmp 2] C77:=sq Tryz.func77 (by kernel_rfl)
def C79:CC:=cq Tryz.f79
def s79:QD prog 79 5 [.tmp 2] C79:=sq Tryz.func79 (by kernel_rfl)
def C80:CC:=cq Tryz.f80
def s80:QD prog 80 7 [.tmp 2] C80:=sq Tryz.func80 (by kernel_rfl)
def C81:CC:=cq Tryz.f81
def s81:QD prog 81 5 [.tmp 2] C81:=sq Tryz.func81 (by kernel_rfl)
def C82:CC:=cq Tryz.f82
def s82:QD prog 82 5 [.tmp 2] C82:=sq Tryz.func82 (by kernel_rfl)
def C83:CC:=cq Tryz.f83
def s83:QD prog 83 20 [.tmp 2] C83:=sq Tryz.func83 (by kernel_rfl)
def C84:CC:=cq Tryz.f84
def s84:QD prog 84 23 [.tmp 6] C84:=sq Tryz.func84 (by kernel_rfl)
def C85:CC:=cq Tryz.f85
def s85:QD prog 85 12 [.tmp 4] C85:=sq Tryz.func85 (by kernel_rfl)
def C86:CC:=cq Tryz.f86
def s86:QD prog 86 24 [.tmp 2] C86:=sq Tryz.func86 (by kernel_rfl)
def C87:CC:=cq Tryz.f87
def s87:QD prog 87 20 [.tmp 4] C87:=sq Tryz.func87 (by kernel_rfl)
def C88:CC:=cq Tryz.f88
def s88:QD prog 88 9 [.tmp 2] C88:=sq Tryz.func88 (by kernel_rfl)
def C89:CC:=cq Tryz.f89
def s89:QD prog 89 47 [.tmp 6] C89:=sq Tryz.func89 (by kernel_rfl)
def C90:CC:=cq Tryz.f90
def s90:QD prog 90 189 [.cell 4 77] C90:=sq Tryz.func90 (by kernel_rfl)
def C98:CC:=cq Tryz.f98
def s98:QD prog 98 11 [.tmp 2] C98:=sq Tryz.func98 (by kernel_rfl)
def C101:CC:=cq Tryz.f101
def s101:QD prog 101 34 [.tmp 4] C101:=sq Tryz.func101 (by kernel_rfl)
def C103:CC:=cq Tryz.f103
def s103:QD prog 103 57 [.tmp 2] C103:=sq Tryz.func103 (by kernel_rfl)
def C104:CC:=cq Tryz.f104
def s104:QD prog 104 39 [.tmp 2] C104:=sq Tryz.func104 (by kernel_rfl)
def C107:CC:=cq Tryz.f107
def s107:QD prog 107 9 [.tmp 4] C107:=sq Tryz.func107 (by kernel_rfl)
def C108:CC:=cq Tryz.f108
def s108:QD prog 108 45 [.tmp 4] C108:=sq Tryz.func108 (by kernel_rfl)
def C110:CC:=cq Tryz.f110
def s110:QD prog 110 51 [.tmp 4,.tmp 5] C110:=sq Tryz.func110 (by kernel_rfl)
def C111:CC:=cq Tryz.f111
def s111:QD prog 111 9 [.tmp 4] C111:=sq Tryz.func111 (by kernel_rfl)
def C113:CC:=cq Tryz.f113
def s113:QD prog 113 73 [.tmp 2] C113:=sq Tryz.func113 (by kernel_rfl)
def C114:CC:=cq Tryz.f114
def s114:QD prog 114 63 [] C114:=sq Tryz.func114 (by kernel_rfl)
def C115:CC:=cq Tryz.f115
def s115:QD prog 115 6 [.tmp 2] C115:=sq Tryz.func115 (by kernel_rfl)
def C116:CC:=cq Tryz.f116
def s116:QD prog 116 19 [.tmp 4] C116:=sq Tryz.func116 (by kernel_rfl)
def C117:CC:=cq Tryz.f117
def s117:QD prog 117 5 [.tmp 2] C117:=sq Tryz.func117 (by kernel_rfl)
def C118:CC:=cq Tryz.f118
def s118:QD prog 118 28 [.tmp 6] C118:=sq Tryz.func118 (by kernel_rfl)
def C119:CC:=cq Tryz.f119
def s119:QD prog 119 6 [.tmp 2] C119:=sq Tryz.func119 (by kernel_rfl)
def C120:CC:=cq Tryz.f120
def s120:QD prog 120 6 [.tmp 2] C120:=sq Tryz.func120 (by kernel_rfl)
def C121:CC:=cq Tryz.f121
def s121:QD prog 121 5 [.tmp 2] C121:=sq Tryz.func121 (by kernel_rfl)
def C122:CC:=cq Tryz.f122
def s122:QD prog 122 9 [.tmp 2] C122:=sq Tryz.func122 (by kernel_rfl)
def C124:CC:=cq Tryz.f124
def s124:QD prog 124 8 [.tmp 6] C124:=sq Tryz.func124 (by kernel_rfl)
def C126:CC:=cq Tryz.f126
def s126:QD prog 126 24 [.tmp 6] C126:=sq Tryz.func126 (by kernel_rfl)
def C128:CC:=cq Tryz.f128
def s128:QD prog 128 6 [.tmp 3] C128:=sq Tryz.func128 (by kernel_rfl)
def C129:CC:=cq Tryz.f129
def s129:QD prog 129 18 [.tmp 4] C129:=sq Tryz.func129 (by kernel_rfl)
def C130:CC:=cq Tryz.f130
def s130:QD prog 130 42 [.tmp 4] C130:=sq Tryz.func130 (by kernel_rfl)
def C138:CC:=cq Tryz.f138
def s138:QD prog 138 18 [.cell 2 213,.tmp 3] C138:=sq Tryz.func138 (by kernel_rfl)
def C139:CC:=cq Tryz.f139
def s139:QD prog 139 4 [.tmp 2] C139:=sq Tryz.func139 (by kernel_rfl)
def C140:CC:=cq Tryz.f140
def s140:QD prog 140 19 [.tmp 4] C140:=sq Tryz.func140 (by kernel_rfl)
def C141:CC:=cq Tryz.f141
def s141:QD prog 141 19 [.tmp 4] C141:=sq Tryz.func141 (by kernel_rfl)
def C142:CC:=cq Tryz.f142
def s142:QD prog 142 53 [.tmp 4] C142:=sq Tryz.func142 (by kernel_rfl)
def C145:CC:=cq Tryz.f145
def s145:QD prog 145 9 [.tmp 4] C145:=sq Tryz.func145 (by kernel_rfl)
def C146:CC:=cq Tryz.f146
def s146:QD prog 146 53 [] C146:=sq Tryz.func146 (by kernel_rfl)
def C148:CC:=cq Tryz.f148
def s148:QD prog 148 9 [.tmp 4] C148:=sq Tryz.func148 (by kernel_rfl)
def C150:CC:=cq Tryz.f150
def s150:QD prog 150 6 [.tmp 4] C150:=sq Tryz.func150 (by kernel_rfl)
def C151:CC:=cq Tryz.f151
def s151:QD prog 151 15 [.tmp 6] C151:=sq Tryz.func151 (by kernel_rfl)
def C152:CC:=cq Tryz.f152
def s152:QD prog 152 23 [.tmp 8] C152:=sq Tryz.func152 (by kernel_rfl)
def C163:CC:=cq Tryz.f163
def s163:QD prog 163 13 [.tmp 3] C163:=sq Tryz.func163 (by kernel_rfl)
def C164:CC:=cq Tryz.f164
def s164:QD prog 164 11 [.tmp 3] C164:=sq Tryz.func164 (by kernel_rfl)
def C165:CC:=cq Tryz.f165
def s165:QD prog 165 45 [.tmp 4] C165:=sq Tryz.func165 (by kernel_rfl)
def C168:CC:=cq Tryz.f168
def s168:QD prog 168 19 [.tmp 4] C168:=sq Tryz.func168 (by kernel_rfl)
def C170:CC:=cq Tryz.f170
def s170:QD prog 170 19 [.tmp 4] C170:=sq Tryz.func170 (by kernel_rfl)
def mixed:prog.follows .mixedOrders=true:=by kernel_rfl
abbrev lI:Ly:=.int .i64
abbrev lB:Ly:=.int .u8
abbrev lS:Ly:=.sl lI
abbrev lN:Ly:=.pair lB (.pair lS (.pair lI lI))
abbrev lM:Ly:=.pair lS (.pair lS lI)
abbrev cir4:List Sh:=[.arr lN,.arr .str,.arr lM,.arr lI]
abbrev cI:ShV:=.c (.it .i64)
abbrev cB:ShV:=.c (.it .u8)
abbrev cP:ShV:=.c (.ptr 0 0)
abbrev cA:ShV:=.c (.arr lI)
abbrev cU:ShV:=.c (.arr lB)
abbrev oG:ShO:=.st [.it .u8,.it .i64,.it .i64,.it .u8,.it .i64] 1 0
abbrev oF:ShO:=.st [.arr lB,.arr lB] 1 0
abbrev oP:ShO:=.st [.it .i64,.it .i64] 1 0
abbrev oC:ShO:=.st cir4 1 0
abbrev oI:ShO:=.arr lI 0
abbrev oB:ShO:=.arr lB 0
abbrev iI:Sh:=.it .i64
abbrev iB:Sh:=.it .u8
abbrev aN:Sh:=.arr lN
abbrev aS:Sh:=.arr .str
abbrev aM:Sh:=.arr lM
abbrev aI:Sh:=.arr lI
abbrev aB:Sh:=.arr lB
abbrev jk:Sh:=.junk
abbrev TI:=List Int
abbrev TN:=List (Int×List Int×Int×Int)
abbrev TM:=List (List Int×List Int×Int)
abbrev TS:=List (List UInt8)
def nbeq:∀n,Nat.beq n n=true
 |0=>rfl
 |n+1=>nbeq n
def ty:TyT:=tyC prog
def ty_ok:ZF prog ty:=tyC_ok
def kn{N:Nat}{cl:List (FuncId×Con)}(hcl:Yz prog cl){f:FuncId}{rs:List ResultVar}{C:CC}(hs:QD prog f N rs C){X Y:Type}{g:Sg X}{ft:Ft Y}(lp:Nat->Option QT){l:List (Nat×CC)}{m:X->Option Y}
  (hal:QX prog N none g.h.length ⟨ty,Xy cl,lp,none⟩ l) (hn:Nat.ble g.vs.length N=true:=by exact rfl) (hl:Xr C 0=l:=by kernel_rfl) (hf:∀a b,ft.fv (ft.to a b)=a/\ft.fh (ft.to a b)=b:=by exact λ_ _=>⟨rfl,rfl⟩) (hto:∀a b,g.fa (g.to a b)=a/\g.fh (g.to a b)=b:=by exact λ_ _=>⟨rfl,rfl⟩)
  (hrun:∀x,exec ⟨ty,Xy cl,lp,none⟩ N C 0 (Zd 0 (g.A x)) (g.H x) (finish g.h.length ty rs ft)=m x:=by intro x;kernel_rfl) (hg:Jb prog N none g.h.length ⟨ty,Xy cl,lp,none⟩ none C 0:=by exact Jb.no (by kernel_rfl)):QQ prog f g ft m:=
 mk_known mixed (env_ok ty_ok hcl lp) hs (nbeq _) hn hl hal hf hto hrun (ZI.no rfl) hg
def ac(i:Nat){N n0:Nat}{E:Env}{B:CC}{l:List (Nat×CC)}{lp:QT}(h2:QO prog N none n0 B lp)(h:QX prog N none n0 E l)(h1:E.lp i=some lp:=by exact rfl):QX prog N none n0 E ((i,B)::l):=QX.cons h1 h2 h
def lk{N n0:Nat}{cl:List (FuncId×Con)}(hcl:Yz prog cl)(i:Nat)(lp:Nat->Option QT){X Y:Type}{p:Pt X}{e1:Exit}{q:Pt Y}{step:X->Option (X⊕Y)}{B:CC}{l:List (Nat×CC)}(hal:QX prog N none n0 ⟨ty,Xy cl,lp,none⟩ l)
  (he:match e1 with|.panic _|.outgrown|.normal=>False|_=>True:=by trivial) (hp:∀v,p.fr (p.to v)=v:=by exact λ_=>rfl) (hq:∀v,q.fr (q.to v)=v:=by exact λ_=>rfl) (hl:Xr B i=l:=by kernel_rfl)
  (hstep:∀x,exec ⟨ty,Xy cl,lp,none⟩ N B i (p.R x) (p.H x) (roundK n0 p e1 q)=step x:=by intro x;kernel_rfl) (hg:Jb prog N none n0 ⟨ty,Xy cl,lp,none⟩ none B i:=by exact Jb.no (by kernel_rfl)):QO prog N none n0 B (Qa n0 p e1 q step):=
 mkLoop_ok mixed (env_ok ty_ok hcl lp) he hp hq (hl▸hal) hstep (ZI.no rfl) hg
def lk2{N n0:Nat}{cl:List (FuncId×Con)}(hcl:Yz prog cl)(i:Nat)(lp:Nat->Option QT){X Y Z:Type}{p:Pt X}{e1:Exit}{q:Pt Y}{e2:Exit}{s:Pt Z}{step:X->Option (X⊕(Y⊕Z))}{B:CC}{l:List (Nat×CC)}(hal:QX prog N none n0 ⟨ty,Xy cl,lp,none⟩ l)
  (he:match e1 with|.panic _|.outgrown|.normal=>False|_=>True:=by trivial) (he2:match e2 with|.panic _|.outgrown|.normal=>False|_=>True:=by trivial) (hp:∀v,p.fr (p.to v)=v:=by exact λ_=>rfl) (hq:∀v,q.fr (q.to v)=v:=by exact λ_=>rfl) (hz:∀v,s.fr (s.to v)=v:=by exact λ_=>rfl) (hl:Xr B i=l:=by kernel_rfl)
  (hstep:∀x,exec ⟨ty,Xy cl,lp,none⟩ N B i (p.R x) (p.H x) (roundK2 n0 p e1 q e2 s)=step x:=by intro x;kernel_rfl) (hg:Jb prog N none n0 ⟨ty,Xy cl,lp,none⟩ none B i:=by exact Jb.no (by kernel_rfl)):QO prog N none n0 B (JW n0 p e1 q e2 s step):=
 mkLoop2_ok mixed (env_ok ty_ok hcl lp) he he2 hp hq hz (hl▸hal) hstep (ZI.no rfl) hg
def cn{f:FuncId}{X Y:Type}[Inhabited Y]{g:Sg X}{ft:Ft Y}{m:X->Option Y}(_:QQ prog f g ft m):Con:=conT g ft m default
def cno{f:FuncId}{X Y:Type}[Inhabited Y]{g:Sg X}{ft:Ft Y}{m:X->Option Y}(h:QQ prog f g ft m)(hft:∀y,(ft.V y).isTS=true:=by exact λ_=>rfl)(hh:ft.h=[]:=by exact rfl):J4 prog f (cn h):=conT_ok h hft hh
structure CK where(f:FuncId)(c:Con)(h:J4 prog f c)
def ck{f:FuncId}{X Y:Type}[Inhabited Y]{g:Sg X}{ft:Ft Y}{m:X->Option Y}(h:QQ prog f g ft m)(hft:∀y,(ft.V y).isTS=true:=by exact λ_=>rfl)(hh:ft.h=[]:=by exact rfl):CK:=⟨f,cn h,cno h hft hh⟩
def cks(L:List CK):List (FuncId×Con):=L.map λk=>(k.f,k.c)
def cks_ok:∀L:List CK,Yz prog (cks L)
 |[]=>trivial
 |k::L=>⟨k.h,cks_ok L⟩
def kc{N:Nat}(L:List CK){f:FuncId}{rs:List ResultVar}{C:CC}(hs:QD prog f N rs C){X Y:Type}{g:Sg X}{ft:Ft Y}(lp:Nat->Option QT){l:List (Nat×CC)}{m:X->Option Y}
  (hal:QX prog N none g.h.length ⟨ty,Xy (cks L),lp,none⟩ l) (hn:Nat.ble g.vs.length N=true:=by exact rfl) (hl:Xr C 0=l:=by kernel_rfl) (hf:∀a b,ft.fv (ft.to a b)=a/\ft.fh (ft.to a b)=b:=by exact λ_ _=>⟨rfl,rfl⟩) (hto:∀a b,g.fa (g.to a b)=a/\g.fh (g.to a b)=b:=by exact λ_ _=>⟨rfl,rfl⟩)
  (hrun:∀x,exec ⟨ty,Xy (cks L),lp,none⟩ N C 0 (Zd 0 (g.A x)) (g.H x) (finish g.h.length ty rs ft)=m x:=by intro x;kernel_rfl) (hg:Jb prog N none g.h.length ⟨ty,Xy (cks L),lp,none⟩ none C 0:=by exact Jb.no (by kernel_rfl)):QQ prog f g ft m:=
 kn (cks_ok L) hs lp hal hn hl hf hto hrun hg
def kc0{N:Nat}(L:List CK){f:FuncId}{rs:List ResultVar}{C:CC}(hs:QD prog f N rs C){X Y:Type}{g:Sg X}{ft:Ft Y}{m:X->Option Y}
  (hn:Nat.ble g.vs.length N=true:=by exact rfl) (hl:Xr C 0=[]:=by kernel_rfl) (hf:∀a b,ft.fv (ft.to a b)=a/\ft.fh (ft.to a b)=b:=by exact λ_ _=>⟨rfl,rfl⟩) (hto:∀a b,g.fa (g.to a b)=a/\g.fh (g.to a b)=b:=by exact λ_ _=>⟨rfl,rfl⟩)
  (hrun:∀x,exec ⟨ty,Xy (cks L),λ_=>none,none⟩ N C 0 (Zd 0 (g.A x)) (g.H x) (finish g.h.length ty rs ft)=m x:=by intro x;kernel_rfl) (hg:Jb prog N none g.h.length ⟨ty,Xy (cks L),λ_=>none,none⟩ none C 0:=by exact Jb.no (by kernel_rfl)):QQ prog f g ft m:=
 kn (cks_ok L) hs (λ_=>none) QX.nil hn hl hf hto hrun hg
def lc{N n0:Nat}(L:List CK)(i:Nat)(lp:Nat->Option QT){X Y:Type}{p:Pt X}{e1:Exit}{q:Pt Y}{step:X->Option (X⊕Y)}{B:CC}{l:List (Nat×CC)}(hal:QX prog N none n0 ⟨ty,Xy (cks L),lp,none⟩ l)
  (he:match e1 with|.panic _|.outgrown|.normal=>False|_=>True:=by trivial) (hp:∀v,p.fr (p.to v)=v:=by exact λ_=>rfl) (hq:∀v,q.fr (q.to v)=v:=by exact λ_=>rfl) (hl:Xr B i=l:=by kernel_rfl)
  (hstep:∀x,exec ⟨ty,Xy (cks L),lp,none⟩ N B i (p.R x) (p.H x) (roundK n0 p e1 q)=step x:=by intro x;kernel_rfl) (hg:Jb prog N none n0 ⟨ty,Xy (cks L),lp,none⟩ none B i:=by exact Jb.no (by kernel_rfl)):QO prog N none n0 B (Qa n0 p e1 q step):=
 lk (cks_ok L) i lp hal he hp hq hl hstep hg
def lc2{N n0:Nat}(L:List CK)(i:Nat)(lp:Nat->Option QT){X Y Z:Type}{p:Pt X}{e1:Exit}{q:Pt Y}{e2:Exit}{s:Pt Z}{step:X->Option (X⊕(Y⊕Z))}{B:CC}{l:List (Nat×CC)}(hal:QX prog N none n0 ⟨ty,Xy (cks L),lp,none⟩ l)
  (he:match e1 with|.panic _|.outgrown|.normal=>False|_=>True:=by trivial) (he2:match e2 with|.panic _|.outgrown|.normal=>False|_=>True:=by trivial) (hp:∀v,p.fr (p.to v)=v:=by exact λ_=>rfl) (hq:∀v,q.fr (q.to v)=v:=by exact λ_=>rfl) (hz:∀v,s.fr (s.to v)=v:=by exact λ_=>rfl) (hl:Xr B i=l:=by kernel_rfl)
  (hstep:∀x,exec ⟨ty,Xy (cks L),lp,none⟩ N B i (p.R x) (p.H x) (roundK2 n0 p e1 q e2 s)=step x:=by intro x;kernel_rfl) (hg:Jb prog N none n0 ⟨ty,Xy (cks L),lp,none⟩ none B i:=by exact Jb.no (by kernel_rfl)):QO prog N none n0 B (JW n0 p e1 q e2 s step):=
 lk2 (cks_ok L) i lp hal he he2 hp hq hz hl hstep hg
open Go.Shelf
def Tryz.laysGw17_ren:Go.Shelf.Ren:=⟨fun|17=>180|15=>194|20=>203|n=>n,fun|9=>9|23=>296|4=>4|3=>3|0=>0|21=>21|n=>n,fun|n=>n⟩
def Tryz.laysGw17:Go.Proofs.LaysGw.n17 prog Tryz.laysGw17_ren:={
 mixed:=by kernel_rfl
 f15:=Tryz.func194.trans (congrArg some (by kernel_rfl))
 f17:=Tryz.func180.trans (congrArg some (by kernel_rfl))
 f20:=Tryz.func203.trans (congrArg some (by kernel_rfl))
 t0:=Tryz.underlying0
 a0:=Tryz.isAgg0
 z0:=Tryz.sizeOf0
 v0:=Tryz.zeroValue0
 i0:=by kernel_rfl
 t3:=Tryz.underlying3
 a3:=Tryz.isAgg3
 z3:=Tryz.sizeOf3
 v3:=Tryz.zeroValue3
 i3:=by kernel_rfl
 t4:=Tryz.underlying4
 a4:=Tryz.isAgg4
 z4:=Tryz.sizeOf4
 v4:=Tryz.zeroValue4
 i4:=by kernel_rfl
 t9:=Tryz.underlying9
 a9:=Tryz.isAgg9
 z9:=Tryz.sizeOf9
 v9:=Tryz.zeroValue9
 i9:=by kernel_rfl
 t21:=Tryz.underlying21
 a21:=Tryz.isAgg21
 z21:=Tryz.sizeOf21
 v21:=Tryz.zeroValue21
 i21:=by kernel_rfl
 t23:=Tryz.underlying296
 a23:=Tryz.isAgg296
 z23:=Tryz.sizeOf296
 v23:=Tryz.zeroValue296
 i23:=by kernel_rfl }
def Tryz.lays151_ren:Go.Shelf.Ren:=⟨fun|151=>179|152=>193|137=>199|119=>200|224=>201|225=>202|217=>204|266=>205|n=>n,fun|9=>9|21=>21|4=>4|3=>3|5=>5|0=>0|46=>128|n=>n,fun|n=>n⟩
def Tryz.lays151:Go.Proofs.Lays.n151 prog Tryz.lays151_ren:={
 mixed:=by kernel_rfl
 f119:=Tryz.func200.trans (congrArg some (by kernel_rfl))
 f137:=Tryz.func199.trans (congrArg some (by kernel_rfl))
 f151:=Tryz.func179.trans (congrArg some (by kernel_rfl))
 f152:=Tryz.func193.trans (congrArg some (by kernel_rfl))
 f217:=Tryz.func204.trans (congrArg some (by kernel_rfl))
 f224:=Tryz.func201.trans (congrArg some (by kernel_rfl))
 f225:=Tryz.func202.trans (congrArg some (by kernel_rfl))
 f266:=Tryz.func205.trans (congrArg some (by kernel_rfl))
 t0:=Tryz.underlying0
 a0:=Tryz.isAgg0
 z0:=Tryz.sizeOf0
 v0:=Tryz.zeroValue0
 t3:=Tryz.underlying3
 a3:=Tryz.isAgg3
 z3:=Tryz.sizeOf3
 v3:=Tryz.zeroValue3
 t4:=Tryz.underlying4
 a4:=Tryz.isAgg4
 z4:=Tryz.sizeOf4
 v4:=Tryz.zeroValue4
 t5:=Tryz.underlying5
 a5:=Tryz.isAgg5
 z5:=Tryz.sizeOf5
 v5:=Tryz.zeroValue5
 t9:=Tryz.underlying9
 a9:=Tryz.isAgg9
 z9:=Tryz.sizeOf9
 v9:=Tryz.zeroValue9
 t21:=Tryz.underlying21
 a21:=Tryz.isAgg21
 z21:=Tryz.sizeOf21
 v21:=Tryz.zeroValue21
 t46:=Tryz.underlying128
 a46:=Tryz.isAgg128
 z46:=Tryz.sizeOf128
 v46:=Tryz.zeroValue128 }
namespace M117
structure gX where(v:Int)
def g:Sg gX:=⟨[cB],[],λa b=>⟨a.1⟩,λx=>(x.v,()),λx=>()⟩
abbrev fY:=Bool
def f:Ft fY:=⟨none,.c (.bo),[],λa b=>(a),λy=>y,λy=>()⟩
def m(x:gX):Option fY:=some (decide (x.v<=1))
def known:QQ prog 117 g f m:=
 kc0 [] s117
end M117
namespace M120
structure gX where(v:Int)
def g:Sg gX:=⟨[cB],[],λa b=>⟨a.1⟩,λx=>(x.v,()),λx=>()⟩
abbrev fY:=Int
def f:Ft fY:=⟨none,cB,[],λa b=>(a),λy=>y,λy=>()⟩
def m(x:gX):Option fY:=bif decide (x.v>3) then some 2 else some x.v
def known:QQ prog 120 g f m:=
 kc0 [] s120
end M120
namespace M79
structure gX where(v:Int)
def g:Sg gX:=⟨[cB],[],λa b=>⟨a.1⟩,λx=>(x.v,()),λx=>()⟩
abbrev fY:=Int
def f:Ft fY:=⟨none,cB,[],λa b=>(a),λy=>y,λy=>()⟩
def m(x:gX):Option fY:=some (if 2<x.v then 2 else x.v)
def known:QQ prog 79 g f m:=
 kc0 [] s79
end M79
namespace M80
structure gX where(v:Int)
def g:Sg gX:=⟨[cB],[],λa b=>⟨a.1⟩,λx=>(x.v,()),λx=>()⟩
abbrev fY:=Int
def f:Ft fY:=⟨none,cB,[],λa b=>(a),λy=>y,λy=>()⟩
def m(x:gX):Option fY:=bindO (M117.m ⟨x.v⟩) λy=>bif y then some (IntKind.u8.wrap (1 - x.v)) else some 2
def known:QQ prog 80 g f m:=
 kc0 [ck M117.known] s80
end M80
namespace M118
structure gX where(l:TI)(low high:Int)
def g:Sg gX:=⟨[cU,cB,cB],[],λa b=>⟨a.1,a.2.1,a.2.2.1⟩,λx=>(x.l,(x.low,(x.high,()))),λx=>()⟩
abbrev fY:=Int
def f:Ft fY:=⟨none,cB,[],λa b=>(a),λy=>y,λy=>()⟩
structure p0X where(low high out:Int)(l:TI)(n i:Int)
def p0:Pt p0X:=⟨[],⟨[(1,cB),(2,cB),(7,cB),(11,cU),(12,cI),(13,cI)],[]⟩,λ((a,b,c,d,e,f,_),_)=>⟨a,b,c,d,e,f⟩,λx=>((x.low,(x.high,(x.out,(x.l,(x.n,(x.i,())))))),())⟩
structure q0X where(out:Int)
def q0:Pt q0X:=⟨[],⟨[(7,cB)],[]⟩,λv=>⟨v.1.1⟩,λx=>((x.out,()),())⟩
structure z0X where(r:Int)
def z0:Pt z0X:=⟨[],⟨[(6,cB)],[]⟩,λv=>⟨v.1.1⟩,λx=>((x.r,()),())⟩
def s0(x:p0X):Option (p0X⊕(q0X⊕z0X)):=bif decide (x.i<x.n) then bif inR x.i x.l.length then bif x.l[x.i.toNat]?.getD 0==x.low then some (inr (inr ⟨x.low⟩)) else some (inl ⟨x.low,x.high,bif x.l[x.i.toNat]?.getD 0 !=x.high then 2 else x.out,x.l,x.n,i64.wrap (x.i+1)⟩) else none else some (inr (inl ⟨x.out⟩))
def l0:QT:=JW 0 p0 (.exit 0) q0 .ret z0 s0
def l0_ok  :QO prog 28 none 0 (C118.QR 0) l0:=lc2 [] 1 (λ_=>none) QX.nil
def m(x:gX):Option fY:=bindO (iter s0 ⟨x.low,x.high,x.high,x.l,(x.l.length:Int),0⟩) λs=>sumC s (λy=>some y.out) λz=>some z.r
def known:QQ prog 118 g f m:=
 kc [] s118 (J2 [(0,l0)]) (ac 0 l0_ok QX.nil)
end M118
namespace M81
structure gX where(l:TI)
def g:Sg gX:=⟨[cU],[],λa b=>⟨a.1⟩,λx=>(x.l,()),λx=>()⟩
abbrev fY:=Int
def f:Ft fY:=⟨none,cB,[],λa b=>(a),λy=>y,λy=>()⟩
def m(x:gX):Option fY:=bindO (M118.m ⟨x.l,0,1⟩) λy=>some y
def known:QQ prog 81 g f m:=
 kc0 [ck M118.known] s81
end M81
namespace M82
structure gX where(l:TI)
def g:Sg gX:=⟨[cU],[],λa b=>⟨a.1⟩,λx=>(x.l,()),λx=>()⟩
abbrev fY:=Int
def f:Ft fY:=⟨none,cB,[],λa b=>(a),λy=>y,λy=>()⟩
def m(x:gX):Option fY:=bindO (M118.m ⟨x.l,1,0⟩) λy=>some y
def known:QQ prog 82 g f m:=
 kc0 [ck M118.known] s82
end M82
namespace M83
structure gX where(l:TI)
def g:Sg gX:=⟨[cU],[],λa b=>⟨a.1⟩,λx=>(x.l,()),λx=>()⟩
abbrev fY:=Int
def f:Ft fY:=⟨none,cB,[],λa b=>(a),λy=>y,λy=>()⟩
def cl:List CK:=[ck M117.known]
structure p0X where(out:Int)(l:TI)(n i:Int)
def p0:Pt p0X:=⟨[],⟨[(3,cB),(6,cU),(7,cI),(8,cI)],[]⟩,λ((a,b,c,d,_),_)=>⟨a,b,c,d⟩,λx=>((x.out,(x.l,(x.n,(x.i,())))),())⟩
structure q0X where(out:Int)
def q0:Pt q0X:=⟨[],⟨[(3,cB)],[]⟩,λv=>⟨v.1.1⟩,λx=>((x.out,()),())⟩
structure z0X where(r:Int)
def z0:Pt z0X:=⟨[],⟨[(2,cB)],[]⟩,λv=>⟨v.1.1⟩,λx=>((x.r,()),())⟩
def s0(x:p0X):Option (p0X⊕(q0X⊕z0X)):=bif decide (x.i<x.n) then bif inR x.i x.l.length then bindO (M117.m ⟨x.l[x.i.toNat]?.getD 0⟩) λy=>bif !y then some (inr (inr ⟨2⟩)) else some (inl ⟨IntKind.u8.wrap (↑(BitVec.ofInt 8 x.out^^^BitVec.ofInt 8 (x.l[x.i.toNat]?.getD 0)).toNat:Int),x.l,x.n,i64.wrap (x.i+1)⟩) else none else some (inr (inl ⟨x.out⟩))
def l0:QT:=JW 0 p0 (.exit 0) q0 .ret z0 s0
def l0_ok  :QO prog 20 none 0 (C83.QR 0) l0:=lc2 cl 1 (λ_=>none) QX.nil
def m(x:gX):Option fY:=bindO (iter s0 ⟨0,x.l,(x.l.length:Int),0⟩) λs=>sumC s (λy=>some y.out) λz=>some z.r
def known:QQ prog 83 g f m:=
 kc cl s83 (J2 [(0,l0)]) (ac 0 l0_ok QX.nil)
end M83
namespace M84
structure gX where(sel a b:Int)
def g:Sg gX:=⟨[cB,cB,cB],[],λa b=>⟨a.1,a.2.1,a.2.2.1⟩,λx=>(x.sel,(x.a,(x.b,()))),λx=>()⟩
abbrev fY:=Int
def f:Ft fY:=⟨none,cB,[],λa b=>(a),λy=>y,λy=>()⟩
def m(x:gX):Option fY:=bif x.sel==0 then bindO (M79.m ⟨x.a⟩) λy=>some y else bif x.sel==1 then bindO (M79.m ⟨x.b⟩) λy=>some y else bif x.a==x.b then bindO (M79.m ⟨x.a⟩) λy=>some y else some 2
def known:QQ prog 84 g f m:=
 kc0 [ck M79.known] s84
end M84
namespace M85
structure gX where(en d:Int)
def g:Sg gX:=⟨[cB,cB],[],λa b=>⟨a.1,a.2.1⟩,λx=>(x.en,(x.d,())),λx=>()⟩
abbrev fY:=Int
def f:Ft fY:=⟨none,cB,[],λa b=>(a),λy=>y,λy=>()⟩
def m(x:gX):Option fY:=bif x.en==0 then some 3 else bif x.en==1 then bindO (M79.m ⟨x.d⟩) λy=>some y else some 2
def known:QQ prog 85 g f m:=
 kc0 [ck M79.known] s85
end M85
namespace M119
structure gX where(v:Int)
def g:Sg gX:=⟨[cB],[],λa b=>⟨a.1⟩,λx=>(x.v,()),λx=>()⟩
abbrev fY:=Bool
def f:Ft fY:=⟨none,.c (.bo),[],λa b=>(a),λy=>y,λy=>()⟩
def m(x:gX):Option fY:=bindO (M120.m ⟨x.v⟩) λy=>some (y==2)
def known:QQ prog 119 g f m:=
 kc0 [ck M120.known] s119
end M119
namespace M121
structure gX where(v:Int)
def g:Sg gX:=⟨[cB],[],λa b=>⟨a.1⟩,λx=>(x.v,()),λx=>()⟩
abbrev fY:=Bool
def f:Ft fY:=⟨none,.c (.bo),[],λa b=>(a),λy=>y,λy=>()⟩
def m(x:gX):Option fY:=some (x.v !=3)
def known:QQ prog 121 g f m:=
 kc0 [] s121
end M121
namespace M116a
structure gX where(s:TI)
def g:Sg gX:=⟨[cU,.c (.fn 119)],[],λa b=>⟨a.1⟩,λx=>(x.s,((),())),λx=>()⟩
abbrev fY:=Int
def f:Ft fY:=⟨none,cI,[],λa b=>(a),λy=>y,λy=>()⟩
def cl:List CK:=[ck M119.known]
structure p0X where(s:TI)(n i:Int)
def p0:Pt p0X:=⟨[],⟨[(0,cU),(1,.c (.fn 119)),(7,cI),(8,cI)],[]⟩,λ((a,_,b,c,_),_)=>⟨a,b,c⟩,λx=>((x.s,((),(x.n,(x.i,())))),())⟩
abbrev q0X:=Unit
def q0:Pt q0X:=⟨[],⟨[],[]⟩,λv=>(),λx=>((),())⟩
structure z0X where(r:Int)
def z0:Pt z0X:=⟨[],⟨[(4,cI)],[]⟩,λv=>⟨v.1.1⟩,λx=>((x.r,()),())⟩
def s0(x:p0X):Option (p0X⊕(q0X⊕z0X)):=bif decide (x.i<x.n) then bif inR x.i x.s.length then bindO (M119.m ⟨x.s[x.i.toNat]?.getD 0⟩) λy=>bif y then some (inr (inr ⟨x.i⟩)) else some (inl ⟨x.s,x.n,i64.wrap (x.i+1)⟩) else none else some (inr (inl PUnit.unit))
def l0:QT:=JW 0 p0 (.exit 0) q0 .ret z0 s0
def l0_ok  :QO prog 19 none 0 (C116.QR 0) l0:=lc2 cl 1 (λ_=>none) QX.nil
def m(x:gX):Option fY:=bindO (iter s0 ⟨x.s,(x.s.length:Int),0⟩) λs=>sumC s (λy=>some (-1)) λz=>some z.r
def known:QQ prog 116 g f m:=
 kc cl s116 (J2 [(0,l0)]) (ac 0 l0_ok QX.nil)
end M116a
namespace M76a
structure gX where(s:TI)
def g:Sg gX:=⟨[cU,.c (.fn 119)],[],λa b=>⟨a.1⟩,λx=>(x.s,((),())),λx=>()⟩
abbrev fY:=Bool
def f:Ft fY:=⟨none,.c (.bo),[],λa b=>(a),λy=>y,λy=>()⟩
def m(x:gX):Option fY:=bindO (M116a.m ⟨x.s⟩) λy=>some (decide (y>=0))
def known:QQ prog 76 g f m:=
 kc0 [ck M116a.known] s76
end M76a
namespace M116b
structure gX where(s:TI)
def g:Sg gX:=⟨[cU,.c (.fn 121)],[],λa b=>⟨a.1⟩,λx=>(x.s,((),())),λx=>()⟩
abbrev fY:=Int
def f:Ft fY:=⟨none,cI,[],λa b=>(a),λy=>y,λy=>()⟩
def cl:List CK:=[ck M121.known]
structure p0X where(s:TI)(n i:Int)
def p0:Pt p0X:=⟨[],⟨[(0,cU),(1,.c (.fn 121)),(7,cI),(8,cI)],[]⟩,λ((a,_,b,c,_),_)=>⟨a,b,c⟩,λx=>((x.s,((),(x.n,(x.i,())))),())⟩
abbrev q0X:=Unit
def q0:Pt q0X:=⟨[],⟨[],[]⟩,λv=>(),λx=>((),())⟩
structure z0X where(r:Int)
def z0:Pt z0X:=⟨[],⟨[(4,cI)],[]⟩,λv=>⟨v.1.1⟩,λx=>((x.r,()),())⟩
def s0(x:p0X):Option (p0X⊕(q0X⊕z0X)):=bif decide (x.i<x.n) then bif inR x.i x.s.length then bindO (M121.m ⟨x.s[x.i.toNat]?.getD 0⟩) λy=>bif y then some (inr (inr ⟨x.i⟩)) else some (inl ⟨x.s,x.n,i64.wrap (x.i+1)⟩) else none else some (inr (inl PUnit.unit))
def l0:QT:=JW 0 p0 (.exit 0) q0 .ret z0 s0
def l0_ok  :QO prog 19 none 0 (C116.QR 0) l0:=lc2 cl 1 (λ_=>none) QX.nil
def m(x:gX):Option fY:=bindO (iter s0 ⟨x.s,(x.s.length:Int),0⟩) λs=>sumC s (λy=>some (-1)) λz=>some z.r
def known:QQ prog 116 g f m:=
 kc cl s116 (J2 [(0,l0)]) (ac 0 l0_ok QX.nil)
end M116b
namespace M170
structure gX where(s:TI)(v:Int)
def g:Sg gX:=⟨[cU,cB],[],λa b=>⟨a.1,a.2.1⟩,λx=>(x.s,(x.v,())),λx=>()⟩
abbrev fY:=Int
def f:Ft fY:=⟨none,cI,[],λa b=>(a),λy=>y,λy=>()⟩
structure p0X where(s:TI)(v n i:Int)
def p0:Pt p0X:=⟨[],⟨[(0,cU),(1,cB),(7,cI),(8,cI)],[]⟩,λ((a,b,c,d,_),_)=>⟨a,b,c,d⟩,λx=>((x.s,(x.v,(x.n,(x.i,())))),())⟩
abbrev q0X:=Unit
def q0:Pt q0X:=⟨[],⟨[],[]⟩,λv=>(),λx=>((),())⟩
structure z0X where(r:Int)
def z0:Pt z0X:=⟨[],⟨[(4,cI)],[]⟩,λv=>⟨v.1.1⟩,λx=>((x.r,()),())⟩
def s0(x:p0X):Option (p0X⊕(q0X⊕z0X)):=bif decide (x.i<x.n) then bif inR x.i x.s.length then bif x.v==x.s[x.i.toNat]?.getD 0 then some (inr (inr ⟨x.i⟩)) else some (inl ⟨x.s,x.v,x.n,i64.wrap (x.i+1)⟩) else none else some (inr (inl PUnit.unit))
def l0:QT:=JW 0 p0 (.exit 0) q0 .ret z0 s0
def l0_ok  :QO prog 19 none 0 (C170.QR 0) l0:=lc2 [] 1 (λ_=>none) QX.nil
def m(x:gX):Option fY:=bindO (iter s0 ⟨x.s,x.v,(x.s.length:Int),0⟩) λs=>sumC s (λy=>some (-1)) λz=>some z.r
def known:QQ prog 170 g f m:=
 kc [] s170 (J2 [(0,l0)]) (ac 0 l0_ok QX.nil)
end M170
namespace M148
structure gX where(s:TI)(v:Int)
def g:Sg gX:=⟨[cU,cB],[],λa b=>⟨a.1,a.2.1⟩,λx=>(x.s,(x.v,())),λx=>()⟩
abbrev fY:=Bool
def f:Ft fY:=⟨none,.c (.bo),[],λa b=>(a),λy=>y,λy=>()⟩
def m(x:gX):Option fY:=bindO (M170.m ⟨x.s,x.v⟩) λy=>some (decide (y>=0))
def known:QQ prog 148 g f m:=
 kc0 [ck M170.known] s148
end M148
namespace M122
structure gX where(l:TI)
def g:Sg gX:=⟨[cU],[],λa b=>⟨a.1⟩,λx=>(x.l,()),λx=>()⟩
abbrev fY:=Bool
def f:Ft fY:=⟨none,.c (.bo),[],λa b=>(a),λy=>y,λy=>()⟩
def m(x:gX):Option fY:=bindO (M148.m ⟨x.l,0⟩) λy=>bindO (bif y then M148.m ⟨x.l,1⟩ else some false) λy_1=>some (bif y then y_1 else false)
def known:QQ prog 122 g f m:=
 kc0 [ck M148.known] s122
end M122
namespace M86
structure gX where(l:TI)
def g:Sg gX:=⟨[cU],[],λa b=>⟨a.1⟩,λx=>(x.l,()),λx=>()⟩
abbrev fY:=Int
def f:Ft fY:=⟨none,cB,[],λa b=>(a),λy=>y,λy=>()⟩
def m(x:gX):Option fY:=bindO (M116b.m ⟨x.l⟩) λy=>bif decide (y<0) then some 3 else bindO (M122.m ⟨x.l⟩) λy_1=>bindO (bif !y_1 then M76a.m ⟨x.l⟩ else some false) λy_2=>bif bif y_1 then true else y_2 then some 2 else bif inR y x.l.length then some (x.l[Int.toNat y]?.getD 0) else none
def known:QQ prog 86 g f m:=
 kc0 [ck M116b.known,ck M122.known,ck M76a.known] s86
end M86
namespace M141
structure gX where(s:TI)(v:Int)
def g:Sg gX:=⟨[cU,cB],[],λa b=>⟨a.1,a.2.1⟩,λx=>(x.s,(x.v,())),λx=>()⟩
abbrev fY:=Int
def f:Ft fY:=⟨none,cI,[],λa b=>(a),λy=>y,λy=>()⟩
structure p0X where(s:TI)(v n i:Int)
def p0:Pt p0X:=⟨[],⟨[(0,cU),(1,cB),(7,cI),(8,cI)],[]⟩,λ((a,b,c,d,_),_)=>⟨a,b,c,d⟩,λx=>((x.s,(x.v,(x.n,(x.i,())))),())⟩
abbrev q0X:=Unit
def q0:Pt q0X:=⟨[],⟨[],[]⟩,λv=>(),λx=>((),())⟩
structure z0X where(r:Int)
def z0:Pt z0X:=⟨[],⟨[(4,cI)],[]⟩,λv=>⟨v.1.1⟩,λx=>((x.r,()),())⟩
def s0(x:p0X):Option (p0X⊕(q0X⊕z0X)):=bif decide (x.i<x.n) then bif inR x.i x.s.length then bif x.v==x.s[x.i.toNat]?.getD 0 then some (inr (inr ⟨x.i⟩)) else some (inl ⟨x.s,x.v,x.n,i64.wrap (x.i+1)⟩) else none else some (inr (inl PUnit.unit))
def l0:QT:=JW 0 p0 (.exit 0) q0 .ret z0 s0
def l0_ok  :QO prog 19 none 0 (C141.QR 0) l0:=lc2 [] 1 (λ_=>none) QX.nil
def m(x:gX):Option fY:=bindO (iter s0 ⟨x.s,x.v,(x.s.length:Int),0⟩) λs=>sumC s (λy=>some (-1)) λz=>some z.r
def known:QQ prog 141 g f m:=
 kc [] s141 (J2 [(0,l0)]) (ac 0 l0_ok QX.nil)
end M141
namespace M111
structure gX where(s:TI)(v:Int)
def g:Sg gX:=⟨[cU,cB],[],λa b=>⟨a.1,a.2.1⟩,λx=>(x.s,(x.v,())),λx=>()⟩
abbrev fY:=Bool
def f:Ft fY:=⟨none,.c (.bo),[],λa b=>(a),λy=>y,λy=>()⟩
def m(x:gX):Option fY:=bindO (M141.m ⟨x.s,x.v⟩) λy=>some (decide (y>=0))
def known:QQ prog 111 g f m:=
 kc0 [ck M141.known] s111
end M111
namespace M43
structure gX where(k:Int)
def g:Sg gX:=⟨[cB],[],λa b=>⟨a.1⟩,λx=>(x.k,()),λx=>()⟩
abbrev fY:=Bool
def f:Ft fY:=⟨none,.c (.bo),[],λa b=>(a),λy=>y,λy=>()⟩
def m(x:gX):Option fY:=some (bif decide (x.k>=1) then decide (x.k<=13) else false)
def known:QQ prog 43 g f m:=
 kc0 [] s43
end M43
namespace M77
structure gX where(v:Int)
def g:Sg gX:=⟨[cB],[],λa b=>⟨a.1⟩,λx=>(x.v,()),λx=>()⟩
abbrev fY:=Bool
def f:Ft fY:=⟨none,.c (.bo),[],λa b=>(a),λy=>y,λy=>()⟩
def m(x:gX):Option fY:=some (decide (x.v>3))
def known:QQ prog 77 g f m:=
 kc0 [] s77
end M77
namespace M116c
structure gX where(s:TI)
def g:Sg gX:=⟨[cU,.c (.fn 77)],[],λa b=>⟨a.1⟩,λx=>(x.s,((),())),λx=>()⟩
abbrev fY:=Int
def f:Ft fY:=⟨none,cI,[],λa b=>(a),λy=>y,λy=>()⟩
def cl:List CK:=[ck M77.known]
structure p0X where(s:TI)(n i:Int)
def p0:Pt p0X:=⟨[],⟨[(0,cU),(1,.c (.fn 77)),(7,cI),(8,cI)],[]⟩,λ((a,_,b,c,_),_)=>⟨a,b,c⟩,λx=>((x.s,((),(x.n,(x.i,())))),())⟩
abbrev q0X:=Unit
def q0:Pt q0X:=⟨[],⟨[],[]⟩,λv=>(),λx=>((),())⟩
structure z0X where(r:Int)
def z0:Pt z0X:=⟨[],⟨[(4,cI)],[]⟩,λv=>⟨v.1.1⟩,λx=>((x.r,()),())⟩
def s0(x:p0X):Option (p0X⊕(q0X⊕z0X)):=bif decide (x.i<x.n) then bif inR x.i x.s.length then bindO (M77.m ⟨x.s[x.i.toNat]?.getD 0⟩) λy=>bif y then some (inr (inr ⟨x.i⟩)) else some (inl ⟨x.s,x.n,i64.wrap (x.i+1)⟩) else none else some (inr (inl PUnit.unit))
def l0:QT:=JW 0 p0 (.exit 0) q0 .ret z0 s0
def l0_ok  :QO prog 19 none 0 (C116.QR 0) l0:=lc2 cl 1 (λ_=>none) QX.nil
def m(x:gX):Option fY:=bindO (iter s0 ⟨x.s,(x.s.length:Int),0⟩) λs=>sumC s (λy=>some (-1)) λz=>some z.r
def known:QQ prog 116 g f m:=
 kc cl s116 (J2 [(0,l0)]) (ac 0 l0_ok QX.nil)
end M116c
namespace M76c
structure gX where(s:TI)
def g:Sg gX:=⟨[cU,.c (.fn 77)],[],λa b=>⟨a.1⟩,λx=>(x.s,((),())),λx=>()⟩
abbrev fY:=Bool
def f:Ft fY:=⟨none,.c (.bo),[],λa b=>(a),λy=>y,λy=>()⟩
def m(x:gX):Option fY:=bindO (M116c.m ⟨x.s⟩) λy=>some (decide (y>=0))
def known:QQ prog 76 g f m:=
 kc0 [ck M116c.known] s76
end M76c
namespace M163
structure gX where(n:Int)(Q0:TN)(Q1:TS)(Q4:TM)(Q3:TI)
def g:Sg gX:=⟨[cI,cP],[oC],λa b=>⟨a.1,b.1.1,b.1.2.1,b.1.2.2.1,b.1.2.2.2.1⟩,λx=>(x.n,((),())),λx=>((x.Q0,(x.Q1,(x.Q4,(x.Q3,())))),())⟩
abbrev fY:=Bool×TN×TS×TM×TI
def f:Ft fY:=⟨none,.c (.bo),[oC],λa b=>(a,b.1.1,b.1.2.1,b.1.2.2.1,b.1.2.2.2.1),λy=>y.1,λy=>((y.2.1,(y.2.2.1,(y.2.2.2.1,(y.2.2.2.2,())))),())⟩
def m(x:gX):Option fY:=some (bif decide (x.n<0) then true else decide (x.n>=(x.Q0.length:Int)),x.Q0,x.Q1,x.Q4,x.Q3)
def known:QQ prog 163 g f m:=
 kc0 [] s163
def con:Con:=YZ g [.arg 1 0] f m default
def con_ok:J4 prog 163 con:=Jh known (λ_=>rfl) (λ_ _ h=>by unfold m at h;cases h;rfl)
end M163
namespace M164
structure gX where(n:Int)(Q0:TN)(Q1:TS)(Q4:TM)(Q3:TI)
def g:Sg gX:=⟨[cI,cP],[oC],λa b=>⟨a.1,b.1.1,b.1.2.1,b.1.2.2.1,b.1.2.2.2.1⟩,λx=>(x.n,((),())),λx=>((x.Q0,(x.Q1,(x.Q4,(x.Q3,())))),())⟩
abbrev fY:=Bool×TN×TS×TM×TI
def f:Ft fY:=⟨none,.c (.bo),[oC],λa b=>(a,b.1.1,b.1.2.1,b.1.2.2.1,b.1.2.2.2.1),λy=>y.1,λy=>((y.2.1,(y.2.2.1,(y.2.2.2.1,(y.2.2.2.2,())))),())⟩
def m(x:gX):Option fY:=bif inR x.n x.Q0.length then some ((x.Q0[x.n.toNat]?.getD (0,[],0,0)).1 !=12,x.Q0,x.Q1,x.Q4,x.Q3) else none
def known:QQ prog 164 g f m:=
 kc0 [] s164
def con:Con:=YZ g [.arg 1 0] f m default
def con_ok:J4 prog 164 con:=Jh known (λ_=>rfl) (λ_ _ h=>by unfold m at h;rcases cond_some h with ⟨_,h⟩|⟨_,h⟩<;>cases h;rfl)
end M164
namespace M168a
structure gX where(s:TI)(Q0:TN)(Q1:TS)(Q4:TM)(Q3:TI)
def g:Sg gX:=⟨[cA,.c (.clo 163 [⟨0,0,0⟩])],[oC],λa b=>⟨a.1,b.1.1,b.1.2.1,b.1.2.2.1,b.1.2.2.2.1⟩,λx=>(x.s,((),())),λx=>((x.Q0,(x.Q1,(x.Q4,(x.Q3,())))),())⟩
abbrev fY:=Int×TN×TS×TM×TI
def f:Ft fY:=⟨none,cI,[oC],λa b=>(a,b.1.1,b.1.2.1,b.1.2.2.1,b.1.2.2.2.1),λy=>y.1,λy=>((y.2.1,(y.2.2.1,(y.2.2.2.1,(y.2.2.2.2,())))),())⟩
def cl:List CK:=[⟨163,M163.con,M163.con_ok⟩]
structure p0X where(s:TI)(n i:Int)(Q0:TN)(Q1:TS)(Q4:TM)(Q3:TI)
def p0:Pt p0X:=⟨[],⟨[(0,cA),(1,.c (.clo 163 [⟨0,0,0⟩])),(7,cI),(8,cI)],[oC]⟩,λ((a,_,b,c,_),(d,e,f,g,_),_)=>⟨a,b,c,d,e,f,g⟩,λx=>((x.s,((),(x.n,(x.i,())))),((x.Q0,(x.Q1,(x.Q4,(x.Q3,())))),()))⟩
structure q0X where(Q0:TN)(Q1:TS)(Q4:TM)(Q3:TI)
def q0:Pt q0X:=⟨[],⟨[],[oC]⟩,λ(_,(a,b,c,d,_),_)=>⟨a,b,c,d⟩,λx=>((),((x.Q0,(x.Q1,(x.Q4,(x.Q3,())))),()))⟩
structure z0X where(r:Int)(Q0:TN)(Q1:TS)(Q4:TM)(Q3:TI)
def z0:Pt z0X:=⟨[],⟨[(4,cI)],[oC]⟩,λ((a,_),(b,c,d,e,_),_)=>⟨a,b,c,d,e⟩,λx=>((x.r,()),((x.Q0,(x.Q1,(x.Q4,(x.Q3,())))),()))⟩
def s0(x:p0X):Option (p0X⊕(q0X⊕z0X)):=bif decide (x.i<x.n) then bif inR x.i x.s.length then bindO (M163.m ⟨x.s[x.i.toNat]?.getD 0,x.Q0,x.Q1,x.Q4,x.Q3⟩) λy=>bif y.1 then some (inr (inr ⟨x.i,x.Q0,x.Q1,x.Q4,x.Q3⟩)) else some (inl ⟨x.s,x.n,i64.wrap (x.i+1),x.Q0,x.Q1,x.Q4,x.Q3⟩) else none else some (inr (inl ⟨x.Q0,x.Q1,x.Q4,x.Q3⟩))
def l0:QT:=JW 1 p0 (.exit 0) q0 .ret z0 s0
def l0_ok  :QO prog 19 none 1 (C168.QR 0) l0:=lc2 cl 1 (λ_=>none) QX.nil
def m(x:gX):Option fY:=bindO (iter s0 ⟨x.s,(x.s.length:Int),0,x.Q0,x.Q1,x.Q4,x.Q3⟩) λs=>sumC s (λy=>some (-1,y.Q0,y.Q1,y.Q4,y.Q3)) λz=>some (z.r,z.Q0,z.Q1,z.Q4,z.Q3)
def known:QQ prog 168 g f m:=
 kc cl s168 (J2 [(0,l0)]) (ac 0 l0_ok QX.nil)
def hh{x:gX}{y:fY}(h:m x=some y):f.H y=g.H x:=by
 unfold m at h;obtain⟨r,h1,h2⟩:=Qf h;have h3:=Xe (λz=>z.Q0=x.Q0/\z.Q1=x.Q1/\z.Q4=x.Q4/\z.Q3=x.Q3) (λr=>match r with|.inl y=>y.Q0=x.Q0/\y.Q1=x.Q1/\y.Q4=x.Q4/\y.Q3=x.Q3|.inr z=>z.Q0=x.Q0/\z.Q1=x.Q1/\z.Q4=x.Q4/\z.Q3=x.Q3) (λz r hz hr=>by
  unfold s0 at hr;rcases cond_some hr with ⟨_,hr⟩|⟨_,hr⟩
  ·rcases cond_some hr with ⟨_,hr⟩|⟨_,hr⟩
   ·obtain⟨b,_,hr⟩:=Qf hr;rcases cond_some hr with ⟨_,hr⟩|⟨_,hr⟩<;>(cases hr;exact hz)
   ·cases hr
  ·cases hr;exact hz) ⟨rfl,rfl,rfl,rfl⟩ h1
 rcases sumC_some h2 with ⟨z,rfl,h4⟩|⟨z,rfl,h4⟩<;>(cases h4;obtain⟨e1,e2,e3,e4⟩:=h3;simp only[Ft.H,Sg.H,f,g,e1,e2,e3,e4])
def con:Con:=YZ g [.arg 1 0] f m default
def con_ok:J4 prog 168 con:=Jh known (λ_=>rfl) (λ_ _ h=>by exact hh h)
end M168a
namespace M168b
structure gX where(s:TI)(Q0:TN)(Q1:TS)(Q4:TM)(Q3:TI)
def g:Sg gX:=⟨[cA,.c (.clo 164 [⟨0,0,0⟩])],[oC],λa b=>⟨a.1,b.1.1,b.1.2.1,b.1.2.2.1,b.1.2.2.2.1⟩,λx=>(x.s,((),())),λx=>((x.Q0,(x.Q1,(x.Q4,(x.Q3,())))),())⟩
abbrev fY:=Int×TN×TS×TM×TI
def f:Ft fY:=⟨none,cI,[oC],λa b=>(a,b.1.1,b.1.2.1,b.1.2.2.1,b.1.2.2.2.1),λy=>y.1,λy=>((y.2.1,(y.2.2.1,(y.2.2.2.1,(y.2.2.2.2,())))),())⟩
def cl:List CK:=[⟨164,M164.con,M164.con_ok⟩]
structure p0X where(s:TI)(n i:Int)(Q0:TN)(Q1:TS)(Q4:TM)(Q3:TI)
def p0:Pt p0X:=⟨[],⟨[(0,cA),(1,.c (.clo 164 [⟨0,0,0⟩])),(7,cI),(8,cI)],[oC]⟩,λ((a,_,b,c,_),(d,e,f,g,_),_)=>⟨a,b,c,d,e,f,g⟩,λx=>((x.s,((),(x.n,(x.i,())))),((x.Q0,(x.Q1,(x.Q4,(x.Q3,())))),()))⟩
structure q0X where(Q0:TN)(Q1:TS)(Q4:TM)(Q3:TI)
def q0:Pt q0X:=⟨[],⟨[],[oC]⟩,λ(_,(a,b,c,d,_),_)=>⟨a,b,c,d⟩,λx=>((),((x.Q0,(x.Q1,(x.Q4,(x.Q3,())))),()))⟩
structure z0X where(r:Int)(Q0:TN)(Q1:TS)(Q4:TM)(Q3:TI)
def z0:Pt z0X:=⟨[],⟨[(4,cI)],[oC]⟩,λ((a,_),(b,c,d,e,_),_)=>⟨a,b,c,d,e⟩,λx=>((x.r,()),((x.Q0,(x.Q1,(x.Q4,(x.Q3,())))),()))⟩
def s0(x:p0X):Option (p0X⊕(q0X⊕z0X)):=bif decide (x.i<x.n) then bif inR x.i x.s.length then bindO (M164.m ⟨x.s[x.i.toNat]?.getD 0,x.Q0,x.Q1,x.Q4,x.Q3⟩) λy=>bif y.1 then some (inr (inr ⟨x.i,x.Q0,x.Q1,x.Q4,x.Q3⟩)) else some (inl ⟨x.s,x.n,i64.wrap (x.i+1),x.Q0,x.Q1,x.Q4,x.Q3⟩) else none else some (inr (inl ⟨x.Q0,x.Q1,x.Q4,x.Q3⟩))
def l0:QT:=JW 1 p0 (.exit 0) q0 .ret z0 s0
def l0_ok  :QO prog 19 none 1 (C168.QR 0) l0:=lc2 cl 1 (λ_=>none) QX.nil
def m(x:gX):Option fY:=bindO (iter s0 ⟨x.s,(x.s.length:Int),0,x.Q0,x.Q1,x.Q4,x.Q3⟩) λs=>sumC s (λy=>some (-1,y.Q0,y.Q1,y.Q4,y.Q3)) λz=>some (z.r,z.Q0,z.Q1,z.Q4,z.Q3)
def known:QQ prog 168 g f m:=
 kc cl s168 (J2 [(0,l0)]) (ac 0 l0_ok QX.nil)
def hh{x:gX}{y:fY}(h:m x=some y):f.H y=g.H x:=by
 unfold m at h;obtain⟨r,h1,h2⟩:=Qf h;have h3:=Xe (λz=>z.Q0=x.Q0/\z.Q1=x.Q1/\z.Q4=x.Q4/\z.Q3=x.Q3) (λr=>match r with|.inl y=>y.Q0=x.Q0/\y.Q1=x.Q1/\y.Q4=x.Q4/\y.Q3=x.Q3|.inr z=>z.Q0=x.Q0/\z.Q1=x.Q1/\z.Q4=x.Q4/\z.Q3=x.Q3) (λz r hz hr=>by
  unfold s0 at hr;rcases cond_some hr with ⟨_,hr⟩|⟨_,hr⟩
  ·rcases cond_some hr with ⟨_,hr⟩|⟨_,hr⟩
   ·obtain⟨b,_,hr⟩:=Qf hr;rcases cond_some hr with ⟨_,hr⟩|⟨_,hr⟩<;>(cases hr;exact hz)
   ·cases hr
  ·cases hr;exact hz) ⟨rfl,rfl,rfl,rfl⟩ h1
 rcases sumC_some h2 with ⟨z,rfl,h4⟩|⟨z,rfl,h4⟩<;>(cases h4;obtain⟨e1,e2,e3,e4⟩:=h3;simp only[Ft.H,Sg.H,f,g,e1,e2,e3,e4])
def con:Con:=YZ g [.arg 1 0] f m default
def con_ok:J4 prog 168 con:=Jh known (λ_=>rfl) (λ_ _ h=>by exact hh h)
end M168b
namespace M145a
structure gX where(s:TI)(Q0:TN)(Q1:TS)(Q4:TM)(Q3:TI)
def g:Sg gX:=⟨[cA,.c (.clo 163 [⟨0,0,0⟩])],[oC],λa b=>⟨a.1,b.1.1,b.1.2.1,b.1.2.2.1,b.1.2.2.2.1⟩,λx=>(x.s,((),())),λx=>((x.Q0,(x.Q1,(x.Q4,(x.Q3,())))),())⟩
abbrev fY:=Bool×TN×TS×TM×TI
def f:Ft fY:=⟨none,.c (.bo),[oC],λa b=>(a,b.1.1,b.1.2.1,b.1.2.2.1,b.1.2.2.2.1),λy=>y.1,λy=>((y.2.1,(y.2.2.1,(y.2.2.2.1,(y.2.2.2.2,())))),())⟩
def m(x:gX):Option fY:=bindO (M168a.m ⟨x.s,x.Q0,x.Q1,x.Q4,x.Q3⟩) λy=>some (decide (y.1>=0),x.Q0,x.Q1,x.Q4,x.Q3)
def known:QQ prog 145 g f m:=
 kc0 [⟨168,M168a.con,M168a.con_ok⟩] s145
def hh{x:gX}{y:fY}(h:m x=some y):f.H y=g.H x:=by unfold m at h;obtain⟨r,h1,h2⟩:=Qf h;cases h2;rfl
def con:Con:=YZ g [.arg 1 0] f m default
def con_ok:J4 prog 145 con:=Jh known (λ_=>rfl) (λ_ _ h=>by exact hh h)
end M145a
namespace M145b
structure gX where(s:TI)(Q0:TN)(Q1:TS)(Q4:TM)(Q3:TI)
def g:Sg gX:=⟨[cA,.c (.clo 164 [⟨0,0,0⟩])],[oC],λa b=>⟨a.1,b.1.1,b.1.2.1,b.1.2.2.1,b.1.2.2.2.1⟩,λx=>(x.s,((),())),λx=>((x.Q0,(x.Q1,(x.Q4,(x.Q3,())))),())⟩
abbrev fY:=Bool×TN×TS×TM×TI
def f:Ft fY:=⟨none,.c (.bo),[oC],λa b=>(a,b.1.1,b.1.2.1,b.1.2.2.1,b.1.2.2.2.1),λy=>y.1,λy=>((y.2.1,(y.2.2.1,(y.2.2.2.1,(y.2.2.2.2,())))),())⟩
def m(x:gX):Option fY:=bindO (M168b.m ⟨x.s,x.Q0,x.Q1,x.Q4,x.Q3⟩) λy=>some (decide (y.1>=0),x.Q0,x.Q1,x.Q4,x.Q3)
def known:QQ prog 145 g f m:=
 kc0 [⟨168,M168b.con,M168b.con_ok⟩] s145
def hh{x:gX}{y:fY}(h:m x=some y):f.H y=g.H x:=by unfold m at h;obtain⟨r,h1,h2⟩:=Qf h;cases h2;rfl
def con:Con:=YZ g [.arg 1 0] f m default
def con_ok:J4 prog 145 con:=Jh known (λ_=>rfl) (λ_ _ h=>by exact hh h)
end M145b
namespace M139
structure gX where(Q0:TN)(Q1:TS)(Q4:TM)(Q3:TI)
def g:Sg gX:=⟨[.agg cir4],[],λa b=>⟨a.1.1,a.1.2.1,a.1.2.2.1,a.1.2.2.2.1⟩,λx=>((x.Q0,(x.Q1,(x.Q4,(x.Q3,())))),()),λx=>()⟩
abbrev fY:=TN×TS×TM×TI
def f:Ft fY:=⟨some [0],.c (.clo 163 [⟨0,0,0⟩]),[oC],λa b=>(b.1.1,b.1.2.1,b.1.2.2.1,b.1.2.2.2.1),λy=>(),λy=>((y.1,(y.2.1,(y.2.2.1,(y.2.2.2,())))),())⟩
def m(x:gX):Option fY:=some (x.Q0,x.Q1,x.Q4,x.Q3)
def known:QQ prog 139 g f m:=
 kc0 [] s139
def con:Con:=Y2 g [] f m default
def con_ok:J4 prog 139 con:=JY known
end M139
namespace M34o
structure gX where(s_lo Je:Nat)(xs:TI)
def g:Sg gX:=⟨[.c (.sl 0 0 1)],[oI],λa b=>⟨a.1.1,a.1.2,b.1⟩,λx=>((x.s_lo,x.Je),()),λx=>(x.xs,())⟩
abbrev fY:=Nat×Nat×Nat×TI
def f:Ft fY:=⟨none,.c (.slc 0 0 1),[oI],λa b=>(a.1,a.2.1,a.2.2,b.1),λy=>(y.1,y.2.1,y.2.2.1),λy=>(y.2.2.2,())⟩
def m(x:gX):Option fY:=bif decide (0<=(x.Je:Int))&&decide ((x.Je:Int)<=(x.Je:Int))&&(decide (0<=(x.Je:Int))&&decide ((x.Je:Int)<=(↑(x.Je:Int).toNat:Int))) then some (x.s_lo,(x.Je:Int).toNat,(x.Je:Int).toNat,x.xs) else none
def known:QQ prog 34 g f m:=
 kc0 [] s34
def con:Con:=Y2 g [.arg 0 0] f m default
def con_ok:J4 prog 34 con:=JY known
end M34o
namespace M68
structure gX where(Q0:TN)(Q1:TS)(Q4:TM)(Q3 kinds:TI)
def g:Sg gX:=⟨[.agg cir4,cU],[],λa b=>⟨a.1.1,a.1.2.1,a.1.2.2.1,a.1.2.2.2.1,a.2.1⟩,λx=>((x.Q0,(x.Q1,(x.Q4,(x.Q3,())))),(x.kinds,())),λx=>()⟩
abbrev fY:=TI
def f:Ft fY:=⟨none,cA,[],λa b=>(a),λy=>y,λy=>()⟩
def cl:List CK:=[ck M111.known,⟨34,M34o.con,M34o.con_ok⟩]
structure p0X where(kinds:TI)(QC Q8:Nat)(ns:TN)(n i:Int)(Q0:TN)(Q1:TS)(Q4:TM)(Q3 xs:TI)
def p0:Pt p0X:=⟨[.reg 5 (.int .i64)],⟨[(1,cU),(2,cP),(5,.c (.sl 1 0 1)),(9,.c (aN)),(10,cI),(11,cI)],[oC,oI]⟩,λ((a,_,(b,c),d,e,f,_),(g,h,i,j,_),k,_)=>⟨a,b,c,d,e,f,g,h,i,j,k⟩,λx=>((x.kinds,((),((x.QC,x.Q8),(x.ns,(x.n,(x.i,())))))),((x.Q0,(x.Q1,(x.Q4,(x.Q3,())))),(x.xs,())))⟩
structure q0X where(QC Q8:Nat)(Q0:TN)(Q1:TS)(Q4:TM)(Q3 xs:TI)
def q0:Pt q0X:=⟨[],⟨[(5,.c (.sl 1 0 1))],[oC,oI]⟩,λ(((a,b),_),(c,d,e,f,_),g,_)=>⟨a,b,c,d,e,f,g⟩,λx=>(((x.QC,x.Q8),()),((x.Q0,(x.Q1,(x.Q4,(x.Q3,())))),(x.xs,())))⟩
def s0(x:p0X):Option (p0X⊕q0X):=bif decide (x.i<x.n) then bif inR x.i x.ns.length then bindO (M111.m ⟨x.kinds,(x.ns[x.i.toNat]?.getD (0,[],0,0)).1⟩) λy=>bif y then bif eqN x.QC 0&&eqN x.xs.length x.Q8&&J1 (x.Q8+1) 8 then some (inl ⟨x.kinds,0,x.Q8+1,x.ns,x.n,i64.wrap (x.i+1),x.Q0,x.Q1,x.Q4,x.Q3,x.xs++[x.i]⟩) else none else some (inl ⟨x.kinds,x.QC,x.Q8,x.ns,x.n,i64.wrap (x.i+1),x.Q0,x.Q1,x.Q4,x.Q3,x.xs⟩) else none else some (inr ⟨x.QC,x.Q8,x.Q0,x.Q1,x.Q4,x.Q3,x.xs⟩)
def l0:QT:=Qa 0 p0 (.exit 0) q0 s0
def l0_ok  :QO prog 27 none 0 (C68.QR 0) l0:=lc cl 1 (λ_=>none) QX.nil
def m(x:gX):Option fY:=bindO (iter s0 ⟨x.kinds,0,0,x.Q0,(x.Q0.length:Int),0,x.Q0,x.Q1,x.Q4,x.Q3,[]⟩) λy=>bindO (M34o.m ⟨y.QC,y.Q8,y.xs⟩) λy=>bif leB (y.1+y.2.1) y.2.2.2.length&&true&&true then some (List.take y.2.1 (List.drop y.1 y.2.2.2)) else none
def known:QQ prog 68 g f m:=
 kc cl s68 (J2 [(0,l0)]) (ac 0 l0_ok QX.nil)
end M68
namespace M36
structure gX where(Q0:TN)(Q1:TS)(Q4:TM)(Q3:TI)
def g:Sg gX:=⟨[.agg cir4],[],λa b=>⟨a.1.1,a.1.2.1,a.1.2.2.1,a.1.2.2.2.1⟩,λx=>((x.Q0,(x.Q1,(x.Q4,(x.Q3,())))),()),λx=>()⟩
abbrev fY:=TI
def f:Ft fY:=⟨none,cA,[],λa b=>(a),λy=>y,λy=>()⟩
def m(x:gX):Option fY:=bindO (M68.m ⟨x.Q0,x.Q1,x.Q4,x.Q3,[14]⟩) λy=>some y
def known:QQ prog 36 g f m:=
 kc0 [ck M68.known] s36
end M36
namespace M75
structure gX where(Q0:TN)(Q1:TS)(Q4:TM)(Q3:TI)
def g:Sg gX:=⟨[.agg cir4],[],λa b=>⟨a.1.1,a.1.2.1,a.1.2.2.1,a.1.2.2.2.1⟩,λx=>((x.Q0,(x.Q1,(x.Q4,(x.Q3,())))),()),λx=>()⟩
abbrev fY:=TI
def f:Ft fY:=⟨none,cA,[],λa b=>(a),λy=>y,λy=>()⟩
def m(x:gX):Option fY:=bindO (M68.m ⟨x.Q0,x.Q1,x.Q4,x.Q3,[0]⟩) λy=>some y
def known:QQ prog 75 g f m:=
 kc0 [ck M68.known] s75
end M75
namespace M41
structure gX where(Q0:TN)(Q1:TS)(Q4:TM)(Q3 inn state:TI)
def g:Sg gX:=⟨[.agg cir4,.agg [aB,aB]],[],λa b=>⟨a.1.1,a.1.2.1,a.1.2.2.1,a.1.2.2.2.1,a.2.1.1,a.2.1.2.1⟩,λx=>((x.Q0,(x.Q1,(x.Q4,(x.Q3,())))),((x.inn,(x.state,())),())),λx=>()⟩
abbrev fY:=Int
def f:Ft fY:=⟨none,cI,[],λa b=>(a),λy=>y,λy=>()⟩
def m(x:gX):Option fY:=bif !decide ((x.Q4.length:Int)>0) then bindO (M68.m ⟨x.Q0,x.Q1,x.Q4,x.Q3,[15]⟩) λy=>bif decide ((↑(List.length y):Int)>0) then some 7 else bindO (M75.m ⟨x.Q0,x.Q1,x.Q4,x.Q3⟩) λy=>bindO (bif !(x.inn.length:Int) !=(↑(List.length y):Int) then M36.m ⟨x.Q0,x.Q1,x.Q4,x.Q3⟩ else some []) λy_1=>bif bif (x.inn.length:Int) !=(↑(List.length y):Int) then true else (x.state.length:Int) !=(↑(List.length y_1):Int) then some 8 else bindO (M76c.m ⟨x.inn⟩) λy=>bindO (bif !y then M76c.m ⟨x.state⟩ else some false) λy_2=>bif bif y then true else y_2 then some 1 else some 0 else some 7
def known:QQ prog 41 g f m:=
 kc0 [ck M68.known,ck M75.known,ck M36.known,ck M76c.known] s41
end M41
namespace M42
structure gX where(Q0:TN)(Q1:TS)(Q4:TM)(Q3:TI)(Q6 Q5 Q9:Nat)(inn state xs:TI)
def g:Sg gX:=⟨[.agg [aN,aS,aM,aI,.slc 0 0 1],.agg [aB,aB]],[oB],λa b=>⟨a.1.1,a.1.2.1,a.1.2.2.1,a.1.2.2.2.1,a.1.2.2.2.2.1.1,a.1.2.2.2.2.1.2.1,a.1.2.2.2.2.1.2.2,a.2.1.1,a.2.1.2.1,b.1⟩,λx=>((x.Q0,(x.Q1,(x.Q4,(x.Q3,((x.Q6,x.Q5,x.Q9),()))))),((x.inn,(x.state,())),())),λx=>(x.xs,())⟩
abbrev fY:=TI
def f:Ft fY:=⟨none,.tup [],[oB],λa b=>(b.1),λy=>(),λy=>(y,())⟩
def cl:List CK:=[ck M75.known,ck M36.known]
structure p1X where(l:TI)(n i:Int)(xs:TI)(Q0:TN)(Q1:TS)(Q4:TM)(Q3:TI)(Q6 Q5 Q9:Nat)(inn state:TI)
def p1:Pt p1X:=⟨[],⟨[(2,.c (.ptr 1 0)),(3,.c (.ptr 2 0)),(29,cA),(30,cI),(31,cI)],[oB,.st [aN,aS,aM,aI,.slc 0 0 1] 1 0,oF]⟩,λ((_,_,a,b,c,_),d,(e,f,g,h,(i,j,k),_),(l,m,_),_)=>⟨a,b,c,d,e,f,g,h,i,j,k,l,m⟩,λx=>(((),((),(x.l,(x.n,(x.i,()))))),(x.xs,((x.Q0,(x.Q1,(x.Q4,(x.Q3,((x.Q6,x.Q5,x.Q9),()))))),((x.inn,(x.state,())),()))))⟩
structure q1X where(xs:TI)
def q1:Pt q1X:=⟨[],⟨[],[oB]⟩,λv=>⟨v.2.1⟩,λx=>((),(x.xs,()))⟩
def s1(x:p1X):Option (p1X⊕q1X):=bif decide (x.i<x.n) then bif inR x.i x.l.length then bif inR x.i x.state.length then bif inR (x.l[x.i.toNat]?.getD 0) x.Q5 then bif decide (x.Q6+Int.toNat (x.l[x.i.toNat]?.getD 0)<x.xs.length) then some (inl ⟨x.l,x.n,i64.wrap (x.i+1),x.xs.set (x.Q6+Int.toNat (x.l[x.i.toNat]?.getD 0)) (x.state[x.i.toNat]?.getD 0),x.Q0,x.Q1,x.Q4,x.Q3,x.Q6,x.Q5,x.Q9,x.inn,x.state⟩) else none else none else none else none else some (inr ⟨x.xs⟩)
def l1:QT:=Qa 1 p1 (.exit 2) q1 s1
def l1_ok  :QO prog 46 none 1 (C42.QR 1) l1:=lc cl 2 (λ_=>none) QX.nil
structure p0X where(l:TI)(n i:Int)(xs:TI)(Q0:TN)(Q1:TS)(Q4:TM)(Q3:TI)(Q6 Q5 Q9:Nat)(inn state:TI)
def p0:Pt p0X:=⟨[],⟨[(2,.c (.ptr 1 0)),(3,.c (.ptr 2 0)),(10,cA),(11,cI),(12,cI)],[oB,.st [aN,aS,aM,aI,.slc 0 0 1] 1 0,oF]⟩,λ((_,_,a,b,c,_),d,(e,f,g,h,(i,j,k),_),(l,m,_),_)=>⟨a,b,c,d,e,f,g,h,i,j,k,l,m⟩,λx=>(((),((),(x.l,(x.n,(x.i,()))))),(x.xs,((x.Q0,(x.Q1,(x.Q4,(x.Q3,((x.Q6,x.Q5,x.Q9),()))))),((x.inn,(x.state,())),()))))⟩
structure q0X where(xs:TI)(Q0:TN)(Q1:TS)(Q4:TM)(Q3:TI)(Q6 Q5 Q9:Nat)(inn state:TI)
def q0:Pt q0X:=⟨[],⟨[(2,.c (.ptr 1 0)),(3,.c (.ptr 2 0))],[oB,.st [aN,aS,aM,aI,.slc 0 0 1] 1 0,oF]⟩,λ(_,a,(b,c,d,e,(f,g,h),_),(i,j,_),_)=>⟨a,b,c,d,e,f,g,h,i,j⟩,λx=>(((),((),())),(x.xs,((x.Q0,(x.Q1,(x.Q4,(x.Q3,((x.Q6,x.Q5,x.Q9),()))))),((x.inn,(x.state,())),()))))⟩
def s0(x:p0X):Option (p0X⊕q0X):=bif decide (x.i<x.n) then bif inR x.i x.l.length then bif inR x.i x.inn.length then bif inR (x.l[x.i.toNat]?.getD 0) x.Q5 then bif decide (x.Q6+Int.toNat (x.l[x.i.toNat]?.getD 0)<x.xs.length) then some (inl ⟨x.l,x.n,i64.wrap (x.i+1),x.xs.set (x.Q6+Int.toNat (x.l[x.i.toNat]?.getD 0)) (x.inn[x.i.toNat]?.getD 0),x.Q0,x.Q1,x.Q4,x.Q3,x.Q6,x.Q5,x.Q9,x.inn,x.state⟩) else none else none else none else none else some (inr ⟨x.xs,x.Q0,x.Q1,x.Q4,x.Q3,x.Q6,x.Q5,x.Q9,x.inn,x.state⟩)
def l0:QT:=Qa 1 p0 (.exit 0) q0 s0
def l0_ok  :QO prog 46 none 1 (C42.QR 0) l0:=lc cl 1 (J2 [(1,l1)]) QX.nil
def m(x:gX):Option fY:=bindO (M75.m ⟨x.Q0,x.Q1,x.Q4,x.Q3⟩) λy=>bindO (iter s0 ⟨y,(↑(List.length y):Int),0,x.xs,x.Q0,x.Q1,x.Q4,x.Q3,x.Q6,x.Q5,x.Q9,x.inn,x.state⟩) λy=>bindO (M36.m ⟨y.Q0,y.Q1,y.Q4,y.Q3⟩) λy_1=>bindO (iter s1 ⟨y_1,(↑(List.length y_1):Int),0,y.xs,y.Q0,y.Q1,y.Q4,y.Q3,y.Q6,y.Q5,y.Q9,y.inn,y.state⟩) λy=>some y.xs
def known:QQ prog 42 g f m:=
 kc cl s42 (J2 [(0,l0),(1,l1)]) (ac 0 l0_ok (ac 1 l1_ok QX.nil))
def con:Con:=Y2 g [.arg 0 4] f m default
def con_ok:J4 prog 42 con:=JY known
end M42
namespace M87
structure gX where(Q0:TN)(Q1:TS)(Q4:TM)(Q3 QH:TI)(n:Int)
def g:Sg gX:=⟨[.agg [aN,aS,aM,aI,aB],cI],[],λa b=>⟨a.1.1,a.1.2.1,a.1.2.2.1,a.1.2.2.2.1,a.1.2.2.2.2.1,a.2.1⟩,λx=>((x.Q0,(x.Q1,(x.Q4,(x.Q3,(x.QH,()))))),(x.n,())),λx=>()⟩
abbrev fY:=Int
def f:Ft fY:=⟨none,cB,[],λa b=>(a),λy=>y,λy=>()⟩
def m(x:gX):Option fY:=bif bif decide (x.n<0) then true else decide (x.n>=(x.QH.length:Int)) then some 2 else bif inR x.n x.QH.length then bindO (M120.m ⟨x.QH[x.n.toNat]?.getD 0⟩) λy=>some y else none
def known:QQ prog 87 g f m:=
 kc0 [ck M120.known] s87
end M87
namespace M88
structure gX where(s:TI)
def g:Sg gX:=⟨[cU],[],λa b=>⟨a.1⟩,λx=>(x.s,()),λx=>()⟩
abbrev fY:=TI
def f:Ft fY:=⟨none,cU,[],λa b=>(a),λy=>y,λy=>()⟩
def m(x:gX):Option fY:=bif decide (0<=(x.s.length:Int))&&decide ((x.s.length:Int)<=(x.s.length:Int))&&(decide (0<=(x.s.length:Int))&&decide ((x.s.length:Int)<=(↑(x.s.length:Int).toNat:Int)))&&true then some (List.take ((x.s.length:Int).toNat - 0) (List.drop 0 x.s)) else none
def known:QQ prog 88 g f m:=
 kc0 [] s88
end M88
def c87:Con:=Vn M87.g M87.f M87.m default
def c87_ok:J4 prog 87 c87:=conFR_ok M87.known (λ_=>rfl) (λ_=>rfl)
namespace M45
structure gX where(Q0:TN)(Q1:TS)(Q4:TM)(Q3:TI)(Q6 Q5 Q9:Nat)(xs:TI)
def g:Sg gX:=⟨[.agg [aN,aS,aM,aI,.slc 0 0 1]],[oB],λa b=>⟨a.1.1,a.1.2.1,a.1.2.2.1,a.1.2.2.2.1,a.1.2.2.2.2.1.1,a.1.2.2.2.2.1.2.1,a.1.2.2.2.2.1.2.2,b.1⟩,λx=>((x.Q0,(x.Q1,(x.Q4,(x.Q3,((x.Q6,x.Q5,x.Q9),()))))),()),λx=>(x.xs,())⟩
abbrev fY:=TI×TI×TI
def f:Ft fY:=⟨none,.agg [aB,aB],[oB],λa b=>(a.1,a.2.1,b.1),λy=>(y.1,(y.2.1,())),λy=>(y.2.2,())⟩
def cl:List CK:=[⟨87,c87,c87_ok⟩,ck M36.known,ck M79.known,ck M88.known]
structure p1X where(l:TI)(n i:Int)(xs:TI)(Q0:TN)(Q1:TS)(Q4:TM)(Q3:TI)(Q6 Q5 Q9:Nat)(a:TI)(b_lo KW:Nat)(oxs:TI)
def p1:Pt p1X:=⟨[.cell 3 1 (.int .u8)],⟨[(1,.c (.ptr 1 0)),(2,.c (.ptr 2 0)),(3,.c (.ptr 3 0)),(29,cA),(30,cI),(31,cI)],[oB,.st [aN,aS,aM,aI,.slc 0 0 1] 1 0,.st [jk,jk] 1 0,.st [aB,.sl 4 0 1] 1 0,oB]⟩,λ((_,_,_,a,b,c,_),d,(e,f,g,h,(i,j,k),_),_,(l,(m,n),_),o,_)=>⟨a,b,c,d,e,f,g,h,i,j,k,l,m,n,o⟩,λx=>(((),((),((),(x.l,(x.n,(x.i,())))))),(x.xs,((x.Q0,(x.Q1,(x.Q4,(x.Q3,((x.Q6,x.Q5,x.Q9),()))))),(((),((),())),((x.a,((x.b_lo,x.KW),())),(x.oxs,()))))))⟩
structure q1X where(xs a b:TI)
def q1:Pt q1X:=⟨[],⟨[(2,.c (.ptr 2 0)),(3,.c (.ptr 3 0))],[oB,.st [jk,jk,jk,jk,jk] 1 0,.st [jk,jk] 1 0,oF]⟩,λ(_,a,_,_,(b,c,_),_)=>⟨a,b,c⟩,λx=>(((),((),())),(x.xs,(((),((),((),((),((),()))))),(((),((),())),((x.a,(x.b,())),())))))⟩
def s1(x:p1X):Option (p1X⊕q1X):=bif decide (x.i<x.n) then bif inR x.i x.l.length then bif inR (x.l[x.i.toNat]?.getD 0) x.Q0.length then bif (↑(List.length (x.Q0[Int.toNat (x.l[x.i.toNat]?.getD 0)]?.getD (0,[],0,0)).2.1):Int)==1 then bif inR 0 (List.length (x.Q0[Int.toNat (x.l[x.i.toNat]?.getD 0)]?.getD (0,[],0,0)).2.1) then bindO (bif leB (x.Q6+x.Q5) x.xs.length&&true&&true then M87.m ⟨x.Q0,x.Q1,x.Q4,x.Q3,List.take x.Q5 (List.drop x.Q6 x.xs),(x.Q0[Int.toNat (x.l[x.i.toNat]?.getD 0)]?.getD (0,[],0,0)).2.1[0]?.getD 0⟩ else none) λy=>bindO (M79.m ⟨y⟩) λy=>bif eqN x.b_lo 0&&eqN x.oxs.length x.KW&&J1 (x.KW+1) 1 then some (inl ⟨x.l,x.n,i64.wrap (x.i+1),x.xs,x.Q0,x.Q1,x.Q4,x.Q3,x.Q6,x.Q5,x.Q9,x.a,0,x.KW+1,x.oxs++[y]⟩) else none else none else bif eqN x.b_lo 0&&eqN x.oxs.length x.KW&&J1 (x.KW+1) 1 then some (inl ⟨x.l,x.n,i64.wrap (x.i+1),x.xs,x.Q0,x.Q1,x.Q4,x.Q3,x.Q6,x.Q5,x.Q9,x.a,0,x.KW+1,x.oxs++[2]⟩) else none else none else none else bif leB (x.b_lo+x.KW) x.oxs.length&&true&&true then some (inr ⟨x.xs,x.a,List.take x.KW (List.drop x.b_lo x.oxs)⟩) else none
def l1:QT:=Qa 1 p1 (.exit 2) q1 s1
def l1_ok  :QO prog 65 none 1 (C45.QR 1) l1:=lc cl 2 (λ_=>none) QX.nil
structure p0X where(l:TI)(n i:Int)(xs:TI)(Q0:TN)(Q1:TS)(Q4:TM)(Q3:TI)(Q6 Q5 Q9 a_lo q6:Nat)(oxs:TI)
def p0:Pt p0X:=⟨[.cell 3 0 (.int .u8)],⟨[(1,.c (.ptr 1 0)),(2,.c (.ptr 2 0)),(3,.c (.ptr 3 0)),(12,cA),(13,cI),(14,cI)],[oB,.st [aN,aS,aM,aI,.slc 0 0 1] 1 0,.st [jk,jk] 1 0,.st [.sl 4 0 1,.nils] 1 0,oB]⟩,λ((_,_,_,a,b,c,_),d,(e,f,g,h,(i,j,k),_),_,((l,m),_),n,_)=>⟨a,b,c,d,e,f,g,h,i,j,k,l,m,n⟩,λx=>(((),((),((),(x.l,(x.n,(x.i,())))))),(x.xs,((x.Q0,(x.Q1,(x.Q4,(x.Q3,((x.Q6,x.Q5,x.Q9),()))))),(((),((),())),(((x.a_lo,x.q6),((),())),(x.oxs,()))))))⟩
structure q0X where(xs:TI)(Q0:TN)(Q1:TS)(Q4:TM)(Q3:TI)(Q6 Q5 Q9:Nat)(a:TI)
def q0:Pt q0X:=⟨[],⟨[(1,.c (.ptr 1 0)),(2,.c (.ptr 2 0)),(3,.c (.ptr 3 0))],[oB,.st [aN,aS,aM,aI,.slc 0 0 1] 1 0,.st [jk,jk] 1 0,.st [aB,.nils] 1 0]⟩,λ(_,a,(b,c,d,e,(f,g,h),_),_,(i,_),_)=>⟨a,b,c,d,e,f,g,h,i⟩,λx=>(((),((),((),()))),(x.xs,((x.Q0,(x.Q1,(x.Q4,(x.Q3,((x.Q6,x.Q5,x.Q9),()))))),(((),((),())),((x.a,((),())),())))))⟩
def s0(x:p0X):Option (p0X⊕q0X):=bif decide (x.i<x.n) then bif inR x.i x.l.length then bindO (bif leB (x.Q6+x.Q5) x.xs.length&&true&&true then M87.m ⟨x.Q0,x.Q1,x.Q4,x.Q3,List.take x.Q5 (List.drop x.Q6 x.xs),x.l[x.i.toNat]?.getD 0⟩ else none) λy=>bif eqN x.a_lo 0&&eqN x.oxs.length x.q6&&J1 (x.q6+1) 1 then some (inl ⟨x.l,x.n,i64.wrap (x.i+1),x.xs,x.Q0,x.Q1,x.Q4,x.Q3,x.Q6,x.Q5,x.Q9,0,x.q6+1,x.oxs++[y]⟩) else none else none else bif leB (x.a_lo+x.q6) x.oxs.length&&true&&true then some (inr ⟨x.xs,x.Q0,x.Q1,x.Q4,x.Q3,x.Q6,x.Q5,x.Q9,List.take x.q6 (List.drop x.a_lo x.oxs)⟩) else none
def l0:QT:=Qa 1 p0 (.exit 0) q0 s0
def l0_ok  :QO prog 65 none 1 (C45.QR 0) l0:=lc cl 1 (J2 [(1,l1)]) QX.nil
def m(x:gX):Option fY:=bindO (iter s0 ⟨x.Q3,(x.Q3.length:Int),0,x.xs,x.Q0,x.Q1,x.Q4,x.Q3,x.Q6,x.Q5,x.Q9,0,0,[]⟩) λy=>bindO (M36.m ⟨y.Q0,y.Q1,y.Q4,y.Q3⟩) λy_1=>bindO (iter s1 ⟨y_1,(↑(List.length y_1):Int),0,y.xs,y.Q0,y.Q1,y.Q4,y.Q3,y.Q6,y.Q5,y.Q9,y.a,0,0,[]⟩) λy=>bindO (M88.m ⟨y.a⟩) λy_2=>bindO (M88.m ⟨y.b⟩) λy_3=>some (y_2,y_3,y.xs)
def known:QQ prog 45 g f m:=
 kc cl s45 (J2 [(0,l0),(1,l1)]) (ac 0 l0_ok (ac 1 l1_ok QX.nil))
def condK{α:Type}{Q:α->Prop}{b:Bool}{p q:Option α}(hp:∀r,p=some r->Q r)(hq:∀r,q=some r->Q r):∀r,(bif b then p else q)=some r->Q r:=by
 intro r h;cases b
 ·exact hq r h
 ·exact hp r h
def bindK{α β:Type}{Q:β->Prop}{o:Option α}{k:α->Option β}(h:∀y,o=some y->∀r,k y=some r->Q r):∀r,bindO o k=some r->Q r:=by intro r hr;obtain⟨y,h1,h2⟩:=Qf hr;exact h y h1 r h2
def k0{z:p0X}{y:q0X}(h:iter s0 z=some y):y.xs=z.xs:=by
 refine Xe (λu=>u.xs=z.xs) (λr=>r.xs=z.xs) (λu r hu=> ?_) rfl h;revert r;unfold s0
 repeat' (first|(intro r h;cases h;done)|(intro r h;cases h;exact hu)|refine condK ?_ ?_|refine bindK λy _=> ?_)
def k1{z:p1X}{y:q1X}(h:iter s1 z=some y):y.xs=z.xs:=by
 refine Xe (λu=>u.xs=z.xs) (λr=>r.xs=z.xs) (λu r hu=> ?_) rfl h;revert r;unfold s1
 repeat' (first|(intro r h;cases h;done)|(intro r h;cases h;exact hu)|refine condK ?_ ?_|refine bindK λy _=> ?_)
def hh{x:gX}{y:fY}(h:m x=some y):f.H y=g.H x:=by unfold m at h;obtain⟨y0,h0,h⟩:=Qf h;obtain⟨_,_,h⟩:=Qf h;obtain⟨y1,h1,h⟩:=Qf h;obtain⟨_,_,h⟩:=Qf h;obtain⟨_,_,h⟩:=Qf h;cases h;have e0:=k0 h0;have e1:=k1 h1;have e2:y1.xs=x.xs:=e1.trans e0;show [SO.arr (.int .u8) y1.xs 0]=[SO.arr (.int .u8) x.xs 0];rw[e2]
def con:Con:=YZ g [.arg 0 4] f m default
def con_ok:J4 prog 45 con:=Jh known (λ_=>rfl) (λ_ _ h=>by exact hh h)
end M45
namespace M128
structure gX where(v QF QG QP value other:Int)
def g:Sg gX:=⟨[cB,cP],[oG],λa b=>⟨a.1,b.1.1,b.1.2.1,b.1.2.2.1,b.1.2.2.2.1,b.1.2.2.2.2.1⟩,λx=>(x.v,((),())),λx=>((x.QF,(x.QG,(x.QP,(x.value,(x.other,()))))),())⟩
abbrev fY:=Int×Int×Int×Int×Int×Int
def f:Ft fY:=⟨none,cB,[oG],λa b=>(a,b.1.1,b.1.2.1,b.1.2.2.1,b.1.2.2.2.1,b.1.2.2.2.2.1),λy=>y.1,λy=>((y.2.1,(y.2.2.1,(y.2.2.2.1,(y.2.2.2.2.1,(y.2.2.2.2.2,()))))),())⟩
def m(x:gX):Option fY:=some (x.value,x.QF,x.QG,x.QP,x.value,x.other)
def known:QQ prog 128 g f m:=
 kc0 [] s128
def con:Con:=YZ g [.arg 1 0] f m default
def con_ok:J4 prog 128 con:=Jh known (λ_=>rfl) (λ_ _ h=>by unfold m at h;cases h;rfl)
end M128
namespace M151
structure gX where(n v ln lp QF QG QP value other:Int)
def g:Sg gX:=⟨[cI,cB,cP,.c (.ptr 1 0)],[oP,.st [.clo 128 [⟨2,0,0⟩]] 1 0,oG],λa b=>⟨a.1,a.2.1,b.1.1,b.1.2.1,b.2.2.1.1,b.2.2.1.2.1,b.2.2.1.2.2.1,b.2.2.1.2.2.2.1,b.2.2.1.2.2.2.2.1⟩,λx=>(x.n,(x.v,((),((),())))),λx=>((x.ln,(x.lp,())),(((),()),((x.QF,(x.QG,(x.QP,(x.value,(x.other,()))))),())))⟩
abbrev fY:=Int×Int×Int×Int×Int×Int×Int×Int
def f:Ft fY:=⟨none,cB,[oP,.st [.clo 128 [⟨2,0,0⟩]] 1 0,oG],λa b=>(a,b.1.1,b.1.2.1,b.2.2.1.1,b.2.2.1.2.1,b.2.2.1.2.2.1,b.2.2.1.2.2.2.1,b.2.2.1.2.2.2.2.1),λy=>y.1,λy=>((y.2.1,(y.2.2.1,())),(((),()),((y.2.2.2.1,(y.2.2.2.2.1,(y.2.2.2.2.2.1,(y.2.2.2.2.2.2.1,(y.2.2.2.2.2.2.2,()))))),())))⟩
def m(x:gX):Option fY:=bif x.n==x.ln then bindO (M128.m ⟨x.v,x.QF,x.QG,x.QP,x.value,x.other⟩) λy=>some (y.1,x.ln,x.lp,x.QF,x.QG,x.QP,x.value,x.other) else some (x.v,x.ln,x.lp,x.QF,x.QG,x.QP,x.value,x.other)
def known:QQ prog 151 g f m:=
 kc0 [⟨128,M128.con,M128.con_ok⟩] s151
def hh{x:gX}{y:fY}(h:m x=some y):f.H y=g.H x:=by
 unfold m at h;rcases cond_some h with ⟨_,h⟩|⟨_,h⟩
 ·obtain⟨_,_,h⟩:=Qf h;cases h;rfl
 ·cases h;rfl
def con:Con:=YZ g [.arg 2 0,.arg 3 0,.cell 1 0] f m default
def con_ok:J4 prog 151 con:=Jh known (λ_=>rfl) (λ_ _ h=>by exact hh h)
end M151
namespace M152
structure gX where(n pin v ln lp QF QG QP value other:Int)
def g:Sg gX:=⟨[cI,cI,cB,cP,.c (.ptr 1 0)],[oP,.st [.clo 128 [⟨2,0,0⟩]] 1 0,oG],λa b=>⟨a.1,a.2.1,a.2.2.1,b.1.1,b.1.2.1,b.2.2.1.1,b.2.2.1.2.1,b.2.2.1.2.2.1,b.2.2.1.2.2.2.1,b.2.2.1.2.2.2.2.1⟩,λx=>(x.n,(x.pin,(x.v,((),((),()))))),λx=>((x.ln,(x.lp,())),(((),()),((x.QF,(x.QG,(x.QP,(x.value,(x.other,()))))),())))⟩
abbrev fY:=Int×Int×Int×Int×Int×Int×Int×Int
def f:Ft fY:=⟨none,cB,[oP,.st [.clo 128 [⟨2,0,0⟩]] 1 0,oG],λa b=>(a,b.1.1,b.1.2.1,b.2.2.1.1,b.2.2.1.2.1,b.2.2.1.2.2.1,b.2.2.1.2.2.2.1,b.2.2.1.2.2.2.2.1),λy=>y.1,λy=>((y.2.1,(y.2.2.1,())),(((),()),((y.2.2.2.1,(y.2.2.2.2.1,(y.2.2.2.2.2.1,(y.2.2.2.2.2.2.1,(y.2.2.2.2.2.2.2,()))))),())))⟩
def m(x:gX):Option fY:=bif bif x.n==x.ln then x.pin==x.lp else false then bindO (M128.m ⟨x.v,x.QF,x.QG,x.QP,x.value,x.other⟩) λy=>some (y.1,x.ln,x.lp,x.QF,x.QG,x.QP,x.value,x.other) else some (x.v,x.ln,x.lp,x.QF,x.QG,x.QP,x.value,x.other)
def known:QQ prog 152 g f m:=
 kc0 [⟨128,M128.con,M128.con_ok⟩] s152
def hh{x:gX}{y:fY}(h:m x=some y):f.H y=g.H x:=by
 unfold m at h;rcases cond_some h with ⟨_,h⟩|⟨_,h⟩
 ·obtain⟨_,_,h⟩:=Qf h;cases h;rfl
 ·cases h;rfl
def con:Con:=YZ g [.arg 3 0,.arg 4 0,.cell 1 0] f m default
def con_ok:J4 prog 152 con:=Jh known (λ_=>rfl) (λ_ _ h=>by exact hh h)
end M152
namespace M124
structure gX where(a b v:Int)
def g:Sg gX:=⟨[cI,cI,cB],[],λa b=>⟨a.1,a.2.1,a.2.2.1⟩,λx=>(x.a,(x.b,(x.v,()))),λx=>()⟩
abbrev fY:=Int
def f:Ft fY:=⟨none,cB,[],λa b=>(a),λy=>y,λy=>()⟩
def m(x:gX):Option fY:=some x.v
def known:QQ prog 124 g f m:=
 kc0 [] s124
end M124
namespace M150
structure gX where(a v:Int)
def g:Sg gX:=⟨[cI,cB],[],λa b=>⟨a.1,a.2.1⟩,λx=>(x.a,(x.v,())),λx=>()⟩
abbrev fY:=Int
def f:Ft fY:=⟨none,cB,[],λa b=>(a),λy=>y,λy=>()⟩
def m(x:gX):Option fY:=some x.v
def known:QQ prog 150 g f m:=
 kc0 [] s150
end M150
namespace M126a
structure gX where(Q0:TN)(Q1:TS)(Q4:TM)(Q3:TI)(ln lp QF QG QP value other:Int)
def g:Sg gX:=⟨[.agg cir4,.agg [iI,iI],.c (.clo 128 [⟨0,0,0⟩])],[oG],λa b=>⟨a.1.1,a.1.2.1,a.1.2.2.1,a.1.2.2.2.1,a.2.1.1,a.2.1.2.1,b.1.1,b.1.2.1,b.1.2.2.1,b.1.2.2.2.1,b.1.2.2.2.2.1⟩,λx=>((x.Q0,(x.Q1,(x.Q4,(x.Q3,())))),((x.ln,(x.lp,())),((),()))),λx=>((x.QF,(x.QG,(x.QP,(x.value,(x.other,()))))),())⟩
abbrev fY:=Int×Int×Int×Int×Int×Int×Int×TN×TS×TM×TI
def f:Ft fY:=⟨some [0,2,3,4,1],.c (.ptr 3 0),[oG,oP,.st [.clo 128 [⟨0,0,0⟩]] 1 0,.st [aN,aS,aM,aI,.nils,.clo 151 [⟨1,0,0⟩,⟨2,0,0⟩],.fn 124] 1 0],λa b=>(b.1.1,b.1.2.1,b.1.2.2.1,b.1.2.2.2.1,b.1.2.2.2.2.1,b.2.1.1,b.2.1.2.1,b.2.2.2.1.1,b.2.2.2.1.2.1,b.2.2.2.1.2.2.1,b.2.2.2.1.2.2.2.1),λy=>(),λy=>((y.1,(y.2.1,(y.2.2.1,(y.2.2.2.1,(y.2.2.2.2.1,()))))),((y.2.2.2.2.2.1,(y.2.2.2.2.2.2.1,())),(((),()),((y.2.2.2.2.2.2.2.1,(y.2.2.2.2.2.2.2.2.1,(y.2.2.2.2.2.2.2.2.2.1,(y.2.2.2.2.2.2.2.2.2.2,((),((),((),()))))))),()))))⟩
def m(x:gX):Option fY:=bif decide (x.lp<0) then some (x.QF,x.QG,x.QP,x.value,x.other,x.ln,x.lp,x.Q0,x.Q1,x.Q4,x.Q3) else none
def known:QQ prog 126 g f m:=
 kc0 [] s126
def con:Con:=Y2 g [.arg 2 0] f m default
def con_ok:J4 prog 126 con:=JY known
end M126a
namespace M126b
structure gX where(Q0:TN)(Q1:TS)(Q4:TM)(Q3:TI)(ln lp QF QG QP value other:Int)
def g:Sg gX:=⟨[.agg cir4,.agg [iI,iI],.c (.clo 128 [⟨0,0,0⟩])],[oG],λa b=>⟨a.1.1,a.1.2.1,a.1.2.2.1,a.1.2.2.2.1,a.2.1.1,a.2.1.2.1,b.1.1,b.1.2.1,b.1.2.2.1,b.1.2.2.2.1,b.1.2.2.2.2.1⟩,λx=>((x.Q0,(x.Q1,(x.Q4,(x.Q3,())))),((x.ln,(x.lp,())),((),()))),λx=>((x.QF,(x.QG,(x.QP,(x.value,(x.other,()))))),())⟩
abbrev fY:=Int×Int×Int×Int×Int×Int×Int×TN×TS×TM×TI
def f:Ft fY:=⟨some [0,2,3,4,1],.c (.ptr 3 0),[oG,oP,.st [.clo 128 [⟨0,0,0⟩]] 1 0,.st [aN,aS,aM,aI,.nils,.fn 150,.clo 152 [⟨1,0,0⟩,⟨2,0,0⟩]] 1 0],λa b=>(b.1.1,b.1.2.1,b.1.2.2.1,b.1.2.2.2.1,b.1.2.2.2.2.1,b.2.1.1,b.2.1.2.1,b.2.2.2.1.1,b.2.2.2.1.2.1,b.2.2.2.1.2.2.1,b.2.2.2.1.2.2.2.1),λy=>(),λy=>((y.1,(y.2.1,(y.2.2.1,(y.2.2.2.1,(y.2.2.2.2.1,()))))),((y.2.2.2.2.2.1,(y.2.2.2.2.2.2.1,())),(((),()),((y.2.2.2.2.2.2.2.1,(y.2.2.2.2.2.2.2.2.1,(y.2.2.2.2.2.2.2.2.2.1,(y.2.2.2.2.2.2.2.2.2.2,((),((),((),()))))))),()))))⟩
def m(x:gX):Option fY:=bif decide (x.lp<0) then none else some (x.QF,x.QG,x.QP,x.value,x.other,x.ln,x.lp,x.Q0,x.Q1,x.Q4,x.Q3)
def known:QQ prog 126 g f m:=
 kc0 [] s126
def con:Con:=Y2 g [.arg 2 0] f m default
def con_ok:J4 prog 126 con:=JY known
end M126b
namespace M89a
structure gX where(Q0:TN)(Q1:TS)(Q4:TM)(Q3:TI)(QF QG QP value other:Int)(good:TI)
def g:Sg gX:=⟨[.agg cir4,.agg [iB,iI,iI,iB,iI],cU],[],λa b=>⟨a.1.1,a.1.2.1,a.1.2.2.1,a.1.2.2.2.1,a.2.1.1,a.2.1.2.1,a.2.1.2.2.1,a.2.1.2.2.2.1,a.2.1.2.2.2.2.1,a.2.2.1⟩,λx=>((x.Q0,(x.Q1,(x.Q4,(x.Q3,())))),((x.QF,(x.QG,(x.QP,(x.value,(x.other,()))))),(x.good,()))),λx=>()⟩
abbrev fY:=Int×Int×Int×Int×Int×Int×Int×TN×TS×TM×TI
def f:Ft fY:=⟨some [1,5,6,7,0,2,3,4],.c (.ptr 3 0),[oG,oP,.st [.clo 128 [⟨0,0,0⟩]] 1 0,.st [aN,aS,aM,aI,.nils,.clo 151 [⟨1,0,0⟩,⟨2,0,0⟩],.fn 124] 1 0],λa b=>(b.1.1,b.1.2.1,b.1.2.2.1,b.1.2.2.2.1,b.1.2.2.2.2.1,b.2.1.1,b.2.1.2.1,b.2.2.2.1.1,b.2.2.2.1.2.1,b.2.2.2.1.2.2.1,b.2.2.2.1.2.2.2.1),λy=>(),λy=>((y.1,(y.2.1,(y.2.2.1,(y.2.2.2.1,(y.2.2.2.2.1,()))))),((y.2.2.2.2.2.1,(y.2.2.2.2.2.2.1,())),(((),()),((y.2.2.2.2.2.2.2.1,(y.2.2.2.2.2.2.2.2.1,(y.2.2.2.2.2.2.2.2.2.1,(y.2.2.2.2.2.2.2.2.2.2,((),((),((),()))))))),()))))⟩
def m(x:gX):Option fY:=bif x.QF==2 then none else bif x.QF==3 then none else bindO (M126a.m ⟨x.Q0,x.Q1,x.Q4,x.Q3,x.QG,x.QP,x.QF,x.QG,x.QP,x.value,x.other⟩) λy=>some (y.1,y.2.1,y.2.2.1,y.2.2.2.1,y.2.2.2.2.1,y.2.2.2.2.2.1,y.2.2.2.2.2.2.1,y.2.2.2.2.2.2.2.1, y.2.2.2.2.2.2.2.2.1,y.2.2.2.2.2.2.2.2.2.1,y.2.2.2.2.2.2.2.2.2.2)
def known:QQ prog 89 g f m:=
 kc0 [⟨126,M126a.con,M126a.con_ok⟩] s89
def con:Con:=Y2 g [] f m default
def con_ok:J4 prog 89 con:=JY known
end M89a
namespace M89b
structure gX where(Q0:TN)(Q1:TS)(Q4:TM)(Q3:TI)(QF QG QP value other:Int)(good:TI)
def g:Sg gX:=⟨[.agg cir4,.agg [iB,iI,iI,iB,iI],cU],[],λa b=>⟨a.1.1,a.1.2.1,a.1.2.2.1,a.1.2.2.2.1,a.2.1.1,a.2.1.2.1,a.2.1.2.2.1,a.2.1.2.2.2.1,a.2.1.2.2.2.2.1,a.2.2.1⟩,λx=>((x.Q0,(x.Q1,(x.Q4,(x.Q3,())))),((x.QF,(x.QG,(x.QP,(x.value,(x.other,()))))),(x.good,()))),λx=>()⟩
abbrev fY:=Int×Int×Int×Int×Int×Int×Int×TN×TS×TM×TI
def f:Ft fY:=⟨some [1,5,6,7,0,2,3,4],.c (.ptr 3 0),[oG,oP,.st [.clo 128 [⟨0,0,0⟩]] 1 0,.st [aN,aS,aM,aI,.nils,.fn 150,.clo 152 [⟨1,0,0⟩,⟨2,0,0⟩]] 1 0],λa b=>(b.1.1,b.1.2.1,b.1.2.2.1,b.1.2.2.2.1,b.1.2.2.2.2.1,b.2.1.1,b.2.1.2.1,b.2.2.2.1.1,b.2.2.2.1.2.1,b.2.2.2.1.2.2.1,b.2.2.2.1.2.2.2.1),λy=>(),λy=>((y.1,(y.2.1,(y.2.2.1,(y.2.2.2.1,(y.2.2.2.2.1,()))))),((y.2.2.2.2.2.1,(y.2.2.2.2.2.2.1,())),(((),()),((y.2.2.2.2.2.2.2.1,(y.2.2.2.2.2.2.2.2.1,(y.2.2.2.2.2.2.2.2.2.1,(y.2.2.2.2.2.2.2.2.2.2,((),((),((),()))))))),()))))⟩
def m(x:gX):Option fY:=bif x.QF==2 then none else bif x.QF==3 then none else bindO (M126b.m ⟨x.Q0,x.Q1,x.Q4,x.Q3,x.QG,x.QP,x.QF,x.QG,x.QP,x.value,x.other⟩) λy=>some (y.1,y.2.1,y.2.2.1,y.2.2.2.1,y.2.2.2.2.1,y.2.2.2.2.2.1,y.2.2.2.2.2.2.1,y.2.2.2.2.2.2.2.1, y.2.2.2.2.2.2.2.2.1,y.2.2.2.2.2.2.2.2.2.1,y.2.2.2.2.2.2.2.2.2.2)
def known:QQ prog 89 g f m:=
 kc0 [⟨126,M126b.con,M126b.con_ok⟩] s89
def con:Con:=Y2 g [] f m default
def con_ok:J4 prog 89 con:=JY known
end M89b
namespace M130a
structure gX where(n:Int)(Q0:TN)(Q1:TS)(Q4:TM)(Q3:TI)(Q6 Q5 Q9:Nat)(ln lp QF QG QP value other:Int)(xs:TI)
def g:Sg gX:=⟨[cP,cI],[.st [aN,aS,aM,aI,.slc 4 0 1,.clo 151 [⟨1,0,0⟩,⟨2,0,0⟩],.fn 124] 1 0,oP,.st [.clo 128 [⟨3,0,0⟩]] 1 0,oG,oB],λa b=>⟨a.2.1,b.1.1,b.1.2.1,b.1.2.2.1,b.1.2.2.2.1,b.1.2.2.2.2.1.1,b.1.2.2.2.2.1.2.1,b.1.2.2.2.2.1.2.2,b.2.1.1,b.2.1.2.1,b.2.2.2.1.1,b.2.2.2.1.2.1,b.2.2.2.1.2.2.1,b.2.2.2.1.2.2.2.1,b.2.2.2.1.2.2.2.2.1,b.2.2.2.2.1⟩,λx=>((),(x.n,())),λx=>((x.Q0,(x.Q1,(x.Q4,(x.Q3,((x.Q6,x.Q5,x.Q9),((),((),()))))))),((x.ln,(x.lp,())),(((),()),((x.QF,(x.QG,(x.QP,(x.value,(x.other,()))))),(x.xs,())))))⟩
abbrev fY:=TI×TN×TS×TM×TI×Nat×Nat×Nat×Int×Int×Int×Int×Int×Int×Int×TI
def f:Ft fY:=⟨none,cU,[.st [aN,aS,aM,aI,.slc 4 0 1,.clo 151 [⟨1,0,0⟩,⟨2,0,0⟩],.fn 124] 1 0,oP,.st [.clo 128 [⟨3,0,0⟩]] 1 0,oG,oB],λa b=>(a,b.1.1,b.1.2.1,b.1.2.2.1,b.1.2.2.2.1,b.1.2.2.2.2.1.1,b.1.2.2.2.2.1.2.1,b.1.2.2.2.2.1.2.2,b.2.1.1,b.2.1.2.1,b.2.2.2.1.1,b.2.2.2.1.2.1,b.2.2.2.1.2.2.1,b.2.2.2.1.2.2.2.1,b.2.2.2.1.2.2.2.2.1,b.2.2.2.2.1),λy=>y.1,λy=>((y.2.1,(y.2.2.1,(y.2.2.2.1,(y.2.2.2.2.1,((y.2.2.2.2.2.1,y.2.2.2.2.2.2.1,y.2.2.2.2.2.2.2.1),((),((),()))))))),((y.2.2.2.2.2.2.2.2.1,(y.2.2.2.2.2.2.2.2.2.1,())),(((),()),((y.2.2.2.2.2.2.2.2.2.2.1,(y.2.2.2.2.2.2.2.2.2.2.2.1,(y.2.2.2.2.2.2.2.2.2.2.2.2.1,(y.2.2.2.2.2.2.2.2.2.2.2.2.2.1,(y.2.2.2.2.2.2.2.2.2.2.2.2.2.2.1,()))))),(y.2.2.2.2.2.2.2.2.2.2.2.2.2.2.2,())))))⟩
def cl:List CK:=[ck M124.known]
structure p0X where(n:Int)(QC Q8:Nat)(l:TI)(m i:Int)(Q0:TN)(Q1:TS)(Q4:TM)(Q3:TI)(Q6 Q5 Q9:Nat)(ln lp QF QG QP value other:Int)(xs out:TI)
def p0:Pt p0X:=⟨[.reg 5 (.int .u8)],⟨[(0,cP),(1,cI),(5,.c (.sl 5 0 1)),(16,cA),(17,cI),(18,cI)],[.st [aN,aS,aM,aI,.slc 4 0 1,.clo 151 [⟨1,0,0⟩,⟨2,0,0⟩],.fn 124] 1 0,oP,.st [.clo 128 [⟨3,0,0⟩]] 1 0,oG,oB,oB]⟩,λ((_,a,(b,c),d,e,f,_),(g,h,i,j,(k,l,m),_),(n,o,_),_,(p,q,r,s,t,_),u,w,_)=>⟨a,b,c,d,e,f,g,h,i,j,k,l,m,n,o,p,q,r,s,t,u,w⟩,λx=>(((),(x.n,((x.QC,x.Q8),(x.l,(x.m,(x.i,())))))),((x.Q0,(x.Q1,(x.Q4,(x.Q3,((x.Q6,x.Q5,x.Q9),((),((),()))))))),((x.ln,(x.lp,())),(((),()),((x.QF,(x.QG,(x.QP,(x.value,(x.other,()))))),(x.xs,(x.out,())))))))⟩
structure q0X where(QC Q8:Nat)(Q0:TN)(Q1:TS)(Q4:TM)(Q3:TI)(Q6 Q5 Q9:Nat)(ln lp QF QG QP value other:Int)(xs out:TI)
def q0:Pt q0X:=⟨[],⟨[(5,.c (.sl 5 0 1))],[.st [aN,aS,aM,aI,.slc 4 0 1,.clo 151 [⟨1,0,0⟩,⟨2,0,0⟩],.fn 124] 1 0,oP,.st [.clo 128 [⟨3,0,0⟩]] 1 0,oG,oB,oB]⟩,λ(((a,b),_),(c,d,e,f,(g,h,i),_),(j,k,_),_,(l,m,n,o,p,_),q,r,_)=>⟨a,b,c,d,e,f,g,h,i,j,k,l,m,n,o,p,q,r⟩,λx=>(((x.QC,x.Q8),()),((x.Q0,(x.Q1,(x.Q4,(x.Q3,((x.Q6,x.Q5,x.Q9),((),((),()))))))),((x.ln,(x.lp,())),(((),()),((x.QF,(x.QG,(x.QP,(x.value,(x.other,()))))),(x.xs,(x.out,())))))))⟩
def s0(x:p0X):Option (p0X⊕q0X):=bif decide (x.i<x.m) then bif inR x.i x.l.length then bif inR (x.l[x.i.toNat]?.getD 0) x.Q5 then bif decide (x.Q6+Int.toNat (x.l[x.i.toNat]?.getD 0)<x.xs.length) then bindO (M124.m ⟨x.n,x.i,x.xs[x.Q6+Int.toNat (x.l[x.i.toNat]?.getD 0)]?.getD 0⟩) λy=>bif eqN x.QC 0&&eqN x.out.length x.Q8&&J1 (x.Q8+1) 1 then some (inl ⟨x.n,0,x.Q8+1,x.l,x.m,i64.wrap (x.i+1),x.Q0,x.Q1,x.Q4,x.Q3,x.Q6,x.Q5,x.Q9,x.ln,x.lp,x.QF,x.QG,x.QP,x.value,x.other,x.xs,x.out++[y]⟩) else none else none else none else none else some (inr ⟨x.QC,x.Q8,x.Q0,x.Q1,x.Q4,x.Q3,x.Q6,x.Q5,x.Q9,x.ln,x.lp,x.QF,x.QG,x.QP,x.value,x.other,x.xs,x.out⟩)
def l0:QT:=Qa 5 p0 (.exit 0) q0 s0
def l0_ok  :QO prog 42 none 5 (C130.QR 0) l0:=lc cl 1 (λ_=>none) QX.nil
def m(x:gX):Option fY:=bif inR x.n x.Q0.length then bindO (iter s0 ⟨x.n,0,0,(x.Q0[x.n.toNat]?.getD (0,[],0,0)).2.1,(↑(List.length (x.Q0[x.n.toNat]?.getD (0,[],0,0)).2.1):Int),0,x.Q0,x.Q1,x.Q4,x.Q3,x.Q6,x.Q5,x.Q9,x.ln,x.lp,x.QF,x.QG,x.QP,x.value,x.other,x.xs,[]⟩) λy=>bif leB (y.QC+y.Q8) y.out.length&&true&&true then some (List.take y.Q8 (List.drop y.QC y.out),y.Q0,y.Q1,y.Q4,y.Q3,y.Q6,y.Q5,y.Q9,y.ln,y.lp,y.QF,y.QG,y.QP,y.value,y.other,y.xs) else none else none
def known:QQ prog 130 g f m:=
 kc cl s130 (J2 [(0,l0)]) (ac 0 l0_ok QX.nil)
def ky(z:p0X):=(z.Q0,z.Q1,z.Q4,z.Q3,z.Q6,z.Q5,z.Q9,z.ln,z.lp,z.QF,z.QG,z.QP,z.value,z.other,z.xs)
def kq(z:q0X):=(z.Q0,z.Q1,z.Q4,z.Q3,z.Q6,z.Q5,z.Q9,z.ln,z.lp,z.QF,z.QG,z.QP,z.value,z.other,z.xs)
def k0{z:p0X}{y:q0X}(h:iter s0 z=some y):kq y=ky z:=by
 refine Xe (λu=>ky u=ky z) (λr=>kq r=ky z) (λu r hu hr=> ?_) rfl h;unfold s0 at hr;rcases cond_some hr with ⟨_,hr⟩|⟨_,hr⟩
 ·rcases cond_some hr with ⟨_,hr⟩|⟨_,hr⟩
  ·rcases cond_some hr with ⟨_,hr⟩|⟨_,hr⟩
   ·rcases cond_some hr with ⟨_,hr⟩|⟨_,hr⟩
    ·obtain⟨b,_,hr⟩:=Qf hr;rcases cond_some hr with ⟨_,hr⟩|⟨_,hr⟩
     ·cases hr;exact hu
     ·cases hr
    ·cases hr
   ·cases hr
  ·cases hr
 ·cases hr;exact hu
def hh{x:gX}{y:fY}(h:m x=some y):f.H y=g.H x:=by
 unfold m at h;rcases cond_some h with ⟨_,h⟩|⟨_,h⟩
 ·obtain⟨v,h1,h⟩:=Qf h;have h2:=k0 h1;rcases cond_some h with ⟨_,h⟩|⟨_,h⟩
  ·cases h;obtain⟨v0,v1,v2,v3,v4,v5,v6,v7,v8,v9,v10,v11,v12,v13,v14,v15,v16,v17⟩:=v;simp only[ky,kq,A0]at h2;obtain⟨rfl,rfl,rfl,rfl,rfl,rfl,rfl,rfl,rfl,rfl,rfl,rfl,rfl,rfl,rfl⟩:=h2;rfl
  ·cases h
 ·cases h
def con:Con:=YZ g [.arg 0 0,.cell 0 105,.cell 0 205,.cell 2 0,.cell 0 4] f m default
def con_ok:J4 prog 130 con:=Jh known (λ_=>rfl) (λ_ _ h=>by exact hh h)
end M130a
namespace M130b
structure gX where(n:Int)(Q0:TN)(Q1:TS)(Q4:TM)(Q3:TI)(Q6 Q5 Q9:Nat)(ln lp QF QG QP value other:Int)(xs:TI)
def g:Sg gX:=⟨[cP,cI],[.st [aN,aS,aM,aI,.slc 4 0 1,.fn 150,.clo 152 [⟨1,0,0⟩,⟨2,0,0⟩]] 1 0,oP,.st [.clo 128 [⟨3,0,0⟩]] 1 0,oG,oB],λa b=>⟨a.2.1,b.1.1,b.1.2.1,b.1.2.2.1,b.1.2.2.2.1,b.1.2.2.2.2.1.1,b.1.2.2.2.2.1.2.1,b.1.2.2.2.2.1.2.2,b.2.1.1,b.2.1.2.1,b.2.2.2.1.1,b.2.2.2.1.2.1,b.2.2.2.1.2.2.1,b.2.2.2.1.2.2.2.1,b.2.2.2.1.2.2.2.2.1,b.2.2.2.2.1⟩,λx=>((),(x.n,())),λx=>((x.Q0,(x.Q1,(x.Q4,(x.Q3,((x.Q6,x.Q5,x.Q9),((),((),()))))))),((x.ln,(x.lp,())),(((),()),((x.QF,(x.QG,(x.QP,(x.value,(x.other,()))))),(x.xs,())))))⟩
abbrev fY:=TI×TN×TS×TM×TI×Nat×Nat×Nat×Int×Int×Int×Int×Int×Int×Int×TI
def f:Ft fY:=⟨none,cU,[.st [aN,aS,aM,aI,.slc 4 0 1,.fn 150,.clo 152 [⟨1,0,0⟩,⟨2,0,0⟩]] 1 0,oP,.st [.clo 128 [⟨3,0,0⟩]] 1 0,oG,oB],λa b=>(a,b.1.1,b.1.2.1,b.1.2.2.1,b.1.2.2.2.1,b.1.2.2.2.2.1.1,b.1.2.2.2.2.1.2.1,b.1.2.2.2.2.1.2.2,b.2.1.1,b.2.1.2.1,b.2.2.2.1.1,b.2.2.2.1.2.1,b.2.2.2.1.2.2.1,b.2.2.2.1.2.2.2.1,b.2.2.2.1.2.2.2.2.1,b.2.2.2.2.1),λy=>y.1,λy=>((y.2.1,(y.2.2.1,(y.2.2.2.1,(y.2.2.2.2.1,((y.2.2.2.2.2.1,y.2.2.2.2.2.2.1,y.2.2.2.2.2.2.2.1),((),((),()))))))),((y.2.2.2.2.2.2.2.2.1,(y.2.2.2.2.2.2.2.2.2.1,())),(((),()),((y.2.2.2.2.2.2.2.2.2.2.1,(y.2.2.2.2.2.2.2.2.2.2.2.1,(y.2.2.2.2.2.2.2.2.2.2.2.2.1,(y.2.2.2.2.2.2.2.2.2.2.2.2.2.1,(y.2.2.2.2.2.2.2.2.2.2.2.2.2.2.1,()))))),(y.2.2.2.2.2.2.2.2.2.2.2.2.2.2.2,())))))⟩
def cl:List CK:=[⟨152,M152.con,M152.con_ok⟩]
structure p0X where(n:Int)(QC Q8:Nat)(l:TI)(m i:Int)(Q0:TN)(Q1:TS)(Q4:TM)(Q3:TI)(Q6 Q5 Q9:Nat)(ln lp QF QG QP value other:Int)(xs out:TI)
def p0:Pt p0X:=⟨[.reg 5 (.int .u8)],⟨[(0,cP),(1,cI),(5,.c (.sl 5 0 1)),(16,cA),(17,cI),(18,cI)],[.st [aN,aS,aM,aI,.slc 4 0 1,.fn 150,.clo 152 [⟨1,0,0⟩,⟨2,0,0⟩]] 1 0,oP,.st [.clo 128 [⟨3,0,0⟩]] 1 0,oG,oB,oB]⟩,λ((_,a,(b,c),d,e,f,_),(g,h,i,j,(k,l,m),_),(n,o,_),_,(p,q,r,s,t,_),u,w,_)=>⟨a,b,c,d,e,f,g,h,i,j,k,l,m,n,o,p,q,r,s,t,u,w⟩,λx=>(((),(x.n,((x.QC,x.Q8),(x.l,(x.m,(x.i,())))))),((x.Q0,(x.Q1,(x.Q4,(x.Q3,((x.Q6,x.Q5,x.Q9),((),((),()))))))),((x.ln,(x.lp,())),(((),()),((x.QF,(x.QG,(x.QP,(x.value,(x.other,()))))),(x.xs,(x.out,())))))))⟩
structure q0X where(QC Q8:Nat)(Q0:TN)(Q1:TS)(Q4:TM)(Q3:TI)(Q6 Q5 Q9:Nat)(ln lp QF QG QP value other:Int)(xs out:TI)
def q0:Pt q0X:=⟨[],⟨[(5,.c (.sl 5 0 1))],[.st [aN,aS,aM,aI,.slc 4 0 1,.fn 150,.clo 152 [⟨1,0,0⟩,⟨2,0,0⟩]] 1 0,oP,.st [.clo 128 [⟨3,0,0⟩]] 1 0,oG,oB,oB]⟩,λ(((a,b),_),(c,d,e,f,(g,h,i),_),(j,k,_),_,(l,m,n,o,p,_),q,r,_)=>⟨a,b,c,d,e,f,g,h,i,j,k,l,m,n,o,p,q,r⟩,λx=>(((x.QC,x.Q8),()),((x.Q0,(x.Q1,(x.Q4,(x.Q3,((x.Q6,x.Q5,x.Q9),((),((),()))))))),((x.ln,(x.lp,())),(((),()),((x.QF,(x.QG,(x.QP,(x.value,(x.other,()))))),(x.xs,(x.out,())))))))⟩
def s0(x:p0X):Option (p0X⊕q0X):=bif decide (x.i<x.m) then bif inR x.i x.l.length then bif inR (x.l[x.i.toNat]?.getD 0) x.Q5 then bif decide (x.Q6+Int.toNat (x.l[x.i.toNat]?.getD 0)<x.xs.length) then bindO (M152.m ⟨x.n,x.i,x.xs[x.Q6+Int.toNat (x.l[x.i.toNat]?.getD 0)]?.getD 0,x.ln,x.lp,x.QF,x.QG,x.QP,x.value,x.other⟩) λy=>bif eqN x.QC 0&&eqN x.out.length x.Q8&&J1 (x.Q8+1) 1 then some (inl ⟨x.n,0,x.Q8+1,x.l,x.m,i64.wrap (x.i+1),x.Q0,x.Q1,x.Q4,x.Q3,x.Q6,x.Q5,x.Q9,x.ln,x.lp,x.QF,x.QG,x.QP,x.value,x.other,x.xs,x.out++[y.1]⟩) else none else none else none else none else some (inr ⟨x.QC,x.Q8,x.Q0,x.Q1,x.Q4,x.Q3,x.Q6,x.Q5,x.Q9,x.ln,x.lp,x.QF,x.QG,x.QP,x.value,x.other,x.xs,x.out⟩)
def l0:QT:=Qa 5 p0 (.exit 0) q0 s0
def l0_ok  :QO prog 42 none 5 (C130.QR 0) l0:=lc cl 1 (λ_=>none) QX.nil
def m(x:gX):Option fY:=bif inR x.n x.Q0.length then bindO (iter s0 ⟨x.n,0,0,(x.Q0[x.n.toNat]?.getD (0,[],0,0)).2.1,(↑(List.length (x.Q0[x.n.toNat]?.getD (0,[],0,0)).2.1):Int),0,x.Q0,x.Q1,x.Q4,x.Q3,x.Q6,x.Q5,x.Q9,x.ln,x.lp,x.QF,x.QG,x.QP,x.value,x.other,x.xs,[]⟩) λy=>bif leB (y.QC+y.Q8) y.out.length&&true&&true then some (List.take y.Q8 (List.drop y.QC y.out),y.Q0,y.Q1,y.Q4,y.Q3,y.Q6,y.Q5,y.Q9,y.ln,y.lp,y.QF,y.QG,y.QP,y.value,y.other,y.xs) else none else none
def known:QQ prog 130 g f m:=
 kc cl s130 (J2 [(0,l0)]) (ac 0 l0_ok QX.nil)
def ky(z:p0X):=(z.Q0,z.Q1,z.Q4,z.Q3,z.Q6,z.Q5,z.Q9,z.ln,z.lp,z.QF,z.QG,z.QP,z.value,z.other,z.xs)
def kq(z:q0X):=(z.Q0,z.Q1,z.Q4,z.Q3,z.Q6,z.Q5,z.Q9,z.ln,z.lp,z.QF,z.QG,z.QP,z.value,z.other,z.xs)
def k0{z:p0X}{y:q0X}(h:iter s0 z=some y):kq y=ky z:=by
 refine Xe (λu=>ky u=ky z) (λr=>kq r=ky z) (λu r hu hr=> ?_) rfl h;unfold s0 at hr;rcases cond_some hr with ⟨_,hr⟩|⟨_,hr⟩
 ·rcases cond_some hr with ⟨_,hr⟩|⟨_,hr⟩
  ·rcases cond_some hr with ⟨_,hr⟩|⟨_,hr⟩
   ·rcases cond_some hr with ⟨_,hr⟩|⟨_,hr⟩
    ·obtain⟨b,_,hr⟩:=Qf hr;rcases cond_some hr with ⟨_,hr⟩|⟨_,hr⟩
     ·cases hr;exact hu
     ·cases hr
    ·cases hr
   ·cases hr
  ·cases hr
 ·cases hr;exact hu
def hh{x:gX}{y:fY}(h:m x=some y):f.H y=g.H x:=by
 unfold m at h;rcases cond_some h with ⟨_,h⟩|⟨_,h⟩
 ·obtain⟨v,h1,h⟩:=Qf h;have h2:=k0 h1;rcases cond_some h with ⟨_,h⟩|⟨_,h⟩
  ·cases h;obtain⟨v0,v1,v2,v3,v4,v5,v6,v7,v8,v9,v10,v11,v12,v13,v14,v15,v16,v17⟩:=v;simp only[ky,kq,A0]at h2;obtain⟨rfl,rfl,rfl,rfl,rfl,rfl,rfl,rfl,rfl,rfl,rfl,rfl,rfl,rfl,rfl⟩:=h2;rfl
  ·cases h
 ·cases h
def con:Con:=YZ g [.arg 0 0,.cell 0 106,.cell 0 206,.cell 2 0,.cell 0 4] f m default
def con_ok:J4 prog 130 con:=Jh known (λ_=>rfl) (λ_ _ h=>by exact hh h)
end M130b
namespace M108
structure gX where(a b:TI)
def g:Sg gX:=⟨[cU,cU],[],λa b=>⟨a.1,a.2.1⟩,λx=>(x.a,(x.b,())),λx=>()⟩
abbrev fY:=TI
def f:Ft fY:=⟨none,cA,[],λa b=>(a),λy=>y,λy=>()⟩
def cl:List CK:=[⟨34,M34o.con,M34o.con_ok⟩]
structure p0X where(a b:TI)(QC Q8:Nat)(n i:Int)(xs:TI)
def p0:Pt p0X:=⟨[.reg 5 (.int .i64)],⟨[(0,cU),(1,cU),(5,.c (.sl 0 0 1)),(11,cI),(12,cI)],[oI]⟩,λ((a,b,(c,d),e,f,_),g,_)=>⟨a,b,c,d,e,f,g⟩,λx=>((x.a,(x.b,((x.QC,x.Q8),(x.n,(x.i,()))))),(x.xs,()))⟩
structure q0X where(QC Q8:Nat)(xs:TI)
def q0:Pt q0X:=⟨[],⟨[(5,.c (.sl 0 0 1))],[oI]⟩,λ(((a,b),_),c,_)=>⟨a,b,c⟩,λx=>(((x.QC,x.Q8),()),(x.xs,()))⟩
def s0(x:p0X):Option (p0X⊕q0X):=bif decide (x.i<x.n) then bif inR x.i x.a.length then bif inR x.i x.b.length||!decide (x.a[x.i.toNat]?.getD 0<=1) then bif inR x.i x.a.length||!bif decide (x.a[x.i.toNat]?.getD 0<=1) then decide (x.b[x.i.toNat]?.getD 0<=1) else false then bif inR x.i x.b.length||!bif decide (x.a[x.i.toNat]?.getD 0<=1) then decide (x.b[x.i.toNat]?.getD 0<=1) else false then bif bif bif decide (x.a[x.i.toNat]?.getD 0<=1) then decide (x.b[x.i.toNat]?.getD 0<=1) else false then x.a[x.i.toNat]?.getD 0 !=x.b[x.i.toNat]?.getD 0 else false then bif eqN x.QC 0&&eqN x.xs.length x.Q8&&J1 (x.Q8+1) 8 then some (inl ⟨x.a,x.b,0,x.Q8+1,x.n,i64.wrap (x.i+1),x.xs++[x.i]⟩) else none else some (inl ⟨x.a,x.b,x.QC,x.Q8,x.n,i64.wrap (x.i+1),x.xs⟩) else none else none else none else none else some (inr ⟨x.QC,x.Q8,x.xs⟩)
def l0:QT:=Qa 0 p0 (.exit 0) q0 s0
def l0_ok  :QO prog 45 none 0 (C108.QR 0) l0:=lc cl 1 (λ_=>none) QX.nil
def m(x:gX):Option fY:=bindO (iter s0 ⟨x.a,x.b,0,0,if (x.b.length:Int)<(x.a.length:Int) then (x.b.length:Int) else (x.a.length:Int),0,[]⟩) λy=>bindO (M34o.m ⟨y.QC,y.Q8,y.xs⟩) λy=>bif leB (y.1+y.2.1) y.2.2.2.length&&true&&true then some (List.take y.2.1 (List.drop y.1 y.2.2.2)) else none
def known:QQ prog 108 g f m:=
 kc cl s108 (J2 [(0,l0)]) (ac 0 l0_ok QX.nil)
end M108
namespace M65
structure gX where(ao an bo bn:TI)
def g:Sg gX:=⟨[.agg [aB,aB],.agg [aB,aB]],[],λa b=>⟨a.1.1,a.1.2.1,a.2.1.1,a.2.1.2.1⟩,λx=>((x.ao,(x.an,())),((x.bo,(x.bn,())),())),λx=>()⟩
abbrev fY:=TI×TI
def f:Ft fY:=⟨none,.tup [.inl (aI),.inl (aI)],[],λa b=>(a.1,a.2.1),λy=>(y.1,(y.2,())),λy=>()⟩
def m(x:gX):Option fY:=bindO (M108.m ⟨x.ao,x.bo⟩) λy=>bindO (M108.m ⟨x.an,x.bn⟩) λy_1=>some (y,y_1)
def known:QQ prog 65 g f m:=
 kc0 [ck M108.known] s65
end M65
namespace M138
structure gX where(k:Int)
def g:Sg gX:=⟨[cB],[],λa b=>⟨a.1⟩,λx=>(x.k,()),λx=>()⟩
abbrev fY:=Int×Int×Bool
def f:Ft fY:=⟨none,.tup [.inr [iB,iB],.inl (.bo)],[],λa b=>(a.1.1,a.1.2.1,a.2.1),λy=>((y.1,(y.2.1,())),(y.2.2,())),λy=>()⟩
def m(x:gX):Option fY:=bif x.k==5 then some (0,0,true) else bif x.k==6 then some (0,1,true) else bif x.k==7 then some (1,1,true) else bif x.k==8 then some (1,0,true) else some (0,0,false)
def known:QQ prog 138 g f m:=
 kc0 [] s138
end M138
namespace M104
structure gX where(kind:Int)(inn:TI)(mem bit:Int)
def g:Sg gX:=⟨[.agg [iB,aI,iI,iI]],[],λa b=>⟨a.1.1,a.1.2.1,a.1.2.2.1,a.1.2.2.2.1⟩,λx=>((x.kind,(x.inn,(x.mem,(x.bit,())))),()),λx=>()⟩
abbrev fY:=(List ((Int)×Int))
def f:Ft fY:=⟨none,.c (.arr (.pair lB lB)),[],λa b=>(a),λy=>y,λy=>()⟩
def m(x:gX):Option fY:=bif x.kind==3 then some [(0,0),(1,1)] else bif x.kind==13 then bif (x.inn.length:Int)==1 then some [(0,0),(1,1)] else bindO (M138.m ⟨x.kind⟩) λy=>bif y.2.2 then some [(y.1,y.2.1)] else some [] else bif x.kind==4 then some [(0,1),(1,0)] else bindO (M138.m ⟨x.kind⟩) λy=>bif y.2.2 then some [(y.1,y.2.1)] else some []
def known:QQ prog 104 g f m:=
 kc0 [ck M138.known] s104
end M104
namespace M140
structure gX where(s:TI)(v:Int)
def g:Sg gX:=⟨[cA,cI],[],λa b=>⟨a.1,a.2.1⟩,λx=>(x.s,(x.v,())),λx=>()⟩
abbrev fY:=Int
def f:Ft fY:=⟨none,cI,[],λa b=>(a),λy=>y,λy=>()⟩
structure p0X where(s:TI)(v n i:Int)
def p0:Pt p0X:=⟨[],⟨[(0,cA),(1,cI),(7,cI),(8,cI)],[]⟩,λ((a,b,c,d,_),_)=>⟨a,b,c,d⟩,λx=>((x.s,(x.v,(x.n,(x.i,())))),())⟩
abbrev q0X:=Unit
def q0:Pt q0X:=⟨[],⟨[],[]⟩,λv=>(),λx=>((),())⟩
structure z0X where(r:Int)
def z0:Pt z0X:=⟨[],⟨[(4,cI)],[]⟩,λv=>⟨v.1.1⟩,λx=>((x.r,()),())⟩
def s0(x:p0X):Option (p0X⊕(q0X⊕z0X)):=bif decide (x.i<x.n) then bif inR x.i x.s.length then bif x.v==x.s[x.i.toNat]?.getD 0 then some (inr (inr ⟨x.i⟩)) else some (inl ⟨x.s,x.v,x.n,i64.wrap (x.i+1)⟩) else none else some (inr (inl PUnit.unit))
def l0:QT:=JW 0 p0 (.exit 0) q0 .ret z0 s0
def l0_ok  :QO prog 19 none 0 (C140.QR 0) l0:=lc2 [] 1 (λ_=>none) QX.nil
def m(x:gX):Option fY:=bindO (iter s0 ⟨x.s,x.v,(x.s.length:Int),0⟩) λs=>sumC s (λy=>some (-1)) λz=>some z.r
def known:QQ prog 140 g f m:=
 kc [] s140 (J2 [(0,l0)]) (ac 0 l0_ok QX.nil)
end M140
namespace M107
structure gX where(s:TI)(v:Int)
def g:Sg gX:=⟨[cA,cI],[],λa b=>⟨a.1,a.2.1⟩,λx=>(x.s,(x.v,())),λx=>()⟩
abbrev fY:=Bool
def f:Ft fY:=⟨none,.c (.bo),[],λa b=>(a),λy=>y,λy=>()⟩
def m(x:gX):Option fY:=bindO (M140.m ⟨x.s,x.v⟩) λy=>some (decide (y>=0))
def known:QQ prog 107 g f m:=
 kc0 [ck M140.known] s107
end M107
namespace M62
structure gX where(node pin v:Int)(J5 Qt QS Qe Qw:Nat)(fs ps:TI)
def g:Sg gX:=⟨[cP,cI,cI,cB],[.st [.sl 1 0 1,.slc 2 0 1] 1 0,oI,oI],λa b=>⟨a.2.1,a.2.2.1,a.2.2.2.1,b.1.1.1,b.1.1.2,b.1.2.1.1,b.1.2.1.2.1,b.1.2.1.2.2,b.2.1,b.2.2.1⟩,λx=>((),(x.node,(x.pin,(x.v,())))),λx=>(((x.J5,x.Qt),((x.QS,x.Qe,x.Qw),())),(x.fs,(x.ps,())))⟩
abbrev fY:=Int×Nat×Nat×Nat×Nat×Nat×TI×TI
def f:Ft fY:=⟨none,cI,[.st [.sl 1 0 1,.slc 2 0 1] 1 0,oI,oI],λa b=>(a,b.1.1.1,b.1.1.2,b.1.2.1.1,b.1.2.1.2.1,b.1.2.1.2.2,b.2.1,b.2.2.1),λy=>y.1,λy=>(((y.2.1,y.2.2.1),((y.2.2.2.1,y.2.2.2.2.1,y.2.2.2.2.2.1),())),(y.2.2.2.2.2.2.1,(y.2.2.2.2.2.2.2,())))⟩
def m(x:gX):Option fY:=bif inR x.node x.Qt then bif decide (x.J5+x.node.toNat<x.fs.length) then some (i64.wrap (i64.wrap (x.fs[x.J5+x.node.toNat]?.getD 0+i64.wrap (2*i64.wrap (x.pin+1)))+i64.wrap x.v),x.J5,x.Qt,x.QS,x.Qe,x.Qw,x.fs,x.ps) else none else none
def known:QQ prog 62 g f m:=
 kc0 [] s62
def con:Con:=YZ g [.arg 0 0,.cell 0 0,.cell 0 1] f m default
def con_ok:J4 prog 62 con:=Jh known (λ_=>rfl) (λ_ _ h=>by unfold m at h;rcases cond_some h with ⟨_,h⟩|⟨_,h⟩<;>first|(cases h;done)|(rcases cond_some h with ⟨_,h⟩|⟨_,h⟩<;>first|(cases h;done)|(cases h;rfl)))
end M62
namespace M103
structure gX where(Q0:TN)(Q1:TS)(Q4:TM)(Q3:TI)
def g:Sg gX:=⟨[.agg cir4],[],λa b=>⟨a.1.1,a.1.2.1,a.1.2.2.1,a.1.2.2.2.1⟩,λx=>((x.Q0,(x.Q1,(x.Q4,(x.Q3,())))),()),λx=>()⟩
abbrev fY:=Nat×Nat×Nat×Nat×Nat×TI×TI
def f:Ft fY:=⟨some [1,2,3,0],cP,[.st [.sl 1 0 1,.slc 2 0 1] 1 0,oI,oI],λa b=>(b.1.1.1,b.1.1.2,b.1.2.1.1,b.1.2.1.2.1,b.1.2.1.2.2,b.2.1,b.2.2.1),λy=>(),λy=>(((y.1,y.2.1),((y.2.2.1,y.2.2.2.1,y.2.2.2.2.1),())),(y.2.2.2.2.2.1,(y.2.2.2.2.2.2,())))⟩
structure p1X where(m i:Int)(QK QE QM QI QJ:Nat)(fs ps:TI)
def p1:Pt p1X:=⟨[],⟨[(3,.c (.ptr 1 0)),(44,cI),(45,cI)],[.st [jk,jk,jk,jk] 1 0,.st [.sl 2 0 1,.slc 3 0 1] 1 0,oI,oI]⟩,λ((_,a,b,_),_,((c,d),(e,f,g),_),h,i,_)=>⟨a,b,c,d,e,f,g,h,i⟩,λx=>(((),(x.m,(x.i,()))),(((),((),((),((),())))),(((x.QK,x.QE),((x.QM,x.QI,x.QJ),())),(x.fs,(x.ps,())))))⟩
structure q1X where(QK QE QM QI QJ:Nat)(fs ps:TI)
def q1:Pt q1X:=⟨[],⟨[(3,.c (.ptr 1 0))],[.st [jk,jk,jk,jk] 1 0,.st [.sl 2 0 1,.slc 3 0 1] 1 0,oI,oI]⟩,λ(_,_,((a,b),(c,d,e),_),f,g,_)=>⟨a,b,c,d,e,f,g⟩,λx=>(((),()),(((),((),((),((),())))),(((x.QK,x.QE),((x.QM,x.QI,x.QJ),())),(x.fs,(x.ps,())))))⟩
def s1(x:p1X):Option (p1X⊕q1X):=bif decide (x.i<x.m) then bif inR x.i x.QI then bif decide (x.QM+x.i.toNat<x.ps.length) then some (inl ⟨x.m,i64.wrap (x.i+1),x.QK,x.QE,x.QM,x.QI,x.QJ,x.fs,x.ps.set (x.QM+x.i.toNat) x.i⟩) else none else none else some (inr ⟨x.QK,x.QE,x.QM,x.QI,x.QJ,x.fs,x.ps⟩)
def l1:QT:=Qa 0 p1 (.exit 2) q1 s1
def l1_ok  :QO prog 57 none 0 (C103.QR 1) l1:=lc [] 2 (λ_=>none) QX.nil
structure p0X where(n:Int)(ns:TN)(m i:Int)(Q0:TN)(Q1:TS)(Q4:TM)(Q3:TI)(QK QE:Nat)(fs:TI)
def p0:Pt p0X:=⟨[.cell 1 0 (.int .i64)],⟨[(3,.c (.ptr 1 0)),(4,cI),(11,.c (aN)),(12,cI),(13,cI)],[oC,.st [.sl 2 0 1,.nils] 1 0,oI]⟩,λ((_,a,b,c,d,_),(e,f,g,h,_),((i,j),_),k,_)=>⟨a,b,c,d,e,f,g,h,i,j,k⟩,λx=>(((),(x.n,(x.ns,(x.m,(x.i,()))))),((x.Q0,(x.Q1,(x.Q4,(x.Q3,())))),(((x.QK,x.QE),((),())),(x.fs,()))))⟩
structure q0X where(n:Int)(QK QE:Nat)(fs:TI)
def q0:Pt q0X:=⟨[],⟨[(3,.c (.ptr 1 0)),(4,cI)],[.st [jk,jk,jk,jk] 1 0,.st [.sl 2 0 1,.nils] 1 0,oI]⟩,λ((_,a,_),_,((b,c),_),d,_)=>⟨a,b,c,d⟩,λx=>(((),(x.n,())),(((),((),((),((),())))),(((x.QK,x.QE),((),())),(x.fs,()))))⟩
def s0(x:p0X):Option (p0X⊕q0X):=bif decide (x.i<x.m) then bif inR x.i x.ns.length then bif eqN x.QK 0&&eqN x.fs.length x.QE&&J1 (x.QE+1) 8 then some (inl ⟨i64.wrap (x.n+i64.wrap (2*i64.wrap ((↑(List.length (x.ns[x.i.toNat]?.getD (0,[],0,0)).2.1):Int)+1))),x.ns,x.m,i64.wrap (x.i+1),x.Q0,x.Q1,x.Q4,x.Q3,0,x.QE+1,x.fs++[x.n]⟩) else none else none else some (inr ⟨x.n,x.QK,x.QE,x.fs⟩)
def l0:QT:=Qa 0 p0 (.exit 0) q0 s0
def l0_ok  :QO prog 57 none 0 (C103.QR 0) l0:=lc [] 1 (J2 [(1,l1)]) QX.nil
def m(x:gX):Option fY:=bindO (iter s0 ⟨0,x.Q0,(x.Q0.length:Int),0,x.Q0,x.Q1,x.Q4,x.Q3,0,0,[]⟩) λy=>bif decide (0<=y.n)&&decide (y.n<=y.n)&&decide (y.n*(↑8:Int)<=281474976710656)&&decide (y.n<=9223372036854775807) then bindO (iter s1 ⟨(y.n.toNat:Int),0,y.QK,y.QE,0,y.n.toNat,y.n.toNat,y.fs,List.replicate y.n.toNat (0:Int)⟩) λy=>some (y.QK,y.QE,y.QM,y.QI,y.QJ,y.fs,y.ps) else none
def known:QQ prog 103 g f m:=
 kc [] s103 (J2 [(0,l0),(1,l1)]) (ac 0 l0_ok (ac 1 l1_ok QX.nil))
def con:Con:=Y2 g [] f m default
def con_ok:J4 prog 103 con:=JY known
end M103
namespace M61
structure gX where(i:Int)(J5 Qt QS Qe Qw:Nat)(fs ps:TI)
def g:Sg gX:=⟨[cP,cI],[.st [.sl 1 0 1,.slc 2 0 1] 1 0,oI,oI],λa b=>⟨a.2.1,b.1.1.1,b.1.1.2,b.1.2.1.1,b.1.2.1.2.1,b.1.2.1.2.2,b.2.1,b.2.2.1⟩,λx=>((),(x.i,())),λx=>(((x.J5,x.Qt),((x.QS,x.Qe,x.Qw),())),(x.fs,(x.ps,())))⟩
abbrev fY:=Int×Nat×Nat×Nat×Nat×Nat×TI×TI
def f:Ft fY:=⟨none,cI,[.st [.sl 1 0 1,.slc 2 0 1] 1 0,oI,oI],λa b=>(a,b.1.1.1,b.1.1.2,b.1.2.1.1,b.1.2.1.2.1,b.1.2.1.2.2,b.2.1,b.2.2.1),λy=>y.1,λy=>(((y.2.1,y.2.2.1),((y.2.2.2.1,y.2.2.2.2.1,y.2.2.2.2.2.1),())),(y.2.2.2.2.2.2.1,(y.2.2.2.2.2.2.2,())))⟩
structure p0X where(i:Int)(J5 Qt QS Qe Qw:Nat)(fs ps:TI)
def p0:Pt p0X:=⟨[],⟨[(0,cP),(1,cI)],[.st [.sl 1 0 1,.slc 2 0 1] 1 0,oI,oI]⟩,λ((_,a,_),((b,c),(d,e,f),_),g,h,_)=>⟨a,b,c,d,e,f,g,h⟩,λx=>(((),(x.i,())),(((x.J5,x.Qt),((x.QS,x.Qe,x.Qw),())),(x.fs,(x.ps,()))))⟩
structure q0X where(i:Int)(J5 Qt QS Qe Qw:Nat)(fs ps:TI)
def q0:Pt q0X:=⟨[],⟨[(1,cI)],[.st [.sl 1 0 1,.slc 2 0 1] 1 0,oI,oI]⟩,λ((a,_),((b,c),(d,e,f),_),g,h,_)=>⟨a,b,c,d,e,f,g,h⟩,λx=>((x.i,()),(((x.J5,x.Qt),((x.QS,x.Qe,x.Qw),())),(x.fs,(x.ps,()))))⟩
def s0(x:p0X):Option (p0X⊕q0X):=bif inR x.i x.Qe then bif decide (x.QS+x.i.toNat<x.ps.length) then bif x.ps[x.QS+x.i.toNat]?.getD 0 !=x.i then bif inR x.i x.Qe then bif decide (x.QS+x.i.toNat<x.ps.length) then bif inR (x.ps[x.QS+x.i.toNat]?.getD 0) x.Qe then bif decide (x.QS+Int.toNat (x.ps[x.QS+x.i.toNat]?.getD 0)<x.ps.length) then bif inR x.i x.Qe then bif decide (x.QS+x.i.toNat<x.ps.length) then bif inR x.i x.Qe then bif decide (x.QS+x.i.toNat<(x.ps.set (x.QS+x.i.toNat) (x.ps[x.QS+Int.toNat (x.ps[x.QS+x.i.toNat]?.getD 0)]?.getD 0)).length) then some (inl ⟨(x.ps.set (x.QS+x.i.toNat) (x.ps[x.QS+Int.toNat (x.ps[x.QS+x.i.toNat]?.getD 0)]?.getD 0))[x.QS+x.i.toNat]?.getD 0,x.J5,x.Qt,x.QS,x.Qe,x.Qw,x.fs,x.ps.set (x.QS+x.i.toNat) (x.ps[x.QS+Int.toNat (x.ps[x.QS+x.i.toNat]?.getD 0)]?.getD 0)⟩) else none else none else none else none else none else none else none else none else some (inr ⟨x.i,x.J5,x.Qt,x.QS,x.Qe,x.Qw,x.fs,x.ps⟩) else none else none
def l0:QT:=Qa 3 p0 (.exit 0) q0 s0
def l0_ok  :QO prog 41 none 3 (C61.QR 0) l0:=lc [] 1 (λ_=>none) QX.nil
def m(x:gX):Option fY:=bindO (iter s0 ⟨x.i,x.J5,x.Qt,x.QS,x.Qe,x.Qw,x.fs,x.ps⟩) λy=>some (y.i,y.J5,y.Qt,y.QS,y.Qe,y.Qw,y.fs,y.ps)
def known:QQ prog 61 g f m:=
 kc [] s61 (J2 [(0,l0)]) (ac 0 l0_ok QX.nil)
end M61
end Go.Proofs.YtpbplpgfloaaiaaGreatDoor
namespace Go.Abs
variable [Gl]
variable {P:Program}{N:Nat}{ro:Option Nat}
def callDW(P:Program)(g:FuncId)(args:List AV)(M:QA)(K:Option AV->QA->List Nat->List Nat->Prop)(_:Tag K):Prop:=(∃v rs,KH P g args M rs v/\K (some v) M rs [])\/∃v S' ws,Jw P g args M (λv' τ=>v'=v/\τ=S')/\(∀c,c∉ws->agC S' M c)/\K (some v) S' (List.range (M.length+1)) ws
def stepDW(P:Program)(r:QB)(M:QA)(op:Op)(K:Option AV->QA->List Nat->List Nat->Prop)(t:Tag K):Prop:=
 match op with
 |.call { callee:=.value f,args,argTypes:=_ }=>onOpt (callE r f args.toList) (λx=>callDW P x.1 x.2 M K t) ⟨⟩
 |.binOp b xT x y yT=>if JS y then False else onDraw (opD P r M (.binOp b xT x y yT)) K t
 |op=>onDraw (opD P r M op) K t
def drawCW(P:Program)(N:Nat):List COp->Nat->List Nat->JB->QB->QA->(K:QB->QA->Prop)->Tag K->Prop
 |[],_,_,_,r,M,K,_=>K r M
 |⟨d,op,g,_⟩::os,j,bef,log,r,M,K,t=>WM (X3 N d) (onGuard (Zz r g)
   (stepDW P r M op (λres S' rs ws=>WM (Qx (bef.headD 0) rs ws log) (drawCW P N os (j+1) bef.tail ((j,rs,ws)::log) (r.JM d res) S' K t) ⟨⟩) ⟨⟩)
   (drawCW P N os (j+1) bef.tail ((j,[],[])::log) (r.drop d) M K t) ⟨⟩ ⟨⟩) ⟨⟩
def fact_call2W{m:Nat}{ops:Array Oper}{o:Oper}{r:QB}{M s₁:QA}{v:AV}(hd:X3 N o.dst=true)(hg:Jn ops r o.guard=some true)
  {f:Operand} {args:Array Operand} {ts:Array TypeId} (hop:o.op=.call { callee:=.value f,args:=args,argTypes:=ts }) {x:FuncId×List AV} (hc:callE r f args.toList=some x)
  (h:Jw P x.1 x.2 M λv' τ=>v'=v/\τ=s₁) {ws:List Nat} (hl:∀c,c∉ws->agC s₁ M c):Yh P N m ops o (r,M) (r.JM o.dst (some v),s₁) (List.range (M.length+1)) ws:=by
 refine⟨hd,true,hg,λc hc=>hl c hc,λ_=>⟨some v,rfl,λr' τ hr ht=> ?_⟩,λe=>by cases e⟩;have Ht:τ=M:=agC_all ht;subst Ht;unfold stepOk;rw[hop];simp only;have h1:ev r' f=ev r f:=hr f (by rw[hop];simp[Op.operands,Call.operands]);have h2:evl r' args.toList=evl r args.toList:=XD λy hy=>hr y (by rw[hop];simp[Op.operands,Call.operands];exact .inr (by simpa using hy));rw[h1,h2];unfold callE at hc;split at hc
 ·rename_i fv az e1 e2;obtain⟨g,az'⟩:=x
  ·try rw[e1,e2]
   try simp only[hc]
   refine⟨h.1,λO w cargs hgl hh ha=>Bt (h.2 O w cargs hgl hh ha) ?_⟩;rintro e w' ⟨v',S',I',cv,rfl,⟨rfl,rfl⟩,h5⟩;exact⟨v',S',I',cv,rfl,⟨_,GhD.refl _ _ _ _ _ _,λc hc=>hl c hc,λc _=>agC.refl S' c⟩,h5⟩
 ·cases hc
def fact_stepW{m:Nat}{ops:Array Oper}{o:Oper}{r:QB}{M:QA}(hd:X3 N o.dst=true)(hg:Jn ops r o.guard=some true){K:Option AV->QA->List Nat->List Nat->Prop}{t:Tag K}(h:stepDW P r M o.op K t):
  ∃res S' rs ws,Yh P N m ops o (r,M) (r.JM o.dst res,S') rs ws/\K res S' rs ws:=by
 unfold stepDW at h;split at h
 ·rename_i f args ts hop;unfold onOpt at h;split at h
  ·rename_i x hx;rcases h with ⟨v,rs,h1,h2⟩|⟨v,S',ws,h1,hl,h2⟩
   ·exact⟨some v,M,rs,[],fact_call hd hg hop hx h1,h2⟩
   ·exact⟨some v,S',_,_,fact_call2W hd hg hop hx h1 hl,h2⟩
  ·exact h.elim
 ·rename_i b xT x y yT hop;split at h
  ·exact h.elim
  ·rename_i hy;unfold onDraw at h;split at h
   ·rename_i a b' c d hx;rw[<-hop]at hx;refine⟨a,b',c,d,Ux hd hg (by rw[hop];intro f args ts e;cases e) (Jf λb xT x y' yT e=> ?_) hx,h⟩;rw[hop]at e;injection e with _ _ _ e;subst e;simpa using hy
   ·exact h.elim
 ·rename_i h1 h2;unfold onDraw at h;split at h
  ·rename_i a b' c d hx;exact⟨a,b',c,d,Ux hd hg h1 (Jf λb xT x y yT e=>absurd e (h2 b xT x y yT)) hx,h⟩
  ·exact h.elim
def drawC_factsW{mm:Nat}{ops:Array Oper}{bef:List Nat}{K:QB->QA->Prop}:∀(os:List Oper) (cs:List COp) (ks:List (List Nat)),stripOps ops os ks=some cs->∀(k:Nat),os=ops.toList.drop k->
  ∀{r:QB} {M:QA} {log:JB} {t:Tag K},drawCW P N cs k (bef.drop k) log r M K t->∃S RH WH,Ud P N mm ops bef k ops.size S RH WH/\S k=(r,M)/\K (S (max k ops.size)).1 (S (max k ops.size)).2/\
   (∀x∈log,∀j,k<=j->j<ops.size->(bef.getD j 0).testBit x.1=false->(∀c∈x.2.2,c∉RH j/\c∉WH j)/\∀c∈WH j,c∉x.2.1)
 |[],cs,ks,hst,k,hk,r,M,log,t,h=>by simp only[stripOps,Kn]at hst;subst hst;have hlen:ops.toList.length<=k:=Bw.1 hk.symm;have hle:ops.size<=k:=(by simpa using hlen);exact⟨λ_=>(r,M),λ_=>[],λ_=>[],⟨λj h1 h2=>by omega,λi j h1 h2 h3=>by omega⟩,rfl,h,λx _ j h1 h2=>by omega⟩
 |o::os,cs,ks,hst,k,hk,r,M,log,t,h=>by
  simp only[stripOps]at hst;split at hst
  ·rename_i g cs' hg hcs;injection hst with hst;subst hst;have hlt:k<ops.size:=(by have:(ops.toList.drop k).length=os.length+1:=(by rw[<-hk];rfl);simp at this;omega);have hok:ops[k]? =some o:=(by have:(ops.toList.drop k)[0]? =some o:=(by rw[<-hk];rfl);simpa using this);have hos:os=ops.toList.drop (k+1):=(by have:(ops.toList.drop k).tail=os:=(by rw[<-hk];rfl);rw[<-this];simp);have hhead:(bef.drop k).headD 0=bef.getD k 0:=(by simp[List.headD_eq_head?_getD,List.head?_drop]);have htail:(bef.drop k).tail=bef.drop (k+1):=(by simp);obtain⟨hdst,h⟩:=h;rw[ZQ hg]at h;have fin:∀(r':QB) (S':QA) (rs ws:List Nat),Yh P N mm ops o (r,M) (r',S') rs ws->Qx (bef.getD k 0) rs ws log=true->drawCW P N cs' (k+1) (bef.drop (k+1)) ((k,rs,ws)::log) r' S' K t->
     ∃S RH WH,Ud P N mm ops bef k ops.size S RH WH/\S k=(r,M)/\K (S (max k ops.size)).1 (S (max k ops.size)).2/\
      (∀x∈log,∀j,k<=j->j<ops.size->(bef.getD j 0).testBit x.1=false->(∀c∈x.2.2,c∉RH j/\c∉WH j)/\∀c∈WH j,c∉x.2.1):=λr' S' rs ws hf hfree hd=>by
    obtain⟨S,RH,WH,hF,hS,hK,hlog⟩:=drawC_factsW os cs' _ hcs (k+1) hos hd;refine⟨λj=>if j=k then (r,M) else S j,λj=>if j=k then rs else RH j,λj=>if j=k then ws else WH j,⟨λj h1 h2=> ?_,λi j h1 h2 h3 h4=> ?_⟩,by simp,?_,λx hx j h1 h2 h3=> ?_⟩
    ·by_cases e:j=k
     ·subst e;refine⟨o,hok,?_⟩;simp only[Aq,show¬j+1=j by omega,Al,hS];exact hf
     ·obtain⟨o',h3,h4⟩:=hF.fact j (by omega) h2;refine⟨o',h3,?_⟩;simp only[e,show¬j+1=k by omega,Al];exact h4
    ·have e2:¬j=k:=(by omega);by_cases e:i=k
     ·subst e;simp only[Aq,e2,Al];exact hlog (i,rs,ws) (by simp) j (by omega) h3 h4
     ·simp only[e,e2,Al];exact hF.order i j (by omega) h2 h3 h4
    ·have e1:max k ops.size=max (k+1) ops.size:=(by omega);have e2:¬max (k+1) ops.size=k:=(by omega);simp only[e1,e2,Al];exact hK
    ·by_cases e:j=k
     ·subst e;simp only[Aq];exact KD hfree x hx h3
     ·simp only[e,Al];exact hlog x (by simp[hx]) j (by omega) h2 h3
   unfold onGuard at h;split at h
   ·rename_i b hb
    cases b with
    |true=>simp only[Aq]at h;obtain⟨res,S',rs,ws,hf,hfree,hd⟩:=fact_stepW hdst hb h;rw[hhead]at hfree;rw[htail]at hd;exact fin _ _ rs ws hf hfree hd
    |false=>
     simp only[Ab,Al]at h;rw[htail]at h;refine fin _ _ [] [] ⟨hdst,false,hb,λc _=>agC.refl M c,λe=>absurd e (by simp),λ_=>⟨rfl,rfl,rfl⟩⟩ ?_ h;have:∀l:JB,Qx (bef.getD k 0) [] [] l=true:=λl=>by
      induction l with
      |nil=>rfl
      |cons x l ih=>
       obtain⟨i,rs',ws'⟩:=x;have hdn:∀l,XK l []=true:=λl=>by
        induction l with
        |nil=>rfl
        |cons y l ih=>simp[XK,memN,ih]
       simp only[Qx,hdn,ih,XK,AH,CG]
     exact this log
   ·exact h.elim
  ·cases hst
def cw_op{os:List COp}{j:Nat}{bef:List Nat}{log:JB}{r:QB}{M:QA}{K:QB->QA->Prop}{t:Tag K}{d:Option Tmp}{op:Op}{k:List Tmp}{res:Option AV}{S':QA}{rs ws:List Nat}
  (hs:stepDW P r M op=λK t=>onDraw (opD P r M op) K t) (e:opD P r M op=some (res,S',rs,ws)) (hd:X3 N d=true) (hf:Qx (bef.headD 0) rs ws log=true)
  (hk:drawCW P N os (j+1) bef.tail ((j,rs,ws)::log) (r.JM d res) S' K t):drawCW P N (⟨d,op,none,k⟩::os) j bef log r M K t:=by
 refine⟨hd,?_⟩;show onGuard (some true) _ _ _ _;rw[YP,hs];show onDraw _ _ _;rw[e];exact⟨hf,hk⟩
def cw_call{os:List COp}{j:Nat}{bef:List Nat}{log:JB}{r:QB}{M:QA}{K:QB->QA->Prop}{t:Tag K}{d:Option Tmp}{f:Operand}{args:Array Operand}{ts:Array TypeId}{k:List Tmp}{x:FuncId×List AV}{v:AV}{S':QA}{ws:List Nat}
  (hc:callE r f args.toList=some x) (h:Jw P x.1 x.2 M λv' τ=>v'=v/\τ=S') (hl:∀c,c∉ws->agC S' M c) (hd:X3 N d=true) (hf:Qx (bef.headD 0) (List.range (M.length+1)) ws log=true)
  (hk:drawCW P N os (j+1) bef.tail ((j,List.range (M.length+1),ws)::log) (r.JM d (some v)) S' K t):drawCW P N (⟨d,.call { callee:=.value f,args:=args,argTypes:=ts },none,k⟩::os) j bef log r M K t:=by
 refine⟨hd,?_⟩;show onGuard (some true) _ _ _ _;rw[YP];show onOpt _ _ ⟨⟩;rw[hc];exact .inr ⟨v,S',ws,h,hl,hf,hk⟩
def draw_okW(hm:P.follows .mixedOrders=true){cs:List COp}{bef:List Nat}{r:QB}{M:QA}{Q:Exit->QB->QA->Prop}{t:Tag Q}{t':Tag (Q .normal)}(h:drawCW P N cs 0 bef [] r M (Q .normal) t'):DrawQ P N ro cs bef r M Q t:=by
 intro id ops ks hs hb hd O w a hh hr;subst hb;obtain⟨S,RH,WH,hF,hS,hK,_⟩:=drawC_factsW (mm:=M.length) ops.toList cs ks hs 0 (by simp) (log:=[]) (r:=r) (M:=M) (t:=t') (bef:=(Region.before ops).toList) (by simpa using h);have hr0:=Step.refl O M w;have hst:Step O M w O M { w with drawn:=w.drawn+1 }:=⟨hr0.len,A5 _,rfl,rfl,hr0.keep,hr0.none,hr0.new,rfl,rfl,λ_ _=>rfl,hr0.frame⟩;have hh':HR O M { w with drawn:=w.drawn+1 }:=(hh.other (w':={ w with drawn:=w.drawn+1 }) λ_ _=>rfl).1;refine wpIn_region_any hm ?_;refine draw_go (M:=M) hd hF (by simpa using hK) hh (A5 _) ops.size (List.range ops.size) _ r M O { w with drawn:=w.drawn+1 } a (by simp) List.nodup_range (λi=> ?_) (by simp) ?_ ?_ hh' (hr.step hh hst) hst rfl
 ·simp only[Bg,Ay];constructor
  ·intro hi;exact⟨hi,by simp[hi]⟩
  ·exact λh=>h.1
 ·intro l;refine .inr ⟨λj hj=> ?_,by rw[hS];exact agree.refl _ _⟩;unfold LD at hj;rw[Ay]at hj;by_cases hi:j<ops.size<;>simp[hi]at hj
 ·intro k i hk;unfold LD at hk;rw[Ay]at hk;by_cases hi:k<ops.size<;>simp[hi]at hk
end Go.Abs
namespace Go.Proofs.YtpbplpgfloaaiaaGreatDoor
open Go.Abs
open Go.IntKind(i64)
open Sum(inl inr)
open Go.Proofs.Tryz(prog)
def C105h:CC:=(.drw [⟨(some 6),.move (.tmp 0),none,[]⟩,⟨(some 7),.nilCheck (.tmp 6),none,[6]⟩,⟨(some 8),.fieldAddr 219 (.tmp 7) 1,none,[7]⟩,⟨(some 9),.load 32 (.tmp 8),none,[8]⟩,⟨(some 10),.move (.tmp 0),none,[]⟩,⟨(some 11),.move (.tmp 1),none,[1]⟩,⟨(some 12),.call ⟨.value (.func 61),#[(.tmp 10),(.tmp 11)],#[104,3]⟩,none,[10,11]⟩,⟨(some 13),.move (.tmp 0),none,[0]⟩,⟨(some 14),.move (.tmp 2),none,[2]⟩,⟨(some 15),.call ⟨.value (.func 61),#[(.tmp 13),(.tmp 14)],#[104,3]⟩,none,[13,14]⟩,⟨(some 16),.indexAddr 32 (.tmp 9) (.tmp 12),none,[9,12]⟩,⟨none,.store 3 (.tmp 16) (.tmp 15),none,[15,16]⟩] [0,1,3,7,0,0,48,0,0,496,1023,2047])
def s105h:QD prog 105 17 [] C105h:=⟨Tryz.f105,_,[[[],[6],[7],[8],[],[1],[10,11],[0],[2],[13,14],[9,12],[15,16]]],[],Tryz.func105,rfl,by kernel_rfl,rfl,rfl,by kernel_rfl,rfl⟩
namespace M105
structure gX where(a b:Int)(J5 Qt QS Qe Qw:Nat)(fs ps:List (Int))
def g:Sg gX:=⟨[cP,cI,cI],[.st [.sl 1 0 1,.slc 2 0 1] 1 0,oI,oI],λa b=>⟨a.2.1,a.2.2.1,b.1.1.1,b.1.1.2,b.1.2.1.1,b.1.2.1.2.1,b.1.2.1.2.2,b.2.1,b.2.2.1⟩,λx=>((),(x.a,(x.b,()))),λx=>(((x.J5,x.Qt),((x.QS,x.Qe,x.Qw),())),(x.fs,(x.ps,())))⟩
abbrev fY:=Nat×Nat×Nat×Nat×Nat×List (Int)×List (Int)
def f:Ft fY:=⟨none,.tup [],[.st [.sl 1 0 1,.slc 2 0 1] 1 0,oI,oI],λa b=>(b.1.1.1,b.1.1.2,b.1.2.1.1,b.1.2.1.2.1,b.1.2.1.2.2,b.2.1,b.2.2.1),λy=>(),λy=>(((y.1,y.2.1),((y.2.2.1,y.2.2.2.1,y.2.2.2.2.1),())),(y.2.2.2.2.2.1,(y.2.2.2.2.2.2,())))⟩
def m(x:gX):Option fY:=bindO (M61.m ⟨x.a,x.J5,x.Qt,x.QS,x.Qe,x.Qw,x.fs,x.ps⟩) λy=>bindO (M61.m ⟨x.b,y.2.1,y.2.2.1,y.2.2.2.1,y.2.2.2.2.1,y.2.2.2.2.2.1,y.2.2.2.2.2.2.1,y.2.2.2.2.2.2.2⟩) λz=>bif inR y.1 x.Qe then bif decide (x.QS+y.1.toNat<z.2.2.2.2.2.2.2.length) then some (z.2.1,z.2.2.1,z.2.2.2.1,z.2.2.2.2.1,z.2.2.2.2.2.1,z.2.2.2.2.2.2.1,z.2.2.2.2.2.2.2.set (x.QS+y.1.toNat) z.1) else none else none
def condT{α:Type}{b:Bool}{p:Option α}{y:α}(h:(bif b then p else none)=some y):p=some y:=by
 cases b
 ·cases h
 ·exact h
def keep61{x:M61.gX}{y:M61.fY}(h:M61.m x=some y):y.2.1=x.J5/\y.2.2.1=x.Qt/\y.2.2.2.1=x.QS/\y.2.2.2.2.1=x.Qe/\y.2.2.2.2.2.1=x.Qw/\y.2.2.2.2.2.2.1=x.fs:=by
 unfold M61.m at h;obtain⟨q,h1,h2⟩:=Qf h;obtain rfl:=BA h2;refine Xe (step:=M61.s0) (λz=>z.J5=x.J5/\z.Qt=x.Qt/\z.QS=x.QS/\z.Qe=x.Qe/\z.Qw=x.Qw/\z.fs=x.fs) (λq:M61.q0X=>q.J5=x.J5/\q.Qt=x.Qt/\q.QS=x.QS/\q.Qe=x.Qe/\q.Qw=x.Qw/\q.fs=x.fs) (λz r hz hr=> ?_) ⟨rfl,rfl,rfl,rfl,rfl,rfl⟩ h1;unfold M61.s0 at hr;have hr:=condT (condT hr);rcases cond_some hr with ⟨_,hr⟩|⟨_,hr⟩
 ·have hr:=BA (condT (condT (condT (condT (condT (condT (condT (condT hr))))))));subst hr;exact hz
 ·have hr:=BA hr;subst hr;exact hz
def ag61{x:M61.gX}{y:M61.fY}(h:M61.m x=some y)(c:Nat)(hc:c∉[3]):agC (SH.den (M61.f.H y)) (SH.den (M61.g.H x)) c:=by
 obtain⟨h1,h2,h3,h4,h5,h6⟩:=keep61 h;obtain⟨y0,y1,y2,y3,y4,y5,y6,y7⟩:=y;obtain⟨i,a0,a1,b0,b1,b2,fs,ps⟩:=x;have h1:y1=a0:=h1;have h2:y2=a1:=h2;have h3:y3=b0:=h3;have h4:y4=b1:=h4;have h5:y5=b2:=h5;have h6:y6=fs:=h6;subst h1;subst h2;subst h3;subst h4;subst h5;subst h6
 match c,hc with
 |0,_=>rfl
 |1,_=>rfl
 |2,_=>rfl
 |3,hc=>exact absurd (B4 ..) hc
 |c+4,_=>rfl
def put_int(ps:List Int)(k:Nat)(v:Int)(hk:k<ps.length):Qo ((ps.flatMap (Ly.trees (.int .i64))).map Cell.t) k [.t (.int .i64 v)]=((ps.set k v).flatMap (Ly.trees (.int .i64))).map Cell.t:=by
 have e:∀l:List Int,(l.flatMap (Ly.trees (.int .i64))).map Cell.t=l.map λn=>Cell.t (.int .i64 n):=λl=>by
  induction l with
  |nil=>rfl
  |cons a l ih=>rw[Ac,AS,ih];rfl
 rw[e,e,List.map_set,List.set_eq_take_append_cons_drop,AC (by simpa using hk)];unfold Qo;simp
def len_int(ps:List Int):((ps.flatMap (Ly.trees (.int .i64))).map Cell.t).length=ps.length:=by
 induction ps with
 |nil=>rfl
 |cons a l ih=>rw[Ac,AS,AG,ih,As];simp[Ly.trees];omega
abbrev hp(a0 a1 b0 b1 b2:Nat)(fs ps:List Int):QA:=SH.den [.st [.sl 1 0 1 a0 a1 none,.sl 2 0 1 b0 b1 (some b2)] 1 0,.arr (.int .i64) fs 0,.arr (.int .i64) ps 0]
def ix_ok(R:QB)(M:QA)(i:Int)(b0 b1 b2:Nat)(hx:ev R (.tmp 9)=some (.c (.sl ⟨2,0,b0⟩ b1 (some b2))))(hy:ev R (.tmp 12)=some (.c (.t (.int .i64 i))))(hi:inR i b1=true):
  opD prog R M (.indexAddr 32 (.tmp 9) (.tmp 12))=some (some (.c (.ptr ⟨2,0,b0+i.toNat*1⟩)),M,[],[]):=by
 have hi':0<=i/\i<b1:=by simpa [inR] using hi
 rw[od_indexAddr,op_indexAddr,hx,hy];simp only[XW,Tryz.ti32,Tryz.ti3,intOfAV,hi',and_self,Aq,AI]
def st_ok(R:QB)(k:Nat)(v:Int)(a0 a1 b0 b1 b2:Nat)(fs ps:List Int)(hx:ev R (.tmp 16)=some (.c (.ptr ⟨2,0,k⟩)))(hy:ev R (.tmp 15)=some (.c (.t (.int .i64 v))))(hk:k<ps.length):
  opD prog R (hp a0 a1 b0 b1 b2 fs ps) (.store 3 (.tmp 16) (.tmp 15))=some (none,hp a0 a1 b0 b1 b2 fs (ps.set k v),[3],[3]):=by
 have h0:(hp a0 a1 b0 b1 b2 fs ps).at? ⟨2,0,k⟩=some (SO.den (.arr (.int .i64) ps 0)):=rfl;have hl:=len_int ps;rw[od_store,op_store,hx,hy,Tryz.ti3];simp only[XE,h0];rw[AC ⟨rfl,rfl,by show k+1<=(List.map Cell.t _).length;rw[hl];exact hk⟩];show some (none,List.set (hp a0 a1 b0 b1 b2 fs ps) 2 { (SO.den (.arr (.int .i64) ps 0)) with cs:=Qo ((ps.flatMap (Ly.trees (.int .i64))).map Cell.t) k [.t (.int .i64 v)] },[3],[3])=_;rw[put_int ps k v hk];rfl
def free0(b:Nat):∀l:JB,Qx b [] [] l=true
 |[]=>rfl
 |(i,rs',ws')::l=>by
  have hdn:∀l,XK l []=true:=λl=>by
   induction l with
   |nil=>rfl
   |cons y l ih=>simp[XK,memN,ih]
  simp only[Qx,hdn,free0 b l,XK,AH,CG]
def known:QQ prog 105 g f m:=by
 refine⟨λ_ _=>⟨rfl,rfl⟩,by decide,λx y h=> ?_⟩;refine fnq s105h (by show [_,_,_].length<=_;exact BQ rfl) ?_;show DrawQ _ _ _ _ _ _ _ _ _;refine draw_okW mixed (t':=⟨⟩) ?_;unfold m at h;obtain⟨y1,h1,h⟩:=Qf h;obtain⟨y2,h2,h⟩:=Qf h;have f1:=M61.known.ok _ _ h1;have f2:=M61.known.ok _ _ h2;have a1:=ag61 h1;have a2:=ag61 h2;have k1:=keep61 h1;have k2:=keep61 h2;obtain⟨xa,xb,a0,a1',b0,b1,b2,fs,ps⟩:=x;obtain⟨r1,c10,c11,c12,c13,c14,fs1,ps1⟩:=y1;obtain⟨r2,c20,c21,c22,c23,c24,fs2,ps2⟩:=y2;obtain⟨k11,k12,k13,k14,k15,k16⟩:=k1;obtain⟨k21,k22,k23,k24,k25,k26⟩:=k2;simp only at k11 k12 k13 k14 k15 k16 k21 k22 k23 k24 k25 k26;subst k11;subst k12;subst k13;subst k14;subst k15;subst k16;subst k21;subst k22;subst k23;subst k24;subst k25;subst k26;have hb1:=condT h;rcases cond_some h with ⟨hb,h⟩|⟨_,h⟩
 rotate_left
 ·cases h
 rcases cond_some h with ⟨hk,h⟩|⟨_,h⟩
 rotate_left
 ·cases h
 obtain rfl:=BA h;simp only at hb hk;clear h hb1 h1 h2;have hk:=AO hk;have e1:(M61.g.H ⟨xa,c20,c21,c22,c23,c24,fs2,ps⟩).den=hp c20 c21 c22 c23 c24 fs2 ps:=rfl;have e2:(M61.f.H (r1,c20,c21,c22,c23,c24,fs2,ps1)).den=hp c20 c21 c22 c23 c24 fs2 ps1:=rfl;have e3:(M61.g.H ⟨xb,c20,c21,c22,c23,c24,fs2,ps1⟩).den=hp c20 c21 c22 c23 c24 fs2 ps1:=rfl;have e4:(M61.f.H (r2,c20,c21,c22,c23,c24,fs2,ps2)).den=hp c20 c21 c22 c23 c24 fs2 ps2:=rfl;rw[e1,e2]at f1 a1;rw[e3,e4]at f2 a2;show drawCW prog 17 _ 0 _ [] (JV [.c (.ptr ⟨0,0,0⟩),.c (.t (.int .i64 xa)),.c (.t (.int .i64 xb))]) (hp c20 c21 c22 c23 c24 fs2 ps) _ _;refine cw_op (res:=some (.c (.ptr ⟨0,0,0⟩))) (S':=hp c20 c21 c22 c23 c24 fs2 ps) (rs:=[]) (ws:=[]) rfl rfl rfl (free0 _ _) ?_;refine cw_op (res:=some (.c (.ptr ⟨0,0,0⟩))) (S':=hp c20 c21 c22 c23 c24 fs2 ps) (rs:=[]) (ws:=[]) rfl rfl rfl (free0 _ _) ?_;refine cw_op (res:=some (.c (.ptr ⟨0,0,1⟩))) (S':=hp c20 c21 c22 c23 c24 fs2 ps) (rs:=[]) (ws:=[]) rfl (by kernel_rfl) rfl (free0 _ _) ?_;refine cw_op (res:=some (.c (.sl ⟨2,0,c22*1⟩ c23 (some c24)))) (S':=hp c20 c21 c22 c23 c24 fs2 ps) (rs:=[1]) (ws:=[]) rfl (by kernel_rfl) rfl (by kernel_rfl) ?_;refine cw_op (res:=some (.c (.ptr ⟨0,0,0⟩))) (S':=hp c20 c21 c22 c23 c24 fs2 ps) (rs:=[]) (ws:=[]) rfl rfl rfl (free0 _ _) ?_;refine cw_op (res:=some (.c (.t (.int .i64 xa)))) (S':=hp c20 c21 c22 c23 c24 fs2 ps) (rs:=[]) (ws:=[]) rfl rfl rfl (free0 _ _) ?_;refine cw_call (x:=(61,[.c (.ptr ⟨0,0,0⟩),.c (.t (.int .i64 xa))])) (v:=.c (.t (.int .i64 r1))) (ws:=[3]) (by kernel_rfl) f1 a1 rfl (by kernel_rfl) ?_;refine cw_op (res:=some (.c (.ptr ⟨0,0,0⟩))) (S':=hp c20 c21 c22 c23 c24 fs2 ps1) (rs:=[]) (ws:=[]) rfl rfl rfl (free0 _ _) ?_;refine cw_op (res:=some (.c (.t (.int .i64 xb)))) (S':=hp c20 c21 c22 c23 c24 fs2 ps1) (rs:=[]) (ws:=[]) rfl rfl rfl (free0 _ _) ?_;refine cw_call (x:=(61,[.c (.ptr ⟨0,0,0⟩),.c (.t (.int .i64 xb))])) (v:=.c (.t (.int .i64 r2))) (ws:=[3]) (by kernel_rfl) f2 a2 rfl (by kernel_rfl) ?_;refine cw_op (res:=some (.c (.ptr ⟨2,0,c22*1+r1.toNat*1⟩))) (S':=hp c20 c21 c22 c23 c24 fs2 ps2) (rs:=[]) (ws:=[]) rfl (ix_ok _ _ r1 (c22*1) c23 c24 rfl rfl hb) rfl (free0 _ _) ?_;refine cw_op (res:=none) (S':=hp c20 c21 c22 c23 c24 fs2 (ps2.set (c22*1+r1.toNat*1) r2)) (rs:=[3]) (ws:=[3]) rfl (st_ok _ _ r2 _ _ _ _ _ _ _ rfl rfl (by omega)) rfl (by kernel_rfl) ?_;rw[Nat.mul_one,Nat.mul_one];exact⟨rfl,rfl⟩
def con:Con:=Y2 g [.arg 0 0,.cell 0 0,.cell 0 1] f m default
def con_ok:J4 prog 105 con:=JY known
end M105
namespace M53
structure gX where(l:TI)(n most:Int)
def g:Sg gX:=⟨[cU,cI,cB],[],λa b=>⟨a.1,a.2.1,a.2.2.1⟩,λx=>(x.l,(x.n,(x.most,()))),λx=>()⟩
abbrev fY:=TI
def f:Ft fY:=⟨none,cU,[],λa b=>(a),λy=>y,λy=>()⟩
structure p0X where(l:TI)(n most:Int)(QC Q8:Nat)(i:Int)(xs:TI)
def p0:Pt p0X:=⟨[.reg 7 (.int .u8)],⟨[(0,cU),(1,cI),(2,cB),(7,.c (.sl 0 0 1)),(8,cI)],[oB]⟩,λ((a,b,c,(d,e),f,_),g,_)=>⟨a,b,c,d,e,f,g⟩,λx=>((x.l,(x.n,(x.most,((x.QC,x.Q8),(x.i,()))))),(x.xs,()))⟩
structure q0X where(QC Q8:Nat)(xs:TI)
def q0:Pt q0X:=⟨[],⟨[(7,.c (.sl 0 0 1))],[oB]⟩,λ(((a,b),_),c,_)=>⟨a,b,c⟩,λx=>(((x.QC,x.Q8),()),(x.xs,()))⟩
def s0(x:p0X):Option (p0X⊕q0X):=bif decide (x.i<x.n) then bif (x.l.length:Int)==0 then bif eqN x.QC 0&&eqN x.xs.length x.Q8&&J1 (x.Q8+1) 1 then some (inl ⟨x.l,x.n,x.most,0,x.Q8+1,i64.wrap (x.i+1),x.xs++[2]⟩) else none else bif nz (x.l.length:Int) then bif inR (x.i.tmod (x.l.length:Int)) x.l.length then bif nz x.most then bif eqN x.QC 0&&eqN x.xs.length x.Q8&&J1 (x.Q8+1) 1 then some (inl ⟨x.l,x.n,x.most,0,x.Q8+1,i64.wrap (x.i+1),x.xs++[Int.tmod (x.l[(x.i.tmod (x.l.length:Int)).toNat]?.getD 0) x.most]⟩) else none else none else none else none else some (inr ⟨x.QC,x.Q8,x.xs⟩)
def l0:QT:=Qa 0 p0 (.exit 0) q0 s0
def l0_ok  :QO prog 33 none 0 (C53.QR 0) l0:=lc [] 1 (λ_=>none) QX.nil
def m(x:gX):Option fY:=bindO (iter s0 ⟨x.l,x.n,x.most,0,0,0,[]⟩) λy=>bif leB (y.QC+y.Q8) y.xs.length&&true&&true then some (List.take y.Q8 (List.drop y.QC y.xs)) else none
def known:QQ prog 53 g f m:=
 kc [] s53 (J2 [(0,l0)]) (ac 0 l0_ok QX.nil)
end M53
namespace M54
structure gX where(Q0:TN)(Q1:TS)(Q4:TM)(Q3:TI)(kind:Int)
def g:Sg gX:=⟨[.agg cir4,cB],[],λa b=>⟨a.1.1,a.1.2.1,a.1.2.2.1,a.1.2.2.2.1,a.2.1⟩,λx=>((x.Q0,(x.Q1,(x.Q4,(x.Q3,())))),(x.kind,())),λx=>()⟩
abbrev fY:=Int
def f:Ft fY:=⟨none,cI,[],λa b=>(a),λy=>y,λy=>()⟩
structure p0X where(kind n i:Int)(Q0:TN)(Q1:TS)(Q4:TM)(Q3:TI)
def p0:Pt p0X:=⟨[],⟨[(1,cB),(2,cP),(5,cI),(6,cI)],[oC]⟩,λ((a,_,b,c,_),(d,e,f,g,_),_)=>⟨a,b,c,d,e,f,g⟩,λx=>((x.kind,((),(x.n,(x.i,())))),((x.Q0,(x.Q1,(x.Q4,(x.Q3,())))),()))⟩
structure q0X where(n:Int)
def q0:Pt q0X:=⟨[],⟨[(5,cI)],[]⟩,λv=>⟨v.1.1⟩,λx=>((x.n,()),())⟩
def s0(x:p0X):Option (p0X⊕q0X):=bif decide (x.i<(x.Q0.length:Int)) then bif inR x.i x.Q0.length then some (inl ⟨x.kind,bif (x.Q0[x.i.toNat]?.getD (0,[],0,0)).1==x.kind then i64.wrap (x.n+1) else x.n,i64.wrap (x.i+1),x.Q0,x.Q1,x.Q4,x.Q3⟩) else none else some (inr ⟨x.n⟩)
def l0:QT:=Qa 0 p0 (.exit 0) q0 s0
def l0_ok  :QO prog 25 none 0 (C54.QR 0) l0:=lc [] 1 (λ_=>none) QX.nil
def m(x:gX):Option fY:=bindO (iter s0 ⟨x.kind,0,0,x.Q0,x.Q1,x.Q4,x.Q3⟩) λy=>some y.n
def known:QQ prog 54 g f m:=
 kc [] s54 (J2 [(0,l0)]) (ac 0 l0_ok QX.nil)
end M54
namespace M23
structure gX where(pin pst:TI)(Q0:TN)(Q1:TS)(Q4:TM)(Q3:TI)
def g:Sg gX:=⟨[.agg [aB,aB],.agg cir4],[],λa b=>⟨a.1.1,a.1.2.1,a.2.1.1,a.2.1.2.1,a.2.1.2.2.1,a.2.1.2.2.2.1⟩,λx=>((x.pin,(x.pst,())),((x.Q0,(x.Q1,(x.Q4,(x.Q3,())))),())),λx=>()⟩
abbrev fY:=TI×TI
def f:Ft fY:=⟨none,.agg [aB,aB],[],λa b=>(a.1,a.2.1),λy=>(y.1,(y.2,())),λy=>()⟩
def m(x:gX):Option fY:=bindO (M54.m ⟨x.Q0,x.Q1,x.Q4,x.Q3,0⟩) λy=>bindO (M53.m ⟨x.pin,y,4⟩) λy=>bindO (M54.m ⟨x.Q0,x.Q1,x.Q4,x.Q3,14⟩) λy_1=>bindO (M53.m ⟨x.pst,y_1,3⟩) λy_2=>some (y,y_2)
def known:QQ prog 23 g f m:=
 kc0 [ck M53.known,ck M54.known] s23
end M23
namespace M6
structure gX where(Q0:TN)(Q1:TS)(Q4:TM)(Q3:TI)(z:List (TI×TI))
def g:Sg gX:=⟨[.agg cir4,.c (.arr (.pair (.sl lB) (.sl lB)))],[],λa b=>⟨a.1.1,a.1.2.1,a.1.2.2.1,a.1.2.2.2.1,a.2.1⟩,λx=>((x.Q0,(x.Q1,(x.Q4,(x.Q3,())))),(x.z,())),λx=>()⟩
abbrev fY:=(List (TI×TI))
def f:Ft fY:=⟨none,.c (.arr (.pair (.sl lB) (.sl lB))),[],λa b=>(a),λy=>y,λy=>()⟩
def cl:List CK:=[ck M23.known]
structure p0X where(z:List (TI×TI))(QC Q8:Nat)(i:Int)(Q0:TN)(Q1:TS)(Q4:TM)(Q3:TI)(xs:List (TI×TI))
def p0:Pt p0X:=⟨[.reg 5 (.pair (.sl (.int .u8)) (.sl (.int .u8)))],⟨[(1,.c (.arr (.pair (.sl lB) (.sl lB)))),(2,cP),(5,.c (.sl 1 0 2)),(6,cI)],[oC,.arr (.pair (.sl lB) (.sl lB)) 0]⟩,λ((a,_,(b,c),d,_),(e,f,g,h,_),i,_)=>⟨a,b,c,d,e,f,g,h,i⟩,λx=>((x.z,((),((x.QC,x.Q8),(x.i,())))),((x.Q0,(x.Q1,(x.Q4,(x.Q3,())))),(x.xs,())))⟩
structure q0X where(QC Q8:Nat)(xs:List (TI×TI))
def q0:Pt q0X:=⟨[],⟨[(5,.c (.sl 1 0 2))],[.st [jk,jk,jk,jk] 1 0,.arr (.pair (.sl lB) (.sl lB)) 0]⟩,λ(((a,b),_),_,c,_)=>⟨a,b,c⟩,λx=>(((x.QC,x.Q8),()),(((),((),((),((),())))),(x.xs,())))⟩
def s0(x:p0X):Option (p0X⊕q0X):=bif bif decide (x.i<(x.z.length:Int)) then decide (x.i<20) else false then bif inR x.i x.z.length then bindO (M23.m ⟨(x.z[x.i.toNat]?.getD ([],[])).1,(x.z[x.i.toNat]?.getD ([],[])).2,x.Q0,x.Q1,x.Q4,x.Q3⟩) λy=>bif eqN x.QC 0&&eqN x.xs.length x.Q8&&J1 (x.Q8+1) 48 then some (inl ⟨x.z,0,x.Q8+1,i64.wrap (x.i+1),x.Q0,x.Q1,x.Q4,x.Q3,x.xs++[(y.1,y.2)]⟩) else none else none else some (inr ⟨x.QC,x.Q8,x.xs⟩)
def l0:QT:=Qa 0 p0 (.exit 0) q0 s0
def l0_ok  :QO prog 27 none 0 (C6.QR 0) l0:=lc cl 1 (λ_=>none) QX.nil
def m(x:gX):Option fY:=bindO (iter s0 ⟨x.z,0,0,0,x.Q0,x.Q1,x.Q4,x.Q3,[]⟩) λy=>bif leB (y.QC+y.Q8) y.xs.length&&true&&true then some (List.take y.Q8 (List.drop y.QC y.xs)) else none
def known:QQ prog 6 g f m:=
 kc cl s6 (J2 [(0,l0)]) (ac 0 l0_ok QX.nil)
end M6
namespace M51
structure gX where(xin dffs d0 d1:Int)(bus mem:Bool)(w0 w1 w2 w3:Int)(Ql:List ((Int)×(Int)×(Int)×Int))(Qn:TI)(gk g0 g1 g2:Int)(Xj JI:Nat)(nd:TN)
def g:Sg gX:=⟨[.agg [iB,iB,iB,iB,.bo,.bo,iB,iB,iB,iB,.arr (.pair lB (.pair lB (.pair lB lB))),aB],.agg [iB,iB,iB,iB],.c (.sl 0 0 4)],[.arr lN 0],λa b=>⟨a.1.1,a.1.2.1,a.1.2.2.1,a.1.2.2.2.1,a.1.2.2.2.2.1,a.1.2.2.2.2.2.1,a.1.2.2.2.2.2.2.1,a.1.2.2.2.2.2.2.2.1,a.1.2.2.2.2.2.2.2.2.1,a.1.2.2.2.2.2.2.2.2.2.1,a.1.2.2.2.2.2.2.2.2.2.2.1,a.1.2.2.2.2.2.2.2.2.2.2.2.1,a.2.1.1,a.2.1.2.1,a.2.1.2.2.1,a.2.1.2.2.2.1,a.2.2.1.1,a.2.2.1.2,b.1⟩,λx=>((x.xin,(x.dffs,(x.d0,(x.d1,(x.bus,(x.mem,(x.w0,(x.w1,(x.w2,(x.w3,(x.Ql,(x.Qn,())))))))))))),((x.gk,(x.g0,(x.g1,(x.g2,())))),((x.Xj,x.JI),()))),λx=>(x.nd,())⟩
abbrev fY:=Int×TI×Int×Int×TN
def f:Ft fY:=⟨none,.agg [iB,aI,iI,iI],[.arr lN 0],λa b=>(a.1,a.2.1,a.2.2.1,a.2.2.2.1,b.1),λy=>(y.1,(y.2.1,(y.2.2.1,(y.2.2.2.1,())))),λy=>(y.2.2.2.2,())⟩
structure p0X where(Xj JI:Nat)(n a bb d:Int)(K1 Z5:Nat)(i:Int)(nd:TN)(xin dffs d0 d1:Int)(bus mem:Bool)(w0 w1 w2 w3:Int)(Ql:List ((Int)×(Int)×(Int)×Int))(Qn:TI)(gk g0 g1 g2:Int)(tr:TI)
def p0:Pt p0X:=⟨[.reg 11 (.int .i64)],⟨[(2,.c (.sl 0 0 4)),(3,.c (.ptr 1 0)),(4,.c (.ptr 2 0)),(6,.c (.ptr 3 0)),(7,cI),(8,cI),(9,cI),(10,cI),(11,.c (.sl 4 0 1)),(12,cI)],[.arr lN 0,.st [iB,iB,iB,iB,.bo,.bo,iB,iB,iB,iB,.arr (.pair lB (.pair lB (.pair lB lB))),aB] 1 0,.st [iB,iB,iB,iB] 1 0,.st [jk,jk,jk,jk] 1 0,oI]⟩,λ(((a,b),_,_,_,c,d,e,f,(g,h),i,_),j,(k,l,m,n,o,p,q,r,s,t,u,w,_),(x,y,z,A,_),_,B,_)=>⟨a,b,c,d,e,f,g,h,i,j,k,l,m,n,o,p,q,r,s,t,u,w,x,y,z,A,B⟩,λx=>(((x.Xj,x.JI),((),((),((),(x.n,(x.a,(x.bb,(x.d,((x.K1,x.Z5),(x.i,())))))))))),(x.nd,((x.xin,(x.dffs,(x.d0,(x.d1,(x.bus,(x.mem,(x.w0,(x.w1,(x.w2,(x.w3,(x.Ql,(x.Qn,())))))))))))),((x.gk,(x.g0,(x.g1,(x.g2,())))),(((),((),((),((),())))),(x.tr,()))))))⟩
structure q0X where(a bb d:Int)(tris:TI)(nd:TN)(xin dffs d0 d1:Int)(bus mem:Bool)(w0 w1 w2 w3:Int)(Ql:List ((Int)×(Int)×(Int)×Int))(Qn:TI)(gk g0 g1 g2:Int)
def q0:Pt q0X:=⟨[],⟨[(3,.c (.ptr 1 0)),(4,.c (.ptr 2 0)),(6,.c (.ptr 3 0)),(8,cI),(9,cI),(10,cI),(11,cA)],[.arr lN 0,.st [iB,iB,iB,iB,.bo,.bo,iB,iB,iB,iB,.arr (.pair lB (.pair lB (.pair lB lB))),aB] 1 0,.st [iB,iB,iB,iB] 1 0,.st [jk,jk,jk,jk] 1 0]⟩,λ((_,_,_,a,b,c,d,_),e,(f,g,h,i,j,k,l,m,n,o,p,q,_),(r,s,t,u,_),_)=>⟨a,b,c,d,e,f,g,h,i,j,k,l,m,n,o,p,q,r,s,t,u⟩,λx=>(((),((),((),(x.a,(x.bb,(x.d,(x.tris,()))))))),(x.nd,((x.xin,(x.dffs,(x.d0,(x.d1,(x.bus,(x.mem,(x.w0,(x.w1,(x.w2,(x.w3,(x.Ql,(x.Qn,())))))))))))),((x.gk,(x.g0,(x.g1,(x.g2,())))),(((),((),((),((),())))),())))))⟩
def s0(x:p0X):Option (p0X⊕q0X):=bif decide (x.i<x.n) then bif inR x.i x.JI then bif decide (x.Xj+x.i.toNat<x.nd.length) then bif (x.nd[x.Xj+x.i.toNat]?.getD (0,[],0,0)).1==12 then bif eqN x.K1 0&&eqN x.tr.length x.Z5&&J1 (x.Z5+1) 8 then some (inl ⟨x.Xj,x.JI,x.n,x.a,x.bb,x.d,0,x.Z5+1,i64.wrap (x.i+1),x.nd,x.xin,x.dffs,x.d0,x.d1,x.bus,x.mem,x.w0,x.w1,x.w2,x.w3,x.Ql,x.Qn,x.gk,x.g0,x.g1,x.g2,x.tr++[x.i]⟩) else none else some (inl ⟨x.Xj,x.JI,x.n,x.a,x.bb,x.d,x.K1,x.Z5,i64.wrap (x.i+1),x.nd,x.xin,x.dffs,x.d0,x.d1,x.bus,x.mem,x.w0,x.w1,x.w2,x.w3,x.Ql,x.Qn,x.gk,x.g0,x.g1,x.g2,x.tr⟩) else none else none else bif leB (x.K1+x.Z5) x.tr.length&&true&&true then some (inr ⟨x.a,x.bb,x.d,List.take x.Z5 (List.drop x.K1 x.tr),x.nd,x.xin,x.dffs,x.d0,x.d1,x.bus,x.mem,x.w0,x.w1,x.w2,x.w3,x.Ql,x.Qn,x.gk,x.g0,x.g1,x.g2⟩) else none
def l0:QT:=Qa 1 p0 (.exit 0) q0 s0
def l0_ok  :QO prog 158 none 1 (C51.QR 0) l0:=lc [] 1 (λ_=>none) QX.nil
def m(x:gX):Option fY:=bif nz (x.JI:Int) then bif nz (x.JI:Int) then bif nz (x.JI:Int) then bindO (iter s0 ⟨x.Xj,x.JI,(x.JI:Int),(i64.wrap x.g0).tmod (x.JI:Int),(i64.wrap x.g1).tmod (x.JI:Int),(i64.wrap x.g2).tmod (x.JI:Int),0,0,0,x.nd,x.xin,x.dffs,x.d0,x.d1,x.bus,x.mem,x.w0,x.w1,x.w2,x.w3,x.Ql,x.Qn,x.gk,x.g0,x.g1,x.g2,[]⟩) λy=>bif decide ((bif y.bus then i64.wrap (y.gk.tmod 13) else i64.wrap (y.gk.tmod 9))<6) then bif decide (y.gk>=128) then bif leB 3 ([y.a,y.bb]++[y.d]).length&&true&&true&&true then some (IntKind.u8.wrap (5+IntKind.u8.wrap (bif y.bus then i64.wrap (y.gk.tmod 13) else i64.wrap (y.gk.tmod 9))),List.take 3 (List.drop 0 ([y.a,y.bb]++[y.d])),0,0,y.nd) else none else some (IntKind.u8.wrap (5+IntKind.u8.wrap (bif y.bus then i64.wrap (y.gk.tmod 13) else i64.wrap (y.gk.tmod 9))),[y.a,y.bb],0,0,y.nd) else bif (bif y.bus then i64.wrap (y.gk.tmod 13) else i64.wrap (y.gk.tmod 9))==6 then some (4,[y.a],0,0,y.nd) else bif (bif y.bus then i64.wrap (y.gk.tmod 13) else i64.wrap (y.gk.tmod 9))==7 then some (11,[y.a,y.bb,y.d],0,0,y.nd) else bif bif (bif y.bus then i64.wrap (y.gk.tmod 13) else i64.wrap (y.gk.tmod 9))==9 then true else (bif y.bus then i64.wrap (y.gk.tmod 13) else i64.wrap (y.gk.tmod 9))==10 then some (12,[y.a,y.bb],0,0,y.nd) else bif bif decide ((bif y.bus then i64.wrap (y.gk.tmod 13) else i64.wrap (y.gk.tmod 9))>10) then decide ((y.tris.length:Int)>0) else false then bif nz (y.tris.length:Int) then bif inR ((i64.wrap y.g0).tmod (y.tris.length:Int)) y.tris.length then bif decide ((y.tris.length:Int)>1) then bif nz (y.tris.length:Int) then bif inR ((i64.wrap ((i64.wrap y.g0).tmod (y.tris.length:Int)+1)).tmod (y.tris.length:Int)) y.tris.length then bif leB 2 ([y.tris[((i64.wrap y.g0).tmod (y.tris.length:Int)).toNat]?.getD 0]++[y.tris[((i64.wrap ((i64.wrap y.g0).tmod (y.tris.length:Int)+1)).tmod (y.tris.length:Int)).toNat]?.getD 0]).length&&true&&true&&true then some (13,List.take 2 (List.drop 0 ([y.tris[((i64.wrap y.g0).tmod (y.tris.length:Int)).toNat]?.getD 0]++[y.tris[((i64.wrap ((i64.wrap y.g0).tmod (y.tris.length:Int)+1)).tmod (y.tris.length:Int)).toNat]?.getD 0])),0,0,y.nd) else none else none else none else some (13,[y.tris[((i64.wrap y.g0).tmod (y.tris.length:Int)).toNat]?.getD 0],0,0,y.nd) else none else none else bif decide (y.gk>240) then some (IntKind.u8.wrap (1+y.g0.tmod 2),[],0,0,y.nd) else some (3,[y.a],0,0,y.nd) else none else none else none
def known:QQ prog 51 g f m:=
 kc [] s51 (J2 [(0,l0)]) (ac 0 l0_ok QX.nil)
def k0{z:p0X}{y:q0X}(h:iter s0 z=some y):y.nd=z.nd:=by
 refine Xe (λu=>u.nd=z.nd) (λr=>r.nd=z.nd) (λu r hu hr=> ?_) rfl h;unfold s0 at hr;rcases cond_some hr with ⟨_,hr⟩|⟨_,hr⟩
 ·rcases cond_some hr with ⟨_,hr⟩|⟨_,hr⟩
  ·rcases cond_some hr with ⟨_,hr⟩|⟨_,hr⟩
   ·rcases cond_some hr with ⟨_,hr⟩|⟨_,hr⟩
    ·rcases cond_some hr with ⟨_,hr⟩|⟨_,hr⟩
     ·cases hr;exact hu
     ·cases hr
    ·cases hr;exact hu
   ·cases hr
  ·cases hr
 ·rcases cond_some hr with ⟨_,hr⟩|⟨_,hr⟩
  ·cases hr;exact hu
  ·cases hr
def condK{α:Type}{Q:α->Prop}{b:Bool}{p q:Option α}(hp:∀r,p=some r->Q r)(hq:∀r,q=some r->Q r):∀r,(bif b then p else q)=some r->Q r:=by
 intro r h;cases b
 ·exact hq r h
 ·exact hp r h
def bindK{α β:Type}{Q:β->Prop}{o:Option α}{k:α->Option β}(h:∀y,o=some y->∀r,k y=some r->Q r):∀r,bindO o k=some r->Q r:=by intro r hr;obtain⟨y,h1,h2⟩:=Qf hr;exact h y h1 r h2
def hm{x:gX}:∀y,m x=some y->y.2.2.2.2=x.nd:=by
 unfold m;refine condK (condK (condK (bindK λy hy=> ?_) ?_) ?_) ?_
 ·have e:=k0 hy;have e:y.nd=x.nd:=e;rw[<-e]
  repeat' (first|(intro r h;cases h;done)|(intro r h;cases h;exact rfl)|refine condK ?_ ?_)
 all_goals (intro r h;cases h)
def hh{x:gX}{y:fY}(h:m x=some y):f.H y=g.H x:=by have e:=hm y h;show [SO.arr (.pair (.int .u8) (.pair (.sl (.int .i64)) (.pair (.int .i64) (.int .i64)))) y.2.2.2.2 0]=[SO.arr (.pair (.int .u8) (.pair (.sl (.int .i64)) (.pair (.int .i64) (.int .i64)))) x.nd 0];rw[e]
def con:Con:=YZ g [.arg 2 0] f m default
def con_ok:J4 prog 51 con:=Jh known (λ_=>rfl) (λ_ _ h=>by exact hh h)
end M51
namespace M69
structure gX where(Q0:TN)(Q1:TS)(Q4:TM)(Q3:TI)(n:Int)(Xk XO Z3:Nat)(xs:List (Bool))
def g:Sg gX:=⟨[.agg cir4,cI,.c (.slc 0 0 1)],[.arr .bool 0],λa b=>⟨a.1.1,a.1.2.1,a.1.2.2.1,a.1.2.2.2.1,a.2.1,a.2.2.1.1,a.2.2.1.2.1,a.2.2.1.2.2,b.1⟩,λx=>((x.Q0,(x.Q1,(x.Q4,(x.Q3,())))),(x.n,((x.Xk,x.XO,x.Z3),()))),λx=>(x.xs,())⟩
abbrev fY:=List (Bool)
def f:Ft fY:=⟨none,.tup [],[.arr .bool 0],λa b=>(b.1),λy=>(),λy=>(y,())⟩
class Rc where
 mr:gX->Option fY
 ok:QQ prog 69 g f mr
variable [Rc]
def cl:List CK:=[⟨69,(Y2 g [.arg 2 0] f Rc.mr default),(JY Rc.ok)⟩]
structure p0X where(n:Int)(Xk XO Z3:Nat)(l:TI)(m i:Int)(xs:List (Bool))(Q0:TN)(Q1:TS)(Q4:TM)(Q3:TI)
def p0:Pt p0X:=⟨[],⟨[(1,cI),(2,.c (.slc 0 0 1)),(3,.c (.ptr 1 0)),(20,cA),(21,cI),(22,cI)],[.arr .bool 0,oC]⟩,λ((a,(b,c,d),_,e,f,g,_),h,(i,j,k,l,_),_)=>⟨a,b,c,d,e,f,g,h,i,j,k,l⟩,λx=>((x.n,((x.Xk,x.XO,x.Z3),((),(x.l,(x.m,(x.i,())))))),(x.xs,((x.Q0,(x.Q1,(x.Q4,(x.Q3,())))),())))⟩
structure q0X where(xs:List (Bool))
def q0:Pt q0X:=⟨[],⟨[],[.arr .bool 0,.st [jk,jk,jk,jk] 1 0]⟩,λv=>⟨v.2.1⟩,λx=>((),(x.xs,(((),((),((),((),())))),())))⟩
def s0(x:p0X):Option (p0X⊕q0X):=bif decide (x.i<x.m) then bif inR x.i x.l.length then bif inR x.n x.Q0.length then bif (x.Q0[x.n.toNat]?.getD (0,[],0,0)).1 !=14 then bindO (Rc.mr ⟨x.Q0,x.Q1,x.Q4,x.Q3,x.l[x.i.toNat]?.getD 0,x.Xk,x.XO,x.Z3,x.xs⟩) λy=>some (inl ⟨x.n,x.Xk,x.XO,x.Z3,x.l,x.m,i64.wrap (x.i+1),y,x.Q0,x.Q1,x.Q4,x.Q3⟩) else some (inl ⟨x.n,x.Xk,x.XO,x.Z3,x.l,x.m,i64.wrap (x.i+1),x.xs,x.Q0,x.Q1,x.Q4,x.Q3⟩) else none else none else some (inr ⟨x.xs⟩)
def l0:QT:=Qa 1 p0 (.exit 0) q0 s0
def l0_ok  :QO prog 38 none 1 (C69.QR 0) l0:=lc cl 1 (λ_=>none) QX.nil
def m(x:gX):Option fY:=bif inR x.n x.XO then bif decide (x.Xk+x.n.toNat<x.xs.length) then bif x.xs[x.Xk+x.n.toNat]?.getD false then some x.xs else bif inR x.n x.XO then bif decide (x.Xk+x.n.toNat<x.xs.length) then bif inR x.n x.Q0.length then bindO (iter s0 ⟨x.n,x.Xk,x.XO,x.Z3,(x.Q0[x.n.toNat]?.getD (0,[],0,0)).2.1,(↑(List.length (x.Q0[x.n.toNat]?.getD (0,[],0,0)).2.1):Int),0,x.xs.set (x.Xk+x.n.toNat) true,x.Q0,x.Q1,x.Q4,x.Q3⟩) λy=>some y.xs else none else none else none else none else none
def known:QQ prog 69 g f m:=
 kc cl s69 (J2 [(0,l0)]) (ac 0 l0_ok QX.nil)
end M69
namespace M69
def known0:QQ prog 69 g f (λ_=>none):=
 ⟨λ_ _=>⟨rfl,rfl⟩,by decide,λx y h=>by cases h⟩
@[reducible] def Rn:Nat->Rc
 |0=>⟨λ_=>none,known0⟩
 |n+1=>⟨@m (Rn n),@known (Rn n)⟩
def mf(n:Nat):gX->Option fY:=(Rn n).mr
def conN:Con:=Y2 g [.arg 2 0] f (mf 64) default
def conN_ok:J4 prog 69 conN:=JY (Rn 64).ok
end M69
namespace M37
structure gX where(Q0:TN)(Q1:TS)(Q4:TM)(Q3 states:TI)(test:Int)(nxt:Bool)(idx:Int)
def g:Sg gX:=⟨[.agg cir4,cA,.agg [iI,.bo,iI]],[],λa b=>⟨a.1.1,a.1.2.1,a.1.2.2.1,a.1.2.2.2.1,a.2.1,a.2.2.1.1,a.2.2.1.2.1,a.2.2.1.2.2.1⟩,λx=>((x.Q0,(x.Q1,(x.Q4,(x.Q3,())))),(x.states,((x.test,(x.nxt,(x.idx,()))),()))),λx=>()⟩
abbrev fY:=List (Bool)×Bool
def f:Ft fY:=⟨none,.tup [.inl (.arr .bool),.inl (.bo)],[],λa b=>(a.1,a.2.1),λy=>(y.1,(y.2,())),λy=>()⟩
def m(x:gX):Option fY:=bif decide (0<=(x.Q0.length:Int))&&decide ((x.Q0.length:Int)<=(x.Q0.length:Int))&&decide ((x.Q0.length:Int)*(↑1:Int)<=281474976710656)&&decide ((x.Q0.length:Int)<=9223372036854775807) then bif bif bif bif decide (x.test<0) then true else decide (x.idx<0) then true else bif !x.nxt then decide (x.idx>=(x.Q3.length:Int)) else false then true else bif x.nxt then decide (x.idx>=(x.states.length:Int)) else false then some ([],false) else bif x.nxt then bif inR x.idx x.states.length then bif inR (x.states[x.idx.toNat]?.getD 0) x.Q0.length then bif inR 0 (List.length (x.Q0[Int.toNat (x.states[x.idx.toNat]?.getD 0)]?.getD (0,[],0,0)).2.1) then bindO (M69.mf 64 ⟨x.Q0,x.Q1,x.Q4,x.Q3,(x.Q0[Int.toNat (x.states[x.idx.toNat]?.getD 0)]?.getD (0,[],0,0)).2.1[0]?.getD 0,0,(x.Q0.length:Int).toNat,(x.Q0.length:Int).toNat,List.replicate (x.Q0.length:Int).toNat false⟩) λy=>bif inR (x.states[x.idx.toNat]?.getD 0) (x.Q0.length:Int).toNat then bif decide (0+Int.toNat (x.states[x.idx.toNat]?.getD 0)<List.length y) then bif leB (0+(x.Q0.length:Int).toNat) (List.set y (0+Int.toNat (x.states[x.idx.toNat]?.getD 0)) true).length&&true&&true&&true then some (List.take (x.Q0.length:Int).toNat (List.drop 0 (List.set y (0+Int.toNat (x.states[x.idx.toNat]?.getD 0)) true)),true) else none else none else none else none else none else none else bif inR x.idx x.Q3.length then bindO (M69.mf 64 ⟨x.Q0,x.Q1,x.Q4,x.Q3,x.Q3[x.idx.toNat]?.getD 0,0,(x.Q0.length:Int).toNat,(x.Q0.length:Int).toNat,List.replicate (x.Q0.length:Int).toNat false⟩) λy=>bif leB (0+(x.Q0.length:Int).toNat) (List.length y)&&true&&true&&true then some (List.take (x.Q0.length:Int).toNat (List.drop 0 y),true) else none else none else none
def known:QQ prog 37 g f m:=
 kc0 [⟨69,M69.conN,M69.conN_ok⟩] s37
end M37
namespace M110
structure gX where(a b:Int)
def g:Sg gX:=⟨[.c (.it .u64),.c (.it .u64)],[],λa b=>⟨a.1,a.2.1⟩,λx=>(x.a,(x.b,())),λx=>()⟩
abbrev fY:=Int×Int
def f:Ft fY:=⟨none,.tup [.inl (.it .u64),.inl (.it .u64)],[],λa b=>(a.1,a.2.1),λy=>(y.1,(y.2,())),λy=>()⟩
def m(x:gX):Option fY:=some (IntKind.u64.wrap (IntKind.u64.wrap (IntKind.u64.wrap (x.a.fdiv (2^32)*x.b.fdiv (2^32))+(IntKind.u64.wrap (IntKind.u64.wrap (x.a.fdiv (2^32)*IntKind.u64.wrap (↑(BitVec.ofInt 64 x.b&&&BitVec.ofInt 64 4294967295).toNat:Int))+(IntKind.u64.wrap (IntKind.u64.wrap (↑(BitVec.ofInt 64 x.a&&&BitVec.ofInt 64 4294967295).toNat:Int)*IntKind.u64.wrap (↑(BitVec.ofInt 64 x.b&&&BitVec.ofInt 64 4294967295).toNat:Int))).fdiv (2^32))).fdiv (2^32))+(IntKind.u64.wrap (IntKind.u64.wrap (↑(BitVec.ofInt 64 (IntKind.u64.wrap (IntKind.u64.wrap (x.a.fdiv (2^32)*IntKind.u64.wrap (↑(BitVec.ofInt 64 x.b&&&BitVec.ofInt 64 4294967295).toNat:Int))+(IntKind.u64.wrap (IntKind.u64.wrap (↑(BitVec.ofInt 64 x.a&&&BitVec.ofInt 64 4294967295).toNat:Int)*IntKind.u64.wrap (↑(BitVec.ofInt 64 x.b&&&BitVec.ofInt 64 4294967295).toNat:Int))).fdiv (2^32)))&&&BitVec.ofInt 64 4294967295).toNat:Int)+IntKind.u64.wrap (IntKind.u64.wrap (↑(BitVec.ofInt 64 x.a&&&BitVec.ofInt 64 4294967295).toNat:Int)*x.b.fdiv (2^32)))).fdiv (2^32)),IntKind.u64.wrap (x.a*x.b))
def known:QQ prog 110 g f m:=
 kc0 [] s110
end M110
namespace M67
structure gX where(a b:Int)
def g:Sg gX:=⟨[.c (.it .u64),.c (.it .u64)],[],λa b=>⟨a.1,a.2.1⟩,λx=>(x.a,(x.b,())),λx=>()⟩
abbrev fY:=Int×Int
def f:Ft fY:=⟨none,.tup [.inl (.it .u64),.inl (.it .u64)],[],λa b=>(a.1,a.2.1),λy=>(y.1,(y.2,())),λy=>()⟩
def m(x:gX):Option fY:=bindO (M110.m ⟨x.a,x.b⟩) λy=>some (y.1,y.2)
def known:QQ prog 67 g f m:=
 kc0 [ck M110.known] s67
end M67
namespace M35
structure gX where(x:List (Bool))(n:Int)
def g:Sg gX:=⟨[.c (.arr .bool),cI],[],λa b=>⟨a.1,a.2.1⟩,λx=>(x.x,(x.n,())),λx=>()⟩
abbrev fY:=Nat×Nat×Nat×List (Bool)
def f:Ft fY:=⟨none,.c (.slc 0 0 1),[.arr .bool 0],λa b=>(a.1,a.2.1,a.2.2,b.1),λy=>(y.1,y.2.1,y.2.2.1),λy=>(y.2.2.2,())⟩
def cl:List CK:=[ck M67.known]
structure p0X where(ZX Xt ZY:Nat)(i:Int)(xs:List (Bool))
def p0:Pt p0X:=⟨[],⟨[(7,.c (.slc 0 0 1)),(8,cI)],[.arr .bool 0]⟩,λ(((a,b,c),d,_),e,_)=>⟨a,b,c,d,e⟩,λx=>(((x.ZX,x.Xt,x.ZY),(x.i,())),(x.xs,()))⟩
structure q0X where(ZX Xt ZY:Nat)(xs:List (Bool))
def q0:Pt q0X:=⟨[],⟨[(7,.c (.slc 0 0 1))],[.arr .bool 0]⟩,λ(((a,b,c),_),d,_)=>⟨a,b,c,d⟩,λx=>(((x.ZX,x.Xt,x.ZY),()),(x.xs,()))⟩
def s0(x:p0X):Option (p0X⊕q0X):=bif decide (x.i<(x.Xt:Int)) then bif decide (0<=x.i)&&decide (x.i<=(x.Xt:Int)) then bif decide (0<=x.i)&&decide (x.i<=(x.ZY:Int)) then bif leB (x.ZX+x.i.toNat) x.xs.length&&leB ((bif eqN x.ZY x.i.toNat then x.ZX else x.ZX+x.i.toNat)+(x.Xt - x.i.toNat)) x.xs.length then some (inl ⟨x.ZX,x.Xt,x.ZY,i64.wrap (x.i+(↑(min x.i.toNat (x.Xt - x.i.toNat)):Int)),List.take (bif eqN x.ZY x.i.toNat then x.ZX else x.ZX+x.i.toNat) x.xs++List.take (min x.i.toNat (x.Xt - x.i.toNat)) (List.take x.i.toNat (List.drop x.ZX x.xs))++List.drop ((bif eqN x.ZY x.i.toNat then x.ZX else x.ZX+x.i.toNat)+min x.i.toNat (x.Xt - x.i.toNat)) x.xs⟩) else none else none else none else some (inr ⟨x.ZX,x.Xt,x.ZY,x.xs⟩)
def l0:QT:=Qa 0 p0 (.exit 0) q0 s0
def l0_ok  :QO prog 48 none 0 (C35.QR 0) l0:=lc cl 1 (λ_=>none) QX.nil
def m(x:gX):Option fY:=bif decide (x.n<0) then none else bindO (M67.m ⟨IntKind.u64.wrap (x.x.length:Int),IntKind.u64.wrap x.n⟩) λy=>bif bif decide (y.1>0) then true else decide (y.2>9223372036854775807) then none else bif decide (0<=i64.wrap y.2)&&decide (i64.wrap y.2<=i64.wrap y.2)&&decide (i64.wrap y.2*(↑1:Int)<=281474976710656)&&decide (i64.wrap y.2<=9223372036854775807) then bif leB (0+(i64.wrap y.2).toNat) (List.replicate (i64.wrap y.2).toNat false).length then bindO (iter s0 ⟨0,(i64.wrap y.2).toNat,(i64.wrap y.2).toNat,(↑(min x.x.length (i64.wrap y.2).toNat):Int),List.take 0 (List.replicate (i64.wrap y.2).toNat false)++List.take (min x.x.length (i64.wrap y.2).toNat) x.x++List.drop (0+min x.x.length (i64.wrap y.2).toNat) (List.replicate (i64.wrap y.2).toNat false)⟩) λy=>some (y.ZX,y.Xt,y.ZY,y.xs) else none else none
def known:QQ prog 35 g f m:=
 kc cl s35 (J2 [(0,l0)]) (ac 0 l0_ok QX.nil)
def con:Con:=conF g f m default
def con_ok:J4 prog 35 con:=conF_ok known (λ_=>rfl) (λ_=>rfl)
end M35
end Go.Proofs.YtpbplpgfloaaiaaGreatDoor
