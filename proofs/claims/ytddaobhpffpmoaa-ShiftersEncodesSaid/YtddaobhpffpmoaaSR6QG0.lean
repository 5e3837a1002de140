/-
  What the proof stands on.
-/
import Derived.Test.YtddaobhpffpmoaaSR6QMc
import Derived.Test.YtddaobhpffpmoaaRows
set_option linter.all false
noncomputable section
namespace Go.Proofs.Ytddaobhpffpmoaa
open Go.Abs
instance glI:Gl:={ dat:=fun _=>none,obj:=fun t ps=>match ps with|[(0,.tmp 166),(1,.tmp 168)]=>Nat.beq t 38|_=>false }
theorem Try.ti2:tinf Try.prog 2=some ⟨.int .i64,1,8,some [.int .i64 0],none⟩:=by kernel_rfl
theorem Try.ti3:tinf Try.prog 3=some ⟨.int .i64,1,8,some [.int .i64 0],none⟩:=by kernel_rfl
theorem Try.ti4:tinf Try.prog 4=some ⟨.bool,1,1,some [.bool false],none⟩:=by kernel_rfl
theorem Try.ti5:tinf Try.prog 5=some ⟨.int .u8,1,1,some [.int .u8 0],none⟩:=by kernel_rfl
theorem Try.ti6:tinf Try.prog 6=some ⟨.int .u8,1,1,some [.int .u8 0],none⟩:=by kernel_rfl
theorem Try.ti7:tinf Try.prog 7=some ⟨.struct [(0,2),(1,3),(2,4),(3,6)],4,24,some [.int .i64 0,.int .i64 0,.bool false,.int .u8 0],some [.int,.int,.bool,.int]⟩:=by kernel_rfl
theorem Try.ti8:tinf Try.prog 8=some ⟨.struct [(0,2),(1,3),(2,4),(3,6)],4,24,some [.int .i64 0,.int .i64 0,.bool false,.int .u8 0],some [.int,.int,.bool,.int]⟩:=by kernel_rfl
theorem Try.ti9:tinf Try.prog 9=some ⟨.string,1,16,some [.str []],none⟩:=by kernel_rfl
theorem Try.ti10:tinf Try.prog 10=some ⟨.string,1,16,some [.str []],none⟩:=by kernel_rfl
theorem Try.ti11:tinf Try.prog 11=some ⟨.string,1,16,some [.str []],none⟩:=by kernel_rfl
theorem Try.ti12:tinf Try.prog 12=some ⟨.int .u64,1,8,some [.int .u64 0],none⟩:=by kernel_rfl
theorem Try.ti13:tinf Try.prog 13=some ⟨.struct [(0,9),(1,12)],2,24,some [.str [],.int .u64 0],none⟩:=by kernel_rfl
theorem Try.ti14:tinf Try.prog 14=some ⟨.struct [(0,9),(1,12)],2,24,some [.str [],.int .u64 0],none⟩:=by kernel_rfl
theorem Try.ti15:tinf Try.prog 15=some ⟨.ptr 178,1,8,some [.nilp],none⟩:=by kernel_rfl
theorem Try.ti16:tinf Try.prog 16=some ⟨.ptr 181,1,8,some [.nilp],none⟩:=by kernel_rfl
theorem Try.ti17:tinf Try.prog 17=some ⟨.ptr 189,1,8,some [.nilp],none⟩:=by kernel_rfl
theorem Try.ti18:tinf Try.prog 18=some ⟨.struct [(0,17)],1,8,some [.nilp],none⟩:=by kernel_rfl
theorem Try.ti19:tinf Try.prog 19=some ⟨.struct [(0,17)],1,8,some [.nilp],none⟩:=by kernel_rfl
theorem Try.ti20:tinf Try.prog 20=some ⟨.other,1,16,some [.junk],none⟩:=by kernel_rfl
theorem Try.ti21:tinf Try.prog 21=some ⟨.int .i32,1,4,some [.int .i32 0],none⟩:=by kernel_rfl
theorem Try.ti22:tinf Try.prog 22=some ⟨.slice 5,1,24,some [.imm [] 0 (some 0)],none⟩:=by kernel_rfl
theorem Try.ti23:tinf Try.prog 23=some ⟨.struct [(0,5),(1,5),(2,22)],3,32,some [.int .u8 0,.int .u8 0,.imm [] 0 (some 0)],none⟩:=by kernel_rfl
theorem Try.ti24:tinf Try.prog 24=some ⟨.struct [(0,5),(1,5),(2,22)],3,32,some [.int .u8 0,.int .u8 0,.imm [] 0 (some 0)],none⟩:=by kernel_rfl
theorem Try.ti25:tinf Try.prog 25=some ⟨.func,1,8,some [.nilf],none⟩:=by kernel_rfl
theorem Try.ti26:tinf Try.prog 26=some ⟨.func,1,8,some [.nilf],none⟩:=by kernel_rfl
theorem Try.ti27:tinf Try.prog 27=some ⟨.other,1,0,none,none⟩:=by kernel_rfl
theorem Try.ti28:tinf Try.prog 28=some ⟨.func,1,8,some [.nilf],none⟩:=by kernel_rfl
theorem Try.ti29:tinf Try.prog 29=some ⟨.slice 22,1,24,some [.imm [] 0 (some 0)],none⟩:=by kernel_rfl
theorem Try.ti30:tinf Try.prog 30=some ⟨.slice 22,1,24,some [.imm [] 0 (some 0)],none⟩:=by kernel_rfl
theorem Try.ti31:tinf Try.prog 31=some ⟨.func,1,8,some [.nilf],none⟩:=by kernel_rfl
theorem Try.ti32:tinf Try.prog 32=some ⟨.slice 85,1,24,some [.imm [] 0 (some 0)],none⟩:=by kernel_rfl
theorem Try.ti33:tinf Try.prog 33=some ⟨.struct [(0,3),(1,32)],2,32,some [.int .i64 0,.imm [] 0 (some 0)],none⟩:=by kernel_rfl
theorem Try.ti34:tinf Try.prog 34=some ⟨.struct [(0,3),(1,32)],2,32,some [.int .i64 0,.imm [] 0 (some 0)],none⟩:=by kernel_rfl
theorem Try.ti35:tinf Try.prog 35=some ⟨.int .i64,1,8,some [.int .i64 0],none⟩:=by kernel_rfl
theorem Try.ti36:tinf Try.prog 36=some ⟨.other,1,0,none,none⟩:=by kernel_rfl
theorem Try.ti37:tinf Try.prog 37=some ⟨.func,1,8,some [.nilf],none⟩:=by kernel_rfl
theorem Try.ti38:tinf Try.prog 38=some ⟨.slice 34,1,24,some [.imm [] 0 (some 0)],none⟩:=by kernel_rfl
theorem Try.ti39:tinf Try.prog 39=some ⟨.struct [(0,3),(1,38)],2,32,some [.int .i64 0,.imm [] 0 (some 0)],none⟩:=by kernel_rfl
theorem Try.ti40:tinf Try.prog 40=some ⟨.struct [(0,3),(1,38)],2,32,some [.int .i64 0,.imm [] 0 (some 0)],none⟩:=by kernel_rfl
theorem Try.ti41:tinf Try.prog 41=some ⟨.func,1,8,some [.nilf],none⟩:=by kernel_rfl
theorem Try.ti42:tinf Try.prog 42=some ⟨.func,1,8,some [.nilf],none⟩:=by kernel_rfl
theorem Try.ti43:tinf Try.prog 43=some ⟨.other,1,0,none,none⟩:=by kernel_rfl
theorem Try.ti44:tinf Try.prog 44=some ⟨.func,1,8,some [.nilf],none⟩:=by kernel_rfl
theorem Try.ti45:tinf Try.prog 45=some ⟨.other,1,0,none,none⟩:=by kernel_rfl
theorem Try.ti46:tinf Try.prog 46=some ⟨.func,1,8,some [.nilf],none⟩:=by kernel_rfl
theorem Try.ti47:tinf Try.prog 47=some ⟨.func,1,8,some [.nilf],none⟩:=by kernel_rfl
theorem Try.ti48:tinf Try.prog 48=some ⟨.func,1,8,some [.nilf],none⟩:=by kernel_rfl
theorem Try.ti49:tinf Try.prog 49=some ⟨.func,1,8,some [.nilf],none⟩:=by kernel_rfl
theorem Try.ti50:tinf Try.prog 50=some ⟨.func,1,8,some [.nilf],none⟩:=by kernel_rfl
theorem Try.ti51:tinf Try.prog 51=some ⟨.func,1,8,some [.nilf],none⟩:=by kernel_rfl
theorem Try.ti52:tinf Try.prog 52=some ⟨.func,1,8,some [.nilf],none⟩:=by kernel_rfl
theorem Try.ti53:tinf Try.prog 53=some ⟨.other,1,0,none,none⟩:=by kernel_rfl
theorem Try.ti54:tinf Try.prog 54=some ⟨.func,1,8,some [.nilf],none⟩:=by kernel_rfl
theorem Try.ti55:tinf Try.prog 55=some ⟨.func,1,8,some [.nilf],none⟩:=by kernel_rfl
theorem Try.ti56:tinf Try.prog 56=some ⟨.func,1,8,some [.nilf],none⟩:=by kernel_rfl
theorem Try.ti57:tinf Try.prog 57=some ⟨.func,1,8,some [.nilf],none⟩:=by kernel_rfl
theorem Try.ti58:tinf Try.prog 58=some ⟨.func,1,8,some [.nilf],none⟩:=by kernel_rfl
theorem Try.ti59:tinf Try.prog 59=some ⟨.func,1,8,some [.nilf],none⟩:=by kernel_rfl
theorem Try.ti60:tinf Try.prog 60=some ⟨.slice 3,1,24,some [.imm [] 0 (some 0)],none⟩:=by kernel_rfl
theorem Try.ti61:tinf Try.prog 61=some ⟨.func,1,8,some [.nilf],none⟩:=by kernel_rfl
theorem Try.ti62:tinf Try.prog 62=some ⟨.other,1,0,none,none⟩:=by kernel_rfl
theorem Try.ti63:tinf Try.prog 63=some ⟨.func,1,8,some [.nilf],none⟩:=by kernel_rfl
theorem Try.ti64:tinf Try.prog 64=some ⟨.func,1,8,some [.nilf],none⟩:=by kernel_rfl
theorem Try.ti65:tinf Try.prog 65=some ⟨.func,1,8,some [.nilf],none⟩:=by kernel_rfl
theorem Try.ti66:tinf Try.prog 66=some ⟨.func,1,8,some [.nilf],none⟩:=by kernel_rfl
theorem Try.ti67:tinf Try.prog 67=some ⟨.func,1,8,some [.nilf],none⟩:=by kernel_rfl
theorem Try.ti68:tinf Try.prog 68=some ⟨.func,1,8,some [.nilf],none⟩:=by kernel_rfl
theorem Try.ti69:tinf Try.prog 69=some ⟨.func,1,8,some [.nilf],none⟩:=by kernel_rfl
theorem Try.ti70:tinf Try.prog 70=some ⟨.func,1,8,some [.nilf],none⟩:=by kernel_rfl
theorem Try.ti71:tinf Try.prog 71=some ⟨.func,1,8,some [.nilf],none⟩:=by kernel_rfl
theorem Try.ti72:tinf Try.prog 72=some ⟨.func,1,8,some [.nilf],none⟩:=by kernel_rfl
theorem Try.ti73:tinf Try.prog 73=some ⟨.func,1,8,some [.nilf],none⟩:=by kernel_rfl
theorem Try.ti74:tinf Try.prog 74=some ⟨.struct [(0,3),(1,32)],2,32,some [.int .i64 0,.imm [] 0 (some 0)],none⟩:=by kernel_rfl
theorem Try.ti75:tinf Try.prog 75=some ⟨.slice 74,1,24,some [.imm [] 0 (some 0)],none⟩:=by kernel_rfl
theorem Try.ti76:tinf Try.prog 76=some ⟨.struct [(0,3),(1,75)],2,32,some [.int .i64 0,.imm [] 0 (some 0)],none⟩:=by kernel_rfl
theorem Try.ti77:tinf Try.prog 77=some ⟨.struct [(0,3),(1,75)],2,32,some [.int .i64 0,.imm [] 0 (some 0)],none⟩:=by kernel_rfl
theorem Try.ti78:tinf Try.prog 78=some ⟨.func,1,8,some [.nilf],none⟩:=by kernel_rfl
theorem Try.ti79:tinf Try.prog 79=some ⟨.func,1,8,some [.nilf],none⟩:=by kernel_rfl
theorem Try.ti80:tinf Try.prog 80=some ⟨.func,1,8,some [.nilf],none⟩:=by kernel_rfl
theorem Try.ti81:tinf Try.prog 81=some ⟨.func,1,8,some [.nilf],none⟩:=by kernel_rfl
theorem Try.ti82:tinf Try.prog 82=some ⟨.func,1,8,some [.nilf],none⟩:=by kernel_rfl
theorem Try.ti83:tinf Try.prog 83=some ⟨.func,1,8,some [.nilf],none⟩:=by kernel_rfl
theorem Try.ti84:tinf Try.prog 84=some ⟨.func,1,8,some [.nilf],none⟩:=by kernel_rfl
theorem Try.ti85:tinf Try.prog 85=some ⟨.int .u64,1,8,some [.int .u64 0],none⟩:=by kernel_rfl
theorem Try.ti86:tinf Try.prog 86=some ⟨.struct [(0,5),(1,85)],2,16,some [.int .u8 0,.int .u64 0],some [.int,.int]⟩:=by kernel_rfl
theorem Try.ti87:tinf Try.prog 87=some ⟨.struct [(0,5),(1,85)],2,16,some [.int .u8 0,.int .u64 0],some [.int,.int]⟩:=by kernel_rfl
theorem Try.ti88:tinf Try.prog 88=some ⟨.array 2 85,2,16,some [.int .u64 0,.int .u64 0],none⟩:=by kernel_rfl
theorem Try.ti89:tinf Try.prog 89=some ⟨.int .u16,1,2,some [.int .u16 0],none⟩:=by kernel_rfl
theorem Try.ti90:tinf Try.prog 90=some ⟨.struct [(0,3),(1,85)],2,16,some [.int .i64 0,.int .u64 0],some [.int,.int]⟩:=by kernel_rfl
theorem Try.ti91:tinf Try.prog 91=some ⟨.struct [(0,3),(1,85)],2,16,some [.int .i64 0,.int .u64 0],some [.int,.int]⟩:=by kernel_rfl
theorem Try.ti92:tinf Try.prog 92=some ⟨.func,1,8,some [.nilf],none⟩:=by kernel_rfl
theorem Try.ti93:tinf Try.prog 93=some ⟨.func,1,8,some [.nilf],none⟩:=by kernel_rfl
theorem Try.ti94:tinf Try.prog 94=some ⟨.func,1,8,some [.nilf],none⟩:=by kernel_rfl
theorem Try.ti95:tinf Try.prog 95=some ⟨.func,1,8,some [.nilf],none⟩:=by kernel_rfl
theorem Try.ti96:tinf Try.prog 96=some ⟨.other,1,0,none,none⟩:=by kernel_rfl
theorem Try.ti97:tinf Try.prog 97=some ⟨.func,1,8,some [.nilf],none⟩:=by kernel_rfl
theorem Try.ti98:tinf Try.prog 98=some ⟨.func,1,8,some [.nilf],none⟩:=by kernel_rfl
theorem Try.ti99:tinf Try.prog 99=some ⟨.struct [(0,87),(2,32),(3,5)],4,48,some [.int .u8 0,.int .u64 0,.imm [] 0 (some 0),.int .u8 0],none⟩:=by kernel_rfl
theorem Try.ti100:tinf Try.prog 100=some ⟨.struct [(0,87),(2,32),(3,5)],4,48,some [.int .u8 0,.int .u64 0,.imm [] 0 (some 0),.int .u8 0],none⟩:=by kernel_rfl
theorem Try.ti101:tinf Try.prog 101=some ⟨.struct [(0,91),(2,32),(3,3)],4,48,some [.int .i64 0,.int .u64 0,.imm [] 0 (some 0),.int .i64 0],none⟩:=by kernel_rfl
theorem Try.ti102:tinf Try.prog 102=some ⟨.struct [(0,91),(2,32),(3,3)],4,48,some [.int .i64 0,.int .u64 0,.imm [] 0 (some 0),.int .i64 0],none⟩:=by kernel_rfl
theorem Try.ti103:tinf Try.prog 103=some ⟨.func,1,8,some [.nilf],none⟩:=by kernel_rfl
theorem Try.ti104:tinf Try.prog 104=some ⟨.slice 110,1,24,some [.imm [] 0 (some 0)],none⟩:=by kernel_rfl
theorem Try.ti105:tinf Try.prog 105=some ⟨.other,1,0,none,none⟩:=by kernel_rfl
theorem Try.ti106:tinf Try.prog 106=some ⟨.func,1,8,some [.nilf],none⟩:=by kernel_rfl
theorem Try.ti107:tinf Try.prog 107=some ⟨.func,1,8,some [.nilf],none⟩:=by kernel_rfl
theorem Try.ti108:tinf Try.prog 108=some ⟨.func,1,8,some [.nilf],none⟩:=by kernel_rfl
theorem Try.ti109:tinf Try.prog 109=some ⟨.func,1,8,some [.nilf],none⟩:=by kernel_rfl
theorem Try.ti110:tinf Try.prog 110=some ⟨.slice 111,1,24,some [.imm [] 0 (some 0)],none⟩:=by kernel_rfl
theorem Try.ti111:tinf Try.prog 111=some ⟨.int .u8,1,1,some [.int .u8 0],none⟩:=by kernel_rfl
theorem Try.ti112:tinf Try.prog 112=some ⟨.func,1,8,some [.nilf],none⟩:=by kernel_rfl
theorem Try.ti113:tinf Try.prog 113=some ⟨.func,1,8,some [.nilf],none⟩:=by kernel_rfl
theorem Try.ti114:tinf Try.prog 114=some ⟨.func,1,8,some [.nilf],none⟩:=by kernel_rfl
theorem Try.ti115:tinf Try.prog 115=some ⟨.func,1,8,some [.nilf],none⟩:=by kernel_rfl
theorem Try.ti116:tinf Try.prog 116=some ⟨.func,1,8,some [.nilf],none⟩:=by kernel_rfl
theorem Try.ti117:tinf Try.prog 117=some ⟨.func,1,8,some [.nilf],none⟩:=by kernel_rfl
theorem Try.ti118:tinf Try.prog 118=some ⟨.struct [(0,3),(1,85),(2,32),(3,3),(4,85),(5,3)],6,64,some [.int .i64 0,.int .u64 0,.imm [] 0 (some 0),.int .i64 0,.int .u64 0,.int .i64 0],none⟩:=by kernel_rfl
theorem Try.ti119:tinf Try.prog 119=some ⟨.struct [(0,3),(1,85),(2,32),(3,3),(4,85),(5,3)],6,64,some [.int .i64 0,.int .u64 0,.imm [] 0 (some 0),.int .i64 0,.int .u64 0,.int .i64 0],none⟩:=by kernel_rfl
theorem Try.ti120:tinf Try.prog 120=some ⟨.func,1,8,some [.nilf],none⟩:=by kernel_rfl
theorem Try.ti121:tinf Try.prog 121=some ⟨.func,1,8,some [.nilf],none⟩:=by kernel_rfl
theorem Try.ti122:tinf Try.prog 122=some ⟨.func,1,8,some [.nilf],none⟩:=by kernel_rfl
theorem Try.ti123:tinf Try.prog 123=some ⟨.func,1,8,some [.nilf],none⟩:=by kernel_rfl
theorem Try.ti124:tinf Try.prog 124=some ⟨.func,1,8,some [.nilf],none⟩:=by kernel_rfl
theorem Try.ti125:tinf Try.prog 125=some ⟨.func,1,8,some [.nilf],none⟩:=by kernel_rfl
theorem Try.ti126:tinf Try.prog 126=some ⟨.func,1,8,some [.nilf],none⟩:=by kernel_rfl
theorem Try.ti127:tinf Try.prog 127=some ⟨.int .u64,1,8,some [.int .u64 0],none⟩:=by kernel_rfl
theorem Try.ti128:tinf Try.prog 128=some ⟨.slice 24,1,24,some [.imm [] 0 (some 0)],none⟩:=by kernel_rfl
theorem Try.ti129:tinf Try.prog 129=some ⟨.func,1,8,some [.nilf],none⟩:=by kernel_rfl
theorem Try.ti130:tinf Try.prog 130=some ⟨.func,1,8,some [.nilf],none⟩:=by kernel_rfl
theorem Try.ti131:tinf Try.prog 131=some ⟨.func,1,8,some [.nilf],none⟩:=by kernel_rfl
theorem Try.ti132:tinf Try.prog 132=some ⟨.ptr 135,1,8,some [.nilp],none⟩:=by kernel_rfl
theorem Try.ti133:tinf Try.prog 133=some ⟨.func,1,8,some [.nilf],none⟩:=by kernel_rfl
theorem Try.ti134:tinf Try.prog 134=some ⟨.struct [(0,38),(1,38),(2,60)],3,72,some [.imm [] 0 (some 0),.imm [] 0 (some 0),.imm [] 0 (some 0)],none⟩:=by kernel_rfl
theorem Try.ti135:tinf Try.prog 135=some ⟨.struct [(0,38),(1,38),(2,60)],3,72,some [.imm [] 0 (some 0),.imm [] 0 (some 0),.imm [] 0 (some 0)],none⟩:=by kernel_rfl
theorem Try.ti136:tinf Try.prog 136=some ⟨.func,1,8,some [.nilf],none⟩:=by kernel_rfl
theorem Try.ti137:tinf Try.prog 137=some ⟨.func,1,8,some [.nilf],none⟩:=by kernel_rfl
theorem Try.ti138:tinf Try.prog 138=some ⟨.func,1,8,some [.nilf],none⟩:=by kernel_rfl
theorem Try.ti139:tinf Try.prog 139=some ⟨.func,1,8,some [.nilf],none⟩:=by kernel_rfl
theorem Try.ti140:tinf Try.prog 140=some ⟨.func,1,8,some [.nilf],none⟩:=by kernel_rfl
theorem Try.ti141:tinf Try.prog 141=some ⟨.ptr 143,1,8,some [.nilp],none⟩:=by kernel_rfl
theorem Try.ti142:tinf Try.prog 142=some ⟨.struct [(0,141),(1,22)],2,32,some [.nilp,.imm [] 0 (some 0)],none⟩:=by kernel_rfl
theorem Try.ti143:tinf Try.prog 143=some ⟨.struct [(0,141),(1,22)],2,32,some [.nilp,.imm [] 0 (some 0)],none⟩:=by kernel_rfl
theorem Try.ti144:tinf Try.prog 144=some ⟨.other,1,16,some [.junk],none⟩:=by kernel_rfl
theorem Try.ti145:tinf Try.prog 145=some ⟨.other,1,16,some [.junk],none⟩:=by kernel_rfl
theorem Try.ti146:tinf Try.prog 146=some ⟨.func,1,8,some [.nilf],none⟩:=by kernel_rfl
theorem Try.ti147:tinf Try.prog 147=some ⟨.func,1,8,some [.nilf],none⟩:=by kernel_rfl
theorem Try.ti148:tinf Try.prog 148=some ⟨.func,1,8,some [.nilf],none⟩:=by kernel_rfl
theorem Try.ti149:tinf Try.prog 149=some ⟨.func,1,8,some [.nilf],none⟩:=by kernel_rfl
theorem Try.ti150:tinf Try.prog 150=some ⟨.func,1,8,some [.nilf],none⟩:=by kernel_rfl
theorem Try.ti151:tinf Try.prog 151=some ⟨.slice 40,1,24,some [.imm [] 0 (some 0)],none⟩:=by kernel_rfl
theorem Try.ti152:tinf Try.prog 152=some ⟨.func,1,8,some [.nilf],none⟩:=by kernel_rfl
theorem Try.ti153:tinf Try.prog 153=some ⟨.func,1,8,some [.nilf],none⟩:=by kernel_rfl
theorem Try.ti154:tinf Try.prog 154=some ⟨.func,1,8,some [.nilf],none⟩:=by kernel_rfl
theorem Try.ti155:tinf Try.prog 155=some ⟨.struct [(0,91),(2,85)],3,24,some [.int .i64 0,.int .u64 0,.int .u64 0],some [.int,.int,.int]⟩:=by kernel_rfl
theorem Try.ti156:tinf Try.prog 156=some ⟨.struct [(0,91),(2,85)],3,24,some [.int .i64 0,.int .u64 0,.int .u64 0],some [.int,.int,.int]⟩:=by kernel_rfl
theorem Try.ti157:tinf Try.prog 157=some ⟨.other,1,0,none,none⟩:=by kernel_rfl
theorem Try.ti158:tinf Try.prog 158=some ⟨.func,1,8,some [.nilf],none⟩:=by kernel_rfl
theorem Try.ti159:tinf Try.prog 159=some ⟨.func,1,8,some [.nilf],none⟩:=by kernel_rfl
theorem Try.ti160:tinf Try.prog 160=some ⟨.func,1,8,some [.nilf],none⟩:=by kernel_rfl
theorem Try.ti161:tinf Try.prog 161=some ⟨.func,1,8,some [.nilf],none⟩:=by kernel_rfl
theorem Try.ti162:tinf Try.prog 162=some ⟨.func,1,8,some [.nilf],none⟩:=by kernel_rfl
theorem Try.ti163:tinf Try.prog 163=some ⟨.func,1,8,some [.nilf],none⟩:=by kernel_rfl
theorem Try.ti164:tinf Try.prog 164=some ⟨.func,1,8,some [.nilf],none⟩:=by kernel_rfl
theorem Try.ti165:tinf Try.prog 165=some ⟨.func,1,8,some [.nilf],none⟩:=by kernel_rfl
theorem Try.ti166:tinf Try.prog 166=some ⟨.func,1,8,some [.nilf],none⟩:=by kernel_rfl
theorem Try.ti167:tinf Try.prog 167=some ⟨.func,1,8,some [.nilf],none⟩:=by kernel_rfl
theorem Try.ti168:tinf Try.prog 168=some ⟨.func,1,8,some [.nilf],none⟩:=by kernel_rfl
theorem Try.ti169:tinf Try.prog 169=some ⟨.func,1,8,some [.nilf],none⟩:=by kernel_rfl
theorem Try.ti170:tinf Try.prog 170=some ⟨.func,1,8,some [.nilf],none⟩:=by kernel_rfl
theorem Try.ti171:tinf Try.prog 171=some ⟨.ptr 5,1,8,some [.nilp],none⟩:=by kernel_rfl
theorem Try.ti172:tinf Try.prog 172=some ⟨.func,1,8,some [.nilf],none⟩:=by kernel_rfl
theorem Try.ti173:tinf Try.prog 173=some ⟨.func,1,8,some [.nilf],none⟩:=by kernel_rfl
theorem Try.ti174:tinf Try.prog 174=some ⟨.ptr 156,1,8,some [.nilp],none⟩:=by kernel_rfl
theorem Try.ti175:tinf Try.prog 175=some ⟨.other,1,8,some [.nilp],none⟩:=by kernel_rfl
theorem Try.ti176:tinf Try.prog 176=some ⟨.func,1,8,some [.nilf],none⟩:=by kernel_rfl
theorem Try.ti177:tinf Try.prog 177=some ⟨.struct [(0,17),(1,17),(2,17),(3,9)],4,40,some [.nilp,.nilp,.nilp,.str []],none⟩:=by kernel_rfl
theorem Try.ti178:tinf Try.prog 178=some ⟨.struct [(0,17),(1,17),(2,17),(3,9)],4,40,some [.nilp,.nilp,.nilp,.str []],none⟩:=by kernel_rfl
theorem Try.ti179:tinf Try.prog 179=some ⟨.array 0 16,0,0,some [],none⟩:=by kernel_rfl
theorem Try.ti180:tinf Try.prog 180=some ⟨.struct [(0,179)],0,0,some [],none⟩:=by kernel_rfl
theorem Try.ti181:tinf Try.prog 181=some ⟨.struct [(0,179)],0,0,some [],none⟩:=by kernel_rfl
theorem Try.ti182:tinf Try.prog 182=some ⟨.int .u32,1,4,some [.int .u32 0],none⟩:=by kernel_rfl
theorem Try.ti183:tinf Try.prog 183=some ⟨.int .u8,1,1,some [.int .u8 0],none⟩:=by kernel_rfl
theorem Try.ti184:tinf Try.prog 184=some ⟨.int .u8,1,1,some [.int .u8 0],none⟩:=by kernel_rfl
theorem Try.ti185:tinf Try.prog 185=some ⟨.func,1,8,some [.nilf],none⟩:=by kernel_rfl
theorem Try.ti186:tinf Try.prog 186=some ⟨.int .i32,1,4,some [.int .i32 0],none⟩:=by kernel_rfl
theorem Try.ti187:tinf Try.prog 187=some ⟨.int .i32,1,4,some [.int .i32 0],none⟩:=by kernel_rfl
theorem Try.ti188:tinf Try.prog 188=some ⟨.struct [(0,12),(1,12),(2,182),(3,183),(4,5),(5,5),(6,184),(7,185),(8,171),(9,186),(10,187)],11,48,some [.int .u64 0,.int .u64 0,.int .u32 0,.int .u8 0,.int .u8 0,.int .u8 0,.int .u8 0,.nilf,.nilp,.int .i32 0,.int .i32 0],none⟩:=by kernel_rfl
theorem Try.ti189:tinf Try.prog 189=some ⟨.struct [(0,12),(1,12),(2,182),(3,183),(4,5),(5,5),(6,184),(7,185),(8,171),(9,186),(10,187)],11,48,some [.int .u64 0,.int .u64 0,.int .u32 0,.int .u8 0,.int .u8 0,.int .u8 0,.int .u8 0,.nilf,.nilp,.int .i32 0,.int .i32 0],none⟩:=by kernel_rfl
end Go.Proofs.Ytddaobhpffpmoaa
namespace Go.Proofs.Ytddaobhpffpmoaa
open Go.Abs
noncomputable def cq(f:Func)(k:List (List (List Nat))):CC:=match f.body with|some c=>(match strip c k with|some (C,_)=>C|none=>.skip)|none=>.skip
def k22:List (List (List Nat)):=[[[0],[1],[],[]],[[],[14],[15]],[[],[16]],[[],[],[18],[19]],[[],[20],[21]],[[],[22]],[[],[],[24],[25]],[[],[26],[],[28],[29],[27,30]],[[],[32],[]],[[],[33],[34],[35],[36]],[[],[37],[]],[[]],[[],[41]],[[],[],[],[42,43],[44,45]],[[],[],[46,47]],[[],[],[49,50],[51],[52,53]],[[],[54]],[[],[],[55,56],[57]],[[],[58],[59],[],[60]],[[],[61],[62],[63],[],[]],[[]],[[],[],[69],[],[68],[70]],[[],[81],[82],[83]],[[],[],[86],[87],[88],[89],[85,90],[91]],[[],[92],[]],[[],[],[72],[73],[74],[],[75,76],[77],[71,78,79]],[[],[93]],[[],[94],[]]]
def C22:CC:=cq Try.f22 k22
theorem s22:Stripped Try.prog 22 95 [.cell 4 34,.tmp 5] C22:=⟨Try.f22,_,k22,[],Try.func22,rfl,by kernel_rfl,rfl,rfl,by kernel_rfl,rfl⟩
def k29:List (List (List Nat)):=[[[0],[1],[],[]],[[],[11],[12]],[[],[13]],[[],[],[15],[16]],[[],[17],[18]],[[],[19]],[[],[],[21],[22]],[[],[23],[],[25],[24,26]],[[],[28],[]],[[],[29],[30],[31],[],[32]],[[],[33],[],[]],[[]],[[],[],[39],[],[38],[40]],[[],[],[41,42]],[[],[],[44,45,46]],[[],[47]],[[],[48],[]]]
def C29:CC:=cq Try.f29 k29
theorem s29:Stripped Try.prog 29 49 [.cell 4 34,.tmp 5] C29:=⟨Try.f29,_,k29,[],Try.func29,rfl,by kernel_rfl,rfl,rfl,by kernel_rfl,rfl⟩
def k38:List (List (List Nat)):=[[[0],[]],[[],[4],[5],[6]],[[],[7]],[[],[9]],[[],[10],[11],[],[13],[14],[12,15]],[[]],[[],[17],[18],[19],[20],[],[22],[],[24],[25],[26],[23,27],[28],[],[30],[31],[29,32],[33],[21,34]],[[]],[[]]]
def C38:CC:=cq Try.f38 k38
theorem s38:Stripped Try.prog 38 36 [.tmp 2] C38:=⟨Try.f38,_,k38,[],Try.func38,rfl,by kernel_rfl,rfl,rfl,by kernel_rfl,rfl⟩
def k39:List (List (List Nat)):=[[[0],[1],[],[]],[[],[],[14,15],[],[]],[[]],[[],[20],[],[21]],[[],[22],[23]],[[],[24]],[[],[],[26],[27]],[[],[28]],[[],[29],[],[31],[32],[30,33]],[[],[35],[]],[[],[36],[],[38],[39],[40],[37,41],[],[42]],[[],[43],[],[]],[[]],[[],[],[49],[],[48],[50]],[[],[51],[],[],[54],[55],[52,53],[56,57]],[[],[58],[],[]],[[]],[[],[],[64],[],[63],[65]],[[],[],[66,67]],[[],[69],[],[],[72],[],[73,74],[75],[],[76,77],[70,71],[78,79]],[[],[80]],[[],[81]],[[],[82],[]]]
def C39:CC:=cq Try.f39 k39
theorem s39:Stripped Try.prog 39 83 [.cell 4 40,.tmp 5] C39:=⟨Try.f39,_,k39,[],Try.func39,rfl,by kernel_rfl,rfl,rfl,by kernel_rfl,rfl⟩
def k40:List (List (List Nat)):=[[[0],[],[]],[[],[5],[6]],[[],[7]],[[],[],[9],[10]],[[],[11],[12],[]]]
def C40:CC:=cq Try.f40 k40
theorem s40:Stripped Try.prog 40 13 [.cell 2 40,.tmp 3] C40:=⟨Try.f40,_,k40,[],Try.func40,rfl,by kernel_rfl,rfl,rfl,by kernel_rfl,rfl⟩
def k50:List (List (List Nat)):=[[[0],[]],[[],[8],[9],[10]],[[],[11]],[[],[13]],[[],[14],[15],[16],[17]],[[],[18]],[[],[20]],[[],[21],[],[]],[[]],[[],[26],[],[27]],[[],[28],[29]],[[],[30]],[[],[32]],[[],[33],[],[35],[34,36]],[[]],[[],[38]],[[]]]
def C50:CC:=cq Try.f50 k50
theorem s50:Stripped Try.prog 50 39 [.tmp 2] C50:=⟨Try.f50,_,k50,[],Try.func50,rfl,by kernel_rfl,rfl,rfl,by kernel_rfl,rfl⟩
def k51:List (List (List Nat)):=[[[],[]],[[],[5],[6]],[[],[7]],[[],[],[9],[10]],[[],[11],[12],[]]]
def C51:CC:=cq Try.f51 k51
theorem s51:Stripped Try.prog 51 13 [.cell 2 34,.tmp 3] C51:=⟨Try.f51,_,k51,[],Try.func51,rfl,by kernel_rfl,rfl,rfl,by kernel_rfl,rfl⟩
def k52:List (List (List Nat)):=[[[],[]],[[],[9],[10],[11],[],[8],[],[12],[13]],[[],[14]],[[],[],[16],[17]],[[],[],[]],[[]],[[],[],[23],[22],[24]],[[],[25]],[[],[27],[]],[[],[28]],[[],[],[30,31,32]],[[],[33]],[[],[34],[]]]
def C52:CC:=cq Try.f52 k52
theorem s52:Stripped Try.prog 52 35 [.cell 2 34,.tmp 3] C52:=⟨Try.f52,_,k52,[],Try.func52,rfl,by kernel_rfl,rfl,rfl,by kernel_rfl,rfl⟩
def k54:List (List (List Nat)):=[[[0],[]],[[],[4],[5],[6],[7],[8]],[[],[],[10],[],[12],[11,13],[],[15],[16],[14,17],[9,18],[19]]]
def C54:CC:=cq Try.f54 k54
theorem s54:Stripped Try.prog 54 20 [.cell 2 91] C54:=⟨Try.f54,_,k54,[],Try.func54,rfl,by kernel_rfl,rfl,rfl,by kernel_rfl,rfl⟩
def k58:List (List (List Nat)):=[[[0],[],[]],[[],[1],[9,10],[11],[],[8],[],[12],[13]],[[],[14]],[[],[],[16]],[[17]],[[],[18],[19],[]]]
def C58:CC:=cq Try.f58 k58
theorem s58:Stripped Try.prog 58 20 [.tmp 4,.tmp 5] C58:=⟨Try.f58,_,k58,[],Try.func58,rfl,by kernel_rfl,rfl,rfl,by kernel_rfl,rfl⟩
def k59:List (List (List Nat)):=[[[]],[[],[],[23]],[[],[],[24,25],[],[26]],[[],[28],[29],[],[27],[30],[31]],[[],[33],[34],[],[32],[35],[36]],[[],[38],[39],[],[37],[40],[41]],[[],[43],[44],[],[42],[45],[46]],[[],[48],[49],[],[47],[50],[51]],[[],[53],[54],[],[52],[55],[56]],[[],[57],[58],[],[60],[59,61],[62],[],[64],[63,65],[66],[],[68],[67,69],[70],[],[72],[71,73],[74],[],[76],[75,77],[78],[],[80],[79,81],[82],[],[84],[83,85],[86],[],[88],[87,89],[90],[],[92],[91,93],[94],[],[96],[95,97],[98],[],[],[],[101,102],[100,103],[104],[99,105]],[[]],[[],[],[],[109,110],[108,111],[112],[],[107],[113],[114]],[[],[],[115,116]],[[],[],[],[119,120],[118,121],[122],[],[117],[123,17],[124]],[[],[126],[127],[],[125],[128,19],[129]],[[],[131],[132],[],[130],[133,21],[134]],[[],[135],[136],[],[138],[137,139],[140],[],[142],[141,143],[144],[],[146],[145,147],[148],[],[150],[149,151],[152],[],[154],[155],[153,156],[157]]]
def C59:CC:=cq Try.f59 k59
theorem s59:Stripped Try.prog 59 158 [.tmp 0] C59:=⟨Try.f59,_,k59,[],Try.func59,rfl,by kernel_rfl,rfl,rfl,by kernel_rfl,rfl⟩
def k60:List (List (List Nat)):=[[[0],[]],[[],[6],[7],[],[8]],[[],[],[10],[11],[12],[9,13],[],[14]],[[]],[[],[],[16],[17],[15,18]],[[],[22],[],[24],[],[25,26],[27],[],[29],[30],[28,31],[32],[23,33],[],[34,35]],[[],[20],[21]],[[],[36]]]
def C60:CC:=cq Try.f60 k60
theorem s60:Stripped Try.prog 60 37 [.cell 2 102] C60:=⟨Try.f60,_,k60,[],Try.func60,rfl,by kernel_rfl,rfl,rfl,by kernel_rfl,rfl⟩
def k63:List (List (List Nat)):=[[[0],[],[]],[[],[19],[20]],[[],[21]],[[],[],[23]],[[],[],[24,25],[26]],[[],[27]],[[],[],[29]],[[],[30],[],[31]],[[],[32],[33],[],[],[34],[35]],[[],[],[]],[[]],[[],[],[41],[40],[42]],[[],[],[]],[[]],[[],[],[48],[47],[49]],[[],[50]],[[],[52],[],[54],[],[],[57],[56,58],[],[59,60],[55,61],[62],[63],[53,64],[],[65,66]],[[],[],[68],[67,69],[70]],[[],[71]],[[],[72]],[[],[74],[75],[],[73],[],[76],[77,16]],[[],[],[79,80],[81],[],[78],[],[82],[83]],[[],[84]],[[],[],[86]],[[],[87],[88],[89],[90],[]]]
def C63:CC:=cq Try.f63 k63
theorem s63:Stripped Try.prog 63 91 [.tmp 4,.tmp 5] C63:=⟨Try.f63,_,k63,[],Try.func63,rfl,by kernel_rfl,rfl,rfl,by kernel_rfl,rfl⟩
def k64:List (List (List Nat)):=[[[]],[[],[7],[],[9],[8,10]],[[]],[[]],[[],[],[13],[12,14]],[[],[],[18,19],[20],[21],[],[],[23,24],[25],[26],[22,27]],[[]],[[]],[[],[],[],[30,31],[32],[33],[29,34]],[[],[],[38,39],[40],[],[41,42],[43],[44],[45],[],[],[47,48],[49],[],[50,51],[52],[],[],[54,55],[56],[],[57,58],[59],[53,60],[46,61]],[[]],[[],[36],[37]],[[],[16],[17]],[[]]]
def C64:CC:=cq Try.f64 k64
theorem s64:Stripped Try.prog 64 63 [.tmp 4] C64:=⟨Try.f64,_,k64,[],Try.func64,rfl,by kernel_rfl,rfl,rfl,by kernel_rfl,rfl⟩
def k69:List (List (List Nat)):=[[[0],[],[]],[[],[],[13,14],[15],[],[12],[],[16,8],[17]],[[],[18]],[[],[],[20]],[[],[],[22],[21,23],[],[25],[],[],[24],[26]],[[],[27]],[[],[31],[32]],[[],[],[35,36],[37],[],[34,39],[38]],[[],[],[41,42],[43],[],[40,45],[44]],[[],[29],[30]],[[],[46],[47],[48],[49],[]]]
def C69:CC:=cq Try.f69 k69
theorem s69:Stripped Try.prog 69 50 [.tmp 6,.tmp 7] C69:=⟨Try.f69,_,k69,[],Try.func69,rfl,by kernel_rfl,rfl,rfl,by kernel_rfl,rfl⟩
def k71:List (List (List Nat)):=[[[0],[]],[[],[4],[5],[6]],[[]],[[],[8],[9],[10]],[[]],[[],[12],[],[14],[13,15],[16],[],[18],[],[20],[21],[19,22],[23],[17,24],[25]],[[]],[[]]]
def C71:CC:=cq Try.f71 k71
theorem s71:Stripped Try.prog 71 26 [.tmp 2] C71:=⟨Try.f71,_,k71,[],Try.func71,rfl,by kernel_rfl,rfl,rfl,by kernel_rfl,rfl⟩
def k72:List (List (List Nat)):=[[[0],[]],[[],[6],[7],[8]],[[],[9]],[[],[11]],[[],[12],[13],[14]],[[]],[[],[16],[],[]],[[]],[[],[21],[22]],[[],[],[24],[25],[23,26]],[[]],[[],[28]],[[],[30],[31],[32]],[[]],[[],[34],[35],[36],[37],[],[39],[],[41],[42],[43],[40,44],[38,45],[46]],[[]],[[]]]
def C72:CC:=cq Try.f72 k72
theorem s72:Stripped Try.prog 72 47 [.tmp 2] C72:=⟨Try.f72,_,k72,[],Try.func72,rfl,by kernel_rfl,rfl,rfl,by kernel_rfl,rfl⟩
def k73:List (List (List Nat)):=[[[]],[[],[0],[4],[5],[3,6],[7]]]
def C73:CC:=cq Try.f73 k73
theorem s73:Stripped Try.prog 73 8 [.cell 2 34] C73:=⟨Try.f73,_,k73,[],Try.func73,rfl,by kernel_rfl,rfl,rfl,by kernel_rfl,rfl⟩
def k74:List (List (List Nat)):=[[[0],[]],[[],[5],[],[7],[6,8],[9],[1],[11],[10,12],[13],[14],[15]]]
def C74:CC:=cq Try.f74 k74
theorem s74:Stripped Try.prog 74 16 [.tmp 4] C74:=⟨Try.f74,_,k74,[],Try.func74,rfl,by kernel_rfl,rfl,rfl,by kernel_rfl,rfl⟩
def k75:List (List (List Nat)):=[[[0]],[[],[4],[],[6],[],[8],[1],[10],[11],[9,12],[5,7],[13,14]]]
def C75:CC:=cq Try.f75 k75
theorem s75:Stripped Try.prog 75 15 [] C75:=⟨Try.f75,_,k75,[],Try.func75,rfl,by kernel_rfl,rfl,rfl,by kernel_rfl,rfl⟩
def k76:List (List (List Nat)):=[[[0],[]],[[],[9],[10],[11],[],[13],[14],[12,15],[16],[17]],[[],[18],[19],[20],[],[22],[21,23,24]],[[],[25],[26],[27],[],[28,29,30]],[[],[31],[]],[[]],[[],[35]],[[],[36],[37],[38],[39],[40]],[[],[41]],[[],[],[43],[44],[45],[46],[42,47]],[[],[51],[52],[53],[],[54,55],[56],[],[57,58],[59]],[[],[],[],[61,62,63,64]],[[],[],[],[65,66,67,68]],[[],[],[70],[71],[72],[],[74],[73,75],[69],[77],[76,78]],[[],[49],[50]],[[],[79]],[[],[80]]]
def C76:CC:=cq Try.f76 k76
theorem s76:Stripped Try.prog 76 81 [.tmp 4] C76:=⟨Try.f76,_,k76,[],Try.func76,rfl,by kernel_rfl,rfl,rfl,by kernel_rfl,rfl⟩
def k80:List (List (List Nat)):=[[[0],[1],[]],[[],[],[5,6],[7]]]
def C80:CC:=cq Try.f80 k80
theorem s80:Stripped Try.prog 80 8 [.cell 4 34] C80:=⟨Try.f80,_,k80,[],Try.func80,rfl,by kernel_rfl,rfl,rfl,by kernel_rfl,rfl⟩
def k81:List (List (List Nat)):=[[[0],[1],[]],[[],[],[5,6],[7],[8],[9],[10]]]
def C81:CC:=cq Try.f81 k81
theorem s81:Stripped Try.prog 81 11 [.tmp 4] C81:=⟨Try.f81,_,k81,[],Try.func81,rfl,by kernel_rfl,rfl,rfl,by kernel_rfl,rfl⟩
def k84:List (List (List Nat)):=[[[0],[]],[[],[5],[],[]],[[]],[[],[10],[11]],[[],[],[13],[12,14],[15]],[[],[16]],[[],[17]]]
def C84:CC:=cq Try.f84 k84
theorem s84:Stripped Try.prog 84 18 [.tmp 2] C84:=⟨Try.f84,_,k84,[],Try.func84,rfl,by kernel_rfl,rfl,rfl,by kernel_rfl,rfl⟩
def k85:List (List (List Nat)):=[[[]],[[],[4],[5]],[[]],[[],[7],[8]],[[]],[[]]]
def C85:CC:=cq Try.f85 k85
theorem s85:Stripped Try.prog 85 9 [.tmp 2] C85:=⟨Try.f85,_,k85,[],Try.func85,rfl,by kernel_rfl,rfl,rfl,by kernel_rfl,rfl⟩
def k86:List (List (List Nat)):=[[[]],[[0],[3],[4],[5]]]
def C86:CC:=cq Try.f86 k86
theorem s86:Stripped Try.prog 86 6 [.tmp 2] C86:=⟨Try.f86,_,k86,[],Try.func86,rfl,by kernel_rfl,rfl,rfl,by kernel_rfl,rfl⟩
def k87:List (List (List Nat)):=[[[0],[]],[[],[7],[8],[],[10],[11],[9,12],[],[13]],[[],[14],[15],[]],[[]],[[],[19]],[[],[20],[],[],[23],[24],[21,22],[25,26]],[[],[27],[],[]],[[]],[[],[],[33],[],[32],[34]],[[],[],[35,36]],[[],[38],[],[39,40],[41],[],[42,43,44]],[[],[45]],[[],[46]],[[],[47]]]
def C87:CC:=cq Try.f87 k87
theorem s87:Stripped Try.prog 87 48 [.cell 2 40] C87:=⟨Try.f87,_,k87,[],Try.func87,rfl,by kernel_rfl,rfl,rfl,by kernel_rfl,rfl⟩
def k91:List (List (List Nat)):=[[[0],[],[]],[[],[7],[8]],[[],[9]],[[],[],[11],[12]],[[],[],[14],[13,15]],[[],[17],[]],[[],[],[18,19],[20],[]]]
def C91:CC:=cq Try.f91 k91
theorem s91:Stripped Try.prog 91 21 [.cell 4 156,.tmp 5] C91:=⟨Try.f91,_,k91,[],Try.func91,rfl,by kernel_rfl,rfl,rfl,by kernel_rfl,rfl⟩
def k93:List (List (List Nat)):=[[[],[],[3],[4],[5],[6],[],[8],[9],[10],[],[12],[13],[14],[15],[11,16],[17],[7,18],[2],[20],[19,21]],[[],[22],[23],[24],[25],[26]],[[],[],[29],[30],[],[32],[33],[34],[35],[36],[37],[31,38],[28],[40],[39,41]]]
def C93:CC:=cq Try.f93 k93
theorem s93:Stripped Try.prog 93 42 [] C93:=⟨Try.f93,_,k93,[],Try.func93,rfl,by kernel_rfl,rfl,rfl,by kernel_rfl,rfl⟩
def k96:List (List (List Nat)):=[[[0],[]],[[],[11],[],[13],[14],[12,15]],[[]],[[],[],[]],[[]],[[],[21],[22]],[[],[23],[],[25],[24,26]],[[]],[[],[28]],[[],[],[]],[[]],[[],[33],[34]],[[],[],[]],[[]],[[],[39],[40]],[[],[41]],[[]],[[],[43]],[[],[44]],[[]]]
def C96:CC:=cq Try.f96 k96
theorem s96:Stripped Try.prog 96 45 [.tmp 4] C96:=⟨Try.f96,_,k96,[],Try.func96,rfl,by kernel_rfl,rfl,rfl,by kernel_rfl,rfl⟩
def k98:List (List (List Nat)):=[[[]],[[1],[8],[9],[],[7],[],[10],[11,6]],[[],[12],[0],[13],[14,15]],[[],[16]]]
def C98:CC:=cq Try.f98 k98
theorem s98:Stripped Try.prog 98 17 [.cell 4 34] C98:=⟨Try.f98,_,k98,[],Try.func98,rfl,by kernel_rfl,rfl,rfl,by kernel_rfl,rfl⟩
def k99:List (List (List Nat)):=[[[0],[]],[[],[8],[9],[],[10]],[[],[11],[]],[[]],[[],[15]],[[],[],[17],[16,18],[],[19]],[[20]],[[],[21],[],[23],[],[25],[24,26],[27],[22,28],[],[29,30]],[[],[31]],[[],[33],[34],[],[32],[],[35],[36,7]],[[],[37]]]
def C99:CC:=cq Try.f99 k99
theorem s99:Stripped Try.prog 99 38 [.cell 2 40] C99:=⟨Try.f99,_,k99,[],Try.func99,rfl,by kernel_rfl,rfl,rfl,by kernel_rfl,rfl⟩
def k100:List (List (List Nat)):=[[[]],[[],[5],[6],[0],[1],[8,9],[10],[7,11],[12]]]
def C100:CC:=cq Try.f100 k100
theorem s100:Stripped Try.prog 100 13 [.tmp 4] C100:=⟨Try.f100,_,k100,[],Try.func100,rfl,by kernel_rfl,rfl,rfl,by kernel_rfl,rfl⟩
def k101:List (List (List Nat)):=[[[],[6],[7],[8],[],[],[11],[12],[13],[],[],[16],[17],[18],[],[19,20],[21],[],[23],[24],[25],[],[26,27],[28],[9,10],[22,30],[14,15],[29,31]],[[],[32],[33],[34],[35],[36]],[[],[38],[39],[40],[],[],[43],[44],[45],[],[],[48],[49],[50],[],[51,52],[53],[],[55],[56],[57],[],[58,59],[60],[41,42],[54,62],[46,47],[61,63]]]
def C101:CC:=cq Try.f101 k101
theorem s101:Stripped Try.prog 101 64 [] C101:=⟨Try.f101,_,k101,[],Try.func101,rfl,by kernel_rfl,rfl,rfl,by kernel_rfl,rfl⟩
def k102:List (List (List Nat)):=[[[],[7],[8],[9],[10],[]],[[]],[[],[14]],[[],[],[15,16],[17],[],[19],[20],[21],[],[22,23],[24],[],[25,26],[27],[18,28]],[[],[30],[31],[32],[],[],[35],[36],[37],[],[38,39],[40],[],[42],[43],[44],[],[45,46],[47],[41,48],[33,34],[49,50]],[[],[51],[52],[53],[54],[55]],[[],[57],[58],[59],[],[],[62],[63],[64],[],[65,66],[67],[],[69],[70],[71],[],[72,73],[74],[68,75],[60,61],[76,77]],[[],[78]]]
def C102:CC:=cq Try.f102 k102
theorem s102:Stripped Try.prog 102 79 [] C102:=⟨Try.f102,_,k102,[],Try.func102,rfl,by kernel_rfl,rfl,rfl,by kernel_rfl,rfl⟩
def k104:List (List (List Nat)):=[[[0],[1],[]],[[],[9],[10],[],[11]],[[],[12],[13],[]],[[]],[[],[17]],[[],[18],[],[],[],[22],[],[23,24],[25],[],[27],[],[28,29],[30],[21,26,31],[19,20],[32,33]],[[],[34]],[[],[35]]]
def C104:CC:=cq Try.f104 k104
theorem s104:Stripped Try.prog 104 36 [.cell 6 34] C104:=⟨Try.f104,_,k104,[],Try.func104,rfl,by kernel_rfl,rfl,rfl,by kernel_rfl,rfl⟩
def k105:List (List (List Nat)):=[[[]],[[0],[1],[5,6],[7]]]
def C105:CC:=cq Try.f105 k105
theorem s105:Stripped Try.prog 105 8 [.tmp 4] C105:=⟨Try.f105,_,k105,[],Try.func105,rfl,by kernel_rfl,rfl,rfl,by kernel_rfl,rfl⟩
def k106:List (List (List Nat)):=[[[]],[[0],[1],[5,6],[7]]]
def C106:CC:=cq Try.f106 k106
theorem s106:Stripped Try.prog 106 8 [.tmp 4] C106:=⟨Try.f106,_,k106,[],Try.func106,rfl,by kernel_rfl,rfl,rfl,by kernel_rfl,rfl⟩
def k108:List (List (List Nat)):=[[[]],[[],[3],[4],[],[6],[5,7],[8]],[[],[9],[10],[],[12],[11,13],[14]],[[],[15],[],[16,17],[18],[19]],[[],[],[21],[20,22],[23]],[[],[],[25],[24,26],[27]],[[],[],[29],[28,30],[31]],[[],[32],[33],[34]]]
def C108:CC:=cq Try.f108 k108
theorem s108:Stripped Try.prog 108 35 [.tmp 2] C108:=⟨Try.f108,_,k108,[],Try.func108,rfl,by kernel_rfl,rfl,rfl,by kernel_rfl,rfl⟩
def k110:List (List (List Nat)):=[[[]],[[0],[3],[4],[5],[6]]]
def C110:CC:=cq Try.f110 k110
theorem s110:Stripped Try.prog 110 7 [.tmp 2] C110:=⟨Try.f110,_,k110,[],Try.func110,rfl,by kernel_rfl,rfl,rfl,by kernel_rfl,rfl⟩
end Go.Proofs.Ytddaobhpffpmoaa
namespace Go.Proofs.Ytddaobhpffpmoaa
open Go.Abs
theorem mixed:Try.prog.follows .mixedOrders=true:=by kernel_rfl
end Go.Proofs.Ytddaobhpffpmoaa
