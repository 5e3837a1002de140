/-
  The types of this seat's program, as the general library reads them.
-/
import Derived.Test.YtddaobhpffpmoaaSR4QMc
import Derived.Test.YtddaobhpffpmoaaRows
set_option linter.all false
namespace Go.Proofs.Ytddaobhpffpmoaa
open Go.Abs
instance glI:Gl:={ dat:=fun _=>none,obj:=fun t ps=>match ps with|[(0,.tmp 166),(1,.tmp 168)]=>Nat.beq t 38|_=>false }
theorem Try.ti2:tinf Try.prog 2=some ⟨.int .i64,1,8,some [.int .i64 0],none⟩:=by kernel_rfl
theorem Try.ti3:tinf Try.prog 3=some ⟨.int .i64,1,8,some [.int .i64 0],none⟩:=by kernel_rfl
theorem Try.ti4:tinf Try.prog 4=some ⟨.bool,1,1,some [.bool false],none⟩:=by kernel_rfl
theorem Try.ti5:tinf Try.prog 5=some ⟨.int .u8,1,1,some [.int .u8 0],none⟩:=by kernel_rfl
theorem Try.ti6:tinf Try.prog 6=some ⟨.int .u8,1,1,some [.int .u8 0],none⟩:=by kernel_rfl
theorem Try.ti7:tinf Try.prog 7=some ⟨.struct [(0,2),(1,3),(2,4),(3,6)],4,24,some [.int .i64 0,.int .i64 0,.bool false,.int .u8 0],some [.int,.int,.bool,.int]⟩:=by kernel_rfl
theorem Try.ti8:tinf Try.prog 8=some ⟨.struct [(0,2),(1,3),(2,4),(3,6)],4,24,some [.int .i64 0,.int .i64 0,.bool false,.int .u8 0],some [.int,.int,.bool,.int]⟩:=by kernel_rfl
theorem Try.ti9:tinf Try.prog 9=some ⟨.string,1,16,some [.str []],none⟩:=by kernel_rfl
theorem Try.ti10:tinf Try.prog 10=some ⟨.string,1,16,some [.str []],none⟩:=by kernel_rfl
theorem Try.ti11:tinf Try.prog 11=some ⟨.string,1,16,some [.str []],none⟩:=by kernel_rfl
theorem Try.ti12:tinf Try.prog 12=some ⟨.int .u64,1,8,some [.int .u64 0],none⟩:=by kernel_rfl
theorem Try.ti13:tinf Try.prog 13=some ⟨.struct [(0,9),(1,12)],2,24,some [.str [],.int .u64 0],none⟩:=by kernel_rfl
theorem Try.ti14:tinf Try.prog 14=some ⟨.struct [(0,9),(1,12)],2,24,some [.str [],.int .u64 0],none⟩:=by kernel_rfl
theorem Try.ti15:tinf Try.prog 15=some ⟨.ptr 178,1,8,some [.nilp],none⟩:=by kernel_rfl
theorem Try.ti16:tinf Try.prog 16=some ⟨.ptr 181,1,8,some [.nilp],none⟩:=by kernel_rfl
theorem Try.ti17:tinf Try.prog 17=some ⟨.ptr 189,1,8,some [.nilp],none⟩:=by kernel_rfl
theorem Try.ti18:tinf Try.prog 18=some ⟨.struct [(0,17)],1,8,some [.nilp],none⟩:=by kernel_rfl
theorem Try.ti19:tinf Try.prog 19=some ⟨.struct [(0,17)],1,8,some [.nilp],none⟩:=by kernel_rfl
theorem Try.ti20:tinf Try.prog 20=some ⟨.other,1,16,some [.junk],none⟩:=by kernel_rfl
theorem Try.ti21:tinf Try.prog 21=some ⟨.int .i32,1,4,some [.int .i32 0],none⟩:=by kernel_rfl
theorem Try.ti22:tinf Try.prog 22=some ⟨.slice 5,1,24,some [.imm [] 0 (some 0)],none⟩:=by kernel_rfl
theorem Try.ti23:tinf Try.prog 23=some ⟨.struct [(0,5),(1,5),(2,22)],3,32,some [.int .u8 0,.int .u8 0,.imm [] 0 (some 0)],none⟩:=by kernel_rfl
theorem Try.ti24:tinf Try.prog 24=some ⟨.struct [(0,5),(1,5),(2,22)],3,32,some [.int .u8 0,.int .u8 0,.imm [] 0 (some 0)],none⟩:=by kernel_rfl
theorem Try.ti25:tinf Try.prog 25=some ⟨.func,1,8,some [.nilf],none⟩:=by kernel_rfl
theorem Try.ti26:tinf Try.prog 26=some ⟨.func,1,8,some [.nilf],none⟩:=by kernel_rfl
theorem Try.ti27:tinf Try.prog 27=some ⟨.other,1,0,none,none⟩:=by kernel_rfl
theorem Try.ti28:tinf Try.prog 28=some ⟨.func,1,8,some [.nilf],none⟩:=by kernel_rfl
theorem Try.ti29:tinf Try.prog 29=some ⟨.slice 22,1,24,some [.imm [] 0 (some 0)],none⟩:=by kernel_rfl
theorem Try.ti30:tinf Try.prog 30=some ⟨.slice 22,1,24,some [.imm [] 0 (some 0)],none⟩:=by kernel_rfl
theorem Try.ti31:tinf Try.prog 31=some ⟨.func,1,8,some [.nilf],none⟩:=by kernel_rfl
theorem Try.ti32:tinf Try.prog 32=some ⟨.slice 85,1,24,some [.imm [] 0 (some 0)],none⟩:=by kernel_rfl
theorem Try.ti33:tinf Try.prog 33=some ⟨.struct [(0,3),(1,32)],2,32,some [.int .i64 0,.imm [] 0 (some 0)],none⟩:=by kernel_rfl
theorem Try.ti34:tinf Try.prog 34=some ⟨.struct [(0,3),(1,32)],2,32,some [.int .i64 0,.imm [] 0 (some 0)],none⟩:=by kernel_rfl
theorem Try.ti35:tinf Try.prog 35=some ⟨.int .i64,1,8,some [.int .i64 0],none⟩:=by kernel_rfl
theorem Try.ti36:tinf Try.prog 36=some ⟨.other,1,0,none,none⟩:=by kernel_rfl
theorem Try.ti37:tinf Try.prog 37=some ⟨.func,1,8,some [.nilf],none⟩:=by kernel_rfl
theorem Try.ti38:tinf Try.prog 38=some ⟨.slice 34,1,24,some [.imm [] 0 (some 0)],none⟩:=by kernel_rfl
theorem Try.ti39:tinf Try.prog 39=some ⟨.struct [(0,3),(1,38)],2,32,some [.int .i64 0,.imm [] 0 (some 0)],none⟩:=by kernel_rfl
theorem Try.ti40:tinf Try.prog 40=some ⟨.struct [(0,3),(1,38)],2,32,some [.int .i64 0,.imm [] 0 (some 0)],none⟩:=by kernel_rfl
theorem Try.ti41:tinf Try.prog 41=some ⟨.func,1,8,some [.nilf],none⟩:=by kernel_rfl
theorem Try.ti42:tinf Try.prog 42=some ⟨.func,1,8,some [.nilf],none⟩:=by kernel_rfl
theorem Try.ti43:tinf Try.prog 43=some ⟨.other,1,0,none,none⟩:=by kernel_rfl
theorem Try.ti44:tinf Try.prog 44=some ⟨.func,1,8,some [.nilf],none⟩:=by kernel_rfl
theorem Try.ti45:tinf Try.prog 45=some ⟨.other,1,0,none,none⟩:=by kernel_rfl
theorem Try.ti46:tinf Try.prog 46=some ⟨.func,1,8,some [.nilf],none⟩:=by kernel_rfl
theorem Try.ti47:tinf Try.prog 47=some ⟨.func,1,8,some [.nilf],none⟩:=by kernel_rfl
theorem Try.ti48:tinf Try.prog 48=some ⟨.func,1,8,some [.nilf],none⟩:=by kernel_rfl
theorem Try.ti49:tinf Try.prog 49=some ⟨.func,1,8,some [.nilf],none⟩:=by kernel_rfl
theorem Try.ti50:tinf Try.prog 50=some ⟨.func,1,8,some [.nilf],none⟩:=by kernel_rfl
theorem Try.ti51:tinf Try.prog 51=some ⟨.func,1,8,some [.nilf],none⟩:=by kernel_rfl
theorem Try.ti52:tinf Try.prog 52=some ⟨.func,1,8,some [.nilf],none⟩:=by kernel_rfl
theorem Try.ti53:tinf Try.prog 53=some ⟨.other,1,0,none,none⟩:=by kernel_rfl
theorem Try.ti54:tinf Try.prog 54=some ⟨.func,1,8,some [.nilf],none⟩:=by kernel_rfl
theorem Try.ti55:tinf Try.prog 55=some ⟨.func,1,8,some [.nilf],none⟩:=by kernel_rfl
theorem Try.ti56:tinf Try.prog 56=some ⟨.func,1,8,some [.nilf],none⟩:=by kernel_rfl
theorem Try.ti57:tinf Try.prog 57=some ⟨.func,1,8,some [.nilf],none⟩:=by kernel_rfl
theorem Try.ti58:tinf Try.prog 58=some ⟨.func,1,8,some [.nilf],none⟩:=by kernel_rfl
theorem Try.ti59:tinf Try.prog 59=some ⟨.func,1,8,some [.nilf],none⟩:=by kernel_rfl
theorem Try.ti60:tinf Try.prog 60=some ⟨.slice 3,1,24,some [.imm [] 0 (some 0)],none⟩:=by kernel_rfl
theorem Try.ti61:tinf Try.prog 61=some ⟨.func,1,8,some [.nilf],none⟩:=by kernel_rfl
theorem Try.ti62:tinf Try.prog 62=some ⟨.other,1,0,none,none⟩:=by kernel_rfl
theorem Try.ti63:tinf Try.prog 63=some ⟨.func,1,8,some [.nilf],none⟩:=by kernel_rfl
theorem Try.ti64:tinf Try.prog 64=some ⟨.func,1,8,some [.nilf],none⟩:=by kernel_rfl
theorem Try.ti65:tinf Try.prog 65=some ⟨.func,1,8,some [.nilf],none⟩:=by kernel_rfl
theorem Try.ti66:tinf Try.prog 66=some ⟨.func,1,8,some [.nilf],none⟩:=by kernel_rfl
theorem Try.ti67:tinf Try.prog 67=some ⟨.func,1,8,some [.nilf],none⟩:=by kernel_rfl
theorem Try.ti68:tinf Try.prog 68=some ⟨.func,1,8,some [.nilf],none⟩:=by kernel_rfl
theorem Try.ti69:tinf Try.prog 69=some ⟨.func,1,8,some [.nilf],none⟩:=by kernel_rfl
theorem Try.ti70:tinf Try.prog 70=some ⟨.func,1,8,some [.nilf],none⟩:=by kernel_rfl
theorem Try.ti71:tinf Try.prog 71=some ⟨.func,1,8,some [.nilf],none⟩:=by kernel_rfl
theorem Try.ti72:tinf Try.prog 72=some ⟨.func,1,8,some [.nilf],none⟩:=by kernel_rfl
theorem Try.ti73:tinf Try.prog 73=some ⟨.func,1,8,some [.nilf],none⟩:=by kernel_rfl
theorem Try.ti74:tinf Try.prog 74=some ⟨.struct [(0,3),(1,32)],2,32,some [.int .i64 0,.imm [] 0 (some 0)],none⟩:=by kernel_rfl
theorem Try.ti75:tinf Try.prog 75=some ⟨.slice 74,1,24,some [.imm [] 0 (some 0)],none⟩:=by kernel_rfl
theorem Try.ti76:tinf Try.prog 76=some ⟨.struct [(0,3),(1,75)],2,32,some [.int .i64 0,.imm [] 0 (some 0)],none⟩:=by kernel_rfl
theorem Try.ti77:tinf Try.prog 77=some ⟨.struct [(0,3),(1,75)],2,32,some [.int .i64 0,.imm [] 0 (some 0)],none⟩:=by kernel_rfl
theorem Try.ti78:tinf Try.prog 78=some ⟨.func,1,8,some [.nilf],none⟩:=by kernel_rfl
theorem Try.ti79:tinf Try.prog 79=some ⟨.func,1,8,some [.nilf],none⟩:=by kernel_rfl
theorem Try.ti80:tinf Try.prog 80=some ⟨.func,1,8,some [.nilf],none⟩:=by kernel_rfl
theorem Try.ti81:tinf Try.prog 81=some ⟨.func,1,8,some [.nilf],none⟩:=by kernel_rfl
theorem Try.ti82:tinf Try.prog 82=some ⟨.func,1,8,some [.nilf],none⟩:=by kernel_rfl
theorem Try.ti83:tinf Try.prog 83=some ⟨.func,1,8,some [.nilf],none⟩:=by kernel_rfl
theorem Try.ti84:tinf Try.prog 84=some ⟨.func,1,8,some [.nilf],none⟩:=by kernel_rfl
theorem Try.ti85:tinf Try.prog 85=some ⟨.int .u64,1,8,some [.int .u64 0],none⟩:=by kernel_rfl
theorem Try.ti86:tinf Try.prog 86=some ⟨.struct [(0,5),(1,85)],2,16,some [.int .u8 0,.int .u64 0],some [.int,.int]⟩:=by kernel_rfl
theorem Try.ti87:tinf Try.prog 87=some ⟨.struct [(0,5),(1,85)],2,16,some [.int .u8 0,.int .u64 0],some [.int,.int]⟩:=by kernel_rfl
theorem Try.ti88:tinf Try.prog 88=some ⟨.array 2 85,2,16,some [.int .u64 0,.int .u64 0],none⟩:=by kernel_rfl
theorem Try.ti89:tinf Try.prog 89=some ⟨.int .u16,1,2,some [.int .u16 0],none⟩:=by kernel_rfl
theorem Try.ti90:tinf Try.prog 90=some ⟨.struct [(0,3),(1,85)],2,16,some [.int .i64 0,.int .u64 0],some [.int,.int]⟩:=by kernel_rfl
theorem Try.ti91:tinf Try.prog 91=some ⟨.struct [(0,3),(1,85)],2,16,some [.int .i64 0,.int .u64 0],some [.int,.int]⟩:=by kernel_rfl
theorem Try.ti92:tinf Try.prog 92=some ⟨.func,1,8,some [.nilf],none⟩:=by kernel_rfl
theorem Try.ti93:tinf Try.prog 93=some ⟨.func,1,8,some [.nilf],none⟩:=by kernel_rfl
theorem Try.ti94:tinf Try.prog 94=some ⟨.func,1,8,some [.nilf],none⟩:=by kernel_rfl
theorem Try.ti95:tinf Try.prog 95=some ⟨.func,1,8,some [.nilf],none⟩:=by kernel_rfl
theorem Try.ti96:tinf Try.prog 96=some ⟨.other,1,0,none,none⟩:=by kernel_rfl
theorem Try.ti97:tinf Try.prog 97=some ⟨.func,1,8,some [.nilf],none⟩:=by kernel_rfl
theorem Try.ti98:tinf Try.prog 98=some ⟨.func,1,8,some [.nilf],none⟩:=by kernel_rfl
theorem Try.ti99:tinf Try.prog 99=some ⟨.struct [(0,87),(2,32),(3,5)],4,48,some [.int .u8 0,.int .u64 0,.imm [] 0 (some 0),.int .u8 0],none⟩:=by kernel_rfl
theorem Try.ti100:tinf Try.prog 100=some ⟨.struct [(0,87),(2,32),(3,5)],4,48,some [.int .u8 0,.int .u64 0,.imm [] 0 (some 0),.int .u8 0],none⟩:=by kernel_rfl
theorem Try.ti101:tinf Try.prog 101=some ⟨.struct [(0,91),(2,32),(3,3)],4,48,some [.int .i64 0,.int .u64 0,.imm [] 0 (some 0),.int .i64 0],none⟩:=by kernel_rfl
theorem Try.ti102:tinf Try.prog 102=some ⟨.struct [(0,91),(2,32),(3,3)],4,48,some [.int .i64 0,.int .u64 0,.imm [] 0 (some 0),.int .i64 0],none⟩:=by kernel_rfl
theorem Try.ti103:tinf Try.prog 103=some ⟨.func,1,8,some [.nilf],none⟩:=by kernel_rfl
theorem Try.ti104:tinf Try.prog 104=some ⟨.slice 110,1,24,some [.imm [] 0 (some 0)],none⟩:=by kernel_rfl
theorem Try.ti105:tinf Try.prog 105=some ⟨.other,1,0,none,none⟩:=by kernel_rfl
theorem Try.ti106:tinf Try.prog 106=some ⟨.func,1,8,some [.nilf],none⟩:=by kernel_rfl
theorem Try.ti107:tinf Try.prog 107=some ⟨.func,1,8,some [.nilf],none⟩:=by kernel_rfl
theorem Try.ti108:tinf Try.prog 108=some ⟨.func,1,8,some [.nilf],none⟩:=by kernel_rfl
theorem Try.ti109:tinf Try.prog 109=some ⟨.func,1,8,some [.nilf],none⟩:=by kernel_rfl
theorem Try.ti110:tinf Try.prog 110=some ⟨.slice 111,1,24,some [.imm [] 0 (some 0)],none⟩:=by kernel_rfl
theorem Try.ti111:tinf Try.prog 111=some ⟨.int .u8,1,1,some [.int .u8 0],none⟩:=by kernel_rfl
theorem Try.ti112:tinf Try.prog 112=some ⟨.func,1,8,some [.nilf],none⟩:=by kernel_rfl
theorem Try.ti113:tinf Try.prog 113=some ⟨.func,1,8,some [.nilf],none⟩:=by kernel_rfl
theorem Try.ti114:tinf Try.prog 114=some ⟨.func,1,8,some [.nilf],none⟩:=by kernel_rfl
theorem Try.ti115:tinf Try.prog 115=some ⟨.func,1,8,some [.nilf],none⟩:=by kernel_rfl
theorem Try.ti116:tinf Try.prog 116=some ⟨.func,1,8,some [.nilf],none⟩:=by kernel_rfl
theorem Try.ti117:tinf Try.prog 117=some ⟨.func,1,8,some [.nilf],none⟩:=by kernel_rfl
theorem Try.ti118:tinf Try.prog 118=some ⟨.struct [(0,3),(1,85),(2,32),(3,3),(4,85),(5,3)],6,64,some [.int .i64 0,.int .u64 0,.imm [] 0 (some 0),.int .i64 0,.int .u64 0,.int .i64 0],none⟩:=by kernel_rfl
theorem Try.ti119:tinf Try.prog 119=some ⟨.struct [(0,3),(1,85),(2,32),(3,3),(4,85),(5,3)],6,64,some [.int .i64 0,.int .u64 0,.imm [] 0 (some 0),.int .i64 0,.int .u64 0,.int .i64 0],none⟩:=by kernel_rfl
theorem Try.ti120:tinf Try.prog 120=some ⟨.func,1,8,some [.nilf],none⟩:=by kernel_rfl
theorem Try.ti121:tinf Try.prog 121=some ⟨.func,1,8,some [.nilf],none⟩:=by kernel_rfl
theorem Try.ti122:tinf Try.prog 122=some ⟨.func,1,8,some [.nilf],none⟩:=by kernel_rfl
theorem Try.ti123:tinf Try.prog 123=some ⟨.func,1,8,some [.nilf],none⟩:=by kernel_rfl
theorem Try.ti124:tinf Try.prog 124=some ⟨.func,1,8,some [.nilf],none⟩:=by kernel_rfl
theorem Try.ti125:tinf Try.prog 125=some ⟨.func,1,8,some [.nilf],none⟩:=by kernel_rfl
theorem Try.ti126:tinf Try.prog 126=some ⟨.func,1,8,some [.nilf],none⟩:=by kernel_rfl
theorem Try.ti127:tinf Try.prog 127=some ⟨.int .u64,1,8,some [.int .u64 0],none⟩:=by kernel_rfl
theorem Try.ti128:tinf Try.prog 128=some ⟨.slice 24,1,24,some [.imm [] 0 (some 0)],none⟩:=by kernel_rfl
theorem Try.ti129:tinf Try.prog 129=some ⟨.func,1,8,some [.nilf],none⟩:=by kernel_rfl
theorem Try.ti130:tinf Try.prog 130=some ⟨.func,1,8,some [.nilf],none⟩:=by kernel_rfl
theorem Try.ti131:tinf Try.prog 131=some ⟨.func,1,8,some [.nilf],none⟩:=by kernel_rfl
theorem Try.ti132:tinf Try.prog 132=some ⟨.ptr 135,1,8,some [.nilp],none⟩:=by kernel_rfl
theorem Try.ti133:tinf Try.prog 133=some ⟨.func,1,8,some [.nilf],none⟩:=by kernel_rfl
theorem Try.ti134:tinf Try.prog 134=some ⟨.struct [(0,38),(1,38),(2,60)],3,72,some [.imm [] 0 (some 0),.imm [] 0 (some 0),.imm [] 0 (some 0)],none⟩:=by kernel_rfl
theorem Try.ti135:tinf Try.prog 135=some ⟨.struct [(0,38),(1,38),(2,60)],3,72,some [.imm [] 0 (some 0),.imm [] 0 (some 0),.imm [] 0 (some 0)],none⟩:=by kernel_rfl
theorem Try.ti136:tinf Try.prog 136=some ⟨.func,1,8,some [.nilf],none⟩:=by kernel_rfl
theorem Try.ti137:tinf Try.prog 137=some ⟨.func,1,8,some [.nilf],none⟩:=by kernel_rfl
theorem Try.ti138:tinf Try.prog 138=some ⟨.func,1,8,some [.nilf],none⟩:=by kernel_rfl
theorem Try.ti139:tinf Try.prog 139=some ⟨.func,1,8,some [.nilf],none⟩:=by kernel_rfl
theorem Try.ti140:tinf Try.prog 140=some ⟨.func,1,8,some [.nilf],none⟩:=by kernel_rfl
theorem Try.ti141:tinf Try.prog 141=some ⟨.ptr 143,1,8,some [.nilp],none⟩:=by kernel_rfl
theorem Try.ti142:tinf Try.prog 142=some ⟨.struct [(0,141),(1,22)],2,32,some [.nilp,.imm [] 0 (some 0)],none⟩:=by kernel_rfl
theorem Try.ti143:tinf Try.prog 143=some ⟨.struct [(0,141),(1,22)],2,32,some [.nilp,.imm [] 0 (some 0)],none⟩:=by kernel_rfl
theorem Try.ti144:tinf Try.prog 144=some ⟨.other,1,16,some [.junk],none⟩:=by kernel_rfl
theorem Try.ti145:tinf Try.prog 145=some ⟨.other,1,16,some [.junk],none⟩:=by kernel_rfl
theorem Try.ti146:tinf Try.prog 146=some ⟨.func,1,8,some [.nilf],none⟩:=by kernel_rfl
theorem Try.ti147:tinf Try.prog 147=some ⟨.func,1,8,some [.nilf],none⟩:=by kernel_rfl
theorem Try.ti148:tinf Try.prog 148=some ⟨.func,1,8,some [.nilf],none⟩:=by kernel_rfl
theorem Try.ti149:tinf Try.prog 149=some ⟨.func,1,8,some [.nilf],none⟩:=by kernel_rfl
theorem Try.ti150:tinf Try.prog 150=some ⟨.func,1,8,some [.nilf],none⟩:=by kernel_rfl
theorem Try.ti151:tinf Try.prog 151=some ⟨.slice 40,1,24,some [.imm [] 0 (some 0)],none⟩:=by kernel_rfl
theorem Try.ti152:tinf Try.prog 152=some ⟨.func,1,8,some [.nilf],none⟩:=by kernel_rfl
theorem Try.ti153:tinf Try.prog 153=some ⟨.func,1,8,some [.nilf],none⟩:=by kernel_rfl
theorem Try.ti154:tinf Try.prog 154=some ⟨.func,1,8,some [.nilf],none⟩:=by kernel_rfl
theorem Try.ti155:tinf Try.prog 155=some ⟨.struct [(0,91),(2,85)],3,24,some [.int .i64 0,.int .u64 0,.int .u64 0],some [.int,.int,.int]⟩:=by kernel_rfl
theorem Try.ti156:tinf Try.prog 156=some ⟨.struct [(0,91),(2,85)],3,24,some [.int .i64 0,.int .u64 0,.int .u64 0],some [.int,.int,.int]⟩:=by kernel_rfl
theorem Try.ti157:tinf Try.prog 157=some ⟨.other,1,0,none,none⟩:=by kernel_rfl
theorem Try.ti158:tinf Try.prog 158=some ⟨.func,1,8,some [.nilf],none⟩:=by kernel_rfl
theorem Try.ti159:tinf Try.prog 159=some ⟨.func,1,8,some [.nilf],none⟩:=by kernel_rfl
theorem Try.ti160:tinf Try.prog 160=some ⟨.func,1,8,some [.nilf],none⟩:=by kernel_rfl
theorem Try.ti161:tinf Try.prog 161=some ⟨.func,1,8,some [.nilf],none⟩:=by kernel_rfl
theorem Try.ti162:tinf Try.prog 162=some ⟨.func,1,8,some [.nilf],none⟩:=by kernel_rfl
theorem Try.ti163:tinf Try.prog 163=some ⟨.func,1,8,some [.nilf],none⟩:=by kernel_rfl
theorem Try.ti164:tinf Try.prog 164=some ⟨.func,1,8,some [.nilf],none⟩:=by kernel_rfl
theorem Try.ti165:tinf Try.prog 165=some ⟨.func,1,8,some [.nilf],none⟩:=by kernel_rfl
theorem Try.ti166:tinf Try.prog 166=some ⟨.func,1,8,some [.nilf],none⟩:=by kernel_rfl
theorem Try.ti167:tinf Try.prog 167=some ⟨.func,1,8,some [.nilf],none⟩:=by kernel_rfl
theorem Try.ti168:tinf Try.prog 168=some ⟨.func,1,8,some [.nilf],none⟩:=by kernel_rfl
theorem Try.ti169:tinf Try.prog 169=some ⟨.func,1,8,some [.nilf],none⟩:=by kernel_rfl
theorem Try.ti170:tinf Try.prog 170=some ⟨.func,1,8,some [.nilf],none⟩:=by kernel_rfl
theorem Try.ti171:tinf Try.prog 171=some ⟨.ptr 5,1,8,some [.nilp],none⟩:=by kernel_rfl
theorem Try.ti172:tinf Try.prog 172=some ⟨.func,1,8,some [.nilf],none⟩:=by kernel_rfl
theorem Try.ti173:tinf Try.prog 173=some ⟨.func,1,8,some [.nilf],none⟩:=by kernel_rfl
theorem Try.ti174:tinf Try.prog 174=some ⟨.ptr 156,1,8,some [.nilp],none⟩:=by kernel_rfl
theorem Try.ti175:tinf Try.prog 175=some ⟨.other,1,8,some [.nilp],none⟩:=by kernel_rfl
theorem Try.ti176:tinf Try.prog 176=some ⟨.func,1,8,some [.nilf],none⟩:=by kernel_rfl
theorem Try.ti177:tinf Try.prog 177=some ⟨.struct [(0,17),(1,17),(2,17),(3,9)],4,40,some [.nilp,.nilp,.nilp,.str []],none⟩:=by kernel_rfl
theorem Try.ti178:tinf Try.prog 178=some ⟨.struct [(0,17),(1,17),(2,17),(3,9)],4,40,some [.nilp,.nilp,.nilp,.str []],none⟩:=by kernel_rfl
theorem Try.ti179:tinf Try.prog 179=some ⟨.array 0 16,0,0,some [],none⟩:=by kernel_rfl
theorem Try.ti180:tinf Try.prog 180=some ⟨.struct [(0,179)],0,0,some [],none⟩:=by kernel_rfl
theorem Try.ti181:tinf Try.prog 181=some ⟨.struct [(0,179)],0,0,some [],none⟩:=by kernel_rfl
theorem Try.ti182:tinf Try.prog 182=some ⟨.int .u32,1,4,some [.int .u32 0],none⟩:=by kernel_rfl
theorem Try.ti183:tinf Try.prog 183=some ⟨.int .u8,1,1,some [.int .u8 0],none⟩:=by kernel_rfl
theorem Try.ti184:tinf Try.prog 184=some ⟨.int .u8,1,1,some [.int .u8 0],none⟩:=by kernel_rfl
theorem Try.ti185:tinf Try.prog 185=some ⟨.func,1,8,some [.nilf],none⟩:=by kernel_rfl
theorem Try.ti186:tinf Try.prog 186=some ⟨.int .i32,1,4,some [.int .i32 0],none⟩:=by kernel_rfl
theorem Try.ti187:tinf Try.prog 187=some ⟨.int .i32,1,4,some [.int .i32 0],none⟩:=by kernel_rfl
theorem Try.ti188:tinf Try.prog 188=some ⟨.struct [(0,12),(1,12),(2,182),(3,183),(4,5),(5,5),(6,184),(7,185),(8,171),(9,186),(10,187)],11,48,some [.int .u64 0,.int .u64 0,.int .u32 0,.int .u8 0,.int .u8 0,.int .u8 0,.int .u8 0,.nilf,.nilp,.int .i32 0,.int .i32 0],none⟩:=by kernel_rfl
theorem Try.ti189:tinf Try.prog 189=some ⟨.struct [(0,12),(1,12),(2,182),(3,183),(4,5),(5,5),(6,184),(7,185),(8,171),(9,186),(10,187)],11,48,some [.int .u64 0,.int .u64 0,.int .u32 0,.int .u8 0,.int .u8 0,.int .u8 0,.int .u8 0,.nilf,.nilp,.int .i32 0,.int .i32 0],none⟩:=by kernel_rfl
end Go.Proofs.Ytddaobhpffpmoaa
