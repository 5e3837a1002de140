/-
  What the proof stands on.
-/
import Derived.Test.YtfcbahfdgopgfaaKR9QMc
import Derived.Test.YtfcbahfdgopgfaaRows
set_option linter.all false
noncomputable section
namespace Go.Proofs.Ytfcbahfdgopgfaa
open Go.Abs
instance glI:Gl:=⟨fun _=>none,fun _ _=>false⟩
theorem Try.ti2:tinf Try.prog 2=some ⟨.int .i64,1,8,some [.int .i64 0],none⟩:=by kernel_rfl
theorem Try.ti3:tinf Try.prog 3=some ⟨.int .i64,1,8,some [.int .i64 0],none⟩:=by kernel_rfl
theorem Try.ti4:tinf Try.prog 4=some ⟨.bool,1,1,some [.bool false],none⟩:=by kernel_rfl
theorem Try.ti5:tinf Try.prog 5=some ⟨.int .u8,1,1,some [.int .u8 0],none⟩:=by kernel_rfl
theorem Try.ti6:tinf Try.prog 6=some ⟨.int .u8,1,1,some [.int .u8 0],none⟩:=by kernel_rfl
theorem Try.ti7:tinf Try.prog 7=some ⟨.struct [(0,2),(1,3),(2,4),(3,6)],4,24,some [.int .i64 0,.int .i64 0,.bool false,.int .u8 0],some [.int,.int,.bool,.int]⟩:=by kernel_rfl
theorem Try.ti8:tinf Try.prog 8=some ⟨.struct [(0,2),(1,3),(2,4),(3,6)],4,24,some [.int .i64 0,.int .i64 0,.bool false,.int .u8 0],some [.int,.int,.bool,.int]⟩:=by kernel_rfl
theorem Try.ti9:tinf Try.prog 9=some ⟨.string,1,16,some [.str []],none⟩:=by kernel_rfl
theorem Try.ti10:tinf Try.prog 10=some ⟨.string,1,16,some [.str []],none⟩:=by kernel_rfl
theorem Try.ti11:tinf Try.prog 11=some ⟨.string,1,16,some [.str []],none⟩:=by kernel_rfl
theorem Try.ti12:tinf Try.prog 12=some ⟨.int .u64,1,8,some [.int .u64 0],none⟩:=by kernel_rfl
theorem Try.ti13:tinf Try.prog 13=some ⟨.struct [(0,9),(1,12)],2,24,some [.str [],.int .u64 0],none⟩:=by kernel_rfl
theorem Try.ti14:tinf Try.prog 14=some ⟨.struct [(0,9),(1,12)],2,24,some [.str [],.int .u64 0],none⟩:=by kernel_rfl
theorem Try.ti15:tinf Try.prog 15=some ⟨.ptr 92,1,8,some [.nilp],none⟩:=by kernel_rfl
theorem Try.ti16:tinf Try.prog 16=some ⟨.ptr 95,1,8,some [.nilp],none⟩:=by kernel_rfl
theorem Try.ti17:tinf Try.prog 17=some ⟨.ptr 104,1,8,some [.nilp],none⟩:=by kernel_rfl
theorem Try.ti18:tinf Try.prog 18=some ⟨.struct [(0,17)],1,8,some [.nilp],none⟩:=by kernel_rfl
theorem Try.ti19:tinf Try.prog 19=some ⟨.struct [(0,17)],1,8,some [.nilp],none⟩:=by kernel_rfl
theorem Try.ti20:tinf Try.prog 20=some ⟨.other,1,16,some [.junk],none⟩:=by kernel_rfl
theorem Try.ti21:tinf Try.prog 21=some ⟨.int .i32,1,4,some [.int .i32 0],none⟩:=by kernel_rfl
theorem Try.ti22:tinf Try.prog 22=some ⟨.slice 51,1,24,some [.imm [] 0 (some 0)],none⟩:=by kernel_rfl
theorem Try.ti23:tinf Try.prog 23=some ⟨.struct [(0,5),(1,22)],2,32,some [.int .u8 0,.imm [] 0 (some 0)],none⟩:=by kernel_rfl
theorem Try.ti24:tinf Try.prog 24=some ⟨.struct [(0,5),(1,22)],2,32,some [.int .u8 0,.imm [] 0 (some 0)],none⟩:=by kernel_rfl
theorem Try.ti25:tinf Try.prog 25=some ⟨.slice 5,1,24,some [.imm [] 0 (some 0)],none⟩:=by kernel_rfl
theorem Try.ti26:tinf Try.prog 26=some ⟨.int .u64,1,8,some [.int .u64 0],none⟩:=by kernel_rfl
theorem Try.ti27:tinf Try.prog 27=some ⟨.struct [(0,25),(1,25),(2,26)],3,56,some [.imm [] 0 (some 0),.imm [] 0 (some 0),.int .u64 0],none⟩:=by kernel_rfl
theorem Try.ti28:tinf Try.prog 28=some ⟨.struct [(0,25),(1,25),(2,26)],3,56,some [.imm [] 0 (some 0),.imm [] 0 (some 0),.int .u64 0],none⟩:=by kernel_rfl
theorem Try.ti29:tinf Try.prog 29=some ⟨.func,1,8,some [.nilf],none⟩:=by kernel_rfl
theorem Try.ti30:tinf Try.prog 30=some ⟨.slice 26,1,24,some [.imm [] 0 (some 0)],none⟩:=by kernel_rfl
theorem Try.ti31:tinf Try.prog 31=some ⟨.struct [(0,3),(1,30)],2,32,some [.int .i64 0,.imm [] 0 (some 0)],none⟩:=by kernel_rfl
theorem Try.ti32:tinf Try.prog 32=some ⟨.struct [(0,3),(1,30)],2,32,some [.int .i64 0,.imm [] 0 (some 0)],none⟩:=by kernel_rfl
theorem Try.ti33:tinf Try.prog 33=some ⟨.func,1,8,some [.nilf],none⟩:=by kernel_rfl
theorem Try.ti34:tinf Try.prog 34=some ⟨.slice 44,1,24,some [.imm [] 0 (some 0)],none⟩:=by kernel_rfl
theorem Try.ti35:tinf Try.prog 35=some ⟨.func,1,8,some [.nilf],none⟩:=by kernel_rfl
theorem Try.ti36:tinf Try.prog 36=some ⟨.int .i64,1,8,some [.int .i64 0],none⟩:=by kernel_rfl
theorem Try.ti37:tinf Try.prog 37=some ⟨.other,1,0,none,none⟩:=by kernel_rfl
theorem Try.ti38:tinf Try.prog 38=some ⟨.func,1,8,some [.nilf],none⟩:=by kernel_rfl
theorem Try.ti39:tinf Try.prog 39=some ⟨.slice 3,1,24,some [.imm [] 0 (some 0)],none⟩:=by kernel_rfl
theorem Try.ti40:tinf Try.prog 40=some ⟨.other,1,0,none,none⟩:=by kernel_rfl
theorem Try.ti41:tinf Try.prog 41=some ⟨.func,1,8,some [.nilf],none⟩:=by kernel_rfl
theorem Try.ti42:tinf Try.prog 42=some ⟨.other,1,0,none,none⟩:=by kernel_rfl
theorem Try.ti43:tinf Try.prog 43=some ⟨.func,1,8,some [.nilf],none⟩:=by kernel_rfl
theorem Try.ti44:tinf Try.prog 44=some ⟨.int .u8,1,1,some [.int .u8 0],none⟩:=by kernel_rfl
theorem Try.ti45:tinf Try.prog 45=some ⟨.func,1,8,some [.nilf],none⟩:=by kernel_rfl
theorem Try.ti46:tinf Try.prog 46=some ⟨.func,1,8,some [.nilf],none⟩:=by kernel_rfl
theorem Try.ti47:tinf Try.prog 47=some ⟨.func,1,8,some [.nilf],none⟩:=by kernel_rfl
theorem Try.ti48:tinf Try.prog 48=some ⟨.other,1,0,none,none⟩:=by kernel_rfl
theorem Try.ti49:tinf Try.prog 49=some ⟨.func,1,8,some [.nilf],none⟩:=by kernel_rfl
theorem Try.ti50:tinf Try.prog 50=some ⟨.func,1,8,some [.nilf],none⟩:=by kernel_rfl
theorem Try.ti51:tinf Try.prog 51=some ⟨.int .u32,1,4,some [.int .u32 0],none⟩:=by kernel_rfl
theorem Try.ti52:tinf Try.prog 52=some ⟨.other,1,0,none,none⟩:=by kernel_rfl
theorem Try.ti53:tinf Try.prog 53=some ⟨.func,1,8,some [.nilf],none⟩:=by kernel_rfl
theorem Try.ti54:tinf Try.prog 54=some ⟨.func,1,8,some [.nilf],none⟩:=by kernel_rfl
theorem Try.ti55:tinf Try.prog 55=some ⟨.struct [(0,5),(1,26)],2,16,some [.int .u8 0,.int .u64 0],some [.int,.int]⟩:=by kernel_rfl
theorem Try.ti56:tinf Try.prog 56=some ⟨.struct [(0,5),(1,26)],2,16,some [.int .u8 0,.int .u64 0],some [.int,.int]⟩:=by kernel_rfl
theorem Try.ti57:tinf Try.prog 57=some ⟨.array 2 30,2,48,some [.imm [] 0 (some 0),.imm [] 0 (some 0)],none⟩:=by kernel_rfl
theorem Try.ti58:tinf Try.prog 58=some ⟨.struct [(0,3),(1,26)],2,16,some [.int .i64 0,.int .u64 0],some [.int,.int]⟩:=by kernel_rfl
theorem Try.ti59:tinf Try.prog 59=some ⟨.struct [(0,3),(1,26)],2,16,some [.int .i64 0,.int .u64 0],some [.int,.int]⟩:=by kernel_rfl
theorem Try.ti60:tinf Try.prog 60=some ⟨.func,1,8,some [.nilf],none⟩:=by kernel_rfl
theorem Try.ti61:tinf Try.prog 61=some ⟨.func,1,8,some [.nilf],none⟩:=by kernel_rfl
theorem Try.ti62:tinf Try.prog 62=some ⟨.func,1,8,some [.nilf],none⟩:=by kernel_rfl
theorem Try.ti63:tinf Try.prog 63=some ⟨.func,1,8,some [.nilf],none⟩:=by kernel_rfl
theorem Try.ti64:tinf Try.prog 64=some ⟨.struct [(0,3),(1,30),(2,3),(3,39)],4,64,some [.int .i64 0,.imm [] 0 (some 0),.int .i64 0,.imm [] 0 (some 0)],none⟩:=by kernel_rfl
theorem Try.ti65:tinf Try.prog 65=some ⟨.struct [(0,3),(1,30),(2,3),(3,39)],4,64,some [.int .i64 0,.imm [] 0 (some 0),.int .i64 0,.imm [] 0 (some 0)],none⟩:=by kernel_rfl
theorem Try.ti66:tinf Try.prog 66=some ⟨.func,1,8,some [.nilf],none⟩:=by kernel_rfl
theorem Try.ti67:tinf Try.prog 67=some ⟨.func,1,8,some [.nilf],none⟩:=by kernel_rfl
theorem Try.ti68:tinf Try.prog 68=some ⟨.func,1,8,some [.nilf],none⟩:=by kernel_rfl
theorem Try.ti69:tinf Try.prog 69=some ⟨.func,1,8,some [.nilf],none⟩:=by kernel_rfl
theorem Try.ti70:tinf Try.prog 70=some ⟨.func,1,8,some [.nilf],none⟩:=by kernel_rfl
theorem Try.ti71:tinf Try.prog 71=some ⟨.func,1,8,some [.nilf],none⟩:=by kernel_rfl
theorem Try.ti72:tinf Try.prog 72=some ⟨.func,1,8,some [.nilf],none⟩:=by kernel_rfl
theorem Try.ti73:tinf Try.prog 73=some ⟨.func,1,8,some [.nilf],none⟩:=by kernel_rfl
theorem Try.ti74:tinf Try.prog 74=some ⟨.struct [(0,59),(2,26)],3,24,some [.int .i64 0,.int .u64 0,.int .u64 0],some [.int,.int,.int]⟩:=by kernel_rfl
theorem Try.ti75:tinf Try.prog 75=some ⟨.struct [(0,59),(2,26)],3,24,some [.int .i64 0,.int .u64 0,.int .u64 0],some [.int,.int,.int]⟩:=by kernel_rfl
theorem Try.ti76:tinf Try.prog 76=some ⟨.other,1,0,none,none⟩:=by kernel_rfl
theorem Try.ti77:tinf Try.prog 77=some ⟨.func,1,8,some [.nilf],none⟩:=by kernel_rfl
theorem Try.ti78:tinf Try.prog 78=some ⟨.func,1,8,some [.nilf],none⟩:=by kernel_rfl
theorem Try.ti79:tinf Try.prog 79=some ⟨.slice 34,1,24,some [.imm [] 0 (some 0)],none⟩:=by kernel_rfl
theorem Try.ti80:tinf Try.prog 80=some ⟨.func,1,8,some [.nilf],none⟩:=by kernel_rfl
theorem Try.ti81:tinf Try.prog 81=some ⟨.func,1,8,some [.nilf],none⟩:=by kernel_rfl
theorem Try.ti82:tinf Try.prog 82=some ⟨.func,1,8,some [.nilf],none⟩:=by kernel_rfl
theorem Try.ti83:tinf Try.prog 83=some ⟨.func,1,8,some [.nilf],none⟩:=by kernel_rfl
theorem Try.ti84:tinf Try.prog 84=some ⟨.ptr 75,1,8,some [.nilp],none⟩:=by kernel_rfl
theorem Try.ti85:tinf Try.prog 85=some ⟨.int .u64,1,8,some [.int .u64 0],none⟩:=by kernel_rfl
theorem Try.ti86:tinf Try.prog 86=some ⟨.func,1,8,some [.nilf],none⟩:=by kernel_rfl
theorem Try.ti87:tinf Try.prog 87=some ⟨.func,1,8,some [.nilf],none⟩:=by kernel_rfl
theorem Try.ti88:tinf Try.prog 88=some ⟨.func,1,8,some [.nilf],none⟩:=by kernel_rfl
theorem Try.ti89:tinf Try.prog 89=some ⟨.func,1,8,some [.nilf],none⟩:=by kernel_rfl
theorem Try.ti90:tinf Try.prog 90=some ⟨.func,1,8,some [.nilf],none⟩:=by kernel_rfl
theorem Try.ti91:tinf Try.prog 91=some ⟨.struct [(0,17),(1,17),(2,17),(3,9)],4,40,some [.nilp,.nilp,.nilp,.str []],none⟩:=by kernel_rfl
theorem Try.ti92:tinf Try.prog 92=some ⟨.struct [(0,17),(1,17),(2,17),(3,9)],4,40,some [.nilp,.nilp,.nilp,.str []],none⟩:=by kernel_rfl
theorem Try.ti93:tinf Try.prog 93=some ⟨.array 0 16,0,0,some [],none⟩:=by kernel_rfl
theorem Try.ti94:tinf Try.prog 94=some ⟨.struct [(0,93)],0,0,some [],none⟩:=by kernel_rfl
theorem Try.ti95:tinf Try.prog 95=some ⟨.struct [(0,93)],0,0,some [],none⟩:=by kernel_rfl
theorem Try.ti96:tinf Try.prog 96=some ⟨.func,1,8,some [.nilf],none⟩:=by kernel_rfl
theorem Try.ti97:tinf Try.prog 97=some ⟨.int .u8,1,1,some [.int .u8 0],none⟩:=by kernel_rfl
theorem Try.ti98:tinf Try.prog 98=some ⟨.int .u8,1,1,some [.int .u8 0],none⟩:=by kernel_rfl
theorem Try.ti99:tinf Try.prog 99=some ⟨.func,1,8,some [.nilf],none⟩:=by kernel_rfl
theorem Try.ti100:tinf Try.prog 100=some ⟨.ptr 5,1,8,some [.nilp],none⟩:=by kernel_rfl
theorem Try.ti101:tinf Try.prog 101=some ⟨.int .i32,1,4,some [.int .i32 0],none⟩:=by kernel_rfl
theorem Try.ti102:tinf Try.prog 102=some ⟨.int .i32,1,4,some [.int .i32 0],none⟩:=by kernel_rfl
theorem Try.ti103:tinf Try.prog 103=some ⟨.struct [(0,12),(1,12),(2,51),(3,97),(4,5),(5,5),(6,98),(7,99),(8,100),(9,101),(10,102)],11,48,some [.int .u64 0,.int .u64 0,.int .u32 0,.int .u8 0,.int .u8 0,.int .u8 0,.int .u8 0,.nilf,.nilp,.int .i32 0,.int .i32 0],none⟩:=by kernel_rfl
theorem Try.ti104:tinf Try.prog 104=some ⟨.struct [(0,12),(1,12),(2,51),(3,97),(4,5),(5,5),(6,98),(7,99),(8,100),(9,101),(10,102)],11,48,some [.int .u64 0,.int .u64 0,.int .u32 0,.int .u8 0,.int .u8 0,.int .u8 0,.int .u8 0,.nilf,.nilp,.int .i32 0,.int .i32 0],none⟩:=by kernel_rfl
theorem Try.ti105:tinf Try.prog 105=some ⟨.func,1,8,some [.nilf],none⟩:=by kernel_rfl
theorem Try.ti106:tinf Try.prog 106=some ⟨.other,1,8,some [.nilp],none⟩:=by kernel_rfl
theorem Try.ti107:tinf Try.prog 107=some ⟨.func,1,8,some [.nilf],none⟩:=by kernel_rfl
theorem Try.ti108:tinf Try.prog 108=some ⟨.func,1,8,some [.nilf],none⟩:=by kernel_rfl
theorem Try.ti109:tinf Try.prog 109=some ⟨.func,1,8,some [.nilf],none⟩:=by kernel_rfl
end Go.Proofs.Ytfcbahfdgopgfaa
namespace Go.Proofs.Ytfcbahfdgopgfaa
open Go.Abs
noncomputable def cq(f:Func)(k:List (List (List Nat))):CC:=match f.body with|some c=>(match strip c k with|some (C,_)=>C|none=>.skip)|none=>.skip
def k3:List (List (List Nat)):=[[[0],[1],[]],[[],[25],[26],[27]],[[],[29]],[[],[30],[],[31]],[[],[32],[33],[34]],[[],[35],[],[36,37],[],[39],[],[40,41],[38],[42]],[[],[43],[],[45],[44,46],[47]],[[],[],[],[49,50,51],[52],[],[48],[53],[54]],[[],[],[],[56,57,58],[59],[],[55],[60],[61]],[[],[],[],[],[63,64,65,66],[67],[],[62],[68],[69]],[[],[71],[72],[],[70],[73],[74]],[[],[],[],[76,77,78],[79],[],[75],[80],[81]],[[],[82],[83],[],[85],[84,86],[87],[],[89],[88,90],[91],[],[93],[92,94],[95],[],[97],[96,98],[99],[],[101],[],[103],[102,104],[100,105],[106],[],[108],[],[110],[109,111],[107,112],[113],[],[115],[],[117],[116,118],[114,119]],[[]],[[]],[[]],[[],[],[122],[121,123]],[[],[],[],[],[127,128,129,130],[],[],[],[],[132,133,134,135],[131],[136]],[[],[],[137,138],[139],[],[140,141],[142],[],[],[144,145],[146],[],[147,148],[143,149],[150],[],[],[152,153],[154],[155],[151,156]],[[]],[[],[158],[159],[],[161],[160,162],[163],[],[],[165,166],[164,167]],[[],[],[170],[169,171],[172],[],[],[174,175],[176],[],[177,178],[173,179]],[[]],[[],[181],[182]],[[],[125],[126]],[[]],[[],[],[183,184]],[[],[],[188,189],[190],[191],[],[],[193,194],[195],[196],[192,197]],[[]],[[],[186],[187]],[[],[],[200],[199,201],[202],[],[],[204,205],[206],[203,207],[208],[],[209,210],[211]]]
def C3:CC:=cq Try.f3 k3
theorem s3:QA Try.prog 3 212 [.tmp 4] C3:=⟨Try.f3,_,k3,[],Try.func3,rfl,by kernel_rfl,rfl,rfl,by kernel_rfl,rfl⟩
def k4:List (List (List Nat)):=[[[0],[1],[]],[[],[28],[29],[30]],[[],[32]],[[],[33],[],[34]],[[],[35],[36],[37]],[[],[38],[],[39,40],[],[42],[],[43,44],[41],[45]],[[],[46],[],[48],[47,49],[50]],[[],[],[],[],[52,53,54,55],[56],[],[51],[57],[58]],[[],[59]],[[]],[[]],[[],[],[62],[61,63]],[[]],[[]],[[],[],[67,68]],[[],[72],[],[],[],[],[76,77],[78],[74,75,79],[80],[],[],[82,83],[84],[85],[81,86],[87],[],[],[89,90],[91],[],[],[93,94],[95],[92,96],[97],[88,98],[73,99],[100]],[[],[70],[71]],[[],[101]],[[]],[[],[65],[66]],[[],[103]],[[],[105]],[[2],[106],[],[107,108],[109]],[[],[],[110,111],[112]],[[],[],[113,114],[115]],[[],[],[116,117],[118]],[[],[],[119,120],[121]],[[]],[[]],[[],[],[122,123]],[[],[],[127,128],[129],[130],[131],[],[],[133,134],[135],[136],[132,137]],[[],[],[140],[139,141],[142]],[[],[125],[126]],[[],[],[],[],[144,145,146,147],[148],[],[143],[149],[150]],[[],[],[],[152,153,154],[155],[],[151],[156],[157]],[[],[158],[159],[],[161],[160,162]],[[]],[[],[],[164,165],[166],[167]],[[],[169],[170],[171],[],[172,173],[174]],[[],[],[],[],[179],[178,180],[176,177,181],[182],[],[175],[183],[184]],[[],[185],[186],[],[187,188],[189],[],[191],[190,192],[193],[],[195],[194,196],[197],[],[198,199],[200]]]
def C4:CC:=cq Try.f4 k4
theorem s4:QA Try.prog 4 201 [.tmp 6] C4:=⟨Try.f4,_,k4,[],Try.func4,rfl,by kernel_rfl,rfl,rfl,by kernel_rfl,rfl⟩
def k6:List (List (List Nat)):=[[[0],[]],[[],[24],[25],[26]],[[],[28]],[[],[29],[],[30]],[[],[31],[32],[33]],[[],[34],[35],[],[37],[38],[36,39]],[[],[41],[],[43],[],[44,45],[42,46],[47],[48],[49]],[[]],[[]],[[],[],[51],[50,52]],[[],[],[56,57],[58],[59]],[[],[],[62],[61,63],[64]],[[],[54],[55]],[[],[]],[[]],[[],[],[65,66]],[[]],[[]],[[],[],[71],[70,72]],[[],[76],[],[],[],[78,79,80],[],[],[82,83],[84],[85],[81,86],[77,87],[88]],[[],[74],[75]],[[]],[[],[90]],[[],[91],[92]],[[],[68],[69]],[[],[],[94,95],[96],[],[93],[97],[98]],[[],[99]],[[],[101],[102],[],[104],[103,105],[106],[],[107,108],[109]],[[],[110],[111]],[[],[112],[113]],[[],[],[114,115],[116]],[[],[],[],[118,119,120],[121],[],[117],[122],[123]],[[],[],[125,126],[127],[],[124],[128],[129]],[[],[],[130,131],[132],[],[134],[133,135],[136],[],[138],[137,139],[140],[],[142],[141,143],[144],[],[],[146,147],[145,148],[149],[],[150,151],[152]]]
def C6:CC:=cq Try.f6 k6
theorem s6:QA Try.prog 6 153 [.tmp 6] C6:=⟨Try.f6,_,k6,[],Try.func6,rfl,by kernel_rfl,rfl,rfl,by kernel_rfl,rfl⟩
def k7:List (List (List Nat)):=[[[0],[1],[]],[[],[27],[28],[29],[30],[],[32],[33],[34],[31,35]],[[],[37]],[[],[38],[],[39]],[[],[40],[41],[],[43],[44],[42,45],[46]],[[],[],[],[]],[[]],[[]],[[],[],[47,48]],[[],[52],[],[53,54],[55],[],[57],[58],[56,59],[],[61],[],[62,63],[64],[],[66],[67],[65,68],[60],[69]],[[],[],[71],[70,72],[73]],[[],[],[75],[74,76],[77]],[[],[],[],[79,80],[81],[78,82],[83]],[[],[],[85,86],[87],[],[84],[88],[89]],[[],[90]],[[]],[[],[],[92,93],[94]],[[],[],[96],[],[97,98],[95,99]],[[],[],[],[103],[104],[105],[102,106],[107],[101,108],[109]],[[],[],[111],[110,112],[113]],[[],[50],[51]],[[],[],[115,116],[117],[],[114],[118],[119]],[[],[],[121,122],[123],[],[120],[124],[125]],[[],[],[127,128],[129],[],[126],[130],[131]],[[],[],[133,134],[135],[],[132],[136],[137]],[[],[138],[139],[],[141],[140,142],[143],[],[145],[144,146],[147],[],[149],[148,150],[151],[],[],[153,154],[152,155],[156],[],[],[],[159,160],[158,161],[157,162],[163],[],[165],[166],[],[],[168,169],[167,170],[164,171],[172],[],[173,174],[175]]]
def C7:CC:=cq Try.f7 k7
theorem s7:QA Try.prog 7 176 [.tmp 6] C7:=⟨Try.f7,_,k7,[],Try.func7,rfl,by kernel_rfl,rfl,rfl,by kernel_rfl,rfl⟩
def k9:List (List (List Nat)):=[[[]],[[],[24],[],[25]],[[],[],[27,28],[29],[],[26],[30],[31]],[[],[],[33,34],[35],[],[32],[36],[37]],[[],[],[39,40],[41],[],[38],[42],[43]],[[],[],[],[45,46,47],[48],[],[44],[49],[50]],[[],[],[],[52,53,54],[55],[],[51],[56],[57]],[[],[58],[59],[],[61],[60,62],[63],[],[65],[64,66],[67],[],[69],[68,70],[71],[],[73],[72,74],[75],[],[77],[78],[76,79],[80],[],[82],[83],[84],[81,85],[86],[],[88],[89],[90],[87,91],[92],[],[94],[95],[96],[93,97],[98],[],[100],[101],[99,102],[103],[],[105],[106],[107],[104,108],[109],[],[111],[112],[113],[110,114],[115],[],[117],[118],[119],[116,120],[121],[],[123],[124],[122,125],[126],[],[128],[129],[130],[127,131],[132],[],[134],[135],[136],[133,137],[138],[],[140],[141],[139,142],[143],[],[145],[146],[144,147],[148],[],[150],[151],[152],[149,153],[154],[],[156],[157],[158],[155,159]],[[]],[[],[162],[163],[],[161],[164],[165]],[[],[167],[168],[],[166],[169],[170]],[[],[],[172,173],[174],[],[171],[175],[176]],[[],[],[178,179],[180],[],[177],[181,18],[182]],[[],[184],[185],[],[183],[186],[187]],[[],[],[189,190],[191],[],[188],[192],[193]],[[],[194],[195],[],[196,197],[198],[],[200],[199,201],[202],[],[204],[203,205],[206],[],[208],[207,209],[210],[],[212],[211,213],[214],[],[216],[215,217],[218],[],[220],[219,221],[222],[],[224],[223,225],[226],[],[228],[227,229],[230],[],[232],[231,233],[234]]]
def C9:CC:=cq Try.f9 k9
theorem s9:QA Try.prog 9 235 [.tmp 0] C9:=⟨Try.f9,_,k9,[],Try.func9,rfl,by kernel_rfl,rfl,rfl,by kernel_rfl,rfl⟩
def k10:List (List (List Nat)):=[[[0],[]],[[],[5],[6],[7],[8],[],[9]],[[]],[[],[],[11],[12],[10,13]],[[],[17],[],[19],[],[20,21],[22],[23],[],[25],[26],[24,27],[28],[18,29],[],[30,31]],[[],[15],[16]],[[],[32]]]
def C10:CC:=cq Try.f10 k10
theorem s10:QA Try.prog 10 33 [.cell 2 32] C10:=⟨Try.f10,_,k10,[],Try.func10,rfl,by kernel_rfl,rfl,rfl,by kernel_rfl,rfl⟩
def k11:List (List (List Nat)):=[[[]],[[],[7],[8]],[[]],[[],[],[9,10],[11],[],[],[14],[13,15],[12,16]],[[],[],[],[],[22,23],[24],[25],[20,21],[26,27]],[[],[18],[19]],[[],[28]]]
def C11:CC:=cq Try.f11 k11
theorem s11:QA Try.prog 11 29 [.tmp 4] C11:=⟨Try.f11,_,k11,[],Try.func11,rfl,by kernel_rfl,rfl,rfl,by kernel_rfl,rfl⟩
def k12:List (List (List Nat)):=[[[0],[],[]],[[],[],[],[11],[9,10,12],[13]],[[],[14]],[[],[],[16]],[[],[],[],[17,18,19],[20],[]]]
def C12:CC:=cq Try.f12 k12
theorem s12:QA Try.prog 12 21 [.tmp 6,.tmp 7] C12:=⟨Try.f12,_,k12,[],Try.func12,rfl,by kernel_rfl,rfl,rfl,by kernel_rfl,rfl⟩
def k13:List (List (List Nat)):=[[[0],[],[]],[[],[],[],[],[17,18],[15,16,19],[20]],[[],[21]],[[],[],[23]],[[]],[[],[],[],[24,25,26],[],[],[],[28,29,30],[27],[31]],[[],[32],[]],[[]],[[],[36]],[[],[],[37,38],[39],[],[],[41,42],[43],[40,44],[45]],[[],[],[48],[47,49],[50]],[[],[51]],[[],[52],[53],[]]]
def C13:CC:=cq Try.f13 k13
theorem s13:QA Try.prog 13 54 [.tmp 8,.tmp 9] C13:=⟨Try.f13,_,k13,[],Try.func13,rfl,by kernel_rfl,rfl,rfl,by kernel_rfl,rfl⟩
def k14:List (List (List Nat)):=[[[],[]],[[],[6],[7]],[[],[]],[[],[],[]],[[]],[[],[],[14],[13],[15]],[[],[17],[18]],[[],[]],[[],[20],[21]],[[],[],[23],[22,24],[25]],[[],[26]],[[],[27],[]]]
def C14:CC:=cq Try.f14 k14
theorem s14:QA Try.prog 14 28 [.tmp 2,.tmp 3] C14:=⟨Try.f14,_,k14,[],Try.func14,rfl,by kernel_rfl,rfl,rfl,by kernel_rfl,rfl⟩
def k15:List (List (List Nat)):=[[[0],[]],[[]],[[]],[[],[],[12],[11,13]],[[],[],[17,18],[19],[20],[21],[],[],[],[23,24,25],[26],[22,27]],[[],[],[29,30],[31],[32]],[[]],[[],[],[34,35],[36],[37]],[[],[39],[40]],[[],[15],[16]],[[],[41]]]
def C15:CC:=cq Try.f15 k15
theorem s15:QA Try.prog 15 42 [.tmp 8] C15:=⟨Try.f15,_,k15,[],Try.func15,rfl,by kernel_rfl,rfl,rfl,by kernel_rfl,rfl⟩
def k16:List (List (List Nat)):=[[[0],[]],[[],[7],[1],[8,9],[10],[2],[11,12],[13],[14],[15]]]
def C16:CC:=cq Try.f16 k16
theorem s16:QA Try.prog 16 16 [.tmp 6] C16:=⟨Try.f16,_,k16,[],Try.func16,rfl,by kernel_rfl,rfl,rfl,by kernel_rfl,rfl⟩
def k17:List (List (List Nat)):=[[[0],[],[]],[[],[12],[13]],[[],[14]],[[],[],[16]],[[],[17],[18],[],[],[21],[22],[20,23],[19,24],[25],[],[],[28],[29],[27,30],[26,31]],[[],[]],[[],[33],[],[34,35],[36],[37]],[[],[38],[],[]],[[]],[[],[],[44],[43],[45]],[[],[],[46,47]],[[],[],[49,50],[51]],[[],[52]],[[],[53],[54],[]]]
def C17:CC:=cq Try.f17 k17
theorem s17:QA Try.prog 17 55 [.tmp 6,.tmp 7] C17:=⟨Try.f17,_,k17,[],Try.func17,rfl,by kernel_rfl,rfl,rfl,by kernel_rfl,rfl⟩
def k18:List (List (List Nat)):=[[[0],[],[]],[[],[12],[13]],[[],[14]],[[],[],[16]],[[],[]],[[1],[],[]],[[]],[[],[21],[22]],[[],[],[23,24],[25],[],[],[28],[27,29],[26,30]],[[],[]],[[],[],[33],[32,34],[35]],[[],[36]],[[],[37]],[[],[38],[],[39,40],[41]],[[],[42],[43],[],[45],[],[47],[46,48],[],[49,50],[44,51]],[[],[]],[[],[53],[]]]
def C18:CC:=cq Try.f18 k18
theorem s18:QA Try.prog 18 54 [.tmp 4,.tmp 5] C18:=⟨Try.f18,_,k18,[],Try.func18,rfl,by kernel_rfl,rfl,rfl,by kernel_rfl,rfl⟩
def k19:List (List (List Nat)):=[[[0],[]],[[],[4],[5],[6],[7],[8]],[[],[],[10],[],[12],[11,13],[],[15],[16],[14,17],[9,18],[19]]]
def C19:CC:=cq Try.f19 k19
theorem s19:QA Try.prog 19 20 [.cell 2 59] C19:=⟨Try.f19,_,k19,[],Try.func19,rfl,by kernel_rfl,rfl,rfl,by kernel_rfl,rfl⟩
def k20:List (List (List Nat)):=[[[0],[],[]],[[],[1],[9,10],[11],[],[8],[],[12],[13]],[[],[14]],[[],[],[16]],[[17]],[[],[18],[19],[]]]
def C20:CC:=cq Try.f20 k20
theorem s20:QA Try.prog 20 20 [.tmp 4,.tmp 5] C20:=⟨Try.f20,_,k20,[],Try.func20,rfl,by kernel_rfl,rfl,rfl,by kernel_rfl,rfl⟩
def k21:List (List (List Nat)):=[[[0],[],[]],[[],[15],[16]],[[],[17]],[[],[],[19]],[[],[20],[],[21,22],[],[]],[[]],[[],[27],[28]],[[],[],[30],[29,31]],[[],[]],[[],[33]],[[],[],[]],[[]],[[],[38],[39]],[[],[],[41,42],[43],[],[40],[44],[45,14]],[[],[],[46,47],[48]],[[],[49]],[[],[50],[]]]
def C21:CC:=cq Try.f21 k21
theorem s21:QA Try.prog 21 51 [.tmp 6,.tmp 7] C21:=⟨Try.f21,_,k21,[],Try.func21,rfl,by kernel_rfl,rfl,rfl,by kernel_rfl,rfl⟩
def k22:List (List (List Nat)):=[[[0],[1],[]],[[],[33],[34],[35],[36],[],[38],[39],[40],[37,41],[42],[],[44],[45],[46],[43,47],[48],[],[50],[51],[52],[49,53]],[[],[55]],[[],[56],[],[],[59],[58,60],[57,61],[],[62]],[[],[63],[64],[65]],[[]],[[],[67],[68],[69]],[[]],[[],[71],[72],[73],[],[75],[74,76],[77]],[[]],[[]],[[],[],[78,79],[80],[],[82],[81,83]],[[],[87],[88],[89],[],[91],[],[92,93],[94],[],[96],[95,97],[98],[90,99]],[[]],[[],[85],[86]],[[],[]],[[],[]],[[]],[[],[101],[102],[103]],[[]],[[]],[[],[],[106],[107],[105,108]],[[],[],[113],[],[114,115],[116],[117],[112,118],[119]],[[],[120],[],[122],[],[123,124],[125],[126],[121,127],[128]],[[],[110],[111]],[[]],[[],[],[130],[131],[129,132]],[[],[],[137],[],[138,139],[140],[141],[136,142],[143]],[[],[144],[],[146],[],[147,148],[149],[150],[145,151],[152]],[[],[134],[135]],[[],[153],[154],[],[155,156]],[[]],[[],[158],[159],[],[161],[],[162,163],[164],[160,165],[166]],[[],[],[],[],[167],[168],[169],[170]],[[],[171],[172],[],[174],[],[175,176],[173,177]],[[]],[[],[179],[180],[],[182],[],[183,184],[181,185]],[[]],[[],[187],[188],[],[190],[],[191,192],[193],[],[195],[],[196,197],[194,198],[189,199]],[[]],[[],[201],[202],[],[204],[],[205,206],[207],[],[208,209],[203,210]],[[]],[[],[212],[213],[],[215],[216],[217],[],[219],[],[220,221],[218,222],[223],[],[224,225],[214,226]],[[]],[[]],[[]],[[],[],[229],[230],[228,231],[232],[],[234],[233,235]],[[],[239],[],[240,241],[242],[],[243,244],[245],[],[247],[],[248,249],[250],[],[252],[251,253],[246,254]],[[]],[[],[256],[],[257,258],[259],[260]],[[],[237],[238]],[[],[],[],[264],[262,263,265],[266],[],[261],[267],[268]],[[],[],[],[],[273],[270,271,272,274],[275],[],[269],[276],[277]],[[],[279],[280],[],[278],[281],[282]],[[],[],[285],[],[287],[284,286,288],[289],[],[283],[290],[291]],[[],[],[294],[293,295],[296],[],[292],[297],[298]],[[],[299],[],[300,301],[302],[],[],[304,305],[303,306],[307],[],[],[309,310],[308,311],[312],[],[],[314,315],[313,316],[317],[],[],[319,320],[318,321],[322],[],[],[324,325],[326],[],[328],[329],[],[331],[330,332],[327,333],[334],[323,335]],[[]],[[],[337],[338],[],[340],[341],[339,342],[343],[],[345],[346],[],[348],[349],[347,350],[344,351],[352],[],[354],[355],[],[357],[356,358],[353,359],[360],[],[362],[363],[],[365],[364,366],[361,367],[368],[],[370],[371],[],[373],[372,374],[369,375],[376],[],[377,378],[379]]]
def C22:CC:=cq Try.f22 k22
theorem s22:QA Try.prog 22 380 [.tmp 4] C22:=⟨Try.f22,_,k22,[],Try.func22,rfl,by kernel_rfl,rfl,rfl,by kernel_rfl,rfl⟩
def k23:List (List (List Nat)):=[[[0],[]],[[],[12],[13]],[[],[14]],[[],[16]],[[],[],[]],[[]],[[],[21],[22]],[[],[23],[],[25],[26],[24,27]],[[]],[[],[29]],[[],[],[]],[[]],[[],[34],[35]],[[],[36]],[[]],[[],[38]],[[1],[],[40],[41],[39,42]],[[]],[[]]]
def C23:CC:=cq Try.f23 k23
theorem s23:QA Try.prog 23 44 [.tmp 6] C23:=⟨Try.f23,_,k23,[],Try.func23,rfl,by kernel_rfl,rfl,rfl,by kernel_rfl,rfl⟩
def k24:List (List (List Nat)):=[[[0],[]],[[],[11],[12],[13]],[[1],[],[]],[[]],[[],[],[19],[18],[20]],[[],[],[21,22]],[[],[24],[]],[[]],[[],[28]],[[],[37],[],[38,39],[40],[],[41,42],[43],[44],[],[],[46,47],[48],[49],[45,50],[51]],[[],[53],[54]],[[],[],[55,56],[57]],[[],[],[],[31],[],[32,33],[29,30],[34,35]],[[],[58]],[[],[59]],[[],[60]]]
def C24:CC:=cq Try.f24 k24
theorem s24:QA Try.prog 24 61 [.tmp 6] C24:=⟨Try.f24,_,k24,[],Try.func24,rfl,by kernel_rfl,rfl,rfl,by kernel_rfl,rfl⟩
def k25:List (List (List Nat)):=[[[]],[[],[],[4],[0],[6],[3,5,7],[8]]]
def C25:CC:=cq Try.f25 k25
theorem s25:QA Try.prog 25 9 [.tmp 2] C25:=⟨Try.f25,_,k25,[],Try.func25,rfl,by kernel_rfl,rfl,rfl,by kernel_rfl,rfl⟩
def k26:List (List (List Nat)):=[[[0],[]],[[],[4],[5],[6]],[[]],[[],[8],[9],[10],[],[12],[13],[14],[11,15],[16]],[[]],[[],[18],[],[19,20],[21]],[[]],[[]]]
def C26:CC:=cq Try.f26 k26
theorem s26:QA Try.prog 26 22 [.tmp 2] C26:=⟨Try.f26,_,k26,[],Try.func26,rfl,by kernel_rfl,rfl,rfl,by kernel_rfl,rfl⟩
def k27:List (List (List Nat)):=[[[]],[[],[5],[6],[0],[1],[8,9],[10],[7,11],[12]]]
def C27:CC:=cq Try.f27 k27
theorem s27:QA Try.prog 27 13 [.tmp 4] C27:=⟨Try.f27,_,k27,[],Try.func27,rfl,by kernel_rfl,rfl,rfl,by kernel_rfl,rfl⟩
def k28:List (List (List Nat)):=[[[]],[[0],[1],[5,6],[7],[8],[9]]]
def C28:CC:=cq Try.f28 k28
theorem s28:QA Try.prog 28 10 [.tmp 4] C28:=⟨Try.f28,_,k28,[],Try.func28,rfl,by kernel_rfl,rfl,rfl,by kernel_rfl,rfl⟩
def k29:List (List (List Nat)):=[[[]],[[],[6],[]],[[]],[[],[10]],[[],[],[],[12,13],[14],[11,15]],[[],[17]],[[],[18]],[[]]]
def C29:CC:=cq Try.f29 k29
theorem s29:QA Try.prog 29 19 [.tmp 4] C29:=⟨Try.f29,_,k29,[],Try.func29,rfl,by kernel_rfl,rfl,rfl,by kernel_rfl,rfl⟩
def k30:List (List (List Nat)):=[[[]],[[0],[1],[5,6],[7],[8]]]
def C30:CC:=cq Try.f30 k30
theorem s30:QA Try.prog 30 9 [.tmp 4] C30:=⟨Try.f30,_,k30,[],Try.func30,rfl,by kernel_rfl,rfl,rfl,by kernel_rfl,rfl⟩
def k31:List (List (List Nat)):=[[[0],[],[]],[[],[7],[8]],[[],[9]],[[],[],[11],[12]],[[],[],[14],[13,15]],[[],[17],[]],[[],[],[18,19],[20],[]]]
def C31:CC:=cq Try.f31 k31
theorem s31:QA Try.prog 31 21 [.cell 4 75,.tmp 5] C31:=⟨Try.f31,_,k31,[],Try.func31,rfl,by kernel_rfl,rfl,rfl,by kernel_rfl,rfl⟩
def k32:List (List (List Nat)):=[[[],[],[3],[4],[5],[6],[],[8],[9],[10],[],[12],[13],[14],[15],[11,16],[17],[7,18],[2],[20],[19,21]],[[],[22],[23],[24],[25],[26]],[[],[],[29],[30],[],[32],[33],[34],[35],[36],[37],[31,38],[28],[40],[39,41]]]
def C32:CC:=cq Try.f32 k32
theorem s32:QA Try.prog 32 42 [] C32:=⟨Try.f32,_,k32,[],Try.func32,rfl,by kernel_rfl,rfl,rfl,by kernel_rfl,rfl⟩
def k33:List (List (List Nat)):=[[[0],[]],[[],[4],[5],[6]],[[]],[[],[8],[9],[10]],[[]],[[],[12],[],[14],[13,15],[16],[],[18],[],[20],[21],[19,22],[23],[17,24],[25]],[[]],[[]]]
def C33:CC:=cq Try.f33 k33
theorem s33:QA Try.prog 33 26 [.tmp 2] C33:=⟨Try.f33,_,k33,[],Try.func33,rfl,by kernel_rfl,rfl,rfl,by kernel_rfl,rfl⟩
def k34:List (List (List Nat)):=[[[]],[[0],[1],[5,6],[7],[8]]]
def C34:CC:=cq Try.f34 k34
theorem s34:QA Try.prog 34 9 [.tmp 4] C34:=⟨Try.f34,_,k34,[],Try.func34,rfl,by kernel_rfl,rfl,rfl,by kernel_rfl,rfl⟩
def k35:List (List (List Nat)):=[[[]],[[0],[3],[4]]]
def C35:CC:=cq Try.f35 k35
theorem s35:QA Try.prog 35 5 [.tmp 2] C35:=⟨Try.f35,_,k35,[],Try.func35,rfl,by kernel_rfl,rfl,rfl,by kernel_rfl,rfl⟩
def k36:List (List (List Nat)):=[[[]],[[0],[1],[5,6],[7],[8]]]
def C36:CC:=cq Try.f36 k36
theorem s36:QA Try.prog 36 9 [.tmp 4] C36:=⟨Try.f36,_,k36,[],Try.func36,rfl,by kernel_rfl,rfl,rfl,by kernel_rfl,rfl⟩
def k37:List (List (List Nat)):=[[[]],[[0],[1],[5],[4,6],[7]]]
def C37:CC:=cq Try.f37 k37
theorem s37:QA Try.prog 37 8 [.tmp 3] C37:=⟨Try.f37,_,k37,[],Try.func37,rfl,by kernel_rfl,rfl,rfl,by kernel_rfl,rfl⟩
def k38:List (List (List Nat)):=[[[]],[[],[5],[6],[0],[1],[8,9],[10],[7,11],[12]]]
def C38:CC:=cq Try.f38 k38
theorem s38:QA Try.prog 38 13 [.tmp 4] C38:=⟨Try.f38,_,k38,[],Try.func38,rfl,by kernel_rfl,rfl,rfl,by kernel_rfl,rfl⟩
def k39:List (List (List Nat)):=[[[]],[[0],[3],[4],[5],[6]]]
def C39:CC:=cq Try.f39 k39
theorem s39:QA Try.prog 39 7 [.tmp 2] C39:=⟨Try.f39,_,k39,[],Try.func39,rfl,by kernel_rfl,rfl,rfl,by kernel_rfl,rfl⟩
def k40:List (List (List Nat)):=[[[]],[[],[6],[]],[[]],[[],[10]],[[],[],[],[12,13],[14],[11,15]],[[],[17]],[[],[18]],[[]]]
def C40:CC:=cq Try.f40 k40
theorem s40:QA Try.prog 40 19 [.tmp 4] C40:=⟨Try.f40,_,k40,[],Try.func40,rfl,by kernel_rfl,rfl,rfl,by kernel_rfl,rfl⟩
def k41:List (List (List Nat)):=[[[]],[[],[6],[]],[[]],[[],[10]],[[],[],[],[12,13],[14],[11,15]],[[],[17]],[[],[18]],[[]]]
def C41:CC:=cq Try.f41 k41
theorem s41:QA Try.prog 41 19 [.tmp 4] C41:=⟨Try.f41,_,k41,[],Try.func41,rfl,by kernel_rfl,rfl,rfl,by kernel_rfl,rfl⟩
def k42:List (List (List Nat)):=[[[]],[[],[3],[4],[],[6],[5,7],[8]],[[],[9],[10],[],[12],[11,13],[14]],[[],[15],[],[16,17],[18],[19]],[[],[],[21],[20,22],[23]],[[],[],[25],[24,26],[27]],[[],[],[29],[28,30],[31]],[[],[32],[33],[34]]]
def C42:CC:=cq Try.f42 k42
theorem s42:QA Try.prog 42 35 [.tmp 2] C42:=⟨Try.f42,_,k42,[],Try.func42,rfl,by kernel_rfl,rfl,rfl,by kernel_rfl,rfl⟩
end Go.Proofs.Ytfcbahfdgopgfaa
namespace Go.Proofs.Ytfcbahfdgopgfaa
open Go.Abs
def tab:Tab:=fun f=>match f with
 |3=>some (212,[.tmp 4],C3)
 |4=>some (201,[.tmp 6],C4)
 |6=>some (153,[.tmp 6],C6)
 |7=>some (176,[.tmp 6],C7)
 |9=>some (235,[.tmp 0],C9)
 |10=>some (33,[.cell 2 32],C10)
 |11=>some (29,[.tmp 4],C11)
 |12=>some (21,[.tmp 6,.tmp 7],C12)
 |13=>some (54,[.tmp 8,.tmp 9],C13)
 |14=>some (28,[.tmp 2,.tmp 3],C14)
 |15=>some (42,[.tmp 8],C15)
 |16=>some (16,[.tmp 6],C16)
 |17=>some (55,[.tmp 6,.tmp 7],C17)
 |18=>some (54,[.tmp 4,.tmp 5],C18)
 |19=>some (20,[.cell 2 59],C19)
 |20=>some (20,[.tmp 4,.tmp 5],C20)
 |21=>some (51,[.tmp 6,.tmp 7],C21)
 |22=>some (380,[.tmp 4],C22)
 |23=>some (44,[.tmp 6],C23)
 |24=>some (61,[.tmp 6],C24)
 |25=>some (9,[.tmp 2],C25)
 |26=>some (22,[.tmp 2],C26)
 |27=>some (13,[.tmp 4],C27)
 |28=>some (10,[.tmp 4],C28)
 |29=>some (19,[.tmp 4],C29)
 |30=>some (9,[.tmp 4],C30)
 |31=>some (21,[.cell 4 75,.tmp 5],C31)
 |32=>some (42,[],C32)
 |33=>some (26,[.tmp 2],C33)
 |34=>some (9,[.tmp 4],C34)
 |35=>some (5,[.tmp 2],C35)
 |36=>some (9,[.tmp 4],C36)
 |37=>some (8,[.tmp 3],C37)
 |38=>some (13,[.tmp 4],C38)
 |39=>some (7,[.tmp 2],C39)
 |40=>some (19,[.tmp 4],C40)
 |41=>some (19,[.tmp 4],C41)
 |42=>some (35,[.tmp 2],C42)
 |_=>none
theorem tab_ok(f:FuncId)(N:Nat)(rs:List ResultVar)(C:CC)(h:tab f=some (N,rs,C)):QA Try.prog f N rs C:=by
 unfold tab at h
 split at h
 ·injection h with h;injection h with h1 h;injection h with h2 h3;subst h1;subst h2;subst h3;exact s3
 ·injection h with h;injection h with h1 h;injection h with h2 h3;subst h1;subst h2;subst h3;exact s4
 ·injection h with h;injection h with h1 h;injection h with h2 h3;subst h1;subst h2;subst h3;exact s6
 ·injection h with h;injection h with h1 h;injection h with h2 h3;subst h1;subst h2;subst h3;exact s7
 ·injection h with h;injection h with h1 h;injection h with h2 h3;subst h1;subst h2;subst h3;exact s9
 ·injection h with h;injection h with h1 h;injection h with h2 h3;subst h1;subst h2;subst h3;exact s10
 ·injection h with h;injection h with h1 h;injection h with h2 h3;subst h1;subst h2;subst h3;exact s11
 ·injection h with h;injection h with h1 h;injection h with h2 h3;subst h1;subst h2;subst h3;exact s12
 ·injection h with h;injection h with h1 h;injection h with h2 h3;subst h1;subst h2;subst h3;exact s13
 ·injection h with h;injection h with h1 h;injection h with h2 h3;subst h1;subst h2;subst h3;exact s14
 ·injection h with h;injection h with h1 h;injection h with h2 h3;subst h1;subst h2;subst h3;exact s15
 ·injection h with h;injection h with h1 h;injection h with h2 h3;subst h1;subst h2;subst h3;exact s16
 ·injection h with h;injection h with h1 h;injection h with h2 h3;subst h1;subst h2;subst h3;exact s17
 ·injection h with h;injection h with h1 h;injection h with h2 h3;subst h1;subst h2;subst h3;exact s18
 ·injection h with h;injection h with h1 h;injection h with h2 h3;subst h1;subst h2;subst h3;exact s19
 ·injection h with h;injection h with h1 h;injection h with h2 h3;subst h1;subst h2;subst h3;exact s20
 ·injection h with h;injection h with h1 h;injection h with h2 h3;subst h1;subst h2;subst h3;exact s21
 ·injection h with h;injection h with h1 h;injection h with h2 h3;subst h1;subst h2;subst h3;exact s22
 ·injection h with h;injection h with h1 h;injection h with h2 h3;subst h1;subst h2;subst h3;exact s23
 ·injection h with h;injection h with h1 h;injection h with h2 h3;subst h1;subst h2;subst h3;exact s24
 ·injection h with h;injection h with h1 h;injection h with h2 h3;subst h1;subst h2;subst h3;exact s25
 ·injection h with h;injection h with h1 h;injection h with h2 h3;subst h1;subst h2;subst h3;exact s26
 ·injection h with h;injection h with h1 h;injection h with h2 h3;subst h1;subst h2;subst h3;exact s27
 ·injection h with h;injection h with h1 h;injection h with h2 h3;subst h1;subst h2;subst h3;exact s28
 ·injection h with h;injection h with h1 h;injection h with h2 h3;subst h1;subst h2;subst h3;exact s29
 ·injection h with h;injection h with h1 h;injection h with h2 h3;subst h1;subst h2;subst h3;exact s30
 ·injection h with h;injection h with h1 h;injection h with h2 h3;subst h1;subst h2;subst h3;exact s31
 ·injection h with h;injection h with h1 h;injection h with h2 h3;subst h1;subst h2;subst h3;exact s32
 ·injection h with h;injection h with h1 h;injection h with h2 h3;subst h1;subst h2;subst h3;exact s33
 ·injection h with h;injection h with h1 h;injection h with h2 h3;subst h1;subst h2;subst h3;exact s34
 ·injection h with h;injection h with h1 h;injection h with h2 h3;subst h1;subst h2;subst h3;exact s35
 ·injection h with h;injection h with h1 h;injection h with h2 h3;subst h1;subst h2;subst h3;exact s36
 ·injection h with h;injection h with h1 h;injection h with h2 h3;subst h1;subst h2;subst h3;exact s37
 ·injection h with h;injection h with h1 h;injection h with h2 h3;subst h1;subst h2;subst h3;exact s38
 ·injection h with h;injection h with h1 h;injection h with h2 h3;subst h1;subst h2;subst h3;exact s39
 ·injection h with h;injection h with h1 h;injection h with h2 h3;subst h1;subst h2;subst h3;exact s40
 ·injection h with h;injection h with h1 h;injection h with h2 h3;subst h1;subst h2;subst h3;exact s41
 ·injection h with h;injection h with h1 h;injection h with h2 h3;subst h1;subst h2;subst h3;exact s42
 ·cases h
theorem mixed:Try.prog.follows .mixedOrders=true:=by kernel_rfl
end Go.Proofs.Ytfcbahfdgopgfaa
namespace Go.Proofs.Ytfcbahfdgopgfaa
open Go.Abs
def k5:List (List (List Nat)):=[[[0],[1],[]],[[],[18],[19],[20]],[[],[22]],[[],[23],[],[24]],[[],[25],[26],[27]],[[],[28],[],[30],[29],[31]],[[]],[[],[]],[[]],[[],[],[32,33]],[[],[],[38],[39],[37,40]],[[],[],[],[44],[],[45,46],[47],[48],[42,43],[49,50]],[[],[],[],[],[53,54],[55],[51,52],[56,57]],[[],[],[59],[60],[58,61],[62],[],[64],[],[65,66],[67],[68],[69],[63,70]],[[],[],[],[],[74,75],[76],[77],[72,73],[78,79]],[[],[80],[81]],[[],[82],[],[84],[],[85,86],[87],[88],[83,89],[90]],[[]],[[],[],[91,92]],[[],[96],[],[98],[],[99,100],[101],[],[103],[],[104,105],[106],[102,107],[97,108],[109]],[[],[94],[95]],[[]],[[]],[[],[],[111],[110,112]],[[],[],[],[116,117,118]],[[],[120],[121]],[[],[114],[115]],[[],[122],[],[124],[125],[123,126],[127]],[[],[35],[36]],[[],[],[],[129,130,131],[132],[],[128],[133],[134]],[[],[135],[136],[],[138],[139],[],[141],[142],[140,143],[137,144]],[[]],[[],[146],[147],[],[149],[148,150],[151],[],[152,153],[154],[],[156],[157],[155,158],[159],[],[161],[162],[163],[],[164,165],[166],[],[168],[169],[167,170],[160,171]],[[]],[[],[173]]]
def C5:CC:=cq Try.f5 k5
theorem s5:QA Try.prog 5 174 [.tmp 4] C5:=⟨Try.f5,_,k5,[],Try.func5,rfl,by kernel_rfl,rfl,rfl,by kernel_rfl,rfl⟩
end Go.Proofs.Ytfcbahfdgopgfaa
namespace Go.Proofs.Ytfcbahfdgopgfaa
open Go.Abs
def k8:List (List (List Nat)):=[[[]],[[]],[[]],[[],[20]],[[],[24],[25],[],[26]],[[],[27],[],[29],[30],[28,31],[32],[],[33]],[[]],[[]],[[]],[[],[34]],[[],[],[39],[38,40]],[[],[42],[],[44],[43,45],[],[46,47]],[[],[48],[],[50],[51],[52],[49,53],[],[54,55]],[[],[56],[],[58],[59],[60],[57,61],[],[62,63]],[[],[64],[],[66],[67],[68],[65,69],[],[70,71]],[[],[72],[],[74],[75],[73,76],[],[77,78]],[[],[79],[],[81],[],[83],[82,84],[85],[80,86],[],[87,88]],[[],[89],[],[91],[92],[90,93],[94],[95],[96]],[[],[36],[37]],[[],[97],[],[99],[100],[],[102],[],[104],[103,105],[],[98,107],[],[101,108],[],[106,109]],[[],[],[110,111],[112],[113],[],[],[],[117],[115,116,118],[119],[114,120],[121],[],[],[123,124],[125],[122,126],[127],[],[],[],[131],[129,130,132],[133],[128,134],[135],[],[137],[],[139],[138,140],[],[],[143],[141,142,144],[145],[136,146],[147],[],[],[],[151],[150,152],[],[],[155],[154,156],[],[158],[159],[153,157,160],[149,161],[162],[148,163]],[[]],[[],[22],[23]],[[],[165],[],[166]],[[]],[[],[167]],[[]],[[]],[[],[171]],[[],[],[],[176,177],[178],[179],[180],[181],[175,182],[183]],[[],[173],[174]],[[],[],[185],[184,186],[187]],[[]],[[],[169],[170]],[[],[],[189]],[[],[],[191,192],[193],[],[190],[194,13],[195]],[[],[],[197,198],[199],[],[196],[200,15],[201]],[[],[203],[204],[],[202],[205,17],[206]],[[],[],[207,208],[],[209]],[[],[210],[211],[212]],[[],[213],[214],[],[216],[215,217],[218],[],[220],[219,221],[222],[],[],[],[225,226],[224,227],[223,228],[229],[],[231],[],[233],[232,234],[230,235],[236],[],[],[238,239],[237,240],[241],[],[],[243,244],[242,245],[246],[],[248],[],[250],[249,251],[247,252],[253],[],[254,255],[256]]]
def C8:CC:=cq Try.f8 k8
theorem s8:QA Try.prog 8 257 [.tmp 0] C8:=⟨Try.f8,_,k8,[],Try.func8,rfl,by kernel_rfl,rfl,rfl,by kernel_rfl,rfl⟩
end Go.Proofs.Ytfcbahfdgopgfaa
