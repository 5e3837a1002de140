/- A part of the proof. -/
import Derived.Test.YtpbplpgfloaaiaaGreatDoorXS2QAbsZ
import Derived.Test.YtpbplpgfloaaiaaGreatDoorXS2QSy9
set_option linter.all false
namespace Go.Abs
variable [Gl]
def bindO{α β:Type}(o:Option α)(k:α->Option β):Option β:=match o with|some a=>k a|none=>none
def sumC{α β γ:Type}(s:α⊕β)(k:α->Option γ)(l:β->Option γ):Option γ:=match s with|.inl a=>k a|.inr b=>l b
def inTg(d:Nat):Tg->Bool
 |[]=>false
 |(t,_)::l=>match Nat.beq t d with|true=>true|false=>inTg d l
def SR.free(d:Nat):SR->Bool
 |[]=>true
 |(_,tg,_)::r=>match inTg d tg with|true=>false|false=>SR.free d r
def SR.set:SR->Nat->Tg×SV->SR
 |[],t,v=>[(t,v)]
 |(k,u)::r,t,v=>match Nat.beq k t with|true=>(k,v)::r|false=>(k,u)::SR.set r t v
def SR.del:SR->Nat->SR
 |[],_=>[]
 |(k,u)::r,t=>match Nat.beq k t with|true=>SR.del r t|false=>(k,u)::SR.del r t
def SR.kill(r:SR):List Nat->SR
 |[]=>r
 |t::ts=>match r.free t with|true=>SR.kill (r.del t) ts|false=>SR.kill r ts
def SR.put(r:SR)(d:Option Nat)(L:Tg)(v:Option SV):Option SR:=match d with
 |none=>some r
 |some d=>match r.free d,inTg d L with
  |true,false=>match v with
   |some v=>some (r.set d (L,v))
   |none=>some (r.set d ([],.tup []))
  |_,_=>none
def zB:Ly->List T->Bool
 |.int k,z=>match z with|[.int k' (.ofNat 0)]=>Yf k' k|_=>false
 |.bool,z=>match z with|[.bool false]=>true|_=>false
 |.str,z=>match z with|[.str []]=>true|_=>false
 |.sl _,z=>match z with|[.imm [] 0 _]=>true|_=>false
 |.pair a b,z=>match zB a (z.take a.size) with|true=>zB b (z.drop a.size)|false=>false
def SO.norm:SO->SO
 |.zer z c n=>match zB c z with|true=>.arr c (List.replicate n c.X8) 0|false=>.zer z c n
 |.opn c xs cs ys ep=>match c.enc false cs with|some y=>.arr c (xs++y::ys) ep|none=>.opn c xs cs ys ep
 |o=>o
def SO.unz:SO->SO
 |.zer z (.int k) n=>match zB (.int k) z with|true=>.arr (.int k) (List.replicate n (0:Int)) 0|false=>.zer z (.int k) n
 |o=>o
def SO.isZ:SO->Bool
 |.zer .. =>true
 |.opn .. =>true
 |_=>false
def anyZ:SH->Bool
 |[]=>false
 |o::M=>match o.isZ with|true=>true|false=>anyZ M
def SH.norm(M:SH):SH:=match anyZ M with|true=>M.map SO.norm|false=>M
structure Con where(X Y:Type)(dec:List SV->SH->Option X)(run:X->Option Y)(inh:Y)(val:X->Y->SH->SV)(heap:X->Y->SH->SH)(rd:X->Option (List Nat))
inductive QT where
 |one (X Y:Type) (dec:SR->SH->Option (Bool×X)) (run:X->Option Y) (out:X->Y->Exit×SR×SH)
 |two (X Y Z:Type) (dec:SR->SH->Option (Bool×X)) (run:X->Option (Y⊕Z)) (outY:X->Y->Exit×SR×SH) (outZ:X->Z->Exit×SR×SH)
 |alt (u v:QT)
structure Env where(ty:TyT)(cf:FuncId->List Con)(lp:Nat->Option QT)(yb:Option (Array Tmp×QT))
def Ug(x:Nat):List Nat->Bool
 |[]=>false
 |y::l=>match Nat.beq y x with|true=>true|false=>Ug x l
def VO:List Nat->Bool
 |[]=>true
 |x::l=>match Ug x l with|true=>false|false=>VO l
def fitsU(r:SR)(M:SH):QT->Bool
 |.one _ _ dec _ _=>match dec r M with|some _=>true|none=>false
 |.two _ _ _ dec _ _ _=>match dec r M with|some _=>true|none=>false
 |.alt u v=>match fitsU r M u with|true=>true|false=>fitsU r M v
def UO{β:Type}(u:QT)(r:SR)(M:SH)(K:Exit->SR->SH->Option β):Option β:=match u with
 |.alt u v=>match fitsU r M u with|true=>UO u r M K|false=>UO v r M K
 |.one _ _ dec run out=>match dec r M with
  |some (p,x)=>bif p then bindO (run x) (λy=>K (out x y).1 (out x y).2.1 (out x y).2.2) else none
  |none=>none
 |.two _ _ _ dec run outY outZ=>match dec r M with
  |some (p,x)=>bif p then bindO (run x) (λs=>sumC s (λy=>K (outY x y).1 (outY x y).2.1 (outY x y).2.2) (λz=>K (outZ x z).1 (outZ x z).2.1 (outZ x z).2.2)) else none
  |none=>none
def refArg(r:Ref):SV:=.c (.ptr r.id r.off)
def allE0:List Ref->Bool
 |[]=>true
 |r::rs=>match Nat.beq r.ep 0 with|true=>allE0 rs|false=>false
def Z4(r:SR)(L:Tg)(f:Operand)(args:List Operand):Option (FuncId×List SV):=match evS r L f,Ku r L args with
 |some (.c (.fn g)),some as=>some (g,as)
 |some (.c (.clo g rs)),some as=>match allE0 rs,Nat.beq g YID with
  |true,false=>match Nat.ble BND g with
   |true=>some (g - BND,rs.map refArg++as)
   |false=>some (g,as++rs.map refArg)
  |_,_=>none
 |_,_=>none
def Xi(as:List SV)(M:SH):List Con->Option ((c:Con)×c.X)
 |[]=>none
 |c::l=>match c.dec as M with
  |some x=>some ⟨c,x⟩
  |none=>Xi as M l
def callS{β:Type}(E:Env)(g:FuncId)(as:List SV)(M:SH)(K:SV->SH->Option β):Option β:=match Xi as M (E.cf g) with
 |some ⟨c,x⟩=>bindO (c.run x) λy=>K (c.val x y M) (c.heap x y M)
 |none=>none
def callG{β:Type}(E:Env)(b:Bool)(g:FuncId)(as:List SV)(M:SH)(K:SV->Option β):Option β:=match Xi as M (E.cf g) with
 |some ⟨c,x⟩=>match c.rd x with
  |some _=>bindO (bif b then c.run x else some c.inh) λy=>K (c.val x y M)
  |none=>none
 |none=>none
def quiet:Op->Bool
 |.move .. |.assign .. |.pick .. |.build .. |.load .. |.nilCheck .. |.binOp .. |.unOp .. |.convert .. |.makeFunc .. |.slice .. |.fieldAddr .. |.field .. |.indexAddr .. |.index .. |.extract .. =>true
 |.call { callee:=.builtin b,.. }=>match b with
  |.len|.cap|.min|.max=>true
  |_=>false
 |_=>false
def X6:Op->Option (Operand×List Operand)
 |.call { callee:=.value f,args,.. }=>some (f,args.toList)
 |_=>none
def deadV:Op->SV
 |.binOp b .. =>match b with
  |.eql|.neq|.lss|.leq|.gtr|.geq=>.c (.bo false)
  |_=>.tup []
 |.unOp .. =>.c (.bo false)
 |.pick .. =>.c (.bo false)
 |_=>.tup []
def deadG(ex:Bool)(E:Env)(r:SR)(L:Tg)(M:SH)(op:Op):Bool:=match X6 op with
 |some (f,args)=>match Z4 r L f args with
  |some (h,as)=>match Xi as M (E.cf h) with
   |some ⟨c,x⟩=>match c.rd x with
    |some _=>false
    |none=>true
   |none=>true
  |none=>true
 |none=>match quiet op,opS ex E.ty r L M op with
  |true,some (_,some _,_)=>false
  |_,_=>true
def quietR(op:Op)(M:SH)(o:Option (Bool×Option SV×SH)):Bool:=match quiet op with
 |true=>true
 |false=>match op,o with
  |.buildSlice ..,some (_,_,S')=>Nat.beq S'.length M.length
  |_,_=>false
def deadD(E:Env)(r:SR)(L:Tg)(M:SH)(op:Op):Bool:=match X6 op with
 |some (f,args)=>match Z4 r L f args with
  |some (h,as)=>match Xi as M (E.cf h) with
   |some ⟨c,x⟩=>match c.rd x with
    |some _=>false
    |none=>true
   |none=>true
  |none=>true
 |none=>match quietR op M (opS true E.ty r L M op),opS true E.ty r L M op with
  |true,some (_,some _,_)=>false
  |_,_=>true
def isYield(E:Env)(r:SR)(op:Op):Option (Array Tmp×QT×List SV):=match E.yb with
 |none=>none
 |some (ps,u)=>match X6 op with
  |some (f,args)=>match evS r [] f with
   |some (.c (.clo g _))=>match Nat.beq g YID with
    |true=>match Ku r [] args with
     |some as=>some (ps,u,as)
     |none=>none
    |false=>none
   |_=>none
  |none=>none
def fixT(d:Nat)(w:Bool):Tg->Tg
 |[]=>[]
 |(t,u)::l=>match Nat.beq t d with
  |true=>match u,w with
   |true,true=>fixT d w l
   |false,false=>fixT d w l
   |_,_=>(t,u)::fixT d w l
  |false=>(t,u)::fixT d w l
def SR.fix(d:Nat)(w:Bool):SR->SR
 |[]=>[]
 |(k,tg,v)::r=>match Nat.beq k d with
  |true=>(k,[],.c (.bo w))::SR.fix d w r
  |false=>(k,fixT d w tg,v)::SR.fix d w r
def nrm:Op->SH->SH
 |.makeSlice ..,M=>SH.norm M
 |_,M=>M
def stepU{β:Type}(E:Env)(d:Option Nat)(op:Op)(k:List Nat)(r:SR)(M:SH)(K:SR->SH->Option β):Option β:=match X6 op with
 |some (f,args)=>match Z4 r [] f args with
  |some (h,as)=>callS E h as M λv S'=>match r.put d [] (some v) with
   |some r'=>K (r'.kill k) (SH.norm S')
   |none=>none
  |none=>none
 |none=>match opS false E.ty r [] M op with
  |some (p,v,S')=>match r.put d [] v with
   |some r'=>bif p then K (r'.kill k) (nrm op S') else none
   |none=>none
  |none=>none
def Yn{β:Type}(E:Env)(N:Nat):List COp->SR->SH->(SR->SH->Option β)->Option β
 |[],r,M,K=>K r (SH.norm M)
 |⟨d,op,g,k⟩::os,r,M,K=>match X3 N d with
  |false=>none
  |true=>match isYield E r op with
  |some _=>none
  |none=>match g with
   |none=>match X6 op with
    |some (f,args)=>match Z4 r [] f args with
     |some (h,as)=>callS E h as M λv S'=>match r.put d [] (some v) with
      |some r'=>Yn E N os (r'.kill k) (SH.norm S') K
      |none=>none
     |none=>none
    |none=>match opS false E.ty r [] M op with
     |some (p,v,S')=>match r.put d [] v with
      |some r'=>bif p then Yn E N os (r'.kill k) (nrm op S') K else none
      |none=>none
     |none=>none
   |some (gd,w)=>match r.gget gd with
    |some (tg,.c (.bo b))=>match deadG false E r ((gd,w)::tg) M op with
     |true=>match tg with
      |[]=>bif r.holds [(gd,w)] then stepU E d op k (r.fix gd w) M (λr' S'=>Yn E N os r' S' K) else (match (r.fix gd (!w)).put d [(gd,w)] (some (deadV op)) with
       |some r'=>Yn E N os (r'.kill k) M K
       |none=>none)
      |_::_=>match r.put d ((gd,w)::tg) (some (deadV op)) with
       |some r'=>bif r.holds ((gd,w)::tg) then none else Yn E N os (r'.kill k) M K
       |none=>none
     |false=>match X6 op with
     |some (f,args)=>match Z4 r ((gd,w)::tg) f args with
      |some (h,as)=>callG E (r.holds ((gd,w)::tg)) h as M λv=>match r.put d ((gd,w)::tg) (some v) with
       |some r'=>Yn E N os (r'.kill k) M K
       |none=>none
      |none=>none
     |none=>match quiet op,opS false E.ty r ((gd,w)::tg) M op with
      |true,some (p,some v,_)=>match r.put d ((gd,w)::tg) (some v) with
       |some r'=>bif (p||!(r.holds ((gd,w)::tg))) then Yn E N os (r'.kill k) M K else none
       |none=>none
      |_,_=>none
    |_=>none
def Wb:Option SV->List Nat
 |some (.c (.ptr id _))=>[id+1]
 |some (.c (.el id ..))=>[id+1]
 |some (.c (.sl id ..))=>[id+1]
 |_=>[]
def newIds(M S':SH)(rs:List Nat):List Nat×List Nat:=match Nat.beq S'.length M.length with
 |true=>([],[])
 |false=>(0::rs,[0,M.length+1])
def XJ(r:SR)(L:Tg)(M S':SH)(op:Op):Option (List Nat×List Nat):=match op with
 |.load _ a=>some (Wb (evS r L a),[])
 |.store _ a _=>some (Wb (evS r L a),Wb (evS r L a))
 |.alloc .. |.box .. |.makeSlice .. |.buildSlice .. =>some (newIds M S' [])
 |.slice _ v _ _ _=>some (Wb (evS r L v),[])
 |.call { callee:=.builtin b,args,.. }=>match b with
  |.append=>match args.toList with
   |[s,v]=>match Nat.beq S'.length M.length with
    |true=>some (Wb (evS r L s)++Wb (evS r L v),Wb (evS r L s))
    |false=>some (0::(Wb (evS r L s)++Wb (evS r L v)),[0,M.length+1])
   |_=>none
  |.cap=>match args.toList with
   |[s]=>some (Wb (evS r L s),[])
   |_=>none
  |.copy=>match args.toList with
   |[s,v]=>some (Wb (evS r L s)++Wb (evS r L v),Wb (evS r L s))
   |_=>none
  |.len|.min|.max=>some ([],[])
  |_=>none
 |.binOp _ _ _ y _=>match JS y with|true=>none|false=>some ([],[])
 |_=>some ([],[])
def KU{β:Type}(E:Env)(N:Nat):List COp->Nat->List Nat->JB->SR->SH->(SR->SH->Option β)->Option β
 |[],_,_,_,r,M,K=>K r (SH.norm M)
 |⟨d,op,g,_⟩::os,j,bef,log,r,M,K=>match X3 N d with
  |false=>none
  |true=>match g with
   |none=>match X6 op with
    |some (f,args)=>match Z4 r [] f args with
     |some (h,as)=>match Xi as M (E.cf h) with
      |some ⟨c,x⟩=>match c.rd x with
       |some rs=>match Qx (bef.headD 0) rs [] log with
        |true=>bindO (c.run x) λy=>match r.put d [] (some (c.val x y M)) with
         |some r'=>KU E N os (j+1) bef.tail ((j,rs,[])::log) r' M K
         |none=>none
        |false=>none
       |none=>bindO (c.run x) λy=>match Nat.ble M.length (c.heap x y M).length,Qx (bef.headD 0) (List.range (M.length+1)) (List.range ((c.heap x y M).length+1)) log,r.put d [] (some (c.val x y M)) with
        |true,true,some r'=>KU E N os (j+1) bef.tail ((j,List.range (M.length+1),List.range ((c.heap x y M).length+1))::log) r' (c.heap x y M) K
        |_,_,_=>none
      |none=>none
     |none=>none
    |none=>match opS true E.ty r [] M op with
     |some (p,v,S')=>match r.put d [] v,XJ r [] M S' op with
      |some r',some (rs,ws)=>match Qx (bef.headD 0) rs ws log with
       |true=>bif p then KU E N os (j+1) bef.tail ((j,rs,ws)::log) r' S' K else none
       |false=>none
      |_,_=>none
     |none=>none
   |some (gd,w)=>match r.gget gd with
    |some (tg,.c (.bo b))=>match deadD E r ((gd,w)::tg) M op with
     |true=>match r.put d ((gd,w)::tg) (some (deadV op)) with
      |some r'=>bif r.holds ((gd,w)::tg) then none else KU E N os (j+1) bef.tail ((j,[],[])::log) r' M K
      |none=>none
     |false=>match X6 op with
     |some (f,args)=>match Z4 r ((gd,w)::tg) f args with
      |some (h,as)=>match Xi as M (E.cf h) with
       |some ⟨c,x⟩=>match c.rd x with
        |some rs=>match Qx (bef.headD 0) rs [] log with
         |true=>bindO (bif r.holds ((gd,w)::tg) then c.run x else some c.inh) λy=>match r.put d ((gd,w)::tg) (some (c.val x y M)) with
          |some r'=>KU E N os (j+1) bef.tail ((j,rs,[])::log) r' M K
          |none=>none
         |false=>none
        |none=>none
       |none=>none
      |none=>none
     |none=>match quietR op M (opS true E.ty r ((gd,w)::tg) M op),opS true E.ty r ((gd,w)::tg) M op with
      |true,some (p,some v,_)=>match r.put d ((gd,w)::tg) (some v),XJ r ((gd,w)::tg) M M op with
       |some r',some (rs,ws)=>match Qx (bef.headD 0) rs ws log with
        |true=>bif (p||!(r.holds ((gd,w)::tg))) then KU E N os (j+1) bef.tail ((j,rs,ws)::log) r' M K else none
        |false=>none
       |_,_=>none
      |_,_=>none
    |_=>none
def waitS:SO:=.st [.arr (.int .u8) ([0]:List Int) (some 0)] 1 0
def oneZero:(c:Ly)->List c.ty->Bool
 |.int .u8,(xs:List Int)=>match xs with
  |[x]=>match x with
   |.ofNat n=>Nat.beq n 0
   |_=>false
  |_=>false
 |_,_=>false
def YR:SO->Bool
 |.st [.arr c xs (some 0)] 1 0=>oneZero c xs
 |_=>false
def Vp:List COp->Nat
 |[]=>0
 |⟨_,.makeSlice ..,_,_⟩::os=>Vp os+1
 |_::os=>Vp os
def Vj{β:Type}(E:Env)(N:Nat):List COp->Nat->List Nat->JB->Nat->SR->SH->(SR->SH->Option β)->Option β
 |[],_,_,_,_,r,M,K=>K r (SH.norm M)
 |⟨d,op,g,_⟩::os,j,bef,log,q,r,M,K=>match X3 N d,g with
  |true,none=>match op with
   |.makeSlice t l c=>match evS r [] l,evS r [] c with
    |some u,some v=>match ZZ E.ty [] t u v,M[q]? with
     |some (p,.c (.sl _ _ es _ n cap),[o]),some ow=>match YR ow,Qx (bef.headD 0) [q+1] [q+1] log,r.put d [] (some (.c (.sl q 0 es 0 n cap))) with
      |true,true,some r'=>bif p then Vj E N os (j+1) bef.tail ((j,[q+1],[q+1])::log) (q+1) r' (M.set q o.unz) K else none
      |_,_,_=>none
     |_,_=>none
    |_,_=>none
   |op=>match X6 op,opS true E.ty r [] M op with
    |none,some (p,v,S')=>match r.put d [] v,XJ r [] M S' op with
     |some r',some (rs,ws)=>match Qx (bef.headD 0) rs ws log with
      |true=>bif p then Vj E N os (j+1) bef.tail ((j,rs,ws)::log) q r' S' K else none
      |false=>none
     |_,_=>none
    |_,_=>none
  |_,_=>none
def shR(k:Nat)(r:Ref):Ref:={ r with id:=k+r.id }
def shC(k:Nat):SC->SC
 |.ptr id off=>.ptr (k+id) off
 |.el id ep es i off=>.el (k+id) ep es i off
 |.sl id ep es lo len cap=>.sl (k+id) ep es lo len cap
 |.clo f rs=>.clo f (rs.map (shR k))
 |c=>c
def shP(k:Nat):SC⊕List SC->SC⊕List SC
 |.inl c=>.inl (shC k c)
 |.inr l=>.inr (l.map (shC k))
def shV(k:Nat):SV->SV
 |.c x=>.c (shC k x)
 |.agg xs=>.agg (xs.map (shC k))
 |.tup xs=>.tup (xs.map (shP k))
def treesO:SO->Bool
 |.st cs _ _=>Zv cs
 |.arr .. =>true
 |.zer .. =>true
 |.opn .. =>false
def treesL:SH->Bool
 |[]=>true
 |o::os=>match treesO o with|true=>treesL os|false=>false
def Wx:List SV->Bool
 |[]=>true
 |.c x::l=>match x.isT with|true=>Wx l|false=>false
 |.agg xs::l=>match Zv xs with|true=>Wx l|false=>false
 |.tup _::_=>false
def waitsS(M:SH):Nat->Nat->Bool
 |_,0=>true
 |q,n+1=>match M[q]? with
  |some o=>match YR o with|true=>waitsS M (q+1) n|false=>false
  |none=>false
def setsS:Nat->List SO->SH->SH
 |_,[],M=>M
 |q,o::os,M=>setsS (q+1) os (M.set q o)
def Ya:List COp->Nat
 |[]=>0
 |⟨_,.makeSlice ..,_,_⟩::os=>Ya os+1
 |⟨_,.alloc ..,_,_⟩::os=>Ya os+1
 |⟨_,.call { callee:=.value _,.. },_,_⟩::os=>Ya os+2
 |⟨_,.buildSlice _ n _,_,_⟩::os=>match Nat.beq n 0 with|true=>Ya os+1|false=>Ya os
 |_::os=>Ya os
def hasNew:List COp->Bool
 |[]=>false
 |⟨_,.alloc ..,_,_⟩::_=>true
 |⟨_,.call { callee:=.value _,.. },_,_⟩::_=>true
 |⟨_,.buildSlice _ n _,_,_⟩::os=>match Nat.beq n 0 with|true=>true|false=>hasNew os
 |_::os=>hasNew os
def nilApp(r:SR)(d:Option Nat):Op->Option (Array TypeId×SC)
 |.call { callee:=.builtin .append,args,argTypes }=>match d,Ku r [] args.toList with
  |some _,some [.c .nils,.c v]=>some (argTypes,v)
  |_,_=>none
 |_=>none
def noGuard:List COp->Bool
 |[]=>true
 |⟨_,_,some _,_⟩::_=>false
 |⟨_,_,none,_⟩::os=>noGuard os
def liveG(r:SR):Option (Nat×Bool)->Bool
 |none=>true
 |some (gd,w)=>match r.gget gd with
  |some (tg,.c (.bo _))=>r.holds ((gd,w)::tg)
  |_=>false
def KT{β:Type}(E:Env)(N:Nat):List COp->Nat->List Nat->JB->Nat->SR->SH->(SR->SH->Option β)->Option β
 |[],_,_,_,_,r,M,K=>K r (SH.norm M)
 |⟨d,op,g,_⟩::os,j,bef,log,q,r,M,K=>match X3 N d,liveG r g with
   |true,true=>match op with
     |.makeSlice t l c=>match evS r [] l,evS r [] c with
       |some u,some v=>match ZZ E.ty [] t u v,M[q]? with
         |some (p,.c (.sl _ _ es _ n cap),[o]),some ow=>match YR ow,Qx (bef.headD 0) [q+1] [q+1] log,r.put d [] (some (.c (.sl q 0 es 0 n cap))) with
           |true,true,some r'=>bif p then KT E N os (j+1) bef.tail ((j,[q+1],[q+1])::log) (q+1) r' (M.set q o.unz) K else none
           |_,_,_=>none
         |_,_=>none
       |_,_=>none
     |.alloc e=>match E.ty e with
       |some (i,_)=>match zeroS i,M[q]? with
         |some z,some ow=>match YR ow,Zv z,Qx (bef.headD 0) [q+1] [q+1] log,r.put d [] (some (.c (.ptr q 0))) with
           |true,true,true,some r'=>KT E N os (j+1) bef.tail ((j,[q+1],[q+1])::log) (q+1) r' (M.set q (.st z 1 0)) K
           |_,_,_,_=>none
         |_,_=>none
       |none=>none
     |op=>match X6 op with
       |some (f,args)=>match Z4 r [] f args with
         |some (h,as)=>match Xi as M (E.cf h) with
           |some ⟨c,x⟩=>match c.rd x with
             |some rs=>match Qx (bef.headD 0) rs [] log with
               |true=>bindO (c.run x) λy=>match r.put d [] (some (c.val x y M)) with
                 |some r'=>KT E N os (j+1) bef.tail ((j,rs,[])::log) q r' M K
                 |none=>none
               |false=>none
             |none=>match Xi as [] (E.cf h),Wx as with
               |some ⟨c,x⟩,true=>bindO (c.run x) λy=>match treesL (c.heap x y []),waitsS M q (c.heap x y []).length,Nat.blt 0 (c.heap x y []).length,Qx (bef.headD 0) (ZS q (c.heap x y []).length) (ZS q (c.heap x y []).length) log,r.put d [] (some (shV q (c.val x y []))) with
                 |true,true,true,true,some r'=>KT E N os (j+1) bef.tail ((j,ZS q (c.heap x y []).length,ZS q (c.heap x y []).length)::log) (q+(c.heap x y []).length) r' (setsS q (c.heap x y []) M) K
                 |_,_,_,_,_=>none
               |_,_=>bindO (c.run x) λy=>match Nat.ble M.length (c.heap x y M).length,Qx (bef.headD 0) (List.range (M.length+1)) (List.range ((c.heap x y M).length+1)) log,r.put d [] (some (c.val x y M)) with
                 |true,true,some r'=>KT E N os (j+1) bef.tail ((j,List.range (M.length+1),List.range ((c.heap x y M).length+1))::log) q r' (c.heap x y M) K
                 |_,_,_=>none
           |none=>none
         |none=>none
       |none=>match nilApp r d op with
        |some (ts,v)=>match Z7 false E.ty [] .append ts [.c .nils,.c v],M[q]? with
         |some (p,.c (.sl _ _ es _ n _),[.arr c new _]),some ow=>match YR ow,v.isT,Qx (bef.headD 0) [q+1] [q+1] log,r.put d [] (some (.c (.sl q 0 es 0 n none))) with
           |true,true,true,some r'=>bif p then KT E N os (j+1) bef.tail ((j,[q+1],[q+1])::log) (q+1) r' (M.set q (.arr c new 0)) K else none
           |_,_,_,_=>none
         |_,_=>none
        |none=>match opS true E.ty r [] M op with
         |some (p,v,S')=>match r.put d [] v,XJ r [] M S' op with
           |some r',some (rs,ws)=>match Qx (bef.headD 0) rs ws log with
             |true=>bif p then KT E N os (j+1) bef.tail ((j,rs,ws)::log) q r' S' K else none
             |false=>none
           |_,_=>none
         |none=>none
   |_,_=>none
def CC.nl:CC->Nat
 |.seq a b=>a.nl+b.nl
 |.cond _ a b=>a.nl+b.nl
 |.block _ a=>a.nl
 |.loop a=>a.nl+1
 |.rng _ _ a b=>a.nl+b.nl+1
 |.scp a=>a.nl
 |_=>0
def opsM(ty:TyT)(N:Nat):List COp->SR->SH->Option (Bool×SR)
 |[],r,_=>some (true,r)
 |⟨d,op,g,_⟩::os,r,M=>match X3 N d,X6 op,quiet op with
  |true,none,true=>match g with
   |none=>match opS false ty r [] M op with
    |some (p,v,_)=>match r.put d [] v with
     |some r'=>match opsM ty N os r' M with
      |some (q,r'')=>some (p&&q,r'')
      |none=>none
     |none=>none
    |none=>none
   |some (gd,w)=>match r.gget gd with
    |some (tg,.c (.bo _))=>match opS false ty r ((gd,w)::tg) M op with
     |some (p,some v,_)=>match r.put d ((gd,w)::tg) (some v) with
      |some r'=>match opsM ty N os r' M with
       |some (q,r'')=>some ((p||!(r.holds ((gd,w)::tg)))&&q,r'')
       |none=>none
      |none=>none
     |_=>none
    |_=>none
  |_,_,_=>none
def dstsOf:List COp->List Nat
 |[]=>[]
 |o::os=>match o.d with|some d=>d::dstsOf os|none=>dstsOf os
def writes:CC->List Nat
 |.reg ops=>dstsOf ops
 |.seq a b=>writes a++writes b
 |.cond _ a b=>writes a++writes b
 |_=>[]
def Zw(b:Bool)(r1 r2:SR):List Nat->SR->Option SR
 |[],r=>some r
 |t::ts,r=>match r.free t with
  |true=>match r1.get t,r2.get t with
   |some ([],x),some ([],y)=>match mergeV b x y with
    |some v=>Zw b r1 r2 ts (r.set t ([],v))
    |none=>Zw b r1 r2 ts (r.del t)
   |_,_=>Zw b r1 r2 ts (r.del t)
  |false=>none
def condB(t p q:Bool):Bool:=bif p then (bif q then true else t) else (bif t then false else q)
def runM(ty:TyT)(N:Nat):CC->SR->SH->Option (Bool×SR)
 |.skip,r,_=>some (true,r)
 |.reg ops,r,M=>opsM ty N ops r M
 |.seq a b,r,M=>match runM ty N a r M with
  |some (p,r1)=>match runM ty N b r1 (SH.norm M) with
   |some (q,r2)=>some (p&&q,r2)
   |none=>none
  |none=>none
 |.cond c a b,r,M=>match evS r [] c with
  |some (.c (.bo t))=>match runM ty N a r M,runM ty N b r M with
   |some (p,r1),some (q,r2)=>match Zw t r1 r2 (writes a++writes b) r with
    |some r'=>some (condB t p q,r')
    |none=>none
   |_,_=>none
  |_=>none
 |_,_,_=>none
def loopN{β:Type}(body:SR->SH->(Exit->SR->SH->Option β)->Option β):Nat->SR->SH->(Exit->SR->SH->Option β)->Option β
 |0,_,_,_=>none
 |n+1,r,M,K=>body r M λe r' S'=>match e with
  |.normal=>loopN body n r' S' K
  |e=>K e r' S'
def exec{β:Type}(E:Env)(N:Nat):CC->Nat->SR->SH->(Exit->SR->SH->Option β)->Option β
 |.skip,_,r,M,K=>K .normal r M
 |.reg ops,_,r,M,K=>Yn E N ops r M (K .normal)
 |.drw ops bef,_,r,M,K=>match E.yb with
   |some _=>none
   |none=>match (match hasNew ops with|true=>(match noGuard ops with|true=>true|false=>Nat.ble 2 (Vp ops))|false=>false) with
    |true=>KT E N ops 0 bef [] M.length r (M++List.replicate (Ya ops) waitS) (K .normal)
    |false=>match Nat.ble 2 (Vp ops) with
     |true=>Vj E N ops 0 bef [] M.length r (M++List.replicate (Vp ops) waitS) (K .normal)
     |false=>KU E N ops 0 bef [] r M (K .normal)
 |.seq a b,i,r,M,K=>exec E N a i r M λe r' S'=>match e with
   |.normal=>exec E N b (i+a.nl) r' S' K
   |e=>K e r' S'
 |.cond c a b,i,r,M,K=>match evS r [] c with
   |some (.c (.bo t))=>match runM E.ty N (.cond c a b) r M with
     |some (p,r')=>bif p then K .normal r' (SH.norm M) else none
     |none=>bif t then exec E N a i r M K else exec E N b (i+a.nl) r M K
   |_=>none
 |.block id a,i,r,M,K=>exec E N a i r M λe r' S'=>match e with
   |.exit k=>match Nat.beq k id with
     |true=>K .normal r' S'
     |false=>K (.exit k) r' S'
   |e=>K e r' S'
 |.loop a,i,r,M,K=>match E.lp i with
   |some u=>UO u r M K
   |none=>match Nat.beq a.nl 0 with
     |true=>loopN (λr M K=>exec E N a (i+1) r M K) 4 r M K
     |false=>none
 |.exit id,_,r,M,K=>K (.exit id) r M
 |.ret,_,r,M,K=>K .ret r M
 |.rng ..,i,r,M,K=>match E.lp i with
   |some u=>UO u r M K
   |none=>none
 |.scp a,i,r,M,K=>exec E N a i r M λe r' S'=>match e with
   |.goto _=>none
   |e=>K e r' S'
 |.lbl,_,r,M,K=>K .normal r M
end Go.Abs
