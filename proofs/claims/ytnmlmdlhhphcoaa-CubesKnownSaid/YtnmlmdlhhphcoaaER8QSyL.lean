/- A part of the proof. -/
import Derived.Test.YtnmlmdlhhphcoaaER8QSyK
set_option linter.all false
namespace Go.Abs
variable [Gl]
section
variable {H:Type}{enc:TypeId×Value->H}{P:Program}{W:World}{sp:Nat->Bool}
theorem handed_sized{a:Assume}{C:Checked}{os:Os}{f:FuncId}{fn:Func}{s:ChangeSpec}{conds:List PathCond}{apart fresh handsOn again:Bool}
  (own:ownKnob C.prog.godebug=none) (started:os.Started) (noInit:C.prog.inits.idxOf? f=none) (hfn:C.prog.funcs[f]? =some fn)
  (witness:∃(w:World) (tape:Tape) (i:Input),w.os=os/\(w.forCall tape i).Shaped C.prog/\i.vars=[]/\Input.okWide C.prog (w.forCall tape i) .any w.heap.size f i/\
   s.pre6 enc C.prog fn conds apart (w.forCall tape i).memory i.args/\a.holds C.prog (lone (Frame.enter C.prog f i.args .normal) [] (w.forCall tape i)))
  (contract:∀(W:World) (base:Nat) (args:Array Value) (ds gs:List (DataW H)) (before:List MemPlace),
   (∀(j:Nat) t v,fn.params[j]? =some t->args[j]? =some v->Value.okWide C.prog W .any base t v)->
   DataW.Whole enc C.prog fn.params.toList s.vars apart W args.toList ds gs before->
   (DataW.weightsEach C.prog (fn.params.toList++s.plain.varTypes C.prog) (ds++gs)).all (· <=reachBytes)=true->
   Calls C.prog f args W λe W'=>∃v,e=.returned v/\s.post enc C.prog fn apart fresh handsOn again W args v W'):
  ReturnsInHanded a C os f .any (s.pre6 enc C.prog fn conds apart) (s.post enc C.prog fn apart fresh handsOn again):=by
 refine returnsInHanded_of_calls own started noInit witness ?_;intro w tape i _ _ _ hok hpre _;obtain⟨_,_,_,fn',hfn',_,_,_,_,hval⟩:=hok;have e:fn'=fn:=Option.some.inj (hfn'.symm.trans hfn);subst e;obtain⟨⟨ds,gs,before,hw,_⟩,hz⟩:=hpre;refine(contract (w.forCall tape i) w.heap.size i.args ds gs before hval (DataW.Whole.of_heap (w':=w.forCall tape i) (by rfl) hw) (hz.weights hw)).mono λe W' ⟨v,he,hp⟩=> ?_;subst he;exact ChangeSpec.post_blind hp
theorem argsR1{a:AV}{v:Value}(h:VR JD W a v):ZN JD W [a] #[v]:=⟨rfl,λi hi=>by
 match i,hi with
 |0,_=>exact⟨v,rfl,h⟩⟩
theorem jz{a b:AV}{v u:Value}(h:VR JD W a v)(h':VR JD W b u):ZN JD W [a,b] #[v,u]:=⟨rfl,λi hi=>by
 match i,hi with
 |0,_=>exact⟨v,rfl,h⟩
 |1,_=>exact⟨u,rfl,h'⟩⟩
theorem argsR3{a b c:AV}{v u x:Value}(h:VR JD W a v)(h':VR JD W b u)(h'':VR JD W c x):ZN JD W [a,b,c] #[v,u,x]:=⟨rfl,λi hi=>by
 match i,hi with
 |0,_=>exact⟨v,rfl,h⟩
 |1,_=>exact⟨u,rfl,h'⟩
 |2,_=>exact⟨x,rfl,h''⟩⟩
end
end Go.Abs
