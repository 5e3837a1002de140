/- A part of the proof. -/
import Derived.Test.YtnmlmdlhhphcoaaER8QSyJ
import Derived.Below
set_option linter.all false
namespace Go.Abs
variable [Gl]
open Go.RowKit
theorem HR.empty{M:Map}{w:World}(h:HR M [] w)(id:Nat):M id=none:=by
 cases h1:M id with
 |none=>rfl
 |some s=>obtain⟨o,h2,_⟩:=h.obj id s h1;cases h2
theorem fn_extH{P:Program}{f:FuncId}{args:List AV}{v:AV}{J:Q4}(hc:Xr P f)
  (h:∀M w cargs,HR M J w->ZN M w args cargs->∃cv,(∀w',Step M J w M J w'->VR M w' v cv)/\Calls P f cargs w λe w'=>e=.returned cv/\Below w.heap.size w w'):
  Jl P f args J λu τ=>u=v/\τ=J:=by
 refine⟨hc,λM w cargs _ hH ha=> ?_⟩;obtain⟨cv,hv,hcall⟩:=h M w cargs hH ha;refine CallsIn.mono (callsIn_wide.2 hcall) λe w' ⟨he,hb⟩=> ?_;have hs:Step M J w M J w':=⟨Nat.le_refl _,hb.size,hb.os,hb.output,λid s h1=>⟨s,h1,Nat.le_refl _,λ_=>rfl⟩,λid _ h1=>h1,λid s l h1 h2=>.inr ⟨id,s,l,h1,h2,rfl⟩,rfl,rfl,λb hr=>hb.block b (hH.resRow b hr).lt,λb h1 _=>hb.block b h1⟩;have hblk:∀id s l,M id=some s->s.loc=some l->w'.heap[l.blk]? =w.heap[l.blk]? :=λid s l h1 h2=>by obtain⟨o,_,_,_,h3⟩:=hH.obj id s h1;rw[h2]at h3;obtain⟨⟨c,e,h4,_⟩,_⟩:=h3;exact hb.block _ (Array.getElem?_eq_some_iff.1 h4).1
 refine⟨v,J,M,cv,he,⟨rfl,rfl⟩,hv w' hs,⟨λid s h1=> ?_,hH.inj,λb hr=> ?_,hH.resNo⟩,hs⟩
 ·obtain⟨o,h2,h3⟩:=hH.obj id s h1;exact⟨o,h2,h3.congr hs λl hl=>hblk id s l h1 hl⟩
 ·obtain⟨c,e,fr,h2⟩:=hH.resRow b hr;exact⟨c,e,fr,(hb.block b (Array.getElem?_eq_some_iff.1 h2).1).trans h2⟩
theorem fn_ext{P:Program}{f:FuncId}{args:List AV}{v:AV}(hc:Xr P f)
  (h:∀M w cargs,HR M [] w->ZN M w args cargs->∃cv,(∀w',VR M w' v cv)/\Calls P f cargs w λe w'=>e=.returned cv/\Below w.heap.size w w'):
  Jl P f args [] λu τ=>u=v/\τ=[]:=
 fn_extH hc λM w cargs hH ha=>let ⟨cv,h1,h2⟩:=h M w cargs hH ha;⟨cv,λw' _=>h1 w',h2⟩
end Go.Abs
