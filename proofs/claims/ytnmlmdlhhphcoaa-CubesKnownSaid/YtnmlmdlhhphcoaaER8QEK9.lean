/- A part of the proof. -/
import Derived.Test.YtnmlmdlhhphcoaaER8QEK8
set_option linter.all false
namespace Go.Proofs.Ytnmlmdlhhphcoaa
open Go.Abs Go.RowKit
theorem callable8:Xr Try.prog 8:=⟨Try.f8,Try.func8,by kernel_rfl,by kernel_rfl⟩
theorem run8:Jl Try.prog 8 [] [] λv τ=>v=.c (.t (.bool true))/\τ=[]:=by refine M26.fn_bel callable8 λM w cargs hH ha=> ?_;have hc:cargs= #[]:=Array.eq_empty_of_size_eq_zero ha.1;subst hc;exact⟨.bool true,λw'=>TR.bool _,(known_walk w).mono λe w' h=>h.ex⟩
end Go.Proofs.Ytnmlmdlhhphcoaa
