/- Several texts, one behind the other. Conditions: as each of them says. -/
import Derived.Test.YtjmbphjgiodioaaGreatDoorRows
import Derived.WalkKit
import Derived.ProofKit
import Derived.Stop.Joined
import Derived.SevenTiedAt
set_option maxRecDepth 100000
set_option maxHeartbeats 32000000
namespace Go.Proofs.YtjmbphjgiodioaaGreatDoor
open Go.ChangeShapes Go.WideShapes Go.ChangeAt Go.RowKit
theorem sessionValid_closed:joinedFacts Tryz.prog 4 Tryz.f4 Rows.sessionValidSpec Rows.sessionValidRow=true:=by
 unfold joinedFacts
 simp only [Bool.and_eq_true]
 repeat' apply And.intro
 all_goals (as_aux_lemma=>kernel_rfl)
theorem goes_none {P:Program} (h:P.funcs.any Func.goes=false) (f:FuncId):P.goes f=false:=by
 unfold Program.goes
 rw [h,Bool.and_false,Bool.or_false,List.any_eq_false]
 intro g _
 cases hg:P.funcs[g]? with
 |none=>simp
 |some fn=>
  have h1:=Array.any_eq_false.1 h
  obtain ⟨hi,rfl⟩:=Array.getElem?_eq_some_iff.1 hg
  simpa using h1 g hi
theorem goesBy_none {P:Program} {c:OpenClaim} (h:P.funcs.any Func.goes=false) (hs:c.start= .entering):false=c.goesBy P:=by
 unfold OpenClaim.goesBy Program.goesAt Program.goesFrom
 rw [hs]
 simp only [Bool.or_false]
 cases P.funcNamed c.func with
 |none=>rfl
 |some f=>exact (goes_none h f).symm
theorem sessionValid_goes:Tryz.prog.funcs.any Func.goes=false:=by kernel_rfl
end Go.Proofs.YtjmbphjgiodioaaGreatDoor
