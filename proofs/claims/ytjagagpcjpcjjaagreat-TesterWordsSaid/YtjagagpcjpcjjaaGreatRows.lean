/-
  No cell of these rows narrows 'for every input' (looked for: loops, veiled, ifaces, maps, wideKeys, modest, calm, conditions, laid).
  DERIVED. THE GIVEN ROWS OF THIS SEAT. 4 by the template 'for every input the law returns true; each argument reads behind the call as it read before'; 0 by the template 'total and deterministic' (their statements: YtjagagpcjpcjjaaGreatTotals.lean).
  GIVEN WITH THE SEED: the statements are not yours to turn. If you find one false, say at which input.
  Laid BY PROGRAM, IN A SANDBOX (cutbox-rows.mjs): the forced cells as the released guide's own fill.sh prints them over the translation 470b1eb82fdef32f… (all of the seat's roots in one cut). By AI agents, Wed Nov 11 2026. No macro, syntax, notation, axiom, sorry.
-/
import Derived.Test.YtjagagpcjpcjjaaGreatChecked
import GoSem.Claim
import GoSem.ClaimJoined
import GoSem.ClaimMapViews
import Derived.JoinedTies
import Derived.KernelRfl
namespace Go.Proofs.YtjagagpcjpcjjaaGreat
/- THE CELL 'sum', in the pinned program and in every row, IS THE sha256 OF THE DUMP (.gsa) THAT YtjagagpcjpcjjaaGreatProg.lean LOADS. Nothing in Lean hashes anything: it is a label: what it is worth is what the hold of that sum in a sandbox is worth. -/
noncomputable def Tryz.pinned : Pinned := { name := "ytjagagpcjpcjjaagreat", sum := "470b1eb82fdef32f629c4f40d448481b9fd1f998377b8470a179947aea923822", checked := Tryz.checked }
namespace Rows
def none {H : Type} : Left H := { results := [], args := [] }

/-- 'learnerlaw34.TesterWords': WHATEVER THE INPUT: true; the input reads as it did. -/
def testerWordsSpec : ChangeSpec := { name := "testerWords", fn := fun _ => fun
  | [d1, d2] => { results := [.lit (.bool true)], args := [d1, d2] }
  | _ => none }
def testerWordsRow : OpenClaim := { program := "ytjagagpcjpcjjaagreat", sum := "470b1eb82fdef32f629c4f40d448481b9fd1f998377b8470a179947aea923822", func := "learner/learnerlaw34.TesterWords", spec := "testerWords", unfollowed := true, recurses := true, plainKeys := false, apart := false }
def TesterWordsSaid : Prop := testerWordsRow.holds Tryz.pinned (OpenSpec.ofChange testerWordsSpec)

/-- ITS FALSE NEIGHBOUR: 'it returns false'. Refute it at one input. -/
def testerWordsWrong : ChangeSpec := { name := "testerWords", fn := fun _ => fun
  | [d1, d2] => { results := [.lit (.bool false)], args := [d1, d2] }
  | _ => none }
def TesterWordsWrongFalsely : Prop := testerWordsRow.holds Tryz.pinned (OpenSpec.ofChange testerWordsWrong)

/-- 'learnerlaw34.TesterNext': WHATEVER THE INPUT: true; the input reads as it did. -/
def testerNextSpec : ChangeSpec := { name := "testerNext", fn := fun _ => fun
  | [d1, d2, d3] => { results := [.lit (.bool true)], args := [d1, d2, d3] }
  | _ => none }
def testerNextRow : OpenClaim := { program := "ytjagagpcjpcjjaagreat", sum := "470b1eb82fdef32f629c4f40d448481b9fd1f998377b8470a179947aea923822", func := "learner/learnerlaw34.TesterNext", spec := "testerNext", unfollowed := true, recurses := true, plainKeys := false, apart := false }
def TesterNextSaid : Prop := testerNextRow.holds Tryz.pinned (OpenSpec.ofChange testerNextSpec)

/-- ITS FALSE NEIGHBOUR: 'it returns false'. Refute it at one input. -/
def testerNextWrong : ChangeSpec := { name := "testerNext", fn := fun _ => fun
  | [d1, d2, d3] => { results := [.lit (.bool false)], args := [d1, d2, d3] }
  | _ => none }
def TesterNextWrongFalsely : Prop := testerNextRow.holds Tryz.pinned (OpenSpec.ofChange testerNextWrong)

/-- 'learnerlaw34.TesterPasses': WHATEVER THE INPUT: true; the input reads as it did. -/
def testerPassesSpec : ChangeSpec := { name := "testerPasses", fn := fun _ => fun
  | [d1, d2, d3] => { results := [.lit (.bool true)], args := [d1, d2, d3] }
  | _ => none }
def testerPassesRow : OpenClaim := { program := "ytjagagpcjpcjjaagreat", sum := "470b1eb82fdef32f629c4f40d448481b9fd1f998377b8470a179947aea923822", func := "learner/learnerlaw34.TesterPasses", spec := "testerPasses", unfollowed := true, recurses := true, plainKeys := false, apart := false }
def TesterPassesSaid : Prop := testerPassesRow.holds Tryz.pinned (OpenSpec.ofChange testerPassesSpec)

/-- ITS FALSE NEIGHBOUR: 'it returns false'. Refute it at one input. -/
def testerPassesWrong : ChangeSpec := { name := "testerPasses", fn := fun _ => fun
  | [d1, d2, d3] => { results := [.lit (.bool false)], args := [d1, d2, d3] }
  | _ => none }
def TesterPassesWrongFalsely : Prop := testerPassesRow.holds Tryz.pinned (OpenSpec.ofChange testerPassesWrong)

/-- 'learnerlaw34.TesterComplete': WHATEVER THE INPUT: true; the input reads as it did. -/
def testerCompleteSpec : ChangeSpec := { name := "testerComplete", fn := fun _ => fun
  | [d1, d2, d3] => { results := [.lit (.bool true)], args := [d1, d2, d3] }
  | _ => none }
def testerCompleteRow : OpenClaim := { program := "ytjagagpcjpcjjaagreat", sum := "470b1eb82fdef32f629c4f40d448481b9fd1f998377b8470a179947aea923822", func := "learner/learnerlaw34.TesterComplete", spec := "testerComplete", inPlace := ["slices.overlaps[learner/api.Trace]"], unfollowed := true, recurses := true, plainKeys := false, apart := false }
def TesterCompleteSaid : Prop := testerCompleteRow.holds Tryz.pinned (OpenSpec.ofChange testerCompleteSpec)

/-- ITS FALSE NEIGHBOUR: 'it returns false'. Refute it at one input. -/
def testerCompleteWrong : ChangeSpec := { name := "testerComplete", fn := fun _ => fun
  | [d1, d2, d3] => { results := [.lit (.bool false)], args := [d1, d2, d3] }
  | _ => none }
def TesterCompleteWrongFalsely : Prop := testerCompleteRow.holds Tryz.pinned (OpenSpec.ofChange testerCompleteWrong)

/- THE SECOND FORM. 'bulk': how many values and letters a reading holds, each counted each time it is reached (what is shared counts as often as it is met; a slice's spare places count too). A statement '..UptoSaid' is the law's where the arguments, and the package variables that the reading takes, are together of bulk at most 1048576: NARROWER than '..Said'. Prove '..Said' where nothing that the law and all that it calls make is longer than what came in: it says more and counts as full. Else prove '..UptoSaid'. A law counts once. -/
mutual
def uptoBulk {H : Type} : DataW H → Nat
  | .lit (.string bytes) => bytes.length + 1
  | .lit _ => 1
  | .nil => 1
  | .ptr d => uptoBulk d + 1
  | .slice elems spare => uptoBulkAll elems + uptoBulkAll spare + 1
  | .agg parts => uptoBulkAll parts + 1
  | .iface _ d => uptoBulk d + 1
  | .map entries => uptoBulkEntries entries + 1
  | .held _ => 1
def uptoBulkAll {H : Type} : List (DataW H) → Nat
  | [] => 0
  | d :: r => uptoBulk d + uptoBulkAll r
def uptoBulkEntries {H : Type} : List (Lit × DataW H) → Nat
  | [] => 0
  | x :: r => uptoBulkEntry x + uptoBulkEntries r
def uptoBulkEntry {H : Type} : Lit × DataW H → Nat
  | (.string bytes, d) => bytes.length + uptoBulk d + 1
  | (_, d) => uptoBulk d + 1
 end
def uptoSmall : (H : Type) → List (DataW H) → Bool := fun _ ds => decide (uptoBulkAll ds ≤ 1048576)
def OpenSpec.upto (s : _root_.Go.ChangeSpec) : _root_.Go.OpenSpec := { _root_.Go.OpenSpec.ofChange s with cond := some uptoSmall }

/-- 'learnerlaw34.TesterWords', WHERE WHAT IT READS IS OF BULK AT MOST 1048576: true; the input reads as it did. -/
def testerWordsUptoRow : OpenClaim := { program := "ytjagagpcjpcjjaagreat", sum := "470b1eb82fdef32f629c4f40d448481b9fd1f998377b8470a179947aea923822", func := "learner/learnerlaw34.TesterWords", spec := "testerWords", unfollowed := true, recurses := true, plainKeys := false, apart := false, narrowed := true }
def TesterWordsUptoSaid : Prop := testerWordsUptoRow.holds Tryz.pinned (OpenSpec.upto testerWordsSpec)

/-- 'learnerlaw34.TesterNext', WHERE WHAT IT READS IS OF BULK AT MOST 1048576: true; the input reads as it did. -/
def testerNextUptoRow : OpenClaim := { program := "ytjagagpcjpcjjaagreat", sum := "470b1eb82fdef32f629c4f40d448481b9fd1f998377b8470a179947aea923822", func := "learner/learnerlaw34.TesterNext", spec := "testerNext", unfollowed := true, recurses := true, plainKeys := false, apart := false, narrowed := true }
def TesterNextUptoSaid : Prop := testerNextUptoRow.holds Tryz.pinned (OpenSpec.upto testerNextSpec)

/-- 'learnerlaw34.TesterPasses', WHERE WHAT IT READS IS OF BULK AT MOST 1048576: true; the input reads as it did. -/
def testerPassesUptoRow : OpenClaim := { program := "ytjagagpcjpcjjaagreat", sum := "470b1eb82fdef32f629c4f40d448481b9fd1f998377b8470a179947aea923822", func := "learner/learnerlaw34.TesterPasses", spec := "testerPasses", unfollowed := true, recurses := true, plainKeys := false, apart := false, narrowed := true }
def TesterPassesUptoSaid : Prop := testerPassesUptoRow.holds Tryz.pinned (OpenSpec.upto testerPassesSpec)

/-- 'learnerlaw34.TesterComplete', WHERE WHAT IT READS IS OF BULK AT MOST 1048576: true; the input reads as it did. -/
def testerCompleteUptoRow : OpenClaim := { program := "ytjagagpcjpcjjaagreat", sum := "470b1eb82fdef32f629c4f40d448481b9fd1f998377b8470a179947aea923822", func := "learner/learnerlaw34.TesterComplete", spec := "testerComplete", inPlace := ["slices.overlaps[learner/api.Trace]"], unfollowed := true, recurses := true, plainKeys := false, apart := false, narrowed := true }
def TesterCompleteUptoSaid : Prop := testerCompleteUptoRow.holds Tryz.pinned (OpenSpec.upto testerCompleteSpec)

end Rows
end Go.Proofs.YtjagagpcjpcjjaaGreat
