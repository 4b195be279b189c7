/-
  No cell of these rows narrows 'for every input' (looked for: loops, veiled, ifaces, maps, wideKeys, modest, calm, conditions, laid).
  DERIVED. THE GIVEN ROWS OF THIS SEAT. 5 by the template 'for every input the law returns true; each argument reads behind the call as it read before'; 0 by the template 'total and deterministic' (their statements: YtlgdijgfphedpaaTotals.lean).
  GIVEN WITH THE SEED: the statements are not yours to turn. If you find one false, say at which input.
  Laid BY PROGRAM, IN A SANDBOX (cutbox-rows.mjs): the forced cells as the released guide's own fill.sh prints them over the translation d96d3b5d09316bac… (all of the seat's roots in one cut). By AI agents, Wed Nov 11 2026. No macro, syntax, notation, axiom, sorry.
-/
import Derived.Test.YtlgdijgfphedpaaChecked
import GoSem.Claim
import GoSem.ClaimJoined
import GoSem.ClaimMapViews
import Derived.JoinedTies
import Derived.KernelRfl
namespace Go.Proofs.Ytlgdijgfphedpaa
/- THE CELL 'sum', in the pinned program and in every row, IS THE sha256 OF THE DUMP (.gsa) THAT YtlgdijgfphedpaaProg.lean LOADS. Nothing in Lean hashes anything: it is a label: what it is worth is what the hold of that sum in a sandbox is worth. -/
noncomputable def Try.pinned : Pinned := { name := "ytlgdijgfphedpaa", sum := "d96d3b5d09316bac4bb93ae87785719c84ecfac0f9bf43b959765f64ac25f9de", checked := Try.checked }
namespace Rows
def none {H : Type} : Left H := { results := [], args := [] }

/-- 'learnerlaw25.AnalyzeFinds': WHATEVER THE INPUT: true; the input reads as it did. -/
def analyzeFindsSpec : ChangeSpec := { name := "analyzeFinds", fn := fun _ => fun
  | [d1, d2, d3] => { results := [.lit (.bool true)], args := [d1, d2, d3] }
  | _ => none }
def analyzeFindsRow : OpenClaim := { program := "ytlgdijgfphedpaa", sum := "d96d3b5d09316bac4bb93ae87785719c84ecfac0f9bf43b959765f64ac25f9de", func := "learner/learnerlaw25.AnalyzeFinds", spec := "analyzeFinds", unfollowed := true, recurses := true, apart := false }
def AnalyzeFindsSaid : Prop := analyzeFindsRow.holds Try.pinned (OpenSpec.ofChange analyzeFindsSpec)

/-- ITS FALSE NEIGHBOUR: 'it returns false'. Refute it at one input. -/
def analyzeFindsWrong : ChangeSpec := { name := "analyzeFinds", fn := fun _ => fun
  | [d1, d2, d3] => { results := [.lit (.bool false)], args := [d1, d2, d3] }
  | _ => none }
def AnalyzeFindsWrongFalsely : Prop := analyzeFindsRow.holds Try.pinned (OpenSpec.ofChange analyzeFindsWrong)

/-- 'learnerlaw25.AnalyzeChecks': WHATEVER THE INPUT: true; the input reads as it did. -/
def analyzeChecksSpec : ChangeSpec := { name := "analyzeChecks", fn := fun _ => fun
  | [d1, d2, d3] => { results := [.lit (.bool true)], args := [d1, d2, d3] }
  | _ => none }
def analyzeChecksRow : OpenClaim := { program := "ytlgdijgfphedpaa", sum := "d96d3b5d09316bac4bb93ae87785719c84ecfac0f9bf43b959765f64ac25f9de", func := "learner/learnerlaw25.AnalyzeChecks", spec := "analyzeChecks", unfollowed := true, recurses := true, apart := false }
def AnalyzeChecksSaid : Prop := analyzeChecksRow.holds Try.pinned (OpenSpec.ofChange analyzeChecksSpec)

/-- ITS FALSE NEIGHBOUR: 'it returns false'. Refute it at one input. -/
def analyzeChecksWrong : ChangeSpec := { name := "analyzeChecks", fn := fun _ => fun
  | [d1, d2, d3] => { results := [.lit (.bool false)], args := [d1, d2, d3] }
  | _ => none }
def AnalyzeChecksWrongFalsely : Prop := analyzeChecksRow.holds Try.pinned (OpenSpec.ofChange analyzeChecksWrong)

/-- 'learnerlaw25.AnalyzeSplits': WHATEVER THE INPUT: true; the input reads as it did. -/
def analyzeSplitsSpec : ChangeSpec := { name := "analyzeSplits", fn := fun _ => fun
  | [d1, d2, d3] => { results := [.lit (.bool true)], args := [d1, d2, d3] }
  | _ => none }
def analyzeSplitsRow : OpenClaim := { program := "ytlgdijgfphedpaa", sum := "d96d3b5d09316bac4bb93ae87785719c84ecfac0f9bf43b959765f64ac25f9de", func := "learner/learnerlaw25.AnalyzeSplits", spec := "analyzeSplits", unfollowed := true, recurses := true, apart := false }
def AnalyzeSplitsSaid : Prop := analyzeSplitsRow.holds Try.pinned (OpenSpec.ofChange analyzeSplitsSpec)

/-- ITS FALSE NEIGHBOUR: 'it returns false'. Refute it at one input. -/
def analyzeSplitsWrong : ChangeSpec := { name := "analyzeSplits", fn := fun _ => fun
  | [d1, d2, d3] => { results := [.lit (.bool false)], args := [d1, d2, d3] }
  | _ => none }
def AnalyzeSplitsWrongFalsely : Prop := analyzeSplitsRow.holds Try.pinned (OpenSpec.ofChange analyzeSplitsWrong)

/-- 'learnerlaw25.AnalyzeLinear': WHATEVER THE INPUT: true; the input reads as it did. -/
def analyzeLinearSpec : ChangeSpec := { name := "analyzeLinear", fn := fun _ => fun
  | [d1, d2, d3] => { results := [.lit (.bool true)], args := [d1, d2, d3] }
  | _ => none }
def analyzeLinearRow : OpenClaim := { program := "ytlgdijgfphedpaa", sum := "d96d3b5d09316bac4bb93ae87785719c84ecfac0f9bf43b959765f64ac25f9de", func := "learner/learnerlaw25.AnalyzeLinear", spec := "analyzeLinear", unfollowed := true, recurses := true, apart := false }
def AnalyzeLinearSaid : Prop := analyzeLinearRow.holds Try.pinned (OpenSpec.ofChange analyzeLinearSpec)

/-- ITS FALSE NEIGHBOUR: 'it returns false'. Refute it at one input. -/
def analyzeLinearWrong : ChangeSpec := { name := "analyzeLinear", fn := fun _ => fun
  | [d1, d2, d3] => { results := [.lit (.bool false)], args := [d1, d2, d3] }
  | _ => none }
def AnalyzeLinearWrongFalsely : Prop := analyzeLinearRow.holds Try.pinned (OpenSpec.ofChange analyzeLinearWrong)

/-- 'learnerlaw25.AnalyzeShows': WHATEVER THE INPUT: true; the input reads as it did. -/
def analyzeShowsSpec : ChangeSpec := { name := "analyzeShows", fn := fun _ => fun
  | [d1, d2, d3, d4] => { results := [.lit (.bool true)], args := [d1, d2, d3, d4] }
  | _ => none }
def analyzeShowsRow : OpenClaim := { program := "ytlgdijgfphedpaa", sum := "d96d3b5d09316bac4bb93ae87785719c84ecfac0f9bf43b959765f64ac25f9de", func := "learner/learnerlaw25.AnalyzeShows", spec := "analyzeShows", unfollowed := true, recurses := true, apart := false }
def AnalyzeShowsSaid : Prop := analyzeShowsRow.holds Try.pinned (OpenSpec.ofChange analyzeShowsSpec)

/-- ITS FALSE NEIGHBOUR: 'it returns false'. Refute it at one input. -/
def analyzeShowsWrong : ChangeSpec := { name := "analyzeShows", fn := fun _ => fun
  | [d1, d2, d3, d4] => { results := [.lit (.bool false)], args := [d1, d2, d3, d4] }
  | _ => none }
def AnalyzeShowsWrongFalsely : Prop := analyzeShowsRow.holds Try.pinned (OpenSpec.ofChange analyzeShowsWrong)

/- THE SECOND FORM. 'bulk': how many values and letters a reading holds, each counted each time it is reached (what is shared counts as often as it is met; a slice's spare places count too). A statement '..UptoSaid' is the law's where the arguments, and the package variables that the reading takes, are together of bulk at most 1048576: NARROWER than '..Said'. Prove '..Said' where nothing that the law and all that it calls make is longer than what came in: it says more and counts as full. Else prove '..UptoSaid'. A law counts once. -/
mutual
def uptoBulk {H : Type} : DataW H → Nat
  | .lit (.string bytes) => bytes.length + 1
  | .lit _ => 1
  | .nil => 1
  | .ptr d => uptoBulk d + 1
  | .slice elems spare => uptoBulkAll elems + uptoBulkAll spare + 1
  | .agg parts => uptoBulkAll parts + 1
  | .iface _ d => uptoBulk d + 1
  | .map entries => uptoBulkEntries entries + 1
  | .held _ => 1
def uptoBulkAll {H : Type} : List (DataW H) → Nat
  | [] => 0
  | d :: r => uptoBulk d + uptoBulkAll r
def uptoBulkEntries {H : Type} : List (Lit × DataW H) → Nat
  | [] => 0
  | x :: r => uptoBulkEntry x + uptoBulkEntries r
def uptoBulkEntry {H : Type} : Lit × DataW H → Nat
  | (.string bytes, d) => bytes.length + uptoBulk d + 1
  | (_, d) => uptoBulk d + 1
 end
def uptoSmall : (H : Type) → List (DataW H) → Bool := fun _ ds => decide (uptoBulkAll ds ≤ 1048576)
def OpenSpec.upto (s : _root_.Go.ChangeSpec) : _root_.Go.OpenSpec := { _root_.Go.OpenSpec.ofChange s with cond := some uptoSmall }

/-- 'learnerlaw25.AnalyzeFinds', WHERE WHAT IT READS IS OF BULK AT MOST 1048576: true; the input reads as it did. -/
def analyzeFindsUptoRow : OpenClaim := { program := "ytlgdijgfphedpaa", sum := "d96d3b5d09316bac4bb93ae87785719c84ecfac0f9bf43b959765f64ac25f9de", func := "learner/learnerlaw25.AnalyzeFinds", spec := "analyzeFinds", unfollowed := true, recurses := true, apart := false, narrowed := true }
def AnalyzeFindsUptoSaid : Prop := analyzeFindsUptoRow.holds Try.pinned (OpenSpec.upto analyzeFindsSpec)

/-- 'learnerlaw25.AnalyzeChecks', WHERE WHAT IT READS IS OF BULK AT MOST 1048576: true; the input reads as it did. -/
def analyzeChecksUptoRow : OpenClaim := { program := "ytlgdijgfphedpaa", sum := "d96d3b5d09316bac4bb93ae87785719c84ecfac0f9bf43b959765f64ac25f9de", func := "learner/learnerlaw25.AnalyzeChecks", spec := "analyzeChecks", unfollowed := true, recurses := true, apart := false, narrowed := true }
def AnalyzeChecksUptoSaid : Prop := analyzeChecksUptoRow.holds Try.pinned (OpenSpec.upto analyzeChecksSpec)

/-- 'learnerlaw25.AnalyzeSplits', WHERE WHAT IT READS IS OF BULK AT MOST 1048576: true; the input reads as it did. -/
def analyzeSplitsUptoRow : OpenClaim := { program := "ytlgdijgfphedpaa", sum := "d96d3b5d09316bac4bb93ae87785719c84ecfac0f9bf43b959765f64ac25f9de", func := "learner/learnerlaw25.AnalyzeSplits", spec := "analyzeSplits", unfollowed := true, recurses := true, apart := false, narrowed := true }
def AnalyzeSplitsUptoSaid : Prop := analyzeSplitsUptoRow.holds Try.pinned (OpenSpec.upto analyzeSplitsSpec)

/-- 'learnerlaw25.AnalyzeLinear', WHERE WHAT IT READS IS OF BULK AT MOST 1048576: true; the input reads as it did. -/
def analyzeLinearUptoRow : OpenClaim := { program := "ytlgdijgfphedpaa", sum := "d96d3b5d09316bac4bb93ae87785719c84ecfac0f9bf43b959765f64ac25f9de", func := "learner/learnerlaw25.AnalyzeLinear", spec := "analyzeLinear", unfollowed := true, recurses := true, apart := false, narrowed := true }
def AnalyzeLinearUptoSaid : Prop := analyzeLinearUptoRow.holds Try.pinned (OpenSpec.upto analyzeLinearSpec)

/-- 'learnerlaw25.AnalyzeShows', WHERE WHAT IT READS IS OF BULK AT MOST 1048576: true; the input reads as it did. -/
def analyzeShowsUptoRow : OpenClaim := { program := "ytlgdijgfphedpaa", sum := "d96d3b5d09316bac4bb93ae87785719c84ecfac0f9bf43b959765f64ac25f9de", func := "learner/learnerlaw25.AnalyzeShows", spec := "analyzeShows", unfollowed := true, recurses := true, apart := false, narrowed := true }
def AnalyzeShowsUptoSaid : Prop := analyzeShowsUptoRow.holds Try.pinned (OpenSpec.upto analyzeShowsSpec)

end Rows
end Go.Proofs.Ytlgdijgfphedpaa
