/-
  No cell of these rows narrows 'for every input' (looked for: loops, veiled, ifaces, maps, wideKeys, modest, calm, conditions, laid).
  DERIVED. THE GIVEN ROWS OF THIS SEAT. 11 by the template 'for every input the law returns true; each argument reads behind the call as it read before'; 0 by the template 'total and deterministic' (their statements: YtikdejlandmpfaaTotals.lean).
  GIVEN WITH THE SEED: the statements are not yours to turn. If you find one false, say at which input.
  Laid BY PROGRAM, IN A SANDBOX (cutbox-rows.mjs): the forced cells as the released guide's own fill.sh prints them over the translation 8ea4c2f10ce1e519… (all of the seat's roots in one cut). By AI agents, Wed Nov 11 2026. No macro, syntax, notation, axiom, sorry.
-/
import Derived.Test.YtikdejlandmpfaaChecked
import GoSem.Claim
import GoSem.ClaimJoined
import GoSem.ClaimMapViews
import Derived.JoinedTies
import Derived.KernelRfl
namespace Go.Proofs.Ytikdejlandmpfaa
/- THE CELL 'sum', in the pinned program and in every row, IS THE sha256 OF THE DUMP (.gsa) THAT YtikdejlandmpfaaProg.lean LOADS. Nothing in Lean hashes anything: it is a label: what it is worth is what the hold of that sum in a sandbox is worth. -/
noncomputable def Try.pinned : Pinned := { name := "ytikdejlandmpfaa", sum := "8ea4c2f10ce1e519c6c02a933c2f5654fe38361a2f026121cf41fdcf42df3114", checked := Try.checked }
namespace Rows
def none {H : Type} : Left H := { results := [], args := [] }

/-- 'learnerlaw01.WordChecks': WHATEVER THE INPUT: true; the input reads as it did. -/
def wordChecksSpec : ChangeSpec := { name := "wordChecks", fn := fun _ => fun
  | [d1, d2] => { results := [.lit (.bool true)], args := [d1, d2] }
  | _ => none }
def wordChecksRow : OpenClaim := { program := "ytikdejlandmpfaa", sum := "8ea4c2f10ce1e519c6c02a933c2f5654fe38361a2f026121cf41fdcf42df3114", func := "learner/learnerlaw01.WordChecks", spec := "wordChecks", unfollowed := true, recurses := true, apart := false }
def WordChecksSaid : Prop := wordChecksRow.holds Try.pinned (OpenSpec.ofChange wordChecksSpec)

/-- ITS FALSE NEIGHBOUR: 'it returns false'. Refute it at one input. -/
def wordChecksWrong : ChangeSpec := { name := "wordChecks", fn := fun _ => fun
  | [d1, d2] => { results := [.lit (.bool false)], args := [d1, d2] }
  | _ => none }
def WordChecksWrongFalsely : Prop := wordChecksRow.holds Try.pinned (OpenSpec.ofChange wordChecksWrong)

/-- 'learnerlaw01.WordJoins': WHATEVER THE INPUT: true; the input reads as it did. -/
def wordJoinsSpec : ChangeSpec := { name := "wordJoins", fn := fun _ => fun
  | [d] => { results := [.lit (.bool true)], args := [d] }
  | _ => none }
def wordJoinsRow : OpenClaim := { program := "ytikdejlandmpfaa", sum := "8ea4c2f10ce1e519c6c02a933c2f5654fe38361a2f026121cf41fdcf42df3114", func := "learner/learnerlaw01.WordJoins", spec := "wordJoins", unfollowed := true, recurses := true, apart := false }
def WordJoinsSaid : Prop := wordJoinsRow.holds Try.pinned (OpenSpec.ofChange wordJoinsSpec)

/-- ITS FALSE NEIGHBOUR: 'it returns false'. Refute it at one input. -/
def wordJoinsWrong : ChangeSpec := { name := "wordJoins", fn := fun _ => fun
  | [d] => { results := [.lit (.bool false)], args := [d] }
  | _ => none }
def WordJoinsWrongFalsely : Prop := wordJoinsRow.holds Try.pinned (OpenSpec.ofChange wordJoinsWrong)

/-- 'learnerlaw01.WordNumbers': WHATEVER THE INPUT: true; the input reads as it did. -/
def wordNumbersSpec : ChangeSpec := { name := "wordNumbers", fn := fun _ => fun
  | [d1, d2, d3] => { results := [.lit (.bool true)], args := [d1, d2, d3] }
  | _ => none }
def wordNumbersRow : OpenClaim := { program := "ytikdejlandmpfaa", sum := "8ea4c2f10ce1e519c6c02a933c2f5654fe38361a2f026121cf41fdcf42df3114", func := "learner/learnerlaw01.WordNumbers", spec := "wordNumbers", unfollowed := true, recurses := true, apart := false }
def WordNumbersSaid : Prop := wordNumbersRow.holds Try.pinned (OpenSpec.ofChange wordNumbersSpec)

/-- ITS FALSE NEIGHBOUR: 'it returns false'. Refute it at one input. -/
def wordNumbersWrong : ChangeSpec := { name := "wordNumbers", fn := fun _ => fun
  | [d1, d2, d3] => { results := [.lit (.bool false)], args := [d1, d2, d3] }
  | _ => none }
def WordNumbersWrongFalsely : Prop := wordNumbersRow.holds Try.pinned (OpenSpec.ofChange wordNumbersWrong)

/-- 'learnerlaw01.WordRanks': WHATEVER THE INPUT: true; the input reads as it did. -/
def wordRanksSpec : ChangeSpec := { name := "wordRanks", fn := fun _ => fun
  | [d] => { results := [.lit (.bool true)], args := [d] }
  | _ => none }
def wordRanksRow : OpenClaim := { program := "ytikdejlandmpfaa", sum := "8ea4c2f10ce1e519c6c02a933c2f5654fe38361a2f026121cf41fdcf42df3114", func := "learner/learnerlaw01.WordRanks", spec := "wordRanks", unfollowed := true, recurses := true, apart := false }
def WordRanksSaid : Prop := wordRanksRow.holds Try.pinned (OpenSpec.ofChange wordRanksSpec)

/-- ITS FALSE NEIGHBOUR: 'it returns false'. Refute it at one input. -/
def wordRanksWrong : ChangeSpec := { name := "wordRanks", fn := fun _ => fun
  | [d] => { results := [.lit (.bool false)], args := [d] }
  | _ => none }
def WordRanksWrongFalsely : Prop := wordRanksRow.holds Try.pinned (OpenSpec.ofChange wordRanksWrong)

/-- 'learnerlaw01.WordCompares': WHATEVER THE INPUT: true; the input reads as it did. -/
def wordComparesSpec : ChangeSpec := { name := "wordCompares", fn := fun _ => fun
  | [d1, d2] => { results := [.lit (.bool true)], args := [d1, d2] }
  | _ => none }
def wordComparesRow : OpenClaim := { program := "ytikdejlandmpfaa", sum := "8ea4c2f10ce1e519c6c02a933c2f5654fe38361a2f026121cf41fdcf42df3114", func := "learner/learnerlaw01.WordCompares", spec := "wordCompares", unfollowed := true, recurses := true, apart := false }
def WordComparesSaid : Prop := wordComparesRow.holds Try.pinned (OpenSpec.ofChange wordComparesSpec)

/-- ITS FALSE NEIGHBOUR: 'it returns false'. Refute it at one input. -/
def wordComparesWrong : ChangeSpec := { name := "wordCompares", fn := fun _ => fun
  | [d1, d2] => { results := [.lit (.bool false)], args := [d1, d2] }
  | _ => none }
def WordComparesWrongFalsely : Prop := wordComparesRow.holds Try.pinned (OpenSpec.ofChange wordComparesWrong)

/-- 'learnerlaw01.WordOrder': WHATEVER THE INPUT: true; the input reads as it did. -/
def wordOrderSpec : ChangeSpec := { name := "wordOrder", fn := fun _ => fun
  | [d1, d2, d3] => { results := [.lit (.bool true)], args := [d1, d2, d3] }
  | _ => none }
def wordOrderRow : OpenClaim := { program := "ytikdejlandmpfaa", sum := "8ea4c2f10ce1e519c6c02a933c2f5654fe38361a2f026121cf41fdcf42df3114", func := "learner/learnerlaw01.WordOrder", spec := "wordOrder", unfollowed := true, recurses := true, apart := false }
def WordOrderSaid : Prop := wordOrderRow.holds Try.pinned (OpenSpec.ofChange wordOrderSpec)

/-- ITS FALSE NEIGHBOUR: 'it returns false'. Refute it at one input. -/
def wordOrderWrong : ChangeSpec := { name := "wordOrder", fn := fun _ => fun
  | [d1, d2, d3] => { results := [.lit (.bool false)], args := [d1, d2, d3] }
  | _ => none }
def WordOrderWrongFalsely : Prop := wordOrderRow.holds Try.pinned (OpenSpec.ofChange wordOrderWrong)

/-- 'learnerlaw25.AnalyzeFinds': WHATEVER THE INPUT: true; the input reads as it did. -/
def analyzeFindsSpec : ChangeSpec := { name := "analyzeFinds", fn := fun _ => fun
  | [d1, d2, d3] => { results := [.lit (.bool true)], args := [d1, d2, d3] }
  | _ => none }
def analyzeFindsRow : OpenClaim := { program := "ytikdejlandmpfaa", sum := "8ea4c2f10ce1e519c6c02a933c2f5654fe38361a2f026121cf41fdcf42df3114", func := "learner/learnerlaw25.AnalyzeFinds", spec := "analyzeFinds", unfollowed := true, recurses := true, apart := false }
def AnalyzeFindsSaid : Prop := analyzeFindsRow.holds Try.pinned (OpenSpec.ofChange analyzeFindsSpec)

/-- ITS FALSE NEIGHBOUR: 'it returns false'. Refute it at one input. -/
def analyzeFindsWrong : ChangeSpec := { name := "analyzeFinds", fn := fun _ => fun
  | [d1, d2, d3] => { results := [.lit (.bool false)], args := [d1, d2, d3] }
  | _ => none }
def AnalyzeFindsWrongFalsely : Prop := analyzeFindsRow.holds Try.pinned (OpenSpec.ofChange analyzeFindsWrong)

/-- 'learnerlaw25.AnalyzeChecks': WHATEVER THE INPUT: true; the input reads as it did. -/
def analyzeChecksSpec : ChangeSpec := { name := "analyzeChecks", fn := fun _ => fun
  | [d1, d2, d3] => { results := [.lit (.bool true)], args := [d1, d2, d3] }
  | _ => none }
def analyzeChecksRow : OpenClaim := { program := "ytikdejlandmpfaa", sum := "8ea4c2f10ce1e519c6c02a933c2f5654fe38361a2f026121cf41fdcf42df3114", func := "learner/learnerlaw25.AnalyzeChecks", spec := "analyzeChecks", unfollowed := true, recurses := true, apart := false }
def AnalyzeChecksSaid : Prop := analyzeChecksRow.holds Try.pinned (OpenSpec.ofChange analyzeChecksSpec)

/-- ITS FALSE NEIGHBOUR: 'it returns false'. Refute it at one input. -/
def analyzeChecksWrong : ChangeSpec := { name := "analyzeChecks", fn := fun _ => fun
  | [d1, d2, d3] => { results := [.lit (.bool false)], args := [d1, d2, d3] }
  | _ => none }
def AnalyzeChecksWrongFalsely : Prop := analyzeChecksRow.holds Try.pinned (OpenSpec.ofChange analyzeChecksWrong)

/-- 'learnerlaw25.AnalyzeSplits': WHATEVER THE INPUT: true; the input reads as it did. -/
def analyzeSplitsSpec : ChangeSpec := { name := "analyzeSplits", fn := fun _ => fun
  | [d1, d2, d3] => { results := [.lit (.bool true)], args := [d1, d2, d3] }
  | _ => none }
def analyzeSplitsRow : OpenClaim := { program := "ytikdejlandmpfaa", sum := "8ea4c2f10ce1e519c6c02a933c2f5654fe38361a2f026121cf41fdcf42df3114", func := "learner/learnerlaw25.AnalyzeSplits", spec := "analyzeSplits", unfollowed := true, recurses := true, apart := false }
def AnalyzeSplitsSaid : Prop := analyzeSplitsRow.holds Try.pinned (OpenSpec.ofChange analyzeSplitsSpec)

/-- ITS FALSE NEIGHBOUR: 'it returns false'. Refute it at one input. -/
def analyzeSplitsWrong : ChangeSpec := { name := "analyzeSplits", fn := fun _ => fun
  | [d1, d2, d3] => { results := [.lit (.bool false)], args := [d1, d2, d3] }
  | _ => none }
def AnalyzeSplitsWrongFalsely : Prop := analyzeSplitsRow.holds Try.pinned (OpenSpec.ofChange analyzeSplitsWrong)

/-- 'learnerlaw25.AnalyzeLinear': WHATEVER THE INPUT: true; the input reads as it did. -/
def analyzeLinearSpec : ChangeSpec := { name := "analyzeLinear", fn := fun _ => fun
  | [d1, d2, d3] => { results := [.lit (.bool true)], args := [d1, d2, d3] }
  | _ => none }
def analyzeLinearRow : OpenClaim := { program := "ytikdejlandmpfaa", sum := "8ea4c2f10ce1e519c6c02a933c2f5654fe38361a2f026121cf41fdcf42df3114", func := "learner/learnerlaw25.AnalyzeLinear", spec := "analyzeLinear", unfollowed := true, recurses := true, apart := false }
def AnalyzeLinearSaid : Prop := analyzeLinearRow.holds Try.pinned (OpenSpec.ofChange analyzeLinearSpec)

/-- ITS FALSE NEIGHBOUR: 'it returns false'. Refute it at one input. -/
def analyzeLinearWrong : ChangeSpec := { name := "analyzeLinear", fn := fun _ => fun
  | [d1, d2, d3] => { results := [.lit (.bool false)], args := [d1, d2, d3] }
  | _ => none }
def AnalyzeLinearWrongFalsely : Prop := analyzeLinearRow.holds Try.pinned (OpenSpec.ofChange analyzeLinearWrong)

/-- 'learnerlaw25.AnalyzeShows': WHATEVER THE INPUT: true; the input reads as it did. -/
def analyzeShowsSpec : ChangeSpec := { name := "analyzeShows", fn := fun _ => fun
  | [d1, d2, d3, d4] => { results := [.lit (.bool true)], args := [d1, d2, d3, d4] }
  | _ => none }
def analyzeShowsRow : OpenClaim := { program := "ytikdejlandmpfaa", sum := "8ea4c2f10ce1e519c6c02a933c2f5654fe38361a2f026121cf41fdcf42df3114", func := "learner/learnerlaw25.AnalyzeShows", spec := "analyzeShows", unfollowed := true, recurses := true, apart := false }
def AnalyzeShowsSaid : Prop := analyzeShowsRow.holds Try.pinned (OpenSpec.ofChange analyzeShowsSpec)

/-- ITS FALSE NEIGHBOUR: 'it returns false'. Refute it at one input. -/
def analyzeShowsWrong : ChangeSpec := { name := "analyzeShows", fn := fun _ => fun
  | [d1, d2, d3, d4] => { results := [.lit (.bool false)], args := [d1, d2, d3, d4] }
  | _ => none }
def AnalyzeShowsWrongFalsely : Prop := analyzeShowsRow.holds Try.pinned (OpenSpec.ofChange analyzeShowsWrong)

/- THE SECOND FORM. 'bulk': how many values and letters a reading holds, each counted each time it is reached (what is shared counts as often as it is met; a slice's spare places count too). A statement '..UptoSaid' is the law's where the arguments, and the package variables that the reading takes, are together of bulk at most 1048576: NARROWER than '..Said'. Prove '..Said' where nothing that the law and all that it calls make is longer than what came in: it says more and counts as full. Else prove '..UptoSaid'. A law counts once. -/
mutual
def uptoBulk {H : Type} : DataW H → Nat
  | .lit (.string bytes) => bytes.length + 1
  | .lit _ => 1
  | .nil => 1
  | .ptr d => uptoBulk d + 1
  | .slice elems spare => uptoBulkAll elems + uptoBulkAll spare + 1
  | .agg parts => uptoBulkAll parts + 1
  | .iface _ d => uptoBulk d + 1
  | .map entries => uptoBulkEntries entries + 1
  | .held _ => 1
def uptoBulkAll {H : Type} : List (DataW H) → Nat
  | [] => 0
  | d :: r => uptoBulk d + uptoBulkAll r
def uptoBulkEntries {H : Type} : List (Lit × DataW H) → Nat
  | [] => 0
  | x :: r => uptoBulkEntry x + uptoBulkEntries r
def uptoBulkEntry {H : Type} : Lit × DataW H → Nat
  | (.string bytes, d) => bytes.length + uptoBulk d + 1
  | (_, d) => uptoBulk d + 1
 end
def uptoSmall : (H : Type) → List (DataW H) → Bool := fun _ ds => decide (uptoBulkAll ds ≤ 1048576)
def OpenSpec.upto (s : _root_.Go.ChangeSpec) : _root_.Go.OpenSpec := { _root_.Go.OpenSpec.ofChange s with cond := some uptoSmall }

/-- 'learnerlaw01.WordChecks', WHERE WHAT IT READS IS OF BULK AT MOST 1048576: true; the input reads as it did. -/
def wordChecksUptoRow : OpenClaim := { program := "ytikdejlandmpfaa", sum := "8ea4c2f10ce1e519c6c02a933c2f5654fe38361a2f026121cf41fdcf42df3114", func := "learner/learnerlaw01.WordChecks", spec := "wordChecks", unfollowed := true, recurses := true, apart := false, narrowed := true }
def WordChecksUptoSaid : Prop := wordChecksUptoRow.holds Try.pinned (OpenSpec.upto wordChecksSpec)

/-- 'learnerlaw01.WordJoins', WHERE WHAT IT READS IS OF BULK AT MOST 1048576: true; the input reads as it did. -/
def wordJoinsUptoRow : OpenClaim := { program := "ytikdejlandmpfaa", sum := "8ea4c2f10ce1e519c6c02a933c2f5654fe38361a2f026121cf41fdcf42df3114", func := "learner/learnerlaw01.WordJoins", spec := "wordJoins", unfollowed := true, recurses := true, apart := false, narrowed := true }
def WordJoinsUptoSaid : Prop := wordJoinsUptoRow.holds Try.pinned (OpenSpec.upto wordJoinsSpec)

/-- 'learnerlaw01.WordNumbers', WHERE WHAT IT READS IS OF BULK AT MOST 1048576: true; the input reads as it did. -/
def wordNumbersUptoRow : OpenClaim := { program := "ytikdejlandmpfaa", sum := "8ea4c2f10ce1e519c6c02a933c2f5654fe38361a2f026121cf41fdcf42df3114", func := "learner/learnerlaw01.WordNumbers", spec := "wordNumbers", unfollowed := true, recurses := true, apart := false, narrowed := true }
def WordNumbersUptoSaid : Prop := wordNumbersUptoRow.holds Try.pinned (OpenSpec.upto wordNumbersSpec)

/-- 'learnerlaw01.WordRanks', WHERE WHAT IT READS IS OF BULK AT MOST 1048576: true; the input reads as it did. -/
def wordRanksUptoRow : OpenClaim := { program := "ytikdejlandmpfaa", sum := "8ea4c2f10ce1e519c6c02a933c2f5654fe38361a2f026121cf41fdcf42df3114", func := "learner/learnerlaw01.WordRanks", spec := "wordRanks", unfollowed := true, recurses := true, apart := false, narrowed := true }
def WordRanksUptoSaid : Prop := wordRanksUptoRow.holds Try.pinned (OpenSpec.upto wordRanksSpec)

/-- 'learnerlaw01.WordCompares', WHERE WHAT IT READS IS OF BULK AT MOST 1048576: true; the input reads as it did. -/
def wordComparesUptoRow : OpenClaim := { program := "ytikdejlandmpfaa", sum := "8ea4c2f10ce1e519c6c02a933c2f5654fe38361a2f026121cf41fdcf42df3114", func := "learner/learnerlaw01.WordCompares", spec := "wordCompares", unfollowed := true, recurses := true, apart := false, narrowed := true }
def WordComparesUptoSaid : Prop := wordComparesUptoRow.holds Try.pinned (OpenSpec.upto wordComparesSpec)

/-- 'learnerlaw01.WordOrder', WHERE WHAT IT READS IS OF BULK AT MOST 1048576: true; the input reads as it did. -/
def wordOrderUptoRow : OpenClaim := { program := "ytikdejlandmpfaa", sum := "8ea4c2f10ce1e519c6c02a933c2f5654fe38361a2f026121cf41fdcf42df3114", func := "learner/learnerlaw01.WordOrder", spec := "wordOrder", unfollowed := true, recurses := true, apart := false, narrowed := true }
def WordOrderUptoSaid : Prop := wordOrderUptoRow.holds Try.pinned (OpenSpec.upto wordOrderSpec)

/-- 'learnerlaw25.AnalyzeFinds', WHERE WHAT IT READS IS OF BULK AT MOST 1048576: true; the input reads as it did. -/
def analyzeFindsUptoRow : OpenClaim := { program := "ytikdejlandmpfaa", sum := "8ea4c2f10ce1e519c6c02a933c2f5654fe38361a2f026121cf41fdcf42df3114", func := "learner/learnerlaw25.AnalyzeFinds", spec := "analyzeFinds", unfollowed := true, recurses := true, apart := false, narrowed := true }
def AnalyzeFindsUptoSaid : Prop := analyzeFindsUptoRow.holds Try.pinned (OpenSpec.upto analyzeFindsSpec)

/-- 'learnerlaw25.AnalyzeChecks', WHERE WHAT IT READS IS OF BULK AT MOST 1048576: true; the input reads as it did. -/
def analyzeChecksUptoRow : OpenClaim := { program := "ytikdejlandmpfaa", sum := "8ea4c2f10ce1e519c6c02a933c2f5654fe38361a2f026121cf41fdcf42df3114", func := "learner/learnerlaw25.AnalyzeChecks", spec := "analyzeChecks", unfollowed := true, recurses := true, apart := false, narrowed := true }
def AnalyzeChecksUptoSaid : Prop := analyzeChecksUptoRow.holds Try.pinned (OpenSpec.upto analyzeChecksSpec)

/-- 'learnerlaw25.AnalyzeSplits', WHERE WHAT IT READS IS OF BULK AT MOST 1048576: true; the input reads as it did. -/
def analyzeSplitsUptoRow : OpenClaim := { program := "ytikdejlandmpfaa", sum := "8ea4c2f10ce1e519c6c02a933c2f5654fe38361a2f026121cf41fdcf42df3114", func := "learner/learnerlaw25.AnalyzeSplits", spec := "analyzeSplits", unfollowed := true, recurses := true, apart := false, narrowed := true }
def AnalyzeSplitsUptoSaid : Prop := analyzeSplitsUptoRow.holds Try.pinned (OpenSpec.upto analyzeSplitsSpec)

/-- 'learnerlaw25.AnalyzeLinear', WHERE WHAT IT READS IS OF BULK AT MOST 1048576: true; the input reads as it did. -/
def analyzeLinearUptoRow : OpenClaim := { program := "ytikdejlandmpfaa", sum := "8ea4c2f10ce1e519c6c02a933c2f5654fe38361a2f026121cf41fdcf42df3114", func := "learner/learnerlaw25.AnalyzeLinear", spec := "analyzeLinear", unfollowed := true, recurses := true, apart := false, narrowed := true }
def AnalyzeLinearUptoSaid : Prop := analyzeLinearUptoRow.holds Try.pinned (OpenSpec.upto analyzeLinearSpec)

/-- 'learnerlaw25.AnalyzeShows', WHERE WHAT IT READS IS OF BULK AT MOST 1048576: true; the input reads as it did. -/
def analyzeShowsUptoRow : OpenClaim := { program := "ytikdejlandmpfaa", sum := "8ea4c2f10ce1e519c6c02a933c2f5654fe38361a2f026121cf41fdcf42df3114", func := "learner/learnerlaw25.AnalyzeShows", spec := "analyzeShows", unfollowed := true, recurses := true, apart := false, narrowed := true }
def AnalyzeShowsUptoSaid : Prop := analyzeShowsUptoRow.holds Try.pinned (OpenSpec.upto analyzeShowsSpec)

end Rows
end Go.Proofs.Ytikdejlandmpfaa
