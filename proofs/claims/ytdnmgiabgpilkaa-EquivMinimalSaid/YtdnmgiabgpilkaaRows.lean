/-
  No cell of these rows narrows 'for every input' (looked for: loops, veiled, ifaces, maps, wideKeys, modest, calm, conditions, laid).
  DERIVED. THE GIVEN ROWS OF THIS SEAT. 13 by the template 'for every input the law returns true; each argument reads behind the call as it read before'; 0 by the template 'total and deterministic' (their statements: YtdnmgiabgpilkaaTotals.lean).
  GIVEN WITH THE SEED: the statements are not yours to turn. If you find one false, say at which input.
  Laid BY PROGRAM, IN A SANDBOX (cutbox-rows.mjs): the forced cells as the released guide's own fill.sh prints them over the translation 481a75d0165df887… (all of the seat's roots in one cut). By AI agents, Wed Nov 11 2026. No macro, syntax, notation, axiom, sorry.
-/
import Derived.Test.YtdnmgiabgpilkaaChecked
import GoSem.Claim
import GoSem.ClaimJoined
import GoSem.ClaimMapViews
import Derived.JoinedTies
import Derived.KernelRfl
namespace Go.Proofs.Ytdnmgiabgpilkaa
/- THE CELL 'sum', in the pinned program and in every row, IS THE sha256 OF THE DUMP (.gsa) THAT YtdnmgiabgpilkaaProg.lean LOADS. Nothing in Lean hashes anything: it is a label: what it is worth is what the hold of that sum in a sandbox is worth. -/
noncomputable def Try.pinned : Pinned := { name := "ytdnmgiabgpilkaa", sum := "481a75d0165df8873ae95f19bb3307a2c7260b5683a77266a5088e2f4ff080d5", checked := Try.checked }
namespace Rows
def none {H : Type} : Left H := { results := [], args := [] }

/-- 'learnerlaw08.MinimizePartitions': WHATEVER THE INPUT: true; the input reads as it did. -/
def minimizePartitionsSpec : ChangeSpec := { name := "minimizePartitions", fn := fun _ => fun
  | [d1, d2] => { results := [.lit (.bool true)], args := [d1, d2] }
  | _ => none }
def minimizePartitionsRow : OpenClaim := { program := "ytdnmgiabgpilkaa", sum := "481a75d0165df8873ae95f19bb3307a2c7260b5683a77266a5088e2f4ff080d5", func := "learner/learnerlaw08.MinimizePartitions", spec := "minimizePartitions", plainKeys := false, apart := false }
def MinimizePartitionsSaid : Prop := minimizePartitionsRow.holds Try.pinned (OpenSpec.ofChange minimizePartitionsSpec)

/-- ITS FALSE NEIGHBOUR: 'it returns false'. Refute it at one input. -/
def minimizePartitionsWrong : ChangeSpec := { name := "minimizePartitions", fn := fun _ => fun
  | [d1, d2] => { results := [.lit (.bool false)], args := [d1, d2] }
  | _ => none }
def MinimizePartitionsWrongFalsely : Prop := minimizePartitionsRow.holds Try.pinned (OpenSpec.ofChange minimizePartitionsWrong)

/-- 'learnerlaw08.MinimizeClasses': WHATEVER THE INPUT: true; the input reads as it did. -/
def minimizeClassesSpec : ChangeSpec := { name := "minimizeClasses", fn := fun _ => fun
  | [d] => { results := [.lit (.bool true)], args := [d] }
  | _ => none }
def minimizeClassesRow : OpenClaim := { program := "ytdnmgiabgpilkaa", sum := "481a75d0165df8873ae95f19bb3307a2c7260b5683a77266a5088e2f4ff080d5", func := "learner/learnerlaw08.MinimizeClasses", spec := "minimizeClasses", plainKeys := false, apart := false }
def MinimizeClassesSaid : Prop := minimizeClassesRow.holds Try.pinned (OpenSpec.ofChange minimizeClassesSpec)

/-- ITS FALSE NEIGHBOUR: 'it returns false'. Refute it at one input. -/
def minimizeClassesWrong : ChangeSpec := { name := "minimizeClasses", fn := fun _ => fun
  | [d] => { results := [.lit (.bool false)], args := [d] }
  | _ => none }
def MinimizeClassesWrongFalsely : Prop := minimizeClassesRow.holds Try.pinned (OpenSpec.ofChange minimizeClassesWrong)

/-- 'learnerlaw08.MinimizeMins': WHATEVER THE INPUT: true; the input reads as it did. -/
def minimizeMinsSpec : ChangeSpec := { name := "minimizeMins", fn := fun _ => fun
  | [d] => { results := [.lit (.bool true)], args := [d] }
  | _ => none }
def minimizeMinsRow : OpenClaim := { program := "ytdnmgiabgpilkaa", sum := "481a75d0165df8873ae95f19bb3307a2c7260b5683a77266a5088e2f4ff080d5", func := "learner/learnerlaw08.MinimizeMins", spec := "minimizeMins", plainKeys := false, apart := false }
def MinimizeMinsSaid : Prop := minimizeMinsRow.holds Try.pinned (OpenSpec.ofChange minimizeMinsSpec)

/-- ITS FALSE NEIGHBOUR: 'it returns false'. Refute it at one input. -/
def minimizeMinsWrong : ChangeSpec := { name := "minimizeMins", fn := fun _ => fun
  | [d] => { results := [.lit (.bool false)], args := [d] }
  | _ => none }
def MinimizeMinsWrongFalsely : Prop := minimizeMinsRow.holds Try.pinned (OpenSpec.ofChange minimizeMinsWrong)

/-- 'learnerlaw08.MinimizeFiner': WHATEVER THE INPUT: true; the input reads as it did. -/
def minimizeFinerSpec : ChangeSpec := { name := "minimizeFiner", fn := fun _ => fun
  | [d1, d2] => { results := [.lit (.bool true)], args := [d1, d2] }
  | _ => none }
def minimizeFinerRow : OpenClaim := { program := "ytdnmgiabgpilkaa", sum := "481a75d0165df8873ae95f19bb3307a2c7260b5683a77266a5088e2f4ff080d5", func := "learner/learnerlaw08.MinimizeFiner", spec := "minimizeFiner", plainKeys := false, apart := false }
def MinimizeFinerSaid : Prop := minimizeFinerRow.holds Try.pinned (OpenSpec.ofChange minimizeFinerSpec)

/-- ITS FALSE NEIGHBOUR: 'it returns false'. Refute it at one input. -/
def minimizeFinerWrong : ChangeSpec := { name := "minimizeFiner", fn := fun _ => fun
  | [d1, d2] => { results := [.lit (.bool false)], args := [d1, d2] }
  | _ => none }
def MinimizeFinerWrongFalsely : Prop := minimizeFinerRow.holds Try.pinned (OpenSpec.ofChange minimizeFinerWrong)

/-- 'learnerlaw09.EquivDistinguishes': WHATEVER THE INPUT: true; the input reads as it did. -/
def equivDistinguishesSpec : ChangeSpec := { name := "equivDistinguishes", fn := fun _ => fun
  | [d1, d2] => { results := [.lit (.bool true)], args := [d1, d2] }
  | _ => none }
def equivDistinguishesRow : OpenClaim := { program := "ytdnmgiabgpilkaa", sum := "481a75d0165df8873ae95f19bb3307a2c7260b5683a77266a5088e2f4ff080d5", func := "learner/learnerlaw09.EquivDistinguishes", spec := "equivDistinguishes", plainKeys := false, apart := false }
def EquivDistinguishesSaid : Prop := equivDistinguishesRow.holds Try.pinned (OpenSpec.ofChange equivDistinguishesSpec)

/-- ITS FALSE NEIGHBOUR: 'it returns false'. Refute it at one input. -/
def equivDistinguishesWrong : ChangeSpec := { name := "equivDistinguishes", fn := fun _ => fun
  | [d1, d2] => { results := [.lit (.bool false)], args := [d1, d2] }
  | _ => none }
def EquivDistinguishesWrongFalsely : Prop := equivDistinguishesRow.holds Try.pinned (OpenSpec.ofChange equivDistinguishesWrong)

/-- 'learnerlaw09.EquivStates': WHATEVER THE INPUT: true; the input reads as it did. -/
def equivStatesSpec : ChangeSpec := { name := "equivStates", fn := fun _ => fun
  | [d1, d2, d3] => { results := [.lit (.bool true)], args := [d1, d2, d3] }
  | _ => none }
def equivStatesRow : OpenClaim := { program := "ytdnmgiabgpilkaa", sum := "481a75d0165df8873ae95f19bb3307a2c7260b5683a77266a5088e2f4ff080d5", func := "learner/learnerlaw09.EquivStates", spec := "equivStates", plainKeys := false, apart := false }
def EquivStatesSaid : Prop := equivStatesRow.holds Try.pinned (OpenSpec.ofChange equivStatesSpec)

/-- ITS FALSE NEIGHBOUR: 'it returns false'. Refute it at one input. -/
def equivStatesWrong : ChangeSpec := { name := "equivStates", fn := fun _ => fun
  | [d1, d2, d3] => { results := [.lit (.bool false)], args := [d1, d2, d3] }
  | _ => none }
def EquivStatesWrongFalsely : Prop := equivStatesRow.holds Try.pinned (OpenSpec.ofChange equivStatesWrong)

/-- 'learnerlaw09.EquivIsos': WHATEVER THE INPUT: true; the input reads as it did. -/
def equivIsosSpec : ChangeSpec := { name := "equivIsos", fn := fun _ => fun
  | [d1, d2, d3] => { results := [.lit (.bool true)], args := [d1, d2, d3] }
  | _ => none }
def equivIsosRow : OpenClaim := { program := "ytdnmgiabgpilkaa", sum := "481a75d0165df8873ae95f19bb3307a2c7260b5683a77266a5088e2f4ff080d5", func := "learner/learnerlaw09.EquivIsos", spec := "equivIsos", plainKeys := false, apart := false }
def EquivIsosSaid : Prop := equivIsosRow.holds Try.pinned (OpenSpec.ofChange equivIsosSpec)

/-- ITS FALSE NEIGHBOUR: 'it returns false'. Refute it at one input. -/
def equivIsosWrong : ChangeSpec := { name := "equivIsos", fn := fun _ => fun
  | [d1, d2, d3] => { results := [.lit (.bool false)], args := [d1, d2, d3] }
  | _ => none }
def EquivIsosWrongFalsely : Prop := equivIsosRow.holds Try.pinned (OpenSpec.ofChange equivIsosWrong)

/-- 'learnerlaw09.EquivBounds': WHATEVER THE INPUT: true; the input reads as it did. -/
def equivBoundsSpec : ChangeSpec := { name := "equivBounds", fn := fun _ => fun
  | [d1, d2, d3] => { results := [.lit (.bool true)], args := [d1, d2, d3] }
  | _ => none }
def equivBoundsRow : OpenClaim := { program := "ytdnmgiabgpilkaa", sum := "481a75d0165df8873ae95f19bb3307a2c7260b5683a77266a5088e2f4ff080d5", func := "learner/learnerlaw09.EquivBounds", spec := "equivBounds", plainKeys := false, apart := false }
def EquivBoundsSaid : Prop := equivBoundsRow.holds Try.pinned (OpenSpec.ofChange equivBoundsSpec)

/-- ITS FALSE NEIGHBOUR: 'it returns false'. Refute it at one input. -/
def equivBoundsWrong : ChangeSpec := { name := "equivBounds", fn := fun _ => fun
  | [d1, d2, d3] => { results := [.lit (.bool false)], args := [d1, d2, d3] }
  | _ => none }
def EquivBoundsWrongFalsely : Prop := equivBoundsRow.holds Try.pinned (OpenSpec.ofChange equivBoundsWrong)

/-- 'learnerlaw09.EquivMaps': WHATEVER THE INPUT: true; the input reads as it did. -/
def equivMapsSpec : ChangeSpec := { name := "equivMaps", fn := fun _ => fun
  | [d1, d2] => { results := [.lit (.bool true)], args := [d1, d2] }
  | _ => none }
def equivMapsRow : OpenClaim := { program := "ytdnmgiabgpilkaa", sum := "481a75d0165df8873ae95f19bb3307a2c7260b5683a77266a5088e2f4ff080d5", func := "learner/learnerlaw09.EquivMaps", spec := "equivMaps", plainKeys := false, apart := false }
def EquivMapsSaid : Prop := equivMapsRow.holds Try.pinned (OpenSpec.ofChange equivMapsSpec)

/-- ITS FALSE NEIGHBOUR: 'it returns false'. Refute it at one input. -/
def equivMapsWrong : ChangeSpec := { name := "equivMaps", fn := fun _ => fun
  | [d1, d2] => { results := [.lit (.bool false)], args := [d1, d2] }
  | _ => none }
def EquivMapsWrongFalsely : Prop := equivMapsRow.holds Try.pinned (OpenSpec.ofChange equivMapsWrong)

/-- 'learnerlaw08.MinimizeWords': WHATEVER THE INPUT: true; the input reads as it did. -/
def minimizeWordsSpec : ChangeSpec := { name := "minimizeWords", fn := fun _ => fun
  | [d1, d2, d3] => { results := [.lit (.bool true)], args := [d1, d2, d3] }
  | _ => none }
def minimizeWordsRow : OpenClaim := { program := "ytdnmgiabgpilkaa", sum := "481a75d0165df8873ae95f19bb3307a2c7260b5683a77266a5088e2f4ff080d5", func := "learner/learnerlaw08.MinimizeWords", spec := "minimizeWords", unfollowed := true, recurses := true, plainKeys := false, apart := false }
def MinimizeWordsSaid : Prop := minimizeWordsRow.holds Try.pinned (OpenSpec.ofChange minimizeWordsSpec)

/-- ITS FALSE NEIGHBOUR: 'it returns false'. Refute it at one input. -/
def minimizeWordsWrong : ChangeSpec := { name := "minimizeWords", fn := fun _ => fun
  | [d1, d2, d3] => { results := [.lit (.bool false)], args := [d1, d2, d3] }
  | _ => none }
def MinimizeWordsWrongFalsely : Prop := minimizeWordsRow.holds Try.pinned (OpenSpec.ofChange minimizeWordsWrong)

/-- 'learnerlaw08.MinimizeSame': WHATEVER THE INPUT: true; the input reads as it did. -/
def minimizeSameSpec : ChangeSpec := { name := "minimizeSame", fn := fun _ => fun
  | [d1, d2, d3] => { results := [.lit (.bool true)], args := [d1, d2, d3] }
  | _ => none }
def minimizeSameRow : OpenClaim := { program := "ytdnmgiabgpilkaa", sum := "481a75d0165df8873ae95f19bb3307a2c7260b5683a77266a5088e2f4ff080d5", func := "learner/learnerlaw08.MinimizeSame", spec := "minimizeSame", unfollowed := true, recurses := true, plainKeys := false, apart := false }
def MinimizeSameSaid : Prop := minimizeSameRow.holds Try.pinned (OpenSpec.ofChange minimizeSameSpec)

/-- ITS FALSE NEIGHBOUR: 'it returns false'. Refute it at one input. -/
def minimizeSameWrong : ChangeSpec := { name := "minimizeSame", fn := fun _ => fun
  | [d1, d2, d3] => { results := [.lit (.bool false)], args := [d1, d2, d3] }
  | _ => none }
def MinimizeSameWrongFalsely : Prop := minimizeSameRow.holds Try.pinned (OpenSpec.ofChange minimizeSameWrong)

/-- 'learnerlaw09.EquivFirst': WHATEVER THE INPUT: true; the input reads as it did. -/
def equivFirstSpec : ChangeSpec := { name := "equivFirst", fn := fun _ => fun
  | [d1, d2, d3] => { results := [.lit (.bool true)], args := [d1, d2, d3] }
  | _ => none }
def equivFirstRow : OpenClaim := { program := "ytdnmgiabgpilkaa", sum := "481a75d0165df8873ae95f19bb3307a2c7260b5683a77266a5088e2f4ff080d5", func := "learner/learnerlaw09.EquivFirst", spec := "equivFirst", unfollowed := true, recurses := true, plainKeys := false, apart := false }
def EquivFirstSaid : Prop := equivFirstRow.holds Try.pinned (OpenSpec.ofChange equivFirstSpec)

/-- ITS FALSE NEIGHBOUR: 'it returns false'. Refute it at one input. -/
def equivFirstWrong : ChangeSpec := { name := "equivFirst", fn := fun _ => fun
  | [d1, d2, d3] => { results := [.lit (.bool false)], args := [d1, d2, d3] }
  | _ => none }
def EquivFirstWrongFalsely : Prop := equivFirstRow.holds Try.pinned (OpenSpec.ofChange equivFirstWrong)

/-- 'learnerlaw09.EquivMinimal': WHATEVER THE INPUT: true; the input reads as it did. -/
def equivMinimalSpec : ChangeSpec := { name := "equivMinimal", fn := fun _ => fun
  | [d1, d2, d3] => { results := [.lit (.bool true)], args := [d1, d2, d3] }
  | _ => none }
def equivMinimalRow : OpenClaim := { program := "ytdnmgiabgpilkaa", sum := "481a75d0165df8873ae95f19bb3307a2c7260b5683a77266a5088e2f4ff080d5", func := "learner/learnerlaw09.EquivMinimal", spec := "equivMinimal", unfollowed := true, recurses := true, plainKeys := false, apart := false }
def EquivMinimalSaid : Prop := equivMinimalRow.holds Try.pinned (OpenSpec.ofChange equivMinimalSpec)

/-- ITS FALSE NEIGHBOUR: 'it returns false'. Refute it at one input. -/
def equivMinimalWrong : ChangeSpec := { name := "equivMinimal", fn := fun _ => fun
  | [d1, d2, d3] => { results := [.lit (.bool false)], args := [d1, d2, d3] }
  | _ => none }
def EquivMinimalWrongFalsely : Prop := equivMinimalRow.holds Try.pinned (OpenSpec.ofChange equivMinimalWrong)

/- THE SECOND FORM. 'bulk': how many values and letters a reading holds, each counted each time it is reached (what is shared counts as often as it is met; a slice's spare places count too). A statement '..UptoSaid' is the law's where the arguments, and the package variables that the reading takes, are together of bulk at most 1048576: NARROWER than '..Said'. Prove '..Said' where nothing that the law and all that it calls make is longer than what came in: it says more and counts as full. Else prove '..UptoSaid'. A law counts once. -/
mutual
def uptoBulk {H : Type} : DataW H → Nat
  | .lit (.string bytes) => bytes.length + 1
  | .lit _ => 1
  | .nil => 1
  | .ptr d => uptoBulk d + 1
  | .slice elems spare => uptoBulkAll elems + uptoBulkAll spare + 1
  | .agg parts => uptoBulkAll parts + 1
  | .iface _ d => uptoBulk d + 1
  | .map entries => uptoBulkEntries entries + 1
  | .held _ => 1
def uptoBulkAll {H : Type} : List (DataW H) → Nat
  | [] => 0
  | d :: r => uptoBulk d + uptoBulkAll r
def uptoBulkEntries {H : Type} : List (Lit × DataW H) → Nat
  | [] => 0
  | x :: r => uptoBulkEntry x + uptoBulkEntries r
def uptoBulkEntry {H : Type} : Lit × DataW H → Nat
  | (.string bytes, d) => bytes.length + uptoBulk d + 1
  | (_, d) => uptoBulk d + 1
 end
def uptoSmall : (H : Type) → List (DataW H) → Bool := fun _ ds => decide (uptoBulkAll ds ≤ 1048576)
def OpenSpec.upto (s : _root_.Go.ChangeSpec) : _root_.Go.OpenSpec := { _root_.Go.OpenSpec.ofChange s with cond := some uptoSmall }

/-- 'learnerlaw08.MinimizePartitions', WHERE WHAT IT READS IS OF BULK AT MOST 1048576: true; the input reads as it did. -/
def minimizePartitionsUptoRow : OpenClaim := { program := "ytdnmgiabgpilkaa", sum := "481a75d0165df8873ae95f19bb3307a2c7260b5683a77266a5088e2f4ff080d5", func := "learner/learnerlaw08.MinimizePartitions", spec := "minimizePartitions", plainKeys := false, apart := false, narrowed := true }
def MinimizePartitionsUptoSaid : Prop := minimizePartitionsUptoRow.holds Try.pinned (OpenSpec.upto minimizePartitionsSpec)

/-- 'learnerlaw08.MinimizeClasses', WHERE WHAT IT READS IS OF BULK AT MOST 1048576: true; the input reads as it did. -/
def minimizeClassesUptoRow : OpenClaim := { program := "ytdnmgiabgpilkaa", sum := "481a75d0165df8873ae95f19bb3307a2c7260b5683a77266a5088e2f4ff080d5", func := "learner/learnerlaw08.MinimizeClasses", spec := "minimizeClasses", plainKeys := false, apart := false, narrowed := true }
def MinimizeClassesUptoSaid : Prop := minimizeClassesUptoRow.holds Try.pinned (OpenSpec.upto minimizeClassesSpec)

/-- 'learnerlaw08.MinimizeMins', WHERE WHAT IT READS IS OF BULK AT MOST 1048576: true; the input reads as it did. -/
def minimizeMinsUptoRow : OpenClaim := { program := "ytdnmgiabgpilkaa", sum := "481a75d0165df8873ae95f19bb3307a2c7260b5683a77266a5088e2f4ff080d5", func := "learner/learnerlaw08.MinimizeMins", spec := "minimizeMins", plainKeys := false, apart := false, narrowed := true }
def MinimizeMinsUptoSaid : Prop := minimizeMinsUptoRow.holds Try.pinned (OpenSpec.upto minimizeMinsSpec)

/-- 'learnerlaw08.MinimizeFiner', WHERE WHAT IT READS IS OF BULK AT MOST 1048576: true; the input reads as it did. -/
def minimizeFinerUptoRow : OpenClaim := { program := "ytdnmgiabgpilkaa", sum := "481a75d0165df8873ae95f19bb3307a2c7260b5683a77266a5088e2f4ff080d5", func := "learner/learnerlaw08.MinimizeFiner", spec := "minimizeFiner", plainKeys := false, apart := false, narrowed := true }
def MinimizeFinerUptoSaid : Prop := minimizeFinerUptoRow.holds Try.pinned (OpenSpec.upto minimizeFinerSpec)

/-- 'learnerlaw09.EquivDistinguishes', WHERE WHAT IT READS IS OF BULK AT MOST 1048576: true; the input reads as it did. -/
def equivDistinguishesUptoRow : OpenClaim := { program := "ytdnmgiabgpilkaa", sum := "481a75d0165df8873ae95f19bb3307a2c7260b5683a77266a5088e2f4ff080d5", func := "learner/learnerlaw09.EquivDistinguishes", spec := "equivDistinguishes", plainKeys := false, apart := false, narrowed := true }
def EquivDistinguishesUptoSaid : Prop := equivDistinguishesUptoRow.holds Try.pinned (OpenSpec.upto equivDistinguishesSpec)

/-- 'learnerlaw09.EquivStates', WHERE WHAT IT READS IS OF BULK AT MOST 1048576: true; the input reads as it did. -/
def equivStatesUptoRow : OpenClaim := { program := "ytdnmgiabgpilkaa", sum := "481a75d0165df8873ae95f19bb3307a2c7260b5683a77266a5088e2f4ff080d5", func := "learner/learnerlaw09.EquivStates", spec := "equivStates", plainKeys := false, apart := false, narrowed := true }
def EquivStatesUptoSaid : Prop := equivStatesUptoRow.holds Try.pinned (OpenSpec.upto equivStatesSpec)

/-- 'learnerlaw09.EquivIsos', WHERE WHAT IT READS IS OF BULK AT MOST 1048576: true; the input reads as it did. -/
def equivIsosUptoRow : OpenClaim := { program := "ytdnmgiabgpilkaa", sum := "481a75d0165df8873ae95f19bb3307a2c7260b5683a77266a5088e2f4ff080d5", func := "learner/learnerlaw09.EquivIsos", spec := "equivIsos", plainKeys := false, apart := false, narrowed := true }
def EquivIsosUptoSaid : Prop := equivIsosUptoRow.holds Try.pinned (OpenSpec.upto equivIsosSpec)

/-- 'learnerlaw09.EquivBounds', WHERE WHAT IT READS IS OF BULK AT MOST 1048576: true; the input reads as it did. -/
def equivBoundsUptoRow : OpenClaim := { program := "ytdnmgiabgpilkaa", sum := "481a75d0165df8873ae95f19bb3307a2c7260b5683a77266a5088e2f4ff080d5", func := "learner/learnerlaw09.EquivBounds", spec := "equivBounds", plainKeys := false, apart := false, narrowed := true }
def EquivBoundsUptoSaid : Prop := equivBoundsUptoRow.holds Try.pinned (OpenSpec.upto equivBoundsSpec)

/-- 'learnerlaw09.EquivMaps', WHERE WHAT IT READS IS OF BULK AT MOST 1048576: true; the input reads as it did. -/
def equivMapsUptoRow : OpenClaim := { program := "ytdnmgiabgpilkaa", sum := "481a75d0165df8873ae95f19bb3307a2c7260b5683a77266a5088e2f4ff080d5", func := "learner/learnerlaw09.EquivMaps", spec := "equivMaps", plainKeys := false, apart := false, narrowed := true }
def EquivMapsUptoSaid : Prop := equivMapsUptoRow.holds Try.pinned (OpenSpec.upto equivMapsSpec)

/-- 'learnerlaw08.MinimizeWords', WHERE WHAT IT READS IS OF BULK AT MOST 1048576: true; the input reads as it did. -/
def minimizeWordsUptoRow : OpenClaim := { program := "ytdnmgiabgpilkaa", sum := "481a75d0165df8873ae95f19bb3307a2c7260b5683a77266a5088e2f4ff080d5", func := "learner/learnerlaw08.MinimizeWords", spec := "minimizeWords", unfollowed := true, recurses := true, plainKeys := false, apart := false, narrowed := true }
def MinimizeWordsUptoSaid : Prop := minimizeWordsUptoRow.holds Try.pinned (OpenSpec.upto minimizeWordsSpec)

/-- 'learnerlaw08.MinimizeSame', WHERE WHAT IT READS IS OF BULK AT MOST 1048576: true; the input reads as it did. -/
def minimizeSameUptoRow : OpenClaim := { program := "ytdnmgiabgpilkaa", sum := "481a75d0165df8873ae95f19bb3307a2c7260b5683a77266a5088e2f4ff080d5", func := "learner/learnerlaw08.MinimizeSame", spec := "minimizeSame", unfollowed := true, recurses := true, plainKeys := false, apart := false, narrowed := true }
def MinimizeSameUptoSaid : Prop := minimizeSameUptoRow.holds Try.pinned (OpenSpec.upto minimizeSameSpec)

/-- 'learnerlaw09.EquivFirst', WHERE WHAT IT READS IS OF BULK AT MOST 1048576: true; the input reads as it did. -/
def equivFirstUptoRow : OpenClaim := { program := "ytdnmgiabgpilkaa", sum := "481a75d0165df8873ae95f19bb3307a2c7260b5683a77266a5088e2f4ff080d5", func := "learner/learnerlaw09.EquivFirst", spec := "equivFirst", unfollowed := true, recurses := true, plainKeys := false, apart := false, narrowed := true }
def EquivFirstUptoSaid : Prop := equivFirstUptoRow.holds Try.pinned (OpenSpec.upto equivFirstSpec)

/-- 'learnerlaw09.EquivMinimal', WHERE WHAT IT READS IS OF BULK AT MOST 1048576: true; the input reads as it did. -/
def equivMinimalUptoRow : OpenClaim := { program := "ytdnmgiabgpilkaa", sum := "481a75d0165df8873ae95f19bb3307a2c7260b5683a77266a5088e2f4ff080d5", func := "learner/learnerlaw09.EquivMinimal", spec := "equivMinimal", unfollowed := true, recurses := true, plainKeys := false, apart := false, narrowed := true }
def EquivMinimalUptoSaid : Prop := equivMinimalUptoRow.holds Try.pinned (OpenSpec.upto equivMinimalSpec)

end Rows
end Go.Proofs.Ytdnmgiabgpilkaa
