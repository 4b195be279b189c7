/-
  No cell of these rows narrows 'for every input' (looked for: loops, veiled, ifaces, maps, wideKeys, modest, calm, conditions, laid).
  DERIVED. THE GIVEN ROWS OF THIS SEAT. 6 by the template 'for every input the law returns true; each argument reads behind the call as it read before'; 0 by the template 'total and deterministic' (their statements: YtknhegdepbmmlaaGreatTotals.lean).
  GIVEN WITH THE SEED: the statements are not yours to turn. If you find one false, say at which input.
  Laid BY PROGRAM, IN A SANDBOX (cutbox-rows.mjs): the forced cells as the released guide's own fill.sh prints them over the translation 27d1bc2559eb2129… (all of the seat's roots in one cut). By AI agents, Wed Nov 11 2026. No macro, syntax, notation, axiom, sorry.
-/
import Derived.Test.YtknhegdepbmmlaaGreatChecked
import GoSem.Claim
import GoSem.ClaimJoined
import GoSem.ClaimMapViews
import Derived.JoinedTies
import Derived.KernelRfl
namespace Go.Proofs.YtknhegdepbmmlaaGreat
/- THE CELL 'sum', in the pinned program and in every row, IS THE sha256 OF THE DUMP (.gsa) THAT YtknhegdepbmmlaaGreatProg.lean LOADS. Nothing in Lean hashes anything: it is a label: what it is worth is what the hold of that sum in a sandbox is worth. -/
noncomputable def Tryz.pinned : Pinned := { name := "ytknhegdepbmmlaagreat", sum := "27d1bc2559eb21297bc1080f9c6f47070976902b33048036fa32e9ef42ae764b", checked := Tryz.checked }
namespace Rows
def none {H : Type} : Left H := { results := [], args := [] }

/-- 'learnerlaw31.AsuiteIdentifies': WHATEVER THE INPUT: true; the input reads as it did. -/
def asuiteIdentifiesSpec : ChangeSpec := { name := "asuiteIdentifies", fn := fun _ => fun
  | [d1, d2] => { results := [.lit (.bool true)], args := [d1, d2] }
  | _ => none }
def asuiteIdentifiesRow : OpenClaim := { program := "ytknhegdepbmmlaagreat", sum := "27d1bc2559eb21297bc1080f9c6f47070976902b33048036fa32e9ef42ae764b", func := "learner/learnerlaw31.AsuiteIdentifies", spec := "asuiteIdentifies", unfollowed := true, recurses := true, plainKeys := false, apart := false }
def AsuiteIdentifiesSaid : Prop := asuiteIdentifiesRow.holds Tryz.pinned (OpenSpec.ofChange asuiteIdentifiesSpec)

/-- ITS FALSE NEIGHBOUR: 'it returns false'. Refute it at one input. -/
def asuiteIdentifiesWrong : ChangeSpec := { name := "asuiteIdentifies", fn := fun _ => fun
  | [d1, d2] => { results := [.lit (.bool false)], args := [d1, d2] }
  | _ => none }
def AsuiteIdentifiesWrongFalsely : Prop := asuiteIdentifiesRow.holds Tryz.pinned (OpenSpec.ofChange asuiteIdentifiesWrong)

/-- 'learnerlaw31.AsuiteSuites': WHATEVER THE INPUT: true; the input reads as it did. -/
def asuiteSuitesSpec : ChangeSpec := { name := "asuiteSuites", fn := fun _ => fun
  | [d1, d2] => { results := [.lit (.bool true)], args := [d1, d2] }
  | _ => none }
def asuiteSuitesRow : OpenClaim := { program := "ytknhegdepbmmlaagreat", sum := "27d1bc2559eb21297bc1080f9c6f47070976902b33048036fa32e9ef42ae764b", func := "learner/learnerlaw31.AsuiteSuites", spec := "asuiteSuites", unfollowed := true, recurses := true, plainKeys := false, apart := false }
def AsuiteSuitesSaid : Prop := asuiteSuitesRow.holds Tryz.pinned (OpenSpec.ofChange asuiteSuitesSpec)

/-- ITS FALSE NEIGHBOUR: 'it returns false'. Refute it at one input. -/
def asuiteSuitesWrong : ChangeSpec := { name := "asuiteSuites", fn := fun _ => fun
  | [d1, d2] => { results := [.lit (.bool false)], args := [d1, d2] }
  | _ => none }
def AsuiteSuitesWrongFalsely : Prop := asuiteSuitesRow.holds Tryz.pinned (OpenSpec.ofChange asuiteSuitesWrong)

/-- 'learnerlaw31.AsuiteShorter': WHATEVER THE INPUT: true; the input reads as it did. -/
def asuiteShorterSpec : ChangeSpec := { name := "asuiteShorter", fn := fun _ => fun
  | [d1, d2] => { results := [.lit (.bool true)], args := [d1, d2] }
  | _ => none }
def asuiteShorterRow : OpenClaim := { program := "ytknhegdepbmmlaagreat", sum := "27d1bc2559eb21297bc1080f9c6f47070976902b33048036fa32e9ef42ae764b", func := "learner/learnerlaw31.AsuiteShorter", spec := "asuiteShorter", unfollowed := true, recurses := true, plainKeys := false, apart := false }
def AsuiteShorterSaid : Prop := asuiteShorterRow.holds Tryz.pinned (OpenSpec.ofChange asuiteShorterSpec)

/-- ITS FALSE NEIGHBOUR: 'it returns false'. Refute it at one input. -/
def asuiteShorterWrong : ChangeSpec := { name := "asuiteShorter", fn := fun _ => fun
  | [d1, d2] => { results := [.lit (.bool false)], args := [d1, d2] }
  | _ => none }
def AsuiteShorterWrongFalsely : Prop := asuiteShorterRow.holds Tryz.pinned (OpenSpec.ofChange asuiteShorterWrong)

/-- 'learnerlaw31.AsuiteHarmony': WHATEVER THE INPUT: true; the input reads as it did. -/
def asuiteHarmonySpec : ChangeSpec := { name := "asuiteHarmony", fn := fun _ => fun
  | [d1, d2] => { results := [.lit (.bool true)], args := [d1, d2] }
  | _ => none }
def asuiteHarmonyRow : OpenClaim := { program := "ytknhegdepbmmlaagreat", sum := "27d1bc2559eb21297bc1080f9c6f47070976902b33048036fa32e9ef42ae764b", func := "learner/learnerlaw31.AsuiteHarmony", spec := "asuiteHarmony", unfollowed := true, recurses := true, plainKeys := false, apart := false }
def AsuiteHarmonySaid : Prop := asuiteHarmonyRow.holds Tryz.pinned (OpenSpec.ofChange asuiteHarmonySpec)

/-- ITS FALSE NEIGHBOUR: 'it returns false'. Refute it at one input. -/
def asuiteHarmonyWrong : ChangeSpec := { name := "asuiteHarmony", fn := fun _ => fun
  | [d1, d2] => { results := [.lit (.bool false)], args := [d1, d2] }
  | _ => none }
def AsuiteHarmonyWrongFalsely : Prop := asuiteHarmonyRow.holds Tryz.pinned (OpenSpec.ofChange asuiteHarmonyWrong)

/-- 'learnerlaw31.AsuiteWords': WHATEVER THE INPUT: true; the input reads as it did. -/
def asuiteWordsSpec : ChangeSpec := { name := "asuiteWords", fn := fun _ => fun
  | [d1, d2] => { results := [.lit (.bool true)], args := [d1, d2] }
  | _ => none }
def asuiteWordsRow : OpenClaim := { program := "ytknhegdepbmmlaagreat", sum := "27d1bc2559eb21297bc1080f9c6f47070976902b33048036fa32e9ef42ae764b", func := "learner/learnerlaw31.AsuiteWords", spec := "asuiteWords", unfollowed := true, recurses := true, plainKeys := false, apart := false }
def AsuiteWordsSaid : Prop := asuiteWordsRow.holds Tryz.pinned (OpenSpec.ofChange asuiteWordsSpec)

/-- ITS FALSE NEIGHBOUR: 'it returns false'. Refute it at one input. -/
def asuiteWordsWrong : ChangeSpec := { name := "asuiteWords", fn := fun _ => fun
  | [d1, d2] => { results := [.lit (.bool false)], args := [d1, d2] }
  | _ => none }
def AsuiteWordsWrongFalsely : Prop := asuiteWordsRow.holds Tryz.pinned (OpenSpec.ofChange asuiteWordsWrong)

/-- 'learnerlaw31.AsuiteComplete': WHATEVER THE INPUT: true; the input reads as it did. -/
def asuiteCompleteSpec : ChangeSpec := { name := "asuiteComplete", fn := fun _ => fun
  | [d1, d2, d3] => { results := [.lit (.bool true)], args := [d1, d2, d3] }
  | _ => none }
def asuiteCompleteRow : OpenClaim := { program := "ytknhegdepbmmlaagreat", sum := "27d1bc2559eb21297bc1080f9c6f47070976902b33048036fa32e9ef42ae764b", func := "learner/learnerlaw31.AsuiteComplete", spec := "asuiteComplete", unfollowed := true, recurses := true, plainKeys := false, apart := false }
def AsuiteCompleteSaid : Prop := asuiteCompleteRow.holds Tryz.pinned (OpenSpec.ofChange asuiteCompleteSpec)

/-- ITS FALSE NEIGHBOUR: 'it returns false'. Refute it at one input. -/
def asuiteCompleteWrong : ChangeSpec := { name := "asuiteComplete", fn := fun _ => fun
  | [d1, d2, d3] => { results := [.lit (.bool false)], args := [d1, d2, d3] }
  | _ => none }
def AsuiteCompleteWrongFalsely : Prop := asuiteCompleteRow.holds Tryz.pinned (OpenSpec.ofChange asuiteCompleteWrong)

/- THE SECOND FORM. 'bulk': how many values and letters a reading holds, each counted each time it is reached (what is shared counts as often as it is met; a slice's spare places count too). A statement '..UptoSaid' is the law's where the arguments, and the package variables that the reading takes, are together of bulk at most 1048576: NARROWER than '..Said'. Prove '..Said' where nothing that the law and all that it calls make is longer than what came in: it says more and counts as full. Else prove '..UptoSaid'. A law counts once. -/
mutual
def uptoBulk {H : Type} : DataW H → Nat
  | .lit (.string bytes) => bytes.length + 1
  | .lit _ => 1
  | .nil => 1
  | .ptr d => uptoBulk d + 1
  | .slice elems spare => uptoBulkAll elems + uptoBulkAll spare + 1
  | .agg parts => uptoBulkAll parts + 1
  | .iface _ d => uptoBulk d + 1
  | .map entries => uptoBulkEntries entries + 1
  | .held _ => 1
def uptoBulkAll {H : Type} : List (DataW H) → Nat
  | [] => 0
  | d :: r => uptoBulk d + uptoBulkAll r
def uptoBulkEntries {H : Type} : List (Lit × DataW H) → Nat
  | [] => 0
  | x :: r => uptoBulkEntry x + uptoBulkEntries r
def uptoBulkEntry {H : Type} : Lit × DataW H → Nat
  | (.string bytes, d) => bytes.length + uptoBulk d + 1
  | (_, d) => uptoBulk d + 1
 end
def uptoSmall : (H : Type) → List (DataW H) → Bool := fun _ ds => decide (uptoBulkAll ds ≤ 1048576)
def OpenSpec.upto (s : _root_.Go.ChangeSpec) : _root_.Go.OpenSpec := { _root_.Go.OpenSpec.ofChange s with cond := some uptoSmall }

/-- 'learnerlaw31.AsuiteIdentifies', WHERE WHAT IT READS IS OF BULK AT MOST 1048576: true; the input reads as it did. -/
def asuiteIdentifiesUptoRow : OpenClaim := { program := "ytknhegdepbmmlaagreat", sum := "27d1bc2559eb21297bc1080f9c6f47070976902b33048036fa32e9ef42ae764b", func := "learner/learnerlaw31.AsuiteIdentifies", spec := "asuiteIdentifies", unfollowed := true, recurses := true, plainKeys := false, apart := false, narrowed := true }
def AsuiteIdentifiesUptoSaid : Prop := asuiteIdentifiesUptoRow.holds Tryz.pinned (OpenSpec.upto asuiteIdentifiesSpec)

/-- 'learnerlaw31.AsuiteSuites', WHERE WHAT IT READS IS OF BULK AT MOST 1048576: true; the input reads as it did. -/
def asuiteSuitesUptoRow : OpenClaim := { program := "ytknhegdepbmmlaagreat", sum := "27d1bc2559eb21297bc1080f9c6f47070976902b33048036fa32e9ef42ae764b", func := "learner/learnerlaw31.AsuiteSuites", spec := "asuiteSuites", unfollowed := true, recurses := true, plainKeys := false, apart := false, narrowed := true }
def AsuiteSuitesUptoSaid : Prop := asuiteSuitesUptoRow.holds Tryz.pinned (OpenSpec.upto asuiteSuitesSpec)

/-- 'learnerlaw31.AsuiteShorter', WHERE WHAT IT READS IS OF BULK AT MOST 1048576: true; the input reads as it did. -/
def asuiteShorterUptoRow : OpenClaim := { program := "ytknhegdepbmmlaagreat", sum := "27d1bc2559eb21297bc1080f9c6f47070976902b33048036fa32e9ef42ae764b", func := "learner/learnerlaw31.AsuiteShorter", spec := "asuiteShorter", unfollowed := true, recurses := true, plainKeys := false, apart := false, narrowed := true }
def AsuiteShorterUptoSaid : Prop := asuiteShorterUptoRow.holds Tryz.pinned (OpenSpec.upto asuiteShorterSpec)

/-- 'learnerlaw31.AsuiteHarmony', WHERE WHAT IT READS IS OF BULK AT MOST 1048576: true; the input reads as it did. -/
def asuiteHarmonyUptoRow : OpenClaim := { program := "ytknhegdepbmmlaagreat", sum := "27d1bc2559eb21297bc1080f9c6f47070976902b33048036fa32e9ef42ae764b", func := "learner/learnerlaw31.AsuiteHarmony", spec := "asuiteHarmony", unfollowed := true, recurses := true, plainKeys := false, apart := false, narrowed := true }
def AsuiteHarmonyUptoSaid : Prop := asuiteHarmonyUptoRow.holds Tryz.pinned (OpenSpec.upto asuiteHarmonySpec)

/-- 'learnerlaw31.AsuiteWords', WHERE WHAT IT READS IS OF BULK AT MOST 1048576: true; the input reads as it did. -/
def asuiteWordsUptoRow : OpenClaim := { program := "ytknhegdepbmmlaagreat", sum := "27d1bc2559eb21297bc1080f9c6f47070976902b33048036fa32e9ef42ae764b", func := "learner/learnerlaw31.AsuiteWords", spec := "asuiteWords", unfollowed := true, recurses := true, plainKeys := false, apart := false, narrowed := true }
def AsuiteWordsUptoSaid : Prop := asuiteWordsUptoRow.holds Tryz.pinned (OpenSpec.upto asuiteWordsSpec)

/-- 'learnerlaw31.AsuiteComplete', WHERE WHAT IT READS IS OF BULK AT MOST 1048576: true; the input reads as it did. -/
def asuiteCompleteUptoRow : OpenClaim := { program := "ytknhegdepbmmlaagreat", sum := "27d1bc2559eb21297bc1080f9c6f47070976902b33048036fa32e9ef42ae764b", func := "learner/learnerlaw31.AsuiteComplete", spec := "asuiteComplete", unfollowed := true, recurses := true, plainKeys := false, apart := false, narrowed := true }
def AsuiteCompleteUptoSaid : Prop := asuiteCompleteUptoRow.holds Tryz.pinned (OpenSpec.upto asuiteCompleteSpec)

end Rows
end Go.Proofs.YtknhegdepbmmlaaGreat
