/- The plain words for Min: one state of each class. Condition where named: the machine is valid. -/
import Derived.Test.YtdnmgiabgpilkaaTrimP
import Derived.Test.YtdnmgiabgpilkaaCanon
namespace Go.Proofs.Ytdnmgiabgpilkaa

/-- The states that open a class, among the first k. -/
def reps (cls : List Int) : Nat → List Nat
  | 0 => []
  | k + 1 => if cls.getD k 0 < (reps cls k).length then reps cls k else reps cls k ++ [k]

theorem reps_old {cls : List Int} {k : Nat} (h : cls.getD k 0 < (reps cls k).length) : reps cls (k + 1) = reps cls k := by simp only [reps, h, if_true]
theorem reps_new {cls : List Int} {k : Nat} (h : ¬ cls.getD k 0 < (reps cls k).length) : reps cls (k + 1) = reps cls k ++ [k] := by simp only [reps, h, if_false]
theorem reps_le (cls : List Int) : ∀ k, (reps cls k).length ≤ k
  | 0 => Nat.le_refl _
  | k + 1 => by
    have := reps_le cls k
    simp only [reps]; split
    · omega
    · simp; omega

namespace Mach
def minRow (t : Mach) (cls : List Int) (s : Nat) : List Int := (t.next.getD s []).map fun n => cls.getD n.toNat 0
def minBy (t : Mach) (cls : List Int) : Mach := { inputs := t.inputs, start := 0, next := (reps cls cls.length).map (t.minRow cls), out := (reps cls cls.length).map fun s => t.out.getD s [] }
def minOf (m : Mach) : Mach := if m.err = 0 then m.trim.minBy (m.trim.partOf 128) else nothing
end Mach
end Go.Proofs.Ytdnmgiabgpilkaa
