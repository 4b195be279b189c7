/- The plain words for Iso: the list that maps states by their places in the breadth-first lists. Condition where named: the machine is valid. -/
import Derived.Test.YtdnmgiabgpilkaaCheck9
import Derived.Test.YtdnmgiabgpilkaaBfs
namespace Go.Proofs.Ytdnmgiabgpilkaa

/-- The list of images after k places. -/
def fillL (x y : List Int) : Nat → List Int
  | 0 => List.replicate x.length 0
  | k + 1 => (fillL x y k).set (x.getD k 0).toNat (y.getD k 0)
theorem fillL_len (x y : List Int) : ∀ k, (fillL x y k).length = x.length
  | 0 => by simp [fillL]
  | k + 1 => by simp [fillL, fillL_len x y k]
theorem fillL_range {x y : List Int} {n : Nat} (hn : 0 < n) (hy : ∀ z ∈ y, 0 ≤ z ∧ z < n) (hl : x.length = y.length) : ∀ k, k ≤ x.length → ∀ z ∈ fillL x y k, 0 ≤ z ∧ z < n
  | 0, _, z, hz => by
    simp only [fillL, List.mem_replicate] at hz
    omega
  | k + 1, hk, z, hz => by
    simp only [fillL] at hz
    rcases List.mem_or_eq_of_mem_set hz with h | h
    · exact fillL_range hn hy hl k (by omega) z h
    · subst h
      refine hy _ ?_
      rw [List.getD_eq_getElem?_getD, List.getElem?_eq_getElem (by omega), Option.getD_some]
      exact List.getElem_mem _

/-- What Iso asks at a state and a symbol. -/
def isoAt (a b : Mach) (to : List Int) (s i : Nat) : Prop := a.ot s i = b.ot (to.getD s 0).toNat i ∧ to.getD (a.nx s i).toNat 0 = b.nx (to.getD s 0).toNat i
instance (a b : Mach) (to : List Int) (s i : Nat) : Decidable (isoAt a b to s i) := by unfold isoAt; exact inferInstance
def isoT (a b : Mach) : List Int := fillL a.reach b.reach a.reach.length
/-- All that Iso asks, behind the checks. -/
def isoOk (a b : Mach) : Prop := (a.reach.length = a.next.length ∧ b.reach.length = b.next.length ∧ a.reach.length = b.reach.length) ∧ ∀ s, s < a.reach.length → ∀ i, i < a.inputs.toNat → isoAt a b (isoT a b) s i
instance (a b : Mach) : Decidable (isoOk a b) := by unfold isoOk; exact inferInstance
def isoW (a b : Mach) : Option (List Int) := if chk a b = 0 ∧ isoOk a b then some (isoT a b) else none
theorem isoW_err {a b : Mach} (h : ¬ chk a b = 0) : isoW a b = none := by unfold isoW; rw [if_neg (fun e => h e.1)]
theorem isoW_no {a b : Mach} (h : ¬ isoOk a b) : isoW a b = none := by unfold isoW; rw [if_neg (fun e => h e.2)]
theorem isoW_yes {a b : Mach} (h : chk a b = 0) (h2 : isoOk a b) : isoW a b = some (isoT a b) := by unfold isoW; rw [if_pos ⟨h, h2⟩]
end Go.Proofs.Ytdnmgiabgpilkaa
