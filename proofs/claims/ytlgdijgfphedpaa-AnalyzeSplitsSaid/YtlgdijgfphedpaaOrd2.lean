/- Two operations of a region that may come up. No condition. -/
import Derived.Test.YtlgdijgfphedpaaOrd
namespace Go.Proofs.Ytlgdijgfphedpaa
section
variable {P : Program} {Q : Exit → Act → World → Prop} {md : Region.Mode} {S : World → Prop} {L : List Nat}
/-- Two that may come up. -/
theorem wpAnyL_2 {l ri rj : List Oper} {i j : Nat} {oi oj : Oper} {fuel : Nat} {listed : Array Bool} {a : Act} {w : World} (hr : Region.ready md l.toArray listed = [i, j]) (hoi : l.drop i = oi :: ri) (hoj : l.drop j = oj :: rj)
    (hwi : Region.wanted oi (yielded l.toArray a.tmps) = true) (hwj : Region.wanted oj (yielded l.toArray a.tmps) = true)
    (hi : ∀ K : Act → World → Prop, (∀ a' w', (waits md l.toArray L i = false → S w') → wpAnyL P md l.toArray Q S L fuel (listed.setIfInBounds i true) a' w' → K a' w') → oi.wp P a w K Q)
    (hj : ∀ K : Act → World → Prop, (∀ a' w', (waits md l.toArray L j = false → S w') → wpAnyL P md l.toArray Q S L fuel (listed.setIfInBounds j true) a' w' → K a' w') → oj.wp P a w K Q) :
    wpAnyL P md l.toArray Q S L (fuel + 1) listed a w := by
  refine ⟨(fun h0 => by rw [h0] at hr; cases hr), (fun k hk => ?_)⟩
  rw [hr] at hk
  rcases List.mem_cons.1 hk with rfl | hk
  · unfold wpOp
    simp only [at_of_drop hoi, hwi, if_true]
    exact .inl (hi _ fun a' w' hS hrest => ⟨hS, hrest⟩)
  · obtain rfl : k = j := by simpa using hk
    unfold wpOp
    simp only [at_of_drop hoj, hwj, if_true]
    exact .inl (hj _ fun a' w' hS hrest => ⟨hS, hrest⟩)
end
end Go.Proofs.Ytlgdijgfphedpaa
