/- States of one class have the same outputs; classes and separating words. Condition: the machine is valid. -/
import Derived.Test.YtdnmgiabgpilkaaMinQ
import Derived.Test.YtdnmgiabgpilkaaFrom
import Derived.Test.YtdnmgiabgpilkaaSep
namespace Go.Proofs.Ytdnmgiabgpilkaa
namespace Mach
variable {m : Mach}
theorem eqv_outs (ok : m.Ok) : ∀ (w : List Int) (k : Nat) (s t : Int), m.eqv k s.toNat t.toNat → w.length ≤ k → m.okS w → m.outsW s w = m.outsW t w
  | [], _, _, _, _, _, _ => rfl
  | x :: w, 0, _, _, _, h, _ => by simp at h
  | x :: w, k + 1, s, t, he, hl, hw => by
    obtain ⟨⟨x0, x1⟩, hw2⟩ := okS_cons hw
    obtain ⟨h1, h2⟩ := he x.toNat (by omega)
    rw [outsW, outsW, h1, eqv_outs ok w k _ _ h2 (by simpa using hl) hw2]
theorem cls_iff (ok : m.Ok) {k s t : Nat} {l : List Int} (hl : l = m.partOf k) (hs : s < m.next.length) (ht : t < m.next.length) {x y : Int} (hx : l[s]? = some x) (hy : l[t]? = some y) : x = y ↔ m.sepB k s t = false := by
  have e : m.partOf k = m.part (min k m.next.length) := by
    unfold partOf
    rw [if_pos (m.err_of_ok ok)]
    simp
  rw [e] at hl
  have h1 : x = (m.part (min k m.next.length)).getD s 0 := by rw [← hl]; exact (getD_of_some hx).symm
  have h2 : y = (m.part (min k m.next.length)).getD t 0 := by rw [← hl]; exact (getD_of_some hy).symm
  rw [h1, h2, part_iff ok _ s t hs ht, sepB_iff]
  rcases Nat.le_total k m.next.length with h | h
  · rw [Nat.min_eq_left h]
  · rw [Nat.min_eq_right h]; exact (eqv_rest ok h hs ht).symm
end Mach
end Go.Proofs.Ytdnmgiabgpilkaa
