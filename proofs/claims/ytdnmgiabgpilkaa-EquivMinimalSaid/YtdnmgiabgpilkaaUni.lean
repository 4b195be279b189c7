/- A word that two machines answer differently is found below the sum of their states. Condition: the machines are valid, have the same inputs, and together at most 128 states. -/
import Derived.Test.YtdnmgiabgpilkaaFirstP
namespace Go.Proofs.Ytdnmgiabgpilkaa
namespace Mach
/-- Both machines, side by side. -/
def uni (a b : Mach) : Mach := { inputs := a.inputs, start := 0, next := a.next ++ b.next.map (fun r => r.map fun t => t + (a.next.length : Int)), out := a.out ++ b.out }
section
variable {a b : Mach}
theorem uni_len (a b : Mach) : (uni a b).next.length = a.next.length + b.next.length := by simp [uni]
theorem uni_rowA {s : Nat} (hs : s < a.next.length) : (uni a b).next.getD s [] = a.next.getD s [] := by
  unfold uni; simp only
  rw [List.getD_eq_getElem?_getD, List.getElem?_append_left hs, ← List.getD_eq_getElem?_getD]
theorem uni_rowB {t : Nat} (ht : t < b.next.length) : (uni a b).next.getD (a.next.length + t) [] = (b.next.getD t []).map fun x => x + (a.next.length : Int) := by
  unfold uni; simp only
  rw [List.getD_eq_getElem?_getD, List.getElem?_append_right (by omega), Nat.add_sub_cancel_left, List.getElem?_map, List.getElem?_eq_getElem ht, List.getD_eq_getElem?_getD, List.getElem?_eq_getElem ht]
  rfl
theorem uni_outA (oa : a.Ok) {s : Nat} (hs : s < a.next.length) : (uni a b).out.getD s [] = a.out.getD s [] := by
  unfold uni; simp only
  rw [List.getD_eq_getElem?_getD, List.getElem?_append_left (by rw [oa.lo]; exact hs), ← List.getD_eq_getElem?_getD]
theorem uni_outB (oa : a.Ok) {t : Nat} : (uni a b).out.getD (a.next.length + t) [] = b.out.getD t [] := by
  unfold uni; simp only
  rw [List.getD_eq_getElem?_getD, List.getElem?_append_right (by rw [oa.lo]; omega), oa.lo, Nat.add_sub_cancel_left, ← List.getD_eq_getElem?_getD]
theorem uni_nxA {s : Nat} (hs : s < a.next.length) (x : Nat) : (uni a b).nx s x = a.nx s x := by unfold nx; rw [uni_rowA hs]
theorem uni_nxB (ob : b.Ok) (hi : a.inputs = b.inputs) {t x : Nat} (ht : t < b.next.length) (hx : x < a.inputs.toNat) : (uni a b).nx (a.next.length + t) x = b.nx t x + (a.next.length : Int) := by
  have hl := ob.rn t ht
  unfold nx
  rw [uni_rowB ht, List.getD_eq_getElem?_getD, List.getElem?_map, List.getD_eq_getElem?_getD (l := b.next.getD t []), List.getElem?_eq_getElem (by omega)]
  rfl
theorem uni_ok (oa : a.Ok) (ob : b.Ok) (hi : a.inputs = b.inputs) (hn : a.next.length + b.next.length ≤ 128) : (uni a b).Ok := by
  have n0 := oa.n0
  have hl := uni_len a b
  refine ⟨oa.i0, oa.i1, by omega, by omega, by simp [uni], by rw [hl]; simp only [uni]; omega, by rw [hl]; simp only [uni, List.length_append]; rw [oa.lo, ob.lo], fun s hs => ?_, fun s hs => ?_, fun s x hs hx => ?_, fun s x hs hx => ?_⟩
  · by_cases h : s < a.next.length
    · rw [uni_rowA h]; exact oa.rn s h
    · obtain ⟨t, rfl⟩ : ∃ t, s = a.next.length + t := ⟨s - a.next.length, by omega⟩
      rw [uni_rowB (by omega), List.length_map]
      have := ob.rn t (by omega)
      show ((b.next.getD t []).length : Int) = a.inputs
      omega
  · by_cases h : s < a.next.length
    · rw [uni_outA oa h]; exact oa.ro s h
    · obtain ⟨t, rfl⟩ : ∃ t, s = a.next.length + t := ⟨s - a.next.length, by omega⟩
      rw [uni_outB oa]
      have := ob.ro t (by omega)
      show ((b.out.getD t []).length : Int) = a.inputs
      omega
  · have hx' : x < a.inputs.toNat := hx
    rw [hl]
    by_cases h : s < a.next.length
    · rw [uni_nxA h]; have := oa.nx s x h hx'; omega
    · obtain ⟨t, rfl⟩ : ∃ t, s = a.next.length + t := ⟨s - a.next.length, by omega⟩
      rw [uni_nxB ob hi (by omega) hx']; have := ob.nx t x (by omega) (by omega); omega
  · have hx' : x < a.inputs.toNat := hx
    unfold ot
    by_cases h : s < a.next.length
    · rw [uni_outA oa h]; exact oa.ot s x h hx'
    · obtain ⟨t, rfl⟩ : ∃ t, s = a.next.length + t := ⟨s - a.next.length, by omega⟩
      rw [uni_outB oa]; exact ob.ot t x (by omega) (by omega)
theorem uni_outsA (oa : a.Ok) : ∀ (w : List Int) (s : Int), 0 ≤ s → s < a.next.length → a.okS w → (uni a b).outsW s w = a.outsW s w
  | [], _, _, _, _ => rfl
  | x :: w, s, h0, h1, hw => by
    obtain ⟨⟨x0, x1⟩, hw2⟩ := okS_cons hw
    have hr := oa.nx s.toNat x.toNat (by omega) (by omega)
    unfold outsW
    rw [uni_nxA (by omega), uni_outsA oa w _ hr.1 hr.2 hw2]
    congr 1
    unfold ot
    rw [uni_outA oa (by omega)]
theorem uni_outsB (oa : a.Ok) (ob : b.Ok) (hi : a.inputs = b.inputs) : ∀ (w : List Int) (t : Int), 0 ≤ t → t < b.next.length → a.okS w → (uni a b).outsW ((a.next.length : Int) + t) w = b.outsW t w
  | [], _, _, _, _ => rfl
  | x :: w, t, h0, h1, hw => by
    obtain ⟨⟨x0, x1⟩, hw2⟩ := okS_cons hw
    have hr := ob.nx t.toNat x.toNat (by omega) (by omega)
    have e : ((a.next.length : Int) + t).toNat = a.next.length + t.toNat := by omega
    unfold outsW
    rw [e, uni_nxB ob hi (by omega) (by omega), Int.add_comm (b.nx _ _), uni_outsB oa ob hi w _ hr.1 hr.2 hw2]
    congr 1
    unfold ot
    rw [uni_outB oa]
end
end Mach
theorem Best.len {a b : Mach} {s t : Int} {v : List Int} (h : Best a b s t v) (oa : a.Ok) (ob : b.Ok) (hi : a.inputs = b.inputs) (hs : 0 ≤ s ∧ s < a.next.length) (ht : 0 ≤ t ∧ t < b.next.length) (hn : a.next.length + b.next.length ≤ 128) :
    v.length < a.next.length + b.next.length := by
  by_cases e : v.length < a.next.length + b.next.length
  · exact e
  · exfalso
    have ou := Mach.uni_ok oa ob hi hn
    have hl := Mach.uni_len a b
    have hu : ∀ w, (Mach.uni a b).okS w → a.okS w := fun w hw => hw
    have h1 : (Mach.uni a b).eqv (a.next.length + b.next.length - 1) s.toNat ((a.next.length : Int) + t).toNat := by
      refine Mach.eqv_of_words _ _ _ fun w hw hlw => ?_
      rw [Mach.uni_outsA oa w s hs.1 hs.2 (hu w hw), Mach.uni_outsB oa ob hi w t ht.1 ht.2 (hu w hw)]
      have n0 := oa.n0
      exact h.2 w (hu w hw) (by rw [cmp_short (by omega)]; decide)
    obtain ⟨d, hd⟩ := (Mach.uni a b).steps_exists (Mach.uni a b).next.length
    obtain ⟨h2, h3⟩ := hd.rest ou (by omega)
    have h4 := (Mach.part_iff ou _ s.toNat ((a.next.length : Int) + t).toNat (by omega) (by omega)).2 h1
    rw [h3 (a.next.length + b.next.length - 1) (by omega), ← h3 v.length (by omega)] at h4
    have h5 := (Mach.part_iff ou _ s.toNat ((a.next.length : Int) + t).toNat (by omega) (by omega)).1 h4
    have h6 := Mach.eqv_outs ou v v.length s ((a.next.length : Int) + t) h5 (Nat.le_refl _) h.1.1
    rw [Mach.uni_outsA oa v s hs.1 hs.2 h.1.1, Mach.uni_outsB oa ob hi v t ht.1 ht.2 h.1.1] at h6
    exact h.1.2 h6
/-- What is ahead of the last symbol is answered alike; the last is not. -/
theorem Best.last {a b : Mach} {s t : Int} {v : List Int} (h : Best a b s t v) : ∃ p q y z, v ≠ [] ∧ a.outsW s v = p ++ [y] ∧ b.outsW t v = q ++ [z] ∧ p = q ∧ y ≠ z ∧ p.length + 1 = v.length := by
  have hne : v ≠ [] := fun e => h.1.2 (by rw [e]; rfl)
  obtain ⟨u, x, rfl⟩ : ∃ u x, v = u ++ [x] := ⟨v.dropLast, v.getLast hne, (List.dropLast_concat_getLast _).symm⟩
  have hu := h.2 u (Mach.okS_app h.1.1).1 (by rw [cmp_short (by simp)]; decide)
  refine ⟨_, _, _, _, hne, Mach.outsW_snoc _ _ _ _, Mach.outsW_snoc _ _ _ _, hu, fun e => h.1.2 ?_, by rw [Mach.outsW_len]; simp⟩
  rw [Mach.outsW_snoc, Mach.outsW_snoc, hu, e]
end Go.Proofs.Ytdnmgiabgpilkaa
