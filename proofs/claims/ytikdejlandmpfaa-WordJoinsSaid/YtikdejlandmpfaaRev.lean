/- slices.Reverse of a list of numbers that the call owns. No condition. -/
import Derived.Test.YtikdejlandmpfaaOps
import Derived.RegionTactic
import Derived.Shelf.RegionOpenPlain
namespace Go.Proofs.Ytikdejlandmpfaa
open Go.RowKit
/-- i rounds of the exchange from the two ends. -/
def revAt (l : List Int) (i : Nat) : List Int := (List.range l.length).map fun k => if k < i ∨ l.length - i ≤ k then l.getD (l.length - 1 - k) 0 else l.getD k 0
theorem revAt_len (l : List Int) (i : Nat) : (revAt l i).length = l.length := by simp [revAt]
theorem revAt_get {l : List Int} {i k : Nat} (hk : k < l.length) : (revAt l i)[k]? = some (if k < i ∨ l.length - i ≤ k then l.getD (l.length - 1 - k) 0 else l.getD k 0) := by
  unfold revAt; rw [List.getElem?_map, List.getElem?_range hk]; rfl
theorem revAt_zero (l : List Int) : revAt l 0 = l := by
  apply List.ext_getElem?
  intro k
  by_cases hk : k < l.length
  · rw [revAt_get hk, if_neg (by omega), List.getElem?_eq_getElem hk]; simp [List.getD, hk]
  · rw [List.getElem?_eq_none (by rw [revAt_len]; omega), List.getElem?_eq_none (by omega)]
theorem revAt_end {l : List Int} {i : Nat} (h : l.length ≤ 2 * i + 1) : revAt l i = l.reverse := by
  apply List.ext_getElem?
  intro k
  by_cases hk : k < l.length
  · rw [revAt_get hk, List.getElem?_reverse hk]
    have hk2 : l.length - 1 - k < l.length := by omega
    rw [List.getElem?_eq_getElem hk2]
    split
    · simp [List.getD, hk2]
    · have : l.length - 1 - k = k := by omega
      simp only [this]; simp [List.getD, hk]
  · rw [List.getElem?_eq_none (by rw [revAt_len]; omega), List.getElem?_eq_none (by simp; omega)]
theorem revAt_step {l : List Int} {i j : Nat} {x y : Int} (hij : i < j) (hj : i + j + 1 = l.length) (hx : (revAt l i)[i]? = some x) (hy : (revAt l i)[j]? = some y) : ((revAt l i).set i y).set j x = revAt l (i + 1) := by
  have h1 : x = l.getD i 0 := by rw [revAt_get (by omega), if_neg (by omega)] at hx; simpa using hx.symm
  have h2 : y = l.getD j 0 := by rw [revAt_get (by omega), if_neg (by omega)] at hy; simpa using hy.symm
  apply List.ext_getElem?
  intro k
  by_cases hk : k < l.length
  · rw [revAt_get hk, List.getElem?_set, List.getElem?_set, List.length_set, revAt_len]
    by_cases e1 : j = k
    · subst e1
      rw [if_pos rfl, if_pos hk, if_pos (by omega), h1]
      congr 2; omega
    · rw [if_neg e1]
      by_cases e2 : i = k
      · subst e2
        rw [if_pos rfl, if_pos hk, if_pos (by omega), h2]
        congr 2; omega
      · rw [if_neg e2, revAt_get hk]
        by_cases e3 : k < i ∨ l.length - i ≤ k
        · rw [if_pos e3, if_pos (by omega)]
        · rw [if_neg e3, if_neg (by omega)]
  · rw [List.getElem?_eq_none (by simp [revAt_len]; omega), List.getElem?_eq_none (by rw [revAt_len]; omega)]
section
variable {B : Nat} {w : World} {a : Option Addr} {c : Nat}
set_option maxHeartbeats 4000000 in
theorem rev_own {l : List Int} (h : Ow B (fun k => B ≤ k) w 3 (.slice a l.length c) l) :
    Calls Try.prog 60 #[.slice a l.length c] w fun e w' => e = .returned (.tuple #[]) ∧ Ow B (fun k => B ≤ k) w' 3 (.slice a l.length c) l.reverse ∧ Below B w w' := by
  have hll := h.le
  have h0 : Hid (l = revAt l 0) := (revAt_zero l).symm
  have hb0 := Below.refl B w
  go_enter Try.func60, Try.ntmps60
  go_wp2
  go_loopw [2, 3] (fun s2 s3 wr => ∃ (i : Nat) (z : Int) (lst : List Int), s2 = .int .i64 i ∧ s3 = .int .i64 z ∧ z + i + 1 ≤ l.length ∧ (l.length : Int) ≤ z + i + 1 ∧ i ≤ l.length ∧ Hid (lst = revAt l i) ∧ Ow B (fun k => B ≤ k) wr 3 (.slice a l.length c) lst ∧ Below B w wr) (fun s2 _ _ => l.length - (intOf s2).toNat)
  case atStart => exact ⟨0, (l.length : Int) - 1, l, rfl, rfl, by omega, by omega, by omega, h0, h, hb0⟩
  case round =>
    clear h h0 hb0
    obtain ⟨i, z, lst, rfl, rfl, hz1, hz2, hi, hl, hO, hB⟩ := hrel
    obtain ⟨w1, rfl⟩ : ∃ w1 : World, w1 = wr := ⟨_, rfl⟩
    have hlen : Hid (l.length = lst.length) := by unfold Hid; rw [hl.out, revAt_len]
    by_cases hlt : (i : Int) < z
    · obtain ⟨j, rfl⟩ := Int.eq_ofNat_of_zero_le (show 0 ≤ z by omega)
      obtain ⟨g, x, rfl, hc, hf, hx, hxi⟩ := hO.at_int' hlen.out (j := i) (by have := hlen.out; omega)
      obtain ⟨g', y, hgg, hc2, hf2, hy, hyi⟩ := hO.at_int' hlen.out (j := j) (by have := hlen.out; omega)
      obtain rfl : g = g' := by simpa using hgg
      clear hgg
      have hg := (hO.lt g rfl).1
      have hil : i < l.length := by omega
      have hjl : j < l.length := by omega
      have hne : i ≠ j := by omega
      have HO := Lib.hid hO
      have HB := Lib.hid hB
      clear hO hB
      go_wp2_with fail
      go_region
      go_wp2
      go_roundw
      case rel =>
        have h2 := HO.out.set_int (x := y) hlen.out hg i hyi.out
        have h3 := (h2.set_int (x := x) (by have := hlen.out; simpa using this) hg j hxi.out).drew
        have e : Hid ((lst.set i y).set j x = revAt l (i + 1)) := by
          unfold Hid
          have hx' := hx.out
          have hy' := hy.out
          rw [hl.out] at hx' hy' ⊢
          exact revAt_step (by omega) (by omega) hx' hy'
        exact ⟨i + 1, (j : Int) - 1, _, by go_num, rfl, by omega, by omega, by omega, e, h3, ((HB.out.setCell (p := ⟨g, i, none⟩) hg _).setCell (p := ⟨g, j, none⟩) hg _).drew⟩
      case measure => simp [intOf]; omega
    · have e : Hid (lst = l.reverse) := by unfold Hid; rw [hl.out, revAt_end (by omega)]
      have hO2 : Ow B (fun k => B ≤ k) w1 3 (.slice a l.length c) l.reverse := by rw [← e.out]; exact hO
      go_wp2
      go_end0
      exact ⟨rfl, hO2, hB⟩
end
end Go.Proofs.Ytikdejlandmpfaa
