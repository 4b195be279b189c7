/- Lex, HasPrefix of the program; HasPrefix, Same, Compare of the reference. No condition. -/
import Derived.Test.YtlgdijgfphedpaaCom
namespace Go.Proofs.Ytlgdijgfphedpaa
open Go.RowKit
theorem com_all {xs ys : List Int} (hl : xs.length = ys.length) : comW xs ys = xs.length ↔ xs = ys := by
  rw [hl, comW_prefix]
  constructor
  · intro h; exact (h.eq_of_length hl.symm).symm
  · rintro rfl; exact List.prefix_refl _
section
variable {M : Nat → Prop} {w : World} {a b : Option Addr} {c d : Nat}

theorem hasp_any {xs ys : List Int} (h1 : Sl M w a c xs) (h2 : Sl M w b d ys) :
    Calls Try.prog 72 #[.slice a xs.length c, .slice b ys.length d] w fun e w' => e = .returned (.bool (decide (comW xs ys = ys.length))) ∧ Hid (∃ n, w' = w.drewN n) := by
  by_cases h : comW xs ys = ys.length
  · rw [decide_eq_true h]
    have hb : (((comW xs ys : Nat) : Int) == ((ys.length : Nat) : Int)) = true := by simp [h]
    have HC := Lib.hid (com_any h1 h2)
    clear h
    go_enter Try.func72, Try.ntmps72
    go_wp2_with fail
    refine (HC.out).mono ?_
    rintro e w1 ⟨rfl, hD⟩
    go_wp2
    go_ret
    exact ⟨rfl, hD⟩
  · rw [decide_eq_false h]
    have hb : (((comW xs ys : Nat) : Int) == ((ys.length : Nat) : Int)) = false := by simp; omega
    have HC := Lib.hid (com_any h1 h2)
    clear h
    go_enter Try.func72, Try.ntmps72
    go_wp2_with fail
    refine (HC.out).mono ?_
    rintro e w1 ⟨rfl, hD⟩
    go_wp2
    go_ret
    exact ⟨rfl, hD⟩
theorem haspR_any {xs ys : List Int} (h1 : Sl M w a c xs) (h2 : Sl M w b d ys) :
    Calls Try.prog 57 #[.slice a xs.length c, .slice b ys.length d] w fun e w' => e = .returned (.bool (decide (comW xs ys = ys.length))) ∧ Hid (∃ n, w' = w.drewN n) := by
  by_cases h : comW xs ys = ys.length
  · rw [decide_eq_true h]
    have hb : (((comW xs ys : Nat) : Int) == ((ys.length : Nat) : Int)) = true := by simp [h]
    have HC := Lib.hid (comR_any h1 h2)
    clear h
    go_enter Try.func57, Try.ntmps57
    go_wp2_with fail
    refine (HC.out).mono ?_
    rintro e w1 ⟨rfl, hD⟩
    go_wp2
    go_ret
    exact ⟨rfl, hD⟩
  · rw [decide_eq_false h]
    have hb : (((comW xs ys : Nat) : Int) == ((ys.length : Nat) : Int)) = false := by simp; omega
    have HC := Lib.hid (comR_any h1 h2)
    clear h
    go_enter Try.func57, Try.ntmps57
    go_wp2_with fail
    refine (HC.out).mono ?_
    rintro e w1 ⟨rfl, hD⟩
    go_wp2
    go_ret
    exact ⟨rfl, hD⟩

theorem same1_any {xs ys : List Int} (h1 : Sl M w a c xs) (h2 : Sl M w b d ys) :
    Calls Try.prog 14 #[.slice a xs.length c, .slice b ys.length d] w fun e w' => e = .returned (.bool (decide (xs = ys))) ∧ Hid (∃ n, w' = w.drewN n) := by
  have hD0 : Hid (∃ n, w = w.drewN n) := ⟨0, rfl⟩
  by_cases hl : xs.length = ys.length
  · have hlb : (((xs.length : Nat) : Int) == ((ys.length : Nat) : Int)) = true := by simp [hl]
    have HC := Lib.hid (comR_any h1 h2)
    have HA := Lib.hid (com_all hl)
    by_cases h : xs = ys
    · rw [decide_eq_true h]
      have hb : (((comW xs ys : Nat) : Int) == ((xs.length : Nat) : Int)) = true := by have := HA.out.2 h; simp [this]
      clear h hl
      go_enter Try.func14, Try.ntmps14
      go_wp2_with fail
      refine (HC.out).mono ?_
      rintro e w1 ⟨rfl, hD⟩
      go_wp2
      go_ret
      exact ⟨rfl, hD⟩
    · rw [decide_eq_false h]
      have hb : (((comW xs ys : Nat) : Int) == ((xs.length : Nat) : Int)) = false := by
        have h3 : ¬ comW xs ys = xs.length := fun e => h (HA.out.1 e)
        simp; omega
      clear h hl
      go_enter Try.func14, Try.ntmps14
      go_wp2_with fail
      refine (HC.out).mono ?_
      rintro e w1 ⟨rfl, hD⟩
      go_wp2
      go_ret
      exact ⟨rfl, hD⟩
  · have hlb : (((xs.length : Nat) : Int) == ((ys.length : Nat) : Int)) = false := by simp; omega
    rw [decide_eq_false (fun e => hl (by rw [e]))]
    clear hl
    go_enter Try.func14, Try.ntmps14
    go_wp2
    go_ret
    exact ⟨rfl, hD0⟩
end
end Go.Proofs.Ytlgdijgfphedpaa
