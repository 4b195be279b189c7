/- The outputs of a machine for a word, and the state behind it. Condition where named: the machine is valid, the symbols are its own. -/
import Derived.Test.YtlgdijgfphedpaaPlain
namespace Go.Proofs.Ytlgdijgfphedpaa
namespace Mach
variable (m : Mach)
def outsW : Int → List Int → List Int
  | _, [] => []
  | s, x :: w => m.ot s.toNat x.toNat :: outsW (m.nx s.toNat x.toNat) w
def endW : Int → List Int → Int
  | s, [] => s
  | s, x :: w => endW (m.nx s.toNat x.toNat) w
theorem outsW_len : ∀ (w : List Int) (s : Int), (m.outsW s w).length = w.length
  | [], _ => rfl
  | x :: w, s => by simp [outsW, outsW_len w]
theorem endW_app : ∀ (w v : List Int) (s : Int), m.endW s (w ++ v) = m.endW (m.endW s w) v
  | [], _, _ => rfl
  | x :: w, v, s => by simp [endW, endW_app w]
theorem outsW_app : ∀ (w v : List Int) (s : Int), m.outsW s (w ++ v) = m.outsW s w ++ m.outsW (m.endW s w) v
  | [], _, _ => rfl
  | x :: w, v, s => by simp [outsW, endW, outsW_app w]
theorem endW_snoc (w : List Int) (x s : Int) : m.endW s (w ++ [x]) = m.nx (m.endW s w).toNat x.toNat := by rw [endW_app]; rfl
theorem outsW_snoc (w : List Int) (x s : Int) : m.outsW s (w ++ [x]) = m.outsW s w ++ [m.ot (m.endW s w).toNat x.toNat] := by rw [outsW_app]; rfl
/-- The symbols of a word of the machine. -/
def okS (w : List Int) : Prop := ∀ x ∈ w, 0 ≤ x ∧ x < m.inputs
variable {m}
theorem okS_cons {x : Int} {w : List Int} (h : m.okS (x :: w)) : (0 ≤ x ∧ x < m.inputs) ∧ m.okS w := ⟨h x (by simp), fun y hy => h y (by simp [hy])⟩
theorem okS_app {v w : List Int} (h : m.okS (v ++ w)) : m.okS v ∧ m.okS w := ⟨fun y hy => h y (by simp [hy]), fun y hy => h y (by simp [hy])⟩
theorem okS_take {w : List Int} (h : m.okS w) (k : Nat) : m.okS (w.take k) := fun y hy => h y (List.mem_of_mem_take hy)
theorem okS_drop {w : List Int} (h : m.okS w) (k : Nat) : m.okS (w.drop k) := fun y hy => h y (List.mem_of_mem_drop hy)
theorem endW_range (ok : m.Ok) : ∀ (w : List Int) (s : Int), 0 ≤ s → s < m.next.length → m.okS w → 0 ≤ m.endW s w ∧ m.endW s w < m.next.length
  | [], s, h0, h1, _ => ⟨h0, h1⟩
  | x :: w, s, h0, h1, h => by
    obtain ⟨⟨x0, x1⟩, hw⟩ := okS_cons h
    have := ok.nx s.toNat x.toNat (by omega) (by omega)
    exact endW_range ok w _ this.1 this.2 hw
theorem take_step {w : List Int} {k : Nat} {x : Int} (h : w[k]? = some x) : w.take (k + 1) = w.take k ++ [x] := by rw [List.take_add_one, h]; rfl
end Mach
end Go.Proofs.Ytlgdijgfphedpaa
