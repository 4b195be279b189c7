/- slices.Clone of a list of numbers. Condition: fewer than 10^12 of them. -/
import Derived.Test.YtlgdijgfphedpaaOps
import Derived.WalkSpells
namespace Go.Proofs.Ytlgdijgfphedpaa
open Go.RowKit
section
variable {M : Nat → Prop} {w : World} {a : Option Addr} {c : Nat} {l : List Int}

theorem clone_own (h : Sl M w a c l) (hl : l.length < 1000000000000) :
    Calls Try.prog 73 #[.slice a l.length c] w fun e w' => ∃ a' c' l', e = .returned (.slice a' l'.length c') ∧ Hid (l' = l) ∧ Ow w.heap.size (fun k => w.heap.size ≤ k) w' 3 (.slice a' l'.length c') l' ∧ Below w.heap.size w w' := by
  have he := fun (w : World) (a : Option Addr) (n c : Nat) => Lib.run_eql_slice_nil (P := Try.prog) w 30 3 a n c 0 0 Try.underlying30
  cases a with
  | none =>
    have h0 : l = [] := by
      cases l with
      | nil => rfl
      | cons x l => obtain ⟨_, _, _, ha, _⟩ := h.at_int (j := 0) (by simp); cases ha
    subst h0
    go_enter Try.func73, Try.ntmps73
    go_wp2
    go_ret
    exact ⟨none, 0, [], rfl, rfl, Ow.nil, Below.refl _ _⟩
  | some ad =>
    go_enter Try.func73, Try.ntmps73
    go_wp2_with (at_builtin; refine wpList_app_ints (B := w.heap.size) (l0 := []) rfl rfl Try.underlying30 info_int rfl rfl (Ow.zero (Nat.le_refl _)) (h.alloc _) (by simpa using hl) (by simp) ?_)
    intro a' c' l' w' hl' hO hb
    go_wp2
    go_ret
    exact ⟨a', c', l', rfl, by simpa using hl', hO, ((Below.refl _ _).alloc (Nat.le_refl _) _).trans hb⟩

theorem clone_any (h : Sl M w a c l) (hl : l.length < 1000000000000) :
    Calls Try.prog 73 #[.slice a l.length c] w fun e w' => ∃ a' c' l', e = .returned (.slice a' l'.length c') ∧ Hid (l' = l) ∧ Sl (fun k => k < w.heap.size) w' a' c' l' ∧ Below w.heap.size w w' :=
  (clone_own h hl).mono fun _ _ ⟨a', c', l', h1, h2, h3, h4⟩ => ⟨a', c', l', h1, h2, h3.fresh (Nat.le_refl _), h4⟩
end
end Go.Proofs.Ytlgdijgfphedpaa
