/- Lists of numbers, lists of lists and the struct of chapter 1 that come in. No condition. -/
import Derived.Test.YtlgdijgfphedpaaOpen
import Derived.ChangeSlices
namespace Go.Proofs.Ytlgdijgfphedpaa
open Go.RowKit Go.Joins Go.ChangeShapes Go.WideShapes Go.Deep
section
variable {H : Type} {enc : TypeId × Value → H} {w : World} {held : Bool} {fuel : Nat} {cs : List Value} {x : DataW H × List MemPlace}
set_option maxRecDepth 100000 in
theorem sl_ints_of (h : DataW.trod enc Try.prog w 0 (fun _ => true) held fuel 30 cs = some x) : ∃ (a : Option Addr) (c : Nat) (l : List Int), cs = [.slice a l.length c] ∧ Sl (fun _ => False) w a c l := by
  rcases open_ints Try.underlying30 Try.underlying3 (by kernel_rfl) h with ⟨rfl, _⟩ | ⟨a, len, cap, zs, rfl, _, hl, hm, hz, _, hr, hw⟩
  · exact ⟨none, 0, [], rfl, Sl.nil _ _ _ (by unfold maxLen; omega)⟩
  · have hz' : zs.length = cap := by simpa using hz
    have e : (zs.take len).length = len := by rw [List.length_take]; omega
    refine ⟨some a, cap, zs.take len, by rw [e], sl_int_of hl hm hz' hw (fun h => by cases h) fun a' ha' c hc => ?_⟩
    obtain rfl : a = a' := by simpa using ha'
    exact hr c (by omega)
set_option maxRecDepth 100000 in
theorem open_sints {r : Reach} {b0 : Nat} {v : Value} {d : DataW H} {p : List MemPlace} (hv : Value.okWide Try.prog w r b0 30 v) (h : DataW.Trod enc Try.prog w 0 (fun _ => true) held 30 v d p) :
    ∃ (a : Option Addr) (c : Nat) (l : List Int), v = .slice a l.length c ∧ Sl (fun _ => False) w a c l := by
  obtain ⟨a0, n0, c0, rfl⟩ := okWide_slice Try.underlying30 hv
  obtain ⟨m, hm⟩ := h
  obtain ⟨a, c, l, h1, h2⟩ := sl_ints_of hm
  refine ⟨a, c, l, ?_, h2⟩
  simpa [Value.cells] using h1
set_option maxRecDepth 100000 in
theorem open_srows {r : Reach} {b0 : Nat} {v : Value} {d : DataW H} {p : List MemPlace} (hv : Value.okWide Try.prog w r b0 22 v) (h : DataW.Trod enc Try.prog w 0 (fun _ => true) held 22 v d p) :
    ∃ (a : Option Addr) (c : Nat) (l : List (List Int)), v = .slice a l.length c ∧ Sl (fun _ => False) w a c l := by
  obtain ⟨a0, n0, c0, rfl⟩ := okWide_slice Try.underlying22 hv
  obtain ⟨m, hm⟩ := h
  obtain ⟨a, c, l, h1, h2⟩ := sl_rows_of hm
  refine ⟨a, c, l, ?_, h2⟩
  simpa [Value.cells] using h1
end
end Go.Proofs.Ytlgdijgfphedpaa
