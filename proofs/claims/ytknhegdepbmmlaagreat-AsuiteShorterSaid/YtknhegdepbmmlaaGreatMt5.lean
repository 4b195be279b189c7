/- Several texts, one behind the other. Conditions: as each of them says. -/
import Derived.Test.YtknhegdepbmmlaaGreatMt4
import Derived.ChangeSlices
/- Lists of numbers, lists of lists and the struct of chapter 1 that come in. No condition. -/
namespace Go.Proofs.YtknhegdepbmmlaaGreat
open Go.RowKit Go.Joins Go.ChangeShapes Go.WideShapes Go.Deep
section
variable {H : Type} {enc : TypeId × Value → H} {w : World} {held : Bool} {fuel : Nat} {cs : List Value} {x : DataW H × List MemPlace}
set_option maxRecDepth 100000 in
theorem open_srows {r : Reach} {b0 : Nat} {v : Value} {d : DataW H} {p : List MemPlace} (hv : Value.okWide Tryz.prog w r b0 22 v) (h : DataW.Trod enc Tryz.prog w 0 (fun _ => true) held 22 v d p) :
    ∃ (a : Option Addr) (c : Nat) (l : List (List Int)), v = .slice a l.length c ∧ Sl (fun _ => False) w a c l := by
  obtain ⟨a0, n0, c0, rfl⟩ := okWide_slice Tryz.underlying22 hv
  obtain ⟨m, hm⟩ := h
  obtain ⟨a, c, l, h1, h2⟩ := sl_rows_of hm
  refine ⟨a, c, l, ?_, h2⟩
  simpa [Value.cells] using h1
end
end Go.Proofs.YtknhegdepbmmlaaGreat
