/- The four cells of a boxed machine, and how they are kept. No condition. -/
import Derived.Test.YtdnmgiabgpilkaaBase
namespace Go.Proofs.Ytdnmgiabgpilkaa
open Go.RowKit

/-- Block b holds the machine's four cells. -/
abbrev C4 (w : World) (b : Nat) (an : Option Addr) (cn : Nat) (ao : Option Addr) (co : Nat) (m : Mach) : Prop :=
  w.cell? ⟨b, 0, none⟩ = some (.int .i64 m.inputs) ∧ w.cell? ⟨b, 1, none⟩ = some (.int .i64 m.start) ∧ w.cell? ⟨b, 2, none⟩ = some (.slice an m.next.length cn) ∧ w.cell? ⟨b, 3, none⟩ = some (.slice ao m.out.length co)
/-- The object that boxes a machine. -/
abbrev maO (m : Mach) (an : Option Addr) (cn : Nat) (ao : Option Addr) (co : Nat) : Obj := .cells #[.int .i64 m.inputs, .int .i64 m.start, .slice an m.next.length cn, .slice ao m.out.length co] 24

section
variable {B b : Nat} {w w' : World} {an ao : Option Addr} {cn co : Nat} {m : Mach}
theorem c4_new (w : World) : C4 (w.alloc (maO m an cn ao co)) w.heap.size an cn ao co m := by
  refine ⟨?_, ?_, ?_, ?_⟩ <;> simp
theorem C4.below (h : C4 w b an cn ao co m) (hb : Below B w w') (hlt : b < B) : C4 w' b an cn ao co m :=
  ⟨(hb.cell (p := ⟨b, 0, none⟩) hlt).trans h.1, (hb.cell (p := ⟨b, 1, none⟩) hlt).trans h.2.1, (hb.cell (p := ⟨b, 2, none⟩) hlt).trans h.2.2.1, (hb.cell (p := ⟨b, 3, none⟩) hlt).trans h.2.2.2⟩
theorem C4.drew (h : C4 w b an cn ao co m) : C4 w.drew b an cn ao co m := ⟨by simpa using h.1, by simpa using h.2.1, by simpa using h.2.2.1, by simpa using h.2.2.2⟩
end
end Go.Proofs.Ytdnmgiabgpilkaa
