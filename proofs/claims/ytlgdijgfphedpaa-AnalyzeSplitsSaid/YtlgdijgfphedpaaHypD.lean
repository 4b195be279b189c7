/- Traces, observations and hypotheses in memory; parts of slices. No condition. -/
import Derived.Test.YtlgdijgfphedpaaC4
import Derived.Test.YtlgdijgfphedpaaOwn
import Derived.Test.YtlgdijgfphedpaaOuts
namespace Go.Proofs.Ytlgdijgfphedpaa
open Go.RowKit

/-- A trace. -/
structure Tr where
  inn : List Int
  out : List Int
  deriving DecidableEq

instance : GR Tr where
  sz := 2
  rep M w cs t := ∃ a c a' c', cs = [.slice a t.inn.length c, .slice a' t.out.length c'] ∧ Sl M w a c t.inn ∧ Sl M w a' c' t.out
  len h := by obtain ⟨a, c, a', c', h, _⟩ := h; rw [h]; rfl
  ext e h := by obtain ⟨a, c, a', c', h, h1, h2⟩ := h; exact ⟨a, c, a', c', h, h1.ext e, h2.ext e⟩

/-- Observations. -/
structure Ob where
  inputs : Int
  traces : List Tr
  deriving DecidableEq

/-- A hypothesis. -/
structure Hy where
  m : Mach
  acc : List (List Int)
  deriving DecidableEq

/-- A split. -/
structure Sp where
  pre : List Int
  sym : Int
  suf : List Int
  deriving DecidableEq

theorem Sl.at_tr {M : Nat → Prop} {w : World} {a : Option Addr} {c : Nat} {l : List Tr} (h : Sl M w a c l) {j : Nat} (hj : j < l.length) :
    ∃ b off a1 c1 a2 c2 t, a = some ⟨b, off, none⟩ ∧ w.cell? ⟨b, off + j * 2, none⟩ = some (.slice a1 t.inn.length c1) ∧ w.cell? ⟨b, off + j * 2 + 1, none⟩ = some (.slice a2 t.out.length c2) ∧ Hid (l[j]? = some t) ∧
      Sl M w a1 c1 t.inn ∧ Sl M w a2 c2 t.out := by
  obtain ⟨b, off, cs, ha, _, _, ⟨a1, c1, a2, c2, rfl, h1, h2⟩, hc⟩ := h.2.2 j l[j] (by simp [hj])
  refine ⟨b, off, a1, c1, a2, c2, l[j], ha, by simpa [GR.sz] using hc 0 _ rfl, by simpa [GR.sz] using hc 1 _ rfl, by unfold Hid; simp [hj], h1, h2⟩

/-- Observations in memory. -/
structure Os (M : Nat → Prop) (w : World) (a : Option Addr) (c : Nat) (o : Ob) : Prop where
  inputs : i64 o.inputs
  traces : Sl M w a c o.traces
abbrev obV (o : Ob) (a : Option Addr) (c : Nat) : Value := .agg #[.int .i64 o.inputs, .slice a o.traces.length c]

/-- A hypothesis in memory. -/
structure Hp (M : Nat → Prop) (w : World) (an : Option Addr) (cn : Nat) (ao : Option Addr) (co : Nat) (ac : Option Addr) (cc : Nat) (h : Hy) : Prop where
  m : Ma M w an cn ao co h.m
  acc : Sl M w ac cc h.acc
abbrev hyV (h : Hy) (an : Option Addr) (cn : Nat) (ao : Option Addr) (co : Nat) (ac : Option Addr) (cc : Nat) : Value :=
  .agg #[.int .i64 h.m.inputs, .int .i64 h.m.start, .slice an h.m.next.length cn, .slice ao h.m.out.length co, .slice ac h.acc.length cc]
abbrev trV (t : Tr) (a : Option Addr) (c : Nat) (a' : Option Addr) (c' : Nat) : Value := .agg #[.slice a t.inn.length c, .slice a' t.out.length c']
abbrev spV (s : Sp) (a : Option Addr) (c : Nat) (a' : Option Addr) (c' : Nat) : Value := .agg #[.slice a s.pre.length c, .int .i64 s.sym, .slice a' s.suf.length c']

section
variable {M M' : Nat → Prop} {w w' : World} {a an ao ac : Option Addr} {c cn co cc : Nat} {o : Ob} {h : Hy}
theorem Os.ext (e : Ext M M' w w') (h : Os M w a c o) : Os M' w' a c o := ⟨h.inputs, h.traces.ext e⟩
theorem Os.below (h : Os M w a c o) (hb : Below w.heap.size w w') : Os M w' a c o := h.ext (Ext.of_below hb)
theorem Hp.ext (e : Ext M M' w w') (k : Hp M w an cn ao co ac cc h) : Hp M' w' an cn ao co ac cc h := ⟨k.m.ext e, k.acc.ext e⟩
theorem Hp.below (k : Hp M w an cn ao co ac cc h) (hb : Below w.heap.size w w') : Hp M w' an cn ao co ac cc h := k.ext (Ext.of_below hb)
end

/-- Block b holds observations. -/
abbrev obO (o : Ob) (a : Option Addr) (c : Nat) : Obj := .cells #[.int .i64 o.inputs, .slice a o.traces.length c] 29
abbrev O2 (w : World) (b : Nat) (a : Option Addr) (c : Nat) (o : Ob) : Prop := w.cell? ⟨b, 0, none⟩ = some (.int .i64 o.inputs) ∧ w.cell? ⟨b, 1, none⟩ = some (.slice a o.traces.length c)
/-- Block b holds a hypothesis. -/
abbrev hyO (h : Hy) (an : Option Addr) (cn : Nat) (ao : Option Addr) (co : Nat) (ac : Option Addr) (cc : Nat) : Obj := .cells #[.int .i64 h.m.inputs, .int .i64 h.m.start, .slice an h.m.next.length cn, .slice ao h.m.out.length co, .slice ac h.acc.length cc] 26
abbrev H5 (w : World) (b : Nat) (an : Option Addr) (cn : Nat) (ao : Option Addr) (co : Nat) (ac : Option Addr) (cc : Nat) (h : Hy) : Prop := C4 w b an cn ao co h.m ∧ w.cell? ⟨b, 4, none⟩ = some (.slice ac h.acc.length cc)
/-- Block b holds a trace. -/
abbrev trO (t : Tr) (a : Option Addr) (c : Nat) (a' : Option Addr) (c' : Nat) : Obj := .cells #[.slice a t.inn.length c, .slice a' t.out.length c'] 61
abbrev T2 (w : World) (b : Nat) (a : Option Addr) (c : Nat) (a' : Option Addr) (c' : Nat) (t : Tr) : Prop := w.cell? ⟨b, 0, none⟩ = some (.slice a t.inn.length c) ∧ w.cell? ⟨b, 1, none⟩ = some (.slice a' t.out.length c')
/-- Block b holds a split. -/
abbrev spO (s : Sp) (a : Option Addr) (c : Nat) (a' : Option Addr) (c' : Nat) : Obj := .cells #[.slice a s.pre.length c, .int .i64 s.sym, .slice a' s.suf.length c'] 35
abbrev S3 (w : World) (b : Nat) (a : Option Addr) (c : Nat) (a' : Option Addr) (c' : Nat) (s : Sp) : Prop := w.cell? ⟨b, 0, none⟩ = some (.slice a s.pre.length c) ∧ w.cell? ⟨b, 1, none⟩ = some (.int .i64 s.sym) ∧ w.cell? ⟨b, 2, none⟩ = some (.slice a' s.suf.length c')

section
variable {B b : Nat} {w w' : World} {an ao ac a a' : Option Addr} {cn co cc c c' : Nat} {h : Hy} {o : Ob} {t : Tr} {s : Sp}
theorem o2_new (w : World) : O2 (w.alloc (obO o a c)) w.heap.size a c o := by refine ⟨?_, ?_⟩ <;> simp
theorem O2.below (h : O2 w b a c o) (hb : Below B w w') (hlt : b < B) : O2 w' b a c o := ⟨(hb.cell (p := ⟨b, 0, none⟩) hlt).trans h.1, (hb.cell (p := ⟨b, 1, none⟩) hlt).trans h.2⟩
theorem h5_new (w : World) : H5 (w.alloc (hyO h an cn ao co ac cc)) w.heap.size an cn ao co ac cc h := by refine ⟨⟨?_, ?_, ?_, ?_⟩, ?_⟩ <;> simp
theorem H5.below (k : H5 w b an cn ao co ac cc h) (hb : Below B w w') (hlt : b < B) : H5 w' b an cn ao co ac cc h := ⟨k.1.below hb hlt, (hb.cell (p := ⟨b, 4, none⟩) hlt).trans k.2⟩
theorem t2_new (w : World) : T2 (w.alloc (trO t a c a' c')) w.heap.size a c a' c' t := by refine ⟨?_, ?_⟩ <;> simp
theorem T2.below (h : T2 w b a c a' c' t) (hb : Below B w w') (hlt : b < B) : T2 w' b a c a' c' t := ⟨(hb.cell (p := ⟨b, 0, none⟩) hlt).trans h.1, (hb.cell (p := ⟨b, 1, none⟩) hlt).trans h.2⟩
theorem s3_new (w : World) : S3 (w.alloc (spO s a c a' c')) w.heap.size a c a' c' s := by refine ⟨?_, ?_, ?_⟩ <;> simp
theorem S3.below (h : S3 w b a c a' c' s) (hb : Below B w w') (hlt : b < B) : S3 w' b a c a' c' s := ⟨(hb.cell (p := ⟨b, 0, none⟩) hlt).trans h.1, (hb.cell (p := ⟨b, 1, none⟩) hlt).trans h.2.1, (hb.cell (p := ⟨b, 2, none⟩) hlt).trans h.2.2⟩
end

/-- Where a slice from i on lies. -/
def dA (a : Option Addr) (c i : Nat) : Option Addr := if c = i then a else a.map (·.add i)
theorem Sl.drop {M : Nat → Prop} {w : World} {a : Option Addr} {c : Nat} {l : List Int} (h : Sl M w a c l) {i : Nat} (hi : i ≤ l.length) : Sl M w (dA a c i) (c - i) (l.drop i) := by
  refine ⟨by have := h.1; rw [List.length_drop]; omega, by have := h.2.1; omega, fun j x hj => ?_⟩
  have hj2 : l[i + j]? = some x := by rw [List.getElem?_drop] at hj; exact hj
  have hjl : i + j < l.length := by
    by_cases e : i + j < l.length
    · exact e
    · rw [List.getElem?_eq_none (by omega)] at hj2; simp at hj2
  obtain ⟨b, off, cs, ha, hb, hm, hr, hc⟩ := h.2.2 (i + j) x hj2
  refine ⟨b, off + i, cs, ?_, hb, hm, hr, fun k u hk => ?_⟩
  · have := h.1
    unfold dA
    rw [if_neg (by omega), ha]
    simp only [Option.map_some, Addr.add]
    split
    · rename_i h0; subst h0; rfl
    · rfl
  · have := hc k u hk
    have e : off + i + j * GR.sz Int + k = off + (i + j) * GR.sz Int + k := by simp only [GR.sz]; omega
    rw [e]; exact this
theorem Sl.taken {α : Type} [GR α] {M : Nat → Prop} {w : World} {a : Option Addr} {c : Nat} {l : List α} (h : Sl M w a c l) {n : Nat} (hn : n ≤ l.length) : Sl M w a c (l.take n) := by
  refine ⟨by have := h.1; rw [List.length_take]; omega, h.2.1, fun j x hj => h.2.2 j x ?_⟩
  rw [List.getElem?_take] at hj
  split at hj
  · exact hj
  · simp at hj
end Go.Proofs.Ytlgdijgfphedpaa
