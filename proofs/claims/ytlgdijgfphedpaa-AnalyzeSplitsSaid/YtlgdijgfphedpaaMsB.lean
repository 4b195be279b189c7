/- Several texts, one behind the other. Conditions: as each of them says. -/
import Derived.Test.YtlgdijgfphedpaaOpen1
import Derived.Test.YtlgdijgfphedpaaHypD
import Derived.Deep.SlicePairs
import Derived.Test.YtlgdijgfphedpaaSrch
import Derived.Test.YtlgdijgfphedpaaChk
import Derived.Deep.CutRange
import Derived.Test.YtlgdijgfphedpaaRowsL
import Derived.Test.YtlgdijgfphedpaaMsA
import Derived.Test.YtlgdijgfphedpaaEqs
/- Hypotheses, observations and splits that come in. No condition. -/
namespace Go.Proofs.Ytlgdijgfphedpaa
open Go.RowKit Go.Joins Go.ChangeShapes Go.WideShapes Go.Deep
section
variable {H : Type} {enc : TypeId × Value → H} {w : World} {held : Bool} {fuel : Nat} {cs : List Value} {x : DataW H × List MemPlace}
theorem array5 {α : Type} {cs : Array α} (h : cs.size = 5) : ∃ c0 c1 c2 c3 c4, cs = #[c0, c1, c2, c3, c4] := by
  obtain ⟨l⟩ := cs
  match l, h with
  | [c0, c1, c2, c3, c4], _ => exact ⟨c0, c1, c2, c3, c4, rfl⟩
theorem cells_il : Try.prog.cellsOf 3 = 1 ∧ Try.prog.cellsOf 30 = 1 ∧ Try.prog.cellsOf 22 = 1 := ⟨by kernel_rfl, by kernel_rfl, by kernel_rfl⟩
set_option maxRecDepth 100000 in
theorem ma_of {c0 c1 c2 c3 : Value} (h : DataW.trod enc Try.prog w 0 (fun _ => true) held fuel 24 [c0, c1, c2, c3] = some x) :
    ∃ m an cn ao co, c0 = .int .i64 m.inputs ∧ c1 = .int .i64 m.start ∧ c2 = .slice an m.next.length cn ∧ c3 = .slice ao m.out.length co ∧ Ma (fun _ => False) w an cn ao co m := by
  obtain ⟨y0, y1, y2, y3, n, -, -, h0, h1, h2, h3⟩ := trod_struct4 Try.underlying24 h
  obtain ⟨k1, k2, k3⟩ := cells_il
  simp only [k1, k3, List.drop_zero, List.drop_succ_cons, List.take_succ_cons, List.take_zero] at h0 h1 h2 h3
  obtain ⟨x0, e0, -, w0⟩ := DataW.trod_int Try.underlying3 h0
  obtain ⟨x1, e1, -, w1⟩ := DataW.trod_int Try.underlying3 h1
  obtain ⟨a2, c2', l2, e2, s2⟩ := sl_rows_of h2
  obtain ⟨a3, c3', l3, e3, s3⟩ := sl_rows_of h3
  simp at e0 e1 e2 e3
  exact ⟨⟨x0, x1, l2, l3⟩, a2, c2', a3, c3', e0, e1, e2, e3, wf_i64 w0, wf_i64 w1, s2, s3⟩
theorem cells_hyp : Try.prog.cellsOf 26 = 5 ∧ Try.prog.cellsOf 24 = 4 := ⟨by kernel_rfl, by kernel_rfl⟩
set_option maxRecDepth 100000 in
theorem open_hyp {r : Reach} {b0 : Nat} {v : Value} {d : DataW H} {p : List MemPlace} (hv : Value.okWide Try.prog w r b0 26 v) (h : DataW.Trod enc Try.prog w 0 (fun _ => true) held 26 v d p) :
    ∃ hy an cn ao co ac cc, v = hyV hy an cn ao co ac cc ∧ Hp (fun _ => False) w an cn ao co ac cc hy := by
  obtain ⟨cs, rfl, hsz⟩ := okWide_struct Try.underlying26 hv
  obtain ⟨c0, c1, c2, c3, c4, rfl⟩ := array5 (hsz.trans cells_hyp.1)
  obtain ⟨fuel, hf⟩ := h
  obtain ⟨y0, y1, n, -, -, h0, h1⟩ := trod_struct2 Try.underlying26 hf
  simp only [Value.cells, cells_hyp.2, cells_il.2.2, List.drop_zero, List.drop_succ_cons, List.take_succ_cons, List.take_zero] at h0 h1
  obtain ⟨m, an, cn, ao, co, rfl, rfl, rfl, rfl, hm⟩ := ma_of h0
  obtain ⟨a4, c4', l4, e4, s4⟩ := sl_rows_of h1
  simp at e4
  subst e4
  exact ⟨⟨m, l4⟩, an, cn, ao, co, a4, c4', rfl, hm, s4⟩
theorem cells_tr : Try.prog.cellsOf 61 = 2 := by kernel_rfl
set_option maxRecDepth 100000 in
theorem sl_trs_of (h : DataW.trod enc Try.prog w 0 (fun _ => true) held fuel 27 cs = some x) : ∃ (a : Option Addr) (c : Nat) (l : List Tr), cs = [.slice a l.length c] ∧ Sl (fun _ => False) w a c l := by
  rcases open_slice_pairs Try.underlying27 Try.underlying61 cells_tr rfl rfl cells_il.2.1 cells_il.2.1 h with ⟨rfl, _⟩ | ⟨a, len, cap, m, n, V0, V1, D0, D1, P0, P1, rfl, _, hl, hm, hmm, _, hr⟩
  · exact ⟨none, 0, [], rfl, Sl.nil _ _ _ (by unfold maxLen; omega)⟩
  · have hlm : len ≤ m := by rw [hmm]; simpa using hl
    have hex : ∀ i, ∃ t : Tr, i < m → ∃ (a1 : Option Addr) (c1 : Nat) (a2 : Option Addr) (c2 : Nat), V0 i = .slice a1 t.inn.length c1 ∧ V1 i = .slice a2 t.out.length c2 ∧ Sl (fun _ => False) w a1 c1 t.inn ∧ Sl (fun _ => False) w a2 c2 t.out := by
      intro i
      by_cases hi : i < m
      · obtain ⟨-, -, h1, h2⟩ := hr i hi
        obtain ⟨a1, c1, l1, e1, s1⟩ := sl_ints_of h1
        obtain ⟨a2, c2, l2, e2, s2⟩ := sl_ints_of h2
        simp at e1 e2
        exact ⟨⟨l1, l2⟩, fun _ => ⟨a1, c1, a2, c2, e1, e2, s1, s2⟩⟩
      · exact ⟨⟨[], []⟩, fun h => absurd h hi⟩
    obtain ⟨f, hf⟩ := Classical.axiomOfChoice hex
    refine ⟨some a, cap, (List.range len).map f, by simp, by simpa using hl, hm, fun j y hj => ?_⟩
    have hjl : j < len := by
      by_cases e : j < len
      · exact e
      · rw [List.getElem?_eq_none (by simpa using e)] at hj; simp at hj
    obtain ⟨hc0, -⟩ := hr 0 (by omega)
    rw [show a.add (0 * 2) = a from by simp [Addr.add]] at hc0
    obtain ⟨b, off, rfl, hb⟩ := flat_of_cell hc0
    obtain ⟨hc, hc', -, -⟩ := hr j (by omega)
    rw [add_flat] at hc hc'
    have hy : f j = y := by
      rw [List.getElem?_map, List.getElem?_range hjl] at hj
      simpa using hj
    subst hy
    obtain ⟨a1, c1, a2, c2, e1, e2, s1, s2⟩ := hf j (by omega)
    refine ⟨b, off, [.slice a1 (f j).inn.length c1, .slice a2 (f j).out.length c2], rfl, hb, id, ⟨a1, c1, a2, c2, rfl, s1, s2⟩, fun i u hi => ?_⟩
    match i, hi with
    | 0, hi => simp at hi; subst hi; rw [← e1]; simpa [GR.sz] using hc
    | 1, hi => simp at hi; subst hi; rw [← e2]; simpa [GR.sz, Nat.add_assoc] using hc'
theorem cells_ob : Try.prog.cellsOf 29 = 2 := by kernel_rfl
set_option maxRecDepth 100000 in
theorem open_obs {r : Reach} {b0 : Nat} {v : Value} {d : DataW H} {p : List MemPlace} (hv : Value.okWide Try.prog w r b0 29 v) (h : DataW.Trod enc Try.prog w 0 (fun _ => true) held 29 v d p) :
    ∃ o a c, v = obV o a c ∧ Os (fun _ => False) w a c o := by
  obtain ⟨v0, v1, y0, y1, n, rfl, -, -, h0, h1⟩ := open_agg2 Try.underlying29 (by kernel_rfl) cells_ob hv h
  obtain ⟨x0, e0, -, w0⟩ := DataW.trod_int Try.underlying3 h0
  obtain ⟨a1, c1, l1, e1, s1⟩ := sl_trs_of h1
  simp at e0 e1
  subst e0 e1
  exact ⟨⟨x0, l1⟩, a1, c1, rfl, wf_i64 w0, s1⟩
theorem cells_sp : Try.prog.cellsOf 35 = 3 := by kernel_rfl
set_option maxRecDepth 100000 in
theorem open_split {r : Reach} {b0 : Nat} {v : Value} {d : DataW H} {p : List MemPlace} (hv : Value.okWide Try.prog w r b0 35 v) (h : DataW.Trod enc Try.prog w 0 (fun _ => true) held 35 v d p) :
    ∃ s a c a' c', v = spV s a c a' c' ∧ Sl (fun _ => False) w a c s.pre ∧ Sl (fun _ => False) w a' c' s.suf ∧ i64 s.sym := by
  obtain ⟨v0, v1, v2, y0, y1, y2, n, rfl, -, -, h0, h1, h2⟩ := open_agg3 Try.underlying35 (by kernel_rfl) cells_sp hv h
  obtain ⟨x1, e1, -, w1⟩ := DataW.trod_int Try.underlying3 h1
  obtain ⟨a0, c0, l0, e0, s0⟩ := sl_ints_of h0
  obtain ⟨a2, c2, l2, e2, s2⟩ := sl_ints_of h2
  simp at e0 e1 e2
  subst e0 e1 e2
  exact ⟨⟨l0, x1, l2⟩, a0, c0, a2, c2, rfl, s0, s2, wf_i64 w1⟩
end
end Go.Proofs.Ytlgdijgfphedpaa
/- Splits compared; the sizes that are examined. No condition. -/
namespace Go.Proofs.Ytlgdijgfphedpaa
open Go.RowKit
section
variable {M M' M1 M2 : Nat → Prop} {w : World} {an ao ac a b a1 a2 b1 b2 : Option Addr} {cn co cc c d c1 c2 d1 d2 : Nat}
theorem fal {α : Type} [GR α] {M : Nat → Prop} {w : World} {a : Option Addr} {c : Nat} {l : List α} (h : Sl M w a c l) : Sl (fun _ => False) w a c l := h.anti fun _ _ h => h.elim

set_option maxRecDepth 100000 in
set_option maxHeartbeats 2000000 in
theorem sameS_any {s t : Sp} (h1 : Sl M w a1 c1 s.pre) (h2 : Sl M' w a2 c2 s.suf) (h3 : Sl M1 w b1 d1 t.pre) (h4 : Sl M2 w b2 d2 t.suf) :
    Calls Try.prog 13 #[spV s a1 c1 a2 c2, spV t b1 d1 b2 d2] w fun e w' => e = .returned (.bool (decide (s = t))) ∧ Below w.heap.size w w' := by
  have hl1 := h1.le
  have hl2 := h2.le
  have hl3 := h3.le
  have hl4 := h4.le
  have hB0 := ((Below.refl w.heap.size w).alloc (Nat.le_refl _) (spO s a1 c1 a2 c2)).alloc (by simp) (spO t b1 d1 b2 d2)
  have hx0 : S3 ((w.alloc (spO s a1 c1 a2 c2)).alloc (spO t b1 d1 b2 d2)) w.heap.size a1 c1 a2 c2 s := (s3_new w).below (B := w.heap.size + 1) ((Below.refl _ _).alloc (by simp) _) (by omega)
  have hy0 : S3 ((w.alloc (spO s a1 c1 a2 c2)).alloc (spO t b1 d1 b2 d2)) (w.heap.size + 1) b1 d1 b2 d2 t := by
    have k := s3_new (s := t) (a := b1) (c := d1) (a' := b2) (c' := d2) (w.alloc (spO s a1 c1 a2 c2))
    simpa using k
  have hz0 : w.heap.size + 2 ≤ ((w.alloc (spO s a1 c1 a2 c2)).alloc (spO t b1 d1 b2 d2)).heap.size := by simp
  have HC := same1_any (fal (h1.below hB0)) (fal (h3.below hB0))
  have H2 := Lib.hid (fal (h2.below hB0))
  have H4 := Lib.hid (fal (h4.below hB0))
  have he : decide (s = t) = (decide (s.pre = t.pre) && (decide (s.sym = t.sym) && decide (s.suf = t.suf))) := by
    cases s; cases t; simp only [Sp.mk.injEq, Bool.decide_and]
  rw [he]
  clear h1 h2 h3 h4 he
  by_cases e1 : s.pre = t.pre
  · rw [decide_eq_true e1] at HC ⊢
    have HC := Lib.hid HC
    clear e1
    by_cases e2 : s.sym = t.sym
    · have e2b : (s.sym == t.sym) = true := by simp [e2]
      rw [decide_eq_true e2]
      clear e2
      go_enter Try.func13, Try.ntmps13
      go_wp2_with fail
      generalize (w.alloc (spO s a1 c1 a2 c2)).alloc (spO t b1 d1 b2 d2) = w0 at *
      refine (HC.out).mono ?_
      rintro e w1 ⟨rfl, hD⟩
      have hb1 := blw hD w0.heap.size
      have hB1 := hB0.trans (hb1.mono (by omega))
      have hx1 := hx0.below hb1 (by omega)
      have hy1 := hy0.below hb1 (by omega)
      have HC := Lib.hid (same1_any (H2.out.below hb1) (H4.out.below hb1))
      clear hb1 hB0 hx0 hy0 hD
      go_wp2_with fail
      refine (HC.out).mono ?_
      rintro e w2 ⟨rfl, hD⟩
      have hb2 := blw hD w1.heap.size
      have hz1 : w.heap.size ≤ w1.heap.size := by have := hB1.size; omega
      have hB2 := hB1.trans (hb2.mono hz1)
      go_wp2
      go_ret
      exact ⟨ret_b (by simp), hB2⟩
    · have e2b : (s.sym == t.sym) = false := by simp [e2]
      rw [decide_eq_false e2]
      clear e2
      go_enter Try.func13, Try.ntmps13
      go_wp2_with fail
      generalize (w.alloc (spO s a1 c1 a2 c2)).alloc (spO t b1 d1 b2 d2) = w0 at *
      refine (HC.out).mono ?_
      rintro e w1 ⟨rfl, hD⟩
      have hb1 := blw hD w0.heap.size
      have hB1 := hB0.trans (hb1.mono (by omega))
      have hx1 := hx0.below hb1 (by omega)
      have hy1 := hy0.below hb1 (by omega)
      clear hb1 hB0 hx0 hy0 hD
      go_wp2
      go_ret
      exact ⟨ret_b (by simp), hB1⟩
  · rw [decide_eq_false e1] at HC ⊢
    have HC := Lib.hid HC
    clear e1
    go_enter Try.func13, Try.ntmps13
    go_wp2_with fail
    generalize (w.alloc (spO s a1 c1 a2 c2)).alloc (spO t b1 d1 b2 d2) = w0 at *
    refine (HC.out).mono ?_
    rintro e w1 ⟨rfl, hD⟩
    have hb1 := blw hD w0.heap.size
    have hB1 := hB0.trans (hb1.mono (by omega))
    clear hb1 hB0 hx0 hy0 hD
    go_wp2
    go_ret
    exact ⟨ret_b (by simp), hB1⟩

/-- The statement's own test of sizes. -/
def gr25 (h : Hy) (o : Ob) : Bool := decide (30 < h.m.next.length) || decide (30 < h.m.out.length) || decide (6 < h.m.inputs) || decide (30 < h.acc.length) || decide (300 < o.traces.length) || h.acc.any (fun r => decide (1100 < r.length))
theorem gr25_cases (h : Hy) (o : Ob) : (30 < h.m.next.length ∧ gr25 h o = true) ∨ (¬ 30 < h.m.next.length ∧ 30 < h.m.out.length ∧ gr25 h o = true) ∨ (¬ 30 < h.m.next.length ∧ ¬ 30 < h.m.out.length ∧ 6 < h.m.inputs ∧ gr25 h o = true) ∨
    (¬ 30 < h.m.next.length ∧ ¬ 30 < h.m.out.length ∧ ¬ 6 < h.m.inputs ∧ 30 < h.acc.length ∧ gr25 h o = true) ∨ (¬ 30 < h.m.next.length ∧ ¬ 30 < h.m.out.length ∧ ¬ 6 < h.m.inputs ∧ ¬ 30 < h.acc.length ∧ 300 < o.traces.length ∧ gr25 h o = true) ∨
    (¬ 30 < h.m.next.length ∧ ¬ 30 < h.m.out.length ∧ ¬ 6 < h.m.inputs ∧ ¬ 30 < h.acc.length ∧ ¬ 300 < o.traces.length ∧ gr25 h o = h.acc.any (fun r => decide (1100 < r.length))) := by
  unfold gr25
  by_cases h1 : 30 < h.m.next.length
  · exact .inl ⟨h1, by simp [h1]⟩
  by_cases h2 : 30 < h.m.out.length
  · exact .inr (.inl ⟨h1, h2, by simp [h2]⟩)
  by_cases h3 : 6 < h.m.inputs
  · exact .inr (.inr (.inl ⟨h1, h2, h3, by simp [h3]⟩))
  by_cases h4 : 30 < h.acc.length
  · exact .inr (.inr (.inr (.inl ⟨h1, h2, h3, h4, by simp [h4]⟩)))
  by_cases h5 : 300 < o.traces.length
  · exact .inr (.inr (.inr (.inr (.inl ⟨h1, h2, h3, h4, h5, by simp [h5]⟩))))
  exact .inr (.inr (.inr (.inr (.inr ⟨h1, h2, h3, h4, h5, by simp [h1, h2, h3, h4, h5]⟩))))
theorem any11_at {l : List (List Int)} {k : Nat} {r : List Int} (h : l[k]? = some r) (hr : 1100 < r.length) : l.any (fun r => decide (1100 < r.length)) = true :=
  List.any_eq_true.2 ⟨r, List.mem_of_getElem? h, by simpa using hr⟩
theorem any11_succ {l : List (List Int)} {k : Nat} {r : List Int} (h : l[k]? = some r) (hr : ¬ 1100 < r.length) (hk : (l.take k).any (fun r => decide (1100 < r.length)) = false) : (l.take (k + 1)).any (fun r => decide (1100 < r.length)) = false := by
  rw [List.take_add_one, h]
  simp only [List.any_append, hk, Bool.false_or]
  simpa using hr
theorem any11_all {l : List (List Int)} {k : Nat} (hk : ¬ k < l.length) (h : (l.take k).any (fun r => decide (1100 < r.length)) = false) : l.any (fun r => decide (1100 < r.length)) = false := by
  rwa [List.take_of_length_le (by omega)] at h

set_option maxRecDepth 100000 in
set_option maxHeartbeats 2000000 in
theorem gr25_any {h : Hy} {o : Ob} (hh : Hp M w an cn ao co ac cc h) (ho : Os M' w a c o) :
    Calls Try.prog 8 #[hyV h an cn ao co ac cc, obV o a c] w fun e w' => e = .returned (.bool (gr25 h o)) ∧ Below w.heap.size w w' := by
  have l1 := hh.m.next.le
  have l2 := hh.m.out.le
  have l3 := hh.acc.le
  have l4 := ho.traces.le
  have hB0 := ((Below.refl w.heap.size w).alloc (Nat.le_refl _) (hyO h an cn ao co ac cc)).alloc (by simp) (obO o a c)
  have hx0 : H5 ((w.alloc (hyO h an cn ao co ac cc)).alloc (obO o a c)) w.heap.size an cn ao co ac cc h := (h5_new w).below (B := w.heap.size + 1) ((Below.refl _ _).alloc (by simp) _) (by omega)
  have hy0 : O2 ((w.alloc (hyO h an cn ao co ac cc)).alloc (obO o a c)) (w.heap.size + 1) a c o := by
    have k := o2_new (o := o) (a := a) (c := c) (w.alloc (hyO h an cn ao co ac cc))
    simpa using k
  have HA := Lib.hid (hh.acc.below hB0)
  clear hh ho
  rcases gr25_cases h o with ⟨h1, he⟩ | ⟨h1, h2, he⟩ | ⟨h1, h2, h3, he⟩ | ⟨h1, h2, h3, h4, he⟩ | ⟨h1, h2, h3, h4, h5, he⟩ | ⟨h1, h2, h3, h4, h5, he⟩
  iterate 5
    · have K1 := Lib.hid he
      clear he
      go_enter Try.func8, Try.ntmps8
      go_wp2
      go_ret
      exact ⟨ret_b K1.out.symm, hB0⟩
  have K1 := Lib.hid he
  clear he
  go_enter Try.func8, Try.ntmps8
  go_wp2
  generalize (w.alloc (hyO h an cn ao co ac cc)).alloc (obO o a c) = w0 at *
  go_loop [5] (fun i => ∃ k : Nat, k ≤ h.acc.length ∧ i = .int .i64 k ∧ Hid ((h.acc.take k).any (fun r => decide (1100 < r.length)) = false)) (fun i => h.acc.length - (intOf i).toNat)
  case atStart => exact ⟨0, by omega, rfl, by unfold Hid; simp⟩
  case round =>
    obtain ⟨k, hk, rfl, hE⟩ := hrel
    by_cases hlt : k < h.acc.length
    · obtain ⟨b1, o1, a1, r1, c1, rfl, hc1, hr1, hs1⟩ := HA.out.at_row hlt
      have r1le := hs1.le
      by_cases hg : 1100 < r1.length
      · go_wp2
        go_ret
        exact ⟨ret_b (by rw [K1.out, any11_at hr1.out hg]), hB0⟩
      · go_wp2
        go_round
        case rel => exact ⟨k + 1, by omega, by go_num, any11_succ hr1.out hg hE.out⟩
        case measure => simp [intOf]; omega
    · go_wp2
      go_ret
      exact ⟨ret_b (by rw [K1.out, any11_all hlt hE.out]), hB0⟩
end
end Go.Proofs.Ytlgdijgfphedpaa
/- The program's Check. Condition: the answers are as long as their words. -/
namespace Go.Proofs.Ytlgdijgfphedpaa
open Go.RowKit
section
variable {M M' M'' M3 : Nat → Prop} {w : World} {an ao ac a b b2 : Option Addr} {cn co cc c d d2 : Nat} {x : Ck}
set_option maxRecDepth 100000 in
set_option maxHeartbeats 8000000 in
/-- The program's Check. -/
theorem check_any (hh : Hp M w an cn ao co ac cc x.h) (ho : Os M' w a c x.o) (hp : Sl M'' w b d x.s.pre) (hq : Sl M3 w b2 d2 x.s.suf) (hsy : i64 x.s.sym) (hl : Hid x.o.lens) :
    Calls Try.prog 15 #[hyV x.h an cn ao co ac cc, obV x.o a c, spV x.s b d b2 d2] w fun e w' => e = .returned (.tuple #[.bool x.res, .int .i64 x.err]) ∧ Below w.heap.size w w' := by
  have hB0 := (((Below.refl w.heap.size w).alloc (Nat.le_refl _) (hyO x.h an cn ao co ac cc)).alloc (by simp) (obO x.o a c)).alloc (by simp; omega) (spO x.s b d b2 d2)
  have hb3 := ((Below.refl (w.heap.size + 1) (w.alloc (hyO x.h an cn ao co ac cc))).alloc (by simp) (obO x.o a c)).alloc (by simp) (spO x.s b d b2 d2)
  have hx0 : H5 (((w.alloc (hyO x.h an cn ao co ac cc)).alloc (obO x.o a c)).alloc (spO x.s b d b2 d2)) w.heap.size an cn ao co ac cc x.h := (h5_new w).below hb3 (by omega)
  have hy0 : O2 (((w.alloc (hyO x.h an cn ao co ac cc)).alloc (obO x.o a c)).alloc (spO x.s b d b2 d2)) (w.heap.size + 1) a c x.o := by
    have k := o2_new (o := x.o) (a := a) (c := c) (w.alloc (hyO x.h an cn ao co ac cc))
    have k2 : O2 ((w.alloc (hyO x.h an cn ao co ac cc)).alloc (obO x.o a c)) (w.heap.size + 1) a c x.o := by simpa using k
    exact k2.below (B := w.heap.size + 2) ((Below.refl _ _).alloc (by simp) _) (by omega)
  have ht0 : S3 (((w.alloc (hyO x.h an cn ao co ac cc)).alloc (obO x.o a c)).alloc (spO x.s b d b2 d2)) (w.heap.size + 1 + 1) b d b2 d2 x.s := by
    have k := s3_new (s := x.s) (a := b) (c := d) (a' := b2) (c' := d2) ((w.alloc (hyO x.h an cn ao co ac cc)).alloc (obO x.o a c))
    simpa using k
  have hz0 : w.heap.size + 3 ≤ (((w.alloc (hyO x.h an cn ao co ac cc)).alloc (obO x.o a c)).alloc (spO x.s b d b2 d2)).heap.size := by simp
  have HH := Lib.hid hh
  have HO := Lib.hid ho
  have HP := Lib.hid hp
  have HQ := Lib.hid hq
  have hpl := hp.le
  have hql := hq.le
  have HC := Lib.hid (hvalid_any (HH.out.below hB0))
  clear hh ho hp hq hb3
  rcases Ck.cases (x := x) with ⟨h1, hF⟩ | ⟨ok, h1, h2, hF⟩ | ⟨ok, h1, h2, h3, hF⟩ | ⟨ok, h1, h2, h3, h4, hF⟩ | ⟨ok, h1, h2, h3, h4, h5, hF⟩ | ⟨ok, h1, h2, h3, h4, h5, hF⟩
  · have hb : (x.h.err != 0) = true := by simp [h1]
    have HF := Lib.hid hF
    clear h1 hF
    go_enter Try.func15, Try.ntmps15
    go_wp2_with fail
    generalize ((w.alloc (hyO x.h an cn ao co ac cc)).alloc (obO x.o a c)).alloc (spO x.s b d b2 d2) = w0 at *
    refine (HC.out).mono ?_
    rintro e w1 ⟨rfl, hb1⟩
    have hB1 := hB0.trans (hb1.mono (by omega))
    go_wp2
    go_ret2
    exact ⟨ret_be HF.out.2.symm HF.out.1.symm, hB1⟩
  all_goals
    have hb : (x.h.err != 0) = false := by simp [h1]
    have HF := Lib.hid hF
    have OK := Lib.hid ok
    have H2 := Lib.hid h2
    clear h1 h2 hF ok
    go_enter Try.func15, Try.ntmps15
    go_wp2_with fail
    generalize ((w.alloc (hyO x.h an cn ao co ac cc)).alloc (obO x.o a c)).alloc (spO x.s b d b2 d2) = w0 at *
    refine (HC.out).mono ?_
    rintro e w1 ⟨rfl, hb1⟩
    have hB1 := hB0.trans (hb1.mono (by omega))
    have hx1 := hx0.below hb1 (by omega)
    have hy1 := hy0.below hb1 (by omega)
    have ht1 := ht0.below hb1 (by omega)
    have hz1 : w.heap.size + 3 ≤ w1.heap.size := by have := hb1.size; omega
    clear HC hb1 hB0 hx0 hy0 ht0 hz0
    have HC := Lib.hid (wcheck_any (HP.out.below hB1) x.o.inputs)
  · have h2b : (x.h.m.inputs != x.o.inputs) = true := by simp; exact fun e => H2.out e.symm
    go_wp2
    go_ret2
    exact ⟨ret_be HF.out.2.symm HF.out.1.symm, hB1⟩
  all_goals
    have h2b : (x.h.m.inputs != x.o.inputs) = false := by simp [H2.out]
  · have hb3 : (wErr x.s.pre x.o.inputs != 0) = true := by rw [H2.out]; simp [h3]
    have HF : Hid (x.err = wErr x.s.pre x.o.inputs ∧ x.res = false) := by unfold Hid; rw [H2.out]; exact HF.out
    clear h3
    go_wp2_with fail
    refine (HC.out).mono ?_
    rintro e w2 ⟨rfl, hb2⟩
    have hB2 := hB1.trans (hb2.mono (by omega))
    go_wp2
    go_ret2
    exact ⟨ret_be HF.out.2.symm HF.out.1.symm, hB2⟩
  all_goals
    have hb3 : (wErr x.s.pre x.o.inputs != 0) = false := by rw [H2.out]; simp [h3]
    have H3 := Lib.hid h3
    clear h3
    go_wp2_with fail
    refine (HC.out).mono ?_
    rintro e w2 ⟨rfl, hb2⟩
    have hB2 := hB1.trans (hb2.mono (by omega))
    have hx2 := hx1.below hb2 (by omega)
    have hy2 := hy1.below hb2 (by omega)
    have ht2 := ht1.below hb2 (by omega)
    have hz2 : w.heap.size + 3 ≤ w2.heap.size := by have := hb2.size; omega
    clear HC hb2 hB1 hx1 hy1 ht1 hz1
    have HC := Lib.hid (wcheck_any (HQ.out.below hB2) x.o.inputs)
  · rcases h4 with h4 | h4
    · have hd : decide (x.s.sym < 0) = true := by simp [h4]
      go_wp2
      go_ret2
      exact ⟨ret_be HF.out.2.symm HF.out.1.symm, hB2⟩
    · obtain ⟨h4, h5⟩ := h4
      have hd : decide (x.s.sym < 0) = false := by simp; omega
      rw [← H2.out] at h5
      go_wp2
      go_ret2
      exact ⟨ret_be HF.out.2.symm HF.out.1.symm, hB2⟩
  all_goals
    obtain ⟨h4a, h4b⟩ := h4
    have H4 := Lib.hid (And.intro h4a h4b)
    have hd : decide (x.s.sym < 0) = false := by simp; omega
    rw [← H2.out] at h4b
  · have hb5 : (wErr x.s.suf x.o.inputs != 0) = true := by rw [H2.out]; simp [h5]
    have HF : Hid (x.err = wErr x.s.suf x.o.inputs ∧ x.res = false) := by unfold Hid; rw [H2.out]; exact HF.out
    clear h5
    go_wp2_with fail
    refine (HC.out).mono ?_
    rintro e w3 ⟨rfl, hb3⟩
    have hB3 := hB2.trans (hb3.mono (by omega))
    go_wp2
    go_ret2
    exact ⟨ret_be HF.out.2.symm HF.out.1.symm, hB3⟩
  · have hb5 : (wErr x.s.suf x.o.inputs != 0) = false := by rw [H2.out]; simp [h5]
    have hll := (Mach.okS_of h5).2
    have hpw := Mach.okS_of H3.out
    have hpll := hpw.2
    clear h5
    go_wp2_with fail
    refine (HC.out).mono ?_
    rintro e w3 ⟨rfl, hb3⟩
    have hB3 := hB2.trans (hb3.mono (by omega))
    have hx3 := hx2.below hb3 (by omega)
    have hy3 := hy2.below hb3 (by omega)
    have ht3 := ht2.below hb3 (by omega)
    have hz3 : w.heap.size + 3 ≤ w3.heap.size := by have := hb3.size; omega
    clear HC hb3 hB2 hx2 hy2 ht2 hz2
    have hst := start_ok OK.out.m
    have hfr := Mach.frErr_0 hst H3.out
    have HC := from_any (HH.out.below hB3).m (HP.out.below hB3) x.h.m.start
    rw [hfr.1, hfr.2.2] at HC
    have hen := Mach.endW_range OK.out.m x.s.pre x.h.m.start OK.out.m.s0 OK.out.m.s1 hpw.1
    obtain ⟨tn, htn⟩ := Int.eq_ofNat_of_zero_le hen.1
    rw [htn] at HC hen
    have HC := Lib.hid HC
    have htl : tn < x.h.m.next.length := by omega
    obtain ⟨yn, hyn⟩ := Int.eq_ofNat_of_zero_le h4a
    have hyl : yn < x.h.m.inputs.toNat := by have := H4.out.2; omega
    have HTN := Lib.hid htn
    clear hst hfr hen htn hpw
    go_wp2_with fail
    refine (HC.out).mono ?_
    rintro e w4 ⟨a4, c4, l4, rfl, -, -, hb4⟩
    have hB4 := hB3.trans (hb4.mono (by omega))
    have hx4 := hx3.below hb4 (by omega)
    have hy4 := hy3.below hb4 (by omega)
    have ht4 := ht3.below hb4 (by omega)
    have hz4 : w.heap.size + 3 ≤ w4.heap.size := by have := hb4.size; omega
    clear HC hb4 hB3 hx3 hy3 ht3 hz3
    obtain ⟨bn, on, bo, oo, rfl, rfl⟩ := HH.out.m.addr OK.out.m
    obtain ⟨p1, o1, d1, r1, p2, o2, d3, r2, nn, yy, hn1, hn2, hn3, hn4, hn5, hy0, hy1, hnx, -, hr1, hr2, hr3, hr4⟩ := (HH.out.below hB4).m.atS OK.out.m htl hyl
    have hsl : nn < x.h.acc.length := by have := OK.out.len; omega
    obtain ⟨b1, o6, a6, v, c6, rfl, hc6, hv6, hs6⟩ := (HH.out.below hB4).acc.at_row hsl
    have hv : Hid (v = x.v) := by
      unfold Hid Ck.v Ck.u
      rw [Mach.endW_snoc, HTN.out, hyn, Int.toNat_natCast, Int.toNat_natCast, hnx.out, Int.toNat_natCast]; exact (Hy.ac_of hv6.out).symm
    have hwv := (OK.out.word nn hsl).1
    rw [Hy.ac_of hv6.out] at hwv
    have hvl := (Mach.okS_of hwv).2
    have HSV := Lib.hid hs6
    have hS1 : S3 w4 (w.heap.size + 1 + 1) b d b2 d2 x.s := ht4
    have hsy4 : w4.cell? ⟨w.heap.size + 1 + 1, 1, none⟩ = some (.int .i64 ((yn : Nat) : Int)) := by rw [← hyn]; exact ht4.2.1
    have hSq : ∀ n, O2 (w4.drewN n) (w.heap.size + 1) a c x.o ∧ S3 (w4.drewN n) (w.heap.size + 1 + 1) b d b2 d2 x.s := fun n => ⟨hy4.below (below_drewN w4.heap.size w4 n) (by omega), ht4.below (below_drewN w4.heap.size w4 n) (by omega)⟩
    obtain ⟨ht41, -, ht42⟩ := ht4
    clear hs6 hwv hn2 hn4 hr2 hr4 hS1
    go_wp2
    refine wp_quiet_fast (by kernel_rfl) (by kernel_rfl) ?_
    repeat (first | go_big_quiet_step (fail) | quiet_step (fail))
    refine wpQuiet_nil ?_
    intro _ hw'
    obtain ⟨nq, hw''⟩ := hw'
    subst hw''
    have hBd := bl_drewN hB4 nq
    have hSd := hSq nq
    have hzd : w.heap.size + 3 ≤ (w4.drewN nq).heap.size := hz4
    have HSV := Lib.hid (HSV.out.drewN nq)
    clear hSq hB4 hx4 hy4 ht41 ht42 hsy4 hz4 hn1 hn3 hc6 hyn
    generalize w4.drewN nq = w5 at *
    go_wp2
    refine wp_region_L (fun w' => O2 w' (w.heap.size + 1) a c x.o ∧ S3 w' (w.heap.size + 1 + 1) b d b2 d2 x.s) [0, 1, 2, 3, 4, 6, 7, 11, 12, 13, 14, 15] (by kernel_rfl) ?_
    have hSd := And.intro (hSd.1.below (Below.refl w5.heap.size w5).drew (by omega)) (hSd.2.below (Below.refl w5.heap.size w5).drew (by omega))
    have hBd := hBd.drew
    have hzd : w.heap.size + 3 ≤ w5.drew.heap.size := hzd
    have HSV := Lib.hid (HSV.out.drew)
    generalize w5.drew = w6 at *
    refine wpAnyL_take (i := 0) (v := ?v1) rfl (by kernel_rfl) (by kernel_rfl) (by kernel_rfl) (by kernel_rfl) (fun _ _ _ h => h) (Or.inl ⟨by rfl, ?y1⟩) (by assumption) ?r1
    case y1 => (intro w' hSw; (try dsimp only at hSw); go_simp; try with_reducible rfl)
    try simp only [Act.put, List.setIfInBounds_toArray, List.set_cons_zero, List.set_cons_succ]
    refine wpAnyL_take (i := 1) (v := ?v2) rfl (by kernel_rfl) (by kernel_rfl) (by kernel_rfl) (by kernel_rfl) (fun _ _ _ h => h) (Or.inl ⟨by rfl, ?y2⟩) (by assumption) ?r2
    case y2 => (intro w' hSw; (try dsimp only at hSw); go_simp; try with_reducible rfl)
    try simp only [Act.put, List.setIfInBounds_toArray, List.set_cons_zero, List.set_cons_succ]
    refine wpAnyL_take (i := 2) (v := ?v3) rfl (by kernel_rfl) (by kernel_rfl) (by kernel_rfl) (by kernel_rfl) (fun _ _ _ h => h) (Or.inl ⟨by rfl, ?y3⟩) (by assumption) ?r3
    case y3 => (intro w' hSw; (try dsimp only at hSw); go_simp; try with_reducible rfl)
    try simp only [Act.put, List.setIfInBounds_toArray, List.set_cons_zero, List.set_cons_succ]
    refine wpAnyL_take (i := 3) (v := ?v4) rfl (by kernel_rfl) (by kernel_rfl) (by kernel_rfl) (by kernel_rfl) (fun _ _ _ h => h) (Or.inl ⟨by rfl, ?y4⟩) (by assumption) ?r4
    case y4 => (intro w' hSw; (try dsimp only at hSw); go_simp; try with_reducible rfl)
    try simp only [Act.put, List.setIfInBounds_toArray, List.set_cons_zero, List.set_cons_succ]
    refine wpAnyL_take (i := 4) (v := ?v5) rfl (by kernel_rfl) (by kernel_rfl) (by kernel_rfl) (by kernel_rfl) (fun _ _ _ h => h) (Or.inl ⟨by rfl, ?y5⟩) (by assumption) ?r5
    case y5 => (intro w' hSw; (try dsimp only at hSw); go_simp; try with_reducible rfl)
    try simp only [Act.put, List.setIfInBounds_toArray, List.set_cons_zero, List.set_cons_succ]
    refine wpAnyL_take (i := 6) (v := ?v6) rfl (by kernel_rfl) (by kernel_rfl) (by kernel_rfl) (by kernel_rfl) (fun _ _ _ h => h) (Or.inl ⟨by rfl, ?y6⟩) (by assumption) ?r6
    case y6 => (intro w' hSw; (try dsimp only at hSw); go_simp; try with_reducible rfl)
    try simp only [Act.put, List.setIfInBounds_toArray, List.set_cons_zero, List.set_cons_succ]
    refine wpAnyL_take (i := 7) (v := ?v7) rfl (by kernel_rfl) (by kernel_rfl) (by kernel_rfl) (by kernel_rfl) (fun _ _ _ h => h) (Or.inl ⟨by rfl, ?y7⟩) (by assumption) ?r7
    case y7 => (intro w' hSw; (try dsimp only at hSw); go_simp; try with_reducible rfl)
    try simp only [Act.put, List.setIfInBounds_toArray, List.set_cons_zero, List.set_cons_succ]
    refine wpAnyL_one (i := 5) (by kernel_rfl) rfl rfl (fun K hK => ?_)
    go_simp
    have hba := (Below.refl w6.heap.size w6).alloc (Nat.le_refl _) (.cells #[.int .i64 x.s.sym] 3)
    have hSA := And.intro (hSd.1.below hba (by omega)) (hSd.2.below hba (by omega))
    refine hK _ _ (fun _ => hSA) ?_
    clear hK K hSA
    refine wpAnyL_one (i := 8) (by kernel_rfl) rfl rfl (fun K hK => ?_)
    go_simp
    have hba := hba.alloc (by simp) (.cells #[.slice b x.s.pre.length d, .slice (some ⟨w6.heap.size, 0, none⟩) 1 1, .slice b2 x.s.suf.length d2] 30)
    have hBA := (hBd.alloc (by omega) (.cells #[.int .i64 x.s.sym] 3)).alloc (by simp; omega) (.cells #[.slice b x.s.pre.length d, .slice (some ⟨w6.heap.size, 0, none⟩) 1 1, .slice b2 x.s.suf.length d2] 30)
    have hSA := And.intro (hSd.1.below hba (by omega)) (hSd.2.below hba (by omega))
    have hzA : w.heap.size + 3 ≤ ((w6.alloc (.cells #[.int .i64 x.s.sym] 3)).alloc (.cells #[.slice b x.s.pre.length d, .slice (some ⟨w6.heap.size, 0, none⟩) 1 1, .slice b2 x.s.suf.length d2] 30)).heap.size := by simp; omega
    have hr := rows3 (T := 30) ((HP.out.below hBd).alloc (.cells #[.int .i64 x.s.sym] 3)) (ints1 (w := w6) (T := 3) hsy) ((HQ.out.below hBd).alloc (.cells #[.int .i64 x.s.sym] 3)) rfl (m := 1) rfl rfl
    rw [show (w6.alloc (.cells #[.int .i64 x.s.sym] 3)).heap.size = w6.heap.size + 1 from by simp] at hr
    have HC := Lib.hid (join_any hr (by rw [flat3]; simp; omega))
    have HSV := Lib.hid (HSV.out.below hba)
    refine hK _ _ (fun _ => hSA) ?_
    clear hK K hba hSd hBd hzd hr
    refine wpAnyL_one (i := 9) (by kernel_rfl) rfl rfl (fun K hK => ?_)
    go_simp
    generalize (w6.alloc (.cells #[.int .i64 x.s.sym] 3)).alloc (.cells #[.slice b x.s.pre.length d, .slice (some ⟨w6.heap.size, 0, none⟩) 1 1, .slice b2 x.s.suf.length d2] 30) = w7 at *
    refine (HC.out).mono ?_
    rintro e w8 ⟨a8, c8, l8, rfl, hl8, hs8, hb8⟩
    have hB8 := hBA.trans (hb8.mono (by omega))
    have hS8 := And.intro (hSA.1.below hb8 (by omega)) (hSA.2.below hb8 (by omega))
    have hz8 : w.heap.size + 3 ≤ w8.heap.size := by have := hb8.size; omega
    have hl8 : Hid (l8 = x.u ++ x.s.suf) := by unfold Hid; rw [hl8.out, flat3]; unfold Ck.u; simp
    have HSV := Lib.hid (HSV.out.below hb8)
    have HC := ans_any (HO.out.below hB8) hs8 hl
    rw [show x.o.known l8 = x.o.known (x.u ++ x.s.suf) from by rw [hl8.out]] at HC
    have HC := Lib.hid HC
    refine hK _ _ (fun _ => hS8) ?_
    clear hK K hBA hSA hzA hb8 hs8
    refine wpAnyL_one (i := 10) (by kernel_rfl) rfl rfl (fun K hK => ?_)
    go_simp
    refine (HC.out).mono ?_
    rintro e w9 ⟨a9, c9, l9, rfl, hl9, hs9, hb9⟩
    have hB9 := hB8.trans (hb9.mono (by omega))
    have hS9 := And.intro (hS8.1.below hb9 (by omega)) (hS8.2.below hb9 (by omega))
    have hz9 : w.heap.size + 3 ≤ w9.heap.size := by have := hb9.size; omega
    have hl9 : Hid (l9 = x.o.ans (x.u ++ x.s.suf)) := by unfold Hid; rw [hl9.out, hl8.out]
    have HSV := Lib.hid (HSV.out.below hb9)
    have HS9 := Lib.hid (hs9.anti (M' := fun _ => False) fun _ _ h => h.elim)
    refine hK _ _ (fun _ => hS9) ?_
    clear hK K hB8 hS8 hz8 hb9 hs9 HC
    refine wpAnyL_take (i := 11) (v := ?v8) rfl (by kernel_rfl) (by kernel_rfl) (by kernel_rfl) (by kernel_rfl) (fun _ _ _ h => h) (Or.inl ⟨by rfl, ?y8⟩) (by assumption) ?r8
    case y8 => (intro w' hSw; (try dsimp only at hSw); go_simp; try with_reducible rfl)
    try simp only [Act.put, List.setIfInBounds_toArray, List.set_cons_zero, List.set_cons_succ]
    refine wpAnyL_take (i := 12) (v := ?v9) rfl (by kernel_rfl) (by kernel_rfl) (by kernel_rfl) (by kernel_rfl) (fun _ _ _ h => h) (Or.inl ⟨by rfl, ?y9⟩) (by assumption) ?r9
    case y9 => (intro w' hSw; (try dsimp only at hSw); go_simp; try with_reducible rfl)
    try simp only [Act.put, List.setIfInBounds_toArray, List.set_cons_zero, List.set_cons_succ]
    refine wpAnyL_take (i := 13) (v := ?v10) rfl (by kernel_rfl) (by kernel_rfl) (by kernel_rfl) (by kernel_rfl) (fun _ _ _ h => h) (Or.inl ⟨by rfl, ?y10⟩) (by assumption) ?r10
    case y10 => (intro w' hSw; (try dsimp only at hSw); go_simp; try with_reducible rfl)
    try simp only [Act.put, List.setIfInBounds_toArray, List.set_cons_zero, List.set_cons_succ]
    refine wpAnyL_take (i := 14) (v := ?v11) rfl (by kernel_rfl) (by kernel_rfl) (by kernel_rfl) (by kernel_rfl) (fun _ _ _ h => h) (Or.inl ⟨by rfl, ?y11⟩) (by assumption) ?r11
    case y11 => (intro w' hSw; (try dsimp only at hSw); go_simp; try with_reducible rfl)
    try simp only [Act.put, List.setIfInBounds_toArray, List.set_cons_zero, List.set_cons_succ]
    refine wpAnyL_take (i := 15) (v := ?v12) rfl (by kernel_rfl) (by kernel_rfl) (by kernel_rfl) (by kernel_rfl) (fun _ _ _ h => h) (Or.inl ⟨by rfl, ?y12⟩) (by assumption) ?r12
    case y12 => (intro w' hSw; (try dsimp only at hSw); go_simp; try with_reducible rfl)
    try simp only [Act.put, List.setIfInBounds_toArray, List.set_cons_zero, List.set_cons_succ]
    refine wpAnyL_done (by kernel_rfl) ?_ _
    go_wp2
    refine wp_region_L (fun w' => O2 w' (w.heap.size + 1) a c x.o ∧ S3 w' (w.heap.size + 1 + 1) b d b2 d2 x.s) [0, 1, 2, 3, 7, 8, 9, 10, 11] (by kernel_rfl) ?_
    have hSd := And.intro (hS9.1.below (Below.refl w9.heap.size w9).drew (by omega)) (hS9.2.below (Below.refl w9.heap.size w9).drew (by omega))
    have hBd := hB9.drew
    have hzd : w.heap.size + 3 ≤ w9.drew.heap.size := hz9
    have HS9 := Lib.hid (HS9.out.drew)
    have HSV := Lib.hid (HSV.out.drew)
    clear hS9 hB9 hz9
    generalize w9.drew = w10 at *
    refine wpAnyL_take (i := 0) (v := ?v13) rfl (by kernel_rfl) (by kernel_rfl) (by kernel_rfl) (by kernel_rfl) (fun _ _ _ h => h) (Or.inl ⟨by rfl, ?y13⟩) (by assumption) ?r13
    case y13 => (intro w' hSw; (try dsimp only at hSw); go_simp; try with_reducible rfl)
    try simp only [Act.put, List.setIfInBounds_toArray, List.set_cons_zero, List.set_cons_succ]
    refine wpAnyL_take (i := 1) (v := ?v14) rfl (by kernel_rfl) (by kernel_rfl) (by kernel_rfl) (by kernel_rfl) (fun _ _ _ h => h) (Or.inl ⟨by rfl, ?y14⟩) (by assumption) ?r14
    case y14 => (intro w' hSw; (try dsimp only at hSw); go_simp; try with_reducible rfl)
    try simp only [Act.put, List.setIfInBounds_toArray, List.set_cons_zero, List.set_cons_succ]
    refine wpAnyL_take (i := 2) (v := ?v15) rfl (by kernel_rfl) (by kernel_rfl) (by kernel_rfl) (by kernel_rfl) (fun _ _ _ h => h) (Or.inl ⟨by rfl, ?y15⟩) (by assumption) ?r15
    case y15 => (intro w' hSw; (try dsimp only at hSw); go_simp; try with_reducible rfl)
    try simp only [Act.put, List.setIfInBounds_toArray, List.set_cons_zero, List.set_cons_succ]
    refine wpAnyL_take (i := 3) (v := ?v16) rfl (by kernel_rfl) (by kernel_rfl) (by kernel_rfl) (by kernel_rfl) (fun _ _ _ h => h) (Or.inl ⟨by rfl, ?y16⟩) (by assumption) ?r16
    case y16 => (intro w' hSw; (try dsimp only at hSw); go_simp; try with_reducible rfl)
    try simp only [Act.put, List.setIfInBounds_toArray, List.set_cons_zero, List.set_cons_succ]
    refine wpAnyL_one (i := 4) (by kernel_rfl) rfl rfl (fun K hK => ?_)
    go_simp
    have hba := (Below.refl w10.heap.size w10).alloc (Nat.le_refl _) (.cells #[.slice a6 v.length c6, .slice b2 x.s.suf.length d2] 30)
    have hBA := hBd.alloc (by omega) (.cells #[.slice a6 v.length c6, .slice b2 x.s.suf.length d2] 30)
    have hSA := And.intro (hSd.1.below hba (by omega)) (hSd.2.below hba (by omega))
    have hzA : w.heap.size + 3 ≤ (w10.alloc (.cells #[.slice a6 v.length c6, .slice b2 x.s.suf.length d2] 30)).heap.size := by simp; omega
    have HC := Lib.hid (join_any (rows2 (T := 30) HSV.out (HQ.out.below hBd) rfl rfl) (by rw [flat2]; simp; omega))
    have HS9 := Lib.hid (HS9.out.below hba)
    refine hK _ _ (fun _ => hSA) ?_
    clear hK K hba hSd hBd hzd
    refine wpAnyL_one (i := 5) (by kernel_rfl) rfl rfl (fun K hK => ?_)
    go_simp
    generalize w10.alloc (.cells #[.slice a6 v.length c6, .slice b2 x.s.suf.length d2] 30) = w11 at *
    refine (HC.out).mono ?_
    rintro e w12 ⟨a12, c12, l12, rfl, hl12, hs12, hb12⟩
    have hB12 := hBA.trans (hb12.mono (by omega))
    have hS12 := And.intro (hSA.1.below hb12 (by omega)) (hSA.2.below hb12 (by omega))
    have hz12 : w.heap.size + 3 ≤ w12.heap.size := by have := hb12.size; omega
    have hl12 : Hid (l12 = x.v ++ x.s.suf) := by unfold Hid; rw [hl12.out, flat2, hv.out]
    have HS9 := Lib.hid (HS9.out.below hb12)
    have HC := ans_any (HO.out.below hB12) hs12 hl
    rw [show x.o.known l12 = x.o.known (x.v ++ x.s.suf) from by rw [hl12.out]] at HC
    have HC := Lib.hid HC
    refine hK _ _ (fun _ => hS12) ?_
    clear hK K hBA hSA hzA hb12 hs12
    refine wpAnyL_one (i := 6) (by kernel_rfl) rfl rfl (fun K hK => ?_)
    go_simp
    refine (HC.out).mono ?_
    rintro e w13 ⟨a13, c13, l13, rfl, hl13, hs13, hb13⟩
    have hB13 := hB12.trans (hb13.mono (by omega))
    have hS13 := And.intro (hS12.1.below hb13 (by omega)) (hS12.2.below hb13 (by omega))
    have hl13 : Hid (l13 = x.o.ans (x.v ++ x.s.suf)) := by unfold Hid; rw [hl13.out, hl12.out]
    have HS9 := Lib.hid (HS9.out.below hb13)
    have HS13 := Lib.hid (hs13.anti (M' := fun _ => False) fun _ _ h => h.elim)
    refine hK _ _ (fun _ => hS13) ?_
    clear hK K hB12 hS12 hz12 hb13 hs13 HC HSV
    refine wpAnyL_take (i := 7) (v := ?v17) rfl (by kernel_rfl) (by kernel_rfl) (by kernel_rfl) (by kernel_rfl) (fun _ _ _ h => h) (Or.inl ⟨by rfl, ?y17⟩) (by assumption) ?r17
    case y17 => (intro w' hSw; (try dsimp only at hSw); go_simp; try with_reducible rfl)
    try simp only [Act.put, List.setIfInBounds_toArray, List.set_cons_zero, List.set_cons_succ]
    refine wpAnyL_take (i := 8) (v := ?v18) rfl (by kernel_rfl) (by kernel_rfl) (by kernel_rfl) (by kernel_rfl) (fun _ _ _ h => h) (Or.inl ⟨by rfl, ?y18⟩) (by assumption) ?r18
    case y18 => (intro w' hSw; (try dsimp only at hSw); go_simp; try with_reducible rfl)
    try simp only [Act.put, List.setIfInBounds_toArray, List.set_cons_zero, List.set_cons_succ]
    refine wpAnyL_take (i := 9) (v := ?v19) rfl (by kernel_rfl) (by kernel_rfl) (by kernel_rfl) (by kernel_rfl) (fun _ _ _ h => h) (Or.inl ⟨by rfl, ?y19⟩) (by assumption) ?r19
    case y19 => (intro w' hSw; (try dsimp only at hSw); go_simp; try with_reducible rfl)
    try simp only [Act.put, List.setIfInBounds_toArray, List.set_cons_zero, List.set_cons_succ]
    refine wpAnyL_take (i := 10) (v := ?v20) rfl (by kernel_rfl) (by kernel_rfl) (by kernel_rfl) (by kernel_rfl) (fun _ _ _ h => h) (Or.inl ⟨by rfl, ?y20⟩) (by assumption) ?r20
    case y20 => (intro w' hSw; (try dsimp only at hSw); go_simp; try with_reducible rfl)
    try simp only [Act.put, List.setIfInBounds_toArray, List.set_cons_zero, List.set_cons_succ]
    refine wpAnyL_take (i := 11) (v := ?v21) rfl (by kernel_rfl) (by kernel_rfl) (by kernel_rfl) (by kernel_rfl) (fun _ _ _ h => h) (Or.inl ⟨by rfl, ?y21⟩) (by assumption) ?r21
    case y21 => (intro w' hSw; (try dsimp only at hSw); go_simp; try with_reducible rfl)
    try simp only [Act.put, List.setIfInBounds_toArray, List.set_cons_zero, List.set_cons_succ]
    refine wpAnyL_done (by kernel_rfl) ?_ _
    obtain ⟨-, hsu13⟩ := hS13
    have hl2c := HQ.out.1
    cases hk1 : x.o.known (x.u ++ x.s.suf) with
    | false =>
      have hF : Hid (x.res = false) := by unfold Hid; rw [HF.out.2]; unfold Ck.tst; rw [hk1]; rfl
      clear hk1
      go_wp2
      go_ret2
      exact ⟨ret_be hF.out.symm HF.out.1.symm, hB13⟩
    | true =>
      cases hk2 : x.o.known (x.v ++ x.s.suf) with
      | false =>
        have hF : Hid (x.res = false) := by unfold Hid; rw [HF.out.2]; unfold Ck.tst; rw [hk1, hk2]; rfl
        clear hk1 hk2
        go_wp2
        go_ret2
        exact ⟨ret_be hF.out.symm HF.out.1.symm, hB13⟩
      | true =>
        have hul : x.u.length = x.s.pre.length + 1 := Ck.u_len
        have hn9 : l9.length = x.u.length + x.s.suf.length := by rw [hl9.out, Sj.ans_len hl.out hk1]; simp
        have hn13 : l13.length = v.length + x.s.suf.length := by rw [hl13.out, Sj.ans_len hl.out hk2, hv.out]; simp
        have hF : Hid (x.res = !decide (l9.drop x.u.length = l13.drop v.length)) := by unfold Hid; rw [HF.out.2]; unfold Ck.tst; rw [hk1, hk2, hl9.out, hl13.out, hv.out]; rfl
        obtain ⟨ul, hul2⟩ : ∃ ul, ul = x.u.length := ⟨_, rfl⟩
        rw [← hul2] at hF hn9 hul
        have hu9 : ul ≤ l9.length := by omega
        have hv13 : v.length ≤ l13.length := by omega
        have hs9 : ((l9.length : Nat) : Int) - ((x.s.suf.length : Nat) : Int) = ((ul : Nat) : Int) := by omega
        have hs13 : ((l13.length : Nat) : Int) - ((x.s.suf.length : Nat) : Int) = ((v.length : Nat) : Int) := by omega
        have hll9 : l9.length ≤ 4096 := by omega
        have hll13 : l13.length ≤ 4096 := by omega
        have hw9 : IntKind.i64.wrap ((ul : Nat) : Int) = ((ul : Nat) : Int) := IntWalk.i64_in _ (by omega)
        have hw13 : IntKind.i64.wrap ((v.length : Nat) : Int) = ((v.length : Nat) : Int) := IntWalk.i64_in _ (by omega)
        obtain ⟨p9, hp9⟩ : ∃ p9, p9 = dA a9 c9 ul := ⟨_, rfl⟩
        have hd9 : (if c9 = ul then a9 else Option.map (fun y => y.add ul) a9) = p9 := by rw [hp9]; rfl
        obtain ⟨p13, hp13⟩ : ∃ p13, p13 = dA a13 c13 v.length := ⟨_, rfl⟩
        have hd13 : (if c13 = v.length then a13 else Option.map (fun y => y.add v.length) a13) = p13 := by rw [hp13]; rfl
        have hc9 := HS9.out.1
        have hc13 := HS13.out.1
        have HC := sequal_any (HS9.out.drew.drop hu9) (HS13.out.drew.drop hv13)
        rw [← hp9, ← hp13, List.length_drop, List.length_drop] at HC
        have HC := Lib.hid HC
        have HN := Lib.hid (And.intro hn9 (And.intro hn13 hul))
        clear hk1 hk2 hp9 hp13 hn9 hn13 hul hul2
        go_upto_region 23 with (fail)
        refine wp_region_L (fun _ => True) [0, 1, 2, 3, 4, 5, 6, 7, 8, 9, 10, 11, 13, 14, 15] (by kernel_rfl) ?_
        have hT : True := trivial
        have hBd := hB13.drew
        generalize w13.drew = w14 at *
        refine wpAnyL_take (i := 0) (v := ?v22) rfl (by kernel_rfl) (by kernel_rfl) (by kernel_rfl) (by kernel_rfl) (fun _ _ _ h => h) (Or.inl ⟨by rfl, ?y22⟩) (by assumption) ?r22
        case y22 => (intro w' hSw; (try dsimp only at hSw); go_simp; try with_reducible rfl)
        try simp only [Act.put, List.setIfInBounds_toArray, List.set_cons_zero, List.set_cons_succ]
        refine wpAnyL_take (i := 1) (v := ?v23) rfl (by kernel_rfl) (by kernel_rfl) (by kernel_rfl) (by kernel_rfl) (fun _ _ _ h => h) (Or.inl ⟨by rfl, ?y23⟩) (by assumption) ?r23
        case y23 => (intro w' hSw; (try dsimp only at hSw); go_simp; try with_reducible rfl)
        try simp only [Act.put, List.setIfInBounds_toArray, List.set_cons_zero, List.set_cons_succ]
        refine wpAnyL_take (i := 2) (v := ?v24) rfl (by kernel_rfl) (by kernel_rfl) (by kernel_rfl) (by kernel_rfl) (fun _ _ _ h => h) (Or.inl ⟨by rfl, ?y24⟩) (by assumption) ?r24
        case y24 => (intro w' hSw; (try dsimp only at hSw); go_simp; try with_reducible rfl)
        try simp only [Act.put, List.setIfInBounds_toArray, List.set_cons_zero, List.set_cons_succ]
        refine wpAnyL_take (i := 3) (v := ?v25) rfl (by kernel_rfl) (by kernel_rfl) (by kernel_rfl) (by kernel_rfl) (fun _ _ _ h => h) (Or.inl ⟨by rfl, ?y25⟩) (by assumption) ?r25
        case y25 => (intro w' hSw; (try dsimp only at hSw); go_simp; try with_reducible rfl)
        try simp only [Act.put, List.setIfInBounds_toArray, List.set_cons_zero, List.set_cons_succ]
        refine wpAnyL_take (i := 4) (v := ?v26) rfl (by kernel_rfl) (by kernel_rfl) (by kernel_rfl) (by kernel_rfl) (fun _ _ _ h => h) (Or.inl ⟨by rfl, ?y26⟩) (by assumption) ?r26
        case y26 => (intro w' hSw; (try dsimp only at hSw); go_simp; try with_reducible rfl)
        try simp only [Act.put, List.setIfInBounds_toArray, List.set_cons_zero, List.set_cons_succ]
        refine wpAnyL_take (i := 5) (v := ?v27) rfl (by kernel_rfl) (by kernel_rfl) (by kernel_rfl) (by kernel_rfl) (fun _ _ _ h => h) (Or.inl ⟨by rfl, ?y27⟩) (by assumption) ?r27
        case y27 => (intro w' hSw; (try dsimp only at hSw); go_simp; try with_reducible rfl)
        try simp only [Act.put, List.setIfInBounds_toArray, List.set_cons_zero, List.set_cons_succ]
        refine wpAnyL_take (i := 6) (v := ?v28) rfl (by kernel_rfl) (by kernel_rfl) (by kernel_rfl) (by kernel_rfl) (fun _ _ _ h => h) (Or.inl ⟨by rfl, ?y28⟩) (by assumption) ?r28
        case y28 => (intro w' hSw; (try dsimp only at hSw); go_simp; try with_reducible rfl)
        try simp only [Act.put, List.setIfInBounds_toArray, List.set_cons_zero, List.set_cons_succ]
        refine wpAnyL_take (i := 7) (v := ?v29) rfl (by kernel_rfl) (by kernel_rfl) (by kernel_rfl) (by kernel_rfl) (fun _ _ _ h => h) (Or.inl ⟨by rfl, ?y29⟩) (by assumption) ?r29
        case y29 => (intro w' hSw; (try dsimp only at hSw); go_simp; try with_reducible rfl)
        try simp only [Act.put, List.setIfInBounds_toArray, List.set_cons_zero, List.set_cons_succ]
        refine wpAnyL_take (i := 8) (v := ?v30) rfl (by kernel_rfl) (by kernel_rfl) (by kernel_rfl) (by kernel_rfl) (fun _ _ _ h => h) (Or.inl ⟨by rfl, ?y30⟩) (by assumption) ?r30
        case y30 => (intro w' hSw; (try dsimp only at hSw); go_simp; try with_reducible rfl)
        try simp only [Act.put, List.setIfInBounds_toArray, List.set_cons_zero, List.set_cons_succ]
        refine wpAnyL_take (i := 9) (v := ?v31) rfl (by kernel_rfl) (by kernel_rfl) (by kernel_rfl) (by kernel_rfl) (fun _ _ _ h => h) (Or.inl ⟨by rfl, ?y31⟩) (by assumption) ?r31
        case y31 => (intro w' hSw; (try dsimp only at hSw); go_simp; try with_reducible rfl)
        try simp only [Act.put, List.setIfInBounds_toArray, List.set_cons_zero, List.set_cons_succ]
        refine wpAnyL_take (i := 10) (v := ?v32) rfl (by kernel_rfl) (by kernel_rfl) (by kernel_rfl) (by kernel_rfl) (fun _ _ _ h => h) (Or.inl ⟨by rfl, ?y32⟩) (by assumption) ?r32
        case y32 => (intro w' hSw; (try dsimp only at hSw); go_simp; try with_reducible rfl)
        try simp only [Act.put, List.setIfInBounds_toArray, List.set_cons_zero, List.set_cons_succ]
        refine wpAnyL_take (i := 11) (v := ?v33) rfl (by kernel_rfl) (by kernel_rfl) (by kernel_rfl) (by kernel_rfl) (fun _ _ _ h => h) (Or.inl ⟨by rfl, ?y33⟩) (by assumption) ?r33
        case y33 => (intro w' hSw; (try dsimp only at hSw); go_simp; try with_reducible rfl)
        try simp only [Act.put, List.setIfInBounds_toArray, List.set_cons_zero, List.set_cons_succ]
        refine wpAnyL_one (i := 12) (by kernel_rfl) rfl rfl (fun K hK => ?_)
        go_simp
        refine (HC.out).mono ?_
        rintro e w15 ⟨rfl, n15, rfl⟩
        have hB15 := bl_drewN hBd n15
        refine hK _ _ (fun _ => trivial) ?_
        clear hK K
        refine wpAnyL_take (i := 13) (v := ?v34) rfl (by kernel_rfl) (by kernel_rfl) (by kernel_rfl) (by kernel_rfl) (fun _ _ _ h => h) (Or.inl ⟨by rfl, ?y34⟩) (by assumption) ?r34
        case y34 => (intro w' hSw; (try dsimp only at hSw); go_simp; try with_reducible rfl)
        try simp only [Act.put, List.setIfInBounds_toArray, List.set_cons_zero, List.set_cons_succ]
        refine wpAnyL_take (i := 14) (v := ?v35) rfl (by kernel_rfl) (by kernel_rfl) (by kernel_rfl) (by kernel_rfl) (fun _ _ _ h => h) (Or.inl ⟨by rfl, ?y35⟩) (by assumption) ?r35
        case y35 => (intro w' hSw; (try dsimp only at hSw); go_simp; try with_reducible rfl)
        try simp only [Act.put, List.setIfInBounds_toArray, List.set_cons_zero, List.set_cons_succ]
        refine wpAnyL_take (i := 15) (v := ?v36) rfl (by kernel_rfl) (by kernel_rfl) (by kernel_rfl) (by kernel_rfl) (fun _ _ _ h => h) (Or.inl ⟨by rfl, ?y36⟩) (by assumption) ?r36
        case y36 => (intro w' hSw; (try dsimp only at hSw); go_simp; try with_reducible rfl)
        try simp only [Act.put, List.setIfInBounds_toArray, List.set_cons_zero, List.set_cons_succ]
        refine wpAnyL_done (by kernel_rfl) ?_ _
        go_wp2
        go_ret2
        exact ⟨ret_be hF.out.symm HF.out.1.symm, hB15⟩
end
end Go.Proofs.Ytlgdijgfphedpaa
/- Whether a hypothesis has right transitions, as the statement asks it. Condition: the hypothesis and the machine are valid and have the same inputs. -/
namespace Go.Proofs.Ytlgdijgfphedpaa
open Go.RowKit
/-- The last output of a word. -/
def Mach.lastO (m : Mach) (l : List Int) : Int := (m.outsW m.start l).getD (l.length - 1) 0
/-- The transitions of the first k states are right. -/
def honTo (h : Hy) (m : Mach) (k : Nat) : Prop := ∀ s, s < k → ∀ a : Nat, a < h.m.inputs.toNat → h.m.lastO (h.ac s ++ [(a : Int)]) = m.lastO (h.ac s ++ [(a : Int)])
def hon (h : Hy) (m : Mach) : Prop := honTo h m h.acc.length
instance (h : Hy) (m : Mach) : Decidable (hon h m) := by unfold hon honTo; exact inferInstance
theorem hon_yes {h : Hy} {m : Mach} {k : Nat} (hk : ¬ k < h.acc.length) (hE : honTo h m k) : true = decide (hon h m) := by
  rw [decide_eq_true]
  intro s hs; exact hE s (by omega)
theorem hon_no {h : Hy} {m : Mach} {k a : Nat} (hk : k < h.acc.length) (ha : a < h.m.inputs.toNat) (hne : h.m.lastO (h.ac k ++ [(a : Int)]) ≠ m.lastO (h.ac k ++ [(a : Int)])) : false = decide (hon h m) := by
  rw [decide_eq_false]
  intro hh; exact hne (hh k hk a ha)
theorem hon_succ {h : Hy} {m : Mach} {k : Nat} (hE : honTo h m k) (hF : ∀ a : Nat, a < h.m.inputs.toNat → h.m.lastO (h.ac k ++ [(a : Int)]) = m.lastO (h.ac k ++ [(a : Int)])) : honTo h m (k + 1) := by
  intro s hs
  by_cases e : s = k
  · subst e; exact hF
  · exact hE s (by omega)
theorem Sl.at_some {M : Nat → Prop} {w : World} {a : Option Addr} {c : Nat} {l : List Int} (h : Sl M w a c l) {j : Nat} {x : Int} (hj : l[j]? = some x) : ∃ b off, a = some ⟨b, off, none⟩ ∧ w.cell? ⟨b, off + j, none⟩ = some (.int .i64 x) := by
  have hjl : j < l.length := by
    by_cases e : j < l.length
    · exact e
    · rw [List.getElem?_eq_none (by omega)] at hj; simp at hj
  have h2 := h.at_int hjl
  rw [List.getElem?_eq_getElem hjl] at hj
  obtain rfl : l[j] = x := by simpa using hj
  obtain ⟨b, off, r, ha, hc, hr, -⟩ := h2
  have hr := hr.out
  rw [List.getElem?_eq_getElem hjl] at hr
  obtain rfl : l[j] = r := by simpa using hr
  exact ⟨b, off, ha, hc⟩
theorem lastO_get {m : Mach} {l L : List Int} (hL : L = m.outsW m.start l) (h0 : 0 < l.length) : L.length = l.length ∧ L[l.length - 1]? = some (m.lastO l) := by
  have e : L.length = l.length := by rw [hL, Mach.outsW_len]
  refine ⟨e, ?_⟩
  have h1 : l.length - 1 < L.length := by omega
  unfold Mach.lastO
  rw [← hL, List.getD_eq_getElem?_getD, List.getElem?_eq_getElem h1]
  rfl
section
variable {M M' : Nat → Prop} {w : World} {an ao ac bn bo : Option Addr} {cn co cc dn eo : Nat} {h : Hy} {m : Mach}
set_option maxRecDepth 100000 in
set_option maxHeartbeats 8000000 in
theorem honest_any (hh : Hp M w an cn ao co ac cc h) (hm : Ma M' w bn dn bo eo m) (ok : Hid h.Ok) (okm : Hid m.Ok) (hi : Hid (h.m.inputs = m.inputs)) :
    Calls Try.prog 22 #[hyV h an cn ao co ac cc, maV m bn dn bo eo] w fun e w' => e = .returned (.bool (decide (hon h m))) ∧ Below w.heap.size w w' := by
  have hB0 := ((Below.refl w.heap.size w).alloc (Nat.le_refl _) (hyO h an cn ao co ac cc)).alloc (by simp) (maO m bn dn bo eo)
  have hx0 : H5 ((w.alloc (hyO h an cn ao co ac cc)).alloc (maO m bn dn bo eo)) w.heap.size an cn ao co ac cc h := (h5_new w).below (B := w.heap.size + 1) ((Below.refl _ _).alloc (by simp) _) (by omega)
  have hy0 : C4 ((w.alloc (hyO h an cn ao co ac cc)).alloc (maO m bn dn bo eo)) (w.heap.size + 1) bn dn bo eo m := by
    have k := c4_new (m := m) (an := bn) (cn := dn) (ao := bo) (co := eo) (w.alloc (hyO h an cn ao co ac cc))
    simpa using k
  have hz0 : w.heap.size + 2 ≤ ((w.alloc (hyO h an cn ao co ac cc)).alloc (maO m bn dn bo eo)).heap.size := by simp
  have l3 := hh.acc.le
  have i0 := ok.out.m.i0
  have i1 := ok.out.m.i1
  have HH := Lib.hid hh
  have HM := Lib.hid hm
  clear hh hm
  go_enter Try.func22, Try.ntmps22
  go_wp2
  generalize (w.alloc (hyO h an cn ao co ac cc)).alloc (maO m bn dn bo eo) = w0 at *
  go_loopw [5] (fun i wr => ∃ k : Nat, k ≤ h.acc.length ∧ i = .int .i64 k ∧ Hid (honTo h m k) ∧ H5 wr w.heap.size an cn ao co ac cc h ∧ C4 wr (w.heap.size + 1) bn dn bo eo m ∧ w.heap.size + 2 ≤ wr.heap.size ∧ Below w.heap.size w wr) (fun i _ => h.acc.length - (intOf i).toNat)
  case atStart => exact ⟨0, by omega, rfl, fun s hs => by omega, hx0, hy0, hz0, hB0⟩
  case round =>
    clear hx0 hy0 hz0 hB0
    obtain ⟨k, hk, rfl, hE, hx1, hy1, hz1, hB1⟩ := hrel
    obtain ⟨w1, rfl⟩ : ∃ w1 : World, w1 = wr := ⟨_, rfl⟩
    by_cases hlt : k < h.acc.length
    · go_wp2
      go_loopw [6] (fun i wr => ∃ j : Nat, j ≤ h.m.inputs.toNat ∧ i = .int .i64 j ∧ Hid (∀ a : Nat, a < j → h.m.lastO (h.ac k ++ [(a : Int)]) = m.lastO (h.ac k ++ [(a : Int)])) ∧ H5 wr w.heap.size an cn ao co ac cc h ∧ C4 wr (w.heap.size + 1) bn dn bo eo m ∧ w.heap.size + 2 ≤ wr.heap.size ∧ Below w.heap.size w wr) (fun i _ => h.m.inputs.toNat - (intOf i).toNat)
      case atStart => exact ⟨0, by omega, rfl, fun s hs => by omega, hx1, hy1, hz1, hB1⟩
      case round =>
        clear hx1 hy1 hz1 hB1
        obtain ⟨j, hj, rfl, hF, hx1, hy1, hz1, hB1⟩ := hrel
        obtain ⟨w2, rfl⟩ : ∃ w2 : World, w2 = wr := ⟨_, rfl⟩
        by_cases hlj : j < h.m.inputs.toNat
        · have hlj3 : (j : Int) < h.m.inputs := by omega
          obtain ⟨b1, o1, a1, v, c1, rfl, hc1, hv1, hs1⟩ := (HH.out.below hB1).acc.at_row hlt
          have hv := Lib.hid (Hy.ac_of hv1.out).symm
          have hwv := (ok.out.word k hlt).1
          rw [Hy.ac_of hv1.out] at hwv
          have hwo := Mach.okS_of hwv
          have hwl := hwo.2
          have hj64 : i64 (j : Int) := by unfold i64; omega
          have HS := Lib.hid (fal hs1)
          have HWO := Lib.hid hwo.1
          clear hs1 hwv hwo hv1
          go_wp2_with fail
          have hB3 := (hB1.alloc (by omega) (.cells #[.int .i64 j] 3)).alloc (by simp; omega) (.cells #[.slice a1 v.length c1, .slice (some ⟨w2.heap.size, 0, none⟩) 1 1] 30)
          have hb3 := ((Below.refl w2.heap.size w2).alloc (Nat.le_refl _) (.cells #[.int .i64 j] 3)).alloc (by simp) (.cells #[.slice a1 v.length c1, .slice (some ⟨w2.heap.size, 0, none⟩) 1 1] 30)
          have hx3 := hx1.below hb3 (by omega)
          have hy3 := hy1.below hb3 (by omega)
          have hz3 : w.heap.size + 2 ≤ ((w2.alloc (.cells #[.int .i64 j] 3)).alloc (.cells #[.slice a1 v.length c1, .slice (some ⟨w2.heap.size, 0, none⟩) 1 1] 30)).heap.size := by simp; omega
          have hr := rows2 (T := 30) ((HS.out.alloc (.cells #[.int .i64 j] 3))) (ints1 (w := w2) (T := 3) hj64) rfl (m := 1) rfl
          rw [show (w2.alloc (.cells #[.int .i64 j] 3)).heap.size = w2.heap.size + 1 from by simp] at hr
          have HC := Lib.hid (joinR_any hr (by rw [flat2]; simp; omega))
          clear hb3 hr hx1 hy1 hz1 hB1 hc1
          generalize (w2.alloc (.cells #[.int .i64 j] 3)).alloc (.cells #[.slice a1 v.length c1, .slice (some ⟨w2.heap.size, 0, none⟩) 1 1] 30) = w3 at *
          refine (HC.out).mono ?_
          rintro e w4 ⟨a4, c4, u, rfl, hu, hsu, hb4⟩
          have hu : Hid (u = v ++ [(j : Int)]) := by unfold Hid; rw [hu.out, flat2]
          have hU : Hid (u = h.ac k ++ [(j : Int)]) := by unfold Hid; rw [hu.out, hv.out]
          have hB4 := hB3.trans (hb4.mono (by omega))
          have hx4 := hx3.below hb4 (by omega)
          have hy4 := hy3.below hb4 (by omega)
          have hz4 : w.heap.size + 2 ≤ w4.heap.size := by have := hb4.size; omega
          have hul : u.length = v.length + 1 := by rw [hu.out]; simp
          have hul2 : u.length ≤ 1025 := by omega
          have hul0 : 0 < u.length := by omega
          have hokU : Hid (h.m.okS u) := by
            unfold Hid; rw [hu.out]
            intro y hy
            rcases List.mem_append.1 hy with hy | hy
            · exact HWO.out y hy
            · rw [List.mem_singleton.1 hy]; omega
          have hokM : Hid (m.okS u) := by
            unfold Hid Mach.okS; rw [← hi.out]; exact hokU.out
          have HC := Lib.hid (outsR_any (HH.out.below hB4).m hsu (Lib.hid ok.out.m) (Lib.hid ⟨ok.out.m.s0, ok.out.m.s1⟩) hokU (by omega))
          have HSU := Lib.hid (fal hsu)
          clear hsu hb4 hB3 hx3 hy3 hz3 hul
          go_wp2_with fail
          refine (HC.out).mono ?_
          rintro e w5 ⟨a5, c5, l5, rfl, hl5, hs5, hb5⟩
          have hB5 := hB4.trans (hb5.mono (by omega))
          have hx5 := hx4.below hb5 (by omega)
          have hy5 := hy4.below hb5 (by omega)
          have hz5 : w.heap.size + 2 ≤ w5.heap.size := by have := hb5.size; omega
          have HSU := Lib.hid (HSU.out.below hb5)
          have HS5 := Lib.hid (fal hs5)
          have HC := Lib.hid (outsR_any (HM.out.below hB5) HSU.out okm (Lib.hid ⟨okm.out.s0, okm.out.s1⟩) hokM (by omega))
          clear hs5 hb5 hB4 hx4 hy4 hz4
          go_wp2_with fail
          refine (HC.out).mono ?_
          rintro e w6 ⟨a6, c6, l6, rfl, hl6, hs6, hb6⟩
          have hB6 := hB5.trans (hb6.mono (by omega))
          have hx6 := hx5.below hb6 (by omega)
          have hy6 := hy5.below hb6 (by omega)
          have hz6 : w.heap.size + 2 ≤ w6.heap.size := by have := hb6.size; omega
          have hs5 := HS5.out.below hb6
          obtain ⟨e5, g5⟩ := lastO_get hl5.out hul0
          obtain ⟨e6, g6⟩ := lastO_get hl6.out hul0
          rw [← e5] at g5
          rw [← e6] at g6
          have n5 : l5.length - 1 < l5.length := by omega
          have n6 : l6.length - 1 < l6.length := by omega
          have t5 : (l5.length : Int) - 1 = ((l5.length - 1 : Nat) : Int) := by omega
          have t6 : (l6.length : Int) - 1 = ((l6.length - 1 : Nat) : Int) := by omega
          obtain ⟨b5, o5, rfl, hc5⟩ := hs5.at_some g5
          obtain ⟨b6, o6, rfl, hc6⟩ := hs6.at_some g6
          have hll5 := hs5.le
          have hll6 := hs6.le
          have hul3 := HSU.out.le
          generalize hp : h.m.lastO u = p at *
          generalize hq : m.lastO u = q at *
          have HP : Hid (h.m.lastO (h.ac k ++ [(j : Int)]) = p) := by unfold Hid; rw [← hU.out, hp]
          have HQ : Hid (m.lastO (h.ac k ++ [(j : Int)]) = q) := by unfold Hid; rw [← hU.out, hq]
          have KB := fun n => (Below.refl w6.heap.size w6).trans (below_drewN _ w6 n)
          clear hp hq HC hs5 hs6 hb6 hB5 hx5 hy5 hz5 g5 g6 e5 e6
          by_cases hpq : p = q
          · have hpb : (p != q) = false := by simp [hpq]
            have hF2 : Hid (∀ a : Nat, a < j + 1 → h.m.lastO (h.ac k ++ [(a : Int)]) = m.lastO (h.ac k ++ [(a : Int)])) := by
              intro a ha
              by_cases e : a = j
              · subst e; rw [HP.out, HQ.out, hpq]
              · exact hF.out a (by omega)
            clear hpq
            go_wp2
            refine wp_quiet_fast (by kernel_rfl) (by kernel_rfl) ?_
            repeat (first | go_big_quiet_step (fail) | quiet_step (fail))
            refine wpQuiet_nil ?_
            intro _ hw'
            obtain ⟨nq, hw''⟩ := hw'
            subst hw''
            go_wp2
            go_roundw
            case rel => exact ⟨j + 1, by omega, by go_num, hF2, hx6.below (KB nq) (by omega), hy6.below (KB nq) (by omega), by simpa using hz6, bl_drewN hB6 _⟩
            case measure => simp [intOf]; omega
          · have hpb : (p != q) = true := by simp [hpq]
            have hN : Hid (false = decide (hon h m)) := hon_no hlt hlj (by rw [HP.out, HQ.out]; exact hpq)
            clear hpq
            go_wp2
            refine wp_quiet_fast (by kernel_rfl) (by kernel_rfl) ?_
            repeat (first | go_big_quiet_step (fail) | quiet_step (fail))
            refine wpQuiet_nil ?_
            intro _ hw'
            obtain ⟨nq, hw''⟩ := hw'
            subst hw''
            go_wp2
            go_ret
            exact ⟨ret_b hN.out, bl_drewN hB6 _⟩
        · have hlj3 : ¬ (j : Int) < h.m.inputs := by omega
          have hE2 : Hid (honTo h m (k + 1)) := hon_succ hE.out (fun a ha => hF.out a (by omega))
          go_wp2
          go_roundw
          case rel => exact ⟨k + 1, by omega, by go_num, hE2, hx1, hy1, hz1, hB1⟩
          case measure => simp [intOf]; omega
    · go_wp2
      go_ret
      exact ⟨ret_b (hon_yes hlt hE.out), hB1⟩
end
end Go.Proofs.Ytlgdijgfphedpaa
/- What a search that ends says: plain words. Condition where named: the answers are as long as their words. -/
namespace Go.Proofs.Ytlgdijgfphedpaa
open Go.RowKit
namespace Sj
variable {x : Sj} {nx : Nat → Nat → Nat}
theorem noS_eq : noS = ⟨[], 0, []⟩ := rfl
/-- An error comes alone; a word comes alone and is not answered. -/
theorem srch_err : ∀ (n lo hi : Nat), ((x.srch nx n lo hi).2.2 ≠ 0 → (x.srch nx n lo hi).2.1 = [] ∧ (x.srch nx n lo hi).1 = noS) ∧ ((x.srch nx n lo hi).2.1 ≠ [] → x.o.known (x.srch nx n lo hi).2.1 = false ∧ (x.srch nx n lo hi).1 = noS)
  | 0, lo, hi => spl_err lo
  | n + 1, lo, hi => by
    unfold srch
    split
    · split
      · exact ⟨fun _ => ⟨rfl, rfl⟩, fun h => absurd rfl h⟩
      · split
        · rename_i h; exact ⟨fun h => absurd rfl h, fun _ => ⟨h, rfl⟩⟩
        · split
          · exact srch_err n _ _
          · exact srch_err n _ _
    · exact spl_err lo
where
  spl_err (lo : Nat) : ((x.spl lo).2.2 ≠ 0 → (x.spl lo).2.1 = [] ∧ (x.spl lo).1 = noS) ∧ ((x.spl lo).2.1 ≠ [] → x.o.known (x.spl lo).2.1 = false ∧ (x.spl lo).1 = noS) := by
    unfold spl
    refine ⟨fun h => ⟨rfl, ?_⟩, fun h => absurd rfl h⟩
    cases hs : x.sure lo with
    | true => rw [(spl_yes hs).2] at h; exact absurd rfl h
    | false => exact (spl_no hs).1
theorem res_err : ((x.res nx).2.2 ≠ 0 → (x.res nx).2.1 = [] ∧ (x.res nx).1 = noS) ∧ ((x.res nx).2.1 ≠ [] → x.o.known (x.res nx).2.1 = false ∧ (x.res nx).1 = noS) := by
  unfold res
  split
  · exact ⟨fun _ => ⟨rfl, rfl⟩, fun h => absurd rfl h⟩
  · exact srch_err _ _ _

/-- The bounds stay in order. -/
def Nxt (nx : Nat → Nat → Nat) : Prop := ∀ lo hi, 1 < hi - lo → lo < nx lo hi ∧ nx lo hi < hi
theorem mid_nxt : Nxt mid := fun lo hi h => by unfold mid; omega
theorem nxt_nxt : Nxt nxt := fun lo hi h => by unfold nxt; omega
/-- A search that ends without a word ends at a break. -/
theorem srch_break (hx : Nxt nx) : ∀ (n lo hi : Nat), lo < hi → hi ≤ x.w.length → hi - lo ≤ n → x.o.known (x.q lo) = true → x.bad lo = true → (hi = x.w.length ∨ x.o.known (x.q hi) = true ∧ x.bad hi = false) →
    (x.srch nx n lo hi).2.1 = [] → (x.srch nx n lo hi).2.2 = 0 → (∀ i, i < x.w.length → x.q i ≠ []) →
    ∃ i, i < x.w.length ∧ x.srch nx n lo hi = x.spl i ∧ x.o.known (x.q i) = true ∧ x.bad i = true ∧ (i + 1 = x.w.length ∨ x.o.known (x.q (i + 1)) = true ∧ x.bad (i + 1) = false)
  | 0, lo, hi, h, _, hn, _, _, _, _, _, _ => by omega
  | n + 1, lo, hi, h, hl, hn, hk, hb, hg, hu, he, hne => by
    by_cases hgap : 1 < hi - lo
    · have ⟨h1, h2⟩ := hx lo hi hgap
      by_cases hlong : 1024 < (x.q (nx lo hi)).length
      · rw [srch_long rfl hgap hlong] at he; simp at he
      · cases hkn : x.o.known (x.q (nx lo hi)) with
        | false => rw [srch_ask rfl hgap hlong hkn] at hu; exact absurd hu (hne _ (by omega))
        | true =>
          cases hbad : x.bad (nx lo hi) with
          | true =>
            rw [srch_bad rfl hgap hlong hkn hbad] at hu he ⊢
            exact srch_break hx n _ _ h2 hl (by omega) hkn hbad hg hu he hne
          | false =>
            rw [srch_good rfl hgap hlong hkn hbad] at hu he ⊢
            exact srch_break hx n _ _ h1 (by omega) (by omega) hk hb (.inr ⟨hkn, hbad⟩) hu he hne
    · have e : hi = lo + 1 := by omega
      refine ⟨lo, by omega, srch_end (by omega), hk, hb, ?_⟩
      rw [← e]; exact hg

theorem own_cons {i : Nat} {a : Int} (h : x.w[i]? = some a) : x.own i = x.h.m.ot (x.st i).toNat a.toNat :: x.own (i + 1) := by
  have hi : i < x.w.length := by
    by_cases e : i < x.w.length
    · exact e
    · rw [List.getElem?_eq_none (by omega)] at h; simp at h
  unfold own
  rw [st_succ h, List.drop_eq_getElem_cons hi]
  rw [List.getElem?_eq_getElem hi] at h
  obtain rfl : x.w[i] = a := by simpa using h
  rfl
theorem q_cons {i : Nat} {a : Int} (h : x.w[i]? = some a) : x.ax i ++ [a] ++ x.w.drop (i + 1) = x.q i := by
  have hi : i < x.w.length := by
    by_cases e : i < x.w.length
    · exact e
    · rw [List.getElem?_eq_none (by omega)] at h; simp at h
  unfold q
  rw [List.drop_eq_getElem_cons hi]
  rw [List.getElem?_eq_getElem hi] at h
  obtain rfl : x.w[i] = a := by simpa using h
  simp
theorem wErr_part {w v : List Int} {n : Int} (h : wErr w n = 0) (hv : ∀ y ∈ v, y ∈ w) (hl : v.length ≤ 1024) : wErr v n = 0 := by
  unfold wErr at h ⊢
  split at h
  · simp at h
  · rename_i h1
    split at h
    · simp at h
    · split at h
      · simp at h
      · rename_i h3
        rw [if_neg h1, if_neg (by omega), if_neg]
        rintro ⟨y, hy, hb⟩
        exact h3 ⟨y, hv y hy, hb⟩

/-- A split that is found is one. -/
theorem found (ok : x.Ok) (hl : x.o.lens) {i : Nat} (hi : i < x.w.length) (hk : x.o.known (x.q i) = true) (hb : x.bad i = true) (hg : i + 1 = x.w.length ∨ x.o.known (x.q (i + 1)) = true ∧ x.bad (i + 1) = false) (hs : (x.spl i).2.2 = 0) :
    (Ck.mk x.h x.o (x.spl i).1).err = 0 ∧ (Ck.mk x.h x.o (x.spl i).1).res = true ∧ 0 < (x.spl i).1.suf.length := by
  have hsu : x.sure i = true := by
    cases e : x.sure i with
    | true => rfl
    | false => unfold spl at hs; rw [(spl_no e).2] at hs; simp at hs
  have hsp : (x.spl i).1 = ⟨x.ax i, x.w.getD i 0, x.w.drop (i + 1)⟩ := by unfold spl; exact (spl_yes hsu).1
  obtain ⟨a, ha⟩ : ∃ a, x.w[i]? = some a := ⟨x.w[i], List.getElem?_eq_getElem hi⟩
  have hal := ans_len hl hk
  rw [x.q_len i] at hal
  -- the first output is right
  have h0 : (x.o.ans (x.q i)).drop (x.ax i).length = x.h.m.ot (x.st i).toNat a.toNat :: (x.o.ans (x.q i)).drop ((x.ax i).length + 1) := by
    have hlt : (x.ax i).length < (x.o.ans (x.q i)).length := by omega
    rw [List.drop_eq_getElem_cons hlt]
    unfold sure at hsu
    have := of_decide_eq_true hsu
    rw [getD_of_some ha, getD_of_some (List.getElem?_eq_getElem hlt)] at this
    rw [this]
  have h1 : (x.o.ans (x.q i)).drop ((x.ax i).length + 1) ≠ x.own (i + 1) := by
    intro e
    unfold bad at hb
    rw [h0, own_cons ha, e] at hb
    simp at hb
  have hlast : i + 1 ≠ x.w.length := by
    intro e
    apply h1
    have e1 : ((x.o.ans (x.q i)).drop ((x.ax i).length + 1)).length = 0 := by rw [List.length_drop]; omega
    have e2 : (x.own (i + 1)).length = 0 := by rw [x.own_len]; omega
    rw [List.length_eq_zero_iff.1 e1, List.length_eq_zero_iff.1 e2]
  obtain ⟨hk2, hb2⟩ : x.o.known (x.q (i + 1)) = true ∧ x.bad (i + 1) = false := by
    rcases hg with hg | hg
    · exact absurd hg hlast
    · exact hg
  have hgood : (x.o.ans (x.q (i + 1))).drop (x.ax (i + 1)).length = x.own (i + 1) := by
    unfold bad at hb2; simpa using hb2
  have hxa := ok.w a (List.mem_of_getElem? ha)
  have hst := ok.st i
  have hen : x.h.m.endW x.h.m.start (x.ax i ++ [a]) = x.st (i + 1) := by rw [Mach.endW_snoc, (ok.ax i).2.2, st_succ ha]
  have hu : (Ck.mk x.h x.o (x.spl i).1).u = x.ax i ++ [a] := by unfold Ck.u; rw [hsp]; simp only; rw [getD_of_some ha]
  have hv : (Ck.mk x.h x.o (x.spl i).1).v = x.ax (i + 1) := by unfold Ck.v; rw [hu]; simp only; rw [hen]; rfl
  have hsuf : (Ck.mk x.h x.o (x.spl i).1).s.suf = x.w.drop (i + 1) := by simp only; rw [hsp]
  have hww : wErr x.w x.h.m.inputs = 0 := by
    have i0 := ok.h.m.i0
    have i1 := ok.h.m.i1
    have hlw := ok.len
    unfold wErr
    rw [if_neg (by omega), if_neg (by omega), if_neg]
    rintro ⟨y, hy, hb⟩
    have := ok.w y hy
    omega
  have herr : (Ck.mk x.h x.o (x.spl i).1).err = 0 := by
    have h2 : wErr (x.ax i) x.h.m.inputs = 0 := (ok.h.word (x.st i).toNat (by have := ok.h.len; omega)).1
    unfold Ck.err
    rw [hsp]
    simp only
    have hme : x.h.err = 0 := by
      unfold Hy.err
      have hsts : x.h.stsErr x.h.acc.length = 0 := by
        have : ∀ k, k ≤ x.h.acc.length → x.h.stsErr k = 0 := by
          intro k
          induction k with
          | zero => intro _; rfl
          | succ k ih =>
            intro hk3
            show (if x.h.stsErr k = 0 then x.h.stErr k else x.h.stsErr k) = 0
            rw [ih (by omega), if_pos rfl]
            have hw3 := ok.h.word k (by omega)
            unfold Hy.stErr
            rw [if_neg (by simp [hw3.1]), if_neg (by simp [hw3.2])]
        exact this _ (Nat.le_refl _)
      rw [if_neg (by simp [x.h.m.err_of_ok ok.h.m]), if_neg (by simp [ok.h.len]), if_neg (by simp [hsts]), if_neg (by simp [ok.h.start])]
    rw [if_neg (by simp [hme]), if_neg (by simp [ok.inp]), if_neg (by simp [h2]), if_neg (by rw [getD_of_some ha]; omega)]
    exact wErr_part hww (fun y hy => List.mem_of_mem_drop hy) (by rw [List.length_drop]; have := ok.len; omega)
  refine ⟨herr, ?_, by rw [hsp]; simp only; rw [List.length_drop]; omega⟩
  unfold Ck.res
  rw [if_pos herr]
  unfold Ck.tst
  rw [hu, hv, hsuf]
  have e1 : x.ax i ++ [a] ++ x.w.drop (i + 1) = x.q i := q_cons ha
  have e2 : x.ax (i + 1) ++ x.w.drop (i + 1) = x.q (i + 1) := rfl
  simp only [e1, e2, hk, hk2, hgood, Bool.true_and, Bool.not_eq_true', decide_eq_false_iff_not]
  simpa using h1
theorem res_found (hx : Nxt nx) (hl : x.o.lens) (h1 : (x.res nx).2.1 = []) (h2 : (x.res nx).2.2 = 0) : (Ck.mk x.h x.o (x.res nx).1).err = 0 ∧ (Ck.mk x.h x.o (x.res nx).1).res = true ∧ 0 < (x.res nx).1.suf.length := by
  have hae : x.argErr = 0 := by
    by_cases e : x.argErr = 0
    · exact e
    · unfold res at h2; rw [if_pos e] at h2; exact absurd h2 e
  have ok := ok_of hae
  have hr : x.res nx = x.srch nx x.w.length 0 x.w.length := by unfold res; rw [if_neg (by simp [hae])]
  rw [hr] at h1 h2 ⊢
  obtain ⟨i, hi, hs, hk, hb, hg⟩ := srch_break hx x.w.length 0 x.w.length ok.pos (Nat.le_refl _) (by omega) ok.kn0 ok.bad0 (.inl rfl) h1 h2 (fun i hi e => by
    have := congrArg List.length e
    rw [x.q_len] at this
    simp at this; omega)
  rw [hs] at h2 ⊢
  exact found ok hl hi hk hb hg h2
end Sj
theorem Ck.sym_of {x : Ck} (h : x.err = 0) : i64 x.s.sym := by
  rcases Ck.cases (x := x) with ⟨h1, h2, _⟩ | ⟨_, _, _, h2, _⟩ | ⟨_, _, _, h1, h2, _⟩ | ⟨_, _, _, _, _, h2, _⟩ | ⟨_, _, _, _, _, h1, h2, _⟩ | ⟨ok, _, _, _, h2, _⟩
  · rw [h2] at h; exact absurd h h1
  · rw [h2] at h; simp at h
  · rw [h2] at h; exact absurd h h1
  · rw [h2] at h; simp at h
  · rw [h2] at h; exact absurd h h1
  · have := ok.m.i1
    unfold i64; omega
end Go.Proofs.Ytlgdijgfphedpaa
/- Every counterexample has a split, found with few queries: plain words. Condition: the hypothesis and the machine are valid, the transitions are right. -/
namespace Go.Proofs.Ytlgdijgfphedpaa
open Go.RowKit
theorem halv_mono : ∀ (n a : Nat), a ≤ n → halv a ≤ halv n := by
  intro n
  induction n using Nat.strongRecOn with
  | _ n ih =>
    intro a ha
    by_cases h : 1 < n
    · rw [halv_hit h]
      by_cases h2 : 1 < a
      · rw [halv_hit h2]
        have := ih ((n + 1) / 2) (by omega) ((a + 1) / 2) (by omega)
        omega
      · rw [halv_end h2]; omega
    · rw [halv_end h, halv_end (show ¬ 1 < a by omega)]; omega
/-- How many positions of the bisection are not known. -/
def unk (q : Nat → List Int) (K : List Int → Bool) (bd : Nat → Bool) : Nat → Nat → Nat → Nat
  | 0, _, _ => 0
  | f + 1, lo, hi => if 1 < hi - lo then (if K (q (Sj.mid lo hi)) = true then 0 else 1) + (if bd (Sj.mid lo hi) = true then unk q K bd f (Sj.mid lo hi) hi else unk q K bd f lo (Sj.mid lo hi)) else 0
theorem unk_le {q : Nat → List Int} {K : List Int → Bool} {bd : Nat → Bool} : ∀ (f lo hi : Nat), unk q K bd f lo hi ≤ halv (hi - lo)
  | 0, lo, hi => by simp [unk]
  | f + 1, lo, hi => by
    unfold unk
    split
    · rename_i h
      rw [halv_hit h]
      have h1 := unk_le (q := q) (K := K) (bd := bd) f (Sj.mid lo hi) hi
      have h2 := unk_le (q := q) (K := K) (bd := bd) f lo (Sj.mid lo hi)
      have h3 := halv_mono ((hi - lo + 1) / 2) (hi - Sj.mid lo hi) (by unfold Sj.mid; omega)
      have h4 := halv_mono ((hi - lo + 1) / 2) (Sj.mid lo hi - lo) (by unfold Sj.mid; omega)
      split <;> split <;> omega
    · omega
theorem unk_mono {q : Nat → List Int} {K K' : List Int → Bool} {bd : Nat → Bool} (h : ∀ v, K v = true → K' v = true) : ∀ (f lo hi : Nat), unk q K' bd f lo hi ≤ unk q K bd f lo hi
  | 0, lo, hi => by simp [unk]
  | f + 1, lo, hi => by
    unfold unk
    split
    · have h1 := unk_mono (q := q) (bd := bd) h f (Sj.mid lo hi) hi
      have h2 := unk_mono (q := q) (bd := bd) h f lo (Sj.mid lo hi)
      have h3 := h (q (Sj.mid lo hi))
      by_cases e : K (q (Sj.mid lo hi)) = true
      · rw [if_pos e, if_pos (h3 e)]; split <;> omega
      · rw [if_neg e]; split <;> split <;> omega
    · omega
namespace Sj
variable {x : Sj}
/-- A query is an unknown position of the bisection. -/
theorem srch_unk {bd : Nat → Bool} (hb : ∀ i, x.o.known (x.q i) = true → x.bad i = bd i) (hl : ∀ i, (x.q i).length ≤ 1024) : ∀ (f lo hi : Nat), hi ≤ x.w.length → (x.srch mid f lo hi).2.1 ≠ [] →
    ∃ i, i ≤ x.w.length ∧ (x.srch mid f lo hi).2.1 = x.q i ∧ ∀ K' : List Int → Bool, (∀ v, x.o.known v = true → K' v = true) → K' (x.q i) = true → unk x.q K' bd f lo hi + 1 ≤ unk x.q x.o.known bd f lo hi
  | 0, lo, hi, _, h => absurd rfl h
  | f + 1, lo, hi, hh, h => by
    by_cases hgap : 1 < hi - lo
    · have ⟨hm1, hm2⟩ := mid_nxt lo hi hgap
      have hlong := hl (mid lo hi)
      cases hkn : x.o.known (x.q (mid lo hi)) with
      | false =>
        rw [srch_ask rfl hgap (by omega) hkn] at h ⊢
        refine ⟨mid lo hi, by omega, rfl, fun K' hK hq => ?_⟩
        unfold unk
        rw [if_pos hgap, if_pos hgap, if_pos hq, hkn]
        simp only [Bool.false_eq_true, if_false]
        have h1 := unk_mono (q := x.q) (bd := bd) hK f (mid lo hi) hi
        have h2 := unk_mono (q := x.q) (bd := bd) hK f lo (mid lo hi)
        split <;> omega
      | true =>
        have hbm := hb _ hkn
        cases hbad : x.bad (mid lo hi) with
        | true =>
          rw [srch_bad rfl hgap (by omega) hkn hbad] at h ⊢
          obtain ⟨i, hi', he, hu⟩ := srch_unk hb hl f _ _ hh h
          refine ⟨i, hi', he, fun K' hK hq => ?_⟩
          have := hu K' hK hq
          unfold unk
          rw [if_pos hgap, if_pos hgap, if_pos hkn, if_pos (hK _ hkn), ← hbm, hbad, if_pos rfl, if_pos rfl]
          omega
        | false =>
          rw [srch_good rfl hgap (by omega) hkn hbad] at h ⊢
          obtain ⟨i, hi', he, hu⟩ := srch_unk hb hl f _ _ (by omega) h
          refine ⟨i, hi', he, fun K' hK hq => ?_⟩
          have := hu K' hK hq
          unfold unk
          rw [if_pos hgap, if_pos hgap, if_pos hkn, if_pos (hK _ hkn), ← hbm, hbad, if_neg (by decide), if_neg (by decide)]
          omega
    · rw [srch_end (by omega)] at h; exact absurd rfl h
theorem srch_fine (hs : ∀ i, i < x.w.length → x.o.known (x.q i) = true → x.sure i = true) (hl : ∀ i, (x.q i).length ≤ 1024) : ∀ (f lo hi : Nat), lo < x.w.length → hi ≤ x.w.length → x.o.known (x.q lo) = true → (x.srch mid f lo hi).2.2 = 0
  | 0, lo, hi, h1, _, hk => (spl_yes (hs lo h1 hk)).2
  | f + 1, lo, hi, h1, h2, hk => by
    by_cases hgap : 1 < hi - lo
    · have ⟨hm1, hm2⟩ := mid_nxt lo hi hgap
      have hlong := hl (mid lo hi)
      cases hkn : x.o.known (x.q (mid lo hi)) with
      | false => rw [srch_ask rfl hgap (by omega) hkn]
      | true =>
        cases hbad : x.bad (mid lo hi) with
        | true => rw [srch_bad rfl hgap (by omega) hkn hbad]; exact srch_fine hs hl f _ _ (by omega) h2 hkn
        | false => rw [srch_good rfl hgap (by omega) hkn hbad]; exact srch_fine hs hl f _ _ h1 (by omega) hk
    · rw [srch_end (by omega)]; exact (spl_yes (hs lo h1 hk)).2
end Sj
/-- What the statement supposes. -/
structure Sq (h : Hy) (m : Mach) (w : List Int) : Prop where
  e : h.err = 0
  om : m.Ok
  inp : h.m.inputs = m.inputs
  ws : m.okS w
  wl : w.length ≤ 60
  al : ∀ r ∈ h.acc, r.length ≤ 40
  ne : h.m.outsW h.m.start w ≠ m.outsW m.start w
  hon : hon h m
/-- What is not known yet. -/
def Sq.U (h : Hy) (m : Mach) (w : List Int) (o : Ob) : Nat :=
  unk (Sj.q ⟨h, o, w⟩) o.known (fun i => !decide ((m.outsW m.start (Sj.q ⟨h, o, w⟩ i)).drop (Sj.ax ⟨h, o, w⟩ i).length = Sj.own ⟨h, o, w⟩ i)) w.length 0 w.length
namespace Sq
variable {h : Hy} {m : Mach} {w : List Int} {o : Ob} {n : Nat}
theorem U_le : U h m w o ≤ halv w.length := unk_le _ _ _
theorem w0 (k : Sq h m w) : w ≠ [] := by
  rintro rfl
  exact k.ne (by simp [Mach.outsW])
theorem wE (k : Sq h m w) : wErr w h.m.inputs = 0 := by
  have := k.om.i0
  have := k.om.i1
  have := k.wl
  rw [k.inp]
  refine wErr_0 (by omega) (by omega) ?_
  rintro ⟨x, hx, hb⟩
  have := k.ws x hx
  omega
theorem arg (k : Sq h m w) (q : Tq m o n) (kn : o.known w = true) : (Sj.mk h o w).argErr = 0 := by
  unfold Sj.argErr
  simp only
  rw [if_neg (by simp [k.e]), if_neg (by rw [q.inp, k.inp]; simp), if_neg (by simp [k.wE]), if_neg (by simp [kn]), if_neg (by rw [q.ans kn]; exact fun e => k.ne e.symm)]
theorem lastO_snoc (m : Mach) (u : List Int) (a : Int) : m.lastO (u ++ [a]) = m.ot (m.endW m.start u).toNat a.toNat := by
  unfold Mach.lastO
  rw [Mach.outsW_snoc, List.getD_eq_getElem?_getD, List.getElem?_append_right (by rw [Mach.outsW_len]; simp), Mach.outsW_len]
  simp
theorem outs_at (m : Mach) (u r : List Int) (a : Int) : (m.outsW m.start (u ++ a :: r)).getD u.length 0 = m.lastO (u ++ [a]) := by
  rw [lastO_snoc, Mach.outsW_app, List.getD_eq_getElem?_getD, List.getElem?_append_right (by rw [Mach.outsW_len]; omega), Mach.outsW_len]
  simp [Mach.outsW]
theorem sure (k : Sq h m w) (q : Tq m o n) (kn : o.known w = true) {i : Nat} (hi : i < w.length) (hk : o.known (Sj.q ⟨h, o, w⟩ i) = true) : (Sj.mk h o w).sure i = true := by
  have ok := Sj.ok_of (k.arg q kn)
  have hst : 0 ≤ Sj.st ⟨h, o, w⟩ i ∧ Sj.st ⟨h, o, w⟩ i < h.m.next.length := ok.st i
  have hax := ok.ax i
  have hal : h.acc.length = h.m.next.length := ok.h.len
  unfold Sj.sure
  simp only
  rw [decide_eq_true_iff, q.ans hk]
  have hw := k.ws w[i] (List.getElem_mem hi)
  have hg : w.getD i 0 = w[i] := by rw [List.getD_eq_getElem?_getD, List.getElem?_eq_getElem hi]; rfl
  have e : Sj.q ⟨h, o, w⟩ i = Sj.ax ⟨h, o, w⟩ i ++ w[i] :: w.drop (i + 1) := by
    unfold Sj.q; simp only; rw [List.drop_eq_getElem_cons hi]
  rw [e, outs_at, hg]
  have hh := k.hon (Sj.st ⟨h, o, w⟩ i).toNat (by omega) w[i].toNat (by rw [k.inp]; omega)
  have ha : ((w[i].toNat : Nat) : Int) = w[i] := by omega
  rw [ha] at hh
  have hx : Sj.ax ⟨h, o, w⟩ i = h.ac (Sj.st ⟨h, o, w⟩ i).toNat := rfl
  rw [hx, ← hh, lastO_snoc]
  have := hax.2.2
  simp only at this
  rw [← hx, this]
theorem qlen (k : Sq h m w) (i : Nat) : (Sj.q ⟨h, o, w⟩ i).length ≤ 1024 := by
  have hl := Sj.q_len ⟨h, o, w⟩ i
  have : (Sj.ax ⟨h, o, w⟩ i).length ≤ 40 := by
    unfold Sj.ax Hy.ac
    simp only
    rw [List.getD_eq_getElem?_getD]
    cases e : h.acc[(Sj.st ⟨h, o, w⟩ i).toNat]? with
    | none => simp
    | some r => exact k.al r (List.mem_of_getElem? e)
  have := k.wl
  simp only at hl
  omega
theorem qok (k : Sq h m w) (q : Tq m o n) (kn : o.known w = true) (i : Nat) : m.okS (Sj.q ⟨h, o, w⟩ i) := by
  have ok := Sj.ok_of (k.arg q kn)
  intro y hy
  unfold Sj.q at hy
  rcases List.mem_append.1 hy with hy | hy
  · have := (ok.ax i).2.1 y hy
    simp only at this
    rw [← k.inp]; exact this
  · exact k.ws y (List.mem_of_mem_drop hy)
/-- One round. -/
theorem step (k : Sq h m w) (q : Tq m o n) (kn : o.known w = true) (hn : n + 1 ≤ 10000) : ((Sj.mk h o w).res Sj.mid).2.2 = 0 ∧ ∀ u, ((Sj.mk h o w).res Sj.mid).2.1 = u → u ≠ [] →
    m.okS u ∧ wErr u m.inputs = 0 ∧ o.addE (m.trW u) = 0 ∧ o.addO (m.trW u) = o.adds (m.trW u) ∧ Tq m (o.adds (m.trW u)) (n + 1) ∧ (o.adds (m.trW u)).known w = true ∧ U h m w (o.adds (m.trW u)) + 1 ≤ U h m w o := by
  have ha := k.arg q kn
  have ok := Sj.ok_of ha
  have hr : (Sj.mk h o w).res Sj.mid = (Sj.mk h o w).srch Sj.mid w.length 0 w.length := by unfold Sj.res; rw [if_neg (by simp [ha])]
  rw [hr]
  refine ⟨Sj.srch_fine (x := ⟨h, o, w⟩) (fun i hi hk => k.sure q kn hi hk) (fun i => k.qlen i) w.length 0 w.length (List.length_pos_iff.2 k.w0) (Nat.le_refl _) (by rw [ok.q0]; exact kn), fun u hu hne => ?_⟩
  obtain ⟨i, hi, he, hU⟩ := Sj.srch_unk (x := ⟨h, o, w⟩) (bd := fun i => !decide ((m.outsW m.start (Sj.q ⟨h, o, w⟩ i)).drop (Sj.ax ⟨h, o, w⟩ i).length = Sj.own ⟨h, o, w⟩ i))
    (fun i hk => by unfold Sj.bad; simp only at hk ⊢; rw [q.ans hk]) (fun i => k.qlen i) w.length 0 w.length (Nat.le_refl _) (by rw [hu]; exact hne)
  rw [hu] at he
  have hou : m.okS u := by rw [he]; exact k.qok q kn i
  have hul : u.length ≤ 1024 := by rw [he]; exact k.qlen i
  obtain ⟨a1, a2, a3⟩ := q.add k.om hou hul hn
  have hne2 : (m.trW u).inn ≠ [] := hne
  refine ⟨hou, ?_, a1, a2, a3, Ob.known_add hne2 kn, ?_⟩
  · have := k.om.i0
    have := k.om.i1
    refine wErr_0 (by omega) (by omega) ?_
    rintro ⟨x, hx, hb⟩
    have := hou x hx
    omega
  · have := hU (o.adds (m.trW u)).known (fun v hv => Ob.known_add hne2 hv) (by rw [← he]; exact Ob.known_new hne2)
    exact this
end Sq
end Go.Proofs.Ytlgdijgfphedpaa
/- The hypothesis with one state of chapter 25; lists of traces, written out. No condition. -/
namespace Go.Proofs.Ytlgdijgfphedpaa
open Go.RowKit
def oneH : Hy := ⟨⟨2, 0, [[0, 0]], [[1, 0]]⟩, [[]]⟩
theorem i64_sm {x : Int} (h : -1000 ≤ x ∧ x ≤ 1000) : i64 x := by unfold i64; omega
theorem litl {w : World} {vs : Array Value} {T : TypeId} {xs : List Int} {n b : Nat} (hb : w.heap.size = b) (hv : vs.toList = xs.map (.int .i64)) (hx : ∀ x ∈ xs, -1000 ≤ x ∧ x ≤ 1000) (hn : n = xs.length) (hs : n ≤ 100) {M : Nat → Prop} (hM : ¬ M b) :
    Sl M (w.alloc (.cells vs T)) (some ⟨b, 0, none⟩) n xs := by
  subst hb
  exact Sl.lit (heap_alloc_new _ _) hv hM (fun x h => i64_sm (hx x h)) hn (by unfold maxLen; omega)
section
variable {M M' M1 M2 : Nat → Prop} {w : World} {a a' b b' : Option Addr} {c c' d d' : Nat} {T : TypeId}
theorem rep_tr {w : World} {t : Tr} (h : Sl (fun _ => False) w a c t.inn) (h2 : Sl (fun _ => False) w a' c' t.out) : GR.rep (fun _ => False) w [.slice a t.inn.length c, .slice a' t.out.length c'] t := ⟨a, c, a', c', rfl, h, h2⟩
theorem trs1 {t : Tr} {n m g : Nat} (hg : w.heap.size = g) (h : Sl M w a c t.inn) (h2 : Sl M' w a' c' t.out) (hn : n = t.inn.length) (hm : m = t.out.length) :
    Sl (fun _ => False) (w.alloc (.cells #[.slice a n c, .slice a' m c'] T)) (some ⟨g, 0, none⟩) 1 [t] := by
  subst hn hm hg
  refine ⟨by simp, by unfold maxLen; omega, fun j x hj => ?_⟩
  match j, hj with
  | 0, hj =>
    simp at hj; subst hj
    refine ⟨w.heap.size, 0, _, rfl, by simp, id, rep_tr ((fal h).alloc _) ((fal h2).alloc _), fun i u hi => ?_⟩
    rw [cell_of_row _ _ _ _ _ _ (heap_alloc_new _ _)]
    match i, hi with
    | 0, hi => simpa [GR.sz] using hi
    | 1, hi => simpa [GR.sz] using hi
theorem trs2 {t s : Tr} {n m n' m' g : Nat} (hg : w.heap.size = g) (h : Sl M w a c t.inn) (h2 : Sl M' w a' c' t.out) (h3 : Sl M1 w b d s.inn) (h4 : Sl M2 w b' d' s.out) (hn : n = t.inn.length) (hm : m = t.out.length) (hn' : n' = s.inn.length) (hm' : m' = s.out.length) :
    Sl (fun _ => False) (w.alloc (.cells #[.slice a n c, .slice a' m c', .slice b n' d, .slice b' m' d'] T)) (some ⟨g, 0, none⟩) 2 [t, s] := by
  subst hn hm hn' hm' hg
  refine ⟨by simp, by unfold maxLen; omega, fun j x hj => ?_⟩
  match j, hj with
  | 0, hj =>
    simp at hj; subst hj
    refine ⟨w.heap.size, 0, _, rfl, by simp, id, rep_tr ((fal h).alloc _) ((fal h2).alloc _), fun i u hi => ?_⟩
    rw [cell_of_row _ _ _ _ _ _ (heap_alloc_new _ _)]
    match i, hi with
    | 0, hi => simpa [GR.sz] using hi
    | 1, hi => simpa [GR.sz] using hi
  | 1, hj =>
    simp at hj; subst hj
    refine ⟨w.heap.size, 0, _, rfl, by simp, id, rep_tr ((fal h3).alloc _) ((fal h4).alloc _), fun i u hi => ?_⟩
    rw [cell_of_row _ _ _ _ _ _ (heap_alloc_new _ _)]
    match i, hi with
    | 0, hi => simpa [GR.sz] using hi
    | 1, hi => simpa [GR.sz] using hi
end
theorem rows1g {M : Nat → Prop} {w : World} {a : Option Addr} {c n b : Nat} {T : TypeId} {r : List Int} (hb : w.heap.size = b) (h : Sl M w a c r) (hn : n = r.length) (hM : ¬ M b) : Sl M (w.alloc (.cells #[.slice a n c] T)) (some ⟨b, 0, none⟩) 1 [r] := by
  subst hn hb
  refine Sl.litr (heap_alloc_new _ _) hM rfl (by unfold maxLen; omega) fun j x hj => ?_
  match j, hj with
  | 0, hj => simp at hj; subst hj; exact ⟨a, c, rfl, h.alloc _⟩
/-- The world that one leaves behind. -/
abbrev oneW (w : World) : World := (((((((w.alloc (.cells #[.int .i64 2, .int .i64 0, .slice (some ⟨w.heap.size + 1 + 1, 0, none⟩) 1 1, .slice (some ⟨w.heap.size + 1 + 1 + 1 + 1, 0, none⟩) 1 1, .slice (some ⟨w.heap.size + 1 + 1 + 1 + 1 + 1 + 1, 0, none⟩) 1 1] 26)).alloc
  (.cells #[.int .i64 0, .int .i64 0] 3)).alloc (.cells #[.slice (some ⟨w.heap.size + 1, 0, none⟩) 2 2] 30)).alloc (.cells #[.int .i64 1, .int .i64 0] 3)).alloc (.cells #[.slice (some ⟨w.heap.size + 1 + 1 + 1, 0, none⟩) 2 2] 30)).alloc (.cells #[] 3)).alloc
  (.cells #[.slice (some ⟨w.heap.size + 1 + 1 + 1 + 1 + 1, 0, none⟩) 0 0] 30))
theorem one_hp (w : World) : Hp (fun k => k < w.heap.size) (oneW w) (some ⟨w.heap.size + 1 + 1, 0, none⟩) 1 (some ⟨w.heap.size + 1 + 1 + 1 + 1, 0, none⟩) 1 (some ⟨w.heap.size + 1 + 1 + 1 + 1 + 1 + 1, 0, none⟩) 1 oneH ∧ Below w.heap.size w (oneW w) := by
  refine ⟨⟨⟨i64_sm (by decide), i64_sm (by decide), ?_, ?_⟩, ?_⟩, ?_⟩
  · exact ((((rows1g (T := 30) (by simp) (litl (xs := [0, 0]) (T := 3) (by simp) rfl (by decide) rfl (by decide) (by simp)) rfl (by simp; omega)).alloc _).alloc _).alloc _).alloc _
  · exact (((rows1g (T := 30) (by simp) (litl (xs := [1, 0]) (T := 3) (by simp) rfl (by decide) rfl (by decide) (by simp; omega)) rfl (by simp; omega)).alloc _).alloc _)
  · exact rows1g (T := 30) (r := []) (by simp) (Sl.nil _ _ _ (by unfold maxLen; omega)) rfl (by simp; omega)
  · exact ((((((((Below.refl _ _).alloc (Nat.le_refl _) _).alloc (by simp) _).alloc (by simp; omega) _).alloc (by simp; omega) _).alloc (by simp; omega) _).alloc (by simp; omega) _).alloc (by simp; omega) _)
set_option maxRecDepth 100000 in
set_option maxHeartbeats 4000000 in
theorem one_any {w : World} : Calls Try.prog 33 #[] w fun e w' => ∃ (an : Option Addr) (cn : Nat) (ao : Option Addr) (co : Nat) (ac : Option Addr) (cc : Nat), e = .returned (hyV oneH an cn ao co ac cc) ∧ Hp (fun k => k < w.heap.size) w' an cn ao co ac cc oneH ∧ Below w.heap.size w w' := by
  go_enter Try.func33, Try.ntmps33
  go_wp2
  have h := one_hp w
  have q : ∀ o, (oneW w).cell? ⟨w.heap.size, o, none⟩ = (w.alloc (.cells #[.int .i64 2, .int .i64 0, .slice (some ⟨w.heap.size + 1 + 1, 0, none⟩) 1 1, .slice (some ⟨w.heap.size + 1 + 1 + 1 + 1, 0, none⟩) 1 1, .slice (some ⟨w.heap.size + 1 + 1 + 1 + 1 + 1 + 1, 0, none⟩) 1 1] 26)).cell? ⟨w.heap.size, o, none⟩ := fun o =>
    ((((((((Below.refl (w.heap.size + 1) _).alloc (by simp) _).alloc (by simp) _).alloc (by simp) _).alloc (by simp) _).alloc (by simp) _).alloc (by simp) _)).cell (p := ⟨w.heap.size, o, none⟩) (by simp)
  have k0 := q 0
  have k1 := q 1
  have k2 := q 2
  have k3 := q 3
  have k4 := q 4
  rw [cell_of_row _ _ _ _ _ _ (heap_alloc_new _ _)] at k0 k1 k2 k3 k4
  refine bodyPost_ret (v := hyV oneH (some ⟨w.heap.size + 1 + 1, 0, none⟩) 1 (some ⟨w.heap.size + 1 + 1 + 1 + 1, 0, none⟩) 1 (some ⟨w.heap.size + 1 + 1 + 1 + 1 + 1 + 1, 0, none⟩) 1) (by simp [results, Try.results33, go_sem, k0, k1, k2, k3, k4, oneH]) rfl ⟨_, _, _, _, _, _, rfl, h.1, h.2⟩
end Go.Proofs.Ytlgdijgfphedpaa
/- Small facts for the examples of chapter 25. No condition. -/
namespace Go.Proofs.Ytlgdijgfphedpaa
open Go.RowKit
def obA : Ob := ⟨2, [⟨[0, 1], [1, 2]⟩]⟩
def obB : Ob := ⟨2, [⟨[1], [0]⟩, ⟨[0, 1], [1, 2]⟩]⟩
theorem fA : (Sj.mk oneH obA [0, 1]).res Sj.mid = (⟨[], 0, []⟩, [1], 0) := by decide +kernel
theorem fB : (Sj.mk oneH obB [0, 1]).res Sj.mid = (⟨[], 0, [1]⟩, [], 0) := by decide +kernel
theorem cB : (Ck.mk oneH obB ⟨[], 0, [1]⟩).res = true ∧ (Ck.mk oneH obB ⟨[], 0, [1]⟩).err = 0 := by decide +kernel
theorem lensA : obA.lens := by intro t ht; simp [obA] at ht; subst ht; simp
theorem lensB : obB.lens := by
  intro t ht; simp [obB] at ht; rcases ht with rfl | rfl <;> simp
theorem res_eq {r : Sp × List Int × Int} {l1 l2 l3 k1 k2 k3 : List Int} {sy er sz ez : Int} (h : Hid (r = (⟨l1, sy, l2⟩, l3, er))) (h2 : r = (⟨k1, sz, k2⟩, k3, ez)) : l1 = k1 ∧ sy = sz ∧ l2 = k2 ∧ l3 = k3 ∧ er = ez := by
  have h := h.out
  rw [h2] at h
  simp only [Prod.mk.injEq, Sp.mk.injEq] at h
  exact ⟨h.1.1.symm, h.1.2.1.symm, h.1.2.2.symm, h.2.1.symm, h.2.2.symm⟩
section
variable {M : Nat → Prop} {w : World} {a a' b b' : Option Addr} {c c' d d' : Nat} {T : TypeId}
theorem rep_trg {w : World} {t : Tr} (h : Sl M w a c t.inn) (h2 : Sl M w a' c' t.out) : GR.rep M w [.slice a t.inn.length c, .slice a' t.out.length c'] t := ⟨a, c, a', c', rfl, h, h2⟩
theorem trs1g {t : Tr} {n m g : Nat} (hg : w.heap.size = g) (hM : ¬ M g) (h : Sl M w a c t.inn) (h2 : Sl M w a' c' t.out) (hn : n = t.inn.length) (hm : m = t.out.length) :
    Sl M (w.alloc (.cells #[.slice a n c, .slice a' m c'] T)) (some ⟨g, 0, none⟩) 1 [t] := by
  subst hn hm hg
  refine ⟨by simp, by unfold maxLen; omega, fun j x hj => ?_⟩
  match j, hj with
  | 0, hj =>
    simp at hj; subst hj
    refine ⟨w.heap.size, 0, _, rfl, by simp, hM, rep_trg (h.alloc _) (h2.alloc _), fun i u hi => ?_⟩
    rw [cell_of_row _ _ _ _ _ _ (heap_alloc_new _ _)]
    match i, hi with
    | 0, hi => simpa [GR.sz] using hi
    | 1, hi => simpa [GR.sz] using hi
theorem trs2g {t s : Tr} {n m n' m' g : Nat} (hg : w.heap.size = g) (hM : ¬ M g) (h : Sl M w a c t.inn) (h2 : Sl M w a' c' t.out) (h3 : Sl M w b d s.inn) (h4 : Sl M w b' d' s.out) (hn : n = t.inn.length) (hm : m = t.out.length) (hn' : n' = s.inn.length) (hm' : m' = s.out.length) :
    Sl M (w.alloc (.cells #[.slice a n c, .slice a' m c', .slice b n' d, .slice b' m' d'] T)) (some ⟨g, 0, none⟩) 2 [t, s] := by
  subst hn hm hn' hm' hg
  refine ⟨by simp, by unfold maxLen; omega, fun j x hj => ?_⟩
  match j, hj with
  | 0, hj =>
    simp at hj; subst hj
    refine ⟨w.heap.size, 0, _, rfl, by simp, hM, rep_trg (h.alloc _) (h2.alloc _), fun i u hi => ?_⟩
    rw [cell_of_row _ _ _ _ _ _ (heap_alloc_new _ _)]
    match i, hi with
    | 0, hi => simpa [GR.sz] using hi
    | 1, hi => simpa [GR.sz] using hi
  | 1, hj =>
    simp at hj; subst hj
    refine ⟨w.heap.size, 0, _, rfl, by simp, hM, rep_trg (h3.alloc _) (h4.alloc _), fun i u hi => ?_⟩
    rw [cell_of_row _ _ _ _ _ _ (heap_alloc_new _ _)]
    match i, hi with
    | 0, hi => simpa [GR.sz] using hi
    | 1, hi => simpa [GR.sz] using hi
end
section
variable {P : Program} {Q : Exit → Act → World → Prop} {md : Region.Mode} {S : World → Prop} {L : List Nat}
/-- Three that may come up. -/
theorem wpAnyL_3 {l ri rj rk : List Oper} {i j k : Nat} {oi oj ok : Oper} {fuel : Nat} {listed : Array Bool} {a : Act} {w : World} (hr : Region.ready md l.toArray listed = [i, j, k]) (hoi : l.drop i = oi :: ri) (hoj : l.drop j = oj :: rj) (hok : l.drop k = ok :: rk)
    (hwi : Region.wanted oi (yielded l.toArray a.tmps) = true) (hwj : Region.wanted oj (yielded l.toArray a.tmps) = true) (hwk : Region.wanted ok (yielded l.toArray a.tmps) = true)
    (hi : ∀ K : Act → World → Prop, (∀ a' w', (waits md l.toArray L i = false → S w') → wpAnyL P md l.toArray Q S L fuel (listed.setIfInBounds i true) a' w' → K a' w') → oi.wp P a w K Q)
    (hj : ∀ K : Act → World → Prop, (∀ a' w', (waits md l.toArray L j = false → S w') → wpAnyL P md l.toArray Q S L fuel (listed.setIfInBounds j true) a' w' → K a' w') → oj.wp P a w K Q)
    (hk : ∀ K : Act → World → Prop, (∀ a' w', (waits md l.toArray L k = false → S w') → wpAnyL P md l.toArray Q S L fuel (listed.setIfInBounds k true) a' w' → K a' w') → ok.wp P a w K Q) :
    wpAnyL P md l.toArray Q S L (fuel + 1) listed a w := by
  refine ⟨(fun h0 => by rw [h0] at hr; cases hr), (fun n hn => ?_)⟩
  rw [hr] at hn
  rcases List.mem_cons.1 hn with rfl | hn
  · unfold wpOp
    simp only [at_of_drop hoi, hwi, if_true]
    exact .inl (hi _ fun a' w' hS hrest => ⟨hS, hrest⟩)
  rcases List.mem_cons.1 hn with rfl | hn
  · unfold wpOp
    simp only [at_of_drop hoj, hwj, if_true]
    exact .inl (hj _ fun a' w' hS hrest => ⟨hS, hrest⟩)
  · obtain rfl : n = k := by simpa using hn
    unfold wpOp
    simp only [at_of_drop hok, hwk, if_true]
    exact .inl (hk _ fun a' w' hS hrest => ⟨hS, hrest⟩)
end
end Go.Proofs.Ytlgdijgfphedpaa
/- The examples of chapter 25 hold. No condition. Printed by wip/mkaw25.py. -/
namespace Go.Proofs.Ytlgdijgfphedpaa
open Go.RowKit

set_option maxRecDepth 100000 in
set_option maxHeartbeats 16000000 in
theorem aw25_any {w : World} : Calls Try.prog 10 #[] w fun e w' => e = .returned (.bool true) ∧ Below w.heap.size w w' := by
  have hB1 : Below w.heap.size w ((((w.alloc (.cells #[.int .i64 0, .int .i64 1] 3)).alloc (.cells #[.int .i64 1, .int .i64 2] 3)).alloc (.cells #[.slice (some ⟨w.heap.size, 0, none⟩) 2 2, .slice (some ⟨w.heap.size + 1, 0, none⟩) 2 2] 61)).alloc (.cells #[.int .i64 2, .slice (some ⟨w.heap.size + 1 + 1, 0, none⟩) 1 1] 29)) :=
    ((((Below.refl _ _).alloc (Nat.le_refl _) _).alloc (by simp) _).alloc (by simp; omega) _).alloc (by simp; omega) _
  have HO : Hid (Os (fun _ => False) ((((w.alloc (.cells #[.int .i64 0, .int .i64 1] 3)).alloc (.cells #[.int .i64 1, .int .i64 2] 3)).alloc (.cells #[.slice (some ⟨w.heap.size, 0, none⟩) 2 2, .slice (some ⟨w.heap.size + 1, 0, none⟩) 2 2] 61)).alloc (.cells #[.int .i64 2, .slice (some ⟨w.heap.size + 1 + 1, 0, none⟩) 1 1] 29)) (some ⟨w.heap.size + 1 + 1, 0, none⟩) 1 obA) :=
    ⟨i64_sm (by decide), (trs1g (t := ⟨[0, 1], [1, 2]⟩) (by simp) id ((litl (xs := [0, 1]) rfl rfl (by decide) rfl (by decide) id).alloc _) (litl (xs := [1, 2]) (by simp) rfl (by decide) rfl (by decide) id) rfl rfl).alloc _⟩
  have hv : ((((w.alloc (.cells #[.int .i64 0, .int .i64 1] 3)).alloc (.cells #[.int .i64 1, .int .i64 2] 3)).alloc (.cells #[.slice (some ⟨w.heap.size, 0, none⟩) 2 2, .slice (some ⟨w.heap.size + 1, 0, none⟩) 2 2] 61)).alloc (.cells #[.int .i64 2, .slice (some ⟨w.heap.size + 1 + 1, 0, none⟩) 1 1] 29)).heap[w.heap.size + 1 + 1 + 1]? = some (.cells #[.int .i64 2, .slice (some ⟨w.heap.size + 1 + 1, 0, none⟩) 1 1] 29) := by
    have k := heap_alloc_new (((w.alloc (.cells #[.int .i64 0, .int .i64 1] 3)).alloc (.cells #[.int .i64 1, .int .i64 2] 3)).alloc (.cells #[.slice (some ⟨w.heap.size, 0, none⟩) 2 2, .slice (some ⟨w.heap.size + 1, 0, none⟩) 2 2] 61)) (.cells #[.int .i64 2, .slice (some ⟨w.heap.size + 1 + 1, 0, none⟩) 1 1] 29)
    simpa using k
  have hz1 : w.heap.size + 1 + 1 + 1 < ((((w.alloc (.cells #[.int .i64 0, .int .i64 1] 3)).alloc (.cells #[.int .i64 1, .int .i64 2] 3)).alloc (.cells #[.slice (some ⟨w.heap.size, 0, none⟩) 2 2, .slice (some ⟨w.heap.size + 1, 0, none⟩) 2 2] 61)).alloc (.cells #[.int .i64 2, .slice (some ⟨w.heap.size + 1 + 1, 0, none⟩) 1 1] 29)).heap.size := by simp
  go_enter Try.func10, Try.ntmps10
  go_upto_region 2 with (fail)
  generalize hg1 : ((((w.alloc (.cells #[.int .i64 0, .int .i64 1] 3)).alloc (.cells #[.int .i64 1, .int .i64 2] 3)).alloc (.cells #[.slice (some ⟨w.heap.size, 0, none⟩) 2 2, .slice (some ⟨w.heap.size + 1, 0, none⟩) 2 2] 61)).alloc (.cells #[.int .i64 2, .slice (some ⟨w.heap.size + 1 + 1, 0, none⟩) 1 1] 29)) = w1 at *
  clear hg1
  obtain ⟨pv, hpv⟩ : ∃ pv, pv = w.heap.size + 1 + 1 + 1 := ⟨_, rfl⟩
  have hpw : w.heap.size ≤ pv := by omega
  rw [← hpv] at hv hz1 ⊢
  clear hpv
  have hvc : w1.cell? ⟨pv, 0, none⟩ = some (.int .i64 2) ∧ w1.cell? ⟨pv, 1, none⟩ = some (.slice (some ⟨w.heap.size + 1 + 1, 0, none⟩) 1 1) := ⟨by rw [cell_of_row _ _ _ _ _ _ hv]; rfl, by rw [cell_of_row _ _ _ _ _ _ hv]; rfl⟩
  have HV := Lib.hid hv
  have hK0 : Hid (∀ w', Below w1.heap.size w1 w' → w'.cell? ⟨pv, 0, none⟩ = some (.int .i64 2) ∧ w'.cell? ⟨pv, 1, none⟩ = some (.slice (some ⟨w.heap.size + 1 + 1, 0, none⟩) 1 1)) := fun w' hb => ⟨(hb.cell (p := ⟨pv, 0, none⟩) hz1).trans hvc.1, (hb.cell (p := ⟨pv, 1, none⟩) hz1).trans hvc.2⟩
  clear hv hvc
  go_cut [2, 3, 4] from 15 to 22 (fun p u e wx => ∃ (a : Option Addr) (c : Nat), u = .slice a 1 c ∧ e = .int .i64 0 ∧ Hid (Sl (fun k => k < w1.heap.size) wx a c ([1] : List Int)) ∧ Below w1.heap.size w1 wx)
  case first =>
    refine wp_region_L (fun w' => w'.cell? ⟨pv, 0, none⟩ = some (.int .i64 2) ∧ w'.cell? ⟨pv, 1, none⟩ = some (.slice (some ⟨w.heap.size + 1 + 1, 0, none⟩) 1 1)) [1, 4, 5, 6, 7, 10, 11] (by kernel_rfl) ?_
    have hB_u0 := (Below.refl w1.heap.size w1).drew
    have hz_u0 : w1.heap.size ≤ w1.drew.heap.size := Nat.le_refl _
    have hS_u0 := hK0.out _ hB_u0
    generalize hgg : w1.drew = u0 at *
    clear hgg
    refine wpAnyL_take (i := 1) (v := ?v37) rfl (by kernel_rfl) (by kernel_rfl) (by kernel_rfl) (by kernel_rfl) (fun _ _ _ h => h) (Or.inl ⟨by rfl, ?y37⟩) (by assumption) ?r37
    case y37 => (intro w' hSw; (try dsimp only at hSw); go_simp; try with_reducible rfl)
    try simp only [Act.put, List.setIfInBounds_toArray, List.set_cons_zero, List.set_cons_succ]
    refine wpAnyL_3 (i := 0) (j := 2) (k := 8) (by kernel_rfl) rfl rfl rfl rfl rfl rfl (fun K hK => ?_) (fun K hK => ?_) (fun K hK => ?_)
    · skip
      go_simp
      refine (one_any).mono ?_
      rintro e u1 ⟨an, cn, ao, co, ac, cc, rfl, hh, hb⟩
      have hB_u1 := hB_u0.trans (hb.mono hz_u0)
      have hz_u1 : w1.heap.size ≤ u1.heap.size := by have := hb.size; omega
      have hS_u1 := hK0.out _ hB_u1
      have HH := Lib.hid hh
      refine hK _ _ (fun _ => hS_u1) ?_
      clear hK K hb hh
      try simp only [Act.put, List.setIfInBounds_toArray, List.set_cons_zero, List.set_cons_succ]
      refine wpAnyL_2 (i := 2) (j := 8) (by kernel_rfl) rfl rfl rfl rfl (fun K hK => ?_) (fun K hK => ?_)
      · skip
        go_simp
        have hba := (Below.refl u1.heap.size u1).alloc (Nat.le_refl _) (.cells #[.int .i64 0, .int .i64 1] 3)
        have hB_u2 := hB_u1.alloc hz_u1 (.cells #[.int .i64 0, .int .i64 1] 3)
        have hz_u2 : w1.heap.size ≤ (u1.alloc (.cells #[.int .i64 0, .int .i64 1] 3)).heap.size := by simp; omega
        have hS_u2 := hK0.out _ hB_u2
        have HL : Hid (Sl (fun _ => False) (u1.alloc (.cells #[.int .i64 0, .int .i64 1] 3)) (some ⟨u1.heap.size, 0, none⟩) 2 ([0, 1] : List Int)) := litl (xs := [0, 1]) rfl rfl (by decide) rfl (by decide) id
        have HH := Lib.hid (HH.out.below hba)
        refine hK _ _ (fun _ => hS_u2) ?_
        clear hK K hba
        generalize hgg : u1.alloc (.cells #[.int .i64 0, .int .i64 1] 3) = u2 at *
        clear hgg
        try simp only [Act.put, List.setIfInBounds_toArray, List.set_cons_zero, List.set_cons_succ]
        refine wpAnyL_2 (i := 3) (j := 8) (by kernel_rfl) rfl rfl rfl rfl (fun K hK => ?_) (fun K hK => ?_)
        · skip
          go_simp
          refine (find_any (x := ⟨oneH, obA, [0, 1]⟩) HH.out (HO.out.below hB_u2) HL.out lensA).mono ?_
          rintro e u3 ⟨⟨a1, c1, l1, a2, c2, l2, sy, a3, c3, l3, er, rfl, hres, hp1, hp2, hp3⟩, hb⟩
          obtain ⟨rfl, rfl, rfl, rfl, rfl⟩ := res_eq hres fA
          have hB_u3 := hB_u2.trans (hb.mono hz_u2)
          have hz_u3 : w1.heap.size ≤ u3.heap.size := by have := hb.size; omega
          have hS_u3 := hK0.out _ hB_u3
          have HP3 := Lib.hid (hp3.anti (M' := fun k => k < w1.heap.size) (fun k _ hk => Nat.lt_of_lt_of_le hk hz_u2))
          refine hK _ _ (fun _ => hS_u3) ?_
          clear hK K hb hres hp1 hp2 hp3
          try simp only [Act.put, List.setIfInBounds_toArray, List.set_cons_zero, List.set_cons_succ]
          refine wpAnyL_take (i := 4) (v := ?v38) rfl (by kernel_rfl) (by kernel_rfl) (by kernel_rfl) (by kernel_rfl) (fun _ _ _ h => h) (Or.inl ⟨by rfl, ?y38⟩) (by assumption) ?r38
          case y38 => (intro w' hSw; (try dsimp only at hSw); go_simp; try with_reducible rfl)
          try simp only [Act.put, List.setIfInBounds_toArray, List.set_cons_zero, List.set_cons_succ]
          refine wpAnyL_take (i := 5) (v := ?v39) rfl (by kernel_rfl) (by kernel_rfl) (by kernel_rfl) (by kernel_rfl) (fun _ _ _ h => h) (Or.inl ⟨by rfl, ?y39⟩) (by assumption) ?r39
          case y39 => (intro w' hSw; (try dsimp only at hSw); go_simp; try with_reducible rfl)
          try simp only [Act.put, List.setIfInBounds_toArray, List.set_cons_zero, List.set_cons_succ]
          refine wpAnyL_take (i := 6) (v := ?v40) rfl (by kernel_rfl) (by kernel_rfl) (by kernel_rfl) (by kernel_rfl) (fun _ _ _ h => h) (Or.inl ⟨by rfl, ?y40⟩) (by assumption) ?r40
          case y40 => (intro w' hSw; (try dsimp only at hSw); go_simp; try with_reducible rfl)
          try simp only [Act.put, List.setIfInBounds_toArray, List.set_cons_zero, List.set_cons_succ]
          refine wpAnyL_take (i := 7) (v := ?v41) rfl (by kernel_rfl) (by kernel_rfl) (by kernel_rfl) (by kernel_rfl) (fun _ _ _ h => h) (Or.inl ⟨by rfl, ?y41⟩) (by assumption) ?r41
          case y41 => (intro w' hSw; (try dsimp only at hSw); go_simp; try with_reducible rfl)
          try simp only [Act.put, List.setIfInBounds_toArray, List.set_cons_zero, List.set_cons_succ]
          refine wpAnyL_one (i := 8) (by kernel_rfl) rfl rfl (fun K hK => ?_)
          go_simp
          have hba := (Below.refl u3.heap.size u3).alloc (Nat.le_refl _) zeS
          have hB_u4 := hB_u3.alloc hz_u3 zeS
          have hz_u4 : w1.heap.size ≤ (u3.alloc zeS).heap.size := by simp; omega
          have hS_u4 := hK0.out _ hB_u4
          obtain ⟨q, hq⟩ : ∃ q, q = u3.heap.size := ⟨_, rfl⟩
          have HQ := heap_alloc_new u3 zeS
          rw [← hq] at HQ
          have HQ := Lib.hid HQ
          have hqz : w1.heap.size ≤ q := by omega
          have hql : q < (u3.alloc zeS).heap.size := by simp; omega
          have hF := Lib.hid hba
          have hqf := Lib.hid (Nat.le_of_eq hq.symm)
          refine hK _ _ (fun _ => hS_u4) ?_
          clear hK K hba
          (try rw [← hq])
          clear hq
          generalize hgg : u3.alloc zeS = u4 at *
          clear hgg
          try simp only [Act.put, List.setIfInBounds_toArray, List.set_cons_zero, List.set_cons_succ]
          obtain ⟨⟨k0, k1, k2⟩, kf⟩ := cells3 HQ.out
          have hBz := bel_st3 (g := q) (y0 := .slice a1 0 c1) (y1 := .int .i64 0) (y2 := .slice a2 0 c2) hB_u4 hqz
          have hRz := Lib.hid (set3 (y0 := .slice a1 0 c1) (y1 := .int .i64 0) (y2 := .slice a2 0 c2) HQ.out)
          have hSz := hK0.out _ hBz
          have HP3z := Lib.hid (HP3.out.below (bel_st3 (g := q) (y0 := .slice a1 0 c1) (y1 := .int .i64 0) (y2 := .slice a2 0 c2) hF.out hqf.out))
          refine wpAnyL_one (i := 9) (by kernel_rfl) rfl rfl (fun K hK => ?_)
          go_simp
          refine hK _ _ (fun _ => hSz) ?_
          clear hK K k0 k1 k2 kf
          try simp only [Act.put, List.setIfInBounds_toArray, List.set_cons_zero, List.set_cons_succ]
          refine wpAnyL_take (i := 10) (v := ?v42) rfl (by kernel_rfl) (by kernel_rfl) (by kernel_rfl) (by kernel_rfl) (fun _ _ _ h => h) (Or.inl ⟨by rfl, ?y42⟩) (by assumption) ?r42
          case y42 => (intro w' hSw; (try dsimp only at hSw); go_simp; try with_reducible rfl)
          try simp only [Act.put, List.setIfInBounds_toArray, List.set_cons_zero, List.set_cons_succ]
          refine wpAnyL_take (i := 11) (v := ?v43) rfl (by kernel_rfl) (by kernel_rfl) (by kernel_rfl) (by kernel_rfl) (fun _ _ _ h => h) (Or.inl ⟨by rfl, ?y43⟩) (by assumption) ?r43
          case y43 => (intro w' hSw; (try dsimp only at hSw); go_simp; try with_reducible rfl)
          try simp only [Act.put, List.setIfInBounds_toArray, List.set_cons_zero, List.set_cons_succ]
          refine wpAnyL_done (by kernel_rfl) ?_ _
          go_wp2
          go_meet
          exact ⟨a3, c3, rfl, rfl, HP3z.out, hBz⟩
        · skip
          go_simp
          have hba := (Below.refl u2.heap.size u2).alloc (Nat.le_refl _) zeS
          have hB_u3 := hB_u2.alloc hz_u2 zeS
          have hz_u3 : w1.heap.size ≤ (u2.alloc zeS).heap.size := by simp; omega
          have hS_u3 := hK0.out _ hB_u3
          obtain ⟨q, hq⟩ : ∃ q, q = u2.heap.size := ⟨_, rfl⟩
          have HQ := heap_alloc_new u2 zeS
          rw [← hq] at HQ
          have HQ := Lib.hid HQ
          have hqz : w1.heap.size ≤ q := by omega
          have hql : q < (u2.alloc zeS).heap.size := by simp; omega
          have HH := Lib.hid (HH.out.below hba)
          have HL := Lib.hid (HL.out.below hba)
          refine hK _ _ (fun _ => hS_u3) ?_
          clear hK K hba
          (try rw [← hq])
          clear hq
          generalize hgg : u2.alloc zeS = u3 at *
          clear hgg
          try simp only [Act.put, List.setIfInBounds_toArray, List.set_cons_zero, List.set_cons_succ]
          refine wpAnyL_one (i := 3) (by kernel_rfl) rfl rfl (fun K hK => ?_)
          go_simp
          refine (find_any (x := ⟨oneH, obA, [0, 1]⟩) HH.out (HO.out.below hB_u3) HL.out lensA).mono ?_
          rintro e u4 ⟨⟨a1, c1, l1, a2, c2, l2, sy, a3, c3, l3, er, rfl, hres, hp1, hp2, hp3⟩, hb⟩
          obtain ⟨rfl, rfl, rfl, rfl, rfl⟩ := res_eq hres fA
          have hB_u4 := hB_u3.trans (hb.mono hz_u3)
          have hz_u4 : w1.heap.size ≤ u4.heap.size := by have := hb.size; omega
          have hS_u4 := hK0.out _ hB_u4
          have HQ := Lib.hid ((hb.block q hql).trans HQ.out)
          have HP3 := Lib.hid (hp3.anti (M' := fun k => k < q + 1) (fun k _ hk => by omega))
          have hql : q < u4.heap.size := Nat.lt_of_lt_of_le hql hb.size
          refine hK _ _ (fun _ => hS_u4) ?_
          clear hK K hb hres hp1 hp2 hp3
          try simp only [Act.put, List.setIfInBounds_toArray, List.set_cons_zero, List.set_cons_succ]
          refine wpAnyL_take (i := 4) (v := ?v44) rfl (by kernel_rfl) (by kernel_rfl) (by kernel_rfl) (by kernel_rfl) (fun _ _ _ h => h) (Or.inl ⟨by rfl, ?y44⟩) (by assumption) ?r44
          case y44 => (intro w' hSw; (try dsimp only at hSw); go_simp; try with_reducible rfl)
          try simp only [Act.put, List.setIfInBounds_toArray, List.set_cons_zero, List.set_cons_succ]
          refine wpAnyL_take (i := 5) (v := ?v45) rfl (by kernel_rfl) (by kernel_rfl) (by kernel_rfl) (by kernel_rfl) (fun _ _ _ h => h) (Or.inl ⟨by rfl, ?y45⟩) (by assumption) ?r45
          case y45 => (intro w' hSw; (try dsimp only at hSw); go_simp; try with_reducible rfl)
          try simp only [Act.put, List.setIfInBounds_toArray, List.set_cons_zero, List.set_cons_succ]
          refine wpAnyL_take (i := 6) (v := ?v46) rfl (by kernel_rfl) (by kernel_rfl) (by kernel_rfl) (by kernel_rfl) (fun _ _ _ h => h) (Or.inl ⟨by rfl, ?y46⟩) (by assumption) ?r46
          case y46 => (intro w' hSw; (try dsimp only at hSw); go_simp; try with_reducible rfl)
          try simp only [Act.put, List.setIfInBounds_toArray, List.set_cons_zero, List.set_cons_succ]
          refine wpAnyL_take (i := 7) (v := ?v47) rfl (by kernel_rfl) (by kernel_rfl) (by kernel_rfl) (by kernel_rfl) (fun _ _ _ h => h) (Or.inl ⟨by rfl, ?y47⟩) (by assumption) ?r47
          case y47 => (intro w' hSw; (try dsimp only at hSw); go_simp; try with_reducible rfl)
          try simp only [Act.put, List.setIfInBounds_toArray, List.set_cons_zero, List.set_cons_succ]
          obtain ⟨⟨k0, k1, k2⟩, kf⟩ := cells3 HQ.out
          have hBz := bel_st3 (g := q) (y0 := .slice a1 0 c1) (y1 := .int .i64 0) (y2 := .slice a2 0 c2) hB_u4 hqz
          have hRz := Lib.hid (set3 (y0 := .slice a1 0 c1) (y1 := .int .i64 0) (y2 := .slice a2 0 c2) HQ.out)
          have hSz := hK0.out _ hBz
          have HP3z := Lib.hid (HP3.out.st3 (g := q) (n := w1.heap.size) (y0 := .slice a1 0 c1) (y1 := .int .i64 0) (y2 := .slice a2 0 c2) (by omega) (by omega))
          refine wpAnyL_one (i := 9) (by kernel_rfl) rfl rfl (fun K hK => ?_)
          go_simp
          refine hK _ _ (fun _ => hSz) ?_
          clear hK K k0 k1 k2 kf
          try simp only [Act.put, List.setIfInBounds_toArray, List.set_cons_zero, List.set_cons_succ]
          refine wpAnyL_take (i := 10) (v := ?v48) rfl (by kernel_rfl) (by kernel_rfl) (by kernel_rfl) (by kernel_rfl) (fun _ _ _ h => h) (Or.inl ⟨by rfl, ?y48⟩) (by assumption) ?r48
          case y48 => (intro w' hSw; (try dsimp only at hSw); go_simp; try with_reducible rfl)
          try simp only [Act.put, List.setIfInBounds_toArray, List.set_cons_zero, List.set_cons_succ]
          refine wpAnyL_take (i := 11) (v := ?v49) rfl (by kernel_rfl) (by kernel_rfl) (by kernel_rfl) (by kernel_rfl) (fun _ _ _ h => h) (Or.inl ⟨by rfl, ?y49⟩) (by assumption) ?r49
          case y49 => (intro w' hSw; (try dsimp only at hSw); go_simp; try with_reducible rfl)
          try simp only [Act.put, List.setIfInBounds_toArray, List.set_cons_zero, List.set_cons_succ]
          refine wpAnyL_done (by kernel_rfl) ?_ _
          go_wp2
          go_meet
          exact ⟨a3, c3, rfl, rfl, HP3z.out, hBz⟩
      · skip
        go_simp
        have hba := (Below.refl u1.heap.size u1).alloc (Nat.le_refl _) zeS
        have hB_u2 := hB_u1.alloc hz_u1 zeS
        have hz_u2 : w1.heap.size ≤ (u1.alloc zeS).heap.size := by simp; omega
        have hS_u2 := hK0.out _ hB_u2
        obtain ⟨q, hq⟩ : ∃ q, q = u1.heap.size := ⟨_, rfl⟩
        have HQ := heap_alloc_new u1 zeS
        rw [← hq] at HQ
        have HQ := Lib.hid HQ
        have hqz : w1.heap.size ≤ q := by omega
        have hql : q < (u1.alloc zeS).heap.size := by simp; omega
        have HH := Lib.hid (HH.out.below hba)
        refine hK _ _ (fun _ => hS_u2) ?_
        clear hK K hba
        (try rw [← hq])
        clear hq
        generalize hgg : u1.alloc zeS = u2 at *
        clear hgg
        try simp only [Act.put, List.setIfInBounds_toArray, List.set_cons_zero, List.set_cons_succ]
        refine wpAnyL_one (i := 2) (by kernel_rfl) rfl rfl (fun K hK => ?_)
        go_simp
        have hba := (Below.refl u2.heap.size u2).alloc (Nat.le_refl _) (.cells #[.int .i64 0, .int .i64 1] 3)
        have hB_u3 := hB_u2.alloc hz_u2 (.cells #[.int .i64 0, .int .i64 1] 3)
        have hz_u3 : w1.heap.size ≤ (u2.alloc (.cells #[.int .i64 0, .int .i64 1] 3)).heap.size := by simp; omega
        have hS_u3 := hK0.out _ hB_u3
        have HL : Hid (Sl (fun _ => False) (u2.alloc (.cells #[.int .i64 0, .int .i64 1] 3)) (some ⟨u2.heap.size, 0, none⟩) 2 ([0, 1] : List Int)) := litl (xs := [0, 1]) rfl rfl (by decide) rfl (by decide) id
        have HH := Lib.hid (HH.out.below hba)
        have HQ := Lib.hid ((hba.block q hql).trans HQ.out)
        have hql : q < (u2.alloc (.cells #[.int .i64 0, .int .i64 1] 3)).heap.size := Nat.lt_of_lt_of_le hql hba.size
        refine hK _ _ (fun _ => hS_u3) ?_
        clear hK K hba
        generalize hgg : u2.alloc (.cells #[.int .i64 0, .int .i64 1] 3) = u3 at *
        clear hgg
        try simp only [Act.put, List.setIfInBounds_toArray, List.set_cons_zero, List.set_cons_succ]
        refine wpAnyL_one (i := 3) (by kernel_rfl) rfl rfl (fun K hK => ?_)
        go_simp
        refine (find_any (x := ⟨oneH, obA, [0, 1]⟩) HH.out (HO.out.below hB_u3) HL.out lensA).mono ?_
        rintro e u4 ⟨⟨a1, c1, l1, a2, c2, l2, sy, a3, c3, l3, er, rfl, hres, hp1, hp2, hp3⟩, hb⟩
        obtain ⟨rfl, rfl, rfl, rfl, rfl⟩ := res_eq hres fA
        have hB_u4 := hB_u3.trans (hb.mono hz_u3)
        have hz_u4 : w1.heap.size ≤ u4.heap.size := by have := hb.size; omega
        have hS_u4 := hK0.out _ hB_u4
        have HQ := Lib.hid ((hb.block q hql).trans HQ.out)
        have HP3 := Lib.hid (hp3.anti (M' := fun k => k < q + 1) (fun k _ hk => by omega))
        have hql : q < u4.heap.size := Nat.lt_of_lt_of_le hql hb.size
        refine hK _ _ (fun _ => hS_u4) ?_
        clear hK K hb hres hp1 hp2 hp3
        try simp only [Act.put, List.setIfInBounds_toArray, List.set_cons_zero, List.set_cons_succ]
        refine wpAnyL_take (i := 4) (v := ?v50) rfl (by kernel_rfl) (by kernel_rfl) (by kernel_rfl) (by kernel_rfl) (fun _ _ _ h => h) (Or.inl ⟨by rfl, ?y50⟩) (by assumption) ?r50
        case y50 => (intro w' hSw; (try dsimp only at hSw); go_simp; try with_reducible rfl)
        try simp only [Act.put, List.setIfInBounds_toArray, List.set_cons_zero, List.set_cons_succ]
        refine wpAnyL_take (i := 5) (v := ?v51) rfl (by kernel_rfl) (by kernel_rfl) (by kernel_rfl) (by kernel_rfl) (fun _ _ _ h => h) (Or.inl ⟨by rfl, ?y51⟩) (by assumption) ?r51
        case y51 => (intro w' hSw; (try dsimp only at hSw); go_simp; try with_reducible rfl)
        try simp only [Act.put, List.setIfInBounds_toArray, List.set_cons_zero, List.set_cons_succ]
        refine wpAnyL_take (i := 6) (v := ?v52) rfl (by kernel_rfl) (by kernel_rfl) (by kernel_rfl) (by kernel_rfl) (fun _ _ _ h => h) (Or.inl ⟨by rfl, ?y52⟩) (by assumption) ?r52
        case y52 => (intro w' hSw; (try dsimp only at hSw); go_simp; try with_reducible rfl)
        try simp only [Act.put, List.setIfInBounds_toArray, List.set_cons_zero, List.set_cons_succ]
        refine wpAnyL_take (i := 7) (v := ?v53) rfl (by kernel_rfl) (by kernel_rfl) (by kernel_rfl) (by kernel_rfl) (fun _ _ _ h => h) (Or.inl ⟨by rfl, ?y53⟩) (by assumption) ?r53
        case y53 => (intro w' hSw; (try dsimp only at hSw); go_simp; try with_reducible rfl)
        try simp only [Act.put, List.setIfInBounds_toArray, List.set_cons_zero, List.set_cons_succ]
        obtain ⟨⟨k0, k1, k2⟩, kf⟩ := cells3 HQ.out
        have hBz := bel_st3 (g := q) (y0 := .slice a1 0 c1) (y1 := .int .i64 0) (y2 := .slice a2 0 c2) hB_u4 hqz
        have hRz := Lib.hid (set3 (y0 := .slice a1 0 c1) (y1 := .int .i64 0) (y2 := .slice a2 0 c2) HQ.out)
        have hSz := hK0.out _ hBz
        have HP3z := Lib.hid (HP3.out.st3 (g := q) (n := w1.heap.size) (y0 := .slice a1 0 c1) (y1 := .int .i64 0) (y2 := .slice a2 0 c2) (by omega) (by omega))
        refine wpAnyL_one (i := 9) (by kernel_rfl) rfl rfl (fun K hK => ?_)
        go_simp
        refine hK _ _ (fun _ => hSz) ?_
        clear hK K k0 k1 k2 kf
        try simp only [Act.put, List.setIfInBounds_toArray, List.set_cons_zero, List.set_cons_succ]
        refine wpAnyL_take (i := 10) (v := ?v54) rfl (by kernel_rfl) (by kernel_rfl) (by kernel_rfl) (by kernel_rfl) (fun _ _ _ h => h) (Or.inl ⟨by rfl, ?y54⟩) (by assumption) ?r54
        case y54 => (intro w' hSw; (try dsimp only at hSw); go_simp; try with_reducible rfl)
        try simp only [Act.put, List.setIfInBounds_toArray, List.set_cons_zero, List.set_cons_succ]
        refine wpAnyL_take (i := 11) (v := ?v55) rfl (by kernel_rfl) (by kernel_rfl) (by kernel_rfl) (by kernel_rfl) (fun _ _ _ h => h) (Or.inl ⟨by rfl, ?y55⟩) (by assumption) ?r55
        case y55 => (intro w' hSw; (try dsimp only at hSw); go_simp; try with_reducible rfl)
        try simp only [Act.put, List.setIfInBounds_toArray, List.set_cons_zero, List.set_cons_succ]
        refine wpAnyL_done (by kernel_rfl) ?_ _
        go_wp2
        go_meet
        exact ⟨a3, c3, rfl, rfl, HP3z.out, hBz⟩
    · skip
      go_simp
      have hba := (Below.refl u0.heap.size u0).alloc (Nat.le_refl _) (.cells #[.int .i64 0, .int .i64 1] 3)
      have hB_u1 := hB_u0.alloc hz_u0 (.cells #[.int .i64 0, .int .i64 1] 3)
      have hz_u1 : w1.heap.size ≤ (u0.alloc (.cells #[.int .i64 0, .int .i64 1] 3)).heap.size := by simp; omega
      have hS_u1 := hK0.out _ hB_u1
      have HL : Hid (Sl (fun _ => False) (u0.alloc (.cells #[.int .i64 0, .int .i64 1] 3)) (some ⟨u0.heap.size, 0, none⟩) 2 ([0, 1] : List Int)) := litl (xs := [0, 1]) rfl rfl (by decide) rfl (by decide) id
      refine hK _ _ (fun _ => hS_u1) ?_
      clear hK K hba
      generalize hgg : u0.alloc (.cells #[.int .i64 0, .int .i64 1] 3) = u1 at *
      clear hgg
      try simp only [Act.put, List.setIfInBounds_toArray, List.set_cons_zero, List.set_cons_succ]
      refine wpAnyL_2 (i := 0) (j := 8) (by kernel_rfl) rfl rfl rfl rfl (fun K hK => ?_) (fun K hK => ?_)
      · skip
        go_simp
        refine (one_any).mono ?_
        rintro e u2 ⟨an, cn, ao, co, ac, cc, rfl, hh, hb⟩
        have hB_u2 := hB_u1.trans (hb.mono hz_u1)
        have hz_u2 : w1.heap.size ≤ u2.heap.size := by have := hb.size; omega
        have hS_u2 := hK0.out _ hB_u2
        have HH := Lib.hid hh
        have HL := Lib.hid (HL.out.below hb)
        refine hK _ _ (fun _ => hS_u2) ?_
        clear hK K hb hh
        try simp only [Act.put, List.setIfInBounds_toArray, List.set_cons_zero, List.set_cons_succ]
        refine wpAnyL_2 (i := 3) (j := 8) (by kernel_rfl) rfl rfl rfl rfl (fun K hK => ?_) (fun K hK => ?_)
        · skip
          go_simp
          refine (find_any (x := ⟨oneH, obA, [0, 1]⟩) HH.out (HO.out.below hB_u2) HL.out lensA).mono ?_
          rintro e u3 ⟨⟨a1, c1, l1, a2, c2, l2, sy, a3, c3, l3, er, rfl, hres, hp1, hp2, hp3⟩, hb⟩
          obtain ⟨rfl, rfl, rfl, rfl, rfl⟩ := res_eq hres fA
          have hB_u3 := hB_u2.trans (hb.mono hz_u2)
          have hz_u3 : w1.heap.size ≤ u3.heap.size := by have := hb.size; omega
          have hS_u3 := hK0.out _ hB_u3
          have HP3 := Lib.hid (hp3.anti (M' := fun k => k < w1.heap.size) (fun k _ hk => Nat.lt_of_lt_of_le hk hz_u2))
          refine hK _ _ (fun _ => hS_u3) ?_
          clear hK K hb hres hp1 hp2 hp3
          try simp only [Act.put, List.setIfInBounds_toArray, List.set_cons_zero, List.set_cons_succ]
          refine wpAnyL_take (i := 4) (v := ?v56) rfl (by kernel_rfl) (by kernel_rfl) (by kernel_rfl) (by kernel_rfl) (fun _ _ _ h => h) (Or.inl ⟨by rfl, ?y56⟩) (by assumption) ?r56
          case y56 => (intro w' hSw; (try dsimp only at hSw); go_simp; try with_reducible rfl)
          try simp only [Act.put, List.setIfInBounds_toArray, List.set_cons_zero, List.set_cons_succ]
          refine wpAnyL_take (i := 5) (v := ?v57) rfl (by kernel_rfl) (by kernel_rfl) (by kernel_rfl) (by kernel_rfl) (fun _ _ _ h => h) (Or.inl ⟨by rfl, ?y57⟩) (by assumption) ?r57
          case y57 => (intro w' hSw; (try dsimp only at hSw); go_simp; try with_reducible rfl)
          try simp only [Act.put, List.setIfInBounds_toArray, List.set_cons_zero, List.set_cons_succ]
          refine wpAnyL_take (i := 6) (v := ?v58) rfl (by kernel_rfl) (by kernel_rfl) (by kernel_rfl) (by kernel_rfl) (fun _ _ _ h => h) (Or.inl ⟨by rfl, ?y58⟩) (by assumption) ?r58
          case y58 => (intro w' hSw; (try dsimp only at hSw); go_simp; try with_reducible rfl)
          try simp only [Act.put, List.setIfInBounds_toArray, List.set_cons_zero, List.set_cons_succ]
          refine wpAnyL_take (i := 7) (v := ?v59) rfl (by kernel_rfl) (by kernel_rfl) (by kernel_rfl) (by kernel_rfl) (fun _ _ _ h => h) (Or.inl ⟨by rfl, ?y59⟩) (by assumption) ?r59
          case y59 => (intro w' hSw; (try dsimp only at hSw); go_simp; try with_reducible rfl)
          try simp only [Act.put, List.setIfInBounds_toArray, List.set_cons_zero, List.set_cons_succ]
          refine wpAnyL_one (i := 8) (by kernel_rfl) rfl rfl (fun K hK => ?_)
          go_simp
          have hba := (Below.refl u3.heap.size u3).alloc (Nat.le_refl _) zeS
          have hB_u4 := hB_u3.alloc hz_u3 zeS
          have hz_u4 : w1.heap.size ≤ (u3.alloc zeS).heap.size := by simp; omega
          have hS_u4 := hK0.out _ hB_u4
          obtain ⟨q, hq⟩ : ∃ q, q = u3.heap.size := ⟨_, rfl⟩
          have HQ := heap_alloc_new u3 zeS
          rw [← hq] at HQ
          have HQ := Lib.hid HQ
          have hqz : w1.heap.size ≤ q := by omega
          have hql : q < (u3.alloc zeS).heap.size := by simp; omega
          have hF := Lib.hid hba
          have hqf := Lib.hid (Nat.le_of_eq hq.symm)
          refine hK _ _ (fun _ => hS_u4) ?_
          clear hK K hba
          (try rw [← hq])
          clear hq
          generalize hgg : u3.alloc zeS = u4 at *
          clear hgg
          try simp only [Act.put, List.setIfInBounds_toArray, List.set_cons_zero, List.set_cons_succ]
          obtain ⟨⟨k0, k1, k2⟩, kf⟩ := cells3 HQ.out
          have hBz := bel_st3 (g := q) (y0 := .slice a1 0 c1) (y1 := .int .i64 0) (y2 := .slice a2 0 c2) hB_u4 hqz
          have hRz := Lib.hid (set3 (y0 := .slice a1 0 c1) (y1 := .int .i64 0) (y2 := .slice a2 0 c2) HQ.out)
          have hSz := hK0.out _ hBz
          have HP3z := Lib.hid (HP3.out.below (bel_st3 (g := q) (y0 := .slice a1 0 c1) (y1 := .int .i64 0) (y2 := .slice a2 0 c2) hF.out hqf.out))
          refine wpAnyL_one (i := 9) (by kernel_rfl) rfl rfl (fun K hK => ?_)
          go_simp
          refine hK _ _ (fun _ => hSz) ?_
          clear hK K k0 k1 k2 kf
          try simp only [Act.put, List.setIfInBounds_toArray, List.set_cons_zero, List.set_cons_succ]
          refine wpAnyL_take (i := 10) (v := ?v60) rfl (by kernel_rfl) (by kernel_rfl) (by kernel_rfl) (by kernel_rfl) (fun _ _ _ h => h) (Or.inl ⟨by rfl, ?y60⟩) (by assumption) ?r60
          case y60 => (intro w' hSw; (try dsimp only at hSw); go_simp; try with_reducible rfl)
          try simp only [Act.put, List.setIfInBounds_toArray, List.set_cons_zero, List.set_cons_succ]
          refine wpAnyL_take (i := 11) (v := ?v61) rfl (by kernel_rfl) (by kernel_rfl) (by kernel_rfl) (by kernel_rfl) (fun _ _ _ h => h) (Or.inl ⟨by rfl, ?y61⟩) (by assumption) ?r61
          case y61 => (intro w' hSw; (try dsimp only at hSw); go_simp; try with_reducible rfl)
          try simp only [Act.put, List.setIfInBounds_toArray, List.set_cons_zero, List.set_cons_succ]
          refine wpAnyL_done (by kernel_rfl) ?_ _
          go_wp2
          go_meet
          exact ⟨a3, c3, rfl, rfl, HP3z.out, hBz⟩
        · skip
          go_simp
          have hba := (Below.refl u2.heap.size u2).alloc (Nat.le_refl _) zeS
          have hB_u3 := hB_u2.alloc hz_u2 zeS
          have hz_u3 : w1.heap.size ≤ (u2.alloc zeS).heap.size := by simp; omega
          have hS_u3 := hK0.out _ hB_u3
          obtain ⟨q, hq⟩ : ∃ q, q = u2.heap.size := ⟨_, rfl⟩
          have HQ := heap_alloc_new u2 zeS
          rw [← hq] at HQ
          have HQ := Lib.hid HQ
          have hqz : w1.heap.size ≤ q := by omega
          have hql : q < (u2.alloc zeS).heap.size := by simp; omega
          have HH := Lib.hid (HH.out.below hba)
          have HL := Lib.hid (HL.out.below hba)
          refine hK _ _ (fun _ => hS_u3) ?_
          clear hK K hba
          (try rw [← hq])
          clear hq
          generalize hgg : u2.alloc zeS = u3 at *
          clear hgg
          try simp only [Act.put, List.setIfInBounds_toArray, List.set_cons_zero, List.set_cons_succ]
          refine wpAnyL_one (i := 3) (by kernel_rfl) rfl rfl (fun K hK => ?_)
          go_simp
          refine (find_any (x := ⟨oneH, obA, [0, 1]⟩) HH.out (HO.out.below hB_u3) HL.out lensA).mono ?_
          rintro e u4 ⟨⟨a1, c1, l1, a2, c2, l2, sy, a3, c3, l3, er, rfl, hres, hp1, hp2, hp3⟩, hb⟩
          obtain ⟨rfl, rfl, rfl, rfl, rfl⟩ := res_eq hres fA
          have hB_u4 := hB_u3.trans (hb.mono hz_u3)
          have hz_u4 : w1.heap.size ≤ u4.heap.size := by have := hb.size; omega
          have hS_u4 := hK0.out _ hB_u4
          have HQ := Lib.hid ((hb.block q hql).trans HQ.out)
          have HP3 := Lib.hid (hp3.anti (M' := fun k => k < q + 1) (fun k _ hk => by omega))
          have hql : q < u4.heap.size := Nat.lt_of_lt_of_le hql hb.size
          refine hK _ _ (fun _ => hS_u4) ?_
          clear hK K hb hres hp1 hp2 hp3
          try simp only [Act.put, List.setIfInBounds_toArray, List.set_cons_zero, List.set_cons_succ]
          refine wpAnyL_take (i := 4) (v := ?v62) rfl (by kernel_rfl) (by kernel_rfl) (by kernel_rfl) (by kernel_rfl) (fun _ _ _ h => h) (Or.inl ⟨by rfl, ?y62⟩) (by assumption) ?r62
          case y62 => (intro w' hSw; (try dsimp only at hSw); go_simp; try with_reducible rfl)
          try simp only [Act.put, List.setIfInBounds_toArray, List.set_cons_zero, List.set_cons_succ]
          refine wpAnyL_take (i := 5) (v := ?v63) rfl (by kernel_rfl) (by kernel_rfl) (by kernel_rfl) (by kernel_rfl) (fun _ _ _ h => h) (Or.inl ⟨by rfl, ?y63⟩) (by assumption) ?r63
          case y63 => (intro w' hSw; (try dsimp only at hSw); go_simp; try with_reducible rfl)
          try simp only [Act.put, List.setIfInBounds_toArray, List.set_cons_zero, List.set_cons_succ]
          refine wpAnyL_take (i := 6) (v := ?v64) rfl (by kernel_rfl) (by kernel_rfl) (by kernel_rfl) (by kernel_rfl) (fun _ _ _ h => h) (Or.inl ⟨by rfl, ?y64⟩) (by assumption) ?r64
          case y64 => (intro w' hSw; (try dsimp only at hSw); go_simp; try with_reducible rfl)
          try simp only [Act.put, List.setIfInBounds_toArray, List.set_cons_zero, List.set_cons_succ]
          refine wpAnyL_take (i := 7) (v := ?v65) rfl (by kernel_rfl) (by kernel_rfl) (by kernel_rfl) (by kernel_rfl) (fun _ _ _ h => h) (Or.inl ⟨by rfl, ?y65⟩) (by assumption) ?r65
          case y65 => (intro w' hSw; (try dsimp only at hSw); go_simp; try with_reducible rfl)
          try simp only [Act.put, List.setIfInBounds_toArray, List.set_cons_zero, List.set_cons_succ]
          obtain ⟨⟨k0, k1, k2⟩, kf⟩ := cells3 HQ.out
          have hBz := bel_st3 (g := q) (y0 := .slice a1 0 c1) (y1 := .int .i64 0) (y2 := .slice a2 0 c2) hB_u4 hqz
          have hRz := Lib.hid (set3 (y0 := .slice a1 0 c1) (y1 := .int .i64 0) (y2 := .slice a2 0 c2) HQ.out)
          have hSz := hK0.out _ hBz
          have HP3z := Lib.hid (HP3.out.st3 (g := q) (n := w1.heap.size) (y0 := .slice a1 0 c1) (y1 := .int .i64 0) (y2 := .slice a2 0 c2) (by omega) (by omega))
          refine wpAnyL_one (i := 9) (by kernel_rfl) rfl rfl (fun K hK => ?_)
          go_simp
          refine hK _ _ (fun _ => hSz) ?_
          clear hK K k0 k1 k2 kf
          try simp only [Act.put, List.setIfInBounds_toArray, List.set_cons_zero, List.set_cons_succ]
          refine wpAnyL_take (i := 10) (v := ?v66) rfl (by kernel_rfl) (by kernel_rfl) (by kernel_rfl) (by kernel_rfl) (fun _ _ _ h => h) (Or.inl ⟨by rfl, ?y66⟩) (by assumption) ?r66
          case y66 => (intro w' hSw; (try dsimp only at hSw); go_simp; try with_reducible rfl)
          try simp only [Act.put, List.setIfInBounds_toArray, List.set_cons_zero, List.set_cons_succ]
          refine wpAnyL_take (i := 11) (v := ?v67) rfl (by kernel_rfl) (by kernel_rfl) (by kernel_rfl) (by kernel_rfl) (fun _ _ _ h => h) (Or.inl ⟨by rfl, ?y67⟩) (by assumption) ?r67
          case y67 => (intro w' hSw; (try dsimp only at hSw); go_simp; try with_reducible rfl)
          try simp only [Act.put, List.setIfInBounds_toArray, List.set_cons_zero, List.set_cons_succ]
          refine wpAnyL_done (by kernel_rfl) ?_ _
          go_wp2
          go_meet
          exact ⟨a3, c3, rfl, rfl, HP3z.out, hBz⟩
      · skip
        go_simp
        have hba := (Below.refl u1.heap.size u1).alloc (Nat.le_refl _) zeS
        have hB_u2 := hB_u1.alloc hz_u1 zeS
        have hz_u2 : w1.heap.size ≤ (u1.alloc zeS).heap.size := by simp; omega
        have hS_u2 := hK0.out _ hB_u2
        obtain ⟨q, hq⟩ : ∃ q, q = u1.heap.size := ⟨_, rfl⟩
        have HQ := heap_alloc_new u1 zeS
        rw [← hq] at HQ
        have HQ := Lib.hid HQ
        have hqz : w1.heap.size ≤ q := by omega
        have hql : q < (u1.alloc zeS).heap.size := by simp; omega
        have HL := Lib.hid (HL.out.below hba)
        refine hK _ _ (fun _ => hS_u2) ?_
        clear hK K hba
        (try rw [← hq])
        clear hq
        generalize hgg : u1.alloc zeS = u2 at *
        clear hgg
        try simp only [Act.put, List.setIfInBounds_toArray, List.set_cons_zero, List.set_cons_succ]
        refine wpAnyL_one (i := 0) (by kernel_rfl) rfl rfl (fun K hK => ?_)
        go_simp
        refine (one_any).mono ?_
        rintro e u3 ⟨an, cn, ao, co, ac, cc, rfl, hh, hb⟩
        have hB_u3 := hB_u2.trans (hb.mono hz_u2)
        have hz_u3 : w1.heap.size ≤ u3.heap.size := by have := hb.size; omega
        have hS_u3 := hK0.out _ hB_u3
        have HH := Lib.hid hh
        have HL := Lib.hid (HL.out.below hb)
        have HQ := Lib.hid ((hb.block q hql).trans HQ.out)
        have hql : q < u3.heap.size := Nat.lt_of_lt_of_le hql hb.size
        refine hK _ _ (fun _ => hS_u3) ?_
        clear hK K hb hh
        try simp only [Act.put, List.setIfInBounds_toArray, List.set_cons_zero, List.set_cons_succ]
        refine wpAnyL_one (i := 3) (by kernel_rfl) rfl rfl (fun K hK => ?_)
        go_simp
        refine (find_any (x := ⟨oneH, obA, [0, 1]⟩) HH.out (HO.out.below hB_u3) HL.out lensA).mono ?_
        rintro e u4 ⟨⟨a1, c1, l1, a2, c2, l2, sy, a3, c3, l3, er, rfl, hres, hp1, hp2, hp3⟩, hb⟩
        obtain ⟨rfl, rfl, rfl, rfl, rfl⟩ := res_eq hres fA
        have hB_u4 := hB_u3.trans (hb.mono hz_u3)
        have hz_u4 : w1.heap.size ≤ u4.heap.size := by have := hb.size; omega
        have hS_u4 := hK0.out _ hB_u4
        have HQ := Lib.hid ((hb.block q hql).trans HQ.out)
        have HP3 := Lib.hid (hp3.anti (M' := fun k => k < q + 1) (fun k _ hk => by omega))
        have hql : q < u4.heap.size := Nat.lt_of_lt_of_le hql hb.size
        refine hK _ _ (fun _ => hS_u4) ?_
        clear hK K hb hres hp1 hp2 hp3
        try simp only [Act.put, List.setIfInBounds_toArray, List.set_cons_zero, List.set_cons_succ]
        refine wpAnyL_take (i := 4) (v := ?v68) rfl (by kernel_rfl) (by kernel_rfl) (by kernel_rfl) (by kernel_rfl) (fun _ _ _ h => h) (Or.inl ⟨by rfl, ?y68⟩) (by assumption) ?r68
        case y68 => (intro w' hSw; (try dsimp only at hSw); go_simp; try with_reducible rfl)
        try simp only [Act.put, List.setIfInBounds_toArray, List.set_cons_zero, List.set_cons_succ]
        refine wpAnyL_take (i := 5) (v := ?v69) rfl (by kernel_rfl) (by kernel_rfl) (by kernel_rfl) (by kernel_rfl) (fun _ _ _ h => h) (Or.inl ⟨by rfl, ?y69⟩) (by assumption) ?r69
        case y69 => (intro w' hSw; (try dsimp only at hSw); go_simp; try with_reducible rfl)
        try simp only [Act.put, List.setIfInBounds_toArray, List.set_cons_zero, List.set_cons_succ]
        refine wpAnyL_take (i := 6) (v := ?v70) rfl (by kernel_rfl) (by kernel_rfl) (by kernel_rfl) (by kernel_rfl) (fun _ _ _ h => h) (Or.inl ⟨by rfl, ?y70⟩) (by assumption) ?r70
        case y70 => (intro w' hSw; (try dsimp only at hSw); go_simp; try with_reducible rfl)
        try simp only [Act.put, List.setIfInBounds_toArray, List.set_cons_zero, List.set_cons_succ]
        refine wpAnyL_take (i := 7) (v := ?v71) rfl (by kernel_rfl) (by kernel_rfl) (by kernel_rfl) (by kernel_rfl) (fun _ _ _ h => h) (Or.inl ⟨by rfl, ?y71⟩) (by assumption) ?r71
        case y71 => (intro w' hSw; (try dsimp only at hSw); go_simp; try with_reducible rfl)
        try simp only [Act.put, List.setIfInBounds_toArray, List.set_cons_zero, List.set_cons_succ]
        obtain ⟨⟨k0, k1, k2⟩, kf⟩ := cells3 HQ.out
        have hBz := bel_st3 (g := q) (y0 := .slice a1 0 c1) (y1 := .int .i64 0) (y2 := .slice a2 0 c2) hB_u4 hqz
        have hRz := Lib.hid (set3 (y0 := .slice a1 0 c1) (y1 := .int .i64 0) (y2 := .slice a2 0 c2) HQ.out)
        have hSz := hK0.out _ hBz
        have HP3z := Lib.hid (HP3.out.st3 (g := q) (n := w1.heap.size) (y0 := .slice a1 0 c1) (y1 := .int .i64 0) (y2 := .slice a2 0 c2) (by omega) (by omega))
        refine wpAnyL_one (i := 9) (by kernel_rfl) rfl rfl (fun K hK => ?_)
        go_simp
        refine hK _ _ (fun _ => hSz) ?_
        clear hK K k0 k1 k2 kf
        try simp only [Act.put, List.setIfInBounds_toArray, List.set_cons_zero, List.set_cons_succ]
        refine wpAnyL_take (i := 10) (v := ?v72) rfl (by kernel_rfl) (by kernel_rfl) (by kernel_rfl) (by kernel_rfl) (fun _ _ _ h => h) (Or.inl ⟨by rfl, ?y72⟩) (by assumption) ?r72
        case y72 => (intro w' hSw; (try dsimp only at hSw); go_simp; try with_reducible rfl)
        try simp only [Act.put, List.setIfInBounds_toArray, List.set_cons_zero, List.set_cons_succ]
        refine wpAnyL_take (i := 11) (v := ?v73) rfl (by kernel_rfl) (by kernel_rfl) (by kernel_rfl) (by kernel_rfl) (fun _ _ _ h => h) (Or.inl ⟨by rfl, ?y73⟩) (by assumption) ?r73
        case y73 => (intro w' hSw; (try dsimp only at hSw); go_simp; try with_reducible rfl)
        try simp only [Act.put, List.setIfInBounds_toArray, List.set_cons_zero, List.set_cons_succ]
        refine wpAnyL_done (by kernel_rfl) ?_ _
        go_wp2
        go_meet
        exact ⟨a3, c3, rfl, rfl, HP3z.out, hBz⟩
    · skip
      go_simp
      have hba := (Below.refl u0.heap.size u0).alloc (Nat.le_refl _) zeS
      have hB_u1 := hB_u0.alloc hz_u0 zeS
      have hz_u1 : w1.heap.size ≤ (u0.alloc zeS).heap.size := by simp; omega
      have hS_u1 := hK0.out _ hB_u1
      obtain ⟨q, hq⟩ : ∃ q, q = u0.heap.size := ⟨_, rfl⟩
      have HQ := heap_alloc_new u0 zeS
      rw [← hq] at HQ
      have HQ := Lib.hid HQ
      have hqz : w1.heap.size ≤ q := by omega
      have hql : q < (u0.alloc zeS).heap.size := by simp; omega
      refine hK _ _ (fun _ => hS_u1) ?_
      clear hK K hba
      (try rw [← hq])
      clear hq
      generalize hgg : u0.alloc zeS = u1 at *
      clear hgg
      try simp only [Act.put, List.setIfInBounds_toArray, List.set_cons_zero, List.set_cons_succ]
      refine wpAnyL_2 (i := 0) (j := 2) (by kernel_rfl) rfl rfl rfl rfl (fun K hK => ?_) (fun K hK => ?_)
      · skip
        go_simp
        refine (one_any).mono ?_
        rintro e u2 ⟨an, cn, ao, co, ac, cc, rfl, hh, hb⟩
        have hB_u2 := hB_u1.trans (hb.mono hz_u1)
        have hz_u2 : w1.heap.size ≤ u2.heap.size := by have := hb.size; omega
        have hS_u2 := hK0.out _ hB_u2
        have HH := Lib.hid hh
        have HQ := Lib.hid ((hb.block q hql).trans HQ.out)
        have hql : q < u2.heap.size := Nat.lt_of_lt_of_le hql hb.size
        refine hK _ _ (fun _ => hS_u2) ?_
        clear hK K hb hh
        try simp only [Act.put, List.setIfInBounds_toArray, List.set_cons_zero, List.set_cons_succ]
        refine wpAnyL_one (i := 2) (by kernel_rfl) rfl rfl (fun K hK => ?_)
        go_simp
        have hba := (Below.refl u2.heap.size u2).alloc (Nat.le_refl _) (.cells #[.int .i64 0, .int .i64 1] 3)
        have hB_u3 := hB_u2.alloc hz_u2 (.cells #[.int .i64 0, .int .i64 1] 3)
        have hz_u3 : w1.heap.size ≤ (u2.alloc (.cells #[.int .i64 0, .int .i64 1] 3)).heap.size := by simp; omega
        have hS_u3 := hK0.out _ hB_u3
        have HL : Hid (Sl (fun _ => False) (u2.alloc (.cells #[.int .i64 0, .int .i64 1] 3)) (some ⟨u2.heap.size, 0, none⟩) 2 ([0, 1] : List Int)) := litl (xs := [0, 1]) rfl rfl (by decide) rfl (by decide) id
        have HH := Lib.hid (HH.out.below hba)
        have HQ := Lib.hid ((hba.block q hql).trans HQ.out)
        have hql : q < (u2.alloc (.cells #[.int .i64 0, .int .i64 1] 3)).heap.size := Nat.lt_of_lt_of_le hql hba.size
        refine hK _ _ (fun _ => hS_u3) ?_
        clear hK K hba
        generalize hgg : u2.alloc (.cells #[.int .i64 0, .int .i64 1] 3) = u3 at *
        clear hgg
        try simp only [Act.put, List.setIfInBounds_toArray, List.set_cons_zero, List.set_cons_succ]
        refine wpAnyL_one (i := 3) (by kernel_rfl) rfl rfl (fun K hK => ?_)
        go_simp
        refine (find_any (x := ⟨oneH, obA, [0, 1]⟩) HH.out (HO.out.below hB_u3) HL.out lensA).mono ?_
        rintro e u4 ⟨⟨a1, c1, l1, a2, c2, l2, sy, a3, c3, l3, er, rfl, hres, hp1, hp2, hp3⟩, hb⟩
        obtain ⟨rfl, rfl, rfl, rfl, rfl⟩ := res_eq hres fA
        have hB_u4 := hB_u3.trans (hb.mono hz_u3)
        have hz_u4 : w1.heap.size ≤ u4.heap.size := by have := hb.size; omega
        have hS_u4 := hK0.out _ hB_u4
        have HQ := Lib.hid ((hb.block q hql).trans HQ.out)
        have HP3 := Lib.hid (hp3.anti (M' := fun k => k < q + 1) (fun k _ hk => by omega))
        have hql : q < u4.heap.size := Nat.lt_of_lt_of_le hql hb.size
        refine hK _ _ (fun _ => hS_u4) ?_
        clear hK K hb hres hp1 hp2 hp3
        try simp only [Act.put, List.setIfInBounds_toArray, List.set_cons_zero, List.set_cons_succ]
        refine wpAnyL_take (i := 4) (v := ?v74) rfl (by kernel_rfl) (by kernel_rfl) (by kernel_rfl) (by kernel_rfl) (fun _ _ _ h => h) (Or.inl ⟨by rfl, ?y74⟩) (by assumption) ?r74
        case y74 => (intro w' hSw; (try dsimp only at hSw); go_simp; try with_reducible rfl)
        try simp only [Act.put, List.setIfInBounds_toArray, List.set_cons_zero, List.set_cons_succ]
        refine wpAnyL_take (i := 5) (v := ?v75) rfl (by kernel_rfl) (by kernel_rfl) (by kernel_rfl) (by kernel_rfl) (fun _ _ _ h => h) (Or.inl ⟨by rfl, ?y75⟩) (by assumption) ?r75
        case y75 => (intro w' hSw; (try dsimp only at hSw); go_simp; try with_reducible rfl)
        try simp only [Act.put, List.setIfInBounds_toArray, List.set_cons_zero, List.set_cons_succ]
        refine wpAnyL_take (i := 6) (v := ?v76) rfl (by kernel_rfl) (by kernel_rfl) (by kernel_rfl) (by kernel_rfl) (fun _ _ _ h => h) (Or.inl ⟨by rfl, ?y76⟩) (by assumption) ?r76
        case y76 => (intro w' hSw; (try dsimp only at hSw); go_simp; try with_reducible rfl)
        try simp only [Act.put, List.setIfInBounds_toArray, List.set_cons_zero, List.set_cons_succ]
        refine wpAnyL_take (i := 7) (v := ?v77) rfl (by kernel_rfl) (by kernel_rfl) (by kernel_rfl) (by kernel_rfl) (fun _ _ _ h => h) (Or.inl ⟨by rfl, ?y77⟩) (by assumption) ?r77
        case y77 => (intro w' hSw; (try dsimp only at hSw); go_simp; try with_reducible rfl)
        try simp only [Act.put, List.setIfInBounds_toArray, List.set_cons_zero, List.set_cons_succ]
        obtain ⟨⟨k0, k1, k2⟩, kf⟩ := cells3 HQ.out
        have hBz := bel_st3 (g := q) (y0 := .slice a1 0 c1) (y1 := .int .i64 0) (y2 := .slice a2 0 c2) hB_u4 hqz
        have hRz := Lib.hid (set3 (y0 := .slice a1 0 c1) (y1 := .int .i64 0) (y2 := .slice a2 0 c2) HQ.out)
        have hSz := hK0.out _ hBz
        have HP3z := Lib.hid (HP3.out.st3 (g := q) (n := w1.heap.size) (y0 := .slice a1 0 c1) (y1 := .int .i64 0) (y2 := .slice a2 0 c2) (by omega) (by omega))
        refine wpAnyL_one (i := 9) (by kernel_rfl) rfl rfl (fun K hK => ?_)
        go_simp
        refine hK _ _ (fun _ => hSz) ?_
        clear hK K k0 k1 k2 kf
        try simp only [Act.put, List.setIfInBounds_toArray, List.set_cons_zero, List.set_cons_succ]
        refine wpAnyL_take (i := 10) (v := ?v78) rfl (by kernel_rfl) (by kernel_rfl) (by kernel_rfl) (by kernel_rfl) (fun _ _ _ h => h) (Or.inl ⟨by rfl, ?y78⟩) (by assumption) ?r78
        case y78 => (intro w' hSw; (try dsimp only at hSw); go_simp; try with_reducible rfl)
        try simp only [Act.put, List.setIfInBounds_toArray, List.set_cons_zero, List.set_cons_succ]
        refine wpAnyL_take (i := 11) (v := ?v79) rfl (by kernel_rfl) (by kernel_rfl) (by kernel_rfl) (by kernel_rfl) (fun _ _ _ h => h) (Or.inl ⟨by rfl, ?y79⟩) (by assumption) ?r79
        case y79 => (intro w' hSw; (try dsimp only at hSw); go_simp; try with_reducible rfl)
        try simp only [Act.put, List.setIfInBounds_toArray, List.set_cons_zero, List.set_cons_succ]
        refine wpAnyL_done (by kernel_rfl) ?_ _
        go_wp2
        go_meet
        exact ⟨a3, c3, rfl, rfl, HP3z.out, hBz⟩
      · skip
        go_simp
        have hba := (Below.refl u1.heap.size u1).alloc (Nat.le_refl _) (.cells #[.int .i64 0, .int .i64 1] 3)
        have hB_u2 := hB_u1.alloc hz_u1 (.cells #[.int .i64 0, .int .i64 1] 3)
        have hz_u2 : w1.heap.size ≤ (u1.alloc (.cells #[.int .i64 0, .int .i64 1] 3)).heap.size := by simp; omega
        have hS_u2 := hK0.out _ hB_u2
        have HL : Hid (Sl (fun _ => False) (u1.alloc (.cells #[.int .i64 0, .int .i64 1] 3)) (some ⟨u1.heap.size, 0, none⟩) 2 ([0, 1] : List Int)) := litl (xs := [0, 1]) rfl rfl (by decide) rfl (by decide) id
        have HQ := Lib.hid ((hba.block q hql).trans HQ.out)
        have hql : q < (u1.alloc (.cells #[.int .i64 0, .int .i64 1] 3)).heap.size := Nat.lt_of_lt_of_le hql hba.size
        refine hK _ _ (fun _ => hS_u2) ?_
        clear hK K hba
        generalize hgg : u1.alloc (.cells #[.int .i64 0, .int .i64 1] 3) = u2 at *
        clear hgg
        try simp only [Act.put, List.setIfInBounds_toArray, List.set_cons_zero, List.set_cons_succ]
        refine wpAnyL_one (i := 0) (by kernel_rfl) rfl rfl (fun K hK => ?_)
        go_simp
        refine (one_any).mono ?_
        rintro e u3 ⟨an, cn, ao, co, ac, cc, rfl, hh, hb⟩
        have hB_u3 := hB_u2.trans (hb.mono hz_u2)
        have hz_u3 : w1.heap.size ≤ u3.heap.size := by have := hb.size; omega
        have hS_u3 := hK0.out _ hB_u3
        have HH := Lib.hid hh
        have HL := Lib.hid (HL.out.below hb)
        have HQ := Lib.hid ((hb.block q hql).trans HQ.out)
        have hql : q < u3.heap.size := Nat.lt_of_lt_of_le hql hb.size
        refine hK _ _ (fun _ => hS_u3) ?_
        clear hK K hb hh
        try simp only [Act.put, List.setIfInBounds_toArray, List.set_cons_zero, List.set_cons_succ]
        refine wpAnyL_one (i := 3) (by kernel_rfl) rfl rfl (fun K hK => ?_)
        go_simp
        refine (find_any (x := ⟨oneH, obA, [0, 1]⟩) HH.out (HO.out.below hB_u3) HL.out lensA).mono ?_
        rintro e u4 ⟨⟨a1, c1, l1, a2, c2, l2, sy, a3, c3, l3, er, rfl, hres, hp1, hp2, hp3⟩, hb⟩
        obtain ⟨rfl, rfl, rfl, rfl, rfl⟩ := res_eq hres fA
        have hB_u4 := hB_u3.trans (hb.mono hz_u3)
        have hz_u4 : w1.heap.size ≤ u4.heap.size := by have := hb.size; omega
        have hS_u4 := hK0.out _ hB_u4
        have HQ := Lib.hid ((hb.block q hql).trans HQ.out)
        have HP3 := Lib.hid (hp3.anti (M' := fun k => k < q + 1) (fun k _ hk => by omega))
        have hql : q < u4.heap.size := Nat.lt_of_lt_of_le hql hb.size
        refine hK _ _ (fun _ => hS_u4) ?_
        clear hK K hb hres hp1 hp2 hp3
        try simp only [Act.put, List.setIfInBounds_toArray, List.set_cons_zero, List.set_cons_succ]
        refine wpAnyL_take (i := 4) (v := ?v80) rfl (by kernel_rfl) (by kernel_rfl) (by kernel_rfl) (by kernel_rfl) (fun _ _ _ h => h) (Or.inl ⟨by rfl, ?y80⟩) (by assumption) ?r80
        case y80 => (intro w' hSw; (try dsimp only at hSw); go_simp; try with_reducible rfl)
        try simp only [Act.put, List.setIfInBounds_toArray, List.set_cons_zero, List.set_cons_succ]
        refine wpAnyL_take (i := 5) (v := ?v81) rfl (by kernel_rfl) (by kernel_rfl) (by kernel_rfl) (by kernel_rfl) (fun _ _ _ h => h) (Or.inl ⟨by rfl, ?y81⟩) (by assumption) ?r81
        case y81 => (intro w' hSw; (try dsimp only at hSw); go_simp; try with_reducible rfl)
        try simp only [Act.put, List.setIfInBounds_toArray, List.set_cons_zero, List.set_cons_succ]
        refine wpAnyL_take (i := 6) (v := ?v82) rfl (by kernel_rfl) (by kernel_rfl) (by kernel_rfl) (by kernel_rfl) (fun _ _ _ h => h) (Or.inl ⟨by rfl, ?y82⟩) (by assumption) ?r82
        case y82 => (intro w' hSw; (try dsimp only at hSw); go_simp; try with_reducible rfl)
        try simp only [Act.put, List.setIfInBounds_toArray, List.set_cons_zero, List.set_cons_succ]
        refine wpAnyL_take (i := 7) (v := ?v83) rfl (by kernel_rfl) (by kernel_rfl) (by kernel_rfl) (by kernel_rfl) (fun _ _ _ h => h) (Or.inl ⟨by rfl, ?y83⟩) (by assumption) ?r83
        case y83 => (intro w' hSw; (try dsimp only at hSw); go_simp; try with_reducible rfl)
        try simp only [Act.put, List.setIfInBounds_toArray, List.set_cons_zero, List.set_cons_succ]
        obtain ⟨⟨k0, k1, k2⟩, kf⟩ := cells3 HQ.out
        have hBz := bel_st3 (g := q) (y0 := .slice a1 0 c1) (y1 := .int .i64 0) (y2 := .slice a2 0 c2) hB_u4 hqz
        have hRz := Lib.hid (set3 (y0 := .slice a1 0 c1) (y1 := .int .i64 0) (y2 := .slice a2 0 c2) HQ.out)
        have hSz := hK0.out _ hBz
        have HP3z := Lib.hid (HP3.out.st3 (g := q) (n := w1.heap.size) (y0 := .slice a1 0 c1) (y1 := .int .i64 0) (y2 := .slice a2 0 c2) (by omega) (by omega))
        refine wpAnyL_one (i := 9) (by kernel_rfl) rfl rfl (fun K hK => ?_)
        go_simp
        refine hK _ _ (fun _ => hSz) ?_
        clear hK K k0 k1 k2 kf
        try simp only [Act.put, List.setIfInBounds_toArray, List.set_cons_zero, List.set_cons_succ]
        refine wpAnyL_take (i := 10) (v := ?v84) rfl (by kernel_rfl) (by kernel_rfl) (by kernel_rfl) (by kernel_rfl) (fun _ _ _ h => h) (Or.inl ⟨by rfl, ?y84⟩) (by assumption) ?r84
        case y84 => (intro w' hSw; (try dsimp only at hSw); go_simp; try with_reducible rfl)
        try simp only [Act.put, List.setIfInBounds_toArray, List.set_cons_zero, List.set_cons_succ]
        refine wpAnyL_take (i := 11) (v := ?v85) rfl (by kernel_rfl) (by kernel_rfl) (by kernel_rfl) (by kernel_rfl) (fun _ _ _ h => h) (Or.inl ⟨by rfl, ?y85⟩) (by assumption) ?r85
        case y85 => (intro w' hSw; (try dsimp only at hSw); go_simp; try with_reducible rfl)
        try simp only [Act.put, List.setIfInBounds_toArray, List.set_cons_zero, List.set_cons_succ]
        refine wpAnyL_done (by kernel_rfl) ?_ _
        go_wp2
        go_meet
        exact ⟨a3, c3, rfl, rfl, HP3z.out, hBz⟩
  case rest =>
    obtain ⟨a, c, rfl, rfl, HA, hBc⟩ := hcut
    have hpl : pv < wc.heap.size := Nat.lt_of_lt_of_le hz1 hBc.size
    obtain ⟨wd, hwd⟩ : ∃ wd, wd = ((((wc.alloc (.cells #[.int .i64 1] 3)).alloc (.cells #[.int .i64 0] 3)).alloc (.cells #[.int .i64 0, .int .i64 1] 3)).alloc (.cells #[.int .i64 1, .int .i64 2] 3)).alloc (.cells #[.slice (some ⟨wc.heap.size, 0, none⟩) 1 1, .slice (some ⟨wc.heap.size + 1, 0, none⟩) 1 1, .slice (some ⟨wc.heap.size + 1 + 1, 0, none⟩) 2 2, .slice (some ⟨wc.heap.size + 1 + 1 + 1, 0, none⟩) 2 2] 61) := ⟨_, rfl⟩
    have hbd : Below wc.heap.size wc wd := by rw [hwd]; exact (((((Below.refl _ _).alloc (Nat.le_refl _) _).alloc (by simp) _).alloc (by simp; omega) _).alloc (by simp; omega) _).alloc (by simp; omega) _
    have HT : Hid (Sl (fun k => k < wc.heap.size) wd (some ⟨wc.heap.size + 1 + 1 + 1 + 1, 0, none⟩) 2 [(⟨[1], [0]⟩ : Tr), ⟨[0, 1], [1, 2]⟩]) := by
      rw [hwd]
      exact trs2g (t := ⟨[1], [0]⟩) (s := ⟨[0, 1], [1, 2]⟩) (by simp) (by simp; omega) ((((litl (xs := [1]) rfl rfl (by decide) rfl (by decide) (by simp)).alloc _).alloc _).alloc _) (((litl (xs := [0]) (by simp) rfl (by decide) rfl (by decide) (by simp)).alloc _).alloc _)
        ((litl (xs := [0, 1]) (by simp) rfl (by decide) rfl (by decide) (by simp; omega)).alloc _) (litl (xs := [1, 2]) (by simp) rfl (by decide) rfl (by decide) (by simp; omega)) rfl rfl rfl rfl
    have HAd := Lib.hid (HA.out.below hbd)
    have HVd := (hbd.block pv hpl).trans ((hBc.block pv hz1).trans HV.out)
    have hvc : wd.cell? ⟨pv, 0, none⟩ = some (.int .i64 2) ∧ wd.cell? ⟨pv, 1, none⟩ = some (.slice (some ⟨w.heap.size + 1 + 1, 0, none⟩) 1 1) := ⟨by rw [cell_of_row _ _ _ _ _ _ HVd]; rfl, by rw [cell_of_row _ _ _ _ _ _ HVd]; rfl⟩
    have hvf : ∀ o, wd.frozen? ⟨pv, o, none⟩ = false := fun o => frozen_of_row _ _ _ _ _ HVd
    have hBd := (hB1.trans (hBc.mono (by omega))).trans (hbd.mono (by omega))
    have HV3 : Hid ((wd.setCell ⟨pv, 1, none⟩ (.slice (some ⟨wc.heap.size + 1 + 1 + 1 + 1, 0, none⟩) 2 2)).heap[pv]? = some (.cells #[.int .i64 2, .slice (some ⟨wc.heap.size + 1 + 1 + 1 + 1, 0, none⟩) 2 2] 29)) := by unfold Hid; rw [heap_setCell_same _ _ _ _ _ _ HVd]; rfl
    have HB3 := Lib.hid (hBd.setCell (p := ⟨pv, 1, none⟩) hpw (.slice (some ⟨wc.heap.size + 1 + 1 + 1 + 1, 0, none⟩) 2 2))
    have HT3 := Lib.hid (HT.out.ext (Ext.setCell wd (p := ⟨pv, 1, none⟩) hpl (.slice (some ⟨wc.heap.size + 1 + 1 + 1 + 1, 0, none⟩) 2 2)))
    have HA3 := Lib.hid (HAd.out.ext (Ext.setCell wd (p := ⟨pv, 1, none⟩) hz1 (.slice (some ⟨wc.heap.size + 1 + 1 + 1 + 1, 0, none⟩) 2 2)))
    have hz3 : pv < (wd.setCell ⟨pv, 1, none⟩ (.slice (some ⟨wc.heap.size + 1 + 1 + 1 + 1, 0, none⟩) 2 2)).heap.size := by simp only [World.setCell, Array.size_modify]; exact Nat.lt_of_lt_of_le hpl hbd.size
    rw [hwd] at hvc hvf
    clear HVd HT HAd hBd hB1 hBc hbd HO HV hK0 HA
    go_upto_region 4 with (fail)
    rw [← hwd]
    clear hwd hvc hvf
    generalize hg3 : wd.setCell ⟨pv, 1, none⟩ (.slice (some ⟨wc.heap.size + 1 + 1 + 1 + 1, 0, none⟩) 2 2) = w3 at *
    clear hg3
    obtain ⟨tb, htb⟩ : ∃ tb, tb = wc.heap.size + 1 + 1 + 1 + 1 := ⟨_, rfl⟩
    rw [← htb] at HV3 HT3
    rw [← htb]
    have HO : Hid (Os (fun _ => False) w3 (some ⟨tb, 0, none⟩) 2 obB) := ⟨i64_sm (by decide), HT3.out.anti fun _ _ h => h.elim⟩
    have hvc3 : w3.cell? ⟨pv, 0, none⟩ = some (.int .i64 2) ∧ w3.cell? ⟨pv, 1, none⟩ = some (.slice (some ⟨tb, 0, none⟩) 2 2) := ⟨by rw [cell_of_row _ _ _ _ _ _ HV3.out]; rfl, by rw [cell_of_row _ _ _ _ _ _ HV3.out]; rfl⟩
    have hK0 : Hid (∀ w', Below w3.heap.size w3 w' → w'.cell? ⟨pv, 0, none⟩ = some (.int .i64 2) ∧ w'.cell? ⟨pv, 1, none⟩ = some (.slice (some ⟨tb, 0, none⟩) 2 2)) := fun w' hb => ⟨(hb.cell (p := ⟨pv, 0, none⟩) hz3).trans hvc3.1, (hb.cell (p := ⟨pv, 1, none⟩) hz3).trans hvc3.2⟩
    have hwp : w.heap.size ≤ w3.heap.size := by omega
    clear htb HV3 HT3 hvc3 hpl hz1
    go_cut [5, 6, 7] from 31 to 38 (fun p u e wx => ∃ (q : Nat) (a1 : Option Addr) (c1 : Nat) (a2 : Option Addr) (c2 : Nat) (a : Option Addr) (c : Nat), p = .pointer (some ⟨q, 0, none⟩) ∧ u = .slice a 0 c ∧ e = .int .i64 0 ∧ w3.heap.size ≤ q ∧ Hid (wx.heap[q]? = some (.cells #[.slice a1 0 c1, .int .i64 0, .slice a2 1 c2] 35)) ∧
      Hid (Sl (fun k => k < w3.heap.size) wx a1 c1 ([] : List Int)) ∧ Hid (Sl (fun k => k < w3.heap.size) wx a2 c2 ([1] : List Int)) ∧ Below w3.heap.size w3 wx)
    case first =>
      refine wp_region_L (fun w' => w'.cell? ⟨pv, 0, none⟩ = some (.int .i64 2) ∧ w'.cell? ⟨pv, 1, none⟩ = some (.slice (some ⟨tb, 0, none⟩) 2 2)) [1, 4, 5, 6, 7, 10, 11] (by kernel_rfl) ?_
      have hB_u0 := (Below.refl w3.heap.size w3).drew
      have hz_u0 : w3.heap.size ≤ w3.drew.heap.size := Nat.le_refl _
      have hS_u0 := hK0.out _ hB_u0
      generalize hgg : w3.drew = u0 at *
      clear hgg
      refine wpAnyL_take (i := 1) (v := ?v86) rfl (by kernel_rfl) (by kernel_rfl) (by kernel_rfl) (by kernel_rfl) (fun _ _ _ h => h) (Or.inl ⟨by rfl, ?y86⟩) (by assumption) ?r86
      case y86 => (intro w' hSw; (try dsimp only at hSw); go_simp; try with_reducible rfl)
      try simp only [Act.put, List.setIfInBounds_toArray, List.set_cons_zero, List.set_cons_succ]
      refine wpAnyL_3 (i := 0) (j := 2) (k := 8) (by kernel_rfl) rfl rfl rfl rfl rfl rfl (fun K hK => ?_) (fun K hK => ?_) (fun K hK => ?_)
      · skip
        go_simp
        refine (one_any).mono ?_
        rintro e u1 ⟨an, cn, ao, co, ac, cc, rfl, hh, hb⟩
        have hB_u1 := hB_u0.trans (hb.mono hz_u0)
        have hz_u1 : w3.heap.size ≤ u1.heap.size := by have := hb.size; omega
        have hS_u1 := hK0.out _ hB_u1
        have HH := Lib.hid hh
        refine hK _ _ (fun _ => hS_u1) ?_
        clear hK K hb hh
        try simp only [Act.put, List.setIfInBounds_toArray, List.set_cons_zero, List.set_cons_succ]
        refine wpAnyL_2 (i := 2) (j := 8) (by kernel_rfl) rfl rfl rfl rfl (fun K hK => ?_) (fun K hK => ?_)
        · skip
          go_simp
          have hba := (Below.refl u1.heap.size u1).alloc (Nat.le_refl _) (.cells #[.int .i64 0, .int .i64 1] 3)
          have hB_u2 := hB_u1.alloc hz_u1 (.cells #[.int .i64 0, .int .i64 1] 3)
          have hz_u2 : w3.heap.size ≤ (u1.alloc (.cells #[.int .i64 0, .int .i64 1] 3)).heap.size := by simp; omega
          have hS_u2 := hK0.out _ hB_u2
          have HL : Hid (Sl (fun _ => False) (u1.alloc (.cells #[.int .i64 0, .int .i64 1] 3)) (some ⟨u1.heap.size, 0, none⟩) 2 ([0, 1] : List Int)) := litl (xs := [0, 1]) rfl rfl (by decide) rfl (by decide) id
          have HH := Lib.hid (HH.out.below hba)
          refine hK _ _ (fun _ => hS_u2) ?_
          clear hK K hba
          generalize hgg : u1.alloc (.cells #[.int .i64 0, .int .i64 1] 3) = u2 at *
          clear hgg
          try simp only [Act.put, List.setIfInBounds_toArray, List.set_cons_zero, List.set_cons_succ]
          refine wpAnyL_2 (i := 3) (j := 8) (by kernel_rfl) rfl rfl rfl rfl (fun K hK => ?_) (fun K hK => ?_)
          · skip
            go_simp
            refine (find_any (x := ⟨oneH, obB, [0, 1]⟩) HH.out (HO.out.below hB_u2) HL.out lensB).mono ?_
            rintro e u3 ⟨⟨a1, c1, l1, a2, c2, l2, sy, a3, c3, l3, er, rfl, hres, hp1, hp2, hp3⟩, hb⟩
            obtain ⟨rfl, rfl, rfl, rfl, rfl⟩ := res_eq hres fB
            have hB_u3 := hB_u2.trans (hb.mono hz_u2)
            have hz_u3 : w3.heap.size ≤ u3.heap.size := by have := hb.size; omega
            have hS_u3 := hK0.out _ hB_u3
            have HP1 := Lib.hid (hp1.anti (M' := fun k => k < w3.heap.size) (fun k _ hk => Nat.lt_of_lt_of_le hk hz_u2))
            have HP2 := Lib.hid (hp2.anti (M' := fun k => k < w3.heap.size) (fun k _ hk => Nat.lt_of_lt_of_le hk hz_u2))
            refine hK _ _ (fun _ => hS_u3) ?_
            clear hK K hb hres hp1 hp2 hp3
            try simp only [Act.put, List.setIfInBounds_toArray, List.set_cons_zero, List.set_cons_succ]
            refine wpAnyL_take (i := 4) (v := ?v87) rfl (by kernel_rfl) (by kernel_rfl) (by kernel_rfl) (by kernel_rfl) (fun _ _ _ h => h) (Or.inl ⟨by rfl, ?y87⟩) (by assumption) ?r87
            case y87 => (intro w' hSw; (try dsimp only at hSw); go_simp; try with_reducible rfl)
            try simp only [Act.put, List.setIfInBounds_toArray, List.set_cons_zero, List.set_cons_succ]
            refine wpAnyL_take (i := 5) (v := ?v88) rfl (by kernel_rfl) (by kernel_rfl) (by kernel_rfl) (by kernel_rfl) (fun _ _ _ h => h) (Or.inl ⟨by rfl, ?y88⟩) (by assumption) ?r88
            case y88 => (intro w' hSw; (try dsimp only at hSw); go_simp; try with_reducible rfl)
            try simp only [Act.put, List.setIfInBounds_toArray, List.set_cons_zero, List.set_cons_succ]
            refine wpAnyL_take (i := 6) (v := ?v89) rfl (by kernel_rfl) (by kernel_rfl) (by kernel_rfl) (by kernel_rfl) (fun _ _ _ h => h) (Or.inl ⟨by rfl, ?y89⟩) (by assumption) ?r89
            case y89 => (intro w' hSw; (try dsimp only at hSw); go_simp; try with_reducible rfl)
            try simp only [Act.put, List.setIfInBounds_toArray, List.set_cons_zero, List.set_cons_succ]
            refine wpAnyL_take (i := 7) (v := ?v90) rfl (by kernel_rfl) (by kernel_rfl) (by kernel_rfl) (by kernel_rfl) (fun _ _ _ h => h) (Or.inl ⟨by rfl, ?y90⟩) (by assumption) ?r90
            case y90 => (intro w' hSw; (try dsimp only at hSw); go_simp; try with_reducible rfl)
            try simp only [Act.put, List.setIfInBounds_toArray, List.set_cons_zero, List.set_cons_succ]
            refine wpAnyL_one (i := 8) (by kernel_rfl) rfl rfl (fun K hK => ?_)
            go_simp
            have hba := (Below.refl u3.heap.size u3).alloc (Nat.le_refl _) zeS
            have hB_u4 := hB_u3.alloc hz_u3 zeS
            have hz_u4 : w3.heap.size ≤ (u3.alloc zeS).heap.size := by simp; omega
            have hS_u4 := hK0.out _ hB_u4
            obtain ⟨q, hq⟩ : ∃ q, q = u3.heap.size := ⟨_, rfl⟩
            have HQ := heap_alloc_new u3 zeS
            rw [← hq] at HQ
            have HQ := Lib.hid HQ
            have hqz : w3.heap.size ≤ q := by omega
            have hql : q < (u3.alloc zeS).heap.size := by simp; omega
            have hF := Lib.hid hba
            have hqf := Lib.hid (Nat.le_of_eq hq.symm)
            refine hK _ _ (fun _ => hS_u4) ?_
            clear hK K hba
            (try rw [← hq])
            clear hq
            generalize hgg : u3.alloc zeS = u4 at *
            clear hgg
            try simp only [Act.put, List.setIfInBounds_toArray, List.set_cons_zero, List.set_cons_succ]
            obtain ⟨⟨k0, k1, k2⟩, kf⟩ := cells3 HQ.out
            have hBz := bel_st3 (g := q) (y0 := .slice a1 0 c1) (y1 := .int .i64 0) (y2 := .slice a2 1 c2) hB_u4 hqz
            have hRz := Lib.hid (set3 (y0 := .slice a1 0 c1) (y1 := .int .i64 0) (y2 := .slice a2 1 c2) HQ.out)
            have hSz := hK0.out _ hBz
            have HP1z := Lib.hid (HP1.out.below (bel_st3 (g := q) (y0 := .slice a1 0 c1) (y1 := .int .i64 0) (y2 := .slice a2 1 c2) hF.out hqf.out))
            have HP2z := Lib.hid (HP2.out.below (bel_st3 (g := q) (y0 := .slice a1 0 c1) (y1 := .int .i64 0) (y2 := .slice a2 1 c2) hF.out hqf.out))
            refine wpAnyL_one (i := 9) (by kernel_rfl) rfl rfl (fun K hK => ?_)
            go_simp
            refine hK _ _ (fun _ => hSz) ?_
            clear hK K k0 k1 k2 kf
            try simp only [Act.put, List.setIfInBounds_toArray, List.set_cons_zero, List.set_cons_succ]
            refine wpAnyL_take (i := 10) (v := ?v91) rfl (by kernel_rfl) (by kernel_rfl) (by kernel_rfl) (by kernel_rfl) (fun _ _ _ h => h) (Or.inl ⟨by rfl, ?y91⟩) (by assumption) ?r91
            case y91 => (intro w' hSw; (try dsimp only at hSw); go_simp; try with_reducible rfl)
            try simp only [Act.put, List.setIfInBounds_toArray, List.set_cons_zero, List.set_cons_succ]
            refine wpAnyL_take (i := 11) (v := ?v92) rfl (by kernel_rfl) (by kernel_rfl) (by kernel_rfl) (by kernel_rfl) (fun _ _ _ h => h) (Or.inl ⟨by rfl, ?y92⟩) (by assumption) ?r92
            case y92 => (intro w' hSw; (try dsimp only at hSw); go_simp; try with_reducible rfl)
            try simp only [Act.put, List.setIfInBounds_toArray, List.set_cons_zero, List.set_cons_succ]
            refine wpAnyL_done (by kernel_rfl) ?_ _
            go_wp2
            go_meet
            exact ⟨q, a1, c1, a2, c2, a3, c3, rfl, rfl, rfl, hqz, hRz, HP1z, HP2z, hBz⟩
          · skip
            go_simp
            have hba := (Below.refl u2.heap.size u2).alloc (Nat.le_refl _) zeS
            have hB_u3 := hB_u2.alloc hz_u2 zeS
            have hz_u3 : w3.heap.size ≤ (u2.alloc zeS).heap.size := by simp; omega
            have hS_u3 := hK0.out _ hB_u3
            obtain ⟨q, hq⟩ : ∃ q, q = u2.heap.size := ⟨_, rfl⟩
            have HQ := heap_alloc_new u2 zeS
            rw [← hq] at HQ
            have HQ := Lib.hid HQ
            have hqz : w3.heap.size ≤ q := by omega
            have hql : q < (u2.alloc zeS).heap.size := by simp; omega
            have HH := Lib.hid (HH.out.below hba)
            have HL := Lib.hid (HL.out.below hba)
            refine hK _ _ (fun _ => hS_u3) ?_
            clear hK K hba
            (try rw [← hq])
            clear hq
            generalize hgg : u2.alloc zeS = u3 at *
            clear hgg
            try simp only [Act.put, List.setIfInBounds_toArray, List.set_cons_zero, List.set_cons_succ]
            refine wpAnyL_one (i := 3) (by kernel_rfl) rfl rfl (fun K hK => ?_)
            go_simp
            refine (find_any (x := ⟨oneH, obB, [0, 1]⟩) HH.out (HO.out.below hB_u3) HL.out lensB).mono ?_
            rintro e u4 ⟨⟨a1, c1, l1, a2, c2, l2, sy, a3, c3, l3, er, rfl, hres, hp1, hp2, hp3⟩, hb⟩
            obtain ⟨rfl, rfl, rfl, rfl, rfl⟩ := res_eq hres fB
            have hB_u4 := hB_u3.trans (hb.mono hz_u3)
            have hz_u4 : w3.heap.size ≤ u4.heap.size := by have := hb.size; omega
            have hS_u4 := hK0.out _ hB_u4
            have HQ := Lib.hid ((hb.block q hql).trans HQ.out)
            have HP1 := Lib.hid (hp1.anti (M' := fun k => k < q + 1) (fun k _ hk => by omega))
            have HP2 := Lib.hid (hp2.anti (M' := fun k => k < q + 1) (fun k _ hk => by omega))
            have hql : q < u4.heap.size := Nat.lt_of_lt_of_le hql hb.size
            refine hK _ _ (fun _ => hS_u4) ?_
            clear hK K hb hres hp1 hp2 hp3
            try simp only [Act.put, List.setIfInBounds_toArray, List.set_cons_zero, List.set_cons_succ]
            refine wpAnyL_take (i := 4) (v := ?v93) rfl (by kernel_rfl) (by kernel_rfl) (by kernel_rfl) (by kernel_rfl) (fun _ _ _ h => h) (Or.inl ⟨by rfl, ?y93⟩) (by assumption) ?r93
            case y93 => (intro w' hSw; (try dsimp only at hSw); go_simp; try with_reducible rfl)
            try simp only [Act.put, List.setIfInBounds_toArray, List.set_cons_zero, List.set_cons_succ]
            refine wpAnyL_take (i := 5) (v := ?v94) rfl (by kernel_rfl) (by kernel_rfl) (by kernel_rfl) (by kernel_rfl) (fun _ _ _ h => h) (Or.inl ⟨by rfl, ?y94⟩) (by assumption) ?r94
            case y94 => (intro w' hSw; (try dsimp only at hSw); go_simp; try with_reducible rfl)
            try simp only [Act.put, List.setIfInBounds_toArray, List.set_cons_zero, List.set_cons_succ]
            refine wpAnyL_take (i := 6) (v := ?v95) rfl (by kernel_rfl) (by kernel_rfl) (by kernel_rfl) (by kernel_rfl) (fun _ _ _ h => h) (Or.inl ⟨by rfl, ?y95⟩) (by assumption) ?r95
            case y95 => (intro w' hSw; (try dsimp only at hSw); go_simp; try with_reducible rfl)
            try simp only [Act.put, List.setIfInBounds_toArray, List.set_cons_zero, List.set_cons_succ]
            refine wpAnyL_take (i := 7) (v := ?v96) rfl (by kernel_rfl) (by kernel_rfl) (by kernel_rfl) (by kernel_rfl) (fun _ _ _ h => h) (Or.inl ⟨by rfl, ?y96⟩) (by assumption) ?r96
            case y96 => (intro w' hSw; (try dsimp only at hSw); go_simp; try with_reducible rfl)
            try simp only [Act.put, List.setIfInBounds_toArray, List.set_cons_zero, List.set_cons_succ]
            obtain ⟨⟨k0, k1, k2⟩, kf⟩ := cells3 HQ.out
            have hBz := bel_st3 (g := q) (y0 := .slice a1 0 c1) (y1 := .int .i64 0) (y2 := .slice a2 1 c2) hB_u4 hqz
            have hRz := Lib.hid (set3 (y0 := .slice a1 0 c1) (y1 := .int .i64 0) (y2 := .slice a2 1 c2) HQ.out)
            have hSz := hK0.out _ hBz
            have HP1z := Lib.hid (HP1.out.st3 (g := q) (n := w3.heap.size) (y0 := .slice a1 0 c1) (y1 := .int .i64 0) (y2 := .slice a2 1 c2) (by omega) (by omega))
            have HP2z := Lib.hid (HP2.out.st3 (g := q) (n := w3.heap.size) (y0 := .slice a1 0 c1) (y1 := .int .i64 0) (y2 := .slice a2 1 c2) (by omega) (by omega))
            refine wpAnyL_one (i := 9) (by kernel_rfl) rfl rfl (fun K hK => ?_)
            go_simp
            refine hK _ _ (fun _ => hSz) ?_
            clear hK K k0 k1 k2 kf
            try simp only [Act.put, List.setIfInBounds_toArray, List.set_cons_zero, List.set_cons_succ]
            refine wpAnyL_take (i := 10) (v := ?v97) rfl (by kernel_rfl) (by kernel_rfl) (by kernel_rfl) (by kernel_rfl) (fun _ _ _ h => h) (Or.inl ⟨by rfl, ?y97⟩) (by assumption) ?r97
            case y97 => (intro w' hSw; (try dsimp only at hSw); go_simp; try with_reducible rfl)
            try simp only [Act.put, List.setIfInBounds_toArray, List.set_cons_zero, List.set_cons_succ]
            refine wpAnyL_take (i := 11) (v := ?v98) rfl (by kernel_rfl) (by kernel_rfl) (by kernel_rfl) (by kernel_rfl) (fun _ _ _ h => h) (Or.inl ⟨by rfl, ?y98⟩) (by assumption) ?r98
            case y98 => (intro w' hSw; (try dsimp only at hSw); go_simp; try with_reducible rfl)
            try simp only [Act.put, List.setIfInBounds_toArray, List.set_cons_zero, List.set_cons_succ]
            refine wpAnyL_done (by kernel_rfl) ?_ _
            go_wp2
            go_meet
            exact ⟨q, a1, c1, a2, c2, a3, c3, rfl, rfl, rfl, hqz, hRz, HP1z, HP2z, hBz⟩
        · skip
          go_simp
          have hba := (Below.refl u1.heap.size u1).alloc (Nat.le_refl _) zeS
          have hB_u2 := hB_u1.alloc hz_u1 zeS
          have hz_u2 : w3.heap.size ≤ (u1.alloc zeS).heap.size := by simp; omega
          have hS_u2 := hK0.out _ hB_u2
          obtain ⟨q, hq⟩ : ∃ q, q = u1.heap.size := ⟨_, rfl⟩
          have HQ := heap_alloc_new u1 zeS
          rw [← hq] at HQ
          have HQ := Lib.hid HQ
          have hqz : w3.heap.size ≤ q := by omega
          have hql : q < (u1.alloc zeS).heap.size := by simp; omega
          have HH := Lib.hid (HH.out.below hba)
          refine hK _ _ (fun _ => hS_u2) ?_
          clear hK K hba
          (try rw [← hq])
          clear hq
          generalize hgg : u1.alloc zeS = u2 at *
          clear hgg
          try simp only [Act.put, List.setIfInBounds_toArray, List.set_cons_zero, List.set_cons_succ]
          refine wpAnyL_one (i := 2) (by kernel_rfl) rfl rfl (fun K hK => ?_)
          go_simp
          have hba := (Below.refl u2.heap.size u2).alloc (Nat.le_refl _) (.cells #[.int .i64 0, .int .i64 1] 3)
          have hB_u3 := hB_u2.alloc hz_u2 (.cells #[.int .i64 0, .int .i64 1] 3)
          have hz_u3 : w3.heap.size ≤ (u2.alloc (.cells #[.int .i64 0, .int .i64 1] 3)).heap.size := by simp; omega
          have hS_u3 := hK0.out _ hB_u3
          have HL : Hid (Sl (fun _ => False) (u2.alloc (.cells #[.int .i64 0, .int .i64 1] 3)) (some ⟨u2.heap.size, 0, none⟩) 2 ([0, 1] : List Int)) := litl (xs := [0, 1]) rfl rfl (by decide) rfl (by decide) id
          have HH := Lib.hid (HH.out.below hba)
          have HQ := Lib.hid ((hba.block q hql).trans HQ.out)
          have hql : q < (u2.alloc (.cells #[.int .i64 0, .int .i64 1] 3)).heap.size := Nat.lt_of_lt_of_le hql hba.size
          refine hK _ _ (fun _ => hS_u3) ?_
          clear hK K hba
          generalize hgg : u2.alloc (.cells #[.int .i64 0, .int .i64 1] 3) = u3 at *
          clear hgg
          try simp only [Act.put, List.setIfInBounds_toArray, List.set_cons_zero, List.set_cons_succ]
          refine wpAnyL_one (i := 3) (by kernel_rfl) rfl rfl (fun K hK => ?_)
          go_simp
          refine (find_any (x := ⟨oneH, obB, [0, 1]⟩) HH.out (HO.out.below hB_u3) HL.out lensB).mono ?_
          rintro e u4 ⟨⟨a1, c1, l1, a2, c2, l2, sy, a3, c3, l3, er, rfl, hres, hp1, hp2, hp3⟩, hb⟩
          obtain ⟨rfl, rfl, rfl, rfl, rfl⟩ := res_eq hres fB
          have hB_u4 := hB_u3.trans (hb.mono hz_u3)
          have hz_u4 : w3.heap.size ≤ u4.heap.size := by have := hb.size; omega
          have hS_u4 := hK0.out _ hB_u4
          have HQ := Lib.hid ((hb.block q hql).trans HQ.out)
          have HP1 := Lib.hid (hp1.anti (M' := fun k => k < q + 1) (fun k _ hk => by omega))
          have HP2 := Lib.hid (hp2.anti (M' := fun k => k < q + 1) (fun k _ hk => by omega))
          have hql : q < u4.heap.size := Nat.lt_of_lt_of_le hql hb.size
          refine hK _ _ (fun _ => hS_u4) ?_
          clear hK K hb hres hp1 hp2 hp3
          try simp only [Act.put, List.setIfInBounds_toArray, List.set_cons_zero, List.set_cons_succ]
          refine wpAnyL_take (i := 4) (v := ?v99) rfl (by kernel_rfl) (by kernel_rfl) (by kernel_rfl) (by kernel_rfl) (fun _ _ _ h => h) (Or.inl ⟨by rfl, ?y99⟩) (by assumption) ?r99
          case y99 => (intro w' hSw; (try dsimp only at hSw); go_simp; try with_reducible rfl)
          try simp only [Act.put, List.setIfInBounds_toArray, List.set_cons_zero, List.set_cons_succ]
          refine wpAnyL_take (i := 5) (v := ?v100) rfl (by kernel_rfl) (by kernel_rfl) (by kernel_rfl) (by kernel_rfl) (fun _ _ _ h => h) (Or.inl ⟨by rfl, ?y100⟩) (by assumption) ?r100
          case y100 => (intro w' hSw; (try dsimp only at hSw); go_simp; try with_reducible rfl)
          try simp only [Act.put, List.setIfInBounds_toArray, List.set_cons_zero, List.set_cons_succ]
          refine wpAnyL_take (i := 6) (v := ?v101) rfl (by kernel_rfl) (by kernel_rfl) (by kernel_rfl) (by kernel_rfl) (fun _ _ _ h => h) (Or.inl ⟨by rfl, ?y101⟩) (by assumption) ?r101
          case y101 => (intro w' hSw; (try dsimp only at hSw); go_simp; try with_reducible rfl)
          try simp only [Act.put, List.setIfInBounds_toArray, List.set_cons_zero, List.set_cons_succ]
          refine wpAnyL_take (i := 7) (v := ?v102) rfl (by kernel_rfl) (by kernel_rfl) (by kernel_rfl) (by kernel_rfl) (fun _ _ _ h => h) (Or.inl ⟨by rfl, ?y102⟩) (by assumption) ?r102
          case y102 => (intro w' hSw; (try dsimp only at hSw); go_simp; try with_reducible rfl)
          try simp only [Act.put, List.setIfInBounds_toArray, List.set_cons_zero, List.set_cons_succ]
          obtain ⟨⟨k0, k1, k2⟩, kf⟩ := cells3 HQ.out
          have hBz := bel_st3 (g := q) (y0 := .slice a1 0 c1) (y1 := .int .i64 0) (y2 := .slice a2 1 c2) hB_u4 hqz
          have hRz := Lib.hid (set3 (y0 := .slice a1 0 c1) (y1 := .int .i64 0) (y2 := .slice a2 1 c2) HQ.out)
          have hSz := hK0.out _ hBz
          have HP1z := Lib.hid (HP1.out.st3 (g := q) (n := w3.heap.size) (y0 := .slice a1 0 c1) (y1 := .int .i64 0) (y2 := .slice a2 1 c2) (by omega) (by omega))
          have HP2z := Lib.hid (HP2.out.st3 (g := q) (n := w3.heap.size) (y0 := .slice a1 0 c1) (y1 := .int .i64 0) (y2 := .slice a2 1 c2) (by omega) (by omega))
          refine wpAnyL_one (i := 9) (by kernel_rfl) rfl rfl (fun K hK => ?_)
          go_simp
          refine hK _ _ (fun _ => hSz) ?_
          clear hK K k0 k1 k2 kf
          try simp only [Act.put, List.setIfInBounds_toArray, List.set_cons_zero, List.set_cons_succ]
          refine wpAnyL_take (i := 10) (v := ?v103) rfl (by kernel_rfl) (by kernel_rfl) (by kernel_rfl) (by kernel_rfl) (fun _ _ _ h => h) (Or.inl ⟨by rfl, ?y103⟩) (by assumption) ?r103
          case y103 => (intro w' hSw; (try dsimp only at hSw); go_simp; try with_reducible rfl)
          try simp only [Act.put, List.setIfInBounds_toArray, List.set_cons_zero, List.set_cons_succ]
          refine wpAnyL_take (i := 11) (v := ?v104) rfl (by kernel_rfl) (by kernel_rfl) (by kernel_rfl) (by kernel_rfl) (fun _ _ _ h => h) (Or.inl ⟨by rfl, ?y104⟩) (by assumption) ?r104
          case y104 => (intro w' hSw; (try dsimp only at hSw); go_simp; try with_reducible rfl)
          try simp only [Act.put, List.setIfInBounds_toArray, List.set_cons_zero, List.set_cons_succ]
          refine wpAnyL_done (by kernel_rfl) ?_ _
          go_wp2
          go_meet
          exact ⟨q, a1, c1, a2, c2, a3, c3, rfl, rfl, rfl, hqz, hRz, HP1z, HP2z, hBz⟩
      · skip
        go_simp
        have hba := (Below.refl u0.heap.size u0).alloc (Nat.le_refl _) (.cells #[.int .i64 0, .int .i64 1] 3)
        have hB_u1 := hB_u0.alloc hz_u0 (.cells #[.int .i64 0, .int .i64 1] 3)
        have hz_u1 : w3.heap.size ≤ (u0.alloc (.cells #[.int .i64 0, .int .i64 1] 3)).heap.size := by simp; omega
        have hS_u1 := hK0.out _ hB_u1
        have HL : Hid (Sl (fun _ => False) (u0.alloc (.cells #[.int .i64 0, .int .i64 1] 3)) (some ⟨u0.heap.size, 0, none⟩) 2 ([0, 1] : List Int)) := litl (xs := [0, 1]) rfl rfl (by decide) rfl (by decide) id
        refine hK _ _ (fun _ => hS_u1) ?_
        clear hK K hba
        generalize hgg : u0.alloc (.cells #[.int .i64 0, .int .i64 1] 3) = u1 at *
        clear hgg
        try simp only [Act.put, List.setIfInBounds_toArray, List.set_cons_zero, List.set_cons_succ]
        refine wpAnyL_2 (i := 0) (j := 8) (by kernel_rfl) rfl rfl rfl rfl (fun K hK => ?_) (fun K hK => ?_)
        · skip
          go_simp
          refine (one_any).mono ?_
          rintro e u2 ⟨an, cn, ao, co, ac, cc, rfl, hh, hb⟩
          have hB_u2 := hB_u1.trans (hb.mono hz_u1)
          have hz_u2 : w3.heap.size ≤ u2.heap.size := by have := hb.size; omega
          have hS_u2 := hK0.out _ hB_u2
          have HH := Lib.hid hh
          have HL := Lib.hid (HL.out.below hb)
          refine hK _ _ (fun _ => hS_u2) ?_
          clear hK K hb hh
          try simp only [Act.put, List.setIfInBounds_toArray, List.set_cons_zero, List.set_cons_succ]
          refine wpAnyL_2 (i := 3) (j := 8) (by kernel_rfl) rfl rfl rfl rfl (fun K hK => ?_) (fun K hK => ?_)
          · skip
            go_simp
            refine (find_any (x := ⟨oneH, obB, [0, 1]⟩) HH.out (HO.out.below hB_u2) HL.out lensB).mono ?_
            rintro e u3 ⟨⟨a1, c1, l1, a2, c2, l2, sy, a3, c3, l3, er, rfl, hres, hp1, hp2, hp3⟩, hb⟩
            obtain ⟨rfl, rfl, rfl, rfl, rfl⟩ := res_eq hres fB
            have hB_u3 := hB_u2.trans (hb.mono hz_u2)
            have hz_u3 : w3.heap.size ≤ u3.heap.size := by have := hb.size; omega
            have hS_u3 := hK0.out _ hB_u3
            have HP1 := Lib.hid (hp1.anti (M' := fun k => k < w3.heap.size) (fun k _ hk => Nat.lt_of_lt_of_le hk hz_u2))
            have HP2 := Lib.hid (hp2.anti (M' := fun k => k < w3.heap.size) (fun k _ hk => Nat.lt_of_lt_of_le hk hz_u2))
            refine hK _ _ (fun _ => hS_u3) ?_
            clear hK K hb hres hp1 hp2 hp3
            try simp only [Act.put, List.setIfInBounds_toArray, List.set_cons_zero, List.set_cons_succ]
            refine wpAnyL_take (i := 4) (v := ?v105) rfl (by kernel_rfl) (by kernel_rfl) (by kernel_rfl) (by kernel_rfl) (fun _ _ _ h => h) (Or.inl ⟨by rfl, ?y105⟩) (by assumption) ?r105
            case y105 => (intro w' hSw; (try dsimp only at hSw); go_simp; try with_reducible rfl)
            try simp only [Act.put, List.setIfInBounds_toArray, List.set_cons_zero, List.set_cons_succ]
            refine wpAnyL_take (i := 5) (v := ?v106) rfl (by kernel_rfl) (by kernel_rfl) (by kernel_rfl) (by kernel_rfl) (fun _ _ _ h => h) (Or.inl ⟨by rfl, ?y106⟩) (by assumption) ?r106
            case y106 => (intro w' hSw; (try dsimp only at hSw); go_simp; try with_reducible rfl)
            try simp only [Act.put, List.setIfInBounds_toArray, List.set_cons_zero, List.set_cons_succ]
            refine wpAnyL_take (i := 6) (v := ?v107) rfl (by kernel_rfl) (by kernel_rfl) (by kernel_rfl) (by kernel_rfl) (fun _ _ _ h => h) (Or.inl ⟨by rfl, ?y107⟩) (by assumption) ?r107
            case y107 => (intro w' hSw; (try dsimp only at hSw); go_simp; try with_reducible rfl)
            try simp only [Act.put, List.setIfInBounds_toArray, List.set_cons_zero, List.set_cons_succ]
            refine wpAnyL_take (i := 7) (v := ?v108) rfl (by kernel_rfl) (by kernel_rfl) (by kernel_rfl) (by kernel_rfl) (fun _ _ _ h => h) (Or.inl ⟨by rfl, ?y108⟩) (by assumption) ?r108
            case y108 => (intro w' hSw; (try dsimp only at hSw); go_simp; try with_reducible rfl)
            try simp only [Act.put, List.setIfInBounds_toArray, List.set_cons_zero, List.set_cons_succ]
            refine wpAnyL_one (i := 8) (by kernel_rfl) rfl rfl (fun K hK => ?_)
            go_simp
            have hba := (Below.refl u3.heap.size u3).alloc (Nat.le_refl _) zeS
            have hB_u4 := hB_u3.alloc hz_u3 zeS
            have hz_u4 : w3.heap.size ≤ (u3.alloc zeS).heap.size := by simp; omega
            have hS_u4 := hK0.out _ hB_u4
            obtain ⟨q, hq⟩ : ∃ q, q = u3.heap.size := ⟨_, rfl⟩
            have HQ := heap_alloc_new u3 zeS
            rw [← hq] at HQ
            have HQ := Lib.hid HQ
            have hqz : w3.heap.size ≤ q := by omega
            have hql : q < (u3.alloc zeS).heap.size := by simp; omega
            have hF := Lib.hid hba
            have hqf := Lib.hid (Nat.le_of_eq hq.symm)
            refine hK _ _ (fun _ => hS_u4) ?_
            clear hK K hba
            (try rw [← hq])
            clear hq
            generalize hgg : u3.alloc zeS = u4 at *
            clear hgg
            try simp only [Act.put, List.setIfInBounds_toArray, List.set_cons_zero, List.set_cons_succ]
            obtain ⟨⟨k0, k1, k2⟩, kf⟩ := cells3 HQ.out
            have hBz := bel_st3 (g := q) (y0 := .slice a1 0 c1) (y1 := .int .i64 0) (y2 := .slice a2 1 c2) hB_u4 hqz
            have hRz := Lib.hid (set3 (y0 := .slice a1 0 c1) (y1 := .int .i64 0) (y2 := .slice a2 1 c2) HQ.out)
            have hSz := hK0.out _ hBz
            have HP1z := Lib.hid (HP1.out.below (bel_st3 (g := q) (y0 := .slice a1 0 c1) (y1 := .int .i64 0) (y2 := .slice a2 1 c2) hF.out hqf.out))
            have HP2z := Lib.hid (HP2.out.below (bel_st3 (g := q) (y0 := .slice a1 0 c1) (y1 := .int .i64 0) (y2 := .slice a2 1 c2) hF.out hqf.out))
            refine wpAnyL_one (i := 9) (by kernel_rfl) rfl rfl (fun K hK => ?_)
            go_simp
            refine hK _ _ (fun _ => hSz) ?_
            clear hK K k0 k1 k2 kf
            try simp only [Act.put, List.setIfInBounds_toArray, List.set_cons_zero, List.set_cons_succ]
            refine wpAnyL_take (i := 10) (v := ?v109) rfl (by kernel_rfl) (by kernel_rfl) (by kernel_rfl) (by kernel_rfl) (fun _ _ _ h => h) (Or.inl ⟨by rfl, ?y109⟩) (by assumption) ?r109
            case y109 => (intro w' hSw; (try dsimp only at hSw); go_simp; try with_reducible rfl)
            try simp only [Act.put, List.setIfInBounds_toArray, List.set_cons_zero, List.set_cons_succ]
            refine wpAnyL_take (i := 11) (v := ?v110) rfl (by kernel_rfl) (by kernel_rfl) (by kernel_rfl) (by kernel_rfl) (fun _ _ _ h => h) (Or.inl ⟨by rfl, ?y110⟩) (by assumption) ?r110
            case y110 => (intro w' hSw; (try dsimp only at hSw); go_simp; try with_reducible rfl)
            try simp only [Act.put, List.setIfInBounds_toArray, List.set_cons_zero, List.set_cons_succ]
            refine wpAnyL_done (by kernel_rfl) ?_ _
            go_wp2
            go_meet
            exact ⟨q, a1, c1, a2, c2, a3, c3, rfl, rfl, rfl, hqz, hRz, HP1z, HP2z, hBz⟩
          · skip
            go_simp
            have hba := (Below.refl u2.heap.size u2).alloc (Nat.le_refl _) zeS
            have hB_u3 := hB_u2.alloc hz_u2 zeS
            have hz_u3 : w3.heap.size ≤ (u2.alloc zeS).heap.size := by simp; omega
            have hS_u3 := hK0.out _ hB_u3
            obtain ⟨q, hq⟩ : ∃ q, q = u2.heap.size := ⟨_, rfl⟩
            have HQ := heap_alloc_new u2 zeS
            rw [← hq] at HQ
            have HQ := Lib.hid HQ
            have hqz : w3.heap.size ≤ q := by omega
            have hql : q < (u2.alloc zeS).heap.size := by simp; omega
            have HH := Lib.hid (HH.out.below hba)
            have HL := Lib.hid (HL.out.below hba)
            refine hK _ _ (fun _ => hS_u3) ?_
            clear hK K hba
            (try rw [← hq])
            clear hq
            generalize hgg : u2.alloc zeS = u3 at *
            clear hgg
            try simp only [Act.put, List.setIfInBounds_toArray, List.set_cons_zero, List.set_cons_succ]
            refine wpAnyL_one (i := 3) (by kernel_rfl) rfl rfl (fun K hK => ?_)
            go_simp
            refine (find_any (x := ⟨oneH, obB, [0, 1]⟩) HH.out (HO.out.below hB_u3) HL.out lensB).mono ?_
            rintro e u4 ⟨⟨a1, c1, l1, a2, c2, l2, sy, a3, c3, l3, er, rfl, hres, hp1, hp2, hp3⟩, hb⟩
            obtain ⟨rfl, rfl, rfl, rfl, rfl⟩ := res_eq hres fB
            have hB_u4 := hB_u3.trans (hb.mono hz_u3)
            have hz_u4 : w3.heap.size ≤ u4.heap.size := by have := hb.size; omega
            have hS_u4 := hK0.out _ hB_u4
            have HQ := Lib.hid ((hb.block q hql).trans HQ.out)
            have HP1 := Lib.hid (hp1.anti (M' := fun k => k < q + 1) (fun k _ hk => by omega))
            have HP2 := Lib.hid (hp2.anti (M' := fun k => k < q + 1) (fun k _ hk => by omega))
            have hql : q < u4.heap.size := Nat.lt_of_lt_of_le hql hb.size
            refine hK _ _ (fun _ => hS_u4) ?_
            clear hK K hb hres hp1 hp2 hp3
            try simp only [Act.put, List.setIfInBounds_toArray, List.set_cons_zero, List.set_cons_succ]
            refine wpAnyL_take (i := 4) (v := ?v111) rfl (by kernel_rfl) (by kernel_rfl) (by kernel_rfl) (by kernel_rfl) (fun _ _ _ h => h) (Or.inl ⟨by rfl, ?y111⟩) (by assumption) ?r111
            case y111 => (intro w' hSw; (try dsimp only at hSw); go_simp; try with_reducible rfl)
            try simp only [Act.put, List.setIfInBounds_toArray, List.set_cons_zero, List.set_cons_succ]
            refine wpAnyL_take (i := 5) (v := ?v112) rfl (by kernel_rfl) (by kernel_rfl) (by kernel_rfl) (by kernel_rfl) (fun _ _ _ h => h) (Or.inl ⟨by rfl, ?y112⟩) (by assumption) ?r112
            case y112 => (intro w' hSw; (try dsimp only at hSw); go_simp; try with_reducible rfl)
            try simp only [Act.put, List.setIfInBounds_toArray, List.set_cons_zero, List.set_cons_succ]
            refine wpAnyL_take (i := 6) (v := ?v113) rfl (by kernel_rfl) (by kernel_rfl) (by kernel_rfl) (by kernel_rfl) (fun _ _ _ h => h) (Or.inl ⟨by rfl, ?y113⟩) (by assumption) ?r113
            case y113 => (intro w' hSw; (try dsimp only at hSw); go_simp; try with_reducible rfl)
            try simp only [Act.put, List.setIfInBounds_toArray, List.set_cons_zero, List.set_cons_succ]
            refine wpAnyL_take (i := 7) (v := ?v114) rfl (by kernel_rfl) (by kernel_rfl) (by kernel_rfl) (by kernel_rfl) (fun _ _ _ h => h) (Or.inl ⟨by rfl, ?y114⟩) (by assumption) ?r114
            case y114 => (intro w' hSw; (try dsimp only at hSw); go_simp; try with_reducible rfl)
            try simp only [Act.put, List.setIfInBounds_toArray, List.set_cons_zero, List.set_cons_succ]
            obtain ⟨⟨k0, k1, k2⟩, kf⟩ := cells3 HQ.out
            have hBz := bel_st3 (g := q) (y0 := .slice a1 0 c1) (y1 := .int .i64 0) (y2 := .slice a2 1 c2) hB_u4 hqz
            have hRz := Lib.hid (set3 (y0 := .slice a1 0 c1) (y1 := .int .i64 0) (y2 := .slice a2 1 c2) HQ.out)
            have hSz := hK0.out _ hBz
            have HP1z := Lib.hid (HP1.out.st3 (g := q) (n := w3.heap.size) (y0 := .slice a1 0 c1) (y1 := .int .i64 0) (y2 := .slice a2 1 c2) (by omega) (by omega))
            have HP2z := Lib.hid (HP2.out.st3 (g := q) (n := w3.heap.size) (y0 := .slice a1 0 c1) (y1 := .int .i64 0) (y2 := .slice a2 1 c2) (by omega) (by omega))
            refine wpAnyL_one (i := 9) (by kernel_rfl) rfl rfl (fun K hK => ?_)
            go_simp
            refine hK _ _ (fun _ => hSz) ?_
            clear hK K k0 k1 k2 kf
            try simp only [Act.put, List.setIfInBounds_toArray, List.set_cons_zero, List.set_cons_succ]
            refine wpAnyL_take (i := 10) (v := ?v115) rfl (by kernel_rfl) (by kernel_rfl) (by kernel_rfl) (by kernel_rfl) (fun _ _ _ h => h) (Or.inl ⟨by rfl, ?y115⟩) (by assumption) ?r115
            case y115 => (intro w' hSw; (try dsimp only at hSw); go_simp; try with_reducible rfl)
            try simp only [Act.put, List.setIfInBounds_toArray, List.set_cons_zero, List.set_cons_succ]
            refine wpAnyL_take (i := 11) (v := ?v116) rfl (by kernel_rfl) (by kernel_rfl) (by kernel_rfl) (by kernel_rfl) (fun _ _ _ h => h) (Or.inl ⟨by rfl, ?y116⟩) (by assumption) ?r116
            case y116 => (intro w' hSw; (try dsimp only at hSw); go_simp; try with_reducible rfl)
            try simp only [Act.put, List.setIfInBounds_toArray, List.set_cons_zero, List.set_cons_succ]
            refine wpAnyL_done (by kernel_rfl) ?_ _
            go_wp2
            go_meet
            exact ⟨q, a1, c1, a2, c2, a3, c3, rfl, rfl, rfl, hqz, hRz, HP1z, HP2z, hBz⟩
        · skip
          go_simp
          have hba := (Below.refl u1.heap.size u1).alloc (Nat.le_refl _) zeS
          have hB_u2 := hB_u1.alloc hz_u1 zeS
          have hz_u2 : w3.heap.size ≤ (u1.alloc zeS).heap.size := by simp; omega
          have hS_u2 := hK0.out _ hB_u2
          obtain ⟨q, hq⟩ : ∃ q, q = u1.heap.size := ⟨_, rfl⟩
          have HQ := heap_alloc_new u1 zeS
          rw [← hq] at HQ
          have HQ := Lib.hid HQ
          have hqz : w3.heap.size ≤ q := by omega
          have hql : q < (u1.alloc zeS).heap.size := by simp; omega
          have HL := Lib.hid (HL.out.below hba)
          refine hK _ _ (fun _ => hS_u2) ?_
          clear hK K hba
          (try rw [← hq])
          clear hq
          generalize hgg : u1.alloc zeS = u2 at *
          clear hgg
          try simp only [Act.put, List.setIfInBounds_toArray, List.set_cons_zero, List.set_cons_succ]
          refine wpAnyL_one (i := 0) (by kernel_rfl) rfl rfl (fun K hK => ?_)
          go_simp
          refine (one_any).mono ?_
          rintro e u3 ⟨an, cn, ao, co, ac, cc, rfl, hh, hb⟩
          have hB_u3 := hB_u2.trans (hb.mono hz_u2)
          have hz_u3 : w3.heap.size ≤ u3.heap.size := by have := hb.size; omega
          have hS_u3 := hK0.out _ hB_u3
          have HH := Lib.hid hh
          have HL := Lib.hid (HL.out.below hb)
          have HQ := Lib.hid ((hb.block q hql).trans HQ.out)
          have hql : q < u3.heap.size := Nat.lt_of_lt_of_le hql hb.size
          refine hK _ _ (fun _ => hS_u3) ?_
          clear hK K hb hh
          try simp only [Act.put, List.setIfInBounds_toArray, List.set_cons_zero, List.set_cons_succ]
          refine wpAnyL_one (i := 3) (by kernel_rfl) rfl rfl (fun K hK => ?_)
          go_simp
          refine (find_any (x := ⟨oneH, obB, [0, 1]⟩) HH.out (HO.out.below hB_u3) HL.out lensB).mono ?_
          rintro e u4 ⟨⟨a1, c1, l1, a2, c2, l2, sy, a3, c3, l3, er, rfl, hres, hp1, hp2, hp3⟩, hb⟩
          obtain ⟨rfl, rfl, rfl, rfl, rfl⟩ := res_eq hres fB
          have hB_u4 := hB_u3.trans (hb.mono hz_u3)
          have hz_u4 : w3.heap.size ≤ u4.heap.size := by have := hb.size; omega
          have hS_u4 := hK0.out _ hB_u4
          have HQ := Lib.hid ((hb.block q hql).trans HQ.out)
          have HP1 := Lib.hid (hp1.anti (M' := fun k => k < q + 1) (fun k _ hk => by omega))
          have HP2 := Lib.hid (hp2.anti (M' := fun k => k < q + 1) (fun k _ hk => by omega))
          have hql : q < u4.heap.size := Nat.lt_of_lt_of_le hql hb.size
          refine hK _ _ (fun _ => hS_u4) ?_
          clear hK K hb hres hp1 hp2 hp3
          try simp only [Act.put, List.setIfInBounds_toArray, List.set_cons_zero, List.set_cons_succ]
          refine wpAnyL_take (i := 4) (v := ?v117) rfl (by kernel_rfl) (by kernel_rfl) (by kernel_rfl) (by kernel_rfl) (fun _ _ _ h => h) (Or.inl ⟨by rfl, ?y117⟩) (by assumption) ?r117
          case y117 => (intro w' hSw; (try dsimp only at hSw); go_simp; try with_reducible rfl)
          try simp only [Act.put, List.setIfInBounds_toArray, List.set_cons_zero, List.set_cons_succ]
          refine wpAnyL_take (i := 5) (v := ?v118) rfl (by kernel_rfl) (by kernel_rfl) (by kernel_rfl) (by kernel_rfl) (fun _ _ _ h => h) (Or.inl ⟨by rfl, ?y118⟩) (by assumption) ?r118
          case y118 => (intro w' hSw; (try dsimp only at hSw); go_simp; try with_reducible rfl)
          try simp only [Act.put, List.setIfInBounds_toArray, List.set_cons_zero, List.set_cons_succ]
          refine wpAnyL_take (i := 6) (v := ?v119) rfl (by kernel_rfl) (by kernel_rfl) (by kernel_rfl) (by kernel_rfl) (fun _ _ _ h => h) (Or.inl ⟨by rfl, ?y119⟩) (by assumption) ?r119
          case y119 => (intro w' hSw; (try dsimp only at hSw); go_simp; try with_reducible rfl)
          try simp only [Act.put, List.setIfInBounds_toArray, List.set_cons_zero, List.set_cons_succ]
          refine wpAnyL_take (i := 7) (v := ?v120) rfl (by kernel_rfl) (by kernel_rfl) (by kernel_rfl) (by kernel_rfl) (fun _ _ _ h => h) (Or.inl ⟨by rfl, ?y120⟩) (by assumption) ?r120
          case y120 => (intro w' hSw; (try dsimp only at hSw); go_simp; try with_reducible rfl)
          try simp only [Act.put, List.setIfInBounds_toArray, List.set_cons_zero, List.set_cons_succ]
          obtain ⟨⟨k0, k1, k2⟩, kf⟩ := cells3 HQ.out
          have hBz := bel_st3 (g := q) (y0 := .slice a1 0 c1) (y1 := .int .i64 0) (y2 := .slice a2 1 c2) hB_u4 hqz
          have hRz := Lib.hid (set3 (y0 := .slice a1 0 c1) (y1 := .int .i64 0) (y2 := .slice a2 1 c2) HQ.out)
          have hSz := hK0.out _ hBz
          have HP1z := Lib.hid (HP1.out.st3 (g := q) (n := w3.heap.size) (y0 := .slice a1 0 c1) (y1 := .int .i64 0) (y2 := .slice a2 1 c2) (by omega) (by omega))
          have HP2z := Lib.hid (HP2.out.st3 (g := q) (n := w3.heap.size) (y0 := .slice a1 0 c1) (y1 := .int .i64 0) (y2 := .slice a2 1 c2) (by omega) (by omega))
          refine wpAnyL_one (i := 9) (by kernel_rfl) rfl rfl (fun K hK => ?_)
          go_simp
          refine hK _ _ (fun _ => hSz) ?_
          clear hK K k0 k1 k2 kf
          try simp only [Act.put, List.setIfInBounds_toArray, List.set_cons_zero, List.set_cons_succ]
          refine wpAnyL_take (i := 10) (v := ?v121) rfl (by kernel_rfl) (by kernel_rfl) (by kernel_rfl) (by kernel_rfl) (fun _ _ _ h => h) (Or.inl ⟨by rfl, ?y121⟩) (by assumption) ?r121
          case y121 => (intro w' hSw; (try dsimp only at hSw); go_simp; try with_reducible rfl)
          try simp only [Act.put, List.setIfInBounds_toArray, List.set_cons_zero, List.set_cons_succ]
          refine wpAnyL_take (i := 11) (v := ?v122) rfl (by kernel_rfl) (by kernel_rfl) (by kernel_rfl) (by kernel_rfl) (fun _ _ _ h => h) (Or.inl ⟨by rfl, ?y122⟩) (by assumption) ?r122
          case y122 => (intro w' hSw; (try dsimp only at hSw); go_simp; try with_reducible rfl)
          try simp only [Act.put, List.setIfInBounds_toArray, List.set_cons_zero, List.set_cons_succ]
          refine wpAnyL_done (by kernel_rfl) ?_ _
          go_wp2
          go_meet
          exact ⟨q, a1, c1, a2, c2, a3, c3, rfl, rfl, rfl, hqz, hRz, HP1z, HP2z, hBz⟩
      · skip
        go_simp
        have hba := (Below.refl u0.heap.size u0).alloc (Nat.le_refl _) zeS
        have hB_u1 := hB_u0.alloc hz_u0 zeS
        have hz_u1 : w3.heap.size ≤ (u0.alloc zeS).heap.size := by simp; omega
        have hS_u1 := hK0.out _ hB_u1
        obtain ⟨q, hq⟩ : ∃ q, q = u0.heap.size := ⟨_, rfl⟩
        have HQ := heap_alloc_new u0 zeS
        rw [← hq] at HQ
        have HQ := Lib.hid HQ
        have hqz : w3.heap.size ≤ q := by omega
        have hql : q < (u0.alloc zeS).heap.size := by simp; omega
        refine hK _ _ (fun _ => hS_u1) ?_
        clear hK K hba
        (try rw [← hq])
        clear hq
        generalize hgg : u0.alloc zeS = u1 at *
        clear hgg
        try simp only [Act.put, List.setIfInBounds_toArray, List.set_cons_zero, List.set_cons_succ]
        refine wpAnyL_2 (i := 0) (j := 2) (by kernel_rfl) rfl rfl rfl rfl (fun K hK => ?_) (fun K hK => ?_)
        · skip
          go_simp
          refine (one_any).mono ?_
          rintro e u2 ⟨an, cn, ao, co, ac, cc, rfl, hh, hb⟩
          have hB_u2 := hB_u1.trans (hb.mono hz_u1)
          have hz_u2 : w3.heap.size ≤ u2.heap.size := by have := hb.size; omega
          have hS_u2 := hK0.out _ hB_u2
          have HH := Lib.hid hh
          have HQ := Lib.hid ((hb.block q hql).trans HQ.out)
          have hql : q < u2.heap.size := Nat.lt_of_lt_of_le hql hb.size
          refine hK _ _ (fun _ => hS_u2) ?_
          clear hK K hb hh
          try simp only [Act.put, List.setIfInBounds_toArray, List.set_cons_zero, List.set_cons_succ]
          refine wpAnyL_one (i := 2) (by kernel_rfl) rfl rfl (fun K hK => ?_)
          go_simp
          have hba := (Below.refl u2.heap.size u2).alloc (Nat.le_refl _) (.cells #[.int .i64 0, .int .i64 1] 3)
          have hB_u3 := hB_u2.alloc hz_u2 (.cells #[.int .i64 0, .int .i64 1] 3)
          have hz_u3 : w3.heap.size ≤ (u2.alloc (.cells #[.int .i64 0, .int .i64 1] 3)).heap.size := by simp; omega
          have hS_u3 := hK0.out _ hB_u3
          have HL : Hid (Sl (fun _ => False) (u2.alloc (.cells #[.int .i64 0, .int .i64 1] 3)) (some ⟨u2.heap.size, 0, none⟩) 2 ([0, 1] : List Int)) := litl (xs := [0, 1]) rfl rfl (by decide) rfl (by decide) id
          have HH := Lib.hid (HH.out.below hba)
          have HQ := Lib.hid ((hba.block q hql).trans HQ.out)
          have hql : q < (u2.alloc (.cells #[.int .i64 0, .int .i64 1] 3)).heap.size := Nat.lt_of_lt_of_le hql hba.size
          refine hK _ _ (fun _ => hS_u3) ?_
          clear hK K hba
          generalize hgg : u2.alloc (.cells #[.int .i64 0, .int .i64 1] 3) = u3 at *
          clear hgg
          try simp only [Act.put, List.setIfInBounds_toArray, List.set_cons_zero, List.set_cons_succ]
          refine wpAnyL_one (i := 3) (by kernel_rfl) rfl rfl (fun K hK => ?_)
          go_simp
          refine (find_any (x := ⟨oneH, obB, [0, 1]⟩) HH.out (HO.out.below hB_u3) HL.out lensB).mono ?_
          rintro e u4 ⟨⟨a1, c1, l1, a2, c2, l2, sy, a3, c3, l3, er, rfl, hres, hp1, hp2, hp3⟩, hb⟩
          obtain ⟨rfl, rfl, rfl, rfl, rfl⟩ := res_eq hres fB
          have hB_u4 := hB_u3.trans (hb.mono hz_u3)
          have hz_u4 : w3.heap.size ≤ u4.heap.size := by have := hb.size; omega
          have hS_u4 := hK0.out _ hB_u4
          have HQ := Lib.hid ((hb.block q hql).trans HQ.out)
          have HP1 := Lib.hid (hp1.anti (M' := fun k => k < q + 1) (fun k _ hk => by omega))
          have HP2 := Lib.hid (hp2.anti (M' := fun k => k < q + 1) (fun k _ hk => by omega))
          have hql : q < u4.heap.size := Nat.lt_of_lt_of_le hql hb.size
          refine hK _ _ (fun _ => hS_u4) ?_
          clear hK K hb hres hp1 hp2 hp3
          try simp only [Act.put, List.setIfInBounds_toArray, List.set_cons_zero, List.set_cons_succ]
          refine wpAnyL_take (i := 4) (v := ?v123) rfl (by kernel_rfl) (by kernel_rfl) (by kernel_rfl) (by kernel_rfl) (fun _ _ _ h => h) (Or.inl ⟨by rfl, ?y123⟩) (by assumption) ?r123
          case y123 => (intro w' hSw; (try dsimp only at hSw); go_simp; try with_reducible rfl)
          try simp only [Act.put, List.setIfInBounds_toArray, List.set_cons_zero, List.set_cons_succ]
          refine wpAnyL_take (i := 5) (v := ?v124) rfl (by kernel_rfl) (by kernel_rfl) (by kernel_rfl) (by kernel_rfl) (fun _ _ _ h => h) (Or.inl ⟨by rfl, ?y124⟩) (by assumption) ?r124
          case y124 => (intro w' hSw; (try dsimp only at hSw); go_simp; try with_reducible rfl)
          try simp only [Act.put, List.setIfInBounds_toArray, List.set_cons_zero, List.set_cons_succ]
          refine wpAnyL_take (i := 6) (v := ?v125) rfl (by kernel_rfl) (by kernel_rfl) (by kernel_rfl) (by kernel_rfl) (fun _ _ _ h => h) (Or.inl ⟨by rfl, ?y125⟩) (by assumption) ?r125
          case y125 => (intro w' hSw; (try dsimp only at hSw); go_simp; try with_reducible rfl)
          try simp only [Act.put, List.setIfInBounds_toArray, List.set_cons_zero, List.set_cons_succ]
          refine wpAnyL_take (i := 7) (v := ?v126) rfl (by kernel_rfl) (by kernel_rfl) (by kernel_rfl) (by kernel_rfl) (fun _ _ _ h => h) (Or.inl ⟨by rfl, ?y126⟩) (by assumption) ?r126
          case y126 => (intro w' hSw; (try dsimp only at hSw); go_simp; try with_reducible rfl)
          try simp only [Act.put, List.setIfInBounds_toArray, List.set_cons_zero, List.set_cons_succ]
          obtain ⟨⟨k0, k1, k2⟩, kf⟩ := cells3 HQ.out
          have hBz := bel_st3 (g := q) (y0 := .slice a1 0 c1) (y1 := .int .i64 0) (y2 := .slice a2 1 c2) hB_u4 hqz
          have hRz := Lib.hid (set3 (y0 := .slice a1 0 c1) (y1 := .int .i64 0) (y2 := .slice a2 1 c2) HQ.out)
          have hSz := hK0.out _ hBz
          have HP1z := Lib.hid (HP1.out.st3 (g := q) (n := w3.heap.size) (y0 := .slice a1 0 c1) (y1 := .int .i64 0) (y2 := .slice a2 1 c2) (by omega) (by omega))
          have HP2z := Lib.hid (HP2.out.st3 (g := q) (n := w3.heap.size) (y0 := .slice a1 0 c1) (y1 := .int .i64 0) (y2 := .slice a2 1 c2) (by omega) (by omega))
          refine wpAnyL_one (i := 9) (by kernel_rfl) rfl rfl (fun K hK => ?_)
          go_simp
          refine hK _ _ (fun _ => hSz) ?_
          clear hK K k0 k1 k2 kf
          try simp only [Act.put, List.setIfInBounds_toArray, List.set_cons_zero, List.set_cons_succ]
          refine wpAnyL_take (i := 10) (v := ?v127) rfl (by kernel_rfl) (by kernel_rfl) (by kernel_rfl) (by kernel_rfl) (fun _ _ _ h => h) (Or.inl ⟨by rfl, ?y127⟩) (by assumption) ?r127
          case y127 => (intro w' hSw; (try dsimp only at hSw); go_simp; try with_reducible rfl)
          try simp only [Act.put, List.setIfInBounds_toArray, List.set_cons_zero, List.set_cons_succ]
          refine wpAnyL_take (i := 11) (v := ?v128) rfl (by kernel_rfl) (by kernel_rfl) (by kernel_rfl) (by kernel_rfl) (fun _ _ _ h => h) (Or.inl ⟨by rfl, ?y128⟩) (by assumption) ?r128
          case y128 => (intro w' hSw; (try dsimp only at hSw); go_simp; try with_reducible rfl)
          try simp only [Act.put, List.setIfInBounds_toArray, List.set_cons_zero, List.set_cons_succ]
          refine wpAnyL_done (by kernel_rfl) ?_ _
          go_wp2
          go_meet
          exact ⟨q, a1, c1, a2, c2, a3, c3, rfl, rfl, rfl, hqz, hRz, HP1z, HP2z, hBz⟩
        · skip
          go_simp
          have hba := (Below.refl u1.heap.size u1).alloc (Nat.le_refl _) (.cells #[.int .i64 0, .int .i64 1] 3)
          have hB_u2 := hB_u1.alloc hz_u1 (.cells #[.int .i64 0, .int .i64 1] 3)
          have hz_u2 : w3.heap.size ≤ (u1.alloc (.cells #[.int .i64 0, .int .i64 1] 3)).heap.size := by simp; omega
          have hS_u2 := hK0.out _ hB_u2
          have HL : Hid (Sl (fun _ => False) (u1.alloc (.cells #[.int .i64 0, .int .i64 1] 3)) (some ⟨u1.heap.size, 0, none⟩) 2 ([0, 1] : List Int)) := litl (xs := [0, 1]) rfl rfl (by decide) rfl (by decide) id
          have HQ := Lib.hid ((hba.block q hql).trans HQ.out)
          have hql : q < (u1.alloc (.cells #[.int .i64 0, .int .i64 1] 3)).heap.size := Nat.lt_of_lt_of_le hql hba.size
          refine hK _ _ (fun _ => hS_u2) ?_
          clear hK K hba
          generalize hgg : u1.alloc (.cells #[.int .i64 0, .int .i64 1] 3) = u2 at *
          clear hgg
          try simp only [Act.put, List.setIfInBounds_toArray, List.set_cons_zero, List.set_cons_succ]
          refine wpAnyL_one (i := 0) (by kernel_rfl) rfl rfl (fun K hK => ?_)
          go_simp
          refine (one_any).mono ?_
          rintro e u3 ⟨an, cn, ao, co, ac, cc, rfl, hh, hb⟩
          have hB_u3 := hB_u2.trans (hb.mono hz_u2)
          have hz_u3 : w3.heap.size ≤ u3.heap.size := by have := hb.size; omega
          have hS_u3 := hK0.out _ hB_u3
          have HH := Lib.hid hh
          have HL := Lib.hid (HL.out.below hb)
          have HQ := Lib.hid ((hb.block q hql).trans HQ.out)
          have hql : q < u3.heap.size := Nat.lt_of_lt_of_le hql hb.size
          refine hK _ _ (fun _ => hS_u3) ?_
          clear hK K hb hh
          try simp only [Act.put, List.setIfInBounds_toArray, List.set_cons_zero, List.set_cons_succ]
          refine wpAnyL_one (i := 3) (by kernel_rfl) rfl rfl (fun K hK => ?_)
          go_simp
          refine (find_any (x := ⟨oneH, obB, [0, 1]⟩) HH.out (HO.out.below hB_u3) HL.out lensB).mono ?_
          rintro e u4 ⟨⟨a1, c1, l1, a2, c2, l2, sy, a3, c3, l3, er, rfl, hres, hp1, hp2, hp3⟩, hb⟩
          obtain ⟨rfl, rfl, rfl, rfl, rfl⟩ := res_eq hres fB
          have hB_u4 := hB_u3.trans (hb.mono hz_u3)
          have hz_u4 : w3.heap.size ≤ u4.heap.size := by have := hb.size; omega
          have hS_u4 := hK0.out _ hB_u4
          have HQ := Lib.hid ((hb.block q hql).trans HQ.out)
          have HP1 := Lib.hid (hp1.anti (M' := fun k => k < q + 1) (fun k _ hk => by omega))
          have HP2 := Lib.hid (hp2.anti (M' := fun k => k < q + 1) (fun k _ hk => by omega))
          have hql : q < u4.heap.size := Nat.lt_of_lt_of_le hql hb.size
          refine hK _ _ (fun _ => hS_u4) ?_
          clear hK K hb hres hp1 hp2 hp3
          try simp only [Act.put, List.setIfInBounds_toArray, List.set_cons_zero, List.set_cons_succ]
          refine wpAnyL_take (i := 4) (v := ?v129) rfl (by kernel_rfl) (by kernel_rfl) (by kernel_rfl) (by kernel_rfl) (fun _ _ _ h => h) (Or.inl ⟨by rfl, ?y129⟩) (by assumption) ?r129
          case y129 => (intro w' hSw; (try dsimp only at hSw); go_simp; try with_reducible rfl)
          try simp only [Act.put, List.setIfInBounds_toArray, List.set_cons_zero, List.set_cons_succ]
          refine wpAnyL_take (i := 5) (v := ?v130) rfl (by kernel_rfl) (by kernel_rfl) (by kernel_rfl) (by kernel_rfl) (fun _ _ _ h => h) (Or.inl ⟨by rfl, ?y130⟩) (by assumption) ?r130
          case y130 => (intro w' hSw; (try dsimp only at hSw); go_simp; try with_reducible rfl)
          try simp only [Act.put, List.setIfInBounds_toArray, List.set_cons_zero, List.set_cons_succ]
          refine wpAnyL_take (i := 6) (v := ?v131) rfl (by kernel_rfl) (by kernel_rfl) (by kernel_rfl) (by kernel_rfl) (fun _ _ _ h => h) (Or.inl ⟨by rfl, ?y131⟩) (by assumption) ?r131
          case y131 => (intro w' hSw; (try dsimp only at hSw); go_simp; try with_reducible rfl)
          try simp only [Act.put, List.setIfInBounds_toArray, List.set_cons_zero, List.set_cons_succ]
          refine wpAnyL_take (i := 7) (v := ?v132) rfl (by kernel_rfl) (by kernel_rfl) (by kernel_rfl) (by kernel_rfl) (fun _ _ _ h => h) (Or.inl ⟨by rfl, ?y132⟩) (by assumption) ?r132
          case y132 => (intro w' hSw; (try dsimp only at hSw); go_simp; try with_reducible rfl)
          try simp only [Act.put, List.setIfInBounds_toArray, List.set_cons_zero, List.set_cons_succ]
          obtain ⟨⟨k0, k1, k2⟩, kf⟩ := cells3 HQ.out
          have hBz := bel_st3 (g := q) (y0 := .slice a1 0 c1) (y1 := .int .i64 0) (y2 := .slice a2 1 c2) hB_u4 hqz
          have hRz := Lib.hid (set3 (y0 := .slice a1 0 c1) (y1 := .int .i64 0) (y2 := .slice a2 1 c2) HQ.out)
          have hSz := hK0.out _ hBz
          have HP1z := Lib.hid (HP1.out.st3 (g := q) (n := w3.heap.size) (y0 := .slice a1 0 c1) (y1 := .int .i64 0) (y2 := .slice a2 1 c2) (by omega) (by omega))
          have HP2z := Lib.hid (HP2.out.st3 (g := q) (n := w3.heap.size) (y0 := .slice a1 0 c1) (y1 := .int .i64 0) (y2 := .slice a2 1 c2) (by omega) (by omega))
          refine wpAnyL_one (i := 9) (by kernel_rfl) rfl rfl (fun K hK => ?_)
          go_simp
          refine hK _ _ (fun _ => hSz) ?_
          clear hK K k0 k1 k2 kf
          try simp only [Act.put, List.setIfInBounds_toArray, List.set_cons_zero, List.set_cons_succ]
          refine wpAnyL_take (i := 10) (v := ?v133) rfl (by kernel_rfl) (by kernel_rfl) (by kernel_rfl) (by kernel_rfl) (fun _ _ _ h => h) (Or.inl ⟨by rfl, ?y133⟩) (by assumption) ?r133
          case y133 => (intro w' hSw; (try dsimp only at hSw); go_simp; try with_reducible rfl)
          try simp only [Act.put, List.setIfInBounds_toArray, List.set_cons_zero, List.set_cons_succ]
          refine wpAnyL_take (i := 11) (v := ?v134) rfl (by kernel_rfl) (by kernel_rfl) (by kernel_rfl) (by kernel_rfl) (fun _ _ _ h => h) (Or.inl ⟨by rfl, ?y134⟩) (by assumption) ?r134
          case y134 => (intro w' hSw; (try dsimp only at hSw); go_simp; try with_reducible rfl)
          try simp only [Act.put, List.setIfInBounds_toArray, List.set_cons_zero, List.set_cons_succ]
          refine wpAnyL_done (by kernel_rfl) ?_ _
          go_wp2
          go_meet
          exact ⟨q, a1, c1, a2, c2, a3, c3, rfl, rfl, rfl, hqz, hRz, HP1z, HP2z, hBz⟩
    case rest =>
      obtain ⟨q, a1, c1, a2, c2, a', c', rfl, rfl, rfl, hqz, HQ, HP1, HP2, hBe⟩ := hcut
      obtain ⟨we, rfl⟩ : ∃ we : World, we = wc := ⟨_, rfl⟩
      have hqe : q < we.heap.size := (Array.getElem?_eq_some_iff.1 HQ.out).1
      have HAe := Lib.hid (HA3.out.below hBe)
      have hze : w3.heap.size ≤ we.heap.size := hBe.size
      have HKq : Hid (∀ w', Below we.heap.size we w' → (w'.cell? ⟨pv, 0, none⟩ = some (.int .i64 2) ∧ w'.cell? ⟨pv, 1, none⟩ = some (.slice (some ⟨tb, 0, none⟩) 2 2)) ∧ w'.cell? ⟨q, 0, none⟩ = some (.slice a1 0 c1) ∧ w'.cell? ⟨q, 1, none⟩ = some (.int .i64 0) ∧ w'.cell? ⟨q, 2, none⟩ = some (.slice a2 1 c2)) := fun w' hb =>
        ⟨hK0.out w' (hBe.trans (hb.mono hze)), (hb.cell (p := ⟨q, 0, none⟩) hqe).trans (cells3 HQ.out).1.1, (hb.cell (p := ⟨q, 1, none⟩) hqe).trans (cells3 HQ.out).1.2.1, (hb.cell (p := ⟨q, 2, none⟩) hqe).trans (cells3 HQ.out).1.2.2⟩
      have HBe := Lib.hid (HB3.out.trans (hBe.mono hwp))
      have hwe : w.heap.size ≤ we.heap.size := by omega
      have HOe := Lib.hid (HO.out.below hBe)
      clear hK0 HB3 HA3 HO HQ hBe hze
      go_upto_region 5 with (fail)
      refine wp_region_L (fun w' => (w'.cell? ⟨pv, 0, none⟩ = some (.int .i64 2) ∧ w'.cell? ⟨pv, 1, none⟩ = some (.slice (some ⟨tb, 0, none⟩) 2 2)) ∧ w'.cell? ⟨q, 0, none⟩ = some (.slice a1 0 c1) ∧ w'.cell? ⟨q, 1, none⟩ = some (.int .i64 0) ∧ w'.cell? ⟨q, 2, none⟩ = some (.slice a2 1 c2)) [1, 2, 4, 5, 6, 7, 8] (by kernel_rfl) ?_
      have hB_u0 := (Below.refl we.heap.size we).drew
      have hz_u0 : we.heap.size ≤ we.drew.heap.size := Nat.le_refl _
      have hS_u0 := HKq.out _ hB_u0
      generalize hgg : we.drew = u0 at *
      clear hgg
      refine wpAnyL_take (i := 1) (v := ?v135) rfl (by kernel_rfl) (by kernel_rfl) (by kernel_rfl) (by kernel_rfl) (fun _ _ _ h => h) (Or.inl ⟨by rfl, ?y135⟩) (by assumption) ?r135
      case y135 => (intro w' hSw; (try dsimp only at hSw); go_simp; try with_reducible rfl)
      try simp only [Act.put, List.setIfInBounds_toArray, List.set_cons_zero, List.set_cons_succ]
      refine wpAnyL_take (i := 2) (v := ?v136) rfl (by kernel_rfl) (by kernel_rfl) (by kernel_rfl) (by kernel_rfl) (fun _ _ _ h => h) (Or.inl ⟨by rfl, ?y136⟩) (by assumption) ?r136
      case y136 => (intro w' hSw; (try dsimp only at hSw); go_simp; try with_reducible rfl)
      try simp only [Act.put, List.setIfInBounds_toArray, List.set_cons_zero, List.set_cons_succ]
      refine wpAnyL_one (i := 0) (by kernel_rfl) rfl rfl (fun K hK => ?_)
      go_simp
      refine (one_any).mono ?_
      rintro e u1 ⟨an, cn, ao, co, ac, cc, rfl, hh, hb⟩
      have hB_u1 := hB_u0.trans (hb.mono hz_u0)
      have hz_u1 : we.heap.size ≤ u1.heap.size := by have := hb.size; omega
      have hS_u1 := HKq.out _ hB_u1
      refine hK _ _ (fun _ => hS_u1) ?_
      clear hK K hb
      refine wpAnyL_one (i := 3) (by kernel_rfl) rfl rfl (fun K hK => ?_)
      go_simp
      refine (check_any (x := ⟨oneH, obB, ⟨[], 0, [1]⟩⟩) hh (HOe.out.below hB_u1) (HP1.out.below hB_u1) (HP2.out.below hB_u1) (i64_sm (by decide)) lensB).mono ?_
      rintro e u2 ⟨rfl, hb⟩
      rw [cB.1, cB.2]
      have hB_u2 := hB_u1.trans (hb.mono hz_u1)
      have hz_u2 : we.heap.size ≤ u2.heap.size := by have := hb.size; omega
      have hS_u2 := HKq.out _ hB_u2
      refine hK _ _ (fun _ => hS_u2) ?_
      clear hK K hb hh
      refine wpAnyL_take (i := 4) (v := ?v137) rfl (by kernel_rfl) (by kernel_rfl) (by kernel_rfl) (by kernel_rfl) (fun _ _ _ h => h) (Or.inl ⟨by rfl, ?y137⟩) (by assumption) ?r137
      case y137 => (intro w' hSw; (try dsimp only at hSw); go_simp; try with_reducible rfl)
      try simp only [Act.put, List.setIfInBounds_toArray, List.set_cons_zero, List.set_cons_succ]
      refine wpAnyL_take (i := 5) (v := ?v138) rfl (by kernel_rfl) (by kernel_rfl) (by kernel_rfl) (by kernel_rfl) (fun _ _ _ h => h) (Or.inl ⟨by rfl, ?y138⟩) (by assumption) ?r138
      case y138 => (intro w' hSw; (try dsimp only at hSw); go_simp; try with_reducible rfl)
      try simp only [Act.put, List.setIfInBounds_toArray, List.set_cons_zero, List.set_cons_succ]
      refine wpAnyL_take (i := 6) (v := ?v139) rfl (by kernel_rfl) (by kernel_rfl) (by kernel_rfl) (by kernel_rfl) (fun _ _ _ h => h) (Or.inl ⟨by rfl, ?y139⟩) (by assumption) ?r139
      case y139 => (intro w' hSw; (try dsimp only at hSw); go_simp; try with_reducible rfl)
      try simp only [Act.put, List.setIfInBounds_toArray, List.set_cons_zero, List.set_cons_succ]
      refine wpAnyL_take (i := 7) (v := ?v140) rfl (by kernel_rfl) (by kernel_rfl) (by kernel_rfl) (by kernel_rfl) (fun _ _ _ h => h) (Or.inl ⟨by rfl, ?y140⟩) (by assumption) ?r140
      case y140 => (intro w' hSw; (try dsimp only at hSw); go_simp; try with_reducible rfl)
      try simp only [Act.put, List.setIfInBounds_toArray, List.set_cons_zero, List.set_cons_succ]
      refine wpAnyL_take (i := 8) (v := ?v141) rfl (by kernel_rfl) (by kernel_rfl) (by kernel_rfl) (by kernel_rfl) (fun _ _ _ h => h) (Or.inl ⟨by rfl, ?y141⟩) (by assumption) ?r141
      case y141 => (intro w' hSw; (try dsimp only at hSw); go_simp; try with_reducible rfl)
      try simp only [Act.put, List.setIfInBounds_toArray, List.set_cons_zero, List.set_cons_succ]
      refine wpAnyL_done (by kernel_rfl) ?_ _
      have HC := Lib.hid (same1_any (w := u2.alloc (.cells #[.int .i64 1] 3)) (xs := [1]) (ys := [1]) ((fal (HAe.out.below hB_u2)).alloc _) (litl rfl rfl (by decide) rfl (by decide) id))
      clear hS_u0 hS_u1 hS_u2 hB_u0 hB_u1 hz_u0 hz_u1
      go_wp2_with fail
      refine (HC.out).mono ?_
      rintro e u3 ⟨rfl, hD⟩
      have hb3 := ((Below.refl u2.heap.size u2).alloc (Nat.le_refl _) (.cells #[.int .i64 1] 3)).trans ((blw hD _).mono (Nat.le_refl _))
      have hB_u3 := hB_u2.trans (hb3.mono hz_u2)
      have hz_u3 : we.heap.size ≤ u3.heap.size := by have := hb3.size; omega
      obtain ⟨-, hq0, hq1, hq2⟩ := HKq.out _ hB_u3
      have hdd : decide (([1] : List Int) = [1]) = true := by decide
      have HC := sameS_any (w := u3.alloc (.cells #[.int .i64 1] 3)) (s := ⟨[], 0, [1]⟩) (t := ⟨[], 0, [1]⟩) (a1 := a1) (c1 := c1) (a2 := a2) (c2 := c2) (b1 := none) (d1 := 0) ((HP1.out.below hB_u3).alloc _) ((HP2.out.below hB_u3).alloc _) (snil (fun _ => False) _ _) (litl (M := fun _ => False) rfl rfl (by decide) rfl (by decide) id)
      rw [show decide ((⟨[], 0, [1]⟩ : Sp) = ⟨[], 0, [1]⟩) = true from by decide] at HC
      have HC := Lib.hid HC
      clear hb3 hB_u2 hz_u2 hD
      go_wp2_with fail
      refine (HC.out).mono ?_
      rintro e u4 ⟨rfl, hb⟩
      have hB_u4 := hB_u3.trans ((((Below.refl u3.heap.size u3).alloc (Nat.le_refl _) (.cells #[.int .i64 1] 3)).trans (hb.mono (by simp))).mono hz_u3)
      have hBf := HBe.out.trans (hB_u4.mono hwe)
      clear hB_u3 hB_u4 hb hq0 hq1 hq2
      go_wp2
      go_ret
      exact ⟨rfl, hBf⟩
end Go.Proofs.Ytlgdijgfphedpaa
/- The law of chapter 25 on splits. No condition. Printed by wip/mkspl.py. -/
namespace Go.Proofs.Ytlgdijgfphedpaa
open Go.RowKit
theorem forty_succ {l : List (List Int)} {k : Nat} {r : List Int} (h : l[k]? = some r) (hr : ¬ 40 < r.length) (hk : ∀ r ∈ l.take k, r.length ≤ 40) : ∀ r ∈ l.take (k + 1), r.length ≤ 40 := by
  intro y hy
  rw [List.take_add_one, h] at hy
  rcases List.mem_append.1 hy with hy | hy
  · exact hk y hy
  · obtain rfl : y = r := by simpa using hy
    omega
theorem forty_all {l : List (List Int)} {k : Nat} (hk : ¬ k < l.length) (h : ∀ r ∈ l.take k, r.length ≤ 40) : ∀ r ∈ l, r.length ≤ 40 := by
  rwa [List.take_of_length_le (by omega)] at h
theorem of_one {m : Mach} {l : List Int} (om : m.Ok) (h : m.okS l) (hl : l.length ≤ 1024) (h0 : l ≠ []) :
    (∀ k t, ([l].map m.trW)[k]? = some t → ((⟨m.inputs, []⟩ : Ob).foldA (([l].map m.trW).take k)).traces.length ≤ 10000 ∧ ((⟨m.inputs, []⟩ : Ob).foldA (([l].map m.trW).take k)).lens ∧ ((⟨m.inputs, []⟩ : Ob).foldA (([l].map m.trW).take k)).addE t = 0) ∧
    (∀ k, ((⟨m.inputs, []⟩ : Ob).foldA (([l].map m.trW).take k)).inputs = m.inputs) ∧ ((⟨m.inputs, []⟩ : Ob).foldA ([l].map m.trW)).traces = [m.trW l] := by
  obtain ⟨e1, e2, -⟩ := Tq.one om h hl h0
  refine ⟨fun k t ht => ?_, fun k => ?_, ?_⟩
  · match k, ht with
    | 0, ht =>
      obtain rfl : m.trW l = t := by simpa using ht
      refine ⟨by simp [Ob.foldA], fun t ht => by simp [Ob.foldA] at ht, ?_⟩
      simpa [Ob.foldA] using e1
  · match k with
    | 0 => simp [Ob.foldA]
    | k + 1 =>
      have : (([l].map m.trW).take (k + 1)) = [m.trW l] := by simp
      rw [this, e2]
  · show ((⟨m.inputs, []⟩ : Ob).foldA [m.trW l]).traces = _
    rw [e2]
/-- The statement's own tests. -/
theorem sp_cases (h : Hy) (m : Mach) (l : List Int) : (12 < m.next.length) ∨ (¬ 12 < m.next.length ∧ 12 < m.out.length) ∨ (¬ 12 < m.next.length ∧ ¬ 12 < m.out.length ∧ 12 < h.acc.length) ∨
    (¬ 12 < m.next.length ∧ ¬ 12 < m.out.length ∧ ¬ 12 < h.acc.length ∧ 4 < m.inputs) ∨ (¬ 12 < m.next.length ∧ ¬ 12 < m.out.length ∧ ¬ 12 < h.acc.length ∧ ¬ 4 < m.inputs ∧ 60 < l.length) ∨
    (¬ 12 < m.next.length ∧ ¬ 12 < m.out.length ∧ ¬ 12 < h.acc.length ∧ ¬ 4 < m.inputs ∧ ¬ 60 < l.length) := by omega
section
variable {M M' M'' : Nat → Prop} {w : World} {an ao ac bn bo b : Option Addr} {cn co cc dn eo d : Nat} {h : Hy} {m : Mach} {l : List Int}
set_option maxRecDepth 100000 in
set_option maxHeartbeats 16000000 in
theorem lsplit_any (hh : Hp M w an cn ao co ac cc h) (hm : Ma M' w bn dn bo eo m) (hw : Sl M'' w b d l) :
    Calls Try.prog 5 #[hyV h an cn ao co ac cc, maV m bn dn bo eo, .slice b l.length d] w fun e w' => e = .returned (.bool true) ∧ Below w.heap.size w w' := by
  have hB0 := ((Below.refl w.heap.size w).alloc (Nat.le_refl _) (hyO h an cn ao co ac cc)).alloc (by simp) (maO m bn dn bo eo)
  have hx0 : H5 ((w.alloc (hyO h an cn ao co ac cc)).alloc (maO m bn dn bo eo)) w.heap.size an cn ao co ac cc h := (h5_new w).below (B := w.heap.size + 1) ((Below.refl _ _).alloc (by simp) _) (by omega)
  have hy0 : C4 ((w.alloc (hyO h an cn ao co ac cc)).alloc (maO m bn dn bo eo)) (w.heap.size + 1) bn dn bo eo m := by
    have k := c4_new (m := m) (an := bn) (cn := dn) (ao := bo) (co := eo) (w.alloc (hyO h an cn ao co ac cc))
    simpa using k
  have hz0 : w.heap.size + 2 ≤ ((w.alloc (hyO h an cn ao co ac cc)).alloc (maO m bn dn bo eo)).heap.size := by simp
  have q1 := hm.next.le
  have q2 := hm.out.le
  have q3 := hh.acc.le
  have q4 := hw.le
  have HH := Lib.hid hh
  have HM := Lib.hid hm
  have HW := Lib.hid hw
  have HC := Lib.hid (valid6_any (HM.out.below hB0))
  clear hh hm hw
  rcases sp_cases h m l with h1 | ⟨h1, h2⟩ | ⟨h1, h2, h3⟩ | ⟨h1, h2, h3, h4⟩ | ⟨h1, h2, h3, h4, h5⟩ | ⟨h1, h2, h3, h4, h5⟩
  iterate 5
    · clear HC
      go_enter Try.func5, Try.ntmps5
      go_wp2_with fail
      generalize (w.alloc (hyO h an cn ao co ac cc)).alloc (maO m bn dn bo eo) = w0 at *
      refine (aw25_any).mono ?_
      rintro e wz ⟨rfl, hbz⟩
      have hBz := hB0.trans (hbz.mono (by omega))
      go_wp2
      go_ret
      exact ⟨rfl, hBz⟩
  by_cases he : m.err = 0
  rotate_left
  · have heb : (m.err != 0) = true := by simp [he]
    clear he
    go_enter Try.func5, Try.ntmps5
    go_wp2_with fail
    generalize (w.alloc (hyO h an cn ao co ac cc)).alloc (maO m bn dn bo eo) = w0 at *
    refine (HC.out).mono ?_
    rintro e w1 ⟨rfl, hb1⟩
    have hB1 := hB0.trans (hb1.mono (by omega))
    have hx1 := hx0.below hb1 (by omega)
    have hy1 := hy0.below hb1 (by omega)
    have hz1 : w.heap.size + 2 ≤ w1.heap.size := by have := hb1.size; omega
    clear hB0 hx0 hy0 hz0 hb1 HC
    go_wp2_with fail
    refine (aw25_any).mono ?_
    rintro e wz ⟨rfl, hbz⟩
    have hBz := hB1.trans (hbz.mono (by omega))
    go_wp2
    go_ret
    exact ⟨rfl, hBz⟩
  have heb : (m.err != 0) = false := by simp [he]
  have HE := Lib.hid he
  have OM := Lib.hid (m.ok_of_err he)
  clear he
  go_enter Try.func5, Try.ntmps5
  go_wp2_with fail
  generalize (w.alloc (hyO h an cn ao co ac cc)).alloc (maO m bn dn bo eo) = w0 at *
  refine (HC.out).mono ?_
  rintro e w1 ⟨rfl, hb1⟩
  have hB1 := hB0.trans (hb1.mono (by omega))
  have hx1 := hx0.below hb1 (by omega)
  have hy1 := hy0.below hb1 (by omega)
  have hz1 : w.heap.size + 2 ≤ w1.heap.size := by have := hb1.size; omega
  clear hB0 hx0 hy0 hz0 hb1 HC
  have HC := Lib.hid (hvalidR_any (HH.out.below hB1))
  by_cases hhe : h.err = 0
  rotate_left
  · have hhb : (h.err != 0) = true := by simp [hhe]
    clear hhe
    go_wp2_with fail
    refine (HC.out).mono ?_
    rintro e w2 ⟨rfl, hb2⟩
    have hB2 := hB1.trans (hb2.mono (by omega))
    have hx2 := hx1.below hb2 (by omega)
    have hy2 := hy1.below hb2 (by omega)
    have hz2 : w.heap.size + 2 ≤ w2.heap.size := by have := hb2.size; omega
    clear hB1 hx1 hy1 hz1 hb2 HC
    go_wp2_with fail
    refine (aw25_any).mono ?_
    rintro e wz ⟨rfl, hbz⟩
    have hBz := hB2.trans (hbz.mono (by omega))
    go_wp2
    go_ret
    exact ⟨rfl, hBz⟩
  have hhb : (h.err != 0) = false := by simp [hhe]
  have HHE := Lib.hid hhe
  have OH := Lib.hid (Hy.ok_of hhe)
  clear hhe
  go_wp2_with fail
  refine (HC.out).mono ?_
  rintro e w2 ⟨rfl, hb2⟩
  have hB2 := hB1.trans (hb2.mono (by omega))
  have hx2 := hx1.below hb2 (by omega)
  have hy2 := hy1.below hb2 (by omega)
  have hz2 : w.heap.size + 2 ≤ w2.heap.size := by have := hb2.size; omega
  clear hB1 hx1 hy1 hz1 hb2 HC
  by_cases hin : h.m.inputs = m.inputs
  rotate_left
  · have hib : (h.m.inputs != m.inputs) = true := by simp [hin]
    clear hin
    go_wp2_with fail
    refine (aw25_any).mono ?_
    rintro e wz ⟨rfl, hbz⟩
    have hBz := hB2.trans (hbz.mono (by omega))
    go_wp2
    go_ret
    exact ⟨rfl, hBz⟩
  have hib : (h.m.inputs != m.inputs) = false := by simp [hin]
  have HIN := Lib.hid hin
  clear hin
  have HC := Lib.hid (checkR1_any (HW.out.below hB2) m.inputs)
  by_cases hwe : wErr l m.inputs = 0
  rotate_left
  · have hwb : (wErr l m.inputs != 0) = true := by simp [hwe]
    clear hwe
    go_wp2_with fail
    refine (HC.out).mono ?_
    rintro e w3 ⟨rfl, hw3⟩
    obtain rfl : w2 = w3 := hw3.symm
    clear HC
    go_wp2_with fail
    refine (aw25_any).mono ?_
    rintro e wz ⟨rfl, hbz⟩
    have hBz := hB2.trans (hbz.mono (by omega))
    go_wp2
    go_ret
    exact ⟨rfl, hBz⟩
  have hwb : (wErr l m.inputs != 0) = false := by simp [hwe]
  have HWE := Lib.hid hwe
  have HWO := Lib.hid (Mach.okS_of hwe).1
  clear hwe
  go_wp2_with fail
  refine (HC.out).mono ?_
  rintro e w3 ⟨rfl, hw3⟩
  obtain rfl : w2 = w3 := hw3.symm
  clear HC
  go_wp2
  have HA := Lib.hid (HH.out.below hB2).acc
  go_loop [7] (fun i => ∃ k : Nat, k ≤ h.acc.length ∧ i = .int .i64 k ∧ Hid (∀ r ∈ h.acc.take k, r.length ≤ 40)) (fun i => h.acc.length - (intOf i).toNat)
  case atStart => exact ⟨0, by omega, rfl, by intro r hr; simp at hr⟩
  case round =>
    obtain ⟨k, hk, rfl, hE⟩ := hrel
    by_cases hlt : k < h.acc.length
    · obtain ⟨b1, o1, a1, r1, c1, rfl, hc1, hr1, hs1⟩ := HA.out.at_row hlt
      have r1le := hs1.le
      clear hs1
      by_cases hg : 40 < r1.length
      · skip
        go_wp2_with fail
        refine (aw25_any).mono ?_
        rintro e wz ⟨rfl, hbz⟩
        have hBz := hB2.trans (hbz.mono (by omega))
        go_wp2
        go_ret
        exact ⟨rfl, hBz⟩
      · have hF := Lib.hid (forty_succ hr1.out hg hE.out)
        go_wp2
        go_round
        case rel => exact ⟨k + 1, by omega, by go_num, hF⟩
        case measure => simp [intOf]; omega
    · have HAL := Lib.hid (forty_all hlt hE.out)
      clear hE HA
      have hokH : Hid (h.m.okS l) := by unfold Hid Mach.okS; rw [HIN.out]; exact HWO.out
      have hll : l.length ≤ 60 := by omega
      have HC := Lib.hid (outsR_any (HH.out.below hB2).m (HW.out.below hB2) (Lib.hid OH.out.m) (Lib.hid ⟨OH.out.m.s0, OH.out.m.s1⟩) hokH (by omega))
      go_wp2_with fail
      refine (HC.out).mono ?_
      rintro e w4 ⟨a4, c4, x4, rfl, hx4', hs4, hb4⟩
      have hB4 := hB2.trans (hb4.mono (by omega))
      have hx4 := hx2.below hb4 (by omega)
      have hy4 := hy2.below hb4 (by omega)
      have hz4 : w.heap.size + 2 ≤ w4.heap.size := by have := hb4.size; omega
      have HX4 := Lib.hid (fal hs4)
      have HC := Lib.hid (outsR_any (HM.out.below hB4) (HW.out.below hB4) OM (Lib.hid ⟨OM.out.s0, OM.out.s1⟩) HWO (by omega))
      clear hB2 hx2 hy2 hz2 hb4 hs4
      go_wp2_with fail
      refine (HC.out).mono ?_
      rintro e w5 ⟨a5, c5, y5, rfl, hy5', hs5, hb5⟩
      have hB5 := hB4.trans (hb5.mono (by omega))
      have hx5 := hx4.below hb5 (by omega)
      have hy5 := hy4.below hb5 (by omega)
      have hz5 : w.heap.size + 2 ≤ w5.heap.size := by have := hb5.size; omega
      have HC := ints_any (HX4.out.below hb5) (fal hs5)
      clear hB4 hx4 hy4 hz4 hb5 hs5
      by_cases hxy : x4 = y5
      · rw [decide_eq_true hxy] at HC
        have HC := Lib.hid HC
        clear hxy
        go_wp2_with fail
        refine (HC.out).mono ?_
        rintro e w6 ⟨rfl, n6, rfl⟩
        have hB6 := bl_drewN hB5 n6
        have hz6 : w.heap.size + 2 ≤ (w5.drewN n6).heap.size := by simpa using hz5
        clear HC
        go_wp2_with fail
        refine (aw25_any).mono ?_
        rintro e wz ⟨rfl, hbz⟩
        have hBz := hB6.trans (hbz.mono (by omega))
        go_wp2
        go_ret
        exact ⟨rfl, hBz⟩
      rw [decide_eq_false hxy] at HC
      have HC := Lib.hid HC
      have HNE : Hid (h.m.outsW h.m.start l ≠ m.outsW m.start l) := by unfold Hid; rw [← hx4'.out, ← hy5'.out]; exact hxy
      clear hxy hx4' hy5' HX4
      go_wp2_with fail
      refine (HC.out).mono ?_
      rintro e w6 ⟨rfl, n6, hw6⟩
      have hb6 : Below w5.heap.size w5 w6 := by rw [hw6]; exact below_drewN _ _ _
      have hB6 := hB5.trans (hb6.mono (by omega))
      have hx6 := hx5.below hb6 (by omega)
      have hy6 := hy5.below hb6 (by omega)
      have hz6 : w.heap.size + 2 ≤ w6.heap.size := by have := hb6.size; omega
      clear hB5 hx5 hy5 hz5 hb6 hw6 HC
      have HC := honest_any (HH.out.below hB6) (HM.out.below hB6) OH OM HIN
      by_cases hho : hon h m
      rotate_left
      · rw [decide_eq_false hho] at HC
        have HC := Lib.hid HC
        clear hho
        go_wp2_with fail
        refine (HC.out).mono ?_
        rintro e w7 ⟨rfl, hb7⟩
        have hB7 := hB6.trans (hb7.mono (by omega))
        have hz7 : w.heap.size + 2 ≤ w7.heap.size := by have := hb7.size; omega
        clear HC hb7 hB6 hx6 hy6 hz6
        go_wp2_with fail
        refine (aw25_any).mono ?_
        rintro e wz ⟨rfl, hbz⟩
        have hBz := hB7.trans (hbz.mono (by omega))
        go_wp2
        go_ret
        exact ⟨rfl, hBz⟩
      rw [decide_eq_true hho] at HC
      have HC := Lib.hid HC
      have KQ : Hid (Sq h m l) := ⟨HHE.out, OM.out, HIN.out, HWO.out, hll, HAL.out, HNE.out, hho⟩
      clear hho
      go_wp2_with fail
      refine (HC.out).mono ?_
      rintro e w7 ⟨rfl, hb7⟩
      have hB7 := hB6.trans (hb7.mono (by omega))
      have hx7 := hx6.below hb7 (by omega)
      have hy7 := hy6.below hb7 (by omega)
      have hz7 : w.heap.size + 2 ≤ w7.heap.size := by have := hb7.size; omega
      clear HC hb7 hB6 hx6 hy6 hz6
      have hba := (Below.refl w7.heap.size w7).alloc (Nat.le_refl _) (.cells #[.slice b l.length d] 30)
      have hB8 := hB7.alloc (by omega) (.cells #[.slice b l.length d] 30)
      have hx8 := hx7.below hba (by omega)
      have hy8 := hy7.below hba (by omega)
      have hz8 : w.heap.size + 2 ≤ (w7.alloc (.cells #[.slice b l.length d] 30)).heap.size := by simp; omega
      have hr := rows1 (T := 30) (HW.out.below hB7) rfl
      have i64m : i64 m.inputs := by have := OM.out.i0; have := OM.out.i1; unfold i64; omega
      have hof := of_one OM.out HWO.out (by omega) KQ.out.w0
      have HC := Lib.hid (ofR_any (HM.out.below hB8) hr HE (Lib.hid fun r hr => by rw [List.mem_singleton.1 hr]; exact ⟨HWE.out, HWO.out⟩) (Lib.hid ⟨OM.out.s0, OM.out.s1⟩) (by simp) i64m (Lib.hid hof.1) (Lib.hid hof.2.1))
      have HOF := Lib.hid hof.2.2
      clear hba hr hof hB7 hx7 hz7
      go_wp2_with fail
      clear hy7
      generalize w7.alloc (.cells #[.slice b l.length d] 30) = w8 at *
      refine (HC.out).mono ?_
      rintro e w9 ⟨a9, c9, L9, rfl, hL9, hs9, hb9⟩
      have hB9 := hB8.trans (hb9.mono (by omega))
      have hx9 := hx8.below hb9 (by omega)
      have hy9 := hy8.below hb9 (by omega)
      have hz9 : w.heap.size + 2 ≤ w9.heap.size := by have := hb9.size; omega
      have hL9 : Hid (L9 = [m.trW l]) := by unfold Hid; rw [hL9.out, HOF.out]
      clear HC hB8 hx8 hy8 hz8 hb9
      obtain ⟨g, hg⟩ : ∃ g, g = w9.heap.size := ⟨_, rfl⟩
      have hba := (Below.refl w9.heap.size w9).alloc (Nat.le_refl _) (.cells #[.int .i64 m.inputs, .slice a9 L9.length c9] 29)
      have hBA := hB9.alloc (by omega) (.cells #[.int .i64 m.inputs, .slice a9 L9.length c9] 29)
      have hxA := hx9.below hba (by omega)
      have hyA := hy9.below hba (by omega)
      have hRA := heap_alloc_new w9 (.cells #[.int .i64 m.inputs, .slice a9 L9.length c9] 29)
      rw [← hg] at hRA
      have hgA : g < (w9.alloc (.cells #[.int .i64 m.inputs, .slice a9 L9.length c9] 29)).heap.size := by simp; omega
      have hg2 : w.heap.size + 2 ≤ g := by omega
      have hSA := ((hs9.ext (Ext.sub_only (M' := fun k => k = g) fun k hk hm => by omega))).below hba
      have HR := Lib.hid hRA
      have hT0 : Hid (Tq m ⟨m.inputs, L9⟩ 1) := by unfold Hid; rw [hL9.out]; exact (Tq.one OM.out HWO.out (by omega) KQ.out.w0).2.2.1
      have hK0 : Hid ((⟨m.inputs, L9⟩ : Ob).known l = true) := by unfold Hid; rw [hL9.out]; exact (Tq.one OM.out HWO.out (by omega) KQ.out.w0).2.2.2
      have hU0 : Hid (Sq.U h m l ⟨m.inputs, L9⟩ + 0 ≤ halv l.length) := Sq.U_le
      clear hs9 hL9 hba hRA hB9 hx9 hy9 HOF
      have hhl := halv_le l.length
      go_wp2
      rw [← hg]
      clear hg hz9
      generalize hgg : w9.alloc (.cells #[.int .i64 m.inputs, .slice a9 L9.length c9] 29) = w10 at *
      clear hgg
      go_loopw [14] (fun i wr => ∃ (n : Nat) (aL : Option Addr) (cL : Nat) (o : Ob), i = .int .i64 n ∧ Hid (Tq m o (n + 1)) ∧ Hid (o.known l = true) ∧ Hid (Sq.U h m l o + n ≤ halv l.length) ∧ Hid (wr.heap[g]? = some (.cells #[.int .i64 o.inputs, .slice aL o.traces.length cL] 29 (0, 0))) ∧
        Sl (fun k => k = g) wr aL cL o.traces ∧ H5 wr w.heap.size an cn ao co ac cc h ∧ C4 wr (w.heap.size + 1) bn dn bo eo m ∧ g < wr.heap.size ∧ Below w.heap.size w wr) (fun i _ => halv l.length + 1 - (intOf i).toNat)
      case atStart => exact ⟨0, a9, c9, ⟨m.inputs, L9⟩, rfl, hT0, hK0, hU0, HR, hSA, hxA, hyA, hgA, hBA⟩
      case round =>
        clear hT0 hK0 hU0 HR hSA hxA hyA hgA hBA
        obtain ⟨n, aL, cL, o, rfl, hT, hK, hU, hR, hS, hx1, hy1, hg1, hB1⟩ := hrel
        obtain ⟨w11, rfl⟩ : ∃ w11 : World, w11 = wr := ⟨_, rfl⟩
        have hnn : n ≤ halv l.length := by have := hU.out; omega
        have hd : decide ((n : Int) ≤ (halv l.length : Int)) = true := by simp; omega
        have hoi : i64 o.inputs := by rw [hT.out.inp]; exact i64m
        have HO := Lib.hid (show Os (fun k => k = g) w11 aL cL o from ⟨hoi, hS⟩)
        have HLN := Lib.hid hT.out.lens
        have hlen : o.traces.length ≤ n + 1 := hT.out.len
        go_wp2_with fail
        refine (halv_any l.length (by omega)).mono ?_
        rintro e w12 ⟨rfl, hw12⟩
        obtain rfl : w11 = w12 := hw12.symm
        obtain ⟨⟨r0, r1⟩, -⟩ := cells2 hR.out
        have HC := Lib.hid (find_any (x := ⟨h, o, l⟩) (HH.out.below hB1) HO.out (HW.out.below hB1) HLN)
        go_wp2_with fail
        refine (HC.out).mono ?_
        rintro e w13 ⟨⟨a1, c1, l1, a2, c2, l2, sy, a3, c3, l3, er, rfl, hr1, hp1, hp2, hp3⟩, hb13⟩
        obtain ⟨he0, hst⟩ := KQ.out.step hT.out hK.out (by omega)
        have HF := Lib.hid (Sj.res_found (x := ⟨h, o, l⟩) Sj.mid_nxt HLN.out)
        rw [hr1.out] at he0 hst HF
        obtain rfl : er = 0 := he0
        have HST := Lib.hid hst
        clear hst hr1
        have hba := (Below.refl w13.heap.size w13).alloc (Nat.le_refl _) (.cells #[.slice a1 l1.length c1, .int .i64 sy, .slice a2 l2.length c2] 35)
        have hbA := hb13.trans (hba.mono hb13.size)
        have hB14 := hB1.trans (hbA.mono (by omega))
        have hx14 := hx1.below hbA (by omega)
        have hy14 := hy1.below hbA (by omega)
        have hR14 := Lib.hid ((hbA.block g hg1).trans hR.out)
        have HO14 := Lib.hid (HO.out.below hbA)
        have hQA := Lib.hid (heap_alloc_new w13 (.cells #[.slice a1 l1.length c1, .int .i64 sy, .slice a2 l2.length c2] 35))
        have hg14 : g < (w13.alloc (.cells #[.slice a1 l1.length c1, .int .i64 sy, .slice a2 l2.length c2] 35)).heap.size := by have := hb13.size; simp; omega
        have HP1 := Lib.hid (fal (hp1.below hba))
        have HP2 := Lib.hid (fal (hp2.below hba))
        have HP3 := Lib.hid (fal (hp3.below hba))
        have hn3 := hp3.le
        obtain ⟨⟨r0', r1'⟩, -⟩ := cells2 hR14.out
        clear hp1 hp2 hp3 hba hb13 hbA hB1 hx1 hy1 hg1 hS hR HO HC r0 r1
        by_cases hl3 : l3 = []
        · have hlb : ((l3.length : Nat) : Int) = 0 := by simp [hl3]
          have hF := HF.out hl3 rfl
          have HSY : Hid (i64 sy) := Ck.sym_of hF.1
          have HC := check_any (x := ⟨h, o, ⟨l1, sy, l2⟩⟩) (HH.out.below hB14) HO14.out HP1.out HP2.out HSY.out HLN
          rw [hF.1, hF.2.1] at HC
          have HC := Lib.hid HC
          obtain ⟨⟨k0, k1, k2⟩, -⟩ := cells3 hQA.out
          clear hl3 hF HF
          go_wp2_with fail
          generalize hgg : w13.alloc (.cells #[.slice a1 l1.length c1, .int .i64 sy, .slice a2 l2.length c2] 35) = w14 at *
          clear hgg
          refine (HC.out).mono ?_
          rintro e w15 ⟨rfl, hb15⟩
          have hB15 := hB14.trans (hb15.mono (by omega))
          have hz15 : w.heap.size ≤ w15.heap.size := hB15.size
          clear HC hb15 k0 k1 k2
          go_wp2_with fail
          refine (aw25_any).mono ?_
          rintro e wz ⟨rfl, hbz⟩
          have hBz := hB15.trans (hbz.mono hz15)
          go_wp2
          go_ret
          exact ⟨rfl, hBz⟩
        · have hlb : 0 < l3.length := List.length_pos_iff.2 hl3
          obtain ⟨s1, s2, s3, s4, s5, s6, s7⟩ := HST.out l3 rfl hl3
          have hfr := Mach.frErr_0 (start_ok OM.out) s2
          have HC := runR_any (HM.out.below hB14) HP3.out
          rw [hfr.1] at HC
          have HC := Lib.hid HC
          have HS1 := Lib.hid hfr.2.1
          have HS3 := Lib.hid s3
          have HS4 := Lib.hid s4
          have HS5 := Lib.hid s5
          have HS6 := Lib.hid s6
          have HS7 := Lib.hid s7
          clear hl3 HF HST s1 s2 s3 s4 s5 s6 s7 hfr hQA
          go_wp2_with fail
          generalize hgg : w13.alloc (.cells #[.slice a1 l1.length c1, .int .i64 sy, .slice a2 l2.length c2] 35) = w14 at *
          clear hgg
          refine (HC.out).mono ?_
          rintro e w15 ⟨a5, c5, l5, rfl, hl5, hs5, hb15⟩
          have hB15 := hB14.trans (hb15.mono (by omega))
          have hx15 := hx14.below hb15 (by omega)
          have hy15 := hy14.below hb15 (by omega)
          have hR15 := Lib.hid ((hb15.block g hg14).trans hR14.out)
          have HO15 := Lib.hid (HO14.out.below hb15)
          have hg15 : g < w15.heap.size := by have := hb15.size; omega
          have HP3 := Lib.hid (HP3.out.below hb15)
          have ht : Hid ((⟨l3, l5⟩ : Tr) = m.trW l3) := by unfold Hid; rw [hl5.out, HS1.out]; rfl
          have HC := addAR_any (t := ⟨l3, l5⟩) HO15.out HP3.out (fal hs5) (by omega) HLN
          rw [show o.addE ⟨l3, l5⟩ = 0 from by rw [ht.out]; exact HS3.out] at HC
          have HC := Lib.hid HC
          have hn5 := hs5.le
          obtain ⟨⟨r0, r1⟩, -⟩ := cells2 hR15.out
          clear r0' r1' hb15 hB14 hx14 hy14 hg14 hR14 HO14 hs5 HS1
          go_wp2_with fail
          refine (HC.out).mono ?_
          rintro e w16 ⟨a6, c6, l6, rfl, hl6, hs6, hb16⟩
          have hba := (Below.refl w16.heap.size w16).alloc (Nat.le_refl _) (.cells #[.int .i64 o.inputs, .slice a6 l6.length c6] 29)
          have hbA := hb16.trans (hba.mono hb16.size)
          have hB17 := hB15.trans (hbA.mono (by omega))
          have hx17 := hx15.below hbA (by omega)
          have hy17 := hy15.below hbA (by omega)
          have hrow := (hbA.block g hg15).trans hR15.out
          have hg17 : g < (w16.alloc (.cells #[.int .i64 o.inputs, .slice a6 l6.length c6] 29)).heap.size := by have := hbA.size; omega
          have hs17 := (hs6.anti (M' := fun k => k = g) fun k _ hk => ⟨hk, by omega⟩).below hba
          have hO : Hid ((⟨o.inputs, l6⟩ : Ob) = o.adds (m.trW l3)) := by unfold Hid; rw [hl6.out, ht.out, HS4.out]; rfl
          have hT2 : Hid (Tq m ⟨o.inputs, l6⟩ (n + 1 + 1)) := by unfold Hid; rw [hO.out]; exact HS5.out
          have hK2 : Hid ((⟨o.inputs, l6⟩ : Ob).known l = true) := by unfold Hid; rw [hO.out]; exact HS6.out
          have hU2 : Hid (Sq.U h m l ⟨o.inputs, l6⟩ + (n + 1) ≤ halv l.length) := by unfold Hid; rw [hO.out]; have := HS7.out; have := hU.out; omega
          obtain ⟨⟨r0', r1'⟩, rf⟩ := cells2 hrow
          have rf0 := rf 0
          have rf1 := rf 1
          have b0 := bel_st2 (Below.refl (w.heap.size + 2) (w16.alloc (.cells #[.int .i64 o.inputs, .slice a6 l6.length c6] 29))) (g := g) (y0 := .int .i64 o.inputs) (y1 := .slice a6 l6.length c6) hg2
          have HRn := Lib.hid (set2 (y0 := .int .i64 o.inputs) (y1 := .slice a6 l6.length c6) hrow)
          have HBn := Lib.hid (hB17.trans (b0.mono (by omega)))
          have HXn := Lib.hid (hx17.below b0 (by omega))
          have HYn := Lib.hid (hy17.below b0 (by omega))
          have HSn := Lib.hid (hs17.ext ((Ext.setCell (M := fun k => k = g) _ (p := ⟨g, 0, none⟩) rfl (.int .i64 o.inputs)).trans (Ext.setCell (M := fun k => k = g) _ (p := ⟨g, 1, none⟩) rfl (.slice a6 l6.length c6))))
          have HGn := Lib.hid (show g < (st2 (w16.alloc (.cells #[.int .i64 o.inputs, .slice a6 l6.length c6] 29)) g (.int .i64 o.inputs) (.slice a6 l6.length c6)).heap.size by rw [size_st2]; exact hg17)
          dsimp only [st2] at HRn HBn HXn HYn HSn HGn
          clear hba hbA hb16 hB15 hx15 hy15 hg15 hR15 HO15 hs6 hB17 hx17 hy17 hs17 b0 rf r0 r1 hrow hl6 HS3 HS4 HS5 HS6 HS7 HC
          go_wp2
          go_roundw
          case rel => exact ⟨n + 1, a6, c6, ⟨o.inputs, l6⟩, by go_num, hT2, hK2, hU2, HRn, HSn.out, HXn.out, HYn.out, HGn.out, HBn.out⟩
          case measure => simp [intOf]; omega
end
end Go.Proofs.Ytlgdijgfphedpaa

