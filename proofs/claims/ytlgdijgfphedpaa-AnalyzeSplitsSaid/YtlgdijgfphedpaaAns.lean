/- What observations answer: the reference's Answer and the program's. Condition: each trace has at least as many outputs as inputs, and fewer than 10^11. -/
import Derived.Test.YtlgdijgfphedpaaHypD
import Derived.Test.YtlgdijgfphedpaaWordR
import Derived.Test.YtlgdijgfphedpaaJoinR
import Derived.Test.YtlgdijgfphedpaaClone
import Derived.Test.YtlgdijgfphedpaaRowsL
namespace Go.Proofs.Ytlgdijgfphedpaa
open Go.RowKit

/-- p is a beginning of l. -/
def hasP (l p : List Int) : Bool := decide (comW l p = p.length)
namespace Ob
variable (o : Ob)
def find (w : List Int) : Option Tr := o.traces.find? (fun t => hasP t.inn w)
def known (w : List Int) : Bool := decide (w = []) || (o.find w).isSome
def ans (w : List Int) : List Int := if w = [] then [] else match o.find w with | none => [] | some t => t.out.take w.length
/-- What the walk needs of the traces. -/
def lens : Prop := ∀ t ∈ o.traces, t.inn.length ≤ t.out.length ∧ t.out.length < 100000000000
variable {o}
theorem ans_nil {w : List Int} (h : w = []) : o.ans w = [] ∧ o.known w = true := by
  unfold ans known; simp [h]
theorem ans_none {w : List Int} (h : ¬ w = []) (h2 : ∀ t ∈ o.traces, hasP t.inn w = false) : o.ans w = [] ∧ o.known w = false := by
  have : o.find w = none := by unfold find; rw [List.find?_eq_none]; intro t ht; rw [h2 t ht]; decide
  unfold ans known; simp [h, this]
theorem ans_some {w : List Int} {k : Nat} {t : Tr} (h : ¬ w = []) (ht : o.traces[k]? = some t) (hp : hasP t.inn w = true) (h2 : ∀ t ∈ o.traces.take k, hasP t.inn w = false) : o.ans w = t.out.take w.length ∧ o.known w = true := by
  have hk : k < o.traces.length := by
    by_cases e : k < o.traces.length
    · exact e
    · rw [List.getElem?_eq_none (by omega)] at ht; simp at ht
  have : o.find w = some t := by
    unfold find
    rw [List.find?_eq_some_iff_append]
    refine ⟨hp, o.traces.take k, o.traces.drop (k + 1), ?_, fun y hy => by rw [h2 y hy]; decide⟩
    have e : o.traces[k] = t := by rw [List.getElem?_eq_getElem hk] at ht; simpa using ht
    rw [← e, List.getElem_cons_drop, List.take_append_drop]
  unfold ans known; simp [h, this]
end Ob
theorem tr_take {l : List Tr} {w : List Int} {k : Nat} {t : Tr} (hx : l[k]? = some t) (hp : hasP t.inn w = false) (hn : ∀ y ∈ l.take k, hasP y.inn w = false) : ∀ y ∈ l.take (k + 1), hasP y.inn w = false := by
  intro y hy
  rw [List.take_add_one, hx] at hy
  simp at hy
  rcases hy with hy | rfl
  · exact hn y hy
  · exact hp
theorem hasP_le {l p : List Int} (h : hasP l p = true) : p.length ≤ l.length := by
  unfold hasP at h
  have := (comW_le l p).1
  have := of_decide_eq_true h
  omega
theorem ret_lb {a : Option Addr} {n c : Nat} {x y : Bool} (h : x = y) : Ending.returned (.tuple #[.slice a n c, .bool x]) = .returned (.tuple #[.slice a n c, .bool y]) := by rw [h]
theorem ret_ij {x y : Int} (h : x = y) : Ending.returned (.int .i64 x) = .returned (.int .i64 y) := by rw [h]
theorem blw {w w' : World} (h : Hid (∃ n, w' = w.drewN n)) (B : Nat) : Below B w w' := by
  obtain ⟨n, rfl⟩ := h.out; exact below_drewN _ _ _

section
variable {M M' : Nat → Prop} {w : World} {a b : Option Addr} {c d : Nat}
theorem hasp_is {xs ys : List Int} (h1 : Sl M w a c xs) (h2 : Sl M' w b d ys) {v : Bool} (h : hasP xs ys = v) :
    Calls Try.prog 72 #[.slice a xs.length c, .slice b ys.length d] w fun e w' => e = .returned (.bool v) ∧ Below w.heap.size w w' :=
  (hasp_any (h1.anti (M' := fun _ => False) fun _ _ h => h.elim) (h2.anti (M' := fun _ => False) fun _ _ h => h.elim)).mono fun e w' ⟨he, hw⟩ => ⟨by rw [he, ← h]; rfl, blw hw _⟩
theorem haspR_is {xs ys : List Int} (h1 : Sl M w a c xs) (h2 : Sl M' w b d ys) {v : Bool} (h : hasP xs ys = v) :
    Calls Try.prog 57 #[.slice a xs.length c, .slice b ys.length d] w fun e w' => e = .returned (.bool v) ∧ Below w.heap.size w w' :=
  (haspR_any (h1.anti (M' := fun _ => False) fun _ _ h => h.elim) (h2.anti (M' := fun _ => False) fun _ _ h => h.elim)).mono fun e w' ⟨he, hw⟩ => ⟨by rw [he, ← h]; rfl, blw hw _⟩

set_option maxRecDepth 100000 in
set_option maxHeartbeats 2000000 in
/-- The reference's Answer. -/
theorem ansR_any {o : Ob} {l : List Int} (ho : Os M w a c o) (hw : Sl M' w b d l) (hl : Hid o.lens) :
    Calls Try.prog 29 #[obV o a c, .slice b l.length d] w fun e w' => ∃ (a' : Option Addr) (c' : Nat) (l' : List Int), e = .returned (.tuple #[.slice a' l'.length c', .bool (o.known l)]) ∧ Hid (l' = o.ans l) ∧
      Sl (fun k => k < w.heap.size) w' a' c' l' ∧ Below w.heap.size w w' := by
  have hll := hw.le
  have hol := ho.traces.le
  have hB0 := (Below.refl w.heap.size w).alloc (Nat.le_refl _) (obO o a c)
  have HO := Lib.hid ho
  have HW := Lib.hid hw
  by_cases h0 : l = []
  · have h0b : (((l.length : Nat) : Int) == 0) = true := by simp [h0]
    have HF := Lib.hid (o.ans_nil h0)
    clear h0 ho hw
    go_enter Try.func29, Try.ntmps29
    go_wp2
    go_ret2
    exact ⟨none, 0, [], ret_lb HF.out.2.symm, HF.out.1.symm, Sl.nil _ _ _ (by unfold maxLen; omega), hB0⟩
  · have h0b : (((l.length : Nat) : Int) == 0) = false := by simp [h0]
    have H0 := Lib.hid h0
    have hx0 : O2 (w.alloc (obO o a c)) w.heap.size a c o := o2_new w
    have hz0 : w.heap.size + 1 ≤ (w.alloc (obO o a c)).heap.size := by simp
    clear h0 ho hw
    go_enter Try.func29, Try.ntmps29
    go_wp2
    generalize w.alloc (obO o a c) = w0 at *
    go_loopw [6] (fun i wr => ∃ k : Nat, k ≤ o.traces.length ∧ i = .int .i64 k ∧ Hid (∀ t ∈ o.traces.take k, hasP t.inn l = false) ∧ O2 wr w.heap.size a c o ∧ Below w.heap.size w wr ∧ w.heap.size + 1 ≤ wr.heap.size) (fun i _ => o.traces.length - (intOf i).toNat)
    case atStart => exact ⟨0, by omega, rfl, (fun y hy => by simp at hy), hx0, hB0, hz0⟩
    case round =>
      clear hx0 hB0 hz0
      obtain ⟨k, hk, rfl, hN, hx, hB, hz⟩ := hrel
      obtain ⟨w1, rfl⟩ : ∃ w1 : World, w1 = wr := ⟨_, rfl⟩
      by_cases hlt : k < o.traces.length
      · obtain ⟨b1, o1, a1, c1, a2, c2, t, rfl, hc1, hc2, ht, hs1, hs2⟩ := (HO.out.below hB).traces.at_tr hlt
        by_cases hp : hasP t.inn l = true
        · have HC := Lib.hid (haspR_is hs1 (HW.out.below hB) hp)
          have hle := Lib.hid (hl.out t (List.mem_of_getElem? ht.out))
          have hlo : l.length ≤ t.out.length := Nat.le_trans (hasP_le hp) hle.out.1
          have htl := hs2.le
          have hc2l := hs2.1
          have HF := Lib.hid (o.ans_some H0.out ht.out hp hN.out)
          have HS := Lib.hid hs2
          clear hp hs1 hs2
          go_wp2_with fail
          refine (HC.out).mono ?_
          rintro e w2 ⟨rfl, hb2⟩
          have hx2 := hx.below hb2 (by omega)
          have hc22 := (hb2.cell (p := ⟨b1, o1 + k * 2 + 1, none⟩) (lt_of_cell hc2)).trans hc2
          have hz2 : w.heap.size + 1 ≤ w2.heap.size := by have := hb2.size; omega
          have hB2 := hB.trans (hb2.mono (by omega))
          have HS := Lib.hid (HS.out.below hb2)
          clear hx hc1 hc2 hz hB hb2 HC
          go_wp2_with fail
          have hS3 := rows1 (T := 30) (HS.out.taken hlo) (n := l.length) (by rw [List.length_take]; omega)
          have hB3 := hB2.alloc (by omega) (.cells #[.slice a2 l.length c2] 30)
          have hzz : w2.heap.size + 1 ≤ (w2.alloc (.cells #[.slice a2 l.length c2] 30)).heap.size := by simp
          refine (joinR_any hS3 (by rw [flat1, List.length_take]; have := hle.out.2; omega)).mono ?_
          rintro e w3 ⟨a3, c3, l3, rfl, hl3, hs3, hb3⟩
          have hB4 := hB3.trans (hb3.mono (by omega))
          have hs4 := hs3.anti (M' := fun k => k < w.heap.size) (fun k _ hk => by omega)
          have hl4 : Hid (l3 = o.ans l) := by unfold Hid; rw [hl3.out, flat1, HF.out.1]
          clear hl3 hs3 hb3 hB3 hS3
          go_wp2
          go_ret2
          exact ⟨a3, c3, l3, ret_lb HF.out.2.symm, hl4, hs4, hB4⟩
        · have HC := Lib.hid (haspR_is hs1 (HW.out.below hB) (by simpa using hp))
          have hN2 : Hid (∀ y ∈ o.traces.take (k + 1), hasP y.inn l = false) := tr_take ht.out (by simpa using hp) hN.out
          clear hp hs1 hs2 hN
          go_wp2_with fail
          refine (HC.out).mono ?_
          rintro e w2 ⟨rfl, hb2⟩
          have hx2 := hx.below hb2 (by omega)
          have hz2 : w.heap.size + 1 ≤ w2.heap.size := by have := hb2.size; omega
          have hB2 := hB.trans (hb2.mono (by omega))
          clear hx hc1 hc2 hz hB hb2 HC
          go_wp2
          go_roundw
          case rel => exact ⟨k + 1, by omega, by go_num, hN2, hx2, hB2, hz2⟩
          case measure => simp [intOf]; omega
      · have HF := Lib.hid (o.ans_none H0.out (fun t ht => hN.out t (by rw [List.take_of_length_le (by omega)]; exact ht)))
        clear hN
        go_wp2
        go_ret2
        exact ⟨none, 0, [], ret_lb HF.out.2.symm, HF.out.1.symm, Sl.nil _ _ _ (by unfold maxLen; omega), hB⟩

set_option maxHeartbeats 1000000 in
theorem ansT_is {t : Tr} {l : List Int} {b1 b2 : Option Addr} {c1 c2 g : Nat} (h1 : Sl M w b1 c1 t.inn) (h2 : Sl M' w b d l) (hc : w.cell? ⟨g, 0, none⟩ = some (.slice b l.length d)) {v : Bool} (h : hasP t.inn l = v) :
    Calls Try.prog 71 #[trV t b1 c1 b2 c2, .pointer (some ⟨g, 0, none⟩)] w fun e w' => e = .returned (.bool v) ∧ Below w.heap.size w w' := by
  have hl2 := h2.le
  have hlt := lt_of_cell hc
  have hc2 := ((Below.refl w.heap.size w).alloc (Nat.le_refl _) (trO t b1 c1 b2 c2)).cell (p := ⟨g, 0, none⟩) hlt
  rw [hc] at hc2
  have HC := Lib.hid (hasp_is (h1.alloc (trO t b1 c1 b2 c2)) (h2.alloc (trO t b1 c1 b2 c2)) h)
  have hB0 := (Below.refl w.heap.size w).alloc (Nat.le_refl _) (trO t b1 c1 b2 c2)
  clear h1 h2 hc h hlt
  go_enter Try.func71, Try.ntmps71
  go_wp2_with fail
  refine (HC.out).mono ?_
  rintro e w2 ⟨rfl, hb2⟩
  have hB := hB0.trans (hb2.mono (by simp))
  go_wp2
  go_ret
  exact ⟨rfl, hB⟩

set_option maxHeartbeats 1000000 in
theorem idxT_yes {l : List Tr} {p : List Int} {g k : Nat} {t : Tr} (hs : Sl M w a c l) (hw : Sl M' w b d p) (hc : w.cell? ⟨g, 0, none⟩ = some (.slice b p.length d)) (hk : l[k]? = some t) (hp : hasP t.inn p = true) (hn : ∀ y ∈ l.take k, hasP y.inn p = false) :
    Calls Try.prog 70 #[.slice a l.length c, .func (Fn.func 71) #[] #[.pointer (some ⟨g, 0, none⟩)]] w fun e w' => e = .returned (.int .i64 k) ∧ Below w.heap.size w w' := by
  have hll := hs.le
  have hlt0 := lt_of_cell hc
  have HS := Lib.hid hs
  have HW := Lib.hid hw
  have HH := Lib.hid hn
  have hB0 := Below.refl w.heap.size w
  clear hs hw hn
  go_enter Try.func70, Try.ntmps70
  go_wp2
  go_loopw [8] (fun i wr => ∃ j : Nat, j ≤ l.length ∧ i = .int .i64 j ∧ Hid (∀ y ∈ l.take j, hasP y.inn p = false) ∧ Below w.heap.size w wr) (fun i _ => l.length - (intOf i).toNat)
  case atStart => exact ⟨0, by omega, rfl, (fun y hy => by simp at hy), hB0⟩
  case round =>
    clear hB0
    obtain ⟨j, hj, rfl, hN, hB⟩ := hrel
    obtain ⟨w1, rfl⟩ : ∃ w1 : World, w1 = wr := ⟨_, rfl⟩
    by_cases hlt : j < l.length
    · obtain ⟨b1, o1, a1, c1, a2, c2, t', rfl, hc1, hc2, ht, hs1, hs2⟩ := (HS.out.below hB).at_tr hlt
      have hcw := (hB.cell (p := ⟨g, 0, none⟩) hlt0).trans hc
      by_cases hq : hasP t'.inn p = true
      · have HC := Lib.hid (ansT_is (b2 := a2) (c2 := c2) hs1 (HW.out.below hB) hcw hq)
        have HE : Hid (((j : Nat) : Int) = k) := by
          unfold Hid
          have : ¬ k < j := fun e => by have := hN.out t (by rw [List.mem_iff_getElem?]; exact ⟨k, by rw [List.getElem?_take, if_pos e]; exact hk⟩); rw [hp] at this; cases this
          have : ¬ j < k := fun e => by have := HH.out t' (by rw [List.mem_iff_getElem?]; exact ⟨j, by rw [List.getElem?_take, if_pos e]; exact ht.out⟩); rw [hq] at this; cases this
          omega
        clear hs1 hs2 hcw hq
        go_wp2_with fail
        refine (HC.out).mono ?_
        rintro e w2 ⟨rfl, hb2⟩
        have hB2 := hB.trans (hb2.mono (by have := hB.size; omega))
        go_wp2
        go_ret
        exact ⟨ret_ij (by rw [HE.out]), hB2⟩
      · have HC := Lib.hid (ansT_is (b2 := a2) (c2 := c2) hs1 (HW.out.below hB) hcw (v := false) (by simpa using hq))
        have hN2 : Hid (∀ y ∈ l.take (j + 1), hasP y.inn p = false) := tr_take ht.out (by simpa using hq) hN.out
        clear hs1 hs2 hcw hq hN
        go_wp2_with fail
        refine (HC.out).mono ?_
        rintro e w2 ⟨rfl, hb2⟩
        have hB2 := hB.trans (hb2.mono (by have := hB.size; omega))
        go_wp2
        go_roundw
        case rel => exact ⟨j + 1, by omega, by go_num, hN2, hB2⟩
        case measure => simp [intOf]; omega
    · exfalso
      have hkl : k < l.length := by
        by_cases e : k < l.length
        · exact e
        · rw [List.getElem?_eq_none (by omega)] at hk; simp at hk
      have := hN.out t (by rw [List.take_of_length_le (by omega)]; exact List.mem_of_getElem? hk)
      rw [hp] at this; cases this
set_option maxHeartbeats 1000000 in
theorem idxT_no {l : List Tr} {p : List Int} {g : Nat} (hs : Sl M w a c l) (hw : Sl M' w b d p) (hc : w.cell? ⟨g, 0, none⟩ = some (.slice b p.length d)) (hn : ∀ y ∈ l, hasP y.inn p = false) :
    Calls Try.prog 70 #[.slice a l.length c, .func (Fn.func 71) #[] #[.pointer (some ⟨g, 0, none⟩)]] w fun e w' => e = .returned (.int .i64 (-1)) ∧ Below w.heap.size w w' := by
  have hll := hs.le
  have hlt0 := lt_of_cell hc
  have HS := Lib.hid hs
  have HW := Lib.hid hw
  have HH := Lib.hid hn
  have hB0 := Below.refl w.heap.size w
  clear hs hw hn
  go_enter Try.func70, Try.ntmps70
  go_wp2
  go_loopw [8] (fun i wr => ∃ j : Nat, j ≤ l.length ∧ i = .int .i64 j ∧ Hid (∀ y ∈ l.take j, hasP y.inn p = false) ∧ Below w.heap.size w wr) (fun i _ => l.length - (intOf i).toNat)
  case atStart => exact ⟨0, by omega, rfl, (fun y hy => by simp at hy), hB0⟩
  case round =>
    clear hB0
    obtain ⟨j, hj, rfl, hN, hB⟩ := hrel
    obtain ⟨w1, rfl⟩ : ∃ w1 : World, w1 = wr := ⟨_, rfl⟩
    by_cases hlt : j < l.length
    · obtain ⟨b1, o1, a1, c1, a2, c2, t', rfl, hc1, hc2, ht, hs1, hs2⟩ := (HS.out.below hB).at_tr hlt
      have hcw := (hB.cell (p := ⟨g, 0, none⟩) hlt0).trans hc
      by_cases hq : hasP t'.inn p = true
      · have := HH.out t' (List.mem_of_getElem? ht.out)
        rw [hq] at this; cases this
      · have HC := Lib.hid (ansT_is (b2 := a2) (c2 := c2) hs1 (HW.out.below hB) hcw (v := false) (by simpa using hq))
        have hN2 : Hid (∀ y ∈ l.take (j + 1), hasP y.inn p = false) := tr_take ht.out (by simpa using hq) hN.out
        clear hs1 hs2 hcw hq hN
        go_wp2_with fail
        refine (HC.out).mono ?_
        rintro e w2 ⟨rfl, hb2⟩
        have hB2 := hB.trans (hb2.mono (by have := hB.size; omega))
        go_wp2
        go_roundw
        case rel => exact ⟨j + 1, by omega, by go_num, hN2, hB2⟩
        case measure => simp [intOf]; omega
    · go_wp2
      go_ret
      exact ⟨rfl, hB⟩

theorem find_cases (o : Ob) (l : List Int) : (∀ y ∈ o.traces, hasP y.inn l = false) ∨ ∃ (k : Nat) (t : Tr), o.traces[k]? = some t ∧ hasP t.inn l = true ∧ ∀ y ∈ o.traces.take k, hasP y.inn l = false := by
  cases e : o.traces.find? (fun t => hasP t.inn l) with
  | none =>
    rw [List.find?_eq_none] at e
    exact .inl fun y hy => by simpa using e y hy
  | some t =>
    rw [List.find?_eq_some_iff_append] at e
    obtain ⟨hp, xs, ys, hl, hn⟩ := e
    refine .inr ⟨xs.length, t, ?_, hp, fun y hy => ?_⟩
    · rw [hl]; simp
    · rw [hl] at hy
      simp at hy
      simpa using hn y hy

set_option maxRecDepth 100000 in
set_option maxHeartbeats 2000000 in
/-- The program's Answer. -/
theorem ans_any {o : Ob} {l : List Int} (ho : Os M w a c o) (hw : Sl M' w b d l) (hl : Hid o.lens) :
    Calls Try.prog 44 #[obV o a c, .slice b l.length d] w fun e w' => ∃ (a' : Option Addr) (c' : Nat) (l' : List Int), e = .returned (.tuple #[.slice a' l'.length c', .bool (o.known l)]) ∧ Hid (l' = o.ans l) ∧
      Sl (fun k => k < w.heap.size) w' a' c' l' ∧ Below w.heap.size w w' := by
  have hll := hw.le
  have hol := ho.traces.le
  have hB0 := ((Below.refl w.heap.size w).alloc (Nat.le_refl _) (obO o a c)).alloc (by simp) (.cells #[.slice b l.length d] 30)
  have HO := Lib.hid ho
  have HW := Lib.hid hw
  have hx0 : O2 ((w.alloc (obO o a c)).alloc (.cells #[.slice b l.length d] 30)) w.heap.size a c o := (o2_new w).below (B := w.heap.size + 1) ((Below.refl _ _).alloc (by simp) _) (by omega)
  have hz0 : w.heap.size + 2 ≤ ((w.alloc (obO o a c)).alloc (.cells #[.slice b l.length d] 30)).heap.size := by simp
  have hc0 : ((w.alloc (obO o a c)).alloc (.cells #[.slice b l.length d] 30)).cell? ⟨w.heap.size + 1, 0, none⟩ = some (.slice b l.length d) := box1 _ _ _ (by simp)
  clear ho hw
  by_cases h0 : l = []
  · have h0b : (((l.length : Nat) : Int) == 0) = true := by simp [h0]
    have HF := Lib.hid (o.ans_nil h0)
    clear h0
    go_enter Try.func44, Try.ntmps44
    go_wp2
    go_ret2
    exact ⟨none, 0, [], ret_lb HF.out.2.symm, HF.out.1.symm, Sl.nil _ _ _ (by unfold maxLen; omega), hB0⟩
  · have h0b : (((l.length : Nat) : Int) == 0) = false := by simp [h0]
    have H0 := Lib.hid h0
    clear h0
    rcases find_cases o l with hn | ⟨k, t, ht, hp, hn⟩
    · have HF := Lib.hid (o.ans_none H0.out hn)
      have HC := Lib.hid (idxT_no (HO.out.below hB0).traces (HW.out.below hB0) hc0 hn)
      clear hn hx0
      go_enter Try.func44, Try.ntmps44
      go_wp2_with fail
      generalize ((w.alloc (obO o a c)).alloc (.cells #[.slice b l.length d] 30)) = w0 at *
      refine (HC.out).mono ?_
      rintro e w2 ⟨rfl, hb2⟩
      have hB2 := hB0.trans (hb2.mono (by omega))
      clear hb2
      go_wp2
      go_ret2
      exact ⟨none, 0, [], ret_lb HF.out.2.symm, HF.out.1.symm, Sl.nil _ _ _ (by unfold maxLen; omega), hB2⟩
    · have HF := Lib.hid (o.ans_some H0.out ht hp hn)
      have hkl : k < o.traces.length := by
        by_cases e : k < o.traces.length
        · exact e
        · rw [List.getElem?_eq_none (by omega)] at ht; simp at ht
      have HT := Lib.hid ht
      have hle := Lib.hid (hl.out t (List.mem_of_getElem? ht))
      have hlo : l.length ≤ t.out.length := Nat.le_trans (hasP_le hp) hle.out.1
      have hto : t.out.length < 100000000000 := hle.out.2
      have HC := Lib.hid (idxT_yes (HO.out.below hB0).traces (HW.out.below hB0) hc0 ht hp hn)
      clear ht hp hn
      go_enter Try.func44, Try.ntmps44
      go_wp2_with fail
      generalize ((w.alloc (obO o a c)).alloc (.cells #[.slice b l.length d] 30)) = w0 at *
      refine (HC.out).mono ?_
      rintro e w2 ⟨rfl, hb2⟩
      have hx2 := hx0.below hb2 (by omega)
      have hc2 := (hb2.cell (p := ⟨w.heap.size + 1, 0, none⟩) (by show w.heap.size + 1 < _; omega)).trans hc0
      have hB2 := hB0.trans (hb2.mono (by omega))
      have hz2 : w.heap.size + 2 ≤ w2.heap.size := by have := hb2.size; omega
      obtain ⟨b1, o1, a1, c1, a2, c2, t', rfl, hd1, hd2, ht', hs1, hs2⟩ := (HO.out.below hB2).traces.at_tr hkl
      obtain rfl : t = t' := by have h1 := HT.out; have h2 := ht'.out; rw [h1] at h2; simpa using h2
      have hc2l := hs2.1
      have hc2m := hs2.2.1
      have hmin : min ((l.length : Nat) : Int) ((t.out.length : Nat) : Int) = ((l.length : Nat) : Int) := by omega
      have HS := Lib.hid hs2
      clear hx0 hc0 hb2 HC hd1 hs1 hs2
      go_wp2_with fail
      have e1 : (t.out.take l.length).length = l.length := by rw [List.length_take]; omega
      have HC := clone_any (HS.out.taken hlo) (by omega)
      rw [e1] at HC
      refine HC.mono ?_
      rintro e w3 ⟨a3, c3, l3, rfl, hl3, hs3, hb3⟩
      have hB3 := hB2.trans (hb3.mono (by omega))
      have hs4 := hs3.anti (M' := fun k => k < w.heap.size) (fun k _ hk => by omega)
      have hl4 : Hid (l3 = o.ans l) := by unfold Hid; rw [hl3.out, HF.out.1]
      clear hl3 hs3 hb3 hB2
      go_wp2
      go_ret2
      exact ⟨a3, c3, l3, ret_lb HF.out.2.symm, hl4, hs4, hB3⟩
end
end Go.Proofs.Ytlgdijgfphedpaa
