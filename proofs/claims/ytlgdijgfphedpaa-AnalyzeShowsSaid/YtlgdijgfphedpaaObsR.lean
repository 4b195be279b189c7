/- The reference's error of observations. No condition. -/
import Derived.Test.YtlgdijgfphedpaaObsP
import Derived.Test.YtlgdijgfphedpaaOrd
namespace Go.Proofs.Ytlgdijgfphedpaa
open Go.RowKit
section
variable {M M' : Nat → Prop} {w : World} {a b : Option Addr} {c d : Nat}

theorem take_badO {l : List Int} {k : Nat} {x : Int} (hx : l[k]? = some x) (hp : ¬ badO x) (hn : ∀ y ∈ l.take k, ¬ badO y) : ∀ y ∈ l.take (k + 1), ¬ badO y := by
  intro y hy
  rw [List.take_add_one, hx] at hy
  simp at hy
  rcases hy with hy | rfl
  · exact hn y hy
  · exact hp

set_option maxRecDepth 100000 in
set_option maxHeartbeats 2000000 in
theorem properR_any {t : Tr} (n : Int) (h1 : Sl M w a c t.inn) (h2 : Sl M' w b d t.out) :
    Calls Try.prog 30 #[trV t a c b d, .int .i64 n] w fun e w' => e = .returned (.int .i64 (t.err n)) ∧ Below w.heap.size w w' := by
  have hl1 := h1.le
  have hl2 := h2.le
  have hB0 := (Below.refl w.heap.size w).alloc (Nat.le_refl _) (trO t a c b d)
  have hx0 : T2 (w.alloc (trO t a c b d)) w.heap.size a c b d t := t2_new w
  have HC := Lib.hid (checkR1_any (h1.alloc (trO t a c b d)) n)
  have H2 := Lib.hid (h2.alloc (trO t a c b d))
  clear h1 h2
  by_cases hw : wErr t.inn n = 0
  · have hwb : (wErr t.inn n != 0) = false := by simp [hw]
    by_cases hl : t.out.length = t.inn.length
    · have hlb : (((t.out.length : Nat) : Int) != ((t.inn.length : Nat) : Int)) = false := by simp [hl]
      have HW := Lib.hid hw
      have HL := Lib.hid hl
      clear hw hl
      go_enter Try.func30, Try.ntmps30
      go_wp2_with fail
      generalize w.alloc (trO t a c b d) = w0 at *
      refine (HC.out).mono ?_
      rintro e w1 ⟨rfl, hw1⟩
      obtain rfl : w0 = w1 := hw1.symm
      clear HC
      go_wp2
      go_loop [6] (fun i => ∃ k : Nat, k ≤ t.out.length ∧ i = .int .i64 k ∧ Hid (∀ y ∈ t.out.take k, ¬ badO y)) (fun i => t.out.length - (intOf i).toNat)
      case atStart => exact ⟨0, by omega, rfl, fun y hy => by simp at hy⟩
      case round =>
        obtain ⟨k, hk, rfl, hN⟩ := hrel
        by_cases hlt : k < t.out.length
        · obtain ⟨b1, o1, x, rfl, hc1, hx, -⟩ := H2.out.at_int hlt
          by_cases h0 : x < 0
          · have HF := Lib.hid (Tr.err_o HW.out HL.out ⟨x, List.mem_of_getElem? hx.out, .inl h0⟩)
            have hd : decide (x < 0) = true := by simp [h0]
            clear h0
            go_wp2
            go_ret
            exact ⟨ret_ij HF.out.symm, hB0⟩
          · have hd : decide (x < 0) = false := by simpa using h0
            by_cases h1 : 1048576 < x
            · have HF := Lib.hid (Tr.err_o HW.out HL.out ⟨x, List.mem_of_getElem? hx.out, .inr h1⟩)
              have hd1 : decide (1048576 < x) = true := by simp [h1]
              clear h0 h1
              go_wp2
              go_ret
              exact ⟨ret_ij HF.out.symm, hB0⟩
            · have hd1 : decide (1048576 < x) = false := by simpa using h1
              have hN2 : Hid (∀ y ∈ t.out.take (k + 1), ¬ badO y) := take_badO hx.out (by unfold badO; omega) hN.out
              clear h0 h1
              go_wp2
              go_round
              case rel => exact ⟨k + 1, by omega, by go_num, hN2⟩
              case measure => simp [intOf]; omega
        · have HF := Lib.hid (Tr.err_0 HW.out HL.out (by rintro ⟨x, hx, hb⟩; exact hN.out x (by rw [List.take_of_length_le (by omega)]; exact hx) hb))
          go_wp2
          go_ret
          exact ⟨ret_ij HF.out.symm, hB0⟩
    · have hlb : (((t.out.length : Nat) : Int) != ((t.inn.length : Nat) : Int)) = true := by simp; omega
      have HF := Lib.hid (Tr.err_l hw hl)
      clear hw hl
      go_enter Try.func30, Try.ntmps30
      go_wp2_with fail
      generalize w.alloc (trO t a c b d) = w0 at *
      refine (HC.out).mono ?_
      rintro e w1 ⟨rfl, hw1⟩
      obtain rfl : w0 = w1 := hw1.symm
      clear HC
      go_wp2
      go_ret
      exact ⟨ret_ij HF.out.symm, hB0⟩
  · have hwb : (wErr t.inn n != 0) = true := by simp [hw]
    have HF := Lib.hid (Tr.err_w hw)
    clear hw
    go_enter Try.func30, Try.ntmps30
    go_wp2_with fail
    generalize w.alloc (trO t a c b d) = w0 at *
    refine (HC.out).mono ?_
    rintro e w1 ⟨rfl, hw1⟩
    obtain rfl : w0 = w1 := hw1.symm
    clear HC
    go_wp2
    go_ret
    exact ⟨ret_ij HF.out.symm, hB0⟩

theorem dif_end {s t : Tr} {k n : Nat} (hn : n = comW s.inn t.inn) (hk : n ≤ k) (h : comW (s.out.take n) (t.out.take n) = k + comW ((s.out.take n).drop k) ((t.out.take n).drop k)) : s.dif t = -1 := by
  unfold Tr.dif
  rw [← hn]
  simp only
  rw [if_neg (by omega)]
theorem dif_stop {s t : Tr} {k n : Nat} {x y : Int} (hn : n = comW s.inn t.inn) (hk : k < n) (hx : s.out[k]? = some x) (hy : t.out[k]? = some y) (hxy : x ≠ y) (h : comW (s.out.take n) (t.out.take n) = k + comW ((s.out.take n).drop k) ((t.out.take n).drop k)) : s.dif t = k := by
  unfold Tr.dif
  rw [← hn]
  have e := comW_stop h (by rw [List.getElem?_take, if_pos hk]; exact hx) (by rw [List.getElem?_take, if_pos hk]; exact hy) hxy
  simp only
  rw [e, if_pos hk]

set_option maxRecDepth 100000 in
set_option maxHeartbeats 2000000 in
theorem difR_any {a2 b2 : Option Addr} {c2 d2 : Nat} {s t : Tr} (h1 : Sl M w a c s.inn) (h2 : Sl M w b d s.out) (h3 : Sl M' w a2 c2 t.inn) (h4 : Sl M' w b2 d2 t.out) (hs : Hid (s.inn.length ≤ s.out.length ∧ t.inn.length ≤ t.out.length)) :
    Calls Try.prog 54 #[trV s a c b d, trV t a2 c2 b2 d2] w fun e w' => e = .returned (.int .i64 (s.dif t)) ∧ Below w.heap.size w w' := by
  have hl1 := h1.le
  have hl2 := h2.le
  have hl3 := h3.le
  have hl4 := h4.le
  have hB0 := ((Below.refl w.heap.size w).alloc (Nat.le_refl _) (trO s a c b d)).alloc (by simp) (trO t a2 c2 b2 d2)
  have hx0 : T2 ((w.alloc (trO s a c b d)).alloc (trO t a2 c2 b2 d2)) w.heap.size a c b d s := (t2_new w).below (B := w.heap.size + 1) ((Below.refl _ _).alloc (by simp) _) (by omega)
  have hy0 : T2 ((w.alloc (trO s a c b d)).alloc (trO t a2 c2 b2 d2)) (w.heap.size + 1) a2 c2 b2 d2 t := by
    have h := t2_new (t := t) (a := a2) (c := c2) (a' := b2) (c' := d2) (w.alloc (trO s a c b d))
    simpa using h
  have HC := Lib.hid (comR_any (((h1.anti (M' := fun _ => False) fun _ _ h => h.elim).alloc (trO s a c b d)).alloc (trO t a2 c2 b2 d2)) (((h3.anti (M' := fun _ => False) fun _ _ h => h.elim).alloc (trO s a c b d)).alloc (trO t a2 c2 b2 d2)))
  have H2 := Lib.hid ((h2.alloc (trO s a c b d)).alloc (trO t a2 c2 b2 d2))
  have H4 := Lib.hid ((h4.alloc (trO s a c b d)).alloc (trO t a2 c2 b2 d2))
  have hz0 : w.heap.size + 2 ≤ ((w.alloc (trO s a c b d)).alloc (trO t a2 c2 b2 d2)).heap.size := by simp
  have hle := comW_le s.inn t.inn
  obtain ⟨n, hn⟩ : ∃ n, n = comW s.inn t.inn := ⟨_, rfl⟩
  rw [← hn] at HC
  have hns : n ≤ s.out.length := by have := hs.out; omega
  have hnt : n ≤ t.out.length := by have := hs.out; omega
  have HN := Lib.hid hn
  clear h1 h2 h3 h4 hle hn
  go_enter Try.func54, Try.ntmps54
  go_wp2_with fail
  generalize (w.alloc (trO s a c b d)).alloc (trO t a2 c2 b2 d2) = w0 at *
  refine (HC.out).mono ?_
  rintro e w1 ⟨rfl, hD⟩
  have hb1 := blw hD w0.heap.size
  have hx1 := hx0.below hb1 (by omega)
  have hy1 := hy0.below hb1 (by omega)
  have hB1 := hB0.trans (hb1.mono (by omega))
  have hz1 : w.heap.size + 2 ≤ w1.heap.size := by have := hb1.size; omega
  have H2 := Lib.hid (H2.out.below hb1)
  have H4 := Lib.hid (H4.out.below hb1)
  clear HC hx0 hy0 hB0 hz0 hb1 hD
  go_wp2
  go_loopw [6] (fun i wr => ∃ k : Nat, k ≤ n ∧ i = .int .i64 k ∧ Hid (comW (s.out.take n) (t.out.take n) = k + comW ((s.out.take n).drop k) ((t.out.take n).drop k)) ∧ Hid (∃ n, wr = w1.drewN n)) (fun i _ => n - (intOf i).toNat)
  case atStart => exact ⟨0, by omega, rfl, by unfold Hid; simp, ⟨0, rfl⟩⟩
  case round =>
    obtain ⟨k, hk, rfl, hE, hD⟩ := hrel
    obtain ⟨w2, rfl⟩ : ∃ w2 : World, w2 = wr := ⟨_, rfl⟩
    have hb2 := blw hD w1.heap.size
    have hx2 := hx1.below hb2 (by omega)
    have hy2 := hy1.below hb2 (by omega)
    have hB2 := hB1.trans (hb2.mono (by omega))
    by_cases hlt : k < n
    · obtain ⟨b1, o1, x, rfl, hc1, hxk, -⟩ := (H2.out.below hb2).at_int (j := k) (by omega)
      obtain ⟨b3, o3, y, rfl, hc3, hyk, -⟩ := (H4.out.below hb2).at_int (j := k) (by omega)
      have hks : k < s.out.length := by omega
      have hkt : k < t.out.length := by omega
      by_cases hxy : x = y
      · have hb : (x != y) = false := by simp [hxy]
        have hE2 : Hid (comW (s.out.take n) (t.out.take n) = (k + 1) + comW ((s.out.take n).drop (k + 1)) ((t.out.take n).drop (k + 1))) :=
          comW_step hE.out (x := x) (by rw [List.getElem?_take, if_pos hlt]; exact hxk.out) (by rw [List.getElem?_take, if_pos hlt, hxy]; exact hyk.out)
        clear hxy
        go_wp2
        refine wp_quiet_fast (by kernel_rfl) (by kernel_rfl) ?_
        repeat (first | go_big_quiet_step (fail) | quiet_step (fail))
        refine wpQuiet_nil ?_
        intro _ hw'
        obtain ⟨nq, hw''⟩ := hw'
        subst hw''
        go_wp2
        go_roundw
        case rel => exact ⟨k + 1, by omega, by go_num, hE2, drw_add hD _⟩
        case measure => simp [intOf]; omega
      · have hb : (x != y) = true := by simp [hxy]
        have HF := Lib.hid (dif_stop HN.out hlt hxk.out hyk.out hxy hE.out)
        clear hxy
        go_wp2
        refine wp_quiet_fast (by kernel_rfl) (by kernel_rfl) ?_
        repeat (first | go_big_quiet_step (fail) | quiet_step (fail))
        refine wpQuiet_nil ?_
        intro _ hw'
        obtain ⟨nq, hw''⟩ := hw'
        subst hw''
        go_wp2
        go_ret
        exact ⟨ret_ij HF.out.symm, bl_drewN hB2 _⟩
    · have HF := Lib.hid (dif_end HN.out (by omega) hE.out)
      go_wp2
      go_ret
      exact ⟨ret_ij HF.out.symm, hB2⟩
end
end Go.Proofs.Ytlgdijgfphedpaa
