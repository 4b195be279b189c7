/- Next and Unrank of the program and of the reference. No condition. -/
import Derived.Test.YtikdejlandmpfaaUnP
import Derived.Test.YtikdejlandmpfaaRank
import Derived.Test.YtikdejlandmpfaaClone
import Derived.Test.YtikdejlandmpfaaJoin
namespace Go.Proofs.Ytikdejlandmpfaa
open Go.RowKit
theorem ret_nx {a : Option Addr} {n c : Nat} {b b' : Bool} (h : b = b') : Ending.returned (.tuple #[.slice a n c, .bool b]) = .returned (.tuple #[.slice a n c, .bool b']) := by rw [h]
theorem ret_nv {a : Option Addr} {n n' c : Nat} {b b' : Bool} (h : n = n') (h2 : b = b') : Ending.returned (.tuple #[.slice a n c, .bool b]) = .returned (.tuple #[.slice a n' c, .bool b']) := by rw [h, h2]
theorem ret_nil {a : Option Addr} {n n' c : Nat} {b b' : Value} (h : n = n') (h2 : b = b') : Ending.returned (.tuple #[.slice a n c, b]) = .returned (.tuple #[.slice a n' c, b']) := by rw [h, h2]
theorem row_of {w : List Int} {k : Nat} {l : List Int} (h : l = w.take k ++ List.replicate (w.length - k) 0) (hk : k ≤ w.length) : l.length = w.length := by rw [h, nx_len hk]
section
variable {M : Nat → Prop} {w : World} {a : Option Addr} {c : Nat}

set_option maxHeartbeats 4000000 in
theorem next_any1 {l : List Int} (h : Sl M w a c l) (n : Int) :
    Calls Try.prog 20 #[.slice a l.length c, .int .i64 n] w fun e w' => ∃ a' c' l', e = .returned (.tuple #[.slice a' l'.length c', .bool (nextB l n)]) ∧ Hid (l' = nextV l n) ∧ Sl (fun k => k < w.heap.size) w' a' c' l' ∧ Below w.heap.size w w' := by
  have hll := h.le
  have HC := Lib.hid (wcheck_any h n)
  by_cases he : wErr l n = 0
  · have he' : (wErr l n != 0) = false := by simp [he]
    obtain ⟨n0, n1, hl2, hx2⟩ := wErr_zero he
    have HX := Lib.hid hx2
    have HE := Lib.hid he
    clear he hx2
    go_enter Try.func20, Try.ntmps20
    go_wp2_with fail
    refine (HC.out).mono ?_
    rintro e w1 ⟨rfl, hB1⟩
    have h1 := h.below hB1
    have hz1 := hB1.size
    clear h HC
    go_wp2_with fail
    refine (clone_own h1 (by omega)).mono ?_
    rintro e w2 ⟨a2, c2, l2, rfl, hl2', hO, hb2⟩
    have hlen0 : Hid (l2.length = l.length) := by unfold Hid; rw [hl2'.out]
    have hO' : Ow w1.heap.size (fun k => w1.heap.size ≤ k) w2 3 (.slice a2 l.length c2) l2 := by rw [← hlen0.out]; exact hO
    rw [hlen0.out]
    have hr0 : Hid (l2 = l.take l.length ++ List.replicate (l.length - l.length) 0) := by unfold Hid; rw [hl2'.out]; simp
    have hn0 : Hid (nxW n (l.drop l.length) = none) := by unfold Hid; simp [nxW]
    clear hl2' hlen0 hO
    go_wp2
    go_loopw [7] (fun i wr => ∃ (k : Nat) (lst : List Int), k ≤ l.length ∧ ((0 < k ∧ ∃ t : Nat, t + 1 = k ∧ i = .int .i64 t) ∨ (k = 0 ∧ i = .int .i64 (-1))) ∧ Hid (lst = l.take k ++ List.replicate (l.length - k) 0) ∧ Hid (nxW n (l.drop k) = none) ∧
      Ow w1.heap.size (fun k => w1.heap.size ≤ k) wr 3 (.slice a2 l.length c2) lst ∧ Below w1.heap.size w1 wr) (fun i _ => (intOf i + 1).toNat)
    case atStart =>
      refine ⟨l.length, l2, by omega, ?_, hr0, hn0, hO', hb2⟩
      by_cases e : l.length = 0
      · exact .inr ⟨e, by rw [e]; rfl⟩
      · exact .inl ⟨by omega, l.length - 1, by omega, by rw [show ((l.length - 1 : Nat) : Int) = (l.length : Int) - 1 from by omega]⟩
    case round =>
      clear hr0 hn0 hO' hb2
      obtain ⟨k, lst, hk, hi, hr, hn, hO, hB⟩ := hrel
      obtain ⟨w3, rfl⟩ : ∃ w3 : World, w3 = wr := ⟨_, rfl⟩
      have hs3 := hB.size
      have hlen : Hid (l.length = lst.length) := (row_of hr.out hk).symm
      rcases hi with ⟨hk0, t, ht, rfl⟩ | ⟨hk0, rfl⟩
      · obtain ⟨g, x, rfl, hc, hf, hx, -⟩ := hO.at_int' hlen.out (j := t) (by have := hlen.out; omega)
        have hg := (hO.lt g rfl).1
        have hxl : Hid (l[t]? = some x) := by
          have htl : t < l.length := by omega
          have e1 := hx.out
          rw [hr.out, ← ht, nx_at (x := l[t]) (List.getElem?_eq_getElem htl)] at e1
          rw [← e1]; exact List.getElem?_eq_getElem htl
        obtain ⟨x0, x1⟩ := HX.out x (List.mem_of_getElem? hxl.out)
        have hn' : Hid (nxW n (l.drop (t + 1)) = none) := by have := hn.out; rw [← ht] at this; exact this
        have hr' : Hid (lst = l.take (t + 1) ++ List.replicate (l.length - (t + 1)) 0) := by have := hr.out; rw [← ht] at this; exact this
        by_cases hlt : x + 1 < n
        · have HN := Lib.hid (next_hit HE.out (nx_hit hxl.out hn'.out hlt))
          have hO2 := hO.set_int (x := x + 1) hlen.out hg t (by unfold i64; omega)
          have HO2 := Lib.hid hO2
          clear hO2
          go_wp2
          go_ret2
          have h3 := HO2.out
          have e3 : l.length = (lst.set t (x + 1)).length := by rw [hlen.out]; simp
          rw [e3] at h3
          exact ⟨_, _, lst.set t (x + 1), ret_nv e3 HN.out.2.symm, by unfold Hid; rw [hr'.out]; exact HN.out.1.symm, h3.fresh hz1, hB1.trans ((hB.setCell (p := ⟨g, t, none⟩) hg _).mono hz1)⟩
        · have HN := Lib.hid (nx_carry hxl.out hn'.out hlt)
          have HR : Hid (lst.set t 0 = l.take t ++ List.replicate (l.length - t) 0) := by unfold Hid; rw [hr'.out]; exact nx_row hxl.out
          have hO2 := hO.set_int (x := 0) hlen.out hg t (by unfold i64; omega)
          have HO2 := Lib.hid hO2
          have HB := Lib.hid (hB.setCell (p := ⟨g, t, none⟩) hg (.int .i64 0))
          clear hO2
          go_wp2
          go_roundw
          case rel =>
            refine ⟨t, lst.set t 0, by omega, ?_, HR.out, HN.out, HO2.out, HB.out⟩
            by_cases e : t = 0
            · exact .inr ⟨e, by subst e; rfl⟩
            · exact .inl ⟨by omega, t - 1, by omega, by rw [show ((t - 1 : Nat) : Int) = (t : Int) - 1 from by omega]⟩
          case measure => simp [intOf]
      · have hn' : Hid (nxW n l = none) := by have := hn.out; rw [hk0] at this; exact this
        have hr' : Hid (lst = List.replicate l.length 0) := by unfold Hid; rw [hr.out, hk0]; simp
        by_cases hfull : l.length = 1024
        · have hfb : ((l.length : Int) == 1024) = true := by simp [hfull]
          have HN := Lib.hid (next_full HE.out hn'.out hfull)
          have HK := Lib.hid hk0
          clear hfull hk0
          go_wp2
          go_ret2
          exact ⟨none, 0, [], ret_nx HN.out.2.symm, HN.out.1.symm, Sl.nil _ _ _ (by unfold maxLen; omega), hB1.trans (hB.mono hz1)⟩
        · have hfb : ((l.length : Int) == 1024) = false := by simp; omega
          have HN := Lib.hid (next_longer HE.out hn'.out hfull)
          have HK := Lib.hid hk0
          have hO2 : Ow w1.heap.size (fun k => w1.heap.size ≤ k) w3 3 (.slice a2 lst.length c2) lst := by rw [← hlen.out]; exact hO
          have HO2 := Lib.hid hO2
          clear hfull hk0 hO2 hO
          go_wp2_with (at_builtin; refine wpList_push_i (B := w1.heap.size) (l := lst) (y := 0) rfl rfl Try.underlying22 info_int (by rw [← hlen.out]; rfl) rfl (HO2.out.alloc _) (by simp [go_sem]) (by unfold i64; omega) (by rw [← hlen.out]; omega) (by simp; omega) ?_)
          intro a5 c5 l5 w5 hl5 hO5 hb5
          have hB5 := hB1.trans (((hB.alloc hs3 _).trans hb5).mono hz1)
          have hF : Hid (l5 = nextV l n) := by unfold Hid; rw [HN.out.1, hl5.out, hr'.out]
          clear hb5
          go_wp2
          go_ret2
          exact ⟨a5, c5, l5, ret_nx HN.out.2.symm, hF.out, hO5.fresh hz1, hB5⟩
  · have he' : (wErr l n != 0) = true := by simp [he]
    have HN := Lib.hid (next_bad he)
    clear he
    go_enter Try.func20, Try.ntmps20
    go_wp2_with fail
    refine (HC.out).mono ?_
    rintro e w1 ⟨rfl, hB1⟩
    clear HC
    go_wp2
    go_ret2
    exact ⟨none, 0, [], ret_nx HN.out.2.symm, HN.out.1.symm, Sl.nil _ _ _ (by unfold maxLen; omega), hB1⟩
set_option maxHeartbeats 4000000 in
theorem nextR_any {l : List Int} (h : Sl M w a c l) (n : Int) :
    Calls Try.prog 21 #[.slice a l.length c, .int .i64 n] w fun e w' => ∃ a' c' l', e = .returned (.tuple #[.slice a' l'.length c', .bool (nextB l n)]) ∧ Hid (l' = nextV l n) ∧ Sl (fun k => k < w.heap.size) w' a' c' l' ∧ Below w.heap.size w w' := by
  have hll := h.le
  have HC := Lib.hid (checkR1_any h n)
  by_cases he : wErr l n = 0
  · have he' : (wErr l n != 0) = false := by simp [he]
    obtain ⟨n0, n1, hl2, hx2⟩ := wErr_zero he
    have HX := Lib.hid hx2
    have HE := Lib.hid he
    clear he hx2
    go_enter Try.func21, Try.ntmps21
    go_wp2_with fail
    refine (HC.out).mono ?_
    rintro e w1 ⟨rfl, hw⟩
    obtain rfl : w = w1 := hw.symm
    have hB1 := Below.refl w.heap.size w
    have hz1 : w.heap.size ≤ w.heap.size := Nat.le_refl _
    obtain ⟨w1, hw1⟩ : ∃ w1, w1 = w := ⟨_, rfl⟩
    have H := Lib.hid h
    clear h HC
    go_wp2_with (at_builtin; refine wpList_app_any (B := w.heap.size) (l0 := []) (l1 := l) rfl rfl Try.underlying22 info_int rfl rfl (Ow.zero (Nat.le_refl _)) (H.out.alloc _) (by simp; omega) (by simp) ?_)
    intro a2 c2 l2 w2 hl2' hO hb2
    replace hb2 : Below w.heap.size w w2 := ((Below.refl _ _).alloc (Nat.le_refl _) _).trans hb2
    replace hl2' : Hid (l2 = l) := by simpa using hl2'
    subst hw1
    have hlen0 : Hid (l2.length = l.length) := by unfold Hid; rw [hl2'.out]
    have hO' : Ow w1.heap.size (fun k => w1.heap.size ≤ k) w2 3 (.slice a2 l.length c2) l2 := by rw [← hlen0.out]; exact hO
    rw [hlen0.out]
    have hr0 : Hid (l2 = l.take l.length ++ List.replicate (l.length - l.length) 0) := by unfold Hid; rw [hl2'.out]; simp
    have hn0 : Hid (nxW n (l.drop l.length) = none) := by unfold Hid; simp [nxW]
    clear hl2' hlen0 hO
    go_wp2
    go_loopw [7] (fun i wr => ∃ (k : Nat) (lst : List Int), k ≤ l.length ∧ ((0 < k ∧ ∃ t : Nat, t + 1 = k ∧ i = .int .i64 t) ∨ (k = 0 ∧ i = .int .i64 (-1))) ∧ Hid (lst = l.take k ++ List.replicate (l.length - k) 0) ∧ Hid (nxW n (l.drop k) = none) ∧
      Ow w1.heap.size (fun k => w1.heap.size ≤ k) wr 3 (.slice a2 l.length c2) lst ∧ Below w1.heap.size w1 wr) (fun i _ => (intOf i + 1).toNat)
    case atStart =>
      refine ⟨l.length, l2, by omega, ?_, hr0, hn0, hO', hb2⟩
      by_cases e : l.length = 0
      · exact .inr ⟨e, by rw [e]; rfl⟩
      · exact .inl ⟨by omega, l.length - 1, by omega, by rw [show ((l.length - 1 : Nat) : Int) = (l.length : Int) - 1 from by omega]⟩
    case round =>
      clear hr0 hn0 hO' hb2
      obtain ⟨k, lst, hk, hi, hr, hn, hO, hB⟩ := hrel
      obtain ⟨w3, rfl⟩ : ∃ w3 : World, w3 = wr := ⟨_, rfl⟩
      have hs3 := hB.size
      have hlen : Hid (l.length = lst.length) := (row_of hr.out hk).symm
      rcases hi with ⟨hk0, t, ht, rfl⟩ | ⟨hk0, rfl⟩
      · obtain ⟨g, x, rfl, hc, hf, hx, -⟩ := hO.at_int' hlen.out (j := t) (by have := hlen.out; omega)
        have hg := (hO.lt g rfl).1
        have hxl : Hid (l[t]? = some x) := by
          have htl : t < l.length := by omega
          have e1 := hx.out
          rw [hr.out, ← ht, nx_at (x := l[t]) (List.getElem?_eq_getElem htl)] at e1
          rw [← e1]; exact List.getElem?_eq_getElem htl
        obtain ⟨x0, x1⟩ := HX.out x (List.mem_of_getElem? hxl.out)
        have hn' : Hid (nxW n (l.drop (t + 1)) = none) := by have := hn.out; rw [← ht] at this; exact this
        have hr' : Hid (lst = l.take (t + 1) ++ List.replicate (l.length - (t + 1)) 0) := by have := hr.out; rw [← ht] at this; exact this
        by_cases hlt : x < n - 1
        · have HN := Lib.hid (next_hit HE.out (nx_hit hxl.out hn'.out (by omega)))
          have hO2 := hO.set_int (x := x + 1) hlen.out hg t (by unfold i64; omega)
          have HO2 := Lib.hid hO2
          clear hO2
          go_wp2
          go_ret2
          have h3 := HO2.out
          have e3 : l.length = (lst.set t (x + 1)).length := by rw [hlen.out]; simp
          rw [e3] at h3
          exact ⟨_, _, lst.set t (x + 1), ret_nv e3 HN.out.2.symm, by unfold Hid; rw [hr'.out]; exact HN.out.1.symm, h3.fresh hz1, hB1.trans ((hB.setCell (p := ⟨g, t, none⟩) hg _).mono hz1)⟩
        · have HN := Lib.hid (nx_carry hxl.out hn'.out (by omega))
          have HR : Hid (lst.set t 0 = l.take t ++ List.replicate (l.length - t) 0) := by unfold Hid; rw [hr'.out]; exact nx_row hxl.out
          have hO2 := hO.set_int (x := 0) hlen.out hg t (by unfold i64; omega)
          have HO2 := Lib.hid hO2
          have HB := Lib.hid (hB.setCell (p := ⟨g, t, none⟩) hg (.int .i64 0))
          clear hO2
          go_wp2
          go_roundw
          case rel =>
            refine ⟨t, lst.set t 0, by omega, ?_, HR.out, HN.out, HO2.out, HB.out⟩
            by_cases e : t = 0
            · exact .inr ⟨e, by subst e; rfl⟩
            · exact .inl ⟨by omega, t - 1, by omega, by rw [show ((t - 1 : Nat) : Int) = (t : Int) - 1 from by omega]⟩
          case measure => simp [intOf]
      · have hn' : Hid (nxW n l = none) := by have := hn.out; rw [hk0] at this; exact this
        have hr' : Hid (lst = List.replicate l.length 0) := by unfold Hid; rw [hr.out, hk0]; simp
        by_cases hfull : l.length = 1024
        · have hfb : ((l.length : Int) == 1024) = true := by simp [hfull]
          have HN := Lib.hid (next_full HE.out hn'.out hfull)
          have HK := Lib.hid hk0
          clear hfull hk0
          go_wp2
          go_ret2
          exact ⟨none, 0, [], ret_nx HN.out.2.symm, HN.out.1.symm, Sl.nil _ _ _ (by unfold maxLen; omega), hB1.trans (hB.mono hz1)⟩
        · have hfb : ((l.length : Int) == 1024) = false := by simp; omega
          have HN := Lib.hid (next_longer HE.out hn'.out hfull)
          have HK := Lib.hid hk0
          have hO2 : Ow w1.heap.size (fun k => w1.heap.size ≤ k) w3 3 (.slice a2 lst.length c2) lst := by rw [← hlen.out]; exact hO
          have HO2 := Lib.hid hO2
          clear hfull hk0 hO2 hO
          go_wp2_with (at_builtin; refine wpList_push_i (B := w1.heap.size) (l := lst) (y := 0) rfl rfl Try.underlying22 info_int (by rw [← hlen.out]; rfl) rfl (HO2.out.alloc _) (by simp [go_sem]) (by unfold i64; omega) (by rw [← hlen.out]; omega) (by simp; omega) ?_)
          intro a5 c5 l5 w5 hl5 hO5 hb5
          have hB5 := hB1.trans (((hB.alloc hs3 _).trans hb5).mono hz1)
          have hF : Hid (l5 = nextV l n) := by unfold Hid; rw [HN.out.1, hl5.out, hr'.out]
          clear hb5
          go_wp2
          go_ret2
          exact ⟨a5, c5, l5, ret_nx HN.out.2.symm, hF.out, hO5.fresh hz1, hB5⟩
  · have he' : (wErr l n != 0) = true := by simp [he]
    have HN := Lib.hid (next_bad he)
    clear he
    go_enter Try.func21, Try.ntmps21
    go_wp2_with fail
    refine (HC.out).mono ?_
    rintro e w1 ⟨rfl, hw⟩
    obtain rfl : w = w1 := hw.symm
    have hB1 := Below.refl w.heap.size w
    clear HC
    go_wp2
    go_ret2
    exact ⟨none, 0, [], ret_nx HN.out.2.symm, HN.out.1.symm, Sl.nil _ _ _ (by unfold maxLen; omega), hB1⟩
end
end Go.Proofs.Ytikdejlandmpfaa
