/- Several texts, one behind the other. Conditions: as each of them says. -/
import Derived.Test.YtknhegdepbmmlaaGreatMt38
import Derived.Test.YtknhegdepbmmlaaGreatMt36
import Derived.Test.YtknhegdepbmmlaaGreatMt27
import Derived.Test.YtknhegdepbmmlaaGreatMt25
import Derived.Test.YtknhegdepbmmlaaGreatMt23
import Derived.Test.YtknhegdepbmmlaaGreatMt4
set_option maxRecDepth 100000
set_option maxHeartbeats 32000000
/- The references' Check of chapters 11 and 12, Word of chapter 12 from the start. Condition: fewer than 1000 states, fewer than a billion nodes; Word: the tree is right for the machine, a state of the machine. -/
namespace Go.Proofs.YtknhegdepbmmlaaGreat
open Go.RowKit
theorem ret_i31 {x y : Int} (h : x = y) : Ending.returned (.int .i64 x) = .returned (.int .i64 y) := by rw [h]
section
variable {M MT : Nat → Prop} {w : World} {an ao aT : Option Addr} {cn co cT : Nat} {m : Mach} {T : List Nd}
theorem check11_any (hm : Ma M w an cn ao co m) :
    Calls Tryz.prog 20 #[maV m an cn ao co] w fun e w' => e = .returned (.int .i64 m.minErr) ∧ Below w.heap.size w w' := by
 have hB0 := (Below.refl w.heap.size w).alloc (Nat.le_refl _) (maO m an cn ao co)
 have hx0 : C4 (w.alloc (maO m an cn ao co)) w.heap.size an cn ao co m := c4_new w
 have hz0 : w.heap.size + 1 ≤ (w.alloc (maO m an cn ao co)).heap.size := by simp
 have HM := Lib.hid hm
 have HC := Lib.hid (valid6_any (HM.out.below hB0))
 clear hm
 by_cases he : m.err = 0
 rotate_left
 ·have heb : (m.err != 0) = true := by simp [he]
  have hF : Hid (m.err = m.minErr) := (Mach.minErr_e he).symm
  clear he
  go_enter Tryz.func20, Tryz.ntmps20
  go_wp2_with fail
  generalize w.alloc (maO m an cn ao co) = w0 at *
  refine (HC.out).mono ?_
  rintro e w1 ⟨rfl, hb1⟩
  have hB1 := hB0.trans (hb1.mono (by omega))
  go_wp2
  go_ret
  exact ⟨ret_i31 hF.out, hB1⟩
 have heb : (m.err != 0) = false := by simp [he]
 have HE := Lib.hid he
 clear he
 go_enter Tryz.func20, Tryz.ntmps20
 go_wp2_with fail
 generalize w.alloc (maO m an cn ao co) = w0 at *
 refine (HC.out).mono ?_
 rintro e w1 ⟨rfl, hb1⟩
 have hB1 := hB0.trans (hb1.mono (by omega))
 have hx1 := hx0.below hb1 (by omega)
 have hz1 : w.heap.size + 1 ≤ w1.heap.size := by have := hb1.size; omega
 have HC := Lib.hid (minimalR_any (HM.out.below hB1))
 clear hB0 hx0 hz0 hb1
 go_wp2_with fail
 refine (HC.out).mono ?_
 rintro e w2 ⟨v, rfl, hv, hb2⟩
 have hB2 := hB1.trans (hb2.mono (by omega))
 clear HC hb2 hB1
 cases v with
 | true =>
  have hF : Hid ((0 : Int) = m.minErr) := (Mach.minErr_0 HE.out hv.out.symm).symm
  go_wp2
  go_ret
  exact ⟨ret_i31 hF.out, hB2⟩
 | false =>
  have hF : Hid ((1 : Int) = m.minErr) := (Mach.minErr_n HE.out hv.out.symm).symm
  go_wp2
  go_ret
  exact ⟨ret_i31 hF.out, hB2⟩
theorem check12_any (hm : Ma M w an cn ao co m) (hT : Sl MT w aT cT T) (hn : Hid (m.next.length < 1000)) (hTn : Hid (T.length < 1000000000)) :
    Calls Tryz.prog 37 #[maV m an cn ao co, .agg #[.slice aT T.length cT]] w fun e w' => e = .returned (.int .i64 (m.adsChk T)) ∧ Below w.heap.size w w' := by
 have hB0 := (Below.refl w.heap.size w).alloc (Nat.le_refl _) (maO m an cn ao co)
 have hx0 : C4 (w.alloc (maO m an cn ao co)) w.heap.size an cn ao co m := c4_new w
 have hB1 := hB0.alloc (by simp) (.cells #[.slice aT T.length cT] 27)
 have hx1 := hx0.below ((Below.refl (w.heap.size + 1) (w.alloc (maO m an cn ao co))).alloc (by simp) (.cells #[.slice aT T.length cT] 27)) (by omega)
 have ht1 : ((w.alloc (maO m an cn ao co)).alloc (.cells #[.slice aT T.length cT] 27)).cell? ⟨w.heap.size + 1, 0, none⟩ = some (.slice aT T.length cT) := by simp
 have hz1 : ((w.alloc (maO m an cn ao co)).alloc (.cells #[.slice aT T.length cT] 27)).heap.size = w.heap.size + 2 := by simp
 have l1 := hm.next.le
 have l2 := hm.out.le
 have l5 := hT.le
 have HM := Lib.hid hm
 have HT := Lib.hid hT
 have HCk := Lib.hid (check11_any (hm.below hB1))
 clear hm hT hB0 hx0
 go_enter Tryz.func37, Tryz.ntmps37
 go_upto_region 1 with (fail)
 generalize (w.alloc (maO m an cn ao co)).alloc (.cells #[.slice aT T.length cT] 27) = w1 at *
 go_wp2_with fail
 refine (HCk.out).mono ?_
 rintro e w2 ⟨rfl, hb2⟩
 have hx2 := hx1.below hb2 (by omega)
 have hB2 := hB1.trans (hb2.mono (by omega))
 have ht2 := (hb2.cell (p := ⟨w.heap.size + 1, 0, none⟩) (by show w.heap.size + 1 < _; omega)).trans ht1
 have hz2 : w.heap.size + 2 ≤ w2.heap.size := by have := hb2.size; omega
 clear hx1 hB1 hb2 hz1 HCk ht1
 by_cases he : m.minErr = 0
 ·have he' : (m.minErr != 0) = false := by simp [he]
  have HE := Lib.hid he
  have ok : Hid m.Ok := Mach.ok_of_err m (Mach.minErr_ok HE.out).1
  clear he
  have HSt := Lib.hid (states12_any (w := w2) m.next.length (by have := hn.out; omega))
  go_wp2_with fail
  refine (HSt.out).mono ?_
  rintro e w3 ⟨a3, c3, I3, rfl, hI3, hs3, hb3⟩
  have hx3 := hx2.below hb3 (by omega)
  have hB3 := hB2.trans (hb3.mono (by omega))
  have ht3 := (hb3.cell (p := ⟨w.heap.size + 1, 0, none⟩) (by show w.heap.size + 1 < _; omega)).trans ht2
  have hz3 : w.heap.size + 2 ≤ w3.heap.size := by have := hb3.size; omega
  clear hx2 hB2 ht2 hz2 hb3 HSt
  go_upto_region 5 with (fail)
  by_cases hbig : 4096 < T.length
  ·have hR : Hid ((1 : Int) = m.adsChk T) := by unfold Hid Mach.adsChk; rw [if_neg (by simp [HE.out]), if_pos hbig]
   have hbb : (((T.length : Nat) : Int) > 4096) := by omega
   have hbb2 : decide (4096 < (T.length : Int)) = true := decide_eq_true (by omega)
   refine wp_region_L (fun w' => C4 w' w.heap.size an cn ao co m ∧ w'.cell? ⟨w.heap.size + 1, 0, none⟩ = some (.slice aT T.length cT)) [0, 1, 2, 3, 4, 5, 6, 7, 8, 9, 10, 11, 12, 13, 14] (by kernel_rfl) ?_
   have hbd := (Below.refl w3.heap.size w3).drew
   have hB4 := hB3.trans (hbd.mono (by omega))
   have hS4 := And.intro (hx3.below hbd (by omega)) ((hbd.cell (p := ⟨w.heap.size + 1, 0, none⟩) (by show w.heap.size + 1 < _; omega)).trans ht3)
   clear hx3 hB3 ht3 hbd hz3
   generalize w3.drew = w4 at *
   refine skL_on [0, 1, 2, 3, 4] ?_
   repeat (refine skL_take (v := ?_) rfl ?_ ?_; rotate_left; (focus (intro w' hSw; (try dsimp only at hSw); go_simp; try with_reducible rfl)); try simp only [Act.put, List.setIfInBounds_toArray, List.set_cons_zero, List.set_cons_succ])
   refine skL_off ?_
   refine wpAnyL_take (i := 5) (v := undef) rfl (by kernel_rfl) (by kernel_rfl) (by kernel_rfl) (by kernel_rfl) (fun _ _ _ h => h) (Or.inr ⟨by rfl, rfl⟩) (by assumption) ?_
   try simp only [Act.put, List.setIfInBounds_toArray, List.set_cons_zero, List.set_cons_succ]
   refine wpAnyL_take (i := 6) (v := undef) rfl (by kernel_rfl) (by kernel_rfl) (by kernel_rfl) (by kernel_rfl) (fun _ _ _ h => h) (Or.inr ⟨by rfl, rfl⟩) (by assumption) ?_
   try simp only [Act.put, List.setIfInBounds_toArray, List.set_cons_zero, List.set_cons_succ]
   refine wpAnyL_take (i := 7) (v := undef) rfl (by kernel_rfl) (by kernel_rfl) (by kernel_rfl) (by kernel_rfl) (fun _ _ _ h => h) (Or.inr ⟨by rfl, rfl⟩) (by assumption) ?_
   try simp only [Act.put, List.setIfInBounds_toArray, List.set_cons_zero, List.set_cons_succ]
   refine wpAnyL_take (i := 8) (v := undef) rfl (by kernel_rfl) (by kernel_rfl) (by kernel_rfl) (by kernel_rfl) (fun _ _ _ h => h) (Or.inr ⟨by rfl, rfl⟩) (by assumption) ?_
   try simp only [Act.put, List.setIfInBounds_toArray, List.set_cons_zero, List.set_cons_succ]
   refine wpAnyL_take (i := 10) (v := undef) rfl (by kernel_rfl) (by kernel_rfl) (by kernel_rfl) (by kernel_rfl) (fun _ _ _ h => h) (Or.inr ⟨by rfl, rfl⟩) (by assumption) ?_
   try simp only [Act.put, List.setIfInBounds_toArray, List.set_cons_zero, List.set_cons_succ]
   refine wpAnyL_take (i := 11) (v := undef) rfl (by kernel_rfl) (by kernel_rfl) (by kernel_rfl) (by kernel_rfl) (fun _ _ _ h => h) (Or.inr ⟨by rfl, rfl⟩) (by assumption) ?_
   try simp only [Act.put, List.setIfInBounds_toArray, List.set_cons_zero, List.set_cons_succ]
   refine wpAnyL_take (i := 12) (v := undef) rfl (by kernel_rfl) (by kernel_rfl) (by kernel_rfl) (by kernel_rfl) (fun _ _ _ h => h) (Or.inr ⟨by rfl, rfl⟩) (by assumption) ?_
   try simp only [Act.put, List.setIfInBounds_toArray, List.set_cons_zero, List.set_cons_succ]
   refine wpAnyL_skip (i := 9) (by kernel_rfl) rfl rfl (by assumption) ?_
   try simp only [Act.put, List.setIfInBounds_toArray, List.set_cons_zero, List.set_cons_succ]
   refine wpAnyL_skip (i := 13) (by kernel_rfl) rfl rfl (by assumption) ?_
   try simp only [Act.put, List.setIfInBounds_toArray, List.set_cons_zero, List.set_cons_succ]
   refine skL_on [14] ?_
   repeat (refine skL_take (v := ?_) rfl ?_ ?_; rotate_left; (focus (intro w' hSw; (try dsimp only at hSw); go_simp; try with_reducible rfl)); try simp only [Act.put, List.setIfInBounds_toArray, List.set_cons_zero, List.set_cons_succ])
   refine skL_off ?_
   refine wpAnyL_done (by kernel_rfl) ?_ _
   clear hS4
   go_wp2
   go_ret
   exact ⟨ret_i31 hR.out, hB4⟩
  ·have hbig2 := Lib.hid hbig
   have hbb : ¬ (((T.length : Nat) : Int) > 4096) := by omega
   have hbb2 : decide (4096 < (T.length : Int)) = false := decide_eq_false (by omega)
   refine wp_region_L (fun w' => C4 w' w.heap.size an cn ao co m ∧ w'.cell? ⟨w.heap.size + 1, 0, none⟩ = some (.slice aT T.length cT)) [0, 1, 2, 3, 4, 5, 6, 7, 8, 10, 11, 12, 13, 14] (by kernel_rfl) ?_
   have hbd := (Below.refl w3.heap.size w3).drew
   have hB4 := hB3.trans (hbd.mono (by omega))
   have hS4 := And.intro (hx3.below hbd (by omega)) ((hbd.cell (p := ⟨w.heap.size + 1, 0, none⟩) (by show w.heap.size + 1 < _; omega)).trans ht3)
   have hz4 : w.heap.size + 2 ≤ w3.drew.heap.size := hz3
   have hs4 := Lib.hid (hs3.below hbd)
   clear hx3 hB3 ht3 hbd hz3
   generalize w3.drew = w4 at *
   have hgok : Hid (GOk m.next.length ⟨I3, I3⟩) := allS_ok ok.out hI3.out hI3.out
   have HRi := Lib.hid (right12_any (T.length + 1) (at' := 0) (g := ⟨I3, I3⟩) (HM.out.below hB4) (HT.out.below hB4) hs4.out hs4.out ok hgok (by show Hid (I3.length < 1000); unfold Hid; rw [hI3.out, allS_len]; exact hn.out) hTn (Lib.hid (Nat.zero_le _)) (Lib.hid (by omega)))
   have hgr : Hid (∀ r, m.right T (T.length + 1) 0 ⟨I3, I3⟩ = r → m.right T (T.length + 1) 0 ⟨allS m.next.length, allS m.next.length⟩ = r) := fun r h => by rw [← h, hI3.out]
   refine skL_on [0, 1, 2, 3, 4, 5, 6, 7, 8, 10, 11, 12] ?_
   repeat (refine skL_take (v := ?_) rfl ?_ ?_; rotate_left; (focus (intro w' hSw; (try dsimp only at hSw); go_simp; try with_reducible rfl)); try simp only [Act.put, List.setIfInBounds_toArray, List.set_cons_zero, List.set_cons_succ])
   refine skL_off ?_
   refine wpAnyL_one (i := 9) (by kernel_rfl) rfl rfl (fun K hK => ?_)
   go_simp
   refine (HRi.out).mono ?_
   rintro e w5 ⟨r, rfl, hr, hb5⟩
   have hB5 := hB4.trans (hb5.mono (by omega))
   have hS5 := And.intro (hS4.1.below hb5 (by omega)) ((hb5.cell (p := ⟨w.heap.size + 1, 0, none⟩) (by show w.heap.size + 1 < _; omega)).trans hS4.2)
   refine hK _ _ (fun _ => hS5) ?_
   clear hK K hB4 hS4 hz4 hs4 HRi hb5
   by_cases hrT : r = (T.length : Int)
   ·have hR : Hid ((0 : Int) = m.adsChk T) := by
      unfold Hid Mach.adsChk
      rw [if_neg (by simp [HE.out]), if_neg hbig2.out]
      rcases hr.out with ⟨n, h1, h2⟩ | ⟨h1, h2⟩
      ·rw [hgr.out _ h1, if_pos (by rw [show n = T.length by omega])]
      ·omega
    have hrb : (r != (T.length : Int)) = false := by simp [hrT]
    clear hrT hr
    refine skL_on [13, 14] ?_
    repeat (refine skL_take (v := ?_) rfl ?_ ?_; rotate_left; (focus (intro w' hSw; (try dsimp only at hSw); go_simp; try with_reducible rfl)); try simp only [Act.put, List.setIfInBounds_toArray, List.set_cons_zero, List.set_cons_succ])
    refine skL_off ?_
    refine wpAnyL_done (by kernel_rfl) ?_ _
    clear hS5
    go_wp2
    go_ret
    exact ⟨ret_i31 hR.out, hB5⟩
   ·have hR : Hid ((1 : Int) = m.adsChk T) := by
      unfold Hid Mach.adsChk
      rw [if_neg (by simp [HE.out]), if_neg hbig2.out]
      rcases hr.out with ⟨n, h1, h2⟩ | ⟨h1, h2⟩
      ·rw [hgr.out _ h1, if_neg (by simp; omega)]
      ·rw [if_neg]
       intro e
       rw [← hI3.out] at e
       rw [e] at h1
       simp at h1
    have hrb : (r != (T.length : Int)) = true := by simp [hrT]
    clear hrT hr
    refine skL_on [13, 14] ?_
    repeat (refine skL_take (v := ?_) rfl ?_ ?_; rotate_left; (focus (intro w' hSw; (try dsimp only at hSw); go_simp; try with_reducible rfl)); try simp only [Act.put, List.setIfInBounds_toArray, List.set_cons_zero, List.set_cons_succ])
    refine skL_off ?_
    refine wpAnyL_done (by kernel_rfl) ?_ _
    clear hS5
    go_wp2
    go_ret
    exact ⟨ret_i31 hR.out, hB5⟩
 ·have he' : (m.minErr != 0) = true := by simp [he]
  have hR : Hid (m.minErr = m.adsChk T) := by unfold Hid Mach.adsChk; rw [if_pos he]
  clear he
  go_wp2
  go_ret
  exact ⟨ret_i31 hR.out, hB2⟩
theorem wi_uniq {a : Nat} {c : Int} {x : Nd} (h : m.Wi T a c) (hx : T[a]? = some x) (h0 : 0 ≤ x.inp) {i j : Nat} {p q : Kd} (hi : x.kids[i]? = some p) (hj : x.kids[j]? = some q) (e : p.out = q.out) : i = j := by
 obtain ⟨f, g, e', hr, hc, hg, hgi⟩ := h
 obtain ⟨h1, h2, f', h3⟩ := Mach.right_parts hr hx h0
 have hout : ∀ (j : Nat) (kj : Kd), x.kids[j]? = some kj → ∃ oj, (m.outsI x.inp.toNat g.cur)[j]? = some oj ∧ kj.out = oj := fun j kj hj => by
  have hjl := some_lt hj
  obtain ⟨oj, hoj⟩ : ∃ oj, (m.outsI x.inp.toNat g.cur)[j]? = some oj := ⟨_, List.getElem?_eq_getElem (by rw [← Mach.gParts_len, h2]; exact hjl)⟩
  have := h3 j ((oj, m.grp x.inp.toNat g.ini g.cur oj), kj) (List.getElem?_zip_eq_some.2 ⟨Mach.gParts_at hoj, hj⟩)
  exact ⟨oj, hoj, this.1⟩
 obtain ⟨o1, h4, h5⟩ := hout i p hi
 obtain ⟨o2, h6, h7⟩ := hout j q hj
 have hA : IAsc (m.outsI x.inp.toNat g.cur) := iset_asc _
 have a1 := iasc_count hA h4
 have a2 := iasc_count hA h6
 rw [← h5, e, h7] at a1
 omega
theorem word12_any (hm : Ma M w an cn ao co m) (hT : Sl MT w aT cT T) (hn : Hid (m.next.length < 1000)) (hc : Hid (m.adsChk T = 0)) (s : Nat) (hs : s < m.next.length) :
    Calls Tryz.prog 38 #[maV m an cn ao co, .agg #[.slice aT T.length cT], .int .i64 s] w fun e w' => ∃ (a : Option Addr) (c : Nat) (W : List Int) (l : Nat), e = .returned (.tuple #[.slice a W.length c, .int .i64 l, .int .i64 0]) ∧ Hid (m.adsW T s = (W, l)) ∧ Hid (W.length ≤ l ∧ l < T.length ∧ ∃ c, m.Wi T l c) ∧ Sl (fun k => k < w.heap.size) w' a c W ∧ Below w.heap.size w w' := by
 have ok : Hid m.Ok := Mach.ok_of_err m (Mach.minErr_ok (Mach.adsChk_0 hc.out).1).1
 have hT4 := Lib.hid (Mach.adsChk_0 hc.out).2.1
 have hTl := hT4.out
 have hw0 := Lib.hid (Mach.wi_0 ok.out hc.out hs)
 have hB0 := (Below.refl w.heap.size w).alloc (Nat.le_refl _) (maO m an cn ao co)
 have hx0 : C4 (w.alloc (maO m an cn ao co)) w.heap.size an cn ao co m := c4_new w
 have hB1 := hB0.alloc (by simp) (.cells #[.slice aT T.length cT] 27)
 have hx1 := hx0.below ((Below.refl (w.heap.size + 1) (w.alloc (maO m an cn ao co))).alloc (by simp) (.cells #[.slice aT T.length cT] 27)) (by omega)
 have ht1 : ((w.alloc (maO m an cn ao co)).alloc (.cells #[.slice aT T.length cT] 27)).cell? ⟨w.heap.size + 1, 0, none⟩ = some (.slice aT T.length cT) := by simp
 have hz1 : ((w.alloc (maO m an cn ao co)).alloc (.cells #[.slice aT T.length cT] 27)).heap.size = w.heap.size + 2 := by simp
 have n1 := ok.out.n1
 have l1 := hm.next.le
 have l2 := hm.out.le
 have l5 := hT.le
 have HM := Lib.hid hm
 have HT := Lib.hid hT
 have HCk0 := check12_any (hm.below hB1) (hT.below hB1) hn (Lib.hid (by omega))
 rw [hc.out] at HCk0
 have HCk := Lib.hid HCk0
 have hW0 : Hid (m.adsW T s = m.wordGo T T.length 0 s []) := rfl
 clear hm hT hB0 hx0 HCk0
 go_enter Tryz.func38, Tryz.ntmps38
 go_upto_region 1 with (fail)
 generalize (w.alloc (maO m an cn ao co)).alloc (.cells #[.slice aT T.length cT] 27) = w1 at *
 go_wp2_with fail
 refine (HCk.out).mono ?_
 rintro e w2 ⟨rfl, hb2⟩
 have hx2 := hx1.below hb2 (by omega)
 have hB2 := hB1.trans (hb2.mono (by omega))
 have ht2 := (hb2.cell (p := ⟨w.heap.size + 1, 0, none⟩) (by show w.heap.size + 1 < _; omega)).trans ht1
 have hz2 : w.heap.size + 2 ≤ w2.heap.size := by have := hb2.size; omega
 clear hx1 hB1 hb2 hz1 HCk ht1
 have HS : Hid (∀ w', Below w2.heap.size w2 w' → C4 w' w.heap.size an cn ao co m ∧ w'.cell? ⟨w.heap.size + 1, 0, none⟩ = some (.slice aT T.length cT)) := fun w' h =>
  ⟨hx2.below h (by omega), (h.cell (p := ⟨w.heap.size + 1, 0, none⟩) (by show w.heap.size + 1 < _; omega)).trans ht2⟩
 have hs0 : decide ((s : Int) < 0) = false := decide_eq_false (by omega)
 have hs1 : decide (m.next.length ≤ s) = false := decide_eq_false (by omega)
 have hba := Below.refl w2.heap.size w2
 go_wp2_with fail
 go_loopw [2, 10, 11] (fun u v i wr => ∃ (at' c fu : Nat) (a' : Option Addr) (c' : Nat) (W : List Int), u = .int .i64 c ∧ i = .int .i64 at' ∧ v = .slice a' W.length c' ∧ Hid (m.adsW T s = m.wordGo T fu at' c W) ∧ Hid (m.Wi T at' c) ∧ Hid (T.length ≤ at' + fu) ∧ Hid (W.length ≤ at') ∧
  Ow w2.heap.size (fun k => w2.heap.size ≤ k) wr 3 (.slice a' W.length c') W ∧ Below w2.heap.size w2 wr) (fun _ _ i _ => T.length - (intOf i).toNat)
 case atStart => exact ⟨0, s, T.length, none, 0, [], rfl, rfl, rfl, hW0, hw0, by unfold Hid; omega, by simp [Hid], Ow.nil, hba⟩
 case round =>
  clear hW0 hw0 hba
  obtain ⟨at', c, fu, a', c', W, rfl, rfl, rfl, hWg, hWi, hfu, hWl, hO, hB⟩ := hrel
  obtain ⟨wo, rfl⟩ : ∃ wo : World, wo = wr := ⟨_, rfl⟩
  have hwl := Lib.hid (Mach.wi_lt hWi.out)
  have hatl := hwl.out.1
  have hcl : c < m.next.length := by have := hwl.out.2.2; omega
  have hSo := HS.out _ hB
  have hto := hSo.2
  have hm3 := hSo.1.2.2.2
  have hBo := hB2.trans (hB.mono (by omega))
  obtain ⟨bT, oT, a1, c1, a2, c2, x, rfl, hx0, hx1, hx2', hxe, hxs, hxk, hxi⟩ := HT.out.at_nd hatl
  have HX1 : Hid (∀ w', Below w.heap.size w w' → w'.cell? ⟨bT, oT + at' * 3 + 1, none⟩ = some (.int .i64 x.inp)) := fun w' h => (h.cell (p := ⟨bT, oT + at' * 3 + 1, none⟩) (lt_of_cell hx1)).trans hx1
  have HX2 : Hid (∀ w', Below w.heap.size w w' → w'.cell? ⟨bT, oT + at' * 3 + 2, none⟩ = some (.slice a2 x.kids.length c2)) := fun w' h => (h.cell (p := ⟨bT, oT + at' * 3 + 2, none⟩) (lt_of_cell hx2')).trans hx2'
  clear hxs hx0 hx1 hx2'
  have hx1 := HX1.out _ hBo
  have HXK := Lib.hid hxk
  have hxkl := hxk.le
  clear hxk hSo
  by_cases h0 : x.inp ≥ 0
  ·obtain ⟨xn, hxn⟩ := Int.eq_ofNat_of_zero_le h0
   obtain ⟨hxi1, k, kd, n', hkd, hko, hkb, hkt, han, hnT, hWn⟩ := Mach.wi_step ok.out hWi.out hxe.out h0
   have hun : Hid (∀ (j : Nat) (q : Kd), x.kids[j]? = some q → q.out = kd.out → j = k) := fun j q hq e => wi_uniq hWi.out hxe.out h0 hq hkd e
   have hxin : xn < m.inputs.toNat := by omega
   rw [hxn] at hx1 hko hkb hWn
   have h0x : (xn : Int) ≥ 0 := by omega
   have hkl := some_lt hkd
   have hko2 := Lib.hid hko
   have hkd2 := Lib.hid hkd
   have hkb2 := Lib.hid hkb
   have hkt2 := Lib.hid hkt
   have hWn2 := Lib.hid hWn
   have hxn2 := Lib.hid hxn
   obtain ⟨bn, on, bo, oo, rfl, rfl⟩ := (HM.out.addr ok.out)
   clear hko hkd hkb hkt hWn hxn h0 hxi1
   obtain ⟨b1, o1, d1, r1, b2, o2, d2, r2, nn, y, hn1, hn2, hn3, hn4, hn5, hy0, hy1, hnx, hot, hr1, hr2, hr3, hr4⟩ := HM.out.atS ok.out hcl hxin
   have HN : Hid (∀ w', Below w.heap.size w w' → (w'.cell? ⟨bo, oo + c, none⟩ = some (.slice (some ⟨b2, o2, none⟩) r2 d2) ∧ w'.cell? ⟨b2, o2 + xn, none⟩ = some (.int .i64 y)) ∧ w'.cell? ⟨bn, on + c, none⟩ = some (.slice (some ⟨b1, o1, none⟩) r1 d1) ∧ w'.cell? ⟨b1, o1 + xn, none⟩ = some (.int .i64 nn)) := fun w' h =>
    ⟨⟨(h.cell (p := ⟨bo, oo + c, none⟩) (lt_of_cell hn2)).trans hn2, (h.cell (p := ⟨b2, o2 + xn, none⟩) (lt_of_cell hn4)).trans hn4⟩, (h.cell (p := ⟨bn, on + c, none⟩) (lt_of_cell hn1)).trans hn1, (h.cell (p := ⟨b1, o1 + xn, none⟩) (lt_of_cell hn3)).trans hn3⟩
   clear hn1 hn2 hn3 hn4
   obtain ⟨⟨hq1, hq2⟩, -, -⟩ := HN.out _ hBo
   have hso : c < m.out.length := by rw [ok.out.lo]; exact hcl
   have hWl2 := hWl.out
   have hxn64 : Hid (i64 (xn : Int)) := by have h := hxi.out; rw [hxn2.out] at h; exact h
   have hz2o := hB.size
   go_wp2_with (at_builtin; refine wpList_push_i (B := w2.heap.size) (l := W) (y := (xn : Int)) rfl rfl Tryz.underlying45 info_int rfl rfl (hO.alloc _) (by simp [go_sem]) hxn64.out (by omega) (by simp; omega) ?_)
   intro a6 c6 W6 w6 hW6 hO6 hb6
   have hB6 := (hB.alloc hz2o (.cells #[.int .i64 (xn : Int)] 3)).trans hb6
   have hBw6 := hB2.trans (hB6.mono (by omega))
   have hS6 := HS.out _ hB6
   have ht6 := hS6.2
   have hm2 := hS6.1.2.2.1
   obtain ⟨-, hq3, hq4⟩ := HN.out _ hBw6
   have hk6 := HX2.out _ hBw6
   have hHK := Lib.hid (HXK.out.below hBw6)
   have hWl6 : Hid (W6.length = W.length + 1) := by unfold Hid; rw [hW6.out]; simp
   clear hO hB hBo hto hm3 hx1 hq1 hq2 hb6 hS6 hz2o
   obtain ⟨fu', hfe⟩ : ∃ fu', fu = fu' + 1 := ⟨fu - 1, by have := hfu.out; omega⟩
   have hot' : Hid (m.ot c xn = y) := hot
   have hnx' : Hid (m.nx c xn = (nn : Int)) := hnx
   have hWg2 : Hid (m.adsW T s = m.wordGo T fu' n' nn W6) := by
    unfold Hid
    rw [hWg.out, hfe, Mach.wordGo_on hxe.out (by rw [hxn2.out]; exact Int.natCast_nonneg _) (Mach.kidOf_at hkd2.out (by rw [hko2.out, hxn2.out]) (by rw [hxn2.out]; exact hkb2.out)), hkt2.out, hxn2.out, hW6.out]
    show m.wordGo T fu' n' (m.nx c xn) _ = _
    rw [hnx'.out]
   have hWi2 : Hid (m.Wi T n' nn) := by
    have h := hWn2.out
    rw [show m.nx ((c : Int)).toNat ((xn : Int)).toNat = (nn : Int) from hnx'.out] at h
    exact h
   have hfu3 : Hid (T.length ≤ n' + fu') := by unfold Hid; have := hfu.out; omega
   have hWl3 : Hid (W6.length ≤ n') := by unfold Hid; rw [hWl6.out]; have := hWl.out; omega
   have hkoy : Hid (kd.out = y) := by unfold Hid; rw [hko2.out, ← hot'.out]; rfl
   clear hfe hnx hot
   have hE0 : Hid (at' = if k < 0 then n' else at') := by unfold Hid; rw [if_neg (by omega)]
   go_wp2_with fail
   go_loop [11, 15] (fun u i => ∃ j v : Nat, j ≤ x.kids.length ∧ i = .int .i64 j ∧ u = .int .i64 v ∧ Hid (v = if k < j then n' else at')) (fun _ i => x.kids.length - (intOf i).toNat)
   case atStart => exact ⟨0, at', by omega, rfl, rfl, hE0⟩
   case round =>
    clear hE0
    obtain ⟨j, v, hj, rfl, rfl, hv⟩ := hrel
    by_cases hjl : j < x.kids.length
    ·obtain ⟨bk, okk, q, rfl, hkc0, hkc1, hqe, -⟩ := hHK.out.at_kd hjl
     by_cases hqo : q.out = y
     ·have hqb : (q.out == y) = true := by simp [hqo]
      have hjk : j = k := hun.out j q hqe.out (by rw [hqo, hkoy.out])
      have hqt : q.to = (n' : Int) := by
       have h := hqe.out
       rw [hjk, hkd2.out] at h
       obtain rfl := Option.some.inj h
       exact hkt2.out
      rw [hqt] at hkc1
      have hv2 : Hid (n' = if k < j + 1 then n' else at') := by unfold Hid; rw [if_pos (by omega)]
      clear hqo hjk hqt
      go_wp2
      go_round
      case rel => exact ⟨j + 1, n', by omega, by go_num, rfl, hv2⟩
      case measure => simp [intOf]; omega
     ·have hqb : (q.out == y) = false := by simp [hqo]
      have hjk : j ≠ k := fun e => hqo (by
       have h := hqe.out
       rw [e, hkd2.out] at h
       obtain rfl := Option.some.inj h
       exact hkoy.out)
      have hv2 : Hid (v = if k < j + 1 then n' else at') := by
       unfold Hid; rw [hv.out]
       by_cases e : k < j
       ·rw [if_pos e, if_pos (by omega)]
       ·rw [if_neg e, if_neg (by omega)]
      clear hqo hjk
      go_wp2
      go_round
      case rel => exact ⟨j + 1, v, by omega, by go_num, rfl, hv2⟩
      case measure => simp [intOf]; omega
    ·have hvn : v = n' := by have h := hv.out; rw [if_pos (by omega)] at h; exact h
     subst hvn
     go_wp2
     go_roundw
     case rel => exact ⟨v, nn, fu', a6, c6, W6, rfl, rfl, rfl, hWg2, hWi2, hfu3, hWl3, hO6, hB6⟩
     case measure => simp [intOf]; omega
  ·have hF : Hid (m.adsW T s = (W, at')) := by unfold Hid; rw [hWg.out]; exact Mach.wordGo_stop hxe.out (by omega)
   have hfr := hO.fresh (n := w.heap.size) (by omega)
   go_wp2
   exact bodyPost_ret (v := .tuple #[.slice a' W.length c', .int .i64 at', .int .i64 0]) (by simp [results, Tryz.results38, go_sem]) rfl ⟨a', c', W, at', rfl, hF, Lib.hid ⟨hWl.out, hatl, _, hWi.out⟩, hfr, hBo⟩
end
end Go.Proofs.YtknhegdepbmmlaaGreat
/- The reference's Identify of chapter 31 from the start. Condition: fewer than 1000 states, fewer than a billion nodes. -/
namespace Go.Proofs.YtknhegdepbmmlaaGreat
open Go.RowKit
theorem Sm6.small {l : List (List Int)} (h : Sm6 l) : Small9 l := ⟨by have := h.1; omega, fun r hr => by have := h.2 r hr; omega⟩
theorem Mach.ids_at {m : Mach} {T : List Nd} {s : Nat} (h : s < m.next.length) : (m.ids T)[s]? = some (srt cmpW (m.idW T (s : Int))) := by
 unfold ids; rw [List.getElem?_map, List.getElem?_range h]; rfl
theorem Mach.ids_len {m : Mach} {T : List Nd} : (m.ids T).length = m.next.length := by unfold ids; simp
section
variable {M MT : Nat → Prop} {w : World} {an ao aT : Option Addr} {cn co cT : Nat} {m : Mach} {T : List Nd}
theorem identify31_any (hm : Ma M w an cn ao co m) (hT : Sl MT w aT cT T) (hn : Hid (m.next.length < 1000)) (hTn : Hid (T.length < 1000000000)) :
    Calls Tryz.prog 13 #[maV m an cn ao co, .agg #[.slice aT T.length cT]] w fun e w' => ∃ (a : Option Addr) (c : Nat) (L : List (List (List Int))) (e1 : Int), e = .returned (.tuple #[.slice a L.length c, .int .i64 e1]) ∧ Hid (m.idE T = (L, e1)) ∧ Sl (fun k => k < w.heap.size) w' a c L ∧ Below w.heap.size w w' := by
 have hB0 := (Below.refl w.heap.size w).alloc (Nat.le_refl _) (maO m an cn ao co)
 have hx0 : C4 (w.alloc (maO m an cn ao co)) w.heap.size an cn ao co m := c4_new w
 have hB1 := hB0.alloc (by simp) (.cells #[.slice aT T.length cT] 27)
 have hx1 := hx0.below ((Below.refl (w.heap.size + 1) (w.alloc (maO m an cn ao co))).alloc (by simp) (.cells #[.slice aT T.length cT] 27)) (by omega)
 have ht1 : ((w.alloc (maO m an cn ao co)).alloc (.cells #[.slice aT T.length cT] 27)).cell? ⟨w.heap.size + 1, 0, none⟩ = some (.slice aT T.length cT) := by simp
 have hz1 : ((w.alloc (maO m an cn ao co)).alloc (.cells #[.slice aT T.length cT] 27)).heap.size = w.heap.size + 2 := by simp
 have l1 := hm.next.le
 have l2 := hm.out.le
 have l5 := hT.le
 have HM := Lib.hid hm
 have HT := Lib.hid hT
 have HCk := Lib.hid (check12_any (hm.below hB1) (hT.below hB1) hn hTn)
 clear hm hT hB0 hx0
 go_enter Tryz.func13, Tryz.ntmps13
 go_upto_region 1 with (fail)
 generalize (w.alloc (maO m an cn ao co)).alloc (.cells #[.slice aT T.length cT] 27) = w1 at *
 go_wp2_with fail
 refine (HCk.out).mono ?_
 rintro e w2 ⟨rfl, hb2⟩
 have hx2 := hx1.below hb2 (by omega)
 have hB2 := hB1.trans (hb2.mono (by omega))
 have ht2 := (hb2.cell (p := ⟨w.heap.size + 1, 0, none⟩) (by show w.heap.size + 1 < _; omega)).trans ht1
 have hz2 : w.heap.size + 2 ≤ w2.heap.size := by have := hb2.size; omega
 clear hx1 hB1 hb2 hz1 HCk ht1
 by_cases he : m.adsChk T = 0
 ·have he' : (m.adsChk T != 0) = false := by simp [he]
  have HE := Lib.hid he
  have ok : Hid m.Ok := Mach.ok_of_err m (Mach.minErr_ok (Mach.adsChk_0 HE.out).1).1
  have n1 := ok.out.n1
  clear he
  have HS : Hid (∀ w', Below w2.heap.size w2 w' → (C4 w' w.heap.size an cn ao co m ∧ w'.cell? ⟨w.heap.size + 1, 0, none⟩ = some (.slice aT T.length cT)) ∧ Below w.heap.size w w') := fun w' h =>
   ⟨⟨hx2.below h (by omega), (h.cell (p := ⟨w.heap.size + 1, 0, none⟩) (by show w.heap.size + 1 < _; omega)).trans ht2⟩, hB2.trans (h.mono (by omega))⟩
  have hba := Below.refl w2.heap.size w2
  have hO0 : Ox (α := List (List Int)) w2.heap.size w2.heap.size w2 22 (.slice none 0 0) [] := Ox.nil
  clear hx2 hB2 ht2
  go_wp2_with fail
  go_loopw [7, 8] (fun v i wr => ∃ (s : Nat) (a' : Option Addr) (c' : Nat) (K : List (List (List Int))), s ≤ m.next.length ∧ i = .int .i64 s ∧ v = .slice a' K.length c' ∧ Hid (K = (m.ids T).take s) ∧ Ox w2.heap.size w2.heap.size wr 22 (.slice a' K.length c') K ∧ Below w2.heap.size w2 wr) (fun _ i _ => m.next.length - (intOf i).toNat)
  case atStart => exact ⟨0, none, 0, [], by omega, rfl, rfl, rfl, hO0, hba⟩
  case round =>
   clear hO0 hba
   obtain ⟨s, a', c', K, hsn, rfl, rfl, hK, hO, hB⟩ := hrel
   obtain ⟨wo, rfl⟩ : ∃ wo : World, wo = wr := ⟨_, rfl⟩
   have hSo := HS.out _ hB
   have hto := hSo.1.2
   have hm0 := hSo.1.1
   have hm02 := hm0.2.2.1
   have hzo := hB.size
   have hKl : Hid (K.length = s) := by unfold Hid; rw [hK.out, List.length_take, Mach.ids_len]; omega
   by_cases hlt : s < m.next.length
   ·have hs1000 : s < 1000 := by have := hn.out; omega
    have HWd := Lib.hid (word12_any (HM.out.below hSo.2) (HT.out.below hSo.2) hn HE s hlt)
    clear hSo
    go_wp2_with fail
    refine (HWd.out).mono ?_
    rintro e w3 ⟨aW, cW, W, l, rfl, hW, hWl, hWs, hb3⟩
    have hB3 := hB.trans (hb3.mono hzo)
    have hS3 := HS.out _ hB3
    have ht3 := hS3.1.2
    have hll := hWl.out.2.1
    have hWll := hWl.out.1
    have hT4 := (Mach.adsChk_0 HE.out).2.1
    obtain ⟨bT, oT, a1, c1, a2, c2, x, rfl, hq0, -, -, hxe, hxs, -, -⟩ := HT.out.at_nd hll
    have hq3 := (hS3.2.cell (p := ⟨bT, oT + l * 3, none⟩) (lt_of_cell hq0)).trans hq0
    have HX := Lib.hid hxs
    have hxsl := hxs.le
    have hnode := Lib.hid (Mach.wi_node hWl.out.2.2.choose_spec hxe.out)
    have hxn := hnode.out.2
    have hWsl := hWs.le
    obtain ⟨P, hP⟩ : ∃ P : List (List Int), Hid (P = if 0 < W.length ∨ x.st.length = 1 then [W] else []) := ⟨_, rfl⟩
    have hid : Hid (m.idW T (s : Int) = P ++ m.idO s x.st) := by unfold Hid; rw [hP.out]; exact Mach.idW_eq hW.out hxe.out
    have hsm : Hid (Sm6 (P ++ m.idO s x.st)) := by unfold Hid; rw [hP.out]; exact small_id (by omega) (by have := hn.out; omega) hn.out
    have hPl : Hid (P.length ≤ 1) := by unfold Hid; rw [hP.out]; split <;> simp
    have HO := Lib.hid hO
    have HKe := Lib.hid hK.out
    have HWs := Lib.hid hWs
    clear hq0 hxs hO hS3 hto hm0 hm02 HWd hWs hWl hK
    have hcase : (0 < W.length ∧ Hid (P = [W])) ∨ (¬ 0 < W.length ∧ Hid (P = [W]) ∧ ((x.st.length : Int) == 1) = true) ∨ (¬ 0 < W.length ∧ Hid (P = []) ∧ ((x.st.length : Int) == 1) = false) := by
     by_cases h1 : 0 < W.length
     ·exact .inl ⟨h1, by unfold Hid; rw [hP.out, if_pos (.inl h1)]⟩
     ·by_cases h2 : x.st.length = 1
      ·exact .inr (.inl ⟨h1, by unfold Hid; rw [hP.out, if_pos (.inr h2)], by simp [h2]⟩)
      ·exact .inr (.inr ⟨h1, by unfold Hid; rw [hP.out, if_neg (by omega)], by simp; omega⟩)
    have hzw3 := hb3.size
    have hWn : Sl (fun k => (Value.slice none 0 0).ownBlock = some k ∨ k < wo.heap.size) w3 aW cW W := HWs.out.anti fun k _ hm => by
     rcases hm with hm | hm
     ·simp [Value.ownBlock] at hm
     ·exact hm
    have hOn : Ox (α := List Int) wo.heap.size wo.heap.size w3 45 (.slice none 0 0) [] := Ox.nil
    have hlast : Hid (∀ K2 : List (List Int), K2 = P ++ m.idO s x.st → (m.ids T)[s]? = some (srt cmpW K2)) := fun K2 h => by rw [Mach.ids_at hlt, hid.out, h]
    rcases hcase with ⟨hw0, hPe⟩ | ⟨hw0, hPe, hw1⟩ | ⟨hw0, hPe, hw1⟩
    ·have hw00 := hw0
     (first
      | (go_wp2_with (at_builtin; refine wpList_push_x (n0 := wo.heap.size) (B := wo.heap.size) (v := .slice none 0 0) (rows := []) (r := W) (ar := aW) (cr := cW) rfl rfl Tryz.underlying22 info_ints rfl rfl (hOn.alloc _) (by simp [go_sem]) (hWn.alloc _) (by simp) (by simp; omega) ?_)
         intro a4 c4 K4 w4 hK4 hO4 hbk hgr
         have hB4 := (hb3.alloc hzw3 (.cells #[.slice aW W.length cW] 45)).grown hgr (by simp; omega) (fun k hk => by simp [Value.ownBlock] at hk)
         have hKP : Hid (K4 = P ++ m.idO s (x.st.take 0)) := by unfold Hid; rw [hK4.out, hPe.out]; simp [Mach.idO]
         clear hbk hgr hK4)
      | (go_wp2_with fail
         have hB4 := hb3
         have hO4 := hOn
         have hKP : Hid (([] : List (List Int)) = P ++ m.idO s (x.st.take 0)) := by unfold Hid; rw [hPe.out]; simp [Mach.idO]))
     clear hWn hOn hw0 hw00 hPe
     try clear hw1
     go_wp2_with fail
     go_loopw [13, 14] (fun v i wr => ∃ (j : Nat) (a5 : Option Addr) (c5 : Nat) (K5 : List (List Int)), j ≤ x.st.length ∧ i = .int .i64 j ∧ v = .slice a5 K5.length c5 ∧ Hid (K5 = P ++ m.idO s (x.st.take j)) ∧ Ox wo.heap.size wo.heap.size wr 45 (.slice a5 K5.length c5) K5 ∧ Below wo.heap.size wo wr) (fun _ i _ => x.st.length - (intOf i).toNat)
     case atStart => first | exact ⟨0, a4, c4, K4, by omega, rfl, rfl, hKP, hO4, hB4⟩ | exact ⟨0, none, 0, [], by omega, rfl, rfl, hKP, hO4, hB4⟩
     case round =>
      clear hKP hO4 hB4 ht3 hq3
      obtain ⟨j, a5, c5, K5, hj, rfl, rfl, hK5, hO5, hB5⟩ := hrel
      obtain ⟨wi, rfl⟩ : ∃ wi : World, wi = wr := ⟨_, rfl⟩
      have hB25 := hB.trans (hB5.mono hzo)
      have hS5 := HS.out _ hB25
      have hK5l : Hid (K5.length < 10000) := by
       have h1 := hPl.out
       have h2 := Mach.idO_len (m := m) (s := (s : Int)) (o := x.st.take j)
       have h3 := hn.out
       unfold Hid; rw [hK5.out, List.length_append]; rw [List.length_take] at h2; omega
      have hzi := hB5.size
      by_cases hjl : j < x.st.length
      ·obtain ⟨bs, os, y, hbe, hyc, hy, hy64⟩ := (HX.out.below hS5.2).at_int hjl
       have hyr := hnode.out.1 y (List.mem_of_getElem? hy.out)
       obtain ⟨yn, rfl⟩ := Int.eq_ofNat_of_zero_le hyr.1
       subst hbe
       by_cases hys : yn = s
       ·have hyb : (((yn : Nat) : Int) != (s : Int)) = false := by simp [hys]
        have hK6 : Hid (K5 = P ++ m.idO s (x.st.take (j + 1))) := by unfold Hid; rw [hK5.out, Mach.idO_step hy.out, if_pos (by omega), List.append_nil]
        clear hys hyr
        go_wp2
        go_roundw
        case rel => exact ⟨j + 1, a5, c5, K5, by omega, by go_num, rfl, hK6, hO5, hB5⟩
        case measure => simp [intOf]; omega
       ·have hyb : (((yn : Nat) : Int) != (s : Int)) = true := by simp; omega
        have hK6 : Hid (P ++ m.idO s (x.st.take (j + 1)) = K5 ++ [m.sepW s yn]) := by unfold Hid; rw [hK5.out, Mach.idO_step hy.out, if_neg (by omega), List.append_assoc]
        have hyr2 := Lib.hid hyr.2
        have hez := Lib.hid (st_zero (m := m) (Mach.minErr_ok (Mach.adsChk_0 HE.out).1).1 (s := (s : Int)) (x := (yn : Int)) (by omega) hyr)
        clear hys hyr hK5
        go_upto_region 17 with (fail)
        refine wp_region_L (fun w' => C4 w' w.heap.size an cn ao co m ∧ w'.cell? ⟨bs, os + j, none⟩ = some (.int .i64 (yn : Int))) [0, 1, 2, 3, 4, 5, 7, 8, 9, 10, 11, 12, 13] (by kernel_rfl) ?_
        have hdr := (Below.refl wi.heap.size wi).drew
        have hB6 := hB5.trans (hdr.mono hzi)
        have hB26 := hB25.trans (hdr.mono hB25.size)
        have hS6 := And.intro (HS.out _ hB26).1.1 (show wi.drew.cell? ⟨bs, os + j, none⟩ = some (.int .i64 (yn : Int)) from hyc)
        have hO6 := Ox.later hO5 hdr
        have hSt0 := statesR_any (HM.out.below (HS.out _ hB26).2) (s : Int) (yn : Int) (by unfold i64; omega) (by have := hyr2.out; unfold i64; omega)
        rw [hez.out] at hSt0
        have HSt := Lib.hid hSt0
        clear hSt0 hS5 hB5 hB25 hO5 hdr hzi hyc hez
        generalize wi.drew = w6 at *
        have hz6 := hB6.size
        refine skL_on [0, 1, 2, 3, 4, 5] ?_
        repeat (refine skL_take (v := ?_) rfl ?_ ?_; rotate_left; (focus (intro w' hSw; (try dsimp only at hSw); go_simp; try with_reducible rfl)); try simp only [Act.put, List.setIfInBounds_toArray, List.set_cons_zero, List.set_cons_succ])
        refine skL_off ?_
        refine wpAnyL_one (i := 6) (by kernel_rfl) rfl rfl (fun K hK => ?_)
        go_simp
        refine (HSt.out).mono ?_
        rintro e w7 ⟨ad, cd, V, fv, rfl, hV, hVs, hb7⟩
        have hB7 := hB6.trans (hb7.mono hz6)
        have hB27 := hB26.trans (hb7.mono hB26.size)
        have hS7 := And.intro (HS.out _ hB27).1.1 ((hb7.cell (p := ⟨bs, os + j, none⟩) (lt_of_cell hS6.2)).trans hS6.2)
        have hO7 := Ox.later hO6 hb7
        have hVe : Hid (V = m.sepW s yn) := hV.out.1
        refine hK _ _ (fun _ => hS7) ?_
        clear hK K HSt hV hB26 hB27 hS6
        refine skL_on [7, 8, 9, 10, 11, 12, 13] ?_
        repeat (refine skL_take (v := ?_) rfl ?_ ?_; rotate_left; (focus (intro w' hSw; (try dsimp only at hSw); go_simp; try with_reducible rfl)); try simp only [Act.put, List.setIfInBounds_toArray, List.set_cons_zero, List.set_cons_succ])
        refine skL_off ?_
        refine wpAnyL_done (by kernel_rfl) ?_ _
        have hV7 : Sl (fun k => (Value.slice a5 K5.length c5).ownBlock = some k ∨ k < wo.heap.size) w7 ad cd V := hVs.anti fun k _ hm => by
         rcases hm with hm | hm
         ·exact (hO6.lt k hm).2
         ·omega
        have hz7 := hB7.size
        have hVl := hV7.le
        clear hS7 hVs hO6 hb7 hB6 hz6
        go_wp2_with (at_builtin; refine wpList_push_x (n0 := wo.heap.size) (B := wo.heap.size) (r := V) (ar := ad) (cr := cd) rfl rfl Tryz.underlying22 info_ints rfl rfl (hO7.alloc _) (by simp [go_sem]) (hV7.alloc _) (by have := hK5l.out; omega) (by simp; omega) ?_)
        intro a8 c8 K8 w8 hK8 hO8 hbk hgr
        have hB8 := (hB7.alloc hz7 (.cells #[.slice ad V.length cd] 45)).grown hgr (by simp; omega) (fun k hk => (hO7.lt k hk).1)
        have hK9 : Hid (K8 = P ++ m.idO s (x.st.take (j + 1))) := by unfold Hid; rw [hK8.out, hK6.out, hVe.out]
        clear hbk hgr hK8 hO7 hB7 hV7 hz7
        go_wp2
        go_roundw
        case rel => exact ⟨j + 1, a8, c8, K8, by omega, by go_num, rfl, hK9, hO8, hB8⟩
        case measure => simp [intOf]; omega
      ·have hK6 : Hid (K5 = P ++ m.idO s x.st) := by unfold Hid; rw [hK5.out, List.take_of_length_le (by omega)]
       have HSr := Lib.hid (sortedR_any (hO5.toSl (Nat.le_refl _)) (Lib.hid (Sm6.small (by rw [hK6.out]; exact hsm.out))))
       have hidn := hlast.out _ hK6.out
       have hidn := Lib.hid hidn
       go_wp2_with fail
       refine (HSr.out).mono ?_
       rintro e w8 ⟨a8, c8, L8, rfl, hL8, hS8, hb8⟩
       have hB8 := hB25.trans (hb8.mono hB25.size)
       have hO8 := Ox.later (Ox.later HO.out hB5) hb8
       have hS8' : Sl (fun k => (Value.slice a' K.length c').ownBlock = some k ∨ k < w2.heap.size) w8 a8 c8 L8 := hS8.anti fun k _ hm => by
        rcases hm with hm | hm
        ·have := (HO.out.lt k hm).2; omega
        ·omega
       have hL8l := hS8'.le
       have hz8 := hB8.size
       clear HSr hB5 hB25 hS5 hO5 hS8 hb8 hK5 hK5l hzi
       go_wp2_with (at_builtin; refine wpList_push_x (n0 := w2.heap.size) (B := w2.heap.size) (r := L8) (ar := a8) (cr := c8) rfl rfl Tryz.underlying31 info_rows3 rfl rfl (hO8.alloc _) (by simp [go_sem]) (hS8'.alloc _) (by rw [hKl.out]; omega) (by simp; omega) ?_)
       intro a9 c9 K9 w9 hK9 hO9 hbk hgr
       have hB9 := (hB8.alloc hz8 (.cells #[.slice a8 L8.length c8] 22)).grown hgr (by simp; omega) (fun k hk => (hO8.lt k hk).1)
       have hKn : Hid (K9 = (m.ids T).take (s + 1)) := by unfold Hid; rw [hK9.out, HKe.out, List.take_add_one, hidn.out, hL8.out]; rfl
       clear hbk hgr hK9 hO8 hB8 hS8' hz8
       go_wp2
       go_roundw
       case rel => exact ⟨s + 1, a9, c9, K9, by omega, by go_num, rfl, hKn, hO9, hB9⟩
       case measure => simp [intOf]; omega
    ·have hw00 := hw0
     (first
      | (go_wp2_with (at_builtin; refine wpList_push_x (n0 := wo.heap.size) (B := wo.heap.size) (v := .slice none 0 0) (rows := []) (r := W) (ar := aW) (cr := cW) rfl rfl Tryz.underlying22 info_ints rfl rfl (hOn.alloc _) (by simp [go_sem]) (hWn.alloc _) (by simp) (by simp; omega) ?_)
         intro a4 c4 K4 w4 hK4 hO4 hbk hgr
         have hB4 := (hb3.alloc hzw3 (.cells #[.slice aW W.length cW] 45)).grown hgr (by simp; omega) (fun k hk => by simp [Value.ownBlock] at hk)
         have hKP : Hid (K4 = P ++ m.idO s (x.st.take 0)) := by unfold Hid; rw [hK4.out, hPe.out]; simp [Mach.idO]
         clear hbk hgr hK4)
      | (go_wp2_with fail
         have hB4 := hb3
         have hO4 := hOn
         have hKP : Hid (([] : List (List Int)) = P ++ m.idO s (x.st.take 0)) := by unfold Hid; rw [hPe.out]; simp [Mach.idO]))
     clear hWn hOn hw0 hw00 hPe
     try clear hw1
     go_wp2_with fail
     go_loopw [13, 14] (fun v i wr => ∃ (j : Nat) (a5 : Option Addr) (c5 : Nat) (K5 : List (List Int)), j ≤ x.st.length ∧ i = .int .i64 j ∧ v = .slice a5 K5.length c5 ∧ Hid (K5 = P ++ m.idO s (x.st.take j)) ∧ Ox wo.heap.size wo.heap.size wr 45 (.slice a5 K5.length c5) K5 ∧ Below wo.heap.size wo wr) (fun _ i _ => x.st.length - (intOf i).toNat)
     case atStart => first | exact ⟨0, a4, c4, K4, by omega, rfl, rfl, hKP, hO4, hB4⟩ | exact ⟨0, none, 0, [], by omega, rfl, rfl, hKP, hO4, hB4⟩
     case round =>
      clear hKP hO4 hB4 ht3 hq3
      obtain ⟨j, a5, c5, K5, hj, rfl, rfl, hK5, hO5, hB5⟩ := hrel
      obtain ⟨wi, rfl⟩ : ∃ wi : World, wi = wr := ⟨_, rfl⟩
      have hB25 := hB.trans (hB5.mono hzo)
      have hS5 := HS.out _ hB25
      have hK5l : Hid (K5.length < 10000) := by
       have h1 := hPl.out
       have h2 := Mach.idO_len (m := m) (s := (s : Int)) (o := x.st.take j)
       have h3 := hn.out
       unfold Hid; rw [hK5.out, List.length_append]; rw [List.length_take] at h2; omega
      have hzi := hB5.size
      by_cases hjl : j < x.st.length
      ·obtain ⟨bs, os, y, hbe, hyc, hy, hy64⟩ := (HX.out.below hS5.2).at_int hjl
       have hyr := hnode.out.1 y (List.mem_of_getElem? hy.out)
       obtain ⟨yn, rfl⟩ := Int.eq_ofNat_of_zero_le hyr.1
       subst hbe
       by_cases hys : yn = s
       ·have hyb : (((yn : Nat) : Int) != (s : Int)) = false := by simp [hys]
        have hK6 : Hid (K5 = P ++ m.idO s (x.st.take (j + 1))) := by unfold Hid; rw [hK5.out, Mach.idO_step hy.out, if_pos (by omega), List.append_nil]
        clear hys hyr
        go_wp2
        go_roundw
        case rel => exact ⟨j + 1, a5, c5, K5, by omega, by go_num, rfl, hK6, hO5, hB5⟩
        case measure => simp [intOf]; omega
       ·have hyb : (((yn : Nat) : Int) != (s : Int)) = true := by simp; omega
        have hK6 : Hid (P ++ m.idO s (x.st.take (j + 1)) = K5 ++ [m.sepW s yn]) := by unfold Hid; rw [hK5.out, Mach.idO_step hy.out, if_neg (by omega), List.append_assoc]
        have hyr2 := Lib.hid hyr.2
        have hez := Lib.hid (st_zero (m := m) (Mach.minErr_ok (Mach.adsChk_0 HE.out).1).1 (s := (s : Int)) (x := (yn : Int)) (by omega) hyr)
        clear hys hyr hK5
        go_upto_region 17 with (fail)
        refine wp_region_L (fun w' => C4 w' w.heap.size an cn ao co m ∧ w'.cell? ⟨bs, os + j, none⟩ = some (.int .i64 (yn : Int))) [0, 1, 2, 3, 4, 5, 7, 8, 9, 10, 11, 12, 13] (by kernel_rfl) ?_
        have hdr := (Below.refl wi.heap.size wi).drew
        have hB6 := hB5.trans (hdr.mono hzi)
        have hB26 := hB25.trans (hdr.mono hB25.size)
        have hS6 := And.intro (HS.out _ hB26).1.1 (show wi.drew.cell? ⟨bs, os + j, none⟩ = some (.int .i64 (yn : Int)) from hyc)
        have hO6 := Ox.later hO5 hdr
        have hSt0 := statesR_any (HM.out.below (HS.out _ hB26).2) (s : Int) (yn : Int) (by unfold i64; omega) (by have := hyr2.out; unfold i64; omega)
        rw [hez.out] at hSt0
        have HSt := Lib.hid hSt0
        clear hSt0 hS5 hB5 hB25 hO5 hdr hzi hyc hez
        generalize wi.drew = w6 at *
        have hz6 := hB6.size
        refine skL_on [0, 1, 2, 3, 4, 5] ?_
        repeat (refine skL_take (v := ?_) rfl ?_ ?_; rotate_left; (focus (intro w' hSw; (try dsimp only at hSw); go_simp; try with_reducible rfl)); try simp only [Act.put, List.setIfInBounds_toArray, List.set_cons_zero, List.set_cons_succ])
        refine skL_off ?_
        refine wpAnyL_one (i := 6) (by kernel_rfl) rfl rfl (fun K hK => ?_)
        go_simp
        refine (HSt.out).mono ?_
        rintro e w7 ⟨ad, cd, V, fv, rfl, hV, hVs, hb7⟩
        have hB7 := hB6.trans (hb7.mono hz6)
        have hB27 := hB26.trans (hb7.mono hB26.size)
        have hS7 := And.intro (HS.out _ hB27).1.1 ((hb7.cell (p := ⟨bs, os + j, none⟩) (lt_of_cell hS6.2)).trans hS6.2)
        have hO7 := Ox.later hO6 hb7
        have hVe : Hid (V = m.sepW s yn) := hV.out.1
        refine hK _ _ (fun _ => hS7) ?_
        clear hK K HSt hV hB26 hB27 hS6
        refine skL_on [7, 8, 9, 10, 11, 12, 13] ?_
        repeat (refine skL_take (v := ?_) rfl ?_ ?_; rotate_left; (focus (intro w' hSw; (try dsimp only at hSw); go_simp; try with_reducible rfl)); try simp only [Act.put, List.setIfInBounds_toArray, List.set_cons_zero, List.set_cons_succ])
        refine skL_off ?_
        refine wpAnyL_done (by kernel_rfl) ?_ _
        have hV7 : Sl (fun k => (Value.slice a5 K5.length c5).ownBlock = some k ∨ k < wo.heap.size) w7 ad cd V := hVs.anti fun k _ hm => by
         rcases hm with hm | hm
         ·exact (hO6.lt k hm).2
         ·omega
        have hz7 := hB7.size
        have hVl := hV7.le
        clear hS7 hVs hO6 hb7 hB6 hz6
        go_wp2_with (at_builtin; refine wpList_push_x (n0 := wo.heap.size) (B := wo.heap.size) (r := V) (ar := ad) (cr := cd) rfl rfl Tryz.underlying22 info_ints rfl rfl (hO7.alloc _) (by simp [go_sem]) (hV7.alloc _) (by have := hK5l.out; omega) (by simp; omega) ?_)
        intro a8 c8 K8 w8 hK8 hO8 hbk hgr
        have hB8 := (hB7.alloc hz7 (.cells #[.slice ad V.length cd] 45)).grown hgr (by simp; omega) (fun k hk => (hO7.lt k hk).1)
        have hK9 : Hid (K8 = P ++ m.idO s (x.st.take (j + 1))) := by unfold Hid; rw [hK8.out, hK6.out, hVe.out]
        clear hbk hgr hK8 hO7 hB7 hV7 hz7
        go_wp2
        go_roundw
        case rel => exact ⟨j + 1, a8, c8, K8, by omega, by go_num, rfl, hK9, hO8, hB8⟩
        case measure => simp [intOf]; omega
      ·have hK6 : Hid (K5 = P ++ m.idO s x.st) := by unfold Hid; rw [hK5.out, List.take_of_length_le (by omega)]
       have HSr := Lib.hid (sortedR_any (hO5.toSl (Nat.le_refl _)) (Lib.hid (Sm6.small (by rw [hK6.out]; exact hsm.out))))
       have hidn := hlast.out _ hK6.out
       have hidn := Lib.hid hidn
       go_wp2_with fail
       refine (HSr.out).mono ?_
       rintro e w8 ⟨a8, c8, L8, rfl, hL8, hS8, hb8⟩
       have hB8 := hB25.trans (hb8.mono hB25.size)
       have hO8 := Ox.later (Ox.later HO.out hB5) hb8
       have hS8' : Sl (fun k => (Value.slice a' K.length c').ownBlock = some k ∨ k < w2.heap.size) w8 a8 c8 L8 := hS8.anti fun k _ hm => by
        rcases hm with hm | hm
        ·have := (HO.out.lt k hm).2; omega
        ·omega
       have hL8l := hS8'.le
       have hz8 := hB8.size
       clear HSr hB5 hB25 hS5 hO5 hS8 hb8 hK5 hK5l hzi
       go_wp2_with (at_builtin; refine wpList_push_x (n0 := w2.heap.size) (B := w2.heap.size) (r := L8) (ar := a8) (cr := c8) rfl rfl Tryz.underlying31 info_rows3 rfl rfl (hO8.alloc _) (by simp [go_sem]) (hS8'.alloc _) (by rw [hKl.out]; omega) (by simp; omega) ?_)
       intro a9 c9 K9 w9 hK9 hO9 hbk hgr
       have hB9 := (hB8.alloc hz8 (.cells #[.slice a8 L8.length c8] 22)).grown hgr (by simp; omega) (fun k hk => (hO8.lt k hk).1)
       have hKn : Hid (K9 = (m.ids T).take (s + 1)) := by unfold Hid; rw [hK9.out, HKe.out, List.take_add_one, hidn.out, hL8.out]; rfl
       clear hbk hgr hK9 hO8 hB8 hS8' hz8
       go_wp2
       go_roundw
       case rel => exact ⟨s + 1, a9, c9, K9, by omega, by go_num, rfl, hKn, hO9, hB9⟩
       case measure => simp [intOf]; omega
    ·have hw00 := hw0
     (first
      | (go_wp2_with (at_builtin; refine wpList_push_x (n0 := wo.heap.size) (B := wo.heap.size) (v := .slice none 0 0) (rows := []) (r := W) (ar := aW) (cr := cW) rfl rfl Tryz.underlying22 info_ints rfl rfl (hOn.alloc _) (by simp [go_sem]) (hWn.alloc _) (by simp) (by simp; omega) ?_)
         intro a4 c4 K4 w4 hK4 hO4 hbk hgr
         have hB4 := (hb3.alloc hzw3 (.cells #[.slice aW W.length cW] 45)).grown hgr (by simp; omega) (fun k hk => by simp [Value.ownBlock] at hk)
         have hKP : Hid (K4 = P ++ m.idO s (x.st.take 0)) := by unfold Hid; rw [hK4.out, hPe.out]; simp [Mach.idO]
         clear hbk hgr hK4)
      | (go_wp2_with fail
         have hB4 := hb3
         have hO4 := hOn
         have hKP : Hid (([] : List (List Int)) = P ++ m.idO s (x.st.take 0)) := by unfold Hid; rw [hPe.out]; simp [Mach.idO]))
     clear hWn hOn hw0 hw00 hPe
     try clear hw1
     go_wp2_with fail
     go_loopw [13, 14] (fun v i wr => ∃ (j : Nat) (a5 : Option Addr) (c5 : Nat) (K5 : List (List Int)), j ≤ x.st.length ∧ i = .int .i64 j ∧ v = .slice a5 K5.length c5 ∧ Hid (K5 = P ++ m.idO s (x.st.take j)) ∧ Ox wo.heap.size wo.heap.size wr 45 (.slice a5 K5.length c5) K5 ∧ Below wo.heap.size wo wr) (fun _ i _ => x.st.length - (intOf i).toNat)
     case atStart => first | exact ⟨0, a4, c4, K4, by omega, rfl, rfl, hKP, hO4, hB4⟩ | exact ⟨0, none, 0, [], by omega, rfl, rfl, hKP, hO4, hB4⟩
     case round =>
      clear hKP hO4 hB4 ht3 hq3
      obtain ⟨j, a5, c5, K5, hj, rfl, rfl, hK5, hO5, hB5⟩ := hrel
      obtain ⟨wi, rfl⟩ : ∃ wi : World, wi = wr := ⟨_, rfl⟩
      have hB25 := hB.trans (hB5.mono hzo)
      have hS5 := HS.out _ hB25
      have hK5l : Hid (K5.length < 10000) := by
       have h1 := hPl.out
       have h2 := Mach.idO_len (m := m) (s := (s : Int)) (o := x.st.take j)
       have h3 := hn.out
       unfold Hid; rw [hK5.out, List.length_append]; rw [List.length_take] at h2; omega
      have hzi := hB5.size
      by_cases hjl : j < x.st.length
      ·obtain ⟨bs, os, y, hbe, hyc, hy, hy64⟩ := (HX.out.below hS5.2).at_int hjl
       have hyr := hnode.out.1 y (List.mem_of_getElem? hy.out)
       obtain ⟨yn, rfl⟩ := Int.eq_ofNat_of_zero_le hyr.1
       subst hbe
       by_cases hys : yn = s
       ·have hyb : (((yn : Nat) : Int) != (s : Int)) = false := by simp [hys]
        have hK6 : Hid (K5 = P ++ m.idO s (x.st.take (j + 1))) := by unfold Hid; rw [hK5.out, Mach.idO_step hy.out, if_pos (by omega), List.append_nil]
        clear hys hyr
        go_wp2
        go_roundw
        case rel => exact ⟨j + 1, a5, c5, K5, by omega, by go_num, rfl, hK6, hO5, hB5⟩
        case measure => simp [intOf]; omega
       ·have hyb : (((yn : Nat) : Int) != (s : Int)) = true := by simp; omega
        have hK6 : Hid (P ++ m.idO s (x.st.take (j + 1)) = K5 ++ [m.sepW s yn]) := by unfold Hid; rw [hK5.out, Mach.idO_step hy.out, if_neg (by omega), List.append_assoc]
        have hyr2 := Lib.hid hyr.2
        have hez := Lib.hid (st_zero (m := m) (Mach.minErr_ok (Mach.adsChk_0 HE.out).1).1 (s := (s : Int)) (x := (yn : Int)) (by omega) hyr)
        clear hys hyr hK5
        go_upto_region 17 with (fail)
        refine wp_region_L (fun w' => C4 w' w.heap.size an cn ao co m ∧ w'.cell? ⟨bs, os + j, none⟩ = some (.int .i64 (yn : Int))) [0, 1, 2, 3, 4, 5, 7, 8, 9, 10, 11, 12, 13] (by kernel_rfl) ?_
        have hdr := (Below.refl wi.heap.size wi).drew
        have hB6 := hB5.trans (hdr.mono hzi)
        have hB26 := hB25.trans (hdr.mono hB25.size)
        have hS6 := And.intro (HS.out _ hB26).1.1 (show wi.drew.cell? ⟨bs, os + j, none⟩ = some (.int .i64 (yn : Int)) from hyc)
        have hO6 := Ox.later hO5 hdr
        have hSt0 := statesR_any (HM.out.below (HS.out _ hB26).2) (s : Int) (yn : Int) (by unfold i64; omega) (by have := hyr2.out; unfold i64; omega)
        rw [hez.out] at hSt0
        have HSt := Lib.hid hSt0
        clear hSt0 hS5 hB5 hB25 hO5 hdr hzi hyc hez
        generalize wi.drew = w6 at *
        have hz6 := hB6.size
        refine skL_on [0, 1, 2, 3, 4, 5] ?_
        repeat (refine skL_take (v := ?_) rfl ?_ ?_; rotate_left; (focus (intro w' hSw; (try dsimp only at hSw); go_simp; try with_reducible rfl)); try simp only [Act.put, List.setIfInBounds_toArray, List.set_cons_zero, List.set_cons_succ])
        refine skL_off ?_
        refine wpAnyL_one (i := 6) (by kernel_rfl) rfl rfl (fun K hK => ?_)
        go_simp
        refine (HSt.out).mono ?_
        rintro e w7 ⟨ad, cd, V, fv, rfl, hV, hVs, hb7⟩
        have hB7 := hB6.trans (hb7.mono hz6)
        have hB27 := hB26.trans (hb7.mono hB26.size)
        have hS7 := And.intro (HS.out _ hB27).1.1 ((hb7.cell (p := ⟨bs, os + j, none⟩) (lt_of_cell hS6.2)).trans hS6.2)
        have hO7 := Ox.later hO6 hb7
        have hVe : Hid (V = m.sepW s yn) := hV.out.1
        refine hK _ _ (fun _ => hS7) ?_
        clear hK K HSt hV hB26 hB27 hS6
        refine skL_on [7, 8, 9, 10, 11, 12, 13] ?_
        repeat (refine skL_take (v := ?_) rfl ?_ ?_; rotate_left; (focus (intro w' hSw; (try dsimp only at hSw); go_simp; try with_reducible rfl)); try simp only [Act.put, List.setIfInBounds_toArray, List.set_cons_zero, List.set_cons_succ])
        refine skL_off ?_
        refine wpAnyL_done (by kernel_rfl) ?_ _
        have hV7 : Sl (fun k => (Value.slice a5 K5.length c5).ownBlock = some k ∨ k < wo.heap.size) w7 ad cd V := hVs.anti fun k _ hm => by
         rcases hm with hm | hm
         ·exact (hO6.lt k hm).2
         ·omega
        have hz7 := hB7.size
        have hVl := hV7.le
        clear hS7 hVs hO6 hb7 hB6 hz6
        go_wp2_with (at_builtin; refine wpList_push_x (n0 := wo.heap.size) (B := wo.heap.size) (r := V) (ar := ad) (cr := cd) rfl rfl Tryz.underlying22 info_ints rfl rfl (hO7.alloc _) (by simp [go_sem]) (hV7.alloc _) (by have := hK5l.out; omega) (by simp; omega) ?_)
        intro a8 c8 K8 w8 hK8 hO8 hbk hgr
        have hB8 := (hB7.alloc hz7 (.cells #[.slice ad V.length cd] 45)).grown hgr (by simp; omega) (fun k hk => (hO7.lt k hk).1)
        have hK9 : Hid (K8 = P ++ m.idO s (x.st.take (j + 1))) := by unfold Hid; rw [hK8.out, hK6.out, hVe.out]
        clear hbk hgr hK8 hO7 hB7 hV7 hz7
        go_wp2
        go_roundw
        case rel => exact ⟨j + 1, a8, c8, K8, by omega, by go_num, rfl, hK9, hO8, hB8⟩
        case measure => simp [intOf]; omega
      ·have hK6 : Hid (K5 = P ++ m.idO s x.st) := by unfold Hid; rw [hK5.out, List.take_of_length_le (by omega)]
       have HSr := Lib.hid (sortedR_any (hO5.toSl (Nat.le_refl _)) (Lib.hid (Sm6.small (by rw [hK6.out]; exact hsm.out))))
       have hidn := hlast.out _ hK6.out
       have hidn := Lib.hid hidn
       go_wp2_with fail
       refine (HSr.out).mono ?_
       rintro e w8 ⟨a8, c8, L8, rfl, hL8, hS8, hb8⟩
       have hB8 := hB25.trans (hb8.mono hB25.size)
       have hO8 := Ox.later (Ox.later HO.out hB5) hb8
       have hS8' : Sl (fun k => (Value.slice a' K.length c').ownBlock = some k ∨ k < w2.heap.size) w8 a8 c8 L8 := hS8.anti fun k _ hm => by
        rcases hm with hm | hm
        ·have := (HO.out.lt k hm).2; omega
        ·omega
       have hL8l := hS8'.le
       have hz8 := hB8.size
       clear HSr hB5 hB25 hS5 hO5 hS8 hb8 hK5 hK5l hzi
       go_wp2_with (at_builtin; refine wpList_push_x (n0 := w2.heap.size) (B := w2.heap.size) (r := L8) (ar := a8) (cr := c8) rfl rfl Tryz.underlying31 info_rows3 rfl rfl (hO8.alloc _) (by simp [go_sem]) (hS8'.alloc _) (by rw [hKl.out]; omega) (by simp; omega) ?_)
       intro a9 c9 K9 w9 hK9 hO9 hbk hgr
       have hB9 := (hB8.alloc hz8 (.cells #[.slice a8 L8.length c8] 22)).grown hgr (by simp; omega) (fun k hk => (hO8.lt k hk).1)
       have hKn : Hid (K9 = (m.ids T).take (s + 1)) := by unfold Hid; rw [hK9.out, HKe.out, List.take_add_one, hidn.out, hL8.out]; rfl
       clear hbk hgr hK9 hO8 hB8 hS8' hz8
       go_wp2
       go_roundw
       case rel => exact ⟨s + 1, a9, c9, K9, by omega, by go_num, rfl, hKn, hO9, hB9⟩
       case measure => simp [intOf]; omega
   ·have hF : Hid (m.idE T = (K, 0)) := by unfold Hid Mach.idE; rw [if_neg (by simp [HE.out]), hK.out, List.take_of_length_le (by rw [Mach.ids_len]; omega)]
    have hSl := (hO.toSl (Nat.le_refl _)).anti (M' := fun k => k < w.heap.size) fun k _ hm => by show k < _; omega
    have hBf := hSo.2
    go_wp2
    go_ret2
    exact ⟨a', c', K, 0, rfl, hF, hSl, hBf⟩
 ·have he' : (m.adsChk T != 0) = true := by simp [he]
  have hF : Hid (m.idE T = ([], m.adsChk T)) := by unfold Hid Mach.idE; rw [if_pos he]
  clear he
  go_wp2
  go_ret2
  exact ⟨none, 0, [], _, rfl, hF, Sl.nil _ _ _ (by unfold maxLen; omega), hB2⟩
end
end Go.Proofs.YtknhegdepbmmlaaGreat
/- The law AsuiteIdentifies from the start. No condition. -/
namespace Go.Proofs.YtknhegdepbmmlaaGreat
open Go.RowKit
section
variable {M MT : Nat → Prop} {w : World} {an ao aT : Option Addr} {cn co cT : Nat} {m : Mach} {T : List Nd}
theorem small11_v (hm : Ma M w an cn ao co m) {v : Bool} (h : m.small11 = v) :
    Calls Tryz.prog 9 #[maV m an cn ao co] w fun e w' => e = .returned (.bool v) ∧ Below w.heap.size w w' := by rw [← h]; exact small11_any hm
theorem few31_v (hT : Sl MT w aT cT T) {v : Bool} (h : fewB T = v) :
    Calls Tryz.prog 10 #[.agg #[.slice aT T.length cT]] w fun e w' => e = .returned (.bool v) ∧ Below w.heap.size w w' := by rw [← h]; exact few31_any hT
theorem identLaw_any (hm : Ma M w an cn ao co m) (hT : Sl MT w aT cT T) : Calls Tryz.prog 3 #[maV m an cn ao co, .agg #[.slice aT T.length cT]] w fun e w' => e = .returned (.bool true) ∧ Below w.heap.size w w' := by
 have hB0 := (Below.refl w.heap.size w).alloc (Nat.le_refl _) (maO m an cn ao co)
 have hx0 : C4 (w.alloc (maO m an cn ao co)) w.heap.size an cn ao co m := c4_new w
 have hB1 := hB0.alloc (by simp) (.cells #[.slice aT T.length cT] 27)
 have hx1 := hx0.below ((Below.refl (w.heap.size + 1) (w.alloc (maO m an cn ao co))).alloc (by simp) (.cells #[.slice aT T.length cT] 27)) (by omega)
 have ht1 : ((w.alloc (maO m an cn ao co)).alloc (.cells #[.slice aT T.length cT] 27)).cell? ⟨w.heap.size + 1, 0, none⟩ = some (.slice aT T.length cT) := by simp
 have hz1 : ((w.alloc (maO m an cn ao co)).alloc (.cells #[.slice aT T.length cT] 27)).heap.size = w.heap.size + 2 := by simp
 have l1 := hm.next.le
 have l2 := hm.out.le
 have l5 := hT.le
 have HM := Lib.hid hm
 have HT := Lib.hid hT
 clear hm hT hB0 hx0
 have hcase : m.small11 = false ∨ (m.small11 = true ∧ fewB T = false) ∨ (m.small11 = true ∧ fewB T = true) := by
  cases m.small11 <;> cases fewB T <;> simp
 rcases hcase with hs | ⟨hs, hf⟩ | ⟨hs, hf⟩
 ·have HSm := Lib.hid (small11_v (HM.out.below hB1) hs)
  clear hs
  go_enter Tryz.func3, Tryz.ntmps3
  go_upto_region 1 with (fail)
  generalize (w.alloc (maO m an cn ao co)).alloc (.cells #[.slice aT T.length cT] 27) = w1 at *
  go_wp2_with fail
  refine (HSm.out).mono ?_
  rintro e w2 ⟨rfl, hb2⟩
  have hB2 := hB1.trans (hb2.mono (by omega))
  go_wp2_with fail
  refine (ex31_any (w := w2)).mono ?_
  rintro e w3 ⟨rfl, hb3⟩
  have hB3 := hB2.trans (hb3.mono hB2.size)
  go_wp2
  go_ret
  exact ⟨rfl, hB3⟩
 ·have HSm := Lib.hid (small11_v (HM.out.below hB1) hs)
  have HF := Lib.hid hf
  clear hs hf
  go_enter Tryz.func3, Tryz.ntmps3
  go_upto_region 1 with (fail)
  generalize (w.alloc (maO m an cn ao co)).alloc (.cells #[.slice aT T.length cT] 27) = w1 at *
  go_wp2_with fail
  refine (HSm.out).mono ?_
  rintro e w2 ⟨rfl, hb2⟩
  have hB2 := hB1.trans (hb2.mono (by omega))
  have ht2 := (hb2.cell (p := ⟨w.heap.size + 1, 0, none⟩) (by show w.heap.size + 1 < _; omega)).trans ht1
  have HFw := Lib.hid (few31_v (HT.out.below hB2) HF.out)
  clear HSm hb2
  go_wp2_with fail
  refine (HFw.out).mono ?_
  rintro e w3 ⟨rfl, hb3⟩
  have hB3 := hB2.trans (hb3.mono hB2.size)
  clear HFw hb3 ht2
  go_wp2_with fail
  refine (ex31_any (w := w3)).mono ?_
  rintro e w4 ⟨rfl, hb4⟩
  have hB4 := hB3.trans (hb4.mono hB3.size)
  go_wp2
  go_ret
  exact ⟨rfl, hB4⟩
 ·have HSm := Lib.hid (small11_v (HM.out.below hB1) hs)
  have HF := Lib.hid hf
  have hn := Lib.hid (show m.next.length < 1000 by have := Mach.small11_t hs; omega)
  have hTn := Lib.hid (show T.length < 1000000000 by have := fewB_t hf; omega)
  clear hs hf
  go_enter Tryz.func3, Tryz.ntmps3
  go_upto_region 1 with (fail)
  generalize (w.alloc (maO m an cn ao co)).alloc (.cells #[.slice aT T.length cT] 27) = w1 at *
  go_wp2_with fail
  refine (HSm.out).mono ?_
  rintro e w2 ⟨rfl, hb2⟩
  have hB2 := hB1.trans (hb2.mono (by omega))
  have hx2 := hx1.below hb2 (by omega)
  have ht2 := (hb2.cell (p := ⟨w.heap.size + 1, 0, none⟩) (by show w.heap.size + 1 < _; omega)).trans ht1
  have hz2 : w.heap.size + 2 ≤ w2.heap.size := by have := hb2.size; omega
  have HFw := Lib.hid (few31_v (HT.out.below hB2) HF.out)
  clear HSm hb2 hB1 hx1 ht1 hz1
  go_wp2_with fail
  refine (HFw.out).mono ?_
  rintro e w3 ⟨rfl, hb3⟩
  have hB3 := hB2.trans (hb3.mono hB2.size)
  have hx3 := hx2.below hb3 (by omega)
  have ht3 := (hb3.cell (p := ⟨w.heap.size + 1, 0, none⟩) (by show w.heap.size + 1 < _; omega)).trans ht2
  have hz3 : w.heap.size + 2 ≤ w3.heap.size := by have := hb3.size; omega
  have HI := Lib.hid (identify_any (HM.out.below hB3) (HT.out.below hB3) hn hTn)
  clear HFw hb3 hB2 hx2 ht2 hz2
  go_wp2_with fail
  refine (HI.out).mono ?_
  rintro e w4 ⟨a4, c4, L4, e4, rfl, hE4, -, hS4, hb4⟩
  have hB4 := hB3.trans (hb4.mono hB3.size)
  have hx4 := hx3.below hb4 (by omega)
  have ht4 := (hb4.cell (p := ⟨w.heap.size + 1, 0, none⟩) (by show w.heap.size + 1 < _; omega)).trans ht3
  have HI2 := Lib.hid (identify31_any (HM.out.below hB4) (HT.out.below hB4) hn hTn)
  clear HI hb4 hB3 hx3 ht3 hz3
  have HS4 := Lib.hid hS4
  clear hS4
  go_wp2_with fail
  refine (HI2.out).mono ?_
  rintro e w5 ⟨a5, c5, L5, e5, rfl, hE5, hS5, hb5⟩
  have hB5 := hB4.trans (hb5.mono hB4.size)
  have hLe : Hid (L4 = L5 ∧ e4 = e5) := by have h := hE4.out; rw [hE5.out] at h; unfold Hid; simp at h; exact ⟨h.1.symm, h.2.symm⟩
  obtain ⟨hL, he⟩ := hLe.out
  have HSs := sets31 ((HS4.out.below hb5).anti (M' := fun _ => False) fun _ _ h => h.elim) (hS5.anti (M' := fun _ => False) fun _ _ h => h.elim)
  rw [decide_eq_true hL] at HSs
  have HSs := Lib.hid HSs
  have heb : (e4 == e5) = true := by simp [he]
  have hl4 := HS4.out.le
  have hl5 := hS5.le
  clear HI2 hb5 hB4 hx4 ht4 hLe hL he hS5 hE4 hE5 HS4
  go_wp2_with fail
  refine (HSs.out).mono ?_
  rintro e w6 ⟨rfl, n6, rfl⟩
  have hB6 := bl_drewN hB5 n6
  generalize w5.drewN n6 = w6 at *
  clear HSs hB5
  go_wp2_with fail
  refine (ex31_any (w := w6)).mono ?_
  rintro e w7 ⟨rfl, hb7⟩
  have hB7 := hB6.trans (hb7.mono hB6.size)
  go_wp2
  go_ret
  exact ⟨rfl, hB7⟩
end
end Go.Proofs.YtknhegdepbmmlaaGreat
