/- The program's split of a break. Condition: the subject is valid, the position is known and not the last. -/
import Derived.Test.YtlgdijgfphedpaaQry
namespace Go.Proofs.Ytlgdijgfphedpaa
open Go.RowKit
section
variable {w : World} {g : Nat} {x : Sj}
set_option maxRecDepth 100000 in
set_option maxHeartbeats 8000000 in
theorem splitO_any (h : Sbj w g x) (ok : Hid x.Ok) (hl : Hid x.o.lens) (i : Nat) (hi : i < x.w.length) (hk : Hid (x.o.known (x.q i) = true)) :
    Calls Try.prog 62 #[.pointer (some ⟨g, 0, none⟩), .int .i64 i] w fun e w' => FiR w w' (x.spl i) e ∧ Below w.heap.size w w' := by
  have HSb := Lib.hid h
  have hg := h.lt
  have hlen := ok.out.len
  obtain ⟨B, an, cn, ao, co, ac, cc, a, c, b, d, aS, cS, aO, cO, hS, hh, ho, hw⟩ := h
  have hc := hS.cells
  have hdl := hw.1
  obtain ⟨sn, b1, o1, a1, c1, hsn, hsn1, hsn2, rfl, hc1, hs1⟩ := ok.out.row hh i
  have hal := (ok.out.ax i).1
  obtain ⟨bs, os, st, rfl, hsc, hsg, -⟩ := hS.states.at_int (j := i) (by rw [Sj.sts_len]; omega)
  obtain rfl : st = ((sn : Nat) : Int) := by have h1 := hsg.out; rw [Sj.sts_get (by omega)] at h1; rw [← hsn]; simpa using h1.symm
  have his : i < x.w.length + 1 := by omega
  have hisI : ((i : Nat) : Int) < ((x.w.length : Nat) : Int) + 1 := by omega
  obtain ⟨bw, ow, xa, rfl, hxc, hxa, -⟩ := hw.at_int hi
  have hxr := ok.out.w xa (List.mem_of_getElem? hxa.out)
  obtain ⟨xn, rfl⟩ := Int.eq_ofNat_of_zero_le hxr.1
  have hog := Sj.own_get hxa.out
  rw [hsn, Int.toNat_natCast, Int.toNat_natCast] at hog
  obtain ⟨yy, hyy⟩ : ∃ yy, yy = x.h.m.ot sn xn := ⟨_, rfl⟩
  rw [← hyy] at hog
  have hol : (x.h.m.outsW x.h.m.start x.w).length = x.w.length := Mach.outsW_len _ _ _
  obtain ⟨bq, oq, y', rfl, hoc, hoy, -⟩ := hS.outs.at_int (j := i) (by rw [hol]; exact hi)
  obtain rfl : y' = yy := by have h1 := hoy.out; rw [hog] at h1; simpa using h1.symm
  have hiw := hi
  obtain ⟨b2, hb2⟩ : ∃ b2, b2 = dA (some ⟨bw, ow, none⟩) d (i + 1) := ⟨_, rfl⟩
  have hdb : (if d = i + 1 then some (⟨bw, ow, none⟩ : Addr) else some ⟨bw, ow + (i + 1), none⟩) = b2 := by rw [hb2]; simp [dA, Addr.add]
  have HE := Lib.hid (hw.drop (i := i + 1) (by omega))
  rw [← hb2] at HE
  have hi1 : i + 1 ≤ d := by omega
  have hi1l : i + 1 ≤ x.w.length := by omega
  have hwr : IntKind.i64.wrap ((i : Int) + 1) = (i : Int) + 1 := IntWalk.i64_in _ (by omega)
  have hi3 : (i : Int) + 1 ≤ ((x.w.length : Nat) : Int) := by omega
  have hi4 : 0 ≤ (i : Int) + 1 := by omega
  have HS1 := Lib.hid hs1
  have HXA := Lib.hid hxa
  have HST := Lib.hid hsn
  have HYY := Lib.hid hyy
  have hg1 := lt_of_cell hc1
  have hg2 := lt_of_cell hsc
  have hg3 := lt_of_cell hxc
  have hg4 := lt_of_cell hoc
  have HKS : Hid (∀ w', Below w.heap.size w w' → (H5 w' g an cn ao co (some ⟨b1, o1, none⟩) cc x.h ∧ w'.cell? ⟨g, 7, none⟩ = some (.slice (some ⟨bw, ow, none⟩) x.w.length d) ∧ w'.cell? ⟨g, 8, none⟩ = some (.slice (some ⟨bs, os, none⟩) (x.w.length + 1) cS) ∧ w'.cell? ⟨bs, os + i, none⟩ = some (.int .i64 ((sn : Nat) : Int)) ∧ w'.cell? ⟨b1, o1 + sn, none⟩ = some (.slice a1 (x.ax i).length c1) ∧ w'.cell? ⟨bw, ow + i, none⟩ = some (.int .i64 ((xn : Nat) : Int)))) := fun w' hb =>
    ⟨hc.1.below hb hg, (hb.cell (p := ⟨g, 7, none⟩) hg).trans hc.2.2.2.1, (hb.cell (p := ⟨g, 8, none⟩) hg).trans hc.2.2.2.2.1, (hb.cell (p := ⟨bs, os + i, none⟩) hg2).trans hsc, (hb.cell (p := ⟨b1, o1 + sn, none⟩) hg1).trans hc1, (hb.cell (p := ⟨bw, ow + i, none⟩) hg3).trans hxc⟩
  have HKO : Hid (∀ w', Below w.heap.size w w' → w'.cell? ⟨g, 9, none⟩ = some (.slice (some ⟨bq, oq, none⟩) x.w.length cO) ∧ w'.cell? ⟨bq, oq + i, none⟩ = some (.int .i64 y')) := fun w' hb => ⟨(hb.cell (p := ⟨g, 9, none⟩) hg).trans hc.2.2.2.2.2, (hb.cell (p := ⟨bq, oq + i, none⟩) hg4).trans hoc⟩
  have hB0 := (Below.refl w.heap.size w).alloc (Nat.le_refl _) zeS
  have hr0 := heap_alloc_new w zeS
  have HR := Lib.hid hr0
  have hz0 : w.heap.size + 1 ≤ (w.alloc zeS).heap.size := by simp
  clear hh ho hw hS hsn hsg hs1 hc hc1 hsc hxc hoc hxr hog hoy hol hb2 hyy hr0 hxa
  go_enter Try.func62, Try.ntmps62
  go_wp2
  refine wp_region_L (fun w' => w'.cell? ⟨g, 9, none⟩ = some (.slice (some ⟨bq, oq, none⟩) x.w.length cO) ∧ w'.cell? ⟨bq, oq + i, none⟩ = some (.int .i64 y')) [0, 1, 5, 6, 7, 8, 9, 10, 11] (by kernel_rfl) ?_
  generalize w.alloc zeS = w0 at *
  have hBd := hB0.drew
  have hSd := HKO.out _ hBd
  have HC := Lib.hid (rest_any (HSb.out.later hBd) ok hl i (by omega) hk)
  have hzd : w.heap.size + 1 ≤ w0.drew.heap.size := hz0
  have HR : Hid (w0.drew.heap[w.heap.size]? = some zeS) := HR.out
  clear hB0 hz0
  generalize hgw : w0.drew = w1 at *
  clear hgw
  refine wpAnyL_take (i := 0) (v := ?v1) rfl (by kernel_rfl) (by kernel_rfl) (by kernel_rfl) (by kernel_rfl) (fun _ _ _ h => h) (Or.inl ⟨by rfl, ?y1⟩) (by assumption) ?r1
  case y1 => (intro w' hSw; (try dsimp only at hSw); go_simp; try with_reducible rfl)
  try simp only [Act.put, List.setIfInBounds_toArray, List.set_cons_zero, List.set_cons_succ]
  refine wpAnyL_take (i := 1) (v := ?v2) rfl (by kernel_rfl) (by kernel_rfl) (by kernel_rfl) (by kernel_rfl) (fun _ _ _ h => h) (Or.inl ⟨by rfl, ?y2⟩) (by assumption) ?r2
  case y2 => (intro w' hSw; (try dsimp only at hSw); go_simp; try with_reducible rfl)
  try simp only [Act.put, List.setIfInBounds_toArray, List.set_cons_zero, List.set_cons_succ]
  refine wpAnyL_take (i := 5) (v := ?v3) rfl (by kernel_rfl) (by kernel_rfl) (by kernel_rfl) (by kernel_rfl) (fun _ _ _ h => h) (Or.inl ⟨by rfl, ?y3⟩) (by assumption) ?r3
  case y3 => (intro w' hSw; (try dsimp only at hSw); go_simp; try with_reducible rfl)
  try simp only [Act.put, List.setIfInBounds_toArray, List.set_cons_zero, List.set_cons_succ]
  refine wpAnyL_take (i := 6) (v := ?v4) rfl (by kernel_rfl) (by kernel_rfl) (by kernel_rfl) (by kernel_rfl) (fun _ _ _ h => h) (Or.inl ⟨by rfl, ?y4⟩) (by assumption) ?r4
  case y4 => (intro w' hSw; (try dsimp only at hSw); go_simp; try with_reducible rfl)
  try simp only [Act.put, List.setIfInBounds_toArray, List.set_cons_zero, List.set_cons_succ]
  refine wpAnyL_take (i := 7) (v := ?v5) rfl (by kernel_rfl) (by kernel_rfl) (by kernel_rfl) (by kernel_rfl) (fun _ _ _ h => h) (Or.inl ⟨by rfl, ?y5⟩) (by assumption) ?r5
  case y5 => (intro w' hSw; (try dsimp only at hSw); go_simp; try with_reducible rfl)
  try simp only [Act.put, List.setIfInBounds_toArray, List.set_cons_zero, List.set_cons_succ]
  refine wpAnyL_take (i := 8) (v := ?v6) rfl (by kernel_rfl) (by kernel_rfl) (by kernel_rfl) (by kernel_rfl) (fun _ _ _ h => h) (Or.inl ⟨by rfl, ?y6⟩) (by assumption) ?r6
  case y6 => (intro w' hSw; (try dsimp only at hSw); go_simp; try with_reducible rfl)
  try simp only [Act.put, List.setIfInBounds_toArray, List.set_cons_zero, List.set_cons_succ]
  refine wpAnyL_take (i := 9) (v := ?v7) rfl (by kernel_rfl) (by kernel_rfl) (by kernel_rfl) (by kernel_rfl) (fun _ _ _ h => h) (Or.inl ⟨by rfl, ?y7⟩) (by assumption) ?r7
  case y7 => (intro w' hSw; (try dsimp only at hSw); go_simp; try with_reducible rfl)
  try simp only [Act.put, List.setIfInBounds_toArray, List.set_cons_zero, List.set_cons_succ]
  refine wpAnyL_take (i := 10) (v := ?v8) rfl (by kernel_rfl) (by kernel_rfl) (by kernel_rfl) (by kernel_rfl) (fun _ _ _ h => h) (Or.inl ⟨by rfl, ?y8⟩) (by assumption) ?r8
  case y8 => (intro w' hSw; (try dsimp only at hSw); go_simp; try with_reducible rfl)
  try simp only [Act.put, List.setIfInBounds_toArray, List.set_cons_zero, List.set_cons_succ]
  refine wpAnyL_take (i := 11) (v := ?v9) rfl (by kernel_rfl) (by kernel_rfl) (by kernel_rfl) (by kernel_rfl) (fun _ _ _ h => h) (Or.inl ⟨by rfl, ?y9⟩) (by assumption) ?r9
  case y9 => (intro w' hSw; (try dsimp only at hSw); go_simp; try with_reducible rfl)
  try simp only [Act.put, List.setIfInBounds_toArray, List.set_cons_zero, List.set_cons_succ]
  refine wpAnyL_one (i := 2) (by kernel_rfl) rfl rfl (fun K hK => ?_)
  go_simp
  refine (HC.out).mono ?_
  rintro e w2 ⟨a2, c2, l2, rfl, hl2, hs2, hb2⟩
  have hB2 := hBd.trans (hb2.mono (by omega))
  have hS2 := HKO.out _ hB2
  have hz2 : w.heap.size + 1 ≤ w2.heap.size := by have := hb2.size; omega
  have HR := Lib.hid ((hb2.block _ (by omega)).trans HR.out)
  have HN2 : Hid (l2.length = x.w.length - i) := by unfold Hid; rw [hl2.out, List.length_drop, Sj.ans_len hl.out hk.out, x.q_len i]; omega
  have hl20 : 0 < l2.length := by rw [HN2.out]; omega
  obtain ⟨b5, o5, y5, rfl, hyc5, hy5, -⟩ := hs2.at_int hl20
  have hl2l := hs2.le
  have hyc5' : w2.cell? ⟨b5, o5, none⟩ = some (.int .i64 y5) := hyc5
  have hsure : Hid (x.sure i = (y5 == y')) := by
    unfold Hid Sj.sure
    rw [HST.out, Int.toNat_natCast, getD_of_some HXA.out.out, Int.toNat_natCast, ← HYY.out]
    have h5 := hy5.out
    rw [hl2.out, List.getElem?_drop, Nat.add_zero] at h5
    rw [getD_of_some h5]
    by_cases e : y5 = y' <;> simp [e]
  refine hK _ _ (fun _ => hS2) ?_
  clear hK K HC hBd hSd hzd hb2 hs2
  refine wpAnyL_one (i := 3) (by kernel_rfl) rfl rfl (fun K hK => ?_)
  go_simp
  refine hK _ _ (fun _ => hS2) ?_
  clear hK K
  refine wpAnyL_one (i := 4) (by kernel_rfl) rfl rfl (fun K hK => ?_)
  go_simp
  refine hK _ _ (fun _ => hS2) ?_
  clear hK K
  refine wpAnyL_one (i := 12) (by kernel_rfl) rfl rfl (fun K hK => ?_)
  go_simp
  refine hK _ _ (fun _ => hS2) ?_
  clear hK K
  refine wpAnyL_done (by kernel_rfl) ?_ _
  clear hS2 hyc5 hyc5'
  cases hsu : x.sure i with
  | false =>
    have hne : (y5 != y') = true := by have := hsure.out; rw [hsu] at this; simp [bne, ← this]
    have HF := Lib.hid (Sj.spl_no hsu)
    clear hsu
    have hR2 := HR.out
    obtain ⟨⟨k0, k1, k2⟩, kf⟩ := cells3 hR2
    have hR7 := Lib.hid (set3 (y0 := .slice none 0 0) (y1 := .int .i64 0) (y2 := .slice none 0 0) hR2)
    have hB7 := Lib.hid (bel_st3 hB2 (g := w.heap.size) (y0 := .slice none 0 0) (y1 := .int .i64 0) (y2 := .slice none 0 0) (Nat.le_refl _))
    clear hR2 hB2
    go_wp2
    obtain ⟨⟨q0, q1, q2⟩, -⟩ := cells3 hR7.out
    refine bodyPost_ret (v := .tuple #[.agg #[.slice none 0 0, .int .i64 0, .slice none 0 0], .slice none 0 0, .int .i64 15]) (by simp [results, Try.results62, go_sem, q0, q1, q2]) rfl ⟨⟨none, 0, [], none, 0, [], 0, none, 0, [], 15, rfl, ?_, snil _ _ _, snil _ _ _, snil _ _ _⟩, hB7.out⟩
    unfold Hid Sj.spl; rw [HF.out.1, HF.out.2]; rfl
  | true =>
    have hne : (y5 != y') = false := by have := hsure.out; rw [hsu] at this; simp [bne, ← this]
    have HF := Lib.hid (Sj.spl_yes hsu)
    clear hsu
    go_wp2
    refine wp_region_T (fun w' => H5 w' g an cn ao co (some ⟨b1, o1, none⟩) cc x.h ∧ w'.cell? ⟨g, 7, none⟩ = some (.slice (some ⟨bw, ow, none⟩) x.w.length d) ∧ w'.cell? ⟨g, 8, none⟩ = some (.slice (some ⟨bs, os, none⟩) (x.w.length + 1) cS) ∧ w'.cell? ⟨bs, os + i, none⟩ = some (.int .i64 ((sn : Nat) : Int)) ∧ w'.cell? ⟨b1, o1 + sn, none⟩ = some (.slice a1 (x.ax i).length c1) ∧ w'.cell? ⟨bw, ow + i, none⟩ = some (.int .i64 ((xn : Nat) : Int))) [0, 1, 2, 3, 4, 5, 6, 7, 8, 9, 10, 11, 12, 13, 15, 16, 17, 18, 19, 20, 21, 22, 23, 24, 25, 26, 27, 28] (by kernel_rfl) ?_
    have hBd := hB2.drew
    have hSd := HKS.out _ hBd
    have hzd : w.heap.size + 1 ≤ w2.drew.heap.size := hz2
    have HR : Hid (w2.drew.heap[w.heap.size]? = some zeS) := HR.out
    clear hB2 hz2
    generalize hgw : w2.drew = w3 at *
    clear hgw
    refine wpAnyT_take (i := 0) (v := ?v10) rfl (by kernel_rfl) (by kernel_rfl) (by kernel_rfl) (by kernel_rfl) (by kernel_rfl) (fun _ _ _ h => h) (Or.inl ⟨by rfl, ?y10⟩) (by assumption) ?r10
    case y10 => (intro w' hSw; (try dsimp only at hSw); go_simp; try with_reducible rfl)
    try simp only [Act.put, List.setIfInBounds_toArray, List.set_cons_zero, List.set_cons_succ]
    refine wpAnyT_take (i := 1) (v := ?v11) rfl (by kernel_rfl) (by kernel_rfl) (by kernel_rfl) (by kernel_rfl) (by kernel_rfl) (fun _ _ _ h => h) (Or.inl ⟨by rfl, ?y11⟩) (by assumption) ?r11
    case y11 => (intro w' hSw; (try dsimp only at hSw); go_simp; try with_reducible rfl)
    try simp only [Act.put, List.setIfInBounds_toArray, List.set_cons_zero, List.set_cons_succ]
    refine wpAnyT_take (i := 2) (v := ?v12) rfl (by kernel_rfl) (by kernel_rfl) (by kernel_rfl) (by kernel_rfl) (by kernel_rfl) (fun _ _ _ h => h) (Or.inl ⟨by rfl, ?y12⟩) (by assumption) ?r12
    case y12 => (intro w' hSw; (try dsimp only at hSw); go_simp; try with_reducible rfl)
    try simp only [Act.put, List.setIfInBounds_toArray, List.set_cons_zero, List.set_cons_succ]
    refine wpAnyT_take (i := 3) (v := ?v13) rfl (by kernel_rfl) (by kernel_rfl) (by kernel_rfl) (by kernel_rfl) (by kernel_rfl) (fun _ _ _ h => h) (Or.inl ⟨by rfl, ?y13⟩) (by assumption) ?r13
    case y13 => (intro w' hSw; (try dsimp only at hSw); go_simp; try with_reducible rfl)
    try simp only [Act.put, List.setIfInBounds_toArray, List.set_cons_zero, List.set_cons_succ]
    refine wpAnyT_take (i := 4) (v := ?v14) rfl (by kernel_rfl) (by kernel_rfl) (by kernel_rfl) (by kernel_rfl) (by kernel_rfl) (fun _ _ _ h => h) (Or.inl ⟨by rfl, ?y14⟩) (by assumption) ?r14
    case y14 => (intro w' hSw; (try dsimp only at hSw); go_simp; try with_reducible rfl)
    try simp only [Act.put, List.setIfInBounds_toArray, List.set_cons_zero, List.set_cons_succ]
    refine wpAnyT_take (i := 5) (v := ?v15) rfl (by kernel_rfl) (by kernel_rfl) (by kernel_rfl) (by kernel_rfl) (by kernel_rfl) (fun _ _ _ h => h) (Or.inl ⟨by rfl, ?y15⟩) (by assumption) ?r15
    case y15 => (intro w' hSw; (try dsimp only at hSw); go_simp; try with_reducible rfl)
    try simp only [Act.put, List.setIfInBounds_toArray, List.set_cons_zero, List.set_cons_succ]
    refine wpAnyT_take (i := 6) (v := ?v16) rfl (by kernel_rfl) (by kernel_rfl) (by kernel_rfl) (by kernel_rfl) (by kernel_rfl) (fun _ _ _ h => h) (Or.inl ⟨by rfl, ?y16⟩) (by assumption) ?r16
    case y16 => (intro w' hSw; (try dsimp only at hSw); go_simp; try with_reducible rfl)
    try simp only [Act.put, List.setIfInBounds_toArray, List.set_cons_zero, List.set_cons_succ]
    refine wpAnyT_take (i := 7) (v := ?v17) rfl (by kernel_rfl) (by kernel_rfl) (by kernel_rfl) (by kernel_rfl) (by kernel_rfl) (fun _ _ _ h => h) (Or.inl ⟨by rfl, ?y17⟩) (by assumption) ?r17
    case y17 => (intro w' hSw; (try dsimp only at hSw); go_simp; try with_reducible rfl)
    try simp only [Act.put, List.setIfInBounds_toArray, List.set_cons_zero, List.set_cons_succ]
    refine wpAnyT_take (i := 8) (v := ?v18) rfl (by kernel_rfl) (by kernel_rfl) (by kernel_rfl) (by kernel_rfl) (by kernel_rfl) (fun _ _ _ h => h) (Or.inl ⟨by rfl, ?y18⟩) (by assumption) ?r18
    case y18 => (intro w' hSw; (try dsimp only at hSw); go_simp; try with_reducible rfl)
    try simp only [Act.put, List.setIfInBounds_toArray, List.set_cons_zero, List.set_cons_succ]
    refine wpAnyT_take (i := 9) (v := ?v19) rfl (by kernel_rfl) (by kernel_rfl) (by kernel_rfl) (by kernel_rfl) (by kernel_rfl) (fun _ _ _ h => h) (Or.inl ⟨by rfl, ?y19⟩) (by assumption) ?r19
    case y19 => (intro w' hSw; (try dsimp only at hSw); go_simp; try with_reducible rfl)
    try simp only [Act.put, List.setIfInBounds_toArray, List.set_cons_zero, List.set_cons_succ]
    refine wpAnyT_take (i := 10) (v := ?v20) rfl (by kernel_rfl) (by kernel_rfl) (by kernel_rfl) (by kernel_rfl) (by kernel_rfl) (fun _ _ _ h => h) (Or.inl ⟨by rfl, ?y20⟩) (by assumption) ?r20
    case y20 => (intro w' hSw; (try dsimp only at hSw); go_simp; try with_reducible rfl)
    try simp only [Act.put, List.setIfInBounds_toArray, List.set_cons_zero, List.set_cons_succ]
    refine wpAnyT_take (i := 11) (v := ?v21) rfl (by kernel_rfl) (by kernel_rfl) (by kernel_rfl) (by kernel_rfl) (by kernel_rfl) (fun _ _ _ h => h) (Or.inl ⟨by rfl, ?y21⟩) (by assumption) ?r21
    case y21 => (intro w' hSw; (try dsimp only at hSw); go_simp; try with_reducible rfl)
    try simp only [Act.put, List.setIfInBounds_toArray, List.set_cons_zero, List.set_cons_succ]
    refine wpAnyT_take (i := 12) (v := ?v22) rfl (by kernel_rfl) (by kernel_rfl) (by kernel_rfl) (by kernel_rfl) (by kernel_rfl) (fun _ _ _ h => h) (Or.inl ⟨by rfl, ?y22⟩) (by assumption) ?r22
    case y22 => (intro w' hSw; (try dsimp only at hSw); go_simp; try with_reducible rfl)
    try simp only [Act.put, List.setIfInBounds_toArray, List.set_cons_zero, List.set_cons_succ]
    refine wpAnyT_take (i := 13) (v := ?v23) rfl (by kernel_rfl) (by kernel_rfl) (by kernel_rfl) (by kernel_rfl) (by kernel_rfl) (fun _ _ _ h => h) (Or.inl ⟨by rfl, ?y23⟩) (by assumption) ?r23
    case y23 => (intro w' hSw; (try dsimp only at hSw); go_simp; try with_reducible rfl)
    try simp only [Act.put, List.setIfInBounds_toArray, List.set_cons_zero, List.set_cons_succ]
    refine wpAnyT_take (i := 15) (v := ?v24) rfl (by kernel_rfl) (by kernel_rfl) (by kernel_rfl) (by kernel_rfl) (by kernel_rfl) (fun _ _ _ h => h) (Or.inl ⟨by rfl, ?y24⟩) (by assumption) ?r24
    case y24 => (intro w' hSw; (try dsimp only at hSw); go_simp; try with_reducible rfl)
    try simp only [Act.put, List.setIfInBounds_toArray, List.set_cons_zero, List.set_cons_succ]
    refine wpAnyT_take (i := 16) (v := ?v25) rfl (by kernel_rfl) (by kernel_rfl) (by kernel_rfl) (by kernel_rfl) (by kernel_rfl) (fun _ _ _ h => h) (Or.inl ⟨by rfl, ?y25⟩) (by assumption) ?r25
    case y25 => (intro w' hSw; (try dsimp only at hSw); go_simp; try with_reducible rfl)
    try simp only [Act.put, List.setIfInBounds_toArray, List.set_cons_zero, List.set_cons_succ]
    refine wpAnyT_take (i := 17) (v := ?v26) rfl (by kernel_rfl) (by kernel_rfl) (by kernel_rfl) (by kernel_rfl) (by kernel_rfl) (fun _ _ _ h => h) (Or.inl ⟨by rfl, ?y26⟩) (by assumption) ?r26
    case y26 => (intro w' hSw; (try dsimp only at hSw); go_simp; try with_reducible rfl)
    try simp only [Act.put, List.setIfInBounds_toArray, List.set_cons_zero, List.set_cons_succ]
    refine wpAnyT_take (i := 18) (v := ?v27) rfl (by kernel_rfl) (by kernel_rfl) (by kernel_rfl) (by kernel_rfl) (by kernel_rfl) (fun _ _ _ h => h) (Or.inl ⟨by rfl, ?y27⟩) (by assumption) ?r27
    case y27 => (intro w' hSw; (try dsimp only at hSw); go_simp; try with_reducible rfl)
    try simp only [Act.put, List.setIfInBounds_toArray, List.set_cons_zero, List.set_cons_succ]
    refine wpAnyT_take (i := 19) (v := ?v28) rfl (by kernel_rfl) (by kernel_rfl) (by kernel_rfl) (by kernel_rfl) (by kernel_rfl) (fun _ _ _ h => h) (Or.inl ⟨by rfl, ?y28⟩) (by assumption) ?r28
    case y28 => (intro w' hSw; (try dsimp only at hSw); go_simp; try with_reducible rfl)
    try simp only [Act.put, List.setIfInBounds_toArray, List.set_cons_zero, List.set_cons_succ]
    refine wpAnyT_take (i := 20) (v := ?v29) rfl (by kernel_rfl) (by kernel_rfl) (by kernel_rfl) (by kernel_rfl) (by kernel_rfl) (fun _ _ _ h => h) (Or.inl ⟨by rfl, ?y29⟩) (by assumption) ?r29
    case y29 => (intro w' hSw; (try dsimp only at hSw); go_simp; try with_reducible rfl)
    try simp only [Act.put, List.setIfInBounds_toArray, List.set_cons_zero, List.set_cons_succ]
    refine wpAnyT_take (i := 21) (v := ?v30) rfl (by kernel_rfl) (by kernel_rfl) (by kernel_rfl) (by kernel_rfl) (by kernel_rfl) (fun _ _ _ h => h) (Or.inl ⟨by rfl, ?y30⟩) (by assumption) ?r30
    case y30 => (intro w' hSw; (try dsimp only at hSw); go_simp; try with_reducible rfl)
    try simp only [Act.put, List.setIfInBounds_toArray, List.set_cons_zero, List.set_cons_succ]
    refine wpAnyT_take (i := 22) (v := ?v31) rfl (by kernel_rfl) (by kernel_rfl) (by kernel_rfl) (by kernel_rfl) (by kernel_rfl) (fun _ _ _ h => h) (Or.inl ⟨by rfl, ?y31⟩) (by assumption) ?r31
    case y31 => (intro w' hSw; (try dsimp only at hSw); go_simp; try with_reducible rfl)
    try simp only [Act.put, List.setIfInBounds_toArray, List.set_cons_zero, List.set_cons_succ]
    refine wpAnyT_take (i := 23) (v := ?v32) rfl (by kernel_rfl) (by kernel_rfl) (by kernel_rfl) (by kernel_rfl) (by kernel_rfl) (fun _ _ _ h => h) (Or.inl ⟨by rfl, ?y32⟩) (by assumption) ?r32
    case y32 => (intro w' hSw; (try dsimp only at hSw); go_simp; try with_reducible rfl)
    try simp only [Act.put, List.setIfInBounds_toArray, List.set_cons_zero, List.set_cons_succ]
    refine wpAnyT_take (i := 24) (v := ?v33) rfl (by kernel_rfl) (by kernel_rfl) (by kernel_rfl) (by kernel_rfl) (by kernel_rfl) (fun _ _ _ h => h) (Or.inl ⟨by rfl, ?y33⟩) (by assumption) ?r33
    case y33 => (intro w' hSw; (try dsimp only at hSw); go_simp; try with_reducible rfl)
    try simp only [Act.put, List.setIfInBounds_toArray, List.set_cons_zero, List.set_cons_succ]
    refine wpAnyT_take (i := 25) (v := ?v34) rfl (by kernel_rfl) (by kernel_rfl) (by kernel_rfl) (by kernel_rfl) (by kernel_rfl) (fun _ _ _ h => h) (Or.inl ⟨by rfl, ?y34⟩) (by assumption) ?r34
    case y34 => (intro w' hSw; (try dsimp only at hSw); go_simp; try with_reducible rfl)
    try simp only [Act.put, List.setIfInBounds_toArray, List.set_cons_zero, List.set_cons_succ]
    refine wpAnyT_take (i := 26) (v := ?v35) rfl (by kernel_rfl) (by kernel_rfl) (by kernel_rfl) (by kernel_rfl) (by kernel_rfl) (fun _ _ _ h => h) (Or.inl ⟨by rfl, ?y35⟩) (by assumption) ?r35
    case y35 => (intro w' hSw; (try dsimp only at hSw); go_simp; try with_reducible rfl)
    try simp only [Act.put, List.setIfInBounds_toArray, List.set_cons_zero, List.set_cons_succ]
    refine wpAnyT_take (i := 27) (v := ?v36) rfl (by kernel_rfl) (by kernel_rfl) (by kernel_rfl) (by kernel_rfl) (by kernel_rfl) (fun _ _ _ h => h) (Or.inl ⟨by rfl, ?y36⟩) (by assumption) ?r36
    case y36 => (intro w' hSw; (try dsimp only at hSw); go_simp; try with_reducible rfl)
    try simp only [Act.put, List.setIfInBounds_toArray, List.set_cons_zero, List.set_cons_succ]
    refine wpAnyT_take (i := 28) (v := ?v37) rfl (by kernel_rfl) (by kernel_rfl) (by kernel_rfl) (by kernel_rfl) (by kernel_rfl) (fun _ _ _ h => h) (Or.inl ⟨by rfl, ?y37⟩) (by assumption) ?r37
    case y37 => (intro w' hSw; (try dsimp only at hSw); go_simp; try with_reducible rfl)
    try simp only [Act.put, List.setIfInBounds_toArray, List.set_cons_zero, List.set_cons_succ]
    refine wpAnyT_one (i := 14) (by kernel_rfl) rfl rfl (fun K hK => ?_)
    go_simp
    refine (clone_any (HS1.out.below hBd) (by omega)).mono ?_
    rintro e w4 ⟨aA, cA, lA, rfl, hlA, hsA, hb4⟩
    have hB4 := hBd.trans (hb4.mono (by omega))
    have hz4 : w.heap.size + 1 ≤ w4.heap.size := by have := hb4.size; omega
    have HR := Lib.hid ((hb4.block _ (by omega)).trans HR.out)
    have hS4 := HKS.out _ hB4
    have hsA := hsA.anti (M' := fun k => k < w.heap.size + 1) (fun k _ hk => by omega)
    have HC := clone_any (HE.out.below hB4) (by simp; omega)
    rw [List.length_drop] at HC
    have HC := Lib.hid HC
    refine hK _ _ (fun _ => hS4) ?_
    clear hK K hSd hBd hzd
    refine wpAnyT_one (i := 29) (by kernel_rfl) rfl rfl (fun K hK => ?_)
    go_simp
    refine (HC.out).mono ?_
    rintro e w5 ⟨aB, cB, lB, rfl, hlB, hsB, hb5⟩
    have hB5 := hB4.trans (hb5.mono (by omega))
    have hz5 : w.heap.size + 1 ≤ w5.heap.size := by have := hb5.size; omega
    have hR5 := (hb5.block _ (by omega)).trans HR.out
    have hS5 := HKS.out _ hB5
    have hsB := hsB.anti (M' := fun k => k < w.heap.size + 1) (fun k _ hk => by omega)
    have hsA := hsA.below hb5
    have HP1 := Lib.hid (hsA.st3 (g := w.heap.size) (n := w.heap.size) (y0 := .slice aA lA.length cA) (y1 := .int .i64 ((xn : Nat) : Int)) (y2 := .slice aB lB.length cB) (by omega) (by omega))
    have HP2 := Lib.hid (hsB.st3 (g := w.heap.size) (n := w.heap.size) (y0 := .slice aA lA.length cA) (y1 := .int .i64 ((xn : Nat) : Int)) (y2 := .slice aB lB.length cB) (by omega) (by omega))
    have HR6 := Lib.hid (set3 (y0 := .slice aA lA.length cA) (y1 := .int .i64 ((xn : Nat) : Int)) (y2 := .slice aB lB.length cB) hR5)
    have HB6 := Lib.hid (bel_st3 hB5 (g := w.heap.size) (y0 := .slice aA lA.length cA) (y1 := .int .i64 ((xn : Nat) : Int)) (y2 := .slice aB lB.length cB) (Nat.le_refl _))
    obtain ⟨⟨k0, k1, k2⟩, kf⟩ := cells3 hR5
    refine hK _ _ (fun _ => hS5) ?_
    clear hK K hsA hsB hR5 hB5 hB4 hS4 hb4 hb5 HC
    refine wpAnyT_one (i := 30) (by kernel_rfl) rfl rfl (fun K hK => ?_)
    go_simp
    refine hK _ _ (fun _ => hS5) ?_
    clear hK K
    refine wpAnyT_late (i := 31) (by kernel_rfl) (by kernel_rfl) rfl rfl (fun K hK => ?_)
    go_simp
    refine hK _ _ ?_
    clear hK K hS5 k0 k1 k2 kf
    refine wpAnyT_late (i := 32) (by kernel_rfl) (by kernel_rfl) rfl rfl (fun K hK => ?_)
    go_simp
    refine hK _ _ ?_
    clear hK K
    refine wpAnyT_late (i := 33) (by kernel_rfl) (by kernel_rfl) rfl rfl (fun K hK => ?_)
    go_simp
    refine hK _ _ ?_
    clear hK K
    refine wpAnyT_done (by kernel_rfl) ?_ _
    obtain ⟨⟨q0, q1, q2⟩, -⟩ := cells3 HR6.out
    go_wp2
    refine bodyPost_ret (v := .tuple #[.agg #[.slice aA lA.length cA, .int .i64 ((xn : Nat) : Int), .slice aB lB.length cB], .slice none 0 0, .int .i64 0]) (by simp [results, Try.results62, go_sem, q0, q1, q2]) rfl ⟨⟨aA, cA, lA, aB, cB, lB, ((xn : Nat) : Int), none, 0, [], 0, rfl, ?_, HP1.out, HP2.out, snil _ _ _⟩, HB6.out⟩
    unfold Hid Sj.spl; rw [HF.out.1, HF.out.2, hlA.out, hlB.out, getD_of_some HXA.out.out]
end
end Go.Proofs.Ytlgdijgfphedpaa
