/- The reference's split of a break. Condition where named: the hypothesis is valid, the position is known. -/
import Derived.Test.YtlgdijgfphedpaaAnaR
import Derived.IntWalk
namespace Go.Proofs.Ytlgdijgfphedpaa
open Go.RowKit
section
variable {M M' M'' : Nat → Prop} {w : World} {an ao ac a b : Option Addr} {cn co cc c d : Nat} {x : Sj}
theorem Sj.spl_yes {i : Nat} (h : x.sure i = true) : x.splS i = ⟨x.ax i, x.w.getD i 0, x.w.drop (i + 1)⟩ ∧ x.splE i = 0 := by unfold Sj.splS Sj.splE; simp [h]
theorem Sj.spl_no {i : Nat} (h : x.sure i = false) : x.splS i = Sj.noS ∧ x.splE i = 15 := by unfold Sj.splS Sj.splE; simp [h]
/-- The object of a split that is not yet made. -/
abbrev zeS : Obj := .cells #[.slice none 0 0, .int .i64 0, .slice none 0 0] 35
/-- A split in a result. -/
abbrev SpR (w w' : World) (s : Sp) (p : Value → Prop) : Prop := ∃ (a1 : Option Addr) (c1 : Nat) (l1 : List Int) (a2 : Option Addr) (c2 : Nat) (l2 : List Int) (sy : Int), p (.agg #[.slice a1 l1.length c1, .int .i64 sy, .slice a2 l2.length c2]) ∧ Hid (s = ⟨l1, sy, l2⟩) ∧
  Sl (fun k => k < w.heap.size) w' a1 c1 l1 ∧ Sl (fun k => k < w.heap.size) w' a2 c2 l2
set_option maxRecDepth 100000 in
set_option maxHeartbeats 4000000 in
theorem splitR_any (hh : Hp M w an cn ao co ac cc x.h) (ho : Os M' w a c x.o) (hw : Sl M'' w b d x.w) (ok : Hid x.Ok) (hl : Hid x.o.lens) (i : Nat) (hi : i < x.w.length) (hk : Hid (x.o.known (x.q i) = true)) :
    Calls Try.prog 39 #[hyV x.h an cn ao co ac cc, obV x.o a c, .slice b x.w.length d, .int .i64 i] w fun e w' => SpR w w' (x.splS i) (fun v => e = .returned (.tuple #[v, .int .i64 (x.splE i)])) ∧ Below w.heap.size w w' := by
  have hB0 := (((Below.refl w.heap.size w).alloc (Nat.le_refl _) (hyO x.h an cn ao co ac cc)).alloc (by simp) (obO x.o a c)).alloc (by simp; omega) (zeS)
  have hb3 := ((Below.refl (w.heap.size + 1) (w.alloc (hyO x.h an cn ao co ac cc))).alloc (by simp) (obO x.o a c)).alloc (by simp) (zeS)
  have hx0 : H5 (((w.alloc (hyO x.h an cn ao co ac cc)).alloc (obO x.o a c)).alloc (zeS)) w.heap.size an cn ao co ac cc x.h := (h5_new w).below hb3 (by omega)
  have hy0 : O2 (((w.alloc (hyO x.h an cn ao co ac cc)).alloc (obO x.o a c)).alloc (zeS)) (w.heap.size + 1) a c x.o := by
    have k := o2_new (o := x.o) (a := a) (c := c) (w.alloc (hyO x.h an cn ao co ac cc))
    have k2 : O2 ((w.alloc (hyO x.h an cn ao co ac cc)).alloc (obO x.o a c)) (w.heap.size + 1) a c x.o := by simpa using k
    exact k2.below (B := w.heap.size + 2) ((Below.refl _ _).alloc (by simp) _) (by omega)
  have hz0 : w.heap.size + 3 ≤ (((w.alloc (hyO x.h an cn ao co ac cc)).alloc (obO x.o a c)).alloc (zeS)).heap.size := by simp
  have hr0 : (((w.alloc (hyO x.h an cn ao co ac cc)).alloc (obO x.o a c)).alloc (zeS)).heap[w.heap.size + 1 + 1]? = some (zeS) := by
    have k := heap_alloc_new ((w.alloc (hyO x.h an cn ao co ac cc)).alloc (obO x.o a c)) (zeS)
    simpa using k
  have HR := Lib.hid hr0
  have HH := Lib.hid hh
  have HO := Lib.hid ho
  have HW := Lib.hid hw
  have hdl := hw.1
  have hdi : i ≤ d := by omega
  have hil : i ≤ x.w.length := by omega
  have hlen := ok.out.len
  have HC := Lib.hid (atR_any (HH.out.below hB0) (HW.out.below hB0) (Lib.hid ok.out.h) (Lib.hid ok.out.w) ok.out.len i (by omega))
  have hst := ok.out.st i
  obtain ⟨sn, b1, o1, a1, c1, hsn, hsn1, hsn2, rfl, hc1, hs1⟩ := ok.out.row HH.out i
  have hal := (ok.out.ax i).1
  have hac := hs1.1
  rw [hsn] at HC
  have HS := Lib.hid hs1
  have HST := Lib.hid hsn
  have hcl := lt_of_cell hc1
  obtain ⟨b', hb'⟩ : ∃ b', b' = dA b d i := ⟨_, rfl⟩
  have hda : (if d = i then b else Option.map (fun x => x.add i) b) = b' := by rw [hb']; rfl
  have HD := Lib.hid (HW.out.drop (i := i) (by omega))
  rw [← hb'] at HD
  clear hb'
  have HKc : Hid (∀ w', Below w.heap.size w w' → w'.cell? ⟨b1, o1 + sn, none⟩ = some (.slice a1 (x.ax i).length c1)) := fun w' hb => (hb.cell (p := ⟨b1, o1 + sn, none⟩) hcl).trans hc1
  clear hst hs1 hsn hc1 hr0 hb3 hh ho hw
  go_enter Try.func39, Try.ntmps39
  go_wp2_with fail
  generalize ((w.alloc (hyO x.h an cn ao co (some ⟨b1, o1, none⟩) cc)).alloc (obO x.o a c)).alloc (zeS) = w0 at *
  refine (HC.out).mono ?_
  rintro e w1 ⟨rfl, hb1⟩
  have hB1 := hB0.trans (hb1.mono (by omega))
  have hx1 := hx0.below hb1 (by omega)
  have hy1 := hy0.below hb1 (by omega)
  have hz1 : w.heap.size + 3 ≤ w1.heap.size := by have := hb1.size; omega
  have HR : Hid (w1.heap[w.heap.size + 1 + 1]? = some (zeS)) := (hb1.block _ (by omega)).trans HR.out
  clear HC hb1 hB0 hx0 hy0 hz0
  go_wp2
  refine wp_region_L (fun w' => H5 w' w.heap.size an cn ao co (some ⟨b1, o1, none⟩) cc x.h ∧ O2 w' (w.heap.size + 1) a c x.o ∧ w'.cell? ⟨b1, o1 + sn, none⟩ = some (.slice a1 (x.ax i).length c1)) [0, 1, 2, 3, 4, 5, 6, 7, 8, 12, 13, 14, 15, 16] (by kernel_rfl) ?_
  have hSd := And.intro (hx1.below (Below.refl w1.heap.size w1).drew (by omega)) (And.intro (hy1.below (Below.refl w1.heap.size w1).drew (by omega)) (HKc.out _ hB1.drew))
  have hBd := hB1.drew
  have hzd : w.heap.size + 3 ≤ w1.drew.heap.size := hz1
  have HR : Hid (w1.drew.heap[w.heap.size + 1 + 1]? = some (zeS)) := HR.out
  clear hx1 hy1 hB1 hz1
  generalize w1.drew = w2 at *
  refine wpAnyL_take (i := 0) (v := ?v1) rfl (by kernel_rfl) (by kernel_rfl) (by kernel_rfl) (by kernel_rfl) (fun _ _ _ h => h) (Or.inl ⟨by rfl, ?y1⟩) (by assumption) ?r1
  case y1 => (intro w' hSw; (try dsimp only at hSw); go_simp; try with_reducible rfl)
  try simp only [Act.put, List.setIfInBounds_toArray, List.set_cons_zero, List.set_cons_succ]
  refine wpAnyL_take (i := 1) (v := ?v2) rfl (by kernel_rfl) (by kernel_rfl) (by kernel_rfl) (by kernel_rfl) (fun _ _ _ h => h) (Or.inl ⟨by rfl, ?y2⟩) (by assumption) ?r2
  case y2 => (intro w' hSw; (try dsimp only at hSw); go_simp; try with_reducible rfl)
  try simp only [Act.put, List.setIfInBounds_toArray, List.set_cons_zero, List.set_cons_succ]
  refine wpAnyL_take (i := 2) (v := ?v3) rfl (by kernel_rfl) (by kernel_rfl) (by kernel_rfl) (by kernel_rfl) (fun _ _ _ h => h) (Or.inl ⟨by rfl, ?y3⟩) (by assumption) ?r3
  case y3 => (intro w' hSw; (try dsimp only at hSw); go_simp; try with_reducible rfl)
  try simp only [Act.put, List.setIfInBounds_toArray, List.set_cons_zero, List.set_cons_succ]
  refine wpAnyL_take (i := 3) (v := ?v4) rfl (by kernel_rfl) (by kernel_rfl) (by kernel_rfl) (by kernel_rfl) (fun _ _ _ h => h) (Or.inl ⟨by rfl, ?y4⟩) (by assumption) ?r4
  case y4 => (intro w' hSw; (try dsimp only at hSw); go_simp; try with_reducible rfl)
  try simp only [Act.put, List.setIfInBounds_toArray, List.set_cons_zero, List.set_cons_succ]
  refine wpAnyL_take (i := 4) (v := ?v5) rfl (by kernel_rfl) (by kernel_rfl) (by kernel_rfl) (by kernel_rfl) (fun _ _ _ h => h) (Or.inl ⟨by rfl, ?y5⟩) (by assumption) ?r5
  case y5 => (intro w' hSw; (try dsimp only at hSw); go_simp; try with_reducible rfl)
  try simp only [Act.put, List.setIfInBounds_toArray, List.set_cons_zero, List.set_cons_succ]
  refine wpAnyL_take (i := 5) (v := ?v6) rfl (by kernel_rfl) (by kernel_rfl) (by kernel_rfl) (by kernel_rfl) (fun _ _ _ h => h) (Or.inl ⟨by rfl, ?y6⟩) (by assumption) ?r6
  case y6 => (intro w' hSw; (try dsimp only at hSw); go_simp; try with_reducible rfl)
  try simp only [Act.put, List.setIfInBounds_toArray, List.set_cons_zero, List.set_cons_succ]
  refine wpAnyL_take (i := 6) (v := ?v7) rfl (by kernel_rfl) (by kernel_rfl) (by kernel_rfl) (by kernel_rfl) (fun _ _ _ h => h) (Or.inl ⟨by rfl, ?y7⟩) (by assumption) ?r7
  case y7 => (intro w' hSw; (try dsimp only at hSw); go_simp; try with_reducible rfl)
  try simp only [Act.put, List.setIfInBounds_toArray, List.set_cons_zero, List.set_cons_succ]
  refine wpAnyL_take (i := 7) (v := ?v8) rfl (by kernel_rfl) (by kernel_rfl) (by kernel_rfl) (by kernel_rfl) (fun _ _ _ h => h) (Or.inl ⟨by rfl, ?y8⟩) (by assumption) ?r8
  case y8 => (intro w' hSw; (try dsimp only at hSw); go_simp; try with_reducible rfl)
  try simp only [Act.put, List.setIfInBounds_toArray, List.set_cons_zero, List.set_cons_succ]
  refine wpAnyL_take (i := 8) (v := ?v9) rfl (by kernel_rfl) (by kernel_rfl) (by kernel_rfl) (by kernel_rfl) (fun _ _ _ h => h) (Or.inl ⟨by rfl, ?y9⟩) (by assumption) ?r9
  case y9 => (intro w' hSw; (try dsimp only at hSw); go_simp; try with_reducible rfl)
  try simp only [Act.put, List.setIfInBounds_toArray, List.set_cons_zero, List.set_cons_succ]
  refine wpAnyL_one (i := 9) (by kernel_rfl) rfl rfl (fun K hK => ?_)
  go_simp
  have hbA := hBd.alloc (by omega) (.cells #[.slice a1 (x.ax i).length c1, .slice b' (x.w.length - i) (d - i)] 30)
  have hba := (Below.refl w2.heap.size w2).alloc (Nat.le_refl _) (.cells #[.slice a1 (x.ax i).length c1, .slice b' (x.w.length - i) (d - i)] 30)
  have hSA := And.intro (hSd.1.below hba (by omega)) (And.intro (hSd.2.1.below hba (by omega)) (HKc.out _ hbA))
  have hzA : w2.heap.size + 1 ≤ (w2.alloc (.cells #[.slice a1 (x.ax i).length c1, .slice b' (x.w.length - i) (d - i)] 30)).heap.size := by simp
  have HR := Lib.hid ((hba.block _ (by omega)).trans HR.out)
  have HC := Lib.hid (joinR_any (rows2 (T := 30) (HS.out.below hBd) (HD.out.below hBd) rfl (m := x.w.length - i) (by simp)) (by rw [flat2]; simp; omega))
  refine hK _ _ (fun _ => hSA) ?_
  clear hK K hba hSd hBd
  refine wpAnyL_one (i := 10) (by kernel_rfl) rfl rfl (fun K hK => ?_)
  go_simp
  generalize w2.alloc (.cells #[.slice a1 (x.ax i).length c1, .slice b' (x.w.length - i) (d - i)] 30) = w3 at *
  refine (HC.out).mono ?_
  rintro e w4 ⟨a4, c4, l4, rfl, hl4, hs4, hb4⟩
  have hB4 := hbA.trans (hb4.mono (by omega))
  have hS4 := And.intro (hSA.1.below hb4 (by omega)) (And.intro (hSA.2.1.below hb4 (by omega)) (HKc.out _ hB4))
  have hz4 : w.heap.size + 3 ≤ w4.heap.size := by have := hb4.size; omega
  have HR := Lib.hid ((hb4.block _ (by omega)).trans HR.out)
  have hl4 : Hid (l4 = x.q i) := by unfold Hid; rw [hl4.out, flat2]; rfl
  have HC := ansR_any (HO.out.below hB4) hs4 hl
  rw [show x.o.known l4 = true from by rw [hl4.out]; exact hk.out] at HC
  have HC := Lib.hid HC
  refine hK _ _ (fun _ => hS4) ?_
  clear hK K hs4 hbA hSA hzA hb4
  refine wpAnyL_one (i := 11) (by kernel_rfl) rfl rfl (fun K hK => ?_)
  go_simp
  refine (HC.out).mono ?_
  rintro e w5 ⟨a5, c5, l5, rfl, hl5, hs5, hb5⟩
  have hB5 := hB4.trans (hb5.mono (by omega))
  have hS5 := And.intro (hS4.1.below hb5 (by omega)) (And.intro (hS4.2.1.below hb5 (by omega)) (HKc.out _ hB5))
  have hz5 : w.heap.size + 3 ≤ w5.heap.size := by have := hb5.size; omega
  have HR := Lib.hid ((hb5.block _ (by omega)).trans HR.out)
  refine hK _ _ (fun _ => hS5) ?_
  clear hK K HC hB4 hS4 hz4 hb5
  refine wpAnyL_take (i := 12) (v := ?v10) rfl (by kernel_rfl) (by kernel_rfl) (by kernel_rfl) (by kernel_rfl) (fun _ _ _ h => h) (Or.inl ⟨by rfl, ?y10⟩) (by assumption) ?r10
  case y10 => (intro w' hSw; (try dsimp only at hSw); go_simp; try with_reducible rfl)
  try simp only [Act.put, List.setIfInBounds_toArray, List.set_cons_zero, List.set_cons_succ]
  refine wpAnyL_take (i := 13) (v := ?v11) rfl (by kernel_rfl) (by kernel_rfl) (by kernel_rfl) (by kernel_rfl) (fun _ _ _ h => h) (Or.inl ⟨by rfl, ?y11⟩) (by assumption) ?r11
  case y11 => (intro w' hSw; (try dsimp only at hSw); go_simp; try with_reducible rfl)
  try simp only [Act.put, List.setIfInBounds_toArray, List.set_cons_zero, List.set_cons_succ]
  refine wpAnyL_take (i := 14) (v := ?v12) rfl (by kernel_rfl) (by kernel_rfl) (by kernel_rfl) (by kernel_rfl) (fun _ _ _ h => h) (Or.inl ⟨by rfl, ?y12⟩) (by assumption) ?r12
  case y12 => (intro w' hSw; (try dsimp only at hSw); go_simp; try with_reducible rfl)
  try simp only [Act.put, List.setIfInBounds_toArray, List.set_cons_zero, List.set_cons_succ]
  refine wpAnyL_take (i := 15) (v := ?v13) rfl (by kernel_rfl) (by kernel_rfl) (by kernel_rfl) (by kernel_rfl) (fun _ _ _ h => h) (Or.inl ⟨by rfl, ?y13⟩) (by assumption) ?r13
  case y13 => (intro w' hSw; (try dsimp only at hSw); go_simp; try with_reducible rfl)
  try simp only [Act.put, List.setIfInBounds_toArray, List.set_cons_zero, List.set_cons_succ]
  refine wpAnyL_take (i := 16) (v := ?v14) rfl (by kernel_rfl) (by kernel_rfl) (by kernel_rfl) (by kernel_rfl) (fun _ _ _ h => h) (Or.inl ⟨by rfl, ?y14⟩) (by assumption) ?r14
  case y14 => (intro w' hSw; (try dsimp only at hSw); go_simp; try with_reducible rfl)
  try simp only [Act.put, List.setIfInBounds_toArray, List.set_cons_zero, List.set_cons_succ]
  refine wpAnyL_done (by kernel_rfl) ?_ _
  have hl5 : Hid (l5 = x.o.ans (x.q i)) := by unfold Hid; rw [hl5.out, hl4.out]
  have hlen5 : Hid (l5.length = (x.ax i).length + (x.w.length - i)) := by unfold Hid; rw [hl5.out, Sj.ans_len hl.out hk.out]; exact x.q_len i
  have hale : (x.ax i).length < l5.length := by rw [hlen5.out]; omega
  have hll5 := hs5.le
  obtain ⟨b5, o5, y5, rfl, hyc5, hy5, -⟩ := hs5.at_int hale
  obtain ⟨bw, ow, xa, rfl, hxc, hxa, -⟩ := (HW.out.below hB5).at_int hi
  have hxr := ok.out.w xa (List.mem_of_getElem? hxa.out)
  obtain ⟨xn, rfl⟩ := Int.eq_ofNat_of_zero_le hxr.1
  have hxn : xn < x.h.m.inputs.toNat := by have := ok.out.h.m.i0; omega
  obtain ⟨bn, on, bo, oo, rfl, rfl⟩ := HH.out.m.addr ok.out.h.m
  obtain ⟨bp, op, dp, rp, bq, oq, dq, rq, nn, yy, hn1, hn2, hn3, hn4, hn5, hy0, hy1, -, hot, hr1, hr2, hr3, hr4⟩ := (HH.out.below hB5).m.atS ok.out.h.m hsn1 hxn
  have hso : sn < x.h.m.out.length := by rw [ok.out.h.m.lo]; exact hsn1
  have hsure : Hid (x.sure i = (y5 == yy)) := by
    unfold Hid Sj.sure
    rw [HST.out, Int.toNat_natCast, getD_of_some hxa.out, Int.toNat_natCast, hot.out, ← hl5.out, getD_of_some hy5.out]
    by_cases e : y5 = yy <;> simp [e]
  clear hxr hn1 hn3 hn5 hot hr1 hr3
  obtain ⟨hxx, hyy5, hcc5⟩ := hS5
  cases hsu : x.sure i with
  | false =>
    have hne : (y5 != yy) = true := by have := hsure.out; rw [hsu] at this; simp [bne, ← this]
    have HF := Lib.hid (Sj.spl_no hsu)
    clear hsu
    have hBq : ∀ n, Below w.heap.size w (w5.drewN n) := fun n => bl_drewN hB5 n
    go_wp2
    refine wp_quiet_fast (by kernel_rfl) (by kernel_rfl) ?_
    repeat (first | go_big_quiet_step (fail) | quiet_step (fail))
    refine wpQuiet_nil ?_
    intro _ hw'
    obtain ⟨nq, hw''⟩ := hw'
    subst hw''
    have hB6 := hBq nq
    have hR6 : (w5.drewN nq).heap[w.heap.size + 1 + 1]? = some zeS := HR.out
    have hz6 : w.heap.size + 3 ≤ (w5.drewN nq).heap.size := hz5
    generalize w5.drewN nq = w6 at *
    obtain ⟨⟨k0, k1, k2⟩, kf⟩ := cells3 hR6
    have hR7 := Lib.hid (set3 (y0 := .slice none 0 0) (y1 := .int .i64 0) (y2 := .slice none 0 0) hR6)
    have hB7 := Lib.hid (((hB6.setCell (p := ⟨w.heap.size + 1 + 1, 0, none⟩) (by simp; omega) (.slice none 0 0)).setCell (p := ⟨w.heap.size + 1 + 1, 1, none⟩) (by simp; omega) (.int .i64 0)).setCell (p := ⟨w.heap.size + 1 + 1, 2, none⟩) (by simp; omega) (.slice none 0 0))
    have hB7 := hB7.out
    clear hBq hR6 hB6 hB5 HR hz5 hxx hyy5 hcc5 hyc5 hxc hn2 hn4
    go_wp2
    obtain ⟨⟨q0, q1, q2⟩, -⟩ := cells3 hR7.out
    refine bodyPost_ret (v := .tuple #[.agg #[.slice none 0 0, .int .i64 0, .slice none 0 0], .int .i64 15]) (by simp [results, Try.results39, go_sem, q0, q1, q2]) rfl ⟨⟨none, 0, [], none, 0, [], 0, by rw [HF.out.2]; rfl, by unfold Hid; rw [HF.out.1]; rfl, Sl.nil _ _ _ (by unfold maxLen; omega), Sl.nil _ _ _ (by unfold maxLen; omega)⟩, hB7⟩
  | true =>
    have hne : (y5 != yy) = false := by have := hsure.out; rw [hsu] at this; simp [bne, ← this]
    have HF := Lib.hid (Sj.spl_yes hsu)
    have hBq : ∀ n, Below w.heap.size w (w5.drewN n) := fun n => bl_drewN hB5 n
    have hSq : ∀ n, H5 (w5.drewN n) w.heap.size (some ⟨bn, on, none⟩) cn (some ⟨bo, oo, none⟩) co (some ⟨b1, o1, none⟩) cc x.h ∧ (w5.drewN n).cell? ⟨b1, o1 + sn, none⟩ = some (.slice a1 (x.ax i).length c1) := fun n => ⟨hxx.below (below_drewN w5.heap.size w5 n) (by omega), HKc.out _ (hBq n)⟩
    have hxq : ∀ n, (w5.drewN n).cell? ⟨bw, ow + i, none⟩ = some (.int .i64 (xn : Int)) := fun n => by simpa using hxc
    obtain ⟨b2, hb2⟩ : ∃ b2, b2 = dA (some ⟨bw, ow, none⟩) d (i + 1) := ⟨_, rfl⟩
    have hdb : (if d = i + 1 then some (⟨bw, ow, none⟩ : Addr) else some ⟨bw, ow + (i + 1), none⟩) = b2 := by rw [hb2]; simp [dA, Addr.add]
    have HE := Lib.hid (HW.out.drop (i := i + 1) (by omega))
    rw [← hb2] at HE
    have hi1 : i + 1 ≤ d := by omega
    have hi1l : i + 1 ≤ x.w.length := by omega
    have hwr : IntKind.i64.wrap ((i : Int) + 1) = (i : Int) + 1 := IntWalk.i64_in _ (by omega)
    have hi3 : (i : Int) + 1 ≤ ((x.w.length : Nat) : Int) := by omega
    have hi4 : 0 ≤ (i : Int) + 1 := by omega
    clear hb2
    clear hsu
    go_wp2
    refine wp_quiet_fast (by kernel_rfl) (by kernel_rfl) ?_
    repeat (first | go_big_quiet_step (fail) | quiet_step (fail))
    refine wpQuiet_nil ?_
    intro _ hw'
    obtain ⟨nq, hw''⟩ := hw'
    subst hw''
    have hB_w6 := hBq nq
    have hS_w6 := hSq nq
    have hx_w6 := hxq nq
    have hR_w6 : (w5.drewN nq).heap[w.heap.size + 1 + 1]? = some zeS := HR.out
    have hz_w6 : w.heap.size + 3 ≤ (w5.drewN nq).heap.size := hz5
    clear hBq hSq hxq HR hB5 hz5 hxx hyy5 hcc5 hyc5 hxc hn2 hn4
    generalize w5.drewN nq = w6 at *
    go_wp2
    refine wp_region_L (fun w' => H5 w' w.heap.size (some ⟨bn, on, none⟩) cn (some ⟨bo, oo, none⟩) co (some ⟨b1, o1, none⟩) cc x.h ∧ w'.cell? ⟨b1, o1 + sn, none⟩ = some (.slice a1 (x.ax i).length c1) ∧ w'.cell? ⟨bw, ow + i, none⟩ = some (.int .i64 (xn : Int))) [0, 1, 2, 3, 4, 7, 8, 9, 10, 11, 12, 13, 14, 17, 19] (by kernel_rfl) ?_
    have hS_w6 := And.intro hS_w6.1 (And.intro hS_w6.2 hx_w6)
    have HKc : Hid (∀ w', Below w.heap.size w w' → w'.cell? ⟨b1, o1 + sn, none⟩ = some (.slice a1 (x.ax i).length c1) ∧ w'.cell? ⟨bw, ow + i, none⟩ = some (.int .i64 (xn : Int))) := fun w' hb => ⟨HKc.out w' hb, by
      obtain ⟨bw', ow', xa', hb', hxc', hxa', -⟩ := (HW.out.below hb).at_int hi
      obtain ⟨rfl, rfl⟩ : bw = bw' ∧ ow = ow' := by simpa using hb'
      have h1 := hxa.out
      have h2 := hxa'.out
      rw [h1] at h2
      obtain rfl : ((xn : Nat) : Int) = xa' := by simpa using h2
      exact hxc'⟩
    have hSd := And.intro (hS_w6.1.below (Below.refl w6.heap.size w6).drew (by omega)) (HKc.out _ hB_w6.drew)
    have hB_u0 := hB_w6.drew
    have hR_u0 : w6.drew.heap[w.heap.size + 1 + 1]? = some zeS := hR_w6
    have hz_u0 : w.heap.size + 3 ≤ w6.drew.heap.size := hz_w6
    have hS_u0 := hSd
    clear hS_w6 hx_w6 hB_w6 hR_w6 hz_w6 hSd
    generalize w6.drew = u0 at *
    refine wpAnyL_take (i := 0) (v := ?v15) rfl (by kernel_rfl) (by kernel_rfl) (by kernel_rfl) (by kernel_rfl) (fun _ _ _ h => h) (Or.inl ⟨by rfl, ?y15⟩) (by assumption) ?r15
    case y15 => (intro w' hSw; (try dsimp only at hSw); go_simp; try with_reducible rfl)
    try simp only [Act.put, List.setIfInBounds_toArray, List.set_cons_zero, List.set_cons_succ]
    refine wpAnyL_take (i := 1) (v := ?v16) rfl (by kernel_rfl) (by kernel_rfl) (by kernel_rfl) (by kernel_rfl) (fun _ _ _ h => h) (Or.inl ⟨by rfl, ?y16⟩) (by assumption) ?r16
    case y16 => (intro w' hSw; (try dsimp only at hSw); go_simp; try with_reducible rfl)
    try simp only [Act.put, List.setIfInBounds_toArray, List.set_cons_zero, List.set_cons_succ]
    refine wpAnyL_take (i := 2) (v := ?v17) rfl (by kernel_rfl) (by kernel_rfl) (by kernel_rfl) (by kernel_rfl) (fun _ _ _ h => h) (Or.inl ⟨by rfl, ?y17⟩) (by assumption) ?r17
    case y17 => (intro w' hSw; (try dsimp only at hSw); go_simp; try with_reducible rfl)
    try simp only [Act.put, List.setIfInBounds_toArray, List.set_cons_zero, List.set_cons_succ]
    refine wpAnyL_take (i := 3) (v := ?v18) rfl (by kernel_rfl) (by kernel_rfl) (by kernel_rfl) (by kernel_rfl) (fun _ _ _ h => h) (Or.inl ⟨by rfl, ?y18⟩) (by assumption) ?r18
    case y18 => (intro w' hSw; (try dsimp only at hSw); go_simp; try with_reducible rfl)
    try simp only [Act.put, List.setIfInBounds_toArray, List.set_cons_zero, List.set_cons_succ]
    refine wpAnyL_take (i := 4) (v := ?v19) rfl (by kernel_rfl) (by kernel_rfl) (by kernel_rfl) (by kernel_rfl) (fun _ _ _ h => h) (Or.inl ⟨by rfl, ?y19⟩) (by assumption) ?r19
    case y19 => (intro w' hSw; (try dsimp only at hSw); go_simp; try with_reducible rfl)
    try simp only [Act.put, List.setIfInBounds_toArray, List.set_cons_zero, List.set_cons_succ]
    refine wpAnyL_take (i := 7) (v := ?v20) rfl (by kernel_rfl) (by kernel_rfl) (by kernel_rfl) (by kernel_rfl) (fun _ _ _ h => h) (Or.inl ⟨by rfl, ?y20⟩) (by assumption) ?r20
    case y20 => (intro w' hSw; (try dsimp only at hSw); go_simp; try with_reducible rfl)
    try simp only [Act.put, List.setIfInBounds_toArray, List.set_cons_zero, List.set_cons_succ]
    refine wpAnyL_take (i := 8) (v := ?v21) rfl (by kernel_rfl) (by kernel_rfl) (by kernel_rfl) (by kernel_rfl) (fun _ _ _ h => h) (Or.inl ⟨by rfl, ?y21⟩) (by assumption) ?r21
    case y21 => (intro w' hSw; (try dsimp only at hSw); go_simp; try with_reducible rfl)
    try simp only [Act.put, List.setIfInBounds_toArray, List.set_cons_zero, List.set_cons_succ]
    refine wpAnyL_take (i := 9) (v := ?v22) rfl (by kernel_rfl) (by kernel_rfl) (by kernel_rfl) (by kernel_rfl) (fun _ _ _ h => h) (Or.inl ⟨by rfl, ?y22⟩) (by assumption) ?r22
    case y22 => (intro w' hSw; (try dsimp only at hSw); go_simp; try with_reducible rfl)
    try simp only [Act.put, List.setIfInBounds_toArray, List.set_cons_zero, List.set_cons_succ]
    refine wpAnyL_take (i := 10) (v := ?v23) rfl (by kernel_rfl) (by kernel_rfl) (by kernel_rfl) (by kernel_rfl) (fun _ _ _ h => h) (Or.inl ⟨by rfl, ?y23⟩) (by assumption) ?r23
    case y23 => (intro w' hSw; (try dsimp only at hSw); go_simp; try with_reducible rfl)
    try simp only [Act.put, List.setIfInBounds_toArray, List.set_cons_zero, List.set_cons_succ]
    refine wpAnyL_take (i := 11) (v := ?v24) rfl (by kernel_rfl) (by kernel_rfl) (by kernel_rfl) (by kernel_rfl) (fun _ _ _ h => h) (Or.inl ⟨by rfl, ?y24⟩) (by assumption) ?r24
    case y24 => (intro w' hSw; (try dsimp only at hSw); go_simp; try with_reducible rfl)
    try simp only [Act.put, List.setIfInBounds_toArray, List.set_cons_zero, List.set_cons_succ]
    refine wpAnyL_take (i := 12) (v := ?v25) rfl (by kernel_rfl) (by kernel_rfl) (by kernel_rfl) (by kernel_rfl) (fun _ _ _ h => h) (Or.inl ⟨by rfl, ?y25⟩) (by assumption) ?r25
    case y25 => (intro w' hSw; (try dsimp only at hSw); go_simp; try with_reducible rfl)
    try simp only [Act.put, List.setIfInBounds_toArray, List.set_cons_zero, List.set_cons_succ]
    refine wpAnyL_take (i := 13) (v := ?v26) rfl (by kernel_rfl) (by kernel_rfl) (by kernel_rfl) (by kernel_rfl) (fun _ _ _ h => h) (Or.inl ⟨by rfl, ?y26⟩) (by assumption) ?r26
    case y26 => (intro w' hSw; (try dsimp only at hSw); go_simp; try with_reducible rfl)
    try simp only [Act.put, List.setIfInBounds_toArray, List.set_cons_zero, List.set_cons_succ]
    refine wpAnyL_take (i := 14) (v := ?v27) rfl (by kernel_rfl) (by kernel_rfl) (by kernel_rfl) (by kernel_rfl) (fun _ _ _ h => h) (Or.inl ⟨by rfl, ?y27⟩) (by assumption) ?r27
    case y27 => (intro w' hSw; (try dsimp only at hSw); go_simp; try with_reducible rfl)
    try simp only [Act.put, List.setIfInBounds_toArray, List.set_cons_zero, List.set_cons_succ]
    refine wpAnyL_2 (i := 5) (j := 15) (by kernel_rfl) rfl rfl rfl rfl (fun K hK => ?_) (fun K hK => ?_)
    · skip
      go_simp
      have hba := (Below.refl u0.heap.size u0).alloc (Nat.le_refl _) (.cells #[.slice a1 (x.ax i).length c1] 30)
      have hBa := hB_u0.alloc (by omega) (.cells #[.slice a1 (x.ax i).length c1] 30)
      have hS_u1 := And.intro (hS_u0.1.below hba (by omega)) (HKc.out _ hBa)
      have hz_u1 : w.heap.size + 3 ≤ (u0.alloc (.cells #[.slice a1 (x.ax i).length c1] 30)).heap.size := by simp; omega
      have hR_u1 := (hba.block (w.heap.size + 1 + 1) (by omega)).trans hR_u0
      have HA := Lib.hid (rows1 (T := 30) (HS.out.below hB_u0) rfl)
      refine hK _ _ (fun _ => hS_u1) ?_
      clear hK K
      have hB_u1 := hBa
      clear hBa hba
      generalize hgu1 : u0.alloc (.cells #[.slice a1 (x.ax i).length c1] 30) = u1 at *
      clear hgu1
      refine wpAnyL_2 (i := 6) (j := 15) (by kernel_rfl) rfl rfl rfl rfl (fun K hK => ?_) (fun K hK => ?_)
      · skip
        go_simp
        refine (joinR_any HA.out (by rw [flat1]; have := (ok.out.ax i).1; omega)).mono ?_
        rintro e u2 ⟨aA, cA, lA, rfl, hlA, hslA, hbu2⟩
        have hS_u2 := And.intro (hS_u1.1.below hbu2 (by omega)) (HKc.out _ (hB_u1.trans (hbu2.mono (by omega))))
        have hz_u2 : w.heap.size + 3 ≤ u2.heap.size := by have := hbu2.size; omega
        have hR_u2 := (hbu2.block (w.heap.size + 1 + 1) (by omega)).trans hR_u1
        have hB_u2 := hB_u1.trans (hbu2.mono (by omega))
        have HsA := Lib.hid (hslA.anti (M' := fun k => k < w.heap.size + 3) (fun k _ hk => by omega))
        have hlA : Hid (lA = x.ax i) := by unfold Hid; rw [hlA.out, flat1]

        refine hK _ _ (fun _ => hS_u2) ?_
        clear hK K hslA
        refine wpAnyL_one (i := 15) (by kernel_rfl) rfl rfl (fun K hK => ?_)
        go_simp
        have hba := (Below.refl u2.heap.size u2).alloc (Nat.le_refl _) (.cells #[.slice b2 (x.w.length - (i + 1)) (d - (i + 1))] 30)
        have hBa := hB_u2.alloc (by omega) (.cells #[.slice b2 (x.w.length - (i + 1)) (d - (i + 1))] 30)
        have hS_u3 := And.intro (hS_u2.1.below hba (by omega)) (HKc.out _ hBa)
        have hz_u3 : w.heap.size + 3 ≤ (u2.alloc (.cells #[.slice b2 (x.w.length - (i + 1)) (d - (i + 1))] 30)).heap.size := by simp; omega
        have hR_u3 := (hba.block (w.heap.size + 1 + 1) (by omega)).trans hR_u2
        have HB := Lib.hid (rows1 (T := 30) (HE.out.below hB_u2) (n := x.w.length - (i + 1)) (by simp))
        have HsA := Lib.hid (HsA.out.alloc (.cells #[.slice b2 (x.w.length - (i + 1)) (d - (i + 1))] 30))
        refine hK _ _ (fun _ => hS_u3) ?_
        clear hK K
        have hB_u3 := hBa
        clear hBa hba
        generalize hgu3 : u2.alloc (.cells #[.slice b2 (x.w.length - (i + 1)) (d - (i + 1))] 30) = u3 at *
        clear hgu3
        refine wpAnyL_one (i := 16) (by kernel_rfl) rfl rfl (fun K hK => ?_)
        go_simp
        refine (joinR_any HB.out (by rw [flat1]; simp; omega)).mono ?_
        rintro e u4 ⟨aB, cB, lB, rfl, hlB, hslB, hbu4⟩
        have hS_u4 := And.intro (hS_u3.1.below hbu4 (by omega)) (HKc.out _ (hB_u3.trans (hbu4.mono (by omega))))
        have hz_u4 : w.heap.size + 3 ≤ u4.heap.size := by have := hbu4.size; omega
        have hR_u4 := (hbu4.block (w.heap.size + 1 + 1) (by omega)).trans hR_u3
        have hB_u4 := hB_u3.trans (hbu4.mono (by omega))
        have HsB := Lib.hid (hslB.anti (M' := fun k => k < w.heap.size + 3) (fun k _ hk => by omega))
        have hlB : Hid (lB = x.w.drop (i + 1)) := by unfold Hid; rw [hlB.out, flat1]
        have HsA := Lib.hid (HsA.out.below hbu4)
        refine hK _ _ (fun _ => hS_u4) ?_
        clear hK K hslB
        have hB9 := hB_u4
        have hS9 := hS_u4
        have hz9 := hz_u4
        have hR9 := hR_u4
        clear hB_u4 hS_u4 hz_u4 hR_u4
        generalize u4 = w9 at *
        have hBz := hB9
        have hRz : w9.heap[w.heap.size + 1 + 1]? = some zeS := hR9
        refine wpAnyL_take (i := 17) (v := ?v28) rfl (by kernel_rfl) (by kernel_rfl) (by kernel_rfl) (by kernel_rfl) (fun _ _ _ h => h) (Or.inl ⟨by rfl, ?y28⟩) (by assumption) ?r28
        case y28 => (intro w' hSw; (try dsimp only at hSw); go_simp; try with_reducible rfl)
        try simp only [Act.put, List.setIfInBounds_toArray, List.set_cons_zero, List.set_cons_succ]
        obtain ⟨⟨k0, k1, k2⟩, kf⟩ := cells3 hRz
        have hRn := Lib.hid (set3 (y0 := .slice aA lA.length cA) (y1 := .int .i64 (xn : Int)) (y2 := .slice aB lB.length cB) hRz)
        have hBn := Lib.hid (((hBz.setCell (p := ⟨w.heap.size + 1 + 1, 0, none⟩) (by simp; omega) (.slice aA lA.length cA)).setCell (p := ⟨w.heap.size + 1 + 1, 1, none⟩) (by simp; omega) (.int .i64 (xn : Int))).setCell (p := ⟨w.heap.size + 1 + 1, 2, none⟩) (by simp; omega) (.slice aB lB.length cB))
        have hbn := Lib.hid ((((Below.refl (w.heap.size + 1) w9).setCell (p := ⟨w.heap.size + 1 + 1, 0, none⟩) (by simp) (.slice aA lA.length cA)).setCell (p := ⟨w.heap.size + 1 + 1, 1, none⟩) (by simp) (.int .i64 (xn : Int))).setCell (p := ⟨w.heap.size + 1 + 1, 2, none⟩) (by simp) (.slice aB lB.length cB))
        have hsA := HsA.out
        have hsB := HsB.out
        have HsAn := Lib.hid (hsA.ext (M' := fun k => k < w.heap.size) (w' := ((w9.setCell ⟨w.heap.size + 1 + 1, 0, none⟩ (.slice aA lA.length cA)).setCell ⟨w.heap.size + 1 + 1, 1, none⟩ (.int .i64 (xn : Int))).setCell ⟨w.heap.size + 1 + 1, 2, none⟩ (.slice aB lB.length cB)) (((Ext.setCell w9 (p := ⟨w.heap.size + 1 + 1, 0, none⟩) (by simp) _).trans (Ext.setCell _ (p := ⟨w.heap.size + 1 + 1, 1, none⟩) (by simp) _)).trans ((Ext.setCell _ (p := ⟨w.heap.size + 1 + 1, 2, none⟩) (by simp) _).trans (Ext.sub_only fun k _ hk => Nat.lt_of_lt_of_le hk (by omega)))))
        have HsBn := Lib.hid (hsB.ext (M' := fun k => k < w.heap.size) (w' := ((w9.setCell ⟨w.heap.size + 1 + 1, 0, none⟩ (.slice aA lA.length cA)).setCell ⟨w.heap.size + 1 + 1, 1, none⟩ (.int .i64 (xn : Int))).setCell ⟨w.heap.size + 1 + 1, 2, none⟩ (.slice aB lB.length cB)) (((Ext.setCell w9 (p := ⟨w.heap.size + 1 + 1, 0, none⟩) (by simp) _).trans (Ext.setCell _ (p := ⟨w.heap.size + 1 + 1, 1, none⟩) (by simp) _)).trans ((Ext.setCell _ (p := ⟨w.heap.size + 1 + 1, 2, none⟩) (by simp) _).trans (Ext.sub_only fun k _ hk => Nat.lt_of_lt_of_le hk (by omega)))))
        have hSn := And.intro (hS9.1.below hbn.out (by omega)) (HKc.out _ hBn.out)
        clear hsA hsB HsA HsB hBz hRz
        refine wpAnyL_one (i := 18) (by kernel_rfl) rfl rfl (fun K hK => ?_)
        go_simp
        refine hK _ _ (fun _ => hSn) ?_
        clear hK K
        generalize ((w9.setCell ⟨w.heap.size + 1 + 1, 0, none⟩ (.slice aA lA.length cA)).setCell ⟨w.heap.size + 1 + 1, 1, none⟩ (.int .i64 (xn : Int))).setCell ⟨w.heap.size + 1 + 1, 2, none⟩ (.slice aB lB.length cB) = wn at *
        refine wpAnyL_take (i := 19) (v := ?v29) rfl (by kernel_rfl) (by kernel_rfl) (by kernel_rfl) (by kernel_rfl) (fun _ _ _ h => h) (Or.inl ⟨by rfl, ?y29⟩) (by assumption) ?r29
        case y29 => (intro w' hSw; (try dsimp only at hSw); go_simp; try with_reducible rfl)
        try simp only [Act.put, List.setIfInBounds_toArray, List.set_cons_zero, List.set_cons_succ]
        refine wpAnyL_done (by kernel_rfl) ?_ _
        obtain ⟨⟨q0, q1, q2⟩, -⟩ := cells3 hRn.out
        have hBf := hBn.out
        go_wp2
        refine bodyPost_ret (v := .tuple #[.agg #[.slice aA lA.length cA, .int .i64 (xn : Int), .slice aB lB.length cB], .int .i64 0]) (by simp [results, Try.results39, go_sem, q0, q1, q2]) rfl ⟨⟨aA, cA, lA, aB, cB, lB, (xn : Int), by rw [HF.out.2], ?_, HsAn.out, HsBn.out⟩, hBf⟩
        unfold Hid; rw [HF.out.1, hlA.out, hlB.out, getD_of_some hxa.out]
      · skip
        go_simp
        have hba := (Below.refl u1.heap.size u1).alloc (Nat.le_refl _) (.cells #[.slice b2 (x.w.length - (i + 1)) (d - (i + 1))] 30)
        have hBa := hB_u1.alloc (by omega) (.cells #[.slice b2 (x.w.length - (i + 1)) (d - (i + 1))] 30)
        have hS_u2 := And.intro (hS_u1.1.below hba (by omega)) (HKc.out _ hBa)
        have hz_u2 : w.heap.size + 3 ≤ (u1.alloc (.cells #[.slice b2 (x.w.length - (i + 1)) (d - (i + 1))] 30)).heap.size := by simp; omega
        have hR_u2 := (hba.block (w.heap.size + 1 + 1) (by omega)).trans hR_u1
        have HB := Lib.hid (rows1 (T := 30) (HE.out.below hB_u1) (n := x.w.length - (i + 1)) (by simp))
        have HA := Lib.hid (HA.out.alloc (.cells #[.slice b2 (x.w.length - (i + 1)) (d - (i + 1))] 30))
        refine hK _ _ (fun _ => hS_u2) ?_
        clear hK K
        have hB_u2 := hBa
        clear hBa hba
        generalize hgu2 : u1.alloc (.cells #[.slice b2 (x.w.length - (i + 1)) (d - (i + 1))] 30) = u2 at *
        clear hgu2
        refine wpAnyL_one (i := 6) (by kernel_rfl) rfl rfl (fun K hK => ?_)
        go_simp
        refine (joinR_any HA.out (by rw [flat1]; have := (ok.out.ax i).1; omega)).mono ?_
        rintro e u3 ⟨aA, cA, lA, rfl, hlA, hslA, hbu3⟩
        have hS_u3 := And.intro (hS_u2.1.below hbu3 (by omega)) (HKc.out _ (hB_u2.trans (hbu3.mono (by omega))))
        have hz_u3 : w.heap.size + 3 ≤ u3.heap.size := by have := hbu3.size; omega
        have hR_u3 := (hbu3.block (w.heap.size + 1 + 1) (by omega)).trans hR_u2
        have hB_u3 := hB_u2.trans (hbu3.mono (by omega))
        have HsA := Lib.hid (hslA.anti (M' := fun k => k < w.heap.size + 3) (fun k _ hk => by omega))
        have hlA : Hid (lA = x.ax i) := by unfold Hid; rw [hlA.out, flat1]
        have HB := Lib.hid (HB.out.below hbu3)
        refine hK _ _ (fun _ => hS_u3) ?_
        clear hK K hslA
        refine wpAnyL_one (i := 16) (by kernel_rfl) rfl rfl (fun K hK => ?_)
        go_simp
        refine (joinR_any HB.out (by rw [flat1]; simp; omega)).mono ?_
        rintro e u4 ⟨aB, cB, lB, rfl, hlB, hslB, hbu4⟩
        have hS_u4 := And.intro (hS_u3.1.below hbu4 (by omega)) (HKc.out _ (hB_u3.trans (hbu4.mono (by omega))))
        have hz_u4 : w.heap.size + 3 ≤ u4.heap.size := by have := hbu4.size; omega
        have hR_u4 := (hbu4.block (w.heap.size + 1 + 1) (by omega)).trans hR_u3
        have hB_u4 := hB_u3.trans (hbu4.mono (by omega))
        have HsB := Lib.hid (hslB.anti (M' := fun k => k < w.heap.size + 3) (fun k _ hk => by omega))
        have hlB : Hid (lB = x.w.drop (i + 1)) := by unfold Hid; rw [hlB.out, flat1]
        have HsA := Lib.hid (HsA.out.below hbu4)
        refine hK _ _ (fun _ => hS_u4) ?_
        clear hK K hslB
        have hB9 := hB_u4
        have hS9 := hS_u4
        have hz9 := hz_u4
        have hR9 := hR_u4
        clear hB_u4 hS_u4 hz_u4 hR_u4
        generalize u4 = w9 at *
        have hBz := hB9
        have hRz : w9.heap[w.heap.size + 1 + 1]? = some zeS := hR9
        refine wpAnyL_take (i := 17) (v := ?v30) rfl (by kernel_rfl) (by kernel_rfl) (by kernel_rfl) (by kernel_rfl) (fun _ _ _ h => h) (Or.inl ⟨by rfl, ?y30⟩) (by assumption) ?r30
        case y30 => (intro w' hSw; (try dsimp only at hSw); go_simp; try with_reducible rfl)
        try simp only [Act.put, List.setIfInBounds_toArray, List.set_cons_zero, List.set_cons_succ]
        obtain ⟨⟨k0, k1, k2⟩, kf⟩ := cells3 hRz
        have hRn := Lib.hid (set3 (y0 := .slice aA lA.length cA) (y1 := .int .i64 (xn : Int)) (y2 := .slice aB lB.length cB) hRz)
        have hBn := Lib.hid (((hBz.setCell (p := ⟨w.heap.size + 1 + 1, 0, none⟩) (by simp; omega) (.slice aA lA.length cA)).setCell (p := ⟨w.heap.size + 1 + 1, 1, none⟩) (by simp; omega) (.int .i64 (xn : Int))).setCell (p := ⟨w.heap.size + 1 + 1, 2, none⟩) (by simp; omega) (.slice aB lB.length cB))
        have hbn := Lib.hid ((((Below.refl (w.heap.size + 1) w9).setCell (p := ⟨w.heap.size + 1 + 1, 0, none⟩) (by simp) (.slice aA lA.length cA)).setCell (p := ⟨w.heap.size + 1 + 1, 1, none⟩) (by simp) (.int .i64 (xn : Int))).setCell (p := ⟨w.heap.size + 1 + 1, 2, none⟩) (by simp) (.slice aB lB.length cB))
        have hsA := HsA.out
        have hsB := HsB.out
        have HsAn := Lib.hid (hsA.ext (M' := fun k => k < w.heap.size) (w' := ((w9.setCell ⟨w.heap.size + 1 + 1, 0, none⟩ (.slice aA lA.length cA)).setCell ⟨w.heap.size + 1 + 1, 1, none⟩ (.int .i64 (xn : Int))).setCell ⟨w.heap.size + 1 + 1, 2, none⟩ (.slice aB lB.length cB)) (((Ext.setCell w9 (p := ⟨w.heap.size + 1 + 1, 0, none⟩) (by simp) _).trans (Ext.setCell _ (p := ⟨w.heap.size + 1 + 1, 1, none⟩) (by simp) _)).trans ((Ext.setCell _ (p := ⟨w.heap.size + 1 + 1, 2, none⟩) (by simp) _).trans (Ext.sub_only fun k _ hk => Nat.lt_of_lt_of_le hk (by omega)))))
        have HsBn := Lib.hid (hsB.ext (M' := fun k => k < w.heap.size) (w' := ((w9.setCell ⟨w.heap.size + 1 + 1, 0, none⟩ (.slice aA lA.length cA)).setCell ⟨w.heap.size + 1 + 1, 1, none⟩ (.int .i64 (xn : Int))).setCell ⟨w.heap.size + 1 + 1, 2, none⟩ (.slice aB lB.length cB)) (((Ext.setCell w9 (p := ⟨w.heap.size + 1 + 1, 0, none⟩) (by simp) _).trans (Ext.setCell _ (p := ⟨w.heap.size + 1 + 1, 1, none⟩) (by simp) _)).trans ((Ext.setCell _ (p := ⟨w.heap.size + 1 + 1, 2, none⟩) (by simp) _).trans (Ext.sub_only fun k _ hk => Nat.lt_of_lt_of_le hk (by omega)))))
        have hSn := And.intro (hS9.1.below hbn.out (by omega)) (HKc.out _ hBn.out)
        clear hsA hsB HsA HsB hBz hRz
        refine wpAnyL_one (i := 18) (by kernel_rfl) rfl rfl (fun K hK => ?_)
        go_simp
        refine hK _ _ (fun _ => hSn) ?_
        clear hK K
        generalize ((w9.setCell ⟨w.heap.size + 1 + 1, 0, none⟩ (.slice aA lA.length cA)).setCell ⟨w.heap.size + 1 + 1, 1, none⟩ (.int .i64 (xn : Int))).setCell ⟨w.heap.size + 1 + 1, 2, none⟩ (.slice aB lB.length cB) = wn at *
        refine wpAnyL_take (i := 19) (v := ?v31) rfl (by kernel_rfl) (by kernel_rfl) (by kernel_rfl) (by kernel_rfl) (fun _ _ _ h => h) (Or.inl ⟨by rfl, ?y31⟩) (by assumption) ?r31
        case y31 => (intro w' hSw; (try dsimp only at hSw); go_simp; try with_reducible rfl)
        try simp only [Act.put, List.setIfInBounds_toArray, List.set_cons_zero, List.set_cons_succ]
        refine wpAnyL_done (by kernel_rfl) ?_ _
        obtain ⟨⟨q0, q1, q2⟩, -⟩ := cells3 hRn.out
        have hBf := hBn.out
        go_wp2
        refine bodyPost_ret (v := .tuple #[.agg #[.slice aA lA.length cA, .int .i64 (xn : Int), .slice aB lB.length cB], .int .i64 0]) (by simp [results, Try.results39, go_sem, q0, q1, q2]) rfl ⟨⟨aA, cA, lA, aB, cB, lB, (xn : Int), by rw [HF.out.2], ?_, HsAn.out, HsBn.out⟩, hBf⟩
        unfold Hid; rw [HF.out.1, hlA.out, hlB.out, getD_of_some hxa.out]
    · skip
      go_simp
      have hba := (Below.refl u0.heap.size u0).alloc (Nat.le_refl _) (.cells #[.slice b2 (x.w.length - (i + 1)) (d - (i + 1))] 30)
      have hBa := hB_u0.alloc (by omega) (.cells #[.slice b2 (x.w.length - (i + 1)) (d - (i + 1))] 30)
      have hS_u1 := And.intro (hS_u0.1.below hba (by omega)) (HKc.out _ hBa)
      have hz_u1 : w.heap.size + 3 ≤ (u0.alloc (.cells #[.slice b2 (x.w.length - (i + 1)) (d - (i + 1))] 30)).heap.size := by simp; omega
      have hR_u1 := (hba.block (w.heap.size + 1 + 1) (by omega)).trans hR_u0
      have HB := Lib.hid (rows1 (T := 30) (HE.out.below hB_u0) (n := x.w.length - (i + 1)) (by simp))
      refine hK _ _ (fun _ => hS_u1) ?_
      clear hK K
      have hB_u1 := hBa
      clear hBa hba
      generalize hgu1 : u0.alloc (.cells #[.slice b2 (x.w.length - (i + 1)) (d - (i + 1))] 30) = u1 at *
      clear hgu1
      refine wpAnyL_one (i := 5) (by kernel_rfl) rfl rfl (fun K hK => ?_)
      go_simp
      have hba := (Below.refl u1.heap.size u1).alloc (Nat.le_refl _) (.cells #[.slice a1 (x.ax i).length c1] 30)
      have hBa := hB_u1.alloc (by omega) (.cells #[.slice a1 (x.ax i).length c1] 30)
      have hS_u2 := And.intro (hS_u1.1.below hba (by omega)) (HKc.out _ hBa)
      have hz_u2 : w.heap.size + 3 ≤ (u1.alloc (.cells #[.slice a1 (x.ax i).length c1] 30)).heap.size := by simp; omega
      have hR_u2 := (hba.block (w.heap.size + 1 + 1) (by omega)).trans hR_u1
      have HA := Lib.hid (rows1 (T := 30) (HS.out.below hB_u1) rfl)
      have HB := Lib.hid (HB.out.alloc (.cells #[.slice a1 (x.ax i).length c1] 30))
      refine hK _ _ (fun _ => hS_u2) ?_
      clear hK K
      have hB_u2 := hBa
      clear hBa hba
      generalize hgu2 : u1.alloc (.cells #[.slice a1 (x.ax i).length c1] 30) = u2 at *
      clear hgu2
      refine wpAnyL_one (i := 6) (by kernel_rfl) rfl rfl (fun K hK => ?_)
      go_simp
      refine (joinR_any HA.out (by rw [flat1]; have := (ok.out.ax i).1; omega)).mono ?_
      rintro e u3 ⟨aA, cA, lA, rfl, hlA, hslA, hbu3⟩
      have hS_u3 := And.intro (hS_u2.1.below hbu3 (by omega)) (HKc.out _ (hB_u2.trans (hbu3.mono (by omega))))
      have hz_u3 : w.heap.size + 3 ≤ u3.heap.size := by have := hbu3.size; omega
      have hR_u3 := (hbu3.block (w.heap.size + 1 + 1) (by omega)).trans hR_u2
      have hB_u3 := hB_u2.trans (hbu3.mono (by omega))
      have HsA := Lib.hid (hslA.anti (M' := fun k => k < w.heap.size + 3) (fun k _ hk => by omega))
      have hlA : Hid (lA = x.ax i) := by unfold Hid; rw [hlA.out, flat1]
      have HB := Lib.hid (HB.out.below hbu3)
      refine hK _ _ (fun _ => hS_u3) ?_
      clear hK K hslA
      refine wpAnyL_one (i := 16) (by kernel_rfl) rfl rfl (fun K hK => ?_)
      go_simp
      refine (joinR_any HB.out (by rw [flat1]; simp; omega)).mono ?_
      rintro e u4 ⟨aB, cB, lB, rfl, hlB, hslB, hbu4⟩
      have hS_u4 := And.intro (hS_u3.1.below hbu4 (by omega)) (HKc.out _ (hB_u3.trans (hbu4.mono (by omega))))
      have hz_u4 : w.heap.size + 3 ≤ u4.heap.size := by have := hbu4.size; omega
      have hR_u4 := (hbu4.block (w.heap.size + 1 + 1) (by omega)).trans hR_u3
      have hB_u4 := hB_u3.trans (hbu4.mono (by omega))
      have HsB := Lib.hid (hslB.anti (M' := fun k => k < w.heap.size + 3) (fun k _ hk => by omega))
      have hlB : Hid (lB = x.w.drop (i + 1)) := by unfold Hid; rw [hlB.out, flat1]
      have HsA := Lib.hid (HsA.out.below hbu4)
      refine hK _ _ (fun _ => hS_u4) ?_
      clear hK K hslB
      have hB9 := hB_u4
      have hS9 := hS_u4
      have hz9 := hz_u4
      have hR9 := hR_u4
      clear hB_u4 hS_u4 hz_u4 hR_u4
      generalize u4 = w9 at *
      have hBz := hB9
      have hRz : w9.heap[w.heap.size + 1 + 1]? = some zeS := hR9
      refine wpAnyL_take (i := 17) (v := ?v32) rfl (by kernel_rfl) (by kernel_rfl) (by kernel_rfl) (by kernel_rfl) (fun _ _ _ h => h) (Or.inl ⟨by rfl, ?y32⟩) (by assumption) ?r32
      case y32 => (intro w' hSw; (try dsimp only at hSw); go_simp; try with_reducible rfl)
      try simp only [Act.put, List.setIfInBounds_toArray, List.set_cons_zero, List.set_cons_succ]
      obtain ⟨⟨k0, k1, k2⟩, kf⟩ := cells3 hRz
      have hRn := Lib.hid (set3 (y0 := .slice aA lA.length cA) (y1 := .int .i64 (xn : Int)) (y2 := .slice aB lB.length cB) hRz)
      have hBn := Lib.hid (((hBz.setCell (p := ⟨w.heap.size + 1 + 1, 0, none⟩) (by simp; omega) (.slice aA lA.length cA)).setCell (p := ⟨w.heap.size + 1 + 1, 1, none⟩) (by simp; omega) (.int .i64 (xn : Int))).setCell (p := ⟨w.heap.size + 1 + 1, 2, none⟩) (by simp; omega) (.slice aB lB.length cB))
      have hbn := Lib.hid ((((Below.refl (w.heap.size + 1) w9).setCell (p := ⟨w.heap.size + 1 + 1, 0, none⟩) (by simp) (.slice aA lA.length cA)).setCell (p := ⟨w.heap.size + 1 + 1, 1, none⟩) (by simp) (.int .i64 (xn : Int))).setCell (p := ⟨w.heap.size + 1 + 1, 2, none⟩) (by simp) (.slice aB lB.length cB))
      have hsA := HsA.out
      have hsB := HsB.out
      have HsAn := Lib.hid (hsA.ext (M' := fun k => k < w.heap.size) (w' := ((w9.setCell ⟨w.heap.size + 1 + 1, 0, none⟩ (.slice aA lA.length cA)).setCell ⟨w.heap.size + 1 + 1, 1, none⟩ (.int .i64 (xn : Int))).setCell ⟨w.heap.size + 1 + 1, 2, none⟩ (.slice aB lB.length cB)) (((Ext.setCell w9 (p := ⟨w.heap.size + 1 + 1, 0, none⟩) (by simp) _).trans (Ext.setCell _ (p := ⟨w.heap.size + 1 + 1, 1, none⟩) (by simp) _)).trans ((Ext.setCell _ (p := ⟨w.heap.size + 1 + 1, 2, none⟩) (by simp) _).trans (Ext.sub_only fun k _ hk => Nat.lt_of_lt_of_le hk (by omega)))))
      have HsBn := Lib.hid (hsB.ext (M' := fun k => k < w.heap.size) (w' := ((w9.setCell ⟨w.heap.size + 1 + 1, 0, none⟩ (.slice aA lA.length cA)).setCell ⟨w.heap.size + 1 + 1, 1, none⟩ (.int .i64 (xn : Int))).setCell ⟨w.heap.size + 1 + 1, 2, none⟩ (.slice aB lB.length cB)) (((Ext.setCell w9 (p := ⟨w.heap.size + 1 + 1, 0, none⟩) (by simp) _).trans (Ext.setCell _ (p := ⟨w.heap.size + 1 + 1, 1, none⟩) (by simp) _)).trans ((Ext.setCell _ (p := ⟨w.heap.size + 1 + 1, 2, none⟩) (by simp) _).trans (Ext.sub_only fun k _ hk => Nat.lt_of_lt_of_le hk (by omega)))))
      have hSn := And.intro (hS9.1.below hbn.out (by omega)) (HKc.out _ hBn.out)
      clear hsA hsB HsA HsB hBz hRz
      refine wpAnyL_one (i := 18) (by kernel_rfl) rfl rfl (fun K hK => ?_)
      go_simp
      refine hK _ _ (fun _ => hSn) ?_
      clear hK K
      generalize ((w9.setCell ⟨w.heap.size + 1 + 1, 0, none⟩ (.slice aA lA.length cA)).setCell ⟨w.heap.size + 1 + 1, 1, none⟩ (.int .i64 (xn : Int))).setCell ⟨w.heap.size + 1 + 1, 2, none⟩ (.slice aB lB.length cB) = wn at *
      refine wpAnyL_take (i := 19) (v := ?v33) rfl (by kernel_rfl) (by kernel_rfl) (by kernel_rfl) (by kernel_rfl) (fun _ _ _ h => h) (Or.inl ⟨by rfl, ?y33⟩) (by assumption) ?r33
      case y33 => (intro w' hSw; (try dsimp only at hSw); go_simp; try with_reducible rfl)
      try simp only [Act.put, List.setIfInBounds_toArray, List.set_cons_zero, List.set_cons_succ]
      refine wpAnyL_done (by kernel_rfl) ?_ _
      obtain ⟨⟨q0, q1, q2⟩, -⟩ := cells3 hRn.out
      have hBf := hBn.out
      go_wp2
      refine bodyPost_ret (v := .tuple #[.agg #[.slice aA lA.length cA, .int .i64 (xn : Int), .slice aB lB.length cB], .int .i64 0]) (by simp [results, Try.results39, go_sem, q0, q1, q2]) rfl ⟨⟨aA, cA, lA, aB, cB, lB, (xn : Int), by rw [HF.out.2], ?_, HsAn.out, HsBn.out⟩, hBf⟩
      unfold Hid; rw [HF.out.1, hlA.out, hlB.out, getD_of_some hxa.out]
end
end Go.Proofs.Ytlgdijgfphedpaa
