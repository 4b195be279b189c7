/- The program's methods of a subject: query, rest, and whether a position is bad. Condition where named: the subject is valid, the position is one, the answer is known. -/
import Derived.Test.YtlgdijgfphedpaaBegin
namespace Go.Proofs.Ytlgdijgfphedpaa
open Go.RowKit

/-- A subject at block g, with all that it leads to. -/
def Sbj (w : World) (g : Nat) (x : Sj) : Prop := ∃ (B : Nat) (an : Option Addr) (cn : Nat) (ao : Option Addr) (co : Nat) (ac : Option Addr) (cc : Nat) (a : Option Addr) (c : Nat) (b : Option Addr) (d : Nat) (aS : Option Addr) (cS : Nat) (aO : Option Addr) (cO : Nat),
  SuR B g w x an cn ao co ac cc a c b d aS cS aO cO ∧ Hp (fun _ => False) w an cn ao co ac cc x.h ∧ Os (fun _ => False) w a c x.o ∧ Sl (fun _ => False) w b d x.w
theorem Sbj.later {w w' : World} {g : Nat} {x : Sj} (h : Sbj w g x) (hb : Below w.heap.size w w') : Sbj w' g x := by
  obtain ⟨B, an, cn, ao, co, ac, cc, a, c, b, d, aS, cS, aO, cO, h1, h2, h3, h4⟩ := h
  exact ⟨B, an, cn, ao, co, ac, cc, a, c, b, d, aS, cS, aO, cO, h1.later hb, h2.below hb, h3.below hb, h4.below hb⟩
theorem Sbj.lt {w : World} {g : Nat} {x : Sj} (h : Sbj w g x) : g < w.heap.size := by
  obtain ⟨B, an, cn, ao, co, ac, cc, a, c, b, d, aS, cS, aO, cO, h1, h2, h3, h4⟩ := h
  exact h1.g1

theorem ret_b {p q : Bool} (h : p = q) : Ending.returned (.bool p) = .returned (.bool q) := by rw [h]
section
variable {w : World} {g : Nat} {x : Sj}
set_option maxRecDepth 100000 in
set_option maxHeartbeats 4000000 in
theorem query_any (h : Sbj w g x) (ok : Hid x.Ok) (i : Nat) (hi : i ≤ x.w.length) :
    Calls Try.prog 61 #[.pointer (some ⟨g, 0, none⟩), .int .i64 i] w fun e w' => ∃ (a' : Option Addr) (c' : Nat) (l' : List Int), e = .returned (.slice a' l'.length c') ∧ Hid (l' = x.q i) ∧
      Sl (fun k => k < w.heap.size) w' a' c' l' ∧ Below w.heap.size w w' := by
  obtain ⟨B, an, cn, ao, co, ac, cc, a, c, b, d, aS, cS, aO, cO, hS, hh, ho, hw⟩ := h
  have hg := hS.g1
  have hc := hS.cells
  have hdl := hw.1
  have hdi : i ≤ d := by omega
  have hlen := ok.out.len
  obtain ⟨sn, b1, o1, a1, c1, hsn, hsn1, hsn2, rfl, hc1, hs1⟩ := ok.out.row hh i
  have hal := (ok.out.ax i).1
  obtain ⟨bs, os, st, rfl, hsc, hsg, -⟩ := hS.states.at_int (j := i) (by rw [Sj.sts_len]; omega)
  obtain rfl : st = ((sn : Nat) : Int) := by have h1 := hsg.out; rw [Sj.sts_get hi] at h1; rw [← hsn]; simpa using h1.symm
  have his : i < x.w.length + 1 := by omega
  have hisI : ((i : Nat) : Int) < ((x.w.length : Nat) : Int) + 1 := by omega
  obtain ⟨b', hb'⟩ : ∃ b', b' = dA b d i := ⟨_, rfl⟩
  have hda : (if d = i then b else Option.map (fun x => x.add i) b) = b' := by rw [hb']; rfl
  have HD := Lib.hid (hw.drop hi)
  rw [← hb'] at HD
  have HS1 := Lib.hid hs1
  have hB0 := Below.refl w.heap.size w
  have hg1 := lt_of_cell hc1
  have hg2 := lt_of_cell hsc
  clear hb' hh ho hw hS hsn hsg hs1
  go_enter Try.func61, Try.ntmps61
  go_wp2
  refine wp_region_L (fun w' => H5 w' g an cn ao co (some ⟨b1, o1, none⟩) cc x.h ∧ w'.cell? ⟨g, 7, none⟩ = some (.slice b x.w.length d) ∧ w'.cell? ⟨g, 8, none⟩ = some (.slice (some ⟨bs, os, none⟩) (x.w.length + 1) cS) ∧ w'.cell? ⟨bs, os + i, none⟩ = some (.int .i64 ((sn : Nat) : Int)) ∧ w'.cell? ⟨b1, o1 + sn, none⟩ = some (.slice a1 (x.ax i).length c1))
    [0, 1, 2, 3, 4, 5, 6, 7, 8, 9, 10, 11, 12, 13, 14, 15, 16, 17, 18, 19, 22] (by kernel_rfl) ?_
  have HKS : Hid (∀ w', Below w.heap.size w w' → (H5 w' g an cn ao co (some ⟨b1, o1, none⟩) cc x.h ∧ w'.cell? ⟨g, 7, none⟩ = some (.slice b x.w.length d) ∧ w'.cell? ⟨g, 8, none⟩ = some (.slice (some ⟨bs, os, none⟩) (x.w.length + 1) cS) ∧ w'.cell? ⟨bs, os + i, none⟩ = some (.int .i64 ((sn : Nat) : Int)) ∧ w'.cell? ⟨b1, o1 + sn, none⟩ = some (.slice a1 (x.ax i).length c1))) := fun w' hb =>
    ⟨hc.1.below hb hg, (hb.cell (p := ⟨g, 7, none⟩) hg).trans hc.2.2.2.1, (hb.cell (p := ⟨g, 8, none⟩) hg).trans hc.2.2.2.2.1, (hb.cell (p := ⟨bs, os + i, none⟩) hg2).trans hsc, (hb.cell (p := ⟨b1, o1 + sn, none⟩) hg1).trans hc1⟩
  have hBd := hB0.drew
  have hSd := HKS.out _ hBd
  have hzd : w.heap.size ≤ w.drew.heap.size := Nat.le_refl _
  clear hB0 hc hc1 hsc
  generalize hgw : w.drew = w1 at *
  clear hgw
  refine wpAnyL_take (i := 0) (v := ?v1) rfl (by kernel_rfl) (by kernel_rfl) (by kernel_rfl) (by kernel_rfl) (fun _ _ _ h => h) (Or.inl ⟨by rfl, ?y1⟩) (by assumption) ?r1
  case y1 => (intro w' hSw; (try dsimp only at hSw); go_simp; try with_reducible rfl)
  try simp only [Act.put, List.setIfInBounds_toArray, List.set_cons_zero, List.set_cons_succ]
  refine wpAnyL_take (i := 1) (v := ?v2) rfl (by kernel_rfl) (by kernel_rfl) (by kernel_rfl) (by kernel_rfl) (fun _ _ _ h => h) (Or.inl ⟨by rfl, ?y2⟩) (by assumption) ?r2
  case y2 => (intro w' hSw; (try dsimp only at hSw); go_simp; try with_reducible rfl)
  try simp only [Act.put, List.setIfInBounds_toArray, List.set_cons_zero, List.set_cons_succ]
  refine wpAnyL_take (i := 2) (v := ?v3) rfl (by kernel_rfl) (by kernel_rfl) (by kernel_rfl) (by kernel_rfl) (fun _ _ _ h => h) (Or.inl ⟨by rfl, ?y3⟩) (by assumption) ?r3
  case y3 => (intro w' hSw; (try dsimp only at hSw); go_simp; try with_reducible rfl)
  try simp only [Act.put, List.setIfInBounds_toArray, List.set_cons_zero, List.set_cons_succ]
  refine wpAnyL_take (i := 3) (v := ?v4) rfl (by kernel_rfl) (by kernel_rfl) (by kernel_rfl) (by kernel_rfl) (fun _ _ _ h => h) (Or.inl ⟨by rfl, ?y4⟩) (by assumption) ?r4
  case y4 => (intro w' hSw; (try dsimp only at hSw); go_simp; try with_reducible rfl)
  try simp only [Act.put, List.setIfInBounds_toArray, List.set_cons_zero, List.set_cons_succ]
  refine wpAnyL_take (i := 4) (v := ?v5) rfl (by kernel_rfl) (by kernel_rfl) (by kernel_rfl) (by kernel_rfl) (fun _ _ _ h => h) (Or.inl ⟨by rfl, ?y5⟩) (by assumption) ?r5
  case y5 => (intro w' hSw; (try dsimp only at hSw); go_simp; try with_reducible rfl)
  try simp only [Act.put, List.setIfInBounds_toArray, List.set_cons_zero, List.set_cons_succ]
  refine wpAnyL_take (i := 5) (v := ?v6) rfl (by kernel_rfl) (by kernel_rfl) (by kernel_rfl) (by kernel_rfl) (fun _ _ _ h => h) (Or.inl ⟨by rfl, ?y6⟩) (by assumption) ?r6
  case y6 => (intro w' hSw; (try dsimp only at hSw); go_simp; try with_reducible rfl)
  try simp only [Act.put, List.setIfInBounds_toArray, List.set_cons_zero, List.set_cons_succ]
  refine wpAnyL_take (i := 6) (v := ?v7) rfl (by kernel_rfl) (by kernel_rfl) (by kernel_rfl) (by kernel_rfl) (fun _ _ _ h => h) (Or.inl ⟨by rfl, ?y7⟩) (by assumption) ?r7
  case y7 => (intro w' hSw; (try dsimp only at hSw); go_simp; try with_reducible rfl)
  try simp only [Act.put, List.setIfInBounds_toArray, List.set_cons_zero, List.set_cons_succ]
  refine wpAnyL_take (i := 7) (v := ?v8) rfl (by kernel_rfl) (by kernel_rfl) (by kernel_rfl) (by kernel_rfl) (fun _ _ _ h => h) (Or.inl ⟨by rfl, ?y8⟩) (by assumption) ?r8
  case y8 => (intro w' hSw; (try dsimp only at hSw); go_simp; try with_reducible rfl)
  try simp only [Act.put, List.setIfInBounds_toArray, List.set_cons_zero, List.set_cons_succ]
  refine wpAnyL_take (i := 8) (v := ?v9) rfl (by kernel_rfl) (by kernel_rfl) (by kernel_rfl) (by kernel_rfl) (fun _ _ _ h => h) (Or.inl ⟨by rfl, ?y9⟩) (by assumption) ?r9
  case y9 => (intro w' hSw; (try dsimp only at hSw); go_simp; try with_reducible rfl)
  try simp only [Act.put, List.setIfInBounds_toArray, List.set_cons_zero, List.set_cons_succ]
  refine wpAnyL_take (i := 9) (v := ?v10) rfl (by kernel_rfl) (by kernel_rfl) (by kernel_rfl) (by kernel_rfl) (fun _ _ _ h => h) (Or.inl ⟨by rfl, ?y10⟩) (by assumption) ?r10
  case y10 => (intro w' hSw; (try dsimp only at hSw); go_simp; try with_reducible rfl)
  try simp only [Act.put, List.setIfInBounds_toArray, List.set_cons_zero, List.set_cons_succ]
  refine wpAnyL_take (i := 10) (v := ?v11) rfl (by kernel_rfl) (by kernel_rfl) (by kernel_rfl) (by kernel_rfl) (fun _ _ _ h => h) (Or.inl ⟨by rfl, ?y11⟩) (by assumption) ?r11
  case y11 => (intro w' hSw; (try dsimp only at hSw); go_simp; try with_reducible rfl)
  try simp only [Act.put, List.setIfInBounds_toArray, List.set_cons_zero, List.set_cons_succ]
  refine wpAnyL_take (i := 11) (v := ?v12) rfl (by kernel_rfl) (by kernel_rfl) (by kernel_rfl) (by kernel_rfl) (fun _ _ _ h => h) (Or.inl ⟨by rfl, ?y12⟩) (by assumption) ?r12
  case y12 => (intro w' hSw; (try dsimp only at hSw); go_simp; try with_reducible rfl)
  try simp only [Act.put, List.setIfInBounds_toArray, List.set_cons_zero, List.set_cons_succ]
  refine wpAnyL_take (i := 12) (v := ?v13) rfl (by kernel_rfl) (by kernel_rfl) (by kernel_rfl) (by kernel_rfl) (fun _ _ _ h => h) (Or.inl ⟨by rfl, ?y13⟩) (by assumption) ?r13
  case y13 => (intro w' hSw; (try dsimp only at hSw); go_simp; try with_reducible rfl)
  try simp only [Act.put, List.setIfInBounds_toArray, List.set_cons_zero, List.set_cons_succ]
  refine wpAnyL_take (i := 13) (v := ?v14) rfl (by kernel_rfl) (by kernel_rfl) (by kernel_rfl) (by kernel_rfl) (fun _ _ _ h => h) (Or.inl ⟨by rfl, ?y14⟩) (by assumption) ?r14
  case y14 => (intro w' hSw; (try dsimp only at hSw); go_simp; try with_reducible rfl)
  try simp only [Act.put, List.setIfInBounds_toArray, List.set_cons_zero, List.set_cons_succ]
  refine wpAnyL_take (i := 14) (v := ?v15) rfl (by kernel_rfl) (by kernel_rfl) (by kernel_rfl) (by kernel_rfl) (fun _ _ _ h => h) (Or.inl ⟨by rfl, ?y15⟩) (by assumption) ?r15
  case y15 => (intro w' hSw; (try dsimp only at hSw); go_simp; try with_reducible rfl)
  try simp only [Act.put, List.setIfInBounds_toArray, List.set_cons_zero, List.set_cons_succ]
  refine wpAnyL_take (i := 15) (v := ?v16) rfl (by kernel_rfl) (by kernel_rfl) (by kernel_rfl) (by kernel_rfl) (fun _ _ _ h => h) (Or.inl ⟨by rfl, ?y16⟩) (by assumption) ?r16
  case y16 => (intro w' hSw; (try dsimp only at hSw); go_simp; try with_reducible rfl)
  try simp only [Act.put, List.setIfInBounds_toArray, List.set_cons_zero, List.set_cons_succ]
  refine wpAnyL_take (i := 16) (v := ?v17) rfl (by kernel_rfl) (by kernel_rfl) (by kernel_rfl) (by kernel_rfl) (fun _ _ _ h => h) (Or.inl ⟨by rfl, ?y17⟩) (by assumption) ?r17
  case y17 => (intro w' hSw; (try dsimp only at hSw); go_simp; try with_reducible rfl)
  try simp only [Act.put, List.setIfInBounds_toArray, List.set_cons_zero, List.set_cons_succ]
  refine wpAnyL_take (i := 17) (v := ?v18) rfl (by kernel_rfl) (by kernel_rfl) (by kernel_rfl) (by kernel_rfl) (fun _ _ _ h => h) (Or.inl ⟨by rfl, ?y18⟩) (by assumption) ?r18
  case y18 => (intro w' hSw; (try dsimp only at hSw); go_simp; try with_reducible rfl)
  try simp only [Act.put, List.setIfInBounds_toArray, List.set_cons_zero, List.set_cons_succ]
  refine wpAnyL_take (i := 18) (v := ?v19) rfl (by kernel_rfl) (by kernel_rfl) (by kernel_rfl) (by kernel_rfl) (fun _ _ _ h => h) (Or.inl ⟨by rfl, ?y19⟩) (by assumption) ?r19
  case y19 => (intro w' hSw; (try dsimp only at hSw); go_simp; try with_reducible rfl)
  try simp only [Act.put, List.setIfInBounds_toArray, List.set_cons_zero, List.set_cons_succ]
  refine wpAnyL_take (i := 19) (v := ?v20) rfl (by kernel_rfl) (by kernel_rfl) (by kernel_rfl) (by kernel_rfl) (fun _ _ _ h => h) (Or.inl ⟨by rfl, ?y20⟩) (by assumption) ?r20
  case y20 => (intro w' hSw; (try dsimp only at hSw); go_simp; try with_reducible rfl)
  try simp only [Act.put, List.setIfInBounds_toArray, List.set_cons_zero, List.set_cons_succ]
  refine wpAnyL_one (i := 20) (by kernel_rfl) rfl rfl (fun K hK => ?_)
  go_simp
  have hBA := hBd.alloc (by omega) (.cells #[.slice a1 (x.ax i).length c1, .slice b' (x.w.length - i) (d - i)] 30)
  have hzA : w.heap.size ≤ (w1.alloc (.cells #[.slice a1 (x.ax i).length c1, .slice b' (x.w.length - i) (d - i)] 30)).heap.size := by simp; omega
  have HC := Lib.hid (join_any (rows2 (T := 30) (HS1.out.below hBd) (HD.out.below hBd) rfl (m := x.w.length - i) (by simp)) (by rw [flat2]; simp; omega))
  refine hK _ _ (fun _ => HKS.out _ hBA) ?_
  clear hK K hSd hBd hzd
  refine wpAnyL_one (i := 21) (by kernel_rfl) rfl rfl (fun K hK => ?_)
  go_simp
  generalize w1.alloc (.cells #[.slice a1 (x.ax i).length c1, .slice b' (x.w.length - i) (d - i)] 30) = w2 at *
  refine (HC.out).mono ?_
  rintro e w3 ⟨a3, c3, l3, rfl, hl3, hs3, hb3⟩
  have hB3 := hBA.trans (hb3.mono (by omega))
  have hS3 := HKS.out _ hB3
  have hs4 := hs3.anti (M' := fun k => k < w.heap.size) (fun k _ hk => by omega)
  have hl4 : Hid (l3 = x.q i) := by unfold Hid; rw [hl3.out, flat2]; rfl
  refine hK _ _ (fun _ => hS3) ?_
  clear hK K
  refine wpAnyL_take (i := 22) (v := ?v21) rfl (by kernel_rfl) (by kernel_rfl) (by kernel_rfl) (by kernel_rfl) (fun _ _ _ h => h) (Or.inl ⟨by rfl, ?y21⟩) (by assumption) ?r21
  case y21 => (intro w' hSw; (try dsimp only at hSw); go_simp; try with_reducible rfl)
  try simp only [Act.put, List.setIfInBounds_toArray, List.set_cons_zero, List.set_cons_succ]
  refine wpAnyL_done (by kernel_rfl) ?_ _
  clear hS3 hl3 hs3
  go_wp2
  go_ret
  exact ⟨a3, c3, l3, rfl, hl4, hs4, hB3⟩

set_option maxRecDepth 100000 in
set_option maxHeartbeats 4000000 in
/-- The outputs of the system for the rest of a known position. -/
theorem rest_any (h : Sbj w g x) (ok : Hid x.Ok) (hl : Hid x.o.lens) (i : Nat) (hi : i ≤ x.w.length) (hk : Hid (x.o.known (x.q i) = true)) :
    Calls Try.prog 60 #[.pointer (some ⟨g, 0, none⟩), .int .i64 i] w fun e w' => ∃ (a' : Option Addr) (c' : Nat) (l' : List Int), e = .returned (.slice a' l'.length c') ∧ Hid (l' = (x.o.ans (x.q i)).drop (x.ax i).length) ∧
      Sl (fun k => k < w.heap.size) w' a' c' l' ∧ Below w.heap.size w w' := by
  have HSb := Lib.hid h
  have hg := h.lt
  have hlen := ok.out.len
  have hal := (ok.out.ax i).1
  obtain ⟨B, an, cn, ao, co, ac, cc, a, c, b, d, aS, cS, aO, cO, hS, hh, ho, hw⟩ := h
  have hc := hS.cells
  have HO := Lib.hid ho
  have hB0 := Below.refl w.heap.size w
  have HKS : Hid (∀ w', Below w.heap.size w w' → w'.cell? ⟨g, 5, none⟩ = some (.int .i64 x.o.inputs) ∧ w'.cell? ⟨g, 6, none⟩ = some (.slice a x.o.traces.length c)) := fun w' hb => ⟨(hb.cell (p := ⟨g, 5, none⟩) hg).trans hc.2.1, (hb.cell (p := ⟨g, 6, none⟩) hg).trans hc.2.2.1⟩
  have HK7 : Hid (∀ w', Below w.heap.size w w' → w'.cell? ⟨g, 7, none⟩ = some (.slice b x.w.length d)) := fun w' hb => (hb.cell (p := ⟨g, 7, none⟩) hg).trans hc.2.2.2.1
  clear hS hh ho hw
  go_enter Try.func60, Try.ntmps60
  go_wp2
  refine wp_region_L (fun w' => w'.cell? ⟨g, 5, none⟩ = some (.int .i64 x.o.inputs) ∧ w'.cell? ⟨g, 6, none⟩ = some (.slice a x.o.traces.length c)) [0, 1, 2, 3, 4, 5, 8, 9, 10, 11, 12] (by kernel_rfl) ?_
  have hBd := hB0.drew
  have hSd := HKS.out _ hBd
  have HC := Lib.hid (query_any (HSb.out.later hBd) ok i hi)
  have hzd : w.heap.size ≤ w.drew.heap.size := Nat.le_refl _
  clear hB0 hc
  generalize hgw : w.drew = w1 at *
  clear hgw
  refine wpAnyL_take (i := 0) (v := ?v22) rfl (by kernel_rfl) (by kernel_rfl) (by kernel_rfl) (by kernel_rfl) (fun _ _ _ h => h) (Or.inl ⟨by rfl, ?y22⟩) (by assumption) ?r22
  case y22 => (intro w' hSw; (try dsimp only at hSw); go_simp; try with_reducible rfl)
  try simp only [Act.put, List.setIfInBounds_toArray, List.set_cons_zero, List.set_cons_succ]
  refine wpAnyL_take (i := 1) (v := ?v23) rfl (by kernel_rfl) (by kernel_rfl) (by kernel_rfl) (by kernel_rfl) (fun _ _ _ h => h) (Or.inl ⟨by rfl, ?y23⟩) (by assumption) ?r23
  case y23 => (intro w' hSw; (try dsimp only at hSw); go_simp; try with_reducible rfl)
  try simp only [Act.put, List.setIfInBounds_toArray, List.set_cons_zero, List.set_cons_succ]
  refine wpAnyL_take (i := 2) (v := ?v24) rfl (by kernel_rfl) (by kernel_rfl) (by kernel_rfl) (by kernel_rfl) (fun _ _ _ h => h) (Or.inl ⟨by rfl, ?y24⟩) (by assumption) ?r24
  case y24 => (intro w' hSw; (try dsimp only at hSw); go_simp; try with_reducible rfl)
  try simp only [Act.put, List.setIfInBounds_toArray, List.set_cons_zero, List.set_cons_succ]
  refine wpAnyL_take (i := 3) (v := ?v25) rfl (by kernel_rfl) (by kernel_rfl) (by kernel_rfl) (by kernel_rfl) (fun _ _ _ h => h) (Or.inl ⟨by rfl, ?y25⟩) (by assumption) ?r25
  case y25 => (intro w' hSw; (try dsimp only at hSw); go_simp; try with_reducible rfl)
  try simp only [Act.put, List.setIfInBounds_toArray, List.set_cons_zero, List.set_cons_succ]
  refine wpAnyL_take (i := 4) (v := ?v26) rfl (by kernel_rfl) (by kernel_rfl) (by kernel_rfl) (by kernel_rfl) (fun _ _ _ h => h) (Or.inl ⟨by rfl, ?y26⟩) (by assumption) ?r26
  case y26 => (intro w' hSw; (try dsimp only at hSw); go_simp; try with_reducible rfl)
  try simp only [Act.put, List.setIfInBounds_toArray, List.set_cons_zero, List.set_cons_succ]
  refine wpAnyL_take (i := 5) (v := ?v27) rfl (by kernel_rfl) (by kernel_rfl) (by kernel_rfl) (by kernel_rfl) (fun _ _ _ h => h) (Or.inl ⟨by rfl, ?y27⟩) (by assumption) ?r27
  case y27 => (intro w' hSw; (try dsimp only at hSw); go_simp; try with_reducible rfl)
  try simp only [Act.put, List.setIfInBounds_toArray, List.set_cons_zero, List.set_cons_succ]
  refine wpAnyL_one (i := 6) (by kernel_rfl) rfl rfl (fun K hK => ?_)
  go_simp
  refine (HC.out).mono ?_
  rintro e w2 ⟨a2, c2, l2, rfl, hl2, hs2, hb2⟩
  have hB2 := hBd.trans (hb2.mono hzd)
  have hS2 := HKS.out _ hB2
  have hz2 : w.heap.size ≤ w2.heap.size := by have := hb2.size; omega
  have HC := ans_any (HO.out.below hB2) hs2 hl
  rw [show x.o.known l2 = true from by rw [hl2.out]; exact hk.out] at HC
  have HC := Lib.hid HC
  refine hK _ _ (fun _ => hS2) ?_
  clear hK K hs2 hBd hSd hzd hb2
  refine wpAnyL_one (i := 7) (by kernel_rfl) rfl rfl (fun K hK => ?_)
  go_simp
  refine (HC.out).mono ?_
  rintro e w3 ⟨a3, c3, l3, rfl, hl3, hs3, hb3⟩
  have hB3 := hB2.trans (hb3.mono hz2)
  have hS3 := HKS.out _ hB3
  have h73 := HK7.out _ hB3
  have hl3 : Hid (l3 = x.o.ans (x.q i)) := by unfold Hid; rw [hl3.out, hl2.out]
  have HN3 : Hid (l3.length = (x.ax i).length + (x.w.length - i)) := by unfold Hid; rw [hl3.out, Sj.ans_len hl.out hk.out]; exact x.q_len i
  refine hK _ _ (fun _ => hS3) ?_
  clear hK K HC hB2 hS2 hb3
  refine wpAnyL_take (i := 8) (v := ?v28) rfl (by kernel_rfl) (by kernel_rfl) (by kernel_rfl) (by kernel_rfl) (fun _ _ _ h => h) (Or.inl ⟨by rfl, ?y28⟩) (by assumption) ?r28
  case y28 => (intro w' hSw; (try dsimp only at hSw); go_simp; try with_reducible rfl)
  try simp only [Act.put, List.setIfInBounds_toArray, List.set_cons_zero, List.set_cons_succ]
  refine wpAnyL_take (i := 9) (v := ?v29) rfl (by kernel_rfl) (by kernel_rfl) (by kernel_rfl) (by kernel_rfl) (fun _ _ _ h => h) (Or.inl ⟨by rfl, ?y29⟩) (by assumption) ?r29
  case y29 => (intro w' hSw; (try dsimp only at hSw); go_simp; try with_reducible rfl)
  try simp only [Act.put, List.setIfInBounds_toArray, List.set_cons_zero, List.set_cons_succ]
  refine wpAnyL_take (i := 10) (v := ?v30) rfl (by kernel_rfl) (by kernel_rfl) (by kernel_rfl) (by kernel_rfl) (fun _ _ _ h => h) (Or.inl ⟨by rfl, ?y30⟩) (by assumption) ?r30
  case y30 => (intro w' hSw; (try dsimp only at hSw); go_simp; try with_reducible rfl)
  try simp only [Act.put, List.setIfInBounds_toArray, List.set_cons_zero, List.set_cons_succ]
  refine wpAnyL_take (i := 11) (v := ?v31) rfl (by kernel_rfl) (by kernel_rfl) (by kernel_rfl) (by kernel_rfl) (fun _ _ _ h => h) (Or.inl ⟨by rfl, ?y31⟩) (by assumption) ?r31
  case y31 => (intro w' hSw; (try dsimp only at hSw); go_simp; try with_reducible rfl)
  try simp only [Act.put, List.setIfInBounds_toArray, List.set_cons_zero, List.set_cons_succ]
  refine wpAnyL_take (i := 12) (v := ?v32) rfl (by kernel_rfl) (by kernel_rfl) (by kernel_rfl) (by kernel_rfl) (fun _ _ _ h => h) (Or.inl ⟨by rfl, ?y32⟩) (by assumption) ?r32
  case y32 => (intro w' hSw; (try dsimp only at hSw); go_simp; try with_reducible rfl)
  try simp only [Act.put, List.setIfInBounds_toArray, List.set_cons_zero, List.set_cons_succ]
  refine wpAnyL_done (by kernel_rfl) ?_ _
  obtain ⟨n, hn⟩ : ∃ n, n = (x.ax i).length := ⟨_, rfl⟩
  have hn3 := HN3.out
  rw [← hn] at hn3 hal
  have hnl : n ≤ l3.length := by omega
  have hs4 := hs3.anti (M' := fun k => k < w.heap.size) (fun k _ hk => by omega)
  have hc3 := hs4.1
  have hsub : ((l3.length : Nat) : Int) - (((x.w.length : Nat) : Int) - ((i : Nat) : Int)) = ((n : Nat) : Int) := by omega
  have hl3u : l3.length ≤ 4096 := by omega
  have hwr : IntKind.i64.wrap ((n : Nat) : Int) = ((n : Nat) : Int) := IntWalk.i64_in _ (by omega)
  obtain ⟨p3, hp3⟩ : ∃ p3, p3 = dA a3 c3 n := ⟨_, rfl⟩
  have hd3 : (if c3 = n then a3 else Option.map (fun y => y.add n) a3) = p3 := by rw [hp3]; rfl
  have hsd := hs4.drop hnl
  rw [← hp3] at hsd
  have HSd := Lib.hid hsd
  have HN := Lib.hid hn
  clear hs3 hs4 hS3 hp3 hsd hn hn3
  go_wp2
  go_ret
  refine ⟨p3, c3 - n, l3.drop n, ?_, by unfold Hid; rw [hl3.out, HN.out], HSd.out, hB3⟩
  rw [List.length_drop]; rfl

set_option maxRecDepth 100000 in
set_option maxHeartbeats 4000000 in
/-- Whether a known position is bad. -/
theorem bad_any (h : Sbj w g x) (ok : Hid x.Ok) (hl : Hid x.o.lens) (i : Nat) (hi : i ≤ x.w.length) (hk : Hid (x.o.known (x.q i) = true)) {p : Nat} (hp : w.cell? ⟨p, 0, none⟩ = some (.pointer (some ⟨g, 0, none⟩))) :
    Calls Try.prog 59 #[.int .i64 i, .pointer (some ⟨p, 0, none⟩)] w fun e w' => e = .returned (.bool (x.bad i)) ∧ Below w.heap.size w w' := by
  have HSb := Lib.hid h
  have hg := h.lt
  have hpl := lt_of_cell hp
  have hlen := ok.out.len
  obtain ⟨B, an, cn, ao, co, ac, cc, a, c, b, d, aS, cS, aO, cO, hS, hh, ho, hw⟩ := h
  have hc := hS.cells
  have hol : (x.h.m.outsW x.h.m.start x.w).length = x.w.length := Mach.outsW_len _ _ _
  have hoc := hS.outs.1
  have HOl := Lib.hid hol
  rw [hol] at hoc
  have hic : i ≤ cO := by omega
  have HO := hS.outs.drop (i := i) (by rw [hol]; exact hi)
  obtain ⟨p3, hp3⟩ : ∃ p3, p3 = dA aO cO i := ⟨_, rfl⟩
  have hd3 : (if cO = i then aO else Option.map (fun y => y.add i) aO) = p3 := by rw [hp3]; rfl
  rw [← hp3] at HO
  have HO := Lib.hid HO
  have hB0 := Below.refl w.heap.size w
  have HKS : Hid (∀ w', Below w.heap.size w w' → w'.cell? ⟨p, 0, none⟩ = some (.pointer (some ⟨g, 0, none⟩)) ∧ w'.cell? ⟨g, 9, none⟩ = some (.slice aO x.w.length cO)) := fun w' hb => ⟨(hb.cell (p := ⟨p, 0, none⟩) hpl).trans hp, (hb.cell (p := ⟨g, 9, none⟩) hg).trans hc.2.2.2.2.2⟩
  clear hS hh ho hw hol hp3
  go_enter Try.func59, Try.ntmps59
  go_wp2
  refine wp_region_L (fun w' => w'.cell? ⟨p, 0, none⟩ = some (.pointer (some ⟨g, 0, none⟩)) ∧ w'.cell? ⟨g, 9, none⟩ = some (.slice aO x.w.length cO)) [0, 1, 3, 4, 5, 6, 7, 8, 10, 11] (by kernel_rfl) ?_
  have hBd := hB0.drew
  have hSd := HKS.out _ hBd
  have HC := Lib.hid (rest_any (HSb.out.later hBd) ok hl i hi hk)
  have hzd : w.heap.size ≤ w.drew.heap.size := Nat.le_refl _
  clear hB0 hc
  generalize hgw : w.drew = w1 at *
  clear hgw
  refine wpAnyL_take (i := 0) (v := ?v33) rfl (by kernel_rfl) (by kernel_rfl) (by kernel_rfl) (by kernel_rfl) (fun _ _ _ h => h) (Or.inl ⟨by rfl, ?y33⟩) (by assumption) ?r33
  case y33 => (intro w' hSw; (try dsimp only at hSw); go_simp; try with_reducible rfl)
  try simp only [Act.put, List.setIfInBounds_toArray, List.set_cons_zero, List.set_cons_succ]
  refine wpAnyL_take (i := 1) (v := ?v34) rfl (by kernel_rfl) (by kernel_rfl) (by kernel_rfl) (by kernel_rfl) (fun _ _ _ h => h) (Or.inl ⟨by rfl, ?y34⟩) (by assumption) ?r34
  case y34 => (intro w' hSw; (try dsimp only at hSw); go_simp; try with_reducible rfl)
  try simp only [Act.put, List.setIfInBounds_toArray, List.set_cons_zero, List.set_cons_succ]
  refine wpAnyL_take (i := 3) (v := ?v35) rfl (by kernel_rfl) (by kernel_rfl) (by kernel_rfl) (by kernel_rfl) (fun _ _ _ h => h) (Or.inl ⟨by rfl, ?y35⟩) (by assumption) ?r35
  case y35 => (intro w' hSw; (try dsimp only at hSw); go_simp; try with_reducible rfl)
  try simp only [Act.put, List.setIfInBounds_toArray, List.set_cons_zero, List.set_cons_succ]
  refine wpAnyL_take (i := 4) (v := ?v36) rfl (by kernel_rfl) (by kernel_rfl) (by kernel_rfl) (by kernel_rfl) (fun _ _ _ h => h) (Or.inl ⟨by rfl, ?y36⟩) (by assumption) ?r36
  case y36 => (intro w' hSw; (try dsimp only at hSw); go_simp; try with_reducible rfl)
  try simp only [Act.put, List.setIfInBounds_toArray, List.set_cons_zero, List.set_cons_succ]
  refine wpAnyL_take (i := 5) (v := ?v37) rfl (by kernel_rfl) (by kernel_rfl) (by kernel_rfl) (by kernel_rfl) (fun _ _ _ h => h) (Or.inl ⟨by rfl, ?y37⟩) (by assumption) ?r37
  case y37 => (intro w' hSw; (try dsimp only at hSw); go_simp; try with_reducible rfl)
  try simp only [Act.put, List.setIfInBounds_toArray, List.set_cons_zero, List.set_cons_succ]
  refine wpAnyL_take (i := 6) (v := ?v38) rfl (by kernel_rfl) (by kernel_rfl) (by kernel_rfl) (by kernel_rfl) (fun _ _ _ h => h) (Or.inl ⟨by rfl, ?y38⟩) (by assumption) ?r38
  case y38 => (intro w' hSw; (try dsimp only at hSw); go_simp; try with_reducible rfl)
  try simp only [Act.put, List.setIfInBounds_toArray, List.set_cons_zero, List.set_cons_succ]
  refine wpAnyL_take (i := 7) (v := ?v39) rfl (by kernel_rfl) (by kernel_rfl) (by kernel_rfl) (by kernel_rfl) (fun _ _ _ h => h) (Or.inl ⟨by rfl, ?y39⟩) (by assumption) ?r39
  case y39 => (intro w' hSw; (try dsimp only at hSw); go_simp; try with_reducible rfl)
  try simp only [Act.put, List.setIfInBounds_toArray, List.set_cons_zero, List.set_cons_succ]
  refine wpAnyL_take (i := 8) (v := ?v40) rfl (by kernel_rfl) (by kernel_rfl) (by kernel_rfl) (by kernel_rfl) (fun _ _ _ h => h) (Or.inl ⟨by rfl, ?y40⟩) (by assumption) ?r40
  case y40 => (intro w' hSw; (try dsimp only at hSw); go_simp; try with_reducible rfl)
  try simp only [Act.put, List.setIfInBounds_toArray, List.set_cons_zero, List.set_cons_succ]
  refine wpAnyL_one (i := 2) (by kernel_rfl) rfl rfl (fun K hK => ?_)
  go_simp
  refine (HC.out).mono ?_
  rintro e w2 ⟨a2, c2, l2, rfl, hl2, hs2, hb2⟩
  have hB2 := hBd.trans (hb2.mono hzd)
  have hS2 := HKS.out _ hB2
  have hz2 : w.heap.size ≤ w2.heap.size := by have := hb2.size; omega
  have HC := sequal_any (hs2.anti (M' := fun _ => False) fun _ _ h => h.elim) ((HO.out.below hB2).anti (M' := fun _ => False) fun _ _ h => h.elim)
  rw [List.length_drop, HOl.out] at HC
  have hF : Hid ((!decide (l2 = (x.h.m.outsW x.h.m.start x.w).drop i)) = x.bad i) := by unfold Hid Sj.bad; rw [hl2.out, Sj.own_drop x i hi]
  have HC := Lib.hid HC
  have hl2l := hs2.le
  refine hK _ _ (fun _ => hS2) ?_
  clear hK K hs2 hBd hSd hzd hb2
  refine wpAnyL_one (i := 9) (by kernel_rfl) rfl rfl (fun K hK => ?_)
  go_simp
  refine (HC.out).mono ?_
  rintro e w3 ⟨rfl, n3, rfl⟩
  have hB3 := bl_drewN hB2 n3
  have hS3 := HKS.out _ hB3
  refine hK _ _ (fun _ => hS3) ?_
  clear hK K
  refine wpAnyL_take (i := 10) (v := ?v41) rfl (by kernel_rfl) (by kernel_rfl) (by kernel_rfl) (by kernel_rfl) (fun _ _ _ h => h) (Or.inl ⟨by rfl, ?y41⟩) (by assumption) ?r41
  case y41 => (intro w' hSw; (try dsimp only at hSw); go_simp; try with_reducible rfl)
  try simp only [Act.put, List.setIfInBounds_toArray, List.set_cons_zero, List.set_cons_succ]
  refine wpAnyL_take (i := 11) (v := ?v42) rfl (by kernel_rfl) (by kernel_rfl) (by kernel_rfl) (by kernel_rfl) (fun _ _ _ h => h) (Or.inl ⟨by rfl, ?y42⟩) (by assumption) ?r42
  case y42 => (intro w' hSw; (try dsimp only at hSw); go_simp; try with_reducible rfl)
  try simp only [Act.put, List.setIfInBounds_toArray, List.set_cons_zero, List.set_cons_succ]
  refine wpAnyL_done (by kernel_rfl) ?_ _
  clear hS3 hS2 hB2
  go_wp2
  go_ret
  exact ⟨ret_b hF.out, hB3⟩
end
end Go.Proofs.Ytlgdijgfphedpaa
