/- The law of chapter 8 on Min and Minimal. No condition. -/
import Derived.Test.YtdnmgiabgpilkaaMinimalR
import Derived.Test.YtdnmgiabgpilkaaLaws8
import Derived.Test.YtdnmgiabgpilkaaC4
namespace Go.Proofs.Ytdnmgiabgpilkaa
open Go.RowKit
theorem same6_eq {M : Nat → Prop} {w : World} {an ao an' ao' : Option Addr} {cn co cn' co' : Nat} {m m' : Mach} (hm : Ma M w an cn ao co m) (hm' : Ma M w an' cn' ao' co' m') (h : m = m') :
    Calls Try.prog 27 #[maV m an cn ao co, maV m' an' cn' ao' co'] w fun e w' => e = .returned (.bool true) ∧ Below w.heap.size w w' :=
  (same6_any hm hm').mono fun e w' h2 => by rw [decide_eq_true h] at h2; exact h2

section
variable {M : Nat → Prop} {w : World} {an ao : Option Addr} {cn co : Nat} {m : Mach}

set_option maxRecDepth 100000 in
set_option maxHeartbeats 4000000 in
theorem mins_any (hm : Ma M w an cn ao co m) :
    Calls Try.prog 5 #[maV m an cn ao co] w fun e w' => e = .returned (.bool true) ∧ Below w.heap.size w w' := by
  have HM := Lib.hid (hm.ext (Ext.alloc M w (.cells #[.int .i64 m.inputs, .int .i64 m.start, .slice an m.next.length cn, .slice ao m.out.length co] 24)))
  have HG := Lib.hid (great_any HM.out)
  clear hm
  cases hg : m.great with
  | true =>
    go_enter Try.func5, Try.ntmps5
    go_wp2_with fail
    refine (HG.out).mono ?_
    rintro e w1 ⟨rfl, hb1⟩
    rw [hg]
    have hz1 : w.heap.size + 1 ≤ w1.heap.size := by have := hb1.size; simpa using this
    have hB1 : Below (w.heap.size + 1) (w.alloc (.cells #[.int .i64 m.inputs, .int .i64 m.start, .slice an m.next.length cn, .slice ao m.out.length co] 24)) w1 := hb1.mono (by simp)
    clear hb1 HG
    go_wp2_with fail
    refine (ex8_any).mono ?_
    rintro e w2 ⟨rfl, hb2⟩
    have hBf : Below w.heap.size w w2 := ((Below.refl _ _).alloc (Nat.le_refl _) _).trans ((hB1.trans (hb2.mono hz1)).mono (by omega))
    go_wp2
    go_ret
    exact ⟨rfl, hBf⟩
  | false =>
    go_enter Try.func5, Try.ntmps5
    go_wp2_with fail
    refine (HG.out).mono ?_
    rintro e w1 ⟨rfl, hb1⟩
    rw [hg]
    have hz1 : w.heap.size + 1 ≤ w1.heap.size := by have := hb1.size; simpa using this
    have hB1 : Below (w.heap.size + 1) (w.alloc (.cells #[.int .i64 m.inputs, .int .i64 m.start, .slice an m.next.length cn, .slice ao m.out.length co] 24)) w1 := hb1.mono (by simp)
    have hx1 : ∀ o, w1.cell? ⟨w.heap.size, o, none⟩ = _ := fun o => hB1.cell (by simp)
    clear hb1 HG
    have HP := Lib.hid (min_any (HM.out.below (by simpa using hB1)))
    go_wp2_with fail
    refine (HP.out).mono ?_
    rintro e w2 ⟨tn, tcn, to, tco, t, rfl, ht, hmt, hb2⟩
    have hB2 := (hB1.trans (hb2.mono hz1)).alloc (by have := hb2.size; omega) (.cells #[.int .i64 t.inputs, .int .i64 t.start, .slice tn t.next.length tcn, .slice to t.out.length tco] 24)
    have hz2 : w.heap.size + 1 ≤ w2.heap.size := Nat.le_trans hz1 hb2.size
    have hx2 : ∀ o, (w2.alloc (.cells #[.int .i64 t.inputs, .int .i64 t.start, .slice tn t.next.length tcn, .slice to t.out.length tco] 24)).cell? ⟨w.heap.size, o, none⟩ = _ := fun o => hB2.cell (by simp)
    have HR := Lib.hid (minR_any (HM.out.below (by simpa using hB2)))
    replace hmt := hmt.ext (M' := fun _ => False) ((Ext.alloc _ w2 (.cells #[.int .i64 t.inputs, .int .i64 t.start, .slice tn t.next.length tcn, .slice to t.out.length tco] 24)).trans (Ext.sub_only fun _ _ h => h.elim))
    clear hx1 hb2 HP
    go_wp2_with fail
    refine (HR.out).mono ?_
    rintro e w3 ⟨un, ucn, uo, uco, u, rfl, hu, hmu, hb3⟩
    obtain rfl : t = u := ht.out.trans hu.out.symm
    have hz3 : w2.heap.size + 1 ≤ w3.heap.size := by have := hb3.size; simpa using this
    have hB3 := ((hB2.trans (hb3.mono (by simp; omega))).alloc (by omega) (.cells #[.int .i64 t.inputs, .int .i64 t.start, .slice un t.next.length ucn, .slice uo t.out.length uco] 24))
    have hb3' := hb3.mono (show w2.heap.size + 1 ≤ _ by simp)
    replace hmt := (hmt.below hb3).ext (Ext.alloc _ w3 (.cells #[.int .i64 t.inputs, .int .i64 t.start, .slice un t.next.length ucn, .slice uo t.out.length uco] 24))
    replace hmu := hmu.ext (M' := fun _ => False) ((Ext.alloc _ w3 (.cells #[.int .i64 t.inputs, .int .i64 t.start, .slice un t.next.length ucn, .slice uo t.out.length uco] 24)).trans (Ext.sub_only fun _ _ h => h.elim))
    have hx3 : ∀ o, (w3.alloc (.cells #[.int .i64 t.inputs, .int .i64 t.start, .slice un t.next.length ucn, .slice uo t.out.length uco] 24)).cell? ⟨w.heap.size, o, none⟩ = _ := fun o => hB3.cell (by simp)
    have hy3 : ∀ o, (w3.alloc (.cells #[.int .i64 t.inputs, .int .i64 t.start, .slice un t.next.length ucn, .slice uo t.out.length uco] 24)).cell? ⟨w2.heap.size, o, none⟩ = _ := fun o => (hb3'.alloc (by omega) _).cell (by simp)
    have hA : C4 (w3.alloc (maO t un ucn uo uco)) w.heap.size an cn ao co m := (c4_new w).below hB3 (by omega)
    have hT : C4 (w3.alloc (maO t un ucn uo uco)) w2.heap.size tn tcn to tco t := (c4_new w2).below (hb3'.alloc (by omega) _) (by omega)
    have hU : C4 (w3.alloc (maO t un ucn uo uco)) w3.heap.size un ucn uo uco t := c4_new w3
    clear hx2 hb3 hb3' HR
    go_wp2
    have hz4 : w3.heap.size + 1 ≤ (w3.alloc (maO t un ucn uo uco)).heap.size := by simp
    obtain ⟨W, hW⟩ : ∃ W, W = w3.alloc (maO t un ucn uo uco) := ⟨_, rfl⟩
    rw [← hW] at hA hT hU hB3 hmt hmu hz4 ⊢
    clear hx3 hy3 hW
    have HE := Lib.hid (same6_eq (hmt.ext (Ext.drew _ _)) (hmu.ext (Ext.drew _ _)) rfl)
    refine wp_region_L (fun w' => C4 w' w.heap.size an cn ao co m ∧ C4 w' w2.heap.size tn tcn to tco t ∧ C4 w' w3.heap.size un ucn uo uco t) [0, 1, 4, 5, 9, 11] (by kernel_rfl) ?_
    have hB4 := hB3.drew
    have hSS : C4 W.drew w.heap.size an cn ao co m ∧ C4 W.drew w2.heap.size tn tcn to tco t ∧ C4 W.drew w3.heap.size un ucn uo uco t := ⟨hA.drew, hT.drew, hU.drew⟩
    have hz5 : w3.heap.size + 1 ≤ W.drew.heap.size := hz4
    clear hA hT hU hB3 hz4
    generalize W.drew = V at *
    refine wpAnyL_take (i := 0) (v := ?v1) rfl (by kernel_rfl) (by kernel_rfl) (by kernel_rfl) (by kernel_rfl) (fun _ _ _ h => h) (Or.inl ⟨by rfl, ?y1⟩) (by assumption) ?r1
    case y1 => (intro w' hSw; (try dsimp only at hSw); go_simp; try with_reducible rfl)
    try simp only [Act.put, List.setIfInBounds_toArray, List.set_cons_zero, List.set_cons_succ]
    refine wpAnyL_take (i := 1) (v := ?v2) rfl (by kernel_rfl) (by kernel_rfl) (by kernel_rfl) (by kernel_rfl) (fun _ _ _ h => h) (Or.inl ⟨by rfl, ?y2⟩) (by assumption) ?r2
    case y2 => (intro w' hSw; (try dsimp only at hSw); go_simp; try with_reducible rfl)
    try simp only [Act.put, List.setIfInBounds_toArray, List.set_cons_zero, List.set_cons_succ]
    refine wpAnyL_one (i := 2) (by kernel_rfl) rfl rfl (fun K hK => ?_)
    go_simp
    refine (HE.out).mono ?_
    rintro e w5 ⟨rfl, hb5⟩
    have hS5 : C4 w5 w.heap.size an cn ao co m ∧ C4 w5 w2.heap.size tn tcn to tco t ∧ C4 w5 w3.heap.size un ucn uo uco t := ⟨hSS.1.below hb5 (by omega), hSS.2.1.below hb5 (by omega), hSS.2.2.below hb5 (by omega)⟩
    have hB5 := hB4.trans (hb5.mono (by omega))
    have hz6 : w3.heap.size + 1 ≤ w5.heap.size := Nat.le_trans hz5 hb5.size
    clear hb5 hSS hB4 HE hmt hmu
    refine hK _ _ (fun _ => hS5) ?_
    clear hK K
    refine wpAnyL_one (i := 3) (by kernel_rfl) rfl rfl (fun K hK => ?_)
    go_simp
    refine hK _ _ (fun _ => hS5) ?_
    clear hK K
    refine wpAnyL_take (i := 4) (v := ?v3) rfl (by kernel_rfl) (by kernel_rfl) (by kernel_rfl) (by kernel_rfl) (fun _ _ _ h => h) (Or.inl ⟨by rfl, ?y3⟩) (by assumption) ?r3
    case y3 => (intro w' hSw; (try dsimp only at hSw); go_simp; try with_reducible rfl)
    try simp only [Act.put, List.setIfInBounds_toArray, List.set_cons_zero, List.set_cons_succ]
    refine wpAnyL_take (i := 5) (v := ?v4) rfl (by kernel_rfl) (by kernel_rfl) (by kernel_rfl) (by kernel_rfl) (fun _ _ _ h => h) (Or.inl ⟨by rfl, ?y4⟩) (by assumption) ?r4
    case y4 => (intro w' hSw; (try dsimp only at hSw); go_simp; try with_reducible rfl)
    try simp only [Act.put, List.setIfInBounds_toArray, List.set_cons_zero, List.set_cons_succ]
    refine wpAnyL_one (i := 6) (by kernel_rfl) rfl rfl (fun K hK => ?_)
    go_simp
    refine hK _ _ (fun _ => hS5) ?_
    clear hK K
    refine wpAnyL_one (i := 7) (by kernel_rfl) rfl rfl (fun K hK => ?_)
    go_simp
    refine hK _ _ (fun _ => hS5) ?_
    clear hK K
    refine wpAnyL_one (i := 8) (by kernel_rfl) rfl rfl (fun K hK => ?_)
    go_simp
    refine hK _ _ (fun _ => hS5) ?_
    clear hK K
    have HA := Lib.hid (minimal_any (HM.out.below (by simpa using hB5)))
    refine wpAnyL_take (i := 9) (v := ?v5) rfl (by kernel_rfl) (by kernel_rfl) (by kernel_rfl) (by kernel_rfl) (fun _ _ _ h => h) (Or.inl ⟨by rfl, ?y5⟩) (by assumption) ?r5
    case y5 => (intro w' hSw; (try dsimp only at hSw); go_simp; try with_reducible rfl)
    try simp only [Act.put, List.setIfInBounds_toArray, List.set_cons_zero, List.set_cons_succ]
    refine wpAnyL_take (i := 11) (v := ?v6) rfl (by kernel_rfl) (by kernel_rfl) (by kernel_rfl) (by kernel_rfl) (fun _ _ _ h => h) (Or.inl ⟨by rfl, ?y6⟩) (by assumption) ?r6
    case y6 => (intro w' hSw; (try dsimp only at hSw); go_simp; try with_reducible rfl)
    try simp only [Act.put, List.setIfInBounds_toArray, List.set_cons_zero, List.set_cons_succ]
    refine wpAnyL_one (i := 10) (by kernel_rfl) rfl rfl (fun K hK => ?_)
    go_simp
    refine (HA.out).mono ?_
    rintro e w6 ⟨b6, rfl, hb6e, hb6⟩
    have hS6 : C4 w6 w.heap.size an cn ao co m ∧ C4 w6 w2.heap.size tn tcn to tco t ∧ C4 w6 w3.heap.size un ucn uo uco t := ⟨hS5.1.below hb6 (by omega), hS5.2.1.below hb6 (by omega), hS5.2.2.below hb6 (by omega)⟩
    have hB6 := hB5.trans (hb6.mono (by omega))
    have hz7 : w3.heap.size + 1 ≤ w6.heap.size := Nat.le_trans hz6 hb6.size
    clear hb6 hS5 hB5 HA
    refine hK _ _ (fun _ => hS6) ?_
    clear hK K
    have HA := Lib.hid (minimalR_any (HM.out.below (by simpa using hB6)))
    refine wpAnyL_one (i := 12) (by kernel_rfl) rfl rfl (fun K hK => ?_)
    go_simp
    refine (HA.out).mono ?_
    rintro e w7 ⟨b7, rfl, hb7e, hb7⟩
    obtain rfl : b6 = b7 := hb6e.out.trans hb7e.out.symm
    have hS7 : C4 w7 w.heap.size an cn ao co m ∧ C4 w7 w2.heap.size tn tcn to tco t ∧ C4 w7 w3.heap.size un ucn uo uco t := ⟨hS6.1.below hb7 (by omega), hS6.2.1.below hb7 (by omega), hS6.2.2.below hb7 (by omega)⟩
    have hB7 := hB6.trans (hb7.mono (by omega))
    have hz8 : w3.heap.size + 1 ≤ w7.heap.size := Nat.le_trans hz7 hb7.size
    clear hb7 hS6 hB6 HA
    refine hK _ _ (fun _ => hS7) ?_
    clear hK K
    refine wpAnyL_one (i := 13) (by kernel_rfl) rfl rfl (fun K hK => ?_)
    go_simp
    refine hK _ _ (fun _ => hS7) ?_
    clear hK K
    refine wpAnyL_one (i := 14) (by kernel_rfl) rfl rfl (fun K hK => ?_)
    go_simp
    refine hK _ _ (fun _ => hS7) ?_
    clear hK K
    refine wpAnyL_one (i := 15) (by kernel_rfl) rfl rfl (fun K hK => ?_)
    go_simp
    refine hK _ _ (fun _ => hS7) ?_
    clear hK K
    refine wpAnyL_one (i := 16) (by kernel_rfl) rfl rfl (fun K hK => ?_)
    go_simp
    refine (ex8_any).mono ?_
    rintro e w8 ⟨rfl, hb8⟩
    have hS8 : C4 w8 w.heap.size an cn ao co m ∧ C4 w8 w2.heap.size tn tcn to tco t ∧ C4 w8 w3.heap.size un ucn uo uco t := ⟨hS7.1.below hb8 (by omega), hS7.2.1.below hb8 (by omega), hS7.2.2.below hb8 (by omega)⟩
    have hBf : Below w.heap.size w w8 := ((Below.refl _ _).alloc (Nat.le_refl _) _).trans ((hB7.trans (hb8.mono (by omega))).mono (by omega))
    clear hb8 hS7 hB7
    refine hK _ _ (fun _ => hS8) ?_
    clear hK K
    refine wpAnyL_one (i := 17) (by kernel_rfl) rfl rfl (fun K hK => ?_)
    go_simp
    refine hK _ _ (fun _ => hS8) ?_
    clear hK K
    refine wpAnyL_one (i := 18) (by kernel_rfl) rfl rfl (fun K hK => ?_)
    go_simp
    refine hK _ _ (fun _ => hS8) ?_
    clear hK K
    refine wpAnyL_done (by kernel_rfl) ?_ _
    go_wp2
    go_ret
    exact ⟨rfl, hBf⟩
end
end Go.Proofs.Ytdnmgiabgpilkaa
