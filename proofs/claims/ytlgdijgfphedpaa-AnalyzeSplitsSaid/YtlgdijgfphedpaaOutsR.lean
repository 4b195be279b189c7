/- The reference's Outs: the outputs of a machine for a word, and the state behind it. Condition: the machine is valid, the state and the symbols are its own, the word has fewer than 10^9 symbols. -/
import Derived.Test.YtlgdijgfphedpaaC4
import Derived.Test.YtlgdijgfphedpaaOwn
import Derived.Test.YtlgdijgfphedpaaOuts
import Derived.Test.YtlgdijgfphedpaaPush
import Derived.Test.YtlgdijgfphedpaaOrd
namespace Go.Proofs.Ytlgdijgfphedpaa
open Go.RowKit
section
variable {P : Program} {w : World} {o : Oper} {a : Act} {ops : Array Oper} {rest : List Oper} {Q : Exit → Act → World → Prop}
/-- append(list, number), within an own list. -/
theorem wp_push_q {K : Act → World → Prop} {l : List Int} {s x : Operand} {t e : TypeId} {B : Nat} {M : Nat → Prop} {v : Value} {g : Nat} {c : Nat} {y : Int} (hop : o.op = .call { callee := .builtin .append, args := #[s, x], argTypes := #[t, t] })
    (ht : P.underlying t = some (.slice e)) (hi : (P.info? e).map (fun i => (i.zero, i.size, i.bytes)) = some (some (.int .i64 0), 1, 8))
    (hs : a.eval s = v) (hx : a.eval x = .slice (some ⟨g, 0, none⟩) 1 c) (hown : Ow B M w e v l) (hnew : w.cell? ⟨g, 0, none⟩ = some (.int .i64 y)) (hy : i64 y)
    (hlen : l.length < 1000000000000) (hB : B ≤ w.heap.size)
    (h : ∀ (a' : Option Addr) (c' : Nat) (l' : List Int) (w' : World), Hid (l' = l ++ [y]) → Ow B M w' e (.slice a' l'.length c') l' → Below B w w' → K (a.put o.dst (.slice a' l'.length c')) w') : o.wp P a w K Q :=
  wp_push_o hop ht hi hs hx hown hnew hy hlen hB fun a' c' l' w' h1 h2 _ h4 => h a' c' l' w' h1 h2 (Below.grown (Below.refl B w) h4 hB fun k hk => (hown.lt k hk).1)
end

section
variable {M M' : Nat → Prop} {w : World} {an ao a : Option Addr} {cn co c : Nat} {m : Mach}
theorem ret_li {a : Option Addr} {n c : Nat} {x y : Int} (h : x = y) : Ending.returned (.tuple #[.slice a n c, .int .i64 x]) = .returned (.tuple #[.slice a n c, .int .i64 y]) := by rw [h]

set_option maxRecDepth 100000 in
set_option maxHeartbeats 4000000 in
theorem outsR_any {l : List Int} {s : Int} (hm : Ma M w an cn ao co m) (hw : Sl M' w a c l) (ok : Hid m.Ok) (hs : Hid (0 ≤ s ∧ s < m.next.length)) (hok : Hid (m.okS l)) (hl : l.length < 1000000000) :
    Calls Try.prog 20 #[maV m an cn ao co, .int .i64 s, .slice a l.length c] w fun e w' => ∃ (a' : Option Addr) (c' : Nat) (l' : List Int), e = .returned (.tuple #[.slice a' l'.length c', .int .i64 (m.endW s l)]) ∧ Hid (l' = m.outsW s l) ∧
      Sl (fun k => k < w.heap.size) w' a' c' l' ∧ Below w.heap.size w w' := by
  have hll := hw.le
  have n1 := ok.out.n1
  have i1 := ok.out.i1
  have HM := Lib.hid hm
  have HS := Lib.hid hw
  have hB0 := (Below.refl w.heap.size w).alloc (Nat.le_refl _) (maO m an cn ao co)
  have hx0 : C4 (w.alloc (maO m an cn ao co)) w.heap.size an cn ao co m := c4_new w
  have hO0 : Ow (α := Int) (w.heap.size + 1) (fun k => w.heap.size ≤ k) (w.alloc (maO m an cn ao co)) 3 (.slice none 0 0) [] := Ow.nil
  have hz0 : w.heap.size + 1 ≤ (w.alloc (maO m an cn ao co)).heap.size := by simp
  have hb0 := Below.refl (w.heap.size + 1) (w.alloc (maO m an cn ao co))
  clear hm hw
  go_enter Try.func20, Try.ntmps20
  go_wp2
  generalize w.alloc (maO m an cn ao co) = w0 at *
  go_loopw [1, 8, 9] (fun st v i wr => ∃ (k : Nat) (a' : Option Addr) (c' : Nat) (l' : List Int), k ≤ l.length ∧ i = .int .i64 k ∧ st = .int .i64 (m.endW s (l.take k)) ∧ v = .slice a' l'.length c' ∧ Hid (l' = m.outsW s (l.take k)) ∧
    Ow (w.heap.size + 1) (fun k => w.heap.size ≤ k) wr 3 (.slice a' l'.length c') l' ∧ Below (w.heap.size + 1) w0 wr) (fun _ _ i _ => l.length - (intOf i).toNat)
  case atStart => exact ⟨0, none, 0, [], by omega, rfl, rfl, rfl, rfl, hO0, hb0⟩
  case round =>
    clear hO0 hb0
    obtain ⟨k, a2, c2, l2, hk, rfl, rfl, rfl, hl2, hO, hb⟩ := hrel
    obtain ⟨w1, rfl⟩ : ∃ w1 : World, w1 = wr := ⟨_, rfl⟩
    have hx := hx0.below hb (by omega)
    have hB := hB0.trans (hb.mono (by omega))
    have hsz : w.heap.size + 1 ≤ w1.heap.size := by have := hb.size; omega
    have hr := Mach.endW_range ok.out (l.take k) s hs.out.1 hs.out.2 (Mach.okS_take hok.out k)
    obtain ⟨sn, hsn⟩ := Int.eq_ofNat_of_zero_le hr.1
    rw [hsn] at hr
    have HSN := Lib.hid hsn
    rw [hsn]
    clear hsn
    by_cases hlt : k < l.length
    · obtain ⟨bl, ol, x, rfl, hxc, hxk, -⟩ := HS.out.at_int hlt
      obtain ⟨x0, x1⟩ := hok.out x (List.mem_of_getElem? hxk.out)
      obtain ⟨xn, rfl⟩ := Int.eq_ofNat_of_zero_le x0
      have hsn2 : sn < m.next.length := by omega
      have hxn : xn < m.inputs.toNat := by omega
      obtain ⟨bn, on, bo, oo, rfl, rfl⟩ := HM.out.addr ok.out
      obtain ⟨b1, o1, d1, r1, b2, o2, d2, r2, nn, y, hn1, hn2, hn3, hn4, hn5, hy0, hy1, hnx, hot, hr1, hr2, hr3, hr4⟩ := HM.out.atS ok.out hsn2 hxn
      have hle2 := Lib.hid (show l2.length ≤ k by rw [hl2.out, Mach.outsW_len, List.length_take]; omega)
      have hl3 : Hid (l2 ++ [y] = m.outsW s (l.take (k + 1))) := by
        unfold Hid; rw [Mach.take_step hxk.out, Mach.outsW_snoc, HSN.out, ← hl2.out]; simp [hot.out]
      have he3 : Hid (((nn : Nat) : Int) = m.endW s (l.take (k + 1))) := by
        unfold Hid; rw [Mach.take_step hxk.out, Mach.endW_snoc, HSN.out]; simp [hnx.out]
      have hso : sn < m.out.length := by rw [ok.out.lo]; exact hsn2
      have HK : Hid (∀ w', Below w.heap.size w w' → (w'.cell? ⟨bl, ol + k, none⟩ = some (.int .i64 xn) ∧ w'.cell? ⟨bo, oo + sn, none⟩ = some (.slice (some ⟨b2, o2, none⟩) r2 d2) ∧ w'.cell? ⟨b2, o2 + xn, none⟩ = some (.int .i64 y)) ∧ w'.cell? ⟨bn, on + sn, none⟩ = some (.slice (some ⟨b1, o1, none⟩) r1 d1) ∧ w'.cell? ⟨b1, o1 + xn, none⟩ = some (.int .i64 nn)) := fun w' hb' =>
        ⟨⟨(hb'.cell (p := ⟨bl, ol + k, none⟩) (lt_of_cell hxc)).trans hxc, (hb'.cell (p := ⟨bo, oo + sn, none⟩) (lt_of_cell hn2)).trans hn2, (hb'.cell (p := ⟨b2, o2 + xn, none⟩) (lt_of_cell hn4)).trans hn4⟩, (hb'.cell (p := ⟨bn, on + sn, none⟩) (lt_of_cell hn1)).trans hn1, (hb'.cell (p := ⟨b1, o1 + xn, none⟩) (lt_of_cell hn3)).trans hn3⟩
      clear x0 x1 hr hl2 hxc hn1 hn2 hn3 hn4
      go_wp2
      refine wp_region_L (fun w' => C4 w' w.heap.size (some ⟨bn, on, none⟩) cn (some ⟨bo, oo, none⟩) co m ∧ w'.cell? ⟨bl, ol + k, none⟩ = some (.int .i64 xn) ∧ w'.cell? ⟨bo, oo + sn, none⟩ = some (.slice (some ⟨b2, o2, none⟩) r2 d2) ∧ w'.cell? ⟨b2, o2 + xn, none⟩ = some (.int .i64 y)) [0, 1, 2, 3, 4, 5, 6, 7, 8, 9, 10, 11, 14] (by kernel_rfl) ?_
      have hSS : C4 w1.drew w.heap.size (some ⟨bn, on, none⟩) cn (some ⟨bo, oo, none⟩) co m ∧ w1.drew.cell? ⟨bl, ol + k, none⟩ = some (.int .i64 xn) ∧ w1.drew.cell? ⟨bo, oo + sn, none⟩ = some (.slice (some ⟨b2, o2, none⟩) r2 d2) ∧ w1.drew.cell? ⟨b2, o2 + xn, none⟩ = some (.int .i64 y) := ⟨hx.below (Below.refl w1.heap.size w1).drew (by omega), (HK.out _ hB.drew).1⟩
      have hOd := hO.drew
      have hbd := hb.drew
      have hBd := hB.drew
      have hzd : w.heap.size + 1 ≤ w1.drew.heap.size := hsz
      clear hx hO hb hsz hB
      generalize w1.drew = w2 at *
      refine wpAnyL_take (i := 0) (v := ?v1) rfl (by kernel_rfl) (by kernel_rfl) (by kernel_rfl) (by kernel_rfl) (fun _ _ _ h => h) (Or.inl ⟨by rfl, ?y1⟩) (by assumption) ?r1
      case y1 => (intro w' hSw; (try dsimp only at hSw); go_simp; try with_reducible rfl)
      try simp only [Act.put, List.setIfInBounds_toArray, List.set_cons_zero, List.set_cons_succ]
      refine wpAnyL_take (i := 1) (v := ?v2) rfl (by kernel_rfl) (by kernel_rfl) (by kernel_rfl) (by kernel_rfl) (fun _ _ _ h => h) (Or.inl ⟨by rfl, ?y2⟩) (by assumption) ?r2
      case y2 => (intro w' hSw; (try dsimp only at hSw); go_simp; try with_reducible rfl)
      try simp only [Act.put, List.setIfInBounds_toArray, List.set_cons_zero, List.set_cons_succ]
      refine wpAnyL_take (i := 2) (v := ?v3) rfl (by kernel_rfl) (by kernel_rfl) (by kernel_rfl) (by kernel_rfl) (fun _ _ _ h => h) (Or.inl ⟨by rfl, ?y3⟩) (by assumption) ?r3
      case y3 => (intro w' hSw; (try dsimp only at hSw); go_simp; try with_reducible rfl)
      try simp only [Act.put, List.setIfInBounds_toArray, List.set_cons_zero, List.set_cons_succ]
      refine wpAnyL_take (i := 3) (v := ?v4) rfl (by kernel_rfl) (by kernel_rfl) (by kernel_rfl) (by kernel_rfl) (fun _ _ _ h => h) (Or.inl ⟨by rfl, ?y4⟩) (by assumption) ?r4
      case y4 => (intro w' hSw; (try dsimp only at hSw); go_simp; try with_reducible rfl)
      try simp only [Act.put, List.setIfInBounds_toArray, List.set_cons_zero, List.set_cons_succ]
      refine wpAnyL_take (i := 4) (v := ?v5) rfl (by kernel_rfl) (by kernel_rfl) (by kernel_rfl) (by kernel_rfl) (fun _ _ _ h => h) (Or.inl ⟨by rfl, ?y5⟩) (by assumption) ?r5
      case y5 => (intro w' hSw; (try dsimp only at hSw); go_simp; try with_reducible rfl)
      try simp only [Act.put, List.setIfInBounds_toArray, List.set_cons_zero, List.set_cons_succ]
      refine wpAnyL_take (i := 5) (v := ?v6) rfl (by kernel_rfl) (by kernel_rfl) (by kernel_rfl) (by kernel_rfl) (fun _ _ _ h => h) (Or.inl ⟨by rfl, ?y6⟩) (by assumption) ?r6
      case y6 => (intro w' hSw; (try dsimp only at hSw); go_simp; try with_reducible rfl)
      try simp only [Act.put, List.setIfInBounds_toArray, List.set_cons_zero, List.set_cons_succ]
      refine wpAnyL_take (i := 6) (v := ?v7) rfl (by kernel_rfl) (by kernel_rfl) (by kernel_rfl) (by kernel_rfl) (fun _ _ _ h => h) (Or.inl ⟨by rfl, ?y7⟩) (by assumption) ?r7
      case y7 => (intro w' hSw; (try dsimp only at hSw); go_simp; try with_reducible rfl)
      try simp only [Act.put, List.setIfInBounds_toArray, List.set_cons_zero, List.set_cons_succ]
      refine wpAnyL_take (i := 7) (v := ?v8) rfl (by kernel_rfl) (by kernel_rfl) (by kernel_rfl) (by kernel_rfl) (fun _ _ _ h => h) (Or.inl ⟨by rfl, ?y8⟩) (by assumption) ?r8
      case y8 => (intro w' hSw; (try dsimp only at hSw); go_simp; try with_reducible rfl)
      try simp only [Act.put, List.setIfInBounds_toArray, List.set_cons_zero, List.set_cons_succ]
      refine wpAnyL_take (i := 8) (v := ?v9) rfl (by kernel_rfl) (by kernel_rfl) (by kernel_rfl) (by kernel_rfl) (fun _ _ _ h => h) (Or.inl ⟨by rfl, ?y9⟩) (by assumption) ?r9
      case y9 => (intro w' hSw; (try dsimp only at hSw); go_simp; try with_reducible rfl)
      try simp only [Act.put, List.setIfInBounds_toArray, List.set_cons_zero, List.set_cons_succ]
      refine wpAnyL_take (i := 9) (v := ?v10) rfl (by kernel_rfl) (by kernel_rfl) (by kernel_rfl) (by kernel_rfl) (fun _ _ _ h => h) (Or.inl ⟨by rfl, ?y10⟩) (by assumption) ?r10
      case y10 => (intro w' hSw; (try dsimp only at hSw); go_simp; try with_reducible rfl)
      try simp only [Act.put, List.setIfInBounds_toArray, List.set_cons_zero, List.set_cons_succ]
      refine wpAnyL_take (i := 10) (v := ?v11) rfl (by kernel_rfl) (by kernel_rfl) (by kernel_rfl) (by kernel_rfl) (fun _ _ _ h => h) (Or.inl ⟨by rfl, ?y11⟩) (by assumption) ?r11
      case y11 => (intro w' hSw; (try dsimp only at hSw); go_simp; try with_reducible rfl)
      try simp only [Act.put, List.setIfInBounds_toArray, List.set_cons_zero, List.set_cons_succ]
      refine wpAnyL_take (i := 11) (v := ?v12) rfl (by kernel_rfl) (by kernel_rfl) (by kernel_rfl) (by kernel_rfl) (fun _ _ _ h => h) (Or.inl ⟨by rfl, ?y12⟩) (by assumption) ?r12
      case y12 => (intro w' hSw; (try dsimp only at hSw); go_simp; try with_reducible rfl)
      try simp only [Act.put, List.setIfInBounds_toArray, List.set_cons_zero, List.set_cons_succ]
      refine wpAnyL_one (i := 12) (by kernel_rfl) rfl rfl (fun K hK => ?_)
      go_simp
      have hba := hBd.alloc (by omega) (.cells #[.int .i64 y] 3)
      refine hK _ _ (fun _ => ⟨hSS.1.below ((Below.refl w2.heap.size w2).alloc (Nat.le_refl _) _) (by omega), (HK.out _ hba).1⟩) ?_
      clear hK K
      refine wpAnyL_one (i := 13) (by kernel_rfl) rfl rfl (fun K hK => ?_)
      refine wp_push_q (B := w.heap.size + 1) (M := fun k => w.heap.size ≤ k) (v := .slice a2 l2.length c2) (l := l2) (y := y) rfl Try.underlying30 info_int rfl rfl (hOd.alloc _) (by simp [go_sem]) (by unfold i64; omega) (by have := hle2.out; omega) (by simp; omega) ?_
      intro a5 c5 l5 w5 hl5 hO5 hb5
      have hb6 := (hbd.alloc (by omega) (.cells #[.int .i64 y] 3)).trans hb5
      have hB6 := hba.trans (hb5.mono (by omega))
      have hx6 := hx0.below hb6 (by omega)
      have hS6 := And.intro hx6 (HK.out _ hB6).1
      refine hK _ _ (fun _ => hS6) ?_
      clear hK K hSS hOd hbd hBd hzd hba hb5
      refine wpAnyL_take (i := 14) (v := ?v13) rfl (by kernel_rfl) (by kernel_rfl) (by kernel_rfl) (by kernel_rfl) (fun _ _ _ h => h) (Or.inl ⟨by rfl, ?y13⟩) (by assumption) ?r13
      case y13 => (intro w' hSw; (try dsimp only at hSw); go_simp; try with_reducible rfl)
      try simp only [Act.put, List.setIfInBounds_toArray, List.set_cons_zero, List.set_cons_succ]
      refine wpAnyL_done (by kernel_rfl) ?_ _
      have hl6 : Hid (l5 = m.outsW s (l.take (k + 1))) := by unfold Hid; rw [hl5.out, hl3.out]
      obtain ⟨⟨hc1, -, -⟩, hc2, hc3⟩ := HK.out _ hB6
      clear hl5 hl3 HK
      go_wp2
      refine wp_quiet_fast (by kernel_rfl) (by kernel_rfl) ?_
      repeat (first | go_big_quiet_step (fail) | quiet_step (fail))
      refine wpQuiet_nil ?_
      intro _ hw'
      obtain ⟨nq, hw''⟩ := hw'
      subst hw''
      have hb7 := bl_drewN hb6 nq
      have hO7 := hO5.drewN nq
      clear hx6 hc1 hc2 hc3 hb6 hO5
      go_wp2
      go_roundw
      case rel => exact ⟨k + 1, a5, c5, l5, by omega, by go_num, by rw [← he3.out], rfl, hl6, hO7, hb7⟩
      case measure => simp [intOf]; omega
    · have e : k = l.length := by omega
      have hl6 : Hid (l2 = m.outsW s l) := by unfold Hid; rw [hl2.out, e, List.take_length]
      have he6 : Hid (((sn : Nat) : Int) = m.endW s l) := by unfold Hid; rw [← HSN.out, e, List.take_length]
      have hS := (hO.anyM (M' := fun k => k < w.heap.size)).toSl fun k hk hlt => by have := (hO.lt k hk).1; omega
      clear hl2 e
      go_wp2
      go_ret2
      exact ⟨a2, c2, l2, ret_li he6.out, hl6, hS, hB⟩
end
end Go.Proofs.Ytlgdijgfphedpaa
