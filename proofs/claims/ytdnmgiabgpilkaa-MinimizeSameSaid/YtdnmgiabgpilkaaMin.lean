/- The program's Min. No condition beyond that the fields read as lists of lists. -/
import Derived.Test.YtdnmgiabgpilkaaTrim
import Derived.Test.YtdnmgiabgpilkaaPart
import Derived.Test.YtdnmgiabgpilkaaMinP
namespace Go.Proofs.Ytdnmgiabgpilkaa
open Go.RowKit
section
variable {M : Nat → Prop} {w : World} {an ao : Option Addr} {cn co : Nat} {m : Mach}

theorem map_take_succ' {α : Type} (f : Int → α) {l : List Int} {k : Nat} {x : Int} (h : l[k]? = some x) : (l.take (k + 1)).map f = (l.take k).map f ++ [f x] := by
  rw [List.take_add_one, h]; simp

set_option maxRecDepth 100000 in
set_option maxHeartbeats 4000000 in
theorem min_any (hm : Ma M w an cn ao co m) :
    Calls Try.prog 25 #[maV m an cn ao co] w fun e w' =>
      ∃ an' cn' ao' co' t, e = .returned (.tuple #[maV t an' cn' ao' co', .int .i64 m.err]) ∧ Hid (t = m.minOf) ∧ Ma (fun k => k < w.heap.size) w' an' cn' ao' co' t ∧ Below w.heap.size w w' := by
  have HT := Lib.hid (trim_any (hm.ext ((Ext.alloc M w (.cells #[.int .i64 m.inputs, .int .i64 m.start, .slice an m.next.length cn, .slice ao m.out.length co] 24)).trans (Ext.alloc M _ (.cells #[.int .i64 0, .int .i64 0, .slice none 0 0, .slice none 0 0] 24)))))
  by_cases he : m.err = 0
  · have he' : (m.err != 0) = false := by simp [he]
    have HE := Lib.hid he
    clear he
    go_enter Try.func25, Try.ntmps25
    go_wp2_with fail
    refine (HT.out).mono ?_
    rintro e w1 ⟨tn, tcn, to, tco, t, rfl, ht, hmt, hb1⟩
    clear HT
    have hs1 : w.heap.size + 2 ≤ w1.heap.size := by have := hb1.size; simpa using this
    have hB1 : Below (w.heap.size + 2) ((w.alloc (.cells #[.int .i64 m.inputs, .int .i64 m.start, .slice an m.next.length cn, .slice ao m.out.length co] 24)).alloc (.cells #[.int .i64 0, .int .i64 0, .slice none 0 0, .slice none 0 0] 24)) w1 := hb1.mono (by simp)
    have hblk1 : Hid (w1.heap[w.heap.size + 1]? = some (.cells #[.int .i64 0, .int .i64 0, .slice none 0 0, .slice none 0 0] 24)) := by
      have h1 := hB1.block (w.heap.size + 1) (by omega)
      unfold Hid
      rw [h1]
      have := heap_alloc_new (w.alloc (.cells #[.int .i64 m.inputs, .int .i64 m.start, .slice an m.next.length cn, .slice ao m.out.length co] 24)) (.cells #[.int .i64 0, .int .i64 0, .slice none 0 0, .slice none 0 0] 24)
      simpa using this
    have hBw1 : Below w.heap.size w w1 := (((Below.refl _ _).alloc (Nat.le_refl _) _).alloc (by simp) _).trans (hB1.mono (by omega))
    have hmt' : Ma (fun k => k < w.heap.size + 2) w1 tn tcn to tco t := by simpa using hmt
    have HTE : Hid (t.err = 0) := by unfold Hid; rw [ht.out]; exact Mach.trimOf_err HE.out
    have hte' : (t.err != 0) = false := by simp [HTE.out]
    have HOK := Lib.hid (t.ok_of_err HTE.out)
    have HC := Lib.hid (classes_any (hmt'.ext (Ext.alloc _ w1 (.cells #[.int .i64 t.inputs, .int .i64 t.start, .slice tn t.next.length tcn, .slice to t.out.length tco] 24))))
    have HMT := Lib.hid hmt'
    clear hb1 hB1 hmt hmt'
    go_wp2_with fail
    refine (HC.out).mono ?_
    rintro e w2 ⟨ac, cc, cls, rfl, hcls, hsc, hb2⟩
    clear HC
    have hs2 : w1.heap.size + 1 ≤ w2.heap.size := by have := hb2.size; simpa using this
    have hB2 : Below (w1.heap.size + 1) (w1.alloc (.cells #[.int .i64 t.inputs, .int .i64 t.start, .slice tn t.next.length tcn, .slice to t.out.length tco] 24)) w2 := hb2.mono (by simp)
    have hBw2 : Below w1.heap.size w1 w2 := ((Below.refl _ _).alloc (Nat.le_refl _) _).trans (hB2.mono (by omega))
    have hS : Sl (fun k => k < w1.heap.size + 1) w2 ac cc cls := by simpa using hsc
    have hM2 : Ma (fun k => k < w.heap.size + 2) w2 tn tcn to tco t := HMT.out.below hBw2
    have hcl0 : Hid (cls.length = t.next.length) := by
      unfold Hid
      rw [hcls.out]; unfold Mach.partOf; rw [if_pos HTE.out, Mach.part_length]
    have hbt : ∀ o, w2.cell? ⟨w1.heap.size, o, none⟩ = _ := fun o => hB2.cell (by simp)
    have n1 := HOK.out.n1
    have hcl1 : cls.length ≤ t.next.length := Nat.le_of_eq hcl0.out
    have hcl2 : t.next.length ≤ cls.length := Nat.le_of_eq hcl0.out.symm
    have hMk0 := Mk.init w2 t.inputs 0
    have hB0 : Below w2.heap.size w2 (w2.alloc (.cells #[.int .i64 t.inputs, .int .i64 0, .slice none 0 0, .slice none 0 0] 24)) := (Below.refl _ _).alloc (Nat.le_refl _) _
    clear hb2 hsc HMT hB2
    go_wp2
    go_loopw [36] (fun i wr => ∃ (k : Nat) (M : Nat → Prop) (aN : Option Addr) (cN : Nat) (rN : List (List Int)) (aO : Option Addr) (cO : Nat) (rO : List (List Int)), k ≤ cls.length ∧ i = .int .i64 k ∧
      Hid (rN = (reps cls k).map (t.minRow cls) ∧ rO = (reps cls k).map fun s => t.out.getD s []) ∧ Mk w2.heap.size M wr w2.heap.size t.inputs 0 aN cN rN aO cO rO ∧ Below w2.heap.size w2 wr) (fun i _ => cls.length - (intOf i).toNat)
    case atStart => exact ⟨0, _, none, 0, [], none, 0, [], by omega, rfl, ⟨rfl, rfl⟩, hMk0, hB0⟩
    case round =>
      clear hMk0 hB0
      obtain ⟨k, M, aN, cN, rN, aO, cO, rO, hk, rfl, hR, hMk, hBo⟩ := hrel
      obtain ⟨w4, rfl⟩ : ∃ w4 : World, w4 = wr := ⟨_, rfl⟩
      have hs4 : w2.heap.size < w4.heap.size := hMk.bolt
      have hbx4 : ∀ o, w4.cell? ⟨w1.heap.size, o, none⟩ = w2.cell? ⟨w1.heap.size, o, none⟩ := fun o => hBo.cell (by simp; omega)
      obtain ⟨hk0, hk1, hk2, hk3, hkf⟩ := hMk.cells
      have hrl : rN.length ≤ k := by rw [hR.out.1, List.length_map]; exact reps_le _ _
      have hrlo : rO.length ≤ k := by rw [hR.out.2, List.length_map]; exact reps_le _ _
      have hrr : Hid ((reps cls k).length = rN.length) := by unfold Hid; rw [hR.out.1, List.length_map]
      by_cases hlt : k < cls.length
      · have hS4 := hS.below hBo
        obtain ⟨bs, os, x, rfl, hxc, hx0, -⟩ := hS4.at_int hlt
        have hgx : Hid (cls.getD k 0 = x) := getD_of_some hx0.out
        by_cases hold : x < (rN.length : Int)
        · have hR2 : Hid (rN = (reps cls (k + 1)).map (t.minRow cls) ∧ rO = (reps cls (k + 1)).map fun s => t.out.getD s []) := by
            rw [reps_old (by rw [hgx.out, hrr.out]; exact hold)]
            exact hR
          go_wp2
          go_roundw
          case rel => exact ⟨k + 1, M, aN, cN, rN, aO, cO, rO, by omega, by go_num, hR2, hMk, hBo⟩
          case measure => simp [intOf]; omega
        · have hkn : k < t.next.length := by omega
          have hko : k < t.out.length := by have := HOK.out.lo; omega
          have hM4 := hM2.below (hBo.mono (Nat.le_refl _))
          obtain ⟨bn, on, a1, r1, c1, han, hn1, hr1, hS1⟩ := hM4.next.at_row hkn
          obtain ⟨bq, oq, a2, r2, c2, hao, hn2, hr2, hS2⟩ := hM4.out.at_row hko
          subst han
          subst hao
          have hbnw : bn < w4.heap.size := by have := hM2.next.lt hkn; omega
          have hbqw : bq < w4.heap.size := by have := hM2.out.lt hko; omega
          have e1 : Hid (r1.length = t.inputs.toNat) := by have := HOK.out.rn k hkn; rw [getD_of_some hr1.out] at this; unfold Hid; omega
          have e2 : Hid (r2.length = t.inputs.toNat) := by have := HOK.out.ro k hkn; rw [getD_of_some hr2.out] at this; unfold Hid; omega
          have hi1 := HOK.out.i1
          have hi0 := HOK.out.i0
          have r1le : r1.length ≤ 64 := by have := e1.out; omega
          have hO0 : Ow w4.heap.size (fun k => w4.heap.size ≤ k) w4 3 (.slice none ([] : List Int).length 0) ([] : List Int) := Ow.nil
          go_wp2
          go_loopw [52, 10] (fun i v wr => ∃ (j : Nat) (a5 : Option Addr) (c5 : Nat) (row : List Int), j ≤ r1.length ∧ i = .int .i64 j ∧ v = .slice a5 row.length c5 ∧ Hid (row = (r1.take j).map (fun n => cls.getD n.toNat 0)) ∧
            Ow w4.heap.size (fun k => w4.heap.size ≤ k) wr 3 (.slice a5 row.length c5) row ∧ Below w4.heap.size w4 wr) (fun i _ _ => r1.length - (intOf i).toNat)
          case atStart => exact ⟨0, none, 0, [], by omega, rfl, rfl, rfl, hO0, Below.refl _ _⟩
          case round =>
            clear hO0
            obtain ⟨j, a5, c5, row, hj, rfl, rfl, hrow, hO6, hB6⟩ := hrel
            obtain ⟨w6, rfl⟩ : ∃ w6 : World, w6 = wr := ⟨_, rfl⟩
            have hs6 : w4.heap.size ≤ w6.heap.size := hB6.size
            have hrlen : row.length ≤ r1.length := by rw [hrow.out]; simp; omega
            by_cases hlj : j < r1.length
            · have hS16 := hS1.below hB6
              obtain ⟨b3, o3, t0, rfl, htc, ht0, -⟩ := hS16.at_int hlj
              have htr := Mach.row_range HOK.out hkn (x := t0) (by rw [getD_of_some hr1.out]; exact List.mem_of_getElem? ht0.out)
              obtain ⟨q, rfl⟩ := Int.eq_ofNat_of_zero_le htr.1
              have hqn : q < cls.length := by omega
              have hS6 := hS4.below hB6
              obtain ⟨bs', os', y, hbs, hyc, hy, hyi⟩ := hS6.at_int hqn
              obtain ⟨rfl, rfl⟩ : bs = bs' ∧ os = os' := by simpa using hbs
              have hrow2 : Hid (row ++ [y] = (r1.take (j + 1)).map (fun n => cls.getD n.toNat 0)) := by
                unfold Hid
                rw [map_take_succ' _ ht0.out, hrow.out, Int.toNat_natCast, getD_of_some hy.out]
              go_wp2_with (at_builtin; refine wpList_push_i (B := w4.heap.size) (l := row) (y := y) rfl rfl Try.underlying27 info_int rfl rfl (hO6.alloc _) (by simp [go_sem]) hyi.out (by omega) (by simp; omega) ?_)
              intro a7 c7 l7 w7 hl7 hO7 hb7
              have hB7 : Below w4.heap.size w4 w7 := (hB6.alloc (by omega) _).trans hb7
              go_wp2
              go_roundw
              case rel => exact ⟨j + 1, a7, c7, l7, by omega, by go_num, rfl, by rw [hl7.out]; exact hrow2, hO7, hB7⟩
              case measure => simp [intOf]; omega
            · have hrowf : Hid (row = t.minRow cls k) := by
                unfold Hid Mach.minRow
                rw [hrow.out, List.take_of_length_le (by omega), getD_of_some hr1.out]
              have hMk6 := hMk.below hB6
              have hBo6 : Below w2.heap.size w2 w6 := hBo.trans (hB6.mono (by omega))
              have hrow6 : Sl M w6 a5 c5 row := hO6.anyM.toSl fun k hk => hMk.notM (hO6.lt k hk).1
              have hrN : rN.length < 1000000000000 := by omega
              have hrO : rO.length < 1000000000000 := by omega
              have hmN : ∀ k, (Value.slice aN rN.length cN).ownBlock = some k → M k := fun k hk => (hMk.mn k hk).1
              obtain ⟨hk0, hk1, hk2, hk3, hkf⟩ := hMk6.cells
              have hb63 : w6.cell? ⟨w1.heap.size, 3, none⟩ = some (.slice (some ⟨bq, oq, none⟩) t.out.length tco) := (hB6.cell (p := ⟨w1.heap.size, 3, none⟩) (by simp; omega)).trans ((hbx4 3).trans (by simp [hbt]))
              have hn26 : w6.cell? ⟨bq, oq + k, none⟩ = some (.slice a2 r2.length c2) := (hB6.cell (p := ⟨bq, oq + k, none⟩) hbqw).trans hn2
              have hS26 := hS2.below hB6
              have hbqw2 : bq < w2.heap.size := by have := hM2.out.lt hko; omega
              clear hO6 hMk hS4 hxc hbx4 hn1 hS1
              go_wp2_with (at_builtin; refine wpList_push_row (r := row) (ar := a5) (cr := c5) rfl rfl Try.underlying22 info_ints rfl rfl (hMk6.n.alloc _) hmN (by simp [go_sem]) (hrow6.alloc _) hrN (by simp; omega) ?_)
              intro a7 c7 rN7 w7 hrN7 hOw7 hbk7 hgr7
              have hMk7 := (hMk6.alloc (.cells #[.slice a5 row.length c5] 27)).pushN (by simpa using hOw7) (fun k hk => by simpa using (hbk7.out k hk).1) hgr7 (fun k hk => (hbk7.out k hk).2)
              have hbo7 : ∀ b, b < w2.heap.size + 1 → w7.heap[b]? = w6.heap[b]? := fun b hb => (hgr7.block b (by simp; omega) (fun e => by have h1 := hMk6.mn b e.symm; have h2 := (hMk6.n.lt b e.symm).1; omega)).trans (Below.heap_alloc _ _ _ (by omega))
              have hc7 : ∀ o, w7.cell? ⟨w2.heap.size, o, none⟩ = w6.cell? ⟨w2.heap.size, o, none⟩ := fun o => World.cell?_of_block (w := w6) (hbo7 _ (by simp))
              have hf7 : ∀ o, w7.frozen? ⟨w2.heap.size, o, none⟩ = false := fun o => (World.frozen?_of_block (w := w6) (hbo7 _ (by simp))).trans (hkf o)
              have hB8 : Below w2.heap.size w2 (w7.setCell ⟨w2.heap.size, 2, none⟩ (.slice a7 rN7.length c7)) := by
                refine Below.setCell ?_ (by simp) _
                exact (hBo6.alloc (by omega) _).grown hgr7 (by simp; omega) (fun j hj => (hMk6.n.lt j hj).1)
              have HM7 := Lib.hid hMk7
              have HB8 := Lib.hid hB8
              clear hbo7 hOw7 hbk7 hgr7 hMk7 hB8
              go_wp2
              obtain ⟨M8, HM8⟩ : ∃ M8, Hid (Mk w2.heap.size M8 (w7.setCell ⟨w2.heap.size, 2, none⟩ (.slice a7 rN7.length c7)) w2.heap.size t.inputs 0 a7 c7 rN7 aO cO rO) := ⟨_, HM7.out⟩
              clear HM7 hc7 hf7
              generalize w7.setCell ⟨w2.heap.size, 2, none⟩ (.slice a7 rN7.length c7) = w8 at *
              have hMk8 := HM8.out
              have hB8 := HB8.out
              have hM8 := hM2.below hB8
              obtain ⟨bq', oq', a3, r3, c3, hao', hn3, hr3, hS3⟩ := hM8.out.at_row hko
              obtain ⟨rfl, rfl⟩ : bq = bq' ∧ oq = oq' := by simpa using hao'
              obtain rfl : r2 = r3 := by have h1 := hr2.out; have h2 := hr3.out; rw [h1] at h2; simpa using h2
              have hb83 : w8.cell? ⟨w1.heap.size, 3, none⟩ = some (.slice (some ⟨bq, oq, none⟩) t.out.length tco) := (hB8.cell (p := ⟨w1.heap.size, 3, none⟩) (by simp; omega)).trans (by simp [hbt])
              obtain ⟨-, -, -, hk83, hk8f⟩ := hMk8.cells
              have hs8 : w2.heap.size < w8.heap.size := hMk8.bolt
              obtain ⟨bp, op, hap⟩ : ∃ bp op, a3 = some ⟨bp, op, none⟩ := by
                obtain ⟨b', o', _, h1, _⟩ := hS3.at_int (j := 0) (by rw [e2.out]; omega)
                exact ⟨b', o', h1⟩
              subst hap
              clear hbt hk0 hk1 hk2 hk3 hkf hMk6 hrow6 hb63 hn26 hS26 hn2
              refine wp_region_L (fun w' => w'.cell? ⟨w1.heap.size, 3, none⟩ = some (.slice (some ⟨bq, oq, none⟩) t.out.length tco) ∧ w'.cell? ⟨bq, oq + k, none⟩ = some (.slice (some ⟨bp, op, none⟩) r2.length c3) ∧ w'.cell? ⟨w2.heap.size, 3, none⟩ = some (.slice aO rO.length cO)) [0, 1, 3, 4, 5, 6, 7] (by kernel_rfl) ?_
              have hSS : w8.drew.cell? ⟨w1.heap.size, 3, none⟩ = some (.slice (some ⟨bq, oq, none⟩) t.out.length tco) ∧ w8.drew.cell? ⟨bq, oq + k, none⟩ = some (.slice (some ⟨bp, op, none⟩) r2.length c3) ∧ w8.drew.cell? ⟨w2.heap.size, 3, none⟩ = some (.slice aO rO.length cO) := ⟨by simpa using hb83, by simpa using hn3, by simpa using hk83⟩
              refine wpAnyL_take (i := 0) (v := ?v1) rfl (by kernel_rfl) (by kernel_rfl) (by kernel_rfl) (by kernel_rfl) (fun _ _ _ h => h) (Or.inl ⟨by rfl, ?y1⟩) (by assumption) ?r1
              case y1 => (intro w' hSw; (try dsimp only at hSw); go_simp; try with_reducible rfl)
              try simp only [Act.put, List.setIfInBounds_toArray, List.set_cons_zero, List.set_cons_succ]
              refine wpAnyL_take (i := 1) (v := ?v2) rfl (by kernel_rfl) (by kernel_rfl) (by kernel_rfl) (by kernel_rfl) (fun _ _ _ h => h) (Or.inl ⟨by rfl, ?y2⟩) (by assumption) ?r2
              case y2 => (intro w' hSw; (try dsimp only at hSw); go_simp; try with_reducible rfl)
              try simp only [Act.put, List.setIfInBounds_toArray, List.set_cons_zero, List.set_cons_succ]
              refine wpAnyL_take (i := 3) (v := ?v3) rfl (by kernel_rfl) (by kernel_rfl) (by kernel_rfl) (by kernel_rfl) (fun _ _ _ h => h) (Or.inl ⟨by rfl, ?y3⟩) (by assumption) ?r3
              case y3 => (intro w' hSw; (try dsimp only at hSw); go_simp; try with_reducible rfl)
              try simp only [Act.put, List.setIfInBounds_toArray, List.set_cons_zero, List.set_cons_succ]
              refine wpAnyL_take (i := 4) (v := ?v4) rfl (by kernel_rfl) (by kernel_rfl) (by kernel_rfl) (by kernel_rfl) (fun _ _ _ h => h) (Or.inl ⟨by rfl, ?y4⟩) (by assumption) ?r4
              case y4 => (intro w' hSw; (try dsimp only at hSw); go_simp; try with_reducible rfl)
              try simp only [Act.put, List.setIfInBounds_toArray, List.set_cons_zero, List.set_cons_succ]
              refine wpAnyL_take (i := 5) (v := ?v5) rfl (by kernel_rfl) (by kernel_rfl) (by kernel_rfl) (by kernel_rfl) (fun _ _ _ h => h) (Or.inl ⟨by rfl, ?y5⟩) (by assumption) ?r5
              case y5 => (intro w' hSw; (try dsimp only at hSw); go_simp; try with_reducible rfl)
              try simp only [Act.put, List.setIfInBounds_toArray, List.set_cons_zero, List.set_cons_succ]
              refine wpAnyL_take (i := 6) (v := ?v6) rfl (by kernel_rfl) (by kernel_rfl) (by kernel_rfl) (by kernel_rfl) (fun _ _ _ h => h) (Or.inl ⟨by rfl, ?y6⟩) (by assumption) ?r6
              case y6 => (intro w' hSw; (try dsimp only at hSw); go_simp; try with_reducible rfl)
              try simp only [Act.put, List.setIfInBounds_toArray, List.set_cons_zero, List.set_cons_succ]
              refine wpAnyL_take (i := 7) (v := ?v7) rfl (by kernel_rfl) (by kernel_rfl) (by kernel_rfl) (by kernel_rfl) (fun _ _ _ h => h) (Or.inl ⟨by rfl, ?y7⟩) (by assumption) ?r7
              case y7 => (intro w' hSw; (try dsimp only at hSw); go_simp; try with_reducible rfl)
              try simp only [Act.put, List.setIfInBounds_toArray, List.set_cons_zero, List.set_cons_succ]
              refine wpAnyL_one (i := 2) (by kernel_rfl) rfl rfl (fun K hK => ?_)
              go_simp
              have ha9 : ∀ p : Addr, p.block < w8.drew.heap.size → (w8.drew.alloc (.cells #[] 3)).cell? p = w8.drew.cell? p := fun p hp => ((Below.refl _ _).alloc (Nat.le_refl _) _).cell hp
              refine hK _ _ (fun _ => ⟨(ha9 _ (by simp; omega)).trans hSS.1, (ha9 _ (by simp; omega)).trans hSS.2.1, (ha9 _ (by simp; omega)).trans hSS.2.2⟩) ?_
              clear hK K ha9
              have hr3l : r2.length < 1000000000000 := by rw [e2.out]; omega
              refine wpAnyL_one (i := 8) (by kernel_rfl) rfl rfl (fun K hK => ?_)
              refine wp_app_ints (B := w8.drew.heap.size) (l0 := []) (l1 := r2) rfl Try.underlying27 info_int rfl rfl (Ow.zero (M := fun k => w8.drew.heap.size ≤ k) (w := w8.drew) (Nat.le_refl _)) (hS3.drew.alloc _) (by simpa using hr3l) (by simp) ?_
              intro a9 c9 l9 w9 hl9 hO9 hb9
              have hb9' : Below w8.heap.size w8.drew w9 := ((Below.refl _ _).alloc (by simp) _).trans hb9
              have hMk9 := hMk8.drew.below hb9'
              have hs9 : w2.heap.size < w9.heap.size := hMk9.bolt
              have hs98 : w8.heap.size ≤ w9.heap.size := by have := hb9'.size; simpa using this
              obtain ⟨-, -, -, hk93, hk9f⟩ := hMk9.cells
              have hSS9 : w9.cell? ⟨w1.heap.size, 3, none⟩ = some (.slice (some ⟨bq, oq, none⟩) t.out.length tco) ∧ w9.cell? ⟨bq, oq + k, none⟩ = some (.slice (some ⟨bp, op, none⟩) r2.length c3) ∧ w9.cell? ⟨w2.heap.size, 3, none⟩ = some (.slice aO rO.length cO) :=
                ⟨(hb9'.cell (p := ⟨w1.heap.size, 3, none⟩) (by simp; omega)).trans hSS.1, (hb9'.cell (p := ⟨bq, oq + k, none⟩) (by simp; omega)).trans hSS.2.1, hk93⟩
              refine hK _ _ (fun _ => hSS9) ?_
              clear hK K
              have hMk9a := hMk9.alloc (.cells #[.slice a9 l9.length c9] 27)
              have hMq : ∀ q, M8 q → q < w8.heap.size := fun q hq => by
                by_cases h : q < w2.heap.size
                · omega
                · exact hMk8.lt q (by omega) hq
              have ha9 : ∀ p : Addr, p.block < w9.heap.size → (w9.alloc (.cells #[.slice a9 l9.length c9] 27)).cell? p = w9.cell? p := fun p hp => ((Below.refl _ _).alloc (Nat.le_refl _) _).cell hp
              have HA9 := Lib.hid ha9
              have HMQ := Lib.hid hMq
              clear ha9 hMq
              have hSr9 : Sl M8 (w9.alloc (.cells #[.slice a9 l9.length c9] 27)) a9 c9 l9 := ((hO9.fresh (Nat.le_refl _)).anti (fun q _ hq => HMQ.out q hq)).alloc _
              clear hO9
              refine wpAnyL_one (i := 9) (by kernel_rfl) rfl rfl (fun K hK => ?_)
              go_simp
              refine hK _ _ (fun _ => ⟨(HA9.out _ (by simp; omega)).trans hSS9.1, (HA9.out _ (by simp; omega)).trans hSS9.2.1, (HA9.out _ (by simp; omega)).trans hSS9.2.2⟩) ?_
              clear hK K
              refine wpAnyL_one (i := 10) (by kernel_rfl) rfl rfl (fun K hK => ?_)
              refine wp_push_row (r := l9) (ar := a9) (cr := c9) rfl Try.underlying22 info_ints rfl rfl hMk9a.o (fun k hk => (hMk9a.mo k hk).1) (by simp [go_sem]) hSr9 hrO (by simp; omega) ?_
              intro a10 c10 rO10 w10 hrO10 hOw10 hbk10 hgr10
              have hbo10 : ∀ b, b < w2.heap.size + 1 → w10.heap[b]? = (w9.alloc (.cells #[.slice a9 l9.length c9] 27)).heap[b]? := fun b hb => hgr10.block b (by simp; omega) (fun e => by have h1 := hMk9a.mo b e.symm; have h2 := (hMk9a.o.lt b e.symm).1; omega)
              have hc10 : ∀ b o, b < w2.heap.size + 1 → w10.cell? ⟨b, o, none⟩ = w9.cell? ⟨b, o, none⟩ := fun b o hb => (World.cell?_of_block (a := ⟨b, o, none⟩) (hbo10 b hb)).trans (HA9.out _ (by simp; omega))
              have HC10 := Lib.hid hc10
              have hf10 : ∀ o, w10.frozen? ⟨w2.heap.size, o, none⟩ = false := fun o => (World.frozen?_of_block (a := ⟨w2.heap.size, o, none⟩) (hbo10 _ (by simp))).trans (frozen_of_row _ _ _ _ _ hMk9a.blk)
              have hk10 := (HC10.out w2.heap.size 3 (by omega)).trans hSS9.2.2
              have hMk10 := hMk9a.pushO hOw10 (fun k hk => (hbk10.out k hk).1) hgr10 (fun k hk => (hbk10.out k hk).2)
              have hB10 : Below w2.heap.size w2 (w10.setCell ⟨w2.heap.size, 3, none⟩ (.slice a10 rO10.length c10)) := by
                refine Below.setCell ?_ (by simp) _
                exact (((hB8.drew).trans (hb9'.mono (by omega))).alloc (by omega) _).grown hgr10 (by simp; omega) (fun j hj => (hMk9a.o.lt j hj).1)
              have hR2 : Hid (rN7 = (reps cls (k + 1)).map (t.minRow cls) ∧ rO10 = (reps cls (k + 1)).map fun s => t.out.getD s []) := by
                rw [reps_new (by rw [hgx.out, hrr.out]; omega)]
                refine ⟨?_, ?_⟩
                · rw [hrN7.out, hR.out.1, List.map_append, hrowf.out]; rfl
                · rw [hrO10.out, hR.out.2, hl9.out, List.map_append, List.nil_append, List.map_cons, List.map_nil, getD_of_some hr2.out]
              clear hc10 hbo10
              refine hK _ _ (fun _ => ⟨(HC10.out _ _ (by omega)).trans hSS9.1, (HC10.out _ _ (by omega)).trans hSS9.2.1, hk10⟩) ?_
              clear hK K
              have HMk10 := Lib.hid hMk10
              have HB10 := Lib.hid hB10
              clear hMk10 hB10 hOw10 hbk10 hgr10 hSS9 hSS
              refine wpAnyL_late (i := 11) (by kernel_rfl) (by kernel_rfl) rfl rfl (fun K hK => ?_)
              go_simp
              refine hK _ _ ?_
              clear hK K
              refine wpAnyL_late (i := 12) (by kernel_rfl) (by kernel_rfl) rfl rfl (fun K hK => ?_)
              go_simp
              refine hK _ _ ?_
              clear hK K
              refine wpAnyL_done (by kernel_rfl) ?_ _
              go_wp2
              go_roundw
              case rel => exact ⟨k + 1, _, a7, c7, rN7, a10, c10, rO10, by omega, by go_num, hR2, HMk10.out, HB10.out⟩
              case measure => simp [intOf]; omega
      · have hblk4 : Hid (w4.heap[w.heap.size + 1]? = some (.cells #[.int .i64 0, .int .i64 0, .slice none 0 0, .slice none 0 0] 24)) :=
          (hBo.block (w.heap.size + 1) (by omega)).trans ((hBw2.block (w.heap.size + 1) (by omega)).trans hblk1.out)
        obtain ⟨k0, k1, k2, k3⟩ := cells4 hblk4.out
        have kf : ∀ o, w4.frozen? ⟨w.heap.size + 1, o, none⟩ = false := fun o => frozen_of_row _ _ _ _ _ hblk4.out
        have hBw4 : Below w.heap.size w w4 := hBw1.trans ((hBw2.mono (by omega)).trans (hBo.mono (by omega)))
        go_wp2
        obtain ⟨q0, q1, q2, q3⟩ := cells4 (set4 (y0 := .int .i64 t.inputs) (y1 := .int .i64 0) (y2 := .slice aN rN.length cN) (y3 := .slice aO rO.length cO) hblk4.out)
        have hM1 : M (w.heap.size + 1) := hMk.old _ (by omega)
        have hMf : Mk w2.heap.size M ((((w4.setCell ⟨w.heap.size + 1, 0, none⟩ (.int .i64 t.inputs)).setCell ⟨w.heap.size + 1, 1, none⟩ (.int .i64 0)).setCell ⟨w.heap.size + 1, 2, none⟩ (.slice aN rN.length cN)).setCell ⟨w.heap.size + 1, 3, none⟩ (.slice aO rO.length cO)) w2.heap.size t.inputs 0 aN cN rN aO cO rO :=
          hMk.ext ((((Ext.setCell _ (p := ⟨w.heap.size + 1, 0, none⟩) hM1 _).trans (Ext.setCell _ (p := ⟨w.heap.size + 1, 1, none⟩) hM1 _)).trans (Ext.setCell _ (p := ⟨w.heap.size + 1, 2, none⟩) hM1 _)).trans (Ext.setCell _ (p := ⟨w.heap.size + 1, 3, none⟩) hM1 _))
            (fun q hq _ => by rw [Below.heap_setCell _ _ _ _ (by simp; omega), Below.heap_setCell _ _ _ _ (by simp; omega), Below.heap_setCell _ _ _ _ (by simp; omega), Below.heap_setCell _ _ _ _ (by simp; omega)])
        have hBf : Below w.heap.size w ((((w4.setCell ⟨w.heap.size + 1, 0, none⟩ (.int .i64 t.inputs)).setCell ⟨w.heap.size + 1, 1, none⟩ (.int .i64 0)).setCell ⟨w.heap.size + 1, 2, none⟩ (.slice aN rN.length cN)).setCell ⟨w.heap.size + 1, 3, none⟩ (.slice aO rO.length cO)) :=
          Below.setCell (Below.setCell (Below.setCell (Below.setCell hBw4 (by simp) _) (by simp) _) (by simp) _) (by simp) _
        generalize ((((w4.setCell ⟨w.heap.size + 1, 0, none⟩ (.int .i64 t.inputs)).setCell ⟨w.heap.size + 1, 1, none⟩ (.int .i64 0)).setCell ⟨w.heap.size + 1, 2, none⟩ (.slice aN rN.length cN)).setCell ⟨w.heap.size + 1, 3, none⟩ (.slice aO rO.length cO)) = wf at *
        refine bodyPost_ret (v := .tuple #[.agg #[.int .i64 t.inputs, .int .i64 0, .slice aN rN.length cN, .slice aO rO.length cO], .int .i64 0]) (by simp [results, Try.results25, go_sem, q0, q1, q2, q3]) rfl ⟨aN, cN, aO, cO, ⟨t.inputs, 0, rN, rO⟩, ?_, ?_, hMf.toMa (by have := HOK.out.i0; have := HOK.out.i1; unfold i64; omega) (by unfold i64; omega) (by omega), hBf⟩
        · rw [HE.out]
        · have hkc : k = cls.length := by omega
          have htt : t = m.trim := by rw [ht.out]; unfold Mach.trimOf; rw [if_pos HE.out]
          unfold Hid Mach.minOf Mach.minBy
          rw [if_pos HE.out, hR.out.1, hR.out.2, hkc, ← htt, ← hcls.out]
  · have he' : (m.err != 0) = true := by simp [he]
    have HE := Lib.hid he
    clear he
    go_enter Try.func25, Try.ntmps25
    go_wp2_with fail
    refine (HT.out).mono ?_
    rintro e w1 ⟨tn, tcn, to, tco, t, rfl, ht, hmt, hb1⟩
    clear HT
    have hs1 : w.heap.size + 2 ≤ w1.heap.size := by have := hb1.size; simpa using this
    have hB1 : Below (w.heap.size + 2) ((w.alloc (.cells #[.int .i64 m.inputs, .int .i64 m.start, .slice an m.next.length cn, .slice ao m.out.length co] 24)).alloc (.cells #[.int .i64 0, .int .i64 0, .slice none 0 0, .slice none 0 0] 24)) w1 := hb1.mono (by simp)
    have hblk0 : Hid (w1.heap[w.heap.size + 1]? = some (.cells #[.int .i64 0, .int .i64 0, .slice none 0 0, .slice none 0 0] 24)) := by
      have h1 := hB1.block (w.heap.size + 1) (by omega)
      unfold Hid
      rw [h1]
      have := heap_alloc_new (w.alloc (.cells #[.int .i64 m.inputs, .int .i64 m.start, .slice an m.next.length cn, .slice ao m.out.length co] 24)) (.cells #[.int .i64 0, .int .i64 0, .slice none 0 0, .slice none 0 0] 24)
      simpa using this
    have hblk : Hid ((w1.alloc (.cells #[.int .i64 t.inputs, .int .i64 t.start, .slice tn t.next.length tcn, .slice to t.out.length tco] 24)).heap[w.heap.size + 1]? = some (.cells #[.int .i64 0, .int .i64 0, .slice none 0 0, .slice none 0 0] 24)) :=
      (Below.heap_alloc _ _ _ (by omega)).trans hblk0.out
    have hBw1 : Below w.heap.size w (w1.alloc (.cells #[.int .i64 t.inputs, .int .i64 t.start, .slice tn t.next.length tcn, .slice to t.out.length tco] 24)) := ((((Below.refl _ _).alloc (Nat.le_refl _) _).alloc (by simp) _).trans (hB1.mono (by omega))).alloc (by omega) _
    obtain ⟨k0, k1, k2, k3⟩ := cells4 hblk.out
    have kf : ∀ o, (w1.alloc (.cells #[.int .i64 t.inputs, .int .i64 t.start, .slice tn t.next.length tcn, .slice to t.out.length tco] 24)).frozen? ⟨w.heap.size + 1, o, none⟩ = false := fun o => frozen_of_row _ _ _ _ _ hblk.out
    have kw : ∀ o, w1.frozen? ⟨w.heap.size + 1, o, none⟩ = false := fun o => frozen_of_row _ _ _ _ _ hblk0.out
    obtain ⟨j0, j1, j2, j3⟩ := cells4 hblk0.out
    clear hb1 hB1
    go_wp2
    obtain ⟨q0, q1, q2, q3⟩ := cells4 (set4 (y0 := .int .i64 0) (y1 := .int .i64 0) (y2 := .slice none 0 0) (y3 := .slice none 0 0) hblk.out)
    generalize (w1.alloc (.cells #[.int .i64 t.inputs, .int .i64 t.start, .slice tn t.next.length tcn, .slice to t.out.length tco] 24)) = w1a at *
    have hBf : Below w.heap.size w ((((w1a.setCell ⟨w.heap.size + 1, 0, none⟩ (.int .i64 0)).setCell ⟨w.heap.size + 1, 1, none⟩ (.int .i64 0)).setCell ⟨w.heap.size + 1, 2, none⟩ (.slice none 0 0)).setCell ⟨w.heap.size + 1, 3, none⟩ (.slice none 0 0)) :=
      Below.setCell (Below.setCell (Below.setCell (Below.setCell hBw1 (by simp) _) (by simp) _) (by simp) _) (by simp) _
    generalize ((((w1a.setCell ⟨w.heap.size + 1, 0, none⟩ (.int .i64 0)).setCell ⟨w.heap.size + 1, 1, none⟩ (.int .i64 0)).setCell ⟨w.heap.size + 1, 2, none⟩ (.slice none 0 0)).setCell ⟨w.heap.size + 1, 3, none⟩ (.slice none 0 0)) = wf at *
    exact bodyPost_ret (v := .tuple #[.agg #[.int .i64 0, .int .i64 0, .slice none 0 0, .slice none 0 0], .int .i64 m.err]) (by simp [results, Try.results25, go_sem, q0, q1, q2, q3]) rfl ⟨none, 0, none, 0, Mach.nothing, rfl, by unfold Hid Mach.minOf; rw [if_neg HE.out], nothing_ma _ _, hBf⟩
end
end Go.Proofs.Ytdnmgiabgpilkaa
