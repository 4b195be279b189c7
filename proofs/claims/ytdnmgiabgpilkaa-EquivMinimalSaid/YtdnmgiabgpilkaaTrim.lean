/- The program's Trim. No condition beyond that the fields read as lists of lists. -/
import Derived.Test.YtdnmgiabgpilkaaBuild
import Derived.Test.YtdnmgiabgpilkaaReach
import Derived.Test.YtdnmgiabgpilkaaClone
import Derived.Test.YtdnmgiabgpilkaaTrimP
import Derived.Test.YtdnmgiabgpilkaaNext
import Derived.Test.YtdnmgiabgpilkaaOrd
namespace Go.Proofs.Ytdnmgiabgpilkaa
open Go.RowKit
theorem nothing_ma (M : Nat → Prop) (w : World) : Ma M w none 0 none 0 Mach.nothing := ⟨by unfold i64 Mach.nothing; simp, by unfold i64 Mach.nothing; simp, Sl.nil _ _ _ (by unfold maxLen; omega), Sl.nil _ _ _ (by unfold maxLen; omega)⟩
section
variable {M : Nat → Prop} {w : World} {an ao : Option Addr} {cn co : Nat} {m : Mach}

set_option maxRecDepth 100000 in
set_option maxHeartbeats 4000000 in
theorem trim_any (hm : Ma M w an cn ao co m) :
    Calls Try.prog 53 #[maV m an cn ao co] w fun e w' =>
      ∃ an' cn' ao' co' t, e = .returned (.tuple #[maV t an' cn' ao' co', .int .i64 m.err]) ∧ Hid (t = m.trimOf) ∧ Ma (fun k => k < w.heap.size) w' an' cn' ao' co' t ∧ Below w.heap.size w w' := by
  by_cases he : m.err = 0
  · have ok := m.ok_of_err he
    have OK := Lib.hid ok
    have he' : (m.err != 0) = false := by simp [he]
    have n1 := ok.n1
    have HE := Lib.hid he
    clear he ok
    have HV := Lib.hid (valid_any (hm.ext ((Ext.alloc M w (.cells #[.int .i64 m.inputs, .int .i64 m.start, .slice an m.next.length cn, .slice ao m.out.length co] 24)).trans (Ext.alloc M _ (.cells #[.int .i64 0, .int .i64 0, .slice none 0 0, .slice none 0 0] 24)))))
    go_enter Try.func53, Try.ntmps53
    go_wp2_with fail
    refine (HV.out).mono ?_
    rintro e w1 ⟨rfl, hb1⟩
    have hs1 : w.heap.size + 2 ≤ w1.heap.size := by have := hb1.size; simpa using this
    have hB1 : Below (w.heap.size + 2) ((w.alloc (.cells #[.int .i64 m.inputs, .int .i64 m.start, .slice an m.next.length cn, .slice ao m.out.length co] 24)).alloc (.cells #[.int .i64 0, .int .i64 0, .slice none 0 0, .slice none 0 0] 24)) w1 := hb1.mono (by simp)
    clear hb1
    have hbx1 : ∀ o, w1.cell? ⟨w.heap.size, o, none⟩ = _ := fun o => hB1.cell (by simp)
    have hm1 : Ma M w1 an cn ao co m := hm.ext (((Ext.alloc M w (.cells #[.int .i64 m.inputs, .int .i64 m.start, .slice an m.next.length cn, .slice ao m.out.length co] 24)).trans (Ext.alloc M _ (.cells #[.int .i64 0, .int .i64 0, .slice none 0 0, .slice none 0 0] 24))).trans (Ext.of_below (by simpa using hB1)))
    have HR := Lib.hid (reach_any hm1)
    clear hm1
    go_wp2_with fail
    refine (HR.out).mono ?_
    rintro e w2 ⟨ast, cst, l, rfl, hl, hsl, hb2⟩
    have hB2 : Below (w.heap.size + 2) ((w.alloc (.cells #[.int .i64 m.inputs, .int .i64 m.start, .slice an m.next.length cn, .slice ao m.out.length co] 24)).alloc (.cells #[.int .i64 0, .int .i64 0, .slice none 0 0, .slice none 0 0] 24)) w2 := hB1.trans (hb2.mono hs1)
    have hs2 : w.heap.size + 2 ≤ w2.heap.size := Nat.le_trans hs1 hb2.size
    replace hsl := hsl.anti (M' := fun k => k < w.heap.size + 2) (fun q _ hq => by omega)
    have hlr : Hid (l = m.reach) := by have := hl.out; unfold Mach.reachOf at this; rwa [if_pos HE.out] at this
    have hpr := Mach.bfs_props OK.out m.next.length
    have hprop : Hid (l.Nodup ∧ (∀ x ∈ l, 0 ≤ x ∧ x < m.next.length) ∧ l.length ≤ m.next.length) := by
      rw [hlr.out]; exact ⟨hpr.1, hpr.2.1, Mach.bfs_le OK.out _⟩
    have hll : l.length ≤ m.next.length := hprop.out.2.2
    clear hbx1 hb2 hB1 HR HV hpr
    have hbx2 : ∀ o, w2.cell? ⟨w.heap.size, o, none⟩ = _ := fun o => hB2.cell (by simp)
    go_wp2_with (at_make; refine wpList_mk_i (B := w.heap.size + 2) (n := m.next.length) rfl rfl Try.underlying27 info_int rfl (by omega) hs2 ?_)
    intro g c num w3 hnum hO hb3 hg
    have hnl : Hid (num.length = m.next.length) := by unfold Hid; rw [hnum.out, List.length_replicate]
    have hB3 : Below (w.heap.size + 2) ((w.alloc (.cells #[.int .i64 m.inputs, .int .i64 m.start, .slice an m.next.length cn, .slice ao m.out.length co] 24)).alloc (.cells #[.int .i64 0, .int .i64 0, .slice none 0 0, .slice none 0 0] 24)) w3 := hB2.trans (hb3.mono hs2)
    have hsl3 := hsl.below hb3
    have hsg : Hid (Sl (fun k => k < w.heap.size + 2 ∨ k = g) w3 ast cst l) := hsl.ext ⟨hb3.size, fun k hk _ => hb3.block k hk, fun k hk hm => hm.elim id (fun e => by omega)⟩
    clear hbx2 hb3 hsl hsl3 hB2
    go_wp2
    go_loopw [29] (fun i wr => ∃ (k : Nat) (nm : List Int), k ≤ l.length ∧ i = .int .i64 k ∧ Hid (Nums m.next.length (l.take k) nm) ∧ Hid (num.length = nm.length) ∧ Ow (w.heap.size + 2) (fun k => w.heap.size + 2 ≤ k) wr 3 (.slice (some ⟨g, 0, none⟩) num.length c) nm ∧
      Sl (fun k => k < w.heap.size + 2 ∨ k = g) wr ast cst l ∧ Below (w.heap.size + 2) ((w.alloc (.cells #[.int .i64 m.inputs, .int .i64 m.start, .slice an m.next.length cn, .slice ao m.out.length co] 24)).alloc (.cells #[.int .i64 0, .int .i64 0, .slice none 0 0, .slice none 0 0] 24)) wr) (fun i _ => l.length - (intOf i).toNat)
    case atStart => exact ⟨0, num, by omega, rfl, Nums.init hnum.out, rfl, hO, hsg.out, hB3⟩
    case round =>
      clear hO hB3 hsg hnum
      obtain ⟨k, nm, hk, rfl, hN, hnn, hO, hS, hB⟩ := hrel
      obtain ⟨wo, rfl⟩ : ∃ wo : World, wo = wr := ⟨_, rfl⟩
      by_cases hlt : k < l.length
      · obtain ⟨bs, os, x0, rfl, hxc, hx0, -⟩ := hS.at_int hlt
        have hxr := hprop.out.2.1 x0 (List.mem_of_getElem? hx0.out)
        obtain ⟨x, rfl⟩ := Int.eq_ofNat_of_zero_le hxr.1
        have hxn : x < m.next.length := by omega
        have hxm : x < nm.length := by have := hnn.out; have := hnl.out; omega
        have hxm2 : x < num.length := by have := hnl.out; omega
        obtain ⟨g', y, hg', hyc, hyf, -, -⟩ := hO.at_int' hnn.out hxm
        obtain rfl : g = g' := by simpa using hg'
        have hki : Hid (i64 (k : Int)) := i64_of_nat (by omega)
        have hO2 := hO.set_int hnn.out (show w.heap.size + 2 ≤ g by omega) x hki.out
        have hS2 := hS.ext (Ext.setCell wo (M := fun k => k < w.heap.size + 2 ∨ k = g) (p := ⟨g, x, none⟩) (.inr rfl) (.int .i64 k))
        have hB2 := hB.setCell (p := ⟨g, x, none⟩) (show w.heap.size + 2 ≤ g by omega) (.int .i64 k)
        have hN2 : Hid (Nums m.next.length (l.take (k + 1)) (nm.set x (k : Int))) := by
          have h1 := hN.out.push hxn (take_notin hprop.out.1 hx0.out)
          have h2 : l.take (k + 1) = l.take k ++ [(x : Int)] := by rw [List.take_add_one, hx0.out]; rfl
          unfold Hid
          rw [h2]
          rwa [List.length_take, Nat.min_eq_left (by omega)] at h1
        clear hO hB hN
        go_wp2
        go_roundw
        case rel => exact ⟨k + 1, _, by omega, by go_num, hN2, by unfold Hid; rw [List.length_set]; exact hnn.out, hO2, hS2, hB2⟩
        case measure => simp [intOf]; omega
      · have hN2 : Hid (Nums m.next.length l nm) := by have := hN.out; rwa [List.take_of_length_le (by omega)] at this
        have hbx : ∀ o, wo.cell? ⟨w.heap.size, o, none⟩ = _ := fun o => hB.cell (by simp)
        have hsz : w.heap.size + 2 ≤ wo.heap.size := by have := hB.size; simpa using this
        clear hN
        have hMk0 := Mk.init wo m.inputs 0
        have hB0 : Below wo.heap.size wo (wo.alloc (.cells #[.int .i64 m.inputs, .int .i64 0, .slice none 0 0, .slice none 0 0] 24)) := (Below.refl _ _).alloc (Nat.le_refl _) _
        go_wp2
        go_loopw [44] (fun i wr => ∃ (k : Nat) (M : Nat → Prop) (aN : Option Addr) (cN : Nat) (rN : List (List Int)) (aO : Option Addr) (cO : Nat) (rO : List (List Int)), k ≤ l.length ∧ i = .int .i64 k ∧
          Hid (rN = (l.take k).map m.trimRow ∧ rO = (l.take k).map fun s => m.out.getD s.toNat []) ∧ Mk wo.heap.size M wr wo.heap.size m.inputs 0 aN cN rN aO cO rO ∧ Below wo.heap.size wo wr) (fun i _ => l.length - (intOf i).toNat)
        case atStart => exact ⟨0, _, none, 0, [], none, 0, [], by omega, rfl, ⟨rfl, rfl⟩, hMk0, hB0⟩
        case round =>
          clear hMk0 hB0 hlt hk
          obtain ⟨k, M, aN, cN, rN, aO, cO, rO, hk, rfl, hR, hMk, hBo⟩ := hrel
          obtain ⟨w4, rfl⟩ : ∃ w4 : World, w4 = wr := ⟨_, rfl⟩
          have hs4 : wo.heap.size < w4.heap.size := hMk.bolt
          have hbx4 : ∀ o, w4.cell? ⟨w.heap.size, o, none⟩ = wo.cell? ⟨w.heap.size, o, none⟩ := fun o => hBo.cell (by simp; omega)
          by_cases hlt : k < l.length
          · have hS4 := hS.below hBo
            obtain ⟨bs, os, x0, rfl, hxc, hx0, -⟩ := hS4.at_int hlt
            have hxr := hprop.out.2.1 x0 (List.mem_of_getElem? hx0.out)
            obtain ⟨x, rfl⟩ := Int.eq_ofNat_of_zero_le hxr.1
            have hxn : x < m.next.length := by omega
            have hxo : x < m.out.length := by have := OK.out.lo; omega
            have hin : m.inputs = ((m.inputs.toNat : Nat) : Int) := by have := OK.out.i0; omega
            have HIN := Lib.hid hin
            have i64b : m.inputs ≤ 64 := OK.out.i1
            clear hin
            go_wp2_with (at_make; refine wpList_mk_i (B := w4.heap.size) (n := m.inputs.toNat) rfl rfl Try.underlying27 info_int (congrArg (Value.int .i64) HIN.out) (by omega) (Nat.le_refl _) ?_)
            intro g5 c5 r0 w5 hr0 hO5 hb5 hg5
            have hMk5 := hMk.open hg5 hb5 (hO5.lt g5 rfl).2
            have hnm : ¬ M g5 := hMk.notM hg5
            have hmbo := hMk.mbo
            have hold := hMk.old
            have hmN : ∀ k, (Value.slice aN rN.length cN).ownBlock = some k → M k := fun k hk => (hMk.mn k hk).1
            have hmO : ∀ k, (Value.slice aO rO.length cO).ownBlock = some k → M k := fun k hk => (hMk.mo k hk).1
            have HH := Lib.hid (And.intro hnm (And.intro hmbo (And.intro hold (And.intro hmN hmO))))
            have hBo5 : Below wo.heap.size wo w5 := hBo.trans (hb5.mono (by omega))
            have hrl0 : Hid (r0.length = m.inputs.toNat) := by unfold Hid; rw [hr0.out, List.length_replicate]
            clear hMk hnm hmbo hold hmN hmO hb5
            have hBw : Below w.heap.size w wo := (((Below.refl _ _).alloc (Nat.le_refl _) _).alloc (by simp) _).trans (hB.mono (by omega))
            have hbx5 : ∀ o, w5.cell? ⟨w.heap.size, o, none⟩ = wo.cell? ⟨w.heap.size, o, none⟩ := fun o => hBo5.cell (by simp; omega)
            have hBw5 : Below w.heap.size w w5 := hBw.trans (hBo5.mono (by omega))
            obtain ⟨bn, on, a1, r1, c1, han, hn1, hr1, hS1⟩ := hm.next.at_row hxn
            obtain ⟨bq, oq, a2, r2, c2, hao, hn2, hr2, hS2⟩ := hm.out.at_row hxo
            subst han
            subst hao
            have hbnw : bn < w.heap.size := hm.next.lt hxn
            have hbqw : bq < w.heap.size := hm.out.lt hxo
            have hn15 : w5.cell? ⟨bn, on + x, none⟩ = some (.slice a1 r1.length c1) := (hBw5.cell (p := ⟨bn, on + x, none⟩) hbnw).trans hn1
            have e1 : Hid (r1.length = m.inputs.toNat) := by have := OK.out.rn x hxn; rw [getD_of_some hr1.out] at this; unfold Hid; omega
            have r1le := hS1.le
            have hg5wo : wo.heap.size < g5 := by omega
            go_wp2
            go_loopw [57] (fun i wr => ∃ (j : Nat) (row : List Int), j ≤ r1.length ∧ i = .int .i64 j ∧ Hid (row = (r1.take j).map (numOf m.reach) ++ List.replicate (r1.length - j) 0) ∧ Hid (r0.length = row.length) ∧
              Ow w4.heap.size (fun k => w4.heap.size ≤ k) wr 3 (.slice (some ⟨g5, 0, none⟩) r0.length c5) row ∧ Mk wo.heap.size (fun k => M k ∨ k = g5) wr wo.heap.size m.inputs 0 aN cN rN aO cO rO ∧ Below wo.heap.size wo wr) (fun i _ => r1.length - (intOf i).toNat)
            case atStart => exact ⟨0, r0, by omega, rfl, by unfold Hid; rw [hr0.out, e1.out]; simp, rfl, hO5, hMk5, hBo5⟩
            case round =>
              clear hO5 hMk5 hBo5 hn15 hbx5 hBw5 hr0
              obtain ⟨j, row, hj, rfl, hrow, hrl, hO6, hMk6, hBo6⟩ := hrel
              obtain ⟨w6, rfl⟩ : ∃ w6 : World, w6 = wr := ⟨_, rfl⟩
              have hBw6 : Below w.heap.size w w6 := hBw.trans (hBo6.mono (by omega))
              by_cases hlj : j < r1.length
              · have hS16 := hS1.below hBw6
                obtain ⟨b3, o3, t0, rfl, htc, ht0, -⟩ := hS16.at_int hlj
                have htr := Mach.row_range OK.out hxn (x := t0) (by rw [getD_of_some hr1.out]; exact List.mem_of_getElem? ht0.out)
                obtain ⟨t, rfl⟩ := Int.eq_ofNat_of_zero_le htr.1
                have htn : t < m.next.length := by omega
                have hgwo : g < wo.heap.size := (hO.lt g rfl).2
                have htm : t < nm.length := by have := hnn.out; have := hnl.out; omega
                have htm2 : t < num.length := by have := hnl.out; omega
                have hO66 := hO.below hBo6
                obtain ⟨g', y, hg', hyc, -, hy, hyi⟩ := hO66.at_int' hnn.out htm
                obtain rfl : g = g' := by simpa using hg'
                have hyv : Hid (y = numOf m.reach t) := by
                  unfold Hid
                  have := hN2.out.val t htn
                  rw [hy.out, hlr.out] at this
                  simpa using this
                have hjr : j < row.length := by
                  rw [hrow.out]; simp; omega
                obtain ⟨g'', z, hg'', hzc, hzf, -, -⟩ := hO6.at_int' hrl.out hjr
                obtain rfl : g5 = g'' := by simpa using hg''
                have hjr0 : j < r0.length := by have := hrl.out; omega
                have hO7 := hO6.set_int hrl.out hg5 j hyi.out
                have hMk7 := hMk6.write HH.out.1 HH.out.2.1 HH.out.2.2.2.1 HH.out.2.2.2.2 j (.int .i64 y)
                have hBo7 := hBo6.setCell (p := ⟨g5, j, none⟩) (show wo.heap.size ≤ g5 by omega) (.int .i64 y)
                have hrow2 : Hid (row.set j y = (r1.take (j + 1)).map (numOf m.reach) ++ List.replicate (r1.length - (j + 1)) 0) := by
                  unfold Hid
                  rw [hrow.out, getElem?_map_take _ _ ht0.out, hyv.out]
                  exact set_fill (by simp; omega) hlj
                clear hO6 hMk6 hBo6 hO66
                go_wp2
                go_roundw
                case rel => exact ⟨j + 1, _, by omega, by go_num, hrow2, by unfold Hid; rw [List.length_set]; exact hrl.out, hO7, hMk7, hBo7⟩
                case measure => simp [intOf]; omega
              · have hrowf : Hid (row = m.trimRow x) := by
                  unfold Hid Mach.trimRow
                  rw [hrow.out, List.take_of_length_le (by omega), show r1.length - j = 0 from by omega, Int.toNat_natCast, getD_of_some hr1.out]
                  simp
                have hMk6c := hMk6.close HH.out.2.2.1 HH.out.2.1 HH.out.2.2.2.1 HH.out.2.2.2.2
                have hrow6 : Sl M w6 (some ⟨g5, 0, none⟩) c5 row := by
                  have h1 := hO6.anyM (M' := M)
                  rw [hrl.out] at h1
                  exact h1.toSl fun k hk => by simp [Value.ownBlock] at hk; subst hk; exact HH.out.1
                have hrN : rN.length < 1000000000000 := by rw [hR.out.1]; simp; omega
                have hrO : rO.length < 1000000000000 := by rw [hR.out.2]; simp; omega
                obtain ⟨hk0, hk1, hk2, hk3, hkf⟩ := hMk6c.cells
                have hbx6 : ∀ o, w6.cell? ⟨w.heap.size, o, none⟩ = wo.cell? ⟨w.heap.size, o, none⟩ := fun o => hBo6.cell (by simp; omega)
                have hs6 : wo.heap.size < w6.heap.size := hMk6c.bolt
                clear hMk6 hO6
                go_wp2_with (at_builtin; refine wpList_push_row (r := row) (ar := some ⟨g5, 0, none⟩) (cr := c5) rfl rfl Try.underlying22 info_ints rfl rfl (hMk6c.n.alloc _) HH.out.2.2.2.1 (by have := hrl.out; simp [go_sem, this]) (hrow6.alloc _) hrN (by simp; omega) ?_)
                intro a7 c7 rN7 w7 hrN7 hOw7 hbk7 hgr7
                have hMk7 := (hMk6c.alloc (.cells #[.slice (some ⟨g5, 0, none⟩) r0.length c5] 27)).pushN (by simpa using hOw7) (fun k hk => by simpa using (hbk7.out k hk).1) hgr7 (fun k hk => (hbk7.out k hk).2)
                have hbo7 : ∀ b, b < wo.heap.size + 1 → w7.heap[b]? = w6.heap[b]? := fun b hb => (hgr7.block b (by simp; omega) (fun e => by have h1 := hMk6c.mn b e.symm; have h2 := (hMk6c.n.lt b e.symm).1; omega)).trans (Below.heap_alloc _ _ _ (by omega))
                have hc7 : ∀ o, w7.cell? ⟨wo.heap.size, o, none⟩ = w6.cell? ⟨wo.heap.size, o, none⟩ := fun o => World.cell?_of_block (w := w6) (hbo7 _ (by simp))
                have hf7 : ∀ o, w7.frozen? ⟨wo.heap.size, o, none⟩ = false := fun o => (World.frozen?_of_block (w := w6) (hbo7 _ (by simp))).trans (hkf o)
                have hB8 : Below wo.heap.size wo (w7.setCell ⟨wo.heap.size, 2, none⟩ (.slice a7 rN7.length c7)) := by
                  refine Below.setCell ?_ (by simp) _
                  exact (hBo6.alloc (by omega) _).grown hgr7 (by simp; omega) (fun j hj => (hMk6c.n.lt j hj).1)
                have HM7 := Lib.hid hMk7
                have HB8 := Lib.hid hB8
                clear hbo7 hOw7 hbk7 hgr7 hMk7 hB8
                go_wp2
                obtain ⟨M8, HM8⟩ : ∃ M8, Hid (Mk wo.heap.size M8 (w7.setCell ⟨wo.heap.size, 2, none⟩ (.slice a7 rN7.length c7)) wo.heap.size m.inputs 0 a7 c7 rN7 aO cO rO) := ⟨_, HM7.out⟩
                clear HM7 hc7 hf7
                generalize w7.setCell ⟨wo.heap.size, 2, none⟩ (.slice a7 rN7.length c7) = w8 at *
                have hMk8 := HM8.out
                have hB8 := HB8.out
                have hBw8 : Below w.heap.size w w8 := hBw.trans (hB8.mono (by omega))
                have hS28 := hS2.below hBw8
                have hn28 : w8.cell? ⟨bq, oq + x, none⟩ = some (.slice a2 r2.length c2) := (hBw8.cell (p := ⟨bq, oq + x, none⟩) hbqw).trans hn2
                have hb83 : w8.cell? ⟨w.heap.size, 3, none⟩ = some (.slice (some ⟨bq, oq, none⟩) m.out.length co) := (hB8.cell (p := ⟨w.heap.size, 3, none⟩) (by simp; omega)).trans (by simp [hbx])
                obtain ⟨-, -, -, hk83, hk8f⟩ := hMk8.cells
                have e2 : r2.length < 1000000000000 := by have := OK.out.ro x hxn; rw [getD_of_some hr2.out] at this; omega
                have hs8 : wo.heap.size < w8.heap.size := hMk8.bolt
                clear hbx6 hbx4 hbx hk0 hk1 hk2 hk3 hkf hMk6c hrow6 hxc
                refine wp_region_L (fun w' => w'.cell? ⟨w.heap.size, 3, none⟩ = some (.slice (some ⟨bq, oq, none⟩) m.out.length co) ∧ w'.cell? ⟨bq, oq + x, none⟩ = some (.slice a2 r2.length c2) ∧ w'.cell? ⟨wo.heap.size, 3, none⟩ = some (.slice aO rO.length cO)) [0, 1, 2, 3, 4, 5, 6] (by kernel_rfl) ?_
                have hSS : w8.drew.cell? ⟨w.heap.size, 3, none⟩ = some (.slice (some ⟨bq, oq, none⟩) m.out.length co) ∧ w8.drew.cell? ⟨bq, oq + x, none⟩ = some (.slice a2 r2.length c2) ∧ w8.drew.cell? ⟨wo.heap.size, 3, none⟩ = some (.slice aO rO.length cO) := ⟨by simpa using hb83, by simpa using hn28, by simpa using hk83⟩
                refine wpAnyL_take (i := 0) (v := ?v1) rfl (by kernel_rfl) (by kernel_rfl) (by kernel_rfl) (by kernel_rfl) (fun _ _ _ h => h) (Or.inl ⟨by rfl, ?y1⟩) (by assumption) ?r1
                case y1 => (intro w' hSw; (try dsimp only at hSw); go_simp; try with_reducible rfl)
                try simp only [Act.put, List.setIfInBounds_toArray, List.set_cons_zero, List.set_cons_succ]
                refine wpAnyL_take (i := 1) (v := ?v2) rfl (by kernel_rfl) (by kernel_rfl) (by kernel_rfl) (by kernel_rfl) (fun _ _ _ h => h) (Or.inl ⟨by rfl, ?y2⟩) (by assumption) ?r2
                case y2 => (intro w' hSw; (try dsimp only at hSw); go_simp; try with_reducible rfl)
                try simp only [Act.put, List.setIfInBounds_toArray, List.set_cons_zero, List.set_cons_succ]
                refine wpAnyL_take (i := 2) (v := ?v3) rfl (by kernel_rfl) (by kernel_rfl) (by kernel_rfl) (by kernel_rfl) (fun _ _ _ h => h) (Or.inl ⟨by rfl, ?y3⟩) (by assumption) ?r3
                case y3 => (intro w' hSw; (try dsimp only at hSw); go_simp; try with_reducible rfl)
                try simp only [Act.put, List.setIfInBounds_toArray, List.set_cons_zero, List.set_cons_succ]
                refine wpAnyL_take (i := 3) (v := ?v4) rfl (by kernel_rfl) (by kernel_rfl) (by kernel_rfl) (by kernel_rfl) (fun _ _ _ h => h) (Or.inl ⟨by rfl, ?y4⟩) (by assumption) ?r4
                case y4 => (intro w' hSw; (try dsimp only at hSw); go_simp; try with_reducible rfl)
                try simp only [Act.put, List.setIfInBounds_toArray, List.set_cons_zero, List.set_cons_succ]
                refine wpAnyL_take (i := 4) (v := ?v5) rfl (by kernel_rfl) (by kernel_rfl) (by kernel_rfl) (by kernel_rfl) (fun _ _ _ h => h) (Or.inl ⟨by rfl, ?y5⟩) (by assumption) ?r5
                case y5 => (intro w' hSw; (try dsimp only at hSw); go_simp; try with_reducible rfl)
                try simp only [Act.put, List.setIfInBounds_toArray, List.set_cons_zero, List.set_cons_succ]
                refine wpAnyL_take (i := 5) (v := ?v6) rfl (by kernel_rfl) (by kernel_rfl) (by kernel_rfl) (by kernel_rfl) (fun _ _ _ h => h) (Or.inl ⟨by rfl, ?y6⟩) (by assumption) ?r6
                case y6 => (intro w' hSw; (try dsimp only at hSw); go_simp; try with_reducible rfl)
                try simp only [Act.put, List.setIfInBounds_toArray, List.set_cons_zero, List.set_cons_succ]
                refine wpAnyL_take (i := 6) (v := ?v7) rfl (by kernel_rfl) (by kernel_rfl) (by kernel_rfl) (by kernel_rfl) (fun _ _ _ h => h) (Or.inl ⟨by rfl, ?y7⟩) (by assumption) ?r7
                case y7 => (intro w' hSw; (try dsimp only at hSw); go_simp; try with_reducible rfl)
                try simp only [Act.put, List.setIfInBounds_toArray, List.set_cons_zero, List.set_cons_succ]
                refine wpAnyL_one (i := 7) (by kernel_rfl) rfl rfl (fun K hK => ?_)
                go_simp
                refine (clone_any hS28.drew e2).mono ?_
                rintro e w9 ⟨a9, c9, l9, rfl, hl9, hS9, hb9⟩
                have hMk9 := hMk8.drew.below hb9
                have hs9 : wo.heap.size < w9.heap.size := hMk9.bolt
                obtain ⟨-, -, -, hk93, hk9f⟩ := hMk9.cells
                have hSS9 : w9.cell? ⟨w.heap.size, 3, none⟩ = some (.slice (some ⟨bq, oq, none⟩) m.out.length co) ∧ w9.cell? ⟨bq, oq + x, none⟩ = some (.slice a2 r2.length c2) ∧ w9.cell? ⟨wo.heap.size, 3, none⟩ = some (.slice aO rO.length cO) :=
                  ⟨(hb9.cell (p := ⟨w.heap.size, 3, none⟩) (by simp; omega)).trans hSS.1, (hb9.cell (p := ⟨bq, oq + x, none⟩) (by simp; omega)).trans hSS.2.1, hk93⟩
                refine hK _ _ (fun _ => hSS9) ?_
                clear hK K
                have hMk9a := hMk9.alloc (.cells #[.slice a9 l9.length c9] 27)
                have hMq : ∀ q, M8 q → q < w8.heap.size := fun q hq => by
                  by_cases h : q < wo.heap.size
                  · omega
                  · exact hMk8.lt q (by omega) hq
                have ha9 : ∀ p : Addr, p.block < w9.heap.size → (w9.alloc (.cells #[.slice a9 l9.length c9] 27)).cell? p = w9.cell? p := fun p hp => ((Below.refl _ _).alloc (Nat.le_refl _) _).cell hp
                have HA9 := Lib.hid ha9
                have HMQ := Lib.hid hMq
                clear ha9 hMq
                refine wpAnyL_one (i := 8) (by kernel_rfl) rfl rfl (fun K hK => ?_)
                go_simp
                refine hK _ _ (fun _ => ⟨(HA9.out _ (by simp; omega)).trans hSS9.1, (HA9.out _ (by simp; omega)).trans hSS9.2.1, (HA9.out _ (by simp; omega)).trans hSS9.2.2⟩) ?_
                clear hK K
                have hSr9 : Sl M8 (w9.alloc (.cells #[.slice a9 l9.length c9] 27)) a9 c9 l9 := (hS9.anti (fun q _ hq => HMQ.out q hq)).alloc _
                refine wpAnyL_one (i := 9) (by kernel_rfl) rfl rfl (fun K hK => ?_)
                refine wp_push_row (r := l9) (ar := a9) (cr := c9) rfl Try.underlying22 info_ints rfl rfl hMk9a.o (fun k hk => (hMk9a.mo k hk).1) (by simp [go_sem]) hSr9 hrO (by simp; omega) ?_
                intro a10 c10 rO10 w10 hrO10 hOw10 hbk10 hgr10
                have hbo10 : ∀ b, b < wo.heap.size + 1 → w10.heap[b]? = (w9.alloc (.cells #[.slice a9 l9.length c9] 27)).heap[b]? := fun b hb => hgr10.block b (by simp; omega) (fun e => by have h1 := hMk9a.mo b e.symm; have h2 := (hMk9a.o.lt b e.symm).1; omega)
                have hc10 : ∀ b o, b < wo.heap.size + 1 → w10.cell? ⟨b, o, none⟩ = w9.cell? ⟨b, o, none⟩ := fun b o hb => (World.cell?_of_block (a := ⟨b, o, none⟩) (hbo10 b hb)).trans (HA9.out _ (by simp; omega))
                have HC10 := Lib.hid hc10
                have hf10 : ∀ o, w10.frozen? ⟨wo.heap.size, o, none⟩ = false := fun o => (World.frozen?_of_block (a := ⟨wo.heap.size, o, none⟩) (hbo10 _ (by simp))).trans (frozen_of_row _ _ _ _ _ hMk9a.blk)
                have hk10 := (HC10.out wo.heap.size 3 (by omega)).trans hSS9.2.2
                have hMk10 := hMk9a.pushO hOw10 (fun k hk => (hbk10.out k hk).1) hgr10 (fun k hk => (hbk10.out k hk).2)
                have hB10 : Below wo.heap.size wo (w10.setCell ⟨wo.heap.size, 3, none⟩ (.slice a10 rO10.length c10)) := by
                  refine Below.setCell ?_ (by simp) _
                  exact (((hB8.drew).trans (hb9.mono (by simp; omega))).alloc (by omega) _).grown hgr10 (by simp; omega) (fun j hj => (hMk9a.o.lt j hj).1)
                have hR2 : Hid (rN7 = (l.take (k + 1)).map m.trimRow ∧ rO10 = (l.take (k + 1)).map fun s => m.out.getD s.toNat []) := by
                  refine ⟨?_, ?_⟩
                  · rw [hrN7.out, hR.out.1, getElem?_map_take _ _ hx0.out, hrowf.out]
                  · rw [hrO10.out, hR.out.2, getElem?_map_take _ _ hx0.out, hl9.out, Int.toNat_natCast, getD_of_some hr2.out]
                clear hc10 hbo10
                refine hK _ _ (fun _ => ⟨(HC10.out _ _ (by omega)).trans hSS9.1, (HC10.out _ _ (by omega)).trans hSS9.2.1, hk10⟩) ?_
                clear hK K
                have HMk10 := Lib.hid hMk10
                have HB10 := Lib.hid hB10
                clear hMk10 hB10 hOw10 hbk10 hgr10 hSS9 hSS
                refine wpAnyL_late (i := 10) (by kernel_rfl) (by kernel_rfl) rfl rfl (fun K hK => ?_)
                go_simp
                refine hK _ _ ?_
                clear hK K
                refine wpAnyL_late (i := 11) (by kernel_rfl) (by kernel_rfl) rfl rfl (fun K hK => ?_)
                go_simp
                refine hK _ _ ?_
                clear hK K
                refine wpAnyL_done (by kernel_rfl) ?_ _
                go_wp2
                go_roundw
                case rel => exact ⟨k + 1, _, a7, c7, rN7, a10, c10, rO10, by omega, by go_num, hR2, HMk10.out, HB10.out⟩
                case measure => simp [intOf]; omega
          · have hke : Hid (k = l.length) := by unfold Hid; omega
            obtain ⟨hk0, hk1, hk2, hk3, hkf⟩ := hMk.cells
            have hbr : ∀ o, w4.cell? ⟨w.heap.size + 1, o, none⟩ = _ := fun o => (hBo.cell (p := ⟨w.heap.size + 1, o, none⟩) (by simp; omega)).trans (hB.cell (by simp))
            have hbf : ∀ o, w4.frozen? ⟨w.heap.size + 1, o, none⟩ = _ := fun o => (hBo.frozen (p := ⟨w.heap.size + 1, o, none⟩) (by simp; omega)).trans (hB.frozen (by simp))
            have hs42 : w.heap.size + 1 < w4.heap.size := by omega
            have hblk : Hid (w4.heap[w.heap.size + 1]? = some (.cells #[.int .i64 0, .int .i64 0, .slice none 0 0, .slice none 0 0] 24)) := by
              have h1 := hB.block (w.heap.size + 1) (by omega)
              have h2 := hBo.block (w.heap.size + 1) (by omega)
              unfold Hid
              rw [h2, h1]
              have := heap_alloc_new (w.alloc (.cells #[.int .i64 m.inputs, .int .i64 m.start, .slice an m.next.length cn, .slice ao m.out.length co] 24)) (.cells #[.int .i64 0, .int .i64 0, .slice none 0 0, .slice none 0 0] 24)
              simpa using this
            go_wp2
            obtain ⟨q0, q1, q2, q3⟩ := cells4 (set4 (y0 := .int .i64 m.inputs) (y1 := .int .i64 0) (y2 := .slice aN rN.length cN) (y3 := .slice aO rO.length cO) hblk.out)
            have hM1 : M (w.heap.size + 1) := hMk.old _ (by omega)
            have hMf : Mk wo.heap.size M ((((w4.setCell ⟨w.heap.size + 1, 0, none⟩ (.int .i64 m.inputs)).setCell ⟨w.heap.size + 1, 1, none⟩ (.int .i64 0)).setCell ⟨w.heap.size + 1, 2, none⟩ (.slice aN rN.length cN)).setCell ⟨w.heap.size + 1, 3, none⟩ (.slice aO rO.length cO)) wo.heap.size m.inputs 0 aN cN rN aO cO rO :=
              hMk.ext ((((Ext.setCell _ (p := ⟨w.heap.size + 1, 0, none⟩) hM1 _).trans (Ext.setCell _ (p := ⟨w.heap.size + 1, 1, none⟩) hM1 _)).trans (Ext.setCell _ (p := ⟨w.heap.size + 1, 2, none⟩) hM1 _)).trans (Ext.setCell _ (p := ⟨w.heap.size + 1, 3, none⟩) hM1 _))
                (fun q hq _ => by rw [Below.heap_setCell _ _ _ _ (by simp; omega), Below.heap_setCell _ _ _ _ (by simp; omega), Below.heap_setCell _ _ _ _ (by simp; omega), Below.heap_setCell _ _ _ _ (by simp; omega)])
            have hBf : Below w.heap.size w ((((w4.setCell ⟨w.heap.size + 1, 0, none⟩ (.int .i64 m.inputs)).setCell ⟨w.heap.size + 1, 1, none⟩ (.int .i64 0)).setCell ⟨w.heap.size + 1, 2, none⟩ (.slice aN rN.length cN)).setCell ⟨w.heap.size + 1, 3, none⟩ (.slice aO rO.length cO)) := by
              refine Below.setCell (Below.setCell (Below.setCell (Below.setCell ?_ (by simp) _) (by simp) _) (by simp) _) (by simp) _
              exact (((Below.refl _ _).alloc (Nat.le_refl _) _).alloc (by simp) _).trans ((hB.mono (by omega)).trans (hBo.mono (by omega)))
            generalize ((((w4.setCell ⟨w.heap.size + 1, 0, none⟩ (.int .i64 m.inputs)).setCell ⟨w.heap.size + 1, 1, none⟩ (.int .i64 0)).setCell ⟨w.heap.size + 1, 2, none⟩ (.slice aN rN.length cN)).setCell ⟨w.heap.size + 1, 3, none⟩ (.slice aO rO.length cO)) = wf at *
            refine bodyPost_ret (v := .tuple #[.agg #[.int .i64 m.inputs, .int .i64 0, .slice aN rN.length cN, .slice aO rO.length cO], .int .i64 0]) (by simp [results, Try.results53, go_sem, q0, q1, q2, q3]) rfl ⟨aN, cN, aO, cO, ⟨m.inputs, 0, rN, rO⟩, ?_, ?_, hMf.toMa hm.inputs (by unfold i64; omega) (by omega), hBf⟩
            · rw [HE.out]
            · unfold Hid Mach.trimOf Mach.trim
              rw [if_pos HE.out, hR.out.1, hR.out.2, List.take_of_length_le (by omega), hlr.out]
  · have he' : (m.err != 0) = true := by simp [he]
    have HE := Lib.hid he
    clear he
    have HV := Lib.hid (valid_any (hm.ext ((Ext.alloc M w (.cells #[.int .i64 m.inputs, .int .i64 m.start, .slice an m.next.length cn, .slice ao m.out.length co] 24)).trans (Ext.alloc M _ (.cells #[.int .i64 0, .int .i64 0, .slice none 0 0, .slice none 0 0] 24)))))
    go_enter Try.func53, Try.ntmps53
    go_wp2_with fail
    refine (HV.out).mono ?_
    rintro e w1 ⟨rfl, hb1⟩
    have hs1 : w.heap.size + 2 ≤ w1.heap.size := by have := hb1.size; simpa using this
    have hB1 : Below (w.heap.size + 2) ((w.alloc (.cells #[.int .i64 m.inputs, .int .i64 m.start, .slice an m.next.length cn, .slice ao m.out.length co] 24)).alloc (.cells #[.int .i64 0, .int .i64 0, .slice none 0 0, .slice none 0 0] 24)) w1 := hb1.mono (by simp)
    have hblk : Hid (w1.heap[w.heap.size + 1]? = some (.cells #[.int .i64 0, .int .i64 0, .slice none 0 0, .slice none 0 0] 24)) := by
      have h1 := hB1.block (w.heap.size + 1) (by omega)
      unfold Hid
      rw [h1]
      have := heap_alloc_new (w.alloc (.cells #[.int .i64 m.inputs, .int .i64 m.start, .slice an m.next.length cn, .slice ao m.out.length co] 24)) (.cells #[.int .i64 0, .int .i64 0, .slice none 0 0, .slice none 0 0] 24)
      simpa using this
    obtain ⟨k0, k1, k2, k3⟩ := cells4 hblk.out
    have kf : ∀ o, w1.frozen? ⟨w.heap.size + 1, o, none⟩ = false := fun o => frozen_of_row _ _ _ _ _ hblk.out
    clear hb1
    go_wp2
    obtain ⟨q0, q1, q2, q3⟩ := cells4 (set4 (y0 := .int .i64 0) (y1 := .int .i64 0) (y2 := .slice none 0 0) (y3 := .slice none 0 0) hblk.out)
    have hBf : Below w.heap.size w ((((w1.setCell ⟨w.heap.size + 1, 0, none⟩ (.int .i64 0)).setCell ⟨w.heap.size + 1, 1, none⟩ (.int .i64 0)).setCell ⟨w.heap.size + 1, 2, none⟩ (.slice none 0 0)).setCell ⟨w.heap.size + 1, 3, none⟩ (.slice none 0 0)) := by
      refine Below.setCell (Below.setCell (Below.setCell (Below.setCell ?_ (by simp) _) (by simp) _) (by simp) _) (by simp) _
      exact (((Below.refl _ _).alloc (Nat.le_refl _) _).alloc (by simp) _).trans (hB1.mono (by omega))
    generalize ((((w1.setCell ⟨w.heap.size + 1, 0, none⟩ (.int .i64 0)).setCell ⟨w.heap.size + 1, 1, none⟩ (.int .i64 0)).setCell ⟨w.heap.size + 1, 2, none⟩ (.slice none 0 0)).setCell ⟨w.heap.size + 1, 3, none⟩ (.slice none 0 0)) = wf at *
    exact bodyPost_ret (v := .tuple #[.agg #[.int .i64 0, .int .i64 0, .slice none 0 0, .slice none 0 0], .int .i64 m.err]) (by simp [results, Try.results53, go_sem, q0, q1, q2, q3]) rfl ⟨none, 0, none, 0, Mach.nothing, rfl, by unfold Hid Mach.trimOf; rw [if_neg HE.out], nothing_ma _ _, hBf⟩
end
end Go.Proofs.Ytdnmgiabgpilkaa
