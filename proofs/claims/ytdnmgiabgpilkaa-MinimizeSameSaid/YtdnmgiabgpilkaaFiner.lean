/- The reference's step of minimization. Conditions: the machine is valid, and there is a class for each state. -/
import Derived.Test.YtdnmgiabgpilkaaOps
import Derived.Test.YtdnmgiabgpilkaaCanon
import Derived.Test.YtdnmgiabgpilkaaSame
namespace Go.Proofs.Ytdnmgiabgpilkaa
open Go.RowKit

theorem getD_canon_snoc (l : List Int) (x : Int) {t : Nat} (h : t < l.length) : (l ++ [x]).getD t 0 = l.getD t 0 := by
  rw [List.getD_eq_getElem?_getD, List.getElem?_append_left h, ← List.getD_eq_getElem?_getD]

section
variable {M M' : Nat → Prop} {w : World} {an ao ac : Option Addr} {cn co cc : Nat} {m : Mach} {cls : List Int}

set_option maxRecDepth 100000 in
set_option maxHeartbeats 4000000 in
theorem finer_any (hm : Ma M w an cn ao co m) (hc : Sl M' w ac cc cls) (ok : m.Ok) (hl : cls.length = m.next.length) :
    Calls Try.prog 52 #[maV m an cn ao co, .slice ac cls.length cc] w fun e w' =>
      ∃ a c l, e = .returned (.slice a l.length c) ∧ Hid (l = (canon (m.sameR cls) cls.length).1) ∧ Sl (fun k => k < w.heap.size) w' a c l ∧ Below w.heap.size w w' := by
  have OK := Lib.hid ok
  have HL := Lib.hid hl
  have i0 := ok.i0
  have i1 := ok.i1
  have n1 := ok.n1
  clear ok hl
  go_enter Try.func52, Try.ntmps52
  go_wp2
  go_loopw [5, 6, 7] (fun o ct i wr => ∃ (k : Nat) (a' : Option Addr) (c' : Nat) (l : List Int) (q : Int), k ≤ cls.length ∧ i = .int .i64 k ∧ o = .slice a' l.length c' ∧ ct = .int .i64 q ∧ 0 ≤ q ∧ q ≤ k ∧
      Hid (canon (m.sameR cls) k = (l, q)) ∧ Ow (w.heap.size + 1) (fun k => w.heap.size + 1 ≤ k) wr 3 (.slice a' l.length c') l ∧
      Below (w.heap.size + 1) (w.alloc (.cells #[.int .i64 m.inputs, .int .i64 m.start, .slice an m.next.length cn, .slice ao m.out.length co] 24)) wr) (fun _ _ i _ => cls.length - (intOf i).toNat)
  case atStart => exact ⟨0, none, 0, [], 0, by omega, rfl, rfl, rfl, by omega, by omega, rfl, Ow.nil, Below.refl _ _⟩
  case round =>
    obtain ⟨k, a', c', l, q, hk, rfl, rfl, rfl, q0, q1, hE, hO, hB⟩ := hrel
    obtain ⟨wo, rfl⟩ : ∃ wo : World, wo = wr := ⟨_, rfl⟩
    have hbx : ∀ o, wo.cell? ⟨w.heap.size, o, none⟩ = _ := fun o => hB.cell (by simp)
    have hsz : w.heap.size + 1 ≤ wo.heap.size := by have := hB.size; simpa using this
    by_cases hlt : k < cls.length
    · have hkn : k < m.next.length := by have := HL.out; omega
      have hmr : Ma M wo an cn ao co m := hm.ext ((Ext.alloc M w _).trans (Ext.of_below (by simpa using hB)))
      have hcr : Sl M' wo ac cc cls := hc.ext ((Ext.alloc M' w _).trans (Ext.of_below (by simpa using hB)))
      have HMR := Lib.hid hmr
      have HCR := Lib.hid hcr
      clear hmr hcr
      have hcl := hc.le
      have hlen : Hid (l.length = k) := by have := canon_length (m.sameR cls) k; rw [hE.out] at this; exact this
      go_wp2
      go_loopw [8, 9] (fun f t w2 => ∃ d : Nat, d ≤ k ∧ ((d < k ∧ ∃ tn : Nat, tn + d + 1 = k ∧ t = .int .i64 tn) ∨ (d = k ∧ t = .int .i64 (-1))) ∧ (∃ z : Int, f = .int .i64 z ∧ -1 ≤ z ∧ z < 128 ∧ Hid (z = look (m.sameR cls) l k d)) ∧ Hid (∃ n, w2 = wo.drewN n)) (fun _ t _ => (intOf t + 1).toNat)
      case atStart =>
        refine ⟨0, by omega, ?_, ⟨_, rfl, by omega, by omega, rfl⟩, ⟨0, rfl⟩⟩
        by_cases e : k = 0
        · subst e; exact .inr ⟨rfl, rfl⟩
        · exact .inl ⟨by omega, k - 1, by omega, by rw [show ((k - 1 : Nat) : Int) = (k : Int) - 1 from by omega]⟩
      case round =>
        obtain ⟨d, hd, ht, ⟨z, rfl, z0, z1, hz⟩, hW⟩ := hrel
        obtain ⟨w2, rfl⟩ : ∃ w2 : World, w2 = wr := ⟨_, rfl⟩
        rcases ht with ⟨hdk, tn, htn, rfl⟩ | ⟨hdk, rfl⟩
        · have hm2 : Ma M w2 an cn ao co m := by obtain ⟨n, e⟩ := hW.out; rw [e]; exact (HMR.out).ext (Ext.of_below (below_drewN _ _ _))
          have hc2 : Sl M' w2 ac cc cls := sl_dr hW HCR.out
          have hO2 : Ow (w.heap.size + 1) (fun k => w.heap.size + 1 ≤ k) w2 3 (.slice a' l.length c') l := by obtain ⟨n, e⟩ := hW.out; rw [e]; exact hO.drewN n
          have hbx2 : ∀ o, w2.cell? ⟨w.heap.size, o, none⟩ = wo.cell? ⟨w.heap.size, o, none⟩ := by obtain ⟨n, e⟩ := hW.out; rw [e]; exact fun _ => rfl
          have htk : tn < k := by omega
          have htc : tn < cls.length := by omega
          have hko : k < m.out.length := by have := OK.out.lo; omega
          have hto : tn < m.out.length := by have := OK.out.lo; omega
          have htn' : tn < m.next.length := by omega
          have htl : tn < l.length := by have := hlen.out; omega
          obtain ⟨bc, oc, xs, rfl, hcs, hxs, -⟩ := hc2.at_int hlt
          obtain ⟨bc', oc', xt, hac, hct, hxt, -⟩ := hc2.at_int htc
          obtain ⟨rfl, rfl⟩ : bc = bc' ∧ oc = oc' := by simpa using hac
          clear hac
          have HW := hW
          clear hW hm
          obtain ⟨bn, on, as1, rs1, cs1, bo, oo, as2, rs2, cs2, rfl, rfl, hn1, ho1, hS1, hS2, hr1, hr2, hl1, hl2, hl3⟩ := hm2.row OK.out hkn
          obtain ⟨bn', on', at1, rt1, ct1, bo', oo', at2, rt2, ct2, hbn, hbo, hn2, ho2, hT1, hT2, hq1, hq2, hm1, hm3, hm4⟩ := hm2.row OK.out (show tn < m.next.length by omega)
          obtain ⟨rfl, rfl⟩ : bn = bn' ∧ on = on' := by simpa using hbn
          obtain ⟨rfl, rfl⟩ : bo = bo' ∧ oo = oo' := by simpa using hbo
          clear hbn hbo
          go_wp2
          refine wp_quiet_fast (by kernel_rfl) (by kernel_rfl) ?_
          repeat (first | go_big_quiet_step (fail) | quiet_step (fail))
          refine wpQuiet_nil ?_
          intro _ hw'
          obtain ⟨nq, hw''⟩ := hw'
          subst hw''
          go_wp2
          have hcm : Hid (m.sameTo cls tn k 0 ↔ xs = xt) := by
            unfold Hid Mach.sameTo
            rw [getD_of_some hxs.out, getD_of_some hxt.out]
            exact ⟨fun h => h.1, fun h => ⟨h, fun a ha => by omega⟩⟩
          go_loopw [10, 11] (fun b i w3 => ∃ (a : Nat) (e : Bool), a ≤ m.inputs.toNat ∧ i = .int .i64 a ∧ b = .bool e ∧ Hid (e = decide (m.sameTo cls tn k a)) ∧ Hid (∃ n, w3 = w2.drewN n)) (fun _ i _ => m.inputs.toNat - (intOf i).toNat)
          case atStart => exact ⟨0, _, by omega, rfl, rfl, by unfold Hid; rw [decide_eq_decide.2 hcm.out]; rfl, ⟨_, rfl⟩⟩
          case round =>
            obtain ⟨a, e, ha, rfl, rfl, hS, hW3⟩ := hrel
            obtain ⟨w3, rfl⟩ : ∃ w3 : World, w3 = wr := ⟨_, rfl⟩
            have hbx3 : ∀ o, w3.cell? ⟨w.heap.size, o, none⟩ = wo.cell? ⟨w.heap.size, o, none⟩ := by obtain ⟨n, e⟩ := hW3.out; rw [e]; exact fun o => (World.cell?_drewN _ _ _).trans (hbx2 o)
            by_cases hrun : a < m.inputs.toNat ∧ e = true
            · obtain ⟨hai, rfl⟩ := hrun
              have hai' : (a : Int) < m.inputs := by omega
              have hS3 : Sl M w3 as1 cs1 rs1 := sl_dr hW3 hS1
              have hS4 : Sl M w3 as2 cs2 rs2 := sl_dr hW3 hS2
              have hT3 : Sl M w3 at1 ct1 rt1 := sl_dr hW3 hT1
              have hT4 : Sl M w3 at2 ct2 rt2 := sl_dr hW3 hT2
              have hc3 : Sl M' w3 (some ⟨bc, oc, none⟩) cc cls := sl_dr hW3 hc2
              have hn1' : w3.cell? ⟨bn, on + k, none⟩ = some (.slice as1 rs1.length cs1) := by obtain ⟨n, e⟩ := hW3.out; rw [e]; exact hn1
              have ho1' : w3.cell? ⟨bo, oo + k, none⟩ = some (.slice as2 rs2.length cs2) := by obtain ⟨n, e⟩ := hW3.out; rw [e]; exact ho1
              have hn2' : w3.cell? ⟨bn, on + tn, none⟩ = some (.slice at1 rt1.length ct1) := by obtain ⟨n, e⟩ := hW3.out; rw [e]; exact hn2
              have ho2' : w3.cell? ⟨bo, oo + tn, none⟩ = some (.slice at2 rt2.length ct2) := by obtain ⟨n, e⟩ := hW3.out; rw [e]; exact ho2
              obtain ⟨b1, o1, x1, b2, o2, y1, rfl, rfl, he1, he2, hx1, y10, y11, hv1, hv2, la1, la2⟩ := Ma.entry OK.out hkn hS3 hS4 hr1 hr2 hl3 hai
              obtain ⟨b3, o3, x2, b4, o4, y2, rfl, rfl, he3, he4, hx2, y20, y21, hv3, hv4, la3, la4⟩ := Ma.entry OK.out (show tn < m.next.length by omega) hT3 hT4 hq1 hq2 hm4 hai
              have hx1c : x1 < cls.length := by have := HL.out; omega
              have hx2c : x2 < cls.length := by have := HL.out; omega
              obtain ⟨bq, oq, z1, hbq, hz1, hz1', -⟩ := hc3.at_int hx1c
              obtain ⟨bq2, oq2, z2, hbq2, hz2, hz2', -⟩ := hc3.at_int hx2c
              obtain ⟨rfl, rfl⟩ : bc = bq ∧ oc = oq := by simpa using hbq
              obtain ⟨rfl, rfl⟩ : bc = bq2 ∧ oc = oq2 := by simpa using hbq2
              clear hbq hbq2
              have hnext : Hid (m.sameTo cls tn k (a + 1) ↔ (y1 = y2 ∧ z1 = z2)) := by
                unfold Hid
                have h1 : (m.ot k a = m.ot tn a ∧ cls.getD (m.nx k a).toNat 0 = cls.getD (m.nx tn a).toNat 0) ↔ (y1 = y2 ∧ z1 = z2) := by
                  rw [hv1.out, hv2.out, hv3.out, hv4.out, Int.toNat_natCast, Int.toNat_natCast, getD_of_some hz1'.out, getD_of_some hz2'.out]
                have h0 : m.sameTo cls tn k a := by simpa using hS.out.symm
                rw [← h1]
                exact ⟨fun h => h.2 a (by omega), fun h => Mach.sameTo_succ m h0 h.1 h.2⟩
              clear hn1 ho1 hn2 ho2 hS1 hS2 hT1 hT2 hS3 hS4 hT3 hT4
              go_wp2
              refine wp_quiet_fast (by kernel_rfl) (by kernel_rfl) ?_
              by_cases hy : y1 = y2
              · have hy' : (y1 == y2) = true := by simp [hy]
                have HY := Lib.hid hy
                clear hy
                repeat (first | go_big_quiet_step (fail) | quiet_step (fail))
                refine wpQuiet_nil ?_
                intro _ hw'
                obtain ⟨nq, hw''⟩ := hw'
                subst hw''
                go_wp2
                go_roundw
                case rel => exact ⟨a + 1, _, by omega, by go_num, rfl, by unfold Hid; have h0 : decide (m.sameTo cls tn k (a + 1)) = decide (y1 = y2 ∧ z1 = z2) := decide_eq_decide.2 hnext.out; rw [h0]; have := HY.out; simp [this]; try rfl, dr_add hW3 _⟩
                case measure => simp [intOf]; omega
              · have hy' : (y1 == y2) = false := by simp [hy]
                have HY := Lib.hid hy
                clear hy
                repeat (first | go_big_quiet_step (fail) | quiet_step (fail))
                refine wpQuiet_nil ?_
                intro _ hw'
                obtain ⟨nq, hw''⟩ := hw'
                subst hw''
                go_wp2
                go_roundw
                case rel => exact ⟨a + 1, _, by omega, by go_num, rfl, by unfold Hid; have h0 : decide (m.sameTo cls tn k (a + 1)) = decide (y1 = y2 ∧ z1 = z2) := decide_eq_decide.2 hnext.out; rw [h0]; have := HY.out; simp [this], dr_add hW3 _⟩
                case measure => simp [intOf]; omega
            · have hfin : Hid (e = m.sameR cls tn k) := by
                unfold Hid
                by_cases he : e = true
                · have : a = m.inputs.toNat := by
                    have h1 : ¬ a < m.inputs.toNat := fun h => hrun ⟨h, he⟩
                    omega
                  rw [hS.out, this]; rfl
                · have he' : e = false := by simpa using he
                  have h2 := hS.out
                  rw [he'] at h2
                  rw [he', Mach.sameTo_mono m ha (by simpa using h2.symm)]
              have hO3 : Ow (w.heap.size + 1) (fun k => w.heap.size + 1 ≤ k) w3 3 (.slice a' l.length c') l := by obtain ⟨n, e⟩ := hW3.out; rw [e]; exact hO2.drewN n
              obtain ⟨go_, zf, rfl, hzf, -, hzf', -⟩ := hO3.at_int htl
              have hzr : Hid (0 ≤ zf ∧ zf < 128) := by
                have h1 := (canon_range (m.sameR cls) k).2.2 tn htk
                rw [hE.out] at h1
                simp only at h1
                rw [getD_of_some hzf'.out] at h1
                unfold Hid
                omega
              have hlk : Hid (look (m.sameR cls) l k (d + 1) = if e then zf else z) := by
                unfold Hid
                have h1 : k - (d + 1) = tn := by omega
                rw [look, h1, ← hfin.out, getD_of_some hzf'.out, hz.out]
              have hW4 : Hid (∃ n, w3 = wo.drewN n) := by
                obtain ⟨n, e⟩ := hW3.out
                obtain ⟨n', e'⟩ := HW.out
                exact ⟨n' + n, by rw [e, e', World.drewN_drewN]⟩
              cases e with
              | true =>
                have hai' : ¬ a < m.inputs.toNat := fun h => hrun ⟨h, rfl⟩
                have hai'' : ¬ (a : Int) < m.inputs := by omega
                clear hrun hai'
                go_wp2
                go_roundw
                case rel =>
                  refine ⟨d + 1, by omega, ?_, ⟨_, rfl, by have := hzr.out; omega, by have := hzr.out; omega, by unfold Hid; simpa using hlk.out.symm⟩, hW4⟩
                  by_cases e : tn = 0
                  · exact .inr ⟨by omega, by subst e; rfl⟩
                  · exact .inl ⟨by omega, tn - 1, by omega, by rw [show ((tn - 1 : Nat) : Int) = (tn : Int) - 1 from by omega]⟩
                case measure => simp [intOf]
              | false =>
                clear hrun
                go_wp2
                all_goals
                  go_roundw
                  case rel =>
                    refine ⟨d + 1, by omega, ?_, ⟨_, rfl, z0, z1, by unfold Hid; simpa using hlk.out.symm⟩, hW4⟩
                    by_cases e : tn = 0
                    · exact .inr ⟨by omega, by subst e; rfl⟩
                    · exact .inl ⟨by omega, tn - 1, by omega, by rw [show ((tn - 1 : Nat) : Int) = (tn : Int) - 1 from by omega]⟩
                  case measure => simp [intOf]
        · have hW4 := hW
          have hO2 : Ow (w.heap.size + 1) (fun k => w.heap.size + 1 ≤ k) w2 3 (.slice a' l.length c') l := by obtain ⟨n, e⟩ := hW.out; rw [e]; exact hO.drewN n
          have hB2 : Below (w.heap.size + 1) (w.alloc (.cells #[.int .i64 m.inputs, .int .i64 m.start, .slice an m.next.length cn, .slice ao m.out.length co] 24)) w2 := by obtain ⟨n, e⟩ := hW.out; rw [e]; exact bl_drewN hB n
          have hsz2 : w.heap.size + 1 ≤ w2.heap.size := by have := hB2.size; simpa using this
          have hz2 : Hid (z = look (m.sameR cls) l k k) := by have := hz.out; rw [hdk] at this; exact this
          have HDK := Lib.hid hdk
          have hll : l.length ≤ 128 := by have := hlen.out; omega
          have h1l : (canon (m.sameR cls) k).1 = l := by rw [hE.out]
          have h2l : (canon (m.sameR cls) k).2 = q := by rw [hE.out]
          have H1L := Lib.hid h1l
          have H2L := Lib.hid h2l
          clear hdk h1l h2l
          by_cases hz0 : z < 0
          · have hnew : Hid (canon (m.sameR cls) (k + 1) = (l ++ [q], q + 1)) := by
              have h3 : look (m.sameR cls) (canon (m.sameR cls) k).1 k k < 0 := by rw [H1L.out, ← hz2.out]; exact hz0
              unfold Hid
              rw [canon_new _ h3, H1L.out, H2L.out]
            have hv : i64 q := by unfold i64; omega
            have HV := Lib.hid hv
            clear hv
            go_wp2_with (at_builtin; refine wpList_push_i rfl rfl Try.underlying27 info_int rfl rfl (hO2.alloc _) (by simp [go_sem]) HV.out (by omega) (by simp; omega) ?_)
            intro a2 c2 l2 w4 hl2 hO4 hgr
            have hB4 := (hB2.alloc (by simpa using hsz2) _).trans hgr
            clear hgr
            go_wp2
            go_roundw
            case rel => exact ⟨k + 1, a2, c2, l2, q + 1, by omega, by go_num, rfl, rfl, by omega, by omega, by unfold Hid; rw [hnew.out, hl2.out], hO4, hB4⟩
            case measure => simp [intOf]; omega
          · have hold : Hid (canon (m.sameR cls) (k + 1) = (l ++ [z], q)) := by
              have h3 : ¬ look (m.sameR cls) (canon (m.sameR cls) k).1 k k < 0 := by rw [H1L.out, ← hz2.out]; exact hz0
              unfold Hid
              rw [canon_old _ h3, H1L.out, H2L.out, ← hz2.out]
            have hv : i64 z := by unfold i64; omega
            have HV := Lib.hid hv
            clear hv
            go_wp2_with (at_builtin; refine wpList_push_i rfl rfl Try.underlying27 info_int rfl rfl (hO2.alloc _) (by simp [go_sem]) HV.out (by omega) (by simp; omega) ?_)
            intro a2 c2 l2 w4 hl2 hO4 hgr
            have hB4 := (hB2.alloc (by simpa using hsz2) _).trans hgr
            clear hgr
            go_wp2
            go_roundw
            case rel => exact ⟨k + 1, a2, c2, l2, q, by omega, by go_num, rfl, rfl, by omega, by omega, by unfold Hid; rw [hold.out, hl2.out], hO4, hB4⟩
            case measure => simp [intOf]; omega
    · have hke : Hid (k = cls.length) := by unfold Hid; omega
      go_wp2
      go_ret
      exact ⟨a', c', l, rfl, by unfold Hid; rw [← hke.out, hE.out], hO.fresh (by omega), ((Below.refl _ _).alloc (Nat.le_refl _) _).trans (hB.mono (by omega))⟩
end
end Go.Proofs.Ytdnmgiabgpilkaa
