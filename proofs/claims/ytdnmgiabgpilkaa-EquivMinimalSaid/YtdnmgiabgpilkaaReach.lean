/- The program's Reach. No condition beyond that the fields read as lists of lists. -/
import Derived.Test.YtdnmgiabgpilkaaOps
import Derived.Test.YtdnmgiabgpilkaaBfs
import Derived.Test.YtdnmgiabgpilkaaValidM
namespace Go.Proofs.Ytdnmgiabgpilkaa
open Go.RowKit

/-- What the marks say: t is in the list. -/
def Marks (n : Nat) (l : List Int) (b : List Bool) : Prop := b.length = n ∧ ∀ t, t < n → b[t]? = some (decide ((t : Int) ∈ l))

theorem Marks.at {n : Nat} {l : List Int} {b : List Bool} (h : Marks n l b) {t : Nat} (ht : t < n) {x : Bool} (hx : b[t]? = some x) : x = decide ((t : Int) ∈ l) := by
  have := h.2 t ht
  rw [hx] at this
  simpa using this
theorem Marks.push {n : Nat} {l : List Int} {b : List Bool} (h : Marks n l b) {t : Nat} (ht : t < n) : Marks n (l ++ [(t : Int)]) (b.set t true) := by
  refine ⟨by rw [List.length_set]; exact h.1, fun s hs => ?_⟩
  by_cases e : s = t
  · subst e
    rw [List.getElem?_set_self (by rw [h.1]; exact hs)]
    simp
  · rw [List.getElem?_set_ne (by omega), h.2 s hs]
    congr 1
    rw [decide_eq_decide, List.mem_append, List.mem_singleton]
    exact ⟨.inl, fun h => h.resolve_right (by omega)⟩
theorem Marks.init {n : Nat} {b : List Bool} (h : b = List.replicate n false) {t : Nat} (ht : t < n) : Marks n [(t : Int)] (b.set t true) := by
  subst h
  refine ⟨by simp, fun s hs => ?_⟩
  by_cases e : s = t
  · subst e
    rw [List.getElem?_set_self (by simpa using hs)]
    simp
  · rw [List.getElem?_set_ne (by omega), List.getElem?_replicate, if_pos hs]
    congr 1
    rw [eq_comm, decide_eq_false_iff_not, List.mem_singleton]
    omega

section
variable {M : Nat → Prop} {w : World} {an ao : Option Addr} {cn co : Nat} {m : Mach}

set_option maxHeartbeats 2000000 in
theorem reach_any (hm : Ma M w an cn ao co m) :
    Calls Try.prog 55 #[maV m an cn ao co] w fun e w' =>
      ∃ a c l, e = .returned (.slice a l.length c) ∧ Hid (l = m.reachOf) ∧ Sl (fun k => k < w.heap.size) w' a c l ∧ Below w.heap.size w w' := by
  have HV := Lib.hid (valid_any (hm.ext (Ext.alloc M w (.cells #[.int .i64 m.inputs, .int .i64 m.start, .slice an m.next.length cn, .slice ao m.out.length co] 24))))
  by_cases he : m.err = 0
  · have ok := m.ok_of_err he
    have OK := Lib.hid ok
    have he' : (m.err != 0) = false := by simp [he]
    have n1 := ok.n1
    have s0 := ok.s0
    have s1 := ok.s1
    have HE := Lib.hid he
    clear he ok
    go_enter Try.func55, Try.ntmps55
    go_wp2_with (first | (go_at_call 50; refine (HV.out).mono ?_; rintro e w1 ⟨rfl, hb1⟩; have hbx1 : ∀ o, w1.cell? ⟨w.heap.size, o, none⟩ = _ := fun o => hb1.cell (by simp)) | (at_make; refine wpList_mk_b (B := w.heap.size + 1) (n := m.next.length) rfl rfl Try.underlying97 info_bool rfl (by omega) ?_ ?_))
    · have := hb1.size; simpa using this
    intro g c b w2 hb hO hb2 hg
    have hsz1 : w.heap.size + 1 ≤ w1.heap.size := by have := hb1.size; simpa using this
    have hB2 : Below (w.heap.size + 1) (w.alloc (.cells #[.int .i64 m.inputs, .int .i64 m.start, .slice an m.next.length cn, .slice ao m.out.length co] 24)) w2 := (hb1.mono (by simp)).trans (hb2.mono hsz1)
    have hbl : Hid (b.length = m.next.length) := by unfold Hid; rw [hb.out, List.length_replicate]
    clear hbx1 hb1 hb2
    have hbx2 : ∀ o, w2.cell? ⟨w.heap.size, o, none⟩ = _ := fun o => hB2.cell (by simp)
    have hsb : m.start.toNat < b.length := by have := hbl.out; omega
    have hsb2 : m.start < b.length := by omega
    obtain ⟨g', x0, hg', hxc, hxf, -⟩ := hO.at_bool hsb
    obtain rfl : g = g' := by simpa using hg'
    have hglt := (hO.lt g rfl).2
    have dgw : ¬ w.heap.size = g := by omega
    have hst : ∀ (j o : Nat) (u : Value), (w2.setCell ⟨g, j, none⟩ u).cell? ⟨w.heap.size, o, none⟩ = w2.cell? ⟨w.heap.size, o, none⟩ := fun j o u => World.cell?_of_block (w := w2) (Below.heap_setCell _ _ _ _ (by simp; omega))
    go_wp2
    have hO3 := (hO.set_bool rfl (show w.heap.size + 1 ≤ g by omega) true m.start.toNat).alloc (.cells #[.int .i64 m.start] 3)
    have hN3 : Ow (g + 1) (fun k => g + 1 ≤ k) ((w2.setCell ⟨g, m.start.toNat, none⟩ (.bool true)).alloc (.cells #[.int .i64 m.start] 3)) 3 (.slice (some ⟨w2.heap.size, 0, none⟩) 1 1) [m.start] := by
      have := Ow.one (B := g + 1) (M := fun k => g + 1 ≤ k) (w := w2.setCell ⟨g, m.start.toNat, none⟩ (.bool true)) (T := 3) hm.start (by have := hglt; simp; omega)
      simpa using this
    have hB3 : Below (w.heap.size + 1) (w.alloc (.cells #[.int .i64 m.inputs, .int .i64 m.start, .slice an m.next.length cn, .slice ao m.out.length co] 24)) ((w2.setCell ⟨g, m.start.toNat, none⟩ (.bool true)).alloc (.cells #[.int .i64 m.start] 3)) := by
      refine Below.alloc (hB2.setCell (by simp; omega) _) ?_ _
      have := hB2.size
      simpa using this
    have hMk : Hid (Marks m.next.length (m.bfs 0) (b.set m.start.toNat true)) := by
      have := Marks.init hb.out (show m.start.toNat < m.next.length by omega)
      rwa [Int.toNat_of_nonneg s0] at this
    clear hO hxc hxf hst hB2 hbx2
    go_loopw [4, 5] (fun v i wr => ∃ (k : Nat) (a' : Option Addr) (c' : Nat) (l : List Int) (bs : List Bool), k ≤ m.next.length ∧ i = .int .i64 k ∧ v = .slice a' l.length c' ∧ Hid (l = m.bfs k) ∧ Hid (Marks m.next.length l bs) ∧ Hid (b.length = bs.length) ∧
      Ow (w.heap.size + 1) (fun k => w.heap.size + 1 ≤ k) wr 4 (.slice (some ⟨g, 0, none⟩) b.length c) bs ∧ Ow (g + 1) (fun k => g + 1 ≤ k) wr 3 (.slice a' l.length c') l ∧ Below (w.heap.size + 1) (w.alloc (.cells #[.int .i64 m.inputs, .int .i64 m.start, .slice an m.next.length cn, .slice ao m.out.length co] 24)) wr) (fun _ i _ => m.next.length - (intOf i).toNat)
    case atStart => exact ⟨0, _, _, [m.start], _, by omega, rfl, rfl, rfl, hMk, by unfold Hid; rw [List.length_set], hO3, hN3, hB3⟩
    case round =>
      clear hO3 hN3 hB3 hMk
      obtain ⟨k, a', c', l, bs, hk, rfl, rfl, hl, hM, hbs, hO, hN, hB⟩ := hrel
      obtain ⟨wo, rfl⟩ : ∃ wo : World, wo = wr := ⟨_, rfl⟩
      have hbx : ∀ o, wo.cell? ⟨w.heap.size, o, none⟩ = _ := fun o => hB.cell (by simp)
      have hsz : w.heap.size + 1 ≤ wo.heap.size := by have := hB.size; simpa using this
      have hsz2 : w.heap.size < wo.heap.size := by omega
      have hBw : Below w.heap.size w wo := ((Below.refl _ _).alloc (Nat.le_refl _) _).trans (hB.mono (by omega))
      have hll : l.length ≤ m.next.length := by rw [hl.out]; exact Mach.bfs_le OK.out k
      by_cases hlt : k < l.length
      · obtain ⟨gn, x0, rfl, hxc, -, hx0, -⟩ := hN.at_int hlt
        have hxr := (Mach.bfs_props OK.out k).2.1 x0 (by rw [← hl.out]; exact List.mem_of_getElem? hx0.out)
        obtain ⟨x, rfl⟩ := Int.eq_ofNat_of_zero_le hxr.1
        have hxn : x < m.next.length := by omega
        obtain ⟨bn, on, a1, r1, c1, rfl, hn1, hr1, hS1⟩ := hm.next.at_row hxn
        have hbnw : bn < w.heap.size := hm.next.lt hxn
        replace hn1 := (hBw.cell (p := ⟨bn, on + x, none⟩) hbnw).trans hn1
        have hr1n := hS1.le
        go_wp2
        refine wp_quiet_fast (by kernel_rfl) (by kernel_rfl) ?_
        repeat (first | go_big_quiet_step (fail) | quiet_step (fail))
        refine wpQuiet_nil ?_
        intro _ hw'
        obtain ⟨nq, hw''⟩ := hw'
        subst hw''
        go_wp2
        go_loopw [4, 37] (fun v i w4 => ∃ (j : Nat) (a2 : Option Addr) (c2 : Nat) (l2 : List Int) (bs2 : List Bool), j ≤ r1.length ∧ i = .int .i64 j ∧ v = .slice a2 l2.length c2 ∧ Hid (l2 = visit l (r1.take j)) ∧ Hid (Marks m.next.length l2 bs2) ∧ Hid (b.length = bs2.length) ∧
          Ow (w.heap.size + 1) (fun k => w.heap.size + 1 ≤ k) w4 4 (.slice (some ⟨g, 0, none⟩) b.length c) bs2 ∧ Ow (g + 1) (fun k => g + 1 ≤ k) w4 3 (.slice a2 l2.length c2) l2 ∧ Below (w.heap.size + 1) (w.alloc (.cells #[.int .i64 m.inputs, .int .i64 m.start, .slice (some ⟨bn, on, none⟩) m.next.length cn, .slice ao m.out.length co] 24)) w4) (fun _ i _ => r1.length - (intOf i).toNat)
        case atStart => exact ⟨0, _, _, l, bs, by omega, rfl, rfl, rfl, hM, hbs, hO.drewN _, hN.drewN _, bl_drewN hB _⟩
        case round =>
          clear hO hN hM hbs hxc hn1 hbx hB hBw hsz hsz2
          obtain ⟨j, a2, c2, l2, bs2, hj, rfl, rfl, hl2, hM, hbs, hO, hN, hB⟩ := hrel
          obtain ⟨w4, rfl⟩ : ∃ w4 : World, w4 = wr := ⟨_, rfl⟩
          have hBw : Below w.heap.size w w4 := ((Below.refl _ _).alloc (Nat.le_refl _) _).trans (hB.mono (by omega))
          have hS4 := hS1.below hBw
          have hglt := (hO.lt g rfl).2
          by_cases hlj : j < r1.length
          · obtain ⟨b3, o3, t0, rfl, htc, ht0, -⟩ := hS4.at_int hlj
            have htr := Mach.row_range OK.out hxn (x := t0) (by rw [getD_of_some hr1.out]; exact List.mem_of_getElem? ht0.out)
            obtain ⟨t, rfl⟩ := Int.eq_ofNat_of_zero_le htr.1
            have htn : t < m.next.length := by omega
            have htb : t < b.length := by have := hbl.out; omega
            have htb2 : t < bs2.length := by have := hbs.out; omega
            obtain ⟨g', y, hg', hyc, hyf, hy⟩ := hO.at_bool' hbs.out htb2
            obtain rfl : g = g' := by simpa using hg'
            have hyd : Hid (y = decide ((t : Int) ∈ l2)) := hM.out.at htn hy.out
            have htk : Hid (r1.take (j + 1) = r1.take j ++ [(t : Int)]) := by unfold Hid; rw [List.take_add_one, ht0.out]; rfl
            have hl2n : l2.length ≤ m.next.length := by
              have h1 := Mach.bfs_props OK.out k
              refine nodup_le _ _ (by rw [hl2.out, hl.out]; exact visit_nodup _ _ h1.1) (fun z hz => ?_)
              rw [hl2.out, hl.out, visit_mem] at hz
              rcases hz with hz | hz
              · exact h1.2.1 z hz
              · exact Mach.row_range OK.out hxn (by rw [getD_of_some hr1.out]; exact List.mem_of_mem_take hz)
            cases y with
            | true =>
              have hin : Hid (visit l (r1.take (j + 1)) = l2) := by
                have : (t : Int) ∈ l2 := by simpa using hyd.out.symm
                unfold Hid
                rw [htk.out, visit_snoc, ← hl2.out, if_pos this]
              go_wp2
              go_roundw
              case rel => exact ⟨j + 1, _, _, l2, bs2, by omega, by go_num, rfl, hin.out.symm, hM, hbs, hO, hN, hB⟩
              case measure => simp [intOf]; omega
            | false =>
              have hnin : Hid (visit l (r1.take (j + 1)) = l2 ++ [(t : Int)]) := by
                have : ¬ (t : Int) ∈ l2 := by simpa using hyd.out.symm
                unfold Hid
                rw [htk.out, visit_snoc, ← hl2.out, if_neg this]
              have hO5 := hO.set_bool hbs.out (show w.heap.size + 1 ≤ g by omega) true t
              have hN5 : Ow (g + 1) (fun k => g + 1 ≤ k) (w4.setCell ⟨g, t, none⟩ (.bool true)) 3 (.slice a2 l2.length c2) l2 := hN.setOtherI (fun k hk => by have := (hN.lt k hk).1; simp; omega) _
              have hB5 := hB.setCell (p := ⟨g, t, none⟩) (show w.heap.size + 1 ≤ g by omega) (.bool true)
              have hs5 := hB.size
              have hti : Hid (i64 (t : Int)) := i64_of_nat (by omega)
              clear hO hN hB
              go_wp2_with (at_builtin; refine wpList_push_i rfl rfl Try.underlying27 info_int rfl rfl (hN5.alloc _) (by simp [go_sem]) hti.out (by omega) (by simp; omega) ?_)
              intro a6 c6 l6 w6 hl6 hN6 hb6
              have hO6 := (hO5.alloc (.cells #[.int .i64 (t : Int)] 3)).uptob hb6 (fun k hk => by simp [Value.ownBlock] at hk; omega)
              have hB6 := (hB5.alloc (by simpa using hs5) (.cells #[.int .i64 (t : Int)] 3)).trans (hb6.mono (by omega))
              clear hb6 hO5 hN5 hB5
              go_wp2
              go_roundw
              case rel => exact ⟨j + 1, a6, c6, l6, bs2.set t true, by omega, by go_num, rfl, by unfold Hid; rw [hl6.out, hnin.out], by unfold Hid; rw [hl6.out]; exact hM.out.push htn, by unfold Hid; rw [List.length_set]; exact hbs.out, hO6, hN6, hB6⟩
              case measure => simp [intOf]; omega
          · have hall : Hid (l2 = m.bfs (k + 1)) := by
              unfold Hid
              have hx0' := hx0.out
              rw [hl.out] at hx0'
              rw [Mach.bfs_succ, if_pos (by rw [← hl.out]; exact hlt), getD_of_some hx0', Int.toNat_natCast, getD_of_some hr1.out, hl2.out, List.take_of_length_le (by omega), hl.out]
            go_wp2
            go_roundw
            case rel => exact ⟨k + 1, a2, c2, l2, bs2, by omega, by go_num, rfl, hall, hM, hbs, hO, hN, hB⟩
            case measure => simp [intOf]; omega
      · have hst : Hid (l = m.reachOf) := by
          unfold Hid Mach.reachOf
          rw [if_pos HE.out, Mach.reach_of_stop (i := k) (by rw [← hl.out]; exact hlt) hk, ← hl.out]
        go_wp2
        go_ret
        exact ⟨a', c', l, rfl, hst, hN.fresh (by omega), hBw⟩
  · have he' : (m.err != 0) = true := by simp [he]
    have HE := Lib.hid he
    clear he
    go_enter Try.func55, Try.ntmps55
    go_wp2_with (go_at_call 50; refine (HV.out).mono ?_; rintro e w1 ⟨rfl, hb1⟩)
    go_ret
    exact ⟨none, 0, [], rfl, by unfold Hid Mach.reachOf; rw [if_neg HE.out], Sl.nil _ _ _ (by unfold maxLen; omega), ((Below.refl _ _).alloc (Nat.le_refl _) _).trans (hb1.mono (by simp))⟩
end
end Go.Proofs.Ytdnmgiabgpilkaa
