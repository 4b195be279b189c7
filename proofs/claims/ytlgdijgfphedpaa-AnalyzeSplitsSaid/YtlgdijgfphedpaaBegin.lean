/- The program's begin: the tests, and the subject of a search. Condition: the answers are as long as their words. -/
import Derived.Test.YtlgdijgfphedpaaSub
import Derived.Test.YtlgdijgfphedpaaOrdT
import Derived.Test.YtlgdijgfphedpaaOutsR
import Derived.Deep.CutRange
namespace Go.Proofs.Ytlgdijgfphedpaa
open Go.RowKit
section
variable {M M' M'' : Nat → Prop} {w : World} {an ao ac a b : Option Addr} {cn co cc c d : Nat} {x : Sj}

/-- The subject, ready for the search. -/
structure SuR (B : Nat) (g : Nat) (w : World) (x : Sj) (an : Option Addr) (cn : Nat) (ao : Option Addr) (co : Nat) (ac : Option Addr) (cc : Nat) (a : Option Addr) (c : Nat) (b : Option Addr) (d : Nat) (aS : Option Addr) (cS : Nat) (aO : Option Addr) (cO : Nat) : Prop where
  g0 : B ≤ g
  g1 : g < w.heap.size
  cells : H5 w g an cn ao co ac cc x.h ∧ w.cell? ⟨g, 5, none⟩ = some (.int .i64 x.o.inputs) ∧ w.cell? ⟨g, 6, none⟩ = some (.slice a x.o.traces.length c) ∧ w.cell? ⟨g, 7, none⟩ = some (.slice b x.w.length d) ∧
    w.cell? ⟨g, 8, none⟩ = some (.slice aS (x.w.length + 1) cS) ∧ w.cell? ⟨g, 9, none⟩ = some (.slice aO x.w.length cO)
  states : Sl (fun k => k < B) w aS cS (x.sts x.w.length)
  outs : Sl (fun k => k < B) w aO cO (x.h.m.outsW x.h.m.start x.w)

theorem SuR.later {B g : Nat} {w w' : World} {aS aO : Option Addr} {cS cO : Nat} (h : SuR B g w x an cn ao co ac cc a c b d aS cS aO cO) (hb : Below w.heap.size w w') : SuR B g w' x an cn ao co ac cc a c b d aS cS aO cO := by
  obtain ⟨c1, c2, c3, c4, c5, c6⟩ := h.cells
  have hg := h.g1
  exact ⟨h.g0, Nat.lt_of_lt_of_le h.g1 hb.size, ⟨c1.below hb hg, (hb.cell (p := ⟨g, 5, none⟩) hg).trans c2, (hb.cell (p := ⟨g, 6, none⟩) hg).trans c3, (hb.cell (p := ⟨g, 7, none⟩) hg).trans c4, (hb.cell (p := ⟨g, 8, none⟩) hg).trans c5, (hb.cell (p := ⟨g, 9, none⟩) hg).trans c6⟩, h.states.below hb, h.outs.below hb⟩

/-- What begin returns. -/
def BeR (B : Nat) (w : World) (x : Sj) (an : Option Addr) (cn : Nat) (ao : Option Addr) (co : Nat) (ac : Option Addr) (cc : Nat) (a : Option Addr) (c : Nat) (b : Option Addr) (d : Nat) (e : Ending) : Prop :=
  (x.argErr ≠ 0 → e = .returned (.tuple #[.pointer none, .int .i64 x.argErr])) ∧
  (x.argErr = 0 → ∃ g aS cS aO cO, e = .returned (.tuple #[.pointer (some ⟨g, 0, none⟩), .int .i64 0]) ∧ SuR B g w x an cn ao co ac cc a c b d aS cS aO cO)
theorem BeR.no {B : Nat} {e : Ending} (h : x.argErr ≠ 0) (he : e = .returned (.tuple #[.pointer none, .int .i64 x.argErr])) : BeR B w x an cn ao co ac cc a c b d e := ⟨fun _ => he, fun h0 => absurd h0 h⟩
theorem Sj.argErr_cases2 : (x.h.err ≠ 0 ∧ x.argErr = x.h.err) ∨ (x.h.Ok ∧ x.h.err = 0 ∧ x.o.inputs ≠ x.h.m.inputs ∧ x.argErr = 15) ∨
    (x.h.Ok ∧ x.h.err = 0 ∧ x.o.inputs = x.h.m.inputs ∧ wErr x.w x.h.m.inputs ≠ 0 ∧ x.argErr = wErr x.w x.h.m.inputs) ∨
    (x.h.Ok ∧ x.h.err = 0 ∧ x.o.inputs = x.h.m.inputs ∧ wErr x.w x.h.m.inputs = 0 ∧ x.o.known x.w = false ∧ x.argErr = 12) ∨
    (x.h.Ok ∧ x.h.err = 0 ∧ x.o.inputs = x.h.m.inputs ∧ wErr x.w x.h.m.inputs = 0 ∧ x.o.known x.w = true ∧ x.argErr = if x.o.ans x.w = x.h.m.outsW x.h.m.start x.w then 8 else 0) := by
  rcases Sj.argErr_cases (x := x) with h | h | h | h | ⟨h1, h2, h3, h4, h5, h6, h7⟩ | ⟨h1, h2, h3, h4, h5, h6, h7⟩
  · exact .inl h
  · exact .inr (.inl h)
  · exact .inr (.inr (.inl h))
  · exact .inr (.inr (.inr (.inl h)))
  · exact .inr (.inr (.inr (.inr ⟨h1, h2, h3, h4, h5, by rw [if_pos h6]; exact h7⟩)))
  · exact .inr (.inr (.inr (.inr ⟨h1, h2, h3, h4, h5, by rw [if_neg h6]; exact h7⟩)))
theorem ret_pe {p : Option Addr} {e e' : Int} (h : e = e') : Ending.returned (.tuple #[.pointer p, .int .i64 e]) = .returned (.tuple #[.pointer p, .int .i64 e']) := by rw [h]

set_option maxRecDepth 100000 in
set_option maxHeartbeats 8000000 in
theorem begin_any (hh : Hp M w an cn ao co ac cc x.h) (ho : Os M' w a c x.o) (hw : Sl M'' w b d x.w) (hl : Hid x.o.lens) :
    Calls Try.prog 34 #[hyV x.h an cn ao co ac cc, obV x.o a c, .slice b x.w.length d] w fun e w' => BeR w.heap.size w' x an cn ao co ac cc a c b d e ∧ Below w.heap.size w w' := by
  have hB0 := ((Below.refl w.heap.size w).alloc (Nat.le_refl _) (hyO x.h an cn ao co ac cc)).alloc (by simp) (obO x.o a c)
  have hx0 : H5 ((w.alloc (hyO x.h an cn ao co ac cc)).alloc (obO x.o a c)) w.heap.size an cn ao co ac cc x.h := (h5_new w).below (B := w.heap.size + 1) ((Below.refl _ _).alloc (by simp) _) (by omega)
  have hy0 : O2 ((w.alloc (hyO x.h an cn ao co ac cc)).alloc (obO x.o a c)) (w.heap.size + 1) a c x.o := by
    have k := o2_new (o := x.o) (a := a) (c := c) (w.alloc (hyO x.h an cn ao co ac cc))
    simpa using k
  have hz0 : w.heap.size + 2 ≤ ((w.alloc (hyO x.h an cn ao co ac cc)).alloc (obO x.o a c)).heap.size := by simp
  have HH := Lib.hid hh
  have HO := Lib.hid ho
  have HW := Lib.hid hw
  have hwl := hw.le
  have HC := Lib.hid (hvalid_any (HH.out.below hB0))
  clear hh ho hw
  rcases Sj.argErr_cases2 (x := x) with ⟨h1, hF⟩ | ⟨ok, h1, h2, hF⟩ | ⟨ok, h1, h2, h3, hF⟩ | ⟨ok, h1, h2, h3, h4, hF⟩ | ⟨ok, h1, h2, h3, h4, hF⟩
  · have hb : (x.h.err != 0) = true := by simp [h1]
    have HF := Lib.hid hF
    have H1 := Lib.hid h1
    clear h1 hF
    go_enter Try.func34, Try.ntmps34
    go_wp2_with fail
    generalize (w.alloc (hyO x.h an cn ao co ac cc)).alloc (obO x.o a c) = w0 at *
    refine (HC.out).mono ?_
    rintro e w1 ⟨rfl, hb1⟩
    have hB1 := hB0.trans (hb1.mono (by omega))
    go_wp2
    go_ret2
    exact ⟨BeR.no (by rw [HF.out]; exact H1.out) (ret_pe HF.out.symm), hB1⟩
  all_goals
    have hb : (x.h.err != 0) = false := by simp [h1]
    have HF := Lib.hid hF
    have OK := Lib.hid ok
    have H2 := Lib.hid h2
    clear h1 h2 hF ok
    go_enter Try.func34, Try.ntmps34
    go_wp2_with fail
    generalize (w.alloc (hyO x.h an cn ao co ac cc)).alloc (obO x.o a c) = w0 at *
    refine (HC.out).mono ?_
    rintro e w1 ⟨rfl, hb1⟩
    have hB1 := hB0.trans (hb1.mono (by omega))
    have hx1 := hx0.below hb1 (by omega)
    have hy1 := hy0.below hb1 (by omega)
    have hz1 : w.heap.size + 2 ≤ w1.heap.size := by have := hb1.size; omega
    clear HC hb1 hB0 hx0 hy0 hz0
    have HC := Lib.hid (wcheck_any (HW.out.below hB1) x.o.inputs)
  · have h2b : (x.h.m.inputs != x.o.inputs) = true := by simp; exact fun e => H2.out e.symm
    go_wp2
    go_ret2
    exact ⟨BeR.no (by rw [HF.out]; decide) (ret_pe HF.out.symm), hB1⟩
  all_goals
    have h2b : (x.h.m.inputs != x.o.inputs) = false := by simp [H2.out]
  · have hb3 : (wErr x.w x.o.inputs != 0) = true := by rw [H2.out]; simp [h3]
    have HF : Hid (x.argErr = wErr x.w x.o.inputs) := by unfold Hid; rw [H2.out]; exact HF.out
    have H3 : Hid (wErr x.w x.o.inputs ≠ 0) := by unfold Hid; rw [H2.out]; exact h3
    clear h3
    go_wp2_with fail
    refine (HC.out).mono ?_
    rintro e w2 ⟨rfl, hb2⟩
    have hB2 := hB1.trans (hb2.mono (by omega))
    go_wp2
    go_ret2
    exact ⟨BeR.no (by rw [HF.out]; exact H3.out) (ret_pe HF.out.symm), hB2⟩
  all_goals
    have hb3 : (wErr x.w x.o.inputs != 0) = false := by rw [H2.out]; simp [h3]
    have HKW := Lib.hid (Mach.okS_of h3)
    clear h3
    go_wp2_with fail
    refine (HC.out).mono ?_
    rintro e w2 ⟨rfl, hb2⟩
    have hB2 := hB1.trans (hb2.mono (by omega))
    have hx2 := hx1.below hb2 (by omega)
    have hy2 := hy1.below hb2 (by omega)
    have hz2 : w.heap.size + 2 ≤ w2.heap.size := by have := hb2.size; omega
    clear HC hb2 hB1 hx1 hy1 hz1
    have HC := ans_any (HO.out.below hB2) (HW.out.below hB2) hl
    rw [h4] at HC
    have HC := Lib.hid HC
    clear h4
    go_wp2_with fail
    refine (HC.out).mono ?_
    rintro e w3 ⟨a3, c3, l3, rfl, hl3, hs3, hb3⟩
    have hB3 := hB2.trans (hb3.mono (by omega))
    have hx3 := hx2.below hb3 (by omega)
    have hy3 := hy2.below hb3 (by omega)
    have hz3 : w.heap.size + 2 ≤ w3.heap.size := by have := hb3.size; omega
    have HS3 := Lib.hid hs3
    clear HC hb3 hB2 hx2 hy2 hz2 hs3
  · go_wp2
    go_ret2
    exact ⟨BeR.no (by rw [HF.out]; decide) (ret_pe HF.out.symm), hB3⟩
  · have hn1 := OK.out.m.n1
    have hi1 := OK.out.m.i1
    have hwlen := HKW.out.2
    obtain ⟨vX, hvX⟩ : ∃ vX : Obj, vX = .cells #[.int .i64 x.h.m.start] 3 := ⟨_, rfl⟩
    have hg3 : (w3.alloc (.cells #[.int .i64 x.h.m.start] 3)).heap.size = w3.heap.size + 1 := by simp
    have hSu : SuI w3.heap.size (w3.heap.size + 1) ((w3.alloc (.cells #[.int .i64 x.h.m.start] 3)).alloc (suO x an cn ao co ac cc a c b d (.slice (some ⟨w3.heap.size, 0, none⟩) 1 1) (.slice none 0 0))) x an cn ao co ac cc a c b d (some ⟨w3.heap.size, 0, none⟩) 1 [x.h.m.start] none 0 [] := by
      have hob := heap_alloc_new (w3.alloc (.cells #[.int .i64 x.h.m.start] 3)) (suO x an cn ao co ac cc a c b d (.slice (some ⟨w3.heap.size, 0, none⟩) 1 1) (.slice none 0 0))
      rw [hg3] at hob
      exact ⟨by omega, by simp, hob, (Ow.one (T := 3) HH.out.m.start (by omega)).alloc _, Ow.nil, fun k hk => by simp [Value.ownBlock] at hk; omega, fun k hk => by simp [Value.ownBlock] at hk, fun k _ => by simp [Value.ownBlock]⟩
    have hB5 := (hB3.alloc (by omega) (.cells #[.int .i64 x.h.m.start] 3)).alloc (by simp; omega) (suO x an cn ao co ac cc a c b d (.slice (some ⟨w3.heap.size, 0, none⟩) 1 1) (.slice none 0 0))
    have hb5 := ((Below.refl w3.heap.size w3).alloc (Nat.le_refl _) (.cells #[.int .i64 x.h.m.start] 3)).alloc (by simp) (suO x an cn ao co ac cc a c b d (.slice (some ⟨w3.heap.size, 0, none⟩) 1 1) (.slice none 0 0))
    have hx5 := hx3.below hb5 (by omega)
    have hxb : H5 ((w3.alloc (.cells #[.int .i64 x.h.m.start] 3))) w.heap.size an cn ao co ac cc x.h := hx3.below ((Below.refl w3.heap.size w3).alloc (Nat.le_refl _) _) (by omega)
    have HB53 := Lib.hid hb5
    clear hb5 hvX hg3
    clear vX
    go_upto_region 13 with (fail)
    generalize ((w3.alloc (.cells #[.int .i64 x.h.m.start] 3)).alloc (suO x an cn ao co ac cc a c b d (.slice (some ⟨w3.heap.size, 0, none⟩) 1 1) (.slice none 0 0))) = w5 at *
    obtain ⟨g, hg⟩ : ∃ g, g = w3.heap.size + 1 := ⟨_, rfl⟩
    rw [← hg] at hSu ⊢
    have hgw : w.heap.size + 2 < g := by omega
    have hlS0 : Hid ([x.h.m.start] = x.sts 0) := by unfold Hid Sj.sts; simp [Sj.st_zero]
    have hst0 : Hid (x.h.m.start = x.st 0) := Sj.st_zero.symm
    have hz5 : w3.heap.size + 2 ≤ w5.heap.size := by have := hSu.g1; omega
    have hb50 : Below w3.heap.size w5 w5 := Below.refl _ _
    have hlO0 : Hid (([] : List Int) = x.h.m.outsW x.h.m.start (x.w.take 0)) := rfl
    clear hg hx3 hxb hy3 hB3
    go_wp2
    go_loopw [13, 56] (fun s i wr => ∃ (k : Nat) (aS : Option Addr) (cS : Nat) (lS : List Int) (aO : Option Addr) (cO : Nat) (lO : List Int), k ≤ x.w.length ∧ i = .int .i64 k ∧ s = .int .i64 (x.st k) ∧ Hid (lS = x.sts k) ∧ Hid (lO = x.h.m.outsW x.h.m.start (x.w.take k)) ∧
      SuI w3.heap.size g wr x an cn ao co ac cc a c b d aS cS lS aO cO lO ∧ Below w3.heap.size w5 wr) (fun _ i _ => x.w.length - (intOf i).toNat)
    case atStart => exact ⟨0, some ⟨w3.heap.size, 0, none⟩, 1, [x.h.m.start], none, 0, [], by omega, rfl, by rw [hst0.out], hlS0, hlO0, hSu, hb50⟩
    case round =>
      clear hSu hb50 hlS0 hlO0
      obtain ⟨k, aS, cS, lS, aO, cO, lO, hk, rfl, rfl, hlS, hlO, hSu, hb⟩ := hrel
      obtain ⟨w6, rfl⟩ : ∃ w6 : World, w6 = wr := ⟨_, rfl⟩
      have hB6 := hB5.trans (hb.mono (by omega))
      have hx6 := hx5.below hb (by omega)
      have hsz6 : w5.heap.size ≤ w6.heap.size := hb.size
      by_cases hlt : k < x.w.length
      · have hr := Mach.endW_range OK.out.m (x.w.take k) x.h.m.start OK.out.m.s0 OK.out.m.s1 (Mach.okS_take HKW.out.1 k)
        have hr : 0 ≤ x.st k ∧ x.st k < x.h.m.next.length := hr
        obtain ⟨sn, hsn⟩ := Int.eq_ofNat_of_zero_le hr.1
        obtain ⟨bl, ol, y, rfl, hxc, hxk, -⟩ := HW.out.at_int hlt
        obtain ⟨y0, y1⟩ := HKW.out.1 y (List.mem_of_getElem? hxk.out)
        obtain ⟨yn, rfl⟩ := Int.eq_ofNat_of_zero_le y0
        have hsn2 : sn < x.h.m.next.length := by omega
        have hyn : yn < x.h.m.inputs.toNat := by omega
        obtain ⟨bn, on, bo, oo, rfl, rfl⟩ := HH.out.m.addr OK.out.m
        obtain ⟨b1, o1, d1, r1, b2, o2, d2, r2, nn, yy, hn1, hn2, hn3, hn4, hn5, hy0, hy1, hnx, hot, hr1, hr2, hr3, hr4⟩ := HH.out.m.atS OK.out.m hsn2 hyn
        have hso : sn < x.h.m.out.length := by rw [OK.out.m.lo]; exact hsn2
        have hlS2 : Hid (lS ++ [((nn : Nat) : Int)] = x.sts (k + 1)) := by
          unfold Hid; rw [Sj.sts_succ, hlS.out, Sj.st_succ hxk.out, hsn]; simp [hnx.out]
        have hst2 : Hid (((nn : Nat) : Int) = x.st (k + 1)) := by unfold Hid; rw [Sj.st_succ hxk.out, hsn]; simp [hnx.out]
        have hlO2 : Hid (lO ++ [yy] = x.h.m.outsW x.h.m.start (x.w.take (k + 1))) := by
          unfold Hid; rw [Mach.take_step hxk.out, Mach.outsW_snoc, ← hlO.out]
          have : x.h.m.endW x.h.m.start (x.w.take k) = ((sn : Nat) : Int) := hsn
          rw [this]; simp [hot.out]
        have hlSn := Lib.hid (show lS.length = k + 1 by rw [hlS.out, Sj.sts_len])
        have hlOn := Lib.hid (show lO.length ≤ k by rw [hlO.out, Mach.outsW_len, List.length_take]; omega)
        have HKc : Hid (∀ w', Below w.heap.size w w' → (w'.cell? ⟨bl, ol + k, none⟩ = some (.int .i64 yn) ∧ w'.cell? ⟨bo, oo + sn, none⟩ = some (.slice (some ⟨b2, o2, none⟩) r2 d2) ∧ w'.cell? ⟨b2, o2 + yn, none⟩ = some (.int .i64 yy)) ∧ w'.cell? ⟨bn, on + sn, none⟩ = some (.slice (some ⟨b1, o1, none⟩) r1 d1) ∧ w'.cell? ⟨b1, o1 + yn, none⟩ = some (.int .i64 nn)) := fun w' hb' =>
          ⟨⟨(hb'.cell (p := ⟨bl, ol + k, none⟩) (lt_of_cell hxc)).trans hxc, (hb'.cell (p := ⟨bo, oo + sn, none⟩) (lt_of_cell hn2)).trans hn2, (hb'.cell (p := ⟨b2, o2 + yn, none⟩) (lt_of_cell hn4)).trans hn4⟩, (hb'.cell (p := ⟨bn, on + sn, none⟩) (lt_of_cell hn1)).trans hn1, (hb'.cell (p := ⟨b1, o1 + yn, none⟩) (lt_of_cell hn3)).trans hn3⟩
        have hc6 := (HKc.out w6 hB6).1.1
        rw [hsn]
        clear y0 y1 hr hlS hlO hxc hn1 hn2 hn3 hn4 hsn
        go_wp2
        refine wp_region_T (fun w' => H5 w' w.heap.size (some ⟨bn, on, none⟩) cn (some ⟨bo, oo, none⟩) co ac cc x.h ∧ w'.cell? ⟨g, 9, none⟩ = some (.slice aO lO.length cO) ∧ w'.cell? ⟨bo, oo + sn, none⟩ = some (.slice (some ⟨b2, o2, none⟩) r2 d2) ∧ w'.cell? ⟨b2, o2 + yn, none⟩ = some (.int .i64 yy)) [0, 1, 2, 3, 4, 5, 6, 7, 8, 9, 10, 11, 12, 13] (by kernel_rfl) ?_
        have hSud := hSu.drew
        have hbd := hb.drew
        have hBd := hB6.drew
        have hSS := And.intro (hx6.below (Below.refl w6.heap.size w6).drew (by omega)) (And.intro hSud.cells.1.2.2.2.2.2 (And.intro (HKc.out _ hBd).1.2.1 (HKc.out _ hBd).1.2.2))
        have hszd : w5.heap.size ≤ w6.drew.heap.size := hsz6
        clear hx6 hSu hb hB6 hsz6 hc6
        generalize w6.drew = w7 at *
        refine wpAnyT_take (i := 0) (v := ?v1) rfl (by kernel_rfl) (by kernel_rfl) (by kernel_rfl) (by kernel_rfl) (by kernel_rfl) (fun _ _ _ h => h) (Or.inl ⟨by rfl, ?y1⟩) (by assumption) ?r1
        case y1 => (intro w' hSw; (try dsimp only at hSw); go_simp; try with_reducible rfl)
        try simp only [Act.put, List.setIfInBounds_toArray, List.set_cons_zero, List.set_cons_succ]
        refine wpAnyT_take (i := 1) (v := ?v2) rfl (by kernel_rfl) (by kernel_rfl) (by kernel_rfl) (by kernel_rfl) (by kernel_rfl) (fun _ _ _ h => h) (Or.inl ⟨by rfl, ?y2⟩) (by assumption) ?r2
        case y2 => (intro w' hSw; (try dsimp only at hSw); go_simp; try with_reducible rfl)
        try simp only [Act.put, List.setIfInBounds_toArray, List.set_cons_zero, List.set_cons_succ]
        refine wpAnyT_take (i := 2) (v := ?v3) rfl (by kernel_rfl) (by kernel_rfl) (by kernel_rfl) (by kernel_rfl) (by kernel_rfl) (fun _ _ _ h => h) (Or.inl ⟨by rfl, ?y3⟩) (by assumption) ?r3
        case y3 => (intro w' hSw; (try dsimp only at hSw); go_simp; try with_reducible rfl)
        try simp only [Act.put, List.setIfInBounds_toArray, List.set_cons_zero, List.set_cons_succ]
        refine wpAnyT_take (i := 3) (v := ?v4) rfl (by kernel_rfl) (by kernel_rfl) (by kernel_rfl) (by kernel_rfl) (by kernel_rfl) (fun _ _ _ h => h) (Or.inl ⟨by rfl, ?y4⟩) (by assumption) ?r4
        case y4 => (intro w' hSw; (try dsimp only at hSw); go_simp; try with_reducible rfl)
        try simp only [Act.put, List.setIfInBounds_toArray, List.set_cons_zero, List.set_cons_succ]
        refine wpAnyT_take (i := 4) (v := ?v5) rfl (by kernel_rfl) (by kernel_rfl) (by kernel_rfl) (by kernel_rfl) (by kernel_rfl) (fun _ _ _ h => h) (Or.inl ⟨by rfl, ?y5⟩) (by assumption) ?r5
        case y5 => (intro w' hSw; (try dsimp only at hSw); go_simp; try with_reducible rfl)
        try simp only [Act.put, List.setIfInBounds_toArray, List.set_cons_zero, List.set_cons_succ]
        refine wpAnyT_take (i := 5) (v := ?v6) rfl (by kernel_rfl) (by kernel_rfl) (by kernel_rfl) (by kernel_rfl) (by kernel_rfl) (fun _ _ _ h => h) (Or.inl ⟨by rfl, ?y6⟩) (by assumption) ?r6
        case y6 => (intro w' hSw; (try dsimp only at hSw); go_simp; try with_reducible rfl)
        try simp only [Act.put, List.setIfInBounds_toArray, List.set_cons_zero, List.set_cons_succ]
        refine wpAnyT_take (i := 6) (v := ?v7) rfl (by kernel_rfl) (by kernel_rfl) (by kernel_rfl) (by kernel_rfl) (by kernel_rfl) (fun _ _ _ h => h) (Or.inl ⟨by rfl, ?y7⟩) (by assumption) ?r7
        case y7 => (intro w' hSw; (try dsimp only at hSw); go_simp; try with_reducible rfl)
        try simp only [Act.put, List.setIfInBounds_toArray, List.set_cons_zero, List.set_cons_succ]
        refine wpAnyT_take (i := 7) (v := ?v8) rfl (by kernel_rfl) (by kernel_rfl) (by kernel_rfl) (by kernel_rfl) (by kernel_rfl) (fun _ _ _ h => h) (Or.inl ⟨by rfl, ?y8⟩) (by assumption) ?r8
        case y8 => (intro w' hSw; (try dsimp only at hSw); go_simp; try with_reducible rfl)
        try simp only [Act.put, List.setIfInBounds_toArray, List.set_cons_zero, List.set_cons_succ]
        refine wpAnyT_take (i := 8) (v := ?v9) rfl (by kernel_rfl) (by kernel_rfl) (by kernel_rfl) (by kernel_rfl) (by kernel_rfl) (fun _ _ _ h => h) (Or.inl ⟨by rfl, ?y9⟩) (by assumption) ?r9
        case y9 => (intro w' hSw; (try dsimp only at hSw); go_simp; try with_reducible rfl)
        try simp only [Act.put, List.setIfInBounds_toArray, List.set_cons_zero, List.set_cons_succ]
        refine wpAnyT_take (i := 9) (v := ?v10) rfl (by kernel_rfl) (by kernel_rfl) (by kernel_rfl) (by kernel_rfl) (by kernel_rfl) (fun _ _ _ h => h) (Or.inl ⟨by rfl, ?y10⟩) (by assumption) ?r10
        case y10 => (intro w' hSw; (try dsimp only at hSw); go_simp; try with_reducible rfl)
        try simp only [Act.put, List.setIfInBounds_toArray, List.set_cons_zero, List.set_cons_succ]
        refine wpAnyT_take (i := 10) (v := ?v11) rfl (by kernel_rfl) (by kernel_rfl) (by kernel_rfl) (by kernel_rfl) (by kernel_rfl) (fun _ _ _ h => h) (Or.inl ⟨by rfl, ?y11⟩) (by assumption) ?r11
        case y11 => (intro w' hSw; (try dsimp only at hSw); go_simp; try with_reducible rfl)
        try simp only [Act.put, List.setIfInBounds_toArray, List.set_cons_zero, List.set_cons_succ]
        refine wpAnyT_take (i := 11) (v := ?v12) rfl (by kernel_rfl) (by kernel_rfl) (by kernel_rfl) (by kernel_rfl) (by kernel_rfl) (fun _ _ _ h => h) (Or.inl ⟨by rfl, ?y12⟩) (by assumption) ?r12
        case y12 => (intro w' hSw; (try dsimp only at hSw); go_simp; try with_reducible rfl)
        try simp only [Act.put, List.setIfInBounds_toArray, List.set_cons_zero, List.set_cons_succ]
        refine wpAnyT_take (i := 12) (v := ?v13) rfl (by kernel_rfl) (by kernel_rfl) (by kernel_rfl) (by kernel_rfl) (by kernel_rfl) (fun _ _ _ h => h) (Or.inl ⟨by rfl, ?y13⟩) (by assumption) ?r13
        case y13 => (intro w' hSw; (try dsimp only at hSw); go_simp; try with_reducible rfl)
        try simp only [Act.put, List.setIfInBounds_toArray, List.set_cons_zero, List.set_cons_succ]
        refine wpAnyT_take (i := 13) (v := ?v14) rfl (by kernel_rfl) (by kernel_rfl) (by kernel_rfl) (by kernel_rfl) (by kernel_rfl) (fun _ _ _ h => h) (Or.inl ⟨by rfl, ?y14⟩) (by assumption) ?r14
        case y14 => (intro w' hSw; (try dsimp only at hSw); go_simp; try with_reducible rfl)
        try simp only [Act.put, List.setIfInBounds_toArray, List.set_cons_zero, List.set_cons_succ]
        refine wpAnyT_one (i := 14) (by kernel_rfl) rfl rfl (fun K hK => ?_)
        go_simp
        have hSua := hSud.alloc (.cells #[.int .i64 yy] 3)
        have hba := hbd.alloc (by omega) (.cells #[.int .i64 yy] 3)
        have hBa := hBd.alloc (by omega) (.cells #[.int .i64 yy] 3)
        refine hK _ _ (fun _ => And.intro (hSS.1.below ((Below.refl w7.heap.size w7).alloc (Nat.le_refl _) _) (by omega)) (And.intro hSua.cells.1.2.2.2.2.2 (And.intro (HKc.out _ hBa).1.2.1 (HKc.out _ hBa).1.2.2))) ?_
        clear hK K hSS hSud hbd hBd
        refine wpAnyT_one (i := 15) (by kernel_rfl) rfl rfl (fun K hK => ?_)
        refine wp_push_o (B := w3.heap.size) (M := fun _ => True) (v := .slice aO lO.length cO) (l := lO) (y := yy) rfl Try.underlying30 info_int rfl rfl hSua.oo (by simp [go_sem]) (by unfold i64; omega) (by have := hlOn.out; omega) (by simp; omega) ?_
        intro a8 c8 l8 w8 hl8 hO8 hk8 hg8
        have hP8 := Lib.hid (hSua.pushO hO8 (by simpa using hk8.out) hg8)
        have hf8 : ∀ o, w8.frozen? ⟨g, o, none⟩ = false ∧ (w8.cell? ⟨g, 9, none⟩).isSome := by
          have := hSua.g1
          have e : w8.heap[g]? = some (suO x (some ⟨bn, on, none⟩) cn (some ⟨bo, oo, none⟩) co ac cc a c (some ⟨bl, ol, none⟩) d (.slice aS lS.length cS) (.slice aO lO.length cO)) := (hg8.block g hSua.g1 fun e => hSua.nO g e.symm rfl).trans hSua.obj
          exact fun o => ⟨frozen_of_row _ _ _ _ _ e, by rw [cell_of_row _ _ _ _ _ _ e]; rfl⟩
        have hc8 : w8.cell? ⟨g, 9, none⟩ = some (.slice aO lO.length cO) := by
          have e : w8.heap[g]? = some (suO x (some ⟨bn, on, none⟩) cn (some ⟨bo, oo, none⟩) co ac cc a c (some ⟨bl, ol, none⟩) d (.slice aS lS.length cS) (.slice aO lO.length cO)) := (hg8.block g hSua.g1 fun e => hSua.nO g e.symm rfl).trans hSua.obj
          rw [cell_of_row _ _ _ _ _ _ e]; rfl
        have hz8 : w5.heap.size ≤ w8.heap.size := by have := hg8.size; simp at this; omega
        have hfz := (hf8 9).1
        have hb8 := hba.grown hg8 (by simp; omega) (fun k hk => (hSua.oo.lt k hk).1)
        have hB8 := hB5.trans (hb8.mono (by omega))
        have hS8 := And.intro (hx5.below hb8 (by omega)) (And.intro hc8 (And.intro (HKc.out _ hB8).1.2.1 (HKc.out _ hB8).1.2.2))
        refine hK _ _ (fun _ => hS8) ?_
        clear hK K hO8 hk8 hg8 hf8 hb8 hB8
        refine wpAnyT_one (i := 16) (by kernel_rfl) rfl rfl (fun K hK => ?_)
        go_simp
        refine hK _ _ (fun _ => hS8) ?_
        clear hK K
        refine wpAnyT_one (i := 17) (by kernel_rfl) rfl rfl (fun K hK => ?_)
        go_simp
        refine hK _ _ (fun _ => hS8) ?_
        clear hK K hS8
        refine wpAnyT_late (i := 18) (by kernel_rfl) (by kernel_rfl) rfl rfl (fun K hK => ?_)
        go_simp
        refine hK _ _ ?_
        clear hK K
        refine wpAnyT_done (by kernel_rfl) ?_ _
        have hSu9 := hP8.out.1
        have hb9 := hba.trans hP8.out.2
        have hz9 : w5.heap.size ≤ (w8.setCell ⟨g, 9, none⟩ (.slice a8 l8.length c8)).heap.size := by simpa [World.setCell] using hz8
        clear hSua hba hBa hP8 hc8 hfz hz8
        generalize w8.setCell ⟨g, 9, none⟩ (.slice a8 l8.length c8) = w9 at *
        obtain ⟨⟨hc1, -⟩, hc2, hc3⟩ := HKc.out w9 (hB5.trans (hb9.mono (by omega)))
        have hx9 := hx5.below hb9 (by omega)
        have hgb := hSu9.g1
        have hc8 := hSu9.cells.1.2.2.2.2.1
        have hSua := hSu9.alloc (.cells #[.int .i64 ((nn : Nat) : Int)] 3)
        have hba := hb9.alloc (by omega) (.cells #[.int .i64 ((nn : Nat) : Int)] 3)
        have HSU := Lib.hid (And.intro hSua hba)
        clear hSua hba
        go_wp2_with (at_builtin; refine wpList_push_o (B := w3.heap.size) (M := fun _ => True) (v := .slice aS lS.length cS) (l := lS) (y := ((nn : Nat) : Int)) rfl rfl Try.underlying30 info_int rfl rfl HSU.out.1.os (by simp [go_sem]) (by unfold i64; omega) (by have := hlSn.out; omega) (by simp; omega) ?_)
        intro a12 c12 l12 w12 hl12 hO12 hk12 hg12
        have hSua := HSU.out.1
        have hba := HSU.out.2
        have hP12 := Lib.hid (hSua.pushS hO12 (by simpa using hk12.out) hg12)
        have hob12 : w12.heap[g]? = some (suO x (some ⟨bn, on, none⟩) cn (some ⟨bo, oo, none⟩) co ac cc a c (some ⟨bl, ol, none⟩) d (.slice aS lS.length cS) (.slice a8 l8.length c8)) := (hg12.block g hSua.g1 fun e => hSua.nS g e.symm rfl).trans hSua.obj
        have hfz12 : w12.frozen? ⟨g, 8, none⟩ = false := frozen_of_row _ _ _ _ _ hob12
        have hc12 : w12.cell? ⟨g, 8, none⟩ = some (.slice aS lS.length cS) := by rw [cell_of_row _ _ _ _ _ _ hob12]; rfl
        have hSu13 := Lib.hid hP12.out.1
        have hb13 := Lib.hid (hba.trans hP12.out.2)
        clear hO12 hk12 hg12 hob12 hSua hba hP12 HSU hSu9 hb9 hx9 hc1 hc2 hc3 hgb hc8
        have hl12 : Hid (l12 = x.sts (k + 1)) := by unfold Hid; rw [hl12.out, hlS2.out]
        have hl8 : Hid (l8 = x.h.m.outsW x.h.m.start (x.w.take (k + 1))) := by unfold Hid; rw [hl8.out, hlO2.out]
        go_wp2
        go_roundw
        case rel => exact ⟨k + 1, a12, c12, l12, a8, c8, l8, by omega, by go_num, by rw [hst2.out], hl12, hl8, hSu13.out, hb13.out⟩
        case measure => simp [intOf]; omega
      · have e : k = x.w.length := by omega
        have hlS : Hid (lS = x.sts x.w.length) := by unfold Hid; rw [hlS.out, e]
        have hlO : Hid (lO = x.h.m.outsW x.h.m.start x.w) := by unfold Hid; rw [hlO.out, e, List.take_length]
        have hS := (hSu.os.anyM (M' := fun k => k < w.heap.size)).toSl fun k hk hlt => by have := (hSu.os.lt k hk).1; omega
        have hO := (hSu.oo.anyM (M' := fun k => k < w.heap.size)).toSl fun k hk hlt => by have := (hSu.oo.lt k hk).1; omega
        have hcl := hSu.cells.1
        have hg1 := hSu.g1
        have hlSn := Lib.hid (show lS.length = x.w.length + 1 by rw [hlS.out, Sj.sts_len])
        have hlOn := Lib.hid (show lO.length = x.w.length by rw [hlO.out, Mach.outsW_len])
        have hc9 := hcl.2.2.2.2.2
        have hH3 := HS3.out.below (HB53.out.trans hb)
        have hl3l := hH3.le
        have HC := sequal_any (hH3.anti (M' := fun _ => False) fun _ _ h => h.elim) (hO.anti (M' := fun _ => False) fun _ _ h => h.elim)
        have hSuL := Lib.hid (show SuR w.heap.size g w6 x an cn ao co ac cc a c b d aS cS aO cO from
          ⟨by omega, hg1, by rw [← hlOn.out, hlOn.out, ← hlSn.out]; exact ⟨hcl.1, hcl.2.1, hcl.2.2.1, hcl.2.2.2.1, hcl.2.2.2.2.1, by rw [← hlOn.out]; exact hcl.2.2.2.2.2⟩, by rw [← hlS.out]; exact hS, by rw [← hlO.out]; exact hO⟩)
        clear hS hO hH3 hSu hb hx6 hcl e
        by_cases he : x.o.ans x.w = x.h.m.outsW x.h.m.start x.w
        · have hd : decide (l3 = lO) = true := by rw [hl3.out, hlO.out, he]; simp
          have HF : Hid (x.argErr = 8) := by unfold Hid; rw [HF.out, if_pos he]
          rw [hd] at HC
          have HC := Lib.hid HC
          clear he hd
          go_wp2_with fail
          refine (HC.out).mono ?_
          rintro e w7 ⟨rfl, n7, rfl⟩
          have hB7 := bl_drewN hB6 n7
          go_wp2
          go_ret2
          exact ⟨BeR.no (by rw [HF.out]; decide) (ret_pe HF.out.symm), hB7⟩
        · have hd : decide (l3 = lO) = false := by rw [hl3.out, hlO.out]; simpa using he
          have HF : Hid (x.argErr = 0) := by unfold Hid; rw [HF.out, if_neg he]
          rw [hd] at HC
          have HC := Lib.hid HC
          clear he hd
          go_wp2_with fail
          refine (HC.out).mono ?_
          rintro e w7 ⟨rfl, n7, rfl⟩
          have hB7 := bl_drewN hB6 n7
          have hSu7 := hSuL.out.later (below_drewN w6.heap.size w6 n7)
          go_wp2
          go_ret2
          exact ⟨⟨fun h => absurd HF.out h, fun _ => ⟨g, aS, cS, aO, cO, rfl, hSu7⟩⟩, hB7⟩
end
end Go.Proofs.Ytlgdijgfphedpaa
