/- The reference's search for a split: its parts. Condition where named: the hypothesis is valid, the answers are as long as their words. -/
import Derived.Test.YtlgdijgfphedpaaAnaP
import Derived.Test.YtlgdijgfphedpaaRowsL
import Derived.Test.YtlgdijgfphedpaaOrd2
import Derived.Test.YtlgdijgfphedpaaEqs
namespace Go.Proofs.Ytlgdijgfphedpaa
open Go.RowKit
section
variable {M M' M'' : Nat → Prop} {w : World} {an ao ac a b : Option Addr} {cn co cc c d : Nat} {x : Sj}

set_option maxRecDepth 100000 in
set_option maxHeartbeats 2000000 in
theorem checked_any {h : Hy} {o : Ob} (hh : Hp M w an cn ao co ac cc h) :
    Calls Try.prog 47 #[hyV h an cn ao co ac cc, obV o a c] w fun e w' => e = .returned (.int .i64 (if h.err ≠ 0 then h.err else if o.inputs ≠ h.m.inputs then 15 else 0)) ∧ Below w.heap.size w w' := by
  have hB0 := ((Below.refl w.heap.size w).alloc (Nat.le_refl _) (hyO h an cn ao co ac cc)).alloc (by simp) (obO o a c)
  have hx0 : H5 ((w.alloc (hyO h an cn ao co ac cc)).alloc (obO o a c)) w.heap.size an cn ao co ac cc h := (h5_new w).below (B := w.heap.size + 1) ((Below.refl _ _).alloc (by simp) _) (by omega)
  have hy0 : O2 ((w.alloc (hyO h an cn ao co ac cc)).alloc (obO o a c)) (w.heap.size + 1) a c o := by
    have k := o2_new (o := o) (a := a) (c := c) (w.alloc (hyO h an cn ao co ac cc))
    simpa using k
  have hz0 : w.heap.size + 2 ≤ ((w.alloc (hyO h an cn ao co ac cc)).alloc (obO o a c)).heap.size := by simp
  have HC := Lib.hid (hvalidR_any (hh.below hB0))
  clear hh
  by_cases h1 : h.err = 0
  · have h1b : (h.err != 0) = false := by simp [h1]
    rw [if_neg (by simp [h1])]
    by_cases h2 : o.inputs = h.m.inputs
    · have h2b : (o.inputs != h.m.inputs) = false := by simp [h2]
      rw [if_neg (by simp [h2])]
      clear h1 h2
      go_enter Try.func47, Try.ntmps47
      go_wp2_with fail
      generalize (w.alloc (hyO h an cn ao co ac cc)).alloc (obO o a c) = w0 at *
      refine (HC.out).mono ?_
      rintro e w1 ⟨rfl, hb1⟩
      have hB1 := hB0.trans (hb1.mono (by omega))
      have hx1 := hx0.below hb1 (by omega)
      have hy1 := hy0.below hb1 (by omega)
      go_wp2
      go_ret
      exact ⟨rfl, hB1⟩
    · have h2b : (o.inputs != h.m.inputs) = true := by simp [h2]
      rw [if_pos h2]
      clear h1 h2
      go_enter Try.func47, Try.ntmps47
      go_wp2_with fail
      generalize (w.alloc (hyO h an cn ao co ac cc)).alloc (obO o a c) = w0 at *
      refine (HC.out).mono ?_
      rintro e w1 ⟨rfl, hb1⟩
      have hB1 := hB0.trans (hb1.mono (by omega))
      have hx1 := hx0.below hb1 (by omega)
      have hy1 := hy0.below hb1 (by omega)
      go_wp2
      go_ret
      exact ⟨rfl, hB1⟩
  · have h1b : (h.err != 0) = true := by simp [h1]
    rw [if_pos h1]
    clear h1
    go_enter Try.func47, Try.ntmps47
    go_wp2_with fail
    generalize (w.alloc (hyO h an cn ao co ac cc)).alloc (obO o a c) = w0 at *
    refine (HC.out).mono ?_
    rintro e w1 ⟨rfl, hb1⟩
    have hB1 := hB0.trans (hb1.mono (by omega))
    go_wp2
    go_ret
    exact ⟨rfl, hB1⟩

set_option maxRecDepth 100000 in
set_option maxHeartbeats 2000000 in
/-- The state at a position. -/
theorem atR_any (hh : Hp M w an cn ao co ac cc x.h) (hw : Sl M' w b d x.w) (ok : Hid x.h.Ok) (hok : Hid (x.h.m.okS x.w)) (hl : x.w.length ≤ 1024) (i : Nat) (hi : i ≤ x.w.length) :
    Calls Try.prog 63 #[hyV x.h an cn ao co ac cc, .slice b x.w.length d, .int .i64 i] w fun e w' => e = .returned (.int .i64 (x.st i)) ∧ Below w.heap.size w w' := by
  have hB0 := (Below.refl w.heap.size w).alloc (Nat.le_refl _) (hyO x.h an cn ao co ac cc)
  have hx0 : H5 (w.alloc (hyO x.h an cn ao co ac cc)) w.heap.size an cn ao co ac cc x.h := h5_new w
  have hz0 : w.heap.size + 1 ≤ (w.alloc (hyO x.h an cn ao co ac cc)).heap.size := by simp
  have hdl := hw.1
  have hdi : i ≤ d := by omega
  have hHd := Lib.hid ((hh.below hB0).m.ext (Ext.drew _ _))
  have HW := Lib.hid ((hw.below hB0).drew.taken hi)
  have e1 : (x.w.take i).length = i := by rw [List.length_take]; omega
  have HC := outsR_any hHd.out HW.out (Lib.hid ok.out.m) (Lib.hid ⟨ok.out.m.s0, ok.out.m.s1⟩) (Lib.hid (Mach.okS_take hok.out i)) (by omega)
  rw [e1] at HC
  have HC := Lib.hid HC
  have HF : Hid (x.h.m.endW x.h.m.start (x.w.take i) = x.st i) := rfl
  clear hh hw e1
  go_enter Try.func63, Try.ntmps63
  go_wp2
  refine wp_region_L (fun w' => H5 w' w.heap.size an cn ao co ac cc x.h) [0, 1, 2, 3, 4, 5, 6, 7, 9, 10, 11, 12, 13] (by kernel_rfl) ?_
  generalize w.alloc (hyO x.h an cn ao co ac cc) = w0 at *
  have hS := hx0.below (Below.refl w0.heap.size w0).drew (by omega)
  have hBd := hB0.drew
  have hzd : w.heap.size + 1 ≤ w0.drew.heap.size := hz0
  clear hx0 hB0 hz0
  generalize w0.drew = w1 at *
  refine wpAnyL_take (i := 0) (v := ?v1) rfl (by kernel_rfl) (by kernel_rfl) (by kernel_rfl) (by kernel_rfl) (fun _ _ _ h => h) (Or.inl ⟨by rfl, ?y1⟩) (by assumption) ?r1
  case y1 => (intro w' hSw; (try dsimp only at hSw); go_simp; try with_reducible rfl)
  try simp only [Act.put, List.setIfInBounds_toArray, List.set_cons_zero, List.set_cons_succ]
  refine wpAnyL_take (i := 1) (v := ?v2) rfl (by kernel_rfl) (by kernel_rfl) (by kernel_rfl) (by kernel_rfl) (fun _ _ _ h => h) (Or.inl ⟨by rfl, ?y2⟩) (by assumption) ?r2
  case y2 => (intro w' hSw; (try dsimp only at hSw); go_simp; try with_reducible rfl)
  try simp only [Act.put, List.setIfInBounds_toArray, List.set_cons_zero, List.set_cons_succ]
  refine wpAnyL_take (i := 2) (v := ?v3) rfl (by kernel_rfl) (by kernel_rfl) (by kernel_rfl) (by kernel_rfl) (fun _ _ _ h => h) (Or.inl ⟨by rfl, ?y3⟩) (by assumption) ?r3
  case y3 => (intro w' hSw; (try dsimp only at hSw); go_simp; try with_reducible rfl)
  try simp only [Act.put, List.setIfInBounds_toArray, List.set_cons_zero, List.set_cons_succ]
  refine wpAnyL_take (i := 3) (v := ?v4) rfl (by kernel_rfl) (by kernel_rfl) (by kernel_rfl) (by kernel_rfl) (fun _ _ _ h => h) (Or.inl ⟨by rfl, ?y4⟩) (by assumption) ?r4
  case y4 => (intro w' hSw; (try dsimp only at hSw); go_simp; try with_reducible rfl)
  try simp only [Act.put, List.setIfInBounds_toArray, List.set_cons_zero, List.set_cons_succ]
  refine wpAnyL_take (i := 4) (v := ?v5) rfl (by kernel_rfl) (by kernel_rfl) (by kernel_rfl) (by kernel_rfl) (fun _ _ _ h => h) (Or.inl ⟨by rfl, ?y5⟩) (by assumption) ?r5
  case y5 => (intro w' hSw; (try dsimp only at hSw); go_simp; try with_reducible rfl)
  try simp only [Act.put, List.setIfInBounds_toArray, List.set_cons_zero, List.set_cons_succ]
  refine wpAnyL_take (i := 5) (v := ?v6) rfl (by kernel_rfl) (by kernel_rfl) (by kernel_rfl) (by kernel_rfl) (fun _ _ _ h => h) (Or.inl ⟨by rfl, ?y6⟩) (by assumption) ?r6
  case y6 => (intro w' hSw; (try dsimp only at hSw); go_simp; try with_reducible rfl)
  try simp only [Act.put, List.setIfInBounds_toArray, List.set_cons_zero, List.set_cons_succ]
  refine wpAnyL_take (i := 6) (v := ?v7) rfl (by kernel_rfl) (by kernel_rfl) (by kernel_rfl) (by kernel_rfl) (fun _ _ _ h => h) (Or.inl ⟨by rfl, ?y7⟩) (by assumption) ?r7
  case y7 => (intro w' hSw; (try dsimp only at hSw); go_simp; try with_reducible rfl)
  try simp only [Act.put, List.setIfInBounds_toArray, List.set_cons_zero, List.set_cons_succ]
  refine wpAnyL_take (i := 7) (v := ?v8) rfl (by kernel_rfl) (by kernel_rfl) (by kernel_rfl) (by kernel_rfl) (fun _ _ _ h => h) (Or.inl ⟨by rfl, ?y8⟩) (by assumption) ?r8
  case y8 => (intro w' hSw; (try dsimp only at hSw); go_simp; try with_reducible rfl)
  try simp only [Act.put, List.setIfInBounds_toArray, List.set_cons_zero, List.set_cons_succ]
  refine wpAnyL_one (i := 8) (by kernel_rfl) rfl rfl (fun K hK => ?_)
  go_simp
  refine (HC.out).mono ?_
  rintro e w2 ⟨a2, c2, l2, rfl, -, -, hb2⟩
  have hS2 := hS.below hb2 (by omega)
  have hB2 := hBd.trans (hb2.mono (by omega))
  refine hK _ _ (fun _ => hS2) ?_
  clear hK K
  refine wpAnyL_take (i := 9) (v := ?v9) rfl (by kernel_rfl) (by kernel_rfl) (by kernel_rfl) (by kernel_rfl) (fun _ _ _ h => h) (Or.inl ⟨by rfl, ?y9⟩) (by assumption) ?r9
  case y9 => (intro w' hSw; (try dsimp only at hSw); go_simp; try with_reducible rfl)
  try simp only [Act.put, List.setIfInBounds_toArray, List.set_cons_zero, List.set_cons_succ]
  refine wpAnyL_take (i := 10) (v := ?v10) rfl (by kernel_rfl) (by kernel_rfl) (by kernel_rfl) (by kernel_rfl) (fun _ _ _ h => h) (Or.inl ⟨by rfl, ?y10⟩) (by assumption) ?r10
  case y10 => (intro w' hSw; (try dsimp only at hSw); go_simp; try with_reducible rfl)
  try simp only [Act.put, List.setIfInBounds_toArray, List.set_cons_zero, List.set_cons_succ]
  refine wpAnyL_take (i := 11) (v := ?v11) rfl (by kernel_rfl) (by kernel_rfl) (by kernel_rfl) (by kernel_rfl) (fun _ _ _ h => h) (Or.inl ⟨by rfl, ?y11⟩) (by assumption) ?r11
  case y11 => (intro w' hSw; (try dsimp only at hSw); go_simp; try with_reducible rfl)
  try simp only [Act.put, List.setIfInBounds_toArray, List.set_cons_zero, List.set_cons_succ]
  refine wpAnyL_take (i := 12) (v := ?v12) rfl (by kernel_rfl) (by kernel_rfl) (by kernel_rfl) (by kernel_rfl) (fun _ _ _ h => h) (Or.inl ⟨by rfl, ?y12⟩) (by assumption) ?r12
  case y12 => (intro w' hSw; (try dsimp only at hSw); go_simp; try with_reducible rfl)
  try simp only [Act.put, List.setIfInBounds_toArray, List.set_cons_zero, List.set_cons_succ]
  refine wpAnyL_take (i := 13) (v := ?v13) rfl (by kernel_rfl) (by kernel_rfl) (by kernel_rfl) (by kernel_rfl) (fun _ _ _ h => h) (Or.inl ⟨by rfl, ?y13⟩) (by assumption) ?r13
  case y13 => (intro w' hSw; (try dsimp only at hSw); go_simp; try with_reducible rfl)
  try simp only [Act.put, List.setIfInBounds_toArray, List.set_cons_zero, List.set_cons_succ]
  refine wpAnyL_done (by kernel_rfl) ?_ _
  go_wp2
  go_ret
  exact ⟨ret_ij HF.out, hB2⟩

/-- What examine returns. -/
def Sj.exB (x : Sj) (i : Nat) : Bool := if i = x.w.length then false else if 1024 < (x.q i).length then false else if x.o.known (x.q i) = false then false else x.bad i
def Sj.exL (x : Sj) (i : Nat) : List Int := if i = x.w.length then [] else if 1024 < (x.q i).length then [] else if x.o.known (x.q i) = false then x.q i else []
def Sj.exE (x : Sj) (i : Nat) : Int := if i = x.w.length then 0 else if 1024 < (x.q i).length then 3 else 0
theorem Sj.ex_end {i : Nat} (h : i = x.w.length) : x.exB i = false ∧ x.exL i = [] ∧ x.exE i = 0 := by unfold Sj.exB Sj.exL Sj.exE; simp [h]
theorem Sj.ex_long {i : Nat} (h : i ≠ x.w.length) (h2 : 1024 < (x.q i).length) : x.exB i = false ∧ x.exL i = [] ∧ x.exE i = 3 := by unfold Sj.exB Sj.exL Sj.exE; simp [h, h2]
theorem Sj.ex_ask {i : Nat} (h : i ≠ x.w.length) (h2 : ¬ 1024 < (x.q i).length) (h3 : x.o.known (x.q i) = false) : x.exB i = false ∧ x.exL i = x.q i ∧ x.exE i = 0 := by unfold Sj.exB Sj.exL Sj.exE; simp only [if_neg h, if_neg h2, if_pos h3]; exact ⟨trivial, trivial, trivial⟩
theorem Sj.ex_kn {i : Nat} (h : i ≠ x.w.length) (h2 : ¬ 1024 < (x.q i).length) (h3 : x.o.known (x.q i) = true) : x.exB i = x.bad i ∧ x.exL i = [] ∧ x.exE i = 0 := by
  have h4 : ¬ x.o.known (x.q i) = false := by simp [h3]
  unfold Sj.exB Sj.exL Sj.exE; simp only [if_neg h, if_neg h2, if_neg h4]; exact ⟨trivial, trivial, trivial⟩
theorem ret_ex {p p' : Bool} {a : Option Addr} {n c : Nat} {e e' : Int} (h : p = p') (h2 : e = e') : Ending.returned (.tuple #[.bool p, .slice a n c, .int .i64 e]) = .returned (.tuple #[.bool p', .slice a n c, .int .i64 e']) := by rw [h, h2]

/-- A position's two slices, and the word made of them. -/
theorem Sj.Ok.row (k : x.Ok) (hh : Hp M w an cn ao co ac cc x.h) (i : Nat) : ∃ sn b1 o1 a1 c1, x.st i = ((sn : Nat) : Int) ∧ sn < x.h.m.next.length ∧ sn < x.h.acc.length ∧ ac = some ⟨b1, o1, none⟩ ∧ w.cell? ⟨b1, o1 + sn, none⟩ = some (.slice a1 (x.ax i).length c1) ∧ Sl M w a1 c1 (x.ax i) := by
  have h1 := k.st i
  obtain ⟨sn, hsn⟩ := Int.eq_ofNat_of_zero_le h1.1
  rw [hsn] at h1
  have hl := k.h.len
  obtain ⟨b1, o1, a1, r, c1, h2, h3, h4, h5⟩ := hh.acc.at_row (j := sn) (by omega)
  have e : x.ax i = r := by unfold Sj.ax; rw [hsn, Int.toNat_natCast]; exact Hy.ac_of h4.out
  rw [e]
  exact ⟨sn, b1, o1, a1, c1, hsn, by omega, by omega, h2, h3, h5⟩

set_option maxRecDepth 100000 in
set_option maxHeartbeats 4000000 in
theorem examine_any (hh : Hp M w an cn ao co ac cc x.h) (ho : Os M' w a c x.o) (hw : Sl M'' w b d x.w) (ok : Hid x.Ok) (hl : Hid x.o.lens) (i : Nat) (hi : i ≤ x.w.length) :
    Calls Try.prog 38 #[hyV x.h an cn ao co ac cc, obV x.o a c, .slice b x.w.length d, .int .i64 i] w fun e w' => ∃ (a' : Option Addr) (c' : Nat) (l' : List Int),
      e = .returned (.tuple #[.bool (x.exB i), .slice a' l'.length c', .int .i64 (x.exE i)]) ∧ Hid (l' = x.exL i) ∧ Sl (fun k => k < w.heap.size) w' a' c' l' ∧ Below w.heap.size w w' := by
  have hB0 := ((Below.refl w.heap.size w).alloc (Nat.le_refl _) (hyO x.h an cn ao co ac cc)).alloc (by simp) (obO x.o a c)
  have hx0 : H5 ((w.alloc (hyO x.h an cn ao co ac cc)).alloc (obO x.o a c)) w.heap.size an cn ao co ac cc x.h := (h5_new w).below (B := w.heap.size + 1) ((Below.refl _ _).alloc (by simp) _) (by omega)
  have hy0 : O2 ((w.alloc (hyO x.h an cn ao co ac cc)).alloc (obO x.o a c)) (w.heap.size + 1) a c x.o := by
    have k := o2_new (o := x.o) (a := a) (c := c) (w.alloc (hyO x.h an cn ao co ac cc))
    simpa using k
  have hz0 : w.heap.size + 2 ≤ ((w.alloc (hyO x.h an cn ao co ac cc)).alloc (obO x.o a c)).heap.size := by simp
  have HH := Lib.hid hh
  have HO := Lib.hid ho
  have HW := Lib.hid hw
  have hdl := hw.1
  have hdi : i ≤ d := by omega
  have hlen := ok.out.len
  clear hh ho hw
  by_cases h0 : i = x.w.length
  · have h0b : (((i : Nat) : Int) == ((x.w.length : Nat) : Int)) = true := by simp [h0]
    have HF := Lib.hid (Sj.ex_end h0)
    clear h0
    go_enter Try.func38, Try.ntmps38
    go_wp2
    refine bodyPost_ret (v := .tuple #[.bool false, .slice none 0 0, .int .i64 0]) (by simp [results, Try.results38, go_sem]) rfl ?_
    exact ⟨none, 0, [], ret_ex HF.out.1.symm HF.out.2.2.symm, HF.out.2.1.symm, Sl.nil _ _ _ (by unfold maxLen; omega), hB0⟩
  · have h0b : (((i : Nat) : Int) == ((x.w.length : Nat) : Int)) = false := by simp; omega
    have H0 := Lib.hid h0
    have hi2 : i < x.w.length := by omega
    have HC := Lib.hid (atR_any (HH.out.below hB0) (HW.out.below hB0) (Lib.hid ok.out.h) (Lib.hid ok.out.w) ok.out.len i hi)
    have hst := ok.out.st i
    obtain ⟨sn, b1, o1, a1, c1, hsn, hsn1, hsn2, rfl, hc1, hs1⟩ := ok.out.row HH.out i
    have hal := (ok.out.ax i).1
    have hac := hs1.1
    rw [hsn] at HC
    have HS := Lib.hid hs1
    have HST := Lib.hid hsn
    have hcl := lt_of_cell hc1
    obtain ⟨b', hb'⟩ : ∃ b', b' = dA b d i := ⟨_, rfl⟩
    have hda : (if d = i then b else Option.map (fun x => x.add i) b) = b' := by rw [hb']; rfl
    have HD := Lib.hid (HW.out.drop hi)
    rw [← hb'] at HD
    clear hb'
    have hql : Hid ((x.q i).length = (x.ax i).length + (x.w.length - i)) := x.q_len i
    have HKc : Hid (∀ w', Below w.heap.size w w' → w'.cell? ⟨b1, o1 + sn, none⟩ = some (.slice a1 (x.ax i).length c1)) := fun w' hb => (hb.cell (p := ⟨b1, o1 + sn, none⟩) hcl).trans hc1
    clear h0 hst hs1 hsn hc1
    go_enter Try.func38, Try.ntmps38
    go_wp2_with fail
    generalize (w.alloc (hyO x.h an cn ao co (some ⟨b1, o1, none⟩) cc)).alloc (obO x.o a c) = w0 at *
    refine (HC.out).mono ?_
    rintro e w1 ⟨rfl, hb1⟩
    have hB1 := hB0.trans (hb1.mono (by omega))
    have hx1 := hx0.below hb1 (by omega)
    have hy1 := hy0.below hb1 (by omega)
    have hz1 : w.heap.size + 2 ≤ w1.heap.size := by have := hb1.size; omega
    clear HC hb1 hB0 hx0 hy0 hz0
    go_wp2
    refine wp_region_L (fun w' => H5 w' w.heap.size an cn ao co (some ⟨b1, o1, none⟩) cc x.h ∧ w'.cell? ⟨b1, o1 + sn, none⟩ = some (.slice a1 (x.ax i).length c1)) [0, 1, 2, 3, 4, 5, 6, 7, 10] (by kernel_rfl) ?_
    have hSd := And.intro (hx1.below (Below.refl w1.heap.size w1).drew (by omega)) (HKc.out _ hB1.drew)
    have hyd := hy1.below (Below.refl w1.heap.size w1).drew (by omega)
    have hBd := hB1.drew
    have hzd : w.heap.size + 2 ≤ w1.drew.heap.size := hz1
    clear hx1 hy1 hB1 hz1
    generalize w1.drew = w2 at *
    refine wpAnyL_take (i := 0) (v := ?v14) rfl (by kernel_rfl) (by kernel_rfl) (by kernel_rfl) (by kernel_rfl) (fun _ _ _ h => h) (Or.inl ⟨by rfl, ?y14⟩) (by assumption) ?r14
    case y14 => (intro w' hSw; (try dsimp only at hSw); go_simp; try with_reducible rfl)
    try simp only [Act.put, List.setIfInBounds_toArray, List.set_cons_zero, List.set_cons_succ]
    refine wpAnyL_take (i := 1) (v := ?v15) rfl (by kernel_rfl) (by kernel_rfl) (by kernel_rfl) (by kernel_rfl) (fun _ _ _ h => h) (Or.inl ⟨by rfl, ?y15⟩) (by assumption) ?r15
    case y15 => (intro w' hSw; (try dsimp only at hSw); go_simp; try with_reducible rfl)
    try simp only [Act.put, List.setIfInBounds_toArray, List.set_cons_zero, List.set_cons_succ]
    refine wpAnyL_take (i := 2) (v := ?v16) rfl (by kernel_rfl) (by kernel_rfl) (by kernel_rfl) (by kernel_rfl) (fun _ _ _ h => h) (Or.inl ⟨by rfl, ?y16⟩) (by assumption) ?r16
    case y16 => (intro w' hSw; (try dsimp only at hSw); go_simp; try with_reducible rfl)
    try simp only [Act.put, List.setIfInBounds_toArray, List.set_cons_zero, List.set_cons_succ]
    refine wpAnyL_take (i := 3) (v := ?v17) rfl (by kernel_rfl) (by kernel_rfl) (by kernel_rfl) (by kernel_rfl) (fun _ _ _ h => h) (Or.inl ⟨by rfl, ?y17⟩) (by assumption) ?r17
    case y17 => (intro w' hSw; (try dsimp only at hSw); go_simp; try with_reducible rfl)
    try simp only [Act.put, List.setIfInBounds_toArray, List.set_cons_zero, List.set_cons_succ]
    refine wpAnyL_take (i := 4) (v := ?v18) rfl (by kernel_rfl) (by kernel_rfl) (by kernel_rfl) (by kernel_rfl) (fun _ _ _ h => h) (Or.inl ⟨by rfl, ?y18⟩) (by assumption) ?r18
    case y18 => (intro w' hSw; (try dsimp only at hSw); go_simp; try with_reducible rfl)
    try simp only [Act.put, List.setIfInBounds_toArray, List.set_cons_zero, List.set_cons_succ]
    refine wpAnyL_take (i := 5) (v := ?v19) rfl (by kernel_rfl) (by kernel_rfl) (by kernel_rfl) (by kernel_rfl) (fun _ _ _ h => h) (Or.inl ⟨by rfl, ?y19⟩) (by assumption) ?r19
    case y19 => (intro w' hSw; (try dsimp only at hSw); go_simp; try with_reducible rfl)
    try simp only [Act.put, List.setIfInBounds_toArray, List.set_cons_zero, List.set_cons_succ]
    refine wpAnyL_take (i := 6) (v := ?v20) rfl (by kernel_rfl) (by kernel_rfl) (by kernel_rfl) (by kernel_rfl) (fun _ _ _ h => h) (Or.inl ⟨by rfl, ?y20⟩) (by assumption) ?r20
    case y20 => (intro w' hSw; (try dsimp only at hSw); go_simp; try with_reducible rfl)
    try simp only [Act.put, List.setIfInBounds_toArray, List.set_cons_zero, List.set_cons_succ]
    refine wpAnyL_take (i := 7) (v := ?v21) rfl (by kernel_rfl) (by kernel_rfl) (by kernel_rfl) (by kernel_rfl) (fun _ _ _ h => h) (Or.inl ⟨by rfl, ?y21⟩) (by assumption) ?r21
    case y21 => (intro w' hSw; (try dsimp only at hSw); go_simp; try with_reducible rfl)
    try simp only [Act.put, List.setIfInBounds_toArray, List.set_cons_zero, List.set_cons_succ]
    refine wpAnyL_one (i := 8) (by kernel_rfl) rfl rfl (fun K hK => ?_)
    go_simp
    have hbA := hBd.alloc (by omega) (.cells #[.slice a1 (x.ax i).length c1, .slice b' (x.w.length - i) (d - i)] 30)
    have hba := (Below.refl w2.heap.size w2).alloc (Nat.le_refl _) (.cells #[.slice a1 (x.ax i).length c1, .slice b' (x.w.length - i) (d - i)] 30)
    have hSA := And.intro (hSd.1.below hba (by omega)) (HKc.out _ hbA)
    have hyA := hyd.below hba (by omega)
    have hzA : w2.heap.size + 1 ≤ (w2.alloc (.cells #[.slice a1 (x.ax i).length c1, .slice b' (x.w.length - i) (d - i)] 30)).heap.size := by simp
    have HC := Lib.hid (joinR_any (rows2 (T := 30) (HS.out.below hBd) (HD.out.below hBd) rfl (m := x.w.length - i) (by simp)) (by rw [flat2]; simp; omega))
    refine hK _ _ (fun _ => hSA) ?_
    clear hK K hba hSd hyd hBd
    refine wpAnyL_one (i := 9) (by kernel_rfl) rfl rfl (fun K hK => ?_)
    go_simp
    generalize w2.alloc (.cells #[.slice a1 (x.ax i).length c1, .slice b' (x.w.length - i) (d - i)] 30) = w3 at *
    refine (HC.out).mono ?_
    rintro e w4 ⟨a4, c4, l4, rfl, hl4, hs4, hb4⟩
    have hB4 := hbA.trans (hb4.mono (by omega))
    have hS4 := And.intro (hSA.1.below hb4 (by omega)) (HKc.out _ hB4)
    have hy4 := hyA.below hb4 (by omega)
    have hz4 : w.heap.size + 2 ≤ w4.heap.size := by have := hb4.size; omega
    refine hK _ _ (fun _ => hS4) ?_
    clear hK K
    refine wpAnyL_take (i := 10) (v := ?v22) rfl (by kernel_rfl) (by kernel_rfl) (by kernel_rfl) (by kernel_rfl) (fun _ _ _ h => h) (Or.inl ⟨by rfl, ?y22⟩) (by assumption) ?r22
    case y22 => (intro w' hSw; (try dsimp only at hSw); go_simp; try with_reducible rfl)
    try simp only [Act.put, List.setIfInBounds_toArray, List.set_cons_zero, List.set_cons_succ]
    refine wpAnyL_done (by kernel_rfl) ?_ _
    have hl4 : Hid (l4 = x.q i) := by unfold Hid; rw [hl4.out, flat2]; rfl
    have hs4 := hs4.anti (M' := fun k => k < w.heap.size) (fun k _ hk => by omega)
    have hll4 := hs4.le
    have hlq : Hid (l4.length = (x.ax i).length + (x.w.length - i)) := by unfold Hid; rw [hl4.out]; exact hql.out
    obtain ⟨hx5, hc5⟩ := hS4
    clear HC hbA hSA hyA hzA hb4 hzd
    by_cases hlong : 1024 < (x.q i).length
    · have hlb : 1024 < l4.length := by rw [hl4.out]; exact hlong
      have HF := Lib.hid (Sj.ex_long H0.out hlong)
      clear hlong
      go_wp2
      refine bodyPost_ret (v := .tuple #[.bool false, .slice none 0 0, .int .i64 3]) (by simp [results, Try.results38, go_sem]) rfl ?_
      exact ⟨none, 0, [], ret_ex HF.out.1.symm HF.out.2.2.symm, HF.out.2.1.symm, Sl.nil _ _ _ (by unfold maxLen; omega), hB4⟩
    · have hlb : l4.length ≤ 1024 := by rw [hl4.out]; omega
      have HLG := Lib.hid hlong
      have HC := ansR_any (HO.out.below hB4) hs4 hl
      rw [show x.o.known l4 = x.o.known (x.q i) from by rw [hl4.out]] at HC
      have HC := Lib.hid HC
      have HS4 := Lib.hid hs4
      clear hlong hs4
      cases hkn : x.o.known (x.q i) with
      | false =>
        rw [hkn] at HC
        have HF := Lib.hid (Sj.ex_ask H0.out HLG.out hkn)
        have hl5 : Hid (l4 = x.exL i) := by unfold Hid; rw [hl4.out, HF.out.2.1]
        clear hkn
        go_wp2_with fail
        refine (HC.out).mono ?_
        rintro e w5 ⟨a5, c5, l5, rfl, -, -, hb5⟩
        have hB5 := hB4.trans (hb5.mono (by omega))
        have hs5 := HS4.out.below hb5
        clear HC hb5 hB4 HS4
        go_wp2
        refine bodyPost_ret (v := .tuple #[.bool false, .slice a4 l4.length c4, .int .i64 0]) (by simp [results, Try.results38, go_sem]) rfl ?_
        exact ⟨a4, c4, l4, ret_ex HF.out.1.symm HF.out.2.2.symm, hl5, hs5, hB5⟩
      | true =>
        rw [hkn] at HC
        have HF := Lib.hid (Sj.ex_kn H0.out HLG.out hkn)
        have HAL := Lib.hid (Sj.ans_len hl.out hkn)
        clear hkn
        go_wp2_with fail
        refine (HC.out).mono ?_
        rintro e w5 ⟨a5, c5, l5, rfl, hl5, hs5, hb5⟩
        have hB5 := hB4.trans (hb5.mono (by omega))
        have hx6 := hx5.below hb5 (by omega)
        have hz5 : w.heap.size + 2 ≤ w5.heap.size := by have := hb5.size; omega
        have hl5 : Hid (l5 = x.o.ans (x.q i)) := by unfold Hid; rw [hl5.out, hl4.out]
        have hlen5 : Hid (l5.length = (x.ax i).length + (x.w.length - i)) := by unfold Hid; rw [hl5.out, HAL.out]; exact hql.out
        have hale : (x.ax i).length ≤ l5.length := by rw [hlen5.out]; omega
        have hl5c := hs5.1
        have hl5m := hs5.2.1
        have HS5 := Lib.hid hs5
        clear HC hb5 hx5 hc5 hy4 hs5 hB4 hz4 HS4
        go_wp2
        refine wp_region_L (fun w' => H5 w' w.heap.size an cn ao co (some ⟨b1, o1, none⟩) cc x.h) [0, 1, 2, 3, 4, 5, 7, 8, 9, 10, 11] (by kernel_rfl) ?_
        have hSd := hx6.below (Below.refl w5.heap.size w5).drew (by omega)
        have hBd := hB5.drew
        have hzd : w.heap.size + 2 ≤ w5.drew.heap.size := hz5
        have HS5 := Lib.hid (HS5.out.drew)
        clear hx6 hB5 hz5
        generalize w5.drew = w6 at *
        have e1 : (x.w.drop i).length = x.w.length - i := by simp
        have hst := ok.out.st i
        have HC := outsR_any (s := x.st i) (HH.out.below hBd).m (HD.out.below hBd) (Lib.hid ok.out.h.m) (Lib.hid hst) (Lib.hid (Mach.okS_drop ok.out.w i)) (by rw [e1]; omega)
        rw [e1, HST.out] at HC
        have HC := Lib.hid HC
        clear e1 hst
        refine wpAnyL_take (i := 0) (v := ?v23) rfl (by kernel_rfl) (by kernel_rfl) (by kernel_rfl) (by kernel_rfl) (fun _ _ _ h => h) (Or.inl ⟨by rfl, ?y23⟩) (by assumption) ?r23
        case y23 => (intro w' hSw; (try dsimp only at hSw); go_simp; try with_reducible rfl)
        try simp only [Act.put, List.setIfInBounds_toArray, List.set_cons_zero, List.set_cons_succ]
        refine wpAnyL_take (i := 1) (v := ?v24) rfl (by kernel_rfl) (by kernel_rfl) (by kernel_rfl) (by kernel_rfl) (fun _ _ _ h => h) (Or.inl ⟨by rfl, ?y24⟩) (by assumption) ?r24
        case y24 => (intro w' hSw; (try dsimp only at hSw); go_simp; try with_reducible rfl)
        try simp only [Act.put, List.setIfInBounds_toArray, List.set_cons_zero, List.set_cons_succ]
        refine wpAnyL_take (i := 2) (v := ?v25) rfl (by kernel_rfl) (by kernel_rfl) (by kernel_rfl) (by kernel_rfl) (fun _ _ _ h => h) (Or.inl ⟨by rfl, ?y25⟩) (by assumption) ?r25
        case y25 => (intro w' hSw; (try dsimp only at hSw); go_simp; try with_reducible rfl)
        try simp only [Act.put, List.setIfInBounds_toArray, List.set_cons_zero, List.set_cons_succ]
        refine wpAnyL_take (i := 3) (v := ?v26) rfl (by kernel_rfl) (by kernel_rfl) (by kernel_rfl) (by kernel_rfl) (fun _ _ _ h => h) (Or.inl ⟨by rfl, ?y26⟩) (by assumption) ?r26
        case y26 => (intro w' hSw; (try dsimp only at hSw); go_simp; try with_reducible rfl)
        try simp only [Act.put, List.setIfInBounds_toArray, List.set_cons_zero, List.set_cons_succ]
        refine wpAnyL_take (i := 4) (v := ?v27) rfl (by kernel_rfl) (by kernel_rfl) (by kernel_rfl) (by kernel_rfl) (fun _ _ _ h => h) (Or.inl ⟨by rfl, ?y27⟩) (by assumption) ?r27
        case y27 => (intro w' hSw; (try dsimp only at hSw); go_simp; try with_reducible rfl)
        try simp only [Act.put, List.setIfInBounds_toArray, List.set_cons_zero, List.set_cons_succ]
        refine wpAnyL_take (i := 5) (v := ?v28) rfl (by kernel_rfl) (by kernel_rfl) (by kernel_rfl) (by kernel_rfl) (fun _ _ _ h => h) (Or.inl ⟨by rfl, ?y28⟩) (by assumption) ?r28
        case y28 => (intro w' hSw; (try dsimp only at hSw); go_simp; try with_reducible rfl)
        try simp only [Act.put, List.setIfInBounds_toArray, List.set_cons_zero, List.set_cons_succ]
        refine wpAnyL_one (i := 6) (by kernel_rfl) rfl rfl (fun K hK => ?_)
        go_simp
        refine (HC.out).mono ?_
        rintro e w7 ⟨a7, c7, l7, rfl, hl7, hs7, hb7⟩
        have hB7 := hBd.trans (hb7.mono (by omega))
        have hS7 := hSd.below hb7 (by omega)
        refine hK _ _ (fun _ => hS7) ?_
        clear hK K
        refine wpAnyL_take (i := 7) (v := ?v29) rfl (by kernel_rfl) (by kernel_rfl) (by kernel_rfl) (by kernel_rfl) (fun _ _ _ h => h) (Or.inl ⟨by rfl, ?y29⟩) (by assumption) ?r29
        case y29 => (intro w' hSw; (try dsimp only at hSw); go_simp; try with_reducible rfl)
        try simp only [Act.put, List.setIfInBounds_toArray, List.set_cons_zero, List.set_cons_succ]
        refine wpAnyL_take (i := 8) (v := ?v30) rfl (by kernel_rfl) (by kernel_rfl) (by kernel_rfl) (by kernel_rfl) (fun _ _ _ h => h) (Or.inl ⟨by rfl, ?y30⟩) (by assumption) ?r30
        case y30 => (intro w' hSw; (try dsimp only at hSw); go_simp; try with_reducible rfl)
        try simp only [Act.put, List.setIfInBounds_toArray, List.set_cons_zero, List.set_cons_succ]
        refine wpAnyL_take (i := 9) (v := ?v31) rfl (by kernel_rfl) (by kernel_rfl) (by kernel_rfl) (by kernel_rfl) (fun _ _ _ h => h) (Or.inl ⟨by rfl, ?y31⟩) (by assumption) ?r31
        case y31 => (intro w' hSw; (try dsimp only at hSw); go_simp; try with_reducible rfl)
        try simp only [Act.put, List.setIfInBounds_toArray, List.set_cons_zero, List.set_cons_succ]
        refine wpAnyL_take (i := 10) (v := ?v32) rfl (by kernel_rfl) (by kernel_rfl) (by kernel_rfl) (by kernel_rfl) (fun _ _ _ h => h) (Or.inl ⟨by rfl, ?y32⟩) (by assumption) ?r32
        case y32 => (intro w' hSw; (try dsimp only at hSw); go_simp; try with_reducible rfl)
        try simp only [Act.put, List.setIfInBounds_toArray, List.set_cons_zero, List.set_cons_succ]
        refine wpAnyL_take (i := 11) (v := ?v33) rfl (by kernel_rfl) (by kernel_rfl) (by kernel_rfl) (by kernel_rfl) (fun _ _ _ h => h) (Or.inl ⟨by rfl, ?y33⟩) (by assumption) ?r33
        case y33 => (intro w' hSw; (try dsimp only at hSw); go_simp; try with_reducible rfl)
        try simp only [Act.put, List.setIfInBounds_toArray, List.set_cons_zero, List.set_cons_succ]
        refine wpAnyL_done (by kernel_rfl) ?_ _
        have hz7 : w.heap.size + 2 ≤ w7.heap.size := by have := hb7.size; omega
        have hc7 := HKc.out _ hB7
        have HS5 := HS5.out.below hb7
        have hl7 : Hid (l7 = x.own i) := by unfold Hid; rw [hl7.out, ← HST.out]; rfl
        have HS7 := Lib.hid hs7
        obtain ⟨a5', ha5'⟩ : ∃ a5', a5' = dA a5 c5 (x.ax i).length := ⟨_, rfl⟩
        have hd5 : (if c5 = (x.ax i).length then a5 else Option.map (fun y => y.add (x.ax i).length) a5) = a5' := by rw [ha5']; rfl
        have hsd := HS5.drop hale
        rw [← ha5'] at hsd
        have e2 : (l5.drop (x.ax i).length).length = l5.length - (x.ax i).length := by simp
        have hbadb : Hid ((!decide (l5.drop (x.ax i).length = l7)) = x.exB i) := by unfold Hid; rw [HF.out.1, hl5.out, hl7.out]; rfl
        have HC := ints_any (hsd.anti (M' := fun _ => False) fun _ _ h => h.elim) (hs7.anti (M' := fun _ => False) fun _ _ h => h.elim)
        rw [e2] at HC
        have HC := Lib.hid HC
        clear HS5 ha5' hsd e2 hs7 hSd hBd hzd hb7
        go_wp2_with fail
        refine (HC.out).mono ?_
        rintro e w8 ⟨rfl, n8, rfl⟩
        have hB8 := bl_drewN hB7 n8
        go_wp2
        refine bodyPost_ret (v := .tuple #[.bool (!decide (l5.drop (x.ax i).length = l7)), .slice none 0 0, .int .i64 0]) (by simp [results, Try.results38, go_sem]) rfl ?_
        exact ⟨none, 0, [], ret_ex hbadb.out HF.out.2.2.symm, HF.out.2.1.symm, Sl.nil _ _ _ (by unfold maxLen; omega), hB8⟩
end
end Go.Proofs.Ytlgdijgfphedpaa
