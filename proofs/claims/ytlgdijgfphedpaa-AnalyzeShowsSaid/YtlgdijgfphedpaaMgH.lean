/- Several texts, one behind the other. Conditions: as each of them says. -/
import Derived.Test.YtlgdijgfphedpaaGr25
import Derived.Test.YtlgdijgfphedpaaChkO
import Derived.Test.YtlgdijgfphedpaaObsA
import Derived.Deep.CutRange
import Derived.Test.YtlgdijgfphedpaaChk
/- The hypothesis with one state of chapter 25; lists of traces, written out. No condition. -/
namespace Go.Proofs.Ytlgdijgfphedpaa
open Go.RowKit
def oneH : Hy := ⟨⟨2, 0, [[0, 0]], [[1, 0]]⟩, [[]]⟩
theorem i64_sm {x : Int} (h : -1000 ≤ x ∧ x ≤ 1000) : i64 x := by unfold i64; omega
theorem litl {w : World} {vs : Array Value} {T : TypeId} {xs : List Int} {n b : Nat} (hb : w.heap.size = b) (hv : vs.toList = xs.map (.int .i64)) (hx : ∀ x ∈ xs, -1000 ≤ x ∧ x ≤ 1000) (hn : n = xs.length) (hs : n ≤ 100) {M : Nat → Prop} (hM : ¬ M b) :
    Sl M (w.alloc (.cells vs T)) (some ⟨b, 0, none⟩) n xs := by
  subst hb
  exact Sl.lit (heap_alloc_new _ _) hv hM (fun x h => i64_sm (hx x h)) hn (by unfold maxLen; omega)
section
variable {M M' M1 M2 : Nat → Prop} {w : World} {a a' b b' : Option Addr} {c c' d d' : Nat} {T : TypeId}
theorem rep_tr {w : World} {t : Tr} (h : Sl (fun _ => False) w a c t.inn) (h2 : Sl (fun _ => False) w a' c' t.out) : GR.rep (fun _ => False) w [.slice a t.inn.length c, .slice a' t.out.length c'] t := ⟨a, c, a', c', rfl, h, h2⟩
theorem trs1 {t : Tr} {n m g : Nat} (hg : w.heap.size = g) (h : Sl M w a c t.inn) (h2 : Sl M' w a' c' t.out) (hn : n = t.inn.length) (hm : m = t.out.length) :
    Sl (fun _ => False) (w.alloc (.cells #[.slice a n c, .slice a' m c'] T)) (some ⟨g, 0, none⟩) 1 [t] := by
  subst hn hm hg
  refine ⟨by simp, by unfold maxLen; omega, fun j x hj => ?_⟩
  match j, hj with
  | 0, hj =>
    simp at hj; subst hj
    refine ⟨w.heap.size, 0, _, rfl, by simp, id, rep_tr ((fal h).alloc _) ((fal h2).alloc _), fun i u hi => ?_⟩
    rw [cell_of_row _ _ _ _ _ _ (heap_alloc_new _ _)]
    match i, hi with
    | 0, hi => simpa [GR.sz] using hi
    | 1, hi => simpa [GR.sz] using hi
theorem trs2 {t s : Tr} {n m n' m' g : Nat} (hg : w.heap.size = g) (h : Sl M w a c t.inn) (h2 : Sl M' w a' c' t.out) (h3 : Sl M1 w b d s.inn) (h4 : Sl M2 w b' d' s.out) (hn : n = t.inn.length) (hm : m = t.out.length) (hn' : n' = s.inn.length) (hm' : m' = s.out.length) :
    Sl (fun _ => False) (w.alloc (.cells #[.slice a n c, .slice a' m c', .slice b n' d, .slice b' m' d'] T)) (some ⟨g, 0, none⟩) 2 [t, s] := by
  subst hn hm hn' hm' hg
  refine ⟨by simp, by unfold maxLen; omega, fun j x hj => ?_⟩
  match j, hj with
  | 0, hj =>
    simp at hj; subst hj
    refine ⟨w.heap.size, 0, _, rfl, by simp, id, rep_tr ((fal h).alloc _) ((fal h2).alloc _), fun i u hi => ?_⟩
    rw [cell_of_row _ _ _ _ _ _ (heap_alloc_new _ _)]
    match i, hi with
    | 0, hi => simpa [GR.sz] using hi
    | 1, hi => simpa [GR.sz] using hi
  | 1, hj =>
    simp at hj; subst hj
    refine ⟨w.heap.size, 0, _, rfl, by simp, id, rep_tr ((fal h3).alloc _) ((fal h4).alloc _), fun i u hi => ?_⟩
    rw [cell_of_row _ _ _ _ _ _ (heap_alloc_new _ _)]
    match i, hi with
    | 0, hi => simpa [GR.sz] using hi
    | 1, hi => simpa [GR.sz] using hi
end
theorem rows1g {M : Nat → Prop} {w : World} {a : Option Addr} {c n b : Nat} {T : TypeId} {r : List Int} (hb : w.heap.size = b) (h : Sl M w a c r) (hn : n = r.length) (hM : ¬ M b) : Sl M (w.alloc (.cells #[.slice a n c] T)) (some ⟨b, 0, none⟩) 1 [r] := by
  subst hn hb
  refine Sl.litr (heap_alloc_new _ _) hM rfl (by unfold maxLen; omega) fun j x hj => ?_
  match j, hj with
  | 0, hj => simp at hj; subst hj; exact ⟨a, c, rfl, h.alloc _⟩
/-- The world that one leaves behind. -/
abbrev oneW (w : World) : World := (((((((w.alloc (.cells #[.int .i64 2, .int .i64 0, .slice (some ⟨w.heap.size + 1 + 1, 0, none⟩) 1 1, .slice (some ⟨w.heap.size + 1 + 1 + 1 + 1, 0, none⟩) 1 1, .slice (some ⟨w.heap.size + 1 + 1 + 1 + 1 + 1 + 1, 0, none⟩) 1 1] 26)).alloc
  (.cells #[.int .i64 0, .int .i64 0] 3)).alloc (.cells #[.slice (some ⟨w.heap.size + 1, 0, none⟩) 2 2] 30)).alloc (.cells #[.int .i64 1, .int .i64 0] 3)).alloc (.cells #[.slice (some ⟨w.heap.size + 1 + 1 + 1, 0, none⟩) 2 2] 30)).alloc (.cells #[] 3)).alloc
  (.cells #[.slice (some ⟨w.heap.size + 1 + 1 + 1 + 1 + 1, 0, none⟩) 0 0] 30))
theorem one_hp (w : World) : Hp (fun k => k < w.heap.size) (oneW w) (some ⟨w.heap.size + 1 + 1, 0, none⟩) 1 (some ⟨w.heap.size + 1 + 1 + 1 + 1, 0, none⟩) 1 (some ⟨w.heap.size + 1 + 1 + 1 + 1 + 1 + 1, 0, none⟩) 1 oneH ∧ Below w.heap.size w (oneW w) := by
  refine ⟨⟨⟨i64_sm (by decide), i64_sm (by decide), ?_, ?_⟩, ?_⟩, ?_⟩
  · exact ((((rows1g (T := 30) (by simp) (litl (xs := [0, 0]) (T := 3) (by simp) rfl (by decide) rfl (by decide) (by simp)) rfl (by simp; omega)).alloc _).alloc _).alloc _).alloc _
  · exact (((rows1g (T := 30) (by simp) (litl (xs := [1, 0]) (T := 3) (by simp) rfl (by decide) rfl (by decide) (by simp; omega)) rfl (by simp; omega)).alloc _).alloc _)
  · exact rows1g (T := 30) (r := []) (by simp) (Sl.nil _ _ _ (by unfold maxLen; omega)) rfl (by simp; omega)
  · exact ((((((((Below.refl _ _).alloc (Nat.le_refl _) _).alloc (by simp) _).alloc (by simp; omega) _).alloc (by simp; omega) _).alloc (by simp; omega) _).alloc (by simp; omega) _).alloc (by simp; omega) _)
set_option maxRecDepth 100000 in
set_option maxHeartbeats 4000000 in
theorem one_any {w : World} : Calls Try.prog 33 #[] w fun e w' => ∃ (an : Option Addr) (cn : Nat) (ao : Option Addr) (co : Nat) (ac : Option Addr) (cc : Nat), e = .returned (hyV oneH an cn ao co ac cc) ∧ Hp (fun k => k < w.heap.size) w' an cn ao co ac cc oneH ∧ Below w.heap.size w w' := by
  go_enter Try.func33, Try.ntmps33
  go_wp2
  have h := one_hp w
  have q : ∀ o, (oneW w).cell? ⟨w.heap.size, o, none⟩ = (w.alloc (.cells #[.int .i64 2, .int .i64 0, .slice (some ⟨w.heap.size + 1 + 1, 0, none⟩) 1 1, .slice (some ⟨w.heap.size + 1 + 1 + 1 + 1, 0, none⟩) 1 1, .slice (some ⟨w.heap.size + 1 + 1 + 1 + 1 + 1 + 1, 0, none⟩) 1 1] 26)).cell? ⟨w.heap.size, o, none⟩ := fun o =>
    ((((((((Below.refl (w.heap.size + 1) _).alloc (by simp) _).alloc (by simp) _).alloc (by simp) _).alloc (by simp) _).alloc (by simp) _).alloc (by simp) _)).cell (p := ⟨w.heap.size, o, none⟩) (by simp)
  have k0 := q 0
  have k1 := q 1
  have k2 := q 2
  have k3 := q 3
  have k4 := q 4
  rw [cell_of_row _ _ _ _ _ _ (heap_alloc_new _ _)] at k0 k1 k2 k3 k4
  refine bodyPost_ret (v := hyV oneH (some ⟨w.heap.size + 1 + 1, 0, none⟩) 1 (some ⟨w.heap.size + 1 + 1 + 1 + 1, 0, none⟩) 1 (some ⟨w.heap.size + 1 + 1 + 1 + 1 + 1 + 1, 0, none⟩) 1) (by simp [results, Try.results33, go_sem, k0, k1, k2, k3, k4, oneH]) rfl ⟨_, _, _, _, _, _, rfl, h.1, h.2⟩
end Go.Proofs.Ytlgdijgfphedpaa
/- Small facts for the examples of chapter 25. No condition. -/
namespace Go.Proofs.Ytlgdijgfphedpaa
open Go.RowKit
def obA : Ob := ⟨2, [⟨[0, 1], [1, 2]⟩]⟩
def obB : Ob := ⟨2, [⟨[1], [0]⟩, ⟨[0, 1], [1, 2]⟩]⟩
theorem fA : (Sj.mk oneH obA [0, 1]).res Sj.mid = (⟨[], 0, []⟩, [1], 0) := by decide +kernel
theorem fB : (Sj.mk oneH obB [0, 1]).res Sj.mid = (⟨[], 0, [1]⟩, [], 0) := by decide +kernel
theorem cB : (Ck.mk oneH obB ⟨[], 0, [1]⟩).res = true ∧ (Ck.mk oneH obB ⟨[], 0, [1]⟩).err = 0 := by decide +kernel
theorem lensA : obA.lens := by intro t ht; simp [obA] at ht; subst ht; simp
theorem lensB : obB.lens := by
  intro t ht; simp [obB] at ht; rcases ht with rfl | rfl <;> simp
theorem res_eq {r : Sp × List Int × Int} {l1 l2 l3 k1 k2 k3 : List Int} {sy er sz ez : Int} (h : Hid (r = (⟨l1, sy, l2⟩, l3, er))) (h2 : r = (⟨k1, sz, k2⟩, k3, ez)) : l1 = k1 ∧ sy = sz ∧ l2 = k2 ∧ l3 = k3 ∧ er = ez := by
  have h := h.out
  rw [h2] at h
  simp only [Prod.mk.injEq, Sp.mk.injEq] at h
  exact ⟨h.1.1.symm, h.1.2.1.symm, h.1.2.2.symm, h.2.1.symm, h.2.2.symm⟩
section
variable {M : Nat → Prop} {w : World} {a a' b b' : Option Addr} {c c' d d' : Nat} {T : TypeId}
theorem rep_trg {w : World} {t : Tr} (h : Sl M w a c t.inn) (h2 : Sl M w a' c' t.out) : GR.rep M w [.slice a t.inn.length c, .slice a' t.out.length c'] t := ⟨a, c, a', c', rfl, h, h2⟩
theorem trs1g {t : Tr} {n m g : Nat} (hg : w.heap.size = g) (hM : ¬ M g) (h : Sl M w a c t.inn) (h2 : Sl M w a' c' t.out) (hn : n = t.inn.length) (hm : m = t.out.length) :
    Sl M (w.alloc (.cells #[.slice a n c, .slice a' m c'] T)) (some ⟨g, 0, none⟩) 1 [t] := by
  subst hn hm hg
  refine ⟨by simp, by unfold maxLen; omega, fun j x hj => ?_⟩
  match j, hj with
  | 0, hj =>
    simp at hj; subst hj
    refine ⟨w.heap.size, 0, _, rfl, by simp, hM, rep_trg (h.alloc _) (h2.alloc _), fun i u hi => ?_⟩
    rw [cell_of_row _ _ _ _ _ _ (heap_alloc_new _ _)]
    match i, hi with
    | 0, hi => simpa [GR.sz] using hi
    | 1, hi => simpa [GR.sz] using hi
theorem trs2g {t s : Tr} {n m n' m' g : Nat} (hg : w.heap.size = g) (hM : ¬ M g) (h : Sl M w a c t.inn) (h2 : Sl M w a' c' t.out) (h3 : Sl M w b d s.inn) (h4 : Sl M w b' d' s.out) (hn : n = t.inn.length) (hm : m = t.out.length) (hn' : n' = s.inn.length) (hm' : m' = s.out.length) :
    Sl M (w.alloc (.cells #[.slice a n c, .slice a' m c', .slice b n' d, .slice b' m' d'] T)) (some ⟨g, 0, none⟩) 2 [t, s] := by
  subst hn hm hn' hm' hg
  refine ⟨by simp, by unfold maxLen; omega, fun j x hj => ?_⟩
  match j, hj with
  | 0, hj =>
    simp at hj; subst hj
    refine ⟨w.heap.size, 0, _, rfl, by simp, hM, rep_trg (h.alloc _) (h2.alloc _), fun i u hi => ?_⟩
    rw [cell_of_row _ _ _ _ _ _ (heap_alloc_new _ _)]
    match i, hi with
    | 0, hi => simpa [GR.sz] using hi
    | 1, hi => simpa [GR.sz] using hi
  | 1, hj =>
    simp at hj; subst hj
    refine ⟨w.heap.size, 0, _, rfl, by simp, hM, rep_trg (h3.alloc _) (h4.alloc _), fun i u hi => ?_⟩
    rw [cell_of_row _ _ _ _ _ _ (heap_alloc_new _ _)]
    match i, hi with
    | 0, hi => simpa [GR.sz] using hi
    | 1, hi => simpa [GR.sz] using hi
end
section
variable {P : Program} {Q : Exit → Act → World → Prop} {md : Region.Mode} {S : World → Prop} {L : List Nat}
/-- Three that may come up. -/
theorem wpAnyL_3 {l ri rj rk : List Oper} {i j k : Nat} {oi oj ok : Oper} {fuel : Nat} {listed : Array Bool} {a : Act} {w : World} (hr : Region.ready md l.toArray listed = [i, j, k]) (hoi : l.drop i = oi :: ri) (hoj : l.drop j = oj :: rj) (hok : l.drop k = ok :: rk)
    (hwi : Region.wanted oi (yielded l.toArray a.tmps) = true) (hwj : Region.wanted oj (yielded l.toArray a.tmps) = true) (hwk : Region.wanted ok (yielded l.toArray a.tmps) = true)
    (hi : ∀ K : Act → World → Prop, (∀ a' w', (waits md l.toArray L i = false → S w') → wpAnyL P md l.toArray Q S L fuel (listed.setIfInBounds i true) a' w' → K a' w') → oi.wp P a w K Q)
    (hj : ∀ K : Act → World → Prop, (∀ a' w', (waits md l.toArray L j = false → S w') → wpAnyL P md l.toArray Q S L fuel (listed.setIfInBounds j true) a' w' → K a' w') → oj.wp P a w K Q)
    (hk : ∀ K : Act → World → Prop, (∀ a' w', (waits md l.toArray L k = false → S w') → wpAnyL P md l.toArray Q S L fuel (listed.setIfInBounds k true) a' w' → K a' w') → ok.wp P a w K Q) :
    wpAnyL P md l.toArray Q S L (fuel + 1) listed a w := by
  refine ⟨(fun h0 => by rw [h0] at hr; cases hr), (fun n hn => ?_)⟩
  rw [hr] at hn
  rcases List.mem_cons.1 hn with rfl | hn
  · unfold wpOp
    simp only [at_of_drop hoi, hwi, if_true]
    exact .inl (hi _ fun a' w' hS hrest => ⟨hS, hrest⟩)
  rcases List.mem_cons.1 hn with rfl | hn
  · unfold wpOp
    simp only [at_of_drop hoj, hwj, if_true]
    exact .inl (hj _ fun a' w' hS hrest => ⟨hS, hrest⟩)
  · obtain rfl : n = k := by simpa using hn
    unfold wpOp
    simp only [at_of_drop hok, hwk, if_true]
    exact .inl (hk _ fun a' w' hS hrest => ⟨hS, hrest⟩)
end
end Go.Proofs.Ytlgdijgfphedpaa
/- The examples of chapter 25 hold. No condition. Printed by wip/mkaw25.py. -/
namespace Go.Proofs.Ytlgdijgfphedpaa
open Go.RowKit

set_option maxRecDepth 100000 in
set_option maxHeartbeats 16000000 in
theorem aw25_any {w : World} : Calls Try.prog 10 #[] w fun e w' => e = .returned (.bool true) ∧ Below w.heap.size w w' := by
  have hB1 : Below w.heap.size w ((((w.alloc (.cells #[.int .i64 0, .int .i64 1] 3)).alloc (.cells #[.int .i64 1, .int .i64 2] 3)).alloc (.cells #[.slice (some ⟨w.heap.size, 0, none⟩) 2 2, .slice (some ⟨w.heap.size + 1, 0, none⟩) 2 2] 61)).alloc (.cells #[.int .i64 2, .slice (some ⟨w.heap.size + 1 + 1, 0, none⟩) 1 1] 29)) :=
    ((((Below.refl _ _).alloc (Nat.le_refl _) _).alloc (by simp) _).alloc (by simp; omega) _).alloc (by simp; omega) _
  have HO : Hid (Os (fun _ => False) ((((w.alloc (.cells #[.int .i64 0, .int .i64 1] 3)).alloc (.cells #[.int .i64 1, .int .i64 2] 3)).alloc (.cells #[.slice (some ⟨w.heap.size, 0, none⟩) 2 2, .slice (some ⟨w.heap.size + 1, 0, none⟩) 2 2] 61)).alloc (.cells #[.int .i64 2, .slice (some ⟨w.heap.size + 1 + 1, 0, none⟩) 1 1] 29)) (some ⟨w.heap.size + 1 + 1, 0, none⟩) 1 obA) :=
    ⟨i64_sm (by decide), (trs1g (t := ⟨[0, 1], [1, 2]⟩) (by simp) id ((litl (xs := [0, 1]) rfl rfl (by decide) rfl (by decide) id).alloc _) (litl (xs := [1, 2]) (by simp) rfl (by decide) rfl (by decide) id) rfl rfl).alloc _⟩
  have hv : ((((w.alloc (.cells #[.int .i64 0, .int .i64 1] 3)).alloc (.cells #[.int .i64 1, .int .i64 2] 3)).alloc (.cells #[.slice (some ⟨w.heap.size, 0, none⟩) 2 2, .slice (some ⟨w.heap.size + 1, 0, none⟩) 2 2] 61)).alloc (.cells #[.int .i64 2, .slice (some ⟨w.heap.size + 1 + 1, 0, none⟩) 1 1] 29)).heap[w.heap.size + 1 + 1 + 1]? = some (.cells #[.int .i64 2, .slice (some ⟨w.heap.size + 1 + 1, 0, none⟩) 1 1] 29) := by
    have k := heap_alloc_new (((w.alloc (.cells #[.int .i64 0, .int .i64 1] 3)).alloc (.cells #[.int .i64 1, .int .i64 2] 3)).alloc (.cells #[.slice (some ⟨w.heap.size, 0, none⟩) 2 2, .slice (some ⟨w.heap.size + 1, 0, none⟩) 2 2] 61)) (.cells #[.int .i64 2, .slice (some ⟨w.heap.size + 1 + 1, 0, none⟩) 1 1] 29)
    simpa using k
  have hz1 : w.heap.size + 1 + 1 + 1 < ((((w.alloc (.cells #[.int .i64 0, .int .i64 1] 3)).alloc (.cells #[.int .i64 1, .int .i64 2] 3)).alloc (.cells #[.slice (some ⟨w.heap.size, 0, none⟩) 2 2, .slice (some ⟨w.heap.size + 1, 0, none⟩) 2 2] 61)).alloc (.cells #[.int .i64 2, .slice (some ⟨w.heap.size + 1 + 1, 0, none⟩) 1 1] 29)).heap.size := by simp
  go_enter Try.func10, Try.ntmps10
  go_upto_region 2 with (fail)
  generalize hg1 : ((((w.alloc (.cells #[.int .i64 0, .int .i64 1] 3)).alloc (.cells #[.int .i64 1, .int .i64 2] 3)).alloc (.cells #[.slice (some ⟨w.heap.size, 0, none⟩) 2 2, .slice (some ⟨w.heap.size + 1, 0, none⟩) 2 2] 61)).alloc (.cells #[.int .i64 2, .slice (some ⟨w.heap.size + 1 + 1, 0, none⟩) 1 1] 29)) = w1 at *
  clear hg1
  obtain ⟨pv, hpv⟩ : ∃ pv, pv = w.heap.size + 1 + 1 + 1 := ⟨_, rfl⟩
  have hpw : w.heap.size ≤ pv := by omega
  rw [← hpv] at hv hz1 ⊢
  clear hpv
  have hvc : w1.cell? ⟨pv, 0, none⟩ = some (.int .i64 2) ∧ w1.cell? ⟨pv, 1, none⟩ = some (.slice (some ⟨w.heap.size + 1 + 1, 0, none⟩) 1 1) := ⟨by rw [cell_of_row _ _ _ _ _ _ hv]; rfl, by rw [cell_of_row _ _ _ _ _ _ hv]; rfl⟩
  have HV := Lib.hid hv
  have hK0 : Hid (∀ w', Below w1.heap.size w1 w' → w'.cell? ⟨pv, 0, none⟩ = some (.int .i64 2) ∧ w'.cell? ⟨pv, 1, none⟩ = some (.slice (some ⟨w.heap.size + 1 + 1, 0, none⟩) 1 1)) := fun w' hb => ⟨(hb.cell (p := ⟨pv, 0, none⟩) hz1).trans hvc.1, (hb.cell (p := ⟨pv, 1, none⟩) hz1).trans hvc.2⟩
  clear hv hvc
  go_cut [2, 3, 4] from 15 to 22 (fun p u e wx => ∃ (a : Option Addr) (c : Nat), u = .slice a 1 c ∧ e = .int .i64 0 ∧ Hid (Sl (fun k => k < w1.heap.size) wx a c ([1] : List Int)) ∧ Below w1.heap.size w1 wx)
  case first =>
    refine wp_region_L (fun w' => w'.cell? ⟨pv, 0, none⟩ = some (.int .i64 2) ∧ w'.cell? ⟨pv, 1, none⟩ = some (.slice (some ⟨w.heap.size + 1 + 1, 0, none⟩) 1 1)) [1, 4, 5, 6, 7, 10, 11] (by kernel_rfl) ?_
    have hB_u0 := (Below.refl w1.heap.size w1).drew
    have hz_u0 : w1.heap.size ≤ w1.drew.heap.size := Nat.le_refl _
    have hS_u0 := hK0.out _ hB_u0
    generalize hgg : w1.drew = u0 at *
    clear hgg
    refine wpAnyL_take (i := 1) (v := ?v1) rfl (by kernel_rfl) (by kernel_rfl) (by kernel_rfl) (by kernel_rfl) (fun _ _ _ h => h) (Or.inl ⟨by rfl, ?y1⟩) (by assumption) ?r1
    case y1 => (intro w' hSw; (try dsimp only at hSw); go_simp; try with_reducible rfl)
    try simp only [Act.put, List.setIfInBounds_toArray, List.set_cons_zero, List.set_cons_succ]
    refine wpAnyL_3 (i := 0) (j := 2) (k := 8) (by kernel_rfl) rfl rfl rfl rfl rfl rfl (fun K hK => ?_) (fun K hK => ?_) (fun K hK => ?_)
    · skip
      go_simp
      refine (one_any).mono ?_
      rintro e u1 ⟨an, cn, ao, co, ac, cc, rfl, hh, hb⟩
      have hB_u1 := hB_u0.trans (hb.mono hz_u0)
      have hz_u1 : w1.heap.size ≤ u1.heap.size := by have := hb.size; omega
      have hS_u1 := hK0.out _ hB_u1
      have HH := Lib.hid hh
      refine hK _ _ (fun _ => hS_u1) ?_
      clear hK K hb hh
      try simp only [Act.put, List.setIfInBounds_toArray, List.set_cons_zero, List.set_cons_succ]
      refine wpAnyL_2 (i := 2) (j := 8) (by kernel_rfl) rfl rfl rfl rfl (fun K hK => ?_) (fun K hK => ?_)
      · skip
        go_simp
        have hba := (Below.refl u1.heap.size u1).alloc (Nat.le_refl _) (.cells #[.int .i64 0, .int .i64 1] 3)
        have hB_u2 := hB_u1.alloc hz_u1 (.cells #[.int .i64 0, .int .i64 1] 3)
        have hz_u2 : w1.heap.size ≤ (u1.alloc (.cells #[.int .i64 0, .int .i64 1] 3)).heap.size := by simp; omega
        have hS_u2 := hK0.out _ hB_u2
        have HL : Hid (Sl (fun _ => False) (u1.alloc (.cells #[.int .i64 0, .int .i64 1] 3)) (some ⟨u1.heap.size, 0, none⟩) 2 ([0, 1] : List Int)) := litl (xs := [0, 1]) rfl rfl (by decide) rfl (by decide) id
        have HH := Lib.hid (HH.out.below hba)
        refine hK _ _ (fun _ => hS_u2) ?_
        clear hK K hba
        generalize hgg : u1.alloc (.cells #[.int .i64 0, .int .i64 1] 3) = u2 at *
        clear hgg
        try simp only [Act.put, List.setIfInBounds_toArray, List.set_cons_zero, List.set_cons_succ]
        refine wpAnyL_2 (i := 3) (j := 8) (by kernel_rfl) rfl rfl rfl rfl (fun K hK => ?_) (fun K hK => ?_)
        · skip
          go_simp
          refine (find_any (x := ⟨oneH, obA, [0, 1]⟩) HH.out (HO.out.below hB_u2) HL.out lensA).mono ?_
          rintro e u3 ⟨⟨a1, c1, l1, a2, c2, l2, sy, a3, c3, l3, er, rfl, hres, hp1, hp2, hp3⟩, hb⟩
          obtain ⟨rfl, rfl, rfl, rfl, rfl⟩ := res_eq hres fA
          have hB_u3 := hB_u2.trans (hb.mono hz_u2)
          have hz_u3 : w1.heap.size ≤ u3.heap.size := by have := hb.size; omega
          have hS_u3 := hK0.out _ hB_u3
          have HP3 := Lib.hid (hp3.anti (M' := fun k => k < w1.heap.size) (fun k _ hk => Nat.lt_of_lt_of_le hk hz_u2))
          refine hK _ _ (fun _ => hS_u3) ?_
          clear hK K hb hres hp1 hp2 hp3
          try simp only [Act.put, List.setIfInBounds_toArray, List.set_cons_zero, List.set_cons_succ]
          refine wpAnyL_take (i := 4) (v := ?v2) rfl (by kernel_rfl) (by kernel_rfl) (by kernel_rfl) (by kernel_rfl) (fun _ _ _ h => h) (Or.inl ⟨by rfl, ?y2⟩) (by assumption) ?r2
          case y2 => (intro w' hSw; (try dsimp only at hSw); go_simp; try with_reducible rfl)
          try simp only [Act.put, List.setIfInBounds_toArray, List.set_cons_zero, List.set_cons_succ]
          refine wpAnyL_take (i := 5) (v := ?v3) rfl (by kernel_rfl) (by kernel_rfl) (by kernel_rfl) (by kernel_rfl) (fun _ _ _ h => h) (Or.inl ⟨by rfl, ?y3⟩) (by assumption) ?r3
          case y3 => (intro w' hSw; (try dsimp only at hSw); go_simp; try with_reducible rfl)
          try simp only [Act.put, List.setIfInBounds_toArray, List.set_cons_zero, List.set_cons_succ]
          refine wpAnyL_take (i := 6) (v := ?v4) rfl (by kernel_rfl) (by kernel_rfl) (by kernel_rfl) (by kernel_rfl) (fun _ _ _ h => h) (Or.inl ⟨by rfl, ?y4⟩) (by assumption) ?r4
          case y4 => (intro w' hSw; (try dsimp only at hSw); go_simp; try with_reducible rfl)
          try simp only [Act.put, List.setIfInBounds_toArray, List.set_cons_zero, List.set_cons_succ]
          refine wpAnyL_take (i := 7) (v := ?v5) rfl (by kernel_rfl) (by kernel_rfl) (by kernel_rfl) (by kernel_rfl) (fun _ _ _ h => h) (Or.inl ⟨by rfl, ?y5⟩) (by assumption) ?r5
          case y5 => (intro w' hSw; (try dsimp only at hSw); go_simp; try with_reducible rfl)
          try simp only [Act.put, List.setIfInBounds_toArray, List.set_cons_zero, List.set_cons_succ]
          refine wpAnyL_one (i := 8) (by kernel_rfl) rfl rfl (fun K hK => ?_)
          go_simp
          have hba := (Below.refl u3.heap.size u3).alloc (Nat.le_refl _) zeS
          have hB_u4 := hB_u3.alloc hz_u3 zeS
          have hz_u4 : w1.heap.size ≤ (u3.alloc zeS).heap.size := by simp; omega
          have hS_u4 := hK0.out _ hB_u4
          obtain ⟨q, hq⟩ : ∃ q, q = u3.heap.size := ⟨_, rfl⟩
          have HQ := heap_alloc_new u3 zeS
          rw [← hq] at HQ
          have HQ := Lib.hid HQ
          have hqz : w1.heap.size ≤ q := by omega
          have hql : q < (u3.alloc zeS).heap.size := by simp; omega
          have hF := Lib.hid hba
          have hqf := Lib.hid (Nat.le_of_eq hq.symm)
          refine hK _ _ (fun _ => hS_u4) ?_
          clear hK K hba
          (try rw [← hq])
          clear hq
          generalize hgg : u3.alloc zeS = u4 at *
          clear hgg
          try simp only [Act.put, List.setIfInBounds_toArray, List.set_cons_zero, List.set_cons_succ]
          obtain ⟨⟨k0, k1, k2⟩, kf⟩ := cells3 HQ.out
          have hBz := bel_st3 (g := q) (y0 := .slice a1 0 c1) (y1 := .int .i64 0) (y2 := .slice a2 0 c2) hB_u4 hqz
          have hRz := Lib.hid (set3 (y0 := .slice a1 0 c1) (y1 := .int .i64 0) (y2 := .slice a2 0 c2) HQ.out)
          have hSz := hK0.out _ hBz
          have HP3z := Lib.hid (HP3.out.below (bel_st3 (g := q) (y0 := .slice a1 0 c1) (y1 := .int .i64 0) (y2 := .slice a2 0 c2) hF.out hqf.out))
          refine wpAnyL_one (i := 9) (by kernel_rfl) rfl rfl (fun K hK => ?_)
          go_simp
          refine hK _ _ (fun _ => hSz) ?_
          clear hK K k0 k1 k2 kf
          try simp only [Act.put, List.setIfInBounds_toArray, List.set_cons_zero, List.set_cons_succ]
          refine wpAnyL_take (i := 10) (v := ?v6) rfl (by kernel_rfl) (by kernel_rfl) (by kernel_rfl) (by kernel_rfl) (fun _ _ _ h => h) (Or.inl ⟨by rfl, ?y6⟩) (by assumption) ?r6
          case y6 => (intro w' hSw; (try dsimp only at hSw); go_simp; try with_reducible rfl)
          try simp only [Act.put, List.setIfInBounds_toArray, List.set_cons_zero, List.set_cons_succ]
          refine wpAnyL_take (i := 11) (v := ?v7) rfl (by kernel_rfl) (by kernel_rfl) (by kernel_rfl) (by kernel_rfl) (fun _ _ _ h => h) (Or.inl ⟨by rfl, ?y7⟩) (by assumption) ?r7
          case y7 => (intro w' hSw; (try dsimp only at hSw); go_simp; try with_reducible rfl)
          try simp only [Act.put, List.setIfInBounds_toArray, List.set_cons_zero, List.set_cons_succ]
          refine wpAnyL_done (by kernel_rfl) ?_ _
          go_wp2
          go_meet
          exact ⟨a3, c3, rfl, rfl, HP3z.out, hBz⟩
        · skip
          go_simp
          have hba := (Below.refl u2.heap.size u2).alloc (Nat.le_refl _) zeS
          have hB_u3 := hB_u2.alloc hz_u2 zeS
          have hz_u3 : w1.heap.size ≤ (u2.alloc zeS).heap.size := by simp; omega
          have hS_u3 := hK0.out _ hB_u3
          obtain ⟨q, hq⟩ : ∃ q, q = u2.heap.size := ⟨_, rfl⟩
          have HQ := heap_alloc_new u2 zeS
          rw [← hq] at HQ
          have HQ := Lib.hid HQ
          have hqz : w1.heap.size ≤ q := by omega
          have hql : q < (u2.alloc zeS).heap.size := by simp; omega
          have HH := Lib.hid (HH.out.below hba)
          have HL := Lib.hid (HL.out.below hba)
          refine hK _ _ (fun _ => hS_u3) ?_
          clear hK K hba
          (try rw [← hq])
          clear hq
          generalize hgg : u2.alloc zeS = u3 at *
          clear hgg
          try simp only [Act.put, List.setIfInBounds_toArray, List.set_cons_zero, List.set_cons_succ]
          refine wpAnyL_one (i := 3) (by kernel_rfl) rfl rfl (fun K hK => ?_)
          go_simp
          refine (find_any (x := ⟨oneH, obA, [0, 1]⟩) HH.out (HO.out.below hB_u3) HL.out lensA).mono ?_
          rintro e u4 ⟨⟨a1, c1, l1, a2, c2, l2, sy, a3, c3, l3, er, rfl, hres, hp1, hp2, hp3⟩, hb⟩
          obtain ⟨rfl, rfl, rfl, rfl, rfl⟩ := res_eq hres fA
          have hB_u4 := hB_u3.trans (hb.mono hz_u3)
          have hz_u4 : w1.heap.size ≤ u4.heap.size := by have := hb.size; omega
          have hS_u4 := hK0.out _ hB_u4
          have HQ := Lib.hid ((hb.block q hql).trans HQ.out)
          have HP3 := Lib.hid (hp3.anti (M' := fun k => k < q + 1) (fun k _ hk => by omega))
          have hql : q < u4.heap.size := Nat.lt_of_lt_of_le hql hb.size
          refine hK _ _ (fun _ => hS_u4) ?_
          clear hK K hb hres hp1 hp2 hp3
          try simp only [Act.put, List.setIfInBounds_toArray, List.set_cons_zero, List.set_cons_succ]
          refine wpAnyL_take (i := 4) (v := ?v8) rfl (by kernel_rfl) (by kernel_rfl) (by kernel_rfl) (by kernel_rfl) (fun _ _ _ h => h) (Or.inl ⟨by rfl, ?y8⟩) (by assumption) ?r8
          case y8 => (intro w' hSw; (try dsimp only at hSw); go_simp; try with_reducible rfl)
          try simp only [Act.put, List.setIfInBounds_toArray, List.set_cons_zero, List.set_cons_succ]
          refine wpAnyL_take (i := 5) (v := ?v9) rfl (by kernel_rfl) (by kernel_rfl) (by kernel_rfl) (by kernel_rfl) (fun _ _ _ h => h) (Or.inl ⟨by rfl, ?y9⟩) (by assumption) ?r9
          case y9 => (intro w' hSw; (try dsimp only at hSw); go_simp; try with_reducible rfl)
          try simp only [Act.put, List.setIfInBounds_toArray, List.set_cons_zero, List.set_cons_succ]
          refine wpAnyL_take (i := 6) (v := ?v10) rfl (by kernel_rfl) (by kernel_rfl) (by kernel_rfl) (by kernel_rfl) (fun _ _ _ h => h) (Or.inl ⟨by rfl, ?y10⟩) (by assumption) ?r10
          case y10 => (intro w' hSw; (try dsimp only at hSw); go_simp; try with_reducible rfl)
          try simp only [Act.put, List.setIfInBounds_toArray, List.set_cons_zero, List.set_cons_succ]
          refine wpAnyL_take (i := 7) (v := ?v11) rfl (by kernel_rfl) (by kernel_rfl) (by kernel_rfl) (by kernel_rfl) (fun _ _ _ h => h) (Or.inl ⟨by rfl, ?y11⟩) (by assumption) ?r11
          case y11 => (intro w' hSw; (try dsimp only at hSw); go_simp; try with_reducible rfl)
          try simp only [Act.put, List.setIfInBounds_toArray, List.set_cons_zero, List.set_cons_succ]
          obtain ⟨⟨k0, k1, k2⟩, kf⟩ := cells3 HQ.out
          have hBz := bel_st3 (g := q) (y0 := .slice a1 0 c1) (y1 := .int .i64 0) (y2 := .slice a2 0 c2) hB_u4 hqz
          have hRz := Lib.hid (set3 (y0 := .slice a1 0 c1) (y1 := .int .i64 0) (y2 := .slice a2 0 c2) HQ.out)
          have hSz := hK0.out _ hBz
          have HP3z := Lib.hid (HP3.out.st3 (g := q) (n := w1.heap.size) (y0 := .slice a1 0 c1) (y1 := .int .i64 0) (y2 := .slice a2 0 c2) (by omega) (by omega))
          refine wpAnyL_one (i := 9) (by kernel_rfl) rfl rfl (fun K hK => ?_)
          go_simp
          refine hK _ _ (fun _ => hSz) ?_
          clear hK K k0 k1 k2 kf
          try simp only [Act.put, List.setIfInBounds_toArray, List.set_cons_zero, List.set_cons_succ]
          refine wpAnyL_take (i := 10) (v := ?v12) rfl (by kernel_rfl) (by kernel_rfl) (by kernel_rfl) (by kernel_rfl) (fun _ _ _ h => h) (Or.inl ⟨by rfl, ?y12⟩) (by assumption) ?r12
          case y12 => (intro w' hSw; (try dsimp only at hSw); go_simp; try with_reducible rfl)
          try simp only [Act.put, List.setIfInBounds_toArray, List.set_cons_zero, List.set_cons_succ]
          refine wpAnyL_take (i := 11) (v := ?v13) rfl (by kernel_rfl) (by kernel_rfl) (by kernel_rfl) (by kernel_rfl) (fun _ _ _ h => h) (Or.inl ⟨by rfl, ?y13⟩) (by assumption) ?r13
          case y13 => (intro w' hSw; (try dsimp only at hSw); go_simp; try with_reducible rfl)
          try simp only [Act.put, List.setIfInBounds_toArray, List.set_cons_zero, List.set_cons_succ]
          refine wpAnyL_done (by kernel_rfl) ?_ _
          go_wp2
          go_meet
          exact ⟨a3, c3, rfl, rfl, HP3z.out, hBz⟩
      · skip
        go_simp
        have hba := (Below.refl u1.heap.size u1).alloc (Nat.le_refl _) zeS
        have hB_u2 := hB_u1.alloc hz_u1 zeS
        have hz_u2 : w1.heap.size ≤ (u1.alloc zeS).heap.size := by simp; omega
        have hS_u2 := hK0.out _ hB_u2
        obtain ⟨q, hq⟩ : ∃ q, q = u1.heap.size := ⟨_, rfl⟩
        have HQ := heap_alloc_new u1 zeS
        rw [← hq] at HQ
        have HQ := Lib.hid HQ
        have hqz : w1.heap.size ≤ q := by omega
        have hql : q < (u1.alloc zeS).heap.size := by simp; omega
        have HH := Lib.hid (HH.out.below hba)
        refine hK _ _ (fun _ => hS_u2) ?_
        clear hK K hba
        (try rw [← hq])
        clear hq
        generalize hgg : u1.alloc zeS = u2 at *
        clear hgg
        try simp only [Act.put, List.setIfInBounds_toArray, List.set_cons_zero, List.set_cons_succ]
        refine wpAnyL_one (i := 2) (by kernel_rfl) rfl rfl (fun K hK => ?_)
        go_simp
        have hba := (Below.refl u2.heap.size u2).alloc (Nat.le_refl _) (.cells #[.int .i64 0, .int .i64 1] 3)
        have hB_u3 := hB_u2.alloc hz_u2 (.cells #[.int .i64 0, .int .i64 1] 3)
        have hz_u3 : w1.heap.size ≤ (u2.alloc (.cells #[.int .i64 0, .int .i64 1] 3)).heap.size := by simp; omega
        have hS_u3 := hK0.out _ hB_u3
        have HL : Hid (Sl (fun _ => False) (u2.alloc (.cells #[.int .i64 0, .int .i64 1] 3)) (some ⟨u2.heap.size, 0, none⟩) 2 ([0, 1] : List Int)) := litl (xs := [0, 1]) rfl rfl (by decide) rfl (by decide) id
        have HH := Lib.hid (HH.out.below hba)
        have HQ := Lib.hid ((hba.block q hql).trans HQ.out)
        have hql : q < (u2.alloc (.cells #[.int .i64 0, .int .i64 1] 3)).heap.size := Nat.lt_of_lt_of_le hql hba.size
        refine hK _ _ (fun _ => hS_u3) ?_
        clear hK K hba
        generalize hgg : u2.alloc (.cells #[.int .i64 0, .int .i64 1] 3) = u3 at *
        clear hgg
        try simp only [Act.put, List.setIfInBounds_toArray, List.set_cons_zero, List.set_cons_succ]
        refine wpAnyL_one (i := 3) (by kernel_rfl) rfl rfl (fun K hK => ?_)
        go_simp
        refine (find_any (x := ⟨oneH, obA, [0, 1]⟩) HH.out (HO.out.below hB_u3) HL.out lensA).mono ?_
        rintro e u4 ⟨⟨a1, c1, l1, a2, c2, l2, sy, a3, c3, l3, er, rfl, hres, hp1, hp2, hp3⟩, hb⟩
        obtain ⟨rfl, rfl, rfl, rfl, rfl⟩ := res_eq hres fA
        have hB_u4 := hB_u3.trans (hb.mono hz_u3)
        have hz_u4 : w1.heap.size ≤ u4.heap.size := by have := hb.size; omega
        have hS_u4 := hK0.out _ hB_u4
        have HQ := Lib.hid ((hb.block q hql).trans HQ.out)
        have HP3 := Lib.hid (hp3.anti (M' := fun k => k < q + 1) (fun k _ hk => by omega))
        have hql : q < u4.heap.size := Nat.lt_of_lt_of_le hql hb.size
        refine hK _ _ (fun _ => hS_u4) ?_
        clear hK K hb hres hp1 hp2 hp3
        try simp only [Act.put, List.setIfInBounds_toArray, List.set_cons_zero, List.set_cons_succ]
        refine wpAnyL_take (i := 4) (v := ?v14) rfl (by kernel_rfl) (by kernel_rfl) (by kernel_rfl) (by kernel_rfl) (fun _ _ _ h => h) (Or.inl ⟨by rfl, ?y14⟩) (by assumption) ?r14
        case y14 => (intro w' hSw; (try dsimp only at hSw); go_simp; try with_reducible rfl)
        try simp only [Act.put, List.setIfInBounds_toArray, List.set_cons_zero, List.set_cons_succ]
        refine wpAnyL_take (i := 5) (v := ?v15) rfl (by kernel_rfl) (by kernel_rfl) (by kernel_rfl) (by kernel_rfl) (fun _ _ _ h => h) (Or.inl ⟨by rfl, ?y15⟩) (by assumption) ?r15
        case y15 => (intro w' hSw; (try dsimp only at hSw); go_simp; try with_reducible rfl)
        try simp only [Act.put, List.setIfInBounds_toArray, List.set_cons_zero, List.set_cons_succ]
        refine wpAnyL_take (i := 6) (v := ?v16) rfl (by kernel_rfl) (by kernel_rfl) (by kernel_rfl) (by kernel_rfl) (fun _ _ _ h => h) (Or.inl ⟨by rfl, ?y16⟩) (by assumption) ?r16
        case y16 => (intro w' hSw; (try dsimp only at hSw); go_simp; try with_reducible rfl)
        try simp only [Act.put, List.setIfInBounds_toArray, List.set_cons_zero, List.set_cons_succ]
        refine wpAnyL_take (i := 7) (v := ?v17) rfl (by kernel_rfl) (by kernel_rfl) (by kernel_rfl) (by kernel_rfl) (fun _ _ _ h => h) (Or.inl ⟨by rfl, ?y17⟩) (by assumption) ?r17
        case y17 => (intro w' hSw; (try dsimp only at hSw); go_simp; try with_reducible rfl)
        try simp only [Act.put, List.setIfInBounds_toArray, List.set_cons_zero, List.set_cons_succ]
        obtain ⟨⟨k0, k1, k2⟩, kf⟩ := cells3 HQ.out
        have hBz := bel_st3 (g := q) (y0 := .slice a1 0 c1) (y1 := .int .i64 0) (y2 := .slice a2 0 c2) hB_u4 hqz
        have hRz := Lib.hid (set3 (y0 := .slice a1 0 c1) (y1 := .int .i64 0) (y2 := .slice a2 0 c2) HQ.out)
        have hSz := hK0.out _ hBz
        have HP3z := Lib.hid (HP3.out.st3 (g := q) (n := w1.heap.size) (y0 := .slice a1 0 c1) (y1 := .int .i64 0) (y2 := .slice a2 0 c2) (by omega) (by omega))
        refine wpAnyL_one (i := 9) (by kernel_rfl) rfl rfl (fun K hK => ?_)
        go_simp
        refine hK _ _ (fun _ => hSz) ?_
        clear hK K k0 k1 k2 kf
        try simp only [Act.put, List.setIfInBounds_toArray, List.set_cons_zero, List.set_cons_succ]
        refine wpAnyL_take (i := 10) (v := ?v18) rfl (by kernel_rfl) (by kernel_rfl) (by kernel_rfl) (by kernel_rfl) (fun _ _ _ h => h) (Or.inl ⟨by rfl, ?y18⟩) (by assumption) ?r18
        case y18 => (intro w' hSw; (try dsimp only at hSw); go_simp; try with_reducible rfl)
        try simp only [Act.put, List.setIfInBounds_toArray, List.set_cons_zero, List.set_cons_succ]
        refine wpAnyL_take (i := 11) (v := ?v19) rfl (by kernel_rfl) (by kernel_rfl) (by kernel_rfl) (by kernel_rfl) (fun _ _ _ h => h) (Or.inl ⟨by rfl, ?y19⟩) (by assumption) ?r19
        case y19 => (intro w' hSw; (try dsimp only at hSw); go_simp; try with_reducible rfl)
        try simp only [Act.put, List.setIfInBounds_toArray, List.set_cons_zero, List.set_cons_succ]
        refine wpAnyL_done (by kernel_rfl) ?_ _
        go_wp2
        go_meet
        exact ⟨a3, c3, rfl, rfl, HP3z.out, hBz⟩
    · skip
      go_simp
      have hba := (Below.refl u0.heap.size u0).alloc (Nat.le_refl _) (.cells #[.int .i64 0, .int .i64 1] 3)
      have hB_u1 := hB_u0.alloc hz_u0 (.cells #[.int .i64 0, .int .i64 1] 3)
      have hz_u1 : w1.heap.size ≤ (u0.alloc (.cells #[.int .i64 0, .int .i64 1] 3)).heap.size := by simp; omega
      have hS_u1 := hK0.out _ hB_u1
      have HL : Hid (Sl (fun _ => False) (u0.alloc (.cells #[.int .i64 0, .int .i64 1] 3)) (some ⟨u0.heap.size, 0, none⟩) 2 ([0, 1] : List Int)) := litl (xs := [0, 1]) rfl rfl (by decide) rfl (by decide) id
      refine hK _ _ (fun _ => hS_u1) ?_
      clear hK K hba
      generalize hgg : u0.alloc (.cells #[.int .i64 0, .int .i64 1] 3) = u1 at *
      clear hgg
      try simp only [Act.put, List.setIfInBounds_toArray, List.set_cons_zero, List.set_cons_succ]
      refine wpAnyL_2 (i := 0) (j := 8) (by kernel_rfl) rfl rfl rfl rfl (fun K hK => ?_) (fun K hK => ?_)
      · skip
        go_simp
        refine (one_any).mono ?_
        rintro e u2 ⟨an, cn, ao, co, ac, cc, rfl, hh, hb⟩
        have hB_u2 := hB_u1.trans (hb.mono hz_u1)
        have hz_u2 : w1.heap.size ≤ u2.heap.size := by have := hb.size; omega
        have hS_u2 := hK0.out _ hB_u2
        have HH := Lib.hid hh
        have HL := Lib.hid (HL.out.below hb)
        refine hK _ _ (fun _ => hS_u2) ?_
        clear hK K hb hh
        try simp only [Act.put, List.setIfInBounds_toArray, List.set_cons_zero, List.set_cons_succ]
        refine wpAnyL_2 (i := 3) (j := 8) (by kernel_rfl) rfl rfl rfl rfl (fun K hK => ?_) (fun K hK => ?_)
        · skip
          go_simp
          refine (find_any (x := ⟨oneH, obA, [0, 1]⟩) HH.out (HO.out.below hB_u2) HL.out lensA).mono ?_
          rintro e u3 ⟨⟨a1, c1, l1, a2, c2, l2, sy, a3, c3, l3, er, rfl, hres, hp1, hp2, hp3⟩, hb⟩
          obtain ⟨rfl, rfl, rfl, rfl, rfl⟩ := res_eq hres fA
          have hB_u3 := hB_u2.trans (hb.mono hz_u2)
          have hz_u3 : w1.heap.size ≤ u3.heap.size := by have := hb.size; omega
          have hS_u3 := hK0.out _ hB_u3
          have HP3 := Lib.hid (hp3.anti (M' := fun k => k < w1.heap.size) (fun k _ hk => Nat.lt_of_lt_of_le hk hz_u2))
          refine hK _ _ (fun _ => hS_u3) ?_
          clear hK K hb hres hp1 hp2 hp3
          try simp only [Act.put, List.setIfInBounds_toArray, List.set_cons_zero, List.set_cons_succ]
          refine wpAnyL_take (i := 4) (v := ?v20) rfl (by kernel_rfl) (by kernel_rfl) (by kernel_rfl) (by kernel_rfl) (fun _ _ _ h => h) (Or.inl ⟨by rfl, ?y20⟩) (by assumption) ?r20
          case y20 => (intro w' hSw; (try dsimp only at hSw); go_simp; try with_reducible rfl)
          try simp only [Act.put, List.setIfInBounds_toArray, List.set_cons_zero, List.set_cons_succ]
          refine wpAnyL_take (i := 5) (v := ?v21) rfl (by kernel_rfl) (by kernel_rfl) (by kernel_rfl) (by kernel_rfl) (fun _ _ _ h => h) (Or.inl ⟨by rfl, ?y21⟩) (by assumption) ?r21
          case y21 => (intro w' hSw; (try dsimp only at hSw); go_simp; try with_reducible rfl)
          try simp only [Act.put, List.setIfInBounds_toArray, List.set_cons_zero, List.set_cons_succ]
          refine wpAnyL_take (i := 6) (v := ?v22) rfl (by kernel_rfl) (by kernel_rfl) (by kernel_rfl) (by kernel_rfl) (fun _ _ _ h => h) (Or.inl ⟨by rfl, ?y22⟩) (by assumption) ?r22
          case y22 => (intro w' hSw; (try dsimp only at hSw); go_simp; try with_reducible rfl)
          try simp only [Act.put, List.setIfInBounds_toArray, List.set_cons_zero, List.set_cons_succ]
          refine wpAnyL_take (i := 7) (v := ?v23) rfl (by kernel_rfl) (by kernel_rfl) (by kernel_rfl) (by kernel_rfl) (fun _ _ _ h => h) (Or.inl ⟨by rfl, ?y23⟩) (by assumption) ?r23
          case y23 => (intro w' hSw; (try dsimp only at hSw); go_simp; try with_reducible rfl)
          try simp only [Act.put, List.setIfInBounds_toArray, List.set_cons_zero, List.set_cons_succ]
          refine wpAnyL_one (i := 8) (by kernel_rfl) rfl rfl (fun K hK => ?_)
          go_simp
          have hba := (Below.refl u3.heap.size u3).alloc (Nat.le_refl _) zeS
          have hB_u4 := hB_u3.alloc hz_u3 zeS
          have hz_u4 : w1.heap.size ≤ (u3.alloc zeS).heap.size := by simp; omega
          have hS_u4 := hK0.out _ hB_u4
          obtain ⟨q, hq⟩ : ∃ q, q = u3.heap.size := ⟨_, rfl⟩
          have HQ := heap_alloc_new u3 zeS
          rw [← hq] at HQ
          have HQ := Lib.hid HQ
          have hqz : w1.heap.size ≤ q := by omega
          have hql : q < (u3.alloc zeS).heap.size := by simp; omega
          have hF := Lib.hid hba
          have hqf := Lib.hid (Nat.le_of_eq hq.symm)
          refine hK _ _ (fun _ => hS_u4) ?_
          clear hK K hba
          (try rw [← hq])
          clear hq
          generalize hgg : u3.alloc zeS = u4 at *
          clear hgg
          try simp only [Act.put, List.setIfInBounds_toArray, List.set_cons_zero, List.set_cons_succ]
          obtain ⟨⟨k0, k1, k2⟩, kf⟩ := cells3 HQ.out
          have hBz := bel_st3 (g := q) (y0 := .slice a1 0 c1) (y1 := .int .i64 0) (y2 := .slice a2 0 c2) hB_u4 hqz
          have hRz := Lib.hid (set3 (y0 := .slice a1 0 c1) (y1 := .int .i64 0) (y2 := .slice a2 0 c2) HQ.out)
          have hSz := hK0.out _ hBz
          have HP3z := Lib.hid (HP3.out.below (bel_st3 (g := q) (y0 := .slice a1 0 c1) (y1 := .int .i64 0) (y2 := .slice a2 0 c2) hF.out hqf.out))
          refine wpAnyL_one (i := 9) (by kernel_rfl) rfl rfl (fun K hK => ?_)
          go_simp
          refine hK _ _ (fun _ => hSz) ?_
          clear hK K k0 k1 k2 kf
          try simp only [Act.put, List.setIfInBounds_toArray, List.set_cons_zero, List.set_cons_succ]
          refine wpAnyL_take (i := 10) (v := ?v24) rfl (by kernel_rfl) (by kernel_rfl) (by kernel_rfl) (by kernel_rfl) (fun _ _ _ h => h) (Or.inl ⟨by rfl, ?y24⟩) (by assumption) ?r24
          case y24 => (intro w' hSw; (try dsimp only at hSw); go_simp; try with_reducible rfl)
          try simp only [Act.put, List.setIfInBounds_toArray, List.set_cons_zero, List.set_cons_succ]
          refine wpAnyL_take (i := 11) (v := ?v25) rfl (by kernel_rfl) (by kernel_rfl) (by kernel_rfl) (by kernel_rfl) (fun _ _ _ h => h) (Or.inl ⟨by rfl, ?y25⟩) (by assumption) ?r25
          case y25 => (intro w' hSw; (try dsimp only at hSw); go_simp; try with_reducible rfl)
          try simp only [Act.put, List.setIfInBounds_toArray, List.set_cons_zero, List.set_cons_succ]
          refine wpAnyL_done (by kernel_rfl) ?_ _
          go_wp2
          go_meet
          exact ⟨a3, c3, rfl, rfl, HP3z.out, hBz⟩
        · skip
          go_simp
          have hba := (Below.refl u2.heap.size u2).alloc (Nat.le_refl _) zeS
          have hB_u3 := hB_u2.alloc hz_u2 zeS
          have hz_u3 : w1.heap.size ≤ (u2.alloc zeS).heap.size := by simp; omega
          have hS_u3 := hK0.out _ hB_u3
          obtain ⟨q, hq⟩ : ∃ q, q = u2.heap.size := ⟨_, rfl⟩
          have HQ := heap_alloc_new u2 zeS
          rw [← hq] at HQ
          have HQ := Lib.hid HQ
          have hqz : w1.heap.size ≤ q := by omega
          have hql : q < (u2.alloc zeS).heap.size := by simp; omega
          have HH := Lib.hid (HH.out.below hba)
          have HL := Lib.hid (HL.out.below hba)
          refine hK _ _ (fun _ => hS_u3) ?_
          clear hK K hba
          (try rw [← hq])
          clear hq
          generalize hgg : u2.alloc zeS = u3 at *
          clear hgg
          try simp only [Act.put, List.setIfInBounds_toArray, List.set_cons_zero, List.set_cons_succ]
          refine wpAnyL_one (i := 3) (by kernel_rfl) rfl rfl (fun K hK => ?_)
          go_simp
          refine (find_any (x := ⟨oneH, obA, [0, 1]⟩) HH.out (HO.out.below hB_u3) HL.out lensA).mono ?_
          rintro e u4 ⟨⟨a1, c1, l1, a2, c2, l2, sy, a3, c3, l3, er, rfl, hres, hp1, hp2, hp3⟩, hb⟩
          obtain ⟨rfl, rfl, rfl, rfl, rfl⟩ := res_eq hres fA
          have hB_u4 := hB_u3.trans (hb.mono hz_u3)
          have hz_u4 : w1.heap.size ≤ u4.heap.size := by have := hb.size; omega
          have hS_u4 := hK0.out _ hB_u4
          have HQ := Lib.hid ((hb.block q hql).trans HQ.out)
          have HP3 := Lib.hid (hp3.anti (M' := fun k => k < q + 1) (fun k _ hk => by omega))
          have hql : q < u4.heap.size := Nat.lt_of_lt_of_le hql hb.size
          refine hK _ _ (fun _ => hS_u4) ?_
          clear hK K hb hres hp1 hp2 hp3
          try simp only [Act.put, List.setIfInBounds_toArray, List.set_cons_zero, List.set_cons_succ]
          refine wpAnyL_take (i := 4) (v := ?v26) rfl (by kernel_rfl) (by kernel_rfl) (by kernel_rfl) (by kernel_rfl) (fun _ _ _ h => h) (Or.inl ⟨by rfl, ?y26⟩) (by assumption) ?r26
          case y26 => (intro w' hSw; (try dsimp only at hSw); go_simp; try with_reducible rfl)
          try simp only [Act.put, List.setIfInBounds_toArray, List.set_cons_zero, List.set_cons_succ]
          refine wpAnyL_take (i := 5) (v := ?v27) rfl (by kernel_rfl) (by kernel_rfl) (by kernel_rfl) (by kernel_rfl) (fun _ _ _ h => h) (Or.inl ⟨by rfl, ?y27⟩) (by assumption) ?r27
          case y27 => (intro w' hSw; (try dsimp only at hSw); go_simp; try with_reducible rfl)
          try simp only [Act.put, List.setIfInBounds_toArray, List.set_cons_zero, List.set_cons_succ]
          refine wpAnyL_take (i := 6) (v := ?v28) rfl (by kernel_rfl) (by kernel_rfl) (by kernel_rfl) (by kernel_rfl) (fun _ _ _ h => h) (Or.inl ⟨by rfl, ?y28⟩) (by assumption) ?r28
          case y28 => (intro w' hSw; (try dsimp only at hSw); go_simp; try with_reducible rfl)
          try simp only [Act.put, List.setIfInBounds_toArray, List.set_cons_zero, List.set_cons_succ]
          refine wpAnyL_take (i := 7) (v := ?v29) rfl (by kernel_rfl) (by kernel_rfl) (by kernel_rfl) (by kernel_rfl) (fun _ _ _ h => h) (Or.inl ⟨by rfl, ?y29⟩) (by assumption) ?r29
          case y29 => (intro w' hSw; (try dsimp only at hSw); go_simp; try with_reducible rfl)
          try simp only [Act.put, List.setIfInBounds_toArray, List.set_cons_zero, List.set_cons_succ]
          obtain ⟨⟨k0, k1, k2⟩, kf⟩ := cells3 HQ.out
          have hBz := bel_st3 (g := q) (y0 := .slice a1 0 c1) (y1 := .int .i64 0) (y2 := .slice a2 0 c2) hB_u4 hqz
          have hRz := Lib.hid (set3 (y0 := .slice a1 0 c1) (y1 := .int .i64 0) (y2 := .slice a2 0 c2) HQ.out)
          have hSz := hK0.out _ hBz
          have HP3z := Lib.hid (HP3.out.st3 (g := q) (n := w1.heap.size) (y0 := .slice a1 0 c1) (y1 := .int .i64 0) (y2 := .slice a2 0 c2) (by omega) (by omega))
          refine wpAnyL_one (i := 9) (by kernel_rfl) rfl rfl (fun K hK => ?_)
          go_simp
          refine hK _ _ (fun _ => hSz) ?_
          clear hK K k0 k1 k2 kf
          try simp only [Act.put, List.setIfInBounds_toArray, List.set_cons_zero, List.set_cons_succ]
          refine wpAnyL_take (i := 10) (v := ?v30) rfl (by kernel_rfl) (by kernel_rfl) (by kernel_rfl) (by kernel_rfl) (fun _ _ _ h => h) (Or.inl ⟨by rfl, ?y30⟩) (by assumption) ?r30
          case y30 => (intro w' hSw; (try dsimp only at hSw); go_simp; try with_reducible rfl)
          try simp only [Act.put, List.setIfInBounds_toArray, List.set_cons_zero, List.set_cons_succ]
          refine wpAnyL_take (i := 11) (v := ?v31) rfl (by kernel_rfl) (by kernel_rfl) (by kernel_rfl) (by kernel_rfl) (fun _ _ _ h => h) (Or.inl ⟨by rfl, ?y31⟩) (by assumption) ?r31
          case y31 => (intro w' hSw; (try dsimp only at hSw); go_simp; try with_reducible rfl)
          try simp only [Act.put, List.setIfInBounds_toArray, List.set_cons_zero, List.set_cons_succ]
          refine wpAnyL_done (by kernel_rfl) ?_ _
          go_wp2
          go_meet
          exact ⟨a3, c3, rfl, rfl, HP3z.out, hBz⟩
      · skip
        go_simp
        have hba := (Below.refl u1.heap.size u1).alloc (Nat.le_refl _) zeS
        have hB_u2 := hB_u1.alloc hz_u1 zeS
        have hz_u2 : w1.heap.size ≤ (u1.alloc zeS).heap.size := by simp; omega
        have hS_u2 := hK0.out _ hB_u2
        obtain ⟨q, hq⟩ : ∃ q, q = u1.heap.size := ⟨_, rfl⟩
        have HQ := heap_alloc_new u1 zeS
        rw [← hq] at HQ
        have HQ := Lib.hid HQ
        have hqz : w1.heap.size ≤ q := by omega
        have hql : q < (u1.alloc zeS).heap.size := by simp; omega
        have HL := Lib.hid (HL.out.below hba)
        refine hK _ _ (fun _ => hS_u2) ?_
        clear hK K hba
        (try rw [← hq])
        clear hq
        generalize hgg : u1.alloc zeS = u2 at *
        clear hgg
        try simp only [Act.put, List.setIfInBounds_toArray, List.set_cons_zero, List.set_cons_succ]
        refine wpAnyL_one (i := 0) (by kernel_rfl) rfl rfl (fun K hK => ?_)
        go_simp
        refine (one_any).mono ?_
        rintro e u3 ⟨an, cn, ao, co, ac, cc, rfl, hh, hb⟩
        have hB_u3 := hB_u2.trans (hb.mono hz_u2)
        have hz_u3 : w1.heap.size ≤ u3.heap.size := by have := hb.size; omega
        have hS_u3 := hK0.out _ hB_u3
        have HH := Lib.hid hh
        have HL := Lib.hid (HL.out.below hb)
        have HQ := Lib.hid ((hb.block q hql).trans HQ.out)
        have hql : q < u3.heap.size := Nat.lt_of_lt_of_le hql hb.size
        refine hK _ _ (fun _ => hS_u3) ?_
        clear hK K hb hh
        try simp only [Act.put, List.setIfInBounds_toArray, List.set_cons_zero, List.set_cons_succ]
        refine wpAnyL_one (i := 3) (by kernel_rfl) rfl rfl (fun K hK => ?_)
        go_simp
        refine (find_any (x := ⟨oneH, obA, [0, 1]⟩) HH.out (HO.out.below hB_u3) HL.out lensA).mono ?_
        rintro e u4 ⟨⟨a1, c1, l1, a2, c2, l2, sy, a3, c3, l3, er, rfl, hres, hp1, hp2, hp3⟩, hb⟩
        obtain ⟨rfl, rfl, rfl, rfl, rfl⟩ := res_eq hres fA
        have hB_u4 := hB_u3.trans (hb.mono hz_u3)
        have hz_u4 : w1.heap.size ≤ u4.heap.size := by have := hb.size; omega
        have hS_u4 := hK0.out _ hB_u4
        have HQ := Lib.hid ((hb.block q hql).trans HQ.out)
        have HP3 := Lib.hid (hp3.anti (M' := fun k => k < q + 1) (fun k _ hk => by omega))
        have hql : q < u4.heap.size := Nat.lt_of_lt_of_le hql hb.size
        refine hK _ _ (fun _ => hS_u4) ?_
        clear hK K hb hres hp1 hp2 hp3
        try simp only [Act.put, List.setIfInBounds_toArray, List.set_cons_zero, List.set_cons_succ]
        refine wpAnyL_take (i := 4) (v := ?v32) rfl (by kernel_rfl) (by kernel_rfl) (by kernel_rfl) (by kernel_rfl) (fun _ _ _ h => h) (Or.inl ⟨by rfl, ?y32⟩) (by assumption) ?r32
        case y32 => (intro w' hSw; (try dsimp only at hSw); go_simp; try with_reducible rfl)
        try simp only [Act.put, List.setIfInBounds_toArray, List.set_cons_zero, List.set_cons_succ]
        refine wpAnyL_take (i := 5) (v := ?v33) rfl (by kernel_rfl) (by kernel_rfl) (by kernel_rfl) (by kernel_rfl) (fun _ _ _ h => h) (Or.inl ⟨by rfl, ?y33⟩) (by assumption) ?r33
        case y33 => (intro w' hSw; (try dsimp only at hSw); go_simp; try with_reducible rfl)
        try simp only [Act.put, List.setIfInBounds_toArray, List.set_cons_zero, List.set_cons_succ]
        refine wpAnyL_take (i := 6) (v := ?v34) rfl (by kernel_rfl) (by kernel_rfl) (by kernel_rfl) (by kernel_rfl) (fun _ _ _ h => h) (Or.inl ⟨by rfl, ?y34⟩) (by assumption) ?r34
        case y34 => (intro w' hSw; (try dsimp only at hSw); go_simp; try with_reducible rfl)
        try simp only [Act.put, List.setIfInBounds_toArray, List.set_cons_zero, List.set_cons_succ]
        refine wpAnyL_take (i := 7) (v := ?v35) rfl (by kernel_rfl) (by kernel_rfl) (by kernel_rfl) (by kernel_rfl) (fun _ _ _ h => h) (Or.inl ⟨by rfl, ?y35⟩) (by assumption) ?r35
        case y35 => (intro w' hSw; (try dsimp only at hSw); go_simp; try with_reducible rfl)
        try simp only [Act.put, List.setIfInBounds_toArray, List.set_cons_zero, List.set_cons_succ]
        obtain ⟨⟨k0, k1, k2⟩, kf⟩ := cells3 HQ.out
        have hBz := bel_st3 (g := q) (y0 := .slice a1 0 c1) (y1 := .int .i64 0) (y2 := .slice a2 0 c2) hB_u4 hqz
        have hRz := Lib.hid (set3 (y0 := .slice a1 0 c1) (y1 := .int .i64 0) (y2 := .slice a2 0 c2) HQ.out)
        have hSz := hK0.out _ hBz
        have HP3z := Lib.hid (HP3.out.st3 (g := q) (n := w1.heap.size) (y0 := .slice a1 0 c1) (y1 := .int .i64 0) (y2 := .slice a2 0 c2) (by omega) (by omega))
        refine wpAnyL_one (i := 9) (by kernel_rfl) rfl rfl (fun K hK => ?_)
        go_simp
        refine hK _ _ (fun _ => hSz) ?_
        clear hK K k0 k1 k2 kf
        try simp only [Act.put, List.setIfInBounds_toArray, List.set_cons_zero, List.set_cons_succ]
        refine wpAnyL_take (i := 10) (v := ?v36) rfl (by kernel_rfl) (by kernel_rfl) (by kernel_rfl) (by kernel_rfl) (fun _ _ _ h => h) (Or.inl ⟨by rfl, ?y36⟩) (by assumption) ?r36
        case y36 => (intro w' hSw; (try dsimp only at hSw); go_simp; try with_reducible rfl)
        try simp only [Act.put, List.setIfInBounds_toArray, List.set_cons_zero, List.set_cons_succ]
        refine wpAnyL_take (i := 11) (v := ?v37) rfl (by kernel_rfl) (by kernel_rfl) (by kernel_rfl) (by kernel_rfl) (fun _ _ _ h => h) (Or.inl ⟨by rfl, ?y37⟩) (by assumption) ?r37
        case y37 => (intro w' hSw; (try dsimp only at hSw); go_simp; try with_reducible rfl)
        try simp only [Act.put, List.setIfInBounds_toArray, List.set_cons_zero, List.set_cons_succ]
        refine wpAnyL_done (by kernel_rfl) ?_ _
        go_wp2
        go_meet
        exact ⟨a3, c3, rfl, rfl, HP3z.out, hBz⟩
    · skip
      go_simp
      have hba := (Below.refl u0.heap.size u0).alloc (Nat.le_refl _) zeS
      have hB_u1 := hB_u0.alloc hz_u0 zeS
      have hz_u1 : w1.heap.size ≤ (u0.alloc zeS).heap.size := by simp; omega
      have hS_u1 := hK0.out _ hB_u1
      obtain ⟨q, hq⟩ : ∃ q, q = u0.heap.size := ⟨_, rfl⟩
      have HQ := heap_alloc_new u0 zeS
      rw [← hq] at HQ
      have HQ := Lib.hid HQ
      have hqz : w1.heap.size ≤ q := by omega
      have hql : q < (u0.alloc zeS).heap.size := by simp; omega
      refine hK _ _ (fun _ => hS_u1) ?_
      clear hK K hba
      (try rw [← hq])
      clear hq
      generalize hgg : u0.alloc zeS = u1 at *
      clear hgg
      try simp only [Act.put, List.setIfInBounds_toArray, List.set_cons_zero, List.set_cons_succ]
      refine wpAnyL_2 (i := 0) (j := 2) (by kernel_rfl) rfl rfl rfl rfl (fun K hK => ?_) (fun K hK => ?_)
      · skip
        go_simp
        refine (one_any).mono ?_
        rintro e u2 ⟨an, cn, ao, co, ac, cc, rfl, hh, hb⟩
        have hB_u2 := hB_u1.trans (hb.mono hz_u1)
        have hz_u2 : w1.heap.size ≤ u2.heap.size := by have := hb.size; omega
        have hS_u2 := hK0.out _ hB_u2
        have HH := Lib.hid hh
        have HQ := Lib.hid ((hb.block q hql).trans HQ.out)
        have hql : q < u2.heap.size := Nat.lt_of_lt_of_le hql hb.size
        refine hK _ _ (fun _ => hS_u2) ?_
        clear hK K hb hh
        try simp only [Act.put, List.setIfInBounds_toArray, List.set_cons_zero, List.set_cons_succ]
        refine wpAnyL_one (i := 2) (by kernel_rfl) rfl rfl (fun K hK => ?_)
        go_simp
        have hba := (Below.refl u2.heap.size u2).alloc (Nat.le_refl _) (.cells #[.int .i64 0, .int .i64 1] 3)
        have hB_u3 := hB_u2.alloc hz_u2 (.cells #[.int .i64 0, .int .i64 1] 3)
        have hz_u3 : w1.heap.size ≤ (u2.alloc (.cells #[.int .i64 0, .int .i64 1] 3)).heap.size := by simp; omega
        have hS_u3 := hK0.out _ hB_u3
        have HL : Hid (Sl (fun _ => False) (u2.alloc (.cells #[.int .i64 0, .int .i64 1] 3)) (some ⟨u2.heap.size, 0, none⟩) 2 ([0, 1] : List Int)) := litl (xs := [0, 1]) rfl rfl (by decide) rfl (by decide) id
        have HH := Lib.hid (HH.out.below hba)
        have HQ := Lib.hid ((hba.block q hql).trans HQ.out)
        have hql : q < (u2.alloc (.cells #[.int .i64 0, .int .i64 1] 3)).heap.size := Nat.lt_of_lt_of_le hql hba.size
        refine hK _ _ (fun _ => hS_u3) ?_
        clear hK K hba
        generalize hgg : u2.alloc (.cells #[.int .i64 0, .int .i64 1] 3) = u3 at *
        clear hgg
        try simp only [Act.put, List.setIfInBounds_toArray, List.set_cons_zero, List.set_cons_succ]
        refine wpAnyL_one (i := 3) (by kernel_rfl) rfl rfl (fun K hK => ?_)
        go_simp
        refine (find_any (x := ⟨oneH, obA, [0, 1]⟩) HH.out (HO.out.below hB_u3) HL.out lensA).mono ?_
        rintro e u4 ⟨⟨a1, c1, l1, a2, c2, l2, sy, a3, c3, l3, er, rfl, hres, hp1, hp2, hp3⟩, hb⟩
        obtain ⟨rfl, rfl, rfl, rfl, rfl⟩ := res_eq hres fA
        have hB_u4 := hB_u3.trans (hb.mono hz_u3)
        have hz_u4 : w1.heap.size ≤ u4.heap.size := by have := hb.size; omega
        have hS_u4 := hK0.out _ hB_u4
        have HQ := Lib.hid ((hb.block q hql).trans HQ.out)
        have HP3 := Lib.hid (hp3.anti (M' := fun k => k < q + 1) (fun k _ hk => by omega))
        have hql : q < u4.heap.size := Nat.lt_of_lt_of_le hql hb.size
        refine hK _ _ (fun _ => hS_u4) ?_
        clear hK K hb hres hp1 hp2 hp3
        try simp only [Act.put, List.setIfInBounds_toArray, List.set_cons_zero, List.set_cons_succ]
        refine wpAnyL_take (i := 4) (v := ?v38) rfl (by kernel_rfl) (by kernel_rfl) (by kernel_rfl) (by kernel_rfl) (fun _ _ _ h => h) (Or.inl ⟨by rfl, ?y38⟩) (by assumption) ?r38
        case y38 => (intro w' hSw; (try dsimp only at hSw); go_simp; try with_reducible rfl)
        try simp only [Act.put, List.setIfInBounds_toArray, List.set_cons_zero, List.set_cons_succ]
        refine wpAnyL_take (i := 5) (v := ?v39) rfl (by kernel_rfl) (by kernel_rfl) (by kernel_rfl) (by kernel_rfl) (fun _ _ _ h => h) (Or.inl ⟨by rfl, ?y39⟩) (by assumption) ?r39
        case y39 => (intro w' hSw; (try dsimp only at hSw); go_simp; try with_reducible rfl)
        try simp only [Act.put, List.setIfInBounds_toArray, List.set_cons_zero, List.set_cons_succ]
        refine wpAnyL_take (i := 6) (v := ?v40) rfl (by kernel_rfl) (by kernel_rfl) (by kernel_rfl) (by kernel_rfl) (fun _ _ _ h => h) (Or.inl ⟨by rfl, ?y40⟩) (by assumption) ?r40
        case y40 => (intro w' hSw; (try dsimp only at hSw); go_simp; try with_reducible rfl)
        try simp only [Act.put, List.setIfInBounds_toArray, List.set_cons_zero, List.set_cons_succ]
        refine wpAnyL_take (i := 7) (v := ?v41) rfl (by kernel_rfl) (by kernel_rfl) (by kernel_rfl) (by kernel_rfl) (fun _ _ _ h => h) (Or.inl ⟨by rfl, ?y41⟩) (by assumption) ?r41
        case y41 => (intro w' hSw; (try dsimp only at hSw); go_simp; try with_reducible rfl)
        try simp only [Act.put, List.setIfInBounds_toArray, List.set_cons_zero, List.set_cons_succ]
        obtain ⟨⟨k0, k1, k2⟩, kf⟩ := cells3 HQ.out
        have hBz := bel_st3 (g := q) (y0 := .slice a1 0 c1) (y1 := .int .i64 0) (y2 := .slice a2 0 c2) hB_u4 hqz
        have hRz := Lib.hid (set3 (y0 := .slice a1 0 c1) (y1 := .int .i64 0) (y2 := .slice a2 0 c2) HQ.out)
        have hSz := hK0.out _ hBz
        have HP3z := Lib.hid (HP3.out.st3 (g := q) (n := w1.heap.size) (y0 := .slice a1 0 c1) (y1 := .int .i64 0) (y2 := .slice a2 0 c2) (by omega) (by omega))
        refine wpAnyL_one (i := 9) (by kernel_rfl) rfl rfl (fun K hK => ?_)
        go_simp
        refine hK _ _ (fun _ => hSz) ?_
        clear hK K k0 k1 k2 kf
        try simp only [Act.put, List.setIfInBounds_toArray, List.set_cons_zero, List.set_cons_succ]
        refine wpAnyL_take (i := 10) (v := ?v42) rfl (by kernel_rfl) (by kernel_rfl) (by kernel_rfl) (by kernel_rfl) (fun _ _ _ h => h) (Or.inl ⟨by rfl, ?y42⟩) (by assumption) ?r42
        case y42 => (intro w' hSw; (try dsimp only at hSw); go_simp; try with_reducible rfl)
        try simp only [Act.put, List.setIfInBounds_toArray, List.set_cons_zero, List.set_cons_succ]
        refine wpAnyL_take (i := 11) (v := ?v43) rfl (by kernel_rfl) (by kernel_rfl) (by kernel_rfl) (by kernel_rfl) (fun _ _ _ h => h) (Or.inl ⟨by rfl, ?y43⟩) (by assumption) ?r43
        case y43 => (intro w' hSw; (try dsimp only at hSw); go_simp; try with_reducible rfl)
        try simp only [Act.put, List.setIfInBounds_toArray, List.set_cons_zero, List.set_cons_succ]
        refine wpAnyL_done (by kernel_rfl) ?_ _
        go_wp2
        go_meet
        exact ⟨a3, c3, rfl, rfl, HP3z.out, hBz⟩
      · skip
        go_simp
        have hba := (Below.refl u1.heap.size u1).alloc (Nat.le_refl _) (.cells #[.int .i64 0, .int .i64 1] 3)
        have hB_u2 := hB_u1.alloc hz_u1 (.cells #[.int .i64 0, .int .i64 1] 3)
        have hz_u2 : w1.heap.size ≤ (u1.alloc (.cells #[.int .i64 0, .int .i64 1] 3)).heap.size := by simp; omega
        have hS_u2 := hK0.out _ hB_u2
        have HL : Hid (Sl (fun _ => False) (u1.alloc (.cells #[.int .i64 0, .int .i64 1] 3)) (some ⟨u1.heap.size, 0, none⟩) 2 ([0, 1] : List Int)) := litl (xs := [0, 1]) rfl rfl (by decide) rfl (by decide) id
        have HQ := Lib.hid ((hba.block q hql).trans HQ.out)
        have hql : q < (u1.alloc (.cells #[.int .i64 0, .int .i64 1] 3)).heap.size := Nat.lt_of_lt_of_le hql hba.size
        refine hK _ _ (fun _ => hS_u2) ?_
        clear hK K hba
        generalize hgg : u1.alloc (.cells #[.int .i64 0, .int .i64 1] 3) = u2 at *
        clear hgg
        try simp only [Act.put, List.setIfInBounds_toArray, List.set_cons_zero, List.set_cons_succ]
        refine wpAnyL_one (i := 0) (by kernel_rfl) rfl rfl (fun K hK => ?_)
        go_simp
        refine (one_any).mono ?_
        rintro e u3 ⟨an, cn, ao, co, ac, cc, rfl, hh, hb⟩
        have hB_u3 := hB_u2.trans (hb.mono hz_u2)
        have hz_u3 : w1.heap.size ≤ u3.heap.size := by have := hb.size; omega
        have hS_u3 := hK0.out _ hB_u3
        have HH := Lib.hid hh
        have HL := Lib.hid (HL.out.below hb)
        have HQ := Lib.hid ((hb.block q hql).trans HQ.out)
        have hql : q < u3.heap.size := Nat.lt_of_lt_of_le hql hb.size
        refine hK _ _ (fun _ => hS_u3) ?_
        clear hK K hb hh
        try simp only [Act.put, List.setIfInBounds_toArray, List.set_cons_zero, List.set_cons_succ]
        refine wpAnyL_one (i := 3) (by kernel_rfl) rfl rfl (fun K hK => ?_)
        go_simp
        refine (find_any (x := ⟨oneH, obA, [0, 1]⟩) HH.out (HO.out.below hB_u3) HL.out lensA).mono ?_
        rintro e u4 ⟨⟨a1, c1, l1, a2, c2, l2, sy, a3, c3, l3, er, rfl, hres, hp1, hp2, hp3⟩, hb⟩
        obtain ⟨rfl, rfl, rfl, rfl, rfl⟩ := res_eq hres fA
        have hB_u4 := hB_u3.trans (hb.mono hz_u3)
        have hz_u4 : w1.heap.size ≤ u4.heap.size := by have := hb.size; omega
        have hS_u4 := hK0.out _ hB_u4
        have HQ := Lib.hid ((hb.block q hql).trans HQ.out)
        have HP3 := Lib.hid (hp3.anti (M' := fun k => k < q + 1) (fun k _ hk => by omega))
        have hql : q < u4.heap.size := Nat.lt_of_lt_of_le hql hb.size
        refine hK _ _ (fun _ => hS_u4) ?_
        clear hK K hb hres hp1 hp2 hp3
        try simp only [Act.put, List.setIfInBounds_toArray, List.set_cons_zero, List.set_cons_succ]
        refine wpAnyL_take (i := 4) (v := ?v44) rfl (by kernel_rfl) (by kernel_rfl) (by kernel_rfl) (by kernel_rfl) (fun _ _ _ h => h) (Or.inl ⟨by rfl, ?y44⟩) (by assumption) ?r44
        case y44 => (intro w' hSw; (try dsimp only at hSw); go_simp; try with_reducible rfl)
        try simp only [Act.put, List.setIfInBounds_toArray, List.set_cons_zero, List.set_cons_succ]
        refine wpAnyL_take (i := 5) (v := ?v45) rfl (by kernel_rfl) (by kernel_rfl) (by kernel_rfl) (by kernel_rfl) (fun _ _ _ h => h) (Or.inl ⟨by rfl, ?y45⟩) (by assumption) ?r45
        case y45 => (intro w' hSw; (try dsimp only at hSw); go_simp; try with_reducible rfl)
        try simp only [Act.put, List.setIfInBounds_toArray, List.set_cons_zero, List.set_cons_succ]
        refine wpAnyL_take (i := 6) (v := ?v46) rfl (by kernel_rfl) (by kernel_rfl) (by kernel_rfl) (by kernel_rfl) (fun _ _ _ h => h) (Or.inl ⟨by rfl, ?y46⟩) (by assumption) ?r46
        case y46 => (intro w' hSw; (try dsimp only at hSw); go_simp; try with_reducible rfl)
        try simp only [Act.put, List.setIfInBounds_toArray, List.set_cons_zero, List.set_cons_succ]
        refine wpAnyL_take (i := 7) (v := ?v47) rfl (by kernel_rfl) (by kernel_rfl) (by kernel_rfl) (by kernel_rfl) (fun _ _ _ h => h) (Or.inl ⟨by rfl, ?y47⟩) (by assumption) ?r47
        case y47 => (intro w' hSw; (try dsimp only at hSw); go_simp; try with_reducible rfl)
        try simp only [Act.put, List.setIfInBounds_toArray, List.set_cons_zero, List.set_cons_succ]
        obtain ⟨⟨k0, k1, k2⟩, kf⟩ := cells3 HQ.out
        have hBz := bel_st3 (g := q) (y0 := .slice a1 0 c1) (y1 := .int .i64 0) (y2 := .slice a2 0 c2) hB_u4 hqz
        have hRz := Lib.hid (set3 (y0 := .slice a1 0 c1) (y1 := .int .i64 0) (y2 := .slice a2 0 c2) HQ.out)
        have hSz := hK0.out _ hBz
        have HP3z := Lib.hid (HP3.out.st3 (g := q) (n := w1.heap.size) (y0 := .slice a1 0 c1) (y1 := .int .i64 0) (y2 := .slice a2 0 c2) (by omega) (by omega))
        refine wpAnyL_one (i := 9) (by kernel_rfl) rfl rfl (fun K hK => ?_)
        go_simp
        refine hK _ _ (fun _ => hSz) ?_
        clear hK K k0 k1 k2 kf
        try simp only [Act.put, List.setIfInBounds_toArray, List.set_cons_zero, List.set_cons_succ]
        refine wpAnyL_take (i := 10) (v := ?v48) rfl (by kernel_rfl) (by kernel_rfl) (by kernel_rfl) (by kernel_rfl) (fun _ _ _ h => h) (Or.inl ⟨by rfl, ?y48⟩) (by assumption) ?r48
        case y48 => (intro w' hSw; (try dsimp only at hSw); go_simp; try with_reducible rfl)
        try simp only [Act.put, List.setIfInBounds_toArray, List.set_cons_zero, List.set_cons_succ]
        refine wpAnyL_take (i := 11) (v := ?v49) rfl (by kernel_rfl) (by kernel_rfl) (by kernel_rfl) (by kernel_rfl) (fun _ _ _ h => h) (Or.inl ⟨by rfl, ?y49⟩) (by assumption) ?r49
        case y49 => (intro w' hSw; (try dsimp only at hSw); go_simp; try with_reducible rfl)
        try simp only [Act.put, List.setIfInBounds_toArray, List.set_cons_zero, List.set_cons_succ]
        refine wpAnyL_done (by kernel_rfl) ?_ _
        go_wp2
        go_meet
        exact ⟨a3, c3, rfl, rfl, HP3z.out, hBz⟩
  case rest =>
    obtain ⟨a, c, rfl, rfl, HA, hBc⟩ := hcut
    have hpl : pv < wc.heap.size := Nat.lt_of_lt_of_le hz1 hBc.size
    obtain ⟨wd, hwd⟩ : ∃ wd, wd = ((((wc.alloc (.cells #[.int .i64 1] 3)).alloc (.cells #[.int .i64 0] 3)).alloc (.cells #[.int .i64 0, .int .i64 1] 3)).alloc (.cells #[.int .i64 1, .int .i64 2] 3)).alloc (.cells #[.slice (some ⟨wc.heap.size, 0, none⟩) 1 1, .slice (some ⟨wc.heap.size + 1, 0, none⟩) 1 1, .slice (some ⟨wc.heap.size + 1 + 1, 0, none⟩) 2 2, .slice (some ⟨wc.heap.size + 1 + 1 + 1, 0, none⟩) 2 2] 61) := ⟨_, rfl⟩
    have hbd : Below wc.heap.size wc wd := by rw [hwd]; exact (((((Below.refl _ _).alloc (Nat.le_refl _) _).alloc (by simp) _).alloc (by simp; omega) _).alloc (by simp; omega) _).alloc (by simp; omega) _
    have HT : Hid (Sl (fun k => k < wc.heap.size) wd (some ⟨wc.heap.size + 1 + 1 + 1 + 1, 0, none⟩) 2 [(⟨[1], [0]⟩ : Tr), ⟨[0, 1], [1, 2]⟩]) := by
      rw [hwd]
      exact trs2g (t := ⟨[1], [0]⟩) (s := ⟨[0, 1], [1, 2]⟩) (by simp) (by simp; omega) ((((litl (xs := [1]) rfl rfl (by decide) rfl (by decide) (by simp)).alloc _).alloc _).alloc _) (((litl (xs := [0]) (by simp) rfl (by decide) rfl (by decide) (by simp)).alloc _).alloc _)
        ((litl (xs := [0, 1]) (by simp) rfl (by decide) rfl (by decide) (by simp; omega)).alloc _) (litl (xs := [1, 2]) (by simp) rfl (by decide) rfl (by decide) (by simp; omega)) rfl rfl rfl rfl
    have HAd := Lib.hid (HA.out.below hbd)
    have HVd := (hbd.block pv hpl).trans ((hBc.block pv hz1).trans HV.out)
    have hvc : wd.cell? ⟨pv, 0, none⟩ = some (.int .i64 2) ∧ wd.cell? ⟨pv, 1, none⟩ = some (.slice (some ⟨w.heap.size + 1 + 1, 0, none⟩) 1 1) := ⟨by rw [cell_of_row _ _ _ _ _ _ HVd]; rfl, by rw [cell_of_row _ _ _ _ _ _ HVd]; rfl⟩
    have hvf : ∀ o, wd.frozen? ⟨pv, o, none⟩ = false := fun o => frozen_of_row _ _ _ _ _ HVd
    have hBd := (hB1.trans (hBc.mono (by omega))).trans (hbd.mono (by omega))
    have HV3 : Hid ((wd.setCell ⟨pv, 1, none⟩ (.slice (some ⟨wc.heap.size + 1 + 1 + 1 + 1, 0, none⟩) 2 2)).heap[pv]? = some (.cells #[.int .i64 2, .slice (some ⟨wc.heap.size + 1 + 1 + 1 + 1, 0, none⟩) 2 2] 29)) := by unfold Hid; rw [heap_setCell_same _ _ _ _ _ _ HVd]; rfl
    have HB3 := Lib.hid (hBd.setCell (p := ⟨pv, 1, none⟩) hpw (.slice (some ⟨wc.heap.size + 1 + 1 + 1 + 1, 0, none⟩) 2 2))
    have HT3 := Lib.hid (HT.out.ext (Ext.setCell wd (p := ⟨pv, 1, none⟩) hpl (.slice (some ⟨wc.heap.size + 1 + 1 + 1 + 1, 0, none⟩) 2 2)))
    have HA3 := Lib.hid (HAd.out.ext (Ext.setCell wd (p := ⟨pv, 1, none⟩) hz1 (.slice (some ⟨wc.heap.size + 1 + 1 + 1 + 1, 0, none⟩) 2 2)))
    have hz3 : pv < (wd.setCell ⟨pv, 1, none⟩ (.slice (some ⟨wc.heap.size + 1 + 1 + 1 + 1, 0, none⟩) 2 2)).heap.size := by simp only [World.setCell, Array.size_modify]; exact Nat.lt_of_lt_of_le hpl hbd.size
    rw [hwd] at hvc hvf
    clear HVd HT HAd hBd hB1 hBc hbd HO HV hK0 HA
    go_upto_region 4 with (fail)
    rw [← hwd]
    clear hwd hvc hvf
    generalize hg3 : wd.setCell ⟨pv, 1, none⟩ (.slice (some ⟨wc.heap.size + 1 + 1 + 1 + 1, 0, none⟩) 2 2) = w3 at *
    clear hg3
    obtain ⟨tb, htb⟩ : ∃ tb, tb = wc.heap.size + 1 + 1 + 1 + 1 := ⟨_, rfl⟩
    rw [← htb] at HV3 HT3
    rw [← htb]
    have HO : Hid (Os (fun _ => False) w3 (some ⟨tb, 0, none⟩) 2 obB) := ⟨i64_sm (by decide), HT3.out.anti fun _ _ h => h.elim⟩
    have hvc3 : w3.cell? ⟨pv, 0, none⟩ = some (.int .i64 2) ∧ w3.cell? ⟨pv, 1, none⟩ = some (.slice (some ⟨tb, 0, none⟩) 2 2) := ⟨by rw [cell_of_row _ _ _ _ _ _ HV3.out]; rfl, by rw [cell_of_row _ _ _ _ _ _ HV3.out]; rfl⟩
    have hK0 : Hid (∀ w', Below w3.heap.size w3 w' → w'.cell? ⟨pv, 0, none⟩ = some (.int .i64 2) ∧ w'.cell? ⟨pv, 1, none⟩ = some (.slice (some ⟨tb, 0, none⟩) 2 2)) := fun w' hb => ⟨(hb.cell (p := ⟨pv, 0, none⟩) hz3).trans hvc3.1, (hb.cell (p := ⟨pv, 1, none⟩) hz3).trans hvc3.2⟩
    have hwp : w.heap.size ≤ w3.heap.size := by omega
    clear htb HV3 HT3 hvc3 hpl hz1
    go_cut [5, 6, 7] from 31 to 38 (fun p u e wx => ∃ (q : Nat) (a1 : Option Addr) (c1 : Nat) (a2 : Option Addr) (c2 : Nat) (a : Option Addr) (c : Nat), p = .pointer (some ⟨q, 0, none⟩) ∧ u = .slice a 0 c ∧ e = .int .i64 0 ∧ w3.heap.size ≤ q ∧ Hid (wx.heap[q]? = some (.cells #[.slice a1 0 c1, .int .i64 0, .slice a2 1 c2] 35)) ∧
      Hid (Sl (fun k => k < w3.heap.size) wx a1 c1 ([] : List Int)) ∧ Hid (Sl (fun k => k < w3.heap.size) wx a2 c2 ([1] : List Int)) ∧ Below w3.heap.size w3 wx)
    case first =>
      refine wp_region_L (fun w' => w'.cell? ⟨pv, 0, none⟩ = some (.int .i64 2) ∧ w'.cell? ⟨pv, 1, none⟩ = some (.slice (some ⟨tb, 0, none⟩) 2 2)) [1, 4, 5, 6, 7, 10, 11] (by kernel_rfl) ?_
      have hB_u0 := (Below.refl w3.heap.size w3).drew
      have hz_u0 : w3.heap.size ≤ w3.drew.heap.size := Nat.le_refl _
      have hS_u0 := hK0.out _ hB_u0
      generalize hgg : w3.drew = u0 at *
      clear hgg
      refine wpAnyL_take (i := 1) (v := ?v50) rfl (by kernel_rfl) (by kernel_rfl) (by kernel_rfl) (by kernel_rfl) (fun _ _ _ h => h) (Or.inl ⟨by rfl, ?y50⟩) (by assumption) ?r50
      case y50 => (intro w' hSw; (try dsimp only at hSw); go_simp; try with_reducible rfl)
      try simp only [Act.put, List.setIfInBounds_toArray, List.set_cons_zero, List.set_cons_succ]
      refine wpAnyL_3 (i := 0) (j := 2) (k := 8) (by kernel_rfl) rfl rfl rfl rfl rfl rfl (fun K hK => ?_) (fun K hK => ?_) (fun K hK => ?_)
      · skip
        go_simp
        refine (one_any).mono ?_
        rintro e u1 ⟨an, cn, ao, co, ac, cc, rfl, hh, hb⟩
        have hB_u1 := hB_u0.trans (hb.mono hz_u0)
        have hz_u1 : w3.heap.size ≤ u1.heap.size := by have := hb.size; omega
        have hS_u1 := hK0.out _ hB_u1
        have HH := Lib.hid hh
        refine hK _ _ (fun _ => hS_u1) ?_
        clear hK K hb hh
        try simp only [Act.put, List.setIfInBounds_toArray, List.set_cons_zero, List.set_cons_succ]
        refine wpAnyL_2 (i := 2) (j := 8) (by kernel_rfl) rfl rfl rfl rfl (fun K hK => ?_) (fun K hK => ?_)
        · skip
          go_simp
          have hba := (Below.refl u1.heap.size u1).alloc (Nat.le_refl _) (.cells #[.int .i64 0, .int .i64 1] 3)
          have hB_u2 := hB_u1.alloc hz_u1 (.cells #[.int .i64 0, .int .i64 1] 3)
          have hz_u2 : w3.heap.size ≤ (u1.alloc (.cells #[.int .i64 0, .int .i64 1] 3)).heap.size := by simp; omega
          have hS_u2 := hK0.out _ hB_u2
          have HL : Hid (Sl (fun _ => False) (u1.alloc (.cells #[.int .i64 0, .int .i64 1] 3)) (some ⟨u1.heap.size, 0, none⟩) 2 ([0, 1] : List Int)) := litl (xs := [0, 1]) rfl rfl (by decide) rfl (by decide) id
          have HH := Lib.hid (HH.out.below hba)
          refine hK _ _ (fun _ => hS_u2) ?_
          clear hK K hba
          generalize hgg : u1.alloc (.cells #[.int .i64 0, .int .i64 1] 3) = u2 at *
          clear hgg
          try simp only [Act.put, List.setIfInBounds_toArray, List.set_cons_zero, List.set_cons_succ]
          refine wpAnyL_2 (i := 3) (j := 8) (by kernel_rfl) rfl rfl rfl rfl (fun K hK => ?_) (fun K hK => ?_)
          · skip
            go_simp
            refine (find_any (x := ⟨oneH, obB, [0, 1]⟩) HH.out (HO.out.below hB_u2) HL.out lensB).mono ?_
            rintro e u3 ⟨⟨a1, c1, l1, a2, c2, l2, sy, a3, c3, l3, er, rfl, hres, hp1, hp2, hp3⟩, hb⟩
            obtain ⟨rfl, rfl, rfl, rfl, rfl⟩ := res_eq hres fB
            have hB_u3 := hB_u2.trans (hb.mono hz_u2)
            have hz_u3 : w3.heap.size ≤ u3.heap.size := by have := hb.size; omega
            have hS_u3 := hK0.out _ hB_u3
            have HP1 := Lib.hid (hp1.anti (M' := fun k => k < w3.heap.size) (fun k _ hk => Nat.lt_of_lt_of_le hk hz_u2))
            have HP2 := Lib.hid (hp2.anti (M' := fun k => k < w3.heap.size) (fun k _ hk => Nat.lt_of_lt_of_le hk hz_u2))
            refine hK _ _ (fun _ => hS_u3) ?_
            clear hK K hb hres hp1 hp2 hp3
            try simp only [Act.put, List.setIfInBounds_toArray, List.set_cons_zero, List.set_cons_succ]
            refine wpAnyL_take (i := 4) (v := ?v51) rfl (by kernel_rfl) (by kernel_rfl) (by kernel_rfl) (by kernel_rfl) (fun _ _ _ h => h) (Or.inl ⟨by rfl, ?y51⟩) (by assumption) ?r51
            case y51 => (intro w' hSw; (try dsimp only at hSw); go_simp; try with_reducible rfl)
            try simp only [Act.put, List.setIfInBounds_toArray, List.set_cons_zero, List.set_cons_succ]
            refine wpAnyL_take (i := 5) (v := ?v52) rfl (by kernel_rfl) (by kernel_rfl) (by kernel_rfl) (by kernel_rfl) (fun _ _ _ h => h) (Or.inl ⟨by rfl, ?y52⟩) (by assumption) ?r52
            case y52 => (intro w' hSw; (try dsimp only at hSw); go_simp; try with_reducible rfl)
            try simp only [Act.put, List.setIfInBounds_toArray, List.set_cons_zero, List.set_cons_succ]
            refine wpAnyL_take (i := 6) (v := ?v53) rfl (by kernel_rfl) (by kernel_rfl) (by kernel_rfl) (by kernel_rfl) (fun _ _ _ h => h) (Or.inl ⟨by rfl, ?y53⟩) (by assumption) ?r53
            case y53 => (intro w' hSw; (try dsimp only at hSw); go_simp; try with_reducible rfl)
            try simp only [Act.put, List.setIfInBounds_toArray, List.set_cons_zero, List.set_cons_succ]
            refine wpAnyL_take (i := 7) (v := ?v54) rfl (by kernel_rfl) (by kernel_rfl) (by kernel_rfl) (by kernel_rfl) (fun _ _ _ h => h) (Or.inl ⟨by rfl, ?y54⟩) (by assumption) ?r54
            case y54 => (intro w' hSw; (try dsimp only at hSw); go_simp; try with_reducible rfl)
            try simp only [Act.put, List.setIfInBounds_toArray, List.set_cons_zero, List.set_cons_succ]
            refine wpAnyL_one (i := 8) (by kernel_rfl) rfl rfl (fun K hK => ?_)
            go_simp
            have hba := (Below.refl u3.heap.size u3).alloc (Nat.le_refl _) zeS
            have hB_u4 := hB_u3.alloc hz_u3 zeS
            have hz_u4 : w3.heap.size ≤ (u3.alloc zeS).heap.size := by simp; omega
            have hS_u4 := hK0.out _ hB_u4
            obtain ⟨q, hq⟩ : ∃ q, q = u3.heap.size := ⟨_, rfl⟩
            have HQ := heap_alloc_new u3 zeS
            rw [← hq] at HQ
            have HQ := Lib.hid HQ
            have hqz : w3.heap.size ≤ q := by omega
            have hql : q < (u3.alloc zeS).heap.size := by simp; omega
            have hF := Lib.hid hba
            have hqf := Lib.hid (Nat.le_of_eq hq.symm)
            refine hK _ _ (fun _ => hS_u4) ?_
            clear hK K hba
            (try rw [← hq])
            clear hq
            generalize hgg : u3.alloc zeS = u4 at *
            clear hgg
            try simp only [Act.put, List.setIfInBounds_toArray, List.set_cons_zero, List.set_cons_succ]
            obtain ⟨⟨k0, k1, k2⟩, kf⟩ := cells3 HQ.out
            have hBz := bel_st3 (g := q) (y0 := .slice a1 0 c1) (y1 := .int .i64 0) (y2 := .slice a2 1 c2) hB_u4 hqz
            have hRz := Lib.hid (set3 (y0 := .slice a1 0 c1) (y1 := .int .i64 0) (y2 := .slice a2 1 c2) HQ.out)
            have hSz := hK0.out _ hBz
            have HP1z := Lib.hid (HP1.out.below (bel_st3 (g := q) (y0 := .slice a1 0 c1) (y1 := .int .i64 0) (y2 := .slice a2 1 c2) hF.out hqf.out))
            have HP2z := Lib.hid (HP2.out.below (bel_st3 (g := q) (y0 := .slice a1 0 c1) (y1 := .int .i64 0) (y2 := .slice a2 1 c2) hF.out hqf.out))
            refine wpAnyL_one (i := 9) (by kernel_rfl) rfl rfl (fun K hK => ?_)
            go_simp
            refine hK _ _ (fun _ => hSz) ?_
            clear hK K k0 k1 k2 kf
            try simp only [Act.put, List.setIfInBounds_toArray, List.set_cons_zero, List.set_cons_succ]
            refine wpAnyL_take (i := 10) (v := ?v55) rfl (by kernel_rfl) (by kernel_rfl) (by kernel_rfl) (by kernel_rfl) (fun _ _ _ h => h) (Or.inl ⟨by rfl, ?y55⟩) (by assumption) ?r55
            case y55 => (intro w' hSw; (try dsimp only at hSw); go_simp; try with_reducible rfl)
            try simp only [Act.put, List.setIfInBounds_toArray, List.set_cons_zero, List.set_cons_succ]
            refine wpAnyL_take (i := 11) (v := ?v56) rfl (by kernel_rfl) (by kernel_rfl) (by kernel_rfl) (by kernel_rfl) (fun _ _ _ h => h) (Or.inl ⟨by rfl, ?y56⟩) (by assumption) ?r56
            case y56 => (intro w' hSw; (try dsimp only at hSw); go_simp; try with_reducible rfl)
            try simp only [Act.put, List.setIfInBounds_toArray, List.set_cons_zero, List.set_cons_succ]
            refine wpAnyL_done (by kernel_rfl) ?_ _
            go_wp2
            go_meet
            exact ⟨q, a1, c1, a2, c2, a3, c3, rfl, rfl, rfl, hqz, hRz, HP1z, HP2z, hBz⟩
          · skip
            go_simp
            have hba := (Below.refl u2.heap.size u2).alloc (Nat.le_refl _) zeS
            have hB_u3 := hB_u2.alloc hz_u2 zeS
            have hz_u3 : w3.heap.size ≤ (u2.alloc zeS).heap.size := by simp; omega
            have hS_u3 := hK0.out _ hB_u3
            obtain ⟨q, hq⟩ : ∃ q, q = u2.heap.size := ⟨_, rfl⟩
            have HQ := heap_alloc_new u2 zeS
            rw [← hq] at HQ
            have HQ := Lib.hid HQ
            have hqz : w3.heap.size ≤ q := by omega
            have hql : q < (u2.alloc zeS).heap.size := by simp; omega
            have HH := Lib.hid (HH.out.below hba)
            have HL := Lib.hid (HL.out.below hba)
            refine hK _ _ (fun _ => hS_u3) ?_
            clear hK K hba
            (try rw [← hq])
            clear hq
            generalize hgg : u2.alloc zeS = u3 at *
            clear hgg
            try simp only [Act.put, List.setIfInBounds_toArray, List.set_cons_zero, List.set_cons_succ]
            refine wpAnyL_one (i := 3) (by kernel_rfl) rfl rfl (fun K hK => ?_)
            go_simp
            refine (find_any (x := ⟨oneH, obB, [0, 1]⟩) HH.out (HO.out.below hB_u3) HL.out lensB).mono ?_
            rintro e u4 ⟨⟨a1, c1, l1, a2, c2, l2, sy, a3, c3, l3, er, rfl, hres, hp1, hp2, hp3⟩, hb⟩
            obtain ⟨rfl, rfl, rfl, rfl, rfl⟩ := res_eq hres fB
            have hB_u4 := hB_u3.trans (hb.mono hz_u3)
            have hz_u4 : w3.heap.size ≤ u4.heap.size := by have := hb.size; omega
            have hS_u4 := hK0.out _ hB_u4
            have HQ := Lib.hid ((hb.block q hql).trans HQ.out)
            have HP1 := Lib.hid (hp1.anti (M' := fun k => k < q + 1) (fun k _ hk => by omega))
            have HP2 := Lib.hid (hp2.anti (M' := fun k => k < q + 1) (fun k _ hk => by omega))
            have hql : q < u4.heap.size := Nat.lt_of_lt_of_le hql hb.size
            refine hK _ _ (fun _ => hS_u4) ?_
            clear hK K hb hres hp1 hp2 hp3
            try simp only [Act.put, List.setIfInBounds_toArray, List.set_cons_zero, List.set_cons_succ]
            refine wpAnyL_take (i := 4) (v := ?v57) rfl (by kernel_rfl) (by kernel_rfl) (by kernel_rfl) (by kernel_rfl) (fun _ _ _ h => h) (Or.inl ⟨by rfl, ?y57⟩) (by assumption) ?r57
            case y57 => (intro w' hSw; (try dsimp only at hSw); go_simp; try with_reducible rfl)
            try simp only [Act.put, List.setIfInBounds_toArray, List.set_cons_zero, List.set_cons_succ]
            refine wpAnyL_take (i := 5) (v := ?v58) rfl (by kernel_rfl) (by kernel_rfl) (by kernel_rfl) (by kernel_rfl) (fun _ _ _ h => h) (Or.inl ⟨by rfl, ?y58⟩) (by assumption) ?r58
            case y58 => (intro w' hSw; (try dsimp only at hSw); go_simp; try with_reducible rfl)
            try simp only [Act.put, List.setIfInBounds_toArray, List.set_cons_zero, List.set_cons_succ]
            refine wpAnyL_take (i := 6) (v := ?v59) rfl (by kernel_rfl) (by kernel_rfl) (by kernel_rfl) (by kernel_rfl) (fun _ _ _ h => h) (Or.inl ⟨by rfl, ?y59⟩) (by assumption) ?r59
            case y59 => (intro w' hSw; (try dsimp only at hSw); go_simp; try with_reducible rfl)
            try simp only [Act.put, List.setIfInBounds_toArray, List.set_cons_zero, List.set_cons_succ]
            refine wpAnyL_take (i := 7) (v := ?v60) rfl (by kernel_rfl) (by kernel_rfl) (by kernel_rfl) (by kernel_rfl) (fun _ _ _ h => h) (Or.inl ⟨by rfl, ?y60⟩) (by assumption) ?r60
            case y60 => (intro w' hSw; (try dsimp only at hSw); go_simp; try with_reducible rfl)
            try simp only [Act.put, List.setIfInBounds_toArray, List.set_cons_zero, List.set_cons_succ]
            obtain ⟨⟨k0, k1, k2⟩, kf⟩ := cells3 HQ.out
            have hBz := bel_st3 (g := q) (y0 := .slice a1 0 c1) (y1 := .int .i64 0) (y2 := .slice a2 1 c2) hB_u4 hqz
            have hRz := Lib.hid (set3 (y0 := .slice a1 0 c1) (y1 := .int .i64 0) (y2 := .slice a2 1 c2) HQ.out)
            have hSz := hK0.out _ hBz
            have HP1z := Lib.hid (HP1.out.st3 (g := q) (n := w3.heap.size) (y0 := .slice a1 0 c1) (y1 := .int .i64 0) (y2 := .slice a2 1 c2) (by omega) (by omega))
            have HP2z := Lib.hid (HP2.out.st3 (g := q) (n := w3.heap.size) (y0 := .slice a1 0 c1) (y1 := .int .i64 0) (y2 := .slice a2 1 c2) (by omega) (by omega))
            refine wpAnyL_one (i := 9) (by kernel_rfl) rfl rfl (fun K hK => ?_)
            go_simp
            refine hK _ _ (fun _ => hSz) ?_
            clear hK K k0 k1 k2 kf
            try simp only [Act.put, List.setIfInBounds_toArray, List.set_cons_zero, List.set_cons_succ]
            refine wpAnyL_take (i := 10) (v := ?v61) rfl (by kernel_rfl) (by kernel_rfl) (by kernel_rfl) (by kernel_rfl) (fun _ _ _ h => h) (Or.inl ⟨by rfl, ?y61⟩) (by assumption) ?r61
            case y61 => (intro w' hSw; (try dsimp only at hSw); go_simp; try with_reducible rfl)
            try simp only [Act.put, List.setIfInBounds_toArray, List.set_cons_zero, List.set_cons_succ]
            refine wpAnyL_take (i := 11) (v := ?v62) rfl (by kernel_rfl) (by kernel_rfl) (by kernel_rfl) (by kernel_rfl) (fun _ _ _ h => h) (Or.inl ⟨by rfl, ?y62⟩) (by assumption) ?r62
            case y62 => (intro w' hSw; (try dsimp only at hSw); go_simp; try with_reducible rfl)
            try simp only [Act.put, List.setIfInBounds_toArray, List.set_cons_zero, List.set_cons_succ]
            refine wpAnyL_done (by kernel_rfl) ?_ _
            go_wp2
            go_meet
            exact ⟨q, a1, c1, a2, c2, a3, c3, rfl, rfl, rfl, hqz, hRz, HP1z, HP2z, hBz⟩
        · skip
          go_simp
          have hba := (Below.refl u1.heap.size u1).alloc (Nat.le_refl _) zeS
          have hB_u2 := hB_u1.alloc hz_u1 zeS
          have hz_u2 : w3.heap.size ≤ (u1.alloc zeS).heap.size := by simp; omega
          have hS_u2 := hK0.out _ hB_u2
          obtain ⟨q, hq⟩ : ∃ q, q = u1.heap.size := ⟨_, rfl⟩
          have HQ := heap_alloc_new u1 zeS
          rw [← hq] at HQ
          have HQ := Lib.hid HQ
          have hqz : w3.heap.size ≤ q := by omega
          have hql : q < (u1.alloc zeS).heap.size := by simp; omega
          have HH := Lib.hid (HH.out.below hba)
          refine hK _ _ (fun _ => hS_u2) ?_
          clear hK K hba
          (try rw [← hq])
          clear hq
          generalize hgg : u1.alloc zeS = u2 at *
          clear hgg
          try simp only [Act.put, List.setIfInBounds_toArray, List.set_cons_zero, List.set_cons_succ]
          refine wpAnyL_one (i := 2) (by kernel_rfl) rfl rfl (fun K hK => ?_)
          go_simp
          have hba := (Below.refl u2.heap.size u2).alloc (Nat.le_refl _) (.cells #[.int .i64 0, .int .i64 1] 3)
          have hB_u3 := hB_u2.alloc hz_u2 (.cells #[.int .i64 0, .int .i64 1] 3)
          have hz_u3 : w3.heap.size ≤ (u2.alloc (.cells #[.int .i64 0, .int .i64 1] 3)).heap.size := by simp; omega
          have hS_u3 := hK0.out _ hB_u3
          have HL : Hid (Sl (fun _ => False) (u2.alloc (.cells #[.int .i64 0, .int .i64 1] 3)) (some ⟨u2.heap.size, 0, none⟩) 2 ([0, 1] : List Int)) := litl (xs := [0, 1]) rfl rfl (by decide) rfl (by decide) id
          have HH := Lib.hid (HH.out.below hba)
          have HQ := Lib.hid ((hba.block q hql).trans HQ.out)
          have hql : q < (u2.alloc (.cells #[.int .i64 0, .int .i64 1] 3)).heap.size := Nat.lt_of_lt_of_le hql hba.size
          refine hK _ _ (fun _ => hS_u3) ?_
          clear hK K hba
          generalize hgg : u2.alloc (.cells #[.int .i64 0, .int .i64 1] 3) = u3 at *
          clear hgg
          try simp only [Act.put, List.setIfInBounds_toArray, List.set_cons_zero, List.set_cons_succ]
          refine wpAnyL_one (i := 3) (by kernel_rfl) rfl rfl (fun K hK => ?_)
          go_simp
          refine (find_any (x := ⟨oneH, obB, [0, 1]⟩) HH.out (HO.out.below hB_u3) HL.out lensB).mono ?_
          rintro e u4 ⟨⟨a1, c1, l1, a2, c2, l2, sy, a3, c3, l3, er, rfl, hres, hp1, hp2, hp3⟩, hb⟩
          obtain ⟨rfl, rfl, rfl, rfl, rfl⟩ := res_eq hres fB
          have hB_u4 := hB_u3.trans (hb.mono hz_u3)
          have hz_u4 : w3.heap.size ≤ u4.heap.size := by have := hb.size; omega
          have hS_u4 := hK0.out _ hB_u4
          have HQ := Lib.hid ((hb.block q hql).trans HQ.out)
          have HP1 := Lib.hid (hp1.anti (M' := fun k => k < q + 1) (fun k _ hk => by omega))
          have HP2 := Lib.hid (hp2.anti (M' := fun k => k < q + 1) (fun k _ hk => by omega))
          have hql : q < u4.heap.size := Nat.lt_of_lt_of_le hql hb.size
          refine hK _ _ (fun _ => hS_u4) ?_
          clear hK K hb hres hp1 hp2 hp3
          try simp only [Act.put, List.setIfInBounds_toArray, List.set_cons_zero, List.set_cons_succ]
          refine wpAnyL_take (i := 4) (v := ?v63) rfl (by kernel_rfl) (by kernel_rfl) (by kernel_rfl) (by kernel_rfl) (fun _ _ _ h => h) (Or.inl ⟨by rfl, ?y63⟩) (by assumption) ?r63
          case y63 => (intro w' hSw; (try dsimp only at hSw); go_simp; try with_reducible rfl)
          try simp only [Act.put, List.setIfInBounds_toArray, List.set_cons_zero, List.set_cons_succ]
          refine wpAnyL_take (i := 5) (v := ?v64) rfl (by kernel_rfl) (by kernel_rfl) (by kernel_rfl) (by kernel_rfl) (fun _ _ _ h => h) (Or.inl ⟨by rfl, ?y64⟩) (by assumption) ?r64
          case y64 => (intro w' hSw; (try dsimp only at hSw); go_simp; try with_reducible rfl)
          try simp only [Act.put, List.setIfInBounds_toArray, List.set_cons_zero, List.set_cons_succ]
          refine wpAnyL_take (i := 6) (v := ?v65) rfl (by kernel_rfl) (by kernel_rfl) (by kernel_rfl) (by kernel_rfl) (fun _ _ _ h => h) (Or.inl ⟨by rfl, ?y65⟩) (by assumption) ?r65
          case y65 => (intro w' hSw; (try dsimp only at hSw); go_simp; try with_reducible rfl)
          try simp only [Act.put, List.setIfInBounds_toArray, List.set_cons_zero, List.set_cons_succ]
          refine wpAnyL_take (i := 7) (v := ?v66) rfl (by kernel_rfl) (by kernel_rfl) (by kernel_rfl) (by kernel_rfl) (fun _ _ _ h => h) (Or.inl ⟨by rfl, ?y66⟩) (by assumption) ?r66
          case y66 => (intro w' hSw; (try dsimp only at hSw); go_simp; try with_reducible rfl)
          try simp only [Act.put, List.setIfInBounds_toArray, List.set_cons_zero, List.set_cons_succ]
          obtain ⟨⟨k0, k1, k2⟩, kf⟩ := cells3 HQ.out
          have hBz := bel_st3 (g := q) (y0 := .slice a1 0 c1) (y1 := .int .i64 0) (y2 := .slice a2 1 c2) hB_u4 hqz
          have hRz := Lib.hid (set3 (y0 := .slice a1 0 c1) (y1 := .int .i64 0) (y2 := .slice a2 1 c2) HQ.out)
          have hSz := hK0.out _ hBz
          have HP1z := Lib.hid (HP1.out.st3 (g := q) (n := w3.heap.size) (y0 := .slice a1 0 c1) (y1 := .int .i64 0) (y2 := .slice a2 1 c2) (by omega) (by omega))
          have HP2z := Lib.hid (HP2.out.st3 (g := q) (n := w3.heap.size) (y0 := .slice a1 0 c1) (y1 := .int .i64 0) (y2 := .slice a2 1 c2) (by omega) (by omega))
          refine wpAnyL_one (i := 9) (by kernel_rfl) rfl rfl (fun K hK => ?_)
          go_simp
          refine hK _ _ (fun _ => hSz) ?_
          clear hK K k0 k1 k2 kf
          try simp only [Act.put, List.setIfInBounds_toArray, List.set_cons_zero, List.set_cons_succ]
          refine wpAnyL_take (i := 10) (v := ?v67) rfl (by kernel_rfl) (by kernel_rfl) (by kernel_rfl) (by kernel_rfl) (fun _ _ _ h => h) (Or.inl ⟨by rfl, ?y67⟩) (by assumption) ?r67
          case y67 => (intro w' hSw; (try dsimp only at hSw); go_simp; try with_reducible rfl)
          try simp only [Act.put, List.setIfInBounds_toArray, List.set_cons_zero, List.set_cons_succ]
          refine wpAnyL_take (i := 11) (v := ?v68) rfl (by kernel_rfl) (by kernel_rfl) (by kernel_rfl) (by kernel_rfl) (fun _ _ _ h => h) (Or.inl ⟨by rfl, ?y68⟩) (by assumption) ?r68
          case y68 => (intro w' hSw; (try dsimp only at hSw); go_simp; try with_reducible rfl)
          try simp only [Act.put, List.setIfInBounds_toArray, List.set_cons_zero, List.set_cons_succ]
          refine wpAnyL_done (by kernel_rfl) ?_ _
          go_wp2
          go_meet
          exact ⟨q, a1, c1, a2, c2, a3, c3, rfl, rfl, rfl, hqz, hRz, HP1z, HP2z, hBz⟩
      · skip
        go_simp
        have hba := (Below.refl u0.heap.size u0).alloc (Nat.le_refl _) (.cells #[.int .i64 0, .int .i64 1] 3)
        have hB_u1 := hB_u0.alloc hz_u0 (.cells #[.int .i64 0, .int .i64 1] 3)
        have hz_u1 : w3.heap.size ≤ (u0.alloc (.cells #[.int .i64 0, .int .i64 1] 3)).heap.size := by simp; omega
        have hS_u1 := hK0.out _ hB_u1
        have HL : Hid (Sl (fun _ => False) (u0.alloc (.cells #[.int .i64 0, .int .i64 1] 3)) (some ⟨u0.heap.size, 0, none⟩) 2 ([0, 1] : List Int)) := litl (xs := [0, 1]) rfl rfl (by decide) rfl (by decide) id
        refine hK _ _ (fun _ => hS_u1) ?_
        clear hK K hba
        generalize hgg : u0.alloc (.cells #[.int .i64 0, .int .i64 1] 3) = u1 at *
        clear hgg
        try simp only [Act.put, List.setIfInBounds_toArray, List.set_cons_zero, List.set_cons_succ]
        refine wpAnyL_2 (i := 0) (j := 8) (by kernel_rfl) rfl rfl rfl rfl (fun K hK => ?_) (fun K hK => ?_)
        · skip
          go_simp
          refine (one_any).mono ?_
          rintro e u2 ⟨an, cn, ao, co, ac, cc, rfl, hh, hb⟩
          have hB_u2 := hB_u1.trans (hb.mono hz_u1)
          have hz_u2 : w3.heap.size ≤ u2.heap.size := by have := hb.size; omega
          have hS_u2 := hK0.out _ hB_u2
          have HH := Lib.hid hh
          have HL := Lib.hid (HL.out.below hb)
          refine hK _ _ (fun _ => hS_u2) ?_
          clear hK K hb hh
          try simp only [Act.put, List.setIfInBounds_toArray, List.set_cons_zero, List.set_cons_succ]
          refine wpAnyL_2 (i := 3) (j := 8) (by kernel_rfl) rfl rfl rfl rfl (fun K hK => ?_) (fun K hK => ?_)
          · skip
            go_simp
            refine (find_any (x := ⟨oneH, obB, [0, 1]⟩) HH.out (HO.out.below hB_u2) HL.out lensB).mono ?_
            rintro e u3 ⟨⟨a1, c1, l1, a2, c2, l2, sy, a3, c3, l3, er, rfl, hres, hp1, hp2, hp3⟩, hb⟩
            obtain ⟨rfl, rfl, rfl, rfl, rfl⟩ := res_eq hres fB
            have hB_u3 := hB_u2.trans (hb.mono hz_u2)
            have hz_u3 : w3.heap.size ≤ u3.heap.size := by have := hb.size; omega
            have hS_u3 := hK0.out _ hB_u3
            have HP1 := Lib.hid (hp1.anti (M' := fun k => k < w3.heap.size) (fun k _ hk => Nat.lt_of_lt_of_le hk hz_u2))
            have HP2 := Lib.hid (hp2.anti (M' := fun k => k < w3.heap.size) (fun k _ hk => Nat.lt_of_lt_of_le hk hz_u2))
            refine hK _ _ (fun _ => hS_u3) ?_
            clear hK K hb hres hp1 hp2 hp3
            try simp only [Act.put, List.setIfInBounds_toArray, List.set_cons_zero, List.set_cons_succ]
            refine wpAnyL_take (i := 4) (v := ?v69) rfl (by kernel_rfl) (by kernel_rfl) (by kernel_rfl) (by kernel_rfl) (fun _ _ _ h => h) (Or.inl ⟨by rfl, ?y69⟩) (by assumption) ?r69
            case y69 => (intro w' hSw; (try dsimp only at hSw); go_simp; try with_reducible rfl)
            try simp only [Act.put, List.setIfInBounds_toArray, List.set_cons_zero, List.set_cons_succ]
            refine wpAnyL_take (i := 5) (v := ?v70) rfl (by kernel_rfl) (by kernel_rfl) (by kernel_rfl) (by kernel_rfl) (fun _ _ _ h => h) (Or.inl ⟨by rfl, ?y70⟩) (by assumption) ?r70
            case y70 => (intro w' hSw; (try dsimp only at hSw); go_simp; try with_reducible rfl)
            try simp only [Act.put, List.setIfInBounds_toArray, List.set_cons_zero, List.set_cons_succ]
            refine wpAnyL_take (i := 6) (v := ?v71) rfl (by kernel_rfl) (by kernel_rfl) (by kernel_rfl) (by kernel_rfl) (fun _ _ _ h => h) (Or.inl ⟨by rfl, ?y71⟩) (by assumption) ?r71
            case y71 => (intro w' hSw; (try dsimp only at hSw); go_simp; try with_reducible rfl)
            try simp only [Act.put, List.setIfInBounds_toArray, List.set_cons_zero, List.set_cons_succ]
            refine wpAnyL_take (i := 7) (v := ?v72) rfl (by kernel_rfl) (by kernel_rfl) (by kernel_rfl) (by kernel_rfl) (fun _ _ _ h => h) (Or.inl ⟨by rfl, ?y72⟩) (by assumption) ?r72
            case y72 => (intro w' hSw; (try dsimp only at hSw); go_simp; try with_reducible rfl)
            try simp only [Act.put, List.setIfInBounds_toArray, List.set_cons_zero, List.set_cons_succ]
            refine wpAnyL_one (i := 8) (by kernel_rfl) rfl rfl (fun K hK => ?_)
            go_simp
            have hba := (Below.refl u3.heap.size u3).alloc (Nat.le_refl _) zeS
            have hB_u4 := hB_u3.alloc hz_u3 zeS
            have hz_u4 : w3.heap.size ≤ (u3.alloc zeS).heap.size := by simp; omega
            have hS_u4 := hK0.out _ hB_u4
            obtain ⟨q, hq⟩ : ∃ q, q = u3.heap.size := ⟨_, rfl⟩
            have HQ := heap_alloc_new u3 zeS
            rw [← hq] at HQ
            have HQ := Lib.hid HQ
            have hqz : w3.heap.size ≤ q := by omega
            have hql : q < (u3.alloc zeS).heap.size := by simp; omega
            have hF := Lib.hid hba
            have hqf := Lib.hid (Nat.le_of_eq hq.symm)
            refine hK _ _ (fun _ => hS_u4) ?_
            clear hK K hba
            (try rw [← hq])
            clear hq
            generalize hgg : u3.alloc zeS = u4 at *
            clear hgg
            try simp only [Act.put, List.setIfInBounds_toArray, List.set_cons_zero, List.set_cons_succ]
            obtain ⟨⟨k0, k1, k2⟩, kf⟩ := cells3 HQ.out
            have hBz := bel_st3 (g := q) (y0 := .slice a1 0 c1) (y1 := .int .i64 0) (y2 := .slice a2 1 c2) hB_u4 hqz
            have hRz := Lib.hid (set3 (y0 := .slice a1 0 c1) (y1 := .int .i64 0) (y2 := .slice a2 1 c2) HQ.out)
            have hSz := hK0.out _ hBz
            have HP1z := Lib.hid (HP1.out.below (bel_st3 (g := q) (y0 := .slice a1 0 c1) (y1 := .int .i64 0) (y2 := .slice a2 1 c2) hF.out hqf.out))
            have HP2z := Lib.hid (HP2.out.below (bel_st3 (g := q) (y0 := .slice a1 0 c1) (y1 := .int .i64 0) (y2 := .slice a2 1 c2) hF.out hqf.out))
            refine wpAnyL_one (i := 9) (by kernel_rfl) rfl rfl (fun K hK => ?_)
            go_simp
            refine hK _ _ (fun _ => hSz) ?_
            clear hK K k0 k1 k2 kf
            try simp only [Act.put, List.setIfInBounds_toArray, List.set_cons_zero, List.set_cons_succ]
            refine wpAnyL_take (i := 10) (v := ?v73) rfl (by kernel_rfl) (by kernel_rfl) (by kernel_rfl) (by kernel_rfl) (fun _ _ _ h => h) (Or.inl ⟨by rfl, ?y73⟩) (by assumption) ?r73
            case y73 => (intro w' hSw; (try dsimp only at hSw); go_simp; try with_reducible rfl)
            try simp only [Act.put, List.setIfInBounds_toArray, List.set_cons_zero, List.set_cons_succ]
            refine wpAnyL_take (i := 11) (v := ?v74) rfl (by kernel_rfl) (by kernel_rfl) (by kernel_rfl) (by kernel_rfl) (fun _ _ _ h => h) (Or.inl ⟨by rfl, ?y74⟩) (by assumption) ?r74
            case y74 => (intro w' hSw; (try dsimp only at hSw); go_simp; try with_reducible rfl)
            try simp only [Act.put, List.setIfInBounds_toArray, List.set_cons_zero, List.set_cons_succ]
            refine wpAnyL_done (by kernel_rfl) ?_ _
            go_wp2
            go_meet
            exact ⟨q, a1, c1, a2, c2, a3, c3, rfl, rfl, rfl, hqz, hRz, HP1z, HP2z, hBz⟩
          · skip
            go_simp
            have hba := (Below.refl u2.heap.size u2).alloc (Nat.le_refl _) zeS
            have hB_u3 := hB_u2.alloc hz_u2 zeS
            have hz_u3 : w3.heap.size ≤ (u2.alloc zeS).heap.size := by simp; omega
            have hS_u3 := hK0.out _ hB_u3
            obtain ⟨q, hq⟩ : ∃ q, q = u2.heap.size := ⟨_, rfl⟩
            have HQ := heap_alloc_new u2 zeS
            rw [← hq] at HQ
            have HQ := Lib.hid HQ
            have hqz : w3.heap.size ≤ q := by omega
            have hql : q < (u2.alloc zeS).heap.size := by simp; omega
            have HH := Lib.hid (HH.out.below hba)
            have HL := Lib.hid (HL.out.below hba)
            refine hK _ _ (fun _ => hS_u3) ?_
            clear hK K hba
            (try rw [← hq])
            clear hq
            generalize hgg : u2.alloc zeS = u3 at *
            clear hgg
            try simp only [Act.put, List.setIfInBounds_toArray, List.set_cons_zero, List.set_cons_succ]
            refine wpAnyL_one (i := 3) (by kernel_rfl) rfl rfl (fun K hK => ?_)
            go_simp
            refine (find_any (x := ⟨oneH, obB, [0, 1]⟩) HH.out (HO.out.below hB_u3) HL.out lensB).mono ?_
            rintro e u4 ⟨⟨a1, c1, l1, a2, c2, l2, sy, a3, c3, l3, er, rfl, hres, hp1, hp2, hp3⟩, hb⟩
            obtain ⟨rfl, rfl, rfl, rfl, rfl⟩ := res_eq hres fB
            have hB_u4 := hB_u3.trans (hb.mono hz_u3)
            have hz_u4 : w3.heap.size ≤ u4.heap.size := by have := hb.size; omega
            have hS_u4 := hK0.out _ hB_u4
            have HQ := Lib.hid ((hb.block q hql).trans HQ.out)
            have HP1 := Lib.hid (hp1.anti (M' := fun k => k < q + 1) (fun k _ hk => by omega))
            have HP2 := Lib.hid (hp2.anti (M' := fun k => k < q + 1) (fun k _ hk => by omega))
            have hql : q < u4.heap.size := Nat.lt_of_lt_of_le hql hb.size
            refine hK _ _ (fun _ => hS_u4) ?_
            clear hK K hb hres hp1 hp2 hp3
            try simp only [Act.put, List.setIfInBounds_toArray, List.set_cons_zero, List.set_cons_succ]
            refine wpAnyL_take (i := 4) (v := ?v75) rfl (by kernel_rfl) (by kernel_rfl) (by kernel_rfl) (by kernel_rfl) (fun _ _ _ h => h) (Or.inl ⟨by rfl, ?y75⟩) (by assumption) ?r75
            case y75 => (intro w' hSw; (try dsimp only at hSw); go_simp; try with_reducible rfl)
            try simp only [Act.put, List.setIfInBounds_toArray, List.set_cons_zero, List.set_cons_succ]
            refine wpAnyL_take (i := 5) (v := ?v76) rfl (by kernel_rfl) (by kernel_rfl) (by kernel_rfl) (by kernel_rfl) (fun _ _ _ h => h) (Or.inl ⟨by rfl, ?y76⟩) (by assumption) ?r76
            case y76 => (intro w' hSw; (try dsimp only at hSw); go_simp; try with_reducible rfl)
            try simp only [Act.put, List.setIfInBounds_toArray, List.set_cons_zero, List.set_cons_succ]
            refine wpAnyL_take (i := 6) (v := ?v77) rfl (by kernel_rfl) (by kernel_rfl) (by kernel_rfl) (by kernel_rfl) (fun _ _ _ h => h) (Or.inl ⟨by rfl, ?y77⟩) (by assumption) ?r77
            case y77 => (intro w' hSw; (try dsimp only at hSw); go_simp; try with_reducible rfl)
            try simp only [Act.put, List.setIfInBounds_toArray, List.set_cons_zero, List.set_cons_succ]
            refine wpAnyL_take (i := 7) (v := ?v78) rfl (by kernel_rfl) (by kernel_rfl) (by kernel_rfl) (by kernel_rfl) (fun _ _ _ h => h) (Or.inl ⟨by rfl, ?y78⟩) (by assumption) ?r78
            case y78 => (intro w' hSw; (try dsimp only at hSw); go_simp; try with_reducible rfl)
            try simp only [Act.put, List.setIfInBounds_toArray, List.set_cons_zero, List.set_cons_succ]
            obtain ⟨⟨k0, k1, k2⟩, kf⟩ := cells3 HQ.out
            have hBz := bel_st3 (g := q) (y0 := .slice a1 0 c1) (y1 := .int .i64 0) (y2 := .slice a2 1 c2) hB_u4 hqz
            have hRz := Lib.hid (set3 (y0 := .slice a1 0 c1) (y1 := .int .i64 0) (y2 := .slice a2 1 c2) HQ.out)
            have hSz := hK0.out _ hBz
            have HP1z := Lib.hid (HP1.out.st3 (g := q) (n := w3.heap.size) (y0 := .slice a1 0 c1) (y1 := .int .i64 0) (y2 := .slice a2 1 c2) (by omega) (by omega))
            have HP2z := Lib.hid (HP2.out.st3 (g := q) (n := w3.heap.size) (y0 := .slice a1 0 c1) (y1 := .int .i64 0) (y2 := .slice a2 1 c2) (by omega) (by omega))
            refine wpAnyL_one (i := 9) (by kernel_rfl) rfl rfl (fun K hK => ?_)
            go_simp
            refine hK _ _ (fun _ => hSz) ?_
            clear hK K k0 k1 k2 kf
            try simp only [Act.put, List.setIfInBounds_toArray, List.set_cons_zero, List.set_cons_succ]
            refine wpAnyL_take (i := 10) (v := ?v79) rfl (by kernel_rfl) (by kernel_rfl) (by kernel_rfl) (by kernel_rfl) (fun _ _ _ h => h) (Or.inl ⟨by rfl, ?y79⟩) (by assumption) ?r79
            case y79 => (intro w' hSw; (try dsimp only at hSw); go_simp; try with_reducible rfl)
            try simp only [Act.put, List.setIfInBounds_toArray, List.set_cons_zero, List.set_cons_succ]
            refine wpAnyL_take (i := 11) (v := ?v80) rfl (by kernel_rfl) (by kernel_rfl) (by kernel_rfl) (by kernel_rfl) (fun _ _ _ h => h) (Or.inl ⟨by rfl, ?y80⟩) (by assumption) ?r80
            case y80 => (intro w' hSw; (try dsimp only at hSw); go_simp; try with_reducible rfl)
            try simp only [Act.put, List.setIfInBounds_toArray, List.set_cons_zero, List.set_cons_succ]
            refine wpAnyL_done (by kernel_rfl) ?_ _
            go_wp2
            go_meet
            exact ⟨q, a1, c1, a2, c2, a3, c3, rfl, rfl, rfl, hqz, hRz, HP1z, HP2z, hBz⟩
        · skip
          go_simp
          have hba := (Below.refl u1.heap.size u1).alloc (Nat.le_refl _) zeS
          have hB_u2 := hB_u1.alloc hz_u1 zeS
          have hz_u2 : w3.heap.size ≤ (u1.alloc zeS).heap.size := by simp; omega
          have hS_u2 := hK0.out _ hB_u2
          obtain ⟨q, hq⟩ : ∃ q, q = u1.heap.size := ⟨_, rfl⟩
          have HQ := heap_alloc_new u1 zeS
          rw [← hq] at HQ
          have HQ := Lib.hid HQ
          have hqz : w3.heap.size ≤ q := by omega
          have hql : q < (u1.alloc zeS).heap.size := by simp; omega
          have HL := Lib.hid (HL.out.below hba)
          refine hK _ _ (fun _ => hS_u2) ?_
          clear hK K hba
          (try rw [← hq])
          clear hq
          generalize hgg : u1.alloc zeS = u2 at *
          clear hgg
          try simp only [Act.put, List.setIfInBounds_toArray, List.set_cons_zero, List.set_cons_succ]
          refine wpAnyL_one (i := 0) (by kernel_rfl) rfl rfl (fun K hK => ?_)
          go_simp
          refine (one_any).mono ?_
          rintro e u3 ⟨an, cn, ao, co, ac, cc, rfl, hh, hb⟩
          have hB_u3 := hB_u2.trans (hb.mono hz_u2)
          have hz_u3 : w3.heap.size ≤ u3.heap.size := by have := hb.size; omega
          have hS_u3 := hK0.out _ hB_u3
          have HH := Lib.hid hh
          have HL := Lib.hid (HL.out.below hb)
          have HQ := Lib.hid ((hb.block q hql).trans HQ.out)
          have hql : q < u3.heap.size := Nat.lt_of_lt_of_le hql hb.size
          refine hK _ _ (fun _ => hS_u3) ?_
          clear hK K hb hh
          try simp only [Act.put, List.setIfInBounds_toArray, List.set_cons_zero, List.set_cons_succ]
          refine wpAnyL_one (i := 3) (by kernel_rfl) rfl rfl (fun K hK => ?_)
          go_simp
          refine (find_any (x := ⟨oneH, obB, [0, 1]⟩) HH.out (HO.out.below hB_u3) HL.out lensB).mono ?_
          rintro e u4 ⟨⟨a1, c1, l1, a2, c2, l2, sy, a3, c3, l3, er, rfl, hres, hp1, hp2, hp3⟩, hb⟩
          obtain ⟨rfl, rfl, rfl, rfl, rfl⟩ := res_eq hres fB
          have hB_u4 := hB_u3.trans (hb.mono hz_u3)
          have hz_u4 : w3.heap.size ≤ u4.heap.size := by have := hb.size; omega
          have hS_u4 := hK0.out _ hB_u4
          have HQ := Lib.hid ((hb.block q hql).trans HQ.out)
          have HP1 := Lib.hid (hp1.anti (M' := fun k => k < q + 1) (fun k _ hk => by omega))
          have HP2 := Lib.hid (hp2.anti (M' := fun k => k < q + 1) (fun k _ hk => by omega))
          have hql : q < u4.heap.size := Nat.lt_of_lt_of_le hql hb.size
          refine hK _ _ (fun _ => hS_u4) ?_
          clear hK K hb hres hp1 hp2 hp3
          try simp only [Act.put, List.setIfInBounds_toArray, List.set_cons_zero, List.set_cons_succ]
          refine wpAnyL_take (i := 4) (v := ?v81) rfl (by kernel_rfl) (by kernel_rfl) (by kernel_rfl) (by kernel_rfl) (fun _ _ _ h => h) (Or.inl ⟨by rfl, ?y81⟩) (by assumption) ?r81
          case y81 => (intro w' hSw; (try dsimp only at hSw); go_simp; try with_reducible rfl)
          try simp only [Act.put, List.setIfInBounds_toArray, List.set_cons_zero, List.set_cons_succ]
          refine wpAnyL_take (i := 5) (v := ?v82) rfl (by kernel_rfl) (by kernel_rfl) (by kernel_rfl) (by kernel_rfl) (fun _ _ _ h => h) (Or.inl ⟨by rfl, ?y82⟩) (by assumption) ?r82
          case y82 => (intro w' hSw; (try dsimp only at hSw); go_simp; try with_reducible rfl)
          try simp only [Act.put, List.setIfInBounds_toArray, List.set_cons_zero, List.set_cons_succ]
          refine wpAnyL_take (i := 6) (v := ?v83) rfl (by kernel_rfl) (by kernel_rfl) (by kernel_rfl) (by kernel_rfl) (fun _ _ _ h => h) (Or.inl ⟨by rfl, ?y83⟩) (by assumption) ?r83
          case y83 => (intro w' hSw; (try dsimp only at hSw); go_simp; try with_reducible rfl)
          try simp only [Act.put, List.setIfInBounds_toArray, List.set_cons_zero, List.set_cons_succ]
          refine wpAnyL_take (i := 7) (v := ?v84) rfl (by kernel_rfl) (by kernel_rfl) (by kernel_rfl) (by kernel_rfl) (fun _ _ _ h => h) (Or.inl ⟨by rfl, ?y84⟩) (by assumption) ?r84
          case y84 => (intro w' hSw; (try dsimp only at hSw); go_simp; try with_reducible rfl)
          try simp only [Act.put, List.setIfInBounds_toArray, List.set_cons_zero, List.set_cons_succ]
          obtain ⟨⟨k0, k1, k2⟩, kf⟩ := cells3 HQ.out
          have hBz := bel_st3 (g := q) (y0 := .slice a1 0 c1) (y1 := .int .i64 0) (y2 := .slice a2 1 c2) hB_u4 hqz
          have hRz := Lib.hid (set3 (y0 := .slice a1 0 c1) (y1 := .int .i64 0) (y2 := .slice a2 1 c2) HQ.out)
          have hSz := hK0.out _ hBz
          have HP1z := Lib.hid (HP1.out.st3 (g := q) (n := w3.heap.size) (y0 := .slice a1 0 c1) (y1 := .int .i64 0) (y2 := .slice a2 1 c2) (by omega) (by omega))
          have HP2z := Lib.hid (HP2.out.st3 (g := q) (n := w3.heap.size) (y0 := .slice a1 0 c1) (y1 := .int .i64 0) (y2 := .slice a2 1 c2) (by omega) (by omega))
          refine wpAnyL_one (i := 9) (by kernel_rfl) rfl rfl (fun K hK => ?_)
          go_simp
          refine hK _ _ (fun _ => hSz) ?_
          clear hK K k0 k1 k2 kf
          try simp only [Act.put, List.setIfInBounds_toArray, List.set_cons_zero, List.set_cons_succ]
          refine wpAnyL_take (i := 10) (v := ?v85) rfl (by kernel_rfl) (by kernel_rfl) (by kernel_rfl) (by kernel_rfl) (fun _ _ _ h => h) (Or.inl ⟨by rfl, ?y85⟩) (by assumption) ?r85
          case y85 => (intro w' hSw; (try dsimp only at hSw); go_simp; try with_reducible rfl)
          try simp only [Act.put, List.setIfInBounds_toArray, List.set_cons_zero, List.set_cons_succ]
          refine wpAnyL_take (i := 11) (v := ?v86) rfl (by kernel_rfl) (by kernel_rfl) (by kernel_rfl) (by kernel_rfl) (fun _ _ _ h => h) (Or.inl ⟨by rfl, ?y86⟩) (by assumption) ?r86
          case y86 => (intro w' hSw; (try dsimp only at hSw); go_simp; try with_reducible rfl)
          try simp only [Act.put, List.setIfInBounds_toArray, List.set_cons_zero, List.set_cons_succ]
          refine wpAnyL_done (by kernel_rfl) ?_ _
          go_wp2
          go_meet
          exact ⟨q, a1, c1, a2, c2, a3, c3, rfl, rfl, rfl, hqz, hRz, HP1z, HP2z, hBz⟩
      · skip
        go_simp
        have hba := (Below.refl u0.heap.size u0).alloc (Nat.le_refl _) zeS
        have hB_u1 := hB_u0.alloc hz_u0 zeS
        have hz_u1 : w3.heap.size ≤ (u0.alloc zeS).heap.size := by simp; omega
        have hS_u1 := hK0.out _ hB_u1
        obtain ⟨q, hq⟩ : ∃ q, q = u0.heap.size := ⟨_, rfl⟩
        have HQ := heap_alloc_new u0 zeS
        rw [← hq] at HQ
        have HQ := Lib.hid HQ
        have hqz : w3.heap.size ≤ q := by omega
        have hql : q < (u0.alloc zeS).heap.size := by simp; omega
        refine hK _ _ (fun _ => hS_u1) ?_
        clear hK K hba
        (try rw [← hq])
        clear hq
        generalize hgg : u0.alloc zeS = u1 at *
        clear hgg
        try simp only [Act.put, List.setIfInBounds_toArray, List.set_cons_zero, List.set_cons_succ]
        refine wpAnyL_2 (i := 0) (j := 2) (by kernel_rfl) rfl rfl rfl rfl (fun K hK => ?_) (fun K hK => ?_)
        · skip
          go_simp
          refine (one_any).mono ?_
          rintro e u2 ⟨an, cn, ao, co, ac, cc, rfl, hh, hb⟩
          have hB_u2 := hB_u1.trans (hb.mono hz_u1)
          have hz_u2 : w3.heap.size ≤ u2.heap.size := by have := hb.size; omega
          have hS_u2 := hK0.out _ hB_u2
          have HH := Lib.hid hh
          have HQ := Lib.hid ((hb.block q hql).trans HQ.out)
          have hql : q < u2.heap.size := Nat.lt_of_lt_of_le hql hb.size
          refine hK _ _ (fun _ => hS_u2) ?_
          clear hK K hb hh
          try simp only [Act.put, List.setIfInBounds_toArray, List.set_cons_zero, List.set_cons_succ]
          refine wpAnyL_one (i := 2) (by kernel_rfl) rfl rfl (fun K hK => ?_)
          go_simp
          have hba := (Below.refl u2.heap.size u2).alloc (Nat.le_refl _) (.cells #[.int .i64 0, .int .i64 1] 3)
          have hB_u3 := hB_u2.alloc hz_u2 (.cells #[.int .i64 0, .int .i64 1] 3)
          have hz_u3 : w3.heap.size ≤ (u2.alloc (.cells #[.int .i64 0, .int .i64 1] 3)).heap.size := by simp; omega
          have hS_u3 := hK0.out _ hB_u3
          have HL : Hid (Sl (fun _ => False) (u2.alloc (.cells #[.int .i64 0, .int .i64 1] 3)) (some ⟨u2.heap.size, 0, none⟩) 2 ([0, 1] : List Int)) := litl (xs := [0, 1]) rfl rfl (by decide) rfl (by decide) id
          have HH := Lib.hid (HH.out.below hba)
          have HQ := Lib.hid ((hba.block q hql).trans HQ.out)
          have hql : q < (u2.alloc (.cells #[.int .i64 0, .int .i64 1] 3)).heap.size := Nat.lt_of_lt_of_le hql hba.size
          refine hK _ _ (fun _ => hS_u3) ?_
          clear hK K hba
          generalize hgg : u2.alloc (.cells #[.int .i64 0, .int .i64 1] 3) = u3 at *
          clear hgg
          try simp only [Act.put, List.setIfInBounds_toArray, List.set_cons_zero, List.set_cons_succ]
          refine wpAnyL_one (i := 3) (by kernel_rfl) rfl rfl (fun K hK => ?_)
          go_simp
          refine (find_any (x := ⟨oneH, obB, [0, 1]⟩) HH.out (HO.out.below hB_u3) HL.out lensB).mono ?_
          rintro e u4 ⟨⟨a1, c1, l1, a2, c2, l2, sy, a3, c3, l3, er, rfl, hres, hp1, hp2, hp3⟩, hb⟩
          obtain ⟨rfl, rfl, rfl, rfl, rfl⟩ := res_eq hres fB
          have hB_u4 := hB_u3.trans (hb.mono hz_u3)
          have hz_u4 : w3.heap.size ≤ u4.heap.size := by have := hb.size; omega
          have hS_u4 := hK0.out _ hB_u4
          have HQ := Lib.hid ((hb.block q hql).trans HQ.out)
          have HP1 := Lib.hid (hp1.anti (M' := fun k => k < q + 1) (fun k _ hk => by omega))
          have HP2 := Lib.hid (hp2.anti (M' := fun k => k < q + 1) (fun k _ hk => by omega))
          have hql : q < u4.heap.size := Nat.lt_of_lt_of_le hql hb.size
          refine hK _ _ (fun _ => hS_u4) ?_
          clear hK K hb hres hp1 hp2 hp3
          try simp only [Act.put, List.setIfInBounds_toArray, List.set_cons_zero, List.set_cons_succ]
          refine wpAnyL_take (i := 4) (v := ?v87) rfl (by kernel_rfl) (by kernel_rfl) (by kernel_rfl) (by kernel_rfl) (fun _ _ _ h => h) (Or.inl ⟨by rfl, ?y87⟩) (by assumption) ?r87
          case y87 => (intro w' hSw; (try dsimp only at hSw); go_simp; try with_reducible rfl)
          try simp only [Act.put, List.setIfInBounds_toArray, List.set_cons_zero, List.set_cons_succ]
          refine wpAnyL_take (i := 5) (v := ?v88) rfl (by kernel_rfl) (by kernel_rfl) (by kernel_rfl) (by kernel_rfl) (fun _ _ _ h => h) (Or.inl ⟨by rfl, ?y88⟩) (by assumption) ?r88
          case y88 => (intro w' hSw; (try dsimp only at hSw); go_simp; try with_reducible rfl)
          try simp only [Act.put, List.setIfInBounds_toArray, List.set_cons_zero, List.set_cons_succ]
          refine wpAnyL_take (i := 6) (v := ?v89) rfl (by kernel_rfl) (by kernel_rfl) (by kernel_rfl) (by kernel_rfl) (fun _ _ _ h => h) (Or.inl ⟨by rfl, ?y89⟩) (by assumption) ?r89
          case y89 => (intro w' hSw; (try dsimp only at hSw); go_simp; try with_reducible rfl)
          try simp only [Act.put, List.setIfInBounds_toArray, List.set_cons_zero, List.set_cons_succ]
          refine wpAnyL_take (i := 7) (v := ?v90) rfl (by kernel_rfl) (by kernel_rfl) (by kernel_rfl) (by kernel_rfl) (fun _ _ _ h => h) (Or.inl ⟨by rfl, ?y90⟩) (by assumption) ?r90
          case y90 => (intro w' hSw; (try dsimp only at hSw); go_simp; try with_reducible rfl)
          try simp only [Act.put, List.setIfInBounds_toArray, List.set_cons_zero, List.set_cons_succ]
          obtain ⟨⟨k0, k1, k2⟩, kf⟩ := cells3 HQ.out
          have hBz := bel_st3 (g := q) (y0 := .slice a1 0 c1) (y1 := .int .i64 0) (y2 := .slice a2 1 c2) hB_u4 hqz
          have hRz := Lib.hid (set3 (y0 := .slice a1 0 c1) (y1 := .int .i64 0) (y2 := .slice a2 1 c2) HQ.out)
          have hSz := hK0.out _ hBz
          have HP1z := Lib.hid (HP1.out.st3 (g := q) (n := w3.heap.size) (y0 := .slice a1 0 c1) (y1 := .int .i64 0) (y2 := .slice a2 1 c2) (by omega) (by omega))
          have HP2z := Lib.hid (HP2.out.st3 (g := q) (n := w3.heap.size) (y0 := .slice a1 0 c1) (y1 := .int .i64 0) (y2 := .slice a2 1 c2) (by omega) (by omega))
          refine wpAnyL_one (i := 9) (by kernel_rfl) rfl rfl (fun K hK => ?_)
          go_simp
          refine hK _ _ (fun _ => hSz) ?_
          clear hK K k0 k1 k2 kf
          try simp only [Act.put, List.setIfInBounds_toArray, List.set_cons_zero, List.set_cons_succ]
          refine wpAnyL_take (i := 10) (v := ?v91) rfl (by kernel_rfl) (by kernel_rfl) (by kernel_rfl) (by kernel_rfl) (fun _ _ _ h => h) (Or.inl ⟨by rfl, ?y91⟩) (by assumption) ?r91
          case y91 => (intro w' hSw; (try dsimp only at hSw); go_simp; try with_reducible rfl)
          try simp only [Act.put, List.setIfInBounds_toArray, List.set_cons_zero, List.set_cons_succ]
          refine wpAnyL_take (i := 11) (v := ?v92) rfl (by kernel_rfl) (by kernel_rfl) (by kernel_rfl) (by kernel_rfl) (fun _ _ _ h => h) (Or.inl ⟨by rfl, ?y92⟩) (by assumption) ?r92
          case y92 => (intro w' hSw; (try dsimp only at hSw); go_simp; try with_reducible rfl)
          try simp only [Act.put, List.setIfInBounds_toArray, List.set_cons_zero, List.set_cons_succ]
          refine wpAnyL_done (by kernel_rfl) ?_ _
          go_wp2
          go_meet
          exact ⟨q, a1, c1, a2, c2, a3, c3, rfl, rfl, rfl, hqz, hRz, HP1z, HP2z, hBz⟩
        · skip
          go_simp
          have hba := (Below.refl u1.heap.size u1).alloc (Nat.le_refl _) (.cells #[.int .i64 0, .int .i64 1] 3)
          have hB_u2 := hB_u1.alloc hz_u1 (.cells #[.int .i64 0, .int .i64 1] 3)
          have hz_u2 : w3.heap.size ≤ (u1.alloc (.cells #[.int .i64 0, .int .i64 1] 3)).heap.size := by simp; omega
          have hS_u2 := hK0.out _ hB_u2
          have HL : Hid (Sl (fun _ => False) (u1.alloc (.cells #[.int .i64 0, .int .i64 1] 3)) (some ⟨u1.heap.size, 0, none⟩) 2 ([0, 1] : List Int)) := litl (xs := [0, 1]) rfl rfl (by decide) rfl (by decide) id
          have HQ := Lib.hid ((hba.block q hql).trans HQ.out)
          have hql : q < (u1.alloc (.cells #[.int .i64 0, .int .i64 1] 3)).heap.size := Nat.lt_of_lt_of_le hql hba.size
          refine hK _ _ (fun _ => hS_u2) ?_
          clear hK K hba
          generalize hgg : u1.alloc (.cells #[.int .i64 0, .int .i64 1] 3) = u2 at *
          clear hgg
          try simp only [Act.put, List.setIfInBounds_toArray, List.set_cons_zero, List.set_cons_succ]
          refine wpAnyL_one (i := 0) (by kernel_rfl) rfl rfl (fun K hK => ?_)
          go_simp
          refine (one_any).mono ?_
          rintro e u3 ⟨an, cn, ao, co, ac, cc, rfl, hh, hb⟩
          have hB_u3 := hB_u2.trans (hb.mono hz_u2)
          have hz_u3 : w3.heap.size ≤ u3.heap.size := by have := hb.size; omega
          have hS_u3 := hK0.out _ hB_u3
          have HH := Lib.hid hh
          have HL := Lib.hid (HL.out.below hb)
          have HQ := Lib.hid ((hb.block q hql).trans HQ.out)
          have hql : q < u3.heap.size := Nat.lt_of_lt_of_le hql hb.size
          refine hK _ _ (fun _ => hS_u3) ?_
          clear hK K hb hh
          try simp only [Act.put, List.setIfInBounds_toArray, List.set_cons_zero, List.set_cons_succ]
          refine wpAnyL_one (i := 3) (by kernel_rfl) rfl rfl (fun K hK => ?_)
          go_simp
          refine (find_any (x := ⟨oneH, obB, [0, 1]⟩) HH.out (HO.out.below hB_u3) HL.out lensB).mono ?_
          rintro e u4 ⟨⟨a1, c1, l1, a2, c2, l2, sy, a3, c3, l3, er, rfl, hres, hp1, hp2, hp3⟩, hb⟩
          obtain ⟨rfl, rfl, rfl, rfl, rfl⟩ := res_eq hres fB
          have hB_u4 := hB_u3.trans (hb.mono hz_u3)
          have hz_u4 : w3.heap.size ≤ u4.heap.size := by have := hb.size; omega
          have hS_u4 := hK0.out _ hB_u4
          have HQ := Lib.hid ((hb.block q hql).trans HQ.out)
          have HP1 := Lib.hid (hp1.anti (M' := fun k => k < q + 1) (fun k _ hk => by omega))
          have HP2 := Lib.hid (hp2.anti (M' := fun k => k < q + 1) (fun k _ hk => by omega))
          have hql : q < u4.heap.size := Nat.lt_of_lt_of_le hql hb.size
          refine hK _ _ (fun _ => hS_u4) ?_
          clear hK K hb hres hp1 hp2 hp3
          try simp only [Act.put, List.setIfInBounds_toArray, List.set_cons_zero, List.set_cons_succ]
          refine wpAnyL_take (i := 4) (v := ?v93) rfl (by kernel_rfl) (by kernel_rfl) (by kernel_rfl) (by kernel_rfl) (fun _ _ _ h => h) (Or.inl ⟨by rfl, ?y93⟩) (by assumption) ?r93
          case y93 => (intro w' hSw; (try dsimp only at hSw); go_simp; try with_reducible rfl)
          try simp only [Act.put, List.setIfInBounds_toArray, List.set_cons_zero, List.set_cons_succ]
          refine wpAnyL_take (i := 5) (v := ?v94) rfl (by kernel_rfl) (by kernel_rfl) (by kernel_rfl) (by kernel_rfl) (fun _ _ _ h => h) (Or.inl ⟨by rfl, ?y94⟩) (by assumption) ?r94
          case y94 => (intro w' hSw; (try dsimp only at hSw); go_simp; try with_reducible rfl)
          try simp only [Act.put, List.setIfInBounds_toArray, List.set_cons_zero, List.set_cons_succ]
          refine wpAnyL_take (i := 6) (v := ?v95) rfl (by kernel_rfl) (by kernel_rfl) (by kernel_rfl) (by kernel_rfl) (fun _ _ _ h => h) (Or.inl ⟨by rfl, ?y95⟩) (by assumption) ?r95
          case y95 => (intro w' hSw; (try dsimp only at hSw); go_simp; try with_reducible rfl)
          try simp only [Act.put, List.setIfInBounds_toArray, List.set_cons_zero, List.set_cons_succ]
          refine wpAnyL_take (i := 7) (v := ?v96) rfl (by kernel_rfl) (by kernel_rfl) (by kernel_rfl) (by kernel_rfl) (fun _ _ _ h => h) (Or.inl ⟨by rfl, ?y96⟩) (by assumption) ?r96
          case y96 => (intro w' hSw; (try dsimp only at hSw); go_simp; try with_reducible rfl)
          try simp only [Act.put, List.setIfInBounds_toArray, List.set_cons_zero, List.set_cons_succ]
          obtain ⟨⟨k0, k1, k2⟩, kf⟩ := cells3 HQ.out
          have hBz := bel_st3 (g := q) (y0 := .slice a1 0 c1) (y1 := .int .i64 0) (y2 := .slice a2 1 c2) hB_u4 hqz
          have hRz := Lib.hid (set3 (y0 := .slice a1 0 c1) (y1 := .int .i64 0) (y2 := .slice a2 1 c2) HQ.out)
          have hSz := hK0.out _ hBz
          have HP1z := Lib.hid (HP1.out.st3 (g := q) (n := w3.heap.size) (y0 := .slice a1 0 c1) (y1 := .int .i64 0) (y2 := .slice a2 1 c2) (by omega) (by omega))
          have HP2z := Lib.hid (HP2.out.st3 (g := q) (n := w3.heap.size) (y0 := .slice a1 0 c1) (y1 := .int .i64 0) (y2 := .slice a2 1 c2) (by omega) (by omega))
          refine wpAnyL_one (i := 9) (by kernel_rfl) rfl rfl (fun K hK => ?_)
          go_simp
          refine hK _ _ (fun _ => hSz) ?_
          clear hK K k0 k1 k2 kf
          try simp only [Act.put, List.setIfInBounds_toArray, List.set_cons_zero, List.set_cons_succ]
          refine wpAnyL_take (i := 10) (v := ?v97) rfl (by kernel_rfl) (by kernel_rfl) (by kernel_rfl) (by kernel_rfl) (fun _ _ _ h => h) (Or.inl ⟨by rfl, ?y97⟩) (by assumption) ?r97
          case y97 => (intro w' hSw; (try dsimp only at hSw); go_simp; try with_reducible rfl)
          try simp only [Act.put, List.setIfInBounds_toArray, List.set_cons_zero, List.set_cons_succ]
          refine wpAnyL_take (i := 11) (v := ?v98) rfl (by kernel_rfl) (by kernel_rfl) (by kernel_rfl) (by kernel_rfl) (fun _ _ _ h => h) (Or.inl ⟨by rfl, ?y98⟩) (by assumption) ?r98
          case y98 => (intro w' hSw; (try dsimp only at hSw); go_simp; try with_reducible rfl)
          try simp only [Act.put, List.setIfInBounds_toArray, List.set_cons_zero, List.set_cons_succ]
          refine wpAnyL_done (by kernel_rfl) ?_ _
          go_wp2
          go_meet
          exact ⟨q, a1, c1, a2, c2, a3, c3, rfl, rfl, rfl, hqz, hRz, HP1z, HP2z, hBz⟩
    case rest =>
      obtain ⟨q, a1, c1, a2, c2, a', c', rfl, rfl, rfl, hqz, HQ, HP1, HP2, hBe⟩ := hcut
      obtain ⟨we, rfl⟩ : ∃ we : World, we = wc := ⟨_, rfl⟩
      have hqe : q < we.heap.size := (Array.getElem?_eq_some_iff.1 HQ.out).1
      have HAe := Lib.hid (HA3.out.below hBe)
      have hze : w3.heap.size ≤ we.heap.size := hBe.size
      have HKq : Hid (∀ w', Below we.heap.size we w' → (w'.cell? ⟨pv, 0, none⟩ = some (.int .i64 2) ∧ w'.cell? ⟨pv, 1, none⟩ = some (.slice (some ⟨tb, 0, none⟩) 2 2)) ∧ w'.cell? ⟨q, 0, none⟩ = some (.slice a1 0 c1) ∧ w'.cell? ⟨q, 1, none⟩ = some (.int .i64 0) ∧ w'.cell? ⟨q, 2, none⟩ = some (.slice a2 1 c2)) := fun w' hb =>
        ⟨hK0.out w' (hBe.trans (hb.mono hze)), (hb.cell (p := ⟨q, 0, none⟩) hqe).trans (cells3 HQ.out).1.1, (hb.cell (p := ⟨q, 1, none⟩) hqe).trans (cells3 HQ.out).1.2.1, (hb.cell (p := ⟨q, 2, none⟩) hqe).trans (cells3 HQ.out).1.2.2⟩
      have HBe := Lib.hid (HB3.out.trans (hBe.mono hwp))
      have hwe : w.heap.size ≤ we.heap.size := by omega
      have HOe := Lib.hid (HO.out.below hBe)
      clear hK0 HB3 HA3 HO HQ hBe hze
      go_upto_region 5 with (fail)
      refine wp_region_L (fun w' => (w'.cell? ⟨pv, 0, none⟩ = some (.int .i64 2) ∧ w'.cell? ⟨pv, 1, none⟩ = some (.slice (some ⟨tb, 0, none⟩) 2 2)) ∧ w'.cell? ⟨q, 0, none⟩ = some (.slice a1 0 c1) ∧ w'.cell? ⟨q, 1, none⟩ = some (.int .i64 0) ∧ w'.cell? ⟨q, 2, none⟩ = some (.slice a2 1 c2)) [1, 2, 4, 5, 6, 7, 8] (by kernel_rfl) ?_
      have hB_u0 := (Below.refl we.heap.size we).drew
      have hz_u0 : we.heap.size ≤ we.drew.heap.size := Nat.le_refl _
      have hS_u0 := HKq.out _ hB_u0
      generalize hgg : we.drew = u0 at *
      clear hgg
      refine wpAnyL_take (i := 1) (v := ?v99) rfl (by kernel_rfl) (by kernel_rfl) (by kernel_rfl) (by kernel_rfl) (fun _ _ _ h => h) (Or.inl ⟨by rfl, ?y99⟩) (by assumption) ?r99
      case y99 => (intro w' hSw; (try dsimp only at hSw); go_simp; try with_reducible rfl)
      try simp only [Act.put, List.setIfInBounds_toArray, List.set_cons_zero, List.set_cons_succ]
      refine wpAnyL_take (i := 2) (v := ?v100) rfl (by kernel_rfl) (by kernel_rfl) (by kernel_rfl) (by kernel_rfl) (fun _ _ _ h => h) (Or.inl ⟨by rfl, ?y100⟩) (by assumption) ?r100
      case y100 => (intro w' hSw; (try dsimp only at hSw); go_simp; try with_reducible rfl)
      try simp only [Act.put, List.setIfInBounds_toArray, List.set_cons_zero, List.set_cons_succ]
      refine wpAnyL_one (i := 0) (by kernel_rfl) rfl rfl (fun K hK => ?_)
      go_simp
      refine (one_any).mono ?_
      rintro e u1 ⟨an, cn, ao, co, ac, cc, rfl, hh, hb⟩
      have hB_u1 := hB_u0.trans (hb.mono hz_u0)
      have hz_u1 : we.heap.size ≤ u1.heap.size := by have := hb.size; omega
      have hS_u1 := HKq.out _ hB_u1
      refine hK _ _ (fun _ => hS_u1) ?_
      clear hK K hb
      refine wpAnyL_one (i := 3) (by kernel_rfl) rfl rfl (fun K hK => ?_)
      go_simp
      refine (check_any (x := ⟨oneH, obB, ⟨[], 0, [1]⟩⟩) hh (HOe.out.below hB_u1) (HP1.out.below hB_u1) (HP2.out.below hB_u1) (i64_sm (by decide)) lensB).mono ?_
      rintro e u2 ⟨rfl, hb⟩
      rw [cB.1, cB.2]
      have hB_u2 := hB_u1.trans (hb.mono hz_u1)
      have hz_u2 : we.heap.size ≤ u2.heap.size := by have := hb.size; omega
      have hS_u2 := HKq.out _ hB_u2
      refine hK _ _ (fun _ => hS_u2) ?_
      clear hK K hb hh
      refine wpAnyL_take (i := 4) (v := ?v101) rfl (by kernel_rfl) (by kernel_rfl) (by kernel_rfl) (by kernel_rfl) (fun _ _ _ h => h) (Or.inl ⟨by rfl, ?y101⟩) (by assumption) ?r101
      case y101 => (intro w' hSw; (try dsimp only at hSw); go_simp; try with_reducible rfl)
      try simp only [Act.put, List.setIfInBounds_toArray, List.set_cons_zero, List.set_cons_succ]
      refine wpAnyL_take (i := 5) (v := ?v102) rfl (by kernel_rfl) (by kernel_rfl) (by kernel_rfl) (by kernel_rfl) (fun _ _ _ h => h) (Or.inl ⟨by rfl, ?y102⟩) (by assumption) ?r102
      case y102 => (intro w' hSw; (try dsimp only at hSw); go_simp; try with_reducible rfl)
      try simp only [Act.put, List.setIfInBounds_toArray, List.set_cons_zero, List.set_cons_succ]
      refine wpAnyL_take (i := 6) (v := ?v103) rfl (by kernel_rfl) (by kernel_rfl) (by kernel_rfl) (by kernel_rfl) (fun _ _ _ h => h) (Or.inl ⟨by rfl, ?y103⟩) (by assumption) ?r103
      case y103 => (intro w' hSw; (try dsimp only at hSw); go_simp; try with_reducible rfl)
      try simp only [Act.put, List.setIfInBounds_toArray, List.set_cons_zero, List.set_cons_succ]
      refine wpAnyL_take (i := 7) (v := ?v104) rfl (by kernel_rfl) (by kernel_rfl) (by kernel_rfl) (by kernel_rfl) (fun _ _ _ h => h) (Or.inl ⟨by rfl, ?y104⟩) (by assumption) ?r104
      case y104 => (intro w' hSw; (try dsimp only at hSw); go_simp; try with_reducible rfl)
      try simp only [Act.put, List.setIfInBounds_toArray, List.set_cons_zero, List.set_cons_succ]
      refine wpAnyL_take (i := 8) (v := ?v105) rfl (by kernel_rfl) (by kernel_rfl) (by kernel_rfl) (by kernel_rfl) (fun _ _ _ h => h) (Or.inl ⟨by rfl, ?y105⟩) (by assumption) ?r105
      case y105 => (intro w' hSw; (try dsimp only at hSw); go_simp; try with_reducible rfl)
      try simp only [Act.put, List.setIfInBounds_toArray, List.set_cons_zero, List.set_cons_succ]
      refine wpAnyL_done (by kernel_rfl) ?_ _
      have HC := Lib.hid (same1_any (w := u2.alloc (.cells #[.int .i64 1] 3)) (xs := [1]) (ys := [1]) ((fal (HAe.out.below hB_u2)).alloc _) (litl rfl rfl (by decide) rfl (by decide) id))
      clear hS_u0 hS_u1 hS_u2 hB_u0 hB_u1 hz_u0 hz_u1
      go_wp2_with fail
      refine (HC.out).mono ?_
      rintro e u3 ⟨rfl, hD⟩
      have hb3 := ((Below.refl u2.heap.size u2).alloc (Nat.le_refl _) (.cells #[.int .i64 1] 3)).trans ((blw hD _).mono (Nat.le_refl _))
      have hB_u3 := hB_u2.trans (hb3.mono hz_u2)
      have hz_u3 : we.heap.size ≤ u3.heap.size := by have := hb3.size; omega
      obtain ⟨-, hq0, hq1, hq2⟩ := HKq.out _ hB_u3
      have hdd : decide (([1] : List Int) = [1]) = true := by decide
      have HC := sameS_any (w := u3.alloc (.cells #[.int .i64 1] 3)) (s := ⟨[], 0, [1]⟩) (t := ⟨[], 0, [1]⟩) (a1 := a1) (c1 := c1) (a2 := a2) (c2 := c2) (b1 := none) (d1 := 0) ((HP1.out.below hB_u3).alloc _) ((HP2.out.below hB_u3).alloc _) (snil (fun _ => False) _ _) (litl (M := fun _ => False) rfl rfl (by decide) rfl (by decide) id)
      rw [show decide ((⟨[], 0, [1]⟩ : Sp) = ⟨[], 0, [1]⟩) = true from by decide] at HC
      have HC := Lib.hid HC
      clear hb3 hB_u2 hz_u2 hD
      go_wp2_with fail
      refine (HC.out).mono ?_
      rintro e u4 ⟨rfl, hb⟩
      have hB_u4 := hB_u3.trans ((((Below.refl u3.heap.size u3).alloc (Nat.le_refl _) (.cells #[.int .i64 1] 3)).trans (hb.mono (by simp))).mono hz_u3)
      have hBf := HBe.out.trans (hB_u4.mono hwe)
      clear hB_u3 hB_u4 hb hq0 hq1 hq2
      go_wp2
      go_ret
      exact ⟨rfl, hBf⟩
end Go.Proofs.Ytlgdijgfphedpaa
/- The laws of chapter 25 on Find, Linear and Check. No condition. -/
namespace Go.Proofs.Ytlgdijgfphedpaa
open Go.RowKit
theorem fir_eq {r : Sp × List Int × Int} {l1 l2 l3 k1 k2 k3 : List Int} {sy er sz ez : Int} (h : Hid (r = (⟨l1, sy, l2⟩, l3, er))) (h2 : Hid (r = (⟨k1, sz, k2⟩, k3, ez))) : l1 = k1 ∧ sy = sz ∧ l2 = k2 ∧ l3 = k3 ∧ er = ez := by
  have h := h.out
  rw [h2.out] at h
  simp only [Prod.mk.injEq, Sp.mk.injEq] at h
  exact ⟨h.1.1.symm, h.1.2.1.symm, h.1.2.2.symm, h.2.1.symm, h.2.2.symm⟩
section
variable {M M' M'' M3 : Nat → Prop} {w : World} {an ao ac a b b2 : Option Addr} {cn co cc c d d2 : Nat} {x : Sj}
theorem h5o2 (w : World) {h : Hy} {o : Ob} : H5 ((w.alloc (hyO h an cn ao co ac cc)).alloc (obO o a c)) w.heap.size an cn ao co ac cc h ∧ O2 ((w.alloc (hyO h an cn ao co ac cc)).alloc (obO o a c)) (w.heap.size + 1) a c o := by
  refine ⟨(h5_new w).below (B := w.heap.size + 1) ((Below.refl _ _).alloc (by simp) _) (by omega), ?_⟩
  have k := o2_new (o := o) (a := a) (c := c) (w.alloc (hyO h an cn ao co ac cc))
  simpa using k

set_option maxRecDepth 100000 in
set_option maxHeartbeats 8000000 in
theorem lfinds_any (hh : Hp M w an cn ao co ac cc x.h) (ho : Os M' w a c x.o) (hw : Sl M'' w b d x.w) :
    Calls Try.prog 3 #[hyV x.h an cn ao co ac cc, obV x.o a c, .slice b x.w.length d] w fun e w' => e = .returned (.bool true) ∧ Below w.heap.size w w' := by
  have hB0 := ((Below.refl w.heap.size w).alloc (Nat.le_refl _) (hyO x.h an cn ao co ac cc)).alloc (by simp) (obO x.o a c)
  obtain ⟨hx0, hy0⟩ := h5o2 (an := an) (cn := cn) (ao := ao) (co := co) (ac := ac) (cc := cc) (a := a) (c := c) (h := x.h) (o := x.o) w
  have hz0 : w.heap.size + 2 ≤ ((w.alloc (hyO x.h an cn ao co ac cc)).alloc (obO x.o a c)).heap.size := by simp
  have HH := Lib.hid hh
  have HO := Lib.hid ho
  have HW := Lib.hid hw
  have hwl := hw.le
  have HC := gr25_any (HH.out.below hB0) (HO.out.below hB0)
  clear hh ho hw
  cases hg : gr25 x.h x.o with
  | true =>
    rw [hg] at HC
    have HC := Lib.hid HC
    clear hg
    go_enter Try.func3, Try.ntmps3
    go_wp2_with fail
    generalize (w.alloc (hyO x.h an cn ao co ac cc)).alloc (obO x.o a c) = w0 at *
    refine (HC.out).mono ?_
    rintro e w1 ⟨rfl, hb1⟩
    have hB1 := hB0.trans (hb1.mono (by omega))
    have hz1 : w.heap.size ≤ w1.heap.size := hB1.size
    go_wp2_with fail
    refine (aw25_any).mono ?_
    rintro e w2 ⟨rfl, hb2⟩
    have hB2 := hB1.trans (hb2.mono hz1)
    go_wp2
    go_ret
    exact ⟨rfl, hB2⟩
  | false =>
    rw [hg] at HC
    have HC := Lib.hid HC
    clear hg
    by_cases hl : 1100 < x.w.length
    · go_enter Try.func3, Try.ntmps3
      go_wp2_with fail
      generalize (w.alloc (hyO x.h an cn ao co ac cc)).alloc (obO x.o a c) = w0 at *
      refine (HC.out).mono ?_
      rintro e w1 ⟨rfl, hb1⟩
      have hB1 := hB0.trans (hb1.mono (by omega))
      have hz1 : w.heap.size ≤ w1.heap.size := hB1.size
      go_wp2_with fail
      refine (aw25_any).mono ?_
      rintro e w2 ⟨rfl, hb2⟩
      have hB2 := hB1.trans (hb2.mono hz1)
      go_wp2
      go_ret
      exact ⟨rfl, hB2⟩
    · have hl2 : x.w.length ≤ 1100 := by omega
      clear hl
      go_enter Try.func3, Try.ntmps3
      go_wp2_with fail
      generalize (w.alloc (hyO x.h an cn ao co ac cc)).alloc (obO x.o a c) = w0 at *
      refine (HC.out).mono ?_
      rintro e w1 ⟨rfl, hb1⟩
      have hB1 := hB0.trans (hb1.mono (by omega))
      have hx1 := hx0.below hb1 (by omega)
      have hy1 := hy0.below hb1 (by omega)
      have hz1 : w.heap.size + 2 ≤ w1.heap.size := by have := hb1.size; omega
      clear HC hb1 hB0 hx0 hy0 hz0
      have HC := Lib.hid (validO_any (HO.out.below hB1))
      go_wp2_with fail
      refine (HC.out).mono ?_
      rintro e w2 ⟨rfl, hb2⟩
      have hB2 := hB1.trans (hb2.mono (by omega))
      have hx2 := hx1.below hb2 (by omega)
      have hy2 := hy1.below hb2 (by omega)
      have hz2 : w.heap.size + 2 ≤ w2.heap.size := by have := hb2.size; omega
      clear HC hb2 hB1 hx1 hy1 hz1
      by_cases he : x.o.err = 0
      · have heb : (x.o.err != 0) = false := by simp [he]
        have HL := Lib.hid (Ob.err_lens he)
        have HC := Lib.hid (find_any (HH.out.below hB2) (HO.out.below hB2) (HW.out.below hB2) HL)
        clear he
        go_wp2_with fail
        refine (HC.out).mono ?_
        rintro e w3 ⟨⟨a1, c1, l1, a2, c2, l2, sy, a3, c3, l3, er, rfl, hr1, hp1, hp2, hp3⟩, hb3⟩
        have hB3 := hB2.trans (hb3.mono (by omega))
        have hx3 := hx2.below hb3 (by omega)
        have hy3 := hy2.below hb3 (by omega)
        have hz3 : w.heap.size + 2 ≤ w3.heap.size := by have := hb3.size; omega
        clear HC hb3 hB2 hx2 hy2 hz2
        obtain ⟨q, hq⟩ : ∃ q, q = w3.heap.size := ⟨_, rfl⟩
        have hbA := (Below.refl w3.heap.size w3).alloc (Nat.le_refl _) (.cells #[.slice a1 l1.length c1, .int .i64 sy, .slice a2 l2.length c2] 35)
        have hBA := hB3.trans (hbA.mono (by omega))
        have hxA := hx3.below hbA (by omega)
        have hyA := hy3.below hbA (by omega)
        have hQA := heap_alloc_new w3 (.cells #[.slice a1 l1.length c1, .int .i64 sy, .slice a2 l2.length c2] 35)
        rw [← hq] at hQA
        have hqA : q < (w3.alloc (.cells #[.slice a1 l1.length c1, .int .i64 sy, .slice a2 l2.length c2] 35)).heap.size := by simp; omega
        have HQA := Lib.hid hQA
        have HP1 := Lib.hid (hp1.below hbA)
        have HP2 := Lib.hid (hp2.below hbA)
        have HP3 := Lib.hid (hp3.below hbA)
        have hqw : w.heap.size + 2 ≤ q := by omega
        have HC := Lib.hid (findR_any (HH.out.below hBA) (HO.out.below hBA) (HW.out.below hBA) HL)
        clear hp1 hp2 hp3 hbA hx3 hy3 hB3 hQA
        go_wp2_with fail
        rw [← hq]
        clear hq hz3
        generalize hgg : w3.alloc (.cells #[.slice a1 l1.length c1, .int .i64 sy, .slice a2 l2.length c2] 35) = w4 at *
        clear hgg
        refine (HC.out).mono ?_
        rintro e w5 ⟨⟨a1', c1', l1', a2', c2', l2', sy', a3', c3', l3', er', rfl, hr2, hp1, hp2, hp3⟩, hb5⟩
        obtain ⟨rfl, rfl, rfl, rfl, rfl⟩ := fir_eq hr1 hr2
        have hB5 := hBA.trans (hb5.mono (by omega))
        have HQ5 := Lib.hid ((hb5.block q hqA).trans HQA.out)
        have HP1 := Lib.hid (HP1.out.below hb5)
        have HP2 := Lib.hid (HP2.out.below hb5)
        have HP3 := Lib.hid (HP3.out.below hb5)
        have hq5 : q < w5.heap.size := Nat.lt_of_lt_of_le hqA hb5.size
        clear hr1 hr2 HC hb5 hBA hxA hyA HQA hqA
        have hbB := (Below.refl w5.heap.size w5).alloc (Nat.le_refl _) (.cells #[.slice a1' l1.length c1', .int .i64 sy, .slice a2' l2.length c2'] 35)
        have hBB := hB5.trans (hbB.mono (by omega))
        have hQB := (hbB.block q hq5).trans HQ5.out
        obtain ⟨⟨q0, q1, q2⟩, -⟩ := cells3 hQB
        obtain ⟨⟨r0, r1, r2⟩, -⟩ := cells3 (heap_alloc_new w5 (.cells #[.slice a1' l1.length c1', .int .i64 sy, .slice a2' l2.length c2'] 35))
        have hn1 := hp1.le
        have hn2 := hp2.le
        have hn3 := hp3.le
        have HC := sameS_any (s := ⟨l1, sy, l2⟩) (t := ⟨l1, sy, l2⟩) (HP1.out.below hbB) (HP2.out.below hbB) (hp1.below hbB) (hp2.below hbB)
        rw [show decide ((⟨l1, sy, l2⟩ : Sp) = ⟨l1, sy, l2⟩) = true from by simp] at HC
        have HC := Lib.hid HC
        have HP3 := Lib.hid (HP3.out.below hbB)
        have HP3' := Lib.hid (hp3.below hbB)
        have hzB : w.heap.size + 2 ≤ (w5.alloc (.cells #[.slice a1' l1.length c1', .int .i64 sy, .slice a2' l2.length c2'] 35)).heap.size := by have := hBB.size; simp; omega
        clear hp1 hp2 hp3 hbB hB5 hQB HQ5
        go_wp2_with fail
        generalize hgg : w5.alloc (.cells #[.slice a1' l1.length c1', .int .i64 sy, .slice a2' l2.length c2'] 35) = w6 at *
        clear hgg
        refine (HC.out).mono ?_
        rintro e w7 ⟨rfl, hb7⟩
        have hB7 := hBB.trans (hb7.mono (by omega))
        have hz7 : w.heap.size + 2 ≤ w7.heap.size := by have := hb7.size; omega
        have HC := same1_any (fal (HP3.out.below hb7)) (fal (HP3'.out.below hb7))
        rw [show decide (l3 = l3) = true from by simp] at HC
        have HC := Lib.hid HC
        clear hb7 hBB q0 q1 q2 r0 r1 r2 hzB
        go_wp2_with fail
        refine (HC.out).mono ?_
        rintro e w8 ⟨rfl, hD⟩
        have hb8 := blw hD w7.heap.size
        have hB8 := hB7.trans (hb8.mono (by omega))
        have hz8 : w.heap.size ≤ w8.heap.size := hB8.size
        have hee : (er == er) = true := by simp
        clear hb8 hB7
        go_wp2_with fail
        refine (aw25_any).mono ?_
        rintro e w9 ⟨rfl, hb9⟩
        have hB9 := hB8.trans (hb9.mono hz8)
        go_wp2
        go_ret
        exact ⟨rfl, hB9⟩
      · have heb : (x.o.err != 0) = true := by simp [he]
        clear he
        have hz2' : w.heap.size ≤ w2.heap.size := by omega
        go_wp2_with fail
        refine (aw25_any).mono ?_
        rintro e w3 ⟨rfl, hb3⟩
        have hB3 := hB2.trans (hb3.mono hz2')
        go_wp2
        go_ret
        exact ⟨rfl, hB3⟩
set_option maxRecDepth 100000 in
set_option maxHeartbeats 8000000 in
theorem llin_any (hh : Hp M w an cn ao co ac cc x.h) (ho : Os M' w a c x.o) (hw : Sl M'' w b d x.w) :
    Calls Try.prog 6 #[hyV x.h an cn ao co ac cc, obV x.o a c, .slice b x.w.length d] w fun e w' => e = .returned (.bool true) ∧ Below w.heap.size w w' := by
  have hB0 := ((Below.refl w.heap.size w).alloc (Nat.le_refl _) (hyO x.h an cn ao co ac cc)).alloc (by simp) (obO x.o a c)
  obtain ⟨hx0, hy0⟩ := h5o2 (an := an) (cn := cn) (ao := ao) (co := co) (ac := ac) (cc := cc) (a := a) (c := c) (h := x.h) (o := x.o) w
  have hz0 : w.heap.size + 2 ≤ ((w.alloc (hyO x.h an cn ao co ac cc)).alloc (obO x.o a c)).heap.size := by simp
  have HH := Lib.hid hh
  have HO := Lib.hid ho
  have HW := Lib.hid hw
  have hwl := hw.le
  have HC := gr25_any (HH.out.below hB0) (HO.out.below hB0)
  clear hh ho hw
  cases hg : gr25 x.h x.o with
  | true =>
    rw [hg] at HC
    have HC := Lib.hid HC
    clear hg
    go_enter Try.func6, Try.ntmps6
    go_wp2_with fail
    generalize (w.alloc (hyO x.h an cn ao co ac cc)).alloc (obO x.o a c) = w0 at *
    refine (HC.out).mono ?_
    rintro e w1 ⟨rfl, hb1⟩
    have hB1 := hB0.trans (hb1.mono (by omega))
    have hz1 : w.heap.size ≤ w1.heap.size := hB1.size
    go_wp2_with fail
    refine (aw25_any).mono ?_
    rintro e w2 ⟨rfl, hb2⟩
    have hB2 := hB1.trans (hb2.mono hz1)
    go_wp2
    go_ret
    exact ⟨rfl, hB2⟩
  | false =>
    rw [hg] at HC
    have HC := Lib.hid HC
    clear hg
    by_cases hl : 1100 < x.w.length
    · go_enter Try.func6, Try.ntmps6
      go_wp2_with fail
      generalize (w.alloc (hyO x.h an cn ao co ac cc)).alloc (obO x.o a c) = w0 at *
      refine (HC.out).mono ?_
      rintro e w1 ⟨rfl, hb1⟩
      have hB1 := hB0.trans (hb1.mono (by omega))
      have hz1 : w.heap.size ≤ w1.heap.size := hB1.size
      go_wp2_with fail
      refine (aw25_any).mono ?_
      rintro e w2 ⟨rfl, hb2⟩
      have hB2 := hB1.trans (hb2.mono hz1)
      go_wp2
      go_ret
      exact ⟨rfl, hB2⟩
    · have hl2 : x.w.length ≤ 1100 := by omega
      clear hl
      go_enter Try.func6, Try.ntmps6
      go_wp2_with fail
      generalize (w.alloc (hyO x.h an cn ao co ac cc)).alloc (obO x.o a c) = w0 at *
      refine (HC.out).mono ?_
      rintro e w1 ⟨rfl, hb1⟩
      have hB1 := hB0.trans (hb1.mono (by omega))
      have hx1 := hx0.below hb1 (by omega)
      have hy1 := hy0.below hb1 (by omega)
      have hz1 : w.heap.size + 2 ≤ w1.heap.size := by have := hb1.size; omega
      clear HC hb1 hB0 hx0 hy0 hz0
      have HC := Lib.hid (validO_any (HO.out.below hB1))
      go_wp2_with fail
      refine (HC.out).mono ?_
      rintro e w2 ⟨rfl, hb2⟩
      have hB2 := hB1.trans (hb2.mono (by omega))
      have hx2 := hx1.below hb2 (by omega)
      have hy2 := hy1.below hb2 (by omega)
      have hz2 : w.heap.size + 2 ≤ w2.heap.size := by have := hb2.size; omega
      clear HC hb2 hB1 hx1 hy1 hz1
      by_cases he : x.o.err = 0
      · have heb : (x.o.err != 0) = false := by simp [he]
        have HL := Lib.hid (Ob.err_lens he)
        have HC := Lib.hid (lin_any (HH.out.below hB2) (HO.out.below hB2) (HW.out.below hB2) HL)
        clear he
        go_wp2_with fail
        refine (HC.out).mono ?_
        rintro e w3 ⟨⟨a1, c1, l1, a2, c2, l2, sy, a3, c3, l3, er, rfl, hr1, hp1, hp2, hp3⟩, hb3⟩
        have hB3 := hB2.trans (hb3.mono (by omega))
        have hx3 := hx2.below hb3 (by omega)
        have hy3 := hy2.below hb3 (by omega)
        have hz3 : w.heap.size + 2 ≤ w3.heap.size := by have := hb3.size; omega
        clear HC hb3 hB2 hx2 hy2 hz2
        obtain ⟨q, hq⟩ : ∃ q, q = w3.heap.size := ⟨_, rfl⟩
        have hbA := (Below.refl w3.heap.size w3).alloc (Nat.le_refl _) (.cells #[.slice a1 l1.length c1, .int .i64 sy, .slice a2 l2.length c2] 35)
        have hBA := hB3.trans (hbA.mono (by omega))
        have hxA := hx3.below hbA (by omega)
        have hyA := hy3.below hbA (by omega)
        have hQA := heap_alloc_new w3 (.cells #[.slice a1 l1.length c1, .int .i64 sy, .slice a2 l2.length c2] 35)
        rw [← hq] at hQA
        have hqA : q < (w3.alloc (.cells #[.slice a1 l1.length c1, .int .i64 sy, .slice a2 l2.length c2] 35)).heap.size := by simp; omega
        have HQA := Lib.hid hQA
        have HP1 := Lib.hid (hp1.below hbA)
        have HP2 := Lib.hid (hp2.below hbA)
        have HP3 := Lib.hid (hp3.below hbA)
        have hqw : w.heap.size + 2 ≤ q := by omega
        have HC := Lib.hid (linR_any (HH.out.below hBA) (HO.out.below hBA) (HW.out.below hBA) HL)
        clear hp1 hp2 hp3 hbA hx3 hy3 hB3 hQA
        go_wp2_with fail
        rw [← hq]
        clear hq hz3
        generalize hgg : w3.alloc (.cells #[.slice a1 l1.length c1, .int .i64 sy, .slice a2 l2.length c2] 35) = w4 at *
        clear hgg
        refine (HC.out).mono ?_
        rintro e w5 ⟨⟨a1', c1', l1', a2', c2', l2', sy', a3', c3', l3', er', rfl, hr2, hp1, hp2, hp3⟩, hb5⟩
        obtain ⟨rfl, rfl, rfl, rfl, rfl⟩ := fir_eq hr1 hr2
        have hB5 := hBA.trans (hb5.mono (by omega))
        have HQ5 := Lib.hid ((hb5.block q hqA).trans HQA.out)
        have HP1 := Lib.hid (HP1.out.below hb5)
        have HP2 := Lib.hid (HP2.out.below hb5)
        have HP3 := Lib.hid (HP3.out.below hb5)
        have hq5 : q < w5.heap.size := Nat.lt_of_lt_of_le hqA hb5.size
        clear hr1 hr2 HC hb5 hBA hxA hyA HQA hqA
        have hbB := (Below.refl w5.heap.size w5).alloc (Nat.le_refl _) (.cells #[.slice a1' l1.length c1', .int .i64 sy, .slice a2' l2.length c2'] 35)
        have hBB := hB5.trans (hbB.mono (by omega))
        have hQB := (hbB.block q hq5).trans HQ5.out
        obtain ⟨⟨q0, q1, q2⟩, -⟩ := cells3 hQB
        obtain ⟨⟨r0, r1, r2⟩, -⟩ := cells3 (heap_alloc_new w5 (.cells #[.slice a1' l1.length c1', .int .i64 sy, .slice a2' l2.length c2'] 35))
        have hn1 := hp1.le
        have hn2 := hp2.le
        have hn3 := hp3.le
        have HC := sameS_any (s := ⟨l1, sy, l2⟩) (t := ⟨l1, sy, l2⟩) (HP1.out.below hbB) (HP2.out.below hbB) (hp1.below hbB) (hp2.below hbB)
        rw [show decide ((⟨l1, sy, l2⟩ : Sp) = ⟨l1, sy, l2⟩) = true from by simp] at HC
        have HC := Lib.hid HC
        have HP3 := Lib.hid (HP3.out.below hbB)
        have HP3' := Lib.hid (hp3.below hbB)
        have hzB : w.heap.size + 2 ≤ (w5.alloc (.cells #[.slice a1' l1.length c1', .int .i64 sy, .slice a2' l2.length c2'] 35)).heap.size := by have := hBB.size; simp; omega
        clear hp1 hp2 hp3 hbB hB5 hQB HQ5
        go_wp2_with fail
        generalize hgg : w5.alloc (.cells #[.slice a1' l1.length c1', .int .i64 sy, .slice a2' l2.length c2'] 35) = w6 at *
        clear hgg
        refine (HC.out).mono ?_
        rintro e w7 ⟨rfl, hb7⟩
        have hB7 := hBB.trans (hb7.mono (by omega))
        have hz7 : w.heap.size + 2 ≤ w7.heap.size := by have := hb7.size; omega
        have HC := same1_any (fal (HP3.out.below hb7)) (fal (HP3'.out.below hb7))
        rw [show decide (l3 = l3) = true from by simp] at HC
        have HC := Lib.hid HC
        clear hb7 hBB q0 q1 q2 r0 r1 r2 hzB
        go_wp2_with fail
        refine (HC.out).mono ?_
        rintro e w8 ⟨rfl, hD⟩
        have hb8 := blw hD w7.heap.size
        have hB8 := hB7.trans (hb8.mono (by omega))
        have hz8 : w.heap.size ≤ w8.heap.size := hB8.size
        have hee : (er == er) = true := by simp
        clear hb8 hB7
        go_wp2_with fail
        refine (aw25_any).mono ?_
        rintro e w9 ⟨rfl, hb9⟩
        have hB9 := hB8.trans (hb9.mono hz8)
        go_wp2
        go_ret
        exact ⟨rfl, hB9⟩
      · have heb : (x.o.err != 0) = true := by simp [he]
        clear he
        have hz2' : w.heap.size ≤ w2.heap.size := by omega
        go_wp2_with fail
        refine (aw25_any).mono ?_
        rintro e w3 ⟨rfl, hb3⟩
        have hB3 := hB2.trans (hb3.mono hz2')
        go_wp2
        go_ret
        exact ⟨rfl, hB3⟩
end
end Go.Proofs.Ytlgdijgfphedpaa
/- What a search that ends says: plain words. Condition where named: the answers are as long as their words. -/
namespace Go.Proofs.Ytlgdijgfphedpaa
open Go.RowKit
namespace Sj
variable {x : Sj} {nx : Nat → Nat → Nat}
theorem noS_eq : noS = ⟨[], 0, []⟩ := rfl
/-- An error comes alone; a word comes alone and is not answered. -/
theorem srch_err : ∀ (n lo hi : Nat), ((x.srch nx n lo hi).2.2 ≠ 0 → (x.srch nx n lo hi).2.1 = [] ∧ (x.srch nx n lo hi).1 = noS) ∧ ((x.srch nx n lo hi).2.1 ≠ [] → x.o.known (x.srch nx n lo hi).2.1 = false ∧ (x.srch nx n lo hi).1 = noS)
  | 0, lo, hi => spl_err lo
  | n + 1, lo, hi => by
    unfold srch
    split
    · split
      · exact ⟨fun _ => ⟨rfl, rfl⟩, fun h => absurd rfl h⟩
      · split
        · rename_i h; exact ⟨fun h => absurd rfl h, fun _ => ⟨h, rfl⟩⟩
        · split
          · exact srch_err n _ _
          · exact srch_err n _ _
    · exact spl_err lo
where
  spl_err (lo : Nat) : ((x.spl lo).2.2 ≠ 0 → (x.spl lo).2.1 = [] ∧ (x.spl lo).1 = noS) ∧ ((x.spl lo).2.1 ≠ [] → x.o.known (x.spl lo).2.1 = false ∧ (x.spl lo).1 = noS) := by
    unfold spl
    refine ⟨fun h => ⟨rfl, ?_⟩, fun h => absurd rfl h⟩
    cases hs : x.sure lo with
    | true => rw [(spl_yes hs).2] at h; exact absurd rfl h
    | false => exact (spl_no hs).1
theorem res_err : ((x.res nx).2.2 ≠ 0 → (x.res nx).2.1 = [] ∧ (x.res nx).1 = noS) ∧ ((x.res nx).2.1 ≠ [] → x.o.known (x.res nx).2.1 = false ∧ (x.res nx).1 = noS) := by
  unfold res
  split
  · exact ⟨fun _ => ⟨rfl, rfl⟩, fun h => absurd rfl h⟩
  · exact srch_err _ _ _

/-- The bounds stay in order. -/
def Nxt (nx : Nat → Nat → Nat) : Prop := ∀ lo hi, 1 < hi - lo → lo < nx lo hi ∧ nx lo hi < hi
theorem mid_nxt : Nxt mid := fun lo hi h => by unfold mid; omega
theorem nxt_nxt : Nxt nxt := fun lo hi h => by unfold nxt; omega
/-- A search that ends without a word ends at a break. -/
theorem srch_break (hx : Nxt nx) : ∀ (n lo hi : Nat), lo < hi → hi ≤ x.w.length → hi - lo ≤ n → x.o.known (x.q lo) = true → x.bad lo = true → (hi = x.w.length ∨ x.o.known (x.q hi) = true ∧ x.bad hi = false) →
    (x.srch nx n lo hi).2.1 = [] → (x.srch nx n lo hi).2.2 = 0 → (∀ i, i < x.w.length → x.q i ≠ []) →
    ∃ i, i < x.w.length ∧ x.srch nx n lo hi = x.spl i ∧ x.o.known (x.q i) = true ∧ x.bad i = true ∧ (i + 1 = x.w.length ∨ x.o.known (x.q (i + 1)) = true ∧ x.bad (i + 1) = false)
  | 0, lo, hi, h, _, hn, _, _, _, _, _, _ => by omega
  | n + 1, lo, hi, h, hl, hn, hk, hb, hg, hu, he, hne => by
    by_cases hgap : 1 < hi - lo
    · have ⟨h1, h2⟩ := hx lo hi hgap
      by_cases hlong : 1024 < (x.q (nx lo hi)).length
      · rw [srch_long rfl hgap hlong] at he; simp at he
      · cases hkn : x.o.known (x.q (nx lo hi)) with
        | false => rw [srch_ask rfl hgap hlong hkn] at hu; exact absurd hu (hne _ (by omega))
        | true =>
          cases hbad : x.bad (nx lo hi) with
          | true =>
            rw [srch_bad rfl hgap hlong hkn hbad] at hu he ⊢
            exact srch_break hx n _ _ h2 hl (by omega) hkn hbad hg hu he hne
          | false =>
            rw [srch_good rfl hgap hlong hkn hbad] at hu he ⊢
            exact srch_break hx n _ _ h1 (by omega) (by omega) hk hb (.inr ⟨hkn, hbad⟩) hu he hne
    · have e : hi = lo + 1 := by omega
      refine ⟨lo, by omega, srch_end (by omega), hk, hb, ?_⟩
      rw [← e]; exact hg

theorem own_cons {i : Nat} {a : Int} (h : x.w[i]? = some a) : x.own i = x.h.m.ot (x.st i).toNat a.toNat :: x.own (i + 1) := by
  have hi : i < x.w.length := by
    by_cases e : i < x.w.length
    · exact e
    · rw [List.getElem?_eq_none (by omega)] at h; simp at h
  unfold own
  rw [st_succ h, List.drop_eq_getElem_cons hi]
  rw [List.getElem?_eq_getElem hi] at h
  obtain rfl : x.w[i] = a := by simpa using h
  rfl
theorem q_cons {i : Nat} {a : Int} (h : x.w[i]? = some a) : x.ax i ++ [a] ++ x.w.drop (i + 1) = x.q i := by
  have hi : i < x.w.length := by
    by_cases e : i < x.w.length
    · exact e
    · rw [List.getElem?_eq_none (by omega)] at h; simp at h
  unfold q
  rw [List.drop_eq_getElem_cons hi]
  rw [List.getElem?_eq_getElem hi] at h
  obtain rfl : x.w[i] = a := by simpa using h
  simp
theorem wErr_part {w v : List Int} {n : Int} (h : wErr w n = 0) (hv : ∀ y ∈ v, y ∈ w) (hl : v.length ≤ 1024) : wErr v n = 0 := by
  unfold wErr at h ⊢
  split at h
  · simp at h
  · rename_i h1
    split at h
    · simp at h
    · split at h
      · simp at h
      · rename_i h3
        rw [if_neg h1, if_neg (by omega), if_neg]
        rintro ⟨y, hy, hb⟩
        exact h3 ⟨y, hv y hy, hb⟩

/-- A split that is found is one. -/
theorem found (ok : x.Ok) (hl : x.o.lens) {i : Nat} (hi : i < x.w.length) (hk : x.o.known (x.q i) = true) (hb : x.bad i = true) (hg : i + 1 = x.w.length ∨ x.o.known (x.q (i + 1)) = true ∧ x.bad (i + 1) = false) (hs : (x.spl i).2.2 = 0) :
    (Ck.mk x.h x.o (x.spl i).1).err = 0 ∧ (Ck.mk x.h x.o (x.spl i).1).res = true ∧ 0 < (x.spl i).1.suf.length := by
  have hsu : x.sure i = true := by
    cases e : x.sure i with
    | true => rfl
    | false => unfold spl at hs; rw [(spl_no e).2] at hs; simp at hs
  have hsp : (x.spl i).1 = ⟨x.ax i, x.w.getD i 0, x.w.drop (i + 1)⟩ := by unfold spl; exact (spl_yes hsu).1
  obtain ⟨a, ha⟩ : ∃ a, x.w[i]? = some a := ⟨x.w[i], List.getElem?_eq_getElem hi⟩
  have hal := ans_len hl hk
  rw [x.q_len i] at hal
  -- the first output is right
  have h0 : (x.o.ans (x.q i)).drop (x.ax i).length = x.h.m.ot (x.st i).toNat a.toNat :: (x.o.ans (x.q i)).drop ((x.ax i).length + 1) := by
    have hlt : (x.ax i).length < (x.o.ans (x.q i)).length := by omega
    rw [List.drop_eq_getElem_cons hlt]
    unfold sure at hsu
    have := of_decide_eq_true hsu
    rw [getD_of_some ha, getD_of_some (List.getElem?_eq_getElem hlt)] at this
    rw [this]
  have h1 : (x.o.ans (x.q i)).drop ((x.ax i).length + 1) ≠ x.own (i + 1) := by
    intro e
    unfold bad at hb
    rw [h0, own_cons ha, e] at hb
    simp at hb
  have hlast : i + 1 ≠ x.w.length := by
    intro e
    apply h1
    have e1 : ((x.o.ans (x.q i)).drop ((x.ax i).length + 1)).length = 0 := by rw [List.length_drop]; omega
    have e2 : (x.own (i + 1)).length = 0 := by rw [x.own_len]; omega
    rw [List.length_eq_zero_iff.1 e1, List.length_eq_zero_iff.1 e2]
  obtain ⟨hk2, hb2⟩ : x.o.known (x.q (i + 1)) = true ∧ x.bad (i + 1) = false := by
    rcases hg with hg | hg
    · exact absurd hg hlast
    · exact hg
  have hgood : (x.o.ans (x.q (i + 1))).drop (x.ax (i + 1)).length = x.own (i + 1) := by
    unfold bad at hb2; simpa using hb2
  have hxa := ok.w a (List.mem_of_getElem? ha)
  have hst := ok.st i
  have hen : x.h.m.endW x.h.m.start (x.ax i ++ [a]) = x.st (i + 1) := by rw [Mach.endW_snoc, (ok.ax i).2.2, st_succ ha]
  have hu : (Ck.mk x.h x.o (x.spl i).1).u = x.ax i ++ [a] := by unfold Ck.u; rw [hsp]; simp only; rw [getD_of_some ha]
  have hv : (Ck.mk x.h x.o (x.spl i).1).v = x.ax (i + 1) := by unfold Ck.v; rw [hu]; simp only; rw [hen]; rfl
  have hsuf : (Ck.mk x.h x.o (x.spl i).1).s.suf = x.w.drop (i + 1) := by simp only; rw [hsp]
  have hww : wErr x.w x.h.m.inputs = 0 := by
    have i0 := ok.h.m.i0
    have i1 := ok.h.m.i1
    have hlw := ok.len
    unfold wErr
    rw [if_neg (by omega), if_neg (by omega), if_neg]
    rintro ⟨y, hy, hb⟩
    have := ok.w y hy
    omega
  have herr : (Ck.mk x.h x.o (x.spl i).1).err = 0 := by
    have h2 : wErr (x.ax i) x.h.m.inputs = 0 := (ok.h.word (x.st i).toNat (by have := ok.h.len; omega)).1
    unfold Ck.err
    rw [hsp]
    simp only
    have hme : x.h.err = 0 := by
      unfold Hy.err
      have hsts : x.h.stsErr x.h.acc.length = 0 := by
        have : ∀ k, k ≤ x.h.acc.length → x.h.stsErr k = 0 := by
          intro k
          induction k with
          | zero => intro _; rfl
          | succ k ih =>
            intro hk3
            show (if x.h.stsErr k = 0 then x.h.stErr k else x.h.stsErr k) = 0
            rw [ih (by omega), if_pos rfl]
            have hw3 := ok.h.word k (by omega)
            unfold Hy.stErr
            rw [if_neg (by simp [hw3.1]), if_neg (by simp [hw3.2])]
        exact this _ (Nat.le_refl _)
      rw [if_neg (by simp [x.h.m.err_of_ok ok.h.m]), if_neg (by simp [ok.h.len]), if_neg (by simp [hsts]), if_neg (by simp [ok.h.start])]
    rw [if_neg (by simp [hme]), if_neg (by simp [ok.inp]), if_neg (by simp [h2]), if_neg (by rw [getD_of_some ha]; omega)]
    exact wErr_part hww (fun y hy => List.mem_of_mem_drop hy) (by rw [List.length_drop]; have := ok.len; omega)
  refine ⟨herr, ?_, by rw [hsp]; simp only; rw [List.length_drop]; omega⟩
  unfold Ck.res
  rw [if_pos herr]
  unfold Ck.tst
  rw [hu, hv, hsuf]
  have e1 : x.ax i ++ [a] ++ x.w.drop (i + 1) = x.q i := q_cons ha
  have e2 : x.ax (i + 1) ++ x.w.drop (i + 1) = x.q (i + 1) := rfl
  simp only [e1, e2, hk, hk2, hgood, Bool.true_and, Bool.not_eq_true', decide_eq_false_iff_not]
  simpa using h1
theorem res_found (hx : Nxt nx) (hl : x.o.lens) (h1 : (x.res nx).2.1 = []) (h2 : (x.res nx).2.2 = 0) : (Ck.mk x.h x.o (x.res nx).1).err = 0 ∧ (Ck.mk x.h x.o (x.res nx).1).res = true ∧ 0 < (x.res nx).1.suf.length := by
  have hae : x.argErr = 0 := by
    by_cases e : x.argErr = 0
    · exact e
    · unfold res at h2; rw [if_pos e] at h2; exact absurd h2 e
  have ok := ok_of hae
  have hr : x.res nx = x.srch nx x.w.length 0 x.w.length := by unfold res; rw [if_neg (by simp [hae])]
  rw [hr] at h1 h2 ⊢
  obtain ⟨i, hi, hs, hk, hb, hg⟩ := srch_break hx x.w.length 0 x.w.length ok.pos (Nat.le_refl _) (by omega) ok.kn0 ok.bad0 (.inl rfl) h1 h2 (fun i hi e => by
    have := congrArg List.length e
    rw [x.q_len] at this
    simp at this; omega)
  rw [hs] at h2 ⊢
  exact found ok hl hi hk hb hg h2
end Sj
theorem Ck.sym_of {x : Ck} (h : x.err = 0) : i64 x.s.sym := by
  rcases Ck.cases (x := x) with ⟨h1, h2, _⟩ | ⟨_, _, _, h2, _⟩ | ⟨_, _, _, h1, h2, _⟩ | ⟨_, _, _, _, _, h2, _⟩ | ⟨_, _, _, _, _, h1, h2, _⟩ | ⟨ok, _, _, _, h2, _⟩
  · rw [h2] at h; exact absurd h h1
  · rw [h2] at h; simp at h
  · rw [h2] at h; exact absurd h h1
  · rw [h2] at h; simp at h
  · rw [h2] at h; exact absurd h h1
  · have := ok.m.i1
    unfold i64; omega
end Go.Proofs.Ytlgdijgfphedpaa
/- The law of chapter 25 on what is shown. No condition. -/
namespace Go.Proofs.Ytlgdijgfphedpaa
open Go.RowKit
section
variable {M M' M'' M3 : Nat → Prop} {w : World} {an ao ac a b b2 : Option Addr} {cn co cc c d d2 : Nat} {x : Sj}
set_option maxRecDepth 100000 in
set_option maxHeartbeats 16000000 in
theorem lshow_any (hh : Hp M w an cn ao co ac cc x.h) (ho : Os M' w a c x.o) (hw : Sl M'' w b d x.w) (lin : Bool) :
    Calls Try.prog 7 #[hyV x.h an cn ao co ac cc, obV x.o a c, .slice b x.w.length d, .bool lin] w fun e w' => e = .returned (.bool true) ∧ Below w.heap.size w w' := by
  have hB0 := ((Below.refl w.heap.size w).alloc (Nat.le_refl _) (hyO x.h an cn ao co ac cc)).alloc (by simp) (obO x.o a c)
  obtain ⟨hx0, hy0⟩ := h5o2 (an := an) (cn := cn) (ao := ao) (co := co) (ac := ac) (cc := cc) (a := a) (c := c) (h := x.h) (o := x.o) w
  have hz0 : w.heap.size + 2 ≤ ((w.alloc (hyO x.h an cn ao co ac cc)).alloc (obO x.o a c)).heap.size := by simp
  have HH := Lib.hid hh
  have HO := Lib.hid ho
  have HW := Lib.hid hw
  have hwl := hw.le
  have HC := gr25_any (HH.out.below hB0) (HO.out.below hB0)
  clear hh ho hw
  have hcase : (gr25 x.h x.o = true) ∨ (gr25 x.h x.o = false ∧ 1100 < x.w.length) ∨ (gr25 x.h x.o = false ∧ x.w.length ≤ 1100) := by
    cases hg : gr25 x.h x.o with
    | true => exact .inl rfl
    | false => simp only [true_and, Bool.false_eq_true, false_or]; omega
  rcases hcase with hg | ⟨hg, hl1⟩ | ⟨hg, hl1⟩
  iterate 2
    · rw [hg] at HC
      have HC := Lib.hid HC
      clear hg
      go_enter Try.func7, Try.ntmps7
      go_wp2_with fail
      generalize (w.alloc (hyO x.h an cn ao co ac cc)).alloc (obO x.o a c) = w0 at *
      refine (HC.out).mono ?_
      rintro e w1 ⟨rfl, hb1⟩
      have hB1 := hB0.trans (hb1.mono (by omega))
      have hz1 : w.heap.size ≤ w1.heap.size := hB1.size
      go_wp2_with fail
      refine (aw25_any).mono ?_
      rintro e w2 ⟨rfl, hb2⟩
      have hB2 := hB1.trans (hb2.mono hz1)
      go_wp2
      go_ret
      exact ⟨rfl, hB2⟩
  rw [hg] at HC
  have HC := Lib.hid HC
  clear hg
  go_enter Try.func7, Try.ntmps7
  go_wp2_with fail
  generalize (w.alloc (hyO x.h an cn ao co ac cc)).alloc (obO x.o a c) = w0 at *
  refine (HC.out).mono ?_
  rintro e w1 ⟨rfl, hb1⟩
  have hB1 := hB0.trans (hb1.mono (by omega))
  have hx1 := hx0.below hb1 (by omega)
  have hy1 := hy0.below hb1 (by omega)
  have hz1 : w.heap.size + 2 ≤ w1.heap.size := by have := hb1.size; omega
  clear HC hb1 hB0 hx0 hy0 hz0
  have HC := Lib.hid (validO_any (HO.out.below hB1))
  go_wp2_with fail
  refine (HC.out).mono ?_
  rintro e w2 ⟨rfl, hb2⟩
  have hB2 := hB1.trans (hb2.mono (by omega))
  have hx2 := hx1.below hb2 (by omega)
  have hy2 := hy1.below hb2 (by omega)
  have hz2 : w.heap.size + 2 ≤ w2.heap.size := by have := hb2.size; omega
  clear HC hb2 hB1 hx1 hy1 hz1
  by_cases he : x.o.err = 0
  rotate_left
  · have heb : (x.o.err != 0) = true := by simp [he]
    clear he
    have hz2' : w.heap.size ≤ w2.heap.size := by omega
    go_wp2_with fail
    refine (aw25_any).mono ?_
    rintro e w3 ⟨rfl, hb3⟩
    have hB3 := hB2.trans (hb3.mono hz2')
    go_wp2
    go_ret
    exact ⟨rfl, hB3⟩
  have heb : (x.o.err != 0) = false := by simp [he]
  have HL := Lib.hid (Ob.err_lens he)
  have HC := Lib.hid (find_any (HH.out.below hB2) (HO.out.below hB2) (HW.out.below hB2) HL)
  clear he
  go_wp2_with fail
  refine (HC.out).mono ?_
  rintro e w3 ⟨⟨a1, c1, l1, a2, c2, l2, sy, a3, c3, l3, er, rfl, hr1, hp1, hp2, hp3⟩, hb3⟩
  have hB3 := hB2.trans (hb3.mono (by omega))
  have hx3 := hx2.below hb3 (by omega)
  have hy3 := hy2.below hb3 (by omega)
  have hz3 : w.heap.size + 2 ≤ w3.heap.size := by have := hb3.size; omega
  clear HC hb3 hB2 hx2 hy2 hz2
  obtain ⟨q, hq⟩ : ∃ q, q = w3.heap.size := ⟨_, rfl⟩
  have hbA := (Below.refl w3.heap.size w3).alloc (Nat.le_refl _) (.cells #[.slice a1 l1.length c1, .int .i64 sy, .slice a2 l2.length c2] 35)
  have hBA := hB3.trans (hbA.mono (by omega))
  have hxA := hx3.below hbA (by omega)
  have hyA := hy3.below hbA (by omega)
  have hQA := heap_alloc_new w3 (.cells #[.slice a1 l1.length c1, .int .i64 sy, .slice a2 l2.length c2] 35)
  rw [← hq] at hQA
  have hqA : q < (w3.alloc (.cells #[.slice a1 l1.length c1, .int .i64 sy, .slice a2 l2.length c2] 35)).heap.size := by simp; omega
  have HQ := Lib.hid hQA
  have HP1 := Lib.hid (fal (hp1.below hbA))
  have HP2 := Lib.hid (fal (hp2.below hbA))
  have HP3 := Lib.hid (fal (hp3.below hbA))
  have hqw : w.heap.size + 2 ≤ q := by omega
  have hn1 := hp1.le
  have hn2 := hp2.le
  have hn3 := hp3.le
  have HX : Hid (∃ nx, Sj.Nxt nx ∧ x.res nx = (⟨l1, sy, l2⟩, l3, er)) := ⟨_, Sj.mid_nxt, hr1.out⟩
  clear hp1 hp2 hp3 hbA hx3 hy3 hB3 hQA hr1
  cases lin
  case' true =>
    have HC := Lib.hid (lin_any (HH.out.below hBA) (HO.out.below hBA) (HW.out.below hBA) HL)
    go_wp2_with fail
    rw [← hq]
    clear hq hz3
    generalize hgg : w3.alloc (.cells #[.slice a1 l1.length c1, .int .i64 sy, .slice a2 l2.length c2] 35) = w4 at *
    clear hgg
    refine (HC.out).mono ?_
    clear HX HP1 HP2 HP3 hn1 hn2 hn3
    rintro e w5 ⟨⟨a1', c1', l1', a2', c2', l2', sy', a3', c3', l3', er', rfl, hr2, hp1, hp2, hp3⟩, hb5⟩
    have hB5 := hBA.trans (hb5.mono (by omega))
    have hx5 := hxA.below hb5 (by omega)
    have hy5 := hyA.below hb5 (by omega)
    have hR5 := (hb5.block q hqA).trans HQ.out
    have hq5 : q < w5.heap.size := Nat.lt_of_lt_of_le hqA hb5.size
    obtain ⟨⟨k0, k1, k2⟩, kf⟩ := cells3 hR5
    have HR6 := Lib.hid (set3 (y0 := .slice a1' l1'.length c1') (y1 := .int .i64 sy') (y2 := .slice a2' l2'.length c2') hR5)
    have HB6 := Lib.hid (bel_st3 hB5 (g := q) (y0 := .slice a1' l1'.length c1') (y1 := .int .i64 sy') (y2 := .slice a2' l2'.length c2') (by omega))
    have hb6 := bel_st3 (Below.refl (w.heap.size + 2) w5) (g := q) (y0 := .slice a1' l1'.length c1') (y1 := .int .i64 sy') (y2 := .slice a2' l2'.length c2') (by omega)
    have HX6 := Lib.hid (And.intro (hx5.below hb6 (by omega)) (hy5.below hb6 (by omega)))
    have HP1 := Lib.hid (fal (hp1.st3 (g := q) (n := w.heap.size) (y0 := .slice a1' l1'.length c1') (y1 := .int .i64 sy') (y2 := .slice a2' l2'.length c2') hqA (by omega)))
    have HP2 := Lib.hid (fal (hp2.st3 (g := q) (n := w.heap.size) (y0 := .slice a1' l1'.length c1') (y1 := .int .i64 sy') (y2 := .slice a2' l2'.length c2') hqA (by omega)))
    have HP3 := Lib.hid (fal (hp3.st3 (g := q) (n := w.heap.size) (y0 := .slice a1' l1'.length c1') (y1 := .int .i64 sy') (y2 := .slice a2' l2'.length c2') hqA (by omega)))
    have HX : Hid (∃ nx, Sj.Nxt nx ∧ x.res nx = (⟨l1', sy', l2'⟩, l3', er')) := ⟨_, Sj.nxt_nxt, hr2.out⟩
    have hn1 := hp1.le
    have hn2 := hp2.le
    have hn3 := hp3.le
    have hz6 : q < (st3 w5 q (.slice a1' l1'.length c1') (.int .i64 sy') (.slice a2' l2'.length c2')).heap.size := by rw [size_st3]; exact hq5
    clear hp1 hp2 hp3 hr2 hb5 hB5 hx5 hy5 hR5 hb6 hBA hxA hyA hqA HQ HC hq5
    go_upto_region 6 with (fail)
    dsimp only [st3] at HR6 HB6 HX6 HP1 HP2 HP3 hz6
    generalize hgg : (((w5.setCell ⟨q, 0, none⟩ (.slice a1' l1'.length c1')).setCell ⟨q, 1, none⟩ (.int .i64 sy')).setCell ⟨q, 2, none⟩ (.slice a2' l2'.length c2')) = w6 at *
    clear hgg k0 k1 k2 kf
    have HQ := HR6
    have hB6 := HB6.out
    obtain ⟨hx6, hy6⟩ := HX6.out
    have hq6 := hz6
    clear HR6 HB6 HX6 hz6
  case' false =>
    go_upto_region 6 with (fail)
    rw [← hq]
    clear hq hz3
    generalize hgg : w3.alloc (.cells #[.slice a1 l1.length c1, .int .i64 sy, .slice a2 l2.length c2] 35) = w6 at *
    clear hgg
    have hB6 := hBA
    have hx6 := hxA
    have hy6 := hyA
    have hq6 := hqA
    clear hBA hxA hyA hqA HC
    obtain ⟨a1', rfl⟩ : ∃ z, z = a1 := ⟨_, rfl⟩
    obtain ⟨c1', rfl⟩ : ∃ z, z = c1 := ⟨_, rfl⟩
    obtain ⟨l1', rfl⟩ : ∃ z, z = l1 := ⟨_, rfl⟩
    obtain ⟨a2', rfl⟩ : ∃ z, z = a2 := ⟨_, rfl⟩
    obtain ⟨c2', rfl⟩ : ∃ z, z = c2 := ⟨_, rfl⟩
    obtain ⟨l2', rfl⟩ : ∃ z, z = l2 := ⟨_, rfl⟩
    obtain ⟨sy', rfl⟩ : ∃ z, z = sy := ⟨_, rfl⟩
    obtain ⟨a3', rfl⟩ : ∃ z, z = a3 := ⟨_, rfl⟩
    obtain ⟨c3', rfl⟩ : ∃ z, z = c3 := ⟨_, rfl⟩
    obtain ⟨l3', rfl⟩ : ∃ z, z = l3 := ⟨_, rfl⟩
    obtain ⟨er', rfl⟩ : ∃ z, z = er := ⟨_, rfl⟩
  all_goals
    have hz6 : w.heap.size + 2 ≤ w6.heap.size := by omega
    have hQc := cells3 HQ.out
    obtain ⟨⟨q0, q1, q2⟩, -⟩ := hQc
    obtain ⟨nx, hnx, hres⟩ := HX.out
    have HNX := Lib.hid hnx
    have HRS := Lib.hid hres
    have HE := Lib.hid (Sj.res_err (x := x) (nx := nx))
    rw [hres] at HE
    clear HX hnx hres
    by_cases her : er' = 0
    · by_cases hl3 : l3' = []
      · have heb : (er' != 0) = false := by simp [her]
        have hlb : l3'.length = 0 := by simp [hl3]
        have hF := Sj.res_found HNX.out HL.out (by rw [HRS.out]; exact hl3) (by rw [HRS.out]; exact her)
        rw [HRS.out] at hF
        have HF := Lib.hid hF
        have hsu : 0 < l2'.length := hF.2.2
        have HSY : Hid (i64 sy') := Ck.sym_of hF.1
        have HC := check_any (x := ⟨x.h, x.o, ⟨l1', sy', l2'⟩⟩) (HH.out.below hB6) (HO.out.below hB6) HP1.out HP2.out HSY.out HL
        rw [hF.1, hF.2.1] at HC
        have HC := Lib.hid HC
        clear her hl3 hF
        go_wp2_with fail
        refine (HC.out).mono ?_
        rintro e w7 ⟨rfl, hb7⟩
        have hB7 := hB6.trans (hb7.mono (by omega))
        have hz7 : w.heap.size ≤ w7.heap.size := hB7.size
        have q27 := (hb7.cell (p := ⟨q, 2, none⟩) hq6).trans q2
        clear hb7 hB6 q0 q1 q2 HC
        go_wp2_with fail
        refine (aw25_any).mono ?_
        rintro e w8 ⟨rfl, hb8⟩
        have hB8 := hB7.trans (hb8.mono hz7)
        clear q27
        go_wp2
        go_ret
        exact ⟨rfl, hB8⟩
      · have heb : (er' != 0) = false := by simp [her]
        have hlb : 0 < l3'.length := List.length_pos_iff.2 hl3
        obtain ⟨hkn, hno⟩ := HE.out.2 hl3
        obtain ⟨rfl, rfl, rfl⟩ : l1' = [] ∧ sy' = 0 ∧ l2' = [] := by simpa [Sj.noS] using hno
        have HC := ansR_any (HO.out.below hB6) HP3.out HL
        rw [show x.o.known l3' = false from hkn] at HC
        have HC := Lib.hid HC
        clear her hl3 hkn hno
        go_wp2_with fail
        refine (HC.out).mono ?_
        rintro e w7 ⟨a7, c7, l7, rfl, -, -, hb7⟩
        have hB7 := hB6.trans (hb7.mono (by omega))
        have hz7 : w.heap.size + 2 ≤ w7.heap.size := by have := hb7.size; omega
        have q07 := (hb7.cell (p := ⟨q, 0, none⟩) hq6).trans q0
        have q17 := (hb7.cell (p := ⟨q, 1, none⟩) hq6).trans q1
        have q27 := (hb7.cell (p := ⟨q, 2, none⟩) hq6).trans q2
        have HP1 := Lib.hid (HP1.out.below hb7)
        have HP2 := Lib.hid (HP2.out.below hb7)
        have HC := (sameS_any (s := ⟨[], 0, []⟩) (t := ⟨[], 0, []⟩) (a1 := a1') (c1 := c1') (a2 := a2') (c2 := c2') (b1 := none) (d1 := 0) (b2 := none) (d2 := 0) HP1.out HP2.out (snil (fun _ => False) _ _) (snil (fun _ => False) _ _))
        rw [show decide ((⟨[], 0, []⟩ : Sp) = ⟨[], 0, []⟩) = true from by decide] at HC
        have HC := Lib.hid HC
        clear hb7 hB6 q0 q1 q2
        go_wp2_with fail
        refine (HC.out).mono ?_
        rintro e w8 ⟨rfl, hb8⟩
        have hB8 := hB7.trans (hb8.mono (by omega))
        have hz8 : w.heap.size ≤ w8.heap.size := hB8.size
        clear q07 q17 q27 hb8 hB7
        go_wp2_with fail
        refine (aw25_any).mono ?_
        rintro e w9 ⟨rfl, hb9⟩
        have hB9 := hB8.trans (hb9.mono hz8)
        go_wp2
        go_ret
        exact ⟨rfl, hB9⟩
    · have heb : (er' != 0) = true := by simp [her]
      obtain ⟨hl3, hno⟩ := HE.out.1 her
      obtain ⟨rfl, rfl, rfl⟩ : l1' = [] ∧ sy' = 0 ∧ l2' = [] := by simpa [Sj.noS] using hno
      have hlb : l3'.length = 0 := by have : l3' = [] := hl3; simp [this]
      have HC := (sameS_any (s := ⟨[], 0, []⟩) (t := ⟨[], 0, []⟩) (a1 := a1') (c1 := c1') (a2 := a2') (c2 := c2') (b1 := none) (d1 := 0) (b2 := none) (d2 := 0) HP1.out HP2.out (snil (fun _ => False) _ _) (snil (fun _ => False) _ _))
      rw [show decide ((⟨[], 0, []⟩ : Sp) = ⟨[], 0, []⟩) = true from by decide] at HC
      have HC := Lib.hid HC
      clear her hl3 hno
      go_wp2_with fail
      refine (HC.out).mono ?_
      rintro e w8 ⟨rfl, hb8⟩
      have hB8 := hB6.trans (hb8.mono (by omega))
      have hz8 : w.heap.size ≤ w8.heap.size := hB8.size
      clear q0 q1 q2 hb8 hB6
      go_wp2_with fail
      refine (aw25_any).mono ?_
      rintro e w9 ⟨rfl, hb9⟩
      have hB9 := hB8.trans (hb9.mono hz8)
      go_wp2
      go_ret
      exact ⟨rfl, hB9⟩
end
end Go.Proofs.Ytlgdijgfphedpaa
