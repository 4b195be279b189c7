/- The plain law of Iso: what it maps corresponds, and the machines have no word with different outputs. Condition where named: the machines are valid. -/
import Derived.Test.YtdnmgiabgpilkaaIsoP
import Derived.Test.YtdnmgiabgpilkaaDist
namespace Go.Proofs.Ytdnmgiabgpilkaa

theorem fillL_get {x y : List Int} (hx : x.Nodup) (hr : ∀ z ∈ x, 0 ≤ z ∧ z < x.length) : ∀ k, k ≤ x.length → ∀ j (_ : j < k) (hjl : j < x.length), (fillL x y k).getD (x[j]).toNat 0 = y.getD j 0
  | 0, _, j, hj, _ => absurd hj (Nat.not_lt_zero j)
  | k + 1, hk, j, hj, hjl => by
    have hkl : k < x.length := by omega
    have hxk : x.getD k 0 = x[k] := by rw [List.getD_eq_getElem?_getD, List.getElem?_eq_getElem hkl]; rfl
    simp only [fillL, hxk]
    have h1 := hr _ (List.getElem_mem hkl)
    have h2 := hr _ (List.getElem_mem hjl)
    by_cases e : j = k
    · subst e
      rw [List.getD_eq_getElem?_getD, List.getElem?_set_self (by rw [fillL_len]; omega)]; rfl
    · have hne : x[j] ≠ x[k] := fun e2 => e ((List.getElem_inj hx).1 e2)
      rw [List.getD_eq_getElem?_getD, List.getElem?_set_ne (by omega), ← List.getD_eq_getElem?_getD]
      exact fillL_get hx hr k (by omega) j (by omega) hjl

theorem bfs_head (m : Mach) : ∀ i, (m.bfs i)[0]? = some m.start
  | 0 => by simp [Mach.bfs]
  | i + 1 => by
    have ih := bfs_head m i
    rw [Mach.bfs_succ]
    split
    · obtain ⟨s, hs⟩ := visit_prefix (m.next.getD ((m.bfs i).getD i 0).toNat []) (m.bfs i)
      rw [hs, List.getElem?_append_left]
      · exact ih
      · by_cases e : 0 < (m.bfs i).length
        · exact e
        · rw [List.getElem?_eq_none (by omega)] at ih; simp at ih
    · exact ih

theorem isoT_start {a b : Mach} (oa : a.Ok) (h : isoOk a b) : (isoT a b).getD a.start.toNat 0 = b.start := by
  obtain ⟨hnd, hr, hp⟩ := Mach.reach_props oa
  have h0 : a.reach[0]? = some a.start := bfs_head a a.next.length
  have h1 : b.reach[0]? = some b.start := bfs_head b b.next.length
  have hl : 0 < a.reach.length := hp
  have e : a.reach[0] = a.start := by rw [List.getElem?_eq_getElem hl] at h0; simpa using h0
  have hg := fillL_get (y := b.reach) hnd (fun z hz => by rw [h.1.1]; exact hr z hz) a.reach.length (Nat.le_refl _) 0 hl hl
  rw [e] at hg
  unfold isoT
  rw [hg, List.getD_eq_getElem?_getD, h1]; rfl

section
variable {a b : Mach} {to : List Int}
theorem scan_iso (h : ∀ s, s < a.next.length → ∀ i, i < a.inputs.toNat → isoAt a b to s i) {p : Pl} {l : List Pl} (hp : 0 ≤ p.s ∧ p.s < a.next.length) (hpt : to.getD p.s.toNat 0 = p.t) (hl : ∀ q ∈ l, to.getD q.s.toNat 0 = q.t) :
    ∀ x, x ≤ a.inputs.toNat → (scan a b p l x).2 = none ∧ ∀ q ∈ (scan a b p l x).1, to.getD q.s.toNat 0 = q.t
  | 0, _ => ⟨rfl, hl⟩
  | x + 1, hx => by
    obtain ⟨h1, h2⟩ := scan_iso h hp hpt hl x (by omega)
    obtain ⟨h3, h4⟩ := h p.s.toNat (by omega) x (by omega)
    rw [hpt] at h3 h4
    unfold scan
    simp only [h1]
    rw [if_neg (by simpa using h3)]
    split
    · exact ⟨rfl, h2⟩
    · refine ⟨rfl, fun q hq => ?_⟩
      rw [List.mem_append, List.mem_singleton] at hq
      rcases hq with hq | rfl
      · exact h2 q hq
      · exact h4
theorem srch_iso (oa : a.Ok) (ob : b.Ok) (hi : a.inputs = b.inputs) (h : ∀ s, s < a.next.length → ∀ i, i < a.inputs.toNat → isoAt a b to s i) {s t : Int} (hs : 0 ≤ s ∧ s < a.next.length) (ht : 0 ≤ t ∧ t < b.next.length) (hst : to.getD s.toNat 0 = t) :
    ∀ i, (srch a b s t i).2 = none ∧ ∀ q ∈ (srch a b s t i).1, to.getD q.s.toNat 0 = q.t
  | 0 => ⟨rfl, fun q hq => by simp only [srch, List.mem_singleton] at hq; subst hq; exact hst⟩
  | i + 1 => by
    obtain ⟨h1, h2⟩ := srch_iso oa ob hi h hs ht hst i
    have hg := GoodP.srch oa ob hi hs ht i
    unfold srch
    simp only [h1]
    split
    · exact ⟨rfl, h2⟩
    · rename_i p hp
      have hm := List.mem_of_getElem? hp
      have hr := hg.range p hm
      exact scan_iso h ⟨hr.1, hr.2.1⟩ (h2 p hm) h2 _ (Nat.le_refl _)
end

theorem iso_equal {a b : Mach} (hc : chk a b = 0) (h : isoOk a b) : distW a b = none := by
  obtain ⟨ea, eb, hi⟩ := chk_zero hc
  have oa := a.ok_of_err ea
  have ob := b.ok_of_err eb
  unfold distW firstW
  rw [if_pos hc]
  exact (srch_iso oa ob hi (fun s hs i hi2 => h.2 s (by rw [h.1.1]; exact hs) i hi2) ⟨oa.s0, oa.s1⟩ ⟨ob.s0, ob.s1⟩ (isoT_start oa h) _).1
theorem isoT_range {a b : Mach} (ob : b.Ok) (h : isoOk a b) : ∀ z ∈ isoT a b, 0 ≤ z ∧ z < b.next.length :=
  fillL_range ob.n0 (Mach.reach_props ob).2.1 h.1.2.2 _ (Nat.le_refl _)
theorem isoT_len (a b : Mach) : (isoT a b).length = a.reach.length := fillL_len _ _ _
end Go.Proofs.Ytdnmgiabgpilkaa
