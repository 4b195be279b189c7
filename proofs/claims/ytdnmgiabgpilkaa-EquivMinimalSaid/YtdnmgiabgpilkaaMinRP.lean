/- The plain words for the reference's Min: the table of the classes' numbers. No condition. -/
import Derived.Test.YtdnmgiabgpilkaaMinQ
namespace Go.Proofs.Ytdnmgiabgpilkaa

/-- The number of class v in a list of states; -1 if none of them has it. -/
def posC (c : Int → Int) (l : List Int) (v : Int) : Int := if v ∈ l.map c then ((l.map c).idxOf v : Nat) else -1
theorem posC_in {c : Int → Int} {l : List Int} {x : Int} (h : c x ∈ l.map c) : posC c l (c x) = idxC c l x := by unfold posC idxC; rw [if_pos h]
theorem posC_neg {c : Int → Int} {l : List Int} {v : Int} : posC c l v < 0 ↔ v ∉ l.map c := by
  unfold posC
  by_cases h : v ∈ l.map c
  · rw [if_pos h]; constructor
    · intro h2; omega
    · intro h2; exact absurd h h2
  · rw [if_neg h]; exact ⟨fun _ => h, fun _ => by decide⟩
theorem posC_le {c : Int → Int} {l : List Int} {v : Int} : -1 ≤ posC c l v ∧ posC c l v ≤ l.length := by
  unfold posC
  by_cases h : v ∈ l.map c
  · rw [if_pos h]
    have := List.idxOf_lt_length_of_mem h
    rw [List.length_map] at this
    omega
  · rw [if_neg h]; omega

/-- The table of numbers when the states of l have been entered. -/
structure NumC (n : Nat) (c : Int → Int) (l num : List Int) : Prop where
  len : num.length = n
  val : ∀ v, v < n → num[v]? = some (posC c l v)
theorem NumC.init {n : Nat} {c : Int → Int} {num : List Int} (h : num = List.replicate n (-1)) : NumC n c [] num := by
  subst h
  exact ⟨by simp, fun v hv => by rw [List.getElem?_replicate, if_pos hv]; simp [posC]⟩
theorem NumC.push {n : Nat} {c : Int → Int} {l num : List Int} (h : NumC n c l num) {x : Int} {v : Nat} (hv : v < n) (hx : c x = v) (hn : c x ∉ l.map c) : NumC n c (l ++ [x]) (num.set v l.length) := by
  refine ⟨by rw [List.length_set]; exact h.len, fun u hu => ?_⟩
  by_cases e : u = v
  · subst e
    rw [List.getElem?_set_self (by rw [h.len]; exact hu), ← hx, posC_in (by simp), idxC_new c hn]
  · rw [List.getElem?_set_ne (by omega), h.val u hu]
    unfold posC
    rw [List.map_append, List.map_cons, List.map_nil, hx]
    by_cases hm : (u : Int) ∈ l.map c
    · rw [if_pos hm, if_pos (by rw [List.mem_append]; exact .inl hm), List.idxOf_append, if_pos hm]
    · have hm2 : (u : Int) ∉ l.map c ++ [(v : Int)] := by
        rw [List.mem_append, List.mem_singleton]
        intro h1
        rcases h1 with h1 | h1
        · exact hm h1
        · omega
      rw [if_neg hm, if_neg hm2]
theorem Mach.cl_range {m : Mach} (ok : m.Ok) {x : Int} (_h0 : 0 ≤ x) (h1 : x < m.next.length) : 0 ≤ m.cl x ∧ m.cl x < m.next.length := by
  obtain ⟨E, -, hc⟩ := Mach.part_canon ok ok.n0
  have h := canon_range E m.next.length
  have h2 := h.2.2 x.toNat (by omega)
  unfold Mach.cl
  rw [hc]
  omega
theorem visitC_all (c : Int → Int) {Q : Int → Prop} : ∀ (r l : List Int), (∀ x ∈ l, Q x) → (∀ x ∈ r, Q x) → ∀ x ∈ visitC c l r, Q x
  | [], _, hl, _ => hl
  | t :: r, l, hl, hr => by
    simp only [visitC]
    refine visitC_all c r _ ?_ fun x hx => hr x (by simp [hx])
    split
    · exact hl
    · intro x hx
      rw [List.mem_append, List.mem_singleton] at hx
      rcases hx with hx | rfl
      · exact hl x hx
      · exact hr _ (by simp)
theorem visitC_nodup (c : Int → Int) : ∀ (r l : List Int), (l.map c).Nodup → ((visitC c l r).map c).Nodup
  | [], _, h => h
  | t :: r, l, h => by
    simp only [visitC]
    refine visitC_nodup c r _ ?_
    split
    · exact h
    · rename_i hn
      rw [List.map_append, List.nodup_append]
      refine ⟨h, by simp, fun a ha b hb => ?_⟩
      simp only [List.map_cons, List.map_nil, List.mem_singleton] at hb
      subst hb
      intro e
      exact hn (e ▸ ha)

/-- The list stays among the states, one of each class. -/
structure Good (m : Mach) (l : List Int) : Prop where
  range : ∀ x ∈ l, 0 ≤ x ∧ x < m.next.length
  nodup : (l.map m.cl).Nodup
theorem Good.le {m : Mach} (ok : m.Ok) {l : List Int} (h : Good m l) : l.length ≤ m.next.length := by
  have := nodup_le m.next.length (l.map m.cl) h.nodup (fun y hy => by
    obtain ⟨x, hx, rfl⟩ := List.mem_map.1 hy
    obtain ⟨h0, h1⟩ := h.range x hx
    exact Mach.cl_range ok h0 h1)
  rwa [List.length_map] at this
theorem Good.visit {m : Mach} {l r : List Int} (h : Good m l) (hr : ∀ x ∈ r, 0 ≤ x ∧ x < m.next.length) : Good m (visitC m.cl l r) :=
  ⟨visitC_all _ r l h.range hr, visitC_nodup _ r l h.nodup⟩
theorem Good.qbfs {m : Mach} (ok : m.Ok) : ∀ i, Good m (m.qbfs m.cl i)
  | 0 => ⟨fun x hx => by simp [Mach.qbfs] at hx; subst hx; exact ⟨ok.s0, ok.s1⟩, by simp [Mach.qbfs]⟩
  | i + 1 => by
    have ih := Good.qbfs ok i
    rw [Mach.qbfs_succ]
    split
    · rename_i h
      refine ih.visit fun x hx => Mach.row_range ok ?_ hx
      have := ih.range _ (List.getElem_mem h)
      rw [List.getD_eq_getElem?_getD, List.getElem?_eq_getElem h, Option.getD_some]
      omega
    · exact ih

/-- One state of the list is worked off: what the rows are then. -/
theorem minR_step {m : Mach} {ord od : List Int} {k : Nat} {x : Int} (hx : ord[k]? = some x) (hod : od = visitC m.cl ord (m.next.getD x.toNat []))
    (hcl : ∀ z ∈ ord.take k, ∀ y ∈ m.next.getD z.toNat [], m.cl y ∈ ord.map m.cl) :
    (od.take (k + 1)).map (fun z => (m.next.getD z.toNat []).map (idxC m.cl od)) = (ord.take k).map (fun z => (m.next.getD z.toNat []).map (idxC m.cl ord)) ++ [(m.next.getD x.toNat []).map (idxC m.cl od)] ∧
    (od.take (k + 1)).map (fun z => m.out.getD z.toNat []) = (ord.take k).map (fun z => m.out.getD z.toNat []) ++ [m.out.getD x.toNat []] ∧
    ∀ z ∈ od.take (k + 1), ∀ y ∈ m.next.getD z.toNat [], m.cl y ∈ od.map m.cl := by
  have hk : k < ord.length := by
    by_cases h : k < ord.length
    · exact h
    · rw [List.getElem?_eq_none (by omega)] at hx; simp at hx
  obtain ⟨s, hs⟩ := visitC_prefix m.cl (m.next.getD x.toNat []) ord
  have ht : od.take (k + 1) = ord.take k ++ [x] := by
    rw [hod, hs, List.take_append_of_le_length (by omega), List.take_add_one, hx]; rfl
  refine ⟨?_, ?_, ?_⟩
  · rw [ht, List.map_append]
    congr 1
    apply List.map_congr_left
    intro z hz
    apply List.map_congr_left
    intro y hy
    rw [hod, hs]
    exact idxC_append m.cl (hcl z hz y hy)
  · rw [ht, List.map_append]; rfl
  · intro z hz y hy
    rw [hod, visitC_mem]
    rw [ht, List.mem_append, List.mem_singleton] at hz
    rcases hz with hz | rfl
    · exact .inl (hcl z hz y hy)
    · exact .inr (List.mem_map_of_mem hy)

/-- The list is worked off. -/
theorem minR_end {m : Mach} (h : m.err = 0) {k : Nat} (hk : ¬ k < (m.qbfs m.cl k).length) (hk2 : k ≤ m.next.length) :
    m.minOf = { inputs := m.inputs, start := 0, next := (m.qbfs m.cl k).map (fun x => (m.next.getD x.toNat []).map (idxC m.cl (m.qbfs m.cl k))), out := (m.qbfs m.cl k).map fun x => m.out.getD x.toNat [] } := by
  have ok := m.ok_of_err h
  obtain ⟨h1, -, -⟩ := Mach.quot_reach ok (Mach.cl_cong ok)
  have h2 := Mach.qbfs_stop m.cl hk m.next.length hk2
  rw [Mach.minOf_eq h]
  unfold Mach.minF
  rw [← h1, h2]

/-- One more entry of a row. -/
theorem minR_entry {m : Mach} {ord od od2 r : List Int} {j : Nat} {t : Int} (hj : r[j]? = some t) (hod : od = visitC m.cl ord (r.take j)) (hod2 : od2 = visitC m.cl ord (r.take (j + 1))) :
    (r.take (j + 1)).map (idxC m.cl od2) = (r.take j).map (idxC m.cl od) ++ [idxC m.cl od2 t] ∧ m.cl t ∈ od2.map m.cl ∧ od2 = if m.cl t ∈ od.map m.cl then od else od ++ [t] := by
  have ht : r.take (j + 1) = r.take j ++ [t] := by rw [List.take_add_one, hj]; rfl
  have h2 : od2 = if m.cl t ∈ od.map m.cl then od else od ++ [t] := by rw [hod2, ht, visitC_snoc, ← hod]
  refine ⟨?_, ?_, h2⟩
  · rw [ht, List.map_append]
    congr 1
    apply List.map_congr_left
    intro y hy
    have hin : m.cl y ∈ od.map m.cl := by rw [hod, visitC_mem]; exact .inr (List.mem_map_of_mem hy)
    rw [h2]
    split
    · rfl
    · exact idxC_append m.cl hin
  · rw [hod2, visitC_mem, ht]; exact .inr (by simp)
end Go.Proofs.Ytdnmgiabgpilkaa
