/- The plain words for the reference's Min: the breadth-first list of classes. Condition where named: like states have like successors. -/
import Derived.Test.YtdnmgiabgpilkaaBfs
namespace Go.Proofs.Ytdnmgiabgpilkaa

/-- The list with those of the row whose class is new, in order. -/
def visitC (c : Int → Int) : List Int → List Int → List Int
  | l, [] => l
  | l, t :: r => visitC c (if c t ∈ l.map c then l else l ++ [t]) r

theorem visitC_append (c : Int → Int) : ∀ (r r' l : List Int), visitC c l (r ++ r') = visitC c (visitC c l r) r'
  | [], _, _ => rfl
  | _ :: r, r', _ => visitC_append c r r' _
theorem visitC_snoc (c : Int → Int) (l r : List Int) (t : Int) : visitC c l (r ++ [t]) = if c t ∈ (visitC c l r).map c then visitC c l r else visitC c l r ++ [t] := by
  rw [visitC_append]; rfl
theorem visitC_prefix (c : Int → Int) : ∀ (r l : List Int), ∃ s, visitC c l r = l ++ s
  | [], l => ⟨[], by simp [visitC]⟩
  | t :: r, l => by
    obtain ⟨s, hs⟩ := visitC_prefix c r (if c t ∈ l.map c then l else l ++ [t])
    simp only [visitC, hs]
    split
    · exact ⟨s, rfl⟩
    · exact ⟨t :: s, by simp⟩
theorem visitC_mem (c : Int → Int) : ∀ (r l : List Int) (y : Int), y ∈ (visitC c l r).map c ↔ y ∈ l.map c ∨ y ∈ r.map c
  | [], l, y => by simp [visitC]
  | t :: r, l, y => by
    simp only [visitC, visitC_mem c r]
    split
    · rename_i h
      rw [List.map_cons, List.mem_cons]
      constructor
      · rintro (h1 | h1)
        · exact .inl h1
        · exact .inr (.inr h1)
      · rintro (h1 | h1 | h1)
        · exact .inl h1
        · exact .inl (by rw [h1]; exact h)
        · exact .inr h1
    · rw [List.map_append, List.mem_append, List.map_cons, List.map_nil, List.mem_singleton, List.map_cons, List.mem_cons]
      exact or_assoc
theorem visitC_none (c : Int → Int) : ∀ (r l : List Int), (∀ x ∈ r, c x ∈ l.map c) → visitC c l r = l
  | [], _, _ => rfl
  | t :: r, l, h => by
    simp only [visitC]
    rw [if_pos (h t (by simp))]
    exact visitC_none c r l fun x hx => h x (by simp [hx])

theorem visitC_len (c : Int → Int) : ∀ (r l : List Int), (visitC c l r).length ≤ l.length + r.length
  | [], _ => Nat.le_refl _
  | t :: r, l => by
    have := visitC_len c r (if c t ∈ l.map c then l else l ++ [t])
    simp only [visitC, List.length_cons]
    split at this
    · rename_i h; rw [if_pos h]; omega
    · rename_i h; rw [if_neg h]; rw [List.length_append, List.length_singleton] at this; omega

/-- The first of each class. -/
def firsts (c : Int → Int) (l : List Int) : List Int := visitC c [] l
theorem firsts_snoc (c : Int → Int) (l : List Int) (t : Int) : firsts c (l ++ [t]) = if c t ∈ (firsts c l).map c then firsts c l else firsts c l ++ [t] := visitC_snoc c [] l t
theorem firsts_mem (c : Int → Int) (l : List Int) (y : Int) : y ∈ (firsts c l).map c ↔ y ∈ l.map c := by
  unfold firsts; rw [visitC_mem]; simp
theorem firsts_visit (c : Int → Int) : ∀ (r l : List Int), firsts c (visit l r) = visitC c (firsts c l) r
  | [], _ => rfl
  | t :: r, l => by
    simp only [visit, visitC]
    rw [firsts_visit c r]
    by_cases h : t ∈ l
    · rw [if_pos h, if_pos ((firsts_mem c l _).2 (List.mem_map_of_mem h))]
    · rw [if_neg h, firsts_snoc]
theorem firsts_prefix (c : Int → Int) (l r : List Int) : ∃ s, firsts c (l ++ r) = firsts c l ++ s := by
  unfold firsts; rw [visitC_append]; exact visitC_prefix c r _

namespace Mach
variable (m : Mach)
/-- The reference's list after i rounds. -/
def qbfs (c : Int → Int) : Nat → List Int
  | 0 => [m.start]
  | i + 1 => if i < (qbfs c i).length then visitC c (qbfs c i) (m.next.getD ((qbfs c i).getD i 0).toNat []) else qbfs c i
theorem qbfs_succ (c : Int → Int) (i : Nat) : m.qbfs c (i + 1) = if i < (m.qbfs c i).length then visitC c (m.qbfs c i) (m.next.getD ((m.qbfs c i).getD i 0).toNat []) else m.qbfs c i := rfl
variable {m}
theorem qbfs_stop (c : Int → Int) {i : Nat} (h : ¬ i < (m.qbfs c i).length) : ∀ j, i ≤ j → m.qbfs c j = m.qbfs c i := by
  intro j hj
  induction j with
  | zero => obtain rfl : i = 0 := by omega
            rfl
  | succ j ih =>
    by_cases e : i = j + 1
    · rw [e]
    · rw [qbfs_succ, ih (by omega), if_neg (by omega)]

/-- Like states have like successors. -/
def Cong (m : Mach) (c : Int → Int) : Prop := ∀ s t : Int, 0 ≤ s → s < m.next.length → 0 ≤ t → t < m.next.length → c s = c t → ∀ x ∈ m.next.getD s.toNat [], ∃ y ∈ m.next.getD t.toNat [], c x = c y

theorem quot_inv (ok : m.Ok) {c : Int → Int} (hc : m.Cong c) : ∀ i, firsts c (m.bfs i) = m.qbfs c (firsts c ((m.bfs i).take i)).length ∧
    ∀ x ∈ (m.bfs i).take i, ∀ y ∈ m.next.getD x.toNat [], c y ∈ (firsts c (m.bfs i)).map c
  | 0 => ⟨by simp [bfs, firsts, visitC, qbfs], by simp⟩
  | i + 1 => by
    obtain ⟨h1, h2⟩ := quot_inv ok hc i
    obtain ⟨-, hr, -⟩ := bfs_props ok i
    by_cases hi : i < (m.bfs i).length
    · have hx : (m.bfs i).getD i 0 = (m.bfs i)[i] := by rw [List.getD_eq_getElem?_getD, List.getElem?_eq_getElem hi]; rfl
      have hxm : (m.bfs i)[i] ∈ m.bfs i := List.getElem_mem hi
      have hb : m.bfs (i + 1) = visit (m.bfs i) (m.next.getD ((m.bfs i)[i]).toNat []) := by rw [bfs_succ, if_pos hi, hx]
      have ht : (m.bfs (i + 1)).take (i + 1) = (m.bfs i).take i ++ [(m.bfs i)[i]] := by
        obtain ⟨s, hs⟩ := visit_prefix (m.next.getD ((m.bfs i)[i]).toNat []) (m.bfs i)
        rw [hb, hs, List.take_append_of_le_length (by omega), List.take_add_one, List.getElem?_eq_getElem hi]
        rfl
      have hf : firsts c (m.bfs (i + 1)) = visitC c (firsts c (m.bfs i)) (m.next.getD ((m.bfs i)[i]).toNat []) := by rw [hb, firsts_visit]
      have hsub : ∀ y, y ∈ (firsts c (m.bfs i)).map c → y ∈ (firsts c (m.bfs (i + 1))).map c := fun y hy => by rw [hf, visitC_mem]; exact .inl hy
      refine ⟨?_, fun x hx y hy => ?_⟩
      · rw [ht, firsts_snoc, hf]
        by_cases hin : c (m.bfs i)[i] ∈ (firsts c ((m.bfs i).take i)).map c
        · rw [if_pos hin, ← h1]
          apply visitC_none
          intro x hx
          obtain ⟨z, hz, hzc⟩ := List.mem_map.1 ((firsts_mem c _ _).1 hin)
          have hzm : z ∈ m.bfs i := List.mem_of_mem_take hz
          obtain ⟨y, hy, hxy⟩ := hc _ z (hr _ hxm).1 (hr _ hxm).2 (hr _ hzm).1 (hr _ hzm).2 hzc.symm x hx
          rw [hxy]
          exact h2 z hz y hy
        · rw [if_neg hin, List.length_append, List.length_singleton, qbfs_succ, ← h1]
          have hp : ∃ s, firsts c (m.bfs i) = (firsts c ((m.bfs i).take i) ++ [(m.bfs i)[i]]) ++ s := by
            have e : (m.bfs i) = ((m.bfs i).take i ++ [(m.bfs i)[i]]) ++ (m.bfs i).drop (i + 1) := by
              conv => lhs; rw [← List.take_append_drop (i + 1) (m.bfs i)]
              rw [List.take_add_one, List.getElem?_eq_getElem hi]; rfl
            obtain ⟨s, hs⟩ := firsts_prefix c ((m.bfs i).take i ++ [(m.bfs i)[i]]) ((m.bfs i).drop (i + 1))
            rw [← e, firsts_snoc, if_neg hin] at hs
            exact ⟨s, hs⟩
          obtain ⟨s, hs⟩ := hp
          have hl : (firsts c ((m.bfs i).take i)).length < (firsts c (m.bfs i)).length := by rw [hs]; simp
          have hg : (firsts c (m.bfs i)).getD (firsts c ((m.bfs i).take i)).length 0 = (m.bfs i)[i] := by
            rw [hs, List.getD_eq_getElem?_getD, List.getElem?_append_left (by simp), List.getElem?_append_right (by simp)]
            simp
          rw [if_pos hl, hg]
      · rw [ht, List.mem_append, List.mem_singleton] at hx
        rcases hx with hx | rfl
        · exact hsub _ (h2 x hx y hy)
        · rw [hf, visitC_mem]; exact .inr (List.mem_map_of_mem hy)
    · have hb : m.bfs (i + 1) = m.bfs i := by rw [bfs_succ, if_neg hi]
      rw [hb, List.take_of_length_le (show (m.bfs i).length ≤ i + 1 by omega)]
      rw [List.take_of_length_le (show (m.bfs i).length ≤ i by omega)] at h1 h2
      exact ⟨h1, h2⟩

/-- The reference's list is the first of each class of the breadth-first list. -/
theorem quot_reach (ok : m.Ok) {c : Int → Int} (hc : m.Cong c) : m.qbfs c m.next.length = firsts c m.reach ∧ ¬ (firsts c m.reach).length < (m.qbfs c (firsts c m.reach).length).length ∧ (firsts c m.reach).length ≤ m.next.length := by
  obtain ⟨h1, -⟩ := quot_inv ok hc m.next.length
  rw [List.take_of_length_le (bfs_le ok _)] at h1
  have hle : (firsts c m.reach).length ≤ m.next.length := by
    have h2 := visitC_len c m.reach []
    have h3 := bfs_le ok m.next.length
    unfold firsts reach at *
    simp at h2
    omega
  have hst : ¬ (firsts c m.reach).length < (m.qbfs c (firsts c m.reach).length).length := by
    have h1' : firsts c m.reach = m.qbfs c (firsts c m.reach).length := h1
    rw [← h1']; omega
  exact ⟨(qbfs_stop c hst _ hle).trans h1.symm, hst, hle⟩
end Mach
end Go.Proofs.Ytdnmgiabgpilkaa
