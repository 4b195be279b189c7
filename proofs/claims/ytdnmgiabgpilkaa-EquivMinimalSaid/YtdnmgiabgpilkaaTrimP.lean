/- The plain words for Trim: reachable states renumbered. Condition where named: the machine is valid. -/
import Derived.Test.YtdnmgiabgpilkaaBfs
namespace Go.Proofs.Ytdnmgiabgpilkaa

/-- The place of x in l, 0 if there is none. -/
def numOf (l : List Int) (x : Int) : Int := if x ∈ l then (l.idxOf x : Nat) else 0

theorem numOf_snoc_self {l : List Int} {x : Int} (h : x ∉ l) : numOf (l ++ [x]) x = l.length := by
  unfold numOf
  rw [if_pos (by simp), List.idxOf_append]
  simp [h]
theorem numOf_snoc_other {l : List Int} {x y : Int} (hne : y ≠ x) : numOf (l ++ [x]) y = numOf l y := by
  unfold numOf
  by_cases h : y ∈ l
  · rw [if_pos (by simp [h]), if_pos h, List.idxOf_append, if_pos h]
  · rw [if_neg (by simp [h, hne]), if_neg h]

namespace Mach
variable (m : Mach)
def trimRow (s : Int) : List Int := (m.next.getD s.toNat []).map (numOf m.reach)
def trim : Mach := { inputs := m.inputs, start := 0, next := m.reach.map m.trimRow, out := m.reach.map fun s => m.out.getD s.toNat [] }
def nothing : Mach := { inputs := 0, start := 0, next := [], out := [] }
def trimOf : Mach := if m.err = 0 then m.trim else nothing
end Mach

/-- The table of numbers when the first k states have been entered. -/
structure Nums (n : Nat) (l : List Int) (num : List Int) : Prop where
  len : num.length = n
  val : ∀ t, t < n → num[t]? = some (numOf l t)

theorem Nums.init {n : Nat} {num : List Int} (h : num = List.replicate n 0) : Nums n [] num := by
  subst h
  exact ⟨by simp, fun t ht => by rw [List.getElem?_replicate, if_pos ht]; simp [numOf]⟩
theorem Nums.push {n : Nat} {l num : List Int} (h : Nums n l num) {x : Nat} (hx : x < n) (hn : ((x : Nat) : Int) ∉ l) : Nums n (l ++ [(x : Int)]) (num.set x l.length) := by
  refine ⟨by rw [List.length_set]; exact h.len, fun t ht => ?_⟩
  by_cases e : t = x
  · subst e
    rw [List.getElem?_set_self (by rw [h.len]; exact hx), numOf_snoc_self hn]
  · rw [List.getElem?_set_ne (by omega), h.val t ht, numOf_snoc_other (by omega)]

theorem numOf_range {l : List Int} (x : Int) (hl : 0 < l.length) : 0 ≤ numOf l x ∧ numOf l x < l.length := by
  unfold numOf
  by_cases h : x ∈ l
  · rw [if_pos h]
    have := List.idxOf_lt_length_of_mem h
    omega
  · rw [if_neg h]; omega

namespace Mach
variable {m : Mach}
theorem reach_props (ok : m.Ok) : m.reach.Nodup ∧ (∀ x ∈ m.reach, 0 ≤ x ∧ x < m.next.length) ∧ 0 < m.reach.length := bfs_props ok _
theorem reach_le (ok : m.Ok) : m.reach.length ≤ m.next.length := bfs_le ok _
theorem getD_map {α β : Type} (f : α → β) (l : List α) (d : β) {s : Nat} (hs : s < l.length) : (l.map f).getD s d = f (l[s]) := by
  rw [List.getD_eq_getElem?_getD, List.getElem?_map, List.getElem?_eq_getElem hs]; rfl
theorem trim_ok (ok : m.Ok) : m.trim.Ok := by
  obtain ⟨-, hr, hp⟩ := reach_props ok
  have hle := reach_le ok
  have hl : m.trim.next.length = m.reach.length := by simp [trim]
  have hlo : m.trim.out.length = m.reach.length := by simp [trim]
  have hn : ∀ s (hs : s < m.reach.length), m.trim.next.getD s [] = m.trimRow (m.reach[s]) := fun s hs => getD_map _ _ _ hs
  have ho : ∀ s (hs : s < m.reach.length), m.trim.out.getD s [] = m.out.getD (m.reach[s]).toNat [] := fun s hs => getD_map (fun s : Int => m.out.getD s.toNat []) _ _ hs
  have ht : ∀ s (hs : s < m.reach.length), (m.reach[s]).toNat < m.next.length := fun s hs => by have := hr _ (List.getElem_mem hs); omega
  have hlen : ∀ s (hs : s < m.reach.length), (m.trimRow (m.reach[s])).length = m.inputs.toNat := fun s hs => by
    have := ok.rn _ (ht s hs)
    unfold trimRow; rw [List.length_map]; omega
  have hn1 := ok.n1
  refine ⟨ok.i0, ok.i1, by omega, by omega, by simp [trim], by rw [hl]; simp only [trim]; omega, by omega, fun s hs => ?_, fun s hs => ?_, fun s a hs ha => ?_, fun s a hs ha => ?_⟩
  · rw [hl] at hs
    rw [hn s hs, hlen s hs]
    have := ok.i0
    show ((m.inputs.toNat : Nat) : Int) = m.inputs
    omega
  · rw [hl] at hs
    rw [ho s hs]
    exact ok.ro _ (ht s hs)
  · rw [hl] at hs
    have ha' : a < m.inputs.toNat := ha
    unfold nx
    rw [hn s hs, List.getD_eq_getElem?_getD, List.getElem?_eq_getElem (by rw [hlen s hs]; exact ha')]
    simp only [Option.getD_some]
    unfold trimRow
    rw [List.getElem_map, hl]
    exact numOf_range _ hp
  · rw [hl] at hs
    unfold ot
    rw [ho s hs]
    exact ok.ot _ a (ht s hs) ha
theorem trimOf_err (h : m.err = 0) : m.trimOf.err = 0 := by
  unfold trimOf
  rw [if_pos h]
  exact err_of_ok _ (trim_ok (ok_of_err _ h))
end Mach

theorem getElem?_map_take {α β : Type} (f : α → β) (l : List α) {k : Nat} {x : α} (h : l[k]? = some x) : (l.take (k + 1)).map f = (l.take k).map f ++ [f x] := by
  rw [List.take_add_one, h]; simp

theorem take_notin {l : List Int} (hd : l.Nodup) {k : Nat} {x : Int} (h : l[k]? = some x) : x ∉ l.take k := by
  intro hm
  obtain ⟨j, hj, he⟩ := List.getElem_of_mem hm
  rw [List.getElem_take] at he
  have hk : k < l.length := by
    by_cases e : k < l.length
    · exact e
    · rw [List.getElem?_eq_none (by omega)] at h; simp at h
  have h2 : l[k] = x := by rw [List.getElem?_eq_getElem hk] at h; simpa using h
  have hj2 : j < k := by rw [List.length_take] at hj; omega
  have := List.nodup_iff_pairwise_ne.1 hd
  exact (List.pairwise_iff_getElem.1 this j k (by omega) hk hj2) (by rw [he, h2])

end Go.Proofs.Ytdnmgiabgpilkaa
