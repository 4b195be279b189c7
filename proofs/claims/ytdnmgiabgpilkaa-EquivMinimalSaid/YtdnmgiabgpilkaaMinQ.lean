/- The plain law of Min: the program's machine is the reference's. Condition where named: the machine is valid. -/
import Derived.Test.YtdnmgiabgpilkaaQuot
import Derived.Test.YtdnmgiabgpilkaaMinP
import Derived.Test.YtdnmgiabgpilkaaSteps
namespace Go.Proofs.Ytdnmgiabgpilkaa
namespace Mach
variable {m : Mach}

theorem steps_exists (m : Mach) : ∀ K, ∃ d, m.Steps K d
  | 0 => ⟨0, Nat.le_refl _, fun j hj => by omega, .inl rfl⟩
  | K + 1 => by
    obtain ⟨d, h1, h2, h3⟩ := steps_exists m K
    by_cases e : (m.pp (d + 1)).2 = (m.pp d).2
    · exact ⟨d, by omega, h2, .inr e⟩
    · rcases h3 with rfl | h3
      · refine ⟨d + 1, Nat.le_refl _, fun j hj => ?_, .inl rfl⟩
        by_cases ej : j = d
        · rw [ej]; exact e
        · exact h2 j (by omega)
      · exact absurd h3 e

/-- From as many rounds as there are states on, the classes stay. -/
theorem part_rest (ok : m.Ok) {j : Nat} (hj : m.next.length ≤ j) : m.part j = m.part m.next.length := by
  obtain ⟨d, hd⟩ := m.steps_exists m.next.length
  obtain ⟨h1, h2⟩ := hd.rest ok (by omega)
  rw [h2 j (by omega), h2 m.next.length (by omega)]
theorem eqv_rest (ok : m.Ok) {j s t : Nat} (hj : m.next.length ≤ j) (hs : s < m.next.length) (ht : t < m.next.length) : m.eqv j s t ↔ m.eqv m.next.length s t := by
  rw [← part_iff ok _ _ _ hs ht, ← part_iff ok _ _ _ hs ht, part_rest ok hj]

/-- The class of a state. -/
def cl (m : Mach) (x : Int) : Int := (m.part m.next.length).getD x.toNat 0
theorem cl_iff (ok : m.Ok) {s t : Int} (_hs : 0 ≤ s) (hs' : s < m.next.length) (_ht : 0 ≤ t) (ht' : t < m.next.length) : m.cl s = m.cl t ↔ m.eqv m.next.length s.toNat t.toNat :=
  part_iff ok _ _ _ (by omega) (by omega)
theorem cl_cong (ok : m.Ok) : m.Cong m.cl := by
  intro s t hs hs' ht ht' h x hx
  rw [cl_iff ok hs hs' ht ht', ← eqv_rest ok (Nat.le_succ _) (by omega) (by omega)] at h
  obtain ⟨a, ha, rfl⟩ := List.getElem_of_mem hx
  have hl := ok.rn s.toNat (by omega)
  have hl' := ok.rn t.toNat (by omega)
  have ha2 : a < m.inputs.toNat := by omega
  have ha' : a < (m.next.getD t.toNat []).length := by omega
  have e1 : m.nx s.toNat a = (m.next.getD s.toNat [])[a] := by unfold nx; rw [List.getD_eq_getElem?_getD (l := m.next.getD s.toNat []), List.getElem?_eq_getElem ha]; rfl
  have e2 : m.nx t.toNat a = (m.next.getD t.toNat [])[a] := by unfold nx; rw [List.getD_eq_getElem?_getD (l := m.next.getD t.toNat []), List.getElem?_eq_getElem ha']; rfl
  have r1 := ok.nx s.toNat a (by omega) ha2
  have r2 := ok.nx t.toNat a (by omega) ha2
  refine ⟨_, List.getElem_mem ha', ?_⟩
  rw [← e1, ← e2, cl_iff ok r1.1 r1.2 r2.1 r2.2]
  exact (h a ha2).2
theorem reach_closed (ok : m.Ok) {x y : Int} (hx : x ∈ m.reach) (hy : y ∈ m.next.getD x.toNat []) : y ∈ m.reach := by
  have h := (quot_inv ok (c := id) (fun s t _ _ _ _ e x hx => ⟨x, by simpa [show s = t from e] using hx, rfl⟩) m.next.length).2
  rw [List.take_of_length_le (bfs_le ok _)] at h
  have := h x hx y hy
  rw [firsts_mem] at this
  simpa [reach] using this

/-- The trimmed machine does at each place what the machine does at the state there. -/
theorem trim_ot {i a : Nat} (hi : i < m.reach.length) : m.trim.ot i a = m.ot (m.reach[i]).toNat a := by
  unfold ot trim
  simp only
  rw [getD_map (fun s : Int => m.out.getD s.toNat []) _ _ hi]
theorem trim_nx (ok : m.Ok) {i a : Nat} (hi : i < m.reach.length) (ha : a < m.inputs.toNat) :
    ∃ j, ∃ hj : j < m.reach.length, m.trim.nx i a = (j : Int) ∧ m.reach[j] = m.nx (m.reach[i]).toNat a := by
  obtain ⟨-, hr, -⟩ := reach_props ok
  have hx := hr _ (List.getElem_mem hi)
  have hl := ok.rn (m.reach[i]).toNat (by omega)
  have ha' : a < (m.next.getD (m.reach[i]).toNat []).length := by omega
  have e1 : m.nx (m.reach[i]).toNat a = (m.next.getD (m.reach[i]).toNat [])[a] := by unfold nx; rw [List.getD_eq_getElem?_getD (l := m.next.getD (m.reach[i]).toNat []), List.getElem?_eq_getElem ha']; rfl
  have hm : m.nx (m.reach[i]).toNat a ∈ m.reach := reach_closed ok (List.getElem_mem hi) (by rw [e1]; exact List.getElem_mem ha')
  refine ⟨m.reach.idxOf (m.nx (m.reach[i]).toNat a), List.idxOf_lt_length_of_mem hm, ?_, List.getElem_idxOf _⟩
  unfold nx trim
  simp only
  rw [getD_map m.trimRow _ _ hi]
  unfold trimRow
  rw [List.getD_eq_getElem?_getD, List.getElem?_map, List.getElem?_eq_getElem ha']
  simp only [Option.map_some, Option.getD_some]
  rw [← e1]
  unfold numOf
  rw [if_pos hm]
  rfl
theorem trim_eqv (ok : m.Ok) : ∀ k i j (hi : i < m.reach.length) (hj : j < m.reach.length), m.trim.eqv k i j ↔ m.eqv k (m.reach[i]).toNat (m.reach[j]).toNat
  | 0, _, _, _, _ => Iff.rfl
  | k + 1, i, j, hi, hj => by
    have ih := trim_eqv ok k
    constructor
    · intro h a ha
      obtain ⟨h1, h2⟩ := h a ha
      obtain ⟨i', hi', e1, e1'⟩ := trim_nx ok hi ha
      obtain ⟨j', hj', e2, e2'⟩ := trim_nx ok hj ha
      rw [trim_ot hi, trim_ot hj] at h1
      rw [e1, e2, Int.toNat_natCast, Int.toNat_natCast, ih i' j' hi' hj', e1', e2'] at h2
      exact ⟨h1, h2⟩
    · intro h a ha
      obtain ⟨h1, h2⟩ := h a ha
      obtain ⟨i', hi', e1, e1'⟩ := trim_nx ok hi ha
      obtain ⟨j', hj', e2, e2'⟩ := trim_nx ok hj ha
      refine ⟨by rw [trim_ot hi, trim_ot hj]; exact h1, ?_⟩
      rw [e1, e2, Int.toNat_natCast, Int.toNat_natCast, ih i' j' hi' hj', e1', e2']
      exact h2
theorem trim_len (m : Mach) : m.trim.next.length = m.reach.length := by simp [trim]

/-- Places have the same class in the trimmed machine just if the states there have the same class. -/
theorem trim_class (ok : m.Ok) {i j : Nat} (hi : i < m.reach.length) (hj : j < m.reach.length) :
    (m.trim.part m.reach.length).getD i 0 = (m.trim.part m.reach.length).getD j 0 ↔ m.cl (m.reach[i]) = m.cl (m.reach[j]) := by
  obtain ⟨-, hr, -⟩ := reach_props ok
  have hi' := hr _ (List.getElem_mem hi)
  have hj' := hr _ (List.getElem_mem hj)
  have okt := trim_ok ok
  have hl := m.trim_len
  have hle := reach_le ok
  rw [cl_iff ok hi'.1 hi'.2 hj'.1 hj'.2, ← trim_eqv ok _ _ _ hi hj, part_iff okt _ _ _ (by omega) (by omega), ← hl]
  exact (eqv_rest okt (by omega) (by omega) (by omega)).symm
end Mach

/-- The number of x's class in a list of states, one for each class. -/
def idxC (c : Int → Int) (l : List Int) (x : Int) : Int := ((l.map c).idxOf (c x) : Nat)
theorem idxC_append (c : Int → Int) {l s : List Int} {x : Int} (h : c x ∈ l.map c) : idxC c (l ++ s) x = idxC c l x := by
  unfold idxC
  rw [List.map_append, List.idxOf_append, if_pos h]
theorem idxC_new (c : Int → Int) {l : List Int} {x : Int} (h : c x ∉ l.map c) : idxC c (l ++ [x]) x = l.length := by
  unfold idxC
  rw [List.map_append, List.idxOf_append, if_neg h]
  simp
theorem idxC_congr (c : Int → Int) {l : List Int} {x y : Int} (h : c x = c y) : idxC c l x = idxC c l y := by unfold idxC; rw [h]

/-- The canonical numbers of places are the numbers of the classes in the list of their first states. -/
theorem canon_firsts {E : Nat → Nat → Bool} {c : Int → Int} {R : List Int} : ∀ k, k ≤ R.length → (∀ s, s < k → ∀ t, t < s → (E t s = true ↔ c (R.getD t 0) = c (R.getD s 0))) →
    (canon E k).2 = (firsts c (R.take k)).length ∧ (∀ j, j < k → (canon E k).1.getD j 0 = idxC c (firsts c (R.take k)) (R.getD j 0)) ∧ (∀ j, j < k → c (R.getD j 0) ∈ (firsts c (R.take k)).map c)
  | 0, _, _ => ⟨by simp [canon, firsts, visitC], fun j hj => by omega, fun j hj => by omega⟩
  | k + 1, hk, hE => by
    obtain ⟨h1, h2, h3⟩ := canon_firsts (E := E) (c := c) (R := R) k (by omega) (fun s hs t ht => hE s (by omega) t ht)
    have hx : R.take (k + 1) = R.take k ++ [R.getD k 0] := by
      rw [List.take_add_one, List.getD_eq_getElem?_getD, List.getElem?_eq_getElem (by omega)]; rfl
    have hrange := canon_range E k
    rw [hx, firsts_snoc]
    rcases look_spec E (canon E k).1 k k (Nat.le_refl _) with ⟨l1, l2⟩ | ⟨t, -, t2, t3, t4, -⟩
    · have hno : c (R.getD k 0) ∉ (firsts c (R.take k)).map c := by
        rw [firsts_mem]
        intro hm
        obtain ⟨z, hz, hzc⟩ := List.mem_map.1 hm
        obtain ⟨j, hj, rfl⟩ := List.getElem_of_mem hz
        rw [List.length_take] at hj
        have hjk : j < k := by omega
        have e := l2 j (by omega) hjk
        have : E j k = true := (hE k (by omega) j hjk).2 (by
          rw [List.getD_eq_getElem?_getD (i := j), List.getElem?_eq_getElem (by omega)]
          rw [List.getElem_take] at hzc
          exact hzc)
        rw [e] at this; cases this
      rw [if_neg hno, canon_new E (by rw [l1]; decide)]
      refine ⟨by simp only [List.length_append, List.length_singleton]; omega, fun j hj => ?_, fun j hj => ?_⟩
      · simp only
        by_cases e : j = k
        · subst e
          rw [List.getD_eq_getElem?_getD, List.getElem?_append_right (by rw [canon_length]; omega), canon_length, idxC_new c hno, h1]; simp
        · rw [List.getD_eq_getElem?_getD, List.getElem?_append_left (by rw [canon_length]; omega), ← List.getD_eq_getElem?_getD, h2 j (by omega), idxC_append c (h3 j (by omega))]
      · rw [List.map_append, List.mem_append]
        by_cases e : j = k
        · subst e; exact .inr (by simp)
        · exact .inl (h3 j (by omega))
    · have hc : c (R.getD t 0) = c (R.getD k 0) := (hE k (by omega) t t2).1 t3
      have hin : c (R.getD k 0) ∈ (firsts c (R.take k)).map c := by rw [← hc]; exact h3 t t2
      have hge : ¬ look E (canon E k).1 k k < 0 := by rw [t4]; have := (hrange.2.2 t t2).1; omega
      rw [if_pos hin, canon_old E hge]
      refine ⟨h1, fun j hj => ?_, fun j hj => ?_⟩
      · simp only
        by_cases e : j = k
        · subst e
          rw [List.getD_eq_getElem?_getD, List.getElem?_append_right (by rw [canon_length]; omega), canon_length]
          simp only [Nat.sub_self, List.getElem?_cons_zero, Option.getD_some]
          rw [t4, h2 t t2, idxC_congr c hc]
        · rw [List.getD_eq_getElem?_getD, List.getElem?_append_left (by rw [canon_length]; omega), ← List.getD_eq_getElem?_getD, h2 j (by omega)]
      · by_cases e : j = k
        · subst e; exact hin
        · exact h3 j (by omega)

namespace Mach
variable {m : Mach}

theorem part_canon (ok : m.Ok) {k : Nat} (hk : 0 < k) : ∃ E : Nat → Nat → Bool, (∀ s, s < m.next.length → ∀ t, t < s → (E t s = true ↔ m.eqv k t s)) ∧ m.part k = (canon E m.next.length).1 := by
  obtain ⟨k, rfl⟩ : ∃ j, k = j + 1 := ⟨k - 1, by omega⟩
  exact ⟨m.sameR (m.part k), fun s hs t ht => sameR_iff ok k s hs t ht, part_succ m k⟩

/-- The machine of the first states of the classes. -/
def minF (m : Mach) : Mach :=
  { inputs := m.inputs, start := 0, next := (firsts m.cl m.reach).map (fun x => (m.next.getD x.toNat []).map (idxC m.cl (firsts m.cl m.reach))), out := (firsts m.cl m.reach).map fun x => m.out.getD x.toNat [] }

theorem reps_firsts {cls : List Int} {c : Int → Int} {R : List Int} (hl : cls.length = R.length) (h : ∀ j, j < R.length → cls.getD j 0 = idxC c (firsts c R) (R.getD j 0)) :
    ∀ k, k ≤ R.length → (reps cls k).map (fun s => R.getD s 0) = firsts c (R.take k)
  | 0, _ => by simp [reps, firsts, visitC]
  | k + 1, hk => by
    have ih := reps_firsts hl h k (by omega)
    have hx : R.take (k + 1) = R.take k ++ [R.getD k 0] := by
      rw [List.take_add_one, List.getD_eq_getElem?_getD, List.getElem?_eq_getElem (by omega)]; rfl
    have hlen : (reps cls k).length = (firsts c (R.take k)).length := by rw [← ih, List.length_map]
    obtain ⟨s, hs⟩ := firsts_prefix c (R.take k) (R.drop k)
    rw [List.take_append_drop] at hs
    have hv := h k (by omega)
    rw [hx, firsts_snoc]
    by_cases hin : c (R.getD k 0) ∈ (firsts c (R.take k)).map c
    · have hlt : cls.getD k 0 < (reps cls k).length := by
        rw [hv, hs, idxC_append c hin, hlen]
        unfold idxC
        have := List.idxOf_lt_length_of_mem hin
        rw [List.length_map] at this
        omega
      rw [if_pos hin, reps_old hlt, ih]
    · have hlt : ¬ cls.getD k 0 < (reps cls k).length := by
        rw [hv, hs, hlen]
        unfold idxC
        rw [List.map_append, List.idxOf_append, if_neg hin, List.length_map]
        omega
      rw [if_neg hin, reps_new hlt, List.map_append, ih]; rfl

theorem reps_lt {cls : List Int} : ∀ k, ∀ s ∈ reps cls k, s < k
  | 0, s, h => by simp [reps] at h
  | k + 1, s, h => by
    have ih := reps_lt (cls := cls) k
    simp only [reps] at h
    split at h
    · exact Nat.lt_succ_of_lt (ih s h)
    · rw [List.mem_append, List.mem_singleton] at h
      rcases h with h | rfl
      · exact Nat.lt_succ_of_lt (ih s h)
      · exact Nat.lt_succ_self _

theorem minOf_eq (h : m.err = 0) : m.minOf = m.minF := by
  have ok := m.ok_of_err h
  have okt := trim_ok ok
  have hl := m.trim_len
  have hle := reach_le ok
  have n1 := ok.n1
  obtain ⟨-, hr, hp⟩ := reach_props ok
  have ht : m.trim.err = 0 := err_of_ok _ okt
  have hpart : m.trim.partOf 128 = m.trim.part m.reach.length := by
    unfold partOf
    rw [if_pos ht, hl, show min (128 : Int).toNat m.reach.length = m.reach.length from by omega]
  obtain ⟨E, hE, hc⟩ := part_canon okt hp
  rw [hl] at hE hc
  have hg : ∀ j (hj : j < m.reach.length), m.reach.getD j 0 = m.reach[j] := fun j hj => by rw [List.getD_eq_getElem?_getD, List.getElem?_eq_getElem hj]; rfl
  have hEc : ∀ s, s < m.reach.length → ∀ t, t < s → (E t s = true ↔ m.cl (m.reach.getD t 0) = m.cl (m.reach.getD s 0)) := fun s hs t ht => by
    rw [hE s hs t ht, hg s hs, hg t (by omega), ← trim_class ok (by omega) hs, part_iff okt _ _ _ (by omega) (by omega)]
  obtain ⟨-, h2, -⟩ := canon_firsts (E := E) (c := m.cl) (R := m.reach) m.reach.length (Nat.le_refl _) hEc
  rw [List.take_length] at h2
  have hcl : (m.trim.part m.reach.length).length = m.reach.length := by rw [part_length, hl]
  have hval : ∀ j, j < m.reach.length → (m.trim.part m.reach.length).getD j 0 = idxC m.cl (firsts m.cl m.reach) (m.reach.getD j 0) := fun j hj => by rw [hc]; exact h2 j hj
  have hreps := reps_firsts hcl hval m.reach.length (Nat.le_refl _)
  rw [List.take_length] at hreps
  unfold minOf
  rw [if_pos h, hpart]
  unfold minBy minF
  rw [hcl]
  generalize hF : idxC m.cl (firsts m.cl m.reach) = f at *
  rw [← hreps, List.map_map, List.map_map]
  have hrow : ∀ s ∈ reps (m.trim.part m.reach.length) m.reach.length, m.trim.minRow (m.trim.part m.reach.length) s = (m.next.getD (m.reach.getD s 0).toNat []).map f := by
    intro s hs
    have hsl := reps_lt _ s hs
    unfold minRow
    have e : m.trim.next.getD s [] = m.trimRow (m.reach[s]) := getD_map _ _ _ hsl
    rw [e, hg s hsl]
    unfold trimRow
    rw [List.map_map]
    apply List.map_congr_left
    intro x hx
    have hxr : x ∈ m.reach := reach_closed ok (List.getElem_mem hsl) hx
    have hlt := List.idxOf_lt_length_of_mem hxr
    have hn : numOf m.reach x = (m.reach.idxOf x : Nat) := by unfold numOf; rw [if_pos hxr]
    simp only [Function.comp]
    rw [hn, Int.toNat_natCast, hval _ hlt, hg _ hlt, List.getElem_idxOf]
  have hout : ∀ s ∈ reps (m.trim.part m.reach.length) m.reach.length, m.trim.out.getD s [] = m.out.getD (m.reach.getD s 0).toNat [] := by
    intro s hs
    have hsl := reps_lt _ s hs
    rw [hg s hsl]
    exact getD_map (fun s : Int => m.out.getD s.toNat []) _ _ hsl
  rw [List.map_congr_left hrow, List.map_congr_left hout]
  rfl
end Mach
end Go.Proofs.Ytdnmgiabgpilkaa
