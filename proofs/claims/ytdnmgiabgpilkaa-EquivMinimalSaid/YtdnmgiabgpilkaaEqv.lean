/- The plain law of minimization: the program's classes are the reference's; when the number of classes stays, the classes stay. Condition: the machine is valid. -/
import Derived.Test.YtdnmgiabgpilkaaCanon
namespace Go.Proofs.Ytdnmgiabgpilkaa

theorem look_congr {E E' : Nat → Nat → Bool} {l : List Int} {s : Nat} (h : ∀ t, t < s → E t s = E' t s) : ∀ d, d ≤ s → look E l s d = look E' l s d
  | 0, _ => rfl
  | d + 1, hd => by simp only [look, h (s - (d + 1)) (by omega), look_congr h d (by omega)]

theorem canon_congr {E E' : Nat → Nat → Bool} : ∀ n, (∀ s, s < n → ∀ t, t < s → E t s = E' t s) → canon E n = canon E' n
  | 0, _ => rfl
  | n + 1, h => by
    have ih := canon_congr n (fun s hs t ht => h s (by omega) t ht)
    rw [canon_succ, canon_succ, ih, look_congr (h n (by omega)) n (Nat.le_refl _)]

/-- Sameness on the numbers below n. -/
structure Eqv (n : Nat) (R : Nat → Nat → Prop) : Prop where
  refl : ∀ s, s < n → R s s
  symm : ∀ s t, s < n → t < n → R s t → R t s
  trans : ∀ s t u, s < n → t < n → u < n → R s t → R t u → R s u

theorem canon_getD_lt (E : Nat → Nat → Bool) {k s : Nat} (h : s < k) : (canon E (k + 1)).1.getD s 0 = (canon E k).1.getD s 0 := by
  have hl := canon_length E k
  rw [canon_succ]
  split
  · simp only; rw [List.getD_eq_getElem?_getD, List.getElem?_append_left (by omega), ← List.getD_eq_getElem?_getD]
  · simp only; rw [List.getD_eq_getElem?_getD, List.getElem?_append_left (by omega), ← List.getD_eq_getElem?_getD]

theorem canon_getD_self (E : Nat → Nat → Bool) (k : Nat) : (canon E (k + 1)).1.getD k 0 = if look E (canon E k).1 k k < 0 then (canon E k).2 else look E (canon E k).1 k k := by
  have hl := canon_length E k
  rw [canon_succ]
  split
  · simp only; rw [List.getD_eq_getElem?_getD, List.getElem?_append_right (by omega), hl]; simp
  · simp only; rw [List.getD_eq_getElem?_getD, List.getElem?_append_right (by omega), hl]; simp

/-- Two states have the same number just if they are the same. -/
theorem canon_eq_iff {R : Nat → Nat → Prop} {E : Nat → Nat → Bool} : ∀ n, Eqv n R → (∀ s, s < n → ∀ t, t < s → (E t s = true ↔ R t s)) →
    ∀ s t, s < n → t < n → ((canon E n).1.getD s 0 = (canon E n).1.getD t 0 ↔ R s t)
  | 0, _, _ => fun s t hs => by omega
  | n + 1, hR, hE => by
    have hR' : Eqv n R := ⟨fun s hs => hR.refl s (by omega), fun s t hs ht => hR.symm s t (by omega) (by omega), fun s t u hs ht hu => hR.trans s t u (by omega) (by omega) (by omega)⟩
    have ih := canon_eq_iff n hR' (fun s hs t ht => hE s (by omega) t ht)
    have hrange := canon_range E n
    have key : ∀ t, t < n → ((canon E (n + 1)).1.getD n 0 = (canon E n).1.getD t 0 ↔ R n t) := by
      intro t ht
      rw [canon_getD_self]
      rcases look_spec E (canon E n).1 n n (Nat.le_refl _) with ⟨h1, h2⟩ | ⟨t0, _, h2, h3, h4, _⟩
      · rw [if_pos (by omega)]
        constructor
        · intro h; have := (hrange.2.2 t ht).2; omega
        · intro h
          have h5 := h2 t (by omega) ht
          have h6 := (hE n (by omega) t ht).2 (hR.symm _ _ (by omega) (by omega) h)
          rw [h5] at h6; cases h6
      · have h0 := hrange.2.2 t0 h2
        rw [if_neg (by omega), h4, ih t0 t h2 ht]
        have h5 := (hE n (by omega) t0 h2).1 h3
        constructor
        · intro h; exact hR.trans _ _ _ (by omega) (by omega) (by omega) (hR.symm _ _ (by omega) (by omega) h5) h
        · intro h; exact hR.trans _ _ _ (by omega) (by omega) (by omega) h5 h
    intro s t hs ht
    by_cases e1 : s = n
    · by_cases e2 : t = n
      · subst e1; subst e2; exact ⟨fun _ => hR.refl _ (by omega), fun _ => rfl⟩
      · subst e1; rw [canon_getD_lt E (show t < s by omega)]; exact key t (by omega)
    · by_cases e2 : t = n
      · subst e2
        rw [canon_getD_lt E (show s < t by omega)]
        constructor
        · intro h; exact hR.symm _ _ (by omega) (by omega) ((key s (by omega)).1 h.symm)
        · intro h; exact ((key s (by omega)).2 (hR.symm _ _ (by omega) (by omega) h)).symm
      · rw [canon_getD_lt E (show s < n by omega), canon_getD_lt E (show t < n by omega)]
        exact ih s t (by omega) (by omega)

/-- A state that is the first of its class. -/
def isFirst (E : Nat → Nat → Bool) (s : Nat) : Bool := (List.range s).all fun t => !E t s

theorem canon_count (E : Nat → Nat → Bool) : ∀ n, (canon E n).2 = ((List.range n).filter (isFirst E)).length
  | 0 => rfl
  | n + 1 => by
    have ih := canon_count E n
    have hrange := canon_range E n
    rw [List.range_succ, List.filter_append, List.length_append, canon_succ]
    rcases look_spec E (canon E n).1 n n (Nat.le_refl _) with ⟨h1, h2⟩ | ⟨t0, _, h2, h3, h4, _⟩
    · rw [if_pos (by omega)]
      have : isFirst E n = true := by
        unfold isFirst
        rw [List.all_eq_true]
        intro t ht
        have := h2 t (by omega) (by simpa using ht)
        simp [this]
      simp [this, ih]
    · have h0 := hrange.2.2 t0 h2
      rw [if_neg (by omega)]
      have : isFirst E n = false := by
        unfold isFirst
        rw [List.all_eq_false]
        exact ⟨t0, by simpa using h2, by simp [h3]⟩
      simp [this, ih]

theorem filter_same {α : Type} {p q : α → Bool} : ∀ l : List α, (∀ x ∈ l, p x = true → q x = true) → (l.filter p).length = (l.filter q).length → ∀ x ∈ l, p x = q x
  | [], _, _ => by simp
  | x :: l, h, hl => by
    have hle : ∀ l : List α, (∀ x ∈ l, p x = true → q x = true) → (l.filter p).length ≤ (l.filter q).length := by
      intro l h
      induction l with
      | nil => simp
      | cons y l ih =>
        have := ih (fun z hz => h z (by simp [hz]))
        by_cases hp : p y = true
        · simp [hp, h y (by simp) hp]; exact this
        · by_cases hq : q y = true
          · simp [hp, hq]; omega
          · simp [hp, hq]; exact this
    have h1 := hle l (fun z hz => h z (by simp [hz]))
    have hxl : (l.filter p).length = (l.filter q).length ∧ p x = q x := by
      by_cases hp : p x = true
      · have hq := h x (by simp) hp
        simp [hp, hq] at hl
        exact ⟨hl, by rw [hp, hq]⟩
      · by_cases hq : q x = true
        · simp [hp, hq] at hl; omega
        · simp [hp, hq] at hl; exact ⟨hl, by simp [hp, hq]⟩
    intro y hy
    rcases List.mem_cons.1 hy with rfl | hy
    · exact hxl.2
    · exact filter_same l (fun z hz => h z (by simp [hz])) hxl.1 y hy

theorem isFirst_iff {n : Nat} {R : Nat → Nat → Prop} {E : Nat → Nat → Bool} (hE : ∀ s, s < n → ∀ t, t < s → (E t s = true ↔ R t s)) {s : Nat} (hs : s < n) : isFirst E s = true ↔ ∀ t, t < s → ¬ R t s := by
  unfold isFirst
  rw [List.all_eq_true]
  constructor
  · intro h t ht hr
    have := h t (by simpa using ht)
    rw [(hE s hs t ht).2 hr] at this
    simp at this
  · intro h t ht
    have ht' : t < s := by simpa using ht
    have := h t ht'
    rw [← hE s hs t ht'] at this
    simpa using this

/-- Everyone has a first one of the same class. -/
theorem first_of {n : Nat} {R : Nat → Nat → Prop} (hR : Eqv n R) : ∀ s, s < n → ∃ t, t ≤ s ∧ R t s ∧ ∀ u, u < t → ¬ R u t := by
  intro s
  induction s using Nat.strongRecOn with
  | ind s ih =>
    intro hs
    by_cases h : ∃ u, u < s ∧ R u s
    · obtain ⟨u, hu, hr⟩ := h
      obtain ⟨t, ht, h1, h2⟩ := ih u hu (by omega)
      exact ⟨t, by omega, hR.trans _ _ _ (by omega) (by omega) hs h1 hr, h2⟩
    · exact ⟨s, Nat.le_refl _, hR.refl s hs, fun u hu hr => h ⟨u, hu, hr⟩⟩

/-- A finer sameness with as many classes is the same. -/
theorem finer_same {n : Nat} {R R' : Nat → Nat → Prop} {E E' : Nat → Nat → Bool} (hR : Eqv n R) (hR' : Eqv n R') (hE : ∀ s, s < n → ∀ t, t < s → (E t s = true ↔ R t s)) (hE' : ∀ s, s < n → ∀ t, t < s → (E' t s = true ↔ R' t s))
    (hsub : ∀ s t, s < n → t < n → R' s t → R s t) (hc : (canon E n).2 = (canon E' n).2) : ∀ s t, s < n → t < n → (R s t ↔ R' s t) := by
  have hfirst : ∀ s, s < n → (isFirst E s = isFirst E' s) := by
    intro s hs
    rw [canon_count, canon_count] at hc
    refine filter_same (List.range n) ?_ (by omega) s (by simpa using hs)
    intro x hx hfx
    have hx' : x < n := by simpa using hx
    rw [isFirst_iff hE' hx']
    have := (isFirst_iff hE hx').1 hfx
    exact fun t ht hr => this t ht (hsub t x (by omega) hx' hr)
  intro s t hs ht
  refine ⟨fun h => ?_, hsub s t hs ht⟩
  obtain ⟨s0, hs0, a1, a2⟩ := first_of hR' s hs
  obtain ⟨t0, ht0, b1, b2⟩ := first_of hR' t ht
  have f1 : ∀ u, u < s0 → ¬ R u s0 := (isFirst_iff hE (show s0 < n by omega)).1 (by rw [hfirst s0 (by omega)]; exact (isFirst_iff hE' (by omega)).2 a2)
  have f2 : ∀ u, u < t0 → ¬ R u t0 := (isFirst_iff hE (show t0 < n by omega)).1 (by rw [hfirst t0 (by omega)]; exact (isFirst_iff hE' (by omega)).2 b2)
  have c1 := hsub _ _ (by omega) hs a1
  have c2 := hsub _ _ (by omega) ht b1
  have c3 : R s0 t0 := hR.trans _ _ _ (by omega) hs (by omega) c1 (hR.trans _ _ _ hs ht (by omega) h (hR.symm _ _ (by omega) ht c2))
  have e : s0 = t0 := by
    rcases Nat.lt_trichotomy s0 t0 with h1 | h1 | h1
    · exact absurd c3 (f2 _ h1)
    · exact h1
    · exact absurd (hR.symm _ _ (by omega) (by omega) c3) (f1 _ h1)
  subst e
  exact hR'.trans _ _ _ hs (by omega) ht (hR'.symm _ _ (by omega) hs a1) b1

namespace Mach
variable (m : Mach)

/-- k-equivalence. -/
def eqv : Nat → Nat → Nat → Prop
  | 0, _, _ => True
  | k + 1, s, t => ∀ a, a < m.inputs.toNat → m.ot s a = m.ot t a ∧ eqv k (m.nx s a).toNat (m.nx t a).toNat

theorem eqv_mono : ∀ k s t, m.eqv (k + 1) s t → m.eqv k s t
  | 0, _, _, _ => trivial
  | k + 1, _, _, h => fun a ha => ⟨(h a ha).1, eqv_mono k _ _ (h a ha).2⟩

theorem eqv_le {k j s t : Nat} (h : m.eqv k s t) (hj : j ≤ k) : m.eqv j s t := by
  induction k with
  | zero => obtain rfl : j = 0 := by omega
            exact h
  | succ k ih =>
    by_cases e : j = k + 1
    · rw [e]; exact h
    · exact ih (m.eqv_mono k s t h) (by omega)

theorem eqv_refl : ∀ k s, m.eqv k s s
  | 0, _ => trivial
  | k + 1, _ => fun _ _ => ⟨rfl, eqv_refl k _⟩
theorem eqv_symm : ∀ k s t, m.eqv k s t → m.eqv k t s
  | 0, _, _, _ => trivial
  | k + 1, _, _, h => fun a ha => ⟨(h a ha).1.symm, eqv_symm k _ _ (h a ha).2⟩
theorem eqv_trans : ∀ k s t u, m.eqv k s t → m.eqv k t u → m.eqv k s u
  | 0, _, _, _, _, _ => trivial
  | k + 1, _, _, _, h, h' => fun a ha => ⟨(h a ha).1.trans (h' a ha).1, eqv_trans k _ _ _ (h a ha).2 (h' a ha).2⟩

theorem eqv_eqv (n k : Nat) : Eqv n (fun t s => m.eqv k t s) := ⟨fun s _ => m.eqv_refl k s, fun s t _ _ => m.eqv_symm k s t, fun s t u _ _ _ => m.eqv_trans k s t u⟩

variable {m}

theorem nx_lt (ok : m.Ok) {s a : Nat} (hs : s < m.next.length) (ha : a < m.inputs.toNat) : (m.nx s a).toNat < m.next.length := by
  have := ok.nx s a hs ha
  omega

/-- Two states have the same number in part k just if they are k-equivalent; the tests of both sides say (k + 1)-equivalence. -/
theorem part_iff (ok : m.Ok) : ∀ k s t, s < m.next.length → t < m.next.length → ((m.part k).getD s 0 = (m.part k).getD t 0 ↔ m.eqv k s t)
  | 0, s, t, hs, ht => by simp [part, eqv, List.getD_eq_getElem?_getD, hs, ht]
  | k + 1, s, t, hs, ht => by
    rw [part_succ]
    refine canon_eq_iff (R := fun t s => m.eqv (k + 1) t s) _ (m.eqv_eqv _ _) ?_ s t hs ht
    intro s hs t ht
    have ih := part_iff ok k
    unfold sameR
    rw [decide_eq_true_iff]
    constructor
    · intro h a ha
      refine ⟨(h.2 a ha).1.symm, ?_⟩
      rw [← ih _ _ (nx_lt ok (by omega) ha) (nx_lt ok hs ha)]
      exact (h.2 a ha).2.symm
    · intro h
      refine ⟨(ih _ _ hs (by omega)).2 (m.eqv_symm _ _ _ (m.eqv_mono _ _ _ h)), fun a ha => ⟨(h a ha).1.symm, ?_⟩⟩
      rw [ih _ _ (nx_lt ok hs ha) (nx_lt ok (by omega) ha)]
      exact m.eqv_symm _ _ _ (h a ha).2

theorem sameR_iff (ok : m.Ok) (k : Nat) : ∀ s, s < m.next.length → ∀ t, t < s → (m.sameR (m.part k) t s = true ↔ m.eqv (k + 1) t s) := by
  intro s hs t ht
  have ih := part_iff ok k
  unfold sameR
  rw [decide_eq_true_iff]
  constructor
  · intro h a ha
    refine ⟨(h.2 a ha).1.symm, ?_⟩
    rw [← ih _ _ (nx_lt ok (by omega) ha) (nx_lt ok hs ha)]
    exact (h.2 a ha).2.symm
  · intro h
    refine ⟨(ih _ _ hs (by omega)).2 (m.eqv_symm _ _ _ (m.eqv_mono _ _ _ h)), fun a ha => ⟨(h a ha).1.symm, ?_⟩⟩
    rw [ih _ _ (nx_lt ok hs ha) (nx_lt ok (by omega) ha)]
    exact m.eqv_symm _ _ _ (h a ha).2

theorem sameP_iff (ok : m.Ok) (k : Nat) : ∀ s, s < m.next.length → ∀ t, t < s → (m.sameP (m.part k) t s = true ↔ m.eqv (k + 1) t s) := by
  intro s hs t ht
  have ih := part_iff ok k
  unfold sameP
  rw [decide_eq_true_iff]
  constructor
  · intro h a ha
    refine ⟨(h a ha).1.symm, ?_⟩
    rw [← ih _ _ (nx_lt ok (by omega) ha) (nx_lt ok hs ha)]
    exact (h a ha).2.symm
  · intro h a ha
    refine ⟨(h a ha).1.symm, ?_⟩
    rw [ih _ _ (nx_lt ok hs ha) (nx_lt ok (by omega) ha)]
    exact m.eqv_symm _ _ _ (h a ha).2

/-- If (k + 1)-equivalence is k-equivalence, then so are all later ones. -/
theorem eqv_stable (ok : m.Ok) {k : Nat} (h : ∀ s t, s < m.next.length → t < m.next.length → (m.eqv k s t ↔ m.eqv (k + 1) s t)) :
    ∀ j, k ≤ j → ∀ s t, s < m.next.length → t < m.next.length → (m.eqv k s t ↔ m.eqv j s t) := by
  intro j hj
  induction j with
  | zero => intro s t _ _; obtain rfl : k = 0 := by omega
            exact Iff.rfl
  | succ j ih =>
    by_cases e : k = j + 1
    · intro s t _ _; rw [e]
    · intro s t hs ht
      have ih' := ih (by omega)
      rw [h s t hs ht]
      constructor
      · intro h1 a ha
        exact ⟨(h1 a ha).1, (ih' _ _ (nx_lt ok hs ha) (nx_lt ok ht ha)).1 (h1 a ha).2⟩
      · intro h1 a ha
        exact ⟨(h1 a ha).1, (ih' _ _ (nx_lt ok hs ha) (nx_lt ok ht ha)).2 (h1 a ha).2⟩

/-- The list of classes hangs on the equivalence alone. -/
theorem part_eq (ok : m.Ok) {k j : Nat} (h : ∀ s t, s < m.next.length → t < m.next.length → (m.eqv k s t ↔ m.eqv j s t)) : m.part k = m.part j := by
  classical
  have hc : ∀ k, m.part k = (canon (fun t s => decide (m.eqv k t s)) m.next.length).1 := by
    intro k
    cases k with
    | zero =>
      have : ∀ n, canon (fun _ _ => true) (n + 1) = (List.replicate (n + 1) 0, 1) := by
        intro n
        induction n with
        | zero => simp [canon, look]
        | succ n ih =>
          have hl : look (fun _ _ => true) (List.replicate (n + 1) 0) (n + 1) (n + 1) = 0 := by
            rw [look]
            simp
          rw [canon_succ, ih]
          simp only [hl]
          rw [if_neg (by omega), List.replicate_succ' (n := n + 1)]
      obtain ⟨n, hn⟩ : ∃ n, m.next.length = n + 1 := ⟨m.next.length - 1, by have := ok.n0; omega⟩
      have e2 : (fun t s => decide (m.eqv 0 t s)) = (fun _ _ : Nat => true) := by funext t s; exact decide_eq_true trivial
      rw [e2, part, hn, this]
    | succ k =>
      rw [part_succ]
      congr 1
      apply canon_congr
      intro s hs t ht
      have := sameR_iff ok k s hs t ht
      rw [Bool.eq_iff_iff, this, decide_eq_true_iff]
  rw [hc k, hc j]
  congr 1
  apply canon_congr
  intro s hs t ht
  rw [Bool.eq_iff_iff, decide_eq_true_iff, decide_eq_true_iff]
  exact h t s (by omega) hs

end Mach
end Go.Proofs.Ytdnmgiabgpilkaa
