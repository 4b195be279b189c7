/- The plain words for signatures: what a state does, as a list of 128 numbers. No condition. -/
import Derived.Test.YtdnmgiabgpilkaaCanon
namespace Go.Proofs.Ytdnmgiabgpilkaa
namespace Mach
variable (m : Mach)

/-- The signature of s when k inputs have been looked at. -/
def psigTo (cls : List Int) (s k : Nat) : List Int :=
  (List.range 128).map fun i => if i < 64 then (if i < k then m.ot s i else 0) else (if i - 64 < k then cls.getD (m.nx s (i - 64)).toNat 0 else 0)
def psig (cls : List Int) (s : Nat) : List Int := m.psigTo cls s m.inputs.toNat

theorem psigTo_length (cls : List Int) (s k : Nat) : (m.psigTo cls s k).length = 128 := by simp [psigTo]

theorem psigTo_get (cls : List Int) (s k : Nat) {i : Nat} (hi : i < 128) : (m.psigTo cls s k)[i]? = some (if i < 64 then (if i < k then m.ot s i else 0) else (if i - 64 < k then cls.getD (m.nx s (i - 64)).toNat 0 else 0)) := by
  simp only [psigTo, List.getElem?_map, List.getElem?_range hi, Option.map_some]

theorem psigTo_zero (cls : List Int) (s : Nat) : m.psigTo cls s 0 = List.replicate 128 0 := by
  apply List.ext_getElem?
  intro i
  by_cases hi : i < 128
  · rw [psigTo_get m cls s 0 hi, List.getElem?_replicate, if_pos hi, if_neg (Nat.not_lt_zero _), if_neg (Nat.not_lt_zero _), ite_self]
  · rw [List.getElem?_eq_none (by rw [psigTo_length]; omega), List.getElem?_eq_none (by rw [List.length_replicate]; omega)]

theorem psigTo_succ (cls : List Int) (s : Nat) {k : Nat} (hk : k < 64) :
    m.psigTo cls s (k + 1) = ((m.psigTo cls s k).set k (m.ot s k)).set (64 + k) (cls.getD (m.nx s k).toNat 0) := by
  apply List.ext_getElem?
  intro i
  by_cases hi : i < 128
  · rw [psigTo_get m cls s (k + 1) hi]
    by_cases e1 : i = 64 + k
    · subst e1
      rw [List.getElem?_set_self (by simp [psigTo_length]; omega), if_neg (by omega), if_pos (by omega)]
      simp
    · rw [List.getElem?_set_ne (by omega)]
      by_cases e2 : i = k
      · subst e2
        rw [List.getElem?_set_self (by rw [psigTo_length]; omega), if_pos hk, if_pos (by omega)]
      · rw [List.getElem?_set_ne (by omega), psigTo_get m cls s k hi]
        congr 1
        by_cases h64 : i < 64
        · rw [if_pos h64, if_pos h64]
          by_cases h : i < k
          · rw [if_pos h, if_pos (by omega)]
          · rw [if_neg h, if_neg (by omega)]
        · rw [if_neg h64, if_neg h64]
          by_cases h : i - 64 < k
          · rw [if_pos h, if_pos (by omega)]
          · rw [if_neg h, if_neg (by omega)]
  · rw [List.getElem?_eq_none (by rw [psigTo_length]; omega), List.getElem?_eq_none (by simp [psigTo_length]; omega)]

theorem psig_eq_iff (cls : List Int) (s t : Nat) (h64 : m.inputs ≤ 64) : m.psig cls t = m.psig cls s ↔ m.sameP cls t s = true := by
  unfold sameP psig
  rw [decide_eq_true_iff]
  constructor
  · intro h a ha
    have h1 := congrArg (fun l => l[a]?) h
    have h2 := congrArg (fun l => l[64 + a]?) h
    simp only [psigTo_get m cls _ _ (show a < 128 by omega), psigTo_get m cls _ _ (show 64 + a < 128 by omega), Option.some.injEq] at h1 h2
    rw [if_pos (by omega), if_pos ha, if_pos (by omega), if_pos ha] at h1
    rw [if_neg (by omega), if_pos (by omega), if_neg (by omega), if_pos (by omega), Nat.add_sub_cancel_left] at h2
    exact ⟨h1.symm, h2.symm⟩
  · intro h
    unfold psigTo
    apply List.map_congr_left
    intro i _
    by_cases h64 : i < 64
    · rw [if_pos h64, if_pos h64]
      by_cases hk : i < m.inputs.toNat
      · rw [if_pos hk, if_pos hk, (h i hk).1]
      · rw [if_neg hk, if_neg hk]
    · rw [if_neg h64, if_neg h64]
      by_cases hk : i - 64 < m.inputs.toNat
      · rw [if_pos hk, if_pos hk, (h _ hk).2]
      · rw [if_neg hk, if_neg hk]

end Mach

/-- The map after k states: each signature that has come up leads to its number. -/
structure SigMap (N : Nat) (g : Nat → List Int) (lst : List Int) (k : Nat) (f : List Int → Option Int) : Prop where
  hit : ∀ t, t < k → f (g t) = some (lst.getD t 0)
  miss : ∀ s, s < N → (∀ t, t < k → g t ≠ g s) → f (g s) = none

theorem SigMap.look {N : Nat} {g : Nat → List Int} {E : Nat → Nat → Bool} {k : Nat} {f : List Int → Option Int} (hg : ∀ t s, g t = g s ↔ E t s = true) (h : SigMap N g (canon E k).1 k f) (hk : k < N) :
    (f (g k) = none ∧ look E (canon E k).1 k k < 0) ∨ ∃ v, f (g k) = some v ∧ 0 ≤ v ∧ look E (canon E k).1 k k = v := by
  rcases look_spec E (canon E k).1 k k (Nat.le_refl _) with ⟨h1, h2⟩ | ⟨t, _, h2, h3, h4, _⟩
  · refine .inl ⟨h.miss k hk fun t ht he => ?_, by omega⟩
    have := h2 t (by omega) ht
    rw [(hg t k).1 he] at this
    cases this
  · refine .inr ⟨(canon E k).1.getD t 0, ?_, ((canon_range E k).2.2 t h2).1, h4⟩
    rw [← (hg t k).2 h3]
    exact h.hit t h2

theorem getD_snoc_lt {l : List Int} {x : Int} {t : Nat} (h : t < l.length) : (l ++ [x]).getD t 0 = l.getD t 0 := by
  rw [List.getD_eq_getElem?_getD, List.getElem?_append_left h, ← List.getD_eq_getElem?_getD]
theorem getD_snoc_self {l : List Int} {x : Int} {t : Nat} (h : t = l.length) : (l ++ [x]).getD t 0 = x := by
  rw [List.getD_eq_getElem?_getD, List.getElem?_append_right (by omega), h]; simp

theorem SigMap.old {N : Nat} {g : Nat → List Int} {lst : List Int} {k : Nat} {f : List Int → Option Int} (h : SigMap N g lst k f) (hl : lst.length = k) {v : Int} (hf : f (g k) = some v) : SigMap N g (lst ++ [v]) (k + 1) f := by
  refine ⟨fun t ht => ?_, fun s hN hs => h.miss s hN fun t ht => hs t (by omega)⟩
  by_cases e : t = k
  · rw [e, getD_snoc_self hl.symm, hf]
  · rw [getD_snoc_lt (by omega)]; exact h.hit t (by omega)

theorem SigMap.new {N : Nat} {g : Nat → List Int} {lst : List Int} {k : Nat} {f f' : List Int → Option Int} (h : SigMap N g lst k f) (hl : lst.length = k) (hk : k < N) (hf : f (g k) = none) {v : Int} (h1 : f' (g k) = some v) (h2 : ∀ s, s < N → g s ≠ g k → f' (g s) = f (g s)) :
    SigMap N g (lst ++ [v]) (k + 1) f' := by
  refine ⟨fun t ht => ?_, fun s hN hs => ?_⟩
  · by_cases e : t = k
    · rw [e, getD_snoc_self hl.symm, h1]
    · have hne : g t ≠ g k := by
        intro e2
        have := h.hit t (by omega)
        rw [e2, hf] at this
        cases this
      rw [getD_snoc_lt (by omega), h2 t (by omega) hne]
      exact h.hit t (by omega)
  · rw [h2 s hN (fun e => hs k (by omega) e.symm)]
    exact h.miss s hN fun t ht => hs t (by omega)

end Go.Proofs.Ytdnmgiabgpilkaa
