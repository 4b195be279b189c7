/- The search for a split: plain words. No condition: definitions and their laws. -/
import Derived.Test.YtlgdijgfphedpaaHypV
import Derived.Test.YtlgdijgfphedpaaObsP
namespace Go.Proofs.Ytlgdijgfphedpaa
open Go.RowKit

/-- A hypothesis with observations and a word. -/
structure Sj where
  h : Hy
  o : Ob
  w : List Int
namespace Sj
variable (x : Sj)
/-- The state behind i symbols. -/
def st (i : Nat) : Int := x.h.m.endW x.h.m.start (x.w.take i)
def ax (i : Nat) : List Int := x.h.ac (x.st i).toNat
/-- The word of a position. -/
def q (i : Nat) : List Int := x.ax i ++ x.w.drop i
def own (i : Nat) : List Int := x.h.m.outsW (x.st i) (x.w.drop i)
def bad (i : Nat) : Bool := !decide ((x.o.ans (x.q i)).drop (x.ax i).length = x.own i)
def argErr : Int :=
  if x.h.err ≠ 0 then x.h.err
  else if x.o.inputs ≠ x.h.m.inputs then 15
  else if wErr x.w x.h.m.inputs ≠ 0 then wErr x.w x.h.m.inputs
  else if x.o.known x.w = false then 12
  else if x.o.ans x.w = x.h.m.outsW x.h.m.start x.w then 8 else 0
/-- Whether the answer contradicts a transition. -/
def sure (i : Nat) : Bool := decide ((x.o.ans (x.q i)).getD (x.ax i).length 0 = x.h.m.ot (x.st i).toNat (x.w.getD i 0).toNat)
def noS : Sp := ⟨[], 0, []⟩
def splS (i : Nat) : Sp := if x.sure i = true then ⟨x.ax i, x.w.getD i 0, x.w.drop (i + 1)⟩ else noS
def splE (i : Nat) : Int := if x.sure i = true then 0 else 15
def spl (i : Nat) : Sp × List Int × Int := (x.splS i, [], x.splE i)
def srch (nx : Nat → Nat → Nat) : Nat → Nat → Nat → Sp × List Int × Int
  | 0, lo, _ => x.spl lo
  | n + 1, lo, hi =>
    if 1 < hi - lo then
      if 1024 < (x.q (nx lo hi)).length then (noS, [], 3)
      else if x.o.known (x.q (nx lo hi)) = false then (noS, x.q (nx lo hi), 0)
      else if x.bad (nx lo hi) = true then srch nx n (nx lo hi) hi else srch nx n lo (nx lo hi)
    else x.spl lo
def mid (lo hi : Nat) : Nat := (lo + hi) / 2
def nxt (lo _hi : Nat) : Nat := lo + 1
def res (nx : Nat → Nat → Nat) : Sp × List Int × Int := if x.argErr ≠ 0 then (noS, [], x.argErr) else x.srch nx x.w.length 0 x.w.length
variable {x : Sj}
theorem srch_end {nx : Nat → Nat → Nat} {n lo hi : Nat} (h : hi - lo ≤ 1) : x.srch nx n lo hi = x.spl lo := by
  cases n with
  | zero => rfl
  | succ n => unfold srch; rw [if_neg (by omega)]
theorem srch_long {nx : Nat → Nat → Nat} {n lo hi i : Nat} (hi' : i = nx lo hi) (h : 1 < hi - lo) (h2 : 1024 < (x.q i).length) : x.srch nx (n + 1) lo hi = (noS, [], 3) := by
  subst hi'; unfold srch; rw [if_pos h, if_pos h2]
theorem srch_ask {nx : Nat → Nat → Nat} {n lo hi i : Nat} (hi' : i = nx lo hi) (h : 1 < hi - lo) (h2 : ¬ 1024 < (x.q i).length) (h3 : x.o.known (x.q i) = false) : x.srch nx (n + 1) lo hi = (noS, x.q i, 0) := by
  subst hi'; unfold srch; rw [if_pos h, if_neg h2, if_pos h3]
theorem srch_bad {nx : Nat → Nat → Nat} {n lo hi i : Nat} (hi' : i = nx lo hi) (h : 1 < hi - lo) (h2 : ¬ 1024 < (x.q i).length) (h3 : x.o.known (x.q i) = true) (h4 : x.bad i = true) : x.srch nx (n + 1) lo hi = x.srch nx n i hi := by
  subst hi'; conv => lhs; unfold srch
  rw [if_pos h, if_neg h2, if_neg (by simp [h3]), if_pos h4]
theorem srch_good {nx : Nat → Nat → Nat} {n lo hi i : Nat} (hi' : i = nx lo hi) (h : 1 < hi - lo) (h2 : ¬ 1024 < (x.q i).length) (h3 : x.o.known (x.q i) = true) (h4 : x.bad i = false) : x.srch nx (n + 1) lo hi = x.srch nx n lo i := by
  subst hi'; conv => lhs; unfold srch
  rw [if_pos h, if_neg h2, if_neg (by simp [h3]), if_neg (by simp [h4])]
/-- What begin tests. -/
structure Ok (x : Sj) : Prop where
  h : x.h.Ok
  inp : x.o.inputs = x.h.m.inputs
  w : x.h.m.okS x.w
  len : x.w.length ≤ 1024
  kn : x.o.known x.w = true
  ne : x.o.ans x.w ≠ x.h.m.outsW x.h.m.start x.w
theorem argErr_cases : (x.h.err ≠ 0 ∧ x.argErr = x.h.err) ∨ (x.h.Ok ∧ x.h.err = 0 ∧ x.o.inputs ≠ x.h.m.inputs ∧ x.argErr = 15) ∨
    (x.h.Ok ∧ x.h.err = 0 ∧ x.o.inputs = x.h.m.inputs ∧ wErr x.w x.h.m.inputs ≠ 0 ∧ x.argErr = wErr x.w x.h.m.inputs) ∨
    (x.h.Ok ∧ x.h.err = 0 ∧ x.o.inputs = x.h.m.inputs ∧ wErr x.w x.h.m.inputs = 0 ∧ x.o.known x.w = false ∧ x.argErr = 12) ∨
    (x.h.Ok ∧ x.h.err = 0 ∧ x.o.inputs = x.h.m.inputs ∧ wErr x.w x.h.m.inputs = 0 ∧ x.o.known x.w = true ∧ x.o.ans x.w = x.h.m.outsW x.h.m.start x.w ∧ x.argErr = 8) ∨
    (x.h.Ok ∧ x.h.err = 0 ∧ x.o.inputs = x.h.m.inputs ∧ wErr x.w x.h.m.inputs = 0 ∧ x.o.known x.w = true ∧ x.o.ans x.w ≠ x.h.m.outsW x.h.m.start x.w ∧ x.argErr = 0) := by
  unfold argErr
  by_cases h1 : x.h.err = 0
  · have ok := Hy.ok_of h1
    refine .inr ?_
    by_cases h2 : x.o.inputs = x.h.m.inputs
    · refine .inr ?_
      by_cases h3 : wErr x.w x.h.m.inputs = 0
      · refine .inr ?_
        cases h4 : x.o.known x.w with
        | false => exact .inl ⟨ok, h1, h2, h3, rfl, by rw [if_neg (by simp [h1]), if_neg (by simp [h2]), if_neg (by simp [h3]), if_pos rfl]⟩
        | true =>
          refine .inr ?_
          by_cases h5 : x.o.ans x.w = x.h.m.outsW x.h.m.start x.w
          · exact .inl ⟨ok, h1, h2, h3, rfl, h5, by rw [if_neg (by simp [h1]), if_neg (by simp [h2]), if_neg (by simp [h3]), if_neg (by simp), if_pos h5]⟩
          · exact .inr ⟨ok, h1, h2, h3, rfl, h5, by rw [if_neg (by simp [h1]), if_neg (by simp [h2]), if_neg (by simp [h3]), if_neg (by simp), if_neg h5]⟩
      · exact .inl ⟨ok, h1, h2, h3, by rw [if_neg (by simp [h1]), if_neg (by simp [h2]), if_pos h3]⟩
    · exact .inl ⟨ok, h1, h2, by rw [if_neg (by simp [h1]), if_pos h2]⟩
  · exact .inl ⟨h1, by rw [if_pos h1]⟩
theorem ok_of (h : x.argErr = 0) : x.Ok := by
  rcases argErr_cases (x := x) with ⟨h1, h2⟩ | ⟨_, _, _, h2⟩ | ⟨_, _, _, h1, h2⟩ | ⟨_, _, _, _, _, h2⟩ | ⟨_, _, _, _, _, _, h2⟩ | ⟨h1, _, h2, h3, h4, h5, _⟩
  · rw [h2] at h; exact absurd h h1
  · rw [h2] at h; simp at h
  · rw [h2] at h; exact absurd h h1
  · rw [h2] at h; simp at h
  · rw [h2] at h; simp at h
  · have := Mach.okS_of h3
    exact ⟨h1, h2, this.1, this.2, h4, h5⟩
theorem Ok.pos (k : x.Ok) : 0 < x.w.length := by
  rcases Nat.eq_zero_or_pos x.w.length with e | e
  · have e := List.length_eq_zero_iff.1 e
    have := k.ne
    rw [e] at this
    rw [(x.o.ans_nil (w := []) rfl).1] at this
    exact absurd rfl this
  · exact e
/-- The state is one. -/
theorem Ok.st (k : x.Ok) (i : Nat) : 0 ≤ x.st i ∧ x.st i < x.h.m.next.length :=
  Mach.endW_range k.h.m _ _ k.h.m.s0 k.h.m.s1 (Mach.okS_take k.w i)
theorem Ok.ax (k : x.Ok) (i : Nat) : (x.ax i).length ≤ 1024 ∧ x.h.m.okS (x.ax i) ∧ x.h.m.endW x.h.m.start (x.ax i) = x.st i := by
  have h1 := k.st i
  have h2 := k.h.word (x.st i).toNat (by have := k.h.len; omega)
  have h3 := Mach.okS_of h2.1
  exact ⟨h3.2, h3.1, by have := h2.2; unfold Sj.ax; rw [this]; omega⟩
theorem st_zero : x.st 0 = x.h.m.start := by unfold st; simp [Mach.endW]
theorem Ok.ax0 (k : x.Ok) : x.ax 0 = [] := by unfold Sj.ax; rw [st_zero]; exact k.h.start
theorem Ok.q0 (k : x.Ok) : x.q 0 = x.w := by unfold q; rw [k.ax0]; simp
theorem Ok.bad0 (k : x.Ok) : x.bad 0 = true := by
  have := k.ne
  unfold bad own
  rw [k.ax0, k.q0, st_zero]
  simp [this]
theorem Ok.kn0 (k : x.Ok) : x.o.known (x.q 0) = true := by rw [k.q0]; exact k.kn
theorem st_succ {i : Nat} {a : Int} (h : x.w[i]? = some a) : x.st (i + 1) = x.h.m.nx (x.st i).toNat a.toNat := by
  unfold st; rw [Mach.take_step h, Mach.endW_snoc]
/-- A known answer is as long as its word. -/
theorem ans_len {o : Ob} (h : o.lens) {w : List Int} (hk : o.known w = true) : (o.ans w).length = w.length := by
  by_cases h0 : w = []
  · rw [(o.ans_nil h0).1, h0]
  · rcases find_cases o w with hn | ⟨k, t, ht, hp, hn⟩
    · rw [(o.ans_none h0 hn).2] at hk; cases hk
    · rw [(o.ans_some h0 ht hp hn).1, List.length_take]
      have := hasP_le hp
      have := h t (List.mem_of_getElem? ht)
      omega
theorem q_len (x : Sj) (i : Nat) : (x.q i).length = (x.ax i).length + (x.w.length - i) := by unfold q; simp
theorem own_len (x : Sj) (i : Nat) : (x.own i).length = x.w.length - i := by unfold own; rw [Mach.outsW_len]; simp
/-- The outputs from a position on. -/
theorem own_drop (x : Sj) (i : Nat) (hi : i ≤ x.w.length) : (x.h.m.outsW x.h.m.start x.w).drop i = x.own i := by
  have e : x.w = x.w.take i ++ x.w.drop i := (List.take_append_drop i x.w).symm
  have h : x.h.m.outsW x.h.m.start x.w = x.h.m.outsW x.h.m.start (x.w.take i) ++ x.own i := by
    conv => lhs; rw [e]
    rw [Mach.outsW_app]; rfl
  rw [h, List.drop_left' (by rw [Mach.outsW_len, List.length_take]; omega)]
theorem own_get {i : Nat} {a : Int} (h : x.w[i]? = some a) : (x.h.m.outsW x.h.m.start x.w)[i]? = some (x.h.m.ot (x.st i).toNat a.toNat) := by
  have hi : i < x.w.length := by
    by_cases e : i < x.w.length
    · exact e
    · rw [List.getElem?_eq_none (by omega)] at h; simp at h
  have e := own_drop x i (by omega)
  have h2 : ((x.h.m.outsW x.h.m.start x.w).drop i)[0]? = (x.own i)[0]? := by rw [e]
  rw [List.getElem?_drop] at h2
  simp only [Nat.add_zero] at h2
  rw [h2]
  unfold own
  rw [List.drop_eq_getElem_cons hi]
  rw [List.getElem?_eq_getElem hi] at h
  obtain rfl : x.w[i] = a := by simpa using h
  simp [Mach.outsW]
end Sj
end Go.Proofs.Ytlgdijgfphedpaa
