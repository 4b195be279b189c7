/- For every input 'EquivMinimal' returns true and leaves its arguments as they were. No condition beyond the given row's. -/
import Derived.Test.YtdnmgiabgpilkaaRows
import Derived.Test.YtdnmgiabgpilkaaOpen
import Derived.Test.YtdnmgiabgpilkaaMgE
import Derived.WalkKit
import Derived.ProofKit
import Derived.OpenShut
import Derived.ShutString
import Derived.ChangeOld
import Derived.Below
import Derived.WideKeyPair
namespace Go.Proofs.Ytdnmgiabgpilkaa
open Go.ChangeShapes Go.WideShapes Go.WideMaps Go.ChangeAt Go.RowKit
set_option linter.unusedVariables false

theorem equivMinimal_own : ownKnob Try.prog.godebug = none := by kernel_rfl
theorem equivMinimal_laid : laidOutB Try.prog = true := by kernel_rfl
theorem equivMinimal_arr : ArrKey Try.prog 73 5 2 := ⟨Try.underlying73, by kernel_rfl, by kernel_rfl, by kernel_rfl⟩
theorem equivMinimal_u8 {x : Int} (h : (Lit.int .u8 x).wf = true) : 0 ≤ x ∧ x < 256 := by have := bounds_u8 h; omega

set_option maxRecDepth 100000 in
theorem equivMinimal_lifted (os : Os) (started : os.Started) (H : Type) (enc : TypeId × Value → H) :
    ReturnsInHanded {} Try.checked os 15 .any (Rows.equivMinimalSpec.pre6 enc Try.prog Try.f15 Rows.equivMinimalRow.domain false) (Rows.equivMinimalSpec.post enc Try.prog Try.f15 false true false false) := by
  refine returnsInHanded_of_change (C := Try.checked) equivMinimal_own started (by kernel_rfl) Try.func15
    (ChangeSpec.witness6 (enc := enc) (C := Try.checked) false ⟨#[], #[.agg #[.int .i64 0, .int .i64 0, .slice none 0 0, .slice none 0 0], .agg #[.int .i64 0, .int .i64 0, .slice none 0 0, .slice none 0 0], .agg #[.int .u8 0, .int .u8 0]], []⟩ 8 (by kernel_rfl) (by kernel_rfl) (by kernel_rfl) (by kernel_rfl)) ?_
  intro W base args ds gs before hval0 hW hcnd _
  have hval : ∀ (j : Nat) t v, Try.f15.params[j]? = some t → args[j]? = some v → Value.okWide Try.prog W .any base t v := hval0
  have hW' := hW
  obtain ⟨p, q, hA0, hV, rfl, hfz, hnd⟩ := hW
  have hA : DataW.TrodAll enc Try.prog W 0 (fun _ => true) true Try.f15.params.toList args.toList ds p := hA0
  rw [Try.params15] at hA hval
  obtain ⟨v0, vs0, d0, ds0, p0, q0, hargs, rfl, rfl, h0, r0⟩ := trodAll_cons hA
  obtain ⟨v1, vs1, d1, ds1, p1, q1, rfl, rfl, rfl, h1, r1⟩ := trodAll_cons r0
  obtain ⟨v2, vs2, d2, ds2, p2, q2, rfl, rfl, rfl, h2, r2⟩ := trodAll_cons r1
  obtain ⟨rfl, rfl, rfl⟩ := trodAll_nil r2
  obtain rfl : args = #[v0, v1, v2] := by cases args; simp_all
  obtain ⟨rfl, rfl⟩ := trodVars_none hV
  have k0 := h0
  have lt0 : ∀ x ∈ p0, x.block < W.heap.size := by obtain ⟨m, hm⟩ := k0; exact DataW.trod_lt m _ _ _ hm
  obtain ⟨m0, an0, cn0, ao0, co0, rfl, hm0⟩ := open_mealy (hval 0 24 v0 rfl rfl) h0
  have k1 := h1
  have lt1 : ∀ x ∈ p1, x.block < W.heap.size := by obtain ⟨m, hm⟩ := k1; exact DataW.trod_lt m _ _ _ hm
  obtain ⟨m1, an1, cn1, ao1, co1, rfl, hm1⟩ := open_mealy (hval 1 24 v1 rfl rfl) h1
  obtain ⟨a2, b2, rfl, rfl, rfl, w2, u2⟩ := open_pair equivMinimal_arr Try.underlying5 (hval 2 73 v2 rfl rfl) h2
  clear hA0 hval0
  refine (lmineq_any hm0 hm1 a2 b2 (equivMinimal_u8 w2) (equivMinimal_u8 u2)).mono fun e W' ⟨he, bel⟩ => ?_
  subst he
  exact ⟨_, rfl, _, _, _, [], _, [], hW', trodAll_mk1 (shut_bool Try.underlying4 _), (trodAll_cons_mk (Below.trod equivMinimal_laid (by kernel_rfl) (of_decide_eq_true (by kernel_rfl)) k0 bel lt0) (trodAll_cons_mk (Below.trod equivMinimal_laid (by kernel_rfl) (of_decide_eq_true (by kernel_rfl)) k1 bel lt1) (trodAll_cons_mk (shut_pair equivMinimal_arr Try.underlying5 w2 u2) trodAll_mk0))), rfl, bel.frame _, fun h => by cases h⟩

theorem equivMinimal_over : Rows.equivMinimalRow.holds Try.pinned (OpenSpec.ofChange Rows.equivMinimalSpec) :=
  OpenClaim.holds_of_wide 15 Try.f15 rfl rfl rfl rfl rfl rfl rfl ⟨rfl, rfl, rfl, rfl, rfl⟩ rfl rfl rfl rfl rfl (by kernel_rfl) Try.func15 (by kernel_rfl)
    (of_decide_eq_true (by kernel_rfl)) (by unfold Func.isWrapper; first | (rw [if_pos (by decide +kernel)]; kernel_rfl) | (rw [if_neg (by decide +kernel)]; exact ⟨rfl, rfl⟩))
    (fun os started H enc _ => equivMinimal_lifted os started H enc)

theorem equivMinimal_proved : Rows.EquivMinimalSaid := equivMinimal_over
#print axioms equivMinimal_proved
end Go.Proofs.Ytdnmgiabgpilkaa
