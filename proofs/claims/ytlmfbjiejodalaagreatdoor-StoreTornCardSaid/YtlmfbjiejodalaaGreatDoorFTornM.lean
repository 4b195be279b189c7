/- For every input 'StoreTorn' returns true and leaves its arguments as they were. No condition beyond the given row's. -/
import Derived.Test.YtlmfbjiejodalaaGreatDoorMx34
import Derived.Test.YtlmfbjiejodalaaGreatDoorMx5
namespace Go.Proofs.YtlmfbjiejodalaaGreatDoor
open Go.ChangeShapes Go.WideShapes Go.ChangeAt Go.RowKit
set_option linter.unusedVariables false
set_option maxHeartbeats 64000000 in
theorem storeTorn_over : Rows.StoreTornSaid :=
  OpenClaim.holds_of_wide 5 Tryz.f5 rfl rfl rfl rfl rfl rfl rfl ⟨rfl, rfl, rfl, rfl, rfl⟩ rfl rfl rfl rfl rfl (by as_aux_lemma => kernel_rfl) Tryz.func5 storeTorn_closed
    (of_decide_eq_true (by as_aux_lemma => kernel_rfl)) (by unfold Func.isWrapper; first | (rw [if_pos (by decide +kernel)]; kernel_rfl) | (rw [if_neg (by decide +kernel)]; exact ⟨rfl, rfl⟩))
    (fun os started H enc _ => storeTorn_lifted os started H enc)
set_option maxHeartbeats 64000000 in
theorem storeTorn_proved : Rows.StoreTornCardSaid :=
  Claim7.holds_tied_plain_at .later [] [.data, .data, .data] true (true, "a77e0472c0c3197adaee935f219c0a9b68291e2965d05743aefe67f6b540c441") true
    storeTorn_over (fun _ h => by cases h) (by as_aux_lemma => kernel_rfl) (fun _ h => by cases h) storeTorn_row_tie rfl ⟨rfl, rfl⟩ (by as_aux_lemma => kernel_rfl) rfl
    (fun f fn hf hfn => by
      obtain rfl : f = 5 := Option.some.inj ((show Tryz.prog.funcNamed "learner/learnerlaw53.StoreTorn" = some 5 by as_aux_lemma => kernel_rfl).symm.trans hf) |>.symm
      obtain rfl : fn = Tryz.f5 := (Option.some.inj (Tryz.func5.symm.trans hfn)).symm
      exact ⟨by as_aux_lemma => kernel_rfl, fun j t ht => by
        rw [Tryz.params5] at ht
        have hm : t ∈ [60, 61] := by simpa using Array.mem_of_getElem? ht
        have hall : ([60, 61].all fun u => !Tryz.prog.wantsStandIn u) = true := by as_aux_lemma => kernel_rfl
        exact (show Tryz.prog.wantsStandIn t = false by simpa using List.all_eq_true.1 hall t hm)⟩)
    (goesBy_none storeTorn_goes rfl)
end Go.Proofs.YtlmfbjiejodalaaGreatDoor
