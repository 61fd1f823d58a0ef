/- Proved here: the law TopBounds returns true for every input, and its arguments read afterwards as before. No conditions. -/
import Derived.Test.YtpaeganfehemnaaGreatBoc

namespace Go.Proofs.YtpaeganfehemnaaGreat
open Go.ChangeShapes Go.WideShapes Go.ChangeAt Go.RowKit

theorem bounds_inPlace : (Rows.topBoundsRow.inPlace == Tryz.pinned.checked.prog.inPlace 5) = true := by kernel_rfl
theorem bounds_unfollowed : (Rows.topBoundsRow.unfollowed == Tryz.pinned.checked.prog.unfollowed 5) = true := by kernel_rfl
theorem bounds_recurses : (Rows.topBoundsRow.recurses == Tryz.pinned.checked.prog.recurses 5) = true := by kernel_rfl
theorem bounds_named : (Rows.topBoundsRow.named == Tryz.pinned.checked.prog.varsNamed 5) = true := by kernel_rfl

set_option maxHeartbeats 4000000 in
theorem bounds_facts : joinedFacts Tryz.pinned.checked.prog 5 Tryz.f5 Rows.topBoundsSpec Rows.topBoundsRow = true := by
  unfold joinedFacts
  rw [bounds_inPlace, bounds_unfollowed, bounds_recurses, bounds_named]
  simp only [Bool.and_eq_true]
  repeat' apply And.intro
  all_goals first | exact True.intro | as_aux_lemma => kernel_rfl

theorem bounds_fn : Tryz.pinned.checked.prog.funcNamed Rows.topBoundsRow.func = some 5 := by kernel_rfl

theorem bounds_holds : Rows.TopBoundsSaid :=
  OpenClaim.holds_of_wide 5 Tryz.f5 rfl rfl rfl rfl rfl rfl rfl ⟨rfl, rfl, rfl, rfl, rfl⟩ rfl rfl rfl rfl rfl bounds_fn Tryz.func5 bounds_facts
    (of_decide_eq_true (by kernel_rfl)) (by unfold Func.isWrapper; first | (rw [if_pos (by decide +kernel)]; kernel_rfl) | (rw [if_neg (by decide +kernel)]; exact ⟨rfl, rfl⟩))
    (fun os started H enc _ => bounds_lifted os started H enc)
end Go.Proofs.YtpaeganfehemnaaGreat
