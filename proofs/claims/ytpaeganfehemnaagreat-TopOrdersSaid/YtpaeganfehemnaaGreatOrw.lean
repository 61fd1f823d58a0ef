/- Proved here: the law TopOrders returns true for every input, and its arguments read afterwards as before. No conditions. -/
import Derived.Test.YtpaeganfehemnaaGreatOrc

namespace Go.Proofs.YtpaeganfehemnaaGreat
open Go.ChangeShapes Go.WideShapes Go.ChangeAt Go.RowKit

theorem orders_inPlace : (Rows.topOrdersRow.inPlace == Tryz.pinned.checked.prog.inPlace 6) = true := by kernel_rfl
theorem orders_unfollowed : (Rows.topOrdersRow.unfollowed == Tryz.pinned.checked.prog.unfollowed 6) = true := by kernel_rfl
theorem orders_recurses : (Rows.topOrdersRow.recurses == Tryz.pinned.checked.prog.recurses 6) = true := by kernel_rfl
theorem orders_named : (Rows.topOrdersRow.named == Tryz.pinned.checked.prog.varsNamed 6) = true := by kernel_rfl

set_option maxHeartbeats 4000000 in
theorem orders_facts : joinedFacts Tryz.pinned.checked.prog 6 Tryz.f6 Rows.topOrdersSpec Rows.topOrdersRow = true := by
  unfold joinedFacts
  rw [orders_inPlace, orders_unfollowed, orders_recurses, orders_named]
  simp only [Bool.and_eq_true]
  repeat' apply And.intro
  all_goals first | exact True.intro | as_aux_lemma => kernel_rfl

theorem orders_fn : Tryz.pinned.checked.prog.funcNamed Rows.topOrdersRow.func = some 6 := by kernel_rfl

theorem orders_holds : Rows.TopOrdersSaid :=
  OpenClaim.holds_of_wide 6 Tryz.f6 rfl rfl rfl rfl rfl rfl rfl ⟨rfl, rfl, rfl, rfl, rfl⟩ rfl rfl rfl rfl rfl orders_fn Tryz.func6 orders_facts
    (of_decide_eq_true (by kernel_rfl)) (by unfold Func.isWrapper; first | (rw [if_pos (by decide +kernel)]; kernel_rfl) | (rw [if_neg (by decide +kernel)]; exact ⟨rfl, rfl⟩))
    (fun os started H enc _ => orders_lifted os started H enc)
end Go.Proofs.YtpaeganfehemnaaGreat
