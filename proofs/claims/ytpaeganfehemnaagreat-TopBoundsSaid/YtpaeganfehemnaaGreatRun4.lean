/- The known calls are so, part 4. -/
import Derived.Test.YtpaeganfehemnaaGreatRun3
namespace Go.Ev

theorem e56_ok : EntryOk Go.Proofs.Tryz.prog e56 := by_run L56_ok (by kernel_rfl)
theorem L57_ok : ∀ e ∈ L57, EntryOk Go.Proofs.Tryz.prog e := cons_ok L56_ok e56_ok
theorem e57_ok : EntryOk Go.Proofs.Tryz.prog e57 := by_run L57_ok (by kernel_rfl)
theorem L58_ok : ∀ e ∈ L58, EntryOk Go.Proofs.Tryz.prog e := cons_ok L57_ok e57_ok
theorem e58_ok : EntryOk Go.Proofs.Tryz.prog e58 := by_run L58_ok (by kernel_rfl)
theorem L59_ok : ∀ e ∈ L59, EntryOk Go.Proofs.Tryz.prog e := cons_ok L58_ok e58_ok
theorem e59_ok : EntryOk Go.Proofs.Tryz.prog e59 := by_run L59_ok (by kernel_rfl)
theorem L60_ok : ∀ e ∈ L60, EntryOk Go.Proofs.Tryz.prog e := cons_ok L59_ok e59_ok
end Go.Ev
