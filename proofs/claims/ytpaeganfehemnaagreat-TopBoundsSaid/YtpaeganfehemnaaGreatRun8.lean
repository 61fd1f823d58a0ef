/- The known calls are so, part 8. -/
import Derived.Test.YtpaeganfehemnaaGreatRun7
namespace Go.Ev

theorem e82_ok : EntryOk Go.Proofs.Tryz.prog e82 := by_run L82_ok (by kernel_rfl)
theorem L83_ok : ∀ e ∈ L83, EntryOk Go.Proofs.Tryz.prog e := cons_ok L82_ok e82_ok
theorem e83_ok : EntryOk Go.Proofs.Tryz.prog e83 := by_run L83_ok (by kernel_rfl)
theorem L84_ok : ∀ e ∈ L84, EntryOk Go.Proofs.Tryz.prog e := cons_ok L83_ok e83_ok
theorem e84_ok : EntryOk Go.Proofs.Tryz.prog e84 := by_run L84_ok (by kernel_rfl)
theorem L85_ok : ∀ e ∈ L85, EntryOk Go.Proofs.Tryz.prog e := cons_ok L84_ok e84_ok
theorem e85_ok : EntryOk Go.Proofs.Tryz.prog e85 := by_run L85_ok (by kernel_rfl)
theorem L86_ok : ∀ e ∈ L86, EntryOk Go.Proofs.Tryz.prog e := cons_ok L85_ok e85_ok
end Go.Ev
