/- The known calls are so, part 9. -/
import Derived.Test.YtpaeganfehemnaaGreatRun8
namespace Go.Ev

theorem e86_ok : EntryOk Go.Proofs.Tryz.prog e86 := by_run L86_ok (by kernel_rfl)
theorem L87_ok : ∀ e ∈ L87, EntryOk Go.Proofs.Tryz.prog e := cons_ok L86_ok e86_ok
theorem e87_ok : EntryOk Go.Proofs.Tryz.prog e87 := by_run L87_ok (by kernel_rfl)
theorem L88_ok : ∀ e ∈ L88, EntryOk Go.Proofs.Tryz.prog e := cons_ok L87_ok e87_ok
end Go.Ev
