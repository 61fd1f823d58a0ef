/- The known calls are so, part 6. -/
import Derived.Test.YtpaeganfehemnaaGreatRun5
namespace Go.Ev

theorem e66_ok : EntryOk Go.Proofs.Tryz.prog e66 := by_run L66_ok (by kernel_rfl)
theorem L67_ok : ∀ e ∈ L67, EntryOk Go.Proofs.Tryz.prog e := cons_ok L66_ok e66_ok
end Go.Ev
