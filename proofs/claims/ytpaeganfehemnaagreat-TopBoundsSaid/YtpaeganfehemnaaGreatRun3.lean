/- The known calls are so, part 3. -/
import Derived.Test.YtpaeganfehemnaaGreatRun2
namespace Go.Ev

theorem e55_ok : EntryOk Go.Proofs.Tryz.prog e55 := by_run L55_ok (by kernel_rfl)
theorem L56_ok : ∀ e ∈ L56, EntryOk Go.Proofs.Tryz.prog e := cons_ok L55_ok e55_ok
end Go.Ev
