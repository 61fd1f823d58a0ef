/- The known calls are so, part 5. -/
import Derived.Test.YtpaeganfehemnaaGreatRun4
namespace Go.Ev

theorem e60_ok : EntryOk Go.Proofs.Tryz.prog e60 := by_run L60_ok (by kernel_rfl)
theorem L61_ok : ∀ e ∈ L61, EntryOk Go.Proofs.Tryz.prog e := cons_ok L60_ok e60_ok
theorem e61_ok : EntryOk Go.Proofs.Tryz.prog e61 := by_run L61_ok (by kernel_rfl)
theorem L62_ok : ∀ e ∈ L62, EntryOk Go.Proofs.Tryz.prog e := cons_ok L61_ok e61_ok
theorem e62_ok : EntryOk Go.Proofs.Tryz.prog e62 := by_run L62_ok (by kernel_rfl)
theorem L63_ok : ∀ e ∈ L63, EntryOk Go.Proofs.Tryz.prog e := cons_ok L62_ok e62_ok
theorem e63_ok : EntryOk Go.Proofs.Tryz.prog e63 := by_run L63_ok (by kernel_rfl)
theorem L64_ok : ∀ e ∈ L64, EntryOk Go.Proofs.Tryz.prog e := cons_ok L63_ok e63_ok
theorem e64_ok : EntryOk Go.Proofs.Tryz.prog e64 := by_run L64_ok (by kernel_rfl)
theorem L65_ok : ∀ e ∈ L65, EntryOk Go.Proofs.Tryz.prog e := cons_ok L64_ok e64_ok
theorem e65_ok : EntryOk Go.Proofs.Tryz.prog e65 := by_run L65_ok (by kernel_rfl)
theorem L66_ok : ∀ e ∈ L66, EntryOk Go.Proofs.Tryz.prog e := cons_ok L65_ok e65_ok
end Go.Ev
