/- The known calls are so, part 2. -/
import Derived.Test.YtpaeganfehemnaaGreatRun1
namespace Go.Ev

theorem e49_ok : EntryOk Go.Proofs.Tryz.prog e49 := by_run L49_ok (by kernel_rfl)
theorem L50_ok : ∀ e ∈ L50, EntryOk Go.Proofs.Tryz.prog e := cons_ok L49_ok e49_ok
theorem e50_ok : EntryOk Go.Proofs.Tryz.prog e50 := by_run L50_ok (by kernel_rfl)
theorem L51_ok : ∀ e ∈ L51, EntryOk Go.Proofs.Tryz.prog e := cons_ok L50_ok e50_ok
theorem e51_ok : EntryOk Go.Proofs.Tryz.prog e51 := by_run L51_ok (by kernel_rfl)
theorem L52_ok : ∀ e ∈ L52, EntryOk Go.Proofs.Tryz.prog e := cons_ok L51_ok e51_ok
theorem e52_ok : EntryOk Go.Proofs.Tryz.prog e52 := by_run L52_ok (by kernel_rfl)
theorem L53_ok : ∀ e ∈ L53, EntryOk Go.Proofs.Tryz.prog e := cons_ok L52_ok e52_ok
theorem e53_ok : EntryOk Go.Proofs.Tryz.prog e53 := by_run L53_ok (by kernel_rfl)
theorem L54_ok : ∀ e ∈ L54, EntryOk Go.Proofs.Tryz.prog e := cons_ok L53_ok e53_ok
theorem e54_ok : EntryOk Go.Proofs.Tryz.prog e54 := by_run L54_ok (by kernel_rfl)
theorem L55_ok : ∀ e ∈ L55, EntryOk Go.Proofs.Tryz.prog e := cons_ok L54_ok e54_ok
end Go.Ev
