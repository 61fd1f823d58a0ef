/- The known calls are so, part 1. -/
import Derived.Test.YtpaeganfehemnaaGreatRun0
namespace Go.Ev

theorem e41_ok : EntryOk Go.Proofs.Tryz.prog e41 := by_run L41_ok (by kernel_rfl)
theorem L42_ok : ∀ e ∈ L42, EntryOk Go.Proofs.Tryz.prog e := cons_ok L41_ok e41_ok
theorem e42_ok : EntryOk Go.Proofs.Tryz.prog e42 := by_run L42_ok (by kernel_rfl)
theorem L43_ok : ∀ e ∈ L43, EntryOk Go.Proofs.Tryz.prog e := cons_ok L42_ok e42_ok
theorem e43_ok : EntryOk Go.Proofs.Tryz.prog e43 := by_run L43_ok (by kernel_rfl)
theorem L44_ok : ∀ e ∈ L44, EntryOk Go.Proofs.Tryz.prog e := cons_ok L43_ok e43_ok
theorem e44_ok : EntryOk Go.Proofs.Tryz.prog e44 := by_run L44_ok (by kernel_rfl)
theorem L45_ok : ∀ e ∈ L45, EntryOk Go.Proofs.Tryz.prog e := cons_ok L44_ok e44_ok
theorem e45_ok : EntryOk Go.Proofs.Tryz.prog e45 := by_run L45_ok (by kernel_rfl)
theorem L46_ok : ∀ e ∈ L46, EntryOk Go.Proofs.Tryz.prog e := cons_ok L45_ok e45_ok
theorem e46_ok : EntryOk Go.Proofs.Tryz.prog e46 := by_run L46_ok (by kernel_rfl)
theorem L47_ok : ∀ e ∈ L47, EntryOk Go.Proofs.Tryz.prog e := cons_ok L46_ok e46_ok
theorem e47_ok : EntryOk Go.Proofs.Tryz.prog e47 := by_run L47_ok (by kernel_rfl)
theorem L48_ok : ∀ e ∈ L48, EntryOk Go.Proofs.Tryz.prog e := cons_ok L47_ok e47_ok
theorem e48_ok : EntryOk Go.Proofs.Tryz.prog e48 := by_run L48_ok (by kernel_rfl)
theorem L49_ok : ∀ e ∈ L49, EntryOk Go.Proofs.Tryz.prog e := cons_ok L48_ok e48_ok
end Go.Ev
