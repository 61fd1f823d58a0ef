/- The known calls are so, part 7. -/
import Derived.Test.YtpaeganfehemnaaGreatRun6
namespace Go.Ev

theorem e67_ok : EntryOk Go.Proofs.Tryz.prog e67 := by_run L67_ok (by kernel_rfl)
theorem L68_ok : ∀ e ∈ L68, EntryOk Go.Proofs.Tryz.prog e := cons_ok L67_ok e67_ok
theorem e68_ok : EntryOk Go.Proofs.Tryz.prog e68 := by_run L68_ok (by kernel_rfl)
theorem L69_ok : ∀ e ∈ L69, EntryOk Go.Proofs.Tryz.prog e := cons_ok L68_ok e68_ok
theorem e69_ok : EntryOk Go.Proofs.Tryz.prog e69 := by_run L69_ok (by kernel_rfl)
theorem L70_ok : ∀ e ∈ L70, EntryOk Go.Proofs.Tryz.prog e := cons_ok L69_ok e69_ok
theorem e70_ok : EntryOk Go.Proofs.Tryz.prog e70 := by_run L70_ok (by kernel_rfl)
theorem L71_ok : ∀ e ∈ L71, EntryOk Go.Proofs.Tryz.prog e := cons_ok L70_ok e70_ok
theorem e71_ok : EntryOk Go.Proofs.Tryz.prog e71 := by_run L71_ok (by kernel_rfl)
theorem L72_ok : ∀ e ∈ L72, EntryOk Go.Proofs.Tryz.prog e := cons_ok L71_ok e71_ok
theorem e72_ok : EntryOk Go.Proofs.Tryz.prog e72 := by_run L72_ok (by kernel_rfl)
theorem L73_ok : ∀ e ∈ L73, EntryOk Go.Proofs.Tryz.prog e := cons_ok L72_ok e72_ok
theorem e73_ok : EntryOk Go.Proofs.Tryz.prog e73 := by_run L73_ok (by kernel_rfl)
theorem L74_ok : ∀ e ∈ L74, EntryOk Go.Proofs.Tryz.prog e := cons_ok L73_ok e73_ok
theorem e74_ok : EntryOk Go.Proofs.Tryz.prog e74 := by_run L74_ok (by kernel_rfl)
theorem L75_ok : ∀ e ∈ L75, EntryOk Go.Proofs.Tryz.prog e := cons_ok L74_ok e74_ok
theorem e75_ok : EntryOk Go.Proofs.Tryz.prog e75 := by_run L75_ok (by kernel_rfl)
theorem L76_ok : ∀ e ∈ L76, EntryOk Go.Proofs.Tryz.prog e := cons_ok L75_ok e75_ok
theorem e76_ok : EntryOk Go.Proofs.Tryz.prog e76 := by_run L76_ok (by kernel_rfl)
theorem L77_ok : ∀ e ∈ L77, EntryOk Go.Proofs.Tryz.prog e := cons_ok L76_ok e76_ok
theorem e77_ok : EntryOk Go.Proofs.Tryz.prog e77 := by_run L77_ok (by kernel_rfl)
theorem L78_ok : ∀ e ∈ L78, EntryOk Go.Proofs.Tryz.prog e := cons_ok L77_ok e77_ok
theorem e78_ok : EntryOk Go.Proofs.Tryz.prog e78 := by_run L78_ok (by kernel_rfl)
theorem L79_ok : ∀ e ∈ L79, EntryOk Go.Proofs.Tryz.prog e := cons_ok L78_ok e78_ok
theorem e79_ok : EntryOk Go.Proofs.Tryz.prog e79 := by_run L79_ok (by kernel_rfl)
theorem L80_ok : ∀ e ∈ L80, EntryOk Go.Proofs.Tryz.prog e := cons_ok L79_ok e79_ok
theorem e80_ok : EntryOk Go.Proofs.Tryz.prog e80 := by_run L80_ok (by kernel_rfl)
theorem L81_ok : ∀ e ∈ L81, EntryOk Go.Proofs.Tryz.prog e := cons_ok L80_ok e80_ok
theorem e81_ok : EntryOk Go.Proofs.Tryz.prog e81 := by_run L81_ok (by kernel_rfl)
theorem L82_ok : ∀ e ∈ L82, EntryOk Go.Proofs.Tryz.prog e := cons_ok L81_ok e81_ok
end Go.Ev
