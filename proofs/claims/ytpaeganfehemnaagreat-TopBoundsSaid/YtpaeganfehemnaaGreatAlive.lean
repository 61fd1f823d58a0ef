/- The closed call alive12 gives true, in every world; it leaves what there was as it was. -/
import Derived.Test.YtpaeganfehemnaaGreatRun9
namespace Go.Ev

theorem alive12_run : checkTop (evT.with 4000 L88) 100000 8 = true := by kernel_rfl

theorem alive12_any (w : World) : Calls Go.Proofs.Tryz.prog 8 #[] w fun e w' => e = .returned (.bool true) ∧ RowKit.Below w.heap.size w w' :=
  top_calls (evT_ok.with 4000 L88) (sum_with L88_ok) alive12_run w

theorem alive12_returns (w : World) : Callable Go.Proofs.Tryz.prog 8 ∧ ∃ w2, RowKit.Below w.heap.size w w2 ∧ Returns Go.Proofs.Tryz.prog (Frame.enter Go.Proofs.Tryz.prog 8 #[] .normal) w (.bool true) w2 :=
  top_returns (evT_ok.with 4000 L88) (sum_with L88_ok) alive12_run w
end Go.Ev
