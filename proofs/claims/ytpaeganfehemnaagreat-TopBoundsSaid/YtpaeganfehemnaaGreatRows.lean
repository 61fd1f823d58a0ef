/-
  No cell of these rows narrows 'for every input' (looked for: loops, veiled, ifaces, maps, wideKeys, modest, calm, conditions, laid).
  DERIVED. THE GIVEN ROWS OF THIS SEAT. 5 by the template 'for every input the law returns true; each argument reads behind the call as it read before'; 0 by the template 'total and deterministic' (their statements: YtpaeganfehemnaaGreatTotals.lean).
  GIVEN WITH THE SEED: the statements are not yours to turn. If you find one false, say at which input.
  Laid BY PROGRAM, IN A SANDBOX (cutbox-rows.mjs): the forced cells as the released guide's own fill.sh prints them over the translation e37d4cba4d22aac7… (all of the seat's roots in one cut). By AI agents, Wed Nov 11 2026. No macro, syntax, notation, axiom, sorry.
-/
import Derived.Test.YtpaeganfehemnaaGreatChecked
import GoSem.Claim
import GoSem.ClaimJoined
import GoSem.ClaimMapViews
import Derived.JoinedTies
import Derived.KernelRfl
namespace Go.Proofs.YtpaeganfehemnaaGreat
/- THE CELL 'sum', in the pinned program and in every row, IS THE sha256 OF THE DUMP (.gsa) THAT YtpaeganfehemnaaGreatProg.lean LOADS. Nothing in Lean hashes anything: it is a label: what it is worth is what the hold of that sum in a sandbox is worth. -/
noncomputable def Tryz.pinned : Pinned := { name := "ytpaeganfehemnaagreat", sum := "e37d4cba4d22aac771236881bce93f5e5108c25bc7df422d8a7268679b4a0858", checked := Tryz.checked }
namespace Rows
def none {H : Type} : Left H := { results := [], args := [] }

/-- 'trestletop.TopCounted': WHATEVER THE INPUT: true; the input reads as it did. -/
def topCountedSpec : ChangeSpec := { name := "topCounted", fn := fun _ => fun
  | [d] => { results := [.lit (.bool true)], args := [d] }
  | _ => none }
def topCountedRow : OpenClaim := { program := "ytpaeganfehemnaagreat", sum := "e37d4cba4d22aac771236881bce93f5e5108c25bc7df422d8a7268679b4a0858", func := "trestle/trestletop.TopCounted", spec := "topCounted", inPlace := ["internal/bytealg.abigen_runtime_cmpstring", "slices.overlaps[trestle/api.Tie]"], unfollowed := true, recurses := true, apart := false }
def TopCountedSaid : Prop := topCountedRow.holds Tryz.pinned (OpenSpec.ofChange topCountedSpec)

/-- ITS FALSE NEIGHBOUR: 'it returns false'. Refute it at one input. -/
def topCountedWrong : ChangeSpec := { name := "topCounted", fn := fun _ => fun
  | [d] => { results := [.lit (.bool false)], args := [d] }
  | _ => none }
def TopCountedWrongFalsely : Prop := topCountedRow.holds Tryz.pinned (OpenSpec.ofChange topCountedWrong)

/-- 'trestletop.TopShown': WHATEVER THE INPUT: true; the input reads as it did. -/
def topShownSpec : ChangeSpec := { name := "topShown", fn := fun _ => fun
  | [d] => { results := [.lit (.bool true)], args := [d] }
  | _ => none }
def topShownRow : OpenClaim := { program := "ytpaeganfehemnaagreat", sum := "e37d4cba4d22aac771236881bce93f5e5108c25bc7df422d8a7268679b4a0858", func := "trestle/trestletop.TopShown", spec := "topShown", inPlace := ["internal/bytealg.abigen_runtime_cmpstring", "slices.overlaps[trestle/api.Tie]"], unfollowed := true, recurses := true, apart := false }
def TopShownSaid : Prop := topShownRow.holds Tryz.pinned (OpenSpec.ofChange topShownSpec)

/-- ITS FALSE NEIGHBOUR: 'it returns false'. Refute it at one input. -/
def topShownWrong : ChangeSpec := { name := "topShown", fn := fun _ => fun
  | [d] => { results := [.lit (.bool false)], args := [d] }
  | _ => none }
def TopShownWrongFalsely : Prop := topShownRow.holds Tryz.pinned (OpenSpec.ofChange topShownWrong)

/-- 'trestletop.TopBounds': WHATEVER THE INPUT: true; the input reads as it did. -/
def topBoundsSpec : ChangeSpec := { name := "topBounds", fn := fun _ => fun
  | [d1, d2, d3] => { results := [.lit (.bool true)], args := [d1, d2, d3] }
  | _ => none }
def topBoundsRow : OpenClaim := { program := "ytpaeganfehemnaagreat", sum := "e37d4cba4d22aac771236881bce93f5e5108c25bc7df422d8a7268679b4a0858", func := "trestle/trestletop.TopBounds", spec := "topBounds", inPlace := ["internal/bytealg.abigen_runtime_cmpstring", "slices.overlaps[trestle/api.Tie]"], unfollowed := true, recurses := true, apart := false }
def TopBoundsSaid : Prop := topBoundsRow.holds Tryz.pinned (OpenSpec.ofChange topBoundsSpec)

/-- ITS FALSE NEIGHBOUR: 'it returns false'. Refute it at one input. -/
def topBoundsWrong : ChangeSpec := { name := "topBounds", fn := fun _ => fun
  | [d1, d2, d3] => { results := [.lit (.bool false)], args := [d1, d2, d3] }
  | _ => none }
def TopBoundsWrongFalsely : Prop := topBoundsRow.holds Tryz.pinned (OpenSpec.ofChange topBoundsWrong)

/-- 'trestletop.TopOrders': WHATEVER THE INPUT: true; the input reads as it did. -/
def topOrdersSpec : ChangeSpec := { name := "topOrders", fn := fun _ => fun
  | [d1, d2, d3] => { results := [.lit (.bool true)], args := [d1, d2, d3] }
  | _ => none }
def topOrdersRow : OpenClaim := { program := "ytpaeganfehemnaagreat", sum := "e37d4cba4d22aac771236881bce93f5e5108c25bc7df422d8a7268679b4a0858", func := "trestle/trestletop.TopOrders", spec := "topOrders", inPlace := ["internal/bytealg.abigen_runtime_cmpstring", "slices.overlaps[trestle/api.Tie]"], unfollowed := true, recurses := true, apart := false }
def TopOrdersSaid : Prop := topOrdersRow.holds Tryz.pinned (OpenSpec.ofChange topOrdersSpec)

/-- ITS FALSE NEIGHBOUR: 'it returns false'. Refute it at one input. -/
def topOrdersWrong : ChangeSpec := { name := "topOrders", fn := fun _ => fun
  | [d1, d2, d3] => { results := [.lit (.bool false)], args := [d1, d2, d3] }
  | _ => none }
def TopOrdersWrongFalsely : Prop := topOrdersRow.holds Tryz.pinned (OpenSpec.ofChange topOrdersWrong)

/-- 'trestletop.TopBounded': WHATEVER THE INPUT: true; the input reads as it did. -/
def topBoundedSpec : ChangeSpec := { name := "topBounded", fn := fun _ => fun
  | [d1, d2, d3] => { results := [.lit (.bool true)], args := [d1, d2, d3] }
  | _ => none }
def topBoundedRow : OpenClaim := { program := "ytpaeganfehemnaagreat", sum := "e37d4cba4d22aac771236881bce93f5e5108c25bc7df422d8a7268679b4a0858", func := "trestle/trestletop.TopBounded", spec := "topBounded", inPlace := ["internal/bytealg.abigen_runtime_cmpstring", "slices.overlaps[trestle/api.Tie]"], unfollowed := true, recurses := true, apart := false }
def TopBoundedSaid : Prop := topBoundedRow.holds Tryz.pinned (OpenSpec.ofChange topBoundedSpec)

/-- ITS FALSE NEIGHBOUR: 'it returns false'. Refute it at one input. -/
def topBoundedWrong : ChangeSpec := { name := "topBounded", fn := fun _ => fun
  | [d1, d2, d3] => { results := [.lit (.bool false)], args := [d1, d2, d3] }
  | _ => none }
def TopBoundedWrongFalsely : Prop := topBoundedRow.holds Tryz.pinned (OpenSpec.ofChange topBoundedWrong)

/- THE SECOND FORM. 'bulk': how many values and letters a reading holds, each counted each time it is reached (what is shared counts as often as it is met; a slice's spare places count too). A statement '..UptoSaid' is the law's where the arguments, and the package variables that the reading takes, are together of bulk at most 1048576: NARROWER than '..Said'. Prove '..Said' where nothing that the law and all that it calls make is longer than what came in: it says more and counts as full. Else prove '..UptoSaid'. A law counts once. -/
mutual
def uptoBulk {H : Type} : DataW H → Nat
  | .lit (.string bytes) => bytes.length + 1
  | .lit _ => 1
  | .nil => 1
  | .ptr d => uptoBulk d + 1
  | .slice elems spare => uptoBulkAll elems + uptoBulkAll spare + 1
  | .agg parts => uptoBulkAll parts + 1
  | .iface _ d => uptoBulk d + 1
  | .map entries => uptoBulkEntries entries + 1
  | .held _ => 1
def uptoBulkAll {H : Type} : List (DataW H) → Nat
  | [] => 0
  | d :: r => uptoBulk d + uptoBulkAll r
def uptoBulkEntries {H : Type} : List (Lit × DataW H) → Nat
  | [] => 0
  | x :: r => uptoBulkEntry x + uptoBulkEntries r
def uptoBulkEntry {H : Type} : Lit × DataW H → Nat
  | (.string bytes, d) => bytes.length + uptoBulk d + 1
  | (_, d) => uptoBulk d + 1
 end
def uptoSmall : (H : Type) → List (DataW H) → Bool := fun _ ds => decide (uptoBulkAll ds ≤ 1048576)
def OpenSpec.upto (s : _root_.Go.ChangeSpec) : _root_.Go.OpenSpec := { _root_.Go.OpenSpec.ofChange s with cond := some uptoSmall }

/-- 'trestletop.TopCounted', WHERE WHAT IT READS IS OF BULK AT MOST 1048576: true; the input reads as it did. -/
def topCountedUptoRow : OpenClaim := { program := "ytpaeganfehemnaagreat", sum := "e37d4cba4d22aac771236881bce93f5e5108c25bc7df422d8a7268679b4a0858", func := "trestle/trestletop.TopCounted", spec := "topCounted", inPlace := ["internal/bytealg.abigen_runtime_cmpstring", "slices.overlaps[trestle/api.Tie]"], unfollowed := true, recurses := true, apart := false, narrowed := true }
def TopCountedUptoSaid : Prop := topCountedUptoRow.holds Tryz.pinned (OpenSpec.upto topCountedSpec)

/-- 'trestletop.TopShown', WHERE WHAT IT READS IS OF BULK AT MOST 1048576: true; the input reads as it did. -/
def topShownUptoRow : OpenClaim := { program := "ytpaeganfehemnaagreat", sum := "e37d4cba4d22aac771236881bce93f5e5108c25bc7df422d8a7268679b4a0858", func := "trestle/trestletop.TopShown", spec := "topShown", inPlace := ["internal/bytealg.abigen_runtime_cmpstring", "slices.overlaps[trestle/api.Tie]"], unfollowed := true, recurses := true, apart := false, narrowed := true }
def TopShownUptoSaid : Prop := topShownUptoRow.holds Tryz.pinned (OpenSpec.upto topShownSpec)

/-- 'trestletop.TopBounds', WHERE WHAT IT READS IS OF BULK AT MOST 1048576: true; the input reads as it did. -/
def topBoundsUptoRow : OpenClaim := { program := "ytpaeganfehemnaagreat", sum := "e37d4cba4d22aac771236881bce93f5e5108c25bc7df422d8a7268679b4a0858", func := "trestle/trestletop.TopBounds", spec := "topBounds", inPlace := ["internal/bytealg.abigen_runtime_cmpstring", "slices.overlaps[trestle/api.Tie]"], unfollowed := true, recurses := true, apart := false, narrowed := true }
def TopBoundsUptoSaid : Prop := topBoundsUptoRow.holds Tryz.pinned (OpenSpec.upto topBoundsSpec)

/-- 'trestletop.TopOrders', WHERE WHAT IT READS IS OF BULK AT MOST 1048576: true; the input reads as it did. -/
def topOrdersUptoRow : OpenClaim := { program := "ytpaeganfehemnaagreat", sum := "e37d4cba4d22aac771236881bce93f5e5108c25bc7df422d8a7268679b4a0858", func := "trestle/trestletop.TopOrders", spec := "topOrders", inPlace := ["internal/bytealg.abigen_runtime_cmpstring", "slices.overlaps[trestle/api.Tie]"], unfollowed := true, recurses := true, apart := false, narrowed := true }
def TopOrdersUptoSaid : Prop := topOrdersUptoRow.holds Tryz.pinned (OpenSpec.upto topOrdersSpec)

/-- 'trestletop.TopBounded', WHERE WHAT IT READS IS OF BULK AT MOST 1048576: true; the input reads as it did. -/
def topBoundedUptoRow : OpenClaim := { program := "ytpaeganfehemnaagreat", sum := "e37d4cba4d22aac771236881bce93f5e5108c25bc7df422d8a7268679b4a0858", func := "trestle/trestletop.TopBounded", spec := "topBounded", inPlace := ["internal/bytealg.abigen_runtime_cmpstring", "slices.overlaps[trestle/api.Tie]"], unfollowed := true, recurses := true, apart := false, narrowed := true }
def TopBoundedUptoSaid : Prop := topBoundedUptoRow.holds Tryz.pinned (OpenSpec.upto topBoundedSpec)

end Rows
end Go.Proofs.YtpaeganfehemnaaGreat
