/-
  No cell of these rows narrows 'for every input' (looked for: loops, veiled, ifaces, maps, wideKeys, modest, calm, conditions, laid).
  DERIVED. THE GIVEN ROWS OF THIS SEAT. 7 by the template 'for every input the law returns true; each argument reads behind the call as it read before'; 0 by the template 'total and deterministic' (their statements: YtmbelomekihdkaaTotals.lean).
  GIVEN WITH THE SEED: the statements are not yours to turn. If you find one false, say at which input.
  Laid BY PROGRAM, IN A SANDBOX (cutbox-rows.mjs): the forced cells as the released guide's own fill.sh prints them over the translation be6ad515ee520ba8… (all of the seat's roots in one cut). By AI agents, Wed Nov 11 2026. No macro, syntax, notation, axiom, sorry.
-/
import Derived.Test.YtmbelomekihdkaaChecked
import GoSem.Claim
import GoSem.ClaimJoined
import GoSem.ClaimMapViews
import Derived.JoinedTies
import Derived.KernelRfl
namespace Go.Proofs.Ytmbelomekihdkaa
/- THE CELL 'sum', in the pinned program and in every row, IS THE sha256 OF THE DUMP (.gsa) THAT YtmbelomekihdkaaProg.lean LOADS. Nothing in Lean hashes anything: it is a label: what it is worth is what the hold of that sum in a sandbox is worth. -/
noncomputable def Try.pinned : Pinned := { name := "ytmbelomekihdkaa", sum := "be6ad515ee520ba862cec794b2f6b6b6c6662f6d7742f36ba0dbd94c5626ae91", checked := Try.checked }
namespace Rows
def none {H : Type} : Left H := { results := [], args := [] }

/-- 'flashcachelaw10.PlanResize': WHATEVER THE INPUT: true; the input reads as it did. -/
def planResizeSpec : ChangeSpec := { name := "planResize", fn := fun _ => fun
  | [d] => { results := [.lit (.bool true)], args := [d] }
  | _ => none }
def planResizeRow : OpenClaim := { program := "ytmbelomekihdkaa", sum := "be6ad515ee520ba862cec794b2f6b6b6c6662f6d7742f36ba0dbd94c5626ae91", func := "flashcache/flashcachelaw10.PlanResize", spec := "planResize", apart := false }
def PlanResizeSaid : Prop := planResizeRow.holds Try.pinned (OpenSpec.ofChange planResizeSpec)

/-- ITS FALSE NEIGHBOUR: 'it returns false'. Refute it at one input. -/
def planResizeWrong : ChangeSpec := { name := "planResize", fn := fun _ => fun
  | [d] => { results := [.lit (.bool false)], args := [d] }
  | _ => none }
def PlanResizeWrongFalsely : Prop := planResizeRow.holds Try.pinned (OpenSpec.ofChange planResizeWrong)

/-- 'flashcachelaw10.PlanOthers': WHATEVER THE INPUT: true; the input reads as it did. -/
def planOthersSpec : ChangeSpec := { name := "planOthers", fn := fun _ => fun
  | [d1, d2] => { results := [.lit (.bool true)], args := [d1, d2] }
  | _ => none }
def planOthersRow : OpenClaim := { program := "ytmbelomekihdkaa", sum := "be6ad515ee520ba862cec794b2f6b6b6c6662f6d7742f36ba0dbd94c5626ae91", func := "flashcache/flashcachelaw10.PlanOthers", spec := "planOthers", apart := false }
def PlanOthersSaid : Prop := planOthersRow.holds Try.pinned (OpenSpec.ofChange planOthersSpec)

/-- ITS FALSE NEIGHBOUR: 'it returns false'. Refute it at one input. -/
def planOthersWrong : ChangeSpec := { name := "planOthers", fn := fun _ => fun
  | [d1, d2] => { results := [.lit (.bool false)], args := [d1, d2] }
  | _ => none }
def PlanOthersWrongFalsely : Prop := planOthersRow.holds Try.pinned (OpenSpec.ofChange planOthersWrong)

/-- 'flashcachelaw10.PlanTargets': WHATEVER THE INPUT: true; the input reads as it did. -/
def planTargetsSpec : ChangeSpec := { name := "planTargets", fn := fun _ => fun
  | [d] => { results := [.lit (.bool true)], args := [d] }
  | _ => none }
def planTargetsRow : OpenClaim := { program := "ytmbelomekihdkaa", sum := "be6ad515ee520ba862cec794b2f6b6b6c6662f6d7742f36ba0dbd94c5626ae91", func := "flashcache/flashcachelaw10.PlanTargets", spec := "planTargets", apart := false }
def PlanTargetsSaid : Prop := planTargetsRow.holds Try.pinned (OpenSpec.ofChange planTargetsSpec)

/-- ITS FALSE NEIGHBOUR: 'it returns false'. Refute it at one input. -/
def planTargetsWrong : ChangeSpec := { name := "planTargets", fn := fun _ => fun
  | [d] => { results := [.lit (.bool false)], args := [d] }
  | _ => none }
def PlanTargetsWrongFalsely : Prop := planTargetsRow.holds Try.pinned (OpenSpec.ofChange planTargetsWrong)

/-- 'flashcachelaw02.WirePut': WHATEVER THE INPUT: true; the input reads as it did. -/
def wirePutSpec : ChangeSpec := { name := "wirePut", fn := fun _ => fun
  | [d1, d2, d3] => { results := [.lit (.bool true)], args := [d1, d2, d3] }
  | _ => none }
def wirePutRow : OpenClaim := { program := "ytmbelomekihdkaa", sum := "be6ad515ee520ba862cec794b2f6b6b6c6662f6d7742f36ba0dbd94c5626ae91", func := "flashcache/flashcachelaw02.WirePut", spec := "wirePut", apart := false }
def WirePutSaid : Prop := wirePutRow.holds Try.pinned (OpenSpec.ofChange wirePutSpec)

/-- ITS FALSE NEIGHBOUR: 'it returns false'. Refute it at one input. -/
def wirePutWrong : ChangeSpec := { name := "wirePut", fn := fun _ => fun
  | [d1, d2, d3] => { results := [.lit (.bool false)], args := [d1, d2, d3] }
  | _ => none }
def WirePutWrongFalsely : Prop := wirePutRow.holds Try.pinned (OpenSpec.ofChange wirePutWrong)

/-- 'flashcachelaw02.WireRound': WHATEVER THE INPUT: true; the input reads as it did. -/
def wireRoundSpec : ChangeSpec := { name := "wireRound", fn := fun _ => fun
  | [d1, d2] => { results := [.lit (.bool true)], args := [d1, d2] }
  | _ => none }
def wireRoundRow : OpenClaim := { program := "ytmbelomekihdkaa", sum := "be6ad515ee520ba862cec794b2f6b6b6c6662f6d7742f36ba0dbd94c5626ae91", func := "flashcache/flashcachelaw02.WireRound", spec := "wireRound", apart := false }
def WireRoundSaid : Prop := wireRoundRow.holds Try.pinned (OpenSpec.ofChange wireRoundSpec)

/-- ITS FALSE NEIGHBOUR: 'it returns false'. Refute it at one input. -/
def wireRoundWrong : ChangeSpec := { name := "wireRound", fn := fun _ => fun
  | [d1, d2] => { results := [.lit (.bool false)], args := [d1, d2] }
  | _ => none }
def WireRoundWrongFalsely : Prop := wireRoundRow.holds Try.pinned (OpenSpec.ofChange wireRoundWrong)

/-- 'flashcachelaw02.WireRead': WHATEVER THE INPUT: true; the input reads as it did. -/
def wireReadSpec : ChangeSpec := { name := "wireRead", fn := fun _ => fun
  | [d1, d2] => { results := [.lit (.bool true)], args := [d1, d2] }
  | _ => none }
def wireReadRow : OpenClaim := { program := "ytmbelomekihdkaa", sum := "be6ad515ee520ba862cec794b2f6b6b6c6662f6d7742f36ba0dbd94c5626ae91", func := "flashcache/flashcachelaw02.WireRead", spec := "wireRead", apart := false }
def WireReadSaid : Prop := wireReadRow.holds Try.pinned (OpenSpec.ofChange wireReadSpec)

/-- ITS FALSE NEIGHBOUR: 'it returns false'. Refute it at one input. -/
def wireReadWrong : ChangeSpec := { name := "wireRead", fn := fun _ => fun
  | [d1, d2] => { results := [.lit (.bool false)], args := [d1, d2] }
  | _ => none }
def WireReadWrongFalsely : Prop := wireReadRow.holds Try.pinned (OpenSpec.ofChange wireReadWrong)

/-- 'flashcachelaw02.WireOwn': WHATEVER THE INPUT: true; the input reads as it did. -/
def wireOwnSpec : ChangeSpec := { name := "wireOwn", fn := fun _ => fun
  | [d] => { results := [.lit (.bool true)], args := [d] }
  | _ => none }
def wireOwnRow : OpenClaim := { program := "ytmbelomekihdkaa", sum := "be6ad515ee520ba862cec794b2f6b6b6c6662f6d7742f36ba0dbd94c5626ae91", func := "flashcache/flashcachelaw02.WireOwn", spec := "wireOwn", apart := false }
def WireOwnSaid : Prop := wireOwnRow.holds Try.pinned (OpenSpec.ofChange wireOwnSpec)

/-- ITS FALSE NEIGHBOUR: 'it returns false'. Refute it at one input. -/
def wireOwnWrong : ChangeSpec := { name := "wireOwn", fn := fun _ => fun
  | [d] => { results := [.lit (.bool false)], args := [d] }
  | _ => none }
def WireOwnWrongFalsely : Prop := wireOwnRow.holds Try.pinned (OpenSpec.ofChange wireOwnWrong)

/- THE SECOND FORM. 'bulk': how many values and letters a reading holds, each counted each time it is reached (what is shared counts as often as it is met; a slice's spare places count too). A statement '..UptoSaid' is the law's where the arguments, and the package variables that the reading takes, are together of bulk at most 1048576: NARROWER than '..Said'. Prove '..Said' where nothing that the law and all that it calls make is longer than what came in: it says more and counts as full. Else prove '..UptoSaid'. A law counts once. -/
mutual
def uptoBulk {H : Type} : DataW H → Nat
  | .lit (.string bytes) => bytes.length + 1
  | .lit _ => 1
  | .nil => 1
  | .ptr d => uptoBulk d + 1
  | .slice elems spare => uptoBulkAll elems + uptoBulkAll spare + 1
  | .agg parts => uptoBulkAll parts + 1
  | .iface _ d => uptoBulk d + 1
  | .map entries => uptoBulkEntries entries + 1
  | .held _ => 1
def uptoBulkAll {H : Type} : List (DataW H) → Nat
  | [] => 0
  | d :: r => uptoBulk d + uptoBulkAll r
def uptoBulkEntries {H : Type} : List (Lit × DataW H) → Nat
  | [] => 0
  | x :: r => uptoBulkEntry x + uptoBulkEntries r
def uptoBulkEntry {H : Type} : Lit × DataW H → Nat
  | (.string bytes, d) => bytes.length + uptoBulk d + 1
  | (_, d) => uptoBulk d + 1
 end
def uptoSmall : (H : Type) → List (DataW H) → Bool := fun _ ds => decide (uptoBulkAll ds ≤ 1048576)
def OpenSpec.upto (s : _root_.Go.ChangeSpec) : _root_.Go.OpenSpec := { _root_.Go.OpenSpec.ofChange s with cond := some uptoSmall }

/-- 'flashcachelaw10.PlanResize', WHERE WHAT IT READS IS OF BULK AT MOST 1048576: true; the input reads as it did. -/
def planResizeUptoRow : OpenClaim := { program := "ytmbelomekihdkaa", sum := "be6ad515ee520ba862cec794b2f6b6b6c6662f6d7742f36ba0dbd94c5626ae91", func := "flashcache/flashcachelaw10.PlanResize", spec := "planResize", apart := false, narrowed := true }
def PlanResizeUptoSaid : Prop := planResizeUptoRow.holds Try.pinned (OpenSpec.upto planResizeSpec)

/-- 'flashcachelaw10.PlanOthers', WHERE WHAT IT READS IS OF BULK AT MOST 1048576: true; the input reads as it did. -/
def planOthersUptoRow : OpenClaim := { program := "ytmbelomekihdkaa", sum := "be6ad515ee520ba862cec794b2f6b6b6c6662f6d7742f36ba0dbd94c5626ae91", func := "flashcache/flashcachelaw10.PlanOthers", spec := "planOthers", apart := false, narrowed := true }
def PlanOthersUptoSaid : Prop := planOthersUptoRow.holds Try.pinned (OpenSpec.upto planOthersSpec)

/-- 'flashcachelaw10.PlanTargets', WHERE WHAT IT READS IS OF BULK AT MOST 1048576: true; the input reads as it did. -/
def planTargetsUptoRow : OpenClaim := { program := "ytmbelomekihdkaa", sum := "be6ad515ee520ba862cec794b2f6b6b6c6662f6d7742f36ba0dbd94c5626ae91", func := "flashcache/flashcachelaw10.PlanTargets", spec := "planTargets", apart := false, narrowed := true }
def PlanTargetsUptoSaid : Prop := planTargetsUptoRow.holds Try.pinned (OpenSpec.upto planTargetsSpec)

/-- 'flashcachelaw02.WirePut', WHERE WHAT IT READS IS OF BULK AT MOST 1048576: true; the input reads as it did. -/
def wirePutUptoRow : OpenClaim := { program := "ytmbelomekihdkaa", sum := "be6ad515ee520ba862cec794b2f6b6b6c6662f6d7742f36ba0dbd94c5626ae91", func := "flashcache/flashcachelaw02.WirePut", spec := "wirePut", apart := false, narrowed := true }
def WirePutUptoSaid : Prop := wirePutUptoRow.holds Try.pinned (OpenSpec.upto wirePutSpec)

/-- 'flashcachelaw02.WireRound', WHERE WHAT IT READS IS OF BULK AT MOST 1048576: true; the input reads as it did. -/
def wireRoundUptoRow : OpenClaim := { program := "ytmbelomekihdkaa", sum := "be6ad515ee520ba862cec794b2f6b6b6c6662f6d7742f36ba0dbd94c5626ae91", func := "flashcache/flashcachelaw02.WireRound", spec := "wireRound", apart := false, narrowed := true }
def WireRoundUptoSaid : Prop := wireRoundUptoRow.holds Try.pinned (OpenSpec.upto wireRoundSpec)

/-- 'flashcachelaw02.WireRead', WHERE WHAT IT READS IS OF BULK AT MOST 1048576: true; the input reads as it did. -/
def wireReadUptoRow : OpenClaim := { program := "ytmbelomekihdkaa", sum := "be6ad515ee520ba862cec794b2f6b6b6c6662f6d7742f36ba0dbd94c5626ae91", func := "flashcache/flashcachelaw02.WireRead", spec := "wireRead", apart := false, narrowed := true }
def WireReadUptoSaid : Prop := wireReadUptoRow.holds Try.pinned (OpenSpec.upto wireReadSpec)

/-- 'flashcachelaw02.WireOwn', WHERE WHAT IT READS IS OF BULK AT MOST 1048576: true; the input reads as it did. -/
def wireOwnUptoRow : OpenClaim := { program := "ytmbelomekihdkaa", sum := "be6ad515ee520ba862cec794b2f6b6b6c6662f6d7742f36ba0dbd94c5626ae91", func := "flashcache/flashcachelaw02.WireOwn", spec := "wireOwn", apart := false, narrowed := true }
def WireOwnUptoSaid : Prop := wireOwnUptoRow.holds Try.pinned (OpenSpec.upto wireOwnSpec)

end Rows
end Go.Proofs.Ytmbelomekihdkaa
