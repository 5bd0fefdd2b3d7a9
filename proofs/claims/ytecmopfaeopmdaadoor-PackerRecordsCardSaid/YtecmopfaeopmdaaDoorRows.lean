/-
  NARROWER THAN 'FOR EVERY INPUT', by the rows' own cells (each row's printed sentence says how): PackerFull: laid · PackerTakes: laid · PackerScript: laid · PackerRecords: laid · PackerNone: laid.
  DERIVED. THE GIVEN ROWS OF THIS SEAT. 5 by the template 'for every input the law returns true; each argument reads behind the call as it read before'; 0 by the template 'total and deterministic' (their statements: YtecmopfaeopmdaaDoorTotals.lean).
  GIVEN WITH THE SEED: the statements are not yours to turn. If you find one false, say at which input.
  Laid BY PROGRAM, IN A SANDBOX (cutbox-rows.mjs): the forced cells as the released guide's own fill.sh prints them over the translation 5cb99657fee8da85… (all of the seat's roots in one cut). By AI agents, Wed Nov 11 2026. No macro, syntax, notation, axiom, sorry.
-/
import Derived.Test.YtecmopfaeopmdaaDoorChecked
import GoSem.Claim
import GoSem.ClaimJoined
import GoSem.ClaimMapViews
import Derived.JoinedTies
import Derived.KernelRfl
namespace Go.Proofs.YtecmopfaeopmdaaDoor
/- THE CELL 'sum', in the pinned program and in every row, IS THE sha256 OF THE DUMP (.gsa) THAT YtecmopfaeopmdaaDoorProg.lean LOADS. Nothing in Lean hashes anything: it is a label: what it is worth is what the hold of that sum in a sandbox is worth. -/
noncomputable def Tryd.pinned : Pinned := { name := "ytecmopfaeopmdaadoor", sum := "5cb99657fee8da859e408c7edfc5d16743104e067d59ce87f6265893fae9ba2a", checked := Tryd.checked }
namespace Rows
def none {H : Type} : Left H := { results := [], args := [] }

/- WHAT THE LISTED PACKAGE-LEVEL VARIABLES READ AS WHEN THE CALL BEGINS. Each datum BY PROGRAM (the guide's laid-datum.mjs) off the statement by which the dump's own 'gosem.cut.vars' lays the variable. In a bare row this is a premise. The card (YtecmopfaeopmdaaDoorCards.lean) ties it to the program's text. -/
def laid_flashcache_crc_table {H : Type} : DataW H := .agg [.lit (.int .u32 0), .lit (.int .u32 274646895), .lit (.int .u32 549293790), .lit (.int .u32 820201905), .lit (.int .u32 1098587580), .lit (.int .u32 1361435347), .lit (.int .u32 1640403810), .lit (.int .u32 1905808397), .lit (.int .u32 2197175160), .lit (.int .u32 2460548119), .lit (.int .u32 2722870694), .lit (.int .u32 2987750089), .lit (.int .u32 3280807620), .lit (.int .u32 3553878443), .lit (.int .u32 3811616794), .lit (.int .u32 4084100981)]

/-- 'flashcachelaw13.PackerFull': WHATEVER THE INPUT: true; the input reads as it did. -/
def packerFullSpec : ChangeSpec := { name := "packerFull", fn := fun _ => fun
  | [d1, d2, d3] => { results := [.lit (.bool true)], args := [d1, d2, d3] }
  | _ => none }
def packerFullRow : OpenClaim := { program := "ytecmopfaeopmdaadoor", sum := "5cb99657fee8da859e408c7edfc5d16743104e067d59ce87f6265893fae9ba2a", func := "flashcache/flashcachelaw13.PackerFull", spec := "packerFull", named := ["flashcache/crc.table"], apart := false, laid := [("flashcache/crc.table", laid_flashcache_crc_table)] }
def PackerFullSaid : Prop := packerFullRow.holds Tryd.pinned (OpenSpec.ofChange packerFullSpec)

/-- ITS FALSE NEIGHBOUR: 'it returns false'. Refute it at one input. -/
def packerFullWrong : ChangeSpec := { name := "packerFull", fn := fun _ => fun
  | [d1, d2, d3] => { results := [.lit (.bool false)], args := [d1, d2, d3] }
  | _ => none }
def PackerFullWrongFalsely : Prop := packerFullRow.holds Tryd.pinned (OpenSpec.ofChange packerFullWrong)

/-- 'flashcachelaw13.PackerTakes': WHATEVER THE INPUT: true; the input reads as it did. -/
def packerTakesSpec : ChangeSpec := { name := "packerTakes", fn := fun _ => fun
  | [d1, d2, d3] => { results := [.lit (.bool true)], args := [d1, d2, d3] }
  | _ => none }
def packerTakesRow : OpenClaim := { program := "ytecmopfaeopmdaadoor", sum := "5cb99657fee8da859e408c7edfc5d16743104e067d59ce87f6265893fae9ba2a", func := "flashcache/flashcachelaw13.PackerTakes", spec := "packerTakes", named := ["flashcache/crc.table"], apart := false, laid := [("flashcache/crc.table", laid_flashcache_crc_table)] }
def PackerTakesSaid : Prop := packerTakesRow.holds Tryd.pinned (OpenSpec.ofChange packerTakesSpec)

/-- ITS FALSE NEIGHBOUR: 'it returns false'. Refute it at one input. -/
def packerTakesWrong : ChangeSpec := { name := "packerTakes", fn := fun _ => fun
  | [d1, d2, d3] => { results := [.lit (.bool false)], args := [d1, d2, d3] }
  | _ => none }
def PackerTakesWrongFalsely : Prop := packerTakesRow.holds Tryd.pinned (OpenSpec.ofChange packerTakesWrong)

/-- 'flashcachelaw13.PackerScript': WHATEVER THE INPUT: true; the input reads as it did. -/
def packerScriptSpec : ChangeSpec := { name := "packerScript", fn := fun _ => fun
  | [d] => { results := [.lit (.bool true)], args := [d] }
  | _ => none }
def packerScriptRow : OpenClaim := { program := "ytecmopfaeopmdaadoor", sum := "5cb99657fee8da859e408c7edfc5d16743104e067d59ce87f6265893fae9ba2a", func := "flashcache/flashcachelaw13.PackerScript", spec := "packerScript", named := ["flashcache/crc.table"], apart := false, laid := [("flashcache/crc.table", laid_flashcache_crc_table)] }
def PackerScriptSaid : Prop := packerScriptRow.holds Tryd.pinned (OpenSpec.ofChange packerScriptSpec)

/-- ITS FALSE NEIGHBOUR: 'it returns false'. Refute it at one input. -/
def packerScriptWrong : ChangeSpec := { name := "packerScript", fn := fun _ => fun
  | [d] => { results := [.lit (.bool false)], args := [d] }
  | _ => none }
def PackerScriptWrongFalsely : Prop := packerScriptRow.holds Tryd.pinned (OpenSpec.ofChange packerScriptWrong)

/-- 'flashcachelaw13.PackerRecords': WHATEVER THE INPUT: true; the input reads as it did. -/
def packerRecordsSpec : ChangeSpec := { name := "packerRecords", fn := fun _ => fun
  | [d1, d2, d3] => { results := [.lit (.bool true)], args := [d1, d2, d3] }
  | _ => none }
def packerRecordsRow : OpenClaim := { program := "ytecmopfaeopmdaadoor", sum := "5cb99657fee8da859e408c7edfc5d16743104e067d59ce87f6265893fae9ba2a", func := "flashcache/flashcachelaw13.PackerRecords", spec := "packerRecords", named := ["flashcache/crc.table"], apart := false, laid := [("flashcache/crc.table", laid_flashcache_crc_table)] }
def PackerRecordsSaid : Prop := packerRecordsRow.holds Tryd.pinned (OpenSpec.ofChange packerRecordsSpec)

/-- ITS FALSE NEIGHBOUR: 'it returns false'. Refute it at one input. -/
def packerRecordsWrong : ChangeSpec := { name := "packerRecords", fn := fun _ => fun
  | [d1, d2, d3] => { results := [.lit (.bool false)], args := [d1, d2, d3] }
  | _ => none }
def PackerRecordsWrongFalsely : Prop := packerRecordsRow.holds Tryd.pinned (OpenSpec.ofChange packerRecordsWrong)

/-- 'flashcachelaw13.PackerNone': WHATEVER THE INPUT: true; the input reads as it did. -/
def packerNoneSpec : ChangeSpec := { name := "packerNone", fn := fun _ => fun
  | [] => { results := [.lit (.bool true)], args := [] }
  | _ => none }
def packerNoneRow : OpenClaim := { program := "ytecmopfaeopmdaadoor", sum := "5cb99657fee8da859e408c7edfc5d16743104e067d59ce87f6265893fae9ba2a", func := "flashcache/flashcachelaw13.PackerNone", spec := "packerNone", named := ["flashcache/crc.table"], apart := false, laid := [("flashcache/crc.table", laid_flashcache_crc_table)] }
def PackerNoneSaid : Prop := packerNoneRow.holds Tryd.pinned (OpenSpec.ofChange packerNoneSpec)

/-- ITS FALSE NEIGHBOUR: 'it returns false'. Refute it at one input. -/
def packerNoneWrong : ChangeSpec := { name := "packerNone", fn := fun _ => fun
  | [] => { results := [.lit (.bool false)], args := [] }
  | _ => none }
def PackerNoneWrongFalsely : Prop := packerNoneRow.holds Tryd.pinned (OpenSpec.ofChange packerNoneWrong)

/- THE SECOND FORM. 'bulk': how many values and letters a reading holds, each counted each time it is reached (what is shared counts as often as it is met; a slice's spare places count too). A statement '..UptoSaid' is the law's where the arguments, and the package variables that the reading takes, are together of bulk at most 1048576: NARROWER than '..Said'. Prove '..Said' where nothing that the law and all that it calls make is longer than what came in: it says more and counts as full. Else prove '..UptoSaid'. A law counts once. -/
mutual
def uptoBulk {H : Type} : DataW H → Nat
  | .lit (.string bytes) => bytes.length + 1
  | .lit _ => 1
  | .nil => 1
  | .ptr d => uptoBulk d + 1
  | .slice elems spare => uptoBulkAll elems + uptoBulkAll spare + 1
  | .agg parts => uptoBulkAll parts + 1
  | .iface _ d => uptoBulk d + 1
  | .map entries => uptoBulkEntries entries + 1
  | .held _ => 1
def uptoBulkAll {H : Type} : List (DataW H) → Nat
  | [] => 0
  | d :: r => uptoBulk d + uptoBulkAll r
def uptoBulkEntries {H : Type} : List (Lit × DataW H) → Nat
  | [] => 0
  | x :: r => uptoBulkEntry x + uptoBulkEntries r
def uptoBulkEntry {H : Type} : Lit × DataW H → Nat
  | (.string bytes, d) => bytes.length + uptoBulk d + 1
  | (_, d) => uptoBulk d + 1
 end
def uptoSmall : (H : Type) → List (DataW H) → Bool := fun _ ds => decide (uptoBulkAll ds ≤ 1048576)
def OpenSpec.upto (s : _root_.Go.ChangeSpec) : _root_.Go.OpenSpec := { _root_.Go.OpenSpec.ofChange s with cond := some uptoSmall }

/-- 'flashcachelaw13.PackerFull', WHERE WHAT IT READS IS OF BULK AT MOST 1048576: true; the input reads as it did. -/
def packerFullUptoRow : OpenClaim := { program := "ytecmopfaeopmdaadoor", sum := "5cb99657fee8da859e408c7edfc5d16743104e067d59ce87f6265893fae9ba2a", func := "flashcache/flashcachelaw13.PackerFull", spec := "packerFull", named := ["flashcache/crc.table"], apart := false, laid := [("flashcache/crc.table", laid_flashcache_crc_table)], narrowed := true }
def PackerFullUptoSaid : Prop := packerFullUptoRow.holds Tryd.pinned (OpenSpec.upto packerFullSpec)

/-- 'flashcachelaw13.PackerTakes', WHERE WHAT IT READS IS OF BULK AT MOST 1048576: true; the input reads as it did. -/
def packerTakesUptoRow : OpenClaim := { program := "ytecmopfaeopmdaadoor", sum := "5cb99657fee8da859e408c7edfc5d16743104e067d59ce87f6265893fae9ba2a", func := "flashcache/flashcachelaw13.PackerTakes", spec := "packerTakes", named := ["flashcache/crc.table"], apart := false, laid := [("flashcache/crc.table", laid_flashcache_crc_table)], narrowed := true }
def PackerTakesUptoSaid : Prop := packerTakesUptoRow.holds Tryd.pinned (OpenSpec.upto packerTakesSpec)

/-- 'flashcachelaw13.PackerScript', WHERE WHAT IT READS IS OF BULK AT MOST 1048576: true; the input reads as it did. -/
def packerScriptUptoRow : OpenClaim := { program := "ytecmopfaeopmdaadoor", sum := "5cb99657fee8da859e408c7edfc5d16743104e067d59ce87f6265893fae9ba2a", func := "flashcache/flashcachelaw13.PackerScript", spec := "packerScript", named := ["flashcache/crc.table"], apart := false, laid := [("flashcache/crc.table", laid_flashcache_crc_table)], narrowed := true }
def PackerScriptUptoSaid : Prop := packerScriptUptoRow.holds Tryd.pinned (OpenSpec.upto packerScriptSpec)

/-- 'flashcachelaw13.PackerRecords', WHERE WHAT IT READS IS OF BULK AT MOST 1048576: true; the input reads as it did. -/
def packerRecordsUptoRow : OpenClaim := { program := "ytecmopfaeopmdaadoor", sum := "5cb99657fee8da859e408c7edfc5d16743104e067d59ce87f6265893fae9ba2a", func := "flashcache/flashcachelaw13.PackerRecords", spec := "packerRecords", named := ["flashcache/crc.table"], apart := false, laid := [("flashcache/crc.table", laid_flashcache_crc_table)], narrowed := true }
def PackerRecordsUptoSaid : Prop := packerRecordsUptoRow.holds Tryd.pinned (OpenSpec.upto packerRecordsSpec)

/-- 'flashcachelaw13.PackerNone', WHERE WHAT IT READS IS OF BULK AT MOST 1048576: true; the input reads as it did. -/
def packerNoneUptoRow : OpenClaim := { program := "ytecmopfaeopmdaadoor", sum := "5cb99657fee8da859e408c7edfc5d16743104e067d59ce87f6265893fae9ba2a", func := "flashcache/flashcachelaw13.PackerNone", spec := "packerNone", named := ["flashcache/crc.table"], apart := false, laid := [("flashcache/crc.table", laid_flashcache_crc_table)], narrowed := true }
def PackerNoneUptoSaid : Prop := packerNoneUptoRow.holds Tryd.pinned (OpenSpec.upto packerNoneSpec)

end Rows
end Go.Proofs.YtecmopfaeopmdaaDoor
