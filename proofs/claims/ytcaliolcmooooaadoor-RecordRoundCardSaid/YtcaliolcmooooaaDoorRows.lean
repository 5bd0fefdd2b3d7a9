/-
  NARROWER THAN 'FOR EVERY INPUT', by the rows' own cells (each row's printed sentence says how): RecordEncode: laid · RecordDecode: laid · RecordCut: laid · RecordLengths: laid · RecordApart: laid · RecordCheck: laid · RecordRound: laid.
  DERIVED. THE GIVEN ROWS OF THIS SEAT. 7 by the template 'for every input the law returns true; each argument reads behind the call as it read before'; 0 by the template 'total and deterministic' (their statements: YtcaliolcmooooaaDoorTotals.lean).
  GIVEN WITH THE SEED: the statements are not yours to turn. If you find one false, say at which input.
  Laid BY PROGRAM, IN A SANDBOX (cutbox-rows.mjs): the forced cells as the released guide's own fill.sh prints them over the translation 4b6b636de459386b… (all of the seat's roots in one cut). By AI agents, Wed Nov 11 2026. No macro, syntax, notation, axiom, sorry.
-/
import Derived.Test.YtcaliolcmooooaaDoorChecked
import GoSem.Claim
import GoSem.ClaimJoined
import GoSem.ClaimMapViews
import Derived.JoinedTies
import Derived.KernelRfl
namespace Go.Proofs.YtcaliolcmooooaaDoor
/- THE CELL 'sum', in the pinned program and in every row, IS THE sha256 OF THE DUMP (.gsa) THAT YtcaliolcmooooaaDoorProg.lean LOADS. Nothing in Lean hashes anything: it is a label: what it is worth is what the hold of that sum in a sandbox is worth. -/
noncomputable def Tryd.pinned : Pinned := { name := "ytcaliolcmooooaadoor", sum := "4b6b636de459386bcf7d3c8e8c655783d1f78eb6206ec39181cdfa8b07dc3885", checked := Tryd.checked }
namespace Rows
def none {H : Type} : Left H := { results := [], args := [] }

/- WHAT THE LISTED PACKAGE-LEVEL VARIABLES READ AS WHEN THE CALL BEGINS. Each datum BY PROGRAM (the guide's laid-datum.mjs) off the statement by which the dump's own 'gosem.cut.vars' lays the variable. In a bare row this is a premise. The card (YtcaliolcmooooaaDoorCards.lean) ties it to the program's text. -/
def laid_flashcache_crc_table {H : Type} : DataW H := .agg [.lit (.int .u32 0), .lit (.int .u32 274646895), .lit (.int .u32 549293790), .lit (.int .u32 820201905), .lit (.int .u32 1098587580), .lit (.int .u32 1361435347), .lit (.int .u32 1640403810), .lit (.int .u32 1905808397), .lit (.int .u32 2197175160), .lit (.int .u32 2460548119), .lit (.int .u32 2722870694), .lit (.int .u32 2987750089), .lit (.int .u32 3280807620), .lit (.int .u32 3553878443), .lit (.int .u32 3811616794), .lit (.int .u32 4084100981)]

/-- 'flashcachelaw05.RecordEncode': WHATEVER THE INPUT: true; the input reads as it did. -/
def recordEncodeSpec : ChangeSpec := { name := "recordEncode", fn := fun _ => fun
  | [d1, d2] => { results := [.lit (.bool true)], args := [d1, d2] }
  | _ => none }
def recordEncodeRow : OpenClaim := { program := "ytcaliolcmooooaadoor", sum := "4b6b636de459386bcf7d3c8e8c655783d1f78eb6206ec39181cdfa8b07dc3885", func := "flashcache/flashcachelaw05.RecordEncode", spec := "recordEncode", unfollowed := true, recurses := true, named := ["flashcache/crc.table"], apart := false, laid := [("flashcache/crc.table", laid_flashcache_crc_table)] }
def RecordEncodeSaid : Prop := recordEncodeRow.holds Tryd.pinned (OpenSpec.ofChange recordEncodeSpec)

/-- ITS FALSE NEIGHBOUR: 'it returns false'. Refute it at one input. -/
def recordEncodeWrong : ChangeSpec := { name := "recordEncode", fn := fun _ => fun
  | [d1, d2] => { results := [.lit (.bool false)], args := [d1, d2] }
  | _ => none }
def RecordEncodeWrongFalsely : Prop := recordEncodeRow.holds Tryd.pinned (OpenSpec.ofChange recordEncodeWrong)

/-- 'flashcachelaw05.RecordDecode': WHATEVER THE INPUT: true; the input reads as it did. -/
def recordDecodeSpec : ChangeSpec := { name := "recordDecode", fn := fun _ => fun
  | [d1, d2] => { results := [.lit (.bool true)], args := [d1, d2] }
  | _ => none }
def recordDecodeRow : OpenClaim := { program := "ytcaliolcmooooaadoor", sum := "4b6b636de459386bcf7d3c8e8c655783d1f78eb6206ec39181cdfa8b07dc3885", func := "flashcache/flashcachelaw05.RecordDecode", spec := "recordDecode", unfollowed := true, recurses := true, named := ["flashcache/crc.table"], apart := false, laid := [("flashcache/crc.table", laid_flashcache_crc_table)] }
def RecordDecodeSaid : Prop := recordDecodeRow.holds Tryd.pinned (OpenSpec.ofChange recordDecodeSpec)

/-- ITS FALSE NEIGHBOUR: 'it returns false'. Refute it at one input. -/
def recordDecodeWrong : ChangeSpec := { name := "recordDecode", fn := fun _ => fun
  | [d1, d2] => { results := [.lit (.bool false)], args := [d1, d2] }
  | _ => none }
def RecordDecodeWrongFalsely : Prop := recordDecodeRow.holds Tryd.pinned (OpenSpec.ofChange recordDecodeWrong)

/-- 'flashcachelaw05.RecordCut': WHATEVER THE INPUT: true; the input reads as it did. -/
def recordCutSpec : ChangeSpec := { name := "recordCut", fn := fun _ => fun
  | [d1, d2, d3] => { results := [.lit (.bool true)], args := [d1, d2, d3] }
  | _ => none }
def recordCutRow : OpenClaim := { program := "ytcaliolcmooooaadoor", sum := "4b6b636de459386bcf7d3c8e8c655783d1f78eb6206ec39181cdfa8b07dc3885", func := "flashcache/flashcachelaw05.RecordCut", spec := "recordCut", unfollowed := true, recurses := true, named := ["flashcache/crc.table"], apart := false, laid := [("flashcache/crc.table", laid_flashcache_crc_table)] }
def RecordCutSaid : Prop := recordCutRow.holds Tryd.pinned (OpenSpec.ofChange recordCutSpec)

/-- ITS FALSE NEIGHBOUR: 'it returns false'. Refute it at one input. -/
def recordCutWrong : ChangeSpec := { name := "recordCut", fn := fun _ => fun
  | [d1, d2, d3] => { results := [.lit (.bool false)], args := [d1, d2, d3] }
  | _ => none }
def RecordCutWrongFalsely : Prop := recordCutRow.holds Tryd.pinned (OpenSpec.ofChange recordCutWrong)

/-- 'flashcachelaw05.RecordLengths': WHATEVER THE INPUT: true; the input reads as it did. -/
def recordLengthsSpec : ChangeSpec := { name := "recordLengths", fn := fun _ => fun
  | [d1, d2, d3] => { results := [.lit (.bool true)], args := [d1, d2, d3] }
  | _ => none }
def recordLengthsRow : OpenClaim := { program := "ytcaliolcmooooaadoor", sum := "4b6b636de459386bcf7d3c8e8c655783d1f78eb6206ec39181cdfa8b07dc3885", func := "flashcache/flashcachelaw05.RecordLengths", spec := "recordLengths", unfollowed := true, recurses := true, named := ["flashcache/crc.table"], apart := false, laid := [("flashcache/crc.table", laid_flashcache_crc_table)] }
def RecordLengthsSaid : Prop := recordLengthsRow.holds Tryd.pinned (OpenSpec.ofChange recordLengthsSpec)

/-- ITS FALSE NEIGHBOUR: 'it returns false'. Refute it at one input. -/
def recordLengthsWrong : ChangeSpec := { name := "recordLengths", fn := fun _ => fun
  | [d1, d2, d3] => { results := [.lit (.bool false)], args := [d1, d2, d3] }
  | _ => none }
def RecordLengthsWrongFalsely : Prop := recordLengthsRow.holds Tryd.pinned (OpenSpec.ofChange recordLengthsWrong)

/-- 'flashcachelaw05.RecordApart': WHATEVER THE INPUT: true; the input reads as it did. -/
def recordApartSpec : ChangeSpec := { name := "recordApart", fn := fun _ => fun
  | [d1, d2, d3] => { results := [.lit (.bool true)], args := [d1, d2, d3] }
  | _ => none }
def recordApartRow : OpenClaim := { program := "ytcaliolcmooooaadoor", sum := "4b6b636de459386bcf7d3c8e8c655783d1f78eb6206ec39181cdfa8b07dc3885", func := "flashcache/flashcachelaw05.RecordApart", spec := "recordApart", unfollowed := true, recurses := true, named := ["flashcache/crc.table"], apart := false, laid := [("flashcache/crc.table", laid_flashcache_crc_table)] }
def RecordApartSaid : Prop := recordApartRow.holds Tryd.pinned (OpenSpec.ofChange recordApartSpec)

/-- ITS FALSE NEIGHBOUR: 'it returns false'. Refute it at one input. -/
def recordApartWrong : ChangeSpec := { name := "recordApart", fn := fun _ => fun
  | [d1, d2, d3] => { results := [.lit (.bool false)], args := [d1, d2, d3] }
  | _ => none }
def RecordApartWrongFalsely : Prop := recordApartRow.holds Tryd.pinned (OpenSpec.ofChange recordApartWrong)

/-- 'flashcachelaw05.RecordCheck': WHATEVER THE INPUT: true; the input reads as it did. -/
def recordCheckSpec : ChangeSpec := { name := "recordCheck", fn := fun _ => fun
  | [d1, d2] => { results := [.lit (.bool true)], args := [d1, d2] }
  | _ => none }
def recordCheckRow : OpenClaim := { program := "ytcaliolcmooooaadoor", sum := "4b6b636de459386bcf7d3c8e8c655783d1f78eb6206ec39181cdfa8b07dc3885", func := "flashcache/flashcachelaw05.RecordCheck", spec := "recordCheck", unfollowed := true, recurses := true, named := ["flashcache/crc.table"], apart := false, laid := [("flashcache/crc.table", laid_flashcache_crc_table)] }
def RecordCheckSaid : Prop := recordCheckRow.holds Tryd.pinned (OpenSpec.ofChange recordCheckSpec)

/-- ITS FALSE NEIGHBOUR: 'it returns false'. Refute it at one input. -/
def recordCheckWrong : ChangeSpec := { name := "recordCheck", fn := fun _ => fun
  | [d1, d2] => { results := [.lit (.bool false)], args := [d1, d2] }
  | _ => none }
def RecordCheckWrongFalsely : Prop := recordCheckRow.holds Tryd.pinned (OpenSpec.ofChange recordCheckWrong)

/-- 'flashcachelaw05.RecordRound': WHATEVER THE INPUT: true; the input reads as it did. -/
def recordRoundSpec : ChangeSpec := { name := "recordRound", fn := fun _ => fun
  | [d1, d2, d3] => { results := [.lit (.bool true)], args := [d1, d2, d3] }
  | _ => none }
def recordRoundRow : OpenClaim := { program := "ytcaliolcmooooaadoor", sum := "4b6b636de459386bcf7d3c8e8c655783d1f78eb6206ec39181cdfa8b07dc3885", func := "flashcache/flashcachelaw05.RecordRound", spec := "recordRound", unfollowed := true, recurses := true, named := ["flashcache/crc.table"], apart := false, laid := [("flashcache/crc.table", laid_flashcache_crc_table)] }
def RecordRoundSaid : Prop := recordRoundRow.holds Tryd.pinned (OpenSpec.ofChange recordRoundSpec)

/-- ITS FALSE NEIGHBOUR: 'it returns false'. Refute it at one input. -/
def recordRoundWrong : ChangeSpec := { name := "recordRound", fn := fun _ => fun
  | [d1, d2, d3] => { results := [.lit (.bool false)], args := [d1, d2, d3] }
  | _ => none }
def RecordRoundWrongFalsely : Prop := recordRoundRow.holds Tryd.pinned (OpenSpec.ofChange recordRoundWrong)

/- THE SECOND FORM. 'bulk': how many values and letters a reading holds, each counted each time it is reached (what is shared counts as often as it is met; a slice's spare places count too). A statement '..UptoSaid' is the law's where the arguments, and the package variables that the reading takes, are together of bulk at most 1048576: NARROWER than '..Said'. Prove '..Said' where nothing that the law and all that it calls make is longer than what came in: it says more and counts as full. Else prove '..UptoSaid'. A law counts once. -/
mutual
def uptoBulk {H : Type} : DataW H → Nat
  | .lit (.string bytes) => bytes.length + 1
  | .lit _ => 1
  | .nil => 1
  | .ptr d => uptoBulk d + 1
  | .slice elems spare => uptoBulkAll elems + uptoBulkAll spare + 1
  | .agg parts => uptoBulkAll parts + 1
  | .iface _ d => uptoBulk d + 1
  | .map entries => uptoBulkEntries entries + 1
  | .held _ => 1
def uptoBulkAll {H : Type} : List (DataW H) → Nat
  | [] => 0
  | d :: r => uptoBulk d + uptoBulkAll r
def uptoBulkEntries {H : Type} : List (Lit × DataW H) → Nat
  | [] => 0
  | x :: r => uptoBulkEntry x + uptoBulkEntries r
def uptoBulkEntry {H : Type} : Lit × DataW H → Nat
  | (.string bytes, d) => bytes.length + uptoBulk d + 1
  | (_, d) => uptoBulk d + 1
 end
def uptoSmall : (H : Type) → List (DataW H) → Bool := fun _ ds => decide (uptoBulkAll ds ≤ 1048576)
def OpenSpec.upto (s : _root_.Go.ChangeSpec) : _root_.Go.OpenSpec := { _root_.Go.OpenSpec.ofChange s with cond := some uptoSmall }

/-- 'flashcachelaw05.RecordEncode', WHERE WHAT IT READS IS OF BULK AT MOST 1048576: true; the input reads as it did. -/
def recordEncodeUptoRow : OpenClaim := { program := "ytcaliolcmooooaadoor", sum := "4b6b636de459386bcf7d3c8e8c655783d1f78eb6206ec39181cdfa8b07dc3885", func := "flashcache/flashcachelaw05.RecordEncode", spec := "recordEncode", unfollowed := true, recurses := true, named := ["flashcache/crc.table"], apart := false, laid := [("flashcache/crc.table", laid_flashcache_crc_table)], narrowed := true }
def RecordEncodeUptoSaid : Prop := recordEncodeUptoRow.holds Tryd.pinned (OpenSpec.upto recordEncodeSpec)

/-- 'flashcachelaw05.RecordDecode', WHERE WHAT IT READS IS OF BULK AT MOST 1048576: true; the input reads as it did. -/
def recordDecodeUptoRow : OpenClaim := { program := "ytcaliolcmooooaadoor", sum := "4b6b636de459386bcf7d3c8e8c655783d1f78eb6206ec39181cdfa8b07dc3885", func := "flashcache/flashcachelaw05.RecordDecode", spec := "recordDecode", unfollowed := true, recurses := true, named := ["flashcache/crc.table"], apart := false, laid := [("flashcache/crc.table", laid_flashcache_crc_table)], narrowed := true }
def RecordDecodeUptoSaid : Prop := recordDecodeUptoRow.holds Tryd.pinned (OpenSpec.upto recordDecodeSpec)

/-- 'flashcachelaw05.RecordCut', WHERE WHAT IT READS IS OF BULK AT MOST 1048576: true; the input reads as it did. -/
def recordCutUptoRow : OpenClaim := { program := "ytcaliolcmooooaadoor", sum := "4b6b636de459386bcf7d3c8e8c655783d1f78eb6206ec39181cdfa8b07dc3885", func := "flashcache/flashcachelaw05.RecordCut", spec := "recordCut", unfollowed := true, recurses := true, named := ["flashcache/crc.table"], apart := false, laid := [("flashcache/crc.table", laid_flashcache_crc_table)], narrowed := true }
def RecordCutUptoSaid : Prop := recordCutUptoRow.holds Tryd.pinned (OpenSpec.upto recordCutSpec)

/-- 'flashcachelaw05.RecordLengths', WHERE WHAT IT READS IS OF BULK AT MOST 1048576: true; the input reads as it did. -/
def recordLengthsUptoRow : OpenClaim := { program := "ytcaliolcmooooaadoor", sum := "4b6b636de459386bcf7d3c8e8c655783d1f78eb6206ec39181cdfa8b07dc3885", func := "flashcache/flashcachelaw05.RecordLengths", spec := "recordLengths", unfollowed := true, recurses := true, named := ["flashcache/crc.table"], apart := false, laid := [("flashcache/crc.table", laid_flashcache_crc_table)], narrowed := true }
def RecordLengthsUptoSaid : Prop := recordLengthsUptoRow.holds Tryd.pinned (OpenSpec.upto recordLengthsSpec)

/-- 'flashcachelaw05.RecordApart', WHERE WHAT IT READS IS OF BULK AT MOST 1048576: true; the input reads as it did. -/
def recordApartUptoRow : OpenClaim := { program := "ytcaliolcmooooaadoor", sum := "4b6b636de459386bcf7d3c8e8c655783d1f78eb6206ec39181cdfa8b07dc3885", func := "flashcache/flashcachelaw05.RecordApart", spec := "recordApart", unfollowed := true, recurses := true, named := ["flashcache/crc.table"], apart := false, laid := [("flashcache/crc.table", laid_flashcache_crc_table)], narrowed := true }
def RecordApartUptoSaid : Prop := recordApartUptoRow.holds Tryd.pinned (OpenSpec.upto recordApartSpec)

/-- 'flashcachelaw05.RecordCheck', WHERE WHAT IT READS IS OF BULK AT MOST 1048576: true; the input reads as it did. -/
def recordCheckUptoRow : OpenClaim := { program := "ytcaliolcmooooaadoor", sum := "4b6b636de459386bcf7d3c8e8c655783d1f78eb6206ec39181cdfa8b07dc3885", func := "flashcache/flashcachelaw05.RecordCheck", spec := "recordCheck", unfollowed := true, recurses := true, named := ["flashcache/crc.table"], apart := false, laid := [("flashcache/crc.table", laid_flashcache_crc_table)], narrowed := true }
def RecordCheckUptoSaid : Prop := recordCheckUptoRow.holds Tryd.pinned (OpenSpec.upto recordCheckSpec)

/-- 'flashcachelaw05.RecordRound', WHERE WHAT IT READS IS OF BULK AT MOST 1048576: true; the input reads as it did. -/
def recordRoundUptoRow : OpenClaim := { program := "ytcaliolcmooooaadoor", sum := "4b6b636de459386bcf7d3c8e8c655783d1f78eb6206ec39181cdfa8b07dc3885", func := "flashcache/flashcachelaw05.RecordRound", spec := "recordRound", unfollowed := true, recurses := true, named := ["flashcache/crc.table"], apart := false, laid := [("flashcache/crc.table", laid_flashcache_crc_table)], narrowed := true }
def RecordRoundUptoSaid : Prop := recordRoundUptoRow.holds Tryd.pinned (OpenSpec.upto recordRoundSpec)

end Rows
end Go.Proofs.YtcaliolcmooooaaDoor
