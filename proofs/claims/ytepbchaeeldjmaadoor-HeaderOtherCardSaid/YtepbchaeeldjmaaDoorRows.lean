/-
  NARROWER THAN 'FOR EVERY INPUT', by the rows' own cells (each row's printed sentence says how): FrameEncode: laid · FrameDecode: laid · FrameOther: laid · FrameTorn: laid · HeaderValid: laid · HeaderEncode: laid · HeaderDecode: laid · HeaderFrame: laid · HeaderOther: laid.
  DERIVED. THE GIVEN ROWS OF THIS SEAT. 9 by the template 'for every input the law returns true; each argument reads behind the call as it read before'; 0 by the template 'total and deterministic' (their statements: YtepbchaeeldjmaaDoorTotals.lean).
  GIVEN WITH THE SEED: the statements are not yours to turn. If you find one false, say at which input.
  Laid BY PROGRAM, IN A SANDBOX (cutbox-rows.mjs): the forced cells as the released guide's own fill.sh prints them over the translation 0f43e48d688e7248… (all of the seat's roots in one cut). By AI agents, Wed Nov 11 2026. No macro, syntax, notation, axiom, sorry.
-/
import Derived.Test.YtepbchaeeldjmaaDoorChecked
import GoSem.Claim
import GoSem.ClaimJoined
import GoSem.ClaimMapViews
import Derived.JoinedTies
import Derived.KernelRfl
namespace Go.Proofs.YtepbchaeeldjmaaDoor
/- THE CELL 'sum', in the pinned program and in every row, IS THE sha256 OF THE DUMP (.gsa) THAT YtepbchaeeldjmaaDoorProg.lean LOADS. Nothing in Lean hashes anything: it is a label: what it is worth is what the hold of that sum in a sandbox is worth. -/
noncomputable def Tryd.pinned : Pinned := { name := "ytepbchaeeldjmaadoor", sum := "0f43e48d688e72485c9405b2cc57c065e8477f1c9d12b68372bd7d8459d92455", checked := Tryd.checked }
namespace Rows
def none {H : Type} : Left H := { results := [], args := [] }

/- WHAT THE LISTED PACKAGE-LEVEL VARIABLES READ AS WHEN THE CALL BEGINS. Each datum BY PROGRAM (the guide's laid-datum.mjs) off the statement by which the dump's own 'gosem.cut.vars' lays the variable. In a bare row this is a premise. The card (YtepbchaeeldjmaaDoorCards.lean) ties it to the program's text. -/
def laid_flashcache_crc_table {H : Type} : DataW H := .agg [.lit (.int .u32 0), .lit (.int .u32 274646895), .lit (.int .u32 549293790), .lit (.int .u32 820201905), .lit (.int .u32 1098587580), .lit (.int .u32 1361435347), .lit (.int .u32 1640403810), .lit (.int .u32 1905808397), .lit (.int .u32 2197175160), .lit (.int .u32 2460548119), .lit (.int .u32 2722870694), .lit (.int .u32 2987750089), .lit (.int .u32 3280807620), .lit (.int .u32 3553878443), .lit (.int .u32 3811616794), .lit (.int .u32 4084100981)]

/-- 'flashcachelaw06.FrameEncode': WHATEVER THE INPUT: true; the input reads as it did. -/
def frameEncodeSpec : ChangeSpec := { name := "frameEncode", fn := fun _ => fun
  | [d1, d2] => { results := [.lit (.bool true)], args := [d1, d2] }
  | _ => none }
def frameEncodeRow : OpenClaim := { program := "ytepbchaeeldjmaadoor", sum := "0f43e48d688e72485c9405b2cc57c065e8477f1c9d12b68372bd7d8459d92455", func := "flashcache/flashcachelaw06.FrameEncode", spec := "frameEncode", named := ["flashcache/crc.table"], apart := false, laid := [("flashcache/crc.table", laid_flashcache_crc_table)] }
def FrameEncodeSaid : Prop := frameEncodeRow.holds Tryd.pinned (OpenSpec.ofChange frameEncodeSpec)

/-- ITS FALSE NEIGHBOUR: 'it returns false'. Refute it at one input. -/
def frameEncodeWrong : ChangeSpec := { name := "frameEncode", fn := fun _ => fun
  | [d1, d2] => { results := [.lit (.bool false)], args := [d1, d2] }
  | _ => none }
def FrameEncodeWrongFalsely : Prop := frameEncodeRow.holds Tryd.pinned (OpenSpec.ofChange frameEncodeWrong)

/-- 'flashcachelaw06.FrameDecode': WHATEVER THE INPUT: true; the input reads as it did. -/
def frameDecodeSpec : ChangeSpec := { name := "frameDecode", fn := fun _ => fun
  | [d1, d2] => { results := [.lit (.bool true)], args := [d1, d2] }
  | _ => none }
def frameDecodeRow : OpenClaim := { program := "ytepbchaeeldjmaadoor", sum := "0f43e48d688e72485c9405b2cc57c065e8477f1c9d12b68372bd7d8459d92455", func := "flashcache/flashcachelaw06.FrameDecode", spec := "frameDecode", named := ["flashcache/crc.table"], apart := false, laid := [("flashcache/crc.table", laid_flashcache_crc_table)] }
def FrameDecodeSaid : Prop := frameDecodeRow.holds Tryd.pinned (OpenSpec.ofChange frameDecodeSpec)

/-- ITS FALSE NEIGHBOUR: 'it returns false'. Refute it at one input. -/
def frameDecodeWrong : ChangeSpec := { name := "frameDecode", fn := fun _ => fun
  | [d1, d2] => { results := [.lit (.bool false)], args := [d1, d2] }
  | _ => none }
def FrameDecodeWrongFalsely : Prop := frameDecodeRow.holds Tryd.pinned (OpenSpec.ofChange frameDecodeWrong)

/-- 'flashcachelaw06.FrameOther': WHATEVER THE INPUT: true; the input reads as it did. -/
def frameOtherSpec : ChangeSpec := { name := "frameOther", fn := fun _ => fun
  | [d1, d2, d3] => { results := [.lit (.bool true)], args := [d1, d2, d3] }
  | _ => none }
def frameOtherRow : OpenClaim := { program := "ytepbchaeeldjmaadoor", sum := "0f43e48d688e72485c9405b2cc57c065e8477f1c9d12b68372bd7d8459d92455", func := "flashcache/flashcachelaw06.FrameOther", spec := "frameOther", named := ["flashcache/crc.table"], apart := false, laid := [("flashcache/crc.table", laid_flashcache_crc_table)] }
def FrameOtherSaid : Prop := frameOtherRow.holds Tryd.pinned (OpenSpec.ofChange frameOtherSpec)

/-- ITS FALSE NEIGHBOUR: 'it returns false'. Refute it at one input. -/
def frameOtherWrong : ChangeSpec := { name := "frameOther", fn := fun _ => fun
  | [d1, d2, d3] => { results := [.lit (.bool false)], args := [d1, d2, d3] }
  | _ => none }
def FrameOtherWrongFalsely : Prop := frameOtherRow.holds Tryd.pinned (OpenSpec.ofChange frameOtherWrong)

/-- 'flashcachelaw06.FrameTorn': WHATEVER THE INPUT: true; the input reads as it did. -/
def frameTornSpec : ChangeSpec := { name := "frameTorn", fn := fun _ => fun
  | [d] => { results := [.lit (.bool true)], args := [d] }
  | _ => none }
def frameTornRow : OpenClaim := { program := "ytepbchaeeldjmaadoor", sum := "0f43e48d688e72485c9405b2cc57c065e8477f1c9d12b68372bd7d8459d92455", func := "flashcache/flashcachelaw06.FrameTorn", spec := "frameTorn", named := ["flashcache/crc.table"], apart := false, laid := [("flashcache/crc.table", laid_flashcache_crc_table)] }
def FrameTornSaid : Prop := frameTornRow.holds Tryd.pinned (OpenSpec.ofChange frameTornSpec)

/-- ITS FALSE NEIGHBOUR: 'it returns false'. Refute it at one input. -/
def frameTornWrong : ChangeSpec := { name := "frameTorn", fn := fun _ => fun
  | [d] => { results := [.lit (.bool false)], args := [d] }
  | _ => none }
def FrameTornWrongFalsely : Prop := frameTornRow.holds Tryd.pinned (OpenSpec.ofChange frameTornWrong)

/-- 'flashcachelaw07.HeaderValid': WHATEVER THE INPUT: true; the input reads as it did. -/
def headerValidSpec : ChangeSpec := { name := "headerValid", fn := fun _ => fun
  | [d] => { results := [.lit (.bool true)], args := [d] }
  | _ => none }
def headerValidRow : OpenClaim := { program := "ytepbchaeeldjmaadoor", sum := "0f43e48d688e72485c9405b2cc57c065e8477f1c9d12b68372bd7d8459d92455", func := "flashcache/flashcachelaw07.HeaderValid", spec := "headerValid", unfollowed := true, recurses := true, named := ["flashcache/crc.table"], apart := false, laid := [("flashcache/crc.table", laid_flashcache_crc_table)] }
def HeaderValidSaid : Prop := headerValidRow.holds Tryd.pinned (OpenSpec.ofChange headerValidSpec)

/-- ITS FALSE NEIGHBOUR: 'it returns false'. Refute it at one input. -/
def headerValidWrong : ChangeSpec := { name := "headerValid", fn := fun _ => fun
  | [d] => { results := [.lit (.bool false)], args := [d] }
  | _ => none }
def HeaderValidWrongFalsely : Prop := headerValidRow.holds Tryd.pinned (OpenSpec.ofChange headerValidWrong)

/-- 'flashcachelaw07.HeaderEncode': WHATEVER THE INPUT: true; the input reads as it did. -/
def headerEncodeSpec : ChangeSpec := { name := "headerEncode", fn := fun _ => fun
  | [d1, d2] => { results := [.lit (.bool true)], args := [d1, d2] }
  | _ => none }
def headerEncodeRow : OpenClaim := { program := "ytepbchaeeldjmaadoor", sum := "0f43e48d688e72485c9405b2cc57c065e8477f1c9d12b68372bd7d8459d92455", func := "flashcache/flashcachelaw07.HeaderEncode", spec := "headerEncode", unfollowed := true, recurses := true, named := ["flashcache/crc.table"], apart := false, laid := [("flashcache/crc.table", laid_flashcache_crc_table)] }
def HeaderEncodeSaid : Prop := headerEncodeRow.holds Tryd.pinned (OpenSpec.ofChange headerEncodeSpec)

/-- ITS FALSE NEIGHBOUR: 'it returns false'. Refute it at one input. -/
def headerEncodeWrong : ChangeSpec := { name := "headerEncode", fn := fun _ => fun
  | [d1, d2] => { results := [.lit (.bool false)], args := [d1, d2] }
  | _ => none }
def HeaderEncodeWrongFalsely : Prop := headerEncodeRow.holds Tryd.pinned (OpenSpec.ofChange headerEncodeWrong)

/-- 'flashcachelaw07.HeaderDecode': WHATEVER THE INPUT: true; the input reads as it did. -/
def headerDecodeSpec : ChangeSpec := { name := "headerDecode", fn := fun _ => fun
  | [d1, d2] => { results := [.lit (.bool true)], args := [d1, d2] }
  | _ => none }
def headerDecodeRow : OpenClaim := { program := "ytepbchaeeldjmaadoor", sum := "0f43e48d688e72485c9405b2cc57c065e8477f1c9d12b68372bd7d8459d92455", func := "flashcache/flashcachelaw07.HeaderDecode", spec := "headerDecode", unfollowed := true, recurses := true, named := ["flashcache/crc.table"], apart := false, laid := [("flashcache/crc.table", laid_flashcache_crc_table)] }
def HeaderDecodeSaid : Prop := headerDecodeRow.holds Tryd.pinned (OpenSpec.ofChange headerDecodeSpec)

/-- ITS FALSE NEIGHBOUR: 'it returns false'. Refute it at one input. -/
def headerDecodeWrong : ChangeSpec := { name := "headerDecode", fn := fun _ => fun
  | [d1, d2] => { results := [.lit (.bool false)], args := [d1, d2] }
  | _ => none }
def HeaderDecodeWrongFalsely : Prop := headerDecodeRow.holds Tryd.pinned (OpenSpec.ofChange headerDecodeWrong)

/-- 'flashcachelaw07.HeaderFrame': WHATEVER THE INPUT: true; the input reads as it did. -/
def headerFrameSpec : ChangeSpec := { name := "headerFrame", fn := fun _ => fun
  | [d1, d2] => { results := [.lit (.bool true)], args := [d1, d2] }
  | _ => none }
def headerFrameRow : OpenClaim := { program := "ytepbchaeeldjmaadoor", sum := "0f43e48d688e72485c9405b2cc57c065e8477f1c9d12b68372bd7d8459d92455", func := "flashcache/flashcachelaw07.HeaderFrame", spec := "headerFrame", unfollowed := true, recurses := true, named := ["flashcache/crc.table"], apart := false, laid := [("flashcache/crc.table", laid_flashcache_crc_table)] }
def HeaderFrameSaid : Prop := headerFrameRow.holds Tryd.pinned (OpenSpec.ofChange headerFrameSpec)

/-- ITS FALSE NEIGHBOUR: 'it returns false'. Refute it at one input. -/
def headerFrameWrong : ChangeSpec := { name := "headerFrame", fn := fun _ => fun
  | [d1, d2] => { results := [.lit (.bool false)], args := [d1, d2] }
  | _ => none }
def HeaderFrameWrongFalsely : Prop := headerFrameRow.holds Tryd.pinned (OpenSpec.ofChange headerFrameWrong)

/-- 'flashcachelaw07.HeaderOther': WHATEVER THE INPUT: true; the input reads as it did. -/
def headerOtherSpec : ChangeSpec := { name := "headerOther", fn := fun _ => fun
  | [d] => { results := [.lit (.bool true)], args := [d] }
  | _ => none }
def headerOtherRow : OpenClaim := { program := "ytepbchaeeldjmaadoor", sum := "0f43e48d688e72485c9405b2cc57c065e8477f1c9d12b68372bd7d8459d92455", func := "flashcache/flashcachelaw07.HeaderOther", spec := "headerOther", unfollowed := true, recurses := true, named := ["flashcache/crc.table"], apart := false, laid := [("flashcache/crc.table", laid_flashcache_crc_table)] }
def HeaderOtherSaid : Prop := headerOtherRow.holds Tryd.pinned (OpenSpec.ofChange headerOtherSpec)

/-- ITS FALSE NEIGHBOUR: 'it returns false'. Refute it at one input. -/
def headerOtherWrong : ChangeSpec := { name := "headerOther", fn := fun _ => fun
  | [d] => { results := [.lit (.bool false)], args := [d] }
  | _ => none }
def HeaderOtherWrongFalsely : Prop := headerOtherRow.holds Tryd.pinned (OpenSpec.ofChange headerOtherWrong)

/- THE SECOND FORM. 'bulk': how many values and letters a reading holds, each counted each time it is reached (what is shared counts as often as it is met; a slice's spare places count too). A statement '..UptoSaid' is the law's where the arguments, and the package variables that the reading takes, are together of bulk at most 1048576: NARROWER than '..Said'. Prove '..Said' where nothing that the law and all that it calls make is longer than what came in: it says more and counts as full. Else prove '..UptoSaid'. A law counts once. -/
mutual
def uptoBulk {H : Type} : DataW H → Nat
  | .lit (.string bytes) => bytes.length + 1
  | .lit _ => 1
  | .nil => 1
  | .ptr d => uptoBulk d + 1
  | .slice elems spare => uptoBulkAll elems + uptoBulkAll spare + 1
  | .agg parts => uptoBulkAll parts + 1
  | .iface _ d => uptoBulk d + 1
  | .map entries => uptoBulkEntries entries + 1
  | .held _ => 1
def uptoBulkAll {H : Type} : List (DataW H) → Nat
  | [] => 0
  | d :: r => uptoBulk d + uptoBulkAll r
def uptoBulkEntries {H : Type} : List (Lit × DataW H) → Nat
  | [] => 0
  | x :: r => uptoBulkEntry x + uptoBulkEntries r
def uptoBulkEntry {H : Type} : Lit × DataW H → Nat
  | (.string bytes, d) => bytes.length + uptoBulk d + 1
  | (_, d) => uptoBulk d + 1
 end
def uptoSmall : (H : Type) → List (DataW H) → Bool := fun _ ds => decide (uptoBulkAll ds ≤ 1048576)
def OpenSpec.upto (s : _root_.Go.ChangeSpec) : _root_.Go.OpenSpec := { _root_.Go.OpenSpec.ofChange s with cond := some uptoSmall }

/-- 'flashcachelaw06.FrameEncode', WHERE WHAT IT READS IS OF BULK AT MOST 1048576: true; the input reads as it did. -/
def frameEncodeUptoRow : OpenClaim := { program := "ytepbchaeeldjmaadoor", sum := "0f43e48d688e72485c9405b2cc57c065e8477f1c9d12b68372bd7d8459d92455", func := "flashcache/flashcachelaw06.FrameEncode", spec := "frameEncode", named := ["flashcache/crc.table"], apart := false, laid := [("flashcache/crc.table", laid_flashcache_crc_table)], narrowed := true }
def FrameEncodeUptoSaid : Prop := frameEncodeUptoRow.holds Tryd.pinned (OpenSpec.upto frameEncodeSpec)

/-- 'flashcachelaw06.FrameDecode', WHERE WHAT IT READS IS OF BULK AT MOST 1048576: true; the input reads as it did. -/
def frameDecodeUptoRow : OpenClaim := { program := "ytepbchaeeldjmaadoor", sum := "0f43e48d688e72485c9405b2cc57c065e8477f1c9d12b68372bd7d8459d92455", func := "flashcache/flashcachelaw06.FrameDecode", spec := "frameDecode", named := ["flashcache/crc.table"], apart := false, laid := [("flashcache/crc.table", laid_flashcache_crc_table)], narrowed := true }
def FrameDecodeUptoSaid : Prop := frameDecodeUptoRow.holds Tryd.pinned (OpenSpec.upto frameDecodeSpec)

/-- 'flashcachelaw06.FrameOther', WHERE WHAT IT READS IS OF BULK AT MOST 1048576: true; the input reads as it did. -/
def frameOtherUptoRow : OpenClaim := { program := "ytepbchaeeldjmaadoor", sum := "0f43e48d688e72485c9405b2cc57c065e8477f1c9d12b68372bd7d8459d92455", func := "flashcache/flashcachelaw06.FrameOther", spec := "frameOther", named := ["flashcache/crc.table"], apart := false, laid := [("flashcache/crc.table", laid_flashcache_crc_table)], narrowed := true }
def FrameOtherUptoSaid : Prop := frameOtherUptoRow.holds Tryd.pinned (OpenSpec.upto frameOtherSpec)

/-- 'flashcachelaw06.FrameTorn', WHERE WHAT IT READS IS OF BULK AT MOST 1048576: true; the input reads as it did. -/
def frameTornUptoRow : OpenClaim := { program := "ytepbchaeeldjmaadoor", sum := "0f43e48d688e72485c9405b2cc57c065e8477f1c9d12b68372bd7d8459d92455", func := "flashcache/flashcachelaw06.FrameTorn", spec := "frameTorn", named := ["flashcache/crc.table"], apart := false, laid := [("flashcache/crc.table", laid_flashcache_crc_table)], narrowed := true }
def FrameTornUptoSaid : Prop := frameTornUptoRow.holds Tryd.pinned (OpenSpec.upto frameTornSpec)

/-- 'flashcachelaw07.HeaderValid', WHERE WHAT IT READS IS OF BULK AT MOST 1048576: true; the input reads as it did. -/
def headerValidUptoRow : OpenClaim := { program := "ytepbchaeeldjmaadoor", sum := "0f43e48d688e72485c9405b2cc57c065e8477f1c9d12b68372bd7d8459d92455", func := "flashcache/flashcachelaw07.HeaderValid", spec := "headerValid", unfollowed := true, recurses := true, named := ["flashcache/crc.table"], apart := false, laid := [("flashcache/crc.table", laid_flashcache_crc_table)], narrowed := true }
def HeaderValidUptoSaid : Prop := headerValidUptoRow.holds Tryd.pinned (OpenSpec.upto headerValidSpec)

/-- 'flashcachelaw07.HeaderEncode', WHERE WHAT IT READS IS OF BULK AT MOST 1048576: true; the input reads as it did. -/
def headerEncodeUptoRow : OpenClaim := { program := "ytepbchaeeldjmaadoor", sum := "0f43e48d688e72485c9405b2cc57c065e8477f1c9d12b68372bd7d8459d92455", func := "flashcache/flashcachelaw07.HeaderEncode", spec := "headerEncode", unfollowed := true, recurses := true, named := ["flashcache/crc.table"], apart := false, laid := [("flashcache/crc.table", laid_flashcache_crc_table)], narrowed := true }
def HeaderEncodeUptoSaid : Prop := headerEncodeUptoRow.holds Tryd.pinned (OpenSpec.upto headerEncodeSpec)

/-- 'flashcachelaw07.HeaderDecode', WHERE WHAT IT READS IS OF BULK AT MOST 1048576: true; the input reads as it did. -/
def headerDecodeUptoRow : OpenClaim := { program := "ytepbchaeeldjmaadoor", sum := "0f43e48d688e72485c9405b2cc57c065e8477f1c9d12b68372bd7d8459d92455", func := "flashcache/flashcachelaw07.HeaderDecode", spec := "headerDecode", unfollowed := true, recurses := true, named := ["flashcache/crc.table"], apart := false, laid := [("flashcache/crc.table", laid_flashcache_crc_table)], narrowed := true }
def HeaderDecodeUptoSaid : Prop := headerDecodeUptoRow.holds Tryd.pinned (OpenSpec.upto headerDecodeSpec)

/-- 'flashcachelaw07.HeaderFrame', WHERE WHAT IT READS IS OF BULK AT MOST 1048576: true; the input reads as it did. -/
def headerFrameUptoRow : OpenClaim := { program := "ytepbchaeeldjmaadoor", sum := "0f43e48d688e72485c9405b2cc57c065e8477f1c9d12b68372bd7d8459d92455", func := "flashcache/flashcachelaw07.HeaderFrame", spec := "headerFrame", unfollowed := true, recurses := true, named := ["flashcache/crc.table"], apart := false, laid := [("flashcache/crc.table", laid_flashcache_crc_table)], narrowed := true }
def HeaderFrameUptoSaid : Prop := headerFrameUptoRow.holds Tryd.pinned (OpenSpec.upto headerFrameSpec)

/-- 'flashcachelaw07.HeaderOther', WHERE WHAT IT READS IS OF BULK AT MOST 1048576: true; the input reads as it did. -/
def headerOtherUptoRow : OpenClaim := { program := "ytepbchaeeldjmaadoor", sum := "0f43e48d688e72485c9405b2cc57c065e8477f1c9d12b68372bd7d8459d92455", func := "flashcache/flashcachelaw07.HeaderOther", spec := "headerOther", unfollowed := true, recurses := true, named := ["flashcache/crc.table"], apart := false, laid := [("flashcache/crc.table", laid_flashcache_crc_table)], narrowed := true }
def HeaderOtherUptoSaid : Prop := headerOtherUptoRow.holds Tryd.pinned (OpenSpec.upto headerOtherSpec)

end Rows
end Go.Proofs.YtepbchaeeldjmaaDoor
