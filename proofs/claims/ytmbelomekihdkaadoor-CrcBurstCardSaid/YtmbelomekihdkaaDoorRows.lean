/-
  NARROWER THAN 'FOR EVERY INPUT', by the rows' own cells (each row's printed sentence says how): CrcSum: laid · CrcParts: laid · CrcBurst: laid · CrcCombine: laid · CrcLong: laid.
  DERIVED. THE GIVEN ROWS OF THIS SEAT. 5 by the template 'for every input the law returns true; each argument reads behind the call as it read before'; 0 by the template 'total and deterministic' (their statements: YtmbelomekihdkaaDoorTotals.lean).
  GIVEN WITH THE SEED: the statements are not yours to turn. If you find one false, say at which input.
  Laid BY PROGRAM, IN A SANDBOX (cutbox-rows.mjs): the forced cells as the released guide's own fill.sh prints them over the translation 4ff69925343f8b19… (all of the seat's roots in one cut). By AI agents, Wed Nov 11 2026. No macro, syntax, notation, axiom, sorry.
-/
import Derived.Test.YtmbelomekihdkaaDoorChecked
import GoSem.Claim
import GoSem.ClaimJoined
import GoSem.ClaimMapViews
import Derived.JoinedTies
import Derived.KernelRfl
namespace Go.Proofs.YtmbelomekihdkaaDoor
/- THE CELL 'sum', in the pinned program and in every row, IS THE sha256 OF THE DUMP (.gsa) THAT YtmbelomekihdkaaDoorProg.lean LOADS. Nothing in Lean hashes anything: it is a label: what it is worth is what the hold of that sum in a sandbox is worth. -/
noncomputable def Tryd.pinned : Pinned := { name := "ytmbelomekihdkaadoor", sum := "4ff69925343f8b1966a73db1951214e2879ca5bced127e0a8187f92a8b85c1ce", checked := Tryd.checked }
namespace Rows
def none {H : Type} : Left H := { results := [], args := [] }

/- WHAT THE LISTED PACKAGE-LEVEL VARIABLES READ AS WHEN THE CALL BEGINS. Each datum BY PROGRAM (the guide's laid-datum.mjs) off the statement by which the dump's own 'gosem.cut.vars' lays the variable. In a bare row this is a premise. The card (YtmbelomekihdkaaDoorCards.lean) ties it to the program's text. -/
def laid_flashcache_crc_table {H : Type} : DataW H := .agg [.lit (.int .u32 0), .lit (.int .u32 274646895), .lit (.int .u32 549293790), .lit (.int .u32 820201905), .lit (.int .u32 1098587580), .lit (.int .u32 1361435347), .lit (.int .u32 1640403810), .lit (.int .u32 1905808397), .lit (.int .u32 2197175160), .lit (.int .u32 2460548119), .lit (.int .u32 2722870694), .lit (.int .u32 2987750089), .lit (.int .u32 3280807620), .lit (.int .u32 3553878443), .lit (.int .u32 3811616794), .lit (.int .u32 4084100981)]

/-- 'flashcachelaw01.CrcSum': WHATEVER THE INPUT: true; the input reads as it did. -/
def crcSumSpec : ChangeSpec := { name := "crcSum", fn := fun _ => fun
  | [d1, d2] => { results := [.lit (.bool true)], args := [d1, d2] }
  | _ => none }
def crcSumRow : OpenClaim := { program := "ytmbelomekihdkaadoor", sum := "4ff69925343f8b1966a73db1951214e2879ca5bced127e0a8187f92a8b85c1ce", func := "flashcache/flashcachelaw01.CrcSum", spec := "crcSum", named := ["flashcache/crc.table"], apart := false, laid := [("flashcache/crc.table", laid_flashcache_crc_table)] }
def CrcSumSaid : Prop := crcSumRow.holds Tryd.pinned (OpenSpec.ofChange crcSumSpec)

/-- ITS FALSE NEIGHBOUR: 'it returns false'. Refute it at one input. -/
def crcSumWrong : ChangeSpec := { name := "crcSum", fn := fun _ => fun
  | [d1, d2] => { results := [.lit (.bool false)], args := [d1, d2] }
  | _ => none }
def CrcSumWrongFalsely : Prop := crcSumRow.holds Tryd.pinned (OpenSpec.ofChange crcSumWrong)

/-- 'flashcachelaw01.CrcParts': WHATEVER THE INPUT: true; the input reads as it did. -/
def crcPartsSpec : ChangeSpec := { name := "crcParts", fn := fun _ => fun
  | [d1, d2] => { results := [.lit (.bool true)], args := [d1, d2] }
  | _ => none }
def crcPartsRow : OpenClaim := { program := "ytmbelomekihdkaadoor", sum := "4ff69925343f8b1966a73db1951214e2879ca5bced127e0a8187f92a8b85c1ce", func := "flashcache/flashcachelaw01.CrcParts", spec := "crcParts", named := ["flashcache/crc.table"], apart := false, laid := [("flashcache/crc.table", laid_flashcache_crc_table)] }
def CrcPartsSaid : Prop := crcPartsRow.holds Tryd.pinned (OpenSpec.ofChange crcPartsSpec)

/-- ITS FALSE NEIGHBOUR: 'it returns false'. Refute it at one input. -/
def crcPartsWrong : ChangeSpec := { name := "crcParts", fn := fun _ => fun
  | [d1, d2] => { results := [.lit (.bool false)], args := [d1, d2] }
  | _ => none }
def CrcPartsWrongFalsely : Prop := crcPartsRow.holds Tryd.pinned (OpenSpec.ofChange crcPartsWrong)

/-- 'flashcachelaw01.CrcBurst': WHATEVER THE INPUT: true; the input reads as it did. -/
def crcBurstSpec : ChangeSpec := { name := "crcBurst", fn := fun _ => fun
  | [d1, d2, d3] => { results := [.lit (.bool true)], args := [d1, d2, d3] }
  | _ => none }
def crcBurstRow : OpenClaim := { program := "ytmbelomekihdkaadoor", sum := "4ff69925343f8b1966a73db1951214e2879ca5bced127e0a8187f92a8b85c1ce", func := "flashcache/flashcachelaw01.CrcBurst", spec := "crcBurst", named := ["flashcache/crc.table"], apart := false, laid := [("flashcache/crc.table", laid_flashcache_crc_table)] }
def CrcBurstSaid : Prop := crcBurstRow.holds Tryd.pinned (OpenSpec.ofChange crcBurstSpec)

/-- ITS FALSE NEIGHBOUR: 'it returns false'. Refute it at one input. -/
def crcBurstWrong : ChangeSpec := { name := "crcBurst", fn := fun _ => fun
  | [d1, d2, d3] => { results := [.lit (.bool false)], args := [d1, d2, d3] }
  | _ => none }
def CrcBurstWrongFalsely : Prop := crcBurstRow.holds Tryd.pinned (OpenSpec.ofChange crcBurstWrong)

/-- 'flashcachelaw01.CrcCombine': WHATEVER THE INPUT: true; the input reads as it did. -/
def crcCombineSpec : ChangeSpec := { name := "crcCombine", fn := fun _ => fun
  | [d1, d2] => { results := [.lit (.bool true)], args := [d1, d2] }
  | _ => none }
def crcCombineRow : OpenClaim := { program := "ytmbelomekihdkaadoor", sum := "4ff69925343f8b1966a73db1951214e2879ca5bced127e0a8187f92a8b85c1ce", func := "flashcache/flashcachelaw01.CrcCombine", spec := "crcCombine", named := ["flashcache/crc.table"], apart := false, laid := [("flashcache/crc.table", laid_flashcache_crc_table)] }
def CrcCombineSaid : Prop := crcCombineRow.holds Tryd.pinned (OpenSpec.ofChange crcCombineSpec)

/-- ITS FALSE NEIGHBOUR: 'it returns false'. Refute it at one input. -/
def crcCombineWrong : ChangeSpec := { name := "crcCombine", fn := fun _ => fun
  | [d1, d2] => { results := [.lit (.bool false)], args := [d1, d2] }
  | _ => none }
def CrcCombineWrongFalsely : Prop := crcCombineRow.holds Tryd.pinned (OpenSpec.ofChange crcCombineWrong)

/-- 'flashcachelaw01.CrcLong': WHATEVER THE INPUT: true; the input reads as it did. -/
def crcLongSpec : ChangeSpec := { name := "crcLong", fn := fun _ => fun
  | [d1, d2, d3] => { results := [.lit (.bool true)], args := [d1, d2, d3] }
  | _ => none }
def crcLongRow : OpenClaim := { program := "ytmbelomekihdkaadoor", sum := "4ff69925343f8b1966a73db1951214e2879ca5bced127e0a8187f92a8b85c1ce", func := "flashcache/flashcachelaw01.CrcLong", spec := "crcLong", named := ["flashcache/crc.table"], apart := false, laid := [("flashcache/crc.table", laid_flashcache_crc_table)] }
def CrcLongSaid : Prop := crcLongRow.holds Tryd.pinned (OpenSpec.ofChange crcLongSpec)

/-- ITS FALSE NEIGHBOUR: 'it returns false'. Refute it at one input. -/
def crcLongWrong : ChangeSpec := { name := "crcLong", fn := fun _ => fun
  | [d1, d2, d3] => { results := [.lit (.bool false)], args := [d1, d2, d3] }
  | _ => none }
def CrcLongWrongFalsely : Prop := crcLongRow.holds Tryd.pinned (OpenSpec.ofChange crcLongWrong)

/- THE SECOND FORM. 'bulk': how many values and letters a reading holds, each counted each time it is reached (what is shared counts as often as it is met; a slice's spare places count too). A statement '..UptoSaid' is the law's where the arguments, and the package variables that the reading takes, are together of bulk at most 1048576: NARROWER than '..Said'. Prove '..Said' where nothing that the law and all that it calls make is longer than what came in: it says more and counts as full. Else prove '..UptoSaid'. A law counts once. -/
mutual
def uptoBulk {H : Type} : DataW H → Nat
  | .lit (.string bytes) => bytes.length + 1
  | .lit _ => 1
  | .nil => 1
  | .ptr d => uptoBulk d + 1
  | .slice elems spare => uptoBulkAll elems + uptoBulkAll spare + 1
  | .agg parts => uptoBulkAll parts + 1
  | .iface _ d => uptoBulk d + 1
  | .map entries => uptoBulkEntries entries + 1
  | .held _ => 1
def uptoBulkAll {H : Type} : List (DataW H) → Nat
  | [] => 0
  | d :: r => uptoBulk d + uptoBulkAll r
def uptoBulkEntries {H : Type} : List (Lit × DataW H) → Nat
  | [] => 0
  | x :: r => uptoBulkEntry x + uptoBulkEntries r
def uptoBulkEntry {H : Type} : Lit × DataW H → Nat
  | (.string bytes, d) => bytes.length + uptoBulk d + 1
  | (_, d) => uptoBulk d + 1
 end
def uptoSmall : (H : Type) → List (DataW H) → Bool := fun _ ds => decide (uptoBulkAll ds ≤ 1048576)
def OpenSpec.upto (s : _root_.Go.ChangeSpec) : _root_.Go.OpenSpec := { _root_.Go.OpenSpec.ofChange s with cond := some uptoSmall }

/-- 'flashcachelaw01.CrcSum', WHERE WHAT IT READS IS OF BULK AT MOST 1048576: true; the input reads as it did. -/
def crcSumUptoRow : OpenClaim := { program := "ytmbelomekihdkaadoor", sum := "4ff69925343f8b1966a73db1951214e2879ca5bced127e0a8187f92a8b85c1ce", func := "flashcache/flashcachelaw01.CrcSum", spec := "crcSum", named := ["flashcache/crc.table"], apart := false, laid := [("flashcache/crc.table", laid_flashcache_crc_table)], narrowed := true }
def CrcSumUptoSaid : Prop := crcSumUptoRow.holds Tryd.pinned (OpenSpec.upto crcSumSpec)

/-- 'flashcachelaw01.CrcParts', WHERE WHAT IT READS IS OF BULK AT MOST 1048576: true; the input reads as it did. -/
def crcPartsUptoRow : OpenClaim := { program := "ytmbelomekihdkaadoor", sum := "4ff69925343f8b1966a73db1951214e2879ca5bced127e0a8187f92a8b85c1ce", func := "flashcache/flashcachelaw01.CrcParts", spec := "crcParts", named := ["flashcache/crc.table"], apart := false, laid := [("flashcache/crc.table", laid_flashcache_crc_table)], narrowed := true }
def CrcPartsUptoSaid : Prop := crcPartsUptoRow.holds Tryd.pinned (OpenSpec.upto crcPartsSpec)

/-- 'flashcachelaw01.CrcBurst', WHERE WHAT IT READS IS OF BULK AT MOST 1048576: true; the input reads as it did. -/
def crcBurstUptoRow : OpenClaim := { program := "ytmbelomekihdkaadoor", sum := "4ff69925343f8b1966a73db1951214e2879ca5bced127e0a8187f92a8b85c1ce", func := "flashcache/flashcachelaw01.CrcBurst", spec := "crcBurst", named := ["flashcache/crc.table"], apart := false, laid := [("flashcache/crc.table", laid_flashcache_crc_table)], narrowed := true }
def CrcBurstUptoSaid : Prop := crcBurstUptoRow.holds Tryd.pinned (OpenSpec.upto crcBurstSpec)

/-- 'flashcachelaw01.CrcCombine', WHERE WHAT IT READS IS OF BULK AT MOST 1048576: true; the input reads as it did. -/
def crcCombineUptoRow : OpenClaim := { program := "ytmbelomekihdkaadoor", sum := "4ff69925343f8b1966a73db1951214e2879ca5bced127e0a8187f92a8b85c1ce", func := "flashcache/flashcachelaw01.CrcCombine", spec := "crcCombine", named := ["flashcache/crc.table"], apart := false, laid := [("flashcache/crc.table", laid_flashcache_crc_table)], narrowed := true }
def CrcCombineUptoSaid : Prop := crcCombineUptoRow.holds Tryd.pinned (OpenSpec.upto crcCombineSpec)

/-- 'flashcachelaw01.CrcLong', WHERE WHAT IT READS IS OF BULK AT MOST 1048576: true; the input reads as it did. -/
def crcLongUptoRow : OpenClaim := { program := "ytmbelomekihdkaadoor", sum := "4ff69925343f8b1966a73db1951214e2879ca5bced127e0a8187f92a8b85c1ce", func := "flashcache/flashcachelaw01.CrcLong", spec := "crcLong", named := ["flashcache/crc.table"], apart := false, laid := [("flashcache/crc.table", laid_flashcache_crc_table)], narrowed := true }
def CrcLongUptoSaid : Prop := crcLongUptoRow.holds Tryd.pinned (OpenSpec.upto crcLongSpec)

end Rows
end Go.Proofs.YtmbelomekihdkaaDoor
