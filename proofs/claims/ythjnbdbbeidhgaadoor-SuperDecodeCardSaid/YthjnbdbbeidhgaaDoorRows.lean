/-
  NARROWER THAN 'FOR EVERY INPUT', by the rows' own cells (each row's printed sentence says how): PlanEncode: laid · PlanDecode: laid · SuperEncode: laid · SuperDecode: laid · SuperApart: laid · SuperValid: laid.
  DERIVED. THE GIVEN ROWS OF THIS SEAT. 6 by the template 'for every input the law returns true; each argument reads behind the call as it read before'; 0 by the template 'total and deterministic' (their statements: YthjnbdbbeidhgaaDoorTotals.lean).
  GIVEN WITH THE SEED: the statements are not yours to turn. If you find one false, say at which input.
  Laid BY PROGRAM, IN A SANDBOX (cutbox-rows.mjs): the forced cells as the released guide's own fill.sh prints them over the translation e7c52d2394f98968… (all of the seat's roots in one cut). By AI agents, Wed Nov 11 2026. No macro, syntax, notation, axiom, sorry.
-/
import Derived.Test.YthjnbdbbeidhgaaDoorChecked
import GoSem.Claim
import GoSem.ClaimJoined
import GoSem.ClaimMapViews
import Derived.JoinedTies
import Derived.KernelRfl
namespace Go.Proofs.YthjnbdbbeidhgaaDoor
/- THE CELL 'sum', in the pinned program and in every row, IS THE sha256 OF THE DUMP (.gsa) THAT YthjnbdbbeidhgaaDoorProg.lean LOADS. Nothing in Lean hashes anything: it is a label: what it is worth is what the hold of that sum in a sandbox is worth. -/
noncomputable def Tryd.pinned : Pinned := { name := "ythjnbdbbeidhgaadoor", sum := "e7c52d2394f989688211f5defda50cb7bb2d46c0f197a5a5a97460e952fbc7d8", checked := Tryd.checked }
namespace Rows
def none {H : Type} : Left H := { results := [], args := [] }

/- WHAT THE LISTED PACKAGE-LEVEL VARIABLES READ AS WHEN THE CALL BEGINS. Each datum BY PROGRAM (the guide's laid-datum.mjs) off the statement by which the dump's own 'gosem.cut.vars' lays the variable. In a bare row this is a premise. The card (YthjnbdbbeidhgaaDoorCards.lean) ties it to the program's text. -/
def laid_flashcache_crc_table {H : Type} : DataW H := .agg [.lit (.int .u32 0), .lit (.int .u32 274646895), .lit (.int .u32 549293790), .lit (.int .u32 820201905), .lit (.int .u32 1098587580), .lit (.int .u32 1361435347), .lit (.int .u32 1640403810), .lit (.int .u32 1905808397), .lit (.int .u32 2197175160), .lit (.int .u32 2460548119), .lit (.int .u32 2722870694), .lit (.int .u32 2987750089), .lit (.int .u32 3280807620), .lit (.int .u32 3553878443), .lit (.int .u32 3811616794), .lit (.int .u32 4084100981)]

/-- 'flashcachelaw10.PlanEncode': WHATEVER THE INPUT: true; the input reads as it did. -/
def planEncodeSpec : ChangeSpec := { name := "planEncode", fn := fun _ => fun
  | [d1, d2] => { results := [.lit (.bool true)], args := [d1, d2] }
  | _ => none }
def planEncodeRow : OpenClaim := { program := "ythjnbdbbeidhgaadoor", sum := "e7c52d2394f989688211f5defda50cb7bb2d46c0f197a5a5a97460e952fbc7d8", func := "flashcache/flashcachelaw10.PlanEncode", spec := "planEncode", unfollowed := true, recurses := true, named := ["flashcache/crc.table"], apart := false, laid := [("flashcache/crc.table", laid_flashcache_crc_table)] }
def PlanEncodeSaid : Prop := planEncodeRow.holds Tryd.pinned (OpenSpec.ofChange planEncodeSpec)

/-- ITS FALSE NEIGHBOUR: 'it returns false'. Refute it at one input. -/
def planEncodeWrong : ChangeSpec := { name := "planEncode", fn := fun _ => fun
  | [d1, d2] => { results := [.lit (.bool false)], args := [d1, d2] }
  | _ => none }
def PlanEncodeWrongFalsely : Prop := planEncodeRow.holds Tryd.pinned (OpenSpec.ofChange planEncodeWrong)

/-- 'flashcachelaw10.PlanDecode': WHATEVER THE INPUT: true; the input reads as it did. -/
def planDecodeSpec : ChangeSpec := { name := "planDecode", fn := fun _ => fun
  | [d1, d2, d3] => { results := [.lit (.bool true)], args := [d1, d2, d3] }
  | _ => none }
def planDecodeRow : OpenClaim := { program := "ythjnbdbbeidhgaadoor", sum := "e7c52d2394f989688211f5defda50cb7bb2d46c0f197a5a5a97460e952fbc7d8", func := "flashcache/flashcachelaw10.PlanDecode", spec := "planDecode", unfollowed := true, recurses := true, named := ["flashcache/crc.table"], apart := false, laid := [("flashcache/crc.table", laid_flashcache_crc_table)] }
def PlanDecodeSaid : Prop := planDecodeRow.holds Tryd.pinned (OpenSpec.ofChange planDecodeSpec)

/-- ITS FALSE NEIGHBOUR: 'it returns false'. Refute it at one input. -/
def planDecodeWrong : ChangeSpec := { name := "planDecode", fn := fun _ => fun
  | [d1, d2, d3] => { results := [.lit (.bool false)], args := [d1, d2, d3] }
  | _ => none }
def PlanDecodeWrongFalsely : Prop := planDecodeRow.holds Tryd.pinned (OpenSpec.ofChange planDecodeWrong)

/-- 'flashcachelaw08.SuperEncode': WHATEVER THE INPUT: true; the input reads as it did. -/
def superEncodeSpec : ChangeSpec := { name := "superEncode", fn := fun _ => fun
  | [d1, d2] => { results := [.lit (.bool true)], args := [d1, d2] }
  | _ => none }
def superEncodeRow : OpenClaim := { program := "ythjnbdbbeidhgaadoor", sum := "e7c52d2394f989688211f5defda50cb7bb2d46c0f197a5a5a97460e952fbc7d8", func := "flashcache/flashcachelaw08.SuperEncode", spec := "superEncode", unfollowed := true, recurses := true, named := ["flashcache/crc.table"], apart := false, laid := [("flashcache/crc.table", laid_flashcache_crc_table)] }
def SuperEncodeSaid : Prop := superEncodeRow.holds Tryd.pinned (OpenSpec.ofChange superEncodeSpec)

/-- ITS FALSE NEIGHBOUR: 'it returns false'. Refute it at one input. -/
def superEncodeWrong : ChangeSpec := { name := "superEncode", fn := fun _ => fun
  | [d1, d2] => { results := [.lit (.bool false)], args := [d1, d2] }
  | _ => none }
def SuperEncodeWrongFalsely : Prop := superEncodeRow.holds Tryd.pinned (OpenSpec.ofChange superEncodeWrong)

/-- 'flashcachelaw08.SuperDecode': WHATEVER THE INPUT: true; the input reads as it did. -/
def superDecodeSpec : ChangeSpec := { name := "superDecode", fn := fun _ => fun
  | [d1, d2, d3] => { results := [.lit (.bool true)], args := [d1, d2, d3] }
  | _ => none }
def superDecodeRow : OpenClaim := { program := "ythjnbdbbeidhgaadoor", sum := "e7c52d2394f989688211f5defda50cb7bb2d46c0f197a5a5a97460e952fbc7d8", func := "flashcache/flashcachelaw08.SuperDecode", spec := "superDecode", unfollowed := true, recurses := true, named := ["flashcache/crc.table"], apart := false, laid := [("flashcache/crc.table", laid_flashcache_crc_table)] }
def SuperDecodeSaid : Prop := superDecodeRow.holds Tryd.pinned (OpenSpec.ofChange superDecodeSpec)

/-- ITS FALSE NEIGHBOUR: 'it returns false'. Refute it at one input. -/
def superDecodeWrong : ChangeSpec := { name := "superDecode", fn := fun _ => fun
  | [d1, d2, d3] => { results := [.lit (.bool false)], args := [d1, d2, d3] }
  | _ => none }
def SuperDecodeWrongFalsely : Prop := superDecodeRow.holds Tryd.pinned (OpenSpec.ofChange superDecodeWrong)

/-- 'flashcachelaw08.SuperApart': WHATEVER THE INPUT: true; the input reads as it did. -/
def superApartSpec : ChangeSpec := { name := "superApart", fn := fun _ => fun
  | [d1, d2, d3] => { results := [.lit (.bool true)], args := [d1, d2, d3] }
  | _ => none }
def superApartRow : OpenClaim := { program := "ythjnbdbbeidhgaadoor", sum := "e7c52d2394f989688211f5defda50cb7bb2d46c0f197a5a5a97460e952fbc7d8", func := "flashcache/flashcachelaw08.SuperApart", spec := "superApart", unfollowed := true, recurses := true, named := ["flashcache/crc.table"], apart := false, laid := [("flashcache/crc.table", laid_flashcache_crc_table)] }
def SuperApartSaid : Prop := superApartRow.holds Tryd.pinned (OpenSpec.ofChange superApartSpec)

/-- ITS FALSE NEIGHBOUR: 'it returns false'. Refute it at one input. -/
def superApartWrong : ChangeSpec := { name := "superApart", fn := fun _ => fun
  | [d1, d2, d3] => { results := [.lit (.bool false)], args := [d1, d2, d3] }
  | _ => none }
def SuperApartWrongFalsely : Prop := superApartRow.holds Tryd.pinned (OpenSpec.ofChange superApartWrong)

/-- 'flashcachelaw08.SuperValid': WHATEVER THE INPUT: true; the input reads as it did. -/
def superValidSpec : ChangeSpec := { name := "superValid", fn := fun _ => fun
  | [d1, d2] => { results := [.lit (.bool true)], args := [d1, d2] }
  | _ => none }
def superValidRow : OpenClaim := { program := "ythjnbdbbeidhgaadoor", sum := "e7c52d2394f989688211f5defda50cb7bb2d46c0f197a5a5a97460e952fbc7d8", func := "flashcache/flashcachelaw08.SuperValid", spec := "superValid", unfollowed := true, recurses := true, named := ["flashcache/crc.table"], apart := false, laid := [("flashcache/crc.table", laid_flashcache_crc_table)] }
def SuperValidSaid : Prop := superValidRow.holds Tryd.pinned (OpenSpec.ofChange superValidSpec)

/-- ITS FALSE NEIGHBOUR: 'it returns false'. Refute it at one input. -/
def superValidWrong : ChangeSpec := { name := "superValid", fn := fun _ => fun
  | [d1, d2] => { results := [.lit (.bool false)], args := [d1, d2] }
  | _ => none }
def SuperValidWrongFalsely : Prop := superValidRow.holds Tryd.pinned (OpenSpec.ofChange superValidWrong)

/- THE SECOND FORM. 'bulk': how many values and letters a reading holds, each counted each time it is reached (what is shared counts as often as it is met; a slice's spare places count too). A statement '..UptoSaid' is the law's where the arguments, and the package variables that the reading takes, are together of bulk at most 1048576: NARROWER than '..Said'. Prove '..Said' where nothing that the law and all that it calls make is longer than what came in: it says more and counts as full. Else prove '..UptoSaid'. A law counts once. -/
mutual
def uptoBulk {H : Type} : DataW H → Nat
  | .lit (.string bytes) => bytes.length + 1
  | .lit _ => 1
  | .nil => 1
  | .ptr d => uptoBulk d + 1
  | .slice elems spare => uptoBulkAll elems + uptoBulkAll spare + 1
  | .agg parts => uptoBulkAll parts + 1
  | .iface _ d => uptoBulk d + 1
  | .map entries => uptoBulkEntries entries + 1
  | .held _ => 1
def uptoBulkAll {H : Type} : List (DataW H) → Nat
  | [] => 0
  | d :: r => uptoBulk d + uptoBulkAll r
def uptoBulkEntries {H : Type} : List (Lit × DataW H) → Nat
  | [] => 0
  | x :: r => uptoBulkEntry x + uptoBulkEntries r
def uptoBulkEntry {H : Type} : Lit × DataW H → Nat
  | (.string bytes, d) => bytes.length + uptoBulk d + 1
  | (_, d) => uptoBulk d + 1
 end
def uptoSmall : (H : Type) → List (DataW H) → Bool := fun _ ds => decide (uptoBulkAll ds ≤ 1048576)
def OpenSpec.upto (s : _root_.Go.ChangeSpec) : _root_.Go.OpenSpec := { _root_.Go.OpenSpec.ofChange s with cond := some uptoSmall }

/-- 'flashcachelaw10.PlanEncode', WHERE WHAT IT READS IS OF BULK AT MOST 1048576: true; the input reads as it did. -/
def planEncodeUptoRow : OpenClaim := { program := "ythjnbdbbeidhgaadoor", sum := "e7c52d2394f989688211f5defda50cb7bb2d46c0f197a5a5a97460e952fbc7d8", func := "flashcache/flashcachelaw10.PlanEncode", spec := "planEncode", unfollowed := true, recurses := true, named := ["flashcache/crc.table"], apart := false, laid := [("flashcache/crc.table", laid_flashcache_crc_table)], narrowed := true }
def PlanEncodeUptoSaid : Prop := planEncodeUptoRow.holds Tryd.pinned (OpenSpec.upto planEncodeSpec)

/-- 'flashcachelaw10.PlanDecode', WHERE WHAT IT READS IS OF BULK AT MOST 1048576: true; the input reads as it did. -/
def planDecodeUptoRow : OpenClaim := { program := "ythjnbdbbeidhgaadoor", sum := "e7c52d2394f989688211f5defda50cb7bb2d46c0f197a5a5a97460e952fbc7d8", func := "flashcache/flashcachelaw10.PlanDecode", spec := "planDecode", unfollowed := true, recurses := true, named := ["flashcache/crc.table"], apart := false, laid := [("flashcache/crc.table", laid_flashcache_crc_table)], narrowed := true }
def PlanDecodeUptoSaid : Prop := planDecodeUptoRow.holds Tryd.pinned (OpenSpec.upto planDecodeSpec)

/-- 'flashcachelaw08.SuperEncode', WHERE WHAT IT READS IS OF BULK AT MOST 1048576: true; the input reads as it did. -/
def superEncodeUptoRow : OpenClaim := { program := "ythjnbdbbeidhgaadoor", sum := "e7c52d2394f989688211f5defda50cb7bb2d46c0f197a5a5a97460e952fbc7d8", func := "flashcache/flashcachelaw08.SuperEncode", spec := "superEncode", unfollowed := true, recurses := true, named := ["flashcache/crc.table"], apart := false, laid := [("flashcache/crc.table", laid_flashcache_crc_table)], narrowed := true }
def SuperEncodeUptoSaid : Prop := superEncodeUptoRow.holds Tryd.pinned (OpenSpec.upto superEncodeSpec)

/-- 'flashcachelaw08.SuperDecode', WHERE WHAT IT READS IS OF BULK AT MOST 1048576: true; the input reads as it did. -/
def superDecodeUptoRow : OpenClaim := { program := "ythjnbdbbeidhgaadoor", sum := "e7c52d2394f989688211f5defda50cb7bb2d46c0f197a5a5a97460e952fbc7d8", func := "flashcache/flashcachelaw08.SuperDecode", spec := "superDecode", unfollowed := true, recurses := true, named := ["flashcache/crc.table"], apart := false, laid := [("flashcache/crc.table", laid_flashcache_crc_table)], narrowed := true }
def SuperDecodeUptoSaid : Prop := superDecodeUptoRow.holds Tryd.pinned (OpenSpec.upto superDecodeSpec)

/-- 'flashcachelaw08.SuperApart', WHERE WHAT IT READS IS OF BULK AT MOST 1048576: true; the input reads as it did. -/
def superApartUptoRow : OpenClaim := { program := "ythjnbdbbeidhgaadoor", sum := "e7c52d2394f989688211f5defda50cb7bb2d46c0f197a5a5a97460e952fbc7d8", func := "flashcache/flashcachelaw08.SuperApart", spec := "superApart", unfollowed := true, recurses := true, named := ["flashcache/crc.table"], apart := false, laid := [("flashcache/crc.table", laid_flashcache_crc_table)], narrowed := true }
def SuperApartUptoSaid : Prop := superApartUptoRow.holds Tryd.pinned (OpenSpec.upto superApartSpec)

/-- 'flashcachelaw08.SuperValid', WHERE WHAT IT READS IS OF BULK AT MOST 1048576: true; the input reads as it did. -/
def superValidUptoRow : OpenClaim := { program := "ythjnbdbbeidhgaadoor", sum := "e7c52d2394f989688211f5defda50cb7bb2d46c0f197a5a5a97460e952fbc7d8", func := "flashcache/flashcachelaw08.SuperValid", spec := "superValid", unfollowed := true, recurses := true, named := ["flashcache/crc.table"], apart := false, laid := [("flashcache/crc.table", laid_flashcache_crc_table)], narrowed := true }
def SuperValidUptoSaid : Prop := superValidUptoRow.holds Tryd.pinned (OpenSpec.upto superValidSpec)

end Rows
end Go.Proofs.YthjnbdbbeidhgaaDoor
