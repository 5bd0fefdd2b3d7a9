/- The walk of the reference's Decode of superblocks (tools/mksuprdec.py). -/
import Derived.Test.YthjnbdbbeidhgaaDoorSupDec
import Derived.Test.YthjnbdbbeidhgaaDoorSupREnc
import Derived.Test.YthjnbdbbeidhgaaDoorSupRefVal
import Derived.Test.YthjnbdbbeidhgaaDoorPlanRef
import Derived.Test.YthjnbdbbeidhgaaDoorFrameLaw
import Derived.Test.YthjnbdbbeidhgaaDoorWide
import Derived.Deep.DeepCutAuto
import Derived.Deep.RegionHeld3
import Derived.Deep.RegionLaw
namespace Go.Proofs.YthjnbdbbeidhgaaDoor
open Go.RowKit Go.Sort

theorem EB.below {u u' : World} {b g c : Nat} (h : EB u b g c) (hb : Below u.heap.size u u') : EB u' b g c := ⟨h.cells.below hb h.lt, h.soft.same (hb.block b h.lt), Nat.lt_of_lt_of_le h.lt hb.size, h.gt, h.cgt⟩
theorem lyRdR_ok (q : List UInt8) : (lyRdR q).ok := by
  have h1 : num ((q.drop 0).take 4) < 281474976710656 := take_lt (by decide)
  have h2 : num ((q.drop 4).take 1) < 256 := take_lt1
  have h4 : num ((q.drop 6).take 1) < 256 := take_lt1
  refine ⟨?_, ?_, ?_, ?_⟩
  · show I64 (num ((q.drop 0).take 4) : Int)
    unfold I64; omega
  · show I64 (num ((q.drop 4).take 1) : Int)
    unfold I64; omega
  · show I64 (lrsR _ _ _ _)
    unfold lrsR I64
    split
    · omega
    · have hb : 2 ^ min (num ((q.drop 5).take 1)) 12 ≤ 2 ^ 12 := Nat.pow_le_pow_right (by decide) (by omega)
      simp only [Nat.reducePow] at hb
      generalize 2 ^ min (num ((q.drop 5).take 1)) 12 = z at hb ⊢
      omega
  · show I64 (num ((q.drop 6).take 1) : Int)
    unfold I64; omega
/-- What the reference's Decode leaves. -/
def SDecResR (r : Option Su) (w : World) (e : Ending) (w' : World) : Prop :=
  ∃ A k c, e = .returned (.tuple #[sagg (r.getD szero) A k c, .bool r.isSome]) ∧ LAt w' w'.heap.size A k (r.getD szero).fs ∧ k ≤ c ∧ c ≤ 9223372036854775807 ∧ Below w.heap.size w w' ∧ (∀ ad, A = some ad → w.heap.size ≤ ad.block)
end Go.Proofs.YthjnbdbbeidhgaaDoor
