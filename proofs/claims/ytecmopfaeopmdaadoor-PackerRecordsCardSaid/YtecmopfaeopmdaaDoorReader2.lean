/- The reader: Num, Bytes, Zeros. -/
import Derived.Test.YtecmopfaeopmdaaDoorReader
namespace Go.Proofs.YtecmopfaeopmdaaDoor
open Go.RowKit

theorem or_low (s b : Nat) (hs : s < 72057594037927936) (hb : b < 256) : bits .or .u64 ((s : Int) * 256) (b : Int) = ((s * 256 + b : Nat) : Int) := by
  have h := u64_or_nat (s * 256) b (by omega) (by omega)
  rw [nat_join 8 (s * 256) b (by omega) (by omega)] at h
  rw [← h]; congr 1

/-- What a read of a number leaves: n was read, bs is left. -/
def NumRes (w : World) (g n : Nat) (bs : List UInt8) (bad : Bool) (e : Ending) (w' : World) : Prop :=
  e = .returned (.int .u64 (n : Int)) ∧ Rdr w' g bs bad ∧ w.grownBy w' (some g) ∧ w'.heap.size = w.heap.size




/-- What a read of bytes leaves. -/
def BytesRes (w : World) (g : Nat) (out bs : List UInt8) (bad : Bool) (e : Ending) (w' : World) : Prop :=
  ∃ A' c', e = .returned (.slice A' out.length c') ∧ Own w' w.heap.size 5 (.slice A' out.length c') out.length out ∧ Rdr w' g bs bad ∧ w.grownBy w' (some g)







end Go.Proofs.YtecmopfaeopmdaaDoor
