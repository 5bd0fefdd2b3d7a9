/- The packer: Awake; PackerNone. -/
import Derived.Test.YthgpmnblkhehkaaDoorPackTake
import Derived.Lib.SlBytesConst
namespace Go.Proofs.YthgpmnblkhehkaaDoor
open Go.RowKit

/-- What Put returns, by the cases. -/
theorem pput_bad {p : Nat} {a b c d f s tk cp : Int} {A : Option Addr} {n cap : Nat} {bs : List UInt8} {r : List UInt8 × Int} {w w' : World} {e : Ending} (hz : ¬ r.2 = 0) (h : PPut p a b c d f s tk cp A n cap bs r w e w') : e = .returned (.tuple #[.int .i64 0, .int .i64 0, .int .i64 r.2]) ∧ Below w.heap.size w w' := by
  rcases h with ⟨_, h1, h2⟩ | ⟨h1, _⟩ | ⟨h1, _⟩
  · exact ⟨h1, h2⟩
  · exact absurd h1 hz
  · exact absurd h1 hz
theorem pput_full {p : Nat} {a b c d f s tk cp : Int} {A : Option Addr} {n cap : Nat} {bs : List UInt8} {r : List UInt8 × Int} {w w' : World} {e : Ending} (hz : r.2 = 0) (hf : cp - n < r.1.length) (h : PPut p a b c d f s tk cp A n cap bs r w e w') : e = .returned (.tuple #[.int .i64 0, .int .i64 0, .int .i64 8]) ∧ Below w.heap.size w w' := by
  rcases h with ⟨h1, _⟩ | ⟨_, _, h1, h2⟩ | ⟨_, h1, _⟩
  · exact absurd hz h1
  · exact ⟨h1, h2⟩
  · exact absurd hf h1
theorem pput_good {p : Nat} {a b c d f s tk cp : Int} {A : Option Addr} {n cap : Nat} {bs : List UInt8} {r : List UInt8 × Int} {w w' : World} {e : Ending} (hz : r.2 = 0) (hf : ¬ cp - n < r.1.length) (h : PPut p a b c d f s tk cp A n cap bs r w e w') : e = .returned (.tuple #[.int .i64 (n : Int), .int .i64 (r.1.length : Int), .int .i64 0]) ∧ ∃ A' cap', Pk w' p a b c d f s A' (n + r.1.length) cap' tk (bs ++ r.1) ∧ Far w w' p (Value.slice A n cap).ownBlock ∧ Born w (Value.slice A n cap).ownBlock (Value.slice A' (n + r.1.length) cap').ownBlock := by
  rcases h with ⟨h1, _⟩ | ⟨_, h1, _⟩ | ⟨_, _, h1, h2⟩
  · exact absurd hz h1
  · exact absurd h1 hf
  · exact ⟨h1, h2⟩
theorem Pk.lt {w : World} {p : Nat} {a b c d f s tk : Int} {A : Option Addr} {n cap : Nat} {bs : List UInt8} (h : Pk w p a b c d f s A n cap tk bs) : p < w.heap.size := h.cells.lt
/-- A call that may change the packer alone, and its stream. -/
theorem Far.low {w0 w w' : World} {p : Nat} {a b c d f s tk : Int} {A : Option Addr} {n cap : Nat} {bs : List UInt8} (hb : Below w0.heap.size w0 w) (hp : w0.heap.size ≤ p) (h : Pk w p a b c d f s A n cap tk bs) (hf : Far w w' p (Value.slice A n cap).ownBlock) : Below w0.heap.size w0 w' :=
  hb.trans (hf.below hp (fun k e => by have := h.own.ge e; omega) hb.size)
theorem Far.low_none {w0 w w' : World} {p : Nat} (hb : Below w0.heap.size w0 w) (hp : w0.heap.size ≤ p) (hf : Far w w' p none) : Below w0.heap.size w0 w' :=
  hb.trans (hf.below hp (fun k e => by cases e) hb.size)

theorem i64_ok {a : Int} (h1 : -9223372036854775808 ≤ a) (h2 : a ≤ 9223372036854775807) : I64 a := ⟨h1, h2⟩
theorem Vec.int0 {w : World} {base : Nat} {e : TypeId} {A : Option Addr} {n c : Nat} {x : Value} {xs : List Value} (h : Vec w base e (.slice A n c) n (x :: xs)) : ∃ g, A = some ⟨g, 0, none⟩ ∧ w.cell? ⟨g, 0, none⟩ = some x := by
  have hn : 0 < n := by have := h.len; simp at this; omega
  obtain ⟨g, cap, hv, _, hlt⟩ := World.ownsRow.form h hn
  have hA : A = some ⟨g, 0, none⟩ := by injection hv
  subst hA
  exact ⟨g, rfl, World.ownsRow.cells h (g := g) rfl 0 x rfl⟩


end Go.Proofs.YthgpmnblkhehkaaDoor
