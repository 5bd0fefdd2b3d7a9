/- A constant's bytes, marked as such: in a region that draws, behind another new block. -/
import Derived.Lib.SlBytesConst
import Derived.Deep.OwnRows
import Derived.Test.YtmhkhjcpicihmaaDoorApp
import Derived.Test.YtmhkhjcpicihmaaDoorMem
namespace Go.Proofs.YtmhkhjcpicihmaaDoor
open Go.RowKit
variable {P : Program}

theorem convert_drew (w : World) (t e : TypeId) (C : Array Value) (n c : Nat) (ht : P.underlying t = some (.slice e)) (he : P.underlying e = some (.int .u8)) :
    (convert t t (.slice (some ⟨w.heap.size, 0, none⟩) n c)).run P (w.alloc (.cells C e)).drew = .ok (.slice (some ⟨w.heap.size, 0, none⟩) n c) (w.alloc (.cells C e (C.size, C.size + 1))).drew :=
  Lib.run_convert_bytes_const (P := P) w.drew t e C n c ht he

theorem convert_past (w : World) (t e : TypeId) (C : Array Value) (o : Obj) (n c : Nat) (ht : P.underlying t = some (.slice e)) (he : P.underlying e = some (.int .u8)) :
    (convert t t (.slice (some ⟨w.heap.size, 0, none⟩) n c)).run P ((w.alloc (.cells C e)).alloc o) = .ok (.slice (some ⟨w.heap.size, 0, none⟩) n c) ((w.alloc (.cells C e (C.size, C.size + 1))).alloc o) := by
  have hsh : ((w.alloc (.cells C e)).alloc o).shape? w.heap.size = some (e, C.size) := by
    have : ((w.alloc (.cells C e)).alloc o).heap[w.heap.size]? = some (.cells C e) := by
      show ((w.heap.push (.cells C e)).push o)[w.heap.size]? = _
      rw [Array.getElem?_push, if_neg (by simp)]
      simp
    unfold World.shape?
    rw [this]
  have hfr : ∀ (k : Nat), ((w.alloc (.cells C e)).alloc o).freeze ⟨w.heap.size, k, none⟩ 1 = (w.alloc (.cells C e (k, k + 1))).alloc o := fun k => by
    have hm : ∀ (a : Array Obj) (x y : Obj) (f : Obj → Obj), ((a.push x).push y).modify a.size f = (a.push (f x)).push y := by
      intro a x y f
      apply Array.ext
      · simp
      · intro i h1 h2
        simp only [Array.getElem_modify, Array.getElem_push, Array.size_push]
        simp at h1
        by_cases h : a.size = i
        · subst h
          simp
        · by_cases h3 : i < a.size
          · simp [h, h3, Nat.lt_succ_of_lt h3]
          · have : ¬ i < a.size + 1 := by omega
            simp [h, this]
    unfold World.freeze
    rw [if_neg (by decide)]
    show ({ (w.alloc (.cells C e)).alloc o with heap := ((w.heap.push (.cells C e)).push o).modify w.heap.size _ } : World) = _
    rw [hm]
    rfl
  simp [convert, run_underlying ht, run_underlying he, markStringish, hsh]
  exact hfr _
theorem convert_past_drew (w : World) (t e : TypeId) (C : Array Value) (o : Obj) (n c : Nat) (ht : P.underlying t = some (.slice e)) (he : P.underlying e = some (.int .u8)) :
    (convert t t (.slice (some ⟨w.heap.size, 0, none⟩) n c)).run P ((w.alloc (.cells C e)).alloc o).drew = .ok (.slice (some ⟨w.heap.size, 0, none⟩) n c) ((w.alloc (.cells C e (C.size, C.size + 1))).alloc o).drew :=
  convert_past (P := P) w.drew t e C o n c ht he
theorem convert_drew1 (w : World) (b : Obj) (t e : TypeId) (C : Array Value) (n c : Nat) (ht : P.underlying t = some (.slice e)) (he : P.underlying e = some (.int .u8)) :
    (convert t t (.slice (some ⟨w.heap.size + 1, 0, none⟩) n c)).run P ((w.alloc b).alloc (.cells C e)).drew = .ok (.slice (some ⟨w.heap.size + 1, 0, none⟩) n c) ((w.alloc b).alloc (.cells C e (C.size, C.size + 1))).drew := by
  have := convert_drew (P := P) (w.alloc b) t e C n c ht he
  rwa [World.size_alloc] at this
theorem convert_drew2 (w : World) (b b' : Obj) (t e : TypeId) (C : Array Value) (n c : Nat) (ht : P.underlying t = some (.slice e)) (he : P.underlying e = some (.int .u8)) :
    (convert t t (.slice (some ⟨w.heap.size + 1 + 1, 0, none⟩) n c)).run P (((w.alloc b).alloc b').alloc (.cells C e)).drew = .ok (.slice (some ⟨w.heap.size + 1 + 1, 0, none⟩) n c) (((w.alloc b).alloc b').alloc (.cells C e (C.size, C.size + 1))).drew := by
  have := convert_drew (P := P) ((w.alloc b).alloc b') t e C n c ht he
  rwa [World.size_alloc, World.size_alloc] at this
theorem convert_past_drew1 (w : World) (b : Obj) (t e : TypeId) (C : Array Value) (o : Obj) (n c : Nat) (ht : P.underlying t = some (.slice e)) (he : P.underlying e = some (.int .u8)) :
    (convert t t (.slice (some ⟨w.heap.size + 1, 0, none⟩) n c)).run P (((w.alloc b).alloc (.cells C e)).alloc o).drew = .ok (.slice (some ⟨w.heap.size + 1, 0, none⟩) n c) (((w.alloc b).alloc (.cells C e (C.size, C.size + 1))).alloc o).drew := by
  have := convert_past_drew (P := P) (w.alloc b) t e C o n c ht he
  rwa [World.size_alloc] at this
theorem make_some {t e : TypeId} (hu : U8s P t e) (n : Nat) (hn : n ≤ 1000000) : ∃ Z : Obj, ∀ w : World, (Instr.makeSlice t (.int .i64 (n : Int)) (.int .i64 (n : Int))).run P w = .ok (.slice (some ⟨w.heap.size, 0, none⟩) n n) (w.alloc Z) :=
  ⟨_, fun w => run_make_row' t e (.int .u8 0) 1 hu.ht hu.info rfl .i64 .i64 n (by omega) (by omega) w⟩
end Go.Proofs.YtmhkhjcpicihmaaDoor
