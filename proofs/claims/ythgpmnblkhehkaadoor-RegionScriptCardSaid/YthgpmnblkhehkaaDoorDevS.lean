/- The device: what it computes (no program in sight). -/
import Derived.Test.YthgpmnblkhehkaaDoorVec
import Derived.Maps.OwnSet
namespace Go.Proofs.YthgpmnblkhehkaaDoor
open Go.RowKit

/-- A device's state: the contents, the dirty sectors in the order of their first writes, the count of writes, the fuse (-1: none), whether it is dead. -/
structure DS where
  img : List UInt8
  ds : List Nat
  wr : Nat
  fu : Int
  dead : Bool
/-- The fuse burns. -/
def burnS (s : DS) : DS := if s.fu = 0 then { s with dead := true } else if 0 < s.fu then { s with fu := s.fu - 1 } else s
/-- The contents of a sector, written. -/
def pad64 (b : List UInt8) : List UInt8 := b ++ List.replicate (64 - b.length) 0
def putS (img : List UInt8) (i : Nat) (b : List UInt8) : List UInt8 := img.take (i * 64) ++ pad64 b ++ img.drop (i * 64 + 64)
def dirtS (ds : List Nat) (i : Nat) : List Nat := if i ∈ ds then ds else ds ++ [i]
/-- Write: the error and the state. -/
def writeS (S : Nat) (s : DS) (i : Int) (b : List UInt8) : Int × DS :=
  if s.dead = true then (1, s)
  else if i < 0 ∨ (S : Int) ≤ i then (2, s)
  else if 64 < b.length then (3, s)
  else if (burnS s).dead = true then (1, burnS s)
  else (0, { burnS s with img := putS s.img i.toNat b, ds := dirtS s.ds i.toNat, wr := s.wr + 1 })
def barrierS (s : DS) : Int × DS :=
  if s.dead = true then (1, s) else if (burnS s).dead = true then (1, burnS s) else (0, { burnS s with ds := [] })
/-- What a device's state keeps. -/
structure DS.ok (S : Nat) (s : DS) : Prop where
  len : s.img.length = S * 64
  nd : s.ds.Nodup
  lt : ∀ i ∈ s.ds, i < S
  fu : -1 ≤ s.fu ∧ s.fu ≤ 9223372036854775807
theorem pad64_len {b : List UInt8} (h : b.length ≤ 64) : (pad64 b).length = 64 := by simp [pad64]; omega
theorem putS_len {S i : Nat} {img b : List UInt8} (h : img.length = S * 64) (hi : i < S) (hb : b.length ≤ 64) : (putS img i b).length = S * 64 := by
  simp only [putS, List.length_append, List.length_take, List.length_drop, pad64_len hb, h]
  omega
theorem burnS_cases (s : DS) : (s.fu = 0 ∧ burnS s = { s with dead := true }) ∨ (0 < s.fu ∧ burnS s = { s with fu := s.fu - 1 }) ∨ (s.fu < 0 ∧ burnS s = s) := by
  by_cases h : s.fu = 0
  · exact .inl ⟨h, by rw [burnS, if_pos h]⟩
  · by_cases h2 : 0 < s.fu
    · exact .inr (.inl ⟨h2, by rw [burnS, if_neg h, if_pos h2]⟩)
    · exact .inr (.inr ⟨by omega, by rw [burnS, if_neg h, if_neg h2]⟩)
theorem DS.ok.burn {S : Nat} {s : DS} (h : s.ok S) : (burnS s).ok S := by
  have hf := h.fu
  rcases burnS_cases s with ⟨_, e⟩ | ⟨h1, e⟩ | ⟨_, e⟩
  · rw [e]; exact ⟨h.len, h.nd, h.lt, h.fu⟩
  · rw [e]; exact ⟨h.len, h.nd, h.lt, by show -1 ≤ s.fu - 1 ∧ s.fu - 1 ≤ _; omega⟩
  · rw [e]; exact h
theorem burnS_img (s : DS) : (burnS s).img = s.img ∧ (burnS s).ds = s.ds ∧ (burnS s).wr = s.wr := by
  rcases burnS_cases s with ⟨_, e⟩ | ⟨h1, e⟩ | ⟨_, e⟩ <;> rw [e] <;> exact ⟨rfl, rfl, rfl⟩
theorem dirtS_ok {S i : Nat} {ds : List Nat} (hi : i < S) (hn : ds.Nodup) (hl : ∀ j ∈ ds, j < S) : (dirtS ds i).Nodup ∧ ∀ j ∈ dirtS ds i, j < S := by
  unfold dirtS
  split
  · exact ⟨hn, hl⟩
  · rename_i h
    refine ⟨List.nodup_append.2 ⟨hn, by simp, fun a ha b hb e => ?_⟩, fun j hj => ?_⟩
    · rw [List.mem_singleton.1 hb] at e; exact h (e ▸ ha)
    · rcases List.mem_append.1 hj with h1 | h1
      · exact hl j h1
      · rw [List.mem_singleton.1 h1]; exact hi
theorem DS.ok.write {S : Nat} {s : DS} (h : s.ok S) (i : Int) (b : List UInt8) : (writeS S s i b).2.ok S := by
  unfold writeS
  split
  · exact h
  · split
    · exact h
    · split
      · exact h
      · split
        · exact h.burn
        · rename_i h1 h2 h3 h4
          have hi : i.toNat < S := by omega
          obtain ⟨q1, q2⟩ := dirtS_ok hi h.nd h.lt
          exact ⟨putS_len h.len hi (by omega), q1, q2, h.burn.fu⟩
theorem DS.ok.barrier {S : Nat} {s : DS} (h : s.ok S) : (barrierS s).2.ok S := by
  unfold barrierS
  split
  · exact h
  · split
    · exact h.burn
    · exact ⟨h.burn.len, List.nodup_nil, (fun j hj => by cases hj), h.burn.fu⟩
/-- The flags of the dirty sectors. -/
def flags (S : Nat) (ds : List Nat) : List Bool := (List.range S).map fun j => decide (j ∈ ds)
theorem flags_at {S : Nat} {ds : List Nat} {j : Nat} (hj : j < S) : (flags S ds)[j]? = some (decide (j ∈ ds)) := by simp [flags, hj]
theorem flags_len (S : Nat) (ds : List Nat) : (flags S ds).length = S := by simp [flags]
theorem flags_count : ∀ {S : Nat} {ds : List Nat}, ds.Nodup → (∀ i ∈ ds, i < S) → ((flags S ds).filter id).length = ds.length := by
  intro S ds hn hl
  have h1 : ((flags S ds).filter id).length = ((List.range S).filter fun j => decide (j ∈ ds)).length := by
    simp [flags, List.filter_map, Function.comp_def]
  rw [h1]
  have hp : ((List.range S).filter fun j => decide (j ∈ ds)).Perm ds := by
    refine (List.perm_ext_iff_of_nodup (List.Pairwise.filter _ List.nodup_range) hn).2 fun a => ?_
    simp only [List.mem_filter, List.mem_range, decide_eq_true_eq]
    exact ⟨fun h => h.2, fun h => ⟨hl a h, h⟩⟩
  exact hp.length_eq
end Go.Proofs.YthgpmnblkhehkaaDoor
