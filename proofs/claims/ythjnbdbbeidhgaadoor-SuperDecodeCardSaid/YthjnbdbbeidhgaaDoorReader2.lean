/- The reader: Num, Bytes, Zeros. -/
import Derived.Test.YthjnbdbbeidhgaaDoorReader
namespace Go.Proofs.YthjnbdbbeidhgaaDoor
open Go.RowKit

theorem or_low (s b : Nat) (hs : s < 72057594037927936) (hb : b < 256) : bits .or .u64 ((s : Int) * 256) (b : Int) = ((s * 256 + b : Nat) : Int) := by
  have h := u64_or_nat (s * 256) b (by omega) (by omega)
  rw [nat_join 8 (s * 256) b (by omega) (by omega)] at h
  rw [← h]; congr 1

/-- What a read of a number leaves: n was read, bs is left. -/
def NumRes (w : World) (g n : Nat) (bs : List UInt8) (bad : Bool) (e : Ending) (w' : World) : Prop :=
  e = .returned (.int .u64 (n : Int)) ∧ Rdr w' g bs bad ∧ w.grownBy w' (some g) ∧ w'.heap.size = w.heap.size

set_option maxHeartbeats 1000000 in
theorem num_ok (g m : Nat) (bs : List UInt8) (w : World) (hr : Rdr w g bs false) (hm : m ≤ bs.length) (h1 : 1 ≤ m) (h8 : m ≤ 8) :
    Calls Tryd.prog 38 #[.pointer (some ⟨g, 0, none⟩), .int .i64 (m : Int)] w (NumRes w g (num (bs.take m)) (bs.drop m) false) := by
  have T := Lib.hid (take_ok g m bs w hr hm)
  have HM := Lib.hid hm
  clear hr hm
  go_enter Tryd.func38, Tryd.ntmps38
  go_wp2_with (go_at_call 59; refine T.out.mono ?_; rintro e w1 ⟨A, c, rfl, hb, hrd, hgr, hsz⟩; have HB := Lib.hid hb; have HR := Lib.hid hrd; have HG := Lib.hid hgr; have HS := Lib.hid hsz; clear hb hrd hgr hsz)
  go_loop [5, 18] (fun c i => ∃ k : Nat, k ≤ m ∧ i = .int .i64 k ∧ c = .int .u64 (num ((bs.take m).take k) : Nat)) (fun _ i => m - (intOf i).toNat)
  case atStart => exact ⟨0, Nat.zero_le _, rfl, rfl⟩
  case round =>
    obtain ⟨k, hk, rfl, rfl⟩ := hrel
    have hs1 : num ((bs.take m).take k) < 256 ^ k := by
      have := num_lt ((bs.take m).take k)
      rwa [List.length_take, HB.out.len, Nat.min_eq_left hk] at this
    obtain ⟨s, hs⟩ : ∃ s, num ((bs.take m).take k) = s := ⟨_, rfl⟩
    rw [hs] at hs1 ⊢
    have HN := Lib.hid hs
    clear hs
    by_cases hlt : k < m
    · have h7 : s < 72057594037927936 := by
        have : 256 ^ k ≤ 256 ^ 7 := Nat.pow_le_pow_right (by decide) (by omega)
        have h3 : (256 : Nat) ^ 7 = 72057594037927936 := by decide
        omega
      obtain ⟨ad, b, rfl, hadB, hbk, hcell⟩ := HB.out.get hlt
      have hb256 := b.toNat_lt
      have hor := or_low s b.toNat h7 hb256
      have Hbk := Lib.hid hbk
      clear hbk hs1
      go_wp2
      go_round
      case rel => exact ⟨k + 1, by omega, by go_num, by
        have h1 := Hbk.out
        have hkl : k < (bs.take m).length := by rw [HB.out.len]; exact hlt
        rw [num_take _ _ hkl, HN.out]
        rw [List.getElem?_eq_getElem hkl] at h1
        injection h1 with h1
        rw [h1]; go_num⟩
      case measure => simp [intOf]; omega
    · have hkm : k = m := by omega
      subst hkm
      have HF : Hid (num (bs.take k) = s) := by
        have := HN.out
        rwa [List.take_take, Nat.min_self] at this
      clear hs1
      go_wp2
      go_ret
      exact ⟨by rw [HF.out]; rfl, HR.out, HG.out, HS.out⟩

set_option maxHeartbeats 1000000 in
theorem num_bad (g : Nat) (m : Int) (bs : List UInt8) (bad : Bool) (w : World) (hr : Rdr w g bs bad) (hm : bad = true ∨ m < 1 ∨ 8 < m ∨ (bs.length : Int) < m) :
    Calls Tryd.prog 38 #[.pointer (some ⟨g, 0, none⟩), .int .i64 m] w (NumRes w g 0 bs true) := by
  by_cases hw : 1 ≤ m ∧ m ≤ 8
  · have T := Lib.hid (take_bad g m bs bad w hr (by rcases hm with h | h | h | h <;> first | exact .inl h | (exact .inr (.inr h)) | omega))
    obtain ⟨q1, q2⟩ := hw
    clear hm hr
    go_enter Tryd.func38, Tryd.ntmps38
    go_wp2_with (go_at_call 59; refine T.out.mono ?_; rintro e w1 ⟨rfl, hrd, hgr, hsz⟩; have HR := Lib.hid hrd; have HG := Lib.hid hgr; have HS := Lib.hid hsz; clear hrd hgr hsz)
    go_loop [5, 18] (fun c i => c = .int .u64 0 ∧ i = .int .i64 0) (fun _ _ => 0)
    case atStart => exact ⟨rfl, rfl⟩
    case round =>
      obtain ⟨rfl, rfl⟩ := hrel
      go_wp2
      go_ret
      exact ⟨rfl, HR.out, HG.out, HS.out⟩
  · have T := Lib.hid (take_bad g (-1) bs bad w hr (.inr (.inl (by decide))))
    have hw' : m < 1 ∨ 8 < m := by omega
    clear hm hr hw
    rcases hw' with h | h
    all_goals
      go_enter Tryd.func38, Tryd.ntmps38
      go_wp2_with (go_at_call 59; refine T.out.mono ?_; rintro e w1 ⟨rfl, hrd, hgr, hsz⟩; have HR := Lib.hid hrd; have HG := Lib.hid hgr; have HS := Lib.hid hsz; clear hrd hgr hsz)
      go_loop [5, 18] (fun c i => c = .int .u64 0 ∧ i = .int .i64 0) (fun _ _ => 0)
      case atStart => exact ⟨rfl, rfl⟩
      case round =>
        obtain ⟨rfl, rfl⟩ := hrel
        go_wp2
        go_ret
        exact ⟨rfl, HR.out, HG.out, HS.out⟩

set_option maxHeartbeats 1000000 in
theorem num_nil (w : World) :
    Calls Tryd.prog 38 #[.pointer none, .int .i64 1] w fun e w' => e = .returned (.int .u64 0) ∧ w = w' := by
  go_enter Tryd.func38, Tryd.ntmps38
  go_wp2_with (go_at_call 59; refine (take_nil _ _).mono ?_; rintro e w1 ⟨rfl, rfl⟩)
  go_loop [5, 18] (fun c i => c = .int .u64 0 ∧ i = .int .i64 0) (fun _ _ => 0)
  case atStart => exact ⟨rfl, rfl⟩
  case round =>
    obtain ⟨rfl, rfl⟩ := hrel
    go_wp2
    go_ret
    exact ⟨rfl, rfl⟩

/-- What a read of bytes leaves. -/
def BytesRes (w : World) (g : Nat) (out bs : List UInt8) (bad : Bool) (e : Ending) (w' : World) : Prop :=
  ∃ A' c', e = .returned (.slice A' out.length c') ∧ Own w' w.heap.size 5 (.slice A' out.length c') out.length out ∧ Rdr w' g bs bad ∧ w.grownBy w' (some g)







end Go.Proofs.YthjnbdbbeidhgaaDoor
