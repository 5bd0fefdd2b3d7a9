/- The reader: Num, Bytes, Zeros. -/
import Derived.Test.YtmbelomekihdkaaReader
namespace Go.Proofs.Ytmbelomekihdkaa
open Go.RowKit

theorem or_low (s b : Nat) (hs : s < 72057594037927936) (hb : b < 256) : bits .or .u64 ((s : Int) * 256) (b : Int) = ((s * 256 + b : Nat) : Int) := by
  have h := u64_or_nat (s * 256) b (by omega) (by omega)
  rw [nat_join 8 (s * 256) b (by omega) (by omega)] at h
  rw [← h]; congr 1

/-- What a read of a number leaves: n was read, bs is left. -/
def NumRes (w : World) (g n : Nat) (bs : List UInt8) (bad : Bool) (e : Ending) (w' : World) : Prop :=
  e = .returned (.int .u64 (n : Int)) ∧ Rdr w' g bs bad ∧ w.grownBy w' (some g) ∧ w'.heap.size = w.heap.size

set_option maxHeartbeats 1000000 in
theorem num_ok (g m : Nat) (bs : List UInt8) (w : World) (hr : Rdr w g bs false) (hm : m ≤ bs.length) (h1 : 1 ≤ m) (h8 : m ≤ 8) :
    Calls Try.prog 23 #[.pointer (some ⟨g, 0, none⟩), .int .i64 (m : Int)] w (NumRes w g (num (bs.take m)) (bs.drop m) false) := by
  have T := Lib.hid (take_ok g m bs w hr hm)
  have HM := Lib.hid hm
  clear hr hm
  go_enter Try.func23, Try.ntmps23
  go_wp2_with (go_at_call 34; refine T.out.mono ?_; rintro e w1 ⟨A, c, rfl, hb, hrd, hgr, hsz⟩; have HB := Lib.hid hb; have HR := Lib.hid hrd; have HG := Lib.hid hgr; have HS := Lib.hid hsz; clear hb hrd hgr hsz)
  go_loop [5, 18] (fun c i => ∃ k : Nat, k ≤ m ∧ i = .int .i64 k ∧ c = .int .u64 (num ((bs.take m).take k) : Nat)) (fun _ i => m - (intOf i).toNat)
  case atStart => exact ⟨0, Nat.zero_le _, rfl, rfl⟩
  case round =>
    obtain ⟨k, hk, rfl, rfl⟩ := hrel
    have hs1 : num ((bs.take m).take k) < 256 ^ k := by
      have := num_lt ((bs.take m).take k)
      rwa [List.length_take, HB.out.len, Nat.min_eq_left hk] at this
    obtain ⟨s, hs⟩ : ∃ s, num ((bs.take m).take k) = s := ⟨_, rfl⟩
    rw [hs] at hs1 ⊢
    have HN := Lib.hid hs
    clear hs
    by_cases hlt : k < m
    · have h7 : s < 72057594037927936 := by
        have : 256 ^ k ≤ 256 ^ 7 := Nat.pow_le_pow_right (by decide) (by omega)
        have h3 : (256 : Nat) ^ 7 = 72057594037927936 := by decide
        omega
      obtain ⟨ad, b, rfl, hadB, hbk, hcell⟩ := HB.out.get hlt
      have hb256 := b.toNat_lt
      have hor := or_low s b.toNat h7 hb256
      have Hbk := Lib.hid hbk
      clear hbk hs1
      go_wp2
      go_round
      case rel => exact ⟨k + 1, by omega, by go_num, by
        have h1 := Hbk.out
        have hkl : k < (bs.take m).length := by rw [HB.out.len]; exact hlt
        rw [num_take _ _ hkl, HN.out]
        rw [List.getElem?_eq_getElem hkl] at h1
        injection h1 with h1
        rw [h1]; go_num⟩
      case measure => simp [intOf]; omega
    · have hkm : k = m := by omega
      subst hkm
      have HF : Hid (num (bs.take k) = s) := by
        have := HN.out
        rwa [List.take_take, Nat.min_self] at this
      clear hs1
      go_wp2
      go_ret
      exact ⟨by rw [HF.out]; rfl, HR.out, HG.out, HS.out⟩

set_option maxHeartbeats 1000000 in
theorem num_bad (g : Nat) (m : Int) (bs : List UInt8) (bad : Bool) (w : World) (hr : Rdr w g bs bad) (hm : bad = true ∨ m < 1 ∨ 8 < m ∨ (bs.length : Int) < m) :
    Calls Try.prog 23 #[.pointer (some ⟨g, 0, none⟩), .int .i64 m] w (NumRes w g 0 bs true) := by
  by_cases hw : 1 ≤ m ∧ m ≤ 8
  · have T := Lib.hid (take_bad g m bs bad w hr (by rcases hm with h | h | h | h <;> first | exact .inl h | (exact .inr (.inr h)) | omega))
    obtain ⟨q1, q2⟩ := hw
    clear hm hr
    go_enter Try.func23, Try.ntmps23
    go_wp2_with (go_at_call 34; refine T.out.mono ?_; rintro e w1 ⟨rfl, hrd, hgr, hsz⟩; have HR := Lib.hid hrd; have HG := Lib.hid hgr; have HS := Lib.hid hsz; clear hrd hgr hsz)
    go_loop [5, 18] (fun c i => c = .int .u64 0 ∧ i = .int .i64 0) (fun _ _ => 0)
    case atStart => exact ⟨rfl, rfl⟩
    case round =>
      obtain ⟨rfl, rfl⟩ := hrel
      go_wp2
      go_ret
      exact ⟨rfl, HR.out, HG.out, HS.out⟩
  · have T := Lib.hid (take_bad g (-1) bs bad w hr (.inr (.inl (by decide))))
    have hw' : m < 1 ∨ 8 < m := by omega
    clear hm hr hw
    rcases hw' with h | h
    all_goals
      go_enter Try.func23, Try.ntmps23
      go_wp2_with (go_at_call 34; refine T.out.mono ?_; rintro e w1 ⟨rfl, hrd, hgr, hsz⟩; have HR := Lib.hid hrd; have HG := Lib.hid hgr; have HS := Lib.hid hsz; clear hrd hgr hsz)
      go_loop [5, 18] (fun c i => c = .int .u64 0 ∧ i = .int .i64 0) (fun _ _ => 0)
      case atStart => exact ⟨rfl, rfl⟩
      case round =>
        obtain ⟨rfl, rfl⟩ := hrel
        go_wp2
        go_ret
        exact ⟨rfl, HR.out, HG.out, HS.out⟩

set_option maxHeartbeats 1000000 in
theorem num_nil (w : World) :
    Calls Try.prog 23 #[.pointer none, .int .i64 1] w fun e w' => e = .returned (.int .u64 0) ∧ w = w' := by
  go_enter Try.func23, Try.ntmps23
  go_wp2_with (go_at_call 34; refine (take_nil _ _).mono ?_; rintro e w1 ⟨rfl, rfl⟩)
  go_loop [5, 18] (fun c i => c = .int .u64 0 ∧ i = .int .i64 0) (fun _ _ => 0)
  case atStart => exact ⟨rfl, rfl⟩
  case round =>
    obtain ⟨rfl, rfl⟩ := hrel
    go_wp2
    go_ret
    exact ⟨rfl, rfl⟩

/-- What a read of bytes leaves. -/
def BytesRes (w : World) (g : Nat) (out bs : List UInt8) (bad : Bool) (e : Ending) (w' : World) : Prop :=
  ∃ A' c', e = .returned (.slice A' out.length c') ∧ Own w' w.heap.size 5 (.slice A' out.length c') out.length out ∧ Rdr w' g bs bad ∧ w.grownBy w' (some g)

set_option maxHeartbeats 1000000 in
theorem bytes_ok (g m : Nat) (bs : List UInt8) (w : World) (hr : Rdr w g bs false) (hm : m ≤ bs.length) (hlen : m ≤ 1000000) :
    Calls Try.prog 27 #[.pointer (some ⟨g, 0, none⟩), .int .i64 (m : Int)] w (BytesRes w g (bs.take m) (bs.drop m) false) := by
  have T := Lib.hid (take_ok g m bs w hr hm)
  have HGL := Lib.hid hr.lt
  have HTL : Hid ((bs.take m).length = m) := by rw [List.length_take]; exact Nat.min_eq_left hm
  clear hr hm
  go_enter Try.func27, Try.ntmps27
  go_wp2_with (first
    | (go_at_call 34; refine T.out.mono ?_; rintro e w1 ⟨A, c, rfl, hb, hrd, hgr, hsz⟩; have HB := Lib.hid hb; have HR := Lib.hid hrd; have HG := Lib.hid hgr; have HS := Lib.hid hsz; clear hb hrd hgr hsz)
    | (go_at_call 33; refine (clone_any (bs.take m) A m c g w1 HB.out (by omega) (by rw [HS.out]; exact Nat.le_of_lt HGL.out)).mono ?_; rintro e w2 ⟨A2, c2, rfl, hown, hbel⟩; have HO := Lib.hid hown; have HW := Lib.hid hbel; clear hown hbel))
  go_ret
  have hO := HO.out
  have hW := HW.out
  rw [HS.out] at hO hW
  refine ⟨A2, c2, by rw [HTL.out]; rfl, by rw [HTL.out]; exact hO, HR.out.below hW HGL.out, only_trans HG.out (only_of_below hW (by rw [HS.out]; exact Nat.le_refl _))⟩

set_option maxHeartbeats 1000000 in
theorem bytes_bad (g : Nat) (m : Int) (bs : List UInt8) (bad : Bool) (w : World) (hr : Rdr w g bs bad) (hm : bad = true ∨ m < 0 ∨ (bs.length : Int) < m) :
    Calls Try.prog 27 #[.pointer (some ⟨g, 0, none⟩), .int .i64 m] w (BytesRes w g [] bs true) := by
  have T := Lib.hid (take_bad g m bs bad w hr hm)
  have HGL := Lib.hid hr.lt
  clear hr hm
  go_enter Try.func27, Try.ntmps27
  go_wp2_with (first
    | (go_at_call 34; refine T.out.mono ?_; rintro e w1 ⟨rfl, hrd, hgr, hsz⟩; have HR := Lib.hid hrd; have HG := Lib.hid hgr; have HS := Lib.hid hsz; clear hrd hgr hsz)
    | (go_at_call 33; refine (clone_any [] none 0 0 0 w1 (Byt.nil _ _ _) (by omega) (Nat.zero_le _)).mono ?_; rintro e w2 ⟨A2, c2, rfl, hown, hbel⟩; have HO := Lib.hid hown; have HW := Lib.hid hbel; clear hown hbel))
  go_ret
  have hO := HO.out
  have hW := HW.out
  rw [HS.out] at hO hW
  exact ⟨A2, c2, rfl, hO, HR.out.below hW HGL.out, only_trans HG.out (only_of_below hW (by rw [HS.out]; exact Nat.le_refl _))⟩

set_option maxHeartbeats 1000000 in
theorem bytes_nil (m : Int) (w : World) :
    Calls Try.prog 27 #[.pointer none, .int .i64 m] w fun e w' => ∃ A c, e = .returned (.slice A 0 c) ∧ Below w.heap.size w w' := by
  go_enter Try.func27, Try.ntmps27
  go_wp2_with (first
    | (go_at_call 34; refine (take_nil _ _).mono ?_; rintro e w1 ⟨rfl, rfl⟩)
    | (go_at_call 33; refine (clone_any [] none 0 0 0 w (Byt.nil _ _ _) (by omega) (Nat.zero_le _)).mono ?_; rintro e w2 ⟨A2, c2, rfl, hown, hbel⟩; have HW := Lib.hid hbel; clear hown hbel))
  go_ret
  exact ⟨A2, c2, rfl, HW.out⟩

/-- What Zeros leaves. -/
def ZerosRes (w : World) (g : Nat) (bs : List UInt8) (bad : Bool) (e : Ending) (w' : World) : Prop :=
  e = .returned (.tuple #[]) ∧ Rdr w' g bs bad ∧ w.grownBy w' (some g) ∧ w'.heap.size = w.heap.size
/-- There is a byte that is not 0. -/
def nz (l : List UInt8) : Bool := l.any fun b => b != 0
theorem nz_snoc (l : List UInt8) (b : UInt8) : nz (l ++ [b]) = (nz l || b != 0) := by simp [nz]

set_option maxHeartbeats 1000000 in
theorem zeros_ok (g m : Nat) (bs : List UInt8) (w : World) (hr : Rdr w g bs false) (hm : m ≤ bs.length) :
    Calls Try.prog 28 #[.pointer (some ⟨g, 0, none⟩), .int .i64 (m : Int)] w (ZerosRes w g (bs.drop m) (nz (bs.take m))) := by
  have T := Lib.hid (take_ok g m bs w hr hm)
  have hm63 : m ≤ 9223372036854775807 := by have := hr.len; omega
  clear hr hm
  go_enter Try.func28, Try.ntmps28
  go_wp2_with (go_at_call 34; refine T.out.mono ?_; rintro e w1 ⟨A, c, rfl, hb, hrd, hgr, hsz⟩; have HB := Lib.hid hb; have HR := Lib.hid hrd; have HG := Lib.hid hgr; have HS := Lib.hid hsz; clear hb hrd hgr hsz)
  go_loopw [10] (fun i wr => ∃ k : Nat, k ≤ m ∧ i = .int .i64 k ∧ Byt wr g A m (bs.take m) ∧ Rdr wr g (bs.drop m) (nz ((bs.take m).take k)) ∧ w.grownBy wr (some g) ∧ wr.heap.size = w.heap.size) (fun i _ => m - (intOf i).toNat)
  case atStart => exact ⟨0, Nat.zero_le _, rfl, HB.out, HR.out, HG.out, HS.out⟩
  case round =>
    obtain ⟨k, hk, rfl, hb, hrd, hgr, hsz⟩ := hrel
    have HB2 := Lib.hid hb
    have HR2 := Lib.hid hrd
    have HG2 := Lib.hid hgr
    have HS2 := Lib.hid hsz
    clear hb hrd hgr hsz HB HR HG HS
    by_cases hlt : k < m
    · obtain ⟨ad, b, rfl, hadB, hbk, hcell⟩ := HB2.out.get hlt
      have hnz : nz ((bs.take m).take (k + 1)) = (nz ((bs.take m).take k) || b != 0) := by
        have hkl : k < (bs.take m).length := by rw [HB2.out.len]; exact hlt
        rw [List.getElem?_eq_getElem hkl] at hbk
        injection hbk with h1
        rw [List.take_succ_eq_append_getElem hkl, nz_snoc, h1]
      have HN := Lib.hid hnz
      clear hbk hnz
      by_cases hb0 : b = 0
      · have hbz : ((b.toNat : Int) != 0) = false := by subst hb0; rfl
        have HZ : Hid (nz ((bs.take m).take (k + 1)) = nz ((bs.take m).take k)) := by show _ = _; rw [HN.out, hb0]; simp
        clear hb0
        go_wp2
        go_roundw
        case rel => exact ⟨k + 1, by omega, by go_num, HB2.out, by rw [HZ.out]; exact HR2.out, HG2.out, HS2.out⟩
        case measure => simp [intOf]; omega
      · have hbz : ((b.toNat : Int) != 0) = true := by
          simp only [bne_iff_ne, ne_eq]
          intro h
          exact hb0 (UInt8.toNat_inj.1 (by simpa using h))
        have HZ : Hid (nz ((bs.take m).take (k + 1)) = true) := by show _ = _; rw [HN.out]; simp [hb0]
        have hrd := HR2.out
        obtain ⟨A3, n3, cap3, h1, h2, h3, h4, h5, h6, h7⟩ := hrd
        clear hb0 h7
        go_wp2
        go_roundw
        case rel =>
          have q := bad_fin HR2.out _ rfl
          exact ⟨k + 1, by omega, by go_num, HB2.out.setCell (p := ⟨g, 1, none⟩) (Nat.le_refl _) _, by rw [HZ.out]; exact q.1, only_trans HG2.out q.2.1, by rw [q.2.2]; exact HS2.out⟩
        case measure => simp [intOf]; omega
    · have hkm : k = m := by omega
      subst hkm
      have HF : Hid (nz (bs.take k) = nz ((bs.take k).take k)) := by show _ = _; rw [List.take_take, Nat.min_self]
      go_wp2
      go_end0
      exact ⟨rfl, by rw [HF.out]; exact HR2.out, HG2.out, HS2.out⟩

set_option maxHeartbeats 1000000 in
theorem zeros_bad (g : Nat) (m : Int) (bs : List UInt8) (bad : Bool) (w : World) (hr : Rdr w g bs bad) (hm : bad = true ∨ m < 0 ∨ (bs.length : Int) < m) :
    Calls Try.prog 28 #[.pointer (some ⟨g, 0, none⟩), .int .i64 m] w (ZerosRes w g bs true) := by
  have T := Lib.hid (take_bad g m bs bad w hr hm)
  clear hr hm
  go_enter Try.func28, Try.ntmps28
  go_wp2_with (go_at_call 34; refine T.out.mono ?_; rintro e w1 ⟨rfl, hrd, hgr, hsz⟩; have HR := Lib.hid hrd; have HG := Lib.hid hgr; have HS := Lib.hid hsz; clear hrd hgr hsz)
  go_loop [10] (fun i => i = .int .i64 0) (fun _ => 0)
  case atStart => exact rfl
  case round =>
    obtain rfl := hrel
    go_wp2
    go_end0
    exact ⟨rfl, HR.out, HG.out, HS.out⟩

set_option maxHeartbeats 1000000 in
theorem zeros_nil (m : Int) (w : World) :
    Calls Try.prog 28 #[.pointer none, .int .i64 m] w fun e w' => e = .returned (.tuple #[]) ∧ w = w' := by
  go_enter Try.func28, Try.ntmps28
  go_wp2_with (go_at_call 34; refine (take_nil _ _).mono ?_; rintro e w1 ⟨rfl, rfl⟩)
  go_loop [10] (fun i => i = .int .i64 0) (fun _ => 0)
  case atStart => exact rfl
  case round =>
    obtain rfl := hrel
    go_wp2
    go_end0
    exact ⟨rfl, rfl⟩
end Go.Proofs.Ytmbelomekihdkaa
