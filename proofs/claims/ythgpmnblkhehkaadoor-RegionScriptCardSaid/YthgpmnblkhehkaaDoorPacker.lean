/- The packer: New, Room, Put. -/
import Derived.Test.YthgpmnblkhehkaaDoorCapacity
import Derived.Test.YthgpmnblkhehkaaDoorRecord
import Derived.Test.YthgpmnblkhehkaaDoorRecEnc
import Derived.Test.YthgpmnblkhehkaaDoorVec
import Derived.Deep.DeepCutAuto
namespace Go.Proofs.YthgpmnblkhehkaaDoor
open Go.RowKit

set_option maxHeartbeats 1000000 in
theorem first_any (a b c d : Int) (slot : Nat) (ha : I64 a) (hb : I64 b) (hc : I64 c) (hd : I64 d) (hf : form a b c d = true) (hs : (slot : Int) < d) (w : World) :
    Calls Tryd.prog 32 #[.agg #[.int .i64 a, .int .i64 b, .int .i64 c, .int .i64 d], .int .i64 (slot : Int)] w fun e w' => e = .returned (.int .i64 (74 + slot * c)) ∧ Below w.heap.size w w' := by
  have C := Lib.hid (form_any a b c d ha hb hc hd)
  obtain ⟨_, _, _, h1, h2, _, d1, d2⟩ := form_true hf
  rw [hf] at C
  have s16 : slot ≤ 15 := by omega
  have m1 : 0 ≤ (slot : Int) * c := Int.mul_nonneg (by omega) (by omega)
  have m2 : (slot : Int) * c ≤ 15 * 2048 := Int.mul_le_mul (by omega) h2 (by omega) (by omega)
  clear hf ha hb hc hd
  obtain ⟨q, hq⟩ : ∃ q, (slot : Int) * c = q := ⟨_, rfl⟩
  rw [hq] at m1 m2 ⊢
  have HQ := Lib.hid hq
  clear hq
  have wq : IntKind.i64.wrap ((slot : Int) * c) = q := by rw [HQ.out]; exact IntWalk.i64_in _ (by omega)
  go_enter Tryd.func32, Tryd.ntmps32
  go_wp2_with (go_at_call 29; refine (C.out _).mono ?_; rintro e w1 ⟨rfl, hb1⟩; obtain ⟨hcc, hcf⟩ := below_cells hb1)
  go_ret
  exact ⟨rfl, ((Below.refl _ _).alloc (Nat.le_refl _) _).trans (hb1.mono (by simp))⟩

/-- A packer: block p, its values, its stream. -/
structure Pk (w : World) (p : Nat) (a b c d f s : Int) (A : Option Addr) (n cap : Nat) (tk : Int) (bs : List UInt8) : Prop where
  cells : Cells w p [.int .i64 a, .int .i64 b, .int .i64 c, .int .i64 d, .int .i64 f, .int .i64 s, .slice A n cap, .int .i64 tk]
  soft : Soft w p
  own : Own w (p + 1) 5 (.slice A n cap) n bs
theorem Pk.below {w w' : World} {p : Nat} {a b c d f s tk : Int} {A : Option Addr} {n cap : Nat} {bs : List UInt8} (h : Pk w p a b c d f s A n cap tk bs) (hb : Below w.heap.size w w') : Pk w' p a b c d f s A n cap tk bs :=
  ⟨h.cells.below hb h.cells.lt, h.soft.same (hb.block _ h.cells.lt), h.own.keep hb⟩

set_option maxHeartbeats 1000000 in
theorem pnew_any (a b c d : Int) (slot : Nat) (sq : Int) (ha : I64 a) (hb : I64 b) (hc : I64 c) (hd : I64 d) (hf : form a b c d = true) (hs : (slot : Int) < d) (hq1 : 1 ≤ sq) (hq2 : sq ≤ 281474976710655) (w : World) :
    Calls Tryd.prog 31 #[.agg #[.int .i64 a, .int .i64 b, .int .i64 c, .int .i64 d], .int .i64 (slot : Int), .int .i64 sq] w fun e w' =>
      ∃ p, e = .returned (.tuple #[.pointer (some ⟨p, 0, none⟩), .int .i64 0]) ∧ w.heap.size ≤ p ∧ Pk w' p a b c d (74 + slot * c) sq none 0 0 0 [] ∧ Below w.heap.size w w' := by
  have C := Lib.hid (form_any a b c d ha hb hc hd)
  rw [hf] at C
  have FI := Lib.hid (first_any a b c d slot ha hb hc hd hf hs)
  obtain ⟨_, _, _, h1, h2, _, d1, d2⟩ := form_true hf
  have m1 : 0 ≤ (slot : Int) * c := Int.mul_nonneg (by omega) (by omega)
  have m2 : (slot : Int) * c ≤ 15 * 2048 := Int.mul_le_mul (by omega) h2 (by omega) (by omega)
  clear ha hb hc hd hf
  obtain ⟨q, hq⟩ : ∃ q, (slot : Int) * c = q := ⟨_, rfl⟩
  rw [hq] at m1 m2 FI ⊢
  clear hq
  have HB0 : Hid (Below w.heap.size w (w.alloc (.cells #[.int .i64 a, .int .i64 b, .int .i64 c, .int .i64 d] 24))) := (Below.refl _ _).alloc (Nat.le_refl _) _
  have HX0 := Lib.hid (Cells.new w 24 #[.int .i64 a, .int .i64 b, .int .i64 c, .int .i64 d])
  go_enter Tryd.func31, Tryd.ntmps31
  go_wp2_with fail
  refine (C.out _).mono ?_
  rintro e w1 ⟨rfl, hbel⟩
  have HB1 : Hid (Below w.heap.size w w1) := HB0.out.trans (hbel.mono HB0.out.size)
  have HX1 := Lib.hid (HX0.out.below hbel (by simp))
  have hw1 : w.heap.size < w1.heap.size := by have := hbel.size; simp at this; omega
  clear hbel
  have l0 := HX1.out 0 _ rfl
  have l1 := HX1.out 1 _ rfl
  have l2 := HX1.out 2 _ rfl
  have l3 := HX1.out 3 _ rfl
  go_wp2_with fail
  refine (FI.out _).mono ?_
  rintro e w2 ⟨rfl, hbel⟩
  have HB2 : Hid (Below w.heap.size w w2) := HB1.out.trans (hbel.mono HB1.out.size)
  have HX2 := Lib.hid (HX1.out.below hbel hw1)
  clear hbel l0 l1 l2 l3
  have l0 := HX2.out 0 _ rfl
  have l1 := HX2.out 1 _ rfl
  have l2 := HX2.out 2 _ rfl
  have l3 := HX2.out 3 _ rfl
  go_wp2_with fail
  go_ret2
  exact ⟨w2.heap.size, rfl, HB2.out.size, ⟨Cells.new w2 _ _, Soft.new w2 _ _, Own.nil _ _ _⟩, HB2.out.alloc HB2.out.size _⟩

set_option maxHeartbeats 1000000 in
theorem room_any (a b c d f s tk : Int) (p : Nat) (A : Option Addr) (n cap : Nat) (bs : List UInt8) (cp : Int) (ha : I64 a) (hb : I64 b) (hc : I64 c) (hd : I64 d) (hcp : capS a b c d = cp) (hn : n ≤ 1000000) (w : World) (hP : Pk w p a b c d f s A n cap tk bs) :
    Calls Tryd.prog 39 #[.pointer (some ⟨p, 0, none⟩)] w fun e w' => e = .returned (.int .i64 (cp - n)) ∧ Below w.heap.size w w' := by
  have CP := Lib.hid (capacity_any a b c d ha hb hc hd cp hcp)
  have hlen := hP.own.len
  have hlt := hP.cells.lt
  have HX := Lib.hid hP.cells
  have hr : 0 ≤ cp ∧ cp ≤ 120773 := by
    rw [← hcp]
    by_cases hf : form a b c d = true
    · obtain ⟨_, _, _, h1, h2, _⟩ := form_true hf
      rw [capS, if_pos hf]; omega
    · rw [capS, if_neg hf]; omega
  have wr : IntKind.i64.wrap (cp - (n : Int)) = cp - (n : Int) := IntWalk.i64_in _ (by omega)
  clear hcp hP hlen ha hb hc hd
  have l0 := HX.out 0 _ rfl
  have l1 := HX.out 1 _ rfl
  have l2 := HX.out 2 _ rfl
  have l3 := HX.out 3 _ rfl
  have l6 := HX.out 6 _ rfl
  go_enter Tryd.func39, Tryd.ntmps39
  go_wp2_with fail
  go_region_with (first | (go_at_call 62; refine (CP.out _).mono ?_; rintro e w1 ⟨rfl, hb1⟩; have HB1 : Hid (Below w.heap.size w w1) := (by first | exact hb1 | exact (Below.drew (Below.refl _ _)).trans hb1); have HX1 := Lib.hid (HX.out.below HB1.out hlt); have m6 := HX1.out 6 _ rfl; clear hb1))
  all_goals (try go_wp2)
  all_goals (go_ret; exact ⟨rfl, HB1.out⟩)

theorem rencS_zero (v s o ki ex : Int) (key val : List UInt8) : (rencS v s o ki ex key val).1.length ≤ 16 + key.length + val.length := by
  by_cases h : (rencS v s o ki ex key val).2 = 0
  · obtain ⟨_, _, _, _, e⟩ := rencS_ok h
    rw [e, rbytes_len]; omega
  · have : (rencS v s o ki ex key val).1 = [] := by
      unfold rencS at h ⊢
      split
      · rfl
      · rename_i h1
        rw [if_neg h1] at h
        split
        · rfl
        · rename_i h2
          rw [if_neg h2] at h
          exact absurd rfl h
    rw [this]; simp

/-- What Put leaves. -/
def PPut (p : Nat) (a b c d f s tk cp : Int) (A : Option Addr) (n cap : Nat) (bs : List UInt8) (r : List UInt8 × Int) (w : World) (e : Ending) (w' : World) : Prop :=
  (¬ r.2 = 0 ∧ e = .returned (.tuple #[.int .i64 0, .int .i64 0, .int .i64 r.2]) ∧ Below w.heap.size w w') ∨
  (r.2 = 0 ∧ cp - n < r.1.length ∧ e = .returned (.tuple #[.int .i64 0, .int .i64 0, .int .i64 8]) ∧ Below w.heap.size w w') ∨
  (r.2 = 0 ∧ ¬ cp - n < r.1.length ∧ e = .returned (.tuple #[.int .i64 (n : Int), .int .i64 (r.1.length : Int), .int .i64 0]) ∧ ∃ A' cap', Pk w' p a b c d f s A' (n + r.1.length) cap' tk (bs ++ r.1) ∧ Far w w' p (Value.slice A n cap).ownBlock ∧ Born w (Value.slice A n cap).ownBlock (Value.slice A' (n + r.1.length) cap').ownBlock)

set_option maxRecDepth 100000 in
set_option maxHeartbeats 4000000 in
theorem pput_any (a b c d f s tk cp : Int) (p : Nat) (A : Option Addr) (n cap : Nat) (bs : List UInt8) (ki ex : Int) (key val : List UInt8) (Ak Av : Option Addr) (nk ck nv cv B : Nat) (w : World) (ht : TabAt w) (h0 : 0 < w.heap.size) (hP : Pk w p a b c d f s A n cap tk bs)
    (ha : I64 a) (hb : I64 b) (hc : I64 c) (hd : I64 d) (hcp : capS a b c d = cp) (hn : n ≤ 1000000) (hk : Byt w B Ak nk key) (hv : Byt w B Av nv val) (hB : B ≤ w.heap.size) (hkn : nk ≤ 100000) (hvn : nv ≤ 100000) (hs : s ≤ 9223372036854775807) (r : List UInt8 × Int) (hr : rencS b s n ki ex key val = r) :
    Calls Tryd.prog 38 #[.pointer (some ⟨p, 0, none⟩), .agg #[.int .i64 ki, .slice Ak nk ck, .slice Av nv cv, .int .i64 ex]] w (PPut p a b c d f s tk cp A n cap bs r w) := by
  have RM := Lib.hid (fun (w' : World) (hb : Below w.heap.size w w') => room_any a b c d f s tk p A n cap bs cp ‹I64 a› ‹I64 b› ‹I64 c› ‹I64 d› hcp hn w' (hP.below hb))
  have hlt := hP.cells.lt
  have HP : Hid (∀ w', Below w.heap.size w w' → Pk w' p a b c d f s A n cap tk bs) := fun w' hb => hP.below hb
  have HNP : Hid (¬ some p = (Value.slice A n cap).ownBlock) := fun e => by have := hP.own.ge e.symm; omega
  have HL0 : Hid (r.1.length ≤ 1000000) := by
    show _ ≤ _
    have := rencS_zero b s n ki ex key val
    rw [hr, hk.len, hv.len] at this
    omega
  have EN : Hid (∀ w', Below w.heap.size w w' → Calls Tryd.prog 61 #[.int .i64 b, .int .i64 s, .int .i64 (n : Int), .agg #[.int .i64 ki, .slice Ak nk ck, .slice Av nv cv, .int .i64 ex]] w' (REncRes r w')) := fun w' hb =>
    recEncode_any b s n ki ex key val Ak Av nk ck nv cv B w' (ht.below hb h0) (Nat.lt_of_lt_of_le h0 hb.size) (hk.belowBy hb hB) (hv.belowBy hb hB) (Nat.le_trans hB hb.size) hkn hvn hs r hr
  have HB0 : Hid (Below w.heap.size w (w.alloc (.cells #[.int .i64 ki, .slice Ak nk ck, .slice Av nv cv, .int .i64 ex] 36))) := (Below.refl _ _).alloc (Nat.le_refl _) _
  have HX0 := Lib.hid (Cells.new w 36 #[.int .i64 ki, .slice Ak nk ck, .slice Av nv cv, .int .i64 ex])
  have HS := Lib.hid (show 0 ≤ cp ∧ cp ≤ 120773 from by
    rw [← hcp]
    by_cases hf : form a b c d = true
    · obtain ⟨_, _, _, h1, h2, _⟩ := form_true hf
      rw [capS, if_pos hf]; omega
    · rw [capS, if_neg hf]; omega)
  clear hk hv ht h0 ha hb hc hd hr hB hcp hP
  have l1 := (HP.out _ HB0.out).cells 1 _ rfl
  have l5 := (HP.out _ HB0.out).cells 5 _ rfl
  have l6 := (HP.out _ HB0.out).cells 6 _ rfl
  obtain ⟨rb, er⟩ := r
  obtain ⟨L, hL⟩ : ∃ L, rb.length = L := ⟨_, rfl⟩
  have hL0 : L ≤ 1000000 := by rw [← hL]; exact HL0.out
  have HL := Lib.hid hL
  clear hL
  go_enter Tryd.func38, Tryd.ntmps38
  go_upto_region 4 with fail
  go_cut [7, 6] (fun x y wx => ∃ A1 c1, x = .slice A1 L c1 ∧ y = .int .i64 er ∧ Byt wx wx.heap.size A1 L rb ∧ Below w.heap.size w wx)
  case first =>
    go_region_with (go_at_call 61; refine (EN.out _ (by first | exact HB0.out | exact HB0.out.drew)).mono ?_; rintro e w2 ⟨A1, c1, rfl, hown, hbel⟩; rw [HL.out] at hown ⊢; have HO2 := Lib.hid hown; have HB2 : Hid (Below w.heap.size w w2) := (HB0.out.drew).trans (hbel.mono HB0.out.size); clear hown hbel)
    all_goals
      go_wp2_with fail
      (try go_simp)
      go_meet
      exact ⟨A1, c1, rfl, rfl, HO2.out.byt, HB2.out⟩
  case rest =>
    obtain ⟨A1, c1, rfl, rfl, hby, hbel⟩ := hcut
    have HY := Lib.hid hby
    have HB3 := Lib.hid hbel
    clear hby hbel
    obtain ⟨wA, hwA⟩ : ∃ x, x = wc := ⟨_, rfl⟩
    subst hwA
    by_cases hz : er = 0
    · subst hz
      have hcs := HS.out
      by_cases hfit : cp - n < L
      · go_wp2_with (go_at_call 39; refine (RM.out _ HB3.out).mono ?_; rintro e w4 ⟨rfl, hbel4⟩; have HB4 : Hid (Below w.heap.size w w4) := HB3.out.trans (hbel4.mono HB3.out.size); clear hbel4)
        go_ret3
        exact .inr (.inl ⟨rfl, by rw [HL.out]; exact hfit, rfl, HB4.out⟩)
      · go_wp2_with (first
          | (go_at_call 39; refine (RM.out _ HB3.out).mono ?_; rintro e w4 ⟨rfl, hbel4⟩; have HB4 : Hid (Below w.heap.size w w4) := HB3.out.trans (hbel4.mono HB3.out.size); have HY4 := Lib.hid (HY.out.below hbel4); have n6 := (HP.out _ HB4.out).cells 6 _ rfl; clear hbel4)
          | (at_builtin; refine wpList_append_at rfl Tryd.u8w (.tmp 44) (.tmp 45) rfl rfl (HP.out _ HB4.out).own rfl HY4.out ?_ ?_ ?_; omega; exact Nat.le_trans hlt HB4.out.size; intro A5 c5 w5 hown5 hgr5 hat5; have HBo5 := Lib.hid ((Born.refl w _).step HB4.out.size hat5); have HO5 := Lib.hid hown5; have HF5 := Lib.hid ((Far.of_below HB4.out p _).grown hgr5); have hpb := hgr5.block p (Nat.lt_of_lt_of_le hlt HB4.out.size) HNP.out; have HC5 := Lib.hid ((HP.out _ HB4.out).cells.same hpb); have HSo5 := Lib.hid ((HP.out _ HB4.out).soft.same hpb); have q6 := HC5.out 6 _ rfl; have f6 := HSo5.out 6; clear hown5 hgr5 hpb hat5))
        go_ret3
        refine .inr (.inr ⟨rfl, by rw [HL.out]; omega, by rw [HL.out]; rfl, A5, c5, ⟨?_, ?_, ?_⟩, ?_, ?_⟩)
        · rw [HL.out]; exact HC5.out.set 6 _
        · exact HSo5.out.set _ _
        · rw [HL.out]; exact HO5.out.set (by omega) _
        · exact HF5.out.set 6 _
        · rw [HL.out]; exact HBo5.out
    · go_wp2_with fail
      go_ret3
      exact .inl ⟨hz, rfl, HB3.out⟩
end Go.Proofs.YthgpmnblkhehkaaDoor
