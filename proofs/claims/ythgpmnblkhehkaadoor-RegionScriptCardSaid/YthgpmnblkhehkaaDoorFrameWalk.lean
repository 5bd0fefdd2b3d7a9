/- The walks of frame.Encode, frame.Decode and of their references. -/
import Derived.Test.YthgpmnblkhehkaaDoorFrame
import Derived.Test.YthgpmnblkhehkaaDoorConcat
import Derived.Test.YthgpmnblkhehkaaDoorCrcRef
import Derived.Outline
namespace Go.Proofs.YthgpmnblkhehkaaDoor
open Go.RowKit

theorem may_cases (k s t : Int) : (1 ≤ k ∧ k ≤ 4 ∧ 0 ≤ s ∧ 0 ≤ t ∧ t < 1048576 ∧ may k s t = true) ∨ (k < 1 ∧ may k s t = false) ∨ (1 ≤ k ∧ 4 < k ∧ may k s t = false) ∨
    (1 ≤ k ∧ k ≤ 4 ∧ s < 0 ∧ may k s t = false) ∨ (1 ≤ k ∧ k ≤ 4 ∧ 0 ≤ s ∧ t < 0 ∧ may k s t = false) ∨ (1 ≤ k ∧ k ≤ 4 ∧ 0 ≤ s ∧ 0 ≤ t ∧ 1048576 ≤ t ∧ may k s t = false) := by
  have h := may_iff k s t
  cases hm : may k s t
  · simp [hm] at h
    simp
    omega
  · rw [hm] at h
    simp at h
    simp
    omega

set_option maxHeartbeats 400000 in
theorem possible_any (k s t : Int) (w : World) :
    Calls Tryd.prog 71 #[.int .i64 k, .int .i64 s, .int .i64 t] w fun e w' => e = .returned (.bool (may k s t)) ∧ w = w' := by
  rcases may_cases k s t with ⟨h1, h2, h3, h4, h5, hm⟩ | ⟨h1, hm⟩ | ⟨h1, h2, hm⟩ | ⟨h1, h2, h3, hm⟩ | ⟨h1, h2, h3, h4, hm⟩ | ⟨h1, h2, h3, h4, h5, hm⟩
  all_goals
    have HM := Lib.hid hm
    clear hm
    go_enter Tryd.func71, Tryd.ntmps71
    go_wp2
    go_ret
    exact ⟨by rw [HM.out]; first | rfl | exact congrArg (fun b => Ending.returned (.bool b)) (decide_eq_false (by omega)), rfl⟩


/-- What Encode returns: the bytes and the error. -/
def encS (k s t : Int) (p : List UInt8) : List UInt8 × Int :=
  if may k s t = true then (if p.length ≤ 59 then (frame k.toNat s.toNat t.toNat p, 0) else ([], 3)) else ([], 2)
def EncRes (r : List UInt8 × Int) (w : World) (e : Ending) (w' : World) : Prop :=
  ∃ A c, e = .returned (.tuple #[.slice A r.1.length c, .int .i64 r.2]) ∧ Own w' w.heap.size 5 (.slice A r.1.length c) r.1.length r.1 ∧ Below w.heap.size w w'

set_option maxHeartbeats 1000000 in
theorem encode_any (k s t : Int) (p : List UInt8) (A : Option Addr) (n cap B : Nat) (w : World) (ht : TabAt w) (h0 : 0 < w.heap.size) (hb : Byt w B A n p) (hn : n ≤ 9223372036854775807) (hB : B ≤ w.heap.size)
    (hs : s ≤ 9223372036854775807) (r : List UInt8 × Int) (hr : encS k s t p = r) :
    Calls Tryd.prog 56 #[.int .i64 k, .int .i64 s, .int .i64 t, .slice A n cap] w (EncRes r w) := by
  have PO := Lib.hid (possible_any k s t)
  have HL := hb.len
  have HY := Lib.hid hb
  cases hm : may k s t
  · have hr2 : r = ([], 2) := by rw [← hr, encS, hm]; rfl
    subst hr2
    rw [hm] at PO
    clear hr hb
    go_enter Tryd.func56, Tryd.ntmps56
    go_wp2_with (go_at_call 71; refine (PO.out _).mono ?_; rintro e w' ⟨rfl, rfl⟩)
    go_ret2
    exact ⟨none, 0, rfl, Own.nil _ _ _, Below.refl _ _⟩
  · rw [hm] at PO
    by_cases h59 : n ≤ 59
    · have hr2 : r = (frame k.toNat s.toNat t.toNat p, 0) := by rw [← hr, encS, if_pos hm, if_pos (by omega)]
      obtain ⟨x, rfl⟩ : ∃ x : UInt8, k = (x.toNat : Int) := ⟨UInt8.ofNat k.toNat, by have := (may_iff _ _ _).1 hm; simp; omega⟩
      obtain ⟨s, rfl⟩ := Int.eq_ofNat_of_zero_le ((may_iff _ _ _).1 hm).2.2.1
      obtain ⟨t, rfl⟩ := Int.eq_ofNat_of_zero_le ((may_iff _ _ _).1 hm).2.2.2.1
      have hx := x.toNat_lt
      have htl : t < 1048576 := by have := (may_iff _ _ _).1 hm; omega
      rw [Int.toNat_natCast, Int.toNat_natCast, Int.toNat_natCast] at hr2
      obtain ⟨fb, hfb⟩ : ∃ fb, fbody x.toNat p = fb := ⟨_, rfl⟩
      obtain ⟨z, hz⟩ : ∃ z, Crc.sum (fplace s t ++ fb) = z := ⟨_, rfl⟩
      have hz32 : z < 4294967296 := by rw [← hz]; exact Crc.sum_lt _
      have HR : Hid (r = (putB fb z 4, 0)) := by
        show r = _
        rw [hr2, ← hz, ← hfb]
        rfl
      have HZ : Hid (Crc.upd (Crc.sum (fplace s t)) fb = z) := by rw [← hz]; exact Crc.upd_sum _ _
      have HFL : Hid (fb.length = 60) := by rw [← hfb]; exact fbody_len (by omega)
      have HFB : Hid (cat [(some ⟨w.heap.size, 0, none⟩, 1, 1, [x]), (A, n, cap, p), (some ⟨w.heap.size + 1, 0, none⟩, 59 - n, 59 - n, List.replicate (59 - n) 0)] = fb) := by
        show cat _ = _
        rw [← hfb, ← HL]
        simp [cat, fbody]
      have HB := Lib.hid hB
      have HT := Lib.hid ht
      have H0 := Lib.hid h0
      clear hr hb hr2 hz hfb hm HL hB ht h0
      go_enter Tryd.func56, Tryd.ntmps56
      go_wp2_with (first
        | (go_at_call 71; refine (PO.out _).mono ?_; rintro e w' ⟨rfl, rfl⟩)
        | (at_make
           refine wpList_make_byt rfl Tryd.u8w _ _ rfl _ (59 - n) rfl rfl (by omega) (by omega) ?_
           intro w1 hown hbel
           rw [World.size_alloc] at hown
           have HO1 := Lib.hid hown
           have HB1 : Hid (Below w.heap.size w w1) := ((Below.refl _ _).alloc (Nat.le_refl _) _).trans (hbel.mono (by simp))
           have HX1 : Hid (Byt w1 (w.heap.size + 1) (some ⟨w.heap.size, 0, none⟩) 1 [x]) := (Byt.new w _ _ _ [x] rfl).below (hbel.mono (by simp))
           have hw1 : w.heap.size + 1 ≤ w1.heap.size := by have := hbel.size; simpa using this
           clear hown hbel))
      have HB2 : Hid (Below w.heap.size w (w1.alloc (Obj.cells #[Value.slice (some ⟨w.heap.size, 0, none⟩) 1 1, Value.slice A n cap, Value.slice (some ⟨w.heap.size + 1, 0, none⟩) (59 - n) (59 - n)] 34))) := HB1.out.alloc HB1.out.size _
      refine (concat_any _ fb HFB.out w1.heap.size 3 w1.heap.size _ ?_ (by simp) (by simp) (by rw [HFL.out]; decide) 3 rfl (by decide)).mono ?_
      · intro j A' n' c' bs' hj
        match j, hj with
        | 0, hj => cases hj; exact ⟨cell_of_row _ _ _ _ _ _ (heap_alloc_new w1 _), (HX1.out.more hw1).alloc (Nat.le_refl _) _⟩
        | 1, hj => cases hj; exact ⟨cell_of_row _ _ _ _ _ _ (heap_alloc_new w1 _), ((HY.out.below (HB1.out.mono HB.out)).more (Nat.le_trans HB.out HB1.out.size)).alloc (Nat.le_refl _) _⟩
        | 2, hj => cases hj; exact ⟨cell_of_row _ _ _ _ _ _ (heap_alloc_new w1 _), HO1.out.byt.alloc (Nat.le_refl _) _⟩
      rintro e w2 ⟨A2, c2, rfl, hown, hbel⟩
      rw [HFL.out] at hown ⊢
      have HO2 := Lib.hid hown
      have HB3 := Lib.hid (HB2.out.trans (hbel.mono (HB2.out.size)))
      clear hown hbel HB1 HX1 HO1 hw1 HB2
      go_wp2_with fail
      refine (put_any [] _ 0 0 0 s 8 w2 (Byt.nil _ _ _) (by decide) (Nat.zero_le _) (by decide) (by decide)).mono ?_
      rw [show putB [] s 8 = be 8 s from rfl]
      rintro e w3 ⟨A3, c3, rfl, hown, hbel⟩
      rw [be_len] at hown ⊢
      have HO3 := Lib.hid (HO2.out.keep hbel)
      have HP3 := Lib.hid hown
      have HB4 := Lib.hid (HB3.out.trans (hbel.mono (HB3.out.size)))
      clear hown hbel HO2 HB3
      go_wp2_with fail
      refine (put_any (be 8 s) _ 8 c3 _ t 4 w3 HP3.out.byt (by decide) (Nat.le_refl _) (by decide) (by decide)).mono ?_
      rw [show putB (be 8 s) t 4 = fplace s t from rfl]
      rintro e w4 ⟨A4, c4, rfl, hown, hbel⟩
      have hpl : (fplace s t).length = 12 := by simp [fplace, be_len]
      rw [hpl] at hown ⊢
      have HO4 := Lib.hid (HO3.out.keep hbel)
      have HP4 := Lib.hid hown
      have HB5 := Lib.hid (HB4.out.trans (hbel.mono (HB4.out.size)))
      have HT5 := Lib.hid (HT.out.below HB5.out H0.out)
      clear hown hbel HO3 HB4 HP3 hpl
      go_wp2_with fail
      refine (sum_any (fplace s t) _ 12 c4 _ w4 HT5.out HP4.out.byt (by decide)).mono ?_
      rintro e w' ⟨rfl, rfl⟩
      go_wp2_with fail
      refine (update_any _ fb _ 60 c2 _ (Crc.sum_lt _) w4 HT5.out HO4.out.byt (by decide)).mono ?_
      rintro e w' ⟨rfl, rfl⟩
      rw [HZ.out]
      go_wp2_with fail
      refine (put_any fb _ 60 c2 _ z 4 w4 HO4.out.byt (by decide) (Nat.le_refl _) (by decide) (by decide)).mono ?_
      rintro e w5 ⟨A5, c5, rfl, hown, hbel⟩
      have HO5 := Lib.hid hown
      have HB6 := Lib.hid (HB5.out.trans (hbel.mono (HB5.out.size)))
      clear hown hbel
      go_wp2_with fail
      go_ret2
      rw [EncRes, HR.out]
      exact ⟨A5, c5, rfl, HO5.out.mono HB5.out.size, HB6.out⟩
    · have hr2 : r = ([], 3) := by rw [← hr, encS, if_pos hm, if_neg (by omega)]
      subst hr2
      clear hr hb
      go_enter Tryd.func56, Tryd.ntmps56
      go_wp2_with (go_at_call 71; refine (PO.out _).mono ?_; rintro e w' ⟨rfl, rfl⟩)
      go_ret2
      exact ⟨none, 0, rfl, Own.nil _ _ _, Below.refl _ _⟩

set_option maxHeartbeats 1000000 in
theorem refEncode_any (x : UInt8) (s t : Nat) (p : List UInt8) (A : Option Addr) (n cap B : Nat) (w : World) (hb : Byt w B A n p) (hn : n ≤ 59) (hB : B ≤ w.heap.size)
    (hs : (s : Int) ≤ 9223372036854775807) (htl : t < 1048576) (r : List UInt8) (hr : frame x.toNat s t p = r) :
    Calls Tryd.prog 66 #[.int .i64 (x.toNat : Int), .int .i64 (s : Int), .int .i64 (t : Int), .slice A n cap] w (PutRes w.heap.size r w) := by
  have hx := x.toNat_lt
  have HL := Lib.hid hb.len
  have HB : Hid (∀ w', Below w.heap.size w w' → Byt w' w.heap.size A n p) := fun w' hw => (hb.more hB).below hw
  obtain ⟨fb, hfb⟩ : ∃ fb, fbody x.toNat p = fb := ⟨_, rfl⟩
  obtain ⟨z, hz⟩ : ∃ z, Crc.sum (fplace s t ++ fb) = z := ⟨_, rfl⟩
  have hz32 : z < 4294967296 := by rw [← hz]; exact Crc.sum_lt _
  have HZ := Lib.hid hz
  have HR : Hid (r = putB fb z 4) := by
    show r = _
    rw [← hr, ← hz, ← hfb]
    rfl
  have HFL : Hid (fb.length = 60) := by rw [← hfb]; exact fbody_len (by rw [HL.out]; exact hn)
  have HFB : Hid (x :: p ++ List.replicate (59 - n) 0 = fb) := by
    show x :: p ++ _ = _
    rw [← hfb, ← HL.out]
    simp [fbody]
  clear hr hb hz hfb hB
  go_enter Tryd.func66, Tryd.ntmps66
  go_wp2_with (at_builtin; refine wpList_append_byt rfl Tryd.u8w (.tmp 13) (.tmp 14) rfl rfl (Own.lit w #[.int .u8 (x.toNat : Int)] _ [x] rfl (by simp)) rfl (HB.out _ ((Below.refl _ _).alloc (Nat.le_refl _) _)) ?_ ?_ ?_; (simp; omega); simp; intro A1 c1 w1 hown hbel; have HO1 : Hid (Own w1 w.heap.size 5 (.slice A1 (1 + n) c1) (1 + n) (x :: p)) := hown; have HB1 : Hid (Below w.heap.size w w1) := ((Below.refl _ _).alloc (Nat.le_refl _) _).trans hbel; clear hown hbel)
  go_loopw [9] (fun v wr => ∃ (j q : Nat) (A2 : Option Addr) (c2 : Nat), q = 1 + n + j ∧ q ≤ 60 ∧ v = .slice A2 q c2 ∧ Own wr w.heap.size 5 (.slice A2 q c2) q (x :: p ++ List.replicate j 0) ∧ Below w.heap.size w wr)
    (fun v _ => 60 - (match v with | .slice _ q _ => q | _ => 0))
  case atStart => exact ⟨0, 1 + n, A1, c1, rfl, by omega, rfl, by simpa using HO1.out, HB1.out⟩
  case round =>
    obtain ⟨j, q, A2, c2, hq, hq60, rfl, hown, hbel⟩ := hrel
    have HO2 := Lib.hid hown
    have HB2 := Lib.hid hbel
    have HQ := Lib.hid hq
    clear hown hbel hq HO1 HB1
    by_cases hlt : q < 60
    · go_wp2_with (at_builtin; refine wpList_append_byt rfl Tryd.u8w (.tmp 19) (.tmp 20) rfl rfl (HO2.out.keep ((Below.refl _ _).alloc (Nat.le_refl _) _)) rfl (Byt.new wr _ _ _ [0] rfl) ?_ ?_ ?_; (simp; omega); (have := HB2.out.size; simp; omega); intro A3 c3 w3 hown3 hbel3; have HO3 := Lib.hid hown3; have HB3 : Hid (Below w.heap.size w w3) := (HB2.out.alloc HB2.out.size _).trans hbel3; clear hown3 hbel3)
      go_roundw
      case rel =>
        refine ⟨j + 1, q + 1, A3, c3, by have := HQ.out; omega, by omega, rfl, ?_, HB3.out⟩
        have := HO3.out
        rw [List.append_assoc, ← List.replicate_succ'] at this
        exact this
      case measure => simp; omega
    · have hqe : q = 60 := by omega
      subst hqe
      have hj : x :: p ++ List.replicate j 0 = fb := by have := HQ.out; rw [← HFB.out]; congr 2; omega
      rw [hj] at HO2
      clear hj hlt hq60
      go_wp2_with fail
      refine (refPut_any [] _ 0 0 0 s 8 wr (Byt.nil _ _ _) (by decide) (Nat.zero_le _) (by decide) (by decide)).mono ?_
      rw [show putB [] s 8 = be 8 s from rfl]
      rintro e w3 ⟨A3, c3, rfl, hown, hbel⟩
      rw [be_len] at hown ⊢
      have HO3 := Lib.hid (HO2.out.keep hbel)
      have HP3 := Lib.hid hown
      have HB4 := Lib.hid (HB2.out.trans (hbel.mono (HB2.out.size)))
      clear hown hbel HO2 HB2
      go_wp2_with fail
      refine (refPut_any (be 8 s) _ 8 c3 _ t 4 w3 HP3.out.byt (by decide) (Nat.le_refl _) (by decide) (by decide)).mono ?_
      rw [show putB (be 8 s) t 4 = fplace s t from rfl]
      rintro e w4 ⟨A4, c4, rfl, hown, hbel⟩
      have hpl : (fplace s t).length = 12 := by simp [fplace, be_len]
      rw [hpl] at hown ⊢
      have HO4 := Lib.hid (HO3.out.keep hbel)
      have HP4 := Lib.hid hown
      have HB5 := Lib.hid (HB4.out.trans (hbel.mono (HB4.out.size)))
      have HS4 := Lib.hid hbel.size
      clear hown hbel HP3 hpl
      go_wp2_with (at_builtin; refine wpList_append_byt rfl Tryd.u8w (.tmp 29) (.tmp 30) rfl rfl HP4.out rfl HO4.out.byt (by decide) HS4.out ?_; intro A5 c5 w5 hown hbel; have HP5 := Lib.hid hown; have HO5 := Lib.hid (HO4.out.below hbel fun g hg => HO3.out.lt hg); have HB6 := Lib.hid (HB5.out.trans (hbel.mono HB4.out.size)); clear hown hbel)
      refine (refSum_any (fplace s t ++ fb) _ 72 c5 _ w5 HP5.out.byt (by decide)).mono ?_
      rintro e w' ⟨rfl, rfl⟩
      rw [HZ.out]
      go_wp2_with fail
      refine (refPut_any fb _ 60 c2 _ z 4 w5 HO5.out.byt (by decide) (Nat.le_refl _) (by decide) (by decide)).mono ?_
      rintro e w6 ⟨A6, c6, rfl, hown, hbel⟩
      have HO6 := Lib.hid hown
      have HB7 := Lib.hid (HB6.out.trans (hbel.mono (HB6.out.size)))
      clear hown hbel
      go_wp2_with fail
      go_ret
      rw [PutRes, HR.out]
      exact ⟨A6, c6, rfl, HO6.out.mono HB6.out.size, HB7.out⟩

/-- What Decode returns. -/
def DecRes (r : Option (List UInt8)) (w : World) (e : Ending) (w' : World) : Prop :=
  ∃ A c, e = .returned (.tuple #[.slice A (r.getD []).length c, .bool r.isSome]) ∧ Own w' w.heap.size 5 (.slice A (r.getD []).length c) (r.getD []).length (r.getD []) ∧ Below w.heap.size w w'
theorem DecRes.none_ (w : World) {w' : World} (h : Below w.heap.size w w') : DecRes none w (.returned (.tuple #[.slice none 0 0, .bool false])) w' := ⟨none, 0, rfl, Own.nil _ _ _, h⟩


end Go.Proofs.YthgpmnblkhehkaaDoor
