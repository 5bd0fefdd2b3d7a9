/- The walk of the law CrcBurst. -/
import Derived.Test.YtmbelomekihdkaaDoorCrcPartsWalk
import Derived.Test.YtmbelomekihdkaaDoorCrcBurst
import Derived.Laws.OwnMore
namespace Go.Proofs.YtmbelomekihdkaaDoor
open Go.RowKit

theorem run_equalIn_arr4 {P : Program} (w : World) (d : Nat) {t e : TypeId} {k : IntKind} {i : TypeInfo} (ht : P.underlying t = some (.array 4 e)) (he : P.underlying e = some (.int k)) (hi : P.info? e = some i) (hs : i.size = 1)
    (a0 a1 a2 a3 b0 b1 b2 b3 : Int) :
    (Op.equalIn (d + 2) t (.agg #[.int k a0, .int k a1, .int k a2, .int k a3]) (.agg #[.int k b0, .int k b1, .int k b2, .int k b3])).run P w = .ok ((a0 == b0) && ((a1 == b1) && ((a2 == b2) && (a3 == b3)))) w := by
  rw [Op.equalIn]
  have hq : ∀ (a b : Int) w, (Op.equalIn (d + 1) e (.int k a) (.int k b)).run P w = .ok (a == b) w := fun a b w => run_equalIn_int w d e k k a b he
  simp [run_underlying ht, sizeOf, typeInfo, hi, hs, part, isAgg, run_underlying he, hq, show List.range' 0 4 = [0, 1, 2, 3] from rfl]
  by_cases h0 : a0 = b0 <;> by_cases h1 : a1 = b1 <;> by_cases h2 : a2 = b2 <;> by_cases h3 : a3 = b3 <;> simp_all

theorem u8_xor_u8 (a b : UInt8) : bits .xor .u8 (a.toNat : Int) (b.toNat : Int) = (((a ^^^ b).toNat : Nat) : Int) := by
  rw [u8_xor_nat _ _ a.toNat_lt b.toNat_lt, UInt8.toNat_xor]

/-- The box that holds the array x. -/
def Box4 (w : World) (g : Nat) (x0 x1 x2 x3 : UInt8) : Prop := ∀ j x, [x0, x1, x2, x3][j]? = some x → w.cell? ⟨g, j, none⟩ = some (.int .u8 (x.toNat : Int))
theorem Box4.new (w : World) (e : TypeId) (x0 x1 x2 x3 : UInt8) : Box4 (w.alloc (.cells #[.int .u8 (x0.toNat : Int), .int .u8 (x1.toNat : Int), .int .u8 (x2.toNat : Int), .int .u8 (x3.toNat : Int)] e)) w.heap.size x0 x1 x2 x3 := by
  intro j x hj
  rw [cell_of_row _ _ _ _ _ _ (heap_alloc_new w _)]
  match j, hj with
  | 0, hj => simp at hj; subst hj; rfl
  | 1, hj => simp at hj; subst hj; rfl
  | 2, hj => simp at hj; subst hj; rfl
  | 3, hj => simp at hj; subst hj; rfl
theorem Box4.below {w w' : World} {g B : Nat} {x0 x1 x2 x3 : UInt8} (h : Box4 w g x0 x1 x2 x3) (hb : Below B w w') (hg : g < B) : Box4 w' g x0 x1 x2 x3 := fun j x hj => (hb.cell (by exact hg)).trans (h j x hj)
theorem Box4.at_ {w : World} {g : Nat} {x0 x1 x2 x3 : UInt8} (h : Box4 w g x0 x1 x2 x3) {k : Nat} (hk : k < 4) : ∃ x, [x0, x1, x2, x3][k]? = some x ∧ w.cell? ⟨g, k, none⟩ = some (.int .u8 (x.toNat : Int)) := by
  have hl : k < [x0, x1, x2, x3].length := hk
  exact ⟨_, List.getElem?_eq_getElem hl, h k _ (List.getElem?_eq_getElem hl)⟩

theorem rel_burst {w wr : World} {B g c n q k : Nat} {e : TypeId} {bs : List UInt8} {x0 x1 x2 x3 x b : UInt8}
    (hown : Own wr (B + 1) e (.slice (some ⟨g, 0, none⟩) n c) n (Crc.burst bs q [x0, x1, x2, x3] k)) (hbox : Box4 wr B x0 x1 x2 x3) (hbel : Below B w wr)
    (hb : (Crc.burst bs q [x0, x1, x2, x3] k)[q + k]? = some b) (hx : [x0, x1, x2, x3][k]? = some x) :
    ∀ w2, w2 = (wr.setCell ⟨g, q + k, none⟩ (.int .u8 ((b.toNat ^^^ x.toNat : Nat) : Int))).drew →
    Own w2 (B + 1) e (.slice (some ⟨g, 0, none⟩) n c) n (Crc.burst bs q [x0, x1, x2, x3] (k + 1)) ∧ Box4 w2 B x0 x1 x2 x3 ∧ Below B w w2 := by
  rw [← UInt8.toNat_xor]
  rintro _ rfl
  have hge := hown.ge (g := g) rfl
  refine ⟨?_, fun j y hj => ?_, (hbel.setCell (by show B ≤ g; omega) _).drew⟩
  · have h1 := (World.ownsRow.stored hown (q + k) (.int .u8 ((b ^^^ x).toNat : Int))).1
    have e1 : Crc.burst bs q [x0, x1, x2, x3] (k + 1) = (Crc.burst bs q [x0, x1, x2, x3] k).set (q + k) (b ^^^ x) := by
      simp [Crc.burst, List.getD, hb, hx]
    unfold Own
    rw [e1, show bytes ((Crc.burst bs q [x0, x1, x2, x3] k).set (q + k) (b ^^^ x)) = (bytes (Crc.burst bs q [x0, x1, x2, x3] k)).set (q + k) (.int .u8 ((b ^^^ x).toNat : Int)) from by simp [bytes, List.map_set]]
    exact h1
  · exact (World.cell?_setCell_other _ _ _ _ (fun he => by injection he; omega)).trans (hbox j y hj)

theorem burst_pos (pos n : Int) (h1 : 4 ≤ n) : -(n - 3) < pos.tmod (n - 3) ∧ pos.tmod (n - 3) < n - 3 ∧ ∃ q : Nat, (pos.tmod (n - 3) + n - 3) % (n - 3) = q ∧ (q : Int) + 4 ≤ n := by
  have h2 : pos.tmod (n - 3) < n - 3 := Int.tmod_lt_of_pos pos (by omega : 0 < n - 3)
  have h3 : -(n - 3) < pos.tmod (n - 3) := Int.lt_tmod_of_pos pos (by omega : 0 < n - 3)
  have h4 := Int.emod_nonneg (pos.tmod (n - 3) + n - 3) (by omega : n - 3 ≠ 0)
  have h5 := Int.emod_lt_of_pos (pos.tmod (n - 3) + n - 3) (by omega : 0 < n - 3)
  exact ⟨h3, h2, ((pos.tmod (n - 3) + n - 3) % (n - 3)).toNat, by omega, by omega⟩

set_option maxHeartbeats 1000000 in
theorem crcBurst_any (bs : List UInt8) (A : Option Addr) (n cap : Nat) (pos : Int) (x0 x1 x2 x3 : UInt8) (w : World) (ht : TabAt w) (h0 : 0 < w.heap.size) (hb : Byt w w.heap.size A n bs)
    (hn : n ≤ cap) (hcap : cap ≤ 9223372036854775807) :
    Calls Tryd.prog 5 #[.slice A n cap, .int .i64 pos, .agg #[.int .u8 (x0.toNat : Int), .int .u8 (x1.toNat : Int), .int .u8 (x2.toNat : Int), .int .u8 (x3.toNat : Int)]] w
      fun e w' => e = .returned (.bool true) ∧ Below w.heap.size w w' := by
  have HA : Hid (∀ m w', m ≤ n → Below w.heap.size w w' → Byt w' w.heap.size A m (bs.take m)) := fun m w' hm hw => (hb.take hm).below hw
  have HT := Lib.hid ht
  have H0 := Lib.hid h0
  clear hb ht h0
  by_cases h4 : n < 4
  · go_enter Tryd.func5, Tryd.ntmps5
    go_wp2_with fail
    refine (awake_any _ (HT.out.below ((Below.refl _ _).alloc (Nat.le_refl _) _) H0.out) (by simp)).mono ?_
    rintro e w1 ⟨rfl, hw1⟩
    have HW : Hid (Below w.heap.size w w1) := ((Below.refl _ _).alloc (Nat.le_refl _) _).trans (hw1.mono (by simp))
    clear hw1
    go_wp2
    go_ret
    exact ⟨rfl, HW.out⟩
  obtain ⟨i0, hi, hz0, hz1, hz2⟩ := info_parts Tryd.u8s.info
  have heq : ∀ w : World, (Op.equalIn 10000 29 (.agg #[.int .u8 (x0.toNat : Int), .int .u8 (x1.toNat : Int), .int .u8 (x2.toNat : Int), .int .u8 (x3.toNat : Int)]) (.agg #[.int .u8 0, .int .u8 0, .int .u8 0, .int .u8 0])).run Tryd.prog w =
      .ok (decide (x0 = 0 ∧ x1 = 0 ∧ x2 = 0 ∧ x3 = 0)) w := by
    intro w
    rw [run_equalIn_arr4 w 9998 Tryd.underlying29 Tryd.underlying5 hi hz1]
    congr 1
    have hc : ∀ x : UInt8, ((x.toNat : Int) == 0) = decide (x = 0) := fun x => by
      by_cases h : x = 0
      · subst h; rfl
      · have : x.toNat ≠ 0 := fun h' => h (UInt8.toNat_inj.1 h')
        simp [h]; omega
    rw [hc, hc, hc, hc]
    simp
  clear hi hz0 hz1 hz2
  have hsz := Lib.hid (show (100 : Nat) ≤ 140737488355328 from by decide)
  by_cases hx : x0 = 0 ∧ x1 = 0 ∧ x2 = 0 ∧ x3 = 0
  · rw [decide_eq_true hx] at heq
    clear hx
    by_cases h100 : n ≤ 100
    all_goals
      go_enter Tryd.func5, Tryd.ntmps5
      go_wp2_with fail
      refine (awake_any _ (HT.out.below ((Below.refl _ _).alloc (Nat.le_refl _) _) H0.out) (by simp)).mono ?_
      rintro e w1 ⟨rfl, hw1⟩
      have HW : Hid (Below w.heap.size w w1) := ((Below.refl _ _).alloc (Nat.le_refl _) _).trans (hw1.mono (by simp))
      clear hw1
      go_wp2
      go_ret
      exact ⟨rfl, HW.out⟩
  rw [decide_eq_false hx] at heq
  have HX := Lib.hid hx
  clear hx
  by_cases h100 : n ≤ 100
  · obtain ⟨p1, p2, q, p3, p4⟩ := burst_pos pos (n : Int) (by omega)
    go_enter Tryd.func5, Tryd.ntmps5
    go_wp2_with (at_builtin; refine wpList_append_byt rfl Tryd.u8s (.const (.slice none 0 0)) (.tmp 36) rfl rfl (Own.nil _ (w.heap.size + 1) _) rfl (HA.out _ _ ?_ ((Below.refl _ _).alloc (Nat.le_refl _) _)) ?_ ?_ ?_; omega; omega; simp; intro A1 c1 w1 hown1 hb1; simp only [Nat.zero_add, List.nil_append] at hown1; have HO1 := Lib.hid hown1; have HW1 := Lib.hid hb1; clear hown1 hb1)
    clear p1 p2 p3
    obtain ⟨g, hg⟩ := HO1.out.head (by omega)
    subst hg
    have HP : Hid (q + 4 ≤ (bs.take n).length) := by rw [HO1.out.len]; show q + 4 ≤ _; omega
    go_loopw [8] (fun i wr => ∃ k : Nat, k ≤ 4 ∧ i = .int .i64 k ∧ Own wr (w.heap.size + 1) 5 (.slice (some ⟨g, 0, none⟩) n c1) n (Crc.burst (bs.take n) q [x0, x1, x2, x3] k) ∧ Box4 wr w.heap.size x0 x1 x2 x3 ∧ Below w.heap.size w wr) (fun i _ => 4 - (intOf i).toNat)
    case atStart => exact ⟨0, by omega, rfl, HO1.out, Box4.below (Box4.new w _ x0 x1 x2 x3) HW1.out (by omega), ((Below.refl _ _).alloc (Nat.le_refl _) _).trans (HW1.out.mono (by omega))⟩
    case round =>
      obtain ⟨k, hk, rfl, hown, hbox, hbel⟩ := hrel
      by_cases hlt : k < 4
      · obtain ⟨x, hx1, hx2⟩ := hbox.at_ hlt
        obtain ⟨b, hb1, hb2, hb3⟩ := hown.at_ (q + k) (by omega)
        have hxor := u8_xor_u8 b x
        have HR := Lib.hid (rel_burst (x := x) hown hbox hbel hb1 hx1)
        have hk1 : (0 : Int) ≤ (k : Int) := by omega
        have hk2 : (k : Int) < 4 := by omega
        clear hown hbox hbel hb1 hx1
        go_wp2
        go_region
        go_wp2
        go_roundw
        case rel => exact ⟨k + 1, by omega, by go_num, HR.out _ rfl⟩
        case measure => simp [intOf]; omega
      · have hk4 : k = 4 := by omega
        subst hk4
        have HO := Lib.hid hown
        have HB := Lib.hid hbel
        have hne := Crc.burst_sum (bs.take n) q x0 x1 x2 x3 HP.out HX.out
        have HN := Lib.hid hne
        clear hown hbel hbox hne
        go_wp2_with (first
          | (go_at_call 8
             refine (awake_any _ (HT.out.below HB.out H0.out) (Nat.lt_of_lt_of_le H0.out HB.out.size)).mono ?_
             rintro e w3 ⟨rfl, hw3⟩
             have HW3 := Lib.hid (HB.out.trans (hw3.mono HB.out.size))
             have HO3 := Lib.hid (HO.out.keep hw3)
             clear hw3))
        refine (sum_any _ _ _ _ w.heap.size _ (HT.out.below HW3.out H0.out) (HA.out _ _ ?_ HW3.out) ?_).mono ?_
        · omega
        · omega
        rintro e w' ⟨rfl, rfl⟩
        go_wp2_with fail
        refine (sum_any _ _ _ _ _ _ (HT.out.below HW3.out H0.out) HO3.out.byt ?_).mono ?_
        · omega
        rintro e w' ⟨rfl, rfl⟩
        have hb1 : ((Crc.sum (bs.take n) : Int) != (Crc.sum (Crc.burst (bs.take n) q [x0, x1, x2, x3] 4) : Int)) = true := by
          have := HN.out
          simp only [bne_iff_ne, ne_eq]
          omega
        generalize Crc.sum (Crc.burst (bs.take n) q [x0, x1, x2, x3] 4) = s2 at *
        generalize Crc.sum (bs.take n) = s1 at *
        go_wp2
        go_ret
        exact ⟨rfl, HW3.out⟩
  · obtain ⟨p1, p2, q, p3, p4⟩ := burst_pos pos 100 (by omega)
    simp only [show (100 : Int) - 3 = 97 from rfl] at p1 p2 p3
    go_enter Tryd.func5, Tryd.ntmps5
    go_wp2_with (at_builtin; refine wpList_append_byt rfl Tryd.u8s (.const (.slice none 0 0)) (.tmp 36) rfl rfl (Own.nil _ (w.heap.size + 1) _) rfl (HA.out _ _ ?_ ((Below.refl _ _).alloc (Nat.le_refl _) _)) ?_ ?_ ?_; omega; omega; simp; intro A1 c1 w1 hown1 hb1; simp only [Nat.zero_add, List.nil_append] at hown1; have HO1 := Lib.hid hown1; have HW1 := Lib.hid hb1; clear hown1 hb1)
    clear p1 p2 p3
    obtain ⟨g, hg⟩ := HO1.out.head (by omega)
    subst hg
    have HP : Hid (q + 4 ≤ (bs.take 100).length) := by rw [HO1.out.len]; show q + 4 ≤ _; omega
    go_loopw [8] (fun i wr => ∃ k : Nat, k ≤ 4 ∧ i = .int .i64 k ∧ Own wr (w.heap.size + 1) 5 (.slice (some ⟨g, 0, none⟩) 100 c1) 100 (Crc.burst (bs.take 100) q [x0, x1, x2, x3] k) ∧ Box4 wr w.heap.size x0 x1 x2 x3 ∧ Below w.heap.size w wr) (fun i _ => 4 - (intOf i).toNat)
    case atStart => exact ⟨0, by omega, rfl, HO1.out, Box4.below (Box4.new w _ x0 x1 x2 x3) HW1.out (by omega), ((Below.refl _ _).alloc (Nat.le_refl _) _).trans (HW1.out.mono (by omega))⟩
    case round =>
      obtain ⟨k, hk, rfl, hown, hbox, hbel⟩ := hrel
      by_cases hlt : k < 4
      · obtain ⟨x, hx1, hx2⟩ := hbox.at_ hlt
        obtain ⟨b, hb1, hb2, hb3⟩ := hown.at_ (q + k) (by omega)
        have hxor := u8_xor_u8 b x
        have HR := Lib.hid (rel_burst (x := x) hown hbox hbel hb1 hx1)
        have hk1 : (0 : Int) ≤ (k : Int) := by omega
        have hk2 : (k : Int) < 4 := by omega
        clear hown hbox hbel hb1 hx1
        go_wp2
        go_region
        go_wp2
        go_roundw
        case rel => exact ⟨k + 1, by omega, by go_num, HR.out _ rfl⟩
        case measure => simp [intOf]; omega
      · have hk4 : k = 4 := by omega
        subst hk4
        have HO := Lib.hid hown
        have HB := Lib.hid hbel
        have hne := Crc.burst_sum (bs.take 100) q x0 x1 x2 x3 HP.out HX.out
        have HN := Lib.hid hne
        clear hown hbel hbox hne
        go_wp2_with (first
          | (go_at_call 8
             refine (awake_any _ (HT.out.below HB.out H0.out) (Nat.lt_of_lt_of_le H0.out HB.out.size)).mono ?_
             rintro e w3 ⟨rfl, hw3⟩
             have HW3 := Lib.hid (HB.out.trans (hw3.mono HB.out.size))
             have HO3 := Lib.hid (HO.out.keep hw3)
             clear hw3))
        refine (sum_any _ _ _ _ w.heap.size _ (HT.out.below HW3.out H0.out) (HA.out _ _ ?_ HW3.out) ?_).mono ?_
        · omega
        · omega
        rintro e w' ⟨rfl, rfl⟩
        go_wp2_with fail
        refine (sum_any _ _ _ _ _ _ (HT.out.below HW3.out H0.out) HO3.out.byt ?_).mono ?_
        · omega
        rintro e w' ⟨rfl, rfl⟩
        have hb1 : ((Crc.sum (bs.take 100) : Int) != (Crc.sum (Crc.burst (bs.take 100) q [x0, x1, x2, x3] 4) : Int)) = true := by
          have := HN.out
          simp only [bne_iff_ne, ne_eq]
          omega
        generalize Crc.sum (Crc.burst (bs.take 100) q [x0, x1, x2, x3] 4) = s2 at *
        generalize Crc.sum (bs.take 100) = s1 at *
        go_wp2
        go_ret
        exact ⟨rfl, HW3.out⟩
end Go.Proofs.YtmbelomekihdkaaDoor
