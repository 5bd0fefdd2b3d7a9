/- The walks of record.fields and record.head. -/
import Derived.Test.YthgpmnblkhehkaaDoorRecord
import Derived.Test.YthgpmnblkhehkaaDoorWireWalks
namespace Go.Proofs.YthgpmnblkhehkaaDoor
open Go.RowKit

/-- Numbers, appended one after the other. -/
def putAll (pre : List UInt8) (ps : List (Nat × Nat)) : List UInt8 := ps.foldl (fun b p => b ++ be p.2 p.1) pre
theorem putAll_take (pre : List UInt8) (ps : List (Nat × Nat)) (k : Nat) (p : Nat × Nat) (h : ps[k]? = some p) : putAll pre (ps.take (k + 1)) = putAll pre (ps.take k) ++ be p.2 p.1 := by
  have hk : k < ps.length := (List.getElem?_eq_some_iff.1 h).1
  have he : ps[k] = p := by rw [List.getElem?_eq_getElem hk] at h; injection h
  rw [List.take_succ_eq_append_getElem hk, putAll, List.foldl_append, he]
  rfl
theorem putAll_len (pre : List UInt8) (ps : List (Nat × Nat)) (h : ∀ p ∈ ps, p.2 ≤ 8) : (putAll pre ps).length ≤ pre.length + 8 * ps.length := by
  induction ps generalizing pre with
  | nil => simp [putAll]
  | cons p ps ih =>
    have h1 := ih (pre ++ be p.2 p.1) (fun q hq => h q (by simp [hq]))
    have h2 := h p (by simp)
    have e : putAll pre (p :: ps) = putAll (pre ++ be p.2 p.1) ps := rfl
    rw [e]
    simp only [List.length_append, be_len, List.length_cons] at h1 ⊢
    omega

/-- A slice that reads as these bytes is returned. -/
def BytRes (bs : List UInt8) (w : World) (e : Ending) (w' : World) : Prop :=
  ∃ A' c', e = .returned (.slice A' bs.length c') ∧ Byt w' w'.heap.size A' bs.length bs ∧ Below w.heap.size w w'
/-- The numbers and the widths lie in the blocks g and g'. -/
def Pairs (w : World) (g g' : Nat) (ps : List (Nat × Nat)) : Prop := ∀ j p, ps[j]? = some p → w.cell? ⟨g, j, none⟩ = some (.int .i64 (p.1 : Int)) ∧ w.cell? ⟨g', j, none⟩ = some (.int .i64 (p.2 : Int))

set_option maxHeartbeats 1000000 in
theorem fields_any (ps : List (Nat × Nat)) (out : List UInt8) (ho : putAll [] ps = out) (hps : ∀ p ∈ ps, p.1 ≤ 9223372036854775807 ∧ 1 ≤ p.2 ∧ p.2 ≤ 8) (m : Nat) (hm : ps.length = m) (hm6 : m ≤ 100) (g g' c c' : Nat) (w : World) (hp : Pairs w g g' ps) (hg : g < w.heap.size) (hg' : g' < w.heap.size) :
    Calls Tryd.prog 77 #[.slice none 0 0, .slice (some ⟨g, 0, none⟩) m c, .slice (some ⟨g', 0, none⟩) m c'] w (BytRes out w) := by
  have HP := Lib.hid hp
  have HPS := Lib.hid hps
  have HM := Lib.hid hm
  have HO := Lib.hid ho
  have HG : Hid (g < w.heap.size ∧ g' < w.heap.size) := ⟨hg, hg'⟩
  clear hp hps hm ho hg hg'
  go_enter Tryd.func77, Tryd.ntmps77
  go_wp2
  go_loopw [0, 7, 8, 11] (fun b _ _ i wr => ∃ (k : Nat) (A2 : Option Addr) (c2 q : Nat), k ≤ m ∧ i = .int .i64 k ∧ b = .slice A2 q c2 ∧ q ≤ 8 * k ∧ Byt wr wr.heap.size A2 q (putAll [] (ps.take k)) ∧ Below w.heap.size w wr) (fun _ _ _ i _ => m - (intOf i).toNat)
  case atStart => exact ⟨0, none, 0, 0, Nat.zero_le _, rfl, rfl, by omega, Byt.nil _ _ _, Below.refl _ _⟩
  case round =>
    obtain ⟨k, A2, c2, q, hk, rfl, rfl, hq, hbyt, hbel⟩ := hrel
    have HB := Lib.hid hbyt
    have HW := Lib.hid hbel
    clear hbyt hbel
    by_cases hlt : k < m
    · obtain ⟨⟨n, wd⟩, hpk⟩ : ∃ p, ps[k]? = some p := ⟨_, List.getElem?_eq_getElem (by rw [HM.out]; exact hlt)⟩
      obtain ⟨hc1, hc2⟩ := HP.out k _ hpk
      obtain ⟨hn, hw1, hw8⟩ := HPS.out _ (List.mem_of_getElem? hpk)
      have hcell1 : wr.cell? ⟨g, k, none⟩ = some (.int .i64 (n : Int)) := (HW.out.cell HG.out.1).trans hc1
      have hcell2 : wr.cell? ⟨g', k, none⟩ = some (.int .i64 (wd : Int)) := (HW.out.cell HG.out.2).trans hc2
      have HT := Lib.hid (putAll_take [] ps k _ hpk)
      have hn' : (n : Int) ≤ 9223372036854775807 := by simp only at hn; omega
      simp only at hw1 hw8
      clear hc1 hc2 hpk hn
      go_wp2_with fail
      refine (put_any (putAll [] (ps.take k)) A2 q c2 wr.heap.size n wd wr HB.out (by omega) (Nat.le_refl _) (by omega) (by omega)).mono ?_
      rw [show putB (putAll [] (ps.take k)) n (wd : Int) = putAll [] (ps.take k) ++ be wd n from by rw [putB, if_pos ⟨by omega, by omega⟩]; rfl]
      rintro e w1 ⟨A3, c3, rfl, hown, hbel⟩
      rw [List.length_append, be_len, HB.out.len] at hown ⊢
      have HB3 := Lib.hid hown.byt
      have HW3 : Hid (Below w.heap.size w w1) := HW.out.trans (hbel.mono HW.out.size)
      clear hown hbel
      go_wp2
      go_roundw
      case rel => exact ⟨k + 1, A3, c3, q + wd, by omega, by go_num, rfl, by omega, by rw [HT.out]; exact HB3.out, HW3.out⟩
      case measure => simp [intOf]; omega
    · have hkm : k = m := by omega
      subst hkm
      have hall : putAll [] (ps.take k) = out := by rw [List.take_of_length_le (by rw [HM.out]; exact Nat.le_refl _), HO.out]
      rw [hall] at HB
      obtain rfl := HB.out.len
      clear hall
      go_wp2
      go_ret
      exact ⟨A2, c2, rfl, HB.out, HW.out⟩

theorem Pairs.lit {w : World} {g g' : Nat} {ps : List (Nat × Nat)} {cs cs' : Array Value} {e e' : TypeId} {fr fr' : Nat × Nat} (h : w.heap[g]? = some (.cells cs e fr)) (h' : w.heap[g']? = some (.cells cs' e' fr')) (hc : cs.toList = ps.map fun p => .int .i64 (p.1 : Int)) (hc' : cs'.toList = ps.map fun p => .int .i64 (p.2 : Int)) : Pairs w g g' ps := by
  intro j p hj
  rw [cell_of_row _ _ _ _ _ _ h, cell_of_row _ _ _ _ _ _ h', ← Array.getElem?_toList, ← Array.getElem?_toList, hc, hc', List.getElem?_map, List.getElem?_map, hj]
  exact ⟨rfl, rfl⟩

def hps1 (ki nk nv ex : Nat) : List (Nat × Nat) := [(161, 1), (ki, 1), (nk, 1), (0, 1), (nv, 4), (ex, 4)]
def hps2 (ki nk nv ex : Nat) : List (Nat × Nat) := [(162, 1), (nk, 1), (16 * ki, 1), (nv, 3), (0, 1), (ex, 5)]
theorem hps1_all (ki nk nv ex : Nat) : putAll [] (hps1 ki nk nv ex) = rhead 1 ki nk nv ex := by
  simp only [putAll, hps1, List.foldl_cons, List.foldl_nil, be_one, rhead, if_true, List.nil_append, List.cons_append, List.append_assoc]
  rfl
theorem hps2_all (ki nk nv ex : Nat) : putAll [] (hps2 ki nk nv ex) = rhead 2 ki nk nv ex := by
  have h : ¬ (2 : Int) = 1 := by decide
  simp only [putAll, hps2, List.foldl_cons, List.foldl_nil, be_one, rhead, if_neg h, List.nil_append, List.cons_append, List.append_assoc]
  rfl

set_option maxHeartbeats 1000000 in
theorem head_any (v : Int) (ki nk nv ex : Nat) (Ak Av : Option Addr) (ck cv : Nat) (hv : v = 1 ∨ v = 2) (hki : ki ≤ 3) (hk : nk ≤ 1000000) (hvn : nv ≤ 1000000) (hex : ex ≤ 1099511627775) (w : World) :
    Calls Tryd.prog 76 #[.int .i64 v, .agg #[.int .i64 (ki : Int), .slice Ak nk ck, .slice Av nv cv, .int .i64 (ex : Int)]] w (BytRes (rhead v ki nk nv ex) w) := by
  rcases hv with rfl | rfl
  · have HH := Lib.hid (hps1_all ki nk nv ex)
    have HBX : Hid (Below w.heap.size w (((w.alloc (.cells #[.int .i64 (ki : Int), .slice Ak nk ck, .slice Av nv cv, .int .i64 (ex : Int)] 36)).alloc (.cells #[.int .i64 161, .int .i64 (ki : Int), .int .i64 (nk : Int), .int .i64 0, .int .i64 (nv : Int), .int .i64 (ex : Int)] 3)).alloc (.cells #[.int .i64 1, .int .i64 1, .int .i64 1, .int .i64 1, .int .i64 4, .int .i64 4] 3))) :=
      Below.alloc (Below.alloc (Below.alloc (Below.refl _ _) (Nat.le_refl _) _) (by simp) _) (by simp; omega) _
    go_enter Tryd.func76, Tryd.ntmps76
    go_wp2_with fail
    refine (fields_any (hps1 ki nk nv ex) _ HH.out ?_ 6 rfl (by decide) (w.heap.size + 1) (w.heap.size + 1 + 1) 6 6 _ ?_ (by simp) (by simp)).mono ?_
    · intro p hp
      simp only [hps1, List.mem_cons, List.not_mem_nil, or_false] at hp
      rcases hp with rfl | rfl | rfl | rfl | rfl | rfl <;> simp only <;> omega
    · refine Pairs.lit (cs := #[.int .i64 161, .int .i64 (ki : Int), .int .i64 (nk : Int), .int .i64 0, .int .i64 (nv : Int), .int .i64 (ex : Int)]) (cs' := #[.int .i64 1, .int .i64 1, .int .i64 1, .int .i64 1, .int .i64 4, .int .i64 4]) (e := 3) (e' := 3) (fr := (0, 0)) (fr' := (0, 0)) ?_ ?_ rfl rfl
      · have h1 := heap_alloc_new (w.alloc (.cells #[.int .i64 (ki : Int), .slice Ak nk ck, .slice Av nv cv, .int .i64 (ex : Int)] 36)) (.cells #[.int .i64 161, .int .i64 (ki : Int), .int .i64 (nk : Int), .int .i64 0, .int .i64 (nv : Int), .int .i64 (ex : Int)] 3)
        rw [World.size_alloc] at h1
        exact (Below.heap_alloc _ _ _ (by simp)).trans h1
      · have h1 := heap_alloc_new ((w.alloc (.cells #[.int .i64 (ki : Int), .slice Ak nk ck, .slice Av nv cv, .int .i64 (ex : Int)] 36)).alloc (.cells #[.int .i64 161, .int .i64 (ki : Int), .int .i64 (nk : Int), .int .i64 0, .int .i64 (nv : Int), .int .i64 (ex : Int)] 3)) (.cells #[.int .i64 1, .int .i64 1, .int .i64 1, .int .i64 1, .int .i64 4, .int .i64 4] 3)
        rw [World.size_alloc, World.size_alloc] at h1
        exact h1
    · rintro e w1 ⟨A1, c1, rfl, hb, hbel⟩
      rw [rhead_len] at hb ⊢
      have HB := Lib.hid hb
      have HW := Lib.hid (HBX.out.trans (hbel.mono HBX.out.size))
      clear hb hbel
      go_wp2_with fail
      go_ret
      exact ⟨A1, c1, by rw [rhead_len]; rfl, by rw [rhead_len]; exact HB.out, HW.out⟩
  · have HH := Lib.hid (hps2_all ki nk nv ex)
    have HBX : Hid (Below w.heap.size w (((w.alloc (.cells #[.int .i64 (ki : Int), .slice Ak nk ck, .slice Av nv cv, .int .i64 (ex : Int)] 36)).alloc (.cells #[.int .i64 162, .int .i64 (nk : Int), .int .i64 (16 * (ki : Int)), .int .i64 (nv : Int), .int .i64 0, .int .i64 (ex : Int)] 3)).alloc (.cells #[.int .i64 1, .int .i64 1, .int .i64 1, .int .i64 3, .int .i64 1, .int .i64 5] 3))) :=
      Below.alloc (Below.alloc (Below.alloc (Below.refl _ _) (Nat.le_refl _) _) (by simp) _) (by simp; omega) _
    go_enter Tryd.func76, Tryd.ntmps76
    go_wp2_with fail
    refine (fields_any (hps2 ki nk nv ex) _ HH.out ?_ 6 rfl (by decide) (w.heap.size + 1) (w.heap.size + 1 + 1) 6 6 _ ?_ (by simp) (by simp)).mono ?_
    · intro p hp
      simp only [hps2, List.mem_cons, List.not_mem_nil, or_false] at hp
      rcases hp with rfl | rfl | rfl | rfl | rfl | rfl <;> simp only <;> omega
    · refine Pairs.lit (cs := #[.int .i64 162, .int .i64 (nk : Int), .int .i64 (16 * (ki : Int)), .int .i64 (nv : Int), .int .i64 0, .int .i64 (ex : Int)]) (cs' := #[.int .i64 1, .int .i64 1, .int .i64 1, .int .i64 3, .int .i64 1, .int .i64 5]) (e := 3) (e' := 3) (fr := (0, 0)) (fr' := (0, 0)) ?_ ?_ (by simp [hps2]) rfl
      · have h1 := heap_alloc_new (w.alloc (.cells #[.int .i64 (ki : Int), .slice Ak nk ck, .slice Av nv cv, .int .i64 (ex : Int)] 36)) (.cells #[.int .i64 162, .int .i64 (nk : Int), .int .i64 (16 * (ki : Int)), .int .i64 (nv : Int), .int .i64 0, .int .i64 (ex : Int)] 3)
        rw [World.size_alloc] at h1
        exact (Below.heap_alloc _ _ _ (by simp)).trans h1
      · have h1 := heap_alloc_new ((w.alloc (.cells #[.int .i64 (ki : Int), .slice Ak nk ck, .slice Av nv cv, .int .i64 (ex : Int)] 36)).alloc (.cells #[.int .i64 162, .int .i64 (nk : Int), .int .i64 (16 * (ki : Int)), .int .i64 (nv : Int), .int .i64 0, .int .i64 (ex : Int)] 3)) (.cells #[.int .i64 1, .int .i64 1, .int .i64 1, .int .i64 3, .int .i64 1, .int .i64 5] 3)
        rw [World.size_alloc, World.size_alloc] at h1
        exact h1
    · rintro e w1 ⟨A1, c1, rfl, hb, hbel⟩
      rw [rhead_len] at hb ⊢
      have HB := Lib.hid hb
      have HW := Lib.hid (HBX.out.trans (hbel.mono HBX.out.size))
      clear hb hbel
      go_wp2_with fail
      go_ret
      exact ⟨A1, c1, by rw [rhead_len]; rfl, by rw [rhead_len]; exact HB.out, HW.out⟩
end Go.Proofs.YthgpmnblkhehkaaDoor
