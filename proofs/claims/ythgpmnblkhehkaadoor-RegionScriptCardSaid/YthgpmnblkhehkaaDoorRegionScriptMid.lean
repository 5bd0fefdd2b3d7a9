/- What lies below the walk, merged. -/
import Derived.Test.YthgpmnblkhehkaaDoorRows
import Derived.Test.YthgpmnblkhehkaaDoorMem
import Derived.ProofKit
import Derived.SizedLaws
import Derived.Carry
import Derived.Test.YthgpmnblkhehkaaDoorCrcWalks
import Derived.Lib.LaidTab
import Derived.LaidMore
import Derived.OpenShut
import Derived.Stop.Joined
import Derived.Test.YthgpmnblkhehkaaDoorPackRefTake
import Derived.Deep.DeepCutAuto
import Derived.Deep.RegionHeld3
import Derived.Test.YthgpmnblkhehkaaDoorRegFlush
import Derived.Test.YthgpmnblkhehkaaDoorPackPad
import Derived.Test.YthgpmnblkhehkaaDoorPackOps
import Derived.Test.YthgpmnblkhehkaaDoorPackRef
import Derived.Test.YthgpmnblkhehkaaDoorHeaderValid
import Derived.Test.YthgpmnblkhehkaaDoorPackAwake
import Derived.Test.YthgpmnblkhehkaaDoorRegInv
import Derived.Test.YthgpmnblkhehkaaDoorCells
import Derived.Test.YthgpmnblkhehkaaDoorFormRef
import Derived.Test.YthgpmnblkhehkaaDoorPackTwo
import Derived.Test.YthgpmnblkhehkaaDoorVec
import Derived.Lib.SlBytesConst
import Derived.ChangeArms
import Derived.Deep.Slices
/- The shell of a law's statement: what the walk leaves is what the row asks; a slice of bytes among the arguments. -/
namespace Go.Proofs.YthgpmnblkhehkaaDoor
open Go.ChangeShapes Go.WideShapes Go.ChangeAt Go.RowKit

theorem Tryd.own : ownKnob Tryd.prog.godebug = none := by kernel_rfl
theorem Tryd.laidOut : laidOutB Tryd.prog = true := by kernel_rfl

section
variable {H : Type} {enc : TypeId × Value → H} {P : Program}

theorem trodAll_stays (hl : laidOutB P = true) {W W' : World} {sp' : Nat → Bool} : ∀ {ts : List TypeId} {vs : List Value} {ds : List (DataW H)} {ps : List MemPlace},
    (∀ t ∈ ts, P.readableRec t = true ∧ t < P.types.size) → DataW.TrodAll enc P W 0 (fun _ => true) true ts vs ds ps → (∀ p ∈ ps, W.sameAt W' p) → (∀ p ∈ ps, sp' p.block = true) →
    DataW.TrodAll enc P W' 0 sp' true ts vs ds ps
  | [], [], [], ps, _, h, _, _ => h
  | [], [], _ :: _, _, _, h, _, _ => by cases h
  | [], _ :: _, _, _, _, h, _, _ => by cases h
  | _ :: _, [], _, _, _, h, _, _ => by cases h
  | _ :: _, _ :: _, [], _, _, h, _, _ => by cases h
  | t :: ts, v :: vs, d :: ds, ps, hr, h, hsame, hs => by
    obtain ⟨p, q, h1, h2, rfl⟩ := h
    have hr0 := hr t (by simp)
    exact ⟨p, q, WideElems.Trod_stays hl hr0.1 hr0.2 h1 (fun x hx => hsame x (by simp [hx])) (fun x hx => hs x (by simp [hx])),
      trodAll_stays hl (fun t' ht' => hr t' (by simp [ht'])) h2 (fun x hx => hsame x (by simp [hx])) (fun x hx => hs x (by simp [hx])), rfl⟩

/-- The law returned true, and nothing that was there has turned: what the row asks. -/
theorem post_law {f : Func} {s : ChangeSpec} {W W' : World} {args : Array Value} {ds gs : List (DataW H)} {before : List MemPlace} {tb : TypeId}
    (hl : laidOutB P = true) (hr : ∀ t ∈ f.params.toList, P.readableRec t = true ∧ t < P.types.size) (hb0 : P.underlying tb = some .bool)
    (hres : f.resultTypes = #[tb]) (hvs : s.vars = []) (hspec : (s.fn H (ds ++ gs)).results = [.lit (.bool true)] ∧ (s.fn H (ds ++ gs)).args = ds ∧ (s.fn H (ds ++ gs)).vars = [])
    (hW : DataW.Whole enc P f.params.toList s.vars false W args.toList ds gs before) (hb : Below W.heap.size W W') :
    s.post enc P f false true false false W args (.bool true) W' := by
  have hlt : ∀ p ∈ before, p.block < W.heap.size := fun p hp => hW.lt p hp
  have hW' := hW
  obtain ⟨p, q, hA, hV, rfl, _, _⟩ := hW
  refine ⟨_, _, _, [], p, [], hW', ?_, ?_, ?_, hb.frame _, fun h => by cases h⟩
  · rw [hspec.1, hres]
    exact trodAll_mk1 (shut_bool hb0 true)
  · rw [hspec.2.1]
    exact trodAll_stays hl hr hA (fun x hx => hb.same (hlt x (by simp [hx]))) (fun x hx => by have := hlt x (by simp [hx]); simpa using this)
  · rw [hspec.2.2, hvs]
    exact rfl

theorem u8_of_wf {z : Int} (h : (Lit.int .u8 z).wf = true) : 0 ≤ z ∧ z < 256 := by
  simp [Lit.wf, IntKind.min, IntKind.max, IntKind.signed, IntKind.bits] at h
  omega
theorem u32_of_wf {z : Int} (h : (Lit.int .u32 z).wf = true) : ∃ n : Nat, z = n ∧ n < 4294967296 := by
  simp [Lit.wf, IntKind.min, IntKind.max, IntKind.signed, IntKind.bits] at h
  exact ⟨z.toNat, by omega, by omega⟩
theorem u64_of_wf {z : Int} (h : (Lit.int .u64 z).wf = true) : ∃ n : Nat, z = n ∧ n < 18446744073709551616 := by
  simp [Lit.wf, IntKind.min, IntKind.max, IntKind.signed, IntKind.bits] at h
  exact ⟨z.toNat, by omega, by omega⟩
theorem i64_of_wf {z : Int} (h : (Lit.int .i64 z).wf = true) : -9223372036854775808 ≤ z ∧ z ≤ 9223372036854775807 := by
  simp [Lit.wf, IntKind.min, IntKind.max, IntKind.signed, IntKind.bits] at h
  omega

/-- A slice of bytes among the arguments: nil or not, it reads as bytes. -/
theorem open_bytes {t e : TypeId} {W : World} {v : Value} {d : DataW H} {ps : List MemPlace} {r : Reach} {b0 : Nat} (ht : P.underlying t = some (.slice e)) (he : P.underlying e = some (.int .u8)) (hc : P.cellsOf e = 1)
    (hv : Value.okWide P W r b0 t v) (h : DataW.Trod enc P W 0 (fun _ => true) true t v d ps) (hlt : ∀ p ∈ ps, p.block < W.heap.size) :
    ∃ (A : Option Addr) (n cap : Nat) (bs : List UInt8), v = .slice A n cap ∧ Byt W W.heap.size A n bs ∧ n ≤ cap ∧ cap ≤ 9223372036854775807 ∧ (A = none → cap = 0) := by
  obtain ⟨a0, len, cap, rfl⟩ := okWide_slice ht hv
  obtain ⟨fuel, hf⟩ := h
  rcases open_ints ht he hc hf with ⟨hcs, _⟩ | ⟨a, len', cap', zs, hcs, _, hl, hm, hz, hx, hcell, hwz⟩
  · simp [Value.cells] at hcs
    obtain ⟨rfl, rfl, rfl⟩ := hcs
    exact ⟨none, 0, 0, [], rfl, Byt.nil _ _ _, by omega, by omega, fun _ => rfl⟩
  · simp [Value.cells] at hcs
    obtain ⟨rfl, rfl, rfl⟩ := hcs
    simp only [if_true] at hz
    refine ⟨some a, len, cap, (zs.take len).map fun z => UInt8.ofNat z.toNat, rfl, ⟨by simp; omega, fun hn => ⟨a, rfl, ?_, ?_⟩⟩, hl, by unfold maxLen at hm; omega, fun h => by cases h⟩
    · simp only [Prod.mk.injEq] at hx
      obtain ⟨_, rfl⟩ := hx
      have := hlt (.cell a.block a.off) (MemPlace.mem_row.2 ⟨0, by omega, by simp⟩)
      exact this
    · intro j b hj
      simp only [List.getElem?_map, Option.map_eq_some_iff, List.getElem?_take] at hj
      obtain ⟨z, hz1, rfl⟩ := hj
      split at hz1
      · rename_i hjl
        have hjz : j < zs.length := by omega
        have hcj := hcell j hjz
        have hzj : zs.getD j 0 = z := by simp [List.getD, hz1]
        rw [hzj] at hcj
        have hw := u8_of_wf (hwz z (List.mem_of_getElem? hz1))
        rw [hcj]
        congr 2
        simp
        omega
      · cases hz1
end
end Go.Proofs.YthgpmnblkhehkaaDoor
/- What the tied condition gives: the table's cells; a world that meets it. -/
namespace Go.Proofs.YthgpmnblkhehkaaDoor
open Go.ChangeShapes Go.WideShapes Go.ChangeAt Go.RowKit

/-- What the rows list. -/
def laidList {H : Type} : List (String × DataW H) := [("flashcache/crc.table", Rows.laid_flashcache_crc_table)]
theorem gTable : Tryd.prog.globalNamed "flashcache/crc.table" = some 0 := by kernel_rfl
theorem tTable : (Tryd.prog.globals[0]?).map (·.type) = some 119 := by kernel_rfl
theorem c32 : Tryd.prog.cellsOf 112 = 1 := by kernel_rfl
theorem c16 : Tryd.prog.cellsOf 119 = 16 := by kernel_rfl

theorem door_met (os : Os) (args : Array Value) : laidMetH Tryd.prog laidList ((World.doorLaid Tryd.prog 400 os).forCall (fun _ _ => 0) ⟨#[], args, []⟩).memory :=
  laidMetH_of_parts3 (fuel := 8) (laidMet_of_run' 8 (by kernel_rfl) (by kernel_rfl)) (by kernel_rfl) (by kernel_rfl)

theorem tab_of_laid {W : World} (h : laidMetH Tryd.prog laidList W) : TabAt W := by
  rw [MakeChecks.laidMetH_plain _ _ _ (by kernel_rfl)] at h
  have ht : Lib.TabIs Tryd.prog W "flashcache/crc.table" .u32 (Crc.tab.map fun n : Nat => (n : Int)) :=
    Lib.tabIs_of_head (rest := []) gTable tTable Tryd.underlying119 Tryd.underlying112 c32 c16 h
  intro i hi
  have hc := World.var?_cell gTable ht i
  rw [hc]
  simp only [List.getElem?_toArray, List.getElem?_map]
  have hl : i < Crc.tab.length := hi
  rw [List.getElem?_eq_getElem hl]
  simp [List.getD, List.getElem?_eq_getElem hl]

theorem size_of_tab {W : World} (h : TabAt W) : 0 < W.heap.size := by
  have h0 := h 0 (by decide)
  rcases Nat.lt_or_ge 0 W.heap.size with hlt | hge
  · omega
  · simp [World.cell?, Array.getElem?_eq_none hge] at h0
end Go.Proofs.YthgpmnblkhehkaaDoor
/- The reference's packer: the walk of Take. -/
namespace Go.Proofs.YthgpmnblkhehkaaDoor
open Go.RowKit Go.Sort

set_option maxRecDepth 100000 in
set_option maxHeartbeats 8000000 in
theorem rtake_any (a b c d : Int) (sl : Nat) (s : Int) (t p : Nat) (A : Option Addr) (n cap : Nat) (bs : List UInt8) (hn : n ≤ 1000000) (hf : form a b c d = true) (hsl : (sl : Int) < d) (hs0 : 0 ≤ s) (hs : s ≤ 281474976710655) (htk : t * 59 ≤ n) (N : Nat) (hN1 : (t + N) * 59 ≤ n) (hN2 : n < (t + N + 1) * 59) (w : World) (hP : Pk w p a b c d (sl : Int) s A n cap (t : Int) bs) :
    Calls Tryd.prog 70 #[.pointer (some ⟨p, 0, none⟩)] w fun e w' => ∃ A2 c2 A3 c3 vs, e = .returned (.tuple #[.slice A2 N c2, .slice A3 N c3]) ∧ Rt w w' p a b c d (sl : Int) (74 + sl * c) s A n cap t ((t + N : Nat) : Int) bs N A2 c2 N A3 c3 vs := by
  have HP := Lib.hid hP
  have hlt := hP.cells.lt
  obtain ⟨A', cap', hAe, hncap, hcap⟩ := hP.own.form
  injection hAe with e1 e2 e3
  subst e1; subst e3
  clear e2
  obtain ⟨_, _, _, h1, h2, _, d1, d2⟩ := form_true hf
  have m1 : 0 ≤ (sl : Int) * c := Int.mul_nonneg (by omega) (by omega)
  have m2 : (sl : Int) * c ≤ 15 * 2048 := Int.mul_le_mul (by omega) h2 (by omega) (by omega)
  obtain ⟨q, hq⟩ : ∃ q, (sl : Int) * c = q := ⟨_, rfl⟩
  rw [hq] at m1 m2 ⊢
  have HQ := Lib.hid hq
  have m2' : q ≤ 30720 := by omega
  clear hq hP hf m2
  go_enter Tryd.func70, Tryd.ntmps70
  go_wp2
  go_loopw [4, 5] (fun x y wr => ∃ k A2 c2 A3 c3 vs, x = .slice A2 k c2 ∧ y = .slice A3 k c3 ∧ k ≤ N ∧ Rt w wr p a b c d (sl : Int) (74 + q) s A n cap t ((t + k : Nat) : Int) bs k A2 c2 k A3 c3 vs) (fun x _ _ => match x with | .slice _ k _ => N - k | _ => 0)
  case atStart =>
    exact ⟨0, none, 0, none, 0, [], rfl, rfl, Nat.zero_le _, ⟨by simpa using HP.out, Far.of_below (Below.refl _ _) _ _, Vec.nil _ _ _, Vec.nil _ _ _, FrsAt.nil _ _, fun g h => by simp [Value.ownBlock] at h⟩⟩
  case round =>
    obtain ⟨k, A2, c2, A3, c3, vs, rfl, rfl, hk, hg⟩ := hrel
    obtain ⟨T, hT⟩ : ∃ T, t + k = T := ⟨_, rfl⟩
    rw [hT] at hg
    have HG := Lib.hid hg
    have hTn : T * 59 ≤ n := by have := Nat.mul_le_mul_right 59 (show T ≤ t + N by omega); omega
    have hTb : T ≤ 20000 := by omega
    have t6 := fun d os => cell_regrown (hg.pk.cells 6 _ rfl) d os
    have t7 := fun d os => cell_regrown (hg.pk.cells 7 _ rfl) d os
    clear hg
    by_cases hlast : k = N
    · have hcmp : ¬ (((T : Int) + 1) * 59 ≤ (n : Int)) := by omega
      have hcmp2 : decide (((T : Int) + 1) * 59 ≤ (n : Int)) = false := decide_eq_false hcmp
      have HE : Hid (k = N ∧ t + k = T) := ⟨hlast, hT⟩
      clear hlast hT
      go_wp2
      refine wp_region_quiet_below (by kernel_rfl) (by kernel_rfl) ?_
      repeat (first | go_big_quiet_step (fail) | quiet_step (fail))
      refine wpQuiet_nil ?_
      intro w1 hw'
      have HG1 := Lib.hid (HG.out.later (below_of_regrown hw'))
      clear hw' t6 t7
      go_wp2
      go_ret2
      obtain ⟨he1, he2⟩ := HE.out
      subst he1
      rw [he2]
      exact ⟨A2, c2, A3, c3, vs, rfl, HG1.out⟩
    · have hcmp : ((T : Int) + 1) * 59 ≤ (n : Int) := by omega
      have HE : Hid (¬ k = N ∧ t + k = T) := ⟨hlast, hT⟩
      obtain ⟨lo, hlo⟩ : ∃ lo, T * 59 = lo := ⟨_, rfl⟩
      have hl1 : (T : Int) * 59 = (lo : Int) := by omega
      have hl2 : ((T : Int) + 1) * 59 = ((lo + 59 : Nat) : Int) := by omega
      have hlon : lo + 59 ≤ n := by omega
      obtain ⟨g0, hA⟩ := HP.out.own.head (by omega)
      subst hA
      have hk1 : k ≤ 100000 := by omega
      clear hlast hT
      have HAO : Hid (∀ g, (Value.slice (some (⟨g0, 0, none⟩ : Addr)) n cap).ownBlock = some g → g < w.heap.size) := fun g e => HP.out.own.lt e
      obtain ⟨fr, hfr⟩ : ∃ fr, frame 2 s.toNat (74 + q + 1 + (T : Int)).toNat (chunk bs T) = fr := ⟨_, rfl⟩
      have HFR := Lib.hid hfr
      have EN : Hid (∀ wx, Own wx (p + 1) 5 (.slice (some ⟨g0, 0, none⟩) n cap) n bs → Calls Tryd.prog 66 #[.int .i64 2, .int .i64 s, .int .i64 (74 + q + 1 + (T : Int)), .slice (some ⟨g0, lo, none⟩) 59 (cap - lo)] wx fun e w' => ∃ g5 c5, e = .returned (.slice (some ⟨g5, 0, none⟩) 64 c5) ∧ Byt w' w'.heap.size (some ⟨g5, 0, none⟩) 64 fr ∧ 64 ≤ c5 ∧ c5 ≤ 9223372036854775807 ∧ wx.heap.size ≤ g5 ∧ g5 < w'.heap.size ∧ Below wx.heap.size wx w') := fun wx hown => by
        have hchl : (chunk bs T).length = 59 := chunk_len (by rw [hown.len]; omega)
        have hby : Byt wx wx.heap.size (some ⟨g0, lo, none⟩) 59 (chunk bs T) := by
          have h := (hown.byt.cut (k := lo) (cap := cap) (by omega) hncap).take (k := 59) (by omega)
          rw [if_neg (by omega)] at h
          have e : (Option.map (fun x : Addr => x.add lo) (some (⟨g0, 0, none⟩ : Addr))) = some ⟨g0, lo, none⟩ := by
            simp only [Option.map_some, Addr.add]
            by_cases h0 : lo = 0
            · rw [if_pos h0, h0]
            · rw [if_neg h0, Nat.zero_add]
          rw [e] at h
          unfold chunk
          rw [hlo]
          exact h
        have h := refEncode_any 2 s.toNat (74 + q + 1 + (T : Int)).toNat (chunk bs T) (some ⟨g0, lo, none⟩) 59 (cap - lo) wx.heap.size wx hby (by decide) (Nat.le_refl _) (by omega) (by omega) fr hfr
        rw [Int.toNat_of_nonneg hs0, Int.toNat_of_nonneg (by omega)] at h
        refine h.mono ?_
        have hl64 : fr.length = 64 := by rw [← hfr]; exact frame_len (by rw [hchl]; exact Nat.le_refl _)
        rintro e w' ⟨A5, c5, rfl, hown5, hbel⟩
        rw [hl64] at hown5 ⊢
        obtain ⟨g5, rfl⟩ := hown5.head (by decide)
        obtain ⟨_, _, he, hc1, hc2⟩ := hown5.form
        injection he with _ _ he
        subst he
        exact ⟨g5, c5, rfl, hown5.byt, hc1, hc2, hown5.ge rfl, hown5.lt rfl, hbel⟩
      clear hfr
      have hw1 : IntKind.i64.wrap ((T : Int) + 1) = (T : Int) + 1 := IntWalk.i64_in _ (by omega)
      have hw3 : IntKind.i64.wrap ((lo : Int) + 59) = (lo : Int) + 59 := IntWalk.i64_in _ (by omega)
      have hw4 : IntKind.i64.wrap (lo : Int) = (lo : Int) := IntWalk.i64_in _ (by omega)
      have wq : IntKind.i64.wrap ((sl : Int) * c) = q := by rw [HQ.out]; exact IntWalk.i64_in _ (by omega)
      have wq1 : IntKind.i64.wrap (74 + q) = 74 + q := IntWalk.i64_in _ (by omega)
      have wq2 : IntKind.i64.wrap (74 + q + 1) = 74 + q + 1 := IntWalk.i64_in _ (by omega)
      have wq3 : IntKind.i64.wrap (74 + q + 1 + (T : Int)) = 74 + q + 1 + (T : Int) := IntWalk.i64_in _ (by omega)
      have hc1 : (lo : Int) + 59 ≤ (cap : Int) := by omega
      have hc2 : (0 : Int) ≤ (lo : Int) + 59 := by omega
      have hc3 : (lo : Int) ≤ max ((lo : Int) + 59) 0 := by omega
      have hc4 : ¬ cap = lo := by omega
      have hc5 : ((lo : Int) + 59).toNat = lo + 59 := by omega
      go_wp2
      refine wp_region_quiet_below (by kernel_rfl) (by kernel_rfl) ?_
      repeat (first | go_big_quiet_step (fail) | quiet_step (fail))
      refine wpQuiet_nil ?_
      intro w1 hw'
      have HG1 := Lib.hid (HG.out.later (below_of_regrown hw'))
      clear hw' t6 t7
      have t2 := fun d os => cell_regrown (HG1.out.pk.cells 2 _ rfl) d os
      have t4 := fun d os => cell_regrown (HG1.out.pk.cells 4 _ rfl) d os
      have t7 := fun d os => cell_regrown (HG1.out.pk.cells 7 _ rfl) d os
      go_wp2
      refine wp_region_quiet_below (by kernel_rfl) (by kernel_rfl) ?_
      repeat (first | go_big_quiet_step (fail) | quiet_step (fail))
      refine wpQuiet_nil ?_
      intro w2 hw'
      have HG2 := Lib.hid (HG1.out.later (below_of_regrown hw'))
      clear hw' t2 t4 t7
      have HG3 := Lib.hid (HG2.out.later (below_alloc w2 (.cells #[.int .i64 (74 + q + 1 + (T : Int))] 3)))
      have HBA : Hid (w.heap.size ≤ (w2.alloc (.cells #[.int .i64 (74 + q + 1 + (T : Int))] 3)).heap.size) := HG3.out.far.size
      go_upto_region 7 with (at_builtin; refine wpList_append_vec rfl Tryd.intw (.tmp 43) (.tmp 45) rfl rfl HG3.out.sec rfl (Vat.one w2 _ _) ?_ ?_ ?_ ?_; (intro u hu; rw [List.mem_singleton.1 hu]; rfl); omega; exact HBA.out; intro A6 c6 w6 hv6 hg6 ha6; have HG6 := Lib.hid (HG3.out.sector hlt HAO.out (by rw [HE.out.2]; exact hv6) hg6 ha6); clear hv6 hg6 ha6)
      have l5 := HG6.out.pk.cells 5 _ rfl
      have l6 := HG6.out.pk.cells 6 _ rfl
      have l7 := HG6.out.pk.cells 7 _ rfl
      go_region_held3 (fun w' => w'.cell? ⟨p, 5, none⟩ = some (.int .i64 s) ∧ w'.cell? ⟨p, 6, none⟩ = some (.slice (some ⟨g0, 0, none⟩) n cap) ∧ w'.cell? ⟨p, 7, none⟩ = some (.int .i64 (T : Int))) (go_keep) (first
        | (go_at_call 66; refine (EN.out _ (by first | exact HG6.out.pk.own | exact Own.drewN HG6.out.pk.own 1)).mono ?_; rintro e w7 ⟨g5, c5, rfl, hby, hcc1, hcc2, hg1, hg2, hbel⟩; have HG7 := Lib.hid (HG6.out.later (by first | exact hbel | exact (Below.drew (Below.refl _ _)).trans hbel)); have HY7 := Lib.hid hby; have HC7 := Lib.hid (And.intro hcc1 hcc2); have HS7 : Hid (w6.heap.size ≤ g5 ∧ g5 < w7.heap.size) := ⟨hg1, hg2⟩; have z5 := HG7.out.pk.cells 5 _ rfl; have z6 := HG7.out.pk.cells 6 _ rfl; have z7 := HG7.out.pk.cells 7 _ rfl; have HG8 := Lib.hid (HG7.out.later (below_alloc w7 (.cells #[.slice (some ⟨g5, 0, none⟩) 64 c5] 34))); clear hby hcc1 hcc2 hg1 hg2 hbel)
        | (refine step_append_vec rfl Tryd.bytw (.tmp 47) (.tmp 70) rfl rfl HG8.out.fra rfl (Vat.one w7 _ _) ?_ ?_ ?_ ?_; (intro u hu; rw [List.mem_singleton.1 hu]; rfl); omega; exact HG8.out.far.size; intro A7 c7 w8 hv8 hg8 ha8; have HG9 := Lib.hid (HG8.out.frame hlt HAO.out ((HY7.out.alloc (Nat.le_refl _) _).more (below_alloc w7 (.cells #[.slice (some ⟨g5, 0, none⟩) 64 c5] 34)).size) HC7.out.1 HC7.out.2 (Nat.le_trans HG6.out.far.size HS7.out.1) (by have := HS7.out.2; simp; omega) (fun e => by have := HG6.out.sec.lt e.symm; have := HS7.out.1; omega) (fun e => by have := HG6.out.fra.lt e.symm; have := HS7.out.1; omega) (by rw [HE.out.2]; exact HFR.out) hv8 hg8 ha8); have y5 := HG9.out.pk.cells 5 _ rfl; have y6 := HG9.out.pk.cells 6 _ rfl; have y7 := HG9.out.pk.cells 7 _ rfl; clear hv8 hg8 ha8))
      all_goals
        have l7' := HG9.out.pk.cells 7 _ rfl
        have f7' := HG9.out.pk.soft 7
        go_wp2_with fail
        go_roundw
        case rel =>
          refine ⟨k + 1, A6, c6, A7, c7, vs ++ [.slice (some ⟨g5, 0, none⟩) 64 c5], rfl, rfl, by have := HE.out.1; omega, ?_⟩
          have h := HG9.out.tick hlt ((T : Int) + 1)
          rw [show ((t + (k + 1) : Nat) : Int) = (T : Int) + 1 by have := HE.out.2; omega]
          exact h
        case measure => have := HE.out; simp only; omega
end Go.Proofs.YthgpmnblkhehkaaDoor
/- The reference's open region: flush (tools/mkrreg.py). -/
namespace Go.Proofs.YthgpmnblkhehkaaDoor
open Go.RowKit

/-- The reference's device, what is left of its fuse aside. -/
def Dx (w : World) (d g1 g2 g3 S c1 c2 c3 : Nat) (s : DS) : Prop := ∃ lf, Rv w d g1 g2 g3 S c1 c2 c3 s lf
/-- The reference's open region: block q; its device, its packer. -/
structure Rr (w : World) (q d g1 g2 g3 S c1 c2 c3 : Nat) (s : DS) (h : Hd) (p : Nat) (a b cc dd : Int) (sl : Nat) (sq : Int) (A : Option Addr) (n cap tk : Nat) (bs : List UInt8) : Prop where
  cells : Cells w q [.pointer (some ⟨d, 0, none⟩), .int .i64 h.v, .int .i64 h.slot, .int .i64 h.lay, .int .i64 h.seq, .int .i64 h.tail, .int .i64 h.now, .pointer (some ⟨p, 0, none⟩)]
  dv : Dx w d g1 g2 g3 S c1 c2 c3 s
  pk : Pk w p a b cc dd (sl : Int) sq A n cap (tk : Int) bs
  nq : ¬ rvL d g1 g2 g3 q ∧ q ≠ p
  np : ¬ rvL d g1 g2 g3 p
  nr : ∀ k, (Value.slice A n cap).ownBlock = some k → ¬ rvL d g1 g2 g3 k ∧ k ≠ q
/-- What a region's calls touch, but for its stream. -/
def rrL (d g1 g2 g3 p : Nat) (k : Nat) : Prop := rvL d g1 g2 g3 k ∨ k = p
section
variable {w w' : World} {q d g1 g2 g3 S c1 c2 c3 p sl : Nat} {s s' : DS} {h : Hd} {a b cc dd f sq : Int} {A : Option Addr} {n cap tk : Nat} {bs : List UInt8}
theorem Dx.lts (h : Dx w d g1 g2 g3 S c1 c2 c3 s) : ∀ k, rvL d g1 g2 g3 k → k < w.heap.size := by
  obtain ⟨lf, h⟩ := h
  obtain ⟨q1, q2, q3, q4⟩ := h.lts
  rintro k (e | e | e | e) <;> rw [e] <;> assumption
theorem Dx.below (h : Dx w d g1 g2 g3 S c1 c2 c3 s) (hb : Below w.heap.size w w') : Dx w' d g1 g2 g3 S c1 c2 c3 s := h.imp fun _ h => h.below hb
theorem Dx.far {rr : Option Nat} (h : Dx w d g1 g2 g3 S c1 c2 c3 s) (hf : Far w w' p rr) (hp : ¬ rvL d g1 g2 g3 p) (hr : ∀ k, rr = some k → ¬ rvL d g1 g2 g3 k) : Dx w' d g1 g2 g3 S c1 c2 c3 s := by
  have hb : ∀ k, rvL d g1 g2 g3 k → w'.heap[k]? = w.heap[k]? := fun k hk => hf.block k (h.lts k hk) (fun e => hp (e ▸ hk)) (fun e => hr k e.symm hk)
  exact h.imp fun _ h => h.same (hb _ (.inl rfl)) (hb _ (.inr (.inl rfl))) (hb _ (.inr (.inr (.inl rfl)))) (hb _ (.inr (.inr (.inr rfl))))
theorem Rr.below (hR : Rr w q d g1 g2 g3 S c1 c2 c3 s h p a b cc dd sl sq A n cap tk bs) (hb : Below w.heap.size w w') : Rr w' q d g1 g2 g3 S c1 c2 c3 s h p a b cc dd sl sq A n cap tk bs :=
  ⟨hR.cells.below hb hR.cells.lt, hR.dv.below hb, hR.pk.below hb, hR.nq, hR.np, hR.nr⟩
/-- Behind writes to the device alone. -/
theorem Rr.wrote (hR : Rr w q d g1 g2 g3 S c1 c2 c3 s h p a b cc dd sl sq A n cap tk bs) (hd : Dx w' d g1 g2 g3 S c1 c2 c3 s') (hk : Keep w w' (rvL d g1 g2 g3)) : Rr w' q d g1 g2 g3 S c1 c2 c3 s' h p a b cc dd sl sq A n cap tk bs :=
  ⟨hR.cells.kept hk hR.cells.lt hR.nq.1, hd, hR.pk.kept hk hR.np (fun k e => (hR.nr k e).1), hR.nq, hR.np, hR.nr⟩
/-- Behind a call of the packer. -/
theorem Rr.packed {A' : Option Addr} {n' cap' tk' : Nat} {bs' : List UInt8} {rr : Option Nat} (hR : Rr w q d g1 g2 g3 S c1 c2 c3 s h p a b cc dd sl sq A n cap tk bs) (hpk : Pk w' p a b cc dd (sl : Int) sq A' n' cap' (tk' : Int) bs') (hf : Far w w' p rr) (hrr : rr = (Value.slice A n cap).ownBlock ∨ rr = none)
    (hb : Born w (Value.slice A n cap).ownBlock (Value.slice A' n' cap').ownBlock) : Rr w' q d g1 g2 g3 S c1 c2 c3 s h p a b cc dd sl sq A' n' cap' tk' bs' := by
  have hq : ∀ k, rr = some k → ¬ rvL d g1 g2 g3 k ∧ k ≠ q := fun k e => by
    rcases hrr with h1 | h1
    · exact hR.nr k (h1 ▸ e)
    · rw [h1] at e; cases e
  refine ⟨hR.cells.same (hf.block q hR.cells.lt hR.nq.2 (fun e => (hq q e.symm).2 rfl)), hR.dv.far hf hR.np (fun k e => (hq k e).1), hpk, hR.nq, hR.np, fun k e => ?_⟩
  rcases hb with h1 | h1
  · exact hR.nr k (h1 ▸ e)
  · have hk := h1 k e
    exact ⟨fun hl => by have := hR.dv.lts k hl; omega, fun e => by have := hR.cells.lt; omega⟩

/-- A frame is written: what has come up (bb), what the temporaries hold (v). -/
structure R5r (w0 : World) (q d g1 g2 g3 S c1 c2 c3 gA gB k : Nat) (A2 : Option Addr) (e2 : Nat) (A3 : Option Addr) (N e3 : Nat) (fv : Value) (sv : Int) (res : Int × DS) (bb : Nat → Bool) (v : Nat → Value) (w : World) : Prop where
  same : bb 12 = false → w = w0.drew
  fin : bb 12 = true → v 12 = .int .i64 res.1 ∧ Dx w d g1 g2 g3 S c1 c2 c3 res.2 ∧ Keep w0 w (rvL d g1 g2 g3)
  s0 : bb 0 = true → v 0 = .pointer (some ⟨q, 0, none⟩)
  s1 : bb 1 = true → v 1 = .pointer (some ⟨q, 0, none⟩)
  s2 : bb 2 = true → v 2 = .pointer (some ⟨q, 0, none⟩)
  s3 : bb 3 = true → v 3 = .pointer (some ⟨d, 0, none⟩)
  s4 : bb 4 = true → v 4 = .slice A2 N e2
  s5 : bb 5 = true → v 5 = .int .i64 (k : Int)
  s6 : bb 6 = true → v 6 = .pointer (some ⟨gB, k, none⟩)
  s7 : bb 7 = true → v 7 = .int .i64 sv
  s8 : bb 8 = true → v 8 = .slice A3 N e3
  s9 : bb 9 = true → v 9 = .int .i64 (k : Int)
  s10 : bb 10 = true → v 10 = .pointer (some ⟨gA, k, none⟩)
  s11 : bb 11 = true → v 11 = fv
  f13 : bb 13 = true → v 13 = v 12

set_option maxRecDepth 100000 in
set_option maxHeartbeats 4000000 in
theorem rflush_any (hR : Rr w q d g1 g2 g3 S c1 c2 c3 s h p a b cc dd sl sq A n cap tk bs) (hn : n ≤ 1000000) (hfm : form a b cc dd = true) (hsl : (sl : Int) < dd) (hfe : 74 + (sl : Int) * cc = f) (hs0 : 0 ≤ sq) (hs : sq ≤ 281474976710655) (htk : tk * 59 ≤ n) (N : Nat) (hN1 : (tk + N) * 59 ≤ n) (hN2 : n < (tk + N + 1) * 59) (hwr : s.wr + N ≤ 1000000000) :
    Calls Tryd.prog 52 #[.pointer (some ⟨q, 0, none⟩)] w fun e w' => e = .returned (.int .i64 (flushS S s (takeS f sq bs tk N)).1) ∧ Rr w' q d g1 g2 g3 S c1 c2 c3 (flushS S s (takeS f sq bs tk N)).2 h p a b cc dd sl sq A n cap (tk + N) bs ∧ Keep w w' (rrL d g1 g2 g3 p) := by
  have tk0 := rtake_any a b cc dd sl sq tk p A n cap bs hn hfm hsl hs0 hs htk N hN1 hN2 w hR.pk
  rw [hfe] at tk0
  have TK := Lib.hid tk0
  clear tk0
  have l7 := hR.cells 7 _ rfl
  have HR := Lib.hid hR
  have hN9 : N ≤ 100000 := by omega
  have htk9 : tk ≤ 100000 := by omega
  clear hR hn hN1 hN2 htk hs0 hs hfm hsl hfe
  go_enter Tryd.func52, Tryd.ntmps52
  go_wp2_with (go_at_call 70; refine TK.out.mono ?_; rintro e w1 ⟨A2, e2, A3, e3, vs, rfl, htk⟩; have HT1 := Lib.hid htk; clear htk)
  have hrg := HR.out.packed HT1.out.pk HT1.out.far (.inr rfl) (Born.refl _ _)
  have HR1 := Lib.hid hrg
  have HK1 : Hid (Keep w w1 (rrL d g1 g2 g3 p)) := (Keep.of_far HT1.out.far).mono (fun k e => by rcases e with e | e; exact .inr e; cases e)
  have hsz1 := HT1.out.far.size
  clear hrg
  go_loopw [17] (fun kv wr => ∃ (k : Nat) (sk : DS), kv = .int .i64 (k : Int) ∧ k ≤ N ∧ flushS S s (takeS f sq bs tk N) = flushS S sk ((takeS f sq bs tk N).drop k) ∧ sk.wr ≤ s.wr + k ∧ Dx wr d g1 g2 g3 S c1 c2 c3 sk ∧ Keep w1 wr (rvL d g1 g2 g3)) (fun kv _ => N - (intOf kv).toNat)
  case atStart => exact ⟨0, s, rfl, Nat.zero_le _, rfl, Nat.le_refl _, HR1.out.dv, Keep.refl _ _⟩
  case round =>
    obtain ⟨k, sk, rfl, hkN, hfl, hwk, hdv, hkp⟩ := hrel
    have HF := Lib.hid hfl
    have HD := Lib.hid hdv
    have HK := Lib.hid hkp
    clear hfl hdv hkp
    by_cases hk : k < N
    · have k1 : (k : Int) < (N : Int) := by omega
      have k0 : (0 : Int) ≤ (k : Int) := by omega
      obtain ⟨sec, hsec⟩ : ∃ sec, f + 1 + ((tk + k : Nat) : Int) = sec := ⟨_, rfl⟩
      obtain ⟨fr, hfr⟩ : ∃ fr, frame 2 sq.toNat sec.toNat (chunk bs (tk + k)) = fr := ⟨_, rfl⟩
      have hst := flushS_drop (S := S) (s := sk) (takeS_at (f := f) (s := sq) (bs := bs) (t := tk) hk)
      have hsa := sect_at (f := f) (t := tk) hk
      have hfa := fram_at (f := f) (s := sq) (bs := bs) (t := tk) hk
      rw [hsec, hfr] at hst
      rw [hsec] at hsa
      rw [hsec, hfr] at hfa
      have HST := Lib.hid hst
      obtain ⟨ad2, ea2, hb2, hc2⟩ := HT1.out.sec.vat.2 k _ hsa
      obtain ⟨gB, rfl⟩ : ∃ g2, ad2 = ⟨g2, 0, none⟩ := by
        obtain ⟨g2, _, hv, _⟩ := World.ownsRow.form HT1.out.sec (by omega)
        injection hv with hv _ _
        rw [hv] at ea2
        injection ea2 with ea2
        exact ⟨g2, ea2.symm⟩
      subst ea2
      have hgv : k < vs.length := by rw [HT1.out.fra.len]; exact hk
      obtain ⟨fv, hfv⟩ : ∃ fv, vs[k]? = some fv := ⟨_, List.getElem?_eq_getElem hgv⟩
      obtain ⟨g5, e5, rfl, hb5, hc5, hl5, hn5, hy5⟩ := HT1.out.frs.2 k fv fr hfv hfa
      obtain ⟨ad3, ea3, hb3, hc3⟩ := HT1.out.fra.vat.2 k _ hfv
      obtain ⟨gA, rfl⟩ : ∃ g3, ad3 = ⟨g3, 0, none⟩ := by
        obtain ⟨g3, _, hv, _⟩ := World.ownsRow.form HT1.out.fra (by omega)
        injection hv with hv _ _
        rw [hv] at ea3
        injection ea3 with ea3
        exact ⟨g3, ea3.symm⟩
      subst ea3
      have hdlt : ∀ j, rvL d g1 g2 g3 j → j < w.heap.size := HR.out.dv.lts
      have hge2 : ¬ rvL d g1 g2 g3 gB := fun e => by have := hdlt _ e; have := HT1.out.sec.ge (g := gB) rfl; omega
      have hge3 : ¬ rvL d g1 g2 g3 gA := fun e => by have := hdlt _ e; have := HT1.out.fra.ge (g := gA) rfl; omega
      have hge5 : ¬ rvL d g1 g2 g3 g5 := fun e => hn5 (.inl (hdlt _ e))
      have z2 : wr.cell? ⟨gB, k, none⟩ = some (.int .i64 sec) := by
        rw [Addr.add_mid, Nat.zero_add] at hc2
        exact (World.cell?_of_block (a := ⟨gB, k, none⟩) (HK.out.block gB hb2 hge2)).trans hc2
      have z3 : wr.cell? ⟨gA, k, none⟩ = some (.slice (some ⟨g5, 0, none⟩) fr.length e5) := by
        rw [Addr.add_mid, Nat.zero_add] at hc3
        exact (World.cell?_of_block (a := ⟨gA, k, none⟩) (HK.out.block gA hb3 hge3)).trans hc3
      have zq := HR1.out.cells.kept HK.out HR1.out.cells.lt HR1.out.nq.1
      have HQ := Lib.hid zq
      have HZ3 := Lib.hid z3
      have HZ2 := Lib.hid z2
      have hby : Byt wr wr.heap.size (some ⟨g5, 0, none⟩) fr.length fr := hy5.inBlock (HK.out.block g5 hl5 hge5) HK.out.size
      have HBY := Lib.hid hby
      have HNE := Lib.hid hge5
      have hfl9 : fr.length ≤ 9223372036854775807 := by omega
      have WR : Hid (∀ (wx : World), Below wr.heap.size wr wx → Calls Tryd.prog 44 #[.pointer (some ⟨d, 0, none⟩), .int .i64 sec, .slice (some ⟨g5, 0, none⟩) fr.length e5] wx fun e w' => e = .returned (.int .i64 (writeS S sk sec fr).1) ∧ Dx w' d g1 g2 g3 S c1 c2 c3 (writeS S sk sec fr).2 ∧ Keep wx w' (rvL d g1 g2 g3)) := fun wx hb =>
        let ⟨_, hd⟩ := HD.out
        rwrite_any sec fr (some ⟨g5, 0, none⟩) fr.length e5 hfl9 ((HBY.out.below hb).more hb.size) (fun ad e => by injection e with e; subst e; exact HNE.out) (hd.below hb) (by omega)
      obtain ⟨L, hL⟩ : ∃ L, fr.length = L := ⟨_, rfl⟩
      rw [hL] at z3 HZ3 WR
      obtain ⟨res, hres⟩ : ∃ res, writeS S sk sec fr = res := ⟨_, rfl⟩
      have hrw : res.2.wr ≤ sk.wr + 1 := by rw [← hres]; exact writeS_wr _ _ _ _
      rw [hres] at WR HST
      clear hst hsa hfa hc2 hc3 hb2 hb3 hge2 hge3 hge5 hy5 hn5 hl5 hgv hfv hdlt zq hby hfl9 hL hres hsec hfr
      go_upto_region 5 with fail
      go_cut [6] (fun x wx => x = .int .i64 res.1 ∧ Dx wx d g1 g2 g3 S c1 c2 c3 res.2 ∧ Keep wr wx (rvL d g1 g2 g3))
      case first =>
        refine wp_region_inv (F := ?F) (R5r wr q d g1 g2 g3 S c1 c2 c3 gA gB k (some ⟨gB, 0, none⟩) e2 (some ⟨gA, 0, none⟩) N e3 (.slice (some ⟨g5, 0, none⟩) L e5) sec res) id ?hF (by kernel_rfl) (by kernel_rfl) ?ha ?h0 ?hs ?hfin
        case hF =>
          intro v
          simp only [putsAll, Act.put, List.setIfInBounds_toArray, List.set_cons_zero, List.set_cons_succ]
          rfl
        case ha =>
          simp only [putsAll, Act.put, List.setIfInBounds_toArray, List.set_cons_zero, List.set_cons_succ]
          rfl
        case h0 =>
          exact { same := fun _ => rfl, fin := nofun, s0 := nofun, s1 := nofun, s2 := nofun, s3 := nofun, s4 := nofun, s5 := nofun, s6 := nofun, s7 := nofun, s8 := nofun, s9 := nofun, s10 := nofun, s11 := nofun, f13 := nofun }
        case hs =>
          clear z2 z3
          refine ⟨?_, ?_, ?_, ?_, ?_, ?_, ?_, ?_, ?_, ?_, ?_, ?_, ?_, ?_, trivial⟩
          · intro b9 v w9 hR hc hb hp K hK
            (try simp [Region.binds] at hp)
            have hlast : b9 12 = false := hc.neg (by kernel_rfl) hb
            clear hc
            have hw9 := hR.same hlast
            subst hw9
            go_simp
            exact hK (upd v 0 _) _ { hR with s0 := fun _ => rfl }
          · intro b9 v w9 hR hc hb hp K hK
            (try simp [Region.binds] at hp)
            have hlast : b9 12 = false := hc.neg (by kernel_rfl) hb
            clear hc
            have e0 := hR.s0 (by simp [hp])
            have hw9 := hR.same hlast
            subst hw9
            go_simp
            exact hK (upd (upd v 1 _) 0 _) _ { hR with s1 := fun _ => rfl, s0 := fun _ => rfl }
          · intro b9 v w9 hR hc hb hp K hK
            (try simp [Region.binds] at hp)
            have hlast : b9 12 = false := hc.neg (by kernel_rfl) hb
            clear hc
            have e1 := hR.s1 (by simp [hp])
            have hw9 := hR.same hlast
            subst hw9
            go_simp
            exact hK (upd (upd v 2 _) 1 _) _ { hR with s2 := fun _ => rfl, s1 := fun _ => rfl }
          · intro b9 v w9 hR hc hb hp K hK
            (try simp [Region.binds] at hp)
            have hlast : b9 12 = false := hc.neg (by kernel_rfl) hb
            clear hc
            have e2 := hR.s2 (by simp [hp])
            have hw9 := hR.same hlast
            subst hw9
            have y := HQ.out 0 _ rfl
            go_simp
            exact hK (upd (upd v 3 _) 2 _) _ { hR with s3 := fun _ => rfl, s2 := fun _ => rfl }
          · intro b9 v w9 hR hc hb hp K hK
            (try simp [Region.binds] at hp)
            have hlast : b9 12 = false := hc.neg (by kernel_rfl) hb
            clear hc
            have hw9 := hR.same hlast
            subst hw9
            go_simp
            exact hK (upd v 4 _) _ { hR with s4 := fun _ => rfl }
          · intro b9 v w9 hR hc hb hp K hK
            (try simp [Region.binds] at hp)
            have hlast : b9 12 = false := hc.neg (by kernel_rfl) hb
            clear hc
            have hw9 := hR.same hlast
            subst hw9
            go_simp
            exact hK (upd v 5 _) _ { hR with s5 := fun _ => rfl }
          · intro b9 v w9 hR hc hb hp K hK
            (try simp [Region.binds] at hp)
            have hlast : b9 12 = false := hc.neg (by kernel_rfl) hb
            clear hc
            have e4 := hR.s4 (by simp [hp])
            have e5 := hR.s5 (by simp [hp])
            have hw9 := hR.same hlast
            subst hw9
            go_simp
            exact hK (upd (upd (upd v 6 _) 4 _) 5 _) _ { hR with s6 := fun _ => rfl, s4 := fun _ => rfl, s5 := fun _ => rfl }
          · intro b9 v w9 hR hc hb hp K hK
            (try simp [Region.binds] at hp)
            have hlast : b9 12 = false := hc.neg (by kernel_rfl) hb
            clear hc
            have e6 := hR.s6 (by simp [hp])
            have hw9 := hR.same hlast
            subst hw9
            have y := HZ2.out
            go_simp
            exact hK (upd (upd v 7 _) 6 _) _ { hR with s7 := fun _ => rfl, s6 := fun _ => rfl }
          · intro b9 v w9 hR hc hb hp K hK
            (try simp [Region.binds] at hp)
            have hlast : b9 12 = false := hc.neg (by kernel_rfl) hb
            clear hc
            have hw9 := hR.same hlast
            subst hw9
            go_simp
            exact hK (upd v 8 _) _ { hR with s8 := fun _ => rfl }
          · intro b9 v w9 hR hc hb hp K hK
            (try simp [Region.binds] at hp)
            have hlast : b9 12 = false := hc.neg (by kernel_rfl) hb
            clear hc
            have hw9 := hR.same hlast
            subst hw9
            go_simp
            exact hK (upd v 9 _) _ { hR with s9 := fun _ => rfl }
          · intro b9 v w9 hR hc hb hp K hK
            (try simp [Region.binds] at hp)
            have hlast : b9 12 = false := hc.neg (by kernel_rfl) hb
            clear hc
            have e8 := hR.s8 (by simp [hp])
            have e9 := hR.s9 (by simp [hp])
            have hw9 := hR.same hlast
            subst hw9
            go_simp
            exact hK (upd (upd (upd v 10 _) 8 _) 9 _) _ { hR with s10 := fun _ => rfl, s8 := fun _ => rfl, s9 := fun _ => rfl }
          · intro b9 v w9 hR hc hb hp K hK
            (try simp [Region.binds] at hp)
            have hlast : b9 12 = false := hc.neg (by kernel_rfl) hb
            clear hc
            have e10 := hR.s10 (by simp [hp])
            have hw9 := hR.same hlast
            subst hw9
            have y := HZ3.out
            go_simp
            exact hK (upd (upd v 11 _) 10 _) _ { hR with s11 := fun _ => rfl, s10 := fun _ => rfl }
          · intro b9 v w9 hR hc hb hp K hK
            (try simp [Region.binds] at hp)
            have hc13 : b9 13 = false := hc.neg (by kernel_rfl) hb
            clear hc
            have e3 := hR.s3 (by simp [hp])
            have e7 := hR.s7 (by simp [hp])
            have e11 := hR.s11 (by simp [hp])
            have hw9 := hR.same hb
            subst hw9
            go_simp
            go_wp2_with (go_at_call 44; refine (WR.out _ (Below.drew (Below.refl _ _))).mono ?_; rintro e w6 ⟨rfl, hd6, hk6⟩)
            exact hK (upd (upd (upd (upd v 12 _) 3 _) 7 _) 11 _) _ { hR with same := fun h => Bool.noConfusion (show true = false from h), fin := fun _ => ⟨rfl, hd6, (Keep.of_below (Below.drew (Below.refl _ _)) _).tran hk6⟩, s3 := fun _ => rfl, s7 := fun _ => rfl, s11 := fun _ => rfl, f13 := fun h => Bool.noConfusion ((hc13.symm.trans h)) }
          · intro b9 v w9 hR hc hb hp K hK
            (try simp [Region.binds] at hp)
            clear hc
            go_simp
            exact hK (upd v 13 (v 12)) _ { hR with f13 := fun _ => rfl }
        case hfin =>
          intro b9 v w9 hall hR
          obtain ⟨e12, hd9, hk9⟩ := hR.fin (hall 12 (by decide))
          have e13 := (hR.f13 (hall 13 (by decide))).trans e12
          have HX := Lib.hid (And.intro hd9 hk9)
          clear hR hall hd9 hk9 e12
          go_wp2_with fail
          (try go_simp)
          go_meet
          exact ⟨rfl, HX.out.1, HX.out.2⟩
      case rest =>
        obtain ⟨rfl, hd2, hk2⟩ := hcut
        obtain ⟨wB, hwB⟩ : ∃ x, x = wc := ⟨_, rfl⟩
        subst hwB
        have HD2 := Lib.hid hd2
        have HK2 := Lib.hid hk2
        clear hd2 hk2 z2 z3 WR
        by_cases h0 : res.1 = 0
        · have hst := HST.out
          rw [if_pos h0] at hst
          have HS2 := Lib.hid hst
          rw [h0]
          clear hst h0
          go_wp2
          go_roundw
          case rel => exact ⟨k + 1, res.2, by go_num, by omega, by rw [HF.out, HS2.out], by omega, HD2.out, HK.out.tran HK2.out⟩
          case measure => simp [intOf]; omega
        · have hst := HST.out
          rw [if_neg h0] at hst
          have HS2 := Lib.hid hst
          obtain ⟨er, her⟩ : ∃ er, res.1 = er := ⟨_, rfl⟩
          rw [her] at h0 ⊢
          have HER := Lib.hid her
          clear hst her
          go_wp2
          go_ret
          refine ⟨by rw [HF.out, HS2.out, HER.out]; rfl, by rw [HF.out, HS2.out]; exact HR1.out.wrote HD2.out (HK.out.tran HK2.out), HK1.out.trans (HK.out.tran HK2.out) (fun j _ hj => .inl hj)⟩
    · have k1 : ¬ (k : Int) < (N : Int) := by omega
      have ek : k = N := by omega
      have HS2 : Hid (flushS S s (takeS f sq bs tk N) = (0, sk)) := by
        show _ = _
        rw [HF.out, ek, List.drop_eq_nil_of_le (by rw [takeS_len]; exact Nat.le_refl _)]
        rfl
      clear ek hk
      go_wp2
      go_ret
      exact ⟨by rw [HS2.out]; rfl, by rw [HS2.out]; exact HR1.out.wrote HD.out HK.out, HK1.out.trans HK.out (fun j _ hj => .inl hj)⟩
end
end Go.Proofs.YthgpmnblkhehkaaDoor
/- packer.New where it has an error; the reference's May; Bytes; Put of two packers. -/
namespace Go.Proofs.YthgpmnblkhehkaaDoor
open Go.RowKit Go.Sort

theorem pmay_cases (a b c d sl sq : Int) : (form a b c d = false ∧ pmay a b c d sl sq = 4) ∨ (form a b c d = true ∧ sl < 0 ∧ pmay a b c d sl sq = 2) ∨ (form a b c d = true ∧ 0 ≤ sl ∧ d ≤ sl ∧ pmay a b c d sl sq = 2) ∨
    (form a b c d = true ∧ 0 ≤ sl ∧ sl < d ∧ sq < 1 ∧ pmay a b c d sl sq = 2) ∨ (form a b c d = true ∧ 0 ≤ sl ∧ sl < d ∧ 1 ≤ sq ∧ 281474976710655 < sq ∧ pmay a b c d sl sq = 2) ∨ (form a b c d = true ∧ 0 ≤ sl ∧ sl < d ∧ 1 ≤ sq ∧ sq ≤ 281474976710655 ∧ pmay a b c d sl sq = 0) := by
  unfold pmay
  cases hf : form a b c d
  · exact .inl ⟨rfl, by simp⟩
  · rw [if_pos rfl]
    right
    by_cases h1 : sl < 0
    · exact .inl ⟨rfl, h1, by rw [if_pos (.inl h1)]⟩
    right
    by_cases h2 : d ≤ sl
    · exact .inl ⟨rfl, by omega, h2, by rw [if_pos (.inr (.inl h2))]⟩
    right
    by_cases h3 : sq < 1
    · exact .inl ⟨rfl, by omega, by omega, h3, by rw [if_pos (.inr (.inr (.inl h3)))]⟩
    right
    by_cases h4 : 281474976710655 < sq
    · exact .inl ⟨rfl, by omega, by omega, by omega, h4, by rw [if_pos (.inr (.inr (.inr h4)))]⟩
    right
    exact ⟨rfl, by omega, by omega, by omega, by omega, by rw [if_neg (by omega)]⟩


set_option maxHeartbeats 2000000 in
theorem first_not (a b c d sl : Int) (ha : I64 a) (hb : I64 b) (hc : I64 c) (hd : I64 d) (hf : form a b c d = true) (hs : sl < 0 ∨ (0 ≤ sl ∧ d ≤ sl)) (w : World) :
    Calls Tryd.prog 32 #[.agg #[.int .i64 a, .int .i64 b, .int .i64 c, .int .i64 d], .int .i64 sl] w fun e w' => e = .returned (.int .i64 (-1)) ∧ Below w.heap.size w w' := by
  have C := Lib.hid (form_any a b c d ha hb hc hd)
  rw [hf] at C
  have HB0 : Hid (Below w.heap.size w (w.alloc (.cells #[.int .i64 a, .int .i64 b, .int .i64 c, .int .i64 d] 24))) := (Below.refl _ _).alloc (Nat.le_refl _) _
  have HX0 := Lib.hid (Cells.new w 24 #[.int .i64 a, .int .i64 b, .int .i64 c, .int .i64 d])
  clear hf ha hb hc hd
  rcases hs with h1 | ⟨h1, h2⟩
  all_goals
    go_enter Tryd.func32, Tryd.ntmps32
    go_wp2_with (go_at_call 29; refine (C.out _).mono ?_; rintro e w1 ⟨rfl, hbel⟩; have HB1 : Hid (Below w.heap.size w w1) := HB0.out.trans (hbel.mono HB0.out.size); have HX1 := Lib.hid (HX0.out.below hbel (by simp)); have l3 := HX1.out 3 _ rfl; clear hbel)
    go_ret
    exact ⟨rfl, HB1.out⟩

set_option maxHeartbeats 4000000 in
theorem pnew_not (a b c d sl sq : Int) (ha : I64 a) (hb : I64 b) (hc : I64 c) (hd : I64 d) (r : Int) (hr : pmay a b c d sl sq = r) (hr0 : ¬ r = 0) (w : World) :
    Calls Tryd.prog 31 #[.agg #[.int .i64 a, .int .i64 b, .int .i64 c, .int .i64 d], .int .i64 sl, .int .i64 sq] w fun e w' => e = .returned (.tuple #[.pointer none, .int .i64 r]) ∧ Below w.heap.size w w' := by
  have HB0 : Hid (Below w.heap.size w (w.alloc (.cells #[.int .i64 a, .int .i64 b, .int .i64 c, .int .i64 d] 24))) := (Below.refl _ _).alloc (Nat.le_refl _) _
  have HX0 := Lib.hid (Cells.new w 24 #[.int .i64 a, .int .i64 b, .int .i64 c, .int .i64 d])
  have hcs := pmay_cases a b c d sl sq
  rw [hr] at hcs
  have FM : Hid (∀ w, Calls Tryd.prog 29 #[.agg #[.int .i64 a, .int .i64 b, .int .i64 c, .int .i64 d]] w fun e w' => e = .returned (.bool (form a b c d)) ∧ Below w.heap.size w w') := form_any a b c d ha hb hc hd
  have FN : Hid (form a b c d = true → (sl < 0 ∨ (0 ≤ sl ∧ d ≤ sl)) → ∀ w, Calls Tryd.prog 32 #[.agg #[.int .i64 a, .int .i64 b, .int .i64 c, .int .i64 d], .int .i64 sl] w fun e w' => e = .returned (.int .i64 (-1)) ∧ Below w.heap.size w w') := fun h h2 w => first_not a b c d sl ha hb hc hd h h2 w
  have FY : Hid (form a b c d = true → 0 ≤ sl → sl < d → ∃ q, 74 ≤ q ∧ q ≤ 40000 ∧ ∀ w, Calls Tryd.prog 32 #[.agg #[.int .i64 a, .int .i64 b, .int .i64 c, .int .i64 d], .int .i64 sl] w fun e w' => e = .returned (.int .i64 q) ∧ Below w.heap.size w w') := fun h h0 h2 => by
    obtain ⟨_, _, _, c1, c2, _, d1, d2⟩ := form_true h
    obtain ⟨s, rfl⟩ : ∃ s : Nat, sl = s := ⟨sl.toNat, by omega⟩
    have m1 : 0 ≤ (s : Int) * c := Int.mul_nonneg (by omega) (by omega)
    have m2 : (s : Int) * c ≤ 15 * 2048 := Int.mul_le_mul (by omega) c2 (by omega) (by omega)
    exact ⟨74 + s * c, by omega, by omega, fun w => first_any a b c d s ha hb hc hd h h2 w⟩
  clear hr ha hb hc hd
  rcases hcs with ⟨hf, rfl⟩ | ⟨hf, h1, rfl⟩ | ⟨hf, h1, h2, rfl⟩ | ⟨hf, h1, h2, h3, rfl⟩ | ⟨hf, h1, h2, h3, h4, rfl⟩ | ⟨_, _, _, _, _, rfl⟩
  · rw [hf] at FM
    clear FN FY hf
    go_enter Tryd.func31, Tryd.ntmps31
    go_wp2_with (go_at_call 29; refine (FM.out _).mono ?_; rintro e w1 ⟨rfl, hbel⟩; have HB1 : Hid (Below w.heap.size w w1) := HB0.out.trans (hbel.mono HB0.out.size); clear hbel)
    go_ret2
    exact ⟨rfl, HB1.out⟩
  · have F1 := Lib.hid (FN.out hf (.inl h1))
    rw [hf] at FM
    clear FN FY hf
    go_enter Tryd.func31, Tryd.ntmps31
    go_wp2_with (first
      | (go_at_call 29; refine (FM.out _).mono ?_; rintro e w1 ⟨rfl, hbel⟩; have HB1 : Hid (Below w.heap.size w w1) := HB0.out.trans (hbel.mono HB0.out.size); have HX1 := Lib.hid (HX0.out.below hbel (by simp)); have l0 := HX1.out 0 _ rfl; have l1 := HX1.out 1 _ rfl; have l2 := HX1.out 2 _ rfl; have l3 := HX1.out 3 _ rfl; clear hbel)
      | (go_at_call 32; refine (F1.out _).mono ?_; rintro e w2 ⟨rfl, hbel⟩; have HB2 : Hid (Below w.heap.size w w2) := HB1.out.trans (hbel.mono HB1.out.size); clear hbel))
    go_ret2
    exact ⟨rfl, HB2.out⟩
  · have F1 := Lib.hid (FN.out hf (.inr ⟨h1, h2⟩))
    rw [hf] at FM
    clear FN FY hf
    go_enter Tryd.func31, Tryd.ntmps31
    go_wp2_with (first
      | (go_at_call 29; refine (FM.out _).mono ?_; rintro e w1 ⟨rfl, hbel⟩; have HB1 : Hid (Below w.heap.size w w1) := HB0.out.trans (hbel.mono HB0.out.size); have HX1 := Lib.hid (HX0.out.below hbel (by simp)); have l0 := HX1.out 0 _ rfl; have l1 := HX1.out 1 _ rfl; have l2 := HX1.out 2 _ rfl; have l3 := HX1.out 3 _ rfl; clear hbel)
      | (go_at_call 32; refine (F1.out _).mono ?_; rintro e w2 ⟨rfl, hbel⟩; have HB2 : Hid (Below w.heap.size w w2) := HB1.out.trans (hbel.mono HB1.out.size); clear hbel))
    go_ret2
    exact ⟨rfl, HB2.out⟩
  · obtain ⟨q, q1, q2, hF⟩ := FY.out hf h1 h2
    have F1 := Lib.hid hF
    rw [hf] at FM
    clear FN FY hf hF
    go_enter Tryd.func31, Tryd.ntmps31
    go_wp2_with (first
      | (go_at_call 29; refine (FM.out _).mono ?_; rintro e w1 ⟨rfl, hbel⟩; have HB1 : Hid (Below w.heap.size w w1) := HB0.out.trans (hbel.mono HB0.out.size); have HX1 := Lib.hid (HX0.out.below hbel (by simp)); have l0 := HX1.out 0 _ rfl; have l1 := HX1.out 1 _ rfl; have l2 := HX1.out 2 _ rfl; have l3 := HX1.out 3 _ rfl; clear hbel)
      | (go_at_call 32; refine (F1.out _).mono ?_; rintro e w2 ⟨rfl, hbel⟩; have HB2 : Hid (Below w.heap.size w w2) := HB1.out.trans (hbel.mono HB1.out.size); clear hbel))
    go_ret2
    exact ⟨rfl, HB2.out⟩
  · obtain ⟨q, q1, q2, hF⟩ := FY.out hf h1 h2
    have F1 := Lib.hid hF
    rw [hf] at FM
    clear FN FY hf hF
    go_enter Tryd.func31, Tryd.ntmps31
    go_wp2_with (first
      | (go_at_call 29; refine (FM.out _).mono ?_; rintro e w1 ⟨rfl, hbel⟩; have HB1 : Hid (Below w.heap.size w w1) := HB0.out.trans (hbel.mono HB0.out.size); have HX1 := Lib.hid (HX0.out.below hbel (by simp)); have l0 := HX1.out 0 _ rfl; have l1 := HX1.out 1 _ rfl; have l2 := HX1.out 2 _ rfl; have l3 := HX1.out 3 _ rfl; clear hbel)
      | (go_at_call 32; refine (F1.out _).mono ?_; rintro e w2 ⟨rfl, hbel⟩; have HB2 : Hid (Below w.heap.size w w2) := HB1.out.trans (hbel.mono HB1.out.size); clear hbel))
    go_ret2
    exact ⟨rfl, HB2.out⟩
  · exact absurd rfl hr0

/-- Put, of any packers with this stream: what it returns, and what the stream is then. -/
theorem put_same (cp : Int) (n : Nat) (bs : List UInt8) (r : List UInt8 × Int) (hn : (n : Int) ≤ cp) : ∃ (x y z : Int) (m : Nat) (bs1 : List UInt8), n ≤ m ∧ (m : Int) ≤ cp ∧ (∃ u, bs1 = bs ++ u) ∧
    ∀ (a b c d f s : Int) (p : Nat) (tk : Int) (A : Option Addr) (cap : Nat) (w : World) (e : Ending) (w' : World), Pk w p a b c d f s A n cap tk bs → PPut p a b c d f s tk cp A n cap bs r w e w' → e = .returned (.tuple #[.int .i64 x, .int .i64 y, .int .i64 z]) ∧ ∃ A1 c1, Pk w' p a b c d f s A1 m c1 tk bs1 ∧ Far w w' p (Value.slice A n cap).ownBlock ∧ Born w (Value.slice A n cap).ownBlock (Value.slice A1 m c1).ownBlock := by
  by_cases hz : r.2 = 0
  · by_cases hfit : cp - n < r.1.length
    · refine ⟨0, 0, 8, n, bs, Nat.le_refl _, hn, ⟨[], by simp⟩, fun a b c d f s p tk A cap w e w' hpk h => ?_⟩
      obtain ⟨h1, h2⟩ := pput_full hz hfit h
      exact ⟨h1, A, cap, hpk.below h2, Far.of_below h2 _ _, Born.refl _ _⟩
    · refine ⟨n, r.1.length, 0, n + r.1.length, bs ++ r.1, by omega, by omega, ⟨_, rfl⟩, fun a b c d f s p tk A cap w e w' hpk h => ?_⟩
      obtain ⟨h1, A1, c1, h2, h3, h4⟩ := pput_good hz hfit h
      exact ⟨h1, A1, c1, h2, h3, h4⟩
  · refine ⟨0, 0, r.2, n, bs, Nat.le_refl _, hn, ⟨[], by simp⟩, fun a b c d f s p tk A cap w e w' hpk h => ?_⟩
    obtain ⟨h1, h2⟩ := pput_bad hz h
    exact ⟨h1, A, cap, hpk.below h2, Far.of_below h2 _ _, Born.refl _ _⟩
end Go.Proofs.YthgpmnblkhehkaaDoor
/- The packer: Bytes. -/
namespace Go.Proofs.YthgpmnblkhehkaaDoor
open Go.RowKit Go.Sort

/-- What Bytes returns of a stream. -/
def segOk (n : Nat) (off m : Int) : Prop := 0 ≤ off ∧ 0 ≤ m ∧ off ≤ n ∧ m ≤ n - off
def BytesSeg (bs : List UInt8) (n : Nat) (off m : Int) (w : World) (e : Ending) (w' : World) : Prop :=
  (¬ segOk n off m ∧ e = .returned (.slice none 0 0) ∧ Below w.heap.size w w') ∨
  (segOk n off m ∧ ∃ A1 c1, e = .returned (.slice A1 m.toNat c1) ∧ Byt w' w'.heap.size A1 m.toNat ((bs.drop off.toNat).take m.toNat) ∧ m.toNat ≤ c1 ∧ c1 ≤ 9223372036854775807 ∧ Below w.heap.size w w')
theorem Own.gform {w : World} {base n cap : Nat} {e : TypeId} {A : Option Addr} {bs : List UInt8} (h : Own w base e (.slice A n cap) n bs) : (A = none ∧ n = 0 ∧ cap = 0) ∨ ∃ g, A = some ⟨g, 0, none⟩ := by
  rcases h.2 with ⟨h1, h2⟩ | ⟨g, cap', cur, h1, _⟩
  · injection h1 with e1 e2 e3
    exact .inl ⟨e1, h2, e3⟩
  · injection h1 with e1 e2 e3
    exact .inr ⟨g, e1⟩

set_option maxRecDepth 100000 in
set_option maxHeartbeats 4000000 in
theorem pbytes_any (a b c d f s tk : Int) (p : Nat) (A : Option Addr) (n cap : Nat) (bs : List UInt8) (hn : n ≤ 1000000) (off m : Int) (w : World) (hP : Pk w p a b c d f s A n cap tk bs) :
    Calls Tryd.prog 40 #[.pointer (some ⟨p, 0, none⟩), .int .i64 off, .int .i64 m] w (BytesSeg bs n off m w) := by
  have l6 := hP.cells 6 _ rfl
  have hn0 : (0 : Int) ≤ n := by omega
  by_cases h1 : off < 0
  · have HN : Hid (¬ segOk n off m) := fun h => by have := h.1; omega
    clear hP
    go_enter Tryd.func40, Tryd.ntmps40
    go_wp2_with fail
    go_ret
    exact .inl ⟨HN.out, rfl, Below.refl _ _⟩
  by_cases h2 : m < 0
  · have HN : Hid (¬ segOk n off m) := fun h => by have := h.2.1; omega
    clear hP
    go_enter Tryd.func40, Tryd.ntmps40
    go_wp2_with fail
    go_ret
    exact .inl ⟨HN.out, rfl, Below.refl _ _⟩
  by_cases h3 : (n : Int) < off
  · have HN : Hid (¬ segOk n off m) := fun h => by have := h.2.2.1; omega
    clear hP
    go_enter Tryd.func40, Tryd.ntmps40
    go_wp2_with fail
    go_ret
    exact .inl ⟨HN.out, rfl, Below.refl _ _⟩
  by_cases h4 : (n : Int) - off < m
  · have HN : Hid (¬ segOk n off m) := fun h => by have := h.2.2.2; omega
    clear hP
    go_enter Tryd.func40, Tryd.ntmps40
    go_wp2_with fail
    go_ret
    exact .inl ⟨HN.out, rfl, Below.refl _ _⟩
  have HS : Hid (segOk n off m) := ⟨by omega, by omega, by omega, by omega⟩
  obtain ⟨lo, rfl⟩ : ∃ lo : Nat, off = lo := ⟨off.toNat, by omega⟩
  obtain ⟨k, rfl⟩ : ∃ k : Nat, m = k := ⟨m.toNat, by omega⟩
  have hlk : lo + k ≤ n := by omega
  obtain ⟨A', cap', he, hncap, hcap⟩ := hP.own.form
  injection he with e1 e2 e3
  subst e1; subst e3
  clear e2
  have HY : Hid (Byt w w.heap.size (if cap = lo then A else A.map (·.add lo)) k ((bs.drop lo).take k)) := (hP.own.byt.cut (k := lo) (cap := cap) (by omega) hncap).take (k := k) (by omega)
  have CL : Hid (∀ AA cc, Byt w w.heap.size AA k ((bs.drop lo).take k) → Calls Tryd.prog 54 #[.slice AA k cc] w fun e w' => ∃ A1 c1, e = .returned (.slice A1 k c1) ∧ Byt w' w'.heap.size A1 k ((bs.drop lo).take k) ∧ k ≤ c1 ∧ c1 ≤ 9223372036854775807 ∧ Below w.heap.size w w') := fun AA cc hb => by
    refine (clone_any _ AA k cc w.heap.size w hb (by omega) (Nat.le_refl _)).mono ?_
    rintro e w' ⟨A1, c1, rfl, hown, hbel⟩
    obtain ⟨_, _, he, q1, q2⟩ := hown.form
    injection he with _ _ he
    subst he
    exact ⟨A1, c1, rfl, hown.byt, q1, q2, hbel⟩
  have hgf := hP.own.gform
  have hw3 : IntKind.i64.wrap ((lo : Int) + (k : Int)) = (lo : Int) + (k : Int) := IntWalk.i64_in _ (by omega)
  have hc1 : (lo : Int) + (k : Int) ≤ (cap : Int) := by omega
  have hc2 : (0 : Int) ≤ (lo : Int) + (k : Int) := by omega
  have hc3 : (lo : Int) ≤ max ((lo : Int) + (k : Int)) 0 := by omega
  have hc5 : ((lo : Int) + (k : Int)).toNat = lo + k := by omega
  have hc6 : lo + k - lo = k := by omega
  have hc7 : ((lo : Int) + (k : Int) - (lo : Int)).toNat = k := by omega
  clear hP h1 h2 h3 h4
  rcases hgf with ⟨rfl, rfl, rfl⟩ | ⟨g, rfl⟩
  · obtain rfl : lo = 0 := by omega
    obtain rfl : k = 0 := by omega
    go_enter Tryd.func40, Tryd.ntmps40
    go_wp2_with (go_at_call 54; refine (CL.out _ _ (by simpa using HY.out)).mono ?_; rintro e w1 ⟨A1, c1, rfl, q1, q2, q3, hbel⟩; have HQ := Lib.hid (And.intro q1 (And.intro q2 (And.intro q3 hbel))); clear q1 q2 q3 hbel)
    go_ret
    exact .inr ⟨HS.out, A1, c1, rfl, HQ.out⟩
  · by_cases hcl : cap = lo
    · have hy := HY.out
      rw [if_pos hcl] at hy
      have HY2 := Lib.hid hy
      clear hy HY
      subst hcl
      go_enter Tryd.func40, Tryd.ntmps40
      go_wp2_with (go_at_call 54; refine (CL.out _ _ HY2.out).mono ?_; rintro e w1 ⟨A1, c1, rfl, q1, q2, q3, hbel⟩; have HQ := Lib.hid (And.intro q1 (And.intro q2 (And.intro q3 hbel))); clear q1 q2 q3 hbel)
      go_ret
      exact .inr ⟨HS.out, A1, c1, rfl, HQ.out⟩
    · have hy := HY.out
      rw [if_neg hcl] at hy
      have e : (Option.map (fun x : Addr => x.add lo) (some (⟨g, 0, none⟩ : Addr))) = some ⟨g, lo, none⟩ := by
        simp only [Option.map_some, Addr.add]
        by_cases h0 : lo = 0
        · rw [if_pos h0, h0]
        · rw [if_neg h0, Nat.zero_add]
      rw [e] at hy
      have HY2 := Lib.hid hy
      clear hy HY e
      go_enter Tryd.func40, Tryd.ntmps40
      go_wp2_with (go_at_call 54; refine (CL.out _ _ HY2.out).mono ?_; rintro e w1 ⟨A1, c1, rfl, q1, q2, q3, hbel⟩; have HQ := Lib.hid (And.intro q1 (And.intro q2 (And.intro q3 hbel))); clear q1 q2 q3 hbel)
      go_ret
      exact .inr ⟨HS.out, A1, c1, rfl, HQ.out⟩
end Go.Proofs.YthgpmnblkhehkaaDoor
/- An open region: Append, Sync, Room, Read (tools/mkreg2.py). -/
namespace Go.Proofs.YthgpmnblkhehkaaDoor
open Go.RowKit

/-- Put: the results, and the stream behind it. -/
def putT (cp : Int) (n : Nat) (bs : List UInt8) (r : List UInt8 × Int) : (Int × Int × Int) × Nat × List UInt8 :=
  if r.2 ≠ 0 then ((0, 0, r.2), n, bs) else if cp - n < r.1.length then ((0, 0, 8), n, bs) else (((n : Int), (r.1.length : Int), 0), n + r.1.length, bs ++ r.1)
theorem putT_le {cp : Int} {n : Nat} {bs : List UInt8} {r : List UInt8 × Int} : n ≤ (putT cp n bs r).2.1 ∧ ((n : Int) ≤ cp → ((putT cp n bs r).2.1 : Int) ≤ cp) := by
  unfold putT
  split
  · exact ⟨Nat.le_refl _, fun h => h⟩
  · split
    · exact ⟨Nat.le_refl _, fun h => h⟩
    · rename_i h1 h2
      refine ⟨Nat.le_add_right _ _, fun h => ?_⟩
      show ((n + r.1.length : Nat) : Int) ≤ cp
      omega
theorem pput_t {p : Nat} {a b c d f s tk cp : Int} {A : Option Addr} {n cap : Nat} {bs : List UInt8} {r : List UInt8 × Int} {w w' : World} {e : Ending} (hpk : Pk w p a b c d f s A n cap tk bs) (h : PPut p a b c d f s tk cp A n cap bs r w e w') :
    e = .returned (.tuple #[.int .i64 (putT cp n bs r).1.1, .int .i64 (putT cp n bs r).1.2.1, .int .i64 (putT cp n bs r).1.2.2]) ∧ ∃ A' cap', Pk w' p a b c d f s A' (putT cp n bs r).2.1 cap' tk (putT cp n bs r).2.2 ∧ Far w w' p (Value.slice A n cap).ownBlock ∧ Born w (Value.slice A n cap).ownBlock (Value.slice A' (putT cp n bs r).2.1 cap').ownBlock := by
  rcases h with ⟨h1, h2, h3⟩ | ⟨h1, h2, h3, h4⟩ | ⟨h1, h2, h3, A', cap', h4, h5, h6⟩
  · rw [show putT cp n bs r = ((0, 0, r.2), n, bs) from by unfold putT; rw [if_pos h1]]
    exact ⟨h2, A, cap, hpk.below h3, Far.of_below h3 _ _, Born.refl _ _⟩
  · rw [show putT cp n bs r = ((0, 0, 8), n, bs) from by unfold putT; rw [if_neg (by simp [h1]), if_pos h2]]
    exact ⟨h3, A, cap, hpk.below h4, Far.of_below h4 _ _, Born.refl _ _⟩
  · rw [show putT cp n bs r = (((n : Int), (r.1.length : Int), 0), n + r.1.length, bs ++ r.1) from by unfold putT; rw [if_neg (by simp [h1]), if_neg h2]]
    exact ⟨h3, A', cap', h4, h5, h6⟩
/-- A region's stream and device. -/
structure RS where
  s : DS
  n : Nat
  tk : Nat
  bs : List UInt8
/-- How many frames are full and not yet taken. -/
def fullN (n tk : Nat) : Nat := n / 59 - tk
/-- flush of a region. -/
def flushR (S : Nat) (f sq : Int) (x : RS) : Int × RS :=
  ((flushS S x.s (takeS f sq x.bs x.tk (fullN x.n x.tk))).1, { x with s := (flushS S x.s (takeS f sq x.bs x.tk (fullN x.n x.tk))).2, tk := x.tk + fullN x.n x.tk })
/-- Append: the results and the state behind it. -/
def appendR (S : Nat) (f sq cp : Int) (x : RS) (r : List UInt8 × Int) : (Int × Int × Int) × RS :=
  if (putT cp x.n x.bs r).1.2.2 ≠ 0 then ((0, 0, (putT cp x.n x.bs r).1.2.2), x)
  else if (flushR S f sq { x with n := (putT cp x.n x.bs r).2.1, bs := (putT cp x.n x.bs r).2.2 }).1 ≠ 0 then ((0, 0, (flushR S f sq { x with n := (putT cp x.n x.bs r).2.1, bs := (putT cp x.n x.bs r).2.2 }).1), (flushR S f sq { x with n := (putT cp x.n x.bs r).2.1, bs := (putT cp x.n x.bs r).2.2 }).2)
  else (((putT cp x.n x.bs r).1.1, (putT cp x.n x.bs r).1.2.1, 0), (flushR S f sq { x with n := (putT cp x.n x.bs r).2.1, bs := (putT cp x.n x.bs r).2.2 }).2)
theorem putT_err {cp : Int} {n : Nat} {bs : List UInt8} {r : List UInt8 × Int} (h : (putT cp n bs r).1.2.2 ≠ 0) : (putT cp n bs r).2 = (n, bs) := by
  unfold putT at h ⊢
  split
  · rfl
  · rename_i h1
    rw [if_neg h1] at h
    split
    · rfl
    · rename_i h2
      rw [if_neg h2] at h
      exact absurd rfl h
theorem full_ok {n tk : Nat} (h : tk * 59 ≤ n) : (tk + fullN n tk) * 59 ≤ n ∧ n < (tk + fullN n tk + 1) * 59 := by unfold fullN; omega
/-- The pieces of memory that a region's calls may touch, the stream's block among them. -/
def rgA (d g r p : Nat) (A : Option Addr) (n cap : Nat) (k : Nat) : Prop := rgL d g r p k ∨ some k = (Value.slice A n cap).ownBlock
section
variable {w w' : World} {q d g r S c p : Nat} {s : DS} {h : Hd} {a b cc dd f sq : Int} {A : Option Addr} {n cap tk : Nat} {bs : List UInt8}
theorem Rg.tab (hR : Rg w q d g r S c s h p a b cc dd f sq A n cap tk bs) (ht : TabAt w) (h1 : 0 < d ∧ 0 < g ∧ 0 < r ∧ 0 < p) (hk : Keep w w' (rgA d g r p A n cap)) : TabAt w' := by
  refine ht.below (B := 1) (hk.below (fun k hk => ?_) (by have := hR.pk.cells.lt; omega)) (by decide)
  rcases hk with ((e | e | e) | e) | e
  · omega
  · omega
  · omega
  · omega
  · have := hR.pk.own.ge e.symm; omega
/-- What Append leaves. -/
def RgOut (w : World) (q d g r S c : Nat) (h : Hd) (p : Nat) (a b cc dd f sq : Int) (A : Option Addr) (n cap : Nat) (y : RS) (w' : World) : Prop :=
  ∃ A' cap', Rg w' q d g r S c y.s h p a b cc dd f sq A' y.n cap' y.tk y.bs ∧ Keep w w' (rgA d g r p A n cap) ∧ Born w (Value.slice A n cap).ownBlock (Value.slice A' y.n cap').ownBlock
theorem RgOut.refl (hR : Rg w q d g r S c s h p a b cc dd f sq A n cap tk bs) (hb : Below w.heap.size w w') : RgOut w q d g r S c h p a b cc dd f sq A n cap ⟨s, n, tk, bs⟩ w' :=
  ⟨A, cap, hR.below hb, Keep.of_below hb _, Born.refl _ _⟩

/-- Put through the region: what has come up (bb), what the temporaries hold (v). -/
structure R3a (w0 : World) (q d g r S c : Nat) (s : DS) (h : Hd) (p : Nat) (a b cc dd f sq : Int) (A : Option Addr) (n cap tk : Nat) (T : (Int × Int × Int) × Nat × List UInt8) (rv : Value) (bb : Nat → Bool) (v : Nat → Value) (w : World) : Prop where
  same : bb 5 = false → w = w0.drew
  fin : bb 5 = true → v 5 = .tuple #[.int .i64 T.1.1, .int .i64 T.1.2.1, .int .i64 T.1.2.2] ∧ ∃ A' cap', Rg w q d g r S c s h p a b cc dd f sq A' T.2.1 cap' tk T.2.2 ∧ Far w0 w p (Value.slice A n cap).ownBlock ∧ Born w0 (Value.slice A n cap).ownBlock (Value.slice A' T.2.1 cap').ownBlock
  s0 : bb 0 = true → v 0 = .pointer (some ⟨q, 0, none⟩)
  s1 : bb 1 = true → v 1 = .pointer (some ⟨q, 0, none⟩)
  s2 : bb 2 = true → v 2 = .pointer (some ⟨q, 7, none⟩)
  s3 : bb 3 = true → v 3 = .pointer (some ⟨p, 0, none⟩)
  s4 : bb 4 = true → v 4 = rv
  s6 : bb 6 = true → v 6 = .tuple #[.int .i64 T.1.1, .int .i64 T.1.2.1, .int .i64 T.1.2.2]
  s7 : bb 7 = true → v 7 = .int .i64 T.1.1
  s8 : bb 8 = true → v 8 = .int .i64 T.1.2.1
  s9 : bb 9 = true → v 9 = .int .i64 T.1.2.2
  s10 : bb 10 = true → v 10 = .int .i64 T.1.1
  s11 : bb 11 = true → v 11 = .int .i64 T.1.2.1
  s12 : bb 12 = true → v 12 = .int .i64 T.1.2.2

set_option maxRecDepth 100000 in
set_option maxHeartbeats 4000000 in
theorem gappend_any (hR : Rg w q d g r S c s h p a b cc dd f sq A n cap tk bs) (ht : TabAt w) (h1 : 0 < d ∧ 0 < g ∧ 0 < r ∧ 0 < p) (ha : I64 a) (hb : I64 b) (hc : I64 cc) (hd : I64 dd) (cp : Int) (hcp : capS a b cc dd = cp) (hn : (n : Int) ≤ cp) (hcp9 : cp ≤ 1000000) (hf0 : 0 ≤ f) (hf : f ≤ 100000) (hs0 : 0 ≤ sq) (hs : sq ≤ 281474976710655) (htk : tk * 59 ≤ n) (hwr : s.wr ≤ 100000000)
    (ki ex : Int) (key val : List UInt8) (Ak Av : Option Addr) (nk ck nv cv B : Nat) (hk : Byt w B Ak nk key) (hv : Byt w B Av nv val) (hB : B ≤ w.heap.size) (hkn : nk ≤ 100000) (hvn : nv ≤ 100000) (rr : List UInt8 × Int) (hr : rencS b sq n ki ex key val = rr) :
    Calls Tryd.prog 11 #[.pointer (some ⟨q, 0, none⟩), .agg #[.int .i64 ki, .slice Ak nk ck, .slice Av nv cv, .int .i64 ex]] w fun e w' =>
      e = .returned (.tuple #[.int .i64 (appendR S f sq cp ⟨s, n, tk, bs⟩ rr).1.1, .int .i64 (appendR S f sq cp ⟨s, n, tk, bs⟩ rr).1.2.1, .int .i64 (appendR S f sq cp ⟨s, n, tk, bs⟩ rr).1.2.2]) ∧ RgOut w q d g r S c h p a b cc dd f sq A n cap (appendR S f sq cp ⟨s, n, tk, bs⟩ rr).2 w' := by
  have hlt := hR.cells.lt
  have PT : Hid (∀ wx, Below w.heap.size w wx → Calls Tryd.prog 38 #[.pointer (some ⟨p, 0, none⟩), .agg #[.int .i64 ki, .slice Ak nk ck, .slice Av nv cv, .int .i64 ex]] wx (PPut p a b cc dd f sq tk cp A n cap bs rr wx)) := fun wx hbx =>
    pput_any a b cc dd f sq tk cp p A n cap bs ki ex key val Ak Av nk ck nv cv B wx (ht.below hbx (by omega)) (by have := hbx.size; omega) (hR.pk.below hbx) ha hb hc hd hcp (by omega) (hk.belowBy hbx hB) (hv.belowBy hbx hB) (Nat.le_trans hB hbx.size) hkn hvn (by omega) rr hr
  have HR := Lib.hid hR
  have HB0 : Hid (Below w.heap.size w (w.alloc (.cells #[.int .i64 ki, .slice Ak nk ck, .slice Av nv cv, .int .i64 ex] 36))) := (Below.refl _ _).alloc (Nat.le_refl _) _
  have HX0 := Lib.hid (Cells.new w 36 #[.int .i64 ki, .slice Ak nk ck, .slice Av nv cv, .int .i64 ex])
  obtain ⟨T, hT⟩ : ∃ T, putT cp n bs rr = T := ⟨_, rfl⟩
  have hTle := putT_le (cp := cp) (n := n) (bs := bs) (r := rr)
  have hTe := putT_err (cp := cp) (n := n) (bs := bs) (r := rr)
  rw [hT] at hTle hTe
  have HT := Lib.hid hT
  have HTLE := Lib.hid hTle
  have HTE := Lib.hid hTe
  have HTAB := Lib.hid ht
  have HG := Lib.hid (And.intro h1 (And.intro hn (And.intro hf0 (And.intro hf (And.intro hs0 (And.intro hs (And.intro htk hwr)))))))
  clear hR hk hv hB ha hb hc hd hcp hr hT hTle hTe ht hn hf0 hf hs0 hs htk hwr hkn hvn h1
  go_enter Tryd.func11, Tryd.ntmps11
  go_upto_region 3 with fail
  go_cut [4, 5, 6] (fun x y z wx => x = .int .i64 T.1.1 ∧ y = .int .i64 T.1.2.1 ∧ z = .int .i64 T.1.2.2 ∧ ∃ A' cap', Rg wx q d g r S c s h p a b cc dd f sq A' T.2.1 cap' tk T.2.2 ∧ Keep w wx (rgA d g r p A n cap) ∧ Born w (Value.slice A n cap).ownBlock (Value.slice A' T.2.1 cap').ownBlock)
  case first =>
    refine wp_region_inv (F := ?F) (R3a (w.alloc (.cells #[.int .i64 ki, .slice Ak nk ck, .slice Av nv cv, .int .i64 ex] 36)) q d g r S c s h p a b cc dd f sq A n cap tk T (.agg #[.int .i64 ki, .slice Ak nk ck, .slice Av nv cv, .int .i64 ex])) id ?hF (by kernel_rfl) (by kernel_rfl) ?ha ?h0 ?hs ?hfin
    case hF =>
      intro v
      simp only [putsAll, Act.put, List.setIfInBounds_toArray, List.set_cons_zero, List.set_cons_succ]
      rfl
    case ha =>
      simp only [putsAll, Act.put, List.setIfInBounds_toArray, List.set_cons_zero, List.set_cons_succ]
      rfl
    case h0 =>
      exact { same := fun _ => rfl, fin := nofun, s0 := nofun, s1 := nofun, s2 := nofun, s3 := nofun, s4 := nofun, s6 := nofun, s7 := nofun, s8 := nofun, s9 := nofun, s10 := nofun, s11 := nofun, s12 := nofun }
    case hs =>
      refine ⟨?_, ?_, ?_, ?_, ?_, ?_, ?_, ?_, ?_, ?_, ?_, ?_, ?_, trivial⟩
      · intro b9 v w9 hR hc hb hp K hK
        (try simp [Region.binds] at hp)
        have hlast : b9 5 = false := hc.neg (by kernel_rfl) hb
        clear hc
        have hw9 := hR.same hlast
        subst hw9
        go_simp
        exact hK (upd v 0 _) _ { hR with s0 := fun _ => rfl }
      · intro b9 v w9 hR hc hb hp K hK
        (try simp [Region.binds] at hp)
        have hlast : b9 5 = false := hc.neg (by kernel_rfl) hb
        clear hc
        have e0 := hR.s0 (by simp [hp])
        have hw9 := hR.same hlast
        subst hw9
        go_simp
        exact hK (upd (upd v 1 _) 0 _) _ { hR with s1 := fun _ => rfl, s0 := fun _ => rfl }
      · intro b9 v w9 hR hc hb hp K hK
        (try simp [Region.binds] at hp)
        have hlast : b9 5 = false := hc.neg (by kernel_rfl) hb
        clear hc
        have e1 := hR.s1 (by simp [hp])
        have hw9 := hR.same hlast
        subst hw9
        go_simp
        exact hK (upd (upd v 2 _) 1 _) _ { hR with s2 := fun _ => rfl, s1 := fun _ => rfl }
      · intro b9 v w9 hR hc hb hp K hK
        (try simp [Region.binds] at hp)
        have hlast : b9 5 = false := hc.neg (by kernel_rfl) hb
        clear hc
        have e2 := hR.s2 (by simp [hp])
        have hw9 := hR.same hlast
        subst hw9
        have y := (HR.out.below HB0.out).cells 7 _ rfl
        go_simp
        exact hK (upd (upd v 3 _) 2 _) _ { hR with s3 := fun _ => rfl, s2 := fun _ => rfl }
      · intro b9 v w9 hR hc hb hp K hK
        (try simp [Region.binds] at hp)
        have hlast : b9 5 = false := hc.neg (by kernel_rfl) hb
        clear hc
        have hw9 := hR.same hlast
        subst hw9
        have y0 := HX0.out 0 _ rfl; have y1 := HX0.out 1 _ rfl; have y2 := HX0.out 2 _ rfl; have y3 := HX0.out 3 _ rfl
        go_simp
        exact hK (upd v 4 _) _ { hR with s4 := fun _ => rfl }
      · intro b9 v w9 hR hc hb hp K hK
        (try simp [Region.binds] at hp)
        have h6 : b9 6 = false := hc.neg (by kernel_rfl) hb
        clear hc
        have e3 := hR.s3 (by simp [hp])
        have e4 := hR.s4 (by simp [hp])
        have hw9 := hR.same hb
        subst hw9
        go_simp
        go_wp2_with (go_at_call 38; refine (PT.out _ (Below.drew HB0.out)).mono ?_; intro e w6 hput; obtain ⟨he, A6, c6, hpk6, hf6, hb6⟩ := pput_t (HR.out.pk.below (Below.drew HB0.out)) hput; rw [HT.out] at he hpk6 hb6; subst he)
        exact hK (upd (upd (upd v 5 _) 3 _) 4 _) _ { hR with same := fun h => Bool.noConfusion (show true = false from h), fin := fun _ => ⟨rfl, A6, c6, (HR.out.below (Below.drew HB0.out)).packed hpk6 hf6 (.inl rfl) hb6, ⟨hf6.os, hf6.tape, hf6.output, hf6.size, hf6.block⟩, hb6⟩, s3 := fun _ => rfl, s4 := fun _ => rfl, s6 := fun h => Bool.noConfusion (h6.symm.trans h) }
      · intro b9 v w9 hR hc hb hp K hK
        (try simp [Region.binds] at hp)
        have e5 := (hR.fin (by simp [hp])).1
        clear hc
        go_simp
        exact hK (upd (upd v 6 _) 5 _) _ { hR with s6 := fun _ => rfl, fin := fun _ => ⟨rfl, (hR.fin (by simp [hp])).2⟩ }
      · intro b9 v w9 hR hc hb hp K hK
        (try simp [Region.binds] at hp)
        clear hc
        have e6 := hR.s6 (by simp [hp])
        go_simp
        exact hK (upd (upd v 7 _) 6 _) _ { hR with s7 := fun _ => rfl, s6 := fun _ => rfl }
      · intro b9 v w9 hR hc hb hp K hK
        (try simp [Region.binds] at hp)
        clear hc
        have e6 := hR.s6 (by simp [hp])
        go_simp
        exact hK (upd (upd v 8 _) 6 _) _ { hR with s8 := fun _ => rfl, s6 := fun _ => rfl }
      · intro b9 v w9 hR hc hb hp K hK
        (try simp [Region.binds] at hp)
        clear hc
        have e6 := hR.s6 (by simp [hp])
        go_simp
        exact hK (upd (upd v 9 _) 6 _) _ { hR with s9 := fun _ => rfl, s6 := fun _ => rfl }
      · intro b9 v w9 hR hc hb hp K hK
        (try simp [Region.binds] at hp)
        clear hc
        have e7 := hR.s7 (by simp [hp])
        go_simp
        exact hK (upd (upd v 10 _) 7 _) _ { hR with s10 := fun _ => rfl, s7 := fun _ => rfl }
      · intro b9 v w9 hR hc hb hp K hK
        (try simp [Region.binds] at hp)
        clear hc
        have e8 := hR.s8 (by simp [hp])
        go_simp
        exact hK (upd (upd v 11 _) 8 _) _ { hR with s11 := fun _ => rfl, s8 := fun _ => rfl }
      · intro b9 v w9 hR hc hb hp K hK
        (try simp [Region.binds] at hp)
        clear hc
        have e9 := hR.s9 (by simp [hp])
        go_simp
        exact hK (upd (upd v 12 _) 9 _) _ { hR with s12 := fun _ => rfl, s9 := fun _ => rfl }
    case hfin =>
      intro b9 v w9 hall hR
      obtain ⟨_, A6, c6, hr6, hf6, hb6⟩ := hR.fin (hall 5 (by decide))
      have e10 := hR.s10 (hall 10 (by decide))
      have e11 := hR.s11 (hall 11 (by decide))
      have e12 := hR.s12 (hall 12 (by decide))
      have HX6 := Lib.hid (And.intro hr6 (And.intro hf6 hb6))
      clear hR hall hr6 hf6 hb6
      go_wp2_with fail
      (try go_simp)
      go_meet
      obtain ⟨k1, k2, k3⟩ := HX6.out
      refine ⟨rfl, rfl, rfl, A6, c6, k1, ?_, ?_⟩
      · exact ⟨k2.os.trans HB0.out.os, k2.tape.trans HB0.out.tape, k2.output.trans HB0.out.output, Nat.le_trans HB0.out.size k2.size, fun k hk hn => (k2.block k (Nat.lt_of_lt_of_le hk HB0.out.size) (fun e => hn (.inl (.inr e))) (fun e => hn (.inr e))).trans (HB0.out.block k hk)⟩
      · rcases k3 with k3 | k3
        · exact .inl k3
        · exact .inr fun g hg => Nat.le_trans HB0.out.size (k3 g hg)
  case rest =>
    obtain ⟨rfl, rfl, rfl, A', cap', hrg, hkp, hbo⟩ := hcut
    obtain ⟨w2, hw2⟩ : ∃ x, x = wc := ⟨_, rfl⟩
    subst hw2
    have HR2 := Lib.hid hrg
    have HK2 := Lib.hid hkp
    have HBO := Lib.hid hbo
    clear hrg hkp hbo
    by_cases hz : T.1.2.2 = 0
    rotate_left
    · have HAP : Hid (appendR S f sq cp ⟨s, n, tk, bs⟩ rr = ((0, 0, T.1.2.2), ⟨s, n, tk, bs⟩)) := by
        show _ = _
        unfold appendR
        rw [HT.out, if_pos hz]
      have hTT := HTE.out hz
      obtain ⟨er, her⟩ : ∃ er, T.1.2.2 = er := ⟨_, rfl⟩
      have hr2 := HR2.out
      have hb2 := HBO.out
      rw [hTT] at hr2 hb2
      have HR3 := Lib.hid hr2
      have HB3 := Lib.hid hb2
      rw [her] at hz HAP ⊢
      clear her hTT hr2 hb2
      go_wp2
      go_ret3
      rw [HAP.out]
      exact ⟨rfl, A', cap', HR3.out, HK2.out, HB3.out⟩
    · have ht2 : TabAt w2 := HR.out.tab HTAB.out HG.out.1 HK2.out
      have hTn : T.2.1 ≤ 1000000 := by have := HTLE.out.2 HG.out.2.1; omega
      have htk2 : tk * 59 ≤ T.2.1 := Nat.le_trans HG.out.2.2.2.2.2.2.1 HTLE.out.1
      obtain ⟨f1, f2⟩ := full_ok htk2
      have FL := Lib.hid (flush_any HR2.out hTn HG.out.2.2.1 HG.out.2.2.2.1 HG.out.2.2.2.2.1 HG.out.2.2.2.2.2.1 htk2 (fullN T.2.1 tk) f1 f2 ht2 HG.out.1.2.2.2 (by have := HG.out.2.2.2.2.2.2.2; unfold fullN; omega))
      obtain ⟨fl, hfl⟩ : ∃ fl, flushS S s (takeS f sq T.2.2 tk (fullN T.2.1 tk)) = fl := ⟨_, rfl⟩
      rw [hfl] at FL
      have HAP : Hid (appendR S f sq cp ⟨s, n, tk, bs⟩ rr = if fl.1 ≠ 0 then ((0, 0, fl.1), ⟨fl.2, T.2.1, tk + fullN T.2.1 tk, T.2.2⟩) else ((T.1.1, T.1.2.1, 0), ⟨fl.2, T.2.1, tk + fullN T.2.1 tk, T.2.2⟩)) := by
        show _ = _
        unfold appendR flushR
        simp only [HT.out, hfl]
        rw [if_neg (by simp [hz])]
      rw [hz]
      clear hz ht2 hTn htk2 f1 f2 hfl
      by_cases h0 : fl.1 = 0
      · have hap := HAP.out
        rw [if_neg (by simp [h0])] at hap
        have HAP2 := Lib.hid hap
        have HZ0 := Lib.hid h0
        clear hap h0
        go_wp2_with (go_at_call 37; refine FL.out.mono ?_; rintro e w3 ⟨rfl, hr3, hk3⟩; rw [HZ0.out]; have HR3 := Lib.hid hr3; have HK3 := Lib.hid hk3; clear hr3 hk3)
        go_ret3
        rw [HAP2.out]
        exact ⟨rfl, A', cap', HR3.out, HK2.out.trans HK3.out (fun k _ hk => .inl hk), HBO.out⟩
      · have hap := HAP.out
        rw [if_pos h0] at hap
        have HAP2 := Lib.hid hap
        obtain ⟨er, her⟩ : ∃ er, fl.1 = er := ⟨_, rfl⟩
        rw [her] at h0 HAP2 FL
        clear hap her
        go_wp2_with (go_at_call 37; refine FL.out.mono ?_; rintro e w3 ⟨rfl, hr3, hk3⟩; have HR3 := Lib.hid hr3; have HK3 := Lib.hid hk3; clear hr3 hk3)
        go_ret3
        rw [HAP2.out]
        exact ⟨rfl, A', cap', HR3.out, HK2.out.trans HK3.out (fun k _ hk => .inl hk), HBO.out⟩
end
end Go.Proofs.YthgpmnblkhehkaaDoor
/- An open region: Sync, Header, Room, Read; a nil region. -/
namespace Go.Proofs.YthgpmnblkhehkaaDoor
open Go.RowKit

/-- The stream padded. -/
def padR (x : RS) : RS := { x with n := x.n + padK x.n, bs := x.bs ++ List.replicate (padK x.n) 0 }
/-- Sync: the error and the state behind it. -/
def syncR (S : Nat) (f sq : Int) (x : RS) : Int × RS :=
  if (flushR S f sq (padR x)).1 ≠ 0 then flushR S f sq (padR x) else ((barrierS (flushR S f sq (padR x)).2.s).1, { (flushR S f sq (padR x)).2 with s := (barrierS (flushR S f sq (padR x)).2.s).2 })
section
variable {w w' : World} {q d g r S c p : Nat} {s : DS} {h : Hd} {a b cc dd f sq : Int} {A : Option Addr} {n cap tk : Nat} {bs : List UInt8}
set_option maxRecDepth 100000 in
set_option maxHeartbeats 4000000 in
theorem gsync_any (hR : Rg w q d g r S c s h p a b cc dd f sq A n cap tk bs) (ht : TabAt w) (h1 : 0 < d ∧ 0 < g ∧ 0 < r ∧ 0 < p) (hn : n ≤ 900000) (hf0 : 0 ≤ f) (hf : f ≤ 100000) (hs0 : 0 ≤ sq) (hs : sq ≤ 281474976710655) (htk : tk * 59 ≤ n) (hwr : s.wr ≤ 100000000) :
    Calls Tryd.prog 9 #[.pointer (some ⟨q, 0, none⟩)] w fun e w' =>
      e = .returned (.int .i64 (syncR S f sq ⟨s, n, tk, bs⟩).1) ∧ RgOut w q d g r S c h p a b cc dd f sq A n cap (syncR S f sq ⟨s, n, tk, bs⟩).2 w' := by
  have l7 := hR.cells 7 _ rfl
  have PD := Lib.hid (pad_any a b cc dd f sq tk p A n cap bs (by omega) w hR.pk)
  have hpk := padK_lt n
  obtain ⟨n2, hn2⟩ : ∃ n2, n + padK n = n2 := ⟨_, rfl⟩
  obtain ⟨b2, hb2⟩ : ∃ b2, bs ++ List.replicate (padK n) 0 = b2 := ⟨_, rfl⟩
  rw [hn2, hb2] at PD
  have HSY : Hid (syncR S f sq ⟨s, n, tk, bs⟩ = if (flushS S s (takeS f sq b2 tk (fullN n2 tk))).1 ≠ 0 then ((flushS S s (takeS f sq b2 tk (fullN n2 tk))).1, ⟨(flushS S s (takeS f sq b2 tk (fullN n2 tk))).2, n2, tk + fullN n2 tk, b2⟩) else ((barrierS (flushS S s (takeS f sq b2 tk (fullN n2 tk))).2).1, ⟨(barrierS (flushS S s (takeS f sq b2 tk (fullN n2 tk))).2).2, n2, tk + fullN n2 tk, b2⟩)) := by
    show _ = _
    unfold syncR flushR padR
    simp only [hn2, hb2]
  have hn3 : n2 ≤ 1000000 := by omega
  have htk2 : tk * 59 ≤ n2 := by omega
  have HG := Lib.hid (And.intro h1 (And.intro hn3 (And.intro hf0 (And.intro hf (And.intro hs0 (And.intro hs (And.intro htk2 hwr)))))))
  have HR := Lib.hid hR
  have HTAB := Lib.hid ht
  clear hR ht h1 hn hf0 hf hs0 hs htk hwr hpk hn2 hb2 hn3 htk2
  go_enter Tryd.func9, Tryd.ntmps9
  go_upto_region 4 with (go_at_call 36; refine PD.out.mono ?_; rintro e w1 ⟨rfl, A1, c1, hpg⟩; have HPG := Lib.hid hpg; clear hpg)
  have hr1 := HR.out.packed HPG.out.pk HPG.out.far (.inl rfl) HPG.out.born
  have HR1 := Lib.hid hr1
  have HK1 : Hid (Keep w w1 (rgA d g r p A n cap)) := (Keep.of_far HPG.out.far).mono (fun k e => by rcases e with e | e; exact .inl (.inr e); exact .inr e)
  have ht1 : TabAt w1 := HR.out.tab HTAB.out HG.out.1 HK1.out
  obtain ⟨f1, f2⟩ := full_ok HG.out.2.2.2.2.2.2.1
  have FL := Lib.hid (flush_any hr1 HG.out.2.1 HG.out.2.2.1 HG.out.2.2.2.1 HG.out.2.2.2.2.1 HG.out.2.2.2.2.2.1 HG.out.2.2.2.2.2.2.1 (fullN n2 tk) f1 f2 ht1 HG.out.1.2.2.2 (by have := HG.out.2.2.2.2.2.2.2; have := HG.out.2.1; unfold fullN; omega))
  obtain ⟨fl, hfl⟩ : ∃ fl, flushS S s (takeS f sq b2 tk (fullN n2 tk)) = fl := ⟨_, rfl⟩
  rw [hfl] at FL HSY
  clear hr1 ht1 f1 f2 hfl
  by_cases h0 : fl.1 = 0
  · have hap := HSY.out
    rw [if_neg (by simp [h0])] at hap
    have HAP := Lib.hid hap
    have HZ0 := Lib.hid h0
    clear hap h0
    go_upto_region 7 with (go_at_call 37; refine FL.out.mono ?_; rintro e w3 ⟨rfl, hr3, hk3⟩; rw [HZ0.out]; have HR3 := Lib.hid hr3; have HK3 := Lib.hid hk3; clear hr3 hk3)
    have BR := Lib.hid (dbarrier_any HR3.out.dv)
    have l0 := HR3.out.cells 0 _ rfl
    obtain ⟨ba, hba⟩ : ∃ ba, barrierS fl.2 = ba := ⟨_, rfl⟩
    rw [hba] at BR HAP
    go_wp2_with (go_at_call 35; refine BR.out.mono ?_; rintro e w4 ⟨rfl, hd4, hk4⟩; have HD4 := Lib.hid hd4; have HK4 := Lib.hid hk4; clear hd4 hk4)
    go_ret
    rw [HAP.out]
    exact ⟨rfl, A1, c1, HR3.out.wrote HD4.out HK4.out, (HK1.out.trans HK3.out (fun k _ hk => .inl hk)).trans HK4.out (fun k _ hk => .inl (.inl hk)), HPG.out.born⟩
  · have hap := HSY.out
    rw [if_pos h0] at hap
    have HAP2 := Lib.hid hap
    obtain ⟨er, her⟩ : ∃ er, fl.1 = er := ⟨_, rfl⟩
    rw [her] at h0 HAP2 FL
    clear hap her
    go_wp2_with (go_at_call 37; refine FL.out.mono ?_; rintro e w3 ⟨rfl, hr3, hk3⟩; have HR3 := Lib.hid hr3; have HK3 := Lib.hid hk3; clear hr3 hk3)
    go_ret
    rw [HAP2.out]
    exact ⟨rfl, A1, c1, HR3.out, HK1.out.trans HK3.out (fun k _ hk => .inl hk), HPG.out.born⟩
set_option maxHeartbeats 1000000 in
theorem gheader_any (hR : Rg w q d g r S c s h p a b cc dd f sq A n cap tk bs) : Calls Tryd.prog 18 #[.pointer (some ⟨q, 0, none⟩)] w fun e w' => e = .returned (.agg h.vals.toArray) ∧ Below w.heap.size w w' := by
  have HX := Lib.hid (hR.cells.below ((Below.refl w.heap.size w).alloc (Nat.le_refl _) (.cells #[.int .i64 0, .int .i64 0, .int .i64 0, .int .i64 0, .int .i64 0, .int .i64 0] 33)) hR.cells.lt)
  have HB := Lib.hid ((Below.refl w.heap.size w).alloc (Nat.le_refl _) (.cells #[.int .i64 0, .int .i64 0, .int .i64 0, .int .i64 0, .int .i64 0, .int .i64 0] 33))
  have HN := Lib.hid (Cells.new w 33 #[.int .i64 0, .int .i64 0, .int .i64 0, .int .i64 0, .int .i64 0, .int .i64 0])
  clear hR
  go_enter Tryd.func18, Tryd.ntmps18
  have l1 := HX.out 1 _ rfl; have l2 := HX.out 2 _ rfl; have l3 := HX.out 3 _ rfl; have l4 := HX.out 4 _ rfl; have l5 := HX.out 5 _ rfl; have l6 := HX.out 6 _ rfl
  have m0 := HN.out 0 _ rfl; have m1 := HN.out 1 _ rfl; have m2 := HN.out 2 _ rfl; have m3 := HN.out 3 _ rfl; have m4 := HN.out 4 _ rfl; have m5 := HN.out 5 _ rfl
  go_wp2
  refine bodyPost_ret (v := .agg #[.int .i64 h.v, .int .i64 h.slot, .int .i64 h.lay, .int .i64 h.seq, .int .i64 h.tail, .int .i64 h.now]) (by simp [results, Tryd.results18, go_sem, *]) rfl ?_
  exact ⟨rfl, by (repeat (first | with_reducible exact Below.refl _ _ | with_reducible refine Below.setCell ?_ (by first | (simp; done) | (simp; omega) | omega) _ | with_reducible refine Below.alloc ?_ (by first | (simp; done) | (simp; omega) | omega) _ | with_reducible refine Below.drew ?_))⟩
set_option maxHeartbeats 1000000 in
theorem groom_any (hR : Rg w q d g r S c s h p a b cc dd f sq A n cap tk bs) (ha : I64 a) (hb : I64 b) (hc : I64 cc) (hd : I64 dd) (cp : Int) (hcp : capS a b cc dd = cp) (hn : n ≤ 1000000) : Calls Tryd.prog 15 #[.pointer (some ⟨q, 0, none⟩)] w fun e w' => e = .returned (.int .i64 (cp - n)) ∧ Below w.heap.size w w' := by
  have RM := Lib.hid (room_any a b cc dd f sq tk p A n cap bs cp ha hb hc hd hcp hn w hR.pk)
  have l7 := hR.cells 7 _ rfl
  clear hR hcp hn ha hb hc hd
  go_enter Tryd.func15, Tryd.ntmps15
  go_wp2_with (go_at_call 39; refine RM.out.mono ?_; rintro e w1 ⟨rfl, hb1⟩)
  go_ret
  exact ⟨rfl, hb1⟩
set_option maxHeartbeats 1000000 in
theorem gread_any (hR : Rg w q d g r S c s h p a b cc dd f sq A n cap tk bs) (hn : n ≤ 1000000) (off m : Int) : Calls Tryd.prog 17 #[.pointer (some ⟨q, 0, none⟩), .int .i64 off, .int .i64 m] w (BytesSeg bs n off m w) := by
  have RM := Lib.hid (pbytes_any a b cc dd f sq tk p A n cap bs hn off m w hR.pk)
  have l7 := hR.cells 7 _ rfl
  clear hR hn
  go_enter Tryd.func17, Tryd.ntmps17
  go_wp2_with (go_at_call 40; refine RM.out.mono ?_; intro e w1 hseg; obtain ⟨v, rfl⟩ : ∃ v, e = .returned v := (by rcases hseg with ⟨_, h, _⟩ | ⟨_, A1, c1, h, _⟩; exact ⟨_, h⟩; exact ⟨_, h⟩); have HSEG := Lib.hid hseg; clear hseg)
  go_ret
  exact HSEG.out
end
set_option maxHeartbeats 1000000 in
theorem gappend_nil (ki ex : Int) (Ak Av : Option Addr) (nk ck nv cv : Nat) (w : World) : Calls Tryd.prog 11 #[.pointer none, .agg #[.int .i64 ki, .slice Ak nk ck, .slice Av nv cv, .int .i64 ex]] w fun e w' => e = .returned (.tuple #[.int .i64 0, .int .i64 0, .int .i64 1]) ∧ Below w.heap.size w w' := by
  go_enter Tryd.func11, Tryd.ntmps11
  go_wp2_with fail
  go_ret3
  exact ⟨rfl, (Below.refl _ _).alloc (Nat.le_refl _) _⟩
set_option maxHeartbeats 1000000 in
theorem gsync_nil (w : World) : Calls Tryd.prog 9 #[.pointer none] w fun e w' => e = .returned (.int .i64 1) ∧ w = w' := by
  go_enter Tryd.func9, Tryd.ntmps9
  go_wp2_with fail
  go_ret
  exact ⟨rfl, rfl⟩
set_option maxHeartbeats 1000000 in
theorem groom_nil (w : World) : Calls Tryd.prog 15 #[.pointer none] w fun e w' => e = .returned (.int .i64 0) ∧ w = w' := by
  go_enter Tryd.func15, Tryd.ntmps15
  go_wp2_with fail
  go_ret
  exact ⟨rfl, rfl⟩
set_option maxHeartbeats 1000000 in
theorem gread_nil (off n : Int) (w : World) : Calls Tryd.prog 17 #[.pointer none, .int .i64 off, .int .i64 n] w fun e w' => e = .returned (.slice none 0 0) ∧ w = w' := by
  go_enter Tryd.func17, Tryd.ntmps17
  go_wp2_with fail
  go_ret
  exact ⟨rfl, rfl⟩
set_option maxHeartbeats 1000000 in
theorem gheader_nil (w : World) : Calls Tryd.prog 18 #[.pointer none] w fun e w' => e = .returned (.agg #[.int .i64 0, .int .i64 0, .int .i64 0, .int .i64 0, .int .i64 0, .int .i64 0]) ∧ Below w.heap.size w w' := by
  have HB := Lib.hid ((Below.refl w.heap.size w).alloc (Nat.le_refl _) (.cells #[.int .i64 0, .int .i64 0, .int .i64 0, .int .i64 0, .int .i64 0, .int .i64 0] 33))
  have HN := Lib.hid (Cells.new w 33 #[.int .i64 0, .int .i64 0, .int .i64 0, .int .i64 0, .int .i64 0, .int .i64 0])
  go_enter Tryd.func18, Tryd.ntmps18
  have m0 := HN.out 0 _ rfl; have m1 := HN.out 1 _ rfl; have m2 := HN.out 2 _ rfl; have m3 := HN.out 3 _ rfl; have m4 := HN.out 4 _ rfl; have m5 := HN.out 5 _ rfl
  go_wp2
  refine bodyPost_ret (v := .agg #[.int .i64 0, .int .i64 0, .int .i64 0, .int .i64 0, .int .i64 0, .int .i64 0]) (by simp [results, Tryd.results18, go_sem, *]) rfl ?_
  exact ⟨rfl, by (repeat (first | with_reducible exact Below.refl _ _ | with_reducible refine Below.setCell ?_ (by first | (simp; done) | (simp; omega) | omega) _ | with_reducible refine Below.alloc ?_ (by first | (simp; done) | (simp; omega) | omega) _ | with_reducible refine Below.drew ?_))⟩
end Go.Proofs.YthgpmnblkhehkaaDoor
/- The reference's open region: Append, Sync (tools/mkrreg2.py). -/
namespace Go.Proofs.YthgpmnblkhehkaaDoor
open Go.RowKit

/-- The pieces of memory that the reference region's calls may touch, the stream's block among them. -/
def rrA (d g1 g2 g3 p : Nat) (A : Option Addr) (n cap : Nat) (k : Nat) : Prop := rrL d g1 g2 g3 p k ∨ some k = (Value.slice A n cap).ownBlock
section
variable {w w' : World} {q d g1 g2 g3 S c1 c2 c3 p sl : Nat} {s : DS} {h : Hd} {a b cc dd f sq : Int} {A : Option Addr} {n cap tk : Nat} {bs : List UInt8}
/-- What Append leaves. -/
def RrOut (w : World) (q d g1 g2 g3 S c1 c2 c3 : Nat) (h : Hd) (p : Nat) (a b cc dd : Int) (sl : Nat) (sq : Int) (A : Option Addr) (n cap : Nat) (y : RS) (w' : World) : Prop :=
  ∃ A' cap', Rr w' q d g1 g2 g3 S c1 c2 c3 y.s h p a b cc dd sl sq A' y.n cap' y.tk y.bs ∧ Keep w w' (rrA d g1 g2 g3 p A n cap) ∧ Born w (Value.slice A n cap).ownBlock (Value.slice A' y.n cap').ownBlock
theorem RrOut.refl (hR : Rr w q d g1 g2 g3 S c1 c2 c3 s h p a b cc dd sl sq A n cap tk bs) (hb : Below w.heap.size w w') : RrOut w q d g1 g2 g3 S c1 c2 c3 h p a b cc dd sl sq A n cap ⟨s, n, tk, bs⟩ w' :=
  ⟨A, cap, hR.below hb, Keep.of_below hb _, Born.refl _ _⟩

/-- Put through the region: what has come up (bb), what the temporaries hold (v). -/
structure R3r (w0 : World) (q d g1 g2 g3 S c1 c2 c3 : Nat) (s : DS) (h : Hd) (p : Nat) (a b cc dd : Int) (sl : Nat) (sq : Int) (A : Option Addr) (n cap tk : Nat) (T : (Int × Int × Int) × Nat × List UInt8) (rv : Value) (bb : Nat → Bool) (v : Nat → Value) (w : World) : Prop where
  same : bb 5 = false → w = w0.drew
  fin : bb 5 = true → v 5 = .tuple #[.int .i64 T.1.1, .int .i64 T.1.2.1, .int .i64 T.1.2.2] ∧ ∃ A' cap', Rr w q d g1 g2 g3 S c1 c2 c3 s h p a b cc dd sl sq A' T.2.1 cap' tk T.2.2 ∧ Far w0 w p (Value.slice A n cap).ownBlock ∧ Born w0 (Value.slice A n cap).ownBlock (Value.slice A' T.2.1 cap').ownBlock
  s0 : bb 0 = true → v 0 = .pointer (some ⟨q, 0, none⟩)
  s1 : bb 1 = true → v 1 = .pointer (some ⟨q, 0, none⟩)
  s2 : bb 2 = true → v 2 = .pointer (some ⟨q, 7, none⟩)
  s3 : bb 3 = true → v 3 = .pointer (some ⟨p, 0, none⟩)
  s4 : bb 4 = true → v 4 = rv
  s6 : bb 6 = true → v 6 = .tuple #[.int .i64 T.1.1, .int .i64 T.1.2.1, .int .i64 T.1.2.2]
  s7 : bb 7 = true → v 7 = .int .i64 T.1.1
  s8 : bb 8 = true → v 8 = .int .i64 T.1.2.1
  s9 : bb 9 = true → v 9 = .int .i64 T.1.2.2
  s10 : bb 10 = true → v 10 = .int .i64 T.1.1
  s11 : bb 11 = true → v 11 = .int .i64 T.1.2.1
  s12 : bb 12 = true → v 12 = .int .i64 T.1.2.2

set_option maxRecDepth 100000 in
set_option maxHeartbeats 4000000 in
theorem rgappend_any (hR : Rr w q d g1 g2 g3 S c1 c2 c3 s h p a b cc dd sl sq A n cap tk bs) (hfm : form a b cc dd = true) (hsl : (sl : Int) < dd) (hfe : 74 + (sl : Int) * cc = f) (cp : Int) (hcp : capS a b cc dd = cp) (hn : (n : Int) ≤ cp) (hcp9 : cp ≤ 1000000) (hs0 : 0 ≤ sq) (hs : sq ≤ 281474976710655) (htk : tk * 59 ≤ n) (hwr : s.wr ≤ 100000000)
    (ki ex : Int) (key val : List UInt8) (Ak Av : Option Addr) (nk ck nv cv B : Nat) (hk : Byt w B Ak nk key) (hv : Byt w B Av nv val) (hB : B ≤ w.heap.size) (hkn : nk ≤ 100000) (hvn : nv ≤ 100000) (rr : List UInt8 × Int) (hr : rencS b sq n ki ex key val = rr) :
    Calls Tryd.prog 25 #[.pointer (some ⟨q, 0, none⟩), .agg #[.int .i64 ki, .slice Ak nk ck, .slice Av nv cv, .int .i64 ex]] w fun e w' =>
      e = .returned (.tuple #[.int .i64 (appendR S f sq cp ⟨s, n, tk, bs⟩ rr).1.1, .int .i64 (appendR S f sq cp ⟨s, n, tk, bs⟩ rr).1.2.1, .int .i64 (appendR S f sq cp ⟨s, n, tk, bs⟩ rr).1.2.2]) ∧ RrOut w q d g1 g2 g3 S c1 c2 c3 h p a b cc dd sl sq A n cap (appendR S f sq cp ⟨s, n, tk, bs⟩ rr).2 w' := by
  have hlt := hR.cells.lt
  have PT : Hid (∀ wx, Below w.heap.size w wx → Calls Tryd.prog 51 #[.pointer (some ⟨p, 0, none⟩), .agg #[.int .i64 ki, .slice Ak nk ck, .slice Av nv cv, .int .i64 ex]] wx (PPut p a b cc dd (sl : Int) sq tk cp A n cap bs rr wx)) := fun wx hbx =>
    rput_any a b cc dd sl sq tk cp p A n cap bs ki ex key val Ak Av nk ck nv cv B wx (hR.pk.below hbx) hfm hcp (by omega) (hk.belowBy hbx hB) (hv.belowBy hbx hB) (Nat.le_trans hB hbx.size) hkn hvn hs0 (by omega) rr hr
  have HR := Lib.hid hR
  have HB0 : Hid (Below w.heap.size w (w.alloc (.cells #[.int .i64 ki, .slice Ak nk ck, .slice Av nv cv, .int .i64 ex] 36))) := (Below.refl _ _).alloc (Nat.le_refl _) _
  have HX0 := Lib.hid (Cells.new w 36 #[.int .i64 ki, .slice Ak nk ck, .slice Av nv cv, .int .i64 ex])
  obtain ⟨T, hT⟩ : ∃ T, putT cp n bs rr = T := ⟨_, rfl⟩
  have hTle := putT_le (cp := cp) (n := n) (bs := bs) (r := rr)
  have hTe := putT_err (cp := cp) (n := n) (bs := bs) (r := rr)
  rw [hT] at hTle hTe
  have HT := Lib.hid hT
  have HTLE := Lib.hid hTle
  have HTE := Lib.hid hTe
  have HG := Lib.hid (And.intro hfm (And.intro hn (And.intro hsl (And.intro hfe (And.intro hs0 (And.intro hs (And.intro htk hwr)))))))
  clear hR hk hv hB hcp hr hT hTle hTe hn hfm hsl hfe hs0 hs htk hwr hkn hvn
  go_enter Tryd.func25, Tryd.ntmps25
  go_upto_region 1 with fail
  go_cut [7, 8, 9] (fun x y z wx => x = .int .i64 T.1.1 ∧ y = .int .i64 T.1.2.1 ∧ z = .int .i64 T.1.2.2 ∧ ∃ A' cap', Rr wx q d g1 g2 g3 S c1 c2 c3 s h p a b cc dd sl sq A' T.2.1 cap' tk T.2.2 ∧ Keep w wx (rrA d g1 g2 g3 p A n cap) ∧ Born w (Value.slice A n cap).ownBlock (Value.slice A' T.2.1 cap').ownBlock)
  case first =>
    refine wp_region_inv (F := ?F) (R3r (w.alloc (.cells #[.int .i64 ki, .slice Ak nk ck, .slice Av nv cv, .int .i64 ex] 36)) q d g1 g2 g3 S c1 c2 c3 s h p a b cc dd sl sq A n cap tk T (.agg #[.int .i64 ki, .slice Ak nk ck, .slice Av nv cv, .int .i64 ex])) id ?hF (by kernel_rfl) (by kernel_rfl) ?ha ?h0 ?hs ?hfin
    case hF =>
      intro v
      simp only [putsAll, Act.put, List.setIfInBounds_toArray, List.set_cons_zero, List.set_cons_succ]
      rfl
    case ha =>
      simp only [putsAll, Act.put, List.setIfInBounds_toArray, List.set_cons_zero, List.set_cons_succ]
      rfl
    case h0 =>
      exact { same := fun _ => rfl, fin := nofun, s0 := nofun, s1 := nofun, s2 := nofun, s3 := nofun, s4 := nofun, s6 := nofun, s7 := nofun, s8 := nofun, s9 := nofun, s10 := nofun, s11 := nofun, s12 := nofun }
    case hs =>
      refine ⟨?_, ?_, ?_, ?_, ?_, ?_, ?_, ?_, ?_, ?_, ?_, ?_, ?_, trivial⟩
      · intro b9 v w9 hR hc hb hp K hK
        (try simp [Region.binds] at hp)
        have hlast : b9 5 = false := hc.neg (by kernel_rfl) hb
        clear hc
        have hw9 := hR.same hlast
        subst hw9
        go_simp
        exact hK (upd v 0 _) _ { hR with s0 := fun _ => rfl }
      · intro b9 v w9 hR hc hb hp K hK
        (try simp [Region.binds] at hp)
        have hlast : b9 5 = false := hc.neg (by kernel_rfl) hb
        clear hc
        have e0 := hR.s0 (by simp [hp])
        have hw9 := hR.same hlast
        subst hw9
        go_simp
        exact hK (upd (upd v 1 _) 0 _) _ { hR with s1 := fun _ => rfl, s0 := fun _ => rfl }
      · intro b9 v w9 hR hc hb hp K hK
        (try simp [Region.binds] at hp)
        have hlast : b9 5 = false := hc.neg (by kernel_rfl) hb
        clear hc
        have e1 := hR.s1 (by simp [hp])
        have hw9 := hR.same hlast
        subst hw9
        go_simp
        exact hK (upd (upd v 2 _) 1 _) _ { hR with s2 := fun _ => rfl, s1 := fun _ => rfl }
      · intro b9 v w9 hR hc hb hp K hK
        (try simp [Region.binds] at hp)
        have hlast : b9 5 = false := hc.neg (by kernel_rfl) hb
        clear hc
        have e2 := hR.s2 (by simp [hp])
        have hw9 := hR.same hlast
        subst hw9
        have y := (HR.out.below HB0.out).cells 7 _ rfl
        go_simp
        exact hK (upd (upd v 3 _) 2 _) _ { hR with s3 := fun _ => rfl, s2 := fun _ => rfl }
      · intro b9 v w9 hR hc hb hp K hK
        (try simp [Region.binds] at hp)
        have hlast : b9 5 = false := hc.neg (by kernel_rfl) hb
        clear hc
        have hw9 := hR.same hlast
        subst hw9
        have y0 := HX0.out 0 _ rfl; have y1 := HX0.out 1 _ rfl; have y2 := HX0.out 2 _ rfl; have y3 := HX0.out 3 _ rfl
        go_simp
        exact hK (upd v 4 _) _ { hR with s4 := fun _ => rfl }
      · intro b9 v w9 hR hc hb hp K hK
        (try simp [Region.binds] at hp)
        have h6 : b9 6 = false := hc.neg (by kernel_rfl) hb
        clear hc
        have e3 := hR.s3 (by simp [hp])
        have e4 := hR.s4 (by simp [hp])
        have hw9 := hR.same hb
        subst hw9
        go_simp
        go_wp2_with (go_at_call 51; refine (PT.out _ (Below.drew HB0.out)).mono ?_; intro e w6 hput; obtain ⟨he, A6, c6, hpk6, hf6, hb6⟩ := pput_t (HR.out.pk.below (Below.drew HB0.out)) hput; rw [HT.out] at he hpk6 hb6; subst he)
        exact hK (upd (upd (upd v 5 _) 3 _) 4 _) _ { hR with same := fun h => Bool.noConfusion (show true = false from h), fin := fun _ => ⟨rfl, A6, c6, (HR.out.below (Below.drew HB0.out)).packed hpk6 hf6 (.inl rfl) hb6, ⟨hf6.os, hf6.tape, hf6.output, hf6.size, hf6.block⟩, hb6⟩, s3 := fun _ => rfl, s4 := fun _ => rfl, s6 := fun h => Bool.noConfusion (h6.symm.trans h) }
      · intro b9 v w9 hR hc hb hp K hK
        (try simp [Region.binds] at hp)
        have e5 := (hR.fin (by simp [hp])).1
        clear hc
        go_simp
        exact hK (upd (upd v 6 _) 5 _) _ { hR with s6 := fun _ => rfl, fin := fun _ => ⟨rfl, (hR.fin (by simp [hp])).2⟩ }
      · intro b9 v w9 hR hc hb hp K hK
        (try simp [Region.binds] at hp)
        clear hc
        have e6 := hR.s6 (by simp [hp])
        go_simp
        exact hK (upd (upd v 7 _) 6 _) _ { hR with s7 := fun _ => rfl, s6 := fun _ => rfl }
      · intro b9 v w9 hR hc hb hp K hK
        (try simp [Region.binds] at hp)
        clear hc
        have e6 := hR.s6 (by simp [hp])
        go_simp
        exact hK (upd (upd v 8 _) 6 _) _ { hR with s8 := fun _ => rfl, s6 := fun _ => rfl }
      · intro b9 v w9 hR hc hb hp K hK
        (try simp [Region.binds] at hp)
        clear hc
        have e6 := hR.s6 (by simp [hp])
        go_simp
        exact hK (upd (upd v 9 _) 6 _) _ { hR with s9 := fun _ => rfl, s6 := fun _ => rfl }
      · intro b9 v w9 hR hc hb hp K hK
        (try simp [Region.binds] at hp)
        clear hc
        have e7 := hR.s7 (by simp [hp])
        go_simp
        exact hK (upd (upd v 10 _) 7 _) _ { hR with s10 := fun _ => rfl, s7 := fun _ => rfl }
      · intro b9 v w9 hR hc hb hp K hK
        (try simp [Region.binds] at hp)
        clear hc
        have e8 := hR.s8 (by simp [hp])
        go_simp
        exact hK (upd (upd v 11 _) 8 _) _ { hR with s11 := fun _ => rfl, s8 := fun _ => rfl }
      · intro b9 v w9 hR hc hb hp K hK
        (try simp [Region.binds] at hp)
        clear hc
        have e9 := hR.s9 (by simp [hp])
        go_simp
        exact hK (upd (upd v 12 _) 9 _) _ { hR with s12 := fun _ => rfl, s9 := fun _ => rfl }
    case hfin =>
      intro b9 v w9 hall hR
      obtain ⟨_, A6, c6, hr6, hf6, hb6⟩ := hR.fin (hall 5 (by decide))
      have e10 := hR.s10 (hall 10 (by decide))
      have e11 := hR.s11 (hall 11 (by decide))
      have e12 := hR.s12 (hall 12 (by decide))
      have HX6 := Lib.hid (And.intro hr6 (And.intro hf6 hb6))
      clear hR hall hr6 hf6 hb6
      go_wp2_with fail
      (try go_simp)
      go_meet
      obtain ⟨k1, k2, k3⟩ := HX6.out
      refine ⟨rfl, rfl, rfl, A6, c6, k1, ?_, ?_⟩
      · exact ⟨k2.os.trans HB0.out.os, k2.tape.trans HB0.out.tape, k2.output.trans HB0.out.output, Nat.le_trans HB0.out.size k2.size, fun k hk hn => (k2.block k (Nat.lt_of_lt_of_le hk HB0.out.size) (fun e => hn (.inl (.inr e))) (fun e => hn (.inr e))).trans (HB0.out.block k hk)⟩
      · rcases k3 with k3 | k3
        · exact .inl k3
        · exact .inr fun g hg => Nat.le_trans HB0.out.size (k3 g hg)
  case rest =>
    obtain ⟨rfl, rfl, rfl, A', cap', hrg, hkp, hbo⟩ := hcut
    obtain ⟨w2, hw2⟩ : ∃ x, x = wc := ⟨_, rfl⟩
    subst hw2
    have HR2 := Lib.hid hrg
    have HK2 := Lib.hid hkp
    have HBO := Lib.hid hbo
    clear hrg hkp hbo
    by_cases hz : T.1.2.2 = 0
    rotate_left
    · have HAP : Hid (appendR S f sq cp ⟨s, n, tk, bs⟩ rr = ((0, 0, T.1.2.2), ⟨s, n, tk, bs⟩)) := by
        show _ = _
        unfold appendR
        rw [HT.out, if_pos hz]
      have hTT := HTE.out hz
      obtain ⟨er, her⟩ : ∃ er, T.1.2.2 = er := ⟨_, rfl⟩
      have hr2 := HR2.out
      have hb2 := HBO.out
      rw [hTT] at hr2 hb2
      have HR3 := Lib.hid hr2
      have HB3 := Lib.hid hb2
      rw [her] at hz HAP ⊢
      clear her hTT hr2 hb2
      go_wp2
      go_ret3
      rw [HAP.out]
      exact ⟨rfl, A', cap', HR3.out, HK2.out, HB3.out⟩
    · have hTn : T.2.1 ≤ 1000000 := by have := HTLE.out.2 HG.out.2.1; omega
      have htk2 : tk * 59 ≤ T.2.1 := Nat.le_trans HG.out.2.2.2.2.2.2.1 HTLE.out.1
      obtain ⟨f1, f2⟩ := full_ok htk2
      have FL := Lib.hid (rflush_any HR2.out hTn HG.out.1 HG.out.2.2.1 HG.out.2.2.2.1 HG.out.2.2.2.2.1 HG.out.2.2.2.2.2.1 htk2 (fullN T.2.1 tk) f1 f2 (by have := HG.out.2.2.2.2.2.2.2; unfold fullN; omega))
      obtain ⟨fl, hfl⟩ : ∃ fl, flushS S s (takeS f sq T.2.2 tk (fullN T.2.1 tk)) = fl := ⟨_, rfl⟩
      rw [hfl] at FL
      have HAP : Hid (appendR S f sq cp ⟨s, n, tk, bs⟩ rr = if fl.1 ≠ 0 then ((0, 0, fl.1), ⟨fl.2, T.2.1, tk + fullN T.2.1 tk, T.2.2⟩) else ((T.1.1, T.1.2.1, 0), ⟨fl.2, T.2.1, tk + fullN T.2.1 tk, T.2.2⟩)) := by
        show _ = _
        unfold appendR flushR
        simp only [HT.out, hfl]
        rw [if_neg (by simp [hz])]
      rw [hz]
      clear hz hTn htk2 f1 f2 hfl
      by_cases h0 : fl.1 = 0
      · have hap := HAP.out
        rw [if_neg (by simp [h0])] at hap
        have HAP2 := Lib.hid hap
        have HZ0 := Lib.hid h0
        clear hap h0
        go_wp2_with (go_at_call 52; refine FL.out.mono ?_; rintro e w3 ⟨rfl, hr3, hk3⟩; rw [HZ0.out]; have HR3 := Lib.hid hr3; have HK3 := Lib.hid hk3; clear hr3 hk3)
        go_ret3
        rw [HAP2.out]
        exact ⟨rfl, A', cap', HR3.out, HK2.out.trans HK3.out (fun k _ hk => .inl hk), HBO.out⟩
      · have hap := HAP.out
        rw [if_pos h0] at hap
        have HAP2 := Lib.hid hap
        obtain ⟨er, her⟩ : ∃ er, fl.1 = er := ⟨_, rfl⟩
        rw [her] at h0 HAP2 FL
        clear hap her
        go_wp2_with (go_at_call 52; refine FL.out.mono ?_; rintro e w3 ⟨rfl, hr3, hk3⟩; have HR3 := Lib.hid hr3; have HK3 := Lib.hid hk3; clear hr3 hk3)
        go_ret3
        rw [HAP2.out]
        exact ⟨rfl, A', cap', HR3.out, HK2.out.trans HK3.out (fun k _ hk => .inl hk), HBO.out⟩
set_option maxRecDepth 100000 in
set_option maxHeartbeats 4000000 in
theorem rgsync_any (hR : Rr w q d g1 g2 g3 S c1 c2 c3 s h p a b cc dd sl sq A n cap tk bs) (hfm : form a b cc dd = true) (hsl : (sl : Int) < dd) (hfe : 74 + (sl : Int) * cc = f) (hn : n ≤ 900000) (hs0 : 0 ≤ sq) (hs : sq ≤ 281474976710655) (htk : tk * 59 ≤ n) (hwr : s.wr ≤ 100000000) :
    Calls Tryd.prog 26 #[.pointer (some ⟨q, 0, none⟩)] w fun e w' =>
      e = .returned (.int .i64 (syncR S f sq ⟨s, n, tk, bs⟩).1) ∧ RrOut w q d g1 g2 g3 S c1 c2 c3 h p a b cc dd sl sq A n cap (syncR S f sq ⟨s, n, tk, bs⟩).2 w' := by
  have l7 := hR.cells 7 _ rfl
  have PD := Lib.hid (rpad_any a b cc dd sl sq tk p A n cap bs (by omega) w hR.pk)
  have hpk := padK_lt n
  obtain ⟨n2, hn2⟩ : ∃ n2, n + padK n = n2 := ⟨_, rfl⟩
  obtain ⟨b2, hb2⟩ : ∃ b2, bs ++ List.replicate (padK n) 0 = b2 := ⟨_, rfl⟩
  rw [hn2, hb2] at PD
  have HSY : Hid (syncR S f sq ⟨s, n, tk, bs⟩ = if (flushS S s (takeS f sq b2 tk (fullN n2 tk))).1 ≠ 0 then ((flushS S s (takeS f sq b2 tk (fullN n2 tk))).1, ⟨(flushS S s (takeS f sq b2 tk (fullN n2 tk))).2, n2, tk + fullN n2 tk, b2⟩) else ((barrierS (flushS S s (takeS f sq b2 tk (fullN n2 tk))).2).1, ⟨(barrierS (flushS S s (takeS f sq b2 tk (fullN n2 tk))).2).2, n2, tk + fullN n2 tk, b2⟩)) := by
    show _ = _
    unfold syncR flushR padR
    simp only [hn2, hb2]
  have hn3 : n2 ≤ 1000000 := by omega
  have htk2 : tk * 59 ≤ n2 := by omega
  have HG := Lib.hid (And.intro hfm (And.intro hn3 (And.intro hsl (And.intro hfe (And.intro hs0 (And.intro hs (And.intro htk2 hwr)))))))
  have HR := Lib.hid hR
  clear hR hfm hn hsl hfe hs0 hs htk hwr hpk hn2 hb2 hn3 htk2
  go_enter Tryd.func26, Tryd.ntmps26
  go_upto_region 2 with (go_at_call 53; refine PD.out.mono ?_; rintro e w1 ⟨rfl, A1, c1, hpg⟩; have HPG := Lib.hid hpg; clear hpg)
  have hr1 := HR.out.packed HPG.out.pk HPG.out.far (.inl rfl) HPG.out.born
  have HR1 := Lib.hid hr1
  have HK1 : Hid (Keep w w1 (rrA d g1 g2 g3 p A n cap)) := (Keep.of_far HPG.out.far).mono (fun k e => by rcases e with e | e; exact .inl (.inr e); exact .inr e)
  obtain ⟨f1, f2⟩ := full_ok HG.out.2.2.2.2.2.2.1
  have FL := Lib.hid (rflush_any hr1 HG.out.2.1 HG.out.1 HG.out.2.2.1 HG.out.2.2.2.1 HG.out.2.2.2.2.1 HG.out.2.2.2.2.2.1 HG.out.2.2.2.2.2.2.1 (fullN n2 tk) f1 f2 (by have := HG.out.2.2.2.2.2.2.2; have := HG.out.2.1; unfold fullN; omega))
  obtain ⟨fl, hfl⟩ : ∃ fl, flushS S s (takeS f sq b2 tk (fullN n2 tk)) = fl := ⟨_, rfl⟩
  rw [hfl] at FL HSY
  clear hr1 f1 f2 hfl
  by_cases h0 : fl.1 = 0
  · have hap := HSY.out
    rw [if_neg (by simp [h0])] at hap
    have HAP := Lib.hid hap
    have HZ0 := Lib.hid h0
    clear hap h0
    go_upto_region 5 with (go_at_call 52; refine FL.out.mono ?_; rintro e w3 ⟨rfl, hr3, hk3⟩; rw [HZ0.out]; have HR3 := Lib.hid hr3; have HK3 := Lib.hid hk3; clear hr3 hk3)
    obtain ⟨lf3, hd3⟩ := HR3.out.dv
    have BR := Lib.hid (rbarrier_any hd3)
    have l0 := HR3.out.cells 0 _ rfl
    obtain ⟨ba, hba⟩ : ∃ ba, barrierS fl.2 = ba := ⟨_, rfl⟩
    rw [hba] at BR HAP
    go_wp2_with (go_at_call 46; refine BR.out.mono ?_; rintro e w4 ⟨rfl, hd4, hk4⟩; have HD4 := Lib.hid hd4; have HK4 := Lib.hid hk4; clear hd4 hk4)
    go_ret
    rw [HAP.out]
    exact ⟨rfl, A1, c1, HR3.out.wrote HD4.out HK4.out, (HK1.out.trans HK3.out (fun k _ hk => .inl hk)).trans HK4.out (fun k _ hk => .inl (.inl hk)), HPG.out.born⟩
  · have hap := HSY.out
    rw [if_pos h0] at hap
    have HAP2 := Lib.hid hap
    obtain ⟨er, her⟩ : ∃ er, fl.1 = er := ⟨_, rfl⟩
    rw [her] at h0 HAP2 FL
    clear hap her
    go_wp2_with (go_at_call 52; refine FL.out.mono ?_; rintro e w3 ⟨rfl, hr3, hk3⟩; have HR3 := Lib.hid hr3; have HK3 := Lib.hid hk3; clear hr3 hk3)
    go_ret
    rw [HAP2.out]
    exact ⟨rfl, A1, c1, HR3.out, HK1.out.trans HK3.out (fun k _ hk => .inl hk), HPG.out.born⟩
end
end Go.Proofs.YthgpmnblkhehkaaDoor
/- The walk of header.Encode. -/
namespace Go.Proofs.YthgpmnblkhehkaaDoor
open Go.RowKit

/-- A block of six ints. -/
def Box6 (w : World) (g : Nat) (a b c d e f : Int) : Prop := w.cell? ⟨g, 0, none⟩ = some (.int .i64 a) ∧ w.cell? ⟨g, 1, none⟩ = some (.int .i64 b) ∧ w.cell? ⟨g, 2, none⟩ = some (.int .i64 c) ∧ w.cell? ⟨g, 3, none⟩ = some (.int .i64 d) ∧ w.cell? ⟨g, 4, none⟩ = some (.int .i64 e) ∧ w.cell? ⟨g, 5, none⟩ = some (.int .i64 f)
theorem Box6.below {w w' : World} {g B : Nat} {a b c d e f : Int} (h : Box6 w g a b c d e f) (hb : Below B w w') (hg : g < B) : Box6 w' g a b c d e f :=
  ⟨(hb.cell (by exact hg)).trans h.1, (hb.cell (by exact hg)).trans h.2.1, (hb.cell (by exact hg)).trans h.2.2.1, (hb.cell (by exact hg)).trans h.2.2.2.1, (hb.cell (by exact hg)).trans h.2.2.2.2.1, (hb.cell (by exact hg)).trans h.2.2.2.2.2⟩
theorem Box6.new (w : World) (ty : TypeId) (a b c d e f : Int) : Box6 (w.alloc (.cells #[.int .i64 a, .int .i64 b, .int .i64 c, .int .i64 d, .int .i64 e, .int .i64 f] ty)) w.heap.size a b c d e f :=
  ⟨cell_of_row _ _ _ _ _ _ (heap_alloc_new w _), cell_of_row _ _ _ _ _ _ (heap_alloc_new w _), cell_of_row _ _ _ _ _ _ (heap_alloc_new w _), cell_of_row _ _ _ _ _ _ (heap_alloc_new w _), cell_of_row _ _ _ _ _ _ (heap_alloc_new w _), cell_of_row _ _ _ _ _ _ (heap_alloc_new w _)⟩

/-- What header.Encode returns. -/
def hencS (h : Hdr) (t : Int) : List UInt8 × Int := if hvalid h = true then encS 1 0 t (hbytes h) else ([], 4)
theorem hencS_bad {h : Hdr} {t : Int} (hv : hvalid h = false) : hencS h t = ([], 4) := by unfold hencS; rw [hv]; rfl
theorem hencS_range {h : Hdr} {t : Int} (hv : hvalid h = true) (hm : may 1 0 t = false) : hencS h t = ([], 2) := by unfold hencS encS; rw [if_pos hv, hm]; rfl
theorem hencS_ok {h : Hdr} {t : Int} (hv : hvalid h = true) (hm : may 1 0 t = true) : hencS h t = (hencF h t, 0) := by unfold hencS encS; rw [if_pos hv, if_pos hm, if_pos (by rw [hbytes_len]; decide)]; rfl
theorem hnats {a b c d e f : Int} (h : hvalid (a, b, c, d, e, f) = true) : ∃ (x y : UInt8) (la sq ta no : Nat), a = (x.toNat : Int) ∧ b = (y.toNat : Int) ∧ c = (la : Int) ∧ d = (sq : Int) ∧ e = (ta : Int) ∧ f = (no : Int) ∧ la ≤ 4294967295 ∧ sq ≤ 281474976710655 ∧ ta ≤ 281474976710655 ∧ no ≤ 549755813888 ∧ hbytes (a, b, c, d, e, f) = hbody x y la sq ta no := by
  rw [hvalid_iff] at h
  refine ⟨UInt8.ofNat a.toNat, UInt8.ofNat b.toNat, c.toNat, d.toNat, e.toNat, f.toNat, ?_, ?_, ?_, ?_, ?_, ?_, ?_, ?_, ?_, ?_, rfl⟩ <;> (try simp only [UInt8.toNat_ofNat']) <;> omega

set_option maxHeartbeats 600000 in
theorem hencode_any (a b c d e f t : Int) (w : World) (ht : TabAt w) (h0 : 0 < w.heap.size) (r : List UInt8 × Int) (hr : hencS (a, b, c, d, e, f) t = r) :
    Calls Tryd.prog 33 #[.agg #[.int .i64 a, .int .i64 b, .int .i64 c, .int .i64 d, .int .i64 e, .int .i64 f], .int .i64 t] w (EncRes r w) := by
  have HT := Lib.hid ht
  have H0 := Lib.hid h0
  clear ht h0
  cases hv : hvalid (a, b, c, d, e, f)
  · have HV := Lib.hid (hvalid_any a b c d e f false hv)
    obtain rfl : r = ([], 4) := by rw [← hr, hencS_bad hv]
    clear hv hr
    go_enter Tryd.func33, Tryd.ntmps33
    go_wp2_with (go_at_call 30; refine (HV.out _).mono ?_; rintro e' w1 ⟨rfl, hbel⟩; have HB1 : Hid (Below w.heap.size w w1) := ((Below.refl _ _).alloc (Nat.le_refl _) _).trans (hbel.mono (by simp)); clear hbel)
    go_ret2
    exact ⟨none, 0, rfl, Own.nil _ _ _, HB1.out⟩
  · have HV := Lib.hid (hvalid_any a b c d e f true hv)
    obtain ⟨x, y, la, sq, ta, no, rfl, rfl, rfl, rfl, rfl, rfl, hla, hsq, hta, hno, hby⟩ := hnats hv
    have HE : Hid (encS 1 0 t (hbody x y la sq ta no) = r) := by show _ = _; rw [← hr, hencS, if_pos hv, hby]
    clear hv hr hby
    have hx := x.toNat_lt
    have hy := y.toNat_lt
    go_enter Tryd.func33, Tryd.ntmps33
    go_wp2_with (go_at_call 30; refine (HV.out _).mono ?_; rintro e' w1 ⟨rfl, hbel⟩; have HB1 : Hid (Below w.heap.size w w1) := ((Below.refl _ _).alloc (Nat.le_refl _) _).trans (hbel.mono (by simp)); obtain ⟨l0, l1, l2, l3, l4, l5⟩ := ((Box6.new w 33 (x.toNat : Int) (y.toNat : Int) (la : Int) (sq : Int) (ta : Int) (no : Int)).below hbel (by simp)); have HX1 : Hid (Box6 w1 w.heap.size (x.toNat : Int) (y.toNat : Int) (la : Int) (sq : Int) (ta : Int) (no : Int)) := ⟨l0, l1, l2, l3, l4, l5⟩; have hw1 : w.heap.size < w1.heap.size := (by have := hbel.size; simp at this; omega); clear hbel)
    have HL1 := Lib.hid (HX1.out.below ((Below.refl w1.heap.size w1).alloc (Nat.le_refl _) (.cells #[.int .u8 (x.toNat : Int), .int .u8 (y.toNat : Int)] 5)) hw1)
    have HBL := Lib.hid (HB1.out.alloc HB1.out.size (.cells #[.int .u8 (x.toNat : Int), .int .u8 (y.toNat : Int)] 5))
    refine (put_any [x, y] _ 2 _ (w1.heap.size + 1) la 4 (w1.alloc (.cells #[.int .u8 (x.toNat : Int), .int .u8 (y.toNat : Int)] 5)) (Byt.new w1 _ _ _ [x, y] rfl) (by decide) (by simp) (by decide) (by decide)).mono ?_
    rw [show putB ([x, y]) la 4 = [x, y] ++ be 4 la from rfl]
    have hpl2 : ([x, y] ++ be 4 la).length = 6 := by simp [be_len]
    rintro e' w2 ⟨A2, c2, rfl, hown, hbel⟩
    rw [hpl2] at hown ⊢
    have HO2 := Lib.hid hown
    have HB2 := Lib.hid (HBL.out.trans (hbel.mono (HBL.out.size)))
    have HX2 := Lib.hid (HL1.out.below hbel (by simp; omega))
    have hw2 : w.heap.size < w2.heap.size := Nat.lt_of_lt_of_le (by simp; omega) hbel.size
    obtain ⟨-, -, -, m3, m4, m5⟩ := HX2.out
    clear hown hbel hpl2
    go_wp2_with fail
    clear m3 m4 m5
    refine (put_any ([x, y] ++ be 4 la) _ 6 c2 _ sq 6 w2 HO2.out.byt (by decide) (Nat.le_refl _) (by decide) (by decide)).mono ?_
    rw [show putB ([x, y] ++ be 4 la) sq 6 = ([x, y] ++ be 4 la) ++ be 6 sq from rfl]
    have hpl3 : (([x, y] ++ be 4 la) ++ be 6 sq).length = 12 := by simp [be_len]
    rintro e' w3 ⟨A3, c3, rfl, hown, hbel⟩
    rw [hpl3] at hown ⊢
    have HO3 := Lib.hid hown
    have HB3 := Lib.hid (HB2.out.trans (hbel.mono (HB2.out.size)))
    have HX3 := Lib.hid (HX2.out.below hbel hw2)
    have hw3 : w.heap.size < w3.heap.size := Nat.lt_of_lt_of_le hw2 hbel.size
    obtain ⟨-, -, -, m3, m4, m5⟩ := HX3.out
    clear hown hbel hpl3
    go_wp2_with fail
    clear m3 m4 m5
    refine (put_any (([x, y] ++ be 4 la) ++ be 6 sq) _ 12 c3 _ ta 6 w3 HO3.out.byt (by decide) (Nat.le_refl _) (by decide) (by decide)).mono ?_
    rw [show putB (([x, y] ++ be 4 la) ++ be 6 sq) ta 6 = (([x, y] ++ be 4 la) ++ be 6 sq) ++ be 6 ta from rfl]
    have hpl4 : ((([x, y] ++ be 4 la) ++ be 6 sq) ++ be 6 ta).length = 18 := by simp [be_len]
    rintro e' w4 ⟨A4, c4, rfl, hown, hbel⟩
    rw [hpl4] at hown ⊢
    have HO4 := Lib.hid hown
    have HB4 := Lib.hid (HB3.out.trans (hbel.mono (HB3.out.size)))
    have HX4 := Lib.hid (HX3.out.below hbel hw3)
    have hw4 : w.heap.size < w4.heap.size := Nat.lt_of_lt_of_le hw3 hbel.size
    obtain ⟨-, -, -, m3, m4, m5⟩ := HX4.out
    clear hown hbel hpl4
    go_wp2_with fail
    clear m3 m4 m5
    refine (put_any ((([x, y] ++ be 4 la) ++ be 6 sq) ++ be 6 ta) _ 18 c4 _ no 5 w4 HO4.out.byt (by decide) (Nat.le_refl _) (by decide) (by decide)).mono ?_
    rw [show putB ((([x, y] ++ be 4 la) ++ be 6 sq) ++ be 6 ta) no 5 = ((([x, y] ++ be 4 la) ++ be 6 sq) ++ be 6 ta) ++ be 5 no from rfl]
    have hpl5 : (((([x, y] ++ be 4 la) ++ be 6 sq) ++ be 6 ta) ++ be 5 no).length = 23 := by simp [be_len]
    rintro e' w5 ⟨A5, c5, rfl, hown, hbel⟩
    rw [hpl5] at hown ⊢
    have HO5 := Lib.hid hown
    have HB5 := Lib.hid (HB4.out.trans (hbel.mono (HB4.out.size)))
    have HX5 := Lib.hid (HX4.out.below hbel hw4)
    have hw5 : w.heap.size < w5.heap.size := Nat.lt_of_lt_of_le hw4 hbel.size
    clear hown hbel hpl5
    go_wp2_with fail
    rw [show ((([x, y] ++ be 4 la) ++ be 6 sq) ++ be 6 ta) ++ be 5 no = hbody x y la sq ta no from rfl] at HO5
    refine (encode_any 1 0 t (hbody x y la sq ta no) _ 23 c5 w5.heap.size w5 (HT.out.below HB5.out H0.out) (Nat.lt_of_lt_of_le H0.out HB5.out.size) HO5.out.byt (by decide) (Nat.le_refl _) (by decide) r HE.out).mono ?_
    rintro e' w6 ⟨A6, c6, rfl, hown, hbel⟩
    have HO6 := Lib.hid hown
    have HB6 := Lib.hid (HB5.out.trans (hbel.mono HB5.out.size))
    clear hown hbel
    go_wp2_with fail
    go_ret2
    exact ⟨A6, c6, rfl, HO6.out.mono HB5.out.size, HB6.out⟩

end Go.Proofs.YthgpmnblkhehkaaDoor
/- An open region: Open. -/
namespace Go.Proofs.YthgpmnblkhehkaaDoor
open Go.RowKit Go.Sort

def Hd.tup (h : Hd) : Hdr := (h.v, h.slot, h.lay, h.seq, h.tail, h.now)
/-- May a region with this header be opened in this layout: 4, 2 or 0. -/
def omay (a b c d : Int) (h : Hd) : Int := if form a b c d = true ∧ hvalid h.tup = true ∧ h.v = b ∧ h.lay = a then (if d ≤ h.slot then 2 else 0) else 4
/-- Open: the error and the device behind it. -/
def openS (S : Nat) (a b c d : Int) (h : Hd) (s : DS) : Int × DS :=
  if omay a b c d h ≠ 0 then (omay a b c d h, s)
  else if (writeS S s (74 + h.slot * c) (hencF h.tup (74 + h.slot * c))).1 ≠ 0 then writeS S s (74 + h.slot * c) (hencF h.tup (74 + h.slot * c))
  else barrierS (writeS S s (74 + h.slot * c) (hencF h.tup (74 + h.slot * c))).2
theorem cells2 (w : World) (ty ty2 : TypeId) (x y : Array Value) : Cells ((w.alloc (.cells x ty)).alloc (.cells y ty2)) w.heap.size x.toList ∧ Cells ((w.alloc (.cells x ty)).alloc (.cells y ty2)) (w.heap.size + 1) y.toList ∧ Below w.heap.size w ((w.alloc (.cells x ty)).alloc (.cells y ty2)) := by
  have b1 : Below (w.alloc (.cells x ty)).heap.size (w.alloc (.cells x ty)) ((w.alloc (.cells x ty)).alloc (.cells y ty2)) := (Below.refl _ _).alloc (Nat.le_refl _) _
  have s1 : (w.alloc (.cells x ty)).heap.size = w.heap.size + 1 := by simp
  have c1 := Cells.new w ty x
  have c2 := Cells.new (w.alloc (.cells x ty)) ty2 y
  rw [s1] at c2
  refine ⟨c1.below b1 (by rw [s1]; omega), c2, ?_⟩
  exact ((Below.refl _ _).alloc (Nat.le_refl _) _).alloc (by rw [s1]; omega) _
section
variable {w : World} {d g r S c : Nat} {s : DS}
/-- What Open leaves. -/
def OpenR (w : World) (d g r S c : Nat) (a b cc dd : Int) (h : Hd) (res : Int × DS) (e : Ending) (w' : World) : Prop :=
  (¬ res.1 = 0 ∧ e = .returned (.tuple #[.pointer none, .int .i64 res.1]) ∧ Dv w' d g r S c res.2 ∧ Keep w w' (dvL d g r)) ∨
  (res.1 = 0 ∧ ∃ q p, e = .returned (.tuple #[.pointer (some ⟨q, 0, none⟩), .int .i64 0]) ∧ Rg w' q d g r S c res.2 h p a b cc dd (74 + h.slot * cc) h.seq none 0 0 0 [] ∧ Keep w w' (dvL d g r) ∧ w.heap.size ≤ p)
theorem omay_cases (a b c d v sl la sq ta no : Int) : (form a b c d = false ∧ omay a b c d ⟨v, sl, la, sq, ta, no⟩ = 4) ∨ (form a b c d = true ∧ hvalid (v, sl, la, sq, ta, no) = false ∧ omay a b c d ⟨v, sl, la, sq, ta, no⟩ = 4) ∨ (form a b c d = true ∧ hvalid (v, sl, la, sq, ta, no) = true ∧ ¬ v = b ∧ omay a b c d ⟨v, sl, la, sq, ta, no⟩ = 4) ∨
    (form a b c d = true ∧ hvalid (v, sl, la, sq, ta, no) = true ∧ v = b ∧ ¬ la = a ∧ omay a b c d ⟨v, sl, la, sq, ta, no⟩ = 4) ∨ (form a b c d = true ∧ hvalid (v, sl, la, sq, ta, no) = true ∧ v = b ∧ la = a ∧ d ≤ sl ∧ omay a b c d ⟨v, sl, la, sq, ta, no⟩ = 2) ∨ (form a b c d = true ∧ hvalid (v, sl, la, sq, ta, no) = true ∧ v = b ∧ la = a ∧ sl < d ∧ omay a b c d ⟨v, sl, la, sq, ta, no⟩ = 0) := by
  have e : omay a b c d ⟨v, sl, la, sq, ta, no⟩ = if form a b c d = true ∧ hvalid (v, sl, la, sq, ta, no) = true ∧ v = b ∧ la = a then (if d ≤ sl then 2 else 0) else 4 := rfl
  rw [e]
  cases hf : form a b c d
  · exact .inl ⟨rfl, by simp⟩
  · right
    cases hv : hvalid (v, sl, la, sq, ta, no)
    · exact .inl ⟨rfl, rfl, by simp⟩
    · right
      by_cases h1 : v = b
      · right
        by_cases h2 : la = a
        · right
          rw [if_pos ⟨rfl, rfl, h1, h2⟩]
          by_cases h3 : d ≤ sl
          · exact .inl ⟨rfl, rfl, h1, h2, h3, if_pos h3⟩
          · exact .inr ⟨rfl, rfl, h1, h2, by omega, if_neg h3⟩
        · exact .inl ⟨rfl, rfl, h1, h2, if_neg (fun h => h2 h.2.2.2)⟩
      · exact .inl ⟨rfl, rfl, h1, if_neg (fun h => h1 h.2.2.1)⟩
set_option maxRecDepth 100000 in
set_option maxHeartbeats 8000000 in
theorem gopen_any (a b cc dd v sl la sq ta no : Int) (hD : Dv w d g r S c s) (ht : TabAt w) (h1 : 0 < d ∧ 0 < g ∧ 0 < r) (ha : I64 a) (hb : I64 b) (hc : I64 cc) (hd : I64 dd) (hwr : s.wr ≤ 100000000) :
    Calls Tryd.prog 8 #[.pointer (some ⟨d, 0, none⟩), .agg #[.int .i64 a, .int .i64 b, .int .i64 cc, .int .i64 dd], .agg #[.int .i64 v, .int .i64 sl, .int .i64 la, .int .i64 sq, .int .i64 ta, .int .i64 no]] w (OpenR w d g r S c a b cc dd ⟨v, sl, la, sq, ta, no⟩ (openS S a b cc dd ⟨v, sl, la, sq, ta, no⟩ s)) := by
  have hcs := omay_cases a b cc dd v sl la sq ta no
  have FM : Hid (∀ w, Calls Tryd.prog 29 #[.agg #[.int .i64 a, .int .i64 b, .int .i64 cc, .int .i64 dd]] w fun e w' => e = .returned (.bool (form a b cc dd)) ∧ Below w.heap.size w w') := form_any a b cc dd ha hb hc hd
  have HV : Hid (∀ w, Calls Tryd.prog 30 #[.agg #[.int .i64 v, .int .i64 sl, .int .i64 la, .int .i64 sq, .int .i64 ta, .int .i64 no]] w fun e w' => e = .returned (.bool (hvalid (v, sl, la, sq, ta, no))) ∧ Below w.heap.size w w') := hvalid_any _ _ _ _ _ _ _ rfl
  obtain ⟨x0, x1, hb0⟩ := cells2 w 24 33 #[.int .i64 a, .int .i64 b, .int .i64 cc, .int .i64 dd] #[.int .i64 v, .int .i64 sl, .int .i64 la, .int .i64 sq, .int .i64 ta, .int .i64 no]
  have HB0 := Lib.hid hb0
  have HX0 := Lib.hid x0
  have HX1 := Lib.hid x1
  have HI := Lib.hid (And.intro ha (And.intro hb (And.intro hc hd)))
  have HD := Lib.hid hD
  have HT := Lib.hid ht
  have H1 := Lib.hid h1
  clear hb0 x0 x1 ha hb hc hd hD ht h1
  have zx0 := HX0.out 0 _ rfl; have zx1 := HX0.out 1 _ rfl; have zx2 := HX0.out 2 _ rfl; have zx3 := HX0.out 3 _ rfl; have zy0 := HX1.out 0 _ rfl; have zy1 := HX1.out 1 _ rfl; have zy2 := HX1.out 2 _ rfl; have zy3 := HX1.out 3 _ rfl; have zy4 := HX1.out 4 _ rfl; have zy5 := HX1.out 5 _ rfl
  rcases hcs with ⟨hf, hm⟩ | ⟨hf, hv, hm⟩ | ⟨hf, hv, q1, hm⟩ | ⟨hf, hv, q1, q2, hm⟩ | ⟨hf, hv, q1, q2, q3, hm⟩ | ⟨hf, hv, q1, q2, q3, hm⟩
  · have HO : Hid (openS S a b cc dd ⟨v, sl, la, sq, ta, no⟩ s = (4, s)) := by
      show _ = _
      rw [openS, hm]
      rfl
    rw [hf] at FM
    clear hm
    go_enter Tryd.func8, Tryd.ntmps8
    go_wp2_with (go_at_call 29; refine (FM.out _).mono ?_; rintro e w1 ⟨rfl, hbel⟩; have HB1 := Lib.hid (HB0.out.trans (hbel.mono HB0.out.size)); have HX2 := Lib.hid (HX0.out.below hbel HX0.out.lt); have HX3 := Lib.hid (HX1.out.below hbel HX1.out.lt); clear hbel; have mx0 := HX2.out 0 _ rfl; have mx1 := HX2.out 1 _ rfl; have mx2 := HX2.out 2 _ rfl; have mx3 := HX2.out 3 _ rfl; have my0 := HX3.out 0 _ rfl; have my1 := HX3.out 1 _ rfl; have my2 := HX3.out 2 _ rfl; have my3 := HX3.out 3 _ rfl; have my4 := HX3.out 4 _ rfl; have my5 := HX3.out 5 _ rfl)
    go_ret2
    rw [HO.out]
    exact .inl ⟨show ¬ (4 : Int) = 0 by decide, rfl, HD.out.below HB1.out, Keep.of_below HB1.out _⟩
  iterate 3
    · have HO : Hid (openS S a b cc dd ⟨v, sl, la, sq, ta, no⟩ s = (4, s)) := by
        show _ = _
        rw [openS, hm]
        rfl
      rw [hf] at FM
      rw [hv] at HV
      clear hm
      (try subst q1)
      go_enter Tryd.func8, Tryd.ntmps8
      go_wp2_with (first | (go_at_call 29; refine (FM.out _).mono ?_; rintro e w1 ⟨rfl, hbel⟩; have HB1 := Lib.hid (HB0.out.trans (hbel.mono HB0.out.size)); have HX2 := Lib.hid (HX0.out.below hbel HX0.out.lt); have HX3 := Lib.hid (HX1.out.below hbel HX1.out.lt); clear hbel; have mx0 := HX2.out 0 _ rfl; have mx1 := HX2.out 1 _ rfl; have mx2 := HX2.out 2 _ rfl; have mx3 := HX2.out 3 _ rfl; have my0 := HX3.out 0 _ rfl; have my1 := HX3.out 1 _ rfl; have my2 := HX3.out 2 _ rfl; have my3 := HX3.out 3 _ rfl; have my4 := HX3.out 4 _ rfl; have my5 := HX3.out 5 _ rfl) | (go_at_call 30; refine (HV.out _).mono ?_; rintro e w2 ⟨rfl, hbel⟩; have HB2 := Lib.hid (HB1.out.trans (hbel.mono HB1.out.size)); have HX4 := Lib.hid (HX2.out.below hbel HX2.out.lt); have HX5 := Lib.hid (HX3.out.below hbel HX3.out.lt); clear hbel; have nx0 := HX4.out 0 _ rfl; have nx1 := HX4.out 1 _ rfl; have nx2 := HX4.out 2 _ rfl; have nx3 := HX4.out 3 _ rfl; have ny0 := HX5.out 0 _ rfl; have ny1 := HX5.out 1 _ rfl; have ny2 := HX5.out 2 _ rfl; have ny3 := HX5.out 3 _ rfl; have ny4 := HX5.out 4 _ rfl; have ny5 := HX5.out 5 _ rfl) | fail)
      go_ret2
      rw [HO.out]
      exact .inl ⟨show ¬ (4 : Int) = 0 by decide, rfl, HD.out.below HB2.out, Keep.of_below HB2.out _⟩
  · have HO : Hid (openS S a b cc dd ⟨v, sl, la, sq, ta, no⟩ s = (2, s)) := by
      show _ = _
      rw [openS, hm]
      rfl
    have hvv := (hvalid_iff _ _ _ _ _ _).1 hv
    have hp : pmay a b cc dd sl sq = 2 := by
      unfold pmay
      rw [if_pos hf, if_pos (.inr (.inl q3))]
    have PN := Lib.hid (fun w => pnew_not a b cc dd sl sq HI.out.1 HI.out.2.1 HI.out.2.2.1 HI.out.2.2.2 2 hp (by decide) w)
    rw [hf] at FM
    rw [hv] at HV
    clear hm hvv hp
    subst q1 q2
    go_enter Tryd.func8, Tryd.ntmps8
    go_wp2_with (first | (go_at_call 29; refine (FM.out _).mono ?_; rintro e w1 ⟨rfl, hbel⟩; have HB1 := Lib.hid (HB0.out.trans (hbel.mono HB0.out.size)); have HX2 := Lib.hid (HX0.out.below hbel HX0.out.lt); have HX3 := Lib.hid (HX1.out.below hbel HX1.out.lt); clear hbel; have mx0 := HX2.out 0 _ rfl; have mx1 := HX2.out 1 _ rfl; have mx2 := HX2.out 2 _ rfl; have mx3 := HX2.out 3 _ rfl; have my0 := HX3.out 0 _ rfl; have my1 := HX3.out 1 _ rfl; have my2 := HX3.out 2 _ rfl; have my3 := HX3.out 3 _ rfl; have my4 := HX3.out 4 _ rfl; have my5 := HX3.out 5 _ rfl) | (go_at_call 30; refine (HV.out _).mono ?_; rintro e w2 ⟨rfl, hbel⟩; have HB2 := Lib.hid (HB1.out.trans (hbel.mono HB1.out.size)); have HX4 := Lib.hid (HX2.out.below hbel HX2.out.lt); have HX5 := Lib.hid (HX3.out.below hbel HX3.out.lt); clear hbel; have nx0 := HX4.out 0 _ rfl; have nx1 := HX4.out 1 _ rfl; have nx2 := HX4.out 2 _ rfl; have nx3 := HX4.out 3 _ rfl; have ny0 := HX5.out 0 _ rfl; have ny1 := HX5.out 1 _ rfl; have ny2 := HX5.out 2 _ rfl; have ny3 := HX5.out 3 _ rfl; have ny4 := HX5.out 4 _ rfl; have ny5 := HX5.out 5 _ rfl) | (go_at_call 31; refine (PN.out _).mono ?_; rintro e w3 ⟨rfl, hbel⟩; have HB3 := Lib.hid (HB2.out.trans (hbel.mono HB2.out.size)); clear hbel) | fail)
    go_ret2
    rw [HO.out]
    exact .inl ⟨show ¬ (2 : Int) = 0 by decide, rfl, HD.out.below HB3.out, Keep.of_below HB3.out _⟩
  · have hvv := (hvalid_iff _ _ _ _ _ _).1 hv
    obtain ⟨_, _, _, c1, c2, _, d1, d2⟩ := form_true hf
    obtain ⟨sn, hsn⟩ : ∃ sn : Nat, sl = sn := ⟨sl.toNat, by omega⟩
    have m1 : 0 ≤ sl * cc := Int.mul_nonneg (by omega) (by omega)
    have m2 : sl * cc ≤ 15 * 2048 := Int.mul_le_mul (by omega) c2 (by omega) (by omega)
    obtain ⟨fs, hfs⟩ : ∃ fs, 74 + sl * cc = fs := ⟨_, rfl⟩
    have hmay : may 1 0 fs = true := by simp [may]; omega
    have PN := Lib.hid (fun w => pnew_any a b cc dd sn sq HI.out.1 HI.out.2.1 HI.out.2.2.1 HI.out.2.2.2 hf (by omega) (by omega) (by omega) w)
    have FR := Lib.hid (fun w => first_any a b cc dd sn HI.out.1 HI.out.2.1 HI.out.2.2.1 HI.out.2.2.2 hf (by omega) w)
    rw [← hsn, hfs] at PN FR
    have EN := Lib.hid (fun w ht h0 => hencode_any v sl la sq ta no fs w ht h0 _ rfl)
    rw [show hencS (v, sl, la, sq, ta, no) fs = (hencF (v, sl, la, sq, ta, no) fs, 0) from hencS_ok hv hmay] at EN
    obtain ⟨hb, hhb⟩ : ∃ hb, hencF (v, sl, la, sq, ta, no) fs = hb := ⟨_, rfl⟩
    have hbl : hb.length = 64 := by rw [← hhb]; exact hencF_len _ _
    have HO : Hid (openS S a b cc dd ⟨v, sl, la, sq, ta, no⟩ s = if (writeS S s fs hb).1 ≠ 0 then writeS S s fs hb else barrierS (writeS S s fs hb).2) := by
      show _ = _
      rw [openS, hm, hfs, show Hd.tup ⟨v, sl, la, sq, ta, no⟩ = (v, sl, la, sq, ta, no) from rfl, hhb]
      rfl
    rw [hhb] at EN
    have EN2 : Hid (∀ w, TabAt w → 0 < w.heap.size → Calls Tryd.prog 33 #[.agg #[.int .i64 v, .int .i64 sl, .int .i64 la, .int .i64 sq, .int .i64 ta, .int .i64 no], .int .i64 fs] w fun e w' => ∃ A c, e = .returned (.tuple #[.slice A 64 c, .int .i64 0]) ∧ Own w' w.heap.size 5 (.slice A 64 c) 64 hb ∧ Below w.heap.size w w') := fun w t0 t1 => by
      refine (EN.out w t0 t1).mono ?_
      rintro e w' ⟨A, c, rfl, ho, hb'⟩
      have ho2 : Own w' w.heap.size 5 (.slice A hb.length c) hb.length hb := ho
      rw [hbl] at ho2
      exact ⟨A, c, by show Ending.returned (.tuple #[.slice A hb.length c, .int .i64 0]) = _; rw [hbl], ho2, hb'⟩
    clear EN
    rw [hf] at FM
    rw [hv] at HV
    clear hm hvv c1 c2 d1 d2 m1 m2 hmay hhb hf hv hsn
    subst q1 q2
    go_enter Tryd.func8, Tryd.ntmps8
    have HLT : Hid (0 < w.heap.size) := by have := HD.out.cells.lt; show 0 < _; omega
    go_upto_region 9 with (first | (go_at_call 29; refine (FM.out _).mono ?_; rintro e w1 ⟨rfl, hbel⟩; have HB1 := Lib.hid (HB0.out.trans (hbel.mono HB0.out.size)); have HX2 := Lib.hid (HX0.out.below hbel HX0.out.lt); have HX3 := Lib.hid (HX1.out.below hbel HX1.out.lt); clear hbel; have mx0 := HX2.out 0 _ rfl; have mx1 := HX2.out 1 _ rfl; have mx2 := HX2.out 2 _ rfl; have mx3 := HX2.out 3 _ rfl; have my0 := HX3.out 0 _ rfl; have my1 := HX3.out 1 _ rfl; have my2 := HX3.out 2 _ rfl; have my3 := HX3.out 3 _ rfl; have my4 := HX3.out 4 _ rfl; have my5 := HX3.out 5 _ rfl) | (go_at_call 30; refine (HV.out _).mono ?_; rintro e w2 ⟨rfl, hbel⟩; have HB2 := Lib.hid (HB1.out.trans (hbel.mono HB1.out.size)); have HX4 := Lib.hid (HX2.out.below hbel HX2.out.lt); have HX5 := Lib.hid (HX3.out.below hbel HX3.out.lt); clear hbel; have nx0 := HX4.out 0 _ rfl; have nx1 := HX4.out 1 _ rfl; have nx2 := HX4.out 2 _ rfl; have nx3 := HX4.out 3 _ rfl; have ny0 := HX5.out 0 _ rfl; have ny1 := HX5.out 1 _ rfl; have ny2 := HX5.out 2 _ rfl; have ny3 := HX5.out 3 _ rfl; have ny4 := HX5.out 4 _ rfl; have ny5 := HX5.out 5 _ rfl) | (go_at_call 31; refine (PN.out _).mono ?_; rintro e w3 ⟨p, rfl, hpge, hpk, hbel⟩; have HPK := Lib.hid hpk; have HB3 := Lib.hid (HB2.out.trans (hbel.mono HB2.out.size)); have HPG : Hid (w.heap.size ≤ p) := (Nat.le_trans HB2.out.size hpge); have HX6 := Lib.hid (HX4.out.below hbel HX4.out.lt); have HX7 := Lib.hid (HX5.out.below hbel HX5.out.lt); clear hbel hpk hpge; have ox0 := HX6.out 0 _ rfl; have ox1 := HX6.out 1 _ rfl; have ox2 := HX6.out 2 _ rfl; have ox3 := HX6.out 3 _ rfl; have oy0 := HX7.out 0 _ rfl; have oy1 := HX7.out 1 _ rfl; have oy2 := HX7.out 2 _ rfl; have oy3 := HX7.out 3 _ rfl; have oy4 := HX7.out 4 _ rfl; have oy5 := HX7.out 5 _ rfl) | (go_at_call 32; refine (FR.out _).mono ?_; rintro e w4 ⟨rfl, hbel⟩; have HPK4 := Lib.hid (HPK.out.below hbel); have HB4 := Lib.hid (HB3.out.trans (hbel.mono HB3.out.size)); have HX8 := Lib.hid (HX6.out.below hbel HX6.out.lt); have HX9 := Lib.hid (HX7.out.below hbel HX7.out.lt); clear hbel; have qx0 := HX8.out 0 _ rfl; have qx1 := HX8.out 1 _ rfl; have qx2 := HX8.out 2 _ rfl; have qx3 := HX8.out 3 _ rfl; have qy0 := HX9.out 0 _ rfl; have qy1 := HX9.out 1 _ rfl; have qy2 := HX9.out 2 _ rfl; have qy3 := HX9.out 3 _ rfl; have qy4 := HX9.out 4 _ rfl; have qy5 := HX9.out 5 _ rfl) | (go_at_call 33; refine (EN2.out _ (HT.out.below HB4.out HLT.out) (Nat.lt_of_lt_of_le HLT.out HB4.out.size)).mono ?_; rintro e w5 ⟨A5, c5, rfl, hown, hbel⟩; have HPK5 := Lib.hid (HPK4.out.below hbel); have HB5 := Lib.hid (HB4.out.trans (hbel.mono HB4.out.size)); have HX10 := Lib.hid (HX9.out.below hbel HX9.out.lt); have HOWN := Lib.hid hown; clear hbel hown) | fail)
    have hdlt : ∀ j, dvL d g r j → j < w.heap.size := fun j hj => by
      rcases hj with e | e | e
      · rw [e]; exact HD.out.cells.lt
      · rw [e]; exact HD.out.glt
      · rw [e]; exact HD.out.map.lt
    have WR := Lib.hid (dwrite_any fs hb A5 64 c5 (by decide) HOWN.out.byt (fun ad e hl => by have := hdlt _ hl; have := HOWN.out.ge (g := ad.block) (by rw [e]; rfl); have := HB4.out.size; omega) (HD.out.below HB5.out) (by omega))
    obtain ⟨rs, hrs⟩ : ∃ rs, writeS S s fs hb = rs := ⟨_, rfl⟩
    rw [hrs] at WR HO
    have HDL := Lib.hid hdlt
    clear zx0 zx1 zx2 zx3 zy0 zy1 zy2 zy3 zy4 zy5 mx0 mx1 mx2 mx3 my0 my1 my2 my3 my4 my5 nx0 nx1 nx2 nx3 ny0 ny1 ny2 ny3 ny4 ny5 ox0 ox1 ox2 ox3 oy0 oy1 oy2 oy3 oy4 oy5 qx0 qx1 qx2 qx3 qy0 qy1 qy2 qy3 qy4 qy5
    clear EN2 FR PN HV FM HX0 HX1 HX2 HX3 HX4 HX5 HX6 HX7 HX8 HX9 HB0 HB1 HB2 HB3 HPK HPK4
    rw [show DWr w5 d g r S c rs = fun e w' => e = .returned (.int .i64 rs.1) ∧ Dv w' d g r S c rs.2 ∧ Keep w5 w' (dvL d g r) from rfl] at WR
    have HRG : Hid (∀ w7 s7, Dv w7 d g r S c s7 → Keep w5 w7 (dvL d g r) → Rg (w7.alloc (.cells #[.pointer (some ⟨d, 0, none⟩), .int .i64 v, .int .i64 sl, .int .i64 la, .int .i64 sq, .int .i64 ta, .int .i64 no, .pointer (some ⟨p, 0, none⟩)] 82)) w7.heap.size d g r S c s7 ⟨v, sl, la, sq, ta, no⟩ p la v cc dd (74 + sl * cc) sq none 0 0 0 []) := fun w7 s7 hd7 hk7 => by
      have b8 : Below w7.heap.size w7 (w7.alloc (.cells #[.pointer (some ⟨d, 0, none⟩), .int .i64 v, .int .i64 sl, .int .i64 la, .int .i64 sq, .int .i64 ta, .int .i64 no, .pointer (some ⟨p, 0, none⟩)] 82)) := (Below.refl _ _).alloc (Nat.le_refl _) _
      have np : ¬ dvL d g r p := fun hl => by have := HDL.out _ hl; have := HPG.out; omega
      have s5 := HB5.out.size
      have s7 := hk7.size
      have hp5 := HPK5.out.cells.lt
      rw [hfs]
      exact ⟨Cells.new w7 _ _, hd7.below b8, (HPK5.out.kept (tk := 0) hk7 np (fun k e => by cases e)).below b8, ⟨fun hl => by have := HDL.out _ hl; omega, by omega⟩, np, fun k e => by cases e⟩
    have HX11 : Hid (∀ w7, Keep w5 w7 (dvL d g r) → Cells w7 (w.heap.size + 1) [.int .i64 v, .int .i64 sl, .int .i64 la, .int .i64 sq, .int .i64 ta, .int .i64 no]) := fun w7 hk7 => HX10.out.kept hk7 HX10.out.lt (fun hl => by have := HDL.out _ hl; omega)
    have NP : Hid (¬ dvL d g r (w.heap.size + 1)) := fun hl => by have := HDL.out _ hl; omega
    clear HX10 HPK5 HOWN HDL hfs
    by_cases h0 : rs.1 = 0
    · have ho := HO.out
      rw [if_neg (by simp [h0])] at ho
      have HO2 := Lib.hid ho
      have HZ0 := Lib.hid h0
      clear ho h0 hrs HO
      go_upto_region 11 with (go_at_call 34; refine WR.out.mono ?_; rintro e w6 ⟨rfl, hd6, hk6⟩; rw [HZ0.out]; have HD6 := Lib.hid hd6; have HK6 := Lib.hid hk6; clear hd6 hk6)
      have BR := Lib.hid (dbarrier_any HD6.out)
      obtain ⟨ba, hba⟩ : ∃ ba, barrierS rs.2 = ba := ⟨_, rfl⟩
      rw [hba] at BR HO2
      clear hba
      have hx := HX11.out _ HK6.out
      have HX12 := Lib.hid hx
      clear hx HX11
      have HKD : Hid (∀ w7, Keep w6 w7 (dvL d g r) → Cells w7 (w.heap.size + 1) [.int .i64 v, .int .i64 sl, .int .i64 la, .int .i64 sq, .int .i64 ta, .int .i64 no]) := fun w7 hk7 => HX12.out.kept hk7 HX12.out.lt NP.out
      by_cases hb0 : ba.1 = 0
      · have HZ1 := Lib.hid hb0
        clear hb0
        go_upto_region 14 with (go_at_call 35; refine BR.out.mono ?_; rintro e w7 ⟨rfl, hd7, hk7⟩; rw [HZ1.out]; have HD7 := Lib.hid hd7; have HK7 := Lib.hid hk7; clear hd7 hk7)
        have hx := HKD.out _ HK7.out
        have v0 := hx 0 _ rfl; have v1 := hx 1 _ rfl; have v2 := hx 2 _ rfl; have v3 := hx 3 _ rfl; have v4 := hx 4 _ rfl; have v5 := hx 5 _ rfl
        clear hx
        go_wp2
        go_ret2
        rw [HO2.out]
        have b8 : Below w7.heap.size w7 (w7.alloc (.cells #[.pointer (some ⟨d, 0, none⟩), .int .i64 v, .int .i64 sl, .int .i64 la, .int .i64 sq, .int .i64 ta, .int .i64 no, .pointer (some ⟨p, 0, none⟩)] 82)) := (Below.refl _ _).alloc (Nat.le_refl _) _
        exact .inr ⟨HZ1.out, w7.heap.size, p, rfl, HRG.out w7 _ HD7.out (HK6.out.tran HK7.out), ((Keep.of_below HB5.out _).tran (HK6.out.tran HK7.out)).later b8, HPG.out⟩
      · obtain ⟨er, her⟩ : ∃ er, ba.1 = er := ⟨_, rfl⟩
        rw [her] at hb0 BR
        have HER := Lib.hid her
        clear her
        go_wp2_with (go_at_call 35; refine BR.out.mono ?_; rintro e w7 ⟨rfl, hd7, hk7⟩; have HD7 := Lib.hid hd7; have HK7 := Lib.hid hk7; clear hd7 hk7)
        go_ret2
        rw [HO2.out]
        exact .inl ⟨by rw [HER.out]; exact hb0, by rw [HER.out]; rfl, HD7.out, (Keep.of_below HB5.out _).tran (HK6.out.tran HK7.out)⟩
    · have ho := HO.out
      rw [if_pos h0] at ho
      have HO2 := Lib.hid ho
      obtain ⟨er, her⟩ : ∃ er, rs.1 = er := ⟨_, rfl⟩
      rw [her] at h0 WR
      have HER := Lib.hid her
      clear ho her hrs HO
      go_wp2_with (go_at_call 34; refine WR.out.mono ?_; rintro e w6 ⟨rfl, hd6, hk6⟩; have HD6 := Lib.hid hd6; have HK6 := Lib.hid hk6; clear hd6 hk6)
      go_ret2
      rw [HO2.out]
      exact .inl ⟨by rw [HER.out]; exact h0, by rw [HER.out]; rfl, HD6.out, (Keep.of_below HB5.out _).trans HK6.out (fun _ _ hk => hk)⟩
end
end Go.Proofs.YthgpmnblkhehkaaDoor
/- The walk of the reference's Encode. -/
namespace Go.Proofs.YthgpmnblkhehkaaDoor
open Go.RowKit

set_option maxHeartbeats 600000 in
theorem refHencode_any (a b c d e f : Int) (t : Nat) (w : World) (hv : hvalid (a, b, c, d, e, f) = true) (htl : t < 1048576) (r : List UInt8) (hr : hencF (a, b, c, d, e, f) t = r) :
    Calls Tryd.prog 45 #[.agg #[.int .i64 a, .int .i64 b, .int .i64 c, .int .i64 d, .int .i64 e, .int .i64 f], .int .i64 (t : Int)] w (PutRes w.heap.size r w) := by
  obtain ⟨x, y, la, sq, ta, no, rfl, rfl, rfl, rfl, rfl, rfl, hla, hsq, hta, hno, hby⟩ := hnats hv
  have HE : Hid (frame (1 : UInt8).toNat 0 t (hbody x y la sq ta no) = r) := by show _ = _; rw [← hr, hencF, hby, show (1 : UInt8).toNat = 1 from rfl, Int.toNat_natCast]
  clear hv hr hby
  have hx := x.toNat_lt
  have hy := y.toNat_lt
  go_enter Tryd.func45, Tryd.ntmps45
  have HB1 : Hid (Below w.heap.size w (w.alloc (.cells #[.int .i64 (x.toNat : Int), .int .i64 (y.toNat : Int), .int .i64 (la : Int), .int .i64 (sq : Int), .int .i64 (ta : Int), .int .i64 (no : Int)] 33))) := (Below.refl _ _).alloc (Nat.le_refl _) _
  have HX1 := Lib.hid (Box6.new w 33 (x.toNat : Int) (y.toNat : Int) (la : Int) (sq : Int) (ta : Int) (no : Int))
  go_wp2_with fail
  have hw1 : w.heap.size < (w.alloc (.cells #[.int .i64 (x.toNat : Int), .int .i64 (y.toNat : Int), .int .i64 (la : Int), .int .i64 (sq : Int), .int .i64 (ta : Int), .int .i64 (no : Int)] 33)).heap.size := by simp
  have HL1 := Lib.hid (HX1.out.below ((Below.refl (w.alloc (.cells #[.int .i64 (x.toNat : Int), .int .i64 (y.toNat : Int), .int .i64 (la : Int), .int .i64 (sq : Int), .int .i64 (ta : Int), .int .i64 (no : Int)] 33)).heap.size (w.alloc (.cells #[.int .i64 (x.toNat : Int), .int .i64 (y.toNat : Int), .int .i64 (la : Int), .int .i64 (sq : Int), .int .i64 (ta : Int), .int .i64 (no : Int)] 33))).alloc (Nat.le_refl _) (.cells #[.int .u8 (x.toNat : Int), .int .u8 (y.toNat : Int)] 5)) hw1)
  have HBL := Lib.hid (HB1.out.alloc HB1.out.size (.cells #[.int .u8 (x.toNat : Int), .int .u8 (y.toNat : Int)] 5))
  have HBY : Hid (Byt ((w.alloc (.cells #[.int .i64 (x.toNat : Int), .int .i64 (y.toNat : Int), .int .i64 (la : Int), .int .i64 (sq : Int), .int .i64 (ta : Int), .int .i64 (no : Int)] 33)).alloc (.cells #[.int .u8 (x.toNat : Int), .int .u8 (y.toNat : Int)] 5)) (w.heap.size + 1 + 1) (some ⟨w.heap.size + 1, 0, none⟩) 2 [x, y]) := by
    have h := Byt.new (w.alloc (.cells #[.int .i64 (x.toNat : Int), .int .i64 (y.toNat : Int), .int .i64 (la : Int), .int .i64 (sq : Int), .int .i64 (ta : Int), .int .i64 (no : Int)] 33)) #[.int .u8 (x.toNat : Int), .int .u8 (y.toNat : Int)] 5 (0, 0) [x, y] rfl
    rw [World.size_alloc] at h
    exact h
  refine (refPut_any [x, y] _ 2 _ (w.heap.size + 1 + 1) la 4 ((w.alloc (.cells #[.int .i64 (x.toNat : Int), .int .i64 (y.toNat : Int), .int .i64 (la : Int), .int .i64 (sq : Int), .int .i64 (ta : Int), .int .i64 (no : Int)] 33)).alloc (.cells #[.int .u8 (x.toNat : Int), .int .u8 (y.toNat : Int)] 5)) HBY.out (by decide) (by simp) (by decide) (by decide)).mono ?_
  rw [show putB ([x, y]) la 4 = [x, y] ++ be 4 la from rfl]
  have hpl2 : ([x, y] ++ be 4 la).length = 6 := by simp [be_len]
  rintro e' w2 ⟨A2, c2, rfl, hown, hbel⟩
  rw [hpl2] at hown ⊢
  have HO2 := Lib.hid hown
  have HB2 := Lib.hid (HBL.out.trans (hbel.mono (HBL.out.size)))
  have HX2 := Lib.hid (HL1.out.below hbel (by simp; omega))
  have hw2 : w.heap.size < w2.heap.size := Nat.lt_of_lt_of_le (by simp; omega) hbel.size
  obtain ⟨-, -, -, m3, m4, m5⟩ := HX2.out
  clear hown hbel hpl2
  go_wp2_with fail
  clear m3 m4 m5
  refine (refPut_any ([x, y] ++ be 4 la) _ 6 c2 _ sq 6 w2 HO2.out.byt (by decide) (Nat.le_refl _) (by decide) (by decide)).mono ?_
  rw [show putB ([x, y] ++ be 4 la) sq 6 = ([x, y] ++ be 4 la) ++ be 6 sq from rfl]
  have hpl3 : (([x, y] ++ be 4 la) ++ be 6 sq).length = 12 := by simp [be_len]
  rintro e' w3 ⟨A3, c3, rfl, hown, hbel⟩
  rw [hpl3] at hown ⊢
  have HO3 := Lib.hid hown
  have HB3 := Lib.hid (HB2.out.trans (hbel.mono (HB2.out.size)))
  have HX3 := Lib.hid (HX2.out.below hbel hw2)
  have hw3 : w.heap.size < w3.heap.size := Nat.lt_of_lt_of_le hw2 hbel.size
  obtain ⟨-, -, -, m3, m4, m5⟩ := HX3.out
  clear hown hbel hpl3
  go_wp2_with fail
  clear m3 m4 m5
  refine (refPut_any (([x, y] ++ be 4 la) ++ be 6 sq) _ 12 c3 _ ta 6 w3 HO3.out.byt (by decide) (Nat.le_refl _) (by decide) (by decide)).mono ?_
  rw [show putB (([x, y] ++ be 4 la) ++ be 6 sq) ta 6 = (([x, y] ++ be 4 la) ++ be 6 sq) ++ be 6 ta from rfl]
  have hpl4 : ((([x, y] ++ be 4 la) ++ be 6 sq) ++ be 6 ta).length = 18 := by simp [be_len]
  rintro e' w4 ⟨A4, c4, rfl, hown, hbel⟩
  rw [hpl4] at hown ⊢
  have HO4 := Lib.hid hown
  have HB4 := Lib.hid (HB3.out.trans (hbel.mono (HB3.out.size)))
  have HX4 := Lib.hid (HX3.out.below hbel hw3)
  have hw4 : w.heap.size < w4.heap.size := Nat.lt_of_lt_of_le hw3 hbel.size
  obtain ⟨-, -, -, m3, m4, m5⟩ := HX4.out
  clear hown hbel hpl4
  go_wp2_with fail
  clear m3 m4 m5
  refine (refPut_any ((([x, y] ++ be 4 la) ++ be 6 sq) ++ be 6 ta) _ 18 c4 _ no 5 w4 HO4.out.byt (by decide) (Nat.le_refl _) (by decide) (by decide)).mono ?_
  rw [show putB ((([x, y] ++ be 4 la) ++ be 6 sq) ++ be 6 ta) no 5 = ((([x, y] ++ be 4 la) ++ be 6 sq) ++ be 6 ta) ++ be 5 no from rfl]
  have hpl5 : (((([x, y] ++ be 4 la) ++ be 6 sq) ++ be 6 ta) ++ be 5 no).length = 23 := by simp [be_len]
  rintro e' w5 ⟨A5, c5, rfl, hown, hbel⟩
  rw [hpl5] at hown ⊢
  have HO5 := Lib.hid hown
  have HB5 := Lib.hid (HB4.out.trans (hbel.mono (HB4.out.size)))
  have HX5 := Lib.hid (HX4.out.below hbel hw4)
  have hw5 : w.heap.size < w5.heap.size := Nat.lt_of_lt_of_le hw4 hbel.size
  clear hown hbel hpl5
  go_wp2_with fail
  rw [show ((([x, y] ++ be 4 la) ++ be 6 sq) ++ be 6 ta) ++ be 5 no = hbody x y la sq ta no from rfl] at HO5
  refine (refEncode_any 1 0 t (hbody x y la sq ta no) _ 23 c5 w5.heap.size w5 HO5.out.byt (by decide) (Nat.le_refl _) (by decide) htl r HE.out).mono ?_
  rintro e' w6 ⟨A6, c6, rfl, hown, hbel⟩
  have HO6 := Lib.hid hown
  have HB6 := Lib.hid (HB5.out.trans (hbel.mono HB5.out.size))
  clear hown hbel
  go_wp2_with fail
  go_ret
  exact ⟨A6, c6, rfl, HO6.out.mono HB5.out.size, HB6.out⟩

end Go.Proofs.YthgpmnblkhehkaaDoor
/- The reference's open region: Open. -/
namespace Go.Proofs.YthgpmnblkhehkaaDoor
open Go.RowKit Go.Sort

section
variable {w : World} {d g1 g2 g3 S c1 c2 c3 : Nat} {s : DS}
/-- What the reference's Open leaves. -/
def OpenRr (w : World) (d g1 g2 g3 S c1 c2 c3 : Nat) (a b cc dd : Int) (sl : Nat) (h : Hd) (res : Int × DS) (e : Ending) (w' : World) : Prop :=
  (¬ res.1 = 0 ∧ e = .returned (.tuple #[.pointer none, .int .i64 res.1]) ∧ Dx w' d g1 g2 g3 S c1 c2 c3 res.2 ∧ Keep w w' (rvL d g1 g2 g3)) ∨
  (res.1 = 0 ∧ ∃ q p, e = .returned (.tuple #[.pointer (some ⟨q, 0, none⟩), .int .i64 0]) ∧ Rr w' q d g1 g2 g3 S c1 c2 c3 res.2 h p a b cc dd sl h.seq none 0 0 0 [] ∧ Keep w w' (rvL d g1 g2 g3) ∧ w.heap.size ≤ p ∧ w.heap.size ≤ q)
set_option maxRecDepth 100000 in
set_option maxHeartbeats 8000000 in
theorem rgopen_any (a b cc dd v la sq ta no : Int) (sl : Nat) (hD : Dx w d g1 g2 g3 S c1 c2 c3 s) (hm : omay a b cc dd ⟨v, sl, la, sq, ta, no⟩ = 0) (hwr : s.wr ≤ 100000000) :
    Calls Tryd.prog 23 #[.pointer (some ⟨d, 0, none⟩), .agg #[.int .i64 a, .int .i64 b, .int .i64 cc, .int .i64 dd], .agg #[.int .i64 v, .int .i64 (sl : Int), .int .i64 la, .int .i64 sq, .int .i64 ta, .int .i64 no]] w (OpenRr w d g1 g2 g3 S c1 c2 c3 a b cc dd sl ⟨v, sl, la, sq, ta, no⟩ (openS S a b cc dd ⟨v, sl, la, sq, ta, no⟩ s)) := by
  have hcs := omay_cases a b cc dd v sl la sq ta no
  rcases hcs with ⟨_, h⟩ | ⟨_, _, h⟩ | ⟨_, _, _, h⟩ | ⟨_, _, _, _, h⟩ | ⟨_, _, _, _, _, h⟩ | ⟨hf, hv, q1, q2, q3, _⟩
  · rw [hm] at h; exact absurd h (by decide)
  · rw [hm] at h; exact absurd h (by decide)
  · rw [hm] at h; exact absurd h (by decide)
  · rw [hm] at h; exact absurd h (by decide)
  · rw [hm] at h; exact absurd h (by decide)
  have hvv := (hvalid_iff _ _ _ _ _ _).1 hv
  obtain ⟨_, _, _, c1', c2', _, d1, d2⟩ := form_true hf
  have m1 : 0 ≤ (sl : Int) * cc := Int.mul_nonneg (by omega) (by omega)
  have m2 : (sl : Int) * cc ≤ 15 * 2048 := Int.mul_le_mul (by omega) c2' (by omega) (by omega)
  obtain ⟨qq, hqq⟩ : ∃ qq, (sl : Int) * cc = qq := ⟨_, rfl⟩
  obtain ⟨fs, hfs⟩ : ∃ fs : Nat, 74 + qq = (fs : Int) := ⟨(74 + qq).toNat, by omega⟩
  have wq : IntKind.i64.wrap ((sl : Int) * cc) = qq := by rw [hqq]; exact IntWalk.i64_in _ (by omega)
  have wq1 : IntKind.i64.wrap (74 + qq) = (fs : Int) := by rw [hfs]; exact IntWalk.i64_in _ (by omega)
  obtain ⟨hb, hhb⟩ : ∃ hb, hencF (v, (sl : Int), la, sq, ta, no) fs = hb := ⟨_, rfl⟩
  have hbl : hb.length = 64 := by rw [← hhb]; exact hencF_len _ _
  have EN := Lib.hid (fun w => refHencode_any v sl la sq ta no fs w hv (by omega) hb hhb)
  have HO : Hid (openS S a b cc dd ⟨v, sl, la, sq, ta, no⟩ s = if (writeS S s fs hb).1 ≠ 0 then writeS S s fs hb else barrierS (writeS S s fs hb).2) := by
    show _ = _
    unfold openS
    rw [hm, show (Hd.mk v sl la sq ta no).slot = (sl : Int) from rfl, hqq, hfs, show Hd.tup ⟨v, sl, la, sq, ta, no⟩ = (v, (sl : Int), la, sq, ta, no) from rfl, hhb]
    rfl
  have EN2 : Hid (∀ w, Calls Tryd.prog 45 #[.agg #[.int .i64 v, .int .i64 (sl : Int), .int .i64 la, .int .i64 sq, .int .i64 ta, .int .i64 no], .int .i64 (fs : Int)] w fun e w' => ∃ A c, e = .returned (.slice A 64 c) ∧ Own w' w.heap.size 5 (.slice A 64 c) 64 hb ∧ Below w.heap.size w w') := fun w => by
    refine (EN.out w).mono ?_
    rintro e w' ⟨A, c, rfl, ho, hb'⟩
    have ho2 : Own w' w.heap.size 5 (.slice A hb.length c) hb.length hb := ho
    rw [hbl] at ho2
    exact ⟨A, c, by rw [hbl], ho2, hb'⟩
  obtain ⟨x0, x1, hb0⟩ := cells2 w 24 33 #[.int .i64 a, .int .i64 b, .int .i64 cc, .int .i64 dd] #[.int .i64 v, .int .i64 (sl : Int), .int .i64 la, .int .i64 sq, .int .i64 ta, .int .i64 no]
  have HB0 := Lib.hid hb0
  have HX0 := Lib.hid x0
  have HX1 := Lib.hid x1
  have HDL := Lib.hid hD.lts
  have HD := Lib.hid hD
  clear hb0 x0 x1 hD EN hm hvv c1' c2' d1 d2 m1 m2 hhb hf hv hbl hqq hfs
  have HQ3 := Lib.hid (And.intro q1 (And.intro q2 q3))
  clear q1 q2 q3
  have zx0 := HX0.out 0 _ rfl; have zx1 := HX0.out 1 _ rfl; have zx2 := HX0.out 2 _ rfl; have zx3 := HX0.out 3 _ rfl; have zy0 := HX1.out 0 _ rfl; have zy1 := HX1.out 1 _ rfl; have zy2 := HX1.out 2 _ rfl; have zy3 := HX1.out 3 _ rfl; have zy4 := HX1.out 4 _ rfl; have zy5 := HX1.out 5 _ rfl
  go_enter Tryd.func23, Tryd.ntmps23
  go_upto_region 2 with fail
  obtain ⟨w1, hw1⟩ : ∃ x, (w.alloc (.cells #[.int .i64 a, .int .i64 b, .int .i64 cc, .int .i64 dd] 24)).alloc (.cells #[.int .i64 v, .int .i64 (sl : Int), .int .i64 la, .int .i64 sq, .int .i64 ta, .int .i64 no] 33) = x := ⟨_, rfl⟩
  have hw1s : w1.heap.size = w.heap.size + 2 := by rw [← hw1]; simp
  have HS1 := Lib.hid hw1s
  clear hw1s
  rw [hw1] at HX0 HX1 HB0 zx0 zx1 zx2 zx3 zy0 zy1 zy2 zy3 zy4 zy5 ⊢
  obtain ⟨gl, hgl⟩ : ∃ gl, w.heap.size = gl := ⟨_, rfl⟩
  have HGL : Hid (gl = w.heap.size) := hgl.symm
  rw [hgl] at HX0 HX1 zx0 zx1 zx2 zx3 zy0 zy1 zy2 zy3 zy4 zy5 ⊢
  clear hw1 hgl
  obtain ⟨rs, hrs⟩ : ∃ rs, writeS S s fs hb = rs := ⟨_, rfl⟩
  rw [hrs] at HO
  have HXL : Hid (∀ wx, Keep w1 wx (rvL d g1 g2 g3) → Cells wx gl [.int .i64 a, .int .i64 b, .int .i64 cc, .int .i64 dd] ∧ Cells wx (gl + 1) [.int .i64 v, .int .i64 (sl : Int), .int .i64 la, .int .i64 sq, .int .i64 ta, .int .i64 no]) := fun wx hk =>
    ⟨HX0.out.kept hk HX0.out.lt (fun hl => by have := HDL.out _ hl; have := HGL.out; omega), HX1.out.kept hk HX1.out.lt (fun hl => by have := HDL.out _ hl; have := HGL.out; omega)⟩
  have WR : Hid (∀ w2 A5 c5, Own w2 w1.heap.size 5 (.slice A5 64 c5) 64 hb → Below w1.heap.size w1 w2 → Calls Tryd.prog 44 #[.pointer (some ⟨d, 0, none⟩), .int .i64 (fs : Int), .slice A5 64 c5] w2 fun e w' => e = .returned (.int .i64 rs.1) ∧ Dx w' d g1 g2 g3 S c1 c2 c3 rs.2 ∧ Keep w2 w' (rvL d g1 g2 g3)) := fun w2 A5 c5 ho hb2 => by
    obtain ⟨lf, hd⟩ := HD.out.below (HB0.out.trans (hb2.mono HB0.out.size))
    have h := rwrite_any (fs : Int) hb A5 64 c5 (by decide) ho.byt (fun ad e hl => by have := HDL.out _ hl; have := ho.ge (g := ad.block) (by rw [e]; rfl); have := HB0.out.size; omega) hd (by omega)
    rw [hrs] at h
    exact h
  clear hrs
  by_cases h0 : rs.1 = 0
  rotate_left
  · have ho := HO.out
    rw [if_pos h0] at ho
    have HO2 := Lib.hid ho
    obtain ⟨er, her⟩ : ∃ er, rs.1 = er := ⟨_, rfl⟩
    rw [her] at h0 WR
    have HER := Lib.hid her
    clear ho her HO
    go_wp2_with (first
      | (go_at_call 45; refine (EN2.out _).mono ?_; rintro e w2 ⟨A5, c5, rfl, ho, hb2⟩; have HOW := Lib.hid ho; have HB2 := Lib.hid hb2; clear ho hb2)
      | (go_at_call 44; refine (WR.out _ _ _ HOW.out HB2.out).mono ?_; rintro e w3 ⟨rfl, hd, hk⟩; have HD3 := Lib.hid hd; have HK3 := Lib.hid hk; clear hd hk))
    go_ret2
    rw [HO2.out]
    exact .inl ⟨by rw [HER.out]; exact h0, by rw [HER.out]; rfl, HD3.out, ((Keep.of_below HB0.out _).trans ((Keep.of_below HB2.out _).tran HK3.out) (fun _ _ hk => hk))⟩
  have ho := HO.out
  rw [if_neg (by simp [h0])] at ho
  have HO2 := Lib.hid ho
  have HZ0 := Lib.hid h0
  clear ho h0 HO
  go_upto_region 5 with (first
    | (go_at_call 45; refine (EN2.out _).mono ?_; rintro e w2 ⟨A5, c5, rfl, ho, hb2⟩; have HOW := Lib.hid ho; have HB2 := Lib.hid hb2; clear ho hb2)
    | (go_at_call 44; refine (WR.out _ _ _ HOW.out HB2.out).mono ?_; rintro e w3 ⟨rfl, hd, hk⟩; rw [HZ0.out]; have HD3 := Lib.hid hd; have HK3 := Lib.hid hk; clear hd hk))
  have HK13 : Hid (Keep w1 w3 (rvL d g1 g2 g3)) := (Keep.of_below HB2.out _).tran HK3.out
  obtain ⟨ba, hba⟩ : ∃ ba, barrierS rs.2 = ba := ⟨_, rfl⟩
  rw [hba] at HO2
  have BR : Hid (Calls Tryd.prog 46 #[.pointer (some ⟨d, 0, none⟩)] w3 fun e w' => e = .returned (.int .i64 ba.1) ∧ Dx w' d g1 g2 g3 S c1 c2 c3 ba.2 ∧ Keep w3 w' (rvL d g1 g2 g3)) := by
    obtain ⟨lf, hd⟩ := HD3.out
    have h := rbarrier_any hd
    rw [hba] at h
    exact h
  clear hba zx0 zx1 zx2 zx3 zy0 zy1 zy2 zy3 zy4 zy5 WR EN2
  by_cases hb0 : ba.1 = 0
  rotate_left
  · obtain ⟨er, her⟩ : ∃ er, ba.1 = er := ⟨_, rfl⟩
    rw [her] at hb0 BR
    have HER := Lib.hid her
    clear her
    go_wp2_with (go_at_call 46; refine BR.out.mono ?_; rintro e w4 ⟨rfl, hd, hk⟩; have HD4 := Lib.hid hd; have HK4 := Lib.hid hk; clear hd hk)
    go_ret2
    rw [HO2.out]
    exact .inl ⟨by rw [HER.out]; exact hb0, by rw [HER.out]; rfl, HD4.out, (Keep.of_below HB0.out _).trans (HK13.out.tran HK4.out) (fun _ _ hk => hk)⟩
  have HZ1 := Lib.hid hb0
  clear hb0
  go_upto_region 8 with (go_at_call 46; refine BR.out.mono ?_; rintro e w4 ⟨rfl, hd, hk⟩; rw [HZ1.out]; have HD4 := Lib.hid hd; have HK4 := Lib.hid (HK13.out.tran hk); clear hd hk)
  obtain ⟨x0, x1⟩ := HXL.out _ HK4.out
  have u0 := x0 0 _ rfl; have u1 := x0 1 _ rfl; have u2 := x0 2 _ rfl; have u3 := x0 3 _ rfl; have y0 := x1 0 _ rfl; have y1 := x1 1 _ rfl; have y2 := x1 2 _ rfl; have y3 := x1 3 _ rfl; have y4 := x1 4 _ rfl; have y5 := x1 5 _ rfl
  clear x0 x1 HXL
  go_wp2
  go_ret2
  rw [HO2.out]
  obtain ⟨cp0, cp1, bb2⟩ := cells2 w4 61 64 #[.int .i64 a, .int .i64 b, .int .i64 cc, .int .i64 dd, .int .i64 (sl : Int), .int .i64 sq, .slice none 0 0, .int .i64 0] #[.pointer (some ⟨d, 0, none⟩), .int .i64 v, .int .i64 (sl : Int), .int .i64 la, .int .i64 sq, .int .i64 ta, .int .i64 no, .pointer (some ⟨w4.heap.size, 0, none⟩)]
  have hs4 := HK4.out.size
  have hs1 := HS1.out
  have hdl : ∀ k, rvL d g1 g2 g3 k → k < w4.heap.size := HD4.out.lts
  have hsoft : Soft ((w4.alloc (.cells #[.int .i64 a, .int .i64 b, .int .i64 cc, .int .i64 dd, .int .i64 (sl : Int), .int .i64 sq, .slice none 0 0, .int .i64 0] 61)).alloc (.cells #[.pointer (some ⟨d, 0, none⟩), .int .i64 v, .int .i64 (sl : Int), .int .i64 la, .int .i64 sq, .int .i64 ta, .int .i64 no, .pointer (some ⟨w4.heap.size, 0, none⟩)] 64)) w4.heap.size :=
    (Soft.new w4 _ _).same (((Below.refl (w4.heap.size + 1) (w4.alloc (.cells #[.int .i64 a, .int .i64 b, .int .i64 cc, .int .i64 dd, .int .i64 (sl : Int), .int .i64 sq, .slice none 0 0, .int .i64 0] 61))).alloc (by simp) _).block _ (by omega))
  refine .inr ⟨HZ1.out, w4.heap.size + 1, w4.heap.size, rfl, ⟨cp1, HD4.out.below bb2, ⟨cp0, hsoft, Own.nil _ _ _⟩, ⟨fun hl => by have := hdl _ hl; omega, by omega⟩, fun hl => by have := hdl _ hl; omega, fun k e => by simp [Value.ownBlock] at e⟩, ?_, by omega, by omega⟩
  exact ((Keep.of_below HB0.out _).trans HK4.out (fun _ _ hk => hk)).later bb2
end
end Go.Proofs.YthgpmnblkhehkaaDoor
/- The region law's Layout; May of the reference; Capacity. -/
namespace Go.Proofs.YthgpmnblkhehkaaDoor
open Go.RowKit

theorem and1 (x : Int) : bits .and .i64 x 1 = 0 ∨ bits .and .i64 x 1 = 1 := by
  have h3 : (BitVec.ofInt 64 x &&& BitVec.ofInt 64 1).toNat ≤ 1 := by
    rw [BitVec.toNat_and]
    exact Nat.le_trans Nat.and_le_right (by decide)
  show IntKind.i64.wrap ((BitVec.ofInt 64 x &&& BitVec.ofInt 64 1).toNat : Int) = 0 ∨ IntKind.i64.wrap ((BitVec.ofInt 64 x &&& BitVec.ofInt 64 1).toNat : Int) = 1
  rw [IntKind.wrap_i64]
  omega
theorem and3 (x : Int) : bits .and .i64 x 3 = 0 ∨ bits .and .i64 x 3 = 1 ∨ bits .and .i64 x 3 = 2 ∨ bits .and .i64 x 3 = 3 := by
  have h3 : (BitVec.ofInt 64 x &&& BitVec.ofInt 64 3).toNat ≤ 3 := by
    rw [BitVec.toNat_and]
    exact Nat.le_trans Nat.and_le_right (by decide)
  show IntKind.i64.wrap ((BitVec.ofInt 64 x &&& BitVec.ofInt 64 3).toNat : Int) = 0 ∨ IntKind.i64.wrap ((BitVec.ofInt 64 x &&& BitVec.ofInt 64 3).toNat : Int) = 1 ∨ IntKind.i64.wrap ((BitVec.ofInt 64 x &&& BitVec.ofInt 64 3).toNat : Int) = 2 ∨ IntKind.i64.wrap ((BitVec.ofInt 64 x &&& BitVec.ofInt 64 3).toNat : Int) = 3
  rw [IntKind.wrap_i64]
  omega
set_option maxHeartbeats 4000000 in
theorem layout_any (v l : Int) : ∃ b c : Int, (b = 1 ∨ b = 2) ∧ (c = 2 ∨ c = 4 ∨ c = 8 ∨ c = 16) ∧ ∀ w, Calls Tryd.prog 6 #[.int .i64 v, .int .i64 l] w fun e w' => e = .returned (.agg #[.int .i64 3, .int .i64 b, .int .i64 c, .int .i64 4]) ∧ Below w.heap.size w w' := by
  have hv := and1 v
  have hl := and3 l
  rcases hv with hv | hv
  all_goals rcases hl with hl | hl | hl | hl
  · refine ⟨1, 2, by decide, by decide, fun w => ?_⟩
    go_enter Tryd.func6, Tryd.ntmps6
    go_wp2
    refine bodyPost_ret (v := .agg #[.int .i64 3, .int .i64 1, .int .i64 2, .int .i64 4]) (by simp [results, Tryd.results6, go_sem, *]) rfl ?_
    exact ⟨rfl, by (repeat (first | with_reducible exact Below.refl _ _ | with_reducible refine Below.setCell ?_ (by first | (simp; done) | (simp; omega) | omega) _ | with_reducible refine Below.alloc ?_ (by first | (simp; done) | (simp; omega) | omega) _ | with_reducible refine Below.drew ?_))⟩
  · refine ⟨1, 4, by decide, by decide, fun w => ?_⟩
    go_enter Tryd.func6, Tryd.ntmps6
    go_wp2
    refine bodyPost_ret (v := .agg #[.int .i64 3, .int .i64 1, .int .i64 4, .int .i64 4]) (by simp [results, Tryd.results6, go_sem, *]) rfl ?_
    exact ⟨rfl, by (repeat (first | with_reducible exact Below.refl _ _ | with_reducible refine Below.setCell ?_ (by first | (simp; done) | (simp; omega) | omega) _ | with_reducible refine Below.alloc ?_ (by first | (simp; done) | (simp; omega) | omega) _ | with_reducible refine Below.drew ?_))⟩
  · refine ⟨1, 8, by decide, by decide, fun w => ?_⟩
    go_enter Tryd.func6, Tryd.ntmps6
    go_wp2
    refine bodyPost_ret (v := .agg #[.int .i64 3, .int .i64 1, .int .i64 8, .int .i64 4]) (by simp [results, Tryd.results6, go_sem, *]) rfl ?_
    exact ⟨rfl, by (repeat (first | with_reducible exact Below.refl _ _ | with_reducible refine Below.setCell ?_ (by first | (simp; done) | (simp; omega) | omega) _ | with_reducible refine Below.alloc ?_ (by first | (simp; done) | (simp; omega) | omega) _ | with_reducible refine Below.drew ?_))⟩
  · refine ⟨1, 16, by decide, by decide, fun w => ?_⟩
    go_enter Tryd.func6, Tryd.ntmps6
    go_wp2
    refine bodyPost_ret (v := .agg #[.int .i64 3, .int .i64 1, .int .i64 16, .int .i64 4]) (by simp [results, Tryd.results6, go_sem, *]) rfl ?_
    exact ⟨rfl, by (repeat (first | with_reducible exact Below.refl _ _ | with_reducible refine Below.setCell ?_ (by first | (simp; done) | (simp; omega) | omega) _ | with_reducible refine Below.alloc ?_ (by first | (simp; done) | (simp; omega) | omega) _ | with_reducible refine Below.drew ?_))⟩
  · refine ⟨2, 2, by decide, by decide, fun w => ?_⟩
    go_enter Tryd.func6, Tryd.ntmps6
    go_wp2
    refine bodyPost_ret (v := .agg #[.int .i64 3, .int .i64 2, .int .i64 2, .int .i64 4]) (by simp [results, Tryd.results6, go_sem, *]) rfl ?_
    exact ⟨rfl, by (repeat (first | with_reducible exact Below.refl _ _ | with_reducible refine Below.setCell ?_ (by first | (simp; done) | (simp; omega) | omega) _ | with_reducible refine Below.alloc ?_ (by first | (simp; done) | (simp; omega) | omega) _ | with_reducible refine Below.drew ?_))⟩
  · refine ⟨2, 4, by decide, by decide, fun w => ?_⟩
    go_enter Tryd.func6, Tryd.ntmps6
    go_wp2
    refine bodyPost_ret (v := .agg #[.int .i64 3, .int .i64 2, .int .i64 4, .int .i64 4]) (by simp [results, Tryd.results6, go_sem, *]) rfl ?_
    exact ⟨rfl, by (repeat (first | with_reducible exact Below.refl _ _ | with_reducible refine Below.setCell ?_ (by first | (simp; done) | (simp; omega) | omega) _ | with_reducible refine Below.alloc ?_ (by first | (simp; done) | (simp; omega) | omega) _ | with_reducible refine Below.drew ?_))⟩
  · refine ⟨2, 8, by decide, by decide, fun w => ?_⟩
    go_enter Tryd.func6, Tryd.ntmps6
    go_wp2
    refine bodyPost_ret (v := .agg #[.int .i64 3, .int .i64 2, .int .i64 8, .int .i64 4]) (by simp [results, Tryd.results6, go_sem, *]) rfl ?_
    exact ⟨rfl, by (repeat (first | with_reducible exact Below.refl _ _ | with_reducible refine Below.setCell ?_ (by first | (simp; done) | (simp; omega) | omega) _ | with_reducible refine Below.alloc ?_ (by first | (simp; done) | (simp; omega) | omega) _ | with_reducible refine Below.drew ?_))⟩
  · refine ⟨2, 16, by decide, by decide, fun w => ?_⟩
    go_enter Tryd.func6, Tryd.ntmps6
    go_wp2
    refine bodyPost_ret (v := .agg #[.int .i64 3, .int .i64 2, .int .i64 16, .int .i64 4]) (by simp [results, Tryd.results6, go_sem, *]) rfl ?_
    exact ⟨rfl, by (repeat (first | with_reducible exact Below.refl _ _ | with_reducible refine Below.setCell ?_ (by first | (simp; done) | (simp; omega) | omega) _ | with_reducible refine Below.alloc ?_ (by first | (simp; done) | (simp; omega) | omega) _ | with_reducible refine Below.drew ?_))⟩
set_option maxHeartbeats 4000000 in
theorem refOMay_any (a b c d v sl la sq ta no : Int) (ha : I64 a) (hb : I64 b) (hc : I64 c) (hd : I64 d) (w : World) :
    Calls Tryd.prog 19 #[.agg #[.int .i64 a, .int .i64 b, .int .i64 c, .int .i64 d], .agg #[.int .i64 v, .int .i64 sl, .int .i64 la, .int .i64 sq, .int .i64 ta, .int .i64 no]] w fun e w' => e = .returned (.int .i64 (omay a b c d ⟨v, sl, la, sq, ta, no⟩)) ∧ Below w.heap.size w w' := by
  have hcs := omay_cases a b c d v sl la sq ta no
  have FM : Hid (∀ w, Calls Tryd.prog 41 #[.agg #[.int .i64 a, .int .i64 b, .int .i64 c, .int .i64 d]] w fun e w' => e = .returned (.bool (form a b c d)) ∧ Below w.heap.size w w') := refForm_any a b c d ha hb hc hd
  have HV : Hid (∀ w, Calls Tryd.prog 42 #[.agg #[.int .i64 v, .int .i64 sl, .int .i64 la, .int .i64 sq, .int .i64 ta, .int .i64 no]] w fun e w' => e = .returned (.bool (hvalid (v, sl, la, sq, ta, no))) ∧ Below w.heap.size w w') := refHvalid_any _ _ _ _ _ _ _ rfl
  obtain ⟨x0, x1, hb0⟩ := cells2 w 24 33 #[.int .i64 a, .int .i64 b, .int .i64 c, .int .i64 d] #[.int .i64 v, .int .i64 sl, .int .i64 la, .int .i64 sq, .int .i64 ta, .int .i64 no]
  have HB0 := Lib.hid hb0
  have HX0 := Lib.hid x0
  have HX1 := Lib.hid x1
  obtain ⟨m, hm0⟩ : ∃ m, omay a b c d ⟨v, sl, la, sq, ta, no⟩ = m := ⟨_, rfl⟩
  rw [hm0] at hcs ⊢
  clear hb0 x0 x1 ha hb hc hd hm0
  have zx0 := HX0.out 0 _ rfl; have zx1 := HX0.out 1 _ rfl; have zx2 := HX0.out 2 _ rfl; have zx3 := HX0.out 3 _ rfl; have zy0 := HX1.out 0 _ rfl; have zy1 := HX1.out 1 _ rfl; have zy2 := HX1.out 2 _ rfl; have zy3 := HX1.out 3 _ rfl; have zy4 := HX1.out 4 _ rfl; have zy5 := HX1.out 5 _ rfl
  rcases hcs with ⟨hf, rfl⟩ | ⟨hf, hv, rfl⟩ | ⟨hf, hv, q1, rfl⟩ | ⟨hf, hv, rfl, q2, rfl⟩ | ⟨hf, hv, rfl, rfl, q3, rfl⟩ | ⟨hf, hv, rfl, rfl, q3, rfl⟩
  · rw [hf] at FM
    go_enter Tryd.func19, Tryd.ntmps19
    go_wp2_with (go_at_call 41; refine (FM.out _).mono ?_; rintro e w1 ⟨rfl, hbel⟩; have HB1 := Lib.hid (HB0.out.trans (hbel.mono HB0.out.size)); have HX2 := Lib.hid (HX0.out.below hbel HX0.out.lt); have HX3 := Lib.hid (HX1.out.below hbel HX1.out.lt); clear hbel; have mx0 := HX2.out 0 _ rfl; have mx1 := HX2.out 1 _ rfl; have mx2 := HX2.out 2 _ rfl; have mx3 := HX2.out 3 _ rfl; have my0 := HX3.out 0 _ rfl; have my1 := HX3.out 1 _ rfl; have my2 := HX3.out 2 _ rfl; have my3 := HX3.out 3 _ rfl; have my4 := HX3.out 4 _ rfl; have my5 := HX3.out 5 _ rfl)
    go_ret
    exact ⟨rfl, HB1.out⟩
  all_goals
    rw [hf] at FM
    rw [hv] at HV
    go_enter Tryd.func19, Tryd.ntmps19
    go_wp2_with (first | (go_at_call 41; refine (FM.out _).mono ?_; rintro e w1 ⟨rfl, hbel⟩; have HB1 := Lib.hid (HB0.out.trans (hbel.mono HB0.out.size)); have HX2 := Lib.hid (HX0.out.below hbel HX0.out.lt); have HX3 := Lib.hid (HX1.out.below hbel HX1.out.lt); clear hbel; have mx0 := HX2.out 0 _ rfl; have mx1 := HX2.out 1 _ rfl; have mx2 := HX2.out 2 _ rfl; have mx3 := HX2.out 3 _ rfl; have my0 := HX3.out 0 _ rfl; have my1 := HX3.out 1 _ rfl; have my2 := HX3.out 2 _ rfl; have my3 := HX3.out 3 _ rfl; have my4 := HX3.out 4 _ rfl; have my5 := HX3.out 5 _ rfl) | (go_at_call 42; refine (HV.out _).mono ?_; rintro e w2 ⟨rfl, hbel⟩; have HB2 := Lib.hid (HB1.out.trans (hbel.mono HB1.out.size)); have HX4 := Lib.hid (HX2.out.below hbel HX2.out.lt); have HX5 := Lib.hid (HX3.out.below hbel HX3.out.lt); clear hbel; have nx0 := HX4.out 0 _ rfl; have nx1 := HX4.out 1 _ rfl; have nx2 := HX4.out 2 _ rfl; have nx3 := HX4.out 3 _ rfl; have ny0 := HX5.out 0 _ rfl; have ny1 := HX5.out 1 _ rfl; have ny2 := HX5.out 2 _ rfl; have ny3 := HX5.out 3 _ rfl; have ny4 := HX5.out 4 _ rfl; have ny5 := HX5.out 5 _ rfl) | fail)
    go_ret
    exact ⟨rfl, HB2.out⟩
end Go.Proofs.YthgpmnblkhehkaaDoor
/- An open region in plain Lean: while no fuse burns. -/
namespace Go.Proofs.YthgpmnblkhehkaaDoor
open Go.RowKit

/-- No fuse, not dead. -/
def DS.live (s : DS) : Prop := s.dead = false ∧ s.fu = -1
theorem burn_live {s : DS} (h : s.live) : burnS s = s := by
  unfold burnS
  rw [if_neg (by rw [h.2]; decide), if_neg (by rw [h.2]; decide)]
theorem write_live {S : Nat} {s : DS} (h : s.live) {i : Int} {b : List UInt8} (h0 : 0 ≤ i) (hi : i < S) (hb : b.length ≤ 64) : writeS S s i b = (0, { s with img := putS s.img i.toNat b, ds := dirtS s.ds i.toNat, wr := s.wr + 1 }) := by
  unfold writeS
  rw [burn_live h, if_neg (by rw [h.1]; decide), if_neg (by omega), if_neg (by omega), if_neg (by rw [h.1]; decide)]
theorem barrier_live {s : DS} (h : s.live) : barrierS s = (0, { s with ds := [] }) := by
  unfold barrierS
  rw [burn_live h, if_neg (by rw [h.1]; decide), if_neg (by rw [h.1]; decide)]
theorem flush_live {S : Nat} : ∀ (l : List (Int × List UInt8)) (s : DS), s.live → (∀ x ∈ l, 0 ≤ x.1 ∧ x.1 < S ∧ x.2.length ≤ 64) → (flushS S s l).1 = 0 ∧ (flushS S s l).2.live ∧ (flushS S s l).2.wr = s.wr + l.length
  | [], s, h, _ => ⟨rfl, h, rfl⟩
  | x :: l, s, h, hl => by
    obtain ⟨h1, h2, h3⟩ := hl x (List.mem_cons_self)
    have hw := write_live h h1 h2 h3
    unfold flushS
    rw [hw, if_pos rfl]
    obtain ⟨r1, r2, r3⟩ := flush_live (S := S) l { s with img := putS s.img x.1.toNat x.2, ds := dirtS s.ds x.1.toNat, wr := s.wr + 1 } h (fun y hy => hl y (List.mem_cons_of_mem _ hy))
    refine ⟨r1, r2, ?_⟩
    rw [r3, List.length_cons]
    show s.wr + 1 + l.length = _
    omega
theorem takeS_in {S : Nat} {f sq : Int} {bs : List UInt8} {t N : Nat} (hf : 0 ≤ f) (hS : f + ((t + N : Nat) : Int) < S) : ∀ x ∈ takeS f sq bs t N, 0 ≤ x.1 ∧ x.1 < S ∧ x.2.length ≤ 64 := by
  intro x hx
  simp only [takeS, List.mem_map, List.mem_range] at hx
  obtain ⟨j, hj, rfl⟩ := hx
  refine ⟨?_, ?_, ?_⟩
  · show 0 ≤ f + 1 + ((t + j : Nat) : Int)
    omega
  · show f + 1 + ((t + j : Nat) : Int) < S
    omega
  · show (frame 2 sq.toNat (f + 1 + ((t + j : Nat) : Int)).toNat (chunk bs (t + j))).length ≤ 64
    rw [frame_len (by simp [chunk]; omega)]
    exact Nat.le_refl _
/-- A region whose device lives, all of whose full frames are written. -/
structure RS.good (S : Nat) (f cp : Int) (x : RS) : Prop where
  live : x.s.live
  tk : x.tk = x.n / 59
  le : (x.n : Int) ≤ cp
  wr : x.s.wr = 1 + x.n / 59
theorem flushR_good {S : Nat} {f sq cp : Int} {x : RS} (hf : 0 ≤ f) (hS : f + cp / 59 < S) (hl : x.s.live) (ht : x.tk ≤ x.n / 59) (hle : (x.n : Int) ≤ cp) (hw : x.s.wr = 1 + x.tk) : (flushR S f sq x).1 = 0 ∧ (flushR S f sq x).2.good S f cp ∧ (flushR S f sq x).2.n = x.n ∧ (flushR S f sq x).2.bs = x.bs := by
  have e : x.tk + fullN x.n x.tk = x.n / 59 := by unfold fullN; omega
  have hin := takeS_in (S := S) (f := f) (sq := sq) (bs := x.bs) (t := x.tk) (N := fullN x.n x.tk) hf (by rw [e]; omega)
  obtain ⟨r1, r2, r3⟩ := flush_live _ x.s hl hin
  rw [takeS_len] at r3
  refine ⟨r1, ⟨r2, e, hle, ?_⟩, rfl, rfl⟩
  show (flushS S x.s (takeS f sq x.bs x.tk (fullN x.n x.tk))).2.wr = 1 + x.n / 59
  rw [r3, hw]
  omega
theorem appendR_good {S : Nat} {f sq cp : Int} {x : RS} {r : List UInt8 × Int} (hf : 0 ≤ f) (hS : f + cp / 59 < S) (h : x.good S f cp) : (appendR S f sq cp x r).2.good S f cp := by
  unfold appendR
  split
  · exact h
  · have hp := putT_le (cp := cp) (n := x.n) (bs := x.bs) (r := r)
    obtain ⟨r1, r2, _⟩ := flushR_good (S := S) (f := f) (sq := sq) (cp := cp) (x := { x with n := (putT cp x.n x.bs r).2.1, bs := (putT cp x.n x.bs r).2.2 }) hf hS h.live
      (by show x.tk ≤ _; rw [h.tk]; exact Nat.div_le_div_right hp.1) (hp.2 h.le) (by show x.s.wr = _; rw [h.wr, ← h.tk])
    rw [if_neg (by simp [r1])]
    exact r2
theorem syncR_good {S : Nat} {f sq cp : Int} {x : RS} (hf : 0 ≤ f) (hS : f + cp / 59 < S) (hcp : cp % 59 = 0) (h : x.good S f cp) : (syncR S f sq x).1 = 0 ∧ (syncR S f sq x).2.good S f cp ∧ (syncR S f sq x).2.s.ds = [] ∧ (syncR S f sq x).2.n = x.n + padK x.n := by
  have hd := padK_dvd x.n
  have hl := padK_lt x.n
  have hle := h.le
  obtain ⟨r1, r2, r3, _⟩ := flushR_good (S := S) (f := f) (sq := sq) (cp := cp) (x := padR x) hf hS h.live
    (by show x.tk ≤ (x.n + padK x.n) / 59; rw [h.tk]; exact Nat.div_le_div_right (Nat.le_add_right _ _)) (by show ((x.n + padK x.n : Nat) : Int) ≤ cp; omega) (by show x.s.wr = 1 + x.tk; rw [h.wr, ← h.tk])
  unfold syncR
  rw [if_neg (by simp [r1]), barrier_live r2.live]
  exact ⟨rfl, ⟨r2.live, r2.tk, r2.le, r2.wr⟩, rfl, r3⟩
/-- Open of a region that may be opened, on a device that lives. -/
theorem openS_good {S : Nat} {a b c d : Int} {h : Hd} {s : DS} (hm : omay a b c d h = 0) (hl : s.live) (h0 : 0 ≤ h.slot * c) (hS : 74 + h.slot * c < S) (hw : s.wr = 0) :
    (openS S a b c d h s).1 = 0 ∧ (openS S a b c d h s).2.live ∧ (openS S a b c d h s).2.wr = 1 ∧ (openS S a b c d h s).2.ds = [] := by
  have hwr := write_live (S := S) hl (i := 74 + h.slot * c) (b := hencF h.tup (74 + h.slot * c)) (by omega) hS (by rw [hencF_len]; exact Nat.le_refl _)
  unfold openS
  rw [if_neg (by simp [hm]), if_neg (by rw [hwr]; simp), hwr]
  have hl2 : DS.live { s with img := putS s.img (74 + h.slot * c).toNat (hencF h.tup (74 + h.slot * c)), ds := dirtS s.ds (74 + h.slot * c).toNat, wr := s.wr + 1 } := hl
  show (barrierS { s with img := putS s.img (74 + h.slot * c).toNat (hencF h.tup (74 + h.slot * c)), ds := dirtS s.ds (74 + h.slot * c).toNat, wr := s.wr + 1 }).1 = 0 ∧ _
  rw [barrier_live hl2]
  exact ⟨rfl, hl, by show s.wr + 1 = 1; omega, rfl⟩
end Go.Proofs.YthgpmnblkhehkaaDoor
/- The region law's Awake. -/
namespace Go.Proofs.YthgpmnblkhehkaaDoor
open Go.RowKit

set_option maxHeartbeats 2000000 in
theorem layout_01 (w : World) : Calls Tryd.prog 6 #[.int .i64 0, .int .i64 1] w fun e w' => e = .returned (.agg #[.int .i64 3, .int .i64 1, .int .i64 4, .int .i64 4]) ∧ Below w.heap.size w w' := by
  have hv : bits .and .i64 0 1 = 0 := by decide
  have hl : bits .and .i64 1 3 = 1 := by decide
  go_enter Tryd.func6, Tryd.ntmps6
  go_wp2
  refine bodyPost_ret (v := .agg #[.int .i64 3, .int .i64 1, .int .i64 4, .int .i64 4]) (by simp [results, Tryd.results6, go_sem, *]) rfl ?_
  exact ⟨rfl, by (repeat (first | with_reducible exact Below.refl _ _ | with_reducible refine Below.setCell ?_ (by first | (simp; done) | (simp; omega) | omega) _ | with_reducible refine Below.alloc ?_ (by first | (simp; done) | (simp; omega) | omega) _ | with_reducible refine Below.drew ?_))⟩
/-- What a region's calls touch lies above. -/
theorem rgA_ge {B d g r p : Nat} {A : Option Addr} {n cap : Nat} (h : B ≤ d ∧ B ≤ g ∧ B ≤ r ∧ B ≤ p) (hA : ∀ k, (Value.slice A n cap).ownBlock = some k → B ≤ k) : ∀ k, rgA d g r p A n cap k → B ≤ k := by
  rintro k (((e | e | e) | e) | e)
  · rw [e]; exact h.1
  · rw [e]; exact h.2.1
  · rw [e]; exact h.2.2.1
  · rw [e]; exact h.2.2.2
  · exact hA k e.symm
/-- A region whose memory lies above B, in a world that keeps what lay below. -/
structure Up (w0 : World) (w : World) (q d g r S c : Nat) (h : Hd) (p : Nat) (a b cc dd f sq : Int) (A : Option Addr) (cap : Nat) (y : RS) : Prop where
  rg : Rg w q d g r S c y.s h p a b cc dd f sq A y.n cap y.tk y.bs
  bel : Below w0.heap.size w0 w
  ge : w0.heap.size ≤ d ∧ w0.heap.size ≤ g ∧ w0.heap.size ≤ r ∧ w0.heap.size ≤ p
  hi : ∀ k, (Value.slice A y.n cap).ownBlock = some k → w0.heap.size ≤ k
section
variable {w0 w w' : World} {q d g r S c p : Nat} {h : Hd} {a b cc dd f sq : Int} {A : Option Addr} {cap : Nat} {x y : RS}
theorem Up.later (hu : Up w0 w q d g r S c h p a b cc dd f sq A cap x) (hb : Below w.heap.size w w') : Up w0 w' q d g r S c h p a b cc dd f sq A cap x :=
  ⟨hu.rg.below hb, hu.bel.trans (hb.mono hu.bel.size), hu.ge, hu.hi⟩
theorem Up.step (hu : Up w0 w q d g r S c h p a b cc dd f sq A cap x) (ho : RgOut w q d g r S c h p a b cc dd f sq A x.n cap y w') : ∃ A' cap', Up w0 w' q d g r S c h p a b cc dd f sq A' cap' y := by
  obtain ⟨A', cap', h1, h2, h3⟩ := ho
  refine ⟨A', cap', h1, hu.bel.trans (h2.below (rgA_ge hu.ge hu.hi) hu.bel.size), hu.ge, fun k e => ?_⟩
  rcases h3 with h3 | h3
  · exact hu.hi k (h3 ▸ e)
  · exact Nat.le_trans hu.bel.size (h3 k e)
/-- Open on a new device. -/
theorem Up.opened {w1 w2 : World} {res : Int × DS} {e : Ending} (hb : Below w0.heap.size w0 w1) (hge : w0.heap.size ≤ d ∧ w0.heap.size ≤ g ∧ w0.heap.size ≤ r) (hz : res.1 = 0) (ho : OpenR w1 d g r S c a b cc dd h res e w2) :
    ∃ q p, e = .returned (.tuple #[.pointer (some ⟨q, 0, none⟩), .int .i64 0]) ∧ Up w0 w2 q d g r S c h p a b cc dd (74 + h.slot * cc) h.seq none 0 ⟨res.2, 0, 0, []⟩ := by
  rcases ho with ⟨h1, _⟩ | ⟨_, q, p, h1, h2, h3, h4⟩
  · exact absurd hz h1
  · refine ⟨q, p, h1, h2, hb.trans (h3.below (fun k hk => ?_) hb.size), ⟨hge.1, hge.2.1, hge.2.2, Nat.le_trans hb.size h4⟩, fun k e => by cases e⟩
    rcases hk with e | e | e
    · rw [e]; exact hge.1
    · rw [e]; exact hge.2.1
    · rw [e]; exact hge.2.2
theorem Up.pos (hu : Up w0 w q d g r S c h p a b cc dd f sq A cap x) (h0 : 0 < w0.heap.size) : 0 < d ∧ 0 < g ∧ 0 < r ∧ 0 < p := by
  have := hu.ge; omega
end
theorem tomb_r : (rencS 1 5 ((0 : Nat) : Int) 2 0 [107] []).2 = 0 ∧ (rencS 1 5 ((0 : Nat) : Int) 2 0 [107] []).1.length = 17 :=
  ⟨rfl, by unfold rencS; rw [if_neg (by decide), if_neg (by decide), rbytes_len]; rfl⟩
theorem tomb_y {S : Nat} {s : DS} {r : List UInt8 × Int} (hr : r.2 = 0 ∧ r.1.length = 17) (hl : s.live) (hw : s.wr = 1) (hS : 81 < S) : (appendR S 78 5 177 ⟨s, 0, 0, []⟩ r).1 = (0, 17, 0) ∧ (appendR S 78 5 177 ⟨s, 0, 0, []⟩ r).2.good S 78 177 ∧ (appendR S 78 5 177 ⟨s, 0, 0, []⟩ r).2.n = 17 := by
  have hp : putT 177 0 [] r = ((0, 17, 0), 17, r.1) := by
    unfold putT
    rw [if_neg (by simp [hr.1]), if_neg (by rw [hr.2]; decide), hr.2]
    rfl
  obtain ⟨r1, r2, r3, _⟩ := flushR_good (S := S) (f := 78) (sq := 5) (cp := 177) (x := ⟨s, 17, 0, r.1⟩) (by decide) (by omega) hl (Nat.zero_le _) (show ((17 : Nat) : Int) ≤ 177 by decide) hw
  unfold appendR
  rw [hp]
  rw [if_neg (show ¬ (0 : Int) ≠ 0 by decide)]
  show (if (flushR S 78 5 ⟨s, 17, 0, r.1⟩).1 ≠ 0 then ((0, 0, (flushR S 78 5 ⟨s, 17, 0, r.1⟩).1), (flushR S 78 5 ⟨s, 17, 0, r.1⟩).2) else (((0, 17, 0) : Int × Int × Int), (flushR S 78 5 ⟨s, 17, 0, r.1⟩).2)).1 = _ ∧ _
  rw [if_neg (by simp [r1])]
  exact ⟨rfl, r2, r3⟩
set_option maxRecDepth 100000 in
set_option maxHeartbeats 4000000 in
theorem regAwake_any (w : World) (ht : TabAt w) (h0 : 0 < w.heap.size) : Calls Tryd.prog 16 #[] w fun e w' => e = .returned (.bool true) ∧ Below w.heap.size w w' := by
  have HSZ := Lib.hid h0
  have HT : Hid (∀ w', Below w.heap.size w w' → TabAt w') := fun w' hb => ht.below hb h0
  clear ht h0
  have j1 : I64 1 := i64_ok (by decide) (by decide)
  have j3 : I64 3 := i64_ok (by decide) (by decide)
  have j4 : I64 4 := i64_ok (by decide) (by decide)
  have hcp : capS 3 1 4 4 = 177 := by decide
  have hom : omay 3 1 4 4 ⟨1, 1, 3, 5, 5, 0⟩ = 0 := by decide
  have NW := Lib.hid (fun w => dnew_any 100 (by decide) (by decide) w)
  have hfl : (freshS (List.replicate (100 * 64) 0)).live := ⟨rfl, rfl⟩
  obtain ⟨o1, o2, o3, o4⟩ := openS_good (S := 100) (a := 3) (b := 1) (c := 4) (d := 4) (h := ⟨1, 1, 3, 5, 5, 0⟩) hom hfl (by decide) (by decide) rfl
  obtain ⟨ro, hro⟩ : ∃ ro, openS 100 3 1 4 4 ⟨1, 1, 3, 5, 5, 0⟩ (freshS (List.replicate (100 * 64) 0)) = ro := ⟨_, rfl⟩
  have OP : Hid (∀ w' d g r c, Below w.heap.size w w' → w.heap.size ≤ d → w.heap.size ≤ g → w.heap.size ≤ r → Dv w' d g r 100 c (freshS (List.replicate (100 * 64) 0)) → Calls Tryd.prog 8 #[.pointer (some ⟨d, 0, none⟩), .agg #[.int .i64 3, .int .i64 1, .int .i64 4, .int .i64 4], .agg #[.int .i64 1, .int .i64 1, .int .i64 3, .int .i64 5, .int .i64 5, .int .i64 0]] w' fun e w2 => ∃ q p, e = .returned (.tuple #[.pointer (some ⟨q, 0, none⟩), .int .i64 0]) ∧ Up w w2 q d g r 100 c ⟨1, 1, 3, 5, 5, 0⟩ p 3 1 4 4 78 5 none 0 ⟨ro.2, 0, 0, []⟩) := fun w' d g r c hb hd hg hr hD => by
    refine (gopen_any 3 1 4 4 1 1 3 5 5 0 hD (HT.out _ hb) (by have := HSZ.out; omega) j3 j1 j4 j4 (show (0 : Nat) ≤ 100000000 by decide)).mono ?_
    intro e w2 ho
    rw [hro] at ho
    exact Up.opened hb ⟨hd, hg, hr⟩ (hro ▸ o1) ho
  rw [hro] at o1 o2 o3 o4
  obtain ⟨tr, htr⟩ : ∃ tr, rencS 1 5 ((0 : Nat) : Int) 2 0 [107] [] = tr := ⟨_, rfl⟩
  have ht2 := tomb_r
  rw [htr] at ht2
  obtain ⟨y1, y2, y3⟩ := tomb_y (S := 100) (s := ro.2) ht2 o2 o3 (by decide)
  obtain ⟨ya, hya⟩ : ∃ ya, appendR 100 78 5 177 ⟨ro.2, 0, 0, []⟩ tr = ya := ⟨_, rfl⟩
  have AP : Hid (∀ w' q d g r c p, Up w w' q d g r 100 c ⟨1, 1, 3, 5, 5, 0⟩ p 3 1 4 4 78 5 none 0 ⟨ro.2, 0, 0, []⟩ → Calls Tryd.prog 11 #[.pointer (some ⟨q, 0, none⟩), .agg #[.int .i64 2, .slice (some ⟨w'.heap.size, 0, none⟩) 1 1, .slice none 0 0, .int .i64 0]] (w'.alloc (.cells #[.int .u8 107] 5 (1, 2))) fun e w2 => e = .returned (.tuple #[.int .i64 0, .int .i64 17, .int .i64 0]) ∧ ∃ A c2, Up w w2 q d g r 100 c ⟨1, 1, 3, 5, 5, 0⟩ p 3 1 4 4 78 5 A c2 ya.2) := fun w' q d g r c p hu => by
    have hu2 := hu.later (below_alloc w' (.cells #[.int .u8 107] 5 (1, 2)))
    refine (gappend_any hu2.rg (HT.out _ hu2.bel) (hu2.pos HSZ.out) j3 j1 j4 j4 177 hcp (show ((0 : Nat) : Int) ≤ 177 by decide) (by decide) (by decide) (by decide) (by decide) (by decide) (show 0 * 59 ≤ 0 by decide) (by show ro.2.wr ≤ _; omega) 2 0 [107] [] (some ⟨w'.heap.size, 0, none⟩) none 1 1 0 0 (w'.heap.size + 1) (Byt.new w' _ _ _ [107] rfl) (Byt.nil _ _ _) (by simp) (by decide) (by decide) tr htr).mono ?_
    rintro e w2 ⟨h1, h2⟩
    rw [hya] at h1 h2
    obtain ⟨A', c', h3⟩ := hu2.step h2
    refine ⟨?_, A', c', h3⟩
    rw [h1, ← hya, y1]
  rw [hya] at y2 y3
  obtain ⟨z1, z2, z3, z4⟩ := syncR_good (S := 100) (f := 78) (sq := 5) (cp := 177) (x := ya.2) (by decide) (by decide) (by decide) y2
  obtain ⟨za, hza⟩ : ∃ za, syncR 100 78 5 ya.2 = za := ⟨_, rfl⟩
  have htk : ya.2.tk * 59 ≤ ya.2.n := by rw [y2.tk]; omega
  have hwy := y2.wr
  rw [y3] at hwy
  have SY : Hid (∀ w' q d g r c p A c2, Up w w' q d g r 100 c ⟨1, 1, 3, 5, 5, 0⟩ p 3 1 4 4 78 5 A c2 ya.2 → Calls Tryd.prog 9 #[.pointer (some ⟨q, 0, none⟩)] w' fun e w2 => e = .returned (.int .i64 0) ∧ ∃ A c2, Up w w2 q d g r 100 c ⟨1, 1, 3, 5, 5, 0⟩ p 3 1 4 4 78 5 A c2 za.2) := fun w' q d g r c p A c2 hu => by
    refine (gsync_any hu.rg (HT.out _ hu.bel) (hu.pos HSZ.out) (by omega) (by decide) (by decide) (by decide) (by decide) htk (by omega)).mono ?_
    rintro e w2 ⟨h1, h2⟩
    have e1 : syncR 100 78 5 ⟨ya.2.s, ya.2.n, ya.2.tk, ya.2.bs⟩ = za := hza
    rw [e1] at h1 h2
    obtain ⟨A', c', h3⟩ := hu.step h2
    refine ⟨?_, A', c', h3⟩
    rw [h1, ← hza, z1]
  rw [hza] at z2 z4
  have hwz := z2.wr
  rw [z4, y3, show padK 17 = 42 from rfl] at hwz
  have HD0 : Hid (ro.2.ds = []) := o4
  have HW0 : Hid (ro.2.wr = 1) := o3
  have HW1 : Hid (ya.2.s.wr = 1) := hwy
  have HW2 : Hid (za.2.s.wr = 2) := hwz
  clear hcp hom hfl o1 o2 o3 o4 hro htr ht2 y1 y2 y3 hya z1 z2 z3 z4 hza htk hwy hwz j1 j3 j4
  have kc := fun (w : World) (C : Array Value) (n c : Nat) => Lib.run_convert_bytes_const (P := Tryd.prog) w 34 5 C n c Tryd.underlying34 Tryd.underlying5
  go_enter Tryd.func16, Tryd.ntmps16
  go_wp2_with (first
    | (go_at_call 7; refine (NW.out _).mono ?_; rintro e w1 ⟨d, g, r, c, rfl, hd, g1, g2, g3, hb1⟩; have HD1 := Lib.hid hd; have HG1 := Lib.hid (And.intro g1 (And.intro g2 g3)); have HB1 := Lib.hid hb1; clear hd g1 g2 g3 hb1)
    | (go_at_call 6; refine (layout_01 _).mono ?_; rintro e w2 ⟨rfl, hb2⟩; have HD2 := Lib.hid ((HD1.out.below hb2).below ((Below.refl _ _).alloc (Nat.le_refl _) (.cells #[.int .i64 3, .int .i64 1, .int .i64 4, .int .i64 4] 24))); have HB2 := Lib.hid ((HB1.out.trans (hb2.mono HB1.out.size)).alloc (Nat.le_trans HB1.out.size hb2.size) (.cells #[.int .i64 3, .int .i64 1, .int .i64 4, .int .i64 4] 24)); clear hb2)
    | (go_at_call 8; refine (OP.out _ d g r c HB2.out HG1.out.1 HG1.out.2.1 HG1.out.2.2 HD2.out).mono ?_; rintro e w3 ⟨q, p, rfl, hu⟩; have HU3 := Lib.hid hu; clear hu)
    | (go_at_call 13; refine (dwrites_any HU3.out.rg.dv).mono ?_; rintro e w4 ⟨rfl, rfl⟩; rw [HW0.out])
    | (go_at_call 10; refine (ddirty_any HU3.out.rg.dv).mono ?_; rintro e w4 ⟨rfl, rfl⟩; rw [HD0.out])
    | (go_at_call 11; refine (AP.out _ _ _ _ _ _ _ HU3.out).mono ?_; rintro e w5 ⟨rfl, A5, c5, hu⟩; have HU5 := Lib.hid hu; clear hu)
    | (go_at_call 13; refine (dwrites_any HU5.out.rg.dv).mono ?_; rintro e w6 ⟨rfl, rfl⟩; rw [HW1.out])
    | (go_at_call 9; refine (SY.out _ _ _ _ _ _ _ _ _ HU5.out).mono ?_; rintro e w7 ⟨rfl, A7, c7, hu⟩; have HU7 := Lib.hid hu; clear hu)
    | (go_at_call 13; refine (dwrites_any HU7.out.rg.dv).mono ?_; rintro e w8 ⟨rfl, rfl⟩; rw [HW2.out])
    | fail)
  go_ret
  exact ⟨rfl, HU7.out.bel⟩
end Go.Proofs.YthgpmnblkhehkaaDoor
/- Two regions, one on the device and one on the reference's: memory. -/
namespace Go.Proofs.YthgpmnblkhehkaaDoor
open Go.RowKit

/-- All that an open region lies in. -/
def gaL (q d g r p : Nat) (A : Option Addr) (n cap : Nat) (k : Nat) : Prop := rgA d g r p A n cap k ∨ k = q
def raL (q m g1 g2 g3 p : Nat) (A : Option Addr) (n cap : Nat) (k : Nat) : Prop := rrA m g1 g2 g3 p A n cap k ∨ k = q
section
variable {w0 w w' : World} {q d g r S c p : Nat} {s s2 : DS} {h : Hd} {a b cc dd f sq : Int} {A A2 : Option Addr} {n cap tk n2 cap2 tk2 : Nat} {bs bs2 : List UInt8} {q2 m g1 g2 g3 c1 c2 c3 p2 sl : Nat} {L : Nat → Prop}
theorem Rg.lts (hR : Rg w q d g r S c s h p a b cc dd f sq A n cap tk bs) : ∀ k, gaL q d g r p A n cap k → k < w.heap.size := by
  rintro k ((((e | e | e) | e) | e) | e)
  · rw [e]; exact hR.dv.cells.lt
  · rw [e]; exact hR.dv.glt
  · rw [e]; exact hR.dv.map.lt
  · rw [e]; exact hR.pk.cells.lt
  · exact hR.pk.own.lt e.symm
  · rw [e]; exact hR.cells.lt
theorem Rr.lts (hR : Rr w q m g1 g2 g3 S c1 c2 c3 s h p a b cc dd sl sq A n cap tk bs) : ∀ k, raL q m g1 g2 g3 p A n cap k → k < w.heap.size := by
  rintro k (((e | e) | e) | e)
  · exact hR.dv.lts k e
  · rw [e]; exact hR.pk.cells.lt
  · exact hR.pk.own.lt e.symm
  · rw [e]; exact hR.cells.lt
theorem Rg.kept (hR : Rg w q d g r S c s h p a b cc dd f sq A n cap tk bs) (hk : Keep w w' L) (hn : ∀ k, gaL q d g r p A n cap k → ¬ L k) : Rg w' q d g r S c s h p a b cc dd f sq A n cap tk bs := by
  have hb : ∀ k, gaL q d g r p A n cap k → w'.heap[k]? = w.heap[k]? := fun k e => hk.block k (hR.lts k e) (hn k e)
  exact ⟨hR.cells.same (hb q (.inr rfl)), hR.dv.same (hb d (.inl (.inl (.inl (.inl rfl))))) (hb g (.inl (.inl (.inl (.inr (.inl rfl)))))) (hb r (.inl (.inl (.inl (.inr (.inr rfl)))))),
    hR.pk.kept hk (hn p (.inl (.inl (.inr rfl)))) (fun k e => hn k (.inl (.inr e.symm))), hR.nq, hR.np, hR.nr⟩
theorem Dx.same (hD : Dx w m g1 g2 g3 S c1 c2 c3 s) (hb : ∀ k, rvL m g1 g2 g3 k → w'.heap[k]? = w.heap[k]?) : Dx w' m g1 g2 g3 S c1 c2 c3 s :=
  hD.imp fun _ h => h.same (hb _ (.inl rfl)) (hb _ (.inr (.inl rfl))) (hb _ (.inr (.inr (.inl rfl)))) (hb _ (.inr (.inr (.inr rfl))))
theorem Rr.kept (hR : Rr w q m g1 g2 g3 S c1 c2 c3 s h p a b cc dd sl sq A n cap tk bs) (hk : Keep w w' L) (hn : ∀ k, raL q m g1 g2 g3 p A n cap k → ¬ L k) : Rr w' q m g1 g2 g3 S c1 c2 c3 s h p a b cc dd sl sq A n cap tk bs := by
  have hb : ∀ k, raL q m g1 g2 g3 p A n cap k → w'.heap[k]? = w.heap[k]? := fun k e => hk.block k (hR.lts k e) (hn k e)
  exact ⟨hR.cells.same (hb q (.inr rfl)), hR.dv.same fun k e => hb k (.inl (.inl (.inl e))), hR.pk.kept hk (hn p (.inl (.inl (.inr rfl)))) (fun k e => hn k (.inl (.inr e.symm))), hR.nq, hR.np, hR.nr⟩
end
/-- The two regions, in the states y and z. -/
structure Duo (w0 w : World) (q d g r S c : Nat) (h : Hd) (p : Nat) (a b cc dd f sq : Int) (q2 m g1 g2 g3 c1 c2 c3 p2 sl : Nat) (A : Option Addr) (cap : Nat) (A2 : Option Addr) (cap2 : Nat) (y z : RS) : Prop where
  up : Up w0 w q d g r S c h p a b cc dd f sq A cap y
  rr : Rr w q2 m g1 g2 g3 S c1 c2 c3 z.s h p2 a b cc dd sl sq A2 z.n cap2 z.tk z.bs
  ge : ∀ k, raL q2 m g1 g2 g3 p2 A2 z.n cap2 k → w0.heap.size ≤ k
  ne : ∀ k, gaL q d g r p A y.n cap k → ¬ raL q2 m g1 g2 g3 p2 A2 z.n cap2 k
section
variable {w0 w w' : World} {q d g r S c p : Nat} {h : Hd} {a b cc dd f sq : Int} {A A2 : Option Addr} {cap cap2 : Nat} {q2 m g1 g2 g3 c1 c2 c3 p2 sl : Nat} {x y z : RS}
theorem Duo.later (hd : Duo w0 w q d g r S c h p a b cc dd f sq q2 m g1 g2 g3 c1 c2 c3 p2 sl A cap A2 cap2 y z) (hb : Below w.heap.size w w') : Duo w0 w' q d g r S c h p a b cc dd f sq q2 m g1 g2 g3 c1 c2 c3 p2 sl A cap A2 cap2 y z :=
  ⟨hd.up.later hb, hd.rr.below hb, hd.ge, hd.ne⟩
/-- A call on the device's region. -/
theorem Duo.real (hd : Duo w0 w q d g r S c h p a b cc dd f sq q2 m g1 g2 g3 c1 c2 c3 p2 sl A cap A2 cap2 y z) (ho : RgOut w q d g r S c h p a b cc dd f sq A y.n cap x w') : ∃ A' cap', Duo w0 w' q d g r S c h p a b cc dd f sq q2 m g1 g2 g3 c1 c2 c3 p2 sl A' cap' A2 cap2 x z := by
  obtain ⟨A', cap', h1, h2, h3⟩ := ho
  refine ⟨A', cap', ⟨h1, hd.up.bel.trans (h2.below (rgA_ge hd.up.ge hd.up.hi) hd.up.bel.size), hd.up.ge, fun k e => ?_⟩, hd.rr.kept h2 (fun k hk hl => hd.ne k (.inl hl) hk), hd.ge, fun k hk => ?_⟩
  · rcases h3 with h3 | h3
    · exact hd.up.hi k (h3 ▸ e)
    · exact Nat.le_trans hd.up.bel.size (h3 k e)
  · rcases hk with (hk | hk) | hk
    · exact hd.ne k (.inl (.inl hk))
    · rcases h3 with h3 | h3
      · exact hd.ne k (.inl (.inr (hk.trans h3)))
      · exact fun hl => by have := h3 k hk.symm; have := hd.rr.lts k hl; omega
    · exact hd.ne k (.inr hk)
/-- A call on the reference's region. -/
theorem Duo.ref (hd : Duo w0 w q d g r S c h p a b cc dd f sq q2 m g1 g2 g3 c1 c2 c3 p2 sl A cap A2 cap2 y z) (ho : RrOut w q2 m g1 g2 g3 S c1 c2 c3 h p2 a b cc dd sl sq A2 z.n cap2 x w') : ∃ A' cap', Duo w0 w' q d g r S c h p a b cc dd f sq q2 m g1 g2 g3 c1 c2 c3 p2 sl A cap A' cap' y x := by
  obtain ⟨A', cap', h1, h2, h3⟩ := ho
  have hb2 : Below w0.heap.size w w' := h2.below (fun k hk => hd.ge k (.inl hk)) hd.up.bel.size
  refine ⟨A', cap', ⟨hd.up.rg.kept h2 (fun k hk hl => hd.ne k hk (.inl hl)), hd.up.bel.trans hb2, hd.up.ge, hd.up.hi⟩, h1, fun k hk => ?_, fun k hk hl => ?_⟩
  · rcases hk with (hk | hk) | hk
    · exact hd.ge k (.inl (.inl hk))
    · rcases h3 with h3 | h3
      · exact hd.ge k (.inl (.inr (hk.trans h3)))
      · exact Nat.le_trans hd.up.bel.size (h3 k hk.symm)
    · exact hd.ge k (.inr hk)
  · rcases hl with (hl | hl) | hl
    · exact hd.ne k hk (.inl (.inl hl))
    · rcases h3 with h3 | h3
      · exact hd.ne k hk (.inl (.inr (hl.trans h3)))
      · have := h3 k hl.symm; have := hd.up.rg.lts k hk; omega
    · exact hd.ne k hk (.inr hl)
theorem Dv.kept {s : DS} {L : Nat → Prop} (hD : Dv w d g r S c s) (hk : Keep w w' L) (hn : ∀ k, dvL d g r k → ¬ L k) : Dv w' d g r S c s :=
  hD.same (hk.block _ hD.cells.lt (hn _ (.inl rfl))) (hk.block _ hD.glt (hn _ (.inr (.inl rfl)))) (hk.block _ hD.map.lt (hn _ (.inr (.inr rfl))))
theorem Dv.lts {s : DS} (hD : Dv w d g r S c s) : ∀ k, dvL d g r k → k < w.heap.size := by
  rintro k (e | e | e)
  · rw [e]; exact hD.cells.lt
  · rw [e]; exact hD.glt
  · rw [e]; exact hD.map.lt
theorem Rv.kept {s : DS} {lf : Int} {L : Nat → Prop} (hD : Rv w m g1 g2 g3 S c1 c2 c3 s lf) (hk : Keep w w' L) (hn : ∀ k, rvL m g1 g2 g3 k → ¬ L k) : Rv w' m g1 g2 g3 S c1 c2 c3 s lf := by
  obtain ⟨q1, q2, q3, q4⟩ := hD.lts
  exact hD.same (hk.block _ q1 (hn _ (.inl rfl))) (hk.block _ q2 (hn _ (.inr (.inl rfl)))) (hk.block _ q3 (hn _ (.inr (.inr (.inl rfl))))) (hk.block _ q4 (hn _ (.inr (.inr (.inr rfl)))))
theorem Dx.kept {s : DS} {L : Nat → Prop} (hD : Dx w m g1 g2 g3 S c1 c2 c3 s) (hk : Keep w w' L) (hn : ∀ k, rvL m g1 g2 g3 k → ¬ L k) : Dx w' m g1 g2 g3 S c1 c2 c3 s :=
  hD.same fun k e => hk.block k (hD.lts k e) (hn k e)
/-- No block of the reference's device begins with a pointer. -/
theorem Dx.first {s : DS} (hD : Dx w m g1 g2 g3 S c1 c2 c3 s) {k : Nat} (hk : rvL m g1 g2 g3 k) {A : Option Addr} : w.cell? ⟨k, 0, none⟩ ≠ some (.pointer A) := by
  obtain ⟨lf, h⟩ := hD
  have hz := h.sz
  rcases hk with e | e | e | e
  · rw [e, h.cells 0 _ rfl]; simp
  · obtain ⟨ob, ho⟩ := h.old
    obtain ⟨ad, b, e1, _, _, hc⟩ := ho.get (k := 0) (by omega)
    injection e1 with e1
    subst e1
    rw [e]
    rw [Addr.add_mid, Nat.zero_add] at hc
    rw [hc]; simp
  · obtain ⟨ad, b, e1, _, _, hc⟩ := h.new.get (k := 0) (by omega)
    injection e1 with e1
    subst e1
    rw [e]
    rw [Addr.add_mid, Nat.zero_add] at hc
    rw [hc]; simp
  · rw [e, h.dirt 0 (by omega)]; simp
theorem OpenR.bad {res : Int × DS} {e : Ending} (hz : ¬ res.1 = 0) (ho : OpenR w d g r S c a b cc dd h res e w') : e = .returned (.tuple #[.pointer none, .int .i64 res.1]) ∧ Dv w' d g r S c res.2 ∧ Keep w w' (dvL d g r) := by
  rcases ho with ⟨_, h2⟩ | ⟨h1, _⟩
  · exact h2
  · exact absurd h1 hz
theorem OpenR.good {res : Int × DS} {e : Ending} (hz : res.1 = 0) (ho : OpenR w d g r S c a b cc dd h res e w') : ∃ q p, e = .returned (.tuple #[.pointer (some ⟨q, 0, none⟩), .int .i64 0]) ∧ Rg w' q d g r S c res.2 h p a b cc dd (74 + h.slot * cc) h.seq none 0 0 0 [] ∧ Keep w w' (dvL d g r) ∧ w.heap.size ≤ p := by
  rcases ho with ⟨h1, _⟩ | ⟨_, h2⟩
  · exact absurd hz h1
  · exact h2
theorem OpenRr.bad {res : Int × DS} {e : Ending} (hz : ¬ res.1 = 0) (ho : OpenRr w m g1 g2 g3 S c1 c2 c3 a b cc dd sl h res e w') : e = .returned (.tuple #[.pointer none, .int .i64 res.1]) ∧ Dx w' m g1 g2 g3 S c1 c2 c3 res.2 ∧ Keep w w' (rvL m g1 g2 g3) := by
  rcases ho with ⟨_, h2⟩ | ⟨h1, _⟩
  · exact h2
  · exact absurd h1 hz
theorem OpenRr.good {res : Int × DS} {e : Ending} (hz : res.1 = 0) (ho : OpenRr w m g1 g2 g3 S c1 c2 c3 a b cc dd sl h res e w') : ∃ q p, e = .returned (.tuple #[.pointer (some ⟨q, 0, none⟩), .int .i64 0]) ∧ Rr w' q m g1 g2 g3 S c1 c2 c3 res.2 h p a b cc dd sl h.seq none 0 0 0 [] ∧ Keep w w' (rvL m g1 g2 g3) ∧ w.heap.size ≤ p ∧ w.heap.size ≤ q := by
  rcases ho with ⟨h1, _⟩ | ⟨_, h2⟩
  · exact absurd hz h1
  · exact h2
/-- Both regions, just opened: behind w1 the device's, behind w2 the reference's. -/
theorem Duo.opened {w1 w2 w3 : World} {s s0 : DS} (hb : Below w0.heap.size w0 w1) (hdge : ∀ k, dvL d g r k → w0.heap.size ≤ k) (hmge : ∀ k, rvL m g1 g2 g3 k → w0.heap.size ≤ k) (hsep : ∀ k, dvL d g r k → ¬ rvL m g1 g2 g3 k) (hM : Dx w1 m g1 g2 g3 S c1 c2 c3 s0)
    (hR : Rg w2 q d g r S c s h p a b cc dd f sq none 0 0 0 []) (hk1 : Keep w1 w2 (dvL d g r)) (hp : w1.heap.size ≤ p)
    (hR2 : Rr w3 q2 m g1 g2 g3 S c1 c2 c3 s h p2 a b cc dd sl sq none 0 0 0 []) (hk2 : Keep w2 w3 (rvL m g1 g2 g3)) (hp2 : w2.heap.size ≤ p2) (hq2 : w2.heap.size ≤ q2) :
    Duo w0 w3 q d g r S c h p a b cc dd f sq q2 m g1 g2 g3 c1 c2 c3 p2 sl none 0 none 0 ⟨s, 0, 0, []⟩ ⟨s, 0, 0, []⟩ := by
  have hM2 : Dx w2 m g1 g2 g3 S c1 c2 c3 s0 := hM.kept hk1 (fun k hk hl => hsep k hl hk)
  have hml := hM.lts
  have hqm : ¬ rvL m g1 g2 g3 q := fun e => hM2.first e (hR.cells 0 _ rfl)
  have hga : ∀ k, gaL q d g r p none 0 0 k → ¬ rvL m g1 g2 g3 k := by
    rintro k (((e | e) | e) | e)
    · exact hsep k e
    · rw [e]; exact fun hl => by have := hml _ hl; omega
    · simp [Value.ownBlock] at e
    · rw [e]; exact hqm
  have hb1 := hb.size
  have hk1s := hk1.size
  have hb2 : Below w0.heap.size w1 w2 := hk1.below hdge hb.size
  have hb3 : Below w0.heap.size w2 w3 := hk2.below hmge (by omega)
  refine ⟨⟨hR.kept hk2 hga, (hb.trans hb2).trans hb3, ⟨hdge _ (.inl rfl), hdge _ (.inr (.inl rfl)), hdge _ (.inr (.inr rfl)), by omega⟩, fun k e => by simp [Value.ownBlock] at e⟩, hR2, ?_, ?_⟩
  · rintro k (((e | e) | e) | e)
    · exact hmge k e
    · rw [e]; omega
    · simp [Value.ownBlock] at e
    · rw [e]; omega
  · rintro k hk (((e | e) | e) | e)
    · exact hga k hk e
    · have := hR.lts k hk; omega
    · simp [Value.ownBlock] at e
    · have := hR.lts k hk; omega
end
/-- What a region's state keeps. -/
structure RS.fine (cp : Int) (x : RS) : Prop where
  le : (x.n : Int) ≤ cp
  tk : x.tk * 59 ≤ x.n
  wr : x.s.wr ≤ 1 + x.tk
theorem barrierS_wr (s : DS) : (barrierS s).2.wr = s.wr := by
  have h := (burnS_img s).2.2
  unfold barrierS
  split
  · rfl
  · split
    · exact h
    · exact h
theorem openS_zero {S : Nat} {a b c d : Int} {h : Hd} {s : DS} (hz : (openS S a b c d h s).1 = 0) : (openS S a b c d h s).2.dead = false ∧ (openS S a b c d h s).2.wr ≤ s.wr + 1 := by
  unfold openS at hz ⊢
  by_cases h1 : omay a b c d h ≠ 0
  · rw [if_pos h1] at hz; exact absurd hz h1
  rw [if_neg h1] at hz ⊢
  by_cases h2 : (writeS S s (74 + h.slot * c) (hencF h.tup (74 + h.slot * c))).1 ≠ 0
  · rw [if_pos h2] at hz; exact absurd hz h2
  rw [if_neg h2] at hz ⊢
  have hw := writeS_wr S s (74 + h.slot * c) (hencF h.tup (74 + h.slot * c))
  obtain ⟨y, hy⟩ : ∃ y, (writeS S s (74 + h.slot * c) (hencF h.tup (74 + h.slot * c))).2 = y := ⟨_, rfl⟩
  rw [hy] at hz hw ⊢
  refine ⟨?_, by rw [barrierS_wr]; exact hw⟩
  unfold barrierS at hz ⊢
  split at hz
  · exact absurd hz (show ¬ (1 : Int) = 0 by decide)
  · rename_i h3
    rw [if_neg h3]
    split at hz
    · exact absurd hz (show ¬ (1 : Int) = 0 by decide)
    · rename_i h4
      rw [if_neg h4]
      show (burnS y).dead = false
      simpa using h4
theorem flushR_fine {S : Nat} {f sq cp : Int} {x : RS} (hx : x.fine cp) : (flushR S f sq x).2.fine cp := by
  have h := flushS_wr (S := S) (takeS f sq x.bs x.tk (fullN x.n x.tk)) x.s
  rw [takeS_len] at h
  refine ⟨hx.le, (full_ok hx.tk).1, ?_⟩
  show (flushS S x.s (takeS f sq x.bs x.tk (fullN x.n x.tk))).2.wr ≤ 1 + (x.tk + fullN x.n x.tk)
  have := hx.wr
  omega
theorem appendR_fine {S : Nat} {f sq cp : Int} {x : RS} {r : List UInt8 × Int} (hx : x.fine cp) : (appendR S f sq cp x r).2.fine cp := by
  have hp := putT_le (cp := cp) (n := x.n) (bs := x.bs) (r := r)
  have h2 : RS.fine cp { x with n := (putT cp x.n x.bs r).2.1, bs := (putT cp x.n x.bs r).2.2 } := ⟨hp.2 hx.le, Nat.le_trans hx.tk hp.1, hx.wr⟩
  unfold appendR
  split
  · exact hx
  · split
    · exact flushR_fine h2
    · exact flushR_fine h2
theorem syncR_fine {S : Nat} {f sq cp : Int} {x : RS} (hcp : cp % 59 = 0) (hx : x.fine cp) : (syncR S f sq x).2.fine cp := by
  have hd := padK_dvd x.n
  have hl := padK_lt x.n
  have h1 := hx.le
  have h2 : (padR x).fine cp := ⟨by show ((x.n + padK x.n : Nat) : Int) ≤ cp; omega, Nat.le_trans hx.tk (Nat.le_add_right _ _), hx.wr⟩
  have h3 := flushR_fine (S := S) (f := f) (sq := sq) h2
  unfold syncR
  split
  · exact h3
  · refine ⟨h3.le, h3.tk, ?_⟩
    show (barrierS (flushR S f sq (padR x)).2.s).2.wr ≤ _
    rw [barrierS_wr]
    exact h3.wr
end Go.Proofs.YthgpmnblkhehkaaDoor
/- A region that draws its order, by an invariant, against a frame that is a variable: what an operation reads are the temporaries of other operations or slots of the frame at its start. -/
namespace Go.Proofs.YthgpmnblkhehkaaDoor
open Go

/-- The slots that are written differ and lie in a frame of n slots. -/
def okDst (n : Nat) (l : List Oper) : Bool := (l.filterMap (·.dst)).all (· < n) && decide (l.filterMap (·.dst)).Nodup
theorem getD_set {a : Array Value} {i j : Nat} {x : Value} : (a.setIfInBounds i x).getD j undef = if i = j ∧ i < a.size then x else a.getD j undef := by
  simp only [Array.getD_eq_getD_getElem?, Array.getElem?_setIfInBounds]
  by_cases h : i = j
  · subst h
    by_cases hs : i < a.size
    · simp [hs]
    · simp [hs]
  · simp [h]
theorem put_size (a : Act) (d : Option Tmp) (x : Value) : (a.put d x).tmps.size = a.tmps.size := by
  cases d <;> simp [Act.put]
theorem put_defers (a : Act) (d : Option Tmp) (x : Value) : (a.put d x).defers = a.defers := by
  cases d <;> simp [Act.put]
theorem put_get (a : Act) (d : Option Tmp) (x : Value) (j : Nat) : (a.put d x).tmps.getD j undef = if d = some j ∧ j < a.tmps.size then x else a.tmps.getD j undef := by
  cases d with
  | none => simp [Act.put]
  | some d =>
    show (a.tmps.setIfInBounds d x).getD j undef = _
    rw [getD_set]
    by_cases h : d = j
    · subst h; simp
    · rw [if_neg (fun e => h e.1), if_neg (fun e => h (Option.some.inj e.1))]
theorem act_ext {a b : Act} (hs : a.tmps.size = b.tmps.size) (hd : a.defers = b.defers) (h : ∀ j, a.tmps.getD j undef = b.tmps.getD j undef) : a = b := by
  obtain ⟨at_, ad⟩ := a
  obtain ⟨bt, bd⟩ := b
  have e : at_ = bt := by
    apply Array.ext hs
    intro j h1 h2
    have := h j
    simpa [Array.getD_eq_getD_getElem?, h1, h2] using this
  have hd' : ad = bd := hd
  rw [e, hd']
theorem puts_size : ∀ (l : List Oper) (k : Nat) (v : Nat → Value) (a : Act), (putsAll l k v a).tmps.size = a.tmps.size
  | [], _, _, _ => rfl
  | o :: l, k, v, a => by
    show (putsAll l (k + 1) v (a.put o.dst (v k))).tmps.size = _
    rw [puts_size l, put_size]
theorem puts_defers : ∀ (l : List Oper) (k : Nat) (v : Nat → Value) (a : Act), (putsAll l k v a).defers = a.defers
  | [], _, _, _ => rfl
  | o :: l, k, v, a => by
    show (putsAll l (k + 1) v (a.put o.dst (v k))).defers = _
    rw [puts_defers l, put_defers]
theorem puts_other : ∀ (l : List Oper) (k : Nat) (v : Nat → Value) (a : Act) (d : Nat), d ∉ l.filterMap (·.dst) → (putsAll l k v a).tmps.getD d undef = a.tmps.getD d undef
  | [], _, _, _, _, _ => rfl
  | o :: l, k, v, a, d, h => by
    show (putsAll l (k + 1) v (a.put o.dst (v k))).tmps.getD d undef = _
    have h2 : d ∉ l.filterMap (·.dst) := fun e => h (by
      rw [List.filterMap_cons]
      cases o.dst with
      | none => exact e
      | some _ => exact List.mem_cons_of_mem _ e)
    rw [puts_other l _ _ _ d h2, put_get, if_neg (fun e => h (by
      rw [List.filterMap_cons, e.1]
      exact List.mem_cons_self))]
theorem puts_mine : ∀ (l : List Oper) (k : Nat) (v : Nat → Value) (a : Act), (l.filterMap (·.dst)).Nodup → (∀ d ∈ l.filterMap (·.dst), d < a.tmps.size) → ∀ i o d, l[i]? = some o → o.dst = some d → (putsAll l k v a).tmps.getD d undef = v (k + i)
  | [], _, _, _, _, _, i, o, d, h, _ => by simp at h
  | x :: l, k, v, a, hn, hl, i, o, d, h, hd => by
    show (putsAll l (k + 1) v (a.put x.dst (v k))).tmps.getD d undef = _
    rcases i with _ | i
    · have e : x = o := by simpa using h
      subst e
      rw [List.filterMap_cons, hd] at hn hl
      have hn' := List.nodup_cons.1 hn
      rw [puts_other l _ _ _ d hn'.1, put_get, if_pos ⟨hd, hl d List.mem_cons_self⟩]
      rfl
    · have hn2 : (l.filterMap (·.dst)).Nodup ∧ ∀ d ∈ l.filterMap (·.dst), d < (a.put x.dst (v k)).tmps.size := by
        rw [put_size]
        rw [List.filterMap_cons] at hn hl
        cases hx : x.dst with
        | none => rw [hx] at hn hl; exact ⟨hn, hl⟩
        | some y => rw [hx] at hn hl; exact ⟨(List.nodup_cons.1 hn).2, fun z hz => hl z (List.mem_cons_of_mem _ hz)⟩
      rw [puts_mine l (k + 1) v _ hn2.1 hn2.2 i o d (by simpa using h) hd, show k + 1 + i = k + (i + 1) from by omega]
section
variable {l : List Oper} {a : Act}
theorem okDst_parts (h : okDst a.tmps.size l = true) : (l.filterMap (·.dst)).Nodup ∧ ∀ d ∈ l.filterMap (·.dst), d < a.tmps.size := by
  simp only [okDst, Bool.and_eq_true, decide_eq_true_eq, List.all_eq_true] at h
  exact ⟨h.2, h.1⟩
theorem mem_dst {i : Nat} {o : Oper} {d : Nat} (h : l[i]? = some o) (hd : o.dst = some d) : d ∈ l.filterMap (·.dst) := List.mem_filterMap.2 ⟨o, List.mem_of_getElem? h, hd⟩
theorem puts_self (h : okDst a.tmps.size l = true) : putsAll l 0 (holds l a) a = a := by
  obtain ⟨hn, hl⟩ := okDst_parts h
  refine act_ext (puts_size _ _ _ _) (puts_defers _ _ _ _) fun j => ?_
  by_cases hj : j ∈ l.filterMap (·.dst)
  · obtain ⟨o, ho, hd⟩ := List.mem_filterMap.1 hj
    obtain ⟨i, hi⟩ := List.getElem?_of_mem ho
    rw [puts_mine l 0 _ a hn hl i o j hi hd, Nat.zero_add]
    unfold holds
    rw [hi]
    show (match o.dst with | some d => a.tmps.getD d undef | none => undef) = _
    rw [hd]
  · rw [puts_other l _ _ _ j hj]
theorem nodup_at : ∀ (l : List Oper), (l.filterMap (·.dst)).Nodup → ∀ (i j : Nat) (o p : Oper) (d : Nat), l[i]? = some o → l[j]? = some p → o.dst = some d → p.dst = some d → i = j
  | [], _, i, j, o, p, d, h, _, _, _ => by simp at h
  | x :: l, hn, i, j, o, p, d, h1, h2, e1, e2 => by
    rw [List.filterMap_cons] at hn
    rcases i with _ | i <;> rcases j with _ | j
    · rfl
    · have e : x = o := by simpa using h1
      subst e
      rw [e1] at hn
      exact absurd (mem_dst (by simpa using h2) e2) (List.nodup_cons.1 hn).1
    · have e : x = p := by simpa using h2
      subst e
      rw [e2] at hn
      exact absurd (mem_dst (by simpa using h1) e1) (List.nodup_cons.1 hn).1
    · have hn2 : (l.filterMap (·.dst)).Nodup := by
        cases hx : x.dst with
        | none => rw [hx] at hn; exact hn
        | some y => rw [hx] at hn; exact (List.nodup_cons.1 hn).2
      rw [nodup_at l hn2 i j o p d (by simpa using h1) (by simpa using h2) e1 e2]
theorem puts_put (h : okDst a.tmps.size l = true) {i : Nat} {o : Oper} (ho : l[i]? = some o) (v : Nat → Value) (x : Value) : (putsAll l 0 v a).put o.dst x = putsAll l 0 (upd v i x) a := by
  obtain ⟨hn, hl⟩ := okDst_parts h
  refine act_ext (by rw [put_size, puts_size, puts_size]) (by rw [put_defers, puts_defers, puts_defers]) fun j => ?_
  rw [put_get, puts_size]
  by_cases hj : j ∈ l.filterMap (·.dst)
  · obtain ⟨p, hp, hd⟩ := List.mem_filterMap.1 hj
    obtain ⟨m, hm⟩ := List.getElem?_of_mem hp
    rw [puts_mine l 0 _ a hn hl m p j hm hd, puts_mine l 0 _ a hn hl m p j hm hd, Nat.zero_add]
    by_cases hmi : m = i
    · subst hmi
      rw [ho] at hm
      injection hm with hm
      subst hm
      rw [if_pos ⟨hd, hl j hj⟩, upd_same]
    · rw [upd_ne v x hmi, if_neg (fun e => hmi (nodup_at l hn m i p o j hm ho hd e.1))]
  · rw [puts_other l _ _ _ j hj, puts_other l _ _ _ j hj, if_neg (fun e => hj (mem_dst ho e.1))]

/-- What operands are, where the temporaries of the operations hold what v says. -/
structure Ev (l : List Oper) (a : Act) (v : Nat → Value) (ev : Operand → Value) : Prop where
  const : ∀ c, ev (.const c) = c
  func : ∀ f, ev (.func f) = .func (.func f) #[] #[]
  global : ∀ g, ev (.global g) = .pointer (some ⟨g, 0, none⟩)
  mine : ∀ i o d, l[i]? = some o → o.dst = some d → ev (.tmp d) = v i
  rest : ∀ d, d ∉ l.filterMap (·.dst) → ev (.tmp d) = a.tmps.getD d undef
theorem Ev.at_ {v : Nat → Value} {ev : Operand → Value} (h : Ev l a v ev) (i d : Nat) (hd : (l[i]?).bind (·.dst) = some d) : ev (.tmp d) = v i := by
  cases ho : l[i]? with
  | none => rw [ho] at hd; cases hd
  | some o => rw [ho] at hd; exact h.mine i o d ho hd
theorem Ev.out {v : Nat → Value} {ev : Operand → Value} (h : Ev l a v ev) (d : Nat) (hd : (l.filterMap (·.dst)).contains d = false) {x : Value} (hx : a.tmps.getD d undef = x) : ev (.tmp d) = x := by
  rw [h.rest d (fun e => by rw [List.contains_iff_mem.2 e] at hd; cases hd), hx]
/-- What is asked of operation k. -/
def BigStep (P : Program) (l : List Oper) (a : Act) (Q : Exit → Act → World → Prop) (R : (Nat → Bool) → (Nat → Value) → World → Prop) (k : Nat) (o : Oper) : Prop :=
  ∀ b v w A ev, Ev l a v ev → R b v w → Closed b 0 l → b k = false → (∀ e ∈ o.after, Region.binds .any e = true → b e.on = true) →
    ∀ K : Act → World → Prop, (∀ x w', R (upd b k true) (upd v k x) w' → K (A.put o.dst x) w') →
      match o.guard with
      | none => o.upon P A K Q ((execOp ev o).run P w)
      | some (g, p) => (v g = .bool p → o.upon P A K Q ((execOp ev o).run P w)) ∧ (v g ≠ .bool p → K (A.put o.dst undef) w)
def BigSteps (P : Program) (l : List Oper) (a : Act) (Q : Exit → Act → World → Prop) (R : (Nat → Bool) → (Nat → Value) → World → Prop) : Nat → List Oper → Prop
  | _, [] => True
  | k, o :: m => BigStep P l a Q R k o ∧ BigSteps P l a Q R (k + 1) m
/-- Each guard is an operation with a slot. -/
def okGuard (l : List Oper) : Bool := l.all fun o => match o.guard with
  | none => true
  | some (g, _) => ((l[g]?).bind (·.dst)).isSome
variable {P : Program} {Q : Exit → Act → World → Prop} {R : (Nat → Bool) → (Nat → Value) → World → Prop}
theorem ev_puts (h : okDst a.tmps.size l = true) (v : Nat → Value) : Ev l a v (putsAll l 0 v a).eval := by
  obtain ⟨hn, hl⟩ := okDst_parts h
  exact ⟨fun _ => rfl, fun _ => rfl, fun _ => rfl, fun i o d hi hd => by
    show (putsAll l 0 v a).tmps.getD d undef = v i
    rw [puts_mine l 0 v a hn hl i o d hi hd, Nat.zero_add], fun d hd => puts_other l 0 v a d hd⟩
theorem yielded_puts (h : okDst a.tmps.size l = true) {v : Nat → Value} {g d : Nat} (hg : (l[g]?).bind (·.dst) = some d) (p : Bool) : (yielded l.toArray (putsAll l 0 v a).tmps g == some p) = true ↔ v g = .bool p := by
  have he := (ev_puts h v).at_ g d hg
  have he' : (putsAll l 0 v a).tmps.getD d undef = v g := he
  have hlt : d < (putsAll l 0 v a).tmps.size := by
    rw [puts_size]
    cases ho : l[g]? with
    | none => rw [ho] at hg; cases hg
    | some o => rw [ho] at hg; exact (okDst_parts h).2 d (mem_dst ho hg)
  have hs : (putsAll l 0 v a).tmps[d]? = some (v g) := by
    rw [← he']
    simp [Array.getD_eq_getD_getElem?, hlt]
  unfold yielded
  have hg2 : (l.toArray[g]?).bind (·.dst) = some d := by simpa using hg
  rw [hg2]
  show ((match (putsAll l 0 v a).tmps[d]? with | some (.bool b) => some b | _ => none) == some p) = true ↔ _
  rw [hs]
  cases hv : v g <;> simp
theorem BigSteps.reg (hd : okDst a.tmps.size l = true) (hg : okGuard l = true) : ∀ (m : List Oper) (k : Nat), (∀ i, m[i]? = l[k + i]?) → BigSteps P l a Q R k m → RegSteps P l Q (fun v => putsAll l 0 v a) R k m
  | [], _, _, _ => trivial
  | o :: m, k, hm, hs => by
    have ho : l[k]? = some o := by have := hm 0; simpa using this.symm
    refine ⟨fun b v w hR hc hb hp K hK => ?_, BigSteps.reg hd hg m (k + 1) (fun i => by have := hm (i + 1); rw [show k + 1 + i = k + (i + 1) from by omega, ← this]; simp) hs.2⟩
    have hK' : ∀ x w', R (upd b k true) (upd v k x) w' → K ((putsAll l 0 v a).put o.dst x) w' := fun x w' h => by
      rw [puts_put hd ho v x]
      exact hK _ _ h
    have h := hs.1 b v w (putsAll l 0 v a) _ (ev_puts hd v) hR hc hb hp K hK'
    cases hgd : o.guard with
    | none =>
      rw [hgd] at h
      rw [if_pos (by unfold Region.wanted; rw [hgd])]
      exact h
    | some gp =>
      obtain ⟨g, p⟩ := gp
      rw [hgd] at h
      have hgg : ((l[g]?).bind (·.dst)).isSome = true := by
        have := List.all_eq_true.1 hg o (List.mem_of_getElem? ho)
        rw [hgd] at this
        exact this
      obtain ⟨d, hdd⟩ := Option.isSome_iff_exists.1 hgg
      have hy := yielded_puts (v := v) hd hdd p
      by_cases hv : v g = .bool p
      · rw [if_pos (by unfold Region.wanted; rw [hgd]; exact hy.2 hv)]
        exact h.1 hv
      · rw [if_neg (by unfold Region.wanted; rw [hgd]; exact fun e => hv (hy.1 e))]
        exact h.2 hv
/-- The frame behind the region, where the slots follow on each other. -/
theorem puts_range (hd : okDst a.tmps.size l = true) (m n : Nat) (hm : l.map (·.dst) = (List.range n).map fun i => some (m + i)) (hs : m + n ≤ a.tmps.size) (v : Nat → Value) (vs : List Value) (hv : (List.range n).map v = vs) :
    putsAll l 0 v a = ⟨(a.tmps.toList.take m ++ (vs ++ a.tmps.toList.drop (m + n))).toArray, a.defers⟩ := by
  subst hv
  obtain ⟨hn, hl⟩ := okDst_parts hd
  have hlen : l.length = n := by have := congrArg List.length hm; simpa using this
  have hdst : ∀ i, i < n → ∃ o, l[i]? = some o ∧ o.dst = some (m + i) := fun i hi => by
    have h1 : (l.map (·.dst))[i]? = some (some (m + i)) := by rw [hm]; simp [hi]
    rw [List.getElem?_map] at h1
    cases ho : l[i]? with
    | none => rw [ho] at h1; cases h1
    | some o => rw [ho] at h1; exact ⟨o, rfl, by simpa using h1⟩
  refine act_ext ?_ (puts_defers _ _ _ _) fun j => ?_
  · rw [puts_size]
    simp
    omega
  · have hsz : a.tmps.toList.length = a.tmps.size := by simp
    by_cases h1 : j < m
    · rw [puts_other l 0 v a j (fun e => by
        obtain ⟨o, ho, hdd⟩ := List.mem_filterMap.1 e
        have : some j ∈ l.map (·.dst) := List.mem_map.2 ⟨o, ho, hdd⟩
        rw [hm] at this
        obtain ⟨i, hi, e2⟩ := List.mem_map.1 this
        injection e2 with e2
        omega)]
      have : (a.tmps.toList.take m ++ ((List.range n).map v ++ a.tmps.toList.drop (m + n)))[j]? = a.tmps.toList[j]? := by
        rw [List.getElem?_append_left (by rw [List.length_take]; omega), List.getElem?_take_of_lt h1]
      simp only [Array.getD_eq_getD_getElem?, List.getElem?_toArray, this, Array.getElem?_toList]
    · by_cases h2 : j < m + n
      · obtain ⟨o, ho, hdd⟩ := hdst (j - m) (by omega)
        have h3 := puts_mine l 0 v a hn hl (j - m) o j ho (by rw [hdd, show m + (j - m) = j from by omega])
        rw [h3, Nat.zero_add]
        have : (a.tmps.toList.take m ++ ((List.range n).map v ++ a.tmps.toList.drop (m + n)))[j]? = some (v (j - m)) := by
          rw [List.getElem?_append_right (by rw [List.length_take]; omega), List.length_take, Nat.min_eq_left (by omega), List.getElem?_append_left (by simp; omega)]
          have hjm : j - m < n := by omega
          simp [hjm]
        simp only [Array.getD_eq_getD_getElem?, List.getElem?_toArray, this, Option.getD_some]
      · rw [puts_other l 0 v a j (fun e => by
          obtain ⟨o, ho, hdd⟩ := List.mem_filterMap.1 e
          have : some j ∈ l.map (·.dst) := List.mem_map.2 ⟨o, ho, hdd⟩
          rw [hm] at this
          obtain ⟨i, hi, e2⟩ := List.mem_map.1 this
          injection e2 with e2
          have := List.mem_range.1 hi
          omega)]
        have : (a.tmps.toList.take m ++ ((List.range n).map v ++ a.tmps.toList.drop (m + n)))[j]? = a.tmps.toList[j]? := by
          rw [List.getElem?_append_right (by rw [List.length_take]; omega), List.length_take, Nat.min_eq_left (by omega), List.getElem?_append_right (by simp; omega), List.length_map, List.length_range, List.getElem?_drop]
          congr 1
          omega
        simp only [Array.getD_eq_getD_getElem?, List.getElem?_toArray, this, Array.getElem?_toList]
theorem wp_region_big {id : Nat} {w : World} (R : (Nat → Bool) → (Nat → Value) → World → Prop) (hm : P.follows .mixedOrders = true) (ht : topo 0 l = true) (hd : okDst a.tmps.size l = true) (hg : okGuard l = true) (h0 : R (fun _ => false) (holds l a) w.drew)
    (hs : BigSteps P l a Q R 0 l) (hfin : ∀ b v w, (∀ i, i < l.length → b i = true) → R b v w → Q .normal (putsAll l 0 v a) w) : (Code.region id l.toArray true).wp P Q a w :=
  wp_region_inv (F := fun v => putsAll l 0 v a) R (fun u => u) (fun _ => rfl) hm ht (puts_self hd) h0 (BigSteps.reg hd hg l 0 (fun i => by rw [Nat.zero_add]) hs) hfin
end
end Go.Proofs.YthgpmnblkhehkaaDoor
/- A slice of records, as it lies in memory. -/
namespace Go.Proofs.YthgpmnblkhehkaaDoor
open Go.RowKit

/-- A record's numbers, slices and bytes. -/
structure Rc where
  ki : Int
  Ak : Option Addr
  nk : Nat
  ck : Nat
  key : List UInt8
  Av : Option Addr
  nv : Nat
  cv : Nat
  val : List UInt8
  ex : Int
def Rc.ok (r : Rc) : Prop := I64 r.ki ∧ I64 r.ex ∧ r.nk ≤ r.ck ∧ r.ck ≤ 9223372036854775807 ∧ r.nv ≤ r.cv ∧ r.cv ≤ 9223372036854775807
/-- A record at an address; its bytes in blocks below B. -/
def RcAt (w : World) (B : Nat) (ad : Addr) (r : Rc) : Prop :=
  w.cell? ad = some (.int .i64 r.ki) ∧ w.cell? ⟨ad.block, ad.off + 1, none⟩ = some (.slice r.Ak r.nk r.ck) ∧ w.cell? ⟨ad.block, ad.off + 2, none⟩ = some (.slice r.Av r.nv r.cv) ∧ w.cell? ⟨ad.block, ad.off + 3, none⟩ = some (.int .i64 r.ex) ∧
    Byt w B r.Ak r.nk r.key ∧ Byt w B r.Av r.nv r.val ∧ r.ok
theorem RcAt.below {w w' : World} {B : Nat} {ad : Addr} {r : Rc} (h : RcAt w B ad r) (hb : Below B w w') (ha : ad.block < B) : RcAt w' B ad r :=
  ⟨(hb.cell ha).trans h.1, (hb.cell (p := ⟨ad.block, _, none⟩) ha).trans h.2.1, (hb.cell (p := ⟨ad.block, _, none⟩) ha).trans h.2.2.1, (hb.cell (p := ⟨ad.block, _, none⟩) ha).trans h.2.2.2.1, h.2.2.2.2.1.below hb, h.2.2.2.2.2.1.below hb, h.2.2.2.2.2.2⟩
/-- The slice value '.slice A n c' reads as these records, all of it in blocks below B. -/
def RAt (w : World) (B : Nat) (A : Option Addr) (n : Nat) (rs : List Rc) : Prop :=
  rs.length = n ∧ ∀ j r, rs[j]? = some r → ∃ ad, A = some ad ∧ ad.block < B ∧ RcAt w B (ad.add (j * 4)) r
theorem RAt.below {w w' : World} {B n : Nat} {A : Option Addr} {rs : List Rc} (h : RAt w B A n rs) (hb : Below B w w') : RAt w' B A n rs := ⟨h.1, fun j r hj => by
  obtain ⟨ad, e, hB, h1⟩ := h.2 j r hj
  exact ⟨ad, e, hB, h1.below hb (by rw [addr_block]; exact hB)⟩⟩
theorem RAt.get {w : World} {B n k : Nat} {A : Option Addr} {rs : List Rc} (h : RAt w B A n rs) (hk : k < n) : ∃ r ad, rs[k]? = some r ∧ A = some ad ∧ ad.block < B ∧ RcAt w B (ad.add (k * 4)) r := by
  have hl : k < rs.length := by rw [h.1]; exact hk
  obtain ⟨ad, r⟩ := h.2 k _ (List.getElem?_eq_getElem hl)
  exact ⟨_, ad, List.getElem?_eq_getElem hl, r⟩
end Go.Proofs.YthgpmnblkhehkaaDoor
/- A packer and the reference's, with the same stream. -/
namespace Go.Proofs.YthgpmnblkhehkaaDoor
open Go.RowKit

theorem Far.weak {w w' : World} {p : Nat} {r : Option Nat} (h : Far w w' p none) : Far w w' p r := ⟨h.os, h.tape, h.output, h.size, fun k hk h1 _ => h.block k hk h1 (fun e => by cases e)⟩
/-- A packer p, the reference's q; in a loop that began in w7. -/
structure Ss (w7 wr : World) (p q : Nat) (a b c d f sl s : Int) (A : Option Addr) (n cap : Nat) (t : Int) (bs : List UInt8) (A' : Option Addr) (n' cap' : Nat) (t' : Int) (bs' : List UInt8) : Prop where
  pkp : Pk wr p a b c d f s A n cap t bs
  pkq : Pk wr q a b c d sl s A' n' cap' t' bs'
  keep : Keep w7 wr (fun k => k = p ∨ k = q)
  ne : p ≠ q ∧ p < w7.heap.size ∧ q < w7.heap.size
  hiA : ∀ g, (Value.slice A n cap).ownBlock = some g → w7.heap.size ≤ g
  hiA' : ∀ g, (Value.slice A' n' cap').ownBlock = some g → w7.heap.size ≤ g
  d1 : Diff (Value.slice A n cap).ownBlock (Value.slice A' n' cap').ownBlock
section
variable {w7 wr w' w1 w2 : World} {p q : Nat} {a b c d f sl s : Int} {A A1 A' : Option Addr} {n n1 n' cap cap1 cap' : Nat} {t t1 t' : Int} {bs bs1 bs' : List UInt8}
theorem Ss.later (h : Ss w7 wr p q a b c d f sl s A n cap t bs A' n' cap' t' bs') (hb : Below wr.heap.size wr w') : Ss w7 w' p q a b c d f sl s A n cap t bs A' n' cap' t' bs' :=
  ⟨h.pkp.below hb, h.pkq.below hb, h.keep.later hb, h.ne, h.hiA, h.hiA', h.d1⟩
theorem Ss.stepp (h : Ss w7 wr p q a b c d f sl s A n cap t bs A' n' cap' t' bs') (hpk : Pk w' p a b c d f s A1 n1 cap1 t1 bs1) (hf : Far wr w' p (Value.slice A n cap).ownBlock)
    (hb : Born wr (Value.slice A n cap).ownBlock (Value.slice A1 n1 cap1).ownBlock) : Ss w7 w' p q a b c d f sl s A1 n1 cap1 t1 bs1 A' n' cap' t' bs' := by
  obtain ⟨h1, h2, h3⟩ := h.ne
  refine ⟨hpk, h.pkq.far hf (fun e => h1 e.symm) (fun e => by have := h.hiA _ e; omega) (fun g e e' => by have := h.hiA' _ e; omega) h.d1, h.keep.far hf (.inl (.inl rfl)) (fun g e => .inr (h.hiA g e)), h.ne, ?_, h.hiA', h.d1.born hb (fun g e => h.pkq.own.lt e)⟩
  intro g e
  rcases hb with hb | hb
  · rw [hb] at e; exact h.hiA g e
  · exact Nat.le_trans h.keep.size (hb g e)
theorem Ss.stepq (h : Ss w7 wr p q a b c d f sl s A n cap t bs A' n' cap' t' bs') (hpk : Pk w' q a b c d sl s A1 n1 cap1 t1 bs1) (hf : Far wr w' q (Value.slice A' n' cap').ownBlock)
    (hb : Born wr (Value.slice A' n' cap').ownBlock (Value.slice A1 n1 cap1).ownBlock) : Ss w7 w' p q a b c d f sl s A n cap t bs A1 n1 cap1 t1 bs1 := by
  obtain ⟨h1, h2, h3⟩ := h.ne
  refine ⟨h.pkp.far hf h1 (fun e => by have := h.hiA' _ e; omega) (fun g e e' => by have := h.hiA _ e; omega) h.d1.symm, hpk, h.keep.far hf (.inl (.inr rfl)) (fun g e => .inr (h.hiA' g e)), h.ne, h.hiA, ?_, (h.d1.symm.born hb (fun g e => h.pkp.own.lt e)).symm⟩
  intro g e
  rcases hb with hb | hb
  · rw [hb] at e; exact h.hiA' g e
  · exact Nat.le_trans h.keep.size (hb g e)
variable {tn k : Nat} {A2 A3 A5 A6 : Option Addr} {c2 c3 c5 c6 : Nat} {vs us : List Value}
theorem Ss.takep (h : Ss w7 wr p q a b c d f sl s A n cap t bs A' n' cap' t' bs') (tk : Tk wr w1 p a b c d f s A n cap tn bs k A2 c2 A3 c3 vs) : Ss w7 w1 p q a b c d f sl s A n cap ((tn + k : Nat) : Int) bs A' n' cap' t' bs' :=
  h.stepp tk.pk tk.far.weak (Born.refl _ _)
theorem Ss.takes (h : Ss w7 wr p q a b c d f sl s A n cap t bs A' n' cap' t' bs) (tk : Tk wr w1 p a b c d f s A n cap tn bs k A2 c2 A3 c3 vs) (rt : Rt w1 w2 q a b c d sl f s A' n' cap' tn t1 bs k A5 c5 k A6 c6 us) :
    Vat w2 w2.heap.size A2 k (ints (sectS f tn k)) ∧ Vat w2 w2.heap.size A5 k (ints (sectS f tn k)) ∧ Vat w2 w2.heap.size A3 k vs ∧ Vat w2 w2.heap.size A6 k us ∧ Elems w2 vs (framS f s bs tn k) ∧ Elems w2 us (framS f s bs tn k) ∧
      Ss w7 w2 p q a b c d f sl s A n cap ((tn + k : Nat) : Int) bs A' n' cap' t1 bs := by
  obtain ⟨h1, h2, h3⟩ := h.ne
  have sk := h.keep.size
  have hq : ∀ g, wr.heap.size ≤ g → g ≠ q := fun g hg e => by omega
  refine ⟨?_, rt.sec.vat, ?_, rt.fra.vat, ?_, rt.frs.elems, (h.takep tk).stepq rt.pk rt.far.weak (Born.refl _ _)⟩
  · exact Vec.vat (tk.sec.same fun g e => rt.far.block g (tk.sec.lt e) (hq g (tk.sec.ge e)) (fun e' => by cases e'))
  · exact Vec.vat (tk.fra.same fun g e => rt.far.block g (tk.fra.lt e) (hq g (tk.fra.ge e)) (fun e' => by cases e'))
  · exact (tk.frs.keep (w' := w2) (L' := fun g => g < wr.heap.size ∨ some g = (Value.slice A2 k c2).ownBlock ∨ some g = (Value.slice A3 k c3).ownBlock) rt.far.size (fun j hj hn => rt.far.block j hj (fun e => hn (.inl (by omega))) (fun e => by cases e)) (fun _ _ h => h)).elems
end

/-- A record's cells inside a block, written anew. -/
theorem short_store {B : Nat} {wr w1 : World} {g : Nat} {x0 x1 x2 x3 x4 x5 x6 : Value} (hg : B ≤ g) (hb : Below B wr w1) (hx : Cells w1 g [x0, x1, x2, x3, x4, x5, x6]) (u1 u2 u3 u4 : Value) :
    Below B wr ((((w1.setCell ⟨g, 1, none⟩ u1).setCell ⟨g, 2, none⟩ u2).setCell ⟨g, 3, none⟩ u3).setCell ⟨g, 4, none⟩ u4) ∧ Cells ((((w1.setCell ⟨g, 1, none⟩ u1).setCell ⟨g, 2, none⟩ u2).setCell ⟨g, 3, none⟩ u3).setCell ⟨g, 4, none⟩ u4) g [x0, u1, u2, u3, u4, x5, x6] :=
  ⟨Below.setCell (Below.setCell (Below.setCell (Below.setCell hb (by exact hg) _) (by exact hg) _) (by exact hg) _) (by exact hg) _, (((hx.set 1 u1).set 2 u2).set 3 u3).set 4 u4⟩

/-- A call of a script: a kind, a record, two numbers. -/
structure Op7 where
  kind : Int
  r : Rc
  off : Int
  n : Int
def Op7At (w : World) (B : Nat) (ad : Addr) (o : Op7) : Prop :=
  w.cell? ad = some (.int .i64 o.kind) ∧ w.cell? ⟨ad.block, ad.off + 1, none⟩ = some (.int .i64 o.r.ki) ∧ w.cell? ⟨ad.block, ad.off + 2, none⟩ = some (.slice o.r.Ak o.r.nk o.r.ck) ∧ w.cell? ⟨ad.block, ad.off + 3, none⟩ = some (.slice o.r.Av o.r.nv o.r.cv) ∧ w.cell? ⟨ad.block, ad.off + 4, none⟩ = some (.int .i64 o.r.ex) ∧
    w.cell? ⟨ad.block, ad.off + 5, none⟩ = some (.int .i64 o.off) ∧ w.cell? ⟨ad.block, ad.off + 6, none⟩ = some (.int .i64 o.n) ∧ Byt w B o.r.Ak o.r.nk o.r.key ∧ Byt w B o.r.Av o.r.nv o.r.val ∧ o.r.ok ∧ I64 o.kind ∧ I64 o.off ∧ I64 o.n
theorem Op7At.below {w w' : World} {B : Nat} {ad : Addr} {o : Op7} (h : Op7At w B ad o) (hb : Below B w w') (ha : ad.block < B) : Op7At w' B ad o := by
  obtain ⟨h0, h1, h2, h3, h4, h5, h6, h7, h8, h9⟩ := h
  exact ⟨(hb.cell ha).trans h0, (hb.cell (p := ⟨ad.block, _, none⟩) ha).trans h1, (hb.cell (p := ⟨ad.block, _, none⟩) ha).trans h2, (hb.cell (p := ⟨ad.block, _, none⟩) ha).trans h3, (hb.cell (p := ⟨ad.block, _, none⟩) ha).trans h4, (hb.cell (p := ⟨ad.block, _, none⟩) ha).trans h5, (hb.cell (p := ⟨ad.block, _, none⟩) ha).trans h6, h7.below hb, h8.below hb, h9⟩
def OAt (w : World) (B : Nat) (A : Option Addr) (n : Nat) (os : List Op7) : Prop :=
  os.length = n ∧ ∀ j o, os[j]? = some o → ∃ ad, A = some ad ∧ ad.block < B ∧ Op7At w B (ad.add (j * 7)) o
theorem OAt.get {w : World} {B n k : Nat} {A : Option Addr} {os : List Op7} (h : OAt w B A n os) (hk : k < n) : ∃ o ad, A = some ad ∧ ad.block < B ∧ Op7At w B (ad.add (k * 7)) o := by
  have hl : k < os.length := by rw [h.1]; exact hk
  obtain ⟨ad, r⟩ := h.2 k _ (List.getElem?_eq_getElem hl)
  exact ⟨_, ad, r⟩
end Go.Proofs.YthgpmnblkhehkaaDoor
/- Short of a record. -/
namespace Go.Proofs.YthgpmnblkhehkaaDoor
open Go.RowKit

set_option maxHeartbeats 4000000 in
theorem short_any (ki ex : Int) (Ak Av : Option Addr) (nk ck nv cv mk mv : Nat) (hk : nk ≤ ck) (hv : nv ≤ cv) (hck : ck ≤ 9223372036854775807) (hcv : cv ≤ 9223372036854775807) (hmk : (nk ≤ 260 ∧ mk = nk) ∨ (260 < nk ∧ mk = 260)) (hmv : (nv ≤ 200 ∧ mv = nv) ∨ (200 < nv ∧ mv = 200)) (w : World) :
    Calls Tryd.prog 12 #[.agg #[.int .i64 ki, .slice Ak nk ck, .slice Av nv cv, .int .i64 ex]] w fun e w' => e = .returned (.agg #[.int .i64 ki, .slice Ak mk ck, .slice Av mv cv, .int .i64 ex]) ∧ Below w.heap.size w w' := by
  rcases hmk with ⟨h1, rfl⟩ | ⟨h1, rfl⟩
  all_goals rcases hmv with ⟨h2, rfl⟩ | ⟨h2, rfl⟩
  · have h1' : (mk : Int) ≤ 260 := by omega
    have h2' : (mv : Int) ≤ 200 := by omega
    have h3' : (mk : Int) ≤ (ck : Int) := by omega
    have h4' : (mv : Int) ≤ (cv : Int) := by omega
    go_enter Tryd.func12, Tryd.ntmps12
    go_wp2_with fail
    go_region
    all_goals
      go_wp2
      refine bodyPost_ret (v := .agg #[.int .i64 ki, .slice Ak mk ck, .slice Av mv cv, .int .i64 ex]) (by simp [results, Tryd.results12, go_sem, *]) rfl ?_
      exact ⟨rfl, by (repeat (first | with_reducible exact Below.refl _ _ | with_reducible refine Below.setCell ?_ (by first | (simp; done) | (simp; omega) | omega) _ | with_reducible refine Below.alloc ?_ (by first | (simp; done) | (simp; omega) | omega) _ | with_reducible refine Below.drew ?_))⟩
  · have h1' : (mk : Int) ≤ 260 := by omega
    have h2' : (200 : Int) < (nv : Int) := by omega
    have h3' : (mk : Int) ≤ (ck : Int) := by omega
    have h4' : (200 : Int) ≤ (cv : Int) := by omega
    go_enter Tryd.func12, Tryd.ntmps12
    go_wp2_with fail
    go_region
    all_goals
      go_wp2
      refine bodyPost_ret (v := .agg #[.int .i64 ki, .slice Ak mk ck, .slice Av 200 cv, .int .i64 ex]) (by simp [results, Tryd.results12, go_sem, *]) rfl ?_
      exact ⟨rfl, by (repeat (first | with_reducible exact Below.refl _ _ | with_reducible refine Below.setCell ?_ (by first | (simp; done) | (simp; omega) | omega) _ | with_reducible refine Below.alloc ?_ (by first | (simp; done) | (simp; omega) | omega) _ | with_reducible refine Below.drew ?_))⟩
  · have h1' : (260 : Int) < (nk : Int) := by omega
    have h2' : (mv : Int) ≤ 200 := by omega
    have h3' : (260 : Int) ≤ (ck : Int) := by omega
    have h4' : (mv : Int) ≤ (cv : Int) := by omega
    go_enter Tryd.func12, Tryd.ntmps12
    go_wp2_with fail
    go_region
    all_goals
      go_wp2
      refine bodyPost_ret (v := .agg #[.int .i64 ki, .slice Ak 260 ck, .slice Av mv cv, .int .i64 ex]) (by simp [results, Tryd.results12, go_sem, *]) rfl ?_
      exact ⟨rfl, by (repeat (first | with_reducible exact Below.refl _ _ | with_reducible refine Below.setCell ?_ (by first | (simp; done) | (simp; omega) | omega) _ | with_reducible refine Below.alloc ?_ (by first | (simp; done) | (simp; omega) | omega) _ | with_reducible refine Below.drew ?_))⟩
  · have h1' : (260 : Int) < (nk : Int) := by omega
    have h2' : (200 : Int) < (nv : Int) := by omega
    have h3' : (260 : Int) ≤ (ck : Int) := by omega
    have h4' : (200 : Int) ≤ (cv : Int) := by omega
    go_enter Tryd.func12, Tryd.ntmps12
    go_wp2_with fail
    go_region
    all_goals
      go_wp2
      refine bodyPost_ret (v := .agg #[.int .i64 ki, .slice Ak 260 ck, .slice Av 200 cv, .int .i64 ex]) (by simp [results, Tryd.results12, go_sem, *]) rfl ?_
      exact ⟨rfl, by (repeat (first | with_reducible exact Below.refl _ _ | with_reducible refine Below.setCell ?_ (by first | (simp; done) | (simp; omega) | omega) _ | with_reducible refine Below.alloc ?_ (by first | (simp; done) | (simp; omega) | omega) _ | with_reducible refine Below.drew ?_))⟩
end Go.Proofs.YthgpmnblkhehkaaDoor
/- Structs by value among the arguments: what a field's cells hold. -/
namespace Go.Proofs.YthgpmnblkhehkaaDoor
open Go.ChangeShapes Go.WideShapes Go.ChangeAt Go.RowKit

section
variable {H : Type} {enc : TypeId × Value → H} {P : Program} {W : World} {fuel : Nat} {t e : TypeId} {fs : Array Field} {cs : List Value} {x : DataW H × List MemPlace}

/-- Bounds of an int. -/
def I64b (n : Int) : Prop := -9223372036854775808 ≤ n ∧ n ≤ 9223372036854775807
/-- A slice of bytes that came in. -/
def BytIn (W : World) (A : Option Addr) (n cap : Nat) (bs : List UInt8) : Prop := Byt W W.heap.size A n bs ∧ n ≤ cap ∧ cap ≤ 9223372036854775807

/-- A struct's field, as it is read. -/
theorem field_at (ht : P.underlying t = some (.struct fs)) (h : DataW.trod enc P W 0 (fun _ => true) true fuel t cs = some x) (i : Nat) (f : Field) (hf : fs[i]? = some f) (o k : Nat) (ho : f.offset = o) (hk : P.cellsOf f.type = k) :
    ∃ n y, DataW.trod enc P W 0 (fun _ => true) true n f.type ((cs.drop o).take k) = some y ∧ ∀ p ∈ y.2, p ∈ x.2 := by
  subst ho hk
  obtain ⟨xs, n, _, hx, _, hlen, hg⟩ := DataW.trod_struct ht h
  have hil : i < fs.size := (Array.getElem?_eq_some_iff.1 hf).1
  have hxi : xs[i]? = some (xs[i]'(by omega)) := List.getElem?_eq_getElem (by omega)
  refine ⟨n, _, (hg i f hf).trans hxi, fun p hp => ?_⟩
  rw [hx]
  exact List.mem_flatMap.2 ⟨_, List.getElem_mem _, hp⟩

theorem int_cell (ht : P.underlying t = some (.int .i64)) (h : DataW.trod enc P W 0 (fun _ => true) true fuel t cs = some x) : ∃ n, cs = [.int .i64 n] ∧ I64b n := by
  obtain ⟨z, hz, _, hw⟩ := DataW.trod_int ht h
  exact ⟨z, hz, i64_of_wf hw⟩
theorem bool_cell (ht : P.underlying t = some .bool) (h : DataW.trod enc P W 0 (fun _ => true) true fuel t cs = some x) : ∃ b, cs = [.bool b] := by
  obtain ⟨b, hb, _⟩ := DataW.trod_bool ht h
  exact ⟨b, hb⟩
theorem bytes_cell (ht : P.underlying t = some (.slice e)) (he : P.underlying e = some (.int .u8)) (hc : P.cellsOf e = 1)
    (h : DataW.trod enc P W 0 (fun _ => true) true fuel t cs = some x) (hlt : ∀ p ∈ x.2, p.block < W.heap.size) :
    ∃ (A : Option Addr) (n cap : Nat) (bs : List UInt8), cs = [.slice A n cap] ∧ BytIn W A n cap bs := by
  rcases open_ints ht he hc h with ⟨hcs, _⟩ | ⟨a, len, cap, zs, hcs, _, hl, hm, hz, hx, hcell, hwz⟩
  · exact ⟨none, 0, 0, [], hcs, Byt.nil _ _ _, by omega, by omega⟩
  · simp only [if_true] at hz
    refine ⟨some a, len, cap, (zs.take len).map fun z => UInt8.ofNat z.toNat, hcs, ⟨by simp; omega, fun hn => ⟨a, rfl, ?_, ?_⟩⟩, hl, by unfold maxLen at hm; omega⟩
    · rw [hx] at hlt
      exact hlt (.cell a.block a.off) (MemPlace.mem_row.2 ⟨0, by omega, by simp⟩)
    · intro j b hj
      simp only [List.getElem?_map, Option.map_eq_some_iff, List.getElem?_take] at hj
      obtain ⟨z, hz1, rfl⟩ := hj
      split at hz1
      · rename_i hjl
        have hjz : j < zs.length := by omega
        have hcj := hcell j hjz
        have hzj : zs.getD j 0 = z := by simp [List.getD, hz1]
        rw [hzj] at hcj
        have hw := u8_of_wf (hwz z (List.mem_of_getElem? hz1))
        rw [hcj]
        congr 2
        simp
        omega
      · cases hz1
/-- An array of four bytes. -/
theorem arr4_cell (ht : P.underlying t = some (.array 4 e)) (he : P.underlying e = some (.int .u8)) (hc : P.cellsOf e = 1) (hl : cs.length = 4)
    (h : DataW.trod enc P W 0 (fun _ => true) true fuel t cs = some x) :
    ∃ x0 x1 x2 x3 : UInt8, cs = [.int .u8 (x0.toNat : Int), .int .u8 (x1.toNat : Int), .int .u8 (x2.toNat : Int), .int .u8 (x3.toNat : Int)] := by
  match cs, hl with
  | [c0, c1, c2, c3], _ =>
    obtain ⟨xs, m, _, _, _, hlen, hg⟩ := DataW.trod_array ht h
    have one : ∀ (i : Nat) (c : Value), i < 4 → (([c0, c1, c2, c3].drop i).take 1 = [c]) → ∃ x : UInt8, c = .int .u8 (x.toNat : Int) := by
      intro i c hi hci
      have h1 := hg i hi
      rw [hc, Nat.mul_one] at h1
      have hx : xs[i]? = some (xs[i]'(by omega)) := List.getElem?_eq_getElem (by omega)
      rw [hx, hci] at h1
      obtain ⟨z, hz, _, hw⟩ := DataW.trod_int he h1
      have hb := u8_of_wf hw
      simp only [List.cons.injEq, and_true] at hz
      refine ⟨UInt8.ofNat z.toNat, ?_⟩
      rw [hz]
      congr 1
      simp
      omega
    obtain ⟨x0, rfl⟩ := one 0 c0 (by decide) rfl
    obtain ⟨x1, rfl⟩ := one 1 c1 (by decide) rfl
    obtain ⟨x2, rfl⟩ := one 2 c2 (by decide) rfl
    obtain ⟨x3, rfl⟩ := one 3 c3 (by decide) rfl
    exact ⟨x0, x1, x2, x3, rfl⟩
end
end Go.Proofs.YthgpmnblkhehkaaDoor
/- Structs by value, opened (tools/mkopen.py). -/
namespace Go.Proofs.YthgpmnblkhehkaaDoor
open Go.ChangeShapes Go.WideShapes Go.ChangeAt Go.RowKit

section
variable {H : Type} {enc : TypeId × Value → H} {W : World}

theorem list_6 {α : Type} {l : List α} (h : l.length = 6) : ∃ c0 c1 c2 c3 c4 c5, l = [c0, c1, c2, c3, c4, c5] := by
  match l, h with
  | [c0, c1, c2, c3, c4, c5], _ => exact ⟨c0, c1, c2, c3, c4, c5, rfl⟩
set_option maxRecDepth 100000 in
theorem cells_Header {fuel : Nat} {cs : List Value} {x : DataW H × List MemPlace} (hl : cs.length = 6) (h : DataW.trod enc Tryd.prog W 0 (fun _ => true) true fuel 33 cs = some x) :
    ∃ (ve : Int) (sl : Int) (la : Int) (sq : Int) (ta : Int) (no : Int), cs = [.int .i64 ve, .int .i64 sl, .int .i64 la, .int .i64 sq, .int .i64 ta, .int .i64 no] ∧ I64b ve ∧ I64b sl ∧ I64b la ∧ I64b sq ∧ I64b ta ∧ I64b no := by
  obtain ⟨m0, y0, hy0, hs0⟩ := field_at Tryd.underlying33 h 0 _ rfl 0 1 (by kernel_rfl) (by kernel_rfl)
  obtain ⟨m1, y1, hy1, hs1⟩ := field_at Tryd.underlying33 h 1 _ rfl 1 1 (by kernel_rfl) (by kernel_rfl)
  obtain ⟨m2, y2, hy2, hs2⟩ := field_at Tryd.underlying33 h 2 _ rfl 2 1 (by kernel_rfl) (by kernel_rfl)
  obtain ⟨m3, y3, hy3, hs3⟩ := field_at Tryd.underlying33 h 3 _ rfl 3 1 (by kernel_rfl) (by kernel_rfl)
  obtain ⟨m4, y4, hy4, hs4⟩ := field_at Tryd.underlying33 h 4 _ rfl 4 1 (by kernel_rfl) (by kernel_rfl)
  obtain ⟨m5, y5, hy5, hs5⟩ := field_at Tryd.underlying33 h 5 _ rfl 5 1 (by kernel_rfl) (by kernel_rfl)
  obtain ⟨c0, c1, c2, c3, c4, c5, rfl⟩ := list_6 hl
  have hz0 : DataW.trod enc Tryd.prog W 0 (fun _ => true) true m0 3 [c0] = some y0 := hy0
  obtain ⟨ve, h0, q0⟩ := int_cell Tryd.underlying3 hz0
  have hz1 : DataW.trod enc Tryd.prog W 0 (fun _ => true) true m1 3 [c1] = some y1 := hy1
  obtain ⟨sl, h1, q1⟩ := int_cell Tryd.underlying3 hz1
  have hz2 : DataW.trod enc Tryd.prog W 0 (fun _ => true) true m2 3 [c2] = some y2 := hy2
  obtain ⟨la, h2, q2⟩ := int_cell Tryd.underlying3 hz2
  have hz3 : DataW.trod enc Tryd.prog W 0 (fun _ => true) true m3 3 [c3] = some y3 := hy3
  obtain ⟨sq, h3, q3⟩ := int_cell Tryd.underlying3 hz3
  have hz4 : DataW.trod enc Tryd.prog W 0 (fun _ => true) true m4 3 [c4] = some y4 := hy4
  obtain ⟨ta, h4, q4⟩ := int_cell Tryd.underlying3 hz4
  have hz5 : DataW.trod enc Tryd.prog W 0 (fun _ => true) true m5 3 [c5] = some y5 := hy5
  obtain ⟨no, h5, q5⟩ := int_cell Tryd.underlying3 hz5
  simp only [List.cons.injEq, and_true] at h0 h1 h2 h3 h4 h5
  obtain rfl := h0
  obtain rfl := h1
  obtain rfl := h2
  obtain rfl := h3
  obtain rfl := h4
  obtain rfl := h5
  exact ⟨ve, sl, la, sq, ta, no, rfl, q0, q1, q2, q3, q4, q5⟩
set_option maxRecDepth 100000 in
theorem open_Header {v : Value} {d : DataW H} {ps : List MemPlace} {r : Reach} {b0 : Nat} (hv : Value.okWide Tryd.prog W r b0 33 v) (h : DataW.Trod enc Tryd.prog W 0 (fun _ => true) true 33 v d ps) :
    ∃ (ve : Int) (sl : Int) (la : Int) (sq : Int) (ta : Int) (no : Int), v = .agg #[.int .i64 ve, .int .i64 sl, .int .i64 la, .int .i64 sq, .int .i64 ta, .int .i64 no] ∧ I64b ve ∧ I64b sl ∧ I64b la ∧ I64b sq ∧ I64b ta ∧ I64b no := by
  obtain ⟨cs, rfl, hsz⟩ := okWide_struct Tryd.underlying33 hv
  obtain ⟨fuel, hf⟩ := h
  obtain ⟨ve, sl, la, sq, ta, no, hcs, q0, q1, q2, q3, q4, q5⟩ := cells_Header (cs := cs.toList) (by rw [Array.length_toList, hsz]; kernel_rfl) hf
  exact ⟨ve, sl, la, sq, ta, no, by rw [← Array.toArray_toList (xs := cs), hcs], q0, q1, q2, q3, q4, q5⟩

theorem list_4 {α : Type} {l : List α} (h : l.length = 4) : ∃ c0 c1 c2 c3, l = [c0, c1, c2, c3] := by
  match l, h with
  | [c0, c1, c2, c3], _ => exact ⟨c0, c1, c2, c3, rfl⟩
set_option maxRecDepth 100000 in
theorem cells_Layout {fuel : Nat} {cs : List Value} {x : DataW H × List MemPlace} (hl : cs.length = 4) (h : DataW.trod enc Tryd.prog W 0 (fun _ => true) true fuel 24 cs = some x) :
    ∃ (id : Int) (ve : Int) (rs : Int) (rg : Int), cs = [.int .i64 id, .int .i64 ve, .int .i64 rs, .int .i64 rg] ∧ I64b id ∧ I64b ve ∧ I64b rs ∧ I64b rg := by
  obtain ⟨m0, y0, hy0, hs0⟩ := field_at Tryd.underlying24 h 0 _ rfl 0 1 (by kernel_rfl) (by kernel_rfl)
  obtain ⟨m1, y1, hy1, hs1⟩ := field_at Tryd.underlying24 h 1 _ rfl 1 1 (by kernel_rfl) (by kernel_rfl)
  obtain ⟨m2, y2, hy2, hs2⟩ := field_at Tryd.underlying24 h 2 _ rfl 2 1 (by kernel_rfl) (by kernel_rfl)
  obtain ⟨m3, y3, hy3, hs3⟩ := field_at Tryd.underlying24 h 3 _ rfl 3 1 (by kernel_rfl) (by kernel_rfl)
  obtain ⟨c0, c1, c2, c3, rfl⟩ := list_4 hl
  have hz0 : DataW.trod enc Tryd.prog W 0 (fun _ => true) true m0 3 [c0] = some y0 := hy0
  obtain ⟨id, h0, q0⟩ := int_cell Tryd.underlying3 hz0
  have hz1 : DataW.trod enc Tryd.prog W 0 (fun _ => true) true m1 3 [c1] = some y1 := hy1
  obtain ⟨ve, h1, q1⟩ := int_cell Tryd.underlying3 hz1
  have hz2 : DataW.trod enc Tryd.prog W 0 (fun _ => true) true m2 3 [c2] = some y2 := hy2
  obtain ⟨rs, h2, q2⟩ := int_cell Tryd.underlying3 hz2
  have hz3 : DataW.trod enc Tryd.prog W 0 (fun _ => true) true m3 3 [c3] = some y3 := hy3
  obtain ⟨rg, h3, q3⟩ := int_cell Tryd.underlying3 hz3
  simp only [List.cons.injEq, and_true] at h0 h1 h2 h3
  obtain rfl := h0
  obtain rfl := h1
  obtain rfl := h2
  obtain rfl := h3
  exact ⟨id, ve, rs, rg, rfl, q0, q1, q2, q3⟩
set_option maxRecDepth 100000 in
theorem open_Layout {v : Value} {d : DataW H} {ps : List MemPlace} {r : Reach} {b0 : Nat} (hv : Value.okWide Tryd.prog W r b0 24 v) (h : DataW.Trod enc Tryd.prog W 0 (fun _ => true) true 24 v d ps) :
    ∃ (id : Int) (ve : Int) (rs : Int) (rg : Int), v = .agg #[.int .i64 id, .int .i64 ve, .int .i64 rs, .int .i64 rg] ∧ I64b id ∧ I64b ve ∧ I64b rs ∧ I64b rg := by
  obtain ⟨cs, rfl, hsz⟩ := okWide_struct Tryd.underlying24 hv
  obtain ⟨fuel, hf⟩ := h
  obtain ⟨id, ve, rs, rg, hcs, q0, q1, q2, q3⟩ := cells_Layout (cs := cs.toList) (by rw [Array.length_toList, hsz]; kernel_rfl) hf
  exact ⟨id, ve, rs, rg, by rw [← Array.toArray_toList (xs := cs), hcs], q0, q1, q2, q3⟩

set_option maxRecDepth 100000 in
theorem cells_Record {fuel : Nat} {cs : List Value} {x : DataW H × List MemPlace} (hl : cs.length = 4) (h : DataW.trod enc Tryd.prog W 0 (fun _ => true) true fuel 36 cs = some x) (hlt : ∀ p ∈ x.2, p.block < W.heap.size) :
    ∃ (ki : Int) (Ak : Option Addr) (nk : Nat) (ck : Nat) (bk : List UInt8) (Av : Option Addr) (nv : Nat) (cv : Nat) (bv : List UInt8) (ex : Int), cs = [.int .i64 ki, .slice Ak nk ck, .slice Av nv cv, .int .i64 ex] ∧ I64b ki ∧ BytIn W Ak nk ck bk ∧ BytIn W Av nv cv bv ∧ I64b ex := by
  obtain ⟨m0, y0, hy0, hs0⟩ := field_at Tryd.underlying36 h 0 _ rfl 0 1 (by kernel_rfl) (by kernel_rfl)
  obtain ⟨m1, y1, hy1, hs1⟩ := field_at Tryd.underlying36 h 1 _ rfl 1 1 (by kernel_rfl) (by kernel_rfl)
  obtain ⟨m2, y2, hy2, hs2⟩ := field_at Tryd.underlying36 h 2 _ rfl 2 1 (by kernel_rfl) (by kernel_rfl)
  obtain ⟨m3, y3, hy3, hs3⟩ := field_at Tryd.underlying36 h 3 _ rfl 3 1 (by kernel_rfl) (by kernel_rfl)
  obtain ⟨c0, c1, c2, c3, rfl⟩ := list_4 hl
  have hz0 : DataW.trod enc Tryd.prog W 0 (fun _ => true) true m0 3 [c0] = some y0 := hy0
  obtain ⟨ki, h0, q0⟩ := int_cell Tryd.underlying3 hz0
  have hz1 : DataW.trod enc Tryd.prog W 0 (fun _ => true) true m1 34 [c1] = some y1 := hy1
  obtain ⟨Ak, nk, ck, bk, h1, q1⟩ := bytes_cell Tryd.underlying34 Tryd.underlying5 (by kernel_rfl) hz1 (fun p hp => hlt p (hs1 p hp))
  have hz2 : DataW.trod enc Tryd.prog W 0 (fun _ => true) true m2 34 [c2] = some y2 := hy2
  obtain ⟨Av, nv, cv, bv, h2, q2⟩ := bytes_cell Tryd.underlying34 Tryd.underlying5 (by kernel_rfl) hz2 (fun p hp => hlt p (hs2 p hp))
  have hz3 : DataW.trod enc Tryd.prog W 0 (fun _ => true) true m3 3 [c3] = some y3 := hy3
  obtain ⟨ex, h3, q3⟩ := int_cell Tryd.underlying3 hz3
  simp only [List.cons.injEq, and_true] at h0 h1 h2 h3
  obtain rfl := h0
  obtain rfl := h1
  obtain rfl := h2
  obtain rfl := h3
  exact ⟨ki, Ak, nk, ck, bk, Av, nv, cv, bv, ex, rfl, q0, q1, q2, q3⟩
set_option maxRecDepth 100000 in
theorem open_Record {v : Value} {d : DataW H} {ps : List MemPlace} {r : Reach} {b0 : Nat} (hv : Value.okWide Tryd.prog W r b0 36 v) (h : DataW.Trod enc Tryd.prog W 0 (fun _ => true) true 36 v d ps) (hlt : ∀ p ∈ ps, p.block < W.heap.size) :
    ∃ (ki : Int) (Ak : Option Addr) (nk : Nat) (ck : Nat) (bk : List UInt8) (Av : Option Addr) (nv : Nat) (cv : Nat) (bv : List UInt8) (ex : Int), v = .agg #[.int .i64 ki, .slice Ak nk ck, .slice Av nv cv, .int .i64 ex] ∧ I64b ki ∧ BytIn W Ak nk ck bk ∧ BytIn W Av nv cv bv ∧ I64b ex := by
  obtain ⟨cs, rfl, hsz⟩ := okWide_struct Tryd.underlying36 hv
  obtain ⟨fuel, hf⟩ := h
  obtain ⟨ki, Ak, nk, ck, bk, Av, nv, cv, bv, ex, hcs, q0, q1, q2, q3⟩ := cells_Record (cs := cs.toList) (by rw [Array.length_toList, hsz]; kernel_rfl) hf hlt
  exact ⟨ki, Ak, nk, ck, bk, Av, nv, cv, bv, ex, by rw [← Array.toArray_toList (xs := cs), hcs], q0, q1, q2, q3⟩

end
end Go.Proofs.YthgpmnblkhehkaaDoor
/- A slice among the arguments, element by element: of bools, of records, of layouts, of what has cells of any kind. -/
namespace Go.Proofs.YthgpmnblkhehkaaDoor
open Go.ChangeShapes Go.WideShapes Go.ChangeAt Go.RowKit Go.Deep

section
variable {H : Type} {enc : TypeId × Value → H} {P : Program} {W : World}

/-- What is true of each element's cells. -/
theorem open_elems {fuel : Nat} {t e : TypeId} {k : Nat} {cs : List Value} {x : DataW H × List MemPlace} (hk0 : 0 < k) (ht : P.underlying t = some (.slice e)) (hk : P.cellsOf e = k)
    (h : DataW.trod enc P W 0 (fun _ => true) true fuel t cs = some x) (hlt : ∀ p ∈ x.2, p.block < W.heap.size) {X : Type} (R : Addr → X → Prop)
    (each : ∀ (ad : Addr) (cs' : List Value) (n : Nat) (y : DataW H × List MemPlace), cs'.length = k → (∀ j, j < k → W.cell? (ad.add j) = cs'[j]?) → DataW.trod enc P W 0 (fun _ => true) true n e cs' = some y → (∀ p ∈ y.2, p.block < W.heap.size) → ∃ q : X, R ad q) :
    ∃ (A : Option Addr) (n cap : Nat) (xs : List X), cs = [.slice A n cap] ∧ xs.length = n ∧ n ≤ cap ∧ cap ≤ 9223372036854775807 ∧ ∀ j q, xs[j]? = some q → ∃ ad, A = some ad ∧ ad.block < W.heap.size ∧ R (ad.add (j * k)) q := by
  rcases open_slice ht h with ⟨hcs, _⟩ | ⟨a, len, cap, m, n, D, Pl, hcs, _, hl, hm, hmm, hx, hi⟩
  · exact ⟨none, 0, 0, [], hcs, rfl, by omega, by omega, fun j q hj => by simp at hj⟩
  · simp only [if_true] at hmm
    have each' : ∀ i, i < m → ∃ q : X, R (a.add (i * k)) q := by
      intro i him
      obtain ⟨cs', hc, ht'⟩ := hi i him
      rw [hk] at hc
      obtain ⟨_, hcl, hat⟩ := World.cells?_some hc
      refine each _ cs' n _ hcl hat ht' fun p hp => hlt p ?_
      rw [hx]
      exact List.mem_append_right _ (List.mem_flatMap.2 ⟨i, List.mem_range.2 him, hp⟩)
    refine ⟨some a, len, cap, (List.range len).attach.map fun i => (each' i.1 (by have := List.mem_range.1 i.2; omega)).choose, hcs, by simp, hl, by unfold maxLen at hm; omega, fun j q hj => ⟨a, rfl, ?_, ?_⟩⟩
    · have hjl : j < len := by
        have := (List.getElem?_eq_some_iff.1 hj).1
        simpa using this
      rw [hx] at hlt
      refine hlt (.cell a.block a.off) (List.mem_append_left _ (MemPlace.mem_row.2 ⟨0, ?_, by simp⟩))
      rw [hk]
      exact Nat.mul_pos (by omega) hk0
    · rw [List.getElem?_map] at hj
      obtain ⟨i, hi1, rfl⟩ := Option.map_eq_some_iff.1 hj
      have hij : i.1 = j := by
        obtain ⟨h1, h2⟩ := List.getElem?_eq_some_iff.1 hi1
        rw [← h2]
        simp
      subst hij
      exact (each' i.1 (by have := List.mem_range.1 i.2; omega)).choose_spec
/-- The same, of a value among the arguments. -/
theorem open_elems_arg {t e : TypeId} {k : Nat} {v : Value} {d : DataW H} {ps : List MemPlace} {r : Reach} {b0 : Nat} (hk0 : 0 < k) (ht : P.underlying t = some (.slice e)) (hk : P.cellsOf e = k)
    (hv : Value.okWide P W r b0 t v) (h : DataW.Trod enc P W 0 (fun _ => true) true t v d ps) (hlt : ∀ p ∈ ps, p.block < W.heap.size) {X : Type} (R : Addr → X → Prop)
    (each : ∀ (ad : Addr) (cs' : List Value) (n : Nat) (y : DataW H × List MemPlace), cs'.length = k → (∀ j, j < k → W.cell? (ad.add j) = cs'[j]?) → DataW.trod enc P W 0 (fun _ => true) true n e cs' = some y → (∀ p ∈ y.2, p.block < W.heap.size) → ∃ q : X, R ad q) :
    ∃ (A : Option Addr) (n cap : Nat) (xs : List X), v = .slice A n cap ∧ xs.length = n ∧ n ≤ cap ∧ cap ≤ 9223372036854775807 ∧ ∀ j q, xs[j]? = some q → ∃ ad, A = some ad ∧ ad.block < W.heap.size ∧ R (ad.add (j * k)) q := by
  obtain ⟨a0, len, cap, rfl⟩ := okWide_slice ht hv
  obtain ⟨fuel, hf⟩ := h
  obtain ⟨A, n, c, xs, hcs, r⟩ := open_elems (X := X) hk0 ht hk hf hlt R each
  simp only [Value.cells, List.cons.injEq, and_true] at hcs
  exact ⟨A, n, c, xs, by simpa using hcs, r⟩

theorem addr_z (a : Addr) : a.add 0 = a := by unfold Addr.add; rw [if_pos rfl]
/-- A slice of bools. -/
def BoolsIn (W : World) (A : Option Addr) (n cap : Nat) (bs : List Bool) : Prop := bs.length = n ∧ n ≤ cap ∧ cap ≤ 9223372036854775807 ∧ ∀ j b, bs[j]? = some b → ∃ ad, A = some ad ∧ ad.block < W.heap.size ∧ W.cell? (ad.add j) = some (.bool b)
theorem open_bools {t e : TypeId} {v : Value} {d : DataW H} {ps : List MemPlace} {r : Reach} {b0 : Nat} (ht : P.underlying t = some (.slice e)) (he : P.underlying e = some .bool) (hk : P.cellsOf e = 1)
    (hv : Value.okWide P W r b0 t v) (h : DataW.Trod enc P W 0 (fun _ => true) true t v d ps) (hlt : ∀ p ∈ ps, p.block < W.heap.size) :
    ∃ (A : Option Addr) (n cap : Nat) (bs : List Bool), v = .slice A n cap ∧ BoolsIn W A n cap bs := by
  obtain ⟨A, n, c, xs, hv, h1, h2, h3, h4⟩ := open_elems_arg (X := Bool) (by decide) ht hk hv h hlt (fun ad b => W.cell? ad = some (.bool b)) (fun ad cs' n y hl hc hy _ => by
    obtain ⟨b, rfl⟩ := bool_cell he hy
    exact ⟨b, by have := hc 0 (by decide); rw [addr_z] at this; simpa using this⟩)
  exact ⟨A, n, c, xs, hv, h1, h2, h3, fun j b hj => by simpa using h4 j b hj⟩
end
end Go.Proofs.YthgpmnblkhehkaaDoor
/- Region calls among the arguments. -/
namespace Go.Proofs.YthgpmnblkhehkaaDoor
open Go.ChangeShapes Go.WideShapes Go.ChangeAt Go.RowKit

section
variable {H : Type} {enc : TypeId × Value → H} {W : World}
theorem list_7 {α : Type} {l : List α} (h : l.length = 7) : ∃ c0 c1 c2 c3 c4 c5 c6, l = [c0, c1, c2, c3, c4, c5, c6] := by
  match l, h with
  | [c0, c1, c2, c3, c4, c5, c6], _ => exact ⟨c0, c1, c2, c3, c4, c5, c6, rfl⟩
set_option maxRecDepth 100000 in
/-- The cells of a call. -/
theorem op_at {n : Nat} {ad : Addr} {cs' : List Value} {y : DataW H × List MemPlace} (hl : cs'.length = 7) (hc : ∀ j, j < 7 → W.cell? (ad.add j) = cs'[j]?) (hy : DataW.trod enc Tryd.prog W 0 (fun _ => true) true n 38 cs' = some y)
    (hlt : ∀ p ∈ y.2, p.block < W.heap.size) : ∃ o : Op7, Op7At W W.heap.size ad o := by
  obtain ⟨m0, y0, hy0, hs0⟩ := field_at Tryd.underlying38 hy 0 _ rfl 0 1 (by kernel_rfl) (by kernel_rfl)
  obtain ⟨m1, y1, hy1, hs1⟩ := field_at Tryd.underlying38 hy 1 _ rfl 1 4 (by kernel_rfl) (by kernel_rfl)
  obtain ⟨m2, y2, hy2, hs2⟩ := field_at Tryd.underlying38 hy 2 _ rfl 5 1 (by kernel_rfl) (by kernel_rfl)
  obtain ⟨m3, y3, hy3, hs3⟩ := field_at Tryd.underlying38 hy 3 _ rfl 6 1 (by kernel_rfl) (by kernel_rfl)
  obtain ⟨c0, c1, c2, c3, c4, c5, c6, rfl⟩ := list_7 hl
  have hz0 : DataW.trod enc Tryd.prog W 0 (fun _ => true) true m0 3 [c0] = some y0 := hy0
  obtain ⟨kd, h0, q0⟩ := int_cell Tryd.underlying3 hz0
  have hz1 : DataW.trod enc Tryd.prog W 0 (fun _ => true) true m1 36 [c1, c2, c3, c4] = some y1 := hy1
  obtain ⟨ki, Ak, nk, ck, bk, Av, nv, cv, bv, ex, h1, q1, q2, q3, q4⟩ := cells_Record rfl hz1 (fun p hp => hlt p (hs1 p hp))
  have hz2 : DataW.trod enc Tryd.prog W 0 (fun _ => true) true m2 3 [c5] = some y2 := hy2
  obtain ⟨of, h2, q5⟩ := int_cell Tryd.underlying3 hz2
  have hz3 : DataW.trod enc Tryd.prog W 0 (fun _ => true) true m3 3 [c6] = some y3 := hy3
  obtain ⟨nn, h3, q6⟩ := int_cell Tryd.underlying3 hz3
  simp only [List.cons.injEq, and_true] at h0 h1 h2 h3
  obtain rfl := h0
  obtain ⟨rfl, rfl, rfl, rfl⟩ := h1
  obtain rfl := h2
  obtain rfl := h3
  refine ⟨⟨kd, ⟨ki, Ak, nk, ck, bk, Av, nv, cv, bv, ex⟩, of, nn⟩, ?_, ?_, ?_, ?_, ?_, ?_, ?_, q2.1, q3.1, ⟨q1, q4, q2.2.1, q2.2.2, q3.2.1, q3.2.2⟩, q0, q5, q6⟩
  · have := hc 0 (by decide); rw [addr_z] at this; simpa using this
  · have := hc 1 (by decide); simpa [Addr.add] using this
  · have := hc 2 (by decide); simpa [Addr.add] using this
  · have := hc 3 (by decide); simpa [Addr.add] using this
  · have := hc 4 (by decide); simpa [Addr.add] using this
  · have := hc 5 (by decide); simpa [Addr.add] using this
  · have := hc 6 (by decide); simpa [Addr.add] using this
set_option maxRecDepth 100000 in
theorem open_ops {v : Value} {d : DataW H} {ps : List MemPlace} {r : Reach} {b0 : Nat} (hv : Value.okWide Tryd.prog W r b0 22 v) (h : DataW.Trod enc Tryd.prog W 0 (fun _ => true) true 22 v d ps) (hlt : ∀ p ∈ ps, p.block < W.heap.size) :
    ∃ (A : Option Addr) (n cap : Nat) (os : List Op7), v = .slice A n cap ∧ OAt W W.heap.size A n os ∧ n ≤ cap ∧ cap ≤ 9223372036854775807 := by
  obtain ⟨A, n, c, xs, hv, h1, h2, h3, h4⟩ := open_elems_arg (X := Op7) (by decide) Tryd.underlying22 (by kernel_rfl) hv h hlt (fun ad o => Op7At W W.heap.size ad o) (fun ad cs' n y hl hc hy hp => op_at hl hc hy hp)
  exact ⟨A, n, c, xs, hv, ⟨h1, h4⟩, h2, h3⟩
end
end Go.Proofs.YthgpmnblkhehkaaDoor
/- A region's script, opened. -/
namespace Go.Proofs.YthgpmnblkhehkaaDoor
open Go.ChangeShapes Go.WideShapes Go.ChangeAt Go.RowKit

section
variable {H : Type} {enc : TypeId × Value → H} {W : World}
theorem list_5 {α : Type} {l : List α} (h : l.length = 5) : ∃ c0 c1 c2 c3 c4, l = [c0, c1, c2, c3, c4] := by
  match l, h with
  | [c0, c1, c2, c3, c4], _ => exact ⟨c0, c1, c2, c3, c4, rfl⟩
set_option maxRecDepth 100000 in
theorem open_RScript {v : Value} {d : DataW H} {ps : List MemPlace} {r : Reach} {b0 : Nat} (hv : Value.okWide Tryd.prog W r b0 52 v) (h : DataW.Trod enc Tryd.prog W 0 (fun _ => true) true 52 v d ps) (hlt : ∀ p ∈ ps, p.block < W.heap.size) :
    ∃ (ve lo sl fu : Int) (Ao : Option Addr) (no co : Nat) (os : List Op7), v = .agg #[.int .i64 ve, .int .i64 lo, .int .i64 sl, .slice Ao no co, .int .i64 fu] ∧ OAt W W.heap.size Ao no os ∧ no ≤ co ∧ co ≤ 9223372036854775807 := by
  obtain ⟨cs, rfl, hsz⟩ := okWide_struct Tryd.underlying52 hv
  obtain ⟨fuel, hf⟩ := h
  obtain ⟨m0, y0, hy0, hs0⟩ := field_at Tryd.underlying52 hf 0 _ rfl 0 1 (by kernel_rfl) (by kernel_rfl)
  obtain ⟨m1, y1, hy1, hs1⟩ := field_at Tryd.underlying52 hf 1 _ rfl 1 1 (by kernel_rfl) (by kernel_rfl)
  obtain ⟨m2, y2, hy2, hs2⟩ := field_at Tryd.underlying52 hf 2 _ rfl 2 1 (by kernel_rfl) (by kernel_rfl)
  obtain ⟨m3, y3, hy3, hs3⟩ := field_at Tryd.underlying52 hf 3 _ rfl 3 1 (by kernel_rfl) (by kernel_rfl)
  obtain ⟨m4, y4, hy4, hs4⟩ := field_at Tryd.underlying52 hf 4 _ rfl 4 1 (by kernel_rfl) (by kernel_rfl)
  obtain ⟨c0, c1, c2, c3, c4, hcs⟩ := list_5 (l := cs.toList) (by rw [Array.length_toList, hsz]; kernel_rfl)
  rw [Value.cells, hcs] at hy0 hy1 hy2 hy3 hy4
  have hz0 : DataW.trod enc Tryd.prog W 0 (fun _ => true) true m0 3 [c0] = some y0 := hy0
  obtain ⟨ve, h0, q0⟩ := int_cell Tryd.underlying3 hz0
  have hz1 : DataW.trod enc Tryd.prog W 0 (fun _ => true) true m1 3 [c1] = some y1 := hy1
  obtain ⟨lo, h1, q1⟩ := int_cell Tryd.underlying3 hz1
  have hz2 : DataW.trod enc Tryd.prog W 0 (fun _ => true) true m2 3 [c2] = some y2 := hy2
  obtain ⟨sl, h2, q2⟩ := int_cell Tryd.underlying3 hz2
  have hz3 : DataW.trod enc Tryd.prog W 0 (fun _ => true) true m3 22 [c3] = some y3 := hy3
  obtain ⟨Ao, no, co, os, h3, e1, e2, e3, e4⟩ := open_elems (X := Op7) (by decide) Tryd.underlying22 (by kernel_rfl) hz3 (fun p hp => hlt p (hs3 p hp)) (fun ad o => Op7At W W.heap.size ad o) (fun ad cs' n y hl hc hy hp => op_at hl hc hy hp)
  have hz4 : DataW.trod enc Tryd.prog W 0 (fun _ => true) true m4 3 [c4] = some y4 := hy4
  obtain ⟨fu, h4, q4⟩ := int_cell Tryd.underlying3 hz4
  simp only [List.cons.injEq, and_true] at h0 h1 h2 h3 h4
  obtain rfl := h0
  obtain rfl := h1
  obtain rfl := h2
  obtain rfl := h3
  obtain rfl := h4
  exact ⟨ve, lo, sl, fu, Ao, no, co, os, by rw [← Array.toArray_toList (xs := cs), hcs], ⟨e1, e4⟩, e2, e3⟩
end
end Go.Proofs.YthgpmnblkhehkaaDoor
