/- PackerRecords: for every input the law returns true and leaves its arguments as they were: the row and its tied card. -/
import Derived.Test.YtecmopfaeopmdaaDoorRows
import Derived.Test.YtecmopfaeopmdaaDoorMem
import Derived.ProofKit
import Derived.SizedLaws
import Derived.Carry
import Derived.Test.YtecmopfaeopmdaaDoorCrcWalks
import Derived.Lib.LaidTab
import Derived.LaidMore
import Derived.OpenShut
import Derived.Stop.Joined
import Derived.Test.YtecmopfaeopmdaaDoorPackRef
import Derived.Deep.DeepCutAuto
import Derived.Deep.RegionHeld3
import Derived.Test.YtecmopfaeopmdaaDoorWireWalks
import Derived.Test.YtecmopfaeopmdaaDoorCells
import Derived.Test.YtecmopfaeopmdaaDoorFormRef
import Derived.Test.YtecmopfaeopmdaaDoorVec
import Derived.Test.YtecmopfaeopmdaaDoorPackTakes
import Derived.Test.YtecmopfaeopmdaaDoorRegInv
import Derived.Test.YtecmopfaeopmdaaDoorRefRDec2
import Derived.Test.YtecmopfaeopmdaaDoorPackAwake
import Derived.Test.YtecmopfaeopmdaaDoorRecEq
import Derived.Test.YtecmopfaeopmdaaDoorShort
import Derived.Test.YtecmopfaeopmdaaDoorRecs
import Derived.Deep.CutBlock
import Derived.ChangeArms
import Derived.Deep.Slices
import Derived.Test.YtecmopfaeopmdaaDoorCards
import Derived.Test.YtecmopfaeopmdaaDoorTie
import Derived.SevenTiedAt
/- The shell of a law's statement: what the walk leaves is what the row asks; a slice of bytes among the arguments. -/
namespace Go.Proofs.YtecmopfaeopmdaaDoor
open Go.ChangeShapes Go.WideShapes Go.ChangeAt Go.RowKit

theorem Tryd.own : ownKnob Tryd.prog.godebug = none := by kernel_rfl
theorem Tryd.laidOut : laidOutB Tryd.prog = true := by kernel_rfl

section
variable {H : Type} {enc : TypeId × Value → H} {P : Program}

theorem trodAll_stays (hl : laidOutB P = true) {W W' : World} {sp' : Nat → Bool} : ∀ {ts : List TypeId} {vs : List Value} {ds : List (DataW H)} {ps : List MemPlace},
    (∀ t ∈ ts, P.readableRec t = true ∧ t < P.types.size) → DataW.TrodAll enc P W 0 (fun _ => true) true ts vs ds ps → (∀ p ∈ ps, W.sameAt W' p) → (∀ p ∈ ps, sp' p.block = true) →
    DataW.TrodAll enc P W' 0 sp' true ts vs ds ps
  | [], [], [], ps, _, h, _, _ => h
  | [], [], _ :: _, _, _, h, _, _ => by cases h
  | [], _ :: _, _, _, _, h, _, _ => by cases h
  | _ :: _, [], _, _, _, h, _, _ => by cases h
  | _ :: _, _ :: _, [], _, _, h, _, _ => by cases h
  | t :: ts, v :: vs, d :: ds, ps, hr, h, hsame, hs => by
    obtain ⟨p, q, h1, h2, rfl⟩ := h
    have hr0 := hr t (by simp)
    exact ⟨p, q, WideElems.Trod_stays hl hr0.1 hr0.2 h1 (fun x hx => hsame x (by simp [hx])) (fun x hx => hs x (by simp [hx])),
      trodAll_stays hl (fun t' ht' => hr t' (by simp [ht'])) h2 (fun x hx => hsame x (by simp [hx])) (fun x hx => hs x (by simp [hx])), rfl⟩

/-- The law returned true, and nothing that was there has turned: what the row asks. -/
theorem post_law {f : Func} {s : ChangeSpec} {W W' : World} {args : Array Value} {ds gs : List (DataW H)} {before : List MemPlace} {tb : TypeId}
    (hl : laidOutB P = true) (hr : ∀ t ∈ f.params.toList, P.readableRec t = true ∧ t < P.types.size) (hb0 : P.underlying tb = some .bool)
    (hres : f.resultTypes = #[tb]) (hvs : s.vars = []) (hspec : (s.fn H (ds ++ gs)).results = [.lit (.bool true)] ∧ (s.fn H (ds ++ gs)).args = ds ∧ (s.fn H (ds ++ gs)).vars = [])
    (hW : DataW.Whole enc P f.params.toList s.vars false W args.toList ds gs before) (hb : Below W.heap.size W W') :
    s.post enc P f false true false false W args (.bool true) W' := by
  have hlt : ∀ p ∈ before, p.block < W.heap.size := fun p hp => hW.lt p hp
  have hW' := hW
  obtain ⟨p, q, hA, hV, rfl, _, _⟩ := hW
  refine ⟨_, _, _, [], p, [], hW', ?_, ?_, ?_, hb.frame _, fun h => by cases h⟩
  · rw [hspec.1, hres]
    exact trodAll_mk1 (shut_bool hb0 true)
  · rw [hspec.2.1]
    exact trodAll_stays hl hr hA (fun x hx => hb.same (hlt x (by simp [hx]))) (fun x hx => by have := hlt x (by simp [hx]); simpa using this)
  · rw [hspec.2.2, hvs]
    exact rfl

theorem u8_of_wf {z : Int} (h : (Lit.int .u8 z).wf = true) : 0 ≤ z ∧ z < 256 := by
  simp [Lit.wf, IntKind.min, IntKind.max, IntKind.signed, IntKind.bits] at h
  omega
theorem u32_of_wf {z : Int} (h : (Lit.int .u32 z).wf = true) : ∃ n : Nat, z = n ∧ n < 4294967296 := by
  simp [Lit.wf, IntKind.min, IntKind.max, IntKind.signed, IntKind.bits] at h
  exact ⟨z.toNat, by omega, by omega⟩
theorem u64_of_wf {z : Int} (h : (Lit.int .u64 z).wf = true) : ∃ n : Nat, z = n ∧ n < 18446744073709551616 := by
  simp [Lit.wf, IntKind.min, IntKind.max, IntKind.signed, IntKind.bits] at h
  exact ⟨z.toNat, by omega, by omega⟩
theorem i64_of_wf {z : Int} (h : (Lit.int .i64 z).wf = true) : -9223372036854775808 ≤ z ∧ z ≤ 9223372036854775807 := by
  simp [Lit.wf, IntKind.min, IntKind.max, IntKind.signed, IntKind.bits] at h
  omega

/-- A slice of bytes among the arguments: nil or not, it reads as bytes. -/
theorem open_bytes {t e : TypeId} {W : World} {v : Value} {d : DataW H} {ps : List MemPlace} {r : Reach} {b0 : Nat} (ht : P.underlying t = some (.slice e)) (he : P.underlying e = some (.int .u8)) (hc : P.cellsOf e = 1)
    (hv : Value.okWide P W r b0 t v) (h : DataW.Trod enc P W 0 (fun _ => true) true t v d ps) (hlt : ∀ p ∈ ps, p.block < W.heap.size) :
    ∃ (A : Option Addr) (n cap : Nat) (bs : List UInt8), v = .slice A n cap ∧ Byt W W.heap.size A n bs ∧ n ≤ cap ∧ cap ≤ 9223372036854775807 ∧ (A = none → cap = 0) := by
  obtain ⟨a0, len, cap, rfl⟩ := okWide_slice ht hv
  obtain ⟨fuel, hf⟩ := h
  rcases open_ints ht he hc hf with ⟨hcs, _⟩ | ⟨a, len', cap', zs, hcs, _, hl, hm, hz, hx, hcell, hwz⟩
  · simp [Value.cells] at hcs
    obtain ⟨rfl, rfl, rfl⟩ := hcs
    exact ⟨none, 0, 0, [], rfl, Byt.nil _ _ _, by omega, by omega, fun _ => rfl⟩
  · simp [Value.cells] at hcs
    obtain ⟨rfl, rfl, rfl⟩ := hcs
    simp only [if_true] at hz
    refine ⟨some a, len, cap, (zs.take len).map fun z => UInt8.ofNat z.toNat, rfl, ⟨by simp; omega, fun hn => ⟨a, rfl, ?_, ?_⟩⟩, hl, by unfold maxLen at hm; omega, fun h => by cases h⟩
    · simp only [Prod.mk.injEq] at hx
      obtain ⟨_, rfl⟩ := hx
      have := hlt (.cell a.block a.off) (MemPlace.mem_row.2 ⟨0, by omega, by simp⟩)
      exact this
    · intro j b hj
      simp only [List.getElem?_map, Option.map_eq_some_iff, List.getElem?_take] at hj
      obtain ⟨z, hz1, rfl⟩ := hj
      split at hz1
      · rename_i hjl
        have hjz : j < zs.length := by omega
        have hcj := hcell j hjz
        have hzj : zs.getD j 0 = z := by simp [List.getD, hz1]
        rw [hzj] at hcj
        have hw := u8_of_wf (hwz z (List.mem_of_getElem? hz1))
        rw [hcj]
        congr 2
        simp
        omega
      · cases hz1
end
end Go.Proofs.YtecmopfaeopmdaaDoor
/- What the tied condition gives: the table's cells; a world that meets it. -/
namespace Go.Proofs.YtecmopfaeopmdaaDoor
open Go.ChangeShapes Go.WideShapes Go.ChangeAt Go.RowKit

/-- What the rows list. -/
def laidList {H : Type} : List (String × DataW H) := [("flashcache/crc.table", Rows.laid_flashcache_crc_table)]
theorem gTable : Tryd.prog.globalNamed "flashcache/crc.table" = some 0 := by kernel_rfl
theorem tTable : (Tryd.prog.globals[0]?).map (·.type) = some 88 := by kernel_rfl
theorem c32 : Tryd.prog.cellsOf 79 = 1 := by kernel_rfl
theorem c16 : Tryd.prog.cellsOf 88 = 16 := by kernel_rfl

theorem door_met (os : Os) (args : Array Value) : laidMetH Tryd.prog laidList ((World.doorLaid Tryd.prog 400 os).forCall (fun _ _ => 0) ⟨#[], args, []⟩).memory :=
  laidMetH_of_parts3 (fuel := 8) (laidMet_of_run' 8 (by kernel_rfl) (by kernel_rfl)) (by kernel_rfl) (by kernel_rfl)

theorem tab_of_laid {W : World} (h : laidMetH Tryd.prog laidList W) : TabAt W := by
  rw [MakeChecks.laidMetH_plain _ _ _ (by kernel_rfl)] at h
  have ht : Lib.TabIs Tryd.prog W "flashcache/crc.table" .u32 (Crc.tab.map fun n : Nat => (n : Int)) :=
    Lib.tabIs_of_head (rest := []) gTable tTable Tryd.underlying88 Tryd.underlying79 c32 c16 h
  intro i hi
  have hc := World.var?_cell gTable ht i
  rw [hc]
  simp only [List.getElem?_toArray, List.getElem?_map]
  have hl : i < Crc.tab.length := hi
  rw [List.getElem?_eq_getElem hl]
  simp [List.getD, List.getElem?_eq_getElem hl]

theorem size_of_tab {W : World} (h : TabAt W) : 0 < W.heap.size := by
  have h0 := h 0 (by decide)
  rcases Nat.lt_or_ge 0 W.heap.size with hlt | hge
  · omega
  · simp [World.cell?, Array.getElem?_eq_none hge] at h0
end Go.Proofs.YtecmopfaeopmdaaDoor
/- The reference's packer: Pad, Take. -/
namespace Go.Proofs.YtecmopfaeopmdaaDoor
open Go.RowKit

set_option maxRecDepth 100000 in
set_option maxHeartbeats 4000000 in
theorem rpad_any (a b c d f s tk : Int) (p : Nat) (A : Option Addr) (n cap : Nat) (bs : List UInt8) (hn : n ≤ 1000000) (w : World) (hP : Pk w p a b c d f s A n cap tk bs) :
    Calls Tryd.prog 22 #[.pointer (some ⟨p, 0, none⟩)] w fun e w' => e = .returned (.tuple #[]) ∧ ∃ A' cap', Pg w w' p a b c d f s A n cap A' (n + padK n) cap' tk (bs ++ List.replicate (padK n) 0) := by
  have HP := Lib.hid hP
  have hlt := hP.cells.lt
  clear hP
  go_enter Tryd.func22, Tryd.ntmps22
  go_wp2
  go_loopw [] (fun wr => ∃ k A' cap', k ≤ padK n ∧ Pg w wr p a b c d f s A n cap A' (n + k) cap' tk (bs ++ List.replicate k 0)) (fun wr => match wr.cell? ⟨p, 6, none⟩ with | some (.slice _ k _) => n + 59 - k | _ => 0)
  case atStart => exact ⟨0, A, cap, Nat.zero_le _, ⟨by simpa using HP.out, Far.of_below (Below.refl _ _) _ _, Born.refl _ _⟩⟩
  case round =>
    obtain ⟨k, A1, c1, hk, hg⟩ := hrel
    have HG := Lib.hid hg
    have l6 := hg.pk.cells 6 _ rfl
    have f6 := hg.pk.soft 6
    clear hg
    have hk59 := padK_lt n
    by_cases hz : (n + k) % 59 = 0
    · have hr : ((n : Int) + (k : Int)) % 59 = 0 := by omega
      obtain rfl := padK_end hk hz
      go_wp2
      refine bodyPost_end (v := .tuple #[]) (results_none rfl _ _ _) rfl ?_
      exact ⟨rfl, A1, c1, HG.out⟩
    · have hr : ¬ ((n : Int) + (k : Int)) % 59 = 0 := by omega
      have hr2 : (((n : Int) + (k : Int)) % 59 != 0) = true := by simpa using hr
      have HK1 := Lib.hid (padK_step hk hz)
      clear hz
      have hplt := HG.out.pk.cells.lt
      have HNP : Hid (¬ some p = (Value.slice A1 (n + k) c1).ownBlock) := fun e => by have := HG.out.pk.own.ge e.symm; omega
      have HAL : Hid (Below wr.heap.size wr (wr.alloc (.cells #[.int .u8 0] 5))) := (Below.refl _ _).alloc (Nat.le_refl _) _
      have HPA := Lib.hid (HG.out.pk.below HAL.out)
      have hn6 : n + k ≤ 2000000 := by omega
      have hM : wr.cell? ⟨p, 6, none⟩ = some (Value.slice A1 (n + k) c1) := l6
      go_wp2_with (at_builtin; refine wpList_append_at rfl Tryd.u8w (.tmp 13) (.tmp 14) rfl rfl HPA.out.own rfl (Byt.new wr #[.int .u8 0] _ (0, 0) [0] rfl) ?_ ?_ ?_; ((try simp only [List.length_cons, List.length_nil]); omega); exact Nat.le_trans hplt HAL.out.size; intro A5 c5 w5 hown5 hgr5 hat5; have hpb := hgr5.block p (Nat.lt_of_lt_of_le hplt HAL.out.size) HNP.out; have HF5 := Lib.hid ((HG.out.far.later HAL.out).grow HG.out.born hgr5); have HBo5 := Lib.hid (HG.out.born.step (Nat.le_trans HG.out.far.size HAL.out.size) hat5); have HO5 := Lib.hid hown5; have HC5 := Lib.hid (HPA.out.cells.same hpb); have HS5 := Lib.hid (HPA.out.soft.same hpb); have q6 := HC5.out 6 _ rfl; have g6 := HS5.out 6; clear hown5 hgr5 hat5 hpb)
      go_roundw
      case rel => exact ⟨k + 1, A5, c5, HK1.out, ⟨⟨HC5.out.set 6 _, HS5.out.set _ _, by rw [← rep_more]; exact HO5.out.set (by omega) _⟩, HF5.out.set 6 _, HBo5.out⟩⟩
      case measure =>
        rw [hM, World.cell?_setCell_same _ _ _ q6]
        simp only
        omega

/-- Where the reference's Take stands: ks sectors, kf frames. -/
structure Rt (w wr : World) (p : Nat) (a b c d sl f s : Int) (A : Option Addr) (n cap t : Nat) (tv : Int) (bs : List UInt8) (ks : Nat) (A2 : Option Addr) (c2 kf : Nat) (A3 : Option Addr) (c3 : Nat) (vs : List Value) : Prop where
  pk : Pk wr p a b c d sl s A n cap tv bs
  far : Far w wr p none
  sec : Vec wr w.heap.size 3 (.slice A2 ks c2) ks (ints (sectS f t ks))
  fra : Vec wr w.heap.size 31 (.slice A3 kf c3) kf vs
  frs : FrsAt wr (fun g => g < w.heap.size ∨ some g = (Value.slice A2 ks c2).ownBlock ∨ some g = (Value.slice A3 kf c3).ownBlock) vs (framS f s bs t kf)
  apart : ∀ g, (Value.slice A2 ks c2).ownBlock = some g → ¬ (Value.slice A3 kf c3).ownBlock = some g
section
variable {w wr w' : World} {p : Nat} {a b c d sl f s tv : Int} {A : Option Addr} {n cap t : Nat} {bs : List UInt8} {ks kf : Nat} {A2 : Option Addr} {c2 : Nat} {A3 : Option Addr} {c3 : Nat} {vs : List Value} {A5 A6 : Option Addr} {c5 c6 : Nat}
theorem Rt.later (h : Rt w wr p a b c d sl f s A n cap t tv bs ks A2 c2 kf A3 c3 vs) (hb : Below wr.heap.size wr w') : Rt w w' p a b c d sl f s A n cap t tv bs ks A2 c2 kf A3 c3 vs :=
  ⟨h.pk.below hb, h.far.later hb, h.sec.keep hb, h.fra.keep hb, h.frs.keep hb.size (fun j hj _ => hb.block j hj) (fun _ _ h => h), h.apart⟩
theorem Rt.sector (h : Rt w wr p a b c d sl f s A n cap t tv bs ks A2 c2 kf A3 c3 vs) (hp : p < w.heap.size) (hA : ∀ g, (Value.slice A n cap).ownBlock = some g → g < w.heap.size)
    (hv : Vec w' w.heap.size 3 (.slice A6 (ks + 1) c6) (ks + 1) (ints (sectS f t ks) ++ [.int .i64 (f + 1 + ((t + ks : Nat) : Int))])) (hg : wr.grownBy w' (Value.slice A2 ks c2).ownBlock)
    (ha : (Value.slice A6 (ks + 1) c6).ownBlock = (Value.slice A2 ks c2).ownBlock ∨ (Value.slice A6 (ks + 1) c6).ownBlock = some wr.heap.size) : Rt w w' p a b c d sl f s A n cap t tv bs (ks + 1) A6 c6 kf A3 c3 vs := by
  have hge : ∀ g, (Value.slice A2 ks c2).ownBlock = some g → w.heap.size ≤ g := fun g e => h.sec.ge e
  refine ⟨h.pk.grown hg (fun e => by have := hge _ e; omega) (fun g e e' => by have := hge _ e'; have := hA g e; omega), h.far.grow (.inr hge) hg, by rw [← sectS_more]; exact hv, h.fra.same fun g e => hg.block g (h.fra.lt e) (fun e' => h.apart g e'.symm e), ?_, ?_⟩
  · refine h.frs.keep hg.size (fun k hk hn => hg.block k hk (fun e => hn (.inr (.inl e)))) (fun k hk hl => ?_)
    rcases hl with hl | hl | hl
    · exact .inl hl
    · rcases ha with e | e
      · rw [e] at hl; exact .inr (.inl hl)
      · rw [e] at hl; injection hl with hl; omega
    · exact .inr (.inr hl)
  · intro g e e'
    rcases ha with h6 | h6
    · rw [h6] at e; exact h.apart g e e'
    · rw [h6] at e; injection e with e; have := h.fra.lt e'; omega
theorem Rt.frame {fr : List UInt8} {g5 : Nat} (h : Rt w wr p a b c d sl f s A n cap t tv bs ks A2 c2 kf A3 c3 vs) (hp : p < w.heap.size) (hA : ∀ g, (Value.slice A n cap).ownBlock = some g → g < w.heap.size)
    (h5 : Byt wr wr.heap.size (some ⟨g5, 0, none⟩) 64 fr) (hc5 : 64 ≤ c5) (hc5' : c5 ≤ 9223372036854775807) (hg5 : w.heap.size ≤ g5) (hg5' : g5 < wr.heap.size) (hn2 : ¬ some g5 = (Value.slice A2 ks c2).ownBlock) (hn3 : ¬ some g5 = (Value.slice A3 kf c3).ownBlock)
    (hfr : frame 2 s.toNat (f + 1 + ((t + kf : Nat) : Int)).toNat (chunk bs (t + kf)) = fr)
    (hv : Vec w' w.heap.size 31 (.slice A6 (kf + 1) c6) (kf + 1) (vs ++ [.slice (some ⟨g5, 0, none⟩) 64 c5])) (hg : wr.grownBy w' (Value.slice A3 kf c3).ownBlock)
    (ha : (Value.slice A6 (kf + 1) c6).ownBlock = (Value.slice A3 kf c3).ownBlock ∨ (Value.slice A6 (kf + 1) c6).ownBlock = some wr.heap.size) : Rt w w' p a b c d sl f s A n cap t tv bs ks A2 c2 (kf + 1) A6 c6 (vs ++ [.slice (some ⟨g5, 0, none⟩) 64 c5]) := by
  have hge : ∀ g, (Value.slice A3 kf c3).ownBlock = some g → w.heap.size ≤ g := fun g e => h.fra.ge e
  refine ⟨h.pk.grown hg (fun e => by have := hge _ e; omega) (fun g e e' => by have := hge _ e'; have := hA g e; omega), h.far.grow (.inr hge) hg, h.sec.same fun g e => hg.block g (h.sec.lt e) (fun e' => h.apart g e e'.symm), hv, ?_, ?_⟩
  · have l5 := h5.len
    have hs := h.frs.snoc (g := g5) (c := c5) (b := fr) (by omega) hc5' hg5' (fun hl => by
      rcases hl with hl | hl | hl
      · omega
      · exact hn2 hl
      · exact hn3 hl) (by rw [l5]; exact h5)
    rw [l5, ← hfr, framS_more] at hs
    refine hs.keep hg.size (fun k hk hn => hg.block k hk (fun e => hn (.inr (.inr e)))) (fun k hk hl => ?_)
    rcases hl with hl | hl | hl
    · exact .inl hl
    · exact .inr (.inl hl)
    · rcases ha with e | e
      · rw [e] at hl; exact .inr (.inr hl)
      · rw [e] at hl; injection hl with hl; omega
  · intro g e e'
    rcases ha with h6 | h6
    · rw [h6] at e'; exact h.apart g e e'
    · rw [h6] at e'; injection e' with e'; have := h.sec.lt e; omega
theorem Rt.tick (h : Rt w wr p a b c d sl f s A n cap t tv bs ks A2 c2 kf A3 c3 vs) (hp : p < w.heap.size) (v : Int) : Rt w (wr.setCell ⟨p, 7, none⟩ (.int .i64 v)) p a b c d sl f s A n cap t v bs ks A2 c2 kf A3 c3 vs :=
  ⟨⟨h.pk.cells.set 7 _, h.pk.soft.set _ _, h.pk.own.set (by omega) _⟩, h.far.set 7 _, h.sec.set hp _, h.fra.set hp _, h.frs.keep (by simp [World.setCell]) (fun j hj hn => Below.heap_setCell _ _ _ _ (fun e => hn (.inl (by rw [e]; exact hp)))) (fun _ _ h => h), h.apart⟩
end
end Go.Proofs.YtecmopfaeopmdaaDoor
/- The reference's packer: the walk of Take. -/
namespace Go.Proofs.YtecmopfaeopmdaaDoor
open Go.RowKit Go.Sort

set_option maxRecDepth 100000 in
set_option maxHeartbeats 8000000 in
theorem rtake_any (a b c d : Int) (sl : Nat) (s : Int) (t p : Nat) (A : Option Addr) (n cap : Nat) (bs : List UInt8) (hn : n ≤ 1000000) (hf : form a b c d = true) (hsl : (sl : Int) < d) (hs0 : 0 ≤ s) (hs : s ≤ 281474976710655) (htk : t * 59 ≤ n) (N : Nat) (hN1 : (t + N) * 59 ≤ n) (hN2 : n < (t + N + 1) * 59) (w : World) (hP : Pk w p a b c d (sl : Int) s A n cap (t : Int) bs) :
    Calls Tryd.prog 23 #[.pointer (some ⟨p, 0, none⟩)] w fun e w' => ∃ A2 c2 A3 c3 vs, e = .returned (.tuple #[.slice A2 N c2, .slice A3 N c3]) ∧ Rt w w' p a b c d (sl : Int) (74 + sl * c) s A n cap t ((t + N : Nat) : Int) bs N A2 c2 N A3 c3 vs := by
  have HP := Lib.hid hP
  have hlt := hP.cells.lt
  obtain ⟨A', cap', hAe, hncap, hcap⟩ := hP.own.form
  injection hAe with e1 e2 e3
  subst e1; subst e3
  clear e2
  obtain ⟨_, _, _, h1, h2, _, d1, d2⟩ := form_true hf
  have m1 : 0 ≤ (sl : Int) * c := Int.mul_nonneg (by omega) (by omega)
  have m2 : (sl : Int) * c ≤ 15 * 2048 := Int.mul_le_mul (by omega) h2 (by omega) (by omega)
  obtain ⟨q, hq⟩ : ∃ q, (sl : Int) * c = q := ⟨_, rfl⟩
  rw [hq] at m1 m2 ⊢
  have HQ := Lib.hid hq
  have m2' : q ≤ 30720 := by omega
  clear hq hP hf m2
  go_enter Tryd.func23, Tryd.ntmps23
  go_wp2
  go_loopw [4, 5] (fun x y wr => ∃ k A2 c2 A3 c3 vs, x = .slice A2 k c2 ∧ y = .slice A3 k c3 ∧ k ≤ N ∧ Rt w wr p a b c d (sl : Int) (74 + q) s A n cap t ((t + k : Nat) : Int) bs k A2 c2 k A3 c3 vs) (fun x _ _ => match x with | .slice _ k _ => N - k | _ => 0)
  case atStart =>
    exact ⟨0, none, 0, none, 0, [], rfl, rfl, Nat.zero_le _, ⟨by simpa using HP.out, Far.of_below (Below.refl _ _) _ _, Vec.nil _ _ _, Vec.nil _ _ _, FrsAt.nil _ _, fun g h => by simp [Value.ownBlock] at h⟩⟩
  case round =>
    obtain ⟨k, A2, c2, A3, c3, vs, rfl, rfl, hk, hg⟩ := hrel
    obtain ⟨T, hT⟩ : ∃ T, t + k = T := ⟨_, rfl⟩
    rw [hT] at hg
    have HG := Lib.hid hg
    have hTn : T * 59 ≤ n := by have := Nat.mul_le_mul_right 59 (show T ≤ t + N by omega); omega
    have hTb : T ≤ 20000 := by omega
    have t6 := fun d os => cell_regrown (hg.pk.cells 6 _ rfl) d os
    have t7 := fun d os => cell_regrown (hg.pk.cells 7 _ rfl) d os
    clear hg
    by_cases hlast : k = N
    · have hcmp : ¬ (((T : Int) + 1) * 59 ≤ (n : Int)) := by omega
      have hcmp2 : decide (((T : Int) + 1) * 59 ≤ (n : Int)) = false := decide_eq_false hcmp
      have HE : Hid (k = N ∧ t + k = T) := ⟨hlast, hT⟩
      clear hlast hT
      go_wp2
      refine wp_region_quiet_below (by kernel_rfl) (by kernel_rfl) ?_
      repeat (first | go_big_quiet_step (fail) | quiet_step (fail))
      refine wpQuiet_nil ?_
      intro w1 hw'
      have HG1 := Lib.hid (HG.out.later (below_of_regrown hw'))
      clear hw' t6 t7
      go_wp2
      go_ret2
      obtain ⟨he1, he2⟩ := HE.out
      subst he1
      rw [he2]
      exact ⟨A2, c2, A3, c3, vs, rfl, HG1.out⟩
    · have hcmp : ((T : Int) + 1) * 59 ≤ (n : Int) := by omega
      have HE : Hid (¬ k = N ∧ t + k = T) := ⟨hlast, hT⟩
      obtain ⟨lo, hlo⟩ : ∃ lo, T * 59 = lo := ⟨_, rfl⟩
      have hl1 : (T : Int) * 59 = (lo : Int) := by omega
      have hl2 : ((T : Int) + 1) * 59 = ((lo + 59 : Nat) : Int) := by omega
      have hlon : lo + 59 ≤ n := by omega
      obtain ⟨g0, hA⟩ := HP.out.own.head (by omega)
      subst hA
      have hk1 : k ≤ 100000 := by omega
      clear hlast hT
      have HAO : Hid (∀ g, (Value.slice (some (⟨g0, 0, none⟩ : Addr)) n cap).ownBlock = some g → g < w.heap.size) := fun g e => HP.out.own.lt e
      obtain ⟨fr, hfr⟩ : ∃ fr, frame 2 s.toNat (74 + q + 1 + (T : Int)).toNat (chunk bs T) = fr := ⟨_, rfl⟩
      have HFR := Lib.hid hfr
      have EN : Hid (∀ wx, Own wx (p + 1) 5 (.slice (some ⟨g0, 0, none⟩) n cap) n bs → Calls Tryd.prog 37 #[.int .i64 2, .int .i64 s, .int .i64 (74 + q + 1 + (T : Int)), .slice (some ⟨g0, lo, none⟩) 59 (cap - lo)] wx fun e w' => ∃ g5 c5, e = .returned (.slice (some ⟨g5, 0, none⟩) 64 c5) ∧ Byt w' w'.heap.size (some ⟨g5, 0, none⟩) 64 fr ∧ 64 ≤ c5 ∧ c5 ≤ 9223372036854775807 ∧ wx.heap.size ≤ g5 ∧ g5 < w'.heap.size ∧ Below wx.heap.size wx w') := fun wx hown => by
        have hchl : (chunk bs T).length = 59 := chunk_len (by rw [hown.len]; omega)
        have hby : Byt wx wx.heap.size (some ⟨g0, lo, none⟩) 59 (chunk bs T) := by
          have h := (hown.byt.cut (k := lo) (cap := cap) (by omega) hncap).take (k := 59) (by omega)
          rw [if_neg (by omega)] at h
          have e : (Option.map (fun x : Addr => x.add lo) (some (⟨g0, 0, none⟩ : Addr))) = some ⟨g0, lo, none⟩ := by
            simp only [Option.map_some, Addr.add]
            by_cases h0 : lo = 0
            · rw [if_pos h0, h0]
            · rw [if_neg h0, Nat.zero_add]
          rw [e] at h
          unfold chunk
          rw [hlo]
          exact h
        have h := refEncode_any 2 s.toNat (74 + q + 1 + (T : Int)).toNat (chunk bs T) (some ⟨g0, lo, none⟩) 59 (cap - lo) wx.heap.size wx hby (by decide) (Nat.le_refl _) (by omega) (by omega) fr hfr
        rw [Int.toNat_of_nonneg hs0, Int.toNat_of_nonneg (by omega)] at h
        refine h.mono ?_
        have hl64 : fr.length = 64 := by rw [← hfr]; exact frame_len (by rw [hchl]; exact Nat.le_refl _)
        rintro e w' ⟨A5, c5, rfl, hown5, hbel⟩
        rw [hl64] at hown5 ⊢
        obtain ⟨g5, rfl⟩ := hown5.head (by decide)
        obtain ⟨_, _, he, hc1, hc2⟩ := hown5.form
        injection he with _ _ he
        subst he
        exact ⟨g5, c5, rfl, hown5.byt, hc1, hc2, hown5.ge rfl, hown5.lt rfl, hbel⟩
      clear hfr
      have hw1 : IntKind.i64.wrap ((T : Int) + 1) = (T : Int) + 1 := IntWalk.i64_in _ (by omega)
      have hw3 : IntKind.i64.wrap ((lo : Int) + 59) = (lo : Int) + 59 := IntWalk.i64_in _ (by omega)
      have hw4 : IntKind.i64.wrap (lo : Int) = (lo : Int) := IntWalk.i64_in _ (by omega)
      have wq : IntKind.i64.wrap ((sl : Int) * c) = q := by rw [HQ.out]; exact IntWalk.i64_in _ (by omega)
      have wq1 : IntKind.i64.wrap (74 + q) = 74 + q := IntWalk.i64_in _ (by omega)
      have wq2 : IntKind.i64.wrap (74 + q + 1) = 74 + q + 1 := IntWalk.i64_in _ (by omega)
      have wq3 : IntKind.i64.wrap (74 + q + 1 + (T : Int)) = 74 + q + 1 + (T : Int) := IntWalk.i64_in _ (by omega)
      have hc1 : (lo : Int) + 59 ≤ (cap : Int) := by omega
      have hc2 : (0 : Int) ≤ (lo : Int) + 59 := by omega
      have hc3 : (lo : Int) ≤ max ((lo : Int) + 59) 0 := by omega
      have hc4 : ¬ cap = lo := by omega
      have hc5 : ((lo : Int) + 59).toNat = lo + 59 := by omega
      go_wp2
      refine wp_region_quiet_below (by kernel_rfl) (by kernel_rfl) ?_
      repeat (first | go_big_quiet_step (fail) | quiet_step (fail))
      refine wpQuiet_nil ?_
      intro w1 hw'
      have HG1 := Lib.hid (HG.out.later (below_of_regrown hw'))
      clear hw' t6 t7
      have t2 := fun d os => cell_regrown (HG1.out.pk.cells 2 _ rfl) d os
      have t4 := fun d os => cell_regrown (HG1.out.pk.cells 4 _ rfl) d os
      have t7 := fun d os => cell_regrown (HG1.out.pk.cells 7 _ rfl) d os
      go_wp2
      refine wp_region_quiet_below (by kernel_rfl) (by kernel_rfl) ?_
      repeat (first | go_big_quiet_step (fail) | quiet_step (fail))
      refine wpQuiet_nil ?_
      intro w2 hw'
      have HG2 := Lib.hid (HG1.out.later (below_of_regrown hw'))
      clear hw' t2 t4 t7
      have HG3 := Lib.hid (HG2.out.later (below_alloc w2 (.cells #[.int .i64 (74 + q + 1 + (T : Int))] 3)))
      have HBA : Hid (w.heap.size ≤ (w2.alloc (.cells #[.int .i64 (74 + q + 1 + (T : Int))] 3)).heap.size) := HG3.out.far.size
      go_upto_region 7 with (at_builtin; refine wpList_append_vec rfl Tryd.intw (.tmp 43) (.tmp 45) rfl rfl HG3.out.sec rfl (Vat.one w2 _ _) ?_ ?_ ?_ ?_; (intro u hu; rw [List.mem_singleton.1 hu]; rfl); omega; exact HBA.out; intro A6 c6 w6 hv6 hg6 ha6; have HG6 := Lib.hid (HG3.out.sector hlt HAO.out (by rw [HE.out.2]; exact hv6) hg6 ha6); clear hv6 hg6 ha6)
      have l5 := HG6.out.pk.cells 5 _ rfl
      have l6 := HG6.out.pk.cells 6 _ rfl
      have l7 := HG6.out.pk.cells 7 _ rfl
      go_region_held3 (fun w' => w'.cell? ⟨p, 5, none⟩ = some (.int .i64 s) ∧ w'.cell? ⟨p, 6, none⟩ = some (.slice (some ⟨g0, 0, none⟩) n cap) ∧ w'.cell? ⟨p, 7, none⟩ = some (.int .i64 (T : Int))) (go_keep) (first
        | (go_at_call 37; refine (EN.out _ (by first | exact HG6.out.pk.own | exact Own.drewN HG6.out.pk.own 1)).mono ?_; rintro e w7 ⟨g5, c5, rfl, hby, hcc1, hcc2, hg1, hg2, hbel⟩; have HG7 := Lib.hid (HG6.out.later (by first | exact hbel | exact (Below.drew (Below.refl _ _)).trans hbel)); have HY7 := Lib.hid hby; have HC7 := Lib.hid (And.intro hcc1 hcc2); have HS7 : Hid (w6.heap.size ≤ g5 ∧ g5 < w7.heap.size) := ⟨hg1, hg2⟩; have z5 := HG7.out.pk.cells 5 _ rfl; have z6 := HG7.out.pk.cells 6 _ rfl; have z7 := HG7.out.pk.cells 7 _ rfl; have HG8 := Lib.hid (HG7.out.later (below_alloc w7 (.cells #[.slice (some ⟨g5, 0, none⟩) 64 c5] 31))); clear hby hcc1 hcc2 hg1 hg2 hbel)
        | (refine step_append_vec rfl Tryd.bytw (.tmp 47) (.tmp 70) rfl rfl HG8.out.fra rfl (Vat.one w7 _ _) ?_ ?_ ?_ ?_; (intro u hu; rw [List.mem_singleton.1 hu]; rfl); omega; exact HG8.out.far.size; intro A7 c7 w8 hv8 hg8 ha8; have HG9 := Lib.hid (HG8.out.frame hlt HAO.out ((HY7.out.alloc (Nat.le_refl _) _).more (below_alloc w7 (.cells #[.slice (some ⟨g5, 0, none⟩) 64 c5] 31)).size) HC7.out.1 HC7.out.2 (Nat.le_trans HG6.out.far.size HS7.out.1) (by have := HS7.out.2; simp; omega) (fun e => by have := HG6.out.sec.lt e.symm; have := HS7.out.1; omega) (fun e => by have := HG6.out.fra.lt e.symm; have := HS7.out.1; omega) (by rw [HE.out.2]; exact HFR.out) hv8 hg8 ha8); have y5 := HG9.out.pk.cells 5 _ rfl; have y6 := HG9.out.pk.cells 6 _ rfl; have y7 := HG9.out.pk.cells 7 _ rfl; clear hv8 hg8 ha8))
      all_goals
        have l7' := HG9.out.pk.cells 7 _ rfl
        have f7' := HG9.out.pk.soft 7
        go_wp2_with fail
        go_roundw
        case rel =>
          refine ⟨k + 1, A6, c6, A7, c7, vs ++ [.slice (some ⟨g5, 0, none⟩) 64 c5], rfl, rfl, by have := HE.out.1; omega, ?_⟩
          have h := HG9.out.tick hlt ((T : Int) + 1)
          rw [show ((t + (k + 1) : Nat) : Int) = (T : Int) + 1 by have := HE.out.2; omega]
          exact h
        case measure => have := HE.out; simp only; omega
end Go.Proofs.YtecmopfaeopmdaaDoor
/- packer.New where it has an error; the reference's May; Bytes; Put of two packers. -/
namespace Go.Proofs.YtecmopfaeopmdaaDoor
open Go.RowKit Go.Sort

theorem pmay_cases (a b c d sl sq : Int) : (form a b c d = false ∧ pmay a b c d sl sq = 4) ∨ (form a b c d = true ∧ sl < 0 ∧ pmay a b c d sl sq = 2) ∨ (form a b c d = true ∧ 0 ≤ sl ∧ d ≤ sl ∧ pmay a b c d sl sq = 2) ∨
    (form a b c d = true ∧ 0 ≤ sl ∧ sl < d ∧ sq < 1 ∧ pmay a b c d sl sq = 2) ∨ (form a b c d = true ∧ 0 ≤ sl ∧ sl < d ∧ 1 ≤ sq ∧ 281474976710655 < sq ∧ pmay a b c d sl sq = 2) ∨ (form a b c d = true ∧ 0 ≤ sl ∧ sl < d ∧ 1 ≤ sq ∧ sq ≤ 281474976710655 ∧ pmay a b c d sl sq = 0) := by
  unfold pmay
  cases hf : form a b c d
  · exact .inl ⟨rfl, by simp⟩
  · rw [if_pos rfl]
    right
    by_cases h1 : sl < 0
    · exact .inl ⟨rfl, h1, by rw [if_pos (.inl h1)]⟩
    right
    by_cases h2 : d ≤ sl
    · exact .inl ⟨rfl, by omega, h2, by rw [if_pos (.inr (.inl h2))]⟩
    right
    by_cases h3 : sq < 1
    · exact .inl ⟨rfl, by omega, by omega, h3, by rw [if_pos (.inr (.inr (.inl h3)))]⟩
    right
    by_cases h4 : 281474976710655 < sq
    · exact .inl ⟨rfl, by omega, by omega, by omega, h4, by rw [if_pos (.inr (.inr (.inr h4)))]⟩
    right
    exact ⟨rfl, by omega, by omega, by omega, by omega, by rw [if_neg (by omega)]⟩

set_option maxHeartbeats 2000000 in
theorem refMay_any (a b c d sl sq : Int) (ha : I64 a) (hb : I64 b) (hc : I64 c) (hd : I64 d) (r : Int) (hr : pmay a b c d sl sq = r) (w : World) :
    Calls Tryd.prog 20 #[.agg #[.int .i64 a, .int .i64 b, .int .i64 c, .int .i64 d], .int .i64 sl, .int .i64 sq] w fun e w' => e = .returned (.int .i64 r) ∧ Below w.heap.size w w' := by
  have RF := Lib.hid (refForm_any a b c d ha hb hc hd)
  have HB0 : Hid (Below w.heap.size w (w.alloc (.cells #[.int .i64 a, .int .i64 b, .int .i64 c, .int .i64 d] 23))) := (Below.refl _ _).alloc (Nat.le_refl _) _
  have HX0 := Lib.hid (Cells.new w 23 #[.int .i64 a, .int .i64 b, .int .i64 c, .int .i64 d])
  have hcs := pmay_cases a b c d sl sq
  rw [hr] at hcs
  clear hr ha hb hc hd
  rcases hcs with ⟨hf, rfl⟩ | ⟨hf, h1, rfl⟩ | ⟨hf, h1, h2, rfl⟩ | ⟨hf, h1, h2, h3, rfl⟩ | ⟨hf, h1, h2, h3, h4, rfl⟩ | ⟨hf, h1, h2, h3, h4, rfl⟩
  all_goals
    rw [hf] at RF
    clear hf
    go_enter Tryd.func20, Tryd.ntmps20
    go_wp2_with (go_at_call 8; refine (RF.out _).mono ?_; rintro e w1 ⟨rfl, hbel⟩; have HB1 : Hid (Below w.heap.size w w1) := HB0.out.trans (hbel.mono HB0.out.size); have HX1 := Lib.hid (HX0.out.below hbel (by simp)); have l3 := HX1.out 3 _ rfl; clear hbel)
    go_ret
    exact ⟨rfl, HB1.out⟩

set_option maxHeartbeats 2000000 in
theorem first_not (a b c d sl : Int) (ha : I64 a) (hb : I64 b) (hc : I64 c) (hd : I64 d) (hf : form a b c d = true) (hs : sl < 0 ∨ (0 ≤ sl ∧ d ≤ sl)) (w : World) :
    Calls Tryd.prog 31 #[.agg #[.int .i64 a, .int .i64 b, .int .i64 c, .int .i64 d], .int .i64 sl] w fun e w' => e = .returned (.int .i64 (-1)) ∧ Below w.heap.size w w' := by
  have C := Lib.hid (form_any a b c d ha hb hc hd)
  rw [hf] at C
  have HB0 : Hid (Below w.heap.size w (w.alloc (.cells #[.int .i64 a, .int .i64 b, .int .i64 c, .int .i64 d] 23))) := (Below.refl _ _).alloc (Nat.le_refl _) _
  have HX0 := Lib.hid (Cells.new w 23 #[.int .i64 a, .int .i64 b, .int .i64 c, .int .i64 d])
  clear hf ha hb hc hd
  rcases hs with h1 | ⟨h1, h2⟩
  all_goals
    go_enter Tryd.func31, Tryd.ntmps31
    go_wp2_with (go_at_call 30; refine (C.out _).mono ?_; rintro e w1 ⟨rfl, hbel⟩; have HB1 : Hid (Below w.heap.size w w1) := HB0.out.trans (hbel.mono HB0.out.size); have HX1 := Lib.hid (HX0.out.below hbel (by simp)); have l3 := HX1.out 3 _ rfl; clear hbel)
    go_ret
    exact ⟨rfl, HB1.out⟩

set_option maxHeartbeats 4000000 in
theorem pnew_not (a b c d sl sq : Int) (ha : I64 a) (hb : I64 b) (hc : I64 c) (hd : I64 d) (r : Int) (hr : pmay a b c d sl sq = r) (hr0 : ¬ r = 0) (w : World) :
    Calls Tryd.prog 10 #[.agg #[.int .i64 a, .int .i64 b, .int .i64 c, .int .i64 d], .int .i64 sl, .int .i64 sq] w fun e w' => e = .returned (.tuple #[.pointer none, .int .i64 r]) ∧ Below w.heap.size w w' := by
  have HB0 : Hid (Below w.heap.size w (w.alloc (.cells #[.int .i64 a, .int .i64 b, .int .i64 c, .int .i64 d] 23))) := (Below.refl _ _).alloc (Nat.le_refl _) _
  have HX0 := Lib.hid (Cells.new w 23 #[.int .i64 a, .int .i64 b, .int .i64 c, .int .i64 d])
  have hcs := pmay_cases a b c d sl sq
  rw [hr] at hcs
  have FM : Hid (∀ w, Calls Tryd.prog 30 #[.agg #[.int .i64 a, .int .i64 b, .int .i64 c, .int .i64 d]] w fun e w' => e = .returned (.bool (form a b c d)) ∧ Below w.heap.size w w') := form_any a b c d ha hb hc hd
  have FN : Hid (form a b c d = true → (sl < 0 ∨ (0 ≤ sl ∧ d ≤ sl)) → ∀ w, Calls Tryd.prog 31 #[.agg #[.int .i64 a, .int .i64 b, .int .i64 c, .int .i64 d], .int .i64 sl] w fun e w' => e = .returned (.int .i64 (-1)) ∧ Below w.heap.size w w') := fun h h2 w => first_not a b c d sl ha hb hc hd h h2 w
  have FY : Hid (form a b c d = true → 0 ≤ sl → sl < d → ∃ q, 74 ≤ q ∧ q ≤ 40000 ∧ ∀ w, Calls Tryd.prog 31 #[.agg #[.int .i64 a, .int .i64 b, .int .i64 c, .int .i64 d], .int .i64 sl] w fun e w' => e = .returned (.int .i64 q) ∧ Below w.heap.size w w') := fun h h0 h2 => by
    obtain ⟨_, _, _, c1, c2, _, d1, d2⟩ := form_true h
    obtain ⟨s, rfl⟩ : ∃ s : Nat, sl = s := ⟨sl.toNat, by omega⟩
    have m1 : 0 ≤ (s : Int) * c := Int.mul_nonneg (by omega) (by omega)
    have m2 : (s : Int) * c ≤ 15 * 2048 := Int.mul_le_mul (by omega) c2 (by omega) (by omega)
    exact ⟨74 + s * c, by omega, by omega, fun w => first_any a b c d s ha hb hc hd h h2 w⟩
  clear hr ha hb hc hd
  rcases hcs with ⟨hf, rfl⟩ | ⟨hf, h1, rfl⟩ | ⟨hf, h1, h2, rfl⟩ | ⟨hf, h1, h2, h3, rfl⟩ | ⟨hf, h1, h2, h3, h4, rfl⟩ | ⟨_, _, _, _, _, rfl⟩
  · rw [hf] at FM
    clear FN FY hf
    go_enter Tryd.func10, Tryd.ntmps10
    go_wp2_with (go_at_call 30; refine (FM.out _).mono ?_; rintro e w1 ⟨rfl, hbel⟩; have HB1 : Hid (Below w.heap.size w w1) := HB0.out.trans (hbel.mono HB0.out.size); clear hbel)
    go_ret2
    exact ⟨rfl, HB1.out⟩
  · have F1 := Lib.hid (FN.out hf (.inl h1))
    rw [hf] at FM
    clear FN FY hf
    go_enter Tryd.func10, Tryd.ntmps10
    go_wp2_with (first
      | (go_at_call 30; refine (FM.out _).mono ?_; rintro e w1 ⟨rfl, hbel⟩; have HB1 : Hid (Below w.heap.size w w1) := HB0.out.trans (hbel.mono HB0.out.size); have HX1 := Lib.hid (HX0.out.below hbel (by simp)); have l0 := HX1.out 0 _ rfl; have l1 := HX1.out 1 _ rfl; have l2 := HX1.out 2 _ rfl; have l3 := HX1.out 3 _ rfl; clear hbel)
      | (go_at_call 31; refine (F1.out _).mono ?_; rintro e w2 ⟨rfl, hbel⟩; have HB2 : Hid (Below w.heap.size w w2) := HB1.out.trans (hbel.mono HB1.out.size); clear hbel))
    go_ret2
    exact ⟨rfl, HB2.out⟩
  · have F1 := Lib.hid (FN.out hf (.inr ⟨h1, h2⟩))
    rw [hf] at FM
    clear FN FY hf
    go_enter Tryd.func10, Tryd.ntmps10
    go_wp2_with (first
      | (go_at_call 30; refine (FM.out _).mono ?_; rintro e w1 ⟨rfl, hbel⟩; have HB1 : Hid (Below w.heap.size w w1) := HB0.out.trans (hbel.mono HB0.out.size); have HX1 := Lib.hid (HX0.out.below hbel (by simp)); have l0 := HX1.out 0 _ rfl; have l1 := HX1.out 1 _ rfl; have l2 := HX1.out 2 _ rfl; have l3 := HX1.out 3 _ rfl; clear hbel)
      | (go_at_call 31; refine (F1.out _).mono ?_; rintro e w2 ⟨rfl, hbel⟩; have HB2 : Hid (Below w.heap.size w w2) := HB1.out.trans (hbel.mono HB1.out.size); clear hbel))
    go_ret2
    exact ⟨rfl, HB2.out⟩
  · obtain ⟨q, q1, q2, hF⟩ := FY.out hf h1 h2
    have F1 := Lib.hid hF
    rw [hf] at FM
    clear FN FY hf hF
    go_enter Tryd.func10, Tryd.ntmps10
    go_wp2_with (first
      | (go_at_call 30; refine (FM.out _).mono ?_; rintro e w1 ⟨rfl, hbel⟩; have HB1 : Hid (Below w.heap.size w w1) := HB0.out.trans (hbel.mono HB0.out.size); have HX1 := Lib.hid (HX0.out.below hbel (by simp)); have l0 := HX1.out 0 _ rfl; have l1 := HX1.out 1 _ rfl; have l2 := HX1.out 2 _ rfl; have l3 := HX1.out 3 _ rfl; clear hbel)
      | (go_at_call 31; refine (F1.out _).mono ?_; rintro e w2 ⟨rfl, hbel⟩; have HB2 : Hid (Below w.heap.size w w2) := HB1.out.trans (hbel.mono HB1.out.size); clear hbel))
    go_ret2
    exact ⟨rfl, HB2.out⟩
  · obtain ⟨q, q1, q2, hF⟩ := FY.out hf h1 h2
    have F1 := Lib.hid hF
    rw [hf] at FM
    clear FN FY hf hF
    go_enter Tryd.func10, Tryd.ntmps10
    go_wp2_with (first
      | (go_at_call 30; refine (FM.out _).mono ?_; rintro e w1 ⟨rfl, hbel⟩; have HB1 : Hid (Below w.heap.size w w1) := HB0.out.trans (hbel.mono HB0.out.size); have HX1 := Lib.hid (HX0.out.below hbel (by simp)); have l0 := HX1.out 0 _ rfl; have l1 := HX1.out 1 _ rfl; have l2 := HX1.out 2 _ rfl; have l3 := HX1.out 3 _ rfl; clear hbel)
      | (go_at_call 31; refine (F1.out _).mono ?_; rintro e w2 ⟨rfl, hbel⟩; have HB2 : Hid (Below w.heap.size w w2) := HB1.out.trans (hbel.mono HB1.out.size); clear hbel))
    go_ret2
    exact ⟨rfl, HB2.out⟩
  · exact absurd rfl hr0

/-- Put, of any packers with this stream: what it returns, and what the stream is then. -/
theorem put_same (cp : Int) (n : Nat) (bs : List UInt8) (r : List UInt8 × Int) (hn : (n : Int) ≤ cp) : ∃ (x y z : Int) (m : Nat) (bs1 : List UInt8), n ≤ m ∧ (m : Int) ≤ cp ∧ (∃ u, bs1 = bs ++ u) ∧
    ∀ (a b c d f s : Int) (p : Nat) (tk : Int) (A : Option Addr) (cap : Nat) (w : World) (e : Ending) (w' : World), Pk w p a b c d f s A n cap tk bs → PPut p a b c d f s tk cp A n cap bs r w e w' → e = .returned (.tuple #[.int .i64 x, .int .i64 y, .int .i64 z]) ∧ ∃ A1 c1, Pk w' p a b c d f s A1 m c1 tk bs1 ∧ Far w w' p (Value.slice A n cap).ownBlock ∧ Born w (Value.slice A n cap).ownBlock (Value.slice A1 m c1).ownBlock := by
  by_cases hz : r.2 = 0
  · by_cases hfit : cp - n < r.1.length
    · refine ⟨0, 0, 8, n, bs, Nat.le_refl _, hn, ⟨[], by simp⟩, fun a b c d f s p tk A cap w e w' hpk h => ?_⟩
      obtain ⟨h1, h2⟩ := pput_full hz hfit h
      exact ⟨h1, A, cap, hpk.below h2, Far.of_below h2 _ _, Born.refl _ _⟩
    · refine ⟨n, r.1.length, 0, n + r.1.length, bs ++ r.1, by omega, by omega, ⟨_, rfl⟩, fun a b c d f s p tk A cap w e w' hpk h => ?_⟩
      obtain ⟨h1, A1, c1, h2, h3, h4⟩ := pput_good hz hfit h
      exact ⟨h1, A1, c1, h2, h3, h4⟩
  · refine ⟨0, 0, r.2, n, bs, Nat.le_refl _, hn, ⟨[], by simp⟩, fun a b c d f s p tk A cap w e w' hpk h => ?_⟩
    obtain ⟨h1, h2⟩ := pput_bad hz h
    exact ⟨h1, A, cap, hpk.below h2, Far.of_below h2 _ _, Born.refl _ _⟩
end Go.Proofs.YtecmopfaeopmdaaDoor
/- The packer: Bytes. -/
namespace Go.Proofs.YtecmopfaeopmdaaDoor
open Go.RowKit Go.Sort

/-- What Bytes returns of a stream. -/
def segOk (n : Nat) (off m : Int) : Prop := 0 ≤ off ∧ 0 ≤ m ∧ off ≤ n ∧ m ≤ n - off
def BytesSeg (bs : List UInt8) (n : Nat) (off m : Int) (w : World) (e : Ending) (w' : World) : Prop :=
  (¬ segOk n off m ∧ e = .returned (.slice none 0 0) ∧ Below w.heap.size w w') ∨
  (segOk n off m ∧ ∃ A1 c1, e = .returned (.slice A1 m.toNat c1) ∧ Byt w' w'.heap.size A1 m.toNat ((bs.drop off.toNat).take m.toNat) ∧ m.toNat ≤ c1 ∧ c1 ≤ 9223372036854775807 ∧ Below w.heap.size w w')
theorem Own.gform {w : World} {base n cap : Nat} {e : TypeId} {A : Option Addr} {bs : List UInt8} (h : Own w base e (.slice A n cap) n bs) : (A = none ∧ n = 0 ∧ cap = 0) ∨ ∃ g, A = some ⟨g, 0, none⟩ := by
  rcases h.2 with ⟨h1, h2⟩ | ⟨g, cap', cur, h1, _⟩
  · injection h1 with e1 e2 e3
    exact .inl ⟨e1, h2, e3⟩
  · injection h1 with e1 e2 e3
    exact .inr ⟨g, e1⟩

set_option maxRecDepth 100000 in
set_option maxHeartbeats 4000000 in
theorem pbytes_any (a b c d f s tk : Int) (p : Nat) (A : Option Addr) (n cap : Nat) (bs : List UInt8) (hn : n ≤ 1000000) (off m : Int) (w : World) (hP : Pk w p a b c d f s A n cap tk bs) :
    Calls Tryd.prog 25 #[.pointer (some ⟨p, 0, none⟩), .int .i64 off, .int .i64 m] w (BytesSeg bs n off m w) := by
  have l6 := hP.cells 6 _ rfl
  have hn0 : (0 : Int) ≤ n := by omega
  by_cases h1 : off < 0
  · have HN : Hid (¬ segOk n off m) := fun h => by have := h.1; omega
    clear hP
    go_enter Tryd.func25, Tryd.ntmps25
    go_wp2_with fail
    go_ret
    exact .inl ⟨HN.out, rfl, Below.refl _ _⟩
  by_cases h2 : m < 0
  · have HN : Hid (¬ segOk n off m) := fun h => by have := h.2.1; omega
    clear hP
    go_enter Tryd.func25, Tryd.ntmps25
    go_wp2_with fail
    go_ret
    exact .inl ⟨HN.out, rfl, Below.refl _ _⟩
  by_cases h3 : (n : Int) < off
  · have HN : Hid (¬ segOk n off m) := fun h => by have := h.2.2.1; omega
    clear hP
    go_enter Tryd.func25, Tryd.ntmps25
    go_wp2_with fail
    go_ret
    exact .inl ⟨HN.out, rfl, Below.refl _ _⟩
  by_cases h4 : (n : Int) - off < m
  · have HN : Hid (¬ segOk n off m) := fun h => by have := h.2.2.2; omega
    clear hP
    go_enter Tryd.func25, Tryd.ntmps25
    go_wp2_with fail
    go_ret
    exact .inl ⟨HN.out, rfl, Below.refl _ _⟩
  have HS : Hid (segOk n off m) := ⟨by omega, by omega, by omega, by omega⟩
  obtain ⟨lo, rfl⟩ : ∃ lo : Nat, off = lo := ⟨off.toNat, by omega⟩
  obtain ⟨k, rfl⟩ : ∃ k : Nat, m = k := ⟨m.toNat, by omega⟩
  have hlk : lo + k ≤ n := by omega
  obtain ⟨A', cap', he, hncap, hcap⟩ := hP.own.form
  injection he with e1 e2 e3
  subst e1; subst e3
  clear e2
  have HY : Hid (Byt w w.heap.size (if cap = lo then A else A.map (·.add lo)) k ((bs.drop lo).take k)) := (hP.own.byt.cut (k := lo) (cap := cap) (by omega) hncap).take (k := k) (by omega)
  have CL : Hid (∀ AA cc, Byt w w.heap.size AA k ((bs.drop lo).take k) → Calls Tryd.prog 38 #[.slice AA k cc] w fun e w' => ∃ A1 c1, e = .returned (.slice A1 k c1) ∧ Byt w' w'.heap.size A1 k ((bs.drop lo).take k) ∧ k ≤ c1 ∧ c1 ≤ 9223372036854775807 ∧ Below w.heap.size w w') := fun AA cc hb => by
    refine (clone_any _ AA k cc w.heap.size w hb (by omega) (Nat.le_refl _)).mono ?_
    rintro e w' ⟨A1, c1, rfl, hown, hbel⟩
    obtain ⟨_, _, he, q1, q2⟩ := hown.form
    injection he with _ _ he
    subst he
    exact ⟨A1, c1, rfl, hown.byt, q1, q2, hbel⟩
  have hgf := hP.own.gform
  have hw3 : IntKind.i64.wrap ((lo : Int) + (k : Int)) = (lo : Int) + (k : Int) := IntWalk.i64_in _ (by omega)
  have hc1 : (lo : Int) + (k : Int) ≤ (cap : Int) := by omega
  have hc2 : (0 : Int) ≤ (lo : Int) + (k : Int) := by omega
  have hc3 : (lo : Int) ≤ max ((lo : Int) + (k : Int)) 0 := by omega
  have hc5 : ((lo : Int) + (k : Int)).toNat = lo + k := by omega
  have hc6 : lo + k - lo = k := by omega
  have hc7 : ((lo : Int) + (k : Int) - (lo : Int)).toNat = k := by omega
  clear hP h1 h2 h3 h4
  rcases hgf with ⟨rfl, rfl, rfl⟩ | ⟨g, rfl⟩
  · obtain rfl : lo = 0 := by omega
    obtain rfl : k = 0 := by omega
    go_enter Tryd.func25, Tryd.ntmps25
    go_wp2_with (go_at_call 38; refine (CL.out _ _ (by simpa using HY.out)).mono ?_; rintro e w1 ⟨A1, c1, rfl, q1, q2, q3, hbel⟩; have HQ := Lib.hid (And.intro q1 (And.intro q2 (And.intro q3 hbel))); clear q1 q2 q3 hbel)
    go_ret
    exact .inr ⟨HS.out, A1, c1, rfl, HQ.out⟩
  · by_cases hcl : cap = lo
    · have hy := HY.out
      rw [if_pos hcl] at hy
      have HY2 := Lib.hid hy
      clear hy HY
      subst hcl
      go_enter Tryd.func25, Tryd.ntmps25
      go_wp2_with (go_at_call 38; refine (CL.out _ _ HY2.out).mono ?_; rintro e w1 ⟨A1, c1, rfl, q1, q2, q3, hbel⟩; have HQ := Lib.hid (And.intro q1 (And.intro q2 (And.intro q3 hbel))); clear q1 q2 q3 hbel)
      go_ret
      exact .inr ⟨HS.out, A1, c1, rfl, HQ.out⟩
    · have hy := HY.out
      rw [if_neg hcl] at hy
      have e : (Option.map (fun x : Addr => x.add lo) (some (⟨g, 0, none⟩ : Addr))) = some ⟨g, lo, none⟩ := by
        simp only [Option.map_some, Addr.add]
        by_cases h0 : lo = 0
        · rw [if_pos h0, h0]
        · rw [if_neg h0, Nat.zero_add]
      rw [e] at hy
      have HY2 := Lib.hid hy
      clear hy HY e
      go_enter Tryd.func25, Tryd.ntmps25
      go_wp2_with (go_at_call 38; refine (CL.out _ _ HY2.out).mono ?_; rintro e w1 ⟨A1, c1, rfl, q1, q2, q3, hbel⟩; have HQ := Lib.hid (And.intro q1 (And.intro q2 (And.intro q3 hbel))); clear q1 q2 q3 hbel)
      go_ret
      exact .inr ⟨HS.out, A1, c1, rfl, HQ.out⟩
end Go.Proofs.YtecmopfaeopmdaaDoor
/- Slices of layouts: as they lie in memory; slices.Equal over them. -/
namespace Go.Proofs.YtecmopfaeopmdaaDoor
open Go.RowKit

/-- A layout. -/
structure Ly where
  a : Int
  b : Int
  c : Int
  d : Int
  deriving DecidableEq
def Ly.ok (l : Ly) : Prop := I64 l.a ∧ I64 l.b ∧ I64 l.c ∧ I64 l.d
def Ly.zero : Ly := ⟨0, 0, 0, 0⟩

/-- The slice value '.slice A n c' reads as these layouts, all of it in blocks below B. -/
def LAt (w : World) (B : Nat) (A : Option Addr) (n : Nat) (fs : List Ly) : Prop :=
  fs.length = n ∧ ∀ j l, fs[j]? = some l → ∃ ad, A = some ad ∧ ad.block < B ∧ w.cell? (ad.add (j * 4)) = some (.int .i64 l.a) ∧ w.cell? ⟨(ad.add (j * 4)).block, (ad.add (j * 4)).off + 1, none⟩ = some (.int .i64 l.b) ∧
    w.cell? ⟨(ad.add (j * 4)).block, (ad.add (j * 4)).off + 2, none⟩ = some (.int .i64 l.c) ∧ w.cell? ⟨(ad.add (j * 4)).block, (ad.add (j * 4)).off + 3, none⟩ = some (.int .i64 l.d)
section
variable {w w' : World} {B B' n : Nat} {A : Option Addr} {fs : List Ly}
theorem LAt.below (h : LAt w B A n fs) (hb : Below B w w') : LAt w' B A n fs := ⟨h.1, fun j l hj => by
  obtain ⟨ad, e, hB, h1, h2, h3, h4⟩ := h.2 j l hj
  have hc : ∀ o, w'.cell? ⟨(ad.add (j * 4)).block, o, none⟩ = w.cell? ⟨(ad.add (j * 4)).block, o, none⟩ := fun o => hb.cell (by show (ad.add _).block < B; rw [addr_block]; exact hB)
  exact ⟨ad, e, hB, (hb.cell (by rw [addr_block]; exact hB)).trans h1, (hc _).trans h2, (hc _).trans h3, (hc _).trans h4⟩⟩
theorem LAt.more (h : LAt w B A n fs) (hB : B ≤ B') : LAt w B' A n fs := ⟨h.1, fun j l hj => by
  obtain ⟨ad, e, hlt, r⟩ := h.2 j l hj
  exact ⟨ad, e, by omega, r⟩⟩
theorem LAt.belowBy {C : Nat} (h : LAt w B A n fs) (hb : Below C w w') (hC : B ≤ C) : LAt w' B A n fs := h.below (hb.mono hC)
theorem LAt.drewN (h : LAt w B A n fs) (k : Nat) : LAt (w.drewN k) B A n fs := h
theorem LAt.nil (w : World) (B : Nat) (A : Option Addr) : LAt w B A 0 [] := ⟨rfl, fun j l hj => by simp at hj⟩
theorem LAt.get {k : Nat} (h : LAt w B A n fs) (hk : k < n) : ∃ l ad, fs[k]? = some l ∧ A = some ad ∧ ad.block < B ∧ w.cell? (ad.add (k * 4)) = some (.int .i64 l.a) ∧ w.cell? ⟨(ad.add (k * 4)).block, (ad.add (k * 4)).off + 1, none⟩ = some (.int .i64 l.b) ∧
    w.cell? ⟨(ad.add (k * 4)).block, (ad.add (k * 4)).off + 2, none⟩ = some (.int .i64 l.c) ∧ w.cell? ⟨(ad.add (k * 4)).block, (ad.add (k * 4)).off + 3, none⟩ = some (.int .i64 l.d) := by
  have hl : k < fs.length := by rw [h.1]; exact hk
  obtain ⟨ad, r⟩ := h.2 k _ (List.getElem?_eq_getElem hl)
  exact ⟨_, ad, List.getElem?_eq_getElem hl, r⟩
theorem LAt.take {k : Nat} (h : LAt w B A n fs) (hk : k ≤ n) : LAt w B A k (fs.take k) :=
  ⟨by rw [List.length_take, h.1]; omega, fun j l hj => h.2 j l (by
    rw [List.getElem?_take] at hj
    split at hj
    · exact hj
    · cases hj)⟩
end

/-- Two layouts differ in a number: the first one. -/
theorem ne_first {a b c d a' b' c' d' : Int} (h : ¬ (a = a' ∧ b = b' ∧ c = c' ∧ d = d')) : ¬ a = a' ∨ (a = a' ∧ ¬ b = b') ∨ (a = a' ∧ b = b' ∧ ¬ c = c') ∨ (a = a' ∧ b = b' ∧ c = c' ∧ ¬ d = d') := by
  by_cases h1 : a = a'
  · by_cases h2 : b = b'
    · by_cases h3 : c = c'
      · exact .inr (.inr (.inr ⟨h1, h2, h3, fun h4 => h ⟨h1, h2, h3, h4⟩⟩))
      · exact .inr (.inr (.inl ⟨h1, h2, h3⟩))
    · exact .inr (.inl ⟨h1, h2⟩)
  · exact .inl h1
/-- What a walk keeps: the lists are alike so far. -/
theorem take_more {α : Type} {xs ys : List α} {k : Nat} {x : α} (h : xs.take k = ys.take k) (h1 : xs[k]? = some x) (h2 : ys[k]? = some x) : xs.take (k + 1) = ys.take (k + 1) := by
  obtain ⟨l1, e1⟩ := List.getElem?_eq_some_iff.1 h1
  obtain ⟨l2, e2⟩ := List.getElem?_eq_some_iff.1 h2
  rw [List.take_succ_eq_append_getElem l1, List.take_succ_eq_append_getElem l2, h, e1, e2]

end Go.Proofs.YtecmopfaeopmdaaDoor
/- Append of elements of several cells, onto a row of the call's own. -/
namespace Go.Proofs.YtecmopfaeopmdaaDoor
open Go.RowKit

structure Wide (P : Program) (t e : TypeId) (z : Value) (s k : Nat) : Prop where
  ht : P.underlying t = some (.slice e)
  info : (P.info? e).map (fun i => (i.zero, i.size, i.bytes)) = some (some z, s, k)
  cells : z.cells.size = s
  pos : 0 < s
  small : k ≤ 1000
theorem wide_parts {P : Program} {e : TypeId} {z : Value} {s k : Nat} (h : (P.info? e).map (fun i => (i.zero, i.size, i.bytes)) = some (some z, s, k)) : ∃ i, P.info? e = some i ∧ i.zero = some z ∧ i.size = s ∧ i.bytes = k := by
  cases hi : P.info? e with
  | none => rw [hi] at h; simp at h
  | some i =>
    rw [hi] at h
    simp at h
    exact ⟨i, rfl, h.1, h.2.1, h.2.2⟩
theorem row_keep {w w' : World} {base n s : Nat} {e : TypeId} {v : Value} {xs : List Value} (h : w.ownsRow base e s v n xs) (hb : ∀ g, v.ownBlock = some g → w'.heap[g]? = w.heap[g]?) : w'.ownsRow base e s v n xs := by
  refine ⟨h.1, ?_⟩
  rcases h.2 with h0 | ⟨g, cap, cur, rfl, hbase, hh, r⟩
  · exact .inl h0
  · exact .inr ⟨g, cap, cur, rfl, hbase, (hb g rfl).trans hh, r⟩
theorem row_lit (w : World) (cs : Array Value) (e : TypeId) (s n base : Nat) (xs : List Value) (h : cs.toList = xs) (hl : xs.length = n * s) (hn : n ≤ 1000) (hb : base ≤ w.heap.size) :
    (w.alloc (.cells cs e)).ownsRow base e s (.slice (some ⟨w.heap.size, 0, none⟩) n n) n xs := by
  have hs : cs.size = n * s := by rw [← hl, ← h, Array.length_toList]
  exact ⟨hl, .inr ⟨w.heap.size, n, cs, rfl, hb, heap_alloc_new w _, Nat.le_refl _, by unfold maxLen; omega, hs, by rw [h, ← hl, List.take_length]⟩⟩
theorem cells_add {w : World} {g : Nat} {l : List Value} (h : Cells w g l) : ∀ j u, l[j]? = some u → w.cell? ((⟨g, 0, none⟩ : Addr).add j) = some u := fun j u hj => by
  have h1 := h j u hj
  by_cases h0 : j = 0
  · subst h0; simpa [Addr.add] using h1
  · simpa [Addr.add, h0] using h1
theorem add_cells {w : World} {g : Nat} {l : List Value} (h : ∀ j u, l[j]? = some u → w.cell? ((⟨g, 0, none⟩ : Addr).add j) = some u) : Cells w g l := fun j u hj => by
  have h1 := h j u hj
  by_cases h0 : j = 0
  · subst h0; simpa [Addr.add] using h1
  · simpa [Addr.add, h0] using h1

section
variable {P : Program} {t e : TypeId} {z v : Value} {s k n base : Nat} {w : World} {xs : List Value}
theorem run_append_wide (hu : Wide P t e z s k) (ty : TypeId) (hown : w.ownsRow base e s v n xs) {ad : Addr} {m : Nat} (c : Nat) {news : List Value} (hl : news.length = m * s) (hr : ∀ j u, news[j]? = some u → w.cell? (ad.add j) = some u)
    (h1 : ∀ u ∈ news, u.oneCell' = true) (h47 : n + m ≤ 1000000000) (hm : 0 < n + m) (hbase : base ≤ w.heap.size) :
    ∃ g c' w', (Builtin.append_ #[t, t] ty #[v, .slice (some ad) m c]).run P w = .ok (.slice (some ⟨g, 0, none⟩) (n + m) c') w' ∧ w'.ownsRow base e s (.slice (some ⟨g, 0, none⟩) (n + m) c') (n + m) (xs ++ news) ∧ w.grownBy w' v.ownBlock ∧
      base ≤ g ∧ g < w'.heap.size ∧ n + m ≤ c' ∧ c' ≤ 9223372036854775807 := by
  obtain ⟨i, hi, hz, hs, hb⟩ := wide_parts hu.info
  have hm47 : (n + m) * k ≤ 140737488355328 := Nat.le_trans (Nat.mul_le_mul h47 hu.small) (by decide)
  obtain ⟨v', w', hrun, h2, h3, _, _⟩ := run_append_own_at (P := P) w base t ty e i z s k hu.ht hi hz hs hb hu.cells hu.pos v n xs hown ad m c news hl hr h1 (by simp only [maxLen]; omega) hm47 hbase
  obtain ⟨g, cap, rfl, hg1, hg2⟩ := World.ownsRow.form h2 hm
  refine ⟨g, cap, w', hrun, h2, h3, hg1, hg2, ?_⟩
  rcases h2.2 with ⟨h0, _⟩ | ⟨g', cap', cur, hv, _, _, q1, q2, _⟩
  · cases h0
  · injection hv with _ _ hv
    subst hv
    unfold maxLen at q2
    exact ⟨q1, by omega⟩
theorem step_append_wide {ops : Array Oper} {o : Oper} {a : Act} {K : Act → World → Prop} {Q : Exit → Act → World → Prop} {E : Prop} (hw : Region.wanted o (yielded ops a.tmps) = true) (hu : Wide P t e z s k) (so x : Operand)
    (ho : o.op = .call { callee := .builtin .append, args := #[so, x], argTypes := #[t, t] })
    (hs : a.eval so = v) (hown : w.ownsRow base e s v n xs) {ad : Addr} {m c : Nat} {news : List Value} (hx : a.eval x = .slice (some ad) m c) (hl : news.length = m * s) (hr : ∀ j u, news[j]? = some u → w.cell? (ad.add j) = some u)
    (h1 : ∀ u ∈ news, u.oneCell' = true) (h47 : n + m ≤ 1000000000) (hm : 0 < n + m) (hbase : base ≤ w.heap.size)
    (h : ∀ g c' w', w'.ownsRow base e s (.slice (some ⟨g, 0, none⟩) (n + m) c') (n + m) (xs ++ news) → w.grownBy w' v.ownBlock → base ≤ g → g < w'.heap.size → n + m ≤ c' → c' ≤ 9223372036854775807 → K (a.put o.dst (.slice (some ⟨g, 0, none⟩) (n + m) c')) w') :
    if Region.wanted o (yielded ops a.tmps) = true then Oper.wp P o a w K Q else E := by
  rw [if_pos hw]
  obtain ⟨g, c', w', hrun, h2, h3, h4, h5, h6, h7⟩ := run_append_wide hu o.type hown c hl hr h1 h47 hm hbase
  unfold Oper.wp execOp
  simp only [ho, resolve, invoke, builtin, Sem.run_bind, Sem.run_pure, Result.andThen_ok, List.map_toArray, List.map_cons, List.map_nil, hs, hx, hrun]
  exact h g c' w' h2 h3 h4 h5 h6 h7
end
end Go.Proofs.YtecmopfaeopmdaaDoor
/- The packer with three rows that are appended to: offsets, lengths, records. -/
namespace Go.Proofs.YtecmopfaeopmdaaDoor
open Go.RowKit

theorem Tryd.recw : Wide Tryd.prog 43 33 (.agg #[.int .i64 0, .slice none 0 0, .slice none 0 0, .int .i64 0]) 4 64 := ⟨Tryd.underlying43, by kernel_rfl, rfl, by decide, by decide⟩

theorem below_drew (w : World) : Below w.heap.size w w.drew := Below.drew (Below.refl _ _)
/-- A record that was put, and where. -/
structure Dn where
  o : Nat
  l : Nat
  ki : Int
  Ak : Option Addr
  nk : Nat
  ck : Nat
  key : List UInt8
  Av : Option Addr
  nv : Nat
  cv : Nat
  val : List UInt8
  ex : Int
def Dn.cells (d : Dn) : List Value := [.int .i64 d.ki, .slice d.Ak d.nk d.ck, .slice d.Av d.nv d.cv, .int .i64 d.ex]
/-- Its bytes lie in the stream where it says. -/
structure Dn.good (w : World) (b : Int) (bs : List UInt8) (d : Dn) : Prop where
  bk : Byt w w.heap.size d.Ak d.nk d.key
  bv : Byt w w.heap.size d.Av d.nv d.val
  hk : d.nk ≤ 260
  hv : d.nv ≤ 200
  ok : (rencS b 7 d.o d.ki d.ex d.key d.val).2 = 0
  at_ : (bs.drop d.o).take d.l = (rencS b 7 d.o d.ki d.ex d.key d.val).1
  le : d.o + d.l ≤ bs.length
theorem Dn.good.app {w : World} {b : Int} {bs : List UInt8} {d : Dn} (h : d.good w b bs) (x : List UInt8) : d.good w b (bs ++ x) :=
  ⟨h.bk, h.bv, h.hk, h.hv, h.ok, by
    have hle := h.le
    rw [← h.at_, List.drop_append_of_le_length (by omega), List.take_append_of_le_length (by rw [List.length_drop]; omega)], by rw [List.length_append]; have := h.le; omega⟩

/-- A packer and three rows, in a loop that began in w7. -/
structure Pr (w7 wr : World) (p : Nat) (b c f : Int) (A : Option Addr) (n cap : Nat) (bs : List UInt8) (V1 : Value) (m1 : Nat) (x1 : List Value) (V2 : Value) (m2 : Nat) (x2 : List Value) (V3 : Value) (m3 : Nat) (x3 : List Value) : Prop where
  pk : Pk wr p 1 b c 4 f 7 A n cap 0 bs
  keep : Keep w7 wr (fun k => k = p)
  lt : p < w7.heap.size
  hi : ∀ g, (Value.slice A n cap).ownBlock = some g → w7.heap.size ≤ g
  r1 : Vec wr w7.heap.size 3 V1 m1 x1
  r2 : Vec wr w7.heap.size 3 V2 m2 x2
  r3 : wr.ownsRow w7.heap.size 33 4 V3 m3 x3
  d1 : Diff (Value.slice A n cap).ownBlock V1.ownBlock
  d2 : Diff (Value.slice A n cap).ownBlock V2.ownBlock
  d3 : Diff (Value.slice A n cap).ownBlock V3.ownBlock
  d4 : Diff V1.ownBlock V2.ownBlock
  d5 : Diff V1.ownBlock V3.ownBlock
  d6 : Diff V2.ownBlock V3.ownBlock
/-- A block that is none of the three rows. -/
structure Lit (wr : World) (V1 V2 V3 : Value) (g : Nat) (xs : List Value) : Prop where
  lt : g < wr.heap.size
  cells : Cells wr g xs
  n1 : ¬ V1.ownBlock = some g
  n2 : ¬ V2.ownBlock = some g
  n3 : ¬ V3.ownBlock = some g
theorem row_lt {w : World} {base s n : Nat} {e : TypeId} {v : Value} {xs : List Value} (h : w.ownsRow base e s v n xs) {g : Nat} (hg : v.ownBlock = some g) : base ≤ g ∧ g < w.heap.size := World.ownsRow.lt h g hg
theorem Diff.turn {w : World} {r r' r1 : Option Nat} (h : Diff r r') (hb : r1 = r ∨ r1 = some w.heap.size) (hlt : ∀ g, r' = some g → g < w.heap.size) : Diff r1 r' := fun g e e' => by
  rcases hb with hb | hb
  · rw [hb] at e; exact h g e e'
  · rw [hb] at e; injection e with e; have := hlt g e'; omega
section
variable {w7 wr w' : World} {p : Nat} {b c f : Int} {A A' : Option Addr} {n cap n' cap' : Nat} {bs bs' : List UInt8} {V1 V2 V3 V' : Value} {m1 m2 m3 m' g : Nat} {x1 x2 x3 x' xs : List Value}
theorem Pr.later (h : Pr w7 wr p b c f A n cap bs V1 m1 x1 V2 m2 x2 V3 m3 x3) (hb : Below wr.heap.size wr w') : Pr w7 w' p b c f A n cap bs V1 m1 x1 V2 m2 x2 V3 m3 x3 :=
  ⟨h.pk.below hb, h.keep.later hb, h.lt, h.hi, h.r1.keep hb, h.r2.keep hb, row_keep h.r3 (fun g e => hb.block g (row_lt h.r3 e).2), h.d1, h.d2, h.d3, h.d4, h.d5, h.d6⟩
theorem Pr.put (h : Pr w7 wr p b c f A n cap bs V1 m1 x1 V2 m2 x2 V3 m3 x3) (hpk : Pk w' p 1 b c 4 f 7 A' n' cap' 0 bs') (hf : Far wr w' p (Value.slice A n cap).ownBlock)
    (hb : Born wr (Value.slice A n cap).ownBlock (Value.slice A' n' cap').ownBlock) : Pr w7 w' p b c f A' n' cap' bs' V1 m1 x1 V2 m2 x2 V3 m3 x3 := by
  have hne : ∀ k, w7.heap.size ≤ k → k ≠ p := fun k hk e => by have := h.lt; omega
  refine ⟨hpk, h.keep.far hf (.inl rfl) (fun g e => .inr (h.hi g e)), h.lt, ?_, ?_, ?_, ?_, ?_, ?_, ?_, h.d4, h.d5, h.d6⟩
  · intro g e
    rcases hb with hb | hb
    · rw [hb] at e; exact h.hi g e
    · exact Nat.le_trans h.keep.size (hb g e)
  · exact h.r1.same fun g e => hf.block g (h.r1.lt e) (hne g (h.r1.ge e)) (fun e' => h.d1 g e'.symm e)
  · exact h.r2.same fun g e => hf.block g (h.r2.lt e) (hne g (h.r2.ge e)) (fun e' => h.d2 g e'.symm e)
  · exact row_keep h.r3 fun g e => hf.block g (row_lt h.r3 e).2 (hne g (row_lt h.r3 e).1) (fun e' => h.d3 g e'.symm e)
  · exact h.d1.born hb (fun g e => h.r1.lt e)
  · exact h.d2.born hb (fun g e => h.r2.lt e)
  · exact h.d3.born hb (fun g e => (row_lt h.r3 e).2)
theorem Pk.row {r : Option Nat} (h : Pk wr p 1 b c 4 f 7 A n cap 0 bs) (hg : wr.grownBy w' r) (hr : ∀ g, r = some g → g ≠ p) (hd : Diff (Value.slice A n cap).ownBlock r) : Pk w' p 1 b c 4 f 7 A n cap 0 bs :=
  have hb := hg.block p h.cells.lt (fun e => hr p e.symm rfl)
  ⟨h.cells.same hb, h.soft.same hb, h.own.same fun g e => hg.block g (h.own.lt e) (fun e' => hd g e e'.symm)⟩
theorem Pr.app1 (h : Pr w7 wr p b c f A n cap bs V1 m1 x1 V2 m2 x2 V3 m3 x3) (hv : Vec w' w7.heap.size 3 V' m' x') (hg : wr.grownBy w' V1.ownBlock) (hb : V'.ownBlock = V1.ownBlock ∨ V'.ownBlock = some wr.heap.size) :
    Pr w7 w' p b c f A n cap bs V' m' x' V2 m2 x2 V3 m3 x3 := by
  have hne : ∀ k, w7.heap.size ≤ k → k ≠ p := fun k hk e => by have := h.lt; omega
  exact ⟨h.pk.row hg (fun g e => hne g (h.r1.ge e)) h.d1, h.keep.row hg (fun g e => .inr (h.r1.ge e)), h.lt, h.hi, hv, h.r2.same fun g e => hg.block g (h.r2.lt e) (fun e' => h.d4 g e'.symm e), row_keep h.r3 fun g e => hg.block g (row_lt h.r3 e).2 (fun e' => h.d5 g e'.symm e),
    (h.d1.symm.turn hb (fun g e => h.pk.own.lt e)).symm, h.d2, h.d3, h.d4.turn hb (fun g e => h.r2.lt e), h.d5.turn hb (fun g e => (row_lt h.r3 e).2), h.d6⟩
theorem Pr.app2 (h : Pr w7 wr p b c f A n cap bs V1 m1 x1 V2 m2 x2 V3 m3 x3) (hv : Vec w' w7.heap.size 3 V' m' x') (hg : wr.grownBy w' V2.ownBlock) (hb : V'.ownBlock = V2.ownBlock ∨ V'.ownBlock = some wr.heap.size) :
    Pr w7 w' p b c f A n cap bs V1 m1 x1 V' m' x' V3 m3 x3 := by
  have hne : ∀ k, w7.heap.size ≤ k → k ≠ p := fun k hk e => by have := h.lt; omega
  exact ⟨h.pk.row hg (fun g e => hne g (h.r2.ge e)) h.d2, h.keep.row hg (fun g e => .inr (h.r2.ge e)), h.lt, h.hi, h.r1.same fun g e => hg.block g (h.r1.lt e) (fun e' => h.d4 g e e'.symm), hv, row_keep h.r3 fun g e => hg.block g (row_lt h.r3 e).2 (fun e' => h.d6 g e'.symm e),
    h.d1, (h.d2.symm.turn hb (fun g e => h.pk.own.lt e)).symm, h.d3, (h.d4.symm.turn hb (fun g e => h.r1.lt e)).symm, h.d5, h.d6.turn hb (fun g e => (row_lt h.r3 e).2)⟩
theorem Pr.app3 (h : Pr w7 wr p b c f A n cap bs V1 m1 x1 V2 m2 x2 V3 m3 x3) (hv : w'.ownsRow w7.heap.size 33 4 V' m' x') (hg : wr.grownBy w' V3.ownBlock) (hb : V'.ownBlock = V3.ownBlock ∨ V'.ownBlock = some wr.heap.size) :
    Pr w7 w' p b c f A n cap bs V1 m1 x1 V2 m2 x2 V' m' x' := by
  have hne : ∀ k, w7.heap.size ≤ k → k ≠ p := fun k hk e => by have := h.lt; omega
  exact ⟨h.pk.row hg (fun g e => hne g (row_lt h.r3 e).1) h.d3, h.keep.row hg (fun g e => .inr (row_lt h.r3 e).1), h.lt, h.hi, h.r1.same fun g e => hg.block g (h.r1.lt e) (fun e' => h.d5 g e e'.symm), h.r2.same fun g e => hg.block g (h.r2.lt e) (fun e' => h.d6 g e e'.symm), hv,
    h.d1, h.d2, (h.d3.symm.turn hb (fun g e => h.pk.own.lt e)).symm, h.d4, (h.d5.symm.turn hb (fun g e => h.r1.lt e)).symm, (h.d6.symm.turn hb (fun g e => h.r2.lt e)).symm⟩
theorem Lit.later (h : Lit wr V1 V2 V3 g xs) (hb : Below wr.heap.size wr w') : Lit w' V1 V2 V3 g xs := ⟨Nat.lt_of_lt_of_le h.lt hb.size, h.cells.below hb h.lt, h.n1, h.n2, h.n3⟩
theorem lit_turn {r r1 : Option Nat} (hb : r1 = r ∨ r1 = some wr.heap.size) (hn : ¬ r = some g) (hlt : g < wr.heap.size) : ¬ r1 = some g := fun e => by
  rcases hb with hb | hb
  · rw [hb] at e; exact hn e
  · rw [hb] at e; injection e with e; omega
theorem Lit.app1 (h : Lit wr V1 V2 V3 g xs) (hg : wr.grownBy w' V1.ownBlock) (hb : V'.ownBlock = V1.ownBlock ∨ V'.ownBlock = some wr.heap.size) : Lit w' V' V2 V3 g xs :=
  ⟨Nat.lt_of_lt_of_le h.lt hg.size, h.cells.same (hg.block g h.lt (fun e => h.n1 e.symm)), lit_turn hb h.n1 h.lt, h.n2, h.n3⟩
theorem Lit.app2 (h : Lit wr V1 V2 V3 g xs) (hg : wr.grownBy w' V2.ownBlock) (hb : V'.ownBlock = V2.ownBlock ∨ V'.ownBlock = some wr.heap.size) : Lit w' V1 V' V3 g xs :=
  ⟨Nat.lt_of_lt_of_le h.lt hg.size, h.cells.same (hg.block g h.lt (fun e => h.n2 e.symm)), h.n1, lit_turn hb h.n2 h.lt, h.n3⟩
theorem Lit.app3 (h : Lit wr V1 V2 V3 g xs) (hg : wr.grownBy w' V3.ownBlock) (hb : V'.ownBlock = V3.ownBlock ∨ V'.ownBlock = some wr.heap.size) : Lit w' V1 V2 V' g xs :=
  ⟨Nat.lt_of_lt_of_le h.lt hg.size, h.cells.same (hg.block g h.lt (fun e => h.n3 e.symm)), h.n1, h.n2, lit_turn hb h.n3 h.lt⟩
theorem Pr.lit (h : Pr w7 wr p b c f A n cap bs V1 m1 x1 V2 m2 x2 V3 m3 x3) (cs : Array Value) (ty : TypeId) : Lit (wr.alloc (.cells cs ty)) V1 V2 V3 wr.heap.size cs.toList :=
  ⟨by simp, Cells.new wr ty cs, fun e => by have := h.r1.lt e; omega, fun e => by have := h.r2.lt e; omega, fun e => by have := (row_lt h.r3 e).2; omega⟩
end
theorem row_form {w : World} {base s n : Nat} {e : TypeId} {v : Value} {xs : List Value} (h : w.ownsRow base e s v n xs) : ∃ A c, v = .slice A n c ∧ n ≤ c ∧ c ≤ 9223372036854775807 ∧ (0 < n → ∃ g, A = some ⟨g, 0, none⟩) := by
  rcases h.2 with ⟨rfl, rfl⟩ | ⟨g, cap, cur, rfl, _, _, h1, h2, _⟩
  · exact ⟨none, 0, rfl, by omega, by omega, fun h => absurd h (by omega)⟩
  · unfold maxLen at h2
    exact ⟨_, cap, rfl, h1, by omega, fun _ => ⟨g, rfl⟩⟩
theorem row_cell {w : World} {base s n g c : Nat} {e : TypeId} {xs : List Value} (h : w.ownsRow base e s (.slice (some ⟨g, 0, none⟩) n c) n xs) {j : Nat} {x : Value} (hj : xs[j]? = some x) : w.cell? ⟨g, j, none⟩ = some x := by
  have h1 := World.ownsRow.cells h (g := g) rfl j x hj
  by_cases h0 : j = 0
  · subst h0; simpa [Addr.add] using h1
  · simpa [Addr.add, h0] using h1
theorem flat_get {L : List Dn} {i : Nat} {d : Dn} (h : L[i]? = some d) (k : Nat) (hk : k < 4) : (L.flatMap Dn.cells)[i * 4 + k]? = d.cells[k]? := by
  induction L generalizing i with
  | nil => simp at h
  | cons x L ih =>
    rcases i with _ | i
    · have e : x = d := by simpa using h
      subst e
      rw [List.flatMap_cons, Nat.zero_mul, Nat.zero_add, List.getElem?_append_left (by simp [Dn.cells]; omega)]
    · rw [List.flatMap_cons, List.getElem?_append_right (by simp [Dn.cells]; omega)]
      have := ih (i := i) (by simpa using h)
      rw [← this]
      congr 1
      simp [Dn.cells]
      omega
/-- What storing a record into its box leaves. -/
theorem set_four (w : World) (g : Nat) (a b c d : Value) {w' : World} (hw : w' = (((w.setCell ⟨g, 0, none⟩ a).setCell ⟨g, 1, none⟩ b).setCell ⟨g, 2, none⟩ c).setCell ⟨g, 3, none⟩ d) :
    (∀ k, k ≠ g → w'.heap[k]? = w.heap[k]?) ∧ w'.heap.size = w.heap.size ∧ (∀ z0 z1 z2 z3, Cells w g [z0, z1, z2, z3] → Cells w' g [a, b, c, d]) ∧ (Soft w g → Soft w' g) ∧ (∀ B, B ≤ g → Below B w w') := by
  subst hw
  refine ⟨fun k hk => ?_, by simp [World.setCell], fun z0 z1 z2 z3 h => (((h.set 0 a).set 1 b).set 2 c).set 3 d, fun h => ((((h.set _ _).set _ _).set _ _).set _ _), fun B hB => ?_⟩
  · rw [Below.heap_setCell _ _ _ _ hk, Below.heap_setCell _ _ _ _ hk, Below.heap_setCell _ _ _ _ hk, Below.heap_setCell _ _ _ _ hk]
  · exact ((((Below.refl _ _).setCell hB _).setCell hB _).setCell hB _).setCell hB _
theorem Lit.vat {wr : World} {V1 V2 V3 : Value} {g : Nat} {x : Value} (h : Lit wr V1 V2 V3 g [x]) : Vat wr wr.heap.size (some ⟨g, 0, none⟩) 1 [x] := ⟨rfl, fun j u hj => ⟨_, rfl, h.lt, cells_add h.cells j u hj⟩⟩
theorem put_bad {p : Nat} {a b c d f s tk cp : Int} {A : Option Addr} {n cap : Nat} {bs : List UInt8} {r : List UInt8 × Int} {w w' : World} {e : Ending} (hz : ¬ (r.2 = 0 ∧ ¬ cp - n < r.1.length)) (h : PPut p a b c d f s tk cp A n cap bs r w e w') : ∃ er : Int, ¬ er = 0 ∧ e = .returned (.tuple #[.int .i64 0, .int .i64 0, .int .i64 er]) ∧ Below w.heap.size w w' := by
  rcases h with ⟨h0, h1, h2⟩ | ⟨_, _, h1, h2⟩ | ⟨h1, h2, _⟩
  · exact ⟨_, h0, h1, h2⟩
  · exact ⟨8, by decide, h1, h2⟩
  · exact absurd ⟨h1, h2⟩ hz
theorem Dn.good.new {w : World} {b : Int} {bs : List UInt8} {n : Nat} (hn : bs.length = n) {d : Dn} (ho : d.o = n) (hl : d.l = (rencS b 7 n d.ki d.ex d.key d.val).1.length) (bk : Byt w w.heap.size d.Ak d.nk d.key) (bv : Byt w w.heap.size d.Av d.nv d.val) (hk : d.nk ≤ 260) (hv : d.nv ≤ 200) (h0 : (rencS b 7 n d.ki d.ex d.key d.val).2 = 0) :
    d.good w b (bs ++ (rencS b 7 n d.ki d.ex d.key d.val).1) :=
  ⟨bk, bv, hk, hv, by rw [ho]; exact h0, by rw [ho, hl, ← hn, List.drop_left, hn, List.take_length], by rw [ho, hl, List.length_append]; omega⟩
section
variable {P : Program} {t e : TypeId} {z v : Value} {s k n base : Nat} {w : World} {xs : List Value}
/-- append of elements of several cells, in a region that draws: where the new row lies. -/
theorem step_append_wide_at {ops : Array Oper} {o : Oper} {a : Act} {K : Act → World → Prop} {Q : Exit → Act → World → Prop} {E : Prop} (hw : Region.wanted o (yielded ops a.tmps) = true) (hu : Wide P t e z s k) (so x : Operand)
    (ho : o.op = .call { callee := .builtin .append, args := #[so, x], argTypes := #[t, t] })
    (hs : a.eval so = v) (hown : w.ownsRow base e s v n xs) {ad : Addr} {m c : Nat} {news : List Value} (hx : a.eval x = .slice (some ad) m c) (hl : news.length = m * s) (hr : ∀ j u, news[j]? = some u → w.cell? (ad.add j) = some u)
    (h1 : ∀ u ∈ news, u.oneCell' = true) (h47 : n + m ≤ 1000000000) (hbase : base ≤ w.heap.size)
    (h : ∀ V w', w'.ownsRow base e s V (n + m) (xs ++ news) → w.grownBy w' v.ownBlock → (V.ownBlock = v.ownBlock ∨ V.ownBlock = some w.heap.size) → K (a.put o.dst V) w') :
    if Region.wanted o (yielded ops a.tmps) = true then Oper.wp P o a w K Q else E := by
  rw [if_pos hw]
  obtain ⟨i, hi, hz, hs', hb⟩ := wide_parts hu.info
  have hm47 : (n + m) * k ≤ 140737488355328 := Nat.le_trans (Nat.mul_le_mul h47 hu.small) (by decide)
  obtain ⟨v', w', hrun, h2, h3, _, h5⟩ := run_append_own_at (P := P) w base t o.type e i z s k hu.ht hi hz hs' hb hu.cells hu.pos v n xs hown ad m c news hl hr h1 (by simp only [maxLen]; omega) hm47 hbase
  unfold Oper.wp execOp
  simp only [ho, resolve, invoke, builtin, Sem.run_bind, Sem.run_pure, Result.andThen_ok, List.map_toArray, List.map_cons, List.map_nil, hs, hx, hrun]
  exact h v' w' h2 h3 h5
end
end Go.Proofs.YtecmopfaeopmdaaDoor
/- The reference's Decode of records, of any bytes. -/
namespace Go.Proofs.YtecmopfaeopmdaaDoor
open Go.RowKit
theorem refRDecode_all (v s o : Int) (bs : List UInt8) (A : Option Addr) (n cap B : Nat) (w : World) (hb : Byt w B A n bs) (hn : n ≤ cap) (hcap : cap ≤ 9223372036854775807) (hB : B ≤ w.heap.size) (hs : s ≤ 9223372036854775807) (r : Option (Rcd × Nat)) (hr : rdec v s o bs = r) :
    Calls Tryd.prog 27 #[.int .i64 v, .int .i64 s, .int .i64 o, .slice A n cap] w (RDecRes r w) := by
  by_cases hbad : (¬ v = 1 ∧ ¬ v = 2) ∨ s < 0 ∨ o < 0 ∨ 2147483647 < o ∨ n < 16
  · exact refRdec_bad v s o bs A n cap B w hb hn hcap hB hs r hr hbad
  · exact refRdec_good v s o bs A n cap B w hb hn hcap hB hs r hr (by omega) (by omega) (by omega) (by omega) (by omega)
end Go.Proofs.YtecmopfaeopmdaaDoor
/- PackerRecords: the walk (tools/mkprecs.py). -/
namespace Go.Proofs.YtecmopfaeopmdaaDoor
open Go.RowKit Go.Sort

/-- Decode of the bytes at an offset, into a box: what has come up (b), what the temporaries hold (v). -/
structure R21 (wA : World) (p bx : Nat) (b : Int) (V1 V2 : Value) (g1 g2 i : Nat) (d : Dn) (seg : List UInt8) (bb : Nat → Bool) (v : Nat → Value) (w : World) : Prop where
  bel : Below wA.heap.size wA w
  s0 : bb 0 = true → v 0 = .pointer (some ⟨bx, 1, none⟩)
  s1 : bb 1 = true → v 1 = .int .i64 b
  s2 : bb 2 = true → v 2 = V1
  s3 : bb 3 = true → v 3 = .int .i64 (i : Int)
  s4 : bb 4 = true → v 4 = .pointer (some ⟨g1, i, none⟩)
  s5 : bb 5 = true → v 5 = .int .i64 (d.o : Int)
  s6 : bb 6 = true → v 6 = .pointer (some ⟨p, 0, none⟩)
  s7 : bb 7 = true → v 7 = V1
  s8 : bb 8 = true → v 8 = .int .i64 (i : Int)
  s9 : bb 9 = true → v 9 = .pointer (some ⟨g1, i, none⟩)
  s10 : bb 10 = true → v 10 = .int .i64 (d.o : Int)
  s11 : bb 11 = true → v 11 = V2
  s12 : bb 12 = true → v 12 = .int .i64 (i : Int)
  s13 : bb 13 = true → v 13 = .pointer (some ⟨g2, i, none⟩)
  s14 : bb 14 = true → v 14 = .int .i64 (d.l : Int)
  c15 : bb 15 = true → bb 22 = false → ∃ A4 c4, v 15 = .slice A4 d.l c4 ∧ Byt w w.heap.size A4 d.l seg ∧ d.l ≤ c4 ∧ c4 ≤ 9223372036854775807
  s16 : bb 16 = true → v 16 = .tuple #[.agg #[.int .i64 d.ki, v 201, v 202, .int .i64 d.ex], .int .i64 (d.l : Int), .bool true]
  k16 : bb 16 = true → Own w 0 5 (v 201) d.key.length d.key ∧ Own w 0 5 (v 202) d.val.length d.val ∧ (bb 21 = true → ∀ g, v 21 = .pointer (some ⟨g, 0, none⟩) → ¬ (v 201).ownBlock = some g ∧ ¬ (v 202).ownBlock = some g)
  s17 : bb 17 = true → v 17 = v 16
  s18 : bb 18 = true → v 18 = .agg #[.int .i64 d.ki, v 201, v 202, .int .i64 d.ex]
  s19 : bb 19 = true → v 19 = .int .i64 (d.l : Int)
  s20 : bb 20 = true → v 20 = .bool true
  c21 : bb 21 = true → ∃ g, v 21 = .pointer (some ⟨g, 0, none⟩) ∧ wA.heap.size ≤ g ∧ g < w.heap.size ∧ Soft w g ∧ (bb 22 = false → Cells w g [.int .i64 0, .slice none 0 0, .slice none 0 0, .int .i64 0]) ∧ (bb 22 = true → Cells w g [.int .i64 d.ki, v 201, v 202, .int .i64 d.ex])
  f23 : bb 23 = true → v 23 = .int .i64 (d.l : Int)
  f24 : bb 24 = true → v 24 = .bool true
theorem c21_later {w w' : World} {B : Nat} {x : Value} {p : Prop} {l1 l2 : List Value} (hb : Below w.heap.size w w') {b22 : Bool} (h : p → ∃ g, x = .pointer (some ⟨g, 0, none⟩) ∧ B ≤ g ∧ g < w.heap.size ∧ Soft w g ∧ (b22 = false → Cells w g l1) ∧ (b22 = true → Cells w g l2)) :
    p → ∃ g, x = .pointer (some ⟨g, 0, none⟩) ∧ B ≤ g ∧ g < w'.heap.size ∧ Soft w' g ∧ (b22 = false → Cells w' g l1) ∧ (b22 = true → Cells w' g l2) := fun hp => by
  obtain ⟨g, h1, h2, h3, h4, h5, h6⟩ := h hp
  exact ⟨g, h1, h2, Nat.lt_of_lt_of_le h3 hb.size, h4.same (hb.block g h3), fun e => (h5 e).below hb h3, fun e => (h6 e).below hb h3⟩

/-- The three appends of one statement: what has come up (b), what the temporaries hold (v). -/
structure R15 (w7 : World) (p : Nat) (b c f : Int) (A : Option Addr) (n cap : Nat) (bs : List UInt8) (W1 W2 W3 : Value) (m : Nat) (x1 x2 x3 : List Value) (ov lv : Int) (r0 r1 r2 r3 : Value) (g13 : Nat) (bb : Nat → Bool) (v : Nat → Value) (w : World) : Prop where
  pr : Pr w7 w p b c f A n cap bs (v 101) (cond (bb 3) (m + 1) m) (cond (bb 3) (x1 ++ [.int .i64 ov]) x1) (v 102) (cond (bb 7) (m + 1) m) (cond (bb 7) (x2 ++ [.int .i64 lv]) x2) (v 103) (cond (bb 11) (m + 1) m) (cond (bb 11) (x3 ++ [r0, r1, r2, r3]) x3)
  box : Lit w (v 101) (v 102) (v 103) g13 [r0, r1, r2, r3]
  s0 : bb 0 = true → v 0 = W1
  s1 : bb 1 = true → v 1 = .int .i64 ov
  s4 : bb 4 = true → v 4 = W2
  s5 : bb 5 = true → v 5 = .int .i64 lv
  s8 : bb 8 = true → v 8 = W3
  s9 : bb 9 = true → v 9 = .agg #[r0, r1, r2, r3]
  l2 : bb 2 = true → ∃ g, v 2 = .slice (some ⟨g, 0, none⟩) 1 1 ∧ Lit w (v 101) (v 102) (v 103) g [.int .i64 ov]
  l6 : bb 6 = true → ∃ g, v 6 = .slice (some ⟨g, 0, none⟩) 1 1 ∧ Lit w (v 101) (v 102) (v 103) g [.int .i64 lv]
  l10 : bb 10 = true → ∃ g, v 10 = .slice (some ⟨g, 0, none⟩) 1 1 ∧ Lit w (v 101) (v 102) (v 103) g [r0, r1, r2, r3]
  o1 : bb 3 = false → v 101 = W1
  o2 : bb 7 = false → v 102 = W2
  o3 : bb 11 = false → v 103 = W3
  n1 : bb 3 = true → v 3 = v 101
  n2 : bb 7 = true → v 7 = v 102
  n3 : bb 11 = true → v 11 = v 103
  i1 : bb 12 = false → v 12 = W1
  i2 : bb 13 = false → v 13 = W2
  i3 : bb 14 = false → v 14 = W3
  f1 : bb 12 = true → v 12 = v 3
  f2 : bb 13 = true → v 13 = v 7
  f3 : bb 14 = true → v 14 = v 11

set_option maxRecDepth 100000 in
set_option maxHeartbeats 16000000 in
theorem packerRecords_any (a b c d : Int) (rs : List Rc) (Ar : Option Addr) (nr cr : Nat) (At : Option Addr) (nt ct : Nat) (tks : List Bool) (w : World) (ht : TabAt w) (h0 : 0 < w.heap.size) (hb : I64 b) (hc : I64 c)
    (hrs : RAt w w.heap.size Ar nr rs) (htks : Vat w w.heap.size At nt (tks.map Value.bool)) :
    Calls Tryd.prog 6 #[.agg #[.int .i64 a, .int .i64 b, .int .i64 c, .int .i64 d], .slice Ar nr cr, .slice At nt ct] w fun e w' => e = .returned (.bool true) ∧ Below w.heap.size w w' := by
  have HSZ := Lib.hid h0
  have HT : Hid (∀ w', Below w.heap.size w w' → TabAt w') := fun w' hb => ht.below hb h0
  have HTK := Lib.hid htks
  have HRS := Lib.hid hrs
  have j1 : I64 1 := i64_ok (by decide) (by decide)
  have j4 : I64 4 := i64_ok (by decide) (by decide)
  have RF := Lib.hid (refForm_any 1 b c 4 j1 hb hc j4)
  have AW : Hid (∀ w', Below w.heap.size w w' → Calls Tryd.prog 9 #[] w' fun e w'' => e = .returned (.bool true) ∧ Below w'.heap.size w' w'') := fun w' hb => packAwake_any w' (HT.out _ hb) (Nat.lt_of_lt_of_le HSZ.out hb.size)
  have HB0 : Hid (Below w.heap.size w (w.alloc (.cells #[.int .i64 1, .int .i64 b, .int .i64 c, .int .i64 4] 23))) := (Below.refl _ _).alloc (Nat.le_refl _) _
  have HX0 := Lib.hid (Cells.new w 23 #[.int .i64 1, .int .i64 b, .int .i64 c, .int .i64 4])
  clear ht h0 htks hrs
  obtain ⟨fo, hfo⟩ : ∃ fo, form 1 b c 4 = fo := ⟨_, rfl⟩
  rw [hfo] at RF
  cases fo
  · clear hfo
    go_enter Tryd.func6, Tryd.ntmps6
    go_wp2_with (first
      | (go_at_call 8; refine (RF.out _).mono ?_; rintro e w1 ⟨rfl, hbel⟩; have HB1 := Lib.hid (HB0.out.trans (hbel.mono HB0.out.size)); clear hbel)
      | (go_at_call 9; refine (AW.out _ HB1.out).mono ?_; rintro e w2 ⟨rfl, hbel⟩; have HB2 := Lib.hid (HB1.out.trans (hbel.mono HB1.out.size)); clear hbel))
    go_ret
    exact ⟨rfl, HB2.out⟩
  by_cases hc16 : 16 < c
  · clear hfo
    go_enter Tryd.func6, Tryd.ntmps6
    go_wp2_with (first
      | (go_at_call 8; refine (RF.out _).mono ?_; rintro e w1 ⟨rfl, hbel⟩; have HB1 := Lib.hid (HB0.out.trans (hbel.mono HB0.out.size)); have HX1 := Lib.hid (HX0.out.below hbel (by simp)); have l2 := HX1.out 2 _ rfl; clear hbel)
      | (go_at_call 9; refine (AW.out _ HB1.out).mono ?_; rintro e w2 ⟨rfl, hbel⟩; have HB2 := Lib.hid (HB1.out.trans (hbel.mono HB1.out.size)); clear hbel))
    go_ret
    exact ⟨rfl, HB2.out⟩
  obtain ⟨_, _, hbv, h2c, _, _, _, _⟩ := form_true hfo
  have NW : Hid (∀ w, Calls Tryd.prog 10 #[.agg #[.int .i64 1, .int .i64 b, .int .i64 c, .int .i64 4], .int .i64 1, .int .i64 7] w fun e w' => ∃ p, e = .returned (.tuple #[.pointer (some ⟨p, 0, none⟩), .int .i64 0]) ∧ w.heap.size ≤ p ∧ Pk w' p 1 b c 4 (74 + 1 * c) 7 none 0 0 0 [] ∧ Below w.heap.size w w') := fun w =>
    pnew_any 1 b c 4 1 7 j1 hb hc j4 hfo (by decide) (by decide) (by decide) w
  have HCP : Hid (capS 1 b c 4 = (c - 1) * 59) := by show _ = _; rw [capS, if_pos hfo]
  clear hfo
  go_enter Tryd.func6, Tryd.ntmps6
  go_upto_block 0 with (first
    | (go_at_call 8; refine (RF.out _).mono ?_; rintro e w1 ⟨rfl, hbel⟩; have HB1 := Lib.hid (HB0.out.trans (hbel.mono HB0.out.size)); have HX1 := Lib.hid (HX0.out.below hbel (by simp)); have l0 := HX1.out 0 _ rfl; have l1 := HX1.out 1 _ rfl; have l2 := HX1.out 2 _ rfl; have l3 := HX1.out 3 _ rfl; clear hbel)
    | (go_at_call 10; refine (NW.out _).mono ?_; rintro e w7 ⟨p, rfl, hp, hpk, hbel⟩; have HP3 := Lib.hid hpk; have HB3 := Lib.hid (HB1.out.trans (hbel.mono HB1.out.size)); have HPL := Lib.hid (Nat.lt_of_lt_of_le HX1.out.lt hp); have HX3 := Lib.hid (HX1.out.below hbel HX1.out.lt); clear hbel hpk hp l0 l1 l2 l3))
  obtain ⟨cp, hcp⟩ : ∃ cp, (c - 1) * 59 = cp := ⟨_, rfl⟩
  have HCPV : Hid ((c - 1) * 59 = cp) := hcp
  have HCP2 : Hid (capS 1 b c 4 = cp) := HCP.out.trans hcp
  have hcpr : 59 ≤ cp ∧ cp ≤ 885 := by omega
  obtain ⟨f, hf⟩ : ∃ f, 74 + 1 * c = f := ⟨_, rfl⟩
  have hfr : 76 ≤ f ∧ f ≤ 90 := by omega
  rw [hf] at HP3
  have HJ := Lib.hid (show I64 1 ∧ I64 b ∧ I64 c ∧ I64 4 from ⟨j1, hb, hc, j4⟩)
  have hplt := HP3.out.lt
  have HPL7 := Lib.hid hplt
  have h0p : 0 < p := Nat.lt_of_le_of_lt (Nat.zero_le _) HPL.out
  have HBV := Lib.hid hbv
  have HLow : Hid (∀ wx, Keep w7 wx (fun k => k = p) → Below w.heap.size w wx) := fun wx hk => HB3.out.trans (hk.below (fun k e => by subst e; exact Nat.le_of_lt HPL.out) HB3.out.size)
  have HLow7 : Hid (∀ wx, Keep w7 wx (fun k => k = p) → wx.heap[w.heap.size]? = w7.heap[w.heap.size]?) := fun wx hk => hk.block _ HX3.out.lt (fun e => by have := HPL.out; omega)
  have HPR0 : Hid (Pr w7 w7 p b c f none 0 0 [] (.slice none 0 0) 0 [] (.slice none 0 0) 0 [] (.slice none 0 0) 0 []) :=
    ⟨HP3.out, Keep.refl _ _, hplt, fun g e => by simp [Value.ownBlock] at e, Vec.nil _ _ _, Vec.nil _ _ _, ⟨rfl, .inl ⟨rfl, rfl⟩⟩, fun g e => by simp [Value.ownBlock] at e, fun g e => by simp [Value.ownBlock] at e, fun g e => by simp [Value.ownBlock] at e, fun g e => by simp [Value.ownBlock] at e, fun g e => by simp [Value.ownBlock] at e, fun g e => by simp [Value.ownBlock] at e⟩
  clear HB0 HX0 HB1 HX1 HCP NW RF hcp hf hbv HP3
  go_cut [9, 10, 11] (fun ov lv dv wx => ∃ (m n : Nat) (A : Option Addr) (cap : Nat) (bs : List UInt8) (L : List Dn) (A1 : Option Addr) (c1 : Nat) (A2 : Option Addr) (c2 : Nat) (A3 : Option Addr) (c3 : Nat), ov = .slice A1 m c1 ∧ lv = .slice A2 m c2 ∧ dv = .slice A3 m c3 ∧ (n : Int) ≤ cp ∧ Pr w7 wx p b c f A n cap bs ov m (L.map fun d => .int .i64 (d.o : Int)) lv m (L.map fun d => .int .i64 (d.l : Int)) dv m (L.flatMap Dn.cells) ∧ (∀ d ∈ L, d.good w b bs) ∧ m ≤ 12)
  case first =>
    go_wp2_with fail
    go_loopw [9, 10, 11, 12] (fun o9 o10 o11 iv wr => ∃ (ov lv dv : Value) (i m n : Nat) (A : Option Addr) (cap : Nat) (bs : List UInt8) (L : List Dn), ov = o9 ∧ lv = o10 ∧ dv = o11 ∧ iv = .int .i64 (i : Int) ∧ i ≤ 12 ∧ i ≤ nr ∧ m ≤ i ∧ (n : Int) ≤ cp ∧ Pr w7 wr p b c f A n cap bs ov m (L.map fun d => .int .i64 (d.o : Int)) lv m (L.map fun d => .int .i64 (d.l : Int)) dv m (L.flatMap Dn.cells) ∧ (∀ d ∈ L, d.good w b bs)) (fun _ _ _ iv _ => 12 - (intOf iv).toNat)
    case atStart => exact ⟨_, _, _, 0, 0, 0, none, 0, [], [], rfl, rfl, rfl, rfl, by omega, by omega, by omega, by omega, HPR0.out, fun d hd => by cases hd⟩
    case round =>
      obtain ⟨ov, lv, dv, i, m, n, A, cap, bs, L, rfl, rfl, rfl, rfl, hi, hinr, hmi, hn, hpr, hgood⟩ := hrel
      have HF := Lib.hid hpr
      have HG := Lib.hid hgood
      clear hpr hgood
      by_cases hin : i < nr
      rotate_left
      · have hin1 : ¬ (i : Int) < (nr : Int) := by omega
        clear hin
        go_wp2_with fail
        go_meet
        obtain ⟨B1, d1, e1, _⟩ := row_form HF.out.r1
        obtain ⟨B2, d2, e2, _⟩ := row_form HF.out.r2
        obtain ⟨B3, d3, e3, _⟩ := row_form HF.out.r3
        exact ⟨m, n, A, cap, bs, L, B1, d1, B2, d2, B3, d3, e1, e2, e3, hn, HF.out, HG.out, by omega⟩
      have hin1 : (i : Int) < (nr : Int) := by omega
      by_cases hi12 : i = 12
      · subst hi12
        go_wp2_with fail
        go_meet
        obtain ⟨B1, d1, e1, _⟩ := row_form HF.out.r1
        obtain ⟨B2, d2, e2, _⟩ := row_form HF.out.r2
        obtain ⟨B3, d3, e3, _⟩ := row_form HF.out.r3
        exact ⟨m, n, A, cap, bs, L, B1, d1, B2, d2, B3, d3, e1, e2, e3, hn, HF.out, HG.out, by omega⟩
      have hi1 : (i : Int) < 12 := by omega
      have hi0 : (0 : Int) ≤ (i : Int) := by omega
      have hile : i + 1 ≤ 12 := by omega
      have hile2 : i + 1 ≤ nr := by omega
      have hn9 : n ≤ 885 := by omega
      obtain ⟨r, ad, _, rfl, hadlt, hrc⟩ := HRS.out.get hin
      have hrc' := hrc.below (HLow.out _ HF.out.keep) (by rw [addr_block]; exact hadlt)
      obtain ⟨ki, Ak, nk, ck, key, Av, nv, cv, val, ex⟩ := r
      obtain ⟨z0, z1, z2, z3, _, _, _⟩ := hrc'
      obtain ⟨_, _, _, _, hky, hvl, hok⟩ := hrc
      dsimp only at z0 z1 z2 z3 hky hvl
      obtain ⟨_, _, k1, k2, k3, k4⟩ := hok
      dsimp only at k1 k2 k3 k4
      obtain ⟨mk, hmk, hmk1, hmk2⟩ := short_len nk 260
      obtain ⟨mv, hmv, hmv1, hmv2⟩ := short_len nv 200
      have SH := Lib.hid (short_any ki ex Ak Av nk ck nv cv mk mv k1 k3 k2 k4 hmk hmv wr)
      obtain ⟨r, hr⟩ : ∃ r, rencS b 7 (n : Int) ki ex (key.take mk) (val.take mv) = r := ⟨_, rfl⟩
      have HR := Lib.hid hr
      have HKV : Hid (Byt w w.heap.size Ak mk (key.take mk) ∧ Byt w w.heap.size Av mv (val.take mv)) := ⟨hky.take hmk1, hvl.take hmv1⟩
      have PT : Hid (∀ (wx : World) (AA : Option Addr) (cc : Nat), Below w.heap.size w wx → Pk wx p 1 b c 4 f 7 AA n cc 0 bs → Calls Tryd.prog 11 #[.pointer (some ⟨p, 0, none⟩), .agg #[.int .i64 ki, .slice Ak mk ck, .slice Av mv cv, .int .i64 ex]] wx (PPut p 1 b c 4 f 7 0 cp AA n cc bs r wx)) := fun wx AA cc hbx hpk =>
        pput_any 1 b c 4 f 7 0 cp p AA n cc bs ki ex (key.take mk) (val.take mv) Ak Av mk ck mv cv w.heap.size wx (HT.out _ hbx) (Nat.lt_of_lt_of_le HSZ.out hbx.size) hpk HJ.out.1 HJ.out.2.1 HJ.out.2.2.1 HJ.out.2.2.2 HCP2.out (by omega) (HKV.out.1.below hbx) (HKV.out.2.below hbx) hbx.size (by omega) (by omega) (by decide) r hr
      clear hr hky hvl hmk hmv k1 k2 k3 k4 hi12 hin hadlt
      go_upto_region 13 with (go_at_call 17; refine SH.out.mono ?_; rintro e w1 ⟨rfl, hb1⟩; have HF1 := Lib.hid (HF.out.later hb1); clear hb1)
      have HF1' := Lib.hid (HF1.out.later (below_alloc w1 (.cells #[.int .i64 ki, .slice Ak mk ck, .slice Av mv cv, .int .i64 ex] 33)))
      have HR1 := Lib.hid (HF1.out.lit #[.int .i64 ki, .slice Ak mk ck, .slice Av mv cv, .int .i64 ex] 33)
      clear z0 z1 z2 z3
      have HNB := Lib.hid HF.out.pk.own.len
      by_cases hz : r.2 = 0 ∧ ¬ cp - n < r.1.length
      rotate_left
      · have HZ := Lib.hid hz
        clear hz
        go_upto_region 14 with (go_at_call 11; (with_reducible refine (PT.out _ A cap (HLow.out _ HF1'.out.keep) HF1'.out.pk).mono ?_); intro e w2 hput; obtain ⟨er, her, rfl, hbel⟩ := put_bad HZ.out hput; have HFt := Lib.hid (HF1'.out.later hbel); clear hput hbel)
        have HGt := HG
        have hmt : m ≤ i + 1 := by omega
        have hnt := hn
        clear HR1 HF1 HF1' PT HKV SH HZ
        have h885 : n ≤ 885 := by omega
        have hpad : ((n + padK n : Nat) : Int) ≤ cp := by
          have h1 := padK_dvd n
          have h2 := padK_lt n
          have h3 := HCPV.out
          omega
        by_cases hit : i < nt
        · obtain ⟨x, ad', hx1, rfl, _, hxc⟩ := (HTK.out.below (HLow.out _ HFt.out.keep)).get hit
          obtain ⟨tb, rfl⟩ := bool_in hx1
          have hit1 : (i : Int) < (nt : Int) := by omega
          clear hx1 hit
          cases tb
          · clear hpad
            go_wp2_with fail
            go_roundw
            case rel => exact ⟨_, _, _, i + 1, m, n, A, cap, bs, L, rfl, rfl, rfl, by go_num, hile, hile2, hmt, hnt, HFt.out, HGt.out⟩
            case measure => simp [intOf]; omega
          · go_wp2_with (go_at_call 15; (with_reducible refine (pad_any 1 b c 4 f 7 0 p A n cap bs (by omega) _ HFt.out.pk).mono ?_); rintro e w5 ⟨rfl, A5, c5, hg⟩; have HF5 := Lib.hid (HFt.out.put hg.pk hg.far hg.born); clear hg)
            go_roundw
            case rel => exact ⟨_, _, _, i + 1, m, n + padK n, A5, c5, _, L, rfl, rfl, rfl, by go_num, hile, hile2, hmt, hpad, HF5.out, fun d hd => (HGt.out d hd).app _⟩
            case measure => simp [intOf]; omega
        · have hit1 : ¬ (i : Int) < (nt : Int) := by omega
          clear hit hpad
          go_wp2_with fail
          go_roundw
          case rel => exact ⟨_, _, _, i + 1, m, n, A, cap, bs, L, rfl, rfl, rfl, by go_num, hile, hile2, hmt, hnt, HFt.out, HGt.out⟩
          case measure => simp [intOf]; omega
      have hz2 := hz.2
      have HZ := Lib.hid hz
      obtain ⟨Ln, hLn⟩ : ∃ Ln, r.1.length = Ln := ⟨_, rfl⟩
      rw [hLn] at hz2
      have HLn := Lib.hid hLn
      clear hz hLn
      go_upto_region 15 with (go_at_call 11; go_loud (((with_reducible refine (PT.out _ A cap (HLow.out _ HF1'.out.keep) HF1'.out.pk).mono ?_); intro e w2 hput; obtain ⟨he, A1, c1, hpk, hf, hbo⟩ := pput_good HZ.out.1 HZ.out.2 hput; rw [HLn.out] at he hpk hbo; subst he; have HF2 := Lib.hid (HF1'.out.put hpk hf hbo); have HR2 : Hid (Lit w2 ov lv dv w1.heap.size [.int .i64 ki, .slice Ak mk ck, .slice Av mv cv, .int .i64 ex]) := ⟨Nat.lt_of_lt_of_le HR1.out.lt hf.size, HR1.out.cells.same (hf.block _ HR1.out.lt (fun e => by have := HF1.out.pk.cells.lt; omega) (fun e => by have := HF1.out.pk.own.lt e.symm; omega)), HR1.out.n1, HR1.out.n2, HR1.out.n3⟩; clear hput hpk hf hbo)))
      have HGt : Hid (∀ d ∈ L ++ [⟨n, Ln, ki, Ak, mk, ck, key.take mk, Av, mv, cv, val.take mv, ex⟩], d.good w b (bs ++ r.1)) := by
        intro d hd
        rcases List.mem_append.1 hd with hd | hd
        · exact (HG.out d hd).app _
        · rw [List.mem_singleton.1 hd, ← HR.out]
          exact Dn.good.new (d := ⟨n, Ln, ki, Ak, mk, ck, key.take mk, Av, mv, cv, val.take mv, ex⟩) HNB.out rfl (by rw [HR.out]; exact HLn.out.symm) HKV.out.1 HKV.out.2 (by omega) (by omega) (by rw [HR.out]; exact HZ.out.1)
      clear HR1 HF1 HF1' PT HKV SH HZ
      have hmt : m + 1 ≤ i + 1 := by omega
      have hnt : ((n + Ln : Nat) : Int) ≤ cp := by omega
      go_cut [9, 10, 11] (fun ov lv dv wx => Pr w7 wx p b c f A1 (n + Ln) c1 (bs ++ r.1) ov (m + 1) ((L.map fun d => .int .i64 (d.o : Int)) ++ [.int .i64 (n : Int)]) lv (m + 1) ((L.map fun d => .int .i64 (d.l : Int)) ++ [.int .i64 (Ln : Int)]) dv (m + 1) ((L.flatMap Dn.cells) ++ [.int .i64 ki, .slice Ak mk ck, .slice Av mv cv, .int .i64 ex]))
      case first =>
        refine wp_region_inv (F := ?F) (R15 w7 p b c f A1 (n + Ln) c1 (bs ++ r.1) ov lv dv m (L.map fun d => .int .i64 (d.o : Int)) (L.map fun d => .int .i64 (d.l : Int)) (L.flatMap Dn.cells) (n : Int) (Ln : Int) (.int .i64 ki) (.slice Ak mk ck) (.slice Av mv cv) (.int .i64 ex) w1.heap.size) (fun u => upd (upd (upd u 101 ov) 102 lv) 103 dv) ?hF (by kernel_rfl) (by kernel_rfl) ?ha ?h0 ?hs ?hfin
        case hF =>
          intro v
          simp only [putsAll, Act.put, List.setIfInBounds_toArray, List.set_cons_zero, List.set_cons_succ]
          rfl
        case ha =>
          simp only [putsAll, Act.put, List.setIfInBounds_toArray, List.set_cons_zero, List.set_cons_succ]
          rfl
        case h0 =>
          exact { pr := HF2.out.later (below_drew _), box := HR2.out.later (below_drew _), s0 := nofun, s1 := nofun, s4 := nofun, s5 := nofun, s8 := nofun, s9 := nofun, l2 := nofun, l6 := nofun, l10 := nofun, o1 := fun _ => rfl, o2 := fun _ => rfl, o3 := fun _ => rfl, n1 := nofun, n2 := nofun, n3 := nofun, i1 := fun _ => rfl, i2 := fun _ => rfl, i3 := fun _ => rfl, f1 := nofun, f2 := nofun, f3 := nofun }
        case hs =>
          clear HF HG HGt HF2 HR2
          refine ⟨?_, ?_, ?_, ?_, ?_, ?_, ?_, ?_, ?_, ?_, ?_, ?_, ?_, ?_, ?_, trivial⟩
          · intro b5 v w5 hR hc hb hp K hK
            (try simp [Region.binds] at hp)
            have h12 : b5 12 = false := hc.neg (by kernel_rfl) hb
            clear hc
            go_simp
            exact hK (upd v 0 (v 12)) _ { hR with s0 := fun _ => hR.i1 h12 }
          · intro b5 v w5 hR hc hb hp K hK
            (try simp [Region.binds] at hp)
            clear hc
            go_simp
            exact hK (upd v 1 _) _ { hR with s1 := fun _ => rfl }
          · intro b5 v w5 hR hc hb hp K hK
            (try simp [Region.binds] at hp)
            clear hc
            have e1 := hR.s1 hp
            go_simp
            exact hK (upd (upd v 2 _) 1 _) _ { hR with s1 := fun _ => rfl, pr := hR.pr.later (below_alloc _ _), box := hR.box.later (below_alloc _ _), l2 := fun _ => ⟨w5.heap.size, rfl, hR.pr.lit #[.int .i64 (n : Int)] 3⟩, l6 := fun h => let ⟨g, e, hl⟩ := hR.l6 h; ⟨g, e, hl.later (below_alloc _ _)⟩, l10 := fun h => let ⟨g, e, hl⟩ := hR.l10 h; ⟨g, e, hl.later (below_alloc _ _)⟩ }
          · intro b5 v w5 hR hc hb hp K hK
            (try simp [Region.binds] at hp)
            have h12 : b5 12 = false := hc.neg (by kernel_rfl) hb
            clear hc
            obtain ⟨g, eg, hl⟩ := hR.l2 (by simp [hp])
            have pr := hR.pr
            rw [hb] at pr
            have eV := hR.o1 hb
            refine step_append_vec rfl Tryd.intw (.tmp 63) (.tmp 65) rfl ((hR.s0 (by simp [hp])).trans eV.symm) pr.r1 eg hl.vat (by intro u hu; rw [List.mem_singleton.1 hu]; rfl) ?_ pr.keep.size ?_
            · show m + 1 ≤ _; omega
            intro A7 c7 w6 hv hg ha
            exact hK (upd (upd v 3 (.slice A7 (m + 1) c7)) 101 (.slice A7 (m + 1) c7)) w6 { hR with pr := pr.app1 hv hg ha, box := hR.box.app1 hg ha, l2 := fun h => let ⟨g, e, hl⟩ := hR.l2 h; ⟨g, e, hl.app1 hg ha⟩, l6 := fun h => let ⟨g, e, hl⟩ := hR.l6 h; ⟨g, e, hl.app1 hg ha⟩, l10 := fun h => let ⟨g, e, hl⟩ := hR.l10 h; ⟨g, e, hl.app1 hg ha⟩, o1 := fun h => Bool.noConfusion (show true = false from h), n1 := fun _ => rfl, f1 := fun h => absurd (h12.symm.trans h) (by decide) }
          · intro b5 v w5 hR hc hb hp K hK
            (try simp [Region.binds] at hp)
            have h13 : b5 13 = false := hc.neg (by kernel_rfl) hb
            clear hc
            go_simp
            exact hK (upd v 4 (v 13)) _ { hR with s4 := fun _ => hR.i2 h13 }
          · intro b5 v w5 hR hc hb hp K hK
            (try simp [Region.binds] at hp)
            clear hc
            go_simp
            exact hK (upd v 5 _) _ { hR with s5 := fun _ => rfl }
          · intro b5 v w5 hR hc hb hp K hK
            (try simp [Region.binds] at hp)
            clear hc
            have e5 := hR.s5 hp
            go_simp
            exact hK (upd (upd v 6 _) 5 _) _ { hR with s5 := fun _ => rfl, pr := hR.pr.later (below_alloc _ _), box := hR.box.later (below_alloc _ _), l2 := fun h => let ⟨g, e, hl⟩ := hR.l2 h; ⟨g, e, hl.later (below_alloc _ _)⟩, l6 := fun _ => ⟨w5.heap.size, rfl, hR.pr.lit #[.int .i64 (Ln : Int)] 3⟩, l10 := fun h => let ⟨g, e, hl⟩ := hR.l10 h; ⟨g, e, hl.later (below_alloc _ _)⟩ }
          · intro b5 v w5 hR hc hb hp K hK
            (try simp [Region.binds] at hp)
            have h13 : b5 13 = false := hc.neg (by kernel_rfl) hb
            clear hc
            obtain ⟨g, eg, hl⟩ := hR.l6 (by simp [hp])
            have pr := hR.pr
            rw [hb] at pr
            have eV := hR.o2 hb
            refine step_append_vec rfl Tryd.intw (.tmp 67) (.tmp 69) rfl ((hR.s4 (by simp [hp])).trans eV.symm) pr.r2 eg hl.vat (by intro u hu; rw [List.mem_singleton.1 hu]; rfl) ?_ pr.keep.size ?_
            · show m + 1 ≤ _; omega
            intro A7 c7 w6 hv hg ha
            exact hK (upd (upd v 7 (.slice A7 (m + 1) c7)) 102 (.slice A7 (m + 1) c7)) w6 { hR with pr := pr.app2 hv hg ha, box := hR.box.app2 hg ha, l2 := fun h => let ⟨g, e, hl⟩ := hR.l2 h; ⟨g, e, hl.app2 hg ha⟩, l6 := fun h => let ⟨g, e, hl⟩ := hR.l6 h; ⟨g, e, hl.app2 hg ha⟩, l10 := fun h => let ⟨g, e, hl⟩ := hR.l10 h; ⟨g, e, hl.app2 hg ha⟩, o2 := fun h => Bool.noConfusion (show true = false from h), n2 := fun _ => rfl, f2 := fun h => absurd (h13.symm.trans h) (by decide) }
          · intro b5 v w5 hR hc hb hp K hK
            (try simp [Region.binds] at hp)
            have h14 : b5 14 = false := hc.neg (by kernel_rfl) hb
            clear hc
            go_simp
            exact hK (upd v 8 (v 14)) _ { hR with s8 := fun _ => hR.i3 h14 }
          · intro b5 v w5 hR hc hb hp K hK
            (try simp [Region.binds] at hp)
            clear hc
            have y0 := hR.box.cells 0 _ rfl; have y1 := hR.box.cells 1 _ rfl; have y2 := hR.box.cells 2 _ rfl; have y3 := hR.box.cells 3 _ rfl
            go_simp
            exact hK (upd v 9 _) _ { hR with s9 := fun _ => rfl }
          · intro b5 v w5 hR hc hb hp K hK
            (try simp [Region.binds] at hp)
            clear hc
            have e9 := hR.s9 hp
            go_simp
            exact hK (upd (upd v 10 _) 9 _) _ { hR with s9 := fun _ => rfl, pr := hR.pr.later (below_alloc _ _), box := hR.box.later (below_alloc _ _), l2 := fun h => let ⟨g, e, hl⟩ := hR.l2 h; ⟨g, e, hl.later (below_alloc _ _)⟩, l6 := fun h => let ⟨g, e, hl⟩ := hR.l6 h; ⟨g, e, hl.later (below_alloc _ _)⟩, l10 := fun _ => ⟨w5.heap.size, rfl, hR.pr.lit #[.int .i64 ki, .slice Ak mk ck, .slice Av mv cv, .int .i64 ex] 33⟩ }
          · intro b5 v w5 hR hc hb hp K hK
            (try simp [Region.binds] at hp)
            have h14 : b5 14 = false := hc.neg (by kernel_rfl) hb
            clear hc
            obtain ⟨g, eg, hl⟩ := hR.l10 (by simp [hp])
            have pr := hR.pr
            rw [hb] at pr
            have eV := hR.o3 hb
            refine step_append_wide_at (m := 1) rfl Tryd.recw (.tmp 71) (.tmp 73) rfl ((hR.s8 (by simp [hp])).trans eV.symm) pr.r3 eg rfl (cells_add hl.cells) (by intro u hu; simp at hu; rcases hu with rfl | rfl | rfl | rfl <;> rfl) ?_ pr.keep.size ?_
            · show m + 1 ≤ _; omega
            intro V7 w6 hv hg ha
            exact hK (upd (upd v 11 V7) 103 V7) w6 { hR with pr := pr.app3 hv hg ha, box := hR.box.app3 hg ha, l2 := fun h => let ⟨g, e, hl⟩ := hR.l2 h; ⟨g, e, hl.app3 hg ha⟩, l6 := fun h => let ⟨g, e, hl⟩ := hR.l6 h; ⟨g, e, hl.app3 hg ha⟩, l10 := fun h => let ⟨g, e, hl⟩ := hR.l10 h; ⟨g, e, hl.app3 hg ha⟩, o3 := fun h => Bool.noConfusion (show true = false from h), n3 := fun _ => rfl, f3 := fun h => absurd (h14.symm.trans h) (by decide) }
          · intro b5 v w5 hR hc hb hp K hK
            (try simp [Region.binds] at hp)
            clear hc
            go_simp
            exact hK (upd v 12 (v 3)) _ { hR with f1 := fun _ => rfl, i1 := fun h => Bool.noConfusion (show true = false from h) }
          · intro b5 v w5 hR hc hb hp K hK
            (try simp [Region.binds] at hp)
            clear hc
            go_simp
            exact hK (upd v 13 (v 7)) _ { hR with f2 := fun _ => rfl, i2 := fun h => Bool.noConfusion (show true = false from h) }
          · intro b5 v w5 hR hc hb hp K hK
            (try simp [Region.binds] at hp)
            clear hc
            go_simp
            exact hK (upd v 14 (v 11)) _ { hR with f3 := fun _ => rfl, i3 := fun h => Bool.noConfusion (show true = false from h) }
        case hfin =>
          intro b5 v w5 hall hR
          have q3 := hall 3 (by decide); have q7 := hall 7 (by decide); have q11 := hall 11 (by decide)
          have g1 := (hR.f1 (hall 12 (by decide))).trans (hR.n1 q3)
          have g2 := (hR.f2 (hall 13 (by decide))).trans (hR.n2 q7)
          have g3 := (hR.f3 (hall 14 (by decide))).trans (hR.n3 q11)
          have pr := hR.pr
          rw [q3, q7, q11, ← g1, ← g2, ← g3] at pr
          have HPR := Lib.hid pr
          clear hR hall q3 q7 q11 g1 g2 g3 pr
          go_wp2_with fail
          (try go_simp)
          go_meet
          exact HPR.out
      case rest =>
        have hx := hcut
        have eq1 : (L.map fun d : Dn => Value.int .i64 (d.o : Int)) ++ [.int .i64 (n : Int)] = (L ++ [(⟨n, Ln, ki, Ak, mk, ck, key.take mk, Av, mv, cv, val.take mv, ex⟩ : Dn)]).map fun d : Dn => Value.int .i64 (d.o : Int) := by simp
        have eq2 : (L.map fun d : Dn => Value.int .i64 (d.l : Int)) ++ [.int .i64 (Ln : Int)] = (L ++ [(⟨n, Ln, ki, Ak, mk, ck, key.take mk, Av, mv, cv, val.take mv, ex⟩ : Dn)]).map fun d : Dn => Value.int .i64 (d.l : Int) := by simp
        have eq3 : (L.flatMap Dn.cells) ++ [.int .i64 ki, .slice Ak mk ck, .slice Av mv cv, .int .i64 ex] = (L ++ [(⟨n, Ln, ki, Ak, mk, ck, key.take mk, Av, mv, cv, val.take mv, ex⟩ : Dn)]).flatMap Dn.cells := by simp [Dn.cells]
        rw [eq1, eq2, eq3] at hx
        have HFt := Lib.hid hx
        clear hx hcut eq1 eq2 eq3 HF2 HR2
        obtain ⟨wA, hwA⟩ : ∃ x, x = wc := ⟨_, rfl⟩
        subst hwA
        have h885 : (n + Ln) ≤ 885 := by omega
        have hpad : (((n + Ln) + padK (n + Ln) : Nat) : Int) ≤ cp := by
          have h1 := padK_dvd (n + Ln)
          have h2 := padK_lt (n + Ln)
          have h3 := HCPV.out
          omega
        by_cases hit : i < nt
        · obtain ⟨x, ad', hx1, rfl, _, hxc⟩ := (HTK.out.below (HLow.out _ HFt.out.keep)).get hit
          obtain ⟨tb, rfl⟩ := bool_in hx1
          have hit1 : (i : Int) < (nt : Int) := by omega
          clear hx1 hit
          cases tb
          · clear hpad
            go_wp2_with fail
            go_roundw
            case rel => exact ⟨_, _, _, i + 1, (m + 1), (n + Ln), A1, c1, (bs ++ r.1), (L ++ [(⟨n, Ln, ki, Ak, mk, ck, key.take mk, Av, mv, cv, val.take mv, ex⟩ : Dn)]), rfl, rfl, rfl, by go_num, hile, hile2, hmt, hnt, HFt.out, HGt.out⟩
            case measure => simp [intOf]; omega
          · go_wp2_with (go_at_call 15; (with_reducible refine (pad_any 1 b c 4 f 7 0 p A1 (n + Ln) c1 (bs ++ r.1) (by omega) _ HFt.out.pk).mono ?_); rintro e w5 ⟨rfl, A5, c5, hg⟩; have HF5 := Lib.hid (HFt.out.put hg.pk hg.far hg.born); clear hg)
            go_roundw
            case rel => exact ⟨_, _, _, i + 1, (m + 1), (n + Ln) + padK (n + Ln), A5, c5, _, (L ++ [(⟨n, Ln, ki, Ak, mk, ck, key.take mk, Av, mv, cv, val.take mv, ex⟩ : Dn)]), rfl, rfl, rfl, by go_num, hile, hile2, hmt, hpad, HF5.out, fun d hd => (HGt.out d hd).app _⟩
            case measure => simp [intOf]; omega
        · have hit1 : ¬ (i : Int) < (nt : Int) := by omega
          clear hit hpad
          go_wp2_with fail
          go_roundw
          case rel => exact ⟨_, _, _, i + 1, (m + 1), (n + Ln), A1, c1, (bs ++ r.1), (L ++ [(⟨n, Ln, ki, Ak, mk, ck, key.take mk, Av, mv, cv, val.take mv, ex⟩ : Dn)]), rfl, rfl, rfl, by go_num, hile, hile2, hmt, hnt, HFt.out, HGt.out⟩
          case measure => simp [intOf]; omega
  case rest =>
    obtain ⟨m, n, A, cap, bs, L, A1, c1, A2, c2, A3, c3, rfl, rfl, rfl, hn, hpr, hgood, hm12⟩ := hcut
    obtain ⟨wA, hwA⟩ : ∃ x, x = wc := ⟨_, rfl⟩
    subst hwA
    have HF := Lib.hid hpr
    have HG := Lib.hid hgood
    have HLm : Hid (L.length = m) := by have := hpr.r1.len; rw [List.length_map] at this; exact this
    have HBA := Lib.hid (HLow.out _ hpr.keep)
    have HXA : Hid (Cells wA w.heap.size [.int .i64 1, .int .i64 b, .int .i64 c, .int .i64 4]) := HX3.out.same (HLow7.out _ hpr.keep)
    have HxA := Lib.hid HXA.out.lt
    obtain ⟨_, _, _, _, hc2, _⟩ := row_form hpr.r2
    clear hpr hgood
    have hm0 : (0 : Int) ≤ (m : Int) := by omega
    go_wp2_with fail
    go_loopw [89] (fun iv wr => ∃ i : Nat, iv = .int .i64 (i : Int) ∧ i ≤ m ∧ Below wA.heap.size wA wr) (fun iv _ => m - (intOf iv).toNat)
    case atStart => exact ⟨0, rfl, by omega, Below.refl _ _⟩
    case round =>
      obtain ⟨i, rfl, him, hbel⟩ := hrel
      have HBr := Lib.hid hbel
      clear hbel
      by_cases hin : i < m
      rotate_left
      · have hin1 : ¬ (i : Int) < (m : Int) := by omega
        clear hin
        go_wp2_with (go_at_call 9; refine (AW.out _ (HBA.out.trans (HBr.out.mono HBA.out.size))).mono ?_; rintro e w9 ⟨rfl, hbel⟩; have HB9 := Lib.hid ((HBA.out.trans (HBr.out.mono HBA.out.size)).trans (hbel.mono (HBA.out.trans (HBr.out.mono HBA.out.size)).size)); clear hbel)
        go_ret
        exact ⟨rfl, HB9.out⟩
      obtain ⟨g1, rfl⟩ : ∃ g, A1 = some ⟨g, 0, none⟩ := by obtain ⟨_, _, e, _, _, h⟩ := row_form HF.out.r1; injection e with e _ _; rw [e]; exact h (by omega)
      obtain ⟨g2, rfl⟩ : ∃ g, A2 = some ⟨g, 0, none⟩ := by obtain ⟨_, _, e, _, _, h⟩ := row_form HF.out.r2; injection e with e _ _; rw [e]; exact h (by omega)
      obtain ⟨g3, rfl⟩ : ∃ g, A3 = some ⟨g, 0, none⟩ := by obtain ⟨_, _, e, _, _, h⟩ := row_form HF.out.r3; injection e with e _ _; rw [e]; exact h (by omega)
      obtain ⟨d, hd⟩ : ∃ d, L[i]? = some d := ⟨_, List.getElem?_eq_getElem (by rw [HLm.out]; exact hin)⟩
      have hgd := HG.out d (List.mem_of_getElem? hd)
      obtain ⟨seg, hseg⟩ : ∃ seg, (bs.drop d.o).take d.l = seg := ⟨_, rfl⟩
      have hle := hgd.le
      rw [HF.out.pk.own.len] at hle
      have HD1 : Hid (∀ wx, Below wA.heap.size wA wx → wx.cell? ⟨g1, i, none⟩ = some (.int .i64 (d.o : Int))) := fun wx hb => (hb.cell (p := ⟨g1, i, none⟩) ((row_lt HF.out.r1 rfl).2)).trans (row_cell HF.out.r1 (by rw [List.getElem?_map, hd]; rfl))
      have HD2 : Hid (∀ wx, Below wA.heap.size wA wx → wx.cell? ⟨g2, i, none⟩ = some (.int .i64 (d.l : Int))) := fun wx hb => (hb.cell (p := ⟨g2, i, none⟩) ((row_lt HF.out.r2 rfl).2)).trans (row_cell HF.out.r2 (by rw [List.getElem?_map, hd]; rfl))
      have HD3 : Hid (∀ wx, Below wA.heap.size wA wx → ∀ k, k < 4 → wx.cell? ⟨g3, i * 4 + k, none⟩ = d.cells[k]?) := fun wx hb k hk => (hb.cell (p := ⟨g3, i * 4 + k, none⟩) ((row_lt HF.out.r3 rfl).2)).trans (by
        have hx := flat_get hd k hk
        obtain ⟨u, hu⟩ : ∃ u, d.cells[k]? = some u := ⟨_, List.getElem?_eq_getElem (by simp [Dn.cells]; omega)⟩
        rw [hu] at hx ⊢
        exact row_cell HF.out.r3 hx)
      obtain ⟨do_, dl, ki, Ak, nk, ck, key, Av, nv, cv, val, ex⟩ := d
      have hkl : key.length = nk := hgd.bk.len
      have hvl : val.length = nv := hgd.bv.len
      have hnk := hgd.hk
      have hnv := hgd.hv
      have hok := hgd.ok
      have hat := hgd.at_
      dsimp only at hkl hvl hnk hnv hok hat hseg hle
      rw [hseg] at hat
      have hlen : dl = 16 + key.length + val.length := by
        obtain ⟨_, _, _, _, he⟩ := rencS_ok hok
        have h1 : seg.length = dl := by rw [← hseg, List.length_take, List.length_drop, HF.out.pk.own.len]; omega
        rw [← h1, hat, he, rbytes_len]
      have hdec : rdec b 7 (do_ : Int) seg = some ((ki, ex, key, val), 16 + key.length + val.length) := by
        have := rdec_enc hok []
        rw [List.append_nil, ← hat] at this
        exact this
      rw [← hlen] at hdec
      have HKA : Hid (∀ wx, Below wA.heap.size wA wx → Byt wx w.heap.size Ak nk key ∧ Byt wx w.heap.size Av nv val) := fun wx hb => ⟨hgd.bk.below (HBA.out.trans (hb.mono HBA.out.size)), hgd.bv.below (HBA.out.trans (hb.mono HBA.out.size))⟩
      have BYq : Hid (∀ wx, Below wA.heap.size wA wx → Calls Tryd.prog 25 #[.pointer (some ⟨p, 0, none⟩), .int .i64 (do_ : Int), .int .i64 (dl : Int)] wx fun e w' => ∃ A4 c4, e = .returned (.slice A4 dl c4) ∧ Byt w' w'.heap.size A4 dl seg ∧ dl ≤ c4 ∧ c4 ≤ 9223372036854775807 ∧ Below wx.heap.size wx w') := fun wx hb => by
        refine (pbytes_any 1 b c 4 f 7 0 p A n cap bs (by omega) (do_ : Int) (dl : Int) wx (HF.out.pk.below hb)).mono fun e w' h => ?_
        rcases h with ⟨h1, _⟩ | ⟨_, A4, c4, h1, h2, h3, h4, h5⟩
        · exact absurd ⟨by omega, by omega, by omega, by omega⟩ h1
        · simp only [Int.toNat_natCast] at h1 h2 h3
          rw [hseg] at h2
          exact ⟨A4, c4, h1, h2, h3, h4, h5⟩
      have DCq : Hid (∀ (wx : World) A4 c4, Byt wx wx.heap.size A4 dl seg → dl ≤ c4 → c4 ≤ 9223372036854775807 → Calls Tryd.prog 27 #[.int .i64 b, .int .i64 7, .int .i64 (do_ : Int), .slice A4 dl c4] wx (RDecRes (some ((ki, ex, key, val), dl)) wx)) := fun wx A4 c4 h1 h2 h3 =>
        refRDecode_all b 7 (do_ : Int) seg A4 dl c4 wx.heap.size wx h1 h2 h3 (Nat.le_refl _) (by decide) _ hdec
      have hi0 : (0 : Int) ≤ (i : Int) := by omega
      have him1 : (i : Int) < (m : Int) := by omega
      have hile : i + 1 ≤ m := by omega
      have HL := Lib.hid hkl
      have HL2 := Lib.hid hvl
      have HBW := Lib.hid (Nat.le_trans HBA.out.size HBr.out.size)
      clear hd hgd hseg hle hok hat hlen hdec hin hkl hvl
      go_upto_region 21 with fail
      go_cut [18, 19, 20] (fun rp nn ok wx => ∃ (g : Nat) (V5 V6 : Value), rp = .pointer (some ⟨g, 0, none⟩) ∧ nn = .int .i64 (dl : Int) ∧ ok = .bool true ∧ Cells wx g [.int .i64 ki, V5, V6, .int .i64 ex] ∧ Own wx 0 5 V5 key.length key ∧ Own wx 0 5 V6 val.length val ∧ Below wA.heap.size wA wx)
      case first =>
        refine wp_region_inv (F := ?F2) (R21 wA p w.heap.size b (.slice (some ⟨g1, 0, none⟩) m c1) (.slice (some ⟨g2, 0, none⟩) m c2) g1 g2 i ⟨do_, dl, ki, Ak, nk, ck, key, Av, nv, cv, val, ex⟩ seg) id ?hF2 (by kernel_rfl) (by kernel_rfl) ?ha2 ?h02 ?hs2 ?hfin2
        case hF2 =>
          intro v
          simp only [putsAll, Act.put, List.setIfInBounds_toArray, List.set_cons_zero, List.set_cons_succ]
          rfl
        case ha2 =>
          simp only [putsAll, Act.put, List.setIfInBounds_toArray, List.set_cons_zero, List.set_cons_succ]
          rfl
        case h02 =>
          exact { bel := Below.drew HBr.out, s0 := nofun, s1 := nofun, s2 := nofun, s3 := nofun, s4 := nofun, s5 := nofun, s6 := nofun, s7 := nofun, s8 := nofun, s9 := nofun, s10 := nofun, s11 := nofun, s12 := nofun, s13 := nofun, s14 := nofun, c15 := nofun, s16 := nofun, k16 := nofun, s17 := nofun, s18 := nofun, s19 := nofun, s20 := nofun, c21 := nofun, f23 := nofun, f24 := nofun }
        case hs2 =>
          refine ⟨?_, ?_, ?_, ?_, ?_, ?_, ?_, ?_, ?_, ?_, ?_, ?_, ?_, ?_, ?_, ?_, ?_, ?_, ?_, ?_, ?_, ?_, ?_, ?_, ?_, trivial⟩
          · intro b5 v w5 hR hc hb hp K hK
            (try simp [Region.binds] at hp)
            clear hc
            go_simp
            exact hK (upd v 0 _) _ { hR with s0 := fun _ => rfl }
          · intro b5 v w5 hR hc hb hp K hK
            (try simp [Region.binds] at hp)
            clear hc
            have e0 := hR.s0 (by simp [hp])
            have yy := (hR.bel.cell (p := ⟨w.heap.size, 1, none⟩) HxA.out).trans (HXA.out 1 _ rfl)
            go_simp
            exact hK (upd (upd v 1 _) 0 _) _ { hR with s1 := fun _ => rfl, s0 := fun _ => rfl }
          · intro b5 v w5 hR hc hb hp K hK
            (try simp [Region.binds] at hp)
            clear hc
            go_simp
            exact hK (upd v 2 _) _ { hR with s2 := fun _ => rfl }
          · intro b5 v w5 hR hc hb hp K hK
            (try simp [Region.binds] at hp)
            clear hc
            go_simp
            exact hK (upd v 3 _) _ { hR with s3 := fun _ => rfl }
          · intro b5 v w5 hR hc hb hp K hK
            (try simp [Region.binds] at hp)
            clear hc
            have e2 := hR.s2 (by simp [hp])
            have e3 := hR.s3 (by simp [hp])
            go_simp
            exact hK (upd (upd (upd v 4 _) 2 _) 3 _) _ { hR with s4 := fun _ => rfl, s2 := fun _ => rfl, s3 := fun _ => rfl }
          · intro b5 v w5 hR hc hb hp K hK
            (try simp [Region.binds] at hp)
            clear hc
            have e4 := hR.s4 (by simp [hp])
            have yy := HD1.out _ hR.bel
            go_simp
            exact hK (upd (upd v 5 _) 4 _) _ { hR with s5 := fun _ => rfl, s4 := fun _ => rfl }
          · intro b5 v w5 hR hc hb hp K hK
            (try simp [Region.binds] at hp)
            clear hc
            go_simp
            exact hK (upd v 6 _) _ { hR with s6 := fun _ => rfl }
          · intro b5 v w5 hR hc hb hp K hK
            (try simp [Region.binds] at hp)
            clear hc
            go_simp
            exact hK (upd v 7 _) _ { hR with s7 := fun _ => rfl }
          · intro b5 v w5 hR hc hb hp K hK
            (try simp [Region.binds] at hp)
            clear hc
            go_simp
            exact hK (upd v 8 _) _ { hR with s8 := fun _ => rfl }
          · intro b5 v w5 hR hc hb hp K hK
            (try simp [Region.binds] at hp)
            clear hc
            have e7 := hR.s7 (by simp [hp])
            have e8 := hR.s8 (by simp [hp])
            go_simp
            exact hK (upd (upd (upd v 9 _) 7 _) 8 _) _ { hR with s9 := fun _ => rfl, s7 := fun _ => rfl, s8 := fun _ => rfl }
          · intro b5 v w5 hR hc hb hp K hK
            (try simp [Region.binds] at hp)
            clear hc
            have e9 := hR.s9 (by simp [hp])
            have yy := HD1.out _ hR.bel
            go_simp
            exact hK (upd (upd v 10 _) 9 _) _ { hR with s10 := fun _ => rfl, s9 := fun _ => rfl }
          · intro b5 v w5 hR hc hb hp K hK
            (try simp [Region.binds] at hp)
            clear hc
            go_simp
            exact hK (upd v 11 _) _ { hR with s11 := fun _ => rfl }
          · intro b5 v w5 hR hc hb hp K hK
            (try simp [Region.binds] at hp)
            clear hc
            go_simp
            exact hK (upd v 12 _) _ { hR with s12 := fun _ => rfl }
          · intro b5 v w5 hR hc hb hp K hK
            (try simp [Region.binds] at hp)
            clear hc
            have e11 := hR.s11 (by simp [hp])
            have e12 := hR.s12 (by simp [hp])
            go_simp
            exact hK (upd (upd (upd v 13 _) 11 _) 12 _) _ { hR with s13 := fun _ => rfl, s11 := fun _ => rfl, s12 := fun _ => rfl }
          · intro b5 v w5 hR hc hb hp K hK
            (try simp [Region.binds] at hp)
            clear hc
            have e13 := hR.s13 (by simp [hp])
            have yy := HD2.out _ hR.bel
            go_simp
            exact hK (upd (upd v 14 _) 13 _) _ { hR with s14 := fun _ => rfl, s13 := fun _ => rfl }
          · intro b5 v w5 hR hc hb hp K hK
            (try simp [Region.binds] at hp)
            have h22 : b5 22 = false := hc.neg (by kernel_rfl) hb
            have h16 : b5 16 = false := hc.neg (by kernel_rfl) hb
            clear hc
            have e6 := hR.s6 (by simp [hp])
            have e10 := hR.s10 (by simp [hp])
            have e14 := hR.s14 (by simp [hp])
            go_simp
            go_wp2_with (go_at_call 25; refine (BYq.out _ hR.bel).mono ?_; rintro e w6 ⟨A4, c4, rfl, hby, h1, h2, hbel⟩)
            exact hK (upd (upd (upd (upd v 15 _) 6 _) 10 _) 14 _) _ { hR with bel := hR.bel.trans (hbel.mono hR.bel.size), c21 := c21_later hbel hR.c21, c15 := fun _ _ => ⟨A4, c4, rfl, hby, h1, h2⟩, s6 := fun _ => rfl, s10 := fun _ => rfl, s14 := fun _ => rfl, s16 := fun h => absurd (h16.symm.trans h) (by decide), k16 := fun h => absurd (h16.symm.trans h) (by decide) }
          · intro b5 v w5 hR hc hb hp K hK
            (try simp [Region.binds] at hp)
            have h22 : b5 22 = false := hc.neg (by kernel_rfl) hb
            have h17 : b5 17 = false := hc.neg (by kernel_rfl) hb
            have h18 : b5 18 = false := hc.neg (by kernel_rfl) hb
            clear hc
            have e1 := hR.s1 (by simp [hp])
            have e5 := hR.s5 (by simp [hp])
            obtain ⟨A4, c4, e15, hby, h1, h2⟩ := hR.c15 (by simp [hp]) h22
            go_simp
            go_wp2_with (go_at_call 27; refine (DCq.out _ A4 c4 hby h1 h2).mono ?_; rintro e w6 ⟨A5, c5, A6, c6, rfl, ho5, ho6, hbel⟩)
            exact hK (upd (upd (upd (upd (upd (upd v 16 _) 1 _) 5 _) 15 _) 201 (.slice A5 key.length c5)) 202 (.slice A6 val.length c6)) _ { hR with bel := hR.bel.trans (hbel.mono hR.bel.size), c21 := fun h => let ⟨g, x1, x2, x3, x4, x5, _⟩ := hR.c21 h; ⟨g, x1, x2, Nat.lt_of_lt_of_le x3 hbel.size, x4.same (hbel.block g x3), fun e => (x5 e).below hbel x3, fun e => absurd (h22.symm.trans e) (by decide)⟩, c15 := fun _ _ => ⟨A4, c4, rfl, (hby.below hbel).more hbel.size, h1, h2⟩, s1 := fun _ => rfl, s5 := fun _ => rfl, s16 := fun _ => rfl, k16 := fun _ => ⟨ho5.mono (Nat.zero_le _), ho6.mono (Nat.zero_le _), fun h g e => by obtain ⟨g', x1, _, x3, _⟩ := hR.c21 h; have e2 := x1.symm.trans e; injection e2 with e2; injection e2 with e2; injection e2 with e2; subst e2; exact ⟨fun h => by have := ho5.ge h; omega, fun h => by have := ho6.ge h; omega⟩⟩, s18 := fun h => absurd (h18.symm.trans h) (by decide), s17 := fun h => absurd (h17.symm.trans h) (by decide) }
          · intro b5 v w5 hR hc hb hp K hK
            (try simp [Region.binds] at hp)
            clear hc
            go_simp
            exact hK (upd v 17 (v 16)) _ { hR with s17 := fun _ => rfl }
          · intro b5 v w5 hR hc hb hp K hK
            (try simp [Region.binds] at hp)
            have p16 : b5 16 = true := hc.pos (i := 17) (j := 16) (by kernel_rfl) (by simp [hp])
            clear hc
            have e17 := (hR.s17 (by simp [hp])).trans (hR.s16 p16)
            go_simp
            exact hK (upd (upd v 18 _) 17 _) _ { hR with s18 := fun _ => rfl, s17 := fun _ => (hR.s16 p16).symm }
          · intro b5 v w5 hR hc hb hp K hK
            (try simp [Region.binds] at hp)
            have p16 : b5 16 = true := hc.pos (i := 17) (j := 16) (by kernel_rfl) (by simp [hp])
            clear hc
            have e17 := (hR.s17 (by simp [hp])).trans (hR.s16 p16)
            go_simp
            exact hK (upd (upd v 19 _) 17 _) _ { hR with s19 := fun _ => rfl, s17 := fun _ => (hR.s16 p16).symm }
          · intro b5 v w5 hR hc hb hp K hK
            (try simp [Region.binds] at hp)
            have p16 : b5 16 = true := hc.pos (i := 17) (j := 16) (by kernel_rfl) (by simp [hp])
            clear hc
            have e17 := (hR.s17 (by simp [hp])).trans (hR.s16 p16)
            go_simp
            exact hK (upd (upd v 20 _) 17 _) _ { hR with s20 := fun _ => rfl, s17 := fun _ => (hR.s16 p16).symm }
          · intro b5 v w5 hR hc hb hp K hK
            (try simp [Region.binds] at hp)
            have h22 : b5 22 = false := hc.neg (by kernel_rfl) hb
            clear hc
            go_simp
            exact hK (upd v 21 _) _ { hR with bel := hR.bel.trans ((below_alloc _ _).mono hR.bel.size), c15 := fun h1 h2 => let ⟨A4, c4, x1, x2, x3, x4⟩ := hR.c15 h1 h2; ⟨A4, c4, x1, (x2.below (below_alloc _ _)).more (below_alloc _ _).size, x3, x4⟩, c21 := fun _ => ⟨w5.heap.size, rfl, hR.bel.size, by simp, Soft.new w5 _ _, fun _ => Cells.new w5 _ _, fun e => absurd (h22.symm.trans e) (by decide)⟩, k16 := fun h1 => let ⟨x1, x2, _⟩ := hR.k16 h1; ⟨x1.keep (below_alloc _ _), x2.keep (below_alloc _ _), fun _ g e => by injection e with e; injection e with e; injection e with e; subst e; exact ⟨fun h => by have := x1.lt h; omega, fun h => by have := x2.lt h; omega⟩⟩ }
          · intro b5 v w5 hR hc hb hp K hK
            (try simp [Region.binds] at hp)
            have p16 : b5 16 = true := hc.pos (i := 18) (j := 16) (by kernel_rfl) (by simp [hp])
            clear hc
            have e18 := hR.s18 (by simp [hp])
            obtain ⟨g, e21, x2, x3, x4, x5, _⟩ := hR.c21 (by simp [hp])
            have x5 := x5 hb
            have y0 := x5 0 _ rfl; have y1 := x5 1 _ rfl; have y2 := x5 2 _ rfl; have y3 := x5 3 _ rfl; have z0 := x4 0; have z1 := x4 1; have z2 := x4 2; have z3 := x4 3
            obtain ⟨a1, a2, a3⟩ := hR.k16 p16
            have a3 := a3 (by simp [hp]) g e21
            have e16 := hR.s16 p16
            obtain ⟨A5, c5, e5, _, _⟩ := a1.form
            obtain ⟨A6, c6, e6, _, _⟩ := a2.form
            rw [e5, e6] at e16 e18 a3
            rw [e5] at a1
            rw [e6] at a2
            clear e5 e6
            have HA := Lib.hid (And.intro e16 (And.intro a1 (And.intro a2 a3))); clear e16 a1 a2 a3
            have HX4 := Lib.hid x4; have HX5 := Lib.hid x5; clear x4 x5
            go_simp
            obtain ⟨r1, r2, r3, r4, r5⟩ := set_four w5 g (.int .i64 ki) (.slice A5 key.length c5) (.slice A6 val.length c6) (.int .i64 ex) rfl
            obtain ⟨e16, a1, a2, a3⟩ := HA.out
            exact hK (upd (upd (upd (upd v 18 (.agg #[.int .i64 ki, .slice A5 key.length c5, .slice A6 val.length c6, .int .i64 ex])) 21 _) 201 (.slice A5 key.length c5)) 202 (.slice A6 val.length c6)) _ { hR with s16 := fun _ => e16, bel := hR.bel.trans (r5 _ x2), c15 := fun _ h => Bool.noConfusion (show true = false from h), s18 := fun _ => rfl, k16 := fun _ => ⟨a1.same (fun k h => r1 k (fun e => a3.1 (by rw [← e]; exact h))), a2.same (fun k h => r1 k (fun e => a3.2 (by rw [← e]; exact h))), fun _ g' e => by injection e with e; injection e with e; injection e with e; subst e; exact a3⟩, c21 := fun _ => ⟨g, rfl, x2, by rw [r2]; exact x3, r4 HX4.out, fun h => Bool.noConfusion (show true = false from h), fun _ => r3 _ _ _ _ HX5.out⟩ }
          · intro b5 v w5 hR hc hb hp K hK
            (try simp [Region.binds] at hp)
            clear hc
            go_simp
            exact hK (upd v 23 (v 19)) _ { hR with f23 := fun _ => hR.s19 (by simp [hp]) }
          · intro b5 v w5 hR hc hb hp K hK
            (try simp [Region.binds] at hp)
            clear hc
            go_simp
            exact hK (upd v 24 (v 20)) _ { hR with f24 := fun _ => hR.s20 (by simp [hp]) }
        case hfin2 =>
          intro b5 v w5 hall hR
          have q16 := hall 16 (by decide); have q21 := hall 21 (by decide); have q22 := hall 22 (by decide)
          obtain ⟨g, e21, _, _, _, _, hcl⟩ := hR.c21 q21
          obtain ⟨o1, o2, _⟩ := hR.k16 q16
          have e23 := hR.f23 (hall 23 (by decide))
          have e24 := hR.f24 (hall 24 (by decide))
          have HC5 := Lib.hid (hcl q22)
          have HO5 := Lib.hid (And.intro o1 o2)
          have HB5 := Lib.hid hR.bel
          clear hR hall q16 q21 q22 hcl o1 o2
          go_wp2_with fail
          (try go_simp)
          go_meet
          exact ⟨g, v 201, v 202, rfl, rfl, rfl, HC5.out, HO5.out.1, HO5.out.2, HB5.out⟩
      case rest =>
        obtain ⟨g, V5, V6, rfl, rfl, rfl, hcl, ho5, ho6, hbel⟩ := hcut
        obtain ⟨wB, hwB⟩ : ∃ x, x = wc := ⟨_, rfl⟩
        subst hwB
        obtain ⟨A5, c5, rfl, _, _⟩ := ho5.form
        obtain ⟨A6, c6, rfl, _, _⟩ := ho6.form
        have HBB := Lib.hid hbel
        have RQ := Lib.hid (fun (dd : Nat) (oo : Array Obj) => Calls.regrown_of (refREq_any ki ex ki ex key val key val A5 A6 Ak Av key.length c5 val.length c6 nk ck nv cv _ _ ((ho5.byt.below (below_regrown _ dd oo)).more (below_regrown _ dd oo).size) ((ho6.byt.below (below_regrown _ dd oo)).more (below_regrown _ dd oo).size) (((HKA.out _ hbel).1.belowBy (below_regrown _ dd oo) (Nat.le_trans HBA.out.size hbel.size)).more (Nat.le_trans (Nat.le_trans HBA.out.size hbel.size) (below_regrown _ dd oo).size)) (((HKA.out _ hbel).2.belowBy (below_regrown _ dd oo) (Nat.le_trans HBA.out.size hbel.size)).more (Nat.le_trans (Nat.le_trans HBA.out.size hbel.size) (below_regrown _ dd oo).size)) (Nat.le_refl _) (by rw [HL.out]; omega) (by rw [HL2.out]; omega) (by omega) (by omega) true (by simp)))
        have y0 := fun dd oo => cell_regrown (hcl 0 _ rfl) dd oo
        have y1 := fun dd oo => cell_regrown (hcl 1 _ rfl) dd oo
        have y2 := fun dd oo => cell_regrown (hcl 2 _ rfl) dd oo
        have y3 := fun dd oo => cell_regrown (hcl 3 _ rfl) dd oo
        have y4 := fun dd oo => cell_regrown (HD2.out _ hbel) dd oo
        have t0 := HD3.out _ hbel 0 (by decide); have t1 := HD3.out _ hbel 1 (by decide); have t2 := HD3.out _ hbel 2 (by decide); have t3 := HD3.out _ hbel 3 (by decide)
        simp only [Dn.cells, List.getElem?_cons_zero, List.getElem?_cons_succ, Nat.add_zero] at t0 t1 t2 t3
        have y5 := fun dd oo => cell_regrown t0 dd oo
        have y6 := fun dd oo => cell_regrown t1 dd oo
        have y7 := fun dd oo => cell_regrown t2 dd oo
        have y8 := fun dd oo => cell_regrown t3 dd oo
        clear t0 t1 t2 t3 hcl ho5 ho6 hbel
        go_upto_region 22 with fail
        refine wp_region_quiet_below (by kernel_rfl) (by kernel_rfl) ?_
        repeat (first | go_big_quiet_step ((go_at_call 28; exact RQ.out _ _)) | quiet_step ((go_at_call 28; exact RQ.out _ _)))
        refine wpQuiet_nil ?_
        intro w6 hw'
        have HB6 := Lib.hid (HBB.out.trans ((below_of_regrown hw').mono HBB.out.size))
        clear hw' y0 y1 y2 y3 y4 y5 y6 y7 y8 RQ
        go_wp2_with fail
        go_roundw
        case rel => exact ⟨i + 1, by go_num, hile, HB6.out⟩
        case measure => simp [intOf]; omega
end Go.Proofs.YtecmopfaeopmdaaDoor
/- Structs by value among the arguments: what a field's cells hold. -/
namespace Go.Proofs.YtecmopfaeopmdaaDoor
open Go.ChangeShapes Go.WideShapes Go.ChangeAt Go.RowKit

section
variable {H : Type} {enc : TypeId × Value → H} {P : Program} {W : World} {fuel : Nat} {t e : TypeId} {fs : Array Field} {cs : List Value} {x : DataW H × List MemPlace}

/-- Bounds of an int. -/
def I64b (n : Int) : Prop := -9223372036854775808 ≤ n ∧ n ≤ 9223372036854775807
/-- A slice of bytes that came in. -/
def BytIn (W : World) (A : Option Addr) (n cap : Nat) (bs : List UInt8) : Prop := Byt W W.heap.size A n bs ∧ n ≤ cap ∧ cap ≤ 9223372036854775807

/-- A struct's field, as it is read. -/
theorem field_at (ht : P.underlying t = some (.struct fs)) (h : DataW.trod enc P W 0 (fun _ => true) true fuel t cs = some x) (i : Nat) (f : Field) (hf : fs[i]? = some f) (o k : Nat) (ho : f.offset = o) (hk : P.cellsOf f.type = k) :
    ∃ n y, DataW.trod enc P W 0 (fun _ => true) true n f.type ((cs.drop o).take k) = some y ∧ ∀ p ∈ y.2, p ∈ x.2 := by
  subst ho hk
  obtain ⟨xs, n, _, hx, _, hlen, hg⟩ := DataW.trod_struct ht h
  have hil : i < fs.size := (Array.getElem?_eq_some_iff.1 hf).1
  have hxi : xs[i]? = some (xs[i]'(by omega)) := List.getElem?_eq_getElem (by omega)
  refine ⟨n, _, (hg i f hf).trans hxi, fun p hp => ?_⟩
  rw [hx]
  exact List.mem_flatMap.2 ⟨_, List.getElem_mem _, hp⟩

theorem int_cell (ht : P.underlying t = some (.int .i64)) (h : DataW.trod enc P W 0 (fun _ => true) true fuel t cs = some x) : ∃ n, cs = [.int .i64 n] ∧ I64b n := by
  obtain ⟨z, hz, _, hw⟩ := DataW.trod_int ht h
  exact ⟨z, hz, i64_of_wf hw⟩
theorem bool_cell (ht : P.underlying t = some .bool) (h : DataW.trod enc P W 0 (fun _ => true) true fuel t cs = some x) : ∃ b, cs = [.bool b] := by
  obtain ⟨b, hb, _⟩ := DataW.trod_bool ht h
  exact ⟨b, hb⟩
theorem bytes_cell (ht : P.underlying t = some (.slice e)) (he : P.underlying e = some (.int .u8)) (hc : P.cellsOf e = 1)
    (h : DataW.trod enc P W 0 (fun _ => true) true fuel t cs = some x) (hlt : ∀ p ∈ x.2, p.block < W.heap.size) :
    ∃ (A : Option Addr) (n cap : Nat) (bs : List UInt8), cs = [.slice A n cap] ∧ BytIn W A n cap bs := by
  rcases open_ints ht he hc h with ⟨hcs, _⟩ | ⟨a, len, cap, zs, hcs, _, hl, hm, hz, hx, hcell, hwz⟩
  · exact ⟨none, 0, 0, [], hcs, Byt.nil _ _ _, by omega, by omega⟩
  · simp only [if_true] at hz
    refine ⟨some a, len, cap, (zs.take len).map fun z => UInt8.ofNat z.toNat, hcs, ⟨by simp; omega, fun hn => ⟨a, rfl, ?_, ?_⟩⟩, hl, by unfold maxLen at hm; omega⟩
    · rw [hx] at hlt
      exact hlt (.cell a.block a.off) (MemPlace.mem_row.2 ⟨0, by omega, by simp⟩)
    · intro j b hj
      simp only [List.getElem?_map, Option.map_eq_some_iff, List.getElem?_take] at hj
      obtain ⟨z, hz1, rfl⟩ := hj
      split at hz1
      · rename_i hjl
        have hjz : j < zs.length := by omega
        have hcj := hcell j hjz
        have hzj : zs.getD j 0 = z := by simp [List.getD, hz1]
        rw [hzj] at hcj
        have hw := u8_of_wf (hwz z (List.mem_of_getElem? hz1))
        rw [hcj]
        congr 2
        simp
        omega
      · cases hz1
/-- An array of four bytes. -/
theorem arr4_cell (ht : P.underlying t = some (.array 4 e)) (he : P.underlying e = some (.int .u8)) (hc : P.cellsOf e = 1) (hl : cs.length = 4)
    (h : DataW.trod enc P W 0 (fun _ => true) true fuel t cs = some x) :
    ∃ x0 x1 x2 x3 : UInt8, cs = [.int .u8 (x0.toNat : Int), .int .u8 (x1.toNat : Int), .int .u8 (x2.toNat : Int), .int .u8 (x3.toNat : Int)] := by
  match cs, hl with
  | [c0, c1, c2, c3], _ =>
    obtain ⟨xs, m, _, _, _, hlen, hg⟩ := DataW.trod_array ht h
    have one : ∀ (i : Nat) (c : Value), i < 4 → (([c0, c1, c2, c3].drop i).take 1 = [c]) → ∃ x : UInt8, c = .int .u8 (x.toNat : Int) := by
      intro i c hi hci
      have h1 := hg i hi
      rw [hc, Nat.mul_one] at h1
      have hx : xs[i]? = some (xs[i]'(by omega)) := List.getElem?_eq_getElem (by omega)
      rw [hx, hci] at h1
      obtain ⟨z, hz, _, hw⟩ := DataW.trod_int he h1
      have hb := u8_of_wf hw
      simp only [List.cons.injEq, and_true] at hz
      refine ⟨UInt8.ofNat z.toNat, ?_⟩
      rw [hz]
      congr 1
      simp
      omega
    obtain ⟨x0, rfl⟩ := one 0 c0 (by decide) rfl
    obtain ⟨x1, rfl⟩ := one 1 c1 (by decide) rfl
    obtain ⟨x2, rfl⟩ := one 2 c2 (by decide) rfl
    obtain ⟨x3, rfl⟩ := one 3 c3 (by decide) rfl
    exact ⟨x0, x1, x2, x3, rfl⟩
end
end Go.Proofs.YtecmopfaeopmdaaDoor
/- Structs by value, opened (tools/mkopen.py). -/
namespace Go.Proofs.YtecmopfaeopmdaaDoor
open Go.ChangeShapes Go.WideShapes Go.ChangeAt Go.RowKit

section
variable {H : Type} {enc : TypeId × Value → H} {W : World}

theorem list_4 {α : Type} {l : List α} (h : l.length = 4) : ∃ c0 c1 c2 c3, l = [c0, c1, c2, c3] := by
  match l, h with
  | [c0, c1, c2, c3], _ => exact ⟨c0, c1, c2, c3, rfl⟩
theorem cells_Record {fuel : Nat} {cs : List Value} {x : DataW H × List MemPlace} (hl : cs.length = 4) (h : DataW.trod enc Tryd.prog W 0 (fun _ => true) true fuel 33 cs = some x) (hlt : ∀ p ∈ x.2, p.block < W.heap.size) :
    ∃ (ki : Int) (Ak : Option Addr) (nk : Nat) (ck : Nat) (bk : List UInt8) (Av : Option Addr) (nv : Nat) (cv : Nat) (bv : List UInt8) (ex : Int), cs = [.int .i64 ki, .slice Ak nk ck, .slice Av nv cv, .int .i64 ex] ∧ I64b ki ∧ BytIn W Ak nk ck bk ∧ BytIn W Av nv cv bv ∧ I64b ex := by
  obtain ⟨m0, y0, hy0, hs0⟩ := field_at Tryd.underlying33 h 0 _ rfl 0 1 (by kernel_rfl) (by kernel_rfl)
  obtain ⟨m1, y1, hy1, hs1⟩ := field_at Tryd.underlying33 h 1 _ rfl 1 1 (by kernel_rfl) (by kernel_rfl)
  obtain ⟨m2, y2, hy2, hs2⟩ := field_at Tryd.underlying33 h 2 _ rfl 2 1 (by kernel_rfl) (by kernel_rfl)
  obtain ⟨m3, y3, hy3, hs3⟩ := field_at Tryd.underlying33 h 3 _ rfl 3 1 (by kernel_rfl) (by kernel_rfl)
  obtain ⟨c0, c1, c2, c3, rfl⟩ := list_4 hl
  have hz0 : DataW.trod enc Tryd.prog W 0 (fun _ => true) true m0 3 [c0] = some y0 := hy0
  obtain ⟨ki, h0, q0⟩ := int_cell Tryd.underlying3 hz0
  have hz1 : DataW.trod enc Tryd.prog W 0 (fun _ => true) true m1 31 [c1] = some y1 := hy1
  obtain ⟨Ak, nk, ck, bk, h1, q1⟩ := bytes_cell Tryd.underlying31 Tryd.underlying5 (by kernel_rfl) hz1 (fun p hp => hlt p (hs1 p hp))
  have hz2 : DataW.trod enc Tryd.prog W 0 (fun _ => true) true m2 31 [c2] = some y2 := hy2
  obtain ⟨Av, nv, cv, bv, h2, q2⟩ := bytes_cell Tryd.underlying31 Tryd.underlying5 (by kernel_rfl) hz2 (fun p hp => hlt p (hs2 p hp))
  have hz3 : DataW.trod enc Tryd.prog W 0 (fun _ => true) true m3 3 [c3] = some y3 := hy3
  obtain ⟨ex, h3, q3⟩ := int_cell Tryd.underlying3 hz3
  simp only [List.cons.injEq, and_true] at h0 h1 h2 h3
  obtain rfl := h0
  obtain rfl := h1
  obtain rfl := h2
  obtain rfl := h3
  exact ⟨ki, Ak, nk, ck, bk, Av, nv, cv, bv, ex, rfl, q0, q1, q2, q3⟩
theorem open_Record {v : Value} {d : DataW H} {ps : List MemPlace} {r : Reach} {b0 : Nat} (hv : Value.okWide Tryd.prog W r b0 33 v) (h : DataW.Trod enc Tryd.prog W 0 (fun _ => true) true 33 v d ps) (hlt : ∀ p ∈ ps, p.block < W.heap.size) :
    ∃ (ki : Int) (Ak : Option Addr) (nk : Nat) (ck : Nat) (bk : List UInt8) (Av : Option Addr) (nv : Nat) (cv : Nat) (bv : List UInt8) (ex : Int), v = .agg #[.int .i64 ki, .slice Ak nk ck, .slice Av nv cv, .int .i64 ex] ∧ I64b ki ∧ BytIn W Ak nk ck bk ∧ BytIn W Av nv cv bv ∧ I64b ex := by
  obtain ⟨cs, rfl, hsz⟩ := okWide_struct Tryd.underlying33 hv
  obtain ⟨fuel, hf⟩ := h
  obtain ⟨ki, Ak, nk, ck, bk, Av, nv, cv, bv, ex, hcs, q0, q1, q2, q3⟩ := cells_Record (cs := cs.toList) (by rw [Array.length_toList, hsz]; kernel_rfl) hf hlt
  exact ⟨ki, Ak, nk, ck, bk, Av, nv, cv, bv, ex, by rw [← Array.toArray_toList (xs := cs), hcs], q0, q1, q2, q3⟩

theorem cells_Layout {fuel : Nat} {cs : List Value} {x : DataW H × List MemPlace} (hl : cs.length = 4) (h : DataW.trod enc Tryd.prog W 0 (fun _ => true) true fuel 23 cs = some x) :
    ∃ (id : Int) (ve : Int) (rs : Int) (rg : Int), cs = [.int .i64 id, .int .i64 ve, .int .i64 rs, .int .i64 rg] ∧ I64b id ∧ I64b ve ∧ I64b rs ∧ I64b rg := by
  obtain ⟨m0, y0, hy0, hs0⟩ := field_at Tryd.underlying23 h 0 _ rfl 0 1 (by kernel_rfl) (by kernel_rfl)
  obtain ⟨m1, y1, hy1, hs1⟩ := field_at Tryd.underlying23 h 1 _ rfl 1 1 (by kernel_rfl) (by kernel_rfl)
  obtain ⟨m2, y2, hy2, hs2⟩ := field_at Tryd.underlying23 h 2 _ rfl 2 1 (by kernel_rfl) (by kernel_rfl)
  obtain ⟨m3, y3, hy3, hs3⟩ := field_at Tryd.underlying23 h 3 _ rfl 3 1 (by kernel_rfl) (by kernel_rfl)
  obtain ⟨c0, c1, c2, c3, rfl⟩ := list_4 hl
  have hz0 : DataW.trod enc Tryd.prog W 0 (fun _ => true) true m0 3 [c0] = some y0 := hy0
  obtain ⟨id, h0, q0⟩ := int_cell Tryd.underlying3 hz0
  have hz1 : DataW.trod enc Tryd.prog W 0 (fun _ => true) true m1 3 [c1] = some y1 := hy1
  obtain ⟨ve, h1, q1⟩ := int_cell Tryd.underlying3 hz1
  have hz2 : DataW.trod enc Tryd.prog W 0 (fun _ => true) true m2 3 [c2] = some y2 := hy2
  obtain ⟨rs, h2, q2⟩ := int_cell Tryd.underlying3 hz2
  have hz3 : DataW.trod enc Tryd.prog W 0 (fun _ => true) true m3 3 [c3] = some y3 := hy3
  obtain ⟨rg, h3, q3⟩ := int_cell Tryd.underlying3 hz3
  simp only [List.cons.injEq, and_true] at h0 h1 h2 h3
  obtain rfl := h0
  obtain rfl := h1
  obtain rfl := h2
  obtain rfl := h3
  exact ⟨id, ve, rs, rg, rfl, q0, q1, q2, q3⟩
theorem open_Layout {v : Value} {d : DataW H} {ps : List MemPlace} {r : Reach} {b0 : Nat} (hv : Value.okWide Tryd.prog W r b0 23 v) (h : DataW.Trod enc Tryd.prog W 0 (fun _ => true) true 23 v d ps) :
    ∃ (id : Int) (ve : Int) (rs : Int) (rg : Int), v = .agg #[.int .i64 id, .int .i64 ve, .int .i64 rs, .int .i64 rg] ∧ I64b id ∧ I64b ve ∧ I64b rs ∧ I64b rg := by
  obtain ⟨cs, rfl, hsz⟩ := okWide_struct Tryd.underlying23 hv
  obtain ⟨fuel, hf⟩ := h
  obtain ⟨id, ve, rs, rg, hcs, q0, q1, q2, q3⟩ := cells_Layout (cs := cs.toList) (by rw [Array.length_toList, hsz]; kernel_rfl) hf
  exact ⟨id, ve, rs, rg, by rw [← Array.toArray_toList (xs := cs), hcs], q0, q1, q2, q3⟩

end
end Go.Proofs.YtecmopfaeopmdaaDoor
/- A slice among the arguments, element by element: of bools, of records, of layouts, of what has cells of any kind. -/
namespace Go.Proofs.YtecmopfaeopmdaaDoor
open Go.ChangeShapes Go.WideShapes Go.ChangeAt Go.RowKit Go.Deep

section
variable {H : Type} {enc : TypeId × Value → H} {P : Program} {W : World}

/-- What is true of each element's cells. -/
theorem open_elems {fuel : Nat} {t e : TypeId} {k : Nat} {cs : List Value} {x : DataW H × List MemPlace} (hk0 : 0 < k) (ht : P.underlying t = some (.slice e)) (hk : P.cellsOf e = k)
    (h : DataW.trod enc P W 0 (fun _ => true) true fuel t cs = some x) (hlt : ∀ p ∈ x.2, p.block < W.heap.size) {X : Type} (R : Addr → X → Prop)
    (each : ∀ (ad : Addr) (cs' : List Value) (n : Nat) (y : DataW H × List MemPlace), cs'.length = k → (∀ j, j < k → W.cell? (ad.add j) = cs'[j]?) → DataW.trod enc P W 0 (fun _ => true) true n e cs' = some y → (∀ p ∈ y.2, p.block < W.heap.size) → ∃ q : X, R ad q) :
    ∃ (A : Option Addr) (n cap : Nat) (xs : List X), cs = [.slice A n cap] ∧ xs.length = n ∧ n ≤ cap ∧ cap ≤ 9223372036854775807 ∧ ∀ j q, xs[j]? = some q → ∃ ad, A = some ad ∧ ad.block < W.heap.size ∧ R (ad.add (j * k)) q := by
  rcases open_slice ht h with ⟨hcs, _⟩ | ⟨a, len, cap, m, n, D, Pl, hcs, _, hl, hm, hmm, hx, hi⟩
  · exact ⟨none, 0, 0, [], hcs, rfl, by omega, by omega, fun j q hj => by simp at hj⟩
  · simp only [if_true] at hmm
    have each' : ∀ i, i < m → ∃ q : X, R (a.add (i * k)) q := by
      intro i him
      obtain ⟨cs', hc, ht'⟩ := hi i him
      rw [hk] at hc
      obtain ⟨_, hcl, hat⟩ := World.cells?_some hc
      refine each _ cs' n _ hcl hat ht' fun p hp => hlt p ?_
      rw [hx]
      exact List.mem_append_right _ (List.mem_flatMap.2 ⟨i, List.mem_range.2 him, hp⟩)
    refine ⟨some a, len, cap, (List.range len).attach.map fun i => (each' i.1 (by have := List.mem_range.1 i.2; omega)).choose, hcs, by simp, hl, by unfold maxLen at hm; omega, fun j q hj => ⟨a, rfl, ?_, ?_⟩⟩
    · have hjl : j < len := by
        have := (List.getElem?_eq_some_iff.1 hj).1
        simpa using this
      rw [hx] at hlt
      refine hlt (.cell a.block a.off) (List.mem_append_left _ (MemPlace.mem_row.2 ⟨0, ?_, by simp⟩))
      rw [hk]
      exact Nat.mul_pos (by omega) hk0
    · rw [List.getElem?_map] at hj
      obtain ⟨i, hi1, rfl⟩ := Option.map_eq_some_iff.1 hj
      have hij : i.1 = j := by
        obtain ⟨h1, h2⟩ := List.getElem?_eq_some_iff.1 hi1
        rw [← h2]
        simp
      subst hij
      exact (each' i.1 (by have := List.mem_range.1 i.2; omega)).choose_spec
/-- The same, of a value among the arguments. -/
theorem open_elems_arg {t e : TypeId} {k : Nat} {v : Value} {d : DataW H} {ps : List MemPlace} {r : Reach} {b0 : Nat} (hk0 : 0 < k) (ht : P.underlying t = some (.slice e)) (hk : P.cellsOf e = k)
    (hv : Value.okWide P W r b0 t v) (h : DataW.Trod enc P W 0 (fun _ => true) true t v d ps) (hlt : ∀ p ∈ ps, p.block < W.heap.size) {X : Type} (R : Addr → X → Prop)
    (each : ∀ (ad : Addr) (cs' : List Value) (n : Nat) (y : DataW H × List MemPlace), cs'.length = k → (∀ j, j < k → W.cell? (ad.add j) = cs'[j]?) → DataW.trod enc P W 0 (fun _ => true) true n e cs' = some y → (∀ p ∈ y.2, p.block < W.heap.size) → ∃ q : X, R ad q) :
    ∃ (A : Option Addr) (n cap : Nat) (xs : List X), v = .slice A n cap ∧ xs.length = n ∧ n ≤ cap ∧ cap ≤ 9223372036854775807 ∧ ∀ j q, xs[j]? = some q → ∃ ad, A = some ad ∧ ad.block < W.heap.size ∧ R (ad.add (j * k)) q := by
  obtain ⟨a0, len, cap, rfl⟩ := okWide_slice ht hv
  obtain ⟨fuel, hf⟩ := h
  obtain ⟨A, n, c, xs, hcs, r⟩ := open_elems (X := X) hk0 ht hk hf hlt R each
  simp only [Value.cells, List.cons.injEq, and_true] at hcs
  exact ⟨A, n, c, xs, by simpa using hcs, r⟩

theorem addr_z (a : Addr) : a.add 0 = a := by unfold Addr.add; rw [if_pos rfl]
/-- A slice of bools. -/
def BoolsIn (W : World) (A : Option Addr) (n cap : Nat) (bs : List Bool) : Prop := bs.length = n ∧ n ≤ cap ∧ cap ≤ 9223372036854775807 ∧ ∀ j b, bs[j]? = some b → ∃ ad, A = some ad ∧ ad.block < W.heap.size ∧ W.cell? (ad.add j) = some (.bool b)
theorem open_bools {t e : TypeId} {v : Value} {d : DataW H} {ps : List MemPlace} {r : Reach} {b0 : Nat} (ht : P.underlying t = some (.slice e)) (he : P.underlying e = some .bool) (hk : P.cellsOf e = 1)
    (hv : Value.okWide P W r b0 t v) (h : DataW.Trod enc P W 0 (fun _ => true) true t v d ps) (hlt : ∀ p ∈ ps, p.block < W.heap.size) :
    ∃ (A : Option Addr) (n cap : Nat) (bs : List Bool), v = .slice A n cap ∧ BoolsIn W A n cap bs := by
  obtain ⟨A, n, c, xs, hv, h1, h2, h3, h4⟩ := open_elems_arg (X := Bool) (by decide) ht hk hv h hlt (fun ad b => W.cell? ad = some (.bool b)) (fun ad cs' n y hl hc hy _ => by
    obtain ⟨b, rfl⟩ := bool_cell he hy
    exact ⟨b, by have := hc 0 (by decide); rw [addr_z] at this; simpa using this⟩)
  exact ⟨A, n, c, xs, hv, h1, h2, h3, fun j b hj => by simpa using h4 j b hj⟩
end
end Go.Proofs.YtecmopfaeopmdaaDoor
/- A slice of records among the arguments. -/
namespace Go.Proofs.YtecmopfaeopmdaaDoor
open Go.ChangeShapes Go.WideShapes Go.ChangeAt Go.RowKit

section
variable {H : Type} {enc : TypeId × Value → H} {W : World}
/-- The cells of a record, read at an address. -/
theorem rec_at {n : Nat} {ad : Addr} {cs' : List Value} {y : DataW H × List MemPlace} (hl : cs'.length = 4) (hc : ∀ j, j < 4 → W.cell? (ad.add j) = cs'[j]?) (hy : DataW.trod enc Tryd.prog W 0 (fun _ => true) true n 33 cs' = some y)
    (hlt : ∀ p ∈ y.2, p.block < W.heap.size) : ∃ r : Rc, RcAt W W.heap.size ad r := by
  obtain ⟨ki, Ak, nk, ck, bk, Av, nv, cv, bv, ex, rfl, q1, q2, q3, q4⟩ := cells_Record hl hy hlt
  refine ⟨⟨ki, Ak, nk, ck, bk, Av, nv, cv, bv, ex⟩, ?_, ?_, ?_, ?_, q2.1, q3.1, q1, q4, q2.2.1, q2.2.2, q3.2.1, q3.2.2⟩
  · have := hc 0 (by decide); rw [addr_z] at this; simpa using this
  · have := hc 1 (by decide); simpa [Addr.add] using this
  · have := hc 2 (by decide); simpa [Addr.add] using this
  · have := hc 3 (by decide); simpa [Addr.add] using this
theorem open_recs {v : Value} {d : DataW H} {ps : List MemPlace} {r : Reach} {b0 : Nat} (hv : Value.okWide Tryd.prog W r b0 43 v) (h : DataW.Trod enc Tryd.prog W 0 (fun _ => true) true 43 v d ps) (hlt : ∀ p ∈ ps, p.block < W.heap.size) :
    ∃ (A : Option Addr) (n cap : Nat) (rs : List Rc), v = .slice A n cap ∧ RAt W W.heap.size A n rs ∧ n ≤ cap ∧ cap ≤ 9223372036854775807 := by
  obtain ⟨A, n, c, xs, hv, h1, h2, h3, h4⟩ := open_elems_arg (X := Rc) (by decide) Tryd.underlying43 (by kernel_rfl) hv h hlt (fun ad r => RcAt W W.heap.size ad r) (fun ad cs' n y hl hc hy hp => rec_at hl hc hy hp)
  exact ⟨A, n, c, xs, hv, ⟨h1, h4⟩, h2, h3⟩
theorem BoolsIn.vat {A : Option Addr} {n c : Nat} {bs : List Bool} (h : BoolsIn W A n c bs) : Vat W W.heap.size A n (bs.map Value.bool) := ⟨by rw [List.length_map]; exact h.1, fun j x hj => by
  rw [List.getElem?_map] at hj
  obtain ⟨b, hb, rfl⟩ := Option.map_eq_some_iff.1 hj
  exact h.2.2.2 j b hb⟩
end
end Go.Proofs.YtecmopfaeopmdaaDoor
namespace Go.Proofs.YtecmopfaeopmdaaDoor
open Go.ChangeShapes Go.WideShapes Go.ChangeAt Go.RowKit

set_option maxRecDepth 100000 in
theorem packerRecords_lifted (os : Os) (started : os.Started) (H : Type) (enc : TypeId × Value → H) :
    ReturnsInHanded {} Tryd.checked os 6 .any (fun w args => (Rows.packerRecordsSpec.pre enc Tryd.prog Tryd.f6 [] false w args ∧ laidMetH Tryd.prog laidList w) ∧ sizedMet enc Tryd.prog Tryd.f6 (OpenSpec.ofChange Rows.packerRecordsSpec) false w args)
      (Rows.packerRecordsSpec.post enc Tryd.prog Tryd.f6 false true false false) := by
  refine returnsInHanded_of_change_and (C := Tryd.checked) (X := fun w _ => laidMetH Tryd.prog laidList w) (fun _ _ _ hh h => h.of_heap hh) Tryd.own started (by kernel_rfl) Tryd.func6
    (ChangeSpec.witness_shaped (enc := enc) (C := Tryd.checked) (os := os) (X := fun w _ => laidMetH Tryd.prog laidList w) false (World.doorLaid Tryd.prog 400 os) #[.agg #[.int .i64 0, .int .i64 0, .int .i64 0, .int .i64 0], .slice none 0 0, .slice none 0 0] 8 rfl (World.shaped_of_RefB (by kernel_rfl) (by kernel_rfl)) (by kernel_rfl) (by kernel_rfl) (by kernel_rfl) (door_met os _)) ?_
  intro W base args ds gs before hval0 hW _ _ hL _
  have hval : ∀ (j : Nat) t v, Tryd.f6.params[j]? = some t → args[j]? = some v → Value.okWide Tryd.prog W .any base t v := hval0
  have hW' := hW
  obtain ⟨p, q, hA0, hV, rfl, hfz, hnd⟩ := hW
  have hA : DataW.TrodAll enc Tryd.prog W 0 (fun _ => true) true Tryd.f6.params.toList args.toList ds p := hA0
  have hlt : ∀ x ∈ p ++ q, x.block < W.heap.size := fun x hx => hW'.lt x hx
  rw [Tryd.params6] at hA hval
  obtain ⟨v0, v1, v2, d0, d1, d2, p0, p1, p2, rfl, rfl, rfl, h0, h1, h2⟩ := trodAll_three hA
  obtain ⟨rfl, rfl⟩ := trodVars_none hV
  obtain ⟨a, b, c, d, rfl, qa, qb, qc, qd⟩ := open_Layout (hval 0 23 v0 rfl rfl) h0
  obtain ⟨Ar, nr, cr, rs, rfl, q1, q2, q3⟩ := open_recs (hval 1 43 v1 rfl rfl) h1 (fun x hx => hlt x (by simp [hx]))
  obtain ⟨At, nt, ct, tks, rfl, q4⟩ := open_bools Tryd.underlying24 Tryd.underlying4 (by kernel_rfl) (hval 2 24 v2 rfl rfl) h2 (fun x hx => hlt x (by simp [hx]))
  have ht := tab_of_laid hL
  refine (packerRecords_any a b c d rs Ar nr cr At nt ct tks W ht (size_of_tab ht) qb qc q1 q4.vat).mono fun e W' ⟨he, hbel⟩ => ?_
  subst he
  exact ⟨_, rfl, post_law Tryd.laidOut (by rw [Tryd.params6]; exact of_decide_eq_true (by kernel_rfl)) Tryd.underlying4 rfl rfl ⟨rfl, rfl, rfl⟩ hW' hbel⟩

theorem packerRecords_holds : Rows.PackerRecordsSaid :=
  OpenClaim.holds_of_wide 6 Tryd.f6 rfl rfl rfl rfl rfl rfl rfl ⟨rfl, rfl, rfl, rfl, rfl⟩ rfl rfl rfl rfl rfl (by kernel_rfl) Tryd.func6 (by kernel_rfl)
    (of_decide_eq_true (by kernel_rfl)) (by unfold Func.isWrapper; first | (rw [if_pos (by decide +kernel)]; kernel_rfl) | (rw [if_neg (by decide +kernel)]; exact ⟨rfl, rfl⟩))
    (fun os started H enc _ => packerRecords_lifted os started H enc)

theorem packerRecords_card_holds : Rows.PackerRecordsCardSaid :=
  Claim7.holds_tied_plain_at .later [] [.data] true Rows.packerRecordsCard.stood.harness false
    packerRecords_holds (fun _ h => by cases h) (by kernel_rfl) (fun _ h => by cases h) packerRecords_row_tie rfl ⟨rfl, rfl⟩ (by kernel_rfl) rfl
    (fun f fn hf hfn => by
      obtain rfl : f = 6 := Option.some.inj ((show Tryd.prog.funcNamed "flashcache/flashcachelaw13.PackerRecords" = some 6 by kernel_rfl).symm.trans hf) |>.symm
      obtain rfl : fn = Tryd.f6 := (Option.some.inj (Tryd.func6.symm.trans hfn)).symm
      exact ⟨by kernel_rfl, fun j t ht => by
        rw [Tryd.params6] at ht
        have hm : t ∈ [23, 43, 24] := by simpa using Array.mem_of_getElem? ht
        have hall : ([23, 43, 24].all fun u => !Tryd.prog.wantsStandIn u) = true := by kernel_rfl
        exact (show Tryd.prog.wantsStandIn t = false by simpa using List.all_eq_true.1 hall t hm)⟩)
    (by kernel_rfl)
#print axioms packerRecords_card_holds
end Go.Proofs.YtecmopfaeopmdaaDoor
