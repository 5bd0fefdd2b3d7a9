/- The reference's packer: Pad, Take. -/
import Derived.Test.YthgpmnblkhehkaaDoorPackRef
namespace Go.Proofs.YthgpmnblkhehkaaDoor
open Go.RowKit

set_option maxRecDepth 100000 in
set_option maxHeartbeats 4000000 in
theorem rpad_any (a b c d f s tk : Int) (p : Nat) (A : Option Addr) (n cap : Nat) (bs : List UInt8) (hn : n ≤ 1000000) (w : World) (hP : Pk w p a b c d f s A n cap tk bs) :
    Calls Tryd.prog 53 #[.pointer (some ⟨p, 0, none⟩)] w fun e w' => e = .returned (.tuple #[]) ∧ ∃ A' cap', Pg w w' p a b c d f s A n cap A' (n + padK n) cap' tk (bs ++ List.replicate (padK n) 0) := by
  have HP := Lib.hid hP
  have hlt := hP.cells.lt
  clear hP
  go_enter Tryd.func53, Tryd.ntmps53
  go_wp2
  go_loopw [] (fun wr => ∃ k A' cap', k ≤ padK n ∧ Pg w wr p a b c d f s A n cap A' (n + k) cap' tk (bs ++ List.replicate k 0)) (fun wr => match wr.cell? ⟨p, 6, none⟩ with | some (.slice _ k _) => n + 59 - k | _ => 0)
  case atStart => exact ⟨0, A, cap, Nat.zero_le _, ⟨by simpa using HP.out, Far.of_below (Below.refl _ _) _ _, Born.refl _ _⟩⟩
  case round =>
    obtain ⟨k, A1, c1, hk, hg⟩ := hrel
    have HG := Lib.hid hg
    have l6 := hg.pk.cells 6 _ rfl
    have f6 := hg.pk.soft 6
    clear hg
    have hk59 := padK_lt n
    by_cases hz : (n + k) % 59 = 0
    · have hr : ((n : Int) + (k : Int)) % 59 = 0 := by omega
      obtain rfl := padK_end hk hz
      go_wp2
      refine bodyPost_end (v := .tuple #[]) (results_none rfl _ _ _) rfl ?_
      exact ⟨rfl, A1, c1, HG.out⟩
    · have hr : ¬ ((n : Int) + (k : Int)) % 59 = 0 := by omega
      have hr2 : (((n : Int) + (k : Int)) % 59 != 0) = true := by simpa using hr
      have HK1 := Lib.hid (padK_step hk hz)
      clear hz
      have hplt := HG.out.pk.cells.lt
      have HNP : Hid (¬ some p = (Value.slice A1 (n + k) c1).ownBlock) := fun e => by have := HG.out.pk.own.ge e.symm; omega
      have HAL : Hid (Below wr.heap.size wr (wr.alloc (.cells #[.int .u8 0] 5))) := (Below.refl _ _).alloc (Nat.le_refl _) _
      have HPA := Lib.hid (HG.out.pk.below HAL.out)
      have hn6 : n + k ≤ 2000000 := by omega
      have hM : wr.cell? ⟨p, 6, none⟩ = some (Value.slice A1 (n + k) c1) := l6
      go_wp2_with (at_builtin; refine wpList_append_at rfl Tryd.u8w (.tmp 13) (.tmp 14) rfl rfl HPA.out.own rfl (Byt.new wr #[.int .u8 0] _ (0, 0) [0] rfl) ?_ ?_ ?_; ((try simp only [List.length_cons, List.length_nil]); omega); exact Nat.le_trans hplt HAL.out.size; intro A5 c5 w5 hown5 hgr5 hat5; have hpb := hgr5.block p (Nat.lt_of_lt_of_le hplt HAL.out.size) HNP.out; have HF5 := Lib.hid ((HG.out.far.later HAL.out).grow HG.out.born hgr5); have HBo5 := Lib.hid (HG.out.born.step (Nat.le_trans HG.out.far.size HAL.out.size) hat5); have HO5 := Lib.hid hown5; have HC5 := Lib.hid (HPA.out.cells.same hpb); have HS5 := Lib.hid (HPA.out.soft.same hpb); have q6 := HC5.out 6 _ rfl; have g6 := HS5.out 6; clear hown5 hgr5 hat5 hpb)
      go_roundw
      case rel => exact ⟨k + 1, A5, c5, HK1.out, ⟨⟨HC5.out.set 6 _, HS5.out.set _ _, by rw [← rep_more]; exact HO5.out.set (by omega) _⟩, HF5.out.set 6 _, HBo5.out⟩⟩
      case measure =>
        rw [hM, World.cell?_setCell_same _ _ _ q6]
        simp only
        omega

/-- Where the reference's Take stands: ks sectors, kf frames. -/
structure Rt (w wr : World) (p : Nat) (a b c d sl f s : Int) (A : Option Addr) (n cap t : Nat) (tv : Int) (bs : List UInt8) (ks : Nat) (A2 : Option Addr) (c2 kf : Nat) (A3 : Option Addr) (c3 : Nat) (vs : List Value) : Prop where
  pk : Pk wr p a b c d sl s A n cap tv bs
  far : Far w wr p none
  sec : Vec wr w.heap.size 3 (.slice A2 ks c2) ks (ints (sectS f t ks))
  fra : Vec wr w.heap.size 34 (.slice A3 kf c3) kf vs
  frs : FrsAt wr (fun g => g < w.heap.size ∨ some g = (Value.slice A2 ks c2).ownBlock ∨ some g = (Value.slice A3 kf c3).ownBlock) vs (framS f s bs t kf)
  apart : ∀ g, (Value.slice A2 ks c2).ownBlock = some g → ¬ (Value.slice A3 kf c3).ownBlock = some g
section
variable {w wr w' : World} {p : Nat} {a b c d sl f s tv : Int} {A : Option Addr} {n cap t : Nat} {bs : List UInt8} {ks kf : Nat} {A2 : Option Addr} {c2 : Nat} {A3 : Option Addr} {c3 : Nat} {vs : List Value} {A5 A6 : Option Addr} {c5 c6 : Nat}
theorem Rt.later (h : Rt w wr p a b c d sl f s A n cap t tv bs ks A2 c2 kf A3 c3 vs) (hb : Below wr.heap.size wr w') : Rt w w' p a b c d sl f s A n cap t tv bs ks A2 c2 kf A3 c3 vs :=
  ⟨h.pk.below hb, h.far.later hb, h.sec.keep hb, h.fra.keep hb, h.frs.keep hb.size (fun j hj _ => hb.block j hj) (fun _ _ h => h), h.apart⟩
theorem Rt.sector (h : Rt w wr p a b c d sl f s A n cap t tv bs ks A2 c2 kf A3 c3 vs) (hp : p < w.heap.size) (hA : ∀ g, (Value.slice A n cap).ownBlock = some g → g < w.heap.size)
    (hv : Vec w' w.heap.size 3 (.slice A6 (ks + 1) c6) (ks + 1) (ints (sectS f t ks) ++ [.int .i64 (f + 1 + ((t + ks : Nat) : Int))])) (hg : wr.grownBy w' (Value.slice A2 ks c2).ownBlock)
    (ha : (Value.slice A6 (ks + 1) c6).ownBlock = (Value.slice A2 ks c2).ownBlock ∨ (Value.slice A6 (ks + 1) c6).ownBlock = some wr.heap.size) : Rt w w' p a b c d sl f s A n cap t tv bs (ks + 1) A6 c6 kf A3 c3 vs := by
  have hge : ∀ g, (Value.slice A2 ks c2).ownBlock = some g → w.heap.size ≤ g := fun g e => h.sec.ge e
  refine ⟨h.pk.grown hg (fun e => by have := hge _ e; omega) (fun g e e' => by have := hge _ e'; have := hA g e; omega), h.far.grow (.inr hge) hg, by rw [← sectS_more]; exact hv, h.fra.same fun g e => hg.block g (h.fra.lt e) (fun e' => h.apart g e'.symm e), ?_, ?_⟩
  · refine h.frs.keep hg.size (fun k hk hn => hg.block k hk (fun e => hn (.inr (.inl e)))) (fun k hk hl => ?_)
    rcases hl with hl | hl | hl
    · exact .inl hl
    · rcases ha with e | e
      · rw [e] at hl; exact .inr (.inl hl)
      · rw [e] at hl; injection hl with hl; omega
    · exact .inr (.inr hl)
  · intro g e e'
    rcases ha with h6 | h6
    · rw [h6] at e; exact h.apart g e e'
    · rw [h6] at e; injection e with e; have := h.fra.lt e'; omega
theorem Rt.frame {fr : List UInt8} {g5 : Nat} (h : Rt w wr p a b c d sl f s A n cap t tv bs ks A2 c2 kf A3 c3 vs) (hp : p < w.heap.size) (hA : ∀ g, (Value.slice A n cap).ownBlock = some g → g < w.heap.size)
    (h5 : Byt wr wr.heap.size (some ⟨g5, 0, none⟩) 64 fr) (hc5 : 64 ≤ c5) (hc5' : c5 ≤ 9223372036854775807) (hg5 : w.heap.size ≤ g5) (hg5' : g5 < wr.heap.size) (hn2 : ¬ some g5 = (Value.slice A2 ks c2).ownBlock) (hn3 : ¬ some g5 = (Value.slice A3 kf c3).ownBlock)
    (hfr : frame 2 s.toNat (f + 1 + ((t + kf : Nat) : Int)).toNat (chunk bs (t + kf)) = fr)
    (hv : Vec w' w.heap.size 34 (.slice A6 (kf + 1) c6) (kf + 1) (vs ++ [.slice (some ⟨g5, 0, none⟩) 64 c5])) (hg : wr.grownBy w' (Value.slice A3 kf c3).ownBlock)
    (ha : (Value.slice A6 (kf + 1) c6).ownBlock = (Value.slice A3 kf c3).ownBlock ∨ (Value.slice A6 (kf + 1) c6).ownBlock = some wr.heap.size) : Rt w w' p a b c d sl f s A n cap t tv bs ks A2 c2 (kf + 1) A6 c6 (vs ++ [.slice (some ⟨g5, 0, none⟩) 64 c5]) := by
  have hge : ∀ g, (Value.slice A3 kf c3).ownBlock = some g → w.heap.size ≤ g := fun g e => h.fra.ge e
  refine ⟨h.pk.grown hg (fun e => by have := hge _ e; omega) (fun g e e' => by have := hge _ e'; have := hA g e; omega), h.far.grow (.inr hge) hg, h.sec.same fun g e => hg.block g (h.sec.lt e) (fun e' => h.apart g e e'.symm), hv, ?_, ?_⟩
  · have l5 := h5.len
    have hs := h.frs.snoc (g := g5) (c := c5) (b := fr) (by omega) hc5' hg5' (fun hl => by
      rcases hl with hl | hl | hl
      · omega
      · exact hn2 hl
      · exact hn3 hl) (by rw [l5]; exact h5)
    rw [l5, ← hfr, framS_more] at hs
    refine hs.keep hg.size (fun k hk hn => hg.block k hk (fun e => hn (.inr (.inr e)))) (fun k hk hl => ?_)
    rcases hl with hl | hl | hl
    · exact .inl hl
    · exact .inr (.inl hl)
    · rcases ha with e | e
      · rw [e] at hl; exact .inr (.inr hl)
      · rw [e] at hl; injection hl with hl; omega
  · intro g e e'
    rcases ha with h6 | h6
    · rw [h6] at e'; exact h.apart g e e'
    · rw [h6] at e'; injection e' with e'; have := h.sec.lt e; omega
theorem Rt.tick (h : Rt w wr p a b c d sl f s A n cap t tv bs ks A2 c2 kf A3 c3 vs) (hp : p < w.heap.size) (v : Int) : Rt w (wr.setCell ⟨p, 7, none⟩ (.int .i64 v)) p a b c d sl f s A n cap t v bs ks A2 c2 kf A3 c3 vs :=
  ⟨⟨h.pk.cells.set 7 _, h.pk.soft.set _ _, h.pk.own.set (by omega) _⟩, h.far.set 7 _, h.sec.set hp _, h.fra.set hp _, h.frs.keep (by simp [World.setCell]) (fun j hj hn => Below.heap_setCell _ _ _ _ (fun e => hn (.inl (by rw [e]; exact hp)))) (fun _ _ h => h), h.apart⟩
end
end Go.Proofs.YthgpmnblkhehkaaDoor
