/- The packer: Pad. -/
import Derived.Test.YthgpmnblkhehkaaDoorPackOps
namespace Go.Proofs.YthgpmnblkhehkaaDoor
open Go.RowKit

/-- How many zero bytes Pad appends. -/
def padK (n : Nat) : Nat := (59 - n % 59) % 59
theorem padK_dvd (n : Nat) : (n + padK n) % 59 = 0 := by unfold padK; omega
theorem padK_lt (n : Nat) : padK n < 59 := by unfold padK; omega
theorem padK_step {n k : Nat} (hk : k ≤ padK n) (h : ¬ (n + k) % 59 = 0) : k + 1 ≤ padK n := by unfold padK at *; omega
theorem padK_end {n k : Nat} (hk : k ≤ padK n) (h : (n + k) % 59 = 0) : k = padK n := by unfold padK at *; omega
theorem rep_more (bs : List UInt8) (k : Nat) : (bs ++ List.replicate k 0) ++ [0] = bs ++ List.replicate (k + 1) 0 := by rw [List.append_assoc, ← List.replicate_succ']

/-- What the stream is after a call that may have grown it. -/
structure Pg (w w' : World) (p : Nat) (a b c d f s : Int) (A : Option Addr) (n cap : Nat) (A' : Option Addr) (n' cap' : Nat) (tk : Int) (bs : List UInt8) : Prop where
  pk : Pk w' p a b c d f s A' n' cap' tk bs
  far : Far w w' p (Value.slice A n cap).ownBlock
  born : Born w (Value.slice A n cap).ownBlock (Value.slice A' n' cap').ownBlock

set_option maxRecDepth 100000 in
set_option maxHeartbeats 4000000 in
theorem pad_any (a b c d f s tk : Int) (p : Nat) (A : Option Addr) (n cap : Nat) (bs : List UInt8) (hn : n ≤ 1000000) (w : World) (hP : Pk w p a b c d f s A n cap tk bs) :
    Calls Tryd.prog 36 #[.pointer (some ⟨p, 0, none⟩)] w fun e w' => e = .returned (.tuple #[]) ∧ ∃ A' cap', Pg w w' p a b c d f s A n cap A' (n + padK n) cap' tk (bs ++ List.replicate (padK n) 0) := by
  have HP := Lib.hid hP
  have hlt := hP.cells.lt
  clear hP
  go_enter Tryd.func36, Tryd.ntmps36
  go_wp2
  go_loopw [] (fun wr => ∃ k A' cap', k ≤ padK n ∧ Pg w wr p a b c d f s A n cap A' (n + k) cap' tk (bs ++ List.replicate k 0)) (fun wr => match wr.cell? ⟨p, 6, none⟩ with | some (.slice _ k _) => n + 59 - k | _ => 0)
  case atStart => exact ⟨0, A, cap, Nat.zero_le _, ⟨by simpa using HP.out, Far.of_below (Below.refl _ _) _ _, Born.refl _ _⟩⟩
  case round =>
    obtain ⟨k, A1, c1, hk, hg⟩ := hrel
    have HG := Lib.hid hg
    have l6 := hg.pk.cells 6 _ rfl
    have f6 := hg.pk.soft 6
    clear hg
    have hk59 := padK_lt n
    by_cases hz : (n + k) % 59 = 0
    · have hr : ((n : Int) + (k : Int)) % 59 = 0 := by omega
      obtain rfl := padK_end hk hz
      go_wp2
      refine bodyPost_end (v := .tuple #[]) (results_none rfl _ _ _) rfl ?_
      exact ⟨rfl, A1, c1, HG.out⟩
    · have hr : ¬ ((n : Int) + (k : Int)) % 59 = 0 := by omega
      have hr2 : (((n : Int) + (k : Int)) % 59 != 0) = true := by simpa using hr
      have HK1 := Lib.hid (padK_step hk hz)
      clear hz
      have hplt := HG.out.pk.cells.lt
      have HNP : Hid (¬ some p = (Value.slice A1 (n + k) c1).ownBlock) := fun e => by have := HG.out.pk.own.ge e.symm; omega
      have HAL : Hid (Below wr.heap.size wr (wr.alloc (.cells #[.int .u8 0] 5))) := (Below.refl _ _).alloc (Nat.le_refl _) _
      have HPA := Lib.hid (HG.out.pk.below HAL.out)
      have hn6 : n + k ≤ 2000000 := by omega
      have hM : wr.cell? ⟨p, 6, none⟩ = some (Value.slice A1 (n + k) c1) := l6
      go_wp2_with (at_builtin; refine wpList_append_at rfl Tryd.u8w (.tmp 15) (.tmp 16) rfl rfl HPA.out.own rfl (Byt.new wr #[.int .u8 0] _ (0, 0) [0] rfl) ?_ ?_ ?_; ((try simp only [List.length_cons, List.length_nil]); omega); exact Nat.le_trans hplt HAL.out.size; intro A5 c5 w5 hown5 hgr5 hat5; have hpb := hgr5.block p (Nat.lt_of_lt_of_le hplt HAL.out.size) HNP.out; have HF5 := Lib.hid ((HG.out.far.later HAL.out).grow HG.out.born hgr5); have HBo5 := Lib.hid (HG.out.born.step (Nat.le_trans HG.out.far.size HAL.out.size) hat5); have HO5 := Lib.hid hown5; have HC5 := Lib.hid (HPA.out.cells.same hpb); have HS5 := Lib.hid (HPA.out.soft.same hpb); have q6 := HC5.out 6 _ rfl; have g6 := HS5.out 6; clear hown5 hgr5 hat5 hpb)
      go_roundw
      case rel => exact ⟨k + 1, A5, c5, HK1.out, ⟨⟨HC5.out.set 6 _, HS5.out.set _ _, by rw [← rep_more]; exact HO5.out.set (by omega) _⟩, HF5.out.set 6 _, HBo5.out⟩⟩
      case measure =>
        rw [hM, World.cell?_setCell_same _ _ _ q6]
        simp only
        omega
end Go.Proofs.YthgpmnblkhehkaaDoor
