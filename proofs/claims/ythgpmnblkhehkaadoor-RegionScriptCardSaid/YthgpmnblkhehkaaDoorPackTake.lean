/- The packer: Take. -/
import Derived.Test.YthgpmnblkhehkaaDoorPackPad
import Derived.Test.YthgpmnblkhehkaaDoorFrameWalk
import Derived.BigQuiet
namespace Go.Proofs.YthgpmnblkhehkaaDoor
open Go.RowKit

def chunk (bs : List UInt8) (j : Nat) : List UInt8 := (bs.drop (j * 59)).take 59
/-- The sectors and the frames that Take returns: m of them, from frame t on. -/
def sectS (f : Int) (t m : Nat) : List Int := (List.range m).map fun j => f + 1 + ((t + j : Nat) : Int)
def framS (f s : Int) (bs : List UInt8) (t m : Nat) : List (List UInt8) := (List.range m).map fun j => frame 2 s.toNat (f + 1 + ((t + j : Nat) : Int)).toNat (chunk bs (t + j))
def ints (l : List Int) : List Value := l.map (Value.int .i64 ·)
theorem sectS_more (f : Int) (t m : Nat) : ints (sectS f t m) ++ [.int .i64 (f + 1 + ((t + m : Nat) : Int))] = ints (sectS f t (m + 1)) := by simp [ints, sectS, List.range_succ]
theorem framS_more (f s : Int) (bs : List UInt8) (t m : Nat) : framS f s bs t m ++ [frame 2 s.toNat (f + 1 + ((t + m : Nat) : Int)).toNat (chunk bs (t + m))] = framS f s bs t (m + 1) := by simp [framS, List.range_succ]
theorem ints_one (l : List Int) : ∀ u ∈ ints l, u.oneCell' = true := fun u hu => by obtain ⟨b, _, rfl⟩ := List.mem_map.1 hu; rfl

theorem Tryd.intw : Ones Tryd.prog 100 3 (.int .i64 0) 8 := ⟨Tryd.underlying100, by kernel_rfl, rfl, by decide⟩
theorem Tryd.bytw : Ones Tryd.prog 101 34 (.slice none 0 0) 24 := ⟨Tryd.underlying101, by kernel_rfl, rfl, by decide⟩

/-- Values that are slices of bytes, each in a block that no live row has. -/
def FrsAt (w : World) (L : Nat → Prop) (vs : List Value) (F : List (List UInt8)) : Prop :=
  vs.length = F.length ∧ ∀ (j : Nat) (v : Value) (b : List UInt8), vs[j]? = some v → F[j]? = some b → ∃ g c, v = Value.slice (some ⟨g, 0, none⟩) b.length c ∧ b.length ≤ c ∧ c ≤ 9223372036854775807 ∧ g < w.heap.size ∧ ¬ L g ∧ Byt w w.heap.size (some ⟨g, 0, none⟩) b.length b
theorem Byt.inBlock {w w' : World} {B B' n g : Nat} {bs : List UInt8} (h : Byt w B (some ⟨g, 0, none⟩) n bs) (hb : w'.heap[g]? = w.heap[g]?) (hB : B ≤ B') : Byt w' B' (some ⟨g, 0, none⟩) n bs :=
  ⟨h.len, fun hn => by
    obtain ⟨ad, e, hlt, hc⟩ := h.mem hn
    injection e with e
    subst e
    exact ⟨_, rfl, Nat.lt_of_lt_of_le hlt hB, fun j b hj => (World.cell?_of_block (by rw [addr_block]; exact hb)).trans (hc j b hj)⟩⟩
theorem FrsAt.keep {w w' : World} {L L' : Nat → Prop} {vs : List Value} {F : List (List UInt8)} (h : FrsAt w L vs F) (hs : w.heap.size ≤ w'.heap.size) (hb : ∀ k, k < w.heap.size → ¬ L k → w'.heap[k]? = w.heap[k]?) (hL : ∀ k, k < w.heap.size → L' k → L k) : FrsAt w' L' vs F :=
  ⟨h.1, fun j v b hv hF => by
    obtain ⟨g, c, e, h1, h2, hg, hn, hy⟩ := h.2 j v b hv hF
    exact ⟨g, c, e, h1, h2, Nat.lt_of_lt_of_le hg hs, fun hl => hn (hL g hg hl), hy.inBlock (hb g hg hn) hs⟩⟩
theorem FrsAt.nil (w : World) (L : Nat → Prop) : FrsAt w L [] [] := ⟨rfl, fun j v b hv _ => by simp at hv⟩
theorem FrsAt.snoc {w : World} {L : Nat → Prop} {vs : List Value} {F : List (List UInt8)} (h : FrsAt w L vs F) {g c : Nat} {b : List UInt8} (h1 : b.length ≤ c) (h2 : c ≤ 9223372036854775807) (hg : g < w.heap.size) (hL : ¬ L g) (hy : Byt w w.heap.size (some ⟨g, 0, none⟩) b.length b) :
    FrsAt w L (vs ++ [.slice (some ⟨g, 0, none⟩) b.length c]) (F ++ [b]) := by
  refine ⟨by simp [h.1], fun j v b' hv hF => ?_⟩
  rw [List.getElem?_append] at hv hF
  rw [← h.1] at hF
  by_cases hj : j < vs.length
  · rw [if_pos hj] at hv hF
    exact h.2 j v b' hv hF
  · rw [if_neg hj] at hv hF
    generalize j - vs.length = i at hv hF
    match i, hv, hF with
    | 0, hv, hF =>
      simp at hv hF
      subst hv; subst hF
      exact ⟨g, c, rfl, h1, h2, hg, hL, hy⟩
    | i + 1, hv, _ => simp at hv

/-- Where Take stands after k frames. -/
structure Tk (w wr : World) (p : Nat) (a b c d f s : Int) (A : Option Addr) (n cap t : Nat) (bs : List UInt8) (k : Nat) (A2 : Option Addr) (c2 : Nat) (A3 : Option Addr) (c3 : Nat) (vs : List Value) : Prop where
  pk : Pk wr p a b c d f s A n cap ((t + k : Nat) : Int) bs
  far : Far w wr p none
  sec : Vec wr w.heap.size 3 (.slice A2 k c2) k (ints (sectS f t k))
  fra : Vec wr w.heap.size 34 (.slice A3 k c3) k vs
  frs : FrsAt wr (fun g => g < w.heap.size ∨ some g = (Value.slice A2 k c2).ownBlock ∨ some g = (Value.slice A3 k c3).ownBlock) vs (framS f s bs t k)
  apart : ∀ g, (Value.slice A2 k c2).ownBlock = some g → ¬ (Value.slice A3 k c3).ownBlock = some g

theorem Tk.drewN {w wr : World} {p : Nat} {a b c d f s : Int} {A : Option Addr} {n cap t : Nat} {bs : List UInt8} {k : Nat} {A2 : Option Addr} {c2 : Nat} {A3 : Option Addr} {c3 : Nat} {vs : List Value} (h : Tk w wr p a b c d f s A n cap t bs k A2 c2 A3 c3 vs) (q : Nat) : Tk w (wr.drewN q) p a b c d f s A n cap t bs k A2 c2 A3 c3 vs :=
  ⟨h.pk.below (below_drewN (Below.refl _ _) _), h.far.later (below_drewN (Below.refl _ _) _), h.sec.keep (below_drewN (Below.refl _ _) _), h.fra.keep (below_drewN (Below.refl _ _) _), h.frs.keep (below_drewN (Below.refl wr.heap.size _) _).size (fun k hk _ => (below_drewN (Below.refl wr.heap.size _) _).block k hk) (fun _ _ h => h), h.apart⟩
theorem Pk.grown {w w' : World} {p : Nat} {a b c d f s tk : Int} {A : Option Addr} {n cap : Nat} {bs : List UInt8} {r : Option Nat} (h : Pk w p a b c d f s A n cap tk bs) (hg : w.grownBy w' r) (hr : ¬ r = some p) (hr2 : ∀ g, (Value.slice A n cap).ownBlock = some g → ¬ r = some g) : Pk w' p a b c d f s A n cap tk bs :=
  have hb := hg.block p h.cells.lt (fun e => hr e.symm)
  ⟨h.cells.same hb, h.soft.same hb, h.own.same fun g e => hg.block g (h.own.lt e) (fun e' => hr2 g e e'.symm)⟩
theorem below_alloc (w : World) (o : Obj) : Below w.heap.size w (w.alloc o) := (Below.refl _ _).alloc (Nat.le_refl _) _

section
variable {w wr wA w6 w7 : World} {p : Nat} {a b c d f s : Int} {A : Option Addr} {n cap t : Nat} {bs : List UInt8} {k : Nat} {A2 : Option Addr} {c2 : Nat} {A3 : Option Addr} {c3 : Nat} {vs : List Value} {A5 A6 A7 : Option Addr} {c5 c6 c7 : Nat} {fr : List UInt8} {o5 o6 : Obj}
/-- After the sector was appended. -/
theorem Tk.six (h : Tk w wr p a b c d f s A n cap t bs k A2 c2 A3 c3 vs) (hp : p < w.heap.size) (hA : ∀ g, (Value.slice A n cap).ownBlock = some g → g < w.heap.size) (hb : Below wr.heap.size wr wA)
    (g6 : (wA.alloc o5).grownBy w6 (Value.slice A2 k c2).ownBlock) :
    Pk w6 p a b c d f s A n cap ((t + k : Nat) : Int) bs ∧ Far w w6 p none ∧ Vec w6 w.heap.size 34 (.slice A3 k c3) k vs := by
  have hge : ∀ g, (Value.slice A2 k c2).ownBlock = some g → w.heap.size ≤ g := fun g e => h.sec.ge e
  have hb2 : Below wr.heap.size wr (wA.alloc o5) := hb.alloc hb.size _
  refine ⟨(h.pk.below hb2).grown g6 (fun e => by have := hge _ e; omega) (fun g e e' => by have := hge _ e'; have := hA g e; omega), ?_, ?_⟩
  · exact (h.far.later hb2).grow (.inr hge) g6
  · exact (h.fra.keep hb2).same fun g e => g6.block g (Nat.lt_of_lt_of_le (h.fra.lt e) hb2.size) (fun e' => h.apart g e'.symm e)
/-- After the frame was appended, too. -/
theorem Tk.seven (h : Tk w wr p a b c d f s A n cap t bs k A2 c2 A3 c3 vs) (hp : p < w.heap.size) (hA : ∀ g, (Value.slice A n cap).ownBlock = some g → g < w.heap.size) (hb : Below wr.heap.size wr wA)
    (g6 : (wA.alloc o5).grownBy w6 (Value.slice A2 k c2).ownBlock) (g7 : (w6.alloc o6).grownBy w7 (Value.slice A3 k c3).ownBlock) :
    Pk w7 p a b c d f s A n cap ((t + k : Nat) : Int) bs ∧ Far w w7 p none := by
  obtain ⟨h1, h2, h3⟩ := h.six hp hA hb g6
  have hge : ∀ g, (Value.slice A3 k c3).ownBlock = some g → w.heap.size ≤ g := fun g e => h.fra.ge e
  have hb6 := below_alloc w6 o6
  exact ⟨(h1.below hb6).grown g7 (fun e => by have := hge _ e; omega) (fun g e e' => by have := hge _ e'; have := hA g e; omega), (h2.later hb6).grow (.inr hge) g7⟩
theorem Tk.step (h : Tk w wr p a b c d f s A n cap t bs k A2 c2 A3 c3 vs) (hp : p < w.heap.size) (hA : ∀ g, (Value.slice A n cap).ownBlock = some g → g < w.heap.size) (hb : Below wr.heap.size wr wA)
    (h5 : Own wA wr.heap.size 5 (.slice A5 64 c5) 64 fr) (hfr : frame 2 s.toNat (f + 1 + ((t + k : Nat) : Int)).toNat (chunk bs (t + k)) = fr)
    (h6 : Vec w6 w.heap.size 3 (.slice A6 (k + 1) c6) (k + 1) (ints (sectS f t k) ++ [.int .i64 (f + 1 + ((t + k : Nat) : Int))])) (g6 : (wA.alloc o5).grownBy w6 (Value.slice A2 k c2).ownBlock)
    (a6 : (Value.slice A6 (k + 1) c6).ownBlock = (Value.slice A2 k c2).ownBlock ∨ (Value.slice A6 (k + 1) c6).ownBlock = some (wA.alloc o5).heap.size)
    (h7 : Vec w7 w.heap.size 34 (.slice A7 (k + 1) c7) (k + 1) (vs ++ [.slice A5 64 c5])) (g7 : (w6.alloc o6).grownBy w7 (Value.slice A3 k c3).ownBlock)
    (a7 : (Value.slice A7 (k + 1) c7).ownBlock = (Value.slice A3 k c3).ownBlock ∨ (Value.slice A7 (k + 1) c7).ownBlock = some (w6.alloc o6).heap.size) :
    Tk w (w7.setCell ⟨p, 7, none⟩ (.int .i64 ((t + (k + 1) : Nat) : Int))) p a b c d f s A n cap t bs (k + 1) A6 c6 A7 c7 (vs ++ [.slice A5 64 c5]) := by
  obtain ⟨p7, f7⟩ := h.seven hp hA hb g6 g7
  have s1 : wA.heap.size < (wA.alloc o5).heap.size := by simp
  have s2 := g6.size
  have s3 : w6.heap.size < (w6.alloc o6).heap.size := by simp
  have s4 := g7.size
  have s0 := hb.size
  have s00 := h.far.size
  obtain ⟨g5, e5⟩ := h5.head (by decide)
  subst e5
  have g5lo := h5.ge (g := g5) rfl
  have g5hi := h5.lt (g := g5) rfl
  have l5 := h5.len
  have own2lt : ∀ g, (Value.slice A2 k c2).ownBlock = some g → g < wr.heap.size := fun g e => h.sec.lt e
  have own3lt : ∀ g, (Value.slice A3 k c3).ownBlock = some g → g < wr.heap.size := fun g e => h.fra.lt e
  have F1 : FrsAt wA (fun g => g < w.heap.size ∨ some g = (Value.slice A2 k c2).ownBlock ∨ some g = (Value.slice A3 k c3).ownBlock) (vs ++ [.slice (some ⟨g5, 0, none⟩) 64 c5]) (framS f s bs t (k + 1)) := by
    have h0 := h.frs.keep (w' := wA) (L' := fun g => g < w.heap.size ∨ some g = (Value.slice A2 k c2).ownBlock ∨ some g = (Value.slice A3 k c3).ownBlock) s0 (fun j hj _ => hb.block j hj) (fun _ _ h => h)
    have hc := h5.form
    obtain ⟨A', c', e, hc1, hc2⟩ := hc
    injection e with e1 e2 e3
    subst e3
    have := h0.snoc (g := g5) (c := c5) (b := fr) (by omega) hc2 g5hi (fun hl => by
      rcases hl with hl | hl | hl
      · omega
      · have := own2lt _ hl.symm; omega
      · have := own3lt _ hl.symm; omega) (by rw [l5]; exact h5.byt)
    rw [l5, ← hfr, framS_more] at this
    exact this
  have F2 : FrsAt (wA.alloc o5) (fun g => g < w.heap.size ∨ some g = (Value.slice A2 k c2).ownBlock ∨ some g = (Value.slice A3 k c3).ownBlock) (vs ++ [.slice (some ⟨g5, 0, none⟩) 64 c5]) (framS f s bs t (k + 1)) :=
    F1.keep (by omega) (fun j hj _ => (below_alloc wA o5).block j hj) (fun _ _ h => h)
  have F3 : FrsAt w6 (fun g => g < w.heap.size ∨ some g = (Value.slice A6 (k + 1) c6).ownBlock ∨ some g = (Value.slice A3 k c3).ownBlock) (vs ++ [.slice (some ⟨g5, 0, none⟩) 64 c5]) (framS f s bs t (k + 1)) :=
    F2.keep s2 (fun j hj hn => g6.block j hj (fun e => hn (.inr (.inl e)))) (fun j hj hl => by
      rcases hl with hl | hl | hl
      · exact .inl hl
      · rcases a6 with e | e
        · rw [e] at hl; exact .inr (.inl hl)
        · rw [e] at hl; injection hl with hl; omega
      · exact .inr (.inr hl))
  have F4 : FrsAt (w6.alloc o6) (fun g => g < w.heap.size ∨ some g = (Value.slice A6 (k + 1) c6).ownBlock ∨ some g = (Value.slice A3 k c3).ownBlock) (vs ++ [.slice (some ⟨g5, 0, none⟩) 64 c5]) (framS f s bs t (k + 1)) :=
    F3.keep (by omega) (fun j hj _ => (below_alloc w6 o6).block j hj) (fun _ _ h => h)
  have F5 : FrsAt w7 (fun g => g < w.heap.size ∨ some g = (Value.slice A6 (k + 1) c6).ownBlock ∨ some g = (Value.slice A7 (k + 1) c7).ownBlock) (vs ++ [.slice (some ⟨g5, 0, none⟩) 64 c5]) (framS f s bs t (k + 1)) :=
    F4.keep s4 (fun j hj hn => g7.block j hj (fun e => hn (.inr (.inr e)))) (fun j hj hl => by
      rcases hl with hl | hl | hl
      · exact .inl hl
      · exact .inr (.inl hl)
      · rcases a7 with e | e
        · rw [e] at hl; exact .inr (.inr hl)
        · rw [e] at hl; injection hl with hl; omega)
  have ap3 : ∀ g, (Value.slice A6 (k + 1) c6).ownBlock = some g → ¬ (Value.slice A3 k c3).ownBlock = some g := fun g e e' => by
    rcases a6 with h6 | h6
    · rw [h6] at e; exact h.apart g e e'
    · rw [h6] at e; injection e with e; have := own3lt g e'; omega
  refine ⟨⟨p7.cells.set 7 _, p7.soft.set _ _, p7.own.set (by omega) _⟩, f7.set 7 _, ?_, h7.set hp _, ?_, ?_⟩
  · rw [← sectS_more]
    exact (Vec.set ((h6.keep (below_alloc w6 o6)).same fun g e => g7.block g (Nat.lt_of_lt_of_le (h6.lt e) (Nat.le_of_lt s3)) (fun e' => ap3 g e e'.symm)) hp _)
  · exact F5.keep (by simp [World.setCell]) (fun j hj hn => Below.heap_setCell _ _ _ _ (fun e => hn (.inl (by rw [e]; exact hp)))) (fun _ _ h => h)
  · intro g e e'
    rcases a7 with h7' | h7'
    · rw [h7'] at e'; exact ap3 g e e'
    · rw [h7'] at e'; injection e' with e'; have := h6.lt e; omega
end
theorem chunk_len {bs : List UInt8} {j : Nat} (h : (j + 1) * 59 ≤ bs.length) : (chunk bs j).length = 59 := by
  unfold chunk; rw [List.length_take, List.length_drop]; omega

set_option maxRecDepth 100000 in
set_option maxHeartbeats 8000000 in
theorem take_any (a b c d f s : Int) (t p : Nat) (A : Option Addr) (n cap : Nat) (bs : List UInt8) (hn : n ≤ 1000000) (hf0 : 0 ≤ f) (hf : f ≤ 100000) (hs0 : 0 ≤ s) (hs : s ≤ 281474976710655) (htk : t * 59 ≤ n) (N : Nat) (hN1 : (t + N) * 59 ≤ n) (hN2 : n < (t + N + 1) * 59) (w : World) (ht : TabAt w) (hp0 : 0 < p) (hP : Pk w p a b c d f s A n cap (t : Int) bs) :
    Calls Tryd.prog 60 #[.pointer (some ⟨p, 0, none⟩)] w fun e w' => ∃ A2 c2 A3 c3 vs, e = .returned (.tuple #[.slice A2 N c2, .slice A3 N c3]) ∧ Tk w w' p a b c d f s A n cap t bs N A2 c2 A3 c3 vs := by
  have HP := Lib.hid hP
  have HT := Lib.hid ht
  have hlt := hP.cells.lt
  have HSZ : Hid (0 < w.heap.size) := Nat.lt_of_le_of_lt (Nat.zero_le _) hlt
  obtain ⟨A', cap', hAe, hncap, hcap⟩ := hP.own.form
  injection hAe with e1 e2 e3
  subst e1; subst e3
  clear e2
  clear hP ht
  go_enter Tryd.func60, Tryd.ntmps60
  go_wp2
  go_loopw [2, 3] (fun x y wr => ∃ k A2 c2 A3 c3 vs, x = .slice A2 k c2 ∧ y = .slice A3 k c3 ∧ k ≤ N ∧ Tk w wr p a b c d f s A n cap t bs k A2 c2 A3 c3 vs) (fun x _ _ => match x with | .slice _ k _ => N - k | _ => 0)
  case atStart =>
    exact ⟨0, none, 0, none, 0, [], rfl, rfl, Nat.zero_le _, ⟨by simpa using HP.out, Far.of_below (Below.refl _ _) _ _, Vec.nil _ _ _, Vec.nil _ _ _, FrsAt.nil _ _, fun g h => by simp [Value.ownBlock] at h⟩⟩
  case round =>
    obtain ⟨k, A2, c2, A3, c3, vs, rfl, rfl, hk, hg⟩ := hrel
    have HG := Lib.hid hg
    obtain ⟨T, hT⟩ : ∃ T, t + k = T := ⟨_, rfl⟩
    have hpk := hg.pk
    rw [hT] at hpk
    have HK := Lib.hid hpk
    have hplt := hpk.cells.lt
    have l2 := hpk.cells 5 _ rfl
    have l5 := hpk.cells 4 _ rfl
    have l6 := hpk.cells 6 _ rfl
    have l7 := hpk.cells 7 _ rfl
    have f7 := hpk.soft 7
    clear hg hpk
    by_cases hlast : k = N
    · have hcmp : ¬ (((T : Int) + 1) * 59 ≤ (n : Int)) := by omega
      have hcmp2 : decide (((T : Int) + 1) * 59 ≤ (n : Int)) = false := decide_eq_false hcmp
      have HE : Hid (k = N) := hlast
      clear hlast
      go_wp2
      go_quiet (fail)
      go_wp2
      go_ret2
      have := HE.out
      subst this
      exact ⟨A2, c2, A3, c3, vs, rfl, HG.out.drewN _⟩
    · have hcmp : ((T : Int) + 1) * 59 ≤ (n : Int) := by omega
      have HE := Lib.hid hlast
      obtain ⟨lo, hlo⟩ : ∃ lo, T * 59 = lo := ⟨_, rfl⟩
      have hl1 : (T : Int) * 59 = (lo : Int) := by omega
      have hl2 : ((T : Int) + 1) * 59 = ((lo + 59 : Nat) : Int) := by omega
      have hlon : lo + 59 ≤ n := by omega
      obtain ⟨g0, hA⟩ := HK.out.own.head (by omega)
      subst hA
      clear hlast hcmp
      have hw1 : IntKind.i64.wrap ((T : Int) + 1) = (T : Int) + 1 := IntWalk.i64_in _ (by omega)
      have hw3 : IntKind.i64.wrap ((lo : Int) + 59) = (lo : Int) + 59 := IntWalk.i64_in _ (by omega)
      have hw4 : IntKind.i64.wrap (lo : Int) = (lo : Int) := IntWalk.i64_in _ (by omega)
      have hw5 : IntKind.i64.wrap (f + 1 + (T : Int)) = f + 1 + (T : Int) := IntWalk.i64_in _ (by omega)
      have hw6 : IntKind.i64.wrap (f + 1) = f + 1 := IntWalk.i64_in _ (by omega)
      have hc1 : (lo : Int) + 59 ≤ (cap : Int) := by omega
      have hc2 : (0 : Int) ≤ (lo : Int) + 59 := by omega
      have hc3 : (lo : Int) ≤ max ((lo : Int) + 59) 0 := by omega
      have hc4 : ¬ cap = lo := by omega
      have hc5 : ((lo : Int) + 59).toNat = lo + 59 := by omega
      have HCH : Hid ((chunk bs T).length = 59) := chunk_len (by rw [HK.out.own.len]; omega)
      have HBY : Hid (Byt wr wr.heap.size (some ⟨g0, lo, none⟩) 59 (chunk bs T)) := by
        have h := (HK.out.own.byt.cut (k := lo) (cap := cap) (by omega) hncap).take (k := 59) (by omega)
        rw [if_neg hc4] at h
        have e : (Option.map (fun x : Addr => x.add lo) (some (⟨g0, 0, none⟩ : Addr))) = some ⟨g0, lo, none⟩ := by
          simp only [Option.map_some, Addr.add]
          by_cases h0 : lo = 0
          · rw [if_pos h0, h0]
          · rw [if_neg h0, Nat.zero_add]
        rw [e] at h
        show Byt wr wr.heap.size (some ⟨g0, lo, none⟩) 59 (chunk bs T)
        unfold chunk
        rw [hlo]
        exact h
      obtain ⟨fr, hfr⟩ : ∃ fr, frame 2 s.toNat (f + 1 + (T : Int)).toNat (chunk bs T) = fr := ⟨_, rfl⟩
      have HFL : Hid (fr.length = 64) := by
        show _ = _
        rw [← hfr]; exact frame_len (by rw [HCH.out]; exact Nat.le_refl _)
      have HFE : Hid (encS 2 s (f + 1 + (T : Int)) (chunk bs T) = (fr, 0)) := by
        show _ = _
        rw [encS, if_pos ((may_iff _ _ _).2 ⟨by decide, by decide, by omega, by omega, by omega⟩), if_pos (by rw [HCH.out]; exact Nat.le_refl _), ← hfr]
        rfl
      have EN : Hid (∀ w', Below wr.heap.size wr w' → Calls Tryd.prog 56 #[.int .i64 2, .int .i64 s, .int .i64 (f + 1 + (T : Int)), .slice (some ⟨g0, lo, none⟩) 59 (cap - lo)] w' (EncRes (fr, 0) w')) := fun w' hb =>
        encode_any 2 s (f + 1 + (T : Int)) (chunk bs T) (some ⟨g0, lo, none⟩) 59 (cap - lo) wr.heap.size w' ((HT.out.below (HG.out.far.below (B := 1) hp0 (fun _ h => by cases h) HSZ.out) (by decide)).below hb (by omega)) (Nat.lt_of_lt_of_le (by omega) hb.size) (HBY.out.below hb) (by decide) hb.size (by omega) (fr, 0) HFE.out
      have HFR := Lib.hid hfr
      clear hfr
      go_wp2
      go_quiet (fail)
      go_upto_region 5 with fail
      go_quiet (fail)
      go_upto_region 6 with fail
      go_cut [5] (fun v wx => ∃ A5 c5, v = .slice A5 64 c5 ∧ Own wx wr.heap.size 5 (.slice A5 64 c5) 64 fr ∧ Below wr.heap.size wr wx)
      case first =>
        go_region_with (go_at_call 56; refine (EN.out _ (below_drewN (Below.refl _ _) _)).mono ?_; rintro e w2 ⟨A5, c5, rfl, hown, hbel⟩; simp only [] at hown hbel ⊢; rw [HFL.out] at hown ⊢; have HO2 := Lib.hid (hown.mono (below_drewN (Below.refl wr.heap.size wr) _).size); have HB2 : Hid (Below wr.heap.size wr w2) := (below_drewN (Below.refl _ _) _).trans (hbel.mono (below_drewN (Below.refl wr.heap.size wr) _).size); clear hown hbel)
        all_goals
          go_wp2_with fail
          (try go_simp)
          go_meet
          exact ⟨A5, c5, rfl, HO2.out, HB2.out⟩
      case rest =>
        obtain ⟨A5, c5, rfl, hown, hbel⟩ := hcut
        have HO := Lib.hid hown
        have HB := Lib.hid hbel
        clear hown hbel
        obtain ⟨wA, hwA⟩ : ∃ x, x = wc := ⟨_, rfl⟩
        subst hwA
        have hn1 : k ≤ 100000 := by omega
        have HAO : Hid (∀ g, (Value.slice (some (⟨g0, 0, none⟩ : Addr)) n cap).ownBlock = some g → g < w.heap.size) := fun g e => HP.out.own.lt e
        have hAw := HB.out.size
        have HSE : Hid (Vec (wA.alloc (.cells #[.int .i64 (f + 1 + (T : Int))] 3)) w.heap.size 3 (.slice A2 k c2) k (ints (sectS f t k))) := HG.out.sec.keep (HB.out.alloc HB.out.size _)
        have HBA : Hid (w.heap.size ≤ (wA.alloc (.cells #[.int .i64 (f + 1 + (T : Int))] 3)).heap.size) := Nat.le_trans (Nat.le_trans HG.out.far.size hAw) (below_alloc _ _).size
        clear l2 l5 l6 l7 f7 hAw
        go_wp2_with (first
          | (at_builtin; refine wpList_append_vec rfl Tryd.intw (.tmp 63) (.tmp 65) rfl rfl HSE.out rfl (Vat.one wA _ _) ?_ ?_ ?_ ?_; (intro u hu; rw [List.mem_singleton.1 hu]; rfl); omega; exact HBA.out; intro A6 c6 w6 hv6 hg6 ha6; have H6 := Lib.hid hv6; have G6 := Lib.hid hg6; have E6 := Lib.hid ha6; have HX6 := Lib.hid (HG.out.six hlt HAO.out HB.out hg6); have HF6 : Hid (Vec (w6.alloc (.cells #[.slice A5 64 c5] 34)) w.heap.size 34 (.slice A3 k c3) k vs) := HX6.out.2.2.keep (below_alloc _ _); have HB6 : Hid (w.heap.size ≤ (w6.alloc (.cells #[.slice A5 64 c5] 34)).heap.size) := Nat.le_trans HX6.out.2.1.size (below_alloc _ _).size; clear hv6 hg6 ha6)
          | (at_builtin; refine wpList_append_vec rfl Tryd.bytw (.tmp 67) (.tmp 69) rfl rfl HF6.out rfl (Vat.one w6 _ _) ?_ ?_ ?_ ?_; (intro u hu; rw [List.mem_singleton.1 hu]; rfl); omega; exact HB6.out; intro A7 c7 w7 hv7 hg7 ha7; have H7 := Lib.hid hv7; have G7 := Lib.hid hg7; have E7 := Lib.hid ha7; have HX7 := Lib.hid (HG.out.seven hlt HAO.out HB.out G6.out hg7); have l7 := HX7.out.1.cells 7 _ rfl; rw [hT] at l7; have f7 := HX7.out.1.soft 7; clear hv7 hg7 ha7))
        go_roundw
        case rel =>
          refine ⟨k + 1, A6, c6, A7, c7, vs ++ [.slice A5 64 c5], rfl, rfl, by have := HE.out; omega, ?_⟩
          have h := HG.out.step hlt HAO.out HB.out HO.out (by rw [hT]; exact HFR.out) (by rw [hT]; exact H6.out) G6.out E6.out H7.out G7.out E7.out
          rw [show t + (k + 1) = T + 1 by omega] at h
          exact h
        case measure => have := HE.out; simp only; omega
end Go.Proofs.YthgpmnblkhehkaaDoor
