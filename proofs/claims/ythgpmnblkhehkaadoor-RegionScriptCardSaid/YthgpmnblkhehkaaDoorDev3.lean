/- The device: Load, New, Barrier. -/
import Derived.Test.YthgpmnblkhehkaaDoorDev2
import Derived.Test.YthgpmnblkhehkaaDoorMid
namespace Go.Proofs.YthgpmnblkhehkaaDoor
open Go.RowKit
/-- A new device. -/
def freshS (img : List UInt8) : DS := ⟨img, [], 0, -1, false⟩
theorem freshS_ok {S : Nat} {img : List UInt8} (h : img.length = S * 64) : (freshS img).ok S := ⟨h, List.nodup_nil, (fun i hi => by cases hi), by show (-1 : Int) ≤ -1 ∧ (-1 : Int) ≤ _; decide⟩
theorem DMap.new (w : World) : DMap (w.alloc (.map #[] 0)) w.heap.size [] := World.ownsMap_made w _ _ _
theorem own_soft {w : World} {base n : Nat} {e : TypeId} {g c : Nat} {bs : List UInt8} (h : Own w base e (.slice (some ⟨g, 0, none⟩) n c) n bs) : Soft w g := fun j => World.ownsRow.frozenAt h j

theorem dload_any (img : List UInt8) (A : Option Addr) (S cap B : Nat) (w : World) (hb : Byt w B A (S * 64) img) (hS : 1 ≤ S) (hS2 : S ≤ 1048576) (hB : B ≤ w.heap.size) :
    Calls Tryd.prog 28 #[.slice A (S * 64) cap] w fun e w' => ∃ d g r c, e = .returned (.pointer (some ⟨d, 0, none⟩)) ∧ Dv w' d g r S c (freshS img) ∧ w.heap.size ≤ d ∧ w.heap.size ≤ g ∧ w.heap.size ≤ r ∧ Below w.heap.size w w' := by
  have CL : Hid (Calls Tryd.prog 54 #[.slice A (S * 64) cap] w fun e w' => ∃ g c1, e = .returned (.slice (some ⟨g, 0, none⟩) (S * 64) c1) ∧ Own w' w.heap.size 5 (.slice (some ⟨g, 0, none⟩) (S * 64) c1) (S * 64) img ∧ Below w.heap.size w w') := by
    refine (clone_any img A (S * 64) cap B w hb (by omega) hB).mono ?_
    rintro e w' ⟨A1, c1, h1, h2, h3⟩
    obtain ⟨g, rfl⟩ := h2.head (by omega)
    exact ⟨g, c1, h1, h2, h3⟩
  have hlen := Lib.hid hb.len
  have z1 : ((S * 64 : Nat) : Int) % 64 = 0 := by omega
  have z2 : ¬ (S : Int) < 1 := by omega
  have z3 : ¬ (1048576 : Int) < (S : Int) := by omega
  have b1 : ((S * 64 : Nat) : Int) ≤ 67108864 := by omega
  have b2 : 0 ≤ ((S * 64 : Nat) : Int) := by omega
  have HS := Lib.hid (And.intro hS hS2)
  clear hb hS hS2 hB
  have hmm := @run_makeMap Tryd.prog
  go_enter Tryd.func28, Tryd.ntmps28
  go_wp2_with (go_at_call 54; refine CL.out.mono ?_; rintro e w1 ⟨g, c1, rfl, hown, hbel⟩; have HO := Lib.hid hown; have HB := Lib.hid hbel; clear hown hbel)
  go_ret
  have hsz := HB.out.size
  have hg := HO.out.lt (g := g) rfl
  have hge := HO.out.ge (g := g) rfl
  obtain ⟨_, _, hf, hc1, hc2⟩ := HO.out.form
  injection hf with _ _ hf
  subst hf
  obtain ⟨s1, s2⟩ := HS.out
  refine ⟨w1.heap.size + 1, g, w1.heap.size, c1, rfl, ⟨?_, ?_, ?_, ?_, ?_, ⟨by omega, by omega, by omega⟩, freshS_ok hlen.out, s1, s2, hc1, hc2⟩, by omega, by omega, by omega, (HB.out.alloc hsz _).alloc (by simp; omega) _⟩
  · have := Cells.new (w1.alloc (.map #[] 0)) 85 #[.slice (some ⟨g, 0, none⟩) (S * 64) c1, .map (some w1.heap.size), .int .i64 0, .int .i64 (-1), .bool false]
    simpa [freshS] using this
  · have := Soft.new (w1.alloc (.map #[] 0)) 85 #[.slice (some ⟨g, 0, none⟩) (S * 64) c1, .map (some w1.heap.size), .int .i64 0, .int .i64 (-1), .bool false]
    simpa using this
  · have h1 : Byt w1 (g + 1) (some ⟨g, 0, none⟩) (S * 64) img := ⟨hlen.out, fun hn => by
      obtain ⟨ad, e, _, hc⟩ := HO.out.byt.mem hn
      refine ⟨ad, e, ?_, hc⟩
      injection e with e
      subst e
      exact Nat.lt_succ_self _⟩
    exact (h1.alloc (by omega) _).alloc (by simp; omega) _
  · exact (own_soft HO.out).same (((Below.refl w1.heap.size w1).alloc (Nat.le_refl _) _).alloc (by simp) _ |>.block g hg)
  · exact (DMap.new w1).same (((Below.refl (w1.heap.size + 1) (w1.alloc (.map #[] 0))).alloc (by simp) _).block _ (by omega))

theorem dnew_any (S : Nat) (hS : 1 ≤ S) (hS2 : S ≤ 1048576) (w : World) :
    Calls Tryd.prog 7 #[.int .i64 (S : Int)] w fun e w' => ∃ d g r c, e = .returned (.pointer (some ⟨d, 0, none⟩)) ∧ Dv w' d g r S c (freshS (List.replicate (S * 64) 0)) ∧ w.heap.size ≤ d ∧ w.heap.size ≤ g ∧ w.heap.size ≤ r ∧ Below w.heap.size w w' := by
  have LD := Lib.hid (fun (w1 : World) (h : Byt w1 w1.heap.size (some ⟨w.heap.size, 0, none⟩) (S * 64) (List.replicate (S * 64) 0)) => dload_any _ _ S (S * 64) w1.heap.size w1 h hS hS2 (Nat.le_refl _))
  have z1 : ¬ (S : Int) < 1 := by omega
  have z2 : ¬ (1048576 : Int) < (S : Int) := by omega
  have b1 : (S : Int) ≤ 1048576 := by omega
  have b2 : 0 ≤ (S : Int) := by omega
  have HS : Hid (S ≤ 1048576) := hS2
  clear hS hS2
  go_enter Tryd.func7, Tryd.ntmps7
  go_wp2_with (first
    | (at_make; refine wpList_make_byt rfl Tryd.u8w (.tmp 10) (.tmp 10) rfl ((S : Int) * 64) (S * 64) rfl rfl (by omega) (by have := HS.out; omega) ?_; intro w1 hown hbel; have HO := Lib.hid hown; have HB := Lib.hid hbel; clear hown hbel)
    | (go_at_call 28; refine (LD.out _ HO.out.byt).mono ?_; rintro e w2 ⟨d, g, r, c, rfl, hdv, h1, h2, h3, hbel⟩; have HD := Lib.hid (And.intro hdv (And.intro h1 (And.intro h2 (And.intro h3 hbel)))); clear hdv h1 h2 h3 hbel))
  go_ret
  obtain ⟨q1, q2, q3, q4, q5⟩ := HD.out
  have hs := HB.out.size
  exact ⟨d, g, r, c, rfl, q1, by omega, by omega, by omega, HB.out.trans (q5.mono hs)⟩

theorem run_clear_map {w : World} {r : Nat} {ds : List Nat} (h : DMap w r ds) (ty : TypeId) : ∃ w', (Builtin.clear_ #[83] ty #[.map (some r)]).run Tryd.prog w = .ok (.tuple #[]) w' ∧ DMap w' r [] ∧ w'.os = w.os ∧ w'.tape = w.tape ∧ w'.output = w.output ∧ w'.heap.size = w.heap.size ∧ ∀ k, k ≠ r → w'.heap[k]? = w.heap[k]? := by
  obtain ⟨es, clock, hb, F, _⟩ := h
  refine ⟨ChangeMaps.setBlock w r (.map #[] clock), ?_, ⟨#[], clock, ChangeMaps.heap_setBlock_same hb _, ⟨by simp, MapKept.stamped_empty clock, by simp⟩, Nat.le_refl _, rfl⟩, rfl, rfl, rfl, by simp [ChangeMaps.setBlock], fun k hk => ChangeMaps.heap_setBlock_other hb _ hk⟩
  simp [Builtin.clear_, run_underlying Tryd.underlying83, MapKept.run_getObj_map hb, MapKept.run_setObj_map _ hb, ChangeMaps.setBlock]

section
variable {w w' : World} {d g r S c : Nat} {s : DS}
/-- The map alone has turned. -/
theorem Dv.turnMap {ds' : List Nat} (h : Dv w d g r S c s) (hm : DMap w' r ds') (ho : w'.os = w.os ∧ w'.tape = w.tape ∧ w'.output = w.output ∧ w'.heap.size = w.heap.size) (hb : ∀ k, k ≠ r → w'.heap[k]? = w.heap[k]?) (hn : ds'.Nodup) (hl : ∀ i ∈ ds', i < S) :
    Dv w' d g r S c { s with ds := ds' } ∧ Keep w w' (dvL d g r) := by
  obtain ⟨n1, n2, n3⟩ := h.ne
  obtain ⟨o1, o2, o3, o4⟩ := ho
  have hd := hb d n2
  have hg := hb g n3
  have hi : Byt w' (g + 1) (some ⟨g, 0, none⟩) (S * 64) s.img := ⟨h.img.len, fun hn => by
    obtain ⟨ad, e, hlt, hcl⟩ := h.img.mem hn
    refine ⟨ad, e, hlt, fun j' u' hu => (World.cell?_of_block ?_).trans (hcl j' u' hu)⟩
    injection e with e
    subst e
    rw [addr_block]
    exact hg⟩
  exact ⟨⟨h.cells.same hd, h.sd.same hd, hi, h.sg.same hg, hm, h.ne, ⟨h.ok.len, hn, hl, h.ok.fu⟩, h.sz⟩, ⟨o1, o2, o3, by rw [o4]; exact Nat.le_refl _, fun k _ hk => hb k (fun e => hk (.inr (.inr e)))⟩⟩
theorem Keep.tran {w w1 w2 : World} {L : Nat → Prop} (h : Keep w w1 L) (h2 : Keep w1 w2 L) : Keep w w2 L := h.trans h2 (fun _ _ hl => hl)

theorem dbarrier_any (h : Dv w d g r S c s) : Calls Tryd.prog 35 #[.pointer (some ⟨d, 0, none⟩)] w fun e w' => e = .returned (.int .i64 (barrierS s).1) ∧ Dv w' d g r S c (barrierS s).2 ∧ Keep w w' (dvL d g r) := by
  have l4 := h.cells 4 _ rfl
  have HH := Lib.hid h
  by_cases hd : s.dead = true
  · have e : barrierS s = (1, s) := by rw [barrierS, if_pos hd]
    rw [e]
    rw [hd] at l4
    clear h e hd
    go_enter Tryd.func35, Tryd.ntmps35
    go_wp2
    go_ret
    exact ⟨rfl, HH.out, Keep.refl _ _⟩
  have hd' : s.dead = false := by simpa using hd
  have BU := Lib.hid (dburn_any hd' h)
  by_cases hb : (burnS s).dead = true
  · have e : barrierS s = (1, burnS s) := by rw [barrierS, if_neg hd, if_pos hb]
    rw [e]
    rw [hd'] at l4
    have HBD := Lib.hid hb
    clear h e hd hd' hb
    go_enter Tryd.func35, Tryd.ntmps35
    go_wp2_with (go_at_call 58; refine BU.out.mono ?_; rintro e w1 ⟨rfl, hdv, hk⟩; rw [HBD.out]; have HD1 := Lib.hid hdv; have HK1 := Lib.hid hk; clear hdv hk)
    go_ret
    exact ⟨rfl, HD1.out, HK1.out⟩
  · have e : barrierS s = (0, { burnS s with ds := [] }) := by rw [barrierS, if_neg hd, if_neg hb]
    rw [e]
    rw [hd'] at l4
    have HBD := Lib.hid (show (burnS s).dead = false by simpa using hb)
    clear h e hd hd' hb
    go_enter Tryd.func35, Tryd.ntmps35
    go_wp2_with (go_at_call 58; refine BU.out.mono ?_; rintro e w1 ⟨rfl, hdv, hk⟩; rw [HBD.out]; have l1 := hdv.cells 1 _ rfl; obtain ⟨w2, hrun, hm, ho1, ho2, ho3, ho4, hbk⟩ := run_clear_map hdv.map 0; have HD1 := Lib.hid (hdv.turnMap hm ⟨ho1, ho2, ho3, ho4⟩ hbk List.nodup_nil (fun i hi => by cases hi)); have HK1 := Lib.hid hk; clear hdv hk hm ho1 ho2 ho3 ho4 hbk)
    go_ret
    exact ⟨rfl, HD1.out.1, HK1.out.tran HD1.out.2⟩
end
end Go.Proofs.YthgpmnblkhehkaaDoor
