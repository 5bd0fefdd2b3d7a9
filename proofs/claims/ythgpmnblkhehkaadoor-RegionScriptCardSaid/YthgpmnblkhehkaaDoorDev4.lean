/- The device: Write. -/
import Derived.Test.YthgpmnblkhehkaaDoorDev3
import Derived.Test.YthgpmnblkhehkaaDoorRegInv
import Derived.Maps.OwnSet
import Derived.WalkArith
import Derived.Deep.RegionHeld3
namespace Go.Proofs.YthgpmnblkhehkaaDoor
open Go.RowKit
open Go.Maps (Keyed)
theorem secKey : Keyed Tryd.prog 3 := Maps.int_keyed Tryd.underlying3
def z64 : Array Value := #[.int .u8 0, .int .u8 0, .int .u8 0, .int .u8 0, .int .u8 0, .int .u8 0, .int .u8 0, .int .u8 0, .int .u8 0, .int .u8 0, .int .u8 0, .int .u8 0, .int .u8 0, .int .u8 0, .int .u8 0, .int .u8 0, .int .u8 0, .int .u8 0, .int .u8 0, .int .u8 0, .int .u8 0, .int .u8 0, .int .u8 0, .int .u8 0, .int .u8 0, .int .u8 0, .int .u8 0, .int .u8 0, .int .u8 0, .int .u8 0, .int .u8 0, .int .u8 0,
  .int .u8 0, .int .u8 0, .int .u8 0, .int .u8 0, .int .u8 0, .int .u8 0, .int .u8 0, .int .u8 0, .int .u8 0, .int .u8 0, .int .u8 0, .int .u8 0, .int .u8 0, .int .u8 0, .int .u8 0, .int .u8 0, .int .u8 0, .int .u8 0, .int .u8 0, .int .u8 0, .int .u8 0, .int .u8 0, .int .u8 0, .int .u8 0, .int .u8 0, .int .u8 0, .int .u8 0, .int .u8 0, .int .u8 0, .int .u8 0, .int .u8 0, .int .u8 0]
theorem secZero (w : World) : (zeroValue 98).run Tryd.prog w = .ok (.agg z64) w := by kernel_rfl
theorem secZero_mark : R64 (.agg z64) = some (.lit (.bool true), []) := R64_mk rfl (by kernel_rfl)
theorem byteZero (w : World) : (zeroValue 5).run Tryd.prog w = .ok (.int .u8 0) w := by kernel_rfl
theorem secInfo : (Tryd.prog.info? 98).map (·.size) = some 64 := by kernel_rfl
section
variable {w w' : World} {d g r S c : Nat} {s : DS}
theorem there_of {o n : Nat} (h : Dv w d g r S c s) (ho : o + n ≤ S * 64) : w.there g o n := fun j hj => by
  refine ⟨?_, h.sg _⟩
  obtain ⟨ad, b, e, _, _, hc⟩ := h.img.get (k := o + j) (by omega)
  injection e with e
  subst e
  rw [show (⟨g, 0, none⟩ : Addr).add (o + j) = ⟨g, o + j, none⟩ from by rw [Addr.add_mid, Nat.zero_add]] at hc
  rw [hc]; rfl
/-- Bytes written into the contents. -/
theorem Dv.setImg {o : Nat} {vs : List UInt8} {img' : List UInt8} (h : Dv w d g r S c s) (ho : o + vs.length ≤ S * 64) (hi : img' = s.img.take o ++ vs ++ s.img.drop (o + vs.length)) :
    Dv (w.setCells g o (bytes vs)) d g r S c { s with img := img' } ∧ Keep w (w.setCells g o (bytes vs)) (dvL d g r) := by
  obtain ⟨n1, n2, n3⟩ := h.ne
  obtain ⟨o1, o2, o3, o4⟩ := setCells_rest g (bytes vs) o w
  have hb : ∀ k, k ≠ g → (w.setCells g o (bytes vs)).heap[k]? = w.heap[k]? := fun k hk => setCells_block g _ o w k hk
  have hl : img'.length = S * 64 := by
    have := h.ok.len
    rw [hi]; simp only [List.length_append, List.length_take, List.length_drop]; omega
  refine ⟨⟨h.cells.same (hb d n1), h.sd.same (hb d n1), ⟨hl, fun hn => ⟨_, rfl, Nat.lt_succ_self _, fun j b hj => ?_⟩⟩, fun j => by rw [World.frozen?_setCells]; exact h.sg j, h.map.same (hb r (Ne.symm n3)), h.ne, ⟨hl, h.ok.nd, h.ok.lt, h.ok.fu⟩, h.sz⟩,
    ⟨o1, o2, o3, by rw [o4]; exact Nat.le_refl _, fun k _ hk => hb k (fun e => hk (.inr (.inl e)))⟩⟩
  rw [Addr.add_mid, Nat.zero_add]
  have himg := h.ok.len
  have hold : ∀ j b, s.img[j]? = some b → w.cell? ⟨g, j, none⟩ = some (.int .u8 (b.toNat : Int)) := fun j b hj => by
    have := byt_range h.img j _ (bytes_get hj)
    simpa using this
  rw [hi] at hj
  by_cases hin : o ≤ j ∧ j < o + vs.length
  · have e : j = o + (j - o) := by omega
    rw [e, World.cell?_setCells_in g (bytes vs) o w (fun i hi => (there_of h (n := vs.length) ho i (by rw [bytes_len] at hi; exact hi)).1) (j - o) (by rw [bytes_len]; omega)]
    rw [List.append_assoc, List.getElem?_append_right (by rw [List.length_take]; omega), List.getElem?_append_left (by rw [List.length_take]; omega)] at hj
    have e2 : j - (s.img.take o).length = j - o := by rw [List.length_take]; omega
    rw [e2] at hj
    have := bytes_get hj
    rw [List.getElem?_eq_getElem (by rw [bytes_len]; omega)] at this
    exact this
  · rw [World.cell?_setCells_out g (bytes vs) o w ⟨g, j, none⟩ (fun _ _ => by rw [bytes_len]; show j < o ∨ o + vs.length ≤ j; omega)]
    refine hold j b ?_
    rw [← hj]
    by_cases h1 : j < o
    · rw [List.append_assoc, List.getElem?_append_left (by rw [List.length_take]; omega), List.getElem?_take, if_pos h1]
    · rw [List.getElem?_append_right (by rw [List.length_append, List.length_take]; omega), List.getElem?_drop]
      congr 1
      rw [List.length_append, List.length_take]
      omega
theorem putS_two {img b : List UInt8} {i : Nat} (hb : b.length ≤ 64) (hl : i * 64 + 64 ≤ img.length) :
    putS img i b = (img.take (i * 64) ++ List.replicate 64 0 ++ img.drop (i * 64 + 64)).take (i * 64) ++ b ++ (img.take (i * 64) ++ List.replicate 64 0 ++ img.drop (i * 64 + 64)).drop (i * 64 + b.length) := by
  have h1 : (img.take (i * 64)).length = i * 64 := by rw [List.length_take]; omega
  have e1 : (img.take (i * 64) ++ List.replicate 64 0 ++ img.drop (i * 64 + 64)).take (i * 64) = img.take (i * 64) := by
    rw [List.append_assoc, List.take_append_of_le_length (by omega), List.take_of_length_le (by omega)]
  have e2 : (img.take (i * 64) ++ List.replicate 64 0 ++ img.drop (i * 64 + 64)).drop (i * 64 + b.length) = List.replicate (64 - b.length) 0 ++ img.drop (i * 64 + 64) := by
    rw [List.append_assoc, List.drop_append, List.drop_eq_nil_of_le (by omega), List.nil_append, h1, show i * 64 + b.length - i * 64 = b.length from by omega, List.drop_append_of_le_length (by simp; omega), List.drop_replicate]
  rw [e1, e2, putS, pad64]
  simp only [List.append_assoc]
/-- A mark is put into the map. -/
theorem DMap.put {ds : List Nat} {i : Nat} (h : DMap w r ds) (hlen : ds.length ≤ 1048576) (hi : i ≤ 1048576) {cs : Array Value} (h64 : cs.size = 64) (h1 : cs.all (·.oneCell') = true) :
    ∃ w', (Instr.mapUpdate 83 (.map (some r)) (.int .i64 (i : Int)) (.agg cs)).run Tryd.prog w = .ok () w' ∧ DMap w' r (ds ++ [i]) ∧ w'.os = w.os ∧ w'.tape = w.tape ∧ w'.output = w.output ∧ w'.heap.size = w.heap.size ∧ ∀ k, k ≠ r → w'.heap[k]? = w.heap[k]? := by
  have hk : keyOf Tryd.prog 3 (.int .i64 (i : Int)) = some (Lit.int .i64 (i : Int)) := Maps.keyOf_int_mk Tryd.underlying3 (WalkArith.wf_i64 (by omega))
  obtain ⟨w', h2, h3, es, clock, es', clock', hb, rfl⟩ := World.ownsMap.store h secKey Tryd.underlying83 (by unfold maxLen; omega) hk (R64_mk h64 h1)
  refine ⟨_, h2, ?_, rfl, rfl, rfl, by simp [ChangeMaps.setBlock], fun k hk => ChangeMaps.heap_setBlock_other hb _ hk⟩
  have e : secSet (ds ++ [i]) = (secSet ds).put (.int .i64 (i : Int)) (.lit (.bool true)) := by
    unfold secSet
    rw [List.map_append, List.map_cons, List.map_nil, Maps.setOf_snoc]
  unfold DMap
  rw [e, List.length_append]
  exact h3

/-- A sector's old contents are stored: what has come up (bb), what the temporaries hold (v). -/
structure R11 (w0 : World) (d g r i c : Nat) (cs : List Value) (bb : Nat → Bool) (v : Nat → Value) (w : World) : Prop where
  same : bb 8 = false → w = w0.drew
  fin : bb 8 = true → (Instr.mapUpdate 83 (.map (some r)) (.int .i64 (i : Int)) (.agg cs.toArray)).run Tryd.prog w0.drew = .ok () w
  s0 : bb 0 = true → v 0 = .pointer (some ⟨d, 0, none⟩)
  s1 : bb 1 = true → v 1 = .pointer (some ⟨d, 0, none⟩)
  s2 : bb 2 = true → v 2 = .pointer (some ⟨d, 1, none⟩)
  s3 : bb 3 = true → v 3 = .map (some r)
  s4 : bb 4 = true → v 4 = .int .i64 (i : Int)
  s5 : bb 5 = true → v 5 = .slice (some ⟨g, i * 64, none⟩) 64 c
  s6 : bb 6 = true → v 6 = .pointer (some ⟨g, i * 64, none⟩)
  s7 : bb 7 = true → v 7 = .agg cs.toArray
theorem Dv.count {s' : DS} (h : Dv w d g r S c s) (u : Value) (hu : u = .int .i64 (s'.wr : Int)) (hi : s'.img = s.img) (hds : s'.ds = s.ds) (hf : s'.fu = s.fu) (hdd : s'.dead = s.dead) (hok : s'.ok S) :
    Dv (w.setCell ⟨d, 2, none⟩ u) d g r S c s' ∧ Keep w (w.setCell ⟨d, 2, none⟩ u) (dvL d g r) := by
  subst hu
  have hc := h.cells.set 2 (.int .i64 (s'.wr : Int))
  exact h.setOwn (by rw [hf, hdd]; exact hc) hi hds hok
end
end Go.Proofs.YthgpmnblkhehkaaDoor
