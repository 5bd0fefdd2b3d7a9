/- The device in memory; its small functions. -/
import Derived.Test.YthgpmnblkhehkaaDoorDevS
import Derived.Test.YthgpmnblkhehkaaDoorKeep
import Derived.Test.YthgpmnblkhehkaaDoorWireWalks
import Derived.IntWalk
import Derived.Deep.DeepCutAuto
namespace Go.Proofs.YthgpmnblkhehkaaDoor
open Go.RowKit

/-- How an element of type sector reads: as a mark that it is there. -/
def R64 (v : Value) : Option (DataW Unit × List MemPlace) := match v with
  | .agg cs => if cs.size = 64 ∧ cs.all (·.oneCell') = true then some (.lit (.bool true), []) else none
  | _ => none
theorem R64_mk {cs : Array Value} (h : cs.size = 64) (h1 : cs.all (·.oneCell') = true) : R64 (.agg cs) = some (.lit (.bool true), []) := by
  unfold R64
  exact if_pos ⟨h, h1⟩
theorem R64_inv {v : Value} {z : DataW Unit × List MemPlace} (h : R64 v = some z) : ∃ cs, v = .agg cs ∧ cs.size = 64 ∧ cs.all (·.oneCell') = true ∧ z = (.lit (.bool true), []) := by
  unfold R64 at h
  cases v <;> simp only [reduceCtorEq] at h
  rename_i cs
  split at h
  · rename_i hc
    injection h with h
    exact ⟨cs, rfl, hc.1, hc.2, h.symm⟩
  · cases h
/-- A set of sectors, as a map's datum. -/
def secSet (ds : List Nat) : DataW Unit := Maps.setOf (.lit (.bool true)) (ds.map fun i : Nat => Lit.int .i64 (i : Int))
theorem secKeys (ds : List Nat) : ∀ x ∈ ds.map (fun i : Nat => Lit.int .i64 (i : Int)), WideAt.IsKeyLit x := fun x hx => by
  obtain ⟨i, _, rfl⟩ := List.mem_map.1 hx
  trivial
theorem secSet_has (ds : List Nat) (i : Nat) : Maps.has (secSet ds) (.int .i64 (i : Int)) = decide (i ∈ ds) := by
  rw [secSet, Maps.has_setOf _ _ _ (secKeys ds), List.any_map, Bool.eq_iff_iff]
  simp only [List.any_eq_true, Function.comp_apply, decide_eq_true_eq]
  constructor
  · rintro ⟨j, hj, e⟩
    have := WideAt.sameKey_eq e
    injection this with _ this
    have : j = i := by omega
    exact this ▸ hj
  · intro h
    exact ⟨i, h, WideAt.sameKey_self trivial⟩
theorem secSet_size : ∀ (ds : List Nat), ds.Nodup → Maps.size (secSet ds) = ds.length := by
  intro ds
  rw [secSet, Maps.size_setOf _ _ (secKeys ds)]
  have h : ∀ (xs : List Nat) (L : List Nat), (L ++ xs).Nodup → ((xs.map fun i : Nat => Lit.int .i64 (i : Int)).foldl Maps.addKey (L.map fun i : Nat => Lit.int .i64 (i : Int))).length = (L ++ xs).length := by
    intro xs
    induction xs with
    | nil => intro L _; simp
    | cons x xs ih =>
      intro L hn
      have hx : x ∉ L := fun hL => by
        have := (List.nodup_append.1 hn).2.2 x hL x (by simp)
        exact this rfl
      have e : Maps.addKey (L.map fun i : Nat => Lit.int .i64 (i : Int)) (Lit.int .i64 (x : Int)) = (L ++ [x]).map fun i : Nat => Lit.int .i64 (i : Int) := by
        unfold Maps.addKey
        rw [if_neg]
        · simp
        · intro hany
          obtain ⟨y, hy, e⟩ := List.any_eq_true.1 hany
          obtain ⟨j, hj, rfl⟩ := List.mem_map.1 hy
          have := WideAt.sameKey_eq e
          injection this with _ this
          have : j = x := by omega
          exact hx (this ▸ hj)
      rw [List.map_cons, List.foldl_cons, e, ih (L ++ [x]) (by simpa using hn)]
      simp
  intro hn
  have := h ds [] (by simpa using hn)
  simpa using this
/-- Block r is a map whose keys are these sectors. -/
def DMap (w : World) (r : Nat) (ds : List Nat) : Prop := w.ownsMap Tryd.prog 3 R64 r ds.length (secSet ds)
theorem DMap.lt {w : World} {r : Nat} {ds : List Nat} (h : DMap w r ds) : r < w.heap.size := World.ownsMap.lt h
theorem DMap.same {w w' : World} {r : Nat} {ds : List Nat} (h : DMap w r ds) (hb : w'.heap[r]? = w.heap[r]?) : DMap w' r ds := by
  obtain ⟨es, clock, h1, h2⟩ := h
  exact ⟨es, clock, hb.trans h1, h2⟩

/-- A device: block d, its contents in block g, its map in block r. -/
structure Dv (w : World) (d g r S c : Nat) (s : DS) : Prop where
  cells : Cells w d [.slice (some ⟨g, 0, none⟩) (S * 64) c, .map (some r), .int .i64 (s.wr : Int), .int .i64 s.fu, .bool s.dead]
  sd : Soft w d
  img : Byt w (g + 1) (some ⟨g, 0, none⟩) (S * 64) s.img
  sg : Soft w g
  map : DMap w r s.ds
  ne : d ≠ g ∧ d ≠ r ∧ g ≠ r
  ok : s.ok S
  sz : 1 ≤ S ∧ S ≤ 1048576 ∧ S * 64 ≤ c ∧ c ≤ 9223372036854775807
section
variable {w w' : World} {d g r S c : Nat} {s : DS}
theorem Dv.glt (h : Dv w d g r S c s) : g < w.heap.size := by
  obtain ⟨ad, b, e, _, _, hc⟩ := h.img.get (k := 0) (by have := h.sz; omega)
  injection e with e
  subst e
  exact block_lt_of_cell hc
theorem Dv.same (h : Dv w d g r S c s) (hd : w'.heap[d]? = w.heap[d]?) (hg : w'.heap[g]? = w.heap[g]?) (hr : w'.heap[r]? = w.heap[r]?) : Dv w' d g r S c s :=
  ⟨h.cells.same hd, h.sd.same hd, ⟨h.img.len, fun hn => by
    obtain ⟨ad, e, hb, hc⟩ := h.img.mem hn
    refine ⟨ad, e, hb, fun j u hu => (World.cell?_of_block ?_).trans (hc j u hu)⟩
    injection e with e
    subst e
    rw [addr_block]
    exact hg⟩, h.sg.same hg, h.map.same hr, h.ne, h.ok, h.sz⟩
theorem Dv.below (h : Dv w d g r S c s) (hb : Below w.heap.size w w') : Dv w' d g r S c s := h.same (hb.block _ h.cells.lt) (hb.block _ h.glt) (hb.block _ h.map.lt)

theorem dsectors_any (h : Dv w d g r S c s) : Calls Tryd.prog 47 #[.pointer (some ⟨d, 0, none⟩)] w fun e w' => e = .returned (.int .i64 (S : Int)) ∧ w = w' := by
  have l0 := h.cells 0 _ rfl
  have hS := h.sz
  have hb : ((S * 64 : Nat) : Int) ≤ 67108864 := by omega
  have hb0 : 0 ≤ ((S * 64 : Nat) : Int) := by omega
  clear h hS
  go_enter Tryd.func47, Tryd.ntmps47
  go_wp2
  go_ret
  exact ⟨rfl, rfl⟩

def checkS (S : Nat) (dead : Bool) (i : Int) : Int := if dead = true then 1 else if i < 0 ∨ (S : Int) ≤ i then 2 else 0
theorem dcheck_any (i : Int) (h : Dv w d g r S c s) : Calls Tryd.prog 57 #[.pointer (some ⟨d, 0, none⟩), .int .i64 i] w fun e w' => e = .returned (.int .i64 (checkS S s.dead i)) ∧ w = w' := by
  have l4 := h.cells 4 _ rfl
  have SE := Lib.hid (dsectors_any h)
  clear h
  obtain ⟨img, ds, wr, fu, dead⟩ := s
  dsimp only at l4 ⊢
  cases dead
  · by_cases h1 : i < 0
    · have e : checkS S false i = 2 := by simp [checkS, h1]
      rw [e]
      clear e
      go_enter Tryd.func57, Tryd.ntmps57
      go_wp2
      go_ret
      exact ⟨rfl, rfl⟩
    · by_cases h2 : (S : Int) ≤ i
      · have e : checkS S false i = 2 := by simp [checkS, h2]
        rw [e]
        clear e
        go_enter Tryd.func57, Tryd.ntmps57
        go_wp2_with (go_at_call 47; refine SE.out.mono ?_; rintro e w' ⟨rfl, rfl⟩)
        go_ret
        exact ⟨rfl, rfl⟩
      · have e : checkS S false i = 0 := by simp [checkS, h1, h2]
        rw [e]
        clear e
        go_enter Tryd.func57, Tryd.ntmps57
        go_wp2_with (go_at_call 47; refine SE.out.mono ?_; rintro e w' ⟨rfl, rfl⟩)
        go_ret
        exact ⟨rfl, rfl⟩
  · have e : checkS S true i = 1 := by simp [checkS]
    rw [e]
    clear e
    go_enter Tryd.func57, Tryd.ntmps57
    go_wp2
    go_ret
    exact ⟨rfl, rfl⟩

/-- What a call leaves that touches a device alone. -/
def dvL (d g r : Nat) (k : Nat) : Prop := k = d ∨ k = g ∨ k = r
theorem Dv.setOwn {j : Nat} {u : Value} {s' : DS} (h : Dv w d g r S c s) (hc : Cells (w.setCell ⟨d, j, none⟩ u) d [.slice (some ⟨g, 0, none⟩) (S * 64) c, .map (some r), .int .i64 (s'.wr : Int), .int .i64 s'.fu, .bool s'.dead]) (himg : s'.img = s.img) (hds : s'.ds = s.ds) (hok : s'.ok S) :
    Dv (w.setCell ⟨d, j, none⟩ u) d g r S c s' ∧ Keep w (w.setCell ⟨d, j, none⟩ u) (dvL d g r) := by
  obtain ⟨n1, n2, n3⟩ := h.ne
  have hb : ∀ k, k ≠ d → (w.setCell ⟨d, j, none⟩ u).heap[k]? = w.heap[k]? := fun k hk => Below.heap_setCell _ _ _ _ hk
  have h2 : Byt (w.setCell ⟨d, j, none⟩ u) (g + 1) (some ⟨g, 0, none⟩) (S * 64) s.img := ⟨h.img.len, fun hn => by
    obtain ⟨ad, e, hlt, hcl⟩ := h.img.mem hn
    refine ⟨ad, e, hlt, fun j' u' hu => (World.cell?_of_block ?_).trans (hcl j' u' hu)⟩
    injection e with e
    subst e
    rw [addr_block]
    exact hb _ (Ne.symm n1)⟩
  exact ⟨⟨hc, h.sd.set _ _, by rw [himg]; exact h2, h.sg.set _ _, by rw [hds]; exact h.map.same (hb _ (Ne.symm n2)), h.ne, hok, h.sz⟩,
    ⟨rfl, rfl, rfl, by simp [World.setCell], fun k _ hk => hb k (fun e => hk (.inl e))⟩⟩

theorem dburn_any (hd : s.dead = false) (h : Dv w d g r S c s) : Calls Tryd.prog 58 #[.pointer (some ⟨d, 0, none⟩)] w fun e w' => e = .returned (.bool (burnS s).dead) ∧ Dv w' d g r S c (burnS s) ∧ Keep w w' (dvL d g r) := by
  have l3 := h.cells 3 _ rfl
  have l4 := h.cells 4 _ rfl
  have z3 := h.sd 3
  have z4 := h.sd 4
  have hfu := h.ok.fu
  have HH := Lib.hid h
  have hok := h.ok.burn
  clear h
  obtain ⟨img, ds, wr, fu, dead⟩ := s
  dsimp only at l3 l4 hfu hd ⊢
  subst hd
  rcases Int.lt_trichotomy fu 0 with h1 | h1 | h1
  · have e : burnS ⟨img, ds, wr, fu, false⟩ = ⟨img, ds, wr, fu, false⟩ := by rw [burnS, if_neg (by show ¬ fu = 0; omega), if_neg (by show ¬ 0 < fu; omega)]
    rw [e]
    clear e hok
    have h2 : (fu == 0) = false := by simp; omega
    go_enter Tryd.func58, Tryd.ntmps58
    go_wp2
    go_ret
    exact ⟨rfl, HH.out, Keep.refl _ _⟩
  · subst h1
    have e : burnS ⟨img, ds, wr, 0, false⟩ = ⟨img, ds, wr, 0, true⟩ := by simp [burnS]
    rw [e] at hok ⊢
    have HO := Lib.hid hok
    clear e hok
    go_enter Tryd.func58, Tryd.ntmps58
    go_wp2
    go_ret
    exact ⟨rfl, HH.out.setOwn (s' := ⟨img, ds, wr, 0, true⟩) (HH.out.cells.set 4 _) rfl rfl HO.out⟩
  · have e : burnS ⟨img, ds, wr, fu, false⟩ = ⟨img, ds, wr, fu - 1, false⟩ := by rw [burnS, if_neg (by show ¬ fu = 0; omega), if_pos (by show 0 < fu; omega)]
    rw [e] at hok ⊢
    have HO := Lib.hid hok
    clear e hok
    have h2 : (fu == 0) = false := by simp; omega
    go_enter Tryd.func58, Tryd.ntmps58
    go_wp2
    go_ret
    exact ⟨rfl, HH.out.setOwn (s' := ⟨img, ds, wr, fu - 1, false⟩) (HH.out.cells.set 3 _) rfl rfl HO.out⟩
end
end Go.Proofs.YthgpmnblkhehkaaDoor
