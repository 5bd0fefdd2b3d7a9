/- Appending bytes to a row of the call's own: the source nil, empty or not. -/
import Derived.Test.YthgpmnblkhehkaaDoorMem
import Derived.Maps.AppendAt
import Derived.RegionTactic
import Derived.OwnWalk
namespace Go.Proofs.YthgpmnblkhehkaaDoor
open Go.RowKit

/-- t is the type []byte with the element type e. -/
structure U8s (P : Program) (t e : TypeId) : Prop where
  ht : P.underlying t = some (.slice e)
  hu : P.underlying e = some (.int .u8)
  info : (P.info? e).map (fun i => (i.zero, i.size, i.bytes)) = some (some (.int .u8 0), 1, 1)

/-- A row of bytes of the call's own, from block base on. -/
def Own (w : World) (base : Nat) (e : TypeId) (v : Value) (n : Nat) (bs : List UInt8) : Prop := w.ownsRow base e 1 v n (bytes bs)

section
variable {P : Program} {w w' : World} {base n : Nat} {t e : TypeId} {v : Value} {bs : List UInt8}

theorem Own.nil (w : World) (base : Nat) (e : TypeId) : Own w base e (.slice none 0 0) 0 [] := ⟨rfl, .inl ⟨rfl, rfl⟩⟩
theorem Own.len (h : Own w base e v n bs) : bs.length = n := by have := h.1; rw [bytes_len] at this; omega
theorem Own.form (h : Own w base e v n bs) : ∃ A c, v = .slice A n c ∧ n ≤ c ∧ c ≤ 9223372036854775807 := by
  rcases h.2 with ⟨rfl, rfl⟩ | ⟨g, cap, cur, rfl, _, _, h1, h2, _⟩
  · exact ⟨none, 0, rfl, by omega, by omega⟩
  · exact ⟨_, cap, rfl, h1, h2⟩
theorem Own.byt {A : Option Addr} {c : Nat} (h : Own w base e (.slice A n c) n bs) : Byt w w.heap.size A n bs := Byt.of_own h
theorem Own.below (h : Own w base e v n bs) {B : Nat} (hb : Below B w w') (hg : ∀ g, v.ownBlock = some g → g < B) : Own w' base e v n bs := by
  refine ⟨h.1, ?_⟩
  rcases h.2 with h0 | ⟨g, cap, cur, rfl, hbase, hh, r⟩
  · exact .inl h0
  · exact .inr ⟨g, cap, cur, rfl, hbase, (hb.block g (hg g rfl)).trans hh, r⟩
theorem Own.lt (h : Own w base e v n bs) {g : Nat} (hg : v.ownBlock = some g) : g < w.heap.size := by
  rcases h.2 with ⟨rfl, _⟩ | ⟨g', cap, cur, rfl, _, hh, _⟩
  · simp [Value.ownBlock] at hg
  · simp [Value.ownBlock] at hg
    subst hg
    rcases Nat.lt_or_ge g' w.heap.size with hlt | hge
    · exact hlt
    · rw [Array.getElem?_eq_none hge] at hh; cases hh
theorem Own.keep (h : Own w base e v n bs) (hb : Below w.heap.size w w') : Own w' base e v n bs := h.below hb fun _ hg => h.lt hg
theorem Own.ge (h : Own w base e v n bs) {g : Nat} (hg : v.ownBlock = some g) : base ≤ g := by
  rcases h.2 with ⟨rfl, _⟩ | ⟨g', cap, cur, rfl, hb, _, _⟩
  · simp [Value.ownBlock] at hg
  · simp [Value.ownBlock] at hg
    omega
theorem Own.head {A : Option Addr} {c : Nat} (h : Own w base e (.slice A n c) n bs) (hn : 0 < n) : ∃ g, A = some ⟨g, 0, none⟩ := by
  obtain ⟨g, cap, hv, _⟩ := World.ownsRow.form h hn
  exact ⟨g, by injection hv⟩
theorem Own.at_ {g c : Nat} (h : Own w base e (.slice (some ⟨g, 0, none⟩) n c) n bs) (j : Nat) (hj : j < n) :
    ∃ b, bs[j]? = some b ∧ w.cell? ⟨g, j, none⟩ = some (.int .u8 (b.toNat : Int)) ∧ w.frozen? ⟨g, j, none⟩ = false := by
  have hl : j < bs.length := by rw [h.len]; exact hj
  refine ⟨bs[j], List.getElem?_eq_getElem hl, ?_, World.ownsRow.frozenAt h j⟩
  rw [World.ownsRow.cellAt h j (by omega)]
  exact bytes_get (List.getElem?_eq_getElem hl)
theorem Own.mono {base' : Nat} (h : Own w base e v n bs) (hb : base' ≤ base) : Own w base' e v n bs := by
  refine ⟨h.1, ?_⟩
  rcases h.2 with h0 | ⟨g, cap, cur, rfl, hbase, r⟩
  · exact .inl h0
  · exact .inr ⟨g, cap, cur, rfl, by omega, r⟩
theorem Own.drewN (h : Own w base e v n bs) (k : Nat) : Own (w.drewN k) base e v n bs := h

theorem run_append_byt (hu : U8s P t e) (ty : TypeId) (hown : Own w base e v n bs) {B : Nat} {A : Option Addr} {m : Nat} (c : Nat) {news : List UInt8} (hr : Byt w B A m news)
    (h47 : n + m ≤ 140737488355328) (hbase : base ≤ w.heap.size) :
    ∃ A' c' w', (Builtin.append_ #[t, t] ty #[v, .slice A m c]).run P w = .ok (.slice A' (n + m) c') w' ∧ Own w' base e (.slice A' (n + m) c') (n + m) (bs ++ news) ∧ Below base w w' := by
  obtain ⟨i, hi, hz, hs, hb⟩ := info_parts hu.info
  have fin : ∀ v' w', (Builtin.append_ #[t, t] ty #[v, .slice A m c]).run P w = .ok v' w' → Own w' base e v' (n + m) (bs ++ news) → w.grownBy w' v.ownBlock →
      ∃ A' c' w', (Builtin.append_ #[t, t] ty #[v, .slice A m c]).run P w = .ok (.slice A' (n + m) c') w' ∧ Own w' base e (.slice A' (n + m) c') (n + m) (bs ++ news) ∧ Below base w w' := by
    intro v' w' h1 h2 h3
    obtain ⟨A', c', rfl, _⟩ := h2.form
    exact ⟨A', c', w', h1, h2, (Below.refl base w).grown h3 hbase fun k hk => hown.ge hk⟩
  rcases A with _ | ad
  · have hm : m = 0 := by
      rcases Nat.eq_zero_or_pos m with h0 | h0
      · exact h0
      · obtain ⟨ad, h, _⟩ := hr.mem h0
        cases h
    subst hm
    have hn : news = [] := List.eq_nil_of_length_eq_zero hr.len
    subst hn
    refine fin v w ?_ (by simpa using hown) (World.grownBy.refl w _)
    rcases hown.2 with ⟨rfl, rfl⟩ | ⟨g, cap, cur, rfl, _, _, hnc, _⟩
    · simp [Builtin.append_, run_underlying hu.ht, sizeOf, typeInfo, hi, Builtin.lenOf, Builtin.firstCells]
    · simp [Builtin.append_, run_underlying hu.ht, sizeOf, typeInfo, hi, Builtin.lenOf, Builtin.firstCells, hnc, storeCells]
  · have hcells : ∀ j u, (bytes news)[j]? = some u → w.cell? (ad.add j) = some u := by
      intro j u hu
      obtain ⟨b, hb, rfl⟩ := bytes_at hu
      rcases Nat.eq_zero_or_pos m with h0 | h0
      · subst h0
        have hn : news = [] := List.eq_nil_of_length_eq_zero hr.len
        subst hn
        simp at hb
      · obtain ⟨ad', h, _, hc⟩ := hr.mem h0
        injection h with h
        subst h
        exact hc j b hb
    obtain ⟨v', w', hrun, h2, h3, _, _⟩ := run_append_own_at (P := P) w base t ty e i _ 1 1 hu.ht hi hz hs hb rfl (by decide) v n (bytes bs) hown ad m c (bytes news) (by rw [bytes_len, hr.len]; omega) hcells
      (fun u hu => by obtain ⟨b, _, rfl⟩ := List.mem_map.1 hu; rfl) (by simp only [maxLen]; omega) (by omega) hbase
    exact fin v' w' hrun (by unfold Own; rw [bytes_app]; exact h2) h3

theorem wp_append_byt {o : Oper} {a : Act} {K : Act → World → Prop} {Q : Exit → Act → World → Prop} (hu : U8s P t e) (s x : Operand)
    (ho : o.op = .call { callee := .builtin .append, args := #[s, x], argTypes := #[t, t] })
    (hs : a.eval s = v) (hown : Own w base e v n bs) {B : Nat} {A : Option Addr} {m c : Nat} {news : List UInt8} (hx : a.eval x = .slice A m c) (hr : Byt w B A m news)
    (h47 : n + m ≤ 140737488355328) (hbase : base ≤ w.heap.size)
    (h : ∀ A' c' w', Own w' base e (.slice A' (n + m) c') (n + m) (bs ++ news) → Below base w w' → K (a.put o.dst (.slice A' (n + m) c')) w') : o.wp P a w K Q := by
  obtain ⟨A', c', w', hrun, h2, h3⟩ := run_append_byt hu o.type hown c hr h47 hbase
  unfold Oper.wp execOp
  simp only [ho, resolve, invoke, builtin, Sem.run_bind, Sem.run_pure, Result.andThen_ok, List.map_toArray, List.map_cons, List.map_nil, hs, hx, hrun]
  exact h A' c' w' h2 h3

/-- append, as the walk meets it (guarded or not). -/
theorem wpList_append_byt {ops : Array Oper} {rest : List Oper} {o : Oper} {a : Act} {Q : Exit → Act → World → Prop} (hw : Region.wanted o (yielded ops a.tmps) = true) (hu : U8s P t e) (s x : Operand)
    (ho : o.op = .call { callee := .builtin .append, args := #[s, x], argTypes := #[t, t] })
    (hs : a.eval s = v) (hown : Own w base e v n bs) {B : Nat} {A : Option Addr} {m c : Nat} {news : List UInt8} (hx : a.eval x = .slice A m c) (hr : Byt w B A m news)
    (h47 : n + m ≤ 140737488355328) (hbase : base ≤ w.heap.size)
    (h : ∀ A' c' w', Own w' base e (.slice A' (n + m) c') (n + m) (bs ++ news) → Below base w w' → wpList P ops Q rest (a.put o.dst (.slice A' (n + m) c')) w') : wpList P ops Q (o :: rest) a w :=
  wpList_step fun K hK => by
    rw [if_pos hw]
    exact wp_append_byt hu s x ho hs hown hx hr h47 hbase fun A' c' w' h2 h3 => hK _ _ (h A' c' w' h2 h3)

/-- A literal block of bytes is a row of the call's own. -/
theorem Own.lit (w : World) (cs : Array Value) (e : TypeId) (l : List UInt8) (h : cs.toList = bytes l) (hl : l.length ≤ 1000000) :
    Own (w.alloc (.cells cs e)) w.heap.size e (.slice (some ⟨w.heap.size, 0, none⟩) l.length l.length) l.length l := by
  have hs : cs.size = l.length := by rw [← Array.length_toList, h, bytes_len]
  refine ⟨by rw [bytes_len]; omega, .inr ⟨w.heap.size, l.length, cs, rfl, Nat.le_refl _, heap_alloc_new w _, Nat.le_refl _, by unfold maxLen; omega, by omega, ?_⟩⟩
  rw [h, List.take_of_length_le (by rw [bytes_len]; omega)]

/-- make of n bytes. -/
theorem wpList_make_byt {ops : Array Oper} {rest : List Oper} {o : Oper} {a : Act} {Q : Exit → Act → World → Prop} (hg : o.guard = none) (hu : U8s P t e) (l c : Operand) (hop : o.op = Op.makeSlice t l c)
    (L : Int) (n : Nat) (hl : a.eval l = .int .i64 L) (hc : a.eval c = .int .i64 L) (hL : L = (n : Int)) (hn : n ≤ 100000000)
    (h : ∀ w', Own w' w.heap.size e (.slice (some ⟨w.heap.size, 0, none⟩) n n) n (List.replicate n 0) → Below w.heap.size w w' → wpList P ops Q rest (a.put o.dst (.slice (some ⟨w.heap.size, 0, none⟩) n n)) w') : wpList P ops Q (o :: rest) a w := by
  obtain ⟨i, hi, hz, hs, hb⟩ := info_parts hu.info
  refine wpList_make_full w hg l c t hop w.heap.size e i _ 1 hu.ht hi hz hs .i64 .i64 L L n hl hc hL hL (by rw [hb]; omega) (by unfold maxLen; omega) (Nat.le_refl _) fun w' hown hgr => h w' ?_ ((Below.refl _ _).grown hgr (Nat.le_refl _) fun k hk => by cases hk)
  have e1 : (madeCells (Value.int .u8 0).cells (n * 1)).toList = bytes (List.replicate n 0) := by
    rw [Nat.mul_one]
    simp [madeCells, bytes, Value.cells, Nat.mod_one]
    rw [List.map_const', List.length_range]
  rw [e1] at hown
  exact hown

/-- min of two ints. -/
theorem wpList_min {ops : Array Oper} {rest : List Oper} {o : Oper} {a : Act} {Q : Exit → Act → World → Prop} {ty : TypeId} {p q m : Int} (hg : o.guard = none) (x y : Operand)
    (ho : o.op = .call { callee := .builtin .min, args := #[x, y], argTypes := #[ty, ty] }) (hx : a.eval x = .int .i64 p) (hy : a.eval y = .int .i64 q) (hm : (if q < p then q else p) = m)
    (h : wpList P ops Q rest (a.put o.dst (.int .i64 m)) w) : wpList P ops Q (o :: rest) a w := by
  refine wpList_plain hg fun K hK => ?_
  have hr : (Builtin.min_ #[ty, ty] o.type #[.int .i64 p, .int .i64 q]).run P w = .ok (.int .i64 m) w := by
    rw [← hm]
    simp [Builtin.min_, Builtin.min2]
  unfold Oper.wp execOp
  simp only [ho, resolve, invoke, builtin, Sem.run_bind, Sem.run_pure, Result.andThen_ok, List.map_toArray, List.map_cons, List.map_nil, hx, hy, hr]
  exact hK _ _ h
theorem min_pick (n k : Nat) : ∃ m : Nat, (if (k : Int) < (n : Int) then (k : Int) else (n : Int)) = (m : Int) ∧ m ≤ n ∧ m ≤ k ∧ (n ≤ k → m = n) ∧ (k ≤ n → m = k) := by
  by_cases h : k < n
  · exact ⟨k, by rw [if_pos (by omega)], by omega, by omega, by omega, by omega⟩
  · exact ⟨n, by rw [if_neg (by omega)], by omega, by omega, by omega, by omega⟩

/-- append, in a region that draws its order. -/
theorem step_append_byt {ops : Array Oper} {o : Oper} {a : Act} {K : Act → World → Prop} {Q : Exit → Act → World → Prop} {E : Prop} (hw : Region.wanted o (yielded ops a.tmps) = true) (hu : U8s P t e) (s x : Operand)
    (ho : o.op = .call { callee := .builtin .append, args := #[s, x], argTypes := #[t, t] })
    (hs : a.eval s = v) (hown : Own w base e v n bs) {B : Nat} {A : Option Addr} {m c : Nat} {news : List UInt8} (hx : a.eval x = .slice A m c) (hr : Byt w B A m news)
    (h47 : n + m ≤ 140737488355328) (hbase : base ≤ w.heap.size)
    (h : ∀ A' c' w', Own w' base e (.slice A' (n + m) c') (n + m) (bs ++ news) → Below base w w' → K (a.put o.dst (.slice A' (n + m) c')) w') :
    if Region.wanted o (yielded ops a.tmps) = true then Oper.wp P o a w K Q else E := by
  rw [if_pos hw]
  exact wp_append_byt hu s x ho hs hown hx hr h47 hbase h
end
end Go.Proofs.YthgpmnblkhehkaaDoor
