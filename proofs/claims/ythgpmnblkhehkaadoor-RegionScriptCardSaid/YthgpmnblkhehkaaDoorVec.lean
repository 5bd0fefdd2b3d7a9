/- Rows of one-cell values of the call's own: append of one or of several; where the new row lies. -/
import Derived.Test.YthgpmnblkhehkaaDoorCells
namespace Go.Proofs.YthgpmnblkhehkaaDoor
open Go.RowKit

/-- t is a slice type whose elements are one cell of k bytes. -/
structure Ones (P : Program) (t e : TypeId) (z : Value) (k : Nat) : Prop where
  ht : P.underlying t = some (.slice e)
  info : (P.info? e).map (fun i => (i.zero, i.size, i.bytes)) = some (some z, 1, k)
  one : z.cells.size = 1
  small : k ≤ 1000
theorem ones_parts {P : Program} {e : TypeId} {z : Value} {k : Nat} (h : (P.info? e).map (fun i => (i.zero, i.size, i.bytes)) = some (some z, 1, k)) : ∃ i, P.info? e = some i ∧ i.zero = some z ∧ i.size = 1 ∧ i.bytes = k := by
  cases hi : P.info? e with
  | none => rw [hi] at h; simp at h
  | some i =>
    rw [hi] at h
    simp at h
    exact ⟨i, rfl, h.1, h.2.1, h.2.2⟩

/-- The slice value '.slice A n c' reads as these values, all of it in blocks below B. -/
def Vat (w : World) (B : Nat) (A : Option Addr) (n : Nat) (xs : List Value) : Prop := xs.length = n ∧ ∀ j x, xs[j]? = some x → ∃ ad, A = some ad ∧ ad.block < B ∧ w.cell? (ad.add j) = some x
/-- A row of values of the call's own, from block base on. -/
def Vec (w : World) (base : Nat) (e : TypeId) (v : Value) (n : Nat) (xs : List Value) : Prop := w.ownsRow base e 1 v n xs

section
variable {P : Program} {w w' : World} {B base n : Nat} {t e : TypeId} {v z : Value} {xs : List Value} {k : Nat} {A : Option Addr}
theorem Vat.keep (h : Vat w B A n xs) (hk : ∀ p : Addr, p.block < B → w'.cell? p = w.cell? p) : Vat w' B A n xs := ⟨h.1, fun j x hj => by
  obtain ⟨ad, e, hb, hc⟩ := h.2 j x hj
  exact ⟨ad, e, hb, (hk _ (by rw [addr_block]; exact hb)).trans hc⟩⟩
theorem Vat.below (h : Vat w B A n xs) (hb : Below B w w') : Vat w' B A n xs := h.keep fun _ hp => hb.cell hp
theorem Vat.more {B' : Nat} (h : Vat w B A n xs) (hB : B ≤ B') : Vat w B' A n xs := ⟨h.1, fun j x hj => by
  obtain ⟨ad, e, hb, hc⟩ := h.2 j x hj
  exact ⟨ad, e, by omega, hc⟩⟩
theorem Vat.one (w : World) (x : Value) (ty : TypeId) : Vat (w.alloc (.cells #[x] ty)) (w.heap.size + 1) (some ⟨w.heap.size, 0, none⟩) 1 [x] := ⟨rfl, fun j u hj => ⟨_, rfl, by simp, by
  match j, hj with
  | 0, hj =>
    simp at hj
    subst hj
    simp [Addr.add]⟩⟩
theorem Byt.vat {bs : List UInt8} (h : Byt w B A n bs) : Vat w B A n (bytes bs) := ⟨by rw [bytes_len, h.len], fun j x hj => by
  obtain ⟨b, hb, rfl⟩ := bytes_at hj
  have hn : 0 < n := by
    have := (List.getElem?_eq_some_iff.1 hb).1
    rw [h.len] at this
    omega
  obtain ⟨ad, e, hlt, hc⟩ := h.mem hn
  exact ⟨ad, e, hlt, hc j b hb⟩⟩

theorem Vec.nil (w : World) (base : Nat) (e : TypeId) : Vec w base e (.slice none 0 0) 0 [] := ⟨rfl, .inl ⟨rfl, rfl⟩⟩
theorem Vec.len (h : Vec w base e v n xs) : xs.length = n := by have := h.1; omega
theorem Vec.form (h : Vec w base e v n xs) : ∃ A c, v = .slice A n c ∧ n ≤ c ∧ c ≤ 9223372036854775807 := by
  rcases h.2 with ⟨rfl, rfl⟩ | ⟨g, cap, cur, rfl, _, _, h1, h2, _⟩
  · exact ⟨none, 0, rfl, by omega, by omega⟩
  · exact ⟨_, cap, rfl, h1, h2⟩
theorem Vec.lt (h : Vec w base e v n xs) {g : Nat} (hg : v.ownBlock = some g) : g < w.heap.size := (World.ownsRow.lt h g hg).2
theorem Vec.ge (h : Vec w base e v n xs) {g : Nat} (hg : v.ownBlock = some g) : base ≤ g := (World.ownsRow.lt h g hg).1
theorem Vec.same (h : Vec w base e v n xs) (hb : ∀ g, v.ownBlock = some g → w'.heap[g]? = w.heap[g]?) : Vec w' base e v n xs := by
  refine ⟨h.1, ?_⟩
  rcases h.2 with h0 | ⟨g, cap, cur, rfl, hbase, hh, r⟩
  · exact .inl h0
  · exact .inr ⟨g, cap, cur, rfl, hbase, (hb g rfl).trans hh, r⟩
theorem Own.same {bs : List UInt8} (h : Own w base e v n bs) (hb : ∀ g, v.ownBlock = some g → w'.heap[g]? = w.heap[g]?) : Own w' base e v n bs := Vec.same (w := w) h hb
theorem Vec.keep (h : Vec w base e v n xs) (hb : Below w.heap.size w w') : Vec w' base e v n xs := h.same fun _ hg => hb.block _ (h.lt hg)
theorem Vec.kept {row : Option Nat} (h : Vec w base e v n xs) (hg : w.grownBy w' row) (hne : v.ownBlock = none ∨ v.ownBlock ≠ row) : Vec w' base e v n xs := World.ownsRow.kept h hg hne
theorem Vec.set {g o : Nat} (h : Vec w base e v n xs) (hg : g < base) (u : Value) : Vec (w.setCell ⟨g, o, none⟩ u) base e v n xs := ownsRow_setCell_below h hg u
theorem Vec.mono {base' : Nat} (h : Vec w base e v n xs) (hb : base' ≤ base) : Vec w base' e v n xs := by
  refine ⟨h.1, ?_⟩
  rcases h.2 with h0 | ⟨g, cap, cur, rfl, hbase, r⟩
  · exact .inl h0
  · exact .inr ⟨g, cap, cur, rfl, by omega, r⟩
theorem Vec.drew (h : Vec w base e v n xs) : Vec w.drew base e v n xs := h
theorem Vec.vat {A : Option Addr} {c : Nat} (h : Vec w base e (.slice A n c) n xs) : Vat w w.heap.size A n xs := ⟨h.len, fun j x hj => by
  have hn : 0 < n := by
    have := (List.getElem?_eq_some_iff.1 hj).1
    rw [h.len] at this
    omega
  obtain ⟨g, cap, hv, _, hlt⟩ := World.ownsRow.form h hn
  have hA : A = some ⟨g, 0, none⟩ := by injection hv
  subst hA
  exact ⟨_, rfl, hlt, World.ownsRow.cells h (g := g) rfl j x hj⟩⟩

theorem run_append_vec (hu : Ones P t e z k) (ty : TypeId) (hown : Vec w base e v n xs) {m : Nat} (c : Nat) {news : List Value} (hr : Vat w B A m news) (h1 : ∀ u ∈ news, u.oneCell' = true)
    (h47 : n + m ≤ 1000000000) (hbase : base ≤ w.heap.size) :
    ∃ A' c' w', (Builtin.append_ #[t, t] ty #[v, .slice A m c]).run P w = .ok (.slice A' (n + m) c') w' ∧ Vec w' base e (.slice A' (n + m) c') (n + m) (xs ++ news) ∧ w.grownBy w' v.ownBlock ∧
      ((Value.slice A' (n + m) c').ownBlock = v.ownBlock ∨ (Value.slice A' (n + m) c').ownBlock = some w.heap.size) := by
  obtain ⟨i, hi, hz, hs, hb⟩ := ones_parts hu.info
  have fin : ∀ v' w', (Builtin.append_ #[t, t] ty #[v, .slice A m c]).run P w = .ok v' w' → Vec w' base e v' (n + m) (xs ++ news) → w.grownBy w' v.ownBlock → (v'.ownBlock = v.ownBlock ∨ v'.ownBlock = some w.heap.size) →
      ∃ A' c' w', (Builtin.append_ #[t, t] ty #[v, .slice A m c]).run P w = .ok (.slice A' (n + m) c') w' ∧ Vec w' base e (.slice A' (n + m) c') (n + m) (xs ++ news) ∧ w.grownBy w' v.ownBlock ∧
        ((Value.slice A' (n + m) c').ownBlock = v.ownBlock ∨ (Value.slice A' (n + m) c').ownBlock = some w.heap.size) := by
    intro v' w' h1 h2 h3 h4
    obtain ⟨A', c', rfl, _⟩ := h2.form
    exact ⟨A', c', w', h1, h2, h3, h4⟩
  have hm47 : (n + m) * k ≤ 140737488355328 := Nat.le_trans (Nat.mul_le_mul h47 hu.small) (by decide)
  rcases A with _ | ad
  · have hm : m = 0 := by
      rcases Nat.eq_zero_or_pos m with h0 | h0
      · exact h0
      · have hl : 0 < news.length := by rw [hr.1]; exact h0
        obtain ⟨ad, h, _⟩ := hr.2 0 _ (List.getElem?_eq_getElem hl)
        cases h
    subst hm
    have hn : news = [] := List.eq_nil_of_length_eq_zero hr.1
    subst hn
    refine fin v w ?_ (by simpa using hown) (World.grownBy.refl w _) (.inl rfl)
    rcases hown.2 with ⟨rfl, rfl⟩ | ⟨g, cap, cur, rfl, _, _, hnc, _⟩
    · simp [Builtin.append_, run_underlying hu.ht, sizeOf, typeInfo, hi, Builtin.lenOf, Builtin.firstCells]
    · simp [Builtin.append_, run_underlying hu.ht, sizeOf, typeInfo, hi, Builtin.lenOf, Builtin.firstCells, hnc, storeCells]
  · have hcells : ∀ j u, news[j]? = some u → w.cell? (ad.add j) = some u := by
      intro j u hu
      obtain ⟨ad', h, _, hc⟩ := hr.2 j u hu
      injection h with h
      subst h
      exact hc
    obtain ⟨v', w', hrun, h2, h3, _, h5⟩ := run_append_own_at (P := P) w base t ty e i z 1 k hu.ht hi hz hs hb hu.one (by decide) v n xs hown ad m c news (by rw [hr.1]; omega) hcells h1 (by simp only [maxLen]; omega) hm47 hbase
    exact fin v' w' hrun h2 h3 h5

/-- append, as the walk meets it, in order or drawn. -/
theorem wpList_append_vec {ops : Array Oper} {rest : List Oper} {o : Oper} {a : Act} {Q : Exit → Act → World → Prop} (hw : Region.wanted o (yielded ops a.tmps) = true) (hu : Ones P t e z k) (s x : Operand)
    (ho : o.op = .call { callee := .builtin .append, args := #[s, x], argTypes := #[t, t] })
    (hs : a.eval s = v) (hown : Vec w base e v n xs) {m c : Nat} {news : List Value} (hx : a.eval x = .slice A m c) (hr : Vat w B A m news) (h1 : ∀ u ∈ news, u.oneCell' = true)
    (h47 : n + m ≤ 1000000000) (hbase : base ≤ w.heap.size)
    (h : ∀ A' c' w', Vec w' base e (.slice A' (n + m) c') (n + m) (xs ++ news) → w.grownBy w' v.ownBlock → ((Value.slice A' (n + m) c').ownBlock = v.ownBlock ∨ (Value.slice A' (n + m) c').ownBlock = some w.heap.size) → wpList P ops Q rest (a.put o.dst (.slice A' (n + m) c')) w') : wpList P ops Q (o :: rest) a w :=
  wpList_step fun K hK => by
    rw [if_pos hw]
    obtain ⟨A', c', w', hrun, h2, h3, h4⟩ := run_append_vec hu o.type hown c hr h1 h47 hbase
    unfold Oper.wp execOp
    simp only [ho, resolve, invoke, builtin, Sem.run_bind, Sem.run_pure, Result.andThen_ok, List.map_toArray, List.map_cons, List.map_nil, hs, hx, hrun]
    exact hK _ _ (h A' c' w' h2 h3 h4)
theorem step_append_vec {ops : Array Oper} {o : Oper} {a : Act} {K : Act → World → Prop} {Q : Exit → Act → World → Prop} {E : Prop} (hw : Region.wanted o (yielded ops a.tmps) = true) (hu : Ones P t e z k) (s x : Operand)
    (ho : o.op = .call { callee := .builtin .append, args := #[s, x], argTypes := #[t, t] })
    (hs : a.eval s = v) (hown : Vec w base e v n xs) {m c : Nat} {news : List Value} (hx : a.eval x = .slice A m c) (hr : Vat w B A m news) (h1 : ∀ u ∈ news, u.oneCell' = true)
    (h47 : n + m ≤ 1000000000) (hbase : base ≤ w.heap.size)
    (h : ∀ A' c' w', Vec w' base e (.slice A' (n + m) c') (n + m) (xs ++ news) → w.grownBy w' v.ownBlock → ((Value.slice A' (n + m) c').ownBlock = v.ownBlock ∨ (Value.slice A' (n + m) c').ownBlock = some w.heap.size) → K (a.put o.dst (.slice A' (n + m) c')) w') :
    if Region.wanted o (yielded ops a.tmps) = true then Oper.wp P o a w K Q else E := by
  rw [if_pos hw]
  obtain ⟨A', c', w', hrun, h2, h3, h4⟩ := run_append_vec hu o.type hown c hr h1 h47 hbase
  unfold Oper.wp execOp
  simp only [ho, resolve, invoke, builtin, Sem.run_bind, Sem.run_pure, Result.andThen_ok, List.map_toArray, List.map_cons, List.map_nil, hs, hx, hrun]
  exact h A' c' w' h2 h3 h4
theorem U8s.ones (hu : U8s P t e) : Ones P t e (.int .u8 0) 1 := ⟨hu.ht, hu.info, rfl, by decide⟩
theorem bytes_one {bs : List UInt8} : ∀ u ∈ bytes bs, u.oneCell' = true := fun u hu => by obtain ⟨b, _, rfl⟩ := List.mem_map.1 hu; rfl
/-- append of bytes, with where the new row lies. -/
theorem wpList_append_at {ops : Array Oper} {rest : List Oper} {o : Oper} {a : Act} {Q : Exit → Act → World → Prop} {bs : List UInt8} (hw : Region.wanted o (yielded ops a.tmps) = true) (hu : U8s P t e) (s x : Operand)
    (ho : o.op = .call { callee := .builtin .append, args := #[s, x], argTypes := #[t, t] })
    (hs : a.eval s = v) (hown : Own w base e v n bs) {m c : Nat} {news : List UInt8} (hx : a.eval x = .slice A m c) (hr : Byt w B A m news)
    (h47 : n + m ≤ 1000000000) (hbase : base ≤ w.heap.size)
    (h : ∀ A' c' w', Own w' base e (.slice A' (n + m) c') (n + m) (bs ++ news) → w.grownBy w' v.ownBlock → ((Value.slice A' (n + m) c').ownBlock = v.ownBlock ∨ (Value.slice A' (n + m) c').ownBlock = some w.heap.size) → wpList P ops Q rest (a.put o.dst (.slice A' (n + m) c')) w') : wpList P ops Q (o :: rest) a w :=
  wpList_append_vec hw hu.ones s x ho hs hown hx hr.vat bytes_one h47 hbase fun A' c' w' h2 h3 h4 => h A' c' w' (by unfold Own; rw [bytes_app]; exact h2) h3 h4

/-- Where a row lies that has grown, perhaps several times. -/
def Born (w : World) (r r' : Option Nat) : Prop := r' = r ∨ ∀ g, r' = some g → w.heap.size ≤ g
theorem Born.refl (w : World) (r : Option Nat) : Born w r r := .inl rfl
theorem Born.step {w w1 : World} {r r1 r2 : Option Nat} (h : Born w r r1) (hs : w.heap.size ≤ w1.heap.size) (h2 : r2 = r1 ∨ r2 = some w1.heap.size) : Born w r r2 := by
  rcases h2 with e | e
  · rw [e]; exact h
  · right; intro g hg; rw [e] at hg; cases hg; exact hs
theorem Born.trans {w w1 : World} {r r1 r2 : Option Nat} (h : Born w r r1) (hs : w.heap.size ≤ w1.heap.size) (h2 : Born w1 r1 r2) : Born w r r2 := by
  rcases h2 with e | h2
  · rw [e]; exact h
  · exact .inr fun g hg => Nat.le_trans hs (h2 g hg)
theorem Far.grow {w w1 w2 : World} {p : Nat} {r r1 : Option Nat} (h : Far w w1 p r) (hb : Born w r r1) (hg : w1.grownBy w2 r1) : Far w w2 p r :=
  ⟨hg.os.trans h.os, hg.tape.trans h.tape, hg.output.trans h.output, Nat.le_trans h.size hg.size, fun k hk h1 h2 => (hg.block k (Nat.lt_of_lt_of_le hk h.size) (fun e => by
    rcases hb with hb | hb
    · exact h2 (e.trans hb)
    · have := hb k e.symm; omega)).trans (h.block k hk h1 h2)⟩
theorem Far.trans {w w1 w2 : World} {p : Nat} {r r1 : Option Nat} (h : Far w w1 p r) (hb : Born w r r1) (hg : Far w1 w2 p r1) : Far w w2 p r :=
  ⟨hg.os.trans h.os, hg.tape.trans h.tape, hg.output.trans h.output, Nat.le_trans h.size hg.size, fun k hk h1 h2 => (hg.block k (Nat.lt_of_lt_of_le hk h.size) h1 (fun e => by
    rcases hb with hb | hb
    · exact h2 (e.trans hb)
    · have := hb k e.symm; omega)).trans (h.block k hk h1 h2)⟩
end
end Go.Proofs.YthgpmnblkhehkaaDoor
