/- A region that draws its order, by an invariant: each operation is walked once, in whatever state may hold when it comes up. -/
import Derived.Orders
import Derived.RegionTactic
namespace Go.Proofs.YthgpmnblkhehkaaDoor
open Go

/-- f, turned at i. -/
def upd {α : Type} (f : Nat → α) (i : Nat) (x : α) : Nat → α := fun k => cond (Nat.beq k i) x (f k)
@[simp] theorem upd_same {α : Type} (f : Nat → α) (i : Nat) (x : α) : upd f i x i = x := by
  unfold upd; simp
theorem upd_ne {α : Type} (f : Nat → α) {i k : Nat} (x : α) (h : k ≠ i) : upd f i x k = f k := by
  unfold upd
  rw [show Nat.beq k i = false from by
    cases e : Nat.beq k i with
    | false => rfl
    | true => exact absurd (Nat.eq_of_beq_eq_true e) h]
  rfl

/-- What has come up waited for nothing that has not. -/
def Closed (b : Nat → Bool) : Nat → List Oper → Prop
  | _, [] => True
  | k, o :: l => (b k = true → ∀ e ∈ o.after, Region.binds .any e = true → b e.on = true) ∧ Closed b (k + 1) l
/-- The frame in which the temporary of each operation holds what v says. -/
def putsAll : List Oper → Nat → (Nat → Value) → Act → Act
  | [], _, _, a => a
  | o :: l, k, v, a => putsAll l (k + 1) v (a.put o.dst (v k))
/-- What the temporaries hold. -/
def holds (l : List Oper) (a : Act) : Nat → Value := fun i => match l[i]? with
  | some o => (match o.dst with
    | some d => a.tmps.getD d undef
    | none => undef)
  | none => undef

/-- What is asked of operation k: whatever has come up before it (b), whatever the temporaries hold (v). -/
def RegStep (P : Program) (lst : List Oper) (Q : Exit → Act → World → Prop) (F : (Nat → Value) → Act) (R : (Nat → Bool) → (Nat → Value) → World → Prop) (k : Nat) (o : Oper) : Prop :=
  ∀ b v w, R b v w → Closed b 0 lst → b k = false → (∀ e ∈ o.after, Region.binds .any e = true → b e.on = true) →
    ∀ K : Act → World → Prop, (∀ v' w', R (upd b k true) v' w' → K (F v') w') → if Region.wanted o (yielded lst.toArray (F v).tmps) = true then Oper.wp P o (F v) w K Q else K ((F v).put o.dst undef) w
/-- That of all from k on. -/
def RegSteps (P : Program) (lst : List Oper) (Q : Exit → Act → World → Prop) (F : (Nat → Value) → Act) (R : (Nat → Bool) → (Nat → Value) → World → Prop) : Nat → List Oper → Prop
  | _, [] => True
  | k, o :: l => RegStep P lst Q F R k o ∧ RegSteps P lst Q F R (k + 1) l
section
variable {P : Program} {lst : List Oper} {Q : Exit → Act → World → Prop} {F : (Nat → Value) → Act} {R : (Nat → Bool) → (Nat → Value) → World → Prop}
theorem RegSteps.at_ : ∀ (l : List Oper) (k : Nat), RegSteps P lst Q F R k l → ∀ i o, l[i]? = some o → RegStep P lst Q F R (k + i) o
  | [], _, _, i, o, h => by simp at h
  | x :: l, k, hs, i, o, h => by
    rcases i with _ | i
    · have e : x = o := by simpa using h
      subst e
      exact hs.1
    · have := RegSteps.at_ l (k + 1) hs.2 i o (by simpa using h)
      rw [show k + (i + 1) = k + 1 + i from by omega]
      exact this
/-- How many have not come up. -/
def leftN (b : Nat → Bool) (n : Nat) : Nat := ((List.range n).filter fun i => !b i).length
theorem leftN_upd {b : Nat → Bool} {n i : Nat} (hi : i < n) (hb : b i = false) : leftN (upd b i true) n + 1 = leftN b n := by
  induction n with
  | zero => omega
  | succ n ih =>
    unfold leftN at *
    simp only [List.range_succ, List.filter_append, List.length_append]
    by_cases e : i = n
    · subst e
      have h1 : (List.range i).filter (fun j => !upd b i true j) = (List.range i).filter fun j => !b j := by
        apply List.filter_congr
        intro j hj
        have : j < i := List.mem_range.1 hj
        rw [upd_ne b true (by omega)]
      rw [h1]
      simp [hb]
    · have h1 := ih (by omega)
      have h2 : List.filter (fun j => !upd b i true j) [n] = List.filter (fun j => !b j) [n] := by
        apply List.filter_congr
        intro j hj
        have : j = n := by simpa using hj
        subst this
        rw [upd_ne b true (Ne.symm e)]
      rw [h2]
      omega
theorem leftN_zero {b : Nat → Bool} {n i : Nat} (h : leftN b n = 0) (hi : i < n) : b i = true := by
  unfold leftN at h
  have h1 := List.eq_nil_of_length_eq_zero h
  rw [List.filter_eq_nil_iff] at h1
  simpa using h1 i (List.mem_range.2 hi)

/-- The order of the text is one that the edges allow. -/
def topo : Nat → List Oper → Bool
  | _, [] => true
  | k, o :: l => o.after.all (fun e => !Region.binds .any e || decide (e.on < k)) && topo (k + 1) l
theorem topo_at : ∀ (l : List Oper) (k : Nat), topo k l = true → ∀ i o, l[i]? = some o → ∀ e ∈ o.after, Region.binds .any e = true → e.on < k + i
  | [], _, _, i, o, h => by simp at h
  | x :: l, k, hs, i, o, h => by
    simp only [topo, Bool.and_eq_true] at hs
    rcases i with _ | i
    · have e : x = o := by simpa using h
      subst e
      intro e he hb
      have h1 := Array.all_eq_true'.1 hs.1 e he
      have : e.on < k := by simpa [hb] using h1
      omega
    · intro e he hb
      have := topo_at l (k + 1) hs.2 i o (by simpa using h) e he hb
      omega
theorem all_or_least (b : Nat → Bool) : ∀ n : Nat, (∀ i, i < n → b i = true) ∨ ∃ i, i < n ∧ b i = false ∧ ∀ j, j < i → b j = true
  | 0 => .inl fun i hi => by omega
  | n + 1 => by
    rcases all_or_least b n with h | ⟨i, h1, h2, h3⟩
    · by_cases hb : b n = true
      · left
        intro i hi
        rcases Nat.lt_or_ge i n with h' | h'
        · exact h i h'
        · obtain rfl : i = n := by omega
          exact hb
      · right
        exact ⟨n, by omega, by simpa using hb, h⟩
    · exact .inr ⟨i, by omega, h2, h3⟩
theorem Closed.at_ {b : Nat → Bool} : ∀ (l : List Oper) (k : Nat), Closed b k l → ∀ i o, l[i]? = some o → b (k + i) = true → ∀ e ∈ o.after, Region.binds .any e = true → b e.on = true
  | [], _, _, i, o, h => by simp at h
  | x :: l, k, hs, i, o, h => by
    rcases i with _ | i
    · have e : x = o := by simpa using h
      subst e
      exact hs.1
    · have := Closed.at_ l (k + 1) hs.2 i o (by simpa using h)
      rw [show k + (i + 1) = k + 1 + i from by omega]
      exact this
theorem Closed.mk' {b : Nat → Bool} : ∀ (l : List Oper) (k : Nat), (∀ i o, l[i]? = some o → b (k + i) = true → ∀ e ∈ o.after, Region.binds .any e = true → b e.on = true) → Closed b k l
  | [], _, _ => trivial
  | x :: l, k, h => ⟨h 0 x rfl, Closed.mk' l (k + 1) fun i o hi => by
      have := h (i + 1) o (by simpa using hi)
      rw [show k + (i + 1) = k + 1 + i from by omega] at this
      exact this⟩
theorem Closed.upd {b : Nat → Bool} {l : List Oper} {i : Nat} {o : Oper} (h : Closed b 0 l) (hi : l[i]? = some o) (hall : ∀ e ∈ o.after, Region.binds .any e = true → b e.on = true) : Closed (upd b i true) 0 l := by
  refine Closed.mk' l 0 fun j x hj hb e he hbe => ?_
  rw [Nat.zero_add] at hb
  by_cases hji : j = i
  · subst hji
    rw [hi] at hj
    injection hj with hj
    subst hj
    by_cases hei : e.on = j
    · rw [hei]; simp
    · rw [upd_ne b true hei]; exact hall e he hbe
  · rw [upd_ne b true hji] at hb
    have := Closed.at_ l 0 h j x hj (by rw [Nat.zero_add]; exact hb) e he hbe
    by_cases hei : e.on = i
    · rw [hei]; simp
    · rw [upd_ne b true hei]; exact this
/-- Operation i waits, directly or through others, for operation j. -/
def reach (l : List Oper) (j : Nat) : Nat → Nat → Bool
  | 0, i => Nat.beq i j
  | n + 1, i => Nat.beq i j || (match l[i]? with
    | some o => o.after.toList.any (fun e => Region.binds .any e && reach l j n e.on)
    | none => false)
theorem Closed.via {b : Nat → Bool} {l : List Oper} (h : Closed b 0 l) {j : Nat} : ∀ (n i : Nat), reach l j n i = true → b i = true → b j = true
  | 0, i, hr, hb => by rw [← Nat.eq_of_beq_eq_true hr]; exact hb
  | n + 1, i, hr, hb => by
    unfold Go.Proofs.YthgpmnblkhehkaaDoor.reach at hr
    rcases Bool.or_eq_true_iff.1 hr with h1 | h1
    · rw [← Nat.eq_of_beq_eq_true h1]; exact hb
    · cases ho : l[i]? with
      | none => rw [ho] at h1; cases h1
      | some o =>
        rw [ho] at h1
        obtain ⟨e, he, h2⟩ := List.any_eq_true.1 h1
        obtain ⟨h3, h4⟩ := Bool.and_eq_true_iff.1 h2
        exact Closed.via h n e.on h4 (Closed.at_ l 0 h i o ho (by rw [Nat.zero_add]; exact hb) e (Array.mem_toList_iff.1 he) h3)
/-- What waits for what has not come up has not come up. -/
theorem Closed.neg {b : Nat → Bool} {l : List Oper} (h : Closed b 0 l) {i j : Nat} (hr : reach l j 40 i = true) (hb : b j = false) : b i = false := by
  cases e : b i with
  | false => rfl
  | true => rw [h.via 40 i hr e] at hb; cases hb
/-- What has come up has been waited for. -/
theorem Closed.pos {b : Nat → Bool} {l : List Oper} (h : Closed b 0 l) {i j : Nat} (hr : reach l j 40 i = true) (hb : b i = true) : b j = true := h.via 40 i hr hb
theorem wpAny_inv (l : List Oper) (ht : topo 0 l = true) (hs : RegSteps P l Q F R 0 l) (hfin : ∀ b v w, (∀ i, i < l.length → b i = true) → R b v w → Q .normal (F v) w) :
    ∀ (fuel : Nat) (b : Nat → Bool) (v : Nat → Value) (w : World), R b v w → Closed b 0 l → leftN b l.length ≤ fuel → wpAny P .any l.toArray Q fuel (Array.ofFn fun j : Fin l.length => b j) (F v) w := by
  have hend : ∀ b v w, R b v w → Region.ready .any l.toArray (Array.ofFn fun j : Fin l.length => b j) = [] → Q .normal (F v) w := by
    intro b v w hR h0
    rcases all_or_least b l.length with h | ⟨i, hi, hb, hlt⟩
    · exact hfin b v w h hR
    · have hm : i ∈ Region.ready .any l.toArray (Array.ofFn fun j : Fin l.length => b j) := by
        refine mem_ready.2 ⟨by simp [Array.getD, hi, hb], l[i], by simp [hi], fun e he hbe => ?_⟩
        have h1 := topo_at l 0 ht i l[i] (List.getElem?_eq_getElem hi) e he hbe
        have h2 : e.on < l.length := by omega
        simp [Array.getD, h2, hlt e.on (by omega)]
      rw [h0] at hm; cases hm
  intro fuel
  induction fuel with
  | zero =>
    intro b v w hR hc hl
    have hall : ∀ i, i < l.length → b i = true := fun i hi => leftN_zero (by omega) hi
    have hr : Region.ready .any l.toArray (Array.ofFn fun j : Fin l.length => b j) = [] := by
      apply List.eq_nil_iff_forall_not_mem.2
      intro i hi
      obtain ⟨h1, o, ho, _⟩ := mem_ready.1 hi
      have hlt : i < l.length := by
        rcases Nat.lt_or_ge i l.length with h | h
        · exact h
        · rw [Array.getElem?_eq_none (by simpa using h)] at ho; cases ho
      simp [Array.getD, hlt, hall i hlt] at h1
    exact ⟨hr, hend b v w hR hr⟩
  | succ fuel ih =>
    intro b v w hR hc hl
    refine ⟨hend b v w hR, fun i hi => ?_⟩
    obtain ⟨h1, o, ho, hall⟩ := mem_ready.1 hi
    have hlt : i < l.length := by
      rcases Nat.lt_or_ge i l.length with h | h
      · exact h
      · rw [Array.getElem?_eq_none (by simpa using h)] at ho; cases ho
    have hbi : b i = false := by simpa [Array.getD, hlt] using h1
    have hst := RegSteps.at_ l 0 hs i o (by simpa using ho)
    rw [Nat.zero_add] at hst
    have hall' : ∀ e ∈ o.after, Region.binds .any e = true → b e.on = true := fun e he hb => by
      have := hall e he hb
      rcases Nat.lt_or_ge e.on l.length with h | h
      · simpa [Array.getD, h] using this
      · simp [Array.getD, Nat.not_lt.2 h] at this
    refine wpOp_step ho fun K hK => hst b v w hR hc hbi hall' K fun v' w' hR' => ?_
    · refine hK _ _ ?_
      have e : (Array.ofFn fun j : Fin l.length => b j).setIfInBounds i true = Array.ofFn fun j : Fin l.length => upd b i true j := by
        apply Array.ext (by simp)
        intro j h1 h2
        have hj : j < l.length := by simpa using h2
        by_cases hij : j = i
        · subst hij
          simp
        · rw [Array.getElem_setIfInBounds_ne (by simpa using hj) (fun e => hij e.symm)]
          simp [upd_ne b true hij]
      rw [e]
      exact ih _ _ _ hR' (hc.upd (by simpa using ho) hall') (by have := leftN_upd hlt hbi; omega)
/-- A region that draws its order: R holds at its start; each operation, whenever it may come up, keeps it. -/
theorem wp_region_inv {id : Nat} {l : List Oper} {a : Act} {w : World} (R : (Nat → Bool) → (Nat → Value) → World → Prop) (G : (Nat → Value) → Nat → Value) {F : (Nat → Value) → Act} (hF : ∀ v, putsAll l 0 v a = F v) (hm : P.follows .mixedOrders = true) (ht : topo 0 l = true) (ha : putsAll l 0 (G (holds l a)) a = a) (h0 : R (fun _ => false) (G (holds l a)) w.drew)
    (hs : RegSteps P l Q F R 0 l) (hfin : ∀ b v w, (∀ i, i < l.length → b i = true) → R b v w → Q .normal (F v) w) : (Code.region id l.toArray true).wp P Q a w := by
  refine wp_region_any hm ?_
  have h := wpAny_inv l ht hs hfin l.toArray.size (fun _ => false) (G (holds l a)) w.drew h0 (Closed.mk' l 0 fun i o _ hb => by simp at hb) (by unfold leftN; exact (Nat.le_trans (List.length_filter_le _ _) (by simp)))
  rw [← hF, ha] at h
  have e : (Array.ofFn fun j : Fin l.length => false) = Array.replicate l.toArray.size false := by
    apply Array.ext (by simp)
    intro j h1 h2
    simp
  rw [e] at h
  exact h
end
end Go.Proofs.YthgpmnblkhehkaaDoor
