/- Arguments opened: slices. No condition. -/
import Derived.Test.YtkjcmdgideddnaaOpen
import Derived.Test.YtkjcmdgideddnaaSlices
set_option linter.unusedVariables false
namespace Go.Proofs.Ytkjcmdgideddnaa
open Go Go.ChangeShapes Go.WideShapes Go.RowKit Go.Deep
section
variable {H : Type} {enc : TypeId × Value → H} {P : Program} {w : World} {base : Nat} {spare : Nat → Bool} {held : Bool}
theorem cell_at {w : World} {a : Addr} {v : Value} (h : w.cell? a = some v) : ∃ arr U fz, w.heap[a.block]? = some (.cells arr U fz) ∧ arr[a.off]? = some v ∧ a.spot = none := by
  have hs := World.cell?_spot h
  unfold World.cell? at h
  split at h
  · rename_i c U fz e
    rw [hs] at h
    exact ⟨c, U, fz, e, by simpa using h, hs⟩
  · simp at h
theorem choose_list {α : Type} {n : Nat} {p : Nat → α → Prop} (h : ∀ i, i < n → ∃ x, p i x) : ∃ xs : List α, xs.length = n ∧ ∀ i x, xs[i]? = some x → p i x := by
  classical
  induction n with
  | zero => exact ⟨[], rfl, fun i x hx => by simp at hx⟩
  | succ n ih =>
    obtain ⟨xs, hl, hx⟩ := ih (fun i hi => h i (by omega))
    obtain ⟨y, hy⟩ := h n (by omega)
    refine ⟨xs ++ [y], by simp [hl], fun i x e => ?_⟩
    by_cases hi : i < n
    · rw [List.getElem?_append_left (by omega)] at e; exact hx i x e
    · rw [List.getElem?_append_right (by omega)] at e
      have : i = n := by
        have := (List.getElem?_eq_some_iff.1 e).1
        simp at this; omega
      subst this
      rw [hl] at e; simp at e; rw [← e]; exact hy
theorem flat_len {α : Type} {ec : α → List Value} {m : Nat} (hm : ∀ x, (ec x).length = m) : ∀ l : List α, (l.flatMap ec).length = l.length * m
  | [] => by simp
  | y :: l => by simp only [List.flatMap_cons, List.length_append, hm, flat_len hm l, List.length_cons, Nat.add_mul]; omega
/-- a row of cells, element by element -/
theorem in_of {α : Type} {ec : α → List Value} {m : Nat} (hm : ∀ x, (ec x).length = m) (pos : 0 < m) {a : Addr} {xs : List α} (h : ∀ i x, xs[i]? = some x → ∀ k, k < m → w.cell? ((a.add (i * m)).add k) = (ec x)[k]?) : In w (some a) (xs.flatMap ec) := by
  cases xs with
  | nil => exact .inl rfl
  | cons x0 r =>
    right
    have h0 := h 0 x0 rfl 0 pos
    have hx0 : 0 < (ec x0).length := by rw [hm]; exact pos
    rw [List.getElem?_eq_getElem hx0] at h0
    obtain ⟨arr, U, fz, e1, e2, e3⟩ := cell_at h0
    simp only [Nat.zero_mul, Addr.add_zero'] at e1 e3
    obtain ⟨b, o, sp⟩ := a
    simp only at e1 e3
    subst e3
    refine ⟨b, o, arr, U, fz, rfl, e1, fun k hk => ?_⟩
    rw [flat_len hm] at hk
    have hj : k / m < (x0 :: r).length := Nat.div_lt_of_lt_mul (by rw [Nat.mul_comm]; exact hk)
    have hko : k % m < m := Nat.mod_lt _ pos
    have hdm : k / m * m + k % m = k := by rw [Nat.mul_comm]; exact Nat.div_add_mod k m
    have hf := flat_at hm x0 (x0 :: r) (k / m) (k % m) hj hko
    rw [hdm] at hf
    have hg : (x0 :: r)[k / m]? = some ((x0 :: r).getD (k / m) x0) := by
      rw [List.getD_eq_getElem?_getD, List.getElem?_eq_getElem hj]; rfl
    have hc := h (k / m) _ hg (k % m) hko
    rw [hf.2, ← hc, Addr.add_at, Addr.add_at]
    have e : (⟨b, o + k / m * m + k % m, none⟩ : Addr) = ⟨b, o + k, none⟩ := by rw [Nat.add_assoc, hdm]
    rw [e]
    unfold World.cell?
    simp [e1]
/-- a slice, opened: its elements, as 'el' reads them -/
theorem open_rows {r : Reach} {b0 : Nat} {t e : TypeId} {v : Value} {d : DataW H} {p : List MemPlace} {α : Type} {ec : α → List Value} {dec : α → DataW H} {φ : α → Prop} {m : Nat} (ht : P.underlying t = some (.slice e)) (hm : ∀ x, (ec x).length = m) (pos : 0 < m) (hC : P.cellsOf e = m)
    (el : ∀ n cs y q, cs.length = m → DataW.trod enc P w base spare held n e cs = some (y, q) → ∃ x : α, cs = ec x ∧ y = dec x ∧ φ x)
    (hv : Value.okWide P w r b0 t v) (h : DataW.Trod enc P w base spare held t v d p) :
    ∃ (a : Option Addr) (c : Nat) (xs : List α), v = .slice a xs.length c ∧ In w a (xs.flatMap ec) ∧ (∀ x ∈ xs, φ x) ∧ ((d = .nil ∧ xs = []) ∨ ∃ sp, d = .slice (xs.map dec) sp) ∧ xs.length ≤ maxLen := by
  obtain ⟨a, len, cap, rfl⟩ := okWide_slice ht hv
  obtain ⟨fuel, hf⟩ := h
  rcases open_slice ht hf with ⟨h1, h2⟩ | ⟨q, len', cap', m', n, D, Pl, h1, _, hl, hmx, hmm, h2, hx⟩
  · simp only [Value.cells, List.cons.injEq, Value.slice.injEq, and_true] at h1
    obtain ⟨rfl, rfl, rfl⟩ := h1
    exact ⟨none, 0, [], rfl, .inl rfl, by simp, .inl ⟨congrArg Prod.fst h2, rfl⟩, by simp⟩
  · simp only [Value.cells, List.cons.injEq, Value.slice.injEq, and_true] at h1
    obtain ⟨rfl, rfl, rfl⟩ := h1
    have hlm : len ≤ m' := by rw [hmm]; split <;> omega
    obtain ⟨xs, hxl, hxs⟩ := choose_list (n := len) (p := fun i x => D i = dec x ∧ φ x ∧ ∀ k, k < m → w.cell? ((q.add (i * m)).add k) = (ec x)[k]?) (fun i hi => by
      obtain ⟨cs, c1, c2⟩ := hx i (by omega)
      obtain ⟨_, k1, k2⟩ := World.cells?_some c1
      obtain ⟨x, rfl, x2, x3⟩ := el _ _ _ _ (by rw [k1, hC]) c2
      refine ⟨x, x2, x3, fun k hk => ?_⟩
      rw [hC] at k2
      exact k2 k hk)
    refine ⟨some q, cap, xs, by rw [hxl], in_of hm pos fun i x hi k hk => (hxs i x hi).2.2 k hk, fun x hx => ?_, .inr ⟨(List.range (m' - len)).map fun j => D (len + j), ?_⟩, by omega⟩
    · obtain ⟨i, hi⟩ := List.getElem?_of_mem hx
      exact (hxs i x hi).2.1
    · have hd : d = .slice (List.map D (List.range len)) ((List.range (m' - len)).map fun j => D (len + j)) := congrArg Prod.fst h2
      rw [hd]
      congr 1
      apply List.ext_getElem?
      intro i
      rw [List.getElem?_map, List.getElem?_map]
      by_cases hi : i < len
      · rw [List.getElem?_range hi, List.getElem?_eq_getElem (by omega : i < xs.length)]
        simp only [Option.map_some, Option.some.injEq]
        exact (hxs i _ (List.getElem?_eq_getElem (by omega))).1
      · rw [List.getElem?_eq_none (by simp; omega), List.getElem?_eq_none (by omega)]; rfl
theorem el_str {n : Nat} {e : TypeId} (he : P.underlying e = some .string) {cs : List Value} {y : DataW H} {q : List MemPlace} (hl : cs.length = 1) (h : DataW.trod enc P w base spare held n e cs = some (y, q)) : ∃ x : List UInt8, cs = encS x ∧ y = .lit (.string x) ∧ True := by
  obtain ⟨s, h1, h2, _⟩ := DataW.trod_string he h
  simp only [Prod.mk.injEq] at h2
  exact ⟨s.data.toList, h1, h2.1, trivial⟩
theorem el_int {n : Nat} {e : TypeId} (he : P.underlying e = some (.int .i64)) {cs : List Value} {y : DataW H} {q : List MemPlace} (hl : cs.length = 1) (h : DataW.trod enc P w base spare held n e cs = some (y, q)) : ∃ x : Int, cs = encI x ∧ y = .lit (.int .i64 x) ∧ (Lit.int .i64 x).wf = true := by
  obtain ⟨s, h1, h2, h3⟩ := DataW.trod_int he h
  simp only [Prod.mk.injEq] at h2
  exact ⟨s, h1, h2.1, h3⟩
/-- a slice's size, of which the row speaks -/
theorem sz_rows {t e : TypeId} {d : DataW H} {α : Type} {dec : α → DataW H} {xs : List α} (hd : (d = .nil ∧ xs = []) ∨ ∃ sp, d = .slice (xs.map dec) sp) (h : ∀ n ∈ d.weights P t, n ≤ reachBytes) (ht : P.underlying t = some (.slice e)) : xs.length * P.bytesOf e ≤ 140737488351232 ∧ ∀ x ∈ xs, ∀ n ∈ (dec x).weights P e, n ≤ reachBytes := by
  rcases hd with ⟨rfl, rfl⟩ | ⟨sp, rfl⟩
  · simp
  · simp only [DataW.weights, ht] at h
    refine ⟨?_, fun x hx n hn => h n ?_⟩
    · have := h _ (List.mem_cons_self ..)
      rw [List.length_map] at this
      have h2 : xs.length * P.bytesOf e ≤ (xs.length + sp.length) * P.bytesOf e := Nat.mul_le_mul_right _ (by omega)
      exact Nat.le_trans h2 this
    · refine List.mem_cons_of_mem _ (List.mem_append_left _ ?_)
      clear h
      induction xs with
      | nil => simp at hx
      | cons y r ih =>
        rcases List.mem_cons.1 hx with rfl | hx
        · simp only [List.map_cons, DataW.weightsAll]; exact List.mem_append_left _ hn
        · simp only [List.map_cons, DataW.weightsAll]; exact List.mem_append_right _ (ih hx)
theorem sz_len {n k : Nat} (h : n * k ≤ 140737488351232) (hk : 0 < k) : n ≤ 140737488351232 := Nat.le_trans (Nat.le_mul_of_pos_right n hk) h
end
end Go.Proofs.Ytkjcmdgideddnaa
