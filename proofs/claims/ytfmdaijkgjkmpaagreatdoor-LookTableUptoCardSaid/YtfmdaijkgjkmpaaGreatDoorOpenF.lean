/- Several texts in one (OpenF). Their conditions are their own. -/
import Derived.Test.YtfmdaijkgjkmpaaGreatDoorLogic
import Derived.ProofKit
import Derived.OpenShut
import Derived.ShutString
import Derived.ChangeOld
import Derived.SizedLaws
import Derived.Deep.Slices
import Derived.Deep.Fields
import Derived.ChangeSame
import Derived.Test.YtfmdaijkgjkmpaaGreatDoorOwn
import Derived.Test.YtfmdaijkgjkmpaaGreatDoorRows
import Derived.JoinedCond
set_option linter.unusedVariables false
namespace Go.Proofs.YtfmdaijkgjkmpaaGreatDoor
open Go Go.ChangeShapes Go.WideShapes Go.RowKit Go.Deep
section
variable {H : Type} {enc : TypeId × Value → H} {P : Program} {w : World} {base : Nat} {spare : Nat → Bool} {held : Bool}
theorem len1 {α : Type} {l : List α} (h : l.length = 1) : ∃ x0, l = [x0] := by
  match l, h with
  | [x0], _ => exact ⟨x0, rfl⟩
theorem len2 {α : Type} {l : List α} (h : l.length = 2) : ∃ x0 x1, l = [x0, x1] := by
  match l, h with
  | [x0, x1], _ => exact ⟨x0, x1, rfl⟩
theorem len3 {α : Type} {l : List α} (h : l.length = 3) : ∃ x0 x1 x2, l = [x0, x1, x2] := by
  match l, h with
  | [x0, x1, x2], _ => exact ⟨x0, x1, x2, rfl⟩
theorem len4 {α : Type} {l : List α} (h : l.length = 4) : ∃ x0 x1 x2 x3, l = [x0, x1, x2, x3] := by
  match l, h with
  | [x0, x1, x2, x3], _ => exact ⟨x0, x1, x2, x3, rfl⟩
theorem len5 {α : Type} {l : List α} (h : l.length = 5) : ∃ x0 x1 x2 x3 x4, l = [x0, x1, x2, x3, x4] := by
  match l, h with
  | [x0, x1, x2, x3, x4], _ => exact ⟨x0, x1, x2, x3, x4, rfl⟩
theorem len6 {α : Type} {l : List α} (h : l.length = 6) : ∃ x0 x1 x2 x3 x4 x5, l = [x0, x1, x2, x3, x4, x5] := by
  match l, h with
  | [x0, x1, x2, x3, x4, x5], _ => exact ⟨x0, x1, x2, x3, x4, x5, rfl⟩
theorem len7 {α : Type} {l : List α} (h : l.length = 7) : ∃ x0 x1 x2 x3 x4 x5 x6, l = [x0, x1, x2, x3, x4, x5, x6] := by
  match l, h with
  | [x0, x1, x2, x3, x4, x5, x6], _ => exact ⟨x0, x1, x2, x3, x4, x5, x6, rfl⟩
theorem len8 {α : Type} {l : List α} (h : l.length = 8) : ∃ x0 x1 x2 x3 x4 x5 x6 x7, l = [x0, x1, x2, x3, x4, x5, x6, x7] := by
  match l, h with
  | [x0, x1, x2, x3, x4, x5, x6, x7], _ => exact ⟨x0, x1, x2, x3, x4, x5, x6, x7, rfl⟩
theorem len9 {α : Type} {l : List α} (h : l.length = 9) : ∃ x0 x1 x2 x3 x4 x5 x6 x7 x8, l = [x0, x1, x2, x3, x4, x5, x6, x7, x8] := by
  match l, h with
  | [x0, x1, x2, x3, x4, x5, x6, x7, x8], _ => exact ⟨x0, x1, x2, x3, x4, x5, x6, x7, x8, rfl⟩
theorem len10 {α : Type} {l : List α} (h : l.length = 10) : ∃ x0 x1 x2 x3 x4 x5 x6 x7 x8 x9, l = [x0, x1, x2, x3, x4, x5, x6, x7, x8, x9] := by
  match l, h with
  | [x0, x1, x2, x3, x4, x5, x6, x7, x8, x9], _ => exact ⟨x0, x1, x2, x3, x4, x5, x6, x7, x8, x9, rfl⟩
theorem len11 {α : Type} {l : List α} (h : l.length = 11) : ∃ x0 x1 x2 x3 x4 x5 x6 x7 x8 x9 x10, l = [x0, x1, x2, x3, x4, x5, x6, x7, x8, x9, x10] := by
  match l, h with
  | [x0, x1, x2, x3, x4, x5, x6, x7, x8, x9, x10], _ => exact ⟨x0, x1, x2, x3, x4, x5, x6, x7, x8, x9, x10, rfl⟩
theorem len12 {α : Type} {l : List α} (h : l.length = 12) : ∃ x0 x1 x2 x3 x4 x5 x6 x7 x8 x9 x10 x11, l = [x0, x1, x2, x3, x4, x5, x6, x7, x8, x9, x10, x11] := by
  match l, h with
  | [x0, x1, x2, x3, x4, x5, x6, x7, x8, x9, x10, x11], _ => exact ⟨x0, x1, x2, x3, x4, x5, x6, x7, x8, x9, x10, x11, rfl⟩
/-- a struct of one-cell fields, by value -/
theorem open_struct {r : Reach} {b0 : Nat} {t : TypeId} {fs : Array Field} {v : Value} {d : DataW H} {p : List MemPlace} (hs : P.underlying t = some (.struct fs)) (hone : oneCellFields P fs = true) (hC : P.cellsOf t = fs.size)
    (hv : Value.okWide P w r b0 t v) (h : DataW.Trod enc P w base spare held t v d p) :
    ∃ (cs : List Value) (ys : List (DataW H × List MemPlace)) (n : Nat), v = .agg cs.toArray ∧ cs.length = fs.size ∧ d = .agg (ys.map (·.1)) ∧ ys.length = fs.size ∧
      ∀ (j : Nat) (f : Field), fs[j]? = some f → ∃ c y, cs[j]? = some c ∧ ys[j]? = some y ∧ DataW.trod enc P w base spare held n f.type [c] = some y := by
  obtain ⟨cs, rfl, hsz⟩ := okWide_struct hs hv
  obtain ⟨l⟩ := cs
  obtain ⟨fuel, hf⟩ := h
  obtain ⟨xs, n, _, hx, _, hlen, hg⟩ := DataW.trod_struct hs hf
  simp only [Prod.mk.injEq] at hx
  have hll : l.length = fs.size := by rw [← hC, ← hsz]; rfl
  refine ⟨l, xs, n, rfl, hll, hx.1, hlen, fun j f hj => ?_⟩
  have hjl : j < fs.size := (Array.getElem?_eq_some_iff.1 hj).1
  obtain ⟨o, k⟩ := hone_of hone j f hj
  have h1 := hg j f hj
  rw [o, k] at h1
  have hjl' : j < l.length := by omega
  have hone' : ((Value.agg ⟨l⟩).cells.toList.drop j).take 1 = [l[j]] := by
    show (l.drop j).take 1 = [l[j]]
    rw [List.drop_eq_getElem_cons hjl']; rfl
  rw [hone'] at h1
  have hys : xs[j]? = some (xs[j]'(by omega)) := List.getElem?_eq_getElem (by omega)
  exact ⟨_, _, List.getElem?_eq_getElem hjl', hys, h1.trans hys⟩

theorem sz_of {ts : List TypeId} {ds : List (DataW H)} (h : (DataW.weightsEach P ts ds).all (· ≤ reachBytes) = true) {t : TypeId} {d : DataW H} (j : Nat) (ht : ts[j]? = some t) (hd : ds[j]? = some d) : ∀ n ∈ d.weights P t, n ≤ reachBytes :=
  fun n hn => of_decide_eq_true (List.all_eq_true.1 h _ (DataW.weights_mem_each ht hd n hn))
theorem sz_str {t : TypeId} {b : List UInt8} (h : ∀ n ∈ (DataW.lit (H := H) (.string b)).weights P t, n ≤ reachBytes) : b.length ≤ 140737488351232 :=
  h b.length (by simp [DataW.weights])
theorem sz_field {t : TypeId} {parts : List (DataW H)} {fs : Array Field} {f : Field} {d : DataW H} (h : ∀ n ∈ (DataW.agg parts).weights P t, n ≤ reachBytes) (hs : P.underlying t = some (.struct fs)) (j : Nat) (hf : fs[j]? = some f) (hd : parts[j]? = some d) : ∀ n ∈ d.weights P f.type, n ≤ reachBytes := by
  intro n hn
  refine h n ?_
  simp only [DataW.weights, hs]
  exact DataW.weights_mem_each (by rw [List.getElem?_map, Array.getElem?_toList, hf]; rfl) hd n hn
end
end Go.Proofs.YtfmdaijkgjkmpaaGreatDoor

set_option linter.unusedVariables false
namespace Go.Proofs.YtfmdaijkgjkmpaaGreatDoor
open Go Go.ChangeShapes Go.WideShapes Go.RowKit Go.Deep
section
variable {H : Type} {enc : TypeId × Value → H} {P : Program} {w : World} {base : Nat} {spare : Nat → Bool} {held : Bool}
theorem cell_atO {w : World} {a : Addr} {v : Value} (h : w.cell? a = some v) : ∃ arr U fz, w.heap[a.block]? = some (.cells arr U fz) ∧ arr[a.off]? = some v ∧ a.spot = none := by
  have hs := World.cell?_spot h
  unfold World.cell? at h
  split at h
  · rename_i c U fz e
    rw [hs] at h
    exact ⟨c, U, fz, e, by simpa using h, hs⟩
  · simp at h
theorem choose_list {α : Type} {n : Nat} {p : Nat → α → Prop} (h : ∀ i, i < n → ∃ x, p i x) : ∃ xs : List α, xs.length = n ∧ ∀ i x, xs[i]? = some x → p i x := by
  classical
  induction n with
  | zero => exact ⟨[], rfl, fun i x hx => by simp at hx⟩
  | succ n ih =>
    obtain ⟨xs, hl, hx⟩ := ih (fun i hi => h i (by omega))
    obtain ⟨y, hy⟩ := h n (by omega)
    refine ⟨xs ++ [y], by simp [hl], fun i x e => ?_⟩
    by_cases hi : i < n
    · rw [List.getElem?_append_left (by omega)] at e; exact hx i x e
    · rw [List.getElem?_append_right (by omega)] at e
      have : i = n := by
        have := (List.getElem?_eq_some_iff.1 e).1
        simp at this; omega
      subst this
      rw [hl] at e; simp at e; rw [← e]; exact hy
theorem flat_len {α : Type} {ec : α → List Value} {m : Nat} (hm : ∀ x, (ec x).length = m) : ∀ l : List α, (l.flatMap ec).length = l.length * m
  | [] => by simp
  | y :: l => by simp only [List.flatMap_cons, List.length_append, hm, flat_len hm l, List.length_cons, Nat.add_mul]; omega
/-- a row of cells, element by element -/
theorem in_of {α : Type} {ec : α → List Value} {m : Nat} (hm : ∀ x, (ec x).length = m) (pos : 0 < m) {a : Addr} {xs : List α} (h : ∀ i x, xs[i]? = some x → ∀ k, k < m → w.cell? ((a.add (i * m)).add k) = (ec x)[k]?) : In w (some a) (xs.flatMap ec) := by
  cases xs with
  | nil => exact .inl rfl
  | cons x0 r =>
    right
    have h0 := h 0 x0 rfl 0 pos
    have hx0 : 0 < (ec x0).length := by rw [hm]; exact pos
    rw [List.getElem?_eq_getElem hx0] at h0
    obtain ⟨arr, U, fz, e1, e2, e3⟩ := cell_atO h0
    simp only [Nat.zero_mul, Addr.add_zero'] at e1 e3
    obtain ⟨b, o, sp⟩ := a
    simp only at e1 e3
    subst e3
    refine ⟨b, o, arr, U, fz, rfl, e1, fun k hk => ?_⟩
    rw [flat_len hm] at hk
    have hj : k / m < (x0 :: r).length := Nat.div_lt_of_lt_mul (by rw [Nat.mul_comm]; exact hk)
    have hko : k % m < m := Nat.mod_lt _ pos
    have hdm : k / m * m + k % m = k := by rw [Nat.mul_comm]; exact Nat.div_add_mod k m
    have hf := flat_at hm x0 (x0 :: r) (k / m) (k % m) hj hko
    rw [hdm] at hf
    have hg : (x0 :: r)[k / m]? = some ((x0 :: r).getD (k / m) x0) := by
      rw [List.getD_eq_getElem?_getD, List.getElem?_eq_getElem hj]; rfl
    have hc := h (k / m) _ hg (k % m) hko
    rw [hf.2, ← hc, Addr.add_at, Addr.add_at]
    have e : (⟨b, o + k / m * m + k % m, none⟩ : Addr) = ⟨b, o + k, none⟩ := by rw [Nat.add_assoc, hdm]
    rw [e]
    unfold World.cell?
    simp [e1]
/-- a slice, opened: its elements, as 'el' reads them -/
theorem open_rows {r : Reach} {b0 : Nat} {t e : TypeId} {v : Value} {d : DataW H} {p : List MemPlace} {α : Type} {ec : α → List Value} {dec : α → DataW H} {φ : α → Prop} {m : Nat} (ht : P.underlying t = some (.slice e)) (hm : ∀ x, (ec x).length = m) (pos : 0 < m) (hC : P.cellsOf e = m)
    (el : ∀ n cs y q, cs.length = m → DataW.trod enc P w base spare held n e cs = some (y, q) → ∃ x : α, cs = ec x ∧ y = dec x ∧ φ x)
    (hv : Value.okWide P w r b0 t v) (h : DataW.Trod enc P w base spare held t v d p) :
    ∃ (a : Option Addr) (c : Nat) (xs : List α), v = .slice a xs.length c ∧ In w a (xs.flatMap ec) ∧ (∀ x ∈ xs, φ x) ∧ ((d = .nil ∧ xs = []) ∨ ∃ sp, d = .slice (xs.map dec) sp) ∧ xs.length ≤ maxLen := by
  obtain ⟨a, len, cap, rfl⟩ := okWide_slice ht hv
  obtain ⟨fuel, hf⟩ := h
  rcases open_slice ht hf with ⟨h1, h2⟩ | ⟨q, len', cap', m', n, D, Pl, h1, _, hl, hmx, hmm, h2, hx⟩
  · simp only [Value.cells, List.cons.injEq, Value.slice.injEq, and_true] at h1
    obtain ⟨rfl, rfl, rfl⟩ := h1
    exact ⟨none, 0, [], rfl, .inl rfl, by simp, .inl ⟨congrArg Prod.fst h2, rfl⟩, by simp⟩
  · simp only [Value.cells, List.cons.injEq, Value.slice.injEq, and_true] at h1
    obtain ⟨rfl, rfl, rfl⟩ := h1
    have hlm : len ≤ m' := by rw [hmm]; split <;> omega
    obtain ⟨xs, hxl, hxs⟩ := choose_list (n := len) (p := fun i x => D i = dec x ∧ φ x ∧ ∀ k, k < m → w.cell? ((q.add (i * m)).add k) = (ec x)[k]?) (fun i hi => by
      obtain ⟨cs, c1, c2⟩ := hx i (by omega)
      obtain ⟨_, k1, k2⟩ := World.cells?_some c1
      obtain ⟨x, rfl, x2, x3⟩ := el _ _ _ _ (by rw [k1, hC]) c2
      refine ⟨x, x2, x3, fun k hk => ?_⟩
      rw [hC] at k2
      exact k2 k hk)
    refine ⟨some q, cap, xs, by rw [hxl], in_of hm pos fun i x hi k hk => (hxs i x hi).2.2 k hk, fun x hx => ?_, .inr ⟨(List.range (m' - len)).map fun j => D (len + j), ?_⟩, by omega⟩
    · obtain ⟨i, hi⟩ := List.getElem?_of_mem hx
      exact (hxs i x hi).2.1
    · have hd : d = .slice (List.map D (List.range len)) ((List.range (m' - len)).map fun j => D (len + j)) := congrArg Prod.fst h2
      rw [hd]
      congr 1
      apply List.ext_getElem?
      intro i
      rw [List.getElem?_map, List.getElem?_map]
      by_cases hi : i < len
      · rw [List.getElem?_range hi, List.getElem?_eq_getElem (by omega : i < xs.length)]
        simp only [Option.map_some, Option.some.injEq]
        exact (hxs i _ (List.getElem?_eq_getElem (by omega))).1
      · rw [List.getElem?_eq_none (by simp; omega), List.getElem?_eq_none (by omega)]; rfl
theorem el_str {n : Nat} {e : TypeId} (he : P.underlying e = some .string) {cs : List Value} {y : DataW H} {q : List MemPlace} (hl : cs.length = 1) (h : DataW.trod enc P w base spare held n e cs = some (y, q)) : ∃ x : List UInt8, cs = encS x ∧ y = .lit (.string x) ∧ True := by
  obtain ⟨s, h1, h2, _⟩ := DataW.trod_string he h
  simp only [Prod.mk.injEq] at h2
  exact ⟨s.data.toList, h1, h2.1, trivial⟩
theorem el_int {n : Nat} {e : TypeId} (he : P.underlying e = some (.int .i64)) {cs : List Value} {y : DataW H} {q : List MemPlace} (hl : cs.length = 1) (h : DataW.trod enc P w base spare held n e cs = some (y, q)) : ∃ x : Int, cs = encI x ∧ y = .lit (.int .i64 x) ∧ (Lit.int .i64 x).wf = true := by
  obtain ⟨s, h1, h2, h3⟩ := DataW.trod_int he h
  simp only [Prod.mk.injEq] at h2
  exact ⟨s, h1, h2.1, h3⟩
/-- a slice's size, of which the row speaks -/
theorem sz_rows {t e : TypeId} {d : DataW H} {α : Type} {dec : α → DataW H} {xs : List α} (hd : (d = .nil ∧ xs = []) ∨ ∃ sp, d = .slice (xs.map dec) sp) (h : ∀ n ∈ d.weights P t, n ≤ reachBytes) (ht : P.underlying t = some (.slice e)) : xs.length * P.bytesOf e ≤ 140737488351232 ∧ ∀ x ∈ xs, ∀ n ∈ (dec x).weights P e, n ≤ reachBytes := by
  rcases hd with ⟨rfl, rfl⟩ | ⟨sp, rfl⟩
  · simp
  · simp only [DataW.weights, ht] at h
    refine ⟨?_, fun x hx n hn => h n ?_⟩
    · have := h _ (List.mem_cons_self ..)
      rw [List.length_map] at this
      have h2 : xs.length * P.bytesOf e ≤ (xs.length + sp.length) * P.bytesOf e := Nat.mul_le_mul_right _ (by omega)
      exact Nat.le_trans h2 this
    · refine List.mem_cons_of_mem _ (List.mem_append_left _ ?_)
      clear h
      induction xs with
      | nil => simp at hx
      | cons y r ih =>
        rcases List.mem_cons.1 hx with rfl | hx
        · simp only [List.map_cons, DataW.weightsAll]; exact List.mem_append_left _ hn
        · simp only [List.map_cons, DataW.weightsAll]; exact List.mem_append_right _ (ih hx)
theorem sz_len {n k : Nat} (h : n * k ≤ 140737488351232) (hk : 0 < k) : n ≤ 140737488351232 := Nat.le_trans (Nat.le_mul_of_pos_right n hk) h
end
end Go.Proofs.YtfmdaijkgjkmpaaGreatDoor

set_option linter.unusedVariables false
namespace Go.Proofs.YtfmdaijkgjkmpaaGreatDoor
open Go Go.ChangeShapes Go.WideShapes Go.RowKit Go.Deep
theorem make_cut {P : Program} {W r : List (List Char)} (h : wordsSigns P.initOrder.toList = W) (hb : behindMainWord W = "cut".toList :: r) : P.make = some .cut := by
  unfold Program.make; rw [h, hb]; rfl
theorem lifts_cut {P : Program} {W r : List (List Char)} (h : wordsSigns P.initOrder.toList = W) (hb : behindMainWord W = "cut".toList :: r) (hs : stripLifts liftWords ("cut".toList :: r) = ([], "cut".toList :: r)) : P.liftsFinal = false := by
  unfold Program.liftsFinal Program.headLifts; simp only [h, hb, hs]; rfl
theorem enter_cut {P : Program} {W r : List (List Char)} (h : wordsSigns P.initOrder.toList = W) (hb : behindMainWord W = "cut".toList :: r) (hs : stripLifts liftWords ("cut".toList :: r) = ([], "cut".toList :: r))
    (h1 : P.laysLater = false) (h2 : P.bearsReflect = false) (h3 : P.doorFits [] = true) : P.mayEnter = true := by
  unfold Program.mayEnter; rw [h, hb]; simp only [hs, h1, h2, h3]; rfl
theorem andI {a b : Bool} (h1 : a = true) (h2 : b = true) : (a && b) = true := by rw [h1, h2]; rfl
section
variable {H : Type} {enc : TypeId × Value → H} {P : Program} {w : World} {base : Nat} {spare : Nat → Bool} {held : Bool}
theorem el_struct {t : TypeId} {fs : Array Field} {k : Nat} {cs : List Value} {d : DataW H} {p : List MemPlace} (hs : P.underlying t = some (.struct fs)) (hone : oneCellFields P fs = true) (hl : cs.length = fs.size)
    (h : DataW.trod enc P w base spare held k t cs = some (d, p)) :
    ∃ (ys : List (DataW H × List MemPlace)) (n : Nat), d = .agg (ys.map (·.1)) ∧ ys.length = fs.size ∧
      ∀ (j : Nat) (f : Field), fs[j]? = some f → ∃ c y, cs[j]? = some c ∧ ys[j]? = some y ∧ DataW.trod enc P w base spare held n f.type [c] = some y := by
  obtain ⟨xs, n, _, hx, _, hlen, hg⟩ := DataW.trod_struct hs h
  simp only [Prod.mk.injEq] at hx
  refine ⟨xs, n, hx.1, hlen, fun j f hj => ?_⟩
  have hjl : j < fs.size := (Array.getElem?_eq_some_iff.1 hj).1
  obtain ⟨o, k⟩ := hone_of hone j f hj
  have h1 := hg j f hj
  rw [o, k] at h1
  have hjl' : j < cs.length := by omega
  have hone' : (cs.drop j).take 1 = [cs[j]] := by rw [List.drop_eq_getElem_cons hjl']; rfl
  rw [hone'] at h1
  have hys : xs[j]? = some (xs[j]'(by omega)) := List.getElem?_eq_getElem (by omega)
  exact ⟨_, _, List.getElem?_eq_getElem hjl', hys, h1.trans hys⟩
theorem bulk_all {l : List (DataW H)} (hk : Rows.uptoSmall H l = true) : Rows.uptoBulkAll l ≤ 1048576 := of_decide_eq_true hk
theorem bulk_one (d : DataW H) : 1 ≤ Rows.uptoBulk d := by
  cases d with
  | lit l => cases l <;> simp [Rows.uptoBulk]
  | _ => simp [Rows.uptoBulk]
theorem bulk_part {d : DataW H} {l : List (DataW H)} (h : d ∈ l) : Rows.uptoBulk d ≤ Rows.uptoBulkAll l := by
  induction l with
  | nil => cases h
  | cons x r ih =>
    simp only [Rows.uptoBulkAll]
    rcases List.mem_cons.1 h with rfl | e
    · omega
    · have := ih e; omega
theorem bulk_app (l r : List (DataW H)) : Rows.uptoBulkAll (l ++ r) = Rows.uptoBulkAll l + Rows.uptoBulkAll r := by
  induction l with
  | nil => simp [Rows.uptoBulkAll]
  | cons x l ih => simp only [List.cons_append, Rows.uptoBulkAll, ih]; omega
theorem bulk_len (l : List (DataW H)) : l.length ≤ Rows.uptoBulkAll l := by
  induction l with
  | nil => simp [Rows.uptoBulkAll]
  | cons x r ih => have := bulk_one x; simp only [Rows.uptoBulkAll, List.length_cons]; omega
theorem bulk_str (b : List UInt8) : Rows.uptoBulk (DataW.lit (H := H) (.string b)) = b.length + 1 := by simp [Rows.uptoBulk]
/-- a slice's bulk: so many elements, each at most so great; all of them -/
theorem bulk_rows {α : Type} {dec : α → DataW H} {xs : List α} {d : DataW H} (hd : (d = .nil ∧ xs = []) ∨ ∃ sp, d = .slice (xs.map dec) sp) :
    xs.length ≤ Rows.uptoBulk d ∧ (∀ x ∈ xs, Rows.uptoBulk (dec x) ≤ Rows.uptoBulk d) ∧ Rows.uptoBulkAll (xs.map dec) ≤ Rows.uptoBulk d := by
  rcases hd with ⟨rfl, rfl⟩ | ⟨sp, rfl⟩
  · exact ⟨by simp, by simp, by simp [Rows.uptoBulkAll]⟩
  · have h1 := bulk_len (xs.map dec)
    simp only [List.length_map] at h1
    simp only [Rows.uptoBulk]
    refine ⟨by omega, fun x hx => ?_, by omega⟩
    have := bulk_part (List.mem_map_of_mem (f := dec) hx)
    omega
end
end Go.Proofs.YtfmdaijkgjkmpaaGreatDoor

set_option linter.unusedVariables false
namespace Go.Proofs.YtfmdaijkgjkmpaaGreatDoor
open Go Go.ChangeShapes Go.WideShapes Go.RowKit Go.Deep
section
variable {H : Type} {enc : TypeId × Value → H} {P : Program} {w : World} {base : Nat} {spare : Nat → Bool} {held : Bool}
/-- a field that is a slice, opened: its elements, as 'el' reads them -/
theorem open_rowsF {fuel : Nat} {t e : TypeId} {c0 : Value} {y : DataW H × List MemPlace} {α : Type} {ec : α → List Value} {dec : α → DataW H} {φ : α → Prop} {m : Nat} (ht : P.underlying t = some (.slice e)) (hm : ∀ x, (ec x).length = m) (pos : 0 < m) (hC : P.cellsOf e = m)
    (el : ∀ n cs y q, cs.length = m → DataW.trod enc P w base spare held n e cs = some (y, q) → ∃ x : α, cs = ec x ∧ y = dec x ∧ φ x)
    (hf : DataW.trod enc P w base spare held fuel t [c0] = some y) :
    ∃ (a : Option Addr) (c : Nat) (xs : List α), c0 = .slice a xs.length c ∧ In w a (xs.flatMap ec) ∧ (∀ x ∈ xs, φ x) ∧ ((y.1 = .nil ∧ xs = []) ∨ ∃ sp, y.1 = .slice (xs.map dec) sp) ∧ xs.length ≤ maxLen := by
  rcases open_slice ht hf with ⟨h1, h2⟩ | ⟨q, len, cap, m', n, D, Pl, h1, _, hl, hmx, hmm, h2, hx⟩
  · simp only [List.cons.injEq, and_true] at h1
    subst h1
    exact ⟨none, 0, [], rfl, .inl rfl, by simp, .inl ⟨congrArg Prod.fst h2, rfl⟩, by simp⟩
  · simp only [List.cons.injEq, and_true] at h1
    subst h1
    have hlm : len ≤ m' := by rw [hmm]; split <;> omega
    obtain ⟨xs, hxl, hxs⟩ := choose_list (n := len) (p := fun i x => D i = dec x ∧ φ x ∧ ∀ k, k < m → w.cell? ((q.add (i * m)).add k) = (ec x)[k]?) (fun i hi => by
      obtain ⟨cs, c1, c2⟩ := hx i (by omega)
      obtain ⟨_, k1, k2⟩ := World.cells?_some c1
      obtain ⟨x, rfl, x2, x3⟩ := el _ _ _ _ (by rw [k1, hC]) c2
      refine ⟨x, x2, x3, fun k hk => ?_⟩
      rw [hC] at k2
      exact k2 k hk)
    refine ⟨some q, cap, xs, by rw [hxl], in_of hm pos fun i x hi k hk => (hxs i x hi).2.2 k hk, fun x hx => ?_, .inr ⟨(List.range (m' - len)).map fun j => D (len + j), ?_⟩, by omega⟩
    · obtain ⟨i, hi⟩ := List.getElem?_of_mem hx
      exact (hxs i x hi).2.1
    · have hd : y.1 = .slice (List.map D (List.range len)) ((List.range (m' - len)).map fun j => D (len + j)) := congrArg Prod.fst h2
      rw [hd]
      congr 1
      apply List.ext_getElem?
      intro i
      rw [List.getElem?_map, List.getElem?_map]
      by_cases hi : i < len
      · rw [List.getElem?_range hi, List.getElem?_eq_getElem (by omega : i < xs.length)]
        simp only [Option.map_some, Option.some.injEq]
        exact (hxs i _ (List.getElem?_eq_getElem (by omega))).1
      · rw [List.getElem?_eq_none (by simp; omega), List.getElem?_eq_none (by omega)]; rfl
end
end Go.Proofs.YtfmdaijkgjkmpaaGreatDoor
