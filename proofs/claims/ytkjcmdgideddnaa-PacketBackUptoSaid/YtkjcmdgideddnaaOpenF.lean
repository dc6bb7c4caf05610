/- Arguments opened: a struct's field that is a slice. No condition. -/
import Derived.Test.YtkjcmdgideddnaaOpenT
set_option linter.unusedVariables false
namespace Go.Proofs.Ytkjcmdgideddnaa
open Go Go.ChangeShapes Go.WideShapes Go.RowKit Go.Deep
section
variable {H : Type} {enc : TypeId × Value → H} {P : Program} {w : World} {base : Nat} {spare : Nat → Bool} {held : Bool}
/-- a field that is a slice, opened: its elements, as 'el' reads them -/
theorem open_rowsF {fuel : Nat} {t e : TypeId} {c0 : Value} {y : DataW H × List MemPlace} {α : Type} {ec : α → List Value} {dec : α → DataW H} {φ : α → Prop} {m : Nat} (ht : P.underlying t = some (.slice e)) (hm : ∀ x, (ec x).length = m) (pos : 0 < m) (hC : P.cellsOf e = m)
    (el : ∀ n cs y q, cs.length = m → DataW.trod enc P w base spare held n e cs = some (y, q) → ∃ x : α, cs = ec x ∧ y = dec x ∧ φ x)
    (hf : DataW.trod enc P w base spare held fuel t [c0] = some y) :
    ∃ (a : Option Addr) (c : Nat) (xs : List α), c0 = .slice a xs.length c ∧ In w a (xs.flatMap ec) ∧ (∀ x ∈ xs, φ x) ∧ ((y.1 = .nil ∧ xs = []) ∨ ∃ sp, y.1 = .slice (xs.map dec) sp) ∧ xs.length ≤ maxLen := by
  rcases open_slice ht hf with ⟨h1, h2⟩ | ⟨q, len, cap, m', n, D, Pl, h1, _, hl, hmx, hmm, h2, hx⟩
  · simp only [List.cons.injEq, and_true] at h1
    subst h1
    exact ⟨none, 0, [], rfl, .inl rfl, by simp, .inl ⟨congrArg Prod.fst h2, rfl⟩, by simp⟩
  · simp only [List.cons.injEq, and_true] at h1
    subst h1
    have hlm : len ≤ m' := by rw [hmm]; split <;> omega
    obtain ⟨xs, hxl, hxs⟩ := choose_list (n := len) (p := fun i x => D i = dec x ∧ φ x ∧ ∀ k, k < m → w.cell? ((q.add (i * m)).add k) = (ec x)[k]?) (fun i hi => by
      obtain ⟨cs, c1, c2⟩ := hx i (by omega)
      obtain ⟨_, k1, k2⟩ := World.cells?_some c1
      obtain ⟨x, rfl, x2, x3⟩ := el _ _ _ _ (by rw [k1, hC]) c2
      refine ⟨x, x2, x3, fun k hk => ?_⟩
      rw [hC] at k2
      exact k2 k hk)
    refine ⟨some q, cap, xs, by rw [hxl], in_of hm pos fun i x hi k hk => (hxs i x hi).2.2 k hk, fun x hx => ?_, .inr ⟨(List.range (m' - len)).map fun j => D (len + j), ?_⟩, by omega⟩
    · obtain ⟨i, hi⟩ := List.getElem?_of_mem hx
      exact (hxs i x hi).2.1
    · have hd : y.1 = .slice (List.map D (List.range len)) ((List.range (m' - len)).map fun j => D (len + j)) := congrArg Prod.fst h2
      rw [hd]
      congr 1
      apply List.ext_getElem?
      intro i
      rw [List.getElem?_map, List.getElem?_map]
      by_cases hi : i < len
      · rw [List.getElem?_range hi, List.getElem?_eq_getElem (by omega : i < xs.length)]
        simp only [Option.map_some, Option.some.injEq]
        exact (hxs i _ (List.getElem?_eq_getElem (by omega))).1
      · rw [List.getElem?_eq_none (by simp; omega), List.getElem?_eq_none (by omega)]; rfl
end
end Go.Proofs.Ytkjcmdgideddnaa
