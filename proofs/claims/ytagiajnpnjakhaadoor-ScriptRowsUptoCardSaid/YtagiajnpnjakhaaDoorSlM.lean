/- A part of a slice, both ends told, or one; also where nothing is left. No condition. -/
import Derived.Test.YtagiajnpnjakhaaDoorCell
import Derived.Test.YtagiajnpnjakhaaDoorCv
set_option linter.unusedVariables false
set_option linter.unusedSimpArgs false
namespace Go.Proofs.YtagiajnpnjakhaaDoor
open Go Go.RowKit
section
variable {P : Program} {ρ : Operand → Value} {D : Option Tmp} {d n : Nat} {w0 w : World} {L0 L L' : Heap} {all rest : List Oper} {E : Env} {Q : Post} {x y z z' : Operand} {T T' U ty : TypeId} {pos : String} {aft : Array Edge} {g : Option (Nat × Bool)} {G : Bool}
/-- where a part begins -/
def slA (a : Option Addr) (m j cap : Nat) : Option Addr := if cap = j then a else a.map (·.add (j * m))
theorem r_slM {a : Option Addr} {len cap m : Nat} {i j : Int} {k k' : IntKind} (hx : ρ x = .slice a len cap) (hz : ρ z = .int k j) (hz' : ρ z' = .int k' i) [hT : TSlice P T U] [hU : TSize P U m] (h0 : 0 ≤ j) (h1 : j ≤ i) (h2 : i ≤ cap) :
    (execOp ρ ⟨D, .slice T x (some z) (some z') none, ty, pos, aft, g⟩).run P w = .ok (.value (.slice (slA a m j.toNat cap) (i.toNat - j.toNat) (cap - j.toNat))) w := by
  have h3 : 0 ≤ i := by omega
  have h5 : j ≤ max i 0 := by omega
  have e : (cap - j.toNat = 0) = (cap = j.toNat) := propext (by omega)
  unfold slA
  simp [execOp, go_sem, run_underlying hT.h, Instr.sliceAt, Instr.slice, Instr.sliceBounds, Instr.sliceBound, asIntOf, hx, hz, hz', h0, h1, h2, h3, h5, e, TSize.run (T := U) w, Sem.run_bind]
theorem O.slM {a : Option Addr} {len cap m : Nat} {i j : Int} {k k' : IntKind} [hT : TSlice P T U] [hU : TSize P U m] (hp : Pre n all E g d G := by exact ⟨rfl, rfl⟩) (hx : Val G E x (.slice a len cap) := by first | exact vt rfl | exact vs rfl) (hz : Val G E z (.int k j) := by first | exact vt rfl | exact vs rfl) (hz' : Val G E z' (.int k' i) := by first | exact vt rfl | exact vs rfl) (h : G = true → 0 ≤ j ∧ j ≤ i ∧ i ≤ cap := by (intro _; omega)) :
    QV P n w0 L0 all ⟨some d, .slice T x (some z) (some z') none, ty, pos, aft, g⟩ E L d G (.slice (slA a m j.toNat cap) (i.toNat - j.toNat) (cap - j.toNat)) :=
  O.val rfl hp (fun hG A w ha hw => r_slM (U := U) (m := m) (hx.eval hG ha) (hz.eval hG ha) (hz'.eval hG ha) (h hG).1 (h hG).2.1 (h hG).2.2)
theorem r_slN {a : Option Addr} {len cap m : Nat} {j : Int} {k : IntKind} (hx : ρ x = .slice a len cap) (hz : ρ z = .int k j) [hT : TSlice P T U] [hU : TSize P U m] (h0 : 0 ≤ j) (h1 : j ≤ len) (h2 : len ≤ cap) :
    (execOp ρ ⟨D, .slice T x (some z) none none, ty, pos, aft, g⟩).run P w = .ok (.value (.slice (slA a m j.toNat cap) (len - j.toNat) (cap - j.toNat))) w := by
  have h5 : j ≤ max (len : Int) 0 := by omega
  have e : (cap - j.toNat = 0) = (cap = j.toNat) := propext (by omega)
  unfold slA
  simp [execOp, go_sem, run_underlying hT.h, Instr.sliceAt, Instr.slice, Instr.sliceBounds, Instr.sliceBound, asIntOf, hx, hz, h0, h1, h2, h5, e, TSize.run (T := U) w, Sem.run_bind]
theorem O.slN {a : Option Addr} {len cap m : Nat} {j : Int} {k : IntKind} [hT : TSlice P T U] [hU : TSize P U m] (hp : Pre n all E g d G := by exact ⟨rfl, rfl⟩) (hx : Val G E x (.slice a len cap) := by first | exact vt rfl | exact vs rfl) (hz : Val G E z (.int k j) := by first | exact vt rfl | exact vs rfl) (h : G = true → 0 ≤ j ∧ j ≤ len ∧ len ≤ cap := by (intro _; omega)) :
    QV P n w0 L0 all ⟨some d, .slice T x (some z) none none, ty, pos, aft, g⟩ E L d G (.slice (slA a m j.toNat cap) (len - j.toNat) (cap - j.toNat)) :=
  O.val rfl hp (fun hG A w ha hw => r_slN (U := U) (m := m) (hx.eval hG ha) (hz.eval hG ha) (h hG).1 (h hG).2.1 (h hG).2.2)
end
/-- what a part holds -/
theorem In.slA {w : World} {a : Option Addr} {α : Type} {enc : α → List Value} {m : Nat} {xs ys : List α} {j cap : Nat} (h : In w a (xs.flatMap enc)) (hm : ∀ x, (enc x).length = m) (hj : j ≤ xs.length) (hc : xs.length ≤ cap) (hy : (xs.drop j).take ys.length = ys) : In w (slA a m j cap) (ys.flatMap enc) := by
  unfold Proofs.YtagiajnpnjakhaaDoor.slA
  by_cases e : cap = j
  · have : ys = [] := by rw [← hy, List.drop_of_length_le (by omega)]; simp
    subst this; exact .inl rfl
  · rw [if_neg e]
    have hd := h.drop hm j hj
    have e2 : xs.drop j = ys ++ (xs.drop j).drop ys.length := by conv => lhs; rw [← List.take_append_drop ys.length (xs.drop j), hy]
    rw [e2, List.flatMap_append] at hd
    have hp := hd.pre
    rcases h with h0 | ⟨b, o, arr, U, fz, rfl, _⟩
    · have e3 : ys.flatMap enc = [] := by
        have hx : xs = xs.take j ++ (ys ++ (xs.drop j).drop ys.length) := by rw [← e2, List.take_append_drop]
        rw [hx, List.flatMap_append, List.flatMap_append] at h0
        exact (List.append_eq_nil_iff.1 (List.append_eq_nil_iff.1 h0).2).1
      rw [e3]; exact .inl rfl
    · have e4 : elt (some ⟨b, o, none⟩) m j 0 = (some (⟨b, o, none⟩ : Addr)).map (·.add (j * m)) := by simp [elt, Addr.add_at]
      rw [← e4]; exact hp
end Go.Proofs.YtagiajnpnjakhaaDoor
