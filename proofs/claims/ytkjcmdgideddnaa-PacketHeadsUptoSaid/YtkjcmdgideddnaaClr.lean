/- 'clear' of the end of an owned row. No condition. -/
import Derived.Test.YtkjcmdgideddnaaLies
import Derived.Test.YtkjcmdgideddnaaCv
set_option linter.unusedVariables false
set_option linter.unusedSimpArgs false
namespace Go.Proofs.Ytkjcmdgideddnaa
open Go Go.RowKit
section
variable {P : Program} {n : Nat} {w0 : World} {L0 L L' : Heap} {all rest : List Oper} {E : Env} {Q : Post} {x : Operand} {T U ty : TypeId} {pos : String} {aft : Array Edge}
theorem W.skv {o : Oper} {L' : Heap} {v : Value} {w' : World → World} (hd : o.dst = none) (hg : o.guard = none)
    (hr : ∀ a w, EnvOk n E a → Upd w0 L0 w L → (execOp a.eval o).run P w = .ok (.value v) (w' w) ∧ Upd w0 L0 (w' w) L')
    (k : WL P n w0 L0 all rest E L' Q) : WL P n w0 L0 all (o :: rest) E L Q := by
  intro a w ha hw
  refine wpList_plain hg fun K hK => ?_
  obtain ⟨h1, h2⟩ := hr a w ha hw
  simp only [Oper.wp, h1, Oper.upon, hd, Act.put]
  exact hK _ _ (k _ _ ha h2)
theorem r_clr0 {ρ : Operand → Value} {w : World} {b o c : Nat} (ht : P.underlying T = some (.slice U)) (hx : ρ x = .slice (some ⟨b, o, none⟩) 0 c) : (execOp ρ ⟨none, .call ⟨.builtin .clear, #[x], #[T]⟩, ty, pos, aft, none⟩).run P w = .ok (.value (.tuple #[])) w := by
  simp [execOp, hx, go_sem, Builtin.clear_, run_underlying ht]
theorem r_clr {ρ : Operand → Value} {w w' : World} {b o c q : Nat} {z : Value} (ht : P.underlying T = some (.slice U)) (hzr : ∀ w, (zeroValue U).run P w = .ok z w) (hx : ρ x = .slice (some ⟨b, o, none⟩) (q + 1) c) (hst : (storeCells ⟨b, o, none⟩ (Builtin.zeroCells z.cells (q + 1)).toList).run P w = .ok () w') : (execOp ρ ⟨none, .call ⟨.builtin .clear, #[x], #[T]⟩, ty, pos, aft, none⟩).run P w = .ok (.value (.tuple #[])) w' := by
  unfold Value.cells at hst
  simp [execOp, hx, go_sem, Builtin.clear_, run_underlying ht, hzr, hst]
theorem W.clr {α : Type} {enc : α → List Value} {dv : α} {m i ln c b : Nat} {xs : List α} {sp : List Value} {z : Value} [hT : TSlice P T U] [hS : TSize P U m] [hZ : TZero P U z] [he : Enc enc m dv]
    (hx : Val true E x (.slice (elt (oa (some b)) m i 0) ln c)) [hc : Cut L (some b) U (flat enc xs sp) L'] (hzs : z.cells.size = m) (hzo : ∀ k, k < m → (z.cells[k]!).oneCell' = true) (hi : i + ln = xs.length)
    (k : ∀ sp' : List Value, sp'.length = ln * m + sp.length → WL P n w0 L0 all rest E (rowL (some b) U (flat enc (xs.take i) sp') ++ L') Q) : WL P n w0 L0 all (⟨none, .call ⟨.builtin .clear, #[x], #[T]⟩, ty, pos, aft, none⟩ :: rest) E L Q := by
  have fl : ∀ l : List α, (l.flatMap enc).length = l.length * m := by
    intro l
    induction l with
    | nil => simp
    | cons y l ih => simp only [List.flatMap_cons, List.length_append, he.hm, ih, List.length_cons, Nat.add_mul]; omega
  have hm := he.pos
  by_cases h0 : ln = 0
  · subst h0
    have hxs : xs.take i = xs := List.take_of_length_le (by omega)
    have hk := k sp (by simp)
    rw [hxs] at hk
    refine W.skv (w' := fun w => w) (v := .tuple #[]) (L' := rowL (some b) U (flat enc xs sp) ++ L') rfl rfl (fun a w ha hw => ⟨?_, hw.perm hc.h.symm⟩) hk
    have hx' := hx.eval rfl ha
    simp only [elt, oa, Option.map_some] at hx'
    exact r_clr0 hT.h hx'
  · have hzl : ((Builtin.zeroCells z.cells ln).toList).length = ln * m := by simp [Builtin.zeroCells, hzs]
    have hflat : flat enc xs sp = (xs.take i).flatMap enc ++ ((xs.drop i).flatMap enc ++ sp) := by
      rw [flat, ← List.append_assoc, ← List.flatMap_append, List.take_append_drop]
    have hti : (xs.take i).length = i := by rw [List.length_take]; omega
    have hdi : (xs.drop i).length = ln := by rw [List.length_drop]; omega
    have hk := k ((Builtin.zeroCells z.cells ln).toList ++ sp) (by rw [List.length_append, hzl])
    have hov : Ovr (flat enc xs sp) (i * m) (Builtin.zeroCells z.cells ln).toList (flat enc (xs.take i) ((Builtin.zeroCells z.cells ln).toList ++ sp)) := ⟨by
      have e1 : ((xs.take i).flatMap enc).length = i * m := by rw [fl, hti]
      have e2 : ((xs.drop i).flatMap enc).length = ln * m := by rw [fl, hdi]
      rw [hflat, hzl]
      refine ⟨?_, by simp only [List.length_append, e1, e2]; omega⟩
      rw [List.take_left' e1, ← List.drop_drop, List.drop_left' e1, List.drop_left' e2, flat, List.append_assoc]⟩
    refine W.skv (w' := fun w => w.setRow b (flat enc (xs.take i) ((Builtin.zeroCells z.cells ln).toList ++ sp)).toArray) (v := .tuple #[]) rfl rfl (fun a w ha hw => ?_) hk
    have hw' := hw.perm hc.h.symm
    have hb : w.heap[b]? = some (.cells (flat enc xs sp).toArray U (0, 0)) := hw'.has (b, .cells (flat enc xs sp).toArray U (0, 0)) (by simp [rowL])
    have h1 : ∀ v ∈ (Builtin.zeroCells z.cells ln).toList, v.oneCell' = true := by
      intro v hv
      simp only [Builtin.zeroCells, Array.toList_map, List.mem_map] at hv
      obtain ⟨j, _, rfl⟩ := hv
      exact hzo _ (by rw [hzs]; exact Nat.mod_lt _ hm)
    have hst := run_storeCells_at (P := P) b (i * m) U (Builtin.zeroCells z.cells ln).toList 0 (flat enc xs sp).toArray w hb (by have := hov.h.2; simpa using this) h1
    simp only [Nat.add_zero] at hst
    have hx' := hx.eval rfl ha
    refine ⟨?_, hw'.setRow ⟨[], L', rfl, rfl⟩⟩
    obtain ⟨q, rfl⟩ : ∃ q, ln = q + 1 := ⟨ln - 1, by omega⟩
    simp only [elt, oa, Option.map_some, Nat.zero_add, Nat.add_zero] at hx'
    have hzr := fun w => TZero.run (P := P) (T := U) (z := z) w
    rw [← hov.h.1] at hst
    exact r_clr hT.h hzr hx' hst
end
end Go.Proofs.Ytkjcmdgideddnaa
