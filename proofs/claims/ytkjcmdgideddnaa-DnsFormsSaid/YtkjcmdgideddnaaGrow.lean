/- append of zeros onto nothing. Condition: not more than some 2^47 bytes. -/
import Derived.Test.YtkjcmdgideddnaaCall
import Derived.Lib.AppendZerosOnto
set_option linter.unusedVariables false
set_option linter.unusedSimpArgs false
namespace Go.Proofs.Ytkjcmdgideddnaa
open Go Go.RowKit
theorem W.apZ {P : Program} {d n : Nat} {w0 : World} {L0 L : Heap} {all rest : List Oper} {E : Env} {Q : Post} {x y : Operand} {pos : String} {aft : Array Edge} {T T2 U ty : TypeId} {α : Type} (enc : α → List Value) {m kb : Nat} {z : Value} {p : Int}
    [hT : TSlice P T U] [hI : TInt P T2 .i64] [hS : TSize P U m] [hZ : TZero P U z] [hB : TByt P U kb] (hn : Nat.blt d n = true) (hx : Val true E x (.slice none 0 0)) (hy : Val true E y (.int .i64 p)) (hz : z.cells.size = m) (hm : 0 < m) (hp : 0 < p) (hb : p.toNat * kb ≤ 140737488355328)
    (kk : ∀ b c sp, OwnOk (some b) c m 0 (List.length sp) → p ≤ c → WL P n w0 L0 all rest ((d, true, .slice (oa (some b)) p.toNat c) :: E) (rowL (some b) U (flat enc [] sp) ++ L) Q) :
    WL P n w0 L0 all (⟨some d, .call ⟨.builtin .append, #[x, y], #[T, T2]⟩, ty, pos, aft, none⟩ :: rest) E L Q :=
  W.loud rfl rfl hn (R := fun v L2 => ∃ b c sp, OwnOk (some b) c m 0 (List.length sp) ∧ p ≤ c ∧ v = .slice (oa (some b)) p.toNat c ∧ L2 = rowL (some b) U (flat enc [] sp) ++ L) (fun A w ha hw => by
    have hi := hS.h; have hzz := hZ.h; have hbb := hB.h
    cases hu : P.info? U with
    | none => simp [hu] at hi
    | some i =>
    simp only [hu, Option.map_some, Option.some.injEq, Option.bind_some] at hi hzz hbb
    subst hi; subst hbb
    have hk1 : p.toNat ≤ p.toNat * i.bytes := Nat.le_mul_of_pos_right _ hB.pos
    have hpn : ((p.toNat : Nat) : Int) = p := Int.toNat_of_nonneg (by omega)
    have hr := Lib.run_append_grow_zeros (P := P) w T T2 ty U i z .i64 .i64 hT.h hI.h hu hzz none 0 0 [] (by exact run_firstCells_none w.drew _ _ _ _) p.toNat (by omega) hm (by omega) (by omega) (by omega) (growslice_fits (by omega) (by simpa using hb))
    rw [hpn] at hr
    simp only [Nat.zero_add] at hr
    have hge := grownCap_ge w p.toNat 0 U
    have h2 := (hw.same (w' := w.drew) rfl rfl rfl rfl).alloc (.cells (([] : List Value).toArray ++ Builtin.zeroCells z.cells p.toNat ++ Builtin.zeroCells z.cells (grownCap w p.toNat 0 U - p.toNat)) U)
    have e : (([] : List Value).toArray ++ Builtin.zeroCells z.cells p.toNat ++ Builtin.zeroCells z.cells (grownCap w p.toNat 0 U - p.toNat)) = (flat enc ([] : List α) (([] : List Value).toArray ++ Builtin.zeroCells z.cells p.toNat ++ Builtin.zeroCells z.cells (grownCap w p.toNat 0 U - p.toNat)).toList).toArray := by
      apply Array.ext'; simp [flat]
    rw [e] at h2 hr
    refine ⟨_, _, _, ?_, h2, w.heap.size, grownCap w p.toNat 0 U, (([] : List Value).toArray ++ Builtin.zeroCells z.cells p.toNat ++ Builtin.zeroCells z.cells (grownCap w p.toNat 0 U - p.toNat)).toList, ?_, by omega, rfl, ?_⟩
    · simp [execOp, resolve, invoke, builtin, Sem.run_bind, hx.eval rfl ha, hy.eval rfl ha, hr, oa]
    · refine ⟨by simp, ?_, by omega, grownCap_le_maxLen w _ 0 U (by simp only [maxLen]; omega)⟩
      simp only [Array.length_toList, Array.size_append, List.size_toArray, List.length_nil, size_zeroCells, hz, Nat.zero_add, Nat.zero_mul, ← Nat.add_mul]
      congr 1; omega
    · rfl) (by
    rintro v L2 ⟨b, c, sp, e1, e2, rfl, rfl⟩
    exact kk b c sp e1 e2)
end Go.Proofs.Ytkjcmdgideddnaa
