/- 'make' of rows of structs. No condition. -/
import Derived.Test.YtagiajnpnjakhaaDoorCall
set_option linter.unusedVariables false
set_option linter.unusedSimpArgs false
namespace Go.Proofs.YtagiajnpnjakhaaDoor
open Go Go.RowKit
theorem W.mkE {P : Program} {d n : Nat} {w0 : World} {L0 L : Heap} {all rest : List Oper} {E : Env} {Q : Post} {x y : Operand} {T U ty : TypeId} {pos : String} {aft : Array Edge} {k1 k2 : IntKind} {α : Type} {enc : α → List Value} {dv : α} {m kb c : Nat} {z : Value} [hT : TSlice P T U] [hS : TSize P U m] [hZ : TZero P U z] [hB : TByt P U kb]
    (hn : Nat.blt d n = true) (hx : Val true E x (.int k1 (c : Int))) (hy : Val true E y (.int k2 (c : Int))) (hz : z.cells = (enc dv).toArray) (hb : kb * c ≤ 281474976710656) (h63 : (c : Int) ≤ 9223372036854775807) (hc : madeCells (enc dv).toArray (c * m) = (flat enc (List.replicate c dv) []).toArray)
    (k : ∀ b, WL P n w0 L0 all rest ((d, true, .slice (some ⟨b, 0, none⟩) c c) :: E) ((b, .cells (flat enc (List.replicate c dv) []).toArray U (0, 0)) :: L) Q) : WL P n w0 L0 all (⟨some d, .makeSlice T x y, ty, pos, aft, none⟩ :: rest) E L Q :=
  W.new (v := fun b => .slice (some ⟨b, 0, none⟩) c c) rfl rfl hn (fun a w ha _ => by
    have hi := hS.h; have hzz := hZ.h; have hbb := hB.h
    cases hu : P.info? U with
    | none => simp [hu] at hi
    | some i =>
    simp only [hu, Option.map_some, Option.some.injEq, Option.bind_some] at hi hzz hbb
    have := run_make (P := P) w T U i z hT.h hu hzz k1 k2 c c (by omega) (Int.le_refl _) (by rw [hbb]; have : ((kb * c : Nat) : Int) ≤ 281474976710656 := by omega
                                                                                             rwa [Int.natCast_mul] at this) h63
    rw [hi, Int.toNat_natCast, hz, hc] at this
    simp [execOp, hx.eval rfl ha, hy.eval rfl ha, Sem.run_bind, this]) k
/-- a row of like structs, made anew -/
theorem made_rep {α : Type} {enc : α → List Value} {m : Nat} {dv : α} [he : Enc enc m dv] (c : Nat) : madeCells (enc dv).toArray (c * m) = (flat enc (List.replicate c dv) []).toArray := by
  have hm := he.hm dv
  have hm0 := he.pos
  apply Array.ext'
  apply List.ext_getElem?
  intro j
  by_cases hj : j < c * m
  · have h1 : j / m < (List.replicate c dv).length := by rw [List.length_replicate]; exact Nat.div_lt_of_lt_mul (by rwa [Nat.mul_comm])
    have h2 : j % m < m := Nat.mod_lt _ hm0
    have h3 := (flat_at he.hm dv (List.replicate c dv) (j / m) (j % m) h1 h2).2
    rw [Nat.div_add_mod'] at h3
    have h4 : (List.replicate c dv).getD (j / m) dv = dv := by
      rw [List.getD_eq_getElem?_getD, List.getElem?_replicate]; split <;> rfl
    rw [h4] at h3
    show _ = (flat enc (List.replicate c dv) [])[j]?
    rw [flat, List.append_nil, h3, List.getElem?_eq_getElem (show j % m < (enc dv).length by rw [hm]; exact h2)]
    simp [madeCells, hj, hm, h2]
  · have h5 : ((flat enc (List.replicate c dv) []).toArray.toList)[j]? = none := by
      apply List.getElem?_eq_none
      have : ∀ k : Nat, ((List.replicate k dv).flatMap enc).length = k * m := fun k => by
        induction k with
        | zero => simp
        | succ k ih => rw [List.replicate_succ, List.flatMap_cons, List.length_append, ih, hm, Nat.succ_mul]; omega
      have := this c
      simp only [flat, List.append_nil] at *; omega
    rw [h5]
    simp [madeCells, hj]
end Go.Proofs.YtagiajnpnjakhaaDoor
