/- A cell of an owned element is written. No condition. -/
import Derived.Test.YtkjcmdgideddnaaBldFn
set_option linter.unusedVariables false
set_option linter.unusedSimpArgs false
namespace Go.Proofs.Ytkjcmdgideddnaa
open Go Go.RowKit
section
variable {P : Program} {d n : Nat} {w0 w : World} {L0 L L' : Heap} {all rest : List Oper} {E : Env} {Q : Post} {x y : Operand} {T U ty : TypeId} {pos : String} {aft : Array Edge} {α : Type} {dv : α} {enc : α → List Value} {m : Nat}
theorem W.stE {o : Option Nat} {xs : List α} {sp : List Value} {j off : Nat} {u : Value} (x' : α) (hx : Val true E x (.pointer (elt (oa o) m j off))) (hy : Val true E y u) (hu : u.cells = [u].toArray) [h1 : One [u]] [ht : TSize P T 1] [he : Enc enc m dv] [hn : NilOk o xs]
    [hc : Cut L o U (flat enc xs sp) L'] (hj : j < xs.length) (ho : off < m) {l2 : List Value} [ho2 : Ovr (enc (xs.getD j dv)) off [u] l2] (hen : enc x' = l2)
    (k : WL P n w0 L0 all rest E (rowL o U (flat enc (xs.set j x') sp) ++ L') Q) : WL P n w0 L0 all (⟨none, .store T x y, ty, pos, aft, none⟩ :: rest) E L Q := by
  have hen : enc x' = (enc (xs.getD j dv)).set off u := by
    have h1 := ho2.h.1
    rw [hen, h1, List.set_eq_take_append_cons_drop, if_pos (by rw [he.hm]; exact ho)]; simp
  cases o with
  | none => have := hn.h rfl; subst this; simp at hj
  | some b =>
    have hlen : j * m + off < (flat enc xs sp).length := by
      have := (flat_at he.hm dv xs j off hj ho).1
      rw [flat, List.length_append]; omega
    have hset := flat_set he.hm (u := u) xs sp j off x' hj ho (fun x hx => by rw [hen, List.getD_eq_getElem?_getD, hx]; rfl)
    refine W.skp (w' := fun w => w.setRow b (flat enc (xs.set j x') sp).toArray) rfl rfl (fun a w ha hw => ?_) k
    have hw' := hw.perm hc.h.symm
    have hb : w.heap[b]? = some (.cells (flat enc xs sp).toArray U (0, 0)) := hw'.has (b, .cells (flat enc xs sp).toArray U (0, 0)) (by simp [rowL])
    haveI hov : Ovr (flat enc xs sp) (j * m + off) [u] (flat enc (xs.set j x') sp) := ⟨by
      rw [← hset, List.set_eq_take_append_cons_drop, if_pos hlen]; simp, by simp; omega⟩
    have := run_store_ovr (P := P) (T := T) (o := j * m + off) hb (vs := [u]) (cs' := flat enc (xs.set j x') sp) (u := u) hu
    have hx' := hx.eval rfl ha
    simp only [elt, oa, Option.map_some, Nat.zero_add] at hx'
    exact ⟨by simp [execOp, Instr.storeAt, Instr.sureAddr, hx', hy.eval rfl ha, Sem.run_bind, this], hw'.setRow ⟨[], L', rfl, rfl⟩⟩
theorem flat_setW (hm : ∀ x, (enc x).length = m) (x' : α) : ∀ (xs : List α) (sp : List Value) (j : Nat), j < xs.length → flat enc (xs.set j x') sp = (flat enc xs sp).take (j * m) ++ enc x' ++ (flat enc xs sp).drop (j * m + (enc x').length)
  | [], sp, j, h => by simp at h
  | x :: xs, sp, 0, _ => by
    simp only [flat, List.set_cons_zero, List.flatMap_cons, Nat.zero_mul, List.take_zero, List.nil_append, Nat.zero_add, List.append_assoc]
    rw [List.drop_append_of_le_length (by rw [hm, hm]; omega), hm, ← hm x, List.drop_length, List.nil_append]
  | x :: xs, sp, j + 1, h => by
    have ih := flat_setW hm x' xs sp j (by simpa using h)
    simp only [flat, List.set_cons_succ, List.flatMap_cons, List.append_assoc] at ih ⊢
    rw [ih]
    have e : (j + 1) * m = (enc x).length + j * m := by rw [hm, Nat.add_mul]; omega
    have e2 : (j + 1) * m + (enc x').length = (enc x).length + (j * m + (enc x').length) := by rw [e]; omega
    rw [e2, e, List.take_length_add_append, List.drop_length_add_append]
    simp
/-- an element is written -/
theorem W.stW {o : Option Nat} {xs : List α} {sp : List Value} {j : Nat} {u : Value} (x' : α) (hx : Val true E x (.pointer (elt (oa o) m j 0))) (hy : Val true E y u) [he : Enc enc m dv] [h1 : EncOne enc] [ht : TSize P T m] [hn : NilOk o xs]
    [hc : Cut L o U (flat enc xs sp) L'] (hu : u.cells = (enc x').toArray) (hj : j < xs.length)
    (k : WL P n w0 L0 all rest E (rowL o U (flat enc (xs.set j x') sp) ++ L') Q) : WL P n w0 L0 all (⟨none, .store T x y, ty, pos, aft, none⟩ :: rest) E L Q := by
  cases o with
  | none => have := hn.h rfl; subst this; simp at hj
  | some b =>
    have hlen : j * m + m ≤ (flat enc xs sp).length := by
      have := (flat_at he.hm dv xs j (m - 1) hj (by have := he.pos; omega)).1
      have := he.pos
      rw [flat, List.length_append]; omega
    refine W.skp (w' := fun w => w.setRow b (flat enc (xs.set j x') sp).toArray) rfl rfl (fun a w ha hw => ?_) k
    have hw' := hw.perm hc.h.symm
    have hb : w.heap[b]? = some (.cells (flat enc xs sp).toArray U (0, 0)) := hw'.has (b, .cells (flat enc xs sp).toArray U (0, 0)) (by simp [rowL])
    haveI hov : Ovr (flat enc xs sp) (j * m) (enc x') (flat enc (xs.set j x') sp) := ⟨flat_setW he.hm x' xs sp j hj, by rw [he.hm]; exact hlen⟩
    haveI : One (enc x') := ⟨h1.h x'⟩
    haveI : TSize P T (enc x').length := by rw [he.hm]; exact ht
    have := run_store_ovr (P := P) (T := T) (o := j * m) hb (vs := enc x') (cs' := flat enc (xs.set j x') sp) (u := u) hu
    have hx' := hx.eval rfl ha
    simp only [elt, oa, Option.map_some, Nat.zero_add, Nat.add_zero] at hx'
    exact ⟨by simp [execOp, Instr.storeAt, Instr.sureAddr, hx', hy.eval rfl ha, Sem.run_bind, this], hw'.setRow ⟨[], L', rfl, rfl⟩⟩
end
end Go.Proofs.Ytkjcmdgideddnaa
