/- strings.Builder. Conditions: not more than some 2^46 bytes. -/
import Derived.Test.YtkjcmdgideddnaaStr
import Derived.LaidEql
set_option linter.unusedVariables false
set_option linter.unusedSimpArgs false
namespace Go.Proofs.Ytkjcmdgideddnaa
open Go Go.RowKit
section
variable {P : Program} {ρ : Operand → Value} {D : Option Tmp} {d n : Nat} {w0 w : World} {L0 L : Heap} {all : List Oper} {E : Env} {x y : Operand} {T T' U ty : TypeId} {pos : String} {aft : Array Edge} {g : Option (Nat × Bool)} {G : Bool}
class TPtr (P : Program) (T : TypeId) (u : outParam TypeId) : Prop where h : P.underlying T = some (.pointer u)
class TUns (P : Program) (T : TypeId) : Prop where h : P.underlying T = some .unsafePointer
theorem run_eqpD (D : Nat) {u m : Nat} {p q : Option Addr} [hT : TPtr P T u] [hS : TSize P u m] (hm : m ≠ 0) (h : p = none ∨ q = none ∨ p = q) : (Op.equalIn (D + 1) T (.pointer p) (.pointer q)).run P w = .ok (decide (p = q)) w := by
  cases p with
  | none => cases q <;> simp [Op.equalIn, run_underlying hT.h]
  | some a =>
    cases q with
    | none => simp [Op.equalIn, run_underlying hT.h]
    | some b =>
      obtain rfl : a = b := by simpa using h
      simp [Op.equalIn, run_underlying hT.h, Sem.run_bind, TSize.run (T := u) w, hm, run_sameAddr_same]
theorem run_eqp {u m : Nat} {p q : Option Addr} [hT : TPtr P T u] [hS : TSize P u m] (hm : m ≠ 0) (h : p = none ∨ q = none ∨ p = q) : (Op.equal T (.pointer p) (.pointer q)).run P w = .ok (decide (p = q)) w := run_eqpD 9999 (u := u) hm h
theorem r_eqP {u m : Nat} {p q : Option Addr} [hT : TPtr P T u] [hS : TSize P u m] (hm : m ≠ 0) (hx : ρ x = .pointer p) (hy : ρ y = .pointer q) (h : p = none ∨ q = none ∨ p = q) : (execOp ρ ⟨D, .binOp .eql T x y T', ty, pos, aft, g⟩).run P w = .ok (.value (.bool (decide (p = q)))) w := by
  simp [execOp, hx, hy, go_sem, binOp, Sem.run_bind, run_eqp (T := T) (u := u) (m := m) hm h]
theorem r_neP {u m : Nat} {p q : Option Addr} [hT : TPtr P T u] [hS : TSize P u m] (hm : m ≠ 0) (hx : ρ x = .pointer p) (hy : ρ y = .pointer q) (h : p = none ∨ q = none ∨ p = q) : (execOp ρ ⟨D, .binOp .neq T x y T', ty, pos, aft, g⟩).run P w = .ok (.value (.bool (!decide (p = q)))) w := by
  simp [execOp, hx, hy, go_sem, binOp, Sem.run_bind, run_eqp (T := T) (u := u) (m := m) hm h]
theorem O.eqP {u m : Nat} {p q : Option Addr} [hT : TPtr P T u] [hS : TSize P u m] (hp : Pre n all E g d G := by exact ⟨rfl, rfl⟩) (hx : Val G E x (.pointer p) := by first | exact vt rfl | exact vs rfl | exact vi rfl and1 | exact vi rfl (fun h => and1 (and1 h)) | exact vi rfl (by simp +contextual)) (hy : Val G E y (.pointer q) := by first | exact vt rfl | exact vs rfl | exact vi rfl and1 | exact vi rfl (fun h => and1 (and1 h)) | exact vi rfl (by simp +contextual)) (hm : m ≠ 0) (h : G = true → p = none ∨ q = none ∨ p = q) : QV P n w0 L0 all ⟨some d, .binOp .eql T x y T', ty, pos, aft, g⟩ E L d G (.bool (decide (p = q))) :=
  O.val rfl hp (fun hG a w ha hw => by rw [r_eqP (u := u) hm (hx.eval hG ha) (hy.eval hG ha) (h hG)])
theorem O.neP {u m : Nat} {p q : Option Addr} [hT : TPtr P T u] [hS : TSize P u m] (hp : Pre n all E g d G := by exact ⟨rfl, rfl⟩) (hx : Val G E x (.pointer p) := by first | exact vt rfl | exact vs rfl | exact vi rfl and1 | exact vi rfl (fun h => and1 (and1 h)) | exact vi rfl (by simp +contextual)) (hy : Val G E y (.pointer q) := by first | exact vt rfl | exact vs rfl | exact vi rfl and1 | exact vi rfl (fun h => and1 (and1 h)) | exact vi rfl (by simp +contextual)) (hm : m ≠ 0) (h : G = true → p = none ∨ q = none ∨ p = q) : QV P n w0 L0 all ⟨some d, .binOp .neq T x y T', ty, pos, aft, g⟩ E L d G (.bool (!decide (p = q))) :=
  O.val rfl hp (fun hG a w ha hw => by rw [r_neP (u := u) hm (hx.eval hG ha) (hy.eval hG ha) (h hG)])
theorem O.cvU {b o u m : Nat} {cs : List Value} {fz : Nat × Nat} [hT : TPtr P T u] [hT' : TUns P T'] [hS : TSize P u m] (hp : Pre n all E g d G := by exact ⟨rfl, rfl⟩) (hx : Val G E x (.pointer (some ⟨b, o, none⟩)) := by first | exact vt rfl | exact vs rfl | exact vi rfl and1 | exact vi rfl (fun h => and1 (and1 h)) | exact vi rfl (by simp +contextual)) [hb : Blk L b (.cells cs.toArray U fz)] (h : m ≠ 0 ∧ o < cs.length) : QV P n w0 L0 all ⟨some d, .convert T T' x, ty, pos, aft, g⟩ E L d G (.pointer (some ⟨b, o, none⟩)) :=
  O.val rfl hp (fun hG a w ha hw => by
    have hi := hS.h
    cases hu : P.info? u with
    | none => simp [hu] at hi
    | some j =>
      simp only [hu, Option.map_some, Option.some.injEq] at hi
      have hsh : w.shape? b = some (U, cs.length) := by unfold World.shape?; rw [hw.has _ hb.h]; simp
      have := Lib.run_to_unsafe (w := w) ⟨b, o, none⟩ hT.h hT'.h hu (by rw [hi]; exact h.1) hsh h.2
      simp only [execOp, hx.eval hG ha]
      simp [Sem.run_bind, this])
theorem O.cvF {b o u m : Nat} {cs : List Value} {fz : Nat × Nat} [hT : TUns P T] [hT' : TPtr P T' u] [hS : TSize P u m] (hp : Pre n all E g d G := by exact ⟨rfl, rfl⟩) (hx : Val G E x (.pointer (some ⟨b, o, none⟩)) := by first | exact vt rfl | exact vs rfl | exact vi rfl and1 | exact vi rfl (fun h => and1 (and1 h)) | exact vi rfl (by simp +contextual)) [hb : Blk L b (.cells cs.toArray U fz)] (h : liesAt P P.depth U (cs.length / P.cellsOf U) o u 1 = true) : QV P n w0 L0 all ⟨some d, .convert T T' x, ty, pos, aft, g⟩ E L d G (.pointer (some ⟨b, o, none⟩)) :=
  O.val rfl hp (fun hG a w ha hw => by
    have hi := hS.h
    cases hu : P.info? u with
    | none => simp [hu] at hi
    | some j =>
      have hsh : w.shape? b = some (U, cs.length) := by unfold World.shape?; rw [hw.has _ hb.h]; simp
      have := Lib.run_from_unsafe (w := w) ⟨b, o, none⟩ hT.h hT'.h hu hsh h
      simp only [execOp, hx.eval hG ha]
      simp [Sem.run_bind, this])
theorem r_noEsc {f : FuncId} {fn : Func} {v : Value} {Ts : Array TypeId} (hx : ρ x = .func (.func f) #[] #[]) (hy : ρ y = v) (hc : (callFunc f #[v]).run P w = .ok (.value v) w) : (execOp ρ ⟨D, .call ⟨.value x, #[y], Ts⟩, ty, pos, aft, g⟩).run P w = .ok (.value v) w := by
  simp [execOp, hx, hy, go_sem, hc]
theorem O.noEsc {f : FuncId} {fn : Func} {v : Value} {Ts : Array TypeId} (hp : Pre n all E g d G := by exact ⟨rfl, rfl⟩) (hx : Val G E x (.func (.func f) #[] #[]) := by first | exact vt rfl | exact vs rfl | exact vi rfl and1 | exact vi rfl (fun h => and1 (and1 h)) | exact vi rfl (by simp +contextual)) (hy : Val G E y v := by first | exact vt rfl | exact vs rfl | exact vi rfl and1 | exact vi rfl (fun h => and1 (and1 h)) | exact vi rfl (by simp +contextual)) (hf : P.funcs[f]? = some fn) (hname : (fn.name == "runtime.NumGoroutine") = false)
    (hb : fn.body.isNone = true) (hn : Extern.findNext fn = none) (he : Extern.find fn = some Extern.AbiNoEscape.same) : QV P n w0 L0 all ⟨some d, .call ⟨.value x, #[y], Ts⟩, ty, pos, aft, g⟩ E L d G v :=
  O.val rfl hp (fun hG a w ha hw => by
    have := run_callFunc_extern hf hname hb hn he #[v] w
    rw [Lib.run_noEscape] at this
    rw [r_noEsc (fn := fn) (hx.eval hG ha) (hy.eval hG ha) this])
end
section
variable {P : Program} {ρ : Operand → Value} {D : Option Tmp} {d n : Nat} {w0 w : World} {L0 L L' : Heap} {all rest : List Oper} {E : Env} {Q : Post} {x y : Operand} {T T' U ty : TypeId} {pos : String} {aft : Array Edge} {g : Option (Nat × Bool)} {G : Bool}
theorem Upd.turned {w' : World} {b : Nat} {ob : Obj} (h : Upd w0 L0 w ((b, ob) :: L')) (ho : w'.os = w.os) (ht : w'.tape = w.tape) (hp : w'.output = w.output) (hs : w'.heap.size = w.heap.size) (hh : ∀ k, k ≠ b → w'.heap[k]? = w.heap[k]?) : Upd w0 L0 w' L' := by
  have hnd := h.nd
  simp only [List.map_cons, List.nodup_cons] at hnd
  refine ⟨ho.trans h.os, ht.trans h.tape, hp.trans h.output, by rw [hs]; exact h.size, fun k hk hn => ?_, fun p hp => ?_, fun p hp => h.own p (by simp [hp]), hnd.2⟩
  · rw [hh k (fun e => ?_)]
    · exact h.old k hk hn
    · subst e
      rcases h.own (k, ob) (by simp) with h1 | h1
      · exact hn h1
      · simp at h1; omega
  · rw [hh p.1 (fun e => hnd.1 (e ▸ List.mem_map_of_mem hp))]
    exact h.has p (by simp [hp])
theorem r_usd {o : Option Nat} {m c : Nat} {Ts : Array TypeId} (hx : ρ x = .slice (oa o) m c) (h : ∀ b, o = some b → 0 < c) : (execOp ρ ⟨D, .call ⟨.builtin .unsafeSliceData, #[x], Ts⟩, ty, pos, aft, g⟩).run P w = .ok (.value (.pointer (oa o))) w := by
  cases o with
  | none =>
    have := Lib.run_unsafeSliceData_nil (P := P) (w := w) Ts ty m c
    simp [execOp, hx, oa, go_sem, this]
  | some b =>
    have := Lib.run_unsafeSliceData_row (P := P) (w := w) Ts ty ⟨b, 0, none⟩ m c (Nat.ne_of_gt (h b rfl))
    simp [execOp, hx, oa, go_sem, this]
theorem O.usd {o : Option Nat} {m c : Nat} {Ts : Array TypeId} (hp : Pre n all E g d G := by exact ⟨rfl, rfl⟩) (hx : Val G E x (.slice (oa o) m c) := by first | exact vt rfl | exact vs rfl | exact vi rfl and1 | exact vi rfl (fun h => and1 (and1 h)) | exact vi rfl (by simp +contextual)) (h : ∀ b, o = some b → 0 < c) : QV P n w0 L0 all ⟨some d, .call ⟨.builtin .unsafeSliceData, #[x], Ts⟩, ty, pos, aft, g⟩ E L d G (.pointer (oa o)) :=
  O.val rfl hp (fun hG a w ha hw => r_usd (hx.eval hG ha) h)
theorem r_us {q : Value} {k : Int} {Ts : Array TypeId} {w' : World} {s : ByteArray} (hx : ρ x = q) (hy : ρ y = .int .i64 k) (h : (Builtin.unsafeString_ Ts ty #[q, .int .i64 k]).run P w = .ok (.string s) w') : (execOp ρ ⟨D, .call ⟨.builtin .unsafeString, #[x, y], Ts⟩, ty, pos, aft, g⟩).run P w = .ok (.value (.string s)) w' := by
  simp [execOp, hx, hy, go_sem, h]
/-- 'unsafe.String' of an owned row: the text; the row is given up -/
theorem W.us {o : Option Nat} {c : Nat} {l : List UInt8} {sp : List Value} [hT : TPtr P T U] (hn : Nat.blt d n = true) (hx : Val true E x (.pointer (oa o))) (hy : Val true E y (.int .i64 l.length)) (hU : P.cellsOf U = 1)
    [hc : Cut L o U (flat encB l sp) L'] (hk : OwnOk o c 1 l.length sp.length)
    (k : WL P n w0 L0 all rest ((d, true, .string (S l)) :: E) L' Q) : WL P n w0 L0 all (⟨some d, .call ⟨.builtin .unsafeString, #[x, y], #[T, T']⟩, ty, pos, aft, none⟩ :: rest) E L Q :=
  W.loud rfl rfl hn (R := fun v L2 => v = .string (S l) ∧ L2 = L') (fun A w ha hw => by
    have hw' := hw.perm hc.h.symm
    by_cases hl : l = []
    · subst hl
      refine ⟨.string (S []), w, L', r_us (hx.eval rfl ha) (hy.eval rfl ha) (Lib.run_unsafeString_none w T T' ty (oa o)), hw'.sub (List.sublist_append_right _ _), rfl, rfl⟩
    · cases o with
      | none => exact absurd (List.eq_nil_of_length_eq_zero (hk.1 rfl).1) hl
      | some b =>
        have hb : w.heap[b]? = some (.cells (flat encB l sp).toArray U (0, 0)) := hw'.has (b, .cells (flat encB l sp).toArray U (0, 0)) (by simp [rowL])
        have hlen : (flat encB l sp).length = c := by rw [flat, List.length_append, flat_bytes, List.length_map]; have := hk.2.1; omega
        have hr := Lib.run_unsafeString_row (P := P) w T T' ty U hT.h hU b c (by unfold World.shape?; rw [hb]; simp [hlen]) l hl hk.2.2.1 (by have := hk.2.2.1; have := hk.2.2.2; simp only [maxLen] at this; omega) (fun j x hj => by
          have hlt := (List.getElem?_eq_some_iff.1 hj).1
          rw [Addr.add_at]
          unfold World.cell?
          simp only [hb, Option.isSome_none, Bool.false_eq_true, if_false, Nat.zero_add, List.getElem?_toArray, flat]
          rw [List.getElem?_append_left (by rw [flat_bytes, List.length_map]; exact hlt), flat_bytes, List.getElem?_map, hj]; rfl)
        refine ⟨.string (S l), w.freeze ⟨b, 0, none⟩ l.length, L', r_us (hx.eval rfl ha) (hy.eval rfl ha) hr, ?_, rfl, rfl⟩
        have hl0 : l.length ≠ 0 := by simpa using hl
        refine Upd.turned (w := w) (b := b) hw' ?_ ?_ ?_ ?_ ?_ <;> simp only [World.freeze, if_neg hl0]
        · simp
        · intro k hk'
          rw [Array.getElem?_modify, if_neg (fun e => hk' e.symm)]) (by
    rintro v L2 ⟨rfl, rfl⟩
    exact k)
end
instance : TPtr Try.prog 15 256 := ⟨by kernel_rfl⟩
instance : TPtr Try.prog 16 259 := ⟨by kernel_rfl⟩
instance : TPtr Try.prog 17 266 := ⟨by kernel_rfl⟩
instance : TPtr Try.prog 130 132 := ⟨by kernel_rfl⟩
instance : TPtr Try.prog 157 159 := ⟨by kernel_rfl⟩
instance : TPtr Try.prog 165 72 := ⟨by kernel_rfl⟩
instance : TPtr Try.prog 166 3 := ⟨by kernel_rfl⟩
instance : TPtr Try.prog 170 172 := ⟨by kernel_rfl⟩
instance : TPtr Try.prog 175 177 := ⟨by kernel_rfl⟩
instance : TPtr Try.prog 183 185 := ⟨by kernel_rfl⟩
instance : TPtr Try.prog 189 96 := ⟨by kernel_rfl⟩
instance : TPtr Try.prog 195 111 := ⟨by kernel_rfl⟩
instance : TPtr Try.prog 197 199 := ⟨by kernel_rfl⟩
instance : TPtr Try.prog 216 5 := ⟨by kernel_rfl⟩
instance : TUns Try.prog 240 := ⟨by kernel_rfl⟩
end Go.Proofs.Ytkjcmdgideddnaa
