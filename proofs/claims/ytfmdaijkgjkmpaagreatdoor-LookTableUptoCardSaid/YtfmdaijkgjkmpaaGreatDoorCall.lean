/- Several texts in one (Call). Their conditions are their own. -/
import Derived.Test.YtfmdaijkgjkmpaaGreatDoorOwn
import Derived.LaidEql
import Derived.Test.YtfmdaijkgjkmpaaGreatDoorPRL
import Derived.MapKept
set_option linter.unusedVariables false
set_option linter.unusedSimpArgs false
namespace Go.Proofs.YtfmdaijkgjkmpaaGreatDoor
open Go Go.RowKit
section
variable {P : Program} {ρ : Operand → Value} {D : Option Tmp} {d n : Nat} {w0 w : World} {L0 L : Heap} {all : List Oper} {E : Env} {x y : Operand} {T T' U ty : TypeId} {pos : String} {aft : Array Edge} {g : Option (Nat × Bool)} {G : Bool}
class TPtr (P : Program) (T : TypeId) (u : outParam TypeId) : Prop where h : P.underlying T = some (.pointer u)
class TUns (P : Program) (T : TypeId) : Prop where h : P.underlying T = some .unsafePointer
theorem run_eqpD (D : Nat) {u m : Nat} {p q : Option Addr} [hT : TPtr P T u] [hS : TSize P u m] (hm : m ≠ 0) (h : p = none ∨ q = none ∨ p = q) : (Op.equalIn (D + 1) T (.pointer p) (.pointer q)).run P w = .ok (decide (p = q)) w := by
  cases p with
  | none => cases q <;> simp [Op.equalIn, run_underlying hT.h]
  | some a =>
    cases q with
    | none => simp [Op.equalIn, run_underlying hT.h]
    | some b =>
      obtain rfl : a = b := by simpa using h
      simp [Op.equalIn, run_underlying hT.h, Sem.run_bind, TSize.run (T := u) w, hm, run_sameAddr_same]
theorem run_eqp {u m : Nat} {p q : Option Addr} [hT : TPtr P T u] [hS : TSize P u m] (hm : m ≠ 0) (h : p = none ∨ q = none ∨ p = q) : (Op.equal T (.pointer p) (.pointer q)).run P w = .ok (decide (p = q)) w := run_eqpD 9999 (u := u) hm h
theorem r_eqP {u m : Nat} {p q : Option Addr} [hT : TPtr P T u] [hS : TSize P u m] (hm : m ≠ 0) (hx : ρ x = .pointer p) (hy : ρ y = .pointer q) (h : p = none ∨ q = none ∨ p = q) : (execOp ρ ⟨D, .binOp .eql T x y T', ty, pos, aft, g⟩).run P w = .ok (.value (.bool (decide (p = q)))) w := by
  simp [execOp, hx, hy, go_sem, binOp, Sem.run_bind, run_eqp (T := T) (u := u) (m := m) hm h]
theorem r_neP {u m : Nat} {p q : Option Addr} [hT : TPtr P T u] [hS : TSize P u m] (hm : m ≠ 0) (hx : ρ x = .pointer p) (hy : ρ y = .pointer q) (h : p = none ∨ q = none ∨ p = q) : (execOp ρ ⟨D, .binOp .neq T x y T', ty, pos, aft, g⟩).run P w = .ok (.value (.bool (!decide (p = q)))) w := by
  simp [execOp, hx, hy, go_sem, binOp, Sem.run_bind, run_eqp (T := T) (u := u) (m := m) hm h]
theorem O.eqP {u m : Nat} {p q : Option Addr} [hT : TPtr P T u] [hS : TSize P u m] (hp : Pre n all E g d G := by exact ⟨rfl, rfl⟩) (hx : Val G E x (.pointer p) := by first | exact vt rfl | exact vs rfl | exact vi rfl and1 | exact vi rfl (fun h => and1 (and1 h)) | exact vi rfl (by simp +contextual)) (hy : Val G E y (.pointer q) := by first | exact vt rfl | exact vs rfl | exact vi rfl and1 | exact vi rfl (fun h => and1 (and1 h)) | exact vi rfl (by simp +contextual)) (hm : m ≠ 0) (h : G = true → p = none ∨ q = none ∨ p = q) : QV P n w0 L0 all ⟨some d, .binOp .eql T x y T', ty, pos, aft, g⟩ E L d G (.bool (decide (p = q))) :=
  O.val rfl hp (fun hG a w ha hw => by rw [r_eqP (u := u) hm (hx.eval hG ha) (hy.eval hG ha) (h hG)])
theorem O.neP {u m : Nat} {p q : Option Addr} [hT : TPtr P T u] [hS : TSize P u m] (hp : Pre n all E g d G := by exact ⟨rfl, rfl⟩) (hx : Val G E x (.pointer p) := by first | exact vt rfl | exact vs rfl | exact vi rfl and1 | exact vi rfl (fun h => and1 (and1 h)) | exact vi rfl (by simp +contextual)) (hy : Val G E y (.pointer q) := by first | exact vt rfl | exact vs rfl | exact vi rfl and1 | exact vi rfl (fun h => and1 (and1 h)) | exact vi rfl (by simp +contextual)) (hm : m ≠ 0) (h : G = true → p = none ∨ q = none ∨ p = q) : QV P n w0 L0 all ⟨some d, .binOp .neq T x y T', ty, pos, aft, g⟩ E L d G (.bool (!decide (p = q))) :=
  O.val rfl hp (fun hG a w ha hw => by rw [r_neP (u := u) hm (hx.eval hG ha) (hy.eval hG ha) (h hG)])
theorem O.cvU {b o u m : Nat} {cs : List Value} {fz : Nat × Nat} [hT : TPtr P T u] [hT' : TUns P T'] [hS : TSize P u m] (hp : Pre n all E g d G := by exact ⟨rfl, rfl⟩) (hx : Val G E x (.pointer (some ⟨b, o, none⟩)) := by first | exact vt rfl | exact vs rfl | exact vi rfl and1 | exact vi rfl (fun h => and1 (and1 h)) | exact vi rfl (by simp +contextual)) [hb : Blk L b (.cells cs.toArray U fz)] (h : m ≠ 0 ∧ o < cs.length) : QV P n w0 L0 all ⟨some d, .convert T T' x, ty, pos, aft, g⟩ E L d G (.pointer (some ⟨b, o, none⟩)) :=
  O.val rfl hp (fun hG a w ha hw => by
    have hi := hS.h
    cases hu : P.info? u with
    | none => simp [hu] at hi
    | some j =>
      simp only [hu, Option.map_some, Option.some.injEq] at hi
      have hsh : w.shape? b = some (U, cs.length) := by unfold World.shape?; rw [hw.has _ hb.h]; simp
      have := Lib.run_to_unsafe (w := w) ⟨b, o, none⟩ hT.h hT'.h hu (by rw [hi]; exact h.1) hsh h.2
      simp only [execOp, hx.eval hG ha]
      simp [Sem.run_bind, this])
theorem O.cvF {b o u m : Nat} {cs : List Value} {fz : Nat × Nat} [hT : TUns P T] [hT' : TPtr P T' u] [hS : TSize P u m] (hp : Pre n all E g d G := by exact ⟨rfl, rfl⟩) (hx : Val G E x (.pointer (some ⟨b, o, none⟩)) := by first | exact vt rfl | exact vs rfl | exact vi rfl and1 | exact vi rfl (fun h => and1 (and1 h)) | exact vi rfl (by simp +contextual)) [hb : Blk L b (.cells cs.toArray U fz)] (h : liesAt P P.depth U (cs.length / P.cellsOf U) o u 1 = true) : QV P n w0 L0 all ⟨some d, .convert T T' x, ty, pos, aft, g⟩ E L d G (.pointer (some ⟨b, o, none⟩)) :=
  O.val rfl hp (fun hG a w ha hw => by
    have hi := hS.h
    cases hu : P.info? u with
    | none => simp [hu] at hi
    | some j =>
      have hsh : w.shape? b = some (U, cs.length) := by unfold World.shape?; rw [hw.has _ hb.h]; simp
      have := Lib.run_from_unsafe (w := w) ⟨b, o, none⟩ hT.h hT'.h hu hsh h
      simp only [execOp, hx.eval hG ha]
      simp [Sem.run_bind, this])
theorem r_noEsc {f : FuncId} {fn : Func} {v : Value} {Ts : Array TypeId} (hx : ρ x = .func (.func f) #[] #[]) (hy : ρ y = v) (hc : (callFunc f #[v]).run P w = .ok (.value v) w) : (execOp ρ ⟨D, .call ⟨.value x, #[y], Ts⟩, ty, pos, aft, g⟩).run P w = .ok (.value v) w := by
  simp [execOp, hx, hy, go_sem, hc]
theorem O.noEsc {f : FuncId} {fn : Func} {v : Value} {Ts : Array TypeId} (hp : Pre n all E g d G := by exact ⟨rfl, rfl⟩) (hx : Val G E x (.func (.func f) #[] #[]) := by first | exact vt rfl | exact vs rfl | exact vi rfl and1 | exact vi rfl (fun h => and1 (and1 h)) | exact vi rfl (by simp +contextual)) (hy : Val G E y v := by first | exact vt rfl | exact vs rfl | exact vi rfl and1 | exact vi rfl (fun h => and1 (and1 h)) | exact vi rfl (by simp +contextual)) (hf : P.funcs[f]? = some fn) (hname : (fn.name == "runtime.NumGoroutine") = false)
    (hb : fn.body.isNone = true) (hn : Extern.findNext fn = none) (he : Extern.find fn = some Extern.AbiNoEscape.same) : QV P n w0 L0 all ⟨some d, .call ⟨.value x, #[y], Ts⟩, ty, pos, aft, g⟩ E L d G v :=
  O.val rfl hp (fun hG a w ha hw => by
    have := run_callFunc_extern hf hname hb hn he #[v] w
    rw [Lib.run_noEscape] at this
    rw [r_noEsc (fn := fn) (hx.eval hG ha) (hy.eval hG ha) this])
end
section
variable {P : Program} {ρ : Operand → Value} {D : Option Tmp} {d n : Nat} {w0 w : World} {L0 L L' : Heap} {all rest : List Oper} {E : Env} {Q : Post} {x y : Operand} {T T' U ty : TypeId} {pos : String} {aft : Array Edge} {g : Option (Nat × Bool)} {G : Bool}
theorem Upd.turned {w' : World} {b : Nat} {ob : Obj} (h : Upd w0 L0 w ((b, ob) :: L')) (ho : w'.os = w.os) (ht : w'.tape = w.tape) (hp : w'.output = w.output) (hs : w'.heap.size = w.heap.size) (hh : ∀ k, k ≠ b → w'.heap[k]? = w.heap[k]?) : Upd w0 L0 w' L' := by
  have hnd := h.nd
  simp only [List.map_cons, List.nodup_cons] at hnd
  refine ⟨ho.trans h.os, ht.trans h.tape, hp.trans h.output, by rw [hs]; exact h.size, fun k hk hn => ?_, fun p hp => ?_, fun p hp => h.own p (by simp [hp]), hnd.2⟩
  · rw [hh k (fun e => ?_)]
    · exact h.old k hk hn
    · subst e
      rcases h.own (k, ob) (by simp) with h1 | h1
      · exact hn h1
      · simp at h1; omega
  · rw [hh p.1 (fun e => hnd.1 (e ▸ List.mem_map_of_mem hp))]
    exact h.has p (by simp [hp])
theorem r_usd {o : Option Nat} {m c : Nat} {Ts : Array TypeId} (hx : ρ x = .slice (oa o) m c) (h : ∀ b, o = some b → 0 < c) : (execOp ρ ⟨D, .call ⟨.builtin .unsafeSliceData, #[x], Ts⟩, ty, pos, aft, g⟩).run P w = .ok (.value (.pointer (oa o))) w := by
  cases o with
  | none =>
    have := Lib.run_unsafeSliceData_nil (P := P) (w := w) Ts ty m c
    simp [execOp, hx, oa, go_sem, this]
  | some b =>
    have := Lib.run_unsafeSliceData_row (P := P) (w := w) Ts ty ⟨b, 0, none⟩ m c (Nat.ne_of_gt (h b rfl))
    simp [execOp, hx, oa, go_sem, this]
theorem O.usd {o : Option Nat} {m c : Nat} {Ts : Array TypeId} (hp : Pre n all E g d G := by exact ⟨rfl, rfl⟩) (hx : Val G E x (.slice (oa o) m c) := by first | exact vt rfl | exact vs rfl | exact vi rfl and1 | exact vi rfl (fun h => and1 (and1 h)) | exact vi rfl (by simp +contextual)) (h : ∀ b, o = some b → 0 < c) : QV P n w0 L0 all ⟨some d, .call ⟨.builtin .unsafeSliceData, #[x], Ts⟩, ty, pos, aft, g⟩ E L d G (.pointer (oa o)) :=
  O.val rfl hp (fun hG a w ha hw => r_usd (hx.eval hG ha) h)
theorem r_us {q : Value} {k : Int} {Ts : Array TypeId} {w' : World} {s : ByteArray} (hx : ρ x = q) (hy : ρ y = .int .i64 k) (h : (Builtin.unsafeString_ Ts ty #[q, .int .i64 k]).run P w = .ok (.string s) w') : (execOp ρ ⟨D, .call ⟨.builtin .unsafeString, #[x, y], Ts⟩, ty, pos, aft, g⟩).run P w = .ok (.value (.string s)) w' := by
  simp [execOp, hx, hy, go_sem, h]
/-- 'unsafe.String' of an owned row: the text; the row is given up -/
theorem W.us {o : Option Nat} {c : Nat} {l : List UInt8} {sp : List Value} [hT : TPtr P T U] (hn : Nat.blt d n = true) (hx : Val true E x (.pointer (oa o))) (hy : Val true E y (.int .i64 l.length)) (hU : P.cellsOf U = 1)
    [hc : Cut L o U (flat encB l sp) L'] (hk : OwnOk o c 1 l.length sp.length)
    (k : WL P n w0 L0 all rest ((d, true, .string (S l)) :: E) L' Q) : WL P n w0 L0 all (⟨some d, .call ⟨.builtin .unsafeString, #[x, y], #[T, T']⟩, ty, pos, aft, none⟩ :: rest) E L Q :=
  W.loud rfl rfl hn (R := fun v L2 => v = .string (S l) ∧ L2 = L') (fun A w ha hw => by
    have hw' := hw.perm hc.h.symm
    by_cases hl : l = []
    · subst hl
      refine ⟨.string (S []), w, L', r_us (hx.eval rfl ha) (hy.eval rfl ha) (Lib.run_unsafeString_none w T T' ty (oa o)), hw'.sub (List.sublist_append_right _ _), rfl, rfl⟩
    · cases o with
      | none => exact absurd (List.eq_nil_of_length_eq_zero (hk.1 rfl).1) hl
      | some b =>
        have hb : w.heap[b]? = some (.cells (flat encB l sp).toArray U (0, 0)) := hw'.has (b, .cells (flat encB l sp).toArray U (0, 0)) (by simp [rowL])
        have hlen : (flat encB l sp).length = c := by rw [flat, List.length_append, flat_bytes, List.length_map]; have := hk.2.1; omega
        have hr := Lib.run_unsafeString_row (P := P) w T T' ty U hT.h hU b c (by unfold World.shape?; rw [hb]; simp [hlen]) l hl hk.2.2.1 (by have := hk.2.2.1; have := hk.2.2.2; simp only [maxLen] at this; omega) (fun j x hj => by
          have hlt := (List.getElem?_eq_some_iff.1 hj).1
          rw [Addr.add_at]
          unfold World.cell?
          simp only [hb, Option.isSome_none, Bool.false_eq_true, if_false, Nat.zero_add, List.getElem?_toArray, flat]
          rw [List.getElem?_append_left (by rw [flat_bytes, List.length_map]; exact hlt), flat_bytes, List.getElem?_map, hj]; rfl)
        refine ⟨.string (S l), w.freeze ⟨b, 0, none⟩ l.length, L', r_us (hx.eval rfl ha) (hy.eval rfl ha) hr, ?_, rfl, rfl⟩
        have hl0 : l.length ≠ 0 := by simpa using hl
        refine Upd.turned (w := w) (b := b) hw' ?_ ?_ ?_ ?_ ?_ <;> simp only [World.freeze, if_neg hl0]
        · simp
        · intro k hk'
          rw [Array.getElem?_modify, if_neg (fun e => hk' e.symm)]) (by
    rintro v L2 ⟨rfl, rfl⟩
    exact k)
end
instance : TPtr Tryz.prog 15 241 := ⟨by kernel_rfl⟩
instance : TPtr Tryz.prog 16 244 := ⟨by kernel_rfl⟩
instance : TPtr Tryz.prog 17 252 := ⟨by kernel_rfl⟩
instance : TPtr Tryz.prog 78 53 := ⟨by kernel_rfl⟩
instance : TPtr Tryz.prog 96 98 := ⟨by kernel_rfl⟩
instance : TPtr Tryz.prog 109 71 := ⟨by kernel_rfl⟩
instance : TPtr Tryz.prog 112 26 := ⟨by kernel_rfl⟩
instance : TPtr Tryz.prog 114 118 := ⟨by kernel_rfl⟩
instance : TPtr Tryz.prog 124 3 := ⟨by kernel_rfl⟩
instance : TPtr Tryz.prog 148 116 := ⟨by kernel_rfl⟩
instance : TPtr Tryz.prog 184 186 := ⟨by kernel_rfl⟩
instance : TPtr Tryz.prog 190 58 := ⟨by kernel_rfl⟩
instance : TPtr Tryz.prog 194 196 := ⟨by kernel_rfl⟩
instance : TPtr Tryz.prog 212 214 := ⟨by kernel_rfl⟩
instance : TPtr Tryz.prog 227 5 := ⟨by kernel_rfl⟩
instance : TUns Tryz.prog 231 := ⟨by kernel_rfl⟩
end Go.Proofs.YtfmdaijkgjkmpaaGreatDoor

set_option linter.unusedVariables false
set_option linter.unusedSimpArgs false
namespace Go.Proofs.YtfmdaijkgjkmpaaGreatDoor
open Go Go.RowKit
abbrev BdO (b : Nat) (p : Option Addr) (v : Value) : Nat × Obj := (b, .cells [.pointer p, v].toArray 214 (0, 0))
set_option maxRecDepth 100000 in
theorem bd_check (b : Nat) (p a : Option Addr) (m c : Nat) (w : World) (hp : p = none ∨ p = some ⟨b, 0, none⟩) (hL : Holds [BdO b p (.slice a m c)] w) :
    Fn Tryz.prog 176 [.pointer (some ⟨b, 0, none⟩)] w [BdO b p (.slice a m c)] fun v' L' => L' = [BdO b (some ⟨b, 0, none⟩) (.slice a m c)] := by
  refine Fn.enter Tryz.func176 rfl rfl rfl rfl hL ?_
  refine CW.seq ?_
  refine CW.region ?_
  refine W.p O.mv ?_
  refine W.p O.nc ?_
  first | refine W.p O.fb ?_ | refine W.p O.fa ?_
  refine W.p O.ld ?_
  refine W.p (O.eqP ⟨rfl, rfl⟩ (vt rfl) (vt rfl) (by decide) (fun _ => by first | exact .inr (.inl rfl) | exact .inl rfl | exact .inr (.inr rfl) | (simp_all; done))) ?_
  refine WL.nil (Q.tn ?_)
  refine CW.cond (vt rfl) (fun hc1 => ?_) (fun hc1 => ?_)
  · try simp only [sk] at hc1
    refine CW.region ?_
    refine W.p O.mv ?_
    refine W.p O.mv ?_
    refine W.p (O.cvU ⟨rfl, rfl⟩ (vt rfl) (by constructor <;> simp)) ?_
    refine W.p (O.noEsc ⟨rfl, rfl⟩ (vt rfl) (vt rfl) Tryz.func183 (by kernel_rfl) (by kernel_rfl) (by kernel_rfl) (by kernel_rfl)) ?_
    refine W.p (O.cvF ⟨rfl, rfl⟩ (vt rfl) (by kernel_rfl)) ?_
    refine W.p O.nc ?_
    first | refine W.p O.fb ?_ | refine W.p O.fa ?_
    refine W.st (vt rfl) (vt rfl) rfl ?_
    refine WL.nil ?_
    refine ⟨_, _, RVs.nil, List.Sublist.refl _, ?_⟩
    first | rfl | (rcases hp with rfl | rfl <;> simp_all)
  try simp only [sk] at hc1
  refine CW.seq ?_
  refine CW.region ?_
  refine W.p O.mv ?_
  refine W.p O.nc ?_
  first | refine W.p O.fb ?_ | refine W.p O.fa ?_
  refine W.p O.ld ?_
  refine W.p O.mv ?_
  refine W.p (O.neP ⟨rfl, rfl⟩ (vt rfl) (vt rfl) (by decide) (fun _ => by first | exact .inr (.inl rfl) | exact .inl rfl | exact .inr (.inr rfl) | (simp_all; done))) ?_
  refine WL.nil (Q.tn ?_)
  refine CW.cond (vt rfl) (fun hc2 => ?_) (fun hc2 => ?_)
  · try simp only [sk] at hc2
    exfalso; simp_all
  try simp only [sk] at hc2
  refine CW.skip ?_
  refine ⟨_, _, RVs.nil, List.Sublist.refl _, ?_⟩
  first | rfl | (rcases hp with rfl | rfl <;> simp_all)
/-- a builder that holds some bytes, and its part of the heap -/
def Bd (b : Nat) (l : List UInt8) (L : Heap) : Prop :=
  ∃ p o c sp, (p = none ∨ p = some ⟨b, 0, none⟩) ∧ OwnOk o c 1 l.length (List.length sp) ∧ (∀ b', o = some b' → 0 < c) ∧ L = rowL o 5 (flat encB l sp) ++ [BdO b p (.slice (oa o) l.length c)]
set_option maxRecDepth 100000 in
theorem bd_str {b : Nat} {l s : List UInt8} {Lb : Heap} (w : World) (hB : Bd b l Lb) (hL : Holds Lb w) (hn : l.length + s.length ≤ 140737488355328) :
    Fn Tryz.prog 160 [.pointer (some ⟨b, 0, none⟩), .string (S s)] w Lb fun v' L' => Bd b (l ++ s) L' := by
  obtain ⟨p, o, c, sp, hp, hk, hgt, rfl⟩ := hB
  refine Fn.enter Tryz.func160 rfl rfl rfl rfl hL ?_
  refine CW.seq ?_
  refine CW.region ?_
  refine W.p O.as ?_
  refine W.p O.as ?_
  refine WL.nil (Q.tn ?_)
  refine CW.seq ?_
  refine CW.region ?_
  refine W.p O.mv ?_
  refine W.call (first := []) (cap := []) [BdO b p (.slice (oa o) l.length c)] (rowL o 5 (flat encB l sp)) rfl (vt rfl) (AV.cons (vt rfl) (AV.nil)) List.perm_append_comm (fun w hu hholds => bd_check b p (oa o) l.length c w hp hholds) ?_; rintro _ _ rfl
  refine WL.nil (Q.tn ?_)
  refine CW.seq ?_
  refine CW.region ?_
  refine W.p O.mv ?_
  refine W.p O.mv ?_
  refine W.p O.nc ?_
  first | refine W.p O.fb ?_ | refine W.p O.fa ?_
  refine W.p O.ld ?_
  refine W.p O.mv ?_
  first | refine W.aps (o := none) (xs := []) (sp := []) rfl (vt rfl) (vt rfl) rfl OwnOk.nil (by first | omega | (simp; omega)) fun o1 c1 sp1 ok1 gt1 => ?_ | refine W.aps rfl (vt rfl) (vt rfl) (by first | rfl | omega) (by assumption) (by first | omega | (simp; omega)) fun o1 c1 sp1 ok1 gt1 => ?_
  refine W.p O.nc ?_
  first | refine W.p O.fb ?_ | refine W.p O.fa ?_
  first | refine W.st (vt rfl) (vt rfl) rfl ?_ | refine W.st (u := .slice _ _ _) (vt rfl) (vt rfl) rfl ?_
  refine WL.nil (Q.tn ?_)
  refine CW.seq ?_
  refine CW.region ?_
  refine W.p O.mv ?_
  refine W.p O.len ?_
  refine W.p O.as ?_
  refine W.p O.as ?_
  refine WL.nil (Q.tn ?_)
  refine CW.ret ?_
  refine ⟨_, _, RVs.tmp rfl (RVs.tmp rfl RVs.nil), List.Sublist.refl _, ?_⟩
  first | exact ⟨_, _, _, _, .inr rfl, by assumption, gt1 hgt, rfl⟩ | exact ⟨_, _, _, _, .inr rfl, by assumption, gt1 (by simp), rfl⟩ | exact ⟨_, _, _, _, .inr rfl, by assumption, gt2 (by simp), rfl⟩ | exact ⟨_, _, _, _, .inr rfl, by assumption, gt2 hgt, rfl⟩
set_option maxRecDepth 100000 in
theorem bd_string {b : Nat} {l : List UInt8} {Lb : Heap} (w : World) (hB : Bd b l Lb) (hL : Holds Lb w) :
    Fn Tryz.prog 161 [.pointer (some ⟨b, 0, none⟩)] w Lb fun v' L' => v' = .string (S l) := by
  obtain ⟨p, o, c, sp, hp, hk, hgt, rfl⟩ := hB
  refine Fn.enter Tryz.func161 rfl rfl rfl rfl hL ?_
  refine CW.seq ?_
  refine CW.region ?_
  refine W.p O.as ?_
  refine WL.nil (Q.tn ?_)
  refine CW.seq ?_
  refine CW.draw 10 rfl (by kernel_rfl) ?_
  refine WQ.p O.mv ?_
  refine WQ.p O.nc ?_
  first | refine WQ.p O.fb ?_ | refine WQ.p O.fa ?_
  refine WQ.p O.ld ?_
  refine WQ.p (O.usd ⟨rfl, rfl⟩ (vt rfl) (by assumption)) ?_
  refine WQ.p O.mv ?_
  refine WQ.p O.nc ?_
  first | refine WQ.p O.fb ?_ | refine WQ.p O.fa ?_
  refine WQ.p O.ld ?_
  refine WQ.p O.lenL ?_
  refine WQ.nil ?_
  refine W.us rfl (vt rfl) (vt rfl) (by kernel_rfl) (by assumption) ?_
  refine W.p O.as ?_
  refine WL.nil (Q.tn ?_)
  refine CW.ret ?_
  refine ⟨_, _, RVs.tmp rfl RVs.nil, List.Sublist.refl _, ?_⟩
  rfl
end Go.Proofs.YtfmdaijkgjkmpaaGreatDoor

set_option linter.unusedVariables false
set_option linter.unusedSimpArgs false
namespace Go.Proofs.YtfmdaijkgjkmpaaGreatDoor
open Go Go.RowKit
section
variable {P : Program} {d n : Nat} {w0 w : World} {L0 L L' : Heap} {all rest : List Oper} {E : Env} {Q : Post} {x y : Operand} {T U ty : TypeId} {pos : String} {aft : Array Edge} {α : Type} {dv : α} {enc : α → List Value} {m : Nat}
theorem W.stE {o : Option Nat} {xs : List α} {sp : List Value} {j off : Nat} {u : Value} (x' : α) (hx : Val true E x (.pointer (elt (oa o) m j off))) (hy : Val true E y u) (hu : u.cells = [u].toArray) [h1 : One [u]] [ht : TSize P T 1] [he : Enc enc m dv] [hn : NilOk o xs]
    [hc : Cut L o U (flat enc xs sp) L'] (hj : j < xs.length) (ho : off < m) {l2 : List Value} [ho2 : Ovr (enc (xs.getD j dv)) off [u] l2] (hen : enc x' = l2)
    (k : WL P n w0 L0 all rest E (rowL o U (flat enc (xs.set j x') sp) ++ L') Q) : WL P n w0 L0 all (⟨none, .store T x y, ty, pos, aft, none⟩ :: rest) E L Q := by
  have hen : enc x' = (enc (xs.getD j dv)).set off u := by
    have h1 := ho2.h.1
    rw [hen, h1, List.set_eq_take_append_cons_drop, if_pos (by rw [he.hm]; exact ho)]; simp
  cases o with
  | none => have := hn.h rfl; subst this; simp at hj
  | some b =>
    have hlen : j * m + off < (flat enc xs sp).length := by
      have := (flat_at he.hm dv xs j off hj ho).1
      rw [flat, List.length_append]; omega
    have hset := flat_set he.hm (u := u) xs sp j off x' hj ho (fun x hx => by rw [hen, List.getD_eq_getElem?_getD, hx]; rfl)
    refine W.skp (w' := fun w => w.setRow b (flat enc (xs.set j x') sp).toArray) rfl rfl (fun a w ha hw => ?_) k
    have hw' := hw.perm hc.h.symm
    have hb : w.heap[b]? = some (.cells (flat enc xs sp).toArray U (0, 0)) := hw'.has (b, .cells (flat enc xs sp).toArray U (0, 0)) (by simp [rowL])
    haveI hov : Ovr (flat enc xs sp) (j * m + off) [u] (flat enc (xs.set j x') sp) := ⟨by
      rw [← hset, List.set_eq_take_append_cons_drop, if_pos hlen]; simp, by simp; omega⟩
    have := run_store_ovr (P := P) (T := T) (o := j * m + off) hb (vs := [u]) (cs' := flat enc (xs.set j x') sp) (u := u) hu
    have hx' := hx.eval rfl ha
    simp only [elt, oa, Option.map_some, Nat.zero_add] at hx'
    exact ⟨by simp [execOp, Instr.storeAt, Instr.sureAddr, hx', hy.eval rfl ha, Sem.run_bind, this], hw'.setRow ⟨[], L', rfl, rfl⟩⟩
end
end Go.Proofs.YtfmdaijkgjkmpaaGreatDoor

set_option linter.unusedVariables false
set_option linter.unusedSimpArgs false
namespace Go.Proofs.YtfmdaijkgjkmpaaGreatDoor
open Go Go.RowKit
section
variable {P : Program} {d n : Nat} {w0 w : World} {L0 L L' : Heap} {all rest : List Oper} {E : Env} {Q : Post} {x y : Operand} {T T' U ty : TypeId} {pos : String} {aft : Array Edge} {g : Option (Nat × Bool)} {G : Bool}
theorem O.cvI8 {p : Int} {k : IntKind} [TInt P T k] [TInt P T' .u8] (hp : Pre n all E g d G := by exact ⟨rfl, rfl⟩) (hx : Val G E x (.int k p) := by first | exact vt rfl | exact vs rfl | exact vi rfl and1 | exact vi rfl (fun h => and1 (and1 h)) | exact vi rfl (by simp +contextual)) : QV P n w0 L0 all ⟨some d, .convert T T' x, ty, pos, aft, g⟩ E L d G (.int .u8 (byteOf p).toNat) := by
  have := O.cv (P := P) (T := T) (T' := T') (k := k) (k' := .u8) (p := p) (w0 := w0) (L0 := L0) (L := L) (ty := ty) (pos := pos) (aft := aft) hp hx
  rwa [show IntKind.u8.wrap p = ((byteOf p).toNat : Int) by rw [byteOf_toNat]; rfl] at this
theorem W.mkF {k1 k2 : IntKind} {p q : Int} [TBytes P T U] (hn : Nat.blt d n = true) (hx : Val true E x (.int k1 p)) (hy : Val true E y (.int k2 q)) (h : 0 ≤ p ∧ p ≤ q ∧ q ≤ 281474976710656)
    (k : ∀ b, WL P n w0 L0 all rest ((d, true, .slice (oa (some b)) p.toNat q.toNat) :: E) (rowL (some b) U (flat encB (List.replicate q.toNat 0) []) ++ L) Q) : WL P n w0 L0 all (⟨some d, .makeSlice T x y, ty, pos, aft, none⟩ :: rest) E L Q :=
  W.mkB hn hx hy h fun b => by
    have := k b
    rw [flat, flat_bytes, List.append_nil] at this
    exact this
/-- 'string(b)' of a row of bytes -/
theorem O.cvRow {a : Option Addr} {c m : Nat} {xs : List UInt8} {dv : UInt8} [ts : TSlice P T U] [tb : TInt P U .u8] [tt : TStr P T'] (hp : Pre n all E g d G := by exact ⟨rfl, rfl⟩) (hx : Val G E x (.slice a m c) := by first | exact vt rfl | exact vs rfl | exact vi rfl and1 | exact vi rfl (fun h => and1 (and1 h)) | exact vi rfl (by simp +contextual)) [r : RowL w0 L0 L a 1 UInt8 dv encB xs] (hm : m = xs.length) (hne : G = true → ∃ q, a = some q) :
    QV P n w0 L0 all ⟨some d, .convert T T' x, ty, pos, aft, g⟩ E L d G (.string (S xs)) :=
  O.val rfl hp (fun hG A w ha hw => by
    obtain ⟨q, rfl⟩ := hne hG
    subst hm
    have h := run_convert_bytes_back (P := P) w T T' U q c xs ts.h tb.h tt.h (fun j hj => by
      rcases r.h w hw with h0 | ⟨b, o, arr, U2, fz, e, hb, hc⟩
      · have := flat_bytes xs; rw [h0] at this
        have h1 : xs = [] := by simpa using this.symm
        subst h1; simp at hj
      · cases e
        have := hc j (by rw [flat_bytes, List.length_map]; exact hj)
        rw [flat_bytes, List.getElem?_map, List.getElem?_eq_getElem hj] at this
        rw [Addr.add_at]
        unfold World.cell?
        simp [hb, this])
    simp [execOp, hx.eval hG ha, Sem.run_bind, h, S])
end
theorem be_set {xs t : List UInt8} {i : Int} {u : UInt8} (h : xs = List.replicate (i + 1).toNat 0 ++ t) (hi : 0 ≤ i) : xs.set i.toNat u = List.replicate (i - 1 + 1).toNat 0 ++ u :: t := by
  obtain ⟨k, rfl⟩ := Int.eq_ofNat_of_zero_le hi
  have e1 : ((k : Int) + 1).toNat = k + 1 := by omega
  have e2 : ((k : Int) - 1 + 1).toNat = k := by omega
  rw [h, e1, e2, List.replicate_succ', List.append_assoc, Int.toNat_natCast, List.set_append_right _ _ (by simp)]
  simp
theorem be_step {x i : Int} (hi : 0 ≤ i) : beb x (i + 1).toNat = beb (x / 2 ^ (8 : Int).toNat) (i - 1 + 1).toNat ++ [byteOf x] := by
  obtain ⟨k, rfl⟩ := Int.eq_ofNat_of_zero_le hi
  have e1 : ((k : Int) + 1).toNat = k + 1 := by omega
  have e2 : ((k : Int) - 1 + 1).toNat = k := by omega
  rw [e1, e2]; rfl
structure BeS where
  i : Int
  v : Int
  xs : List UInt8
  t : List UInt8
set_option maxRecDepth 100000 in
theorem be_Bytes (v : Int) (n : Nat) (w : World) (hn : n ≤ 1000000000) : Fn Tryz.prog 113 [.int .i64 v, .int .i64 n] w [] fun r L' => r = .string (S (beb v n)) ∧ L' = [] := by
  refine Fn.enter Tryz.func113 rfl rfl rfl rfl (Holds.nil w) ?_
  refine CW.seq ?_
  refine CW.region ?_
  refine W.p O.as ?_
  refine WL.nil (Q.tn ?_)
  refine CW.seq ?_
  refine CW.region ?_
  refine W.p O.mv ?_
  refine W.mkF rfl (vt rfl) (vt rfl) (by first | omega | decide) fun b1 => ?_
  refine W.p O.as ?_
  refine WL.nil (Q.tn ?_)
  refine CW.seq ?_
  refine CW.seq ?_
  refine CW.region ?_
  refine W.p O.mv ?_
  first | refine W.p O.subN ?_ | refine W.p O.sub ?_
  refine W.p O.as ?_
  refine WL.nil (Q.tn ?_)
  refine CW.block ?_
  refine CW.loop (X := BeS) (fun x => [(0, true, .int .i64 x.v), (5, true, .slice (oa (some b1)) n n), (6, true, .int .i64 x.i)]) (fun x => rowL (some b1) 5 (flat encB x.xs [])) (fun x => -1 ≤ x.i ∧ x.i < n ∧ x.xs.length = n ∧ x.xs = List.replicate (x.i + 1).toNat 0 ++ x.t ∧ beb v n = beb x.v (x.i + 1).toNat ++ x.t) (fun x => (x.i + 1).toNat) ⟨(n : Int) - 1, v, List.replicate n 0, []⟩ ⟨by dsimp only; omega, by dsimp only; omega, by simp, by simp, by simp⟩ ⟨rfl, rfl, rfl, trivial⟩ (List.Sublist.refl _) ?_
  rintro ⟨i, x, xs, t⟩ ⟨hi0, hi1, hl, hx, he⟩
  dsimp only at hi0 hi1 hl hx he ⊢
  refine CW.seq ?_
  refine CW.seq ?_
  refine CW.region ?_
  refine W.p O.mv ?_
  refine W.p O.geq ?_
  refine WL.nil (Q.tn ?_)
  refine CW.cond (vt rfl) (fun hc1 => ?_) (fun hc1 => ?_)
  · try simp only [sk] at hc1
    refine CW.skip (Q.tn ?_)
    refine CW.seq ?_
    refine CW.block ?_
    refine CW.seq ?_
    refine CW.region ?_
    refine W.p O.mv ?_
    refine W.p O.mv ?_
    refine W.p O.mv ?_
    refine W.p O.cvI8 ?_
    refine W.p O.ixA ?_
    refine W.stE _ (vt rfl) (vt rfl) rfl (by first | omega | (simp only [decide_eq_true_eq, decide_eq_false_iff_not] at *; omega)) (by decide) (by rfl) ?_
    refine WL.nil (Q.tn ?_)
    refine CW.region ?_
    refine W.p O.mv ?_
    refine W.p O.shr ?_
    refine W.p O.as ?_
    refine WL.nil (Q.bn (Q.tn ?_))
    refine CW.region ?_
    refine W.p O.mv ?_
    first | refine W.p O.subN ?_ | refine W.p O.sub ?_
    refine W.p O.as ?_
    refine WL.nil (Q.tn ?_)
    refine ⟨⟨i - 1, _, xs.set i.toNat (byteOf x), byteOf x :: t⟩, ⟨?_, ?_, ?_, ?_, ?_⟩, ?_, ⟨rfl, rfl, rfl, trivial⟩, List.Sublist.refl _⟩
    all_goals have hc := hc1
    · dsimp only; omega
    · dsimp only; omega
    · simpa using hl
    · exact be_set hx hc
    · rw [he, be_step hc, List.append_assoc]; rfl
    · dsimp only; omega
  try simp only [sk] at hc1
  refine CW.exit (Q.te (Q.te (Q.bx (Q.tn ?_))))
  refine CW.seq ?_
  refine CW.region ?_
  refine W.p O.mv ?_
  refine W.p (O.cvRow ⟨rfl, rfl⟩ (vt rfl) (by first | rfl | omega) (fun _ => ⟨_, rfl⟩)) ?_
  refine W.p O.as ?_
  refine WL.nil (Q.tn ?_)
  refine CW.ret ?_
  refine ⟨_, [], (RVs.tmp rfl RVs.nil), List.nil_sublist _, ?_⟩
  have hc := hc1
  have e0 : (i + 1).toNat = 0 := by omega
  rw [e0] at hx he
  exact ⟨by rw [hx, he]; rfl, rfl⟩
end Go.Proofs.YtfmdaijkgjkmpaaGreatDoor

set_option linter.unusedVariables false
set_option linter.unusedSimpArgs false
namespace Go.Proofs.YtfmdaijkgjkmpaaGreatDoor
open Go Go.RowKit Go.MapKept
set_option linter.unusedSectionVars false
section
variable {κ β : Type} [DecidableEq κ] {ek : κ → Value} {ev : β → Value}
def ments (ek : κ → Value) (ev : β → Value) : List (κ × β) → Nat → List MapEntry
  | [], _ => []
  | (k, v) :: r, i => ⟨ek k, ev v, i⟩ :: ments ek ev r (i + 1)
def mfind (k : κ) : List (κ × β) → Option (Nat × β)
  | [] => none
  | (k', v) :: r => if k = k' then some (0, v) else (mfind k r).map fun x => (x.1 + 1, x.2)
def mput (l : List (κ × β)) (k : κ) (v : β) : List (κ × β) := match mfind k l with | some (i, _) => l.set i (k, v) | none => l ++ [(k, v)]
def mget (l : List (κ × β)) (k : κ) : Option β := (mfind k l).map (·.2)
theorem mfind_set {k : κ} {v : β} : ∀ {l : List (κ × β)} {i : Nat} {u : β}, mfind k l = some (i, u) → ∀ k', mget (l.set i (k, v)) k' = if k' = k then some v else mget l k'
  | [], _, _, h, _ => by simp [mfind] at h
  | (k0, v0) :: r, i, u, h, k' => by
    simp only [mfind] at h
    split at h
    · rename_i e
      simp only [Option.some.injEq, Prod.mk.injEq] at h
      obtain ⟨rfl, rfl⟩ := h
      subst e
      simp only [List.set_cons_zero, mget, mfind]
      by_cases e : k' = k <;> simp [e]
    · rename_i e
      cases hf : mfind k r with
      | none => simp [hf] at h
      | some q =>
        simp only [hf, Option.map_some, Option.some.injEq, Prod.mk.injEq] at h
        obtain ⟨rfl, rfl⟩ := h
        have ih := mfind_set (v := v) hf k'
        simp only [mget] at ih
        simp only [List.set_cons_succ, mget, mfind]
        by_cases e' : k' = k0
        · have : k' ≠ k := fun x => e (x ▸ e')
          subst e'; simp [this]
        · simp only [e', if_false, Option.map_map]
          exact ih
theorem mfind_none_app {k k' : κ} {v : β} : ∀ {l : List (κ × β)}, mfind k l = none → mget (l ++ [(k, v)]) k' = if k' = k then some v else mget l k'
  | [], _ => by simp only [List.nil_append, mget, mfind]; by_cases e : k' = k <;> simp [e]
  | (k0, v0) :: r, h => by
    simp only [mfind] at h
    split at h
    · cases h
    · rename_i e
      have h' : mfind k r = none := by simpa using h
      have ih := mfind_none_app (k' := k') (v := v) h'
      simp only [mget] at ih
      simp only [List.cons_append, mget, mfind]
      by_cases e' : k' = k0
      · have : k' ≠ k := fun x => e (x ▸ e')
        subst e'
        simp [this]
      · simp only [e', if_false, Option.map_map]
        exact ih
theorem mget_mput (l : List (κ × β)) (k k' : κ) (v : β) : mget (mput l k v) k' = if k' = k then some v else mget l k' := by
  unfold mput
  cases h : mfind k l with
  | none => exact mfind_none_app h
  | some q => obtain ⟨i, u⟩ := q; exact mfind_set h k'
theorem ments_app : ∀ (l : List (κ × β)) (k : κ) (v : β) (i : Nat), ments ek ev (l ++ [(k, v)]) i = ments ek ev l i ++ [⟨ek k, ev v, i + l.length⟩]
  | [], _, _, _ => rfl
  | (k0, v0) :: r, k, v, i => by simp only [List.cons_append, ments, ments_app r, List.length_cons]; simp; omega
theorem ments_set : ∀ (l : List (κ × β)) (k : κ) (v : β) (i j : Nat), (ments ek ev l i).modify j (fun e => { e with key := ek k, val := ev v }) = ments ek ev (l.set j (k, v)) i
  | [], _, _, _, j => by cases j <;> rfl
  | (k0, v0) :: r, k, v, i, 0 => rfl
  | (k0, v0) :: r, k, v, i, j + 1 => by simp only [ments, List.modify_succ_cons, List.set_cons_succ, ments_set r]
theorem ments_get : ∀ (l : List (κ × β)) (k : κ) (i j : Nat) (v : β), mfind k l = some (j, v) → ∃ e, (ments ek ev l i)[j]? = some e ∧ e.key = ek k
  | [], _, _, _, _, h => by simp [mfind] at h
  | (k0, v0) :: r, k, i, j, v, h => by
    simp only [mfind] at h
    split at h
    · rename_i e; simp only [Option.some.injEq, Prod.mk.injEq] at h; obtain ⟨rfl, rfl⟩ := h; exact ⟨_, rfl, by rw [e]⟩
    · cases hf : mfind k r with
      | none => simp [hf] at h
      | some q =>
        simp only [hf, Option.map_some, Option.some.injEq, Prod.mk.injEq] at h
        obtain ⟨rfl, rfl⟩ := h
        obtain ⟨e, h1, h2⟩ := ments_get r k (i + 1) q.1 q.2 hf
        exact ⟨e, by simpa [ments] using h1, h2⟩
class KeyEnc (P : Program) (K : TypeId) (ek : κ → Value) : Prop where
  chk : ∀ (e : Bool) (x : κ) (w : World), (Instr.checkKey e 10000 K (ek x)).run P w = .ok () w
  find : ∀ (β : Type) (ev : β → Value) (x : κ) (l : List (κ × β)) (w : World), (Instr.findKey K (ek x) (ments ek ev l 0)).run P w = .ok ((mfind x l).map fun r => (r.1, ev r.2)) w
  bits : ∀ x, Instr.sameBits 10000 (ek x) (ek x) = true
theorem find_ents {d : TypeDesc} (hs : ∀ x y : κ, Instr.sameNow d (ek x) (ek y) = some (decide (x = y))) (k : κ) : ∀ (l : List (κ × β)) (n i : Nat), Instr.findNow d (ek k) (ments ek ev l n) i = some ((mfind k l).map fun x => (i + x.1, ev x.2))
  | [], _, _ => rfl
  | (k', v) :: r, n, i => by
    simp only [ments, Instr.findNow, hs, mfind]
    by_cases h : k = k'
    · simp [h]
    · simp only [h, decide_false, if_false, find_ents hs k r (n + 1) (i + 1), Option.map_map]
      congr 2; funext x; simp; omega
theorem KeyEnc.of {P : Program} {K : TypeId} {d : TypeDesc} (hK : P.underlying K = some d) (hk : ∀ x, IsKey d (ek x)) (hs : ∀ x y : κ, Instr.sameNow d (ek x) (ek y) = some (decide (x = y))) (hb : ∀ x, Instr.sameBits 10000 (ek x) (ek x) = true) : KeyEnc P K ek :=
  ⟨fun e x w => Go.MapKept.run_checkKey hK (hk x) e 9999, fun β ev x l w => by
    have := Go.MapKept.run_findKey (P := P) (w := w) hK (find_ents (ev := ev) hs x l 0 0)
    simpa using this, hb⟩
end
abbrev kI : Int → Value := fun i => .int .i64 i
abbrev kS : List UInt8 → Value := fun s => .string (S s)
abbrev kT : List UInt8 → Value := fun s => .agg [.string (S s)].toArray
abbrev vB : Bool → Value := fun b => .bool b
instance {P : Program} {K : TypeId} [h : TInt P K .i64] : KeyEnc P K kI := KeyEnc.of h.h (fun x => rfl) (fun x y => by simp [Instr.sameNow, beq_dec]) (fun x => by simp [Instr.sameBits])
theorem S_beq (x y : List UInt8) : (S x == S y) = decide (x = y) := by
  have e : (S x == S y) = ((S x).data == (S y).data) := rfl
  rw [e, beq_dec]; simp [S]
instance {P : Program} {K : TypeId} [h : TStr P K] : KeyEnc P K kS := KeyEnc.of h.h (fun x => trivial) (fun x y => by simp only [Instr.sameNow, S_beq]) (fun x => by simp [Instr.sameBits, S_beq])
/-- a struct of one text as a key -/
class TSpot (P : Program) (K : TypeId) : Prop where
  f : ∃ f : Field, P.underlying K = some (.struct #[f]) ∧ f.offset = 0 ∧ P.underlying f.type = some .string
instance {P : Program} {K : TypeId} [h : TSpot P K] [hf : TFlat P K [.s]] : KeyEnc P K kT := ⟨fun e x w => by
    obtain ⟨f, h1, h2, h3⟩ := h.f
    have ha : aggB P f.type = some false := by simp [aggB, h3]
    have hp := part_one (P := P) (w := w) (xs0 := [Value.string (S x)]) (i := 0) ha rfl
    have hc : (Instr.checkKey e (9998 + 1) f.type (.string (S x))).run P w = .ok () w := Go.MapKept.run_checkKey (k := .string (S x)) h3 trivial e 9998
    show (Instr.checkKey e (9999 + 1) K (.agg [Value.string (S x)].toArray)).run P w = _
    unfold Instr.checkKey
    rw [Sem.run_bind, run_underlying h1]
    simp only [Result.andThen_ok]
    simp [Sem.run_bind, h2, hp, hc]
    , fun β ev x l w => by
    obtain ⟨f, h1, h2, h3⟩ := h.f
    have heq : ∀ (x y : List UInt8), (Op.equal K (kT x) (kT y)).run P w = .ok (decide (x = y)) w := fun x y => run_equal_flat (P := P) (T := K) (ks := [.s]) (by simp [eqK])
    have ask : ∀ (l : List (List UInt8 × β)) (n i : Nat), (Instr.findAsking K (kT x) (ments kT ev l n) i).run P w = .ok ((mfind x l).map fun r => (i + r.1, ev r.2)) w := by
      intro l
      induction l with
      | nil => intro n i; simp [ments, Instr.findAsking, mfind]
      | cons p r ih =>
        obtain ⟨k', v⟩ := p
        intro n i
        simp only [ments, Instr.findAsking, Sem.run_bind, heq, Result.andThen_ok, mfind]
        by_cases e : x = k'
        · simp [e]
        · simp only [e, decide_false, if_false, Bool.false_eq_true, ih, Option.map_map]
          congr 2; funext x; simp; omega
    unfold Instr.findKey
    rw [Sem.run_bind, run_underlying h1]
    simp only [Result.andThen_ok]
    cases l with
    | nil => simp [ments, Instr.findNow, mfind]
    | cons p r =>
      have e : Instr.findNow (.struct #[f]) (kT x) (ments kT ev (p :: r) 0) 0 = none := by obtain ⟨a, b⟩ := p; rfl
      rw [e]
      have := ask (p :: r) 0 0
      simpa using this, fun x => by simp [Instr.sameBits, S_beq]⟩
section
variable {κ β : Type} [DecidableEq κ] {ek : κ → Value} {ev : β → Value}
abbrev mObj (ek : κ → Value) (ev : β → Value) (l : List (κ × β)) : Obj := .map (ments ek ev l 0).toArray l.length
variable {P : Program} {d n : Nat} {w0 w : World} {L0 L L' : Heap} {all rest : List Oper} {E : Env} {Q : Post} {x y z : Operand} {T K U ty : TypeId} {pos : String} {aft : Array Edge} {g : Option (Nat × Bool)} {G : Bool}
theorem W.mm (ek : κ → Value) (ev : β → Value) [TMap P T K U] (hn : Nat.blt d n = true)
    (k : ∀ b, WL P n w0 L0 all rest ((d, true, .map (some b)) :: E) ((b, mObj ek ev []) :: L) Q) : WL P n w0 L0 all (⟨some d, .makeMap T none, ty, pos, aft, none⟩ :: rest) E L Q :=
  W.new (v := fun b => .map (some b)) rfl rfl hn (fun a w ha _ => by
    have : (Instr.makeMap T none).run P w = .ok (.map (some w.heap.size)) (w.alloc (.map #[] 0)) := by simp [Instr.makeMap, Result.andThen]
    simp [execOp, Sem.run_bind, this, mObj, ments]) k
theorem run_look {l : List (κ × β)} {k : κ} {b : Nat} {w : World} {zv : Value} {ok : Bool} (dz : β) [hT : TMap P T K U] [hK : KeyEnc P K ek] [hZ : TZero P U zv] (hb : w.heap[b]? = some (mObj ek ev l)) (hz : zv = ev dz) :
    (Instr.lookup T (.map (some b)) (ek k) ok).run P w = .ok (if ok then .tuple #[ev ((mget l k).getD dz), .bool (mget l k).isSome] else ev ((mget l k).getD dz)) w := by
  have h1 := Go.MapKept.run_getObj_map (P := P) (w := w) hb
  have h2 := fun e => hK.chk e k w
  have h3 := hK.find β ev k l w
  have h4 := hZ.run (P := P) (T := U) w
  subst hz
  cases hf : mfind k l with
  | none => cases ok <;> simp [Instr.lookup, Sem.run_bind, run_underlying hT.h, h1, h2, h3, h4, hf, mget]
  | some r => cases ok <;> simp [Instr.lookup, Sem.run_bind, run_underlying hT.h, h1, h2, h3, h4, hf, mget]
theorem O.lk {l : List (κ × β)} {k : κ} {b : Nat} {zv : Value} (dz : β) [hT : TMap P T K U] [hK : KeyEnc P K ek] [hZ : TZero P U zv] (hp : Pre n all E g d G := by exact ⟨rfl, rfl⟩) (hx : Val G E x (.map (some b)) := by first | exact vt rfl | exact vs rfl) [hb : Blk L b (mObj ek ev l)] (hy : Val G E y (ek k) := by first | exact vt rfl | exact vs rfl) (hz : zv = ev dz := by rfl) :
    QV P n w0 L0 all ⟨some d, .lookup T x y false, ty, pos, aft, g⟩ E L d G (ev ((mget l k).getD dz)) :=
  O.val rfl hp (fun hG a w ha hw => by
    have := run_look (P := P) (T := T) (K := K) (U := U) (ok := false) dz (hw.has _ hb.h) (k := k) hz
    simp only [execOp, hx.eval hG ha, hy.eval hG ha]
    simp [Sem.run_bind, this])
theorem O.lkT {l : List (κ × β)} {k : κ} {b : Nat} {zv : Value} (dz : β) [hT : TMap P T K U] [hK : KeyEnc P K ek] [hZ : TZero P U zv] (hp : Pre n all E g d G := by exact ⟨rfl, rfl⟩) (hx : Val G E x (.map (some b)) := by first | exact vt rfl | exact vs rfl) [hb : Blk L b (mObj ek ev l)] (hy : Val G E y (ek k) := by first | exact vt rfl | exact vs rfl) (hz : zv = ev dz := by rfl) :
    QV P n w0 L0 all ⟨some d, .lookup T x y true, ty, pos, aft, g⟩ E L d G (.tuple #[ev ((mget l k).getD dz), .bool (mget l k).isSome]) :=
  O.val rfl hp (fun hG a w ha hw => by
    have := run_look (P := P) (T := T) (K := K) (U := U) (ok := true) dz (hw.has _ hb.h) (k := k) hz
    simp only [execOp, hx.eval hG ha, hy.eval hG ha]
    simp [Sem.run_bind, this])
/-- a block turned -/
theorem Upd.set {w0 w : World} {L0 L L' : Heap} (h : Upd w0 L0 w L) {b : Nat} {o o' : Obj} (hr : Rep L b o o' L') : Upd w0 L0 { w with heap := w.heap.setIfInBounds b o' } L' := by
  obtain ⟨A, B, rfl, rfl⟩ := hr.h
  have hb : w.heap[b]? = some o := h.has (b, _) (by simp)
  have hlt : b < w.heap.size := (Array.getElem?_eq_some_iff.1 hb).1
  have hnd := h.nd
  simp only [List.map_append, List.map_cons] at hnd
  rw [List.nodup_append] at hnd
  simp only [List.nodup_cons] at hnd
  have hA : ∀ p ∈ A, p.1 ≠ b := fun p hp e => hnd.2.2 p.1 (List.mem_map_of_mem hp) b (by simp) e
  have hB : ∀ p ∈ B, p.1 ≠ b := fun p hp e => hnd.2.1.1 (e ▸ List.mem_map_of_mem hp)
  have oth : ∀ k, k ≠ b → (w.heap.setIfInBounds b o')[k]? = w.heap[k]? := fun k hk => by simp [Array.getElem?_setIfInBounds, Ne.symm hk]
  refine ⟨h.os, h.tape, h.output, by simpa using h.size, ?_, ?_, ?_, ?_⟩
  · intro k hk hn
    show (w.heap.setIfInBounds b o')[k]? = _
    rw [oth k (fun e => ?_)]
    · exact h.old k hk hn
    · subst e
      rcases h.own (k, _) (by simp : (k, o) ∈ A ++ (k, o) :: B) with hm | hm
      · exact hn hm
      · exact absurd hk (by simp at hm; omega)
  · intro p hp
    show (w.heap.setIfInBounds b o')[p.1]? = _
    rcases List.mem_append.1 hp with hp | hp
    · rw [oth p.1 (hA p hp)]; exact h.has p (by simp [hp])
    · rcases List.mem_cons.1 hp with rfl | hp
      · simp [Array.getElem?_setIfInBounds, hlt]
      · rw [oth p.1 (hB p hp)]; exact h.has p (by simp [hp])
  · intro p hp
    rcases List.mem_append.1 hp with hp | hp
    · exact h.own p (by simp [hp])
    · rcases List.mem_cons.1 hp with rfl | hp
      · exact h.own (b, o) (by simp)
      · exact h.own p (by simp [hp])
  · have := h.nd
    simpa using this
theorem run_upd {l : List (κ × β)} {k : κ} {v : β} {b : Nat} {w : World} [hT : TMap P T K U] [hK : KeyEnc P K ek] (hb : w.heap[b]? = some (mObj ek ev l)) :
    (Instr.mapUpdate T (.map (some b)) (ek k) (ev v)).run P w = .ok () { w with heap := w.heap.setIfInBounds b (mObj ek ev (mput l k v)) } := by
  have h1 := Go.MapKept.run_getObj_map (P := P) (w := w) hb
  have h2 := fun e => hK.chk e k w
  have h3 := hK.find β ev k l w
  have h4 := fun o => Go.MapKept.run_setObj_map (P := P) (w := w) o hb
  cases hf : mfind k l with
  | none => simp [Instr.mapUpdate, Sem.run_bind, run_underlying hT.h, h1, h2, h3, h4, hf, mput, mObj, ments_app]
  | some r =>
    obtain ⟨j, u⟩ := r
    obtain ⟨e, g1, g2⟩ := ments_get (ek := ek) (ev := ev) l k 0 j u hf
    have hs : (Instr.keyThatStays (ek k) (ek k)).run P w = .ok (ek k) w := by simp [Instr.keyThatStays, hK.bits]
    simp [Instr.mapUpdate, Sem.run_bind, run_underlying hT.h, h1, h2, h3, h4, hf, mput, mObj, g1, g2, hs, ments_set]
theorem W.mu {l : List (κ × β)} {k : κ} {v : β} {b : Nat} [hT : TMap P T K U] [hK : KeyEnc P K ek] (hx : Val true E x (.map (some b))) [hb : Blk L b (mObj ek ev l)] (hy : Val true E y (ek k)) (hz : Val true E z (ev v)) [hr : Rep L b (mObj ek ev l) (mObj ek ev (mput l k v)) L']
    (kk : WL P n w0 L0 all rest E L' Q) : WL P n w0 L0 all (⟨none, .mapUpdate T x y z, ty, pos, aft, none⟩ :: rest) E L Q :=
  W.skp (w' := fun w => { w with heap := w.heap.setIfInBounds b (mObj ek ev (mput l k v)) }) rfl rfl (fun a w ha hw => by
    have := run_upd (P := P) (T := T) (K := K) (U := U) (k := k) (v := v) (hw.has _ hb.h)
    refine ⟨?_, hw.set hr⟩
    simp only [execOp, hx.eval rfl ha, hy.eval rfl ha, hz.eval rfl ha]
    simp [Sem.run_bind, this]) kk
end
end Go.Proofs.YtfmdaijkgjkmpaaGreatDoor

set_option linter.unusedVariables false
set_option linter.unusedSimpArgs false
namespace Go.Proofs.YtfmdaijkgjkmpaaGreatDoor
open Go Go.RowKit
/-- where a part of a heap stands -/
class Seg (L Lf : Heap) (k : outParam (Heap → Heap)) : Prop where
  h : ∃ A B, L = A ++ (Lf ++ B) ∧ ∀ X, k X = A ++ (X ++ B)
instance (priority := high) Seg.all {L : Heap} : Seg L L (fun X => X) := ⟨[], [], by simp, fun X => by simp⟩
instance (priority := high) Seg.head {L M : Heap} : Seg (L ++ M) L (fun X => X ++ M) := ⟨[], M, by simp, fun X => by simp⟩
instance (priority := high) Seg.one {p : Nat × Obj} {M : Heap} : Seg (p :: M) [p] (fun X => X ++ M) := ⟨[], M, by simp, fun X => by simp⟩
instance Seg.tail {p : Nat × Obj} {L Lf : Heap} {k : Heap → Heap} [h : Seg L Lf k] : Seg (p :: L) Lf (fun X => p :: k X) := ⟨by
  obtain ⟨A, B, h1, h2⟩ := h.h; exact ⟨p :: A, B, by simp [h1], fun X => by simp [h2]⟩⟩
instance Seg.app {M L Lf : Heap} {k : Heap → Heap} [h : Seg L Lf k] : Seg (M ++ L) Lf (fun X => M ++ k X) := ⟨by
  obtain ⟨A, B, h1, h2⟩ := h.h; exact ⟨M ++ A, B, by simp [h1], fun X => by simp [h2]⟩⟩
instance Seg.appl {M L Lf : Heap} {k : Heap → Heap} [h : Seg M Lf k] : Seg (M ++ L) Lf (fun X => k X ++ L) := ⟨by
  obtain ⟨A, B, h1, h2⟩ := h.h; exact ⟨A, B ++ L, by simp [h1], fun X => by simp [h2]⟩⟩
theorem seg_perm (A B X : Heap) : (A ++ (X ++ B)).Perm (X ++ (A ++ B)) := by
  rw [← List.append_assoc, ← List.append_assoc]
  exact List.Perm.append_right B List.perm_append_comm
theorem WL.perm {P : Program} {n : Nat} {w0 : World} {L0 : Heap} {all c : List Oper} {E : Env} {L L' : Heap} {Q : Post} (hp : L.Perm L') (h : WL P n w0 L0 all c E L' Q) : WL P n w0 L0 all c E L Q :=
  fun a w ha hw => h a w ha (hw.perm hp.symm)
section
variable {P : Program} {n : Nat} {w0 : World} {L0 : Heap} {all rest : List Oper} {E : Env} {L : Heap} {Q : Post}
variable {d : Nat} {x : Operand} {ty : TypeId} {pos : String} {aft : Array Edge}
theorem W.callS {f : FuncId} {xs : List Operand} {us first cap : List Value} {Ts : Array TypeId} {R : Value → Heap → Prop} {kk : Heap → Heap} [ht : TBody P f] (Lf : Heap)
    (hn : Nat.blt d n = true) (hx : Val true E x (.func (.func f) first.toArray cap.toArray)) (hv : AV true E xs us) [hs : Seg L Lf kk]
    (hc : ∀ w, Upd w0 L0 w L → Holds Lf w → Fn P f (first ++ us ++ cap) w Lf R)
    (k : ∀ v L', R v L' → WL P n w0 L0 all rest ((d, true, v) :: E) (kk L') Q) : WL P n w0 L0 all (⟨some d, .call ⟨.value x, xs.toArray, Ts⟩, ty, pos, aft, none⟩ :: rest) E L Q := by
  obtain ⟨A, B, h1, h2⟩ := hs.h
  subst h1
  refine W.call Lf (A ++ B) hn hx hv (seg_perm A B Lf) hc fun v L' hR => WL.perm ?_ (k v L' hR)
  rw [h2]; exact (seg_perm A B L').symm
/-- a call that is handed nothing of the heap -/
theorem W.callN {f : FuncId} {xs : List Operand} {us first cap : List Value} {Ts : Array TypeId} {R : Value → Heap → Prop} [ht : TBody P f]
    (hn : Nat.blt d n = true) (hx : Val true E x (.func (.func f) first.toArray cap.toArray)) (hv : AV true E xs us)
    (hc : ∀ w, Upd w0 L0 w L → Fn P f (first ++ us ++ cap) w [] R)
    (k : ∀ v L', R v L' → WL P n w0 L0 all rest ((d, true, v) :: E) (L' ++ L) Q) : WL P n w0 L0 all (⟨some d, .call ⟨.value x, xs.toArray, Ts⟩, ty, pos, aft, none⟩ :: rest) E L Q :=
  W.call [] L hn hx hv (List.Perm.refl _) (fun w hw _ => hc w hw) k
end
/-- a slice that is made anew -/
def Fresh {α : Type} (enc : α → List Value) (U : TypeId) (m : Nat) (xs : List α) (v : Value) (L : Heap) : Prop :=
  ∃ o c sp, v = .slice (oa o) xs.length c ∧ OwnOk o c m xs.length (List.length sp) ∧ L = rowL o U (flat enc xs sp)
/-- a row within an owned block -/
theorem In.cut {w0 w : World} {L0 L L' : Heap} {α : Type} {enc : α → List Value} {o : Option Nat} {U : TypeId} {xs : List α} {sp : List Value} (hw : Upd w0 L0 w L) [hc : Cut L o U (flat enc xs sp) L'] [hn : NilOk o xs] : In w (oa o) (xs.flatMap enc) := by
  cases o with
  | none => rw [hn.h rfl]; exact .inl rfl
  | some b =>
    have h := (hw.perm hc.h.symm).has (b, .cells (flat enc xs sp).toArray U (0, 0)) (by simp [rowL])
    exact .inr ⟨b, 0, _, U, _, rfl, h, fun k hk => by
      simp only [Nat.zero_add, List.getElem?_toArray, flat]
      exact List.getElem?_append_left hk⟩
theorem In.pre {w : World} {a : Option Addr} {xs ys : List Value} (h : In w a (xs ++ ys)) : In w a xs := by
  rcases h with h | ⟨b, o, arr, U, fz, h1, h2, h3⟩
  · exact .inl (List.append_eq_nil_iff.1 h).1
  · exact .inr ⟨b, o, arr, U, fz, h1, h2, fun k hk => by
      rw [h3 k (by simp; omega), List.getElem?_append_left hk]⟩
theorem In.nil {w : World} {a : Option Addr} : In w a [] := .inl rfl
end Go.Proofs.YtfmdaijkgjkmpaaGreatDoor

set_option linter.unusedVariables false
set_option linter.unusedSimpArgs false
namespace Go.Proofs.YtfmdaijkgjkmpaaGreatDoor
open Go Go.RowKit
class TArr (P : Program) (T : TypeId) (n : outParam Nat) (e : outParam TypeId) : Prop where h : P.underlying T = some (.array n e)
instance : TArr Tryz.prog 121 4 3 := ⟨by kernel_rfl⟩
instance : TArr Tryz.prog 204 24 5 := ⟨by kernel_rfl⟩
instance : TArr Tryz.prog 224 20 163 := ⟨by kernel_rfl⟩
instance : TArr Tryz.prog 225 65 5 := ⟨by kernel_rfl⟩
instance : TArr Tryz.prog 234 256 5 := ⟨by kernel_rfl⟩
instance : TArr Tryz.prog 237 16 236 := ⟨by kernel_rfl⟩
instance : TArr Tryz.prog 238 32 5 := ⟨by kernel_rfl⟩
instance : TArr Tryz.prog 239 64 5 := ⟨by kernel_rfl⟩
instance : TArr Tryz.prog 242 0 16 := ⟨by kernel_rfl⟩
section
variable {P : Program} {d n : Nat} {w0 w : World} {L0 L L' : Heap} {all rest : List Oper} {E : Env} {Q : Post} {x y : Operand} {T U V ty : TypeId} {pos : String} {aft : Array Edge} {g : Option (Nat × Bool)} {G : Bool} {fz : Nat × Nat} {m : Nat}
theorem r_ixR {ρ : Operand → Value} {D : Option Tmp} {q : Addr} {len m : Nat} {i : Int} {k : IntKind} (hx : ρ x = .pointer (some q)) (hy : ρ y = .int k i) [hT : TArr P T len U] [hU : TSize P U m] (h0 : 0 ≤ i) (h1 : i < len) :
    (execOp ρ ⟨D, .indexAddr T x y, ty, pos, aft, g⟩).run P w = .ok (.value (.pointer (some (q.add (i.toNat * m))))) w := by
  simp [execOp, hx, hy, Instr.indexAt, asIntOf, go_sem, Sem.run_bind, run_underlying hT.h, h0, h1, TSize.run (T := U) w]
theorem O.ixR {b len m : Nat} {i : Int} {k : IntKind} [hT : TArr P T len U] [hU : TSize P U m] (hp : Pre n all E g d G := by exact ⟨rfl, rfl⟩) (hx : Val G E x (.pointer (some ⟨b, 0, none⟩)) := by first | exact vt rfl | exact vs rfl | exact vi rfl and1 | exact vi rfl (by simp +contextual)) (hy : Val G E y (.int k i) := by first | exact vt rfl | exact vs rfl | exact vi rfl and1 | exact vi rfl (by simp +contextual)) (h : G = true → 0 ≤ i ∧ i < len := by (intro hg; first | omega | (simp only [cond_true, cond_false, Bool.true_and, Bool.cond_false_right, Bool.cond_true_left, Bool.and_eq_true, Bool.or_eq_true, Bool.not_eq_true', Bool.not_eq_false', Bool.or_eq_false_iff, decide_eq_true_eq, decide_eq_false_iff_not, ← List.length_eq_zero_iff] at *; omega))) :
    QV P n w0 L0 all ⟨some d, .indexAddr T x y, ty, pos, aft, g⟩ E L d G (.pointer (some ⟨b, i.toNat * m, none⟩)) :=
  O.val rfl hp (fun hG A w ha hw => by
    have h1 := h hG
    have hx' := hx.eval hG ha
    have hy' := hy.eval hG ha
    rw [r_ixR (m := m) hx' hy' h1.1 h1.2, Addr.add_at, Nat.zero_add])
/-- a cell at a place that is a number of the proof -/
theorem O.ldA {β : Type} {f : β → Value} {b j : Nat} {l : List β} [TScal P T] (dv : β) (hp : Pre n all E g d G := by exact ⟨rfl, rfl⟩) (hx : Val G E x (.pointer (some ⟨b, j, none⟩)) := by first | exact vt rfl | exact vs rfl | exact vi rfl and1 | exact vi rfl (by simp +contextual)) (hb : Blk L b (.cells (l.map f).toArray U fz) := by infer_instance) (h : G = true → j < l.length) :
    QV P n w0 L0 all ⟨some d, .load T x, ty, pos, aft, g⟩ E L d G (f (l.getD j dv)) :=
  O.val rfl hp (fun hG a w ha hw => by
    have hv : (l.map f)[j]? = some (f (l.getD j dv)) := by
      rw [List.getElem?_map, List.getD_eq_getElem?_getD, List.getElem?_eq_getElem (h hG)]; rfl
    have := run_load_one (P := P) (T := T) (hw.has _ hb.h) hv
    simp [execOp, Instr.loadAt, Instr.sureAddr, hx.eval hG ha, Sem.run_bind, this])
theorem W.stA {β : Type} {f : β → Value} {b j : Nat} {l : List β} (v : β) (hx : Val true E x (.pointer (some ⟨b, j, none⟩))) (hy : Val true E y (f v)) [hb : Blk L b (.cells (l.map f).toArray U (0, 0))] (hu : (f v).cells = [f v].toArray) (h1 : (f v).oneCell' = true) [ht : TSize P T 1] (hj : j < l.length)
    [hr : Rep L b (.cells (l.map f).toArray U (0, 0)) (.cells ((l.set j v).map f).toArray U (0, 0)) L']
    (k : WL P n w0 L0 all rest E L' Q) : WL P n w0 L0 all (⟨none, .store T x y, ty, pos, aft, none⟩ :: rest) E L Q := by
  haveI : One [f v] := ⟨fun u hu => by simp at hu; subst hu; exact h1⟩
  haveI : Ovr (l.map f) j [f v] ((l.set j v).map f) := ⟨by
    rw [List.map_set, List.set_eq_take_append_cons_drop, if_pos (by simpa using hj)]; simp, by simp; omega⟩
  exact W.st hx hy hu k
theorem r_slH {ρ : Operand → Value} {D : Option Tmp} {a : Option Addr} {len cap : Nat} {j : Int} {k : IntKind} {z : Operand} (hx : ρ x = .slice a len cap) (hz : ρ z = .int k j) [hT : TSlice P T U] [hU : TSize P U m] (h0 : 0 ≤ j) (h1 : j ≤ cap) :
    (execOp ρ ⟨D, .slice T x none (some z) none, ty, pos, aft, g⟩).run P w = .ok (.value (.slice a j.toNat cap)) w := by
  have e : (if cap = 0 then a else a.map (·.add 0)) = a := by
    split
    · rfl
    · cases a with | none => rfl | some q => simp [Addr.add_zero']
  simp [execOp, go_sem, run_underlying hT.h, Instr.sliceAt, Instr.slice, Instr.sliceBounds, Instr.sliceBound, asIntOf, hx, hz, h0, h1, TSize.run (T := U) w, Sem.run_bind]
/-- a slice's beginning -/
theorem O.slH {a : Option Addr} {len cap : Nat} {j : Int} {k : IntKind} {z : Operand} [hT : TSlice P T U] [hU : TSize P U m] (hp : Pre n all E g d G := by exact ⟨rfl, rfl⟩) (hx : Val G E x (.slice a len cap) := by first | exact vt rfl | exact vs rfl) (hz : Val G E z (.int k j) := by first | exact vt rfl | exact vs rfl) (h : G = true → 0 ≤ j ∧ j ≤ cap := by (intro _; omega)) :
    QV P n w0 L0 all ⟨some d, .slice T x none (some z) none, ty, pos, aft, g⟩ E L d G (.slice a j.toNat cap) :=
  O.val rfl hp (fun hG A w ha hw => r_slH (U := U) (m := m) (hx.eval hG ha) (hz.eval hG ha) (h hG).1 (h hG).2)
/-- a slice of nothing -/
theorem W.bs0 {α : Type} (enc : α → List Value) {zv : Value} {m : Nat} [hT : TSlice P T U] [hU : TSize P U m] [hZ : TZero P U zv] (hn : Nat.blt d n = true)
    (k : ∀ b, WL P n w0 L0 all rest ((d, true, .slice (oa (some b)) 0 0) :: E) (rowL (some b) U (flat enc [] []) ++ L) Q) : WL P n w0 L0 all (⟨some d, .buildSlice T 0 #[], ty, pos, aft, none⟩ :: rest) E L Q :=
  W.new (v := fun b => .slice (some ⟨b, 0, none⟩) 0 0) (ob := .cells #[] U (0, 0)) rfl rfl hn (fun a w ha _ => by
    have hi := hU.h; have hz := hZ.h
    cases hu : P.info? U with
    | none => simp [hu] at hi
    | some i =>
      simp only [hu, Option.map_some, Option.some.injEq, Option.bind_some] at hi hz
      have h : (Instr.buildSlice T 0 #[]).run P w = .ok (.slice (some ⟨w.heap.size, 0, none⟩) 0 0) (w.alloc (.cells #[] U (0, 0))) := by
        simp [Instr.buildSlice, run_underlying hT.h, sizeOf, typeInfo, hu, newRow, Instr.fill]
        exact congrArg _ (congrArg (fun c => Obj.cells c U (0, 0)) (Array.eq_empty_of_size_eq_zero (by simp)))
      simp [execOp, Sem.run_bind, h]) k
end
theorem OwnOk.lit {b m : Nat} : OwnOk (some b) 0 m 0 0 := ⟨fun h => by simp at h, by simp, by simp, by simp⟩
section
variable {P : Program} {d n : Nat} {w0 w : World} {L0 L L' : Heap} {all rest : List Oper} {E : Env} {Q : Post} {G : Bool}
/-- an operation whose guard stands -/
theorem W.ug {o : Oper} (hg : gd all E o.guard = some true) (k : WL P n w0 L0 all ({ o with guard := none } :: rest) E L Q) : WL P n w0 L0 all (o :: rest) E L Q := by
  intro a w ha hw
  have h := k a w ha hw
  obtain ⟨dst, op, ty, pos, aft, g⟩ := o
  have h1 := gd_wanted (o := ⟨dst, op, ty, pos, aft, g⟩) ha hg
  unfold wpList at h ⊢
  rw [if_pos h1]
  have h2 : Region.wanted (⟨dst, op, ty, pos, aft, none⟩ : Oper) (yielded all.toArray a.tmps) = true := rfl
  rw [if_pos h2] at h
  exact h
theorem WL.kn {b : Bool} {v : Bool} (hG : G = true) (h : b = v) (k : WL P n w0 L0 all rest ((d, true, .bool v) :: E) L Q) : WL P n w0 L0 all rest ((d, G, .bool b) :: E) L Q := by subst hG; subst h; exact k
end
/-- rows lent with two marks behind them -/
def Lent {α : Type} (enc : α → List Value) (U : TypeId) (m : Nat) (xs : List α) (mk : α) (v : Value) (L : Heap) : Prop :=
  ∃ b c sp, v = .slice (oa (some b)) xs.length c ∧ OwnOk (some b) c m (xs ++ [mk, mk]).length (List.length sp) ∧ L = rowL (some b) U (flat enc (xs ++ [mk, mk]) sp)
theorem In.cutPre {w0 w : World} {L0 L L' : Heap} {α : Type} {enc : α → List Value} {o : Option Nat} {U : TypeId} {xs ys : List α} {sp : List Value} (hw : Upd w0 L0 w L) [hc : Cut L o U (flat enc (xs ++ ys) sp) L'] [hn : NilOk o (xs ++ ys)] : In w (oa o) (xs.flatMap enc) := by
  have := In.cut (enc := enc) hw (hc := hc) (hn := hn)
  rw [List.flatMap_append] at this
  exact this.pre
theorem getD_mid {α : Type} (d : α) (xs : List α) (a b : α) : (xs ++ [a, b]).getD xs.length d = a ∧ (xs ++ [a, b]).getD (xs.length + 1) d = b := by
  constructor <;> simp [List.getD_eq_getElem?_getD, List.getElem?_append_right]
theorem take_at' {α : Type} (d : α) {os : List α} {i : Int} (h0 : 0 ≤ i) (h1 : i < os.length) : os.take (i + 1).toNat = os.take i.toNat ++ [os.getD i.toNat d] := by
  have h : i.toNat < os.length := by omega
  rw [show (i + 1).toNat = i.toNat + 1 by omega, List.take_succ_eq_append_getElem h, List.getD_eq_getElem?_getD, List.getElem?_eq_getElem h]; rfl
theorem mem_at {α : Type} (d : α) {xs : List α} {i : Int} (h0 : 0 ≤ i) (h1 : i < xs.length) : xs.getD i.toNat d ∈ xs := by
  rw [List.getD_eq_getElem?_getD, List.getElem?_eq_getElem (by omega)]; exact List.getElem_mem _
end Go.Proofs.YtfmdaijkgjkmpaaGreatDoor

set_option linter.unusedVariables false
set_option linter.unusedSimpArgs false
namespace Go.Proofs.YtfmdaijkgjkmpaaGreatDoor
open Go Go.RowKit
theorem byteOf_cast (n : Nat) : byteOf n = UInt8.ofNat n := by
  apply UInt8.toNat_inj.1
  simp [byteOf]; omega
theorem beb_one (x : Int) : beb x 1 = [byteOf x] := rfl
theorem beb_cons : ∀ (m : Nat) (x : Int), beb x (m + 1) = byteOf (x / 256 ^ m) :: beb x m
  | 0, x => by simp [beb]
  | m + 1, x => by
    rw [beb, beb_cons m (x / 256), beb, List.cons_append, Int.ediv_ediv_of_nonneg (by decide), Int.pow_succ, Int.mul_comm]
theorem shr8 (v : Int) {i : Int} (h : 0 ≤ i) : v / 2 ^ (8 * i).toNat = v / 256 ^ i.toNat := by
  rw [show (8 * i).toNat = 8 * i.toNat by omega, Int.pow_mul]; rfl
theorem own_some {o : Option Nat} {c m n s : Nat} (ok : OwnOk o c m n s) (h : n ≠ 0) : ∃ b, o = some b := by
  cases o with | none => exact absurd (ok.1 rfl).1 h | some b => exact ⟨b, rfl⟩
set_option maxRecDepth 100000 in
theorem ref_Num (v : Int) (n : Nat) (w : World) (h1 : 1 ≤ n) (hn : n ≤ 8) : Fn Tryz.prog 84 [.int .i64 v, .int .i64 n] w [] fun r L' => r = .string (S (beb v n)) ∧ L' = [] := by
  refine Fn.enter Tryz.func84 rfl rfl rfl rfl (Holds.nil w) ?_
  refine CW.seq ?_
  refine CW.region ?_
  refine W.p O.as ?_
  refine WL.nil (Q.tn ?_)
  refine CW.seq ?_
  refine CW.region ?_
  refine W.p O.as ?_
  refine WL.nil (Q.tn ?_)
  refine CW.seq ?_
  refine CW.seq ?_
  refine CW.region ?_
  refine W.p O.mv ?_
  first | refine W.p O.subN ?_ | refine W.p O.sub ?_
  refine W.p O.as ?_
  refine WL.nil (Q.tn ?_)
  refine CW.block ?_
  refine CW.loopA (X := Int × (List UInt8) × (Option Nat) × Nat × (List Value)) (fun ⟨i, out, o, cc, sp⟩ => [(0, true, .int .i64 v), (5, true, .slice (oa o) out.length cc), (6, true, .int .i64 i)]) (fun ⟨i, out, o, cc, sp⟩ => rowL o 5 (flat encB out sp)) (fun ⟨i, out, o, cc, sp⟩ => -1 ≤ i ∧ i < n ∧ beb v n = out ++ beb v (i + 1).toNat ∧ OwnOk o cc 1 out.length sp.length ∧ out.length = n - (i + 1)) (fun ⟨i, out, o, cc, sp⟩ => (i + 1).toNat) ((n : Int) - 1, [], none, 0, []) ?_ ?_
  · exact ⟨by omega, by omega, by simp, OwnOk.nil, by simp⟩
  rintro ⟨i, out, o, cc, sp⟩ hI
  try dsimp only at hI ⊢
  obtain ⟨h0, h2, hb, ok, hl⟩ := hI
  have nk := ok.nk
  refine CW.seq ?_
  refine CW.seq ?_
  refine CW.region ?_
  refine W.p O.mv ?_
  refine W.p O.geq ?_
  refine WL.nil (Q.tn ?_)
  refine CW.cond (vt rfl) (fun hc1 => ?_) (fun hc1 => ?_)
  · try simp only [sk] at hc1
    refine CW.skip (Q.tn ?_)
    refine CW.seq ?_
    refine CW.block ?_
    refine CW.region ?_
    refine W.p O.mv ?_
    refine W.p O.mv ?_
    refine W.p O.mv ?_
    first | refine W.p O.mulN ?_ | refine W.p O.mul ?_
    refine W.p O.shr ?_
    refine W.p O.cvI8 ?_
    refine W.bs encB [_] rfl (PV.cons (vt rfl) (PV.nil)) rfl rfl rfl (by decide) rfl fun b1 => ?_
    refine W.ap rfl (vt rfl) (vt rfl) (by first | rfl | omega) (by first | rfl | omega) rfl (by first | assumption | exact OwnOk.nil | exact OwnOk.lit) (by first | omega | (simp; omega)) fun o1 c1 sp1 ok1 ne1 gt1 => ?_
    have nk1 := ok1.nk; have le1 := ok1.2.2.1; try simp only [List.length_append, List.length_cons, List.length_nil] at le1
    refine W.p O.as ?_
    refine WL.nil (Q.bn (Q.tn ?_))
    refine CW.region ?_
    refine W.p O.mv ?_
    first | refine W.p O.subN ?_ | refine W.p O.sub ?_
    refine W.p O.as ?_
    refine WL.nil (Q.tn ?_)
    refine nextA (_, out ++ [byteOf (v / 2 ^ (8 * i).toNat)], _, _, _) ?_ ?_
    · try dsimp only
      refine ⟨by omega, by omega, ?_, by assumption, by simp; omega⟩
      rw [hb, show (i + 1).toNat = i.toNat + 1 by omega, beb_cons, shr8 v hc1, show (i - 1 + 1).toNat = i.toNat by omega]; simp
    · try dsimp only
      omega
  try simp only [sk] at hc1
  obtain ⟨bo, rfl⟩ := own_some ok (by omega)
  refine CW.exit (Q.te (Q.te (Q.bx (Q.tn ?_))))
  refine CW.seq ?_
  refine CW.region ?_
  refine W.p O.mv ?_
  refine W.p (O.cvRow ⟨rfl, rfl⟩ (vt rfl) (by first | rfl | omega) (fun _ => ⟨_, rfl⟩)) ?_
  refine W.p O.as ?_
  refine WL.nil (Q.tn ?_)
  refine CW.ret ?_
  refine ⟨_, [], (RVs.tmp rfl RVs.nil), List.nil_sublist _, ?_⟩
  refine ⟨?_, rfl⟩
  rw [hb, show (i + 1).toNat = 0 by omega]; simp [beb, oneOr]
theorem drop_at {α : Type} (d : α) {xs : List α} {i : Int} (h0 : 0 ≤ i) (h1 : i < xs.length) : xs.drop i.toNat = xs.getD i.toNat d :: xs.drop (i + 1).toNat := by
  have h : i.toNat < xs.length := by omega
  rw [List.drop_eq_getElem_cons h, show (i + 1).toNat = i.toNat + 1 by omega, List.getD_eq_getElem?_getD, List.getElem?_eq_getElem h]; rfl
end Go.Proofs.YtfmdaijkgjkmpaaGreatDoor
