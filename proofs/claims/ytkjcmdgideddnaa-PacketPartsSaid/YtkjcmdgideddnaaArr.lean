/- Arrays in a block; slices that are made of nothing; slices cut out. No condition. -/
import Derived.Test.YtkjcmdgideddnaaCall
set_option linter.unusedVariables false
set_option linter.unusedSimpArgs false
namespace Go.Proofs.Ytkjcmdgideddnaa
open Go Go.RowKit
class TArr (P : Program) (T : TypeId) (n : outParam Nat) (e : outParam TypeId) : Prop where h : P.underlying T = some (.array n e)
instance : TArr Try.prog 48 4 9 := ⟨by kernel_rfl⟩
instance : TArr Try.prog 49 4 4 := ⟨by kernel_rfl⟩
instance : TArr Try.prog 202 4 3 := ⟨by kernel_rfl⟩
instance : TArr Try.prog 217 256 4 := ⟨by kernel_rfl⟩
instance : TArr Try.prog 257 0 16 := ⟨by kernel_rfl⟩
section
variable {P : Program} {d n : Nat} {w0 w : World} {L0 L L' : Heap} {all rest : List Oper} {E : Env} {Q : Post} {x y : Operand} {T U V ty : TypeId} {pos : String} {aft : Array Edge} {g : Option (Nat × Bool)} {G : Bool} {fz : Nat × Nat} {m : Nat}
theorem r_ixR {ρ : Operand → Value} {D : Option Tmp} {q : Addr} {len m : Nat} {i : Int} {k : IntKind} (hx : ρ x = .pointer (some q)) (hy : ρ y = .int k i) [hT : TArr P T len U] [hU : TSize P U m] (h0 : 0 ≤ i) (h1 : i < len) :
    (execOp ρ ⟨D, .indexAddr T x y, ty, pos, aft, g⟩).run P w = .ok (.value (.pointer (some (q.add (i.toNat * m))))) w := by
  simp [execOp, hx, hy, Instr.indexAt, asIntOf, go_sem, Sem.run_bind, run_underlying hT.h, h0, h1, TSize.run (T := U) w]
theorem O.ixR {b len m : Nat} {i : Int} {k : IntKind} [hT : TArr P T len U] [hU : TSize P U m] (hp : Pre n all E g d G := by exact ⟨rfl, rfl⟩) (hx : Val G E x (.pointer (some ⟨b, 0, none⟩)) := by first | exact vt rfl | exact vs rfl | exact vi rfl and1 | exact vi rfl (by simp +contextual)) (hy : Val G E y (.int k i) := by first | exact vt rfl | exact vs rfl | exact vi rfl and1 | exact vi rfl (by simp +contextual)) (h : G = true → 0 ≤ i ∧ i < len := by (intro hg; first | omega | (simp only [cond_true, cond_false, Bool.true_and, Bool.cond_false_right, Bool.cond_true_left, Bool.and_eq_true, Bool.or_eq_true, Bool.not_eq_true', Bool.not_eq_false', Bool.or_eq_false_iff, decide_eq_true_eq, decide_eq_false_iff_not, ← List.length_eq_zero_iff] at *; omega))) :
    QV P n w0 L0 all ⟨some d, .indexAddr T x y, ty, pos, aft, g⟩ E L d G (.pointer (some ⟨b, i.toNat * m, none⟩)) :=
  O.val rfl hp (fun hG A w ha hw => by
    have h1 := h hG
    have hx' := hx.eval hG ha
    have hy' := hy.eval hG ha
    rw [r_ixR (m := m) hx' hy' h1.1 h1.2, Addr.add_at, Nat.zero_add])
/-- a cell at a place that is a number of the proof -/
theorem O.ldA {β : Type} {f : β → Value} {b j : Nat} {l : List β} [TScal P T] (dv : β) (hp : Pre n all E g d G := by exact ⟨rfl, rfl⟩) (hx : Val G E x (.pointer (some ⟨b, j, none⟩)) := by first | exact vt rfl | exact vs rfl | exact vi rfl and1 | exact vi rfl (by simp +contextual)) (hb : Blk L b (.cells (l.map f).toArray U fz) := by infer_instance) (h : G = true → j < l.length) :
    QV P n w0 L0 all ⟨some d, .load T x, ty, pos, aft, g⟩ E L d G (f (l.getD j dv)) :=
  O.val rfl hp (fun hG a w ha hw => by
    have hv : (l.map f)[j]? = some (f (l.getD j dv)) := by
      rw [List.getElem?_map, List.getD_eq_getElem?_getD, List.getElem?_eq_getElem (h hG)]; rfl
    have := run_load_one (P := P) (T := T) (hw.has _ hb.h) hv
    simp [execOp, Instr.loadAt, Instr.sureAddr, hx.eval hG ha, Sem.run_bind, this])
theorem W.stA {β : Type} {f : β → Value} {b j : Nat} {l : List β} (v : β) (hx : Val true E x (.pointer (some ⟨b, j, none⟩))) (hy : Val true E y (f v)) [hb : Blk L b (.cells (l.map f).toArray U (0, 0))] (hu : (f v).cells = [f v].toArray) (h1 : (f v).oneCell' = true) [ht : TSize P T 1] (hj : j < l.length)
    [hr : Rep L b (.cells (l.map f).toArray U (0, 0)) (.cells ((l.set j v).map f).toArray U (0, 0)) L']
    (k : WL P n w0 L0 all rest E L' Q) : WL P n w0 L0 all (⟨none, .store T x y, ty, pos, aft, none⟩ :: rest) E L Q := by
  haveI : One [f v] := ⟨fun u hu => by simp at hu; subst hu; exact h1⟩
  haveI : Ovr (l.map f) j [f v] ((l.set j v).map f) := ⟨by
    rw [List.map_set, List.set_eq_take_append_cons_drop, if_pos (by simpa using hj)]; simp, by simp; omega⟩
  exact W.st hx hy hu k
theorem r_slH {ρ : Operand → Value} {D : Option Tmp} {a : Option Addr} {len cap : Nat} {j : Int} {k : IntKind} {z : Operand} (hx : ρ x = .slice a len cap) (hz : ρ z = .int k j) [hT : TSlice P T U] [hU : TSize P U m] (h0 : 0 ≤ j) (h1 : j ≤ cap) :
    (execOp ρ ⟨D, .slice T x none (some z) none, ty, pos, aft, g⟩).run P w = .ok (.value (.slice a j.toNat cap)) w := by
  have e : (if cap = 0 then a else a.map (·.add 0)) = a := by
    split
    · rfl
    · cases a with | none => rfl | some q => simp [Addr.add_zero']
  simp [execOp, go_sem, run_underlying hT.h, Instr.sliceAt, Instr.slice, Instr.sliceBounds, Instr.sliceBound, asIntOf, hx, hz, h0, h1, TSize.run (T := U) w, Sem.run_bind]
/-- a slice's beginning -/
theorem O.slH {a : Option Addr} {len cap : Nat} {j : Int} {k : IntKind} {z : Operand} [hT : TSlice P T U] [hU : TSize P U m] (hp : Pre n all E g d G := by exact ⟨rfl, rfl⟩) (hx : Val G E x (.slice a len cap) := by first | exact vt rfl | exact vs rfl) (hz : Val G E z (.int k j) := by first | exact vt rfl | exact vs rfl) (h : G = true → 0 ≤ j ∧ j ≤ cap := by (intro _; omega)) :
    QV P n w0 L0 all ⟨some d, .slice T x none (some z) none, ty, pos, aft, g⟩ E L d G (.slice a j.toNat cap) :=
  O.val rfl hp (fun hG A w ha hw => r_slH (U := U) (m := m) (hx.eval hG ha) (hz.eval hG ha) (h hG).1 (h hG).2)
/-- a slice of nothing -/
theorem W.bs0 {α : Type} (enc : α → List Value) {zv : Value} {m : Nat} [hT : TSlice P T U] [hU : TSize P U m] [hZ : TZero P U zv] (hn : Nat.blt d n = true)
    (k : ∀ b, WL P n w0 L0 all rest ((d, true, .slice (oa (some b)) 0 0) :: E) (rowL (some b) U (flat enc [] []) ++ L) Q) : WL P n w0 L0 all (⟨some d, .buildSlice T 0 #[], ty, pos, aft, none⟩ :: rest) E L Q :=
  W.new (v := fun b => .slice (some ⟨b, 0, none⟩) 0 0) (ob := .cells #[] U (0, 0)) rfl rfl hn (fun a w ha _ => by
    have hi := hU.h; have hz := hZ.h
    cases hu : P.info? U with
    | none => simp [hu] at hi
    | some i =>
      simp only [hu, Option.map_some, Option.some.injEq, Option.bind_some] at hi hz
      have h : (Instr.buildSlice T 0 #[]).run P w = .ok (.slice (some ⟨w.heap.size, 0, none⟩) 0 0) (w.alloc (.cells #[] U (0, 0))) := by
        simp [Instr.buildSlice, run_underlying hT.h, sizeOf, typeInfo, hu, newRow, Instr.fill]
        exact congrArg _ (congrArg (fun c => Obj.cells c U (0, 0)) (Array.eq_empty_of_size_eq_zero (by simp)))
      simp [execOp, Sem.run_bind, h]) k
end
theorem OwnOk.lit {b m : Nat} : OwnOk (some b) 0 m 0 0 := ⟨fun h => by simp at h, by simp, by simp, by simp⟩
section
variable {P : Program} {d n : Nat} {w0 w : World} {L0 L L' : Heap} {all rest : List Oper} {E : Env} {Q : Post} {G : Bool}
/-- an operation whose guard stands -/
theorem W.ug {o : Oper} (hg : gd all E o.guard = some true) (k : WL P n w0 L0 all ({ o with guard := none } :: rest) E L Q) : WL P n w0 L0 all (o :: rest) E L Q := by
  intro a w ha hw
  have h := k a w ha hw
  obtain ⟨dst, op, ty, pos, aft, g⟩ := o
  have h1 := gd_wanted (o := ⟨dst, op, ty, pos, aft, g⟩) ha hg
  unfold wpList at h ⊢
  rw [if_pos h1]
  have h2 : Region.wanted (⟨dst, op, ty, pos, aft, none⟩ : Oper) (yielded all.toArray a.tmps) = true := rfl
  rw [if_pos h2] at h
  exact h
theorem WL.kn {b : Bool} {v : Bool} (hG : G = true) (h : b = v) (k : WL P n w0 L0 all rest ((d, true, .bool v) :: E) L Q) : WL P n w0 L0 all rest ((d, G, .bool b) :: E) L Q := by subst hG; subst h; exact k
end
/-- rows lent with two marks behind them -/
def Lent {α : Type} (enc : α → List Value) (U : TypeId) (m : Nat) (xs : List α) (mk : α) (v : Value) (L : Heap) : Prop :=
  ∃ b c sp, v = .slice (oa (some b)) xs.length c ∧ OwnOk (some b) c m (xs ++ [mk, mk]).length (List.length sp) ∧ L = rowL (some b) U (flat enc (xs ++ [mk, mk]) sp)
theorem In.cutPre {w0 w : World} {L0 L L' : Heap} {α : Type} {enc : α → List Value} {o : Option Nat} {U : TypeId} {xs ys : List α} {sp : List Value} (hw : Upd w0 L0 w L) [hc : Cut L o U (flat enc (xs ++ ys) sp) L'] [hn : NilOk o (xs ++ ys)] : In w (oa o) (xs.flatMap enc) := by
  have := In.cut (enc := enc) hw (hc := hc) (hn := hn)
  rw [List.flatMap_append] at this
  exact this.pre
theorem getD_mid {α : Type} (d : α) (xs : List α) (a b : α) : (xs ++ [a, b]).getD xs.length d = a ∧ (xs ++ [a, b]).getD (xs.length + 1) d = b := by
  constructor <;> simp [List.getD_eq_getElem?_getD, List.getElem?_append_right]
theorem take_at' {α : Type} (d : α) {os : List α} {i : Int} (h0 : 0 ≤ i) (h1 : i < os.length) : os.take (i + 1).toNat = os.take i.toNat ++ [os.getD i.toNat d] := by
  have h : i.toNat < os.length := by omega
  rw [show (i + 1).toNat = i.toNat + 1 by omega, List.take_succ_eq_append_getElem h, List.getD_eq_getElem?_getD, List.getElem?_eq_getElem h]; rfl
end Go.Proofs.Ytkjcmdgideddnaa
