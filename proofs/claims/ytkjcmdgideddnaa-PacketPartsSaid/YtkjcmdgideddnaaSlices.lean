/- Slices of the logic: rows that are read. No condition. -/
import Derived.Test.YtkjcmdgideddnaaMore
import Derived.Great.BuildSlice
set_option linter.unusedVariables false
set_option linter.unusedSimpArgs false
namespace Go.Proofs.Ytkjcmdgideddnaa
open Go Go.RowKit
/-- a row of cells lies behind an address -/
def In (w : World) (a : Option Addr) (cs : List Value) : Prop :=
  cs = [] ∨ ∃ b o arr U fz, a = some ⟨b, o, none⟩ ∧ w.heap[b]? = some (.cells arr U fz) ∧ ∀ k, k < cs.length → arr[o + k]? = cs[k]?
def elt (a : Option Addr) (m j o : Nat) : Option Addr := a.map fun q => ⟨q.block, q.off + (j * m + o), none⟩
theorem flat_at {α : Type} {enc : α → List Value} {m : Nat} (hm : ∀ x, (enc x).length = m) (dv : α) : ∀ (xs : List α) (j o : Nat), j < xs.length → o < m → j * m + o < (xs.flatMap enc).length ∧ (xs.flatMap enc)[j * m + o]? = (enc (xs.getD j dv))[o]?
  | [], j, o, h, _ => by simp at h
  | x :: xs, 0, o, _, ho => by
    simp only [List.flatMap_cons, Nat.zero_mul, Nat.zero_add, List.getD_cons_zero, List.length_append, hm]
    exact ⟨by omega, List.getElem?_append_left (by rw [hm]; exact ho)⟩
  | x :: xs, j + 1, o, h, ho => by
    have ih := flat_at hm dv xs j o (by simpa using h) ho
    have e : (j + 1) * m + o = m + (j * m + o) := by rw [Nat.add_mul]; omega
    simp only [List.flatMap_cons, List.getD_cons_succ, List.length_append, hm, e]
    refine ⟨by omega, ?_⟩
    rw [List.getElem?_append_right (by rw [hm]; omega), hm, ← ih.2]
    congr 1; omega
theorem In.at {w : World} {a : Option Addr} {α : Type} {enc : α → List Value} {m : Nat} {xs : List α} (h : In w a (xs.flatMap enc)) (hm : ∀ x, (enc x).length = m) (dv : α) {j o : Nat} (hj : j < xs.length) (ho : o < m) :
    ∃ b p arr U fz, elt a m j o = some ⟨b, p, none⟩ ∧ w.heap[b]? = some (.cells arr U fz) ∧ ∀ k, o + k < m → arr[p + k]? = (enc (xs.getD j dv))[o + k]? := by
  have hf := flat_at hm dv xs j o hj ho
  rcases h with h | ⟨b, q, arr, U, fz, rfl, hb, hc⟩
  · rw [h] at hf; simp at hf
  · refine ⟨b, q + (j * m + o), arr, U, fz, rfl, hb, fun k hk => ?_⟩
    have hk' := flat_at hm dv xs j (o + k) hj hk
    have := hc _ hk'.1
    rw [show q + (j * m + o) + k = q + (j * m + (o + k)) by omega, this, hk'.2]
/-- rows that can be read, whatever else goes on -/
class RowL (w0 : World) (L0 L : Heap) (a : Option Addr) (m : outParam Nat) (α : outParam Type) (dv : outParam α) (enc : outParam (α → List Value)) (xs : outParam (List α)) : Prop where
  h : ∀ w, Upd w0 L0 w L → In w a (xs.flatMap enc)
  hm : ∀ x, (enc x).length = m
  pos : 0 < m
/-- the same, of the world at entry -/
class Row (w0 : World) (L0 : Heap) (a : Option Addr) (m : outParam Nat) (α : outParam Type) (dv : outParam α) (enc : outParam (α → List Value)) (xs : outParam (List α)) : Prop where
  h : ∀ L w, Upd w0 L0 w L → In w a (xs.flatMap enc)
  hm : ∀ x, (enc x).length = m
  pos : 0 < m
instance RowL.row {w0 : World} {L0 L : Heap} {a : Option Addr} {m : Nat} {α : Type} {dv : α} {enc : α → List Value} {xs : List α} [r : Row w0 L0 a m α dv enc xs] : RowL w0 L0 L a m α dv enc xs := ⟨r.h L, r.hm, r.pos⟩
theorem Row.of {w0 : World} {a : Option Addr} {m : Nat} {α : Type} (dv : α) {enc : α → List Value} {xs : List α} (h : In w0 a (xs.flatMap enc)) (hm : ∀ x, (enc x).length = m) (pos : 0 < m) : Row w0 [] a m α dv enc xs :=
  ⟨fun L w hw => by
    rcases h with h | ⟨b, q, arr, U, fz, ha, hb, hc⟩
    · exact .inl h
    · exact .inr ⟨b, q, arr, U, fz, ha, by rw [hw.old b (Array.getElem?_eq_some_iff.1 hb).1 (by simp), hb], hc⟩, hm, pos⟩
/-- cells: rows, and what lies behind them -/
def flat {α : Type} (enc : α → List Value) (xs : List α) (sp : List Value) : List Value := xs.flatMap enc ++ sp
class Enc {α : Type} (enc : α → List Value) (m : outParam Nat) (dv : outParam α) : Prop where
  hm : ∀ x, (enc x).length = m
  pos : 0 < m
theorem Row.ofE {w0 : World} {a : Option Addr} {m : Nat} {α : Type} {dv : α} {enc : α → List Value} {xs : List α} [e : Enc enc m dv] (h : In w0 a (xs.flatMap enc)) : Row w0 [] a m α dv enc xs := Row.of dv h e.hm e.pos
instance RowL.own {w0 : World} {L0 L : Heap} {b m : Nat} {α : Type} {dv : α} {enc : α → List Value} {xs : List α} {sp : List Value} {U : TypeId} {fz : Nat × Nat} [hb : Blk L b (.cells (flat enc xs sp).toArray U fz)] [he : Enc enc m dv] : RowL w0 L0 L (some ⟨b, 0, none⟩) m α dv enc xs :=
  ⟨fun w hw => .inr ⟨b, 0, _, U, fz, rfl, hw.has _ hb.h, fun k hk => by
    simp only [Nat.zero_add, List.getElem?_toArray, flat]
    exact List.getElem?_append_left hk⟩, he.hm, he.pos⟩
section
variable {P : Program} {d n : Nat} {w0 : World} {L0 L : Heap} {all : List Oper} {E : Env} {x y z : Operand} {T T' U ty : TypeId} {pos : String} {aft : Array Edge} {g : Option (Nat × Bool)} {G : Bool}
variable {α : Type} {dv : α} {enc : α → List Value} {xs : List α} {m : Nat} {a : Option Addr}
theorem r_ixA {ρ : Operand → Value} {w : World} {D : Option Tmp} {q : Addr} {len cap m : Nat} {i : Int} {k : IntKind} (hx : ρ x = .slice (some q) len cap) (hy : ρ y = .int k i) [hT : TSlice P T U] [hU : TSize P U m] (h0 : 0 ≤ i) (h1 : i < len) :
    (execOp ρ ⟨D, .indexAddr T x y, ty, pos, aft, g⟩).run P w = .ok (.value (.pointer (some (q.add (i.toNat * m))))) w := by
  simp [execOp, hx, hy, Instr.indexAt, asIntOf, go_sem, Sem.run_bind, run_underlying hT.h, h0, h1, TSize.run (T := U) w]
/-- the address of an element -/
theorem O.ixA {len cap : Nat} {i : Int} {k : IntKind} [TSlice P T U] [TSize P U m] (hp : Pre n all E g d G := by exact ⟨rfl, rfl⟩) (hx : Val G E x (.slice a len cap) := by first | exact vt rfl | exact vs rfl | exact vi rfl and1 | exact vi rfl (fun h => and1 (and1 h)) | exact vi rfl (by simp +contextual)) (hy : Val G E y (.int k i) := by first | exact vt rfl | exact vs rfl | exact vi rfl and1 | exact vi rfl (fun h => and1 (and1 h)) | exact vi rfl (by simp +contextual)) (r : RowL w0 L0 L a m α dv enc xs := by infer_instance) (hl : len = xs.length := by first | rfl | omega | (simp; omega)) (h : G = true → 0 ≤ i ∧ i < xs.length := by (intro hg; first | omega | (simp only [cond_true, cond_false, Bool.true_and, Bool.cond_false_right, Bool.cond_true_left, Bool.and_eq_true, Bool.or_eq_true, Bool.not_eq_true', Bool.not_eq_false', decide_eq_true_eq, decide_eq_false_iff_not, ← List.length_eq_zero_iff, List.length_cons, List.length_append, List.length_drop, List.length_take, Int.reduceToNat] at *; omega))) :
    QV P n w0 L0 all ⟨some d, .indexAddr T x y, ty, pos, aft, g⟩ E L d G (.pointer (elt a m i.toNat 0)) :=
  O.val rfl hp (fun hG A w ha hw => by
    have h1 := h hG
    obtain ⟨b, p, arr, U', fz, he, _, _⟩ := (r.h w hw).at r.hm dv (j := i.toNat) (o := 0) (by omega) r.pos
    cases a with
    | none => simp [elt] at he
    | some q =>
      rw [r_ixA (U := U) (m := m) (hx.eval hG ha) (hy.eval hG ha) h1.1 (by rw [hl]; exact h1.2)]
      have e : q.spot = none ∨ True := .inr trivial
      have := r.h w hw
      rcases this with h2 | ⟨b', o', arr', U2, fz2, e2, _, _⟩
      · have := flat_at r.hm dv xs i.toNat 0 (by omega) r.pos
        rw [h2] at this; simp at this
      · cases e2; simp [elt, Addr.add_at])
theorem O.fe {j o o' : Nat} {i : Nat} [hF : TField P T i o'] (hp : Pre n all E g d G := by exact ⟨rfl, rfl⟩) (hx : Val G E x (.pointer (elt a m j o)) := by first | exact vt rfl | exact vs rfl | exact vi rfl and1 | exact vi rfl (fun h => and1 (and1 h)) | exact vi rfl (by simp +contextual)) (hs : G = true → (elt a m j o).isSome = true := by exact fun _ => rfl) :
    QV P n w0 L0 all ⟨some d, .fieldAddr T x i, ty, pos, aft, g⟩ E L d G (.pointer (elt a m j (o + o'))) :=
  O.val rfl hp (fun hG A w ha hw => by
    have h1 := hs hG
    cases a with
    | none => simp [elt] at h1
    | some q =>
      have hx' := hx.eval hG ha
      simp only [elt, Option.map_some] at hx' ⊢
      rw [TField.run (P := P) (T := T) (i := i) (o := o') hx', Addr.add_at]
      simp only [Nat.add_assoc])
/-- the same, of a row that is read -/
theorem O.feR {j o o' : Nat} {i : Nat} [hF : TField P T i o'] (hp : Pre n all E g d G := by exact ⟨rfl, rfl⟩) (hx : Val G E x (.pointer (elt a m j o)) := by first | exact vt rfl | exact vs rfl | exact vi rfl and1 | exact vi rfl (fun h => and1 (and1 h)) | exact vi rfl (by simp +contextual)) (r : RowL w0 L0 L a m α dv enc xs := by infer_instance) (hj : G = true → j < xs.length := by (intro hg; first | omega | (simp only [cond_true, cond_false, Bool.true_and, Bool.cond_false_right, Bool.cond_true_left, Bool.and_eq_true, Bool.or_eq_true, Bool.not_eq_true', Bool.not_eq_false', decide_eq_true_eq, decide_eq_false_iff_not, ← List.length_eq_zero_iff, List.length_cons, List.length_append, List.length_drop, List.length_take, Int.reduceToNat] at *; omega))) :
    QV P n w0 L0 all ⟨some d, .fieldAddr T x i, ty, pos, aft, g⟩ E L d G (.pointer (elt a m j (o + o'))) :=
  O.val rfl hp (fun hG A w ha hw => by
    obtain ⟨b, p, arr, U', fz, he, _, _⟩ := (r.h w hw).at r.hm dv (j := j) (o := 0) (hj hG) r.pos
    cases a with
    | none => simp [elt] at he
    | some q =>
      have hx' := hx.eval hG ha
      simp only [elt, Option.map_some] at hx' ⊢
      rw [TField.run (P := P) (T := T) (i := i) (o := o') hx', Addr.add_at]
      simp only [Nat.add_assoc])
/-- a cell of an element is read -/
theorem O.ldE {j o : Nat} {v : Value} [TScal P T] (hp : Pre n all E g d G := by exact ⟨rfl, rfl⟩) (hx : Val G E x (.pointer (elt a m j o)) := by first | exact vt rfl | exact vs rfl | exact vi rfl and1 | exact vi rfl (fun h => and1 (and1 h)) | exact vi rfl (by simp +contextual)) (r : RowL w0 L0 L a m α dv enc xs := by infer_instance) (hj : G = true → j < xs.length := by (intro hg; first | omega | (simp only [cond_true, cond_false, Bool.true_and, Bool.cond_false_right, Bool.cond_true_left, Bool.and_eq_true, Bool.or_eq_true, Bool.not_eq_true', Bool.not_eq_false', decide_eq_true_eq, decide_eq_false_iff_not, ← List.length_eq_zero_iff, List.length_cons, List.length_append, List.length_drop, List.length_take, Int.reduceToNat] at *; omega))) [hv : Nth (enc (xs.getD j dv)) o v] :
    QV P n w0 L0 all ⟨some d, .load T x, ty, pos, aft, g⟩ E L d G v :=
  O.val rfl hp (fun hG A w ha hw => by
    have ho : o < m := by
      have := hv.h
      rw [← r.hm (xs.getD j dv)]
      exact (List.getElem?_eq_some_iff.1 this).1
    obtain ⟨b, p, arr, U', fz, he, hb, hc⟩ := (r.h w hw).at r.hm dv (hj hG) ho
    have h0 := hc 0 (by omega)
    simp only [Nat.add_zero] at h0
    rw [hv.h] at h0
    have hx' := hx.eval hG ha
    rw [he] at hx'
    have hb' : w.heap[b]? = some (.cells arr.toList.toArray U' fz) := by simpa using hb
    have := run_load_one (P := P) (T := T) (o := p) (v := v) hb' (by simpa using h0)
    simp [execOp, Instr.loadAt, Instr.sureAddr, hx', Sem.run_bind, this])
theorem O.ldsE {j o m' : Nat} {vs : List Value} [TAgg P T m'] (hp : Pre n all E g d G := by exact ⟨rfl, rfl⟩) (hx : Val G E x (.pointer (elt a m j o)) := by first | exact vt rfl | exact vs rfl | exact vi rfl and1 | exact vi rfl (fun h => and1 (and1 h)) | exact vi rfl (by simp +contextual)) (r : RowL w0 L0 L a m α dv enc xs := by infer_instance) (hj : G = true → j < xs.length := by (intro hg; first | omega | (simp only [cond_true, cond_false, Bool.true_and, Bool.cond_false_right, Bool.cond_true_left, Bool.and_eq_true, Bool.or_eq_true, Bool.not_eq_true', Bool.not_eq_false', decide_eq_true_eq, decide_eq_false_iff_not, ← List.length_eq_zero_iff, List.length_cons, List.length_append, List.length_drop, List.length_take, Int.reduceToNat] at *; omega))) [hv : Sub (enc (xs.getD j dv)) o m' vs] (hpos : 0 < m' := by decide) :
    QV P n w0 L0 all ⟨some d, .load T x, ty, pos, aft, g⟩ E L d G (.agg vs.toArray) :=
  O.val rfl hp (fun hG A w ha hw => by
    have h2 := hv.h
    have hle : o + m' ≤ m := by rw [← r.hm (xs.getD j dv)]; exact h2.2
    obtain ⟨b, p, arr, U', fz, he, hb, hc⟩ := (r.h w hw).at r.hm dv (hj hG) (o := o) (by omega)
    have hx' := hx.eval hG ha
    rw [he] at hx'
    have hb' : w.heap[b]? = some (.cells arr.toList.toArray U' fz) := by simpa using hb
    have hk : ∀ k, k < m' → arr.toList[p + k]? = vs[k]? := fun k hk => by
      have := hc k (by omega)
      rw [← h2.1, List.getElem?_take, if_pos hk, List.getElem?_drop]
      simpa using this
    have hl : vs.length = m' := by rw [← h2.1, List.length_take, List.length_drop]; have := h2.2; omega
    have hsub : Sub arr.toList p m' vs := ⟨by
      apply List.ext_getElem?
      intro k
      rw [List.getElem?_take]
      split
      · rename_i hlt; rw [List.getElem?_drop, hk k hlt]
      · exact (List.getElem?_eq_none (by omega)).symm, by
      have := hk (m' - 1) (by omega)
      rw [List.getElem?_eq_getElem (l := vs) (by omega)] at this
      have := (List.getElem?_eq_some_iff.1 this).1
      simp at this ⊢; omega⟩
    have := run_load_sub (P := P) (T := T) (m := m') (o := p) hb' (vs := vs)
    simp [execOp, Instr.loadAt, Instr.sureAddr, hx', Sem.run_bind, this])
end
section
variable {P : Program} {d n : Nat} {w0 : World} {L0 L : Heap} {all rest : List Oper} {E : Env} {Q : Post} {x y z : Operand} {T T' U ty : TypeId} {pos : String} {aft : Array Edge} {g : Option (Nat × Bool)} {G : Bool}
theorem r_bs {ps : List (Nat × Value)} {len m : Nat} {zv : Value} {w : World} [hT : TSlice P T U] [hU : TSize P U m] [hZ : TZero P U zv] (hps : ps = ((ps.map Prod.snd).zipIdx 0).map fun x => (x.2, x.1)) (hlen : ps.length = len) (hm : (ps.map Prod.snd).all (fun v => v.cells.size == m) = true) (hb : 0 < m ∧ 0 < len ∧ len * m ≤ 2 ^ 24) :
    (Instr.buildSlice T len ps.toArray).run P w = .ok (.slice (some ⟨w.heap.size, 0, none⟩) len len) (w.alloc (.cells ((ps.map Prod.snd).flatMap fun v => v.cells.toList).toArray U)) := by
  have hi := hU.h; have hz := hZ.h
  cases hu : P.info? U with
  | none => simp [hu] at hi
  | some i =>
    simp only [hu, Option.map_some, Option.some.injEq, Option.bind_some] at hi hz
    refine run_buildSlice w T U len ps.toArray _ i zv hT.h hu hz (by rw [hi]; omega) ?_ ?_
    · rw [hi]; exact Nat.ne_of_gt (Nat.mul_pos hb.2.1 hb.1)
    · rw [hi]
      have := Go.Great.fill_whole hb.1 (ps.map Prod.snd) ((Array.range (len * m)).map (zv.cells[· % zv.cells.size]!)) (fun v hv => by simpa using List.all_eq_true.1 hm v hv) (by simp [hlen])
      rw [← hps] at this
      simpa using this
/-- a slice that is built -/
theorem W.bs {α : Type} (enc : α → List Value) (ys : List α) {xs : List (Nat × Operand)} {ps : List (Nat × Value)} {len m : Nat} {zv : Value} [TSlice P T U] [TSize P U m] [TZero P U zv] (hn : Nat.blt d n = true) (hv : PV true E xs ps) (hps : ps = ((ps.map Prod.snd).zipIdx 0).map fun x => (x.2, x.1)) (hlen : ps.length = len) (hm : (ps.map Prod.snd).all (fun v => v.cells.size == m) = true) (hb : 0 < m ∧ 0 < len ∧ len * m ≤ 2 ^ 24) (hf : ((ps.map Prod.snd).flatMap fun v => v.cells.toList) = flat enc ys [])
    (k : ∀ b, WL P n w0 L0 all rest ((d, true, .slice (some ⟨b, 0, none⟩) len len) :: E) ((b, .cells (flat enc ys []).toArray U (0, 0)) :: L) Q) : WL P n w0 L0 all (⟨some d, .buildSlice T len xs.toArray, ty, pos, aft, none⟩ :: rest) E L Q :=
  W.new (v := fun b => .slice (some ⟨b, 0, none⟩) len len) rfl rfl hn (fun a w ha _ => by
    have h := r_bs (P := P) (T := T) (U := U) (m := m) (w := w) hps hlen hm hb
    have e : (xs.toArray.map fun (x : Nat × Operand) => (x.1, a.eval x.2)) = ps.toArray := by rw [List.map_toArray, hv.eval ha rfl]
    simp only [execOp, e]
    simp [Sem.run_bind, h, hf]) k
theorem r_neg {ρ : Operand → Value} {D : Option Tmp} {w : World} {p : Int} {k : IntKind} (hx : ρ x = .int k p) : (execOp ρ ⟨D, .unOp .neg T x, ty, pos, aft, g⟩).run P w = .ok (.value (.int k (k.wrap (-p)))) w := by
  simp [execOp, hx, go_sem]
theorem O.ng {p : Int} {k : IntKind} (hp : Pre n all E g d G := by exact ⟨rfl, rfl⟩) (hx : Val G E x (.int k p) := by first | exact vt rfl | exact vs rfl | exact vi rfl and1 | exact vi rfl (fun h => and1 (and1 h)) | exact vi rfl (by simp +contextual)) : QV P n w0 L0 all ⟨some d, .unOp .neg T x, ty, pos, aft, g⟩ E L d G (.int k (k.wrap (-p))) :=
  O.val rfl hp (fun hG a w ha hw => by rw [r_neg (hx.eval hG ha)])
theorem O.ngN {p : Int} (hp : Pre n all E g d G := by exact ⟨rfl, rfl⟩) (hx : Val G E x (.int .i64 p) := by first | exact vt rfl | exact vs rfl | exact vi rfl and1 | exact vi rfl (fun h => and1 (and1 h)) | exact vi rfl (by simp +contextual)) (h : G = true → -9223372036854775807 ≤ p ∧ p ≤ 9223372036854775807 := by (intro _; omega)) : QV P n w0 L0 all ⟨some d, .unOp .neg T x, ty, pos, aft, g⟩ E L d G (.int .i64 (-p)) :=
  O.val rfl hp (fun hG a w ha hw => by rw [r_neg (hx.eval hG ha), wrap_in _ (by have := h hG; omega)])
end
/-- ways that meet: what holds behind the first part, said once -/
theorem CW.join {P : Program} {n : Nat} {w0 : World} {L0 : Heap} {c y : Code} {E : Env} {L : Heap} {Q : Post} {X : Type} (F : X → Env) (H : X → Heap) (I : X → Prop)
    (h : CW P n w0 L0 c E L (thenQ (fun E' L' => ∃ x, I x ∧ SubE (F x) E' ∧ (H x).Sublist L') Q)) (k : ∀ x, I x → CW P n w0 L0 y (F x) (H x) Q) : CW P n w0 L0 (.seq c y) E L Q :=
  CW.seq (CW.post h fun e E' L' hq => by
    cases e with
    | normal => obtain ⟨x, hx, hE, hL⟩ := hq; exact CW.weak hE hL (k x hx)
    | _ => exact hq)
abbrev encS : List UInt8 → List Value := fun s => [.string (S s)]
abbrev encI : Int → List Value := fun i => [.int .i64 i]
instance : Enc encS 1 [] := ⟨fun _ => rfl, by decide⟩
instance : Enc encI 1 0 := ⟨fun _ => rfl, by decide⟩
end Go.Proofs.Ytkjcmdgideddnaa
