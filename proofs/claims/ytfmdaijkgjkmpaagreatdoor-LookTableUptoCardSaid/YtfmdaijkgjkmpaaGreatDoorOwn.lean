/- Several texts in one (Own). Their conditions are their own. -/
import Derived.Test.YtfmdaijkgjkmpaaGreatDoorTypes
import Derived.Great.BuildSlice
import Derived.Laws.AppendOwn
import Derived.Lib.AppendStr
import Derived.Lib.Builder
import Derived.Lib.UnsafeStr
import Derived.Laws.Externs
set_option linter.unusedVariables false
set_option linter.unusedSimpArgs false
namespace Go.Proofs.YtfmdaijkgjkmpaaGreatDoor
open Go Go.RowKit
section
variable {P : Program} {ρ : Operand → Value} {o : Option Tmp} {d n : Nat} {w0 w : World} {L0 L : Heap} {all : List Oper} {E : Env} {x y z : Operand} {T T' ty : TypeId} {pos : String} {aft : Array Edge} {g : Option (Nat × Bool)} {G : Bool}
theorem and_mask (m : Nat) (h : m < 64) (p q : Int) (hq : q = ((2 ^ m - 1 : Nat) : Int)) : bits .and .i64 p q = p % ((2 ^ m : Nat) : Int) := by
  subst hq
  have h2 : 2 ^ m ≤ 2 ^ 63 := Nat.pow_le_pow_right (by decide) (by omega)
  have h0 : 0 < 2 ^ m := Nat.two_pow_pos m
  have e : (BitVec.ofInt 64 ((2 ^ m - 1 : Nat) : Int)).toNat = 2 ^ m - 1 := by
    rw [BitVec.ofInt_natCast, BitVec.toNat_ofNat, Nat.mod_eq_of_lt (by omega)]
  have e2 : ((BitVec.ofInt 64 p).toNat : Int) = p % (18446744073709551616 : Int) := by
    rw [BitVec.toNat_ofInt]; omega
  have e3 : (BitVec.ofInt IntKind.i64.bits p &&& BitVec.ofInt IntKind.i64.bits ((2 ^ m - 1 : Nat) : Int)).toNat = (BitVec.ofInt 64 p).toNat % 2 ^ m := by
    show (BitVec.ofInt 64 p &&& BitVec.ofInt 64 ((2 ^ m - 1 : Nat) : Int)).toNat = _
    rw [BitVec.toNat_and, e, Nat.and_two_pow_sub_one_eq_mod]
  show IntKind.i64.wrap ((BitVec.ofInt IntKind.i64.bits p &&& BitVec.ofInt IntKind.i64.bits ((2 ^ m - 1 : Nat) : Int)).toNat : Int) = _
  rw [e3]
  have hlt : (BitVec.ofInt 64 p).toNat % 2 ^ m < 2 ^ m := Nat.mod_lt _ h0
  rw [wrap_in _ (by omega)]
  rw [Int.natCast_emod, e2]
  exact Int.emod_emod_of_dvd p (by
    have : ((2 ^ m : Nat) : Int) ∣ ((2 ^ 64 : Nat) : Int) := Int.natCast_dvd_natCast.2 (Nat.pow_dvd_pow 2 (by omega))
    simpa using this)
theorem r_and {p q : Int} {k : IntKind} (hx : ρ x = .int k p) (hy : ρ y = .int k q)  : (execOp ρ ⟨o, .binOp .and T x y T', ty, pos, aft, g⟩).run P w = .ok (.value (.int k (bits .and k p q))) w := by
  simp [execOp, hx, hy, go_sem]
theorem r_or {p q : Int} {k : IntKind} (hx : ρ x = .int k p) (hy : ρ y = .int k q)  : (execOp ρ ⟨o, .binOp .or T x y T', ty, pos, aft, g⟩).run P w = .ok (.value (.int k (bits .or k p q))) w := by
  simp [execOp, hx, hy, go_sem]
theorem r_xor {p q : Int} {k : IntKind} (hx : ρ x = .int k p) (hy : ρ y = .int k q)  : (execOp ρ ⟨o, .binOp .xor T x y T', ty, pos, aft, g⟩).run P w = .ok (.value (.int k (bits .xor k p q))) w := by
  simp [execOp, hx, hy, go_sem]
theorem r_shl {p q : Int} {k k' : IntKind} (hx : ρ x = .int k p) (hy : ρ y = .int k' q) (h : 0 ≤ q ∧ q ≤ k.bits) : (execOp ρ ⟨o, .binOp .shl T x y T', ty, pos, aft, g⟩).run P w = .ok (.value (.int k (k.wrap (p * 2 ^ q.toNat)))) w := by
  simp [execOp, hx, hy, go_sem, shift_shl _ _ _ _ h.1 h.2]
theorem r_shr {p q : Int} {k k' : IntKind} (hx : ρ x = .int k p) (hy : ρ y = .int k' q) (h : 0 ≤ q ∧ q ≤ k.bits) : (execOp ρ ⟨o, .binOp .shr T x y T', ty, pos, aft, g⟩).run P w = .ok (.value (.int k (p / 2 ^ q.toNat))) w := by
  simp [execOp, hx, hy, go_sem, shift_shr _ _ _ _ h.1 h.2]
theorem r_rem {p q : Int} {k : IntKind} (hx : ρ x = .int k p) (hy : ρ y = .int k q) (h : 0 ≤ p ∧ 0 < q) : (execOp ρ ⟨o, .binOp .rem T x y T', ty, pos, aft, g⟩).run P w = .ok (.value (.int k (p % q))) w := by
  simp [execOp, hx, hy, go_sem, Op.intDiv, binOp, show q ≠ 0 by omega, Int.tmod_eq_emod_of_nonneg h.1]
theorem r_quo {p q : Int} {k : IntKind} (hx : ρ x = .int k p) (hy : ρ y = .int k q) (h : 0 ≤ p ∧ 0 < q) : (execOp ρ ⟨o, .binOp .quo T x y T', ty, pos, aft, g⟩).run P w = .ok (.value (.int k (k.wrap (p / q)))) w := by
  simp [execOp, hx, hy, go_sem, Op.intDiv, binOp, show q ≠ 0 by omega, Int.tdiv_eq_ediv_of_nonneg h.1]
theorem O.andM (m : Nat) (M : Int) {p q : Int} (hp : Pre n all E g d G := by exact ⟨rfl, rfl⟩) (hx : Val G E x (.int .i64 p) := by first | exact vt rfl | exact vs rfl | exact vi rfl and1 | exact vi rfl (fun h => and1 (and1 h)) | exact vi rfl (by simp +contextual)) (hy : Val G E y (.int .i64 q) := by first | exact vt rfl | exact vs rfl | exact vi rfl and1 | exact vi rfl (fun h => and1 (and1 h)) | exact vi rfl (by simp +contextual)) (h : m < 64) (hq : q = ((2 ^ m - 1 : Nat) : Int)) (hM : M = ((2 ^ m : Nat) : Int)) : QV P n w0 L0 all ⟨some d, .binOp .and T x y T', ty, pos, aft, g⟩ E L d G (.int .i64 (p % M)) :=
  O.val rfl hp (fun hG a w ha hw => by subst hM; rw [r_and (hx.eval hG ha) (hy.eval hG ha), and_mask m h p q hq])
theorem O.and {p q : Int} {k : IntKind} (hp : Pre n all E g d G := by exact ⟨rfl, rfl⟩) (hx : Val G E x (.int k p) := by first | exact vt rfl | exact vs rfl | exact vi rfl and1 | exact vi rfl (fun h => and1 (and1 h)) | exact vi rfl (by simp +contextual)) (hy : Val G E y (.int k q) := by first | exact vt rfl | exact vs rfl | exact vi rfl and1 | exact vi rfl (fun h => and1 (and1 h)) | exact vi rfl (by simp +contextual)) : QV P n w0 L0 all ⟨some d, .binOp .and T x y T', ty, pos, aft, g⟩ E L d G (.int k (bits .and k p q)) :=
  O.val rfl hp (fun hG a w ha hw => by rw [r_and (hx.eval hG ha) (hy.eval hG ha)])
theorem O.or {p q : Int} {k : IntKind} (hp : Pre n all E g d G := by exact ⟨rfl, rfl⟩) (hx : Val G E x (.int k p) := by first | exact vt rfl | exact vs rfl | exact vi rfl and1 | exact vi rfl (fun h => and1 (and1 h)) | exact vi rfl (by simp +contextual)) (hy : Val G E y (.int k q) := by first | exact vt rfl | exact vs rfl | exact vi rfl and1 | exact vi rfl (fun h => and1 (and1 h)) | exact vi rfl (by simp +contextual)) : QV P n w0 L0 all ⟨some d, .binOp .or T x y T', ty, pos, aft, g⟩ E L d G (.int k (bits .or k p q)) :=
  O.val rfl hp (fun hG a w ha hw => by rw [r_or (hx.eval hG ha) (hy.eval hG ha)])
theorem O.xor {p q : Int} {k : IntKind} (hp : Pre n all E g d G := by exact ⟨rfl, rfl⟩) (hx : Val G E x (.int k p) := by first | exact vt rfl | exact vs rfl | exact vi rfl and1 | exact vi rfl (fun h => and1 (and1 h)) | exact vi rfl (by simp +contextual)) (hy : Val G E y (.int k q) := by first | exact vt rfl | exact vs rfl | exact vi rfl and1 | exact vi rfl (fun h => and1 (and1 h)) | exact vi rfl (by simp +contextual)) : QV P n w0 L0 all ⟨some d, .binOp .xor T x y T', ty, pos, aft, g⟩ E L d G (.int k (bits .xor k p q)) :=
  O.val rfl hp (fun hG a w ha hw => by rw [r_xor (hx.eval hG ha) (hy.eval hG ha)])
theorem O.shl {p q : Int} {k k' : IntKind} (hp : Pre n all E g d G := by exact ⟨rfl, rfl⟩) (hx : Val G E x (.int k p) := by first | exact vt rfl | exact vs rfl | exact vi rfl and1 | exact vi rfl (fun h => and1 (and1 h)) | exact vi rfl (by simp +contextual)) (hy : Val G E y (.int k' q) := by first | exact vt rfl | exact vs rfl | exact vi rfl and1 | exact vi rfl (fun h => and1 (and1 h)) | exact vi rfl (by simp +contextual)) (h : G = true → 0 ≤ q ∧ q ≤ k.bits := by (intro _; first | decide | omega | (refine ⟨by omega, ?_⟩; show _ ≤ ((64 : Nat) : Int); omega) | (simp <;> omega))) : QV P n w0 L0 all ⟨some d, .binOp .shl T x y T', ty, pos, aft, g⟩ E L d G (.int k (k.wrap (p * 2 ^ q.toNat))) :=
  O.val rfl hp (fun hG a w ha hw => by rw [r_shl (hx.eval hG ha) (hy.eval hG ha) (h hG)])
theorem O.shr {p q : Int} {k k' : IntKind} (hp : Pre n all E g d G := by exact ⟨rfl, rfl⟩) (hx : Val G E x (.int k p) := by first | exact vt rfl | exact vs rfl | exact vi rfl and1 | exact vi rfl (fun h => and1 (and1 h)) | exact vi rfl (by simp +contextual)) (hy : Val G E y (.int k' q) := by first | exact vt rfl | exact vs rfl | exact vi rfl and1 | exact vi rfl (fun h => and1 (and1 h)) | exact vi rfl (by simp +contextual)) (h : G = true → 0 ≤ q ∧ q ≤ k.bits := by (intro _; first | decide | omega | (refine ⟨by omega, ?_⟩; show _ ≤ ((64 : Nat) : Int); omega) | (simp <;> omega))) : QV P n w0 L0 all ⟨some d, .binOp .shr T x y T', ty, pos, aft, g⟩ E L d G (.int k (p / 2 ^ q.toNat)) :=
  O.val rfl hp (fun hG a w ha hw => by rw [r_shr (hx.eval hG ha) (hy.eval hG ha) (h hG)])
theorem O.rem {p q : Int} {k : IntKind} (hp : Pre n all E g d G := by exact ⟨rfl, rfl⟩) (hx : Val G E x (.int k p) := by first | exact vt rfl | exact vs rfl | exact vi rfl and1 | exact vi rfl (fun h => and1 (and1 h)) | exact vi rfl (by simp +contextual)) (hy : Val G E y (.int k q) := by first | exact vt rfl | exact vs rfl | exact vi rfl and1 | exact vi rfl (fun h => and1 (and1 h)) | exact vi rfl (by simp +contextual)) (h : G = true → 0 ≤ p ∧ 0 < q := by (intro _; first | decide | omega | (simp; omega))) : QV P n w0 L0 all ⟨some d, .binOp .rem T x y T', ty, pos, aft, g⟩ E L d G (.int k (p % q)) :=
  O.val rfl hp (fun hG a w ha hw => by rw [r_rem (hx.eval hG ha) (hy.eval hG ha) (h hG)])
theorem O.quo {p q : Int} {k : IntKind} (hp : Pre n all E g d G := by exact ⟨rfl, rfl⟩) (hx : Val G E x (.int k p) := by first | exact vt rfl | exact vs rfl | exact vi rfl and1 | exact vi rfl (fun h => and1 (and1 h)) | exact vi rfl (by simp +contextual)) (hy : Val G E y (.int k q) := by first | exact vt rfl | exact vs rfl | exact vi rfl and1 | exact vi rfl (fun h => and1 (and1 h)) | exact vi rfl (by simp +contextual)) (h : G = true → 0 ≤ p ∧ 0 < q := by (intro _; first | decide | omega | (simp; omega))) : QV P n w0 L0 all ⟨some d, .binOp .quo T x y T', ty, pos, aft, g⟩ E L d G (.int k (k.wrap (p / q))) :=
  O.val rfl hp (fun hG a w ha hw => by rw [r_quo (hx.eval hG ha) (hy.eval hG ha) (h hG)])
theorem wrap_u64 (p : Int) : IntKind.u64.wrap p = p % 18446744073709551616 := rfl
/-- a number as an unsigned one, and back -/
theorem O.cvUn {p : Int} [TInt P T .i64] [TInt P T' .u64] (hp : Pre n all E g d G := by exact ⟨rfl, rfl⟩) (hx : Val G E x (.int .i64 p) := by first | exact vt rfl | exact vs rfl | exact vi rfl and1 | exact vi rfl (by simp +contextual)) : QV P n w0 L0 all ⟨some d, .convert T T' x, ty, pos, aft, g⟩ E L d G (.int .u64 (p % 18446744073709551616)) :=
  O.val rfl hp (fun hG a w ha hw => by rw [r_conv (hx.eval hG ha) TInt.h TInt.h, wrap_u64])
theorem O.cvN {p : Int} [TInt P T .u64] [TInt P T' .i64] (hp : Pre n all E g d G := by exact ⟨rfl, rfl⟩) (hx : Val G E x (.int .u64 p) := by first | exact vt rfl | exact vs rfl | exact vi rfl and1 | exact vi rfl (by simp +contextual)) (h : G = true → -9223372036854775808 ≤ p ∧ p ≤ 9223372036854775807 := by (intro _; omega)) : QV P n w0 L0 all ⟨some d, .convert T T' x, ty, pos, aft, g⟩ E L d G (.int .i64 p) :=
  O.val rfl hp (fun hG a w ha hw => by rw [r_conv (hx.eval hG ha) TInt.h TInt.h, wrap_in _ (h hG)])
theorem O.quoN {p q : Int} (hp : Pre n all E g d G := by exact ⟨rfl, rfl⟩) (hx : Val G E x (.int .i64 p) := by first | exact vt rfl | exact vs rfl | exact vi rfl and1 | exact vi rfl (by simp +contextual)) (hy : Val G E y (.int .i64 q) := by first | exact vt rfl | exact vs rfl | exact vi rfl and1 | exact vi rfl (by simp +contextual)) (h : G = true → 0 ≤ p ∧ 0 < q ∧ p ≤ 9223372036854775807 := by (intro _; omega)) : QV P n w0 L0 all ⟨some d, .binOp .quo T x y T', ty, pos, aft, g⟩ E L d G (.int .i64 (p / q)) :=
  O.val rfl hp (fun hG a w ha hw => by
    obtain ⟨h1, h2, h3⟩ := h hG
    have h4 := Int.ediv_nonneg h1 (Int.le_of_lt h2)
    have h5 := Int.ediv_le_self q h1
    rw [r_quo (hx.eval hG ha) (hy.eval hG ha) ⟨h1, h2⟩, wrap_in _ (by omega)])
end
end Go.Proofs.YtfmdaijkgjkmpaaGreatDoor

set_option linter.unusedVariables false
set_option linter.unusedSimpArgs false
namespace Go.Proofs.YtfmdaijkgjkmpaaGreatDoor
open Go Go.RowKit
/-- a row of cells lies behind an address -/
def In (w : World) (a : Option Addr) (cs : List Value) : Prop :=
  cs = [] ∨ ∃ b o arr U fz, a = some ⟨b, o, none⟩ ∧ w.heap[b]? = some (.cells arr U fz) ∧ ∀ k, k < cs.length → arr[o + k]? = cs[k]?
def elt (a : Option Addr) (m j o : Nat) : Option Addr := a.map fun q => ⟨q.block, q.off + (j * m + o), none⟩
theorem flat_at {α : Type} {enc : α → List Value} {m : Nat} (hm : ∀ x, (enc x).length = m) (dv : α) : ∀ (xs : List α) (j o : Nat), j < xs.length → o < m → j * m + o < (xs.flatMap enc).length ∧ (xs.flatMap enc)[j * m + o]? = (enc (xs.getD j dv))[o]?
  | [], j, o, h, _ => by simp at h
  | x :: xs, 0, o, _, ho => by
    simp only [List.flatMap_cons, Nat.zero_mul, Nat.zero_add, List.getD_cons_zero, List.length_append, hm]
    exact ⟨by omega, List.getElem?_append_left (by rw [hm]; exact ho)⟩
  | x :: xs, j + 1, o, h, ho => by
    have ih := flat_at hm dv xs j o (by simpa using h) ho
    have e : (j + 1) * m + o = m + (j * m + o) := by rw [Nat.add_mul]; omega
    simp only [List.flatMap_cons, List.getD_cons_succ, List.length_append, hm, e]
    refine ⟨by omega, ?_⟩
    rw [List.getElem?_append_right (by rw [hm]; omega), hm, ← ih.2]
    congr 1; omega
theorem In.at {w : World} {a : Option Addr} {α : Type} {enc : α → List Value} {m : Nat} {xs : List α} (h : In w a (xs.flatMap enc)) (hm : ∀ x, (enc x).length = m) (dv : α) {j o : Nat} (hj : j < xs.length) (ho : o < m) :
    ∃ b p arr U fz, elt a m j o = some ⟨b, p, none⟩ ∧ w.heap[b]? = some (.cells arr U fz) ∧ ∀ k, o + k < m → arr[p + k]? = (enc (xs.getD j dv))[o + k]? := by
  have hf := flat_at hm dv xs j o hj ho
  rcases h with h | ⟨b, q, arr, U, fz, rfl, hb, hc⟩
  · rw [h] at hf; simp at hf
  · refine ⟨b, q + (j * m + o), arr, U, fz, rfl, hb, fun k hk => ?_⟩
    have hk' := flat_at hm dv xs j (o + k) hj hk
    have := hc _ hk'.1
    rw [show q + (j * m + o) + k = q + (j * m + (o + k)) by omega, this, hk'.2]
/-- rows that can be read, whatever else goes on -/
class RowL (w0 : World) (L0 L : Heap) (a : Option Addr) (m : outParam Nat) (α : outParam Type) (dv : outParam α) (enc : outParam (α → List Value)) (xs : outParam (List α)) : Prop where
  h : ∀ w, Upd w0 L0 w L → In w a (xs.flatMap enc)
  hm : ∀ x, (enc x).length = m
  pos : 0 < m
/-- the same, of the world at entry -/
class Row (w0 : World) (L0 : Heap) (a : Option Addr) (m : outParam Nat) (α : outParam Type) (dv : outParam α) (enc : outParam (α → List Value)) (xs : outParam (List α)) : Prop where
  h : ∀ L w, Upd w0 L0 w L → In w a (xs.flatMap enc)
  hm : ∀ x, (enc x).length = m
  pos : 0 < m
instance RowL.row {w0 : World} {L0 L : Heap} {a : Option Addr} {m : Nat} {α : Type} {dv : α} {enc : α → List Value} {xs : List α} [r : Row w0 L0 a m α dv enc xs] : RowL w0 L0 L a m α dv enc xs := ⟨r.h L, r.hm, r.pos⟩
theorem Row.of {w0 : World} {a : Option Addr} {m : Nat} {α : Type} (dv : α) {enc : α → List Value} {xs : List α} (h : In w0 a (xs.flatMap enc)) (hm : ∀ x, (enc x).length = m) (pos : 0 < m) : Row w0 [] a m α dv enc xs :=
  ⟨fun L w hw => by
    rcases h with h | ⟨b, q, arr, U, fz, ha, hb, hc⟩
    · exact .inl h
    · exact .inr ⟨b, q, arr, U, fz, ha, by rw [hw.old b (Array.getElem?_eq_some_iff.1 hb).1 (by simp), hb], hc⟩, hm, pos⟩
/-- cells: rows, and what lies behind them -/
def flat {α : Type} (enc : α → List Value) (xs : List α) (sp : List Value) : List Value := xs.flatMap enc ++ sp
class Enc {α : Type} (enc : α → List Value) (m : outParam Nat) (dv : outParam α) : Prop where
  hm : ∀ x, (enc x).length = m
  pos : 0 < m
theorem Row.ofE {w0 : World} {a : Option Addr} {m : Nat} {α : Type} {dv : α} {enc : α → List Value} {xs : List α} [e : Enc enc m dv] (h : In w0 a (xs.flatMap enc)) : Row w0 [] a m α dv enc xs := Row.of dv h e.hm e.pos
instance RowL.own {w0 : World} {L0 L : Heap} {b m : Nat} {α : Type} {dv : α} {enc : α → List Value} {xs : List α} {sp : List Value} {U : TypeId} {fz : Nat × Nat} [hb : Blk L b (.cells (flat enc xs sp).toArray U fz)] [he : Enc enc m dv] : RowL w0 L0 L (some ⟨b, 0, none⟩) m α dv enc xs :=
  ⟨fun w hw => .inr ⟨b, 0, _, U, fz, rfl, hw.has _ hb.h, fun k hk => by
    simp only [Nat.zero_add, List.getElem?_toArray, flat]
    exact List.getElem?_append_left hk⟩, he.hm, he.pos⟩
section
variable {P : Program} {d n : Nat} {w0 : World} {L0 L : Heap} {all : List Oper} {E : Env} {x y z : Operand} {T T' U ty : TypeId} {pos : String} {aft : Array Edge} {g : Option (Nat × Bool)} {G : Bool}
variable {α : Type} {dv : α} {enc : α → List Value} {xs : List α} {m : Nat} {a : Option Addr}
theorem r_ixA {ρ : Operand → Value} {w : World} {D : Option Tmp} {q : Addr} {len cap m : Nat} {i : Int} {k : IntKind} (hx : ρ x = .slice (some q) len cap) (hy : ρ y = .int k i) [hT : TSlice P T U] [hU : TSize P U m] (h0 : 0 ≤ i) (h1 : i < len) :
    (execOp ρ ⟨D, .indexAddr T x y, ty, pos, aft, g⟩).run P w = .ok (.value (.pointer (some (q.add (i.toNat * m))))) w := by
  simp [execOp, hx, hy, Instr.indexAt, asIntOf, go_sem, Sem.run_bind, run_underlying hT.h, h0, h1, TSize.run (T := U) w]
/-- the address of an element -/
theorem O.ixA {len cap : Nat} {i : Int} {k : IntKind} [TSlice P T U] [TSize P U m] (hp : Pre n all E g d G := by exact ⟨rfl, rfl⟩) (hx : Val G E x (.slice a len cap) := by first | exact vt rfl | exact vs rfl | exact vi rfl and1 | exact vi rfl (fun h => and1 (and1 h)) | exact vi rfl (by simp +contextual)) (hy : Val G E y (.int k i) := by first | exact vt rfl | exact vs rfl | exact vi rfl and1 | exact vi rfl (fun h => and1 (and1 h)) | exact vi rfl (by simp +contextual)) (r : RowL w0 L0 L a m α dv enc xs := by infer_instance) (hl : len = xs.length := by first | rfl | omega | (simp; omega)) (h : G = true → 0 ≤ i ∧ i < xs.length := by (intro hg; first | omega | (simp only [cond_true, cond_false, Bool.true_and, Bool.cond_false_right, Bool.cond_true_left, Bool.and_eq_true, Bool.or_eq_true, Bool.not_eq_true', Bool.not_eq_false', decide_eq_true_eq, decide_eq_false_iff_not, ← List.length_eq_zero_iff, List.length_cons, List.length_append, List.length_drop, List.length_take, Int.reduceToNat] at *; omega))) :
    QV P n w0 L0 all ⟨some d, .indexAddr T x y, ty, pos, aft, g⟩ E L d G (.pointer (elt a m i.toNat 0)) :=
  O.val rfl hp (fun hG A w ha hw => by
    have h1 := h hG
    obtain ⟨b, p, arr, U', fz, he, _, _⟩ := (r.h w hw).at r.hm dv (j := i.toNat) (o := 0) (by omega) r.pos
    cases a with
    | none => simp [elt] at he
    | some q =>
      rw [r_ixA (U := U) (m := m) (hx.eval hG ha) (hy.eval hG ha) h1.1 (by rw [hl]; exact h1.2)]
      have e : q.spot = none ∨ True := .inr trivial
      have := r.h w hw
      rcases this with h2 | ⟨b', o', arr', U2, fz2, e2, _, _⟩
      · have := flat_at r.hm dv xs i.toNat 0 (by omega) r.pos
        rw [h2] at this; simp at this
      · cases e2; simp [elt, Addr.add_at])
theorem O.fe {j o o' : Nat} {i : Nat} [hF : TField P T i o'] (hp : Pre n all E g d G := by exact ⟨rfl, rfl⟩) (hx : Val G E x (.pointer (elt a m j o)) := by first | exact vt rfl | exact vs rfl | exact vi rfl and1 | exact vi rfl (fun h => and1 (and1 h)) | exact vi rfl (by simp +contextual)) (hs : G = true → (elt a m j o).isSome = true := by exact fun _ => rfl) :
    QV P n w0 L0 all ⟨some d, .fieldAddr T x i, ty, pos, aft, g⟩ E L d G (.pointer (elt a m j (o + o'))) :=
  O.val rfl hp (fun hG A w ha hw => by
    have h1 := hs hG
    cases a with
    | none => simp [elt] at h1
    | some q =>
      have hx' := hx.eval hG ha
      simp only [elt, Option.map_some] at hx' ⊢
      rw [TField.run (P := P) (T := T) (i := i) (o := o') hx', Addr.add_at]
      simp only [Nat.add_assoc])
/-- the same, of a row that is read -/
theorem O.feR {j o o' : Nat} {i : Nat} [hF : TField P T i o'] (hp : Pre n all E g d G := by exact ⟨rfl, rfl⟩) (hx : Val G E x (.pointer (elt a m j o)) := by first | exact vt rfl | exact vs rfl | exact vi rfl and1 | exact vi rfl (fun h => and1 (and1 h)) | exact vi rfl (by simp +contextual)) (r : RowL w0 L0 L a m α dv enc xs := by infer_instance) (hj : G = true → j < xs.length := by (intro hg; first | omega | (simp only [cond_true, cond_false, Bool.true_and, Bool.cond_false_right, Bool.cond_true_left, Bool.and_eq_true, Bool.or_eq_true, Bool.not_eq_true', Bool.not_eq_false', decide_eq_true_eq, decide_eq_false_iff_not, ← List.length_eq_zero_iff, List.length_cons, List.length_append, List.length_drop, List.length_take, Int.reduceToNat] at *; omega))) :
    QV P n w0 L0 all ⟨some d, .fieldAddr T x i, ty, pos, aft, g⟩ E L d G (.pointer (elt a m j (o + o'))) :=
  O.val rfl hp (fun hG A w ha hw => by
    obtain ⟨b, p, arr, U', fz, he, _, _⟩ := (r.h w hw).at r.hm dv (j := j) (o := 0) (hj hG) r.pos
    cases a with
    | none => simp [elt] at he
    | some q =>
      have hx' := hx.eval hG ha
      simp only [elt, Option.map_some] at hx' ⊢
      rw [TField.run (P := P) (T := T) (i := i) (o := o') hx', Addr.add_at]
      simp only [Nat.add_assoc])
/-- a cell of an element is read -/
theorem O.ldE {j o : Nat} {v : Value} [TScal P T] (hp : Pre n all E g d G := by exact ⟨rfl, rfl⟩) (hx : Val G E x (.pointer (elt a m j o)) := by first | exact vt rfl | exact vs rfl | exact vi rfl and1 | exact vi rfl (fun h => and1 (and1 h)) | exact vi rfl (by simp +contextual)) (r : RowL w0 L0 L a m α dv enc xs := by infer_instance) (hj : G = true → j < xs.length := by (intro hg; first | omega | (simp only [cond_true, cond_false, Bool.true_and, Bool.cond_false_right, Bool.cond_true_left, Bool.and_eq_true, Bool.or_eq_true, Bool.not_eq_true', Bool.not_eq_false', decide_eq_true_eq, decide_eq_false_iff_not, ← List.length_eq_zero_iff, List.length_cons, List.length_append, List.length_drop, List.length_take, Int.reduceToNat] at *; omega))) [hv : Nth (enc (xs.getD j dv)) o v] :
    QV P n w0 L0 all ⟨some d, .load T x, ty, pos, aft, g⟩ E L d G v :=
  O.val rfl hp (fun hG A w ha hw => by
    have ho : o < m := by
      have := hv.h
      rw [← r.hm (xs.getD j dv)]
      exact (List.getElem?_eq_some_iff.1 this).1
    obtain ⟨b, p, arr, U', fz, he, hb, hc⟩ := (r.h w hw).at r.hm dv (hj hG) ho
    have h0 := hc 0 (by omega)
    simp only [Nat.add_zero] at h0
    rw [hv.h] at h0
    have hx' := hx.eval hG ha
    rw [he] at hx'
    have hb' : w.heap[b]? = some (.cells arr.toList.toArray U' fz) := by simpa using hb
    have := run_load_one (P := P) (T := T) (o := p) (v := v) hb' (by simpa using h0)
    simp [execOp, Instr.loadAt, Instr.sureAddr, hx', Sem.run_bind, this])
theorem O.ldsE {j o m' : Nat} {vs : List Value} [TAgg P T m'] (hp : Pre n all E g d G := by exact ⟨rfl, rfl⟩) (hx : Val G E x (.pointer (elt a m j o)) := by first | exact vt rfl | exact vs rfl | exact vi rfl and1 | exact vi rfl (fun h => and1 (and1 h)) | exact vi rfl (by simp +contextual)) (r : RowL w0 L0 L a m α dv enc xs := by infer_instance) (hj : G = true → j < xs.length := by (intro hg; first | omega | (simp only [cond_true, cond_false, Bool.true_and, Bool.cond_false_right, Bool.cond_true_left, Bool.and_eq_true, Bool.or_eq_true, Bool.not_eq_true', Bool.not_eq_false', decide_eq_true_eq, decide_eq_false_iff_not, ← List.length_eq_zero_iff, List.length_cons, List.length_append, List.length_drop, List.length_take, Int.reduceToNat] at *; omega))) [hv : Sub (enc (xs.getD j dv)) o m' vs] (hpos : 0 < m' := by decide) :
    QV P n w0 L0 all ⟨some d, .load T x, ty, pos, aft, g⟩ E L d G (.agg vs.toArray) :=
  O.val rfl hp (fun hG A w ha hw => by
    have h2 := hv.h
    have hle : o + m' ≤ m := by rw [← r.hm (xs.getD j dv)]; exact h2.2
    obtain ⟨b, p, arr, U', fz, he, hb, hc⟩ := (r.h w hw).at r.hm dv (hj hG) (o := o) (by omega)
    have hx' := hx.eval hG ha
    rw [he] at hx'
    have hb' : w.heap[b]? = some (.cells arr.toList.toArray U' fz) := by simpa using hb
    have hk : ∀ k, k < m' → arr.toList[p + k]? = vs[k]? := fun k hk => by
      have := hc k (by omega)
      rw [← h2.1, List.getElem?_take, if_pos hk, List.getElem?_drop]
      simpa using this
    have hl : vs.length = m' := by rw [← h2.1, List.length_take, List.length_drop]; have := h2.2; omega
    have hsub : Sub arr.toList p m' vs := ⟨by
      apply List.ext_getElem?
      intro k
      rw [List.getElem?_take]
      split
      · rename_i hlt; rw [List.getElem?_drop, hk k hlt]
      · exact (List.getElem?_eq_none (by omega)).symm, by
      have := hk (m' - 1) (by omega)
      rw [List.getElem?_eq_getElem (l := vs) (by omega)] at this
      have := (List.getElem?_eq_some_iff.1 this).1
      simp at this ⊢; omega⟩
    have := run_load_sub (P := P) (T := T) (m := m') (o := p) hb' (vs := vs)
    simp [execOp, Instr.loadAt, Instr.sureAddr, hx', Sem.run_bind, this])
end
section
variable {P : Program} {d n : Nat} {w0 : World} {L0 L : Heap} {all rest : List Oper} {E : Env} {Q : Post} {x y z : Operand} {T T' U ty : TypeId} {pos : String} {aft : Array Edge} {g : Option (Nat × Bool)} {G : Bool}
theorem r_bs {ps : List (Nat × Value)} {len m : Nat} {zv : Value} {w : World} [hT : TSlice P T U] [hU : TSize P U m] [hZ : TZero P U zv] (hps : ps = ((ps.map Prod.snd).zipIdx 0).map fun x => (x.2, x.1)) (hlen : ps.length = len) (hm : (ps.map Prod.snd).all (fun v => v.cells.size == m) = true) (hb : 0 < m ∧ 0 < len ∧ len * m ≤ 2 ^ 24) :
    (Instr.buildSlice T len ps.toArray).run P w = .ok (.slice (some ⟨w.heap.size, 0, none⟩) len len) (w.alloc (.cells ((ps.map Prod.snd).flatMap fun v => v.cells.toList).toArray U)) := by
  have hi := hU.h; have hz := hZ.h
  cases hu : P.info? U with
  | none => simp [hu] at hi
  | some i =>
    simp only [hu, Option.map_some, Option.some.injEq, Option.bind_some] at hi hz
    refine run_buildSlice w T U len ps.toArray _ i zv hT.h hu hz (by rw [hi]; omega) ?_ ?_
    · rw [hi]; exact Nat.ne_of_gt (Nat.mul_pos hb.2.1 hb.1)
    · rw [hi]
      have := Go.Great.fill_whole hb.1 (ps.map Prod.snd) ((Array.range (len * m)).map (zv.cells[· % zv.cells.size]!)) (fun v hv => by simpa using List.all_eq_true.1 hm v hv) (by simp [hlen])
      rw [← hps] at this
      simpa using this
/-- a slice that is built -/
theorem W.bs {α : Type} (enc : α → List Value) (ys : List α) {xs : List (Nat × Operand)} {ps : List (Nat × Value)} {len m : Nat} {zv : Value} [TSlice P T U] [TSize P U m] [TZero P U zv] (hn : Nat.blt d n = true) (hv : PV true E xs ps) (hps : ps = ((ps.map Prod.snd).zipIdx 0).map fun x => (x.2, x.1)) (hlen : ps.length = len) (hm : (ps.map Prod.snd).all (fun v => v.cells.size == m) = true) (hb : 0 < m ∧ 0 < len ∧ len * m ≤ 2 ^ 24) (hf : ((ps.map Prod.snd).flatMap fun v => v.cells.toList) = flat enc ys [])
    (k : ∀ b, WL P n w0 L0 all rest ((d, true, .slice (some ⟨b, 0, none⟩) len len) :: E) ((b, .cells (flat enc ys []).toArray U (0, 0)) :: L) Q) : WL P n w0 L0 all (⟨some d, .buildSlice T len xs.toArray, ty, pos, aft, none⟩ :: rest) E L Q :=
  W.new (v := fun b => .slice (some ⟨b, 0, none⟩) len len) rfl rfl hn (fun a w ha _ => by
    have h := r_bs (P := P) (T := T) (U := U) (m := m) (w := w) hps hlen hm hb
    have e : (xs.toArray.map fun (x : Nat × Operand) => (x.1, a.eval x.2)) = ps.toArray := by rw [List.map_toArray, hv.eval ha rfl]
    simp only [execOp, e]
    simp [Sem.run_bind, h, hf]) k
end
/-- ways that meet: what holds behind the first part, said once -/
theorem CW.join {P : Program} {n : Nat} {w0 : World} {L0 : Heap} {c y : Code} {E : Env} {L : Heap} {Q : Post} {X : Type} (F : X → Env) (H : X → Heap) (I : X → Prop)
    (h : CW P n w0 L0 c E L (thenQ (fun E' L' => ∃ x, I x ∧ SubE (F x) E' ∧ (H x).Sublist L') Q)) (k : ∀ x, I x → CW P n w0 L0 y (F x) (H x) Q) : CW P n w0 L0 (.seq c y) E L Q :=
  CW.seq (CW.post h fun e E' L' hq => by
    cases e with
    | normal => obtain ⟨x, hx, hE, hL⟩ := hq; exact CW.weak hE hL (k x hx)
    | _ => exact hq)
abbrev encS : List UInt8 → List Value := fun s => [.string (S s)]
abbrev encI : Int → List Value := fun i => [.int .i64 i]
instance : Enc encS 1 [] := ⟨fun _ => rfl, by decide⟩
instance : Enc encI 1 0 := ⟨fun _ => rfl, by decide⟩
end Go.Proofs.YtfmdaijkgjkmpaaGreatDoor

set_option linter.unusedVariables false
set_option linter.unusedSimpArgs false
namespace Go.Proofs.YtfmdaijkgjkmpaaGreatDoor
open Go Go.RowKit
def oa (o : Option Nat) : Option Addr := o.map fun b => ⟨b, 0, none⟩
def rowL (o : Option Nat) (U : TypeId) (cs : List Value) : Heap := match o with | none => [] | some b => [(b, .cells cs.toArray U (0, 0))]
/-- the row of an owned slice, set apart -/
class Cut (L : Heap) (o : Option Nat) (U : outParam TypeId) (cs : outParam (List Value)) (L' : outParam Heap) : Prop where h : L.Perm (rowL o U cs ++ L')
instance (priority := high) Cut.head {L : Heap} {o : Option Nat} {U : TypeId} {cs : List Value} : Cut (rowL o U cs ++ L) o U cs L := ⟨List.Perm.refl _⟩
instance (priority := high) Cut.one {o : Option Nat} {U : TypeId} {cs : List Value} : Cut (rowL o U cs) o U cs [] := ⟨by simp⟩
instance (priority := high) Cut.some {L : Heap} {b : Nat} {U : TypeId} {cs : List Value} : Cut ((b, .cells cs.toArray U (0, 0)) :: L) (some b) U cs L := ⟨List.Perm.refl _⟩
instance Cut.tail {L L' : Heap} {p : Nat × Obj} {o : Option Nat} {U : TypeId} {cs : List Value} [h : Cut L o U cs L'] : Cut (p :: L) o U cs (p :: L') := ⟨(List.Perm.cons p h.h).trans List.perm_middle.symm⟩
instance Cut.app {L L' M : Heap} {o : Option Nat} {U : TypeId} {cs : List Value} [h : Cut L o U cs L'] : Cut (M ++ L) o U cs (M ++ L') := ⟨by
  refine (List.Perm.append_left M h.h).trans ?_
  rw [← List.append_assoc, ← List.append_assoc]
  exact List.Perm.append_right L' List.perm_append_comm⟩
/-- the state of an owned slice: its capacity, its spare cells -/
def OwnOk (o : Option Nat) (c m n s : Nat) : Prop := (o = none → n = 0 ∧ c = 0 ∧ s = 0) ∧ n * m + s = c * m ∧ n ≤ c ∧ c ≤ maxLen
theorem OwnOk.nil {m : Nat} : OwnOk none 0 m 0 0 := ⟨fun _ => ⟨rfl, rfl, rfl⟩, by simp, by simp, by simp⟩
class TByt (P : Program) (T : TypeId) (k : outParam Nat) : Prop where
  h : (P.info? T).map (·.bytes) = some k
  pos : 0 < k
class EncOne {α : Type} (enc : α → List Value) : Prop where h : ∀ x, ∀ u ∈ enc x, u.oneCell' = true
instance : EncOne encS := ⟨fun x u hu => by simp at hu; subst hu; rfl⟩
instance : EncOne encI := ⟨fun x u hu => by simp at hu; subst hu; rfl⟩
section
variable {P : Program} {w0 w : World} {L0 L L' : Heap} {T U ty : TypeId} {α : Type} {enc : α → List Value} {dv : α} {m k : Nat} {z : Value}
theorem run_ap {o : Option Nat} {c c2 : Nat} {xs ys : List α} {sp : List Value} {a : Option Addr} [hT : TSlice P T U] [hS : TSize P U m] [hZ : TZero P U z] [hB : TByt P U k] [he : Enc enc m dv] [h1 : EncOne enc] (hz : z.cells.size = m)
    (hw : Upd w0 L0 w (rowL o U (flat enc xs sp) ++ L')) (hk : OwnOk o c m xs.length sp.length) (hy : In w a (ys.flatMap enc)) (hb : (xs.length + ys.length) * k ≤ 140737488355328) :
    ∃ o' c' sp' w', (Builtin.append_ #[T, T] ty #[.slice (oa o) xs.length c, .slice a ys.length c2]).run P w = .ok (.slice (oa o') (xs ++ ys).length c') w' ∧ OwnOk o' c' m (xs ++ ys).length (List.length sp') ∧ Upd w0 L0 w' (rowL o' U (flat enc (xs ++ ys) sp') ++ L') ∧ (ys ≠ [] → ∃ b, o' = some b) ∧ ((∀ b, o = some b → 0 < c) → ∀ b, o' = some b → 0 < c') := by
  have hn1 : xs.length + ys.length ≤ 140737488355328 := Nat.le_trans (Nat.le_mul_of_pos_right _ hB.pos) hb
  have hi := hS.h; have hzz := hZ.h; have hbb := hB.h
  cases hu : P.info? U with
  | none => simp [hu] at hi
  | some i =>
  simp only [hu, Option.map_some, Option.some.injEq, Option.bind_some] at hi hzz hbb
  subst hi; subst hbb
  have fl : ∀ l : List α, (l.flatMap enc).length = l.length * i.size := by
    intro l
    induction l with
    | nil => simp
    | cons y l ih => simp only [List.flatMap_cons, List.length_append, he.hm, ih, List.length_cons, Nat.add_mul]; omega
  cases ys with
  | nil =>
    refine ⟨o, c, sp, w, ?_, by simpa using hk, by simpa using hw, fun h => absurd rfl h, fun h => h⟩
    have hf : (Builtin.firstCells i.size 0 (.slice a 0 c2)).run P w = .ok #[] w := by
      cases a with
      | none => exact run_firstCells_none w _ _ _ _
      | some q => exact run_firstCells_some w i.size 0 q 0 c2 [] (by simp) (by simp)
    cases o with
    | none => simp [Builtin.append_, oa, run_underlying hT.h, sizeOf, typeInfo, hu, Builtin.lenOf, hk.2.2.1, hf]
    | some g => simp [Builtin.append_, oa, run_underlying hT.h, sizeOf, typeInfo, hu, Builtin.lenOf, hk.2.2.1, hf, storeCells]
  | cons y0 yr =>
    generalize hys : y0 :: yr = ys at *
    have hne : ys ≠ [] := by rw [← hys]; simp
    have hyl : 0 < ys.length := by rw [← hys]; simp
    have hnewl := fl ys
    obtain ⟨b2, o2, arr, U2, fz2, rfl, hb2, hc2⟩ : ∃ b o arr U fz, a = some ⟨b, o, none⟩ ∧ w.heap[b]? = some (.cells arr U fz) ∧ ∀ k, k < (ys.flatMap enc).length → arr[o + k]? = (ys.flatMap enc)[k]? := by
      rcases hy with h | h
      · have := hnewl; rw [h] at this
        have : 0 < ys.length * i.size := Nat.mul_pos hyl he.pos
        simp at *; omega
      · exact h
    have hnews : ∀ j v, (ys.flatMap enc)[j]? = some v → w.cell? ((⟨b2, o2, none⟩ : Addr).add j) = some v := fun j v hv => by
      have hj := (List.getElem?_eq_some_iff.1 hv).1
      rw [Addr.add_at]
      unfold World.cell?
      simp [hb2, hc2 j hj, hv]
    have hone : ∀ u ∈ ys.flatMap enc, u.oneCell' = true := fun u hu => by
      obtain ⟨x, _, hx⟩ := List.mem_flatMap.1 hu
      exact h1.h x u hx
    have hfl : (xs ++ ys).flatMap enc = xs.flatMap enc ++ ys.flatMap enc := List.flatMap_append
    have hmax : xs.length + ys.length ≤ maxLen := by simp only [maxLen]; omega
    have hlen' : (xs ++ ys).length = xs.length + ys.length := List.length_append
    cases o with
    | none =>
      obtain ⟨hx0, rfl, hs0⟩ := hk.1 rfl
      have hx : xs = [] := List.eq_nil_of_length_eq_zero hx0
      have hs : sp = [] := List.eq_nil_of_length_eq_zero hs0
      subst hx; subst hs
      have hr := run_append_nil (P := P) w T ty U i z hT.h hu hzz ⟨b2, o2, none⟩ ys.length c2 _ hnewl hnews hyl (by omega) (by simp at hb; omega)
      refine ⟨some w.heap.size, _, (Builtin.zeroCells z.cells (grownCap w ys.length 0 U - ys.length)).toList, _, hr, ?_, ?_, fun _ => ⟨_, rfl⟩, fun _ _ _ => by have hge := grownCap_ge w ys.length 0 U; omega⟩
      · have hge := grownCap_ge w ys.length 0 U
        refine ⟨by simp, ?_, by simpa using hge, grownCap_le_maxLen w _ 0 U (by simpa using hmax)⟩
        simp only [List.nil_append, Array.length_toList, size_zeroCells, hz, ← Nat.add_mul]
        congr 1; omega
      · have h2 := ((hw.sub (List.sublist_append_right _ _)).same (w' := w.drew) rfl rfl rfl rfl).alloc (.cells ((ys.flatMap enc).toArray ++ Builtin.zeroCells z.cells (grownCap w ys.length 0 U - ys.length)) U)
        have e : ((ys.flatMap enc).toArray ++ Builtin.zeroCells z.cells (grownCap w ys.length 0 U - ys.length)) = (flat enc ([] ++ ys) (Builtin.zeroCells z.cells (grownCap w ys.length 0 U - ys.length)).toList).toArray := by
          apply Array.ext'; simp [flat]
        rw [e] at h2 ⊢
        exact h2
    | some g =>
      have hg : w.heap[g]? = some (.cells (flat enc xs sp).toArray U (0, 0)) := hw.has (g, .cells (flat enc xs sp).toArray U (0, 0)) (by simp [rowL])
      by_cases hroom : xs.length + ys.length ≤ c
      · have hcs : (flat enc xs sp).length = c * i.size := by rw [flat, List.length_append, fl]; exact hk.2.1
        have hfit : xs.length * i.size + (ys.flatMap enc).length ≤ (flat enc xs sp).toArray.size := by
          rw [hnewl, List.size_toArray, hcs, ← Nat.add_mul]; exact Nat.mul_le_mul_right _ hroom
        have hr := run_append_room (P := P) w T ty U i hT.h hu g xs.length c _ hg ⟨b2, o2, none⟩ ys.length c2 _ hnewl hnews hone hroom hfit
        have e : ((flat enc xs sp).toArray.toList.take (xs.length * i.size) ++ ys.flatMap enc ++ (flat enc xs sp).toArray.toList.drop (xs.length * i.size + (ys.flatMap enc).length)) = flat enc (xs ++ ys) (sp.drop (ys.length * i.size)) := by
          simp only [List.toList_toArray, flat, hfl, ← fl xs]
          rw [List.take_left, List.append_assoc, List.append_assoc]
          congr 2
          rw [List.drop_append, List.drop_eq_nil_of_le (by omega), List.nil_append]
          congr 1; rw [hnewl]; omega
        rw [e] at hr
        refine ⟨some g, c, sp.drop (ys.length * i.size), _, by rw [hlen']; exact hr, ?_, hw.setRow ⟨[], L', rfl, rfl⟩, fun _ => ⟨_, rfl⟩, fun _ _ _ => by omega⟩
        refine ⟨by simp, ?_, by omega, hk.2.2.2⟩
        have h3 := hk.2.1
        have h4 : (xs.length + ys.length) * i.size ≤ c * i.size := Nat.mul_le_mul_right _ hroom
        rw [hlen', List.length_drop]
        rw [Nat.add_mul] at h4 ⊢
        omega
      · have holds : ∀ j u, (xs.flatMap enc)[j]? = some u → w.cell? ((⟨g, 0, none⟩ : Addr).add j) = some u := fun j u hu' => by
          have hj := (List.getElem?_eq_some_iff.1 hu').1
          rw [Addr.add_at]
          unfold World.cell?
          simp only [hg, Option.isSome_none, Bool.false_eq_true, if_false, Nat.zero_add, List.getElem?_toArray, flat]
          rw [List.getElem?_append_left hj]; exact hu'
        have hr := run_append_grow (P := P) w T ty U i z hT.h hu hzz ⟨g, 0, none⟩ xs.length c _ (fl xs) holds ⟨b2, o2, none⟩ ys.length c2 _ hnewl hnews (by omega) (by omega) (growslice_fits (by omega) hb)
        refine ⟨some w.heap.size, _, (Builtin.zeroCells z.cells (grownCap w (xs.length + ys.length) c U - (xs.length + ys.length))).toList, _, by rw [hlen']; exact hr, ?_, ?_, fun _ => ⟨_, rfl⟩, fun _ _ _ => by have hge := grownCap_ge w (xs.length + ys.length) c U; omega⟩
        · have hge := grownCap_ge w (xs.length + ys.length) c U
          refine ⟨by simp, ?_, by rw [hlen']; exact hge, grownCap_le_maxLen w _ c U hmax⟩
          simp only [hlen', Array.length_toList, size_zeroCells, hz, ← Nat.add_mul]
          congr 1; omega
        · have h2 := ((hw.sub (List.sublist_append_right _ _)).same (w' := w.drew) rfl rfl rfl rfl).alloc (.cells ((xs.flatMap enc).toArray ++ (ys.flatMap enc).toArray ++ Builtin.zeroCells z.cells (grownCap w (xs.length + ys.length) c U - (xs.length + ys.length))) U)
          have e : ((xs.flatMap enc).toArray ++ (ys.flatMap enc).toArray ++ Builtin.zeroCells z.cells (grownCap w (xs.length + ys.length) c U - (xs.length + ys.length))) = (flat enc (xs ++ ys) (Builtin.zeroCells z.cells (grownCap w (xs.length + ys.length) c U - (xs.length + ys.length))).toList).toArray := by
            apply Array.ext'; simp [flat]
          rw [e] at h2 ⊢
          exact h2
variable {d n : Nat} {all rest : List Oper} {E : Env} {Q : Post} {x y : Operand} {pos : String} {aft : Array Edge}
theorem W.loud {o : Oper} (hd : o.dst = some d) (hg : o.guard = none) (hn : Nat.blt d n = true) {R : Value → Heap → Prop}
    (hr : ∀ a w, EnvOk n E a → Upd w0 L0 w L → ∃ v w' L', (execOp a.eval o).run P w = .ok (.value v) w' ∧ Upd w0 L0 w' L' ∧ R v L')
    (k : ∀ v L', R v L' → WL P n w0 L0 all rest ((d, true, v) :: E) L' Q) : WL P n w0 L0 all (o :: rest) E L Q := by
  intro a w ha hw
  have hlt : d < n := by simpa using hn
  refine wpList_plain hg fun K hK => ?_
  obtain ⟨v, w', L', h1, h2, h3⟩ := hr a w ha hw
  simp only [Oper.wp, h1, Oper.upon, hd]
  exact hK _ _ (k _ _ h3 _ _ (ha.put (G := true) hlt) h2)
/-- 'append', of an owned slice -/
theorem W.ap {o : Option Nat} {c c2 nx ny : Nat} {xs ys : List α} {sp : List Value} {a : Option Addr} [hT : TSlice P T U] [hS : TSize P U m] [hZ : TZero P U z] [hB : TByt P U k] [he : Enc enc m dv] [h1 : EncOne enc]
    (hn : Nat.blt d n = true) (hx : Val true E x (.slice (oa o) nx c)) (hy : Val true E y (.slice a ny c2)) (hnx : nx = xs.length) (hny : ny = ys.length) (hz : z.cells.size = m)
    [hc : Cut L o U (flat enc xs sp) L'] (hk : OwnOk o c m xs.length sp.length) [hr : RowL w0 L0 L a m α dv enc ys] (hb : (xs.length + ys.length) * k ≤ 140737488355328)
    (kk : ∀ o' c' sp', OwnOk o' c' m (xs ++ ys).length (List.length sp') → (ys ≠ [] → ∃ b, o' = some b) → ((∀ b, o = some b → 0 < c) → ∀ b, o' = some b → 0 < c') → WL P n w0 L0 all rest ((d, true, .slice (oa o') (xs ++ ys).length c') :: E) (rowL o' U (flat enc (xs ++ ys) sp') ++ L') Q) :
    WL P n w0 L0 all (⟨some d, .call ⟨.builtin .append, #[x, y], #[T, T]⟩, ty, pos, aft, none⟩ :: rest) E L Q :=
  W.loud rfl rfl hn (R := fun v L2 => ∃ o' c' sp', OwnOk o' c' m (xs ++ ys).length (List.length sp') ∧ (ys ≠ [] → ∃ b, o' = some b) ∧ ((∀ b, o = some b → 0 < c) → ∀ b, o' = some b → 0 < c') ∧ v = .slice (oa o') (xs ++ ys).length c' ∧ L2 = rowL o' U (flat enc (xs ++ ys) sp') ++ L') (fun A w ha hw => by
    have hy2 := hr.h w hw
    obtain ⟨o', c', sp', w', e1, e2, e3, e4, e5⟩ := run_ap (P := P) (T := T) (U := U) (k := k) (ty := ty) (c2 := c2) hz (hw.perm hc.h.symm) hk hy2 hb
    refine ⟨_, w', _, ?_, e3, o', c', sp', e2, e4, e5, rfl, rfl⟩
    subst hnx; subst hny
    simp [execOp, resolve, invoke, builtin, Sem.run_bind, hx.eval rfl ha, hy.eval rfl ha, e1]) (by
    rintro v L2 ⟨o', c', sp', e1, e2, e3, rfl, rfl⟩
    exact kk o' c' sp' e1 e2 e3)
/-- 'append' onto nothing -/
theorem W.apN {c2 ny : Nat} {ys : List α} {a : Option Addr} [hT : TSlice P T U] [hS : TSize P U m] [hZ : TZero P U z] [hB : TByt P U k]
    (hn : Nat.blt d n = true) (hx : Val true E x (.slice none 0 0)) (hy : Val true E y (.slice a ny c2)) [hr : RowL w0 L0 L a m α dv enc ys] [he : Enc enc m dv] [h1 : EncOne enc] (hny : ny = ys.length) (hz : z.cells.size = m) (hb : ys.length * k ≤ 140737488355328)
    (kk : ∀ o' c' sp', OwnOk o' c' m ys.length (List.length sp') → (ys ≠ [] → ∃ b, o' = some b) → (∀ b, o' = some b → 0 < c') → WL P n w0 L0 all rest ((d, true, .slice (oa o') ys.length c') :: E) (rowL o' U (flat enc ys sp') ++ L) Q) :
    WL P n w0 L0 all (⟨some d, .call ⟨.builtin .append, #[x, y], #[T, T]⟩, ty, pos, aft, none⟩ :: rest) E L Q := by
  haveI : Cut L none U (flat enc ([] : List α) []) L := ⟨List.Perm.refl _⟩
  refine W.ap (o := none) (c := 0) (xs := []) (ys := ys) (sp := []) (nx := 0) (k := k) hn hx hy rfl hny hz OwnOk.nil (by simpa using hb) ?_
  intro o' c' sp' h1 h2 h3
  have := kk o' c' sp' (by simpa using h1) h2 (h3 (by simp))
  simpa using this
/-- an element's cell is written -/
theorem flat_set (hm : ∀ x, (enc x).length = m) {u : Value} : ∀ (xs : List α) (sp : List Value) (j off : Nat) (x' : α), j < xs.length → off < m → (∀ x, xs[j]? = some x → enc x' = (enc x).set off u) → (flat enc xs sp).set (j * m + off) u = flat enc (xs.set j x') sp
  | [], sp, j, off, x', h, _, _ => by simp at h
  | x :: xs, sp, 0, off, x', _, ho, he => by
    have := he x rfl
    simp only [flat, List.flatMap_cons, Nat.zero_mul, Nat.zero_add, List.set_cons_zero, List.append_assoc]
    rw [List.set_append_left _ _ (by rw [hm]; exact ho), this]
  | x :: xs, sp, j + 1, off, x', h, ho, he => by
    have ih := flat_set hm xs sp j off x' (by simpa using h) ho he
    simp only [flat, List.flatMap_cons, List.set_cons_succ, List.append_assoc] at ih ⊢
    have e : (j + 1) * m + off = m + (j * m + off) := by rw [Nat.add_mul]; omega
    rw [e, List.set_append_right _ _ (by rw [hm]; omega), hm, show m + (j * m + off) - m = j * m + off by omega, ih]
end
class NilOk {α : Type} (o : Option Nat) (xs : List α) : Prop where h : o = none → xs = []
instance {α : Type} {b : Nat} {xs : List α} : NilOk (some b) xs := ⟨fun h => by simp at h⟩
theorem OwnOk.nk {α : Type} {o : Option Nat} {c m s : Nat} {xs : List α} (h : OwnOk o c m xs.length s) : NilOk o xs := ⟨fun e => List.eq_nil_of_length_eq_zero (h.1 e).1⟩
instance RowL.cut {w0 : World} {L0 L L' : Heap} {o : Option Nat} {m : Nat} {α : Type} {dv : α} {enc : α → List Value} {xs : List α} {sp : List Value} {U : TypeId} [hc : Cut L o U (flat enc xs sp) L'] [he : Enc enc m dv] [hn : NilOk o xs] : RowL w0 L0 L (oa o) m α dv enc xs :=
  ⟨fun w hw => by
    cases o with
    | none => rw [hn.h rfl]; exact .inl rfl
    | some b =>
      have h := (hw.perm hc.h.symm).has (b, .cells (flat enc xs sp).toArray U (0, 0)) (by simp [rowL])
      exact .inr ⟨b, 0, _, U, _, rfl, h, fun k hk => by
        simp only [Nat.zero_add, List.getElem?_toArray, flat]
        exact List.getElem?_append_left hk⟩, he.hm, he.pos⟩
instance : TByt Tryz.prog 3 8 := ⟨by kernel_rfl, by decide⟩
instance : TByt Tryz.prog 107 24 := ⟨by kernel_rfl, by decide⟩
instance : TByt Tryz.prog 58 80 := ⟨by kernel_rfl, by decide⟩
instance : TByt Tryz.prog 71 64 := ⟨by kernel_rfl, by decide⟩
instance : TByt Tryz.prog 29 24 := ⟨by kernel_rfl, by decide⟩
instance : TByt Tryz.prog 9 16 := ⟨by kernel_rfl, by decide⟩
instance : TByt Tryz.prog 24 24 := ⟨by kernel_rfl, by decide⟩
instance : TByt Tryz.prog 5 1 := ⟨by kernel_rfl, by decide⟩
instance : TByt Tryz.prog 167 24 := ⟨by kernel_rfl, by decide⟩
end Go.Proofs.YtfmdaijkgjkmpaaGreatDoor

set_option linter.unusedVariables false
set_option linter.unusedSimpArgs false
namespace Go.Proofs.YtfmdaijkgjkmpaaGreatDoor
open Go Go.RowKit
abbrev encB : UInt8 → List Value := fun b => [.int .u8 b.toNat]
instance : Enc encB 1 0 := ⟨fun _ => rfl, by decide⟩
instance : EncOne encB := ⟨fun x u hu => by simp at hu; subst hu; rfl⟩
theorem flat_bytes (l : List UInt8) : l.flatMap encB = l.map fun b => Value.int .u8 b.toNat := by
  induction l with
  | nil => rfl
  | cons x l ih => rw [List.flatMap_cons, List.map_cons, ih]; rfl
theorem strCells_S (s : List UInt8) : Lib.strCells (S s) = s.flatMap encB := by rw [flat_bytes]; rfl
theorem size_S (s : List UInt8) : (S s).size = s.length := rfl
section
variable {P : Program} {w0 w : World} {L0 L L' : Heap} {T T' U ty : TypeId}
theorem run_aps {o : Option Nat} {c : Nat} {xs s : List UInt8} {sp : List Value} [hT : TBytes P T U] [hT' : TStr P T']
    (hw : Upd w0 L0 w (rowL o U (flat encB xs sp) ++ L')) (hk : OwnOk o c 1 xs.length sp.length) (hb : xs.length + s.length ≤ 140737488355328) :
    ∃ o' c' sp' w', (Builtin.append_ #[T, T'] ty #[.slice (oa o) xs.length c, .string (S s)]).run P w = .ok (.slice (oa o') (xs ++ s).length c') w' ∧ OwnOk o' c' 1 (xs ++ s).length (List.length sp') ∧ Upd w0 L0 w' (rowL o' U (flat encB (xs ++ s) sp') ++ L') ∧ ((∀ b, o = some b → 0 < c) → ∀ b, o' = some b → 0 < c') := by
  have hi := hT.i
  cases hu : P.info? U with
  | none => simp [hu] at hi
  | some i =>
  simp only [hu, Option.map_some, Option.some.injEq, Prod.mk.injEq] at hi
  obtain ⟨hz, hsz, hby⟩ := hi
  have fl : ∀ l : List UInt8, (l.flatMap encB).length = l.length := fun l => by rw [flat_bytes, List.length_map]
  cases s with
  | nil =>
    refine ⟨o, c, sp, w, ?_, by simpa using hk, by simpa using hw, fun h => h⟩
    have hf := Lib.run_firstCells_string (P := P) w 1 (S [])
    simp only [size_S, List.length_nil] at hf
    cases o with
    | none => simp [Builtin.append_, oa, run_underlying hT.s, run_underlying hT'.h, sizeOf, typeInfo, hu, hsz, Builtin.lenOf, hk.2.2.1, hf, size_S]
    | some g => simp [Builtin.append_, oa, run_underlying hT.s, run_underlying hT'.h, sizeOf, typeInfo, hu, hsz, Builtin.lenOf, hk.2.2.1, hf, storeCells, size_S, Lib.strCells]
  | cons y0 yr =>
    generalize hys : y0 :: yr = ys at *
    have hyl : 0 < ys.length := by rw [← hys]; simp
    have hfl : (xs ++ ys).flatMap encB = xs.flatMap encB ++ ys.flatMap encB := List.flatMap_append
    have hmax : xs.length + ys.length ≤ maxLen := by simp only [maxLen]; omega
    have hlen' : (xs ++ ys).length = xs.length + ys.length := List.length_append
    have hmap : (S ys).data.map (fun b : UInt8 => Value.int .u8 b.toNat) = (ys.flatMap encB).toArray := by rw [flat_bytes]; simp
    cases o with
    | none =>
      obtain ⟨hx0, rfl, hs0⟩ := hk.1 rfl
      have hx : xs = [] := List.eq_nil_of_length_eq_zero hx0
      have hs : sp = [] := List.eq_nil_of_length_eq_zero hs0
      subst hx; subst hs
      have hr := run_append_nil_string (P := P) w T T' ty U i _ hT.s hT'.h hu hz (S ys) hyl (by simp only [size_S]; omega) (by simp only [size_S]; rw [hby]; simp at hb; omega)
      rw [hmap] at hr
      simp only [size_S] at hr
      refine ⟨some w.heap.size, _, (Builtin.zeroCells (Value.int .u8 0).cells (grownCap w ys.length 0 U - ys.length)).toList, _, hr, ?_, ?_, fun _ _ _ => by have hge := grownCap_ge w ys.length 0 U; omega⟩
      · have hge := grownCap_ge w ys.length 0 U
        refine ⟨by simp, ?_, by simpa using hge, grownCap_le_maxLen w _ 0 U (by simpa using hmax)⟩
        simp only [List.nil_append, Array.length_toList, size_zeroCells]
        show ys.length * 1 + (grownCap w ys.length 0 U - ys.length) * 1 = _
        omega
      · have h2 := ((hw.sub (List.sublist_append_right _ _)).same (w' := w.drew) rfl rfl rfl rfl).alloc (.cells ((ys.flatMap encB).toArray ++ Builtin.zeroCells (Value.int .u8 0).cells (grownCap w ys.length 0 U - ys.length)) U)
        have e : ((ys.flatMap encB).toArray ++ Builtin.zeroCells (Value.int .u8 0).cells (grownCap w ys.length 0 U - ys.length)) = (flat encB ([] ++ ys) (Builtin.zeroCells (Value.int .u8 0).cells (grownCap w ys.length 0 U - ys.length)).toList).toArray := by
          apply Array.ext'; simp [flat]
        rw [e] at h2 ⊢
        exact h2
    | some g =>
      have hg : w.heap[g]? = some (.cells (flat encB xs sp).toArray U (0, 0)) := hw.has (g, .cells (flat encB xs sp).toArray U (0, 0)) (by simp [rowL])
      by_cases hroom : xs.length + ys.length ≤ c
      · have hcs : (flat encB xs sp).length = c := by rw [flat, List.length_append, fl]; have := hk.2.1; omega
        have hr := Lib.run_append_room_string (P := P) w T T' ty U i hT.s hT'.h hu hsz g xs.length c _ hg (S ys) hroom (by rw [List.size_toArray, hcs]; exact hroom)
        have e : ((flat encB xs sp).toArray.toList.take xs.length ++ Lib.strCells (S ys) ++ (flat encB xs sp).toArray.toList.drop (xs.length + (S ys).size)) = flat encB (xs ++ ys) (sp.drop ys.length) := by
          rw [strCells_S, size_S]
          simp only [List.toList_toArray, flat, hfl]
          rw [← fl xs, List.take_left, List.append_assoc, List.append_assoc]
          congr 2
          rw [List.drop_append, List.drop_eq_nil_of_le (by omega), List.nil_append]
          congr 1; omega
        rw [e] at hr
        refine ⟨some g, c, sp.drop ys.length, _, by rw [hlen']; exact hr, ?_, hw.setRow ⟨[], L', rfl, rfl⟩, fun _ _ _ => by omega⟩
        refine ⟨by simp, ?_, by omega, hk.2.2.2⟩
        have h3 := hk.2.1
        rw [hlen', List.length_drop]
        omega
      · have holds : ∀ j u, (xs.flatMap encB)[j]? = some u → w.cell? ((⟨g, 0, none⟩ : Addr).add j) = some u := fun j u hu' => by
          have hj := (List.getElem?_eq_some_iff.1 hu').1
          rw [Addr.add_at]
          unfold World.cell?
          simp only [hg, Option.isSome_none, Bool.false_eq_true, if_false, Nat.zero_add, List.getElem?_toArray, flat]
          rw [List.getElem?_append_left hj]; exact hu'
        have hr := Lib.run_append_grow_string (P := P) w T T' ty U i _ hT.s hT'.h hu hz ⟨g, 0, none⟩ xs.length c _ (by rw [fl, hsz, Nat.mul_one]) holds (S ys) (by simp only [size_S]; omega) (by simp only [size_S]; omega) (by simp only [size_S]; exact growslice_fits (by omega) (by rw [hby]; omega))
        rw [strCells_S] at hr
        simp only [size_S] at hr
        refine ⟨some w.heap.size, _, (Builtin.zeroCells (Value.int .u8 0).cells (grownCap w (xs.length + ys.length) c U - (xs.length + ys.length))).toList, _, by rw [hlen']; exact hr, ?_, ?_, fun _ _ _ => by have hge := grownCap_ge w (xs.length + ys.length) c U; omega⟩
        · have hge := grownCap_ge w (xs.length + ys.length) c U
          refine ⟨by simp, ?_, by rw [hlen']; exact hge, grownCap_le_maxLen w _ c U hmax⟩
          simp only [hlen', Array.length_toList, size_zeroCells]
          show (xs.length + ys.length) * 1 + (grownCap w (xs.length + ys.length) c U - (xs.length + ys.length)) * 1 = _
          omega
        · have h2 := ((hw.sub (List.sublist_append_right _ _)).same (w' := w.drew) rfl rfl rfl rfl).alloc (.cells ((xs.flatMap encB).toArray ++ (ys.flatMap encB).toArray ++ Builtin.zeroCells (Value.int .u8 0).cells (grownCap w (xs.length + ys.length) c U - (xs.length + ys.length))) U)
          have e : ((xs.flatMap encB).toArray ++ (ys.flatMap encB).toArray ++ Builtin.zeroCells (Value.int .u8 0).cells (grownCap w (xs.length + ys.length) c U - (xs.length + ys.length))) = (flat encB (xs ++ ys) (Builtin.zeroCells (Value.int .u8 0).cells (grownCap w (xs.length + ys.length) c U - (xs.length + ys.length))).toList).toArray := by
            apply Array.ext'; simp [flat]
          rw [e] at h2 ⊢
          exact h2
variable {d n : Nat} {all rest : List Oper} {E : Env} {Q : Post} {x y : Operand} {pos : String} {aft : Array Edge}
/-- 'append(b, s...)' -/
theorem W.aps {o : Option Nat} {c nx : Nat} {xs s : List UInt8} {sp : List Value} [hT : TBytes P T U] [hT' : TStr P T']
    (hn : Nat.blt d n = true) (hx : Val true E x (.slice (oa o) nx c)) (hy : Val true E y (.string (S s))) (hnx : nx = xs.length)
    [hc : Cut L o U (flat encB xs sp) L'] (hk : OwnOk o c 1 xs.length sp.length) (hb : xs.length + s.length ≤ 140737488355328)
    (kk : ∀ o' c' sp', OwnOk o' c' 1 (xs ++ s).length (List.length sp') → ((∀ b, o = some b → 0 < c) → ∀ b, o' = some b → 0 < c') → WL P n w0 L0 all rest ((d, true, .slice (oa o') (xs ++ s).length c') :: E) (rowL o' U (flat encB (xs ++ s) sp') ++ L') Q) :
    WL P n w0 L0 all (⟨some d, .call ⟨.builtin .append, #[x, y], #[T, T']⟩, ty, pos, aft, none⟩ :: rest) E L Q :=
  W.loud rfl rfl hn (R := fun v L2 => ∃ o' c' sp', OwnOk o' c' 1 (xs ++ s).length (List.length sp') ∧ ((∀ b, o = some b → 0 < c) → ∀ b, o' = some b → 0 < c') ∧ v = .slice (oa o') (xs ++ s).length c' ∧ L2 = rowL o' U (flat encB (xs ++ s) sp') ++ L') (fun A w ha hw => by
    obtain ⟨o', c', sp', w', e1, e2, e3, e4⟩ := run_aps (P := P) (T := T) (T' := T') (U := U) (ty := ty) (s := s) (hw.perm hc.h.symm) hk hb
    refine ⟨_, w', _, ?_, e3, o', c', sp', e2, e4, rfl, rfl⟩
    subst hnx
    simp [execOp, resolve, invoke, builtin, Sem.run_bind, hx.eval rfl ha, hy.eval rfl ha, e1]) (by
    rintro v L2 ⟨o', c', sp', e1, e2, rfl, rfl⟩
    exact kk o' c' sp' e1 e2)
end
end Go.Proofs.YtfmdaijkgjkmpaaGreatDoor
