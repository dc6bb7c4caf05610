/- More operations of the logic: bits, shifts, quotients. No condition. -/
import Derived.Test.YtkjcmdgideddnaaTypes
set_option linter.unusedVariables false
set_option linter.unusedSimpArgs false
namespace Go.Proofs.Ytkjcmdgideddnaa
open Go Go.RowKit
section
variable {P : Program} {ρ : Operand → Value} {o : Option Tmp} {d n : Nat} {w0 w : World} {L0 L : Heap} {all : List Oper} {E : Env} {x y z : Operand} {T T' ty : TypeId} {pos : String} {aft : Array Edge} {g : Option (Nat × Bool)} {G : Bool}
theorem and_mask (m : Nat) (h : m < 64) (p q : Int) (hq : q = ((2 ^ m - 1 : Nat) : Int)) : bits .and .i64 p q = p % ((2 ^ m : Nat) : Int) := by
  subst hq
  have h2 : 2 ^ m ≤ 2 ^ 63 := Nat.pow_le_pow_right (by decide) (by omega)
  have h0 : 0 < 2 ^ m := Nat.two_pow_pos m
  have e : (BitVec.ofInt 64 ((2 ^ m - 1 : Nat) : Int)).toNat = 2 ^ m - 1 := by
    rw [BitVec.ofInt_natCast, BitVec.toNat_ofNat, Nat.mod_eq_of_lt (by omega)]
  have e2 : ((BitVec.ofInt 64 p).toNat : Int) = p % (18446744073709551616 : Int) := by
    rw [BitVec.toNat_ofInt]; omega
  have e3 : (BitVec.ofInt IntKind.i64.bits p &&& BitVec.ofInt IntKind.i64.bits ((2 ^ m - 1 : Nat) : Int)).toNat = (BitVec.ofInt 64 p).toNat % 2 ^ m := by
    show (BitVec.ofInt 64 p &&& BitVec.ofInt 64 ((2 ^ m - 1 : Nat) : Int)).toNat = _
    rw [BitVec.toNat_and, e, Nat.and_two_pow_sub_one_eq_mod]
  show IntKind.i64.wrap ((BitVec.ofInt IntKind.i64.bits p &&& BitVec.ofInt IntKind.i64.bits ((2 ^ m - 1 : Nat) : Int)).toNat : Int) = _
  rw [e3]
  have hlt : (BitVec.ofInt 64 p).toNat % 2 ^ m < 2 ^ m := Nat.mod_lt _ h0
  rw [wrap_in _ (by omega)]
  rw [Int.natCast_emod, e2]
  exact Int.emod_emod_of_dvd p (by
    have : ((2 ^ m : Nat) : Int) ∣ ((2 ^ 64 : Nat) : Int) := Int.natCast_dvd_natCast.2 (Nat.pow_dvd_pow 2 (by omega))
    simpa using this)
theorem r_and {p q : Int} {k : IntKind} (hx : ρ x = .int k p) (hy : ρ y = .int k q)  : (execOp ρ ⟨o, .binOp .and T x y T', ty, pos, aft, g⟩).run P w = .ok (.value (.int k (bits .and k p q))) w := by
  simp [execOp, hx, hy, go_sem]
theorem r_or {p q : Int} {k : IntKind} (hx : ρ x = .int k p) (hy : ρ y = .int k q)  : (execOp ρ ⟨o, .binOp .or T x y T', ty, pos, aft, g⟩).run P w = .ok (.value (.int k (bits .or k p q))) w := by
  simp [execOp, hx, hy, go_sem]
theorem r_xor {p q : Int} {k : IntKind} (hx : ρ x = .int k p) (hy : ρ y = .int k q)  : (execOp ρ ⟨o, .binOp .xor T x y T', ty, pos, aft, g⟩).run P w = .ok (.value (.int k (bits .xor k p q))) w := by
  simp [execOp, hx, hy, go_sem]
theorem r_shl {p q : Int} {k k' : IntKind} (hx : ρ x = .int k p) (hy : ρ y = .int k' q) (h : 0 ≤ q ∧ q ≤ k.bits) : (execOp ρ ⟨o, .binOp .shl T x y T', ty, pos, aft, g⟩).run P w = .ok (.value (.int k (k.wrap (p * 2 ^ q.toNat)))) w := by
  simp [execOp, hx, hy, go_sem, shift_shl _ _ _ _ h.1 h.2]
theorem r_shr {p q : Int} {k k' : IntKind} (hx : ρ x = .int k p) (hy : ρ y = .int k' q) (h : 0 ≤ q ∧ q ≤ k.bits) : (execOp ρ ⟨o, .binOp .shr T x y T', ty, pos, aft, g⟩).run P w = .ok (.value (.int k (p / 2 ^ q.toNat))) w := by
  simp [execOp, hx, hy, go_sem, shift_shr _ _ _ _ h.1 h.2]
theorem r_rem {p q : Int} {k : IntKind} (hx : ρ x = .int k p) (hy : ρ y = .int k q) (h : 0 ≤ p ∧ 0 < q) : (execOp ρ ⟨o, .binOp .rem T x y T', ty, pos, aft, g⟩).run P w = .ok (.value (.int k (p % q))) w := by
  simp [execOp, hx, hy, go_sem, Op.intDiv, binOp, show q ≠ 0 by omega, Int.tmod_eq_emod_of_nonneg h.1]
theorem r_quo {p q : Int} {k : IntKind} (hx : ρ x = .int k p) (hy : ρ y = .int k q) (h : 0 ≤ p ∧ 0 < q) : (execOp ρ ⟨o, .binOp .quo T x y T', ty, pos, aft, g⟩).run P w = .ok (.value (.int k (k.wrap (p / q)))) w := by
  simp [execOp, hx, hy, go_sem, Op.intDiv, binOp, show q ≠ 0 by omega, Int.tdiv_eq_ediv_of_nonneg h.1]
theorem O.andM (m : Nat) (M : Int) {p q : Int} (hp : Pre n all E g d G := by exact ⟨rfl, rfl⟩) (hx : Val G E x (.int .i64 p) := by first | exact vt rfl | exact vs rfl | exact vi rfl and1 | exact vi rfl (fun h => and1 (and1 h)) | exact vi rfl (by simp +contextual)) (hy : Val G E y (.int .i64 q) := by first | exact vt rfl | exact vs rfl | exact vi rfl and1 | exact vi rfl (fun h => and1 (and1 h)) | exact vi rfl (by simp +contextual)) (h : m < 64) (hq : q = ((2 ^ m - 1 : Nat) : Int)) (hM : M = ((2 ^ m : Nat) : Int)) : QV P n w0 L0 all ⟨some d, .binOp .and T x y T', ty, pos, aft, g⟩ E L d G (.int .i64 (p % M)) :=
  O.val rfl hp (fun hG a w ha hw => by subst hM; rw [r_and (hx.eval hG ha) (hy.eval hG ha), and_mask m h p q hq])
theorem O.and {p q : Int} {k : IntKind} (hp : Pre n all E g d G := by exact ⟨rfl, rfl⟩) (hx : Val G E x (.int k p) := by first | exact vt rfl | exact vs rfl | exact vi rfl and1 | exact vi rfl (fun h => and1 (and1 h)) | exact vi rfl (by simp +contextual)) (hy : Val G E y (.int k q) := by first | exact vt rfl | exact vs rfl | exact vi rfl and1 | exact vi rfl (fun h => and1 (and1 h)) | exact vi rfl (by simp +contextual)) : QV P n w0 L0 all ⟨some d, .binOp .and T x y T', ty, pos, aft, g⟩ E L d G (.int k (bits .and k p q)) :=
  O.val rfl hp (fun hG a w ha hw => by rw [r_and (hx.eval hG ha) (hy.eval hG ha)])
theorem O.or {p q : Int} {k : IntKind} (hp : Pre n all E g d G := by exact ⟨rfl, rfl⟩) (hx : Val G E x (.int k p) := by first | exact vt rfl | exact vs rfl | exact vi rfl and1 | exact vi rfl (fun h => and1 (and1 h)) | exact vi rfl (by simp +contextual)) (hy : Val G E y (.int k q) := by first | exact vt rfl | exact vs rfl | exact vi rfl and1 | exact vi rfl (fun h => and1 (and1 h)) | exact vi rfl (by simp +contextual)) : QV P n w0 L0 all ⟨some d, .binOp .or T x y T', ty, pos, aft, g⟩ E L d G (.int k (bits .or k p q)) :=
  O.val rfl hp (fun hG a w ha hw => by rw [r_or (hx.eval hG ha) (hy.eval hG ha)])
theorem O.xor {p q : Int} {k : IntKind} (hp : Pre n all E g d G := by exact ⟨rfl, rfl⟩) (hx : Val G E x (.int k p) := by first | exact vt rfl | exact vs rfl | exact vi rfl and1 | exact vi rfl (fun h => and1 (and1 h)) | exact vi rfl (by simp +contextual)) (hy : Val G E y (.int k q) := by first | exact vt rfl | exact vs rfl | exact vi rfl and1 | exact vi rfl (fun h => and1 (and1 h)) | exact vi rfl (by simp +contextual)) : QV P n w0 L0 all ⟨some d, .binOp .xor T x y T', ty, pos, aft, g⟩ E L d G (.int k (bits .xor k p q)) :=
  O.val rfl hp (fun hG a w ha hw => by rw [r_xor (hx.eval hG ha) (hy.eval hG ha)])
theorem O.shl {p q : Int} {k k' : IntKind} (hp : Pre n all E g d G := by exact ⟨rfl, rfl⟩) (hx : Val G E x (.int k p) := by first | exact vt rfl | exact vs rfl | exact vi rfl and1 | exact vi rfl (fun h => and1 (and1 h)) | exact vi rfl (by simp +contextual)) (hy : Val G E y (.int k' q) := by first | exact vt rfl | exact vs rfl | exact vi rfl and1 | exact vi rfl (fun h => and1 (and1 h)) | exact vi rfl (by simp +contextual)) (h : G = true → 0 ≤ q ∧ q ≤ k.bits := by (intro _; first | decide | omega | (refine ⟨by omega, ?_⟩; show _ ≤ ((64 : Nat) : Int); omega) | (simp <;> omega))) : QV P n w0 L0 all ⟨some d, .binOp .shl T x y T', ty, pos, aft, g⟩ E L d G (.int k (k.wrap (p * 2 ^ q.toNat))) :=
  O.val rfl hp (fun hG a w ha hw => by rw [r_shl (hx.eval hG ha) (hy.eval hG ha) (h hG)])
theorem O.shr {p q : Int} {k k' : IntKind} (hp : Pre n all E g d G := by exact ⟨rfl, rfl⟩) (hx : Val G E x (.int k p) := by first | exact vt rfl | exact vs rfl | exact vi rfl and1 | exact vi rfl (fun h => and1 (and1 h)) | exact vi rfl (by simp +contextual)) (hy : Val G E y (.int k' q) := by first | exact vt rfl | exact vs rfl | exact vi rfl and1 | exact vi rfl (fun h => and1 (and1 h)) | exact vi rfl (by simp +contextual)) (h : G = true → 0 ≤ q ∧ q ≤ k.bits := by (intro _; first | decide | omega | (refine ⟨by omega, ?_⟩; show _ ≤ ((64 : Nat) : Int); omega) | (simp <;> omega))) : QV P n w0 L0 all ⟨some d, .binOp .shr T x y T', ty, pos, aft, g⟩ E L d G (.int k (p / 2 ^ q.toNat)) :=
  O.val rfl hp (fun hG a w ha hw => by rw [r_shr (hx.eval hG ha) (hy.eval hG ha) (h hG)])
theorem O.rem {p q : Int} {k : IntKind} (hp : Pre n all E g d G := by exact ⟨rfl, rfl⟩) (hx : Val G E x (.int k p) := by first | exact vt rfl | exact vs rfl | exact vi rfl and1 | exact vi rfl (fun h => and1 (and1 h)) | exact vi rfl (by simp +contextual)) (hy : Val G E y (.int k q) := by first | exact vt rfl | exact vs rfl | exact vi rfl and1 | exact vi rfl (fun h => and1 (and1 h)) | exact vi rfl (by simp +contextual)) (h : G = true → 0 ≤ p ∧ 0 < q := by (intro _; first | decide | omega | (simp; omega))) : QV P n w0 L0 all ⟨some d, .binOp .rem T x y T', ty, pos, aft, g⟩ E L d G (.int k (p % q)) :=
  O.val rfl hp (fun hG a w ha hw => by rw [r_rem (hx.eval hG ha) (hy.eval hG ha) (h hG)])
theorem O.quo {p q : Int} {k : IntKind} (hp : Pre n all E g d G := by exact ⟨rfl, rfl⟩) (hx : Val G E x (.int k p) := by first | exact vt rfl | exact vs rfl | exact vi rfl and1 | exact vi rfl (fun h => and1 (and1 h)) | exact vi rfl (by simp +contextual)) (hy : Val G E y (.int k q) := by first | exact vt rfl | exact vs rfl | exact vi rfl and1 | exact vi rfl (fun h => and1 (and1 h)) | exact vi rfl (by simp +contextual)) (h : G = true → 0 ≤ p ∧ 0 < q := by (intro _; first | decide | omega | (simp; omega))) : QV P n w0 L0 all ⟨some d, .binOp .quo T x y T', ty, pos, aft, g⟩ E L d G (.int k (k.wrap (p / q))) :=
  O.val rfl hp (fun hG a w ha hw => by rw [r_quo (hx.eval hG ha) (hy.eval hG ha) (h hG)])
theorem wrap_u64 (p : Int) : IntKind.u64.wrap p = p % 18446744073709551616 := rfl
/-- a number as an unsigned one, and back -/
theorem O.cvUn {p : Int} [TInt P T .i64] [TInt P T' .u64] (hp : Pre n all E g d G := by exact ⟨rfl, rfl⟩) (hx : Val G E x (.int .i64 p) := by first | exact vt rfl | exact vs rfl | exact vi rfl and1 | exact vi rfl (by simp +contextual)) : QV P n w0 L0 all ⟨some d, .convert T T' x, ty, pos, aft, g⟩ E L d G (.int .u64 (p % 18446744073709551616)) :=
  O.val rfl hp (fun hG a w ha hw => by rw [r_conv (hx.eval hG ha) TInt.h TInt.h, wrap_u64])
theorem O.cvN {p : Int} [TInt P T .u64] [TInt P T' .i64] (hp : Pre n all E g d G := by exact ⟨rfl, rfl⟩) (hx : Val G E x (.int .u64 p) := by first | exact vt rfl | exact vs rfl | exact vi rfl and1 | exact vi rfl (by simp +contextual)) (h : G = true → -9223372036854775808 ≤ p ∧ p ≤ 9223372036854775807 := by (intro _; omega)) : QV P n w0 L0 all ⟨some d, .convert T T' x, ty, pos, aft, g⟩ E L d G (.int .i64 p) :=
  O.val rfl hp (fun hG a w ha hw => by rw [r_conv (hx.eval hG ha) TInt.h TInt.h, wrap_in _ (h hG)])
theorem O.quoN {p q : Int} (hp : Pre n all E g d G := by exact ⟨rfl, rfl⟩) (hx : Val G E x (.int .i64 p) := by first | exact vt rfl | exact vs rfl | exact vi rfl and1 | exact vi rfl (by simp +contextual)) (hy : Val G E y (.int .i64 q) := by first | exact vt rfl | exact vs rfl | exact vi rfl and1 | exact vi rfl (by simp +contextual)) (h : G = true → 0 ≤ p ∧ 0 < q ∧ p ≤ 9223372036854775807 := by (intro _; omega)) : QV P n w0 L0 all ⟨some d, .binOp .quo T x y T', ty, pos, aft, g⟩ E L d G (.int .i64 (p / q)) :=
  O.val rfl hp (fun hG a w ha hw => by
    obtain ⟨h1, h2, h3⟩ := h hG
    have h4 := Int.ediv_nonneg h1 (Int.le_of_lt h2)
    have h5 := Int.ediv_le_self q h1
    rw [r_quo (hx.eval hG ha) (hy.eval hG ha) ⟨h1, h2⟩, wrap_in _ (by omega)])
end
end Go.Proofs.Ytkjcmdgideddnaa
