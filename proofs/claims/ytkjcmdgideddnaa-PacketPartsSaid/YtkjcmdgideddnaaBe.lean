/- What be.Bytes comes to. Condition: the number of bytes is not above some 2^40. -/
import Derived.Test.YtkjcmdgideddnaaPut
import Derived.Test.YtkjcmdgideddnaaPBe
set_option linter.unusedVariables false
set_option linter.unusedSimpArgs false
namespace Go.Proofs.Ytkjcmdgideddnaa
open Go Go.RowKit
section
variable {P : Program} {d n : Nat} {w0 w : World} {L0 L L' : Heap} {all rest : List Oper} {E : Env} {Q : Post} {x y : Operand} {T T' U ty : TypeId} {pos : String} {aft : Array Edge} {g : Option (Nat × Bool)} {G : Bool}
theorem O.cvI8 {p : Int} {k : IntKind} [TInt P T k] [TInt P T' .u8] (hp : Pre n all E g d G := by exact ⟨rfl, rfl⟩) (hx : Val G E x (.int k p) := by first | exact vt rfl | exact vs rfl | exact vi rfl and1 | exact vi rfl (fun h => and1 (and1 h)) | exact vi rfl (by simp +contextual)) : QV P n w0 L0 all ⟨some d, .convert T T' x, ty, pos, aft, g⟩ E L d G (.int .u8 (byteOf p).toNat) := by
  have := O.cv (P := P) (T := T) (T' := T') (k := k) (k' := .u8) (p := p) (w0 := w0) (L0 := L0) (L := L) (ty := ty) (pos := pos) (aft := aft) hp hx
  rwa [show IntKind.u8.wrap p = ((byteOf p).toNat : Int) by rw [byteOf_toNat]; rfl] at this
theorem W.mkF {k1 k2 : IntKind} {p q : Int} [TBytes P T U] (hn : Nat.blt d n = true) (hx : Val true E x (.int k1 p)) (hy : Val true E y (.int k2 q)) (h : 0 ≤ p ∧ p ≤ q ∧ q ≤ 281474976710656)
    (k : ∀ b, WL P n w0 L0 all rest ((d, true, .slice (oa (some b)) p.toNat q.toNat) :: E) (rowL (some b) U (flat encB (List.replicate q.toNat 0) []) ++ L) Q) : WL P n w0 L0 all (⟨some d, .makeSlice T x y, ty, pos, aft, none⟩ :: rest) E L Q :=
  W.mkB hn hx hy h fun b => by
    have := k b
    rw [flat, flat_bytes, List.append_nil] at this
    exact this
/-- 'string(b)' of a row of bytes -/
theorem O.cvRow {a : Option Addr} {c m : Nat} {xs : List UInt8} {dv : UInt8} [ts : TSlice P T U] [tb : TInt P U .u8] [tt : TStr P T'] (hp : Pre n all E g d G := by exact ⟨rfl, rfl⟩) (hx : Val G E x (.slice a m c) := by first | exact vt rfl | exact vs rfl | exact vi rfl and1 | exact vi rfl (fun h => and1 (and1 h)) | exact vi rfl (by simp +contextual)) [r : RowL w0 L0 L a 1 UInt8 dv encB xs] (hm : m = xs.length) (hne : G = true → ∃ q, a = some q) :
    QV P n w0 L0 all ⟨some d, .convert T T' x, ty, pos, aft, g⟩ E L d G (.string (S xs)) :=
  O.val rfl hp (fun hG A w ha hw => by
    obtain ⟨q, rfl⟩ := hne hG
    subst hm
    have h := run_convert_bytes_back (P := P) w T T' U q c xs ts.h tb.h tt.h (fun j hj => by
      rcases r.h w hw with h0 | ⟨b, o, arr, U2, fz, e, hb, hc⟩
      · have := flat_bytes xs; rw [h0] at this
        have h1 : xs = [] := by simpa using this.symm
        subst h1; simp at hj
      · cases e
        have := hc j (by rw [flat_bytes, List.length_map]; exact hj)
        rw [flat_bytes, List.getElem?_map, List.getElem?_eq_getElem hj] at this
        rw [Addr.add_at]
        unfold World.cell?
        simp [hb, this])
    simp [execOp, hx.eval hG ha, Sem.run_bind, h, S])
end
theorem be_set {xs t : List UInt8} {i : Int} {u : UInt8} (h : xs = List.replicate (i + 1).toNat 0 ++ t) (hi : 0 ≤ i) : xs.set i.toNat u = List.replicate (i - 1 + 1).toNat 0 ++ u :: t := by
  obtain ⟨k, rfl⟩ := Int.eq_ofNat_of_zero_le hi
  have e1 : ((k : Int) + 1).toNat = k + 1 := by omega
  have e2 : ((k : Int) - 1 + 1).toNat = k := by omega
  rw [h, e1, e2, List.replicate_succ', List.append_assoc, Int.toNat_natCast, List.set_append_right _ _ (by simp)]
  simp
theorem be_step {x i : Int} (hi : 0 ≤ i) : beb x (i + 1).toNat = beb (x / 2 ^ (8 : Int).toNat) (i - 1 + 1).toNat ++ [byteOf x] := by
  obtain ⟨k, rfl⟩ := Int.eq_ofNat_of_zero_le hi
  have e1 : ((k : Int) + 1).toNat = k + 1 := by omega
  have e2 : ((k : Int) - 1 + 1).toNat = k := by omega
  rw [e1, e2]; rfl
structure BeS where
  i : Int
  v : Int
  xs : List UInt8
  t : List UInt8
set_option maxRecDepth 100000 in
theorem be_Bytes (v : Int) (n : Nat) (w : World) (hn : n ≤ 1000000000) : Fn Try.prog 92 [.int .i64 v, .int .i64 n] w [] fun r L' => r = .string (S (beb v n)) ∧ L' = [] := by
  refine Fn.enter Try.func92 rfl rfl rfl rfl (Holds.nil w) ?_
  refine CW.seq ?_
  refine CW.region ?_
  refine W.p O.as ?_
  refine WL.nil (Q.tn ?_)
  refine CW.seq ?_
  refine CW.region ?_
  refine W.p O.mv ?_
  refine W.mkF rfl (vt rfl) (vt rfl) (by first | omega | decide) fun b1 => ?_
  refine W.p O.as ?_
  refine WL.nil (Q.tn ?_)
  refine CW.seq ?_
  refine CW.seq ?_
  refine CW.region ?_
  refine W.p O.mv ?_
  first | refine W.p O.subN ?_ | refine W.p O.sub ?_
  refine W.p O.as ?_
  refine WL.nil (Q.tn ?_)
  refine CW.block ?_
  refine CW.loop (X := BeS) (fun x => [(0, true, .int .i64 x.v), (5, true, .slice (oa (some b1)) n n), (6, true, .int .i64 x.i)]) (fun x => rowL (some b1) 5 (flat encB x.xs [])) (fun x => -1 ≤ x.i ∧ x.i < n ∧ x.xs.length = n ∧ x.xs = List.replicate (x.i + 1).toNat 0 ++ x.t ∧ beb v n = beb x.v (x.i + 1).toNat ++ x.t) (fun x => (x.i + 1).toNat) ⟨(n : Int) - 1, v, List.replicate n 0, []⟩ ⟨by dsimp only; omega, by dsimp only; omega, by simp, by simp, by simp⟩ ⟨rfl, rfl, rfl, trivial⟩ (List.Sublist.refl _) ?_
  rintro ⟨i, x, xs, t⟩ ⟨hi0, hi1, hl, hx, he⟩
  dsimp only at hi0 hi1 hl hx he ⊢
  refine CW.seq ?_
  refine CW.seq ?_
  refine CW.region ?_
  refine W.p O.mv ?_
  refine W.p O.geq ?_
  refine WL.nil (Q.tn ?_)
  refine CW.cond (vt rfl) (fun hc1 => ?_) (fun hc1 => ?_)
  · try simp only [Bool.cond_true_left, Bool.cond_false_right, Bool.or_eq_true, Bool.or_eq_false_iff, Bool.and_eq_true, Bool.and_eq_false_iff, decide_eq_true_eq, decide_eq_false_iff_not, Bool.not_eq_true', Bool.not_eq_false'] at hc1
    refine CW.skip (Q.tn ?_)
    refine CW.seq ?_
    refine CW.block ?_
    refine CW.seq ?_
    refine CW.region ?_
    refine W.p O.mv ?_
    refine W.p O.mv ?_
    refine W.p O.mv ?_
    refine W.p O.cvI8 ?_
    refine W.p O.ixA ?_
    refine W.stE _ (vt rfl) (vt rfl) rfl (by first | omega | (simp only [decide_eq_true_eq, decide_eq_false_iff_not] at *; omega)) (by decide) (by rfl) ?_
    refine WL.nil (Q.tn ?_)
    refine CW.region ?_
    refine W.p O.mv ?_
    refine W.p O.shr ?_
    refine W.p O.as ?_
    refine WL.nil (Q.bn (Q.tn ?_))
    refine CW.region ?_
    refine W.p O.mv ?_
    first | refine W.p O.subN ?_ | refine W.p O.sub ?_
    refine W.p O.as ?_
    refine WL.nil (Q.tn ?_)
    refine ⟨⟨i - 1, _, xs.set i.toNat (byteOf x), byteOf x :: t⟩, ⟨?_, ?_, ?_, ?_, ?_⟩, ?_, ⟨rfl, rfl, rfl, trivial⟩, List.Sublist.refl _⟩
    all_goals have hc := hc1
    · dsimp only; omega
    · dsimp only; omega
    · simpa using hl
    · exact be_set hx hc
    · rw [he, be_step hc, List.append_assoc]; rfl
    · dsimp only; omega
  · try simp only [Bool.cond_true_left, Bool.cond_false_right, Bool.or_eq_true, Bool.or_eq_false_iff, Bool.and_eq_true, Bool.and_eq_false_iff, decide_eq_true_eq, decide_eq_false_iff_not, Bool.not_eq_true', Bool.not_eq_false'] at hc1
    refine CW.exit (Q.te (Q.te (Q.bx (Q.tn ?_))))
    refine CW.seq ?_
    refine CW.region ?_
    refine W.p O.mv ?_
    refine W.p (O.cvRow ⟨rfl, rfl⟩ (vt rfl) (by first | rfl | omega) (fun _ => ⟨_, rfl⟩)) ?_
    refine W.p O.as ?_
    refine WL.nil (Q.tn ?_)
    refine CW.ret ?_
    refine ⟨_, [], (RVs.tmp rfl RVs.nil), List.nil_sublist _, ?_⟩
    have hc := hc1
    have e0 : (i + 1).toNat = 0 := by omega
    rw [e0] at hx he
    exact ⟨by rw [hx, he]; rfl, rfl⟩
end Go.Proofs.Ytkjcmdgideddnaa
