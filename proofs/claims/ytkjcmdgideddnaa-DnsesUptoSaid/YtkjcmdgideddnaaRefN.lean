/- What the document's within, GetBe come to. Condition: the text is not longer than some 2^47 bytes. -/
import Derived.Test.YtkjcmdgideddnaaRrTk0
set_option linter.unusedVariables false
set_option linter.unusedSimpArgs false
namespace Go.Proofs.Ytkjcmdgideddnaa
open Go Go.RowKit
set_option maxRecDepth 100000 in
theorem ref_within (x : Int) (k : Nat) (w : World) (hk : k = 4 ∨ k = 8 ∨ k = 16 ∨ k = 32) : Fn Try.prog 123 [.int .i64 x, .int .i64 k] w [] fun v L' => v = .bool (decide (0 ≤ x) && decide (x < 2 ^ k)) ∧ L' = [] := by
  have e : IntKind.i64.wrap (1 * 2 ^ ((k : Nat) : Int).toNat) = 2 ^ k := by rw [Int.toNat_natCast, Int.one_mul]; rcases hk with rfl | rfl | rfl | rfl <;> rfl
  refine Fn.enter Try.func123 rfl rfl rfl rfl (Holds.nil w) ?_
  refine CW.seq ?_
  refine CW.region ?_
  refine W.p O.as ?_
  refine WL.nil (Q.tn ?_)
  refine CW.seq ?_
  refine CW.region ?_
  refine W.p O.mv ?_
  refine W.p O.geq ?_
  refine W.p O.mv ?_
  refine W.p O.mv ?_
  refine W.p O.mv ?_
  refine W.p O.shl ?_
  refine W.p O.lss ?_
  refine W.p O.pkB ?_
  refine W.p O.as ?_
  refine WL.nil (Q.tn ?_)
  refine CW.ret ?_
  refine ⟨_, [], (RVs.tmp rfl RVs.nil), List.nil_sublist _, ?_⟩
  refine ⟨congrArg Value.bool ?_, rfl⟩
  rw [e]; cases decide (0 ≤ x) <;> rfl
theorem slc_in {s : List UInt8} {p k i : Int} (h0 : 0 ≤ p) (hi : 0 ≤ i) (hk : i < k) (hl : p + k ≤ s.length) : (slc s p (p + k)).getD i.toNat 0 = s.getD (p + i).toNat 0 := by
  rw [slc, List.getD_eq_getElem?_getD, List.getD_eq_getElem?_getD, List.getElem?_drop, List.getElem?_take, if_pos (by omega)]
  congr 2; omega
set_option maxRecDepth 100000 in
theorem ref_GetBe (s : List UInt8) (p k : Int) (w : World) (hs : s.length ≤ 140737488355328) : Fn Try.prog 132 [.string (S s), .int .i64 p, .int .i64 k] w [] fun v L' => v = .tuple #[.int .i64 (beG s p k).1, .int .i64 (beG s p k).2] ∧ L' = [] := by
  refine Fn.enter Try.func132 rfl rfl rfl rfl (Holds.nil w) ?_
  refine CW.seq ?_
  refine CW.region ?_
  refine W.p O.as ?_
  refine W.p O.as ?_
  refine WL.nil (Q.tn ?_)
  refine CW.seq ?_
  refine CW.seq ?_
  refine CW.region ?_
  refine W.p O.mv ?_
  refine W.p O.neI ?_
  refine W.p O.mv ?_
  refine W.p O.mv ?_
  refine W.p O.neI ?_
  refine W.p O.pkB ?_
  refine W.p O.mv ?_
  refine W.p O.mv ?_
  refine W.p O.neI ?_
  refine W.p O.pkB ?_
  refine W.p O.mv ?_
  refine W.p O.mv ?_
  refine W.p O.lss ?_
  refine W.p O.pkB ?_
  refine WL.nil (Q.tn ?_)
  refine CW.cond (vt rfl) (fun hc1 => ?_) (fun hc1 => ?_)
  · try simp only [sk] at hc1
    refine CW.seq ?_
    refine CW.region ?_
    refine W.p O.as ?_
    refine W.p O.as ?_
    refine WL.nil (Q.tn ?_)
    refine CW.ret (Q.tr ?_)
    refine ⟨_, [], (RVs.tmp rfl (RVs.tmp rfl RVs.nil)), List.nil_sublist _, ?_⟩
    refine ⟨?_, rfl⟩
    rw [beG, if_pos (by omega)]; rfl
  try simp only [sk] at hc1
  have hk : (k = 1 ∨ k = 2 ∨ k = 4) ∧ 0 ≤ p := by omega
  have hwr : p ≤ s.length → IntKind.i64.wrap ((s.length : Int) - p) = s.length - p := fun h => wrap_in _ (by omega)
  refine CW.skip (Q.tn ?_)
  refine CW.seq ?_
  refine CW.seq ?_
  refine CW.region ?_
  refine W.p O.mv ?_
  refine W.p O.mv ?_
  refine W.p O.len ?_
  refine W.p O.gtr ?_
  refine W.p O.mv ?_
  refine W.p O.mv ?_
  refine W.p O.len ?_
  refine W.p O.mv ?_
  first | refine W.p O.subN ?_ | refine W.p O.sub ?_
  refine W.p O.mv ?_
  refine W.p O.lss ?_
  refine W.p O.pkB ?_
  refine WL.nil (Q.tn ?_)
  refine CW.cond (vt rfl) (fun hc2 => ?_) (fun hc2 => ?_)
  · try simp only [sk] at hc2
    have hbad : (s.length : Int) - k < p := by by_cases h : p ≤ s.length; (rw [hwr h] at hc2; omega); omega
    refine CW.seq ?_
    refine CW.region ?_
    refine W.p O.as ?_
    refine W.p O.as ?_
    refine WL.nil (Q.tn ?_)
    refine CW.ret (Q.tr ?_)
    refine ⟨_, [], (RVs.tmp rfl (RVs.tmp rfl RVs.nil)), List.nil_sublist _, ?_⟩
    refine ⟨?_, rfl⟩
    rw [beG, if_neg (by omega), if_pos hbad]; rfl
  try simp only [sk] at hc2
  rw [hwr (by omega)] at hc2
  refine CW.skip (Q.tn ?_)
  refine CW.seq ?_
  refine CW.region ?_
  refine W.p O.as ?_
  refine WL.nil (Q.tn ?_)
  refine CW.seq ?_
  refine CW.seq ?_
  refine CW.region ?_
  refine W.p O.as ?_
  refine WL.nil (Q.tn ?_)
  refine CW.block ?_
  refine CW.loopA (X := Int × Int) (fun ⟨i, x⟩ => [(0, true, .string (S s)), (1, true, .int .i64 p), (2, true, .int .i64 k), (8, true, .int .i64 x), (9, true, .int .i64 i)]) (fun ⟨i, x⟩ => []) (fun ⟨i, x⟩ => 0 ≤ i ∧ i ≤ k ∧ x = numI ((slc s p (p + k)).take i.toNat)) (fun ⟨i, x⟩ => (k - i).toNat) (0, 0) ?_ ?_
  · exact ⟨by omega, by omega, by simp [numI]⟩
  rintro ⟨i, x⟩ hI
  try dsimp only at hI ⊢
  obtain ⟨h0, h1, hx⟩ := hI
  have hT := slc_len (s := s) (i := p) (j := p + k) (by omega) (by omega) (by omega)
  refine CW.seq ?_
  refine CW.seq ?_
  refine CW.region ?_
  refine W.p O.mv ?_
  refine W.p O.mv ?_
  refine W.p O.lss ?_
  refine WL.nil (Q.tn ?_)
  refine CW.cond (vt rfl) (fun hc3 => ?_) (fun hc3 => ?_)
  · try simp only [sk] at hc3
    refine CW.skip (Q.tn ?_)
    refine CW.seq ?_
    refine CW.block ?_
    refine CW.region ?_
    refine W.p O.mv ?_
    refine W.p O.shl ?_
    refine W.p O.mv ?_
    refine W.p O.mv ?_
    refine W.p O.mv ?_
    first | refine W.p O.addN ?_ | refine W.p O.add ?_
    first | refine W.p O.idxS ?_ | refine W.p (O.idxS (h := fun hg => by simp only [cond_true, cond_false, Bool.true_and, Bool.cond_false_right, Bool.cond_true_left, Bool.and_eq_true, Bool.or_eq_true, Bool.or_eq_false_iff, Bool.and_eq_false_iff, Bool.not_eq_true', Bool.not_eq_false', decide_eq_true_eq, decide_eq_false_iff_not, Int.reduceToNat] at *; omega)) ?_
    first | refine W.p O.cvB ?_ | refine W.p O.cv ?_
    refine W.p O.or ?_
    refine W.p O.as ?_
    refine WL.nil (Q.bn (Q.tn ?_))
    refine CW.region ?_
    refine W.p O.mv ?_
    first | refine W.p O.addN ?_ | refine W.p O.add ?_
    refine W.p O.as ?_
    refine WL.nil (Q.tn ?_)
    refine nextA (_, _) ?_ ?_
    · try dsimp only
      refine ⟨by omega, by omega, ?_⟩
      rw [← slc_in (by omega) h0 hc3 (by omega)]; exact num_step h0 (by omega) (by omega) hx
    · try dsimp only
      omega
  try simp only [sk] at hc3
  refine CW.exit (Q.te (Q.te (Q.bx (Q.tn ?_))))
  refine CW.seq ?_
  refine CW.region ?_
  refine W.p O.mv ?_
  refine W.p O.as ?_
  refine W.p O.as ?_
  refine WL.nil (Q.tn ?_)
  refine CW.ret ?_
  refine ⟨_, [], (RVs.tmp rfl (RVs.tmp rfl RVs.nil)), List.nil_sublist _, ?_⟩
  refine ⟨?_, rfl⟩
  have e : (slc s p (p + k)).take i.toNat = slc s p (p + k) := List.take_of_length_le (by omega)
  rw [beG, if_neg (by omega), if_neg (by omega), hx, e]; rfl
theorem ref_GetBeI (s : List UInt8) (p k q : Int) (w : World) (hs : s.length ≤ 140737488355328) (hk : k = 1 ∨ k = 2 ∨ k = 4) (h0 : 0 ≤ p) (hq : p + k = q) (hl : q ≤ s.length) : Fn Try.prog 132 [.string (S s), .int .i64 p, .int .i64 k] w [] fun v L' => v = .tuple #[.int .i64 (numI (slc s p q)), .int .i64 0] ∧ L' = [] := by
  have := ref_GetBe s p k w hs
  rwa [beG_in hk h0 hq hl] at this
end Go.Proofs.Ytkjcmdgideddnaa
