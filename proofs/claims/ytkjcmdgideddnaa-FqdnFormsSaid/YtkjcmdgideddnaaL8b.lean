/- The statement FqdnForms: its walk. No condition. -/
import Derived.Test.YtkjcmdgideddnaaL8
set_option linter.unusedVariables false
set_option linter.unusedSimpArgs false
namespace Go.Proofs.Ytkjcmdgideddnaa
open Go Go.RowKit
abbrev fqBads : List (List UInt8) := [[], [4], [4, 0], [0, 0, 0], [16, 0, 0], [4, 0, 0, 2, 97], [4, 0, 0, 1, 97, 0, 0], [4, 0, 0, 1, 95], [4, 0, 0, 192, 0], [4, 0, 0, 9, 97, 98, 99, 100, 101, 102, 103, 104, 105], [4, 0, 0, 1, 97, 0, 98]]
theorem fqBads_no : ∀ k, k < 11 → fqGet (fqBads.getD k []) = (0, [], 800) := by decide
theorem fqFlags_no (d : Int) (h : 1 ≤ d) : ∀ k, k < 5 → fqMay (([0, 3, 8, -d, 15 + d] : List Int).getD k 0) = false := by
  intro k hk
  have : k = 0 ∨ k = 1 ∨ k = 2 ∨ k = 3 ∨ k = 4 := by omega
  rcases this with rfl | rfl | rfl | rfl | rfl
  · rfl
  · rfl
  · rfl
  · show fqMay (-d) = false
    rw [fqMay, decide_eq_false (by omega : ¬ (0 : Int) ≤ -d)]; rfl
  · show fqMay (15 + d) = false
    rw [fqMay, decide_eq_false (by omega : ¬ 15 + d ≤ 15)]; simp
theorem fqPut_no {f : Int} {nm : List UInt8} (h : fqMay f = false) : fqPut f nm = ([], 800) := by
  rw [fqPut, if_neg (by rw [h]; rintro ⟨a, _⟩; cases a)]
set_option maxRecDepth 100000 in
theorem law8_FqdnForms (which x : Int) (w : World) : Fn Try.prog 22 [.int .i64 which, .int .i64 x] w [] fun v L' => v = .bool true ∧ L' = [] := by
  refine Fn.enter Try.func22 rfl rfl rfl rfl (Holds.nil w) ?_
  refine CW.seq ?_
  refine CW.region ?_
  refine W.p O.as ?_
  refine WL.nil (Q.tn ?_)
  refine CW.seq ?_
  refine CW.seq ?_
  refine CW.region ?_
  refine W.q (O.call ⟨rfl, rfl⟩ (AV.nil) (fun _ w hw => law8_awake w)) ?_
  refine W.p O.nt ?_
  refine WL.nil (Q.tn ?_)
  refine CW.cond (vt rfl) (fun hc1 => ?_) (fun hc1 => ?_)
  · exact absurd hc1 (by decide)
  · try simp only [Bool.cond_true_left, Bool.cond_false_right, Bool.or_eq_true, Bool.or_eq_false_iff, Bool.and_eq_true, Bool.and_eq_false_iff, decide_eq_true_eq, decide_eq_false_iff_not, Bool.not_eq_true', Bool.not_eq_false'] at hc1
    refine CW.skip (Q.tn ?_)
    refine CW.seq ?_
    refine CW.region ?_
    refine W.p O.mv ?_
    refine W.p (O.andM 10 1024 (h := by decide) (hq := by decide) (hM := by decide)) ?_
    first | refine W.p O.addN ?_ | refine W.p O.add ?_
    refine W.p O.as ?_
    refine WL.nil (Q.tn ?_)
    refine CW.seq ?_
    refine CW.region ?_
    refine W.p O.mv ?_
    first | refine W.p O.ngN ?_ | refine W.p O.ng ?_
    refine W.p O.mv ?_
    first | refine W.p O.addN ?_ | refine W.p O.add ?_
    refine W.bs encI [0, 3, 8, -(1 + x % 1024), 15 + (1 + x % 1024)] rfl (PV.cons (vt rfl) (PV.cons (vt rfl) (PV.cons (vt rfl) (PV.cons (vt rfl) (PV.cons (vt rfl) (PV.nil)))))) rfl rfl rfl (by decide) rfl fun b1 => ?_
    refine W.p O.mv ?_
    refine W.p O.cvUn ?_
    refine W.p O.rem ?_
    first | refine W.p O.cvN ?_ | refine W.p O.cv ?_
    refine W.p O.ixA ?_
    refine W.p O.ldE ?_
    refine W.q (O.call ⟨rfl, rfl⟩ (AV.cons (vt rfl) (AV.cons (vt rfl) (AV.nil))) (fun _ w hw => fq_Put _ _ w (by decide))) ?_
    refine W.p O.mv ?_
    refine W.p O.ext ?_
    refine W.p O.ext ?_
    refine W.p O.as ?_
    refine W.p O.as ?_
    refine WL.nil (Q.tn ?_)
    refine CW.seq ?_
    refine CW.region ?_
    refine W.q (O.call ⟨rfl, rfl⟩ (AV.cons (vt rfl) (AV.cons (vt rfl) (AV.nil))) (fun _ w hw => fq_Put _ _ w (by decide))) ?_
    refine W.p O.mv ?_
    refine W.p O.ext ?_
    refine W.p O.ext ?_
    refine W.p O.as ?_
    refine W.p O.as ?_
    refine WL.nil (Q.tn ?_)
    refine CW.seq ?_
    refine CW.region ?_
    refine W.bs encS fqBads rfl (PV.cons (vt rfl) (PV.cons (vt rfl) (PV.cons (vt rfl) (PV.cons (vt rfl) (PV.cons (vt rfl) (PV.cons (vt rfl) (PV.cons (vt rfl) (PV.cons (vt rfl) (PV.cons (vt rfl) (PV.cons (vt rfl) (PV.cons (vt rfl) (PV.nil)))))))))))) rfl rfl rfl (by decide) rfl fun b2 => ?_
    refine W.p O.as ?_
    refine WL.nil (Q.tn ?_)
    refine CW.seq ?_
    refine CW.region ?_
    refine W.p O.mv ?_
    refine W.p O.mv ?_
    refine W.p O.cvUn ?_
    refine W.p O.rem ?_
    first | refine W.p O.cvN ?_ | refine W.p O.cv ?_
    refine W.p O.ixA ?_
    refine W.p O.ldE ?_
    refine W.q (O.call ⟨rfl, rfl⟩ (AV.cons (vt rfl) (AV.nil)) (fun _ w hw => fq_Get _ w (Nat.le_trans (flat_getD _ _) (by decide)))) ?_
    refine W.p O.mv ?_
    refine W.p O.ext ?_
    refine W.p O.ext ?_
    refine W.p O.ext ?_
    refine W.p O.as ?_
    refine W.p O.as ?_
    refine W.p O.as ?_
    refine WL.nil (Q.tn ?_)
    refine CW.seq ?_
    refine CW.region ?_
    refine W.q (O.call ⟨rfl, rfl⟩ (AV.cons (vt rfl) (AV.nil)) (fun _ w hw => fq_Get _ w (by decide))) ?_
    refine W.p O.mv ?_
    refine W.p O.ext ?_
    refine W.p O.ext ?_
    refine W.p O.ext ?_
    refine W.p O.as ?_
    refine W.p O.as ?_
    refine W.p O.as ?_
    refine WL.nil (Q.tn ?_)
    refine CW.seq ?_
    refine CW.region ?_
    refine W.p O.mv ?_
    refine W.q (O.call ⟨rfl, rfl⟩ (AV.cons (vt rfl) (AV.nil)) (fun _ w hw => law0_Num _ w)) ?_
    refine W.p O.eqI ?_
    refine W.p O.mv ?_
    refine W.p O.mv ?_
    refine W.q (O.call ⟨rfl, rfl⟩ (AV.cons (vs rfl) (AV.nil)) (fun _ w hw => law0_Num _ w)) ?_
    refine W.p O.eqI ?_
    refine W.p O.pkB ?_
    refine W.p O.mv ?_
    refine W.p O.mv ?_
    refine W.p O.eqI ?_
    refine W.p O.pkB ?_
    refine W.p O.mv ?_
    refine W.p O.mv ?_
    refine W.p O.eqS ?_
    refine W.p O.pkB ?_
    refine W.p O.mv ?_
    refine W.p O.mv ?_
    refine W.q (O.call ⟨rfl, rfl⟩ (AV.cons (vs rfl) (AV.nil)) (fun _ w hw => law0_Num _ w)) ?_
    refine W.p O.eqI ?_
    refine W.p O.pkB ?_
    refine W.p O.mv ?_
    refine W.p O.mv ?_
    refine W.p O.eqI ?_
    refine W.p O.pkB ?_
    refine W.p O.mv ?_
    refine W.p O.mv ?_
    refine W.p O.eqS ?_
    refine W.p O.pkB ?_
    refine W.p O.mv ?_
    refine W.p O.mv ?_
    refine W.q (O.call ⟨rfl, rfl⟩ (AV.cons (vs rfl) (AV.nil)) (fun _ w hw => law0_Num _ w)) ?_
    refine W.p O.eqI ?_
    refine W.p O.pkB ?_
    refine W.p O.as ?_
    refine WL.nil (Q.tn ?_)
    refine CW.ret ?_
    refine ⟨_, [], (RVs.tmp rfl RVs.nil), List.nil_sublist _, ?_⟩
    refine ⟨?_, rfl⟩
    have h1 := fqPut_no (nm := [97]) (fqFlags_no (1 + x % 1024) (by omega) (which % 18446744073709551616 % 5).toNat (by omega))
    have h2 : fqPut 4 [65] = ([], 800) := by decide
    have h3 := fqBads_no (which % 18446744073709551616 % 11).toNat (by omega)
    have h4 : fqGet [15, 7, 8] = (15, [], 0) := by decide
    rw [h1, h2, h3, h4]; rfl
end Go.Proofs.Ytkjcmdgideddnaa
