/- The statement RrForms: its walk. No condition. -/
import Derived.Test.YtkjcmdgideddnaaL4
set_option linter.unusedVariables false
set_option linter.unusedSimpArgs false
namespace Go.Proofs.Ytkjcmdgideddnaa
open Go Go.RowKit
/-- records that may not be -/
def badsR (d : Int) : List RR := [⟨[], 0, 0, 0, [], [], 0⟩, ⟨[], 41, 0, 0, [], [], 0⟩, ⟨[], -d, 0, 0, [], [], 0⟩, ⟨[65], 1, 0, 0, [], [], 0⟩, ⟨[], 1, -d, 0, [], [], 0⟩, ⟨[], 1, 1048576 + d, 0, [], [], 0⟩, ⟨[], 1, 0, -d, [], [], 0⟩, ⟨[], 1, 0, 4294967295 + d, [], [], 0⟩, ⟨[], 1, 0, 0, [97], [], 0⟩, ⟨[], 1, 0, 0, [], [], d⟩, ⟨[], 2, 0, 0, [65], [], 0⟩, ⟨[], 2, 0, d, [], [], 0⟩, ⟨[], 12, 0, 0, [], [120], 0⟩, ⟨[], 5, 0, 0, [], [], d⟩, ⟨[], 6, 0, 0, [], [], -d⟩, ⟨[], 6, 0, 0, [], [], 4294967295 + d⟩, ⟨[], 6, 0, 0, [97, 46, 46, 98], [], 0⟩, ⟨[], 16, 0, 0, [], List.replicate (64 + d).toNat 0, 0⟩, ⟨[], 16, 0, d, [], [], 0⟩, ⟨[], 49, 0, 0, [97], [], 0⟩]
theorem badsR_no {d : Int} (hd : 1 ≤ d ∧ d ≤ 1024) : ∀ r ∈ badsR d, rrMay r = false ∧ r.name.length ≤ 10 ∧ r.target.length ≤ 10 := by
  have h65 : nmMay [65] = false := by decide
  have hab : nmMay [97, 46, 46, 98] = false := by decide
  have e1 : ¬ -d = 1 := by omega
  have e2 : ¬ -d = 2 := by omega
  have e3 : ¬ -d = 5 := by omega
  have e4 : ¬ -d = 12 := by omega
  have e5 : ¬ -d = 6 := by omega
  have e6 : ¬ -d = 16 := by omega
  have e7 : ¬ -d = 49 := by omega
  intro r hr
  simp only [badsR, List.mem_cons, List.not_mem_nil, or_false] at hr
  rcases hr with rfl | rfl | rfl | rfl | rfl | rfl | rfl | rfl | rfl | rfl | rfl | rfl | rfl | rfl | rfl | rfl | rfl | rfl | rfl | rfl
  all_goals refine ⟨?_, by simp, by simp⟩
  all_goals (simp [rrMay, rrBody, isName, word, h65, hab, e1, e2, e3, e4, e5, e6, e7])
  all_goals (try omega)
theorem badsR_at {d : Int} (hd : 1 ≤ d ∧ d ≤ 1024) {i : Int} (h0 : 0 ≤ i) (h1 : i < 20) : rrMay ((badsR d).getD i.toNat dR) = false ∧ ((badsR d).getD i.toNat dR).name.length ≤ 10 ∧ ((badsR d).getD i.toNat dR).target.length ≤ 10 :=
  badsR_no hd _ (mem_at dR h0 (by simpa [badsR] using h1))
set_option maxRecDepth 100000 in
theorem law4_RrForms (which x : Int) (w : World) : Fn Try.prog 26 [.int .i64 which, .int .i64 x] w [] fun v L' => v = .bool true ∧ L' = [] := by
  have hb := badsR_at (d := (1 + x % 1024)) (by omega) (i := (which % 18446744073709551616 % 20)) (by omega) (by omega)
  have hbl : (badsR (1 + x % 1024)).length = 20 := rfl
  have hrl : (List.replicate (64 + (1 + x % 1024)).toNat (0 : UInt8)).length = (64 + (1 + x % 1024)).toNat := List.length_replicate
  have k1 : rrPut 0 [] ((badsR (1 + x % 1024)).getD (which % 18446744073709551616 % 20).toNat dR) = ([], [], 400) := rrPut_no hb.1
  have k2 : rrPut (-(1 + x % 1024)) [] ⟨[], 1, 0, 0, [], [], 0⟩ = ([], [], 400) := rrPut_bad (fun e => by have := (nmPut_rng e).1; omega)
  have k3 : rrPut 0 [⟨[65], 0⟩] ⟨[97], 1, 0, 0, [], [], 0⟩ = ([], [], 400) := rrPut_bad (by decide)
  refine Fn.enter Try.func26 rfl rfl rfl rfl (Holds.nil w) ?_
  refine CW.seq ?_
  refine CW.region ?_
  refine W.p O.as ?_
  refine WL.nil (Q.tn ?_)
  refine CW.seq ?_
  refine CW.seq ?_
  refine CW.region ?_
  refine W.q (O.call ⟨rfl, rfl⟩ (AV.nil) (fun _ w hw => law4_awake w)) ?_
  refine W.p O.nt ?_
  refine WL.nil (Q.tn ?_)
  refine CW.cond (vt rfl) (fun hc1 => ?_) (fun hc1 => ?_)
  · exact absurd hc1 (by decide)
  try simp only [Bool.cond_true_left, Bool.cond_false_right, Bool.or_eq_true, Bool.or_eq_false_iff, Bool.and_eq_true, Bool.and_eq_false_iff, decide_eq_true_eq, decide_eq_false_iff_not, Bool.not_eq_true', Bool.not_eq_false'] at hc1
  refine CW.skip (Q.tn ?_)
  refine CW.seq ?_
  refine CW.region ?_
  refine W.p O.mv ?_
  refine W.p (O.andM 10 1024 (h := by decide) (hq := by decide) (hM := by decide)) ?_
  first | refine W.p O.addN ?_ | refine W.p O.add ?_
  refine W.p O.as ?_
  refine WL.nil (Q.tn ?_)
  refine CW.seq ?_
  refine CW.region ?_
  refine W.p (O.bd (hv := PV.nil)) ?_
  refine W.p (O.bd (hv := PV.cons (vt rfl) (PV.nil))) ?_
  refine W.p O.mv ?_
  first | refine W.p O.ngN ?_ | refine W.p O.ng ?_
  refine W.p (O.bd (hv := PV.cons (vt rfl) (PV.nil))) ?_
  refine W.p (O.bd (hv := PV.cons (vt rfl) (PV.cons (vt rfl) (PV.nil)))) ?_
  refine W.p O.mv ?_
  first | refine W.p O.ngN ?_ | refine W.p O.ng ?_
  refine W.p (O.bd (hv := PV.cons (vt rfl) (PV.cons (vt rfl) (PV.nil)))) ?_
  refine W.p O.mv ?_
  first | refine W.p O.addN ?_ | refine W.p O.add ?_
  refine W.p (O.bd (hv := PV.cons (vt rfl) (PV.cons (vt rfl) (PV.nil)))) ?_
  refine W.p O.mv ?_
  first | refine W.p O.ngN ?_ | refine W.p O.ng ?_
  refine W.p (O.bd (hv := PV.cons (vt rfl) (PV.cons (vt rfl) (PV.nil)))) ?_
  refine W.p O.mv ?_
  first | refine W.p O.addN ?_ | refine W.p O.add ?_
  refine W.p (O.bd (hv := PV.cons (vt rfl) (PV.cons (vt rfl) (PV.nil)))) ?_
  refine W.p (O.bd (hv := PV.cons (vt rfl) (PV.cons (vt rfl) (PV.nil)))) ?_
  refine W.p O.mv ?_
  refine W.p (O.bd (hv := PV.cons (vt rfl) (PV.cons (vt rfl) (PV.nil)))) ?_
  refine W.p (O.bd (hv := PV.cons (vt rfl) (PV.cons (vt rfl) (PV.nil)))) ?_
  refine W.p O.mv ?_
  refine W.p (O.bd (hv := PV.cons (vt rfl) (PV.cons (vt rfl) (PV.nil)))) ?_
  refine W.p (O.bd (hv := PV.cons (vt rfl) (PV.cons (vt rfl) (PV.nil)))) ?_
  refine W.p O.mv ?_
  refine W.p (O.bd (hv := PV.cons (vt rfl) (PV.cons (vt rfl) (PV.nil)))) ?_
  refine W.p O.mv ?_
  first | refine W.p O.ngN ?_ | refine W.p O.ng ?_
  refine W.p (O.bd (hv := PV.cons (vt rfl) (PV.cons (vt rfl) (PV.nil)))) ?_
  refine W.p O.mv ?_
  first | refine W.p O.addN ?_ | refine W.p O.add ?_
  refine W.p (O.bd (hv := PV.cons (vt rfl) (PV.cons (vt rfl) (PV.nil)))) ?_
  refine W.p (O.bd (hv := PV.cons (vt rfl) (PV.cons (vt rfl) (PV.nil)))) ?_
  refine W.p O.mv ?_
  first | refine W.p O.addN ?_ | refine W.p O.add ?_
  refine W.mkF rfl (vt rfl) (vt rfl) (by first | omega | decide) fun b1 => ?_
  refine W.p (O.cvRow ⟨rfl, rfl⟩ (vt rfl) (by first | rfl | omega) (fun _ => ⟨_, rfl⟩)) ?_
  refine W.p (O.bd (hv := PV.cons (vt rfl) (PV.cons (vt rfl) (PV.nil)))) ?_
  refine W.p O.mv ?_
  refine W.p (O.bd (hv := PV.cons (vt rfl) (PV.cons (vt rfl) (PV.nil)))) ?_
  refine W.p (O.bd (hv := PV.cons (vt rfl) (PV.cons (vt rfl) (PV.nil)))) ?_
  refine W.bs encR (badsR (1 + x % 1024)) rfl (PV.cons (vt rfl) (PV.cons (vt rfl) (PV.cons (vt rfl) (PV.cons (vt rfl) (PV.cons (vt rfl) (PV.cons (vt rfl) (PV.cons (vt rfl) (PV.cons (vt rfl) (PV.cons (vt rfl) (PV.cons (vt rfl) (PV.cons (vt rfl) (PV.cons (vt rfl) (PV.cons (vt rfl) (PV.cons (vt rfl) (PV.cons (vt rfl) (PV.cons (vt rfl) (PV.cons (vt rfl) (PV.cons (vt rfl) (PV.cons (vt rfl) (PV.cons (vt rfl) (PV.nil))))))))))))))))))))) rfl rfl rfl (by decide) rfl fun b2 => ?_
  refine W.p O.as ?_
  refine WL.nil (Q.tn ?_)
  refine CW.seq ?_
  refine CW.region ?_
  refine W.p O.mv ?_
  refine W.p O.mv ?_
  refine W.p O.cvUn ?_
  refine W.p O.rem ?_
  first | refine W.p O.cvN ?_ | refine W.p O.cv ?_
  refine W.p O.ixA ?_
  refine W.p O.ldsE ?_
  refine W.al rfl rfl fun b3 => ?_
  refine W.st (vt rfl) (vt rfl) rfl ?_
  refine WL.nil (Q.tn ?_)
  refine CW.seq ?_
  refine CW.region ?_
  refine W.p O.lds ?_
  refine W.callN (first := []) (cap := []) rfl (vt rfl) (AV.cons (vt rfl) (AV.cons (vt rfl) (AV.cons (vt rfl) (AV.nil)))) (fun w hu => rr_Put 0 [] ((badsR (1 + x % 1024)).getD (which % 18446744073709551616 % 20).toNat dR) none 0 w In.nil (by decide) (by decide) (by simp) (by omega) (by omega)) ?_; rintro _ _ ⟨o11, c11, sp11, rfl, ok11, rfl⟩; have nk11 := ok11.nk
  refine W.p O.mv ?_
  first | refine W.p O.extL ?_ | refine W.p O.ext ?_
  first | refine W.p O.extL ?_ | refine W.p O.ext ?_
  first | refine W.p O.extL ?_ | refine W.p O.ext ?_
  refine W.p O.as ?_
  refine W.p O.as ?_
  refine W.p O.as ?_
  refine WL.nil (Q.tn ?_)
  refine CW.seq ?_
  refine CW.region ?_
  refine W.p O.mv ?_
  first | refine W.p O.ngN ?_ | refine W.p O.ng ?_
  refine W.p (O.bd (hv := PV.cons (vt rfl) (PV.nil))) ?_
  refine W.callN (first := []) (cap := []) rfl (vt rfl) (AV.cons (vt rfl) (AV.cons (vt rfl) (AV.cons (vt rfl) (AV.nil)))) (fun w hu => rr_Put (-(1 + x % 1024)) [] ⟨[], 1, 0, 0, [], [], 0⟩ none 0 w In.nil (by omega) (by decide) (by simp) (by simp) (by simp)) ?_; rintro _ _ ⟨o12, c12, sp12, rfl, ok12, rfl⟩; have nk12 := ok12.nk
  refine W.p O.mv ?_
  first | refine W.p O.extL ?_ | refine W.p O.ext ?_
  first | refine W.p O.extL ?_ | refine W.p O.ext ?_
  first | refine W.p O.extL ?_ | refine W.p O.ext ?_
  refine W.p O.as ?_
  refine W.p O.as ?_
  refine W.p O.as ?_
  refine WL.nil (Q.tn ?_)
  refine CW.seq ?_
  refine CW.region ?_
  refine W.p (O.bd (hv := PV.cons (vt rfl) (PV.nil))) ?_
  refine W.bs encK [⟨[65], 0⟩] rfl (PV.cons (vt rfl) (PV.nil)) rfl rfl rfl (by decide) rfl fun b4 => ?_
  refine W.p (O.bd (hv := PV.cons (vt rfl) (PV.cons (vt rfl) (PV.nil)))) ?_
  refine W.callN (first := []) (cap := []) rfl (vt rfl) (AV.cons (vt rfl) (AV.cons (vt rfl) (AV.cons (vt rfl) (AV.nil)))) (fun w hu => rr_Put 0 [⟨[65], 0⟩] ⟨[97], 1, 0, 0, [], [], 0⟩ _ _ w (RowL.h _ hu) (by decide) (by simp) (by simp) (by simp) (by simp)) ?_; rintro _ _ ⟨o13, c13, sp13, rfl, ok13, rfl⟩; have nk13 := ok13.nk
  refine W.p O.mv ?_
  first | refine W.p O.extL ?_ | refine W.p O.ext ?_
  first | refine W.p O.extL ?_ | refine W.p O.ext ?_
  first | refine W.p O.extL ?_ | refine W.p O.ext ?_
  refine W.p O.as ?_
  refine W.p O.as ?_
  refine W.p O.as ?_
  refine WL.nil (Q.tn ?_)
  refine CW.seq ?_
  refine CW.region ?_
  refine W.p O.lds ?_
  refine W.q (O.call ⟨rfl, rfl⟩ (AV.cons (vt rfl) (AV.nil)) (fun _ w hw => rr_May ((badsR (1 + x % 1024)).getD (which % 18446744073709551616 % 20).toNat dR) w (by omega) (by omega))) ?_
  refine W.p O.nt ?_
  refine W.p O.mv ?_
  refine W.p O.mv ?_
  refine W.p O.eqS ?_
  refine W.p O.pkB ?_
  refine W.p O.mv ?_
  refine W.p O.mv ?_
  refine W.p O.lenL ?_
  refine W.p O.eqI ?_
  refine W.p O.pkB ?_
  refine W.p O.mv ?_
  refine W.p O.mv ?_
  refine W.q (O.call ⟨rfl, rfl⟩ (AV.cons (vs rfl) (AV.nil)) (fun _ w hw => law0_Num _ w)) ?_
  refine W.p O.eqI ?_
  refine W.p O.pkB ?_
  refine W.p O.mv ?_
  refine W.p O.mv ?_
  refine W.q (O.call ⟨rfl, rfl⟩ (AV.cons (vs rfl) (AV.nil)) (fun _ w hw => law0_Num _ w)) ?_
  refine W.p O.eqI ?_
  refine W.p O.pkB ?_
  refine W.p O.mv ?_
  refine W.p O.mv ?_
  refine W.q (O.call ⟨rfl, rfl⟩ (AV.cons (vs rfl) (AV.nil)) (fun _ w hw => law0_Num _ w)) ?_
  refine W.p O.eqI ?_
  refine W.p O.pkB ?_
  refine W.p O.as ?_
  refine WL.nil (Q.tn ?_)
  refine CW.ret ?_
  refine ⟨_, [], (RVs.tmp rfl RVs.nil), List.nil_sublist _, ?_⟩
  refine ⟨?_, rfl⟩
  rw [k1, k2, k3, hb.1]; rfl
end Go.Proofs.Ytkjcmdgideddnaa
