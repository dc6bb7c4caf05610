/- The statement WireForms: its walk. No condition. -/
import Derived.Test.YtkjcmdgideddnaaL3
import Derived.Test.YtkjcmdgideddnaaLies
set_option linter.unusedVariables false
set_option linter.unusedSimpArgs false
namespace Go.Proofs.Ytkjcmdgideddnaa
open Go Go.RowKit
/-- rows of rows: where a row lies, and what is in it -/
abbrev encL : (Option Addr × List Kn) → List Value := fun p => [.slice p.1 p.2.length p.2.length]
instance : Enc encL 1 (none, []) := ⟨fun _ => rfl, by decide⟩
def kssW (b1 b2 b3 b4 : Nat) (d : Int) : List (Option Addr × List Kn) := [(some ⟨b1, 0, none⟩, [⟨[], 1⟩]), (some ⟨b2, 0, none⟩, [⟨[65], 1⟩]), (some ⟨b3, 0, none⟩, [⟨[97], -d⟩]), (some ⟨b4, 0, none⟩, [⟨[97], 16383 + d⟩])]
theorem kss_all {b1 b2 b3 b4 : Nat} {d : Int} {P : Option Addr × List Kn → Prop} (h1 : P (some ⟨b1, 0, none⟩, [⟨[], 1⟩])) (h2 : P (some ⟨b2, 0, none⟩, [⟨[65], 1⟩])) (h3 : P (some ⟨b3, 0, none⟩, [⟨[97], -d⟩])) (h4 : P (some ⟨b4, 0, none⟩, [⟨[97], 16383 + d⟩])) {i : Int} (h0 : 0 ≤ i) (hi : i < 4) : P ((kssW b1 b2 b3 b4 d).getD i.toNat (none, [])) := by
  rcases (by omega : i = 0 ∨ i = 1 ∨ i = 2 ∨ i = 3) with rfl | rfl | rfl | rfl
  · exact h1
  · exact h2
  · exact h3
  · exact h4
def txW : List (List UInt8) := [[], [1], [2, 97], [1, 97], [9, 97, 98, 99, 100, 101, 102, 103, 104, 105, 0], [64], [128, 0], [192], [192, 0], [192, 5], [1, 97, 192, 0], [1, 95, 0], [1, 49, 1, 49, 1, 49, 1, 49, 1, 49, 1, 49, 1, 49, 1, 49, 1, 49, 0]]
def cdW : List Int := [301, 301, 301, 301, 300, 300, 300, 301, 300, 300, 300, 300, 300]
theorem txW_at {i : Int} (h0 : 0 ≤ i) (h1 : i < 13) : (txW.getD i.toNat []).length ≤ 30 ∧ getName (txW.getD i.toNat []) 0 = .err (cdW.getD i.toNat 0) := by
  have key : ∀ n : Nat, n < 13 → (txW.getD n []).length ≤ 30 ∧ getName (txW.getD n []) 0 = .err (cdW.getD n 0) := by decide +kernel
  exact key i.toNat (by omega)
set_option maxRecDepth 100000 in
theorem law3_WireForms (which x : Int) (w : World) : Fn Try.prog 10 [.int .i64 which, .int .i64 x] w [] fun v L' => v = .bool true ∧ L' = [] := by
  have ht := txW_at (i := (which % 18446744073709551616 % 13)) (by omega) (by omega)
  have hl13 : txW.length = 13 := rfl
  have hl13' : cdW.length = 13 := rfl
  have hl4 : ∀ b1 b2 b3 b4, (kssW b1 b2 b3 b4 (1 + x % 1024)).length = 4 := fun _ _ _ _ => rfl
  have k1 : nmPut (-(1 + x % 1024)) [] [97] = ([], [], 300) := nmPut_bad (by rw [decide_eq_false (by omega : ¬ 0 ≤ -(1 + x % 1024))]; simp)
  have k2 : nmPut (65535 + (1 + x % 1024)) [] [97] = ([], [], 300) := nmPut_bad (by rw [decide_eq_false (by omega : ¬ 65535 + (1 + x % 1024) ≤ 65535)]; simp)
  have k3 : nmPut 0 [] [97, 46, 46, 98] = ([], [], 300) := nmPut_bad (by decide)
  have g2 : getName [97] (-(1 + x % 1024)) = .err 300 := getName_neg _ (by omega)
  have g3 : getName [97] (1 + (1 + x % 1024)) = .err 301 := getName_eq (by omega) (Got.stop (sG1 (by show (1 : Int) ≤ _; omega)))
  have k4 : ∀ b1 b2 b3 b4, nmPut 0 ((kssW b1 b2 b3 b4 (1 + x % 1024)).getD (which % 18446744073709551616 % 4).toNat (none, [])).2 [97] = ([], [], 300) := fun b1 b2 b3 b4 => by
    refine nmPut_bad ?_
    have : (((kssW b1 b2 b3 b4 (1 + x % 1024)).getD (which % 18446744073709551616 % 4).toNat (none, [])).2.all knOk) = false := by
      refine kss_all (P := fun p => p.2.all knOk = false) rfl rfl ?_ ?_ (by omega) (by omega)
      · show (knOk ⟨[97], -(1 + x % 1024)⟩ && true) = false
        rw [knOk, decide_eq_false (by dsimp only; omega : ¬ 0 ≤ (⟨[97], -(1 + x % 1024)⟩ : Kn).pos)]; simp
      · show (knOk ⟨[97], 16383 + (1 + x % 1024)⟩ && true) = false
        rw [knOk, decide_eq_false (by dsimp only; omega : ¬ (⟨[97], 16383 + (1 + x % 1024)⟩ : Kn).pos < 16384)]; simp
    rw [this]; rfl
  refine Fn.enter Try.func10 rfl rfl rfl rfl (Holds.nil w) ?_
  refine CW.seq ?_
  refine CW.region ?_
  refine W.p O.as ?_
  refine WL.nil (Q.tn ?_)
  refine CW.seq ?_
  refine CW.seq ?_
  refine CW.region ?_
  refine W.q (O.call ⟨rfl, rfl⟩ (AV.nil) (fun _ w hw => law3_awake w)) ?_
  refine W.p O.nt ?_
  refine WL.nil (Q.tn ?_)
  refine CW.cond (vt rfl) (fun hc1 => ?_) (fun hc1 => ?_)
  · exact absurd hc1 (by decide)
  try simp only [Bool.cond_true_left, Bool.cond_false_right, Bool.or_eq_true, Bool.or_eq_false_iff, Bool.and_eq_true, Bool.and_eq_false_iff, decide_eq_true_eq, decide_eq_false_iff_not, Bool.not_eq_true', Bool.not_eq_false'] at hc1
  refine CW.skip (Q.tn ?_)
  refine CW.seq ?_
  refine CW.region ?_
  refine W.p O.mv ?_
  refine W.p (O.andM 10 1024 (h := by decide) (hq := by decide) (hM := by decide)) ?_
  first | refine W.p O.addN ?_ | refine W.p O.add ?_
  refine W.p O.as ?_
  refine WL.nil (Q.tn ?_)
  refine CW.seq ?_
  refine CW.region ?_
  refine W.p O.mv ?_
  first | refine W.p O.ngN ?_ | refine W.p O.ng ?_
  refine W.callN (first := []) (cap := []) rfl (vt rfl) (AV.cons (vt rfl) (AV.cons (vt rfl) (AV.cons (vt rfl) (AV.nil)))) (fun w hu => wr_Put (-(1 + x % 1024)) [] [97] none 0 w In.nil (by decide) (by simp) (by decide)) ?_; rintro _ _ ⟨o11, c11, sp11, rfl, ok11, rfl⟩; have nk11 := ok11.nk
  refine W.p O.mv ?_
  first | refine W.p O.extL ?_ | refine W.p O.ext ?_
  first | refine W.p O.extL ?_ | refine W.p O.ext ?_
  first | refine W.p O.extL ?_ | refine W.p O.ext ?_
  refine W.p O.as ?_
  refine W.p O.as ?_
  refine W.p O.as ?_
  refine WL.nil (Q.tn ?_)
  refine CW.seq ?_
  refine CW.region ?_
  refine W.p O.mv ?_
  first | refine W.p O.addN ?_ | refine W.p O.add ?_
  refine W.callN (first := []) (cap := []) rfl (vt rfl) (AV.cons (vt rfl) (AV.cons (vt rfl) (AV.cons (vt rfl) (AV.nil)))) (fun w hu => wr_Put (65535 + (1 + x % 1024)) [] [97] none 0 w In.nil (by decide) (by simp) (by decide)) ?_; rintro _ _ ⟨o12, c12, sp12, rfl, ok12, rfl⟩; have nk12 := ok12.nk
  refine W.p O.mv ?_
  first | refine W.p O.extL ?_ | refine W.p O.ext ?_
  first | refine W.p O.extL ?_ | refine W.p O.ext ?_
  first | refine W.p O.extL ?_ | refine W.p O.ext ?_
  refine W.p O.as ?_
  refine W.p O.as ?_
  refine W.p O.as ?_
  refine WL.nil (Q.tn ?_)
  refine CW.seq ?_
  refine CW.region ?_
  refine W.callN (first := []) (cap := []) rfl (vt rfl) (AV.cons (vt rfl) (AV.cons (vt rfl) (AV.cons (vt rfl) (AV.nil)))) (fun w hu => wr_Put 0 [] [97, 46, 46, 98] none 0 w In.nil (by decide) (by simp) (by decide)) ?_; rintro _ _ ⟨o13, c13, sp13, rfl, ok13, rfl⟩; have nk13 := ok13.nk
  refine W.p O.mv ?_
  first | refine W.p O.extL ?_ | refine W.p O.ext ?_
  first | refine W.p O.extL ?_ | refine W.p O.ext ?_
  first | refine W.p O.extL ?_ | refine W.p O.ext ?_
  refine W.p O.as ?_
  refine W.p O.as ?_
  refine W.p O.as ?_
  refine WL.nil (Q.tn ?_)
  refine CW.seq ?_
  refine CW.region ?_
  refine W.p (O.bd (hv := PV.cons (vt rfl) (PV.cons (vt rfl) (PV.nil)))) ?_
  refine W.bs encK [⟨_, _⟩] rfl (PV.cons (vt rfl) (PV.nil)) rfl rfl rfl (by decide) rfl fun b1 => ?_
  refine W.p (O.bd (hv := PV.cons (vt rfl) (PV.cons (vt rfl) (PV.nil)))) ?_
  refine W.bs encK [⟨_, _⟩] rfl (PV.cons (vt rfl) (PV.nil)) rfl rfl rfl (by decide) rfl fun b2 => ?_
  refine W.p O.mv ?_
  first | refine W.p O.ngN ?_ | refine W.p O.ng ?_
  refine W.p (O.bd (hv := PV.cons (vt rfl) (PV.cons (vt rfl) (PV.nil)))) ?_
  refine W.bs encK [⟨_, _⟩] rfl (PV.cons (vt rfl) (PV.nil)) rfl rfl rfl (by decide) rfl fun b3 => ?_
  refine W.p O.mv ?_
  first | refine W.p O.addN ?_ | refine W.p O.add ?_
  refine W.p (O.bd (hv := PV.cons (vt rfl) (PV.cons (vt rfl) (PV.nil)))) ?_
  refine W.bs encK [⟨_, _⟩] rfl (PV.cons (vt rfl) (PV.nil)) rfl rfl rfl (by decide) rfl fun b4 => ?_
  refine W.bs encL ([(some ⟨b1, 0, none⟩, [⟨[], 1⟩]), (some ⟨b2, 0, none⟩, [⟨[65], 1⟩]), (some ⟨b3, 0, none⟩, [⟨[97], -(1 + x % 1024)⟩]), (some ⟨b4, 0, none⟩, [⟨[97], 16383 + (1 + x % 1024)⟩])] : List (Option Addr × List Kn)) rfl (PV.cons (vt rfl) (PV.cons (vt rfl) (PV.cons (vt rfl) (PV.cons (vt rfl) (PV.nil))))) rfl rfl rfl (by decide) rfl fun b5 => ?_
  refine W.p O.as ?_
  refine WL.nil (Q.tn ?_)
  refine CW.seq ?_
  refine CW.region ?_
  refine W.p O.mv ?_
  refine W.p O.mv ?_
  refine W.p O.cvUn ?_
  refine W.p O.rem ?_
  first | refine W.p O.cvN ?_ | refine W.p O.cv ?_
  refine W.p O.ixA ?_
  refine W.p O.ldE ?_
  refine W.callN (first := []) (cap := []) rfl (vt rfl) (AV.cons (vt rfl) (AV.cons (vt rfl) (AV.cons (vt rfl) (AV.nil)))) (fun w hu => wr_Put 0 (([(some ⟨b1, 0, none⟩, [⟨[], 1⟩]), (some ⟨b2, 0, none⟩, [⟨[65], 1⟩]), (some ⟨b3, 0, none⟩, [⟨[97], -(1 + x % 1024)⟩]), (some ⟨b4, 0, none⟩, [⟨[97], 16383 + (1 + x % 1024)⟩])] : List (Option Addr × List Kn)).getD (which % 18446744073709551616 % 4).toNat (none, [])).2 [97] (([(some ⟨b1, 0, none⟩, [⟨[], 1⟩]), (some ⟨b2, 0, none⟩, [⟨[65], 1⟩]), (some ⟨b3, 0, none⟩, [⟨[97], -(1 + x % 1024)⟩]), (some ⟨b4, 0, none⟩, [⟨[97], 16383 + (1 + x % 1024)⟩])] : List (Option Addr × List Kn)).getD (which % 18446744073709551616 % 4).toNat (none, [])).1 (([(some ⟨b1, 0, none⟩, [⟨[], 1⟩]), (some ⟨b2, 0, none⟩, [⟨[65], 1⟩]), (some ⟨b3, 0, none⟩, [⟨[97], -(1 + x % 1024)⟩]), (some ⟨b4, 0, none⟩, [⟨[97], 16383 + (1 + x % 1024)⟩])] : List (Option Addr × List Kn)).getD (which % 18446744073709551616 % 4).toNat (none, [])).2.length w (kss_all (P := fun p => In w p.1 (p.2.flatMap encK)) (RowL.h _ hu) (RowL.h _ hu) (RowL.h _ hu) (RowL.h _ hu) (by omega) (by omega)) (kss_all (P := fun p => p.2.length ≤ 1000000000) (by simp) (by simp) (by simp) (by simp) (by omega) (by omega)) (kss_all (P := fun p => ∀ k ∈ p.2, k.name.length ≤ 140737488355328) (by simp) (by simp) (by simp) (by simp) (by omega) (by omega)) (by decide)) ?_; rintro _ _ ⟨o14, c14, sp14, rfl, ok14, rfl⟩; have nk14 := ok14.nk
  refine W.p O.mv ?_
  first | refine W.p O.extL ?_ | refine W.p O.ext ?_
  first | refine W.p O.extL ?_ | refine W.p O.ext ?_
  first | refine W.p O.extL ?_ | refine W.p O.ext ?_
  refine W.p O.as ?_
  refine W.p O.as ?_
  refine W.p O.as ?_
  refine WL.nil (Q.tn ?_)
  refine CW.seq ?_
  refine CW.region ?_
  refine W.bs encS txW rfl (PV.cons (vt rfl) (PV.cons (vt rfl) (PV.cons (vt rfl) (PV.cons (vt rfl) (PV.cons (vt rfl) (PV.cons (vt rfl) (PV.cons (vt rfl) (PV.cons (vt rfl) (PV.cons (vt rfl) (PV.cons (vt rfl) (PV.cons (vt rfl) (PV.cons (vt rfl) (PV.cons (vt rfl) (PV.nil)))))))))))))) rfl rfl rfl (by decide) rfl fun b6 => ?_
  refine W.p O.as ?_
  refine WL.nil (Q.tn ?_)
  refine CW.seq ?_
  refine CW.region ?_
  refine W.bs encI cdW rfl (PV.cons (vt rfl) (PV.cons (vt rfl) (PV.cons (vt rfl) (PV.cons (vt rfl) (PV.cons (vt rfl) (PV.cons (vt rfl) (PV.cons (vt rfl) (PV.cons (vt rfl) (PV.cons (vt rfl) (PV.cons (vt rfl) (PV.cons (vt rfl) (PV.cons (vt rfl) (PV.cons (vt rfl) (PV.nil)))))))))))))) rfl rfl rfl (by decide) rfl fun b7 => ?_
  refine W.p O.as ?_
  refine WL.nil (Q.tn ?_)
  refine CW.seq ?_
  refine CW.region ?_
  refine W.p O.mv ?_
  refine W.p O.cvUn ?_
  refine W.p O.rem ?_
  first | refine W.p O.cvN ?_ | refine W.p O.cv ?_
  refine W.p O.as ?_
  refine WL.nil (Q.tn ?_)
  refine CW.seq ?_
  refine CW.region ?_
  refine W.p O.mv ?_
  refine W.p O.mv ?_
  refine W.p O.ixA ?_
  refine W.p O.ldE ?_
  refine W.q (O.call ⟨rfl, rfl⟩ (AV.cons (vt rfl) (AV.cons (vt rfl) (AV.nil))) (fun _ w hw => wr_Get _ _ w (by first | decide | omega))) ?_
  refine W.p O.mv ?_
  first | refine W.p O.extL ?_ | refine W.p O.ext ?_
  first | refine W.p O.extL ?_ | refine W.p O.ext ?_
  first | refine W.p O.extL ?_ | refine W.p O.ext ?_
  refine W.p O.as ?_
  refine W.p O.as ?_
  refine W.p O.as ?_
  refine WL.nil (Q.tn ?_)
  refine CW.seq ?_
  refine CW.region ?_
  refine W.p O.mv ?_
  first | refine W.p O.ngN ?_ | refine W.p O.ng ?_
  refine W.q (O.call ⟨rfl, rfl⟩ (AV.cons (vt rfl) (AV.cons (vt rfl) (AV.nil))) (fun _ w hw => wr_Get _ _ w (by first | decide | omega))) ?_
  refine W.p O.mv ?_
  first | refine W.p O.extL ?_ | refine W.p O.ext ?_
  first | refine W.p O.extL ?_ | refine W.p O.ext ?_
  first | refine W.p O.extL ?_ | refine W.p O.ext ?_
  refine W.p O.as ?_
  refine W.p O.as ?_
  refine W.p O.as ?_
  refine WL.nil (Q.tn ?_)
  refine CW.seq ?_
  refine CW.region ?_
  refine W.p O.mv ?_
  first | refine W.p O.addN ?_ | refine W.p O.add ?_
  refine W.q (O.call ⟨rfl, rfl⟩ (AV.cons (vt rfl) (AV.cons (vt rfl) (AV.nil))) (fun _ w hw => wr_Get _ _ w (by first | decide | omega))) ?_
  refine W.p O.mv ?_
  first | refine W.p O.extL ?_ | refine W.p O.ext ?_
  first | refine W.p O.extL ?_ | refine W.p O.ext ?_
  first | refine W.p O.extL ?_ | refine W.p O.ext ?_
  refine W.p O.as ?_
  refine W.p O.as ?_
  refine W.p O.as ?_
  refine WL.nil (Q.tn ?_)
  refine CW.seq ?_
  refine CW.draw 46 rfl (by kernel_rfl) ?_
  refine WQ.p O.mv ?_
  refine WQ.q (O.call ⟨rfl, rfl⟩ (AV.cons (vt rfl) (AV.nil)) (fun _ w hw => law0_Num _ w)) ?_
  refine WQ.p O.eqI ?_
  refine WQ.p O.mv ?_
  refine WQ.p O.mv ?_
  refine WQ.q (O.call ⟨rfl, rfl⟩ (AV.cons (vs rfl) (AV.nil)) (fun _ w hw => law0_Num _ w)) ?_
  refine WQ.p O.eqI ?_
  refine WQ.p O.pkB ?_
  refine WQ.p O.mv ?_
  refine WQ.p O.mv ?_
  refine WQ.q (O.call ⟨rfl, rfl⟩ (AV.cons (vs rfl) (AV.nil)) (fun _ w hw => law0_Num _ w)) ?_
  refine WQ.p O.eqI ?_
  refine WQ.p O.pkB ?_
  refine WQ.p O.mv ?_
  refine WQ.p O.mv ?_
  refine WQ.q (O.call ⟨rfl, rfl⟩ (AV.cons (vs rfl) (AV.nil)) (fun _ w hw => law0_Num _ w)) ?_
  refine WQ.p O.eqI ?_
  refine WQ.p O.pkB ?_
  refine WQ.p O.mv ?_
  refine WQ.p O.mv ?_
  refine WQ.p O.eqS ?_
  refine WQ.p O.pkB ?_
  refine WQ.p O.mv ?_
  refine WQ.p O.mv ?_
  refine WQ.p O.eqI ?_
  refine WQ.p O.pkB ?_
  refine WQ.p O.mv ?_
  refine WQ.p O.mv ?_
  refine WQ.q (O.call ⟨rfl, rfl⟩ (AV.cons (vs rfl) (AV.nil)) (fun _ w hw => law0_Num _ w)) ?_
  refine WQ.p O.mv ?_
  refine WQ.p O.mv ?_
  refine WQ.p O.ixA ?_
  refine WQ.p O.ldE ?_
  refine WQ.p O.eqI ?_
  refine WQ.p O.pkB ?_
  refine WQ.p O.mv ?_
  refine WQ.p O.mv ?_
  refine WQ.q (O.call ⟨rfl, rfl⟩ (AV.cons (vs rfl) (AV.nil)) (fun _ w hw => law0_Num _ w)) ?_
  refine WQ.p O.eqI ?_
  refine WQ.p O.pkB ?_
  refine WQ.p O.mv ?_
  refine WQ.p O.mv ?_
  refine WQ.q (O.call ⟨rfl, rfl⟩ (AV.cons (vs rfl) (AV.nil)) (fun _ w hw => law0_Num _ w)) ?_
  refine WQ.p O.eqI ?_
  refine WQ.p O.pkB ?_
  refine WQ.p O.as ?_
  refine WQ.nil ?_
  refine WL.nil (Q.tn ?_)
  refine CW.ret ?_
  refine ⟨_, [], (RVs.tmp rfl RVs.nil), List.nil_sublist _, ?_⟩
  refine ⟨?_, rfl⟩
  rw [k1, k2, k3, show nmPut 0 (([(some ⟨b1, 0, none⟩, [⟨[], 1⟩]), (some ⟨b2, 0, none⟩, [⟨[65], 1⟩]), (some ⟨b3, 0, none⟩, [⟨[97], -(1 + x % 1024)⟩]), (some ⟨b4, 0, none⟩, [⟨[97], 16383 + (1 + x % 1024)⟩])] : List (Option Addr × List Kn)).getD (which % 18446744073709551616 % 4).toNat (none, [])).2 [97] = ([], [], 300) from k4 b1 b2 b3 b4, ht.2, g2, g3]
  simp [grE, grN, grT, oneOr]
end Go.Proofs.Ytkjcmdgideddnaa
