/- The statements over package wire: their walks. Conditions: what comes in is not longer than some millions. -/
import Derived.Test.YtkjcmdgideddnaaRName2
set_option linter.unusedVariables false
set_option linter.unusedSimpArgs false
namespace Go.Proofs.Ytkjcmdgideddnaa
open Go Go.RowKit
set_option maxRecDepth 100000 in
theorem law3_awake (w : World) : Fn Try.prog 55 [] w [] fun v L' => v = .bool true ∧ L' = [] := by
  refine Fn.enter Try.func55 rfl rfl rfl rfl (Holds.nil w) ?_
  refine CW.seq ?_
  refine CW.region ?_
  refine W.p O.as ?_
  refine WL.nil (Q.tn ?_)
  refine CW.seq ?_
  refine CW.region ?_
  refine W.callN (first := []) (cap := []) rfl (vt rfl) (AV.cons (vt rfl) (AV.cons (vt rfl) (AV.cons (vt rfl) (AV.nil)))) (fun w hu => wr_Put 12 [] [97, 46, 108, 97, 110] none 0 w In.nil (by decide) (by simp) (by decide)) ?_; rintro _ _ ⟨o11, c11, sp11, rfl, ok11, rfl⟩; have nk11 := ok11.nk
  refine W.p O.mv ?_
  first | refine W.p O.extL ?_ | refine W.p O.ext ?_
  first | refine W.p O.extL ?_ | refine W.p O.ext ?_
  first | refine W.p O.extL ?_ | refine W.p O.ext ?_
  refine W.p O.as ?_
  refine W.p O.as ?_
  refine W.p O.as ?_
  refine WL.nil (Q.tn ?_)
  refine CW.seq ?_
  refine CW.region ?_
  refine W.p O.mv ?_
  refine W.callN (first := []) (cap := []) rfl (vt rfl) (AV.cons (vt rfl) (AV.cons (vt rfl) (AV.cons (vt rfl) (AV.nil)))) (fun w hu => wr_Put 30 (nmPut 12 [] [97, 46, 108, 97, 110]).2.1 [98, 46, 108, 97, 110] _ _ w (RowL.h _ hu) (by decide) (by decide) (by decide)) ?_; rintro _ _ ⟨o12, c12, sp12, rfl, ok12, rfl⟩; have nk12 := ok12.nk
  refine W.p O.mv ?_
  first | refine W.p O.extL ?_ | refine W.p O.ext ?_
  first | refine W.p O.extL ?_ | refine W.p O.ext ?_
  first | refine W.p O.extL ?_ | refine W.p O.ext ?_
  refine W.p O.as ?_
  refine W.p O.as ?_
  refine W.p O.as ?_
  refine WL.nil (Q.tn ?_)
  refine CW.seq ?_
  refine CW.region ?_
  refine W.q (O.call ⟨rfl, rfl⟩ (AV.cons (vt rfl) (AV.cons (vt rfl) (AV.nil))) (fun _ w hw => wr_Get _ _ w (by decide))) ?_
  refine W.p O.mv ?_
  first | refine W.p O.extL ?_ | refine W.p O.ext ?_
  first | refine W.p O.extL ?_ | refine W.p O.ext ?_
  first | refine W.p O.extL ?_ | refine W.p O.ext ?_
  refine W.p O.as ?_
  refine W.p O.as ?_
  refine W.p O.as ?_
  refine WL.nil (Q.tn ?_)
  refine CW.seq ?_
  refine CW.region ?_
  refine W.q (O.call ⟨rfl, rfl⟩ (AV.cons (vt rfl) (AV.cons (vt rfl) (AV.nil))) (fun _ w hw => wr_Get _ _ w (by decide))) ?_
  refine W.p O.mv ?_
  first | refine W.p O.extL ?_ | refine W.p O.ext ?_
  first | refine W.p O.extL ?_ | refine W.p O.ext ?_
  first | refine W.p O.extL ?_ | refine W.p O.ext ?_
  refine W.p O.as ?_
  refine W.p O.as ?_
  refine W.p O.as ?_
  refine WL.nil (Q.tn ?_)
  refine CW.seq ?_
  refine CW.region ?_
  refine W.q (O.call ⟨rfl, rfl⟩ (AV.cons (vt rfl) (AV.cons (vt rfl) (AV.nil))) (fun _ w hw => wr_Get _ _ w (by decide))) ?_
  refine W.p O.mv ?_
  first | refine W.p O.extL ?_ | refine W.p O.ext ?_
  first | refine W.p O.extL ?_ | refine W.p O.ext ?_
  first | refine W.p O.extL ?_ | refine W.p O.ext ?_
  refine W.p O.as ?_
  refine W.p O.as ?_
  refine W.p O.as ?_
  refine WL.nil (Q.tn ?_)
  refine CW.seq ?_
  refine CW.region ?_
  refine W.callN (first := []) (cap := []) rfl (vt rfl) (AV.cons (vt rfl) (AV.cons (vt rfl) (AV.cons (vt rfl) (AV.nil)))) (fun w hu => wr_Put 0 [] [65] none 0 w In.nil (by decide) (by simp) (by decide)) ?_; rintro _ _ ⟨o13, c13, sp13, rfl, ok13, rfl⟩; have nk13 := ok13.nk
  refine W.p O.mv ?_
  first | refine W.p O.extL ?_ | refine W.p O.ext ?_
  first | refine W.p O.extL ?_ | refine W.p O.ext ?_
  first | refine W.p O.extL ?_ | refine W.p O.ext ?_
  refine W.p O.as ?_
  refine W.p O.as ?_
  refine W.p O.as ?_
  refine WL.nil (Q.tn ?_)
  refine CW.seq ?_
  refine CW.region ?_
  refine W.p O.mv ?_
  refine W.p O.eqS ?_
  first | (refine WL.kn (v := true) (by rfl) ?_ ?_; focus (decide)) | (refine WL.kn (v := false) (by rfl) ?_ ?_; focus (decide))
  refine W.p O.mv ?_
  refine W.p O.mv ?_
  refine W.p (O.bd (hv := PV.cons (vt rfl) (PV.cons (vt rfl) (PV.nil)))) ?_
  refine W.p (O.bd (hv := PV.cons (vt rfl) (PV.cons (vt rfl) (PV.nil)))) ?_
  refine W.ug rfl ?_
  refine W.bs encK [⟨_, _⟩, ⟨_, _⟩] rfl (PV.cons (vs rfl) (PV.cons (vs rfl) (PV.nil))) rfl rfl rfl (by decide) rfl fun b1 => ?_
  refine W.q (O.call ⟨rfl, rfl⟩ (AV.cons (vs rfl) (AV.cons (vt rfl) (AV.nil))) (fun _ w hw => sameKnowns _ [⟨[97, 46, 108, 97, 110], 12⟩, ⟨[108, 97, 110], 14⟩] _ _ _ _ w (RowL.h _ hw) (RowL.h _ hw) (by decide))) ?_
  first | (refine WL.kn (v := true) (by rfl) ?_ ?_; focus (decide)) | (refine WL.kn (v := false) (by rfl) ?_ ?_; focus (decide))
  refine W.p O.pkB ?_
  refine W.p O.mv ?_
  refine W.p O.mv ?_
  refine W.q (O.call ⟨rfl, rfl⟩ (AV.cons (vs rfl) (AV.nil)) (fun _ w hw => law0_Num _ w)) ?_
  refine W.p O.eqI ?_
  first | (refine WL.kn (v := true) (by rfl) ?_ ?_; focus (decide)) | (refine WL.kn (v := false) (by rfl) ?_ ?_; focus (decide))
  refine W.p O.pkB ?_
  refine W.p O.mv ?_
  refine W.p O.mv ?_
  refine W.p O.eqS ?_
  first | (refine WL.kn (v := true) (by rfl) ?_ ?_; focus (decide)) | (refine WL.kn (v := false) (by rfl) ?_ ?_; focus (decide))
  refine W.p O.pkB ?_
  refine W.p O.mv ?_
  refine W.p O.mv ?_
  refine W.p (O.bd (hv := PV.cons (vt rfl) (PV.cons (vt rfl) (PV.nil)))) ?_
  refine W.p (O.bd (hv := PV.cons (vt rfl) (PV.cons (vt rfl) (PV.nil)))) ?_
  refine W.p (O.bd (hv := PV.cons (vt rfl) (PV.cons (vt rfl) (PV.nil)))) ?_
  refine W.ug rfl ?_
  refine W.bs encK [⟨_, _⟩, ⟨_, _⟩, ⟨_, _⟩] rfl (PV.cons (vs rfl) (PV.cons (vs rfl) (PV.cons (vs rfl) (PV.nil)))) rfl rfl rfl (by decide) rfl fun b2 => ?_
  refine W.q (O.call ⟨rfl, rfl⟩ (AV.cons (vs rfl) (AV.cons (vt rfl) (AV.nil))) (fun _ w hw => sameKnowns _ [⟨[97, 46, 108, 97, 110], 12⟩, ⟨[108, 97, 110], 14⟩, ⟨[98, 46, 108, 97, 110], 30⟩] _ _ _ _ w (RowL.h _ hw) (RowL.h _ hw) (by decide))) ?_
  first | (refine WL.kn (v := true) (by rfl) ?_ ?_; focus (decide)) | (refine WL.kn (v := false) (by rfl) ?_ ?_; focus (decide))
  refine W.p O.pkB ?_
  refine W.p O.mv ?_
  refine W.p O.mv ?_
  refine W.q (O.call ⟨rfl, rfl⟩ (AV.cons (vs rfl) (AV.nil)) (fun _ w hw => law0_Num _ w)) ?_
  refine W.p O.eqI ?_
  first | (refine WL.kn (v := true) (by rfl) ?_ ?_; focus (decide)) | (refine WL.kn (v := false) (by rfl) ?_ ?_; focus (decide))
  refine W.p O.pkB ?_
  refine W.p O.mv ?_
  refine W.p O.mv ?_
  refine W.p O.eqS ?_
  first | (refine WL.kn (v := true) (by rfl) ?_ ?_; focus (decide)) | (refine WL.kn (v := false) (by rfl) ?_ ?_; focus (decide))
  refine W.p O.pkB ?_
  refine W.p O.mv ?_
  refine W.p O.mv ?_
  refine W.p O.eqI ?_
  first | (refine WL.kn (v := true) (by rfl) ?_ ?_; focus (decide)) | (refine WL.kn (v := false) (by rfl) ?_ ?_; focus (decide))
  refine W.p O.pkB ?_
  refine W.p O.mv ?_
  refine W.p O.mv ?_
  refine W.q (O.call ⟨rfl, rfl⟩ (AV.cons (vs rfl) (AV.nil)) (fun _ w hw => law0_Num _ w)) ?_
  refine W.p O.eqI ?_
  first | (refine WL.kn (v := true) (by rfl) ?_ ?_; focus (decide)) | (refine WL.kn (v := false) (by rfl) ?_ ?_; focus (decide))
  refine W.p O.pkB ?_
  refine W.p O.mv ?_
  refine W.p O.mv ?_
  refine W.q (O.call ⟨rfl, rfl⟩ (AV.cons (vs rfl) (AV.nil)) (fun _ w hw => law0_Num _ w)) ?_
  refine W.p O.eqI ?_
  first | (refine WL.kn (v := true) (by rfl) ?_ ?_; focus (decide)) | (refine WL.kn (v := false) (by rfl) ?_ ?_; focus (decide))
  refine W.p O.pkB ?_
  refine W.p O.mv ?_
  refine W.p O.mv ?_
  refine W.q (O.call ⟨rfl, rfl⟩ (AV.cons (vs rfl) (AV.nil)) (fun _ w hw => law0_Num _ w)) ?_
  refine W.p O.eqI ?_
  first | (refine WL.kn (v := true) (by rfl) ?_ ?_; focus (decide)) | (refine WL.kn (v := false) (by rfl) ?_ ?_; focus (decide))
  refine W.p O.pkB ?_
  refine W.p O.mv ?_
  refine W.p O.mv ?_
  refine W.q (O.call ⟨rfl, rfl⟩ (AV.cons (vs rfl) (AV.nil)) (fun _ w hw => law0_Num _ w)) ?_
  refine W.p O.eqI ?_
  first | (refine WL.kn (v := true) (by rfl) ?_ ?_; focus (decide)) | (refine WL.kn (v := false) (by rfl) ?_ ?_; focus (decide))
  refine W.p O.pkB ?_
  refine W.p O.as ?_
  refine WL.nil (Q.tn ?_)
  refine CW.ret ?_
  refine ⟨_, [], (RVs.tmp rfl RVs.nil), List.nil_sublist _, ?_⟩
  exact ⟨rfl, rfl⟩
set_option maxRecDepth 100000 in
theorem law3_Wires (at_ : Int) (ks : List Kn) (a : Option Addr) (c : Nat) (nm s : List UInt8) (w : World) (h : In w a (ks.flatMap encK)) (h1 : ks.length ≤ 1048576) (hk : ∀ k ∈ ks, k.name.length ≤ 1048576) (h2 : nm.length ≤ 1048576) (h3 : s.length ≤ 1048576) : Fn Try.prog 8 [.int .i64 at_, .slice a ks.length c, .string (S nm), .string (S s)] w [] fun v L' => v = .bool true ∧ L' = [] := by
  have row := Row.ofE h
  have hm := nmPut_more at_ ks nm
  refine Fn.enter Try.func8 rfl rfl rfl rfl (Holds.nil w) ?_
  refine CW.seq ?_
  refine CW.region ?_
  refine W.p O.as ?_
  refine WL.nil (Q.tn ?_)
  refine CW.seq ?_
  refine CW.region ?_
  refine W.p O.mv ?_
  refine W.callN (first := []) (cap := []) rfl (vt rfl) (AV.cons (vt rfl) (AV.nil)) (fun w hu => lendKnowns _ _ _ w (RowL.h _ hu) (by omega)) ?_; rintro _ _ ⟨bl, cl, spl, rfl, okl, rfl⟩; have hcl := okl.2.2; simp only [List.length_append, List.length_cons, List.length_nil] at hcl
  refine W.p O.as ?_
  refine WL.nil (Q.tn ?_)
  refine CW.seq ?_
  refine CW.region ?_
  refine W.p O.mv ?_
  refine W.p O.mv ?_
  refine W.p O.mv ?_
  refine W.callN (first := []) (cap := []) rfl (vt rfl) (AV.cons (vt rfl) (AV.cons (vt rfl) (AV.cons (vt rfl) (AV.nil)))) (fun w hu => wr_Put at_ ks nm _ _ w (In.cutPre hu) (by omega) (fun k hk' => by have := hk k hk'; omega) (by omega)) ?_; rintro _ _ ⟨o11, c11, sp11, rfl, ok11, rfl⟩; have nk11 := ok11.nk
  refine W.p O.mv ?_
  first | refine W.p O.extL ?_ | refine W.p O.ext ?_
  first | refine W.p O.extL ?_ | refine W.p O.ext ?_
  first | refine W.p O.extL ?_ | refine W.p O.ext ?_
  refine W.p O.as ?_
  refine W.p O.as ?_
  refine W.p O.as ?_
  refine WL.nil (Q.tn ?_)
  refine CW.seq ?_
  refine CW.region ?_
  refine W.p O.mv ?_
  refine W.p O.mv ?_
  refine W.p O.mv ?_
  refine W.callN (first := []) (cap := []) rfl (vt rfl) (AV.cons (vt rfl) (AV.cons (vt rfl) (AV.cons (vt rfl) (AV.nil)))) (fun w hu => ref_PutName at_ ks nm _ _ w (RowL.h _ hu) (by omega) (fun k hk' => by have := hk k hk'; omega) (by omega)) ?_; rintro _ _ ⟨o12, c12, sp12, rfl, ok12, rfl⟩; have nk12 := ok12.nk
  refine W.p O.mv ?_
  first | refine W.p O.extL ?_ | refine W.p O.ext ?_
  first | refine W.p O.extL ?_ | refine W.p O.ext ?_
  first | refine W.p O.extL ?_ | refine W.p O.ext ?_
  refine W.p O.as ?_
  refine W.p O.as ?_
  refine W.p O.as ?_
  refine WL.nil (Q.tn ?_)
  refine CW.seq ?_
  refine CW.region ?_
  refine W.p O.mv ?_
  refine W.p O.mv ?_
  refine W.q (O.call ⟨rfl, rfl⟩ (AV.cons (vt rfl) (AV.cons (vt rfl) (AV.nil))) (fun _ w hw => wr_Get s at_ w (by omega))) ?_
  refine W.p O.mv ?_
  first | refine W.p O.extL ?_ | refine W.p O.ext ?_
  first | refine W.p O.extL ?_ | refine W.p O.ext ?_
  first | refine W.p O.extL ?_ | refine W.p O.ext ?_
  refine W.p O.as ?_
  refine W.p O.as ?_
  refine W.p O.as ?_
  refine WL.nil (Q.tn ?_)
  refine CW.seq ?_
  refine CW.region ?_
  refine W.p O.mv ?_
  refine W.p O.mv ?_
  refine W.q (O.call ⟨rfl, rfl⟩ (AV.cons (vt rfl) (AV.cons (vt rfl) (AV.nil))) (fun _ w hw => ref_GetName s at_ w (by omega))) ?_
  refine W.p O.mv ?_
  first | refine W.p O.extL ?_ | refine W.p O.ext ?_
  first | refine W.p O.extL ?_ | refine W.p O.ext ?_
  first | refine W.p O.extL ?_ | refine W.p O.ext ?_
  refine W.p O.as ?_
  refine W.p O.as ?_
  refine W.p O.as ?_
  refine WL.nil (Q.tn ?_)
  refine CW.seq ?_
  refine CW.seq ?_
  refine CW.region ?_
  refine W.p O.mv ?_
  refine W.p O.mv ?_
  refine W.p O.neS ?_
  first | (refine WL.kn (v := true) (by rfl) ?_ ?_; focus (simp; done)) | (refine WL.kn (v := false) (by rfl) ?_ ?_; focus (simp; done))
  refine W.p O.mv ?_
  refine W.p O.mv ?_
  refine W.p O.mv ?_
  refine W.q (O.call ⟨rfl, rfl⟩ (AV.cons (vs rfl) (AV.cons (vs rfl) (AV.nil))) (fun _ w hw => sameKnowns _ _ _ _ _ _ w (RowL.h _ hw) (RowL.h _ hw) (by omega))) ?_
  first | (refine WL.kn (v := true) (by rfl) ?_ ?_; focus (simp; done)) | (refine WL.kn (v := false) (by rfl) ?_ ?_; focus (simp; done))
  refine W.p O.nt ?_
  first | (refine WL.kn (v := true) (by rfl) ?_ ?_; focus (simp; done)) | (refine WL.kn (v := false) (by rfl) ?_ ?_; focus (simp; done))
  refine W.p O.pkB ?_
  refine W.p O.mv ?_
  refine W.p O.mv ?_
  refine W.q (O.call ⟨rfl, rfl⟩ (AV.cons (vs rfl) (AV.nil)) (fun _ w hw => law0_Num _ w)) ?_
  refine W.p O.mv ?_
  refine W.p O.neI ?_
  first | (refine WL.kn (v := true) (by rfl) ?_ ?_; focus (simp; done)) | (refine WL.kn (v := false) (by rfl) ?_ ?_; focus (simp; done))
  refine W.p O.pkB ?_
  refine W.p O.mv ?_
  refine W.p O.mv ?_
  refine W.p O.mv ?_
  refine W.p O.neS ?_
  first | (refine WL.kn (v := true) (by rfl) ?_ ?_; focus (simp; done)) | (refine WL.kn (v := false) (by rfl) ?_ ?_; focus (simp; done))
  refine W.p O.pkB ?_
  refine W.p O.mv ?_
  refine W.p O.mv ?_
  refine W.p O.mv ?_
  refine W.p O.neI ?_
  first | (refine WL.kn (v := true) (by rfl) ?_ ?_; focus (simp; done)) | (refine WL.kn (v := false) (by rfl) ?_ ?_; focus (simp; done))
  refine W.p O.pkB ?_
  refine W.p O.mv ?_
  refine W.p O.mv ?_
  refine W.q (O.call ⟨rfl, rfl⟩ (AV.cons (vs rfl) (AV.nil)) (fun _ w hw => law0_Num _ w)) ?_
  refine W.p O.mv ?_
  refine W.p O.neI ?_
  first | (refine WL.kn (v := true) (by rfl) ?_ ?_; focus (simp; done)) | (refine WL.kn (v := false) (by rfl) ?_ ?_; focus (simp; done))
  refine W.p O.pkB ?_
  refine WL.nil (Q.tn ?_)
  refine CW.cond (vt rfl) (fun hc1 => ?_) (fun hc1 => ?_)
  · exact absurd hc1 (by decide)
  try simp only [Bool.cond_true_left, Bool.cond_false_right, Bool.or_eq_true, Bool.or_eq_false_iff, Bool.and_eq_true, Bool.and_eq_false_iff, decide_eq_true_eq, decide_eq_false_iff_not, Bool.not_eq_true', Bool.not_eq_false'] at hc1
  refine CW.skip (Q.tn ?_)
  refine CW.seq ?_
  refine CW.region ?_
  refine W.p O.mv ?_
  refine W.callS (first := []) (cap := []) _ rfl (vt rfl) (AV.cons (vt rfl) (AV.nil)) (fun w hu hh => spoilKnowns _ o11 c11 sp11 w ok11 hh (by omega)) ?_; rintro _ _ ⟨ys, hys, rfl⟩
  refine WL.nil (Q.tn ?_)
  refine CW.seq ?_
  refine CW.region ?_
  refine W.p O.mv ?_
  refine W.p O.mv ?_
  refine W.q (O.call ⟨rfl, rfl⟩ (AV.cons (vt rfl) (AV.cons (vt rfl) (AV.nil))) (fun _ w hw => keptKnowns ks bl _ _ _ w (RowL.h _ hw) (RowL.h _ hw) (by omega) (by omega))) ?_
  first | (refine WL.kn (v := true) (by rfl) ?_ ?_; focus (simp; done)) | (refine WL.kn (v := false) (by rfl) ?_ ?_; focus (simp; done))
  refine W.p O.mv ?_
  refine W.q (O.call ⟨rfl, rfl⟩ (AV.nil) (fun _ w hw => law3_awake w)) ?_
  first | (refine WL.kn (v := true) (by rfl) ?_ ?_; focus (simp; done)) | (refine WL.kn (v := false) (by rfl) ?_ ?_; focus (simp; done))
  refine W.p O.pkB ?_
  refine W.p O.as ?_
  refine WL.nil (Q.tn ?_)
  refine CW.ret ?_
  refine ⟨_, [], (RVs.tmp rfl RVs.nil), List.nil_sublist _, ?_⟩
  exact ⟨rfl, rfl⟩
end Go.Proofs.Ytkjcmdgideddnaa
