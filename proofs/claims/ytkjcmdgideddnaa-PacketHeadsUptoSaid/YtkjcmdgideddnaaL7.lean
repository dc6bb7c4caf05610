/- The statements over package packet: the sign of life. No condition. -/
import Derived.Test.YtkjcmdgideddnaaPkA
set_option linter.unusedVariables false
set_option linter.unusedSimpArgs false
namespace Go.Proofs.Ytkjcmdgideddnaa
open Go Go.RowKit
set_option maxRecDepth 100000 in
theorem law7_awake (w : World) : Fn Try.prog 64 [] w [] fun v L' => v = .bool true ∧ L' = [] := by
  have hA1 : (pkPut (⟨1, 1, 0, 258, 0, 0, 0, 0, 0, 0, [97, 98, 99, 100, 101, 102], [⟨53, [1]⟩]⟩ : Pkt)).1.length = 244 := by decide +kernel
  refine Fn.enter Try.func64 rfl rfl rfl rfl (Holds.nil w) ?_
  refine CW.seq ?_
  refine CW.region ?_
  refine W.p O.as ?_
  refine WL.nil (Q.tn ?_)
  refine CW.seq ?_
  refine CW.region ?_
  refine W.p (O.bd (hv := PV.cons (vt rfl) (PV.cons (vt rfl) (PV.nil)))) ?_
  refine W.bs encO [⟨_, _⟩] rfl (PV.cons (vt rfl) (PV.nil)) rfl rfl rfl (by decide) rfl fun b1 => ?_
  refine W.p (O.bd (hv := PV.cons (vt rfl) (PV.cons (vt rfl) (PV.cons (vt rfl) (PV.cons (vt rfl) (PV.cons (vt rfl) (PV.nil))))))) ?_
  refine W.al rfl rfl fun b2 => ?_
  refine W.st (vt rfl) (vt rfl) rfl ?_
  refine WL.nil (Q.tn ?_)
  refine CW.seq ?_
  refine CW.region ?_
  refine W.p O.lds ?_
  refine W.q (O.call ⟨rfl, rfl⟩ (AV.cons (vt rfl) (AV.nil)) (fun _ w hw => pk_Put (⟨1, 1, 0, 258, 0, 0, 0, 0, 0, 0, [97, 98, 99, 100, 101, 102], [⟨53, [1]⟩]⟩ : Pkt) _ _ w (RowL.h _ hw) (by decide))) ?_
  refine W.p O.mv ?_
  first | refine W.p O.extL ?_ | refine W.p O.ext ?_
  first | refine W.p O.extL ?_ | refine W.p O.ext ?_
  refine W.p O.as ?_
  refine W.p O.as ?_
  refine WL.nil (Q.tn ?_)
  refine CW.seq ?_
  refine CW.seq ?_
  refine CW.region ?_
  refine W.p O.mv ?_
  refine W.p O.len ?_
  refine W.p O.neI ?_
  first | (refine WL.kn (v := true) (by rfl) ?_ ?_; focus (decide)) | (refine WL.kn (v := false) (by rfl) ?_ ?_; focus (decide))
  refine WL.nil (Q.tn ?_)
  refine CW.cond (vt rfl) (fun hc1 => ?_) (fun hc1 => ?_)
  · exact absurd hc1 (by decide +kernel)
  try simp only [Bool.cond_true_left, Bool.cond_false_right, Bool.or_eq_true, Bool.or_eq_false_iff, Bool.and_eq_true, Bool.and_eq_false_iff, decide_eq_true_eq, decide_eq_false_iff_not, Bool.not_eq_true', Bool.not_eq_false'] at hc1
  refine CW.skip (Q.tn ?_)
  refine CW.seq ?_
  refine CW.region ?_
  refine W.p O.mv ?_
  refine W.callN (first := []) (cap := []) rfl (vt rfl) (AV.cons (vt rfl) (AV.nil)) (fun w hu => pk_Get _ w (by decide +kernel)) ?_; rintro _ _ ⟨o11, c11, sp11, rfl, ok11, rfl⟩; have nk11 := ok11.nk
  refine W.p O.mv ?_
  first | refine W.p O.extL ?_ | refine W.p O.ext ?_
  first | refine W.p O.extL ?_ | refine W.p O.ext ?_
  refine W.al rfl rfl fun b3 => ?_
  refine W.st (vt rfl) (vt rfl) rfl ?_
  refine W.p O.as ?_
  refine WL.nil (Q.tn ?_)
  refine CW.seq ?_
  refine CW.draw 12 rfl (by kernel_rfl) ?_
  refine WQ.p O.mv ?_
  refine WQ.p O.slcH ?_
  refine WQ.p O.addS ?_
  refine WQ.p O.mv ?_
  refine WQ.p O.slc ?_
  refine WQ.p O.addS ?_
  refine WQ.p O.addS ?_
  refine WQ.p O.mv ?_
  refine WQ.p O.slc ?_
  refine WQ.p O.addS ?_
  refine WQ.p O.addS ?_
  refine WQ.p O.as ?_
  refine WQ.nil ?_
  refine WL.nil (Q.tn ?_)
  refine CW.seq ?_
  refine CW.region ?_
  refine W.p O.mv ?_
  refine W.callN (first := []) (cap := []) rfl (vt rfl) (AV.cons (vt rfl) (AV.nil)) (fun w hu => pk_Get _ w (by decide +kernel)) ?_; rintro _ _ ⟨o12, c12, sp12, rfl, ok12, rfl⟩; have nk12 := ok12.nk
  refine W.p O.mv ?_
  first | refine W.p O.extL ?_ | refine W.p O.ext ?_
  first | refine W.p O.extL ?_ | refine W.p O.ext ?_
  refine W.al rfl rfl fun b4 => ?_
  refine W.st (vt rfl) (vt rfl) rfl ?_
  refine W.p O.as ?_
  refine WL.nil (Q.tn ?_)
  refine CW.seq ?_
  refine CW.region ?_
  refine W.p O.mv ?_
  refine W.p O.slcH ?_
  refine W.callN (first := []) (cap := []) rfl (vt rfl) (AV.cons (vt rfl) (AV.nil)) (fun w hu => pk_Get _ w (by decide +kernel)) ?_; rintro _ _ ⟨o13, c13, sp13, rfl, ok13, rfl⟩; have nk13 := ok13.nk
  refine W.p O.mv ?_
  first | refine W.p O.extL ?_ | refine W.p O.ext ?_
  first | refine W.p O.extL ?_ | refine W.p O.ext ?_
  refine W.al rfl rfl fun b5 => ?_
  refine W.st (vt rfl) (vt rfl) rfl ?_
  refine W.p O.as ?_
  refine WL.nil (Q.tn ?_)
  refine CW.seq ?_
  refine CW.region ?_
  refine W.p (O.bd (hv := PV.cons (vt rfl) (PV.nil))) ?_
  refine W.q (O.call ⟨rfl, rfl⟩ (AV.cons (vt rfl) (AV.nil)) (fun _ w hw => pk_Put (⟨0, 0, 0, 0, 0, 0, 0, 0, 0, 0, [49, 50, 51, 52, 53, 54, 55, 56, 57, 48, 49, 50, 51, 52, 53, 54, 55], []⟩ : Pkt) none 0 w In.nil (by decide))) ?_
  refine W.p O.mv ?_
  first | refine W.p O.extL ?_ | refine W.p O.ext ?_
  first | refine W.p O.extL ?_ | refine W.p O.ext ?_
  refine W.p O.as ?_
  refine W.p O.as ?_
  refine WL.nil (Q.tn ?_)
  refine CW.seq ?_
  refine CW.region ?_
  refine W.p O.mv ?_
  refine W.p O.slcH ?_
  refine W.p O.eqS ?_
  first | (refine WL.kn (v := true) (by rfl) ?_ ?_; focus (decide)) | (refine WL.kn (v := false) (by rfl) ?_ ?_; focus (decide))
  refine W.p O.mv ?_
  refine W.p O.mv ?_
  refine W.p O.slc ?_
  refine W.p O.eqS ?_
  first | (refine WL.kn (v := true) (by rfl) ?_ ?_; focus (decide)) | (refine WL.kn (v := false) (by rfl) ?_ ?_; focus (decide))
  refine W.p O.pkB ?_
  refine W.p O.mv ?_
  refine W.p O.mv ?_
  refine W.p O.slc ?_
  refine W.p O.eqS ?_
  first | (refine WL.kn (v := true) (by rfl) ?_ ?_; focus (decide)) | (refine WL.kn (v := false) (by rfl) ?_ ?_; focus (decide))
  refine W.p O.pkB ?_
  refine W.p O.mv ?_
  refine W.p O.mv ?_
  refine W.q (O.call ⟨rfl, rfl⟩ (AV.cons (vs rfl) (AV.nil)) (fun _ w hw => law0_Num _ w)) ?_
  refine W.p O.eqI ?_
  first | (refine WL.kn (v := true) (by rfl) ?_ ?_; focus (decide)) | (refine WL.kn (v := false) (by rfl) ?_ ?_; focus (decide))
  refine W.p O.pkB ?_
  refine W.p O.mv ?_
  refine W.p O.lds ?_
  refine W.p O.lds ?_
  refine W.q (O.call ⟨rfl, rfl⟩ (AV.cons (vs rfl) (AV.cons (vs rfl) (AV.nil))) (fun _ w hw => samePacket (pkGet (pkPut (⟨1, 1, 0, 258, 0, 0, 0, 0, 0, 0, [97, 98, 99, 100, 101, 102], [⟨53, [1]⟩]⟩ : Pkt)).1).1 (⟨1, 1, 0, 258, 0, 0, 0, 0, 0, 0, [97, 98, 99, 100, 101, 102], [⟨53, [1]⟩]⟩ : Pkt) _ _ _ _ w (RowL.h _ hw) (RowL.h _ hw) (by decide +kernel))) ?_
  first | (refine WL.kn (v := true) (by rfl) ?_ ?_; focus (decide)) | (refine WL.kn (v := false) (by rfl) ?_ ?_; focus (decide))
  refine W.p O.pkB ?_
  refine W.p O.mv ?_
  refine W.p O.mv ?_
  refine W.q (O.call ⟨rfl, rfl⟩ (AV.cons (vs rfl) (AV.nil)) (fun _ w hw => law0_Num _ w)) ?_
  refine W.p O.eqI ?_
  first | (refine WL.kn (v := true) (by rfl) ?_ ?_; focus (decide)) | (refine WL.kn (v := false) (by rfl) ?_ ?_; focus (decide))
  refine W.p O.pkB ?_
  refine W.p O.mv ?_
  first | refine W.p O.fb ?_ | refine W.p O.fa ?_
  refine W.p O.ld ?_
  refine W.p (O.bd (hv := PV.cons (vt rfl) (PV.cons (vt rfl) (PV.nil)))) ?_
  refine W.ug rfl ?_
  refine W.bs encO [⟨_, _⟩] rfl (PV.cons (vs rfl) (PV.nil)) rfl rfl rfl (by decide) rfl fun b6 => ?_
  refine W.q (O.call ⟨rfl, rfl⟩ (AV.cons (vs rfl) (AV.cons (vt rfl) (AV.nil))) (fun _ w hw => sameOptions _ [⟨12, [122, 121]⟩] _ _ _ _ w (RowL.h _ hw) (RowL.h _ hw) (by decide +kernel))) ?_
  first | (refine WL.kn (v := true) (by rfl) ?_ ?_; focus (decide)) | (refine WL.kn (v := false) (by rfl) ?_ ?_; focus (decide))
  refine W.p O.pkB ?_
  refine W.p O.mv ?_
  refine W.p O.mv ?_
  refine W.q (O.call ⟨rfl, rfl⟩ (AV.cons (vs rfl) (AV.nil)) (fun _ w hw => law0_Num _ w)) ?_
  refine W.p O.eqI ?_
  first | (refine WL.kn (v := true) (by rfl) ?_ ?_; focus (decide)) | (refine WL.kn (v := false) (by rfl) ?_ ?_; focus (decide))
  refine W.p O.pkB ?_
  refine W.p O.mv ?_
  refine W.p O.mv ?_
  refine W.q (O.call ⟨rfl, rfl⟩ (AV.cons (vs rfl) (AV.nil)) (fun _ w hw => law0_Num _ w)) ?_
  refine W.p O.eqI ?_
  first | (refine WL.kn (v := true) (by rfl) ?_ ?_; focus (decide)) | (refine WL.kn (v := false) (by rfl) ?_ ?_; focus (decide))
  refine W.p O.pkB ?_
  refine W.p O.mv ?_
  refine W.p O.mv ?_
  refine W.q (O.call ⟨rfl, rfl⟩ (AV.cons (vs rfl) (AV.nil)) (fun _ w hw => law0_Num _ w)) ?_
  refine W.p O.eqI ?_
  first | (refine WL.kn (v := true) (by rfl) ?_ ?_; focus (decide)) | (refine WL.kn (v := false) (by rfl) ?_ ?_; focus (decide))
  refine W.p O.pkB ?_
  refine W.p O.mv ?_
  refine W.p O.lds ?_
  refine W.q (O.call ⟨rfl, rfl⟩ (AV.cons (vs rfl) (AV.nil)) (fun _ w hw => pk_May (⟨1, 1, 0, 258, 0, 0, 0, 0, 0, 0, [97, 98, 99, 100, 101, 102], [⟨53, [1]⟩]⟩ : Pkt) _ _ w (RowL.h _ hw) (by decide))) ?_
  first | (refine WL.kn (v := true) (by rfl) ?_ ?_; focus (decide)) | (refine WL.kn (v := false) (by rfl) ?_ ?_; focus (decide))
  refine W.p O.pkB ?_
  refine W.p O.as ?_
  refine WL.nil (Q.tn ?_)
  refine CW.ret ?_
  refine ⟨_, [], (RVs.tmp rfl RVs.nil), List.nil_sublist _, ?_⟩
  exact ⟨rfl, rfl⟩
end Go.Proofs.Ytkjcmdgideddnaa
