/- The statements over package dns: the sign of life. No condition. -/
import Derived.Test.YtkjcmdgideddnaaLaw0D
import Derived.Test.YtkjcmdgideddnaaDnF
set_option linter.unusedVariables false
set_option linter.unusedSimpArgs false
namespace Go.Proofs.Ytkjcmdgideddnaa
open Go Go.RowKit
def liveA : Dn := ⟨258, false, 0, false, false, true, 0, [⟨[97, 46, 108, 97, 110], 1⟩], [], [], [], 0⟩
def liveB : Dn := ⟨258, false, 0, false, false, true, 0, [⟨[97, 46, 108, 97, 110], 1⟩], [], [], [], 600⟩
theorem szNil (B : Nat) : NmB [] B := fun r hr => by cases hr
theorem liveA_sz : DnSz liveA 140737488355328 := ⟨⟨by decide, by simp [liveA]⟩, ⟨by decide, szNil _⟩, ⟨by decide, szNil _⟩, ⟨by decide, szNil _⟩⟩
theorem liveB_sz : DnSz liveB 140737488355328 := ⟨⟨by decide, by simp [liveB]⟩, ⟨by decide, szNil _⟩, ⟨by decide, szNil _⟩, ⟨by decide, szNil _⟩⟩
theorem live_1 : (dnPut liveA 512).1.length = 23 := by decide +kernel
set_option maxRecDepth 100000 in
theorem law5_awake (w : World) : Fn Try.prog 87 [] w [] fun v L' => v = .bool true ∧ L' = [] := by
  have h1 := live_1
  refine Fn.enter Try.func87 rfl rfl rfl rfl (Holds.nil w) ?_
  refine CW.seq ?_
  refine CW.region ?_
  refine W.p O.as ?_
  refine WL.nil (Q.tn ?_)
  refine CW.seq ?_
  refine CW.region ?_
  refine W.p (O.bd (hv := PV.cons (vt rfl) (PV.cons (vt rfl) (PV.nil)))) ?_
  refine W.bs encQ [⟨[97, 46, 108, 97, 110], 1⟩] rfl (PV.cons (vt rfl) (PV.nil)) rfl rfl rfl (by decide) rfl fun b1 => ?_
  refine W.p (O.bd (hv := PV.cons (vt rfl) (PV.cons (vt rfl) (PV.cons (vt rfl) (PV.nil))))) ?_
  refine W.al rfl rfl fun b2 => ?_
  refine W.st (vt rfl) (vt rfl) rfl ?_
  refine WL.nil (Q.tn ?_)
  refine CW.seq ?_
  refine CW.region ?_
  refine W.p O.lds ?_
  refine W.q (O.call ⟨rfl, rfl⟩ (AV.cons (vt rfl) (AV.cons (vt rfl) (AV.nil))) (fun _ w hw => dn_Put liveA (oa (some b1), 1) nS nS nS _ w ⟨(show In w (oa (some b1)) (([⟨[97, 46, 108, 97, 110], 1⟩] : List Qn').flatMap encQ) from RowL.h _ hw), In.nil, In.nil, In.nil⟩ liveA_sz)) ?_
  refine W.p O.mv ?_
  first | refine W.p O.extL ?_ | refine W.p O.ext ?_
  first | refine W.p O.extL ?_ | refine W.p O.ext ?_
  refine W.p O.as ?_
  refine W.p O.as ?_
  refine WL.nil (Q.tn ?_)
  refine CW.seq ?_
  refine CW.region ?_
  refine W.p O.mv ?_
  refine W.callN (first := []) (cap := []) rfl (vt rfl) (AV.cons (vt rfl) (AV.nil)) (fun w hu => dn_Get (dnPut liveA 512).1 w (by omega)) ?_; rintro _ _ ⟨o11, c11, p11, o12, c12, p12, o13, c13, p13, o14, c14, p14, rfl, ok11, ok12, ok13, ok14, rfl⟩
  refine W.p O.mv ?_
  first | refine W.p O.extL ?_ | refine W.p O.ext ?_
  first | refine W.p O.extL ?_ | refine W.p O.ext ?_
  refine W.al rfl rfl fun b3 => ?_
  refine W.st (vt rfl) (vt rfl) rfl ?_
  refine W.p O.as ?_
  refine WL.nil (Q.tn ?_)
  refine CW.seq ?_
  refine CW.region ?_
  refine W.p O.mv ?_
  refine W.p O.addS ?_
  refine W.callN (first := []) (cap := []) rfl (vt rfl) (AV.cons (vt rfl) (AV.nil)) (fun w hu => dn_Get ((dnPut liveA 512).1 ++ [120]) w (by rw [List.length_append, live_1]; decide)) ?_; rintro _ _ ⟨o21, c21, p21, o22, c22, p22, o23, c23, p23, o24, c24, p24, rfl, ok21, ok22, ok23, ok24, rfl⟩
  refine W.p O.mv ?_
  first | refine W.p O.extL ?_ | refine W.p O.ext ?_
  first | refine W.p O.extL ?_ | refine W.p O.ext ?_
  refine W.al rfl rfl fun b4 => ?_
  refine W.st (vt rfl) (vt rfl) rfl ?_
  refine W.p O.as ?_
  refine WL.nil (Q.tn ?_)
  refine CW.seq ?_
  refine CW.region ?_
  refine W.p O.lds ?_
  refine W.q (O.call ⟨rfl, rfl⟩ (AV.cons (vt rfl) (AV.cons (vt rfl) (AV.nil))) (fun _ w hw => dn_Put liveA (oa (some b1), 1) nS nS nS _ w ⟨(show In w (oa (some b1)) (([⟨[97, 46, 108, 97, 110], 1⟩] : List Qn').flatMap encQ) from RowL.h _ hw), In.nil, In.nil, In.nil⟩ liveA_sz)) ?_
  refine W.p O.mv ?_
  first | refine W.p O.extL ?_ | refine W.p O.ext ?_
  first | refine W.p O.extL ?_ | refine W.p O.ext ?_
  refine W.p O.as ?_
  refine W.p O.as ?_
  refine WL.nil (Q.tn ?_)
  refine CW.seq ?_
  refine CW.region ?_
  refine W.p O.lds ?_
  refine W.q (O.call ⟨rfl, rfl⟩ (AV.cons (vt rfl) (AV.cons (vt rfl) (AV.nil))) (fun _ w hw => dn_Put liveA (oa (some b1), 1) nS nS nS _ w ⟨(show In w (oa (some b1)) (([⟨[97, 46, 108, 97, 110], 1⟩] : List Qn').flatMap encQ) from RowL.h _ hw), In.nil, In.nil, In.nil⟩ liveA_sz)) ?_
  refine W.p O.mv ?_
  first | refine W.p O.extL ?_ | refine W.p O.ext ?_
  first | refine W.p O.extL ?_ | refine W.p O.ext ?_
  refine W.p O.as ?_
  refine W.p O.as ?_
  refine WL.nil (Q.tn ?_)
  refine CW.seq ?_
  refine CW.region ?_
  first | refine W.p O.fb ?_ | refine W.p O.fa ?_
  first | refine W.st (vt rfl) (vt rfl) rfl ?_ | refine W.st (u := .int _ _) (vt rfl) (vt rfl) rfl ?_
  refine WL.nil (Q.tn ?_)
  refine CW.seq ?_
  refine CW.region ?_
  refine W.p O.lds ?_
  refine W.q (O.call ⟨rfl, rfl⟩ (AV.cons (vt rfl) (AV.cons (vt rfl) (AV.nil))) (fun _ w hw => dn_Put liveB (oa (some b1), 1) nS nS nS _ w ⟨(show In w (oa (some b1)) (([⟨[97, 46, 108, 97, 110], 1⟩] : List Qn').flatMap encQ) from RowL.h _ hw), In.nil, In.nil, In.nil⟩ liveB_sz)) ?_
  refine W.p O.mv ?_
  first | refine W.p O.extL ?_ | refine W.p O.ext ?_
  first | refine W.p O.extL ?_ | refine W.p O.ext ?_
  refine W.p O.as ?_
  refine W.p O.as ?_
  refine WL.nil (Q.tn ?_)
  refine CW.seq ?_
  refine CW.region ?_
  refine W.p O.mv ?_
  refine W.p O.eqS ?_
  refine W.p O.mv ?_
  refine W.p O.mv ?_
  refine W.q (O.call ⟨rfl, rfl⟩ (AV.cons (vs rfl) (AV.nil)) (fun _ w hw => law0_Num _ w)) ?_
  refine W.p O.eqI ?_
  refine W.p O.pkB ?_
  refine W.p O.mv ?_
  first | refine W.p O.fb ?_ | refine W.p O.fa ?_
  refine W.p O.ld ?_
  refine W.p O.eqI ?_
  refine W.p O.pkB ?_
  refine W.p O.mv ?_
  first | refine W.p O.fb ?_ | refine W.p O.fa ?_
  refine W.p O.ld ?_
  refine W.p O.pkB ?_
  refine W.p O.mv ?_
  refine W.p O.mv ?_
  refine W.q (O.call ⟨rfl, rfl⟩ (AV.cons (vs rfl) (AV.nil)) (fun _ w hw => law0_Num _ w)) ?_
  refine W.p O.eqI ?_
  refine W.p O.pkB ?_
  refine W.p O.mv ?_
  refine W.p O.mv ?_
  refine W.q (O.call ⟨rfl, rfl⟩ (AV.cons (vs rfl) (AV.nil)) (fun _ w hw => law0_Num _ w)) ?_
  refine W.p O.eqI ?_
  refine W.p O.pkB ?_
  refine W.p O.mv ?_
  refine W.p O.mv ?_
  refine W.q (O.call ⟨rfl, rfl⟩ (AV.cons (vs rfl) (AV.nil)) (fun _ w hw => law0_Num _ w)) ?_
  refine W.p O.eqI ?_
  refine W.p O.pkB ?_
  refine W.p O.mv ?_
  refine W.p O.mv ?_
  refine W.q (O.call ⟨rfl, rfl⟩ (AV.cons (vs rfl) (AV.nil)) (fun _ w hw => law0_Num _ w)) ?_
  refine W.p O.eqI ?_
  refine W.p O.pkB ?_
  refine W.p O.mv ?_
  refine W.p O.mv ?_
  refine W.p O.len ?_
  refine W.p O.mv ?_
  refine W.p O.len ?_
  first | refine W.p O.addN ?_ | refine W.p O.add ?_
  refine W.p O.eqI ?_
  refine W.p O.pkB ?_
  refine W.p O.mv ?_
  refine W.p O.mv ?_
  refine W.q (O.call ⟨rfl, rfl⟩ (AV.cons (vs rfl) (AV.nil)) (fun _ w hw => law0_Num _ w)) ?_
  refine W.p O.eqI ?_
  refine W.p O.pkB ?_
  refine W.p O.mv ?_
  refine W.p O.lds ?_
  refine W.q (O.call ⟨rfl, rfl⟩ (AV.cons (vs rfl) (AV.nil)) (fun _ w hw => dn_May liveB (oa (some b1), 1) nS nS nS w ⟨(show In w (oa (some b1)) (([⟨[97, 46, 108, 97, 110], 1⟩] : List Qn').flatMap encQ) from RowL.h _ hw), In.nil, In.nil, In.nil⟩ liveB_sz)) ?_
  refine W.p O.pkB ?_
  refine W.p O.as ?_
  refine WL.nil (Q.tn ?_)
  refine CW.ret ?_
  refine ⟨_, [], (RVs.tmp rfl RVs.nil), List.nil_sublist _, ?_⟩
  refine ⟨congrArg Value.bool ?_, rfl⟩
  decide +kernel
end Go.Proofs.Ytkjcmdgideddnaa
