/- The statements over package opts: their walks. Conditions: what comes in is not longer than some millions. -/
import Derived.Test.YtkjcmdgideddnaaLaw0O
set_option linter.unusedVariables false
set_option linter.unusedSimpArgs false
namespace Go.Proofs.Ytkjcmdgideddnaa
open Go Go.RowKit
theorem putR_len (os : List Opt) : (putR os).1.length ≤ 1200 := by
  unfold putR; split
  · split
    · assumption
    · simp
  · simp
set_option maxRecDepth 100000 in
theorem law6_awake (w : World) : Fn Try.prog 46 [] w [] fun v L' => v = .bool true ∧ L' = [] := by
  have hpl := putR_len [⟨53, [1]⟩, ⟨12, []⟩]
  refine Fn.enter Try.func46 rfl rfl rfl rfl (Holds.nil w) ?_
  refine CW.seq ?_
  refine CW.region ?_
  refine W.p O.as ?_
  refine WL.nil (Q.tn ?_)
  refine CW.seq ?_
  refine CW.region ?_
  refine W.p (O.bd (hv := PV.cons (vt rfl) (PV.cons (vt rfl) (PV.nil)))) ?_
  refine W.p (O.bd (hv := PV.cons (vt rfl) (PV.cons (vt rfl) (PV.nil)))) ?_
  refine W.bs encO [⟨_, _⟩, ⟨_, _⟩] rfl (PV.cons (vt rfl) (PV.cons (vt rfl) (PV.nil))) rfl rfl rfl (by decide) rfl fun b1 => ?_
  refine W.p O.as ?_
  refine WL.nil (Q.tn ?_)
  refine CW.seq ?_
  refine CW.region ?_
  refine W.p O.mv ?_
  refine W.q (O.call ⟨rfl, rfl⟩ (AV.cons (vt rfl) (AV.nil)) (fun _ w hw => opts_Put [⟨53, [1]⟩, ⟨12, []⟩] _ _ w (RowL.h _ hw) (by decide))) ?_
  refine W.p O.mv ?_
  first | refine W.p O.extL ?_ | refine W.p O.ext ?_
  first | refine W.p O.extL ?_ | refine W.p O.ext ?_
  refine W.p O.as ?_
  refine W.p O.as ?_
  refine WL.nil (Q.tn ?_)
  refine CW.seq ?_
  refine CW.region ?_
  refine W.p O.mv ?_
  refine W.p O.addS ?_
  refine W.p O.addS ?_
  refine W.callN (first := []) (cap := []) rfl (vt rfl) (AV.cons (vt rfl) (AV.nil)) (fun w hu => opts_Get _ w (by decide)) ?_; rintro _ _ ⟨_, rfl, o1, c1, sp1, rfl, ok1, rfl⟩; have nk1 := ok1.nk
  refine W.p O.mv ?_
  first | refine W.p O.extL ?_ | refine W.p O.ext ?_
  first | refine W.p O.extL ?_ | refine W.p O.ext ?_
  refine W.p O.as ?_
  refine W.p O.as ?_
  refine WL.nil (Q.tn ?_)
  refine CW.seq ?_
  refine CW.region ?_
  refine W.callN (first := []) (cap := []) rfl (vt rfl) (AV.cons (vt rfl) (AV.nil)) (fun w hu => opts_Get _ w (by decide)) ?_; rintro _ _ ⟨_, rfl, o2, c2, sp2, rfl, ok2, rfl⟩; have nk2 := ok2.nk
  refine W.p O.mv ?_
  first | refine W.p O.extL ?_ | refine W.p O.ext ?_
  first | refine W.p O.extL ?_ | refine W.p O.ext ?_
  refine W.p O.as ?_
  refine W.p O.as ?_
  refine WL.nil (Q.tn ?_)
  refine CW.seq ?_
  refine CW.region ?_
  refine W.callN (first := []) (cap := []) rfl (vt rfl) (AV.cons (vt rfl) (AV.nil)) (fun w hu => opts_Get _ w (by decide)) ?_; rintro _ _ ⟨_, rfl, o3, c3, sp3, rfl, ok3, rfl⟩; have nk3 := ok3.nk
  refine W.p O.mv ?_
  first | refine W.p O.extL ?_ | refine W.p O.ext ?_
  first | refine W.p O.extL ?_ | refine W.p O.ext ?_
  refine W.p O.as ?_
  refine W.p O.as ?_
  refine WL.nil (Q.tn ?_)
  refine CW.seq ?_
  refine CW.region ?_
  refine W.p (O.bd (hv := PV.cons (vt rfl) (PV.nil))) ?_
  refine W.bs encO [⟨_, _⟩] rfl (PV.cons (vt rfl) (PV.nil)) rfl rfl rfl (by decide) rfl fun b2 => ?_
  refine W.q (O.call ⟨rfl, rfl⟩ (AV.cons (vt rfl) (AV.nil)) (fun _ w hw => opts_Put [⟨255, []⟩] _ _ w (RowL.h _ hw) (by decide))) ?_
  refine W.p O.mv ?_
  first | refine W.p O.extL ?_ | refine W.p O.ext ?_
  first | refine W.p O.extL ?_ | refine W.p O.ext ?_
  refine W.p O.as ?_
  refine W.p O.as ?_
  refine WL.nil (Q.tn ?_)
  refine CW.seq ?_
  refine CW.region ?_
  refine W.p O.mv ?_
  refine W.q (O.call ⟨rfl, rfl⟩ (AV.cons (vt rfl) (AV.cons (vt rfl) (AV.nil))) (fun _ w hw => opts_Find (getR [53, 1, 97, 12, 0, 53, 1, 98]).1 _ _ _ w (RowL.h _ hw) (by decide))) ?_
  refine W.p O.mv ?_
  first | refine W.p O.extL ?_ | refine W.p O.ext ?_
  first | refine W.p O.extL ?_ | refine W.p O.ext ?_
  refine W.p O.as ?_
  refine W.p O.as ?_
  refine WL.nil (Q.tn ?_)
  refine CW.seq ?_
  refine CW.region ?_
  refine W.p O.mv ?_
  refine W.p O.eqS ?_
  first | (refine WL.kn (v := true) (by rfl) ?_ ?_; focus (decide)) | (refine WL.kn (v := false) (by rfl) ?_ ?_; focus (decide))
  refine W.p O.mv ?_
  refine W.p O.mv ?_
  refine W.q (O.call ⟨rfl, rfl⟩ (AV.cons (vs rfl) (AV.nil)) (fun _ w hw => law0_Num _ w)) ?_
  refine W.p O.eqI ?_
  first | (refine WL.kn (v := true) (by rfl) ?_ ?_; focus (decide)) | (refine WL.kn (v := false) (by rfl) ?_ ?_; focus (decide))
  refine W.p O.pkB ?_
  refine W.p O.mv ?_
  refine W.p O.mv ?_
  refine W.p O.mv ?_
  refine W.q (O.call ⟨rfl, rfl⟩ (AV.cons (vs rfl) (AV.cons (vs rfl) (AV.nil))) (fun _ w hw => sameOptions _ [⟨53, [1]⟩, ⟨12, []⟩] _ _ _ _ w (RowL.h _ hw) (RowL.h _ hw) (by decide))) ?_
  first | (refine WL.kn (v := true) (by rfl) ?_ ?_; focus (decide)) | (refine WL.kn (v := false) (by rfl) ?_ ?_; focus (decide))
  refine W.p O.pkB ?_
  refine W.p O.mv ?_
  refine W.p O.mv ?_
  refine W.q (O.call ⟨rfl, rfl⟩ (AV.cons (vs rfl) (AV.nil)) (fun _ w hw => law0_Num _ w)) ?_
  refine W.p O.eqI ?_
  first | (refine WL.kn (v := true) (by rfl) ?_ ?_; focus (decide)) | (refine WL.kn (v := false) (by rfl) ?_ ?_; focus (decide))
  refine W.p O.pkB ?_
  refine W.p O.mv ?_
  refine W.p O.mv ?_
  refine W.p (O.bd (hv := PV.cons (vt rfl) (PV.cons (vt rfl) (PV.nil)))) ?_
  refine W.p (O.bd (hv := PV.cons (vt rfl) (PV.nil))) ?_
  refine W.ug rfl ?_
  refine W.bs encO [⟨_, _⟩, ⟨_, _⟩] rfl (PV.cons (vs rfl) (PV.cons (vs rfl) (PV.nil))) rfl rfl rfl (by decide) rfl fun b3 => ?_
  refine W.q (O.call ⟨rfl, rfl⟩ (AV.cons (vs rfl) (AV.cons (vt rfl) (AV.nil))) (fun _ w hw => sameOptions _ [⟨53, [97, 98]⟩, ⟨12, []⟩] _ _ _ _ w (RowL.h _ hw) (RowL.h _ hw) (by decide))) ?_
  first | (refine WL.kn (v := true) (by rfl) ?_ ?_; focus (decide)) | (refine WL.kn (v := false) (by rfl) ?_ ?_; focus (decide))
  refine W.p O.pkB ?_
  refine W.p O.mv ?_
  refine W.p O.mv ?_
  refine W.q (O.call ⟨rfl, rfl⟩ (AV.cons (vs rfl) (AV.nil)) (fun _ w hw => law0_Num _ w)) ?_
  refine W.p O.eqI ?_
  first | (refine WL.kn (v := true) (by rfl) ?_ ?_; focus (decide)) | (refine WL.kn (v := false) (by rfl) ?_ ?_; focus (decide))
  refine W.p O.pkB ?_
  refine W.p O.mv ?_
  refine W.p O.mv ?_
  refine W.q (O.call ⟨rfl, rfl⟩ (AV.cons (vs rfl) (AV.nil)) (fun _ w hw => law0_Num _ w)) ?_
  refine W.p O.eqI ?_
  first | (refine WL.kn (v := true) (by rfl) ?_ ?_; focus (decide)) | (refine WL.kn (v := false) (by rfl) ?_ ?_; focus (decide))
  refine W.p O.pkB ?_
  refine W.p O.mv ?_
  refine W.p O.mv ?_
  refine W.q (O.call ⟨rfl, rfl⟩ (AV.cons (vs rfl) (AV.nil)) (fun _ w hw => law0_Num _ w)) ?_
  refine W.p O.eqI ?_
  first | (refine WL.kn (v := true) (by rfl) ?_ ?_; focus (decide)) | (refine WL.kn (v := false) (by rfl) ?_ ?_; focus (decide))
  refine W.p O.pkB ?_
  refine W.p O.mv ?_
  refine W.p O.mv ?_
  refine W.p O.eqS ?_
  first | (refine WL.kn (v := true) (by rfl) ?_ ?_; focus (decide)) | (refine WL.kn (v := false) (by rfl) ?_ ?_; focus (decide))
  refine W.p O.pkB ?_
  refine W.p O.mv ?_
  refine W.p O.mv ?_
  refine W.p O.pkB ?_
  refine W.p O.as ?_
  refine WL.nil (Q.tn ?_)
  refine CW.ret ?_
  refine ⟨_, [], (RVs.tmp rfl RVs.nil), List.nil_sublist _, ?_⟩
  exact ⟨rfl, rfl⟩
theorem getR_len (s : List UInt8) : (getR s).1.length ≤ s.length := by
  unfold getR getOpts
  have h := psR_len s
  unfold psR at h
  cases hp : pieces s with
  | none => simp
  | some ps =>
    simp only [hp] at h
    have hj := joinAll_len ps []
    by_cases hm : optsMay (joinAll [] ps) = true
    · simp only [hm, if_true]; simp [dsum] at hj; omega
    · simp only [hm]; simp
set_option maxRecDepth 100000 in
theorem law6_Opts (os : List Opt) (a : Option Addr) (c : Nat) (s : List UInt8) (k : Int) (w : World) (h : In w a (os.flatMap encO)) (h1 : os.length ≤ 1048576) (h2 : s.length ≤ 1048576) : Fn Try.prog 3 [.slice a os.length c, .string (S s), .int .i64 k] w [] fun v L' => v = .bool true ∧ L' = [] := by
  have row := Row.ofE h
  have hg := getR_len s
  refine Fn.enter Try.func3 rfl rfl rfl rfl (Holds.nil w) ?_
  refine CW.seq ?_
  refine CW.region ?_
  refine W.p O.as ?_
  refine WL.nil (Q.tn ?_)
  refine CW.seq ?_
  refine CW.region ?_
  refine W.p O.mv ?_
  refine W.callN (first := []) (cap := []) rfl (vt rfl) (AV.cons (vt rfl) (AV.nil)) (fun w hu => lendOptions _ _ _ w (RowL.h _ hu) (by omega)) ?_; rintro _ _ ⟨bl, cl, spl, rfl, okl, rfl⟩; have hcl := okl.2.2; simp only [List.length_append, List.length_cons, List.length_nil] at hcl
  refine W.p O.as ?_
  refine WL.nil (Q.tn ?_)
  refine CW.seq ?_
  refine CW.region ?_
  refine W.p O.mv ?_
  refine W.q (O.call ⟨rfl, rfl⟩ (AV.cons (vt rfl) (AV.nil)) (fun _ w hw => opts_Put os _ _ w (In.cutPre hw) (by omega))) ?_
  refine W.p O.mv ?_
  first | refine W.p O.extL ?_ | refine W.p O.ext ?_
  first | refine W.p O.extL ?_ | refine W.p O.ext ?_
  refine W.p O.as ?_
  refine W.p O.as ?_
  refine WL.nil (Q.tn ?_)
  refine CW.seq ?_
  refine CW.region ?_
  refine W.p O.mv ?_
  refine W.q (O.call ⟨rfl, rfl⟩ (AV.cons (vt rfl) (AV.nil)) (fun _ w hw => ref_PutOpts os _ _ w (RowL.h _ hw) (by omega))) ?_
  refine W.p O.mv ?_
  first | refine W.p O.extL ?_ | refine W.p O.ext ?_
  first | refine W.p O.extL ?_ | refine W.p O.ext ?_
  refine W.p O.as ?_
  refine W.p O.as ?_
  refine WL.nil (Q.tn ?_)
  refine CW.seq ?_
  refine CW.region ?_
  refine W.p O.mv ?_
  refine W.callN (first := []) (cap := []) rfl (vt rfl) (AV.cons (vt rfl) (AV.nil)) (fun w hu => opts_Get s w (by omega)) ?_; rintro _ _ ⟨_, rfl, o1, c1, sp1, rfl, ok1, rfl⟩; have nk1 := ok1.nk
  refine W.p O.mv ?_
  first | refine W.p O.extL ?_ | refine W.p O.ext ?_
  first | refine W.p O.extL ?_ | refine W.p O.ext ?_
  refine W.p O.as ?_
  refine W.p O.as ?_
  refine WL.nil (Q.tn ?_)
  refine CW.seq ?_
  refine CW.region ?_
  refine W.p O.mv ?_
  refine W.callN (first := []) (cap := []) rfl (vt rfl) (AV.cons (vt rfl) (AV.nil)) (fun w hu => ref_GetOpts s w (by omega)) ?_; rintro _ _ ⟨_, rfl, o2, c2, sp2, rfl, ok2, rfl⟩; have nk2 := ok2.nk
  refine W.p O.mv ?_
  first | refine W.p O.extL ?_ | refine W.p O.ext ?_
  first | refine W.p O.extL ?_ | refine W.p O.ext ?_
  refine W.p O.as ?_
  refine W.p O.as ?_
  refine WL.nil (Q.tn ?_)
  refine CW.seq ?_
  refine CW.region ?_
  refine W.p O.mv ?_
  refine W.p O.mv ?_
  refine W.q (O.call ⟨rfl, rfl⟩ (AV.cons (vt rfl) (AV.cons (vt rfl) (AV.nil))) (fun _ w hw => opts_Find os _ _ _ w (In.cutPre hw) (by omega))) ?_
  refine W.p O.mv ?_
  first | refine W.p O.extL ?_ | refine W.p O.ext ?_
  first | refine W.p O.extL ?_ | refine W.p O.ext ?_
  refine W.p O.as ?_
  refine W.p O.as ?_
  refine WL.nil (Q.tn ?_)
  refine CW.seq ?_
  refine CW.region ?_
  refine W.p O.mv ?_
  refine W.p O.mv ?_
  refine W.q (O.call ⟨rfl, rfl⟩ (AV.cons (vt rfl) (AV.cons (vt rfl) (AV.nil))) (fun _ w hw => ref_FindOpt os _ _ _ w (RowL.h _ hw) (by omega))) ?_
  refine W.p O.mv ?_
  first | refine W.p O.extL ?_ | refine W.p O.ext ?_
  first | refine W.p O.extL ?_ | refine W.p O.ext ?_
  refine W.p O.as ?_
  refine W.p O.as ?_
  refine WL.nil (Q.tn ?_)
  refine CW.seq ?_
  refine CW.seq ?_
  refine CW.region ?_
  refine W.p O.mv ?_
  refine W.p O.mv ?_
  refine W.p O.neS ?_
  first | (refine WL.kn (v := true) (by rfl) ?_ ?_; focus (simp; done)) | (refine WL.kn (v := false) (by rfl) ?_ ?_; focus (simp; done))
  refine W.p O.mv ?_
  refine W.p O.mv ?_
  refine W.q (O.call ⟨rfl, rfl⟩ (AV.cons (vs rfl) (AV.nil)) (fun _ w hw => law0_Num _ w)) ?_
  refine W.p O.mv ?_
  refine W.p O.neI ?_
  first | (refine WL.kn (v := true) (by rfl) ?_ ?_; focus (simp; done)) | (refine WL.kn (v := false) (by rfl) ?_ ?_; focus (simp; done))
  refine W.p O.pkB ?_
  refine W.p O.mv ?_
  refine W.p O.mv ?_
  refine W.p O.mv ?_
  refine W.q (O.call ⟨rfl, rfl⟩ (AV.cons (vs rfl) (AV.cons (vs rfl) (AV.nil))) (fun _ w hw => sameOptions _ _ _ _ _ _ w (RowL.h _ hw) (RowL.h _ hw) (by omega))) ?_
  first | (refine WL.kn (v := true) (by rfl) ?_ ?_; focus (simp; done)) | (refine WL.kn (v := false) (by rfl) ?_ ?_; focus (simp; done))
  refine W.p O.nt ?_
  first | (refine WL.kn (v := true) (by rfl) ?_ ?_; focus (simp; done)) | (refine WL.kn (v := false) (by rfl) ?_ ?_; focus (simp; done))
  refine W.p O.pkB ?_
  refine W.p O.mv ?_
  refine W.p O.mv ?_
  refine W.q (O.call ⟨rfl, rfl⟩ (AV.cons (vs rfl) (AV.nil)) (fun _ w hw => law0_Num _ w)) ?_
  refine W.p O.mv ?_
  refine W.p O.neI ?_
  first | (refine WL.kn (v := true) (by rfl) ?_ ?_; focus (simp; done)) | (refine WL.kn (v := false) (by rfl) ?_ ?_; focus (simp; done))
  refine W.p O.pkB ?_
  refine W.p O.mv ?_
  refine W.p O.mv ?_
  refine W.p O.mv ?_
  refine W.p O.neS ?_
  first | (refine WL.kn (v := true) (by rfl) ?_ ?_; focus (simp; done)) | (refine WL.kn (v := false) (by rfl) ?_ ?_; focus (simp; done))
  refine W.p O.pkB ?_
  refine W.p O.mv ?_
  refine W.p O.mv ?_
  refine W.p O.mv ?_
  refine W.p O.neB ?_
  first | (refine WL.kn (v := true) (by rfl) ?_ ?_; focus (simp; done)) | (refine WL.kn (v := false) (by rfl) ?_ ?_; focus (simp; done))
  refine W.p O.pkB ?_
  refine WL.nil (Q.tn ?_)
  refine CW.cond (vt rfl) (fun hc1 => ?_) (fun hc1 => ?_)
  · exact absurd hc1 (by decide)
  try simp only [Bool.cond_true_left, Bool.cond_false_right, Bool.or_eq_true, Bool.or_eq_false_iff, Bool.and_eq_true, Bool.and_eq_false_iff, decide_eq_true_eq, decide_eq_false_iff_not, Bool.not_eq_true', Bool.not_eq_false'] at hc1
  refine CW.skip (Q.tn ?_)
  refine CW.seq ?_
  refine CW.region ?_
  refine W.p O.mv ?_
  refine W.callS (first := []) (cap := []) _ rfl (vt rfl) (AV.cons (vt rfl) (AV.nil)) (fun w hu hh => spoilOptions _ o1 c1 sp1 w ok1 hh (by omega)) ?_; rintro _ _ ⟨ys, hys, rfl⟩
  refine WL.nil (Q.tn ?_)
  refine CW.seq ?_
  refine CW.region ?_
  refine W.p O.mv ?_
  refine W.p O.mv ?_
  refine W.q (O.call ⟨rfl, rfl⟩ (AV.cons (vt rfl) (AV.cons (vt rfl) (AV.nil))) (fun _ w hw => keptOptions os bl _ _ _ w (RowL.h _ hw) (RowL.h _ hw) (by omega) (by omega))) ?_
  first | (refine WL.kn (v := true) (by rfl) ?_ ?_; focus (simp; done)) | (refine WL.kn (v := false) (by rfl) ?_ ?_; focus (simp; done))
  refine W.p O.mv ?_
  refine W.q (O.call ⟨rfl, rfl⟩ (AV.nil) (fun _ w hw => law6_awake w)) ?_
  first | (refine WL.kn (v := true) (by rfl) ?_ ?_; focus (simp; done)) | (refine WL.kn (v := false) (by rfl) ?_ ?_; focus (simp; done))
  refine W.p O.pkB ?_
  refine W.p O.as ?_
  refine WL.nil (Q.tn ?_)
  refine CW.ret ?_
  refine ⟨_, [], (RVs.tmp rfl RVs.nil), List.nil_sublist _, ?_⟩
  exact ⟨rfl, rfl⟩
theorem putR_ok {os : List Opt} (h : (putR os).2 = 0) : optsMay os = true ∧ putR os = (putOpts os, 0) := by
  unfold putR at h ⊢
  split
  · rename_i hm
    rw [if_pos hm] at h
    split
    · exact ⟨hm, rfl⟩
    · rename_i hl; rw [if_neg hl] at h; cases h
  · rename_i hm; rw [if_neg hm] at h; cases h
theorem putR_err {os : List Opt} (h : (putR os).2 ≠ 0) : (putR os).1 = [] := by
  unfold putR at h ⊢
  split
  · rename_i hm
    rw [if_pos hm] at h
    split
    · rename_i hl; rw [if_pos hl] at h; exact absurd rfl h
    · rfl
  · rfl
theorem getR_put {os : List Opt} (h : optsMay os = true) (n : Nat) (behind : List UInt8) : getR (List.replicate n 0 ++ putOpts os ++ behind) = (os, 0) := by
  unfold getR; rw [get_put h]
theorem putOpts_last (os : List Opt) : (putOpts os).getD ((putOpts os).length - 1) 0 = 255 ∧ 1 ≤ (putOpts os).length := by
  unfold putOpts; simp [List.getD_eq_getElem?_getD]
set_option maxRecDepth 100000 in
theorem law6_OptsBack (os : List Opt) (a : Option Addr) (c : Nat) (s : List UInt8) (k : Int) (w : World) (h : In w a (os.flatMap encO)) (h1 : os.length ≤ 1048576) (h2 : s.length ≤ 1048576) : Fn Try.prog 4 [.slice a os.length c, .string (S s), .int .i64 k] w [] fun v L' => v = .bool true ∧ L' = [] := by
  have row := Row.ofE h
  have hpl := putR_len os
  refine Fn.enter Try.func4 rfl rfl rfl rfl (Holds.nil w) ?_
  refine CW.seq ?_
  refine CW.region ?_
  refine W.p O.as ?_
  refine WL.nil (Q.tn ?_)
  refine CW.seq ?_
  refine CW.seq ?_
  refine CW.region ?_
  refine W.q (O.call ⟨rfl, rfl⟩ (AV.nil) (fun _ w hw => law6_awake w)) ?_
  refine W.p O.nt ?_
  refine WL.nil (Q.tn ?_)
  refine CW.cond (vt rfl) (fun hc1 => ?_) (fun hc1 => ?_)
  · exact absurd hc1 (by decide)
  try simp only [Bool.cond_true_left, Bool.cond_false_right, Bool.or_eq_true, Bool.or_eq_false_iff, Bool.and_eq_true, Bool.and_eq_false_iff, decide_eq_true_eq, decide_eq_false_iff_not, Bool.not_eq_true', Bool.not_eq_false'] at hc1
  refine CW.skip (Q.tn ?_)
  refine CW.seq ?_
  refine CW.region ?_
  refine W.p O.mv ?_
  refine W.q (O.call ⟨rfl, rfl⟩ (AV.cons (vt rfl) (AV.nil)) (fun _ w hw => opts_Put os _ _ w (RowL.h _ hw) (by omega))) ?_
  refine W.p O.mv ?_
  first | refine W.p O.extL ?_ | refine W.p O.ext ?_
  first | refine W.p O.extL ?_ | refine W.p O.ext ?_
  refine W.p O.as ?_
  refine W.p O.as ?_
  refine WL.nil (Q.tn ?_)
  refine CW.seq ?_
  refine CW.seq ?_
  refine CW.region ?_
  refine W.p O.mv ?_
  refine W.q (O.call ⟨rfl, rfl⟩ (AV.cons (vt rfl) (AV.nil)) (fun _ w hw => law0_Num _ w)) ?_
  refine W.p O.neI ?_
  refine WL.nil (Q.tn ?_)
  refine CW.cond (vt rfl) (fun hc2 => ?_) (fun hc2 => ?_)
  · try simp only [Bool.cond_true_left, Bool.cond_false_right, Bool.or_eq_true, Bool.or_eq_false_iff, Bool.and_eq_true, Bool.and_eq_false_iff, decide_eq_true_eq, decide_eq_false_iff_not, Bool.not_eq_true', Bool.not_eq_false'] at hc2
    refine CW.seq ?_
    refine CW.region ?_
    refine W.p O.mv ?_
    refine W.p O.eqS ?_
    refine W.p O.as ?_
    refine WL.nil (Q.tn ?_)
    refine CW.ret (Q.tr ?_)
    refine ⟨_, [], (RVs.tmp rfl RVs.nil), List.nil_sublist _, ?_⟩
    refine ⟨?_, rfl⟩
    rw [putR_err hc2]; rfl
  try simp only [Bool.cond_true_left, Bool.cond_false_right, Bool.or_eq_true, Bool.or_eq_false_iff, Bool.and_eq_true, Bool.and_eq_false_iff, decide_eq_true_eq, decide_eq_false_iff_not, Bool.not_eq_true', Bool.not_eq_false'] at hc2
  refine CW.skip (Q.tn ?_)
  refine CW.seq ?_
  refine CW.region ?_
  refine W.p O.mv ?_
  refine W.p (O.andM 4 16 (h := by decide) (hq := by decide) (hM := by decide)) ?_
  refine W.mkB rfl (vt rfl) (vt rfl) (by first | omega | decide) fun b1 => ?_
  first | refine W.p (O.cvBZ ⟨rfl, rfl⟩ (vt rfl) (by first | exact Nat.le_refl _ | omega)) ?_ | refine W.p (O.cvBA ⟨rfl, rfl⟩ (vt rfl)) ?_ | refine W.p (O.cvBS ⟨rfl, rfl⟩ (vt rfl) (fun _ => by omega)) ?_
  refine W.p O.mv ?_
  refine W.p O.addS ?_
  refine W.p O.mv ?_
  refine W.p O.addS ?_
  refine W.callN (first := []) (cap := []) rfl (vt rfl) (AV.cons (vt rfl) (AV.nil)) (fun w hu => opts_Get _ w (by simp; omega)) ?_; rintro _ _ ⟨_, rfl, o1, c1, sp1, rfl, ok1, rfl⟩; have nk1 := ok1.nk
  refine W.p O.mv ?_
  first | refine W.p O.extL ?_ | refine W.p O.ext ?_
  first | refine W.p O.extL ?_ | refine W.p O.ext ?_
  refine W.p O.as ?_
  refine W.p O.as ?_
  refine WL.nil (Q.tn ?_)
  refine CW.seq ?_
  refine CW.region ?_
  refine W.p O.mv ?_
  refine W.q (O.call ⟨rfl, rfl⟩ (AV.cons (vt rfl) (AV.nil)) (fun _ w hw => law0_Num _ w)) ?_
  refine W.p O.eqI ?_
  refine W.p O.mv ?_
  refine W.p O.mv ?_
  refine W.p O.mv ?_
  refine W.q (O.call ⟨rfl, rfl⟩ (AV.cons (vs rfl) (AV.cons (vs rfl) (AV.nil))) (fun _ w hw => sameOptions _ os _ _ _ _ w (RowL.h _ hw) (RowL.h _ hw) (Nat.le_trans (getR_len _) (by simp; omega)))) ?_
  refine W.p O.pkB ?_
  refine W.p O.mv ?_
  refine W.p O.mv ?_
  refine W.p O.len ?_
  refine W.p O.geq ?_
  refine W.p O.pkB ?_
  refine W.p O.mv ?_
  refine W.p O.mv ?_
  refine W.p O.mv ?_
  refine W.p O.len ?_
  first | refine W.p O.subN ?_ | refine W.p O.sub ?_
  first | refine W.p O.idxS ?_ | refine W.p (O.idxS (h := fun hg => by simp only [cond_true, cond_false, Bool.true_and, Bool.cond_false_right, Bool.cond_true_left, Bool.and_eq_true, Bool.or_eq_true, Bool.or_eq_false_iff, Bool.and_eq_false_iff, Bool.not_eq_true', Bool.not_eq_false', decide_eq_true_eq, decide_eq_false_iff_not, Int.reduceToNat] at *; omega)) ?_
  refine W.p O.eqI ?_
  refine W.p O.pkB ?_
  refine W.p O.as ?_
  refine WL.nil (Q.tn ?_)
  refine CW.ret ?_
  refine ⟨_, [], (RVs.tmp rfl RVs.nil), List.nil_sublist _, ?_⟩
  refine ⟨?_, rfl⟩
  obtain ⟨hm, he⟩ := putR_ok hc2
  have hl := putOpts_last os
  rw [he]; simp only [getR_put hm]
  rw [show (((putOpts os).length : Int) - 1).toNat = (putOpts os).length - 1 by omega, hl.1]
  simp [oneOr]; omega
end Go.Proofs.Ytkjcmdgideddnaa
