/- The statements over package rr: their walks. Conditions: what comes in is not longer than some millions. -/
import Derived.Test.YtkjcmdgideddnaaRrRef2
import Derived.Test.YtkjcmdgideddnaaRrRef3
set_option linter.unusedVariables false
set_option linter.unusedSimpArgs false
namespace Go.Proofs.Ytkjcmdgideddnaa
open Go Go.RowKit
theorem rr_eqb (a b : RR) : (decide ((S a.name).data.toList = (S b.name).data.toList) && (decide (a.type = b.type) && (decide (a.ttl = b.ttl) && (decide (a.addr = b.addr) && (decide ((S a.target).data.toList = (S b.target).data.toList) && (decide ((S a.text).data.toList = (S b.text).data.toList) && (decide (a.serial = b.serial) && true))))))) = decide (a = b) := by
  have hS : ∀ l : List UInt8, (S l).data.toList = l := fun _ => rfl
  obtain ⟨a1, a2, a3, a4, a5, a6, a7⟩ := a
  obtain ⟨b1, b2, b3, b4, b5, b6, b7⟩ := b
  rw [Bool.eq_iff_iff]
  simp [hS]
set_option maxRecDepth 100000 in
theorem law4_awake (w : World) : Fn Try.prog 77 [] w [] fun v L' => v = .bool true ∧ L' = [] := by
  have hA1 : (rrPut 0 [] (⟨[97, 46, 108, 97, 110], 1, 60, 167772162, [], [], 0⟩ : RR)).1.length = 21 := by decide +kernel
  have hB1 : (rrPut (rrPut 0 [] (⟨[97, 46, 108, 97, 110], 1, 60, 167772162, [], [], 0⟩ : RR)).1.length (rrPut 0 [] (⟨[97, 46, 108, 97, 110], 1, 60, 167772162, [], [], 0⟩ : RR)).2.1 (⟨[98, 46, 108, 97, 110], 5, 0, 0, [97, 46, 108, 97, 110], [], 0⟩ : RR)).1.length = 16 := by decide +kernel
  refine Fn.enter Try.func77 rfl rfl rfl rfl (Holds.nil w) ?_
  refine CW.seq ?_
  refine CW.region ?_
  refine W.p O.as ?_
  refine WL.nil (Q.tn ?_)
  refine CW.seq ?_
  refine CW.region ?_
  refine W.p (O.bd (hv := PV.cons (vt rfl) (PV.cons (vt rfl) (PV.cons (vt rfl) (PV.cons (vt rfl) (PV.nil)))))) ?_
  refine W.al rfl rfl fun b1 => ?_
  refine W.st (vt rfl) (vt rfl) rfl ?_
  refine WL.nil (Q.tn ?_)
  refine CW.seq ?_
  refine CW.region ?_
  refine W.p O.lds ?_
  refine W.callN (first := []) (cap := []) rfl (vt rfl) (AV.cons (vt rfl) (AV.cons (vt rfl) (AV.cons (vt rfl) (AV.nil)))) (fun w hu => rr_Put 0 [] (⟨[97, 46, 108, 97, 110], 1, 60, 167772162, [], [], 0⟩ : RR) none 0 w In.nil (by decide) (by decide) (by simp) (by decide) (by decide)) ?_; rintro _ _ ⟨o11, c11, sp11, rfl, ok11, rfl⟩; have nk11 := ok11.nk
  refine W.p O.mv ?_
  first | refine W.p O.extL ?_ | refine W.p O.ext ?_
  first | refine W.p O.extL ?_ | refine W.p O.ext ?_
  first | refine W.p O.extL ?_ | refine W.p O.ext ?_
  refine W.p O.as ?_
  refine W.p O.as ?_
  refine W.p O.as ?_
  refine WL.nil (Q.tn ?_)
  refine CW.seq ?_
  refine CW.region ?_
  refine W.p O.mv ?_
  refine W.q (O.call ⟨rfl, rfl⟩ (AV.cons (vt rfl) (AV.cons (vt rfl) (AV.nil))) (fun _ w hw => rr_Get _ _ w (by decide))) ?_
  refine W.p O.mv ?_
  first | refine W.p O.extL ?_ | refine W.p O.ext ?_
  first | refine W.p O.extL ?_ | refine W.p O.ext ?_
  first | refine W.p O.extL ?_ | refine W.p O.ext ?_
  refine W.al rfl rfl fun b2 => ?_
  refine W.st (vt rfl) (vt rfl) rfl ?_
  refine W.p O.as ?_
  refine W.p O.as ?_
  refine WL.nil (Q.tn ?_)
  refine CW.seq ?_
  refine CW.region ?_
  refine W.p O.mv ?_
  refine W.p O.len ?_
  refine W.p O.mv ?_
  refine W.p (O.bd (hv := PV.cons (vt rfl) (PV.cons (vt rfl) (PV.cons (vt rfl) (PV.nil))))) ?_
  refine W.callN (first := []) (cap := []) rfl (vt rfl) (AV.cons (vt rfl) (AV.cons (vt rfl) (AV.cons (vt rfl) (AV.nil)))) (fun w hu => rr_Put (rrPut 0 [] (⟨[97, 46, 108, 97, 110], 1, 60, 167772162, [], [], 0⟩ : RR)).1.length (rrPut 0 [] (⟨[97, 46, 108, 97, 110], 1, 60, 167772162, [], [], 0⟩ : RR)).2.1 (⟨[98, 46, 108, 97, 110], 5, 0, 0, [97, 46, 108, 97, 110], [], 0⟩ : RR) _ _ w (RowL.h _ hu) (by decide) (by decide) (by decide) (by decide) (by decide)) ?_; rintro _ _ ⟨o12, c12, sp12, rfl, ok12, rfl⟩; have nk12 := ok12.nk
  refine W.p O.mv ?_
  first | refine W.p O.extL ?_ | refine W.p O.ext ?_
  first | refine W.p O.extL ?_ | refine W.p O.ext ?_
  first | refine W.p O.extL ?_ | refine W.p O.ext ?_
  refine W.p O.as ?_
  refine W.p O.as ?_
  refine W.p O.as ?_
  refine WL.nil (Q.tn ?_)
  refine CW.seq ?_
  refine CW.region ?_
  refine W.p O.mv ?_
  refine W.p O.mv ?_
  refine W.p O.addS ?_
  refine W.p O.mv ?_
  refine W.p O.len ?_
  refine W.q (O.call ⟨rfl, rfl⟩ (AV.cons (vt rfl) (AV.cons (vt rfl) (AV.nil))) (fun _ w hw => rr_Get _ _ w (by decide))) ?_
  refine W.p O.mv ?_
  first | refine W.p O.extL ?_ | refine W.p O.ext ?_
  first | refine W.p O.extL ?_ | refine W.p O.ext ?_
  first | refine W.p O.extL ?_ | refine W.p O.ext ?_
  refine W.al rfl rfl fun b3 => ?_
  refine W.st (vt rfl) (vt rfl) rfl ?_
  refine W.p O.as ?_
  refine W.p O.as ?_
  refine WL.nil (Q.tn ?_)
  refine CW.seq ?_
  refine CW.region ?_
  refine W.q (O.call ⟨rfl, rfl⟩ (AV.cons (vt rfl) (AV.cons (vt rfl) (AV.nil))) (fun _ w hw => rr_Get _ _ w (by decide))) ?_
  refine W.p O.mv ?_
  first | refine W.p O.extL ?_ | refine W.p O.ext ?_
  first | refine W.p O.extL ?_ | refine W.p O.ext ?_
  first | refine W.p O.extL ?_ | refine W.p O.ext ?_
  refine W.al rfl rfl fun b4 => ?_
  refine W.st (vt rfl) (vt rfl) rfl ?_
  refine W.p O.as ?_
  refine W.p O.as ?_
  refine WL.nil (Q.tn ?_)
  refine CW.seq ?_
  refine CW.region ?_
  refine W.p (O.bd (hv := PV.cons (vt rfl) (PV.cons (vt rfl) (PV.cons (vt rfl) (PV.nil))))) ?_
  refine W.callN (first := []) (cap := []) rfl (vt rfl) (AV.cons (vt rfl) (AV.cons (vt rfl) (AV.cons (vt rfl) (AV.nil)))) (fun w hu => rr_Put 0 [] (⟨[97], 1, 0, 0, [], [120], 0⟩ : RR) none 0 w In.nil (by decide) (by decide) (by simp) (by decide) (by decide)) ?_; rintro _ _ ⟨o13, c13, sp13, rfl, ok13, rfl⟩; have nk13 := ok13.nk
  refine W.p O.mv ?_
  first | refine W.p O.extL ?_ | refine W.p O.ext ?_
  first | refine W.p O.extL ?_ | refine W.p O.ext ?_
  first | refine W.p O.extL ?_ | refine W.p O.ext ?_
  refine W.p O.as ?_
  refine W.p O.as ?_
  refine W.p O.as ?_
  refine WL.nil (Q.tn ?_)
  refine CW.seq ?_
  refine CW.region ?_
  refine W.p O.mv ?_
  refine W.p O.eqS ?_
  first | (refine WL.kn (v := true) (by rfl) ?_ ?_; focus (decide)) | (refine WL.kn (v := false) (by rfl) ?_ ?_; focus (decide))
  refine W.p O.mv ?_
  refine W.p O.mv ?_
  refine W.q (O.call ⟨rfl, rfl⟩ (AV.cons (vs rfl) (AV.nil)) (fun _ w hw => law0_Num _ w)) ?_
  refine W.p O.eqI ?_
  first | (refine WL.kn (v := true) (by rfl) ?_ ?_; focus (decide)) | (refine WL.kn (v := false) (by rfl) ?_ ?_; focus (decide))
  refine W.p O.pkB ?_
  refine W.p O.mv ?_
  refine W.p O.lds ?_
  refine W.p O.lds ?_
  refine W.p O.eqT ?_
  first | (refine WL.kn (v := true) (by rfl) ?_ ?_; focus (decide)) | (refine WL.kn (v := false) (by rfl) ?_ ?_; focus (decide))
  refine W.p O.pkB ?_
  refine W.p O.mv ?_
  refine W.p O.mv ?_
  refine W.p O.mv ?_
  refine W.p O.len ?_
  refine W.p O.eqI ?_
  first | (refine WL.kn (v := true) (by rfl) ?_ ?_; focus (decide)) | (refine WL.kn (v := false) (by rfl) ?_ ?_; focus (decide))
  refine W.p O.pkB ?_
  refine W.p O.mv ?_
  refine W.p O.mv ?_
  refine W.q (O.call ⟨rfl, rfl⟩ (AV.cons (vs rfl) (AV.nil)) (fun _ w hw => law0_Num _ w)) ?_
  refine W.p O.eqI ?_
  first | (refine WL.kn (v := true) (by rfl) ?_ ?_; focus (decide)) | (refine WL.kn (v := false) (by rfl) ?_ ?_; focus (decide))
  refine W.p O.pkB ?_
  refine W.p O.mv ?_
  refine W.p O.mv ?_
  refine W.p O.eqS ?_
  first | (refine WL.kn (v := true) (by rfl) ?_ ?_; focus (decide)) | (refine WL.kn (v := false) (by rfl) ?_ ?_; focus (decide))
  refine W.p O.pkB ?_
  refine W.p O.mv ?_
  refine W.p O.mv ?_
  refine W.q (O.call ⟨rfl, rfl⟩ (AV.cons (vs rfl) (AV.nil)) (fun _ w hw => law0_Num _ w)) ?_
  refine W.p O.eqI ?_
  first | (refine WL.kn (v := true) (by rfl) ?_ ?_; focus (decide)) | (refine WL.kn (v := false) (by rfl) ?_ ?_; focus (decide))
  refine W.p O.pkB ?_
  refine W.p O.mv ?_
  first | refine W.p O.fb ?_ | refine W.p O.fa ?_
  refine W.p O.ld ?_
  refine W.p O.eqS ?_
  first | (refine WL.kn (v := true) (by rfl) ?_ ?_; focus (decide)) | (refine WL.kn (v := false) (by rfl) ?_ ?_; focus (decide))
  refine W.p O.pkB ?_
  refine W.p O.mv ?_
  refine W.p O.mv ?_
  refine W.q (O.call ⟨rfl, rfl⟩ (AV.cons (vs rfl) (AV.nil)) (fun _ w hw => law0_Num _ w)) ?_
  refine W.p O.eqI ?_
  first | (refine WL.kn (v := true) (by rfl) ?_ ?_; focus (decide)) | (refine WL.kn (v := false) (by rfl) ?_ ?_; focus (decide))
  refine W.p O.pkB ?_
  refine W.p O.mv ?_
  refine W.p O.mv ?_
  refine W.q (O.call ⟨rfl, rfl⟩ (AV.cons (vs rfl) (AV.nil)) (fun _ w hw => law0_Num _ w)) ?_
  refine W.p O.eqI ?_
  first | (refine WL.kn (v := true) (by rfl) ?_ ?_; focus (decide)) | (refine WL.kn (v := false) (by rfl) ?_ ?_; focus (decide))
  refine W.p O.pkB ?_
  refine W.p O.mv ?_
  refine W.p O.mv ?_
  refine W.q (O.call ⟨rfl, rfl⟩ (AV.cons (vs rfl) (AV.nil)) (fun _ w hw => law0_Num _ w)) ?_
  refine W.p O.eqI ?_
  first | (refine WL.kn (v := true) (by rfl) ?_ ?_; focus (decide)) | (refine WL.kn (v := false) (by rfl) ?_ ?_; focus (decide))
  refine W.p O.pkB ?_
  refine W.p O.mv ?_
  refine W.p O.lds ?_
  refine W.q (O.call ⟨rfl, rfl⟩ (AV.cons (vs rfl) (AV.nil)) (fun _ w hw => rr_May (⟨[97, 46, 108, 97, 110], 1, 60, 167772162, [], [], 0⟩ : RR) w (by decide) (by decide))) ?_
  first | (refine WL.kn (v := true) (by rfl) ?_ ?_; focus (decide)) | (refine WL.kn (v := false) (by rfl) ?_ ?_; focus (decide))
  refine W.p O.pkB ?_
  refine W.p O.as ?_
  refine WL.nil (Q.tn ?_)
  refine CW.ret ?_
  refine ⟨_, [], (RVs.tmp rfl RVs.nil), List.nil_sublist _, ?_⟩
  exact ⟨rfl, rfl⟩
set_option maxRecDepth 100000 in
theorem law4_Rrs (at_ : Int) (ks : List Kn) (a : Option Addr) (c : Nat) (r : RR) (s : List UInt8) (w : World) (h : In w a (ks.flatMap encK)) (ha : -9223372036854775808 ≤ at_ ∧ at_ ≤ 9223372036854775807) (h1 : ks.length ≤ 1048576) (hk : ∀ k ∈ ks, k.name.length ≤ 1048576) (h2 : r.name.length ≤ 1048576) (h3 : r.target.length ≤ 1048576) (h4 : s.length ≤ 1048576) : Fn Try.prog 24 [.int .i64 at_, .slice a ks.length c, vR r, .string (S s)] w [] fun v L' => v = .bool true ∧ L' = [] := by
  have row := Row.ofE h
  have hm : (rrPut at_ ks r).2.1.length ≤ ks.length + 1000 := rrPut_ks at_ ks r
  refine Fn.enter Try.func24 rfl rfl rfl rfl (Holds.nil w) ?_
  refine CW.seq ?_
  refine CW.region ?_
  refine W.bx rfl (vt rfl) rfl fun b1 => ?_
  refine W.p O.as ?_
  refine WL.nil (Q.tn ?_)
  refine CW.seq ?_
  refine CW.region ?_
  refine W.p O.mv ?_
  refine W.callN (first := []) (cap := []) rfl (vt rfl) (AV.cons (vt rfl) (AV.nil)) (fun w hu => lendKnowns _ _ _ w (RowL.h _ hu) (by omega)) ?_; rintro _ _ ⟨bl, cl, spl, rfl, okl, rfl⟩; have hcl := okl.2.2; simp only [List.length_append, List.length_cons, List.length_nil] at hcl
  refine W.p O.as ?_
  refine WL.nil (Q.tn ?_)
  refine CW.seq ?_
  refine CW.region ?_
  refine W.p O.mv ?_
  refine W.p O.mv ?_
  refine W.p O.lds ?_
  refine W.callN (first := []) (cap := []) rfl (vt rfl) (AV.cons (vt rfl) (AV.cons (vt rfl) (AV.cons (vt rfl) (AV.nil)))) (fun w hu => rr_Put at_ ks r _ _ w (In.cutPre hu) ha (by omega) (fun k hk' => by have := hk k hk'; omega) (by omega) (by omega)) ?_; rintro _ _ ⟨o11, c11, sp11, rfl, ok11, rfl⟩; have nk11 := ok11.nk
  refine W.p O.mv ?_
  first | refine W.p O.extL ?_ | refine W.p O.ext ?_
  first | refine W.p O.extL ?_ | refine W.p O.ext ?_
  first | refine W.p O.extL ?_ | refine W.p O.ext ?_
  refine W.p O.as ?_
  refine W.p O.as ?_
  refine W.p O.as ?_
  refine WL.nil (Q.tn ?_)
  refine CW.seq ?_
  refine CW.region ?_
  refine W.p O.mv ?_
  refine W.p O.mv ?_
  refine W.p O.lds ?_
  refine W.callN (first := []) (cap := []) rfl (vt rfl) (AV.cons (vt rfl) (AV.cons (vt rfl) (AV.cons (vt rfl) (AV.nil)))) (fun w hu => ref_PutRr at_ ks r _ _ w (RowL.h _ hu) (by omega) (fun k hk' => by have := hk k hk'; omega) (by omega) (by omega)) ?_; rintro _ _ ⟨o12, c12, sp12, rfl, ok12, rfl⟩; have nk12 := ok12.nk
  refine W.p O.mv ?_
  first | refine W.p O.extL ?_ | refine W.p O.ext ?_
  first | refine W.p O.extL ?_ | refine W.p O.ext ?_
  first | refine W.p O.extL ?_ | refine W.p O.ext ?_
  refine W.p O.as ?_
  refine W.p O.as ?_
  refine W.p O.as ?_
  refine WL.nil (Q.tn ?_)
  refine CW.seq ?_
  refine CW.region ?_
  refine W.p O.mv ?_
  refine W.p O.mv ?_
  refine W.q (O.call ⟨rfl, rfl⟩ (AV.cons (vt rfl) (AV.cons (vt rfl) (AV.nil))) (fun _ w hw => rr_Get s at_ w (by omega))) ?_
  refine W.p O.mv ?_
  first | refine W.p O.extL ?_ | refine W.p O.ext ?_
  first | refine W.p O.extL ?_ | refine W.p O.ext ?_
  first | refine W.p O.extL ?_ | refine W.p O.ext ?_
  refine W.al rfl rfl fun b2 => ?_
  refine W.st (vt rfl) (vt rfl) rfl ?_
  refine W.p O.as ?_
  refine W.p O.as ?_
  refine WL.nil (Q.tn ?_)
  refine CW.seq ?_
  refine CW.region ?_
  refine W.p O.mv ?_
  refine W.p O.mv ?_
  refine W.q (O.call ⟨rfl, rfl⟩ (AV.cons (vt rfl) (AV.cons (vt rfl) (AV.nil))) (fun _ w hw => ref_GetRr s at_ w (by omega))) ?_
  refine W.p O.mv ?_
  first | refine W.p O.extL ?_ | refine W.p O.ext ?_
  first | refine W.p O.extL ?_ | refine W.p O.ext ?_
  first | refine W.p O.extL ?_ | refine W.p O.ext ?_
  refine W.al rfl rfl fun b3 => ?_
  refine W.st (vt rfl) (vt rfl) rfl ?_
  refine W.p O.as ?_
  refine W.p O.as ?_
  refine WL.nil (Q.tn ?_)
  refine CW.seq ?_
  refine CW.seq ?_
  refine CW.draw 38 rfl (by kernel_rfl) ?_
  refine WQ.p O.mv ?_
  refine WQ.p O.mv ?_
  refine WQ.p O.neS ?_
  refine WQ.p O.mv ?_
  refine WQ.p O.mv ?_
  refine WQ.p O.mv ?_
  refine WQ.q (O.call ⟨rfl, rfl⟩ (AV.cons (vs rfl) (AV.cons (vs rfl) (AV.nil))) (fun _ w hw => sameKnowns _ _ _ _ _ _ w (RowL.h _ hw) (RowL.h _ hw) (by omega))) ?_
  refine WQ.p O.nt ?_
  refine WQ.p O.pkB ?_
  refine WQ.p O.mv ?_
  refine WQ.p O.mv ?_
  refine WQ.q (O.call ⟨rfl, rfl⟩ (AV.cons (vs rfl) (AV.nil)) (fun _ w hw => law0_Num _ w)) ?_
  refine WQ.p O.mv ?_
  refine WQ.p O.neI ?_
  refine WQ.p O.pkB ?_
  refine WQ.p O.mv ?_
  refine WQ.p O.lds ?_
  refine WQ.p O.lds ?_
  refine WQ.p O.neT ?_
  refine WQ.p O.pkB ?_
  refine WQ.p O.mv ?_
  refine WQ.p O.mv ?_
  refine WQ.p O.mv ?_
  refine WQ.p O.neI ?_
  refine WQ.p O.pkB ?_
  refine WQ.p O.mv ?_
  refine WQ.p O.mv ?_
  refine WQ.q (O.call ⟨rfl, rfl⟩ (AV.cons (vs rfl) (AV.nil)) (fun _ w hw => law0_Num _ w)) ?_
  refine WQ.p O.mv ?_
  refine WQ.p O.neI ?_
  refine WQ.p O.pkB ?_
  refine WQ.p O.mv ?_
  refine WQ.p O.lds ?_
  refine WQ.q (O.call ⟨rfl, rfl⟩ (AV.cons (vs rfl) (AV.nil)) (fun _ w hw => rr_May r w (by omega) (by omega))) ?_
  refine WQ.p O.lds ?_
  refine WQ.q (O.call ⟨rfl, rfl⟩ (AV.cons (vs rfl) (AV.nil)) (fun _ w hw => ref_RrMay r w (by omega) (by omega))) ?_
  refine WQ.p O.neB ?_
  refine WQ.p O.pkB ?_
  refine WQ.nil ?_
  refine WL.nil (Q.tn ?_)
  refine CW.cond (vt rfl) (fun hc1 => ?_) (fun hc1 => ?_)
  · exfalso; simp at hc1
  try simp only [Bool.cond_true_left, Bool.cond_false_right, Bool.or_eq_true, Bool.or_eq_false_iff, Bool.and_eq_true, Bool.and_eq_false_iff, decide_eq_true_eq, decide_eq_false_iff_not, Bool.not_eq_true', Bool.not_eq_false'] at hc1
  refine CW.skip (Q.tn ?_)
  refine CW.seq ?_
  refine CW.region ?_
  refine W.p O.mv ?_
  refine W.callS (first := []) (cap := []) _ rfl (vt rfl) (AV.cons (vt rfl) (AV.nil)) (fun w hu hh => spoilKnowns _ o11 c11 sp11 w ok11 hh (by omega)) ?_; rintro _ _ ⟨ys, hys, rfl⟩
  refine WL.nil (Q.tn ?_)
  refine CW.seq ?_
  refine CW.region ?_
  refine W.p O.mv ?_
  refine W.p O.mv ?_
  refine W.q (O.call ⟨rfl, rfl⟩ (AV.cons (vt rfl) (AV.cons (vt rfl) (AV.nil))) (fun _ w hw => keptKnowns ks bl _ _ _ w (RowL.h _ hw) (RowL.h _ hw) (by omega) (by omega))) ?_
  first | (refine WL.kn (v := true) (by rfl) ?_ ?_; focus (simp; done)) | (refine WL.kn (v := false) (by rfl) ?_ ?_; focus (simp; done))
  refine W.p O.mv ?_
  refine W.q (O.call ⟨rfl, rfl⟩ (AV.nil) (fun _ w hw => law4_awake w)) ?_
  first | (refine WL.kn (v := true) (by rfl) ?_ ?_; focus (simp; done)) | (refine WL.kn (v := false) (by rfl) ?_ ?_; focus (simp; done))
  refine W.p O.pkB ?_
  refine W.p O.as ?_
  refine WL.nil (Q.tn ?_)
  refine CW.ret ?_
  refine ⟨_, [], (RVs.tmp rfl RVs.nil), List.nil_sublist _, ?_⟩
  exact ⟨rfl, rfl⟩
set_option maxRecDepth 100000 in
theorem law4_RrCut (r : RR) (cut : Int) (behind : List UInt8) (w : World) (h2 : r.name.length ≤ 1048576) (h3 : r.target.length ≤ 1048576) (h4 : behind.length ≤ 1048576) : Fn Try.prog 27 [vR r, .int .i64 cut, .string (S behind)] w [] fun v L' => v = .bool true ∧ L' = [] := by
  have hm : (rrPut 0 [] r).1.length ≤ 1084 := rrPut_len r
  refine Fn.enter Try.func27 rfl rfl rfl rfl (Holds.nil w) ?_
  refine CW.seq ?_
  refine CW.region ?_
  refine W.bx rfl (vt rfl) rfl fun b1 => ?_
  refine W.p O.as ?_
  refine WL.nil (Q.tn ?_)
  refine CW.seq ?_
  refine CW.seq ?_
  refine CW.region ?_
  refine W.q (O.call ⟨rfl, rfl⟩ (AV.nil) (fun _ w hw => law4_awake w)) ?_
  refine W.p O.nt ?_
  refine WL.nil (Q.tn ?_)
  refine CW.cond (vt rfl) (fun hc1 => ?_) (fun hc1 => ?_)
  · exact absurd hc1 (by decide)
  try simp only [Bool.cond_true_left, Bool.cond_false_right, Bool.or_eq_true, Bool.or_eq_false_iff, Bool.and_eq_true, Bool.and_eq_false_iff, decide_eq_true_eq, decide_eq_false_iff_not, Bool.not_eq_true', Bool.not_eq_false'] at hc1
  refine CW.skip (Q.tn ?_)
  refine CW.seq ?_
  refine CW.region ?_
  refine W.p O.lds ?_
  refine W.callN (first := []) (cap := []) rfl (vt rfl) (AV.cons (vt rfl) (AV.cons (vt rfl) (AV.cons (vt rfl) (AV.nil)))) (fun w hu => rr_Put 0 [] r none 0 w In.nil (by decide) (by decide) (by simp) (by omega) (by omega)) ?_; rintro _ _ ⟨o11, c11, sp11, rfl, ok11, rfl⟩; have nk11 := ok11.nk
  refine W.p O.mv ?_
  first | refine W.p O.extL ?_ | refine W.p O.ext ?_
  first | refine W.p O.extL ?_ | refine W.p O.ext ?_
  first | refine W.p O.extL ?_ | refine W.p O.ext ?_
  refine W.p O.as ?_
  refine W.p O.as ?_
  refine W.p O.as ?_
  refine WL.nil (Q.tn ?_)
  refine CW.seq ?_
  refine CW.seq ?_
  refine CW.region ?_
  refine W.p O.mv ?_
  refine W.q (O.call ⟨rfl, rfl⟩ (AV.cons (vt rfl) (AV.nil)) (fun _ w hw => law0_Num _ w)) ?_
  refine W.p O.neI ?_
  refine W.p O.mv ?_
  refine W.p O.mv ?_
  refine W.p O.len ?_
  refine W.p O.lss ?_
  refine W.p O.pkB ?_
  refine WL.nil (Q.tn ?_)
  refine CW.cond (vt rfl) (fun hc2 => ?_) (fun hc2 => ?_)
  · try simp only [Bool.cond_true_left, Bool.cond_false_right, Bool.or_eq_true, Bool.or_eq_false_iff, Bool.and_eq_true, Bool.and_eq_false_iff, decide_eq_true_eq, decide_eq_false_iff_not, Bool.not_eq_true', Bool.not_eq_false'] at hc2
    refine CW.seq ?_
    refine CW.region ?_
    refine W.p O.mv ?_
    refine W.p O.eqS ?_
    refine W.p O.as ?_
    refine WL.nil (Q.tn ?_)
    refine CW.ret (Q.tr ?_)
    refine ⟨_, [], (RVs.tmp rfl RVs.nil), List.nil_sublist _, ?_⟩
    refine ⟨?_, rfl⟩
    have e : (rrPut 0 [] r).1 = [] := by rcases hc2 with h | h; (rw [rrPut_non h]); exact List.eq_nil_of_length_eq_zero (by omega)
    rw [e]; rfl
  try simp only [Bool.cond_true_left, Bool.cond_false_right, Bool.or_eq_true, Bool.or_eq_false_iff, Bool.and_eq_true, Bool.and_eq_false_iff, decide_eq_true_eq, decide_eq_false_iff_not, Bool.not_eq_true', Bool.not_eq_false'] at hc2
  have hlen : 1 ≤ (rrPut 0 [] r).1.length := by omega
  have hk0 := Int.emod_nonneg (cut % 18446744073709551616) (show ((rrPut 0 [] r).1.length : Int) % 18446744073709551616 ≠ 0 by omega)
  have hk1 := Int.emod_lt_of_pos (cut % 18446744073709551616) (show 0 < ((rrPut 0 [] r).1.length : Int) % 18446744073709551616 by omega)
  have hkk : IntKind.i64.wrap (cut % 18446744073709551616 % (((rrPut 0 [] r).1.length : Int) % 18446744073709551616)) = cut % 18446744073709551616 % (((rrPut 0 [] r).1.length : Int) % 18446744073709551616) := wrap_in _ (by omega)
  refine CW.skip (Q.tn ?_)
  refine CW.seq ?_
  refine CW.region ?_
  refine W.p O.mv ?_
  refine W.p O.cvUn ?_
  refine W.p O.mv ?_
  refine W.p O.len ?_
  refine W.p O.cvUn ?_
  refine W.p O.rem ?_
  first | refine W.p O.cvN ?_ | refine W.p O.cv ?_
  refine W.p O.as ?_
  refine WL.nil (Q.tn ?_)
  refine CW.seq ?_
  refine CW.region ?_
  refine W.p O.mv ?_
  refine W.p O.mv ?_
  refine W.p O.slcH ?_
  refine W.q (O.call ⟨rfl, rfl⟩ (AV.cons (vt rfl) (AV.cons (vt rfl) (AV.nil))) (fun _ w hw => rr_Get _ _ w (by first | (rw [List.length_take]; omega) | (rw [List.length_append]; omega)))) ?_
  refine W.p O.mv ?_
  first | refine W.p O.extL ?_ | refine W.p O.ext ?_
  first | refine W.p O.extL ?_ | refine W.p O.ext ?_
  first | refine W.p O.extL ?_ | refine W.p O.ext ?_
  refine W.al rfl rfl fun b2 => ?_
  refine W.st (vt rfl) (vt rfl) rfl ?_
  refine W.p O.as ?_
  refine W.p O.as ?_
  refine WL.nil (Q.tn ?_)
  refine CW.seq ?_
  refine CW.region ?_
  refine W.p O.mv ?_
  refine W.p O.mv ?_
  refine W.p O.addS ?_
  refine W.q (O.call ⟨rfl, rfl⟩ (AV.cons (vt rfl) (AV.cons (vt rfl) (AV.nil))) (fun _ w hw => rr_Get _ _ w (by first | (rw [List.length_take]; omega) | (rw [List.length_append]; omega)))) ?_
  refine W.p O.mv ?_
  first | refine W.p O.extL ?_ | refine W.p O.ext ?_
  first | refine W.p O.extL ?_ | refine W.p O.ext ?_
  first | refine W.p O.extL ?_ | refine W.p O.ext ?_
  refine W.al rfl rfl fun b3 => ?_
  refine W.st (vt rfl) (vt rfl) rfl ?_
  refine W.p O.as ?_
  refine W.p O.as ?_
  refine WL.nil (Q.tn ?_)
  refine CW.seq ?_
  refine CW.region ?_
  refine W.p O.mv ?_
  refine W.q (O.call ⟨rfl, rfl⟩ (AV.cons (vt rfl) (AV.nil)) (fun _ w hw => law0_Num _ w)) ?_
  refine W.p O.eqI ?_
  refine W.p O.mv ?_
  refine W.p O.lds ?_
  refine W.p O.lds ?_
  refine W.p O.eqT ?_
  refine W.p O.pkB ?_
  refine W.p O.mv ?_
  refine W.p O.mv ?_
  refine W.p O.mv ?_
  refine W.p O.len ?_
  refine W.p O.eqI ?_
  refine W.p O.pkB ?_
  refine W.p O.mv ?_
  refine W.p O.mv ?_
  refine W.q (O.call ⟨rfl, rfl⟩ (AV.cons (vs rfl) (AV.nil)) (fun _ w hw => law0_Num _ w)) ?_
  refine W.p O.eqI ?_
  refine W.p O.pkB ?_
  refine W.p O.as ?_
  refine WL.nil (Q.tn ?_)
  refine CW.ret ?_
  refine ⟨_, [], (RVs.tmp rfl RVs.nil), List.nil_sublist _, ?_⟩
  refine ⟨?_, rfl⟩
  rw [rr_cut hc2.1 (by omega), rr_more hc2.1 behind]
  simp [oneOr]
set_option maxRecDepth 100000 in
theorem law4_RrUnlike (a b : RR) (w : World) (h1 : a.name.length ≤ 1048576) (h2 : a.target.length ≤ 1048576) (h3 : b.name.length ≤ 1048576) (h4 : b.target.length ≤ 1048576) : Fn Try.prog 28 [vR a, vR b] w [] fun v L' => v = .bool true ∧ L' = [] := by
  refine Fn.enter Try.func28 rfl rfl rfl rfl (Holds.nil w) ?_
  refine CW.seq ?_
  refine CW.region ?_
  refine W.bx rfl (vt rfl) rfl fun b1 => ?_
  refine W.bx rfl (vt rfl) rfl fun b2 => ?_
  refine W.p O.as ?_
  refine WL.nil (Q.tn ?_)
  refine CW.seq ?_
  refine CW.seq ?_
  refine CW.region ?_
  refine W.q (O.call ⟨rfl, rfl⟩ (AV.nil) (fun _ w hw => law4_awake w)) ?_
  refine W.p O.nt ?_
  refine WL.nil (Q.tn ?_)
  refine CW.cond (vt rfl) (fun hc1 => ?_) (fun hc1 => ?_)
  · exact absurd hc1 (by decide)
  try simp only [Bool.cond_true_left, Bool.cond_false_right, Bool.or_eq_true, Bool.or_eq_false_iff, Bool.and_eq_true, Bool.and_eq_false_iff, decide_eq_true_eq, decide_eq_false_iff_not, Bool.not_eq_true', Bool.not_eq_false'] at hc1
  refine CW.skip (Q.tn ?_)
  refine CW.seq ?_
  refine CW.region ?_
  refine W.p O.lds ?_
  refine W.callN (first := []) (cap := []) rfl (vt rfl) (AV.cons (vt rfl) (AV.cons (vt rfl) (AV.cons (vt rfl) (AV.nil)))) (fun w hu => rr_Put 0 [] a none 0 w In.nil (by decide) (by decide) (by simp) (by omega) (by omega)) ?_; rintro _ _ ⟨o11, c11, sp11, rfl, ok11, rfl⟩; have nk11 := ok11.nk
  refine W.p O.mv ?_
  first | refine W.p O.extL ?_ | refine W.p O.ext ?_
  first | refine W.p O.extL ?_ | refine W.p O.ext ?_
  first | refine W.p O.extL ?_ | refine W.p O.ext ?_
  refine W.p O.as ?_
  refine W.p O.as ?_
  refine W.p O.as ?_
  refine WL.nil (Q.tn ?_)
  refine CW.seq ?_
  refine CW.region ?_
  refine W.p O.lds ?_
  refine W.callN (first := []) (cap := []) rfl (vt rfl) (AV.cons (vt rfl) (AV.cons (vt rfl) (AV.cons (vt rfl) (AV.nil)))) (fun w hu => rr_Put 0 [] b none 0 w In.nil (by decide) (by decide) (by simp) (by omega) (by omega)) ?_; rintro _ _ ⟨o12, c12, sp12, rfl, ok12, rfl⟩; have nk12 := ok12.nk
  refine W.p O.mv ?_
  first | refine W.p O.extL ?_ | refine W.p O.ext ?_
  first | refine W.p O.extL ?_ | refine W.p O.ext ?_
  first | refine W.p O.extL ?_ | refine W.p O.ext ?_
  refine W.p O.as ?_
  refine W.p O.as ?_
  refine W.p O.as ?_
  refine WL.nil (Q.tn ?_)
  refine CW.seq ?_
  refine CW.seq ?_
  refine CW.region ?_
  refine W.p O.mv ?_
  refine W.q (O.call ⟨rfl, rfl⟩ (AV.cons (vt rfl) (AV.nil)) (fun _ w hw => law0_Num _ w)) ?_
  refine W.p O.neI ?_
  refine W.p O.mv ?_
  refine W.p O.mv ?_
  refine W.q (O.call ⟨rfl, rfl⟩ (AV.cons (vs rfl) (AV.nil)) (fun _ w hw => law0_Num _ w)) ?_
  refine W.p O.neI ?_
  refine W.p O.pkB ?_
  refine WL.nil (Q.tn ?_)
  refine CW.cond (vt rfl) (fun hc2 => ?_) (fun hc2 => ?_)
  · try simp only [Bool.cond_true_left, Bool.cond_false_right, Bool.or_eq_true, Bool.or_eq_false_iff, Bool.and_eq_true, Bool.and_eq_false_iff, decide_eq_true_eq, decide_eq_false_iff_not, Bool.not_eq_true', Bool.not_eq_false'] at hc2
    refine CW.seq ?_
    refine CW.region ?_
    refine W.p O.mv ?_
    refine W.q (O.call ⟨rfl, rfl⟩ (AV.cons (vt rfl) (AV.nil)) (fun _ w hw => law0_Num _ w)) ?_
    refine W.p O.eqI ?_
    refine W.p O.mv ?_
    refine W.p O.mv ?_
    refine W.p O.eqS ?_
    refine W.p O.pkB ?_
    refine W.p O.mv ?_
    refine W.p O.mv ?_
    refine W.q (O.call ⟨rfl, rfl⟩ (AV.cons (vs rfl) (AV.nil)) (fun _ w hw => law0_Num _ w)) ?_
    refine W.p O.eqI ?_
    refine W.p O.mv ?_
    refine W.p O.mv ?_
    refine W.p O.eqS ?_
    refine W.p O.pkB ?_
    refine W.p O.pkB ?_
    refine W.p O.as ?_
    refine WL.nil (Q.tn ?_)
    refine CW.ret (Q.tr ?_)
    refine ⟨_, [], (RVs.tmp rfl RVs.nil), List.nil_sublist _, ?_⟩
    refine ⟨?_, rfl⟩
    by_cases ha : (rrPut 0 [] a).2.2 = 0 <;> by_cases hb : (rrPut 0 [] b).2.2 = 0
    · exfalso; rcases hc2 with h | h; exact h ha; exact h hb
    · simp [ha, hb, rrPut_non hb, oneOr]
    · simp [ha, hb, rrPut_non ha, oneOr]
    · simp [ha, hb, rrPut_non ha, rrPut_non hb, oneOr]
  try simp only [Bool.cond_true_left, Bool.cond_false_right, Bool.or_eq_true, Bool.or_eq_false_iff, Bool.and_eq_true, Bool.and_eq_false_iff, decide_eq_true_eq, decide_eq_false_iff_not, Bool.not_eq_true', Bool.not_eq_false'] at hc2
  refine CW.skip (Q.tn ?_)
  refine CW.seq ?_
  refine CW.region ?_
  refine W.p O.mv ?_
  refine W.p O.mv ?_
  refine W.p O.eqS ?_
  refine W.p O.lds ?_
  refine W.p O.lds ?_
  refine W.p O.eqT ?_
  refine W.p O.eqB ?_
  refine W.p O.as ?_
  refine WL.nil (Q.tn ?_)
  refine CW.ret ?_
  refine ⟨_, [], (RVs.tmp rfl RVs.nil), List.nil_sublist _, ?_⟩
  refine ⟨?_, rfl⟩
  have hu := rr_unlike hc2.1 hc2.2
  rw [rr_eqb, hu]; cases decide (a = b) <;> rfl
end Go.Proofs.Ytkjcmdgideddnaa
