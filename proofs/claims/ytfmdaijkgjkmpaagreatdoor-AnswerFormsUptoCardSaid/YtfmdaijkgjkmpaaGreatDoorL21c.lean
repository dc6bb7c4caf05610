/- The statement AnswerForms: its walk. Condition: the library's table of powers of ten is as its text lays it. -/
import Derived.Test.YtfmdaijkgjkmpaaGreatDoorL21
set_option linter.unusedVariables false
set_option linter.unusedSimpArgs false
namespace Go.Proofs.YtfmdaijkgjkmpaaGreatDoor
open Go Go.RowKit
theorem fT_sz {i : Int} (i0 : 0 ≤ i) (i1 : i < 8) : (fT.getD i.toNat []).length ≤ 30 ∧ (ansP givC [] 0 1 (fT.getD i.toNat [])).1.length ≤ 100 := by
 have key : ∀ i : Fin 8, (fT.getD i.val []).length ≤ 30 ∧ (ansP givC [] 0 1 (fT.getD i.val [])).1.length ≤ 100 := by decide +kernel
 exact key ⟨i.toNat, by omega⟩
theorem fOk_neg {i : Int} (i0 : 0 ≤ i) (i1 : i < 8) (h : fW.getD i.toNat 0 < 0) : ansP givC [] 0 1 (fT.getD i.toNat []) = ([], false, 0) := by
 have k : fOk i.toNat = true := forms_f ⟨i.toNat, by omega⟩
 unfold fOk at k; rw [if_pos h] at k; exact of_decide_eq_true k
theorem fOk_pos {i : Int} (i0 : 0 ≤ i) (i1 : i < 8) (h : ¬ fW.getD i.toNat 0 < 0) : (ansP givC [] 0 1 (fT.getD i.toNat [])).2.1 = true ∧ (ansP givC [] 0 1 (fT.getD i.toNat [])).2.2 = 0 ∧ (dnGet (ansP givC [] 0 1 (fT.getD i.toNat [])).1).2 = 0 ∧ (dnGet (ansP givC [] 0 1 (fT.getD i.toNat [])).1).1.id = 7 ∧ (dnGet (ansP givC [] 0 1 (fT.getD i.toNat [])).1).1.resp = true ∧ (dnGet (ansP givC [] 0 1 (fT.getD i.toNat [])).1).1.code = fW.getD i.toNat 0 ∧ (dnGet (ansP givC [] 0 1 (fT.getD i.toNat [])).1).1.auth = false ∧ (dnGet (ansP givC [] 0 1 (fT.getD i.toNat [])).1).1.an = [] ∧ (dnGet (ansP givC [] 0 1 (fT.getD i.toNat [])).1).1.se = [] := by
 have k : fOk i.toNat = true := forms_f ⟨i.toNat, by omega⟩
 unfold fOk at k; rw [if_neg h] at k
 simp only [Bool.and_eq_true, decide_eq_true_eq, Bool.not_eq_true'] at k
 obtain ⟨⟨⟨⟨⟨⟨⟨⟨a, b⟩, c⟩, d⟩, e⟩, f⟩, g⟩, h⟩, j⟩ := k
 exact ⟨a, b, c, d, e, f, g, h, j⟩
set_option maxHeartbeats 2000000 in
set_option maxRecDepth 100000 in
theorem law21_AnswerForms (which : Int) (w : World) (ht : Tab10 w) : Fn Tryz.prog 5 [.int .i64 which] w [] fun v L' => v = .bool true ∧ L' = [] := by
 obtain ⟨hz1, hz2⟩ := fT_sz (i := (which % 18446744073709551616 % 8)) (by omega) (by omega)
 have htl : fT.length = 8 := rfl
 have hwl : fW.length = 8 := rfl
 refine Fn.enter Tryz.func5 rfl rfl rfl rfl (Holds.nil w) ?_
 refine W.go ?_
 refine W.q (O.call ⟨rfl, rfl⟩ (AV.nil) (fun _ w hw => law21_awake w (ht.upd hw))) ?_
 refine W.go ?_
 refine CW.cond (vt rfl) (fun hc1 => ?_) (fun hc1 => ?_)
 ·exfalso; simp at hc1
 try simp only [sk] at hc1
 refine W.go ?_
 refine W.callN (first := []) (cap := []) rfl (vt rfl) (AV.nil) (fun w hu => law21_given w) ?_; rintro _ _ ⟨g1, g2, g3, rfl, rfl⟩
 refine W.al rfl rfl fun b1 => ?_
 refine W.st (vt rfl) (vt rfl) rfl ?_
 refine W.go ?_
 refine CW.draw 17 rfl (by kernel_rfl) ?_
 refine WQ.p O.mv ?_
 refine WQ.p O.slcH ?_
 refine WQ.p O.mv ?_
 refine WQ.p O.slcL ?_
 refine WQ.p O.addS ?_
 refine WQ.p O.mv ?_
 refine WQ.p O.mv ?_
 refine WQ.p O.slcH ?_
 refine WQ.p O.addS ?_
 refine WQ.p O.mv ?_
 refine WQ.p O.slcL ?_
 refine WQ.p O.addS ?_
 refine WQ.p O.mv ?_
 refine WQ.p O.addS ?_
 refine WQ.p O.mv ?_
 refine WQ.p O.slcL ?_
 refine WQ.p O.addS ?_
 refine WQ.nil ?_
 refine W.bs encS fT rfl (PV.cons (vt rfl) (PV.cons (vt rfl) (PV.cons (vt rfl) (PV.cons (vt rfl) (PV.cons (vt rfl) (PV.cons (vt rfl) (PV.cons (vt rfl) (PV.cons (vt rfl) (PV.nil))))))))) rfl rfl rfl (by decide) rfl fun b2 => ?_
 refine W.p O.as ?_
 refine WL.nil (Q.tn ?_)
 refine CW.seq ?_
 refine CW.region ?_
 refine W.bs encI fW rfl (PV.cons (vt rfl) (PV.cons (vt rfl) (PV.cons (vt rfl) (PV.cons (vt rfl) (PV.cons (vt rfl) (PV.cons (vt rfl) (PV.cons (vt rfl) (PV.cons (vt rfl) (PV.nil))))))))) rfl rfl rfl (by decide) rfl fun b3 => ?_
 refine W.go ?_
 refine W.p O.cvUn ?_
 refine W.p O.rem ?_
 first | refine W.p O.cvN ?_ | refine W.p O.cv ?_
 refine W.go ?_
 refine CW.draw 13 rfl (by kernel_rfl) ?_
 refine WQ.p O.lds ?_
 refine WQ.p O.mv ?_
 refine WQ.p O.mv ?_
 refine WQ.p O.ixA ?_
 refine WQ.p O.ldE ?_
 refine WQ.q (O.call ⟨rfl, rfl⟩ (AV.cons (vt rfl) (AV.cons (vt rfl) (AV.cons (vt rfl) (AV.cons (vt rfl) (AV.cons (vt rfl) (AV.nil)))))) (fun _ w hw => an_Answer givC (oa (some g1), 1) (oa (some g2), 1) (oa (some g3), 1) [] none 0 0 1 (fT.getD (which % 18446744073709551616 % 8).toNat []) w (CfIn.mk (RowL.h (enc := encI) (xs := givC.excl) (a := oa (some g1)) _ hw) (RowL.h (enc := encRs) (xs := givC.resv) (a := oa (some g2)) _ hw) (RowL.h (enc := encR) (xs := givC.stat) (a := oa (some g3)) _ hw)) g21_sz In.nil n21_sz ⟨by decide, by decide⟩ (by omega) (ht.upd hw))) ?_
 refine WQ.p O.mv ?_
 first | refine WQ.p O.extL ?_ | refine WQ.p O.ext ?_
 first | refine WQ.p O.extL ?_ | refine WQ.p O.ext ?_
 first | refine WQ.p O.extL ?_ | refine WQ.p O.ext ?_
 refine WQ.p O.as ?_
 refine WQ.p O.as ?_
 refine WQ.p O.as ?_
 refine WQ.nil ?_
 refine WL.nil (Q.tn ?_)
 refine W.go ?_
 refine CW.cond (vt rfl) (fun hc2 => ?_) (fun hc2 => ?_)
 ·try simp only [sk] at hc2
  refine W.go ?_
  refine W.q (O.call ⟨rfl, rfl⟩ (AV.cons (vs rfl) (AV.nil)) (fun _ w hw => law0_Num _ w)) ?_
  refine W.go ?_
  refine ⟨_, [], (RVs.tmp rfl RVs.nil), List.nil_sublist _, ?_⟩
  refine ⟨congrArg Value.bool ?_, rfl⟩
  rw [fOk_neg (i := (which % 18446744073709551616 % 8)) (by omega) (by omega) hc2]; rfl
 try simp only [sk] at hc2
 refine W.go ?_
 refine W.callN (first := []) (cap := []) rfl (vt rfl) (AV.cons (vt rfl) (AV.nil)) (fun w hu => ref_GetDns (ansP givC [] 0 1 (fT.getD (which % 18446744073709551616 % 8).toNat [])).1 w (by omega)) ?_; rintro _ _ ⟨o41, c41, p41, o42, c42, p42, o43, c43, p43, o44, c44, p44, rfl, ok41, ok42, ok43, ok44, rfl⟩
 refine W.go ?_
 refine W.al rfl rfl fun b4 => ?_
 refine W.st (vt rfl) (vt rfl) rfl ?_
 refine W.go ?_
 refine CW.draw 44 rfl (by kernel_rfl) ?_
 refine WQ.p O.mv ?_
 refine WQ.p O.mv ?_
 refine WQ.p O.mv ?_
 refine WQ.q (O.call ⟨rfl, rfl⟩ (AV.cons (vs rfl) (AV.nil)) (fun _ w hw => law0_Num _ w)) ?_
 refine WQ.p O.eqI ?_
 refine WQ.p O.pkB ?_
 refine WQ.p O.mv ?_
 refine WQ.p O.mv ?_
 refine WQ.p O.eqI ?_
 refine WQ.p O.pkB ?_
 refine WQ.p O.mv ?_
 first | refine WQ.p O.fb ?_ | refine WQ.p O.fa ?_
 refine WQ.p O.ld ?_
 refine WQ.p O.eqI ?_
 refine WQ.p O.pkB ?_
 refine WQ.p O.mv ?_
 first | refine WQ.p O.fb ?_ | refine WQ.p O.fa ?_
 refine WQ.p O.ld ?_
 refine WQ.p O.pkB ?_
 refine WQ.p O.mv ?_
 first | refine WQ.p O.fb ?_ | refine WQ.p O.fa ?_
 refine WQ.p O.ld ?_
 refine WQ.p O.mv ?_
 refine WQ.p O.mv ?_
 refine WQ.p O.ixA ?_
 refine WQ.p O.ldE ?_
 refine WQ.p O.eqI ?_
 refine WQ.p O.pkB ?_
 refine WQ.p O.mv ?_
 first | refine WQ.p O.fb ?_ | refine WQ.p O.fa ?_
 refine WQ.p O.ld ?_
 refine WQ.p O.nt ?_
 refine WQ.p O.pkB ?_
 refine WQ.p O.mv ?_
 first | refine WQ.p O.fb ?_ | refine WQ.p O.fa ?_
 refine WQ.p O.ld ?_
 refine WQ.p O.lenL ?_
 first | refine WQ.p O.fb ?_ | refine WQ.p O.fa ?_
 refine WQ.p O.ld ?_
 refine WQ.p O.lenL ?_
 first | refine WQ.p O.addN ?_ | refine WQ.p O.add ?_
 refine WQ.p O.eqI ?_
 refine WQ.p O.pkB ?_
 refine WQ.p O.as ?_
 refine WQ.nil ?_
 refine WL.nil (Q.tn ?_)
 refine CW.ret ?_
 refine ⟨_, [], (RVs.tmp rfl RVs.nil), List.nil_sublist _, ?_⟩
 refine ⟨congrArg Value.bool ?_, rfl⟩
 obtain ⟨a, b, c, d, e, f, g, h, j⟩ := fOk_pos (i := (which % 18446744073709551616 % 8)) (by omega) (by omega) hc2
 rw [a, b, c, d, e, f, g, h, j]; simp; rfl
end Go.Proofs.YtfmdaijkgjkmpaaGreatDoor
