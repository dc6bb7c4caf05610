/- The statement PacketParts: its walk. Conditions: what comes in is not longer than some millions. -/
import Derived.Test.YtkjcmdgideddnaaL7
import Derived.Test.YtkjcmdgideddnaaPkQ
set_option linter.unusedVariables false
set_option linter.unusedSimpArgs false
namespace Go.Proofs.Ytkjcmdgideddnaa
open Go Go.RowKit
theorem partsW_tt {x y z : List UInt8} {k : Int} (h : ¬ k = 2) (h1 : ¬ k = 1) : partsW x y z k = (x ++ y) ++ z := by rw [partsW, if_pos h1, if_pos h]
theorem partsW_tf {x y z : List UInt8} {k : Int} (h : ¬ k = 2) (h1 : k = 1) : partsW x y z k = x ++ y := by rw [partsW, if_neg (fun e => e h1), if_pos h]
theorem partsW_ft {x y z : List UInt8} {k : Int} (h : k = 2) (h1 : ¬ k = 1) : partsW x y z k = x ++ z := by rw [partsW, if_pos h1, if_neg (fun e => e h)]
theorem partsW_ff {x y z : List UInt8} {k : Int} (h : k = 2) (h1 : k = 1) : partsW x y z k = x := by omega
set_option maxRecDepth 100000 in
theorem law7_one (x : List UInt8) (w : World) (hx : x.length ≤ 20) : Fn Try.prog 65 [.string (S x)] w [] fun v L' => v = .string (S (oneP x)) ∧ L' = [] := by
  refine Fn.enter Try.func65 rfl rfl rfl rfl (Holds.nil w) ?_
  refine CW.seq ?_
  refine CW.region ?_
  refine W.p O.as ?_
  refine WL.nil (Q.tn ?_)
  refine CW.seq ?_
  refine CW.region ?_
  refine W.p O.mv ?_
  refine W.p O.len ?_
  refine W.p O.cvI8 ?_
  refine W.bs encB [_] rfl (PV.cons (vt rfl) (PV.nil)) rfl rfl rfl (by decide) rfl fun b1 => ?_
  refine W.p (O.cvRow ⟨rfl, rfl⟩ (vt rfl) (by first | rfl | omega) (fun _ => ⟨_, rfl⟩)) ?_
  refine W.p O.addS ?_
  refine W.p O.mv ?_
  refine W.p O.addS ?_
  refine W.p O.addS ?_
  refine W.p O.as ?_
  refine WL.nil (Q.tn ?_)
  refine CW.ret ?_
  refine ⟨_, [], (RVs.tmp rfl RVs.nil), List.nil_sublist _, ?_⟩
  exact ⟨rfl, rfl⟩
set_option maxRecDepth 100000 in
set_option maxHeartbeats 8000000 in
theorem law7_PacketParts (a b c : List UInt8) (which : Int) (w : World) (h1 : a.length ≤ 140737488355328) (h2 : b.length ≤ 140737488355328) (h3 : c.length ≤ 140737488355328) : Fn Try.prog 18 [.string (S a), .string (S b), .string (S c), .int .i64 which] w [] fun v L' => v = .bool true ∧ L' = [] := by
  have hX : (a.take (min (a.length : Int) 20).toNat).length ≤ 20 := by rw [List.length_take]; omega
  have hY : (b.take (min (b.length : Int) 20).toNat).length ≤ 20 := by rw [List.length_take]; omega
  have hZ : (c.take (min (c.length : Int) 20).toNat).length ≤ 20 := by rw [List.length_take]; omega
  have lx := oneP_len (a.take (min (a.length : Int) 20).toNat)
  have ly := oneP_len (b.take (min (b.length : Int) 20).toNat)
  have lz := oneP_len (c.take (min (c.length : Int) 20).toNat)
  have lt : (pkPut ⟨1, 0, 0, 0, 0, 0, 0, 0, 0, 0, [], []⟩).1.length = 241 := T1_len
  have hk : 1 ≤ (1 + which % 4 % 3) ∧ (1 + which % 4 % 3) ≤ 3 := by omega
  have hg := parts_get hX hY hZ hk
  refine Fn.enter Try.func18 rfl rfl rfl rfl (Holds.nil w) ?_
  refine CW.seq ?_
  refine CW.region ?_
  refine W.p O.as ?_
  refine WL.nil (Q.tn ?_)
  refine CW.seq ?_
  refine CW.seq ?_
  refine CW.region ?_
  refine W.q (O.call ⟨rfl, rfl⟩ (AV.nil) (fun _ w hw => law7_awake w)) ?_
  refine W.p O.nt ?_
  refine WL.nil (Q.tn ?_)
  refine CW.cond (vt rfl) (fun hc1 => ?_) (fun hc1 => ?_)
  · exact absurd hc1 (by decide)
  try simp only [Bool.cond_true_left, Bool.cond_false_right, Bool.or_eq_true, Bool.or_eq_false_iff, Bool.and_eq_true, Bool.and_eq_false_iff, decide_eq_true_eq, decide_eq_false_iff_not, Bool.not_eq_true', Bool.not_eq_false'] at hc1
  refine CW.skip (Q.tn ?_)
  refine CW.seq ?_
  refine CW.draw 18 rfl (by kernel_rfl) ?_
  refine WQ.p O.mv ?_
  refine WQ.p O.mv ?_
  refine WQ.p O.len ?_
  refine WQ.p O.min ?_
  refine WQ.p O.slcH ?_
  refine WQ.p O.mv ?_
  refine WQ.p O.mv ?_
  refine WQ.p O.len ?_
  refine WQ.p O.min ?_
  refine WQ.p O.slcH ?_
  refine WQ.p O.mv ?_
  refine WQ.p O.mv ?_
  refine WQ.p O.len ?_
  refine WQ.p O.min ?_
  refine WQ.p O.slcH ?_
  refine WQ.p O.as ?_
  refine WQ.p O.as ?_
  refine WQ.p O.as ?_
  refine WQ.nil ?_
  refine WL.nil (Q.tn ?_)
  refine CW.seq ?_
  refine CW.region ?_
  refine W.p (O.bd (hv := PV.cons (vt rfl) (PV.nil))) ?_
  refine W.q (O.call ⟨rfl, rfl⟩ (AV.cons (vt rfl) (AV.nil)) (fun _ w hw => pk_Put ⟨1, 0, 0, 0, 0, 0, 0, 0, 0, 0, [], []⟩ none 0 w In.nil (by decide))) ?_
  refine W.p O.mv ?_
  first | refine W.p O.extL ?_ | refine W.p O.ext ?_
  first | refine W.p O.extL ?_ | refine W.p O.ext ?_
  refine W.p O.as ?_
  refine W.p O.as ?_
  refine WL.nil (Q.tn ?_)
  refine CW.seq ?_
  refine CW.seq ?_
  refine CW.region ?_
  refine W.p O.mv ?_
  refine W.q (O.call ⟨rfl, rfl⟩ (AV.cons (vt rfl) (AV.nil)) (fun _ w hw => law0_Num _ w)) ?_
  refine W.p O.neI ?_
  refine W.p O.mv ?_
  refine W.p O.mv ?_
  refine W.p O.len ?_
  refine W.p O.lss ?_
  refine W.p O.pkB ?_
  refine WL.nil (Q.tn ?_)
  refine CW.cond (vt rfl) (fun hc2 => ?_) (fun hc2 => ?_)
  · exact absurd hc2 (by decide +kernel)
  try simp only [Bool.cond_true_left, Bool.cond_false_right, Bool.or_eq_true, Bool.or_eq_false_iff, Bool.and_eq_true, Bool.and_eq_false_iff, decide_eq_true_eq, decide_eq_false_iff_not, Bool.not_eq_true', Bool.not_eq_false'] at hc2
  refine CW.skip (Q.tn ?_)
  refine CW.seq ?_
  refine CW.region ?_
  refine W.p O.mv ?_
  refine W.p (O.andM 2 4 (h := by decide) (hq := by decide) (hM := by decide)) ?_
  refine W.p O.rem ?_
  first | refine W.p O.addN ?_ | refine W.p O.add ?_
  refine W.p O.as ?_
  refine WL.nil (Q.tn ?_)
  refine CW.seq ?_
  refine CW.region ?_
  refine W.p O.mv ?_
  refine W.q (O.call ⟨rfl, rfl⟩ (AV.cons (vt rfl) (AV.nil)) (fun _ w hw => law7_one (a.take (min (a.length : Int) 20).toNat) w hX)) ?_
  refine W.p O.as ?_
  refine WL.nil (Q.tn ?_)
  refine CW.seq ?_
  refine CW.region ?_
  refine W.p O.mv ?_
  refine W.q (O.call ⟨rfl, rfl⟩ (AV.cons (vt rfl) (AV.nil)) (fun _ w hw => law7_one (b.take (min (b.length : Int) 20).toNat) w hY)) ?_
  refine W.p O.mv ?_
  refine W.q (O.call ⟨rfl, rfl⟩ (AV.cons (vt rfl) (AV.nil)) (fun _ w hw => law7_one (c.take (min (c.length : Int) 20).toNat) w hZ)) ?_
  refine W.p O.as ?_
  refine W.p O.as ?_
  refine WL.nil (Q.tn ?_)
  refine CW.seq ?_
  refine CW.drawHL rfl ?_
  refine RH.qa 0 rfl (O.mv) ?_
  refine RH.qa 1 rfl (O.slcH) ?_
  refine RH.qa 2 rfl (O.mv) ?_
  refine RH.qa 3 rfl (O.addS) ?_
  refine RH.qa 4 rfl (O.mv) ?_
  refine RH.qa 5 rfl (O.mv) ?_
  refine RH.qa 6 rfl (O.len) ?_
  first | refine RH.qa 7 rfl (O.addN) ?_ | refine RH.qa 7 rfl (O.add) ?_
  refine RH.qa 8 rfl (O.slc) ?_
  refine RH.qa 9 rfl (O.addS) ?_
  refine RH.qa 10 rfl (O.mv) ?_
  refine RH.qa 11 rfl (O.addS) ?_
  refine RH.qa 12 rfl (O.mv) ?_
  refine RH.qa 13 rfl (O.mv) ?_
  refine RH.qa 14 rfl (O.len) ?_
  first | refine RH.qa 15 rfl (O.addN) ?_ | refine RH.qa 15 rfl (O.add) ?_
  refine RH.qa 16 rfl (O.slc) ?_
  refine RH.qa 17 rfl (O.addS) ?_
  refine RH.qa 18 rfl (O.addS) ?_
  refine RH.qa 19 rfl (O.mv) ?_
  refine RH.qa 20 rfl (O.cvI8) ?_
  refine RH.qa 24 rfl (O.mv) ?_
  refine RH.one (i := 21) (fun _ _ h => h) (by kernel_rfl) rfl ?_
  refine W.bs encB [_] rfl (PV.cons (vt rfl) (PV.nil)) rfl rfl rfl (by decide) rfl fun b1 => ?_
  refine WL.nilQn ⟨(by repeat (first | exact List.nil_sublist _ | exact List.Sublist.refl _ | exact List.sublist_append_left _ _ | exact List.sublist_append_right _ _ | apply List.Sublist.cons_cons | apply List.Sublist.cons | refine List.Sublist.trans ?_ (List.sublist_append_right _ _))), ?_⟩
  refine RH.one (i := 22) (fun _ _ h => h) (by kernel_rfl) rfl ?_
  refine W.p (O.cvRow ⟨rfl, rfl⟩ (vt rfl) (by first | rfl | omega) (fun _ => ⟨_, rfl⟩)) ?_
  refine WL.nilQn ⟨(by repeat (first | exact List.nil_sublist _ | exact List.Sublist.refl _ | exact List.sublist_append_left _ _ | exact List.sublist_append_right _ _ | apply List.Sublist.cons_cons | apply List.Sublist.cons | refine List.Sublist.trans ?_ (List.sublist_append_right _ _))), ?_⟩
  refine RH.qa 23 rfl (O.addS) ?_
  refine RH.qa 25 rfl (O.addS) ?_
  refine RH.qa 26 rfl (O.as) ?_
  refine RH.done (by kernel_rfl) (Q.tn ?_)
  refine CW.seq ?_
  refine CW.region ?_
  refine W.p O.mv ?_
  refine W.callN (first := []) (cap := []) rfl (vt rfl) (AV.cons (vt rfl) (AV.nil)) (fun w hu => pk_Get (partsT (a.take (min (a.length : Int) 20).toNat) (b.take (min (b.length : Int) 20).toNat) (c.take (min (c.length : Int) 20).toNat) (1 + which % 4 % 3)) w (Nat.le_trans (partsT_len hX hY hZ (1 + which % 4 % 3)) (by decide))) ?_; rintro _ _ ⟨o11, c11, sp11, rfl, ok11, rfl⟩; have nk11 := ok11.nk
  refine W.p O.mv ?_
  first | refine W.p O.extL ?_ | refine W.p O.ext ?_
  first | refine W.p O.extL ?_ | refine W.p O.ext ?_
  refine W.al rfl rfl fun b2 => ?_
  refine W.st (vt rfl) (vt rfl) rfl ?_
  refine W.p O.as ?_
  refine WL.nil (Q.tn ?_)
  refine CW.seq ?_
  refine CW.region ?_
  refine W.p O.mv ?_
  refine W.p O.as ?_
  refine WL.nil (Q.tn ?_)
  refine CW.seq ?_
  refine CW.seq ?_
  refine CW.region ?_
  refine W.p O.mv ?_
  refine W.p O.neI ?_
  refine WL.nil (Q.tn ?_)
  refine CW.cond (vt rfl) (fun hc3 => ?_) (fun hc3 => ?_)
  · try simp only [Bool.cond_true_left, Bool.cond_false_right, Bool.or_eq_true, Bool.or_eq_false_iff, Bool.and_eq_true, Bool.and_eq_false_iff, decide_eq_true_eq, decide_eq_false_iff_not, Bool.not_eq_true', Bool.not_eq_false'] at hc3
    refine CW.region ?_
    refine W.p O.mv ?_
    refine W.p O.mv ?_
    refine W.p O.addS ?_
    refine W.p O.as ?_
    refine WL.nil (Q.tn ?_)
    refine CW.seq ?_
    refine CW.seq ?_
    refine CW.region ?_
    refine W.p O.mv ?_
    refine W.p O.neI ?_
    refine WL.nil (Q.tn ?_)
    refine CW.cond (vt rfl) (fun hc4 => ?_) (fun hc4 => ?_)
    · try simp only [Bool.cond_true_left, Bool.cond_false_right, Bool.or_eq_true, Bool.or_eq_false_iff, Bool.and_eq_true, Bool.and_eq_false_iff, decide_eq_true_eq, decide_eq_false_iff_not, Bool.not_eq_true', Bool.not_eq_false'] at hc4
      refine CW.region ?_
      refine W.p O.mv ?_
      refine W.p O.mv ?_
      refine W.p O.addS ?_
      refine W.p O.as ?_
      refine WL.nil (Q.tn ?_)
      refine CW.seq ?_
      refine CW.region ?_
      refine W.p O.mv ?_
      refine W.q (O.call ⟨rfl, rfl⟩ (AV.cons (vt rfl) (AV.nil)) (fun _ w hw => law0_Num _ w)) ?_
      refine W.p O.eqI ?_
      first | (refine WL.kn (v := true) (by rfl) ?_ ?_; focus (rw [hg.1]; rfl)) | (refine WL.kn (v := false) (by rfl) ?_ ?_; focus (rw [hg.1]; rfl))
      refine W.p O.mv ?_
      first | refine W.p O.fb ?_ | refine W.p O.fa ?_
      refine W.p O.ld ?_
      refine W.p O.mv ?_
      refine W.p (O.bd (hv := PV.cons (vt rfl) (PV.cons (vs rfl) (PV.nil)))) ?_
      refine W.ug rfl ?_
      refine W.bs encO [⟨_, _⟩] rfl (PV.cons (vs rfl) (PV.nil)) rfl rfl rfl (by decide) rfl fun b3 => ?_
      refine W.q (O.call ⟨rfl, rfl⟩ (AV.cons (vs rfl) (AV.cons (vt rfl) (AV.nil))) (fun _ w hw => sameOptions (pkGet (partsT (a.take (min (a.length : Int) 20).toNat) (b.take (min (b.length : Int) 20).toNat) (c.take (min (c.length : Int) 20).toNat) (1 + which % 4 % 3))).1.opts [⟨12, (a.take (min (a.length : Int) 20).toNat) ++ (b.take (min (b.length : Int) 20).toNat) ++ (c.take (min (c.length : Int) 20).toNat)⟩] _ _ _ _ w (RowL.h _ hw) (RowL.h _ hw) (by rw [hg.2.1]; simp))) ?_
      first | (refine WL.kn (v := true) (by rfl) ?_ ?_; focus (rw [hg.2.1, partsW_tt (by assumption) (by assumption)]; exact decide_eq_true rfl)) | (refine WL.kn (v := false) (by rfl) ?_ ?_; focus (rw [hg.2.1, partsW_tt (by assumption) (by assumption)]; exact decide_eq_true rfl))
      refine W.p O.pkB ?_
      refine W.p O.mv ?_
      first | refine W.p O.fb ?_ | refine W.p O.fa ?_
      refine W.p O.ld ?_
      refine W.p O.eqI ?_
      first | (refine WL.kn (v := true) (by rfl) ?_ ?_; focus (rw [hg.2.2]; rfl)) | (refine WL.kn (v := false) (by rfl) ?_ ?_; focus (rw [hg.2.2]; rfl))
      refine W.p O.pkB ?_
      refine W.p O.as ?_
      refine WL.nil (Q.tn ?_)
      refine CW.ret ?_
      refine ⟨_, [], (RVs.tmp rfl RVs.nil), List.nil_sublist _, ?_⟩
      exact ⟨rfl, rfl⟩
    try simp only [Bool.cond_true_left, Bool.cond_false_right, Bool.or_eq_true, Bool.or_eq_false_iff, Bool.and_eq_true, Bool.and_eq_false_iff, decide_eq_true_eq, decide_eq_false_iff_not, Bool.not_eq_true', Bool.not_eq_false'] at hc4
    refine CW.skip (Q.tn ?_)
    refine CW.seq ?_
    refine CW.region ?_
    refine W.p O.mv ?_
    refine W.q (O.call ⟨rfl, rfl⟩ (AV.cons (vt rfl) (AV.nil)) (fun _ w hw => law0_Num _ w)) ?_
    refine W.p O.eqI ?_
    first | (refine WL.kn (v := true) (by rfl) ?_ ?_; focus (rw [hg.1]; rfl)) | (refine WL.kn (v := false) (by rfl) ?_ ?_; focus (rw [hg.1]; rfl))
    refine W.p O.mv ?_
    first | refine W.p O.fb ?_ | refine W.p O.fa ?_
    refine W.p O.ld ?_
    refine W.p O.mv ?_
    refine W.p (O.bd (hv := PV.cons (vt rfl) (PV.cons (vs rfl) (PV.nil)))) ?_
    refine W.ug rfl ?_
    refine W.bs encO [⟨_, _⟩] rfl (PV.cons (vs rfl) (PV.nil)) rfl rfl rfl (by decide) rfl fun b4 => ?_
    refine W.q (O.call ⟨rfl, rfl⟩ (AV.cons (vs rfl) (AV.cons (vt rfl) (AV.nil))) (fun _ w hw => sameOptions (pkGet (partsT (a.take (min (a.length : Int) 20).toNat) (b.take (min (b.length : Int) 20).toNat) (c.take (min (c.length : Int) 20).toNat) (1 + which % 4 % 3))).1.opts [⟨12, (a.take (min (a.length : Int) 20).toNat) ++ (b.take (min (b.length : Int) 20).toNat)⟩] _ _ _ _ w (RowL.h _ hw) (RowL.h _ hw) (by rw [hg.2.1]; simp))) ?_
    first | (refine WL.kn (v := true) (by rfl) ?_ ?_; focus (rw [hg.2.1, partsW_tf (by assumption) (by assumption)]; exact decide_eq_true rfl)) | (refine WL.kn (v := false) (by rfl) ?_ ?_; focus (rw [hg.2.1, partsW_tf (by assumption) (by assumption)]; exact decide_eq_true rfl))
    refine W.p O.pkB ?_
    refine W.p O.mv ?_
    first | refine W.p O.fb ?_ | refine W.p O.fa ?_
    refine W.p O.ld ?_
    refine W.p O.eqI ?_
    first | (refine WL.kn (v := true) (by rfl) ?_ ?_; focus (rw [hg.2.2]; rfl)) | (refine WL.kn (v := false) (by rfl) ?_ ?_; focus (rw [hg.2.2]; rfl))
    refine W.p O.pkB ?_
    refine W.p O.as ?_
    refine WL.nil (Q.tn ?_)
    refine CW.ret ?_
    refine ⟨_, [], (RVs.tmp rfl RVs.nil), List.nil_sublist _, ?_⟩
    exact ⟨rfl, rfl⟩
  try simp only [Bool.cond_true_left, Bool.cond_false_right, Bool.or_eq_true, Bool.or_eq_false_iff, Bool.and_eq_true, Bool.and_eq_false_iff, decide_eq_true_eq, decide_eq_false_iff_not, Bool.not_eq_true', Bool.not_eq_false'] at hc3
  refine CW.skip (Q.tn ?_)
  refine CW.seq ?_
  refine CW.seq ?_
  refine CW.region ?_
  refine W.p O.mv ?_
  refine W.p O.neI ?_
  refine WL.nil (Q.tn ?_)
  refine CW.cond (vt rfl) (fun hc5 => ?_) (fun hc5 => ?_)
  · try simp only [Bool.cond_true_left, Bool.cond_false_right, Bool.or_eq_true, Bool.or_eq_false_iff, Bool.and_eq_true, Bool.and_eq_false_iff, decide_eq_true_eq, decide_eq_false_iff_not, Bool.not_eq_true', Bool.not_eq_false'] at hc5
    refine CW.region ?_
    refine W.p O.mv ?_
    refine W.p O.mv ?_
    refine W.p O.addS ?_
    refine W.p O.as ?_
    refine WL.nil (Q.tn ?_)
    refine CW.seq ?_
    refine CW.region ?_
    refine W.p O.mv ?_
    refine W.q (O.call ⟨rfl, rfl⟩ (AV.cons (vt rfl) (AV.nil)) (fun _ w hw => law0_Num _ w)) ?_
    refine W.p O.eqI ?_
    first | (refine WL.kn (v := true) (by rfl) ?_ ?_; focus (rw [hg.1]; rfl)) | (refine WL.kn (v := false) (by rfl) ?_ ?_; focus (rw [hg.1]; rfl))
    refine W.p O.mv ?_
    first | refine W.p O.fb ?_ | refine W.p O.fa ?_
    refine W.p O.ld ?_
    refine W.p O.mv ?_
    refine W.p (O.bd (hv := PV.cons (vt rfl) (PV.cons (vs rfl) (PV.nil)))) ?_
    refine W.ug rfl ?_
    refine W.bs encO [⟨_, _⟩] rfl (PV.cons (vs rfl) (PV.nil)) rfl rfl rfl (by decide) rfl fun b5 => ?_
    refine W.q (O.call ⟨rfl, rfl⟩ (AV.cons (vs rfl) (AV.cons (vt rfl) (AV.nil))) (fun _ w hw => sameOptions (pkGet (partsT (a.take (min (a.length : Int) 20).toNat) (b.take (min (b.length : Int) 20).toNat) (c.take (min (c.length : Int) 20).toNat) (1 + which % 4 % 3))).1.opts [⟨12, (a.take (min (a.length : Int) 20).toNat) ++ (c.take (min (c.length : Int) 20).toNat)⟩] _ _ _ _ w (RowL.h _ hw) (RowL.h _ hw) (by rw [hg.2.1]; simp))) ?_
    first | (refine WL.kn (v := true) (by rfl) ?_ ?_; focus (rw [hg.2.1, partsW_ft (by assumption) (by assumption)]; exact decide_eq_true rfl)) | (refine WL.kn (v := false) (by rfl) ?_ ?_; focus (rw [hg.2.1, partsW_ft (by assumption) (by assumption)]; exact decide_eq_true rfl))
    refine W.p O.pkB ?_
    refine W.p O.mv ?_
    first | refine W.p O.fb ?_ | refine W.p O.fa ?_
    refine W.p O.ld ?_
    refine W.p O.eqI ?_
    first | (refine WL.kn (v := true) (by rfl) ?_ ?_; focus (rw [hg.2.2]; rfl)) | (refine WL.kn (v := false) (by rfl) ?_ ?_; focus (rw [hg.2.2]; rfl))
    refine W.p O.pkB ?_
    refine W.p O.as ?_
    refine WL.nil (Q.tn ?_)
    refine CW.ret ?_
    refine ⟨_, [], (RVs.tmp rfl RVs.nil), List.nil_sublist _, ?_⟩
    exact ⟨rfl, rfl⟩
  try simp only [Bool.cond_true_left, Bool.cond_false_right, Bool.or_eq_true, Bool.or_eq_false_iff, Bool.and_eq_true, Bool.and_eq_false_iff, decide_eq_true_eq, decide_eq_false_iff_not, Bool.not_eq_true', Bool.not_eq_false'] at hc5
  refine CW.skip (Q.tn ?_)
  refine CW.seq ?_
  refine CW.region ?_
  refine W.p O.mv ?_
  refine W.q (O.call ⟨rfl, rfl⟩ (AV.cons (vt rfl) (AV.nil)) (fun _ w hw => law0_Num _ w)) ?_
  refine W.p O.eqI ?_
  first | (refine WL.kn (v := true) (by rfl) ?_ ?_; focus (rw [hg.1]; rfl)) | (refine WL.kn (v := false) (by rfl) ?_ ?_; focus (rw [hg.1]; rfl))
  refine W.p O.mv ?_
  first | refine W.p O.fb ?_ | refine W.p O.fa ?_
  refine W.p O.ld ?_
  refine W.p O.mv ?_
  refine W.p (O.bd (hv := PV.cons (vt rfl) (PV.cons (vs rfl) (PV.nil)))) ?_
  refine W.ug rfl ?_
  refine W.bs encO [⟨_, _⟩] rfl (PV.cons (vs rfl) (PV.nil)) rfl rfl rfl (by decide) rfl fun b6 => ?_
  refine W.q (O.call ⟨rfl, rfl⟩ (AV.cons (vs rfl) (AV.cons (vt rfl) (AV.nil))) (fun _ w hw => sameOptions (pkGet (partsT (a.take (min (a.length : Int) 20).toNat) (b.take (min (b.length : Int) 20).toNat) (c.take (min (c.length : Int) 20).toNat) (1 + which % 4 % 3))).1.opts [⟨12, (a.take (min (a.length : Int) 20).toNat)⟩] _ _ _ _ w (RowL.h _ hw) (RowL.h _ hw) (by rw [hg.2.1]; simp))) ?_
  first | (refine WL.kn (v := true) (by rfl) ?_ ?_; focus (rw [hg.2.1, partsW_ff (by assumption) (by assumption)]; exact decide_eq_true rfl)) | (refine WL.kn (v := false) (by rfl) ?_ ?_; focus (rw [hg.2.1, partsW_ff (by assumption) (by assumption)]; exact decide_eq_true rfl))
  refine W.p O.pkB ?_
  refine W.p O.mv ?_
  first | refine W.p O.fb ?_ | refine W.p O.fa ?_
  refine W.p O.ld ?_
  refine W.p O.eqI ?_
  first | (refine WL.kn (v := true) (by rfl) ?_ ?_; focus (rw [hg.2.2]; rfl)) | (refine WL.kn (v := false) (by rfl) ?_ ?_; focus (rw [hg.2.2]; rfl))
  refine W.p O.pkB ?_
  refine W.p O.as ?_
  refine WL.nil (Q.tn ?_)
  refine CW.ret ?_
  refine ⟨_, [], (RVs.tmp rfl RVs.nil), List.nil_sublist _, ?_⟩
  exact ⟨rfl, rfl⟩
end Go.Proofs.Ytkjcmdgideddnaa
