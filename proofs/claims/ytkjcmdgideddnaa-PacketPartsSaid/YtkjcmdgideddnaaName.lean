/- What the functions of package name come to, and the cutting of texts. Conditions: the texts are not longer than some 2^47 bytes. -/
import Derived.Test.YtkjcmdgideddnaaCv
set_option linter.unusedVariables false
set_option linter.unusedSimpArgs false
namespace Go.Proofs.Ytkjcmdgideddnaa
open Go Go.RowKit
set_option maxRecDepth 100000 in
theorem nm_letter (x : UInt8) (w : World) : Fn Try.prog 175 [.int .u8 x.toNat] w [] fun v L' => v = .bool (isL x) ∧ L' = [] := by
  refine Fn.enter Try.func175 rfl rfl rfl rfl (Holds.nil w) ?_
  refine CW.seq ?_
  refine CW.region ?_
  refine W.p O.as ?_
  refine WL.nil (Q.tn ?_)
  refine CW.seq ?_
  refine CW.region ?_
  refine W.p O.mv ?_
  refine W.p O.geq ?_
  refine W.p O.mv ?_
  refine W.p O.mv ?_
  refine W.p O.leq ?_
  refine W.p O.pkB ?_
  refine W.p O.mv ?_
  refine W.p O.mv ?_
  refine W.p O.geq ?_
  refine W.p O.mv ?_
  refine W.p O.mv ?_
  refine W.p O.leq ?_
  refine W.p O.pkB ?_
  refine W.p O.pkB ?_
  refine W.p O.mv ?_
  refine W.p O.mv ?_
  refine W.p O.eqI ?_
  refine W.p O.pkB ?_
  refine W.p O.as ?_
  refine WL.nil (Q.tn ?_)
  refine CW.ret ?_
  refine ⟨_, [], (RVs.tmp rfl RVs.nil), List.nil_sublist _, ?_⟩
  refine ⟨congrArg Value.bool ?_, rfl⟩
  simp only [isL]
  have e : ∀ k : Nat, decide ((x.toNat : Int) = (k : Int)) = decide (x.toNat = k) := fun k => decide_eq_decide.2 (by omega)
  have e2 : ∀ k : Nat, decide ((x.toNat : Int) ≤ (k : Int)) = decide (x.toNat ≤ k) := fun k => decide_eq_decide.2 (by omega)
  have e3 : ∀ k : Nat, decide ((k : Int) ≤ (x.toNat : Int)) = decide (k ≤ x.toNat) := fun k => decide_eq_decide.2 (by omega)
  have := e 45; have := e2 122; have := e2 57; have := e3 97; have := e3 48
  simp_all
set_option maxRecDepth 100000 in
theorem nm_Label (s : List UInt8) (w : World) (hn : s.length ≤ 140737488355328) : Fn Try.prog 151 [.string (S s)] w [] fun v L' => v = .bool (labOk s) ∧ L' = [] := by
  refine Fn.enter Try.func151 rfl rfl rfl rfl (Holds.nil w) ?_
  refine CW.seq ?_
  refine CW.region ?_
  refine W.p O.as ?_
  refine WL.nil (Q.tn ?_)
  refine CW.seq ?_
  refine CW.seq ?_
  refine CW.region ?_
  refine W.p O.mv ?_
  refine W.p O.len ?_
  refine W.p O.mv ?_
  refine WL.nil (Q.tn ?_)
  refine CW.block ?_
  refine CW.loop (X := Int) (fun i => [(0, true, .string (S s)), (5, true, .int .i64 s.length), (6, true, .int .i64 i)]) (fun i => []) (fun i => 0 ≤ i ∧ i ≤ s.length ∧ (s.take i.toNat).all isL = true) (fun i => (s.length - i).toNat) (0) ?_ (by repeat (first | exact trivial | refine ⟨rfl, ?_⟩ | refine ⟨by (simp only [List.length_set]; rfl), ?_⟩)) (by repeat (first | exact List.Sublist.refl _ | exact List.sublist_append_left _ _ | exact List.nil_sublist _ | refine List.Sublist.append (List.Sublist.refl _) ?_ | apply List.Sublist.cons_cons | apply List.Sublist.cons | refine List.Sublist.trans ?_ (List.sublist_append_right _ _))) ?_
  · exact ⟨by omega, by omega, rfl⟩
  rintro i hI
  try dsimp only at hI ⊢
  obtain ⟨h0, h1, ha⟩ := hI
  refine CW.seq ?_
  refine CW.region ?_
  refine W.p O.lss ?_
  refine WL.nil (Q.tn ?_)
  refine CW.seq ?_
  refine CW.cond (vt rfl) (fun hc1 => ?_) (fun hc1 => ?_)
  · try simp only [Bool.cond_true_left, Bool.cond_false_right, Bool.or_eq_true, Bool.or_eq_false_iff, Bool.and_eq_true, Bool.and_eq_false_iff, decide_eq_true_eq, decide_eq_false_iff_not, Bool.not_eq_true', Bool.not_eq_false'] at hc1
    refine CW.skip (Q.tn ?_)
    refine CW.seq ?_
    refine CW.block ?_
    refine CW.seq ?_
    refine CW.region ?_
    refine W.p O.mv ?_
    refine W.p O.as ?_
    refine WL.nil (Q.tn ?_)
    refine CW.seq ?_
    refine CW.region ?_
    refine W.p O.mv ?_
    refine W.p O.mv ?_
    first | refine W.p O.idxS ?_ | refine W.p (O.idxS (h := fun hg => by simp only [cond_true, cond_false, Bool.true_and, Bool.cond_false_right, Bool.cond_true_left, Bool.and_eq_true, Bool.or_eq_true, Bool.or_eq_false_iff, Bool.and_eq_false_iff, Bool.not_eq_true', Bool.not_eq_false', decide_eq_true_eq, decide_eq_false_iff_not, Int.reduceToNat] at *; omega)) ?_
    refine W.q (O.call ⟨rfl, rfl⟩ (AV.cons (vt rfl) (AV.nil)) (fun _ w hw => nm_letter _ w)) ?_
    refine W.p O.nt ?_
    refine WL.nil (Q.tn ?_)
    refine CW.cond (vt rfl) (fun hc2 => ?_) (fun hc2 => ?_)
    · try simp only [Bool.cond_true_left, Bool.cond_false_right, Bool.or_eq_true, Bool.or_eq_false_iff, Bool.and_eq_true, Bool.and_eq_false_iff, decide_eq_true_eq, decide_eq_false_iff_not, Bool.not_eq_true', Bool.not_eq_false'] at hc2
      refine CW.seq ?_
      refine CW.region ?_
      refine W.p O.as ?_
      refine WL.nil (Q.tn ?_)
      refine CW.ret (Q.br (Q.tr (Q.tr (Q.br (Q.tr ?_)))))
      refine ⟨_, [], (RVs.tmp rfl RVs.nil), List.nil_sublist _, ?_⟩
      refine ⟨congrArg Value.bool ?_, rfl⟩
      have hm : s.getD i.toNat 0 ∈ s := by rw [List.getD_eq_getElem?_getD, List.getElem?_eq_getElem (by omega)]; exact List.getElem_mem _
      have : s.all isL = false := by rw [List.all_eq_false]; exact ⟨_, hm, by simpa using hc2⟩
      simp [labOk, this]
    try simp only [Bool.cond_true_left, Bool.cond_false_right, Bool.or_eq_true, Bool.or_eq_false_iff, Bool.and_eq_true, Bool.and_eq_false_iff, decide_eq_true_eq, decide_eq_false_iff_not, Bool.not_eq_true', Bool.not_eq_false'] at hc2
    refine CW.skip (Q.bn (Q.tn ?_))
    refine CW.region ?_
    first | refine W.p O.addN ?_ | refine W.p O.add ?_
    refine W.p O.mv ?_
    refine WL.nil (Q.tn ?_)
    refine ⟨(_), ?_, ?_, (by repeat (first | exact trivial | refine ⟨rfl, ?_⟩ | refine ⟨by (simp only [List.length_set]; rfl), ?_⟩)), (by repeat (first | exact List.Sublist.refl _ | exact List.sublist_append_left _ _ | exact List.nil_sublist _ | refine List.Sublist.append (List.Sublist.refl _) ?_ | apply List.Sublist.cons_cons | apply List.Sublist.cons | refine List.Sublist.trans ?_ (List.sublist_append_right _ _)))⟩
    · try dsimp only
      refine ⟨by omega, by omega, ?_⟩
      rw [take_at' 0 h0 hc1, List.all_append, ha]; simpa using hc2
    · try dsimp only
      omega
  try simp only [Bool.cond_true_left, Bool.cond_false_right, Bool.or_eq_true, Bool.or_eq_false_iff, Bool.and_eq_true, Bool.and_eq_false_iff, decide_eq_true_eq, decide_eq_false_iff_not, Bool.not_eq_true', Bool.not_eq_false'] at hc1
  refine CW.exit (Q.te (Q.te (Q.bx (Q.tn ?_))))
  refine CW.seq ?_
  refine CW.region ?_
  refine W.p O.mv ?_
  refine W.p O.len ?_
  refine W.p O.geq ?_
  refine W.p O.mv ?_
  refine W.p O.mv ?_
  refine W.p O.len ?_
  refine W.p O.leq ?_
  refine W.p O.pkB ?_
  refine W.p O.as ?_
  refine WL.nil (Q.tn ?_)
  refine CW.ret ?_
  refine ⟨_, [], (RVs.tmp rfl RVs.nil), List.nil_sublist _, ?_⟩
  refine ⟨congrArg Value.bool ?_, rfl⟩
  have e : i = s.length := by omega
  have ha' : s.all isL = true := by rw [e] at ha; simpa using ha
  have e3 : decide (1 ≤ (s.length : Int)) = decide (1 ≤ s.length) := decide_eq_decide.2 (by omega)
  have e4 : decide ((s.length : Int) ≤ 8) = decide (s.length ≤ 8) := decide_eq_decide.2 (by omega)
  simp only [labOk, ha']
  simp_all
set_option maxRecDepth 100000 in
theorem sl_IndexByte (s : List UInt8) (c : UInt8) (w : World) : Fn Try.prog 185 [.string (S s), .int .u8 c.toNat] w [] fun v L' => v = .int .i64 (ixb s c) ∧ L' = [] := by
  refine Fn.enter Try.func185 rfl rfl rfl rfl (Holds.nil w) ?_
  refine CW.seq ?_
  refine CW.region ?_
  refine W.p O.as ?_
  refine WL.nil (Q.tn ?_)
  refine CW.seq ?_
  refine CW.region ?_
  refine W.p O.mv ?_
  refine W.p O.mv ?_
  refine W.p (O.ixB ⟨rfl, rfl⟩ (vt rfl) (vt rfl) (vt rfl) Try.func190 (by kernel_rfl) (by kernel_rfl) (by kernel_rfl) (by kernel_rfl)) ?_
  refine W.p O.as ?_
  refine WL.nil (Q.tn ?_)
  refine CW.ret ?_
  refine ⟨_, [], (RVs.tmp rfl RVs.nil), List.nil_sublist _, ?_⟩
  exact ⟨rfl, rfl⟩
set_option maxRecDepth 100000 in
theorem sl_Index1 (s : List UInt8) (c : UInt8) (w : World) : Fn Try.prog 176 [.string (S s), .string (S [c])] w [] fun v L' => v = .int .i64 (ixb s c) ∧ L' = [] := by
  refine Fn.enter Try.func176 rfl rfl rfl rfl (Holds.nil w) ?_
  refine CW.seq ?_
  refine CW.region ?_
  refine W.p O.as ?_
  refine WL.nil (Q.tn ?_)
  refine CW.seq ?_
  refine CW.region ?_
  refine W.p O.mv ?_
  refine W.p O.len ?_
  refine W.p O.as ?_
  refine WL.nil (Q.tn ?_)
  refine CW.seq ?_
  refine CW.block ?_
  refine CW.seq ?_
  refine CW.region ?_
  refine W.p O.mv ?_
  refine W.p O.eqI ?_
  refine W.p O.mv ?_
  refine W.p O.mv ?_
  refine W.p O.mv ?_
  refine W.p O.eqS ?_
  refine W.p O.pkB ?_
  refine W.p O.as ?_
  refine WL.nil (Q.tn ?_)
  refine CW.cond (vt rfl) (fun hc1 => ?_) (fun hc1 => ?_)
  · try simp only [Bool.cond_true_left, Bool.cond_false_right, Bool.or_eq_true, Bool.or_eq_false_iff, Bool.and_eq_true, Bool.and_eq_false_iff, decide_eq_true_eq, decide_eq_false_iff_not, Bool.not_eq_true', Bool.not_eq_false'] at hc1
    refine CW.seq ?_
    refine CW.region ?_
    refine W.p O.as ?_
    refine WL.nil (Q.tn ?_)
    refine CW.ret (Q.br (Q.tr ?_))
    refine ⟨_, [], (RVs.tmp rfl RVs.nil), List.nil_sublist _, ?_⟩
    refine ⟨congrArg (Value.int .i64) ?_, rfl⟩
    rcases hc1 with h | h
    · simp at h
    · subst h; simp [ixb]
  try simp only [Bool.cond_true_left, Bool.cond_false_right, Bool.or_eq_true, Bool.or_eq_false_iff, Bool.and_eq_true, Bool.and_eq_false_iff, decide_eq_true_eq, decide_eq_false_iff_not, Bool.not_eq_true', Bool.not_eq_false'] at hc1
  refine CW.seq ?_
  refine CW.region ?_
  refine W.p O.mv ?_
  refine W.p O.eqI ?_
  refine W.p O.as ?_
  refine WL.nil (Q.tn ?_)
  refine CW.cond (vt rfl) (fun hc2 => ?_) (fun hc2 => ?_)
  · try simp only [Bool.cond_true_left, Bool.cond_false_right, Bool.or_eq_true, Bool.or_eq_false_iff, Bool.and_eq_true, Bool.and_eq_false_iff, decide_eq_true_eq, decide_eq_false_iff_not, Bool.not_eq_true', Bool.not_eq_false'] at hc2
    refine CW.seq ?_
    refine CW.region ?_
    refine W.p O.mv ?_
    refine W.p O.mv ?_
    first | refine W.p O.idxS ?_ | refine W.p (O.idxS (h := fun hg => by simp only [cond_true, cond_false, Bool.true_and, Bool.cond_false_right, Bool.cond_true_left, Bool.and_eq_true, Bool.or_eq_true, Bool.or_eq_false_iff, Bool.and_eq_false_iff, Bool.not_eq_true', Bool.not_eq_false', decide_eq_true_eq, decide_eq_false_iff_not, Int.reduceToNat] at *; omega)) ?_
    refine W.q (O.call ⟨rfl, rfl⟩ (AV.cons (vt rfl) (AV.cons (vt rfl) (AV.nil))) (fun _ w hw => sl_IndexByte s c w)) ?_
    refine W.p O.as ?_
    refine WL.nil (Q.tn ?_)
    refine CW.ret (Q.br (Q.tr ?_))
    refine ⟨_, [], (RVs.tmp rfl RVs.nil), List.nil_sublist _, ?_⟩
    refine ⟨congrArg (Value.int .i64) ?_, rfl⟩
    rfl
  simp at hc2
set_option maxRecDepth 100000 in
theorem sl_Cut1 (s : List UInt8) (c : UInt8) (w : World) (hn : s.length ≤ 140737488355328) : Fn Try.prog 152 [.string (S s), .string (S [c])] w [] fun v L' => v = .tuple #[.string (S (cutB c s).1), .string (S (cutB c s).2.1), .bool (cutB c s).2.2] ∧ L' = [] := by
  have hi := ixb_hi c s
  have hz1 : ([] : List UInt8).length = 0 := rfl
  have hz2 : ([c] : List UInt8).length = 1 := rfl
  refine Fn.enter Try.func152 rfl rfl rfl rfl (Holds.nil w) ?_
  refine CW.seq ?_
  refine CW.region ?_
  refine W.p O.as ?_
  refine W.p O.as ?_
  refine W.p O.as ?_
  refine WL.nil (Q.tn ?_)
  refine CW.seq ?_
  refine CW.seq ?_
  refine CW.region ?_
  refine W.p O.mv ?_
  refine W.p O.mv ?_
  refine W.q (O.call ⟨rfl, rfl⟩ (AV.cons (vt rfl) (AV.cons (vt rfl) (AV.nil))) (fun _ w hw => sl_Index1 s c w)) ?_
  refine W.p O.as ?_
  refine WL.nil (Q.tn ?_)
  refine CW.seq ?_
  refine CW.region ?_
  refine W.p O.mv ?_
  refine W.p O.geq ?_
  refine WL.nil (Q.tn ?_)
  refine CW.cond (vt rfl) (fun hc1 => ?_) (fun hc1 => ?_)
  · try simp only [Bool.cond_true_left, Bool.cond_false_right, Bool.or_eq_true, Bool.or_eq_false_iff, Bool.and_eq_true, Bool.and_eq_false_iff, decide_eq_true_eq, decide_eq_false_iff_not, Bool.not_eq_true', Bool.not_eq_false'] at hc1
    refine CW.seq ?_
    refine CW.draw 12 rfl (by kernel_rfl) ?_
    refine WQ.p O.mv ?_
    refine WQ.p O.mv ?_
    refine WQ.p O.slcH ?_
    refine WQ.p O.mv ?_
    refine WQ.p O.mv ?_
    refine WQ.p O.mv ?_
    refine WQ.p O.len ?_
    first | refine WQ.p O.addN ?_ | refine WQ.p O.add ?_
    refine WQ.p O.slcL ?_
    refine WQ.p O.as ?_
    refine WQ.p O.as ?_
    refine WQ.p O.as ?_
    refine WQ.nil ?_
    refine WL.nil (Q.tn ?_)
    refine CW.ret (Q.tr ?_)
    refine ⟨_, [], (RVs.tmp rfl (RVs.tmp rfl (RVs.tmp rfl RVs.nil))), List.nil_sublist _, ?_⟩
    refine ⟨?_, rfl⟩
    rw [cutB, if_pos hc1]; rfl
  try simp only [Bool.cond_true_left, Bool.cond_false_right, Bool.or_eq_true, Bool.or_eq_false_iff, Bool.and_eq_true, Bool.and_eq_false_iff, decide_eq_true_eq, decide_eq_false_iff_not, Bool.not_eq_true', Bool.not_eq_false'] at hc1
  refine CW.skip (Q.tn ?_)
  refine CW.seq ?_
  refine CW.region ?_
  refine W.p O.mv ?_
  refine W.p O.as ?_
  refine W.p O.as ?_
  refine W.p O.as ?_
  refine WL.nil (Q.tn ?_)
  refine CW.ret ?_
  refine ⟨_, [], (RVs.tmp rfl (RVs.tmp rfl (RVs.tmp rfl RVs.nil))), List.nil_sublist _, ?_⟩
  refine ⟨?_, rfl⟩
  rw [cutB, if_neg hc1]; rfl
set_option maxRecDepth 100000 in
theorem st_Cut1 (s : List UInt8) (c : UInt8) (w : World) (hn : s.length ≤ 140737488355328) : Fn Try.prog 104 [.string (S s), .string (S [c])] w [] fun v L' => v = .tuple #[.string (S (cutB c s).1), .string (S (cutB c s).2.1), .bool (cutB c s).2.2] ∧ L' = [] := by
  refine Fn.enter Try.func104 rfl rfl rfl rfl (Holds.nil w) ?_
  refine CW.seq ?_
  refine CW.region ?_
  refine W.p O.as ?_
  refine W.p O.as ?_
  refine W.p O.as ?_
  refine WL.nil (Q.tn ?_)
  refine CW.seq ?_
  refine CW.region ?_
  refine W.p O.mv ?_
  refine W.p O.mv ?_
  refine W.q (O.call ⟨rfl, rfl⟩ (AV.cons (vt rfl) (AV.cons (vt rfl) (AV.nil))) (fun _ w hw => sl_Cut1 s c w hn)) ?_
  first | refine W.p O.extL ?_ | refine W.p O.ext ?_
  first | refine W.p O.extL ?_ | refine W.p O.ext ?_
  first | refine W.p O.extL ?_ | refine W.p O.ext ?_
  refine W.p O.as ?_
  refine W.p O.as ?_
  refine W.p O.as ?_
  refine WL.nil (Q.tn ?_)
  refine CW.ret ?_
  refine ⟨_, [], (RVs.tmp rfl (RVs.tmp rfl (RVs.tmp rfl RVs.nil))), List.nil_sublist _, ?_⟩
  exact ⟨rfl, rfl⟩
set_option maxRecDepth 100000 in
theorem nm_May (s : List UInt8) (w : World) (hn : s.length ≤ 140737488355328) : Fn Try.prog 103 [.string (S s)] w [] fun v L' => v = .bool (nmMay s) ∧ L' = [] := by
  refine Fn.enter Try.func103 rfl rfl rfl rfl (Holds.nil w) ?_
  refine CW.seq ?_
  refine CW.region ?_
  refine W.p O.as ?_
  refine WL.nil (Q.tn ?_)
  refine CW.seq ?_
  refine CW.region ?_
  refine W.p O.as ?_
  refine WL.nil (Q.tn ?_)
  refine CW.seq ?_
  refine CW.seq ?_
  refine CW.region ?_
  refine W.p O.mv ?_
  refine W.p O.mv ?_
  refine W.p O.neS ?_
  refine W.p O.as ?_
  refine W.p O.as ?_
  refine WL.nil (Q.tn ?_)
  refine CW.block ?_
  refine CW.loop (X := Int × (List UInt8) × Bool) (fun ⟨k, rest, more⟩ => [(3, true, .int .i64 k), (4, true, .string (S rest)), (5, true, .bool more)]) (fun ⟨k, rest, more⟩ => []) (fun ⟨k, rest, more⟩ => 0 ≤ k ∧ k ≤ 8 ∧ rest.length ≤ s.length ∧ nmMay s = nmF k rest more) (fun ⟨k, rest, more⟩ => rest.length + (bif more then 1 else 0)) (0, s, !decide (s = [])) ?_ (by repeat (first | exact trivial | refine ⟨rfl, ?_⟩ | refine ⟨by (simp only [List.length_set]; rfl), ?_⟩)) (by repeat (first | exact List.Sublist.refl _ | exact List.sublist_append_left _ _ | exact List.nil_sublist _ | refine List.Sublist.append (List.Sublist.refl _) ?_ | apply List.Sublist.cons_cons | apply List.Sublist.cons | refine List.Sublist.trans ?_ (List.sublist_append_right _ _))) ?_
  · exact ⟨by omega, by omega, by omega, nmMay_F s⟩
  rintro ⟨k, rest, more⟩ hI
  try dsimp only at hI ⊢
  obtain ⟨h0, h1, h2, hr⟩ := hI
  have hcl := cut_len 46 rest
  refine CW.seq ?_
  refine CW.seq ?_
  refine CW.region ?_
  refine W.p O.mv ?_
  refine WL.nil (Q.tn ?_)
  refine CW.cond (vt rfl) (fun hc1 => ?_) (fun hc1 => ?_)
  · try simp only [Bool.cond_true_left, Bool.cond_false_right, Bool.or_eq_true, Bool.or_eq_false_iff, Bool.and_eq_true, Bool.and_eq_false_iff, decide_eq_true_eq, decide_eq_false_iff_not, Bool.not_eq_true', Bool.not_eq_false'] at hc1
    refine CW.skip (Q.tn ?_)
    refine CW.block ?_
    refine CW.seq ?_
    refine CW.region ?_
    refine W.p O.mv ?_
    refine W.q (O.call ⟨rfl, rfl⟩ (AV.cons (vt rfl) (AV.cons (vt rfl) (AV.nil))) (fun _ w hw => st_Cut1 _ 46 w (by omega))) ?_
    refine W.p O.mv ?_
    first | refine W.p O.extL ?_ | refine W.p O.ext ?_
    first | refine W.p O.extL ?_ | refine W.p O.ext ?_
    first | refine W.p O.extL ?_ | refine W.p O.ext ?_
    refine W.p O.as ?_
    refine W.p O.as ?_
    refine W.p O.as ?_
    refine WL.nil (Q.tn ?_)
    refine CW.seq ?_
    refine CW.seq ?_
    refine CW.region ?_
    refine W.p O.mv ?_
    first | refine W.p O.addN ?_ | refine W.p O.add ?_
    refine W.p O.as ?_
    refine WL.nil (Q.tn ?_)
    refine CW.seq ?_
    refine CW.region ?_
    refine W.p O.mv ?_
    refine W.q (O.call ⟨rfl, rfl⟩ (AV.cons (vt rfl) (AV.nil)) (fun _ w hw => nm_Label _ w (by omega))) ?_
    refine W.p O.nt ?_
    refine W.p O.mv ?_
    refine W.p O.mv ?_
    refine W.p O.gtr ?_
    refine W.p O.pkB ?_
    refine WL.nil (Q.tn ?_)
    refine CW.cond (vt rfl) (fun hc2 => ?_) (fun hc2 => ?_)
    · try simp only [Bool.cond_true_left, Bool.cond_false_right, Bool.or_eq_true, Bool.or_eq_false_iff, Bool.and_eq_true, Bool.and_eq_false_iff, decide_eq_true_eq, decide_eq_false_iff_not, Bool.not_eq_true', Bool.not_eq_false'] at hc2
      refine CW.seq ?_
      refine CW.region ?_
      refine W.p O.as ?_
      refine WL.nil (Q.tn ?_)
      refine CW.ret (Q.tr (Q.br (Q.tr (Q.br (Q.tr ?_)))))
      refine ⟨_, [], (RVs.tmp rfl RVs.nil), List.nil_sublist _, ?_⟩
      refine ⟨congrArg Value.bool ?_, rfl⟩
      rw [hr, hc1, nmF_step]
      rcases hc2 with h | h
      · rw [h]; rfl
      · rw [decide_eq_false (by omega)]; simp
    try simp only [Bool.cond_true_left, Bool.cond_false_right, Bool.or_eq_true, Bool.or_eq_false_iff, Bool.and_eq_true, Bool.and_eq_false_iff, decide_eq_true_eq, decide_eq_false_iff_not, Bool.not_eq_true', Bool.not_eq_false'] at hc2
    refine CW.skip (Q.tn ?_)
    refine CW.region ?_
    refine W.p O.mv ?_
    refine W.p O.mv ?_
    refine W.p O.as ?_
    refine W.p O.as ?_
    refine WL.nil (Q.bn (Q.tn ?_))
    refine ⟨(_, (cutB 46 rest).2.1, (cutB 46 rest).2.2), ?_, ?_, (by repeat (first | exact trivial | refine ⟨rfl, ?_⟩ | refine ⟨by (simp only [List.length_set]; rfl), ?_⟩)), (by repeat (first | exact List.Sublist.refl _ | exact List.sublist_append_left _ _ | exact List.nil_sublist _ | refine List.Sublist.append (List.Sublist.refl _) ?_ | apply List.Sublist.cons_cons | apply List.Sublist.cons | refine List.Sublist.trans ?_ (List.sublist_append_right _ _)))⟩
    · try dsimp only
      subst hc1
      rw [nmF_step] at hr
      refine ⟨by omega, by omega, by omega, ?_⟩
      rw [hr, hc2.1, decide_eq_true (by omega)]; rfl
    · try dsimp only
      subst hc1; cases hm : (cutB 46 rest).2.2 <;> simp only [hm, cond_true, cond_false, if_true] at hcl ⊢ <;> (try simp at hcl) <;> omega
  try simp only [Bool.cond_true_left, Bool.cond_false_right, Bool.or_eq_true, Bool.or_eq_false_iff, Bool.and_eq_true, Bool.and_eq_false_iff, decide_eq_true_eq, decide_eq_false_iff_not, Bool.not_eq_true', Bool.not_eq_false'] at hc1
  refine CW.exit (Q.te (Q.te (Q.bx (Q.tn ?_))))
  refine CW.seq ?_
  refine CW.region ?_
  refine W.p O.as ?_
  refine WL.nil (Q.tn ?_)
  refine CW.ret ?_
  refine ⟨_, [], (RVs.tmp rfl RVs.nil), List.nil_sublist _, ?_⟩
  refine ⟨congrArg Value.bool ?_, rfl⟩
  rw [hr]; simp [nmF, hc1]
theorem lower_int (b : UInt8) (h : 65 ≤ b.toNat ∧ b.toNat ≤ 90) : IntKind.u8.wrap (IntKind.u8.wrap ((b.toNat : Int) + 97) - 65) = ((lower b).toNat : Int) := by
  rw [lower, if_pos h, UInt8.toNat_add]
  show ((b.toNat + 97 : Int) % 256 - 65) % 256 = _
  simp only [UInt8.toNat_ofNat]; omega
theorem lower_int2 (b : UInt8) (h : 65 ≤ b.toNat ∧ b.toNat ≤ 90) : IntKind.u8.wrap ((b.toNat : Int) + 32) = ((lower b).toNat : Int) := by
  rw [lower, if_pos h, UInt8.toNat_add]
  show ((b.toNat + 32 : Int) % 256) = _
  simp only [UInt8.toNat_ofNat]; omega
set_option maxRecDepth 100000 in
theorem nm_Fold (s : List UInt8) (w : World) (hn : s.length ≤ 140737488355328) : Fn Try.prog 177 [.string (S s)] w [] fun v L' => v = .string (S (fold s)) ∧ L' = [] := by
  refine Fn.enter Try.func177 rfl rfl rfl rfl (Holds.nil w) ?_
  refine CW.seq ?_
  refine CW.region ?_
  refine W.p O.as ?_
  refine WL.nil (Q.tn ?_)
  refine CW.seq ?_
  refine CW.region ?_
  refine W.p O.mv ?_
  refine W.cvSB rfl (vt rfl) fun b1 c1 sp1 le1 => ?_
  refine W.p O.as ?_
  refine WL.nil (Q.tn ?_)
  refine CW.seq ?_
  refine CW.seq ?_
  refine CW.region ?_
  refine W.p O.mv ?_
  refine W.p O.lenL ?_
  refine W.p O.mv ?_
  refine WL.nil (Q.tn ?_)
  refine CW.block ?_
  refine CW.loop (X := Int × (List UInt8)) (fun ⟨i, xs⟩ => [(3, true, .slice (some ⟨b1, 0, none⟩) s.length c1), (8, true, .slice (some ⟨b1, 0, none⟩) s.length c1), (9, true, .int .i64 s.length), (10, true, .int .i64 i)]) (fun ⟨i, xs⟩ => [(b1, .cells (flat encB xs sp1).toArray 5 (c1, c1 + 1))]) (fun ⟨i, xs⟩ => 0 ≤ i ∧ i ≤ s.length ∧ xs.length = s.length ∧ xs = (s.take i.toNat).map lower ++ s.drop i.toNat) (fun ⟨i, xs⟩ => (s.length - i).toNat) (0, s) ?_ (by repeat (first | exact trivial | refine ⟨rfl, ?_⟩ | refine ⟨by (simp only [List.length_set]; rfl), ?_⟩)) (by repeat (first | exact List.Sublist.refl _ | exact List.sublist_append_left _ _ | exact List.nil_sublist _ | refine List.Sublist.append (List.Sublist.refl _) ?_ | apply List.Sublist.cons_cons | apply List.Sublist.cons | refine List.Sublist.trans ?_ (List.sublist_append_right _ _))) ?_
  · exact ⟨by omega, by omega, rfl, by simp⟩
  rintro ⟨i, xs⟩ hI
  try dsimp only at hI ⊢
  obtain ⟨h0, h1, hl, hx⟩ := hI
  refine CW.seq ?_
  refine CW.region ?_
  refine W.p O.lss ?_
  refine WL.nil (Q.tn ?_)
  refine CW.seq ?_
  refine CW.cond (vt rfl) (fun hc1 => ?_) (fun hc1 => ?_)
  · try simp only [Bool.cond_true_left, Bool.cond_false_right, Bool.or_eq_true, Bool.or_eq_false_iff, Bool.and_eq_true, Bool.and_eq_false_iff, decide_eq_true_eq, decide_eq_false_iff_not, Bool.not_eq_true', Bool.not_eq_false'] at hc1
    refine CW.skip (Q.tn ?_)
    refine CW.seq ?_
    refine CW.block ?_
    refine CW.seq ?_
    refine CW.region ?_
    refine W.p O.mv ?_
    refine W.p O.ixA ?_
    refine W.p O.ldE ?_
    refine W.p O.as ?_
    refine W.p O.as ?_
    refine WL.nil (Q.tn ?_)
    refine CW.seq ?_
    refine CW.region ?_
    refine W.p O.mv ?_
    refine W.p O.geq ?_
    refine W.p O.mv ?_
    refine W.p O.mv ?_
    refine W.p O.leq ?_
    refine W.p O.pkB ?_
    refine WL.nil (Q.tn ?_)
    refine CW.cond (vt rfl) (fun hc2 => ?_) (fun hc2 => ?_)
    · try simp only [Bool.cond_true_left, Bool.cond_false_right, Bool.or_eq_true, Bool.or_eq_false_iff, Bool.and_eq_true, Bool.and_eq_false_iff, decide_eq_true_eq, decide_eq_false_iff_not, Bool.not_eq_true', Bool.not_eq_false'] at hc2
      refine CW.region ?_
      refine W.p O.mv ?_
      refine W.p O.mv ?_
      refine W.p O.mv ?_
      refine W.p O.add ?_
      refine W.p O.sub ?_
      refine W.p O.ixA ?_
      refine W.stZ (lower (xs.getD i.toNat 0)) (vt rfl) (vt rfl) (by exact lower_int _ (by omega)) (by omega) (by omega) ?_
      refine WL.nil (Q.bn (Q.tn ?_))
      refine CW.region ?_
      first | refine W.p O.addN ?_ | refine W.p O.add ?_
      refine W.p O.mv ?_
      refine WL.nil (Q.tn ?_)
      refine ⟨(_, xs.set i.toNat (lower (xs.getD i.toNat 0))), ?_, ?_, (by repeat (first | exact trivial | refine ⟨rfl, ?_⟩ | refine ⟨by (simp only [List.length_set]; rfl), ?_⟩)), (by repeat (first | exact List.Sublist.refl _ | exact List.sublist_append_left _ _ | exact List.nil_sublist _ | refine List.Sublist.append (List.Sublist.refl _) ?_ | apply List.Sublist.cons_cons | apply List.Sublist.cons | refine List.Sublist.trans ?_ (List.sublist_append_right _ _)))⟩
      · try dsimp only
        have e := fold_step h0 hc1 hl hx
        refine ⟨by omega, by omega, by simpa using hl, e⟩
      · try dsimp only
        omega
    try simp only [Bool.cond_true_left, Bool.cond_false_right, Bool.or_eq_true, Bool.or_eq_false_iff, Bool.and_eq_true, Bool.and_eq_false_iff, decide_eq_true_eq, decide_eq_false_iff_not, Bool.not_eq_true', Bool.not_eq_false'] at hc2
    refine CW.skip (Q.bn (Q.tn ?_))
    refine CW.region ?_
    first | refine W.p O.addN ?_ | refine W.p O.add ?_
    refine W.p O.mv ?_
    refine WL.nil (Q.tn ?_)
    refine ⟨(_, xs), ?_, ?_, (by repeat (first | exact trivial | refine ⟨rfl, ?_⟩ | refine ⟨by (simp only [List.length_set]; rfl), ?_⟩)), (by repeat (first | exact List.Sublist.refl _ | exact List.sublist_append_left _ _ | exact List.nil_sublist _ | refine List.Sublist.append (List.Sublist.refl _) ?_ | apply List.Sublist.cons_cons | apply List.Sublist.cons | refine List.Sublist.trans ?_ (List.sublist_append_right _ _)))⟩
    · try dsimp only
      have e := fold_step h0 hc1 hl hx
      have e2 : lower (xs.getD i.toNat 0) = xs.getD i.toNat 0 := by rw [lower, if_neg (by omega)]
      rw [e2] at e
      refine ⟨by omega, by omega, hl, ?_⟩
      rw [← e, List.getD_eq_getElem?_getD, List.getElem?_eq_getElem (by omega)]; simp
    · try dsimp only
      omega
  try simp only [Bool.cond_true_left, Bool.cond_false_right, Bool.or_eq_true, Bool.or_eq_false_iff, Bool.and_eq_true, Bool.and_eq_false_iff, decide_eq_true_eq, decide_eq_false_iff_not, Bool.not_eq_true', Bool.not_eq_false'] at hc1
  refine CW.exit (Q.te (Q.te (Q.bx (Q.tn ?_))))
  refine CW.seq ?_
  refine CW.region ?_
  refine W.p O.mv ?_
  refine W.p (O.cvRow ⟨rfl, rfl⟩ (vt rfl) (by first | rfl | omega) (fun _ => ⟨_, rfl⟩)) ?_
  refine W.p O.as ?_
  refine WL.nil (Q.tn ?_)
  refine CW.ret ?_
  refine ⟨_, [], (RVs.tmp rfl RVs.nil), List.nil_sublist _, ?_⟩
  refine ⟨?_, rfl⟩
  have e : i = s.length := by omega
  rw [hx, e]; simp [fold]; rfl
end Go.Proofs.Ytkjcmdgideddnaa
