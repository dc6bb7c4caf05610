/- What the functions of package fqdn, and the document's, come to. Conditions: the texts are not longer than some 2^42 bytes. -/
import Derived.Test.YtkjcmdgideddnaaL3
import Derived.Test.YtkjcmdgideddnaaPFq
set_option linter.unusedVariables false
set_option linter.unusedSimpArgs false
namespace Go.Proofs.Ytkjcmdgideddnaa
open Go Go.RowKit
theorem and4 {f : Int} (h : 0 ≤ f ∧ f ≤ 15) : bits .and .i64 f 4 = 4 * ((f / 4) % 2) := by
  have key : ∀ k : Nat, k < 16 → bits .and .i64 (k : Int) 4 = 4 * (((k : Int) / 4) % 2) := by decide +kernel
  have := key f.toNat (by omega)
  rwa [show ((f.toNat : Nat) : Int) = f by omega] at this
theorem and4b {f : Int} (h : 0 ≤ f ∧ f ≤ 15) : bits .and .u8 f 4 = 4 * ((f / 4) % 2) := by
  have key : ∀ k : Nat, k < 16 → bits .and .u8 (k : Int) 4 = 4 * (((k : Int) / 4) % 2) := by decide +kernel
  have := key f.toNat (by omega)
  rwa [show ((f.toNat : Nat) : Int) = f by omega] at this
set_option maxRecDepth 100000 in
theorem fq_may (f : Int) (w : World) : Fn Try.prog 124 [.int .i64 f] w [] fun v L' => v = .bool (fqMay f) ∧ L' = [] := by
  refine Fn.enter Try.func124 rfl rfl rfl rfl (Holds.nil w) ?_
  refine CW.seq ?_
  refine CW.region ?_
  refine W.p O.as ?_
  refine WL.nil (Q.tn ?_)
  refine CW.seq ?_
  refine CW.region ?_
  refine W.p O.mv ?_
  refine W.p O.geq ?_
  refine W.p O.mv ?_
  refine W.p O.mv ?_
  refine W.p O.leq ?_
  refine W.p O.pkB ?_
  refine W.p O.mv ?_
  refine W.p O.mv ?_
  refine W.p O.and ?_
  refine W.p O.neI ?_
  refine W.p O.pkB ?_
  refine W.p O.as ?_
  refine WL.nil (Q.tn ?_)
  refine CW.ret ?_
  refine ⟨_, [], (RVs.tmp rfl RVs.nil), List.nil_sublist _, ?_⟩
  refine ⟨congrArg Value.bool ?_, rfl⟩
  unfold fqMay
  by_cases h1 : 0 ≤ f
  · by_cases h2 : f ≤ 15
    · rw [and4 ⟨h1, h2⟩]; rcases (by omega : (f / 4) % 2 = 0 ∨ (f / 4) % 2 = 1) with e | e <;> simp [h1, h2, e]
    · simp [h1, h2]
  · simp [h1]
set_option maxRecDepth 100000 in
theorem fq_whole (t : List UInt8) (w : World) (hn : t.length ≤ 140737488355328) : Fn Try.prog 125 [.string (S t)] w [] fun v L' => v = .tuple #[.string (S (grN (getName t 0))), .bool (whole t)] ∧ L' = [] := by
  refine Fn.enter Try.func125 rfl rfl rfl rfl (Holds.nil w) ?_
  refine CW.seq ?_
  refine CW.region ?_
  refine W.p O.as ?_
  refine W.p O.as ?_
  refine WL.nil (Q.tn ?_)
  refine CW.seq ?_
  refine CW.region ?_
  refine W.p O.mv ?_
  refine W.q (O.call ⟨rfl, rfl⟩ (AV.cons (vt rfl) (AV.cons (vt rfl) (AV.nil))) (fun _ w hw => wr_Get t 0 w hn)) ?_
  refine W.p O.mv ?_
  refine W.p O.ext ?_
  refine W.p O.ext ?_
  refine W.p O.ext ?_
  refine W.p O.as ?_
  refine W.p O.as ?_
  refine W.p O.as ?_
  refine WL.nil (Q.tn ?_)
  refine CW.seq ?_
  refine CW.region ?_
  refine W.p O.mv ?_
  refine W.p O.mv ?_
  refine W.p O.eqI ?_
  refine W.p O.mv ?_
  refine W.p O.mv ?_
  refine W.p O.mv ?_
  refine W.p O.len ?_
  refine W.p O.eqI ?_
  refine W.p O.pkB ?_
  refine W.p O.as ?_
  refine W.p O.as ?_
  refine WL.nil (Q.tn ?_)
  refine CW.ret ?_
  refine ⟨_, [], (RVs.tmp rfl (RVs.tmp rfl RVs.nil)), List.nil_sublist _, ?_⟩
  refine ⟨?_, rfl⟩
  have e : whole t = (bif decide (grE (getName t 0) = 0) then decide (grT (getName t 0) = t.length) else false) := by unfold whole; cases decide (grE (getName t 0) = 0) <;> rfl
  rw [e]; rfl
set_option maxRecDepth 100000 in
theorem fq_plain (t : List UInt8) (w : World) (hn : t.length ≤ 140737488355328) : Fn Try.prog 126 [.string (S t)] w [] fun v L' => v = .bool (scF t).isSome ∧ L' = [] := by
  refine Fn.enter Try.func126 rfl rfl rfl rfl (Holds.nil w) ?_
  refine CW.seq ?_
  refine CW.region ?_
  refine W.p O.as ?_
  refine WL.nil (Q.tn ?_)
  refine CW.seq ?_
  refine CW.block ?_
  refine CW.loop (X := (List UInt8)) (fun u => [(0, true, .string (S u))]) (fun u => []) (fun u => u.length ≤ t.length ∧ (scF t).isSome = (scF u).isSome) (fun u => u.length) (t) ?_ (by repeat (first | exact trivial | refine ⟨rfl, ?_⟩ | refine ⟨by (simp only [List.length_set]; rfl), ?_⟩)) (by repeat (first | exact List.Sublist.refl _ | exact List.sublist_append_left _ _ | exact List.nil_sublist _ | refine List.Sublist.append (List.Sublist.refl _) ?_ | apply List.Sublist.cons₂ | apply List.Sublist.cons | refine List.Sublist.trans ?_ (List.sublist_append_right _ _))) ?_
  · exact ⟨by omega, rfl⟩
  rintro u hI
  try dsimp only at hI ⊢
  obtain ⟨hl, hs⟩ := hI
  refine CW.seq ?_
  refine CW.seq ?_
  refine CW.region ?_
  refine W.p O.mv ?_
  refine W.p O.neS ?_
  refine W.p O.mv ?_
  refine W.p O.mv ?_
  first | refine W.p O.idxS ?_ | refine W.p (O.idxS (h := fun hg => by simp only [cond_true, cond_false, Bool.true_and, Bool.cond_false_right, Bool.cond_true_left, Bool.and_eq_true, Bool.or_eq_true, Bool.or_eq_false_iff, Bool.and_eq_false_iff, Bool.not_eq_true', Bool.not_eq_false', decide_eq_true_eq, decide_eq_false_iff_not, Int.reduceToNat] at *; omega)) ?_
  refine W.p O.neI ?_
  refine W.p O.pkB ?_
  refine WL.nil (Q.tn ?_)
  refine CW.cond (vt rfl) (fun hc1 => ?_) (fun hc1 => ?_)
  · try simp only [Bool.cond_true_left, Bool.cond_false_right, Bool.or_eq_true, Bool.or_eq_false_iff, Bool.and_eq_true, Bool.and_eq_false_iff, decide_eq_true_eq, decide_eq_false_iff_not, Bool.not_eq_true', Bool.not_eq_false'] at hc1
    refine CW.skip (Q.tn ?_)
    refine CW.block ?_
    refine CW.seq ?_
    refine CW.seq ?_
    refine CW.region ?_
    refine W.p O.mv ?_
    first | refine W.p O.idxS ?_ | refine W.p (O.idxS (h := fun hg => by simp only [cond_true, cond_false, Bool.true_and, Bool.cond_false_right, Bool.cond_true_left, Bool.and_eq_true, Bool.or_eq_true, Bool.or_eq_false_iff, Bool.and_eq_false_iff, Bool.not_eq_true', Bool.not_eq_false', decide_eq_true_eq, decide_eq_false_iff_not, Int.reduceToNat] at *; omega)) ?_
    first | refine W.p O.cvB ?_ | refine W.p O.cv ?_
    refine W.p O.gtr ?_
    refine W.p O.mv ?_
    refine W.p O.mv ?_
    first | refine W.p O.idxS ?_ | refine W.p (O.idxS (h := fun hg => by simp only [cond_true, cond_false, Bool.true_and, Bool.cond_false_right, Bool.cond_true_left, Bool.and_eq_true, Bool.or_eq_true, Bool.or_eq_false_iff, Bool.and_eq_false_iff, Bool.not_eq_true', Bool.not_eq_false', decide_eq_true_eq, decide_eq_false_iff_not, Int.reduceToNat] at *; omega)) ?_
    first | refine W.p O.cvB ?_ | refine W.p O.cv ?_
    refine W.p O.mv ?_
    refine W.p O.len ?_
    refine W.p O.geq ?_
    refine W.p O.pkB ?_
    refine WL.nil (Q.tn ?_)
    refine CW.cond (vt rfl) (fun hc2 => ?_) (fun hc2 => ?_)
    · try simp only [Bool.cond_true_left, Bool.cond_false_right, Bool.or_eq_true, Bool.or_eq_false_iff, Bool.and_eq_true, Bool.and_eq_false_iff, decide_eq_true_eq, decide_eq_false_iff_not, Bool.not_eq_true', Bool.not_eq_false'] at hc2
      refine CW.seq ?_
      refine CW.region ?_
      refine W.p O.as ?_
      refine WL.nil (Q.tn ?_)
      refine CW.ret (Q.tr (Q.br (Q.tr (Q.br (Q.tr ?_)))))
      refine ⟨_, [], (RVs.tmp rfl RVs.nil), List.nil_sublist _, ?_⟩
      refine ⟨congrArg Value.bool ?_, rfl⟩
      rw [hs, plain_bad (u := u) hc1.1 (by have := hc1.2; exact fun e => this (by rw [show u.getD (0 : Int).toNat 0 = u.getD 0 0 from rfl, e]; rfl)) (by have := hc2; rw [show u.getD (0 : Int).toNat 0 = u.getD 0 0 from rfl] at this; omega)]; rfl
    · try simp only [Bool.cond_true_left, Bool.cond_false_right, Bool.or_eq_true, Bool.or_eq_false_iff, Bool.and_eq_true, Bool.and_eq_false_iff, decide_eq_true_eq, decide_eq_false_iff_not, Bool.not_eq_true', Bool.not_eq_false'] at hc2
      refine CW.skip (Q.tn ?_)
      refine CW.region ?_
      refine W.p O.mv ?_
      refine W.p O.mv ?_
      first | refine W.p O.idxS ?_ | refine W.p (O.idxS (h := fun hg => by simp only [cond_true, cond_false, Bool.true_and, Bool.cond_false_right, Bool.cond_true_left, Bool.and_eq_true, Bool.or_eq_true, Bool.or_eq_false_iff, Bool.and_eq_false_iff, Bool.not_eq_true', Bool.not_eq_false', decide_eq_true_eq, decide_eq_false_iff_not, Int.reduceToNat] at *; omega)) ?_
      first | refine W.p O.cvB ?_ | refine W.p O.cv ?_
      first | refine W.p O.addN ?_ | refine W.p O.add ?_
      refine W.p O.slcL ?_
      refine W.p O.as ?_
      refine WL.nil (Q.bn (Q.tn ?_))
      refine ⟨(_), ?_, ?_, (by repeat (first | exact trivial | refine ⟨rfl, ?_⟩ | refine ⟨by (simp only [List.length_set]; rfl), ?_⟩)), (by repeat (first | exact List.Sublist.refl _ | exact List.sublist_append_left _ _ | exact List.nil_sublist _ | refine List.Sublist.append (List.Sublist.refl _) ?_ | apply List.Sublist.cons₂ | apply List.Sublist.cons | refine List.Sublist.trans ?_ (List.sublist_append_right _ _)))⟩
      · try dsimp only
        have hst := plain_step (u := u) hc1.1 (by have := hc1.2; exact fun e => this (by rw [show u.getD (0 : Int).toNat 0 = u.getD 0 0 from rfl, e]; rfl)) (by have := hc2; rw [show u.getD (0 : Int).toNat 0 = u.getD 0 0 from rfl] at this; omega)
        refine ⟨by simp only [List.length_drop]; omega, ?_⟩
        rw [hs, hst, Option.isSome_map]
        rw [show (1 + ((u.getD (0 : Int).toNat 0).toNat : Int)).toNat = 1 + (u.getD 0 0).toNat by rw [show u.getD (0 : Int).toNat 0 = u.getD 0 0 from rfl]; omega]
      · try dsimp only
        have : 0 < u.length := List.length_pos_iff.2 hc1.1; simp only [List.length_drop]; omega
  · try simp only [Bool.cond_true_left, Bool.cond_false_right, Bool.or_eq_true, Bool.or_eq_false_iff, Bool.and_eq_true, Bool.and_eq_false_iff, decide_eq_true_eq, decide_eq_false_iff_not, Bool.not_eq_true', Bool.not_eq_false'] at hc1
    refine CW.exit (Q.te (Q.te (Q.bx (Q.tn ?_))))
    refine CW.seq ?_
    refine CW.region ?_
    refine W.p O.as ?_
    refine WL.nil (Q.tn ?_)
    refine CW.ret ?_
    refine ⟨_, [], (RVs.tmp rfl RVs.nil), List.nil_sublist _, ?_⟩
    refine ⟨congrArg Value.bool ?_, rfl⟩
    rw [hs, plain_nil (u := u) (by have := hc1; rw [show u.getD (0 : Int).toNat 0 = u.getD 0 0 from rfl] at this; rcases this with h | h; exact .inl h; exact .inr (by omega))]
set_option maxRecDepth 100000 in
theorem fq_Put (f : Int) (nm : List UInt8) (w : World) (hn : nm.length ≤ 140737488355328) : Fn Try.prog 66 [.int .i64 f, .string (S nm)] w [] fun v L' => v = .tuple #[.string (S (fqPut f nm).1), .int .i64 (fqPut f nm).2] ∧ L' = [] := by
  have hm := nmPut_more 0 [] nm
  have hb1 : (beb f 1).length = 1 := rfl
  refine Fn.enter Try.func66 rfl rfl rfl rfl (Holds.nil w) ?_
  refine CW.seq ?_
  refine CW.region ?_
  refine W.p O.as ?_
  refine W.p O.as ?_
  refine WL.nil (Q.tn ?_)
  refine CW.seq ?_
  refine CW.seq ?_
  refine CW.region ?_
  refine W.p O.mv ?_
  refine W.q (O.call ⟨rfl, rfl⟩ (AV.cons (vt rfl) (AV.nil)) (fun _ w hw => fq_may _ w)) ?_
  refine W.p O.nt ?_
  refine W.p O.mv ?_
  refine W.p O.mv ?_
  refine W.q (O.call ⟨rfl, rfl⟩ (AV.cons (vs rfl) (AV.nil)) (fun _ w hw => nm_May _ w (by omega))) ?_
  refine W.p O.nt ?_
  refine W.p O.pkB ?_
  refine WL.nil (Q.tn ?_)
  refine CW.cond (vt rfl) (fun hc1 => ?_) (fun hc1 => ?_)
  · try simp only [Bool.cond_true_left, Bool.cond_false_right, Bool.or_eq_true, Bool.or_eq_false_iff, Bool.and_eq_true, Bool.and_eq_false_iff, decide_eq_true_eq, decide_eq_false_iff_not, Bool.not_eq_true', Bool.not_eq_false'] at hc1
    refine CW.seq ?_
    refine CW.region ?_
    refine W.p O.as ?_
    refine W.p O.as ?_
    refine WL.nil (Q.tn ?_)
    refine CW.ret (Q.tr ?_)
    refine ⟨_, [], (RVs.tmp rfl (RVs.tmp rfl RVs.nil)), List.nil_sublist _, ?_⟩
    refine ⟨?_, rfl⟩
    rw [fqPut, if_neg (by rintro ⟨a, b⟩; rcases hc1 with h | h; rw [a] at h; cases h; rw [b] at h; cases h)]; rfl
  · try simp only [Bool.cond_true_left, Bool.cond_false_right, Bool.or_eq_true, Bool.or_eq_false_iff, Bool.and_eq_true, Bool.and_eq_false_iff, decide_eq_true_eq, decide_eq_false_iff_not, Bool.not_eq_true', Bool.not_eq_false'] at hc1
    refine CW.skip (Q.tn ?_)
    refine CW.seq ?_
    refine CW.region ?_
    refine W.p O.mv ?_
    refine W.callN (first := []) (cap := []) rfl (vt rfl) (AV.cons (vt rfl) (AV.cons (vt rfl) (AV.cons (vt rfl) (AV.nil)))) (fun w hu => wr_Put 0 [] nm none 0 w In.nil (by decide) (by simp) hn) ?_; rintro _ _ ⟨o11, c11, sp11, rfl, ok11, rfl⟩
    refine W.p O.mv ?_
    refine W.p O.ext ?_
    refine W.p O.ext ?_
    refine W.p O.ext ?_
    refine W.p O.as ?_
    refine W.p O.as ?_
    refine W.p O.as ?_
    refine WL.nil (Q.tn ?_)
    refine CW.seq ?_
    refine CW.region ?_
    refine W.p O.mv ?_
    refine W.q (O.call ⟨rfl, rfl⟩ (AV.cons (vt rfl) (AV.cons (vt rfl) (AV.nil))) (fun _ w hw => be_Bytes _ 1 _ (by decide))) ?_
    refine W.p O.addS ?_
    refine W.p O.mv ?_
    refine W.p O.addS ?_
    refine W.p O.as ?_
    refine W.p O.as ?_
    refine WL.nil (Q.tn ?_)
    refine CW.ret ?_
    refine ⟨_, [], (RVs.tmp rfl (RVs.tmp rfl RVs.nil)), List.nil_sublist _, ?_⟩
    refine ⟨?_, rfl⟩
    rw [fqPut, if_pos hc1]; rfl
set_option maxRecDepth 100000 in
theorem fq_Get (s : List UInt8) (w : World) (hn : s.length ≤ 4398046511104) : Fn Try.prog 68 [.string (S s)] w [] fun v L' => v = .tuple #[.int .i64 (fqGet s).1, .string (S (fqGet s).2.1), .int .i64 (fqGet s).2.2] ∧ L' = [] := by
  refine Fn.enter Try.func68 rfl rfl rfl rfl (Holds.nil w) ?_
  refine CW.seq ?_
  refine CW.region ?_
  refine W.p O.as ?_
  refine W.p O.as ?_
  refine W.p O.as ?_
  refine WL.nil (Q.tn ?_)
  refine CW.seq ?_
  refine CW.seq ?_
  refine CW.region ?_
  refine W.p O.mv ?_
  refine W.p O.len ?_
  refine W.p O.lss ?_
  refine W.p O.mv ?_
  refine W.p O.mv ?_
  first | refine W.p O.idxS ?_ | refine W.p (O.idxS (h := fun hg => by simp only [cond_true, cond_false, Bool.true_and, Bool.cond_false_right, Bool.cond_true_left, Bool.and_eq_true, Bool.or_eq_true, Bool.or_eq_false_iff, Bool.and_eq_false_iff, Bool.not_eq_true', Bool.not_eq_false', decide_eq_true_eq, decide_eq_false_iff_not, Int.reduceToNat] at *; omega)) ?_
  first | refine W.p O.cvB ?_ | refine W.p O.cv ?_
  refine W.q (O.call ⟨rfl, rfl⟩ (AV.cons (vs rfl) (AV.nil)) (fun _ w hw => fq_may _ w)) ?_
  refine W.p O.nt ?_
  refine W.p O.pkB ?_
  refine WL.nil (Q.tn ?_)
  refine CW.cond (vt rfl) (fun hc1 => ?_) (fun hc1 => ?_)
  · try simp only [Bool.cond_true_left, Bool.cond_false_right, Bool.or_eq_true, Bool.or_eq_false_iff, Bool.and_eq_true, Bool.and_eq_false_iff, decide_eq_true_eq, decide_eq_false_iff_not, Bool.not_eq_true', Bool.not_eq_false'] at hc1
    refine CW.seq ?_
    refine CW.region ?_
    refine W.p O.as ?_
    refine W.p O.as ?_
    refine W.p O.as ?_
    refine WL.nil (Q.tn ?_)
    refine CW.ret (Q.tr ?_)
    refine ⟨_, [], (RVs.tmp rfl (RVs.tmp rfl (RVs.tmp rfl RVs.nil))), List.nil_sublist _, ?_⟩
    refine ⟨?_, rfl⟩
    rw [fqGet_bad (by rcases hc1 with h | h; exact .inl (by omega); exact .inr h)]; rfl
  · try simp only [Bool.cond_true_left, Bool.cond_false_right, Bool.or_eq_true, Bool.or_eq_false_iff, Bool.and_eq_true, Bool.and_eq_false_iff, decide_eq_true_eq, decide_eq_false_iff_not, Bool.not_eq_true', Bool.not_eq_false'] at hc1
    refine CW.skip (Q.tn ?_)
    refine CW.seq ?_
    refine CW.draw 7 rfl (by kernel_rfl) ?_
    refine WQ.p O.mv ?_
    first | refine WQ.p O.idxS ?_ | refine WQ.p (O.idxS (h := fun hg => by simp only [cond_true, cond_false, Bool.true_and, Bool.cond_false_right, Bool.cond_true_left, Bool.and_eq_true, Bool.or_eq_true, Bool.or_eq_false_iff, Bool.and_eq_false_iff, Bool.not_eq_true', Bool.not_eq_false', decide_eq_true_eq, decide_eq_false_iff_not, Int.reduceToNat] at *; omega)) ?_
    first | refine WQ.p O.cvB ?_ | refine WQ.p O.cv ?_
    refine WQ.p O.mv ?_
    refine WQ.p O.slcL ?_
    refine WQ.p O.as ?_
    refine WQ.p O.as ?_
    refine WQ.nil ?_
    refine WL.nil (Q.tn ?_)
    refine CW.seq ?_
    refine CW.seq ?_
    refine CW.region ?_
    refine W.p O.mv ?_
    refine W.q (O.call ⟨rfl, rfl⟩ (AV.cons (vt rfl) (AV.nil)) (fun _ w hw => fq_whole _ w (by simp only [List.length_drop]; omega))) ?_
    refine W.p O.mv ?_
    refine W.p O.ext ?_
    refine W.p O.ext ?_
    refine W.p O.as ?_
    refine W.p O.as ?_
    refine WL.nil (Q.tn ?_)
    refine CW.seq ?_
    refine CW.region ?_
    refine W.p O.mv ?_
    refine W.p O.mv ?_
    refine W.p O.mv ?_
    refine W.q (O.call ⟨rfl, rfl⟩ (AV.cons (vs rfl) (AV.nil)) (fun _ w hw => fq_plain _ w (by simp only [List.length_drop]; omega))) ?_
    refine W.p O.pkB ?_
    refine WL.nil (Q.tn ?_)
    refine CW.cond (vt rfl) (fun hc2 => ?_) (fun hc2 => ?_)
    · try simp only [Bool.cond_true_left, Bool.cond_false_right, Bool.or_eq_true, Bool.or_eq_false_iff, Bool.and_eq_true, Bool.and_eq_false_iff, decide_eq_true_eq, decide_eq_false_iff_not, Bool.not_eq_true', Bool.not_eq_false'] at hc2
      refine CW.seq ?_
      refine CW.region ?_
      refine W.p O.mv ?_
      refine W.p O.mv ?_
      refine W.p O.as ?_
      refine W.p O.as ?_
      refine W.p O.as ?_
      refine WL.nil (Q.tn ?_)
      refine CW.ret (Q.tr ?_)
      refine ⟨_, [], (RVs.tmp rfl (RVs.tmp rfl (RVs.tmp rfl RVs.nil))), List.nil_sublist _, ?_⟩
      refine ⟨?_, rfl⟩
      rw [fqGet_some (nm := grN (getName (s.drop 3) 0)) (by omega) hc1.2 (by rw [fq_two]; exact if_pos ⟨hc2.2, hc2.1⟩)]; rfl
    · try simp only [Bool.cond_true_left, Bool.cond_false_right, Bool.or_eq_true, Bool.or_eq_false_iff, Bool.and_eq_true, Bool.and_eq_false_iff, decide_eq_true_eq, decide_eq_false_iff_not, Bool.not_eq_true', Bool.not_eq_false'] at hc2
      refine CW.skip (Q.tn ?_)
      refine CW.seq ?_
      refine CW.seq ?_
      refine CW.region ?_
      refine W.p O.mv ?_
      refine W.p O.addS ?_
      refine W.q (O.call ⟨rfl, rfl⟩ (AV.cons (vt rfl) (AV.nil)) (fun _ w hw => fq_whole _ w (by simp only [List.length_append, List.length_drop, List.length_cons, List.length_nil]; omega))) ?_
      refine W.p O.mv ?_
      refine W.p O.ext ?_
      refine W.p O.ext ?_
      refine W.p O.as ?_
      refine W.p O.as ?_
      refine WL.nil (Q.tn ?_)
      refine CW.seq ?_
      refine CW.region ?_
      refine W.p O.mv ?_
      refine W.p O.mv ?_
      refine W.p O.mv ?_
      refine W.q (O.call ⟨rfl, rfl⟩ (AV.cons (vs rfl) (AV.nil)) (fun _ w hw => fq_plain _ w (by simp only [List.length_drop]; omega))) ?_
      refine W.p O.pkB ?_
      refine WL.nil (Q.tn ?_)
      refine CW.cond (vt rfl) (fun hc3 => ?_) (fun hc3 => ?_)
      · try simp only [Bool.cond_true_left, Bool.cond_false_right, Bool.or_eq_true, Bool.or_eq_false_iff, Bool.and_eq_true, Bool.and_eq_false_iff, decide_eq_true_eq, decide_eq_false_iff_not, Bool.not_eq_true', Bool.not_eq_false'] at hc3
        refine CW.seq ?_
        refine CW.region ?_
        refine W.p O.mv ?_
        refine W.p O.mv ?_
        refine W.p O.as ?_
        refine W.p O.as ?_
        refine W.p O.as ?_
        refine WL.nil (Q.tn ?_)
        refine CW.ret (Q.tr ?_)
        refine ⟨_, [], (RVs.tmp rfl (RVs.tmp rfl (RVs.tmp rfl RVs.nil))), List.nil_sublist _, ?_⟩
        refine ⟨?_, rfl⟩
        have hc2' : ¬ ((scF (s.drop 3)).isSome = true ∧ whole (s.drop 3) = true) := by rintro ⟨a, b⟩; rcases hc2 with h | h; (have h : whole (s.drop 3) = false := h); rw [b] at h; cases h; (have h : (scF (s.drop 3)).isSome = false := h); rw [a] at h; cases h
        rw [fqGet_some (nm := grN (getName (s.drop 3 ++ [0]) 0)) (by omega) hc1.2 (by rw [fq_two, if_neg hc2']; exact if_pos ⟨hc3.2, hc3.1⟩)]; rfl
      · try simp only [Bool.cond_true_left, Bool.cond_false_right, Bool.or_eq_true, Bool.or_eq_false_iff, Bool.and_eq_true, Bool.and_eq_false_iff, decide_eq_true_eq, decide_eq_false_iff_not, Bool.not_eq_true', Bool.not_eq_false'] at hc3
        refine CW.skip (Q.tn ?_)
        refine CW.seq ?_
        refine CW.region ?_
        refine W.p O.as ?_
        refine W.p O.as ?_
        refine W.p O.as ?_
        refine WL.nil (Q.tn ?_)
        refine CW.ret ?_
        refine ⟨_, [], (RVs.tmp rfl (RVs.tmp rfl (RVs.tmp rfl RVs.nil))), List.nil_sublist _, ?_⟩
        refine ⟨?_, rfl⟩
        have hc2' : ¬ ((scF (s.drop 3)).isSome = true ∧ whole (s.drop 3) = true) := by rintro ⟨a, b⟩; rcases hc2 with h | h; (have h : whole (s.drop 3) = false := h); rw [b] at h; cases h; (have h : (scF (s.drop 3)).isSome = false := h); rw [a] at h; cases h
        have hc3' : ¬ ((scF (s.drop 3)).isSome = true ∧ whole (s.drop 3 ++ [0]) = true) := by rintro ⟨a, b⟩; rcases hc3 with h | h; (have h : whole (s.drop 3 ++ [0]) = false := h); rw [b] at h; cases h; (have h : (scF (s.drop 3)).isSome = false := h); rw [a] at h; cases h
        rw [fqGet_no (by rw [fq_two, if_neg hc2', if_neg hc3'])]; rfl
set_option maxRecDepth 100000 in
theorem ref_PutFqdn (f : Int) (nm : List UInt8) (w : World) (hn : nm.length ≤ 4398046511104) : Fn Try.prog 67 [.int .i64 f, .string (S nm)] w [] fun v L' => v = .tuple #[.string (S (fqPut f nm).1), .int .i64 (fqPut f nm).2] ∧ L' = [] := by
  have hm := nmPut_more 0 [] nm
  have hb1 : (beb f 1).length = 1 := rfl
  refine Fn.enter Try.func67 rfl rfl rfl rfl (Holds.nil w) ?_
  refine CW.seq ?_
  refine CW.region ?_
  refine W.p O.as ?_
  refine W.p O.as ?_
  refine WL.nil (Q.tn ?_)
  refine CW.seq ?_
  refine CW.seq ?_
  refine CW.region ?_
  refine W.p O.mv ?_
  refine W.p O.lss ?_
  refine W.p O.mv ?_
  refine W.p O.mv ?_
  refine W.p O.gtr ?_
  refine W.p O.pkB ?_
  refine W.p O.mv ?_
  refine W.p O.mv ?_
  refine W.p O.and ?_
  refine W.p O.eqI ?_
  refine W.p O.pkB ?_
  refine W.p O.mv ?_
  refine W.p O.mv ?_
  refine W.q (O.call ⟨rfl, rfl⟩ (AV.cons (vs rfl) (AV.nil)) (fun _ w hw => ref_NameMay _ w (by omega))) ?_
  refine W.p O.nt ?_
  refine W.p O.pkB ?_
  refine WL.nil (Q.tn ?_)
  refine CW.cond (vt rfl) (fun hc1 => ?_) (fun hc1 => ?_)
  · try simp only [Bool.cond_true_left, Bool.cond_false_right, Bool.or_eq_true, Bool.or_eq_false_iff, Bool.and_eq_true, Bool.and_eq_false_iff, decide_eq_true_eq, decide_eq_false_iff_not, Bool.not_eq_true', Bool.not_eq_false'] at hc1
    refine CW.seq ?_
    refine CW.region ?_
    refine W.p O.as ?_
    refine W.p O.as ?_
    refine WL.nil (Q.tn ?_)
    refine CW.ret (Q.tr ?_)
    refine ⟨_, [], (RVs.tmp rfl (RVs.tmp rfl RVs.nil)), List.nil_sublist _, ?_⟩
    refine ⟨?_, rfl⟩
    have hno : ¬ (fqMay f = true ∧ nmMay nm = true) := by rintro ⟨a, b⟩; simp only [fqMay, Bool.and_eq_true, decide_eq_true_eq] at a; rw [and4 a.1] at hc1; rcases hc1 with ((h | h) | h) | h; omega; omega; omega; rw [b] at h; cases h
    rw [fqPut, if_neg hno]; rfl
  · try simp only [Bool.cond_true_left, Bool.cond_false_right, Bool.or_eq_true, Bool.or_eq_false_iff, Bool.and_eq_true, Bool.and_eq_false_iff, decide_eq_true_eq, decide_eq_false_iff_not, Bool.not_eq_true', Bool.not_eq_false'] at hc1
    refine CW.skip (Q.tn ?_)
    refine CW.seq ?_
    refine CW.region ?_
    refine W.p O.mv ?_
    refine W.callN (first := []) (cap := []) rfl (vt rfl) (AV.cons (vt rfl) (AV.cons (vt rfl) (AV.cons (vt rfl) (AV.nil)))) (fun w hu => ref_PutName 0 [] nm none 0 w In.nil (by decide) (by simp) hn) ?_; rintro _ _ ⟨o11, c11, sp11, rfl, ok11, rfl⟩
    refine W.p O.mv ?_
    refine W.p O.ext ?_
    refine W.p O.ext ?_
    refine W.p O.ext ?_
    refine W.p O.as ?_
    refine W.p O.as ?_
    refine W.p O.as ?_
    refine WL.nil (Q.tn ?_)
    refine CW.seq ?_
    refine CW.region ?_
    refine W.p O.mv ?_
    refine W.q (O.call ⟨rfl, rfl⟩ (AV.cons (vt rfl) (AV.cons (vt rfl) (AV.nil))) (fun _ w hw => ref_Num _ 1 w (by decide) (by decide))) ?_
    refine W.p O.addS ?_
    refine W.p O.mv ?_
    refine W.p O.addS ?_
    refine W.p O.as ?_
    refine W.p O.as ?_
    refine WL.nil (Q.tn ?_)
    refine CW.ret ?_
    refine ⟨_, [], (RVs.tmp rfl (RVs.tmp rfl RVs.nil)), List.nil_sublist _, ?_⟩
    refine ⟨?_, rfl⟩
    have hyes : fqMay f = true := by obtain ⟨⟨⟨a, b⟩, c⟩, d⟩ := hc1; rw [and4 ⟨by omega, by omega⟩] at c; simp only [fqMay, Bool.and_eq_true, decide_eq_true_eq]; omega
    rw [fqPut, if_pos ⟨hyes, hc1.2⟩]; rfl
set_option maxRecDepth 100000 in
theorem ref_GetFqdn (s : List UInt8) (w : World) (hn : s.length ≤ 4398046511104) : Fn Try.prog 69 [.string (S s)] w [] fun v L' => v = .tuple #[.int .i64 (fqGet s).1, .string (S (fqGet s).2.1), .int .i64 (fqGet s).2.2] ∧ L' = [] := by
  refine Fn.enter Try.func69 rfl rfl rfl rfl (Holds.nil w) ?_
  refine CW.seq ?_
  refine CW.region ?_
  refine W.p O.as ?_
  refine W.p O.as ?_
  refine W.p O.as ?_
  refine WL.nil (Q.tn ?_)
  refine CW.seq ?_
  refine CW.seq ?_
  refine CW.region ?_
  refine W.p O.mv ?_
  refine W.p O.len ?_
  refine W.p O.lss ?_
  refine W.p O.mv ?_
  refine W.p O.mv ?_
  first | refine W.p O.idxS ?_ | refine W.p (O.idxS (h := fun hg => by simp only [cond_true, cond_false, Bool.true_and, Bool.cond_false_right, Bool.cond_true_left, Bool.and_eq_true, Bool.or_eq_true, Bool.or_eq_false_iff, Bool.and_eq_false_iff, Bool.not_eq_true', Bool.not_eq_false', decide_eq_true_eq, decide_eq_false_iff_not, Int.reduceToNat] at *; omega)) ?_
  refine W.p O.gtr ?_
  refine W.p O.pkB ?_
  refine W.p O.mv ?_
  refine W.p O.mv ?_
  first | refine W.p O.idxS ?_ | refine W.p (O.idxS (h := fun hg => by simp only [cond_true, cond_false, Bool.true_and, Bool.cond_false_right, Bool.cond_true_left, Bool.and_eq_true, Bool.or_eq_true, Bool.or_eq_false_iff, Bool.and_eq_false_iff, Bool.not_eq_true', Bool.not_eq_false', decide_eq_true_eq, decide_eq_false_iff_not, Int.reduceToNat] at *; omega)) ?_
  refine W.p O.and ?_
  refine W.p O.eqI ?_
  refine W.p O.pkB ?_
  refine WL.nil (Q.tn ?_)
  refine CW.cond (vt rfl) (fun hc1 => ?_) (fun hc1 => ?_)
  · try simp only [Bool.cond_true_left, Bool.cond_false_right, Bool.or_eq_true, Bool.or_eq_false_iff, Bool.and_eq_true, Bool.and_eq_false_iff, decide_eq_true_eq, decide_eq_false_iff_not, Bool.not_eq_true', Bool.not_eq_false'] at hc1
    refine CW.seq ?_
    refine CW.region ?_
    refine W.p O.as ?_
    refine W.p O.as ?_
    refine W.p O.as ?_
    refine WL.nil (Q.tn ?_)
    refine CW.ret (Q.tr ?_)
    refine ⟨_, [], (RVs.tmp rfl (RVs.tmp rfl (RVs.tmp rfl RVs.nil))), List.nil_sublist _, ?_⟩
    refine ⟨?_, rfl⟩
    have hbd : s.length < 3 ∨ fqMay (s.getD 0 0).toNat = false := by by_cases h3 : s.length < 3; exact .inl h3; refine .inr ?_; rw [Bool.eq_false_iff]; intro a; simp only [fqMay, Bool.and_eq_true, decide_eq_true_eq] at a; rw [and4b (f := ((s.getD (0 : Int).toNat 0).toNat : Int)) a.1] at hc1; have e0 : s.getD (0 : Int).toNat 0 = s.getD 0 0 := rfl; rw [e0] at hc1; omega
    rw [fqGet_bad hbd]; rfl
  · try simp only [Bool.cond_true_left, Bool.cond_false_right, Bool.or_eq_true, Bool.or_eq_false_iff, Bool.and_eq_true, Bool.and_eq_false_iff, decide_eq_true_eq, decide_eq_false_iff_not, Bool.not_eq_true', Bool.not_eq_false'] at hc1
    refine CW.skip (Q.tn ?_)
    refine CW.seq ?_
    refine CW.region ?_
    refine W.p O.mv ?_
    refine W.p O.slcL ?_
    refine W.p O.as ?_
    refine WL.nil (Q.tn ?_)
    refine CW.seq ?_
    refine CW.region ?_
    refine W.p O.as ?_
    refine WL.nil (Q.tn ?_)
    refine CW.seq ?_
    refine CW.region ?_
    refine W.p O.as ?_
    refine WL.nil (Q.tn ?_)
    refine CW.seq ?_
    refine CW.block ?_
    refine CW.loop (X := (List UInt8) × (List UInt8) × Int × (List (List UInt8))) (fun ⟨t, name, p, ls⟩ => [(0, true, .string (S s)), (5, true, .string (S t)), (6, true, .string (S name)), (7, true, .int .i64 p)]) (fun ⟨t, name, p, ls⟩ => []) (fun ⟨t, name, p, ls⟩ => t = s.drop 3 ∧ 0 ≤ p ∧ p ≤ t.length ∧ t.length ≤ s.length ∧ name = joinD (ls.map fold) ∧ (ls.map fold).all labOk = true ∧ name.length ≤ p ∧ scF t = (scF (t.drop p.toNat)).map fun x => (ls ++ x.1, x.2)) (fun ⟨t, name, p, ls⟩ => (t.length - p).toNat) (s.drop 3, [], 0, []) ?_ (by repeat (first | exact trivial | refine ⟨rfl, ?_⟩ | refine ⟨by (simp only [List.length_set]; rfl), ?_⟩)) (by repeat (first | exact List.Sublist.refl _ | exact List.sublist_append_left _ _ | exact List.nil_sublist _ | refine List.Sublist.append (List.Sublist.refl _) ?_ | apply List.Sublist.cons₂ | apply List.Sublist.cons | refine List.Sublist.trans ?_ (List.sublist_append_right _ _))) ?_
    · refine ⟨rfl, by omega, by omega, by simp, rfl, rfl, by simp, ?_⟩
      rw [Int.toNat_zero, List.drop_zero]; cases scF (s.drop 3) <;> rfl
    rintro ⟨t, name, p, ls⟩ hI
    try dsimp only at hI ⊢
    obtain ⟨ht, h0, h1, hts, hnm, hla, hnl, hsc⟩ := hI
    refine CW.seq ?_
    refine CW.seq ?_
    refine CW.region ?_
    refine W.p O.mv ?_
    refine W.p O.mv ?_
    refine W.p O.len ?_
    refine W.p O.lss ?_
    refine W.p O.mv ?_
    refine W.p O.mv ?_
    refine W.p O.mv ?_
    first | refine W.p O.idxS ?_ | refine W.p (O.idxS (h := fun hg => by simp only [cond_true, cond_false, Bool.true_and, Bool.cond_false_right, Bool.cond_true_left, Bool.and_eq_true, Bool.or_eq_true, Bool.or_eq_false_iff, Bool.and_eq_false_iff, Bool.not_eq_true', Bool.not_eq_false', decide_eq_true_eq, decide_eq_false_iff_not, Int.reduceToNat] at *; omega)) ?_
    refine W.p O.neI ?_
    refine W.p O.pkB ?_
    refine WL.nil (Q.tn ?_)
    refine CW.cond (vt rfl) (fun hc2 => ?_) (fun hc2 => ?_)
    · try simp only [Bool.cond_true_left, Bool.cond_false_right, Bool.or_eq_true, Bool.or_eq_false_iff, Bool.and_eq_true, Bool.and_eq_false_iff, decide_eq_true_eq, decide_eq_false_iff_not, Bool.not_eq_true', Bool.not_eq_false'] at hc2
      have hz : ¬ (t.getD p.toNat 0).toNat = 0 := by omega
      refine CW.skip (Q.tn ?_)
      refine CW.block ?_
      refine CW.seq ?_
      refine CW.region ?_
      refine W.p O.mv ?_
      refine W.p O.mv ?_
      first | refine W.p O.idxS ?_ | refine W.p (O.idxS (h := fun hg => by simp only [cond_true, cond_false, Bool.true_and, Bool.cond_false_right, Bool.cond_true_left, Bool.and_eq_true, Bool.or_eq_true, Bool.or_eq_false_iff, Bool.and_eq_false_iff, Bool.not_eq_true', Bool.not_eq_false', decide_eq_true_eq, decide_eq_false_iff_not, Int.reduceToNat] at *; omega)) ?_
      first | refine W.p O.cvB ?_ | refine W.p O.cv ?_
      refine W.p O.as ?_
      refine WL.nil (Q.tn ?_)
      refine CW.seq ?_
      refine CW.seq ?_
      refine CW.region ?_
      refine W.p O.mv ?_
      refine W.p O.gtr ?_
      refine W.p O.mv ?_
      refine W.p O.mv ?_
      refine W.p O.mv ?_
      refine W.p O.len ?_
      refine W.p O.mv ?_
      first | refine W.p O.subN ?_ | refine W.p O.sub ?_
      first | refine W.p O.subN ?_ | refine W.p O.sub ?_
      refine W.p O.gtr ?_
      refine W.p O.pkB ?_
      refine WL.nil (Q.tn ?_)
      refine CW.cond (vt rfl) (fun hc3 => ?_) (fun hc3 => ?_)
      · try simp only [Bool.cond_true_left, Bool.cond_false_right, Bool.or_eq_true, Bool.or_eq_false_iff, Bool.and_eq_true, Bool.and_eq_false_iff, decide_eq_true_eq, decide_eq_false_iff_not, Bool.not_eq_true', Bool.not_eq_false'] at hc3
        have hno : fqName (s.drop 3) = none := by rw [← ht]; exact fqName_no (by rw [hsc, fg_bad h0 hc2.1 hz (by omega)]; rfl)
        refine CW.seq ?_
        refine CW.region ?_
        refine W.p O.as ?_
        refine W.p O.as ?_
        refine W.p O.as ?_
        refine WL.nil (Q.tn ?_)
        refine CW.ret (Q.tr (Q.br (Q.tr (Q.br (Q.tr ?_)))))
        refine ⟨_, [], (RVs.tmp rfl (RVs.tmp rfl (RVs.tmp rfl RVs.nil))), List.nil_sublist _, ?_⟩
        refine ⟨?_, rfl⟩
        rw [fqGet_no hno]; rfl
      · try simp only [Bool.cond_true_left, Bool.cond_false_right, Bool.or_eq_true, Bool.or_eq_false_iff, Bool.and_eq_true, Bool.and_eq_false_iff, decide_eq_true_eq, decide_eq_false_iff_not, Bool.not_eq_true', Bool.not_eq_false'] at hc3
        have hst := fg_step h0 hc2.1 hz (by omega)
        rw [hst, Option.map_map] at hsc
        refine CW.skip (Q.tn ?_)
        refine CW.seq ?_
        refine CW.seq ?_
        refine CW.region ?_
        refine W.p O.mv ?_
        refine W.p O.neS ?_
        refine WL.nil (Q.tn ?_)
        refine CW.cond (vt rfl) (fun hc4 => ?_) (fun hc4 => ?_)
        · try simp only [Bool.cond_true_left, Bool.cond_false_right, Bool.or_eq_true, Bool.or_eq_false_iff, Bool.and_eq_true, Bool.and_eq_false_iff, decide_eq_true_eq, decide_eq_false_iff_not, Bool.not_eq_true', Bool.not_eq_false'] at hc4
          refine CW.region ?_
          refine W.p O.mv ?_
          refine W.p O.addS ?_
          refine W.p O.as ?_
          refine WL.nil (Q.tn ?_)
          refine CW.seq ?_
          refine CW.region ?_
          refine W.p O.mv ?_
          refine W.p O.mv ?_
          first | refine W.p O.addN ?_ | refine W.p O.add ?_
          refine W.p O.mv ?_
          first | refine W.p O.addN ?_ | refine W.p O.add ?_
          refine W.p O.mv ?_
          first | refine W.p O.addN ?_ | refine W.p O.add ?_
          refine W.p O.slc ?_
          refine W.q (O.call ⟨rfl, rfl⟩ (AV.cons (vt rfl) (AV.nil)) (fun _ w hw => ref_Fold _ w (by simp only [List.length_drop, List.length_take]; omega))) ?_
          refine W.p O.as ?_
          refine WL.nil (Q.tn ?_)
          refine CW.seq ?_
          refine CW.seq ?_
          refine CW.region ?_
          refine W.p O.mv ?_
          refine W.q (O.call ⟨rfl, rfl⟩ (AV.cons (vt rfl) (AV.nil)) (fun _ w hw => ref_labelMay _ w (by simp only [fold, List.length_map, List.length_drop, List.length_take]; omega))) ?_
          refine W.p O.nt ?_
          refine WL.nil (Q.tn ?_)
          refine CW.cond (vt rfl) (fun hc5 => ?_) (fun hc5 => ?_)
          · try simp only [Bool.cond_true_left, Bool.cond_false_right, Bool.or_eq_true, Bool.or_eq_false_iff, Bool.and_eq_true, Bool.and_eq_false_iff, decide_eq_true_eq, decide_eq_false_iff_not, Bool.not_eq_true', Bool.not_eq_false'] at hc5
            have hno : fqName (s.drop 3) = none := by rw [← ht]; exact fqName_lab (pre := ls) (x := slc t (p + 1) (p + 1 + ((t.getD p.toNat 0).toNat : Int))) hsc hc5
            refine CW.seq ?_
            refine CW.region ?_
            refine W.p O.as ?_
            refine W.p O.as ?_
            refine W.p O.as ?_
            refine WL.nil (Q.tn ?_)
            refine CW.ret (Q.tr (Q.br (Q.tr (Q.br (Q.tr ?_)))))
            refine ⟨_, [], (RVs.tmp rfl (RVs.tmp rfl (RVs.tmp rfl RVs.nil))), List.nil_sublist _, ?_⟩
            refine ⟨?_, rfl⟩
            rw [fqGet_no hno]; rfl
          · try simp only [Bool.cond_true_left, Bool.cond_false_right, Bool.or_eq_true, Bool.or_eq_false_iff, Bool.and_eq_true, Bool.and_eq_false_iff, decide_eq_true_eq, decide_eq_false_iff_not, Bool.not_eq_true', Bool.not_eq_false'] at hc5
            have htl := (labOk_len hc5)
            have htl2 := htl
            simp only [List.getD_eq_getElem?_getD] at htl2
            have hfl : (fold ((t.take (p + 1 + ((t.getD p.toNat 0).toNat : Int)).toNat).drop (p + 1).toNat)).length ≤ (t.getD p.toNat 0).toNat := by simp only [fold, List.length_map, List.length_drop, List.length_take]; omega
            refine CW.skip (Q.tn ?_)
            refine CW.seq ?_
            refine CW.region ?_
            refine W.p O.mv ?_
            refine W.p O.mv ?_
            refine W.p O.addS ?_
            refine W.p O.as ?_
            refine WL.nil (Q.tn ?_)
            refine CW.region ?_
            refine W.p O.mv ?_
            first | refine W.p O.addN ?_ | refine W.p O.add ?_
            refine W.p O.mv ?_
            first | refine W.p O.addN ?_ | refine W.p O.add ?_
            refine W.p O.as ?_
            refine WL.nil (Q.bn (Q.tn ?_))
            refine ⟨(_, _, _, ls ++ [slc t (p + 1) (p + 1 + ((t.getD p.toNat 0).toNat : Int))]), ?_, ?_, (by repeat (first | exact trivial | refine ⟨rfl, ?_⟩ | refine ⟨by (simp only [List.length_set]; rfl), ?_⟩)), (by repeat (first | exact List.Sublist.refl _ | exact List.sublist_append_left _ _ | exact List.nil_sublist _ | refine List.Sublist.append (List.Sublist.refl _) ?_ | apply List.Sublist.cons₂ | apply List.Sublist.cons | refine List.Sublist.trans ?_ (List.sublist_append_right _ _)))⟩
            · try dsimp only
              have hne : ls.map fold ≠ [] := by intro e; rw [e] at hnm; exact hc4 hnm
              refine ⟨ht, by omega, by omega, hts, ?_, ?_, by simp only [List.length_append, List.length_cons, List.length_nil]; omega, ?_⟩
              · rw [List.map_append, List.map_cons, List.map_nil, joinD_app hne, hnm]; rfl
              · rw [List.map_append, List.all_append, hla]; simp only [List.map_cons, List.map_nil, List.all_cons, List.all_nil, Bool.and_true, Bool.true_and]; exact hc5
              · rw [hsc]; cases scF (t.drop (p + 1 + ((t.getD p.toNat 0).toNat : Int)).toNat) <;> simp
            · try dsimp only
              omega
        · try simp only [Bool.cond_true_left, Bool.cond_false_right, Bool.or_eq_true, Bool.or_eq_false_iff, Bool.and_eq_true, Bool.and_eq_false_iff, decide_eq_true_eq, decide_eq_false_iff_not, Bool.not_eq_true', Bool.not_eq_false'] at hc4
          refine CW.skip (Q.tn ?_)
          refine CW.seq ?_
          refine CW.region ?_
          refine W.p O.mv ?_
          refine W.p O.mv ?_
          first | refine W.p O.addN ?_ | refine W.p O.add ?_
          refine W.p O.mv ?_
          first | refine W.p O.addN ?_ | refine W.p O.add ?_
          refine W.p O.mv ?_
          first | refine W.p O.addN ?_ | refine W.p O.add ?_
          refine W.p O.slc ?_
          refine W.q (O.call ⟨rfl, rfl⟩ (AV.cons (vt rfl) (AV.nil)) (fun _ w hw => ref_Fold _ w (by simp only [List.length_drop, List.length_take]; omega))) ?_
          refine W.p O.as ?_
          refine WL.nil (Q.tn ?_)
          refine CW.seq ?_
          refine CW.seq ?_
          refine CW.region ?_
          refine W.p O.mv ?_
          refine W.q (O.call ⟨rfl, rfl⟩ (AV.cons (vt rfl) (AV.nil)) (fun _ w hw => ref_labelMay _ w (by simp only [fold, List.length_map, List.length_drop, List.length_take]; omega))) ?_
          refine W.p O.nt ?_
          refine WL.nil (Q.tn ?_)
          refine CW.cond (vt rfl) (fun hc6 => ?_) (fun hc6 => ?_)
          · try simp only [Bool.cond_true_left, Bool.cond_false_right, Bool.or_eq_true, Bool.or_eq_false_iff, Bool.and_eq_true, Bool.and_eq_false_iff, decide_eq_true_eq, decide_eq_false_iff_not, Bool.not_eq_true', Bool.not_eq_false'] at hc6
            have hno : fqName (s.drop 3) = none := by rw [← ht]; exact fqName_lab (pre := ls) (x := slc t (p + 1) (p + 1 + ((t.getD p.toNat 0).toNat : Int))) hsc hc6
            refine CW.seq ?_
            refine CW.region ?_
            refine W.p O.as ?_
            refine W.p O.as ?_
            refine W.p O.as ?_
            refine WL.nil (Q.tn ?_)
            refine CW.ret (Q.tr (Q.br (Q.tr (Q.br (Q.tr ?_)))))
            refine ⟨_, [], (RVs.tmp rfl (RVs.tmp rfl (RVs.tmp rfl RVs.nil))), List.nil_sublist _, ?_⟩
            refine ⟨?_, rfl⟩
            rw [fqGet_no hno]; rfl
          · try simp only [Bool.cond_true_left, Bool.cond_false_right, Bool.or_eq_true, Bool.or_eq_false_iff, Bool.and_eq_true, Bool.and_eq_false_iff, decide_eq_true_eq, decide_eq_false_iff_not, Bool.not_eq_true', Bool.not_eq_false'] at hc6
            have htl := (labOk_len hc6)
            have htl2 := htl
            simp only [List.getD_eq_getElem?_getD] at htl2
            have hfl : (fold ((t.take (p + 1 + ((t.getD p.toNat 0).toNat : Int)).toNat).drop (p + 1).toNat)).length ≤ (t.getD p.toNat 0).toNat := by simp only [fold, List.length_map, List.length_drop, List.length_take]; omega
            refine CW.skip (Q.tn ?_)
            refine CW.seq ?_
            refine CW.region ?_
            refine W.p O.mv ?_
            refine W.p O.mv ?_
            refine W.p O.addS ?_
            refine W.p O.as ?_
            refine WL.nil (Q.tn ?_)
            refine CW.region ?_
            refine W.p O.mv ?_
            first | refine W.p O.addN ?_ | refine W.p O.add ?_
            refine W.p O.mv ?_
            first | refine W.p O.addN ?_ | refine W.p O.add ?_
            refine W.p O.as ?_
            refine WL.nil (Q.bn (Q.tn ?_))
            refine ⟨(_, _, _, ls ++ [slc t (p + 1) (p + 1 + ((t.getD p.toNat 0).toNat : Int))]), ?_, ?_, (by repeat (first | exact trivial | refine ⟨rfl, ?_⟩ | refine ⟨by (simp only [List.length_set]; rfl), ?_⟩)), (by repeat (first | exact List.Sublist.refl _ | exact List.sublist_append_left _ _ | exact List.nil_sublist _ | refine List.Sublist.append (List.Sublist.refl _) ?_ | apply List.Sublist.cons₂ | apply List.Sublist.cons | refine List.Sublist.trans ?_ (List.sublist_append_right _ _)))⟩
            · try dsimp only
              have hne : ls.map fold = [] := joinD_nil hla (hnm.symm.trans (by simpa using hc4))
              refine ⟨ht, by omega, by omega, hts, ?_, ?_, by simp only [List.length_append, List.length_cons, List.length_nil]; omega, ?_⟩
              · rw [List.map_append, List.map_cons, List.map_nil, hne, hnm, hne]; rfl
              · rw [List.map_append, List.all_append, hla]; simp only [List.map_cons, List.map_nil, List.all_cons, List.all_nil, Bool.and_true, Bool.true_and]; exact hc6
              · rw [hsc]; cases scF (t.drop (p + 1 + ((t.getD p.toNat 0).toNat : Int)).toNat) <;> simp
            · try dsimp only
              omega
    · try simp only [Bool.cond_true_left, Bool.cond_false_right, Bool.or_eq_true, Bool.or_eq_false_iff, Bool.and_eq_true, Bool.and_eq_false_iff, decide_eq_true_eq, decide_eq_false_iff_not, Bool.not_eq_true', Bool.not_eq_false'] at hc2
      refine CW.exit (Q.te (Q.te (Q.bx (Q.tn ?_))))
      refine CW.seq ?_
      refine CW.seq ?_
      refine CW.region ?_
      refine W.p O.mv ?_
      refine W.p O.mv ?_
      refine W.p O.len ?_
      first | refine W.p O.subN ?_ | refine W.p O.sub ?_
      refine W.p O.lss ?_
      refine W.p O.mv ?_
      refine W.p O.mv ?_
      refine W.q (O.call ⟨rfl, rfl⟩ (AV.cons (vs rfl) (AV.nil)) (fun _ w hw => ref_NameMay _ w (by omega))) ?_
      refine W.p O.nt ?_
      refine W.p O.pkB ?_
      refine WL.nil (Q.tn ?_)
      refine CW.cond (vt rfl) (fun hc7 => ?_) (fun hc7 => ?_)
      · try simp only [Bool.cond_true_left, Bool.cond_false_right, Bool.or_eq_true, Bool.or_eq_false_iff, Bool.and_eq_true, Bool.and_eq_false_iff, decide_eq_true_eq, decide_eq_false_iff_not, Bool.not_eq_true', Bool.not_eq_false'] at hc7
        have hfin := fg_fin h0 h1 (by rcases hc2 with h | h; exact .inl h; exact .inr (by omega)) hsc hla hnm
        rw [if_pos hc7, ht] at hfin
        refine CW.seq ?_
        refine CW.region ?_
        refine W.p O.as ?_
        refine W.p O.as ?_
        refine W.p O.as ?_
        refine WL.nil (Q.tn ?_)
        refine CW.ret (Q.tr ?_)
        refine ⟨_, [], (RVs.tmp rfl (RVs.tmp rfl (RVs.tmp rfl RVs.nil))), List.nil_sublist _, ?_⟩
        refine ⟨?_, rfl⟩
        rw [fqGet_no hfin]; rfl
      · try simp only [Bool.cond_true_left, Bool.cond_false_right, Bool.or_eq_true, Bool.or_eq_false_iff, Bool.and_eq_true, Bool.and_eq_false_iff, decide_eq_true_eq, decide_eq_false_iff_not, Bool.not_eq_true', Bool.not_eq_false'] at hc7
        have hfin := fg_fin h0 h1 (by rcases hc2 with h | h; exact .inl h; exact .inr (by omega)) hsc hla hnm
        rw [if_neg (by rintro (h | h); exact hc7.1 h; rw [hc7.2] at h; cases h), ht] at hfin
        refine CW.skip (Q.tn ?_)
        refine CW.seq ?_
        refine CW.region ?_
        refine W.p O.mv ?_
        first | refine W.p O.idxS ?_ | refine W.p (O.idxS (h := fun hg => by simp only [cond_true, cond_false, Bool.true_and, Bool.cond_false_right, Bool.cond_true_left, Bool.and_eq_true, Bool.or_eq_true, Bool.or_eq_false_iff, Bool.and_eq_false_iff, Bool.not_eq_true', Bool.not_eq_false', decide_eq_true_eq, decide_eq_false_iff_not, Int.reduceToNat] at *; omega)) ?_
        first | refine W.p O.cvB ?_ | refine W.p O.cv ?_
        refine W.p O.mv ?_
        refine W.p O.as ?_
        refine W.p O.as ?_
        refine W.p O.as ?_
        refine WL.nil (Q.tn ?_)
        refine CW.ret ?_
        refine ⟨_, [], (RVs.tmp rfl (RVs.tmp rfl (RVs.tmp rfl RVs.nil))), List.nil_sublist _, ?_⟩
        refine ⟨?_, rfl⟩
        have hyes : fqMay (s.getD 0 0).toNat = true := by have e0 : s.getD (0 : Int).toNat 0 = s.getD 0 0 := rfl; rw [e0] at hc1; rw [and4b (f := ((s.getD 0 0).toNat : Int)) ⟨by omega, by omega⟩] at hc1; simp only [fqMay, Bool.and_eq_true, decide_eq_true_eq]; omega
        rw [fqGet_some (by omega) hyes hfin]; rfl
end Go.Proofs.Ytkjcmdgideddnaa
