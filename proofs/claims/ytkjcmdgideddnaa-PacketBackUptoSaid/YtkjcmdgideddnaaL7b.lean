/- The statement PacketBack: its walk. Conditions: what comes in is not longer than some millions. -/
import Derived.Test.YtkjcmdgideddnaaL7
import Derived.Test.YtkjcmdgideddnaaPkP
set_option linter.unusedVariables false
set_option linter.unusedSimpArgs false
namespace Go.Proofs.Ytkjcmdgideddnaa
open Go Go.RowKit
theorem pkPut_len (p : Pkt) : (pkPut p).1.length ≤ 1440 := by
  by_cases h : (pkPut p).2 = 0
  · obtain ⟨he, hm, hp⟩ := pkPut_ok h
    have h16 : p.chaddr.length ≤ 16 := by simp only [pkMay, Bool.and_eq_true, decide_eq_true_eq] at hm; exact hm.1.1
    have hk := (pk_ck p [] h16).2.2
    have := putR_len1 p.opts
    rw [he]; dsimp only; omega
  · rw [pkPut_nok h]; simp
set_option maxRecDepth 100000 in
theorem law7_PacketBack (p : Pkt) (a : Option Addr) (c : Nat) (behind : List UInt8) (w : World) (h : In w a (p.opts.flatMap encO)) (h1 : p.opts.length ≤ 1048576) (h2 : behind.length ≤ 1048576) : Fn Try.prog 16 [vPk p a c, .string (S behind)] w [] fun v L' => v = .bool true ∧ L' = [] := by
  have row := Row.ofE h
  have hpl := pkPut_len p
  refine Fn.enter Try.func16 rfl rfl rfl rfl (Holds.nil w) ?_
  refine CW.seq ?_
  refine CW.region ?_
  refine W.bx rfl (vt rfl) rfl fun b1 => ?_
  refine W.p O.as ?_
  refine WL.nil (Q.tn ?_)
  refine CW.seq ?_
  refine CW.seq ?_
  refine CW.region ?_
  refine W.q (O.call ⟨rfl, rfl⟩ (AV.nil) (fun _ w hw => law7_awake w)) ?_
  refine W.p O.nt ?_
  refine WL.nil (Q.tn ?_)
  refine CW.cond (vt rfl) (fun hc1 => ?_) (fun hc1 => ?_)
  · exact absurd hc1 (by decide)
  try simp only [Bool.cond_true_left, Bool.cond_false_right, Bool.or_eq_true, Bool.or_eq_false_iff, Bool.and_eq_true, Bool.and_eq_false_iff, decide_eq_true_eq, decide_eq_false_iff_not, Bool.not_eq_true', Bool.not_eq_false'] at hc1
  refine CW.skip (Q.tn ?_)
  refine CW.seq ?_
  refine CW.region ?_
  refine W.p O.lds ?_
  refine W.q (O.call ⟨rfl, rfl⟩ (AV.cons (vt rfl) (AV.nil)) (fun _ w hw => pk_Put p a c w (row.h _ w hw) (by omega))) ?_
  refine W.p O.mv ?_
  first | refine W.p O.extL ?_ | refine W.p O.ext ?_
  first | refine W.p O.extL ?_ | refine W.p O.ext ?_
  refine W.p O.as ?_
  refine W.p O.as ?_
  refine WL.nil (Q.tn ?_)
  refine CW.seq ?_
  refine CW.seq ?_
  refine CW.region ?_
  refine W.p O.mv ?_
  refine W.q (O.call ⟨rfl, rfl⟩ (AV.cons (vt rfl) (AV.nil)) (fun _ w hw => law0_Num _ w)) ?_
  refine W.p O.neI ?_
  refine WL.nil (Q.tn ?_)
  refine CW.cond (vt rfl) (fun hc2 => ?_) (fun hc2 => ?_)
  · try simp only [Bool.cond_true_left, Bool.cond_false_right, Bool.or_eq_true, Bool.or_eq_false_iff, Bool.and_eq_true, Bool.and_eq_false_iff, decide_eq_true_eq, decide_eq_false_iff_not, Bool.not_eq_true', Bool.not_eq_false'] at hc2
    refine CW.seq ?_
    refine CW.region ?_
    refine W.p O.mv ?_
    refine W.p O.eqS ?_
    refine W.p O.as ?_
    refine WL.nil (Q.tn ?_)
    refine CW.ret (Q.tr ?_)
    refine ⟨_, [], (RVs.tmp rfl RVs.nil), List.nil_sublist _, ?_⟩
    refine ⟨?_, rfl⟩
    rw [pkPut_nok hc2]; rfl
  try simp only [Bool.cond_true_left, Bool.cond_false_right, Bool.or_eq_true, Bool.or_eq_false_iff, Bool.and_eq_true, Bool.and_eq_false_iff, decide_eq_true_eq, decide_eq_false_iff_not, Bool.not_eq_true', Bool.not_eq_false'] at hc2
  refine CW.skip (Q.tn ?_)
  refine CW.seq ?_
  refine CW.seq ?_
  refine CW.region ?_
  refine W.p O.as ?_
  refine WL.nil (Q.tn ?_)
  refine CW.block ?_
  refine CW.loop (X := Int) (fun i => [(1, true, .string (S behind)), (2, true, .pointer (some ⟨b1, 0, none⟩)), (5, true, .string (S (pkPut p).1)), (7, true, .int .i64 i)]) (fun i => [(b1, .cells (encPk p a c).toArray 72 (0, 0))]) (fun i => 0 ≤ i ∧ i ≤ p.opts.length ∧ ∀ o ∈ p.opts.take i.toNat, o.code ≠ 52) (fun i => (p.opts.length - i).toNat) (0) ?_ (by repeat (first | exact trivial | refine ⟨rfl, ?_⟩ | refine ⟨by (simp only [List.length_set]; rfl), ?_⟩)) (by repeat (first | exact List.Sublist.refl _ | exact List.sublist_append_left _ _ | exact List.nil_sublist _ | refine List.Sublist.append (List.Sublist.refl _) ?_ | apply List.Sublist.cons_cons | apply List.Sublist.cons | refine List.Sublist.trans ?_ (List.sublist_append_right _ _))) ?_
  · exact ⟨by omega, by omega, by simp⟩
  rintro i hI
  try dsimp only at hI ⊢
  obtain ⟨h0, hi1, hr⟩ := hI
  refine CW.seq ?_
  refine CW.seq ?_
  refine CW.region ?_
  refine W.p O.mv ?_
  first | refine W.p O.fb ?_ | refine W.p O.fa ?_
  refine W.p O.ld ?_
  refine W.p O.lenL ?_
  refine W.p O.lss ?_
  refine WL.nil (Q.tn ?_)
  refine CW.cond (vt rfl) (fun hc3 => ?_) (fun hc3 => ?_)
  · try simp only [Bool.cond_true_left, Bool.cond_false_right, Bool.or_eq_true, Bool.or_eq_false_iff, Bool.and_eq_true, Bool.and_eq_false_iff, decide_eq_true_eq, decide_eq_false_iff_not, Bool.not_eq_true', Bool.not_eq_false'] at hc3
    refine CW.skip (Q.tn ?_)
    refine CW.seq ?_
    refine CW.block ?_
    refine CW.seq ?_
    refine CW.region ?_
    first | refine W.p O.fb ?_ | refine W.p O.fa ?_
    refine W.p O.ld ?_
    refine W.p O.mv ?_
    refine W.p O.ixA ?_
    first | refine W.p O.fe ?_ | refine W.p O.feR ?_
    refine W.p O.ldE ?_
    refine W.p O.eqI ?_
    refine WL.nil (Q.tn ?_)
    refine CW.cond (vt rfl) (fun hc4 => ?_) (fun hc4 => ?_)
    · try simp only [Bool.cond_true_left, Bool.cond_false_right, Bool.or_eq_true, Bool.or_eq_false_iff, Bool.and_eq_true, Bool.and_eq_false_iff, decide_eq_true_eq, decide_eq_false_iff_not, Bool.not_eq_true', Bool.not_eq_false'] at hc4
      refine CW.seq ?_
      refine CW.region ?_
      refine W.p O.as ?_
      refine WL.nil (Q.tn ?_)
      refine CW.ret (Q.br (Q.tr (Q.tr (Q.br (Q.tr ?_)))))
      refine ⟨_, [], (RVs.tmp rfl RVs.nil), List.nil_sublist _, ?_⟩
      refine ⟨?_, rfl⟩
      rfl
    try simp only [Bool.cond_true_left, Bool.cond_false_right, Bool.or_eq_true, Bool.or_eq_false_iff, Bool.and_eq_true, Bool.and_eq_false_iff, decide_eq_true_eq, decide_eq_false_iff_not, Bool.not_eq_true', Bool.not_eq_false'] at hc4
    refine CW.skip (Q.bn (Q.tn ?_))
    refine CW.region ?_
    refine W.p O.mv ?_
    first | refine W.p O.addN ?_ | refine W.p O.add ?_
    refine W.p O.as ?_
    refine WL.nil (Q.tn ?_)
    refine ⟨(_), ?_, ?_, (by repeat (first | exact trivial | refine ⟨rfl, ?_⟩ | refine ⟨by (simp only [List.length_set]; rfl), ?_⟩)), (by repeat (first | exact List.Sublist.refl _ | exact List.sublist_append_left _ _ | exact List.nil_sublist _ | refine List.Sublist.append (List.Sublist.refl _) ?_ | apply List.Sublist.cons_cons | apply List.Sublist.cons | refine List.Sublist.trans ?_ (List.sublist_append_right _ _)))⟩
    · try dsimp only
      refine ⟨by omega, by omega, ?_⟩
      rw [take_at' dO h0 hc3]; intro o ho; rcases List.mem_append.1 ho with ho | ho; exact hr o ho; simp at ho; subst ho; simpa using hc4
    · try dsimp only
      omega
  try simp only [Bool.cond_true_left, Bool.cond_false_right, Bool.or_eq_true, Bool.or_eq_false_iff, Bool.and_eq_true, Bool.and_eq_false_iff, decide_eq_true_eq, decide_eq_false_iff_not, Bool.not_eq_true', Bool.not_eq_false'] at hc3
  have hr' : ∀ o ∈ p.opts, o.code ≠ 52 := by rw [List.take_of_length_le (by omega)] at hr; exact hr
  have hbk := pk_back hc2 hr' behind
  refine CW.exit (Q.te (Q.te (Q.bx (Q.tn ?_))))
  refine CW.seq ?_
  refine CW.region ?_
  refine W.p O.mv ?_
  refine W.p O.mv ?_
  refine W.p O.addS ?_
  refine W.callN (first := []) (cap := []) rfl (vt rfl) (AV.cons (vt rfl) (AV.nil)) (fun w hu => pk_Get ((pkPut p).1 ++ behind) w (by rw [List.length_append]; omega)) ?_; rintro _ _ ⟨o11, c11, sp11, rfl, ok11, rfl⟩; have nk11 := ok11.nk
  refine W.p O.mv ?_
  first | refine W.p O.extL ?_ | refine W.p O.ext ?_
  first | refine W.p O.extL ?_ | refine W.p O.ext ?_
  refine W.al rfl rfl fun b2 => ?_
  refine W.st (vt rfl) (vt rfl) rfl ?_
  refine W.p O.as ?_
  refine WL.nil (Q.tn ?_)
  refine CW.seq ?_
  refine CW.region ?_
  refine W.p O.mv ?_
  refine W.q (O.call ⟨rfl, rfl⟩ (AV.cons (vt rfl) (AV.nil)) (fun _ w hw => law0_Num _ w)) ?_
  refine W.p O.eqI ?_
  refine W.p O.mv ?_
  refine W.p O.lds ?_
  refine W.p O.lds ?_
  refine W.q (O.call ⟨rfl, rfl⟩ (AV.cons (vs rfl) (AV.cons (vs rfl) (AV.nil))) (fun _ w hw => samePacket (pkGet ((pkPut p).1 ++ behind)).1 p _ _ _ _ w (RowL.h _ hw) (row.h _ w hw) (by rw [hbk.1]; dsimp only; omega))) ?_
  refine W.p O.pkB ?_
  refine W.p O.mv ?_
  refine W.p O.mv ?_
  refine W.p O.len ?_
  refine W.p O.gtr ?_
  refine W.p O.pkB ?_
  refine W.p O.as ?_
  refine WL.nil (Q.tn ?_)
  refine CW.ret ?_
  refine ⟨_, [], (RVs.tmp rfl RVs.nil), List.nil_sublist _, ?_⟩
  refine ⟨?_, rfl⟩
  rw [hbk.1, decide_eq_true (show (240 : Int) < ((pkPut p).1.length : Int) by have := hbk.2; omega)]; simp [oneOr]
end Go.Proofs.Ytkjcmdgideddnaa
