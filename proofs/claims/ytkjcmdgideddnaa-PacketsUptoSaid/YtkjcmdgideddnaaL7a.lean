/- The statement Packets: its walk. Conditions: what comes in is not longer than some millions. -/
import Derived.Test.YtkjcmdgideddnaaL7
import Derived.Test.YtkjcmdgideddnaaPkB
set_option linter.unusedVariables false
set_option linter.unusedSimpArgs false
namespace Go.Proofs.Ytkjcmdgideddnaa
open Go Go.RowKit
theorem ptR_len (s : List UInt8) : (ptR s).1.length ≤ 3 * s.length := by
  have g0 := getR_b (s.drop 240)
  have g1 := getR_b (slc s 108 236)
  have g2 := getR_b (slc s 44 108)
  have hd : (s.drop 240).length ≤ s.length := by rw [List.length_drop]; omega
  have h1 := slc_le s 108 236
  have h2 := slc_le s 44 108
  have hst : ∀ k, (stP s k 2).1.length ≤ 3 * s.length := by
    intro k
    have step : ∀ (b : Int × Int × Int) (x : List Opt × Int), (stepP s k b x).1.length ≤ x.1.length + (getR (slc s b.2.1 b.2.2)).1.length := by
      intro b x
      unfold stepP
      split
      · have := joinAll_len (getR (slc s b.2.1 b.2.2)).1 x.1; exact this.1
      · omega
    rw [st_2]
    have a := step (1, 108, 236) (getR (s.drop 240))
    have b := step (2, 44, 108) (stepP s k (1, 108, 236) (getR (s.drop 240)))
    dsimp only at a b
    omega
  have hk := hst (whS s)
  unfold ptR allP
  dsimp only
  split
  · exact hk
  · have := keep_len (stP s (whS s) 2).1; omega
theorem pkGet_len (s : List UInt8) : (pkGet s).1.opts.length ≤ 3 * s.length := by
  unfold pkGet
  split
  · simp
  · split
    · simp
    · exact ptR_len s
set_option maxRecDepth 100000 in
theorem law7_Packets (p : Pkt) (a : Option Addr) (c : Nat) (s : List UInt8) (w : World) (h : In w a (p.opts.flatMap encO)) (h1 : p.opts.length ≤ 1048576) (h2 : s.length ≤ 1048576) : Fn Try.prog 15 [vPk p a c, .string (S s)] w [] fun v L' => v = .bool true ∧ L' = [] := by
  have row := Row.ofE h
  have hgl := pkGet_len s
  refine Fn.enter Try.func15 rfl rfl rfl rfl (Holds.nil w) ?_
  refine CW.seq ?_
  refine CW.region ?_
  refine W.bx rfl (vt rfl) rfl fun b1 => ?_
  refine W.p O.as ?_
  refine WL.nil (Q.tn ?_)
  refine CW.seq ?_
  refine CW.region ?_
  refine W.p O.lds ?_
  refine W.callN (first := []) (cap := []) rfl (vt rfl) (AV.cons (vt rfl) (AV.nil)) (fun w hu => copyPacket p a c w (row.h _ w hu) (by omega)) ?_; rintro _ _ ⟨o11, c11, sp11, rfl, ok11, rfl⟩; have nk11 := ok11.nk
  refine W.al rfl rfl fun b2 => ?_
  refine W.st (vt rfl) (vt rfl) rfl ?_
  refine WL.nil (Q.tn ?_)
  refine CW.seq ?_
  refine CW.region ?_
  refine W.p O.lds ?_
  refine W.q (O.call ⟨rfl, rfl⟩ (AV.cons (vt rfl) (AV.nil)) (fun _ w hw => pk_Put p _ _ w (RowL.h _ hw) (by omega))) ?_
  refine W.p O.mv ?_
  first | refine W.p O.extL ?_ | refine W.p O.ext ?_
  first | refine W.p O.extL ?_ | refine W.p O.ext ?_
  refine W.p O.as ?_
  refine W.p O.as ?_
  refine WL.nil (Q.tn ?_)
  refine CW.seq ?_
  refine CW.region ?_
  refine W.p O.lds ?_
  refine W.q (O.call ⟨rfl, rfl⟩ (AV.cons (vt rfl) (AV.nil)) (fun _ w hw => ref_PutPacket p a c w (row.h _ w hw) (by omega))) ?_
  refine W.p O.mv ?_
  first | refine W.p O.extL ?_ | refine W.p O.ext ?_
  first | refine W.p O.extL ?_ | refine W.p O.ext ?_
  refine W.p O.as ?_
  refine W.p O.as ?_
  refine WL.nil (Q.tn ?_)
  refine CW.seq ?_
  refine CW.region ?_
  refine W.p O.mv ?_
  refine W.callN (first := []) (cap := []) rfl (vt rfl) (AV.cons (vt rfl) (AV.nil)) (fun w hu => pk_Get s w (by omega)) ?_; rintro _ _ ⟨o12, c12, sp12, rfl, ok12, rfl⟩; have nk12 := ok12.nk
  refine W.p O.mv ?_
  first | refine W.p O.extL ?_ | refine W.p O.ext ?_
  first | refine W.p O.extL ?_ | refine W.p O.ext ?_
  refine W.al rfl rfl fun b3 => ?_
  refine W.st (vt rfl) (vt rfl) rfl ?_
  refine W.p O.as ?_
  refine WL.nil (Q.tn ?_)
  refine CW.seq ?_
  refine CW.region ?_
  refine W.p O.mv ?_
  refine W.callN (first := []) (cap := []) rfl (vt rfl) (AV.cons (vt rfl) (AV.nil)) (fun w hu => ref_GetPacket s w (by omega)) ?_; rintro _ _ ⟨o13, c13, sp13, rfl, ok13, rfl⟩; have nk13 := ok13.nk
  refine W.p O.mv ?_
  first | refine W.p O.extL ?_ | refine W.p O.ext ?_
  first | refine W.p O.extL ?_ | refine W.p O.ext ?_
  refine W.al rfl rfl fun b4 => ?_
  refine W.st (vt rfl) (vt rfl) rfl ?_
  refine W.p O.as ?_
  refine WL.nil (Q.tn ?_)
  refine CW.seq ?_
  refine CW.seq ?_
  refine CW.draw 28 rfl (by kernel_rfl) ?_
  refine WQ.p O.mv ?_
  refine WQ.p O.mv ?_
  refine WQ.p O.neS ?_
  refine WQ.p O.mv ?_
  refine WQ.p O.mv ?_
  refine WQ.q (O.call ⟨rfl, rfl⟩ (AV.cons (vs rfl) (AV.nil)) (fun _ w hw => law0_Num _ w)) ?_
  refine WQ.p O.mv ?_
  refine WQ.p O.neI ?_
  refine WQ.p O.pkB ?_
  refine WQ.p O.mv ?_
  refine WQ.p O.lds ?_
  refine WQ.p O.lds ?_
  refine WQ.q (O.call ⟨rfl, rfl⟩ (AV.cons (vs rfl) (AV.cons (vs rfl) (AV.nil))) (fun _ w hw => samePacket (pkGet s).1 (pkGet s).1 _ _ _ _ w (RowL.h _ hw) (RowL.h _ hw) (by omega))) ?_
  refine WQ.p O.nt ?_
  refine WQ.p O.pkB ?_
  refine WQ.p O.mv ?_
  refine WQ.p O.mv ?_
  refine WQ.q (O.call ⟨rfl, rfl⟩ (AV.cons (vs rfl) (AV.nil)) (fun _ w hw => law0_Num _ w)) ?_
  refine WQ.p O.mv ?_
  refine WQ.p O.neI ?_
  refine WQ.p O.pkB ?_
  refine WQ.p O.mv ?_
  refine WQ.p O.lds ?_
  refine WQ.q (O.call ⟨rfl, rfl⟩ (AV.cons (vs rfl) (AV.nil)) (fun _ w hw => pk_May p _ _ w (RowL.h _ hw) (by omega))) ?_
  refine WQ.p O.lds ?_
  refine WQ.q (O.call ⟨rfl, rfl⟩ (AV.cons (vs rfl) (AV.nil)) (fun _ w hw => ref_PacketMay p a c w (row.h _ w hw) (by omega))) ?_
  refine WQ.p O.neB ?_
  refine WQ.p O.pkB ?_
  refine WQ.nil ?_
  refine WL.nil (Q.tn ?_)
  refine CW.cond (vt rfl) (fun hc1 => ?_) (fun hc1 => ?_)
  · exfalso; simp at hc1
  try simp only [Bool.cond_true_left, Bool.cond_false_right, Bool.or_eq_true, Bool.or_eq_false_iff, Bool.and_eq_true, Bool.and_eq_false_iff, decide_eq_true_eq, decide_eq_false_iff_not, Bool.not_eq_true', Bool.not_eq_false'] at hc1
  refine CW.skip (Q.tn ?_)
  refine CW.seq ?_
  refine CW.region ?_
  first | refine W.p O.fb ?_ | refine W.p O.fa ?_
  refine W.p O.ld ?_
  refine W.callS (first := []) (cap := []) _ rfl (vt rfl) (AV.cons (vt rfl) (AV.nil)) (fun w hu hh => spoilOptions _ o12 c12 sp12 w ok12 hh (by omega)) ?_; rintro _ _ ⟨ys, hys, rfl⟩
  refine WL.nil (Q.tn ?_)
  refine CW.seq ?_
  refine CW.region ?_
  refine W.p O.lds ?_
  refine W.p O.lds ?_
  refine W.q (O.call ⟨rfl, rfl⟩ (AV.cons (vt rfl) (AV.cons (vt rfl) (AV.nil))) (fun _ w hw => samePacket p p _ _ _ _ w (RowL.h _ hw) (row.h _ w hw) (by omega))) ?_
  refine W.p O.mv ?_
  refine W.q (O.call ⟨rfl, rfl⟩ (AV.nil) (fun _ w hw => law7_awake w)) ?_
  refine W.p O.pkB ?_
  refine W.p O.as ?_
  refine WL.nil (Q.tn ?_)
  refine CW.ret ?_
  refine ⟨_, [], (RVs.tmp rfl RVs.nil), List.nil_sublist _, ?_⟩
  exact ⟨by simp [oneOr], rfl⟩
end Go.Proofs.Ytkjcmdgideddnaa
