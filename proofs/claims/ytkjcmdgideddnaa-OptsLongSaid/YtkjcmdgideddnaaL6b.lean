/- The statement OptsLong over package opts: its walk. No condition. -/
import Derived.Test.YtkjcmdgideddnaaL6
set_option linter.unusedVariables false
set_option linter.unusedSimpArgs false
namespace Go.Proofs.Ytkjcmdgideddnaa
open Go Go.RowKit
theorem chunks_length {c : UInt8} {d : List UInt8} (h : d.length ≤ 512) : (chunks c d).length = d.length + 2 * (if 255 < d.length then 1 + (d.length - 1) / 255 else 1) := by
  have hd : ∀ k, (d.drop k).length = d.length - k := fun k => by simp
  by_cases h1 : d.length ≤ 255
  · rw [chunks_short h1, if_neg (by omega)]; simp
  · rw [chunks_long (by omega), if_pos (by omega)]
    by_cases h2 : (d.drop 255).length ≤ 255
    · rw [chunks_short h2]; rw [hd] at h2; simp; omega
    · rw [chunks_long (by omega)]; rw [hd] at h2
      rw [chunks_short (by simp; omega)]; simp; omega
theorem put_one {c : Int} {d : List UInt8} (h1 : 1 ≤ c) (h2 : c ≤ 254) (h : d.length ≤ 512) :
    putR [⟨c, d⟩] = (putOpts [⟨c, d⟩], 0) ∧ (putOpts [⟨c, d⟩]).length = d.length + 2 * (if 255 < d.length then 1 + (d.length - 1) / 255 else 1) + 1 ∧ getR (putOpts [⟨c, d⟩]) = ([⟨c, d⟩], 0) := by
  have hm : optsMay [⟨c, d⟩] = true := by simp [optsMay, optOk, nodupC]; omega
  have hl : (putOpts [⟨c, d⟩]).length = d.length + 2 * (if 255 < d.length then 1 + (d.length - 1) / 255 else 1) + 1 := by
    have := chunks_length (c := UInt8.ofNat c.toNat) h
    simp [putOpts, this]
  refine ⟨?_, hl, ?_⟩
  · unfold putR; rw [if_pos hm, if_pos]; rw [hl]; split <;> omega
  · have := getR_put hm 0 []; simpa using this
set_option maxRecDepth 100000 in
theorem law6_OptsLong (k c : Int) (w : World) : Fn Try.prog 6 [.int .i64 k, .int .i64 c] w [] fun v L' => v = .bool true ∧ L' = [] := by
  refine Fn.enter Try.func6 rfl rfl rfl rfl (Holds.nil w) ?_
  refine CW.seq ?_
  refine CW.region ?_
  refine W.p O.as ?_
  refine WL.nil (Q.tn ?_)
  refine CW.seq ?_
  refine CW.seq ?_
  refine CW.region ?_
  refine W.q (O.call ⟨rfl, rfl⟩ (AV.nil) (fun _ w hw => law6_awake w)) ?_
  refine W.p O.nt ?_
  refine WL.nil (Q.tn ?_)
  refine CW.cond (vt rfl) (fun hc1 => ?_) (fun hc1 => ?_)
  · exact absurd hc1 (by decide)
  · try simp only [Bool.cond_true_left, Bool.cond_false_right, Bool.or_eq_true, Bool.or_eq_false_iff, Bool.and_eq_true, Bool.and_eq_false_iff, decide_eq_true_eq, decide_eq_false_iff_not, Bool.not_eq_true', Bool.not_eq_false'] at hc1
    refine CW.skip (Q.tn ?_)
    refine CW.seq ?_
    refine CW.region ?_
    refine W.p O.mv ?_
    refine W.p O.cvUn ?_
    refine W.p O.rem ?_
    first | refine W.p O.cvN ?_ | refine W.p O.cv ?_
    refine W.p O.as ?_
    refine WL.nil (Q.tn ?_)
    refine CW.seq ?_
    refine CW.region ?_
    refine W.p O.mv ?_
    refine W.p O.cvUn ?_
    refine W.p O.rem ?_
    first | refine W.p O.cvN ?_ | refine W.p O.cv ?_
    first | refine W.p O.addN ?_ | refine W.p O.add ?_
    refine W.p O.as ?_
    refine WL.nil (Q.tn ?_)
    refine CW.seq ?_
    refine CW.region ?_
    refine W.p O.mv ?_
    refine W.mkF rfl (vt rfl) (vt rfl) (by first | omega | decide) fun b1 => ?_
    refine W.p O.as ?_
    refine WL.nil (Q.tn ?_)
    refine CW.seq ?_
    refine CW.seq ?_
    refine CW.region ?_
    refine W.p O.as ?_
    refine WL.nil (Q.tn ?_)
    refine CW.block ?_
    refine CW.loop (X := Int × (List UInt8)) (fun ⟨i, xs⟩ => [(5, true, .int .i64 (k % 18446744073709551616 % 513)), (6, true, .int .i64 (1 + c % 18446744073709551616 % 254)), (7, true, .slice (oa (some b1)) (k % 18446744073709551616 % 513).toNat (k % 18446744073709551616 % 513).toNat), (8, true, .int .i64 i)]) (fun ⟨i, xs⟩ => rowL (some b1) 5 (flat encB xs [])) (fun ⟨i, xs⟩ => 0 ≤ i ∧ xs.length = (k % 18446744073709551616 % 513).toNat) (fun ⟨i, xs⟩ => ((k % 18446744073709551616 % 513) - i).toNat) (0, List.replicate (k % 18446744073709551616 % 513).toNat 0) ?_ (by repeat (first | exact trivial | refine ⟨rfl, ?_⟩ | refine ⟨by (simp only [List.length_set]; rfl), ?_⟩)) (by repeat (first | exact List.Sublist.refl _ | exact List.sublist_append_left _ _ | exact List.nil_sublist _ | refine List.Sublist.append (List.Sublist.refl _) ?_ | apply List.Sublist.cons₂ | apply List.Sublist.cons | refine List.Sublist.trans ?_ (List.sublist_append_right _ _))) ?_
    · exact ⟨by omega, by simp⟩
    rintro ⟨i, xs⟩ hI
    try dsimp only at hI ⊢
    obtain ⟨h0, hx⟩ := hI
    refine CW.seq ?_
    refine CW.seq ?_
    refine CW.region ?_
    refine W.p O.mv ?_
    refine W.p O.mv ?_
    refine W.p O.lss ?_
    refine WL.nil (Q.tn ?_)
    refine CW.cond (vt rfl) (fun hc2 => ?_) (fun hc2 => ?_)
    · try simp only [Bool.cond_true_left, Bool.cond_false_right, Bool.or_eq_true, Bool.or_eq_false_iff, Bool.and_eq_true, Bool.and_eq_false_iff, decide_eq_true_eq, decide_eq_false_iff_not, Bool.not_eq_true', Bool.not_eq_false'] at hc2
      refine CW.skip (Q.tn ?_)
      refine CW.seq ?_
      refine CW.block ?_
      refine CW.region ?_
      refine W.p O.mv ?_
      refine W.p O.mv ?_
      refine W.p O.mv ?_
      refine W.p O.cvI8 ?_
      refine W.p O.ixA ?_
      refine W.stE _ (vt rfl) (vt rfl) rfl (by first | omega | (simp only [decide_eq_true_eq, decide_eq_false_iff_not] at *; omega)) (by decide) (by rfl) ?_
      refine WL.nil (Q.bn (Q.tn ?_))
      refine CW.region ?_
      refine W.p O.mv ?_
      first | refine W.p O.addN ?_ | refine W.p O.add ?_
      refine W.p O.as ?_
      refine WL.nil (Q.tn ?_)
      refine ⟨(_, _), ?_, ?_, (by repeat (first | exact trivial | refine ⟨rfl, ?_⟩ | refine ⟨by (simp only [List.length_set]; rfl), ?_⟩)), (by repeat (first | exact List.Sublist.refl _ | exact List.sublist_append_left _ _ | exact List.nil_sublist _ | refine List.Sublist.append (List.Sublist.refl _) ?_ | apply List.Sublist.cons₂ | apply List.Sublist.cons | refine List.Sublist.trans ?_ (List.sublist_append_right _ _)))⟩
      · try dsimp only
        exact ⟨by omega, by simpa using hx⟩
      · try dsimp only
        omega
    · try simp only [Bool.cond_true_left, Bool.cond_false_right, Bool.or_eq_true, Bool.or_eq_false_iff, Bool.and_eq_true, Bool.and_eq_false_iff, decide_eq_true_eq, decide_eq_false_iff_not, Bool.not_eq_true', Bool.not_eq_false'] at hc2
      obtain ⟨he, hl, hg⟩ := put_one (c := (1 + c % 18446744073709551616 % 254)) (d := xs) (by omega) (by omega) (by omega)
      refine CW.exit (Q.te (Q.te (Q.bx (Q.tn ?_))))
      refine CW.seq ?_
      refine CW.region ?_
      refine W.p O.mv ?_
      refine W.p O.mv ?_
      refine W.p (O.cvRow ⟨rfl, rfl⟩ (vt rfl) (by first | rfl | omega) (fun _ => ⟨_, rfl⟩)) ?_
      refine W.p (O.bd (hv := PV.cons (vt rfl) (PV.cons (vt rfl) (PV.nil)))) ?_
      refine W.bs encO [⟨_, _⟩] rfl (PV.cons (vt rfl) (PV.nil)) rfl rfl rfl (by decide) rfl fun b2 => ?_
      refine W.q (O.call ⟨rfl, rfl⟩ (AV.cons (vt rfl) (AV.nil)) (fun _ w hw => opts_Put [⟨(1 + c % 18446744073709551616 % 254), xs⟩] _ _ w (RowL.h _ hw) (by simp))) ?_
      refine W.p O.mv ?_
      refine W.p O.ext ?_
      refine W.p O.ext ?_
      refine W.p O.as ?_
      refine W.p O.as ?_
      refine WL.nil (Q.tn ?_)
      refine CW.seq ?_
      refine CW.region ?_
      refine W.p O.mv ?_
      refine W.callN (first := []) (cap := []) rfl (vt rfl) (AV.cons (vt rfl) (AV.nil)) (fun w hu => opts_Get _ w (by rw [he]; simp only [hl]; split <;> omega)) ?_; rintro _ _ ⟨_, rfl, o1, c1, sp1, rfl, ok1, rfl⟩; have nk1 := ok1.nk
      refine W.p O.mv ?_
      refine W.p O.ext ?_
      refine W.p O.ext ?_
      refine W.p O.as ?_
      refine W.p O.as ?_
      refine WL.nil (Q.tn ?_)
      refine CW.seq ?_
      refine CW.region ?_
      refine W.p O.as ?_
      refine WL.nil (Q.tn ?_)
      refine CW.seq ?_
      refine CW.seq ?_
      refine CW.region ?_
      refine W.p O.mv ?_
      refine W.p O.gtr ?_
      refine WL.nil (Q.tn ?_)
      refine CW.cond (vt rfl) (fun hc3 => ?_) (fun hc3 => ?_)
      · try simp only [Bool.cond_true_left, Bool.cond_false_right, Bool.or_eq_true, Bool.or_eq_false_iff, Bool.and_eq_true, Bool.and_eq_false_iff, decide_eq_true_eq, decide_eq_false_iff_not, Bool.not_eq_true', Bool.not_eq_false'] at hc3
        refine CW.region ?_
        refine W.p O.mv ?_
        first | refine W.p O.subN ?_ | refine W.p O.sub ?_
        first | refine W.p O.quoN ?_ | refine W.p O.quo ?_
        first | refine W.p O.addN ?_ | refine W.p O.add ?_
        refine W.p O.as ?_
        refine WL.nil (Q.tn ?_)
        refine CW.seq ?_
        refine CW.region ?_
        refine W.p O.mv ?_
        refine W.q (O.call ⟨rfl, rfl⟩ (AV.cons (vt rfl) (AV.nil)) (fun _ w hw => law0_Num _ w)) ?_
        refine W.p O.eqI ?_
        first | (refine WL.kn (v := true) (by rfl) ?_ ?_; focus (simp [he, hg, hl, hx]; try (split <;> omega); try omega; done)) | (refine WL.kn (v := false) (by rfl) ?_ ?_; focus (simp [he, hg, hl, hx]; try (split <;> omega); try omega; done))
        refine W.p O.mv ?_
        refine W.p O.mv ?_
        refine W.p O.len ?_
        refine W.p O.mv ?_
        refine W.p O.mv ?_
        first | refine W.p O.mulN ?_ | refine W.p O.mul ?_
        first | refine W.p O.addN ?_ | refine W.p O.add ?_
        first | refine W.p O.addN ?_ | refine W.p O.add ?_
        refine W.p O.eqI ?_
        first | (refine WL.kn (v := true) (by rfl) ?_ ?_; focus (simp [he, hg, hl, hx]; try (split <;> omega); try omega; done)) | (refine WL.kn (v := false) (by rfl) ?_ ?_; focus (simp [he, hg, hl, hx]; try (split <;> omega); try omega; done))
        refine W.p O.pkB ?_
        refine W.p O.mv ?_
        refine W.p O.mv ?_
        refine W.q (O.call ⟨rfl, rfl⟩ (AV.cons (vs rfl) (AV.nil)) (fun _ w hw => law0_Num _ w)) ?_
        refine W.p O.eqI ?_
        first | (refine WL.kn (v := true) (by rfl) ?_ ?_; focus (simp [he, hg, hl, hx]; try (split <;> omega); try omega; done)) | (refine WL.kn (v := false) (by rfl) ?_ ?_; focus (simp [he, hg, hl, hx]; try (split <;> omega); try omega; done))
        refine W.p O.pkB ?_
        refine W.p O.mv ?_
        refine W.p O.mv ?_
        refine W.p O.mv ?_
        refine W.p O.mv ?_
        refine W.p (O.cvRow ⟨rfl, rfl⟩ (vs rfl) (by first | rfl | omega) (fun _ => ⟨_, rfl⟩)) ?_
        refine W.p (O.bd (hv := PV.cons (vs rfl) (PV.cons (vs rfl) (PV.nil)))) ?_
        refine W.ug rfl ?_
        refine W.bs encO [⟨_, _⟩] rfl (PV.cons (vs rfl) (PV.nil)) rfl rfl rfl (by decide) rfl fun b3 => ?_
        refine W.q (O.call ⟨rfl, rfl⟩ (AV.cons (vs rfl) (AV.cons (vt rfl) (AV.nil))) (fun _ w hw => sameOptions _ [⟨(1 + c % 18446744073709551616 % 254), xs⟩] _ _ _ _ w (RowL.h _ hw) (RowL.h _ hw) (by rw [he, hg]; simp))) ?_
        first | (refine WL.kn (v := true) (by rfl) ?_ ?_; focus (simp [he, hg, hl, hx]; try (split <;> omega); try omega; done)) | (refine WL.kn (v := false) (by rfl) ?_ ?_; focus (simp [he, hg, hl, hx]; try (split <;> omega); try omega; done))
        refine W.p O.pkB ?_
        refine W.p O.as ?_
        refine WL.nil (Q.tn ?_)
        refine CW.ret ?_
        refine ⟨_, [], (RVs.tmp rfl RVs.nil), List.nil_sublist _, ?_⟩
        exact ⟨rfl, rfl⟩
      · try simp only [Bool.cond_true_left, Bool.cond_false_right, Bool.or_eq_true, Bool.or_eq_false_iff, Bool.and_eq_true, Bool.and_eq_false_iff, decide_eq_true_eq, decide_eq_false_iff_not, Bool.not_eq_true', Bool.not_eq_false'] at hc3
        refine CW.skip (Q.tn ?_)
        refine CW.seq ?_
        refine CW.region ?_
        refine W.p O.mv ?_
        refine W.q (O.call ⟨rfl, rfl⟩ (AV.cons (vt rfl) (AV.nil)) (fun _ w hw => law0_Num _ w)) ?_
        refine W.p O.eqI ?_
        first | (refine WL.kn (v := true) (by rfl) ?_ ?_; focus (simp [he, hg, hl, hx]; try (split <;> omega); try omega; done)) | (refine WL.kn (v := false) (by rfl) ?_ ?_; focus (simp [he, hg, hl, hx]; try (split <;> omega); try omega; done))
        refine W.p O.mv ?_
        refine W.p O.mv ?_
        refine W.p O.len ?_
        refine W.p O.mv ?_
        refine W.p O.mv ?_
        first | refine W.p O.mulN ?_ | refine W.p O.mul ?_
        first | refine W.p O.addN ?_ | refine W.p O.add ?_
        first | refine W.p O.addN ?_ | refine W.p O.add ?_
        refine W.p O.eqI ?_
        first | (refine WL.kn (v := true) (by rfl) ?_ ?_; focus (simp [he, hg, hl, hx]; try (split <;> omega); try omega; done)) | (refine WL.kn (v := false) (by rfl) ?_ ?_; focus (simp [he, hg, hl, hx]; try (split <;> omega); try omega; done))
        refine W.p O.pkB ?_
        refine W.p O.mv ?_
        refine W.p O.mv ?_
        refine W.q (O.call ⟨rfl, rfl⟩ (AV.cons (vs rfl) (AV.nil)) (fun _ w hw => law0_Num _ w)) ?_
        refine W.p O.eqI ?_
        first | (refine WL.kn (v := true) (by rfl) ?_ ?_; focus (simp [he, hg, hl, hx]; try (split <;> omega); try omega; done)) | (refine WL.kn (v := false) (by rfl) ?_ ?_; focus (simp [he, hg, hl, hx]; try (split <;> omega); try omega; done))
        refine W.p O.pkB ?_
        refine W.p O.mv ?_
        refine W.p O.mv ?_
        refine W.p O.mv ?_
        refine W.p O.mv ?_
        refine W.p (O.cvRow ⟨rfl, rfl⟩ (vs rfl) (by first | rfl | omega) (fun _ => ⟨_, rfl⟩)) ?_
        refine W.p (O.bd (hv := PV.cons (vs rfl) (PV.cons (vs rfl) (PV.nil)))) ?_
        refine W.ug rfl ?_
        refine W.bs encO [⟨_, _⟩] rfl (PV.cons (vs rfl) (PV.nil)) rfl rfl rfl (by decide) rfl fun b4 => ?_
        refine W.q (O.call ⟨rfl, rfl⟩ (AV.cons (vs rfl) (AV.cons (vt rfl) (AV.nil))) (fun _ w hw => sameOptions _ [⟨(1 + c % 18446744073709551616 % 254), xs⟩] _ _ _ _ w (RowL.h _ hw) (RowL.h _ hw) (by rw [he, hg]; simp))) ?_
        first | (refine WL.kn (v := true) (by rfl) ?_ ?_; focus (simp [he, hg, hl, hx]; try (split <;> omega); try omega; done)) | (refine WL.kn (v := false) (by rfl) ?_ ?_; focus (simp [he, hg, hl, hx]; try (split <;> omega); try omega; done))
        refine W.p O.pkB ?_
        refine W.p O.as ?_
        refine WL.nil (Q.tn ?_)
        refine CW.ret ?_
        refine ⟨_, [], (RVs.tmp rfl RVs.nil), List.nil_sublist _, ?_⟩
        exact ⟨rfl, rfl⟩
end Go.Proofs.Ytkjcmdgideddnaa
