/- What the document's PutRr comes to. Conditions: the texts are not longer than some 2^42 bytes, the rows not than a thousand millions. -/
import Derived.Test.YtkjcmdgideddnaaRrRef
set_option linter.unusedVariables false
set_option linter.unusedSimpArgs false
namespace Go.Proofs.Ytkjcmdgideddnaa
open Go Go.RowKit
set_option maxRecDepth 100000 in
theorem ref_PutRr (at_ : Int) (ks : List Kn) (r : RR) (a : Option Addr) (c : Nat) (w : World) (h : In w a (ks.flatMap encK)) (hn : ks.length ≤ 900000000) (hk : ∀ k ∈ ks, k.name.length ≤ 4398046511104) (h1 : r.name.length ≤ 4398046511104) (h2 : r.target.length ≤ 4398046511104) :
    Fn Try.prog 72 [.int .i64 at_, .slice a ks.length c, vR r] w [] fun v L' => ∃ o c' sp, v = .tuple #[.string (S (rrPut at_ ks r).1), .slice (oa o) (rrPut at_ ks r).2.1.length c', .int .i64 (rrPut at_ ks r).2.2] ∧ OwnOk o c' 2 (rrPut at_ ks r).2.1.length (List.length sp) ∧ L' = rowL o 66 (flat encK (rrPut at_ ks r).2.1 sp) := by
  have row := Row.ofE h
  have hX := nmPut_more at_ ks r.name
  have hY := nmPut_more (at_ + (nmPut at_ ks r.name).1.length + 10) (nmPut at_ ks r.name).2.1 r.target
  have hZ := nmPut_more (at_ + (nmPut at_ ks r.name).1.length + 10 + (nmPut (at_ + (nmPut at_ ks r.name).1.length + 10) (nmPut at_ ks r.name).2.1 r.target).1.length) (nmPut (at_ + (nmPut at_ ks r.name).1.length + 10) (nmPut at_ ks r.name).2.1 r.target).2.1 r.target
  have hkX : ∀ k ∈ (nmPut at_ ks r.name).2.1, k.name.length ≤ 4398046511104 := fun k hk' => by rcases hX.2.2 k hk' with h | h; exact hk k h; omega
  have hkY : ∀ k ∈ (nmPut (at_ + (nmPut at_ ks r.name).1.length + 10) (nmPut at_ ks r.name).2.1 r.target).2.1, k.name.length ≤ 4398046511104 := fun k hk' => by rcases hY.2.2 k hk' with h | h; exact hkX k h; omega
  refine Fn.enter Try.func72 rfl rfl rfl rfl (Holds.nil w) ?_
  refine CW.seq ?_
  refine CW.region ?_
  refine W.bx rfl (vt rfl) rfl fun b1 => ?_
  refine W.p O.as ?_
  refine W.p O.as ?_
  refine W.p O.as ?_
  refine WL.nil (Q.tn ?_)
  refine CW.seq ?_
  refine CW.seq ?_
  refine CW.region ?_
  refine W.p O.lds ?_
  refine W.q (O.call ⟨rfl, rfl⟩ (AV.cons (vt rfl) (AV.nil)) (fun _ w hw => ref_RrMay _ w (by omega) (by omega))) ?_
  refine W.p O.nt ?_
  refine WL.nil (Q.tn ?_)
  refine CW.cond (vt rfl) (fun hc1 => ?_) (fun hc1 => ?_)
  · try simp only [sk] at hc1
    refine CW.seq ?_
    refine CW.region ?_
    refine W.p O.as ?_
    refine W.p O.as ?_
    refine W.p O.as ?_
    refine WL.nil (Q.tn ?_)
    refine CW.ret (Q.tr ?_)
    refine ⟨_, [], (RVs.tmp rfl (RVs.tmp rfl (RVs.tmp rfl RVs.nil))), List.nil_sublist _, ?_⟩
    rw [rrPut_no hc1]; exact ⟨none, 0, [], rfl, OwnOk.nil, rfl⟩
  try simp only [sk] at hc1
  have hty := may_type hc1
  have htx : r.text.length ≤ 64 := may_text hc1
  refine CW.skip (Q.tn ?_)
  refine CW.seq ?_
  refine CW.region ?_
  refine W.p O.mv ?_
  refine W.p O.mv ?_
  first | refine W.p O.fb ?_ | refine W.p O.fa ?_
  refine W.p O.ld ?_
  refine W.callN (first := []) (cap := []) rfl (vt rfl) (AV.cons (vt rfl) (AV.cons (vt rfl) (AV.cons (vt rfl) (AV.nil)))) (fun w hu => ref_PutName at_ ks r.name a c w (row.h _ w hu) (by omega) hk h1) ?_; rintro _ _ ⟨o11, c11, sp11, rfl, ok11, rfl⟩; have nk11 := ok11.nk
  refine W.p O.mv ?_
  first | refine W.p O.extL ?_ | refine W.p O.ext ?_
  first | refine W.p O.extL ?_ | refine W.p O.ext ?_
  first | refine W.p O.extL ?_ | refine W.p O.ext ?_
  refine W.p O.as ?_
  refine W.p O.as ?_
  refine W.p O.as ?_
  refine WL.nil (Q.tn ?_)
  refine CW.seq ?_
  refine CW.seq ?_
  refine CW.region ?_
  refine W.p O.mv ?_
  refine W.p O.neI ?_
  refine WL.nil (Q.tn ?_)
  refine CW.cond (vt rfl) (fun hc2 => ?_) (fun hc2 => ?_)
  · try simp only [sk] at hc2
    refine CW.seq ?_
    refine CW.region ?_
    refine W.p O.as ?_
    refine W.p O.as ?_
    refine W.p O.as ?_
    refine WL.nil (Q.tn ?_)
    refine CW.ret (Q.tr ?_)
    refine ⟨_, [], (RVs.tmp rfl (RVs.tmp rfl (RVs.tmp rfl RVs.nil))), List.nil_sublist _, ?_⟩
    rw [rrPut_bad hc2]; exact ⟨none, 0, [], rfl, OwnOk.nil, rfl⟩
  try simp only [sk] at hc2
  have hr := nmPut_rng hc2
  refine CW.skip (Q.tn ?_)
  refine CW.seq ?_
  refine CW.region ?_
  refine W.p O.mv ?_
  refine W.p O.mv ?_
  refine W.p O.len ?_
  first | refine W.p O.addN ?_ | refine W.p O.add ?_
  first | refine W.p O.addN ?_ | refine W.p O.add ?_
  refine W.p O.as ?_
  refine WL.nil (Q.tn ?_)
  refine CW.seq ?_
  refine CW.region ?_
  refine W.p O.as ?_
  refine WL.nil (Q.tn ?_)
  refine CW.seq ?_
  refine CW.seq ?_
  refine CW.region ?_
  first | refine W.p O.fb ?_ | refine W.p O.fa ?_
  refine W.p O.ld ?_
  refine WL.nil (Q.tn ?_)
  refine CW.block ?_
  refine CW.seq ?_
  refine CW.region ?_
  refine W.p O.eqI ?_
  refine W.p O.as ?_
  refine WL.nil (Q.tn ?_)
  refine CW.cond (vt rfl) (fun hc3 => ?_) (fun hc3 => ?_)
  · try simp only [sk] at hc3
    refine CW.region ?_
    first | refine W.p O.fb ?_ | refine W.p O.fa ?_
    refine W.p O.ld ?_
    refine W.q (O.call ⟨rfl, rfl⟩ (AV.cons (vt rfl) (AV.cons (vt rfl) (AV.nil))) (fun _ w hw => ref_Num _ _ w (by decide) (by decide))) ?_
    refine W.p O.as ?_
    refine WL.nil (Q.bn (Q.tn ?_))
    refine CW.seq ?_
    refine CW.draw 21 rfl (by kernel_rfl) ?_
    refine WQ.p O.mv ?_
    first | refine WQ.p O.fb ?_ | refine WQ.p O.fa ?_
    refine WQ.p O.ld ?_
    refine WQ.q (O.call ⟨rfl, rfl⟩ (AV.cons (vt rfl) (AV.cons (vt rfl) (AV.nil))) (fun _ w hw => ref_Num _ _ w (by decide) (by decide))) ?_
    refine WQ.p O.addS ?_
    refine WQ.q (O.call ⟨rfl, rfl⟩ (AV.cons (vt rfl) (AV.cons (vt rfl) (AV.nil))) (fun _ w hw => ref_Num _ _ w (by decide) (by decide))) ?_
    refine WQ.p O.addS ?_
    first | refine WQ.p O.fb ?_ | refine WQ.p O.fa ?_
    refine WQ.p O.ld ?_
    refine WQ.q (O.call ⟨rfl, rfl⟩ (AV.cons (vt rfl) (AV.cons (vt rfl) (AV.nil))) (fun _ w hw => ref_Num _ _ w (by decide) (by decide))) ?_
    refine WQ.p O.addS ?_
    refine WQ.p O.mv ?_
    refine WQ.p O.len ?_
    refine WQ.q (O.call ⟨rfl, rfl⟩ (AV.cons (vt rfl) (AV.cons (vt rfl) (AV.nil))) (fun _ w hw => ref_Num _ _ w (by decide) (by decide))) ?_
    refine WQ.p O.addS ?_
    refine WQ.p O.mv ?_
    refine WQ.p O.addS ?_
    refine WQ.p O.mv ?_
    refine WQ.p O.as ?_
    refine WQ.p O.as ?_
    refine WQ.p O.as ?_
    refine WQ.nil ?_
    refine WL.nil (Q.tn ?_)
    refine CW.ret ?_
    refine ⟨_, rowL o11 66 (flat encK (nmPut at_ ks r.name).2.1 sp11), (RVs.tmp rfl (RVs.tmp rfl (RVs.tmp rfl RVs.nil))), (by repeat (first | exact List.Sublist.refl _ | exact hSub _ | exact List.sublist_append_left _ _ | exact List.nil_sublist _ | refine List.Sublist.append (List.Sublist.refl _) ?_ | apply List.Sublist.cons_cons | apply List.Sublist.cons | exact List.sublist_append_left _ _ | refine List.Sublist.trans ?_ (List.sublist_append_right _ _))), ?_⟩
    rw [rrPut_d hc1 hc2 (dP_1 hc3)]; exact ⟨o11, c11, sp11, rfl, ok11, rfl⟩
  try simp only [sk] at hc3
  refine CW.seq ?_
  refine CW.seq ?_
  refine CW.region ?_
  refine W.p O.eqI ?_
  refine W.p O.as ?_
  refine WL.nil (Q.tn ?_)
  refine CW.cond (vt rfl) (fun hc4 => ?_) (fun hc4 => ?_)
  · try simp only [sk] at hc4
    refine CW.skip (Q.tn ?_)
    refine CW.cond (vt rfl) (fun hc5 => ?_) (fun hc5 => ?_)
    · try simp only [sk] at hc5
      refine CW.seq ?_
      refine CW.region ?_
      refine W.p O.mv ?_
      refine W.p O.mv ?_
      first | refine W.p O.fb ?_ | refine W.p O.fa ?_
      refine W.p O.ld ?_
      refine W.callN (first := []) (cap := []) rfl (vt rfl) (AV.cons (vt rfl) (AV.cons (vt rfl) (AV.cons (vt rfl) (AV.nil)))) (fun w hu => ref_PutName (at_ + (nmPut at_ ks r.name).1.length + 10) (nmPut at_ ks r.name).2.1 r.target _ _ w (RowL.h _ hu) (by omega) hkX h2) ?_; rintro _ _ ⟨o12, c12, sp12, rfl, ok12, rfl⟩; have nk12 := ok12.nk
      refine W.p O.mv ?_
      first | refine W.p O.extL ?_ | refine W.p O.ext ?_
      first | refine W.p O.extL ?_ | refine W.p O.ext ?_
      first | refine W.p O.extL ?_ | refine W.p O.ext ?_
      refine W.p O.as ?_
      refine W.p O.as ?_
      refine W.p O.as ?_
      refine WL.nil (Q.tn ?_)
      refine CW.seq ?_
      refine CW.region ?_
      refine W.p O.mv ?_
      refine W.p O.as ?_
      refine WL.nil (Q.tn ?_)
      refine CW.seq ?_
      refine CW.region ?_
      refine W.p O.mv ?_
      refine W.p O.as ?_
      refine WL.nil (Q.tn ?_)
      refine CW.seq ?_
      refine CW.seq ?_
      refine CW.region ?_
      refine W.p O.mv ?_
      refine W.p O.eqI ?_
      refine W.p O.mv ?_
      first | refine W.p O.fb ?_ | refine W.p O.fa ?_
      refine W.p O.ld ?_
      refine W.p O.eqI ?_
      refine W.p O.pkB ?_
      refine WL.nil (Q.tn ?_)
      refine CW.cond (vt rfl) (fun hc6 => ?_) (fun hc6 => ?_)
      · exfalso; simp [hc4] at hc6
      try simp only [sk] at hc6
      refine CW.skip (Q.tn ?_)
      refine CW.seq ?_
      refine CW.region ?_
      refine W.p O.mv ?_
      refine W.p O.neI ?_
      refine WL.nil (Q.tn ?_)
      refine CW.cond (vt rfl) (fun hc7 => ?_) (fun hc7 => ?_)
      · try simp only [sk] at hc7
        refine CW.seq ?_
        refine CW.region ?_
        refine W.p O.as ?_
        refine W.p O.as ?_
        refine W.p O.as ?_
        refine WL.nil (Q.tn ?_)
        refine CW.ret (Q.br (Q.tr ?_))
        refine ⟨_, [], (RVs.tmp rfl (RVs.tmp rfl (RVs.tmp rfl RVs.nil))), List.nil_sublist _, ?_⟩
        first | (exfalso; omega) | (rw [rrPut_n hc1 hc2 (dP_6a (by omega) hc7)]; exact ⟨none, 0, [], rfl, OwnOk.nil, rfl⟩) | (rw [rrPut_n hc1 hc2 ((dP_n (by omega)).trans (if_neg hc7))]; exact ⟨none, 0, [], rfl, OwnOk.nil, rfl⟩)
      try simp only [sk] at hc7
      refine CW.skip (Q.bn (Q.tn ?_))
      refine CW.seq ?_
      refine CW.draw 21 rfl (by kernel_rfl) ?_
      refine WQ.p O.mv ?_
      first | refine WQ.p O.fb ?_ | refine WQ.p O.fa ?_
      refine WQ.p O.ld ?_
      refine WQ.q (O.call ⟨rfl, rfl⟩ (AV.cons (vt rfl) (AV.cons (vt rfl) (AV.nil))) (fun _ w hw => ref_Num _ _ w (by decide) (by decide))) ?_
      refine WQ.p O.addS ?_
      refine WQ.q (O.call ⟨rfl, rfl⟩ (AV.cons (vt rfl) (AV.cons (vt rfl) (AV.nil))) (fun _ w hw => ref_Num _ _ w (by decide) (by decide))) ?_
      refine WQ.p O.addS ?_
      first | refine WQ.p O.fb ?_ | refine WQ.p O.fa ?_
      refine WQ.p O.ld ?_
      refine WQ.q (O.call ⟨rfl, rfl⟩ (AV.cons (vt rfl) (AV.cons (vt rfl) (AV.nil))) (fun _ w hw => ref_Num _ _ w (by decide) (by decide))) ?_
      refine WQ.p O.addS ?_
      refine WQ.p O.mv ?_
      refine WQ.p O.len ?_
      refine WQ.q (O.call ⟨rfl, rfl⟩ (AV.cons (vt rfl) (AV.cons (vt rfl) (AV.nil))) (fun _ w hw => ref_Num _ _ w (by decide) (by decide))) ?_
      refine WQ.p O.addS ?_
      refine WQ.p O.mv ?_
      refine WQ.p O.addS ?_
      refine WQ.p O.mv ?_
      refine WQ.p O.as ?_
      refine WQ.p O.as ?_
      refine WQ.p O.as ?_
      refine WQ.nil ?_
      refine WL.nil (Q.tn ?_)
      refine CW.ret ?_
      refine ⟨_, rowL o12 66 (flat encK (nmPut (at_ + (nmPut at_ ks r.name).1.length + 10) (nmPut at_ ks r.name).2.1 r.target).2.1 sp12), (RVs.tmp rfl (RVs.tmp rfl (RVs.tmp rfl RVs.nil))), (by repeat (first | exact List.Sublist.refl _ | exact hSub _ | exact List.sublist_append_left _ _ | exact List.nil_sublist _ | refine List.Sublist.append (List.Sublist.refl _) ?_ | apply List.Sublist.cons_cons | apply List.Sublist.cons | exact List.sublist_append_left _ _ | refine List.Sublist.trans ?_ (List.sublist_append_right _ _))), ?_⟩
      first | (exfalso; omega) | (rw [rrPut_d hc1 hc2 ((dP_n (by omega)).trans (if_pos hc7))]; exact ⟨o12, c12, sp12, rfl, ok12, rfl⟩)
    exfalso; simp [hc4] at hc5
  try simp only [sk] at hc4
  refine CW.seq ?_
  refine CW.region ?_
  refine W.p O.eqI ?_
  refine W.p O.as ?_
  refine WL.nil (Q.tn ?_)
  refine CW.cond (vt rfl) (fun hc8 => ?_) (fun hc8 => ?_)
  · try simp only [sk] at hc8
    refine CW.skip (Q.tn ?_)
    refine CW.cond (vt rfl) (fun hc9 => ?_) (fun hc9 => ?_)
    · try simp only [sk] at hc9
      refine CW.seq ?_
      refine CW.region ?_
      refine W.p O.mv ?_
      refine W.p O.mv ?_
      first | refine W.p O.fb ?_ | refine W.p O.fa ?_
      refine W.p O.ld ?_
      refine W.callN (first := []) (cap := []) rfl (vt rfl) (AV.cons (vt rfl) (AV.cons (vt rfl) (AV.cons (vt rfl) (AV.nil)))) (fun w hu => ref_PutName (at_ + (nmPut at_ ks r.name).1.length + 10) (nmPut at_ ks r.name).2.1 r.target _ _ w (RowL.h _ hu) (by omega) hkX h2) ?_; rintro _ _ ⟨o12, c12, sp12, rfl, ok12, rfl⟩; have nk12 := ok12.nk
      refine W.p O.mv ?_
      first | refine W.p O.extL ?_ | refine W.p O.ext ?_
      first | refine W.p O.extL ?_ | refine W.p O.ext ?_
      first | refine W.p O.extL ?_ | refine W.p O.ext ?_
      refine W.p O.as ?_
      refine W.p O.as ?_
      refine W.p O.as ?_
      refine WL.nil (Q.tn ?_)
      refine CW.seq ?_
      refine CW.region ?_
      refine W.p O.mv ?_
      refine W.p O.as ?_
      refine WL.nil (Q.tn ?_)
      refine CW.seq ?_
      refine CW.region ?_
      refine W.p O.mv ?_
      refine W.p O.as ?_
      refine WL.nil (Q.tn ?_)
      refine CW.seq ?_
      refine CW.seq ?_
      refine CW.region ?_
      refine W.p O.mv ?_
      refine W.p O.eqI ?_
      refine W.p O.mv ?_
      first | refine W.p O.fb ?_ | refine W.p O.fa ?_
      refine W.p O.ld ?_
      refine W.p O.eqI ?_
      refine W.p O.pkB ?_
      refine WL.nil (Q.tn ?_)
      refine CW.cond (vt rfl) (fun hc10 => ?_) (fun hc10 => ?_)
      · exfalso; simp [hc8] at hc10
      try simp only [sk] at hc10
      refine CW.skip (Q.tn ?_)
      refine CW.seq ?_
      refine CW.region ?_
      refine W.p O.mv ?_
      refine W.p O.neI ?_
      refine WL.nil (Q.tn ?_)
      refine CW.cond (vt rfl) (fun hc11 => ?_) (fun hc11 => ?_)
      · try simp only [sk] at hc11
        refine CW.seq ?_
        refine CW.region ?_
        refine W.p O.as ?_
        refine W.p O.as ?_
        refine W.p O.as ?_
        refine WL.nil (Q.tn ?_)
        refine CW.ret (Q.br (Q.tr ?_))
        refine ⟨_, [], (RVs.tmp rfl (RVs.tmp rfl (RVs.tmp rfl RVs.nil))), List.nil_sublist _, ?_⟩
        first | (exfalso; omega) | (rw [rrPut_n hc1 hc2 (dP_6a (by omega) hc11)]; exact ⟨none, 0, [], rfl, OwnOk.nil, rfl⟩) | (rw [rrPut_n hc1 hc2 ((dP_n (by omega)).trans (if_neg hc11))]; exact ⟨none, 0, [], rfl, OwnOk.nil, rfl⟩)
      try simp only [sk] at hc11
      refine CW.skip (Q.bn (Q.tn ?_))
      refine CW.seq ?_
      refine CW.draw 21 rfl (by kernel_rfl) ?_
      refine WQ.p O.mv ?_
      first | refine WQ.p O.fb ?_ | refine WQ.p O.fa ?_
      refine WQ.p O.ld ?_
      refine WQ.q (O.call ⟨rfl, rfl⟩ (AV.cons (vt rfl) (AV.cons (vt rfl) (AV.nil))) (fun _ w hw => ref_Num _ _ w (by decide) (by decide))) ?_
      refine WQ.p O.addS ?_
      refine WQ.q (O.call ⟨rfl, rfl⟩ (AV.cons (vt rfl) (AV.cons (vt rfl) (AV.nil))) (fun _ w hw => ref_Num _ _ w (by decide) (by decide))) ?_
      refine WQ.p O.addS ?_
      first | refine WQ.p O.fb ?_ | refine WQ.p O.fa ?_
      refine WQ.p O.ld ?_
      refine WQ.q (O.call ⟨rfl, rfl⟩ (AV.cons (vt rfl) (AV.cons (vt rfl) (AV.nil))) (fun _ w hw => ref_Num _ _ w (by decide) (by decide))) ?_
      refine WQ.p O.addS ?_
      refine WQ.p O.mv ?_
      refine WQ.p O.len ?_
      refine WQ.q (O.call ⟨rfl, rfl⟩ (AV.cons (vt rfl) (AV.cons (vt rfl) (AV.nil))) (fun _ w hw => ref_Num _ _ w (by decide) (by decide))) ?_
      refine WQ.p O.addS ?_
      refine WQ.p O.mv ?_
      refine WQ.p O.addS ?_
      refine WQ.p O.mv ?_
      refine WQ.p O.as ?_
      refine WQ.p O.as ?_
      refine WQ.p O.as ?_
      refine WQ.nil ?_
      refine WL.nil (Q.tn ?_)
      refine CW.ret ?_
      refine ⟨_, rowL o12 66 (flat encK (nmPut (at_ + (nmPut at_ ks r.name).1.length + 10) (nmPut at_ ks r.name).2.1 r.target).2.1 sp12), (RVs.tmp rfl (RVs.tmp rfl (RVs.tmp rfl RVs.nil))), (by repeat (first | exact List.Sublist.refl _ | exact hSub _ | exact List.sublist_append_left _ _ | exact List.nil_sublist _ | refine List.Sublist.append (List.Sublist.refl _) ?_ | apply List.Sublist.cons_cons | apply List.Sublist.cons | exact List.sublist_append_left _ _ | refine List.Sublist.trans ?_ (List.sublist_append_right _ _))), ?_⟩
      first | (exfalso; omega) | (rw [rrPut_d hc1 hc2 ((dP_n (by omega)).trans (if_pos hc11))]; exact ⟨o12, c12, sp12, rfl, ok12, rfl⟩)
    exfalso; simp [hc8] at hc9
  try simp only [sk] at hc8
  refine CW.seq ?_
  refine CW.region ?_
  refine W.p O.eqI ?_
  refine W.p O.as ?_
  refine WL.nil (Q.tn ?_)
  refine CW.cond (vt rfl) (fun hc12 => ?_) (fun hc12 => ?_)
  · try simp only [sk] at hc12
    refine CW.skip (Q.tn ?_)
    refine CW.cond (vt rfl) (fun hc13 => ?_) (fun hc13 => ?_)
    · try simp only [sk] at hc13
      refine CW.seq ?_
      refine CW.region ?_
      refine W.p O.mv ?_
      refine W.p O.mv ?_
      first | refine W.p O.fb ?_ | refine W.p O.fa ?_
      refine W.p O.ld ?_
      refine W.callN (first := []) (cap := []) rfl (vt rfl) (AV.cons (vt rfl) (AV.cons (vt rfl) (AV.cons (vt rfl) (AV.nil)))) (fun w hu => ref_PutName (at_ + (nmPut at_ ks r.name).1.length + 10) (nmPut at_ ks r.name).2.1 r.target _ _ w (RowL.h _ hu) (by omega) hkX h2) ?_; rintro _ _ ⟨o12, c12, sp12, rfl, ok12, rfl⟩; have nk12 := ok12.nk
      refine W.p O.mv ?_
      first | refine W.p O.extL ?_ | refine W.p O.ext ?_
      first | refine W.p O.extL ?_ | refine W.p O.ext ?_
      first | refine W.p O.extL ?_ | refine W.p O.ext ?_
      refine W.p O.as ?_
      refine W.p O.as ?_
      refine W.p O.as ?_
      refine WL.nil (Q.tn ?_)
      refine CW.seq ?_
      refine CW.region ?_
      refine W.p O.mv ?_
      refine W.p O.as ?_
      refine WL.nil (Q.tn ?_)
      refine CW.seq ?_
      refine CW.region ?_
      refine W.p O.mv ?_
      refine W.p O.as ?_
      refine WL.nil (Q.tn ?_)
      refine CW.seq ?_
      refine CW.seq ?_
      refine CW.region ?_
      refine W.p O.mv ?_
      refine W.p O.eqI ?_
      refine W.p O.mv ?_
      first | refine W.p O.fb ?_ | refine W.p O.fa ?_
      refine W.p O.ld ?_
      refine W.p O.eqI ?_
      refine W.p O.pkB ?_
      refine WL.nil (Q.tn ?_)
      refine CW.cond (vt rfl) (fun hc14 => ?_) (fun hc14 => ?_)
      · exfalso; simp [hc12] at hc14
      try simp only [sk] at hc14
      refine CW.skip (Q.tn ?_)
      refine CW.seq ?_
      refine CW.region ?_
      refine W.p O.mv ?_
      refine W.p O.neI ?_
      refine WL.nil (Q.tn ?_)
      refine CW.cond (vt rfl) (fun hc15 => ?_) (fun hc15 => ?_)
      · try simp only [sk] at hc15
        refine CW.seq ?_
        refine CW.region ?_
        refine W.p O.as ?_
        refine W.p O.as ?_
        refine W.p O.as ?_
        refine WL.nil (Q.tn ?_)
        refine CW.ret (Q.br (Q.tr ?_))
        refine ⟨_, [], (RVs.tmp rfl (RVs.tmp rfl (RVs.tmp rfl RVs.nil))), List.nil_sublist _, ?_⟩
        first | (exfalso; omega) | (rw [rrPut_n hc1 hc2 (dP_6a (by omega) hc15)]; exact ⟨none, 0, [], rfl, OwnOk.nil, rfl⟩) | (rw [rrPut_n hc1 hc2 ((dP_n (by omega)).trans (if_neg hc15))]; exact ⟨none, 0, [], rfl, OwnOk.nil, rfl⟩)
      try simp only [sk] at hc15
      refine CW.skip (Q.bn (Q.tn ?_))
      refine CW.seq ?_
      refine CW.draw 21 rfl (by kernel_rfl) ?_
      refine WQ.p O.mv ?_
      first | refine WQ.p O.fb ?_ | refine WQ.p O.fa ?_
      refine WQ.p O.ld ?_
      refine WQ.q (O.call ⟨rfl, rfl⟩ (AV.cons (vt rfl) (AV.cons (vt rfl) (AV.nil))) (fun _ w hw => ref_Num _ _ w (by decide) (by decide))) ?_
      refine WQ.p O.addS ?_
      refine WQ.q (O.call ⟨rfl, rfl⟩ (AV.cons (vt rfl) (AV.cons (vt rfl) (AV.nil))) (fun _ w hw => ref_Num _ _ w (by decide) (by decide))) ?_
      refine WQ.p O.addS ?_
      first | refine WQ.p O.fb ?_ | refine WQ.p O.fa ?_
      refine WQ.p O.ld ?_
      refine WQ.q (O.call ⟨rfl, rfl⟩ (AV.cons (vt rfl) (AV.cons (vt rfl) (AV.nil))) (fun _ w hw => ref_Num _ _ w (by decide) (by decide))) ?_
      refine WQ.p O.addS ?_
      refine WQ.p O.mv ?_
      refine WQ.p O.len ?_
      refine WQ.q (O.call ⟨rfl, rfl⟩ (AV.cons (vt rfl) (AV.cons (vt rfl) (AV.nil))) (fun _ w hw => ref_Num _ _ w (by decide) (by decide))) ?_
      refine WQ.p O.addS ?_
      refine WQ.p O.mv ?_
      refine WQ.p O.addS ?_
      refine WQ.p O.mv ?_
      refine WQ.p O.as ?_
      refine WQ.p O.as ?_
      refine WQ.p O.as ?_
      refine WQ.nil ?_
      refine WL.nil (Q.tn ?_)
      refine CW.ret ?_
      refine ⟨_, rowL o12 66 (flat encK (nmPut (at_ + (nmPut at_ ks r.name).1.length + 10) (nmPut at_ ks r.name).2.1 r.target).2.1 sp12), (RVs.tmp rfl (RVs.tmp rfl (RVs.tmp rfl RVs.nil))), (by repeat (first | exact List.Sublist.refl _ | exact hSub _ | exact List.sublist_append_left _ _ | exact List.nil_sublist _ | refine List.Sublist.append (List.Sublist.refl _) ?_ | apply List.Sublist.cons_cons | apply List.Sublist.cons | exact List.sublist_append_left _ _ | refine List.Sublist.trans ?_ (List.sublist_append_right _ _))), ?_⟩
      first | (exfalso; omega) | (rw [rrPut_d hc1 hc2 ((dP_n (by omega)).trans (if_pos hc15))]; exact ⟨o12, c12, sp12, rfl, ok12, rfl⟩)
    exfalso; simp [hc12] at hc13
  try simp only [sk] at hc12
  refine CW.region ?_
  refine W.p O.eqI ?_
  refine W.p O.as ?_
  refine WL.nil (Q.tn ?_)
  refine CW.cond (vt rfl) (fun hc16 => ?_) (fun hc16 => ?_)
  · try simp only [sk] at hc16
    refine CW.seq ?_
    refine CW.region ?_
    refine W.p O.mv ?_
    refine W.p O.mv ?_
    first | refine W.p O.fb ?_ | refine W.p O.fa ?_
    refine W.p O.ld ?_
    refine W.callN (first := []) (cap := []) rfl (vt rfl) (AV.cons (vt rfl) (AV.cons (vt rfl) (AV.cons (vt rfl) (AV.nil)))) (fun w hu => ref_PutName (at_ + (nmPut at_ ks r.name).1.length + 10) (nmPut at_ ks r.name).2.1 r.target _ _ w (RowL.h _ hu) (by omega) hkX h2) ?_; rintro _ _ ⟨o12, c12, sp12, rfl, ok12, rfl⟩; have nk12 := ok12.nk
    refine W.p O.mv ?_
    first | refine W.p O.extL ?_ | refine W.p O.ext ?_
    first | refine W.p O.extL ?_ | refine W.p O.ext ?_
    first | refine W.p O.extL ?_ | refine W.p O.ext ?_
    refine W.p O.as ?_
    refine W.p O.as ?_
    refine W.p O.as ?_
    refine WL.nil (Q.tn ?_)
    refine CW.seq ?_
    refine CW.region ?_
    refine W.p O.mv ?_
    refine W.p O.as ?_
    refine WL.nil (Q.tn ?_)
    refine CW.seq ?_
    refine CW.region ?_
    refine W.p O.mv ?_
    refine W.p O.as ?_
    refine WL.nil (Q.tn ?_)
    refine CW.seq ?_
    refine CW.seq ?_
    refine CW.region ?_
    refine W.p O.mv ?_
    refine W.p O.eqI ?_
    refine W.p O.mv ?_
    first | refine W.p O.fb ?_ | refine W.p O.fa ?_
    refine W.p O.ld ?_
    refine W.p O.eqI ?_
    refine W.p O.pkB ?_
    refine WL.nil (Q.tn ?_)
    refine CW.cond (vt rfl) (fun hc17 => ?_) (fun hc17 => ?_)
    · try simp only [sk] at hc17
      refine CW.seq ?_
      refine CW.region ?_
      refine W.p O.mv ?_
      refine W.p O.mv ?_
      refine W.p O.len ?_
      first | refine W.p O.addN ?_ | refine W.p O.add ?_
      refine W.p O.mv ?_
      first | refine W.p O.fb ?_ | refine W.p O.fa ?_
      refine W.p O.ld ?_
      refine W.callN (first := []) (cap := []) rfl (vt rfl) (AV.cons (vt rfl) (AV.cons (vt rfl) (AV.cons (vt rfl) (AV.nil)))) (fun w hu => ref_PutName (at_ + (nmPut at_ ks r.name).1.length + 10 + (nmPut (at_ + (nmPut at_ ks r.name).1.length + 10) (nmPut at_ ks r.name).2.1 r.target).1.length) (nmPut (at_ + (nmPut at_ ks r.name).1.length + 10) (nmPut at_ ks r.name).2.1 r.target).2.1 r.target _ _ w (RowL.h _ hu) (by omega) hkY h2) ?_; rintro _ _ ⟨o13, c13, sp13, rfl, ok13, rfl⟩; have nk13 := ok13.nk
      refine W.p O.mv ?_
      first | refine W.p O.extL ?_ | refine W.p O.ext ?_
      first | refine W.p O.extL ?_ | refine W.p O.ext ?_
      first | refine W.p O.extL ?_ | refine W.p O.ext ?_
      refine W.p O.as ?_
      refine W.p O.as ?_
      refine W.p O.as ?_
      refine WL.nil (Q.tn ?_)
      refine CW.seq ?_
      refine CW.region ?_
      refine W.p O.mv ?_
      refine W.p O.as ?_
      refine WL.nil (Q.tn ?_)
      refine CW.region ?_
      refine W.p O.mv ?_
      refine W.p O.mv ?_
      refine W.p O.addS ?_
      first | refine W.p O.fb ?_ | refine W.p O.fa ?_
      refine W.p O.ld ?_
      refine W.q (O.call ⟨rfl, rfl⟩ (AV.cons (vt rfl) (AV.cons (vt rfl) (AV.nil))) (fun _ w hw => ref_Num _ _ w (by decide) (by decide))) ?_
      refine W.p O.addS ?_
      refine W.q (O.call ⟨rfl, rfl⟩ (AV.cons (vt rfl) (AV.cons (vt rfl) (AV.nil))) (fun _ w hw => ref_Num _ _ w (by decide) (by decide))) ?_
      refine W.p O.addS ?_
      refine W.q (O.call ⟨rfl, rfl⟩ (AV.cons (vt rfl) (AV.cons (vt rfl) (AV.nil))) (fun _ w hw => ref_Num _ _ w (by decide) (by decide))) ?_
      refine W.p O.addS ?_
      refine W.q (O.call ⟨rfl, rfl⟩ (AV.cons (vt rfl) (AV.cons (vt rfl) (AV.nil))) (fun _ w hw => ref_Num _ _ w (by decide) (by decide))) ?_
      refine W.p O.addS ?_
      refine W.q (O.call ⟨rfl, rfl⟩ (AV.cons (vt rfl) (AV.cons (vt rfl) (AV.nil))) (fun _ w hw => ref_Num _ _ w (by decide) (by decide))) ?_
      refine W.p O.addS ?_
      refine W.p O.as ?_
      refine WL.nil (Q.tn ?_)
      refine CW.seq ?_
      refine CW.region ?_
      refine W.p O.mv ?_
      refine W.p O.neI ?_
      refine WL.nil (Q.tn ?_)
      refine CW.cond (vt rfl) (fun hc18 => ?_) (fun hc18 => ?_)
      · try simp only [sk] at hc18
        refine CW.seq ?_
        refine CW.region ?_
        refine W.p O.as ?_
        refine W.p O.as ?_
        refine W.p O.as ?_
        refine WL.nil (Q.tn ?_)
        refine CW.ret (Q.br (Q.tr ?_))
        refine ⟨_, [], (RVs.tmp rfl (RVs.tmp rfl (RVs.tmp rfl RVs.nil))), List.nil_sublist _, ?_⟩
        first | (exfalso; omega) | (rw [rrPut_n hc1 hc2 (dP_6b hc17.2 hc17.1 hc18)]; exact ⟨none, 0, [], rfl, OwnOk.nil, rfl⟩)
      try simp only [sk] at hc18
      refine CW.skip (Q.bn (Q.tn ?_))
      refine CW.seq ?_
      refine CW.draw 21 rfl (by kernel_rfl) ?_
      refine WQ.p O.mv ?_
      first | refine WQ.p O.fb ?_ | refine WQ.p O.fa ?_
      refine WQ.p O.ld ?_
      refine WQ.q (O.call ⟨rfl, rfl⟩ (AV.cons (vt rfl) (AV.cons (vt rfl) (AV.nil))) (fun _ w hw => ref_Num _ _ w (by decide) (by decide))) ?_
      refine WQ.p O.addS ?_
      refine WQ.q (O.call ⟨rfl, rfl⟩ (AV.cons (vt rfl) (AV.cons (vt rfl) (AV.nil))) (fun _ w hw => ref_Num _ _ w (by decide) (by decide))) ?_
      refine WQ.p O.addS ?_
      first | refine WQ.p O.fb ?_ | refine WQ.p O.fa ?_
      refine WQ.p O.ld ?_
      refine WQ.q (O.call ⟨rfl, rfl⟩ (AV.cons (vt rfl) (AV.cons (vt rfl) (AV.nil))) (fun _ w hw => ref_Num _ _ w (by decide) (by decide))) ?_
      refine WQ.p O.addS ?_
      refine WQ.p O.mv ?_
      refine WQ.p O.len ?_
      refine WQ.q (O.call ⟨rfl, rfl⟩ (AV.cons (vt rfl) (AV.cons (vt rfl) (AV.nil))) (fun _ w hw => ref_Num _ _ w (by decide) (by decide))) ?_
      refine WQ.p O.addS ?_
      refine WQ.p O.mv ?_
      refine WQ.p O.addS ?_
      refine WQ.p O.mv ?_
      refine WQ.p O.as ?_
      refine WQ.p O.as ?_
      refine WQ.p O.as ?_
      refine WQ.nil ?_
      refine WL.nil (Q.tn ?_)
      refine CW.ret ?_
      refine ⟨_, rowL o13 66 (flat encK (nmPut (at_ + (nmPut at_ ks r.name).1.length + 10 + (nmPut (at_ + (nmPut at_ ks r.name).1.length + 10) (nmPut at_ ks r.name).2.1 r.target).1.length) (nmPut (at_ + (nmPut at_ ks r.name).1.length + 10) (nmPut at_ ks r.name).2.1 r.target).2.1 r.target).2.1 sp13), (RVs.tmp rfl (RVs.tmp rfl (RVs.tmp rfl RVs.nil))), (by repeat (first | exact List.Sublist.refl _ | exact hSub _ | exact List.sublist_append_left _ _ | exact List.nil_sublist _ | refine List.Sublist.append (List.Sublist.refl _) ?_ | apply List.Sublist.cons_cons | apply List.Sublist.cons | exact List.sublist_append_left _ _ | refine List.Sublist.trans ?_ (List.sublist_append_right _ _))), ?_⟩
      first | (exfalso; omega) | (rw [rrPut_d hc1 hc2 (dP_6 hc17.2 hc17.1 hc18)]; exact ⟨o13, c13, sp13, by simp [soaTail, oneOr], ok13, rfl⟩)
    try simp only [sk] at hc17
    refine CW.skip (Q.tn ?_)
    refine CW.seq ?_
    refine CW.region ?_
    refine W.p O.mv ?_
    refine W.p O.neI ?_
    refine WL.nil (Q.tn ?_)
    refine CW.cond (vt rfl) (fun hc19 => ?_) (fun hc19 => ?_)
    · try simp only [sk] at hc19
      refine CW.seq ?_
      refine CW.region ?_
      refine W.p O.as ?_
      refine W.p O.as ?_
      refine W.p O.as ?_
      refine WL.nil (Q.tn ?_)
      refine CW.ret (Q.br (Q.tr ?_))
      refine ⟨_, [], (RVs.tmp rfl (RVs.tmp rfl (RVs.tmp rfl RVs.nil))), List.nil_sublist _, ?_⟩
      first | (exfalso; omega) | (rw [rrPut_n hc1 hc2 (dP_6a (by omega) hc19)]; exact ⟨none, 0, [], rfl, OwnOk.nil, rfl⟩) | (rw [rrPut_n hc1 hc2 ((dP_n (by omega)).trans (if_neg hc19))]; exact ⟨none, 0, [], rfl, OwnOk.nil, rfl⟩)
    try simp only [sk] at hc19
    refine CW.skip (Q.bn (Q.tn ?_))
    refine CW.seq ?_
    refine CW.draw 21 rfl (by kernel_rfl) ?_
    refine WQ.p O.mv ?_
    first | refine WQ.p O.fb ?_ | refine WQ.p O.fa ?_
    refine WQ.p O.ld ?_
    refine WQ.q (O.call ⟨rfl, rfl⟩ (AV.cons (vt rfl) (AV.cons (vt rfl) (AV.nil))) (fun _ w hw => ref_Num _ _ w (by decide) (by decide))) ?_
    refine WQ.p O.addS ?_
    refine WQ.q (O.call ⟨rfl, rfl⟩ (AV.cons (vt rfl) (AV.cons (vt rfl) (AV.nil))) (fun _ w hw => ref_Num _ _ w (by decide) (by decide))) ?_
    refine WQ.p O.addS ?_
    first | refine WQ.p O.fb ?_ | refine WQ.p O.fa ?_
    refine WQ.p O.ld ?_
    refine WQ.q (O.call ⟨rfl, rfl⟩ (AV.cons (vt rfl) (AV.cons (vt rfl) (AV.nil))) (fun _ w hw => ref_Num _ _ w (by decide) (by decide))) ?_
    refine WQ.p O.addS ?_
    refine WQ.p O.mv ?_
    refine WQ.p O.len ?_
    refine WQ.q (O.call ⟨rfl, rfl⟩ (AV.cons (vt rfl) (AV.cons (vt rfl) (AV.nil))) (fun _ w hw => ref_Num _ _ w (by decide) (by decide))) ?_
    refine WQ.p O.addS ?_
    refine WQ.p O.mv ?_
    refine WQ.p O.addS ?_
    refine WQ.p O.mv ?_
    refine WQ.p O.as ?_
    refine WQ.p O.as ?_
    refine WQ.p O.as ?_
    refine WQ.nil ?_
    refine WL.nil (Q.tn ?_)
    refine CW.ret ?_
    refine ⟨_, rowL o12 66 (flat encK (nmPut (at_ + (nmPut at_ ks r.name).1.length + 10) (nmPut at_ ks r.name).2.1 r.target).2.1 sp12), (RVs.tmp rfl (RVs.tmp rfl (RVs.tmp rfl RVs.nil))), (by repeat (first | exact List.Sublist.refl _ | exact hSub _ | exact List.sublist_append_left _ _ | exact List.nil_sublist _ | refine List.Sublist.append (List.Sublist.refl _) ?_ | apply List.Sublist.cons_cons | apply List.Sublist.cons | exact List.sublist_append_left _ _ | refine List.Sublist.trans ?_ (List.sublist_append_right _ _))), ?_⟩
    first | (exfalso; omega) | (rw [rrPut_d hc1 hc2 ((dP_n (by omega)).trans (if_pos hc19))]; exact ⟨o12, c12, sp12, rfl, ok12, rfl⟩)
  try simp only [sk] at hc16
  refine CW.seq ?_
  refine CW.region ?_
  refine W.p O.eqI ?_
  refine W.p O.as ?_
  refine WL.nil (Q.tn ?_)
  refine CW.cond (vt rfl) (fun hc20 => ?_) (fun hc20 => ?_)
  · try simp only [sk] at hc20
    refine CW.draw 8 rfl (by kernel_rfl) ?_
    first | refine WQ.p O.fb ?_ | refine WQ.p O.fa ?_
    refine WQ.p O.ld ?_
    refine WQ.p O.len ?_
    refine WQ.q (O.call ⟨rfl, rfl⟩ (AV.cons (vt rfl) (AV.cons (vt rfl) (AV.nil))) (fun _ w hw => ref_Num _ _ w (by decide) (by decide))) ?_
    first | refine WQ.p O.fb ?_ | refine WQ.p O.fa ?_
    refine WQ.p O.ld ?_
    refine WQ.p O.addS ?_
    refine WQ.p O.as ?_
    refine WQ.nil ?_
    refine WL.nil (Q.bn (Q.tn ?_))
    refine CW.seq ?_
    refine CW.draw 21 rfl (by kernel_rfl) ?_
    refine WQ.p O.mv ?_
    first | refine WQ.p O.fb ?_ | refine WQ.p O.fa ?_
    refine WQ.p O.ld ?_
    refine WQ.q (O.call ⟨rfl, rfl⟩ (AV.cons (vt rfl) (AV.cons (vt rfl) (AV.nil))) (fun _ w hw => ref_Num _ _ w (by decide) (by decide))) ?_
    refine WQ.p O.addS ?_
    refine WQ.q (O.call ⟨rfl, rfl⟩ (AV.cons (vt rfl) (AV.cons (vt rfl) (AV.nil))) (fun _ w hw => ref_Num _ _ w (by decide) (by decide))) ?_
    refine WQ.p O.addS ?_
    first | refine WQ.p O.fb ?_ | refine WQ.p O.fa ?_
    refine WQ.p O.ld ?_
    refine WQ.q (O.call ⟨rfl, rfl⟩ (AV.cons (vt rfl) (AV.cons (vt rfl) (AV.nil))) (fun _ w hw => ref_Num _ _ w (by decide) (by decide))) ?_
    refine WQ.p O.addS ?_
    refine WQ.p O.mv ?_
    refine WQ.p O.len ?_
    refine WQ.q (O.call ⟨rfl, rfl⟩ (AV.cons (vt rfl) (AV.cons (vt rfl) (AV.nil))) (fun _ w hw => ref_Num _ _ w (by decide) (by decide))) ?_
    refine WQ.p O.addS ?_
    refine WQ.p O.mv ?_
    refine WQ.p O.addS ?_
    refine WQ.p O.mv ?_
    refine WQ.p O.as ?_
    refine WQ.p O.as ?_
    refine WQ.p O.as ?_
    refine WQ.nil ?_
    refine WL.nil (Q.tn ?_)
    refine CW.ret ?_
    refine ⟨_, rowL o11 66 (flat encK (nmPut at_ ks r.name).2.1 sp11), (RVs.tmp rfl (RVs.tmp rfl (RVs.tmp rfl RVs.nil))), (by repeat (first | exact List.Sublist.refl _ | exact hSub _ | exact List.sublist_append_left _ _ | exact List.nil_sublist _ | refine List.Sublist.append (List.Sublist.refl _) ?_ | apply List.Sublist.cons_cons | apply List.Sublist.cons | exact List.sublist_append_left _ _ | refine List.Sublist.trans ?_ (List.sublist_append_right _ _))), ?_⟩
    first | (exfalso; omega) | (rw [rrPut_d hc1 hc2 (dP_16 (by omega))]; exact ⟨o11, c11, sp11, by simp [oneOr, beb_1, byteOf_nat], ok11, rfl⟩)
  try simp only [sk] at hc20
  refine CW.region ?_
  first | refine W.p O.fb ?_ | refine W.p O.fa ?_
  refine W.p O.ld ?_
  refine W.p O.as ?_
  refine WL.nil (Q.bn (Q.tn ?_))
  refine CW.seq ?_
  refine CW.draw 21 rfl (by kernel_rfl) ?_
  refine WQ.p O.mv ?_
  first | refine WQ.p O.fb ?_ | refine WQ.p O.fa ?_
  refine WQ.p O.ld ?_
  refine WQ.q (O.call ⟨rfl, rfl⟩ (AV.cons (vt rfl) (AV.cons (vt rfl) (AV.nil))) (fun _ w hw => ref_Num _ _ w (by decide) (by decide))) ?_
  refine WQ.p O.addS ?_
  refine WQ.q (O.call ⟨rfl, rfl⟩ (AV.cons (vt rfl) (AV.cons (vt rfl) (AV.nil))) (fun _ w hw => ref_Num _ _ w (by decide) (by decide))) ?_
  refine WQ.p O.addS ?_
  first | refine WQ.p O.fb ?_ | refine WQ.p O.fa ?_
  refine WQ.p O.ld ?_
  refine WQ.q (O.call ⟨rfl, rfl⟩ (AV.cons (vt rfl) (AV.cons (vt rfl) (AV.nil))) (fun _ w hw => ref_Num _ _ w (by decide) (by decide))) ?_
  refine WQ.p O.addS ?_
  refine WQ.p O.mv ?_
  refine WQ.p O.len ?_
  refine WQ.q (O.call ⟨rfl, rfl⟩ (AV.cons (vt rfl) (AV.cons (vt rfl) (AV.nil))) (fun _ w hw => ref_Num _ _ w (by decide) (by decide))) ?_
  refine WQ.p O.addS ?_
  refine WQ.p O.mv ?_
  refine WQ.p O.addS ?_
  refine WQ.p O.mv ?_
  refine WQ.p O.as ?_
  refine WQ.p O.as ?_
  refine WQ.p O.as ?_
  refine WQ.nil ?_
  refine WL.nil (Q.tn ?_)
  refine CW.ret ?_
  refine ⟨_, rowL o11 66 (flat encK (nmPut at_ ks r.name).2.1 sp11), (RVs.tmp rfl (RVs.tmp rfl (RVs.tmp rfl RVs.nil))), (by repeat (first | exact List.Sublist.refl _ | exact hSub _ | exact List.sublist_append_left _ _ | exact List.nil_sublist _ | refine List.Sublist.append (List.Sublist.refl _) ?_ | apply List.Sublist.cons_cons | apply List.Sublist.cons | exact List.sublist_append_left _ _ | refine List.Sublist.trans ?_ (List.sublist_append_right _ _))), ?_⟩
  first | (exfalso; omega) | (rw [rrPut_d hc1 hc2 (dP_49 (by omega))]; exact ⟨o11, c11, sp11, rfl, ok11, rfl⟩)
end Go.Proofs.Ytkjcmdgideddnaa
