/- The statement RrBack: its walk. Conditions: what comes in is not longer than some millions. -/
import Derived.Test.YtkjcmdgideddnaaL4
set_option linter.unusedVariables false
set_option linter.unusedSimpArgs false
namespace Go.Proofs.Ytkjcmdgideddnaa
open Go Go.RowKit
theorem good_len {s : List UInt8} {ks : List Kn} (h : Good s ks) : ∀ k ∈ ks, k.name.length ≤ 140737488355328 := fun k hk => by
  have := (h k hk).1
  simp only [knOk, Bool.and_eq_true] at this
  have := nmMay_len this.1.1.2
  omega
set_option maxRecDepth 100000 in
theorem law4_RrBack (xs : List RR) (a : Option Addr) (c : Nat) (w : World) (h : In w a (xs.flatMap encR)) (hn : xs.length ≤ 1048576) (hx0 : ∀ x ∈ xs, x.name.length ≤ 1048576) (hx1 : ∀ x ∈ xs, x.target.length ≤ 1048576) : Fn Try.prog 25 [.slice a xs.length c] w [] fun v L' => v = .bool true ∧ L' = [] := by
  have row := Row.ofE h
  refine Fn.enter Try.func25 rfl rfl rfl rfl (Holds.nil w) ?_
  refine CW.seq ?_
  refine CW.region ?_
  refine W.p O.as ?_
  refine WL.nil (Q.tn ?_)
  refine CW.seq ?_
  refine CW.seq ?_
  refine CW.region ?_
  refine W.q (O.call ⟨rfl, rfl⟩ (AV.nil) (fun _ w hw => law4_awake w)) ?_
  refine W.p O.nt ?_
  refine WL.nil (Q.tn ?_)
  refine CW.cond (vt rfl) (fun hc1 => ?_) (fun hc1 => ?_)
  · exact absurd hc1 (by decide)
  try simp only [Bool.cond_true_left, Bool.cond_false_right, Bool.or_eq_true, Bool.or_eq_false_iff, Bool.and_eq_true, Bool.and_eq_false_iff, decide_eq_true_eq, decide_eq_false_iff_not, Bool.not_eq_true', Bool.not_eq_false'] at hc1
  refine CW.skip (Q.tn ?_)
  refine CW.seq ?_
  refine CW.region ?_
  refine W.p O.as ?_
  refine WL.nil (Q.tn ?_)
  refine CW.seq ?_
  refine CW.region ?_
  refine W.p O.as ?_
  refine WL.nil (Q.tn ?_)
  refine CW.seq ?_
  refine CW.region ?_
  refine W.p O.as ?_
  refine WL.nil (Q.tn ?_)
  refine CW.seq ?_
  refine CW.region ?_
  refine W.p O.as ?_
  refine WL.nil (Q.tn ?_)
  refine CW.seq ?_
  refine CW.seq ?_
  refine CW.region ?_
  refine W.p O.as ?_
  refine WL.nil (Q.tn ?_)
  refine CW.block ?_
  refine CW.loop (X := Int × (List UInt8) × (List Kn) × (List Int) × (List RR) × (Option Nat) × Nat × (List Value) × (Option Nat) × Nat × (List Value) × (Option Nat) × Nat × (List Value)) (fun ⟨i, s, ks, ats, told, p1, q1, r1, p2, q2, r2, p3, q3, r3⟩ => [(0, true, .slice a xs.length c), (3, true, .string (S s)), (4, true, .slice (oa p1) ks.length q1), (5, true, .slice (oa p2) ats.length q2), (6, true, .slice (oa p3) told.length q3), (7, true, .int .i64 i)]) (fun ⟨i, s, ks, ats, told, p1, q1, r1, p2, q2, r2, p3, q3, r3⟩ => rowL p3 96 (flat encR told r3) ++ (rowL p2 3 (flat encI ats r2) ++ rowL p1 66 (flat encK ks r1))) (fun ⟨i, s, ks, ats, told, p1, q1, r1, p2, q2, r2, p3, q3, r3⟩ => 0 ≤ i ∧ i ≤ xs.length ∧ i ≤ 12 ∧ RB s ks ats told ∧ OwnOk p1 q1 2 ks.length r1.length ∧ OwnOk p2 q2 1 ats.length r2.length ∧ OwnOk p3 q3 7 told.length r3.length ∧ s.length ≤ 1084 * i ∧ ks.length ≤ 1000 * i ∧ ats.length ≤ i) (fun ⟨i, s, ks, ats, told, p1, q1, r1, p2, q2, r2, p3, q3, r3⟩ => (xs.length - i).toNat) (0, [], [], [], [], none, 0, [], none, 0, [], none, 0, []) ?_ (by repeat (first | exact trivial | refine ⟨rfl, ?_⟩ | refine ⟨by (simp only [List.length_set]; rfl), ?_⟩)) (by repeat (first | exact List.Sublist.refl _ | exact List.sublist_append_left _ _ | exact List.nil_sublist _ | refine List.Sublist.append (List.Sublist.refl _) ?_ | apply List.Sublist.cons_cons | apply List.Sublist.cons | refine List.Sublist.trans ?_ (List.sublist_append_right _ _))) ?_
  · exact ⟨by omega, by omega, by omega, rb_new, OwnOk.nil, OwnOk.nil, OwnOk.nil, by simp, by simp, by simp⟩
  rintro ⟨i, s, ks, ats, told, p1, q1, r1, p2, q2, r2, p3, q3, r3⟩ hI
  try dsimp only at hI ⊢
  obtain ⟨h0, h1, h12, hW, hk1, hk2, hk3, hsl, hkl, hal⟩ := hI
  have nk1 := hk1.nk; have nk2 := hk2.nk; have nk3 := hk3.nk
  have hm := rrPut_ks s.length ks (xs.getD i.toNat dR)
  have hx0' : i < xs.length → (xs.getD i.toNat dR).name.length ≤ 1048576 := fun h => hx0 _ (mem_at dR h0 h)
  have hx1' : i < xs.length → (xs.getD i.toNat dR).target.length ≤ 1048576 := fun h => hx1 _ (mem_at dR h0 h)
  have htl := hW.2.1
  have hpm := rb_put (r := (xs.getD i.toNat dR)) hW (by omega)
  refine CW.seq ?_
  refine CW.seq ?_
  refine CW.region ?_
  refine W.p O.mv ?_
  refine W.p O.mv ?_
  refine W.p O.lenL ?_
  refine W.p O.lss ?_
  refine W.p O.mv ?_
  refine W.p O.mv ?_
  refine W.p O.lss ?_
  refine W.p O.pkB ?_
  refine WL.nil (Q.tn ?_)
  refine CW.cond (vt rfl) (fun hc2 => ?_) (fun hc2 => ?_)
  · try simp only [Bool.cond_true_left, Bool.cond_false_right, Bool.or_eq_true, Bool.or_eq_false_iff, Bool.and_eq_true, Bool.and_eq_false_iff, decide_eq_true_eq, decide_eq_false_iff_not, Bool.not_eq_true', Bool.not_eq_false'] at hc2
    refine CW.skip (Q.tn ?_)
    refine CW.seq ?_
    refine CW.block ?_
    refine CW.seq ?_
    refine CW.region ?_
    refine W.p O.mv ?_
    refine W.p O.len ?_
    refine W.p O.mv ?_
    refine W.p O.mv ?_
    refine W.p O.mv ?_
    refine W.p O.ixA ?_
    refine W.p O.ldsE ?_
    refine W.callN (first := []) (cap := []) rfl (vt rfl) (AV.cons (vt rfl) (AV.cons (vt rfl) (AV.cons (vt rfl) (AV.nil)))) (fun w hu => rr_Put s.length ks (xs.getD i.toNat dR) _ _ w (RowL.h _ hu) (by omega) (by omega) (good_len hW.1) (by omega) (by omega)) ?_; rintro _ _ ⟨p4, q4, r4, rfl, hk4, rfl⟩; have nk4 := hk4.nk
    refine W.p O.mv ?_
    first | refine W.p O.extL ?_ | refine W.p O.ext ?_
    first | refine W.p O.extL ?_ | refine W.p O.ext ?_
    first | refine W.p O.extL ?_ | refine W.p O.ext ?_
    refine W.p O.as ?_
    refine W.p O.as ?_
    refine W.p O.as ?_
    refine WL.nil (Q.tn ?_)
    refine CW.seq ?_
    refine CW.seq ?_
    refine CW.draw 9 rfl (by kernel_rfl) ?_
    refine WQ.p O.mv ?_
    refine WQ.q (O.call ⟨rfl, rfl⟩ (AV.cons (vt rfl) (AV.nil)) (fun _ w hw => law0_Num _ w)) ?_
    refine WQ.p O.eqI ?_
    refine WQ.p O.mv ?_
    refine WQ.p O.mv ?_
    refine WQ.p O.ixA ?_
    refine WQ.p O.ldsE ?_
    refine WQ.q (O.call ⟨rfl, rfl⟩ (AV.cons (vt rfl) (AV.nil)) (fun _ w hw => rr_May (xs.getD i.toNat dR) w (by omega) (by omega))) ?_
    refine WQ.p O.neB ?_
    refine WQ.nil ?_
    refine WL.nil (Q.tn ?_)
    refine CW.cond (vt rfl) (fun hc3 => ?_) (fun hc3 => ?_)
    · exfalso; rw [hpm] at hc3; simp at hc3
    try simp only [Bool.cond_true_left, Bool.cond_false_right, Bool.or_eq_true, Bool.or_eq_false_iff, Bool.and_eq_true, Bool.and_eq_false_iff, decide_eq_true_eq, decide_eq_false_iff_not, Bool.not_eq_true', Bool.not_eq_false'] at hc3
    refine CW.skip (Q.tn ?_)
    refine CW.seq ?_
    refine CW.region ?_
    refine W.p O.mv ?_
    refine W.q (O.call ⟨rfl, rfl⟩ (AV.cons (vt rfl) (AV.nil)) (fun _ w hw => law0_Num _ w)) ?_
    refine W.p O.eqI ?_
    refine WL.nil (Q.tn ?_)
    refine CW.cond (vt rfl) (fun hc4 => ?_) (fun hc4 => ?_)
    · try simp only [Bool.cond_true_left, Bool.cond_false_right, Bool.or_eq_true, Bool.or_eq_false_iff, Bool.and_eq_true, Bool.and_eq_false_iff, decide_eq_true_eq, decide_eq_false_iff_not, Bool.not_eq_true', Bool.not_eq_false'] at hc4
      have hpl := rb_pre hW hc4
      refine CW.seq ?_
      refine CW.region ?_
      refine W.p O.mv ?_
      refine W.p O.mv ?_
      refine W.p O.len ?_
      refine W.bs encI [_] rfl (PV.cons (vt rfl) (PV.nil)) rfl rfl rfl (by decide) rfl fun b1 => ?_
      refine W.ap rfl (vt rfl) (vt rfl) (by first | rfl | omega) (by first | rfl | omega) rfl (by first | assumption | exact OwnOk.nil | exact OwnOk.lit) (by first | omega | (simp; omega)) fun o1 c1 sp1 ok1 ne1 gt1 => ?_
      have nk1 := ok1.nk; have le1 := ok1.2.2.1; try simp only [List.length_append, List.length_cons, List.length_nil] at le1
      refine W.p O.as ?_
      refine WL.nil (Q.tn ?_)
      refine CW.seq ?_
      refine CW.region ?_
      refine W.p O.mv ?_
      refine W.p O.mv ?_
      refine W.p O.mv ?_
      refine W.p O.ixA ?_
      refine W.p O.ldsE ?_
      refine W.bs encR [(xs.getD i.toNat dR)] rfl (PV.cons (vt rfl) (PV.nil)) rfl rfl rfl (by decide) rfl fun b2 => ?_
      refine W.ap rfl (vt rfl) (vt rfl) (by first | rfl | omega) (by first | rfl | omega) rfl (by first | assumption | exact OwnOk.nil | exact OwnOk.lit) (by first | omega | (simp; omega)) fun o2 c2 sp2 ok2 ne2 gt2 => ?_
      have nk2 := ok2.nk; have le2 := ok2.2.2.1; try simp only [List.length_append, List.length_cons, List.length_nil] at le2
      refine W.p O.as ?_
      refine WL.nil (Q.tn ?_)
      refine CW.seq ?_
      refine CW.region ?_
      refine W.p O.mv ?_
      refine W.p O.mv ?_
      refine W.p O.addS ?_
      refine W.p O.as ?_
      refine WL.nil (Q.tn ?_)
      refine CW.region ?_
      refine W.p O.mv ?_
      refine W.p O.as ?_
      refine WL.nil (Q.bn (Q.tn ?_))
      refine CW.region ?_
      refine W.p O.mv ?_
      first | refine W.p O.addN ?_ | refine W.p O.add ?_
      refine W.p O.as ?_
      refine WL.nil (Q.tn ?_)
      refine ⟨(i + 1, s ++ (rrPut s.length ks (xs.getD i.toNat dR)).1, (rrPut s.length ks (xs.getD i.toNat dR)).2.1, ats ++ [(s.length : Int)], told ++ [(xs.getD i.toNat dR)], p4, q4, r4, _, _, _, _, _, _), ?_, ?_, (by repeat (first | exact trivial | refine ⟨rfl, ?_⟩ | refine ⟨by (simp only [List.length_set]; rfl), ?_⟩)), (by repeat (first | exact List.Sublist.refl _ | exact List.sublist_append_left _ _ | exact List.nil_sublist _ | refine List.Sublist.append (List.Sublist.refl _) ?_ | apply List.Sublist.cons_cons | apply List.Sublist.cons | refine List.Sublist.trans ?_ (List.sublist_append_right _ _)))⟩
      · try dsimp only
        refine ⟨by omega, by omega, by omega, rb_step hW hc4, hk4, by assumption, by assumption, by simp only [List.length_append]; omega, by omega, by simp only [List.length_append, List.length_cons, List.length_nil]; omega⟩
      · try dsimp only
        omega
    try simp only [Bool.cond_true_left, Bool.cond_false_right, Bool.or_eq_true, Bool.or_eq_false_iff, Bool.and_eq_true, Bool.and_eq_false_iff, decide_eq_true_eq, decide_eq_false_iff_not, Bool.not_eq_true', Bool.not_eq_false'] at hc4
    refine CW.skip (Q.bn (Q.tn ?_))
    refine CW.region ?_
    refine W.p O.mv ?_
    first | refine W.p O.addN ?_ | refine W.p O.add ?_
    refine W.p O.as ?_
    refine WL.nil (Q.tn ?_)
    refine ⟨(i + 1, s, ks, ats, told, p1, q1, r1, p2, q2, r2, p3, q3, r3), ?_, ?_, (by repeat (first | exact trivial | refine ⟨rfl, ?_⟩ | refine ⟨by (simp only [List.length_set]; rfl), ?_⟩)), (by repeat (first | exact List.Sublist.refl _ | exact List.sublist_append_left _ _ | exact List.nil_sublist _ | refine List.Sublist.append (List.Sublist.refl _) ?_ | apply List.Sublist.cons_cons | apply List.Sublist.cons | refine List.Sublist.trans ?_ (List.sublist_append_right _ _)))⟩
    · try dsimp only
      exact ⟨by omega, by omega, by omega, hW, hk1, hk2, hk3, by omega, by omega, by omega⟩
    · try dsimp only
      omega
  try simp only [Bool.cond_true_left, Bool.cond_false_right, Bool.or_eq_true, Bool.or_eq_false_iff, Bool.and_eq_true, Bool.and_eq_false_iff, decide_eq_true_eq, decide_eq_false_iff_not, Bool.not_eq_true', Bool.not_eq_false'] at hc2
  refine CW.exit (Q.te (Q.te (Q.bx (Q.tn ?_))))
  refine CW.seq ?_
  refine CW.seq ?_
  refine CW.region ?_
  refine W.p O.as ?_
  refine WL.nil (Q.tn ?_)
  refine CW.block ?_
  refine CW.loop (X := Int) (fun m => [(3, true, .string (S s)), (5, true, .slice (oa p2) ats.length q2), (6, true, .slice (oa p3) told.length q3), (11, true, .int .i64 m)]) (fun m => rowL p3 96 (flat encR told r3) ++ rowL p2 3 (flat encI ats r2)) (fun m => 0 ≤ m ∧ m ≤ ats.length) (fun m => (ats.length - m).toNat) (0) ?_ (by repeat (first | exact trivial | refine ⟨rfl, ?_⟩ | refine ⟨by (simp only [List.length_set]; rfl), ?_⟩)) (by repeat (first | exact List.Sublist.refl _ | exact List.sublist_append_left _ _ | exact List.nil_sublist _ | refine List.Sublist.append (List.Sublist.refl _) ?_ | apply List.Sublist.cons_cons | apply List.Sublist.cons | refine List.Sublist.trans ?_ (List.sublist_append_right _ _))) ?_
  · exact ⟨by omega, by omega⟩
  rintro m hI
  try dsimp only at hI ⊢
  obtain ⟨g0, g1⟩ := hI
  have hR : m < ats.length → rrGet s (ats.getD m.toNat 0) = (told.getD m.toNat dR, if m.toNat + 1 < ats.length then ats.getD (m.toNat + 1) 0 else s.length, 0) := fun h => by have := (hW.2.2 m.toNat (by omega)).2 []; rw [List.append_nil] at this; exact rrGet_some this
  refine CW.seq ?_
  refine CW.seq ?_
  refine CW.region ?_
  refine W.p O.mv ?_
  refine W.p O.mv ?_
  refine W.p O.lenL ?_
  refine W.p O.lss ?_
  refine WL.nil (Q.tn ?_)
  refine CW.cond (vt rfl) (fun hc5 => ?_) (fun hc5 => ?_)
  · try simp only [Bool.cond_true_left, Bool.cond_false_right, Bool.or_eq_true, Bool.or_eq_false_iff, Bool.and_eq_true, Bool.and_eq_false_iff, decide_eq_true_eq, decide_eq_false_iff_not, Bool.not_eq_true', Bool.not_eq_false'] at hc5
    refine CW.skip (Q.tn ?_)
    refine CW.seq ?_
    refine CW.block ?_
    refine CW.seq ?_
    refine CW.region ?_
    refine W.p O.mv ?_
    refine W.p O.mv ?_
    refine W.p O.mv ?_
    refine W.p O.ixA ?_
    refine W.p O.ldE ?_
    refine W.q (O.call ⟨rfl, rfl⟩ (AV.cons (vt rfl) (AV.cons (vt rfl) (AV.nil))) (fun _ w hw => rr_Get s _ w (by omega))) ?_
    refine W.p O.mv ?_
    first | refine W.p O.extL ?_ | refine W.p O.ext ?_
    first | refine W.p O.extL ?_ | refine W.p O.ext ?_
    first | refine W.p O.extL ?_ | refine W.p O.ext ?_
    refine W.al rfl rfl fun b3 => ?_
    refine W.st (vt rfl) (vt rfl) rfl ?_
    refine W.p O.as ?_
    refine W.p O.as ?_
    refine WL.nil (Q.tn ?_)
    refine CW.seq ?_
    refine CW.draw 40 rfl (by kernel_rfl) ?_
    refine WQ.p O.mv ?_
    refine WQ.q (O.call ⟨rfl, rfl⟩ (AV.cons (vt rfl) (AV.nil)) (fun _ w hw => law0_Num _ w)) ?_
    refine WQ.p O.neI ?_
    refine WQ.p O.mv ?_
    refine WQ.p O.lds ?_
    refine WQ.p O.mv ?_
    refine WQ.p O.mv ?_
    refine WQ.p O.ixA ?_
    refine WQ.p O.ldsE ?_
    refine WQ.p O.neT ?_
    refine WQ.p O.pkB ?_
    refine WQ.p O.mv ?_
    refine WQ.p O.mv ?_
    first | refine WQ.p O.addN ?_ | refine WQ.p O.add ?_
    refine WQ.p O.mv ?_
    refine WQ.p O.lenL ?_
    refine WQ.p O.lss ?_
    refine WQ.p O.mv ?_
    refine WQ.p O.mv ?_
    refine WQ.p O.mv ?_
    refine WQ.p O.mv ?_
    first | refine WQ.p O.addN ?_ | refine WQ.p O.add ?_
    refine WQ.p O.ixA ?_
    refine WQ.p O.ldE ?_
    refine WQ.p O.neI ?_
    refine WQ.p O.pkB ?_
    refine WQ.p O.pkB ?_
    refine WQ.p O.mv ?_
    refine WQ.p O.mv ?_
    first | refine WQ.p O.addN ?_ | refine WQ.p O.add ?_
    refine WQ.p O.mv ?_
    refine WQ.p O.lenL ?_
    refine WQ.p O.eqI ?_
    refine WQ.p O.mv ?_
    refine WQ.p O.mv ?_
    refine WQ.p O.mv ?_
    refine WQ.p O.len ?_
    refine WQ.p O.neI ?_
    refine WQ.p O.pkB ?_
    refine WQ.p O.pkB ?_
    refine WQ.nil ?_
    refine WL.nil (Q.tn ?_)
    refine CW.cond (vt rfl) (fun hc6 => ?_) (fun hc6 => ?_)
    · exfalso; have e1 : (m + 1).toNat = m.toNat + 1 := (by omega); rw [hR hc5, e1] at hc6; by_cases hl : m.toNat + 1 < ats.length; (rw [if_pos hl] at hc6; simp at hc6; omega); (rw [if_neg hl] at hc6; simp at hc6; omega)
    try simp only [Bool.cond_true_left, Bool.cond_false_right, Bool.or_eq_true, Bool.or_eq_false_iff, Bool.and_eq_true, Bool.and_eq_false_iff, decide_eq_true_eq, decide_eq_false_iff_not, Bool.not_eq_true', Bool.not_eq_false'] at hc6
    refine CW.skip (Q.bn (Q.tn ?_))
    refine CW.region ?_
    refine W.p O.mv ?_
    first | refine W.p O.addN ?_ | refine W.p O.add ?_
    refine W.p O.as ?_
    refine WL.nil (Q.tn ?_)
    refine ⟨(_), ?_, ?_, (by repeat (first | exact trivial | refine ⟨rfl, ?_⟩ | refine ⟨by (simp only [List.length_set]; rfl), ?_⟩)), (by repeat (first | exact List.Sublist.refl _ | exact List.sublist_append_left _ _ | exact List.nil_sublist _ | refine List.Sublist.append (List.Sublist.refl _) ?_ | apply List.Sublist.cons_cons | apply List.Sublist.cons | refine List.Sublist.trans ?_ (List.sublist_append_right _ _)))⟩
    · try dsimp only
      exact ⟨by omega, by omega⟩
    · try dsimp only
      omega
  try simp only [Bool.cond_true_left, Bool.cond_false_right, Bool.or_eq_true, Bool.or_eq_false_iff, Bool.and_eq_true, Bool.and_eq_false_iff, decide_eq_true_eq, decide_eq_false_iff_not, Bool.not_eq_true', Bool.not_eq_false'] at hc5
  refine CW.exit (Q.te (Q.te (Q.bx (Q.tn ?_))))
  refine CW.seq ?_
  refine CW.region ?_
  refine W.p O.as ?_
  refine WL.nil (Q.tn ?_)
  refine CW.ret ?_
  refine ⟨_, [], (RVs.tmp rfl RVs.nil), List.nil_sublist _, ?_⟩
  exact ⟨rfl, rfl⟩
end Go.Proofs.Ytkjcmdgideddnaa
