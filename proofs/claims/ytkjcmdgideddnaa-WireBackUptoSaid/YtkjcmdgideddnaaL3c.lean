/- The statement WireBack: its walk. Conditions: what comes in is not longer than some millions. -/
import Derived.Test.YtkjcmdgideddnaaL3
import Derived.Test.YtkjcmdgideddnaaPWB
set_option linter.unusedVariables false
set_option linter.unusedSimpArgs false
namespace Go.Proofs.Ytkjcmdgideddnaa
open Go Go.RowKit
theorem in_take {w : World} {a : Option Addr} {ks os added : List Kn} (e : os = ks ++ added) (h : In w a (os.flatMap encK)) : In w a (ks.flatMap encK) := by
  rw [e, List.flatMap_append] at h; exact In.pre h
set_option maxRecDepth 100000 in
theorem law3_WireBack (xs : List (List UInt8)) (a : Option Addr) (c : Nat) (ahead : Int) (w : World) (h : In w a (xs.flatMap encS)) (hn : xs.length ≤ 1048576) (hx : ∀ x ∈ xs, x.length ≤ 1048576) : Fn Try.prog 9 [.slice a xs.length c, .int .i64 ahead] w [] fun v L' => v = .bool true ∧ L' = [] := by
  have row := Row.ofE h
  refine Fn.enter Try.func9 rfl rfl rfl rfl (Holds.nil w) ?_
  refine CW.seq ?_
  refine CW.region ?_
  refine W.p O.as ?_
  refine WL.nil (Q.tn ?_)
  refine CW.seq ?_
  refine CW.seq ?_
  refine CW.region ?_
  refine W.q (O.call ⟨rfl, rfl⟩ (AV.nil) (fun _ w hw => law3_awake w)) ?_
  refine W.p O.nt ?_
  refine WL.nil (Q.tn ?_)
  refine CW.cond (vt rfl) (fun hc1 => ?_) (fun hc1 => ?_)
  · exact absurd hc1 (by decide)
  · try simp only [Bool.cond_true_left, Bool.cond_false_right, Bool.or_eq_true, Bool.or_eq_false_iff, Bool.and_eq_true, Bool.and_eq_false_iff, decide_eq_true_eq, decide_eq_false_iff_not, Bool.not_eq_true', Bool.not_eq_false'] at hc1
    refine CW.skip (Q.tn ?_)
    refine CW.seq ?_
    refine CW.region ?_
    refine W.p O.mv ?_
    refine W.p (O.andM 6 64 (h := by decide) (hq := by decide) (hM := by decide)) ?_
    refine W.mkB rfl (vt rfl) (vt rfl) (by first | omega | decide) fun b1 => ?_
    first | refine W.p (O.cvBZ ⟨rfl, rfl⟩ (vt rfl) (by first | exact Nat.le_refl _ | omega)) ?_ | refine W.p (O.cvBA ⟨rfl, rfl⟩ (vt rfl)) ?_ | refine W.p (O.cvBS ⟨rfl, rfl⟩ (vt rfl) (fun _ => by omega)) ?_
    refine W.p O.as ?_
    refine WL.nil (Q.tn ?_)
    refine CW.seq ?_
    refine CW.region ?_
    refine W.p O.as ?_
    refine WL.nil (Q.tn ?_)
    refine CW.seq ?_
    refine CW.region ?_
    refine W.p O.as ?_
    refine WL.nil (Q.tn ?_)
    refine CW.seq ?_
    refine CW.region ?_
    refine W.p O.as ?_
    refine WL.nil (Q.tn ?_)
    refine CW.seq ?_
    refine CW.seq ?_
    refine CW.region ?_
    refine W.p O.as ?_
    refine WL.nil (Q.tn ?_)
    refine CW.block ?_
    refine CW.loop (X := Int × (List UInt8) × (List Kn) × (List Int) × (List (List UInt8)) × (Option Nat) × Nat × (List Value) × (Option Nat) × Nat × (List Value) × (Option Nat) × Nat × (List Value)) (fun ⟨i, s, ks, ats, told, p1, q1, r1, p2, q2, r2, p3, q3, r3⟩ => [(0, true, .slice a xs.length c), (5, true, .string (S s)), (6, true, .slice (oa p1) ks.length q1), (7, true, .slice (oa p2) ats.length q2), (8, true, .slice (oa p3) told.length q3), (9, true, .int .i64 i)]) (fun ⟨i, s, ks, ats, told, p1, q1, r1, p2, q2, r2, p3, q3, r3⟩ => rowL p3 9 (flat encS told r3) ++ (rowL p2 3 (flat encI ats r2) ++ rowL p1 66 (flat encK ks r1))) (fun ⟨i, s, ks, ats, told, p1, q1, r1, p2, q2, r2, p3, q3, r3⟩ => 0 ≤ i ∧ i ≤ xs.length ∧ i ≤ 12 ∧ WB s ks ats told ∧ OwnOk p1 q1 2 ks.length r1.length ∧ OwnOk p2 q2 1 ats.length r2.length ∧ OwnOk p3 q3 1 told.length r3.length ∧ s.length ≤ 63 + 74 * i ∧ ks.length ≤ 8 * i ∧ ats.length ≤ i ∧ (∀ k ∈ ks, k.name.length ≤ 72)) (fun ⟨i, s, ks, ats, told, p1, q1, r1, p2, q2, r2, p3, q3, r3⟩ => (xs.length - i).toNat) (0, List.replicate (ahead % 64).toNat 0, [], [], [], none, 0, [], none, 0, [], none, 0, []) ?_ (by repeat (first | exact trivial | refine ⟨rfl, ?_⟩ | refine ⟨by (simp only [List.length_set]; rfl), ?_⟩)) (by repeat (first | exact List.Sublist.refl _ | exact List.sublist_append_left _ _ | exact List.nil_sublist _ | refine List.Sublist.append (List.Sublist.refl _) ?_ | apply List.Sublist.cons₂ | apply List.Sublist.cons | refine List.Sublist.trans ?_ (List.sublist_append_right _ _))) ?_
    · exact ⟨by omega, by omega, by omega, wb_new _, OwnOk.nil, OwnOk.nil, OwnOk.nil, by simp; omega, by simp, by simp, by simp⟩
    rintro ⟨i, s, ks, ats, told, p1, q1, r1, p2, q2, r2, p3, q3, r3⟩ hI
    try dsimp only at hI ⊢
    obtain ⟨h0, h1, h12, hW, hk1, hk2, hk3, hsl, hkl, hal, hkn⟩ := hI
    have nk1 := hk1.nk; have nk2 := hk2.nk; have nk3 := hk3.nk
    have hm := nmPut_more s.length ks (xs.getD i.toNat [])
    have hxl : i < xs.length → (xs.getD i.toNat []).length ≤ 1048576 := fun h => hx _ (mem_at [] h0 h)
    have htl := hW.2.1
    refine CW.seq ?_
    refine CW.seq ?_
    refine CW.region ?_
    refine W.p O.mv ?_
    refine W.p O.mv ?_
    refine W.p O.lenL ?_
    refine W.p O.lss ?_
    refine W.p O.mv ?_
    refine W.p O.mv ?_
    refine W.p O.lss ?_
    refine W.p O.pkB ?_
    refine WL.nil (Q.tn ?_)
    refine CW.cond (vt rfl) (fun hc2 => ?_) (fun hc2 => ?_)
    · try simp only [Bool.cond_true_left, Bool.cond_false_right, Bool.or_eq_true, Bool.or_eq_false_iff, Bool.and_eq_true, Bool.and_eq_false_iff, decide_eq_true_eq, decide_eq_false_iff_not, Bool.not_eq_true', Bool.not_eq_false'] at hc2
      refine CW.skip (Q.tn ?_)
      refine CW.seq ?_
      refine CW.block ?_
      refine CW.seq ?_
      refine CW.region ?_
      refine W.p O.mv ?_
      refine W.p O.len ?_
      refine W.p O.mv ?_
      refine W.p O.mv ?_
      refine W.p O.mv ?_
      refine W.p O.ixA ?_
      refine W.p O.ldE ?_
      refine W.callN (first := []) (cap := []) rfl (vt rfl) (AV.cons (vt rfl) (AV.cons (vt rfl) (AV.cons (vt rfl) (AV.nil)))) (fun w hu => wr_Put _ ks (xs.getD i.toNat []) _ _ w (RowL.h _ hu) (by omega) (fun k hk' => by have := hkn k hk'; omega) (by omega)) ?_; rintro _ _ ⟨p4, q4, r4, rfl, hk4, rfl⟩; have nk4 := hk4.nk
      refine W.p O.mv ?_
      refine W.p O.ext ?_
      refine W.p O.ext ?_
      refine W.p O.ext ?_
      refine W.p O.as ?_
      refine W.p O.as ?_
      refine W.p O.as ?_
      refine WL.nil (Q.tn ?_)
      refine CW.seq ?_
      refine CW.seq ?_
      refine CW.region ?_
      refine W.p O.mv ?_
      refine W.q (O.call ⟨rfl, rfl⟩ (AV.cons (vt rfl) (AV.nil)) (fun _ w hw => law0_Num _ w)) ?_
      refine W.p O.neI ?_
      refine WL.nil (Q.tn ?_)
      refine CW.cond (vt rfl) (fun hc3 => ?_) (fun hc3 => ?_)
      · try simp only [Bool.cond_true_left, Bool.cond_false_right, Bool.or_eq_true, Bool.or_eq_false_iff, Bool.and_eq_true, Bool.and_eq_false_iff, decide_eq_true_eq, decide_eq_false_iff_not, Bool.not_eq_true', Bool.not_eq_false'] at hc3
        refine CW.exit (Q.te (Q.bx (Q.tn ?_)))
        refine CW.region ?_
        refine W.p O.mv ?_
        first | refine W.p O.addN ?_ | refine W.p O.add ?_
        refine W.p O.as ?_
        refine WL.nil (Q.tn ?_)
        refine ⟨(i + 1, s, ks, ats, told, p1, q1, r1, p2, q2, r2, p3, q3, r3), ?_, ?_, (by repeat (first | exact trivial | refine ⟨rfl, ?_⟩ | refine ⟨by (simp only [List.length_set]; rfl), ?_⟩)), (by repeat (first | exact List.Sublist.refl _ | exact List.sublist_append_left _ _ | exact List.nil_sublist _ | refine List.Sublist.append (List.Sublist.refl _) ?_ | apply List.Sublist.cons₂ | apply List.Sublist.cons | refine List.Sublist.trans ?_ (List.sublist_append_right _ _)))⟩
        · try dsimp only
          exact ⟨by omega, by omega, by omega, hW, hk1, hk2, hk3, by omega, by omega, by omega, hkn⟩
        · try dsimp only
          omega
      · try simp only [Bool.cond_true_left, Bool.cond_false_right, Bool.or_eq_true, Bool.or_eq_false_iff, Bool.and_eq_true, Bool.and_eq_false_iff, decide_eq_true_eq, decide_eq_false_iff_not, Bool.not_eq_true', Bool.not_eq_false'] at hc3
        have h00 : (nmPut s.length ks (xs.getD i.toNat [])).2.2 = 0 := by simpa using hc3
        obtain ⟨added, hos⟩ := wb_pre hW h00
        have hol : ks.length ≤ (nmPut s.length ks (xs.getD i.toNat [])).2.1.length := by rw [hos, List.length_append]; omega
        have hcap := hk4.2.2.1
        refine CW.skip (Q.tn ?_)
        refine CW.seq ?_
        refine CW.region ?_
        refine W.p O.as ?_
        refine WL.nil (Q.tn ?_)
        refine CW.seq ?_
        refine CW.seq ?_
        refine CW.region ?_
        refine W.p O.as ?_
        refine WL.nil (Q.tn ?_)
        refine CW.block ?_
        refine CW.loop (X := Int × Bool) (fun ⟨j, ag⟩ => [(0, true, .slice a xs.length c), (5, true, .string (S s)), (6, true, .slice (oa p1) ks.length q1), (7, true, .slice (oa p2) ats.length q2), (8, true, .slice (oa p3) told.length q3), (9, true, .int .i64 i), (10, true, .string (S (nmPut s.length ks (xs.getD i.toNat [])).1)), (11, true, .slice (oa p4) (nmPut s.length ks (xs.getD i.toNat [])).2.1.length q4), (13, true, .bool ag), (14, true, .int .i64 j)]) (fun ⟨j, ag⟩ => rowL p4 66 (flat encK (nmPut s.length ks (xs.getD i.toNat [])).2.1 r4) ++ (rowL p3 9 (flat encS told r3) ++ (rowL p2 3 (flat encI ats r2) ++ rowL p1 66 (flat encK ks r1)))) (fun ⟨j, ag⟩ => 0 ≤ j ∧ j ≤ told.length ∧ ag = ((told.take j.toNat).any fun t => decide (t = (xs.getD i.toNat [])) && !decide ((xs.getD i.toNat []) = []))) (fun ⟨j, ag⟩ => (told.length - j).toNat) (0, false) ?_ (by repeat (first | exact trivial | refine ⟨rfl, ?_⟩ | refine ⟨by (simp only [List.length_set]; rfl), ?_⟩)) (by repeat (first | exact List.Sublist.refl _ | exact List.sublist_append_left _ _ | exact List.nil_sublist _ | refine List.Sublist.append (List.Sublist.refl _) ?_ | apply List.Sublist.cons₂ | apply List.Sublist.cons | refine List.Sublist.trans ?_ (List.sublist_append_right _ _))) ?_
        · exact ⟨by omega, by omega, rfl⟩
        rintro ⟨j, ag⟩ hI
        try dsimp only at hI ⊢
        obtain ⟨g0, g1, hag⟩ := hI
        refine CW.seq ?_
        refine CW.seq ?_
        refine CW.region ?_
        refine W.p O.mv ?_
        refine W.p O.mv ?_
        refine W.p O.lenL ?_
        refine W.p O.lss ?_
        refine WL.nil (Q.tn ?_)
        refine CW.cond (vt rfl) (fun hc4 => ?_) (fun hc4 => ?_)
        · try simp only [Bool.cond_true_left, Bool.cond_false_right, Bool.or_eq_true, Bool.or_eq_false_iff, Bool.and_eq_true, Bool.and_eq_false_iff, decide_eq_true_eq, decide_eq_false_iff_not, Bool.not_eq_true', Bool.not_eq_false'] at hc4
          refine CW.skip (Q.tn ?_)
          refine CW.seq ?_
          refine CW.block ?_
          refine CW.draw 19 rfl (by kernel_rfl) ?_
          refine WQ.p O.mv ?_
          refine WQ.p O.mv ?_
          refine WQ.p O.mv ?_
          refine WQ.p O.mv ?_
          refine WQ.p O.ixA ?_
          refine WQ.p O.ldE ?_
          refine WQ.p O.mv ?_
          refine WQ.p O.mv ?_
          refine WQ.p O.ixA ?_
          refine WQ.p O.ldE ?_
          refine WQ.p O.eqS ?_
          refine WQ.p O.mv ?_
          refine WQ.p O.mv ?_
          refine WQ.p O.mv ?_
          refine WQ.p O.ixA ?_
          refine WQ.p O.ldE ?_
          refine WQ.p O.neS ?_
          refine WQ.p O.pkB ?_
          refine WQ.p O.pkB ?_
          refine WQ.nil ?_
          refine W.p O.as ?_
          refine WL.nil (Q.bn (Q.tn ?_))
          refine CW.region ?_
          refine W.p O.mv ?_
          first | refine W.p O.addN ?_ | refine W.p O.add ?_
          refine W.p O.as ?_
          refine WL.nil (Q.tn ?_)
          refine ⟨(_, _), ?_, ?_, (by repeat (first | exact trivial | refine ⟨rfl, ?_⟩ | refine ⟨by (simp only [List.length_set]; rfl), ?_⟩)), (by repeat (first | exact List.Sublist.refl _ | exact List.sublist_append_left _ _ | exact List.nil_sublist _ | refine List.Sublist.append (List.Sublist.refl _) ?_ | apply List.Sublist.cons₂ | apply List.Sublist.cons | refine List.Sublist.trans ?_ (List.sublist_append_right _ _)))⟩
          · try dsimp only
            refine ⟨by omega, by omega, ?_⟩
            rw [any_step g0 hc4, ← hag]
            cases ag <;> cases decide (told.getD j.toNat [] = (xs.getD i.toNat [])) <;> rfl
          · try dsimp only
            omega
        · try simp only [Bool.cond_true_left, Bool.cond_false_right, Bool.or_eq_true, Bool.or_eq_false_iff, Bool.and_eq_true, Bool.and_eq_false_iff, decide_eq_true_eq, decide_eq_false_iff_not, Bool.not_eq_true', Bool.not_eq_false'] at hc4
          refine CW.exit (Q.te (Q.te (Q.bx (Q.tn ?_))))
          refine CW.seq ?_
          refine CW.seq ?_
          refine CW.region ?_
          refine W.p O.mv ?_
          refine W.p O.mv ?_
          refine W.p O.mv ?_
          refine W.p O.len ?_
          refine W.p O.neI ?_
          refine W.p O.pkB ?_
          refine W.p O.mv ?_
          refine W.p O.mv ?_
          refine W.p O.mv ?_
          refine W.p O.ixA ?_
          refine W.p O.ldE ?_
          refine W.p O.eqS ?_
          refine W.p O.mv ?_
          refine W.p O.mv ?_
          refine W.p O.neS ?_
          refine W.p O.pkB ?_
          refine W.p O.pkB ?_
          refine W.p O.mv ?_
          refine W.p O.mv ?_
          refine W.p O.lenL ?_
          refine W.p O.mv ?_
          refine W.p O.lenL ?_
          refine W.p O.lss ?_
          refine W.p O.pkB ?_
          refine W.p O.mv ?_
          refine W.p O.mv ?_
          refine W.p O.mv ?_
          refine W.p O.lenL ?_
          refine W.p O.slH ?_
          refine W.p O.mv ?_
          refine W.q (O.call ⟨rfl, rfl⟩ (AV.cons (vs rfl) (AV.cons (vs rfl) (AV.nil))) (fun _ w hw => sameKnowns ks ks _ _ _ _ w (in_take hos (RowL.h _ hw)) (RowL.h _ hw) (by omega))) ?_
          refine W.p O.nt ?_
          refine W.p O.pkB ?_
          refine WL.nil (Q.tn ?_)
          refine CW.cond (vt rfl) (fun hc5 => ?_) (fun hc5 => ?_)
          · try simp only [Bool.cond_true_left, Bool.cond_false_right, Bool.or_eq_true, Bool.or_eq_false_iff, Bool.and_eq_true, Bool.and_eq_false_iff, decide_eq_true_eq, decide_eq_false_iff_not, Bool.not_eq_true', Bool.not_eq_false'] at hc5
            refine CW.seq ?_
            refine CW.region ?_
            refine W.p O.as ?_
            refine WL.nil (Q.tn ?_)
            refine CW.ret (Q.tr (Q.br (Q.tr (Q.tr (Q.br (Q.tr ?_))))))
            refine ⟨_, [], (RVs.tmp rfl RVs.nil), List.nil_sublist _, ?_⟩
            refine ⟨?_, rfl⟩
            exfalso
            have et : told.take j.toNat = told := List.take_of_length_le (by omega)
            rw [et] at hag
            rcases hc5 with ((⟨h7, h8⟩ | ⟨h7, h8⟩) | h7) | h7
            · have := wb_again hW h00 (hag.symm.trans h7); omega
            · have h9 : (nmPut s.length ks (xs.getD i.toNat [])).1 = [0] := by rw [h7] at h00 ⊢; exact wb_empty h00
              exact h8 h9
            · omega
            · exact h7 trivial
          · try simp only [Bool.cond_true_left, Bool.cond_false_right, Bool.or_eq_true, Bool.or_eq_false_iff, Bool.and_eq_true, Bool.and_eq_false_iff, decide_eq_true_eq, decide_eq_false_iff_not, Bool.not_eq_true', Bool.not_eq_false'] at hc5
            refine CW.skip (Q.tn ?_)
            refine CW.seq ?_
            refine CW.region ?_
            refine W.p O.mv ?_
            refine W.p O.mv ?_
            refine W.p O.len ?_
            refine W.bs encI [_] rfl (PV.cons (vt rfl) (PV.nil)) rfl rfl rfl (by decide) rfl fun b2 => ?_
            refine W.ap rfl (vt rfl) (vt rfl) (by first | rfl | omega) (by first | rfl | omega) rfl (by first | assumption | exact OwnOk.nil | exact OwnOk.lit) (by first | omega | (simp; omega)) fun o1 c1 sp1 ok1 ne1 gt1 => ?_
            have nk1 := ok1.nk; have le1 := ok1.2.2.1; try simp only [List.length_append, List.length_cons, List.length_nil] at le1
            refine W.p O.as ?_
            refine WL.nil (Q.tn ?_)
            refine CW.seq ?_
            refine CW.region ?_
            refine W.p O.mv ?_
            refine W.p O.mv ?_
            refine W.p O.mv ?_
            refine W.p O.ixA ?_
            refine W.p O.ldE ?_
            refine W.bs encS [_] rfl (PV.cons (vt rfl) (PV.nil)) rfl rfl rfl (by decide) rfl fun b3 => ?_
            refine W.ap rfl (vt rfl) (vt rfl) (by first | rfl | omega) (by first | rfl | omega) rfl (by first | assumption | exact OwnOk.nil | exact OwnOk.lit) (by first | omega | (simp; omega)) fun o2 c2 sp2 ok2 ne2 gt2 => ?_
            have nk2 := ok2.nk; have le2 := ok2.2.2.1; try simp only [List.length_append, List.length_cons, List.length_nil] at le2
            refine W.p O.as ?_
            refine WL.nil (Q.tn ?_)
            refine CW.seq ?_
            refine CW.region ?_
            refine W.p O.mv ?_
            refine W.p O.mv ?_
            refine W.p O.addS ?_
            refine W.p O.as ?_
            refine WL.nil (Q.tn ?_)
            refine CW.region ?_
            refine W.p O.mv ?_
            refine W.p O.as ?_
            refine WL.nil (Q.bn (Q.tn ?_))
            refine CW.region ?_
            refine W.p O.mv ?_
            first | refine W.p O.addN ?_ | refine W.p O.add ?_
            refine W.p O.as ?_
            refine WL.nil (Q.tn ?_)
            refine ⟨(i + 1, s ++ (nmPut s.length ks (xs.getD i.toNat [])).1, (nmPut s.length ks (xs.getD i.toNat [])).2.1, ats ++ [(s.length : Int)], told ++ [(xs.getD i.toNat [])], p4, q4, r4, _, _, _, _, _, _), ?_, ?_, (by repeat (first | exact trivial | refine ⟨rfl, ?_⟩ | refine ⟨by (simp only [List.length_set]; rfl), ?_⟩)), (by repeat (first | exact List.Sublist.refl _ | exact List.sublist_append_left _ _ | exact List.nil_sublist _ | refine List.Sublist.append (List.Sublist.refl _) ?_ | apply List.Sublist.cons₂ | apply List.Sublist.cons | refine List.Sublist.trans ?_ (List.sublist_append_right _ _)))⟩
            · try dsimp only
              refine ⟨by omega, by omega, by omega, wb_step hW h00 (by omega), hk4, by assumption, by assumption, by simp only [List.length_append]; omega, by omega, by simp only [List.length_append, List.length_cons, List.length_nil]; omega, ?_⟩
              intro k hk; rcases hm.2.2 k hk with h | h; exact hkn k h; exact h
            · try dsimp only
              omega
    · try simp only [Bool.cond_true_left, Bool.cond_false_right, Bool.or_eq_true, Bool.or_eq_false_iff, Bool.and_eq_true, Bool.and_eq_false_iff, decide_eq_true_eq, decide_eq_false_iff_not, Bool.not_eq_true', Bool.not_eq_false'] at hc2
      refine CW.exit (Q.te (Q.te (Q.bx (Q.tn ?_))))
      refine CW.seq ?_
      refine CW.seq ?_
      refine CW.region ?_
      refine W.p O.as ?_
      refine WL.nil (Q.tn ?_)
      refine CW.block ?_
      refine CW.loop (X := Int) (fun m => [(5, true, .string (S s)), (7, true, .slice (oa p2) ats.length q2), (8, true, .slice (oa p3) told.length q3), (15, true, .int .i64 m)]) (fun m => rowL p3 9 (flat encS told r3) ++ rowL p2 3 (flat encI ats r2)) (fun m => 0 ≤ m ∧ m ≤ ats.length) (fun m => (ats.length - m).toNat) (0) ?_ (by repeat (first | exact trivial | refine ⟨rfl, ?_⟩ | refine ⟨by (simp only [List.length_set]; rfl), ?_⟩)) (by repeat (first | exact List.Sublist.refl _ | exact List.sublist_append_left _ _ | exact List.nil_sublist _ | refine List.Sublist.append (List.Sublist.refl _) ?_ | apply List.Sublist.cons₂ | apply List.Sublist.cons | refine List.Sublist.trans ?_ (List.sublist_append_right _ _))) ?_
      · exact ⟨by omega, by omega⟩
      rintro m hI
      try dsimp only at hI ⊢
      obtain ⟨g0, g1⟩ := hI
      have hR : m < ats.length → getName s (ats.getD m.toNat 0) = .ok (told.getD m.toNat []) (if m.toNat + 1 < ats.length then ats.getD (m.toNat + 1) 0 else s.length) := fun h => by have := (hW.2.2.1 m.toNat (by omega)).2 []; rwa [List.append_nil] at this
      refine CW.seq ?_
      refine CW.seq ?_
      refine CW.region ?_
      refine W.p O.mv ?_
      refine W.p O.mv ?_
      refine W.p O.lenL ?_
      refine W.p O.lss ?_
      refine WL.nil (Q.tn ?_)
      refine CW.cond (vt rfl) (fun hc6 => ?_) (fun hc6 => ?_)
      · try simp only [Bool.cond_true_left, Bool.cond_false_right, Bool.or_eq_true, Bool.or_eq_false_iff, Bool.and_eq_true, Bool.and_eq_false_iff, decide_eq_true_eq, decide_eq_false_iff_not, Bool.not_eq_true', Bool.not_eq_false'] at hc6
        refine CW.skip (Q.tn ?_)
        refine CW.seq ?_
        refine CW.block ?_
        refine CW.seq ?_
        refine CW.region ?_
        refine W.p O.mv ?_
        refine W.p O.mv ?_
        refine W.p O.mv ?_
        refine W.p O.ixA ?_
        refine W.p O.ldE ?_
        refine W.q (O.call ⟨rfl, rfl⟩ (AV.cons (vt rfl) (AV.cons (vt rfl) (AV.nil))) (fun _ w hw => wr_Get s _ w (by omega))) ?_
        refine W.p O.mv ?_
        refine W.p O.ext ?_
        refine W.p O.ext ?_
        refine W.p O.ext ?_
        refine W.p O.as ?_
        refine W.p O.as ?_
        refine W.p O.as ?_
        refine WL.nil (Q.tn ?_)
        refine CW.seq ?_
        refine CW.region ?_
        refine W.p O.mv ?_
        refine W.p O.len ?_
        refine W.p O.as ?_
        refine WL.nil (Q.tn ?_)
        refine CW.seq ?_
        refine CW.seq ?_
        refine CW.region ?_
        refine W.p O.mv ?_
        first | refine W.p O.addN ?_ | refine W.p O.add ?_
        refine W.p O.mv ?_
        refine W.p O.lenL ?_
        refine W.p O.lss ?_
        refine WL.nil (Q.tn ?_)
        refine CW.cond (vt rfl) (fun hc7 => ?_) (fun hc7 => ?_)
        · try simp only [Bool.cond_true_left, Bool.cond_false_right, Bool.or_eq_true, Bool.or_eq_false_iff, Bool.and_eq_true, Bool.and_eq_false_iff, decide_eq_true_eq, decide_eq_false_iff_not, Bool.not_eq_true', Bool.not_eq_false'] at hc7
          refine CW.region ?_
          refine W.p O.mv ?_
          refine W.p O.mv ?_
          first | refine W.p O.addN ?_ | refine W.p O.add ?_
          refine W.p O.ixA ?_
          refine W.p O.ldE ?_
          refine W.p O.as ?_
          refine WL.nil (Q.tn ?_)
          refine CW.seq ?_
          refine CW.region ?_
          refine W.p O.mv ?_
          refine W.q (O.call ⟨rfl, rfl⟩ (AV.cons (vt rfl) (AV.nil)) (fun _ w hw => law0_Num _ w)) ?_
          refine W.p O.neI ?_
          refine W.p O.mv ?_
          refine W.p O.mv ?_
          refine W.p O.mv ?_
          refine W.p O.mv ?_
          refine W.p O.ixA ?_
          refine W.p O.ldE ?_
          refine W.p O.neS ?_
          refine W.p O.pkB ?_
          refine W.p O.mv ?_
          refine W.p O.mv ?_
          refine W.p O.mv ?_
          refine W.p O.neI ?_
          refine W.p O.pkB ?_
          refine WL.nil (Q.tn ?_)
          refine CW.cond (vt rfl) (fun hc8 => ?_) (fun hc8 => ?_)
          · try simp only [Bool.cond_true_left, Bool.cond_false_right, Bool.or_eq_true, Bool.or_eq_false_iff, Bool.and_eq_true, Bool.and_eq_false_iff, decide_eq_true_eq, decide_eq_false_iff_not, Bool.not_eq_true', Bool.not_eq_false'] at hc8
            refine CW.seq ?_
            refine CW.region ?_
            refine W.p O.as ?_
            refine WL.nil (Q.tn ?_)
            refine CW.ret (Q.br (Q.tr (Q.tr (Q.br (Q.tr ?_)))))
            refine ⟨_, [], (RVs.tmp rfl RVs.nil), List.nil_sublist _, ?_⟩
            refine ⟨?_, rfl⟩
            exfalso
            have e1 : (m + 1).toNat = m.toNat + 1 := by omega
            rw [hR hc6, if_pos (by omega)] at hc8
            simp only [grE, grN, grT, e1] at hc8
            simp at hc8
          · try simp only [Bool.cond_true_left, Bool.cond_false_right, Bool.or_eq_true, Bool.or_eq_false_iff, Bool.and_eq_true, Bool.and_eq_false_iff, decide_eq_true_eq, decide_eq_false_iff_not, Bool.not_eq_true', Bool.not_eq_false'] at hc8
            refine CW.skip (Q.bn (Q.tn ?_))
            refine CW.region ?_
            refine W.p O.mv ?_
            first | refine W.p O.addN ?_ | refine W.p O.add ?_
            refine W.p O.as ?_
            refine WL.nil (Q.tn ?_)
            refine ⟨(_), ?_, ?_, (by repeat (first | exact trivial | refine ⟨rfl, ?_⟩ | refine ⟨by (simp only [List.length_set]; rfl), ?_⟩)), (by repeat (first | exact List.Sublist.refl _ | exact List.sublist_append_left _ _ | exact List.nil_sublist _ | refine List.Sublist.append (List.Sublist.refl _) ?_ | apply List.Sublist.cons₂ | apply List.Sublist.cons | refine List.Sublist.trans ?_ (List.sublist_append_right _ _)))⟩
            · try dsimp only
              exact ⟨by omega, by omega⟩
            · try dsimp only
              omega
        · try simp only [Bool.cond_true_left, Bool.cond_false_right, Bool.or_eq_true, Bool.or_eq_false_iff, Bool.and_eq_true, Bool.and_eq_false_iff, decide_eq_true_eq, decide_eq_false_iff_not, Bool.not_eq_true', Bool.not_eq_false'] at hc7
          refine CW.skip (Q.tn ?_)
          refine CW.seq ?_
          refine CW.region ?_
          refine W.p O.mv ?_
          refine W.q (O.call ⟨rfl, rfl⟩ (AV.cons (vt rfl) (AV.nil)) (fun _ w hw => law0_Num _ w)) ?_
          refine W.p O.neI ?_
          refine W.p O.mv ?_
          refine W.p O.mv ?_
          refine W.p O.mv ?_
          refine W.p O.mv ?_
          refine W.p O.ixA ?_
          refine W.p O.ldE ?_
          refine W.p O.neS ?_
          refine W.p O.pkB ?_
          refine W.p O.mv ?_
          refine W.p O.mv ?_
          refine W.p O.mv ?_
          refine W.p O.neI ?_
          refine W.p O.pkB ?_
          refine WL.nil (Q.tn ?_)
          refine CW.cond (vt rfl) (fun hc9 => ?_) (fun hc9 => ?_)
          · try simp only [Bool.cond_true_left, Bool.cond_false_right, Bool.or_eq_true, Bool.or_eq_false_iff, Bool.and_eq_true, Bool.and_eq_false_iff, decide_eq_true_eq, decide_eq_false_iff_not, Bool.not_eq_true', Bool.not_eq_false'] at hc9
            refine CW.seq ?_
            refine CW.region ?_
            refine W.p O.as ?_
            refine WL.nil (Q.tn ?_)
            refine CW.ret (Q.br (Q.tr (Q.tr (Q.br (Q.tr ?_)))))
            refine ⟨_, [], (RVs.tmp rfl RVs.nil), List.nil_sublist _, ?_⟩
            refine ⟨?_, rfl⟩
            exfalso
            rw [hR hc6, if_neg (by omega)] at hc9
            simp only [grE, grN, grT] at hc9
            simp at hc9
          · try simp only [Bool.cond_true_left, Bool.cond_false_right, Bool.or_eq_true, Bool.or_eq_false_iff, Bool.and_eq_true, Bool.and_eq_false_iff, decide_eq_true_eq, decide_eq_false_iff_not, Bool.not_eq_true', Bool.not_eq_false'] at hc9
            refine CW.skip (Q.bn (Q.tn ?_))
            refine CW.region ?_
            refine W.p O.mv ?_
            first | refine W.p O.addN ?_ | refine W.p O.add ?_
            refine W.p O.as ?_
            refine WL.nil (Q.tn ?_)
            refine ⟨(_), ?_, ?_, (by repeat (first | exact trivial | refine ⟨rfl, ?_⟩ | refine ⟨by (simp only [List.length_set]; rfl), ?_⟩)), (by repeat (first | exact List.Sublist.refl _ | exact List.sublist_append_left _ _ | exact List.nil_sublist _ | refine List.Sublist.append (List.Sublist.refl _) ?_ | apply List.Sublist.cons₂ | apply List.Sublist.cons | refine List.Sublist.trans ?_ (List.sublist_append_right _ _)))⟩
            · try dsimp only
              exact ⟨by omega, by omega⟩
            · try dsimp only
              omega
      · try simp only [Bool.cond_true_left, Bool.cond_false_right, Bool.or_eq_true, Bool.or_eq_false_iff, Bool.and_eq_true, Bool.and_eq_false_iff, decide_eq_true_eq, decide_eq_false_iff_not, Bool.not_eq_true', Bool.not_eq_false'] at hc6
        refine CW.exit (Q.te (Q.te (Q.bx (Q.tn ?_))))
        refine CW.seq ?_
        refine CW.region ?_
        refine W.p O.as ?_
        refine WL.nil (Q.tn ?_)
        refine CW.ret ?_
        refine ⟨_, [], (RVs.tmp rfl RVs.nil), List.nil_sublist _, ?_⟩
        refine ⟨?_, rfl⟩
        rfl
end Go.Proofs.Ytkjcmdgideddnaa
