/- The statements over package wire: further walks. Conditions: what comes in is not longer than some millions. -/
import Derived.Test.YtkjcmdgideddnaaL3
import Derived.Test.YtkjcmdgideddnaaPL3
set_option linter.unusedVariables false
set_option linter.unusedSimpArgs false
namespace Go.Proofs.Ytkjcmdgideddnaa
open Go Go.RowKit
set_option maxRecDepth 100000 in
theorem law3_WireShort (a b : List UInt8) (w : World) (h1 : a.length ≤ 140737488355328) (h2 : b.length ≤ 140737488355328) : Fn Try.prog 14 [.string (S a), .string (S b)] w [] fun v L' => v = .bool true ∧ L' = [] := by
  have hm1 := nmPut_more 0 [] a
  have hm2 := nmPut_more (nmPut 0 [] a).1.length (nmPut 0 [] a).2.1 b
  have hm3 := nmPut_more (nmPut 0 [] a).1.length [] b
  have hz : ([] : List Kn).length = 0 := rfl
  have hkl : ∀ k ∈ (nmPut 0 [] a).2.1, k.name.length ≤ 140737488355328 := fun k hk => by rcases hm1.2.2 k hk with h | h; cases h; omega
  refine Fn.enter Try.func14 rfl rfl rfl rfl (Holds.nil w) ?_
  refine CW.seq ?_
  refine CW.region ?_
  refine W.p O.as ?_
  refine WL.nil (Q.tn ?_)
  refine CW.seq ?_
  refine CW.seq ?_
  refine CW.region ?_
  refine W.q (O.call ⟨rfl, rfl⟩ (AV.nil) (fun _ w hw => law3_awake w)) ?_
  refine W.p O.nt ?_
  refine WL.nil (Q.tn ?_)
  refine CW.cond (vt rfl) (fun hc1 => ?_) (fun hc1 => ?_)
  · exact absurd hc1 (by decide)
  · try simp only [Bool.cond_true_left, Bool.cond_false_right, Bool.or_eq_true, Bool.or_eq_false_iff, Bool.and_eq_true, Bool.and_eq_false_iff, decide_eq_true_eq, decide_eq_false_iff_not, Bool.not_eq_true', Bool.not_eq_false'] at hc1
    refine CW.skip (Q.tn ?_)
    refine CW.seq ?_
    refine CW.region ?_
    refine W.p O.mv ?_
    refine W.callN (first := []) (cap := []) rfl (vt rfl) (AV.cons (vt rfl) (AV.cons (vt rfl) (AV.cons (vt rfl) (AV.nil)))) (fun w hu => wr_Put 0 [] a none 0 w In.nil (by decide) (by simp) (by omega)) ?_; rintro _ _ ⟨o11, c11, sp11, rfl, ok11, rfl⟩; have nk11 := ok11.nk
    refine W.p O.mv ?_
    refine W.p O.ext ?_
    refine W.p O.ext ?_
    refine W.p O.ext ?_
    refine W.p O.as ?_
    refine W.p O.as ?_
    refine W.p O.as ?_
    refine WL.nil (Q.tn ?_)
    refine CW.seq ?_
    refine CW.region ?_
    refine W.p O.mv ?_
    refine W.p O.len ?_
    refine W.p O.mv ?_
    refine W.p O.mv ?_
    refine W.callN (first := []) (cap := []) rfl (vt rfl) (AV.cons (vt rfl) (AV.cons (vt rfl) (AV.cons (vt rfl) (AV.nil)))) (fun w hu => wr_Put _ (nmPut 0 [] a).2.1 b _ _ w (RowL.h _ hu) (by omega) hkl (by omega)) ?_; rintro _ _ ⟨o12, c12, sp12, rfl, ok12, rfl⟩; have nk12 := ok12.nk
    refine W.p O.mv ?_
    refine W.p O.ext ?_
    refine W.p O.ext ?_
    refine W.p O.ext ?_
    refine W.p O.as ?_
    refine W.p O.as ?_
    refine W.p O.as ?_
    refine WL.nil (Q.tn ?_)
    refine CW.seq ?_
    refine CW.region ?_
    refine W.p O.mv ?_
    refine W.p O.len ?_
    refine W.p O.mv ?_
    refine W.callN (first := []) (cap := []) rfl (vt rfl) (AV.cons (vt rfl) (AV.cons (vt rfl) (AV.cons (vt rfl) (AV.nil)))) (fun w hu => wr_Put _ [] b none 0 w In.nil (by decide) (by simp) (by omega)) ?_; rintro _ _ ⟨o13, c13, sp13, rfl, ok13, rfl⟩; have nk13 := ok13.nk
    refine W.p O.mv ?_
    refine W.p O.ext ?_
    refine W.p O.ext ?_
    refine W.p O.ext ?_
    refine W.p O.as ?_
    refine W.p O.as ?_
    refine W.p O.as ?_
    refine WL.nil (Q.tn ?_)
    refine CW.seq ?_
    refine CW.seq ?_
    refine CW.region ?_
    refine W.p O.mv ?_
    refine W.q (O.call ⟨rfl, rfl⟩ (AV.cons (vt rfl) (AV.nil)) (fun _ w hw => law0_Num _ w)) ?_
    refine W.p O.neI ?_
    refine W.p O.mv ?_
    refine W.p O.mv ?_
    refine W.q (O.call ⟨rfl, rfl⟩ (AV.cons (vs rfl) (AV.nil)) (fun _ w hw => law0_Num _ w)) ?_
    refine W.p O.neI ?_
    refine W.p O.pkB ?_
    refine W.p O.mv ?_
    refine W.p O.mv ?_
    refine W.q (O.call ⟨rfl, rfl⟩ (AV.cons (vs rfl) (AV.nil)) (fun _ w hw => law0_Num _ w)) ?_
    refine W.p O.neI ?_
    refine W.p O.pkB ?_
    refine WL.nil (Q.tn ?_)
    refine CW.cond (vt rfl) (fun hc2 => ?_) (fun hc2 => ?_)
    · try simp only [Bool.cond_true_left, Bool.cond_false_right, Bool.or_eq_true, Bool.or_eq_false_iff, Bool.and_eq_true, Bool.and_eq_false_iff, decide_eq_true_eq, decide_eq_false_iff_not, Bool.not_eq_true', Bool.not_eq_false'] at hc2
      refine CW.seq ?_
      refine CW.region ?_
      refine W.p O.mv ?_
      refine W.p O.eqS ?_
      refine W.p O.mv ?_
      refine W.p O.mv ?_
      refine W.p O.eqS ?_
      refine W.p O.mv ?_
      refine W.p O.mv ?_
      refine W.p O.eqS ?_
      refine W.p O.pkB ?_
      refine W.p O.pkB ?_
      refine W.p O.as ?_
      refine WL.nil (Q.tn ?_)
      refine CW.ret (Q.tr ?_)
      refine ⟨_, [], (RVs.tmp rfl RVs.nil), List.nil_sublist _, ?_⟩
      refine ⟨?_, rfl⟩
      rcases short_err (a := a) (b := b) (by simpa using hc2) with h | ⟨h, h'⟩
      · simp [h, oneOr]
      · simp [h, h', oneOr]
    · try simp only [Bool.cond_true_left, Bool.cond_false_right, Bool.or_eq_true, Bool.or_eq_false_iff, Bool.and_eq_true, Bool.and_eq_false_iff, decide_eq_true_eq, decide_eq_false_iff_not, Bool.not_eq_true', Bool.not_eq_false'] at hc2
      refine CW.skip (Q.tn ?_)
      refine CW.seq ?_
      refine CW.region ?_
      refine W.p O.mv ?_
      refine W.p O.mv ?_
      refine W.p O.addS ?_
      refine W.p O.mv ?_
      refine W.p O.len ?_
      refine W.q (O.call ⟨rfl, rfl⟩ (AV.cons (vt rfl) (AV.cons (vt rfl) (AV.nil))) (fun _ w hw => wr_Get _ _ w (by simp only [List.length_append]; omega))) ?_
      refine W.p O.mv ?_
      refine W.p O.ext ?_
      refine W.p O.ext ?_
      refine W.p O.ext ?_
      refine W.p O.as ?_
      refine W.p O.as ?_
      refine W.p O.as ?_
      refine WL.nil (Q.tn ?_)
      refine CW.seq ?_
      refine CW.region ?_
      refine W.p O.mv ?_
      refine W.p O.mv ?_
      refine W.p O.addS ?_
      refine W.p O.mv ?_
      refine W.p O.len ?_
      refine W.q (O.call ⟨rfl, rfl⟩ (AV.cons (vt rfl) (AV.cons (vt rfl) (AV.nil))) (fun _ w hw => wr_Get _ _ w (by simp only [List.length_append]; omega))) ?_
      refine W.p O.mv ?_
      refine W.p O.ext ?_
      refine W.p O.ext ?_
      refine W.p O.ext ?_
      refine W.p O.as ?_
      refine W.p O.as ?_
      refine W.p O.as ?_
      refine WL.nil (Q.tn ?_)
      refine CW.seq ?_
      refine CW.region ?_
      refine W.p O.mv ?_
      refine W.p O.len ?_
      refine W.p O.mv ?_
      refine W.p O.len ?_
      refine W.p O.leq ?_
      refine W.p O.mv ?_
      refine W.p O.mv ?_
      refine W.q (O.call ⟨rfl, rfl⟩ (AV.cons (vs rfl) (AV.nil)) (fun _ w hw => law0_Num _ w)) ?_
      refine W.p O.eqI ?_
      refine W.p O.pkB ?_
      refine W.p O.mv ?_
      refine W.p O.mv ?_
      refine W.q (O.call ⟨rfl, rfl⟩ (AV.cons (vs rfl) (AV.nil)) (fun _ w hw => law0_Num _ w)) ?_
      refine W.p O.eqI ?_
      refine W.p O.pkB ?_
      refine W.p O.mv ?_
      refine W.p O.mv ?_
      refine W.p O.mv ?_
      refine W.p O.eqS ?_
      refine W.p O.pkB ?_
      refine W.p O.mv ?_
      refine W.p O.mv ?_
      refine W.p O.mv ?_
      refine W.p O.eqS ?_
      refine W.p O.pkB ?_
      refine W.p O.mv ?_
      refine W.p O.mv ?_
      refine W.p O.mv ?_
      refine W.p O.mv ?_
      refine W.p O.addS ?_
      refine W.p O.len ?_
      refine W.p O.eqI ?_
      refine W.p O.pkB ?_
      refine W.p O.mv ?_
      refine W.p O.mv ?_
      refine W.p O.lenL ?_
      refine W.p O.mv ?_
      refine W.p O.lenL ?_
      refine W.p O.geq ?_
      refine W.p O.pkB ?_
      refine W.p O.as ?_
      refine WL.nil (Q.tn ?_)
      refine CW.ret ?_
      refine ⟨_, [], (RVs.tmp rfl RVs.nil), List.nil_sublist _, ?_⟩
      refine ⟨?_, rfl⟩
      obtain ⟨⟨e1, e2⟩, e3⟩ := hc2
      obtain ⟨a1, a2, ⟨to, a3⟩, a4⟩ := short_ok e1 e2 e3
      simp only [a2, a3, grE, grN, grT]
      simp [oneOr]; omega
set_option maxRecDepth 100000 in
theorem law3_WirePlain (xs : List Int) (a : Option Addr) (c : Nat) (at_ : Int) (w : World) (h : In w a (xs.flatMap encI)) (hn : xs.length ≤ 17592186044416) : Fn Try.prog 11 [.slice a xs.length c, .int .i64 at_] w [] fun v L' => v = .bool true ∧ L' = [] := by
  have row := Row.ofE h
  refine Fn.enter Try.func11 rfl rfl rfl rfl (Holds.nil w) ?_
  refine CW.seq ?_
  refine CW.region ?_
  refine W.p O.as ?_
  refine WL.nil (Q.tn ?_)
  refine CW.seq ?_
  refine CW.seq ?_
  refine CW.region ?_
  refine W.q (O.call ⟨rfl, rfl⟩ (AV.nil) (fun _ w hw => law3_awake w)) ?_
  refine W.p O.nt ?_
  refine WL.nil (Q.tn ?_)
  refine CW.cond (vt rfl) (fun hc1 => ?_) (fun hc1 => ?_)
  · exact absurd hc1 (by decide)
  · try simp only [Bool.cond_true_left, Bool.cond_false_right, Bool.or_eq_true, Bool.or_eq_false_iff, Bool.and_eq_true, Bool.and_eq_false_iff, decide_eq_true_eq, decide_eq_false_iff_not, Bool.not_eq_true', Bool.not_eq_false'] at hc1
    refine CW.skip (Q.tn ?_)
    refine CW.seq ?_
    refine CW.region ?_
    refine W.p O.as ?_
    refine W.p O.as ?_
    refine WL.nil (Q.tn ?_)
    refine CW.seq ?_
    refine CW.seq ?_
    refine CW.region ?_
    refine W.p O.as ?_
    refine WL.nil (Q.tn ?_)
    refine CW.block ?_
    refine CW.loop (X := Int × (List UInt8) × (List UInt8)) (fun ⟨i, name, want⟩ => [(0, true, .slice a xs.length c), (1, true, .int .i64 at_), (5, true, .string (S name)), (6, true, .string (S want)), (7, true, .int .i64 i)]) (fun ⟨i, name, want⟩ => []) (fun ⟨i, name, want⟩ => 0 ≤ i ∧ i ≤ xs.length ∧ i ≤ 8 ∧ name = joinD ((xs.take i.toNat).map pl) ∧ want = (((xs.take i.toNat).map pl).flatMap fun (l : List UInt8) => UInt8.ofNat l.length :: l) ∧ want.length ≤ 9 * i) (fun ⟨i, name, want⟩ => (xs.length - i).toNat) (0, [], []) ?_ (by repeat (first | exact trivial | refine ⟨rfl, ?_⟩ | refine ⟨by (simp only [List.length_set]; rfl), ?_⟩)) (by repeat (first | exact List.Sublist.refl _ | exact List.sublist_append_left _ _ | exact List.nil_sublist _ | refine List.Sublist.append (List.Sublist.refl _) ?_ | apply List.Sublist.cons₂ | apply List.Sublist.cons | refine List.Sublist.trans ?_ (List.sublist_append_right _ _))) ?_
    · exact ⟨by omega, by omega, by omega, rfl, rfl, by simp⟩
    rintro ⟨i, name, want⟩ hI
    try dsimp only at hI ⊢
    obtain ⟨h0, h1, h8, hnm, hw, hwl⟩ := hI
    have hla := pls_ok (xs.take i.toNat)
    have hjl := joinD_len hla
    rw [← hnm] at hjl
    have hll : ((xs.take i.toNat).map pl).length = i.toNat := by rw [List.length_map, List.length_take]; omega
    have hpk := pl_ok (xs.getD i.toNat 0)
    have hpl : (([97, 98, 99, 100, 101, 102, 103, 104] : List UInt8).take (1 + (xs.getD i.toNat 0) % 8).toNat).length = (1 + (xs.getD i.toNat 0) % 8).toNat := hpk.2
    refine CW.seq ?_
    refine CW.seq ?_
    refine CW.region ?_
    refine W.p O.mv ?_
    refine W.p O.mv ?_
    refine W.p O.lenL ?_
    refine W.p O.lss ?_
    refine W.p O.mv ?_
    refine W.p O.mv ?_
    refine W.p O.lss ?_
    refine W.p O.pkB ?_
    refine WL.nil (Q.tn ?_)
    refine CW.cond (vt rfl) (fun hc2 => ?_) (fun hc2 => ?_)
    · try simp only [Bool.cond_true_left, Bool.cond_false_right, Bool.or_eq_true, Bool.or_eq_false_iff, Bool.and_eq_true, Bool.and_eq_false_iff, decide_eq_true_eq, decide_eq_false_iff_not, Bool.not_eq_true', Bool.not_eq_false'] at hc2
      refine CW.skip (Q.tn ?_)
      refine CW.seq ?_
      refine CW.block ?_
      refine CW.seq ?_
      refine CW.region ?_
      refine W.p O.mv ?_
      refine W.p O.mv ?_
      refine W.p O.ixA ?_
      refine W.p O.ldE ?_
      refine W.p (O.andM 3 8 (h := by decide) (hq := by decide) (hM := by decide)) ?_
      first | refine W.p O.addN ?_ | refine W.p O.add ?_
      refine W.p O.as ?_
      refine WL.nil (Q.tn ?_)
      refine CW.seq ?_
      refine CW.region ?_
      refine W.p O.mv ?_
      refine W.p O.slcH ?_
      refine W.p O.as ?_
      refine WL.nil (Q.tn ?_)
      refine CW.seq ?_
      refine CW.seq ?_
      refine CW.region ?_
      refine W.p O.mv ?_
      refine W.p O.gtr ?_
      refine WL.nil (Q.tn ?_)
      refine CW.cond (vt rfl) (fun hc3 => ?_) (fun hc3 => ?_)
      · try simp only [Bool.cond_true_left, Bool.cond_false_right, Bool.or_eq_true, Bool.or_eq_false_iff, Bool.and_eq_true, Bool.and_eq_false_iff, decide_eq_true_eq, decide_eq_false_iff_not, Bool.not_eq_true', Bool.not_eq_false'] at hc3
        refine CW.region ?_
        refine W.p O.mv ?_
        refine W.p O.addS ?_
        refine W.p O.as ?_
        refine WL.nil (Q.tn ?_)
        refine CW.seq ?_
        refine CW.region ?_
        refine W.p O.mv ?_
        refine W.p O.mv ?_
        refine W.p O.addS ?_
        refine W.p O.as ?_
        refine WL.nil (Q.tn ?_)
        refine CW.region ?_
        refine W.p O.mv ?_
        refine W.p O.mv ?_
        refine W.p O.cvI8 ?_
        refine W.bs encB [_] rfl (PV.cons (vt rfl) (PV.nil)) rfl rfl rfl (by decide) rfl fun b1 => ?_
        refine W.p (O.cvRow ⟨rfl, rfl⟩ (vt rfl) (by first | rfl | omega) (fun _ => ⟨_, rfl⟩)) ?_
        refine W.p O.addS ?_
        refine W.p O.mv ?_
        refine W.p O.addS ?_
        refine W.p O.as ?_
        refine WL.nil (Q.bn (Q.tn ?_))
        refine CW.region ?_
        refine W.p O.mv ?_
        first | refine W.p O.addN ?_ | refine W.p O.add ?_
        refine W.p O.as ?_
        refine WL.nil (Q.tn ?_)
        refine ⟨(_, _, _), ?_, ?_, (by repeat (first | exact trivial | refine ⟨rfl, ?_⟩ | refine ⟨by (simp only [List.length_set]; rfl), ?_⟩)), (by repeat (first | exact List.Sublist.refl _ | exact List.sublist_append_left _ _ | exact List.nil_sublist _ | refine List.Sublist.append (List.Sublist.refl _) ?_ | apply List.Sublist.cons₂ | apply List.Sublist.cons | refine List.Sublist.trans ?_ (List.sublist_append_right _ _)))⟩
        · try dsimp only
          have e : (xs.take (i + 1).toNat).map pl = (xs.take i.toNat).map pl ++ [pl (xs.getD i.toNat 0)] := by rw [take_at' 0 h0 hc2.1, List.map_append]; rfl
          have hne : (xs.take i.toNat).map pl ≠ [] := by intro e2; rw [e2] at hll; simp at hll; omega
          refine ⟨by omega, by omega, by omega, by rw [e, joinD_app hne, hnm]; rfl, by rw [e, List.flatMap_append, hw, pl_byte]; simp [pl], ?_⟩
          simp only [List.length_append, List.length_cons, List.length_nil, hpl]; omega
        · try dsimp only
          omega
      · try simp only [Bool.cond_true_left, Bool.cond_false_right, Bool.or_eq_true, Bool.or_eq_false_iff, Bool.and_eq_true, Bool.and_eq_false_iff, decide_eq_true_eq, decide_eq_false_iff_not, Bool.not_eq_true', Bool.not_eq_false'] at hc3
        refine CW.skip (Q.tn ?_)
        refine CW.seq ?_
        refine CW.region ?_
        refine W.p O.mv ?_
        refine W.p O.mv ?_
        refine W.p O.addS ?_
        refine W.p O.as ?_
        refine WL.nil (Q.tn ?_)
        refine CW.region ?_
        refine W.p O.mv ?_
        refine W.p O.mv ?_
        refine W.p O.cvI8 ?_
        refine W.bs encB [_] rfl (PV.cons (vt rfl) (PV.nil)) rfl rfl rfl (by decide) rfl fun b2 => ?_
        refine W.p (O.cvRow ⟨rfl, rfl⟩ (vt rfl) (by first | rfl | omega) (fun _ => ⟨_, rfl⟩)) ?_
        refine W.p O.addS ?_
        refine W.p O.mv ?_
        refine W.p O.addS ?_
        refine W.p O.as ?_
        refine WL.nil (Q.bn (Q.tn ?_))
        refine CW.region ?_
        refine W.p O.mv ?_
        first | refine W.p O.addN ?_ | refine W.p O.add ?_
        refine W.p O.as ?_
        refine WL.nil (Q.tn ?_)
        refine ⟨(_, _, _), ?_, ?_, (by repeat (first | exact trivial | refine ⟨rfl, ?_⟩ | refine ⟨by (simp only [List.length_set]; rfl), ?_⟩)), (by repeat (first | exact List.Sublist.refl _ | exact List.sublist_append_left _ _ | exact List.nil_sublist _ | refine List.Sublist.append (List.Sublist.refl _) ?_ | apply List.Sublist.cons₂ | apply List.Sublist.cons | refine List.Sublist.trans ?_ (List.sublist_append_right _ _)))⟩
        · try dsimp only
          have hnil : (xs.take i.toNat).map pl = [] := List.eq_nil_of_length_eq_zero (by omega)
          have e : (xs.take (i + 1).toNat).map pl = (xs.take i.toNat).map pl ++ [pl (xs.getD i.toNat 0)] := by rw [take_at' 0 h0 hc2.1, List.map_append]; rfl
          refine ⟨by omega, by omega, by omega, by rw [e, hnm, hnil]; rfl, by rw [e, List.flatMap_append, hw, pl_byte]; simp [pl], ?_⟩
          simp only [List.length_append, List.length_cons, List.length_nil, hpl]; omega
        · try dsimp only
          omega
    · try simp only [Bool.cond_true_left, Bool.cond_false_right, Bool.or_eq_true, Bool.or_eq_false_iff, Bool.and_eq_true, Bool.and_eq_false_iff, decide_eq_true_eq, decide_eq_false_iff_not, Bool.not_eq_true', Bool.not_eq_false'] at hc2
      refine CW.exit (Q.te (Q.te (Q.bx (Q.tn ?_))))
      refine CW.seq ?_
      refine CW.region ?_
      refine W.p O.mv ?_
      refine W.p (O.andM 12 4096 (h := by decide) (hq := by decide) (hM := by decide)) ?_
      refine W.p O.mv ?_
      refine W.callN (first := []) (cap := []) rfl (vt rfl) (AV.cons (vt rfl) (AV.cons (vt rfl) (AV.cons (vt rfl) (AV.nil)))) (fun w hu => wr_Put _ [] name none 0 w In.nil (by decide) (by simp) (by omega)) ?_; rintro _ _ ⟨o11, c11, sp11, rfl, ok11, rfl⟩; have nk11 := ok11.nk
      refine W.p O.mv ?_
      refine W.p O.ext ?_
      refine W.p O.ext ?_
      refine W.p O.ext ?_
      refine W.p O.as ?_
      refine W.p O.as ?_
      refine W.p O.as ?_
      refine WL.nil (Q.tn ?_)
      refine CW.seq ?_
      refine CW.region ?_
      refine W.p O.mv ?_
      refine W.q (O.call ⟨rfl, rfl⟩ (AV.cons (vt rfl) (AV.cons (vt rfl) (AV.nil))) (fun _ w hw => wr_Get _ _ w (Nat.le_trans (nmPut_more _ _ _).1 (by decide)))) ?_
      refine W.p O.mv ?_
      refine W.p O.ext ?_
      refine W.p O.ext ?_
      refine W.p O.ext ?_
      refine W.p O.as ?_
      refine W.p O.as ?_
      refine W.p O.as ?_
      refine WL.nil (Q.tn ?_)
      refine CW.seq ?_
      refine CW.region ?_
      refine W.p O.mv ?_
      refine W.q (O.call ⟨rfl, rfl⟩ (AV.cons (vt rfl) (AV.nil)) (fun _ w hw => law0_Num _ w)) ?_
      refine W.p O.eqI ?_
      refine W.p O.mv ?_
      refine W.p O.mv ?_
      refine W.p O.mv ?_
      refine W.p O.addS ?_
      refine W.p O.eqS ?_
      refine W.p O.pkB ?_
      refine W.p O.mv ?_
      refine W.p O.mv ?_
      refine W.p O.lenL ?_
      refine W.p O.mv ?_
      refine W.p O.lenL ?_
      refine W.p O.min ?_
      refine W.p O.eqI ?_
      refine W.p O.pkB ?_
      refine W.p O.mv ?_
      refine W.p O.mv ?_
      refine W.q (O.call ⟨rfl, rfl⟩ (AV.cons (vs rfl) (AV.nil)) (fun _ w hw => law0_Num _ w)) ?_
      refine W.p O.eqI ?_
      refine W.p O.pkB ?_
      refine W.p O.mv ?_
      refine W.p O.mv ?_
      refine W.p O.mv ?_
      refine W.p O.eqS ?_
      refine W.p O.pkB ?_
      refine W.p O.mv ?_
      refine W.p O.mv ?_
      refine W.p O.mv ?_
      refine W.p O.len ?_
      refine W.p O.eqI ?_
      refine W.p O.pkB ?_
      refine W.p O.as ?_
      refine WL.nil (Q.tn ?_)
      refine CW.ret ?_
      refine ⟨_, [], (RVs.tmp rfl RVs.nil), List.nil_sublist _, ?_⟩
      refine ⟨?_, rfl⟩
      obtain ⟨e1, e2, e3⟩ := plain_law (at_ := at_ % 4096) (by omega) (by omega) hla (by omega)
      rw [← hnm, ← hw] at e3
      rw [← hnm] at e1 e2
      rw [← hw] at e1
      have q1 : (nmPut (at_ % 4096) [] name).1 = want ++ [0] := by rw [e1]
      have q2 : (nmPut (at_ % 4096) [] name).2.2 = 0 := by rw [e1]
      rw [hll] at e2
      have q3 : ((nmPut (at_ % 4096) [] name).2.1.length : Int) = min (xs.length : Int) 8 := by omega
      simp only [q1, q2, q3, e3, grE, grN, grT]
      simp [oneOr]
set_option maxRecDepth 100000 in
theorem law3_WirePoints (many cut : Int) (w : World) : Fn Try.prog 12 [.int .i64 many, .int .i64 cut] w [] fun v L' => v = .bool true ∧ L' = [] := by
  refine Fn.enter Try.func12 rfl rfl rfl rfl (Holds.nil w) ?_
  refine CW.seq ?_
  refine CW.region ?_
  refine W.p O.as ?_
  refine WL.nil (Q.tn ?_)
  refine CW.seq ?_
  refine CW.seq ?_
  refine CW.region ?_
  refine W.q (O.call ⟨rfl, rfl⟩ (AV.nil) (fun _ w hw => law3_awake w)) ?_
  refine W.p O.nt ?_
  refine WL.nil (Q.tn ?_)
  refine CW.cond (vt rfl) (fun hc1 => ?_) (fun hc1 => ?_)
  · exact absurd hc1 (by decide)
  · try simp only [Bool.cond_true_left, Bool.cond_false_right, Bool.or_eq_true, Bool.or_eq_false_iff, Bool.and_eq_true, Bool.and_eq_false_iff, decide_eq_true_eq, decide_eq_false_iff_not, Bool.not_eq_true', Bool.not_eq_false'] at hc1
    refine CW.skip (Q.tn ?_)
    refine CW.seq ?_
    refine CW.region ?_
    refine W.p O.as ?_
    refine WL.nil (Q.tn ?_)
    refine CW.seq ?_
    refine CW.region ?_
    refine W.p O.as ?_
    refine WL.nil (Q.tn ?_)
    refine CW.seq ?_
    refine CW.region ?_
    refine W.p O.mv ?_
    refine W.p (O.andM 3 8 (h := by decide) (hq := by decide) (hM := by decide)) ?_
    refine W.p O.as ?_
    refine WL.nil (Q.tn ?_)
    refine CW.seq ?_
    refine CW.seq ?_
    refine CW.region ?_
    refine W.p O.as ?_
    refine WL.nil (Q.tn ?_)
    refine CW.block ?_
    refine CW.loop (X := Int × (List UInt8) × Int) (fun ⟨i, s, p⟩ => [(1, true, .int .i64 cut), (5, true, .string (S s)), (6, true, .int .i64 p), (7, true, .int .i64 (many % 8)), (8, true, .int .i64 i)]) (fun ⟨i, s, p⟩ => []) (fun ⟨i, s, p⟩ => 0 ≤ i ∧ i ≤ many % 8 ∧ PtI s p i.toNat) (fun ⟨i, s, p⟩ => (many % 8 - i).toNat) (0, [3, 108, 97, 110, 0], 0) ?_ (by repeat (first | exact trivial | refine ⟨rfl, ?_⟩ | refine ⟨by (simp only [List.length_set]; rfl), ?_⟩)) (by repeat (first | exact List.Sublist.refl _ | exact List.sublist_append_left _ _ | exact List.nil_sublist _ | refine List.Sublist.append (List.Sublist.refl _) ?_ | apply List.Sublist.cons₂ | apply List.Sublist.cons | refine List.Sublist.trans ?_ (List.sublist_append_right _ _))) ?_
    · exact ⟨by omega, by omega, ptI_new⟩
    rintro ⟨i, s, p⟩ hI
    try dsimp only at hI ⊢
    obtain ⟨h0, h1, hP⟩ := hI
    have hsl := hP.1
    have hpl : 0 ≤ p ∧ p < s.length := by obtain ⟨_, q, rfl, hq, _⟩ := hP; omega
    refine CW.seq ?_
    refine CW.seq ?_
    refine CW.region ?_
    refine W.p O.mv ?_
    refine W.p O.mv ?_
    refine W.p O.lss ?_
    refine WL.nil (Q.tn ?_)
    refine CW.cond (vt rfl) (fun hc2 => ?_) (fun hc2 => ?_)
    · try simp only [Bool.cond_true_left, Bool.cond_false_right, Bool.or_eq_true, Bool.or_eq_false_iff, Bool.and_eq_true, Bool.and_eq_false_iff, decide_eq_true_eq, decide_eq_false_iff_not, Bool.not_eq_true', Bool.not_eq_false'] at hc2
      refine CW.skip (Q.tn ?_)
      refine CW.seq ?_
      refine CW.block ?_
      refine CW.seq ?_
      refine CW.region ?_
      refine W.p O.mv ?_
      refine W.p O.len ?_
      refine W.p O.as ?_
      refine WL.nil (Q.tn ?_)
      refine CW.seq ?_
      refine CW.region ?_
      refine W.p O.mv ?_
      refine W.p O.addS ?_
      refine W.p O.mv ?_
      refine W.p O.cvI8 ?_
      refine W.bs encB [_] rfl (PV.cons (vt rfl) (PV.nil)) rfl rfl rfl (by decide) rfl fun b1 => ?_
      refine W.p (O.cvRow ⟨rfl, rfl⟩ (vt rfl) (by first | rfl | omega) (fun _ => ⟨_, rfl⟩)) ?_
      refine W.p O.addS ?_
      refine W.p O.as ?_
      refine WL.nil (Q.tn ?_)
      refine CW.region ?_
      refine W.p O.mv ?_
      refine W.p O.as ?_
      refine WL.nil (Q.bn (Q.tn ?_))
      refine CW.region ?_
      refine W.p O.mv ?_
      first | refine W.p O.addN ?_ | refine W.p O.add ?_
      refine W.p O.as ?_
      refine WL.nil (Q.tn ?_)
      refine ⟨(_, _, _), ?_, ?_, (by repeat (first | exact trivial | refine ⟨rfl, ?_⟩ | refine ⟨by (simp only [List.length_set]; rfl), ?_⟩)), (by repeat (first | exact List.Sublist.refl _ | exact List.sublist_append_left _ _ | exact List.nil_sublist _ | refine List.Sublist.append (List.Sublist.refl _) ?_ | apply List.Sublist.cons₂ | apply List.Sublist.cons | refine List.Sublist.trans ?_ (List.sublist_append_right _ _)))⟩
      · try dsimp only
        refine ⟨by omega, by omega, ?_⟩
        rw [show (i + 1).toNat = i.toNat + 1 by omega, show s ++ [1, 97, 192] ++ [byteOf p] = s ++ ptB p by simp [ptB]]; exact ptI_step hP (by omega)
      · try dsimp only
        omega
    · try simp only [Bool.cond_true_left, Bool.cond_false_right, Bool.or_eq_true, Bool.or_eq_false_iff, Bool.and_eq_true, Bool.and_eq_false_iff, decide_eq_true_eq, decide_eq_false_iff_not, Bool.not_eq_true', Bool.not_eq_false'] at hc2
      refine CW.exit (Q.te (Q.te (Q.bx (Q.tn ?_))))
      refine CW.seq ?_
      refine CW.region ?_
      refine W.p O.as ?_
      refine WL.nil (Q.tn ?_)
      refine CW.seq ?_
      refine CW.seq ?_
      refine CW.region ?_
      refine W.p O.as ?_
      refine WL.nil (Q.tn ?_)
      refine CW.block ?_
      refine CW.loop (X := Int × (List UInt8)) (fun ⟨j, want⟩ => [(1, true, .int .i64 cut), (5, true, .string (S s)), (6, true, .int .i64 p), (7, true, .int .i64 (many % 8)), (10, true, .string (S want)), (11, true, .int .i64 j)]) (fun ⟨j, want⟩ => []) (fun ⟨j, want⟩ => 0 ≤ j ∧ j ≤ many % 8 ∧ want = (List.replicate j.toNat [97, 46]).flatten ∧ want.length ≤ 2 * j) (fun ⟨j, want⟩ => (many % 8 - j).toNat) (0, []) ?_ (by repeat (first | exact trivial | refine ⟨rfl, ?_⟩ | refine ⟨by (simp only [List.length_set]; rfl), ?_⟩)) (by repeat (first | exact List.Sublist.refl _ | exact List.sublist_append_left _ _ | exact List.nil_sublist _ | refine List.Sublist.append (List.Sublist.refl _) ?_ | apply List.Sublist.cons₂ | apply List.Sublist.cons | refine List.Sublist.trans ?_ (List.sublist_append_right _ _))) ?_
      · exact ⟨by omega, by omega, rfl, by simp⟩
      rintro ⟨j, want⟩ hI
      try dsimp only at hI ⊢
      obtain ⟨g0, g1, hw, hwl⟩ := hI
      have hge : getName s p = .ok ((List.replicate (many % 8).toNat [97, 46]).flatten ++ [108, 97, 110]) s.length := by have := ptI_get hP (by omega); rwa [show i = many % 8 by omega] at this
      refine CW.seq ?_
      refine CW.seq ?_
      refine CW.region ?_
      refine W.p O.mv ?_
      refine W.p O.mv ?_
      refine W.p O.lss ?_
      refine WL.nil (Q.tn ?_)
      refine CW.cond (vt rfl) (fun hc3 => ?_) (fun hc3 => ?_)
      · try simp only [Bool.cond_true_left, Bool.cond_false_right, Bool.or_eq_true, Bool.or_eq_false_iff, Bool.and_eq_true, Bool.and_eq_false_iff, decide_eq_true_eq, decide_eq_false_iff_not, Bool.not_eq_true', Bool.not_eq_false'] at hc3
        refine CW.skip (Q.tn ?_)
        refine CW.seq ?_
        refine CW.block ?_
        refine CW.region ?_
        refine W.p O.mv ?_
        refine W.p O.addS ?_
        refine W.p O.as ?_
        refine WL.nil (Q.bn (Q.tn ?_))
        refine CW.region ?_
        refine W.p O.mv ?_
        first | refine W.p O.addN ?_ | refine W.p O.add ?_
        refine W.p O.as ?_
        refine WL.nil (Q.tn ?_)
        refine ⟨(_, _), ?_, ?_, (by repeat (first | exact trivial | refine ⟨rfl, ?_⟩ | refine ⟨by (simp only [List.length_set]; rfl), ?_⟩)), (by repeat (first | exact List.Sublist.refl _ | exact List.sublist_append_left _ _ | exact List.nil_sublist _ | refine List.Sublist.append (List.Sublist.refl _) ?_ | apply List.Sublist.cons₂ | apply List.Sublist.cons | refine List.Sublist.trans ?_ (List.sublist_append_right _ _)))⟩
        · try dsimp only
          refine ⟨by omega, by omega, ?_, by simp only [List.length_append, List.length_cons, List.length_nil]; omega⟩
          rw [show (j + 1).toNat = j.toNat + 1 by omega, List.replicate_succ', List.flatten_append, hw]; rfl
        · try dsimp only
          omega
      · try simp only [Bool.cond_true_left, Bool.cond_false_right, Bool.or_eq_true, Bool.or_eq_false_iff, Bool.and_eq_true, Bool.and_eq_false_iff, decide_eq_true_eq, decide_eq_false_iff_not, Bool.not_eq_true', Bool.not_eq_false'] at hc3
        refine CW.exit (Q.te (Q.te (Q.bx (Q.tn ?_))))
        refine CW.seq ?_
        refine CW.region ?_
        refine W.p O.mv ?_
        refine W.p O.mv ?_
        refine W.q (O.call ⟨rfl, rfl⟩ (AV.cons (vt rfl) (AV.cons (vt rfl) (AV.nil))) (fun _ w hw => wr_Get _ _ w (by first | omega | (rw [List.length_set]; omega)))) ?_
        refine W.p O.mv ?_
        refine W.p O.ext ?_
        refine W.p O.ext ?_
        refine W.p O.ext ?_
        refine W.p O.as ?_
        refine W.p O.as ?_
        refine W.p O.as ?_
        refine WL.nil (Q.tn ?_)
        refine CW.seq ?_
        refine CW.seq ?_
        refine CW.region ?_
        refine W.p O.mv ?_
        refine W.p O.gtr ?_
        refine WL.nil (Q.tn ?_)
        refine CW.cond (vt rfl) (fun hc4 => ?_) (fun hc4 => ?_)
        · try simp only [Bool.cond_true_left, Bool.cond_false_right, Bool.or_eq_true, Bool.or_eq_false_iff, Bool.and_eq_true, Bool.and_eq_false_iff, decide_eq_true_eq, decide_eq_false_iff_not, Bool.not_eq_true', Bool.not_eq_false'] at hc4
          have hbad := ptI_bad hP (by omega) (by omega) cut
          have hset : (s.set ((s.length : Int) - 1).toNat (byteOf (p + cut % 4))).length = s.length := List.length_set
          refine CW.seq ?_
          refine CW.region ?_
          refine W.p O.mv ?_
          refine W.cvSB rfl (vt rfl) fun b2 c2 sp2 le2 => ?_
          refine W.p O.as ?_
          refine WL.nil (Q.tn ?_)
          refine CW.seq ?_
          refine CW.region ?_
          refine W.p O.mv ?_
          refine W.p O.mv ?_
          refine W.p O.lenL ?_
          first | refine W.p O.subN ?_ | refine W.p O.sub ?_
          refine W.p O.mv ?_
          refine W.p O.mv ?_
          refine W.p (O.andM 2 4 (h := by decide) (hq := by decide) (hM := by decide)) ?_
          first | refine W.p O.addN ?_ | refine W.p O.add ?_
          refine W.p O.cvI8 ?_
          refine W.p O.ixA ?_
          refine W.stZ (byteOf (p + cut % 4)) (vt rfl) (vt rfl) (by first | rfl | omega) (by omega) (by omega) ?_
          refine WL.nil (Q.tn ?_)
          refine CW.seq ?_
          refine CW.region ?_
          refine W.p O.mv ?_
          refine W.p (O.cvRow ⟨rfl, rfl⟩ (vt rfl) (by first | rfl | omega) (fun _ => ⟨_, rfl⟩)) ?_
          refine W.p O.mv ?_
          refine W.q (O.call ⟨rfl, rfl⟩ (AV.cons (vt rfl) (AV.cons (vt rfl) (AV.nil))) (fun _ w hw => wr_Get _ _ w (by first | omega | (rw [List.length_set]; omega)))) ?_
          refine W.p O.mv ?_
          refine W.p O.ext ?_
          refine W.p O.ext ?_
          refine W.p O.ext ?_
          refine W.p O.as ?_
          refine W.p O.as ?_
          refine W.p O.as ?_
          refine WL.nil (Q.tn ?_)
          refine CW.seq ?_
          refine CW.region ?_
          refine W.p O.mv ?_
          refine W.q (O.call ⟨rfl, rfl⟩ (AV.cons (vt rfl) (AV.nil)) (fun _ w hw => law0_Num _ w)) ?_
          refine W.p O.neI ?_
          refine WL.nil (Q.tn ?_)
          refine CW.cond (vt rfl) (fun hc5 => ?_) (fun hc5 => ?_)
          · simp only [hbad, grE] at hc5; exact absurd hc5 (by decide)
          · try simp only [Bool.cond_true_left, Bool.cond_false_right, Bool.or_eq_true, Bool.or_eq_false_iff, Bool.and_eq_true, Bool.and_eq_false_iff, decide_eq_true_eq, decide_eq_false_iff_not, Bool.not_eq_true', Bool.not_eq_false'] at hc5
            refine CW.skip (Q.tn ?_)
            refine CW.seq ?_
            refine CW.region ?_
            refine W.p O.mv ?_
            refine W.q (O.call ⟨rfl, rfl⟩ (AV.cons (vt rfl) (AV.nil)) (fun _ w hw => law0_Num _ w)) ?_
            refine W.p O.eqI ?_
            refine W.p O.mv ?_
            refine W.p O.mv ?_
            refine W.p O.mv ?_
            refine W.p O.addS ?_
            refine W.p O.eqS ?_
            refine W.p O.pkB ?_
            refine W.p O.mv ?_
            refine W.p O.mv ?_
            refine W.p O.mv ?_
            refine W.p O.len ?_
            refine W.p O.eqI ?_
            refine W.p O.pkB ?_
            refine W.p O.as ?_
            refine WL.nil (Q.tn ?_)
            refine CW.ret ?_
            refine ⟨_, [], (RVs.tmp rfl RVs.nil), List.nil_sublist _, ?_⟩
            refine ⟨?_, rfl⟩
            have ej : j.toNat = (many % 8).toNat := by omega
            rw [ej] at hw
            simp only [hge, grE, grN, grT, hw]
            simp [oneOr]
        · try simp only [Bool.cond_true_left, Bool.cond_false_right, Bool.or_eq_true, Bool.or_eq_false_iff, Bool.and_eq_true, Bool.and_eq_false_iff, decide_eq_true_eq, decide_eq_false_iff_not, Bool.not_eq_true', Bool.not_eq_false'] at hc4
          refine CW.skip (Q.tn ?_)
          refine CW.seq ?_
          refine CW.region ?_
          refine W.p O.mv ?_
          refine W.q (O.call ⟨rfl, rfl⟩ (AV.cons (vt rfl) (AV.nil)) (fun _ w hw => law0_Num _ w)) ?_
          refine W.p O.eqI ?_
          refine W.p O.mv ?_
          refine W.p O.mv ?_
          refine W.p O.mv ?_
          refine W.p O.addS ?_
          refine W.p O.eqS ?_
          refine W.p O.pkB ?_
          refine W.p O.mv ?_
          refine W.p O.mv ?_
          refine W.p O.mv ?_
          refine W.p O.len ?_
          refine W.p O.eqI ?_
          refine W.p O.pkB ?_
          refine W.p O.as ?_
          refine WL.nil (Q.tn ?_)
          refine CW.ret ?_
          refine ⟨_, [], (RVs.tmp rfl RVs.nil), List.nil_sublist _, ?_⟩
          refine ⟨?_, rfl⟩
          have ej : j.toNat = (many % 8).toNat := by omega
          rw [ej] at hw
          simp only [hge, grE, grN, grT, hw]
          simp [oneOr]
theorem great_byte (x : Int) (h : (x / 2 ^ 8) % 2 = 1) : IntKind.u8.wrap (((byteOf (97 + x % 256 % 26)).toNat : Int) - 32) = ((fc x).toNat : Int) := by
  have h2 := fb_ok x
  have e : (fb x - 32).toNat = (fb x).toNat - 32 := by
    rw [UInt8.toNat_sub_of_le]; rfl
    rw [UInt8.le_iff_toNat_le]; show 32 ≤ _; omega
  rw [fc, if_pos h, e]
  show (((fb x).toNat : Int) - 32) % 256 = _
  omega
theorem fc_small {x : Int} (h : ¬ (x / 2 ^ (8 : Int).toNat) % 2 = 1) : fc x = byteOf (97 + x % 256 % 26) := by
  rw [fc, if_neg (show ¬ (x / 2 ^ 8) % 2 = 1 from h)]; rfl
set_option maxRecDepth 100000 in
theorem law3_WireFolds (xs : List Int) (a : Option Addr) (c : Nat) (w : World) (h : In w a (xs.flatMap encI)) (hn : xs.length ≤ 17592186044416) : Fn Try.prog 13 [.slice a xs.length c] w [] fun v L' => v = .bool true ∧ L' = [] := by
  have row := Row.ofE h
  refine Fn.enter Try.func13 rfl rfl rfl rfl (Holds.nil w) ?_
  refine CW.seq ?_
  refine CW.region ?_
  refine W.p O.as ?_
  refine WL.nil (Q.tn ?_)
  refine CW.seq ?_
  refine CW.seq ?_
  refine CW.region ?_
  refine W.q (O.call ⟨rfl, rfl⟩ (AV.nil) (fun _ w hw => law3_awake w)) ?_
  refine W.p O.nt ?_
  refine WL.nil (Q.tn ?_)
  refine CW.cond (vt rfl) (fun hc1 => ?_) (fun hc1 => ?_)
  · exact absurd hc1 (by decide)
  · try simp only [Bool.cond_true_left, Bool.cond_false_right, Bool.or_eq_true, Bool.or_eq_false_iff, Bool.and_eq_true, Bool.and_eq_false_iff, decide_eq_true_eq, decide_eq_false_iff_not, Bool.not_eq_true', Bool.not_eq_false'] at hc1
    refine CW.skip (Q.tn ?_)
    refine CW.seq ?_
    refine CW.region ?_
    refine W.p O.as ?_
    refine W.p O.as ?_
    refine WL.nil (Q.tn ?_)
    refine CW.seq ?_
    refine CW.seq ?_
    refine CW.region ?_
    refine W.p O.as ?_
    refine WL.nil (Q.tn ?_)
    refine CW.block ?_
    refine CW.loop (X := Int × (List UInt8) × (List UInt8)) (fun ⟨i, s, want⟩ => [(0, true, .slice a xs.length c), (3, true, .string (S s)), (4, true, .string (S want)), (5, true, .int .i64 i)]) (fun ⟨i, s, want⟩ => []) (fun ⟨i, s, want⟩ => 0 ≤ i ∧ i ≤ xs.length ∧ i ≤ 8 ∧ want = joinD ((xs.take i.toNat).map fun x => [fb x]) ∧ s = (((xs.take i.toNat).map fc).flatMap fun c => [1, c]) ∧ want.length ≤ 9 * i ∧ s.length = 2 * i) (fun ⟨i, s, want⟩ => (xs.length - i).toNat) (0, [], []) ?_ (by repeat (first | exact trivial | refine ⟨rfl, ?_⟩ | refine ⟨by (simp only [List.length_set]; rfl), ?_⟩)) (by repeat (first | exact List.Sublist.refl _ | exact List.sublist_append_left _ _ | exact List.nil_sublist _ | refine List.Sublist.append (List.Sublist.refl _) ?_ | apply List.Sublist.cons₂ | apply List.Sublist.cons | refine List.Sublist.trans ?_ (List.sublist_append_right _ _))) ?_
    · exact ⟨by omega, by omega, by omega, rfl, rfl, by simp, by simp⟩
    rintro ⟨i, s, want⟩ hI
    try dsimp only at hI ⊢
    obtain ⟨h0, h1, h8, hnm, hs, hwl, hsl⟩ := hI
    have hll : ((xs.take i.toNat).map fun x => [fb x]).length = i.toNat := by rw [List.length_map, List.length_take]; omega
    have e1 : i < xs.length → (xs.take (i + 1).toNat).map (fun x => [fb x]) = (xs.take i.toNat).map (fun x => [fb x]) ++ [[fb (xs.getD i.toNat 0)]] := fun h => by rw [take_at' 0 h0 h, List.map_append]; rfl
    have e2 : i < xs.length → ((xs.take (i + 1).toNat).map fc).flatMap (fun c => [1, c]) = s ++ [1] ++ [fc (xs.getD i.toNat 0)] := fun h => by rw [take_at' 0 h0 h, List.map_append, List.flatMap_append, ← hs]; simp
    have hne : 0 < i → (xs.take i.toNat).map (fun x => [fb x]) ≠ [] := by intro h e2; rw [e2] at hll; simp at hll; omega
    refine CW.seq ?_
    refine CW.seq ?_
    refine CW.region ?_
    refine W.p O.mv ?_
    refine W.p O.mv ?_
    refine W.p O.lenL ?_
    refine W.p O.lss ?_
    refine W.p O.mv ?_
    refine W.p O.mv ?_
    refine W.p O.lss ?_
    refine W.p O.pkB ?_
    refine WL.nil (Q.tn ?_)
    refine CW.cond (vt rfl) (fun hc2 => ?_) (fun hc2 => ?_)
    · try simp only [Bool.cond_true_left, Bool.cond_false_right, Bool.or_eq_true, Bool.or_eq_false_iff, Bool.and_eq_true, Bool.and_eq_false_iff, decide_eq_true_eq, decide_eq_false_iff_not, Bool.not_eq_true', Bool.not_eq_false'] at hc2
      refine CW.skip (Q.tn ?_)
      refine CW.seq ?_
      refine CW.block ?_
      refine CW.seq ?_
      refine CW.region ?_
      refine W.p O.mv ?_
      refine W.p O.mv ?_
      refine W.p O.ixA ?_
      refine W.p O.ldE ?_
      refine W.p (O.andM 8 256 (h := by decide) (hq := by decide) (hM := by decide)) ?_
      refine W.p O.rem ?_
      first | refine W.p O.addN ?_ | refine W.p O.add ?_
      refine W.p O.cvI8 ?_
      refine W.p O.as ?_
      refine WL.nil (Q.tn ?_)
      refine CW.seq ?_
      refine CW.seq ?_
      refine CW.region ?_
      refine W.p O.mv ?_
      refine W.p O.gtr ?_
      refine WL.nil (Q.tn ?_)
      refine CW.cond (vt rfl) (fun hc3 => ?_) (fun hc3 => ?_)
      · try simp only [Bool.cond_true_left, Bool.cond_false_right, Bool.or_eq_true, Bool.or_eq_false_iff, Bool.and_eq_true, Bool.and_eq_false_iff, decide_eq_true_eq, decide_eq_false_iff_not, Bool.not_eq_true', Bool.not_eq_false'] at hc3
        refine CW.region ?_
        refine W.p O.mv ?_
        refine W.p O.addS ?_
        refine W.p O.as ?_
        refine WL.nil (Q.tn ?_)
        refine CW.seq ?_
        refine CW.region ?_
        refine W.p O.mv ?_
        refine W.p O.mv ?_
        refine W.bs encB [_] rfl (PV.cons (vt rfl) (PV.nil)) rfl rfl rfl (by decide) rfl fun b1 => ?_
        refine W.p (O.cvRow ⟨rfl, rfl⟩ (vt rfl) (by first | rfl | omega) (fun _ => ⟨_, rfl⟩)) ?_
        refine W.p O.addS ?_
        refine W.p O.as ?_
        refine WL.nil (Q.tn ?_)
        refine CW.seq ?_
        refine CW.seq ?_
        refine CW.region ?_
        refine W.p O.mv ?_
        refine W.p O.mv ?_
        refine W.p O.ixA ?_
        refine W.p O.ldE ?_
        refine W.p O.shr ?_
        refine W.p (O.andM 1 2 (h := by decide) (hq := by decide) (hM := by decide)) ?_
        refine W.p O.eqI ?_
        refine WL.nil (Q.tn ?_)
        refine CW.cond (vt rfl) (fun hc4 => ?_) (fun hc4 => ?_)
        · try simp only [Bool.cond_true_left, Bool.cond_false_right, Bool.or_eq_true, Bool.or_eq_false_iff, Bool.and_eq_true, Bool.and_eq_false_iff, decide_eq_true_eq, decide_eq_false_iff_not, Bool.not_eq_true', Bool.not_eq_false'] at hc4
          refine CW.region ?_
          refine W.p O.mv ?_
          refine W.p O.sub ?_
          first | rw [great_byte _ hc4] | rw [great_byte _ hc5]
          refine W.p O.as ?_
          refine WL.nil (Q.tn ?_)
          refine CW.region ?_
          refine W.p O.mv ?_
          refine W.p O.addS ?_
          refine W.p O.mv ?_
          refine W.bs encB [_] rfl (PV.cons (vt rfl) (PV.nil)) rfl rfl rfl (by decide) rfl fun b2 => ?_
          refine W.p (O.cvRow ⟨rfl, rfl⟩ (vt rfl) (by first | rfl | omega) (fun _ => ⟨_, rfl⟩)) ?_
          refine W.p O.addS ?_
          refine W.p O.as ?_
          refine WL.nil (Q.bn (Q.tn ?_))
          refine CW.region ?_
          refine W.p O.mv ?_
          first | refine W.p O.addN ?_ | refine W.p O.add ?_
          refine W.p O.as ?_
          refine WL.nil (Q.tn ?_)
          refine ⟨(_, _, _), ?_, ?_, (by repeat (first | exact trivial | refine ⟨rfl, ?_⟩ | refine ⟨by (simp only [List.length_set]; rfl), ?_⟩)), (by repeat (first | exact List.Sublist.refl _ | exact List.sublist_append_left _ _ | exact List.nil_sublist _ | refine List.Sublist.append (List.Sublist.refl _) ?_ | apply List.Sublist.cons₂ | apply List.Sublist.cons | refine List.Sublist.trans ?_ (List.sublist_append_right _ _)))⟩
          · try dsimp only
            refine ⟨by omega, by omega, by omega, ?_, by rw [e2 hc2.1], by simp only [List.length_append, List.length_cons, List.length_nil]; omega, by simp only [List.length_append, List.length_cons, List.length_nil]; omega⟩
            rw [e1 hc2.1, joinD_app (hne hc3), hnm]; rfl
          · try dsimp only
            omega
        · try simp only [Bool.cond_true_left, Bool.cond_false_right, Bool.or_eq_true, Bool.or_eq_false_iff, Bool.and_eq_true, Bool.and_eq_false_iff, decide_eq_true_eq, decide_eq_false_iff_not, Bool.not_eq_true', Bool.not_eq_false'] at hc4
          refine CW.skip (Q.tn ?_)
          refine CW.region ?_
          refine W.p O.mv ?_
          refine W.p O.addS ?_
          refine W.p O.mv ?_
          refine W.bs encB [_] rfl (PV.cons (vt rfl) (PV.nil)) rfl rfl rfl (by decide) rfl fun b3 => ?_
          refine W.p (O.cvRow ⟨rfl, rfl⟩ (vt rfl) (by first | rfl | omega) (fun _ => ⟨_, rfl⟩)) ?_
          refine W.p O.addS ?_
          refine W.p O.as ?_
          refine WL.nil (Q.bn (Q.tn ?_))
          refine CW.region ?_
          refine W.p O.mv ?_
          first | refine W.p O.addN ?_ | refine W.p O.add ?_
          refine W.p O.as ?_
          refine WL.nil (Q.tn ?_)
          refine ⟨(_, _, _), ?_, ?_, (by repeat (first | exact trivial | refine ⟨rfl, ?_⟩ | refine ⟨by (simp only [List.length_set]; rfl), ?_⟩)), (by repeat (first | exact List.Sublist.refl _ | exact List.sublist_append_left _ _ | exact List.nil_sublist _ | refine List.Sublist.append (List.Sublist.refl _) ?_ | apply List.Sublist.cons₂ | apply List.Sublist.cons | refine List.Sublist.trans ?_ (List.sublist_append_right _ _)))⟩
          · try dsimp only
            refine ⟨by omega, by omega, by omega, ?_, by rw [e2 hc2.1, fc_small hc4], by simp only [List.length_append, List.length_cons, List.length_nil]; omega, by simp only [List.length_append, List.length_cons, List.length_nil]; omega⟩
            rw [e1 hc2.1, joinD_app (hne hc3), hnm]; rfl
          · try dsimp only
            omega
      · try simp only [Bool.cond_true_left, Bool.cond_false_right, Bool.or_eq_true, Bool.or_eq_false_iff, Bool.and_eq_true, Bool.and_eq_false_iff, decide_eq_true_eq, decide_eq_false_iff_not, Bool.not_eq_true', Bool.not_eq_false'] at hc3
        refine CW.skip (Q.tn ?_)
        refine CW.seq ?_
        refine CW.region ?_
        refine W.p O.mv ?_
        refine W.p O.mv ?_
        refine W.bs encB [_] rfl (PV.cons (vt rfl) (PV.nil)) rfl rfl rfl (by decide) rfl fun b4 => ?_
        refine W.p (O.cvRow ⟨rfl, rfl⟩ (vt rfl) (by first | rfl | omega) (fun _ => ⟨_, rfl⟩)) ?_
        refine W.p O.addS ?_
        refine W.p O.as ?_
        refine WL.nil (Q.tn ?_)
        refine CW.seq ?_
        refine CW.seq ?_
        refine CW.region ?_
        refine W.p O.mv ?_
        refine W.p O.mv ?_
        refine W.p O.ixA ?_
        refine W.p O.ldE ?_
        refine W.p O.shr ?_
        refine W.p (O.andM 1 2 (h := by decide) (hq := by decide) (hM := by decide)) ?_
        refine W.p O.eqI ?_
        refine WL.nil (Q.tn ?_)
        refine CW.cond (vt rfl) (fun hc5 => ?_) (fun hc5 => ?_)
        · try simp only [Bool.cond_true_left, Bool.cond_false_right, Bool.or_eq_true, Bool.or_eq_false_iff, Bool.and_eq_true, Bool.and_eq_false_iff, decide_eq_true_eq, decide_eq_false_iff_not, Bool.not_eq_true', Bool.not_eq_false'] at hc5
          refine CW.region ?_
          refine W.p O.mv ?_
          refine W.p O.sub ?_
          first | rw [great_byte _ hc4] | rw [great_byte _ hc5]
          refine W.p O.as ?_
          refine WL.nil (Q.tn ?_)
          refine CW.region ?_
          refine W.p O.mv ?_
          refine W.p O.addS ?_
          refine W.p O.mv ?_
          refine W.bs encB [_] rfl (PV.cons (vt rfl) (PV.nil)) rfl rfl rfl (by decide) rfl fun b5 => ?_
          refine W.p (O.cvRow ⟨rfl, rfl⟩ (vt rfl) (by first | rfl | omega) (fun _ => ⟨_, rfl⟩)) ?_
          refine W.p O.addS ?_
          refine W.p O.as ?_
          refine WL.nil (Q.bn (Q.tn ?_))
          refine CW.region ?_
          refine W.p O.mv ?_
          first | refine W.p O.addN ?_ | refine W.p O.add ?_
          refine W.p O.as ?_
          refine WL.nil (Q.tn ?_)
          refine ⟨(_, _, _), ?_, ?_, (by repeat (first | exact trivial | refine ⟨rfl, ?_⟩ | refine ⟨by (simp only [List.length_set]; rfl), ?_⟩)), (by repeat (first | exact List.Sublist.refl _ | exact List.sublist_append_left _ _ | exact List.nil_sublist _ | refine List.Sublist.append (List.Sublist.refl _) ?_ | apply List.Sublist.cons₂ | apply List.Sublist.cons | refine List.Sublist.trans ?_ (List.sublist_append_right _ _)))⟩
          · try dsimp only
            have hnil : (xs.take i.toNat).map (fun x => [fb x]) = [] := List.eq_nil_of_length_eq_zero (by omega)
            refine ⟨by omega, by omega, by omega, ?_, by rw [e2 hc2.1], by simp only [List.length_append, List.length_cons, List.length_nil]; omega, by simp only [List.length_append, List.length_cons, List.length_nil]; omega⟩
            rw [e1 hc2.1, hnm, hnil]; rfl
          · try dsimp only
            omega
        · try simp only [Bool.cond_true_left, Bool.cond_false_right, Bool.or_eq_true, Bool.or_eq_false_iff, Bool.and_eq_true, Bool.and_eq_false_iff, decide_eq_true_eq, decide_eq_false_iff_not, Bool.not_eq_true', Bool.not_eq_false'] at hc5
          refine CW.skip (Q.tn ?_)
          refine CW.region ?_
          refine W.p O.mv ?_
          refine W.p O.addS ?_
          refine W.p O.mv ?_
          refine W.bs encB [_] rfl (PV.cons (vt rfl) (PV.nil)) rfl rfl rfl (by decide) rfl fun b6 => ?_
          refine W.p (O.cvRow ⟨rfl, rfl⟩ (vt rfl) (by first | rfl | omega) (fun _ => ⟨_, rfl⟩)) ?_
          refine W.p O.addS ?_
          refine W.p O.as ?_
          refine WL.nil (Q.bn (Q.tn ?_))
          refine CW.region ?_
          refine W.p O.mv ?_
          first | refine W.p O.addN ?_ | refine W.p O.add ?_
          refine W.p O.as ?_
          refine WL.nil (Q.tn ?_)
          refine ⟨(_, _, _), ?_, ?_, (by repeat (first | exact trivial | refine ⟨rfl, ?_⟩ | refine ⟨by (simp only [List.length_set]; rfl), ?_⟩)), (by repeat (first | exact List.Sublist.refl _ | exact List.sublist_append_left _ _ | exact List.nil_sublist _ | refine List.Sublist.append (List.Sublist.refl _) ?_ | apply List.Sublist.cons₂ | apply List.Sublist.cons | refine List.Sublist.trans ?_ (List.sublist_append_right _ _)))⟩
          · try dsimp only
            have hnil : (xs.take i.toNat).map (fun x => [fb x]) = [] := List.eq_nil_of_length_eq_zero (by omega)
            refine ⟨by omega, by omega, by omega, ?_, by rw [e2 hc2.1, fc_small hc5], by simp only [List.length_append, List.length_cons, List.length_nil]; omega, by simp only [List.length_append, List.length_cons, List.length_nil]; omega⟩
            rw [e1 hc2.1, hnm, hnil]; rfl
          · try dsimp only
            omega
    · try simp only [Bool.cond_true_left, Bool.cond_false_right, Bool.or_eq_true, Bool.or_eq_false_iff, Bool.and_eq_true, Bool.and_eq_false_iff, decide_eq_true_eq, decide_eq_false_iff_not, Bool.not_eq_true', Bool.not_eq_false'] at hc2
      refine CW.exit (Q.te (Q.te (Q.bx (Q.tn ?_))))
      refine CW.seq ?_
      refine CW.region ?_
      refine W.p O.mv ?_
      refine W.p O.addS ?_
      refine W.q (O.call ⟨rfl, rfl⟩ (AV.cons (vt rfl) (AV.cons (vt rfl) (AV.nil))) (fun _ w hw => wr_Get _ _ w (by simp only [List.length_append, List.length_cons, List.length_nil]; omega))) ?_
      refine W.p O.mv ?_
      refine W.p O.ext ?_
      refine W.p O.ext ?_
      refine W.p O.ext ?_
      refine W.p O.as ?_
      refine W.p O.as ?_
      refine W.p O.as ?_
      refine WL.nil (Q.tn ?_)
      refine CW.seq ?_
      refine CW.region ?_
      refine W.p O.mv ?_
      refine W.p O.addS ?_
      refine W.p O.addS ?_
      refine W.q (O.call ⟨rfl, rfl⟩ (AV.cons (vt rfl) (AV.cons (vt rfl) (AV.nil))) (fun _ w hw => wr_Get _ _ w (by simp only [List.length_append, List.length_cons, List.length_nil]; omega))) ?_
      refine W.p O.mv ?_
      refine W.p O.ext ?_
      refine W.p O.ext ?_
      refine W.p O.ext ?_
      refine W.p O.as ?_
      refine W.p O.as ?_
      refine W.p O.as ?_
      refine WL.nil (Q.tn ?_)
      refine CW.seq ?_
      refine CW.region ?_
      refine W.p O.mv ?_
      refine W.q (O.call ⟨rfl, rfl⟩ (AV.cons (vt rfl) (AV.nil)) (fun _ w hw => law0_Num _ w)) ?_
      refine W.p O.eqI ?_
      refine W.p O.mv ?_
      refine W.p O.mv ?_
      refine W.p O.mv ?_
      refine W.p O.eqS ?_
      refine W.p O.pkB ?_
      refine W.p O.mv ?_
      refine W.p O.mv ?_
      refine W.p O.mv ?_
      refine W.p O.len ?_
      first | refine W.p O.addN ?_ | refine W.p O.add ?_
      refine W.p O.eqI ?_
      refine W.p O.pkB ?_
      refine W.p O.mv ?_
      refine W.p O.mv ?_
      refine W.q (O.call ⟨rfl, rfl⟩ (AV.cons (vs rfl) (AV.nil)) (fun _ w hw => law0_Num _ w)) ?_
      refine W.p O.eqI ?_
      refine W.p O.pkB ?_
      refine W.p O.mv ?_
      refine W.p O.mv ?_
      refine W.p O.mv ?_
      refine W.p O.eqS ?_
      refine W.p O.pkB ?_
      refine W.p O.as ?_
      refine WL.nil (Q.tn ?_)
      refine CW.ret ?_
      refine ⟨_, [], (RVs.tmp rfl RVs.nil), List.nil_sublist _, ?_⟩
      refine ⟨?_, rfl⟩
      have hx8 : (xs.take i.toNat).length ≤ 8 := by rw [List.length_take]; omega
      have hxl : ((xs.take i.toNat).length : Int) = i := by rw [List.length_take]; omega
      have f1 := folds_law (xs.take i.toNat) hx8 []
      have f2 := folds_law (xs.take i.toNat) hx8 [122, 122]
      rw [← hs, ← hnm, hxl] at f1 f2
      simp only [List.nil_append, List.length_nil, List.length_cons] at f1 f2
      have f1' : getName (s ++ [0]) 0 = _ := f1
      have f2' : getName ([122, 122] ++ s ++ [0]) 2 = _ := f2
      simp only [f1', f2', grE, grN, grT]
      simp [oneOr]; omega
end Go.Proofs.Ytkjcmdgideddnaa
