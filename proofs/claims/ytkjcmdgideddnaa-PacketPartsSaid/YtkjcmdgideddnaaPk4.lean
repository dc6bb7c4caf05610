/- What packet.parts comes to. Condition: the text is not longer than a hundred millions. -/
import Derived.Test.YtkjcmdgideddnaaPk3
set_option linter.unusedVariables false
set_option linter.unusedSimpArgs false
namespace Go.Proofs.Ytkjcmdgideddnaa
open Go Go.RowKit
theorem any_join1 (c : Int) : ∀ (r : List Opt) (o : Opt), ((join1 r o).any fun p => decide (p.code = c)) = ((r.any fun p => decide (p.code = c)) || decide (o.code = c))
  | [], o => by simp [join1]
  | p :: r, o => by
    simp only [join1]
    by_cases h : p.code = o.code
    · rw [if_pos h]; simp only [List.any_cons, h]; cases decide (o.code = c) <;> simp
    · rw [if_neg h]; simp only [List.any_cons, any_join1 c r o]; cases decide (p.code = c) <;> simp
theorem nodupC_join1 : ∀ (r : List Opt) (o : Opt), nodupC r = true → nodupC (join1 r o) = true
  | [], o, _ => by simp [join1, nodupC]
  | p :: r, o, h => by
    simp only [nodupC, Bool.and_eq_true, Bool.not_eq_true'] at h
    simp only [join1]
    by_cases e : p.code = o.code
    · rw [if_pos e]; simp only [nodupC, h.1, h.2]; rfl
    · rw [if_neg e]; simp only [nodupC, any_join1, h.1, nodupC_join1 r o h.2, Bool.false_or]
      rw [decide_eq_false (fun x => e x.symm)]; rfl
theorem nodupC_joinAll : ∀ (ps os : List Opt), nodupC os = true → nodupC (joinAll os ps) = true
  | [], os, h => h
  | p :: r, os, h => nodupC_joinAll r (join1 os p) (nodupC_join1 os p h)
theorem getR_b (s : List UInt8) : (getR s).1.length ≤ s.length ∧ dsum (getR s).1 ≤ s.length ∧ nodupC (getR s).1 = true := by
  unfold getR getOpts
  have h := psR_len s
  unfold psR at h
  cases hp : pieces s with
  | none => simp [dsum, nodupC]
  | some ps =>
    simp only [hp] at h
    have hj := joinAll_len ps []
    have hz : dsum ([] : List Opt) = 0 := rfl
    rw [hz] at hj
    by_cases hm : optsMay (joinAll [] ps) = true
    · have hm2 := hm
      simp only [optsMay, Bool.and_eq_true] at hm2
      simp only [hm, if_true]
      simp only [List.length_nil] at hj
      refine ⟨by omega, by omega, hm2.1.2⟩
    · simp only [hm]; simp [dsum, nodupC]
theorem keep_join1 : ∀ (os : List Opt) (o : Opt), keep (join1 os o) = if is52 o = true then keep os else join1 (keep os) o
  | [], o => by cases h : is52 o <;> simp [join1, keep, h]
  | p :: r, o => by
    have ih := keep_join1 r o
    simp only [join1]
    by_cases e : p.code = o.code
    · rw [if_pos e]
      have e5 : is52 (⟨p.code, p.data ++ o.data⟩ : Opt) = is52 o := by simp only [is52, e]
      have e6 : is52 p = is52 o := by simp only [is52, e]
      cases h : is52 o with
      | true => simp only [keep, List.filter_cons, e5, e6, h]; simp
      | false => simp only [keep, List.filter_cons, e5, e6, h, Bool.not_false, if_true, join1]; rw [if_pos e]; simp
    · rw [if_neg e]
      cases h5 : is52 p with
      | true =>
        have : keep (p :: join1 r o) = keep (join1 r o) := by simp [keep, h5]
        have h2 : keep (p :: r) = keep r := by simp [keep, h5]
        rw [this, h2, ih]
      | false =>
        have : keep (p :: join1 r o) = p :: keep (join1 r o) := by simp [keep, h5]
        have h2 : keep (p :: r) = p :: keep r := by simp [keep, h5]
        rw [this, h2, ih]
        split
        · rfl
        · simp only [join1]; rw [if_neg e]
theorem keep_joinAll : ∀ (ps os : List Opt), keep (joinAll os ps) = joinAll (keep os) (keep ps)
  | [], os => rfl
  | p :: r, os => by
    have : joinAll os (p :: r) = joinAll (join1 os p) r := rfl
    rw [this, keep_joinAll r (join1 os p), keep_join1]
    cases h : is52 p with
    | true => rw [if_pos rfl]; congr 1; simp [keep, h]
    | false => rw [if_neg (by decide)]; have h2 : keep (p :: r) = p :: keep r := by simp [keep, h]
               rw [h2]; rfl
def whP (x : List UInt8 × Bool) : Int := if (x.2 = true ∧ (x.1.length : Int) = 1) ∧ ((x.1.getD 0 0).toNat : Int) ≤ 3 then (x.1.getD 0 0).toNat else 0
theorem whP_rng (x : List UInt8 × Bool) : 0 ≤ whP x ∧ whP x ≤ 3 := by
  unfold whP; split
  · rename_i h; exact ⟨by omega, h.2⟩
  · exact ⟨by omega, by omega⟩
abbrev BTS : List (Int × Int × Int) := [(1, 108, 236), (2, 44, 108)]
abbrev enc3 : (Int × Int × Int) → List Value := fun p => [.int .i64 p.1, .int .i64 p.2.1, .int .i64 p.2.2]
instance : Enc enc3 3 (0, 0, 0) := ⟨fun _ => rfl, by decide⟩
def stepP (s : List UInt8) (wh : Int) (b : Int × Int × Int) (x : List Opt × Int) : List Opt × Int := if bits .and .i64 wh b.1 ≠ 0 ∧ x.2 = 0 then (joinAll x.1 (getR (slc s b.2.1 b.2.2)).1, (getR (slc s b.2.1 b.2.2)).2) else x
def stP (s : List UInt8) (wh : Int) : Nat → List Opt × Int
  | 0 => getR (s.drop 240)
  | n + 1 => stepP s wh (BTS.getD n (0, 0, 0)) (stP s wh n)
def whS (s : List UInt8) : Int := whP (fdF 52 (getR (s.drop 240)).1)
def allP (s : List UInt8) : List Opt := if whS s = 0 then (stP s (whS s) 2).1 else keep (stP s (whS s) 2).1
def ptR (s : List UInt8) : List Opt × Bool := (allP s, decide ((stP s (whS s) 2).2 = 0) && optsMay (allP s))
theorem BTS_at {i : Int} (h0 : 0 ≤ i) (h1 : i < 2) : 0 ≤ (BTS.getD i.toNat (0, 0, 0)).2.1 ∧ (BTS.getD i.toNat (0, 0, 0)).2.1 ≤ (BTS.getD i.toNat (0, 0, 0)).2.2 ∧ (BTS.getD i.toNat (0, 0, 0)).2.2 ≤ 240 := by
  rcases (by omega : i = 0 ∨ i = 1) with rfl | rfl <;> decide
theorem slc_le (s : List UInt8) (i j : Int) : (slc s i j).length ≤ s.length := by simp only [slc, List.length_drop, List.length_take]; omega
theorem CW.permH {P : Program} {n : Nat} {w0 : World} {L0 L L' : Heap} {c : Code} {E : Env} {Q : Post} (hp : L.Perm L') (h : CW P n w0 L0 c E L' Q) : CW P n w0 L0 c E L Q := fun a w ha hw => h a w ha (hw.perm hp.symm)
set_option maxRecDepth 100000 in
theorem pk_parts (s : List UInt8) (w : World) (h1 : 240 ≤ s.length) (hs : s.length ≤ 100000000) : Fn Try.prog 116 [.string (S s)] w [] fun v L' => ∃ o c sp, v = .tuple #[.slice (oa o) (ptR s).1.length c, .bool (ptR s).2] ∧ OwnOk o c 2 (ptR s).1.length (List.length sp) ∧ L' = rowL o 42 (flat encO (ptR s).1 sp) := by
  have hg0 := getR_b (s.drop 240)
  have hd0 : (s.drop 240).length ≤ s.length := by rw [List.length_drop]; omega
  refine Fn.enter Try.func116 rfl rfl rfl rfl (Holds.nil w) ?_
  refine CW.seq ?_
  refine CW.region ?_
  refine W.p O.as ?_
  refine W.p O.as ?_
  refine WL.nil (Q.tn ?_)
  refine CW.seq ?_
  refine CW.region ?_
  refine W.p O.mv ?_
  refine W.p O.slcL ?_
  refine W.callN (first := []) (cap := []) rfl (vt rfl) (AV.cons (vt rfl) (AV.nil)) (fun w hu => opts_Get (s.drop 240) w (by omega)) ?_; rintro _ _ ⟨_, rfl, o11, c11, sp11, rfl, ok11, rfl⟩; have nk11 := ok11.nk
  refine W.p O.mv ?_
  first | refine W.p O.extL ?_ | refine W.p O.ext ?_
  first | refine W.p O.extL ?_ | refine W.p O.ext ?_
  refine W.p O.as ?_
  refine W.p O.as ?_
  refine WL.nil (Q.tn ?_)
  refine CW.seq ?_
  refine CW.region ?_
  refine W.p O.as ?_
  refine WL.nil (Q.tn ?_)
  refine CW.seq ?_
  refine CW.seq ?_
  refine CW.region ?_
  refine W.p O.mv ?_
  refine W.q (O.call ⟨rfl, rfl⟩ (AV.cons (vt rfl) (AV.cons (vt rfl) (AV.nil))) (fun _ w hw => opts_Find (getR (s.drop 240)).1 _ _ _ w (RowL.h _ hw) (by omega))) ?_
  refine W.p O.mv ?_
  first | refine W.p O.extL ?_ | refine W.p O.ext ?_
  first | refine W.p O.extL ?_ | refine W.p O.ext ?_
  refine W.p O.as ?_
  refine W.p O.as ?_
  refine WL.nil (Q.tn ?_)
  refine CW.seq ?_
  refine CW.region ?_
  refine W.p O.mv ?_
  refine W.p O.mv ?_
  refine W.p O.mv ?_
  refine W.p O.len ?_
  refine W.p O.eqI ?_
  refine W.p O.pkB ?_
  refine W.p O.mv ?_
  refine W.p O.mv ?_
  first | refine W.p O.idxS ?_ | refine W.p (O.idxS (h := fun hg => by simp only [cond_true, cond_false, Bool.true_and, Bool.cond_false_right, Bool.cond_true_left, Bool.and_eq_true, Bool.or_eq_true, Bool.or_eq_false_iff, Bool.and_eq_false_iff, Bool.not_eq_true', Bool.not_eq_false', decide_eq_true_eq, decide_eq_false_iff_not, Int.reduceToNat] at *; omega)) ?_
  first | refine W.p O.cvB ?_ | refine W.p O.cv ?_
  refine W.p O.leq ?_
  refine W.p O.pkB ?_
  refine WL.nil (Q.tn ?_)
  refine CW.cond (vt rfl) (fun hc1 => ?_) (fun hc1 => ?_)
  · try simp only [Bool.cond_true_left, Bool.cond_false_right, Bool.or_eq_true, Bool.or_eq_false_iff, Bool.and_eq_true, Bool.and_eq_false_iff, decide_eq_true_eq, decide_eq_false_iff_not, Bool.not_eq_true', Bool.not_eq_false'] at hc1
    refine CW.region ?_
    refine W.p O.mv ?_
    first | refine W.p O.idxS ?_ | refine W.p (O.idxS (h := fun hg => by simp only [cond_true, cond_false, Bool.true_and, Bool.cond_false_right, Bool.cond_true_left, Bool.and_eq_true, Bool.or_eq_true, Bool.or_eq_false_iff, Bool.and_eq_false_iff, Bool.not_eq_true', Bool.not_eq_false', decide_eq_true_eq, decide_eq_false_iff_not, Int.reduceToNat] at *; omega)) ?_
    first | refine W.p O.cvB ?_ | refine W.p O.cv ?_
    refine W.p O.as ?_
    refine WL.nil (Q.tn ?_)
    refine CW.seq ?_
    refine CW.seq ?_
    refine CW.region ?_
    refine W.p (O.bd (hv := PV.cons (vt rfl) (PV.cons (vt rfl) (PV.cons (vt rfl) (PV.nil))))) ?_
    refine W.p (O.bd (hv := PV.cons (vt rfl) (PV.cons (vt rfl) (PV.cons (vt rfl) (PV.nil))))) ?_
    refine W.bs enc3 BTS rfl (PV.cons (vt rfl) (PV.cons (vt rfl) (PV.nil))) rfl rfl rfl (by decide) rfl fun b1 => ?_
    refine W.p O.lenL ?_
    refine W.p O.mv ?_
    refine WL.nil (Q.tn ?_)
    refine CW.block ?_
    refine CW.permH (L' := rowL o11 42 (flat encO (getR (s.drop 240)).1 sp11) ++ [_]) (by rw [List.append_nil]; exact (List.perm_append_singleton _ _).symm) ?_
    refine CW.loop (X := Int × Int × (List Opt) × Int × (Option Nat) × Nat × (List Value) × Nat) (fun ⟨i, wh, al, e, p1, q1, r1, bq⟩ => [(0, true, .string (S s)), (4, true, .slice (oa p1) al.length q1), (5, true, .int .i64 e), (6, true, .int .i64 wh), (40, true, .slice (some ⟨bq, 0, none⟩) 2 2), (41, true, .int .i64 2), (42, true, .int .i64 i)]) (fun ⟨i, wh, al, e, p1, q1, r1, bq⟩ => rowL p1 42 (flat encO al r1) ++ [(bq, .cells (flat enc3 BTS []).toArray 227 (0, 0))]) (fun ⟨i, wh, al, e, p1, q1, r1, bq⟩ => 0 ≤ i ∧ i ≤ 2 ∧ wh = whS s ∧ (al, e) = stP s (whS s) i.toNat ∧ OwnOk p1 q1 2 al.length r1.length ∧ nodupC al = true ∧ al.length ≤ 100000000 * (i + 1) ∧ dsum al ≤ 100000000 * (i + 1)) (fun ⟨i, wh, al, e, p1, q1, r1, bq⟩ => (2 - i).toNat) (0, _, (getR (s.drop 240)).1, (getR (s.drop 240)).2, o11, c11, sp11, _) ?_ (by repeat (first | exact trivial | refine ⟨rfl, ?_⟩ | refine ⟨by (simp only [List.length_set]; rfl), ?_⟩)) (by repeat (first | exact List.Sublist.refl _ | exact List.sublist_append_left _ _ | exact List.nil_sublist _ | refine List.Sublist.append (List.Sublist.refl _) ?_ | apply List.Sublist.cons_cons | apply List.Sublist.cons | refine List.Sublist.trans ?_ (List.sublist_append_right _ _))) ?_
    · refine ⟨by omega, by omega, ?_, rfl, ok11, hg0.2.2, by omega, by omega⟩
      first | (rw [whS, whP, if_pos (show ((fdF 52 (getR (s.drop 240)).1).2 = true ∧ ((fdF 52 (getR (s.drop 240)).1).1.length : Int) = 1) ∧ (((fdF 52 (getR (s.drop 240)).1).1.getD 0 0).toNat : Int) ≤ 3 from hc1)]; rfl) | (rw [whS, whP, if_neg (by rintro ⟨⟨a, b⟩, d⟩; rcases hc1 with (h | h) | h; rw [a] at h; cases h; exact h b; exact h d)])
    rintro ⟨i, wh, al, e, p1, q1, r1, bq⟩ hI
    try dsimp only at hI ⊢
    obtain ⟨h0, h2, hwh, hst, ok, hnd, hll, hds⟩ := hI
    have nk := ok.nk (α := Opt) (xs := al)
    have hbt := fun h => BTS_at h0 (i := i) h
    have hgb := getR_b (slc s (BTS.getD i.toNat (0, 0, 0)).2.1 (BTS.getD i.toNat (0, 0, 0)).2.2)
    have hsl := slc_le s (BTS.getD i.toNat (0, 0, 0)).2.1 (BTS.getD i.toNat (0, 0, 0)).2.2
    refine CW.seq ?_
    refine CW.region ?_
    refine W.p O.lss ?_
    refine WL.nil (Q.tn ?_)
    refine CW.seq ?_
    refine CW.cond (vt rfl) (fun hc2 => ?_) (fun hc2 => ?_)
    · try simp only [Bool.cond_true_left, Bool.cond_false_right, Bool.or_eq_true, Bool.or_eq_false_iff, Bool.and_eq_true, Bool.and_eq_false_iff, decide_eq_true_eq, decide_eq_false_iff_not, Bool.not_eq_true', Bool.not_eq_false'] at hc2
      refine CW.skip (Q.tn ?_)
      refine CW.seq ?_
      refine CW.block ?_
      refine CW.seq ?_
      refine CW.region ?_
      refine W.p O.ixA ?_
      refine W.p O.ldsE ?_
      refine W.al rfl rfl fun b2 => ?_
      refine W.st (vt rfl) (vt rfl) rfl ?_
      refine WL.nil (Q.tn ?_)
      refine CW.seq ?_
      refine CW.region ?_
      refine W.p O.mv ?_
      first | refine W.p O.fb ?_ | refine W.p O.fa ?_
      refine W.p O.ld ?_
      refine W.p O.and ?_
      refine W.p O.neI ?_
      refine W.p O.mv ?_
      refine W.p O.mv ?_
      refine W.p O.eqI ?_
      refine W.p O.pkB ?_
      refine WL.nil (Q.tn ?_)
      refine CW.cond (vt rfl) (fun hc3 => ?_) (fun hc3 => ?_)
      · try simp only [Bool.cond_true_left, Bool.cond_false_right, Bool.or_eq_true, Bool.or_eq_false_iff, Bool.and_eq_true, Bool.and_eq_false_iff, decide_eq_true_eq, decide_eq_false_iff_not, Bool.not_eq_true', Bool.not_eq_false'] at hc3
        refine CW.seq ?_
        refine CW.region ?_
        refine W.p O.as ?_
        refine WL.nil (Q.tn ?_)
        refine CW.seq ?_
        refine CW.region ?_
        refine W.p O.mv ?_
        first | refine W.p O.fb ?_ | refine W.p O.fa ?_
        refine W.p O.ld ?_
        first | refine W.p O.fb ?_ | refine W.p O.fa ?_
        refine W.p O.ld ?_
        refine W.p O.slc ?_
        refine W.callN (first := []) (cap := []) rfl (vt rfl) (AV.cons (vt rfl) (AV.nil)) (fun w hu => opts_Get (slc s (BTS.getD i.toNat (0, 0, 0)).2.1 (BTS.getD i.toNat (0, 0, 0)).2.2) w (by omega)) ?_; rintro _ _ ⟨_, rfl, o12, c12, sp12, rfl, ok12, rfl⟩; have nk12 := ok12.nk
        refine W.p O.mv ?_
        first | refine W.p O.extL ?_ | refine W.p O.ext ?_
        first | refine W.p O.extL ?_ | refine W.p O.ext ?_
        refine W.p O.as ?_
        refine W.p O.as ?_
        refine WL.nil (Q.tn ?_)
        refine CW.region ?_
        refine W.p O.mv ?_
        refine W.p O.mv ?_
        refine W.callN (first := []) (cap := []) rfl (vt rfl) (AV.cons (vt rfl) (AV.cons (vt rfl) (AV.nil))) (fun w hu => opts_Join al (getR (slc s (BTS.getD i.toNat (0, 0, 0)).2.1 (BTS.getD i.toNat (0, 0, 0)).2.2)).1 _ _ _ _ w (RowL.h _ hu) (RowL.h _ hu) (by omega) (by omega) (by omega) hnd) ?_; rintro _ _ ⟨o13, c13, sp13, rfl, ok13, rfl⟩; have nk13 := ok13.nk
        refine W.p O.as ?_
        refine WL.nil (Q.bn (Q.tn ?_))
        refine CW.region ?_
        first | refine W.p O.addN ?_ | refine W.p O.add ?_
        refine W.p O.mv ?_
        refine WL.nil (Q.tn ?_)
        refine ⟨(_, _, _, _, _, _, _, _), ?_, ?_, (by repeat (first | exact trivial | refine ⟨rfl, ?_⟩ | refine ⟨by (simp only [List.length_set]; rfl), ?_⟩)), (by repeat (first | exact List.Sublist.refl _ | exact List.sublist_append_left _ _ | exact List.nil_sublist _ | refine List.Sublist.append (List.Sublist.refl _) ?_ | apply List.Sublist.cons_cons | apply List.Sublist.cons | refine List.Sublist.trans ?_ (List.sublist_append_right _ _)))⟩
        · try dsimp only
          have hjl := joinAll_len (getR (slc s (BTS.getD i.toNat (0, 0, 0)).2.1 (BTS.getD i.toNat (0, 0, 0)).2.2)).1 al
          have hj1 : ((joinAll al (getR (slc s (BTS.getD i.toNat (0, 0, 0)).2.1 (BTS.getD i.toNat (0, 0, 0)).2.2)).1).length : Int) ≤ 100000000 * (i + 1 + 1) := by omega
          have hj2 : (dsum (joinAll al (getR (slc s (BTS.getD i.toNat (0, 0, 0)).2.1 (BTS.getD i.toNat (0, 0, 0)).2.2)).1) : Int) ≤ 100000000 * (i + 1 + 1) := by omega
          refine ⟨by omega, by omega, hwh, ?_, by assumption, nodupC_joinAll _ _ hnd, hj1, hj2⟩
          rw [show (i + 1).toNat = i.toNat + 1 by omega, stP, ← hst, stepP, if_pos (by rw [← hwh]; exact hc3)]; rfl
        · try dsimp only
          omega
      try simp only [Bool.cond_true_left, Bool.cond_false_right, Bool.or_eq_true, Bool.or_eq_false_iff, Bool.and_eq_true, Bool.and_eq_false_iff, decide_eq_true_eq, decide_eq_false_iff_not, Bool.not_eq_true', Bool.not_eq_false'] at hc3
      refine CW.skip (Q.bn (Q.tn ?_))
      refine CW.region ?_
      first | refine W.p O.addN ?_ | refine W.p O.add ?_
      refine W.p O.mv ?_
      refine WL.nil (Q.tn ?_)
      refine ⟨(_, _, _, _, _, _, _, _), ?_, ?_, (by repeat (first | exact trivial | refine ⟨rfl, ?_⟩ | refine ⟨by (simp only [List.length_set]; rfl), ?_⟩)), (by repeat (first | exact List.Sublist.refl _ | exact List.sublist_append_left _ _ | exact List.nil_sublist _ | refine List.Sublist.append (List.Sublist.refl _) ?_ | apply List.Sublist.cons_cons | apply List.Sublist.cons | refine List.Sublist.trans ?_ (List.sublist_append_right _ _)))⟩
      · try dsimp only
        refine ⟨by omega, by omega, hwh, ?_, ok, hnd, by omega, by omega⟩
        rw [show (i + 1).toNat = i.toNat + 1 by omega, stP, ← hst, stepP, if_neg (by rw [← hwh]; rintro ⟨a, b⟩; rcases hc3 with h | h; exact a h; exact h b)]
      · try dsimp only
        omega
    try simp only [Bool.cond_true_left, Bool.cond_false_right, Bool.or_eq_true, Bool.or_eq_false_iff, Bool.and_eq_true, Bool.and_eq_false_iff, decide_eq_true_eq, decide_eq_false_iff_not, Bool.not_eq_true', Bool.not_eq_false'] at hc2
    have h2s : stP s (whS s) 2 = (al, e) := by rw [hst, show i.toNat = 2 by omega]
    refine CW.exit (Q.te (Q.te (Q.bx (Q.tn ?_))))
    refine CW.seq ?_
    refine CW.seq ?_
    refine CW.region ?_
    refine W.p O.mv ?_
    refine W.p O.neI ?_
    refine WL.nil (Q.tn ?_)
    refine CW.cond (vt rfl) (fun hc4 => ?_) (fun hc4 => ?_)
    · try simp only [Bool.cond_true_left, Bool.cond_false_right, Bool.or_eq_true, Bool.or_eq_false_iff, Bool.and_eq_true, Bool.and_eq_false_iff, decide_eq_true_eq, decide_eq_false_iff_not, Bool.not_eq_true', Bool.not_eq_false'] at hc4
      refine CW.region ?_
      refine W.p O.mv ?_
      refine W.callS (first := []) (cap := []) (rowL p1 42 (flat encO al r1)) rfl (vt rfl) (AV.cons (vt rfl) (AV.cons (vt rfl) (AV.nil))) (fun w hu hh => del_Opts al p1 q1 r1 w ok hh (by omega)) ?_; rintro _ _ ⟨spd, rfl, okd, rfl⟩; have nkd := okd.nk (α := Opt) (xs := keep al); have hkl := keep_len al
      refine W.p O.as ?_
      refine WL.nil (Q.tn ?_)
      refine CW.seq ?_
      refine CW.region ?_
      refine W.p O.mv ?_
      refine W.p O.mv ?_
      refine W.p O.eqI ?_
      refine W.p O.mv ?_
      refine W.p O.mv ?_
      refine W.q (O.call ⟨rfl, rfl⟩ (AV.cons (vs rfl) (AV.nil)) (fun _ w hw => opts_May _ _ _ w (RowL.h _ hw) (by omega))) ?_
      refine W.p O.pkB ?_
      refine W.p O.as ?_
      refine W.p O.as ?_
      refine WL.nil (Q.tn ?_)
      refine CW.ret ?_
      refine ⟨_, rowL p1 42 (flat encO (keep al) spd), (RVs.tmp rfl (RVs.tmp rfl RVs.nil)), (by repeat (first | exact List.Sublist.refl _ | exact hSub _ | exact List.sublist_append_left _ _ | exact List.nil_sublist _ | refine List.Sublist.append (List.Sublist.refl _) ?_ | apply List.Sublist.cons_cons | apply List.Sublist.cons | exact List.sublist_append_left _ _ | refine List.Sublist.trans ?_ (List.sublist_append_right _ _))), ?_⟩
      have hA : allP s = keep al := by rw [allP, if_neg (by rw [← hwh]; exact hc4), h2s]
      rw [ptR, hA, h2s]; exact ⟨p1, q1, spd, by cases decide (e = 0) <;> rfl, okd, rfl⟩
    try simp only [Bool.cond_true_left, Bool.cond_false_right, Bool.or_eq_true, Bool.or_eq_false_iff, Bool.and_eq_true, Bool.and_eq_false_iff, decide_eq_true_eq, decide_eq_false_iff_not, Bool.not_eq_true', Bool.not_eq_false'] at hc4
    refine CW.skip (Q.tn ?_)
    refine CW.seq ?_
    refine CW.region ?_
    refine W.p O.mv ?_
    refine W.p O.mv ?_
    refine W.p O.eqI ?_
    refine W.p O.mv ?_
    refine W.p O.mv ?_
    refine W.q (O.call ⟨rfl, rfl⟩ (AV.cons (vs rfl) (AV.nil)) (fun _ w hw => opts_May _ _ _ w (RowL.h _ hw) (by omega))) ?_
    refine W.p O.pkB ?_
    refine W.p O.as ?_
    refine W.p O.as ?_
    refine WL.nil (Q.tn ?_)
    refine CW.ret ?_
    refine ⟨_, rowL p1 42 (flat encO al r1), (RVs.tmp rfl (RVs.tmp rfl RVs.nil)), (by repeat (first | exact List.Sublist.refl _ | exact hSub _ | exact List.sublist_append_left _ _ | exact List.nil_sublist _ | refine List.Sublist.append (List.Sublist.refl _) ?_ | apply List.Sublist.cons_cons | apply List.Sublist.cons | exact List.sublist_append_left _ _ | refine List.Sublist.trans ?_ (List.sublist_append_right _ _))), ?_⟩
    have hA : allP s = al := by rw [allP, if_pos (by rw [← hwh]; exact hc4), h2s]
    rw [ptR, hA, h2s]; exact ⟨p1, q1, r1, by cases decide (e = 0) <;> rfl, ok, rfl⟩
  try simp only [Bool.cond_true_left, Bool.cond_false_right, Bool.or_eq_true, Bool.or_eq_false_iff, Bool.and_eq_true, Bool.and_eq_false_iff, decide_eq_true_eq, decide_eq_false_iff_not, Bool.not_eq_true', Bool.not_eq_false'] at hc1
  refine CW.skip (Q.tn ?_)
  refine CW.seq ?_
  refine CW.seq ?_
  refine CW.region ?_
  refine W.p (O.bd (hv := PV.cons (vt rfl) (PV.cons (vt rfl) (PV.cons (vt rfl) (PV.nil))))) ?_
  refine W.p (O.bd (hv := PV.cons (vt rfl) (PV.cons (vt rfl) (PV.cons (vt rfl) (PV.nil))))) ?_
  refine W.bs enc3 BTS rfl (PV.cons (vt rfl) (PV.cons (vt rfl) (PV.nil))) rfl rfl rfl (by decide) rfl fun b3 => ?_
  refine W.p O.lenL ?_
  refine W.p O.mv ?_
  refine WL.nil (Q.tn ?_)
  refine CW.block ?_
  refine CW.permH (L' := rowL o11 42 (flat encO (getR (s.drop 240)).1 sp11) ++ [_]) (by rw [List.append_nil]; exact (List.perm_append_singleton _ _).symm) ?_
  refine CW.loop (X := Int × Int × (List Opt) × Int × (Option Nat) × Nat × (List Value) × Nat) (fun ⟨i, wh, al, e, p1, q1, r1, bq⟩ => [(0, true, .string (S s)), (4, true, .slice (oa p1) al.length q1), (5, true, .int .i64 e), (6, true, .int .i64 wh), (40, true, .slice (some ⟨bq, 0, none⟩) 2 2), (41, true, .int .i64 2), (42, true, .int .i64 i)]) (fun ⟨i, wh, al, e, p1, q1, r1, bq⟩ => rowL p1 42 (flat encO al r1) ++ [(bq, .cells (flat enc3 BTS []).toArray 227 (0, 0))]) (fun ⟨i, wh, al, e, p1, q1, r1, bq⟩ => 0 ≤ i ∧ i ≤ 2 ∧ wh = whS s ∧ (al, e) = stP s (whS s) i.toNat ∧ OwnOk p1 q1 2 al.length r1.length ∧ nodupC al = true ∧ al.length ≤ 100000000 * (i + 1) ∧ dsum al ≤ 100000000 * (i + 1)) (fun ⟨i, wh, al, e, p1, q1, r1, bq⟩ => (2 - i).toNat) (0, _, (getR (s.drop 240)).1, (getR (s.drop 240)).2, o11, c11, sp11, _) ?_ (by repeat (first | exact trivial | refine ⟨rfl, ?_⟩ | refine ⟨by (simp only [List.length_set]; rfl), ?_⟩)) (by repeat (first | exact List.Sublist.refl _ | exact List.sublist_append_left _ _ | exact List.nil_sublist _ | refine List.Sublist.append (List.Sublist.refl _) ?_ | apply List.Sublist.cons_cons | apply List.Sublist.cons | refine List.Sublist.trans ?_ (List.sublist_append_right _ _))) ?_
  · refine ⟨by omega, by omega, ?_, rfl, ok11, hg0.2.2, by omega, by omega⟩
    first | (rw [whS, whP, if_pos (show ((fdF 52 (getR (s.drop 240)).1).2 = true ∧ ((fdF 52 (getR (s.drop 240)).1).1.length : Int) = 1) ∧ (((fdF 52 (getR (s.drop 240)).1).1.getD 0 0).toNat : Int) ≤ 3 from hc1)]; rfl) | (rw [whS, whP, if_neg (by rintro ⟨⟨a, b⟩, d⟩; rcases hc1 with (h | h) | h; rw [a] at h; cases h; exact h b; exact h d)])
  rintro ⟨i, wh, al, e, p1, q1, r1, bq⟩ hI
  try dsimp only at hI ⊢
  obtain ⟨h0, h2, hwh, hst, ok, hnd, hll, hds⟩ := hI
  have nk := ok.nk (α := Opt) (xs := al)
  have hbt := fun h => BTS_at h0 (i := i) h
  have hgb := getR_b (slc s (BTS.getD i.toNat (0, 0, 0)).2.1 (BTS.getD i.toNat (0, 0, 0)).2.2)
  have hsl := slc_le s (BTS.getD i.toNat (0, 0, 0)).2.1 (BTS.getD i.toNat (0, 0, 0)).2.2
  refine CW.seq ?_
  refine CW.region ?_
  refine W.p O.lss ?_
  refine WL.nil (Q.tn ?_)
  refine CW.seq ?_
  refine CW.cond (vt rfl) (fun hc5 => ?_) (fun hc5 => ?_)
  · try simp only [Bool.cond_true_left, Bool.cond_false_right, Bool.or_eq_true, Bool.or_eq_false_iff, Bool.and_eq_true, Bool.and_eq_false_iff, decide_eq_true_eq, decide_eq_false_iff_not, Bool.not_eq_true', Bool.not_eq_false'] at hc5
    refine CW.skip (Q.tn ?_)
    refine CW.seq ?_
    refine CW.block ?_
    refine CW.seq ?_
    refine CW.region ?_
    refine W.p O.ixA ?_
    refine W.p O.ldsE ?_
    refine W.al rfl rfl fun b4 => ?_
    refine W.st (vt rfl) (vt rfl) rfl ?_
    refine WL.nil (Q.tn ?_)
    refine CW.seq ?_
    refine CW.region ?_
    refine W.p O.mv ?_
    first | refine W.p O.fb ?_ | refine W.p O.fa ?_
    refine W.p O.ld ?_
    refine W.p O.and ?_
    refine W.p O.neI ?_
    refine W.p O.mv ?_
    refine W.p O.mv ?_
    refine W.p O.eqI ?_
    refine W.p O.pkB ?_
    refine WL.nil (Q.tn ?_)
    refine CW.cond (vt rfl) (fun hc6 => ?_) (fun hc6 => ?_)
    · try simp only [Bool.cond_true_left, Bool.cond_false_right, Bool.or_eq_true, Bool.or_eq_false_iff, Bool.and_eq_true, Bool.and_eq_false_iff, decide_eq_true_eq, decide_eq_false_iff_not, Bool.not_eq_true', Bool.not_eq_false'] at hc6
      refine CW.seq ?_
      refine CW.region ?_
      refine W.p O.as ?_
      refine WL.nil (Q.tn ?_)
      refine CW.seq ?_
      refine CW.region ?_
      refine W.p O.mv ?_
      first | refine W.p O.fb ?_ | refine W.p O.fa ?_
      refine W.p O.ld ?_
      first | refine W.p O.fb ?_ | refine W.p O.fa ?_
      refine W.p O.ld ?_
      refine W.p O.slc ?_
      refine W.callN (first := []) (cap := []) rfl (vt rfl) (AV.cons (vt rfl) (AV.nil)) (fun w hu => opts_Get (slc s (BTS.getD i.toNat (0, 0, 0)).2.1 (BTS.getD i.toNat (0, 0, 0)).2.2) w (by omega)) ?_; rintro _ _ ⟨_, rfl, o12, c12, sp12, rfl, ok12, rfl⟩; have nk12 := ok12.nk
      refine W.p O.mv ?_
      first | refine W.p O.extL ?_ | refine W.p O.ext ?_
      first | refine W.p O.extL ?_ | refine W.p O.ext ?_
      refine W.p O.as ?_
      refine W.p O.as ?_
      refine WL.nil (Q.tn ?_)
      refine CW.region ?_
      refine W.p O.mv ?_
      refine W.p O.mv ?_
      refine W.callN (first := []) (cap := []) rfl (vt rfl) (AV.cons (vt rfl) (AV.cons (vt rfl) (AV.nil))) (fun w hu => opts_Join al (getR (slc s (BTS.getD i.toNat (0, 0, 0)).2.1 (BTS.getD i.toNat (0, 0, 0)).2.2)).1 _ _ _ _ w (RowL.h _ hu) (RowL.h _ hu) (by omega) (by omega) (by omega) hnd) ?_; rintro _ _ ⟨o13, c13, sp13, rfl, ok13, rfl⟩; have nk13 := ok13.nk
      refine W.p O.as ?_
      refine WL.nil (Q.bn (Q.tn ?_))
      refine CW.region ?_
      first | refine W.p O.addN ?_ | refine W.p O.add ?_
      refine W.p O.mv ?_
      refine WL.nil (Q.tn ?_)
      refine ⟨(_, _, _, _, _, _, _, _), ?_, ?_, (by repeat (first | exact trivial | refine ⟨rfl, ?_⟩ | refine ⟨by (simp only [List.length_set]; rfl), ?_⟩)), (by repeat (first | exact List.Sublist.refl _ | exact List.sublist_append_left _ _ | exact List.nil_sublist _ | refine List.Sublist.append (List.Sublist.refl _) ?_ | apply List.Sublist.cons_cons | apply List.Sublist.cons | refine List.Sublist.trans ?_ (List.sublist_append_right _ _)))⟩
      · try dsimp only
        have hjl := joinAll_len (getR (slc s (BTS.getD i.toNat (0, 0, 0)).2.1 (BTS.getD i.toNat (0, 0, 0)).2.2)).1 al
        have hj1 : ((joinAll al (getR (slc s (BTS.getD i.toNat (0, 0, 0)).2.1 (BTS.getD i.toNat (0, 0, 0)).2.2)).1).length : Int) ≤ 100000000 * (i + 1 + 1) := by omega
        have hj2 : (dsum (joinAll al (getR (slc s (BTS.getD i.toNat (0, 0, 0)).2.1 (BTS.getD i.toNat (0, 0, 0)).2.2)).1) : Int) ≤ 100000000 * (i + 1 + 1) := by omega
        refine ⟨by omega, by omega, hwh, ?_, by assumption, nodupC_joinAll _ _ hnd, hj1, hj2⟩
        rw [show (i + 1).toNat = i.toNat + 1 by omega, stP, ← hst, stepP, if_pos (by rw [← hwh]; exact hc6)]; rfl
      · try dsimp only
        omega
    try simp only [Bool.cond_true_left, Bool.cond_false_right, Bool.or_eq_true, Bool.or_eq_false_iff, Bool.and_eq_true, Bool.and_eq_false_iff, decide_eq_true_eq, decide_eq_false_iff_not, Bool.not_eq_true', Bool.not_eq_false'] at hc6
    refine CW.skip (Q.bn (Q.tn ?_))
    refine CW.region ?_
    first | refine W.p O.addN ?_ | refine W.p O.add ?_
    refine W.p O.mv ?_
    refine WL.nil (Q.tn ?_)
    refine ⟨(_, _, _, _, _, _, _, _), ?_, ?_, (by repeat (first | exact trivial | refine ⟨rfl, ?_⟩ | refine ⟨by (simp only [List.length_set]; rfl), ?_⟩)), (by repeat (first | exact List.Sublist.refl _ | exact List.sublist_append_left _ _ | exact List.nil_sublist _ | refine List.Sublist.append (List.Sublist.refl _) ?_ | apply List.Sublist.cons_cons | apply List.Sublist.cons | refine List.Sublist.trans ?_ (List.sublist_append_right _ _)))⟩
    · try dsimp only
      refine ⟨by omega, by omega, hwh, ?_, ok, hnd, by omega, by omega⟩
      rw [show (i + 1).toNat = i.toNat + 1 by omega, stP, ← hst, stepP, if_neg (by rw [← hwh]; rintro ⟨a, b⟩; rcases hc6 with h | h; exact a h; exact h b)]
    · try dsimp only
      omega
  try simp only [Bool.cond_true_left, Bool.cond_false_right, Bool.or_eq_true, Bool.or_eq_false_iff, Bool.and_eq_true, Bool.and_eq_false_iff, decide_eq_true_eq, decide_eq_false_iff_not, Bool.not_eq_true', Bool.not_eq_false'] at hc5
  have h2s : stP s (whS s) 2 = (al, e) := by rw [hst, show i.toNat = 2 by omega]
  refine CW.exit (Q.te (Q.te (Q.bx (Q.tn ?_))))
  refine CW.seq ?_
  refine CW.seq ?_
  refine CW.region ?_
  refine W.p O.mv ?_
  refine W.p O.neI ?_
  refine WL.nil (Q.tn ?_)
  refine CW.cond (vt rfl) (fun hc7 => ?_) (fun hc7 => ?_)
  · try simp only [Bool.cond_true_left, Bool.cond_false_right, Bool.or_eq_true, Bool.or_eq_false_iff, Bool.and_eq_true, Bool.and_eq_false_iff, decide_eq_true_eq, decide_eq_false_iff_not, Bool.not_eq_true', Bool.not_eq_false'] at hc7
    refine CW.region ?_
    refine W.p O.mv ?_
    refine W.callS (first := []) (cap := []) (rowL p1 42 (flat encO al r1)) rfl (vt rfl) (AV.cons (vt rfl) (AV.cons (vt rfl) (AV.nil))) (fun w hu hh => del_Opts al p1 q1 r1 w ok hh (by omega)) ?_; rintro _ _ ⟨spd, rfl, okd, rfl⟩; have nkd := okd.nk (α := Opt) (xs := keep al); have hkl := keep_len al
    refine W.p O.as ?_
    refine WL.nil (Q.tn ?_)
    refine CW.seq ?_
    refine CW.region ?_
    refine W.p O.mv ?_
    refine W.p O.mv ?_
    refine W.p O.eqI ?_
    refine W.p O.mv ?_
    refine W.p O.mv ?_
    refine W.q (O.call ⟨rfl, rfl⟩ (AV.cons (vs rfl) (AV.nil)) (fun _ w hw => opts_May _ _ _ w (RowL.h _ hw) (by omega))) ?_
    refine W.p O.pkB ?_
    refine W.p O.as ?_
    refine W.p O.as ?_
    refine WL.nil (Q.tn ?_)
    refine CW.ret ?_
    refine ⟨_, rowL p1 42 (flat encO (keep al) spd), (RVs.tmp rfl (RVs.tmp rfl RVs.nil)), (by repeat (first | exact List.Sublist.refl _ | exact hSub _ | exact List.sublist_append_left _ _ | exact List.nil_sublist _ | refine List.Sublist.append (List.Sublist.refl _) ?_ | apply List.Sublist.cons_cons | apply List.Sublist.cons | exact List.sublist_append_left _ _ | refine List.Sublist.trans ?_ (List.sublist_append_right _ _))), ?_⟩
    have hA : allP s = keep al := by rw [allP, if_neg (by rw [← hwh]; exact hc7), h2s]
    rw [ptR, hA, h2s]; exact ⟨p1, q1, spd, by cases decide (e = 0) <;> rfl, okd, rfl⟩
  try simp only [Bool.cond_true_left, Bool.cond_false_right, Bool.or_eq_true, Bool.or_eq_false_iff, Bool.and_eq_true, Bool.and_eq_false_iff, decide_eq_true_eq, decide_eq_false_iff_not, Bool.not_eq_true', Bool.not_eq_false'] at hc7
  refine CW.skip (Q.tn ?_)
  refine CW.seq ?_
  refine CW.region ?_
  refine W.p O.mv ?_
  refine W.p O.mv ?_
  refine W.p O.eqI ?_
  refine W.p O.mv ?_
  refine W.p O.mv ?_
  refine W.q (O.call ⟨rfl, rfl⟩ (AV.cons (vs rfl) (AV.nil)) (fun _ w hw => opts_May _ _ _ w (RowL.h _ hw) (by omega))) ?_
  refine W.p O.pkB ?_
  refine W.p O.as ?_
  refine W.p O.as ?_
  refine WL.nil (Q.tn ?_)
  refine CW.ret ?_
  refine ⟨_, rowL p1 42 (flat encO al r1), (RVs.tmp rfl (RVs.tmp rfl RVs.nil)), (by repeat (first | exact List.Sublist.refl _ | exact hSub _ | exact List.sublist_append_left _ _ | exact List.nil_sublist _ | refine List.Sublist.append (List.Sublist.refl _) ?_ | apply List.Sublist.cons_cons | apply List.Sublist.cons | exact List.sublist_append_left _ _ | refine List.Sublist.trans ?_ (List.sublist_append_right _ _))), ?_⟩
  have hA : allP s = al := by rw [allP, if_pos (by rw [← hwh]; exact hc7), h2s]
  rw [ptR, hA, h2s]; exact ⟨p1, q1, r1, by cases decide (e = 0) <;> rfl, ok, rfl⟩
end Go.Proofs.Ytkjcmdgideddnaa
