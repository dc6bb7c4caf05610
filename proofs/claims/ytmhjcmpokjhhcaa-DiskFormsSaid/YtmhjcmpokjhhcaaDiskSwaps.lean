/- What pinfoldlaw22.DiskSwaps answers: true. Conditions: the two texts are not longer than some 2^47 bytes. -/
import Derived.Test.YtmhjcmpokjhhcaaDiskTwice
set_option linter.unusedVariables false
set_option linter.unusedSimpArgs false
namespace Go.Proofs.Ytmhjcmpokjhhcaa
open Go Go.RowKit
theorem t_may {log nxt : List UInt8} {syn kep : Int} {bes : Bool} (h1 : bes = true ∨ nxt = [] ∧ kep = 0) (h2 : log.length + nxt.length ≤ 2048) (h3 : 0 ≤ syn) (h4 : syn ≤ log.length) (h5 : 0 ≤ kep) (h6 : kep ≤ nxt.length) : (⟨log, syn, bes, nxt, kep⟩ : Dk).may = true := (Dk.may_iff _).2 ⟨h1, h2, h3, h4, h5, h6⟩
theorem t_app (s : List UInt8) (h : s.length ≤ 2048) : (⟨[], 0, false, [], 0⟩ : Dk).turned true ((⟨[], 0, false, [], 0⟩ : Dk).app s) = (⟨s, 0, false, [], 0⟩, 0) :=
  Dk.turned_ok ⟨by decide, rfl⟩ (by simp [Dk.app]; omega)
theorem t_appNo (s : List UInt8) (h : ¬ s.length ≤ 2048) : (⟨[], 0, false, [], 0⟩ : Dk).turned true ((⟨[], 0, false, [], 0⟩ : Dk).app s) = (⟨[], 0, false, [], 0⟩, 2201) :=
  Dk.turned_full ⟨by decide, rfl⟩ (by simp [Dk.app]; omega)
theorem t_sync (s : List UInt8) (h : s.length ≤ 2048) : (⟨s, 0, false, [], 0⟩ : Dk).turned true ((⟨s, 0, false, [], 0⟩ : Dk).syncd) = (⟨s, s.length, false, [], 0⟩, 0) :=
  Dk.turned_syncd (t_may (.inr ⟨rfl, rfl⟩) (by simp; omega) (by omega) (by omega) (by omega) (by simp))
theorem t_beg (s t : List UInt8) (h : s.length + t.length ≤ 2048) : (⟨s, s.length, false, [], 0⟩ : Dk).turned true ((⟨s, s.length, false, [], 0⟩ : Dk).beg t) = (⟨s, s.length, true, t, 0⟩, 0) :=
  Dk.turned_ok ⟨t_may (.inr ⟨rfl, rfl⟩) (by simp; omega) (by omega) (by omega) (by omega) (by simp), rfl⟩ (by simp [Dk.beg]; omega)
theorem t_begNo (s t : List UInt8) (h0 : s.length ≤ 2048) (h : ¬ s.length + t.length ≤ 2048) : (⟨s, s.length, false, [], 0⟩ : Dk).turned true ((⟨s, s.length, false, [], 0⟩ : Dk).beg t) = (⟨[], 0, false, [], 0⟩, 2201) :=
  Dk.turned_full ⟨t_may (.inr ⟨rfl, rfl⟩) (by simp; omega) (by omega) (by omega) (by omega) (by simp), rfl⟩ (by simp [Dk.beg]; omega)
theorem t_set (s t : List UInt8) (h : s.length + t.length ≤ 2048) : (⟨s, s.length, true, t, 0⟩ : Dk).turned true ((⟨s, s.length, true, t, 0⟩ : Dk).set) = (⟨s, s.length, true, t, t.length⟩, 0) :=
  Dk.turned_ok ⟨t_may (.inl rfl) h (by omega) (by omega) (by omega) (by omega), rfl⟩ (by simp [Dk.set]; omega)
theorem t_swp (s t : List UInt8) (h : s.length + t.length ≤ 2048) : (⟨s, s.length, true, t, t.length⟩ : Dk).turned true ((⟨s, s.length, true, t, t.length⟩ : Dk).swp) = (⟨t, t.length, false, [], 0⟩, 0) :=
  Dk.turned_ok ⟨t_may (.inl rfl) h (by omega) (by omega) (by omega) (by omega), rfl⟩ (by simp [Dk.swp]; omega)
theorem t_cut (log nxt : List UInt8) (kep : Int) (bes : Bool) (k : Int) (hk : 0 ≤ k) (h1 : bes = true ∨ nxt = [] ∧ kep = 0) (h2 : log.length + nxt.length ≤ 2048) (h5 : 0 ≤ kep) (h6 : kep ≤ nxt.length) :
    (⟨log, log.length, bes, nxt, kep⟩ : Dk).turned (decide (0 ≤ k)) ((⟨log, log.length, bes, nxt, kep⟩ : Dk).cut k) = (⟨log, log.length, false, [], 0⟩, 0) := by
  have hm := t_may h1 h2 (syn := log.length) (by omega) (by omega) h5 h6
  rw [Dk.turned_cut hm hk]
  have e1 : ((log.length : Int) + min k (log.length - log.length)) = log.length := by omega
  have e0 : min k 0 = 0 := by omega
  simp [Dk.cut, e0, Dk.zero]
set_option maxRecDepth 100000 in
theorem law22_DiskSwaps (old next : List UInt8) (steps keep : Int) (w : World) (h1 : old.length ≤ top) (h2 : next.length ≤ top) :
    Fn Try.prog 6 [.string (S old), .string (S next), .int .i64 steps, .int .i64 keep] w [] fun v L' => v = .bool true ∧ L' = [] := by
  have x1 := h1
  have x2 := h2
  simp only [top] at x1 x2
  refine Fn.enter Try.func6 rfl rfl rfl rfl (Holds.nil w) ?_
  refine CW.seq ?_
  refine CW.region ?_
  refine W.q (QV.q (O.as ⟨rfl, rfl⟩ (vt rfl))) ?_
  refine WL.nil (Q.tn ?_)
  refine CW.seq ?_
  refine CW.seq ?_
  refine CW.region ?_
  refine W.q (O.call ⟨rfl, rfl⟩ (AV.nil) (fun _ w hw => law22_awake w)) ?_
  refine W.q (QV.q (O.nt ⟨rfl, rfl⟩ (vt rfl))) ?_
  refine WL.nil (Q.tn ?_)
  refine CW.cond (vt rfl) (fun hc1 => ?_) (fun hc1 => ?_)
  · refine CW.seq ?_
    refine CW.region ?_
    refine W.q (QV.q (O.as ⟨rfl, rfl⟩ (vt rfl))) ?_
    refine WL.nil (Q.tn ?_)
    refine CW.ret (Q.tr ?_)
    refine ⟨_, [], (RVs.tmp rfl RVs.nil), List.nil_sublist _, ?_⟩
    refine ⟨congrArg Value.bool ?_, rfl⟩
    first | (exfalso; cases hc1; done) | skip
    all_goals
      have hk : 0 ≤ keep % 256 := by omega
      first | (exfalso; simp only [decide_eq_true_eq, decide_eq_false_iff_not] at *; omega) | skip
    all_goals by_cases ho : old.length ≤ 2048
    all_goals by_cases hn : old.length + next.length ≤ 2048
    all_goals first | (exfalso; omega) | skip
    all_goals have c1 := t_cut old [] 0 false (keep % 256) hk (.inr ⟨rfl, rfl⟩)
    all_goals have c2 := t_cut old next 0 true (keep % 256) hk (.inl rfl)
    all_goals have c3 := t_cut old next next.length true (keep % 256) hk (.inl rfl)
    all_goals have c4 := t_cut next [] 0 false (keep % 256) hk (.inr ⟨rfl, rfl⟩)
    all_goals first | (have hx : next.length ≤ 2048 := by omega) | skip
    all_goals first | (simp_all [t_app, t_appNo, t_sync, t_beg, t_begNo, t_set, t_swp]; done) | (simp_all [t_app, t_appNo, t_sync, t_beg, t_begNo, t_set, t_swp]; omega)
  · refine CW.skip (Q.tn ?_)
    refine CW.seq ?_
    refine CW.region ?_
    refine W.q (QV.q (O.bd ⟨rfl, rfl⟩ (PV.nil))) ?_
    refine W.q (QV.q (O.mv ⟨rfl, rfl⟩ (vt rfl))) ?_
    refine W.q (O.call ⟨rfl, rfl⟩ (AV.cons (vt rfl) (AV.cons (vt rfl) (AV.nil))) (fun _ w hw => x_Append _ _ _ _ _ _ w (by first | exact Nat.le_trans (Dk.turned_len _ _ _).1 (by decide) | exact Nat.le_trans (Dk.turned_len _ _ _).2 (by decide) | assumption | decide | (simp [top]; done) | omega) (by first | exact Nat.le_trans (Dk.turned_len _ _ _).1 (by decide) | exact Nat.le_trans (Dk.turned_len _ _ _).2 (by decide) | assumption | decide | (simp [top]; done) | omega) (by first | exact Nat.le_trans (Dk.turned_len _ _ _).1 (by decide) | exact Nat.le_trans (Dk.turned_len _ _ _).2 (by decide) | assumption | decide | (simp [top]; done) | omega))) ?_
    refine W.q (QV.q (O.mv ⟨rfl, rfl⟩ (vt rfl))) ?_
    refine W.q (QV.q (O.ext ⟨rfl, rfl⟩ (vt rfl) rfl)) ?_
    refine W.q (QV.q (O.ext ⟨rfl, rfl⟩ (vt rfl) rfl)) ?_
    refine W.al rfl rfl fun b1 => ?_
    refine W.st (vt rfl) (vt rfl) rfl ?_
    refine W.q (QV.q (O.as ⟨rfl, rfl⟩ (vt rfl))) ?_
    refine WL.nil (Q.tn ?_)
    refine CW.seq ?_
    refine CW.region ?_
    refine W.q (QV.q (O.lds ⟨rfl, rfl⟩ (vt rfl))) ?_
    refine W.q (O.call ⟨rfl, rfl⟩ (AV.cons (vt rfl) (AV.nil)) (fun _ w hw => x_Sync _ _ _ _ _ w (by first | exact Nat.le_trans (Dk.turned_len _ _ _).1 (by decide) | exact Nat.le_trans (Dk.turned_len _ _ _).2 (by decide) | assumption | decide | (simp [top]; done) | omega) (by first | exact Nat.le_trans (Dk.turned_len _ _ _).1 (by decide) | exact Nat.le_trans (Dk.turned_len _ _ _).2 (by decide) | assumption | decide | (simp [top]; done) | omega))) ?_
    refine W.q (QV.q (O.mv ⟨rfl, rfl⟩ (vt rfl))) ?_
    refine W.q (QV.q (O.ext ⟨rfl, rfl⟩ (vt rfl) rfl)) ?_
    refine W.q (QV.q (O.ext ⟨rfl, rfl⟩ (vt rfl) rfl)) ?_
    refine W.st (vt rfl) (vt rfl) rfl ?_
    refine W.q (QV.q (O.as ⟨rfl, rfl⟩ (vt rfl))) ?_
    refine WL.nil (Q.tn ?_)
    refine CW.seq ?_
    refine CW.seq ?_
    refine CW.region ?_
    refine W.q (QV.q (O.mv ⟨rfl, rfl⟩ (vt rfl))) ?_
    refine W.q (O.call ⟨rfl, rfl⟩ (AV.cons (vt rfl) (AV.nil)) (fun _ w hw => law0_Num _ w)) ?_
    refine W.q (QV.q (O.neI ⟨rfl, rfl⟩ (vt rfl) (vt rfl))) ?_
    refine W.q (QV.q (O.mv ⟨rfl, rfl⟩ (vt rfl))) ?_
    refine W.q (QV.q (O.mv ⟨rfl, rfl⟩ (vt rfl))) ?_
    refine W.q (O.call ⟨rfl, rfl⟩ (AV.cons (vs rfl) (AV.nil)) (fun _ w hw => law0_Num _ w)) ?_
    refine W.q (QV.q (O.neI ⟨rfl, rfl⟩ (vs rfl) (vt rfl))) ?_
    refine W.q (QV.q (O.pkB ⟨rfl, rfl⟩ (vt rfl) (vt rfl) (vs rfl))) ?_
    refine WL.nil (Q.tn ?_)
    refine CW.cond (vt rfl) (fun hc2 => ?_) (fun hc2 => ?_)
    · refine CW.seq ?_
      refine CW.region ?_
      refine W.q (QV.q (O.mv ⟨rfl, rfl⟩ (vt rfl))) ?_
      refine W.q (QV.q (O.len ⟨rfl, rfl⟩ (vt rfl))) ?_
      refine W.q (QV.q (O.gtr ⟨rfl, rfl⟩ (vt rfl) (vt rfl))) ?_
      refine W.q (QV.q (O.as ⟨rfl, rfl⟩ (vt rfl))) ?_
      refine WL.nil (Q.tn ?_)
      refine CW.ret (Q.tr ?_)
      refine ⟨_, [], (RVs.tmp rfl RVs.nil), List.nil_sublist _, ?_⟩
      refine ⟨congrArg Value.bool ?_, rfl⟩
      first | (exfalso; cases hc1; done) | skip
      all_goals
        have hk : 0 ≤ keep % 256 := by omega
        first | (exfalso; simp only [decide_eq_true_eq, decide_eq_false_iff_not] at *; omega) | skip
      all_goals by_cases ho : old.length ≤ 2048
      all_goals by_cases hn : old.length + next.length ≤ 2048
      all_goals first | (exfalso; omega) | skip
      all_goals have c1 := t_cut old [] 0 false (keep % 256) hk (.inr ⟨rfl, rfl⟩)
      all_goals have c2 := t_cut old next 0 true (keep % 256) hk (.inl rfl)
      all_goals have c3 := t_cut old next next.length true (keep % 256) hk (.inl rfl)
      all_goals have c4 := t_cut next [] 0 false (keep % 256) hk (.inr ⟨rfl, rfl⟩)
      all_goals first | (have hx : next.length ≤ 2048 := by omega) | skip
      all_goals first | (simp_all [t_app, t_appNo, t_sync, t_beg, t_begNo, t_set, t_swp]; done) | (simp_all [t_app, t_appNo, t_sync, t_beg, t_begNo, t_set, t_swp]; omega)
    · refine CW.skip (Q.tn ?_)
      refine CW.seq ?_
      refine CW.region ?_
      refine W.q (QV.q (O.mv ⟨rfl, rfl⟩ (vt rfl))) ?_
      refine W.q (QV.q (O.andM 2 4 ⟨rfl, rfl⟩ (vt rfl) (vt rfl) (by decide) (by decide) (by decide))) ?_
      refine W.q (QV.q (O.as ⟨rfl, rfl⟩ (vt rfl))) ?_
      refine WL.nil (Q.tn ?_)
      refine CW.seq ?_
      refine CW.seq ?_
      refine CW.region ?_
      refine W.q (QV.q (O.mv ⟨rfl, rfl⟩ (vt rfl))) ?_
      refine W.q (QV.q (O.gtr ⟨rfl, rfl⟩ (vt rfl) (vt rfl))) ?_
      refine WL.nil (Q.tn ?_)
      refine CW.cond (vt rfl) (fun hc3 => ?_) (fun hc3 => ?_)
      · refine CW.seq ?_
        refine CW.region ?_
        refine W.q (QV.q (O.lds ⟨rfl, rfl⟩ (vt rfl))) ?_
        refine W.q (QV.q (O.mv ⟨rfl, rfl⟩ (vt rfl))) ?_
        refine W.q (O.call ⟨rfl, rfl⟩ (AV.cons (vt rfl) (AV.cons (vt rfl) (AV.nil))) (fun _ w hw => x_Begin _ _ _ _ _ _ w (by first | exact Nat.le_trans (Dk.turned_len _ _ _).1 (by decide) | exact Nat.le_trans (Dk.turned_len _ _ _).2 (by decide) | assumption | decide | (simp [top]; done) | omega) (by first | exact Nat.le_trans (Dk.turned_len _ _ _).1 (by decide) | exact Nat.le_trans (Dk.turned_len _ _ _).2 (by decide) | assumption | decide | (simp [top]; done) | omega) (by first | exact Nat.le_trans (Dk.turned_len _ _ _).1 (by decide) | exact Nat.le_trans (Dk.turned_len _ _ _).2 (by decide) | assumption | decide | (simp [top]; done) | omega))) ?_
        refine W.q (QV.q (O.mv ⟨rfl, rfl⟩ (vt rfl))) ?_
        refine W.q (QV.q (O.ext ⟨rfl, rfl⟩ (vt rfl) rfl)) ?_
        refine W.q (QV.q (O.ext ⟨rfl, rfl⟩ (vt rfl) rfl)) ?_
        refine W.al rfl rfl fun b2 => ?_
        refine W.st (vt rfl) (vt rfl) rfl ?_
        refine W.q (QV.q (O.as ⟨rfl, rfl⟩ (vt rfl))) ?_
        refine WL.nil (Q.tn ?_)
        refine CW.seq ?_
        refine CW.seq ?_
        refine CW.region ?_
        refine W.q (QV.q (O.mv ⟨rfl, rfl⟩ (vt rfl))) ?_
        refine W.q (O.call ⟨rfl, rfl⟩ (AV.cons (vt rfl) (AV.nil)) (fun _ w hw => law0_Num _ w)) ?_
        refine W.q (QV.q (O.neI ⟨rfl, rfl⟩ (vt rfl) (vt rfl))) ?_
        refine WL.nil (Q.tn ?_)
        refine CW.cond (vt rfl) (fun hc4 => ?_) (fun hc4 => ?_)
        · refine CW.seq ?_
          refine CW.region ?_
          refine W.q (QV.q (O.mv ⟨rfl, rfl⟩ (vt rfl))) ?_
          refine W.q (QV.q (O.len ⟨rfl, rfl⟩ (vt rfl))) ?_
          refine W.q (QV.q (O.mv ⟨rfl, rfl⟩ (vt rfl))) ?_
          refine W.q (QV.q (O.len ⟨rfl, rfl⟩ (vt rfl))) ?_
          first | refine W.q (QV.q (O.addN ⟨rfl, rfl⟩ (vt rfl) (vt rfl) (fun _ => by omega))) ?_ | refine W.q (QV.q (O.add ⟨rfl, rfl⟩ (vt rfl) (vt rfl))) ?_
          refine W.q (QV.q (O.gtr ⟨rfl, rfl⟩ (vt rfl) (vt rfl))) ?_
          refine W.q (QV.q (O.as ⟨rfl, rfl⟩ (vt rfl))) ?_
          refine WL.nil (Q.tn ?_)
          refine CW.ret (Q.tr (Q.tr ?_))
          refine ⟨_, [], (RVs.tmp rfl RVs.nil), List.nil_sublist _, ?_⟩
          refine ⟨congrArg Value.bool ?_, rfl⟩
          first | (exfalso; cases hc1; done) | skip
          all_goals
            have hk : 0 ≤ keep % 256 := by omega
            first | (exfalso; simp only [decide_eq_true_eq, decide_eq_false_iff_not] at *; omega) | skip
          all_goals by_cases ho : old.length ≤ 2048
          all_goals by_cases hn : old.length + next.length ≤ 2048
          all_goals first | (exfalso; omega) | skip
          all_goals have c1 := t_cut old [] 0 false (keep % 256) hk (.inr ⟨rfl, rfl⟩)
          all_goals have c2 := t_cut old next 0 true (keep % 256) hk (.inl rfl)
          all_goals have c3 := t_cut old next next.length true (keep % 256) hk (.inl rfl)
          all_goals have c4 := t_cut next [] 0 false (keep % 256) hk (.inr ⟨rfl, rfl⟩)
          all_goals first | (have hx : next.length ≤ 2048 := by omega) | skip
          all_goals first | (simp_all [t_app, t_appNo, t_sync, t_beg, t_begNo, t_set, t_swp]; done) | (simp_all [t_app, t_appNo, t_sync, t_beg, t_begNo, t_set, t_swp]; omega)
        · refine CW.skip (Q.tn ?_)
          refine CW.region ?_
          refine W.q (QV.q (O.lds ⟨rfl, rfl⟩ (vt rfl))) ?_
          refine W.st (vt rfl) (vt rfl) rfl ?_
          refine WL.nil (Q.tn ?_)
          refine CW.seq ?_
          refine CW.seq ?_
          refine CW.region ?_
          refine W.q (QV.q (O.mv ⟨rfl, rfl⟩ (vt rfl))) ?_
          refine W.q (QV.q (O.gtr ⟨rfl, rfl⟩ (vt rfl) (vt rfl))) ?_
          refine WL.nil (Q.tn ?_)
          refine CW.cond (vt rfl) (fun hc5 => ?_) (fun hc5 => ?_)
          · refine CW.seq ?_
            refine CW.region ?_
            refine W.q (QV.q (O.lds ⟨rfl, rfl⟩ (vt rfl))) ?_
            refine W.q (O.call ⟨rfl, rfl⟩ (AV.cons (vt rfl) (AV.nil)) (fun _ w hw => x_Settle _ _ _ _ _ w (by first | exact Nat.le_trans (Dk.turned_len _ _ _).1 (by decide) | exact Nat.le_trans (Dk.turned_len _ _ _).2 (by decide) | assumption | decide | (simp [top]; done) | omega) (by first | exact Nat.le_trans (Dk.turned_len _ _ _).1 (by decide) | exact Nat.le_trans (Dk.turned_len _ _ _).2 (by decide) | assumption | decide | (simp [top]; done) | omega))) ?_
            refine W.q (QV.q (O.mv ⟨rfl, rfl⟩ (vt rfl))) ?_
            refine W.q (QV.q (O.ext ⟨rfl, rfl⟩ (vt rfl) rfl)) ?_
            refine W.q (QV.q (O.ext ⟨rfl, rfl⟩ (vt rfl) rfl)) ?_
            refine W.al rfl rfl fun b3 => ?_
            refine W.st (vt rfl) (vt rfl) rfl ?_
            refine W.q (QV.q (O.as ⟨rfl, rfl⟩ (vt rfl))) ?_
            refine WL.nil (Q.tn ?_)
            refine CW.seq ?_
            refine CW.seq ?_
            refine CW.region ?_
            refine W.q (QV.q (O.mv ⟨rfl, rfl⟩ (vt rfl))) ?_
            refine W.q (O.call ⟨rfl, rfl⟩ (AV.cons (vt rfl) (AV.nil)) (fun _ w hw => law0_Num _ w)) ?_
            refine W.q (QV.q (O.neI ⟨rfl, rfl⟩ (vt rfl) (vt rfl))) ?_
            refine WL.nil (Q.tn ?_)
            refine CW.cond (vt rfl) (fun hc6 => ?_) (fun hc6 => ?_)
            · refine CW.seq ?_
              refine CW.region ?_
              refine W.q (QV.q (O.as ⟨rfl, rfl⟩ (vt rfl))) ?_
              refine WL.nil (Q.tn ?_)
              refine CW.ret (Q.tr (Q.tr ?_))
              refine ⟨_, [], (RVs.tmp rfl RVs.nil), List.nil_sublist _, ?_⟩
              refine ⟨congrArg Value.bool ?_, rfl⟩
              first | (exfalso; cases hc1; done) | skip
              all_goals
                have hk : 0 ≤ keep % 256 := by omega
                first | (exfalso; simp only [decide_eq_true_eq, decide_eq_false_iff_not] at *; omega) | skip
              all_goals by_cases ho : old.length ≤ 2048
              all_goals by_cases hn : old.length + next.length ≤ 2048
              all_goals first | (exfalso; omega) | skip
              all_goals have c1 := t_cut old [] 0 false (keep % 256) hk (.inr ⟨rfl, rfl⟩)
              all_goals have c2 := t_cut old next 0 true (keep % 256) hk (.inl rfl)
              all_goals have c3 := t_cut old next next.length true (keep % 256) hk (.inl rfl)
              all_goals have c4 := t_cut next [] 0 false (keep % 256) hk (.inr ⟨rfl, rfl⟩)
              all_goals first | (have hx : next.length ≤ 2048 := by omega) | skip
              all_goals first | (simp_all [t_app, t_appNo, t_sync, t_beg, t_begNo, t_set, t_swp]; done) | (simp_all [t_app, t_appNo, t_sync, t_beg, t_begNo, t_set, t_swp]; omega)
            · refine CW.skip (Q.tn ?_)
              refine CW.region ?_
              refine W.q (QV.q (O.lds ⟨rfl, rfl⟩ (vt rfl))) ?_
              refine W.st (vt rfl) (vt rfl) rfl ?_
              refine WL.nil (Q.tn ?_)
              refine CW.seq ?_
              refine CW.region ?_
              refine W.q (QV.q (O.mv ⟨rfl, rfl⟩ (vt rfl))) ?_
              refine W.q (QV.q (O.as ⟨rfl, rfl⟩ (vt rfl))) ?_
              refine WL.nil (Q.tn ?_)
              refine CW.seq ?_
              refine CW.seq ?_
              refine CW.region ?_
              refine W.q (QV.q (O.mv ⟨rfl, rfl⟩ (vt rfl))) ?_
              refine W.q (QV.q (O.gtr ⟨rfl, rfl⟩ (vt rfl) (vt rfl))) ?_
              refine WL.nil (Q.tn ?_)
              refine CW.cond (vt rfl) (fun hc7 => ?_) (fun hc7 => ?_)
              · refine CW.seq ?_
                refine CW.region ?_
                refine W.q (QV.q (O.lds ⟨rfl, rfl⟩ (vt rfl))) ?_
                refine W.q (O.call ⟨rfl, rfl⟩ (AV.cons (vt rfl) (AV.nil)) (fun _ w hw => x_Swap _ _ _ _ _ w (by first | exact Nat.le_trans (Dk.turned_len _ _ _).1 (by decide) | exact Nat.le_trans (Dk.turned_len _ _ _).2 (by decide) | assumption | decide | (simp [top]; done) | omega) (by first | exact Nat.le_trans (Dk.turned_len _ _ _).1 (by decide) | exact Nat.le_trans (Dk.turned_len _ _ _).2 (by decide) | assumption | decide | (simp [top]; done) | omega))) ?_
                refine W.q (QV.q (O.mv ⟨rfl, rfl⟩ (vt rfl))) ?_
                refine W.q (QV.q (O.ext ⟨rfl, rfl⟩ (vt rfl) rfl)) ?_
                refine W.q (QV.q (O.ext ⟨rfl, rfl⟩ (vt rfl) rfl)) ?_
                refine W.al rfl rfl fun b4 => ?_
                refine W.st (vt rfl) (vt rfl) rfl ?_
                refine W.q (QV.q (O.as ⟨rfl, rfl⟩ (vt rfl))) ?_
                refine WL.nil (Q.tn ?_)
                refine CW.seq ?_
                refine CW.seq ?_
                refine CW.region ?_
                refine W.q (QV.q (O.mv ⟨rfl, rfl⟩ (vt rfl))) ?_
                refine W.q (O.call ⟨rfl, rfl⟩ (AV.cons (vt rfl) (AV.nil)) (fun _ w hw => law0_Num _ w)) ?_
                refine W.q (QV.q (O.neI ⟨rfl, rfl⟩ (vt rfl) (vt rfl))) ?_
                refine WL.nil (Q.tn ?_)
                refine CW.cond (vt rfl) (fun hc8 => ?_) (fun hc8 => ?_)
                · refine CW.seq ?_
                  refine CW.region ?_
                  refine W.q (QV.q (O.as ⟨rfl, rfl⟩ (vt rfl))) ?_
                  refine WL.nil (Q.tn ?_)
                  refine CW.ret (Q.tr (Q.tr ?_))
                  refine ⟨_, [], (RVs.tmp rfl RVs.nil), List.nil_sublist _, ?_⟩
                  refine ⟨congrArg Value.bool ?_, rfl⟩
                  first | (exfalso; cases hc1; done) | skip
                  all_goals
                    have hk : 0 ≤ keep % 256 := by omega
                    first | (exfalso; simp only [decide_eq_true_eq, decide_eq_false_iff_not] at *; omega) | skip
                  all_goals by_cases ho : old.length ≤ 2048
                  all_goals by_cases hn : old.length + next.length ≤ 2048
                  all_goals first | (exfalso; omega) | skip
                  all_goals have c1 := t_cut old [] 0 false (keep % 256) hk (.inr ⟨rfl, rfl⟩)
                  all_goals have c2 := t_cut old next 0 true (keep % 256) hk (.inl rfl)
                  all_goals have c3 := t_cut old next next.length true (keep % 256) hk (.inl rfl)
                  all_goals have c4 := t_cut next [] 0 false (keep % 256) hk (.inr ⟨rfl, rfl⟩)
                  all_goals first | (have hx : next.length ≤ 2048 := by omega) | skip
                  all_goals first | (simp_all [t_app, t_appNo, t_sync, t_beg, t_begNo, t_set, t_swp]; done) | (simp_all [t_app, t_appNo, t_sync, t_beg, t_begNo, t_set, t_swp]; omega)
                · refine CW.skip (Q.tn ?_)
                  refine CW.seq ?_
                  refine CW.region ?_
                  refine W.q (QV.q (O.lds ⟨rfl, rfl⟩ (vt rfl))) ?_
                  refine W.st (vt rfl) (vt rfl) rfl ?_
                  refine WL.nil (Q.tn ?_)
                  refine CW.region ?_
                  refine W.q (QV.q (O.mv ⟨rfl, rfl⟩ (vt rfl))) ?_
                  refine W.q (QV.q (O.as ⟨rfl, rfl⟩ (vt rfl))) ?_
                  refine WL.nil (Q.tn ?_)
                  refine CW.seq ?_
                  refine CW.region ?_
                  refine W.q (QV.q (O.lds ⟨rfl, rfl⟩ (vt rfl))) ?_
                  refine W.q (QV.q (O.mv ⟨rfl, rfl⟩ (vt rfl))) ?_
                  refine W.q (QV.q (O.andM 8 256 ⟨rfl, rfl⟩ (vt rfl) (vt rfl) (by decide) (by decide) (by decide))) ?_
                  refine W.q (O.call ⟨rfl, rfl⟩ (AV.cons (vt rfl) (AV.cons (vt rfl) (AV.nil))) (fun _ w hw => x_Crash _ _ _ _ _ _ w (by first | exact Nat.le_trans (Dk.turned_len _ _ _).1 (by decide) | exact Nat.le_trans (Dk.turned_len _ _ _).2 (by decide) | assumption | decide | (simp [top]; done) | omega) (by first | exact Nat.le_trans (Dk.turned_len _ _ _).1 (by decide) | exact Nat.le_trans (Dk.turned_len _ _ _).2 (by decide) | assumption | decide | (simp [top]; done) | omega))) ?_
                  refine W.q (QV.q (O.mv ⟨rfl, rfl⟩ (vt rfl))) ?_
                  refine W.q (QV.q (O.ext ⟨rfl, rfl⟩ (vt rfl) rfl)) ?_
                  refine W.q (QV.q (O.ext ⟨rfl, rfl⟩ (vt rfl) rfl)) ?_
                  refine W.al rfl rfl fun b5 => ?_
                  refine W.st (vt rfl) (vt rfl) rfl ?_
                  refine W.q (QV.q (O.as ⟨rfl, rfl⟩ (vt rfl))) ?_
                  refine WL.nil (Q.tn ?_)
                  refine CW.seq ?_
                  refine CW.region ?_
                  refine W.q (QV.q (O.mv ⟨rfl, rfl⟩ (vt rfl))) ?_
                  refine W.q (O.call ⟨rfl, rfl⟩ (AV.cons (vt rfl) (AV.nil)) (fun _ w hw => law0_Num _ w)) ?_
                  refine W.q (QV.q (O.eqI ⟨rfl, rfl⟩ (vt rfl) (vt rfl))) ?_
                  refine W.q (QV.q (O.mv ⟨rfl, rfl⟩ (vt rfl))) ?_
                  refine W.q (QV.q (O.lds ⟨rfl, rfl⟩ (vt rfl))) ?_
                  refine W.q (QV.q (O.mv ⟨rfl, rfl⟩ (vt rfl))) ?_
                  refine W.q (QV.q (O.mv ⟨rfl, rfl⟩ (vt rfl))) ?_
                  refine W.q (QV.q (O.len ⟨rfl, rfl⟩ (vs rfl))) ?_
                  refine W.q (QV.q (O.bd ⟨rfl, rfl⟩ (PV.cons (vs rfl) (PV.cons (vs rfl) (PV.nil))))) ?_
                  refine W.q (QV.q (O.eqT ⟨rfl, rfl⟩ (vs rfl) (vs rfl) rfl)) ?_
                  refine W.q (QV.q (O.pkB ⟨rfl, rfl⟩ (vt rfl) (vs rfl) (vt rfl))) ?_
                  refine W.q (QV.q (O.as ⟨rfl, rfl⟩ (vt rfl))) ?_
                  refine WL.nil (Q.tn ?_)
                  refine CW.ret ?_
                  refine ⟨_, [], (RVs.tmp rfl RVs.nil), List.nil_sublist _, ?_⟩
                  refine ⟨congrArg Value.bool ?_, rfl⟩
                  first | (exfalso; cases hc1; done) | skip
                  all_goals
                    have hk : 0 ≤ keep % 256 := by omega
                    first | (exfalso; simp only [decide_eq_true_eq, decide_eq_false_iff_not] at *; omega) | skip
                  all_goals by_cases ho : old.length ≤ 2048
                  all_goals by_cases hn : old.length + next.length ≤ 2048
                  all_goals first | (exfalso; omega) | skip
                  all_goals have c1 := t_cut old [] 0 false (keep % 256) hk (.inr ⟨rfl, rfl⟩)
                  all_goals have c2 := t_cut old next 0 true (keep % 256) hk (.inl rfl)
                  all_goals have c3 := t_cut old next next.length true (keep % 256) hk (.inl rfl)
                  all_goals have c4 := t_cut next [] 0 false (keep % 256) hk (.inr ⟨rfl, rfl⟩)
                  all_goals first | (have hx : next.length ≤ 2048 := by omega) | skip
                  all_goals first | (simp_all [t_app, t_appNo, t_sync, t_beg, t_begNo, t_set, t_swp]; done) | (simp_all [t_app, t_appNo, t_sync, t_beg, t_begNo, t_set, t_swp]; omega)
              · refine CW.skip (Q.tn ?_)
                refine CW.seq ?_
                refine CW.region ?_
                refine W.q (QV.q (O.lds ⟨rfl, rfl⟩ (vt rfl))) ?_
                refine W.q (QV.q (O.mv ⟨rfl, rfl⟩ (vt rfl))) ?_
                refine W.q (QV.q (O.andM 8 256 ⟨rfl, rfl⟩ (vt rfl) (vt rfl) (by decide) (by decide) (by decide))) ?_
                refine W.q (O.call ⟨rfl, rfl⟩ (AV.cons (vt rfl) (AV.cons (vt rfl) (AV.nil))) (fun _ w hw => x_Crash _ _ _ _ _ _ w (by first | exact Nat.le_trans (Dk.turned_len _ _ _).1 (by decide) | exact Nat.le_trans (Dk.turned_len _ _ _).2 (by decide) | assumption | decide | (simp [top]; done) | omega) (by first | exact Nat.le_trans (Dk.turned_len _ _ _).1 (by decide) | exact Nat.le_trans (Dk.turned_len _ _ _).2 (by decide) | assumption | decide | (simp [top]; done) | omega))) ?_
                refine W.q (QV.q (O.mv ⟨rfl, rfl⟩ (vt rfl))) ?_
                refine W.q (QV.q (O.ext ⟨rfl, rfl⟩ (vt rfl) rfl)) ?_
                refine W.q (QV.q (O.ext ⟨rfl, rfl⟩ (vt rfl) rfl)) ?_
                refine W.al rfl rfl fun b6 => ?_
                refine W.st (vt rfl) (vt rfl) rfl ?_
                refine W.q (QV.q (O.as ⟨rfl, rfl⟩ (vt rfl))) ?_
                refine WL.nil (Q.tn ?_)
                refine CW.seq ?_
                refine CW.region ?_
                refine W.q (QV.q (O.mv ⟨rfl, rfl⟩ (vt rfl))) ?_
                refine W.q (O.call ⟨rfl, rfl⟩ (AV.cons (vt rfl) (AV.nil)) (fun _ w hw => law0_Num _ w)) ?_
                refine W.q (QV.q (O.eqI ⟨rfl, rfl⟩ (vt rfl) (vt rfl))) ?_
                refine W.q (QV.q (O.mv ⟨rfl, rfl⟩ (vt rfl))) ?_
                refine W.q (QV.q (O.lds ⟨rfl, rfl⟩ (vt rfl))) ?_
                refine W.q (QV.q (O.mv ⟨rfl, rfl⟩ (vt rfl))) ?_
                refine W.q (QV.q (O.mv ⟨rfl, rfl⟩ (vt rfl))) ?_
                refine W.q (QV.q (O.len ⟨rfl, rfl⟩ (vs rfl))) ?_
                refine W.q (QV.q (O.bd ⟨rfl, rfl⟩ (PV.cons (vs rfl) (PV.cons (vs rfl) (PV.nil))))) ?_
                refine W.q (QV.q (O.eqT ⟨rfl, rfl⟩ (vs rfl) (vs rfl) rfl)) ?_
                refine W.q (QV.q (O.pkB ⟨rfl, rfl⟩ (vt rfl) (vs rfl) (vt rfl))) ?_
                refine W.q (QV.q (O.as ⟨rfl, rfl⟩ (vt rfl))) ?_
                refine WL.nil (Q.tn ?_)
                refine CW.ret ?_
                refine ⟨_, [], (RVs.tmp rfl RVs.nil), List.nil_sublist _, ?_⟩
                refine ⟨congrArg Value.bool ?_, rfl⟩
                first | (exfalso; cases hc1; done) | skip
                all_goals
                  have hk : 0 ≤ keep % 256 := by omega
                  first | (exfalso; simp only [decide_eq_true_eq, decide_eq_false_iff_not] at *; omega) | skip
                all_goals by_cases ho : old.length ≤ 2048
                all_goals by_cases hn : old.length + next.length ≤ 2048
                all_goals first | (exfalso; omega) | skip
                all_goals have c1 := t_cut old [] 0 false (keep % 256) hk (.inr ⟨rfl, rfl⟩)
                all_goals have c2 := t_cut old next 0 true (keep % 256) hk (.inl rfl)
                all_goals have c3 := t_cut old next next.length true (keep % 256) hk (.inl rfl)
                all_goals have c4 := t_cut next [] 0 false (keep % 256) hk (.inr ⟨rfl, rfl⟩)
                all_goals first | (have hx : next.length ≤ 2048 := by omega) | skip
                all_goals first | (simp_all [t_app, t_appNo, t_sync, t_beg, t_begNo, t_set, t_swp]; done) | (simp_all [t_app, t_appNo, t_sync, t_beg, t_begNo, t_set, t_swp]; omega)
          · refine CW.skip (Q.tn ?_)
            refine CW.seq ?_
            refine CW.region ?_
            refine W.q (QV.q (O.mv ⟨rfl, rfl⟩ (vt rfl))) ?_
            refine W.q (QV.q (O.as ⟨rfl, rfl⟩ (vt rfl))) ?_
            refine WL.nil (Q.tn ?_)
            refine CW.seq ?_
            refine CW.seq ?_
            refine CW.region ?_
            refine W.q (QV.q (O.mv ⟨rfl, rfl⟩ (vt rfl))) ?_
            refine W.q (QV.q (O.gtr ⟨rfl, rfl⟩ (vt rfl) (vt rfl))) ?_
            refine WL.nil (Q.tn ?_)
            refine CW.cond (vt rfl) (fun hc9 => ?_) (fun hc9 => ?_)
            · refine CW.seq ?_
              refine CW.region ?_
              refine W.q (QV.q (O.lds ⟨rfl, rfl⟩ (vt rfl))) ?_
              refine W.q (O.call ⟨rfl, rfl⟩ (AV.cons (vt rfl) (AV.nil)) (fun _ w hw => x_Swap _ _ _ _ _ w (by first | exact Nat.le_trans (Dk.turned_len _ _ _).1 (by decide) | exact Nat.le_trans (Dk.turned_len _ _ _).2 (by decide) | assumption | decide | (simp [top]; done) | omega) (by first | exact Nat.le_trans (Dk.turned_len _ _ _).1 (by decide) | exact Nat.le_trans (Dk.turned_len _ _ _).2 (by decide) | assumption | decide | (simp [top]; done) | omega))) ?_
              refine W.q (QV.q (O.mv ⟨rfl, rfl⟩ (vt rfl))) ?_
              refine W.q (QV.q (O.ext ⟨rfl, rfl⟩ (vt rfl) rfl)) ?_
              refine W.q (QV.q (O.ext ⟨rfl, rfl⟩ (vt rfl) rfl)) ?_
              refine W.al rfl rfl fun b7 => ?_
              refine W.st (vt rfl) (vt rfl) rfl ?_
              refine W.q (QV.q (O.as ⟨rfl, rfl⟩ (vt rfl))) ?_
              refine WL.nil (Q.tn ?_)
              refine CW.seq ?_
              refine CW.seq ?_
              refine CW.region ?_
              refine W.q (QV.q (O.mv ⟨rfl, rfl⟩ (vt rfl))) ?_
              refine W.q (O.call ⟨rfl, rfl⟩ (AV.cons (vt rfl) (AV.nil)) (fun _ w hw => law0_Num _ w)) ?_
              refine W.q (QV.q (O.neI ⟨rfl, rfl⟩ (vt rfl) (vt rfl))) ?_
              refine WL.nil (Q.tn ?_)
              refine CW.cond (vt rfl) (fun hc10 => ?_) (fun hc10 => ?_)
              · refine CW.seq ?_
                refine CW.region ?_
                refine W.q (QV.q (O.as ⟨rfl, rfl⟩ (vt rfl))) ?_
                refine WL.nil (Q.tn ?_)
                refine CW.ret (Q.tr (Q.tr ?_))
                refine ⟨_, [], (RVs.tmp rfl RVs.nil), List.nil_sublist _, ?_⟩
                refine ⟨congrArg Value.bool ?_, rfl⟩
                first | (exfalso; cases hc1; done) | skip
                all_goals
                  have hk : 0 ≤ keep % 256 := by omega
                  first | (exfalso; simp only [decide_eq_true_eq, decide_eq_false_iff_not] at *; omega) | skip
                all_goals by_cases ho : old.length ≤ 2048
                all_goals by_cases hn : old.length + next.length ≤ 2048
                all_goals first | (exfalso; omega) | skip
                all_goals have c1 := t_cut old [] 0 false (keep % 256) hk (.inr ⟨rfl, rfl⟩)
                all_goals have c2 := t_cut old next 0 true (keep % 256) hk (.inl rfl)
                all_goals have c3 := t_cut old next next.length true (keep % 256) hk (.inl rfl)
                all_goals have c4 := t_cut next [] 0 false (keep % 256) hk (.inr ⟨rfl, rfl⟩)
                all_goals first | (have hx : next.length ≤ 2048 := by omega) | skip
                all_goals first | (simp_all [t_app, t_appNo, t_sync, t_beg, t_begNo, t_set, t_swp]; done) | (simp_all [t_app, t_appNo, t_sync, t_beg, t_begNo, t_set, t_swp]; omega)
              · refine CW.skip (Q.tn ?_)
                refine CW.seq ?_
                refine CW.region ?_
                refine W.q (QV.q (O.lds ⟨rfl, rfl⟩ (vt rfl))) ?_
                refine W.st (vt rfl) (vt rfl) rfl ?_
                refine WL.nil (Q.tn ?_)
                refine CW.region ?_
                refine W.q (QV.q (O.mv ⟨rfl, rfl⟩ (vt rfl))) ?_
                refine W.q (QV.q (O.as ⟨rfl, rfl⟩ (vt rfl))) ?_
                refine WL.nil (Q.tn ?_)
                refine CW.seq ?_
                refine CW.region ?_
                refine W.q (QV.q (O.lds ⟨rfl, rfl⟩ (vt rfl))) ?_
                refine W.q (QV.q (O.mv ⟨rfl, rfl⟩ (vt rfl))) ?_
                refine W.q (QV.q (O.andM 8 256 ⟨rfl, rfl⟩ (vt rfl) (vt rfl) (by decide) (by decide) (by decide))) ?_
                refine W.q (O.call ⟨rfl, rfl⟩ (AV.cons (vt rfl) (AV.cons (vt rfl) (AV.nil))) (fun _ w hw => x_Crash _ _ _ _ _ _ w (by first | exact Nat.le_trans (Dk.turned_len _ _ _).1 (by decide) | exact Nat.le_trans (Dk.turned_len _ _ _).2 (by decide) | assumption | decide | (simp [top]; done) | omega) (by first | exact Nat.le_trans (Dk.turned_len _ _ _).1 (by decide) | exact Nat.le_trans (Dk.turned_len _ _ _).2 (by decide) | assumption | decide | (simp [top]; done) | omega))) ?_
                refine W.q (QV.q (O.mv ⟨rfl, rfl⟩ (vt rfl))) ?_
                refine W.q (QV.q (O.ext ⟨rfl, rfl⟩ (vt rfl) rfl)) ?_
                refine W.q (QV.q (O.ext ⟨rfl, rfl⟩ (vt rfl) rfl)) ?_
                refine W.al rfl rfl fun b8 => ?_
                refine W.st (vt rfl) (vt rfl) rfl ?_
                refine W.q (QV.q (O.as ⟨rfl, rfl⟩ (vt rfl))) ?_
                refine WL.nil (Q.tn ?_)
                refine CW.seq ?_
                refine CW.region ?_
                refine W.q (QV.q (O.mv ⟨rfl, rfl⟩ (vt rfl))) ?_
                refine W.q (O.call ⟨rfl, rfl⟩ (AV.cons (vt rfl) (AV.nil)) (fun _ w hw => law0_Num _ w)) ?_
                refine W.q (QV.q (O.eqI ⟨rfl, rfl⟩ (vt rfl) (vt rfl))) ?_
                refine W.q (QV.q (O.mv ⟨rfl, rfl⟩ (vt rfl))) ?_
                refine W.q (QV.q (O.lds ⟨rfl, rfl⟩ (vt rfl))) ?_
                refine W.q (QV.q (O.mv ⟨rfl, rfl⟩ (vt rfl))) ?_
                refine W.q (QV.q (O.mv ⟨rfl, rfl⟩ (vt rfl))) ?_
                refine W.q (QV.q (O.len ⟨rfl, rfl⟩ (vs rfl))) ?_
                refine W.q (QV.q (O.bd ⟨rfl, rfl⟩ (PV.cons (vs rfl) (PV.cons (vs rfl) (PV.nil))))) ?_
                refine W.q (QV.q (O.eqT ⟨rfl, rfl⟩ (vs rfl) (vs rfl) rfl)) ?_
                refine W.q (QV.q (O.pkB ⟨rfl, rfl⟩ (vt rfl) (vs rfl) (vt rfl))) ?_
                refine W.q (QV.q (O.as ⟨rfl, rfl⟩ (vt rfl))) ?_
                refine WL.nil (Q.tn ?_)
                refine CW.ret ?_
                refine ⟨_, [], (RVs.tmp rfl RVs.nil), List.nil_sublist _, ?_⟩
                refine ⟨congrArg Value.bool ?_, rfl⟩
                first | (exfalso; cases hc1; done) | skip
                all_goals
                  have hk : 0 ≤ keep % 256 := by omega
                  first | (exfalso; simp only [decide_eq_true_eq, decide_eq_false_iff_not] at *; omega) | skip
                all_goals by_cases ho : old.length ≤ 2048
                all_goals by_cases hn : old.length + next.length ≤ 2048
                all_goals first | (exfalso; omega) | skip
                all_goals have c1 := t_cut old [] 0 false (keep % 256) hk (.inr ⟨rfl, rfl⟩)
                all_goals have c2 := t_cut old next 0 true (keep % 256) hk (.inl rfl)
                all_goals have c3 := t_cut old next next.length true (keep % 256) hk (.inl rfl)
                all_goals have c4 := t_cut next [] 0 false (keep % 256) hk (.inr ⟨rfl, rfl⟩)
                all_goals first | (have hx : next.length ≤ 2048 := by omega) | skip
                all_goals first | (simp_all [t_app, t_appNo, t_sync, t_beg, t_begNo, t_set, t_swp]; done) | (simp_all [t_app, t_appNo, t_sync, t_beg, t_begNo, t_set, t_swp]; omega)
            · refine CW.skip (Q.tn ?_)
              refine CW.seq ?_
              refine CW.region ?_
              refine W.q (QV.q (O.lds ⟨rfl, rfl⟩ (vt rfl))) ?_
              refine W.q (QV.q (O.mv ⟨rfl, rfl⟩ (vt rfl))) ?_
              refine W.q (QV.q (O.andM 8 256 ⟨rfl, rfl⟩ (vt rfl) (vt rfl) (by decide) (by decide) (by decide))) ?_
              refine W.q (O.call ⟨rfl, rfl⟩ (AV.cons (vt rfl) (AV.cons (vt rfl) (AV.nil))) (fun _ w hw => x_Crash _ _ _ _ _ _ w (by first | exact Nat.le_trans (Dk.turned_len _ _ _).1 (by decide) | exact Nat.le_trans (Dk.turned_len _ _ _).2 (by decide) | assumption | decide | (simp [top]; done) | omega) (by first | exact Nat.le_trans (Dk.turned_len _ _ _).1 (by decide) | exact Nat.le_trans (Dk.turned_len _ _ _).2 (by decide) | assumption | decide | (simp [top]; done) | omega))) ?_
              refine W.q (QV.q (O.mv ⟨rfl, rfl⟩ (vt rfl))) ?_
              refine W.q (QV.q (O.ext ⟨rfl, rfl⟩ (vt rfl) rfl)) ?_
              refine W.q (QV.q (O.ext ⟨rfl, rfl⟩ (vt rfl) rfl)) ?_
              refine W.al rfl rfl fun b9 => ?_
              refine W.st (vt rfl) (vt rfl) rfl ?_
              refine W.q (QV.q (O.as ⟨rfl, rfl⟩ (vt rfl))) ?_
              refine WL.nil (Q.tn ?_)
              refine CW.seq ?_
              refine CW.region ?_
              refine W.q (QV.q (O.mv ⟨rfl, rfl⟩ (vt rfl))) ?_
              refine W.q (O.call ⟨rfl, rfl⟩ (AV.cons (vt rfl) (AV.nil)) (fun _ w hw => law0_Num _ w)) ?_
              refine W.q (QV.q (O.eqI ⟨rfl, rfl⟩ (vt rfl) (vt rfl))) ?_
              refine W.q (QV.q (O.mv ⟨rfl, rfl⟩ (vt rfl))) ?_
              refine W.q (QV.q (O.lds ⟨rfl, rfl⟩ (vt rfl))) ?_
              refine W.q (QV.q (O.mv ⟨rfl, rfl⟩ (vt rfl))) ?_
              refine W.q (QV.q (O.mv ⟨rfl, rfl⟩ (vt rfl))) ?_
              refine W.q (QV.q (O.len ⟨rfl, rfl⟩ (vs rfl))) ?_
              refine W.q (QV.q (O.bd ⟨rfl, rfl⟩ (PV.cons (vs rfl) (PV.cons (vs rfl) (PV.nil))))) ?_
              refine W.q (QV.q (O.eqT ⟨rfl, rfl⟩ (vs rfl) (vs rfl) rfl)) ?_
              refine W.q (QV.q (O.pkB ⟨rfl, rfl⟩ (vt rfl) (vs rfl) (vt rfl))) ?_
              refine W.q (QV.q (O.as ⟨rfl, rfl⟩ (vt rfl))) ?_
              refine WL.nil (Q.tn ?_)
              refine CW.ret ?_
              refine ⟨_, [], (RVs.tmp rfl RVs.nil), List.nil_sublist _, ?_⟩
              refine ⟨congrArg Value.bool ?_, rfl⟩
              first | (exfalso; cases hc1; done) | skip
              all_goals
                have hk : 0 ≤ keep % 256 := by omega
                first | (exfalso; simp only [decide_eq_true_eq, decide_eq_false_iff_not] at *; omega) | skip
              all_goals by_cases ho : old.length ≤ 2048
              all_goals by_cases hn : old.length + next.length ≤ 2048
              all_goals first | (exfalso; omega) | skip
              all_goals have c1 := t_cut old [] 0 false (keep % 256) hk (.inr ⟨rfl, rfl⟩)
              all_goals have c2 := t_cut old next 0 true (keep % 256) hk (.inl rfl)
              all_goals have c3 := t_cut old next next.length true (keep % 256) hk (.inl rfl)
              all_goals have c4 := t_cut next [] 0 false (keep % 256) hk (.inr ⟨rfl, rfl⟩)
              all_goals first | (have hx : next.length ≤ 2048 := by omega) | skip
              all_goals first | (simp_all [t_app, t_appNo, t_sync, t_beg, t_begNo, t_set, t_swp]; done) | (simp_all [t_app, t_appNo, t_sync, t_beg, t_begNo, t_set, t_swp]; omega)
      · refine CW.skip (Q.tn ?_)
        refine CW.seq ?_
        refine CW.seq ?_
        refine CW.region ?_
        refine W.q (QV.q (O.mv ⟨rfl, rfl⟩ (vt rfl))) ?_
        refine W.q (QV.q (O.gtr ⟨rfl, rfl⟩ (vt rfl) (vt rfl))) ?_
        refine WL.nil (Q.tn ?_)
        refine CW.cond (vt rfl) (fun hc11 => ?_) (fun hc11 => ?_)
        · refine CW.seq ?_
          refine CW.region ?_
          refine W.q (QV.q (O.lds ⟨rfl, rfl⟩ (vt rfl))) ?_
          refine W.q (O.call ⟨rfl, rfl⟩ (AV.cons (vt rfl) (AV.nil)) (fun _ w hw => x_Settle _ _ _ _ _ w (by first | exact Nat.le_trans (Dk.turned_len _ _ _).1 (by decide) | exact Nat.le_trans (Dk.turned_len _ _ _).2 (by decide) | assumption | decide | (simp [top]; done) | omega) (by first | exact Nat.le_trans (Dk.turned_len _ _ _).1 (by decide) | exact Nat.le_trans (Dk.turned_len _ _ _).2 (by decide) | assumption | decide | (simp [top]; done) | omega))) ?_
          refine W.q (QV.q (O.mv ⟨rfl, rfl⟩ (vt rfl))) ?_
          refine W.q (QV.q (O.ext ⟨rfl, rfl⟩ (vt rfl) rfl)) ?_
          refine W.q (QV.q (O.ext ⟨rfl, rfl⟩ (vt rfl) rfl)) ?_
          refine W.al rfl rfl fun b10 => ?_
          refine W.st (vt rfl) (vt rfl) rfl ?_
          refine W.q (QV.q (O.as ⟨rfl, rfl⟩ (vt rfl))) ?_
          refine WL.nil (Q.tn ?_)
          refine CW.seq ?_
          refine CW.seq ?_
          refine CW.region ?_
          refine W.q (QV.q (O.mv ⟨rfl, rfl⟩ (vt rfl))) ?_
          refine W.q (O.call ⟨rfl, rfl⟩ (AV.cons (vt rfl) (AV.nil)) (fun _ w hw => law0_Num _ w)) ?_
          refine W.q (QV.q (O.neI ⟨rfl, rfl⟩ (vt rfl) (vt rfl))) ?_
          refine WL.nil (Q.tn ?_)
          refine CW.cond (vt rfl) (fun hc12 => ?_) (fun hc12 => ?_)
          · refine CW.seq ?_
            refine CW.region ?_
            refine W.q (QV.q (O.as ⟨rfl, rfl⟩ (vt rfl))) ?_
            refine WL.nil (Q.tn ?_)
            refine CW.ret (Q.tr (Q.tr ?_))
            refine ⟨_, [], (RVs.tmp rfl RVs.nil), List.nil_sublist _, ?_⟩
            refine ⟨congrArg Value.bool ?_, rfl⟩
            first | (exfalso; cases hc1; done) | skip
            all_goals
              have hk : 0 ≤ keep % 256 := by omega
              first | (exfalso; simp only [decide_eq_true_eq, decide_eq_false_iff_not] at *; omega) | skip
            all_goals by_cases ho : old.length ≤ 2048
            all_goals by_cases hn : old.length + next.length ≤ 2048
            all_goals first | (exfalso; omega) | skip
            all_goals have c1 := t_cut old [] 0 false (keep % 256) hk (.inr ⟨rfl, rfl⟩)
            all_goals have c2 := t_cut old next 0 true (keep % 256) hk (.inl rfl)
            all_goals have c3 := t_cut old next next.length true (keep % 256) hk (.inl rfl)
            all_goals have c4 := t_cut next [] 0 false (keep % 256) hk (.inr ⟨rfl, rfl⟩)
            all_goals first | (have hx : next.length ≤ 2048 := by omega) | skip
            all_goals first | (simp_all [t_app, t_appNo, t_sync, t_beg, t_begNo, t_set, t_swp]; done) | (simp_all [t_app, t_appNo, t_sync, t_beg, t_begNo, t_set, t_swp]; omega)
          · refine CW.skip (Q.tn ?_)
            refine CW.region ?_
            refine W.q (QV.q (O.lds ⟨rfl, rfl⟩ (vt rfl))) ?_
            refine W.st (vt rfl) (vt rfl) rfl ?_
            refine WL.nil (Q.tn ?_)
            refine CW.seq ?_
            refine CW.region ?_
            refine W.q (QV.q (O.mv ⟨rfl, rfl⟩ (vt rfl))) ?_
            refine W.q (QV.q (O.as ⟨rfl, rfl⟩ (vt rfl))) ?_
            refine WL.nil (Q.tn ?_)
            refine CW.seq ?_
            refine CW.seq ?_
            refine CW.region ?_
            refine W.q (QV.q (O.mv ⟨rfl, rfl⟩ (vt rfl))) ?_
            refine W.q (QV.q (O.gtr ⟨rfl, rfl⟩ (vt rfl) (vt rfl))) ?_
            refine WL.nil (Q.tn ?_)
            refine CW.cond (vt rfl) (fun hc13 => ?_) (fun hc13 => ?_)
            · refine CW.seq ?_
              refine CW.region ?_
              refine W.q (QV.q (O.lds ⟨rfl, rfl⟩ (vt rfl))) ?_
              refine W.q (O.call ⟨rfl, rfl⟩ (AV.cons (vt rfl) (AV.nil)) (fun _ w hw => x_Swap _ _ _ _ _ w (by first | exact Nat.le_trans (Dk.turned_len _ _ _).1 (by decide) | exact Nat.le_trans (Dk.turned_len _ _ _).2 (by decide) | assumption | decide | (simp [top]; done) | omega) (by first | exact Nat.le_trans (Dk.turned_len _ _ _).1 (by decide) | exact Nat.le_trans (Dk.turned_len _ _ _).2 (by decide) | assumption | decide | (simp [top]; done) | omega))) ?_
              refine W.q (QV.q (O.mv ⟨rfl, rfl⟩ (vt rfl))) ?_
              refine W.q (QV.q (O.ext ⟨rfl, rfl⟩ (vt rfl) rfl)) ?_
              refine W.q (QV.q (O.ext ⟨rfl, rfl⟩ (vt rfl) rfl)) ?_
              refine W.al rfl rfl fun b11 => ?_
              refine W.st (vt rfl) (vt rfl) rfl ?_
              refine W.q (QV.q (O.as ⟨rfl, rfl⟩ (vt rfl))) ?_
              refine WL.nil (Q.tn ?_)
              refine CW.seq ?_
              refine CW.seq ?_
              refine CW.region ?_
              refine W.q (QV.q (O.mv ⟨rfl, rfl⟩ (vt rfl))) ?_
              refine W.q (O.call ⟨rfl, rfl⟩ (AV.cons (vt rfl) (AV.nil)) (fun _ w hw => law0_Num _ w)) ?_
              refine W.q (QV.q (O.neI ⟨rfl, rfl⟩ (vt rfl) (vt rfl))) ?_
              refine WL.nil (Q.tn ?_)
              refine CW.cond (vt rfl) (fun hc14 => ?_) (fun hc14 => ?_)
              · refine CW.seq ?_
                refine CW.region ?_
                refine W.q (QV.q (O.as ⟨rfl, rfl⟩ (vt rfl))) ?_
                refine WL.nil (Q.tn ?_)
                refine CW.ret (Q.tr (Q.tr ?_))
                refine ⟨_, [], (RVs.tmp rfl RVs.nil), List.nil_sublist _, ?_⟩
                refine ⟨congrArg Value.bool ?_, rfl⟩
                first | (exfalso; cases hc1; done) | skip
                all_goals
                  have hk : 0 ≤ keep % 256 := by omega
                  first | (exfalso; simp only [decide_eq_true_eq, decide_eq_false_iff_not] at *; omega) | skip
                all_goals by_cases ho : old.length ≤ 2048
                all_goals by_cases hn : old.length + next.length ≤ 2048
                all_goals first | (exfalso; omega) | skip
                all_goals have c1 := t_cut old [] 0 false (keep % 256) hk (.inr ⟨rfl, rfl⟩)
                all_goals have c2 := t_cut old next 0 true (keep % 256) hk (.inl rfl)
                all_goals have c3 := t_cut old next next.length true (keep % 256) hk (.inl rfl)
                all_goals have c4 := t_cut next [] 0 false (keep % 256) hk (.inr ⟨rfl, rfl⟩)
                all_goals first | (have hx : next.length ≤ 2048 := by omega) | skip
                all_goals first | (simp_all [t_app, t_appNo, t_sync, t_beg, t_begNo, t_set, t_swp]; done) | (simp_all [t_app, t_appNo, t_sync, t_beg, t_begNo, t_set, t_swp]; omega)
              · refine CW.skip (Q.tn ?_)
                refine CW.seq ?_
                refine CW.region ?_
                refine W.q (QV.q (O.lds ⟨rfl, rfl⟩ (vt rfl))) ?_
                refine W.st (vt rfl) (vt rfl) rfl ?_
                refine WL.nil (Q.tn ?_)
                refine CW.region ?_
                refine W.q (QV.q (O.mv ⟨rfl, rfl⟩ (vt rfl))) ?_
                refine W.q (QV.q (O.as ⟨rfl, rfl⟩ (vt rfl))) ?_
                refine WL.nil (Q.tn ?_)
                refine CW.seq ?_
                refine CW.region ?_
                refine W.q (QV.q (O.lds ⟨rfl, rfl⟩ (vt rfl))) ?_
                refine W.q (QV.q (O.mv ⟨rfl, rfl⟩ (vt rfl))) ?_
                refine W.q (QV.q (O.andM 8 256 ⟨rfl, rfl⟩ (vt rfl) (vt rfl) (by decide) (by decide) (by decide))) ?_
                refine W.q (O.call ⟨rfl, rfl⟩ (AV.cons (vt rfl) (AV.cons (vt rfl) (AV.nil))) (fun _ w hw => x_Crash _ _ _ _ _ _ w (by first | exact Nat.le_trans (Dk.turned_len _ _ _).1 (by decide) | exact Nat.le_trans (Dk.turned_len _ _ _).2 (by decide) | assumption | decide | (simp [top]; done) | omega) (by first | exact Nat.le_trans (Dk.turned_len _ _ _).1 (by decide) | exact Nat.le_trans (Dk.turned_len _ _ _).2 (by decide) | assumption | decide | (simp [top]; done) | omega))) ?_
                refine W.q (QV.q (O.mv ⟨rfl, rfl⟩ (vt rfl))) ?_
                refine W.q (QV.q (O.ext ⟨rfl, rfl⟩ (vt rfl) rfl)) ?_
                refine W.q (QV.q (O.ext ⟨rfl, rfl⟩ (vt rfl) rfl)) ?_
                refine W.al rfl rfl fun b12 => ?_
                refine W.st (vt rfl) (vt rfl) rfl ?_
                refine W.q (QV.q (O.as ⟨rfl, rfl⟩ (vt rfl))) ?_
                refine WL.nil (Q.tn ?_)
                refine CW.seq ?_
                refine CW.region ?_
                refine W.q (QV.q (O.mv ⟨rfl, rfl⟩ (vt rfl))) ?_
                refine W.q (O.call ⟨rfl, rfl⟩ (AV.cons (vt rfl) (AV.nil)) (fun _ w hw => law0_Num _ w)) ?_
                refine W.q (QV.q (O.eqI ⟨rfl, rfl⟩ (vt rfl) (vt rfl))) ?_
                refine W.q (QV.q (O.mv ⟨rfl, rfl⟩ (vt rfl))) ?_
                refine W.q (QV.q (O.lds ⟨rfl, rfl⟩ (vt rfl))) ?_
                refine W.q (QV.q (O.mv ⟨rfl, rfl⟩ (vt rfl))) ?_
                refine W.q (QV.q (O.mv ⟨rfl, rfl⟩ (vt rfl))) ?_
                refine W.q (QV.q (O.len ⟨rfl, rfl⟩ (vs rfl))) ?_
                refine W.q (QV.q (O.bd ⟨rfl, rfl⟩ (PV.cons (vs rfl) (PV.cons (vs rfl) (PV.nil))))) ?_
                refine W.q (QV.q (O.eqT ⟨rfl, rfl⟩ (vs rfl) (vs rfl) rfl)) ?_
                refine W.q (QV.q (O.pkB ⟨rfl, rfl⟩ (vt rfl) (vs rfl) (vt rfl))) ?_
                refine W.q (QV.q (O.as ⟨rfl, rfl⟩ (vt rfl))) ?_
                refine WL.nil (Q.tn ?_)
                refine CW.ret ?_
                refine ⟨_, [], (RVs.tmp rfl RVs.nil), List.nil_sublist _, ?_⟩
                refine ⟨congrArg Value.bool ?_, rfl⟩
                first | (exfalso; cases hc1; done) | skip
                all_goals
                  have hk : 0 ≤ keep % 256 := by omega
                  first | (exfalso; simp only [decide_eq_true_eq, decide_eq_false_iff_not] at *; omega) | skip
                all_goals by_cases ho : old.length ≤ 2048
                all_goals by_cases hn : old.length + next.length ≤ 2048
                all_goals first | (exfalso; omega) | skip
                all_goals have c1 := t_cut old [] 0 false (keep % 256) hk (.inr ⟨rfl, rfl⟩)
                all_goals have c2 := t_cut old next 0 true (keep % 256) hk (.inl rfl)
                all_goals have c3 := t_cut old next next.length true (keep % 256) hk (.inl rfl)
                all_goals have c4 := t_cut next [] 0 false (keep % 256) hk (.inr ⟨rfl, rfl⟩)
                all_goals first | (have hx : next.length ≤ 2048 := by omega) | skip
                all_goals first | (simp_all [t_app, t_appNo, t_sync, t_beg, t_begNo, t_set, t_swp]; done) | (simp_all [t_app, t_appNo, t_sync, t_beg, t_begNo, t_set, t_swp]; omega)
            · refine CW.skip (Q.tn ?_)
              refine CW.seq ?_
              refine CW.region ?_
              refine W.q (QV.q (O.lds ⟨rfl, rfl⟩ (vt rfl))) ?_
              refine W.q (QV.q (O.mv ⟨rfl, rfl⟩ (vt rfl))) ?_
              refine W.q (QV.q (O.andM 8 256 ⟨rfl, rfl⟩ (vt rfl) (vt rfl) (by decide) (by decide) (by decide))) ?_
              refine W.q (O.call ⟨rfl, rfl⟩ (AV.cons (vt rfl) (AV.cons (vt rfl) (AV.nil))) (fun _ w hw => x_Crash _ _ _ _ _ _ w (by first | exact Nat.le_trans (Dk.turned_len _ _ _).1 (by decide) | exact Nat.le_trans (Dk.turned_len _ _ _).2 (by decide) | assumption | decide | (simp [top]; done) | omega) (by first | exact Nat.le_trans (Dk.turned_len _ _ _).1 (by decide) | exact Nat.le_trans (Dk.turned_len _ _ _).2 (by decide) | assumption | decide | (simp [top]; done) | omega))) ?_
              refine W.q (QV.q (O.mv ⟨rfl, rfl⟩ (vt rfl))) ?_
              refine W.q (QV.q (O.ext ⟨rfl, rfl⟩ (vt rfl) rfl)) ?_
              refine W.q (QV.q (O.ext ⟨rfl, rfl⟩ (vt rfl) rfl)) ?_
              refine W.al rfl rfl fun b13 => ?_
              refine W.st (vt rfl) (vt rfl) rfl ?_
              refine W.q (QV.q (O.as ⟨rfl, rfl⟩ (vt rfl))) ?_
              refine WL.nil (Q.tn ?_)
              refine CW.seq ?_
              refine CW.region ?_
              refine W.q (QV.q (O.mv ⟨rfl, rfl⟩ (vt rfl))) ?_
              refine W.q (O.call ⟨rfl, rfl⟩ (AV.cons (vt rfl) (AV.nil)) (fun _ w hw => law0_Num _ w)) ?_
              refine W.q (QV.q (O.eqI ⟨rfl, rfl⟩ (vt rfl) (vt rfl))) ?_
              refine W.q (QV.q (O.mv ⟨rfl, rfl⟩ (vt rfl))) ?_
              refine W.q (QV.q (O.lds ⟨rfl, rfl⟩ (vt rfl))) ?_
              refine W.q (QV.q (O.mv ⟨rfl, rfl⟩ (vt rfl))) ?_
              refine W.q (QV.q (O.mv ⟨rfl, rfl⟩ (vt rfl))) ?_
              refine W.q (QV.q (O.len ⟨rfl, rfl⟩ (vs rfl))) ?_
              refine W.q (QV.q (O.bd ⟨rfl, rfl⟩ (PV.cons (vs rfl) (PV.cons (vs rfl) (PV.nil))))) ?_
              refine W.q (QV.q (O.eqT ⟨rfl, rfl⟩ (vs rfl) (vs rfl) rfl)) ?_
              refine W.q (QV.q (O.pkB ⟨rfl, rfl⟩ (vt rfl) (vs rfl) (vt rfl))) ?_
              refine W.q (QV.q (O.as ⟨rfl, rfl⟩ (vt rfl))) ?_
              refine WL.nil (Q.tn ?_)
              refine CW.ret ?_
              refine ⟨_, [], (RVs.tmp rfl RVs.nil), List.nil_sublist _, ?_⟩
              refine ⟨congrArg Value.bool ?_, rfl⟩
              first | (exfalso; cases hc1; done) | skip
              all_goals
                have hk : 0 ≤ keep % 256 := by omega
                first | (exfalso; simp only [decide_eq_true_eq, decide_eq_false_iff_not] at *; omega) | skip
              all_goals by_cases ho : old.length ≤ 2048
              all_goals by_cases hn : old.length + next.length ≤ 2048
              all_goals first | (exfalso; omega) | skip
              all_goals have c1 := t_cut old [] 0 false (keep % 256) hk (.inr ⟨rfl, rfl⟩)
              all_goals have c2 := t_cut old next 0 true (keep % 256) hk (.inl rfl)
              all_goals have c3 := t_cut old next next.length true (keep % 256) hk (.inl rfl)
              all_goals have c4 := t_cut next [] 0 false (keep % 256) hk (.inr ⟨rfl, rfl⟩)
              all_goals first | (have hx : next.length ≤ 2048 := by omega) | skip
              all_goals first | (simp_all [t_app, t_appNo, t_sync, t_beg, t_begNo, t_set, t_swp]; done) | (simp_all [t_app, t_appNo, t_sync, t_beg, t_begNo, t_set, t_swp]; omega)
        · refine CW.skip (Q.tn ?_)
          refine CW.seq ?_
          refine CW.region ?_
          refine W.q (QV.q (O.mv ⟨rfl, rfl⟩ (vt rfl))) ?_
          refine W.q (QV.q (O.as ⟨rfl, rfl⟩ (vt rfl))) ?_
          refine WL.nil (Q.tn ?_)
          refine CW.seq ?_
          refine CW.seq ?_
          refine CW.region ?_
          refine W.q (QV.q (O.mv ⟨rfl, rfl⟩ (vt rfl))) ?_
          refine W.q (QV.q (O.gtr ⟨rfl, rfl⟩ (vt rfl) (vt rfl))) ?_
          refine WL.nil (Q.tn ?_)
          refine CW.cond (vt rfl) (fun hc15 => ?_) (fun hc15 => ?_)
          · refine CW.seq ?_
            refine CW.region ?_
            refine W.q (QV.q (O.lds ⟨rfl, rfl⟩ (vt rfl))) ?_
            refine W.q (O.call ⟨rfl, rfl⟩ (AV.cons (vt rfl) (AV.nil)) (fun _ w hw => x_Swap _ _ _ _ _ w (by first | exact Nat.le_trans (Dk.turned_len _ _ _).1 (by decide) | exact Nat.le_trans (Dk.turned_len _ _ _).2 (by decide) | assumption | decide | (simp [top]; done) | omega) (by first | exact Nat.le_trans (Dk.turned_len _ _ _).1 (by decide) | exact Nat.le_trans (Dk.turned_len _ _ _).2 (by decide) | assumption | decide | (simp [top]; done) | omega))) ?_
            refine W.q (QV.q (O.mv ⟨rfl, rfl⟩ (vt rfl))) ?_
            refine W.q (QV.q (O.ext ⟨rfl, rfl⟩ (vt rfl) rfl)) ?_
            refine W.q (QV.q (O.ext ⟨rfl, rfl⟩ (vt rfl) rfl)) ?_
            refine W.al rfl rfl fun b14 => ?_
            refine W.st (vt rfl) (vt rfl) rfl ?_
            refine W.q (QV.q (O.as ⟨rfl, rfl⟩ (vt rfl))) ?_
            refine WL.nil (Q.tn ?_)
            refine CW.seq ?_
            refine CW.seq ?_
            refine CW.region ?_
            refine W.q (QV.q (O.mv ⟨rfl, rfl⟩ (vt rfl))) ?_
            refine W.q (O.call ⟨rfl, rfl⟩ (AV.cons (vt rfl) (AV.nil)) (fun _ w hw => law0_Num _ w)) ?_
            refine W.q (QV.q (O.neI ⟨rfl, rfl⟩ (vt rfl) (vt rfl))) ?_
            refine WL.nil (Q.tn ?_)
            refine CW.cond (vt rfl) (fun hc16 => ?_) (fun hc16 => ?_)
            · refine CW.seq ?_
              refine CW.region ?_
              refine W.q (QV.q (O.as ⟨rfl, rfl⟩ (vt rfl))) ?_
              refine WL.nil (Q.tn ?_)
              refine CW.ret (Q.tr (Q.tr ?_))
              refine ⟨_, [], (RVs.tmp rfl RVs.nil), List.nil_sublist _, ?_⟩
              refine ⟨congrArg Value.bool ?_, rfl⟩
              first | (exfalso; cases hc1; done) | skip
              all_goals
                have hk : 0 ≤ keep % 256 := by omega
                first | (exfalso; simp only [decide_eq_true_eq, decide_eq_false_iff_not] at *; omega) | skip
              all_goals by_cases ho : old.length ≤ 2048
              all_goals by_cases hn : old.length + next.length ≤ 2048
              all_goals first | (exfalso; omega) | skip
              all_goals have c1 := t_cut old [] 0 false (keep % 256) hk (.inr ⟨rfl, rfl⟩)
              all_goals have c2 := t_cut old next 0 true (keep % 256) hk (.inl rfl)
              all_goals have c3 := t_cut old next next.length true (keep % 256) hk (.inl rfl)
              all_goals have c4 := t_cut next [] 0 false (keep % 256) hk (.inr ⟨rfl, rfl⟩)
              all_goals first | (have hx : next.length ≤ 2048 := by omega) | skip
              all_goals first | (simp_all [t_app, t_appNo, t_sync, t_beg, t_begNo, t_set, t_swp]; done) | (simp_all [t_app, t_appNo, t_sync, t_beg, t_begNo, t_set, t_swp]; omega)
            · refine CW.skip (Q.tn ?_)
              refine CW.seq ?_
              refine CW.region ?_
              refine W.q (QV.q (O.lds ⟨rfl, rfl⟩ (vt rfl))) ?_
              refine W.st (vt rfl) (vt rfl) rfl ?_
              refine WL.nil (Q.tn ?_)
              refine CW.region ?_
              refine W.q (QV.q (O.mv ⟨rfl, rfl⟩ (vt rfl))) ?_
              refine W.q (QV.q (O.as ⟨rfl, rfl⟩ (vt rfl))) ?_
              refine WL.nil (Q.tn ?_)
              refine CW.seq ?_
              refine CW.region ?_
              refine W.q (QV.q (O.lds ⟨rfl, rfl⟩ (vt rfl))) ?_
              refine W.q (QV.q (O.mv ⟨rfl, rfl⟩ (vt rfl))) ?_
              refine W.q (QV.q (O.andM 8 256 ⟨rfl, rfl⟩ (vt rfl) (vt rfl) (by decide) (by decide) (by decide))) ?_
              refine W.q (O.call ⟨rfl, rfl⟩ (AV.cons (vt rfl) (AV.cons (vt rfl) (AV.nil))) (fun _ w hw => x_Crash _ _ _ _ _ _ w (by first | exact Nat.le_trans (Dk.turned_len _ _ _).1 (by decide) | exact Nat.le_trans (Dk.turned_len _ _ _).2 (by decide) | assumption | decide | (simp [top]; done) | omega) (by first | exact Nat.le_trans (Dk.turned_len _ _ _).1 (by decide) | exact Nat.le_trans (Dk.turned_len _ _ _).2 (by decide) | assumption | decide | (simp [top]; done) | omega))) ?_
              refine W.q (QV.q (O.mv ⟨rfl, rfl⟩ (vt rfl))) ?_
              refine W.q (QV.q (O.ext ⟨rfl, rfl⟩ (vt rfl) rfl)) ?_
              refine W.q (QV.q (O.ext ⟨rfl, rfl⟩ (vt rfl) rfl)) ?_
              refine W.al rfl rfl fun b15 => ?_
              refine W.st (vt rfl) (vt rfl) rfl ?_
              refine W.q (QV.q (O.as ⟨rfl, rfl⟩ (vt rfl))) ?_
              refine WL.nil (Q.tn ?_)
              refine CW.seq ?_
              refine CW.region ?_
              refine W.q (QV.q (O.mv ⟨rfl, rfl⟩ (vt rfl))) ?_
              refine W.q (O.call ⟨rfl, rfl⟩ (AV.cons (vt rfl) (AV.nil)) (fun _ w hw => law0_Num _ w)) ?_
              refine W.q (QV.q (O.eqI ⟨rfl, rfl⟩ (vt rfl) (vt rfl))) ?_
              refine W.q (QV.q (O.mv ⟨rfl, rfl⟩ (vt rfl))) ?_
              refine W.q (QV.q (O.lds ⟨rfl, rfl⟩ (vt rfl))) ?_
              refine W.q (QV.q (O.mv ⟨rfl, rfl⟩ (vt rfl))) ?_
              refine W.q (QV.q (O.mv ⟨rfl, rfl⟩ (vt rfl))) ?_
              refine W.q (QV.q (O.len ⟨rfl, rfl⟩ (vs rfl))) ?_
              refine W.q (QV.q (O.bd ⟨rfl, rfl⟩ (PV.cons (vs rfl) (PV.cons (vs rfl) (PV.nil))))) ?_
              refine W.q (QV.q (O.eqT ⟨rfl, rfl⟩ (vs rfl) (vs rfl) rfl)) ?_
              refine W.q (QV.q (O.pkB ⟨rfl, rfl⟩ (vt rfl) (vs rfl) (vt rfl))) ?_
              refine W.q (QV.q (O.as ⟨rfl, rfl⟩ (vt rfl))) ?_
              refine WL.nil (Q.tn ?_)
              refine CW.ret ?_
              refine ⟨_, [], (RVs.tmp rfl RVs.nil), List.nil_sublist _, ?_⟩
              refine ⟨congrArg Value.bool ?_, rfl⟩
              first | (exfalso; cases hc1; done) | skip
              all_goals
                have hk : 0 ≤ keep % 256 := by omega
                first | (exfalso; simp only [decide_eq_true_eq, decide_eq_false_iff_not] at *; omega) | skip
              all_goals by_cases ho : old.length ≤ 2048
              all_goals by_cases hn : old.length + next.length ≤ 2048
              all_goals first | (exfalso; omega) | skip
              all_goals have c1 := t_cut old [] 0 false (keep % 256) hk (.inr ⟨rfl, rfl⟩)
              all_goals have c2 := t_cut old next 0 true (keep % 256) hk (.inl rfl)
              all_goals have c3 := t_cut old next next.length true (keep % 256) hk (.inl rfl)
              all_goals have c4 := t_cut next [] 0 false (keep % 256) hk (.inr ⟨rfl, rfl⟩)
              all_goals first | (have hx : next.length ≤ 2048 := by omega) | skip
              all_goals first | (simp_all [t_app, t_appNo, t_sync, t_beg, t_begNo, t_set, t_swp]; done) | (simp_all [t_app, t_appNo, t_sync, t_beg, t_begNo, t_set, t_swp]; omega)
          · refine CW.skip (Q.tn ?_)
            refine CW.seq ?_
            refine CW.region ?_
            refine W.q (QV.q (O.lds ⟨rfl, rfl⟩ (vt rfl))) ?_
            refine W.q (QV.q (O.mv ⟨rfl, rfl⟩ (vt rfl))) ?_
            refine W.q (QV.q (O.andM 8 256 ⟨rfl, rfl⟩ (vt rfl) (vt rfl) (by decide) (by decide) (by decide))) ?_
            refine W.q (O.call ⟨rfl, rfl⟩ (AV.cons (vt rfl) (AV.cons (vt rfl) (AV.nil))) (fun _ w hw => x_Crash _ _ _ _ _ _ w (by first | exact Nat.le_trans (Dk.turned_len _ _ _).1 (by decide) | exact Nat.le_trans (Dk.turned_len _ _ _).2 (by decide) | assumption | decide | (simp [top]; done) | omega) (by first | exact Nat.le_trans (Dk.turned_len _ _ _).1 (by decide) | exact Nat.le_trans (Dk.turned_len _ _ _).2 (by decide) | assumption | decide | (simp [top]; done) | omega))) ?_
            refine W.q (QV.q (O.mv ⟨rfl, rfl⟩ (vt rfl))) ?_
            refine W.q (QV.q (O.ext ⟨rfl, rfl⟩ (vt rfl) rfl)) ?_
            refine W.q (QV.q (O.ext ⟨rfl, rfl⟩ (vt rfl) rfl)) ?_
            refine W.al rfl rfl fun b16 => ?_
            refine W.st (vt rfl) (vt rfl) rfl ?_
            refine W.q (QV.q (O.as ⟨rfl, rfl⟩ (vt rfl))) ?_
            refine WL.nil (Q.tn ?_)
            refine CW.seq ?_
            refine CW.region ?_
            refine W.q (QV.q (O.mv ⟨rfl, rfl⟩ (vt rfl))) ?_
            refine W.q (O.call ⟨rfl, rfl⟩ (AV.cons (vt rfl) (AV.nil)) (fun _ w hw => law0_Num _ w)) ?_
            refine W.q (QV.q (O.eqI ⟨rfl, rfl⟩ (vt rfl) (vt rfl))) ?_
            refine W.q (QV.q (O.mv ⟨rfl, rfl⟩ (vt rfl))) ?_
            refine W.q (QV.q (O.lds ⟨rfl, rfl⟩ (vt rfl))) ?_
            refine W.q (QV.q (O.mv ⟨rfl, rfl⟩ (vt rfl))) ?_
            refine W.q (QV.q (O.mv ⟨rfl, rfl⟩ (vt rfl))) ?_
            refine W.q (QV.q (O.len ⟨rfl, rfl⟩ (vs rfl))) ?_
            refine W.q (QV.q (O.bd ⟨rfl, rfl⟩ (PV.cons (vs rfl) (PV.cons (vs rfl) (PV.nil))))) ?_
            refine W.q (QV.q (O.eqT ⟨rfl, rfl⟩ (vs rfl) (vs rfl) rfl)) ?_
            refine W.q (QV.q (O.pkB ⟨rfl, rfl⟩ (vt rfl) (vs rfl) (vt rfl))) ?_
            refine W.q (QV.q (O.as ⟨rfl, rfl⟩ (vt rfl))) ?_
            refine WL.nil (Q.tn ?_)
            refine CW.ret ?_
            refine ⟨_, [], (RVs.tmp rfl RVs.nil), List.nil_sublist _, ?_⟩
            refine ⟨congrArg Value.bool ?_, rfl⟩
            first | (exfalso; cases hc1; done) | skip
            all_goals
              have hk : 0 ≤ keep % 256 := by omega
              first | (exfalso; simp only [decide_eq_true_eq, decide_eq_false_iff_not] at *; omega) | skip
            all_goals by_cases ho : old.length ≤ 2048
            all_goals by_cases hn : old.length + next.length ≤ 2048
            all_goals first | (exfalso; omega) | skip
            all_goals have c1 := t_cut old [] 0 false (keep % 256) hk (.inr ⟨rfl, rfl⟩)
            all_goals have c2 := t_cut old next 0 true (keep % 256) hk (.inl rfl)
            all_goals have c3 := t_cut old next next.length true (keep % 256) hk (.inl rfl)
            all_goals have c4 := t_cut next [] 0 false (keep % 256) hk (.inr ⟨rfl, rfl⟩)
            all_goals first | (have hx : next.length ≤ 2048 := by omega) | skip
            all_goals first | (simp_all [t_app, t_appNo, t_sync, t_beg, t_begNo, t_set, t_swp]; done) | (simp_all [t_app, t_appNo, t_sync, t_beg, t_begNo, t_set, t_swp]; omega)
end Go.Proofs.Ytmhjcmpokjhhcaa
