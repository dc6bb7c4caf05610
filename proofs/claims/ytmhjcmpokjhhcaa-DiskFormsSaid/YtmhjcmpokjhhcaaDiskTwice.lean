/- What pinfoldlaw22.DiskTwice answers: true. Conditions: the texts of the disk are not longer than some 2^47 bytes. -/
import Derived.Test.YtmhjcmpokjhhcaaDiskLaw
import Derived.Test.YtmhjcmpokjhhcaaMore
set_option linter.unusedVariables false
set_option linter.unusedSimpArgs false
namespace Go.Proofs.Ytmhjcmpokjhhcaa
open Go Go.RowKit
theorem Dk.may_syncd {d : Dk} (h : d.may = true) : d.syncd.may = true ∧ d.syncd.log.length + d.syncd.nxt.length ≤ 2048 := by
  rw [Dk.may_iff] at h ⊢; simp only [Dk.syncd]; exact ⟨⟨h.1, by omega, by omega, by omega, h.2.2.2.2⟩, by omega⟩
theorem Dk.may_cut {d : Dk} {k : Int} (h : d.may = true) (hk : 0 ≤ k) : (d.cut k).may = true ∧ (d.cut k).log.length + (d.cut k).nxt.length ≤ 2048 := by
  rw [Dk.may_iff] at h ⊢
  simp only [Dk.cut, Dk.zero, List.length_take, List.length_nil, true_and]; refine ⟨⟨.inr trivial, ?_⟩, ?_⟩ <;> omega
theorem Dk.eta (d : Dk) : (⟨d.log, d.syn, d.bes, d.nxt, d.kep⟩ : Dk) = d := rfl
theorem Dk.cut_log {d : Dk} {k : Int} (h : d.may = true) (hk : 0 ≤ k) : (d.syncd.cut k).log = d.log ∧ (d.cut k).log.length ≤ d.log.length ∧ d.log.take (d.cut k).log.length = (d.cut k).log ∧ d.syn ≤ (d.cut k).log.length := by
  rw [Dk.may_iff] at h
  have e1 : ((d.log.length : Int) + min k (d.log.length - d.log.length)).toNat = d.log.length := by omega
  have e2 : (d.syn + min k (d.log.length - d.syn)).toNat ≤ d.log.length := by omega
  simp only [Dk.cut, Dk.syncd, e1, List.length_take, List.take_length, Nat.min_eq_left e2, true_and]
  exact ⟨e2, by omega⟩
theorem Dk.syncd_syncd (d : Dk) : d.syncd.syncd = d.syncd := rfl
theorem Dk.cut_cut {d : Dk} {k m : Int} (h : d.may = true) (hk : 0 ≤ k) (hm : 0 ≤ m) : (d.cut k).cut m = d.cut k := by
  rw [Dk.may_iff] at h
  have e : (d.syn + min k (d.log.length - d.syn)).toNat ≤ d.log.length := by omega
  have e2 : min m (((d.log.take (d.syn + min k (d.log.length - d.syn)).toNat).length : Int) - (d.syn + min k (d.log.length - d.syn))) = 0 := by rw [List.length_take]; omega
  simp only [Dk.cut, e2, Int.add_zero, List.take_take, Nat.min_self]
theorem Dk.turned_syncd {d : Dk} (h : d.may = true) : d.turned true d.syncd = (d.syncd, 0) := Dk.turned_ok ⟨h, rfl⟩ (Dk.may_syncd h).2
theorem Dk.turned_cut {d : Dk} {k : Int} (h : d.may = true) (hk : 0 ≤ k) : d.turned (decide (0 ≤ k)) (d.cut k) = (d.cut k, 0) := Dk.turned_ok ⟨h, by simpa using hk⟩ (Dk.may_cut h hk).2
theorem Dk.twice {d : Dk} {a : Dk × Int} {k m : Int} (ha : d.turned true d.syncd = a) (hk : 0 ≤ k) (hm : 0 ≤ m) (h0 : a.2 = 0) : d.may = true ∧ a.1 = d.syncd := by
  subst ha
  cases h : d.may with
  | true => rw [Dk.turned_syncd h]; exact ⟨rfl, rfl⟩
  | false => rw [Dk.turned_no (.inl h)] at h0; cases h0
set_option maxRecDepth 100000 in
theorem law22_DiskTwice (log : List UInt8) (syn : Int) (bes : Bool) (nxt : List UInt8) (kep : Int) (keep more : Int) (w : World) (h1 : log.length ≤ top) (h2 : nxt.length ≤ top) :
    Fn Try.prog 7 [.agg #[.string (S log), .int .i64 syn, .bool bes, .string (S nxt), .int .i64 kep], .int .i64 keep, .int .i64 more] w [] fun v L' => v = .bool true ∧ L' = [] := by
  refine Fn.enter Try.func7 rfl rfl rfl rfl (Holds.nil w) ?_
  refine CW.seq ?_
  refine CW.region ?_
  refine W.bx rfl (vt rfl) rfl fun b1 => ?_
  refine W.q (QV.q (O.as ⟨rfl, rfl⟩ (vt rfl))) ?_
  refine WL.nil (Q.tn ?_)
  refine CW.seq ?_
  refine CW.seq ?_
  refine CW.region ?_
  refine W.q (O.call ⟨rfl, rfl⟩ (AV.nil) (fun _ w hw => law22_awake w)) ?_
  refine W.q (QV.q (O.nt ⟨rfl, rfl⟩ (vt rfl))) ?_
  refine WL.nil (Q.tn ?_)
  refine CW.cond (vt rfl) (fun hc1 => ?_) (fun hc1 => ?_)
  · refine CW.seq ?_
    refine CW.region ?_
    refine W.q (QV.q (O.as ⟨rfl, rfl⟩ (vt rfl))) ?_
    refine WL.nil (Q.tn ?_)
    refine CW.ret (Q.tr ?_)
    refine ⟨_, [], (RVs.tmp rfl RVs.nil), List.nil_sublist _, ?_⟩
    refine ⟨congrArg Value.bool ?_, rfl⟩
    first | (exfalso; cases hc1; done) | skip
    all_goals
      generalize hd : (⟨log, syn, bes, nxt, kep⟩ : Dk) = d at *
      obtain rfl : log = d.log := by rw [← hd]
      obtain rfl : syn = d.syn := by rw [← hd]
      cases hm : d.may
      · first | (exfalso; simp [Dk.turned_no (.inl hm)] at hc2; done) | (exfalso; cases hc1; done) | (simp [Dk.turned_no (.inl hm), Dk.zero]; done)
      have f1 := Dk.turned_syncd hm
      have f2 := Dk.turned_syncd (Dk.may_syncd hm).1
      have f3 := Dk.turned_cut hm (k := keep % 256) (by omega)
      have f4 := Dk.turned_cut (Dk.may_cut hm (k := keep % 256) (by omega)).1 (k := more % 256) (by omega)
      have f5 := Dk.turned_cut (Dk.may_syncd hm).1 (k := keep % 256) (by omega)
      have f6 := Dk.cut_cut hm (k := keep % 256) (m := more % 256) (by omega) (by omega)
      rw [Dk.syncd_syncd] at f2
      rw [f6] at f4
      first | (exfalso; simp [f1] at hc2; done) | (exfalso; cases hc1; done) | (obtain ⟨g1, g2, g3, g4⟩ := Dk.cut_log hm (k := keep % 256) (by omega); simp [f1, f2, f3, f4, f5, f6, Dk.eta, Dk.syncd_syncd, g1, g2, g3, g4]; rfl)
  · refine CW.skip (Q.tn ?_)
    refine CW.seq ?_
    refine CW.region ?_
    refine W.q (QV.q (O.lds ⟨rfl, rfl⟩ (vt rfl))) ?_
    refine W.q (O.call ⟨rfl, rfl⟩ (AV.cons (vt rfl) (AV.nil)) (fun _ w hw => x_Sync _ _ _ _ _ w (by first | exact Nat.le_trans (Dk.turned_len _ _ _).1 (by decide) | exact Nat.le_trans (Dk.turned_len _ _ _).2 (by decide) | assumption | decide | (simp [top]; done) | omega) (by first | exact Nat.le_trans (Dk.turned_len _ _ _).1 (by decide) | exact Nat.le_trans (Dk.turned_len _ _ _).2 (by decide) | assumption | decide | (simp [top]; done) | omega))) ?_
    refine W.q (QV.q (O.mv ⟨rfl, rfl⟩ (vt rfl))) ?_
    refine W.q (QV.q (O.ext ⟨rfl, rfl⟩ (vt rfl) rfl)) ?_
    refine W.q (QV.q (O.ext ⟨rfl, rfl⟩ (vt rfl) rfl)) ?_
    refine W.al rfl rfl fun b2 => ?_
    refine W.st (vt rfl) (vt rfl) rfl ?_
    refine W.q (QV.q (O.as ⟨rfl, rfl⟩ (vt rfl))) ?_
    refine WL.nil (Q.tn ?_)
    refine CW.seq ?_
    refine CW.seq ?_
    refine CW.region ?_
    refine W.q (QV.q (O.mv ⟨rfl, rfl⟩ (vt rfl))) ?_
    refine W.q (O.call ⟨rfl, rfl⟩ (AV.cons (vt rfl) (AV.nil)) (fun _ w hw => law0_Num _ w)) ?_
    refine W.q (QV.q (O.neI ⟨rfl, rfl⟩ (vt rfl) (vt rfl))) ?_
    refine WL.nil (Q.tn ?_)
    refine CW.cond (vt rfl) (fun hc2 => ?_) (fun hc2 => ?_)
    · refine CW.seq ?_
      refine CW.region ?_
      refine W.q (QV.q (O.lds ⟨rfl, rfl⟩ (vt rfl))) ?_
      refine W.q (QV.q (O.bd ⟨rfl, rfl⟩ (PV.nil))) ?_
      refine W.q (QV.q (O.eqT ⟨rfl, rfl⟩ (vt rfl) (vt rfl) rfl)) ?_
      refine W.q (QV.q (O.as ⟨rfl, rfl⟩ (vt rfl))) ?_
      refine WL.nil (Q.tn ?_)
      refine CW.ret (Q.tr ?_)
      refine ⟨_, [], (RVs.tmp rfl RVs.nil), List.nil_sublist _, ?_⟩
      refine ⟨congrArg Value.bool ?_, rfl⟩
      first | (exfalso; cases hc1; done) | skip
      all_goals
        generalize hd : (⟨log, syn, bes, nxt, kep⟩ : Dk) = d at *
        obtain rfl : log = d.log := by rw [← hd]
        obtain rfl : syn = d.syn := by rw [← hd]
        cases hm : d.may
        · first | (exfalso; simp [Dk.turned_no (.inl hm)] at hc2; done) | (exfalso; cases hc1; done) | (simp [Dk.turned_no (.inl hm), Dk.zero]; done)
        have f1 := Dk.turned_syncd hm
        have f2 := Dk.turned_syncd (Dk.may_syncd hm).1
        have f3 := Dk.turned_cut hm (k := keep % 256) (by omega)
        have f4 := Dk.turned_cut (Dk.may_cut hm (k := keep % 256) (by omega)).1 (k := more % 256) (by omega)
        have f5 := Dk.turned_cut (Dk.may_syncd hm).1 (k := keep % 256) (by omega)
        have f6 := Dk.cut_cut hm (k := keep % 256) (m := more % 256) (by omega) (by omega)
        rw [Dk.syncd_syncd] at f2
        rw [f6] at f4
        first | (exfalso; simp [f1] at hc2; done) | (exfalso; cases hc1; done) | (obtain ⟨g1, g2, g3, g4⟩ := Dk.cut_log hm (k := keep % 256) (by omega); simp [f1, f2, f3, f4, f5, f6, Dk.eta, Dk.syncd_syncd, g1, g2, g3, g4]; rfl)
    · refine CW.skip (Q.tn ?_)
      refine CW.seq ?_
      refine CW.region ?_
      refine W.q (QV.q (O.lds ⟨rfl, rfl⟩ (vt rfl))) ?_
      refine W.q (O.call ⟨rfl, rfl⟩ (AV.cons (vt rfl) (AV.nil)) (fun _ w hw => x_Sync _ _ _ _ _ w (by first | exact Nat.le_trans (Dk.turned_len _ _ _).1 (by decide) | exact Nat.le_trans (Dk.turned_len _ _ _).2 (by decide) | assumption | decide | (simp [top]; done) | omega) (by first | exact Nat.le_trans (Dk.turned_len _ _ _).1 (by decide) | exact Nat.le_trans (Dk.turned_len _ _ _).2 (by decide) | assumption | decide | (simp [top]; done) | omega))) ?_
      refine W.q (QV.q (O.mv ⟨rfl, rfl⟩ (vt rfl))) ?_
      refine W.q (QV.q (O.ext ⟨rfl, rfl⟩ (vt rfl) rfl)) ?_
      refine W.q (QV.q (O.ext ⟨rfl, rfl⟩ (vt rfl) rfl)) ?_
      refine W.al rfl rfl fun b3 => ?_
      refine W.st (vt rfl) (vt rfl) rfl ?_
      refine W.q (QV.q (O.as ⟨rfl, rfl⟩ (vt rfl))) ?_
      refine WL.nil (Q.tn ?_)
      refine CW.seq ?_
      refine CW.region ?_
      refine W.q (QV.q (O.lds ⟨rfl, rfl⟩ (vt rfl))) ?_
      refine W.q (QV.q (O.mv ⟨rfl, rfl⟩ (vt rfl))) ?_
      refine W.q (QV.q (O.andM 8 256 ⟨rfl, rfl⟩ (vt rfl) (vt rfl) (by decide) (by decide) (by decide))) ?_
      refine W.q (O.call ⟨rfl, rfl⟩ (AV.cons (vt rfl) (AV.cons (vt rfl) (AV.nil))) (fun _ w hw => x_Crash _ _ _ _ _ _ w (by first | exact Nat.le_trans (Dk.turned_len _ _ _).1 (by decide) | exact Nat.le_trans (Dk.turned_len _ _ _).2 (by decide) | assumption | decide | (simp [top]; done) | omega) (by first | exact Nat.le_trans (Dk.turned_len _ _ _).1 (by decide) | exact Nat.le_trans (Dk.turned_len _ _ _).2 (by decide) | assumption | decide | (simp [top]; done) | omega))) ?_
      refine W.q (QV.q (O.mv ⟨rfl, rfl⟩ (vt rfl))) ?_
      refine W.q (QV.q (O.ext ⟨rfl, rfl⟩ (vt rfl) rfl)) ?_
      refine W.q (QV.q (O.ext ⟨rfl, rfl⟩ (vt rfl) rfl)) ?_
      refine W.al rfl rfl fun b4 => ?_
      refine W.st (vt rfl) (vt rfl) rfl ?_
      refine W.q (QV.q (O.as ⟨rfl, rfl⟩ (vt rfl))) ?_
      refine WL.nil (Q.tn ?_)
      refine CW.seq ?_
      refine CW.region ?_
      refine W.q (QV.q (O.lds ⟨rfl, rfl⟩ (vt rfl))) ?_
      refine W.q (QV.q (O.mv ⟨rfl, rfl⟩ (vt rfl))) ?_
      refine W.q (QV.q (O.andM 8 256 ⟨rfl, rfl⟩ (vt rfl) (vt rfl) (by decide) (by decide) (by decide))) ?_
      refine W.q (O.call ⟨rfl, rfl⟩ (AV.cons (vt rfl) (AV.cons (vt rfl) (AV.nil))) (fun _ w hw => x_Crash _ _ _ _ _ _ w (by first | exact Nat.le_trans (Dk.turned_len _ _ _).1 (by decide) | exact Nat.le_trans (Dk.turned_len _ _ _).2 (by decide) | assumption | decide | (simp [top]; done) | omega) (by first | exact Nat.le_trans (Dk.turned_len _ _ _).1 (by decide) | exact Nat.le_trans (Dk.turned_len _ _ _).2 (by decide) | assumption | decide | (simp [top]; done) | omega))) ?_
      refine W.q (QV.q (O.mv ⟨rfl, rfl⟩ (vt rfl))) ?_
      refine W.q (QV.q (O.ext ⟨rfl, rfl⟩ (vt rfl) rfl)) ?_
      refine W.q (QV.q (O.ext ⟨rfl, rfl⟩ (vt rfl) rfl)) ?_
      refine W.al rfl rfl fun b5 => ?_
      refine W.st (vt rfl) (vt rfl) rfl ?_
      refine W.q (QV.q (O.as ⟨rfl, rfl⟩ (vt rfl))) ?_
      refine WL.nil (Q.tn ?_)
      refine CW.seq ?_
      refine CW.region ?_
      refine W.q (QV.q (O.lds ⟨rfl, rfl⟩ (vt rfl))) ?_
      refine W.q (QV.q (O.mv ⟨rfl, rfl⟩ (vt rfl))) ?_
      refine W.q (QV.q (O.andM 8 256 ⟨rfl, rfl⟩ (vt rfl) (vt rfl) (by decide) (by decide) (by decide))) ?_
      refine W.q (O.call ⟨rfl, rfl⟩ (AV.cons (vt rfl) (AV.cons (vt rfl) (AV.nil))) (fun _ w hw => x_Crash _ _ _ _ _ _ w (by first | exact Nat.le_trans (Dk.turned_len _ _ _).1 (by decide) | exact Nat.le_trans (Dk.turned_len _ _ _).2 (by decide) | assumption | decide | (simp [top]; done) | omega) (by first | exact Nat.le_trans (Dk.turned_len _ _ _).1 (by decide) | exact Nat.le_trans (Dk.turned_len _ _ _).2 (by decide) | assumption | decide | (simp [top]; done) | omega))) ?_
      refine W.q (QV.q (O.mv ⟨rfl, rfl⟩ (vt rfl))) ?_
      refine W.q (QV.q (O.ext ⟨rfl, rfl⟩ (vt rfl) rfl)) ?_
      refine W.q (QV.q (O.ext ⟨rfl, rfl⟩ (vt rfl) rfl)) ?_
      refine W.al rfl rfl fun b6 => ?_
      refine W.st (vt rfl) (vt rfl) rfl ?_
      refine W.q (QV.q (O.as ⟨rfl, rfl⟩ (vt rfl))) ?_
      refine WL.nil (Q.tn ?_)
      refine CW.seq ?_
      refine CW.draw 69 rfl (by kernel_rfl) ?_
      refine WQ.q (QV.q (O.mv ⟨rfl, rfl⟩ (vt rfl))) ?_
      refine WQ.q (O.call ⟨rfl, rfl⟩ (AV.cons (vt rfl) (AV.nil)) (fun _ w hw => law0_Num _ w)) ?_
      refine WQ.q (QV.q (O.eqI ⟨rfl, rfl⟩ (vt rfl) (vt rfl))) ?_
      refine WQ.q (QV.q (O.mv ⟨rfl, rfl⟩ (vt rfl))) ?_
      refine WQ.q (QV.q (O.lds ⟨rfl, rfl⟩ (vt rfl))) ?_
      refine WQ.q (QV.q (O.lds ⟨rfl, rfl⟩ (vt rfl))) ?_
      refine WQ.q (QV.q (O.eqT ⟨rfl, rfl⟩ (vs rfl) (vs rfl) rfl)) ?_
      refine WQ.q (QV.q (O.pkB ⟨rfl, rfl⟩ (vt rfl) (vs rfl) (vt rfl))) ?_
      refine WQ.q (QV.q (O.mv ⟨rfl, rfl⟩ (vt rfl))) ?_
      refine WQ.q (QV.q (O.mv ⟨rfl, rfl⟩ (vt rfl))) ?_
      refine WQ.q (O.call ⟨rfl, rfl⟩ (AV.cons (vs rfl) (AV.nil)) (fun _ w hw => law0_Num _ w)) ?_
      refine WQ.q (QV.q (O.eqI ⟨rfl, rfl⟩ (vs rfl) (vt rfl))) ?_
      refine WQ.q (QV.q (O.pkB ⟨rfl, rfl⟩ (vt rfl) (vs rfl) (vt rfl))) ?_
      refine WQ.q (QV.q (O.mv ⟨rfl, rfl⟩ (vt rfl))) ?_
      refine WQ.q (QV.q (O.mv ⟨rfl, rfl⟩ (vt rfl))) ?_
      refine WQ.q (O.call ⟨rfl, rfl⟩ (AV.cons (vs rfl) (AV.nil)) (fun _ w hw => law0_Num _ w)) ?_
      refine WQ.q (QV.q (O.eqI ⟨rfl, rfl⟩ (vs rfl) (vt rfl))) ?_
      refine WQ.q (QV.q (O.pkB ⟨rfl, rfl⟩ (vt rfl) (vs rfl) (vt rfl))) ?_
      refine WQ.q (QV.q (O.mv ⟨rfl, rfl⟩ (vt rfl))) ?_
      refine WQ.q (QV.q (O.lds ⟨rfl, rfl⟩ (vt rfl))) ?_
      refine WQ.q (QV.q (O.lds ⟨rfl, rfl⟩ (vt rfl))) ?_
      refine WQ.q (QV.q (O.eqT ⟨rfl, rfl⟩ (vs rfl) (vs rfl) rfl)) ?_
      refine WQ.q (QV.q (O.pkB ⟨rfl, rfl⟩ (vt rfl) (vs rfl) (vt rfl))) ?_
      refine WQ.q (QV.q (O.mv ⟨rfl, rfl⟩ (vt rfl))) ?_
      refine WQ.q (QV.q (O.mv ⟨rfl, rfl⟩ (vt rfl))) ?_
      refine WQ.q (O.call ⟨rfl, rfl⟩ (AV.cons (vs rfl) (AV.nil)) (fun _ w hw => law0_Num _ w)) ?_
      refine WQ.q (QV.q (O.eqI ⟨rfl, rfl⟩ (vs rfl) (vt rfl))) ?_
      refine WQ.q (QV.q (O.pkB ⟨rfl, rfl⟩ (vt rfl) (vs rfl) (vt rfl))) ?_
      refine WQ.q (QV.q (O.mv ⟨rfl, rfl⟩ (vt rfl))) ?_
      first | refine WQ.q (QV.q (O.fb ⟨rfl, rfl⟩ (vt rfl))) ?_ | refine WQ.q (QV.q (O.fa ⟨rfl, rfl⟩ (vt rfl))) ?_
      refine WQ.q (QV.q (O.ld ⟨rfl, rfl⟩ (vs rfl))) ?_
      first | refine WQ.q (QV.q (O.fb ⟨rfl, rfl⟩ (vt rfl))) ?_ | refine WQ.q (QV.q (O.fa ⟨rfl, rfl⟩ (vt rfl))) ?_
      refine WQ.q (QV.q (O.ld ⟨rfl, rfl⟩ (vs rfl))) ?_
      refine WQ.q (QV.q (O.eqS ⟨rfl, rfl⟩ (vs rfl) (vs rfl))) ?_
      refine WQ.q (QV.q (O.pkB ⟨rfl, rfl⟩ (vt rfl) (vs rfl) (vt rfl))) ?_
      refine WQ.q (QV.q (O.mv ⟨rfl, rfl⟩ (vt rfl))) ?_
      first | refine WQ.q (QV.q (O.fb ⟨rfl, rfl⟩ (vt rfl))) ?_ | refine WQ.q (QV.q (O.fa ⟨rfl, rfl⟩ (vt rfl))) ?_
      refine WQ.q (QV.q (O.ld ⟨rfl, rfl⟩ (vs rfl))) ?_
      refine WQ.q (QV.q (O.nt ⟨rfl, rfl⟩ (vs rfl))) ?_
      refine WQ.q (QV.q (O.pkB ⟨rfl, rfl⟩ (vt rfl) (vs rfl) (vt rfl))) ?_
      refine WQ.q (QV.q (O.mv ⟨rfl, rfl⟩ (vt rfl))) ?_
      first | refine WQ.q (QV.q (O.fb ⟨rfl, rfl⟩ (vt rfl))) ?_ | refine WQ.q (QV.q (O.fa ⟨rfl, rfl⟩ (vt rfl))) ?_
      refine WQ.q (QV.q (O.ld ⟨rfl, rfl⟩ (vs rfl))) ?_
      refine WQ.q (QV.q (O.len ⟨rfl, rfl⟩ (vs rfl))) ?_
      first | refine WQ.q (QV.q (O.fb ⟨rfl, rfl⟩ (vt rfl))) ?_ | refine WQ.q (QV.q (O.fa ⟨rfl, rfl⟩ (vt rfl))) ?_
      refine WQ.q (QV.q (O.ld ⟨rfl, rfl⟩ (vs rfl))) ?_
      refine WQ.q (QV.q (O.len ⟨rfl, rfl⟩ (vs rfl))) ?_
      refine WQ.q (QV.q (O.leq ⟨rfl, rfl⟩ (vs rfl) (vs rfl))) ?_
      refine WQ.q (QV.q (O.pkB ⟨rfl, rfl⟩ (vt rfl) (vs rfl) (vt rfl))) ?_
      refine WQ.q (QV.q (O.mv ⟨rfl, rfl⟩ (vt rfl))) ?_
      first | refine WQ.q (QV.q (O.fb ⟨rfl, rfl⟩ (vt rfl))) ?_ | refine WQ.q (QV.q (O.fa ⟨rfl, rfl⟩ (vt rfl))) ?_
      refine WQ.q (QV.q (O.ld ⟨rfl, rfl⟩ (vs rfl))) ?_
      first | refine WQ.q (QV.q (O.fb ⟨rfl, rfl⟩ (vt rfl))) ?_ | refine WQ.q (QV.q (O.fa ⟨rfl, rfl⟩ (vt rfl))) ?_
      refine WQ.q (QV.q (O.ld ⟨rfl, rfl⟩ (vs rfl))) ?_
      refine WQ.q (QV.q (O.len ⟨rfl, rfl⟩ (vs rfl))) ?_
      refine WQ.q (QV.q (O.slcH ⟨rfl, rfl⟩ (vs rfl) (vs rfl) (fun hg => by first | omega | (simp only [cond_true, cond_false, Bool.true_and, Bool.cond_false_right, Bool.cond_true_left, Bool.and_eq_true, Bool.or_eq_true, decide_eq_true_eq] at hg; omega)))) ?_
      first | refine WQ.q (QV.q (O.fb ⟨rfl, rfl⟩ (vt rfl))) ?_ | refine WQ.q (QV.q (O.fa ⟨rfl, rfl⟩ (vt rfl))) ?_
      refine WQ.q (QV.q (O.ld ⟨rfl, rfl⟩ (vs rfl))) ?_
      refine WQ.q (QV.q (O.eqS ⟨rfl, rfl⟩ (vs rfl) (vs rfl))) ?_
      refine WQ.q (QV.q (O.pkB ⟨rfl, rfl⟩ (vt rfl) (vs rfl) (vt rfl))) ?_
      refine WQ.q (QV.q (O.mv ⟨rfl, rfl⟩ (vt rfl))) ?_
      first | refine WQ.q (QV.q (O.fb ⟨rfl, rfl⟩ (vt rfl))) ?_ | refine WQ.q (QV.q (O.fa ⟨rfl, rfl⟩ (vt rfl))) ?_
      refine WQ.q (QV.q (O.ld ⟨rfl, rfl⟩ (vs rfl))) ?_
      refine WQ.q (QV.q (O.len ⟨rfl, rfl⟩ (vs rfl))) ?_
      first | refine WQ.q (QV.q (O.fb ⟨rfl, rfl⟩ (vt rfl))) ?_ | refine WQ.q (QV.q (O.fa ⟨rfl, rfl⟩ (vt rfl))) ?_
      refine WQ.q (QV.q (O.ld ⟨rfl, rfl⟩ (vs rfl))) ?_
      refine WQ.q (QV.q (O.geq ⟨rfl, rfl⟩ (vs rfl) (vs rfl))) ?_
      refine WQ.q (QV.q (O.pkB ⟨rfl, rfl⟩ (vt rfl) (vs rfl) (vt rfl))) ?_
      refine WQ.q (QV.q (O.as ⟨rfl, rfl⟩ (vt rfl))) ?_
      refine WQ.nil ?_
      refine WL.nil (Q.tn ?_)
      refine CW.ret ?_
      refine ⟨_, [], (RVs.tmp rfl RVs.nil), List.nil_sublist _, ?_⟩
      refine ⟨congrArg Value.bool ?_, rfl⟩
      first | (exfalso; cases hc1; done) | skip
      all_goals
        generalize hd : (⟨log, syn, bes, nxt, kep⟩ : Dk) = d at *
        obtain rfl : log = d.log := by rw [← hd]
        obtain rfl : syn = d.syn := by rw [← hd]
        cases hm : d.may
        · first | (exfalso; simp [Dk.turned_no (.inl hm)] at hc2; done) | (exfalso; cases hc1; done) | (simp [Dk.turned_no (.inl hm), Dk.zero]; done)
        have f1 := Dk.turned_syncd hm
        have f2 := Dk.turned_syncd (Dk.may_syncd hm).1
        have f3 := Dk.turned_cut hm (k := keep % 256) (by omega)
        have f4 := Dk.turned_cut (Dk.may_cut hm (k := keep % 256) (by omega)).1 (k := more % 256) (by omega)
        have f5 := Dk.turned_cut (Dk.may_syncd hm).1 (k := keep % 256) (by omega)
        have f6 := Dk.cut_cut hm (k := keep % 256) (m := more % 256) (by omega) (by omega)
        rw [Dk.syncd_syncd] at f2
        rw [f6] at f4
        first | (exfalso; simp [f1] at hc2; done) | (exfalso; cases hc1; done) | (obtain ⟨g1, g2, g3, g4⟩ := Dk.cut_log hm (k := keep % 256) (by omega); simp [f1, f2, f3, f4, f5, f6, Dk.eta, Dk.syncd_syncd, g1, g2, g3, g4]; rfl)
end Go.Proofs.Ytmhjcmpokjhhcaa
