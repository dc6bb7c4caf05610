/- The statement DnsHeads: its walk. Conditions: what comes in is not longer than some millions. -/
import Derived.Test.YtkjcmdgideddnaaL5b
import Derived.Test.YtkjcmdgideddnaaBits
set_option linter.unusedVariables false
set_option linter.unusedSimpArgs false
namespace Go.Proofs.Ytkjcmdgideddnaa
open Go Go.RowKit
theorem fold_q_ex : ∀ (l : List Qn') (st : List UInt8 × List Kn), ∃ t, (l.foldl qPut st).1 = st.1 ++ t
  | [], st => ⟨[], by simp⟩
  | x :: l, st => by
    obtain ⟨t, h⟩ := fold_q_ex l (qPut st x)
    exact ⟨_, by rw [List.foldl_cons, h, qPut, List.append_assoc]⟩
theorem fold_r_ex : ∀ (l : List RR) (st : List UInt8 × List Kn), ∃ t, (l.foldl rPut st).1 = st.1 ++ t
  | [], st => ⟨[], by simp⟩
  | x :: l, st => by
    obtain ⟨t, h⟩ := fold_r_ex l (rPut st x)
    exact ⟨_, by rw [List.foldl_cons, h, rPut, List.append_assoc]⟩
theorem dWrite_hd (m : Dn) : ∃ z, dWrite m = dHd m ++ z := by
  obtain ⟨a, ha⟩ := fold_q_ex m.qs (dHd m, [])
  obtain ⟨b, hb⟩ := fold_r_ex (dAll m) (dQs m)
  exact ⟨a ++ (b ++ dOpt m), by rw [dWrite, dRs, hb, dQs, ha]; simp only [List.append_assoc]⟩
abbrev B2 (s : List UInt8) (i j : Int) : Int := bits .or .i64 (IntKind.i64.wrap (((s.getD i.toNat 0).toNat : Int) * 2 ^ (8 : Int).toNat)) ((s.getD j.toNat 0).toNat : Int)
theorem dn_at {m : Dn} (h : dnMay m = true) : B2 (dWrite m) 0 1 = m.id ∧ B2 (dWrite m) 2 3 = dBits m ∧ B2 (dWrite m) 4 5 = m.qs.length ∧ B2 (dWrite m) 6 7 = m.an.length ∧ B2 (dWrite m) 8 9 = m.se.length ∧ B2 (dWrite m) 10 11 = m.ad.length + flg (!decide (m.size = 0)) 1 := by
  obtain ⟨z, e⟩ := dWrite_hd m
  have hl := dWrite_lo m
  obtain ⟨a, b, c, d, f, g⟩ := hd_nums h z
  rw [← e] at a b c d f g
  exact ⟨(BE2_num (k := 0) (by omega) (by omega)).trans a, (BE2_num (k := 2) (by omega) (by omega)).trans b, (BE2_num (k := 4) (by omega) (by omega)).trans c, (BE2_num (k := 6) (by omega) (by omega)).trans d, (BE2_num (k := 8) (by omega) (by omega)).trans f, (BE2_num (k := 10) (by omega) (by omega)).trans g⟩
set_option maxRecDepth 100000 in
set_option maxHeartbeats 2000000 in
theorem law5_DnsHeads (m : Dn) (aq : Option Addr) (cq : Nat) (aa : Option Addr) (ca : Nat) (az : Option Addr) (cz : Nat) (ad : Option Addr) (cd : Nat) (w : World) (h1 : In w aq (m.qs.flatMap encQ)) (h2 : In w aa (m.an.flatMap encR)) (h3 : In w az (m.se.flatMap encR)) (h4 : In w ad (m.ad.flatMap encR)) (g1 : m.qs.length ≤ 1048576) (g2 : ∀ x ∈ m.qs, x.name.length ≤ 1048576) (g3 : m.an.length ≤ 1048576) (g4 : ∀ x ∈ m.an, x.name.length ≤ 1048576) (g5 : ∀ x ∈ m.an, x.target.length ≤ 1048576) (g6 : m.se.length ≤ 1048576) (g7 : ∀ x ∈ m.se, x.name.length ≤ 1048576) (g8 : ∀ x ∈ m.se, x.target.length ≤ 1048576) (g9 : m.ad.length ≤ 1048576) (ga : ∀ x ∈ m.ad, x.name.length ≤ 1048576) (gb : ∀ x ∈ m.ad, x.target.length ≤ 1048576) : Fn Try.prog 32 [vDn m (aq, cq) (aa, ca) (az, cz) (ad, cd)] w [] fun v L' => v = .bool true ∧ L' = [] := by
  have hin : DnIn w m (aq, cq) (aa, ca) (az, cz) (ad, cd) := ⟨h1, h2, h3, h4⟩
  have hz : DnSz m 1048576 := ⟨⟨g1, g2⟩, ⟨g3, fun x hx => ⟨g4 x hx, g5 x hx⟩⟩, ⟨g6, fun x hx => ⟨g7 x hx, g8 x hx⟩⟩, ⟨g9, fun x hx => ⟨ga x hx, gb x hx⟩⟩⟩
  refine Fn.enter Try.func32 rfl rfl rfl rfl (Holds.nil w) ?_
  refine CW.seq ?_
  refine CW.region ?_
  refine W.bx rfl (vt rfl) rfl fun b1 => ?_
  refine W.p O.as ?_
  refine WL.nil (Q.tn ?_)
  refine CW.seq ?_
  refine CW.seq ?_
  refine CW.region ?_
  refine W.q (O.call ⟨rfl, rfl⟩ (AV.nil) (fun _ w hw => law5_awake w)) ?_
  refine W.p O.nt ?_
  refine WL.nil (Q.tn ?_)
  refine CW.cond (vt rfl) (fun hc1 => ?_) (fun hc1 => ?_)
  · exact absurd hc1 (by decide)
  try simp only [sk] at hc1
  refine CW.skip (Q.tn ?_)
  refine CW.seq ?_
  refine CW.region ?_
  refine W.p O.lds ?_
  refine W.q (O.call ⟨rfl, rfl⟩ (AV.cons (vt rfl) (AV.cons (vt rfl) (AV.nil))) (fun _ w hw => dn_Put m (aq, cq) (aa, ca) (az, cz) (ad, cd) _ w (hin.upd hw) (hz.le (by decide)))) ?_
  refine W.p O.mv ?_
  first | refine W.p O.extL ?_ | refine W.p O.ext ?_
  first | refine W.p O.extL ?_ | refine W.p O.ext ?_
  refine W.p O.as ?_
  refine W.p O.as ?_
  refine WL.nil (Q.tn ?_)
  refine CW.seq ?_
  refine CW.seq ?_
  refine CW.region ?_
  refine W.p O.mv ?_
  refine W.q (O.call ⟨rfl, rfl⟩ (AV.cons (vt rfl) (AV.nil)) (fun _ w hw => law0_Num _ w)) ?_
  refine W.p O.neI ?_
  refine W.p O.mv ?_
  refine W.p O.mv ?_
  refine W.p O.len ?_
  refine W.p O.lss ?_
  refine W.p O.pkB ?_
  refine WL.nil (Q.tn ?_)
  refine CW.cond (vt rfl) (fun hc2 => ?_) (fun hc2 => ?_)
  · try simp only [sk] at hc2
    refine CW.seq ?_
    refine CW.region ?_
    refine W.p O.mv ?_
    refine W.p O.eqS ?_
    refine W.p O.as ?_
    refine WL.nil (Q.tn ?_)
    refine CW.ret (Q.tr ?_)
    refine ⟨_, [], (RVs.tmp rfl RVs.nil), List.nil_sublist _, ?_⟩
    refine ⟨?_, rfl⟩
    have hm : ¬ dnMay m = true := by intro h; rw [put_big, if_pos h] at hc2; have := dWrite_lo m; rcases hc2 with h2 | h2; exact h2 rfl; (dsimp only at h2; omega)
    rw [put_big, if_neg hm]; rfl
  try simp only [sk] at hc2
  refine CW.skip (Q.tn ?_)
  refine CW.seq ?_
  refine CW.draw 9 rfl (by kernel_rfl) ?_
  refine WQ.p O.mv ?_
  first | refine WQ.p O.idxS ?_ | refine WQ.p (O.idxS (h := fun hg => by simp only [cond_true, cond_false, Bool.true_and, Bool.cond_false_right, Bool.cond_true_left, Bool.and_eq_true, Bool.or_eq_true, Bool.or_eq_false_iff, Bool.and_eq_false_iff, Bool.not_eq_true', Bool.not_eq_false', decide_eq_true_eq, decide_eq_false_iff_not, Int.reduceToNat] at *; omega)) ?_
  first | refine WQ.p O.cvB ?_ | refine WQ.p O.cv ?_
  refine WQ.p O.shl ?_
  refine WQ.p O.mv ?_
  first | refine WQ.p O.idxS ?_ | refine WQ.p (O.idxS (h := fun hg => by simp only [cond_true, cond_false, Bool.true_and, Bool.cond_false_right, Bool.cond_true_left, Bool.and_eq_true, Bool.or_eq_true, Bool.or_eq_false_iff, Bool.and_eq_false_iff, Bool.not_eq_true', Bool.not_eq_false', decide_eq_true_eq, decide_eq_false_iff_not, Int.reduceToNat] at *; omega)) ?_
  first | refine WQ.p O.cvB ?_ | refine WQ.p O.cv ?_
  refine WQ.p O.or ?_
  refine WQ.p O.as ?_
  refine WQ.nil ?_
  refine WL.nil (Q.tn ?_)
  refine CW.seq ?_
  refine CW.region ?_
  refine W.p O.as ?_
  refine WL.nil (Q.tn ?_)
  refine CW.seq ?_
  refine CW.seq ?_
  refine CW.region ?_
  first | refine W.p O.fb ?_ | refine W.p O.fa ?_
  refine W.p O.ld ?_
  refine W.p O.gtr ?_
  refine WL.nil (Q.tn ?_)
  refine CW.cond (vt rfl) (fun hc3 => ?_) (fun hc3 => ?_)
  · try simp only [sk] at hc3
    refine CW.region ?_
    refine W.p O.as ?_
    refine WL.nil (Q.tn ?_)
    refine CW.seq ?_
    refine CW.draw 122 rfl (by kernel_rfl) ?_
    refine WQ.p O.mv ?_
    first | refine WQ.p O.idxS ?_ | refine WQ.p (O.idxS (h := fun hg => by simp only [cond_true, cond_false, Bool.true_and, Bool.cond_false_right, Bool.cond_true_left, Bool.and_eq_true, Bool.or_eq_true, Bool.or_eq_false_iff, Bool.and_eq_false_iff, Bool.not_eq_true', Bool.not_eq_false', decide_eq_true_eq, decide_eq_false_iff_not, Int.reduceToNat] at *; omega)) ?_
    first | refine WQ.p O.cvB ?_ | refine WQ.p O.cv ?_
    refine WQ.p O.shl ?_
    refine WQ.p O.mv ?_
    first | refine WQ.p O.idxS ?_ | refine WQ.p (O.idxS (h := fun hg => by simp only [cond_true, cond_false, Bool.true_and, Bool.cond_false_right, Bool.cond_true_left, Bool.and_eq_true, Bool.or_eq_true, Bool.or_eq_false_iff, Bool.and_eq_false_iff, Bool.not_eq_true', Bool.not_eq_false', decide_eq_true_eq, decide_eq_false_iff_not, Int.reduceToNat] at *; omega)) ?_
    first | refine WQ.p O.cvB ?_ | refine WQ.p O.cv ?_
    refine WQ.p O.or ?_
    first | refine WQ.p O.fb ?_ | refine WQ.p O.fa ?_
    refine WQ.p O.ld ?_
    refine WQ.p O.eqI ?_
    refine WQ.p O.mv ?_
    refine WQ.p O.mv ?_
    refine WQ.p O.and ?_
    refine WQ.p O.neI ?_
    first | refine WQ.p O.fb ?_ | refine WQ.p O.fa ?_
    refine WQ.p O.ld ?_
    refine WQ.p O.eqB ?_
    refine WQ.p O.pkB ?_
    refine WQ.p O.mv ?_
    refine WQ.p O.mv ?_
    refine WQ.p O.shr ?_
    refine WQ.p (O.andM 4 16 (h := by decide) (hq := by decide) (hM := by decide)) ?_
    first | refine WQ.p O.fb ?_ | refine WQ.p O.fa ?_
    refine WQ.p O.ld ?_
    refine WQ.p O.eqI ?_
    refine WQ.p O.pkB ?_
    refine WQ.p O.mv ?_
    refine WQ.p O.mv ?_
    refine WQ.p O.and ?_
    refine WQ.p O.neI ?_
    first | refine WQ.p O.fb ?_ | refine WQ.p O.fa ?_
    refine WQ.p O.ld ?_
    refine WQ.p O.eqB ?_
    refine WQ.p O.pkB ?_
    refine WQ.p O.mv ?_
    refine WQ.p O.mv ?_
    refine WQ.p O.and ?_
    refine WQ.p O.neI ?_
    first | refine WQ.p O.fb ?_ | refine WQ.p O.fa ?_
    refine WQ.p O.ld ?_
    refine WQ.p O.eqB ?_
    refine WQ.p O.pkB ?_
    refine WQ.p O.mv ?_
    refine WQ.p O.mv ?_
    refine WQ.p O.and ?_
    refine WQ.p O.neI ?_
    first | refine WQ.p O.fb ?_ | refine WQ.p O.fa ?_
    refine WQ.p O.ld ?_
    refine WQ.p O.eqB ?_
    refine WQ.p O.pkB ?_
    refine WQ.p O.mv ?_
    refine WQ.p O.mv ?_
    refine WQ.p O.and ?_
    refine WQ.p O.eqI ?_
    refine WQ.p O.pkB ?_
    refine WQ.p O.mv ?_
    refine WQ.p O.mv ?_
    refine WQ.p (O.andM 4 16 (h := by decide) (hq := by decide) (hM := by decide)) ?_
    first | refine WQ.p O.fb ?_ | refine WQ.p O.fa ?_
    refine WQ.p O.ld ?_
    refine WQ.p O.eqI ?_
    refine WQ.p O.pkB ?_
    refine WQ.p O.mv ?_
    refine WQ.p O.mv ?_
    first | refine WQ.p O.idxS ?_ | refine WQ.p (O.idxS (h := fun hg => by simp only [cond_true, cond_false, Bool.true_and, Bool.cond_false_right, Bool.cond_true_left, Bool.and_eq_true, Bool.or_eq_true, Bool.or_eq_false_iff, Bool.and_eq_false_iff, Bool.not_eq_true', Bool.not_eq_false', decide_eq_true_eq, decide_eq_false_iff_not, Int.reduceToNat] at *; omega)) ?_
    first | refine WQ.p O.cvB ?_ | refine WQ.p O.cv ?_
    refine WQ.p O.shl ?_
    refine WQ.p O.mv ?_
    first | refine WQ.p O.idxS ?_ | refine WQ.p (O.idxS (h := fun hg => by simp only [cond_true, cond_false, Bool.true_and, Bool.cond_false_right, Bool.cond_true_left, Bool.and_eq_true, Bool.or_eq_true, Bool.or_eq_false_iff, Bool.and_eq_false_iff, Bool.not_eq_true', Bool.not_eq_false', decide_eq_true_eq, decide_eq_false_iff_not, Int.reduceToNat] at *; omega)) ?_
    first | refine WQ.p O.cvB ?_ | refine WQ.p O.cv ?_
    refine WQ.p O.or ?_
    first | refine WQ.p O.fb ?_ | refine WQ.p O.fa ?_
    refine WQ.p O.ld ?_
    refine WQ.p O.lenL ?_
    refine WQ.p O.eqI ?_
    refine WQ.p O.pkB ?_
    refine WQ.p O.mv ?_
    refine WQ.p O.mv ?_
    first | refine WQ.p O.idxS ?_ | refine WQ.p (O.idxS (h := fun hg => by simp only [cond_true, cond_false, Bool.true_and, Bool.cond_false_right, Bool.cond_true_left, Bool.and_eq_true, Bool.or_eq_true, Bool.or_eq_false_iff, Bool.and_eq_false_iff, Bool.not_eq_true', Bool.not_eq_false', decide_eq_true_eq, decide_eq_false_iff_not, Int.reduceToNat] at *; omega)) ?_
    first | refine WQ.p O.cvB ?_ | refine WQ.p O.cv ?_
    refine WQ.p O.shl ?_
    refine WQ.p O.mv ?_
    first | refine WQ.p O.idxS ?_ | refine WQ.p (O.idxS (h := fun hg => by simp only [cond_true, cond_false, Bool.true_and, Bool.cond_false_right, Bool.cond_true_left, Bool.and_eq_true, Bool.or_eq_true, Bool.or_eq_false_iff, Bool.and_eq_false_iff, Bool.not_eq_true', Bool.not_eq_false', decide_eq_true_eq, decide_eq_false_iff_not, Int.reduceToNat] at *; omega)) ?_
    first | refine WQ.p O.cvB ?_ | refine WQ.p O.cv ?_
    refine WQ.p O.or ?_
    first | refine WQ.p O.fb ?_ | refine WQ.p O.fa ?_
    refine WQ.p O.ld ?_
    refine WQ.p O.lenL ?_
    refine WQ.p O.eqI ?_
    refine WQ.p O.pkB ?_
    refine WQ.p O.mv ?_
    refine WQ.p O.mv ?_
    first | refine WQ.p O.idxS ?_ | refine WQ.p (O.idxS (h := fun hg => by simp only [cond_true, cond_false, Bool.true_and, Bool.cond_false_right, Bool.cond_true_left, Bool.and_eq_true, Bool.or_eq_true, Bool.or_eq_false_iff, Bool.and_eq_false_iff, Bool.not_eq_true', Bool.not_eq_false', decide_eq_true_eq, decide_eq_false_iff_not, Int.reduceToNat] at *; omega)) ?_
    first | refine WQ.p O.cvB ?_ | refine WQ.p O.cv ?_
    refine WQ.p O.shl ?_
    refine WQ.p O.mv ?_
    first | refine WQ.p O.idxS ?_ | refine WQ.p (O.idxS (h := fun hg => by simp only [cond_true, cond_false, Bool.true_and, Bool.cond_false_right, Bool.cond_true_left, Bool.and_eq_true, Bool.or_eq_true, Bool.or_eq_false_iff, Bool.and_eq_false_iff, Bool.not_eq_true', Bool.not_eq_false', decide_eq_true_eq, decide_eq_false_iff_not, Int.reduceToNat] at *; omega)) ?_
    first | refine WQ.p O.cvB ?_ | refine WQ.p O.cv ?_
    refine WQ.p O.or ?_
    first | refine WQ.p O.fb ?_ | refine WQ.p O.fa ?_
    refine WQ.p O.ld ?_
    refine WQ.p O.lenL ?_
    refine WQ.p O.eqI ?_
    refine WQ.p O.pkB ?_
    refine WQ.p O.mv ?_
    refine WQ.p O.mv ?_
    first | refine WQ.p O.idxS ?_ | refine WQ.p (O.idxS (h := fun hg => by simp only [cond_true, cond_false, Bool.true_and, Bool.cond_false_right, Bool.cond_true_left, Bool.and_eq_true, Bool.or_eq_true, Bool.or_eq_false_iff, Bool.and_eq_false_iff, Bool.not_eq_true', Bool.not_eq_false', decide_eq_true_eq, decide_eq_false_iff_not, Int.reduceToNat] at *; omega)) ?_
    first | refine WQ.p O.cvB ?_ | refine WQ.p O.cv ?_
    refine WQ.p O.shl ?_
    refine WQ.p O.mv ?_
    first | refine WQ.p O.idxS ?_ | refine WQ.p (O.idxS (h := fun hg => by simp only [cond_true, cond_false, Bool.true_and, Bool.cond_false_right, Bool.cond_true_left, Bool.and_eq_true, Bool.or_eq_true, Bool.or_eq_false_iff, Bool.and_eq_false_iff, Bool.not_eq_true', Bool.not_eq_false', decide_eq_true_eq, decide_eq_false_iff_not, Int.reduceToNat] at *; omega)) ?_
    first | refine WQ.p O.cvB ?_ | refine WQ.p O.cv ?_
    refine WQ.p O.or ?_
    first | refine WQ.p O.fb ?_ | refine WQ.p O.fa ?_
    refine WQ.p O.ld ?_
    refine WQ.p O.lenL ?_
    refine WQ.p O.mv ?_
    first | refine WQ.p O.addN ?_ | refine WQ.p O.add ?_
    refine WQ.p O.eqI ?_
    refine WQ.p O.pkB ?_
    refine WQ.p O.as ?_
    refine WQ.nil ?_
    refine WL.nil (Q.tn ?_)
    refine CW.ret ?_
    refine ⟨_, [], (RVs.tmp rfl RVs.nil), List.nil_sublist _, ?_⟩
    refine ⟨?_, rfl⟩
    have hm : dnMay m = true := by apply Decidable.byContradiction; intro h; rw [put_big, if_neg h] at hc2; exact absurd hc2.1 (by decide)
    have e : dnPut m 65535 = (dWrite m, 0) := by rw [put_big, if_pos hm]
    obtain ⟨x0, x2, x4, x6, x8, xa⟩ := dn_at hm
    have hb := bits_d hm 0 0 [] [] [] []
    have y1 : (!decide (bits .and .i64 (dBits m) 32768 = 0)) = m.resp := congrArg Dn.resp hb.1
    have y2 : dBits m / 2 ^ Int.toNat 11 % 16 = m.op := congrArg Dn.op hb.1
    have y3 : (!decide (bits .and .i64 (dBits m) 1024 = 0)) = m.auth := congrArg Dn.auth hb.1
    have y4 : (!decide (bits .and .i64 (dBits m) 512 = 0)) = m.trunc := congrArg Dn.trunc hb.1
    have y5 : (!decide (bits .and .i64 (dBits m) 256 = 0)) = m.recu := congrArg Dn.recu hb.1
    have y6 : dBits m % 16 = m.code := congrArg Dn.code hb.1
    have y7 := hb.2.1
    have y8 : flg (!decide (m.size = 0)) 1 = 1 := by rw [decide_eq_false (by omega)]; rfl
    rw [y8] at xa
    unfold B2 at x0 x2 x4 x6 x8 xa
    rw [e]
    dsimp only
    rw [x0, x2, x4, x6, x8, xa, y1, y2, y3, y4, y5, y6, y7]
    simp [oneOr]
  try simp only [sk] at hc3
  refine CW.skip (Q.tn ?_)
  refine CW.seq ?_
  refine CW.draw 122 rfl (by kernel_rfl) ?_
  refine WQ.p O.mv ?_
  first | refine WQ.p O.idxS ?_ | refine WQ.p (O.idxS (h := fun hg => by simp only [cond_true, cond_false, Bool.true_and, Bool.cond_false_right, Bool.cond_true_left, Bool.and_eq_true, Bool.or_eq_true, Bool.or_eq_false_iff, Bool.and_eq_false_iff, Bool.not_eq_true', Bool.not_eq_false', decide_eq_true_eq, decide_eq_false_iff_not, Int.reduceToNat] at *; omega)) ?_
  first | refine WQ.p O.cvB ?_ | refine WQ.p O.cv ?_
  refine WQ.p O.shl ?_
  refine WQ.p O.mv ?_
  first | refine WQ.p O.idxS ?_ | refine WQ.p (O.idxS (h := fun hg => by simp only [cond_true, cond_false, Bool.true_and, Bool.cond_false_right, Bool.cond_true_left, Bool.and_eq_true, Bool.or_eq_true, Bool.or_eq_false_iff, Bool.and_eq_false_iff, Bool.not_eq_true', Bool.not_eq_false', decide_eq_true_eq, decide_eq_false_iff_not, Int.reduceToNat] at *; omega)) ?_
  first | refine WQ.p O.cvB ?_ | refine WQ.p O.cv ?_
  refine WQ.p O.or ?_
  first | refine WQ.p O.fb ?_ | refine WQ.p O.fa ?_
  refine WQ.p O.ld ?_
  refine WQ.p O.eqI ?_
  refine WQ.p O.mv ?_
  refine WQ.p O.mv ?_
  refine WQ.p O.and ?_
  refine WQ.p O.neI ?_
  first | refine WQ.p O.fb ?_ | refine WQ.p O.fa ?_
  refine WQ.p O.ld ?_
  refine WQ.p O.eqB ?_
  refine WQ.p O.pkB ?_
  refine WQ.p O.mv ?_
  refine WQ.p O.mv ?_
  refine WQ.p O.shr ?_
  refine WQ.p (O.andM 4 16 (h := by decide) (hq := by decide) (hM := by decide)) ?_
  first | refine WQ.p O.fb ?_ | refine WQ.p O.fa ?_
  refine WQ.p O.ld ?_
  refine WQ.p O.eqI ?_
  refine WQ.p O.pkB ?_
  refine WQ.p O.mv ?_
  refine WQ.p O.mv ?_
  refine WQ.p O.and ?_
  refine WQ.p O.neI ?_
  first | refine WQ.p O.fb ?_ | refine WQ.p O.fa ?_
  refine WQ.p O.ld ?_
  refine WQ.p O.eqB ?_
  refine WQ.p O.pkB ?_
  refine WQ.p O.mv ?_
  refine WQ.p O.mv ?_
  refine WQ.p O.and ?_
  refine WQ.p O.neI ?_
  first | refine WQ.p O.fb ?_ | refine WQ.p O.fa ?_
  refine WQ.p O.ld ?_
  refine WQ.p O.eqB ?_
  refine WQ.p O.pkB ?_
  refine WQ.p O.mv ?_
  refine WQ.p O.mv ?_
  refine WQ.p O.and ?_
  refine WQ.p O.neI ?_
  first | refine WQ.p O.fb ?_ | refine WQ.p O.fa ?_
  refine WQ.p O.ld ?_
  refine WQ.p O.eqB ?_
  refine WQ.p O.pkB ?_
  refine WQ.p O.mv ?_
  refine WQ.p O.mv ?_
  refine WQ.p O.and ?_
  refine WQ.p O.eqI ?_
  refine WQ.p O.pkB ?_
  refine WQ.p O.mv ?_
  refine WQ.p O.mv ?_
  refine WQ.p (O.andM 4 16 (h := by decide) (hq := by decide) (hM := by decide)) ?_
  first | refine WQ.p O.fb ?_ | refine WQ.p O.fa ?_
  refine WQ.p O.ld ?_
  refine WQ.p O.eqI ?_
  refine WQ.p O.pkB ?_
  refine WQ.p O.mv ?_
  refine WQ.p O.mv ?_
  first | refine WQ.p O.idxS ?_ | refine WQ.p (O.idxS (h := fun hg => by simp only [cond_true, cond_false, Bool.true_and, Bool.cond_false_right, Bool.cond_true_left, Bool.and_eq_true, Bool.or_eq_true, Bool.or_eq_false_iff, Bool.and_eq_false_iff, Bool.not_eq_true', Bool.not_eq_false', decide_eq_true_eq, decide_eq_false_iff_not, Int.reduceToNat] at *; omega)) ?_
  first | refine WQ.p O.cvB ?_ | refine WQ.p O.cv ?_
  refine WQ.p O.shl ?_
  refine WQ.p O.mv ?_
  first | refine WQ.p O.idxS ?_ | refine WQ.p (O.idxS (h := fun hg => by simp only [cond_true, cond_false, Bool.true_and, Bool.cond_false_right, Bool.cond_true_left, Bool.and_eq_true, Bool.or_eq_true, Bool.or_eq_false_iff, Bool.and_eq_false_iff, Bool.not_eq_true', Bool.not_eq_false', decide_eq_true_eq, decide_eq_false_iff_not, Int.reduceToNat] at *; omega)) ?_
  first | refine WQ.p O.cvB ?_ | refine WQ.p O.cv ?_
  refine WQ.p O.or ?_
  first | refine WQ.p O.fb ?_ | refine WQ.p O.fa ?_
  refine WQ.p O.ld ?_
  refine WQ.p O.lenL ?_
  refine WQ.p O.eqI ?_
  refine WQ.p O.pkB ?_
  refine WQ.p O.mv ?_
  refine WQ.p O.mv ?_
  first | refine WQ.p O.idxS ?_ | refine WQ.p (O.idxS (h := fun hg => by simp only [cond_true, cond_false, Bool.true_and, Bool.cond_false_right, Bool.cond_true_left, Bool.and_eq_true, Bool.or_eq_true, Bool.or_eq_false_iff, Bool.and_eq_false_iff, Bool.not_eq_true', Bool.not_eq_false', decide_eq_true_eq, decide_eq_false_iff_not, Int.reduceToNat] at *; omega)) ?_
  first | refine WQ.p O.cvB ?_ | refine WQ.p O.cv ?_
  refine WQ.p O.shl ?_
  refine WQ.p O.mv ?_
  first | refine WQ.p O.idxS ?_ | refine WQ.p (O.idxS (h := fun hg => by simp only [cond_true, cond_false, Bool.true_and, Bool.cond_false_right, Bool.cond_true_left, Bool.and_eq_true, Bool.or_eq_true, Bool.or_eq_false_iff, Bool.and_eq_false_iff, Bool.not_eq_true', Bool.not_eq_false', decide_eq_true_eq, decide_eq_false_iff_not, Int.reduceToNat] at *; omega)) ?_
  first | refine WQ.p O.cvB ?_ | refine WQ.p O.cv ?_
  refine WQ.p O.or ?_
  first | refine WQ.p O.fb ?_ | refine WQ.p O.fa ?_
  refine WQ.p O.ld ?_
  refine WQ.p O.lenL ?_
  refine WQ.p O.eqI ?_
  refine WQ.p O.pkB ?_
  refine WQ.p O.mv ?_
  refine WQ.p O.mv ?_
  first | refine WQ.p O.idxS ?_ | refine WQ.p (O.idxS (h := fun hg => by simp only [cond_true, cond_false, Bool.true_and, Bool.cond_false_right, Bool.cond_true_left, Bool.and_eq_true, Bool.or_eq_true, Bool.or_eq_false_iff, Bool.and_eq_false_iff, Bool.not_eq_true', Bool.not_eq_false', decide_eq_true_eq, decide_eq_false_iff_not, Int.reduceToNat] at *; omega)) ?_
  first | refine WQ.p O.cvB ?_ | refine WQ.p O.cv ?_
  refine WQ.p O.shl ?_
  refine WQ.p O.mv ?_
  first | refine WQ.p O.idxS ?_ | refine WQ.p (O.idxS (h := fun hg => by simp only [cond_true, cond_false, Bool.true_and, Bool.cond_false_right, Bool.cond_true_left, Bool.and_eq_true, Bool.or_eq_true, Bool.or_eq_false_iff, Bool.and_eq_false_iff, Bool.not_eq_true', Bool.not_eq_false', decide_eq_true_eq, decide_eq_false_iff_not, Int.reduceToNat] at *; omega)) ?_
  first | refine WQ.p O.cvB ?_ | refine WQ.p O.cv ?_
  refine WQ.p O.or ?_
  first | refine WQ.p O.fb ?_ | refine WQ.p O.fa ?_
  refine WQ.p O.ld ?_
  refine WQ.p O.lenL ?_
  refine WQ.p O.eqI ?_
  refine WQ.p O.pkB ?_
  refine WQ.p O.mv ?_
  refine WQ.p O.mv ?_
  first | refine WQ.p O.idxS ?_ | refine WQ.p (O.idxS (h := fun hg => by simp only [cond_true, cond_false, Bool.true_and, Bool.cond_false_right, Bool.cond_true_left, Bool.and_eq_true, Bool.or_eq_true, Bool.or_eq_false_iff, Bool.and_eq_false_iff, Bool.not_eq_true', Bool.not_eq_false', decide_eq_true_eq, decide_eq_false_iff_not, Int.reduceToNat] at *; omega)) ?_
  first | refine WQ.p O.cvB ?_ | refine WQ.p O.cv ?_
  refine WQ.p O.shl ?_
  refine WQ.p O.mv ?_
  first | refine WQ.p O.idxS ?_ | refine WQ.p (O.idxS (h := fun hg => by simp only [cond_true, cond_false, Bool.true_and, Bool.cond_false_right, Bool.cond_true_left, Bool.and_eq_true, Bool.or_eq_true, Bool.or_eq_false_iff, Bool.and_eq_false_iff, Bool.not_eq_true', Bool.not_eq_false', decide_eq_true_eq, decide_eq_false_iff_not, Int.reduceToNat] at *; omega)) ?_
  first | refine WQ.p O.cvB ?_ | refine WQ.p O.cv ?_
  refine WQ.p O.or ?_
  first | refine WQ.p O.fb ?_ | refine WQ.p O.fa ?_
  refine WQ.p O.ld ?_
  refine WQ.p O.lenL ?_
  refine WQ.p O.mv ?_
  first | refine WQ.p O.addN ?_ | refine WQ.p O.add ?_
  refine WQ.p O.eqI ?_
  refine WQ.p O.pkB ?_
  refine WQ.p O.as ?_
  refine WQ.nil ?_
  refine WL.nil (Q.tn ?_)
  refine CW.ret ?_
  refine ⟨_, [], (RVs.tmp rfl RVs.nil), List.nil_sublist _, ?_⟩
  refine ⟨?_, rfl⟩
  have hm : dnMay m = true := by apply Decidable.byContradiction; intro h; rw [put_big, if_neg h] at hc2; exact absurd hc2.1 (by decide)
  have e : dnPut m 65535 = (dWrite m, 0) := by rw [put_big, if_pos hm]
  obtain ⟨x0, x2, x4, x6, x8, xa⟩ := dn_at hm
  have hb := bits_d hm 0 0 [] [] [] []
  have y1 : (!decide (bits .and .i64 (dBits m) 32768 = 0)) = m.resp := congrArg Dn.resp hb.1
  have y2 : dBits m / 2 ^ Int.toNat 11 % 16 = m.op := congrArg Dn.op hb.1
  have y3 : (!decide (bits .and .i64 (dBits m) 1024 = 0)) = m.auth := congrArg Dn.auth hb.1
  have y4 : (!decide (bits .and .i64 (dBits m) 512 = 0)) = m.trunc := congrArg Dn.trunc hb.1
  have y5 : (!decide (bits .and .i64 (dBits m) 256 = 0)) = m.recu := congrArg Dn.recu hb.1
  have y6 : dBits m % 16 = m.code := congrArg Dn.code hb.1
  have y7 := hb.2.1
  have y8 : flg (!decide (m.size = 0)) 1 = 0 := by rw [decide_eq_true (by have := (may_d hm).2.2.2.2.2.2.2; omega)]; rfl
  rw [y8] at xa
  unfold B2 at x0 x2 x4 x6 x8 xa
  rw [e]
  dsimp only
  rw [x0, x2, x4, x6, x8, xa, y1, y2, y3, y4, y5, y6, y7]
  simp [oneOr]
end Go.Proofs.Ytkjcmdgideddnaa
