/- What the document's functions over acts as texts come to. Conditions: the texts are not longer than a million, the acts not more. -/
import Derived.Test.YtagiajnpnjakhaaDoorScC
import Derived.Test.YtagiajnpnjakhaaDoorZrA
set_option linter.unusedVariables false
set_option linter.unusedSimpArgs false
namespace Go.Proofs.YtagiajnpnjakhaaDoor
open Go Go.RowKit
set_option maxRecDepth 100000 in
theorem ref_ActMay (a : Ac) (w : World) (ht : a.text.length ≤ 140737488355328) : Fn Tryd.prog 38 [vA a] w [] fun v L' => v = .bool (acMay a) ∧ L' = [] := by
  refine Fn.enter Tryd.func38 rfl rfl rfl rfl (Holds.nil w) ?_
  refine CW.seq ?_
  refine CW.region ?_
  refine W.bx rfl (vt rfl) rfl fun b1 => ?_
  refine W.p O.as ?_
  refine WL.nil (Q.tn ?_)
  refine CW.seq ?_
  refine CW.seq ?_
  refine CW.region ?_
  first | refine W.p O.fb ?_ | refine W.p O.fa ?_
  refine W.p O.ld ?_
  refine W.p O.lss ?_
  refine W.p O.mv ?_
  first | refine W.p O.fb ?_ | refine W.p O.fa ?_
  refine W.p O.ld ?_
  refine W.p O.gtr ?_
  refine W.p O.pkB ?_
  refine W.p O.mv ?_
  first | refine W.p O.fb ?_ | refine W.p O.fa ?_
  refine W.p O.ld ?_
  refine W.p O.lss ?_
  refine W.p O.pkB ?_
  refine W.p O.mv ?_
  first | refine W.p O.fb ?_ | refine W.p O.fa ?_
  refine W.p O.ld ?_
  refine W.p O.gtr ?_
  refine W.p O.pkB ?_
  refine W.p O.mv ?_
  first | refine W.p O.fb ?_ | refine W.p O.fa ?_
  refine W.p O.ld ?_
  refine W.p O.len ?_
  refine W.p O.gtr ?_
  refine W.p O.pkB ?_
  refine W.p O.mv ?_
  first | refine W.p O.fb ?_ | refine W.p O.fa ?_
  refine W.p O.ld ?_
  refine W.p O.lss ?_
  refine W.p O.pkB ?_
  refine W.p O.mv ?_
  first | refine W.p O.fb ?_ | refine W.p O.fa ?_
  refine W.p O.ld ?_
  refine W.p O.gtr ?_
  refine W.p O.pkB ?_
  refine W.p O.mv ?_
  first | refine W.p O.fb ?_ | refine W.p O.fa ?_
  refine W.p O.ld ?_
  refine W.p O.eqI ?_
  refine W.p O.mv ?_
  first | refine W.p O.fb ?_ | refine W.p O.fa ?_
  refine W.p O.ld ?_
  refine W.p O.neI ?_
  refine W.p O.pkB ?_
  refine W.p O.mv ?_
  first | refine W.p O.fb ?_ | refine W.p O.fa ?_
  refine W.p O.ld ?_
  refine W.p O.neI ?_
  refine W.p O.pkB ?_
  refine W.p O.pkB ?_
  refine WL.nil (Q.tn ?_)
  refine CW.cond (vt rfl) (fun hc1 => ?_) (fun hc1 => ?_)
  · try simp only [sk] at hc1
    refine CW.seq ?_
    refine CW.region ?_
    refine W.p O.as ?_
    refine WL.nil (Q.tn ?_)
    refine CW.ret (Q.tr ?_)
    refine ⟨_, [], (RVs.tmp rfl RVs.nil), List.nil_sublist _, ?_⟩
    refine ⟨congrArg Value.bool ?_, rfl⟩
    rw [acMay_ref]
    first | (rw [Bool.eq_iff_iff]; simp [*]; done) | (rw [Bool.eq_iff_iff]; simp [*]; grind)
  try simp only [sk] at hc1
  refine CW.skip (Q.tn ?_)
  refine CW.seq ?_
  refine CW.seq ?_
  refine CW.region ?_
  first | refine W.p O.fb ?_ | refine W.p O.fa ?_
  refine W.p O.ld ?_
  refine WL.nil (Q.tn ?_)
  refine CW.block ?_
  refine CW.seq ?_
  refine CW.region ?_
  refine W.p O.eqI ?_
  refine W.p O.as ?_
  refine WL.nil (Q.tn ?_)
  refine CW.cond (vt rfl) (fun hc2 => ?_) (fun hc2 => ?_)
  · try simp only [sk] at hc2
    refine CW.seq ?_
    refine CW.region ?_
    first | refine W.p O.fb ?_ | refine W.p O.fa ?_
    refine W.p O.ld ?_
    refine W.p O.eqI ?_
    refine W.p O.as ?_
    refine WL.nil (Q.tn ?_)
    refine CW.ret (Q.br (Q.tr ?_))
    refine ⟨_, [], (RVs.tmp rfl RVs.nil), List.nil_sublist _, ?_⟩
    refine ⟨congrArg Value.bool ?_, rfl⟩
    rw [acMay_ref]
    first | (rw [Bool.eq_iff_iff]; simp [*]; done) | (rw [Bool.eq_iff_iff]; simp [*]; grind)
  try simp only [sk] at hc2
  refine CW.seq ?_
  refine CW.region ?_
  refine W.p O.eqI ?_
  refine W.p O.as ?_
  refine WL.nil (Q.tn ?_)
  refine CW.cond (vt rfl) (fun hc3 => ?_) (fun hc3 => ?_)
  · try simp only [sk] at hc3
    refine CW.seq ?_
    refine CW.region ?_
    first | refine W.p O.fb ?_ | refine W.p O.fa ?_
    refine W.p O.ld ?_
    refine W.p O.eqI ?_
    refine W.p O.mv ?_
    first | refine W.p O.fb ?_ | refine W.p O.fa ?_
    refine W.p O.ld ?_
    refine W.p O.eqI ?_
    refine W.p O.pkB ?_
    refine W.p O.as ?_
    refine WL.nil (Q.tn ?_)
    refine CW.ret (Q.br (Q.tr ?_))
    refine ⟨_, [], (RVs.tmp rfl RVs.nil), List.nil_sublist _, ?_⟩
    refine ⟨congrArg Value.bool ?_, rfl⟩
    rw [acMay_ref]
    first | (rw [Bool.eq_iff_iff]; simp [*]; done) | (rw [Bool.eq_iff_iff]; simp [*]; grind)
  try simp only [sk] at hc3
  refine CW.seq ?_
  refine CW.region ?_
  refine W.p O.eqI ?_
  refine W.p O.as ?_
  refine WL.nil (Q.tn ?_)
  refine CW.cond (vt rfl) (fun hc4 => ?_) (fun hc4 => ?_)
  · try simp only [sk] at hc4
    refine CW.seq ?_
    refine CW.region ?_
    first | refine W.p O.fb ?_ | refine W.p O.fa ?_
    refine W.p O.ld ?_
    refine W.p O.eqS ?_
    refine W.p O.as ?_
    refine WL.nil (Q.tn ?_)
    refine CW.ret (Q.br (Q.tr ?_))
    refine ⟨_, [], (RVs.tmp rfl RVs.nil), List.nil_sublist _, ?_⟩
    refine ⟨congrArg Value.bool ?_, rfl⟩
    rw [acMay_ref]
    first | (rw [Bool.eq_iff_iff]; simp [*]; done) | (rw [Bool.eq_iff_iff]; simp [*]; grind)
  try simp only [sk] at hc4
  refine CW.seq ?_
  refine CW.region ?_
  refine W.p O.eqI ?_
  refine W.p O.as ?_
  refine WL.nil (Q.tn ?_)
  refine CW.cond (vt rfl) (fun hc5 => ?_) (fun hc5 => ?_)
  · try simp only [sk] at hc5
    refine CW.seq ?_
    refine CW.region ?_
    first | refine W.p O.fb ?_ | refine W.p O.fa ?_
    refine W.p O.ld ?_
    refine W.p O.eqS ?_
    refine W.p O.mv ?_
    first | refine W.p O.fb ?_ | refine W.p O.fa ?_
    refine W.p O.ld ?_
    refine W.p O.eqI ?_
    refine W.p O.pkB ?_
    refine W.p O.mv ?_
    first | refine W.p O.fb ?_ | refine W.p O.fa ?_
    refine W.p O.ld ?_
    refine W.p O.eqI ?_
    refine W.p O.pkB ?_
    refine W.p O.as ?_
    refine WL.nil (Q.tn ?_)
    refine CW.ret (Q.br (Q.tr ?_))
    refine ⟨_, [], (RVs.tmp rfl RVs.nil), List.nil_sublist _, ?_⟩
    refine ⟨congrArg Value.bool ?_, rfl⟩
    rw [acMay_ref]
    first | (rw [Bool.eq_iff_iff]; simp [*]; done) | (rw [Bool.eq_iff_iff]; simp [*]; grind)
  try simp only [sk] at hc5
  refine CW.skip (Q.bn (Q.tn ?_))
  refine CW.seq ?_
  refine CW.region ?_
  refine W.p O.as ?_
  refine WL.nil (Q.tn ?_)
  refine CW.ret ?_
  refine ⟨_, [], (RVs.tmp rfl RVs.nil), List.nil_sublist _, ?_⟩
  refine ⟨congrArg Value.bool ?_, rfl⟩
  rw [acMay_ref]
  first | (rw [Bool.eq_iff_iff]; simp [*]; done) | (rw [Bool.eq_iff_iff]; simp [*]; grind)
theorem slc_lett {k : Int} (h : k = 0 ∨ k = 1 ∨ k = 2 ∨ k = 3) : (([100, 113, 116, 99] : List UInt8).take (k + 1).toNat).drop k.toNat = lett k := by
  rcases h with rfl | rfl | rfl | rfl <;> decide
set_option maxRecDepth 100000 in
theorem ref_ShowActs (us : List Ac) (a : Option Addr) (cc : Nat) (w : World) (hl : In w a (us.flatMap encA)) (hz : AsSz us) : Fn Tryd.prog 32 [.slice a us.length cc] w [] fun v L' => v = .tuple #[.string (S (showP us).1), .int .i64 (showP us).2] ∧ L' = [] := by
  have row := Row.ofE (dv := dA) hl
  have hal := hz.hl
  refine Fn.enter Tryd.func32 rfl rfl rfl rfl (Holds.nil w) ?_
  refine CW.seq ?_
  refine CW.region ?_
  refine W.p O.as ?_
  refine W.p O.as ?_
  refine WL.nil (Q.tn ?_)
  refine CW.seq ?_
  refine CW.seq ?_
  refine CW.region ?_
  refine W.p O.mv ?_
  refine W.p O.lenL ?_
  refine W.p O.gtr ?_
  refine WL.nil (Q.tn ?_)
  refine CW.cond (vt rfl) (fun hc1 => ?_) (fun hc1 => ?_)
  · try simp only [sk] at hc1
    refine CW.seq ?_
    refine CW.region ?_
    refine W.p O.as ?_
    refine W.p O.as ?_
    refine WL.nil (Q.tn ?_)
    refine CW.ret (Q.tr ?_)
    refine ⟨_, [], (RVs.tmp rfl (RVs.tmp rfl RVs.nil)), List.nil_sublist _, ?_⟩
    refine ⟨?_, rfl⟩
    rw [showP, if_neg (by rw [showOk, Bool.and_eq_true, decide_eq_true_eq]; omega)]; rfl
  try simp only [sk] at hc1
  refine CW.skip (Q.tn ?_)
  refine CW.seq ?_
  refine CW.region ?_
  refine W.p O.as ?_
  refine WL.nil (Q.tn ?_)
  refine CW.seq ?_
  refine CW.seq ?_
  refine CW.region ?_
  refine W.p O.as ?_
  refine WL.nil (Q.tn ?_)
  refine CW.block ?_
  refine CW.loopA (X := Int × (List UInt8)) (fun ⟨i, t⟩ => [(0, true, .slice a us.length cc), (4, true, .string (S t)), (5, true, .int .i64 i)]) (fun ⟨i, t⟩ => []) (fun ⟨i, t⟩ => 0 ≤ i ∧ i ≤ us.length ∧ (us.take i.toNat).all acMay = true ∧ t = shows (us.take i.toNat)) (fun ⟨i, t⟩ => (us.length - i).toNat) (0, []) ?_ ?_
  · exact ⟨by omega, by omega, rfl, rfl⟩
  rintro ⟨i, t⟩ hI
  try dsimp only at hI ⊢
  obtain ⟨h0, h1, hall, hte⟩ := hI
  refine CW.seq ?_
  refine CW.seq ?_
  refine CW.region ?_
  refine W.p O.mv ?_
  refine W.p O.mv ?_
  refine W.p O.lenL ?_
  refine W.p O.lss ?_
  refine WL.nil (Q.tn ?_)
  refine CW.cond (vt rfl) (fun hc2 => ?_) (fun hc2 => ?_)
  · try simp only [sk] at hc2
    have htx := hz.ht _ (mem_at dA h0 hc2)
    have hta := take_at' dA h0 hc2
    have hmem := mem_at dA h0 hc2
    refine CW.skip (Q.tn ?_)
    refine CW.seq ?_
    refine CW.block ?_
    refine CW.seq ?_
    refine CW.region ?_
    refine W.p O.mv ?_
    refine W.p O.mv ?_
    refine W.p O.ixA ?_
    refine W.p O.ldsE ?_
    refine W.al rfl rfl fun b1 => ?_
    refine W.st (vt rfl) (vt rfl) rfl ?_
    refine WL.nil (Q.tn ?_)
    refine CW.seq ?_
    refine CW.seq ?_
    refine CW.region ?_
    refine W.p O.lds ?_
    refine W.q (O.call ⟨rfl, rfl⟩ (AV.cons (vt rfl) (AV.nil)) (fun _ w hw => ref_ActMay _ w (by omega))) ?_
    refine W.p O.nt ?_
    refine WL.nil (Q.tn ?_)
    refine CW.cond (vt rfl) (fun hc3 => ?_) (fun hc3 => ?_)
    · try simp only [sk] at hc3
      generalize us.getD i.toNat dA = A at *
      refine CW.seq ?_
      refine CW.region ?_
      refine W.p O.as ?_
      refine W.p O.as ?_
      refine WL.nil (Q.tn ?_)
      refine CW.ret (Q.tr (Q.br (Q.tr (Q.tr (Q.br (Q.tr ?_))))))
      refine ⟨_, [], (RVs.tmp rfl (RVs.tmp rfl RVs.nil)), List.nil_sublist _, ?_⟩
      refine ⟨?_, rfl⟩
      rw [showP, if_neg (by rw [showOk, Bool.and_eq_true, List.all_eq_true]; intro hq; have := hq.1 _ hmem; rw [hc3] at this; cases this)]; rfl
    try simp only [sk] at hc3
    generalize us.getD i.toNat dA = A at *
    obtain ⟨hk4, _, hb, hc, hk⟩ := may_ac hc3
    have hsl := shows_len hall
    rw [List.length_take, ← hte] at hsl
    have e1 := itoa_len8 hb.1 (by omega); have e2 := itoa_len8 hc.1 (by omega); have e3 := itoa_len8 hk.1 (by omega); have e4 := itoa_len8 (y := (A.text.length : Int)) (by omega) (by omega)
    have hlt : ([100, 113, 116, 99] : List UInt8).length = 4 := rfl
    have hsc := slc_lett hk4
    refine CW.skip (Q.tn ?_)
    refine CW.draw 32 rfl (by kernel_rfl) ?_
    refine WQ.p O.mv ?_
    first | refine WQ.p O.fb ?_ | refine WQ.p O.fa ?_
    refine WQ.p O.ld ?_
    first | refine WQ.p O.fb ?_ | refine WQ.p O.fa ?_
    refine WQ.p O.ld ?_
    first | refine WQ.p O.addN ?_ | refine WQ.p O.add ?_
    refine WQ.p O.slc ?_
    refine WQ.p O.addS ?_
    first | refine WQ.p O.fb ?_ | refine WQ.p O.fa ?_
    refine WQ.p O.ld ?_
    refine WQ.q (O.call ⟨rfl, rfl⟩ (AV.cons (vt rfl) (AV.nil)) (fun _ w hw => ref_Decimal _ w (by omega) (by omega))) ?_
    refine WQ.p O.addS ?_
    refine WQ.p O.addS ?_
    first | refine WQ.p O.fb ?_ | refine WQ.p O.fa ?_
    refine WQ.p O.ld ?_
    refine WQ.q (O.call ⟨rfl, rfl⟩ (AV.cons (vt rfl) (AV.nil)) (fun _ w hw => ref_Decimal _ w (by omega) (by omega))) ?_
    refine WQ.p O.addS ?_
    refine WQ.p O.addS ?_
    first | refine WQ.p O.fb ?_ | refine WQ.p O.fa ?_
    refine WQ.p O.ld ?_
    refine WQ.q (O.call ⟨rfl, rfl⟩ (AV.cons (vt rfl) (AV.nil)) (fun _ w hw => ref_Decimal _ w (by omega) (by omega))) ?_
    refine WQ.p O.addS ?_
    refine WQ.p O.addS ?_
    first | refine WQ.p O.fb ?_ | refine WQ.p O.fa ?_
    refine WQ.p O.ld ?_
    refine WQ.p O.len ?_
    refine WQ.q (O.call ⟨rfl, rfl⟩ (AV.cons (vt rfl) (AV.nil)) (fun _ w hw => ref_Decimal _ w (by omega) (by omega))) ?_
    refine WQ.p O.addS ?_
    refine WQ.p O.addS ?_
    first | refine WQ.p O.fb ?_ | refine WQ.p O.fa ?_
    refine WQ.p O.ld ?_
    refine WQ.p O.addS ?_
    refine WQ.nil ?_
    refine W.p O.as ?_
    refine WL.nil (Q.bn (Q.tn ?_))
    refine CW.region ?_
    refine W.p O.mv ?_
    first | refine W.p O.addN ?_ | refine W.p O.add ?_
    refine W.p O.as ?_
    refine WL.nil (Q.tn ?_)
    refine nextA (_, _) ?_ ?_
    · try dsimp only
      refine ⟨by omega, by omega, ?_, ?_⟩
      · rw [hta, List.all_append, hall]; simpa using hc3
      · rw [hta, shows_app, ← hte]; first | rw [hsc] | skip
        simp [shows, acT, acH]
    · try dsimp only
      omega
  try simp only [sk] at hc2
  have hall2 : us.all acMay = true := by rw [List.take_of_length_le (by omega)] at hall; exact hall
  refine CW.exit (Q.te (Q.te (Q.bx (Q.tn ?_))))
  refine CW.seq ?_
  refine CW.region ?_
  refine W.p O.mv ?_
  refine W.p O.as ?_
  refine W.p O.as ?_
  refine WL.nil (Q.tn ?_)
  refine CW.ret ?_
  refine ⟨_, [], (RVs.tmp rfl (RVs.tmp rfl RVs.nil)), List.nil_sublist _, ?_⟩
  refine ⟨?_, rfl⟩
  rw [showP, if_pos (by rw [showOk, hall2, Bool.true_and]; exact decide_eq_true (by omega)), hte, List.take_of_length_le (by omega)]; rfl
end Go.Proofs.YtagiajnpnjakhaaDoor
