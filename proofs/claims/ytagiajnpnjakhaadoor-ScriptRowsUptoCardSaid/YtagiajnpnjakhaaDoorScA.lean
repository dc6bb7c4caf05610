/- What the small functions of package script come to. Condition: an act's text is not longer than a million. -/
import Derived.Test.YtagiajnpnjakhaaDoorAe
import Derived.Test.YtagiajnpnjakhaaDoorCv
set_option linter.unusedVariables false
set_option linter.unusedSimpArgs false
namespace Go.Proofs.YtagiajnpnjakhaaDoor
open Go Go.RowKit
set_option maxRecDepth 100000 in
theorem sc_letter (k : Int) (w : World) : Fn Tryd.prog 72 [.int .i64 k] w [] fun v L' => v = .string (S (lett k)) ∧ L' = [] := by
  refine Fn.enter Tryd.func72 rfl rfl rfl rfl (Holds.nil w) ?_
  refine CW.seq ?_
  refine CW.region ?_
  refine W.p O.as ?_
  refine WL.nil (Q.tn ?_)
  refine CW.seq ?_
  refine CW.seq ?_
  refine CW.region ?_
  refine W.p O.mv ?_
  refine WL.nil (Q.tn ?_)
  refine CW.block ?_
  refine CW.seq ?_
  refine CW.region ?_
  refine W.p O.eqI ?_
  refine W.p O.as ?_
  refine WL.nil (Q.tn ?_)
  refine CW.cond (vt rfl) (fun hc1 => ?_) (fun hc1 => ?_)
  · try simp only [sk] at hc1
    refine CW.seq ?_
    refine CW.region ?_
    refine W.p O.as ?_
    refine WL.nil (Q.tn ?_)
    refine CW.ret (Q.br (Q.tr ?_))
    refine ⟨_, [], (RVs.tmp rfl RVs.nil), List.nil_sublist _, ?_⟩
    refine ⟨?_, rfl⟩
    simp [lett, oneOr, S, *]
  try simp only [sk] at hc1
  refine CW.seq ?_
  refine CW.region ?_
  refine W.p O.eqI ?_
  refine W.p O.as ?_
  refine WL.nil (Q.tn ?_)
  refine CW.cond (vt rfl) (fun hc2 => ?_) (fun hc2 => ?_)
  · try simp only [sk] at hc2
    refine CW.seq ?_
    refine CW.region ?_
    refine W.p O.as ?_
    refine WL.nil (Q.tn ?_)
    refine CW.ret (Q.br (Q.tr ?_))
    refine ⟨_, [], (RVs.tmp rfl RVs.nil), List.nil_sublist _, ?_⟩
    refine ⟨?_, rfl⟩
    simp [lett, oneOr, S, *]
  try simp only [sk] at hc2
  refine CW.seq ?_
  refine CW.region ?_
  refine W.p O.eqI ?_
  refine W.p O.as ?_
  refine WL.nil (Q.tn ?_)
  refine CW.cond (vt rfl) (fun hc3 => ?_) (fun hc3 => ?_)
  · try simp only [sk] at hc3
    refine CW.seq ?_
    refine CW.region ?_
    refine W.p O.as ?_
    refine WL.nil (Q.tn ?_)
    refine CW.ret (Q.br (Q.tr ?_))
    refine ⟨_, [], (RVs.tmp rfl RVs.nil), List.nil_sublist _, ?_⟩
    refine ⟨?_, rfl⟩
    simp [lett, oneOr, S, *]
  try simp only [sk] at hc3
  refine CW.seq ?_
  refine CW.region ?_
  refine W.p O.eqI ?_
  refine W.p O.as ?_
  refine WL.nil (Q.tn ?_)
  refine CW.cond (vt rfl) (fun hc4 => ?_) (fun hc4 => ?_)
  · try simp only [sk] at hc4
    refine CW.seq ?_
    refine CW.region ?_
    refine W.p O.as ?_
    refine WL.nil (Q.tn ?_)
    refine CW.ret (Q.br (Q.tr ?_))
    refine ⟨_, [], (RVs.tmp rfl RVs.nil), List.nil_sublist _, ?_⟩
    refine ⟨?_, rfl⟩
    simp [lett, oneOr, S, *]
  try simp only [sk] at hc4
  refine CW.skip (Q.bn (Q.tn ?_))
  refine CW.seq ?_
  refine CW.region ?_
  refine W.p O.as ?_
  refine WL.nil (Q.tn ?_)
  refine CW.ret ?_
  refine ⟨_, [], (RVs.tmp rfl RVs.nil), List.nil_sublist _, ?_⟩
  refine ⟨?_, rfl⟩
  simp [lett, oneOr, S, *]
set_option maxRecDepth 100000 in
theorem sc_kinds (s : List UInt8) (w : World) (hs : s.length ≤ 1) : Fn Tryd.prog 94 [.string (S s)] w [] fun v L' => v = .int .i64 (kindA s) ∧ L' = [] := by
  refine Fn.enter Tryd.func94 rfl rfl rfl rfl (Holds.nil w) ?_
  refine CW.seq ?_
  refine CW.region ?_
  refine W.p O.as ?_
  refine WL.nil (Q.tn ?_)
  refine CW.seq ?_
  refine CW.seq ?_
  refine CW.region ?_
  refine W.p O.as ?_
  refine WL.nil (Q.tn ?_)
  refine CW.block ?_
  refine CW.loopA (X := Int) (fun k => [(0, true, .string (S s)), (3, true, .int .i64 k)]) (fun k => []) (fun k => 0 ≤ k ∧ k ≤ 4 ∧ ∀ j, 0 ≤ j → j < k → lett j ≠ s) (fun k => (4 - k).toNat) (0) ?_ ?_
  · exact ⟨by omega, by omega, fun j h0 h1 => absurd h1 (by omega)⟩
  rintro k hI
  try dsimp only at hI ⊢
  obtain ⟨h0, h1, hk⟩ := hI
  refine CW.seq ?_
  refine CW.seq ?_
  refine CW.region ?_
  refine W.p O.mv ?_
  refine W.p O.leq ?_
  refine WL.nil (Q.tn ?_)
  refine CW.cond (vt rfl) (fun hc1 => ?_) (fun hc1 => ?_)
  · try simp only [sk] at hc1
    refine CW.skip (Q.tn ?_)
    refine CW.seq ?_
    refine CW.block ?_
    refine CW.seq ?_
    refine CW.region ?_
    refine W.p O.mv ?_
    refine W.q (O.call ⟨rfl, rfl⟩ (AV.cons (vt rfl) (AV.nil)) (fun _ w hw => sc_letter _ w)) ?_
    refine W.p O.mv ?_
    refine W.p O.eqS ?_
    refine WL.nil (Q.tn ?_)
    refine CW.cond (vt rfl) (fun hc2 => ?_) (fun hc2 => ?_)
    · try simp only [sk] at hc2
      refine CW.seq ?_
      refine CW.region ?_
      refine W.p O.mv ?_
      refine W.p O.as ?_
      refine WL.nil (Q.tn ?_)
      refine CW.ret (Q.br (Q.tr (Q.tr (Q.br (Q.tr ?_)))))
      refine ⟨_, [], (RVs.tmp rfl RVs.nil), List.nil_sublist _, ?_⟩
      refine ⟨congrArg (Value.int .i64) ?_, rfl⟩
      have hq : lett k = s := by simpa using hc2
      rw [← hq]; exact (kind_lett (by omega)).1.symm
    try simp only [sk] at hc2
    refine CW.skip (Q.bn (Q.tn ?_))
    refine CW.region ?_
    refine W.p O.mv ?_
    first | refine W.p O.addN ?_ | refine W.p O.add ?_
    refine W.p O.as ?_
    refine WL.nil (Q.tn ?_)
    refine nextA (_) ?_ ?_
    · try dsimp only
      refine ⟨by omega, by omega, fun j j0 j1 => ?_⟩
      by_cases e : j = k
      · subst e; simpa using hc2
      · exact hk j j0 (by omega)
    · try dsimp only
      omega
  try simp only [sk] at hc1
  refine CW.exit (Q.te (Q.te (Q.bx (Q.tn ?_))))
  refine CW.seq ?_
  refine CW.region ?_
  refine W.p O.as ?_
  refine WL.nil (Q.tn ?_)
  refine CW.ret ?_
  refine ⟨_, [], (RVs.tmp rfl RVs.nil), List.nil_sublist _, ?_⟩
  refine ⟨congrArg (Value.int .i64) ?_, rfl⟩
  have a0 := hk 0 (by omega) (by omega); have a1 := hk 1 (by omega) (by omega); have a2 := hk 2 (by omega) (by omega); have a3 := hk 3 (by omega) (by omega)
  unfold kindA; rw [if_neg (fun e => a0 e.symm), if_neg (fun e => a1 e.symm), if_neg (fun e => a2 e.symm), if_neg (fun e => a3 e.symm)]
instance {x1 x2 x3 x4 : Value} : Ovr ((List.replicate 4 (0 : Int)).map kI) 0 [x1, x2, x3, x4] [x1, x2, x3, x4] := ⟨by simp⟩
set_option maxRecDepth 100000 in
theorem sc_bounds {p : Option Addr} (a : Ac) (w : World) (hi : In w p (encA a)) : Fn Tryd.prog 71 [.pointer p] w [] fun v L' => v = .agg ((acB a).map fun x => Value.int .i64 x).toArray ∧ L' = [] := by
  obtain ⟨q, rfl⟩ := hi.adr (by simp)
  have c0 : ∀ {L : Heap}, Cell w [] L (q.add 0) (.int .i64 a.kind) := fun {L} => cellQ hi rfl
  have c3 : ∀ {L : Heap}, Cell w [] L (q.add 3) (.int .i64 a.cut) := fun {L} => cellQ hi rfl
  refine Fn.enter Tryd.func71 rfl rfl rfl rfl (Holds.nil w) ?_
  refine CW.seq ?_
  refine CW.region ?_
  refine W.al (cs := (List.replicate 4 (0 : Int)).map kI) rfl rfl fun b1 => ?_
  refine WL.nil (Q.tn ?_)
  refine CW.seq ?_
  refine CW.region ?_
  refine W.p O.as ?_
  refine WL.nil (Q.tn ?_)
  refine CW.seq ?_
  refine CW.seq ?_
  refine CW.region ?_
  refine W.p O.mv ?_
  refine W.p O.nc ?_
  first | refine W.p O.fb ?_ | refine W.p O.fa ?_
  first | refine W.p O.ld ?_ | refine W.p O.ldC ?_
  refine W.p O.neI ?_
  refine WL.nil (Q.tn ?_)
  refine CW.cond (vt rfl) (fun hc1 => ?_) (fun hc1 => ?_)
  · try simp only [sk] at hc1
    refine CW.region ?_
    refine W.p O.as ?_
    refine WL.nil (Q.tn ?_)
    refine CW.seq ?_
    refine CW.seq ?_
    refine CW.region ?_
    refine W.p O.mv ?_
    refine W.p O.nc ?_
    first | refine W.p O.fb ?_ | refine W.p O.fa ?_
    first | refine W.p O.ld ?_ | refine W.p O.ldC ?_
    refine WL.nil (Q.tn ?_)
    refine CW.block ?_
    refine CW.seq ?_
    refine CW.region ?_
    refine W.p O.eqI ?_
    refine W.p O.as ?_
    refine WL.nil (Q.tn ?_)
    refine CW.cond (vt rfl) (fun hc2 => ?_) (fun hc2 => ?_)
    · try simp only [sk] at hc2
      refine CW.seq ?_
      refine CW.region ?_
      refine W.p O.mv ?_
      refine W.p (O.bd (hv := PV.cons (vt rfl) (PV.cons (vt rfl) (PV.cons (vt rfl) (PV.cons (vt rfl) (PV.nil)))))) ?_
      refine W.st (vt rfl) (vt rfl) rfl ?_
      refine WL.nil (Q.tn ?_)
      refine CW.ret (Q.br (Q.tr ?_))
      refine ⟨_, [], (RVs.cell rfl RVs.nil), List.nil_sublist _, ?_⟩
      refine ⟨?_, rfl⟩
      simp [acB, oneOr, *]
    try simp only [sk] at hc2
    refine CW.seq ?_
    refine CW.region ?_
    refine W.p O.eqI ?_
    refine W.p O.as ?_
    refine WL.nil (Q.tn ?_)
    refine CW.cond (vt rfl) (fun hc3 => ?_) (fun hc3 => ?_)
    · try simp only [sk] at hc3
      refine CW.seq ?_
      refine CW.region ?_
      refine W.p (O.bd (hv := PV.cons (vt rfl) (PV.nil))) ?_
      refine W.st (vt rfl) (vt rfl) rfl ?_
      refine WL.nil (Q.tn ?_)
      refine CW.ret (Q.br (Q.tr ?_))
      refine ⟨_, [], (RVs.cell rfl RVs.nil), List.nil_sublist _, ?_⟩
      refine ⟨?_, rfl⟩
      simp [acB, oneOr, *]
    try simp only [sk] at hc3
    refine CW.seq ?_
    refine CW.region ?_
    refine W.p O.eqI ?_
    refine W.p O.as ?_
    refine WL.nil (Q.tn ?_)
    refine CW.cond (vt rfl) (fun hc4 => ?_) (fun hc4 => ?_)
    · try simp only [sk] at hc4
      refine CW.seq ?_
      refine CW.region ?_
      refine W.p O.mv ?_
      refine W.p (O.bd (hv := PV.cons (vt rfl) (PV.cons (vt rfl) (PV.cons (vt rfl) (PV.cons (vt rfl) (PV.nil)))))) ?_
      refine W.st (vt rfl) (vt rfl) rfl ?_
      refine WL.nil (Q.tn ?_)
      refine CW.ret (Q.br (Q.tr ?_))
      refine ⟨_, [], (RVs.cell rfl RVs.nil), List.nil_sublist _, ?_⟩
      refine ⟨?_, rfl⟩
      simp [acB, oneOr, *]
    try simp only [sk] at hc4
    refine CW.skip (Q.bn (Q.tn ?_))
    refine CW.seq ?_
    refine CW.region ?_
    refine W.p (O.bd (hv := PV.cons (vt rfl) (PV.cons (vt rfl) (PV.cons (vt rfl) (PV.cons (vt rfl) (PV.nil)))))) ?_
    refine W.st (vt rfl) (vt rfl) rfl ?_
    refine WL.nil (Q.tn ?_)
    refine CW.ret ?_
    refine ⟨_, [], (RVs.cell rfl RVs.nil), List.nil_sublist _, ?_⟩
    refine ⟨?_, rfl⟩
    simp [acB, oneOr, *]
  try simp only [sk] at hc1
  refine CW.skip (Q.tn ?_)
  refine CW.seq ?_
  refine CW.seq ?_
  refine CW.region ?_
  refine W.p O.mv ?_
  refine W.p O.nc ?_
  first | refine W.p O.fb ?_ | refine W.p O.fa ?_
  first | refine W.p O.ld ?_ | refine W.p O.ldC ?_
  refine WL.nil (Q.tn ?_)
  refine CW.block ?_
  refine CW.seq ?_
  refine CW.region ?_
  refine W.p O.eqI ?_
  refine W.p O.as ?_
  refine WL.nil (Q.tn ?_)
  refine CW.cond (vt rfl) (fun hc5 => ?_) (fun hc5 => ?_)
  · try simp only [sk] at hc5
    refine CW.seq ?_
    refine CW.region ?_
    refine W.p O.mv ?_
    refine W.p (O.bd (hv := PV.cons (vt rfl) (PV.cons (vt rfl) (PV.cons (vt rfl) (PV.cons (vt rfl) (PV.nil)))))) ?_
    refine W.st (vt rfl) (vt rfl) rfl ?_
    refine WL.nil (Q.tn ?_)
    refine CW.ret (Q.br (Q.tr ?_))
    refine ⟨_, [], (RVs.cell rfl RVs.nil), List.nil_sublist _, ?_⟩
    refine ⟨?_, rfl⟩
    simp [acB, oneOr, *]
  try simp only [sk] at hc5
  refine CW.seq ?_
  refine CW.region ?_
  refine W.p O.eqI ?_
  refine W.p O.as ?_
  refine WL.nil (Q.tn ?_)
  refine CW.cond (vt rfl) (fun hc6 => ?_) (fun hc6 => ?_)
  · try simp only [sk] at hc6
    refine CW.seq ?_
    refine CW.region ?_
    refine W.p (O.bd (hv := PV.cons (vt rfl) (PV.nil))) ?_
    refine W.st (vt rfl) (vt rfl) rfl ?_
    refine WL.nil (Q.tn ?_)
    refine CW.ret (Q.br (Q.tr ?_))
    refine ⟨_, [], (RVs.cell rfl RVs.nil), List.nil_sublist _, ?_⟩
    refine ⟨?_, rfl⟩
    simp [acB, oneOr, *]
  try simp only [sk] at hc6
  refine CW.seq ?_
  refine CW.region ?_
  refine W.p O.eqI ?_
  refine W.p O.as ?_
  refine WL.nil (Q.tn ?_)
  refine CW.cond (vt rfl) (fun hc7 => ?_) (fun hc7 => ?_)
  · try simp only [sk] at hc7
    refine CW.seq ?_
    refine CW.region ?_
    refine W.p O.mv ?_
    refine W.p (O.bd (hv := PV.cons (vt rfl) (PV.cons (vt rfl) (PV.cons (vt rfl) (PV.cons (vt rfl) (PV.nil)))))) ?_
    refine W.st (vt rfl) (vt rfl) rfl ?_
    refine WL.nil (Q.tn ?_)
    refine CW.ret (Q.br (Q.tr ?_))
    refine ⟨_, [], (RVs.cell rfl RVs.nil), List.nil_sublist _, ?_⟩
    refine ⟨?_, rfl⟩
    simp [acB, oneOr, *]
  try simp only [sk] at hc7
  refine CW.skip (Q.bn (Q.tn ?_))
  refine CW.seq ?_
  refine CW.region ?_
  refine W.p (O.bd (hv := PV.cons (vt rfl) (PV.cons (vt rfl) (PV.cons (vt rfl) (PV.cons (vt rfl) (PV.nil)))))) ?_
  refine W.st (vt rfl) (vt rfl) rfl ?_
  refine WL.nil (Q.tn ?_)
  refine CW.ret ?_
  refine ⟨_, [], (RVs.cell rfl RVs.nil), List.nil_sublist _, ?_⟩
  refine ⟨?_, rfl⟩
  simp [acB, oneOr, *]
theorem acB_len (a : Ac) : (acB a).length = 4 := by
  by_cases h0 : a.kind = 0 <;> by_cases h1 : a.kind = 1 <;> by_cases h2 : a.kind = 2 <;> simp [acB, h0, h1, h2]
theorem may_all {a : Ac} : acMay a = true ↔ (∀ j : Nat, j < 4 → 0 ≤ (acN a).getD j 0 ∧ (acN a).getD j 0 ≤ (acB a).getD j 0) ∧ lett a.kind ≠ [] := by
  have h4 := acB_len a
  rcases hB : acB a with _ | ⟨b0, _ | ⟨b1, _ | ⟨b2, _ | ⟨b3, _ | ⟨b4, r⟩⟩⟩⟩⟩ <;> rw [hB] at h4 <;> simp at h4
  simp only [acMay, hB, acN, List.zip_cons_cons, List.zip_nil_left, List.all_cons, List.all_nil, Bool.and_eq_true, decide_eq_true_eq, Bool.not_eq_true', decide_eq_false_iff_not]
  constructor
  · rintro ⟨⟨h0, h1, h2, h3, _⟩, hk⟩
    refine ⟨fun j hj => ?_, hk⟩
    rcases (show j = 0 ∨ j = 1 ∨ j = 2 ∨ j = 3 by omega) with rfl | rfl | rfl | rfl
    · exact h0
    · exact h1
    · exact h2
    · exact h3
  · rintro ⟨h, hk⟩
    exact ⟨⟨h 0 (by omega), h 1 (by omega), h 2 (by omega), h 3 (by omega), trivial⟩, hk⟩
theorem acB_four (a : Ac) : ∃ b0 b1 b2 b3, acB a = [b0, b1, b2, b3] := by
  have h4 := acB_len a
  rcases hB : acB a with _ | ⟨b0, _ | ⟨b1, _ | ⟨b2, _ | ⟨b3, _ | ⟨b4, r⟩⟩⟩⟩⟩ <;> rw [hB] at h4 <;> simp at h4
  exact ⟨b0, b1, b2, b3, rfl⟩
theorem sc_bounds4 {p : Option Addr} (a : Ac) {b0 b1 b2 b3 : Int} (w : World) (hi : In w p (encA a)) (hB : acB a = [b0, b1, b2, b3]) : Fn Tryd.prog 71 [.pointer p] w [] fun v L' => v = .agg #[.int .i64 b0, .int .i64 b1, .int .i64 b2, .int .i64 b3] ∧ L' = [] := by
  have h := sc_bounds a w hi
  rw [hB] at h; exact h
set_option maxRecDepth 100000 in
theorem sc_May (a : Ac) (w : World) (ht : a.text.length ≤ 140737488355328) : Fn Tryd.prog 37 [vA a] w [] fun v L' => v = .bool (acMay a) ∧ L' = [] := by
  obtain ⟨q0, q1, q2, q3, hB⟩ := acB_four a
  have hlN : (acN a).length = 4 := rfl
  have hq4 : ([q0, q1, q2, q3] : List Int).length = 4 := rfl
  refine Fn.enter Tryd.func37 rfl rfl rfl rfl (Holds.nil w) ?_
  refine CW.seq ?_
  refine CW.region ?_
  refine W.bx rfl (vt rfl) rfl fun b1 => ?_
  refine W.p O.as ?_
  refine WL.nil (Q.tn ?_)
  refine CW.seq ?_
  refine CW.region ?_
  refine W.q (O.call ⟨rfl, rfl⟩ (AV.cons (vt rfl) (AV.nil)) (fun _ w hw => sc_bounds4 a w (in_blk hw) hB)) ?_
  refine W.al (cs := (List.replicate 4 (0 : Int)).map kI) rfl rfl fun b2 => ?_
  refine W.st (vt rfl) (vt rfl) rfl ?_
  refine WL.nil (Q.tn ?_)
  refine CW.seq ?_
  refine CW.seq ?_
  refine CW.region ?_
  first | refine W.p O.fb ?_ | refine W.p O.fa ?_
  first | refine W.p O.ld ?_ | refine W.p O.ldC ?_
  refine W.p O.len ?_
  first | refine W.p O.fb ?_ | refine W.p O.fa ?_
  first | refine W.p O.ld ?_ | refine W.p O.ldC ?_
  first | refine W.p O.fb ?_ | refine W.p O.fa ?_
  first | refine W.p O.ld ?_ | refine W.p O.ldC ?_
  first | refine W.p O.fb ?_ | refine W.p O.fa ?_
  first | refine W.p O.ld ?_ | refine W.p O.ldC ?_
  refine W.bs encI (acN a) rfl (PV.cons (vt rfl) (PV.cons (vt rfl) (PV.cons (vt rfl) (PV.cons (vt rfl) (PV.nil))))) rfl rfl rfl (by decide) rfl fun b3 => ?_
  refine W.p O.lenL ?_
  refine W.p O.mv ?_
  refine WL.nil (Q.tn ?_)
  refine CW.block ?_
  refine CW.loopA (X := Int) (fun i => [(1, true, .pointer (some ⟨b1, 0, none⟩)), (3, true, .pointer (some ⟨b2, 0, none⟩)), (16, true, .slice (oa (some b3)) 4 4), (17, true, .int .i64 4), (18, true, .int .i64 i)]) (fun i => rowL (some b3) 3 (flat encI (acN a) []) ++ [(b2, .cells ([q0, q1, q2, q3].map kI).toArray 108 (0, 0)), (b1, .cells (encA a).toArray 73 (0, 0))]) (fun i => 0 ≤ i ∧ i ≤ 4 ∧ ∀ j : Nat, (j : Int) < i → 0 ≤ (acN a).getD j 0 ∧ (acN a).getD j 0 ≤ [q0, q1, q2, q3].getD j 0) (fun i => (4 - i).toNat) (0) ?_ ?_
  · exact ⟨by omega, by omega, fun j h => absurd h (by omega)⟩
  rintro i hI
  try dsimp only at hI ⊢
  obtain ⟨h0, h1, hk⟩ := hI
  refine CW.seq ?_
  refine CW.region ?_
  refine W.p O.lss ?_
  refine WL.nil (Q.tn ?_)
  refine CW.seq ?_
  refine CW.cond (vt rfl) (fun hc1 => ?_) (fun hc1 => ?_)
  · try simp only [sk] at hc1
    refine CW.skip (Q.tn ?_)
    refine CW.seq ?_
    refine CW.block ?_
    refine CW.seq ?_
    refine CW.region ?_
    refine W.p O.mv ?_
    refine W.p O.ixA ?_
    refine W.p O.ldE ?_
    refine W.p O.as ?_
    refine W.p O.as ?_
    refine WL.nil (Q.tn ?_)
    refine CW.seq ?_
    refine CW.region ?_
    refine W.p O.mv ?_
    refine W.p O.lss ?_
    refine W.p O.mv ?_
    refine W.p O.mv ?_
    refine W.p O.mv ?_
    refine W.p O.ixR ?_
    refine W.p (O.ldA (0 : Int) (h := fun hg => by first | omega | (simp only [cond_true, cond_false, Bool.true_and, Bool.and_eq_true, Bool.not_eq_true', decide_eq_true_eq, decide_eq_false_iff_not, Bool.or_eq_false_iff, Bool.cond_true_left] at *; omega))) ?_
    refine W.p O.gtr ?_
    refine W.p O.pkB ?_
    refine WL.nil (Q.tn ?_)
    refine CW.cond (vt rfl) (fun hc2 => ?_) (fun hc2 => ?_)
    · try simp only [sk] at hc2
      simp only [Nat.mul_one] at hc2
      refine CW.seq ?_
      refine CW.region ?_
      refine W.p O.as ?_
      refine WL.nil (Q.tn ?_)
      refine CW.ret (Q.br (Q.tr (Q.tr (Q.br (Q.tr ?_)))))
      refine ⟨_, [], (RVs.tmp rfl RVs.nil), List.nil_sublist _, ?_⟩
      refine ⟨congrArg Value.bool ?_, rfl⟩
      symm; rw [Bool.eq_false_iff]; intro hq; have := (may_all.1 hq).1 i.toNat (by omega); rw [hB] at this; omega
    try simp only [sk] at hc2
    simp only [Nat.mul_one] at hc2
    refine CW.skip (Q.bn (Q.tn ?_))
    refine CW.region ?_
    first | refine W.p O.addN ?_ | refine W.p O.add ?_
    refine W.p O.mv ?_
    refine WL.nil (Q.tn ?_)
    refine nextA (_) ?_ ?_
    · try dsimp only
      refine ⟨by omega, by omega, fun j hj => ?_⟩
      by_cases e : (j : Int) = i
      · subst e; simp only [Int.toNat_natCast] at hc2; omega
      · exact hk j (by omega)
    · try dsimp only
      omega
  try simp only [sk] at hc1
  refine CW.exit (Q.te (Q.te (Q.bx (Q.tn ?_))))
  refine CW.seq ?_
  refine CW.region ?_
  first | refine W.p O.fb ?_ | refine W.p O.fa ?_
  first | refine W.p O.ld ?_ | refine W.p O.ldC ?_
  refine W.q (O.call ⟨rfl, rfl⟩ (AV.cons (vt rfl) (AV.nil)) (fun _ w hw => sc_letter _ w)) ?_
  refine W.p O.neS ?_
  refine W.p O.as ?_
  refine WL.nil (Q.tn ?_)
  refine CW.ret ?_
  refine ⟨_, [], (RVs.tmp rfl RVs.nil), List.nil_sublist _, ?_⟩
  refine ⟨congrArg Value.bool ?_, rfl⟩
  rw [Bool.eq_iff_iff, may_all, hB]; simp; intro hq; exact fun j hj => hk j (by omega)
end Go.Proofs.YtagiajnpnjakhaaDoor
