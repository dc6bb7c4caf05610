/- What the taker of package rr, and rr.Get, come to. Condition: the texts are not longer than some 2^46 bytes. -/
import Derived.Test.YtkjcmdgideddnaaRrPen
import Derived.Test.YtkjcmdgideddnaaWire
set_option linter.unusedVariables false
set_option linter.unusedSimpArgs false
namespace Go.Proofs.Ytkjcmdgideddnaa
open Go Go.RowKit
set_option maxRecDepth 100000 in
theorem be_Wide (k : Int) (w : World) : Fn Try.prog 182 [.int .i64 k] w [] fun v L' => v = .bool (decide (k = 1 ∨ k = 2 ∨ k = 4)) ∧ L' = [] := by
  refine Fn.enter Try.func182 rfl rfl rfl rfl (Holds.nil w) ?_
  refine CW.seq ?_
  refine CW.region ?_
  refine W.p O.as ?_
  refine WL.nil (Q.tn ?_)
  refine CW.seq ?_
  refine CW.region ?_
  refine W.p O.mv ?_
  refine W.p O.eqI ?_
  refine W.p O.mv ?_
  refine W.p O.mv ?_
  refine W.p O.eqI ?_
  refine W.p O.pkB ?_
  refine W.p O.mv ?_
  refine W.p O.mv ?_
  refine W.p O.eqI ?_
  refine W.p O.pkB ?_
  refine W.p O.as ?_
  refine WL.nil (Q.tn ?_)
  refine CW.ret ?_
  refine ⟨_, [], (RVs.tmp rfl RVs.nil), List.nil_sublist _, ?_⟩
  refine ⟨congrArg Value.bool ?_, rfl⟩
  by_cases h1 : k = 1 <;> by_cases h2 : k = 2 <;> by_cases h4 : k = 4 <;> simp [h1, h2, h4]
set_option maxRecDepth 100000 in
theorem be_Get (s : List UInt8) (p k : Int) (w : World) (hs : s.length ≤ 140737488355328) : Fn Try.prog 160 [.string (S s), .int .i64 p, .int .i64 k] w [] fun v L' => v = .tuple #[.int .i64 (beG s p k).1, .int .i64 (beG s p k).2] ∧ L' = [] := by
  refine Fn.enter Try.func160 rfl rfl rfl rfl (Holds.nil w) ?_
  refine CW.seq ?_
  refine CW.region ?_
  refine W.p O.as ?_
  refine W.p O.as ?_
  refine WL.nil (Q.tn ?_)
  refine CW.seq ?_
  refine CW.block ?_
  refine CW.seq ?_
  refine CW.region ?_
  refine W.p O.mv ?_
  refine W.q (O.call ⟨rfl, rfl⟩ (AV.cons (vt rfl) (AV.nil)) (fun _ w hw => be_Wide _ w)) ?_
  refine W.p O.nt ?_
  refine W.p O.mv ?_
  refine W.p O.mv ?_
  refine W.p O.lss ?_
  refine W.p O.pkB ?_
  refine W.p O.as ?_
  refine WL.nil (Q.tn ?_)
  refine CW.cond (vt rfl) (fun hc1 => ?_) (fun hc1 => ?_)
  · try simp only [Bool.cond_true_left, Bool.cond_false_right, Bool.or_eq_true, Bool.or_eq_false_iff, Bool.and_eq_true, Bool.and_eq_false_iff, decide_eq_true_eq, decide_eq_false_iff_not, Bool.not_eq_true', Bool.not_eq_false'] at hc1
    refine CW.seq ?_
    refine CW.region ?_
    refine W.p O.as ?_
    refine W.p O.as ?_
    refine WL.nil (Q.tn ?_)
    refine CW.ret (Q.br (Q.tr ?_))
    refine ⟨_, [], (RVs.tmp rfl (RVs.tmp rfl RVs.nil)), List.nil_sublist _, ?_⟩
    refine ⟨?_, rfl⟩
    rw [beG, if_pos hc1]; rfl
  try simp only [Bool.cond_true_left, Bool.cond_false_right, Bool.or_eq_true, Bool.or_eq_false_iff, Bool.and_eq_true, Bool.and_eq_false_iff, decide_eq_true_eq, decide_eq_false_iff_not, Bool.not_eq_true', Bool.not_eq_false'] at hc1
  refine CW.seq ?_
  refine CW.region ?_
  refine W.p O.mv ?_
  refine W.p O.mv ?_
  refine W.p O.len ?_
  refine W.p O.mv ?_
  first | refine W.p O.subN ?_ | refine W.p O.sub ?_
  refine W.p O.gtr ?_
  refine W.p O.as ?_
  refine WL.nil (Q.tn ?_)
  refine CW.cond (vt rfl) (fun hc2 => ?_) (fun hc2 => ?_)
  · try simp only [Bool.cond_true_left, Bool.cond_false_right, Bool.or_eq_true, Bool.or_eq_false_iff, Bool.and_eq_true, Bool.and_eq_false_iff, decide_eq_true_eq, decide_eq_false_iff_not, Bool.not_eq_true', Bool.not_eq_false'] at hc2
    refine CW.seq ?_
    refine CW.region ?_
    refine W.p O.as ?_
    refine W.p O.as ?_
    refine WL.nil (Q.tn ?_)
    refine CW.ret (Q.br (Q.tr ?_))
    refine ⟨_, [], (RVs.tmp rfl (RVs.tmp rfl RVs.nil)), List.nil_sublist _, ?_⟩
    refine ⟨?_, rfl⟩
    rw [beG, if_neg (by omega), if_pos hc2]; rfl
  try simp only [Bool.cond_true_left, Bool.cond_false_right, Bool.or_eq_true, Bool.or_eq_false_iff, Bool.and_eq_true, Bool.and_eq_false_iff, decide_eq_true_eq, decide_eq_false_iff_not, Bool.not_eq_true', Bool.not_eq_false'] at hc2
  refine CW.skip (Q.bn (Q.tn ?_))
  refine CW.seq ?_
  refine CW.region ?_
  refine W.p O.mv ?_
  refine W.p O.mv ?_
  refine W.p O.mv ?_
  refine W.p O.mv ?_
  first | refine W.p O.addN ?_ | refine W.p O.add ?_
  refine W.p O.slc ?_
  refine W.q (O.call ⟨rfl, rfl⟩ (AV.cons (vt rfl) (AV.nil)) (fun _ w hw => be_Number _ w (by simp only [List.length_drop, List.length_take]; omega))) ?_
  refine W.p O.as ?_
  refine W.p O.as ?_
  refine WL.nil (Q.tn ?_)
  refine CW.ret ?_
  refine ⟨_, [], (RVs.tmp rfl (RVs.tmp rfl RVs.nil)), List.nil_sublist _, ?_⟩
  refine ⟨?_, rfl⟩
  rw [beG, if_neg (by omega), if_neg hc2]; rfl
abbrev TkO (b : Nat) (s : List UInt8) (t : TS) : Nat × Obj := (b, .cells #[.string (S s), .int .i64 t.at_, .bool t.bad] 172 (0, 0))
abbrev TkH (b : Nat) (s : List UInt8) (t : TS) : Heap := [TkO b s t]
abbrev RrO (b : Nat) (r : RR) : Nat × Obj := (b, .cells (encR r).toArray 96 (0, 0))
set_option maxRecDepth 100000 in
theorem tk_Num {b : Nat} {s : List UInt8} {t : TS} (k : Int) (w : World) (hL : Holds (TkH b s t) w) (hs : s.length ≤ 140737488355328) :
    Fn Try.prog 115 [.pointer (some ⟨b, 0, none⟩), .int .i64 k] w (TkH b s t) fun v L' => v = .int .i64 (tNum IntKind.i64.wrap s k t).1 ∧ L' = TkH b s (tNum IntKind.i64.wrap s k t).2 := by
  refine Fn.enter Try.func115 rfl rfl rfl rfl hL ?_
  refine CW.seq ?_
  refine CW.region ?_
  refine W.p O.as ?_
  refine WL.nil (Q.tn ?_)
  refine CW.seq ?_
  refine CW.draw 15 rfl (by kernel_rfl) ?_
  refine WQ.p O.mv ?_
  refine WQ.p O.nc ?_
  first | refine WQ.p O.fb ?_ | refine WQ.p O.fa ?_
  refine WQ.p O.ld ?_
  refine WQ.p O.mv ?_
  refine WQ.p O.nc ?_
  first | refine WQ.p O.fb ?_ | refine WQ.p O.fa ?_
  refine WQ.p O.ld ?_
  refine WQ.p O.mv ?_
  refine WQ.q (O.call ⟨rfl, rfl⟩ (AV.cons (vt rfl) (AV.cons (vt rfl) (AV.cons (vt rfl) (AV.nil)))) (fun _ w hw => be_Get _ _ _ w hs)) ?_
  refine WQ.p O.mv ?_
  first | refine WQ.p O.extL ?_ | refine WQ.p O.ext ?_
  first | refine WQ.p O.extL ?_ | refine WQ.p O.ext ?_
  refine WQ.p O.as ?_
  refine WQ.p O.as ?_
  refine WQ.nil ?_
  refine WL.nil (Q.tn ?_)
  refine CW.seq ?_
  refine CW.region ?_
  refine W.p O.mv ?_
  refine W.p O.mv ?_
  refine W.p O.nc ?_
  first | refine W.p O.fb ?_ | refine W.p O.fa ?_
  refine W.p O.ld ?_
  refine W.p O.mv ?_
  refine W.p O.mv ?_
  refine W.p O.neI ?_
  refine W.p O.pkB ?_
  refine W.p O.nc ?_
  first | refine W.p O.fb ?_ | refine W.p O.fa ?_
  refine W.st (vt rfl) (vt rfl) rfl ?_
  refine WL.nil (Q.tn ?_)
  refine CW.seq ?_
  refine CW.region ?_
  refine W.p O.mv ?_
  refine W.p O.nc ?_
  first | refine W.p O.fb ?_ | refine W.p O.fa ?_
  refine W.p O.ld ?_
  refine W.p O.mv ?_
  first | refine W.p O.addN ?_ | refine W.p O.add ?_
  refine W.p O.nc ?_
  first | refine W.p O.fb ?_ | refine W.p O.fa ?_
  first | refine W.st (vt rfl) (vt rfl) rfl ?_ | refine W.st (u := .int _ _) (vt rfl) (vt rfl) rfl ?_
  refine WL.nil (Q.tn ?_)
  refine CW.seq ?_
  refine CW.region ?_
  refine W.p O.mv ?_
  refine W.p O.as ?_
  refine WL.nil (Q.tn ?_)
  refine CW.ret ?_
  refine ⟨_, _, RVs.tmp rfl RVs.nil, List.Sublist.refl _, ?_⟩
  exact ⟨rfl, rfl⟩
set_option maxRecDepth 100000 in
theorem tk_Name {b : Nat} {s : List UInt8} {t : TS} (w : World) (hL : Holds (TkH b s t) w) (hs : s.length ≤ 140737488355328) :
    Fn Try.prog 130 [.pointer (some ⟨b, 0, none⟩)] w (TkH b s t) fun v L' => v = .string (S (tName s t).1) ∧ L' = TkH b s (tName s t).2 := by
  refine Fn.enter Try.func130 rfl rfl rfl rfl hL ?_
  refine CW.seq ?_
  refine CW.region ?_
  refine W.p O.as ?_
  refine WL.nil (Q.tn ?_)
  refine CW.seq ?_
  refine CW.draw 16 rfl (by kernel_rfl) ?_
  refine WQ.p O.mv ?_
  refine WQ.p O.nc ?_
  first | refine WQ.p O.fb ?_ | refine WQ.p O.fa ?_
  refine WQ.p O.ld ?_
  refine WQ.p O.mv ?_
  refine WQ.p O.nc ?_
  first | refine WQ.p O.fb ?_ | refine WQ.p O.fa ?_
  refine WQ.p O.ld ?_
  refine WQ.q (O.call ⟨rfl, rfl⟩ (AV.cons (vt rfl) (AV.cons (vt rfl) (AV.nil))) (fun _ w hw => wr_Get _ _ w hs)) ?_
  refine WQ.p O.mv ?_
  first | refine WQ.p O.extL ?_ | refine WQ.p O.ext ?_
  first | refine WQ.p O.extL ?_ | refine WQ.p O.ext ?_
  first | refine WQ.p O.extL ?_ | refine WQ.p O.ext ?_
  refine WQ.p O.as ?_
  refine WQ.p O.as ?_
  refine WQ.p O.as ?_
  refine WQ.nil ?_
  refine WL.nil (Q.tn ?_)
  refine CW.seq ?_
  refine CW.seq ?_
  refine CW.region ?_
  refine W.p O.mv ?_
  refine W.p O.mv ?_
  refine W.p O.nc ?_
  first | refine W.p O.fb ?_ | refine W.p O.fa ?_
  refine W.p O.ld ?_
  refine W.p O.mv ?_
  refine W.p O.mv ?_
  refine W.p O.neI ?_
  refine W.p O.pkB ?_
  refine W.p O.nc ?_
  first | refine W.p O.fb ?_ | refine W.p O.fa ?_
  refine W.st (vt rfl) (vt rfl) rfl ?_
  refine WL.nil (Q.tn ?_)
  refine CW.seq ?_
  refine CW.region ?_
  refine W.p O.mv ?_
  refine W.p O.nc ?_
  first | refine W.p O.fb ?_ | refine W.p O.fa ?_
  refine W.p O.ld ?_
  refine W.p O.nt ?_
  refine WL.nil (Q.tn ?_)
  refine CW.cond (vt rfl) (fun hc1 => ?_) (fun hc1 => ?_)
  · try simp only [Bool.cond_true_left, Bool.cond_false_right, Bool.or_eq_true, Bool.or_eq_false_iff, Bool.and_eq_true, Bool.and_eq_false_iff, decide_eq_true_eq, decide_eq_false_iff_not, Bool.not_eq_true', Bool.not_eq_false'] at hc1
    refine CW.region ?_
    refine W.p O.mv ?_
    refine W.p O.mv ?_
    refine W.p O.nc ?_
    first | refine W.p O.fb ?_ | refine W.p O.fa ?_
    first | refine W.st (vt rfl) (vt rfl) rfl ?_ | refine W.st (u := .int _ _) (vt rfl) (vt rfl) rfl ?_
    refine WL.nil (Q.tn ?_)
    refine CW.seq ?_
    refine CW.region ?_
    refine W.p O.mv ?_
    refine W.p O.as ?_
    refine WL.nil (Q.tn ?_)
    refine CW.ret ?_
    refine ⟨_, _, RVs.tmp rfl RVs.nil, List.Sublist.refl _, ?_⟩
    refine ⟨rfl, ?_⟩
    have hno : ¬ (t.bad = true ∨ grE (getName s t.at_) ≠ 0) := by rintro (h | h); rw [hc1.1] at h; cases h; exact h hc1.2
    have hv : (bif t.bad then true else !decide (grE (getName s t.at_) = 0)) = false := by rw [hc1.1, decide_eq_true hc1.2]; rfl
    rw [tName, if_neg hno]
    show TkH b s ⟨grT (getName s t.at_), (bif t.bad then true else !decide (grE (getName s t.at_) = 0))⟩ = _
    rw [hv]
  try simp only [Bool.cond_true_left, Bool.cond_false_right, Bool.or_eq_true, Bool.or_eq_false_iff, Bool.and_eq_true, Bool.and_eq_false_iff, decide_eq_true_eq, decide_eq_false_iff_not, Bool.not_eq_true', Bool.not_eq_false'] at hc1
  refine CW.skip (Q.tn ?_)
  refine CW.seq ?_
  refine CW.region ?_
  refine W.p O.mv ?_
  refine W.p O.as ?_
  refine WL.nil (Q.tn ?_)
  refine CW.ret ?_
  refine ⟨_, _, RVs.tmp rfl RVs.nil, List.Sublist.refl _, ?_⟩
  refine ⟨rfl, ?_⟩
  have hyes : t.bad = true ∨ grE (getName s t.at_) ≠ 0 := hc1
  have hv : (bif t.bad then true else !decide (grE (getName s t.at_) = 0)) = true := by rcases hyes with h | h; rw [h]; rfl; rw [decide_eq_false h]; cases t.bad <;> rfl
  rw [tName, if_pos hyes]
  show TkH b s ⟨t.at_, (bif t.bad then true else !decide (grE (getName s t.at_) = 0))⟩ = _
  rw [hv]
theorem wr_sub {n k a : Int} (h0 : 0 ≤ a) (h1 : a ≤ n) (h2 : n ≤ 140737488355328) : IntKind.i64.wrap (n - a) = n - a := wrap_in _ (by omega)
set_option maxRecDepth 100000 in
theorem tk_Some {b : Nat} {s : List UInt8} {t : TS} (k : Int) (w : World) (hL : Holds (TkH b s t) w) (hs : s.length ≤ 140737488355328) (hb : t.bad = false → 0 ≤ t.at_ ∧ t.at_ ≤ s.length) (hk : 0 ≤ k ∧ k ≤ 65536) :
    Fn Try.prog 117 [.pointer (some ⟨b, 0, none⟩), .int .i64 k] w (TkH b s t) fun v L' => v = .string (S (tSome s k t).1) ∧ L' = TkH b s (tSome s k t).2 := by
  refine Fn.enter Try.func117 rfl rfl rfl rfl hL ?_
  refine CW.seq ?_
  refine CW.region ?_
  refine W.p O.as ?_
  refine WL.nil (Q.tn ?_)
  refine CW.seq ?_
  refine CW.seq ?_
  refine CW.draw 18 rfl (by kernel_rfl) ?_
  refine WQ.p O.mv ?_
  refine WQ.p O.nc ?_
  first | refine WQ.p O.fb ?_ | refine WQ.p O.fa ?_
  refine WQ.p O.ld ?_
  refine WQ.p O.mv ?_
  refine WQ.p O.mv ?_
  refine WQ.p O.mv ?_
  refine WQ.p O.nc ?_
  first | refine WQ.p O.fb ?_ | refine WQ.p O.fa ?_
  refine WQ.p O.ld ?_
  refine WQ.p O.len ?_
  refine WQ.p O.mv ?_
  refine WQ.p O.nc ?_
  first | refine WQ.p O.fb ?_ | refine WQ.p O.fa ?_
  refine WQ.p O.ld ?_
  first | refine WQ.p O.subN ?_ | refine WQ.p O.sub ?_
  refine WQ.p O.gtr ?_
  refine WQ.p O.pkB ?_
  refine WQ.nil ?_
  refine WL.nil (Q.tn ?_)
  refine CW.cond (vt rfl) (fun hc1 => ?_) (fun hc1 => ?_)
  · try simp only [Bool.cond_true_left, Bool.cond_false_right, Bool.or_eq_true, Bool.or_eq_false_iff, Bool.and_eq_true, Bool.and_eq_false_iff, decide_eq_true_eq, decide_eq_false_iff_not, Bool.not_eq_true', Bool.not_eq_false'] at hc1
    have hyes : t.bad = true ∨ (s.length : Int) - t.at_ < k := by cases hB : t.bad with | true => exact .inl rfl | false => rw [hB] at hc1; have := hb hB; rw [wrap_in _ (by omega)] at hc1; exact .inr (by simpa using hc1)
    refine CW.seq ?_
    refine CW.region ?_
    refine W.p O.mv ?_
    refine W.p O.nc ?_
    first | refine W.p O.fb ?_ | refine W.p O.fa ?_
    refine W.st (vt rfl) (vt rfl) rfl ?_
    refine WL.nil (Q.tn ?_)
    refine CW.seq ?_
    refine CW.region ?_
    refine W.p O.as ?_
    refine WL.nil (Q.tn ?_)
    refine CW.ret (Q.tr ?_)
    refine ⟨_, _, RVs.tmp rfl RVs.nil, List.Sublist.refl _, ?_⟩
    rw [tSome, if_pos hyes]
    exact ⟨rfl, rfl⟩
  try simp only [Bool.cond_true_left, Bool.cond_false_right, Bool.or_eq_true, Bool.or_eq_false_iff, Bool.and_eq_true, Bool.and_eq_false_iff, decide_eq_true_eq, decide_eq_false_iff_not, Bool.not_eq_true', Bool.not_eq_false'] at hc1
  have hB : t.bad = false := by rcases hc1 with ⟨h, _⟩; exact h
  have hb2 := hb hB
  rw [wrap_in _ (by omega)] at hc1
  refine CW.skip (Q.tn ?_)
  refine CW.seq ?_
  refine CW.region ?_
  refine W.p O.mv ?_
  refine W.p O.nc ?_
  first | refine W.p O.fb ?_ | refine W.p O.fa ?_
  refine W.p O.ld ?_
  refine W.p O.mv ?_
  first | refine W.p O.addN ?_ | refine W.p O.add ?_
  refine W.p O.nc ?_
  first | refine W.p O.fb ?_ | refine W.p O.fa ?_
  first | refine W.st (vt rfl) (vt rfl) rfl ?_ | refine W.st (u := .int _ _) (vt rfl) (vt rfl) rfl ?_
  refine WL.nil (Q.tn ?_)
  refine CW.seq ?_
  refine CW.draw 16 rfl (by kernel_rfl) ?_
  refine WQ.p O.mv ?_
  refine WQ.p O.nc ?_
  first | refine WQ.p O.fb ?_ | refine WQ.p O.fa ?_
  refine WQ.p O.ld ?_
  refine WQ.p O.mv ?_
  refine WQ.p O.nc ?_
  first | refine WQ.p O.fb ?_ | refine WQ.p O.fa ?_
  refine WQ.p O.ld ?_
  refine WQ.p O.mv ?_
  first | refine WQ.p O.subN ?_ | refine WQ.p O.sub ?_
  refine WQ.p O.mv ?_
  refine WQ.p O.nc ?_
  first | refine WQ.p O.fb ?_ | refine WQ.p O.fa ?_
  refine WQ.p O.ld ?_
  refine WQ.p O.slc ?_
  refine WQ.p O.as ?_
  refine WQ.nil ?_
  refine WL.nil (Q.tn ?_)
  refine CW.ret ?_
  refine ⟨_, _, RVs.tmp rfl RVs.nil, List.Sublist.refl _, ?_⟩
  have hno : ¬ (t.bad = true ∨ (s.length : Int) - t.at_ < k) := by rintro (h | h); rw [hB] at h; cases h; omega
  rw [tSome, if_neg hno]
  refine ⟨?_, ?_⟩
  · show Value.string (S (slc s (t.at_ + k - k) (t.at_ + k))) = _; rw [show t.at_ + k - k = t.at_ by omega]
  · show TkH b s ⟨t.at_ + k, t.bad⟩ = _; rw [hB]
theorem tNum_rng {s : List UInt8} (hs : s.length ≤ 140737488355328) {k : Int} (hk : k = 1 ∨ k = 2 ∨ k = 4) {t : TS} (ht : t.bad = false → 0 ≤ t.at_) : (tNum IntKind.i64.wrap s k t).2.bad = false → 0 ≤ (tNum IntKind.i64.wrap s k t).2.at_ ∧ (tNum IntKind.i64.wrap s k t).2.at_ ≤ s.length := fun h => by
  rcases tNum_ok wr_in hs hk ht with ⟨a, _⟩ | ⟨a, b, c⟩
  · rw [a] at h; cases h
  · have := ht a; rw [c]; exact ⟨by dsimp only; omega, b⟩
theorem beG_rng1 (s : List UInt8) (p : Int) : 0 ≤ (beG s p 1).1 ∧ (beG s p 1).1 ≤ 65536 := by
  unfold beG
  split; · simp
  split; · simp
  have := numI_1 (l := slc s p (p + 1)) (by simp only [slc, List.length_drop, List.length_take]; omega)
  exact ⟨this.1, by dsimp only; omega⟩
set_option maxRecDepth 100000 in
theorem tk_soa {b br : Nat} {s : List UInt8} {t : TS} {r : RR} (w : World) (hL : Holds (RrO br r :: TkH b s t) w) (hs : s.length ≤ 140737488355328) :
    Fn Try.prog 165 [.pointer (some ⟨b, 0, none⟩), .pointer (some ⟨br, 0, none⟩)] w (RrO br r :: TkH b s t) fun v L' => L' = RrO br (tSoa IntKind.i64.wrap s r t).1 :: TkH b s (tSoa IntKind.i64.wrap s r t).2 := by
  refine Fn.enter Try.func165 rfl rfl rfl rfl hL ?_
  refine CW.seq ?_
  refine CW.region ?_
  refine W.p O.mv ?_
  refine W.p O.mv ?_
  refine W.callS (first := []) (cap := []) (TkH b s t) rfl (vt rfl) (AV.cons (vt rfl) (AV.nil)) (fun w hu hh => tk_Name w hh hs) ?_; rintro _ _ ⟨rfl, rfl⟩
  refine W.p O.nc ?_
  first | refine W.p O.fb ?_ | refine W.p O.fa ?_
  first | refine W.st (vt rfl) (vt rfl) rfl ?_ | refine W.st (u := .string _) (vt rfl) (vt rfl) rfl ?_
  refine WL.nil (Q.tn ?_)
  refine CW.seq ?_
  refine CW.drawH [RrO br ⟨r.name, r.type, r.ttl, r.addr, (tName s t).1, r.text, r.serial⟩] rfl ?_
  refine RH.q 0 (fun _ _ _ h => h) rfl (by kernel_rfl) (by repeat (first | exact List.nil_sublist _ | exact List.Sublist.refl _ | exact List.sublist_append_left _ _ | exact List.sublist_append_right _ _ | apply List.Sublist.cons_cons | apply List.Sublist.cons | refine List.Sublist.trans ?_ (List.sublist_append_right _ _))) (O.mv) ?_
  refine RH.q 1 (fun _ _ _ h => h) rfl (by kernel_rfl) (by repeat (first | exact List.nil_sublist _ | exact List.Sublist.refl _ | exact List.sublist_append_left _ _ | exact List.sublist_append_right _ _ | apply List.Sublist.cons_cons | apply List.Sublist.cons | refine List.Sublist.trans ?_ (List.sublist_append_right _ _))) (O.mv) ?_
  refine RH.q 3 (fun _ _ _ h => h) rfl (by kernel_rfl) (by repeat (first | exact List.nil_sublist _ | exact List.Sublist.refl _ | exact List.sublist_append_left _ _ | exact List.sublist_append_right _ _ | apply List.Sublist.cons_cons | apply List.Sublist.cons | refine List.Sublist.trans ?_ (List.sublist_append_right _ _))) (O.mv) ?_
  refine RH.q 4 (fun _ _ _ h => h) rfl (by kernel_rfl) (by repeat (first | exact List.nil_sublist _ | exact List.Sublist.refl _ | exact List.sublist_append_left _ _ | exact List.sublist_append_right _ _ | apply List.Sublist.cons_cons | apply List.Sublist.cons | refine List.Sublist.trans ?_ (List.sublist_append_right _ _))) (O.nc) ?_
  first | refine RH.q 5 (fun _ _ _ h => h) rfl (by kernel_rfl) (by repeat (first | exact List.nil_sublist _ | exact List.Sublist.refl _ | exact List.sublist_append_left _ _ | exact List.sublist_append_right _ _ | apply List.Sublist.cons_cons | apply List.Sublist.cons | refine List.Sublist.trans ?_ (List.sublist_append_right _ _))) (O.fb) ?_ | refine RH.q 5 (fun _ _ _ h => h) rfl (by kernel_rfl) (by repeat (first | exact List.nil_sublist _ | exact List.Sublist.refl _ | exact List.sublist_append_left _ _ | exact List.sublist_append_right _ _ | apply List.Sublist.cons_cons | apply List.Sublist.cons | refine List.Sublist.trans ?_ (List.sublist_append_right _ _))) (O.fa) ?_
  refine RH.q 6 (fun _ _ _ h => h) rfl (by kernel_rfl) (by repeat (first | exact List.nil_sublist _ | exact List.Sublist.refl _ | exact List.sublist_append_left _ _ | exact List.sublist_append_right _ _ | apply List.Sublist.cons_cons | apply List.Sublist.cons | refine List.Sublist.trans ?_ (List.sublist_append_right _ _))) (O.ld) ?_
  refine RH.one (i := 2) (fun _ _ h => h) (by kernel_rfl) rfl ?_
  refine W.callS (first := []) (cap := []) (TkH b s (tName s t).2) rfl (vt rfl) (AV.cons (vt rfl) (AV.nil)) (fun w hu hh => tk_Name w hh hs) ?_; rintro _ _ ⟨rfl, rfl⟩
  refine WL.nilQn ⟨(by repeat (first | exact List.nil_sublist _ | exact List.Sublist.refl _ | exact List.sublist_append_left _ _ | exact List.sublist_append_right _ _ | apply List.Sublist.cons_cons | apply List.Sublist.cons | refine List.Sublist.trans ?_ (List.sublist_append_right _ _))), ?_⟩
  refine RH.q 7 (fun _ _ _ h => h) rfl (by kernel_rfl) (by repeat (first | exact List.nil_sublist _ | exact List.Sublist.refl _ | exact List.sublist_append_left _ _ | exact List.sublist_append_right _ _ | apply List.Sublist.cons_cons | apply List.Sublist.cons | refine List.Sublist.trans ?_ (List.sublist_append_right _ _))) (O.neS) ?_
  refine RH.q 8 (fun _ _ _ h => h) rfl (by kernel_rfl) (by repeat (first | exact List.nil_sublist _ | exact List.Sublist.refl _ | exact List.sublist_append_left _ _ | exact List.sublist_append_right _ _ | apply List.Sublist.cons_cons | apply List.Sublist.cons | refine List.Sublist.trans ?_ (List.sublist_append_right _ _))) (O.mv) ?_
  refine RH.q 9 (fun _ _ _ h => h) rfl (by kernel_rfl) (by repeat (first | exact List.nil_sublist _ | exact List.Sublist.refl _ | exact List.sublist_append_left _ _ | exact List.sublist_append_right _ _ | apply List.Sublist.cons_cons | apply List.Sublist.cons | refine List.Sublist.trans ?_ (List.sublist_append_right _ _))) (O.mv) ?_
  refine RH.q 10 (fun _ _ _ h => h) rfl (by kernel_rfl) (by repeat (first | exact List.nil_sublist _ | exact List.Sublist.refl _ | exact List.sublist_append_left _ _ | exact List.sublist_append_right _ _ | apply List.Sublist.cons_cons | apply List.Sublist.cons | refine List.Sublist.trans ?_ (List.sublist_append_right _ _))) (O.nc) ?_
  first | refine RH.q 11 (fun _ _ _ h => h) rfl (by kernel_rfl) (by repeat (first | exact List.nil_sublist _ | exact List.Sublist.refl _ | exact List.sublist_append_left _ _ | exact List.sublist_append_right _ _ | apply List.Sublist.cons_cons | apply List.Sublist.cons | refine List.Sublist.trans ?_ (List.sublist_append_right _ _))) (O.fb) ?_ | refine RH.q 11 (fun _ _ _ h => h) rfl (by kernel_rfl) (by repeat (first | exact List.nil_sublist _ | exact List.Sublist.refl _ | exact List.sublist_append_left _ _ | exact List.sublist_append_right _ _ | apply List.Sublist.cons_cons | apply List.Sublist.cons | refine List.Sublist.trans ?_ (List.sublist_append_right _ _))) (O.fa) ?_
  refine RH.one (i := 12) (fun _ _ h => h) (by kernel_rfl) rfl ?_
  refine W.p O.ld ?_
  refine WL.nilQn ⟨(by repeat (first | exact List.nil_sublist _ | exact List.Sublist.refl _ | exact List.sublist_append_left _ _ | exact List.sublist_append_right _ _ | apply List.Sublist.cons_cons | apply List.Sublist.cons | refine List.Sublist.trans ?_ (List.sublist_append_right _ _))), ?_⟩
  refine RH.q 13 (fun _ _ _ h => h) rfl (by kernel_rfl) (by repeat (first | exact List.nil_sublist _ | exact List.Sublist.refl _ | exact List.sublist_append_left _ _ | exact List.sublist_append_right _ _ | apply List.Sublist.cons_cons | apply List.Sublist.cons | refine List.Sublist.trans ?_ (List.sublist_append_right _ _))) (O.pkB) ?_
  refine RH.q 14 (fun _ _ _ h => h) rfl (by kernel_rfl) (by repeat (first | exact List.nil_sublist _ | exact List.Sublist.refl _ | exact List.sublist_append_left _ _ | exact List.sublist_append_right _ _ | apply List.Sublist.cons_cons | apply List.Sublist.cons | refine List.Sublist.trans ?_ (List.sublist_append_right _ _))) (O.nc) ?_
  first | refine RH.q 15 (fun _ _ _ h => h) rfl (by kernel_rfl) (by repeat (first | exact List.nil_sublist _ | exact List.Sublist.refl _ | exact List.sublist_append_left _ _ | exact List.sublist_append_right _ _ | apply List.Sublist.cons_cons | apply List.Sublist.cons | refine List.Sublist.trans ?_ (List.sublist_append_right _ _))) (O.fb) ?_ | refine RH.q 15 (fun _ _ _ h => h) rfl (by kernel_rfl) (by repeat (first | exact List.nil_sublist _ | exact List.Sublist.refl _ | exact List.sublist_append_left _ _ | exact List.sublist_append_right _ _ | apply List.Sublist.cons_cons | apply List.Sublist.cons | refine List.Sublist.trans ?_ (List.sublist_append_right _ _))) (O.fa) ?_
  refine RH.one (i := 16) (fun _ _ h => h) (by kernel_rfl) rfl ?_
  refine W.st (vt rfl) (vt rfl) rfl ?_
  refine WL.nilQn ⟨(by repeat (first | exact List.nil_sublist _ | exact List.Sublist.refl _ | exact List.sublist_append_left _ _ | exact List.sublist_append_right _ _ | apply List.Sublist.cons_cons | apply List.Sublist.cons | refine List.Sublist.trans ?_ (List.sublist_append_right _ _))), ?_⟩
  refine RH.done (by kernel_rfl) (Q.tn ?_)
  refine CW.seq ?_
  refine CW.region ?_
  refine W.p O.mv ?_
  refine W.p O.mv ?_
  refine W.callS (first := []) (cap := []) (TkH b s ⟨(tName s (tName s t).2).2.at_, bif !decide ((tName s (tName s t).2).1 = (tName s t).1) then true else (tName s (tName s t).2).2.bad⟩) rfl (vt rfl) (AV.cons (vt rfl) (AV.cons (vt rfl) (AV.nil))) (fun w hu hh => tk_Num 4 w hh hs) ?_; rintro _ _ ⟨rfl, rfl⟩
  refine W.p O.nc ?_
  first | refine W.p O.fb ?_ | refine W.p O.fa ?_
  first | refine W.st (vt rfl) (vt rfl) rfl ?_ | refine W.st (u := .int _ _) (vt rfl) (vt rfl) rfl ?_
  refine WL.nil (Q.tn ?_)
  refine CW.seq ?_
  refine CW.region ?_
  refine W.callN (first := []) (cap := []) rfl (vt rfl) (AV.nil) (fun w hu => rr_times w) ?_; rintro _ _ ⟨ot, ct, st, rfl, okt, rfl⟩; have nkt := okt.nk
  refine W.p O.lenL ?_
  refine W.p O.mv ?_
  refine WL.nil (Q.tn ?_)
  refine CW.block ?_
  refine CW.loop (X := Int × TS) (fun ⟨i, q⟩ => [(0, true, .pointer (some ⟨b, 0, none⟩)), (32, true, .slice (oa ot) 4 ct), (33, true, .int .i64 4), (34, true, .int .i64 i)]) (fun ⟨i, q⟩ => rowL ot 3 (flat encI [60, 60, 600, 60] st) ++ (RrO br ⟨r.name, r.type, r.ttl, r.addr, (tName s t).1, r.text, (tNum IntKind.i64.wrap s 4 ⟨(tName s (tName s t).2).2.at_, bif !decide ((tName s (tName s t).2).1 = (tName s t).1) then true else (tName s (tName s t).2).2.bad⟩).1⟩ :: TkH b s q)) (fun ⟨i, q⟩ => 0 ≤ i ∧ i ≤ 4 ∧ q = (([60, 60, 600, 60] : List Int).take i.toNat).foldl (tTime IntKind.i64.wrap s) (tNum IntKind.i64.wrap s 4 ⟨(tName s (tName s t).2).2.at_, bif !decide ((tName s (tName s t).2).1 = (tName s t).1) then true else (tName s (tName s t).2).2.bad⟩).2) (fun ⟨i, q⟩ => (4 - i).toNat) (0, (tNum IntKind.i64.wrap s 4 ⟨(tName s (tName s t).2).2.at_, bif !decide ((tName s (tName s t).2).1 = (tName s t).1) then true else (tName s (tName s t).2).2.bad⟩).2) ?_ (by repeat (first | exact trivial | refine ⟨rfl, ?_⟩ | refine ⟨by (simp only [List.length_set]; rfl), ?_⟩)) (by repeat (first | exact List.Sublist.refl _ | exact List.sublist_append_left _ _ | exact List.nil_sublist _ | refine List.Sublist.append (List.Sublist.refl _) ?_ | apply List.Sublist.cons_cons | apply List.Sublist.cons | refine List.Sublist.trans ?_ (List.sublist_append_right _ _))) ?_
  · exact ⟨by omega, by omega, rfl⟩
  rintro ⟨i, q⟩ hI
  try dsimp only at hI ⊢
  obtain ⟨h0, h1, hq⟩ := hI
  refine CW.seq ?_
  refine CW.region ?_
  refine W.p O.lss ?_
  refine WL.nil (Q.tn ?_)
  refine CW.seq ?_
  refine CW.cond (vt rfl) (fun hc1 => ?_) (fun hc1 => ?_)
  · try simp only [Bool.cond_true_left, Bool.cond_false_right, Bool.or_eq_true, Bool.or_eq_false_iff, Bool.and_eq_true, Bool.and_eq_false_iff, decide_eq_true_eq, decide_eq_false_iff_not, Bool.not_eq_true', Bool.not_eq_false'] at hc1
    refine CW.skip (Q.tn ?_)
    refine CW.seq ?_
    refine CW.block ?_
    refine CW.seq ?_
    refine CW.region ?_
    refine W.p O.ixA ?_
    refine W.p O.ldE ?_
    refine W.p O.as ?_
    refine WL.nil (Q.tn ?_)
    refine CW.region ?_
    refine W.p O.mv ?_
    refine W.p O.mv ?_
    refine W.callS (first := []) (cap := []) (TkH b s q) rfl (vt rfl) (AV.cons (vt rfl) (AV.cons (vt rfl) (AV.nil))) (fun w hu hh => tk_Num 4 w hh hs) ?_; rintro _ _ ⟨rfl, rfl⟩
    refine W.p O.mv ?_
    refine W.p O.neI ?_
    refine W.p O.mv ?_
    refine W.p O.mv ?_
    refine W.p O.nc ?_
    first | refine W.p O.fb ?_ | refine W.p O.fa ?_
    refine W.p O.ld ?_
    refine W.p O.pkB ?_
    refine W.p O.nc ?_
    first | refine W.p O.fb ?_ | refine W.p O.fa ?_
    refine W.st (vt rfl) (vt rfl) rfl ?_
    refine WL.nil (Q.bn (Q.tn ?_))
    refine CW.region ?_
    first | refine W.p O.addN ?_ | refine W.p O.add ?_
    refine W.p O.mv ?_
    refine WL.nil (Q.tn ?_)
    refine ⟨(_, tTime IntKind.i64.wrap s q (([60, 60, 600, 60] : List Int).getD i.toNat 0)), ?_, ?_, (by repeat (first | exact trivial | refine ⟨rfl, ?_⟩ | refine ⟨by (simp only [List.length_set]; rfl), ?_⟩)), (by repeat (first | exact List.Sublist.refl _ | exact List.sublist_append_left _ _ | exact List.nil_sublist _ | refine List.Sublist.append (List.Sublist.refl _) ?_ | apply List.Sublist.cons_cons | apply List.Sublist.cons | refine List.Sublist.trans ?_ (List.sublist_append_right _ _)))⟩
    · try dsimp only
      refine ⟨by omega, by omega, ?_⟩
      rw [take_at' 0 h0 (by simpa using hc1), List.foldl_append, ← hq]; rfl
    · try dsimp only
      omega
  try simp only [Bool.cond_true_left, Bool.cond_false_right, Bool.or_eq_true, Bool.or_eq_false_iff, Bool.and_eq_true, Bool.and_eq_false_iff, decide_eq_true_eq, decide_eq_false_iff_not, Bool.not_eq_true', Bool.not_eq_false'] at hc1
  refine CW.exit (Q.te (Q.te (Q.bx ?_)))
  refine ⟨_, RrO br ⟨r.name, r.type, r.ttl, r.addr, (tName s t).1, r.text, (tNum IntKind.i64.wrap s 4 ⟨(tName s (tName s t).2).2.at_, bif !decide ((tName s (tName s t).2).1 = (tName s t).1) then true else (tName s (tName s t).2).2.bad⟩).1⟩ :: TkH b s q, RVs.nil, (by repeat (first | exact List.Sublist.refl _ | exact hSub _ | exact List.sublist_append_left _ _ | exact List.nil_sublist _ | refine List.Sublist.append (List.Sublist.refl _) ?_ | apply List.Sublist.cons_cons | apply List.Sublist.cons | exact List.sublist_append_left _ _ | refine List.Sublist.trans ?_ (List.sublist_append_right _ _))), ?_⟩
  have e4 : ([60, 60, 600, 60] : List Int).take i.toNat = [60, 60, 600, 60] := List.take_of_length_le (by simp; omega)
  rw [hq, e4]; rfl
theorem isName_iff (t : Int) : isName t = true ↔ t = 2 ∨ t = 5 ∨ t = 12 := by simp [isName, or_assoc]
section
variable {s : List UInt8} {size : Int} {r : RR} {t : TS} {Wf : Int → Int}
theorem tData_1 (h : r.type = 1) : tData Wf s size r t = (⟨r.name, r.type, r.ttl, (tNum Wf s 4 t).1, r.target, r.text, r.serial⟩, ⟨(tNum Wf s 4 t).2.at_, bif (tNum Wf s 4 t).2.bad then true else !decide ((tNum Wf s 4 t).2.at_ = Wf (t.at_ + size))⟩) := by
  rw [tData, tType, if_pos h]
theorem tData_2 (h : isName r.type = true) : tData Wf s size r t = (⟨r.name, r.type, r.ttl, r.addr, (tName s t).1, r.text, r.serial⟩, ⟨(tName s t).2.at_, bif (tName s t).2.bad then true else !decide ((tName s t).2.at_ = Wf (t.at_ + size))⟩) := by
  have h1 : ¬ r.type = 1 := by intro e; rw [e] at h; exact absurd h (by decide)
  rw [tData, tType, if_neg h1, if_pos h]
theorem tData_6 (h : r.type = 6) : tData Wf s size r t = ((tSoa Wf s r t).1, ⟨(tSoa Wf s r t).2.at_, bif (tSoa Wf s r t).2.bad then true else !decide ((tSoa Wf s r t).2.at_ = Wf (t.at_ + size))⟩) := by
  rw [tData, tType, if_neg (by omega), if_neg (by rw [h]; decide), if_pos h]
theorem tData_16 (h : r.type = 16) : tData Wf s size r t = (⟨r.name, r.type, r.ttl, r.addr, r.target, (tSome s (tNum Wf s 1 t).1 (tNum Wf s 1 t).2).1, r.serial⟩, ⟨(tSome s (tNum Wf s 1 t).1 (tNum Wf s 1 t).2).2.at_, bif (tSome s (tNum Wf s 1 t).1 (tNum Wf s 1 t).2).2.bad then true else !decide ((tSome s (tNum Wf s 1 t).1 (tNum Wf s 1 t).2).2.at_ = Wf (t.at_ + size))⟩) := by
  rw [tData, tType, if_neg (by omega), if_neg (by rw [h]; decide), if_neg (by omega), if_pos h]
theorem tData_0 (h1 : ¬ r.type = 1) (h2 : ¬ isName r.type = true) (h6 : ¬ r.type = 6) (h16 : ¬ r.type = 16) : tData Wf s size r t = (⟨r.name, r.type, r.ttl, r.addr, r.target, (tSome s size t).1, r.serial⟩, ⟨(tSome s size t).2.at_, bif (tSome s size t).2.bad then true else !decide ((tSome s size t).2.at_ = Wf (t.at_ + size))⟩) := by
  rw [tData, tType, if_neg h1, if_neg h2, if_neg h6, if_neg h16]
end
set_option maxRecDepth 100000 in
theorem tk_data {b br : Nat} {s : List UInt8} {t : TS} {r : RR} (size : Int) (w : World) (hL : Holds (RrO br r :: TkH b s t) w) (hs : s.length ≤ 140737488355328) (hb : t.bad = false) (ha : 0 ≤ t.at_ ∧ t.at_ ≤ s.length) (hz : 0 ≤ size ∧ size < 65536) :
    Fn Try.prog 131 [.pointer (some ⟨b, 0, none⟩), .pointer (some ⟨br, 0, none⟩), .int .i64 size] w (RrO br r :: TkH b s t) fun v L' => L' = RrO br (tData IntKind.i64.wrap s size r t).1 :: TkH b s (tData IntKind.i64.wrap s size r t).2 := by
  have hW : IntKind.i64.wrap (t.at_ + size) = t.at_ + size := wrap_in _ (by omega)
  have h1 := beG_rng1 s t.at_
  have iN := isName_iff r.type
  refine Fn.enter Try.func131 rfl rfl rfl rfl hL ?_
  refine CW.seq ?_
  refine CW.region ?_
  refine W.p O.mv ?_
  refine W.p O.nc ?_
  first | refine W.p O.fb ?_ | refine W.p O.fa ?_
  refine W.p O.ld ?_
  refine W.p O.mv ?_
  first | refine W.p O.addN ?_ | refine W.p O.add ?_
  refine W.p O.as ?_
  refine WL.nil (Q.tn ?_)
  refine CW.seq ?_
  refine CW.seq ?_
  refine CW.region ?_
  refine W.p O.mv ?_
  refine W.p O.nc ?_
  first | refine W.p O.fb ?_ | refine W.p O.fa ?_
  refine W.p O.ld ?_
  refine WL.nil (Q.tn ?_)
  refine CW.block ?_
  refine CW.seq ?_
  refine CW.region ?_
  refine W.p O.eqI ?_
  refine W.p O.as ?_
  refine WL.nil (Q.tn ?_)
  refine CW.cond (vt rfl) (fun hc1 => ?_) (fun hc1 => ?_)
  · try simp only [Bool.cond_true_left, Bool.cond_false_right, Bool.or_eq_true, Bool.or_eq_false_iff, Bool.and_eq_true, Bool.and_eq_false_iff, decide_eq_true_eq, decide_eq_false_iff_not, Bool.not_eq_true', Bool.not_eq_false'] at hc1
    refine CW.region ?_
    refine W.p O.mv ?_
    refine W.p O.mv ?_
    refine W.callS (first := []) (cap := []) (TkH b s t) rfl (vt rfl) (AV.cons (vt rfl) (AV.cons (vt rfl) (AV.nil))) (fun w hu hh => tk_Num 4 w hh hs) ?_; rintro _ _ ⟨rfl, rfl⟩
    refine W.p O.nc ?_
    first | refine W.p O.fb ?_ | refine W.p O.fa ?_
    first | refine W.st (vt rfl) (vt rfl) rfl ?_ | refine W.st (u := .int _ _) (vt rfl) (vt rfl) rfl ?_
    refine WL.nil (Q.bn (Q.tn ?_))
    refine CW.region ?_
    refine W.p O.mv ?_
    refine W.p O.mv ?_
    refine W.p O.nc ?_
    first | refine W.p O.fb ?_ | refine W.p O.fa ?_
    refine W.p O.ld ?_
    refine W.p O.mv ?_
    refine W.p O.mv ?_
    refine W.p O.nc ?_
    first | refine W.p O.fb ?_ | refine W.p O.fa ?_
    refine W.p O.ld ?_
    refine W.p O.mv ?_
    refine W.p O.neI ?_
    refine W.p O.pkB ?_
    refine W.p O.nc ?_
    first | refine W.p O.fb ?_ | refine W.p O.fa ?_
    refine W.st (vt rfl) (vt rfl) rfl ?_
    refine WL.nil ?_
    refine ⟨_, _, RVs.nil, List.Sublist.refl _, ?_⟩
    first | (exfalso; omega) | (rw [tData_1 (by omega), hW]; done) | (rw [tData_2 (iN.2 (by omega)), hW]; done) | (rw [tData_6 (by omega), hW]; done) | (rw [tData_16 (by omega), hW]; done) | (rw [tData_0 (by omega) (fun h => by have := iN.1 h; omega) (by omega) (by omega), hW]; done)
  try simp only [Bool.cond_true_left, Bool.cond_false_right, Bool.or_eq_true, Bool.or_eq_false_iff, Bool.and_eq_true, Bool.and_eq_false_iff, decide_eq_true_eq, decide_eq_false_iff_not, Bool.not_eq_true', Bool.not_eq_false'] at hc1
  refine CW.seq ?_
  refine CW.seq ?_
  refine CW.region ?_
  refine W.p O.eqI ?_
  refine W.p O.as ?_
  refine WL.nil (Q.tn ?_)
  refine CW.cond (vt rfl) (fun hc2 => ?_) (fun hc2 => ?_)
  · try simp only [Bool.cond_true_left, Bool.cond_false_right, Bool.or_eq_true, Bool.or_eq_false_iff, Bool.and_eq_true, Bool.and_eq_false_iff, decide_eq_true_eq, decide_eq_false_iff_not, Bool.not_eq_true', Bool.not_eq_false'] at hc2
    refine CW.skip (Q.tn ?_)
    refine CW.cond (vt rfl) (fun hc3 => ?_) (fun hc3 => ?_)
    · try simp only [Bool.cond_true_left, Bool.cond_false_right, Bool.or_eq_true, Bool.or_eq_false_iff, Bool.and_eq_true, Bool.and_eq_false_iff, decide_eq_true_eq, decide_eq_false_iff_not, Bool.not_eq_true', Bool.not_eq_false'] at hc3
      refine CW.region ?_
      refine W.p O.mv ?_
      refine W.p O.mv ?_
      refine W.callS (first := []) (cap := []) (TkH b s t) rfl (vt rfl) (AV.cons (vt rfl) (AV.nil)) (fun w hu hh => tk_Name w hh hs) ?_; rintro _ _ ⟨rfl, rfl⟩
      refine W.p O.nc ?_
      first | refine W.p O.fb ?_ | refine W.p O.fa ?_
      first | refine W.st (vt rfl) (vt rfl) rfl ?_ | refine W.st (u := .string _) (vt rfl) (vt rfl) rfl ?_
      refine WL.nil (Q.bn (Q.tn ?_))
      refine CW.region ?_
      refine W.p O.mv ?_
      refine W.p O.mv ?_
      refine W.p O.nc ?_
      first | refine W.p O.fb ?_ | refine W.p O.fa ?_
      refine W.p O.ld ?_
      refine W.p O.mv ?_
      refine W.p O.mv ?_
      refine W.p O.nc ?_
      first | refine W.p O.fb ?_ | refine W.p O.fa ?_
      refine W.p O.ld ?_
      refine W.p O.mv ?_
      refine W.p O.neI ?_
      refine W.p O.pkB ?_
      refine W.p O.nc ?_
      first | refine W.p O.fb ?_ | refine W.p O.fa ?_
      refine W.st (vt rfl) (vt rfl) rfl ?_
      refine WL.nil ?_
      refine ⟨_, _, RVs.nil, List.Sublist.refl _, ?_⟩
      first | (exfalso; omega) | (rw [tData_1 (by omega), hW]; done) | (rw [tData_2 (iN.2 (by omega)), hW]; done) | (rw [tData_6 (by omega), hW]; done) | (rw [tData_16 (by omega), hW]; done) | (rw [tData_0 (by omega) (fun h => by have := iN.1 h; omega) (by omega) (by omega), hW]; done)
    try simp only [Bool.cond_true_left, Bool.cond_false_right, Bool.or_eq_true, Bool.or_eq_false_iff, Bool.and_eq_true, Bool.and_eq_false_iff, decide_eq_true_eq, decide_eq_false_iff_not, Bool.not_eq_true', Bool.not_eq_false'] at hc3
    refine CW.seq ?_
    refine CW.region ?_
    refine W.p O.eqI ?_
    refine W.p O.as ?_
    refine WL.nil (Q.tn ?_)
    refine CW.cond (vt rfl) (fun hc4 => ?_) (fun hc4 => ?_)
    · try simp only [Bool.cond_true_left, Bool.cond_false_right, Bool.or_eq_true, Bool.or_eq_false_iff, Bool.and_eq_true, Bool.and_eq_false_iff, decide_eq_true_eq, decide_eq_false_iff_not, Bool.not_eq_true', Bool.not_eq_false'] at hc4
      refine CW.region ?_
      refine W.p O.mv ?_
      refine W.p O.mv ?_
      refine W.callS (first := []) (cap := []) (RrO br r :: TkH b s t) rfl (vt rfl) (AV.cons (vt rfl) (AV.cons (vt rfl) (AV.nil))) (fun w hu hh => tk_soa w hh hs) ?_; rintro _ _ rfl
      refine WL.nil (Q.bn (Q.tn ?_))
      refine CW.region ?_
      refine W.p O.mv ?_
      refine W.p O.mv ?_
      refine W.p O.nc ?_
      first | refine W.p O.fb ?_ | refine W.p O.fa ?_
      refine W.p O.ld ?_
      refine W.p O.mv ?_
      refine W.p O.mv ?_
      refine W.p O.nc ?_
      first | refine W.p O.fb ?_ | refine W.p O.fa ?_
      refine W.p O.ld ?_
      refine W.p O.mv ?_
      refine W.p O.neI ?_
      refine W.p O.pkB ?_
      refine W.p O.nc ?_
      first | refine W.p O.fb ?_ | refine W.p O.fa ?_
      refine W.st (vt rfl) (vt rfl) rfl ?_
      refine WL.nil ?_
      refine ⟨_, _, RVs.nil, List.Sublist.refl _, ?_⟩
      first | (exfalso; omega) | (rw [tData_1 (by omega), hW]; done) | (rw [tData_2 (iN.2 (by omega)), hW]; done) | (rw [tData_6 (by omega), hW]; done) | (rw [tData_16 (by omega), hW]; done) | (rw [tData_0 (by omega) (fun h => by have := iN.1 h; omega) (by omega) (by omega), hW]; done)
    try simp only [Bool.cond_true_left, Bool.cond_false_right, Bool.or_eq_true, Bool.or_eq_false_iff, Bool.and_eq_true, Bool.and_eq_false_iff, decide_eq_true_eq, decide_eq_false_iff_not, Bool.not_eq_true', Bool.not_eq_false'] at hc4
    refine CW.seq ?_
    refine CW.region ?_
    refine W.p O.eqI ?_
    refine W.p O.as ?_
    refine WL.nil (Q.tn ?_)
    refine CW.cond (vt rfl) (fun hc5 => ?_) (fun hc5 => ?_)
    · try simp only [Bool.cond_true_left, Bool.cond_false_right, Bool.or_eq_true, Bool.or_eq_false_iff, Bool.and_eq_true, Bool.and_eq_false_iff, decide_eq_true_eq, decide_eq_false_iff_not, Bool.not_eq_true', Bool.not_eq_false'] at hc5
      refine CW.region ?_
      refine W.p O.mv ?_
      refine W.p O.mv ?_
      refine W.p O.mv ?_
      refine W.callS (first := []) (cap := []) (TkH b s t) rfl (vt rfl) (AV.cons (vt rfl) (AV.cons (vt rfl) (AV.nil))) (fun w hu hh => tk_Num 1 w hh hs) ?_; rintro _ _ ⟨rfl, rfl⟩
      refine W.callS (first := []) (cap := []) (TkH b s (tNum IntKind.i64.wrap s 1 t).2) rfl (vt rfl) (AV.cons (vt rfl) (AV.cons (vt rfl) (AV.nil))) (fun w hu hh => tk_Some (tNum IntKind.i64.wrap s 1 t).1 w hh hs (tNum_rng hs (by simp) (fun _ => ha.1)) h1) ?_; rintro _ _ ⟨rfl, rfl⟩
      refine W.p O.nc ?_
      first | refine W.p O.fb ?_ | refine W.p O.fa ?_
      first | refine W.st (vt rfl) (vt rfl) rfl ?_ | refine W.st (u := .string _) (vt rfl) (vt rfl) rfl ?_
      refine WL.nil (Q.bn (Q.tn ?_))
      refine CW.region ?_
      refine W.p O.mv ?_
      refine W.p O.mv ?_
      refine W.p O.nc ?_
      first | refine W.p O.fb ?_ | refine W.p O.fa ?_
      refine W.p O.ld ?_
      refine W.p O.mv ?_
      refine W.p O.mv ?_
      refine W.p O.nc ?_
      first | refine W.p O.fb ?_ | refine W.p O.fa ?_
      refine W.p O.ld ?_
      refine W.p O.mv ?_
      refine W.p O.neI ?_
      refine W.p O.pkB ?_
      refine W.p O.nc ?_
      first | refine W.p O.fb ?_ | refine W.p O.fa ?_
      refine W.st (vt rfl) (vt rfl) rfl ?_
      refine WL.nil ?_
      refine ⟨_, _, RVs.nil, List.Sublist.refl _, ?_⟩
      first | (exfalso; omega) | (rw [tData_1 (by omega), hW]; done) | (rw [tData_2 (iN.2 (by omega)), hW]; done) | (rw [tData_6 (by omega), hW]; done) | (rw [tData_16 (by omega), hW]; done) | (rw [tData_0 (by omega) (fun h => by have := iN.1 h; omega) (by omega) (by omega), hW]; done)
    try simp only [Bool.cond_true_left, Bool.cond_false_right, Bool.or_eq_true, Bool.or_eq_false_iff, Bool.and_eq_true, Bool.and_eq_false_iff, decide_eq_true_eq, decide_eq_false_iff_not, Bool.not_eq_true', Bool.not_eq_false'] at hc5
    refine CW.region ?_
    refine W.p O.mv ?_
    refine W.p O.mv ?_
    refine W.p O.mv ?_
    refine W.callS (first := []) (cap := []) (TkH b s t) rfl (vt rfl) (AV.cons (vt rfl) (AV.cons (vt rfl) (AV.nil))) (fun w hu hh => tk_Some size w hh hs (fun _ => ha) (by omega)) ?_; rintro _ _ ⟨rfl, rfl⟩
    refine W.p O.nc ?_
    first | refine W.p O.fb ?_ | refine W.p O.fa ?_
    first | refine W.st (vt rfl) (vt rfl) rfl ?_ | refine W.st (u := .string _) (vt rfl) (vt rfl) rfl ?_
    refine WL.nil (Q.bn (Q.tn ?_))
    refine CW.region ?_
    refine W.p O.mv ?_
    refine W.p O.mv ?_
    refine W.p O.nc ?_
    first | refine W.p O.fb ?_ | refine W.p O.fa ?_
    refine W.p O.ld ?_
    refine W.p O.mv ?_
    refine W.p O.mv ?_
    refine W.p O.nc ?_
    first | refine W.p O.fb ?_ | refine W.p O.fa ?_
    refine W.p O.ld ?_
    refine W.p O.mv ?_
    refine W.p O.neI ?_
    refine W.p O.pkB ?_
    refine W.p O.nc ?_
    first | refine W.p O.fb ?_ | refine W.p O.fa ?_
    refine W.st (vt rfl) (vt rfl) rfl ?_
    refine WL.nil ?_
    refine ⟨_, _, RVs.nil, List.Sublist.refl _, ?_⟩
    first | (exfalso; omega) | (rw [tData_1 (by omega), hW]; done) | (rw [tData_2 (iN.2 (by omega)), hW]; done) | (rw [tData_6 (by omega), hW]; done) | (rw [tData_16 (by omega), hW]; done) | (rw [tData_0 (by omega) (fun h => by have := iN.1 h; omega) (by omega) (by omega), hW]; done)
  try simp only [Bool.cond_true_left, Bool.cond_false_right, Bool.or_eq_true, Bool.or_eq_false_iff, Bool.and_eq_true, Bool.and_eq_false_iff, decide_eq_true_eq, decide_eq_false_iff_not, Bool.not_eq_true', Bool.not_eq_false'] at hc2
  refine CW.seq ?_
  refine CW.region ?_
  refine W.p O.eqI ?_
  refine W.p O.as ?_
  refine WL.nil (Q.tn ?_)
  refine CW.cond (vt rfl) (fun hc6 => ?_) (fun hc6 => ?_)
  · try simp only [Bool.cond_true_left, Bool.cond_false_right, Bool.or_eq_true, Bool.or_eq_false_iff, Bool.and_eq_true, Bool.and_eq_false_iff, decide_eq_true_eq, decide_eq_false_iff_not, Bool.not_eq_true', Bool.not_eq_false'] at hc6
    refine CW.skip (Q.tn ?_)
    refine CW.cond (vt rfl) (fun hc7 => ?_) (fun hc7 => ?_)
    · try simp only [Bool.cond_true_left, Bool.cond_false_right, Bool.or_eq_true, Bool.or_eq_false_iff, Bool.and_eq_true, Bool.and_eq_false_iff, decide_eq_true_eq, decide_eq_false_iff_not, Bool.not_eq_true', Bool.not_eq_false'] at hc7
      refine CW.region ?_
      refine W.p O.mv ?_
      refine W.p O.mv ?_
      refine W.callS (first := []) (cap := []) (TkH b s t) rfl (vt rfl) (AV.cons (vt rfl) (AV.nil)) (fun w hu hh => tk_Name w hh hs) ?_; rintro _ _ ⟨rfl, rfl⟩
      refine W.p O.nc ?_
      first | refine W.p O.fb ?_ | refine W.p O.fa ?_
      first | refine W.st (vt rfl) (vt rfl) rfl ?_ | refine W.st (u := .string _) (vt rfl) (vt rfl) rfl ?_
      refine WL.nil (Q.bn (Q.tn ?_))
      refine CW.region ?_
      refine W.p O.mv ?_
      refine W.p O.mv ?_
      refine W.p O.nc ?_
      first | refine W.p O.fb ?_ | refine W.p O.fa ?_
      refine W.p O.ld ?_
      refine W.p O.mv ?_
      refine W.p O.mv ?_
      refine W.p O.nc ?_
      first | refine W.p O.fb ?_ | refine W.p O.fa ?_
      refine W.p O.ld ?_
      refine W.p O.mv ?_
      refine W.p O.neI ?_
      refine W.p O.pkB ?_
      refine W.p O.nc ?_
      first | refine W.p O.fb ?_ | refine W.p O.fa ?_
      refine W.st (vt rfl) (vt rfl) rfl ?_
      refine WL.nil ?_
      refine ⟨_, _, RVs.nil, List.Sublist.refl _, ?_⟩
      first | (exfalso; omega) | (rw [tData_1 (by omega), hW]; done) | (rw [tData_2 (iN.2 (by omega)), hW]; done) | (rw [tData_6 (by omega), hW]; done) | (rw [tData_16 (by omega), hW]; done) | (rw [tData_0 (by omega) (fun h => by have := iN.1 h; omega) (by omega) (by omega), hW]; done)
    try simp only [Bool.cond_true_left, Bool.cond_false_right, Bool.or_eq_true, Bool.or_eq_false_iff, Bool.and_eq_true, Bool.and_eq_false_iff, decide_eq_true_eq, decide_eq_false_iff_not, Bool.not_eq_true', Bool.not_eq_false'] at hc7
    refine CW.seq ?_
    refine CW.region ?_
    refine W.p O.eqI ?_
    refine W.p O.as ?_
    refine WL.nil (Q.tn ?_)
    refine CW.cond (vt rfl) (fun hc8 => ?_) (fun hc8 => ?_)
    · try simp only [Bool.cond_true_left, Bool.cond_false_right, Bool.or_eq_true, Bool.or_eq_false_iff, Bool.and_eq_true, Bool.and_eq_false_iff, decide_eq_true_eq, decide_eq_false_iff_not, Bool.not_eq_true', Bool.not_eq_false'] at hc8
      refine CW.region ?_
      refine W.p O.mv ?_
      refine W.p O.mv ?_
      refine W.callS (first := []) (cap := []) (RrO br r :: TkH b s t) rfl (vt rfl) (AV.cons (vt rfl) (AV.cons (vt rfl) (AV.nil))) (fun w hu hh => tk_soa w hh hs) ?_; rintro _ _ rfl
      refine WL.nil (Q.bn (Q.tn ?_))
      refine CW.region ?_
      refine W.p O.mv ?_
      refine W.p O.mv ?_
      refine W.p O.nc ?_
      first | refine W.p O.fb ?_ | refine W.p O.fa ?_
      refine W.p O.ld ?_
      refine W.p O.mv ?_
      refine W.p O.mv ?_
      refine W.p O.nc ?_
      first | refine W.p O.fb ?_ | refine W.p O.fa ?_
      refine W.p O.ld ?_
      refine W.p O.mv ?_
      refine W.p O.neI ?_
      refine W.p O.pkB ?_
      refine W.p O.nc ?_
      first | refine W.p O.fb ?_ | refine W.p O.fa ?_
      refine W.st (vt rfl) (vt rfl) rfl ?_
      refine WL.nil ?_
      refine ⟨_, _, RVs.nil, List.Sublist.refl _, ?_⟩
      first | (exfalso; omega) | (rw [tData_1 (by omega), hW]; done) | (rw [tData_2 (iN.2 (by omega)), hW]; done) | (rw [tData_6 (by omega), hW]; done) | (rw [tData_16 (by omega), hW]; done) | (rw [tData_0 (by omega) (fun h => by have := iN.1 h; omega) (by omega) (by omega), hW]; done)
    try simp only [Bool.cond_true_left, Bool.cond_false_right, Bool.or_eq_true, Bool.or_eq_false_iff, Bool.and_eq_true, Bool.and_eq_false_iff, decide_eq_true_eq, decide_eq_false_iff_not, Bool.not_eq_true', Bool.not_eq_false'] at hc8
    refine CW.seq ?_
    refine CW.region ?_
    refine W.p O.eqI ?_
    refine W.p O.as ?_
    refine WL.nil (Q.tn ?_)
    refine CW.cond (vt rfl) (fun hc9 => ?_) (fun hc9 => ?_)
    · try simp only [Bool.cond_true_left, Bool.cond_false_right, Bool.or_eq_true, Bool.or_eq_false_iff, Bool.and_eq_true, Bool.and_eq_false_iff, decide_eq_true_eq, decide_eq_false_iff_not, Bool.not_eq_true', Bool.not_eq_false'] at hc9
      refine CW.region ?_
      refine W.p O.mv ?_
      refine W.p O.mv ?_
      refine W.p O.mv ?_
      refine W.callS (first := []) (cap := []) (TkH b s t) rfl (vt rfl) (AV.cons (vt rfl) (AV.cons (vt rfl) (AV.nil))) (fun w hu hh => tk_Num 1 w hh hs) ?_; rintro _ _ ⟨rfl, rfl⟩
      refine W.callS (first := []) (cap := []) (TkH b s (tNum IntKind.i64.wrap s 1 t).2) rfl (vt rfl) (AV.cons (vt rfl) (AV.cons (vt rfl) (AV.nil))) (fun w hu hh => tk_Some (tNum IntKind.i64.wrap s 1 t).1 w hh hs (tNum_rng hs (by simp) (fun _ => ha.1)) h1) ?_; rintro _ _ ⟨rfl, rfl⟩
      refine W.p O.nc ?_
      first | refine W.p O.fb ?_ | refine W.p O.fa ?_
      first | refine W.st (vt rfl) (vt rfl) rfl ?_ | refine W.st (u := .string _) (vt rfl) (vt rfl) rfl ?_
      refine WL.nil (Q.bn (Q.tn ?_))
      refine CW.region ?_
      refine W.p O.mv ?_
      refine W.p O.mv ?_
      refine W.p O.nc ?_
      first | refine W.p O.fb ?_ | refine W.p O.fa ?_
      refine W.p O.ld ?_
      refine W.p O.mv ?_
      refine W.p O.mv ?_
      refine W.p O.nc ?_
      first | refine W.p O.fb ?_ | refine W.p O.fa ?_
      refine W.p O.ld ?_
      refine W.p O.mv ?_
      refine W.p O.neI ?_
      refine W.p O.pkB ?_
      refine W.p O.nc ?_
      first | refine W.p O.fb ?_ | refine W.p O.fa ?_
      refine W.st (vt rfl) (vt rfl) rfl ?_
      refine WL.nil ?_
      refine ⟨_, _, RVs.nil, List.Sublist.refl _, ?_⟩
      first | (exfalso; omega) | (rw [tData_1 (by omega), hW]; done) | (rw [tData_2 (iN.2 (by omega)), hW]; done) | (rw [tData_6 (by omega), hW]; done) | (rw [tData_16 (by omega), hW]; done) | (rw [tData_0 (by omega) (fun h => by have := iN.1 h; omega) (by omega) (by omega), hW]; done)
    try simp only [Bool.cond_true_left, Bool.cond_false_right, Bool.or_eq_true, Bool.or_eq_false_iff, Bool.and_eq_true, Bool.and_eq_false_iff, decide_eq_true_eq, decide_eq_false_iff_not, Bool.not_eq_true', Bool.not_eq_false'] at hc9
    refine CW.region ?_
    refine W.p O.mv ?_
    refine W.p O.mv ?_
    refine W.p O.mv ?_
    refine W.callS (first := []) (cap := []) (TkH b s t) rfl (vt rfl) (AV.cons (vt rfl) (AV.cons (vt rfl) (AV.nil))) (fun w hu hh => tk_Some size w hh hs (fun _ => ha) (by omega)) ?_; rintro _ _ ⟨rfl, rfl⟩
    refine W.p O.nc ?_
    first | refine W.p O.fb ?_ | refine W.p O.fa ?_
    first | refine W.st (vt rfl) (vt rfl) rfl ?_ | refine W.st (u := .string _) (vt rfl) (vt rfl) rfl ?_
    refine WL.nil (Q.bn (Q.tn ?_))
    refine CW.region ?_
    refine W.p O.mv ?_
    refine W.p O.mv ?_
    refine W.p O.nc ?_
    first | refine W.p O.fb ?_ | refine W.p O.fa ?_
    refine W.p O.ld ?_
    refine W.p O.mv ?_
    refine W.p O.mv ?_
    refine W.p O.nc ?_
    first | refine W.p O.fb ?_ | refine W.p O.fa ?_
    refine W.p O.ld ?_
    refine W.p O.mv ?_
    refine W.p O.neI ?_
    refine W.p O.pkB ?_
    refine W.p O.nc ?_
    first | refine W.p O.fb ?_ | refine W.p O.fa ?_
    refine W.st (vt rfl) (vt rfl) rfl ?_
    refine WL.nil ?_
    refine ⟨_, _, RVs.nil, List.Sublist.refl _, ?_⟩
    first | (exfalso; omega) | (rw [tData_1 (by omega), hW]; done) | (rw [tData_2 (iN.2 (by omega)), hW]; done) | (rw [tData_6 (by omega), hW]; done) | (rw [tData_16 (by omega), hW]; done) | (rw [tData_0 (by omega) (fun h => by have := iN.1 h; omega) (by omega) (by omega), hW]; done)
  try simp only [Bool.cond_true_left, Bool.cond_false_right, Bool.or_eq_true, Bool.or_eq_false_iff, Bool.and_eq_true, Bool.and_eq_false_iff, decide_eq_true_eq, decide_eq_false_iff_not, Bool.not_eq_true', Bool.not_eq_false'] at hc6
  refine CW.region ?_
  refine W.p O.eqI ?_
  refine W.p O.as ?_
  refine WL.nil (Q.tn ?_)
  refine CW.cond (vt rfl) (fun hc10 => ?_) (fun hc10 => ?_)
  · try simp only [Bool.cond_true_left, Bool.cond_false_right, Bool.or_eq_true, Bool.or_eq_false_iff, Bool.and_eq_true, Bool.and_eq_false_iff, decide_eq_true_eq, decide_eq_false_iff_not, Bool.not_eq_true', Bool.not_eq_false'] at hc10
    refine CW.region ?_
    refine W.p O.mv ?_
    refine W.p O.mv ?_
    refine W.callS (first := []) (cap := []) (TkH b s t) rfl (vt rfl) (AV.cons (vt rfl) (AV.nil)) (fun w hu hh => tk_Name w hh hs) ?_; rintro _ _ ⟨rfl, rfl⟩
    refine W.p O.nc ?_
    first | refine W.p O.fb ?_ | refine W.p O.fa ?_
    first | refine W.st (vt rfl) (vt rfl) rfl ?_ | refine W.st (u := .string _) (vt rfl) (vt rfl) rfl ?_
    refine WL.nil (Q.bn (Q.tn ?_))
    refine CW.region ?_
    refine W.p O.mv ?_
    refine W.p O.mv ?_
    refine W.p O.nc ?_
    first | refine W.p O.fb ?_ | refine W.p O.fa ?_
    refine W.p O.ld ?_
    refine W.p O.mv ?_
    refine W.p O.mv ?_
    refine W.p O.nc ?_
    first | refine W.p O.fb ?_ | refine W.p O.fa ?_
    refine W.p O.ld ?_
    refine W.p O.mv ?_
    refine W.p O.neI ?_
    refine W.p O.pkB ?_
    refine W.p O.nc ?_
    first | refine W.p O.fb ?_ | refine W.p O.fa ?_
    refine W.st (vt rfl) (vt rfl) rfl ?_
    refine WL.nil ?_
    refine ⟨_, _, RVs.nil, List.Sublist.refl _, ?_⟩
    first | (exfalso; omega) | (rw [tData_1 (by omega), hW]; done) | (rw [tData_2 (iN.2 (by omega)), hW]; done) | (rw [tData_6 (by omega), hW]; done) | (rw [tData_16 (by omega), hW]; done) | (rw [tData_0 (by omega) (fun h => by have := iN.1 h; omega) (by omega) (by omega), hW]; done)
  try simp only [Bool.cond_true_left, Bool.cond_false_right, Bool.or_eq_true, Bool.or_eq_false_iff, Bool.and_eq_true, Bool.and_eq_false_iff, decide_eq_true_eq, decide_eq_false_iff_not, Bool.not_eq_true', Bool.not_eq_false'] at hc10
  refine CW.seq ?_
  refine CW.region ?_
  refine W.p O.eqI ?_
  refine W.p O.as ?_
  refine WL.nil (Q.tn ?_)
  refine CW.cond (vt rfl) (fun hc11 => ?_) (fun hc11 => ?_)
  · try simp only [Bool.cond_true_left, Bool.cond_false_right, Bool.or_eq_true, Bool.or_eq_false_iff, Bool.and_eq_true, Bool.and_eq_false_iff, decide_eq_true_eq, decide_eq_false_iff_not, Bool.not_eq_true', Bool.not_eq_false'] at hc11
    refine CW.region ?_
    refine W.p O.mv ?_
    refine W.p O.mv ?_
    refine W.callS (first := []) (cap := []) (RrO br r :: TkH b s t) rfl (vt rfl) (AV.cons (vt rfl) (AV.cons (vt rfl) (AV.nil))) (fun w hu hh => tk_soa w hh hs) ?_; rintro _ _ rfl
    refine WL.nil (Q.bn (Q.tn ?_))
    refine CW.region ?_
    refine W.p O.mv ?_
    refine W.p O.mv ?_
    refine W.p O.nc ?_
    first | refine W.p O.fb ?_ | refine W.p O.fa ?_
    refine W.p O.ld ?_
    refine W.p O.mv ?_
    refine W.p O.mv ?_
    refine W.p O.nc ?_
    first | refine W.p O.fb ?_ | refine W.p O.fa ?_
    refine W.p O.ld ?_
    refine W.p O.mv ?_
    refine W.p O.neI ?_
    refine W.p O.pkB ?_
    refine W.p O.nc ?_
    first | refine W.p O.fb ?_ | refine W.p O.fa ?_
    refine W.st (vt rfl) (vt rfl) rfl ?_
    refine WL.nil ?_
    refine ⟨_, _, RVs.nil, List.Sublist.refl _, ?_⟩
    first | (exfalso; omega) | (rw [tData_1 (by omega), hW]; done) | (rw [tData_2 (iN.2 (by omega)), hW]; done) | (rw [tData_6 (by omega), hW]; done) | (rw [tData_16 (by omega), hW]; done) | (rw [tData_0 (by omega) (fun h => by have := iN.1 h; omega) (by omega) (by omega), hW]; done)
  try simp only [Bool.cond_true_left, Bool.cond_false_right, Bool.or_eq_true, Bool.or_eq_false_iff, Bool.and_eq_true, Bool.and_eq_false_iff, decide_eq_true_eq, decide_eq_false_iff_not, Bool.not_eq_true', Bool.not_eq_false'] at hc11
  refine CW.seq ?_
  refine CW.region ?_
  refine W.p O.eqI ?_
  refine W.p O.as ?_
  refine WL.nil (Q.tn ?_)
  refine CW.cond (vt rfl) (fun hc12 => ?_) (fun hc12 => ?_)
  · try simp only [Bool.cond_true_left, Bool.cond_false_right, Bool.or_eq_true, Bool.or_eq_false_iff, Bool.and_eq_true, Bool.and_eq_false_iff, decide_eq_true_eq, decide_eq_false_iff_not, Bool.not_eq_true', Bool.not_eq_false'] at hc12
    refine CW.region ?_
    refine W.p O.mv ?_
    refine W.p O.mv ?_
    refine W.p O.mv ?_
    refine W.callS (first := []) (cap := []) (TkH b s t) rfl (vt rfl) (AV.cons (vt rfl) (AV.cons (vt rfl) (AV.nil))) (fun w hu hh => tk_Num 1 w hh hs) ?_; rintro _ _ ⟨rfl, rfl⟩
    refine W.callS (first := []) (cap := []) (TkH b s (tNum IntKind.i64.wrap s 1 t).2) rfl (vt rfl) (AV.cons (vt rfl) (AV.cons (vt rfl) (AV.nil))) (fun w hu hh => tk_Some (tNum IntKind.i64.wrap s 1 t).1 w hh hs (tNum_rng hs (by simp) (fun _ => ha.1)) h1) ?_; rintro _ _ ⟨rfl, rfl⟩
    refine W.p O.nc ?_
    first | refine W.p O.fb ?_ | refine W.p O.fa ?_
    first | refine W.st (vt rfl) (vt rfl) rfl ?_ | refine W.st (u := .string _) (vt rfl) (vt rfl) rfl ?_
    refine WL.nil (Q.bn (Q.tn ?_))
    refine CW.region ?_
    refine W.p O.mv ?_
    refine W.p O.mv ?_
    refine W.p O.nc ?_
    first | refine W.p O.fb ?_ | refine W.p O.fa ?_
    refine W.p O.ld ?_
    refine W.p O.mv ?_
    refine W.p O.mv ?_
    refine W.p O.nc ?_
    first | refine W.p O.fb ?_ | refine W.p O.fa ?_
    refine W.p O.ld ?_
    refine W.p O.mv ?_
    refine W.p O.neI ?_
    refine W.p O.pkB ?_
    refine W.p O.nc ?_
    first | refine W.p O.fb ?_ | refine W.p O.fa ?_
    refine W.st (vt rfl) (vt rfl) rfl ?_
    refine WL.nil ?_
    refine ⟨_, _, RVs.nil, List.Sublist.refl _, ?_⟩
    first | (exfalso; omega) | (rw [tData_1 (by omega), hW]; done) | (rw [tData_2 (iN.2 (by omega)), hW]; done) | (rw [tData_6 (by omega), hW]; done) | (rw [tData_16 (by omega), hW]; done) | (rw [tData_0 (by omega) (fun h => by have := iN.1 h; omega) (by omega) (by omega), hW]; done)
  try simp only [Bool.cond_true_left, Bool.cond_false_right, Bool.or_eq_true, Bool.or_eq_false_iff, Bool.and_eq_true, Bool.and_eq_false_iff, decide_eq_true_eq, decide_eq_false_iff_not, Bool.not_eq_true', Bool.not_eq_false'] at hc12
  refine CW.region ?_
  refine W.p O.mv ?_
  refine W.p O.mv ?_
  refine W.p O.mv ?_
  refine W.callS (first := []) (cap := []) (TkH b s t) rfl (vt rfl) (AV.cons (vt rfl) (AV.cons (vt rfl) (AV.nil))) (fun w hu hh => tk_Some size w hh hs (fun _ => ha) (by omega)) ?_; rintro _ _ ⟨rfl, rfl⟩
  refine W.p O.nc ?_
  first | refine W.p O.fb ?_ | refine W.p O.fa ?_
  first | refine W.st (vt rfl) (vt rfl) rfl ?_ | refine W.st (u := .string _) (vt rfl) (vt rfl) rfl ?_
  refine WL.nil (Q.bn (Q.tn ?_))
  refine CW.region ?_
  refine W.p O.mv ?_
  refine W.p O.mv ?_
  refine W.p O.nc ?_
  first | refine W.p O.fb ?_ | refine W.p O.fa ?_
  refine W.p O.ld ?_
  refine W.p O.mv ?_
  refine W.p O.mv ?_
  refine W.p O.nc ?_
  first | refine W.p O.fb ?_ | refine W.p O.fa ?_
  refine W.p O.ld ?_
  refine W.p O.mv ?_
  refine W.p O.neI ?_
  refine W.p O.pkB ?_
  refine W.p O.nc ?_
  first | refine W.p O.fb ?_ | refine W.p O.fa ?_
  refine W.st (vt rfl) (vt rfl) rfl ?_
  refine WL.nil ?_
  refine ⟨_, _, RVs.nil, List.Sublist.refl _, ?_⟩
  first | (exfalso; omega) | (rw [tData_1 (by omega), hW]; done) | (rw [tData_2 (iN.2 (by omega)), hW]; done) | (rw [tData_6 (by omega), hW]; done) | (rw [tData_16 (by omega), hW]; done) | (rw [tData_0 (by omega) (fun h => by have := iN.1 h; omega) (by omega) (by omega), hW]; done)
instance (priority := 2000) Seg.two {p : Nat × Obj} {L M : Heap} : Seg (p :: (L ++ M)) (p :: L) (fun X => X ++ M) := ⟨[], M, by simp, fun X => by simp⟩
set_option maxRecDepth 100000 in
theorem rr_Get (s : List UInt8) (p : Int) (w : World) (hs : s.length ≤ 140737488355328) : Fn Try.prog 73 [.string (S s), .int .i64 p] w [] fun v L' => v = .tuple #[vR (rrGet s p).1, .int .i64 (rrGet s p).2.1, .int .i64 (rrGet s p).2.2] ∧ L' = [] := by
  have ha := grN_len s p
  have hd := tData_len (W := IntKind.i64.wrap) (s := s) (k := (tNum IntKind.i64.wrap s 2 (tNum IntKind.i64.wrap s 4 ⟨(tNum IntKind.i64.wrap s 2 (tNum IntKind.i64.wrap s 2 (tName s ⟨p, false⟩).2).2).2.at_, bif !decide ((tNum IntKind.i64.wrap s 2 (tNum IntKind.i64.wrap s 2 (tName s ⟨p, false⟩).2).2).1 = 1) then true else (tNum IntKind.i64.wrap s 2 (tNum IntKind.i64.wrap s 2 (tName s ⟨p, false⟩).2).2).2.bad⟩).2).1) (r := ⟨(tName s ⟨p, false⟩).1, (tNum IntKind.i64.wrap s 2 (tName s ⟨p, false⟩).2).1, (tNum IntKind.i64.wrap s 4 ⟨(tNum IntKind.i64.wrap s 2 (tNum IntKind.i64.wrap s 2 (tName s ⟨p, false⟩).2).2).2.at_, bif !decide ((tNum IntKind.i64.wrap s 2 (tNum IntKind.i64.wrap s 2 (tName s ⟨p, false⟩).2).2).1 = 1) then true else (tNum IntKind.i64.wrap s 2 (tNum IntKind.i64.wrap s 2 (tName s ⟨p, false⟩).2).2).2.bad⟩).1, 0, [], [], 0⟩) (t := (tNum IntKind.i64.wrap s 2 (tNum IntKind.i64.wrap s 4 ⟨(tNum IntKind.i64.wrap s 2 (tNum IntKind.i64.wrap s 2 (tName s ⟨p, false⟩).2).2).2.at_, bif !decide ((tNum IntKind.i64.wrap s 2 (tNum IntKind.i64.wrap s 2 (tName s ⟨p, false⟩).2).2).1 = 1) then true else (tNum IntKind.i64.wrap s 2 (tNum IntKind.i64.wrap s 2 (tName s ⟨p, false⟩).2).2).2.bad⟩).2).2)
  have hA : (tName s ⟨p, false⟩).1.length ≤ 72 := ha
  have hd1 : (tData IntKind.i64.wrap s (tNum IntKind.i64.wrap s 2 (tNum IntKind.i64.wrap s 4 ⟨(tNum IntKind.i64.wrap s 2 (tNum IntKind.i64.wrap s 2 (tName s ⟨p, false⟩).2).2).2.at_, bif !decide ((tNum IntKind.i64.wrap s 2 (tNum IntKind.i64.wrap s 2 (tName s ⟨p, false⟩).2).2).1 = 1) then true else (tNum IntKind.i64.wrap s 2 (tNum IntKind.i64.wrap s 2 (tName s ⟨p, false⟩).2).2).2.bad⟩).2).1 ⟨(tName s ⟨p, false⟩).1, (tNum IntKind.i64.wrap s 2 (tName s ⟨p, false⟩).2).1, (tNum IntKind.i64.wrap s 4 ⟨(tNum IntKind.i64.wrap s 2 (tNum IntKind.i64.wrap s 2 (tName s ⟨p, false⟩).2).2).2.at_, bif !decide ((tNum IntKind.i64.wrap s 2 (tNum IntKind.i64.wrap s 2 (tName s ⟨p, false⟩).2).2).1 = 1) then true else (tNum IntKind.i64.wrap s 2 (tNum IntKind.i64.wrap s 2 (tName s ⟨p, false⟩).2).2).2.bad⟩).1, 0, [], [], 0⟩ (tNum IntKind.i64.wrap s 2 (tNum IntKind.i64.wrap s 4 ⟨(tNum IntKind.i64.wrap s 2 (tNum IntKind.i64.wrap s 2 (tName s ⟨p, false⟩).2).2).2.at_, bif !decide ((tNum IntKind.i64.wrap s 2 (tNum IntKind.i64.wrap s 2 (tName s ⟨p, false⟩).2).2).1 = 1) then true else (tNum IntKind.i64.wrap s 2 (tNum IntKind.i64.wrap s 2 (tName s ⟨p, false⟩).2).2).2.bad⟩).2).2).1.name.length ≤ 72 := by rw [hd.1]; exact ha
  have hd2 : (tData IntKind.i64.wrap s (tNum IntKind.i64.wrap s 2 (tNum IntKind.i64.wrap s 4 ⟨(tNum IntKind.i64.wrap s 2 (tNum IntKind.i64.wrap s 2 (tName s ⟨p, false⟩).2).2).2.at_, bif !decide ((tNum IntKind.i64.wrap s 2 (tNum IntKind.i64.wrap s 2 (tName s ⟨p, false⟩).2).2).1 = 1) then true else (tNum IntKind.i64.wrap s 2 (tNum IntKind.i64.wrap s 2 (tName s ⟨p, false⟩).2).2).2.bad⟩).2).1 ⟨(tName s ⟨p, false⟩).1, (tNum IntKind.i64.wrap s 2 (tName s ⟨p, false⟩).2).1, (tNum IntKind.i64.wrap s 4 ⟨(tNum IntKind.i64.wrap s 2 (tNum IntKind.i64.wrap s 2 (tName s ⟨p, false⟩).2).2).2.at_, bif !decide ((tNum IntKind.i64.wrap s 2 (tNum IntKind.i64.wrap s 2 (tName s ⟨p, false⟩).2).2).1 = 1) then true else (tNum IntKind.i64.wrap s 2 (tNum IntKind.i64.wrap s 2 (tName s ⟨p, false⟩).2).2).2.bad⟩).1, 0, [], [], 0⟩ (tNum IntKind.i64.wrap s 2 (tNum IntKind.i64.wrap s 4 ⟨(tNum IntKind.i64.wrap s 2 (tNum IntKind.i64.wrap s 2 (tName s ⟨p, false⟩).2).2).2.at_, bif !decide ((tNum IntKind.i64.wrap s 2 (tNum IntKind.i64.wrap s 2 (tName s ⟨p, false⟩).2).2).1 = 1) then true else (tNum IntKind.i64.wrap s 2 (tNum IntKind.i64.wrap s 2 (tName s ⟨p, false⟩).2).2).2.bad⟩).2).2).1.target.length ≤ 72 := by have := hd.2; simp only [List.length_nil] at this; omega
  have hfin := tAll_eq wr_in hs p
  refine Fn.enter Try.func73 rfl rfl rfl rfl (Holds.nil w) ?_
  refine CW.seq ?_
  refine CW.region ?_
  refine W.al rfl rfl fun b1 => ?_
  refine W.p O.as ?_
  refine W.p O.as ?_
  refine WL.nil (Q.tn ?_)
  refine CW.seq ?_
  refine CW.region ?_
  refine W.p O.mv ?_
  refine W.p O.mv ?_
  refine W.p (O.bd (hv := PV.cons (vt rfl) (PV.cons (vt rfl) (PV.nil)))) ?_
  refine W.bx rfl (vt rfl) rfl fun b2 => ?_
  refine W.p O.as ?_
  refine WL.nil (Q.tn ?_)
  refine CW.seq ?_
  refine CW.region ?_
  refine W.p O.mv ?_
  refine W.callS (first := []) (cap := []) (TkH b2 s ⟨p, false⟩) rfl (vt rfl) (AV.cons (vt rfl) (AV.nil)) (fun w hu hh => tk_Name w hh hs) ?_; rintro _ _ ⟨rfl, rfl⟩
  refine W.p (O.bd (hv := PV.cons (vt rfl) (PV.nil))) ?_
  refine W.al rfl rfl fun b3 => ?_
  refine W.st (vt rfl) (vt rfl) rfl ?_
  refine WL.nil (Q.tn ?_)
  refine CW.seq ?_
  refine CW.region ?_
  refine W.p O.mv ?_
  refine W.callS (first := []) (cap := []) (TkH b2 s (tName s ⟨p, false⟩).2) rfl (vt rfl) (AV.cons (vt rfl) (AV.cons (vt rfl) (AV.nil))) (fun w hu hh => tk_Num 2 w hh hs) ?_; rintro _ _ ⟨rfl, rfl⟩
  first | refine W.p O.fb ?_ | refine W.p O.fa ?_
  first | refine W.st (vt rfl) (vt rfl) rfl ?_ | refine W.st (u := .int _ _) (vt rfl) (vt rfl) rfl ?_
  refine WL.nil (Q.tn ?_)
  refine CW.seq ?_
  refine CW.region ?_
  refine W.p O.mv ?_
  refine W.p O.mv ?_
  refine W.callS (first := []) (cap := []) (TkH b2 s (tNum IntKind.i64.wrap s 2 (tName s ⟨p, false⟩).2).2) rfl (vt rfl) (AV.cons (vt rfl) (AV.cons (vt rfl) (AV.nil))) (fun w hu hh => tk_Num 2 w hh hs) ?_; rintro _ _ ⟨rfl, rfl⟩
  refine W.p O.neI ?_
  refine W.p O.mv ?_
  refine W.p O.mv ?_
  refine W.p O.nc ?_
  first | refine W.p O.fb ?_ | refine W.p O.fa ?_
  refine W.p O.ld ?_
  refine W.p O.pkB ?_
  refine W.p O.nc ?_
  first | refine W.p O.fb ?_ | refine W.p O.fa ?_
  refine W.st (vt rfl) (vt rfl) rfl ?_
  refine WL.nil (Q.tn ?_)
  refine CW.seq ?_
  refine CW.region ?_
  refine W.p O.mv ?_
  refine W.callS (first := []) (cap := []) (TkH b2 s ⟨(tNum IntKind.i64.wrap s 2 (tNum IntKind.i64.wrap s 2 (tName s ⟨p, false⟩).2).2).2.at_, bif !decide ((tNum IntKind.i64.wrap s 2 (tNum IntKind.i64.wrap s 2 (tName s ⟨p, false⟩).2).2).1 = 1) then true else (tNum IntKind.i64.wrap s 2 (tNum IntKind.i64.wrap s 2 (tName s ⟨p, false⟩).2).2).2.bad⟩) rfl (vt rfl) (AV.cons (vt rfl) (AV.cons (vt rfl) (AV.nil))) (fun w hu hh => tk_Num 4 w hh hs) ?_; rintro _ _ ⟨rfl, rfl⟩
  first | refine W.p O.fb ?_ | refine W.p O.fa ?_
  first | refine W.st (vt rfl) (vt rfl) rfl ?_ | refine W.st (u := .int _ _) (vt rfl) (vt rfl) rfl ?_
  refine WL.nil (Q.tn ?_)
  refine CW.seq ?_
  refine CW.seq ?_
  refine CW.region ?_
  refine W.p O.mv ?_
  refine W.callS (first := []) (cap := []) (TkH b2 s (tNum IntKind.i64.wrap s 4 ⟨(tNum IntKind.i64.wrap s 2 (tNum IntKind.i64.wrap s 2 (tName s ⟨p, false⟩).2).2).2.at_, bif !decide ((tNum IntKind.i64.wrap s 2 (tNum IntKind.i64.wrap s 2 (tName s ⟨p, false⟩).2).2).1 = 1) then true else (tNum IntKind.i64.wrap s 2 (tNum IntKind.i64.wrap s 2 (tName s ⟨p, false⟩).2).2).2.bad⟩).2) rfl (vt rfl) (AV.cons (vt rfl) (AV.cons (vt rfl) (AV.nil))) (fun w hu hh => tk_Num 2 w hh hs) ?_; rintro _ _ ⟨rfl, rfl⟩
  refine W.p O.as ?_
  refine WL.nil (Q.tn ?_)
  refine CW.seq ?_
  refine CW.region ?_
  refine W.p O.mv ?_
  refine W.p O.nc ?_
  first | refine W.p O.fb ?_ | refine W.p O.fa ?_
  refine W.p O.ld ?_
  refine W.p O.nt ?_
  refine WL.nil (Q.tn ?_)
  refine CW.cond (vt rfl) (fun hc1 => ?_) (fun hc1 => ?_)
  · try simp only [Bool.cond_true_left, Bool.cond_false_right, Bool.or_eq_true, Bool.or_eq_false_iff, Bool.and_eq_true, Bool.and_eq_false_iff, decide_eq_true_eq, decide_eq_false_iff_not, Bool.not_eq_true', Bool.not_eq_false'] at hc1
    have hrng := tHead_rng wr_in hs (p := p) hc1
    have hall : tAll IntKind.i64.wrap s p = (tData IntKind.i64.wrap s (tNum IntKind.i64.wrap s 2 (tNum IntKind.i64.wrap s 4 ⟨(tNum IntKind.i64.wrap s 2 (tNum IntKind.i64.wrap s 2 (tName s ⟨p, false⟩).2).2).2.at_, bif !decide ((tNum IntKind.i64.wrap s 2 (tNum IntKind.i64.wrap s 2 (tName s ⟨p, false⟩).2).2).1 = 1) then true else (tNum IntKind.i64.wrap s 2 (tNum IntKind.i64.wrap s 2 (tName s ⟨p, false⟩).2).2).2.bad⟩).2).1 ⟨(tName s ⟨p, false⟩).1, (tNum IntKind.i64.wrap s 2 (tName s ⟨p, false⟩).2).1, (tNum IntKind.i64.wrap s 4 ⟨(tNum IntKind.i64.wrap s 2 (tNum IntKind.i64.wrap s 2 (tName s ⟨p, false⟩).2).2).2.at_, bif !decide ((tNum IntKind.i64.wrap s 2 (tNum IntKind.i64.wrap s 2 (tName s ⟨p, false⟩).2).2).1 = 1) then true else (tNum IntKind.i64.wrap s 2 (tNum IntKind.i64.wrap s 2 (tName s ⟨p, false⟩).2).2).2.bad⟩).1, 0, [], [], 0⟩ (tNum IntKind.i64.wrap s 2 (tNum IntKind.i64.wrap s 4 ⟨(tNum IntKind.i64.wrap s 2 (tNum IntKind.i64.wrap s 2 (tName s ⟨p, false⟩).2).2).2.at_, bif !decide ((tNum IntKind.i64.wrap s 2 (tNum IntKind.i64.wrap s 2 (tName s ⟨p, false⟩).2).2).1 = 1) then true else (tNum IntKind.i64.wrap s 2 (tNum IntKind.i64.wrap s 2 (tName s ⟨p, false⟩).2).2).2.bad⟩).2).2) := if_neg (by rw [show (tHead IntKind.i64.wrap s p).2.2.bad = false from hc1]; decide)
    rw [hall] at hfin
    refine CW.region ?_
    refine W.p O.mv ?_
    refine W.p O.mv ?_
    refine W.callS (first := []) (cap := []) (RrO b3 ⟨(tName s ⟨p, false⟩).1, (tNum IntKind.i64.wrap s 2 (tName s ⟨p, false⟩).2).1, (tNum IntKind.i64.wrap s 4 ⟨(tNum IntKind.i64.wrap s 2 (tNum IntKind.i64.wrap s 2 (tName s ⟨p, false⟩).2).2).2.at_, bif !decide ((tNum IntKind.i64.wrap s 2 (tNum IntKind.i64.wrap s 2 (tName s ⟨p, false⟩).2).2).1 = 1) then true else (tNum IntKind.i64.wrap s 2 (tNum IntKind.i64.wrap s 2 (tName s ⟨p, false⟩).2).2).2.bad⟩).1, 0, [], [], 0⟩ :: TkH b2 s (tNum IntKind.i64.wrap s 2 (tNum IntKind.i64.wrap s 4 ⟨(tNum IntKind.i64.wrap s 2 (tNum IntKind.i64.wrap s 2 (tName s ⟨p, false⟩).2).2).2.at_, bif !decide ((tNum IntKind.i64.wrap s 2 (tNum IntKind.i64.wrap s 2 (tName s ⟨p, false⟩).2).2).1 = 1) then true else (tNum IntKind.i64.wrap s 2 (tNum IntKind.i64.wrap s 2 (tName s ⟨p, false⟩).2).2).2.bad⟩).2).2) rfl (vt rfl) (AV.cons (vt rfl) (AV.cons (vt rfl) (AV.cons (vt rfl) (AV.nil)))) (fun w hu hh => tk_data (tNum IntKind.i64.wrap s 2 (tNum IntKind.i64.wrap s 4 ⟨(tNum IntKind.i64.wrap s 2 (tNum IntKind.i64.wrap s 2 (tName s ⟨p, false⟩).2).2).2.at_, bif !decide ((tNum IntKind.i64.wrap s 2 (tNum IntKind.i64.wrap s 2 (tName s ⟨p, false⟩).2).2).1 = 1) then true else (tNum IntKind.i64.wrap s 2 (tNum IntKind.i64.wrap s 2 (tName s ⟨p, false⟩).2).2).2.bad⟩).2).1 w hh hs hc1 hrng.1 hrng.2) ?_; rintro _ _ rfl
    refine WL.nil (Q.tn ?_)
    refine CW.seq ?_
    refine CW.seq ?_
    refine CW.region ?_
    refine W.p O.mv ?_
    refine W.p O.nc ?_
    first | refine W.p O.fb ?_ | refine W.p O.fa ?_
    refine W.p O.ld ?_
    refine W.p O.mv ?_
    refine W.p O.lds ?_
    refine W.q (O.call ⟨rfl, rfl⟩ (AV.cons (vs rfl) (AV.nil)) (fun _ w hw => rr_May (tData IntKind.i64.wrap s (tNum IntKind.i64.wrap s 2 (tNum IntKind.i64.wrap s 4 ⟨(tNum IntKind.i64.wrap s 2 (tNum IntKind.i64.wrap s 2 (tName s ⟨p, false⟩).2).2).2.at_, bif !decide ((tNum IntKind.i64.wrap s 2 (tNum IntKind.i64.wrap s 2 (tName s ⟨p, false⟩).2).2).1 = 1) then true else (tNum IntKind.i64.wrap s 2 (tNum IntKind.i64.wrap s 2 (tName s ⟨p, false⟩).2).2).2.bad⟩).2).1 ⟨(tName s ⟨p, false⟩).1, (tNum IntKind.i64.wrap s 2 (tName s ⟨p, false⟩).2).1, (tNum IntKind.i64.wrap s 4 ⟨(tNum IntKind.i64.wrap s 2 (tNum IntKind.i64.wrap s 2 (tName s ⟨p, false⟩).2).2).2.at_, bif !decide ((tNum IntKind.i64.wrap s 2 (tNum IntKind.i64.wrap s 2 (tName s ⟨p, false⟩).2).2).1 = 1) then true else (tNum IntKind.i64.wrap s 2 (tNum IntKind.i64.wrap s 2 (tName s ⟨p, false⟩).2).2).2.bad⟩).1, 0, [], [], 0⟩ (tNum IntKind.i64.wrap s 2 (tNum IntKind.i64.wrap s 4 ⟨(tNum IntKind.i64.wrap s 2 (tNum IntKind.i64.wrap s 2 (tName s ⟨p, false⟩).2).2).2.at_, bif !decide ((tNum IntKind.i64.wrap s 2 (tNum IntKind.i64.wrap s 2 (tName s ⟨p, false⟩).2).2).1 = 1) then true else (tNum IntKind.i64.wrap s 2 (tNum IntKind.i64.wrap s 2 (tName s ⟨p, false⟩).2).2).2.bad⟩).2).2).1 w (by omega) (by omega))) ?_
    refine W.p O.nt ?_
    refine W.p O.pkB ?_
    refine WL.nil (Q.tn ?_)
    refine CW.cond (vt rfl) (fun hc2 => ?_) (fun hc2 => ?_)
    · try simp only [Bool.cond_true_left, Bool.cond_false_right, Bool.or_eq_true, Bool.or_eq_false_iff, Bool.and_eq_true, Bool.and_eq_false_iff, decide_eq_true_eq, decide_eq_false_iff_not, Bool.not_eq_true', Bool.not_eq_false'] at hc2
      refine CW.seq ?_
      refine CW.region ?_
      refine W.p (O.bd (hv := PV.nil)) ?_
      refine W.st (vt rfl) (vt rfl) rfl ?_
      refine W.p O.as ?_
      refine W.p O.as ?_
      refine WL.nil (Q.tn ?_)
      refine CW.ret (Q.tr ?_)
      refine ⟨_, [], (RVs.cell rfl (RVs.tmp rfl (RVs.tmp rfl RVs.nil))), List.nil_sublist _, ?_⟩
      have e : ((tData IntKind.i64.wrap s (tNum IntKind.i64.wrap s 2 (tNum IntKind.i64.wrap s 4 ⟨(tNum IntKind.i64.wrap s 2 (tNum IntKind.i64.wrap s 2 (tName s ⟨p, false⟩).2).2).2.at_, bif !decide ((tNum IntKind.i64.wrap s 2 (tNum IntKind.i64.wrap s 2 (tName s ⟨p, false⟩).2).2).1 = 1) then true else (tNum IntKind.i64.wrap s 2 (tNum IntKind.i64.wrap s 2 (tName s ⟨p, false⟩).2).2).2.bad⟩).2).1 ⟨(tName s ⟨p, false⟩).1, (tNum IntKind.i64.wrap s 2 (tName s ⟨p, false⟩).2).1, (tNum IntKind.i64.wrap s 4 ⟨(tNum IntKind.i64.wrap s 2 (tNum IntKind.i64.wrap s 2 (tName s ⟨p, false⟩).2).2).2.at_, bif !decide ((tNum IntKind.i64.wrap s 2 (tNum IntKind.i64.wrap s 2 (tName s ⟨p, false⟩).2).2).1 = 1) then true else (tNum IntKind.i64.wrap s 2 (tNum IntKind.i64.wrap s 2 (tName s ⟨p, false⟩).2).2).2.bad⟩).1, 0, [], [], 0⟩ (tNum IntKind.i64.wrap s 2 (tNum IntKind.i64.wrap s 4 ⟨(tNum IntKind.i64.wrap s 2 (tNum IntKind.i64.wrap s 2 (tName s ⟨p, false⟩).2).2).2.at_, bif !decide ((tNum IntKind.i64.wrap s 2 (tNum IntKind.i64.wrap s 2 (tName s ⟨p, false⟩).2).2).1 = 1) then true else (tNum IntKind.i64.wrap s 2 (tNum IntKind.i64.wrap s 2 (tName s ⟨p, false⟩).2).2).2.bad⟩).2).2)).2.bad = true ∨ rrMay ((tData IntKind.i64.wrap s (tNum IntKind.i64.wrap s 2 (tNum IntKind.i64.wrap s 4 ⟨(tNum IntKind.i64.wrap s 2 (tNum IntKind.i64.wrap s 2 (tName s ⟨p, false⟩).2).2).2.at_, bif !decide ((tNum IntKind.i64.wrap s 2 (tNum IntKind.i64.wrap s 2 (tName s ⟨p, false⟩).2).2).1 = 1) then true else (tNum IntKind.i64.wrap s 2 (tNum IntKind.i64.wrap s 2 (tName s ⟨p, false⟩).2).2).2.bad⟩).2).1 ⟨(tName s ⟨p, false⟩).1, (tNum IntKind.i64.wrap s 2 (tName s ⟨p, false⟩).2).1, (tNum IntKind.i64.wrap s 4 ⟨(tNum IntKind.i64.wrap s 2 (tNum IntKind.i64.wrap s 2 (tName s ⟨p, false⟩).2).2).2.at_, bif !decide ((tNum IntKind.i64.wrap s 2 (tNum IntKind.i64.wrap s 2 (tName s ⟨p, false⟩).2).2).1 = 1) then true else (tNum IntKind.i64.wrap s 2 (tNum IntKind.i64.wrap s 2 (tName s ⟨p, false⟩).2).2).2.bad⟩).1, 0, [], [], 0⟩ (tNum IntKind.i64.wrap s 2 (tNum IntKind.i64.wrap s 4 ⟨(tNum IntKind.i64.wrap s 2 (tNum IntKind.i64.wrap s 2 (tName s ⟨p, false⟩).2).2).2.at_, bif !decide ((tNum IntKind.i64.wrap s 2 (tNum IntKind.i64.wrap s 2 (tName s ⟨p, false⟩).2).2).1 = 1) then true else (tNum IntKind.i64.wrap s 2 (tNum IntKind.i64.wrap s 2 (tName s ⟨p, false⟩).2).2).2.bad⟩).2).2)).1 = false := hc2
      rw [← hfin, fin, if_pos e]; exact ⟨rfl, rfl⟩
    try simp only [Bool.cond_true_left, Bool.cond_false_right, Bool.or_eq_true, Bool.or_eq_false_iff, Bool.and_eq_true, Bool.and_eq_false_iff, decide_eq_true_eq, decide_eq_false_iff_not, Bool.not_eq_true', Bool.not_eq_false'] at hc2
    refine CW.skip (Q.tn ?_)
    refine CW.seq ?_
    refine CW.drawC [.pin, .flo, .flo, .flo, .flo, .lou, .flo, .flo] (RrO b3 (tData IntKind.i64.wrap s (tNum IntKind.i64.wrap s 2 (tNum IntKind.i64.wrap s 4 ⟨(tNum IntKind.i64.wrap s 2 (tNum IntKind.i64.wrap s 2 (tName s ⟨p, false⟩).2).2).2.at_, bif !decide ((tNum IntKind.i64.wrap s 2 (tNum IntKind.i64.wrap s 2 (tName s ⟨p, false⟩).2).2).1 = 1) then true else (tNum IntKind.i64.wrap s 2 (tNum IntKind.i64.wrap s 2 (tName s ⟨p, false⟩).2).2).2.bad⟩).2).1 ⟨(tName s ⟨p, false⟩).1, (tNum IntKind.i64.wrap s 2 (tName s ⟨p, false⟩).2).1, (tNum IntKind.i64.wrap s 4 ⟨(tNum IntKind.i64.wrap s 2 (tNum IntKind.i64.wrap s 2 (tName s ⟨p, false⟩).2).2).2.at_, bif !decide ((tNum IntKind.i64.wrap s 2 (tNum IntKind.i64.wrap s 2 (tName s ⟨p, false⟩).2).2).1 = 1) then true else (tNum IntKind.i64.wrap s 2 (tNum IntKind.i64.wrap s 2 (tName s ⟨p, false⟩).2).2).2.bad⟩).1, 0, [], [], 0⟩ (tNum IntKind.i64.wrap s 2 (tNum IntKind.i64.wrap s 4 ⟨(tNum IntKind.i64.wrap s 2 (tNum IntKind.i64.wrap s 2 (tName s ⟨p, false⟩).2).2).2.at_, bif !decide ((tNum IntKind.i64.wrap s 2 (tNum IntKind.i64.wrap s 2 (tName s ⟨p, false⟩).2).2).1 = 1) then true else (tNum IntKind.i64.wrap s 2 (tNum IntKind.i64.wrap s 2 (tName s ⟨p, false⟩).2).2).2.bad⟩).2).2).1 :: TkH b2 s (tData IntKind.i64.wrap s (tNum IntKind.i64.wrap s 2 (tNum IntKind.i64.wrap s 4 ⟨(tNum IntKind.i64.wrap s 2 (tNum IntKind.i64.wrap s 2 (tName s ⟨p, false⟩).2).2).2.at_, bif !decide ((tNum IntKind.i64.wrap s 2 (tNum IntKind.i64.wrap s 2 (tName s ⟨p, false⟩).2).2).1 = 1) then true else (tNum IntKind.i64.wrap s 2 (tNum IntKind.i64.wrap s 2 (tName s ⟨p, false⟩).2).2).2.bad⟩).2).1 ⟨(tName s ⟨p, false⟩).1, (tNum IntKind.i64.wrap s 2 (tName s ⟨p, false⟩).2).1, (tNum IntKind.i64.wrap s 4 ⟨(tNum IntKind.i64.wrap s 2 (tNum IntKind.i64.wrap s 2 (tName s ⟨p, false⟩).2).2).2.at_, bif !decide ((tNum IntKind.i64.wrap s 2 (tNum IntKind.i64.wrap s 2 (tName s ⟨p, false⟩).2).2).1 = 1) then true else (tNum IntKind.i64.wrap s 2 (tNum IntKind.i64.wrap s 2 (tName s ⟨p, false⟩).2).2).2.bad⟩).1, 0, [], [], 0⟩ (tNum IntKind.i64.wrap s 2 (tNum IntKind.i64.wrap s 4 ⟨(tNum IntKind.i64.wrap s 2 (tNum IntKind.i64.wrap s 2 (tName s ⟨p, false⟩).2).2).2.at_, bif !decide ((tNum IntKind.i64.wrap s 2 (tNum IntKind.i64.wrap s 2 (tName s ⟨p, false⟩).2).2).1 = 1) then true else (tNum IntKind.i64.wrap s 2 (tNum IntKind.i64.wrap s 2 (tName s ⟨p, false⟩).2).2).2.bad⟩).2).2).2) rfl (by kernel_rfl) (by repeat (first | exact List.nil_sublist _ | exact List.Sublist.refl _ | apply List.Sublist.cons_cons | apply List.Sublist.cons)) ?_
    refine WX.p (QV.q O.lds) ?_
    refine WX.f (QV.q O.mv) ?_
    refine WX.f (QV.q O.nc) ?_
    first | refine WX.f (QV.q O.fb) ?_ | refine WX.f (QV.q O.fa) ?_
    refine WX.f (QV.q O.ld) ?_
    refine WX.l (O.st (vt rfl) (vt rfl) rfl) (by repeat (first | exact List.nil_sublist _ | exact List.Sublist.refl _ | apply List.Sublist.cons_cons | apply List.Sublist.cons)) ?_
    refine WX.f (QV.q O.as) ?_
    refine WX.f (QV.q O.as) ?_
    refine WX.nil (Q.tn ?_)
    refine CW.ret ?_
    refine ⟨_, [], (RVs.cell rfl (RVs.tmp rfl (RVs.tmp rfl RVs.nil))), List.nil_sublist _, ?_⟩
    have e : ((tData IntKind.i64.wrap s (tNum IntKind.i64.wrap s 2 (tNum IntKind.i64.wrap s 4 ⟨(tNum IntKind.i64.wrap s 2 (tNum IntKind.i64.wrap s 2 (tName s ⟨p, false⟩).2).2).2.at_, bif !decide ((tNum IntKind.i64.wrap s 2 (tNum IntKind.i64.wrap s 2 (tName s ⟨p, false⟩).2).2).1 = 1) then true else (tNum IntKind.i64.wrap s 2 (tNum IntKind.i64.wrap s 2 (tName s ⟨p, false⟩).2).2).2.bad⟩).2).1 ⟨(tName s ⟨p, false⟩).1, (tNum IntKind.i64.wrap s 2 (tName s ⟨p, false⟩).2).1, (tNum IntKind.i64.wrap s 4 ⟨(tNum IntKind.i64.wrap s 2 (tNum IntKind.i64.wrap s 2 (tName s ⟨p, false⟩).2).2).2.at_, bif !decide ((tNum IntKind.i64.wrap s 2 (tNum IntKind.i64.wrap s 2 (tName s ⟨p, false⟩).2).2).1 = 1) then true else (tNum IntKind.i64.wrap s 2 (tNum IntKind.i64.wrap s 2 (tName s ⟨p, false⟩).2).2).2.bad⟩).1, 0, [], [], 0⟩ (tNum IntKind.i64.wrap s 2 (tNum IntKind.i64.wrap s 4 ⟨(tNum IntKind.i64.wrap s 2 (tNum IntKind.i64.wrap s 2 (tName s ⟨p, false⟩).2).2).2.at_, bif !decide ((tNum IntKind.i64.wrap s 2 (tNum IntKind.i64.wrap s 2 (tName s ⟨p, false⟩).2).2).1 = 1) then true else (tNum IntKind.i64.wrap s 2 (tNum IntKind.i64.wrap s 2 (tName s ⟨p, false⟩).2).2).2.bad⟩).2).2)).2.bad = false ∧ rrMay ((tData IntKind.i64.wrap s (tNum IntKind.i64.wrap s 2 (tNum IntKind.i64.wrap s 4 ⟨(tNum IntKind.i64.wrap s 2 (tNum IntKind.i64.wrap s 2 (tName s ⟨p, false⟩).2).2).2.at_, bif !decide ((tNum IntKind.i64.wrap s 2 (tNum IntKind.i64.wrap s 2 (tName s ⟨p, false⟩).2).2).1 = 1) then true else (tNum IntKind.i64.wrap s 2 (tNum IntKind.i64.wrap s 2 (tName s ⟨p, false⟩).2).2).2.bad⟩).2).1 ⟨(tName s ⟨p, false⟩).1, (tNum IntKind.i64.wrap s 2 (tName s ⟨p, false⟩).2).1, (tNum IntKind.i64.wrap s 4 ⟨(tNum IntKind.i64.wrap s 2 (tNum IntKind.i64.wrap s 2 (tName s ⟨p, false⟩).2).2).2.at_, bif !decide ((tNum IntKind.i64.wrap s 2 (tNum IntKind.i64.wrap s 2 (tName s ⟨p, false⟩).2).2).1 = 1) then true else (tNum IntKind.i64.wrap s 2 (tNum IntKind.i64.wrap s 2 (tName s ⟨p, false⟩).2).2).2.bad⟩).1, 0, [], [], 0⟩ (tNum IntKind.i64.wrap s 2 (tNum IntKind.i64.wrap s 4 ⟨(tNum IntKind.i64.wrap s 2 (tNum IntKind.i64.wrap s 2 (tName s ⟨p, false⟩).2).2).2.at_, bif !decide ((tNum IntKind.i64.wrap s 2 (tNum IntKind.i64.wrap s 2 (tName s ⟨p, false⟩).2).2).1 = 1) then true else (tNum IntKind.i64.wrap s 2 (tNum IntKind.i64.wrap s 2 (tName s ⟨p, false⟩).2).2).2.bad⟩).2).2)).1 = true := hc2
    rw [← hfin, fin, if_neg (by rintro (h | h); rw [e.1] at h; cases h; rw [e.2] at h; cases h)]; exact ⟨rfl, rfl⟩
  try simp only [Bool.cond_true_left, Bool.cond_false_right, Bool.or_eq_true, Bool.or_eq_false_iff, Bool.and_eq_true, Bool.and_eq_false_iff, decide_eq_true_eq, decide_eq_false_iff_not, Bool.not_eq_true', Bool.not_eq_false'] at hc1
  have hall : tAll IntKind.i64.wrap s p = (⟨(tName s ⟨p, false⟩).1, (tNum IntKind.i64.wrap s 2 (tName s ⟨p, false⟩).2).1, (tNum IntKind.i64.wrap s 4 ⟨(tNum IntKind.i64.wrap s 2 (tNum IntKind.i64.wrap s 2 (tName s ⟨p, false⟩).2).2).2.at_, bif !decide ((tNum IntKind.i64.wrap s 2 (tNum IntKind.i64.wrap s 2 (tName s ⟨p, false⟩).2).2).1 = 1) then true else (tNum IntKind.i64.wrap s 2 (tNum IntKind.i64.wrap s 2 (tName s ⟨p, false⟩).2).2).2.bad⟩).1, 0, [], [], 0⟩, (tNum IntKind.i64.wrap s 2 (tNum IntKind.i64.wrap s 4 ⟨(tNum IntKind.i64.wrap s 2 (tNum IntKind.i64.wrap s 2 (tName s ⟨p, false⟩).2).2).2.at_, bif !decide ((tNum IntKind.i64.wrap s 2 (tNum IntKind.i64.wrap s 2 (tName s ⟨p, false⟩).2).2).1 = 1) then true else (tNum IntKind.i64.wrap s 2 (tNum IntKind.i64.wrap s 2 (tName s ⟨p, false⟩).2).2).2.bad⟩).2).2) := if_pos hc1
  rw [hall] at hfin
  refine CW.skip (Q.tn ?_)
  refine CW.seq ?_
  refine CW.seq ?_
  refine CW.region ?_
  refine W.p O.mv ?_
  refine W.p O.nc ?_
  first | refine W.p O.fb ?_ | refine W.p O.fa ?_
  refine W.p O.ld ?_
  refine W.p O.mv ?_
  refine W.p O.lds ?_
  refine W.q (O.call ⟨rfl, rfl⟩ (AV.cons (vs rfl) (AV.nil)) (fun _ w hw => rr_May ⟨(tName s ⟨p, false⟩).1, (tNum IntKind.i64.wrap s 2 (tName s ⟨p, false⟩).2).1, (tNum IntKind.i64.wrap s 4 ⟨(tNum IntKind.i64.wrap s 2 (tNum IntKind.i64.wrap s 2 (tName s ⟨p, false⟩).2).2).2.at_, bif !decide ((tNum IntKind.i64.wrap s 2 (tNum IntKind.i64.wrap s 2 (tName s ⟨p, false⟩).2).2).1 = 1) then true else (tNum IntKind.i64.wrap s 2 (tNum IntKind.i64.wrap s 2 (tName s ⟨p, false⟩).2).2).2.bad⟩).1, 0, [], [], 0⟩ w (by show ((tName s ⟨p, false⟩).1).length ≤ _; omega) (by simp))) ?_
  refine W.p O.nt ?_
  refine W.p O.pkB ?_
  refine WL.nil (Q.tn ?_)
  refine CW.cond (vt rfl) (fun hc3 => ?_) (fun hc3 => ?_)
  · try simp only [Bool.cond_true_left, Bool.cond_false_right, Bool.or_eq_true, Bool.or_eq_false_iff, Bool.and_eq_true, Bool.and_eq_false_iff, decide_eq_true_eq, decide_eq_false_iff_not, Bool.not_eq_true', Bool.not_eq_false'] at hc3
    refine CW.seq ?_
    refine CW.region ?_
    refine W.p (O.bd (hv := PV.nil)) ?_
    refine W.st (vt rfl) (vt rfl) rfl ?_
    refine W.p O.as ?_
    refine W.p O.as ?_
    refine WL.nil (Q.tn ?_)
    refine CW.ret (Q.tr ?_)
    refine ⟨_, [], (RVs.cell rfl (RVs.tmp rfl (RVs.tmp rfl RVs.nil))), List.nil_sublist _, ?_⟩
    have e : ((tNum IntKind.i64.wrap s 2 (tNum IntKind.i64.wrap s 4 ⟨(tNum IntKind.i64.wrap s 2 (tNum IntKind.i64.wrap s 2 (tName s ⟨p, false⟩).2).2).2.at_, bif !decide ((tNum IntKind.i64.wrap s 2 (tNum IntKind.i64.wrap s 2 (tName s ⟨p, false⟩).2).2).1 = 1) then true else (tNum IntKind.i64.wrap s 2 (tNum IntKind.i64.wrap s 2 (tName s ⟨p, false⟩).2).2).2.bad⟩).2)).2.bad = true := hc1
    rw [← hfin, fin, if_pos (.inl e)]; exact ⟨rfl, rfl⟩
  exfalso; have e : ((tNum IntKind.i64.wrap s 2 (tNum IntKind.i64.wrap s 4 ⟨(tNum IntKind.i64.wrap s 2 (tNum IntKind.i64.wrap s 2 (tName s ⟨p, false⟩).2).2).2.at_, bif !decide ((tNum IntKind.i64.wrap s 2 (tNum IntKind.i64.wrap s 2 (tName s ⟨p, false⟩).2).2).1 = 1) then true else (tNum IntKind.i64.wrap s 2 (tNum IntKind.i64.wrap s 2 (tName s ⟨p, false⟩).2).2).2.bad⟩).2)).2.bad = true := hc1; have e3 := hc3; simp only [Bool.cond_true_left] at e e3; rw [e] at e3; cases e3
end Go.Proofs.Ytkjcmdgideddnaa
