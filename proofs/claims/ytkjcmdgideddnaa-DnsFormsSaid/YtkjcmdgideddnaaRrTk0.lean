/- The first of what the taker of package rr comes to. Condition: the texts are not longer than some 2^46 bytes. -/
import Derived.Test.YtkjcmdgideddnaaWire
import Derived.Test.YtkjcmdgideddnaaPRL
import Derived.Test.YtkjcmdgideddnaaLies
import Derived.Test.YtkjcmdgideddnaaWr
set_option linter.unusedVariables false
set_option linter.unusedSimpArgs false
namespace Go.Proofs.Ytkjcmdgideddnaa
open Go Go.RowKit
set_option maxRecDepth 100000 in
theorem be_Wide (k : Int) (w : World) : Fn Try.prog 182 [.int .i64 k] w [] fun v L' => v = .bool (decide (k = 1 ∨ k = 2 ∨ k = 4)) ∧ L' = [] := by
  refine Fn.enter Try.func182 rfl rfl rfl rfl (Holds.nil w) ?_
  refine CW.seq ?_
  refine CW.region ?_
  refine W.p O.as ?_
  refine WL.nil (Q.tn ?_)
  refine CW.seq ?_
  refine CW.region ?_
  refine W.p O.mv ?_
  refine W.p O.eqI ?_
  refine W.p O.mv ?_
  refine W.p O.mv ?_
  refine W.p O.eqI ?_
  refine W.p O.pkB ?_
  refine W.p O.mv ?_
  refine W.p O.mv ?_
  refine W.p O.eqI ?_
  refine W.p O.pkB ?_
  refine W.p O.as ?_
  refine WL.nil (Q.tn ?_)
  refine CW.ret ?_
  refine ⟨_, [], (RVs.tmp rfl RVs.nil), List.nil_sublist _, ?_⟩
  refine ⟨congrArg Value.bool ?_, rfl⟩
  by_cases h1 : k = 1 <;> by_cases h2 : k = 2 <;> by_cases h4 : k = 4 <;> simp [h1, h2, h4]
set_option maxRecDepth 100000 in
theorem be_Get (s : List UInt8) (p k : Int) (w : World) (hs : s.length ≤ 140737488355328) : Fn Try.prog 160 [.string (S s), .int .i64 p, .int .i64 k] w [] fun v L' => v = .tuple #[.int .i64 (beG s p k).1, .int .i64 (beG s p k).2] ∧ L' = [] := by
  refine Fn.enter Try.func160 rfl rfl rfl rfl (Holds.nil w) ?_
  refine CW.seq ?_
  refine CW.region ?_
  refine W.p O.as ?_
  refine W.p O.as ?_
  refine WL.nil (Q.tn ?_)
  refine CW.seq ?_
  refine CW.block ?_
  refine CW.seq ?_
  refine CW.region ?_
  refine W.p O.mv ?_
  refine W.q (O.call ⟨rfl, rfl⟩ (AV.cons (vt rfl) (AV.nil)) (fun _ w hw => be_Wide _ w)) ?_
  refine W.p O.nt ?_
  refine W.p O.mv ?_
  refine W.p O.mv ?_
  refine W.p O.lss ?_
  refine W.p O.pkB ?_
  refine W.p O.as ?_
  refine WL.nil (Q.tn ?_)
  refine CW.cond (vt rfl) (fun hc1 => ?_) (fun hc1 => ?_)
  · try simp only [sk] at hc1
    refine CW.seq ?_
    refine CW.region ?_
    refine W.p O.as ?_
    refine W.p O.as ?_
    refine WL.nil (Q.tn ?_)
    refine CW.ret (Q.br (Q.tr ?_))
    refine ⟨_, [], (RVs.tmp rfl (RVs.tmp rfl RVs.nil)), List.nil_sublist _, ?_⟩
    refine ⟨?_, rfl⟩
    rw [beG, if_pos hc1]; rfl
  try simp only [sk] at hc1
  refine CW.seq ?_
  refine CW.region ?_
  refine W.p O.mv ?_
  refine W.p O.mv ?_
  refine W.p O.len ?_
  refine W.p O.mv ?_
  first | refine W.p O.subN ?_ | refine W.p O.sub ?_
  refine W.p O.gtr ?_
  refine W.p O.as ?_
  refine WL.nil (Q.tn ?_)
  refine CW.cond (vt rfl) (fun hc2 => ?_) (fun hc2 => ?_)
  · try simp only [sk] at hc2
    refine CW.seq ?_
    refine CW.region ?_
    refine W.p O.as ?_
    refine W.p O.as ?_
    refine WL.nil (Q.tn ?_)
    refine CW.ret (Q.br (Q.tr ?_))
    refine ⟨_, [], (RVs.tmp rfl (RVs.tmp rfl RVs.nil)), List.nil_sublist _, ?_⟩
    refine ⟨?_, rfl⟩
    rw [beG, if_neg (by omega), if_pos hc2]; rfl
  try simp only [sk] at hc2
  refine CW.skip (Q.bn (Q.tn ?_))
  refine CW.seq ?_
  refine CW.region ?_
  refine W.p O.mv ?_
  refine W.p O.mv ?_
  refine W.p O.mv ?_
  refine W.p O.mv ?_
  first | refine W.p O.addN ?_ | refine W.p O.add ?_
  refine W.p O.slc ?_
  refine W.q (O.call ⟨rfl, rfl⟩ (AV.cons (vt rfl) (AV.nil)) (fun _ w hw => be_Number _ w (by simp only [List.length_drop, List.length_take]; omega))) ?_
  refine W.p O.as ?_
  refine W.p O.as ?_
  refine WL.nil (Q.tn ?_)
  refine CW.ret ?_
  refine ⟨_, [], (RVs.tmp rfl (RVs.tmp rfl RVs.nil)), List.nil_sublist _, ?_⟩
  refine ⟨?_, rfl⟩
  rw [beG, if_neg (by omega), if_neg hc2]; rfl
abbrev TkU (U : TypeId) (b : Nat) (s : List UInt8) (t : TS) : Heap := [(b, .cells #[.string (S s), .int .i64 t.at_, .bool t.bad] U (0, 0))]
abbrev TkO (b : Nat) (s : List UInt8) (t : TS) : Nat × Obj := (b, .cells #[.string (S s), .int .i64 t.at_, .bool t.bad] 172 (0, 0))
abbrev TkH (b : Nat) (s : List UInt8) (t : TS) : Heap := [TkO b s t]
abbrev RrO (b : Nat) (r : RR) : Nat × Obj := (b, .cells (encR r).toArray 96 (0, 0))
set_option maxRecDepth 100000 in
theorem tk_Num {U : TypeId} {b : Nat} {s : List UInt8} {t : TS} (k : Int) (w : World) (hL : Holds (TkU U b s t) w) (hs : s.length ≤ 140737488355328) :
    Fn Try.prog 115 [.pointer (some ⟨b, 0, none⟩), .int .i64 k] w (TkU U b s t) fun v L' => v = .int .i64 (tNum IntKind.i64.wrap s k t).1 ∧ L' = TkU U b s (tNum IntKind.i64.wrap s k t).2 := by
  refine Fn.enter Try.func115 rfl rfl rfl rfl hL ?_
  refine CW.seq ?_
  refine CW.region ?_
  refine W.p O.as ?_
  refine WL.nil (Q.tn ?_)
  refine CW.seq ?_
  refine CW.draw 15 rfl (by kernel_rfl) ?_
  refine WQ.p O.mv ?_
  refine WQ.p O.nc ?_
  first | refine WQ.p O.fb ?_ | refine WQ.p O.fa ?_
  refine WQ.p O.ld ?_
  refine WQ.p O.mv ?_
  refine WQ.p O.nc ?_
  first | refine WQ.p O.fb ?_ | refine WQ.p O.fa ?_
  refine WQ.p O.ld ?_
  refine WQ.p O.mv ?_
  refine WQ.q (O.call ⟨rfl, rfl⟩ (AV.cons (vt rfl) (AV.cons (vt rfl) (AV.cons (vt rfl) (AV.nil)))) (fun _ w hw => be_Get _ _ _ w hs)) ?_
  refine WQ.p O.mv ?_
  first | refine WQ.p O.extL ?_ | refine WQ.p O.ext ?_
  first | refine WQ.p O.extL ?_ | refine WQ.p O.ext ?_
  refine WQ.p O.as ?_
  refine WQ.p O.as ?_
  refine WQ.nil ?_
  refine WL.nil (Q.tn ?_)
  refine CW.seq ?_
  refine CW.region ?_
  refine W.p O.mv ?_
  refine W.p O.mv ?_
  refine W.p O.nc ?_
  first | refine W.p O.fb ?_ | refine W.p O.fa ?_
  refine W.p O.ld ?_
  refine W.p O.mv ?_
  refine W.p O.mv ?_
  refine W.p O.neI ?_
  refine W.p O.pkB ?_
  refine W.p O.nc ?_
  first | refine W.p O.fb ?_ | refine W.p O.fa ?_
  refine W.st (vt rfl) (vt rfl) rfl ?_
  refine WL.nil (Q.tn ?_)
  refine CW.seq ?_
  refine CW.region ?_
  refine W.p O.mv ?_
  refine W.p O.nc ?_
  first | refine W.p O.fb ?_ | refine W.p O.fa ?_
  refine W.p O.ld ?_
  refine W.p O.mv ?_
  first | refine W.p O.addN ?_ | refine W.p O.add ?_
  refine W.p O.nc ?_
  first | refine W.p O.fb ?_ | refine W.p O.fa ?_
  first | refine W.st (vt rfl) (vt rfl) rfl ?_ | refine W.st (u := .int _ _) (vt rfl) (vt rfl) rfl ?_
  refine WL.nil (Q.tn ?_)
  refine CW.seq ?_
  refine CW.region ?_
  refine W.p O.mv ?_
  refine W.p O.as ?_
  refine WL.nil (Q.tn ?_)
  refine CW.ret ?_
  refine ⟨_, _, RVs.tmp rfl RVs.nil, List.Sublist.refl _, ?_⟩
  exact ⟨rfl, rfl⟩
set_option maxRecDepth 100000 in
theorem tk_Name {U : TypeId} {b : Nat} {s : List UInt8} {t : TS} (w : World) (hL : Holds (TkU U b s t) w) (hs : s.length ≤ 140737488355328) :
    Fn Try.prog 130 [.pointer (some ⟨b, 0, none⟩)] w (TkU U b s t) fun v L' => v = .string (S (tName s t).1) ∧ L' = TkU U b s (tName s t).2 := by
  refine Fn.enter Try.func130 rfl rfl rfl rfl hL ?_
  refine CW.seq ?_
  refine CW.region ?_
  refine W.p O.as ?_
  refine WL.nil (Q.tn ?_)
  refine CW.seq ?_
  refine CW.draw 16 rfl (by kernel_rfl) ?_
  refine WQ.p O.mv ?_
  refine WQ.p O.nc ?_
  first | refine WQ.p O.fb ?_ | refine WQ.p O.fa ?_
  refine WQ.p O.ld ?_
  refine WQ.p O.mv ?_
  refine WQ.p O.nc ?_
  first | refine WQ.p O.fb ?_ | refine WQ.p O.fa ?_
  refine WQ.p O.ld ?_
  refine WQ.q (O.call ⟨rfl, rfl⟩ (AV.cons (vt rfl) (AV.cons (vt rfl) (AV.nil))) (fun _ w hw => wr_Get _ _ w hs)) ?_
  refine WQ.p O.mv ?_
  first | refine WQ.p O.extL ?_ | refine WQ.p O.ext ?_
  first | refine WQ.p O.extL ?_ | refine WQ.p O.ext ?_
  first | refine WQ.p O.extL ?_ | refine WQ.p O.ext ?_
  refine WQ.p O.as ?_
  refine WQ.p O.as ?_
  refine WQ.p O.as ?_
  refine WQ.nil ?_
  refine WL.nil (Q.tn ?_)
  refine CW.seq ?_
  refine CW.seq ?_
  refine CW.region ?_
  refine W.p O.mv ?_
  refine W.p O.mv ?_
  refine W.p O.nc ?_
  first | refine W.p O.fb ?_ | refine W.p O.fa ?_
  refine W.p O.ld ?_
  refine W.p O.mv ?_
  refine W.p O.mv ?_
  refine W.p O.neI ?_
  refine W.p O.pkB ?_
  refine W.p O.nc ?_
  first | refine W.p O.fb ?_ | refine W.p O.fa ?_
  refine W.st (vt rfl) (vt rfl) rfl ?_
  refine WL.nil (Q.tn ?_)
  refine CW.seq ?_
  refine CW.region ?_
  refine W.p O.mv ?_
  refine W.p O.nc ?_
  first | refine W.p O.fb ?_ | refine W.p O.fa ?_
  refine W.p O.ld ?_
  refine W.p O.nt ?_
  refine WL.nil (Q.tn ?_)
  refine CW.cond (vt rfl) (fun hc1 => ?_) (fun hc1 => ?_)
  · try simp only [sk] at hc1
    refine CW.region ?_
    refine W.p O.mv ?_
    refine W.p O.mv ?_
    refine W.p O.nc ?_
    first | refine W.p O.fb ?_ | refine W.p O.fa ?_
    first | refine W.st (vt rfl) (vt rfl) rfl ?_ | refine W.st (u := .int _ _) (vt rfl) (vt rfl) rfl ?_
    refine WL.nil (Q.tn ?_)
    refine CW.seq ?_
    refine CW.region ?_
    refine W.p O.mv ?_
    refine W.p O.as ?_
    refine WL.nil (Q.tn ?_)
    refine CW.ret ?_
    refine ⟨_, _, RVs.tmp rfl RVs.nil, List.Sublist.refl _, ?_⟩
    refine ⟨rfl, ?_⟩
    have hno : ¬ (t.bad = true ∨ grE (getName s t.at_) ≠ 0) := by rintro (h | h); rw [hc1.1] at h; cases h; exact h hc1.2
    have hv : (bif t.bad then true else !decide (grE (getName s t.at_) = 0)) = false := by rw [hc1.1, decide_eq_true hc1.2]; rfl
    rw [tName, if_neg hno]
    show TkU U b s ⟨grT (getName s t.at_), (bif t.bad then true else !decide (grE (getName s t.at_) = 0))⟩ = _
    rw [hv]
  try simp only [sk] at hc1
  refine CW.skip (Q.tn ?_)
  refine CW.seq ?_
  refine CW.region ?_
  refine W.p O.mv ?_
  refine W.p O.as ?_
  refine WL.nil (Q.tn ?_)
  refine CW.ret ?_
  refine ⟨_, _, RVs.tmp rfl RVs.nil, List.Sublist.refl _, ?_⟩
  refine ⟨rfl, ?_⟩
  have hyes : t.bad = true ∨ grE (getName s t.at_) ≠ 0 := hc1
  have hv : (bif t.bad then true else !decide (grE (getName s t.at_) = 0)) = true := by rcases hyes with h | h; rw [h]; rfl; rw [decide_eq_false h]; cases t.bad <;> rfl
  rw [tName, if_pos hyes]
  show TkU U b s ⟨t.at_, (bif t.bad then true else !decide (grE (getName s t.at_) = 0))⟩ = _
  rw [hv]
theorem wr_sub {n k a : Int} (h0 : 0 ≤ a) (h1 : a ≤ n) (h2 : n ≤ 140737488355328) : IntKind.i64.wrap (n - a) = n - a := wrap_in _ (by omega)
set_option maxRecDepth 100000 in
theorem tk_Some {U : TypeId} {b : Nat} {s : List UInt8} {t : TS} (k : Int) (w : World) (hL : Holds (TkU U b s t) w) (hs : s.length ≤ 140737488355328) (hb : t.bad = false → 0 ≤ t.at_ ∧ t.at_ ≤ s.length) (hk : 0 ≤ k ∧ k ≤ 65536) :
    Fn Try.prog 117 [.pointer (some ⟨b, 0, none⟩), .int .i64 k] w (TkU U b s t) fun v L' => v = .string (S (tSome s k t).1) ∧ L' = TkU U b s (tSome s k t).2 := by
  refine Fn.enter Try.func117 rfl rfl rfl rfl hL ?_
  refine CW.seq ?_
  refine CW.region ?_
  refine W.p O.as ?_
  refine WL.nil (Q.tn ?_)
  refine CW.seq ?_
  refine CW.seq ?_
  refine CW.draw 18 rfl (by kernel_rfl) ?_
  refine WQ.p O.mv ?_
  refine WQ.p O.nc ?_
  first | refine WQ.p O.fb ?_ | refine WQ.p O.fa ?_
  refine WQ.p O.ld ?_
  refine WQ.p O.mv ?_
  refine WQ.p O.mv ?_
  refine WQ.p O.mv ?_
  refine WQ.p O.nc ?_
  first | refine WQ.p O.fb ?_ | refine WQ.p O.fa ?_
  refine WQ.p O.ld ?_
  refine WQ.p O.len ?_
  refine WQ.p O.mv ?_
  refine WQ.p O.nc ?_
  first | refine WQ.p O.fb ?_ | refine WQ.p O.fa ?_
  refine WQ.p O.ld ?_
  first | refine WQ.p O.subN ?_ | refine WQ.p O.sub ?_
  refine WQ.p O.gtr ?_
  refine WQ.p O.pkB ?_
  refine WQ.nil ?_
  refine WL.nil (Q.tn ?_)
  refine CW.cond (vt rfl) (fun hc1 => ?_) (fun hc1 => ?_)
  · try simp only [sk] at hc1
    have hyes : t.bad = true ∨ (s.length : Int) - t.at_ < k := by cases hB : t.bad with | true => exact .inl rfl | false => rw [hB] at hc1; have := hb hB; rw [wrap_in _ (by omega)] at hc1; exact .inr (by simpa using hc1)
    refine CW.seq ?_
    refine CW.region ?_
    refine W.p O.mv ?_
    refine W.p O.nc ?_
    first | refine W.p O.fb ?_ | refine W.p O.fa ?_
    refine W.st (vt rfl) (vt rfl) rfl ?_
    refine WL.nil (Q.tn ?_)
    refine CW.seq ?_
    refine CW.region ?_
    refine W.p O.as ?_
    refine WL.nil (Q.tn ?_)
    refine CW.ret (Q.tr ?_)
    refine ⟨_, _, RVs.tmp rfl RVs.nil, List.Sublist.refl _, ?_⟩
    rw [tSome, if_pos hyes]
    exact ⟨rfl, rfl⟩
  try simp only [sk] at hc1
  have hB : t.bad = false := by rcases hc1 with ⟨h, _⟩; exact h
  have hb2 := hb hB
  rw [wrap_in _ (by omega)] at hc1
  refine CW.skip (Q.tn ?_)
  refine CW.seq ?_
  refine CW.region ?_
  refine W.p O.mv ?_
  refine W.p O.nc ?_
  first | refine W.p O.fb ?_ | refine W.p O.fa ?_
  refine W.p O.ld ?_
  refine W.p O.mv ?_
  first | refine W.p O.addN ?_ | refine W.p O.add ?_
  refine W.p O.nc ?_
  first | refine W.p O.fb ?_ | refine W.p O.fa ?_
  first | refine W.st (vt rfl) (vt rfl) rfl ?_ | refine W.st (u := .int _ _) (vt rfl) (vt rfl) rfl ?_
  refine WL.nil (Q.tn ?_)
  refine CW.seq ?_
  refine CW.draw 16 rfl (by kernel_rfl) ?_
  refine WQ.p O.mv ?_
  refine WQ.p O.nc ?_
  first | refine WQ.p O.fb ?_ | refine WQ.p O.fa ?_
  refine WQ.p O.ld ?_
  refine WQ.p O.mv ?_
  refine WQ.p O.nc ?_
  first | refine WQ.p O.fb ?_ | refine WQ.p O.fa ?_
  refine WQ.p O.ld ?_
  refine WQ.p O.mv ?_
  first | refine WQ.p O.subN ?_ | refine WQ.p O.sub ?_
  refine WQ.p O.mv ?_
  refine WQ.p O.nc ?_
  first | refine WQ.p O.fb ?_ | refine WQ.p O.fa ?_
  refine WQ.p O.ld ?_
  refine WQ.p O.slc ?_
  refine WQ.p O.as ?_
  refine WQ.nil ?_
  refine WL.nil (Q.tn ?_)
  refine CW.ret ?_
  refine ⟨_, _, RVs.tmp rfl RVs.nil, List.Sublist.refl _, ?_⟩
  have hno : ¬ (t.bad = true ∨ (s.length : Int) - t.at_ < k) := by rintro (h | h); rw [hB] at h; cases h; omega
  rw [tSome, if_neg hno]
  refine ⟨?_, ?_⟩
  · show Value.string (S (slc s (t.at_ + k - k) (t.at_ + k))) = _; rw [show t.at_ + k - k = t.at_ by omega]
  · show TkU U b s ⟨t.at_ + k, t.bad⟩ = _; rw [hB]
theorem tNum_rng {s : List UInt8} (hs : s.length ≤ 140737488355328) {k : Int} (hk : k = 1 ∨ k = 2 ∨ k = 4) {t : TS} (ht : t.bad = false → 0 ≤ t.at_) : (tNum IntKind.i64.wrap s k t).2.bad = false → 0 ≤ (tNum IntKind.i64.wrap s k t).2.at_ ∧ (tNum IntKind.i64.wrap s k t).2.at_ ≤ s.length := fun h => by
  rcases tNum_ok wr_in hs hk ht with ⟨a, _⟩ | ⟨a, b, c⟩
  · rw [a] at h; cases h
  · have := ht a; rw [c]; exact ⟨by dsimp only; omega, b⟩
theorem beG_rng1 (s : List UInt8) (p : Int) : 0 ≤ (beG s p 1).1 ∧ (beG s p 1).1 ≤ 65536 := by
  unfold beG
  split; · simp
  split; · simp
  have := numI_1 (l := slc s p (p + 1)) (by simp only [slc, List.length_drop, List.length_take]; omega)
  exact ⟨this.1, by dsimp only; omega⟩
end Go.Proofs.Ytkjcmdgideddnaa
