/- What the calls of strings.Builder come to. Conditions: not more than some 2^46 bytes. -/
import Derived.Test.YtkjcmdgideddnaaBld
set_option linter.unusedVariables false
set_option linter.unusedSimpArgs false
namespace Go.Proofs.Ytkjcmdgideddnaa
open Go Go.RowKit
abbrev BdO (b : Nat) (p : Option Addr) (v : Value) : Nat × Obj := (b, .cells [.pointer p, v].toArray 132 (0, 0))
set_option maxRecDepth 100000 in
theorem bd_check (b : Nat) (p a : Option Addr) (m c : Nat) (w : World) (hp : p = none ∨ p = some ⟨b, 0, none⟩) (hL : Holds [BdO b p (.slice a m c)] w) :
    Fn Try.prog 150 [.pointer (some ⟨b, 0, none⟩)] w [BdO b p (.slice a m c)] fun v' L' => L' = [BdO b (some ⟨b, 0, none⟩) (.slice a m c)] := by
  refine Fn.enter Try.func150 rfl rfl rfl rfl hL ?_
  refine CW.seq ?_
  refine CW.region ?_
  refine W.p O.mv ?_
  refine W.p O.nc ?_
  first | refine W.p O.fb ?_ | refine W.p O.fa ?_
  refine W.p O.ld ?_
  refine W.p (O.eqP ⟨rfl, rfl⟩ (vt rfl) (vt rfl) (by decide) (fun _ => by first | exact .inr (.inl rfl) | exact .inl rfl | exact .inr (.inr rfl) | (simp_all; done))) ?_
  refine WL.nil (Q.tn ?_)
  refine CW.cond (vt rfl) (fun hc1 => ?_) (fun hc1 => ?_)
  · try simp only [Bool.cond_true_left, Bool.cond_false_right, Bool.or_eq_true, Bool.or_eq_false_iff, Bool.and_eq_true, Bool.and_eq_false_iff, decide_eq_true_eq, decide_eq_false_iff_not, Bool.not_eq_true', Bool.not_eq_false'] at hc1
    refine CW.region ?_
    refine W.p O.mv ?_
    refine W.p O.mv ?_
    refine W.p (O.cvU ⟨rfl, rfl⟩ (vt rfl) (by constructor <;> simp)) ?_
    refine W.p (O.noEsc ⟨rfl, rfl⟩ (vt rfl) (vt rfl) Try.func174 (by kernel_rfl) (by kernel_rfl) (by kernel_rfl) (by kernel_rfl)) ?_
    refine W.p (O.cvF ⟨rfl, rfl⟩ (vt rfl) (by kernel_rfl)) ?_
    refine W.p O.nc ?_
    first | refine W.p O.fb ?_ | refine W.p O.fa ?_
    refine W.st (vt rfl) (vt rfl) rfl ?_
    refine WL.nil ?_
    refine ⟨_, _, RVs.nil, List.Sublist.refl _, ?_⟩
    first | rfl | (rcases hp with rfl | rfl <;> simp_all)
  · try simp only [Bool.cond_true_left, Bool.cond_false_right, Bool.or_eq_true, Bool.or_eq_false_iff, Bool.and_eq_true, Bool.and_eq_false_iff, decide_eq_true_eq, decide_eq_false_iff_not, Bool.not_eq_true', Bool.not_eq_false'] at hc1
    refine CW.seq ?_
    refine CW.region ?_
    refine W.p O.mv ?_
    refine W.p O.nc ?_
    first | refine W.p O.fb ?_ | refine W.p O.fa ?_
    refine W.p O.ld ?_
    refine W.p O.mv ?_
    refine W.p (O.neP ⟨rfl, rfl⟩ (vt rfl) (vt rfl) (by decide) (fun _ => by first | exact .inr (.inl rfl) | exact .inl rfl | exact .inr (.inr rfl) | (simp_all; done))) ?_
    refine WL.nil (Q.tn ?_)
    refine CW.cond (vt rfl) (fun hc2 => ?_) (fun hc2 => ?_)
    · try simp only [Bool.cond_true_left, Bool.cond_false_right, Bool.or_eq_true, Bool.or_eq_false_iff, Bool.and_eq_true, Bool.and_eq_false_iff, decide_eq_true_eq, decide_eq_false_iff_not, Bool.not_eq_true', Bool.not_eq_false'] at hc2
      exfalso; simp_all
    · try simp only [Bool.cond_true_left, Bool.cond_false_right, Bool.or_eq_true, Bool.or_eq_false_iff, Bool.and_eq_true, Bool.and_eq_false_iff, decide_eq_true_eq, decide_eq_false_iff_not, Bool.not_eq_true', Bool.not_eq_false'] at hc2
      refine CW.skip ?_
      refine ⟨_, _, RVs.nil, List.Sublist.refl _, ?_⟩
      first | rfl | (rcases hp with rfl | rfl <;> simp_all)
/-- a builder that holds some bytes, and its part of the heap -/
def Bd (b : Nat) (l : List UInt8) (L : Heap) : Prop :=
  ∃ p o c sp, (p = none ∨ p = some ⟨b, 0, none⟩) ∧ OwnOk o c 1 l.length (List.length sp) ∧ (∀ b', o = some b' → 0 < c) ∧ L = rowL o 5 (flat encB l sp) ++ [BdO b p (.slice (oa o) l.length c)]
theorem Bd.new (b : Nat) : Bd b [] [BdO b none (.slice none 0 0)] := ⟨none, none, 0, [], .inl rfl, OwnOk.nil, by simp, rfl⟩
set_option maxRecDepth 100000 in
theorem bd_str {b : Nat} {l s : List UInt8} {Lb : Heap} (w : World) (hB : Bd b l Lb) (hL : Holds Lb w) (hn : l.length + s.length ≤ 140737488355328) :
    Fn Try.prog 91 [.pointer (some ⟨b, 0, none⟩), .string (S s)] w Lb fun v' L' => Bd b (l ++ s) L' := by
  obtain ⟨p, o, c, sp, hp, hk, hgt, rfl⟩ := hB
  refine Fn.enter Try.func91 rfl rfl rfl rfl hL ?_
  refine CW.seq ?_
  refine CW.region ?_
  refine W.p O.as ?_
  refine W.p O.as ?_
  refine WL.nil (Q.tn ?_)
  refine CW.seq ?_
  refine CW.region ?_
  refine W.p O.mv ?_
  refine W.call (first := []) (cap := []) [BdO b p (.slice (oa o) l.length c)] (rowL o 5 (flat encB l sp)) rfl (vt rfl) (AV.cons (vt rfl) (AV.nil)) List.perm_append_comm (fun w hu hholds => bd_check b p (oa o) l.length c w hp hholds) ?_; rintro _ _ rfl
  refine WL.nil (Q.tn ?_)
  refine CW.seq ?_
  refine CW.region ?_
  refine W.p O.mv ?_
  refine W.p O.mv ?_
  refine W.p O.nc ?_
  first | refine W.p O.fb ?_ | refine W.p O.fa ?_
  refine W.p O.ld ?_
  refine W.p O.mv ?_
  first | refine W.aps (o := none) (xs := []) (sp := []) rfl (vt rfl) (vt rfl) rfl OwnOk.nil (by first | omega | (simp; omega)) fun o1 c1 sp1 ok1 gt1 => ?_ | refine W.aps rfl (vt rfl) (vt rfl) (by first | rfl | omega) (by assumption) (by first | omega | (simp; omega)) fun o1 c1 sp1 ok1 gt1 => ?_
  refine W.p O.nc ?_
  first | refine W.p O.fb ?_ | refine W.p O.fa ?_
  refine W.st (vt rfl) (vt rfl) rfl ?_
  refine WL.nil (Q.tn ?_)
  refine CW.seq ?_
  refine CW.region ?_
  refine W.p O.mv ?_
  refine W.p O.len ?_
  refine W.p O.as ?_
  refine W.p O.as ?_
  refine WL.nil (Q.tn ?_)
  refine CW.ret ?_
  refine ⟨_, _, RVs.tmp rfl (RVs.tmp rfl RVs.nil), List.Sublist.refl _, ?_⟩
  first | exact ⟨_, _, _, _, .inr rfl, by assumption, gt1 hgt, rfl⟩ | exact ⟨_, _, _, _, .inr rfl, by assumption, gt1 (by simp), rfl⟩ | exact ⟨_, _, _, _, .inr rfl, by assumption, gt2 (by simp), rfl⟩ | exact ⟨_, _, _, _, .inr rfl, by assumption, gt2 hgt, rfl⟩
set_option maxRecDepth 100000 in
theorem bd_byte {b : Nat} {l : List UInt8} {x : UInt8} {Lb : Heap} (w : World) (hB : Bd b l Lb) (hL : Holds Lb w) (hn : l.length + 1 ≤ 140737488355328) :
    Fn Try.prog 93 [.pointer (some ⟨b, 0, none⟩), .int .u8 x.toNat] w Lb fun v' L' => Bd b (l ++ [x]) L' := by
  obtain ⟨p, o, c, sp, hp, hk, hgt, rfl⟩ := hB
  refine Fn.enter Try.func93 rfl rfl rfl rfl hL ?_
  refine CW.seq ?_
  refine CW.region ?_
  refine W.p O.as ?_
  refine WL.nil (Q.tn ?_)
  refine CW.seq ?_
  refine CW.region ?_
  refine W.p O.mv ?_
  refine W.call (first := []) (cap := []) [BdO b p (.slice (oa o) l.length c)] (rowL o 5 (flat encB l sp)) rfl (vt rfl) (AV.cons (vt rfl) (AV.nil)) List.perm_append_comm (fun w hu hholds => bd_check b p (oa o) l.length c w hp hholds) ?_; rintro _ _ rfl
  refine WL.nil (Q.tn ?_)
  refine CW.seq ?_
  refine CW.region ?_
  refine W.p O.mv ?_
  refine W.p O.mv ?_
  refine W.p O.nc ?_
  first | refine W.p O.fb ?_ | refine W.p O.fa ?_
  refine W.p O.ld ?_
  refine W.p O.mv ?_
  refine W.bs encB [x] rfl (PV.cons (vt rfl) (PV.nil)) rfl rfl rfl (by decide) rfl fun b1 => ?_
  refine W.ap rfl (vt rfl) (vt rfl) (by first | rfl | omega) (by first | rfl | omega) rfl (by first | assumption | exact OwnOk.nil | exact OwnOk.lit) (by first | omega | (simp; omega)) fun o1 c1 sp1 ok1 ne1 gt1 => ?_
  have nk1 := ok1.nk; have le1 := ok1.2.2.1; try simp only [List.length_append, List.length_cons, List.length_nil] at le1
  refine W.p O.nc ?_
  first | refine W.p O.fb ?_ | refine W.p O.fa ?_
  refine W.st (vt rfl) (vt rfl) rfl ?_
  refine WL.nil (Q.tn ?_)
  refine CW.seq ?_
  refine CW.region ?_
  refine W.p O.as ?_
  refine WL.nil (Q.tn ?_)
  refine CW.ret ?_
  refine ⟨_, _, RVs.tmp rfl RVs.nil, List.Sublist.append_left (List.sublist_cons_self _ _) _, ?_⟩
  first | exact ⟨_, _, _, _, .inr rfl, by assumption, gt1 hgt, rfl⟩ | exact ⟨_, _, _, _, .inr rfl, by assumption, gt1 (by simp), rfl⟩ | exact ⟨_, _, _, _, .inr rfl, by assumption, gt2 (by simp), rfl⟩ | exact ⟨_, _, _, _, .inr rfl, by assumption, gt2 hgt, rfl⟩
set_option maxRecDepth 100000 in
theorem bd_len {b : Nat} {l : List UInt8} {Lb : Heap} (w : World) (hB : Bd b l Lb) (hL : Holds Lb w) :
    Fn Try.prog 94 [.pointer (some ⟨b, 0, none⟩)] w Lb fun v' L' => v' = .int .i64 l.length ∧ L' = Lb := by
  obtain ⟨p, o, c, sp, hp, hk, hgt, rfl⟩ := hB
  refine Fn.enter Try.func94 rfl rfl rfl rfl hL ?_
  refine CW.seq ?_
  refine CW.region ?_
  refine W.p O.as ?_
  refine WL.nil (Q.tn ?_)
  refine CW.seq ?_
  refine CW.region ?_
  refine W.p O.mv ?_
  refine W.p O.nc ?_
  first | refine W.p O.fb ?_ | refine W.p O.fa ?_
  refine W.p O.ld ?_
  refine W.p O.lenL ?_
  refine W.p O.as ?_
  refine WL.nil (Q.tn ?_)
  refine CW.ret ?_
  refine ⟨_, _, RVs.tmp rfl RVs.nil, List.Sublist.refl _, ?_⟩
  exact ⟨rfl, rfl⟩
set_option maxRecDepth 100000 in
theorem bd_string {b : Nat} {l : List UInt8} {Lb : Heap} (w : World) (hB : Bd b l Lb) (hL : Holds Lb w) :
    Fn Try.prog 95 [.pointer (some ⟨b, 0, none⟩)] w Lb fun v' L' => v' = .string (S l) := by
  obtain ⟨p, o, c, sp, hp, hk, hgt, rfl⟩ := hB
  refine Fn.enter Try.func95 rfl rfl rfl rfl hL ?_
  refine CW.seq ?_
  refine CW.region ?_
  refine W.p O.as ?_
  refine WL.nil (Q.tn ?_)
  refine CW.seq ?_
  refine CW.draw 10 rfl (by kernel_rfl) ?_
  refine WQ.p O.mv ?_
  refine WQ.p O.nc ?_
  first | refine WQ.p O.fb ?_ | refine WQ.p O.fa ?_
  refine WQ.p O.ld ?_
  refine WQ.p (O.usd ⟨rfl, rfl⟩ (vt rfl) (by assumption)) ?_
  refine WQ.p O.mv ?_
  refine WQ.p O.nc ?_
  first | refine WQ.p O.fb ?_ | refine WQ.p O.fa ?_
  refine WQ.p O.ld ?_
  refine WQ.p O.lenL ?_
  refine WQ.nil ?_
  refine W.us rfl (vt rfl) (vt rfl) (by kernel_rfl) (by assumption) ?_
  refine W.p O.as ?_
  refine WL.nil (Q.tn ?_)
  refine CW.ret ?_
  refine ⟨_, _, RVs.tmp rfl RVs.nil, List.Sublist.refl _, ?_⟩
  rfl
end Go.Proofs.Ytkjcmdgideddnaa
