/- The statement AnswerNever: its walk. Conditions: what comes in is not longer than a million; the library's table of powers of ten is as its text lays it. -/
import Derived.Test.YtfmdaijkgjkmpaaGreatDoorL21
set_option linter.unusedVariables false
set_option linter.unusedSimpArgs false
namespace Go.Proofs.YtfmdaijkgjkmpaaGreatDoor
open Go Go.RowKit
theorem ans_len {c : Cf} {ls : List Lz} {now : Int} {t : List UInt8} : (ansP c ls now 1 t).1.length ≤ 1200 := by
 cases hb : (ansP c ls now 1 t).2.1 with
 | true => obtain ⟨m, _, _, h, _⟩ := ans_never hb; exact h
 | false => rw [(ans_no (.inr hb)).1]; decide
set_option maxHeartbeats 2000000 in
set_option maxRecDepth 100000 in
theorem law21_AnswerNever (c : Cf) (e r s : Sl2) (ls : List Lz) (al : Option Addr) (cl : Nat) (now : Int) (t : List UInt8) (w : World) (h : CfIn w c e r s) (hl : In w al (ls.flatMap encL)) (hz : CfSz c) (hls : LsSz ls) (htl : t.length ≤ 1048576) (ht : Tab10 w) :
  Fn Tryz.prog 8 [vCf c e r s, .slice al ls.length cl, .int .i64 now, .string (S t)] w [] fun v L' => v = .bool true ∧ L' = [] := by
 have hal := @ans_len c ls now t
 refine Fn.enter Tryz.func8 rfl rfl rfl rfl (Holds.nil w) ?_
 refine W.go ?_
 refine W.bx rfl (vt rfl) rfl fun b1 => ?_
 refine W.go ?_
 refine W.q (O.call ⟨rfl, rfl⟩ (AV.nil) (fun _ w hw => law21_awake w (ht.upd hw))) ?_
 refine W.go ?_
 refine CW.cond (vt rfl) (fun hc1 => ?_) (fun hc1 => ?_)
 ·exfalso; simp at hc1
 try simp only [sk] at hc1
 refine W.go ?_
 refine W.q (O.call ⟨rfl, rfl⟩ (AV.cons (vt rfl) (AV.cons (vt rfl) (AV.cons (vt rfl) (AV.cons (vt rfl) (AV.cons (vt rfl) (AV.nil)))))) (fun _ w hw => an_Answer c e r s ls al cl now 1 t w (h.upd hw) hz (hl.upd (L0 := []) hw) hls ⟨by decide, by decide⟩ htl (ht.upd hw))) ?_
 refine W.go ?_
 refine W.q (O.call ⟨rfl, rfl⟩ (AV.cons (vt rfl) (AV.nil)) (fun _ w hw => law0_Num _ w)) ?_
 refine W.go ?_
 refine CW.cond (vt rfl) (fun hc2 => ?_) (fun hc2 => ?_)
 ·try simp only [sk] at hc2
  refine W.go ?_
  refine ⟨_, [], (RVs.tmp rfl RVs.nil), List.nil_sublist _, ?_⟩
  refine ⟨congrArg Value.bool ?_, rfl⟩
  obtain ⟨a, b⟩ := ans_no hc2
  rw [a, b]; rfl
 try simp only [sk] at hc2
 refine W.go ?_
 refine W.callN (first := []) (cap := []) rfl (vt rfl) (AV.cons (vt rfl) (AV.nil)) (fun w hu => ref_GetDns (ansP c ls now 1 t).1 w (Nat.le_trans ans_len (by decide))) ?_; rintro _ _ ⟨o41, c41, p41, o42, c42, p42, o43, c43, p43, o44, c44, p44, rfl, ok41, ok42, ok43, ok44, rfl⟩
 refine W.go ?_
 refine W.al rfl rfl fun b2 => ?_
 refine W.st (vt rfl) (vt rfl) rfl ?_
 refine W.go ?_
 refine CW.draw 30 rfl (by kernel_rfl) ?_
 refine WQ.p O.mv ?_
 refine WQ.p O.eqI ?_
 refine WQ.p O.mv ?_
 refine WQ.p O.mv ?_
 refine WQ.p O.len ?_
 refine WQ.p O.geq ?_
 refine WQ.p O.pkB ?_
 refine WQ.p O.mv ?_
 refine WQ.p O.mv ?_
 refine WQ.p O.len ?_
 refine WQ.p O.leq ?_
 refine WQ.p O.pkB ?_
 refine WQ.p O.mv ?_
 first | refine WQ.p O.fb ?_ | refine WQ.p O.fa ?_
 refine WQ.p O.ld ?_
 refine WQ.p O.pkB ?_
 refine WQ.p O.mv ?_
 first | refine WQ.p O.fb ?_ | refine WQ.p O.fa ?_
 refine WQ.p O.ld ?_
 refine WQ.p O.mv ?_
 first | refine WQ.p O.idxS ?_ | refine WQ.p (O.idxS (h := fun hg => by simp only [cond_true, cond_false, Bool.true_and, Bool.cond_false_right, Bool.cond_true_left, Bool.and_eq_true, Bool.or_eq_true, Bool.or_eq_false_iff, Bool.and_eq_false_iff, Bool.not_eq_true', Bool.not_eq_false', decide_eq_true_eq, decide_eq_false_iff_not, Int.reduceToNat] at *; omega)) ?_
 first | refine WQ.p O.cvB ?_ | refine WQ.p O.cv ?_
 first | refine WQ.p O.mulN ?_ | refine WQ.p O.mul ?_
 refine WQ.p O.mv ?_
 first | refine WQ.p O.idxS ?_ | refine WQ.p (O.idxS (h := fun hg => by simp only [cond_true, cond_false, Bool.true_and, Bool.cond_false_right, Bool.cond_true_left, Bool.and_eq_true, Bool.or_eq_true, Bool.or_eq_false_iff, Bool.and_eq_false_iff, Bool.not_eq_true', Bool.not_eq_false', decide_eq_true_eq, decide_eq_false_iff_not, Int.reduceToNat] at *; omega)) ?_
 first | refine WQ.p O.cvB ?_ | refine WQ.p O.cv ?_
 first | refine WQ.p O.addN ?_ | refine WQ.p O.add ?_
 refine WQ.p O.eqI ?_
 refine WQ.p O.pkB ?_
 refine WQ.p O.as ?_
 refine WQ.nil ?_
 refine WL.nil (Q.tn ?_)
 refine CW.ret ?_
 refine ⟨_, [], (RVs.tmp rfl RVs.nil), List.nil_sublist _, ?_⟩
 refine ⟨congrArg Value.bool ?_, rfl⟩
 have hb : (ansP c ls now 1 t).2.1 = true := hc2.2
 obtain ⟨m, e1, e2, e3, e4, e5⟩ := ans_never hb
 have u1 := (t.getD 0 0).toNat_lt; have u2 := (t.getD 1 0).toNat_lt
 rw [e1]; dsimp only
 rw [e4, e5, show Int.toNat 0 = 0 from rfl, show Int.toNat 1 = 1 from rfl, wrap_in (((t.getD 0 0).toNat : Int) * 256) (by omega), wrap_in _ (by omega), decide_eq_true (show (12 : Int) ≤ t.length by omega), decide_eq_true (show ((ansP c ls now 1 t).1.length : Int) ≤ 1200 by omega)]
 simp
end Go.Proofs.YtfmdaijkgjkmpaaGreatDoor
