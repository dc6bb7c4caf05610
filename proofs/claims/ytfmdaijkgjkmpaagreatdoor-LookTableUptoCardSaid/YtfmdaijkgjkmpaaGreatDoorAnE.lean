/- Several texts in one (AnE). Their conditions are their own. -/
import Derived.Test.YtfmdaijkgjkmpaaGreatDoorAnA
import Derived.Test.YtfmdaijkgjkmpaaGreatDoorDnD
import Derived.Test.YtfmdaijkgjkmpaaGreatDoorZnD
import Derived.Test.YtfmdaijkgjkmpaaGreatDoorDnR
import Derived.Test.YtfmdaijkgjkmpaaGreatDoorLaw0
import Derived.Test.YtfmdaijkgjkmpaaGreatDoorZrA
set_option linter.unusedVariables false
set_option linter.unusedSimpArgs false
namespace Go.Proofs.YtfmdaijkgjkmpaaGreatDoor
open Go Go.RowKit
theorem zRec_nm {c : Cf} {ls : List Lz} {now n : Int} : RsNm (zRec c ls now n).1 := by
 intro r hr
 unfold zRec at hr
 split at hr
 ·rename_i h
  have hm := recs_may h r hr
  obtain ⟨hb, hn, _, _⟩ := may_parts hm
  have h1 := nmMay_len hn
  refine ⟨by omega, ?_⟩
  unfold rrBody at hb
  split at hb
  ·simp only [Bool.and_eq_true, decide_eq_true_eq] at hb; rw [hb.1.1.1]; simp
  split at hb
  ·simp only [Bool.and_eq_true, decide_eq_true_eq] at hb; have := nmMay_len hb.2; omega
  split at hb
  ·simp only [Bool.and_eq_true, decide_eq_true_eq] at hb; have := nmMay_len hb.1.2; omega
  split at hb
  ·simp only [Bool.and_eq_true, decide_eq_true_eq] at hb; rw [hb.1.1.2]; simp
  ·cases hb
 ·cases hr
theorem look_nm {rs : List RR} {q : Qn'} {z : List UInt8} (h : RsNm rs) : RsNm (look rs q z).2.1 ∧ RsNm (look rs q z).2.2 ∧ (look rs q z).2.1.length ≤ rs.length + 1 ∧ (look rs q z).2.2.length ≤ 1 := by
 have h0 : RsNm [] := fun r hr => by cases hr
 unfold look
 split
 ·exact ⟨h0, h0, by simp, by simp⟩
 split
 ·exact ⟨fun r hr => h r (of_sub r hr).1, h0, Nat.le_succ_of_le of_le, by simp⟩
 split
 ·refine ⟨fun r hr => ?_, h0, ?_, by simp⟩
  ·rcases List.mem_append.1 hr with hr | hr
   ·exact h r (of_sub r (List.mem_of_mem_take hr)).1
   ·exact h r (of_sub r hr).1
  ·dsimp only
   rw [List.length_append, List.length_take]
   have := of_le (rs := rs) (nm := ((ofR rs q.name 5).headD dR).target) (k := q.type)
   omega
 ·exact ⟨h0, fun r hr => h r (soa_sub r hr).1, by simp, by dsimp only; rw [soaR, List.length_take]; omega⟩
theorem reply_sz {m : Dn} {rs : List RR} {z : List UInt8} {B : Nat} (hB : 1048576 ≤ B) (h : RsNm rs) (hl : rs.length ≤ 1000000) (hq : m.qs.length ≤ 1048576 ∧ ∀ q ∈ m.qs, q.name.length ≤ B) : DnSz (replyD m rs z) B := by
 obtain ⟨l1, l2, l3, l4⟩ := look_nm (q := m.qs.headD dQ) (z := z) h
 have h0 : NmB [] B := fun r hr => by cases hr
 have lift : ∀ {l : List RR}, RsNm l → NmB l B := fun hl r hr => ⟨Nat.le_trans (hl r hr).1 hB, Nat.le_trans (hl r hr).2 hB⟩
 unfold replyD
 dsimp only
 split
 ·exact ⟨hq, ⟨by simp, h0⟩, ⟨by simp, h0⟩, ⟨by simp, h0⟩⟩
 split
 ·exact ⟨hq, ⟨by simp, h0⟩, ⟨by simp, h0⟩, ⟨by simp, h0⟩⟩
 ·exact ⟨hq, ⟨by dsimp only; omega, lift l1⟩, ⟨by dsimp only; omega, lift l2⟩, ⟨by simp, h0⟩⟩
theorem reply_qs (m : Dn) (rs : List RR) (z : List UInt8) : (replyD m rs z).qs = m.qs ∧ (replyD m rs z).ad = [] := by
 unfold replyD; dsimp only
 split
 ·exact ⟨rfl, rfl⟩
 split <;> exact ⟨rfl, rfl⟩
theorem get_qs (t : List UInt8) : (dnGet t).1.qs.length ≤ 4 ∧ ∀ q ∈ (dnGet t).1.qs, q.name.length ≤ 72 := by
 by_cases h : (dnGet t).2 = 0
 ·obtain ⟨hm, _⟩ := get_may h
  obtain ⟨_, _, _, _, _, _, g, _⟩ := may_d hm
  exact ⟨g.1, fun q hq => nmMay_len (g.2 q hq).1⟩
 ·have e : dnGet t = (noD, 500) := by
   unfold dnGet at h ⊢
   cases hd : dG t with
   | none => rfl
   | some x =>
    rw [hd] at h
    dsimp only at h ⊢
    split at h
    ·exact absurd rfl h
    ·rename_i hq; rw [if_neg hq]
  rw [e]; exact ⟨by decide, fun q hq => by cases hq⟩
theorem err_sz (t : List UInt8) (B : Nat) : DnSz (errD t) B := by
 have h0 : NmB [] B := fun r hr => by cases hr
 exact ⟨⟨by simp [errD], fun q hq => by cases hq⟩, ⟨by simp [errD], h0⟩, ⟨by simp [errD], h0⟩, ⟨by simp [errD], h0⟩⟩
theorem zRec_34 {c : Cf} {ls : List Lz} {now n : Int} : (zRec c ls now n).1.length ≤ 34 := by
 unfold zRec
 split
 ·rename_i h
  have := tail_len h
  dsimp only
  rw [recs_tail, List.length_append]
  have h2 : (zHead c n).length = 2 := rfl
  omega
 ·simp
set_option maxRecDepth 100000 in
theorem an_Answer (c : Cf) (e r s : Sl2) (ls : List Lz) (al : Option Addr) (cl : Nat) (now n : Int) (t : List UInt8) (w : World) (h : CfIn w c e r s) (hz : CfSz c) (hl : In w al (ls.flatMap encL)) (hls : LsSz ls) (hn : -9223372036854775808 ≤ n ∧ n ≤ 9223372036854775807) (htl : t.length ≤ 1048576) (ht : Tab10 w) :
  Fn Tryz.prog 12 [vCf c e r s, .slice al ls.length cl, .int .i64 now, .int .i64 n, .string (S t)] w [] fun v L' => v = .tuple #[.string (S (ansP c ls now n t).1), .bool (ansP c ls now n t).2.1, .int .i64 (ansP c ls now n t).2.2] ∧ L' = [] := by
 have hr1 := zRec_34 (c := c) (ls := ls) (now := now) (n := n)
 have hgq := get_qs t
 have hzz := hz.hz
 refine Fn.enter Tryz.func12 rfl rfl rfl rfl (Holds.nil w) ?_
 refine W.go ?_
 refine W.bx rfl (vt rfl) rfl fun b1 => ?_
 refine W.go ?_
 refine W.callN (first := []) (cap := []) rfl (vt rfl) (AV.cons (vt rfl) (AV.cons (vt rfl) (AV.cons (vt rfl) (AV.cons (vt rfl) (AV.nil))))) (fun w hu => zn_Records c e r s ls al cl now n w (h.upd hu) hz (hl.upd (L0 := []) hu) hls hn (ht.upd hu)) ?_; rintro _ _ ⟨o31, c31, p31, rfl, ok31, rfl⟩; have nk31 := ok31.nk (α := RR) (xs := (zRec c ls now n).1)
 refine W.go ?_
 refine CW.cond (vt rfl) (fun hc1 => ?_) (fun hc1 => ?_)
 ·try simp only [sk] at hc1
  refine W.go ?_
  refine ⟨_, [], (RVs.tmp rfl (RVs.tmp rfl (RVs.tmp rfl RVs.nil))), List.nil_sublist _, ?_⟩
  refine ⟨?_, rfl⟩
  have hno : zAsk c ls now n = false := Bool.eq_false_iff.2 fun hq => hc1 (zRec_0.2 hq)
  unfold ansP; rw [if_pos hno]; rfl
 try simp only [sk] at hc1
 have hyes : zAsk c ls now n = true := zRec_0.1 hc1
 have hrs := zRec_1 hyes
 refine W.go ?_
 first | refine W.p O.idxS ?_ | refine W.p (O.idxS (h := fun hg => by simp only [cond_true, cond_false, Bool.true_and, Bool.cond_false_right, Bool.cond_true_left, Bool.and_eq_true, Bool.or_eq_true, Bool.or_eq_false_iff, Bool.and_eq_false_iff, Bool.not_eq_true', Bool.not_eq_false', decide_eq_true_eq, decide_eq_false_iff_not, Int.reduceToNat] at *; omega)) ?_
 refine W.go ?_
 refine CW.cond (vt rfl) (fun hc2 => ?_) (fun hc2 => ?_)
 ·try simp only [sk] at hc2
  refine W.go ?_
  refine ⟨_, [], (RVs.tmp rfl (RVs.tmp rfl (RVs.tmp rfl RVs.nil))), List.nil_sublist _, ?_⟩
  refine ⟨?_, rfl⟩
  have hlt : t.length < 12 ∨ 128 ≤ (t.getD 2 0).toNat := by rcases hc2 with hq | hq; (left; omega); (right; simp only [show (2 : Int).toNat = 2 from rfl] at hq; omega)
  unfold ansP; rw [if_neg (by rw [hyes]; decide), if_pos hlt]; rfl
 try simp only [sk] at hc2
 have h12 : 12 ≤ t.length ∧ (t.getD 2 0).toNat < 128 := by simp only [show (2 : Int).toNat = 2 from rfl] at hc2; omega
 have hne : ¬(t.length < 12 ∨ 128 ≤ (t.getD 2 0).toNat) := by omega
 refine W.go ?_
 refine W.p O.slcH ?_
 refine W.q (O.call ⟨rfl, rfl⟩ (AV.cons (vt rfl) (AV.nil)) (fun _ w hw => be_Number _ w (by rw [List.length_take]; omega))) ?_
 refine W.p (O.bd (hv := PV.cons (vt rfl) (PV.cons (vt rfl) (PV.cons (vt rfl) (PV.nil))))) ?_
 refine W.al rfl rfl fun b2 => ?_
 refine W.st (vt rfl) (vt rfl) rfl ?_
 refine W.go ?_
 refine W.callN (first := []) (cap := []) rfl (vt rfl) (AV.cons (vt rfl) (AV.nil)) (fun w hu => dn_Get t w (by omega)) ?_; rintro _ _ ⟨o41, c41, p41, o42, c42, p42, o43, c43, p43, o44, c44, p44, rfl, ok41, ok42, ok43, ok44, rfl⟩; have nk41 := ok41.nk (α := Qn') (xs := (dnGet t).1.qs)
 refine W.go ?_
 refine W.al rfl rfl fun b3 => ?_
 refine W.st (vt rfl) (vt rfl) rfl ?_
 refine W.go ?_
 refine CW.cond (vt rfl) (fun hc3 => ?_) (fun hc3 => ?_)
 ·try simp only [sk] at hc3
  refine W.go ?_
  refine W.callN (first := []) (cap := []) rfl (vt rfl) (AV.cons (vt rfl) (AV.cons (vt rfl) (AV.cons (vt rfl) (AV.nil)))) (fun w hu => an_reply (dnGet t).1 ⟨b3, 0, none⟩ (oa o41, c41) (oa o42, c42) (oa o43, c43) (oa o44, c44) (zRec c ls now n).1 (oa o31) c31 c.zone w (in_blk hu) (RowL.h (enc := encQ) (xs := (dnGet t).1.qs) (a := oa o41) _ hu) (RowL.h (enc := encR) (xs := (zRec c ls now n).1) (a := oa o31) _ hu) (by omega) zRec_nm (by omega) (fun x hx => Nat.le_trans (hgq.2 x hx) (by decide))) ?_; rintro _ _ ⟨o51, c51, p51, o52, c52, p52, rfl, nk51, nk52, rfl⟩
  refine W.st (vt rfl) (vt rfl) rfl ?_
  refine W.go ?_
  refine W.p O.min ?_
  refine W.p O.max ?_
  refine W.go ?_
  refine W.q (O.call ⟨rfl, rfl⟩ (AV.cons (vt rfl) (AV.cons (vt rfl) (AV.nil))) (fun _ w hw => dn_Put (replyD (dnGet t).1 (zRec c ls now n).1 c.zone) (oa o41, c41) (oa o51, c51) (oa o52, c52) nS _ w ⟨by rw [(reply_qs _ _ _).1]; exact RowL.h (enc := encQ) (xs := (dnGet t).1.qs) (a := oa o41) _ hw, RowL.h (enc := encR) (xs := (replyD (dnGet t).1 (zRec c ls now n).1 c.zone).an) (a := oa o51) _ hw, RowL.h (enc := encR) (xs := (replyD (dnGet t).1 (zRec c ls now n).1 c.zone).se) (a := oa o52) _ hw, by rw [(reply_qs _ _ _).2]; exact In.nil⟩ (reply_sz (by decide) zRec_nm (by omega) ⟨by omega, fun x hx => Nat.le_trans (hgq.2 x hx) (by decide)⟩))) ?_
  refine W.go ?_
  refine ⟨_, [], (RVs.tmp rfl (RVs.tmp rfl (RVs.tmp rfl RVs.nil))), List.nil_sublist _, ?_⟩
  refine ⟨?_, rfl⟩
  unfold ansP; rw [if_neg (by rw [hyes]; decide), if_neg hne, if_pos hc3, ← hrs]; rfl
 try simp only [sk] at hc3
 refine W.go ?_
 refine W.q (O.call ⟨rfl, rfl⟩ (AV.cons (vt rfl) (AV.cons (vt rfl) (AV.nil))) (fun _ w hw => dn_Put (errD t) nS nS nS nS _ w ⟨In.nil, In.nil, In.nil, In.nil⟩ (err_sz t _))) ?_
 refine W.go ?_
 refine ⟨_, [], (RVs.tmp rfl (RVs.tmp rfl (RVs.tmp rfl RVs.nil))), List.nil_sublist _, ?_⟩
 refine ⟨?_, rfl⟩
 unfold ansP; rw [if_neg (by rw [hyes]; decide), if_neg hne, if_neg hc3]; rfl
end Go.Proofs.YtfmdaijkgjkmpaaGreatDoor

set_option linter.unusedVariables false
set_option linter.unusedSimpArgs false
namespace Go.Proofs.YtfmdaijkgjkmpaaGreatDoor
open Go Go.RowKit
theorem be_zero {t : List UInt8} (h : 2 ≤ t.length) : BE2 t 0 = n2 t 0 := by
 rw [BE2_num (by omega) (by omega)]; rfl
theorem dsz_of {m : Dn} {B : Nat} (h1 : m.qs.length ≤ 1048576 ∧ ∀ q ∈ m.qs, q.name.length ≤ B) (h2 : m.an.length ≤ 1048576 ∧ NmB m.an B) (h3 : m.se.length ≤ 1048576 ∧ NmB m.se B) (h4 : m.ad = []) : DnSz m B := ⟨h1, h2, h3, by rw [h4]; exact ⟨by simp, fun r hr => by cases hr⟩⟩
theorem nmb_nil {B : Nat} : ([] : List RR).length ≤ 1048576 ∧ NmB [] B := ⟨by simp, fun r hr => by cases hr⟩
theorem reply_op {m : Dn} {rs : List RR} {z : List UInt8} (h : m.op ≠ 0) : replyD m rs z = ⟨m.id, true, m.op, false, false, m.recu, 4, m.qs, [], [], [], if 0 < m.size then 512 else 0⟩ := by
 unfold replyD; dsimp only; rw [if_pos h]
theorem reply_qn {m : Dn} {rs : List RR} {z : List UInt8} (h : m.op = 0) (h2 : m.qs.length ≠ 1) : replyD m rs z = ⟨m.id, true, m.op, false, false, m.recu, 1, m.qs, [], [], [], if 0 < m.size then 512 else 0⟩ := by
 unfold replyD; dsimp only; rw [if_neg (by omega), if_pos h2]
set_option maxRecDepth 100000 in
theorem ref_Answer (c : Cf) (e r s : Sl2) (ls : List Lz) (al : Option Addr) (cl : Nat) (now n : Int) (t : List UInt8) (w : World) (h : CfIn w c e r s) (hz : CfSz c) (hl : In w al (ls.flatMap encL)) (hls : LsSz ls) (htl : t.length ≤ 1048576) :
  Fn Tryz.prog 13 [vCf c e r s, .slice al ls.length cl, .int .i64 now, .int .i64 n, .string (S t)] w [] fun v L' => v = .tuple #[.string (S (ansP c ls now n t).1), .bool (ansP c ls now n t).2.1, .int .i64 (ansP c ls now n t).2.2] ∧ L' = [] := by
 have hr1 := zRec_34 (c := c) (ls := ls) (now := now) (n := n)
 have hgq := get_qs t
 have hgq2 : (dnGet t).1.qs.length ≤ 1048576 ∧ ∀ q ∈ (dnGet t).1.qs, q.name.length ≤ 4398046511104 := ⟨by omega, fun q hq => Nat.le_trans (hgq.2 q hq) (by decide)⟩
 have hzz := hz.hz
 refine Fn.enter Tryz.func13 rfl rfl rfl rfl (Holds.nil w) ?_
 refine W.go ?_
 refine W.bx rfl (vt rfl) rfl fun b1 => ?_
 refine W.go ?_
 refine W.callN (first := []) (cap := []) rfl (vt rfl) (AV.cons (vt rfl) (AV.cons (vt rfl) (AV.cons (vt rfl) (AV.cons (vt rfl) (AV.nil))))) (fun w hu => ref_Records c e r s ls al cl now n w (h.upd hu) hz (hl.upd (L0 := []) hu) hls) ?_; rintro _ _ ⟨o31, c31, p31, rfl, ok31, rfl⟩; have nk31 := ok31.nk (α := RR) (xs := (zRec c ls now n).1)
 refine W.go ?_
 refine CW.cond (vt rfl) (fun hc1 => ?_) (fun hc1 => ?_)
 ·try simp only [sk] at hc1
  refine W.go ?_
  refine ⟨_, [], (RVs.tmp rfl (RVs.tmp rfl (RVs.tmp rfl RVs.nil))), List.nil_sublist _, ?_⟩
  refine ⟨?_, rfl⟩
  have hno : zAsk c ls now n = false := Bool.eq_false_iff.2 fun hq => hc1 (zRec_0.2 hq)
  unfold ansP; rw [if_pos hno]; rfl
 try simp only [sk] at hc1
 have hyes : zAsk c ls now n = true := zRec_0.1 hc1
 have hrs := zRec_1 hyes
 refine W.go ?_
 first | refine W.p O.idxS ?_ | refine W.p (O.idxS (h := fun hg => by simp only [cond_true, cond_false, Bool.true_and, Bool.cond_false_right, Bool.cond_true_left, Bool.and_eq_true, Bool.or_eq_true, Bool.or_eq_false_iff, Bool.and_eq_false_iff, Bool.not_eq_true', Bool.not_eq_false', decide_eq_true_eq, decide_eq_false_iff_not, Int.reduceToNat] at *; omega)) ?_
 refine W.go ?_
 refine CW.cond (vt rfl) (fun hc2 => ?_) (fun hc2 => ?_)
 ·try simp only [sk] at hc2
  refine W.go ?_
  refine ⟨_, [], (RVs.tmp rfl (RVs.tmp rfl (RVs.tmp rfl RVs.nil))), List.nil_sublist _, ?_⟩
  refine ⟨?_, rfl⟩
  have hlt : t.length < 12 ∨ 128 ≤ (t.getD 2 0).toNat := by rcases hc2 with hq | hq; (left; omega); (right; simp only [show (2 : Int).toNat = 2 from rfl] at hq; omega)
  unfold ansP; rw [if_neg (by rw [hyes]; decide), if_pos hlt]; rfl
 try simp only [sk] at hc2
 have h12 : 12 ≤ t.length ∧ (t.getD 2 0).toNat < 128 := by simp only [show (2 : Int).toNat = 2 from rfl] at hc2; omega
 have hne : ¬(t.length < 12 ∨ 128 ≤ (t.getD 2 0).toNat) := by omega
 refine W.go ?_
 refine CW.drawHL rfl ?_
 refine RH.qa 0 rfl (O.mv) ?_
 first | refine RH.qa 1 rfl (O.idxS) ?_ | refine RH.qa 1 rfl (O.idxS (h := fun hg => by simp only [cond_true, cond_false, Bool.true_and, Bool.cond_false_right, Bool.cond_true_left, Bool.and_eq_true, Bool.or_eq_true, Bool.or_eq_false_iff, Bool.and_eq_false_iff, Bool.not_eq_true', Bool.not_eq_false', decide_eq_true_eq, decide_eq_false_iff_not, Int.reduceToNat] at *; omega)) ?_
 first | refine RH.qa 2 rfl (O.cvB) ?_ | refine RH.qa 2 rfl (O.cv) ?_
 refine RH.qa 3 rfl (O.shl) ?_
 refine RH.qa 4 rfl (O.mv) ?_
 first | refine RH.qa 5 rfl (O.idxS) ?_ | refine RH.qa 5 rfl (O.idxS (h := fun hg => by simp only [cond_true, cond_false, Bool.true_and, Bool.cond_false_right, Bool.cond_true_left, Bool.and_eq_true, Bool.or_eq_true, Bool.or_eq_false_iff, Bool.and_eq_false_iff, Bool.not_eq_true', Bool.not_eq_false', decide_eq_true_eq, decide_eq_false_iff_not, Int.reduceToNat] at *; omega)) ?_
 first | refine RH.qa 6 rfl (O.cvB) ?_ | refine RH.qa 6 rfl (O.cv) ?_
 refine RH.qa 7 rfl (O.or) ?_
 refine RH.qa 8 rfl (O.bd (hv := PV.cons (vt rfl) (PV.cons (vt rfl) (PV.cons (vt rfl) (PV.nil))))) ?_
 refine RH.one (i := 9) (fun _ _ h => h) (by kernel_rfl) rfl ?_
 refine W.al rfl rfl fun b2 => ?_
 refine WL.nilQa ?_
 refine RH.one (i := 10) (fun _ _ h => h) (by kernel_rfl) rfl ?_
 refine W.st (vt rfl) (vt rfl) rfl ?_
 refine WL.nilQa ?_
 refine RH.done (by kernel_rfl) (Q.tn ?_)
 refine W.go ?_
 refine W.callN (first := []) (cap := []) rfl (vt rfl) (AV.cons (vt rfl) (AV.nil)) (fun w hu => ref_GetDns t w (by omega)) ?_; rintro _ _ ⟨o41, c41, p41, o42, c42, p42, o43, c43, p43, o44, c44, p44, rfl, ok41, ok42, ok43, ok44, rfl⟩; have nk41 := ok41.nk (α := Qn') (xs := (dnGet t).1.qs)
 refine W.go ?_
 refine W.al rfl rfl fun b3 => ?_
 refine W.st (vt rfl) (vt rfl) rfl ?_
 refine W.go ?_
 refine CW.cond (vt rfl) (fun hc3 => ?_) (fun hc3 => ?_)
 ·try simp only [sk] at hc3
  have hgs := (may_d (get_may hc3).1).2.2.2.2.2.2.2
  refine W.go ?_
  refine W.p (O.bd (hv := PV.cons (vt rfl) (PV.cons (vt rfl) (PV.cons (vt rfl) (PV.cons (vt rfl) (PV.cons (vt rfl) (PV.nil))))))) ?_
  refine W.st (vt rfl) (vt rfl) rfl ?_
  refine W.go ?_
  refine CW.cond (vt rfl) (fun hc4 => ?_) (fun hc4 => ?_)
  ·try simp only [sk] at hc4
   refine W.go ?_
   first | refine W.st (vt rfl) (vt rfl) rfl ?_ | refine W.st (u := .int _ _) (vt rfl) (vt rfl) rfl ?_
   refine W.go ?_
   refine CW.cond (vt rfl) (fun hc5 => ?_) (fun hc5 => ?_)
   ·try simp only [sk] at hc5
    refine W.go ?_
    first | refine W.st (vt rfl) (vt rfl) rfl ?_ | refine W.st (u := .int _ _) (vt rfl) (vt rfl) rfl ?_
    refine W.go ?_
    refine W.p O.min ?_
    refine W.go ?_
    refine W.q (O.call ⟨rfl, rfl⟩ (AV.cons (vt rfl) (AV.cons (vt rfl) (AV.nil))) (fun _ w hw => ref_PutDns ⟨(dnGet t).1.id, true, (dnGet t).1.op, false, false, (dnGet t).1.recu, 4, (dnGet t).1.qs, [], [], [], 512⟩ (oa o41, c41) nS nS nS _ w ⟨RowL.h (enc := encQ) (xs := (dnGet t).1.qs) (a := oa o41) _ hw, In.nil, In.nil, In.nil⟩ (dsz_of hgq2 nmb_nil nmb_nil rfl))) ?_
    refine W.go ?_
    refine ⟨_, [], (RVs.tmp rfl (RVs.tmp rfl (RVs.tmp rfl RVs.nil))), List.nil_sublist _, ?_⟩
    refine ⟨?_, rfl⟩
    unfold ansP; rw [if_neg (by rw [hyes]; decide), if_neg hne, if_pos hc3, ← hrs]
    rw [reply_op hc4, show max 512 (min (dnGet t).1.size 1200) = min (dnGet t).1.size 1200 by omega, if_pos hc5]; rfl
   try simp only [sk] at hc5
   refine W.go ?_
   refine W.q (O.call ⟨rfl, rfl⟩ (AV.cons (vt rfl) (AV.cons (vt rfl) (AV.nil))) (fun _ w hw => ref_PutDns ⟨(dnGet t).1.id, true, (dnGet t).1.op, false, false, (dnGet t).1.recu, 4, (dnGet t).1.qs, [], [], [], 0⟩ (oa o41, c41) nS nS nS _ w ⟨RowL.h (enc := encQ) (xs := (dnGet t).1.qs) (a := oa o41) _ hw, In.nil, In.nil, In.nil⟩ (dsz_of hgq2 nmb_nil nmb_nil rfl))) ?_
   refine W.go ?_
   refine ⟨_, [], (RVs.tmp rfl (RVs.tmp rfl (RVs.tmp rfl RVs.nil))), List.nil_sublist _, ?_⟩
   refine ⟨?_, rfl⟩
   unfold ansP; rw [if_neg (by rw [hyes]; decide), if_neg hne, if_pos hc3, ← hrs]
   rw [reply_op hc4, show max 512 (min (dnGet t).1.size 1200) = 512 by omega, if_neg hc5]; rfl
  try simp only [sk] at hc4
  refine W.go ?_
  refine CW.cond (vt rfl) (fun hc6 => ?_) (fun hc6 => ?_)
  ·try simp only [sk] at hc6
   refine W.go ?_
   first | refine W.st (vt rfl) (vt rfl) rfl ?_ | refine W.st (u := .int _ _) (vt rfl) (vt rfl) rfl ?_
   refine W.go ?_
   refine CW.cond (vt rfl) (fun hc7 => ?_) (fun hc7 => ?_)
   ·try simp only [sk] at hc7
    refine W.go ?_
    first | refine W.st (vt rfl) (vt rfl) rfl ?_ | refine W.st (u := .int _ _) (vt rfl) (vt rfl) rfl ?_
    refine W.go ?_
    refine W.p O.min ?_
    refine W.go ?_
    refine W.q (O.call ⟨rfl, rfl⟩ (AV.cons (vt rfl) (AV.cons (vt rfl) (AV.nil))) (fun _ w hw => ref_PutDns ⟨(dnGet t).1.id, true, (dnGet t).1.op, false, false, (dnGet t).1.recu, 1, (dnGet t).1.qs, [], [], [], 512⟩ (oa o41, c41) nS nS nS _ w ⟨RowL.h (enc := encQ) (xs := (dnGet t).1.qs) (a := oa o41) _ hw, In.nil, In.nil, In.nil⟩ (dsz_of hgq2 nmb_nil nmb_nil rfl))) ?_
    refine W.go ?_
    refine ⟨_, [], (RVs.tmp rfl (RVs.tmp rfl (RVs.tmp rfl RVs.nil))), List.nil_sublist _, ?_⟩
    refine ⟨?_, rfl⟩
    unfold ansP; rw [if_neg (by rw [hyes]; decide), if_neg hne, if_pos hc3, ← hrs]
    rw [reply_qn (show (dnGet t).1.op = 0 by omega) (show (dnGet t).1.qs.length ≠ 1 by omega), show max 512 (min (dnGet t).1.size 1200) = min (dnGet t).1.size 1200 by omega, if_pos hc7]; rfl
   try simp only [sk] at hc7
   refine W.go ?_
   refine W.q (O.call ⟨rfl, rfl⟩ (AV.cons (vt rfl) (AV.cons (vt rfl) (AV.nil))) (fun _ w hw => ref_PutDns ⟨(dnGet t).1.id, true, (dnGet t).1.op, false, false, (dnGet t).1.recu, 1, (dnGet t).1.qs, [], [], [], 0⟩ (oa o41, c41) nS nS nS _ w ⟨RowL.h (enc := encQ) (xs := (dnGet t).1.qs) (a := oa o41) _ hw, In.nil, In.nil, In.nil⟩ (dsz_of hgq2 nmb_nil nmb_nil rfl))) ?_
   refine W.go ?_
   refine ⟨_, [], (RVs.tmp rfl (RVs.tmp rfl (RVs.tmp rfl RVs.nil))), List.nil_sublist _, ?_⟩
   refine ⟨?_, rfl⟩
   unfold ansP; rw [if_neg (by rw [hyes]; decide), if_neg hne, if_pos hc3, ← hrs]
   rw [reply_qn (show (dnGet t).1.op = 0 by omega) (show (dnGet t).1.qs.length ≠ 1 by omega), show max 512 (min (dnGet t).1.size 1200) = 512 by omega, if_neg hc7]; rfl
  try simp only [sk] at hc6
  have hq1 : (dnGet t).1.qs.length = 1 := by omega
  have hqn : ((dnGet t).1.qs.getD 0 dQ).name.length ≤ 1048576 := Nat.le_trans (hgq.2 _ (mem_at dQ (i := 0) (by omega) (by omega))) (by decide)
  have hlk := look_nm (q := (dnGet t).1.qs.getD 0 dQ) (z := c.zone) (zRec_nm (c := c) (ls := ls) (now := now) (n := n))
  have hlk1 : (look (zRec c ls now n).1 ((dnGet t).1.qs.getD 0 dQ) c.zone).2.1.length ≤ 1048576 ∧ NmB (look (zRec c ls now n).1 ((dnGet t).1.qs.getD 0 dQ) c.zone).2.1 4398046511104 := ⟨by omega, fun x hx => ⟨Nat.le_trans (hlk.1 x hx).1 (by decide), Nat.le_trans (hlk.1 x hx).2 (by decide)⟩⟩
  have hlk2 : (look (zRec c ls now n).1 ((dnGet t).1.qs.getD 0 dQ) c.zone).2.2.length ≤ 1048576 ∧ NmB (look (zRec c ls now n).1 ((dnGet t).1.qs.getD 0 dQ) c.zone).2.2 4398046511104 := ⟨by omega, fun x hx => ⟨Nat.le_trans (hlk.2.1 x hx).1 (by decide), Nat.le_trans (hlk.2.1 x hx).2 (by decide)⟩⟩
  refine CW.seq ?_
  refine CW.drawH ((b3, .cells (encDn (dnGet t).1 (oa o41, c41) (oa o42, c42) (oa o43, c43) (oa o44, c44)).toArray 53 (0, 0)) :: ((rowL o44 58 (flat encR (dnGet t).1.ad p44) ++ (rowL o43 58 (flat encR (dnGet t).1.se p43) ++ (rowL o42 58 (flat encR (dnGet t).1.an p42) ++ rowL o41 29 (flat encQ (dnGet t).1.qs p41)))) ++ ((b2, .cells (encDn ⟨(dnGet t).1.id, true, (dnGet t).1.op, false, false, (dnGet t).1.recu, 0, (dnGet t).1.qs, [], [], [], 0⟩ (oa o41, c41) nS nS nS).toArray 53 (0, 0)) :: (rowL o31 58 (flat encR (zRec c ls now n).1 p31) ++ [(b1, .cells (encCf c e r s).toArray 26 (0, 0))])))) rfl ?_
  refine RH.qa 0 rfl (O.mv) ?_
  first | refine RH.qa 1 rfl (O.fb) ?_ | refine RH.qa 1 rfl (O.fa) ?_
  refine RH.qa 2 rfl (O.ld) ?_
  refine RH.qa 3 rfl (O.ixA) ?_
  refine RH.qa 4 rfl (O.ldsE) ?_
  first | refine RH.qa 5 rfl (O.fb) ?_ | refine RH.qa 5 rfl (O.fa) ?_
  refine RH.qa 6 rfl (O.ld) ?_
  refine RH.one (i := 7) (fun _ _ h => h) (by kernel_rfl) rfl ?_
  refine W.callN (first := []) (cap := []) rfl (vt rfl) (AV.cons (vt rfl) (AV.cons (vt rfl) (AV.cons (vt rfl) (AV.nil)))) (fun w hu => ref_Look (zRec c ls now n).1 (oa o31) c31 ((dnGet t).1.qs.getD 0 dQ) c.zone w (RowL.h (enc := encR) (xs := (zRec c ls now n).1) (a := oa o31) _ hu) (by omega) zRec_nm hqn (by omega)) ?_; rintro _ _ ⟨o51, c51, p51, o52, c52, p52, rfl, nk51, nk52, rfl⟩
  refine WL.nilQa ?_
  refine RH.qa 8 rfl (O.mv) ?_
  first | refine RH.qa 9 rfl (O.extL) ?_ | refine RH.qa 9 rfl (O.ext) ?_
  first | refine RH.qa 10 rfl (O.extL) ?_ | refine RH.qa 10 rfl (O.ext) ?_
  first | refine RH.qa 11 rfl (O.extL) ?_ | refine RH.qa 11 rfl (O.ext) ?_
  refine RH.qa 12 rfl (O.as) ?_
  refine RH.qa 13 rfl (O.as) ?_
  refine RH.qa 14 rfl (O.as) ?_
  refine RH.done (by kernel_rfl) (Q.tn ?_)
  refine W.go ?_
  first | refine W.st (vt rfl) (vt rfl) rfl ?_ | refine W.st (u := .int _ _) (vt rfl) (vt rfl) rfl ?_
  refine W.go ?_
  first | refine W.st (vt rfl) (vt rfl) rfl ?_ | refine W.st (u := .slice _ _ _) (vt rfl) (vt rfl) rfl ?_
  refine W.go ?_
  first | refine W.st (vt rfl) (vt rfl) rfl ?_ | refine W.st (u := .slice _ _ _) (vt rfl) (vt rfl) rfl ?_
  refine W.go ?_
  refine W.st (vt rfl) (vt rfl) rfl ?_
  refine W.go ?_
  refine CW.cond (vt rfl) (fun hc8 => ?_) (fun hc8 => ?_)
  ·try simp only [sk] at hc8
   refine W.go ?_
   first | refine W.st (vt rfl) (vt rfl) rfl ?_ | refine W.st (u := .int _ _) (vt rfl) (vt rfl) rfl ?_
   refine W.go ?_
   refine W.p O.min ?_
   refine W.go ?_
   refine W.q (O.call ⟨rfl, rfl⟩ (AV.cons (vt rfl) (AV.cons (vt rfl) (AV.nil))) (fun _ w hw => ref_PutDns ⟨(dnGet t).1.id, true, (dnGet t).1.op, !decide ((look (zRec c ls now n).1 ((dnGet t).1.qs.getD 0 dQ) c.zone).1 = 5), false, (dnGet t).1.recu, (look (zRec c ls now n).1 ((dnGet t).1.qs.getD 0 dQ) c.zone).1, (dnGet t).1.qs, (look (zRec c ls now n).1 ((dnGet t).1.qs.getD 0 dQ) c.zone).2.1, (look (zRec c ls now n).1 ((dnGet t).1.qs.getD 0 dQ) c.zone).2.2, [], 512⟩ (oa o41, c41) (oa o51, c51) (oa o52, c52) nS _ w ⟨RowL.h (enc := encQ) (xs := (dnGet t).1.qs) (a := oa o41) _ hw, RowL.h (enc := encR) (xs := (look (zRec c ls now n).1 ((dnGet t).1.qs.getD 0 dQ) c.zone).2.1) (a := oa o51) _ hw, RowL.h (enc := encR) (xs := (look (zRec c ls now n).1 ((dnGet t).1.qs.getD 0 dQ) c.zone).2.2) (a := oa o52) _ hw, In.nil⟩ (dsz_of hgq2 hlk1 hlk2 rfl))) ?_
   refine W.go ?_
   refine ⟨_, [], (RVs.tmp rfl (RVs.tmp rfl (RVs.tmp rfl RVs.nil))), List.nil_sublist _, ?_⟩
   refine ⟨?_, rfl⟩
   unfold ansP; rw [if_neg (by rw [hyes]; decide), if_neg hne, if_pos hc3, ← hrs]
   rw [reply_look (show (dnGet t).1.op = 0 by omega) hq1, show max 512 (min (dnGet t).1.size 1200) = min (dnGet t).1.size 1200 by omega, if_pos hc8]; rfl
  try simp only [sk] at hc8
  refine W.go ?_
  refine W.q (O.call ⟨rfl, rfl⟩ (AV.cons (vt rfl) (AV.cons (vt rfl) (AV.nil))) (fun _ w hw => ref_PutDns ⟨(dnGet t).1.id, true, (dnGet t).1.op, !decide ((look (zRec c ls now n).1 ((dnGet t).1.qs.getD 0 dQ) c.zone).1 = 5), false, (dnGet t).1.recu, (look (zRec c ls now n).1 ((dnGet t).1.qs.getD 0 dQ) c.zone).1, (dnGet t).1.qs, (look (zRec c ls now n).1 ((dnGet t).1.qs.getD 0 dQ) c.zone).2.1, (look (zRec c ls now n).1 ((dnGet t).1.qs.getD 0 dQ) c.zone).2.2, [], 0⟩ (oa o41, c41) (oa o51, c51) (oa o52, c52) nS _ w ⟨RowL.h (enc := encQ) (xs := (dnGet t).1.qs) (a := oa o41) _ hw, RowL.h (enc := encR) (xs := (look (zRec c ls now n).1 ((dnGet t).1.qs.getD 0 dQ) c.zone).2.1) (a := oa o51) _ hw, RowL.h (enc := encR) (xs := (look (zRec c ls now n).1 ((dnGet t).1.qs.getD 0 dQ) c.zone).2.2) (a := oa o52) _ hw, In.nil⟩ (dsz_of hgq2 hlk1 hlk2 rfl))) ?_
  refine W.go ?_
  refine ⟨_, [], (RVs.tmp rfl (RVs.tmp rfl (RVs.tmp rfl RVs.nil))), List.nil_sublist _, ?_⟩
  refine ⟨?_, rfl⟩
  unfold ansP; rw [if_neg (by rw [hyes]; decide), if_neg hne, if_pos hc3, ← hrs]
  rw [reply_look (show (dnGet t).1.op = 0 by omega) hq1, show max 512 (min (dnGet t).1.size 1200) = 512 by omega, if_neg hc8]; rfl
 try simp only [sk] at hc3
 refine W.go ?_
 refine W.q (O.call ⟨rfl, rfl⟩ (AV.cons (vt rfl) (AV.cons (vt rfl) (AV.nil))) (fun _ w hw => ref_PutDns ⟨BE2 t 0, true, 0, false, false, false, 1, [], [], [], [], 0⟩ nS nS nS nS _ w ⟨In.nil, In.nil, In.nil, In.nil⟩ (dsz_of ⟨by simp, fun q hq => by cases hq⟩ nmb_nil nmb_nil rfl))) ?_
 refine W.go ?_
 refine ⟨_, [], (RVs.tmp rfl (RVs.tmp rfl (RVs.tmp rfl RVs.nil))), List.nil_sublist _, ?_⟩
 refine ⟨?_, rfl⟩
 rw [be_zero (by omega)]
 unfold ansP; rw [if_neg (by rw [hyes]; decide), if_neg hne, if_neg hc3]; rfl
end Go.Proofs.YtfmdaijkgjkmpaaGreatDoor
