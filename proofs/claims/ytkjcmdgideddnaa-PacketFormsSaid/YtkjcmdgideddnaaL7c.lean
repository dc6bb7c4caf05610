/- The statement PacketForms: its walk. No condition. -/
import Derived.Test.YtkjcmdgideddnaaL7
set_option linter.unusedVariables false
set_option linter.unusedSimpArgs false
namespace Go.Proofs.Ytkjcmdgideddnaa
open Go Go.RowKit
abbrev encPE : (Pkt × Option Addr × Nat) → List Value := fun p => encPk p.1 p.2.1 p.2.2
instance : Enc encPE 12 (noPk, none, 0) := ⟨fun _ => rfl, by decide⟩
abbrev badsP (b : Nat) (d : Int) : List (Pkt × Option Addr × Nat) := [(⟨-d, 0, 0, 0, 0, 0, 0, 0, 0, 0, [], []⟩, none, 0), (⟨255 + d, 0, 0, 0, 0, 0, 0, 0, 0, 0, [], []⟩, none, 0), (⟨0, 255 + d, 0, 0, 0, 0, 0, 0, 0, 0, [], []⟩, none, 0), (⟨0, 0, -d, 0, 0, 0, 0, 0, 0, 0, [], []⟩, none, 0), (⟨0, 0, 0, -d, 0, 0, 0, 0, 0, 0, [], []⟩, none, 0), (⟨0, 0, 0, 4294967295 + d, 0, 0, 0, 0, 0, 0, [], []⟩, none, 0), (⟨0, 0, 0, 0, 65535 + d, 0, 0, 0, 0, 0, [], []⟩, none, 0), (⟨0, 0, 0, 0, 0, -d, 0, 0, 0, 0, [], []⟩, none, 0), (⟨0, 0, 0, 0, 0, 0, -d, 0, 0, 0, [], []⟩, none, 0), (⟨0, 0, 0, 0, 0, 0, 0, 4294967295 + d, 0, 0, [], []⟩, none, 0), (⟨0, 0, 0, 0, 0, 0, 0, 0, -d, 0, [], []⟩, none, 0), (⟨0, 0, 0, 0, 0, 0, 0, 0, 0, 4294967295 + d, [], []⟩, none, 0), (⟨0, 0, 0, 0, 0, 0, 0, 0, 0, 0, List.replicate (16 + d).toNat 0, []⟩, none, 0), (⟨0, 0, 0, 0, 0, 0, 0, 0, 0, 0, [], [⟨255, []⟩]⟩, some ⟨b, 0, none⟩, 1)]
def inb (x : Int) (k : Nat) : Bool := decide (0 ≤ x) && decide (x < 2 ^ k)
theorem pkMay_eq (p : Pkt) : pkMay p = (inb p.op 8 && inb p.htype 8 && inb p.hops 8 && inb p.xid 32 && inb p.secs 16 && inb p.flags 16 && inb p.ciaddr 32 && inb p.yiaddr 32 && inb p.siaddr 32 && inb p.giaddr 32 && decide (p.chaddr.length ≤ 16) && optsMay p.opts) := by
  have hr : List.range (fieldsL 0 1).length = [0, 1, 2, 3, 4, 5, 6, 7, 8, 9, 10] := rfl
  have e1 : (256 : Int) ^ ((1 : Int).toNat) = 2 ^ 8 := by decide
  have e2 : (256 : Int) ^ ((2 : Int).toNat) = 2 ^ 16 := by decide
  have e4 : (256 : Int) ^ ((4 : Int).toNat) = 2 ^ 32 := by decide
  have f1 : ∀ x, fits x 1 = inb x 8 := fun x => by rw [fits, inb, e1]
  have f2 : ∀ x, fits x 2 = inb x 16 := fun x => by rw [fits, inb, e2]
  have f4 : ∀ x, fits x 4 = inb x 32 := fun x => by rw [fits, inb, e4]
  rw [pkMay, anyOdd, hr]
  simp only [List.any_cons, List.any_nil, fieldsL, FV, List.getD_cons_zero, List.getD_cons_succ, f1, f2, f4]
  have hl : p.chaddr.length ≤ 16 → inb p.chaddr.length 8 = true := fun h => by simp only [inb, Bool.and_eq_true, decide_eq_true_eq]; omega
  rw [Bool.eq_iff_iff]
  simp only [Bool.and_eq_true, Bool.not_eq_true', Bool.or_eq_false_iff, Bool.not_eq_false', decide_eq_true_eq]
  constructor
  · rintro ⟨⟨a, b⟩, c1, c2, c3, c4, c5, c6, c7, c8, c9, c10, c11, _⟩; exact ⟨⟨⟨⟨⟨⟨⟨⟨⟨⟨⟨c1, c2⟩, c4⟩, c5⟩, c6⟩, c7⟩, c8⟩, c9⟩, c10⟩, c11⟩, a⟩, b⟩
  · rintro ⟨⟨⟨⟨⟨⟨⟨⟨⟨⟨⟨c1, c2⟩, c4⟩, c5⟩, c6⟩, c7⟩, c8⟩, c9⟩, c10⟩, c11⟩, a⟩, b⟩; exact ⟨⟨a, b⟩, c1, c2, hl a, c4, c5, c6, c7, c8, c9, c10, c11, trivial⟩
theorem at14 {b : Nat} {d i : Int} {P : Pkt × Option Addr × Nat → Prop} (h0 : 0 ≤ i) (h1 : i < 14) (hP : ∀ p ∈ badsP b d, P p) : P ((badsP b d).getD i.toNat (noPk, none, 0)) := by
  apply hP; rw [List.getD_eq_getElem?_getD, List.getElem?_eq_getElem (by simp; omega)]; exact List.getElem_mem _
theorem badsP_no {b : Nat} {d : Int} (hd : 1 ≤ d ∧ d ≤ 1024) : ∀ p ∈ badsP b d, pkMay p.1 = false ∧ p.1.opts.length ≤ 1 := by
  intro p hp
  simp only [badsP, List.mem_cons, List.not_mem_nil, or_false] at hp
  rcases hp with rfl | rfl | rfl | rfl | rfl | rfl | rfl | rfl | rfl | rfl | rfl | rfl | rfl | rfl
  all_goals refine ⟨?_, by simp⟩
  all_goals rw [pkMay_eq]
  all_goals simp [inb, optsMay, optOk]
  all_goals omega
theorem badsP_in {b : Nat} {d : Int} {w : World} (h : In w (some ⟨b, 0, none⟩) ([(⟨255, []⟩ : Opt)].flatMap encO)) : ∀ p ∈ badsP b d, In w p.2.1 (p.1.opts.flatMap encO) := by
  intro p hp
  simp only [badsP, List.mem_cons, List.not_mem_nil, or_false] at hp
  rcases hp with rfl | rfl | rfl | rfl | rfl | rfl | rfl | rfl | rfl | rfl | rfl | rfl | rfl | rfl
  all_goals first | exact In.nil | exact h
def txP : List (List UInt8) := [[], (pkPut noPk).1.take (239 : Int).toNat, (pkPut noPk).1.take (2 : Int).toNat ++ [17] ++ (pkPut noPk).1.drop (3 : Int).toNat, (pkPut noPk).1.take (236 : Int).toNat ++ [99, 130, 83, 100] ++ (pkPut noPk).1.drop (240 : Int).toNat, (pkPut noPk).1.take (240 : Int).toNat ++ [5], (pkPut noPk).1.take (240 : Int).toNat ++ [52, 1, 1, 255]]
theorem txP_at {i : Int} (h0 : 0 ≤ i) (h1 : i < 6) : (txP.getD i.toNat []).length ≤ 300 ∧ (i ≠ 5 → (pkGet (txP.getD i.toNat [])).2 = 700) ∧ (i = 5 → (txP.getD i.toNat []).length = 244 ∧ (pkGet ((txP.getD i.toNat []).take (108 : Int).toNat ++ [5, 80] ++ (txP.getD i.toNat []).drop (110 : Int).toNat)).2 = 0) := by
  have k1 : ∀ n : Nat, n < 6 → (txP.getD n []).length ≤ 300 ∧ (n ≠ 5 → (pkGet (txP.getD n [])).2 = 700) := by decide +kernel
  have k2 : (txP.getD 5 []).length = 244 ∧ (pkGet ((txP.getD 5 []).take (108 : Int).toNat ++ [5, 80] ++ (txP.getD 5 []).drop (110 : Int).toNat)).2 = 0 := by decide +kernel
  refine ⟨(k1 i.toNat (by omega)).1, fun h => (k1 i.toNat (by omega)).2 (by omega), fun h => ?_⟩
  subst h; exact k2
theorem pkPut_no {p : Pkt} (h : pkMay p = false) : pkPut p = ([], 700) := by rw [pkPut, if_pos (.inr h)]
set_option maxRecDepth 100000 in
set_option maxHeartbeats 4000000 in
theorem law7_PacketForms (which x : Int) (w : World) : Fn Try.prog 17 [.int .i64 which, .int .i64 x] w [] fun v L' => v = .bool true ∧ L' = [] := by
  have hA1 : (pkPut noPk).1.length = 241 := by decide +kernel
  have htx := txP_at (i := (which % 18446744073709551616 % 6)) (by omega) (by omega)
  have htx0 := htx.1
  have hrl : (List.replicate (16 + (1 + x % 1024)).toNat (0 : UInt8)).length = (16 + (1 + x % 1024)).toNat := List.length_replicate
  have hd : 1 ≤ (1 + x % 1024) ∧ (1 + x % 1024) ≤ 1024 := by omega
  have ht6 : txP.length = 6 := rfl
  refine Fn.enter Try.func17 rfl rfl rfl rfl (Holds.nil w) ?_
  refine CW.seq ?_
  refine CW.region ?_
  refine W.p O.as ?_
  refine WL.nil (Q.tn ?_)
  refine CW.seq ?_
  refine CW.seq ?_
  refine CW.region ?_
  refine W.q (O.call ⟨rfl, rfl⟩ (AV.nil) (fun _ w hw => law7_awake w)) ?_
  refine W.p O.nt ?_
  refine WL.nil (Q.tn ?_)
  refine CW.cond (vt rfl) (fun hc1 => ?_) (fun hc1 => ?_)
  · exact absurd hc1 (by decide)
  try simp only [Bool.cond_true_left, Bool.cond_false_right, Bool.or_eq_true, Bool.or_eq_false_iff, Bool.and_eq_true, Bool.and_eq_false_iff, decide_eq_true_eq, decide_eq_false_iff_not, Bool.not_eq_true', Bool.not_eq_false'] at hc1
  refine CW.skip (Q.tn ?_)
  refine CW.seq ?_
  refine CW.region ?_
  refine W.p O.mv ?_
  refine W.p (O.andM 10 1024 (h := by decide) (hq := by decide) (hM := by decide)) ?_
  first | refine W.p O.addN ?_ | refine W.p O.add ?_
  refine W.p O.as ?_
  refine WL.nil (Q.tn ?_)
  refine CW.seq ?_
  refine CW.region ?_
  refine W.p O.mv ?_
  first | refine W.p O.ngN ?_ | refine W.p O.ng ?_
  refine W.p (O.bd (hv := PV.cons (vt rfl) (PV.nil))) ?_
  refine W.p O.mv ?_
  first | refine W.p O.addN ?_ | refine W.p O.add ?_
  refine W.p (O.bd (hv := PV.cons (vt rfl) (PV.nil))) ?_
  refine W.p O.mv ?_
  first | refine W.p O.addN ?_ | refine W.p O.add ?_
  refine W.p (O.bd (hv := PV.cons (vt rfl) (PV.nil))) ?_
  refine W.p O.mv ?_
  first | refine W.p O.ngN ?_ | refine W.p O.ng ?_
  refine W.p (O.bd (hv := PV.cons (vt rfl) (PV.nil))) ?_
  refine W.p O.mv ?_
  first | refine W.p O.ngN ?_ | refine W.p O.ng ?_
  refine W.p (O.bd (hv := PV.cons (vt rfl) (PV.nil))) ?_
  refine W.p O.mv ?_
  first | refine W.p O.addN ?_ | refine W.p O.add ?_
  refine W.p (O.bd (hv := PV.cons (vt rfl) (PV.nil))) ?_
  refine W.p O.mv ?_
  first | refine W.p O.addN ?_ | refine W.p O.add ?_
  refine W.p (O.bd (hv := PV.cons (vt rfl) (PV.nil))) ?_
  refine W.p O.mv ?_
  first | refine W.p O.ngN ?_ | refine W.p O.ng ?_
  refine W.p (O.bd (hv := PV.cons (vt rfl) (PV.nil))) ?_
  refine W.p O.mv ?_
  first | refine W.p O.ngN ?_ | refine W.p O.ng ?_
  refine W.p (O.bd (hv := PV.cons (vt rfl) (PV.nil))) ?_
  refine W.p O.mv ?_
  first | refine W.p O.addN ?_ | refine W.p O.add ?_
  refine W.p (O.bd (hv := PV.cons (vt rfl) (PV.nil))) ?_
  refine W.p O.mv ?_
  first | refine W.p O.ngN ?_ | refine W.p O.ng ?_
  refine W.p (O.bd (hv := PV.cons (vt rfl) (PV.nil))) ?_
  refine W.p O.mv ?_
  first | refine W.p O.addN ?_ | refine W.p O.add ?_
  refine W.p (O.bd (hv := PV.cons (vt rfl) (PV.nil))) ?_
  refine W.p O.mv ?_
  first | refine W.p O.addN ?_ | refine W.p O.add ?_
  refine W.mkF rfl (vt rfl) (vt rfl) (by first | omega | decide) fun b1 => ?_
  refine W.p (O.cvRow ⟨rfl, rfl⟩ (vt rfl) (by first | rfl | omega) (fun _ => ⟨_, rfl⟩)) ?_
  refine W.p (O.bd (hv := PV.cons (vt rfl) (PV.nil))) ?_
  refine W.p (O.bd (hv := PV.cons (vt rfl) (PV.nil))) ?_
  refine W.bs encO [⟨_, _⟩] rfl (PV.cons (vt rfl) (PV.nil)) rfl rfl rfl (by decide) rfl fun b2 => ?_
  refine W.p (O.bd (hv := PV.cons (vt rfl) (PV.nil))) ?_
  refine W.bs encPE (badsP b2 (1 + x % 1024)) rfl (PV.cons (vt rfl) (PV.cons (vt rfl) (PV.cons (vt rfl) (PV.cons (vt rfl) (PV.cons (vt rfl) (PV.cons (vt rfl) (PV.cons (vt rfl) (PV.cons (vt rfl) (PV.cons (vt rfl) (PV.cons (vt rfl) (PV.cons (vt rfl) (PV.cons (vt rfl) (PV.cons (vt rfl) (PV.cons (vt rfl) (PV.nil))))))))))))))) rfl rfl rfl (by decide) rfl fun b3 => ?_
  refine W.p O.as ?_
  refine WL.nil (Q.tn ?_)
  refine CW.seq ?_
  refine CW.region ?_
  refine W.p O.mv ?_
  refine W.p O.mv ?_
  refine W.p O.cvUn ?_
  refine W.p O.rem ?_
  first | refine W.p O.cvN ?_ | refine W.p O.cv ?_
  refine W.p O.ixA ?_
  refine W.p O.ldsE ?_
  refine W.al rfl rfl fun b4 => ?_
  refine W.st (vt rfl) (vt rfl) rfl ?_
  refine WL.nil (Q.tn ?_)
  refine CW.seq ?_
  refine CW.region ?_
  refine W.p O.lds ?_
  refine W.q (O.call ⟨rfl, rfl⟩ (AV.cons (vt rfl) (AV.nil)) (fun _ w hw => pk_Put ((badsP b2 (1 + x % 1024)).getD (which % 18446744073709551616 % 14).toNat (noPk, none, 0)).1 ((badsP b2 (1 + x % 1024)).getD (which % 18446744073709551616 % 14).toNat (noPk, none, 0)).2.1 ((badsP b2 (1 + x % 1024)).getD (which % 18446744073709551616 % 14).toNat (noPk, none, 0)).2.2 w (at14 (P := fun p => In w p.2.1 (p.1.opts.flatMap encO)) (by omega) (by omega) (badsP_in (RowL.h _ hw))) (by have := (at14 (P := fun p => pkMay p.1 = false ∧ p.1.opts.length ≤ 1) (b := b2) (d := (1 + x % 1024)) (i := (which % 18446744073709551616 % 14)) (by omega) (by omega) (badsP_no hd)).2; omega))) ?_
  refine W.p O.mv ?_
  first | refine W.p O.extL ?_ | refine W.p O.ext ?_
  first | refine W.p O.extL ?_ | refine W.p O.ext ?_
  refine W.p O.as ?_
  refine W.p O.as ?_
  refine WL.nil (Q.tn ?_)
  refine CW.seq ?_
  refine CW.region ?_
  refine W.p (O.bd (hv := PV.nil)) ?_
  refine W.q (O.call ⟨rfl, rfl⟩ (AV.cons (vt rfl) (AV.nil)) (fun _ w hw => pk_Put noPk none 0 w In.nil (by decide))) ?_
  refine W.p O.mv ?_
  first | refine W.p O.extL ?_ | refine W.p O.ext ?_
  first | refine W.p O.extL ?_ | refine W.p O.ext ?_
  refine W.p O.as ?_
  refine W.p O.as ?_
  refine WL.nil (Q.tn ?_)
  refine CW.seq ?_
  refine CW.seq ?_
  refine CW.region ?_
  refine W.p O.mv ?_
  refine W.q (O.call ⟨rfl, rfl⟩ (AV.cons (vt rfl) (AV.nil)) (fun _ w hw => law0_Num _ w)) ?_
  refine W.p O.neI ?_
  refine W.p O.mv ?_
  refine W.p O.mv ?_
  refine W.p O.len ?_
  refine W.p O.neI ?_
  refine W.p O.pkB ?_
  refine WL.nil (Q.tn ?_)
  refine CW.cond (vt rfl) (fun hc2 => ?_) (fun hc2 => ?_)
  · exact absurd hc2 (by decide +kernel)
  try simp only [Bool.cond_true_left, Bool.cond_false_right, Bool.or_eq_true, Bool.or_eq_false_iff, Bool.and_eq_true, Bool.and_eq_false_iff, decide_eq_true_eq, decide_eq_false_iff_not, Bool.not_eq_true', Bool.not_eq_false'] at hc2
  refine CW.skip (Q.tn ?_)
  refine CW.seq ?_
  refine CW.draw 20 rfl (by kernel_rfl) ?_
  refine WQ.p O.mv ?_
  refine WQ.p O.slcH ?_
  refine WQ.p O.mv ?_
  refine WQ.p O.slcH ?_
  refine WQ.p O.addS ?_
  refine WQ.p O.mv ?_
  refine WQ.p O.slcL ?_
  refine WQ.p O.addS ?_
  refine WQ.p O.mv ?_
  refine WQ.p O.slcH ?_
  refine WQ.p O.addS ?_
  refine WQ.p O.mv ?_
  refine WQ.p O.slcL ?_
  refine WQ.p O.addS ?_
  refine WQ.p O.mv ?_
  refine WQ.p O.slcH ?_
  refine WQ.p O.addS ?_
  refine WQ.p O.mv ?_
  refine WQ.p O.slcH ?_
  refine WQ.p O.addS ?_
  refine WQ.nil ?_
  refine W.bs encS txP rfl (PV.cons (vt rfl) (PV.cons (vt rfl) (PV.cons (vt rfl) (PV.cons (vt rfl) (PV.cons (vt rfl) (PV.cons (vt rfl) (PV.nil))))))) rfl rfl rfl (by decide) rfl fun b5 => ?_
  refine W.p O.as ?_
  refine WL.nil (Q.tn ?_)
  refine CW.seq ?_
  refine CW.region ?_
  refine W.p O.mv ?_
  refine W.p O.cvUn ?_
  refine W.p O.rem ?_
  first | refine W.p O.cvN ?_ | refine W.p O.cv ?_
  refine W.p O.as ?_
  refine WL.nil (Q.tn ?_)
  refine CW.seq ?_
  refine CW.region ?_
  refine W.p O.mv ?_
  refine W.p O.mv ?_
  refine W.p O.ixA ?_
  refine W.p O.ldE ?_
  refine W.p O.as ?_
  refine WL.nil (Q.tn ?_)
  refine CW.seq ?_
  refine CW.seq ?_
  refine CW.region ?_
  refine W.p O.mv ?_
  refine W.p O.eqI ?_
  refine WL.nil (Q.tn ?_)
  refine CW.cond (vt rfl) (fun hc3 => ?_) (fun hc3 => ?_)
  · try simp only [Bool.cond_true_left, Bool.cond_false_right, Bool.or_eq_true, Bool.or_eq_false_iff, Bool.and_eq_true, Bool.and_eq_false_iff, decide_eq_true_eq, decide_eq_false_iff_not, Bool.not_eq_true', Bool.not_eq_false'] at hc3
    have h5 := htx.2.2 hc3
    have h50 := h5.1
    have h51 := h50
    simp only [List.getD_eq_getElem?_getD] at h51
    refine CW.draw 6 rfl (by kernel_rfl) ?_
    refine WQ.p O.mv ?_
    refine WQ.p O.slcH ?_
    refine WQ.p O.addS ?_
    refine WQ.p O.mv ?_
    refine WQ.p O.slcL ?_
    refine WQ.p O.addS ?_
    refine WQ.nil ?_
    refine W.p O.as ?_
    refine WL.nil (Q.tn ?_)
    refine CW.seq ?_
    refine CW.region ?_
    refine W.p O.mv ?_
    refine W.callN (first := []) (cap := []) rfl (vt rfl) (AV.cons (vt rfl) (AV.nil)) (fun w hu => pk_Get _ w (by (try simp only [List.length_append, List.length_take, List.length_drop, List.length_cons, List.length_nil]); omega)) ?_; rintro _ _ ⟨o11, c11, sp11, rfl, ok11, rfl⟩; have nk11 := ok11.nk
    refine W.p O.mv ?_
    first | refine W.p O.extL ?_ | refine W.p O.ext ?_
    first | refine W.p O.extL ?_ | refine W.p O.ext ?_
    refine W.al rfl rfl fun b6 => ?_
    refine W.st (vt rfl) (vt rfl) rfl ?_
    refine W.p O.as ?_
    refine WL.nil (Q.tn ?_)
    refine CW.seq ?_
    refine CW.region ?_
    refine W.p O.lds ?_
    refine W.q (O.call ⟨rfl, rfl⟩ (AV.cons (vt rfl) (AV.nil)) (fun _ w hw => pk_May ((badsP b2 (1 + x % 1024)).getD (which % 18446744073709551616 % 14).toNat (noPk, none, 0)).1 ((badsP b2 (1 + x % 1024)).getD (which % 18446744073709551616 % 14).toNat (noPk, none, 0)).2.1 ((badsP b2 (1 + x % 1024)).getD (which % 18446744073709551616 % 14).toNat (noPk, none, 0)).2.2 w (at14 (P := fun p => In w p.2.1 (p.1.opts.flatMap encO)) (by omega) (by omega) (badsP_in (RowL.h _ hw))) (by have := (at14 (P := fun p => pkMay p.1 = false ∧ p.1.opts.length ≤ 1) (b := b2) (d := (1 + x % 1024)) (i := (which % 18446744073709551616 % 14)) (by omega) (by omega) (badsP_no hd)).2; omega))) ?_
    refine W.p O.nt ?_
    refine W.p O.mv ?_
    refine W.p O.mv ?_
    refine W.p O.eqS ?_
    refine W.p O.pkB ?_
    refine W.p O.mv ?_
    refine W.p O.mv ?_
    refine W.q (O.call ⟨rfl, rfl⟩ (AV.cons (vs rfl) (AV.nil)) (fun _ w hw => law0_Num _ w)) ?_
    refine W.p O.eqI ?_
    refine W.p O.pkB ?_
    refine W.p O.mv ?_
    refine W.p O.mv ?_
    refine W.q (O.call ⟨rfl, rfl⟩ (AV.cons (vs rfl) (AV.nil)) (fun _ w hw => law0_Num _ w)) ?_
    refine W.p O.eqI ?_
    refine W.p O.mv ?_
    refine W.p O.neI ?_
    refine W.p O.eqB ?_
    refine W.p O.pkB ?_
    refine W.p O.as ?_
    refine WL.nil (Q.tn ?_)
    refine CW.ret ?_
    refine ⟨_, [], (RVs.tmp rfl RVs.nil), List.nil_sublist _, ?_⟩
    have hb := (at14 (P := fun p => pkMay p.1 = false ∧ p.1.opts.length ≤ 1) (b := b2) (d := (1 + x % 1024)) (i := (which % 18446744073709551616 % 14)) (by omega) (by omega) (badsP_no hd)).1
    refine ⟨?_, rfl⟩
    rw [pkPut_no hb, hb, h5.2, hc3]; rfl
  try simp only [Bool.cond_true_left, Bool.cond_false_right, Bool.or_eq_true, Bool.or_eq_false_iff, Bool.and_eq_true, Bool.and_eq_false_iff, decide_eq_true_eq, decide_eq_false_iff_not, Bool.not_eq_true', Bool.not_eq_false'] at hc3
  have h5 := htx.2.1 hc3
  refine CW.skip (Q.tn ?_)
  refine CW.seq ?_
  refine CW.region ?_
  refine W.p O.mv ?_
  refine W.callN (first := []) (cap := []) rfl (vt rfl) (AV.cons (vt rfl) (AV.nil)) (fun w hu => pk_Get _ w (by (try simp only [List.length_append, List.length_take, List.length_drop, List.length_cons, List.length_nil]); omega)) ?_; rintro _ _ ⟨o11, c11, sp11, rfl, ok11, rfl⟩; have nk11 := ok11.nk
  refine W.p O.mv ?_
  first | refine W.p O.extL ?_ | refine W.p O.ext ?_
  first | refine W.p O.extL ?_ | refine W.p O.ext ?_
  refine W.al rfl rfl fun b7 => ?_
  refine W.st (vt rfl) (vt rfl) rfl ?_
  refine W.p O.as ?_
  refine WL.nil (Q.tn ?_)
  refine CW.seq ?_
  refine CW.region ?_
  refine W.p O.lds ?_
  refine W.q (O.call ⟨rfl, rfl⟩ (AV.cons (vt rfl) (AV.nil)) (fun _ w hw => pk_May ((badsP b2 (1 + x % 1024)).getD (which % 18446744073709551616 % 14).toNat (noPk, none, 0)).1 ((badsP b2 (1 + x % 1024)).getD (which % 18446744073709551616 % 14).toNat (noPk, none, 0)).2.1 ((badsP b2 (1 + x % 1024)).getD (which % 18446744073709551616 % 14).toNat (noPk, none, 0)).2.2 w (at14 (P := fun p => In w p.2.1 (p.1.opts.flatMap encO)) (by omega) (by omega) (badsP_in (RowL.h _ hw))) (by have := (at14 (P := fun p => pkMay p.1 = false ∧ p.1.opts.length ≤ 1) (b := b2) (d := (1 + x % 1024)) (i := (which % 18446744073709551616 % 14)) (by omega) (by omega) (badsP_no hd)).2; omega))) ?_
  refine W.p O.nt ?_
  refine W.p O.mv ?_
  refine W.p O.mv ?_
  refine W.p O.eqS ?_
  refine W.p O.pkB ?_
  refine W.p O.mv ?_
  refine W.p O.mv ?_
  refine W.q (O.call ⟨rfl, rfl⟩ (AV.cons (vs rfl) (AV.nil)) (fun _ w hw => law0_Num _ w)) ?_
  refine W.p O.eqI ?_
  refine W.p O.pkB ?_
  refine W.p O.mv ?_
  refine W.p O.mv ?_
  refine W.q (O.call ⟨rfl, rfl⟩ (AV.cons (vs rfl) (AV.nil)) (fun _ w hw => law0_Num _ w)) ?_
  refine W.p O.eqI ?_
  refine W.p O.mv ?_
  refine W.p O.neI ?_
  refine W.p O.eqB ?_
  refine W.p O.pkB ?_
  refine W.p O.as ?_
  refine WL.nil (Q.tn ?_)
  refine CW.ret ?_
  refine ⟨_, [], (RVs.tmp rfl RVs.nil), List.nil_sublist _, ?_⟩
  have hb := (at14 (P := fun p => pkMay p.1 = false ∧ p.1.opts.length ≤ 1) (b := b2) (d := (1 + x % 1024)) (i := (which % 18446744073709551616 % 14)) (by omega) (by omega) (badsP_no hd)).1
  refine ⟨?_, rfl⟩
  rw [pkPut_no hb, hb, h5, decide_eq_false hc3]; rfl
end Go.Proofs.Ytkjcmdgideddnaa
