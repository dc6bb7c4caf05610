/- The statements ZoneForms and ZoneChanges: their walks. Condition: the library's table of powers of ten is as its text lays it. -/
import Derived.Test.YtagiajnpnjakhaaDoorZnS
set_option linter.unusedVariables false
set_option linter.unusedSimpArgs false
namespace Go.Proofs.YtagiajnpnjakhaaDoor
open Go Go.RowKit
theorem givZ_sz {z : List UInt8} (h : z.length ≤ 3) : CfSz { givC with zone := z } := ⟨giv_sz.hx, giv_sz.hr, giv_sz.hs, by dsimp only; omega, giv_sz.hc, giv_sz.hn⟩
theorem ask_now {c : Cf} {ls : List Lz} {now n : Int} (h : now < 0 ∨ 1099511627776 < now) : zAsk c ls now n = false := by
  rw [zAsk, Bool.eq_false_iff]; intro hq; simp only [Bool.and_eq_true, inZ, decide_eq_true_eq] at hq; omega
theorem ask_n {c : Cf} {ls : List Lz} {now n : Int} (h : n < 0 ∨ 4294967295 < n) : zAsk c ls now n = false := by
  rw [zAsk, Bool.eq_false_iff]; intro hq; simp only [Bool.and_eq_true, inZ, decide_eq_true_eq] at hq; omega
theorem dL_sz : LsSz [dL] := ⟨by decide, by decide, by decide⟩
theorem forms_z : zChg givC [dL] [] 0 0 = (false, 2000) ∧ zChg givC [] [] 0 1 = (false, 0) ∧ zAsk { givC with zone := [] } [] 0 0 = false ∧ zAsk givC [dL] 0 0 = false := by decide +kernel
theorem chg_now {c : Cf} {a b : List Lz} {now thn : Int} (h : thn < 0) : zChg c a b now thn = (false, 2000) := by
  rw [zChg, if_neg]; rintro ⟨_, h2⟩; rw [ask_now (.inl h)] at h2; cases h2
set_option maxRecDepth 100000 in
theorem law20_ZoneForms (which x : Int) (w : World) (ht : Tab10 w) : Fn Tryd.prog 5 [.int .i64 which, .int .i64 x] w [] fun v L' => v = .bool true ∧ L' = [] := by
  have hx : 0 ≤ x % 1024 ∧ x % 1024 ≤ 1023 := by omega
  refine Fn.enter Tryd.func5 rfl rfl rfl rfl (Holds.nil w) ?_
  refine CW.seq ?_
  refine CW.region ?_
  refine W.p O.as ?_
  refine WL.nil (Q.tn ?_)
  refine CW.seq ?_
  refine CW.seq ?_
  refine CW.region ?_
  refine W.q (O.call ⟨rfl, rfl⟩ (AV.nil) (fun _ w hw => law20_awake w (ht.upd hw))) ?_
  refine W.p O.nt ?_
  refine WL.nil (Q.tn ?_)
  refine CW.cond (vt rfl) (fun hc1 => ?_) (fun hc1 => ?_)
  · exfalso; simp at hc1
  try simp only [sk] at hc1
  refine CW.skip (Q.tn ?_)
  refine CW.seq ?_
  refine CW.region ?_
  refine W.p O.mv ?_
  refine W.p (O.andM 10 1024 (h := by decide) (hq := by decide) (hM := by decide)) ?_
  first | refine W.p O.addN ?_ | refine W.p O.add ?_
  refine W.p O.as ?_
  refine WL.nil (Q.tn ?_)
  refine CW.seq ?_
  refine CW.region ?_
  refine W.callN (first := []) (cap := []) rfl (vt rfl) (AV.nil) (fun w hu => law20_given w) ?_; rintro _ _ ⟨g1, g2, g3, rfl, rfl⟩
  refine W.al rfl rfl fun b1 => ?_
  refine W.st (vt rfl) (vt rfl) rfl ?_
  refine WL.nil (Q.tn ?_)
  refine CW.seq ?_
  refine CW.region ?_
  refine W.p O.as ?_
  refine WL.nil (Q.tn ?_)
  refine CW.seq ?_
  refine CW.region ?_
  refine W.p O.as ?_
  refine W.p O.as ?_
  refine WL.nil (Q.tn ?_)
  refine CW.join (X := List UInt8 × Option Nat × List Lz × Int × Int) (fun q => [(5, true, .int .i64 (1 + x % 1024)), (6, true, .pointer (some ⟨b1, 0, none⟩)), (7, true, .slice (oa q.2.1) q.2.2.1.length q.2.2.1.length), (8, true, .int .i64 q.2.2.2.1), (9, true, .int .i64 q.2.2.2.2)]) (fun q => rowL q.2.1 48 (flat encL q.2.2.1 []) ++ ((b1, .cells (encCf { givC with zone := q.1 } (oa (some g1), 1) (oa (some g2), 1) (oa (some g3), 1)).toArray 26 (0, 0)) :: givH g1 g2 g3)) (fun q => zAsk { givC with zone := q.1 } q.2.2.1 q.2.2.2.1 q.2.2.2.2 = false ∧ NilOk q.2.1 q.2.2.1 ∧ LsSz q.2.2.1 ∧ (-9223372036854775808 ≤ q.2.2.2.2 ∧ q.2.2.2.2 ≤ 9223372036854775807) ∧ q.1.length ≤ 3) ?_ ?_
  · refine CW.seq ?_
    refine CW.region ?_
    refine W.p O.mv ?_
    refine W.p O.cvUn ?_
    refine W.p O.rem ?_
    refine WL.nil (Q.tn ?_)
    refine CW.block ?_
    refine CW.seq ?_
    refine CW.region ?_
    refine W.p O.eqI ?_
    refine W.p O.as ?_
    refine WL.nil (Q.tn ?_)
    refine CW.cond (vt rfl) (fun hc2 => ?_) (fun hc2 => ?_)
    · try simp only [sk] at hc2
      refine CW.region ?_
      first | refine W.p O.fb ?_ | refine W.p O.fa ?_
      first | refine W.st (vt rfl) (vt rfl) rfl ?_ | refine W.st (u := .string _) (vt rfl) (vt rfl) rfl ?_
      refine WL.nil (Q.bn (Q.tn ?_))
      first | (refine ⟨([], none, [], 0, 0), ⟨forms_z.2.2.1, ⟨fun _ => rfl⟩, nil_sz, by dsimp only; omega, Nat.zero_le 3⟩, ?_, ?_⟩; (repeat (first | exact trivial | refine ⟨rfl, ?_⟩)); (repeat (first | exact List.Sublist.refl _ | exact List.nil_sublist _ | apply List.Sublist.cons_cons | apply List.Sublist.cons | exact List.sublist_append_left _ _)); done) | (refine ⟨([108, 97, 110], some b2, [dL], 0, 0), ⟨forms_z.2.2.2, ⟨fun e => by cases e⟩, dL_sz, by dsimp only; omega, Nat.le_refl 3⟩, ?_, ?_⟩; (repeat (first | exact trivial | refine ⟨rfl, ?_⟩)); (repeat (first | exact List.Sublist.refl _ | exact List.nil_sublist _ | apply List.Sublist.cons_cons | apply List.Sublist.cons | exact List.sublist_append_left _ _)); done) | (refine ⟨([108, 97, 110], none, [], -(1 + x % 1024), 0), ⟨ask_now (by dsimp only; omega), ⟨fun _ => rfl⟩, nil_sz, by dsimp only; omega, Nat.le_refl 3⟩, ?_, ?_⟩; (repeat (first | exact trivial | refine ⟨rfl, ?_⟩)); (repeat (first | exact List.Sublist.refl _ | exact List.nil_sublist _ | apply List.Sublist.cons_cons | apply List.Sublist.cons | exact List.sublist_append_left _ _)); done) | (refine ⟨([108, 97, 110], none, [], 1099511627776 + (1 + x % 1024), 0), ⟨ask_now (by dsimp only; omega), ⟨fun _ => rfl⟩, nil_sz, by dsimp only; omega, Nat.le_refl 3⟩, ?_, ?_⟩; (repeat (first | exact trivial | refine ⟨rfl, ?_⟩)); (repeat (first | exact List.Sublist.refl _ | exact List.nil_sublist _ | apply List.Sublist.cons_cons | apply List.Sublist.cons | exact List.sublist_append_left _ _)); done) | (refine ⟨([108, 97, 110], none, [], 0, -(1 + x % 1024)), ⟨ask_n (by dsimp only; omega), ⟨fun _ => rfl⟩, nil_sz, by dsimp only; omega, Nat.le_refl 3⟩, ?_, ?_⟩; (repeat (first | exact trivial | refine ⟨rfl, ?_⟩)); (repeat (first | exact List.Sublist.refl _ | exact List.nil_sublist _ | apply List.Sublist.cons_cons | apply List.Sublist.cons | exact List.sublist_append_left _ _)); done) | (refine ⟨([108, 97, 110], none, [], 0, 4294967295 + (1 + x % 1024)), ⟨ask_n (by dsimp only; omega), ⟨fun _ => rfl⟩, nil_sz, by dsimp only; omega, Nat.le_refl 3⟩, ?_, ?_⟩; (repeat (first | exact trivial | refine ⟨rfl, ?_⟩)); (repeat (first | exact List.Sublist.refl _ | exact List.nil_sublist _ | apply List.Sublist.cons_cons | apply List.Sublist.cons | exact List.sublist_append_left _ _)); done)
    try simp only [sk] at hc2
    refine CW.seq ?_
    refine CW.region ?_
    refine W.p O.eqI ?_
    refine W.p O.as ?_
    refine WL.nil (Q.tn ?_)
    refine CW.cond (vt rfl) (fun hc3 => ?_) (fun hc3 => ?_)
    · try simp only [sk] at hc3
      refine CW.region ?_
      refine W.p (O.bd (hv := PV.nil)) ?_
      refine W.bs encL [⟨_, _, _, _, _, _⟩] rfl (PV.cons (vt rfl) (PV.nil)) rfl rfl rfl (by decide) rfl fun b2 => ?_
      refine W.p O.as ?_
      refine WL.nil (Q.bn (Q.tn ?_))
      first | (refine ⟨([], none, [], 0, 0), ⟨forms_z.2.2.1, ⟨fun _ => rfl⟩, nil_sz, by dsimp only; omega, Nat.zero_le 3⟩, ?_, ?_⟩; (repeat (first | exact trivial | refine ⟨rfl, ?_⟩)); (repeat (first | exact List.Sublist.refl _ | exact List.nil_sublist _ | apply List.Sublist.cons_cons | apply List.Sublist.cons | exact List.sublist_append_left _ _)); done) | (refine ⟨([108, 97, 110], some b2, [dL], 0, 0), ⟨forms_z.2.2.2, ⟨fun e => by cases e⟩, dL_sz, by dsimp only; omega, Nat.le_refl 3⟩, ?_, ?_⟩; (repeat (first | exact trivial | refine ⟨rfl, ?_⟩)); (repeat (first | exact List.Sublist.refl _ | exact List.nil_sublist _ | apply List.Sublist.cons_cons | apply List.Sublist.cons | exact List.sublist_append_left _ _)); done) | (refine ⟨([108, 97, 110], none, [], -(1 + x % 1024), 0), ⟨ask_now (by dsimp only; omega), ⟨fun _ => rfl⟩, nil_sz, by dsimp only; omega, Nat.le_refl 3⟩, ?_, ?_⟩; (repeat (first | exact trivial | refine ⟨rfl, ?_⟩)); (repeat (first | exact List.Sublist.refl _ | exact List.nil_sublist _ | apply List.Sublist.cons_cons | apply List.Sublist.cons | exact List.sublist_append_left _ _)); done) | (refine ⟨([108, 97, 110], none, [], 1099511627776 + (1 + x % 1024), 0), ⟨ask_now (by dsimp only; omega), ⟨fun _ => rfl⟩, nil_sz, by dsimp only; omega, Nat.le_refl 3⟩, ?_, ?_⟩; (repeat (first | exact trivial | refine ⟨rfl, ?_⟩)); (repeat (first | exact List.Sublist.refl _ | exact List.nil_sublist _ | apply List.Sublist.cons_cons | apply List.Sublist.cons | exact List.sublist_append_left _ _)); done) | (refine ⟨([108, 97, 110], none, [], 0, -(1 + x % 1024)), ⟨ask_n (by dsimp only; omega), ⟨fun _ => rfl⟩, nil_sz, by dsimp only; omega, Nat.le_refl 3⟩, ?_, ?_⟩; (repeat (first | exact trivial | refine ⟨rfl, ?_⟩)); (repeat (first | exact List.Sublist.refl _ | exact List.nil_sublist _ | apply List.Sublist.cons_cons | apply List.Sublist.cons | exact List.sublist_append_left _ _)); done) | (refine ⟨([108, 97, 110], none, [], 0, 4294967295 + (1 + x % 1024)), ⟨ask_n (by dsimp only; omega), ⟨fun _ => rfl⟩, nil_sz, by dsimp only; omega, Nat.le_refl 3⟩, ?_, ?_⟩; (repeat (first | exact trivial | refine ⟨rfl, ?_⟩)); (repeat (first | exact List.Sublist.refl _ | exact List.nil_sublist _ | apply List.Sublist.cons_cons | apply List.Sublist.cons | exact List.sublist_append_left _ _)); done)
    try simp only [sk] at hc3
    refine CW.seq ?_
    refine CW.region ?_
    refine W.p O.eqI ?_
    refine W.p O.as ?_
    refine WL.nil (Q.tn ?_)
    refine CW.cond (vt rfl) (fun hc4 => ?_) (fun hc4 => ?_)
    · try simp only [sk] at hc4
      refine CW.region ?_
      refine W.p O.mv ?_
      first | refine W.p O.ngN ?_ | refine W.p O.ng ?_
      refine W.p O.as ?_
      refine WL.nil (Q.bn (Q.tn ?_))
      first | (refine ⟨([], none, [], 0, 0), ⟨forms_z.2.2.1, ⟨fun _ => rfl⟩, nil_sz, by dsimp only; omega, Nat.zero_le 3⟩, ?_, ?_⟩; (repeat (first | exact trivial | refine ⟨rfl, ?_⟩)); (repeat (first | exact List.Sublist.refl _ | exact List.nil_sublist _ | apply List.Sublist.cons_cons | apply List.Sublist.cons | exact List.sublist_append_left _ _)); done) | (refine ⟨([108, 97, 110], some b2, [dL], 0, 0), ⟨forms_z.2.2.2, ⟨fun e => by cases e⟩, dL_sz, by dsimp only; omega, Nat.le_refl 3⟩, ?_, ?_⟩; (repeat (first | exact trivial | refine ⟨rfl, ?_⟩)); (repeat (first | exact List.Sublist.refl _ | exact List.nil_sublist _ | apply List.Sublist.cons_cons | apply List.Sublist.cons | exact List.sublist_append_left _ _)); done) | (refine ⟨([108, 97, 110], none, [], -(1 + x % 1024), 0), ⟨ask_now (by dsimp only; omega), ⟨fun _ => rfl⟩, nil_sz, by dsimp only; omega, Nat.le_refl 3⟩, ?_, ?_⟩; (repeat (first | exact trivial | refine ⟨rfl, ?_⟩)); (repeat (first | exact List.Sublist.refl _ | exact List.nil_sublist _ | apply List.Sublist.cons_cons | apply List.Sublist.cons | exact List.sublist_append_left _ _)); done) | (refine ⟨([108, 97, 110], none, [], 1099511627776 + (1 + x % 1024), 0), ⟨ask_now (by dsimp only; omega), ⟨fun _ => rfl⟩, nil_sz, by dsimp only; omega, Nat.le_refl 3⟩, ?_, ?_⟩; (repeat (first | exact trivial | refine ⟨rfl, ?_⟩)); (repeat (first | exact List.Sublist.refl _ | exact List.nil_sublist _ | apply List.Sublist.cons_cons | apply List.Sublist.cons | exact List.sublist_append_left _ _)); done) | (refine ⟨([108, 97, 110], none, [], 0, -(1 + x % 1024)), ⟨ask_n (by dsimp only; omega), ⟨fun _ => rfl⟩, nil_sz, by dsimp only; omega, Nat.le_refl 3⟩, ?_, ?_⟩; (repeat (first | exact trivial | refine ⟨rfl, ?_⟩)); (repeat (first | exact List.Sublist.refl _ | exact List.nil_sublist _ | apply List.Sublist.cons_cons | apply List.Sublist.cons | exact List.sublist_append_left _ _)); done) | (refine ⟨([108, 97, 110], none, [], 0, 4294967295 + (1 + x % 1024)), ⟨ask_n (by dsimp only; omega), ⟨fun _ => rfl⟩, nil_sz, by dsimp only; omega, Nat.le_refl 3⟩, ?_, ?_⟩; (repeat (first | exact trivial | refine ⟨rfl, ?_⟩)); (repeat (first | exact List.Sublist.refl _ | exact List.nil_sublist _ | apply List.Sublist.cons_cons | apply List.Sublist.cons | exact List.sublist_append_left _ _)); done)
    try simp only [sk] at hc4
    refine CW.seq ?_
    refine CW.region ?_
    refine W.p O.eqI ?_
    refine W.p O.as ?_
    refine WL.nil (Q.tn ?_)
    refine CW.cond (vt rfl) (fun hc5 => ?_) (fun hc5 => ?_)
    · try simp only [sk] at hc5
      refine CW.region ?_
      refine W.p O.mv ?_
      first | refine W.p O.addN ?_ | refine W.p O.add ?_
      refine W.p O.as ?_
      refine WL.nil (Q.bn (Q.tn ?_))
      first | (refine ⟨([], none, [], 0, 0), ⟨forms_z.2.2.1, ⟨fun _ => rfl⟩, nil_sz, by dsimp only; omega, Nat.zero_le 3⟩, ?_, ?_⟩; (repeat (first | exact trivial | refine ⟨rfl, ?_⟩)); (repeat (first | exact List.Sublist.refl _ | exact List.nil_sublist _ | apply List.Sublist.cons_cons | apply List.Sublist.cons | exact List.sublist_append_left _ _)); done) | (refine ⟨([108, 97, 110], some b2, [dL], 0, 0), ⟨forms_z.2.2.2, ⟨fun e => by cases e⟩, dL_sz, by dsimp only; omega, Nat.le_refl 3⟩, ?_, ?_⟩; (repeat (first | exact trivial | refine ⟨rfl, ?_⟩)); (repeat (first | exact List.Sublist.refl _ | exact List.nil_sublist _ | apply List.Sublist.cons_cons | apply List.Sublist.cons | exact List.sublist_append_left _ _)); done) | (refine ⟨([108, 97, 110], none, [], -(1 + x % 1024), 0), ⟨ask_now (by dsimp only; omega), ⟨fun _ => rfl⟩, nil_sz, by dsimp only; omega, Nat.le_refl 3⟩, ?_, ?_⟩; (repeat (first | exact trivial | refine ⟨rfl, ?_⟩)); (repeat (first | exact List.Sublist.refl _ | exact List.nil_sublist _ | apply List.Sublist.cons_cons | apply List.Sublist.cons | exact List.sublist_append_left _ _)); done) | (refine ⟨([108, 97, 110], none, [], 1099511627776 + (1 + x % 1024), 0), ⟨ask_now (by dsimp only; omega), ⟨fun _ => rfl⟩, nil_sz, by dsimp only; omega, Nat.le_refl 3⟩, ?_, ?_⟩; (repeat (first | exact trivial | refine ⟨rfl, ?_⟩)); (repeat (first | exact List.Sublist.refl _ | exact List.nil_sublist _ | apply List.Sublist.cons_cons | apply List.Sublist.cons | exact List.sublist_append_left _ _)); done) | (refine ⟨([108, 97, 110], none, [], 0, -(1 + x % 1024)), ⟨ask_n (by dsimp only; omega), ⟨fun _ => rfl⟩, nil_sz, by dsimp only; omega, Nat.le_refl 3⟩, ?_, ?_⟩; (repeat (first | exact trivial | refine ⟨rfl, ?_⟩)); (repeat (first | exact List.Sublist.refl _ | exact List.nil_sublist _ | apply List.Sublist.cons_cons | apply List.Sublist.cons | exact List.sublist_append_left _ _)); done) | (refine ⟨([108, 97, 110], none, [], 0, 4294967295 + (1 + x % 1024)), ⟨ask_n (by dsimp only; omega), ⟨fun _ => rfl⟩, nil_sz, by dsimp only; omega, Nat.le_refl 3⟩, ?_, ?_⟩; (repeat (first | exact trivial | refine ⟨rfl, ?_⟩)); (repeat (first | exact List.Sublist.refl _ | exact List.nil_sublist _ | apply List.Sublist.cons_cons | apply List.Sublist.cons | exact List.sublist_append_left _ _)); done)
    try simp only [sk] at hc5
    refine CW.seq ?_
    refine CW.region ?_
    refine W.p O.eqI ?_
    refine W.p O.as ?_
    refine WL.nil (Q.tn ?_)
    refine CW.cond (vt rfl) (fun hc6 => ?_) (fun hc6 => ?_)
    · try simp only [sk] at hc6
      refine CW.region ?_
      refine W.p O.mv ?_
      first | refine W.p O.ngN ?_ | refine W.p O.ng ?_
      refine W.p O.as ?_
      refine WL.nil (Q.bn (Q.tn ?_))
      first | (refine ⟨([], none, [], 0, 0), ⟨forms_z.2.2.1, ⟨fun _ => rfl⟩, nil_sz, by dsimp only; omega, Nat.zero_le 3⟩, ?_, ?_⟩; (repeat (first | exact trivial | refine ⟨rfl, ?_⟩)); (repeat (first | exact List.Sublist.refl _ | exact List.nil_sublist _ | apply List.Sublist.cons_cons | apply List.Sublist.cons | exact List.sublist_append_left _ _)); done) | (refine ⟨([108, 97, 110], some b2, [dL], 0, 0), ⟨forms_z.2.2.2, ⟨fun e => by cases e⟩, dL_sz, by dsimp only; omega, Nat.le_refl 3⟩, ?_, ?_⟩; (repeat (first | exact trivial | refine ⟨rfl, ?_⟩)); (repeat (first | exact List.Sublist.refl _ | exact List.nil_sublist _ | apply List.Sublist.cons_cons | apply List.Sublist.cons | exact List.sublist_append_left _ _)); done) | (refine ⟨([108, 97, 110], none, [], -(1 + x % 1024), 0), ⟨ask_now (by dsimp only; omega), ⟨fun _ => rfl⟩, nil_sz, by dsimp only; omega, Nat.le_refl 3⟩, ?_, ?_⟩; (repeat (first | exact trivial | refine ⟨rfl, ?_⟩)); (repeat (first | exact List.Sublist.refl _ | exact List.nil_sublist _ | apply List.Sublist.cons_cons | apply List.Sublist.cons | exact List.sublist_append_left _ _)); done) | (refine ⟨([108, 97, 110], none, [], 1099511627776 + (1 + x % 1024), 0), ⟨ask_now (by dsimp only; omega), ⟨fun _ => rfl⟩, nil_sz, by dsimp only; omega, Nat.le_refl 3⟩, ?_, ?_⟩; (repeat (first | exact trivial | refine ⟨rfl, ?_⟩)); (repeat (first | exact List.Sublist.refl _ | exact List.nil_sublist _ | apply List.Sublist.cons_cons | apply List.Sublist.cons | exact List.sublist_append_left _ _)); done) | (refine ⟨([108, 97, 110], none, [], 0, -(1 + x % 1024)), ⟨ask_n (by dsimp only; omega), ⟨fun _ => rfl⟩, nil_sz, by dsimp only; omega, Nat.le_refl 3⟩, ?_, ?_⟩; (repeat (first | exact trivial | refine ⟨rfl, ?_⟩)); (repeat (first | exact List.Sublist.refl _ | exact List.nil_sublist _ | apply List.Sublist.cons_cons | apply List.Sublist.cons | exact List.sublist_append_left _ _)); done) | (refine ⟨([108, 97, 110], none, [], 0, 4294967295 + (1 + x % 1024)), ⟨ask_n (by dsimp only; omega), ⟨fun _ => rfl⟩, nil_sz, by dsimp only; omega, Nat.le_refl 3⟩, ?_, ?_⟩; (repeat (first | exact trivial | refine ⟨rfl, ?_⟩)); (repeat (first | exact List.Sublist.refl _ | exact List.nil_sublist _ | apply List.Sublist.cons_cons | apply List.Sublist.cons | exact List.sublist_append_left _ _)); done)
    try simp only [sk] at hc6
    refine CW.region ?_
    refine W.p O.mv ?_
    first | refine W.p O.addN ?_ | refine W.p O.add ?_
    refine W.p O.as ?_
    refine WL.nil (Q.bn (Q.tn ?_))
    first | (refine ⟨([], none, [], 0, 0), ⟨forms_z.2.2.1, ⟨fun _ => rfl⟩, nil_sz, by dsimp only; omega, Nat.zero_le 3⟩, ?_, ?_⟩; (repeat (first | exact trivial | refine ⟨rfl, ?_⟩)); (repeat (first | exact List.Sublist.refl _ | exact List.nil_sublist _ | apply List.Sublist.cons_cons | apply List.Sublist.cons | exact List.sublist_append_left _ _)); done) | (refine ⟨([108, 97, 110], some b2, [dL], 0, 0), ⟨forms_z.2.2.2, ⟨fun e => by cases e⟩, dL_sz, by dsimp only; omega, Nat.le_refl 3⟩, ?_, ?_⟩; (repeat (first | exact trivial | refine ⟨rfl, ?_⟩)); (repeat (first | exact List.Sublist.refl _ | exact List.nil_sublist _ | apply List.Sublist.cons_cons | apply List.Sublist.cons | exact List.sublist_append_left _ _)); done) | (refine ⟨([108, 97, 110], none, [], -(1 + x % 1024), 0), ⟨ask_now (by dsimp only; omega), ⟨fun _ => rfl⟩, nil_sz, by dsimp only; omega, Nat.le_refl 3⟩, ?_, ?_⟩; (repeat (first | exact trivial | refine ⟨rfl, ?_⟩)); (repeat (first | exact List.Sublist.refl _ | exact List.nil_sublist _ | apply List.Sublist.cons_cons | apply List.Sublist.cons | exact List.sublist_append_left _ _)); done) | (refine ⟨([108, 97, 110], none, [], 1099511627776 + (1 + x % 1024), 0), ⟨ask_now (by dsimp only; omega), ⟨fun _ => rfl⟩, nil_sz, by dsimp only; omega, Nat.le_refl 3⟩, ?_, ?_⟩; (repeat (first | exact trivial | refine ⟨rfl, ?_⟩)); (repeat (first | exact List.Sublist.refl _ | exact List.nil_sublist _ | apply List.Sublist.cons_cons | apply List.Sublist.cons | exact List.sublist_append_left _ _)); done) | (refine ⟨([108, 97, 110], none, [], 0, -(1 + x % 1024)), ⟨ask_n (by dsimp only; omega), ⟨fun _ => rfl⟩, nil_sz, by dsimp only; omega, Nat.le_refl 3⟩, ?_, ?_⟩; (repeat (first | exact trivial | refine ⟨rfl, ?_⟩)); (repeat (first | exact List.Sublist.refl _ | exact List.nil_sublist _ | apply List.Sublist.cons_cons | apply List.Sublist.cons | exact List.sublist_append_left _ _)); done) | (refine ⟨([108, 97, 110], none, [], 0, 4294967295 + (1 + x % 1024)), ⟨ask_n (by dsimp only; omega), ⟨fun _ => rfl⟩, nil_sz, by dsimp only; omega, Nat.le_refl 3⟩, ?_, ?_⟩; (repeat (first | exact trivial | refine ⟨rfl, ?_⟩)); (repeat (first | exact List.Sublist.refl _ | exact List.nil_sublist _ | apply List.Sublist.cons_cons | apply List.Sublist.cons | exact List.sublist_append_left _ _)); done)
  · rintro ⟨z, o, ls, now, n⟩ ⟨hno, nko, hls, hn, hz⟩
    try dsimp only at hno hls hn hz ⊢
    have hz0 : zRec { givC with zone := z } ls now n = ([], 2000) := by rw [zRec, if_neg (by rw [hno]; decide)]
    refine CW.seq ?_
    refine CW.region ?_
    refine W.p O.lds ?_
    refine W.p O.mv ?_
    refine W.p O.mv ?_
    refine W.p O.mv ?_
    refine W.callN (first := []) (cap := []) rfl (vt rfl) (AV.cons (vt rfl) (AV.cons (vt rfl) (AV.cons (vt rfl) (AV.cons (vt rfl) (AV.nil))))) (fun w hu => zn_Records { givC with zone := z } (oa (some g1), 1) (oa (some g2), 1) (oa (some g3), 1) ls (oa o) ls.length now n w (CfIn.mk (RowL.h (enc := encI) (xs := givC.excl) (a := oa (some g1)) _ hu) (RowL.h (enc := encRs) (xs := givC.resv) (a := oa (some g2)) _ hu) (RowL.h (enc := encR) (xs := givC.stat) (a := oa (some g3)) _ hu)) (givZ_sz hz) (RowL.h (enc := encL) (xs := ls) (a := oa o) _ hu) hls hn (ht.upd hu)) ?_; rintro _ _ ⟨o31, c31, p31, rfl, ok31, rfl⟩; rw [hz0] at *
    refine W.p O.mv ?_
    first | refine W.p O.extL ?_ | refine W.p O.ext ?_
    first | refine W.p O.extL ?_ | refine W.p O.ext ?_
    refine W.p O.as ?_
    refine W.p O.as ?_
    refine WL.nil (Q.tn ?_)
    refine CW.seq ?_
    refine CW.region ?_
    refine W.callN (first := []) (cap := []) rfl (vt rfl) (AV.nil) (fun w hu => law20_given w) ?_; rintro _ _ ⟨g1, g2, g3, rfl, rfl⟩
    refine W.p (O.bd (hv := PV.nil)) ?_
    refine W.bs encL [⟨_, _, _, _, _, _⟩] rfl (PV.cons (vt rfl) (PV.nil)) rfl rfl rfl (by decide) rfl fun b3 => ?_
    refine W.q (O.call ⟨rfl, rfl⟩ (AV.cons (vt rfl) (AV.cons (vt rfl) (AV.cons (vt rfl) (AV.cons (vt rfl) (AV.cons (vt rfl) (AV.nil)))))) (fun _ w hw => zn_Changed givC (oa (some g1), 1) (oa (some g2), 1) (oa (some g3), 1) [dL] [] _ none 1 0 0 0 w (CfIn.mk (RowL.h (enc := encI) (xs := givC.excl) (a := oa (some g1)) _ hw) (RowL.h (enc := encRs) (xs := givC.resv) (a := oa (some g2)) _ hw) (RowL.h (enc := encR) (xs := givC.stat) (a := oa (some g3)) _ hw)) giv_sz (RowL.h (enc := encL) (xs := [dL]) _ hw) dL_sz In.nil nil_sz (ht.upd hw))) ?_
    refine W.p O.mv ?_
    first | refine W.p O.extL ?_ | refine W.p O.ext ?_
    first | refine W.p O.extL ?_ | refine W.p O.ext ?_
    refine W.p O.as ?_
    refine W.p O.as ?_
    refine WL.nil (Q.tn ?_)
    refine CW.seq ?_
    refine CW.region ?_
    refine W.callN (first := []) (cap := []) rfl (vt rfl) (AV.nil) (fun w hu => law20_given w) ?_; rintro _ _ ⟨g1, g2, g3, rfl, rfl⟩
    refine W.p O.mv ?_
    first | refine W.p O.ngN ?_ | refine W.p O.ng ?_
    refine W.q (O.call ⟨rfl, rfl⟩ (AV.cons (vt rfl) (AV.cons (vt rfl) (AV.cons (vt rfl) (AV.cons (vt rfl) (AV.cons (vt rfl) (AV.nil)))))) (fun _ w hw => zn_Changed givC (oa (some g1), 1) (oa (some g2), 1) (oa (some g3), 1) [] [] none none 0 0 0 (-(1 + x % 1024)) w (CfIn.mk (RowL.h (enc := encI) (xs := givC.excl) (a := oa (some g1)) _ hw) (RowL.h (enc := encRs) (xs := givC.resv) (a := oa (some g2)) _ hw) (RowL.h (enc := encR) (xs := givC.stat) (a := oa (some g3)) _ hw)) giv_sz In.nil nil_sz In.nil nil_sz (ht.upd hw))) ?_
    refine W.p O.mv ?_
    first | refine W.p O.extL ?_ | refine W.p O.ext ?_
    first | refine W.p O.extL ?_ | refine W.p O.ext ?_
    refine W.p O.as ?_
    refine W.p O.as ?_
    refine WL.nil (Q.tn ?_)
    refine CW.seq ?_
    refine CW.region ?_
    refine W.callN (first := []) (cap := []) rfl (vt rfl) (AV.nil) (fun w hu => law20_given w) ?_; rintro _ _ ⟨g1, g2, g3, rfl, rfl⟩
    refine W.q (O.call ⟨rfl, rfl⟩ (AV.cons (vt rfl) (AV.cons (vt rfl) (AV.cons (vt rfl) (AV.cons (vt rfl) (AV.cons (vt rfl) (AV.nil)))))) (fun _ w hw => zn_Changed givC (oa (some g1), 1) (oa (some g2), 1) (oa (some g3), 1) [] [] none none 0 0 0 1 w (CfIn.mk (RowL.h (enc := encI) (xs := givC.excl) (a := oa (some g1)) _ hw) (RowL.h (enc := encRs) (xs := givC.resv) (a := oa (some g2)) _ hw) (RowL.h (enc := encR) (xs := givC.stat) (a := oa (some g3)) _ hw)) giv_sz In.nil nil_sz In.nil nil_sz (ht.upd hw))) ?_
    refine W.p O.mv ?_
    first | refine W.p O.extL ?_ | refine W.p O.ext ?_
    first | refine W.p O.extL ?_ | refine W.p O.ext ?_
    refine W.p O.as ?_
    refine W.p O.as ?_
    refine WL.nil (Q.tn ?_)
    refine CW.seq ?_
    refine CW.region ?_
    refine W.p O.mv ?_
    refine W.p O.lenL ?_
    refine W.p O.eqI ?_
    refine W.p O.mv ?_
    refine W.p O.mv ?_
    refine W.q (O.call ⟨rfl, rfl⟩ (AV.cons (vs rfl) (AV.nil)) (fun _ w hw => law0_Num _ w)) ?_
    refine W.p O.eqI ?_
    refine W.p O.pkB ?_
    refine W.p O.mv ?_
    refine W.p O.mv ?_
    refine W.q (O.call ⟨rfl, rfl⟩ (AV.cons (vs rfl) (AV.nil)) (fun _ w hw => law0_Num _ w)) ?_
    refine W.p O.eqI ?_
    refine W.p O.pkB ?_
    refine W.p O.mv ?_
    refine W.p O.mv ?_
    refine W.q (O.call ⟨rfl, rfl⟩ (AV.cons (vs rfl) (AV.nil)) (fun _ w hw => law0_Num _ w)) ?_
    refine W.p O.eqI ?_
    refine W.p O.pkB ?_
    refine W.p O.mv ?_
    refine W.p O.mv ?_
    refine W.p O.nt ?_
    refine W.p O.pkB ?_
    refine W.p O.mv ?_
    refine W.p O.mv ?_
    refine W.q (O.call ⟨rfl, rfl⟩ (AV.cons (vs rfl) (AV.nil)) (fun _ w hw => law0_Num _ w)) ?_
    refine W.p O.eqI ?_
    refine W.p O.pkB ?_
    refine W.p O.as ?_
    refine WL.nil (Q.tn ?_)
    refine CW.ret ?_
    refine ⟨_, [], (RVs.tmp rfl RVs.nil), List.nil_sublist _, ?_⟩
    refine ⟨congrArg Value.bool ?_, rfl⟩
    rw [forms_z.1, forms_z.2.1, chg_now (by omega)]; simp
/-! the statement ZoneChanges -/
def SameAt (t : Int) (a b : List Lz) : Prop := zAsk givC a t 0 = zAsk givC b 0 0 ∧ zRecs givC a t 0 = zRecs givC b 0 0
theorem chg_same {t : Int} {a a' b b' : List Lz} (h : SameAt t a a') (h' : SameAt t b b') : zChg givC a b t t = zChg givC a' b' 0 0 := by
  rw [zChg, zChg, h.1, h.2, h'.1, h'.2]
theorem same_time {t : Int} (h0 : 0 ≤ t) (h1 : t ≤ 63) {a : Lz} (h : 63 < a.til) : SameAt t [a] [a] := by
  have e1 : inZ t 0 1099511627776 = true := by simp only [inZ, Bool.and_eq_true, decide_eq_true_eq]; omega
  have e2 : inZ 0 0 1099511627776 = true := by decide
  refine ⟨by rw [zAsk, zAsk, e1, e2], recs_time fun l hl => told_time ?_⟩
  simp only [List.mem_singleton] at hl; subst hl
  exact decide_eq_decide.2 (by omega)
theorem same_seven {t : Int} (h0 : 0 ≤ t) (h1 : t ≤ 63) : SameAt t [{ mpX with til := t }] [{ mpX with til := 0 }] := by
  have e1 : inZ t 0 1099511627776 = true := by simp only [inZ, Bool.and_eq_true, decide_eq_true_eq]; omega
  have e2 : inZ 0 0 1099511627776 = true := by decide
  have e3 : lzMay { mpX with til := t } = lzMay { mpX with til := 0 } := by
    have s1 : lzSt { mpX with til := t } = lzSt { mpX with til := 0 } := rfl
    rw [lzMay, lzMay, s1]; dsimp only; rw [e1, e2]
  refine ⟨?_, ?_⟩
  · rw [zAsk, zAsk, e1, e2, tbMay, tbMay]
    simp only [List.all_cons, List.all_nil, asc, List.length_singleton, e3]
  · have f1 : toldZ givC t { mpX with til := t } = false := by simp [toldZ, live]
    have f2 : toldZ givC 0 { mpX with til := 0 } = false := by simp [toldZ, live]
    rw [zRecs, zRecs, List.filter_cons_of_neg (by rw [f1]; decide), List.filter_cons_of_neg (by rw [f2]; decide)]; rfl
structure ChgOk (t : Int) (y : Lz) (want : Bool) : Prop where
  h1 : zChg givC [mpX] [y] t t = (want, 0)
  h2 : zChg givC [y] [mpX] t t = (want, 0)
  h3 : zChg givC [y] [y] t t = (false, 0)
  hz : LsSz [y]
theorem good_of {t : Int} {y y' : Lz} {want : Bool} (h0 : 0 ≤ t) (h1 : t ≤ 63) (h : SameAt t [y] [y']) (hn : y.name.length ≤ 10 ∧ y.client.length ≤ 10) (hd : zChg givC [mpX] [y'] 0 0 = (want, 0) ∧ zChg givC [y'] [mpX] 0 0 = (want, 0) ∧ zChg givC [y'] [y'] 0 0 = (false, 0)) : ChgOk t y want := by
  have hx := same_time h0 h1 (a := mpX) (by decide)
  refine ⟨by rw [chg_same hx h]; exact hd.1, by rw [chg_same h hx]; exact hd.2.1, by rw [chg_same h h]; exact hd.2.2, ⟨by simp, fun l hl => ?_, fun l hl => ?_⟩⟩
  all_goals simp only [List.mem_singleton] at hl; subst hl; omega
theorem mpX_sz : LsSz [mpX] := ⟨by decide, by decide, by decide⟩
theorem good_0 {t : Int} (h0 : 0 ≤ t) (h1 : t ≤ 63) : ChgOk t { mpX with til := 2000 } false := good_of h0 h1 (same_time h0 h1 (by decide)) (by decide) (by decide +kernel)
theorem good_1 {t : Int} (h0 : 0 ≤ t) (h1 : t ≤ 63) : ChgOk t { mpX with host := 11 } true := good_of h0 h1 (same_time h0 h1 (by decide)) (by decide) (by decide +kernel)
theorem good_2 {t : Int} (h0 : 0 ≤ t) (h1 : t ≤ 63) : ChgOk t { mpX with client := [111, 116, 104, 101, 114] } true := good_of h0 h1 (same_time h0 h1 (by decide)) (by decide) (by decide +kernel)
theorem good_3 {t : Int} (h0 : 0 ≤ t) (h1 : t ≤ 63) : ChgOk t { mpX with name := [116, 118] } true := good_of h0 h1 (same_time h0 h1 (by decide)) (by decide) (by decide +kernel)
theorem good_4 {t : Int} (h0 : 0 ≤ t) (h1 : t ≤ 63) : ChgOk t { mpX with name := [112, 99, 46, 108, 97, 110] } false := good_of h0 h1 (same_time h0 h1 (by decide)) (by decide) (by decide +kernel)
theorem good_5 {t : Int} (h0 : 0 ≤ t) (h1 : t ≤ 63) : ChgOk t { mpX with won := false } true := good_of h0 h1 (same_time h0 h1 (by decide)) (by decide) (by decide +kernel)
theorem good_6 {t : Int} (h0 : 0 ≤ t) (h1 : t ≤ 63) : ChgOk t (⟨10, 0, [109, 101], 1000, [], false⟩ : Lz) true := good_of h0 h1 (same_time h0 h1 (by decide)) (by decide) (by decide +kernel)
theorem good_7 {t : Int} (h0 : 0 ≤ t) (h1 : t ≤ 63) : ChgOk t { mpX with til := t } true := good_of h0 h1 (same_seven h0 h1) ⟨by simp [mpX], by simp [mpX]⟩ (by decide +kernel)
set_option maxRecDepth 100000 in
theorem law20_ZoneChanges (which now : Int) (w : World) (ht : Tab10 w) : Fn Tryd.prog 6 [.int .i64 which, .int .i64 now] w [] fun v L' => v = .bool true ∧ L' = [] := by
  have hx : 0 ≤ (now % 64) ∧ (now % 64) ≤ 63 := by omega
  refine Fn.enter Tryd.func6 rfl rfl rfl rfl (Holds.nil w) ?_
  refine CW.seq ?_
  refine CW.region ?_
  refine W.p O.as ?_
  refine WL.nil (Q.tn ?_)
  refine CW.seq ?_
  refine CW.seq ?_
  refine CW.region ?_
  refine W.q (O.call ⟨rfl, rfl⟩ (AV.nil) (fun _ w hw => law20_awake w (ht.upd hw))) ?_
  refine W.p O.nt ?_
  refine WL.nil (Q.tn ?_)
  refine CW.cond (vt rfl) (fun hc1 => ?_) (fun hc1 => ?_)
  · exfalso; simp at hc1
  try simp only [sk] at hc1
  refine CW.skip (Q.tn ?_)
  refine CW.seq ?_
  refine CW.region ?_
  refine W.p O.mv ?_
  refine W.p (O.andM 6 64 (h := by decide) (hq := by decide) (hM := by decide)) ?_
  refine W.p O.as ?_
  refine WL.nil (Q.tn ?_)
  refine CW.seq ?_
  refine CW.region ?_
  refine W.p (O.bd (hv := PV.cons (vt rfl) (PV.cons (vt rfl) (PV.cons (vt rfl) (PV.cons (vt rfl) (PV.cons (vt rfl) (PV.cons (vt rfl) (PV.nil)))))))) ?_
  refine W.al rfl rfl fun b1 => ?_
  refine W.st (vt rfl) (vt rfl) rfl ?_
  refine WL.nil (Q.tn ?_)
  refine CW.seq ?_
  refine CW.region ?_
  refine W.p O.lds ?_
  refine W.al rfl rfl fun b2 => ?_
  refine W.st (vt rfl) (vt rfl) rfl ?_
  refine WL.nil (Q.tn ?_)
  refine CW.seq ?_
  refine CW.region ?_
  refine W.p O.as ?_
  refine WL.nil (Q.tn ?_)
  refine CW.join (X := Lz × Bool) (fun q => [(5, true, .int .i64 (now % 64)), (6, true, .pointer (some ⟨b1, 0, none⟩)), (7, true, .pointer (some ⟨b2, 0, none⟩)), (8, true, .bool q.2)]) (fun q => [(b2, .cells (encL q.1).toArray 48 (0, 0)), (b1, .cells (encL mpX).toArray 48 (0, 0))]) (fun q => ChgOk (now % 64) q.1 q.2) ?_ ?_
  · refine CW.seq ?_
    refine CW.region ?_
    refine W.p O.mv ?_
    refine W.p O.cvUn ?_
    refine W.p O.rem ?_
    refine WL.nil (Q.tn ?_)
    refine CW.block ?_
    refine CW.seq ?_
    refine CW.region ?_
    refine W.p O.eqI ?_
    refine W.p O.as ?_
    refine WL.nil (Q.tn ?_)
    refine CW.cond (vt rfl) (fun hc2 => ?_) (fun hc2 => ?_)
    · try simp only [sk] at hc2
      refine CW.region ?_
      first | refine W.p O.fb ?_ | refine W.p O.fa ?_
      first | refine W.st (vt rfl) (vt rfl) rfl ?_ | refine W.st (u := .int _ _) (vt rfl) (vt rfl) rfl ?_
      refine WL.nil (Q.bn (Q.tn ?_))
      first | (refine ⟨({ mpX with til := 2000 }, false), good_0 (by omega) (by omega), ?_, ?_⟩; (repeat (first | exact trivial | refine ⟨rfl, ?_⟩)); (repeat (first | exact List.Sublist.refl _ | exact List.nil_sublist _ | apply List.Sublist.cons_cons | apply List.Sublist.cons | exact List.sublist_append_left _ _)); done) | (refine ⟨({ mpX with host := 11 }, true), good_1 (by omega) (by omega), ?_, ?_⟩; (repeat (first | exact trivial | refine ⟨rfl, ?_⟩)); (repeat (first | exact List.Sublist.refl _ | exact List.nil_sublist _ | apply List.Sublist.cons_cons | apply List.Sublist.cons | exact List.sublist_append_left _ _)); done) | (refine ⟨({ mpX with client := [111, 116, 104, 101, 114] }, true), good_2 (by omega) (by omega), ?_, ?_⟩; (repeat (first | exact trivial | refine ⟨rfl, ?_⟩)); (repeat (first | exact List.Sublist.refl _ | exact List.nil_sublist _ | apply List.Sublist.cons_cons | apply List.Sublist.cons | exact List.sublist_append_left _ _)); done) | (refine ⟨({ mpX with name := [116, 118] }, true), good_3 (by omega) (by omega), ?_, ?_⟩; (repeat (first | exact trivial | refine ⟨rfl, ?_⟩)); (repeat (first | exact List.Sublist.refl _ | exact List.nil_sublist _ | apply List.Sublist.cons_cons | apply List.Sublist.cons | exact List.sublist_append_left _ _)); done) | (refine ⟨({ mpX with name := [112, 99, 46, 108, 97, 110] }, false), good_4 (by omega) (by omega), ?_, ?_⟩; (repeat (first | exact trivial | refine ⟨rfl, ?_⟩)); (repeat (first | exact List.Sublist.refl _ | exact List.nil_sublist _ | apply List.Sublist.cons_cons | apply List.Sublist.cons | exact List.sublist_append_left _ _)); done) | (refine ⟨({ mpX with won := false }, true), good_5 (by omega) (by omega), ?_, ?_⟩; (repeat (first | exact trivial | refine ⟨rfl, ?_⟩)); (repeat (first | exact List.Sublist.refl _ | exact List.nil_sublist _ | apply List.Sublist.cons_cons | apply List.Sublist.cons | exact List.sublist_append_left _ _)); done) | (refine ⟨((⟨10, 0, [109, 101], 1000, [], false⟩ : Lz), true), good_6 (by omega) (by omega), ?_, ?_⟩; (repeat (first | exact trivial | refine ⟨rfl, ?_⟩)); (repeat (first | exact List.Sublist.refl _ | exact List.nil_sublist _ | apply List.Sublist.cons_cons | apply List.Sublist.cons | exact List.sublist_append_left _ _)); done) | (refine ⟨({ mpX with til := (now % 64) }, true), good_7 (by omega) (by omega), ?_, ?_⟩; (repeat (first | exact trivial | refine ⟨rfl, ?_⟩)); (repeat (first | exact List.Sublist.refl _ | exact List.nil_sublist _ | apply List.Sublist.cons_cons | apply List.Sublist.cons | exact List.sublist_append_left _ _)); done)
    try simp only [sk] at hc2
    refine CW.seq ?_
    refine CW.region ?_
    refine W.p O.eqI ?_
    refine W.p O.as ?_
    refine WL.nil (Q.tn ?_)
    refine CW.cond (vt rfl) (fun hc3 => ?_) (fun hc3 => ?_)
    · try simp only [sk] at hc3
      refine CW.seq ?_
      refine CW.region ?_
      first | refine W.p O.fb ?_ | refine W.p O.fa ?_
      first | refine W.st (vt rfl) (vt rfl) rfl ?_ | refine W.st (u := .int _ _) (vt rfl) (vt rfl) rfl ?_
      refine WL.nil (Q.tn ?_)
      refine CW.region ?_
      refine W.p O.as ?_
      refine WL.nil (Q.bn (Q.tn ?_))
      first | (refine ⟨({ mpX with til := 2000 }, false), good_0 (by omega) (by omega), ?_, ?_⟩; (repeat (first | exact trivial | refine ⟨rfl, ?_⟩)); (repeat (first | exact List.Sublist.refl _ | exact List.nil_sublist _ | apply List.Sublist.cons_cons | apply List.Sublist.cons | exact List.sublist_append_left _ _)); done) | (refine ⟨({ mpX with host := 11 }, true), good_1 (by omega) (by omega), ?_, ?_⟩; (repeat (first | exact trivial | refine ⟨rfl, ?_⟩)); (repeat (first | exact List.Sublist.refl _ | exact List.nil_sublist _ | apply List.Sublist.cons_cons | apply List.Sublist.cons | exact List.sublist_append_left _ _)); done) | (refine ⟨({ mpX with client := [111, 116, 104, 101, 114] }, true), good_2 (by omega) (by omega), ?_, ?_⟩; (repeat (first | exact trivial | refine ⟨rfl, ?_⟩)); (repeat (first | exact List.Sublist.refl _ | exact List.nil_sublist _ | apply List.Sublist.cons_cons | apply List.Sublist.cons | exact List.sublist_append_left _ _)); done) | (refine ⟨({ mpX with name := [116, 118] }, true), good_3 (by omega) (by omega), ?_, ?_⟩; (repeat (first | exact trivial | refine ⟨rfl, ?_⟩)); (repeat (first | exact List.Sublist.refl _ | exact List.nil_sublist _ | apply List.Sublist.cons_cons | apply List.Sublist.cons | exact List.sublist_append_left _ _)); done) | (refine ⟨({ mpX with name := [112, 99, 46, 108, 97, 110] }, false), good_4 (by omega) (by omega), ?_, ?_⟩; (repeat (first | exact trivial | refine ⟨rfl, ?_⟩)); (repeat (first | exact List.Sublist.refl _ | exact List.nil_sublist _ | apply List.Sublist.cons_cons | apply List.Sublist.cons | exact List.sublist_append_left _ _)); done) | (refine ⟨({ mpX with won := false }, true), good_5 (by omega) (by omega), ?_, ?_⟩; (repeat (first | exact trivial | refine ⟨rfl, ?_⟩)); (repeat (first | exact List.Sublist.refl _ | exact List.nil_sublist _ | apply List.Sublist.cons_cons | apply List.Sublist.cons | exact List.sublist_append_left _ _)); done) | (refine ⟨((⟨10, 0, [109, 101], 1000, [], false⟩ : Lz), true), good_6 (by omega) (by omega), ?_, ?_⟩; (repeat (first | exact trivial | refine ⟨rfl, ?_⟩)); (repeat (first | exact List.Sublist.refl _ | exact List.nil_sublist _ | apply List.Sublist.cons_cons | apply List.Sublist.cons | exact List.sublist_append_left _ _)); done) | (refine ⟨({ mpX with til := (now % 64) }, true), good_7 (by omega) (by omega), ?_, ?_⟩; (repeat (first | exact trivial | refine ⟨rfl, ?_⟩)); (repeat (first | exact List.Sublist.refl _ | exact List.nil_sublist _ | apply List.Sublist.cons_cons | apply List.Sublist.cons | exact List.sublist_append_left _ _)); done)
    try simp only [sk] at hc3
    refine CW.seq ?_
    refine CW.region ?_
    refine W.p O.eqI ?_
    refine W.p O.as ?_
    refine WL.nil (Q.tn ?_)
    refine CW.cond (vt rfl) (fun hc4 => ?_) (fun hc4 => ?_)
    · try simp only [sk] at hc4
      refine CW.seq ?_
      refine CW.region ?_
      first | refine W.p O.fb ?_ | refine W.p O.fa ?_
      first | refine W.st (vt rfl) (vt rfl) rfl ?_ | refine W.st (u := .string _) (vt rfl) (vt rfl) rfl ?_
      refine WL.nil (Q.tn ?_)
      refine CW.region ?_
      refine W.p O.as ?_
      refine WL.nil (Q.bn (Q.tn ?_))
      first | (refine ⟨({ mpX with til := 2000 }, false), good_0 (by omega) (by omega), ?_, ?_⟩; (repeat (first | exact trivial | refine ⟨rfl, ?_⟩)); (repeat (first | exact List.Sublist.refl _ | exact List.nil_sublist _ | apply List.Sublist.cons_cons | apply List.Sublist.cons | exact List.sublist_append_left _ _)); done) | (refine ⟨({ mpX with host := 11 }, true), good_1 (by omega) (by omega), ?_, ?_⟩; (repeat (first | exact trivial | refine ⟨rfl, ?_⟩)); (repeat (first | exact List.Sublist.refl _ | exact List.nil_sublist _ | apply List.Sublist.cons_cons | apply List.Sublist.cons | exact List.sublist_append_left _ _)); done) | (refine ⟨({ mpX with client := [111, 116, 104, 101, 114] }, true), good_2 (by omega) (by omega), ?_, ?_⟩; (repeat (first | exact trivial | refine ⟨rfl, ?_⟩)); (repeat (first | exact List.Sublist.refl _ | exact List.nil_sublist _ | apply List.Sublist.cons_cons | apply List.Sublist.cons | exact List.sublist_append_left _ _)); done) | (refine ⟨({ mpX with name := [116, 118] }, true), good_3 (by omega) (by omega), ?_, ?_⟩; (repeat (first | exact trivial | refine ⟨rfl, ?_⟩)); (repeat (first | exact List.Sublist.refl _ | exact List.nil_sublist _ | apply List.Sublist.cons_cons | apply List.Sublist.cons | exact List.sublist_append_left _ _)); done) | (refine ⟨({ mpX with name := [112, 99, 46, 108, 97, 110] }, false), good_4 (by omega) (by omega), ?_, ?_⟩; (repeat (first | exact trivial | refine ⟨rfl, ?_⟩)); (repeat (first | exact List.Sublist.refl _ | exact List.nil_sublist _ | apply List.Sublist.cons_cons | apply List.Sublist.cons | exact List.sublist_append_left _ _)); done) | (refine ⟨({ mpX with won := false }, true), good_5 (by omega) (by omega), ?_, ?_⟩; (repeat (first | exact trivial | refine ⟨rfl, ?_⟩)); (repeat (first | exact List.Sublist.refl _ | exact List.nil_sublist _ | apply List.Sublist.cons_cons | apply List.Sublist.cons | exact List.sublist_append_left _ _)); done) | (refine ⟨((⟨10, 0, [109, 101], 1000, [], false⟩ : Lz), true), good_6 (by omega) (by omega), ?_, ?_⟩; (repeat (first | exact trivial | refine ⟨rfl, ?_⟩)); (repeat (first | exact List.Sublist.refl _ | exact List.nil_sublist _ | apply List.Sublist.cons_cons | apply List.Sublist.cons | exact List.sublist_append_left _ _)); done) | (refine ⟨({ mpX with til := (now % 64) }, true), good_7 (by omega) (by omega), ?_, ?_⟩; (repeat (first | exact trivial | refine ⟨rfl, ?_⟩)); (repeat (first | exact List.Sublist.refl _ | exact List.nil_sublist _ | apply List.Sublist.cons_cons | apply List.Sublist.cons | exact List.sublist_append_left _ _)); done)
    try simp only [sk] at hc4
    refine CW.seq ?_
    refine CW.region ?_
    refine W.p O.eqI ?_
    refine W.p O.as ?_
    refine WL.nil (Q.tn ?_)
    refine CW.cond (vt rfl) (fun hc5 => ?_) (fun hc5 => ?_)
    · try simp only [sk] at hc5
      refine CW.seq ?_
      refine CW.region ?_
      first | refine W.p O.fb ?_ | refine W.p O.fa ?_
      first | refine W.st (vt rfl) (vt rfl) rfl ?_ | refine W.st (u := .string _) (vt rfl) (vt rfl) rfl ?_
      refine WL.nil (Q.tn ?_)
      refine CW.region ?_
      refine W.p O.as ?_
      refine WL.nil (Q.bn (Q.tn ?_))
      first | (refine ⟨({ mpX with til := 2000 }, false), good_0 (by omega) (by omega), ?_, ?_⟩; (repeat (first | exact trivial | refine ⟨rfl, ?_⟩)); (repeat (first | exact List.Sublist.refl _ | exact List.nil_sublist _ | apply List.Sublist.cons_cons | apply List.Sublist.cons | exact List.sublist_append_left _ _)); done) | (refine ⟨({ mpX with host := 11 }, true), good_1 (by omega) (by omega), ?_, ?_⟩; (repeat (first | exact trivial | refine ⟨rfl, ?_⟩)); (repeat (first | exact List.Sublist.refl _ | exact List.nil_sublist _ | apply List.Sublist.cons_cons | apply List.Sublist.cons | exact List.sublist_append_left _ _)); done) | (refine ⟨({ mpX with client := [111, 116, 104, 101, 114] }, true), good_2 (by omega) (by omega), ?_, ?_⟩; (repeat (first | exact trivial | refine ⟨rfl, ?_⟩)); (repeat (first | exact List.Sublist.refl _ | exact List.nil_sublist _ | apply List.Sublist.cons_cons | apply List.Sublist.cons | exact List.sublist_append_left _ _)); done) | (refine ⟨({ mpX with name := [116, 118] }, true), good_3 (by omega) (by omega), ?_, ?_⟩; (repeat (first | exact trivial | refine ⟨rfl, ?_⟩)); (repeat (first | exact List.Sublist.refl _ | exact List.nil_sublist _ | apply List.Sublist.cons_cons | apply List.Sublist.cons | exact List.sublist_append_left _ _)); done) | (refine ⟨({ mpX with name := [112, 99, 46, 108, 97, 110] }, false), good_4 (by omega) (by omega), ?_, ?_⟩; (repeat (first | exact trivial | refine ⟨rfl, ?_⟩)); (repeat (first | exact List.Sublist.refl _ | exact List.nil_sublist _ | apply List.Sublist.cons_cons | apply List.Sublist.cons | exact List.sublist_append_left _ _)); done) | (refine ⟨({ mpX with won := false }, true), good_5 (by omega) (by omega), ?_, ?_⟩; (repeat (first | exact trivial | refine ⟨rfl, ?_⟩)); (repeat (first | exact List.Sublist.refl _ | exact List.nil_sublist _ | apply List.Sublist.cons_cons | apply List.Sublist.cons | exact List.sublist_append_left _ _)); done) | (refine ⟨((⟨10, 0, [109, 101], 1000, [], false⟩ : Lz), true), good_6 (by omega) (by omega), ?_, ?_⟩; (repeat (first | exact trivial | refine ⟨rfl, ?_⟩)); (repeat (first | exact List.Sublist.refl _ | exact List.nil_sublist _ | apply List.Sublist.cons_cons | apply List.Sublist.cons | exact List.sublist_append_left _ _)); done) | (refine ⟨({ mpX with til := (now % 64) }, true), good_7 (by omega) (by omega), ?_, ?_⟩; (repeat (first | exact trivial | refine ⟨rfl, ?_⟩)); (repeat (first | exact List.Sublist.refl _ | exact List.nil_sublist _ | apply List.Sublist.cons_cons | apply List.Sublist.cons | exact List.sublist_append_left _ _)); done)
    try simp only [sk] at hc5
    refine CW.seq ?_
    refine CW.region ?_
    refine W.p O.eqI ?_
    refine W.p O.as ?_
    refine WL.nil (Q.tn ?_)
    refine CW.cond (vt rfl) (fun hc6 => ?_) (fun hc6 => ?_)
    · try simp only [sk] at hc6
      refine CW.region ?_
      first | refine W.p O.fb ?_ | refine W.p O.fa ?_
      first | refine W.st (vt rfl) (vt rfl) rfl ?_ | refine W.st (u := .string _) (vt rfl) (vt rfl) rfl ?_
      refine WL.nil (Q.bn (Q.tn ?_))
      first | (refine ⟨({ mpX with til := 2000 }, false), good_0 (by omega) (by omega), ?_, ?_⟩; (repeat (first | exact trivial | refine ⟨rfl, ?_⟩)); (repeat (first | exact List.Sublist.refl _ | exact List.nil_sublist _ | apply List.Sublist.cons_cons | apply List.Sublist.cons | exact List.sublist_append_left _ _)); done) | (refine ⟨({ mpX with host := 11 }, true), good_1 (by omega) (by omega), ?_, ?_⟩; (repeat (first | exact trivial | refine ⟨rfl, ?_⟩)); (repeat (first | exact List.Sublist.refl _ | exact List.nil_sublist _ | apply List.Sublist.cons_cons | apply List.Sublist.cons | exact List.sublist_append_left _ _)); done) | (refine ⟨({ mpX with client := [111, 116, 104, 101, 114] }, true), good_2 (by omega) (by omega), ?_, ?_⟩; (repeat (first | exact trivial | refine ⟨rfl, ?_⟩)); (repeat (first | exact List.Sublist.refl _ | exact List.nil_sublist _ | apply List.Sublist.cons_cons | apply List.Sublist.cons | exact List.sublist_append_left _ _)); done) | (refine ⟨({ mpX with name := [116, 118] }, true), good_3 (by omega) (by omega), ?_, ?_⟩; (repeat (first | exact trivial | refine ⟨rfl, ?_⟩)); (repeat (first | exact List.Sublist.refl _ | exact List.nil_sublist _ | apply List.Sublist.cons_cons | apply List.Sublist.cons | exact List.sublist_append_left _ _)); done) | (refine ⟨({ mpX with name := [112, 99, 46, 108, 97, 110] }, false), good_4 (by omega) (by omega), ?_, ?_⟩; (repeat (first | exact trivial | refine ⟨rfl, ?_⟩)); (repeat (first | exact List.Sublist.refl _ | exact List.nil_sublist _ | apply List.Sublist.cons_cons | apply List.Sublist.cons | exact List.sublist_append_left _ _)); done) | (refine ⟨({ mpX with won := false }, true), good_5 (by omega) (by omega), ?_, ?_⟩; (repeat (first | exact trivial | refine ⟨rfl, ?_⟩)); (repeat (first | exact List.Sublist.refl _ | exact List.nil_sublist _ | apply List.Sublist.cons_cons | apply List.Sublist.cons | exact List.sublist_append_left _ _)); done) | (refine ⟨((⟨10, 0, [109, 101], 1000, [], false⟩ : Lz), true), good_6 (by omega) (by omega), ?_, ?_⟩; (repeat (first | exact trivial | refine ⟨rfl, ?_⟩)); (repeat (first | exact List.Sublist.refl _ | exact List.nil_sublist _ | apply List.Sublist.cons_cons | apply List.Sublist.cons | exact List.sublist_append_left _ _)); done) | (refine ⟨({ mpX with til := (now % 64) }, true), good_7 (by omega) (by omega), ?_, ?_⟩; (repeat (first | exact trivial | refine ⟨rfl, ?_⟩)); (repeat (first | exact List.Sublist.refl _ | exact List.nil_sublist _ | apply List.Sublist.cons_cons | apply List.Sublist.cons | exact List.sublist_append_left _ _)); done)
    try simp only [sk] at hc6
    refine CW.seq ?_
    refine CW.region ?_
    refine W.p O.eqI ?_
    refine W.p O.as ?_
    refine WL.nil (Q.tn ?_)
    refine CW.cond (vt rfl) (fun hc7 => ?_) (fun hc7 => ?_)
    · try simp only [sk] at hc7
      refine CW.seq ?_
      refine CW.region ?_
      first | refine W.p O.fb ?_ | refine W.p O.fa ?_
      refine W.st (vt rfl) (vt rfl) rfl ?_
      refine WL.nil (Q.tn ?_)
      refine CW.region ?_
      refine W.p O.as ?_
      refine WL.nil (Q.bn (Q.tn ?_))
      first | (refine ⟨({ mpX with til := 2000 }, false), good_0 (by omega) (by omega), ?_, ?_⟩; (repeat (first | exact trivial | refine ⟨rfl, ?_⟩)); (repeat (first | exact List.Sublist.refl _ | exact List.nil_sublist _ | apply List.Sublist.cons_cons | apply List.Sublist.cons | exact List.sublist_append_left _ _)); done) | (refine ⟨({ mpX with host := 11 }, true), good_1 (by omega) (by omega), ?_, ?_⟩; (repeat (first | exact trivial | refine ⟨rfl, ?_⟩)); (repeat (first | exact List.Sublist.refl _ | exact List.nil_sublist _ | apply List.Sublist.cons_cons | apply List.Sublist.cons | exact List.sublist_append_left _ _)); done) | (refine ⟨({ mpX with client := [111, 116, 104, 101, 114] }, true), good_2 (by omega) (by omega), ?_, ?_⟩; (repeat (first | exact trivial | refine ⟨rfl, ?_⟩)); (repeat (first | exact List.Sublist.refl _ | exact List.nil_sublist _ | apply List.Sublist.cons_cons | apply List.Sublist.cons | exact List.sublist_append_left _ _)); done) | (refine ⟨({ mpX with name := [116, 118] }, true), good_3 (by omega) (by omega), ?_, ?_⟩; (repeat (first | exact trivial | refine ⟨rfl, ?_⟩)); (repeat (first | exact List.Sublist.refl _ | exact List.nil_sublist _ | apply List.Sublist.cons_cons | apply List.Sublist.cons | exact List.sublist_append_left _ _)); done) | (refine ⟨({ mpX with name := [112, 99, 46, 108, 97, 110] }, false), good_4 (by omega) (by omega), ?_, ?_⟩; (repeat (first | exact trivial | refine ⟨rfl, ?_⟩)); (repeat (first | exact List.Sublist.refl _ | exact List.nil_sublist _ | apply List.Sublist.cons_cons | apply List.Sublist.cons | exact List.sublist_append_left _ _)); done) | (refine ⟨({ mpX with won := false }, true), good_5 (by omega) (by omega), ?_, ?_⟩; (repeat (first | exact trivial | refine ⟨rfl, ?_⟩)); (repeat (first | exact List.Sublist.refl _ | exact List.nil_sublist _ | apply List.Sublist.cons_cons | apply List.Sublist.cons | exact List.sublist_append_left _ _)); done) | (refine ⟨((⟨10, 0, [109, 101], 1000, [], false⟩ : Lz), true), good_6 (by omega) (by omega), ?_, ?_⟩; (repeat (first | exact trivial | refine ⟨rfl, ?_⟩)); (repeat (first | exact List.Sublist.refl _ | exact List.nil_sublist _ | apply List.Sublist.cons_cons | apply List.Sublist.cons | exact List.sublist_append_left _ _)); done) | (refine ⟨({ mpX with til := (now % 64) }, true), good_7 (by omega) (by omega), ?_, ?_⟩; (repeat (first | exact trivial | refine ⟨rfl, ?_⟩)); (repeat (first | exact List.Sublist.refl _ | exact List.nil_sublist _ | apply List.Sublist.cons_cons | apply List.Sublist.cons | exact List.sublist_append_left _ _)); done)
    try simp only [sk] at hc7
    refine CW.seq ?_
    refine CW.region ?_
    refine W.p O.eqI ?_
    refine W.p O.as ?_
    refine WL.nil (Q.tn ?_)
    refine CW.cond (vt rfl) (fun hc8 => ?_) (fun hc8 => ?_)
    · try simp only [sk] at hc8
      refine CW.seq ?_
      refine CW.region ?_
      refine W.p (O.bd (hv := PV.cons (vt rfl) (PV.cons (vt rfl) (PV.cons (vt rfl) (PV.nil))))) ?_
      refine W.st (vt rfl) (vt rfl) rfl ?_
      refine WL.nil (Q.tn ?_)
      refine CW.region ?_
      refine W.p O.as ?_
      refine WL.nil (Q.bn (Q.tn ?_))
      first | (refine ⟨({ mpX with til := 2000 }, false), good_0 (by omega) (by omega), ?_, ?_⟩; (repeat (first | exact trivial | refine ⟨rfl, ?_⟩)); (repeat (first | exact List.Sublist.refl _ | exact List.nil_sublist _ | apply List.Sublist.cons_cons | apply List.Sublist.cons | exact List.sublist_append_left _ _)); done) | (refine ⟨({ mpX with host := 11 }, true), good_1 (by omega) (by omega), ?_, ?_⟩; (repeat (first | exact trivial | refine ⟨rfl, ?_⟩)); (repeat (first | exact List.Sublist.refl _ | exact List.nil_sublist _ | apply List.Sublist.cons_cons | apply List.Sublist.cons | exact List.sublist_append_left _ _)); done) | (refine ⟨({ mpX with client := [111, 116, 104, 101, 114] }, true), good_2 (by omega) (by omega), ?_, ?_⟩; (repeat (first | exact trivial | refine ⟨rfl, ?_⟩)); (repeat (first | exact List.Sublist.refl _ | exact List.nil_sublist _ | apply List.Sublist.cons_cons | apply List.Sublist.cons | exact List.sublist_append_left _ _)); done) | (refine ⟨({ mpX with name := [116, 118] }, true), good_3 (by omega) (by omega), ?_, ?_⟩; (repeat (first | exact trivial | refine ⟨rfl, ?_⟩)); (repeat (first | exact List.Sublist.refl _ | exact List.nil_sublist _ | apply List.Sublist.cons_cons | apply List.Sublist.cons | exact List.sublist_append_left _ _)); done) | (refine ⟨({ mpX with name := [112, 99, 46, 108, 97, 110] }, false), good_4 (by omega) (by omega), ?_, ?_⟩; (repeat (first | exact trivial | refine ⟨rfl, ?_⟩)); (repeat (first | exact List.Sublist.refl _ | exact List.nil_sublist _ | apply List.Sublist.cons_cons | apply List.Sublist.cons | exact List.sublist_append_left _ _)); done) | (refine ⟨({ mpX with won := false }, true), good_5 (by omega) (by omega), ?_, ?_⟩; (repeat (first | exact trivial | refine ⟨rfl, ?_⟩)); (repeat (first | exact List.Sublist.refl _ | exact List.nil_sublist _ | apply List.Sublist.cons_cons | apply List.Sublist.cons | exact List.sublist_append_left _ _)); done) | (refine ⟨((⟨10, 0, [109, 101], 1000, [], false⟩ : Lz), true), good_6 (by omega) (by omega), ?_, ?_⟩; (repeat (first | exact trivial | refine ⟨rfl, ?_⟩)); (repeat (first | exact List.Sublist.refl _ | exact List.nil_sublist _ | apply List.Sublist.cons_cons | apply List.Sublist.cons | exact List.sublist_append_left _ _)); done) | (refine ⟨({ mpX with til := (now % 64) }, true), good_7 (by omega) (by omega), ?_, ?_⟩; (repeat (first | exact trivial | refine ⟨rfl, ?_⟩)); (repeat (first | exact List.Sublist.refl _ | exact List.nil_sublist _ | apply List.Sublist.cons_cons | apply List.Sublist.cons | exact List.sublist_append_left _ _)); done)
    try simp only [sk] at hc8
    refine CW.seq ?_
    refine CW.region ?_
    refine W.p O.mv ?_
    first | refine W.p O.fb ?_ | refine W.p O.fa ?_
    first | refine W.st (vt rfl) (vt rfl) rfl ?_ | refine W.st (u := .int _ _) (vt rfl) (vt rfl) rfl ?_
    refine WL.nil (Q.tn ?_)
    refine CW.region ?_
    refine W.p O.as ?_
    refine WL.nil (Q.bn (Q.tn ?_))
    first | (refine ⟨({ mpX with til := 2000 }, false), good_0 (by omega) (by omega), ?_, ?_⟩; (repeat (first | exact trivial | refine ⟨rfl, ?_⟩)); (repeat (first | exact List.Sublist.refl _ | exact List.nil_sublist _ | apply List.Sublist.cons_cons | apply List.Sublist.cons | exact List.sublist_append_left _ _)); done) | (refine ⟨({ mpX with host := 11 }, true), good_1 (by omega) (by omega), ?_, ?_⟩; (repeat (first | exact trivial | refine ⟨rfl, ?_⟩)); (repeat (first | exact List.Sublist.refl _ | exact List.nil_sublist _ | apply List.Sublist.cons_cons | apply List.Sublist.cons | exact List.sublist_append_left _ _)); done) | (refine ⟨({ mpX with client := [111, 116, 104, 101, 114] }, true), good_2 (by omega) (by omega), ?_, ?_⟩; (repeat (first | exact trivial | refine ⟨rfl, ?_⟩)); (repeat (first | exact List.Sublist.refl _ | exact List.nil_sublist _ | apply List.Sublist.cons_cons | apply List.Sublist.cons | exact List.sublist_append_left _ _)); done) | (refine ⟨({ mpX with name := [116, 118] }, true), good_3 (by omega) (by omega), ?_, ?_⟩; (repeat (first | exact trivial | refine ⟨rfl, ?_⟩)); (repeat (first | exact List.Sublist.refl _ | exact List.nil_sublist _ | apply List.Sublist.cons_cons | apply List.Sublist.cons | exact List.sublist_append_left _ _)); done) | (refine ⟨({ mpX with name := [112, 99, 46, 108, 97, 110] }, false), good_4 (by omega) (by omega), ?_, ?_⟩; (repeat (first | exact trivial | refine ⟨rfl, ?_⟩)); (repeat (first | exact List.Sublist.refl _ | exact List.nil_sublist _ | apply List.Sublist.cons_cons | apply List.Sublist.cons | exact List.sublist_append_left _ _)); done) | (refine ⟨({ mpX with won := false }, true), good_5 (by omega) (by omega), ?_, ?_⟩; (repeat (first | exact trivial | refine ⟨rfl, ?_⟩)); (repeat (first | exact List.Sublist.refl _ | exact List.nil_sublist _ | apply List.Sublist.cons_cons | apply List.Sublist.cons | exact List.sublist_append_left _ _)); done) | (refine ⟨((⟨10, 0, [109, 101], 1000, [], false⟩ : Lz), true), good_6 (by omega) (by omega), ?_, ?_⟩; (repeat (first | exact trivial | refine ⟨rfl, ?_⟩)); (repeat (first | exact List.Sublist.refl _ | exact List.nil_sublist _ | apply List.Sublist.cons_cons | apply List.Sublist.cons | exact List.sublist_append_left _ _)); done) | (refine ⟨({ mpX with til := (now % 64) }, true), good_7 (by omega) (by omega), ?_, ?_⟩; (repeat (first | exact trivial | refine ⟨rfl, ?_⟩)); (repeat (first | exact List.Sublist.refl _ | exact List.nil_sublist _ | apply List.Sublist.cons_cons | apply List.Sublist.cons | exact List.sublist_append_left _ _)); done)
  · rintro ⟨y, want⟩ hg
    try dsimp only at hg ⊢
    refine CW.join (X := Unit) (fun _ => [(5, true, .int .i64 (now % 64)), (6, true, .pointer (some ⟨b1, 0, none⟩)), (7, true, .pointer (some ⟨b2, 0, none⟩)), (8, true, .bool want), (9, true, .bool (zChg givC [mpX] [y] (now % 64) (now % 64)).1), (10, true, .int .i64 (zChg givC [mpX] [y] (now % 64) (now % 64)).2)]) (fun _ => [(b2, .cells (encL y).toArray 48 (0, 0)), (b1, .cells (encL mpX).toArray 48 (0, 0))]) (fun _ => True) ?_ ?_
    · refine CW.drawH [(b2, .cells (encL y).toArray 48 (0, 0)), (b1, .cells (encL mpX).toArray 48 (0, 0))] rfl ?_
      refine RH.qa 1 rfl (O.lds) ?_
      refine RH.qa 3 rfl (O.lds) ?_
      refine RH.qa 5 rfl (O.mv) ?_
      refine RH.qa 6 rfl (O.mv) ?_
      refine RH.three (i := 0) (j := 2) (k := 4) (fun _ _ h => h) (by kernel_rfl) rfl rfl rfl ?_ ?_ ?_
      · refine W.callN (first := []) (cap := []) rfl (vt rfl) (AV.nil) (fun w hu => law20_given w) ?_; rintro _ _ ⟨g1, g2, g3, rfl, rfl⟩
        refine WL.nilQa ?_
        refine RH.two (i := 2) (j := 4) (fun _ _ h => h) (by kernel_rfl) rfl rfl ?_ ?_
        · refine W.bs encL [⟨_, _, _, _, _, _⟩] rfl (PV.cons (vt rfl) (PV.nil)) rfl rfl rfl (by decide) rfl fun b3 => ?_
          refine WL.nilQa ?_
          refine RH.one (i := 4) (fun _ _ h => h) (by kernel_rfl) rfl ?_
          refine W.bs encL [⟨_, _, _, _, _, _⟩] rfl (PV.cons (vt rfl) (PV.nil)) rfl rfl rfl (by decide) rfl fun b4 => ?_
          refine WL.nilQa ?_
          refine RH.one (i := 7) (fun _ _ h => h) (by kernel_rfl) rfl ?_
          refine W.q (O.call ⟨rfl, rfl⟩ (AV.cons (vt rfl) (AV.cons (vt rfl) (AV.cons (vt rfl) (AV.cons (vt rfl) (AV.cons (vt rfl) (AV.nil)))))) (fun _ w hw => zn_Changed givC (oa (some g1), 1) (oa (some g2), 1) (oa (some g3), 1) [mpX] [y] _ _ 1 1 (now % 64) (now % 64) w (CfIn.mk (RowL.h (enc := encI) (xs := givC.excl) (a := oa (some g1)) _ hw) (RowL.h (enc := encRs) (xs := givC.resv) (a := oa (some g2)) _ hw) (RowL.h (enc := encR) (xs := givC.stat) (a := oa (some g3)) _ hw)) giv_sz (RowL.h (enc := encL) (xs := [mpX]) _ hw) mpX_sz (RowL.h (enc := encL) (xs := [y]) _ hw) hg.hz (ht.upd hw))) ?_
          refine WL.nilQa ?_
          refine RH.qa 8 rfl (O.mv) ?_
          first | refine RH.qa 9 rfl (O.extL) ?_ | refine RH.qa 9 rfl (O.ext) ?_
          first | refine RH.qa 10 rfl (O.extL) ?_ | refine RH.qa 10 rfl (O.ext) ?_
          refine RH.qa 11 rfl (O.as) ?_
          refine RH.qa 12 rfl (O.as) ?_
          refine RH.done (by kernel_rfl) (Q.tn ?_)
          refine ⟨(), trivial, ?_, ?_⟩; (repeat (first | exact trivial | refine ⟨rfl, ?_⟩)); (repeat (first | exact List.Sublist.refl _ | exact List.nil_sublist _ | apply List.Sublist.cons_cons | apply List.Sublist.cons | exact List.sublist_append_left _ _)); done
        · refine W.bs encL [⟨_, _, _, _, _, _⟩] rfl (PV.cons (vt rfl) (PV.nil)) rfl rfl rfl (by decide) rfl fun b5 => ?_
          refine WL.nilQa ?_
          refine RH.one (i := 2) (fun _ _ h => h) (by kernel_rfl) rfl ?_
          refine W.bs encL [⟨_, _, _, _, _, _⟩] rfl (PV.cons (vt rfl) (PV.nil)) rfl rfl rfl (by decide) rfl fun b6 => ?_
          refine WL.nilQa ?_
          refine RH.one (i := 7) (fun _ _ h => h) (by kernel_rfl) rfl ?_
          refine W.q (O.call ⟨rfl, rfl⟩ (AV.cons (vt rfl) (AV.cons (vt rfl) (AV.cons (vt rfl) (AV.cons (vt rfl) (AV.cons (vt rfl) (AV.nil)))))) (fun _ w hw => zn_Changed givC (oa (some g1), 1) (oa (some g2), 1) (oa (some g3), 1) [mpX] [y] _ _ 1 1 (now % 64) (now % 64) w (CfIn.mk (RowL.h (enc := encI) (xs := givC.excl) (a := oa (some g1)) _ hw) (RowL.h (enc := encRs) (xs := givC.resv) (a := oa (some g2)) _ hw) (RowL.h (enc := encR) (xs := givC.stat) (a := oa (some g3)) _ hw)) giv_sz (RowL.h (enc := encL) (xs := [mpX]) _ hw) mpX_sz (RowL.h (enc := encL) (xs := [y]) _ hw) hg.hz (ht.upd hw))) ?_
          refine WL.nilQa ?_
          refine RH.qa 8 rfl (O.mv) ?_
          first | refine RH.qa 9 rfl (O.extL) ?_ | refine RH.qa 9 rfl (O.ext) ?_
          first | refine RH.qa 10 rfl (O.extL) ?_ | refine RH.qa 10 rfl (O.ext) ?_
          refine RH.qa 11 rfl (O.as) ?_
          refine RH.qa 12 rfl (O.as) ?_
          refine RH.done (by kernel_rfl) (Q.tn ?_)
          refine ⟨(), trivial, ?_, ?_⟩; (repeat (first | exact trivial | refine ⟨rfl, ?_⟩)); (repeat (first | exact List.Sublist.refl _ | exact List.nil_sublist _ | apply List.Sublist.cons_cons | apply List.Sublist.cons | exact List.sublist_append_left _ _)); done
      · refine W.bs encL [⟨_, _, _, _, _, _⟩] rfl (PV.cons (vt rfl) (PV.nil)) rfl rfl rfl (by decide) rfl fun b7 => ?_
        refine WL.nilQa ?_
        refine RH.two (i := 0) (j := 4) (fun _ _ h => h) (by kernel_rfl) rfl rfl ?_ ?_
        · refine W.callN (first := []) (cap := []) rfl (vt rfl) (AV.nil) (fun w hu => law20_given w) ?_; rintro _ _ ⟨g1, g2, g3, rfl, rfl⟩
          refine WL.nilQa ?_
          refine RH.one (i := 4) (fun _ _ h => h) (by kernel_rfl) rfl ?_
          refine W.bs encL [⟨_, _, _, _, _, _⟩] rfl (PV.cons (vt rfl) (PV.nil)) rfl rfl rfl (by decide) rfl fun b8 => ?_
          refine WL.nilQa ?_
          refine RH.one (i := 7) (fun _ _ h => h) (by kernel_rfl) rfl ?_
          refine W.q (O.call ⟨rfl, rfl⟩ (AV.cons (vt rfl) (AV.cons (vt rfl) (AV.cons (vt rfl) (AV.cons (vt rfl) (AV.cons (vt rfl) (AV.nil)))))) (fun _ w hw => zn_Changed givC (oa (some g1), 1) (oa (some g2), 1) (oa (some g3), 1) [mpX] [y] _ _ 1 1 (now % 64) (now % 64) w (CfIn.mk (RowL.h (enc := encI) (xs := givC.excl) (a := oa (some g1)) _ hw) (RowL.h (enc := encRs) (xs := givC.resv) (a := oa (some g2)) _ hw) (RowL.h (enc := encR) (xs := givC.stat) (a := oa (some g3)) _ hw)) giv_sz (RowL.h (enc := encL) (xs := [mpX]) _ hw) mpX_sz (RowL.h (enc := encL) (xs := [y]) _ hw) hg.hz (ht.upd hw))) ?_
          refine WL.nilQa ?_
          refine RH.qa 8 rfl (O.mv) ?_
          first | refine RH.qa 9 rfl (O.extL) ?_ | refine RH.qa 9 rfl (O.ext) ?_
          first | refine RH.qa 10 rfl (O.extL) ?_ | refine RH.qa 10 rfl (O.ext) ?_
          refine RH.qa 11 rfl (O.as) ?_
          refine RH.qa 12 rfl (O.as) ?_
          refine RH.done (by kernel_rfl) (Q.tn ?_)
          refine ⟨(), trivial, ?_, ?_⟩; (repeat (first | exact trivial | refine ⟨rfl, ?_⟩)); (repeat (first | exact List.Sublist.refl _ | exact List.nil_sublist _ | apply List.Sublist.cons_cons | apply List.Sublist.cons | exact List.sublist_append_left _ _)); done
        · refine W.bs encL [⟨_, _, _, _, _, _⟩] rfl (PV.cons (vt rfl) (PV.nil)) rfl rfl rfl (by decide) rfl fun b9 => ?_
          refine WL.nilQa ?_
          refine RH.one (i := 0) (fun _ _ h => h) (by kernel_rfl) rfl ?_
          refine W.callN (first := []) (cap := []) rfl (vt rfl) (AV.nil) (fun w hu => law20_given w) ?_; rintro _ _ ⟨g1, g2, g3, rfl, rfl⟩
          refine WL.nilQa ?_
          refine RH.one (i := 7) (fun _ _ h => h) (by kernel_rfl) rfl ?_
          refine W.q (O.call ⟨rfl, rfl⟩ (AV.cons (vt rfl) (AV.cons (vt rfl) (AV.cons (vt rfl) (AV.cons (vt rfl) (AV.cons (vt rfl) (AV.nil)))))) (fun _ w hw => zn_Changed givC (oa (some g1), 1) (oa (some g2), 1) (oa (some g3), 1) [mpX] [y] _ _ 1 1 (now % 64) (now % 64) w (CfIn.mk (RowL.h (enc := encI) (xs := givC.excl) (a := oa (some g1)) _ hw) (RowL.h (enc := encRs) (xs := givC.resv) (a := oa (some g2)) _ hw) (RowL.h (enc := encR) (xs := givC.stat) (a := oa (some g3)) _ hw)) giv_sz (RowL.h (enc := encL) (xs := [mpX]) _ hw) mpX_sz (RowL.h (enc := encL) (xs := [y]) _ hw) hg.hz (ht.upd hw))) ?_
          refine WL.nilQa ?_
          refine RH.qa 8 rfl (O.mv) ?_
          first | refine RH.qa 9 rfl (O.extL) ?_ | refine RH.qa 9 rfl (O.ext) ?_
          first | refine RH.qa 10 rfl (O.extL) ?_ | refine RH.qa 10 rfl (O.ext) ?_
          refine RH.qa 11 rfl (O.as) ?_
          refine RH.qa 12 rfl (O.as) ?_
          refine RH.done (by kernel_rfl) (Q.tn ?_)
          refine ⟨(), trivial, ?_, ?_⟩; (repeat (first | exact trivial | refine ⟨rfl, ?_⟩)); (repeat (first | exact List.Sublist.refl _ | exact List.nil_sublist _ | apply List.Sublist.cons_cons | apply List.Sublist.cons | exact List.sublist_append_left _ _)); done
      · refine W.bs encL [⟨_, _, _, _, _, _⟩] rfl (PV.cons (vt rfl) (PV.nil)) rfl rfl rfl (by decide) rfl fun b10 => ?_
        refine WL.nilQa ?_
        refine RH.two (i := 0) (j := 2) (fun _ _ h => h) (by kernel_rfl) rfl rfl ?_ ?_
        · refine W.callN (first := []) (cap := []) rfl (vt rfl) (AV.nil) (fun w hu => law20_given w) ?_; rintro _ _ ⟨g1, g2, g3, rfl, rfl⟩
          refine WL.nilQa ?_
          refine RH.one (i := 2) (fun _ _ h => h) (by kernel_rfl) rfl ?_
          refine W.bs encL [⟨_, _, _, _, _, _⟩] rfl (PV.cons (vt rfl) (PV.nil)) rfl rfl rfl (by decide) rfl fun b11 => ?_
          refine WL.nilQa ?_
          refine RH.one (i := 7) (fun _ _ h => h) (by kernel_rfl) rfl ?_
          refine W.q (O.call ⟨rfl, rfl⟩ (AV.cons (vt rfl) (AV.cons (vt rfl) (AV.cons (vt rfl) (AV.cons (vt rfl) (AV.cons (vt rfl) (AV.nil)))))) (fun _ w hw => zn_Changed givC (oa (some g1), 1) (oa (some g2), 1) (oa (some g3), 1) [mpX] [y] _ _ 1 1 (now % 64) (now % 64) w (CfIn.mk (RowL.h (enc := encI) (xs := givC.excl) (a := oa (some g1)) _ hw) (RowL.h (enc := encRs) (xs := givC.resv) (a := oa (some g2)) _ hw) (RowL.h (enc := encR) (xs := givC.stat) (a := oa (some g3)) _ hw)) giv_sz (RowL.h (enc := encL) (xs := [mpX]) _ hw) mpX_sz (RowL.h (enc := encL) (xs := [y]) _ hw) hg.hz (ht.upd hw))) ?_
          refine WL.nilQa ?_
          refine RH.qa 8 rfl (O.mv) ?_
          first | refine RH.qa 9 rfl (O.extL) ?_ | refine RH.qa 9 rfl (O.ext) ?_
          first | refine RH.qa 10 rfl (O.extL) ?_ | refine RH.qa 10 rfl (O.ext) ?_
          refine RH.qa 11 rfl (O.as) ?_
          refine RH.qa 12 rfl (O.as) ?_
          refine RH.done (by kernel_rfl) (Q.tn ?_)
          refine ⟨(), trivial, ?_, ?_⟩; (repeat (first | exact trivial | refine ⟨rfl, ?_⟩)); (repeat (first | exact List.Sublist.refl _ | exact List.nil_sublist _ | apply List.Sublist.cons_cons | apply List.Sublist.cons | exact List.sublist_append_left _ _)); done
        · refine W.bs encL [⟨_, _, _, _, _, _⟩] rfl (PV.cons (vt rfl) (PV.nil)) rfl rfl rfl (by decide) rfl fun b12 => ?_
          refine WL.nilQa ?_
          refine RH.one (i := 0) (fun _ _ h => h) (by kernel_rfl) rfl ?_
          refine W.callN (first := []) (cap := []) rfl (vt rfl) (AV.nil) (fun w hu => law20_given w) ?_; rintro _ _ ⟨g1, g2, g3, rfl, rfl⟩
          refine WL.nilQa ?_
          refine RH.one (i := 7) (fun _ _ h => h) (by kernel_rfl) rfl ?_
          refine W.q (O.call ⟨rfl, rfl⟩ (AV.cons (vt rfl) (AV.cons (vt rfl) (AV.cons (vt rfl) (AV.cons (vt rfl) (AV.cons (vt rfl) (AV.nil)))))) (fun _ w hw => zn_Changed givC (oa (some g1), 1) (oa (some g2), 1) (oa (some g3), 1) [mpX] [y] _ _ 1 1 (now % 64) (now % 64) w (CfIn.mk (RowL.h (enc := encI) (xs := givC.excl) (a := oa (some g1)) _ hw) (RowL.h (enc := encRs) (xs := givC.resv) (a := oa (some g2)) _ hw) (RowL.h (enc := encR) (xs := givC.stat) (a := oa (some g3)) _ hw)) giv_sz (RowL.h (enc := encL) (xs := [mpX]) _ hw) mpX_sz (RowL.h (enc := encL) (xs := [y]) _ hw) hg.hz (ht.upd hw))) ?_
          refine WL.nilQa ?_
          refine RH.qa 8 rfl (O.mv) ?_
          first | refine RH.qa 9 rfl (O.extL) ?_ | refine RH.qa 9 rfl (O.ext) ?_
          first | refine RH.qa 10 rfl (O.extL) ?_ | refine RH.qa 10 rfl (O.ext) ?_
          refine RH.qa 11 rfl (O.as) ?_
          refine RH.qa 12 rfl (O.as) ?_
          refine RH.done (by kernel_rfl) (Q.tn ?_)
          refine ⟨(), trivial, ?_, ?_⟩; (repeat (first | exact trivial | refine ⟨rfl, ?_⟩)); (repeat (first | exact List.Sublist.refl _ | exact List.nil_sublist _ | apply List.Sublist.cons_cons | apply List.Sublist.cons | exact List.sublist_append_left _ _)); done
    · rintro _ _
      try dsimp only
      refine CW.join (X := Unit) (fun _ => [(5, true, .int .i64 (now % 64)), (6, true, .pointer (some ⟨b1, 0, none⟩)), (7, true, .pointer (some ⟨b2, 0, none⟩)), (8, true, .bool want), (9, true, .bool (zChg givC [mpX] [y] (now % 64) (now % 64)).1), (10, true, .int .i64 (zChg givC [mpX] [y] (now % 64) (now % 64)).2), (11, true, .bool (zChg givC [y] [mpX] (now % 64) (now % 64)).1), (12, true, .int .i64 (zChg givC [y] [mpX] (now % 64) (now % 64)).2)]) (fun _ => [(b2, .cells (encL y).toArray 48 (0, 0)), (b1, .cells (encL mpX).toArray 48 (0, 0))]) (fun _ => True) ?_ ?_
      · refine CW.drawH [(b2, .cells (encL y).toArray 48 (0, 0)), (b1, .cells (encL mpX).toArray 48 (0, 0))] rfl ?_
        refine RH.qa 1 rfl (O.lds) ?_
        refine RH.qa 3 rfl (O.lds) ?_
        refine RH.qa 5 rfl (O.mv) ?_
        refine RH.qa 6 rfl (O.mv) ?_
        refine RH.three (i := 0) (j := 2) (k := 4) (fun _ _ h => h) (by kernel_rfl) rfl rfl rfl ?_ ?_ ?_
        · refine W.callN (first := []) (cap := []) rfl (vt rfl) (AV.nil) (fun w hu => law20_given w) ?_; rintro _ _ ⟨g1, g2, g3, rfl, rfl⟩
          refine WL.nilQa ?_
          refine RH.two (i := 2) (j := 4) (fun _ _ h => h) (by kernel_rfl) rfl rfl ?_ ?_
          · refine W.bs encL [⟨_, _, _, _, _, _⟩] rfl (PV.cons (vt rfl) (PV.nil)) rfl rfl rfl (by decide) rfl fun b13 => ?_
            refine WL.nilQa ?_
            refine RH.one (i := 4) (fun _ _ h => h) (by kernel_rfl) rfl ?_
            refine W.bs encL [⟨_, _, _, _, _, _⟩] rfl (PV.cons (vt rfl) (PV.nil)) rfl rfl rfl (by decide) rfl fun b14 => ?_
            refine WL.nilQa ?_
            refine RH.one (i := 7) (fun _ _ h => h) (by kernel_rfl) rfl ?_
            refine W.q (O.call ⟨rfl, rfl⟩ (AV.cons (vt rfl) (AV.cons (vt rfl) (AV.cons (vt rfl) (AV.cons (vt rfl) (AV.cons (vt rfl) (AV.nil)))))) (fun _ w hw => zn_Changed givC (oa (some g1), 1) (oa (some g2), 1) (oa (some g3), 1) [y] [mpX] _ _ 1 1 (now % 64) (now % 64) w (CfIn.mk (RowL.h (enc := encI) (xs := givC.excl) (a := oa (some g1)) _ hw) (RowL.h (enc := encRs) (xs := givC.resv) (a := oa (some g2)) _ hw) (RowL.h (enc := encR) (xs := givC.stat) (a := oa (some g3)) _ hw)) giv_sz (RowL.h (enc := encL) (xs := [y]) _ hw) hg.hz (RowL.h (enc := encL) (xs := [mpX]) _ hw) mpX_sz (ht.upd hw))) ?_
            refine WL.nilQa ?_
            refine RH.qa 8 rfl (O.mv) ?_
            first | refine RH.qa 9 rfl (O.extL) ?_ | refine RH.qa 9 rfl (O.ext) ?_
            first | refine RH.qa 10 rfl (O.extL) ?_ | refine RH.qa 10 rfl (O.ext) ?_
            refine RH.qa 11 rfl (O.as) ?_
            refine RH.qa 12 rfl (O.as) ?_
            refine RH.done (by kernel_rfl) (Q.tn ?_)
            refine ⟨(), trivial, ?_, ?_⟩; (repeat (first | exact trivial | refine ⟨rfl, ?_⟩)); (repeat (first | exact List.Sublist.refl _ | exact List.nil_sublist _ | apply List.Sublist.cons_cons | apply List.Sublist.cons | exact List.sublist_append_left _ _)); done
          · refine W.bs encL [⟨_, _, _, _, _, _⟩] rfl (PV.cons (vt rfl) (PV.nil)) rfl rfl rfl (by decide) rfl fun b15 => ?_
            refine WL.nilQa ?_
            refine RH.one (i := 2) (fun _ _ h => h) (by kernel_rfl) rfl ?_
            refine W.bs encL [⟨_, _, _, _, _, _⟩] rfl (PV.cons (vt rfl) (PV.nil)) rfl rfl rfl (by decide) rfl fun b16 => ?_
            refine WL.nilQa ?_
            refine RH.one (i := 7) (fun _ _ h => h) (by kernel_rfl) rfl ?_
            refine W.q (O.call ⟨rfl, rfl⟩ (AV.cons (vt rfl) (AV.cons (vt rfl) (AV.cons (vt rfl) (AV.cons (vt rfl) (AV.cons (vt rfl) (AV.nil)))))) (fun _ w hw => zn_Changed givC (oa (some g1), 1) (oa (some g2), 1) (oa (some g3), 1) [y] [mpX] _ _ 1 1 (now % 64) (now % 64) w (CfIn.mk (RowL.h (enc := encI) (xs := givC.excl) (a := oa (some g1)) _ hw) (RowL.h (enc := encRs) (xs := givC.resv) (a := oa (some g2)) _ hw) (RowL.h (enc := encR) (xs := givC.stat) (a := oa (some g3)) _ hw)) giv_sz (RowL.h (enc := encL) (xs := [y]) _ hw) hg.hz (RowL.h (enc := encL) (xs := [mpX]) _ hw) mpX_sz (ht.upd hw))) ?_
            refine WL.nilQa ?_
            refine RH.qa 8 rfl (O.mv) ?_
            first | refine RH.qa 9 rfl (O.extL) ?_ | refine RH.qa 9 rfl (O.ext) ?_
            first | refine RH.qa 10 rfl (O.extL) ?_ | refine RH.qa 10 rfl (O.ext) ?_
            refine RH.qa 11 rfl (O.as) ?_
            refine RH.qa 12 rfl (O.as) ?_
            refine RH.done (by kernel_rfl) (Q.tn ?_)
            refine ⟨(), trivial, ?_, ?_⟩; (repeat (first | exact trivial | refine ⟨rfl, ?_⟩)); (repeat (first | exact List.Sublist.refl _ | exact List.nil_sublist _ | apply List.Sublist.cons_cons | apply List.Sublist.cons | exact List.sublist_append_left _ _)); done
        · refine W.bs encL [⟨_, _, _, _, _, _⟩] rfl (PV.cons (vt rfl) (PV.nil)) rfl rfl rfl (by decide) rfl fun b17 => ?_
          refine WL.nilQa ?_
          refine RH.two (i := 0) (j := 4) (fun _ _ h => h) (by kernel_rfl) rfl rfl ?_ ?_
          · refine W.callN (first := []) (cap := []) rfl (vt rfl) (AV.nil) (fun w hu => law20_given w) ?_; rintro _ _ ⟨g1, g2, g3, rfl, rfl⟩
            refine WL.nilQa ?_
            refine RH.one (i := 4) (fun _ _ h => h) (by kernel_rfl) rfl ?_
            refine W.bs encL [⟨_, _, _, _, _, _⟩] rfl (PV.cons (vt rfl) (PV.nil)) rfl rfl rfl (by decide) rfl fun b18 => ?_
            refine WL.nilQa ?_
            refine RH.one (i := 7) (fun _ _ h => h) (by kernel_rfl) rfl ?_
            refine W.q (O.call ⟨rfl, rfl⟩ (AV.cons (vt rfl) (AV.cons (vt rfl) (AV.cons (vt rfl) (AV.cons (vt rfl) (AV.cons (vt rfl) (AV.nil)))))) (fun _ w hw => zn_Changed givC (oa (some g1), 1) (oa (some g2), 1) (oa (some g3), 1) [y] [mpX] _ _ 1 1 (now % 64) (now % 64) w (CfIn.mk (RowL.h (enc := encI) (xs := givC.excl) (a := oa (some g1)) _ hw) (RowL.h (enc := encRs) (xs := givC.resv) (a := oa (some g2)) _ hw) (RowL.h (enc := encR) (xs := givC.stat) (a := oa (some g3)) _ hw)) giv_sz (RowL.h (enc := encL) (xs := [y]) _ hw) hg.hz (RowL.h (enc := encL) (xs := [mpX]) _ hw) mpX_sz (ht.upd hw))) ?_
            refine WL.nilQa ?_
            refine RH.qa 8 rfl (O.mv) ?_
            first | refine RH.qa 9 rfl (O.extL) ?_ | refine RH.qa 9 rfl (O.ext) ?_
            first | refine RH.qa 10 rfl (O.extL) ?_ | refine RH.qa 10 rfl (O.ext) ?_
            refine RH.qa 11 rfl (O.as) ?_
            refine RH.qa 12 rfl (O.as) ?_
            refine RH.done (by kernel_rfl) (Q.tn ?_)
            refine ⟨(), trivial, ?_, ?_⟩; (repeat (first | exact trivial | refine ⟨rfl, ?_⟩)); (repeat (first | exact List.Sublist.refl _ | exact List.nil_sublist _ | apply List.Sublist.cons_cons | apply List.Sublist.cons | exact List.sublist_append_left _ _)); done
          · refine W.bs encL [⟨_, _, _, _, _, _⟩] rfl (PV.cons (vt rfl) (PV.nil)) rfl rfl rfl (by decide) rfl fun b19 => ?_
            refine WL.nilQa ?_
            refine RH.one (i := 0) (fun _ _ h => h) (by kernel_rfl) rfl ?_
            refine W.callN (first := []) (cap := []) rfl (vt rfl) (AV.nil) (fun w hu => law20_given w) ?_; rintro _ _ ⟨g1, g2, g3, rfl, rfl⟩
            refine WL.nilQa ?_
            refine RH.one (i := 7) (fun _ _ h => h) (by kernel_rfl) rfl ?_
            refine W.q (O.call ⟨rfl, rfl⟩ (AV.cons (vt rfl) (AV.cons (vt rfl) (AV.cons (vt rfl) (AV.cons (vt rfl) (AV.cons (vt rfl) (AV.nil)))))) (fun _ w hw => zn_Changed givC (oa (some g1), 1) (oa (some g2), 1) (oa (some g3), 1) [y] [mpX] _ _ 1 1 (now % 64) (now % 64) w (CfIn.mk (RowL.h (enc := encI) (xs := givC.excl) (a := oa (some g1)) _ hw) (RowL.h (enc := encRs) (xs := givC.resv) (a := oa (some g2)) _ hw) (RowL.h (enc := encR) (xs := givC.stat) (a := oa (some g3)) _ hw)) giv_sz (RowL.h (enc := encL) (xs := [y]) _ hw) hg.hz (RowL.h (enc := encL) (xs := [mpX]) _ hw) mpX_sz (ht.upd hw))) ?_
            refine WL.nilQa ?_
            refine RH.qa 8 rfl (O.mv) ?_
            first | refine RH.qa 9 rfl (O.extL) ?_ | refine RH.qa 9 rfl (O.ext) ?_
            first | refine RH.qa 10 rfl (O.extL) ?_ | refine RH.qa 10 rfl (O.ext) ?_
            refine RH.qa 11 rfl (O.as) ?_
            refine RH.qa 12 rfl (O.as) ?_
            refine RH.done (by kernel_rfl) (Q.tn ?_)
            refine ⟨(), trivial, ?_, ?_⟩; (repeat (first | exact trivial | refine ⟨rfl, ?_⟩)); (repeat (first | exact List.Sublist.refl _ | exact List.nil_sublist _ | apply List.Sublist.cons_cons | apply List.Sublist.cons | exact List.sublist_append_left _ _)); done
        · refine W.bs encL [⟨_, _, _, _, _, _⟩] rfl (PV.cons (vt rfl) (PV.nil)) rfl rfl rfl (by decide) rfl fun b20 => ?_
          refine WL.nilQa ?_
          refine RH.two (i := 0) (j := 2) (fun _ _ h => h) (by kernel_rfl) rfl rfl ?_ ?_
          · refine W.callN (first := []) (cap := []) rfl (vt rfl) (AV.nil) (fun w hu => law20_given w) ?_; rintro _ _ ⟨g1, g2, g3, rfl, rfl⟩
            refine WL.nilQa ?_
            refine RH.one (i := 2) (fun _ _ h => h) (by kernel_rfl) rfl ?_
            refine W.bs encL [⟨_, _, _, _, _, _⟩] rfl (PV.cons (vt rfl) (PV.nil)) rfl rfl rfl (by decide) rfl fun b21 => ?_
            refine WL.nilQa ?_
            refine RH.one (i := 7) (fun _ _ h => h) (by kernel_rfl) rfl ?_
            refine W.q (O.call ⟨rfl, rfl⟩ (AV.cons (vt rfl) (AV.cons (vt rfl) (AV.cons (vt rfl) (AV.cons (vt rfl) (AV.cons (vt rfl) (AV.nil)))))) (fun _ w hw => zn_Changed givC (oa (some g1), 1) (oa (some g2), 1) (oa (some g3), 1) [y] [mpX] _ _ 1 1 (now % 64) (now % 64) w (CfIn.mk (RowL.h (enc := encI) (xs := givC.excl) (a := oa (some g1)) _ hw) (RowL.h (enc := encRs) (xs := givC.resv) (a := oa (some g2)) _ hw) (RowL.h (enc := encR) (xs := givC.stat) (a := oa (some g3)) _ hw)) giv_sz (RowL.h (enc := encL) (xs := [y]) _ hw) hg.hz (RowL.h (enc := encL) (xs := [mpX]) _ hw) mpX_sz (ht.upd hw))) ?_
            refine WL.nilQa ?_
            refine RH.qa 8 rfl (O.mv) ?_
            first | refine RH.qa 9 rfl (O.extL) ?_ | refine RH.qa 9 rfl (O.ext) ?_
            first | refine RH.qa 10 rfl (O.extL) ?_ | refine RH.qa 10 rfl (O.ext) ?_
            refine RH.qa 11 rfl (O.as) ?_
            refine RH.qa 12 rfl (O.as) ?_
            refine RH.done (by kernel_rfl) (Q.tn ?_)
            refine ⟨(), trivial, ?_, ?_⟩; (repeat (first | exact trivial | refine ⟨rfl, ?_⟩)); (repeat (first | exact List.Sublist.refl _ | exact List.nil_sublist _ | apply List.Sublist.cons_cons | apply List.Sublist.cons | exact List.sublist_append_left _ _)); done
          · refine W.bs encL [⟨_, _, _, _, _, _⟩] rfl (PV.cons (vt rfl) (PV.nil)) rfl rfl rfl (by decide) rfl fun b22 => ?_
            refine WL.nilQa ?_
            refine RH.one (i := 0) (fun _ _ h => h) (by kernel_rfl) rfl ?_
            refine W.callN (first := []) (cap := []) rfl (vt rfl) (AV.nil) (fun w hu => law20_given w) ?_; rintro _ _ ⟨g1, g2, g3, rfl, rfl⟩
            refine WL.nilQa ?_
            refine RH.one (i := 7) (fun _ _ h => h) (by kernel_rfl) rfl ?_
            refine W.q (O.call ⟨rfl, rfl⟩ (AV.cons (vt rfl) (AV.cons (vt rfl) (AV.cons (vt rfl) (AV.cons (vt rfl) (AV.cons (vt rfl) (AV.nil)))))) (fun _ w hw => zn_Changed givC (oa (some g1), 1) (oa (some g2), 1) (oa (some g3), 1) [y] [mpX] _ _ 1 1 (now % 64) (now % 64) w (CfIn.mk (RowL.h (enc := encI) (xs := givC.excl) (a := oa (some g1)) _ hw) (RowL.h (enc := encRs) (xs := givC.resv) (a := oa (some g2)) _ hw) (RowL.h (enc := encR) (xs := givC.stat) (a := oa (some g3)) _ hw)) giv_sz (RowL.h (enc := encL) (xs := [y]) _ hw) hg.hz (RowL.h (enc := encL) (xs := [mpX]) _ hw) mpX_sz (ht.upd hw))) ?_
            refine WL.nilQa ?_
            refine RH.qa 8 rfl (O.mv) ?_
            first | refine RH.qa 9 rfl (O.extL) ?_ | refine RH.qa 9 rfl (O.ext) ?_
            first | refine RH.qa 10 rfl (O.extL) ?_ | refine RH.qa 10 rfl (O.ext) ?_
            refine RH.qa 11 rfl (O.as) ?_
            refine RH.qa 12 rfl (O.as) ?_
            refine RH.done (by kernel_rfl) (Q.tn ?_)
            refine ⟨(), trivial, ?_, ?_⟩; (repeat (first | exact trivial | refine ⟨rfl, ?_⟩)); (repeat (first | exact List.Sublist.refl _ | exact List.nil_sublist _ | apply List.Sublist.cons_cons | apply List.Sublist.cons | exact List.sublist_append_left _ _)); done
      · rintro _ _
        try dsimp only
        refine CW.join (X := Unit) (fun _ => [(5, true, .int .i64 (now % 64)), (6, true, .pointer (some ⟨b1, 0, none⟩)), (7, true, .pointer (some ⟨b2, 0, none⟩)), (8, true, .bool want), (9, true, .bool (zChg givC [mpX] [y] (now % 64) (now % 64)).1), (10, true, .int .i64 (zChg givC [mpX] [y] (now % 64) (now % 64)).2), (11, true, .bool (zChg givC [y] [mpX] (now % 64) (now % 64)).1), (12, true, .int .i64 (zChg givC [y] [mpX] (now % 64) (now % 64)).2), (13, true, .bool (zChg givC [y] [y] (now % 64) (now % 64)).1), (14, true, .int .i64 (zChg givC [y] [y] (now % 64) (now % 64)).2)]) (fun _ => [(b2, .cells (encL y).toArray 48 (0, 0)), (b1, .cells (encL mpX).toArray 48 (0, 0))]) (fun _ => True) ?_ ?_
        · refine CW.drawH [(b2, .cells (encL y).toArray 48 (0, 0)), (b1, .cells (encL mpX).toArray 48 (0, 0))] rfl ?_
          refine RH.qa 1 rfl (O.lds) ?_
          refine RH.qa 3 rfl (O.lds) ?_
          refine RH.qa 5 rfl (O.mv) ?_
          refine RH.qa 6 rfl (O.mv) ?_
          refine RH.three (i := 0) (j := 2) (k := 4) (fun _ _ h => h) (by kernel_rfl) rfl rfl rfl ?_ ?_ ?_
          · refine W.callN (first := []) (cap := []) rfl (vt rfl) (AV.nil) (fun w hu => law20_given w) ?_; rintro _ _ ⟨g1, g2, g3, rfl, rfl⟩
            refine WL.nilQa ?_
            refine RH.two (i := 2) (j := 4) (fun _ _ h => h) (by kernel_rfl) rfl rfl ?_ ?_
            · refine W.bs encL [⟨_, _, _, _, _, _⟩] rfl (PV.cons (vt rfl) (PV.nil)) rfl rfl rfl (by decide) rfl fun b23 => ?_
              refine WL.nilQa ?_
              refine RH.one (i := 4) (fun _ _ h => h) (by kernel_rfl) rfl ?_
              refine W.bs encL [⟨_, _, _, _, _, _⟩] rfl (PV.cons (vt rfl) (PV.nil)) rfl rfl rfl (by decide) rfl fun b24 => ?_
              refine WL.nilQa ?_
              refine RH.one (i := 7) (fun _ _ h => h) (by kernel_rfl) rfl ?_
              refine W.q (O.call ⟨rfl, rfl⟩ (AV.cons (vt rfl) (AV.cons (vt rfl) (AV.cons (vt rfl) (AV.cons (vt rfl) (AV.cons (vt rfl) (AV.nil)))))) (fun _ w hw => zn_Changed givC (oa (some g1), 1) (oa (some g2), 1) (oa (some g3), 1) [y] [y] _ _ 1 1 (now % 64) (now % 64) w (CfIn.mk (RowL.h (enc := encI) (xs := givC.excl) (a := oa (some g1)) _ hw) (RowL.h (enc := encRs) (xs := givC.resv) (a := oa (some g2)) _ hw) (RowL.h (enc := encR) (xs := givC.stat) (a := oa (some g3)) _ hw)) giv_sz (RowL.h (enc := encL) (xs := [y]) _ hw) hg.hz (RowL.h (enc := encL) (xs := [y]) _ hw) hg.hz (ht.upd hw))) ?_
              refine WL.nilQa ?_
              refine RH.qa 8 rfl (O.mv) ?_
              first | refine RH.qa 9 rfl (O.extL) ?_ | refine RH.qa 9 rfl (O.ext) ?_
              first | refine RH.qa 10 rfl (O.extL) ?_ | refine RH.qa 10 rfl (O.ext) ?_
              refine RH.qa 11 rfl (O.as) ?_
              refine RH.qa 12 rfl (O.as) ?_
              refine RH.done (by kernel_rfl) (Q.tn ?_)
              refine ⟨(), trivial, ?_, ?_⟩; (repeat (first | exact trivial | refine ⟨rfl, ?_⟩)); (repeat (first | exact List.Sublist.refl _ | exact List.nil_sublist _ | apply List.Sublist.cons_cons | apply List.Sublist.cons | exact List.sublist_append_left _ _)); done
            · refine W.bs encL [⟨_, _, _, _, _, _⟩] rfl (PV.cons (vt rfl) (PV.nil)) rfl rfl rfl (by decide) rfl fun b25 => ?_
              refine WL.nilQa ?_
              refine RH.one (i := 2) (fun _ _ h => h) (by kernel_rfl) rfl ?_
              refine W.bs encL [⟨_, _, _, _, _, _⟩] rfl (PV.cons (vt rfl) (PV.nil)) rfl rfl rfl (by decide) rfl fun b26 => ?_
              refine WL.nilQa ?_
              refine RH.one (i := 7) (fun _ _ h => h) (by kernel_rfl) rfl ?_
              refine W.q (O.call ⟨rfl, rfl⟩ (AV.cons (vt rfl) (AV.cons (vt rfl) (AV.cons (vt rfl) (AV.cons (vt rfl) (AV.cons (vt rfl) (AV.nil)))))) (fun _ w hw => zn_Changed givC (oa (some g1), 1) (oa (some g2), 1) (oa (some g3), 1) [y] [y] _ _ 1 1 (now % 64) (now % 64) w (CfIn.mk (RowL.h (enc := encI) (xs := givC.excl) (a := oa (some g1)) _ hw) (RowL.h (enc := encRs) (xs := givC.resv) (a := oa (some g2)) _ hw) (RowL.h (enc := encR) (xs := givC.stat) (a := oa (some g3)) _ hw)) giv_sz (RowL.h (enc := encL) (xs := [y]) _ hw) hg.hz (RowL.h (enc := encL) (xs := [y]) _ hw) hg.hz (ht.upd hw))) ?_
              refine WL.nilQa ?_
              refine RH.qa 8 rfl (O.mv) ?_
              first | refine RH.qa 9 rfl (O.extL) ?_ | refine RH.qa 9 rfl (O.ext) ?_
              first | refine RH.qa 10 rfl (O.extL) ?_ | refine RH.qa 10 rfl (O.ext) ?_
              refine RH.qa 11 rfl (O.as) ?_
              refine RH.qa 12 rfl (O.as) ?_
              refine RH.done (by kernel_rfl) (Q.tn ?_)
              refine ⟨(), trivial, ?_, ?_⟩; (repeat (first | exact trivial | refine ⟨rfl, ?_⟩)); (repeat (first | exact List.Sublist.refl _ | exact List.nil_sublist _ | apply List.Sublist.cons_cons | apply List.Sublist.cons | exact List.sublist_append_left _ _)); done
          · refine W.bs encL [⟨_, _, _, _, _, _⟩] rfl (PV.cons (vt rfl) (PV.nil)) rfl rfl rfl (by decide) rfl fun b27 => ?_
            refine WL.nilQa ?_
            refine RH.two (i := 0) (j := 4) (fun _ _ h => h) (by kernel_rfl) rfl rfl ?_ ?_
            · refine W.callN (first := []) (cap := []) rfl (vt rfl) (AV.nil) (fun w hu => law20_given w) ?_; rintro _ _ ⟨g1, g2, g3, rfl, rfl⟩
              refine WL.nilQa ?_
              refine RH.one (i := 4) (fun _ _ h => h) (by kernel_rfl) rfl ?_
              refine W.bs encL [⟨_, _, _, _, _, _⟩] rfl (PV.cons (vt rfl) (PV.nil)) rfl rfl rfl (by decide) rfl fun b28 => ?_
              refine WL.nilQa ?_
              refine RH.one (i := 7) (fun _ _ h => h) (by kernel_rfl) rfl ?_
              refine W.q (O.call ⟨rfl, rfl⟩ (AV.cons (vt rfl) (AV.cons (vt rfl) (AV.cons (vt rfl) (AV.cons (vt rfl) (AV.cons (vt rfl) (AV.nil)))))) (fun _ w hw => zn_Changed givC (oa (some g1), 1) (oa (some g2), 1) (oa (some g3), 1) [y] [y] _ _ 1 1 (now % 64) (now % 64) w (CfIn.mk (RowL.h (enc := encI) (xs := givC.excl) (a := oa (some g1)) _ hw) (RowL.h (enc := encRs) (xs := givC.resv) (a := oa (some g2)) _ hw) (RowL.h (enc := encR) (xs := givC.stat) (a := oa (some g3)) _ hw)) giv_sz (RowL.h (enc := encL) (xs := [y]) _ hw) hg.hz (RowL.h (enc := encL) (xs := [y]) _ hw) hg.hz (ht.upd hw))) ?_
              refine WL.nilQa ?_
              refine RH.qa 8 rfl (O.mv) ?_
              first | refine RH.qa 9 rfl (O.extL) ?_ | refine RH.qa 9 rfl (O.ext) ?_
              first | refine RH.qa 10 rfl (O.extL) ?_ | refine RH.qa 10 rfl (O.ext) ?_
              refine RH.qa 11 rfl (O.as) ?_
              refine RH.qa 12 rfl (O.as) ?_
              refine RH.done (by kernel_rfl) (Q.tn ?_)
              refine ⟨(), trivial, ?_, ?_⟩; (repeat (first | exact trivial | refine ⟨rfl, ?_⟩)); (repeat (first | exact List.Sublist.refl _ | exact List.nil_sublist _ | apply List.Sublist.cons_cons | apply List.Sublist.cons | exact List.sublist_append_left _ _)); done
            · refine W.bs encL [⟨_, _, _, _, _, _⟩] rfl (PV.cons (vt rfl) (PV.nil)) rfl rfl rfl (by decide) rfl fun b29 => ?_
              refine WL.nilQa ?_
              refine RH.one (i := 0) (fun _ _ h => h) (by kernel_rfl) rfl ?_
              refine W.callN (first := []) (cap := []) rfl (vt rfl) (AV.nil) (fun w hu => law20_given w) ?_; rintro _ _ ⟨g1, g2, g3, rfl, rfl⟩
              refine WL.nilQa ?_
              refine RH.one (i := 7) (fun _ _ h => h) (by kernel_rfl) rfl ?_
              refine W.q (O.call ⟨rfl, rfl⟩ (AV.cons (vt rfl) (AV.cons (vt rfl) (AV.cons (vt rfl) (AV.cons (vt rfl) (AV.cons (vt rfl) (AV.nil)))))) (fun _ w hw => zn_Changed givC (oa (some g1), 1) (oa (some g2), 1) (oa (some g3), 1) [y] [y] _ _ 1 1 (now % 64) (now % 64) w (CfIn.mk (RowL.h (enc := encI) (xs := givC.excl) (a := oa (some g1)) _ hw) (RowL.h (enc := encRs) (xs := givC.resv) (a := oa (some g2)) _ hw) (RowL.h (enc := encR) (xs := givC.stat) (a := oa (some g3)) _ hw)) giv_sz (RowL.h (enc := encL) (xs := [y]) _ hw) hg.hz (RowL.h (enc := encL) (xs := [y]) _ hw) hg.hz (ht.upd hw))) ?_
              refine WL.nilQa ?_
              refine RH.qa 8 rfl (O.mv) ?_
              first | refine RH.qa 9 rfl (O.extL) ?_ | refine RH.qa 9 rfl (O.ext) ?_
              first | refine RH.qa 10 rfl (O.extL) ?_ | refine RH.qa 10 rfl (O.ext) ?_
              refine RH.qa 11 rfl (O.as) ?_
              refine RH.qa 12 rfl (O.as) ?_
              refine RH.done (by kernel_rfl) (Q.tn ?_)
              refine ⟨(), trivial, ?_, ?_⟩; (repeat (first | exact trivial | refine ⟨rfl, ?_⟩)); (repeat (first | exact List.Sublist.refl _ | exact List.nil_sublist _ | apply List.Sublist.cons_cons | apply List.Sublist.cons | exact List.sublist_append_left _ _)); done
          · refine W.bs encL [⟨_, _, _, _, _, _⟩] rfl (PV.cons (vt rfl) (PV.nil)) rfl rfl rfl (by decide) rfl fun b30 => ?_
            refine WL.nilQa ?_
            refine RH.two (i := 0) (j := 2) (fun _ _ h => h) (by kernel_rfl) rfl rfl ?_ ?_
            · refine W.callN (first := []) (cap := []) rfl (vt rfl) (AV.nil) (fun w hu => law20_given w) ?_; rintro _ _ ⟨g1, g2, g3, rfl, rfl⟩
              refine WL.nilQa ?_
              refine RH.one (i := 2) (fun _ _ h => h) (by kernel_rfl) rfl ?_
              refine W.bs encL [⟨_, _, _, _, _, _⟩] rfl (PV.cons (vt rfl) (PV.nil)) rfl rfl rfl (by decide) rfl fun b31 => ?_
              refine WL.nilQa ?_
              refine RH.one (i := 7) (fun _ _ h => h) (by kernel_rfl) rfl ?_
              refine W.q (O.call ⟨rfl, rfl⟩ (AV.cons (vt rfl) (AV.cons (vt rfl) (AV.cons (vt rfl) (AV.cons (vt rfl) (AV.cons (vt rfl) (AV.nil)))))) (fun _ w hw => zn_Changed givC (oa (some g1), 1) (oa (some g2), 1) (oa (some g3), 1) [y] [y] _ _ 1 1 (now % 64) (now % 64) w (CfIn.mk (RowL.h (enc := encI) (xs := givC.excl) (a := oa (some g1)) _ hw) (RowL.h (enc := encRs) (xs := givC.resv) (a := oa (some g2)) _ hw) (RowL.h (enc := encR) (xs := givC.stat) (a := oa (some g3)) _ hw)) giv_sz (RowL.h (enc := encL) (xs := [y]) _ hw) hg.hz (RowL.h (enc := encL) (xs := [y]) _ hw) hg.hz (ht.upd hw))) ?_
              refine WL.nilQa ?_
              refine RH.qa 8 rfl (O.mv) ?_
              first | refine RH.qa 9 rfl (O.extL) ?_ | refine RH.qa 9 rfl (O.ext) ?_
              first | refine RH.qa 10 rfl (O.extL) ?_ | refine RH.qa 10 rfl (O.ext) ?_
              refine RH.qa 11 rfl (O.as) ?_
              refine RH.qa 12 rfl (O.as) ?_
              refine RH.done (by kernel_rfl) (Q.tn ?_)
              refine ⟨(), trivial, ?_, ?_⟩; (repeat (first | exact trivial | refine ⟨rfl, ?_⟩)); (repeat (first | exact List.Sublist.refl _ | exact List.nil_sublist _ | apply List.Sublist.cons_cons | apply List.Sublist.cons | exact List.sublist_append_left _ _)); done
            · refine W.bs encL [⟨_, _, _, _, _, _⟩] rfl (PV.cons (vt rfl) (PV.nil)) rfl rfl rfl (by decide) rfl fun b32 => ?_
              refine WL.nilQa ?_
              refine RH.one (i := 0) (fun _ _ h => h) (by kernel_rfl) rfl ?_
              refine W.callN (first := []) (cap := []) rfl (vt rfl) (AV.nil) (fun w hu => law20_given w) ?_; rintro _ _ ⟨g1, g2, g3, rfl, rfl⟩
              refine WL.nilQa ?_
              refine RH.one (i := 7) (fun _ _ h => h) (by kernel_rfl) rfl ?_
              refine W.q (O.call ⟨rfl, rfl⟩ (AV.cons (vt rfl) (AV.cons (vt rfl) (AV.cons (vt rfl) (AV.cons (vt rfl) (AV.cons (vt rfl) (AV.nil)))))) (fun _ w hw => zn_Changed givC (oa (some g1), 1) (oa (some g2), 1) (oa (some g3), 1) [y] [y] _ _ 1 1 (now % 64) (now % 64) w (CfIn.mk (RowL.h (enc := encI) (xs := givC.excl) (a := oa (some g1)) _ hw) (RowL.h (enc := encRs) (xs := givC.resv) (a := oa (some g2)) _ hw) (RowL.h (enc := encR) (xs := givC.stat) (a := oa (some g3)) _ hw)) giv_sz (RowL.h (enc := encL) (xs := [y]) _ hw) hg.hz (RowL.h (enc := encL) (xs := [y]) _ hw) hg.hz (ht.upd hw))) ?_
              refine WL.nilQa ?_
              refine RH.qa 8 rfl (O.mv) ?_
              first | refine RH.qa 9 rfl (O.extL) ?_ | refine RH.qa 9 rfl (O.ext) ?_
              first | refine RH.qa 10 rfl (O.extL) ?_ | refine RH.qa 10 rfl (O.ext) ?_
              refine RH.qa 11 rfl (O.as) ?_
              refine RH.qa 12 rfl (O.as) ?_
              refine RH.done (by kernel_rfl) (Q.tn ?_)
              refine ⟨(), trivial, ?_, ?_⟩; (repeat (first | exact trivial | refine ⟨rfl, ?_⟩)); (repeat (first | exact List.Sublist.refl _ | exact List.nil_sublist _ | apply List.Sublist.cons_cons | apply List.Sublist.cons | exact List.sublist_append_left _ _)); done
        · rintro _ _
          try dsimp only
          refine CW.seq ?_
          refine CW.region ?_
          refine W.p O.mv ?_
          refine W.q (O.call ⟨rfl, rfl⟩ (AV.cons (vt rfl) (AV.nil)) (fun _ w hw => law0_Num _ w)) ?_
          refine W.p O.eqI ?_
          refine W.p O.mv ?_
          refine W.p O.mv ?_
          refine W.q (O.call ⟨rfl, rfl⟩ (AV.cons (vs rfl) (AV.nil)) (fun _ w hw => law0_Num _ w)) ?_
          refine W.p O.eqI ?_
          refine W.p O.pkB ?_
          refine W.p O.mv ?_
          refine W.p O.mv ?_
          refine W.q (O.call ⟨rfl, rfl⟩ (AV.cons (vs rfl) (AV.nil)) (fun _ w hw => law0_Num _ w)) ?_
          refine W.p O.eqI ?_
          refine W.p O.pkB ?_
          refine W.p O.mv ?_
          refine W.p O.mv ?_
          refine W.p O.mv ?_
          refine W.p O.eqB ?_
          refine W.p O.pkB ?_
          refine W.p O.mv ?_
          refine W.p O.mv ?_
          refine W.p O.mv ?_
          refine W.p O.eqB ?_
          refine W.p O.pkB ?_
          refine W.p O.mv ?_
          refine W.p O.mv ?_
          refine W.p O.nt ?_
          refine W.p O.pkB ?_
          refine W.p O.as ?_
          refine WL.nil (Q.tn ?_)
          refine CW.ret ?_
          refine ⟨_, [], (RVs.tmp rfl RVs.nil), List.nil_sublist _, ?_⟩
          refine ⟨congrArg Value.bool ?_, rfl⟩
          rw [hg.h1, hg.h2, hg.h3]; simp
end Go.Proofs.YtagiajnpnjakhaaDoor
