/- The statement OptsForms: its walk. No condition. -/
import Derived.Test.YtkjcmdgideddnaaL6
import Derived.Test.YtkjcmdgideddnaaLies
set_option linter.unusedVariables false
set_option linter.unusedSimpArgs false
namespace Go.Proofs.Ytkjcmdgideddnaa
open Go Go.RowKit
theorem W.mkE {P : Program} {d n : Nat} {w0 : World} {L0 L : Heap} {all rest : List Oper} {E : Env} {Q : Post} {x y : Operand} {T U ty : TypeId} {pos : String} {aft : Array Edge} {k1 k2 : IntKind} {α : Type} {enc : α → List Value} {dv : α} {m kb c : Nat} {z : Value} [hT : TSlice P T U] [hS : TSize P U m] [hZ : TZero P U z] [hB : TByt P U kb]
    (hn : Nat.blt d n = true) (hx : Val true E x (.int k1 (c : Int))) (hy : Val true E y (.int k2 (c : Int))) (hz : z.cells = (enc dv).toArray) (hb : kb * c ≤ 281474976710656) (h63 : (c : Int) ≤ 9223372036854775807) (hc : madeCells (enc dv).toArray (c * m) = (flat enc (List.replicate c dv) []).toArray)
    (k : ∀ b, WL P n w0 L0 all rest ((d, true, .slice (some ⟨b, 0, none⟩) c c) :: E) ((b, .cells (flat enc (List.replicate c dv) []).toArray U (0, 0)) :: L) Q) : WL P n w0 L0 all (⟨some d, .makeSlice T x y, ty, pos, aft, none⟩ :: rest) E L Q :=
  W.new (v := fun b => .slice (some ⟨b, 0, none⟩) c c) rfl rfl hn (fun a w ha _ => by
    have hi := hS.h; have hzz := hZ.h; have hbb := hB.h
    cases hu : P.info? U with
    | none => simp [hu] at hi
    | some i =>
    simp only [hu, Option.map_some, Option.some.injEq, Option.bind_some] at hi hzz hbb
    have := run_make (P := P) w T U i z hT.h hu hzz k1 k2 c c (by omega) (Int.le_refl _) (by rw [hbb]; have : ((kb * c : Nat) : Int) ≤ 281474976710656 := by omega
                                                                                             rwa [Int.natCast_mul] at this) h63
    rw [hi, Int.toNat_natCast, hz, hc] at this
    simp [execOp, hx.eval rfl ha, hy.eval rfl ha, Sem.run_bind, this]) k
abbrev encLO : (Option Addr × List Opt) → List Value := fun p => [.slice p.1 p.2.length p.2.length]
instance : Enc encLO 1 (none, []) := ⟨fun _ => rfl, by decide⟩
theorem oss_all {q0 q1 q2 q3 q4 q5 q6 : Option Addr × List Opt} {P : Option Addr × List Opt → Prop} (h0 : P q0) (h1 : P q1) (h2 : P q2) (h3 : P q3) (h4 : P q4) (h5 : P q5) (h6 : P q6) {i : Int} (hi0 : 0 ≤ i) (hi : i < 7) : P ([q0, q1, q2, q3, q4, q5, q6].getD i.toNat (none, [])) := by
  rcases (by omega : i = 0 ∨ i = 1 ∨ i = 2 ∨ i = 3 ∨ i = 4 ∨ i = 5 ∨ i = 6) with rfl | rfl | rfl | rfl | rfl | rfl | rfl
  · exact h0
  · exact h1
  · exact h2
  · exact h3
  · exact h4
  · exact h5
  · exact h6
theorem one_no {o : Opt} (h : optOk o = false) : optsMay [o] = false := by simp [optsMay, h]
theorem putR_no {os : List Opt} (h : optsMay os = false) : putR os = ([], 600) := by simp [putR, h]
def txO : List (List UInt8) := [[5], [5, 1], [5, 2, 97], [0, 5], [5, 0, 6, 9, 97, 98, 99, 255]]
theorem txO_at {i : Int} (h0 : 0 ≤ i) (h1 : i < 5) : (txO.getD i.toNat []).length ≤ 30 ∧ (getR (txO.getD i.toNat [])).2 = 600 := by
  have key : ∀ n : Nat, n < 5 → (txO.getD n []).length ≤ 30 ∧ (getR (txO.getD n [])).2 = 600 := by decide +kernel
  exact key i.toNat (by omega)
theorem big_long : putR ([⟨1, (List.replicate (500 : Int).toNat (0 : UInt8))⟩, ⟨2, (List.replicate (500 : Int).toNat (0 : UInt8))⟩, ⟨3, (List.replicate (500 : Int).toNat (0 : UInt8))⟩] : List Opt) = ([], 601) := by decide +kernel
theorem bad_all (x : Int) (ys : List Opt) (hy : ys.length = 33) {b1 b2 b3 b4 b5 b6 b8 : Nat} {i : Int} (h0 : 0 ≤ i) (h1 : i < 7) : putR (([(some ⟨b2, 0, none⟩, [⟨0, []⟩]), (some ⟨b3, 0, none⟩, [⟨255, []⟩]), (some ⟨b4, 0, none⟩, [⟨-(1 + x % 1024), []⟩]), (some ⟨b5, 0, none⟩, [⟨254 + (1 + x % 1024), []⟩]), (some ⟨b6, 0, none⟩, [⟨5, []⟩, ⟨5, []⟩]), (some ⟨b8, 0, none⟩, [⟨5, (List.replicate (512 + (1 + x % 1024)).toNat (0 : UInt8))⟩]), (oa (some b1), ys)] : List (Option Addr × List Opt)).getD i.toNat (none, [])).2 = ([], 600) := by
  refine oss_all (P := fun p => putR p.2 = ([], 600)) ?_ ?_ ?_ ?_ ?_ ?_ ?_ h0 h1
  · exact putR_no (one_no (by decide))
  · exact putR_no (one_no (by decide))
  · refine putR_no (one_no ?_); simp only [optOk]; rw [decide_eq_false (by omega : ¬ 1 ≤ -(1 + x % 1024))]; rfl
  · refine putR_no (one_no ?_); simp only [optOk]; rw [decide_eq_false (by omega : ¬ 254 + (1 + x % 1024) ≤ 254)]; simp
  · exact putR_no (by show optsMay [⟨5, []⟩, ⟨5, []⟩] = false; decide)
  · refine putR_no (one_no ?_); simp only [optOk]; rw [decide_eq_false (by rw [List.length_replicate]; omega : ¬ (List.replicate (512 + (1 + x % 1024)).toNat (0 : UInt8)).length ≤ 512)]; simp
  · refine putR_no ?_; simp only [optsMay]; rw [decide_eq_false (by omega : ¬ ys.length ≤ 32)]; simp
set_option maxRecDepth 100000 in
set_option maxHeartbeats 4000000 in
theorem law6_OptsForms (which x : Int) (w : World) : Fn Try.prog 5 [.int .i64 which, .int .i64 x] w [] fun v L' => v = .bool true ∧ L' = [] := by
  have ht := txO_at (i := (which % 18446744073709551616 % 5)) (by omega) (by omega)
  have hl5 : txO.length = 5 := rfl
  have hrl : (List.replicate (512 + (1 + x % 1024)).toNat (0 : UInt8)).length = (512 + (1 + x % 1024)).toNat := List.length_replicate
  refine Fn.enter Try.func5 rfl rfl rfl rfl (Holds.nil w) ?_
  refine CW.seq ?_
  refine CW.region ?_
  refine W.p O.as ?_
  refine WL.nil (Q.tn ?_)
  refine CW.seq ?_
  refine CW.seq ?_
  refine CW.region ?_
  refine W.q (O.call ⟨rfl, rfl⟩ (AV.nil) (fun _ w hw => law6_awake w)) ?_
  refine W.p O.nt ?_
  refine WL.nil (Q.tn ?_)
  refine CW.cond (vt rfl) (fun hc1 => ?_) (fun hc1 => ?_)
  · exact absurd hc1 (by decide)
  try simp only [Bool.cond_true_left, Bool.cond_false_right, Bool.or_eq_true, Bool.or_eq_false_iff, Bool.and_eq_true, Bool.and_eq_false_iff, decide_eq_true_eq, decide_eq_false_iff_not, Bool.not_eq_true', Bool.not_eq_false'] at hc1
  refine CW.skip (Q.tn ?_)
  refine CW.seq ?_
  refine CW.region ?_
  refine W.p O.mv ?_
  refine W.p (O.andM 10 1024 (h := by decide) (hq := by decide) (hM := by decide)) ?_
  first | refine W.p O.addN ?_ | refine W.p O.add ?_
  refine W.p O.as ?_
  refine WL.nil (Q.tn ?_)
  refine CW.seq ?_
  refine CW.region ?_
  refine W.mkE (enc := encO) (dv := dO) (c := 33) rfl (vt rfl) (vt rfl) rfl (by decide) (by decide) (by kernel_rfl) fun b1 => ?_
  refine W.p O.as ?_
  refine WL.nil (Q.tn ?_)
  refine CW.seq ?_
  refine CW.seq ?_
  refine CW.region ?_
  refine W.p O.as ?_
  refine WL.nil (Q.tn ?_)
  refine CW.block ?_
  refine CW.loop (X := Int × (List Opt)) (fun ⟨i, ys⟩ => [(0, true, .int .i64 which), (5, true, .int .i64 (1 + x % 1024)), (6, true, .slice (oa (some b1)) ys.length ys.length), (7, true, .int .i64 i)]) (fun ⟨i, ys⟩ => rowL (some b1) 42 (flat encO ys [])) (fun ⟨i, ys⟩ => 0 ≤ i ∧ ys.length = 33) (fun ⟨i, ys⟩ => (33 - i).toNat) (0, List.replicate 33 ⟨0, []⟩) ?_ (by repeat (first | exact trivial | refine ⟨rfl, ?_⟩ | refine ⟨by (simp only [List.length_set]; rfl), ?_⟩)) (by repeat (first | exact List.Sublist.refl _ | exact List.sublist_append_left _ _ | exact List.nil_sublist _ | refine List.Sublist.append (List.Sublist.refl _) ?_ | apply List.Sublist.cons_cons | apply List.Sublist.cons | refine List.Sublist.trans ?_ (List.sublist_append_right _ _))) ?_
  · exact ⟨by omega, by simp⟩
  rintro ⟨i, ys⟩ hI
  try dsimp only at hI ⊢
  obtain ⟨h0, hy⟩ := hI
  refine CW.seq ?_
  refine CW.seq ?_
  refine CW.region ?_
  refine W.p O.mv ?_
  refine W.p O.mv ?_
  refine W.p O.lenL ?_
  refine W.p O.lss ?_
  refine WL.nil (Q.tn ?_)
  refine CW.cond (vt rfl) (fun hc2 => ?_) (fun hc2 => ?_)
  · try simp only [Bool.cond_true_left, Bool.cond_false_right, Bool.or_eq_true, Bool.or_eq_false_iff, Bool.and_eq_true, Bool.and_eq_false_iff, decide_eq_true_eq, decide_eq_false_iff_not, Bool.not_eq_true', Bool.not_eq_false'] at hc2
    refine CW.skip (Q.tn ?_)
    refine CW.seq ?_
    refine CW.block ?_
    refine CW.region ?_
    refine W.p O.mv ?_
    refine W.p O.mv ?_
    refine W.p O.mv ?_
    first | refine W.p O.addN ?_ | refine W.p O.add ?_
    refine W.p (O.bd (hv := PV.cons (vt rfl) (PV.nil))) ?_
    refine W.p O.ixA ?_
    refine W.stW (⟨1 + i, []⟩ : Opt) (vt rfl) (vt rfl) rfl (by omega) ?_
    refine WL.nil (Q.bn (Q.tn ?_))
    refine CW.region ?_
    refine W.p O.mv ?_
    first | refine W.p O.addN ?_ | refine W.p O.add ?_
    refine W.p O.as ?_
    refine WL.nil (Q.tn ?_)
    refine ⟨(i + 1, ys.set i.toNat ⟨1 + i, []⟩), ?_, ?_, (by repeat (first | exact trivial | refine ⟨rfl, ?_⟩ | refine ⟨by (simp only [List.length_set]; rfl), ?_⟩)), (by repeat (first | exact List.Sublist.refl _ | exact List.sublist_append_left _ _ | exact List.nil_sublist _ | refine List.Sublist.append (List.Sublist.refl _) ?_ | apply List.Sublist.cons_cons | apply List.Sublist.cons | refine List.Sublist.trans ?_ (List.sublist_append_right _ _)))⟩
    · try dsimp only
      exact ⟨by omega, by simpa using hy⟩
    · try dsimp only
      omega
  try simp only [Bool.cond_true_left, Bool.cond_false_right, Bool.or_eq_true, Bool.or_eq_false_iff, Bool.and_eq_true, Bool.and_eq_false_iff, decide_eq_true_eq, decide_eq_false_iff_not, Bool.not_eq_true', Bool.not_eq_false'] at hc2
  refine CW.exit (Q.te (Q.te (Q.bx (Q.tn ?_))))
  refine CW.seq ?_
  refine CW.region ?_
  refine W.p (O.bd (hv := PV.cons (vt rfl) (PV.nil))) ?_
  refine W.bs encO [⟨_, _⟩] rfl (PV.cons (vt rfl) (PV.nil)) rfl rfl rfl (by decide) rfl fun b2 => ?_
  refine W.p (O.bd (hv := PV.cons (vt rfl) (PV.nil))) ?_
  refine W.bs encO [⟨_, _⟩] rfl (PV.cons (vt rfl) (PV.nil)) rfl rfl rfl (by decide) rfl fun b3 => ?_
  refine W.p O.mv ?_
  first | refine W.p O.ngN ?_ | refine W.p O.ng ?_
  refine W.p (O.bd (hv := PV.cons (vt rfl) (PV.nil))) ?_
  refine W.bs encO [⟨_, _⟩] rfl (PV.cons (vt rfl) (PV.nil)) rfl rfl rfl (by decide) rfl fun b4 => ?_
  refine W.p O.mv ?_
  first | refine W.p O.addN ?_ | refine W.p O.add ?_
  refine W.p (O.bd (hv := PV.cons (vt rfl) (PV.nil))) ?_
  refine W.bs encO [⟨_, _⟩] rfl (PV.cons (vt rfl) (PV.nil)) rfl rfl rfl (by decide) rfl fun b5 => ?_
  refine W.p (O.bd (hv := PV.cons (vt rfl) (PV.nil))) ?_
  refine W.p (O.bd (hv := PV.cons (vt rfl) (PV.nil))) ?_
  refine W.bs encO [⟨_, _⟩, ⟨_, _⟩] rfl (PV.cons (vt rfl) (PV.cons (vt rfl) (PV.nil))) rfl rfl rfl (by decide) rfl fun b6 => ?_
  refine W.p O.mv ?_
  first | refine W.p O.addN ?_ | refine W.p O.add ?_
  refine W.mkF rfl (vt rfl) (vt rfl) (by first | omega | decide) fun b7 => ?_
  refine W.p (O.cvRow ⟨rfl, rfl⟩ (vt rfl) (by first | rfl | omega) (fun _ => ⟨_, rfl⟩)) ?_
  refine W.p (O.bd (hv := PV.cons (vt rfl) (PV.cons (vt rfl) (PV.nil)))) ?_
  refine W.bs encO [⟨_, _⟩] rfl (PV.cons (vt rfl) (PV.nil)) rfl rfl rfl (by decide) rfl fun b8 => ?_
  refine W.p O.mv ?_
  refine W.bs encLO ([(some ⟨b2, 0, none⟩, [⟨0, []⟩]), (some ⟨b3, 0, none⟩, [⟨255, []⟩]), (some ⟨b4, 0, none⟩, [⟨-(1 + x % 1024), []⟩]), (some ⟨b5, 0, none⟩, [⟨254 + (1 + x % 1024), []⟩]), (some ⟨b6, 0, none⟩, [⟨5, []⟩, ⟨5, []⟩]), (some ⟨b8, 0, none⟩, [⟨5, (List.replicate (512 + (1 + x % 1024)).toNat (0 : UInt8))⟩]), (oa (some b1), ys)] : List (Option Addr × List Opt)) rfl (PV.cons (vt rfl) (PV.cons (vt rfl) (PV.cons (vt rfl) (PV.cons (vt rfl) (PV.cons (vt rfl) (PV.cons (vt rfl) (PV.cons (vt rfl) (PV.nil)))))))) rfl rfl rfl (by decide) rfl fun b9 => ?_
  refine W.p O.as ?_
  refine WL.nil (Q.tn ?_)
  refine CW.seq ?_
  refine CW.region ?_
  refine W.p O.mv ?_
  refine W.p O.mv ?_
  refine W.p O.cvUn ?_
  refine W.p O.rem ?_
  first | refine W.p O.cvN ?_ | refine W.p O.cv ?_
  refine W.p O.ixA ?_
  refine W.p O.ldE ?_
  refine W.q (O.call ⟨rfl, rfl⟩ (AV.cons (vt rfl) (AV.nil)) (fun _ w hw => opts_Put (([(some ⟨b2, 0, none⟩, [⟨0, []⟩]), (some ⟨b3, 0, none⟩, [⟨255, []⟩]), (some ⟨b4, 0, none⟩, [⟨-(1 + x % 1024), []⟩]), (some ⟨b5, 0, none⟩, [⟨254 + (1 + x % 1024), []⟩]), (some ⟨b6, 0, none⟩, [⟨5, []⟩, ⟨5, []⟩]), (some ⟨b8, 0, none⟩, [⟨5, (List.replicate (512 + (1 + x % 1024)).toNat (0 : UInt8))⟩]), (oa (some b1), ys)] : List (Option Addr × List Opt)).getD (which % 18446744073709551616 % 7).toNat (none, [])).2 (([(some ⟨b2, 0, none⟩, [⟨0, []⟩]), (some ⟨b3, 0, none⟩, [⟨255, []⟩]), (some ⟨b4, 0, none⟩, [⟨-(1 + x % 1024), []⟩]), (some ⟨b5, 0, none⟩, [⟨254 + (1 + x % 1024), []⟩]), (some ⟨b6, 0, none⟩, [⟨5, []⟩, ⟨5, []⟩]), (some ⟨b8, 0, none⟩, [⟨5, (List.replicate (512 + (1 + x % 1024)).toNat (0 : UInt8))⟩]), (oa (some b1), ys)] : List (Option Addr × List Opt)).getD (which % 18446744073709551616 % 7).toNat (none, [])).1 (([(some ⟨b2, 0, none⟩, [⟨0, []⟩]), (some ⟨b3, 0, none⟩, [⟨255, []⟩]), (some ⟨b4, 0, none⟩, [⟨-(1 + x % 1024), []⟩]), (some ⟨b5, 0, none⟩, [⟨254 + (1 + x % 1024), []⟩]), (some ⟨b6, 0, none⟩, [⟨5, []⟩, ⟨5, []⟩]), (some ⟨b8, 0, none⟩, [⟨5, (List.replicate (512 + (1 + x % 1024)).toNat (0 : UInt8))⟩]), (oa (some b1), ys)] : List (Option Addr × List Opt)).getD (which % 18446744073709551616 % 7).toNat (none, [])).2.length w (oss_all (q0 := (some ⟨b2, 0, none⟩, [⟨0, []⟩])) (q1 := (some ⟨b3, 0, none⟩, [⟨255, []⟩])) (q2 := (some ⟨b4, 0, none⟩, [⟨-(1 + x % 1024), []⟩])) (q3 := (some ⟨b5, 0, none⟩, [⟨254 + (1 + x % 1024), []⟩])) (q4 := (some ⟨b6, 0, none⟩, [⟨5, []⟩, ⟨5, []⟩])) (q5 := (some ⟨b8, 0, none⟩, [⟨5, (List.replicate (512 + (1 + x % 1024)).toNat (0 : UInt8))⟩])) (q6 := (oa (some b1), ys)) (P := fun p => In w p.1 (p.2.flatMap encO)) (RowL.h _ hw) (RowL.h _ hw) (RowL.h _ hw) (RowL.h _ hw) (RowL.h _ hw) (RowL.h _ hw) (RowL.h _ hw) (by omega) (by omega)) (oss_all (q0 := (some ⟨b2, 0, none⟩, [⟨0, []⟩])) (q1 := (some ⟨b3, 0, none⟩, [⟨255, []⟩])) (q2 := (some ⟨b4, 0, none⟩, [⟨-(1 + x % 1024), []⟩])) (q3 := (some ⟨b5, 0, none⟩, [⟨254 + (1 + x % 1024), []⟩])) (q4 := (some ⟨b6, 0, none⟩, [⟨5, []⟩, ⟨5, []⟩])) (q5 := (some ⟨b8, 0, none⟩, [⟨5, (List.replicate (512 + (1 + x % 1024)).toNat (0 : UInt8))⟩])) (q6 := (oa (some b1), ys)) (P := fun p => p.2.length ≤ 140737488355328) (by simp) (by simp) (by simp) (by simp) (by simp) (by simp) (by dsimp only; omega) (by omega) (by omega)))) ?_
  refine W.p O.mv ?_
  first | refine W.p O.extL ?_ | refine W.p O.ext ?_
  first | refine W.p O.extL ?_ | refine W.p O.ext ?_
  refine W.p O.as ?_
  refine W.p O.as ?_
  refine WL.nil (Q.tn ?_)
  refine CW.join (X := Nat) (fun b => [(0, true, .int .i64 which), (9, true, .string (S (putR (([(some ⟨b2, 0, none⟩, [⟨0, []⟩]), (some ⟨b3, 0, none⟩, [⟨255, []⟩]), (some ⟨b4, 0, none⟩, [⟨-(1 + x % 1024), []⟩]), (some ⟨b5, 0, none⟩, [⟨254 + (1 + x % 1024), []⟩]), (some ⟨b6, 0, none⟩, [⟨5, []⟩, ⟨5, []⟩]), (some ⟨b8, 0, none⟩, [⟨5, (List.replicate (512 + (1 + x % 1024)).toNat (0 : UInt8))⟩]), (oa (some b1), ys)] : List (Option Addr × List Opt)).getD (which % 18446744073709551616 % 7).toNat (none, [])).2).1)), (10, true, .int .i64 (putR (([(some ⟨b2, 0, none⟩, [⟨0, []⟩]), (some ⟨b3, 0, none⟩, [⟨255, []⟩]), (some ⟨b4, 0, none⟩, [⟨-(1 + x % 1024), []⟩]), (some ⟨b5, 0, none⟩, [⟨254 + (1 + x % 1024), []⟩]), (some ⟨b6, 0, none⟩, [⟨5, []⟩, ⟨5, []⟩]), (some ⟨b8, 0, none⟩, [⟨5, (List.replicate (512 + (1 + x % 1024)).toNat (0 : UInt8))⟩]), (oa (some b1), ys)] : List (Option Addr × List Opt)).getD (which % 18446744073709551616 % 7).toNat (none, [])).2).2), (11, true, .slice (some ⟨b, 0, none⟩) 3 3)]) (fun b => [(b, .cells (flat encO ([⟨1, (List.replicate (500 : Int).toNat (0 : UInt8))⟩, ⟨2, (List.replicate (500 : Int).toNat (0 : UInt8))⟩, ⟨3, (List.replicate (500 : Int).toNat (0 : UInt8))⟩] : List Opt) []).toArray 42 (0, 0))]) (fun _ => True) ?_ ?_
  · refine CW.drawHL rfl ?_
    refine RH.three (i := 0) (j := 3) (k := 6) (fun _ _ h => h) (by kernel_rfl) rfl rfl rfl ?_ ?_ ?_
    · refine W.mkF rfl (vt rfl) (vt rfl) (by first | omega | decide) fun b10 => ?_
      refine WL.nilQn ⟨(by repeat (first | exact List.nil_sublist _ | exact List.Sublist.refl _ | exact List.sublist_append_left _ _ | exact List.sublist_append_right _ _ | apply List.Sublist.cons_cons | apply List.Sublist.cons | refine List.Sublist.trans ?_ (List.sublist_append_right _ _))), ?_⟩
      refine RH.three (i := 1) (j := 3) (k := 6) (fun _ _ h => h) (by kernel_rfl) rfl rfl rfl ?_ ?_ ?_
      · refine W.p (O.cvRow ⟨rfl, rfl⟩ (vt rfl) (by first | rfl | omega) (fun _ => ⟨_, rfl⟩)) ?_
        refine WL.nilQn ⟨(by repeat (first | exact List.nil_sublist _ | exact List.Sublist.refl _ | exact List.sublist_append_left _ _ | exact List.sublist_append_right _ _ | apply List.Sublist.cons_cons | apply List.Sublist.cons | refine List.Sublist.trans ?_ (List.sublist_append_right _ _))), ?_⟩
        refine RH.qa 2 rfl (O.bd (hv := PV.cons (vt rfl) (PV.cons (vt rfl) (PV.nil)))) ?_
        refine RH.two (i := 3) (j := 6) (fun _ _ h => h) (by kernel_rfl) rfl rfl ?_ ?_
        · refine W.mkF rfl (vt rfl) (vt rfl) (by first | omega | decide) fun b11 => ?_
          refine WL.nilQn ⟨(by repeat (first | exact List.nil_sublist _ | exact List.Sublist.refl _ | exact List.sublist_append_left _ _ | exact List.sublist_append_right _ _ | apply List.Sublist.cons_cons | apply List.Sublist.cons | refine List.Sublist.trans ?_ (List.sublist_append_right _ _))), ?_⟩
          refine RH.two (i := 4) (j := 6) (fun _ _ h => h) (by kernel_rfl) rfl rfl ?_ ?_
          · refine W.p (O.cvRow ⟨rfl, rfl⟩ (vt rfl) (by first | rfl | omega) (fun _ => ⟨_, rfl⟩)) ?_
            refine WL.nilQn ⟨(by repeat (first | exact List.nil_sublist _ | exact List.Sublist.refl _ | exact List.sublist_append_left _ _ | exact List.sublist_append_right _ _ | apply List.Sublist.cons_cons | apply List.Sublist.cons | refine List.Sublist.trans ?_ (List.sublist_append_right _ _))), ?_⟩
            refine RH.qa 5 rfl (O.bd (hv := PV.cons (vt rfl) (PV.cons (vt rfl) (PV.nil)))) ?_
            refine RH.one (i := 6) (fun _ _ h => h) (by kernel_rfl) rfl ?_
            refine W.mkF rfl (vt rfl) (vt rfl) (by first | omega | decide) fun b12 => ?_
            refine WL.nilQn ⟨(by repeat (first | exact List.nil_sublist _ | exact List.Sublist.refl _ | exact List.sublist_append_left _ _ | exact List.sublist_append_right _ _ | apply List.Sublist.cons_cons | apply List.Sublist.cons | refine List.Sublist.trans ?_ (List.sublist_append_right _ _))), ?_⟩
            refine RH.one (i := 7) (fun _ _ h => h) (by kernel_rfl) rfl ?_
            refine W.p (O.cvRow ⟨rfl, rfl⟩ (vt rfl) (by first | rfl | omega) (fun _ => ⟨_, rfl⟩)) ?_
            refine WL.nilQn ⟨(by repeat (first | exact List.nil_sublist _ | exact List.Sublist.refl _ | exact List.sublist_append_left _ _ | exact List.sublist_append_right _ _ | apply List.Sublist.cons_cons | apply List.Sublist.cons | refine List.Sublist.trans ?_ (List.sublist_append_right _ _))), ?_⟩
            refine RH.qa 8 rfl (O.bd (hv := PV.cons (vt rfl) (PV.cons (vt rfl) (PV.nil)))) ?_
            refine RH.one (i := 9) (fun _ _ h => h) (by kernel_rfl) rfl ?_
            refine W.bs encO ([⟨1, (List.replicate (500 : Int).toNat (0 : UInt8))⟩, ⟨2, (List.replicate (500 : Int).toNat (0 : UInt8))⟩, ⟨3, (List.replicate (500 : Int).toNat (0 : UInt8))⟩] : List Opt) rfl (PV.cons (vt rfl) (PV.cons (vt rfl) (PV.cons (vt rfl) (PV.nil)))) rfl rfl rfl (by decide) rfl fun b13 => ?_
            refine WL.nilQn ⟨(by repeat (first | exact List.nil_sublist _ | exact List.Sublist.refl _ | exact List.sublist_append_left _ _ | exact List.sublist_append_right _ _ | apply List.Sublist.cons_cons | apply List.Sublist.cons | refine List.Sublist.trans ?_ (List.sublist_append_right _ _))), ?_⟩
            refine RH.qa 10 rfl (O.as) ?_
            refine RH.done (by kernel_rfl) (Q.tn ?_)
            exact ⟨_, trivial, (by repeat (first | exact trivial | refine ⟨rfl, ?_⟩)), (by repeat (first | exact List.Sublist.refl _ | exact List.nil_sublist _ | apply List.Sublist.cons_cons | apply List.Sublist.cons | exact List.sublist_append_left _ _))⟩
          · refine W.mkF rfl (vt rfl) (vt rfl) (by first | omega | decide) fun b14 => ?_
            refine WL.nilQn ⟨(by repeat (first | exact List.nil_sublist _ | exact List.Sublist.refl _ | exact List.sublist_append_left _ _ | exact List.sublist_append_right _ _ | apply List.Sublist.cons_cons | apply List.Sublist.cons | refine List.Sublist.trans ?_ (List.sublist_append_right _ _))), ?_⟩
            refine RH.two (i := 4) (j := 7) (fun _ _ h => h) (by kernel_rfl) rfl rfl ?_ ?_
            · refine W.p (O.cvRow ⟨rfl, rfl⟩ (vt rfl) (by first | rfl | omega) (fun _ => ⟨_, rfl⟩)) ?_
              refine WL.nilQn ⟨(by repeat (first | exact List.nil_sublist _ | exact List.Sublist.refl _ | exact List.sublist_append_left _ _ | exact List.sublist_append_right _ _ | apply List.Sublist.cons_cons | apply List.Sublist.cons | refine List.Sublist.trans ?_ (List.sublist_append_right _ _))), ?_⟩
              refine RH.qa 5 rfl (O.bd (hv := PV.cons (vt rfl) (PV.cons (vt rfl) (PV.nil)))) ?_
              refine RH.one (i := 7) (fun _ _ h => h) (by kernel_rfl) rfl ?_
              refine W.p (O.cvRow ⟨rfl, rfl⟩ (vt rfl) (by first | rfl | omega) (fun _ => ⟨_, rfl⟩)) ?_
              refine WL.nilQn ⟨(by repeat (first | exact List.nil_sublist _ | exact List.Sublist.refl _ | exact List.sublist_append_left _ _ | exact List.sublist_append_right _ _ | apply List.Sublist.cons_cons | apply List.Sublist.cons | refine List.Sublist.trans ?_ (List.sublist_append_right _ _))), ?_⟩
              refine RH.qa 8 rfl (O.bd (hv := PV.cons (vt rfl) (PV.cons (vt rfl) (PV.nil)))) ?_
              refine RH.one (i := 9) (fun _ _ h => h) (by kernel_rfl) rfl ?_
              refine W.bs encO ([⟨1, (List.replicate (500 : Int).toNat (0 : UInt8))⟩, ⟨2, (List.replicate (500 : Int).toNat (0 : UInt8))⟩, ⟨3, (List.replicate (500 : Int).toNat (0 : UInt8))⟩] : List Opt) rfl (PV.cons (vt rfl) (PV.cons (vt rfl) (PV.cons (vt rfl) (PV.nil)))) rfl rfl rfl (by decide) rfl fun b15 => ?_
              refine WL.nilQn ⟨(by repeat (first | exact List.nil_sublist _ | exact List.Sublist.refl _ | exact List.sublist_append_left _ _ | exact List.sublist_append_right _ _ | apply List.Sublist.cons_cons | apply List.Sublist.cons | refine List.Sublist.trans ?_ (List.sublist_append_right _ _))), ?_⟩
              refine RH.qa 10 rfl (O.as) ?_
              refine RH.done (by kernel_rfl) (Q.tn ?_)
              exact ⟨_, trivial, (by repeat (first | exact trivial | refine ⟨rfl, ?_⟩)), (by repeat (first | exact List.Sublist.refl _ | exact List.nil_sublist _ | apply List.Sublist.cons_cons | apply List.Sublist.cons | exact List.sublist_append_left _ _))⟩
            · refine W.p (O.cvRow ⟨rfl, rfl⟩ (vt rfl) (by first | rfl | omega) (fun _ => ⟨_, rfl⟩)) ?_
              refine WL.nilQn ⟨(by repeat (first | exact List.nil_sublist _ | exact List.Sublist.refl _ | exact List.sublist_append_left _ _ | exact List.sublist_append_right _ _ | apply List.Sublist.cons_cons | apply List.Sublist.cons | refine List.Sublist.trans ?_ (List.sublist_append_right _ _))), ?_⟩
              refine RH.qa 8 rfl (O.bd (hv := PV.cons (vt rfl) (PV.cons (vt rfl) (PV.nil)))) ?_
              refine RH.one (i := 4) (fun _ _ h => h) (by kernel_rfl) rfl ?_
              refine W.p (O.cvRow ⟨rfl, rfl⟩ (vt rfl) (by first | rfl | omega) (fun _ => ⟨_, rfl⟩)) ?_
              refine WL.nilQn ⟨(by repeat (first | exact List.nil_sublist _ | exact List.Sublist.refl _ | exact List.sublist_append_left _ _ | exact List.sublist_append_right _ _ | apply List.Sublist.cons_cons | apply List.Sublist.cons | refine List.Sublist.trans ?_ (List.sublist_append_right _ _))), ?_⟩
              refine RH.qa 5 rfl (O.bd (hv := PV.cons (vt rfl) (PV.cons (vt rfl) (PV.nil)))) ?_
              refine RH.one (i := 9) (fun _ _ h => h) (by kernel_rfl) rfl ?_
              refine W.bs encO ([⟨1, (List.replicate (500 : Int).toNat (0 : UInt8))⟩, ⟨2, (List.replicate (500 : Int).toNat (0 : UInt8))⟩, ⟨3, (List.replicate (500 : Int).toNat (0 : UInt8))⟩] : List Opt) rfl (PV.cons (vt rfl) (PV.cons (vt rfl) (PV.cons (vt rfl) (PV.nil)))) rfl rfl rfl (by decide) rfl fun b16 => ?_
              refine WL.nilQn ⟨(by repeat (first | exact List.nil_sublist _ | exact List.Sublist.refl _ | exact List.sublist_append_left _ _ | exact List.sublist_append_right _ _ | apply List.Sublist.cons_cons | apply List.Sublist.cons | refine List.Sublist.trans ?_ (List.sublist_append_right _ _))), ?_⟩
              refine RH.qa 10 rfl (O.as) ?_
              refine RH.done (by kernel_rfl) (Q.tn ?_)
              exact ⟨_, trivial, (by repeat (first | exact trivial | refine ⟨rfl, ?_⟩)), (by repeat (first | exact List.Sublist.refl _ | exact List.nil_sublist _ | apply List.Sublist.cons_cons | apply List.Sublist.cons | exact List.sublist_append_left _ _))⟩
        · refine W.mkF rfl (vt rfl) (vt rfl) (by first | omega | decide) fun b17 => ?_
          refine WL.nilQn ⟨(by repeat (first | exact List.nil_sublist _ | exact List.Sublist.refl _ | exact List.sublist_append_left _ _ | exact List.sublist_append_right _ _ | apply List.Sublist.cons_cons | apply List.Sublist.cons | refine List.Sublist.trans ?_ (List.sublist_append_right _ _))), ?_⟩
          refine RH.two (i := 3) (j := 7) (fun _ _ h => h) (by kernel_rfl) rfl rfl ?_ ?_
          · refine W.mkF rfl (vt rfl) (vt rfl) (by first | omega | decide) fun b18 => ?_
            refine WL.nilQn ⟨(by repeat (first | exact List.nil_sublist _ | exact List.Sublist.refl _ | exact List.sublist_append_left _ _ | exact List.sublist_append_right _ _ | apply List.Sublist.cons_cons | apply List.Sublist.cons | refine List.Sublist.trans ?_ (List.sublist_append_right _ _))), ?_⟩
            refine RH.two (i := 4) (j := 7) (fun _ _ h => h) (by kernel_rfl) rfl rfl ?_ ?_
            · refine W.p (O.cvRow ⟨rfl, rfl⟩ (vt rfl) (by first | rfl | omega) (fun _ => ⟨_, rfl⟩)) ?_
              refine WL.nilQn ⟨(by repeat (first | exact List.nil_sublist _ | exact List.Sublist.refl _ | exact List.sublist_append_left _ _ | exact List.sublist_append_right _ _ | apply List.Sublist.cons_cons | apply List.Sublist.cons | refine List.Sublist.trans ?_ (List.sublist_append_right _ _))), ?_⟩
              refine RH.qa 5 rfl (O.bd (hv := PV.cons (vt rfl) (PV.cons (vt rfl) (PV.nil)))) ?_
              refine RH.one (i := 7) (fun _ _ h => h) (by kernel_rfl) rfl ?_
              refine W.p (O.cvRow ⟨rfl, rfl⟩ (vt rfl) (by first | rfl | omega) (fun _ => ⟨_, rfl⟩)) ?_
              refine WL.nilQn ⟨(by repeat (first | exact List.nil_sublist _ | exact List.Sublist.refl _ | exact List.sublist_append_left _ _ | exact List.sublist_append_right _ _ | apply List.Sublist.cons_cons | apply List.Sublist.cons | refine List.Sublist.trans ?_ (List.sublist_append_right _ _))), ?_⟩
              refine RH.qa 8 rfl (O.bd (hv := PV.cons (vt rfl) (PV.cons (vt rfl) (PV.nil)))) ?_
              refine RH.one (i := 9) (fun _ _ h => h) (by kernel_rfl) rfl ?_
              refine W.bs encO ([⟨1, (List.replicate (500 : Int).toNat (0 : UInt8))⟩, ⟨2, (List.replicate (500 : Int).toNat (0 : UInt8))⟩, ⟨3, (List.replicate (500 : Int).toNat (0 : UInt8))⟩] : List Opt) rfl (PV.cons (vt rfl) (PV.cons (vt rfl) (PV.cons (vt rfl) (PV.nil)))) rfl rfl rfl (by decide) rfl fun b19 => ?_
              refine WL.nilQn ⟨(by repeat (first | exact List.nil_sublist _ | exact List.Sublist.refl _ | exact List.sublist_append_left _ _ | exact List.sublist_append_right _ _ | apply List.Sublist.cons_cons | apply List.Sublist.cons | refine List.Sublist.trans ?_ (List.sublist_append_right _ _))), ?_⟩
              refine RH.qa 10 rfl (O.as) ?_
              refine RH.done (by kernel_rfl) (Q.tn ?_)
              exact ⟨_, trivial, (by repeat (first | exact trivial | refine ⟨rfl, ?_⟩)), (by repeat (first | exact List.Sublist.refl _ | exact List.nil_sublist _ | apply List.Sublist.cons_cons | apply List.Sublist.cons | exact List.sublist_append_left _ _))⟩
            · refine W.p (O.cvRow ⟨rfl, rfl⟩ (vt rfl) (by first | rfl | omega) (fun _ => ⟨_, rfl⟩)) ?_
              refine WL.nilQn ⟨(by repeat (first | exact List.nil_sublist _ | exact List.Sublist.refl _ | exact List.sublist_append_left _ _ | exact List.sublist_append_right _ _ | apply List.Sublist.cons_cons | apply List.Sublist.cons | refine List.Sublist.trans ?_ (List.sublist_append_right _ _))), ?_⟩
              refine RH.qa 8 rfl (O.bd (hv := PV.cons (vt rfl) (PV.cons (vt rfl) (PV.nil)))) ?_
              refine RH.one (i := 4) (fun _ _ h => h) (by kernel_rfl) rfl ?_
              refine W.p (O.cvRow ⟨rfl, rfl⟩ (vt rfl) (by first | rfl | omega) (fun _ => ⟨_, rfl⟩)) ?_
              refine WL.nilQn ⟨(by repeat (first | exact List.nil_sublist _ | exact List.Sublist.refl _ | exact List.sublist_append_left _ _ | exact List.sublist_append_right _ _ | apply List.Sublist.cons_cons | apply List.Sublist.cons | refine List.Sublist.trans ?_ (List.sublist_append_right _ _))), ?_⟩
              refine RH.qa 5 rfl (O.bd (hv := PV.cons (vt rfl) (PV.cons (vt rfl) (PV.nil)))) ?_
              refine RH.one (i := 9) (fun _ _ h => h) (by kernel_rfl) rfl ?_
              refine W.bs encO ([⟨1, (List.replicate (500 : Int).toNat (0 : UInt8))⟩, ⟨2, (List.replicate (500 : Int).toNat (0 : UInt8))⟩, ⟨3, (List.replicate (500 : Int).toNat (0 : UInt8))⟩] : List Opt) rfl (PV.cons (vt rfl) (PV.cons (vt rfl) (PV.cons (vt rfl) (PV.nil)))) rfl rfl rfl (by decide) rfl fun b20 => ?_
              refine WL.nilQn ⟨(by repeat (first | exact List.nil_sublist _ | exact List.Sublist.refl _ | exact List.sublist_append_left _ _ | exact List.sublist_append_right _ _ | apply List.Sublist.cons_cons | apply List.Sublist.cons | refine List.Sublist.trans ?_ (List.sublist_append_right _ _))), ?_⟩
              refine RH.qa 10 rfl (O.as) ?_
              refine RH.done (by kernel_rfl) (Q.tn ?_)
              exact ⟨_, trivial, (by repeat (first | exact trivial | refine ⟨rfl, ?_⟩)), (by repeat (first | exact List.Sublist.refl _ | exact List.nil_sublist _ | apply List.Sublist.cons_cons | apply List.Sublist.cons | exact List.sublist_append_left _ _))⟩
          · refine W.p (O.cvRow ⟨rfl, rfl⟩ (vt rfl) (by first | rfl | omega) (fun _ => ⟨_, rfl⟩)) ?_
            refine WL.nilQn ⟨(by repeat (first | exact List.nil_sublist _ | exact List.Sublist.refl _ | exact List.sublist_append_left _ _ | exact List.sublist_append_right _ _ | apply List.Sublist.cons_cons | apply List.Sublist.cons | refine List.Sublist.trans ?_ (List.sublist_append_right _ _))), ?_⟩
            refine RH.qa 8 rfl (O.bd (hv := PV.cons (vt rfl) (PV.cons (vt rfl) (PV.nil)))) ?_
            refine RH.one (i := 3) (fun _ _ h => h) (by kernel_rfl) rfl ?_
            refine W.mkF rfl (vt rfl) (vt rfl) (by first | omega | decide) fun b21 => ?_
            refine WL.nilQn ⟨(by repeat (first | exact List.nil_sublist _ | exact List.Sublist.refl _ | exact List.sublist_append_left _ _ | exact List.sublist_append_right _ _ | apply List.Sublist.cons_cons | apply List.Sublist.cons | refine List.Sublist.trans ?_ (List.sublist_append_right _ _))), ?_⟩
            refine RH.one (i := 4) (fun _ _ h => h) (by kernel_rfl) rfl ?_
            refine W.p (O.cvRow ⟨rfl, rfl⟩ (vt rfl) (by first | rfl | omega) (fun _ => ⟨_, rfl⟩)) ?_
            refine WL.nilQn ⟨(by repeat (first | exact List.nil_sublist _ | exact List.Sublist.refl _ | exact List.sublist_append_left _ _ | exact List.sublist_append_right _ _ | apply List.Sublist.cons_cons | apply List.Sublist.cons | refine List.Sublist.trans ?_ (List.sublist_append_right _ _))), ?_⟩
            refine RH.qa 5 rfl (O.bd (hv := PV.cons (vt rfl) (PV.cons (vt rfl) (PV.nil)))) ?_
            refine RH.one (i := 9) (fun _ _ h => h) (by kernel_rfl) rfl ?_
            refine W.bs encO ([⟨1, (List.replicate (500 : Int).toNat (0 : UInt8))⟩, ⟨2, (List.replicate (500 : Int).toNat (0 : UInt8))⟩, ⟨3, (List.replicate (500 : Int).toNat (0 : UInt8))⟩] : List Opt) rfl (PV.cons (vt rfl) (PV.cons (vt rfl) (PV.cons (vt rfl) (PV.nil)))) rfl rfl rfl (by decide) rfl fun b22 => ?_
            refine WL.nilQn ⟨(by repeat (first | exact List.nil_sublist _ | exact List.Sublist.refl _ | exact List.sublist_append_left _ _ | exact List.sublist_append_right _ _ | apply List.Sublist.cons_cons | apply List.Sublist.cons | refine List.Sublist.trans ?_ (List.sublist_append_right _ _))), ?_⟩
            refine RH.qa 10 rfl (O.as) ?_
            refine RH.done (by kernel_rfl) (Q.tn ?_)
            exact ⟨_, trivial, (by repeat (first | exact trivial | refine ⟨rfl, ?_⟩)), (by repeat (first | exact List.Sublist.refl _ | exact List.nil_sublist _ | apply List.Sublist.cons_cons | apply List.Sublist.cons | exact List.sublist_append_left _ _))⟩
      · refine W.mkF rfl (vt rfl) (vt rfl) (by first | omega | decide) fun b23 => ?_
        refine WL.nilQn ⟨(by repeat (first | exact List.nil_sublist _ | exact List.Sublist.refl _ | exact List.sublist_append_left _ _ | exact List.sublist_append_right _ _ | apply List.Sublist.cons_cons | apply List.Sublist.cons | refine List.Sublist.trans ?_ (List.sublist_append_right _ _))), ?_⟩
        refine RH.three (i := 1) (j := 4) (k := 6) (fun _ _ h => h) (by kernel_rfl) rfl rfl rfl ?_ ?_ ?_
        · refine W.p (O.cvRow ⟨rfl, rfl⟩ (vt rfl) (by first | rfl | omega) (fun _ => ⟨_, rfl⟩)) ?_
          refine WL.nilQn ⟨(by repeat (first | exact List.nil_sublist _ | exact List.Sublist.refl _ | exact List.sublist_append_left _ _ | exact List.sublist_append_right _ _ | apply List.Sublist.cons_cons | apply List.Sublist.cons | refine List.Sublist.trans ?_ (List.sublist_append_right _ _))), ?_⟩
          refine RH.qa 2 rfl (O.bd (hv := PV.cons (vt rfl) (PV.cons (vt rfl) (PV.nil)))) ?_
          refine RH.two (i := 4) (j := 6) (fun _ _ h => h) (by kernel_rfl) rfl rfl ?_ ?_
          · refine W.p (O.cvRow ⟨rfl, rfl⟩ (vt rfl) (by first | rfl | omega) (fun _ => ⟨_, rfl⟩)) ?_
            refine WL.nilQn ⟨(by repeat (first | exact List.nil_sublist _ | exact List.Sublist.refl _ | exact List.sublist_append_left _ _ | exact List.sublist_append_right _ _ | apply List.Sublist.cons_cons | apply List.Sublist.cons | refine List.Sublist.trans ?_ (List.sublist_append_right _ _))), ?_⟩
            refine RH.qa 5 rfl (O.bd (hv := PV.cons (vt rfl) (PV.cons (vt rfl) (PV.nil)))) ?_
            refine RH.one (i := 6) (fun _ _ h => h) (by kernel_rfl) rfl ?_
            refine W.mkF rfl (vt rfl) (vt rfl) (by first | omega | decide) fun b24 => ?_
            refine WL.nilQn ⟨(by repeat (first | exact List.nil_sublist _ | exact List.Sublist.refl _ | exact List.sublist_append_left _ _ | exact List.sublist_append_right _ _ | apply List.Sublist.cons_cons | apply List.Sublist.cons | refine List.Sublist.trans ?_ (List.sublist_append_right _ _))), ?_⟩
            refine RH.one (i := 7) (fun _ _ h => h) (by kernel_rfl) rfl ?_
            refine W.p (O.cvRow ⟨rfl, rfl⟩ (vt rfl) (by first | rfl | omega) (fun _ => ⟨_, rfl⟩)) ?_
            refine WL.nilQn ⟨(by repeat (first | exact List.nil_sublist _ | exact List.Sublist.refl _ | exact List.sublist_append_left _ _ | exact List.sublist_append_right _ _ | apply List.Sublist.cons_cons | apply List.Sublist.cons | refine List.Sublist.trans ?_ (List.sublist_append_right _ _))), ?_⟩
            refine RH.qa 8 rfl (O.bd (hv := PV.cons (vt rfl) (PV.cons (vt rfl) (PV.nil)))) ?_
            refine RH.one (i := 9) (fun _ _ h => h) (by kernel_rfl) rfl ?_
            refine W.bs encO ([⟨1, (List.replicate (500 : Int).toNat (0 : UInt8))⟩, ⟨2, (List.replicate (500 : Int).toNat (0 : UInt8))⟩, ⟨3, (List.replicate (500 : Int).toNat (0 : UInt8))⟩] : List Opt) rfl (PV.cons (vt rfl) (PV.cons (vt rfl) (PV.cons (vt rfl) (PV.nil)))) rfl rfl rfl (by decide) rfl fun b25 => ?_
            refine WL.nilQn ⟨(by repeat (first | exact List.nil_sublist _ | exact List.Sublist.refl _ | exact List.sublist_append_left _ _ | exact List.sublist_append_right _ _ | apply List.Sublist.cons_cons | apply List.Sublist.cons | refine List.Sublist.trans ?_ (List.sublist_append_right _ _))), ?_⟩
            refine RH.qa 10 rfl (O.as) ?_
            refine RH.done (by kernel_rfl) (Q.tn ?_)
            exact ⟨_, trivial, (by repeat (first | exact trivial | refine ⟨rfl, ?_⟩)), (by repeat (first | exact List.Sublist.refl _ | exact List.nil_sublist _ | apply List.Sublist.cons_cons | apply List.Sublist.cons | exact List.sublist_append_left _ _))⟩
          · refine W.mkF rfl (vt rfl) (vt rfl) (by first | omega | decide) fun b26 => ?_
            refine WL.nilQn ⟨(by repeat (first | exact List.nil_sublist _ | exact List.Sublist.refl _ | exact List.sublist_append_left _ _ | exact List.sublist_append_right _ _ | apply List.Sublist.cons_cons | apply List.Sublist.cons | refine List.Sublist.trans ?_ (List.sublist_append_right _ _))), ?_⟩
            refine RH.two (i := 4) (j := 7) (fun _ _ h => h) (by kernel_rfl) rfl rfl ?_ ?_
            · refine W.p (O.cvRow ⟨rfl, rfl⟩ (vt rfl) (by first | rfl | omega) (fun _ => ⟨_, rfl⟩)) ?_
              refine WL.nilQn ⟨(by repeat (first | exact List.nil_sublist _ | exact List.Sublist.refl _ | exact List.sublist_append_left _ _ | exact List.sublist_append_right _ _ | apply List.Sublist.cons_cons | apply List.Sublist.cons | refine List.Sublist.trans ?_ (List.sublist_append_right _ _))), ?_⟩
              refine RH.qa 5 rfl (O.bd (hv := PV.cons (vt rfl) (PV.cons (vt rfl) (PV.nil)))) ?_
              refine RH.one (i := 7) (fun _ _ h => h) (by kernel_rfl) rfl ?_
              refine W.p (O.cvRow ⟨rfl, rfl⟩ (vt rfl) (by first | rfl | omega) (fun _ => ⟨_, rfl⟩)) ?_
              refine WL.nilQn ⟨(by repeat (first | exact List.nil_sublist _ | exact List.Sublist.refl _ | exact List.sublist_append_left _ _ | exact List.sublist_append_right _ _ | apply List.Sublist.cons_cons | apply List.Sublist.cons | refine List.Sublist.trans ?_ (List.sublist_append_right _ _))), ?_⟩
              refine RH.qa 8 rfl (O.bd (hv := PV.cons (vt rfl) (PV.cons (vt rfl) (PV.nil)))) ?_
              refine RH.one (i := 9) (fun _ _ h => h) (by kernel_rfl) rfl ?_
              refine W.bs encO ([⟨1, (List.replicate (500 : Int).toNat (0 : UInt8))⟩, ⟨2, (List.replicate (500 : Int).toNat (0 : UInt8))⟩, ⟨3, (List.replicate (500 : Int).toNat (0 : UInt8))⟩] : List Opt) rfl (PV.cons (vt rfl) (PV.cons (vt rfl) (PV.cons (vt rfl) (PV.nil)))) rfl rfl rfl (by decide) rfl fun b27 => ?_
              refine WL.nilQn ⟨(by repeat (first | exact List.nil_sublist _ | exact List.Sublist.refl _ | exact List.sublist_append_left _ _ | exact List.sublist_append_right _ _ | apply List.Sublist.cons_cons | apply List.Sublist.cons | refine List.Sublist.trans ?_ (List.sublist_append_right _ _))), ?_⟩
              refine RH.qa 10 rfl (O.as) ?_
              refine RH.done (by kernel_rfl) (Q.tn ?_)
              exact ⟨_, trivial, (by repeat (first | exact trivial | refine ⟨rfl, ?_⟩)), (by repeat (first | exact List.Sublist.refl _ | exact List.nil_sublist _ | apply List.Sublist.cons_cons | apply List.Sublist.cons | exact List.sublist_append_left _ _))⟩
            · refine W.p (O.cvRow ⟨rfl, rfl⟩ (vt rfl) (by first | rfl | omega) (fun _ => ⟨_, rfl⟩)) ?_
              refine WL.nilQn ⟨(by repeat (first | exact List.nil_sublist _ | exact List.Sublist.refl _ | exact List.sublist_append_left _ _ | exact List.sublist_append_right _ _ | apply List.Sublist.cons_cons | apply List.Sublist.cons | refine List.Sublist.trans ?_ (List.sublist_append_right _ _))), ?_⟩
              refine RH.qa 8 rfl (O.bd (hv := PV.cons (vt rfl) (PV.cons (vt rfl) (PV.nil)))) ?_
              refine RH.one (i := 4) (fun _ _ h => h) (by kernel_rfl) rfl ?_
              refine W.p (O.cvRow ⟨rfl, rfl⟩ (vt rfl) (by first | rfl | omega) (fun _ => ⟨_, rfl⟩)) ?_
              refine WL.nilQn ⟨(by repeat (first | exact List.nil_sublist _ | exact List.Sublist.refl _ | exact List.sublist_append_left _ _ | exact List.sublist_append_right _ _ | apply List.Sublist.cons_cons | apply List.Sublist.cons | refine List.Sublist.trans ?_ (List.sublist_append_right _ _))), ?_⟩
              refine RH.qa 5 rfl (O.bd (hv := PV.cons (vt rfl) (PV.cons (vt rfl) (PV.nil)))) ?_
              refine RH.one (i := 9) (fun _ _ h => h) (by kernel_rfl) rfl ?_
              refine W.bs encO ([⟨1, (List.replicate (500 : Int).toNat (0 : UInt8))⟩, ⟨2, (List.replicate (500 : Int).toNat (0 : UInt8))⟩, ⟨3, (List.replicate (500 : Int).toNat (0 : UInt8))⟩] : List Opt) rfl (PV.cons (vt rfl) (PV.cons (vt rfl) (PV.cons (vt rfl) (PV.nil)))) rfl rfl rfl (by decide) rfl fun b28 => ?_
              refine WL.nilQn ⟨(by repeat (first | exact List.nil_sublist _ | exact List.Sublist.refl _ | exact List.sublist_append_left _ _ | exact List.sublist_append_right _ _ | apply List.Sublist.cons_cons | apply List.Sublist.cons | refine List.Sublist.trans ?_ (List.sublist_append_right _ _))), ?_⟩
              refine RH.qa 10 rfl (O.as) ?_
              refine RH.done (by kernel_rfl) (Q.tn ?_)
              exact ⟨_, trivial, (by repeat (first | exact trivial | refine ⟨rfl, ?_⟩)), (by repeat (first | exact List.Sublist.refl _ | exact List.nil_sublist _ | apply List.Sublist.cons_cons | apply List.Sublist.cons | exact List.sublist_append_left _ _))⟩
        · refine W.p (O.cvRow ⟨rfl, rfl⟩ (vt rfl) (by first | rfl | omega) (fun _ => ⟨_, rfl⟩)) ?_
          refine WL.nilQn ⟨(by repeat (first | exact List.nil_sublist _ | exact List.Sublist.refl _ | exact List.sublist_append_left _ _ | exact List.sublist_append_right _ _ | apply List.Sublist.cons_cons | apply List.Sublist.cons | refine List.Sublist.trans ?_ (List.sublist_append_right _ _))), ?_⟩
          refine RH.qa 5 rfl (O.bd (hv := PV.cons (vt rfl) (PV.cons (vt rfl) (PV.nil)))) ?_
          refine RH.two (i := 1) (j := 6) (fun _ _ h => h) (by kernel_rfl) rfl rfl ?_ ?_
          · refine W.p (O.cvRow ⟨rfl, rfl⟩ (vt rfl) (by first | rfl | omega) (fun _ => ⟨_, rfl⟩)) ?_
            refine WL.nilQn ⟨(by repeat (first | exact List.nil_sublist _ | exact List.Sublist.refl _ | exact List.sublist_append_left _ _ | exact List.sublist_append_right _ _ | apply List.Sublist.cons_cons | apply List.Sublist.cons | refine List.Sublist.trans ?_ (List.sublist_append_right _ _))), ?_⟩
            refine RH.qa 2 rfl (O.bd (hv := PV.cons (vt rfl) (PV.cons (vt rfl) (PV.nil)))) ?_
            refine RH.one (i := 6) (fun _ _ h => h) (by kernel_rfl) rfl ?_
            refine W.mkF rfl (vt rfl) (vt rfl) (by first | omega | decide) fun b29 => ?_
            refine WL.nilQn ⟨(by repeat (first | exact List.nil_sublist _ | exact List.Sublist.refl _ | exact List.sublist_append_left _ _ | exact List.sublist_append_right _ _ | apply List.Sublist.cons_cons | apply List.Sublist.cons | refine List.Sublist.trans ?_ (List.sublist_append_right _ _))), ?_⟩
            refine RH.one (i := 7) (fun _ _ h => h) (by kernel_rfl) rfl ?_
            refine W.p (O.cvRow ⟨rfl, rfl⟩ (vt rfl) (by first | rfl | omega) (fun _ => ⟨_, rfl⟩)) ?_
            refine WL.nilQn ⟨(by repeat (first | exact List.nil_sublist _ | exact List.Sublist.refl _ | exact List.sublist_append_left _ _ | exact List.sublist_append_right _ _ | apply List.Sublist.cons_cons | apply List.Sublist.cons | refine List.Sublist.trans ?_ (List.sublist_append_right _ _))), ?_⟩
            refine RH.qa 8 rfl (O.bd (hv := PV.cons (vt rfl) (PV.cons (vt rfl) (PV.nil)))) ?_
            refine RH.one (i := 9) (fun _ _ h => h) (by kernel_rfl) rfl ?_
            refine W.bs encO ([⟨1, (List.replicate (500 : Int).toNat (0 : UInt8))⟩, ⟨2, (List.replicate (500 : Int).toNat (0 : UInt8))⟩, ⟨3, (List.replicate (500 : Int).toNat (0 : UInt8))⟩] : List Opt) rfl (PV.cons (vt rfl) (PV.cons (vt rfl) (PV.cons (vt rfl) (PV.nil)))) rfl rfl rfl (by decide) rfl fun b30 => ?_
            refine WL.nilQn ⟨(by repeat (first | exact List.nil_sublist _ | exact List.Sublist.refl _ | exact List.sublist_append_left _ _ | exact List.sublist_append_right _ _ | apply List.Sublist.cons_cons | apply List.Sublist.cons | refine List.Sublist.trans ?_ (List.sublist_append_right _ _))), ?_⟩
            refine RH.qa 10 rfl (O.as) ?_
            refine RH.done (by kernel_rfl) (Q.tn ?_)
            exact ⟨_, trivial, (by repeat (first | exact trivial | refine ⟨rfl, ?_⟩)), (by repeat (first | exact List.Sublist.refl _ | exact List.nil_sublist _ | apply List.Sublist.cons_cons | apply List.Sublist.cons | exact List.sublist_append_left _ _))⟩
          · refine W.mkF rfl (vt rfl) (vt rfl) (by first | omega | decide) fun b31 => ?_
            refine WL.nilQn ⟨(by repeat (first | exact List.nil_sublist _ | exact List.Sublist.refl _ | exact List.sublist_append_left _ _ | exact List.sublist_append_right _ _ | apply List.Sublist.cons_cons | apply List.Sublist.cons | refine List.Sublist.trans ?_ (List.sublist_append_right _ _))), ?_⟩
            refine RH.two (i := 1) (j := 7) (fun _ _ h => h) (by kernel_rfl) rfl rfl ?_ ?_
            · refine W.p (O.cvRow ⟨rfl, rfl⟩ (vt rfl) (by first | rfl | omega) (fun _ => ⟨_, rfl⟩)) ?_
              refine WL.nilQn ⟨(by repeat (first | exact List.nil_sublist _ | exact List.Sublist.refl _ | exact List.sublist_append_left _ _ | exact List.sublist_append_right _ _ | apply List.Sublist.cons_cons | apply List.Sublist.cons | refine List.Sublist.trans ?_ (List.sublist_append_right _ _))), ?_⟩
              refine RH.qa 2 rfl (O.bd (hv := PV.cons (vt rfl) (PV.cons (vt rfl) (PV.nil)))) ?_
              refine RH.one (i := 7) (fun _ _ h => h) (by kernel_rfl) rfl ?_
              refine W.p (O.cvRow ⟨rfl, rfl⟩ (vt rfl) (by first | rfl | omega) (fun _ => ⟨_, rfl⟩)) ?_
              refine WL.nilQn ⟨(by repeat (first | exact List.nil_sublist _ | exact List.Sublist.refl _ | exact List.sublist_append_left _ _ | exact List.sublist_append_right _ _ | apply List.Sublist.cons_cons | apply List.Sublist.cons | refine List.Sublist.trans ?_ (List.sublist_append_right _ _))), ?_⟩
              refine RH.qa 8 rfl (O.bd (hv := PV.cons (vt rfl) (PV.cons (vt rfl) (PV.nil)))) ?_
              refine RH.one (i := 9) (fun _ _ h => h) (by kernel_rfl) rfl ?_
              refine W.bs encO ([⟨1, (List.replicate (500 : Int).toNat (0 : UInt8))⟩, ⟨2, (List.replicate (500 : Int).toNat (0 : UInt8))⟩, ⟨3, (List.replicate (500 : Int).toNat (0 : UInt8))⟩] : List Opt) rfl (PV.cons (vt rfl) (PV.cons (vt rfl) (PV.cons (vt rfl) (PV.nil)))) rfl rfl rfl (by decide) rfl fun b32 => ?_
              refine WL.nilQn ⟨(by repeat (first | exact List.nil_sublist _ | exact List.Sublist.refl _ | exact List.sublist_append_left _ _ | exact List.sublist_append_right _ _ | apply List.Sublist.cons_cons | apply List.Sublist.cons | refine List.Sublist.trans ?_ (List.sublist_append_right _ _))), ?_⟩
              refine RH.qa 10 rfl (O.as) ?_
              refine RH.done (by kernel_rfl) (Q.tn ?_)
              exact ⟨_, trivial, (by repeat (first | exact trivial | refine ⟨rfl, ?_⟩)), (by repeat (first | exact List.Sublist.refl _ | exact List.nil_sublist _ | apply List.Sublist.cons_cons | apply List.Sublist.cons | exact List.sublist_append_left _ _))⟩
            · refine W.p (O.cvRow ⟨rfl, rfl⟩ (vt rfl) (by first | rfl | omega) (fun _ => ⟨_, rfl⟩)) ?_
              refine WL.nilQn ⟨(by repeat (first | exact List.nil_sublist _ | exact List.Sublist.refl _ | exact List.sublist_append_left _ _ | exact List.sublist_append_right _ _ | apply List.Sublist.cons_cons | apply List.Sublist.cons | refine List.Sublist.trans ?_ (List.sublist_append_right _ _))), ?_⟩
              refine RH.qa 8 rfl (O.bd (hv := PV.cons (vt rfl) (PV.cons (vt rfl) (PV.nil)))) ?_
              refine RH.one (i := 1) (fun _ _ h => h) (by kernel_rfl) rfl ?_
              refine W.p (O.cvRow ⟨rfl, rfl⟩ (vt rfl) (by first | rfl | omega) (fun _ => ⟨_, rfl⟩)) ?_
              refine WL.nilQn ⟨(by repeat (first | exact List.nil_sublist _ | exact List.Sublist.refl _ | exact List.sublist_append_left _ _ | exact List.sublist_append_right _ _ | apply List.Sublist.cons_cons | apply List.Sublist.cons | refine List.Sublist.trans ?_ (List.sublist_append_right _ _))), ?_⟩
              refine RH.qa 2 rfl (O.bd (hv := PV.cons (vt rfl) (PV.cons (vt rfl) (PV.nil)))) ?_
              refine RH.one (i := 9) (fun _ _ h => h) (by kernel_rfl) rfl ?_
              refine W.bs encO ([⟨1, (List.replicate (500 : Int).toNat (0 : UInt8))⟩, ⟨2, (List.replicate (500 : Int).toNat (0 : UInt8))⟩, ⟨3, (List.replicate (500 : Int).toNat (0 : UInt8))⟩] : List Opt) rfl (PV.cons (vt rfl) (PV.cons (vt rfl) (PV.cons (vt rfl) (PV.nil)))) rfl rfl rfl (by decide) rfl fun b33 => ?_
              refine WL.nilQn ⟨(by repeat (first | exact List.nil_sublist _ | exact List.Sublist.refl _ | exact List.sublist_append_left _ _ | exact List.sublist_append_right _ _ | apply List.Sublist.cons_cons | apply List.Sublist.cons | refine List.Sublist.trans ?_ (List.sublist_append_right _ _))), ?_⟩
              refine RH.qa 10 rfl (O.as) ?_
              refine RH.done (by kernel_rfl) (Q.tn ?_)
              exact ⟨_, trivial, (by repeat (first | exact trivial | refine ⟨rfl, ?_⟩)), (by repeat (first | exact List.Sublist.refl _ | exact List.nil_sublist _ | apply List.Sublist.cons_cons | apply List.Sublist.cons | exact List.sublist_append_left _ _))⟩
        · refine W.mkF rfl (vt rfl) (vt rfl) (by first | omega | decide) fun b34 => ?_
          refine WL.nilQn ⟨(by repeat (first | exact List.nil_sublist _ | exact List.Sublist.refl _ | exact List.sublist_append_left _ _ | exact List.sublist_append_right _ _ | apply List.Sublist.cons_cons | apply List.Sublist.cons | refine List.Sublist.trans ?_ (List.sublist_append_right _ _))), ?_⟩
          refine RH.three (i := 1) (j := 4) (k := 7) (fun _ _ h => h) (by kernel_rfl) rfl rfl rfl ?_ ?_ ?_
          · refine W.p (O.cvRow ⟨rfl, rfl⟩ (vt rfl) (by first | rfl | omega) (fun _ => ⟨_, rfl⟩)) ?_
            refine WL.nilQn ⟨(by repeat (first | exact List.nil_sublist _ | exact List.Sublist.refl _ | exact List.sublist_append_left _ _ | exact List.sublist_append_right _ _ | apply List.Sublist.cons_cons | apply List.Sublist.cons | refine List.Sublist.trans ?_ (List.sublist_append_right _ _))), ?_⟩
            refine RH.qa 2 rfl (O.bd (hv := PV.cons (vt rfl) (PV.cons (vt rfl) (PV.nil)))) ?_
            refine RH.two (i := 4) (j := 7) (fun _ _ h => h) (by kernel_rfl) rfl rfl ?_ ?_
            · refine W.p (O.cvRow ⟨rfl, rfl⟩ (vt rfl) (by first | rfl | omega) (fun _ => ⟨_, rfl⟩)) ?_
              refine WL.nilQn ⟨(by repeat (first | exact List.nil_sublist _ | exact List.Sublist.refl _ | exact List.sublist_append_left _ _ | exact List.sublist_append_right _ _ | apply List.Sublist.cons_cons | apply List.Sublist.cons | refine List.Sublist.trans ?_ (List.sublist_append_right _ _))), ?_⟩
              refine RH.qa 5 rfl (O.bd (hv := PV.cons (vt rfl) (PV.cons (vt rfl) (PV.nil)))) ?_
              refine RH.one (i := 7) (fun _ _ h => h) (by kernel_rfl) rfl ?_
              refine W.p (O.cvRow ⟨rfl, rfl⟩ (vt rfl) (by first | rfl | omega) (fun _ => ⟨_, rfl⟩)) ?_
              refine WL.nilQn ⟨(by repeat (first | exact List.nil_sublist _ | exact List.Sublist.refl _ | exact List.sublist_append_left _ _ | exact List.sublist_append_right _ _ | apply List.Sublist.cons_cons | apply List.Sublist.cons | refine List.Sublist.trans ?_ (List.sublist_append_right _ _))), ?_⟩
              refine RH.qa 8 rfl (O.bd (hv := PV.cons (vt rfl) (PV.cons (vt rfl) (PV.nil)))) ?_
              refine RH.one (i := 9) (fun _ _ h => h) (by kernel_rfl) rfl ?_
              refine W.bs encO ([⟨1, (List.replicate (500 : Int).toNat (0 : UInt8))⟩, ⟨2, (List.replicate (500 : Int).toNat (0 : UInt8))⟩, ⟨3, (List.replicate (500 : Int).toNat (0 : UInt8))⟩] : List Opt) rfl (PV.cons (vt rfl) (PV.cons (vt rfl) (PV.cons (vt rfl) (PV.nil)))) rfl rfl rfl (by decide) rfl fun b35 => ?_
              refine WL.nilQn ⟨(by repeat (first | exact List.nil_sublist _ | exact List.Sublist.refl _ | exact List.sublist_append_left _ _ | exact List.sublist_append_right _ _ | apply List.Sublist.cons_cons | apply List.Sublist.cons | refine List.Sublist.trans ?_ (List.sublist_append_right _ _))), ?_⟩
              refine RH.qa 10 rfl (O.as) ?_
              refine RH.done (by kernel_rfl) (Q.tn ?_)
              exact ⟨_, trivial, (by repeat (first | exact trivial | refine ⟨rfl, ?_⟩)), (by repeat (first | exact List.Sublist.refl _ | exact List.nil_sublist _ | apply List.Sublist.cons_cons | apply List.Sublist.cons | exact List.sublist_append_left _ _))⟩
            · refine W.p (O.cvRow ⟨rfl, rfl⟩ (vt rfl) (by first | rfl | omega) (fun _ => ⟨_, rfl⟩)) ?_
              refine WL.nilQn ⟨(by repeat (first | exact List.nil_sublist _ | exact List.Sublist.refl _ | exact List.sublist_append_left _ _ | exact List.sublist_append_right _ _ | apply List.Sublist.cons_cons | apply List.Sublist.cons | refine List.Sublist.trans ?_ (List.sublist_append_right _ _))), ?_⟩
              refine RH.qa 8 rfl (O.bd (hv := PV.cons (vt rfl) (PV.cons (vt rfl) (PV.nil)))) ?_
              refine RH.one (i := 4) (fun _ _ h => h) (by kernel_rfl) rfl ?_
              refine W.p (O.cvRow ⟨rfl, rfl⟩ (vt rfl) (by first | rfl | omega) (fun _ => ⟨_, rfl⟩)) ?_
              refine WL.nilQn ⟨(by repeat (first | exact List.nil_sublist _ | exact List.Sublist.refl _ | exact List.sublist_append_left _ _ | exact List.sublist_append_right _ _ | apply List.Sublist.cons_cons | apply List.Sublist.cons | refine List.Sublist.trans ?_ (List.sublist_append_right _ _))), ?_⟩
              refine RH.qa 5 rfl (O.bd (hv := PV.cons (vt rfl) (PV.cons (vt rfl) (PV.nil)))) ?_
              refine RH.one (i := 9) (fun _ _ h => h) (by kernel_rfl) rfl ?_
              refine W.bs encO ([⟨1, (List.replicate (500 : Int).toNat (0 : UInt8))⟩, ⟨2, (List.replicate (500 : Int).toNat (0 : UInt8))⟩, ⟨3, (List.replicate (500 : Int).toNat (0 : UInt8))⟩] : List Opt) rfl (PV.cons (vt rfl) (PV.cons (vt rfl) (PV.cons (vt rfl) (PV.nil)))) rfl rfl rfl (by decide) rfl fun b36 => ?_
              refine WL.nilQn ⟨(by repeat (first | exact List.nil_sublist _ | exact List.Sublist.refl _ | exact List.sublist_append_left _ _ | exact List.sublist_append_right _ _ | apply List.Sublist.cons_cons | apply List.Sublist.cons | refine List.Sublist.trans ?_ (List.sublist_append_right _ _))), ?_⟩
              refine RH.qa 10 rfl (O.as) ?_
              refine RH.done (by kernel_rfl) (Q.tn ?_)
              exact ⟨_, trivial, (by repeat (first | exact trivial | refine ⟨rfl, ?_⟩)), (by repeat (first | exact List.Sublist.refl _ | exact List.nil_sublist _ | apply List.Sublist.cons_cons | apply List.Sublist.cons | exact List.sublist_append_left _ _))⟩
          · refine W.p (O.cvRow ⟨rfl, rfl⟩ (vt rfl) (by first | rfl | omega) (fun _ => ⟨_, rfl⟩)) ?_
            refine WL.nilQn ⟨(by repeat (first | exact List.nil_sublist _ | exact List.Sublist.refl _ | exact List.sublist_append_left _ _ | exact List.sublist_append_right _ _ | apply List.Sublist.cons_cons | apply List.Sublist.cons | refine List.Sublist.trans ?_ (List.sublist_append_right _ _))), ?_⟩
            refine RH.qa 5 rfl (O.bd (hv := PV.cons (vt rfl) (PV.cons (vt rfl) (PV.nil)))) ?_
            refine RH.two (i := 1) (j := 7) (fun _ _ h => h) (by kernel_rfl) rfl rfl ?_ ?_
            · refine W.p (O.cvRow ⟨rfl, rfl⟩ (vt rfl) (by first | rfl | omega) (fun _ => ⟨_, rfl⟩)) ?_
              refine WL.nilQn ⟨(by repeat (first | exact List.nil_sublist _ | exact List.Sublist.refl _ | exact List.sublist_append_left _ _ | exact List.sublist_append_right _ _ | apply List.Sublist.cons_cons | apply List.Sublist.cons | refine List.Sublist.trans ?_ (List.sublist_append_right _ _))), ?_⟩
              refine RH.qa 2 rfl (O.bd (hv := PV.cons (vt rfl) (PV.cons (vt rfl) (PV.nil)))) ?_
              refine RH.one (i := 7) (fun _ _ h => h) (by kernel_rfl) rfl ?_
              refine W.p (O.cvRow ⟨rfl, rfl⟩ (vt rfl) (by first | rfl | omega) (fun _ => ⟨_, rfl⟩)) ?_
              refine WL.nilQn ⟨(by repeat (first | exact List.nil_sublist _ | exact List.Sublist.refl _ | exact List.sublist_append_left _ _ | exact List.sublist_append_right _ _ | apply List.Sublist.cons_cons | apply List.Sublist.cons | refine List.Sublist.trans ?_ (List.sublist_append_right _ _))), ?_⟩
              refine RH.qa 8 rfl (O.bd (hv := PV.cons (vt rfl) (PV.cons (vt rfl) (PV.nil)))) ?_
              refine RH.one (i := 9) (fun _ _ h => h) (by kernel_rfl) rfl ?_
              refine W.bs encO ([⟨1, (List.replicate (500 : Int).toNat (0 : UInt8))⟩, ⟨2, (List.replicate (500 : Int).toNat (0 : UInt8))⟩, ⟨3, (List.replicate (500 : Int).toNat (0 : UInt8))⟩] : List Opt) rfl (PV.cons (vt rfl) (PV.cons (vt rfl) (PV.cons (vt rfl) (PV.nil)))) rfl rfl rfl (by decide) rfl fun b37 => ?_
              refine WL.nilQn ⟨(by repeat (first | exact List.nil_sublist _ | exact List.Sublist.refl _ | exact List.sublist_append_left _ _ | exact List.sublist_append_right _ _ | apply List.Sublist.cons_cons | apply List.Sublist.cons | refine List.Sublist.trans ?_ (List.sublist_append_right _ _))), ?_⟩
              refine RH.qa 10 rfl (O.as) ?_
              refine RH.done (by kernel_rfl) (Q.tn ?_)
              exact ⟨_, trivial, (by repeat (first | exact trivial | refine ⟨rfl, ?_⟩)), (by repeat (first | exact List.Sublist.refl _ | exact List.nil_sublist _ | apply List.Sublist.cons_cons | apply List.Sublist.cons | exact List.sublist_append_left _ _))⟩
            · refine W.p (O.cvRow ⟨rfl, rfl⟩ (vt rfl) (by first | rfl | omega) (fun _ => ⟨_, rfl⟩)) ?_
              refine WL.nilQn ⟨(by repeat (first | exact List.nil_sublist _ | exact List.Sublist.refl _ | exact List.sublist_append_left _ _ | exact List.sublist_append_right _ _ | apply List.Sublist.cons_cons | apply List.Sublist.cons | refine List.Sublist.trans ?_ (List.sublist_append_right _ _))), ?_⟩
              refine RH.qa 8 rfl (O.bd (hv := PV.cons (vt rfl) (PV.cons (vt rfl) (PV.nil)))) ?_
              refine RH.one (i := 1) (fun _ _ h => h) (by kernel_rfl) rfl ?_
              refine W.p (O.cvRow ⟨rfl, rfl⟩ (vt rfl) (by first | rfl | omega) (fun _ => ⟨_, rfl⟩)) ?_
              refine WL.nilQn ⟨(by repeat (first | exact List.nil_sublist _ | exact List.Sublist.refl _ | exact List.sublist_append_left _ _ | exact List.sublist_append_right _ _ | apply List.Sublist.cons_cons | apply List.Sublist.cons | refine List.Sublist.trans ?_ (List.sublist_append_right _ _))), ?_⟩
              refine RH.qa 2 rfl (O.bd (hv := PV.cons (vt rfl) (PV.cons (vt rfl) (PV.nil)))) ?_
              refine RH.one (i := 9) (fun _ _ h => h) (by kernel_rfl) rfl ?_
              refine W.bs encO ([⟨1, (List.replicate (500 : Int).toNat (0 : UInt8))⟩, ⟨2, (List.replicate (500 : Int).toNat (0 : UInt8))⟩, ⟨3, (List.replicate (500 : Int).toNat (0 : UInt8))⟩] : List Opt) rfl (PV.cons (vt rfl) (PV.cons (vt rfl) (PV.cons (vt rfl) (PV.nil)))) rfl rfl rfl (by decide) rfl fun b38 => ?_
              refine WL.nilQn ⟨(by repeat (first | exact List.nil_sublist _ | exact List.Sublist.refl _ | exact List.sublist_append_left _ _ | exact List.sublist_append_right _ _ | apply List.Sublist.cons_cons | apply List.Sublist.cons | refine List.Sublist.trans ?_ (List.sublist_append_right _ _))), ?_⟩
              refine RH.qa 10 rfl (O.as) ?_
              refine RH.done (by kernel_rfl) (Q.tn ?_)
              exact ⟨_, trivial, (by repeat (first | exact trivial | refine ⟨rfl, ?_⟩)), (by repeat (first | exact List.Sublist.refl _ | exact List.nil_sublist _ | apply List.Sublist.cons_cons | apply List.Sublist.cons | exact List.sublist_append_left _ _))⟩
          · refine W.p (O.cvRow ⟨rfl, rfl⟩ (vt rfl) (by first | rfl | omega) (fun _ => ⟨_, rfl⟩)) ?_
            refine WL.nilQn ⟨(by repeat (first | exact List.nil_sublist _ | exact List.Sublist.refl _ | exact List.sublist_append_left _ _ | exact List.sublist_append_right _ _ | apply List.Sublist.cons_cons | apply List.Sublist.cons | refine List.Sublist.trans ?_ (List.sublist_append_right _ _))), ?_⟩
            refine RH.qa 8 rfl (O.bd (hv := PV.cons (vt rfl) (PV.cons (vt rfl) (PV.nil)))) ?_
            refine RH.two (i := 1) (j := 4) (fun _ _ h => h) (by kernel_rfl) rfl rfl ?_ ?_
            · refine W.p (O.cvRow ⟨rfl, rfl⟩ (vt rfl) (by first | rfl | omega) (fun _ => ⟨_, rfl⟩)) ?_
              refine WL.nilQn ⟨(by repeat (first | exact List.nil_sublist _ | exact List.Sublist.refl _ | exact List.sublist_append_left _ _ | exact List.sublist_append_right _ _ | apply List.Sublist.cons_cons | apply List.Sublist.cons | refine List.Sublist.trans ?_ (List.sublist_append_right _ _))), ?_⟩
              refine RH.qa 2 rfl (O.bd (hv := PV.cons (vt rfl) (PV.cons (vt rfl) (PV.nil)))) ?_
              refine RH.one (i := 4) (fun _ _ h => h) (by kernel_rfl) rfl ?_
              refine W.p (O.cvRow ⟨rfl, rfl⟩ (vt rfl) (by first | rfl | omega) (fun _ => ⟨_, rfl⟩)) ?_
              refine WL.nilQn ⟨(by repeat (first | exact List.nil_sublist _ | exact List.Sublist.refl _ | exact List.sublist_append_left _ _ | exact List.sublist_append_right _ _ | apply List.Sublist.cons_cons | apply List.Sublist.cons | refine List.Sublist.trans ?_ (List.sublist_append_right _ _))), ?_⟩
              refine RH.qa 5 rfl (O.bd (hv := PV.cons (vt rfl) (PV.cons (vt rfl) (PV.nil)))) ?_
              refine RH.one (i := 9) (fun _ _ h => h) (by kernel_rfl) rfl ?_
              refine W.bs encO ([⟨1, (List.replicate (500 : Int).toNat (0 : UInt8))⟩, ⟨2, (List.replicate (500 : Int).toNat (0 : UInt8))⟩, ⟨3, (List.replicate (500 : Int).toNat (0 : UInt8))⟩] : List Opt) rfl (PV.cons (vt rfl) (PV.cons (vt rfl) (PV.cons (vt rfl) (PV.nil)))) rfl rfl rfl (by decide) rfl fun b39 => ?_
              refine WL.nilQn ⟨(by repeat (first | exact List.nil_sublist _ | exact List.Sublist.refl _ | exact List.sublist_append_left _ _ | exact List.sublist_append_right _ _ | apply List.Sublist.cons_cons | apply List.Sublist.cons | refine List.Sublist.trans ?_ (List.sublist_append_right _ _))), ?_⟩
              refine RH.qa 10 rfl (O.as) ?_
              refine RH.done (by kernel_rfl) (Q.tn ?_)
              exact ⟨_, trivial, (by repeat (first | exact trivial | refine ⟨rfl, ?_⟩)), (by repeat (first | exact List.Sublist.refl _ | exact List.nil_sublist _ | apply List.Sublist.cons_cons | apply List.Sublist.cons | exact List.sublist_append_left _ _))⟩
            · refine W.p (O.cvRow ⟨rfl, rfl⟩ (vt rfl) (by first | rfl | omega) (fun _ => ⟨_, rfl⟩)) ?_
              refine WL.nilQn ⟨(by repeat (first | exact List.nil_sublist _ | exact List.Sublist.refl _ | exact List.sublist_append_left _ _ | exact List.sublist_append_right _ _ | apply List.Sublist.cons_cons | apply List.Sublist.cons | refine List.Sublist.trans ?_ (List.sublist_append_right _ _))), ?_⟩
              refine RH.qa 5 rfl (O.bd (hv := PV.cons (vt rfl) (PV.cons (vt rfl) (PV.nil)))) ?_
              refine RH.one (i := 1) (fun _ _ h => h) (by kernel_rfl) rfl ?_
              refine W.p (O.cvRow ⟨rfl, rfl⟩ (vt rfl) (by first | rfl | omega) (fun _ => ⟨_, rfl⟩)) ?_
              refine WL.nilQn ⟨(by repeat (first | exact List.nil_sublist _ | exact List.Sublist.refl _ | exact List.sublist_append_left _ _ | exact List.sublist_append_right _ _ | apply List.Sublist.cons_cons | apply List.Sublist.cons | refine List.Sublist.trans ?_ (List.sublist_append_right _ _))), ?_⟩
              refine RH.qa 2 rfl (O.bd (hv := PV.cons (vt rfl) (PV.cons (vt rfl) (PV.nil)))) ?_
              refine RH.one (i := 9) (fun _ _ h => h) (by kernel_rfl) rfl ?_
              refine W.bs encO ([⟨1, (List.replicate (500 : Int).toNat (0 : UInt8))⟩, ⟨2, (List.replicate (500 : Int).toNat (0 : UInt8))⟩, ⟨3, (List.replicate (500 : Int).toNat (0 : UInt8))⟩] : List Opt) rfl (PV.cons (vt rfl) (PV.cons (vt rfl) (PV.cons (vt rfl) (PV.nil)))) rfl rfl rfl (by decide) rfl fun b40 => ?_
              refine WL.nilQn ⟨(by repeat (first | exact List.nil_sublist _ | exact List.Sublist.refl _ | exact List.sublist_append_left _ _ | exact List.sublist_append_right _ _ | apply List.Sublist.cons_cons | apply List.Sublist.cons | refine List.Sublist.trans ?_ (List.sublist_append_right _ _))), ?_⟩
              refine RH.qa 10 rfl (O.as) ?_
              refine RH.done (by kernel_rfl) (Q.tn ?_)
              exact ⟨_, trivial, (by repeat (first | exact trivial | refine ⟨rfl, ?_⟩)), (by repeat (first | exact List.Sublist.refl _ | exact List.nil_sublist _ | apply List.Sublist.cons_cons | apply List.Sublist.cons | exact List.sublist_append_left _ _))⟩
      · refine W.mkF rfl (vt rfl) (vt rfl) (by first | omega | decide) fun b41 => ?_
        refine WL.nilQn ⟨(by repeat (first | exact List.nil_sublist _ | exact List.Sublist.refl _ | exact List.sublist_append_left _ _ | exact List.sublist_append_right _ _ | apply List.Sublist.cons_cons | apply List.Sublist.cons | refine List.Sublist.trans ?_ (List.sublist_append_right _ _))), ?_⟩
        refine RH.three (i := 1) (j := 3) (k := 7) (fun _ _ h => h) (by kernel_rfl) rfl rfl rfl ?_ ?_ ?_
        · refine W.p (O.cvRow ⟨rfl, rfl⟩ (vt rfl) (by first | rfl | omega) (fun _ => ⟨_, rfl⟩)) ?_
          refine WL.nilQn ⟨(by repeat (first | exact List.nil_sublist _ | exact List.Sublist.refl _ | exact List.sublist_append_left _ _ | exact List.sublist_append_right _ _ | apply List.Sublist.cons_cons | apply List.Sublist.cons | refine List.Sublist.trans ?_ (List.sublist_append_right _ _))), ?_⟩
          refine RH.qa 2 rfl (O.bd (hv := PV.cons (vt rfl) (PV.cons (vt rfl) (PV.nil)))) ?_
          refine RH.two (i := 3) (j := 7) (fun _ _ h => h) (by kernel_rfl) rfl rfl ?_ ?_
          · refine W.mkF rfl (vt rfl) (vt rfl) (by first | omega | decide) fun b42 => ?_
            refine WL.nilQn ⟨(by repeat (first | exact List.nil_sublist _ | exact List.Sublist.refl _ | exact List.sublist_append_left _ _ | exact List.sublist_append_right _ _ | apply List.Sublist.cons_cons | apply List.Sublist.cons | refine List.Sublist.trans ?_ (List.sublist_append_right _ _))), ?_⟩
            refine RH.two (i := 4) (j := 7) (fun _ _ h => h) (by kernel_rfl) rfl rfl ?_ ?_
            · refine W.p (O.cvRow ⟨rfl, rfl⟩ (vt rfl) (by first | rfl | omega) (fun _ => ⟨_, rfl⟩)) ?_
              refine WL.nilQn ⟨(by repeat (first | exact List.nil_sublist _ | exact List.Sublist.refl _ | exact List.sublist_append_left _ _ | exact List.sublist_append_right _ _ | apply List.Sublist.cons_cons | apply List.Sublist.cons | refine List.Sublist.trans ?_ (List.sublist_append_right _ _))), ?_⟩
              refine RH.qa 5 rfl (O.bd (hv := PV.cons (vt rfl) (PV.cons (vt rfl) (PV.nil)))) ?_
              refine RH.one (i := 7) (fun _ _ h => h) (by kernel_rfl) rfl ?_
              refine W.p (O.cvRow ⟨rfl, rfl⟩ (vt rfl) (by first | rfl | omega) (fun _ => ⟨_, rfl⟩)) ?_
              refine WL.nilQn ⟨(by repeat (first | exact List.nil_sublist _ | exact List.Sublist.refl _ | exact List.sublist_append_left _ _ | exact List.sublist_append_right _ _ | apply List.Sublist.cons_cons | apply List.Sublist.cons | refine List.Sublist.trans ?_ (List.sublist_append_right _ _))), ?_⟩
              refine RH.qa 8 rfl (O.bd (hv := PV.cons (vt rfl) (PV.cons (vt rfl) (PV.nil)))) ?_
              refine RH.one (i := 9) (fun _ _ h => h) (by kernel_rfl) rfl ?_
              refine W.bs encO ([⟨1, (List.replicate (500 : Int).toNat (0 : UInt8))⟩, ⟨2, (List.replicate (500 : Int).toNat (0 : UInt8))⟩, ⟨3, (List.replicate (500 : Int).toNat (0 : UInt8))⟩] : List Opt) rfl (PV.cons (vt rfl) (PV.cons (vt rfl) (PV.cons (vt rfl) (PV.nil)))) rfl rfl rfl (by decide) rfl fun b43 => ?_
              refine WL.nilQn ⟨(by repeat (first | exact List.nil_sublist _ | exact List.Sublist.refl _ | exact List.sublist_append_left _ _ | exact List.sublist_append_right _ _ | apply List.Sublist.cons_cons | apply List.Sublist.cons | refine List.Sublist.trans ?_ (List.sublist_append_right _ _))), ?_⟩
              refine RH.qa 10 rfl (O.as) ?_
              refine RH.done (by kernel_rfl) (Q.tn ?_)
              exact ⟨_, trivial, (by repeat (first | exact trivial | refine ⟨rfl, ?_⟩)), (by repeat (first | exact List.Sublist.refl _ | exact List.nil_sublist _ | apply List.Sublist.cons_cons | apply List.Sublist.cons | exact List.sublist_append_left _ _))⟩
            · refine W.p (O.cvRow ⟨rfl, rfl⟩ (vt rfl) (by first | rfl | omega) (fun _ => ⟨_, rfl⟩)) ?_
              refine WL.nilQn ⟨(by repeat (first | exact List.nil_sublist _ | exact List.Sublist.refl _ | exact List.sublist_append_left _ _ | exact List.sublist_append_right _ _ | apply List.Sublist.cons_cons | apply List.Sublist.cons | refine List.Sublist.trans ?_ (List.sublist_append_right _ _))), ?_⟩
              refine RH.qa 8 rfl (O.bd (hv := PV.cons (vt rfl) (PV.cons (vt rfl) (PV.nil)))) ?_
              refine RH.one (i := 4) (fun _ _ h => h) (by kernel_rfl) rfl ?_
              refine W.p (O.cvRow ⟨rfl, rfl⟩ (vt rfl) (by first | rfl | omega) (fun _ => ⟨_, rfl⟩)) ?_
              refine WL.nilQn ⟨(by repeat (first | exact List.nil_sublist _ | exact List.Sublist.refl _ | exact List.sublist_append_left _ _ | exact List.sublist_append_right _ _ | apply List.Sublist.cons_cons | apply List.Sublist.cons | refine List.Sublist.trans ?_ (List.sublist_append_right _ _))), ?_⟩
              refine RH.qa 5 rfl (O.bd (hv := PV.cons (vt rfl) (PV.cons (vt rfl) (PV.nil)))) ?_
              refine RH.one (i := 9) (fun _ _ h => h) (by kernel_rfl) rfl ?_
              refine W.bs encO ([⟨1, (List.replicate (500 : Int).toNat (0 : UInt8))⟩, ⟨2, (List.replicate (500 : Int).toNat (0 : UInt8))⟩, ⟨3, (List.replicate (500 : Int).toNat (0 : UInt8))⟩] : List Opt) rfl (PV.cons (vt rfl) (PV.cons (vt rfl) (PV.cons (vt rfl) (PV.nil)))) rfl rfl rfl (by decide) rfl fun b44 => ?_
              refine WL.nilQn ⟨(by repeat (first | exact List.nil_sublist _ | exact List.Sublist.refl _ | exact List.sublist_append_left _ _ | exact List.sublist_append_right _ _ | apply List.Sublist.cons_cons | apply List.Sublist.cons | refine List.Sublist.trans ?_ (List.sublist_append_right _ _))), ?_⟩
              refine RH.qa 10 rfl (O.as) ?_
              refine RH.done (by kernel_rfl) (Q.tn ?_)
              exact ⟨_, trivial, (by repeat (first | exact trivial | refine ⟨rfl, ?_⟩)), (by repeat (first | exact List.Sublist.refl _ | exact List.nil_sublist _ | apply List.Sublist.cons_cons | apply List.Sublist.cons | exact List.sublist_append_left _ _))⟩
          · refine W.p (O.cvRow ⟨rfl, rfl⟩ (vt rfl) (by first | rfl | omega) (fun _ => ⟨_, rfl⟩)) ?_
            refine WL.nilQn ⟨(by repeat (first | exact List.nil_sublist _ | exact List.Sublist.refl _ | exact List.sublist_append_left _ _ | exact List.sublist_append_right _ _ | apply List.Sublist.cons_cons | apply List.Sublist.cons | refine List.Sublist.trans ?_ (List.sublist_append_right _ _))), ?_⟩
            refine RH.qa 8 rfl (O.bd (hv := PV.cons (vt rfl) (PV.cons (vt rfl) (PV.nil)))) ?_
            refine RH.one (i := 3) (fun _ _ h => h) (by kernel_rfl) rfl ?_
            refine W.mkF rfl (vt rfl) (vt rfl) (by first | omega | decide) fun b45 => ?_
            refine WL.nilQn ⟨(by repeat (first | exact List.nil_sublist _ | exact List.Sublist.refl _ | exact List.sublist_append_left _ _ | exact List.sublist_append_right _ _ | apply List.Sublist.cons_cons | apply List.Sublist.cons | refine List.Sublist.trans ?_ (List.sublist_append_right _ _))), ?_⟩
            refine RH.one (i := 4) (fun _ _ h => h) (by kernel_rfl) rfl ?_
            refine W.p (O.cvRow ⟨rfl, rfl⟩ (vt rfl) (by first | rfl | omega) (fun _ => ⟨_, rfl⟩)) ?_
            refine WL.nilQn ⟨(by repeat (first | exact List.nil_sublist _ | exact List.Sublist.refl _ | exact List.sublist_append_left _ _ | exact List.sublist_append_right _ _ | apply List.Sublist.cons_cons | apply List.Sublist.cons | refine List.Sublist.trans ?_ (List.sublist_append_right _ _))), ?_⟩
            refine RH.qa 5 rfl (O.bd (hv := PV.cons (vt rfl) (PV.cons (vt rfl) (PV.nil)))) ?_
            refine RH.one (i := 9) (fun _ _ h => h) (by kernel_rfl) rfl ?_
            refine W.bs encO ([⟨1, (List.replicate (500 : Int).toNat (0 : UInt8))⟩, ⟨2, (List.replicate (500 : Int).toNat (0 : UInt8))⟩, ⟨3, (List.replicate (500 : Int).toNat (0 : UInt8))⟩] : List Opt) rfl (PV.cons (vt rfl) (PV.cons (vt rfl) (PV.cons (vt rfl) (PV.nil)))) rfl rfl rfl (by decide) rfl fun b46 => ?_
            refine WL.nilQn ⟨(by repeat (first | exact List.nil_sublist _ | exact List.Sublist.refl _ | exact List.sublist_append_left _ _ | exact List.sublist_append_right _ _ | apply List.Sublist.cons_cons | apply List.Sublist.cons | refine List.Sublist.trans ?_ (List.sublist_append_right _ _))), ?_⟩
            refine RH.qa 10 rfl (O.as) ?_
            refine RH.done (by kernel_rfl) (Q.tn ?_)
            exact ⟨_, trivial, (by repeat (first | exact trivial | refine ⟨rfl, ?_⟩)), (by repeat (first | exact List.Sublist.refl _ | exact List.nil_sublist _ | apply List.Sublist.cons_cons | apply List.Sublist.cons | exact List.sublist_append_left _ _))⟩
        · refine W.mkF rfl (vt rfl) (vt rfl) (by first | omega | decide) fun b47 => ?_
          refine WL.nilQn ⟨(by repeat (first | exact List.nil_sublist _ | exact List.Sublist.refl _ | exact List.sublist_append_left _ _ | exact List.sublist_append_right _ _ | apply List.Sublist.cons_cons | apply List.Sublist.cons | refine List.Sublist.trans ?_ (List.sublist_append_right _ _))), ?_⟩
          refine RH.three (i := 1) (j := 4) (k := 7) (fun _ _ h => h) (by kernel_rfl) rfl rfl rfl ?_ ?_ ?_
          · refine W.p (O.cvRow ⟨rfl, rfl⟩ (vt rfl) (by first | rfl | omega) (fun _ => ⟨_, rfl⟩)) ?_
            refine WL.nilQn ⟨(by repeat (first | exact List.nil_sublist _ | exact List.Sublist.refl _ | exact List.sublist_append_left _ _ | exact List.sublist_append_right _ _ | apply List.Sublist.cons_cons | apply List.Sublist.cons | refine List.Sublist.trans ?_ (List.sublist_append_right _ _))), ?_⟩
            refine RH.qa 2 rfl (O.bd (hv := PV.cons (vt rfl) (PV.cons (vt rfl) (PV.nil)))) ?_
            refine RH.two (i := 4) (j := 7) (fun _ _ h => h) (by kernel_rfl) rfl rfl ?_ ?_
            · refine W.p (O.cvRow ⟨rfl, rfl⟩ (vt rfl) (by first | rfl | omega) (fun _ => ⟨_, rfl⟩)) ?_
              refine WL.nilQn ⟨(by repeat (first | exact List.nil_sublist _ | exact List.Sublist.refl _ | exact List.sublist_append_left _ _ | exact List.sublist_append_right _ _ | apply List.Sublist.cons_cons | apply List.Sublist.cons | refine List.Sublist.trans ?_ (List.sublist_append_right _ _))), ?_⟩
              refine RH.qa 5 rfl (O.bd (hv := PV.cons (vt rfl) (PV.cons (vt rfl) (PV.nil)))) ?_
              refine RH.one (i := 7) (fun _ _ h => h) (by kernel_rfl) rfl ?_
              refine W.p (O.cvRow ⟨rfl, rfl⟩ (vt rfl) (by first | rfl | omega) (fun _ => ⟨_, rfl⟩)) ?_
              refine WL.nilQn ⟨(by repeat (first | exact List.nil_sublist _ | exact List.Sublist.refl _ | exact List.sublist_append_left _ _ | exact List.sublist_append_right _ _ | apply List.Sublist.cons_cons | apply List.Sublist.cons | refine List.Sublist.trans ?_ (List.sublist_append_right _ _))), ?_⟩
              refine RH.qa 8 rfl (O.bd (hv := PV.cons (vt rfl) (PV.cons (vt rfl) (PV.nil)))) ?_
              refine RH.one (i := 9) (fun _ _ h => h) (by kernel_rfl) rfl ?_
              refine W.bs encO ([⟨1, (List.replicate (500 : Int).toNat (0 : UInt8))⟩, ⟨2, (List.replicate (500 : Int).toNat (0 : UInt8))⟩, ⟨3, (List.replicate (500 : Int).toNat (0 : UInt8))⟩] : List Opt) rfl (PV.cons (vt rfl) (PV.cons (vt rfl) (PV.cons (vt rfl) (PV.nil)))) rfl rfl rfl (by decide) rfl fun b48 => ?_
              refine WL.nilQn ⟨(by repeat (first | exact List.nil_sublist _ | exact List.Sublist.refl _ | exact List.sublist_append_left _ _ | exact List.sublist_append_right _ _ | apply List.Sublist.cons_cons | apply List.Sublist.cons | refine List.Sublist.trans ?_ (List.sublist_append_right _ _))), ?_⟩
              refine RH.qa 10 rfl (O.as) ?_
              refine RH.done (by kernel_rfl) (Q.tn ?_)
              exact ⟨_, trivial, (by repeat (first | exact trivial | refine ⟨rfl, ?_⟩)), (by repeat (first | exact List.Sublist.refl _ | exact List.nil_sublist _ | apply List.Sublist.cons_cons | apply List.Sublist.cons | exact List.sublist_append_left _ _))⟩
            · refine W.p (O.cvRow ⟨rfl, rfl⟩ (vt rfl) (by first | rfl | omega) (fun _ => ⟨_, rfl⟩)) ?_
              refine WL.nilQn ⟨(by repeat (first | exact List.nil_sublist _ | exact List.Sublist.refl _ | exact List.sublist_append_left _ _ | exact List.sublist_append_right _ _ | apply List.Sublist.cons_cons | apply List.Sublist.cons | refine List.Sublist.trans ?_ (List.sublist_append_right _ _))), ?_⟩
              refine RH.qa 8 rfl (O.bd (hv := PV.cons (vt rfl) (PV.cons (vt rfl) (PV.nil)))) ?_
              refine RH.one (i := 4) (fun _ _ h => h) (by kernel_rfl) rfl ?_
              refine W.p (O.cvRow ⟨rfl, rfl⟩ (vt rfl) (by first | rfl | omega) (fun _ => ⟨_, rfl⟩)) ?_
              refine WL.nilQn ⟨(by repeat (first | exact List.nil_sublist _ | exact List.Sublist.refl _ | exact List.sublist_append_left _ _ | exact List.sublist_append_right _ _ | apply List.Sublist.cons_cons | apply List.Sublist.cons | refine List.Sublist.trans ?_ (List.sublist_append_right _ _))), ?_⟩
              refine RH.qa 5 rfl (O.bd (hv := PV.cons (vt rfl) (PV.cons (vt rfl) (PV.nil)))) ?_
              refine RH.one (i := 9) (fun _ _ h => h) (by kernel_rfl) rfl ?_
              refine W.bs encO ([⟨1, (List.replicate (500 : Int).toNat (0 : UInt8))⟩, ⟨2, (List.replicate (500 : Int).toNat (0 : UInt8))⟩, ⟨3, (List.replicate (500 : Int).toNat (0 : UInt8))⟩] : List Opt) rfl (PV.cons (vt rfl) (PV.cons (vt rfl) (PV.cons (vt rfl) (PV.nil)))) rfl rfl rfl (by decide) rfl fun b49 => ?_
              refine WL.nilQn ⟨(by repeat (first | exact List.nil_sublist _ | exact List.Sublist.refl _ | exact List.sublist_append_left _ _ | exact List.sublist_append_right _ _ | apply List.Sublist.cons_cons | apply List.Sublist.cons | refine List.Sublist.trans ?_ (List.sublist_append_right _ _))), ?_⟩
              refine RH.qa 10 rfl (O.as) ?_
              refine RH.done (by kernel_rfl) (Q.tn ?_)
              exact ⟨_, trivial, (by repeat (first | exact trivial | refine ⟨rfl, ?_⟩)), (by repeat (first | exact List.Sublist.refl _ | exact List.nil_sublist _ | apply List.Sublist.cons_cons | apply List.Sublist.cons | exact List.sublist_append_left _ _))⟩
          · refine W.p (O.cvRow ⟨rfl, rfl⟩ (vt rfl) (by first | rfl | omega) (fun _ => ⟨_, rfl⟩)) ?_
            refine WL.nilQn ⟨(by repeat (first | exact List.nil_sublist _ | exact List.Sublist.refl _ | exact List.sublist_append_left _ _ | exact List.sublist_append_right _ _ | apply List.Sublist.cons_cons | apply List.Sublist.cons | refine List.Sublist.trans ?_ (List.sublist_append_right _ _))), ?_⟩
            refine RH.qa 5 rfl (O.bd (hv := PV.cons (vt rfl) (PV.cons (vt rfl) (PV.nil)))) ?_
            refine RH.two (i := 1) (j := 7) (fun _ _ h => h) (by kernel_rfl) rfl rfl ?_ ?_
            · refine W.p (O.cvRow ⟨rfl, rfl⟩ (vt rfl) (by first | rfl | omega) (fun _ => ⟨_, rfl⟩)) ?_
              refine WL.nilQn ⟨(by repeat (first | exact List.nil_sublist _ | exact List.Sublist.refl _ | exact List.sublist_append_left _ _ | exact List.sublist_append_right _ _ | apply List.Sublist.cons_cons | apply List.Sublist.cons | refine List.Sublist.trans ?_ (List.sublist_append_right _ _))), ?_⟩
              refine RH.qa 2 rfl (O.bd (hv := PV.cons (vt rfl) (PV.cons (vt rfl) (PV.nil)))) ?_
              refine RH.one (i := 7) (fun _ _ h => h) (by kernel_rfl) rfl ?_
              refine W.p (O.cvRow ⟨rfl, rfl⟩ (vt rfl) (by first | rfl | omega) (fun _ => ⟨_, rfl⟩)) ?_
              refine WL.nilQn ⟨(by repeat (first | exact List.nil_sublist _ | exact List.Sublist.refl _ | exact List.sublist_append_left _ _ | exact List.sublist_append_right _ _ | apply List.Sublist.cons_cons | apply List.Sublist.cons | refine List.Sublist.trans ?_ (List.sublist_append_right _ _))), ?_⟩
              refine RH.qa 8 rfl (O.bd (hv := PV.cons (vt rfl) (PV.cons (vt rfl) (PV.nil)))) ?_
              refine RH.one (i := 9) (fun _ _ h => h) (by kernel_rfl) rfl ?_
              refine W.bs encO ([⟨1, (List.replicate (500 : Int).toNat (0 : UInt8))⟩, ⟨2, (List.replicate (500 : Int).toNat (0 : UInt8))⟩, ⟨3, (List.replicate (500 : Int).toNat (0 : UInt8))⟩] : List Opt) rfl (PV.cons (vt rfl) (PV.cons (vt rfl) (PV.cons (vt rfl) (PV.nil)))) rfl rfl rfl (by decide) rfl fun b50 => ?_
              refine WL.nilQn ⟨(by repeat (first | exact List.nil_sublist _ | exact List.Sublist.refl _ | exact List.sublist_append_left _ _ | exact List.sublist_append_right _ _ | apply List.Sublist.cons_cons | apply List.Sublist.cons | refine List.Sublist.trans ?_ (List.sublist_append_right _ _))), ?_⟩
              refine RH.qa 10 rfl (O.as) ?_
              refine RH.done (by kernel_rfl) (Q.tn ?_)
              exact ⟨_, trivial, (by repeat (first | exact trivial | refine ⟨rfl, ?_⟩)), (by repeat (first | exact List.Sublist.refl _ | exact List.nil_sublist _ | apply List.Sublist.cons_cons | apply List.Sublist.cons | exact List.sublist_append_left _ _))⟩
            · refine W.p (O.cvRow ⟨rfl, rfl⟩ (vt rfl) (by first | rfl | omega) (fun _ => ⟨_, rfl⟩)) ?_
              refine WL.nilQn ⟨(by repeat (first | exact List.nil_sublist _ | exact List.Sublist.refl _ | exact List.sublist_append_left _ _ | exact List.sublist_append_right _ _ | apply List.Sublist.cons_cons | apply List.Sublist.cons | refine List.Sublist.trans ?_ (List.sublist_append_right _ _))), ?_⟩
              refine RH.qa 8 rfl (O.bd (hv := PV.cons (vt rfl) (PV.cons (vt rfl) (PV.nil)))) ?_
              refine RH.one (i := 1) (fun _ _ h => h) (by kernel_rfl) rfl ?_
              refine W.p (O.cvRow ⟨rfl, rfl⟩ (vt rfl) (by first | rfl | omega) (fun _ => ⟨_, rfl⟩)) ?_
              refine WL.nilQn ⟨(by repeat (first | exact List.nil_sublist _ | exact List.Sublist.refl _ | exact List.sublist_append_left _ _ | exact List.sublist_append_right _ _ | apply List.Sublist.cons_cons | apply List.Sublist.cons | refine List.Sublist.trans ?_ (List.sublist_append_right _ _))), ?_⟩
              refine RH.qa 2 rfl (O.bd (hv := PV.cons (vt rfl) (PV.cons (vt rfl) (PV.nil)))) ?_
              refine RH.one (i := 9) (fun _ _ h => h) (by kernel_rfl) rfl ?_
              refine W.bs encO ([⟨1, (List.replicate (500 : Int).toNat (0 : UInt8))⟩, ⟨2, (List.replicate (500 : Int).toNat (0 : UInt8))⟩, ⟨3, (List.replicate (500 : Int).toNat (0 : UInt8))⟩] : List Opt) rfl (PV.cons (vt rfl) (PV.cons (vt rfl) (PV.cons (vt rfl) (PV.nil)))) rfl rfl rfl (by decide) rfl fun b51 => ?_
              refine WL.nilQn ⟨(by repeat (first | exact List.nil_sublist _ | exact List.Sublist.refl _ | exact List.sublist_append_left _ _ | exact List.sublist_append_right _ _ | apply List.Sublist.cons_cons | apply List.Sublist.cons | refine List.Sublist.trans ?_ (List.sublist_append_right _ _))), ?_⟩
              refine RH.qa 10 rfl (O.as) ?_
              refine RH.done (by kernel_rfl) (Q.tn ?_)
              exact ⟨_, trivial, (by repeat (first | exact trivial | refine ⟨rfl, ?_⟩)), (by repeat (first | exact List.Sublist.refl _ | exact List.nil_sublist _ | apply List.Sublist.cons_cons | apply List.Sublist.cons | exact List.sublist_append_left _ _))⟩
          · refine W.p (O.cvRow ⟨rfl, rfl⟩ (vt rfl) (by first | rfl | omega) (fun _ => ⟨_, rfl⟩)) ?_
            refine WL.nilQn ⟨(by repeat (first | exact List.nil_sublist _ | exact List.Sublist.refl _ | exact List.sublist_append_left _ _ | exact List.sublist_append_right _ _ | apply List.Sublist.cons_cons | apply List.Sublist.cons | refine List.Sublist.trans ?_ (List.sublist_append_right _ _))), ?_⟩
            refine RH.qa 8 rfl (O.bd (hv := PV.cons (vt rfl) (PV.cons (vt rfl) (PV.nil)))) ?_
            refine RH.two (i := 1) (j := 4) (fun _ _ h => h) (by kernel_rfl) rfl rfl ?_ ?_
            · refine W.p (O.cvRow ⟨rfl, rfl⟩ (vt rfl) (by first | rfl | omega) (fun _ => ⟨_, rfl⟩)) ?_
              refine WL.nilQn ⟨(by repeat (first | exact List.nil_sublist _ | exact List.Sublist.refl _ | exact List.sublist_append_left _ _ | exact List.sublist_append_right _ _ | apply List.Sublist.cons_cons | apply List.Sublist.cons | refine List.Sublist.trans ?_ (List.sublist_append_right _ _))), ?_⟩
              refine RH.qa 2 rfl (O.bd (hv := PV.cons (vt rfl) (PV.cons (vt rfl) (PV.nil)))) ?_
              refine RH.one (i := 4) (fun _ _ h => h) (by kernel_rfl) rfl ?_
              refine W.p (O.cvRow ⟨rfl, rfl⟩ (vt rfl) (by first | rfl | omega) (fun _ => ⟨_, rfl⟩)) ?_
              refine WL.nilQn ⟨(by repeat (first | exact List.nil_sublist _ | exact List.Sublist.refl _ | exact List.sublist_append_left _ _ | exact List.sublist_append_right _ _ | apply List.Sublist.cons_cons | apply List.Sublist.cons | refine List.Sublist.trans ?_ (List.sublist_append_right _ _))), ?_⟩
              refine RH.qa 5 rfl (O.bd (hv := PV.cons (vt rfl) (PV.cons (vt rfl) (PV.nil)))) ?_
              refine RH.one (i := 9) (fun _ _ h => h) (by kernel_rfl) rfl ?_
              refine W.bs encO ([⟨1, (List.replicate (500 : Int).toNat (0 : UInt8))⟩, ⟨2, (List.replicate (500 : Int).toNat (0 : UInt8))⟩, ⟨3, (List.replicate (500 : Int).toNat (0 : UInt8))⟩] : List Opt) rfl (PV.cons (vt rfl) (PV.cons (vt rfl) (PV.cons (vt rfl) (PV.nil)))) rfl rfl rfl (by decide) rfl fun b52 => ?_
              refine WL.nilQn ⟨(by repeat (first | exact List.nil_sublist _ | exact List.Sublist.refl _ | exact List.sublist_append_left _ _ | exact List.sublist_append_right _ _ | apply List.Sublist.cons_cons | apply List.Sublist.cons | refine List.Sublist.trans ?_ (List.sublist_append_right _ _))), ?_⟩
              refine RH.qa 10 rfl (O.as) ?_
              refine RH.done (by kernel_rfl) (Q.tn ?_)
              exact ⟨_, trivial, (by repeat (first | exact trivial | refine ⟨rfl, ?_⟩)), (by repeat (first | exact List.Sublist.refl _ | exact List.nil_sublist _ | apply List.Sublist.cons_cons | apply List.Sublist.cons | exact List.sublist_append_left _ _))⟩
            · refine W.p (O.cvRow ⟨rfl, rfl⟩ (vt rfl) (by first | rfl | omega) (fun _ => ⟨_, rfl⟩)) ?_
              refine WL.nilQn ⟨(by repeat (first | exact List.nil_sublist _ | exact List.Sublist.refl _ | exact List.sublist_append_left _ _ | exact List.sublist_append_right _ _ | apply List.Sublist.cons_cons | apply List.Sublist.cons | refine List.Sublist.trans ?_ (List.sublist_append_right _ _))), ?_⟩
              refine RH.qa 5 rfl (O.bd (hv := PV.cons (vt rfl) (PV.cons (vt rfl) (PV.nil)))) ?_
              refine RH.one (i := 1) (fun _ _ h => h) (by kernel_rfl) rfl ?_
              refine W.p (O.cvRow ⟨rfl, rfl⟩ (vt rfl) (by first | rfl | omega) (fun _ => ⟨_, rfl⟩)) ?_
              refine WL.nilQn ⟨(by repeat (first | exact List.nil_sublist _ | exact List.Sublist.refl _ | exact List.sublist_append_left _ _ | exact List.sublist_append_right _ _ | apply List.Sublist.cons_cons | apply List.Sublist.cons | refine List.Sublist.trans ?_ (List.sublist_append_right _ _))), ?_⟩
              refine RH.qa 2 rfl (O.bd (hv := PV.cons (vt rfl) (PV.cons (vt rfl) (PV.nil)))) ?_
              refine RH.one (i := 9) (fun _ _ h => h) (by kernel_rfl) rfl ?_
              refine W.bs encO ([⟨1, (List.replicate (500 : Int).toNat (0 : UInt8))⟩, ⟨2, (List.replicate (500 : Int).toNat (0 : UInt8))⟩, ⟨3, (List.replicate (500 : Int).toNat (0 : UInt8))⟩] : List Opt) rfl (PV.cons (vt rfl) (PV.cons (vt rfl) (PV.cons (vt rfl) (PV.nil)))) rfl rfl rfl (by decide) rfl fun b53 => ?_
              refine WL.nilQn ⟨(by repeat (first | exact List.nil_sublist _ | exact List.Sublist.refl _ | exact List.sublist_append_left _ _ | exact List.sublist_append_right _ _ | apply List.Sublist.cons_cons | apply List.Sublist.cons | refine List.Sublist.trans ?_ (List.sublist_append_right _ _))), ?_⟩
              refine RH.qa 10 rfl (O.as) ?_
              refine RH.done (by kernel_rfl) (Q.tn ?_)
              exact ⟨_, trivial, (by repeat (first | exact trivial | refine ⟨rfl, ?_⟩)), (by repeat (first | exact List.Sublist.refl _ | exact List.nil_sublist _ | apply List.Sublist.cons_cons | apply List.Sublist.cons | exact List.sublist_append_left _ _))⟩
        · refine W.p (O.cvRow ⟨rfl, rfl⟩ (vt rfl) (by first | rfl | omega) (fun _ => ⟨_, rfl⟩)) ?_
          refine WL.nilQn ⟨(by repeat (first | exact List.nil_sublist _ | exact List.Sublist.refl _ | exact List.sublist_append_left _ _ | exact List.sublist_append_right _ _ | apply List.Sublist.cons_cons | apply List.Sublist.cons | refine List.Sublist.trans ?_ (List.sublist_append_right _ _))), ?_⟩
          refine RH.qa 8 rfl (O.bd (hv := PV.cons (vt rfl) (PV.cons (vt rfl) (PV.nil)))) ?_
          refine RH.two (i := 1) (j := 3) (fun _ _ h => h) (by kernel_rfl) rfl rfl ?_ ?_
          · refine W.p (O.cvRow ⟨rfl, rfl⟩ (vt rfl) (by first | rfl | omega) (fun _ => ⟨_, rfl⟩)) ?_
            refine WL.nilQn ⟨(by repeat (first | exact List.nil_sublist _ | exact List.Sublist.refl _ | exact List.sublist_append_left _ _ | exact List.sublist_append_right _ _ | apply List.Sublist.cons_cons | apply List.Sublist.cons | refine List.Sublist.trans ?_ (List.sublist_append_right _ _))), ?_⟩
            refine RH.qa 2 rfl (O.bd (hv := PV.cons (vt rfl) (PV.cons (vt rfl) (PV.nil)))) ?_
            refine RH.one (i := 3) (fun _ _ h => h) (by kernel_rfl) rfl ?_
            refine W.mkF rfl (vt rfl) (vt rfl) (by first | omega | decide) fun b54 => ?_
            refine WL.nilQn ⟨(by repeat (first | exact List.nil_sublist _ | exact List.Sublist.refl _ | exact List.sublist_append_left _ _ | exact List.sublist_append_right _ _ | apply List.Sublist.cons_cons | apply List.Sublist.cons | refine List.Sublist.trans ?_ (List.sublist_append_right _ _))), ?_⟩
            refine RH.one (i := 4) (fun _ _ h => h) (by kernel_rfl) rfl ?_
            refine W.p (O.cvRow ⟨rfl, rfl⟩ (vt rfl) (by first | rfl | omega) (fun _ => ⟨_, rfl⟩)) ?_
            refine WL.nilQn ⟨(by repeat (first | exact List.nil_sublist _ | exact List.Sublist.refl _ | exact List.sublist_append_left _ _ | exact List.sublist_append_right _ _ | apply List.Sublist.cons_cons | apply List.Sublist.cons | refine List.Sublist.trans ?_ (List.sublist_append_right _ _))), ?_⟩
            refine RH.qa 5 rfl (O.bd (hv := PV.cons (vt rfl) (PV.cons (vt rfl) (PV.nil)))) ?_
            refine RH.one (i := 9) (fun _ _ h => h) (by kernel_rfl) rfl ?_
            refine W.bs encO ([⟨1, (List.replicate (500 : Int).toNat (0 : UInt8))⟩, ⟨2, (List.replicate (500 : Int).toNat (0 : UInt8))⟩, ⟨3, (List.replicate (500 : Int).toNat (0 : UInt8))⟩] : List Opt) rfl (PV.cons (vt rfl) (PV.cons (vt rfl) (PV.cons (vt rfl) (PV.nil)))) rfl rfl rfl (by decide) rfl fun b55 => ?_
            refine WL.nilQn ⟨(by repeat (first | exact List.nil_sublist _ | exact List.Sublist.refl _ | exact List.sublist_append_left _ _ | exact List.sublist_append_right _ _ | apply List.Sublist.cons_cons | apply List.Sublist.cons | refine List.Sublist.trans ?_ (List.sublist_append_right _ _))), ?_⟩
            refine RH.qa 10 rfl (O.as) ?_
            refine RH.done (by kernel_rfl) (Q.tn ?_)
            exact ⟨_, trivial, (by repeat (first | exact trivial | refine ⟨rfl, ?_⟩)), (by repeat (first | exact List.Sublist.refl _ | exact List.nil_sublist _ | apply List.Sublist.cons_cons | apply List.Sublist.cons | exact List.sublist_append_left _ _))⟩
          · refine W.mkF rfl (vt rfl) (vt rfl) (by first | omega | decide) fun b56 => ?_
            refine WL.nilQn ⟨(by repeat (first | exact List.nil_sublist _ | exact List.Sublist.refl _ | exact List.sublist_append_left _ _ | exact List.sublist_append_right _ _ | apply List.Sublist.cons_cons | apply List.Sublist.cons | refine List.Sublist.trans ?_ (List.sublist_append_right _ _))), ?_⟩
            refine RH.two (i := 1) (j := 4) (fun _ _ h => h) (by kernel_rfl) rfl rfl ?_ ?_
            · refine W.p (O.cvRow ⟨rfl, rfl⟩ (vt rfl) (by first | rfl | omega) (fun _ => ⟨_, rfl⟩)) ?_
              refine WL.nilQn ⟨(by repeat (first | exact List.nil_sublist _ | exact List.Sublist.refl _ | exact List.sublist_append_left _ _ | exact List.sublist_append_right _ _ | apply List.Sublist.cons_cons | apply List.Sublist.cons | refine List.Sublist.trans ?_ (List.sublist_append_right _ _))), ?_⟩
              refine RH.qa 2 rfl (O.bd (hv := PV.cons (vt rfl) (PV.cons (vt rfl) (PV.nil)))) ?_
              refine RH.one (i := 4) (fun _ _ h => h) (by kernel_rfl) rfl ?_
              refine W.p (O.cvRow ⟨rfl, rfl⟩ (vt rfl) (by first | rfl | omega) (fun _ => ⟨_, rfl⟩)) ?_
              refine WL.nilQn ⟨(by repeat (first | exact List.nil_sublist _ | exact List.Sublist.refl _ | exact List.sublist_append_left _ _ | exact List.sublist_append_right _ _ | apply List.Sublist.cons_cons | apply List.Sublist.cons | refine List.Sublist.trans ?_ (List.sublist_append_right _ _))), ?_⟩
              refine RH.qa 5 rfl (O.bd (hv := PV.cons (vt rfl) (PV.cons (vt rfl) (PV.nil)))) ?_
              refine RH.one (i := 9) (fun _ _ h => h) (by kernel_rfl) rfl ?_
              refine W.bs encO ([⟨1, (List.replicate (500 : Int).toNat (0 : UInt8))⟩, ⟨2, (List.replicate (500 : Int).toNat (0 : UInt8))⟩, ⟨3, (List.replicate (500 : Int).toNat (0 : UInt8))⟩] : List Opt) rfl (PV.cons (vt rfl) (PV.cons (vt rfl) (PV.cons (vt rfl) (PV.nil)))) rfl rfl rfl (by decide) rfl fun b57 => ?_
              refine WL.nilQn ⟨(by repeat (first | exact List.nil_sublist _ | exact List.Sublist.refl _ | exact List.sublist_append_left _ _ | exact List.sublist_append_right _ _ | apply List.Sublist.cons_cons | apply List.Sublist.cons | refine List.Sublist.trans ?_ (List.sublist_append_right _ _))), ?_⟩
              refine RH.qa 10 rfl (O.as) ?_
              refine RH.done (by kernel_rfl) (Q.tn ?_)
              exact ⟨_, trivial, (by repeat (first | exact trivial | refine ⟨rfl, ?_⟩)), (by repeat (first | exact List.Sublist.refl _ | exact List.nil_sublist _ | apply List.Sublist.cons_cons | apply List.Sublist.cons | exact List.sublist_append_left _ _))⟩
            · refine W.p (O.cvRow ⟨rfl, rfl⟩ (vt rfl) (by first | rfl | omega) (fun _ => ⟨_, rfl⟩)) ?_
              refine WL.nilQn ⟨(by repeat (first | exact List.nil_sublist _ | exact List.Sublist.refl _ | exact List.sublist_append_left _ _ | exact List.sublist_append_right _ _ | apply List.Sublist.cons_cons | apply List.Sublist.cons | refine List.Sublist.trans ?_ (List.sublist_append_right _ _))), ?_⟩
              refine RH.qa 5 rfl (O.bd (hv := PV.cons (vt rfl) (PV.cons (vt rfl) (PV.nil)))) ?_
              refine RH.one (i := 1) (fun _ _ h => h) (by kernel_rfl) rfl ?_
              refine W.p (O.cvRow ⟨rfl, rfl⟩ (vt rfl) (by first | rfl | omega) (fun _ => ⟨_, rfl⟩)) ?_
              refine WL.nilQn ⟨(by repeat (first | exact List.nil_sublist _ | exact List.Sublist.refl _ | exact List.sublist_append_left _ _ | exact List.sublist_append_right _ _ | apply List.Sublist.cons_cons | apply List.Sublist.cons | refine List.Sublist.trans ?_ (List.sublist_append_right _ _))), ?_⟩
              refine RH.qa 2 rfl (O.bd (hv := PV.cons (vt rfl) (PV.cons (vt rfl) (PV.nil)))) ?_
              refine RH.one (i := 9) (fun _ _ h => h) (by kernel_rfl) rfl ?_
              refine W.bs encO ([⟨1, (List.replicate (500 : Int).toNat (0 : UInt8))⟩, ⟨2, (List.replicate (500 : Int).toNat (0 : UInt8))⟩, ⟨3, (List.replicate (500 : Int).toNat (0 : UInt8))⟩] : List Opt) rfl (PV.cons (vt rfl) (PV.cons (vt rfl) (PV.cons (vt rfl) (PV.nil)))) rfl rfl rfl (by decide) rfl fun b58 => ?_
              refine WL.nilQn ⟨(by repeat (first | exact List.nil_sublist _ | exact List.Sublist.refl _ | exact List.sublist_append_left _ _ | exact List.sublist_append_right _ _ | apply List.Sublist.cons_cons | apply List.Sublist.cons | refine List.Sublist.trans ?_ (List.sublist_append_right _ _))), ?_⟩
              refine RH.qa 10 rfl (O.as) ?_
              refine RH.done (by kernel_rfl) (Q.tn ?_)
              exact ⟨_, trivial, (by repeat (first | exact trivial | refine ⟨rfl, ?_⟩)), (by repeat (first | exact List.Sublist.refl _ | exact List.nil_sublist _ | apply List.Sublist.cons_cons | apply List.Sublist.cons | exact List.sublist_append_left _ _))⟩
    · refine W.mkF rfl (vt rfl) (vt rfl) (by first | omega | decide) fun b59 => ?_
      refine WL.nilQn ⟨(by repeat (first | exact List.nil_sublist _ | exact List.Sublist.refl _ | exact List.sublist_append_left _ _ | exact List.sublist_append_right _ _ | apply List.Sublist.cons_cons | apply List.Sublist.cons | refine List.Sublist.trans ?_ (List.sublist_append_right _ _))), ?_⟩
      refine RH.three (i := 0) (j := 4) (k := 6) (fun _ _ h => h) (by kernel_rfl) rfl rfl rfl ?_ ?_ ?_
      · refine W.mkF rfl (vt rfl) (vt rfl) (by first | omega | decide) fun b60 => ?_
        refine WL.nilQn ⟨(by repeat (first | exact List.nil_sublist _ | exact List.Sublist.refl _ | exact List.sublist_append_left _ _ | exact List.sublist_append_right _ _ | apply List.Sublist.cons_cons | apply List.Sublist.cons | refine List.Sublist.trans ?_ (List.sublist_append_right _ _))), ?_⟩
        refine RH.three (i := 1) (j := 4) (k := 6) (fun _ _ h => h) (by kernel_rfl) rfl rfl rfl ?_ ?_ ?_
        · refine W.p (O.cvRow ⟨rfl, rfl⟩ (vt rfl) (by first | rfl | omega) (fun _ => ⟨_, rfl⟩)) ?_
          refine WL.nilQn ⟨(by repeat (first | exact List.nil_sublist _ | exact List.Sublist.refl _ | exact List.sublist_append_left _ _ | exact List.sublist_append_right _ _ | apply List.Sublist.cons_cons | apply List.Sublist.cons | refine List.Sublist.trans ?_ (List.sublist_append_right _ _))), ?_⟩
          refine RH.qa 2 rfl (O.bd (hv := PV.cons (vt rfl) (PV.cons (vt rfl) (PV.nil)))) ?_
          refine RH.two (i := 4) (j := 6) (fun _ _ h => h) (by kernel_rfl) rfl rfl ?_ ?_
          · refine W.p (O.cvRow ⟨rfl, rfl⟩ (vt rfl) (by first | rfl | omega) (fun _ => ⟨_, rfl⟩)) ?_
            refine WL.nilQn ⟨(by repeat (first | exact List.nil_sublist _ | exact List.Sublist.refl _ | exact List.sublist_append_left _ _ | exact List.sublist_append_right _ _ | apply List.Sublist.cons_cons | apply List.Sublist.cons | refine List.Sublist.trans ?_ (List.sublist_append_right _ _))), ?_⟩
            refine RH.qa 5 rfl (O.bd (hv := PV.cons (vt rfl) (PV.cons (vt rfl) (PV.nil)))) ?_
            refine RH.one (i := 6) (fun _ _ h => h) (by kernel_rfl) rfl ?_
            refine W.mkF rfl (vt rfl) (vt rfl) (by first | omega | decide) fun b61 => ?_
            refine WL.nilQn ⟨(by repeat (first | exact List.nil_sublist _ | exact List.Sublist.refl _ | exact List.sublist_append_left _ _ | exact List.sublist_append_right _ _ | apply List.Sublist.cons_cons | apply List.Sublist.cons | refine List.Sublist.trans ?_ (List.sublist_append_right _ _))), ?_⟩
            refine RH.one (i := 7) (fun _ _ h => h) (by kernel_rfl) rfl ?_
            refine W.p (O.cvRow ⟨rfl, rfl⟩ (vt rfl) (by first | rfl | omega) (fun _ => ⟨_, rfl⟩)) ?_
            refine WL.nilQn ⟨(by repeat (first | exact List.nil_sublist _ | exact List.Sublist.refl _ | exact List.sublist_append_left _ _ | exact List.sublist_append_right _ _ | apply List.Sublist.cons_cons | apply List.Sublist.cons | refine List.Sublist.trans ?_ (List.sublist_append_right _ _))), ?_⟩
            refine RH.qa 8 rfl (O.bd (hv := PV.cons (vt rfl) (PV.cons (vt rfl) (PV.nil)))) ?_
            refine RH.one (i := 9) (fun _ _ h => h) (by kernel_rfl) rfl ?_
            refine W.bs encO ([⟨1, (List.replicate (500 : Int).toNat (0 : UInt8))⟩, ⟨2, (List.replicate (500 : Int).toNat (0 : UInt8))⟩, ⟨3, (List.replicate (500 : Int).toNat (0 : UInt8))⟩] : List Opt) rfl (PV.cons (vt rfl) (PV.cons (vt rfl) (PV.cons (vt rfl) (PV.nil)))) rfl rfl rfl (by decide) rfl fun b62 => ?_
            refine WL.nilQn ⟨(by repeat (first | exact List.nil_sublist _ | exact List.Sublist.refl _ | exact List.sublist_append_left _ _ | exact List.sublist_append_right _ _ | apply List.Sublist.cons_cons | apply List.Sublist.cons | refine List.Sublist.trans ?_ (List.sublist_append_right _ _))), ?_⟩
            refine RH.qa 10 rfl (O.as) ?_
            refine RH.done (by kernel_rfl) (Q.tn ?_)
            exact ⟨_, trivial, (by repeat (first | exact trivial | refine ⟨rfl, ?_⟩)), (by repeat (first | exact List.Sublist.refl _ | exact List.nil_sublist _ | apply List.Sublist.cons_cons | apply List.Sublist.cons | exact List.sublist_append_left _ _))⟩
          · refine W.mkF rfl (vt rfl) (vt rfl) (by first | omega | decide) fun b63 => ?_
            refine WL.nilQn ⟨(by repeat (first | exact List.nil_sublist _ | exact List.Sublist.refl _ | exact List.sublist_append_left _ _ | exact List.sublist_append_right _ _ | apply List.Sublist.cons_cons | apply List.Sublist.cons | refine List.Sublist.trans ?_ (List.sublist_append_right _ _))), ?_⟩
            refine RH.two (i := 4) (j := 7) (fun _ _ h => h) (by kernel_rfl) rfl rfl ?_ ?_
            · refine W.p (O.cvRow ⟨rfl, rfl⟩ (vt rfl) (by first | rfl | omega) (fun _ => ⟨_, rfl⟩)) ?_
              refine WL.nilQn ⟨(by repeat (first | exact List.nil_sublist _ | exact List.Sublist.refl _ | exact List.sublist_append_left _ _ | exact List.sublist_append_right _ _ | apply List.Sublist.cons_cons | apply List.Sublist.cons | refine List.Sublist.trans ?_ (List.sublist_append_right _ _))), ?_⟩
              refine RH.qa 5 rfl (O.bd (hv := PV.cons (vt rfl) (PV.cons (vt rfl) (PV.nil)))) ?_
              refine RH.one (i := 7) (fun _ _ h => h) (by kernel_rfl) rfl ?_
              refine W.p (O.cvRow ⟨rfl, rfl⟩ (vt rfl) (by first | rfl | omega) (fun _ => ⟨_, rfl⟩)) ?_
              refine WL.nilQn ⟨(by repeat (first | exact List.nil_sublist _ | exact List.Sublist.refl _ | exact List.sublist_append_left _ _ | exact List.sublist_append_right _ _ | apply List.Sublist.cons_cons | apply List.Sublist.cons | refine List.Sublist.trans ?_ (List.sublist_append_right _ _))), ?_⟩
              refine RH.qa 8 rfl (O.bd (hv := PV.cons (vt rfl) (PV.cons (vt rfl) (PV.nil)))) ?_
              refine RH.one (i := 9) (fun _ _ h => h) (by kernel_rfl) rfl ?_
              refine W.bs encO ([⟨1, (List.replicate (500 : Int).toNat (0 : UInt8))⟩, ⟨2, (List.replicate (500 : Int).toNat (0 : UInt8))⟩, ⟨3, (List.replicate (500 : Int).toNat (0 : UInt8))⟩] : List Opt) rfl (PV.cons (vt rfl) (PV.cons (vt rfl) (PV.cons (vt rfl) (PV.nil)))) rfl rfl rfl (by decide) rfl fun b64 => ?_
              refine WL.nilQn ⟨(by repeat (first | exact List.nil_sublist _ | exact List.Sublist.refl _ | exact List.sublist_append_left _ _ | exact List.sublist_append_right _ _ | apply List.Sublist.cons_cons | apply List.Sublist.cons | refine List.Sublist.trans ?_ (List.sublist_append_right _ _))), ?_⟩
              refine RH.qa 10 rfl (O.as) ?_
              refine RH.done (by kernel_rfl) (Q.tn ?_)
              exact ⟨_, trivial, (by repeat (first | exact trivial | refine ⟨rfl, ?_⟩)), (by repeat (first | exact List.Sublist.refl _ | exact List.nil_sublist _ | apply List.Sublist.cons_cons | apply List.Sublist.cons | exact List.sublist_append_left _ _))⟩
            · refine W.p (O.cvRow ⟨rfl, rfl⟩ (vt rfl) (by first | rfl | omega) (fun _ => ⟨_, rfl⟩)) ?_
              refine WL.nilQn ⟨(by repeat (first | exact List.nil_sublist _ | exact List.Sublist.refl _ | exact List.sublist_append_left _ _ | exact List.sublist_append_right _ _ | apply List.Sublist.cons_cons | apply List.Sublist.cons | refine List.Sublist.trans ?_ (List.sublist_append_right _ _))), ?_⟩
              refine RH.qa 8 rfl (O.bd (hv := PV.cons (vt rfl) (PV.cons (vt rfl) (PV.nil)))) ?_
              refine RH.one (i := 4) (fun _ _ h => h) (by kernel_rfl) rfl ?_
              refine W.p (O.cvRow ⟨rfl, rfl⟩ (vt rfl) (by first | rfl | omega) (fun _ => ⟨_, rfl⟩)) ?_
              refine WL.nilQn ⟨(by repeat (first | exact List.nil_sublist _ | exact List.Sublist.refl _ | exact List.sublist_append_left _ _ | exact List.sublist_append_right _ _ | apply List.Sublist.cons_cons | apply List.Sublist.cons | refine List.Sublist.trans ?_ (List.sublist_append_right _ _))), ?_⟩
              refine RH.qa 5 rfl (O.bd (hv := PV.cons (vt rfl) (PV.cons (vt rfl) (PV.nil)))) ?_
              refine RH.one (i := 9) (fun _ _ h => h) (by kernel_rfl) rfl ?_
              refine W.bs encO ([⟨1, (List.replicate (500 : Int).toNat (0 : UInt8))⟩, ⟨2, (List.replicate (500 : Int).toNat (0 : UInt8))⟩, ⟨3, (List.replicate (500 : Int).toNat (0 : UInt8))⟩] : List Opt) rfl (PV.cons (vt rfl) (PV.cons (vt rfl) (PV.cons (vt rfl) (PV.nil)))) rfl rfl rfl (by decide) rfl fun b65 => ?_
              refine WL.nilQn ⟨(by repeat (first | exact List.nil_sublist _ | exact List.Sublist.refl _ | exact List.sublist_append_left _ _ | exact List.sublist_append_right _ _ | apply List.Sublist.cons_cons | apply List.Sublist.cons | refine List.Sublist.trans ?_ (List.sublist_append_right _ _))), ?_⟩
              refine RH.qa 10 rfl (O.as) ?_
              refine RH.done (by kernel_rfl) (Q.tn ?_)
              exact ⟨_, trivial, (by repeat (first | exact trivial | refine ⟨rfl, ?_⟩)), (by repeat (first | exact List.Sublist.refl _ | exact List.nil_sublist _ | apply List.Sublist.cons_cons | apply List.Sublist.cons | exact List.sublist_append_left _ _))⟩
        · refine W.p (O.cvRow ⟨rfl, rfl⟩ (vt rfl) (by first | rfl | omega) (fun _ => ⟨_, rfl⟩)) ?_
          refine WL.nilQn ⟨(by repeat (first | exact List.nil_sublist _ | exact List.Sublist.refl _ | exact List.sublist_append_left _ _ | exact List.sublist_append_right _ _ | apply List.Sublist.cons_cons | apply List.Sublist.cons | refine List.Sublist.trans ?_ (List.sublist_append_right _ _))), ?_⟩
          refine RH.qa 5 rfl (O.bd (hv := PV.cons (vt rfl) (PV.cons (vt rfl) (PV.nil)))) ?_
          refine RH.two (i := 1) (j := 6) (fun _ _ h => h) (by kernel_rfl) rfl rfl ?_ ?_
          · refine W.p (O.cvRow ⟨rfl, rfl⟩ (vt rfl) (by first | rfl | omega) (fun _ => ⟨_, rfl⟩)) ?_
            refine WL.nilQn ⟨(by repeat (first | exact List.nil_sublist _ | exact List.Sublist.refl _ | exact List.sublist_append_left _ _ | exact List.sublist_append_right _ _ | apply List.Sublist.cons_cons | apply List.Sublist.cons | refine List.Sublist.trans ?_ (List.sublist_append_right _ _))), ?_⟩
            refine RH.qa 2 rfl (O.bd (hv := PV.cons (vt rfl) (PV.cons (vt rfl) (PV.nil)))) ?_
            refine RH.one (i := 6) (fun _ _ h => h) (by kernel_rfl) rfl ?_
            refine W.mkF rfl (vt rfl) (vt rfl) (by first | omega | decide) fun b66 => ?_
            refine WL.nilQn ⟨(by repeat (first | exact List.nil_sublist _ | exact List.Sublist.refl _ | exact List.sublist_append_left _ _ | exact List.sublist_append_right _ _ | apply List.Sublist.cons_cons | apply List.Sublist.cons | refine List.Sublist.trans ?_ (List.sublist_append_right _ _))), ?_⟩
            refine RH.one (i := 7) (fun _ _ h => h) (by kernel_rfl) rfl ?_
            refine W.p (O.cvRow ⟨rfl, rfl⟩ (vt rfl) (by first | rfl | omega) (fun _ => ⟨_, rfl⟩)) ?_
            refine WL.nilQn ⟨(by repeat (first | exact List.nil_sublist _ | exact List.Sublist.refl _ | exact List.sublist_append_left _ _ | exact List.sublist_append_right _ _ | apply List.Sublist.cons_cons | apply List.Sublist.cons | refine List.Sublist.trans ?_ (List.sublist_append_right _ _))), ?_⟩
            refine RH.qa 8 rfl (O.bd (hv := PV.cons (vt rfl) (PV.cons (vt rfl) (PV.nil)))) ?_
            refine RH.one (i := 9) (fun _ _ h => h) (by kernel_rfl) rfl ?_
            refine W.bs encO ([⟨1, (List.replicate (500 : Int).toNat (0 : UInt8))⟩, ⟨2, (List.replicate (500 : Int).toNat (0 : UInt8))⟩, ⟨3, (List.replicate (500 : Int).toNat (0 : UInt8))⟩] : List Opt) rfl (PV.cons (vt rfl) (PV.cons (vt rfl) (PV.cons (vt rfl) (PV.nil)))) rfl rfl rfl (by decide) rfl fun b67 => ?_
            refine WL.nilQn ⟨(by repeat (first | exact List.nil_sublist _ | exact List.Sublist.refl _ | exact List.sublist_append_left _ _ | exact List.sublist_append_right _ _ | apply List.Sublist.cons_cons | apply List.Sublist.cons | refine List.Sublist.trans ?_ (List.sublist_append_right _ _))), ?_⟩
            refine RH.qa 10 rfl (O.as) ?_
            refine RH.done (by kernel_rfl) (Q.tn ?_)
            exact ⟨_, trivial, (by repeat (first | exact trivial | refine ⟨rfl, ?_⟩)), (by repeat (first | exact List.Sublist.refl _ | exact List.nil_sublist _ | apply List.Sublist.cons_cons | apply List.Sublist.cons | exact List.sublist_append_left _ _))⟩
          · refine W.mkF rfl (vt rfl) (vt rfl) (by first | omega | decide) fun b68 => ?_
            refine WL.nilQn ⟨(by repeat (first | exact List.nil_sublist _ | exact List.Sublist.refl _ | exact List.sublist_append_left _ _ | exact List.sublist_append_right _ _ | apply List.Sublist.cons_cons | apply List.Sublist.cons | refine List.Sublist.trans ?_ (List.sublist_append_right _ _))), ?_⟩
            refine RH.two (i := 1) (j := 7) (fun _ _ h => h) (by kernel_rfl) rfl rfl ?_ ?_
            · refine W.p (O.cvRow ⟨rfl, rfl⟩ (vt rfl) (by first | rfl | omega) (fun _ => ⟨_, rfl⟩)) ?_
              refine WL.nilQn ⟨(by repeat (first | exact List.nil_sublist _ | exact List.Sublist.refl _ | exact List.sublist_append_left _ _ | exact List.sublist_append_right _ _ | apply List.Sublist.cons_cons | apply List.Sublist.cons | refine List.Sublist.trans ?_ (List.sublist_append_right _ _))), ?_⟩
              refine RH.qa 2 rfl (O.bd (hv := PV.cons (vt rfl) (PV.cons (vt rfl) (PV.nil)))) ?_
              refine RH.one (i := 7) (fun _ _ h => h) (by kernel_rfl) rfl ?_
              refine W.p (O.cvRow ⟨rfl, rfl⟩ (vt rfl) (by first | rfl | omega) (fun _ => ⟨_, rfl⟩)) ?_
              refine WL.nilQn ⟨(by repeat (first | exact List.nil_sublist _ | exact List.Sublist.refl _ | exact List.sublist_append_left _ _ | exact List.sublist_append_right _ _ | apply List.Sublist.cons_cons | apply List.Sublist.cons | refine List.Sublist.trans ?_ (List.sublist_append_right _ _))), ?_⟩
              refine RH.qa 8 rfl (O.bd (hv := PV.cons (vt rfl) (PV.cons (vt rfl) (PV.nil)))) ?_
              refine RH.one (i := 9) (fun _ _ h => h) (by kernel_rfl) rfl ?_
              refine W.bs encO ([⟨1, (List.replicate (500 : Int).toNat (0 : UInt8))⟩, ⟨2, (List.replicate (500 : Int).toNat (0 : UInt8))⟩, ⟨3, (List.replicate (500 : Int).toNat (0 : UInt8))⟩] : List Opt) rfl (PV.cons (vt rfl) (PV.cons (vt rfl) (PV.cons (vt rfl) (PV.nil)))) rfl rfl rfl (by decide) rfl fun b69 => ?_
              refine WL.nilQn ⟨(by repeat (first | exact List.nil_sublist _ | exact List.Sublist.refl _ | exact List.sublist_append_left _ _ | exact List.sublist_append_right _ _ | apply List.Sublist.cons_cons | apply List.Sublist.cons | refine List.Sublist.trans ?_ (List.sublist_append_right _ _))), ?_⟩
              refine RH.qa 10 rfl (O.as) ?_
              refine RH.done (by kernel_rfl) (Q.tn ?_)
              exact ⟨_, trivial, (by repeat (first | exact trivial | refine ⟨rfl, ?_⟩)), (by repeat (first | exact List.Sublist.refl _ | exact List.nil_sublist _ | apply List.Sublist.cons_cons | apply List.Sublist.cons | exact List.sublist_append_left _ _))⟩
            · refine W.p (O.cvRow ⟨rfl, rfl⟩ (vt rfl) (by first | rfl | omega) (fun _ => ⟨_, rfl⟩)) ?_
              refine WL.nilQn ⟨(by repeat (first | exact List.nil_sublist _ | exact List.Sublist.refl _ | exact List.sublist_append_left _ _ | exact List.sublist_append_right _ _ | apply List.Sublist.cons_cons | apply List.Sublist.cons | refine List.Sublist.trans ?_ (List.sublist_append_right _ _))), ?_⟩
              refine RH.qa 8 rfl (O.bd (hv := PV.cons (vt rfl) (PV.cons (vt rfl) (PV.nil)))) ?_
              refine RH.one (i := 1) (fun _ _ h => h) (by kernel_rfl) rfl ?_
              refine W.p (O.cvRow ⟨rfl, rfl⟩ (vt rfl) (by first | rfl | omega) (fun _ => ⟨_, rfl⟩)) ?_
              refine WL.nilQn ⟨(by repeat (first | exact List.nil_sublist _ | exact List.Sublist.refl _ | exact List.sublist_append_left _ _ | exact List.sublist_append_right _ _ | apply List.Sublist.cons_cons | apply List.Sublist.cons | refine List.Sublist.trans ?_ (List.sublist_append_right _ _))), ?_⟩
              refine RH.qa 2 rfl (O.bd (hv := PV.cons (vt rfl) (PV.cons (vt rfl) (PV.nil)))) ?_
              refine RH.one (i := 9) (fun _ _ h => h) (by kernel_rfl) rfl ?_
              refine W.bs encO ([⟨1, (List.replicate (500 : Int).toNat (0 : UInt8))⟩, ⟨2, (List.replicate (500 : Int).toNat (0 : UInt8))⟩, ⟨3, (List.replicate (500 : Int).toNat (0 : UInt8))⟩] : List Opt) rfl (PV.cons (vt rfl) (PV.cons (vt rfl) (PV.cons (vt rfl) (PV.nil)))) rfl rfl rfl (by decide) rfl fun b70 => ?_
              refine WL.nilQn ⟨(by repeat (first | exact List.nil_sublist _ | exact List.Sublist.refl _ | exact List.sublist_append_left _ _ | exact List.sublist_append_right _ _ | apply List.Sublist.cons_cons | apply List.Sublist.cons | refine List.Sublist.trans ?_ (List.sublist_append_right _ _))), ?_⟩
              refine RH.qa 10 rfl (O.as) ?_
              refine RH.done (by kernel_rfl) (Q.tn ?_)
              exact ⟨_, trivial, (by repeat (first | exact trivial | refine ⟨rfl, ?_⟩)), (by repeat (first | exact List.Sublist.refl _ | exact List.nil_sublist _ | apply List.Sublist.cons_cons | apply List.Sublist.cons | exact List.sublist_append_left _ _))⟩
        · refine W.mkF rfl (vt rfl) (vt rfl) (by first | omega | decide) fun b71 => ?_
          refine WL.nilQn ⟨(by repeat (first | exact List.nil_sublist _ | exact List.Sublist.refl _ | exact List.sublist_append_left _ _ | exact List.sublist_append_right _ _ | apply List.Sublist.cons_cons | apply List.Sublist.cons | refine List.Sublist.trans ?_ (List.sublist_append_right _ _))), ?_⟩
          refine RH.three (i := 1) (j := 4) (k := 7) (fun _ _ h => h) (by kernel_rfl) rfl rfl rfl ?_ ?_ ?_
          · refine W.p (O.cvRow ⟨rfl, rfl⟩ (vt rfl) (by first | rfl | omega) (fun _ => ⟨_, rfl⟩)) ?_
            refine WL.nilQn ⟨(by repeat (first | exact List.nil_sublist _ | exact List.Sublist.refl _ | exact List.sublist_append_left _ _ | exact List.sublist_append_right _ _ | apply List.Sublist.cons_cons | apply List.Sublist.cons | refine List.Sublist.trans ?_ (List.sublist_append_right _ _))), ?_⟩
            refine RH.qa 2 rfl (O.bd (hv := PV.cons (vt rfl) (PV.cons (vt rfl) (PV.nil)))) ?_
            refine RH.two (i := 4) (j := 7) (fun _ _ h => h) (by kernel_rfl) rfl rfl ?_ ?_
            · refine W.p (O.cvRow ⟨rfl, rfl⟩ (vt rfl) (by first | rfl | omega) (fun _ => ⟨_, rfl⟩)) ?_
              refine WL.nilQn ⟨(by repeat (first | exact List.nil_sublist _ | exact List.Sublist.refl _ | exact List.sublist_append_left _ _ | exact List.sublist_append_right _ _ | apply List.Sublist.cons_cons | apply List.Sublist.cons | refine List.Sublist.trans ?_ (List.sublist_append_right _ _))), ?_⟩
              refine RH.qa 5 rfl (O.bd (hv := PV.cons (vt rfl) (PV.cons (vt rfl) (PV.nil)))) ?_
              refine RH.one (i := 7) (fun _ _ h => h) (by kernel_rfl) rfl ?_
              refine W.p (O.cvRow ⟨rfl, rfl⟩ (vt rfl) (by first | rfl | omega) (fun _ => ⟨_, rfl⟩)) ?_
              refine WL.nilQn ⟨(by repeat (first | exact List.nil_sublist _ | exact List.Sublist.refl _ | exact List.sublist_append_left _ _ | exact List.sublist_append_right _ _ | apply List.Sublist.cons_cons | apply List.Sublist.cons | refine List.Sublist.trans ?_ (List.sublist_append_right _ _))), ?_⟩
              refine RH.qa 8 rfl (O.bd (hv := PV.cons (vt rfl) (PV.cons (vt rfl) (PV.nil)))) ?_
              refine RH.one (i := 9) (fun _ _ h => h) (by kernel_rfl) rfl ?_
              refine W.bs encO ([⟨1, (List.replicate (500 : Int).toNat (0 : UInt8))⟩, ⟨2, (List.replicate (500 : Int).toNat (0 : UInt8))⟩, ⟨3, (List.replicate (500 : Int).toNat (0 : UInt8))⟩] : List Opt) rfl (PV.cons (vt rfl) (PV.cons (vt rfl) (PV.cons (vt rfl) (PV.nil)))) rfl rfl rfl (by decide) rfl fun b72 => ?_
              refine WL.nilQn ⟨(by repeat (first | exact List.nil_sublist _ | exact List.Sublist.refl _ | exact List.sublist_append_left _ _ | exact List.sublist_append_right _ _ | apply List.Sublist.cons_cons | apply List.Sublist.cons | refine List.Sublist.trans ?_ (List.sublist_append_right _ _))), ?_⟩
              refine RH.qa 10 rfl (O.as) ?_
              refine RH.done (by kernel_rfl) (Q.tn ?_)
              exact ⟨_, trivial, (by repeat (first | exact trivial | refine ⟨rfl, ?_⟩)), (by repeat (first | exact List.Sublist.refl _ | exact List.nil_sublist _ | apply List.Sublist.cons_cons | apply List.Sublist.cons | exact List.sublist_append_left _ _))⟩
            · refine W.p (O.cvRow ⟨rfl, rfl⟩ (vt rfl) (by first | rfl | omega) (fun _ => ⟨_, rfl⟩)) ?_
              refine WL.nilQn ⟨(by repeat (first | exact List.nil_sublist _ | exact List.Sublist.refl _ | exact List.sublist_append_left _ _ | exact List.sublist_append_right _ _ | apply List.Sublist.cons_cons | apply List.Sublist.cons | refine List.Sublist.trans ?_ (List.sublist_append_right _ _))), ?_⟩
              refine RH.qa 8 rfl (O.bd (hv := PV.cons (vt rfl) (PV.cons (vt rfl) (PV.nil)))) ?_
              refine RH.one (i := 4) (fun _ _ h => h) (by kernel_rfl) rfl ?_
              refine W.p (O.cvRow ⟨rfl, rfl⟩ (vt rfl) (by first | rfl | omega) (fun _ => ⟨_, rfl⟩)) ?_
              refine WL.nilQn ⟨(by repeat (first | exact List.nil_sublist _ | exact List.Sublist.refl _ | exact List.sublist_append_left _ _ | exact List.sublist_append_right _ _ | apply List.Sublist.cons_cons | apply List.Sublist.cons | refine List.Sublist.trans ?_ (List.sublist_append_right _ _))), ?_⟩
              refine RH.qa 5 rfl (O.bd (hv := PV.cons (vt rfl) (PV.cons (vt rfl) (PV.nil)))) ?_
              refine RH.one (i := 9) (fun _ _ h => h) (by kernel_rfl) rfl ?_
              refine W.bs encO ([⟨1, (List.replicate (500 : Int).toNat (0 : UInt8))⟩, ⟨2, (List.replicate (500 : Int).toNat (0 : UInt8))⟩, ⟨3, (List.replicate (500 : Int).toNat (0 : UInt8))⟩] : List Opt) rfl (PV.cons (vt rfl) (PV.cons (vt rfl) (PV.cons (vt rfl) (PV.nil)))) rfl rfl rfl (by decide) rfl fun b73 => ?_
              refine WL.nilQn ⟨(by repeat (first | exact List.nil_sublist _ | exact List.Sublist.refl _ | exact List.sublist_append_left _ _ | exact List.sublist_append_right _ _ | apply List.Sublist.cons_cons | apply List.Sublist.cons | refine List.Sublist.trans ?_ (List.sublist_append_right _ _))), ?_⟩
              refine RH.qa 10 rfl (O.as) ?_
              refine RH.done (by kernel_rfl) (Q.tn ?_)
              exact ⟨_, trivial, (by repeat (first | exact trivial | refine ⟨rfl, ?_⟩)), (by repeat (first | exact List.Sublist.refl _ | exact List.nil_sublist _ | apply List.Sublist.cons_cons | apply List.Sublist.cons | exact List.sublist_append_left _ _))⟩
          · refine W.p (O.cvRow ⟨rfl, rfl⟩ (vt rfl) (by first | rfl | omega) (fun _ => ⟨_, rfl⟩)) ?_
            refine WL.nilQn ⟨(by repeat (first | exact List.nil_sublist _ | exact List.Sublist.refl _ | exact List.sublist_append_left _ _ | exact List.sublist_append_right _ _ | apply List.Sublist.cons_cons | apply List.Sublist.cons | refine List.Sublist.trans ?_ (List.sublist_append_right _ _))), ?_⟩
            refine RH.qa 5 rfl (O.bd (hv := PV.cons (vt rfl) (PV.cons (vt rfl) (PV.nil)))) ?_
            refine RH.two (i := 1) (j := 7) (fun _ _ h => h) (by kernel_rfl) rfl rfl ?_ ?_
            · refine W.p (O.cvRow ⟨rfl, rfl⟩ (vt rfl) (by first | rfl | omega) (fun _ => ⟨_, rfl⟩)) ?_
              refine WL.nilQn ⟨(by repeat (first | exact List.nil_sublist _ | exact List.Sublist.refl _ | exact List.sublist_append_left _ _ | exact List.sublist_append_right _ _ | apply List.Sublist.cons_cons | apply List.Sublist.cons | refine List.Sublist.trans ?_ (List.sublist_append_right _ _))), ?_⟩
              refine RH.qa 2 rfl (O.bd (hv := PV.cons (vt rfl) (PV.cons (vt rfl) (PV.nil)))) ?_
              refine RH.one (i := 7) (fun _ _ h => h) (by kernel_rfl) rfl ?_
              refine W.p (O.cvRow ⟨rfl, rfl⟩ (vt rfl) (by first | rfl | omega) (fun _ => ⟨_, rfl⟩)) ?_
              refine WL.nilQn ⟨(by repeat (first | exact List.nil_sublist _ | exact List.Sublist.refl _ | exact List.sublist_append_left _ _ | exact List.sublist_append_right _ _ | apply List.Sublist.cons_cons | apply List.Sublist.cons | refine List.Sublist.trans ?_ (List.sublist_append_right _ _))), ?_⟩
              refine RH.qa 8 rfl (O.bd (hv := PV.cons (vt rfl) (PV.cons (vt rfl) (PV.nil)))) ?_
              refine RH.one (i := 9) (fun _ _ h => h) (by kernel_rfl) rfl ?_
              refine W.bs encO ([⟨1, (List.replicate (500 : Int).toNat (0 : UInt8))⟩, ⟨2, (List.replicate (500 : Int).toNat (0 : UInt8))⟩, ⟨3, (List.replicate (500 : Int).toNat (0 : UInt8))⟩] : List Opt) rfl (PV.cons (vt rfl) (PV.cons (vt rfl) (PV.cons (vt rfl) (PV.nil)))) rfl rfl rfl (by decide) rfl fun b74 => ?_
              refine WL.nilQn ⟨(by repeat (first | exact List.nil_sublist _ | exact List.Sublist.refl _ | exact List.sublist_append_left _ _ | exact List.sublist_append_right _ _ | apply List.Sublist.cons_cons | apply List.Sublist.cons | refine List.Sublist.trans ?_ (List.sublist_append_right _ _))), ?_⟩
              refine RH.qa 10 rfl (O.as) ?_
              refine RH.done (by kernel_rfl) (Q.tn ?_)
              exact ⟨_, trivial, (by repeat (first | exact trivial | refine ⟨rfl, ?_⟩)), (by repeat (first | exact List.Sublist.refl _ | exact List.nil_sublist _ | apply List.Sublist.cons_cons | apply List.Sublist.cons | exact List.sublist_append_left _ _))⟩
            · refine W.p (O.cvRow ⟨rfl, rfl⟩ (vt rfl) (by first | rfl | omega) (fun _ => ⟨_, rfl⟩)) ?_
              refine WL.nilQn ⟨(by repeat (first | exact List.nil_sublist _ | exact List.Sublist.refl _ | exact List.sublist_append_left _ _ | exact List.sublist_append_right _ _ | apply List.Sublist.cons_cons | apply List.Sublist.cons | refine List.Sublist.trans ?_ (List.sublist_append_right _ _))), ?_⟩
              refine RH.qa 8 rfl (O.bd (hv := PV.cons (vt rfl) (PV.cons (vt rfl) (PV.nil)))) ?_
              refine RH.one (i := 1) (fun _ _ h => h) (by kernel_rfl) rfl ?_
              refine W.p (O.cvRow ⟨rfl, rfl⟩ (vt rfl) (by first | rfl | omega) (fun _ => ⟨_, rfl⟩)) ?_
              refine WL.nilQn ⟨(by repeat (first | exact List.nil_sublist _ | exact List.Sublist.refl _ | exact List.sublist_append_left _ _ | exact List.sublist_append_right _ _ | apply List.Sublist.cons_cons | apply List.Sublist.cons | refine List.Sublist.trans ?_ (List.sublist_append_right _ _))), ?_⟩
              refine RH.qa 2 rfl (O.bd (hv := PV.cons (vt rfl) (PV.cons (vt rfl) (PV.nil)))) ?_
              refine RH.one (i := 9) (fun _ _ h => h) (by kernel_rfl) rfl ?_
              refine W.bs encO ([⟨1, (List.replicate (500 : Int).toNat (0 : UInt8))⟩, ⟨2, (List.replicate (500 : Int).toNat (0 : UInt8))⟩, ⟨3, (List.replicate (500 : Int).toNat (0 : UInt8))⟩] : List Opt) rfl (PV.cons (vt rfl) (PV.cons (vt rfl) (PV.cons (vt rfl) (PV.nil)))) rfl rfl rfl (by decide) rfl fun b75 => ?_
              refine WL.nilQn ⟨(by repeat (first | exact List.nil_sublist _ | exact List.Sublist.refl _ | exact List.sublist_append_left _ _ | exact List.sublist_append_right _ _ | apply List.Sublist.cons_cons | apply List.Sublist.cons | refine List.Sublist.trans ?_ (List.sublist_append_right _ _))), ?_⟩
              refine RH.qa 10 rfl (O.as) ?_
              refine RH.done (by kernel_rfl) (Q.tn ?_)
              exact ⟨_, trivial, (by repeat (first | exact trivial | refine ⟨rfl, ?_⟩)), (by repeat (first | exact List.Sublist.refl _ | exact List.nil_sublist _ | apply List.Sublist.cons_cons | apply List.Sublist.cons | exact List.sublist_append_left _ _))⟩
          · refine W.p (O.cvRow ⟨rfl, rfl⟩ (vt rfl) (by first | rfl | omega) (fun _ => ⟨_, rfl⟩)) ?_
            refine WL.nilQn ⟨(by repeat (first | exact List.nil_sublist _ | exact List.Sublist.refl _ | exact List.sublist_append_left _ _ | exact List.sublist_append_right _ _ | apply List.Sublist.cons_cons | apply List.Sublist.cons | refine List.Sublist.trans ?_ (List.sublist_append_right _ _))), ?_⟩
            refine RH.qa 8 rfl (O.bd (hv := PV.cons (vt rfl) (PV.cons (vt rfl) (PV.nil)))) ?_
            refine RH.two (i := 1) (j := 4) (fun _ _ h => h) (by kernel_rfl) rfl rfl ?_ ?_
            · refine W.p (O.cvRow ⟨rfl, rfl⟩ (vt rfl) (by first | rfl | omega) (fun _ => ⟨_, rfl⟩)) ?_
              refine WL.nilQn ⟨(by repeat (first | exact List.nil_sublist _ | exact List.Sublist.refl _ | exact List.sublist_append_left _ _ | exact List.sublist_append_right _ _ | apply List.Sublist.cons_cons | apply List.Sublist.cons | refine List.Sublist.trans ?_ (List.sublist_append_right _ _))), ?_⟩
              refine RH.qa 2 rfl (O.bd (hv := PV.cons (vt rfl) (PV.cons (vt rfl) (PV.nil)))) ?_
              refine RH.one (i := 4) (fun _ _ h => h) (by kernel_rfl) rfl ?_
              refine W.p (O.cvRow ⟨rfl, rfl⟩ (vt rfl) (by first | rfl | omega) (fun _ => ⟨_, rfl⟩)) ?_
              refine WL.nilQn ⟨(by repeat (first | exact List.nil_sublist _ | exact List.Sublist.refl _ | exact List.sublist_append_left _ _ | exact List.sublist_append_right _ _ | apply List.Sublist.cons_cons | apply List.Sublist.cons | refine List.Sublist.trans ?_ (List.sublist_append_right _ _))), ?_⟩
              refine RH.qa 5 rfl (O.bd (hv := PV.cons (vt rfl) (PV.cons (vt rfl) (PV.nil)))) ?_
              refine RH.one (i := 9) (fun _ _ h => h) (by kernel_rfl) rfl ?_
              refine W.bs encO ([⟨1, (List.replicate (500 : Int).toNat (0 : UInt8))⟩, ⟨2, (List.replicate (500 : Int).toNat (0 : UInt8))⟩, ⟨3, (List.replicate (500 : Int).toNat (0 : UInt8))⟩] : List Opt) rfl (PV.cons (vt rfl) (PV.cons (vt rfl) (PV.cons (vt rfl) (PV.nil)))) rfl rfl rfl (by decide) rfl fun b76 => ?_
              refine WL.nilQn ⟨(by repeat (first | exact List.nil_sublist _ | exact List.Sublist.refl _ | exact List.sublist_append_left _ _ | exact List.sublist_append_right _ _ | apply List.Sublist.cons_cons | apply List.Sublist.cons | refine List.Sublist.trans ?_ (List.sublist_append_right _ _))), ?_⟩
              refine RH.qa 10 rfl (O.as) ?_
              refine RH.done (by kernel_rfl) (Q.tn ?_)
              exact ⟨_, trivial, (by repeat (first | exact trivial | refine ⟨rfl, ?_⟩)), (by repeat (first | exact List.Sublist.refl _ | exact List.nil_sublist _ | apply List.Sublist.cons_cons | apply List.Sublist.cons | exact List.sublist_append_left _ _))⟩
            · refine W.p (O.cvRow ⟨rfl, rfl⟩ (vt rfl) (by first | rfl | omega) (fun _ => ⟨_, rfl⟩)) ?_
              refine WL.nilQn ⟨(by repeat (first | exact List.nil_sublist _ | exact List.Sublist.refl _ | exact List.sublist_append_left _ _ | exact List.sublist_append_right _ _ | apply List.Sublist.cons_cons | apply List.Sublist.cons | refine List.Sublist.trans ?_ (List.sublist_append_right _ _))), ?_⟩
              refine RH.qa 5 rfl (O.bd (hv := PV.cons (vt rfl) (PV.cons (vt rfl) (PV.nil)))) ?_
              refine RH.one (i := 1) (fun _ _ h => h) (by kernel_rfl) rfl ?_
              refine W.p (O.cvRow ⟨rfl, rfl⟩ (vt rfl) (by first | rfl | omega) (fun _ => ⟨_, rfl⟩)) ?_
              refine WL.nilQn ⟨(by repeat (first | exact List.nil_sublist _ | exact List.Sublist.refl _ | exact List.sublist_append_left _ _ | exact List.sublist_append_right _ _ | apply List.Sublist.cons_cons | apply List.Sublist.cons | refine List.Sublist.trans ?_ (List.sublist_append_right _ _))), ?_⟩
              refine RH.qa 2 rfl (O.bd (hv := PV.cons (vt rfl) (PV.cons (vt rfl) (PV.nil)))) ?_
              refine RH.one (i := 9) (fun _ _ h => h) (by kernel_rfl) rfl ?_
              refine W.bs encO ([⟨1, (List.replicate (500 : Int).toNat (0 : UInt8))⟩, ⟨2, (List.replicate (500 : Int).toNat (0 : UInt8))⟩, ⟨3, (List.replicate (500 : Int).toNat (0 : UInt8))⟩] : List Opt) rfl (PV.cons (vt rfl) (PV.cons (vt rfl) (PV.cons (vt rfl) (PV.nil)))) rfl rfl rfl (by decide) rfl fun b77 => ?_
              refine WL.nilQn ⟨(by repeat (first | exact List.nil_sublist _ | exact List.Sublist.refl _ | exact List.sublist_append_left _ _ | exact List.sublist_append_right _ _ | apply List.Sublist.cons_cons | apply List.Sublist.cons | refine List.Sublist.trans ?_ (List.sublist_append_right _ _))), ?_⟩
              refine RH.qa 10 rfl (O.as) ?_
              refine RH.done (by kernel_rfl) (Q.tn ?_)
              exact ⟨_, trivial, (by repeat (first | exact trivial | refine ⟨rfl, ?_⟩)), (by repeat (first | exact List.Sublist.refl _ | exact List.nil_sublist _ | apply List.Sublist.cons_cons | apply List.Sublist.cons | exact List.sublist_append_left _ _))⟩
      · refine W.p (O.cvRow ⟨rfl, rfl⟩ (vt rfl) (by first | rfl | omega) (fun _ => ⟨_, rfl⟩)) ?_
        refine WL.nilQn ⟨(by repeat (first | exact List.nil_sublist _ | exact List.Sublist.refl _ | exact List.sublist_append_left _ _ | exact List.sublist_append_right _ _ | apply List.Sublist.cons_cons | apply List.Sublist.cons | refine List.Sublist.trans ?_ (List.sublist_append_right _ _))), ?_⟩
        refine RH.qa 5 rfl (O.bd (hv := PV.cons (vt rfl) (PV.cons (vt rfl) (PV.nil)))) ?_
        refine RH.two (i := 0) (j := 6) (fun _ _ h => h) (by kernel_rfl) rfl rfl ?_ ?_
        · refine W.mkF rfl (vt rfl) (vt rfl) (by first | omega | decide) fun b78 => ?_
          refine WL.nilQn ⟨(by repeat (first | exact List.nil_sublist _ | exact List.Sublist.refl _ | exact List.sublist_append_left _ _ | exact List.sublist_append_right _ _ | apply List.Sublist.cons_cons | apply List.Sublist.cons | refine List.Sublist.trans ?_ (List.sublist_append_right _ _))), ?_⟩
          refine RH.two (i := 1) (j := 6) (fun _ _ h => h) (by kernel_rfl) rfl rfl ?_ ?_
          · refine W.p (O.cvRow ⟨rfl, rfl⟩ (vt rfl) (by first | rfl | omega) (fun _ => ⟨_, rfl⟩)) ?_
            refine WL.nilQn ⟨(by repeat (first | exact List.nil_sublist _ | exact List.Sublist.refl _ | exact List.sublist_append_left _ _ | exact List.sublist_append_right _ _ | apply List.Sublist.cons_cons | apply List.Sublist.cons | refine List.Sublist.trans ?_ (List.sublist_append_right _ _))), ?_⟩
            refine RH.qa 2 rfl (O.bd (hv := PV.cons (vt rfl) (PV.cons (vt rfl) (PV.nil)))) ?_
            refine RH.one (i := 6) (fun _ _ h => h) (by kernel_rfl) rfl ?_
            refine W.mkF rfl (vt rfl) (vt rfl) (by first | omega | decide) fun b79 => ?_
            refine WL.nilQn ⟨(by repeat (first | exact List.nil_sublist _ | exact List.Sublist.refl _ | exact List.sublist_append_left _ _ | exact List.sublist_append_right _ _ | apply List.Sublist.cons_cons | apply List.Sublist.cons | refine List.Sublist.trans ?_ (List.sublist_append_right _ _))), ?_⟩
            refine RH.one (i := 7) (fun _ _ h => h) (by kernel_rfl) rfl ?_
            refine W.p (O.cvRow ⟨rfl, rfl⟩ (vt rfl) (by first | rfl | omega) (fun _ => ⟨_, rfl⟩)) ?_
            refine WL.nilQn ⟨(by repeat (first | exact List.nil_sublist _ | exact List.Sublist.refl _ | exact List.sublist_append_left _ _ | exact List.sublist_append_right _ _ | apply List.Sublist.cons_cons | apply List.Sublist.cons | refine List.Sublist.trans ?_ (List.sublist_append_right _ _))), ?_⟩
            refine RH.qa 8 rfl (O.bd (hv := PV.cons (vt rfl) (PV.cons (vt rfl) (PV.nil)))) ?_
            refine RH.one (i := 9) (fun _ _ h => h) (by kernel_rfl) rfl ?_
            refine W.bs encO ([⟨1, (List.replicate (500 : Int).toNat (0 : UInt8))⟩, ⟨2, (List.replicate (500 : Int).toNat (0 : UInt8))⟩, ⟨3, (List.replicate (500 : Int).toNat (0 : UInt8))⟩] : List Opt) rfl (PV.cons (vt rfl) (PV.cons (vt rfl) (PV.cons (vt rfl) (PV.nil)))) rfl rfl rfl (by decide) rfl fun b80 => ?_
            refine WL.nilQn ⟨(by repeat (first | exact List.nil_sublist _ | exact List.Sublist.refl _ | exact List.sublist_append_left _ _ | exact List.sublist_append_right _ _ | apply List.Sublist.cons_cons | apply List.Sublist.cons | refine List.Sublist.trans ?_ (List.sublist_append_right _ _))), ?_⟩
            refine RH.qa 10 rfl (O.as) ?_
            refine RH.done (by kernel_rfl) (Q.tn ?_)
            exact ⟨_, trivial, (by repeat (first | exact trivial | refine ⟨rfl, ?_⟩)), (by repeat (first | exact List.Sublist.refl _ | exact List.nil_sublist _ | apply List.Sublist.cons_cons | apply List.Sublist.cons | exact List.sublist_append_left _ _))⟩
          · refine W.mkF rfl (vt rfl) (vt rfl) (by first | omega | decide) fun b81 => ?_
            refine WL.nilQn ⟨(by repeat (first | exact List.nil_sublist _ | exact List.Sublist.refl _ | exact List.sublist_append_left _ _ | exact List.sublist_append_right _ _ | apply List.Sublist.cons_cons | apply List.Sublist.cons | refine List.Sublist.trans ?_ (List.sublist_append_right _ _))), ?_⟩
            refine RH.two (i := 1) (j := 7) (fun _ _ h => h) (by kernel_rfl) rfl rfl ?_ ?_
            · refine W.p (O.cvRow ⟨rfl, rfl⟩ (vt rfl) (by first | rfl | omega) (fun _ => ⟨_, rfl⟩)) ?_
              refine WL.nilQn ⟨(by repeat (first | exact List.nil_sublist _ | exact List.Sublist.refl _ | exact List.sublist_append_left _ _ | exact List.sublist_append_right _ _ | apply List.Sublist.cons_cons | apply List.Sublist.cons | refine List.Sublist.trans ?_ (List.sublist_append_right _ _))), ?_⟩
              refine RH.qa 2 rfl (O.bd (hv := PV.cons (vt rfl) (PV.cons (vt rfl) (PV.nil)))) ?_
              refine RH.one (i := 7) (fun _ _ h => h) (by kernel_rfl) rfl ?_
              refine W.p (O.cvRow ⟨rfl, rfl⟩ (vt rfl) (by first | rfl | omega) (fun _ => ⟨_, rfl⟩)) ?_
              refine WL.nilQn ⟨(by repeat (first | exact List.nil_sublist _ | exact List.Sublist.refl _ | exact List.sublist_append_left _ _ | exact List.sublist_append_right _ _ | apply List.Sublist.cons_cons | apply List.Sublist.cons | refine List.Sublist.trans ?_ (List.sublist_append_right _ _))), ?_⟩
              refine RH.qa 8 rfl (O.bd (hv := PV.cons (vt rfl) (PV.cons (vt rfl) (PV.nil)))) ?_
              refine RH.one (i := 9) (fun _ _ h => h) (by kernel_rfl) rfl ?_
              refine W.bs encO ([⟨1, (List.replicate (500 : Int).toNat (0 : UInt8))⟩, ⟨2, (List.replicate (500 : Int).toNat (0 : UInt8))⟩, ⟨3, (List.replicate (500 : Int).toNat (0 : UInt8))⟩] : List Opt) rfl (PV.cons (vt rfl) (PV.cons (vt rfl) (PV.cons (vt rfl) (PV.nil)))) rfl rfl rfl (by decide) rfl fun b82 => ?_
              refine WL.nilQn ⟨(by repeat (first | exact List.nil_sublist _ | exact List.Sublist.refl _ | exact List.sublist_append_left _ _ | exact List.sublist_append_right _ _ | apply List.Sublist.cons_cons | apply List.Sublist.cons | refine List.Sublist.trans ?_ (List.sublist_append_right _ _))), ?_⟩
              refine RH.qa 10 rfl (O.as) ?_
              refine RH.done (by kernel_rfl) (Q.tn ?_)
              exact ⟨_, trivial, (by repeat (first | exact trivial | refine ⟨rfl, ?_⟩)), (by repeat (first | exact List.Sublist.refl _ | exact List.nil_sublist _ | apply List.Sublist.cons_cons | apply List.Sublist.cons | exact List.sublist_append_left _ _))⟩
            · refine W.p (O.cvRow ⟨rfl, rfl⟩ (vt rfl) (by first | rfl | omega) (fun _ => ⟨_, rfl⟩)) ?_
              refine WL.nilQn ⟨(by repeat (first | exact List.nil_sublist _ | exact List.Sublist.refl _ | exact List.sublist_append_left _ _ | exact List.sublist_append_right _ _ | apply List.Sublist.cons_cons | apply List.Sublist.cons | refine List.Sublist.trans ?_ (List.sublist_append_right _ _))), ?_⟩
              refine RH.qa 8 rfl (O.bd (hv := PV.cons (vt rfl) (PV.cons (vt rfl) (PV.nil)))) ?_
              refine RH.one (i := 1) (fun _ _ h => h) (by kernel_rfl) rfl ?_
              refine W.p (O.cvRow ⟨rfl, rfl⟩ (vt rfl) (by first | rfl | omega) (fun _ => ⟨_, rfl⟩)) ?_
              refine WL.nilQn ⟨(by repeat (first | exact List.nil_sublist _ | exact List.Sublist.refl _ | exact List.sublist_append_left _ _ | exact List.sublist_append_right _ _ | apply List.Sublist.cons_cons | apply List.Sublist.cons | refine List.Sublist.trans ?_ (List.sublist_append_right _ _))), ?_⟩
              refine RH.qa 2 rfl (O.bd (hv := PV.cons (vt rfl) (PV.cons (vt rfl) (PV.nil)))) ?_
              refine RH.one (i := 9) (fun _ _ h => h) (by kernel_rfl) rfl ?_
              refine W.bs encO ([⟨1, (List.replicate (500 : Int).toNat (0 : UInt8))⟩, ⟨2, (List.replicate (500 : Int).toNat (0 : UInt8))⟩, ⟨3, (List.replicate (500 : Int).toNat (0 : UInt8))⟩] : List Opt) rfl (PV.cons (vt rfl) (PV.cons (vt rfl) (PV.cons (vt rfl) (PV.nil)))) rfl rfl rfl (by decide) rfl fun b83 => ?_
              refine WL.nilQn ⟨(by repeat (first | exact List.nil_sublist _ | exact List.Sublist.refl _ | exact List.sublist_append_left _ _ | exact List.sublist_append_right _ _ | apply List.Sublist.cons_cons | apply List.Sublist.cons | refine List.Sublist.trans ?_ (List.sublist_append_right _ _))), ?_⟩
              refine RH.qa 10 rfl (O.as) ?_
              refine RH.done (by kernel_rfl) (Q.tn ?_)
              exact ⟨_, trivial, (by repeat (first | exact trivial | refine ⟨rfl, ?_⟩)), (by repeat (first | exact List.Sublist.refl _ | exact List.nil_sublist _ | apply List.Sublist.cons_cons | apply List.Sublist.cons | exact List.sublist_append_left _ _))⟩
        · refine W.mkF rfl (vt rfl) (vt rfl) (by first | omega | decide) fun b84 => ?_
          refine WL.nilQn ⟨(by repeat (first | exact List.nil_sublist _ | exact List.Sublist.refl _ | exact List.sublist_append_left _ _ | exact List.sublist_append_right _ _ | apply List.Sublist.cons_cons | apply List.Sublist.cons | refine List.Sublist.trans ?_ (List.sublist_append_right _ _))), ?_⟩
          refine RH.two (i := 0) (j := 7) (fun _ _ h => h) (by kernel_rfl) rfl rfl ?_ ?_
          · refine W.mkF rfl (vt rfl) (vt rfl) (by first | omega | decide) fun b85 => ?_
            refine WL.nilQn ⟨(by repeat (first | exact List.nil_sublist _ | exact List.Sublist.refl _ | exact List.sublist_append_left _ _ | exact List.sublist_append_right _ _ | apply List.Sublist.cons_cons | apply List.Sublist.cons | refine List.Sublist.trans ?_ (List.sublist_append_right _ _))), ?_⟩
            refine RH.two (i := 1) (j := 7) (fun _ _ h => h) (by kernel_rfl) rfl rfl ?_ ?_
            · refine W.p (O.cvRow ⟨rfl, rfl⟩ (vt rfl) (by first | rfl | omega) (fun _ => ⟨_, rfl⟩)) ?_
              refine WL.nilQn ⟨(by repeat (first | exact List.nil_sublist _ | exact List.Sublist.refl _ | exact List.sublist_append_left _ _ | exact List.sublist_append_right _ _ | apply List.Sublist.cons_cons | apply List.Sublist.cons | refine List.Sublist.trans ?_ (List.sublist_append_right _ _))), ?_⟩
              refine RH.qa 2 rfl (O.bd (hv := PV.cons (vt rfl) (PV.cons (vt rfl) (PV.nil)))) ?_
              refine RH.one (i := 7) (fun _ _ h => h) (by kernel_rfl) rfl ?_
              refine W.p (O.cvRow ⟨rfl, rfl⟩ (vt rfl) (by first | rfl | omega) (fun _ => ⟨_, rfl⟩)) ?_
              refine WL.nilQn ⟨(by repeat (first | exact List.nil_sublist _ | exact List.Sublist.refl _ | exact List.sublist_append_left _ _ | exact List.sublist_append_right _ _ | apply List.Sublist.cons_cons | apply List.Sublist.cons | refine List.Sublist.trans ?_ (List.sublist_append_right _ _))), ?_⟩
              refine RH.qa 8 rfl (O.bd (hv := PV.cons (vt rfl) (PV.cons (vt rfl) (PV.nil)))) ?_
              refine RH.one (i := 9) (fun _ _ h => h) (by kernel_rfl) rfl ?_
              refine W.bs encO ([⟨1, (List.replicate (500 : Int).toNat (0 : UInt8))⟩, ⟨2, (List.replicate (500 : Int).toNat (0 : UInt8))⟩, ⟨3, (List.replicate (500 : Int).toNat (0 : UInt8))⟩] : List Opt) rfl (PV.cons (vt rfl) (PV.cons (vt rfl) (PV.cons (vt rfl) (PV.nil)))) rfl rfl rfl (by decide) rfl fun b86 => ?_
              refine WL.nilQn ⟨(by repeat (first | exact List.nil_sublist _ | exact List.Sublist.refl _ | exact List.sublist_append_left _ _ | exact List.sublist_append_right _ _ | apply List.Sublist.cons_cons | apply List.Sublist.cons | refine List.Sublist.trans ?_ (List.sublist_append_right _ _))), ?_⟩
              refine RH.qa 10 rfl (O.as) ?_
              refine RH.done (by kernel_rfl) (Q.tn ?_)
              exact ⟨_, trivial, (by repeat (first | exact trivial | refine ⟨rfl, ?_⟩)), (by repeat (first | exact List.Sublist.refl _ | exact List.nil_sublist _ | apply List.Sublist.cons_cons | apply List.Sublist.cons | exact List.sublist_append_left _ _))⟩
            · refine W.p (O.cvRow ⟨rfl, rfl⟩ (vt rfl) (by first | rfl | omega) (fun _ => ⟨_, rfl⟩)) ?_
              refine WL.nilQn ⟨(by repeat (first | exact List.nil_sublist _ | exact List.Sublist.refl _ | exact List.sublist_append_left _ _ | exact List.sublist_append_right _ _ | apply List.Sublist.cons_cons | apply List.Sublist.cons | refine List.Sublist.trans ?_ (List.sublist_append_right _ _))), ?_⟩
              refine RH.qa 8 rfl (O.bd (hv := PV.cons (vt rfl) (PV.cons (vt rfl) (PV.nil)))) ?_
              refine RH.one (i := 1) (fun _ _ h => h) (by kernel_rfl) rfl ?_
              refine W.p (O.cvRow ⟨rfl, rfl⟩ (vt rfl) (by first | rfl | omega) (fun _ => ⟨_, rfl⟩)) ?_
              refine WL.nilQn ⟨(by repeat (first | exact List.nil_sublist _ | exact List.Sublist.refl _ | exact List.sublist_append_left _ _ | exact List.sublist_append_right _ _ | apply List.Sublist.cons_cons | apply List.Sublist.cons | refine List.Sublist.trans ?_ (List.sublist_append_right _ _))), ?_⟩
              refine RH.qa 2 rfl (O.bd (hv := PV.cons (vt rfl) (PV.cons (vt rfl) (PV.nil)))) ?_
              refine RH.one (i := 9) (fun _ _ h => h) (by kernel_rfl) rfl ?_
              refine W.bs encO ([⟨1, (List.replicate (500 : Int).toNat (0 : UInt8))⟩, ⟨2, (List.replicate (500 : Int).toNat (0 : UInt8))⟩, ⟨3, (List.replicate (500 : Int).toNat (0 : UInt8))⟩] : List Opt) rfl (PV.cons (vt rfl) (PV.cons (vt rfl) (PV.cons (vt rfl) (PV.nil)))) rfl rfl rfl (by decide) rfl fun b87 => ?_
              refine WL.nilQn ⟨(by repeat (first | exact List.nil_sublist _ | exact List.Sublist.refl _ | exact List.sublist_append_left _ _ | exact List.sublist_append_right _ _ | apply List.Sublist.cons_cons | apply List.Sublist.cons | refine List.Sublist.trans ?_ (List.sublist_append_right _ _))), ?_⟩
              refine RH.qa 10 rfl (O.as) ?_
              refine RH.done (by kernel_rfl) (Q.tn ?_)
              exact ⟨_, trivial, (by repeat (first | exact trivial | refine ⟨rfl, ?_⟩)), (by repeat (first | exact List.Sublist.refl _ | exact List.nil_sublist _ | apply List.Sublist.cons_cons | apply List.Sublist.cons | exact List.sublist_append_left _ _))⟩
          · refine W.p (O.cvRow ⟨rfl, rfl⟩ (vt rfl) (by first | rfl | omega) (fun _ => ⟨_, rfl⟩)) ?_
            refine WL.nilQn ⟨(by repeat (first | exact List.nil_sublist _ | exact List.Sublist.refl _ | exact List.sublist_append_left _ _ | exact List.sublist_append_right _ _ | apply List.Sublist.cons_cons | apply List.Sublist.cons | refine List.Sublist.trans ?_ (List.sublist_append_right _ _))), ?_⟩
            refine RH.qa 8 rfl (O.bd (hv := PV.cons (vt rfl) (PV.cons (vt rfl) (PV.nil)))) ?_
            refine RH.one (i := 0) (fun _ _ h => h) (by kernel_rfl) rfl ?_
            refine W.mkF rfl (vt rfl) (vt rfl) (by first | omega | decide) fun b88 => ?_
            refine WL.nilQn ⟨(by repeat (first | exact List.nil_sublist _ | exact List.Sublist.refl _ | exact List.sublist_append_left _ _ | exact List.sublist_append_right _ _ | apply List.Sublist.cons_cons | apply List.Sublist.cons | refine List.Sublist.trans ?_ (List.sublist_append_right _ _))), ?_⟩
            refine RH.one (i := 1) (fun _ _ h => h) (by kernel_rfl) rfl ?_
            refine W.p (O.cvRow ⟨rfl, rfl⟩ (vt rfl) (by first | rfl | omega) (fun _ => ⟨_, rfl⟩)) ?_
            refine WL.nilQn ⟨(by repeat (first | exact List.nil_sublist _ | exact List.Sublist.refl _ | exact List.sublist_append_left _ _ | exact List.sublist_append_right _ _ | apply List.Sublist.cons_cons | apply List.Sublist.cons | refine List.Sublist.trans ?_ (List.sublist_append_right _ _))), ?_⟩
            refine RH.qa 2 rfl (O.bd (hv := PV.cons (vt rfl) (PV.cons (vt rfl) (PV.nil)))) ?_
            refine RH.one (i := 9) (fun _ _ h => h) (by kernel_rfl) rfl ?_
            refine W.bs encO ([⟨1, (List.replicate (500 : Int).toNat (0 : UInt8))⟩, ⟨2, (List.replicate (500 : Int).toNat (0 : UInt8))⟩, ⟨3, (List.replicate (500 : Int).toNat (0 : UInt8))⟩] : List Opt) rfl (PV.cons (vt rfl) (PV.cons (vt rfl) (PV.cons (vt rfl) (PV.nil)))) rfl rfl rfl (by decide) rfl fun b89 => ?_
            refine WL.nilQn ⟨(by repeat (first | exact List.nil_sublist _ | exact List.Sublist.refl _ | exact List.sublist_append_left _ _ | exact List.sublist_append_right _ _ | apply List.Sublist.cons_cons | apply List.Sublist.cons | refine List.Sublist.trans ?_ (List.sublist_append_right _ _))), ?_⟩
            refine RH.qa 10 rfl (O.as) ?_
            refine RH.done (by kernel_rfl) (Q.tn ?_)
            exact ⟨_, trivial, (by repeat (first | exact trivial | refine ⟨rfl, ?_⟩)), (by repeat (first | exact List.Sublist.refl _ | exact List.nil_sublist _ | apply List.Sublist.cons_cons | apply List.Sublist.cons | exact List.sublist_append_left _ _))⟩
      · refine W.mkF rfl (vt rfl) (vt rfl) (by first | omega | decide) fun b90 => ?_
        refine WL.nilQn ⟨(by repeat (first | exact List.nil_sublist _ | exact List.Sublist.refl _ | exact List.sublist_append_left _ _ | exact List.sublist_append_right _ _ | apply List.Sublist.cons_cons | apply List.Sublist.cons | refine List.Sublist.trans ?_ (List.sublist_append_right _ _))), ?_⟩
        refine RH.three (i := 0) (j := 4) (k := 7) (fun _ _ h => h) (by kernel_rfl) rfl rfl rfl ?_ ?_ ?_
        · refine W.mkF rfl (vt rfl) (vt rfl) (by first | omega | decide) fun b91 => ?_
          refine WL.nilQn ⟨(by repeat (first | exact List.nil_sublist _ | exact List.Sublist.refl _ | exact List.sublist_append_left _ _ | exact List.sublist_append_right _ _ | apply List.Sublist.cons_cons | apply List.Sublist.cons | refine List.Sublist.trans ?_ (List.sublist_append_right _ _))), ?_⟩
          refine RH.three (i := 1) (j := 4) (k := 7) (fun _ _ h => h) (by kernel_rfl) rfl rfl rfl ?_ ?_ ?_
          · refine W.p (O.cvRow ⟨rfl, rfl⟩ (vt rfl) (by first | rfl | omega) (fun _ => ⟨_, rfl⟩)) ?_
            refine WL.nilQn ⟨(by repeat (first | exact List.nil_sublist _ | exact List.Sublist.refl _ | exact List.sublist_append_left _ _ | exact List.sublist_append_right _ _ | apply List.Sublist.cons_cons | apply List.Sublist.cons | refine List.Sublist.trans ?_ (List.sublist_append_right _ _))), ?_⟩
            refine RH.qa 2 rfl (O.bd (hv := PV.cons (vt rfl) (PV.cons (vt rfl) (PV.nil)))) ?_
            refine RH.two (i := 4) (j := 7) (fun _ _ h => h) (by kernel_rfl) rfl rfl ?_ ?_
            · refine W.p (O.cvRow ⟨rfl, rfl⟩ (vt rfl) (by first | rfl | omega) (fun _ => ⟨_, rfl⟩)) ?_
              refine WL.nilQn ⟨(by repeat (first | exact List.nil_sublist _ | exact List.Sublist.refl _ | exact List.sublist_append_left _ _ | exact List.sublist_append_right _ _ | apply List.Sublist.cons_cons | apply List.Sublist.cons | refine List.Sublist.trans ?_ (List.sublist_append_right _ _))), ?_⟩
              refine RH.qa 5 rfl (O.bd (hv := PV.cons (vt rfl) (PV.cons (vt rfl) (PV.nil)))) ?_
              refine RH.one (i := 7) (fun _ _ h => h) (by kernel_rfl) rfl ?_
              refine W.p (O.cvRow ⟨rfl, rfl⟩ (vt rfl) (by first | rfl | omega) (fun _ => ⟨_, rfl⟩)) ?_
              refine WL.nilQn ⟨(by repeat (first | exact List.nil_sublist _ | exact List.Sublist.refl _ | exact List.sublist_append_left _ _ | exact List.sublist_append_right _ _ | apply List.Sublist.cons_cons | apply List.Sublist.cons | refine List.Sublist.trans ?_ (List.sublist_append_right _ _))), ?_⟩
              refine RH.qa 8 rfl (O.bd (hv := PV.cons (vt rfl) (PV.cons (vt rfl) (PV.nil)))) ?_
              refine RH.one (i := 9) (fun _ _ h => h) (by kernel_rfl) rfl ?_
              refine W.bs encO ([⟨1, (List.replicate (500 : Int).toNat (0 : UInt8))⟩, ⟨2, (List.replicate (500 : Int).toNat (0 : UInt8))⟩, ⟨3, (List.replicate (500 : Int).toNat (0 : UInt8))⟩] : List Opt) rfl (PV.cons (vt rfl) (PV.cons (vt rfl) (PV.cons (vt rfl) (PV.nil)))) rfl rfl rfl (by decide) rfl fun b92 => ?_
              refine WL.nilQn ⟨(by repeat (first | exact List.nil_sublist _ | exact List.Sublist.refl _ | exact List.sublist_append_left _ _ | exact List.sublist_append_right _ _ | apply List.Sublist.cons_cons | apply List.Sublist.cons | refine List.Sublist.trans ?_ (List.sublist_append_right _ _))), ?_⟩
              refine RH.qa 10 rfl (O.as) ?_
              refine RH.done (by kernel_rfl) (Q.tn ?_)
              exact ⟨_, trivial, (by repeat (first | exact trivial | refine ⟨rfl, ?_⟩)), (by repeat (first | exact List.Sublist.refl _ | exact List.nil_sublist _ | apply List.Sublist.cons_cons | apply List.Sublist.cons | exact List.sublist_append_left _ _))⟩
            · refine W.p (O.cvRow ⟨rfl, rfl⟩ (vt rfl) (by first | rfl | omega) (fun _ => ⟨_, rfl⟩)) ?_
              refine WL.nilQn ⟨(by repeat (first | exact List.nil_sublist _ | exact List.Sublist.refl _ | exact List.sublist_append_left _ _ | exact List.sublist_append_right _ _ | apply List.Sublist.cons_cons | apply List.Sublist.cons | refine List.Sublist.trans ?_ (List.sublist_append_right _ _))), ?_⟩
              refine RH.qa 8 rfl (O.bd (hv := PV.cons (vt rfl) (PV.cons (vt rfl) (PV.nil)))) ?_
              refine RH.one (i := 4) (fun _ _ h => h) (by kernel_rfl) rfl ?_
              refine W.p (O.cvRow ⟨rfl, rfl⟩ (vt rfl) (by first | rfl | omega) (fun _ => ⟨_, rfl⟩)) ?_
              refine WL.nilQn ⟨(by repeat (first | exact List.nil_sublist _ | exact List.Sublist.refl _ | exact List.sublist_append_left _ _ | exact List.sublist_append_right _ _ | apply List.Sublist.cons_cons | apply List.Sublist.cons | refine List.Sublist.trans ?_ (List.sublist_append_right _ _))), ?_⟩
              refine RH.qa 5 rfl (O.bd (hv := PV.cons (vt rfl) (PV.cons (vt rfl) (PV.nil)))) ?_
              refine RH.one (i := 9) (fun _ _ h => h) (by kernel_rfl) rfl ?_
              refine W.bs encO ([⟨1, (List.replicate (500 : Int).toNat (0 : UInt8))⟩, ⟨2, (List.replicate (500 : Int).toNat (0 : UInt8))⟩, ⟨3, (List.replicate (500 : Int).toNat (0 : UInt8))⟩] : List Opt) rfl (PV.cons (vt rfl) (PV.cons (vt rfl) (PV.cons (vt rfl) (PV.nil)))) rfl rfl rfl (by decide) rfl fun b93 => ?_
              refine WL.nilQn ⟨(by repeat (first | exact List.nil_sublist _ | exact List.Sublist.refl _ | exact List.sublist_append_left _ _ | exact List.sublist_append_right _ _ | apply List.Sublist.cons_cons | apply List.Sublist.cons | refine List.Sublist.trans ?_ (List.sublist_append_right _ _))), ?_⟩
              refine RH.qa 10 rfl (O.as) ?_
              refine RH.done (by kernel_rfl) (Q.tn ?_)
              exact ⟨_, trivial, (by repeat (first | exact trivial | refine ⟨rfl, ?_⟩)), (by repeat (first | exact List.Sublist.refl _ | exact List.nil_sublist _ | apply List.Sublist.cons_cons | apply List.Sublist.cons | exact List.sublist_append_left _ _))⟩
          · refine W.p (O.cvRow ⟨rfl, rfl⟩ (vt rfl) (by first | rfl | omega) (fun _ => ⟨_, rfl⟩)) ?_
            refine WL.nilQn ⟨(by repeat (first | exact List.nil_sublist _ | exact List.Sublist.refl _ | exact List.sublist_append_left _ _ | exact List.sublist_append_right _ _ | apply List.Sublist.cons_cons | apply List.Sublist.cons | refine List.Sublist.trans ?_ (List.sublist_append_right _ _))), ?_⟩
            refine RH.qa 5 rfl (O.bd (hv := PV.cons (vt rfl) (PV.cons (vt rfl) (PV.nil)))) ?_
            refine RH.two (i := 1) (j := 7) (fun _ _ h => h) (by kernel_rfl) rfl rfl ?_ ?_
            · refine W.p (O.cvRow ⟨rfl, rfl⟩ (vt rfl) (by first | rfl | omega) (fun _ => ⟨_, rfl⟩)) ?_
              refine WL.nilQn ⟨(by repeat (first | exact List.nil_sublist _ | exact List.Sublist.refl _ | exact List.sublist_append_left _ _ | exact List.sublist_append_right _ _ | apply List.Sublist.cons_cons | apply List.Sublist.cons | refine List.Sublist.trans ?_ (List.sublist_append_right _ _))), ?_⟩
              refine RH.qa 2 rfl (O.bd (hv := PV.cons (vt rfl) (PV.cons (vt rfl) (PV.nil)))) ?_
              refine RH.one (i := 7) (fun _ _ h => h) (by kernel_rfl) rfl ?_
              refine W.p (O.cvRow ⟨rfl, rfl⟩ (vt rfl) (by first | rfl | omega) (fun _ => ⟨_, rfl⟩)) ?_
              refine WL.nilQn ⟨(by repeat (first | exact List.nil_sublist _ | exact List.Sublist.refl _ | exact List.sublist_append_left _ _ | exact List.sublist_append_right _ _ | apply List.Sublist.cons_cons | apply List.Sublist.cons | refine List.Sublist.trans ?_ (List.sublist_append_right _ _))), ?_⟩
              refine RH.qa 8 rfl (O.bd (hv := PV.cons (vt rfl) (PV.cons (vt rfl) (PV.nil)))) ?_
              refine RH.one (i := 9) (fun _ _ h => h) (by kernel_rfl) rfl ?_
              refine W.bs encO ([⟨1, (List.replicate (500 : Int).toNat (0 : UInt8))⟩, ⟨2, (List.replicate (500 : Int).toNat (0 : UInt8))⟩, ⟨3, (List.replicate (500 : Int).toNat (0 : UInt8))⟩] : List Opt) rfl (PV.cons (vt rfl) (PV.cons (vt rfl) (PV.cons (vt rfl) (PV.nil)))) rfl rfl rfl (by decide) rfl fun b94 => ?_
              refine WL.nilQn ⟨(by repeat (first | exact List.nil_sublist _ | exact List.Sublist.refl _ | exact List.sublist_append_left _ _ | exact List.sublist_append_right _ _ | apply List.Sublist.cons_cons | apply List.Sublist.cons | refine List.Sublist.trans ?_ (List.sublist_append_right _ _))), ?_⟩
              refine RH.qa 10 rfl (O.as) ?_
              refine RH.done (by kernel_rfl) (Q.tn ?_)
              exact ⟨_, trivial, (by repeat (first | exact trivial | refine ⟨rfl, ?_⟩)), (by repeat (first | exact List.Sublist.refl _ | exact List.nil_sublist _ | apply List.Sublist.cons_cons | apply List.Sublist.cons | exact List.sublist_append_left _ _))⟩
            · refine W.p (O.cvRow ⟨rfl, rfl⟩ (vt rfl) (by first | rfl | omega) (fun _ => ⟨_, rfl⟩)) ?_
              refine WL.nilQn ⟨(by repeat (first | exact List.nil_sublist _ | exact List.Sublist.refl _ | exact List.sublist_append_left _ _ | exact List.sublist_append_right _ _ | apply List.Sublist.cons_cons | apply List.Sublist.cons | refine List.Sublist.trans ?_ (List.sublist_append_right _ _))), ?_⟩
              refine RH.qa 8 rfl (O.bd (hv := PV.cons (vt rfl) (PV.cons (vt rfl) (PV.nil)))) ?_
              refine RH.one (i := 1) (fun _ _ h => h) (by kernel_rfl) rfl ?_
              refine W.p (O.cvRow ⟨rfl, rfl⟩ (vt rfl) (by first | rfl | omega) (fun _ => ⟨_, rfl⟩)) ?_
              refine WL.nilQn ⟨(by repeat (first | exact List.nil_sublist _ | exact List.Sublist.refl _ | exact List.sublist_append_left _ _ | exact List.sublist_append_right _ _ | apply List.Sublist.cons_cons | apply List.Sublist.cons | refine List.Sublist.trans ?_ (List.sublist_append_right _ _))), ?_⟩
              refine RH.qa 2 rfl (O.bd (hv := PV.cons (vt rfl) (PV.cons (vt rfl) (PV.nil)))) ?_
              refine RH.one (i := 9) (fun _ _ h => h) (by kernel_rfl) rfl ?_
              refine W.bs encO ([⟨1, (List.replicate (500 : Int).toNat (0 : UInt8))⟩, ⟨2, (List.replicate (500 : Int).toNat (0 : UInt8))⟩, ⟨3, (List.replicate (500 : Int).toNat (0 : UInt8))⟩] : List Opt) rfl (PV.cons (vt rfl) (PV.cons (vt rfl) (PV.cons (vt rfl) (PV.nil)))) rfl rfl rfl (by decide) rfl fun b95 => ?_
              refine WL.nilQn ⟨(by repeat (first | exact List.nil_sublist _ | exact List.Sublist.refl _ | exact List.sublist_append_left _ _ | exact List.sublist_append_right _ _ | apply List.Sublist.cons_cons | apply List.Sublist.cons | refine List.Sublist.trans ?_ (List.sublist_append_right _ _))), ?_⟩
              refine RH.qa 10 rfl (O.as) ?_
              refine RH.done (by kernel_rfl) (Q.tn ?_)
              exact ⟨_, trivial, (by repeat (first | exact trivial | refine ⟨rfl, ?_⟩)), (by repeat (first | exact List.Sublist.refl _ | exact List.nil_sublist _ | apply List.Sublist.cons_cons | apply List.Sublist.cons | exact List.sublist_append_left _ _))⟩
          · refine W.p (O.cvRow ⟨rfl, rfl⟩ (vt rfl) (by first | rfl | omega) (fun _ => ⟨_, rfl⟩)) ?_
            refine WL.nilQn ⟨(by repeat (first | exact List.nil_sublist _ | exact List.Sublist.refl _ | exact List.sublist_append_left _ _ | exact List.sublist_append_right _ _ | apply List.Sublist.cons_cons | apply List.Sublist.cons | refine List.Sublist.trans ?_ (List.sublist_append_right _ _))), ?_⟩
            refine RH.qa 8 rfl (O.bd (hv := PV.cons (vt rfl) (PV.cons (vt rfl) (PV.nil)))) ?_
            refine RH.two (i := 1) (j := 4) (fun _ _ h => h) (by kernel_rfl) rfl rfl ?_ ?_
            · refine W.p (O.cvRow ⟨rfl, rfl⟩ (vt rfl) (by first | rfl | omega) (fun _ => ⟨_, rfl⟩)) ?_
              refine WL.nilQn ⟨(by repeat (first | exact List.nil_sublist _ | exact List.Sublist.refl _ | exact List.sublist_append_left _ _ | exact List.sublist_append_right _ _ | apply List.Sublist.cons_cons | apply List.Sublist.cons | refine List.Sublist.trans ?_ (List.sublist_append_right _ _))), ?_⟩
              refine RH.qa 2 rfl (O.bd (hv := PV.cons (vt rfl) (PV.cons (vt rfl) (PV.nil)))) ?_
              refine RH.one (i := 4) (fun _ _ h => h) (by kernel_rfl) rfl ?_
              refine W.p (O.cvRow ⟨rfl, rfl⟩ (vt rfl) (by first | rfl | omega) (fun _ => ⟨_, rfl⟩)) ?_
              refine WL.nilQn ⟨(by repeat (first | exact List.nil_sublist _ | exact List.Sublist.refl _ | exact List.sublist_append_left _ _ | exact List.sublist_append_right _ _ | apply List.Sublist.cons_cons | apply List.Sublist.cons | refine List.Sublist.trans ?_ (List.sublist_append_right _ _))), ?_⟩
              refine RH.qa 5 rfl (O.bd (hv := PV.cons (vt rfl) (PV.cons (vt rfl) (PV.nil)))) ?_
              refine RH.one (i := 9) (fun _ _ h => h) (by kernel_rfl) rfl ?_
              refine W.bs encO ([⟨1, (List.replicate (500 : Int).toNat (0 : UInt8))⟩, ⟨2, (List.replicate (500 : Int).toNat (0 : UInt8))⟩, ⟨3, (List.replicate (500 : Int).toNat (0 : UInt8))⟩] : List Opt) rfl (PV.cons (vt rfl) (PV.cons (vt rfl) (PV.cons (vt rfl) (PV.nil)))) rfl rfl rfl (by decide) rfl fun b96 => ?_
              refine WL.nilQn ⟨(by repeat (first | exact List.nil_sublist _ | exact List.Sublist.refl _ | exact List.sublist_append_left _ _ | exact List.sublist_append_right _ _ | apply List.Sublist.cons_cons | apply List.Sublist.cons | refine List.Sublist.trans ?_ (List.sublist_append_right _ _))), ?_⟩
              refine RH.qa 10 rfl (O.as) ?_
              refine RH.done (by kernel_rfl) (Q.tn ?_)
              exact ⟨_, trivial, (by repeat (first | exact trivial | refine ⟨rfl, ?_⟩)), (by repeat (first | exact List.Sublist.refl _ | exact List.nil_sublist _ | apply List.Sublist.cons_cons | apply List.Sublist.cons | exact List.sublist_append_left _ _))⟩
            · refine W.p (O.cvRow ⟨rfl, rfl⟩ (vt rfl) (by first | rfl | omega) (fun _ => ⟨_, rfl⟩)) ?_
              refine WL.nilQn ⟨(by repeat (first | exact List.nil_sublist _ | exact List.Sublist.refl _ | exact List.sublist_append_left _ _ | exact List.sublist_append_right _ _ | apply List.Sublist.cons_cons | apply List.Sublist.cons | refine List.Sublist.trans ?_ (List.sublist_append_right _ _))), ?_⟩
              refine RH.qa 5 rfl (O.bd (hv := PV.cons (vt rfl) (PV.cons (vt rfl) (PV.nil)))) ?_
              refine RH.one (i := 1) (fun _ _ h => h) (by kernel_rfl) rfl ?_
              refine W.p (O.cvRow ⟨rfl, rfl⟩ (vt rfl) (by first | rfl | omega) (fun _ => ⟨_, rfl⟩)) ?_
              refine WL.nilQn ⟨(by repeat (first | exact List.nil_sublist _ | exact List.Sublist.refl _ | exact List.sublist_append_left _ _ | exact List.sublist_append_right _ _ | apply List.Sublist.cons_cons | apply List.Sublist.cons | refine List.Sublist.trans ?_ (List.sublist_append_right _ _))), ?_⟩
              refine RH.qa 2 rfl (O.bd (hv := PV.cons (vt rfl) (PV.cons (vt rfl) (PV.nil)))) ?_
              refine RH.one (i := 9) (fun _ _ h => h) (by kernel_rfl) rfl ?_
              refine W.bs encO ([⟨1, (List.replicate (500 : Int).toNat (0 : UInt8))⟩, ⟨2, (List.replicate (500 : Int).toNat (0 : UInt8))⟩, ⟨3, (List.replicate (500 : Int).toNat (0 : UInt8))⟩] : List Opt) rfl (PV.cons (vt rfl) (PV.cons (vt rfl) (PV.cons (vt rfl) (PV.nil)))) rfl rfl rfl (by decide) rfl fun b97 => ?_
              refine WL.nilQn ⟨(by repeat (first | exact List.nil_sublist _ | exact List.Sublist.refl _ | exact List.sublist_append_left _ _ | exact List.sublist_append_right _ _ | apply List.Sublist.cons_cons | apply List.Sublist.cons | refine List.Sublist.trans ?_ (List.sublist_append_right _ _))), ?_⟩
              refine RH.qa 10 rfl (O.as) ?_
              refine RH.done (by kernel_rfl) (Q.tn ?_)
              exact ⟨_, trivial, (by repeat (first | exact trivial | refine ⟨rfl, ?_⟩)), (by repeat (first | exact List.Sublist.refl _ | exact List.nil_sublist _ | apply List.Sublist.cons_cons | apply List.Sublist.cons | exact List.sublist_append_left _ _))⟩
        · refine W.p (O.cvRow ⟨rfl, rfl⟩ (vt rfl) (by first | rfl | omega) (fun _ => ⟨_, rfl⟩)) ?_
          refine WL.nilQn ⟨(by repeat (first | exact List.nil_sublist _ | exact List.Sublist.refl _ | exact List.sublist_append_left _ _ | exact List.sublist_append_right _ _ | apply List.Sublist.cons_cons | apply List.Sublist.cons | refine List.Sublist.trans ?_ (List.sublist_append_right _ _))), ?_⟩
          refine RH.qa 5 rfl (O.bd (hv := PV.cons (vt rfl) (PV.cons (vt rfl) (PV.nil)))) ?_
          refine RH.two (i := 0) (j := 7) (fun _ _ h => h) (by kernel_rfl) rfl rfl ?_ ?_
          · refine W.mkF rfl (vt rfl) (vt rfl) (by first | omega | decide) fun b98 => ?_
            refine WL.nilQn ⟨(by repeat (first | exact List.nil_sublist _ | exact List.Sublist.refl _ | exact List.sublist_append_left _ _ | exact List.sublist_append_right _ _ | apply List.Sublist.cons_cons | apply List.Sublist.cons | refine List.Sublist.trans ?_ (List.sublist_append_right _ _))), ?_⟩
            refine RH.two (i := 1) (j := 7) (fun _ _ h => h) (by kernel_rfl) rfl rfl ?_ ?_
            · refine W.p (O.cvRow ⟨rfl, rfl⟩ (vt rfl) (by first | rfl | omega) (fun _ => ⟨_, rfl⟩)) ?_
              refine WL.nilQn ⟨(by repeat (first | exact List.nil_sublist _ | exact List.Sublist.refl _ | exact List.sublist_append_left _ _ | exact List.sublist_append_right _ _ | apply List.Sublist.cons_cons | apply List.Sublist.cons | refine List.Sublist.trans ?_ (List.sublist_append_right _ _))), ?_⟩
              refine RH.qa 2 rfl (O.bd (hv := PV.cons (vt rfl) (PV.cons (vt rfl) (PV.nil)))) ?_
              refine RH.one (i := 7) (fun _ _ h => h) (by kernel_rfl) rfl ?_
              refine W.p (O.cvRow ⟨rfl, rfl⟩ (vt rfl) (by first | rfl | omega) (fun _ => ⟨_, rfl⟩)) ?_
              refine WL.nilQn ⟨(by repeat (first | exact List.nil_sublist _ | exact List.Sublist.refl _ | exact List.sublist_append_left _ _ | exact List.sublist_append_right _ _ | apply List.Sublist.cons_cons | apply List.Sublist.cons | refine List.Sublist.trans ?_ (List.sublist_append_right _ _))), ?_⟩
              refine RH.qa 8 rfl (O.bd (hv := PV.cons (vt rfl) (PV.cons (vt rfl) (PV.nil)))) ?_
              refine RH.one (i := 9) (fun _ _ h => h) (by kernel_rfl) rfl ?_
              refine W.bs encO ([⟨1, (List.replicate (500 : Int).toNat (0 : UInt8))⟩, ⟨2, (List.replicate (500 : Int).toNat (0 : UInt8))⟩, ⟨3, (List.replicate (500 : Int).toNat (0 : UInt8))⟩] : List Opt) rfl (PV.cons (vt rfl) (PV.cons (vt rfl) (PV.cons (vt rfl) (PV.nil)))) rfl rfl rfl (by decide) rfl fun b99 => ?_
              refine WL.nilQn ⟨(by repeat (first | exact List.nil_sublist _ | exact List.Sublist.refl _ | exact List.sublist_append_left _ _ | exact List.sublist_append_right _ _ | apply List.Sublist.cons_cons | apply List.Sublist.cons | refine List.Sublist.trans ?_ (List.sublist_append_right _ _))), ?_⟩
              refine RH.qa 10 rfl (O.as) ?_
              refine RH.done (by kernel_rfl) (Q.tn ?_)
              exact ⟨_, trivial, (by repeat (first | exact trivial | refine ⟨rfl, ?_⟩)), (by repeat (first | exact List.Sublist.refl _ | exact List.nil_sublist _ | apply List.Sublist.cons_cons | apply List.Sublist.cons | exact List.sublist_append_left _ _))⟩
            · refine W.p (O.cvRow ⟨rfl, rfl⟩ (vt rfl) (by first | rfl | omega) (fun _ => ⟨_, rfl⟩)) ?_
              refine WL.nilQn ⟨(by repeat (first | exact List.nil_sublist _ | exact List.Sublist.refl _ | exact List.sublist_append_left _ _ | exact List.sublist_append_right _ _ | apply List.Sublist.cons_cons | apply List.Sublist.cons | refine List.Sublist.trans ?_ (List.sublist_append_right _ _))), ?_⟩
              refine RH.qa 8 rfl (O.bd (hv := PV.cons (vt rfl) (PV.cons (vt rfl) (PV.nil)))) ?_
              refine RH.one (i := 1) (fun _ _ h => h) (by kernel_rfl) rfl ?_
              refine W.p (O.cvRow ⟨rfl, rfl⟩ (vt rfl) (by first | rfl | omega) (fun _ => ⟨_, rfl⟩)) ?_
              refine WL.nilQn ⟨(by repeat (first | exact List.nil_sublist _ | exact List.Sublist.refl _ | exact List.sublist_append_left _ _ | exact List.sublist_append_right _ _ | apply List.Sublist.cons_cons | apply List.Sublist.cons | refine List.Sublist.trans ?_ (List.sublist_append_right _ _))), ?_⟩
              refine RH.qa 2 rfl (O.bd (hv := PV.cons (vt rfl) (PV.cons (vt rfl) (PV.nil)))) ?_
              refine RH.one (i := 9) (fun _ _ h => h) (by kernel_rfl) rfl ?_
              refine W.bs encO ([⟨1, (List.replicate (500 : Int).toNat (0 : UInt8))⟩, ⟨2, (List.replicate (500 : Int).toNat (0 : UInt8))⟩, ⟨3, (List.replicate (500 : Int).toNat (0 : UInt8))⟩] : List Opt) rfl (PV.cons (vt rfl) (PV.cons (vt rfl) (PV.cons (vt rfl) (PV.nil)))) rfl rfl rfl (by decide) rfl fun b100 => ?_
              refine WL.nilQn ⟨(by repeat (first | exact List.nil_sublist _ | exact List.Sublist.refl _ | exact List.sublist_append_left _ _ | exact List.sublist_append_right _ _ | apply List.Sublist.cons_cons | apply List.Sublist.cons | refine List.Sublist.trans ?_ (List.sublist_append_right _ _))), ?_⟩
              refine RH.qa 10 rfl (O.as) ?_
              refine RH.done (by kernel_rfl) (Q.tn ?_)
              exact ⟨_, trivial, (by repeat (first | exact trivial | refine ⟨rfl, ?_⟩)), (by repeat (first | exact List.Sublist.refl _ | exact List.nil_sublist _ | apply List.Sublist.cons_cons | apply List.Sublist.cons | exact List.sublist_append_left _ _))⟩
          · refine W.p (O.cvRow ⟨rfl, rfl⟩ (vt rfl) (by first | rfl | omega) (fun _ => ⟨_, rfl⟩)) ?_
            refine WL.nilQn ⟨(by repeat (first | exact List.nil_sublist _ | exact List.Sublist.refl _ | exact List.sublist_append_left _ _ | exact List.sublist_append_right _ _ | apply List.Sublist.cons_cons | apply List.Sublist.cons | refine List.Sublist.trans ?_ (List.sublist_append_right _ _))), ?_⟩
            refine RH.qa 8 rfl (O.bd (hv := PV.cons (vt rfl) (PV.cons (vt rfl) (PV.nil)))) ?_
            refine RH.one (i := 0) (fun _ _ h => h) (by kernel_rfl) rfl ?_
            refine W.mkF rfl (vt rfl) (vt rfl) (by first | omega | decide) fun b101 => ?_
            refine WL.nilQn ⟨(by repeat (first | exact List.nil_sublist _ | exact List.Sublist.refl _ | exact List.sublist_append_left _ _ | exact List.sublist_append_right _ _ | apply List.Sublist.cons_cons | apply List.Sublist.cons | refine List.Sublist.trans ?_ (List.sublist_append_right _ _))), ?_⟩
            refine RH.one (i := 1) (fun _ _ h => h) (by kernel_rfl) rfl ?_
            refine W.p (O.cvRow ⟨rfl, rfl⟩ (vt rfl) (by first | rfl | omega) (fun _ => ⟨_, rfl⟩)) ?_
            refine WL.nilQn ⟨(by repeat (first | exact List.nil_sublist _ | exact List.Sublist.refl _ | exact List.sublist_append_left _ _ | exact List.sublist_append_right _ _ | apply List.Sublist.cons_cons | apply List.Sublist.cons | refine List.Sublist.trans ?_ (List.sublist_append_right _ _))), ?_⟩
            refine RH.qa 2 rfl (O.bd (hv := PV.cons (vt rfl) (PV.cons (vt rfl) (PV.nil)))) ?_
            refine RH.one (i := 9) (fun _ _ h => h) (by kernel_rfl) rfl ?_
            refine W.bs encO ([⟨1, (List.replicate (500 : Int).toNat (0 : UInt8))⟩, ⟨2, (List.replicate (500 : Int).toNat (0 : UInt8))⟩, ⟨3, (List.replicate (500 : Int).toNat (0 : UInt8))⟩] : List Opt) rfl (PV.cons (vt rfl) (PV.cons (vt rfl) (PV.cons (vt rfl) (PV.nil)))) rfl rfl rfl (by decide) rfl fun b102 => ?_
            refine WL.nilQn ⟨(by repeat (first | exact List.nil_sublist _ | exact List.Sublist.refl _ | exact List.sublist_append_left _ _ | exact List.sublist_append_right _ _ | apply List.Sublist.cons_cons | apply List.Sublist.cons | refine List.Sublist.trans ?_ (List.sublist_append_right _ _))), ?_⟩
            refine RH.qa 10 rfl (O.as) ?_
            refine RH.done (by kernel_rfl) (Q.tn ?_)
            exact ⟨_, trivial, (by repeat (first | exact trivial | refine ⟨rfl, ?_⟩)), (by repeat (first | exact List.Sublist.refl _ | exact List.nil_sublist _ | apply List.Sublist.cons_cons | apply List.Sublist.cons | exact List.sublist_append_left _ _))⟩
        · refine W.p (O.cvRow ⟨rfl, rfl⟩ (vt rfl) (by first | rfl | omega) (fun _ => ⟨_, rfl⟩)) ?_
          refine WL.nilQn ⟨(by repeat (first | exact List.nil_sublist _ | exact List.Sublist.refl _ | exact List.sublist_append_left _ _ | exact List.sublist_append_right _ _ | apply List.Sublist.cons_cons | apply List.Sublist.cons | refine List.Sublist.trans ?_ (List.sublist_append_right _ _))), ?_⟩
          refine RH.qa 8 rfl (O.bd (hv := PV.cons (vt rfl) (PV.cons (vt rfl) (PV.nil)))) ?_
          refine RH.two (i := 0) (j := 4) (fun _ _ h => h) (by kernel_rfl) rfl rfl ?_ ?_
          · refine W.mkF rfl (vt rfl) (vt rfl) (by first | omega | decide) fun b103 => ?_
            refine WL.nilQn ⟨(by repeat (first | exact List.nil_sublist _ | exact List.Sublist.refl _ | exact List.sublist_append_left _ _ | exact List.sublist_append_right _ _ | apply List.Sublist.cons_cons | apply List.Sublist.cons | refine List.Sublist.trans ?_ (List.sublist_append_right _ _))), ?_⟩
            refine RH.two (i := 1) (j := 4) (fun _ _ h => h) (by kernel_rfl) rfl rfl ?_ ?_
            · refine W.p (O.cvRow ⟨rfl, rfl⟩ (vt rfl) (by first | rfl | omega) (fun _ => ⟨_, rfl⟩)) ?_
              refine WL.nilQn ⟨(by repeat (first | exact List.nil_sublist _ | exact List.Sublist.refl _ | exact List.sublist_append_left _ _ | exact List.sublist_append_right _ _ | apply List.Sublist.cons_cons | apply List.Sublist.cons | refine List.Sublist.trans ?_ (List.sublist_append_right _ _))), ?_⟩
              refine RH.qa 2 rfl (O.bd (hv := PV.cons (vt rfl) (PV.cons (vt rfl) (PV.nil)))) ?_
              refine RH.one (i := 4) (fun _ _ h => h) (by kernel_rfl) rfl ?_
              refine W.p (O.cvRow ⟨rfl, rfl⟩ (vt rfl) (by first | rfl | omega) (fun _ => ⟨_, rfl⟩)) ?_
              refine WL.nilQn ⟨(by repeat (first | exact List.nil_sublist _ | exact List.Sublist.refl _ | exact List.sublist_append_left _ _ | exact List.sublist_append_right _ _ | apply List.Sublist.cons_cons | apply List.Sublist.cons | refine List.Sublist.trans ?_ (List.sublist_append_right _ _))), ?_⟩
              refine RH.qa 5 rfl (O.bd (hv := PV.cons (vt rfl) (PV.cons (vt rfl) (PV.nil)))) ?_
              refine RH.one (i := 9) (fun _ _ h => h) (by kernel_rfl) rfl ?_
              refine W.bs encO ([⟨1, (List.replicate (500 : Int).toNat (0 : UInt8))⟩, ⟨2, (List.replicate (500 : Int).toNat (0 : UInt8))⟩, ⟨3, (List.replicate (500 : Int).toNat (0 : UInt8))⟩] : List Opt) rfl (PV.cons (vt rfl) (PV.cons (vt rfl) (PV.cons (vt rfl) (PV.nil)))) rfl rfl rfl (by decide) rfl fun b104 => ?_
              refine WL.nilQn ⟨(by repeat (first | exact List.nil_sublist _ | exact List.Sublist.refl _ | exact List.sublist_append_left _ _ | exact List.sublist_append_right _ _ | apply List.Sublist.cons_cons | apply List.Sublist.cons | refine List.Sublist.trans ?_ (List.sublist_append_right _ _))), ?_⟩
              refine RH.qa 10 rfl (O.as) ?_
              refine RH.done (by kernel_rfl) (Q.tn ?_)
              exact ⟨_, trivial, (by repeat (first | exact trivial | refine ⟨rfl, ?_⟩)), (by repeat (first | exact List.Sublist.refl _ | exact List.nil_sublist _ | apply List.Sublist.cons_cons | apply List.Sublist.cons | exact List.sublist_append_left _ _))⟩
            · refine W.p (O.cvRow ⟨rfl, rfl⟩ (vt rfl) (by first | rfl | omega) (fun _ => ⟨_, rfl⟩)) ?_
              refine WL.nilQn ⟨(by repeat (first | exact List.nil_sublist _ | exact List.Sublist.refl _ | exact List.sublist_append_left _ _ | exact List.sublist_append_right _ _ | apply List.Sublist.cons_cons | apply List.Sublist.cons | refine List.Sublist.trans ?_ (List.sublist_append_right _ _))), ?_⟩
              refine RH.qa 5 rfl (O.bd (hv := PV.cons (vt rfl) (PV.cons (vt rfl) (PV.nil)))) ?_
              refine RH.one (i := 1) (fun _ _ h => h) (by kernel_rfl) rfl ?_
              refine W.p (O.cvRow ⟨rfl, rfl⟩ (vt rfl) (by first | rfl | omega) (fun _ => ⟨_, rfl⟩)) ?_
              refine WL.nilQn ⟨(by repeat (first | exact List.nil_sublist _ | exact List.Sublist.refl _ | exact List.sublist_append_left _ _ | exact List.sublist_append_right _ _ | apply List.Sublist.cons_cons | apply List.Sublist.cons | refine List.Sublist.trans ?_ (List.sublist_append_right _ _))), ?_⟩
              refine RH.qa 2 rfl (O.bd (hv := PV.cons (vt rfl) (PV.cons (vt rfl) (PV.nil)))) ?_
              refine RH.one (i := 9) (fun _ _ h => h) (by kernel_rfl) rfl ?_
              refine W.bs encO ([⟨1, (List.replicate (500 : Int).toNat (0 : UInt8))⟩, ⟨2, (List.replicate (500 : Int).toNat (0 : UInt8))⟩, ⟨3, (List.replicate (500 : Int).toNat (0 : UInt8))⟩] : List Opt) rfl (PV.cons (vt rfl) (PV.cons (vt rfl) (PV.cons (vt rfl) (PV.nil)))) rfl rfl rfl (by decide) rfl fun b105 => ?_
              refine WL.nilQn ⟨(by repeat (first | exact List.nil_sublist _ | exact List.Sublist.refl _ | exact List.sublist_append_left _ _ | exact List.sublist_append_right _ _ | apply List.Sublist.cons_cons | apply List.Sublist.cons | refine List.Sublist.trans ?_ (List.sublist_append_right _ _))), ?_⟩
              refine RH.qa 10 rfl (O.as) ?_
              refine RH.done (by kernel_rfl) (Q.tn ?_)
              exact ⟨_, trivial, (by repeat (first | exact trivial | refine ⟨rfl, ?_⟩)), (by repeat (first | exact List.Sublist.refl _ | exact List.nil_sublist _ | apply List.Sublist.cons_cons | apply List.Sublist.cons | exact List.sublist_append_left _ _))⟩
          · refine W.p (O.cvRow ⟨rfl, rfl⟩ (vt rfl) (by first | rfl | omega) (fun _ => ⟨_, rfl⟩)) ?_
            refine WL.nilQn ⟨(by repeat (first | exact List.nil_sublist _ | exact List.Sublist.refl _ | exact List.sublist_append_left _ _ | exact List.sublist_append_right _ _ | apply List.Sublist.cons_cons | apply List.Sublist.cons | refine List.Sublist.trans ?_ (List.sublist_append_right _ _))), ?_⟩
            refine RH.qa 5 rfl (O.bd (hv := PV.cons (vt rfl) (PV.cons (vt rfl) (PV.nil)))) ?_
            refine RH.one (i := 0) (fun _ _ h => h) (by kernel_rfl) rfl ?_
            refine W.mkF rfl (vt rfl) (vt rfl) (by first | omega | decide) fun b106 => ?_
            refine WL.nilQn ⟨(by repeat (first | exact List.nil_sublist _ | exact List.Sublist.refl _ | exact List.sublist_append_left _ _ | exact List.sublist_append_right _ _ | apply List.Sublist.cons_cons | apply List.Sublist.cons | refine List.Sublist.trans ?_ (List.sublist_append_right _ _))), ?_⟩
            refine RH.one (i := 1) (fun _ _ h => h) (by kernel_rfl) rfl ?_
            refine W.p (O.cvRow ⟨rfl, rfl⟩ (vt rfl) (by first | rfl | omega) (fun _ => ⟨_, rfl⟩)) ?_
            refine WL.nilQn ⟨(by repeat (first | exact List.nil_sublist _ | exact List.Sublist.refl _ | exact List.sublist_append_left _ _ | exact List.sublist_append_right _ _ | apply List.Sublist.cons_cons | apply List.Sublist.cons | refine List.Sublist.trans ?_ (List.sublist_append_right _ _))), ?_⟩
            refine RH.qa 2 rfl (O.bd (hv := PV.cons (vt rfl) (PV.cons (vt rfl) (PV.nil)))) ?_
            refine RH.one (i := 9) (fun _ _ h => h) (by kernel_rfl) rfl ?_
            refine W.bs encO ([⟨1, (List.replicate (500 : Int).toNat (0 : UInt8))⟩, ⟨2, (List.replicate (500 : Int).toNat (0 : UInt8))⟩, ⟨3, (List.replicate (500 : Int).toNat (0 : UInt8))⟩] : List Opt) rfl (PV.cons (vt rfl) (PV.cons (vt rfl) (PV.cons (vt rfl) (PV.nil)))) rfl rfl rfl (by decide) rfl fun b107 => ?_
            refine WL.nilQn ⟨(by repeat (first | exact List.nil_sublist _ | exact List.Sublist.refl _ | exact List.sublist_append_left _ _ | exact List.sublist_append_right _ _ | apply List.Sublist.cons_cons | apply List.Sublist.cons | refine List.Sublist.trans ?_ (List.sublist_append_right _ _))), ?_⟩
            refine RH.qa 10 rfl (O.as) ?_
            refine RH.done (by kernel_rfl) (Q.tn ?_)
            exact ⟨_, trivial, (by repeat (first | exact trivial | refine ⟨rfl, ?_⟩)), (by repeat (first | exact List.Sublist.refl _ | exact List.nil_sublist _ | apply List.Sublist.cons_cons | apply List.Sublist.cons | exact List.sublist_append_left _ _))⟩
    · refine W.mkF rfl (vt rfl) (vt rfl) (by first | omega | decide) fun b108 => ?_
      refine WL.nilQn ⟨(by repeat (first | exact List.nil_sublist _ | exact List.Sublist.refl _ | exact List.sublist_append_left _ _ | exact List.sublist_append_right _ _ | apply List.Sublist.cons_cons | apply List.Sublist.cons | refine List.Sublist.trans ?_ (List.sublist_append_right _ _))), ?_⟩
      refine RH.three (i := 0) (j := 3) (k := 7) (fun _ _ h => h) (by kernel_rfl) rfl rfl rfl ?_ ?_ ?_
      · refine W.mkF rfl (vt rfl) (vt rfl) (by first | omega | decide) fun b109 => ?_
        refine WL.nilQn ⟨(by repeat (first | exact List.nil_sublist _ | exact List.Sublist.refl _ | exact List.sublist_append_left _ _ | exact List.sublist_append_right _ _ | apply List.Sublist.cons_cons | apply List.Sublist.cons | refine List.Sublist.trans ?_ (List.sublist_append_right _ _))), ?_⟩
        refine RH.three (i := 1) (j := 3) (k := 7) (fun _ _ h => h) (by kernel_rfl) rfl rfl rfl ?_ ?_ ?_
        · refine W.p (O.cvRow ⟨rfl, rfl⟩ (vt rfl) (by first | rfl | omega) (fun _ => ⟨_, rfl⟩)) ?_
          refine WL.nilQn ⟨(by repeat (first | exact List.nil_sublist _ | exact List.Sublist.refl _ | exact List.sublist_append_left _ _ | exact List.sublist_append_right _ _ | apply List.Sublist.cons_cons | apply List.Sublist.cons | refine List.Sublist.trans ?_ (List.sublist_append_right _ _))), ?_⟩
          refine RH.qa 2 rfl (O.bd (hv := PV.cons (vt rfl) (PV.cons (vt rfl) (PV.nil)))) ?_
          refine RH.two (i := 3) (j := 7) (fun _ _ h => h) (by kernel_rfl) rfl rfl ?_ ?_
          · refine W.mkF rfl (vt rfl) (vt rfl) (by first | omega | decide) fun b110 => ?_
            refine WL.nilQn ⟨(by repeat (first | exact List.nil_sublist _ | exact List.Sublist.refl _ | exact List.sublist_append_left _ _ | exact List.sublist_append_right _ _ | apply List.Sublist.cons_cons | apply List.Sublist.cons | refine List.Sublist.trans ?_ (List.sublist_append_right _ _))), ?_⟩
            refine RH.two (i := 4) (j := 7) (fun _ _ h => h) (by kernel_rfl) rfl rfl ?_ ?_
            · refine W.p (O.cvRow ⟨rfl, rfl⟩ (vt rfl) (by first | rfl | omega) (fun _ => ⟨_, rfl⟩)) ?_
              refine WL.nilQn ⟨(by repeat (first | exact List.nil_sublist _ | exact List.Sublist.refl _ | exact List.sublist_append_left _ _ | exact List.sublist_append_right _ _ | apply List.Sublist.cons_cons | apply List.Sublist.cons | refine List.Sublist.trans ?_ (List.sublist_append_right _ _))), ?_⟩
              refine RH.qa 5 rfl (O.bd (hv := PV.cons (vt rfl) (PV.cons (vt rfl) (PV.nil)))) ?_
              refine RH.one (i := 7) (fun _ _ h => h) (by kernel_rfl) rfl ?_
              refine W.p (O.cvRow ⟨rfl, rfl⟩ (vt rfl) (by first | rfl | omega) (fun _ => ⟨_, rfl⟩)) ?_
              refine WL.nilQn ⟨(by repeat (first | exact List.nil_sublist _ | exact List.Sublist.refl _ | exact List.sublist_append_left _ _ | exact List.sublist_append_right _ _ | apply List.Sublist.cons_cons | apply List.Sublist.cons | refine List.Sublist.trans ?_ (List.sublist_append_right _ _))), ?_⟩
              refine RH.qa 8 rfl (O.bd (hv := PV.cons (vt rfl) (PV.cons (vt rfl) (PV.nil)))) ?_
              refine RH.one (i := 9) (fun _ _ h => h) (by kernel_rfl) rfl ?_
              refine W.bs encO ([⟨1, (List.replicate (500 : Int).toNat (0 : UInt8))⟩, ⟨2, (List.replicate (500 : Int).toNat (0 : UInt8))⟩, ⟨3, (List.replicate (500 : Int).toNat (0 : UInt8))⟩] : List Opt) rfl (PV.cons (vt rfl) (PV.cons (vt rfl) (PV.cons (vt rfl) (PV.nil)))) rfl rfl rfl (by decide) rfl fun b111 => ?_
              refine WL.nilQn ⟨(by repeat (first | exact List.nil_sublist _ | exact List.Sublist.refl _ | exact List.sublist_append_left _ _ | exact List.sublist_append_right _ _ | apply List.Sublist.cons_cons | apply List.Sublist.cons | refine List.Sublist.trans ?_ (List.sublist_append_right _ _))), ?_⟩
              refine RH.qa 10 rfl (O.as) ?_
              refine RH.done (by kernel_rfl) (Q.tn ?_)
              exact ⟨_, trivial, (by repeat (first | exact trivial | refine ⟨rfl, ?_⟩)), (by repeat (first | exact List.Sublist.refl _ | exact List.nil_sublist _ | apply List.Sublist.cons_cons | apply List.Sublist.cons | exact List.sublist_append_left _ _))⟩
            · refine W.p (O.cvRow ⟨rfl, rfl⟩ (vt rfl) (by first | rfl | omega) (fun _ => ⟨_, rfl⟩)) ?_
              refine WL.nilQn ⟨(by repeat (first | exact List.nil_sublist _ | exact List.Sublist.refl _ | exact List.sublist_append_left _ _ | exact List.sublist_append_right _ _ | apply List.Sublist.cons_cons | apply List.Sublist.cons | refine List.Sublist.trans ?_ (List.sublist_append_right _ _))), ?_⟩
              refine RH.qa 8 rfl (O.bd (hv := PV.cons (vt rfl) (PV.cons (vt rfl) (PV.nil)))) ?_
              refine RH.one (i := 4) (fun _ _ h => h) (by kernel_rfl) rfl ?_
              refine W.p (O.cvRow ⟨rfl, rfl⟩ (vt rfl) (by first | rfl | omega) (fun _ => ⟨_, rfl⟩)) ?_
              refine WL.nilQn ⟨(by repeat (first | exact List.nil_sublist _ | exact List.Sublist.refl _ | exact List.sublist_append_left _ _ | exact List.sublist_append_right _ _ | apply List.Sublist.cons_cons | apply List.Sublist.cons | refine List.Sublist.trans ?_ (List.sublist_append_right _ _))), ?_⟩
              refine RH.qa 5 rfl (O.bd (hv := PV.cons (vt rfl) (PV.cons (vt rfl) (PV.nil)))) ?_
              refine RH.one (i := 9) (fun _ _ h => h) (by kernel_rfl) rfl ?_
              refine W.bs encO ([⟨1, (List.replicate (500 : Int).toNat (0 : UInt8))⟩, ⟨2, (List.replicate (500 : Int).toNat (0 : UInt8))⟩, ⟨3, (List.replicate (500 : Int).toNat (0 : UInt8))⟩] : List Opt) rfl (PV.cons (vt rfl) (PV.cons (vt rfl) (PV.cons (vt rfl) (PV.nil)))) rfl rfl rfl (by decide) rfl fun b112 => ?_
              refine WL.nilQn ⟨(by repeat (first | exact List.nil_sublist _ | exact List.Sublist.refl _ | exact List.sublist_append_left _ _ | exact List.sublist_append_right _ _ | apply List.Sublist.cons_cons | apply List.Sublist.cons | refine List.Sublist.trans ?_ (List.sublist_append_right _ _))), ?_⟩
              refine RH.qa 10 rfl (O.as) ?_
              refine RH.done (by kernel_rfl) (Q.tn ?_)
              exact ⟨_, trivial, (by repeat (first | exact trivial | refine ⟨rfl, ?_⟩)), (by repeat (first | exact List.Sublist.refl _ | exact List.nil_sublist _ | apply List.Sublist.cons_cons | apply List.Sublist.cons | exact List.sublist_append_left _ _))⟩
          · refine W.p (O.cvRow ⟨rfl, rfl⟩ (vt rfl) (by first | rfl | omega) (fun _ => ⟨_, rfl⟩)) ?_
            refine WL.nilQn ⟨(by repeat (first | exact List.nil_sublist _ | exact List.Sublist.refl _ | exact List.sublist_append_left _ _ | exact List.sublist_append_right _ _ | apply List.Sublist.cons_cons | apply List.Sublist.cons | refine List.Sublist.trans ?_ (List.sublist_append_right _ _))), ?_⟩
            refine RH.qa 8 rfl (O.bd (hv := PV.cons (vt rfl) (PV.cons (vt rfl) (PV.nil)))) ?_
            refine RH.one (i := 3) (fun _ _ h => h) (by kernel_rfl) rfl ?_
            refine W.mkF rfl (vt rfl) (vt rfl) (by first | omega | decide) fun b113 => ?_
            refine WL.nilQn ⟨(by repeat (first | exact List.nil_sublist _ | exact List.Sublist.refl _ | exact List.sublist_append_left _ _ | exact List.sublist_append_right _ _ | apply List.Sublist.cons_cons | apply List.Sublist.cons | refine List.Sublist.trans ?_ (List.sublist_append_right _ _))), ?_⟩
            refine RH.one (i := 4) (fun _ _ h => h) (by kernel_rfl) rfl ?_
            refine W.p (O.cvRow ⟨rfl, rfl⟩ (vt rfl) (by first | rfl | omega) (fun _ => ⟨_, rfl⟩)) ?_
            refine WL.nilQn ⟨(by repeat (first | exact List.nil_sublist _ | exact List.Sublist.refl _ | exact List.sublist_append_left _ _ | exact List.sublist_append_right _ _ | apply List.Sublist.cons_cons | apply List.Sublist.cons | refine List.Sublist.trans ?_ (List.sublist_append_right _ _))), ?_⟩
            refine RH.qa 5 rfl (O.bd (hv := PV.cons (vt rfl) (PV.cons (vt rfl) (PV.nil)))) ?_
            refine RH.one (i := 9) (fun _ _ h => h) (by kernel_rfl) rfl ?_
            refine W.bs encO ([⟨1, (List.replicate (500 : Int).toNat (0 : UInt8))⟩, ⟨2, (List.replicate (500 : Int).toNat (0 : UInt8))⟩, ⟨3, (List.replicate (500 : Int).toNat (0 : UInt8))⟩] : List Opt) rfl (PV.cons (vt rfl) (PV.cons (vt rfl) (PV.cons (vt rfl) (PV.nil)))) rfl rfl rfl (by decide) rfl fun b114 => ?_
            refine WL.nilQn ⟨(by repeat (first | exact List.nil_sublist _ | exact List.Sublist.refl _ | exact List.sublist_append_left _ _ | exact List.sublist_append_right _ _ | apply List.Sublist.cons_cons | apply List.Sublist.cons | refine List.Sublist.trans ?_ (List.sublist_append_right _ _))), ?_⟩
            refine RH.qa 10 rfl (O.as) ?_
            refine RH.done (by kernel_rfl) (Q.tn ?_)
            exact ⟨_, trivial, (by repeat (first | exact trivial | refine ⟨rfl, ?_⟩)), (by repeat (first | exact List.Sublist.refl _ | exact List.nil_sublist _ | apply List.Sublist.cons_cons | apply List.Sublist.cons | exact List.sublist_append_left _ _))⟩
        · refine W.mkF rfl (vt rfl) (vt rfl) (by first | omega | decide) fun b115 => ?_
          refine WL.nilQn ⟨(by repeat (first | exact List.nil_sublist _ | exact List.Sublist.refl _ | exact List.sublist_append_left _ _ | exact List.sublist_append_right _ _ | apply List.Sublist.cons_cons | apply List.Sublist.cons | refine List.Sublist.trans ?_ (List.sublist_append_right _ _))), ?_⟩
          refine RH.three (i := 1) (j := 4) (k := 7) (fun _ _ h => h) (by kernel_rfl) rfl rfl rfl ?_ ?_ ?_
          · refine W.p (O.cvRow ⟨rfl, rfl⟩ (vt rfl) (by first | rfl | omega) (fun _ => ⟨_, rfl⟩)) ?_
            refine WL.nilQn ⟨(by repeat (first | exact List.nil_sublist _ | exact List.Sublist.refl _ | exact List.sublist_append_left _ _ | exact List.sublist_append_right _ _ | apply List.Sublist.cons_cons | apply List.Sublist.cons | refine List.Sublist.trans ?_ (List.sublist_append_right _ _))), ?_⟩
            refine RH.qa 2 rfl (O.bd (hv := PV.cons (vt rfl) (PV.cons (vt rfl) (PV.nil)))) ?_
            refine RH.two (i := 4) (j := 7) (fun _ _ h => h) (by kernel_rfl) rfl rfl ?_ ?_
            · refine W.p (O.cvRow ⟨rfl, rfl⟩ (vt rfl) (by first | rfl | omega) (fun _ => ⟨_, rfl⟩)) ?_
              refine WL.nilQn ⟨(by repeat (first | exact List.nil_sublist _ | exact List.Sublist.refl _ | exact List.sublist_append_left _ _ | exact List.sublist_append_right _ _ | apply List.Sublist.cons_cons | apply List.Sublist.cons | refine List.Sublist.trans ?_ (List.sublist_append_right _ _))), ?_⟩
              refine RH.qa 5 rfl (O.bd (hv := PV.cons (vt rfl) (PV.cons (vt rfl) (PV.nil)))) ?_
              refine RH.one (i := 7) (fun _ _ h => h) (by kernel_rfl) rfl ?_
              refine W.p (O.cvRow ⟨rfl, rfl⟩ (vt rfl) (by first | rfl | omega) (fun _ => ⟨_, rfl⟩)) ?_
              refine WL.nilQn ⟨(by repeat (first | exact List.nil_sublist _ | exact List.Sublist.refl _ | exact List.sublist_append_left _ _ | exact List.sublist_append_right _ _ | apply List.Sublist.cons_cons | apply List.Sublist.cons | refine List.Sublist.trans ?_ (List.sublist_append_right _ _))), ?_⟩
              refine RH.qa 8 rfl (O.bd (hv := PV.cons (vt rfl) (PV.cons (vt rfl) (PV.nil)))) ?_
              refine RH.one (i := 9) (fun _ _ h => h) (by kernel_rfl) rfl ?_
              refine W.bs encO ([⟨1, (List.replicate (500 : Int).toNat (0 : UInt8))⟩, ⟨2, (List.replicate (500 : Int).toNat (0 : UInt8))⟩, ⟨3, (List.replicate (500 : Int).toNat (0 : UInt8))⟩] : List Opt) rfl (PV.cons (vt rfl) (PV.cons (vt rfl) (PV.cons (vt rfl) (PV.nil)))) rfl rfl rfl (by decide) rfl fun b116 => ?_
              refine WL.nilQn ⟨(by repeat (first | exact List.nil_sublist _ | exact List.Sublist.refl _ | exact List.sublist_append_left _ _ | exact List.sublist_append_right _ _ | apply List.Sublist.cons_cons | apply List.Sublist.cons | refine List.Sublist.trans ?_ (List.sublist_append_right _ _))), ?_⟩
              refine RH.qa 10 rfl (O.as) ?_
              refine RH.done (by kernel_rfl) (Q.tn ?_)
              exact ⟨_, trivial, (by repeat (first | exact trivial | refine ⟨rfl, ?_⟩)), (by repeat (first | exact List.Sublist.refl _ | exact List.nil_sublist _ | apply List.Sublist.cons_cons | apply List.Sublist.cons | exact List.sublist_append_left _ _))⟩
            · refine W.p (O.cvRow ⟨rfl, rfl⟩ (vt rfl) (by first | rfl | omega) (fun _ => ⟨_, rfl⟩)) ?_
              refine WL.nilQn ⟨(by repeat (first | exact List.nil_sublist _ | exact List.Sublist.refl _ | exact List.sublist_append_left _ _ | exact List.sublist_append_right _ _ | apply List.Sublist.cons_cons | apply List.Sublist.cons | refine List.Sublist.trans ?_ (List.sublist_append_right _ _))), ?_⟩
              refine RH.qa 8 rfl (O.bd (hv := PV.cons (vt rfl) (PV.cons (vt rfl) (PV.nil)))) ?_
              refine RH.one (i := 4) (fun _ _ h => h) (by kernel_rfl) rfl ?_
              refine W.p (O.cvRow ⟨rfl, rfl⟩ (vt rfl) (by first | rfl | omega) (fun _ => ⟨_, rfl⟩)) ?_
              refine WL.nilQn ⟨(by repeat (first | exact List.nil_sublist _ | exact List.Sublist.refl _ | exact List.sublist_append_left _ _ | exact List.sublist_append_right _ _ | apply List.Sublist.cons_cons | apply List.Sublist.cons | refine List.Sublist.trans ?_ (List.sublist_append_right _ _))), ?_⟩
              refine RH.qa 5 rfl (O.bd (hv := PV.cons (vt rfl) (PV.cons (vt rfl) (PV.nil)))) ?_
              refine RH.one (i := 9) (fun _ _ h => h) (by kernel_rfl) rfl ?_
              refine W.bs encO ([⟨1, (List.replicate (500 : Int).toNat (0 : UInt8))⟩, ⟨2, (List.replicate (500 : Int).toNat (0 : UInt8))⟩, ⟨3, (List.replicate (500 : Int).toNat (0 : UInt8))⟩] : List Opt) rfl (PV.cons (vt rfl) (PV.cons (vt rfl) (PV.cons (vt rfl) (PV.nil)))) rfl rfl rfl (by decide) rfl fun b117 => ?_
              refine WL.nilQn ⟨(by repeat (first | exact List.nil_sublist _ | exact List.Sublist.refl _ | exact List.sublist_append_left _ _ | exact List.sublist_append_right _ _ | apply List.Sublist.cons_cons | apply List.Sublist.cons | refine List.Sublist.trans ?_ (List.sublist_append_right _ _))), ?_⟩
              refine RH.qa 10 rfl (O.as) ?_
              refine RH.done (by kernel_rfl) (Q.tn ?_)
              exact ⟨_, trivial, (by repeat (first | exact trivial | refine ⟨rfl, ?_⟩)), (by repeat (first | exact List.Sublist.refl _ | exact List.nil_sublist _ | apply List.Sublist.cons_cons | apply List.Sublist.cons | exact List.sublist_append_left _ _))⟩
          · refine W.p (O.cvRow ⟨rfl, rfl⟩ (vt rfl) (by first | rfl | omega) (fun _ => ⟨_, rfl⟩)) ?_
            refine WL.nilQn ⟨(by repeat (first | exact List.nil_sublist _ | exact List.Sublist.refl _ | exact List.sublist_append_left _ _ | exact List.sublist_append_right _ _ | apply List.Sublist.cons_cons | apply List.Sublist.cons | refine List.Sublist.trans ?_ (List.sublist_append_right _ _))), ?_⟩
            refine RH.qa 5 rfl (O.bd (hv := PV.cons (vt rfl) (PV.cons (vt rfl) (PV.nil)))) ?_
            refine RH.two (i := 1) (j := 7) (fun _ _ h => h) (by kernel_rfl) rfl rfl ?_ ?_
            · refine W.p (O.cvRow ⟨rfl, rfl⟩ (vt rfl) (by first | rfl | omega) (fun _ => ⟨_, rfl⟩)) ?_
              refine WL.nilQn ⟨(by repeat (first | exact List.nil_sublist _ | exact List.Sublist.refl _ | exact List.sublist_append_left _ _ | exact List.sublist_append_right _ _ | apply List.Sublist.cons_cons | apply List.Sublist.cons | refine List.Sublist.trans ?_ (List.sublist_append_right _ _))), ?_⟩
              refine RH.qa 2 rfl (O.bd (hv := PV.cons (vt rfl) (PV.cons (vt rfl) (PV.nil)))) ?_
              refine RH.one (i := 7) (fun _ _ h => h) (by kernel_rfl) rfl ?_
              refine W.p (O.cvRow ⟨rfl, rfl⟩ (vt rfl) (by first | rfl | omega) (fun _ => ⟨_, rfl⟩)) ?_
              refine WL.nilQn ⟨(by repeat (first | exact List.nil_sublist _ | exact List.Sublist.refl _ | exact List.sublist_append_left _ _ | exact List.sublist_append_right _ _ | apply List.Sublist.cons_cons | apply List.Sublist.cons | refine List.Sublist.trans ?_ (List.sublist_append_right _ _))), ?_⟩
              refine RH.qa 8 rfl (O.bd (hv := PV.cons (vt rfl) (PV.cons (vt rfl) (PV.nil)))) ?_
              refine RH.one (i := 9) (fun _ _ h => h) (by kernel_rfl) rfl ?_
              refine W.bs encO ([⟨1, (List.replicate (500 : Int).toNat (0 : UInt8))⟩, ⟨2, (List.replicate (500 : Int).toNat (0 : UInt8))⟩, ⟨3, (List.replicate (500 : Int).toNat (0 : UInt8))⟩] : List Opt) rfl (PV.cons (vt rfl) (PV.cons (vt rfl) (PV.cons (vt rfl) (PV.nil)))) rfl rfl rfl (by decide) rfl fun b118 => ?_
              refine WL.nilQn ⟨(by repeat (first | exact List.nil_sublist _ | exact List.Sublist.refl _ | exact List.sublist_append_left _ _ | exact List.sublist_append_right _ _ | apply List.Sublist.cons_cons | apply List.Sublist.cons | refine List.Sublist.trans ?_ (List.sublist_append_right _ _))), ?_⟩
              refine RH.qa 10 rfl (O.as) ?_
              refine RH.done (by kernel_rfl) (Q.tn ?_)
              exact ⟨_, trivial, (by repeat (first | exact trivial | refine ⟨rfl, ?_⟩)), (by repeat (first | exact List.Sublist.refl _ | exact List.nil_sublist _ | apply List.Sublist.cons_cons | apply List.Sublist.cons | exact List.sublist_append_left _ _))⟩
            · refine W.p (O.cvRow ⟨rfl, rfl⟩ (vt rfl) (by first | rfl | omega) (fun _ => ⟨_, rfl⟩)) ?_
              refine WL.nilQn ⟨(by repeat (first | exact List.nil_sublist _ | exact List.Sublist.refl _ | exact List.sublist_append_left _ _ | exact List.sublist_append_right _ _ | apply List.Sublist.cons_cons | apply List.Sublist.cons | refine List.Sublist.trans ?_ (List.sublist_append_right _ _))), ?_⟩
              refine RH.qa 8 rfl (O.bd (hv := PV.cons (vt rfl) (PV.cons (vt rfl) (PV.nil)))) ?_
              refine RH.one (i := 1) (fun _ _ h => h) (by kernel_rfl) rfl ?_
              refine W.p (O.cvRow ⟨rfl, rfl⟩ (vt rfl) (by first | rfl | omega) (fun _ => ⟨_, rfl⟩)) ?_
              refine WL.nilQn ⟨(by repeat (first | exact List.nil_sublist _ | exact List.Sublist.refl _ | exact List.sublist_append_left _ _ | exact List.sublist_append_right _ _ | apply List.Sublist.cons_cons | apply List.Sublist.cons | refine List.Sublist.trans ?_ (List.sublist_append_right _ _))), ?_⟩
              refine RH.qa 2 rfl (O.bd (hv := PV.cons (vt rfl) (PV.cons (vt rfl) (PV.nil)))) ?_
              refine RH.one (i := 9) (fun _ _ h => h) (by kernel_rfl) rfl ?_
              refine W.bs encO ([⟨1, (List.replicate (500 : Int).toNat (0 : UInt8))⟩, ⟨2, (List.replicate (500 : Int).toNat (0 : UInt8))⟩, ⟨3, (List.replicate (500 : Int).toNat (0 : UInt8))⟩] : List Opt) rfl (PV.cons (vt rfl) (PV.cons (vt rfl) (PV.cons (vt rfl) (PV.nil)))) rfl rfl rfl (by decide) rfl fun b119 => ?_
              refine WL.nilQn ⟨(by repeat (first | exact List.nil_sublist _ | exact List.Sublist.refl _ | exact List.sublist_append_left _ _ | exact List.sublist_append_right _ _ | apply List.Sublist.cons_cons | apply List.Sublist.cons | refine List.Sublist.trans ?_ (List.sublist_append_right _ _))), ?_⟩
              refine RH.qa 10 rfl (O.as) ?_
              refine RH.done (by kernel_rfl) (Q.tn ?_)
              exact ⟨_, trivial, (by repeat (first | exact trivial | refine ⟨rfl, ?_⟩)), (by repeat (first | exact List.Sublist.refl _ | exact List.nil_sublist _ | apply List.Sublist.cons_cons | apply List.Sublist.cons | exact List.sublist_append_left _ _))⟩
          · refine W.p (O.cvRow ⟨rfl, rfl⟩ (vt rfl) (by first | rfl | omega) (fun _ => ⟨_, rfl⟩)) ?_
            refine WL.nilQn ⟨(by repeat (first | exact List.nil_sublist _ | exact List.Sublist.refl _ | exact List.sublist_append_left _ _ | exact List.sublist_append_right _ _ | apply List.Sublist.cons_cons | apply List.Sublist.cons | refine List.Sublist.trans ?_ (List.sublist_append_right _ _))), ?_⟩
            refine RH.qa 8 rfl (O.bd (hv := PV.cons (vt rfl) (PV.cons (vt rfl) (PV.nil)))) ?_
            refine RH.two (i := 1) (j := 4) (fun _ _ h => h) (by kernel_rfl) rfl rfl ?_ ?_
            · refine W.p (O.cvRow ⟨rfl, rfl⟩ (vt rfl) (by first | rfl | omega) (fun _ => ⟨_, rfl⟩)) ?_
              refine WL.nilQn ⟨(by repeat (first | exact List.nil_sublist _ | exact List.Sublist.refl _ | exact List.sublist_append_left _ _ | exact List.sublist_append_right _ _ | apply List.Sublist.cons_cons | apply List.Sublist.cons | refine List.Sublist.trans ?_ (List.sublist_append_right _ _))), ?_⟩
              refine RH.qa 2 rfl (O.bd (hv := PV.cons (vt rfl) (PV.cons (vt rfl) (PV.nil)))) ?_
              refine RH.one (i := 4) (fun _ _ h => h) (by kernel_rfl) rfl ?_
              refine W.p (O.cvRow ⟨rfl, rfl⟩ (vt rfl) (by first | rfl | omega) (fun _ => ⟨_, rfl⟩)) ?_
              refine WL.nilQn ⟨(by repeat (first | exact List.nil_sublist _ | exact List.Sublist.refl _ | exact List.sublist_append_left _ _ | exact List.sublist_append_right _ _ | apply List.Sublist.cons_cons | apply List.Sublist.cons | refine List.Sublist.trans ?_ (List.sublist_append_right _ _))), ?_⟩
              refine RH.qa 5 rfl (O.bd (hv := PV.cons (vt rfl) (PV.cons (vt rfl) (PV.nil)))) ?_
              refine RH.one (i := 9) (fun _ _ h => h) (by kernel_rfl) rfl ?_
              refine W.bs encO ([⟨1, (List.replicate (500 : Int).toNat (0 : UInt8))⟩, ⟨2, (List.replicate (500 : Int).toNat (0 : UInt8))⟩, ⟨3, (List.replicate (500 : Int).toNat (0 : UInt8))⟩] : List Opt) rfl (PV.cons (vt rfl) (PV.cons (vt rfl) (PV.cons (vt rfl) (PV.nil)))) rfl rfl rfl (by decide) rfl fun b120 => ?_
              refine WL.nilQn ⟨(by repeat (first | exact List.nil_sublist _ | exact List.Sublist.refl _ | exact List.sublist_append_left _ _ | exact List.sublist_append_right _ _ | apply List.Sublist.cons_cons | apply List.Sublist.cons | refine List.Sublist.trans ?_ (List.sublist_append_right _ _))), ?_⟩
              refine RH.qa 10 rfl (O.as) ?_
              refine RH.done (by kernel_rfl) (Q.tn ?_)
              exact ⟨_, trivial, (by repeat (first | exact trivial | refine ⟨rfl, ?_⟩)), (by repeat (first | exact List.Sublist.refl _ | exact List.nil_sublist _ | apply List.Sublist.cons_cons | apply List.Sublist.cons | exact List.sublist_append_left _ _))⟩
            · refine W.p (O.cvRow ⟨rfl, rfl⟩ (vt rfl) (by first | rfl | omega) (fun _ => ⟨_, rfl⟩)) ?_
              refine WL.nilQn ⟨(by repeat (first | exact List.nil_sublist _ | exact List.Sublist.refl _ | exact List.sublist_append_left _ _ | exact List.sublist_append_right _ _ | apply List.Sublist.cons_cons | apply List.Sublist.cons | refine List.Sublist.trans ?_ (List.sublist_append_right _ _))), ?_⟩
              refine RH.qa 5 rfl (O.bd (hv := PV.cons (vt rfl) (PV.cons (vt rfl) (PV.nil)))) ?_
              refine RH.one (i := 1) (fun _ _ h => h) (by kernel_rfl) rfl ?_
              refine W.p (O.cvRow ⟨rfl, rfl⟩ (vt rfl) (by first | rfl | omega) (fun _ => ⟨_, rfl⟩)) ?_
              refine WL.nilQn ⟨(by repeat (first | exact List.nil_sublist _ | exact List.Sublist.refl _ | exact List.sublist_append_left _ _ | exact List.sublist_append_right _ _ | apply List.Sublist.cons_cons | apply List.Sublist.cons | refine List.Sublist.trans ?_ (List.sublist_append_right _ _))), ?_⟩
              refine RH.qa 2 rfl (O.bd (hv := PV.cons (vt rfl) (PV.cons (vt rfl) (PV.nil)))) ?_
              refine RH.one (i := 9) (fun _ _ h => h) (by kernel_rfl) rfl ?_
              refine W.bs encO ([⟨1, (List.replicate (500 : Int).toNat (0 : UInt8))⟩, ⟨2, (List.replicate (500 : Int).toNat (0 : UInt8))⟩, ⟨3, (List.replicate (500 : Int).toNat (0 : UInt8))⟩] : List Opt) rfl (PV.cons (vt rfl) (PV.cons (vt rfl) (PV.cons (vt rfl) (PV.nil)))) rfl rfl rfl (by decide) rfl fun b121 => ?_
              refine WL.nilQn ⟨(by repeat (first | exact List.nil_sublist _ | exact List.Sublist.refl _ | exact List.sublist_append_left _ _ | exact List.sublist_append_right _ _ | apply List.Sublist.cons_cons | apply List.Sublist.cons | refine List.Sublist.trans ?_ (List.sublist_append_right _ _))), ?_⟩
              refine RH.qa 10 rfl (O.as) ?_
              refine RH.done (by kernel_rfl) (Q.tn ?_)
              exact ⟨_, trivial, (by repeat (first | exact trivial | refine ⟨rfl, ?_⟩)), (by repeat (first | exact List.Sublist.refl _ | exact List.nil_sublist _ | apply List.Sublist.cons_cons | apply List.Sublist.cons | exact List.sublist_append_left _ _))⟩
        · refine W.p (O.cvRow ⟨rfl, rfl⟩ (vt rfl) (by first | rfl | omega) (fun _ => ⟨_, rfl⟩)) ?_
          refine WL.nilQn ⟨(by repeat (first | exact List.nil_sublist _ | exact List.Sublist.refl _ | exact List.sublist_append_left _ _ | exact List.sublist_append_right _ _ | apply List.Sublist.cons_cons | apply List.Sublist.cons | refine List.Sublist.trans ?_ (List.sublist_append_right _ _))), ?_⟩
          refine RH.qa 8 rfl (O.bd (hv := PV.cons (vt rfl) (PV.cons (vt rfl) (PV.nil)))) ?_
          refine RH.two (i := 1) (j := 3) (fun _ _ h => h) (by kernel_rfl) rfl rfl ?_ ?_
          · refine W.p (O.cvRow ⟨rfl, rfl⟩ (vt rfl) (by first | rfl | omega) (fun _ => ⟨_, rfl⟩)) ?_
            refine WL.nilQn ⟨(by repeat (first | exact List.nil_sublist _ | exact List.Sublist.refl _ | exact List.sublist_append_left _ _ | exact List.sublist_append_right _ _ | apply List.Sublist.cons_cons | apply List.Sublist.cons | refine List.Sublist.trans ?_ (List.sublist_append_right _ _))), ?_⟩
            refine RH.qa 2 rfl (O.bd (hv := PV.cons (vt rfl) (PV.cons (vt rfl) (PV.nil)))) ?_
            refine RH.one (i := 3) (fun _ _ h => h) (by kernel_rfl) rfl ?_
            refine W.mkF rfl (vt rfl) (vt rfl) (by first | omega | decide) fun b122 => ?_
            refine WL.nilQn ⟨(by repeat (first | exact List.nil_sublist _ | exact List.Sublist.refl _ | exact List.sublist_append_left _ _ | exact List.sublist_append_right _ _ | apply List.Sublist.cons_cons | apply List.Sublist.cons | refine List.Sublist.trans ?_ (List.sublist_append_right _ _))), ?_⟩
            refine RH.one (i := 4) (fun _ _ h => h) (by kernel_rfl) rfl ?_
            refine W.p (O.cvRow ⟨rfl, rfl⟩ (vt rfl) (by first | rfl | omega) (fun _ => ⟨_, rfl⟩)) ?_
            refine WL.nilQn ⟨(by repeat (first | exact List.nil_sublist _ | exact List.Sublist.refl _ | exact List.sublist_append_left _ _ | exact List.sublist_append_right _ _ | apply List.Sublist.cons_cons | apply List.Sublist.cons | refine List.Sublist.trans ?_ (List.sublist_append_right _ _))), ?_⟩
            refine RH.qa 5 rfl (O.bd (hv := PV.cons (vt rfl) (PV.cons (vt rfl) (PV.nil)))) ?_
            refine RH.one (i := 9) (fun _ _ h => h) (by kernel_rfl) rfl ?_
            refine W.bs encO ([⟨1, (List.replicate (500 : Int).toNat (0 : UInt8))⟩, ⟨2, (List.replicate (500 : Int).toNat (0 : UInt8))⟩, ⟨3, (List.replicate (500 : Int).toNat (0 : UInt8))⟩] : List Opt) rfl (PV.cons (vt rfl) (PV.cons (vt rfl) (PV.cons (vt rfl) (PV.nil)))) rfl rfl rfl (by decide) rfl fun b123 => ?_
            refine WL.nilQn ⟨(by repeat (first | exact List.nil_sublist _ | exact List.Sublist.refl _ | exact List.sublist_append_left _ _ | exact List.sublist_append_right _ _ | apply List.Sublist.cons_cons | apply List.Sublist.cons | refine List.Sublist.trans ?_ (List.sublist_append_right _ _))), ?_⟩
            refine RH.qa 10 rfl (O.as) ?_
            refine RH.done (by kernel_rfl) (Q.tn ?_)
            exact ⟨_, trivial, (by repeat (first | exact trivial | refine ⟨rfl, ?_⟩)), (by repeat (first | exact List.Sublist.refl _ | exact List.nil_sublist _ | apply List.Sublist.cons_cons | apply List.Sublist.cons | exact List.sublist_append_left _ _))⟩
          · refine W.mkF rfl (vt rfl) (vt rfl) (by first | omega | decide) fun b124 => ?_
            refine WL.nilQn ⟨(by repeat (first | exact List.nil_sublist _ | exact List.Sublist.refl _ | exact List.sublist_append_left _ _ | exact List.sublist_append_right _ _ | apply List.Sublist.cons_cons | apply List.Sublist.cons | refine List.Sublist.trans ?_ (List.sublist_append_right _ _))), ?_⟩
            refine RH.two (i := 1) (j := 4) (fun _ _ h => h) (by kernel_rfl) rfl rfl ?_ ?_
            · refine W.p (O.cvRow ⟨rfl, rfl⟩ (vt rfl) (by first | rfl | omega) (fun _ => ⟨_, rfl⟩)) ?_
              refine WL.nilQn ⟨(by repeat (first | exact List.nil_sublist _ | exact List.Sublist.refl _ | exact List.sublist_append_left _ _ | exact List.sublist_append_right _ _ | apply List.Sublist.cons_cons | apply List.Sublist.cons | refine List.Sublist.trans ?_ (List.sublist_append_right _ _))), ?_⟩
              refine RH.qa 2 rfl (O.bd (hv := PV.cons (vt rfl) (PV.cons (vt rfl) (PV.nil)))) ?_
              refine RH.one (i := 4) (fun _ _ h => h) (by kernel_rfl) rfl ?_
              refine W.p (O.cvRow ⟨rfl, rfl⟩ (vt rfl) (by first | rfl | omega) (fun _ => ⟨_, rfl⟩)) ?_
              refine WL.nilQn ⟨(by repeat (first | exact List.nil_sublist _ | exact List.Sublist.refl _ | exact List.sublist_append_left _ _ | exact List.sublist_append_right _ _ | apply List.Sublist.cons_cons | apply List.Sublist.cons | refine List.Sublist.trans ?_ (List.sublist_append_right _ _))), ?_⟩
              refine RH.qa 5 rfl (O.bd (hv := PV.cons (vt rfl) (PV.cons (vt rfl) (PV.nil)))) ?_
              refine RH.one (i := 9) (fun _ _ h => h) (by kernel_rfl) rfl ?_
              refine W.bs encO ([⟨1, (List.replicate (500 : Int).toNat (0 : UInt8))⟩, ⟨2, (List.replicate (500 : Int).toNat (0 : UInt8))⟩, ⟨3, (List.replicate (500 : Int).toNat (0 : UInt8))⟩] : List Opt) rfl (PV.cons (vt rfl) (PV.cons (vt rfl) (PV.cons (vt rfl) (PV.nil)))) rfl rfl rfl (by decide) rfl fun b125 => ?_
              refine WL.nilQn ⟨(by repeat (first | exact List.nil_sublist _ | exact List.Sublist.refl _ | exact List.sublist_append_left _ _ | exact List.sublist_append_right _ _ | apply List.Sublist.cons_cons | apply List.Sublist.cons | refine List.Sublist.trans ?_ (List.sublist_append_right _ _))), ?_⟩
              refine RH.qa 10 rfl (O.as) ?_
              refine RH.done (by kernel_rfl) (Q.tn ?_)
              exact ⟨_, trivial, (by repeat (first | exact trivial | refine ⟨rfl, ?_⟩)), (by repeat (first | exact List.Sublist.refl _ | exact List.nil_sublist _ | apply List.Sublist.cons_cons | apply List.Sublist.cons | exact List.sublist_append_left _ _))⟩
            · refine W.p (O.cvRow ⟨rfl, rfl⟩ (vt rfl) (by first | rfl | omega) (fun _ => ⟨_, rfl⟩)) ?_
              refine WL.nilQn ⟨(by repeat (first | exact List.nil_sublist _ | exact List.Sublist.refl _ | exact List.sublist_append_left _ _ | exact List.sublist_append_right _ _ | apply List.Sublist.cons_cons | apply List.Sublist.cons | refine List.Sublist.trans ?_ (List.sublist_append_right _ _))), ?_⟩
              refine RH.qa 5 rfl (O.bd (hv := PV.cons (vt rfl) (PV.cons (vt rfl) (PV.nil)))) ?_
              refine RH.one (i := 1) (fun _ _ h => h) (by kernel_rfl) rfl ?_
              refine W.p (O.cvRow ⟨rfl, rfl⟩ (vt rfl) (by first | rfl | omega) (fun _ => ⟨_, rfl⟩)) ?_
              refine WL.nilQn ⟨(by repeat (first | exact List.nil_sublist _ | exact List.Sublist.refl _ | exact List.sublist_append_left _ _ | exact List.sublist_append_right _ _ | apply List.Sublist.cons_cons | apply List.Sublist.cons | refine List.Sublist.trans ?_ (List.sublist_append_right _ _))), ?_⟩
              refine RH.qa 2 rfl (O.bd (hv := PV.cons (vt rfl) (PV.cons (vt rfl) (PV.nil)))) ?_
              refine RH.one (i := 9) (fun _ _ h => h) (by kernel_rfl) rfl ?_
              refine W.bs encO ([⟨1, (List.replicate (500 : Int).toNat (0 : UInt8))⟩, ⟨2, (List.replicate (500 : Int).toNat (0 : UInt8))⟩, ⟨3, (List.replicate (500 : Int).toNat (0 : UInt8))⟩] : List Opt) rfl (PV.cons (vt rfl) (PV.cons (vt rfl) (PV.cons (vt rfl) (PV.nil)))) rfl rfl rfl (by decide) rfl fun b126 => ?_
              refine WL.nilQn ⟨(by repeat (first | exact List.nil_sublist _ | exact List.Sublist.refl _ | exact List.sublist_append_left _ _ | exact List.sublist_append_right _ _ | apply List.Sublist.cons_cons | apply List.Sublist.cons | refine List.Sublist.trans ?_ (List.sublist_append_right _ _))), ?_⟩
              refine RH.qa 10 rfl (O.as) ?_
              refine RH.done (by kernel_rfl) (Q.tn ?_)
              exact ⟨_, trivial, (by repeat (first | exact trivial | refine ⟨rfl, ?_⟩)), (by repeat (first | exact List.Sublist.refl _ | exact List.nil_sublist _ | apply List.Sublist.cons_cons | apply List.Sublist.cons | exact List.sublist_append_left _ _))⟩
      · refine W.mkF rfl (vt rfl) (vt rfl) (by first | omega | decide) fun b127 => ?_
        refine WL.nilQn ⟨(by repeat (first | exact List.nil_sublist _ | exact List.Sublist.refl _ | exact List.sublist_append_left _ _ | exact List.sublist_append_right _ _ | apply List.Sublist.cons_cons | apply List.Sublist.cons | refine List.Sublist.trans ?_ (List.sublist_append_right _ _))), ?_⟩
        refine RH.three (i := 0) (j := 4) (k := 7) (fun _ _ h => h) (by kernel_rfl) rfl rfl rfl ?_ ?_ ?_
        · refine W.mkF rfl (vt rfl) (vt rfl) (by first | omega | decide) fun b128 => ?_
          refine WL.nilQn ⟨(by repeat (first | exact List.nil_sublist _ | exact List.Sublist.refl _ | exact List.sublist_append_left _ _ | exact List.sublist_append_right _ _ | apply List.Sublist.cons_cons | apply List.Sublist.cons | refine List.Sublist.trans ?_ (List.sublist_append_right _ _))), ?_⟩
          refine RH.three (i := 1) (j := 4) (k := 7) (fun _ _ h => h) (by kernel_rfl) rfl rfl rfl ?_ ?_ ?_
          · refine W.p (O.cvRow ⟨rfl, rfl⟩ (vt rfl) (by first | rfl | omega) (fun _ => ⟨_, rfl⟩)) ?_
            refine WL.nilQn ⟨(by repeat (first | exact List.nil_sublist _ | exact List.Sublist.refl _ | exact List.sublist_append_left _ _ | exact List.sublist_append_right _ _ | apply List.Sublist.cons_cons | apply List.Sublist.cons | refine List.Sublist.trans ?_ (List.sublist_append_right _ _))), ?_⟩
            refine RH.qa 2 rfl (O.bd (hv := PV.cons (vt rfl) (PV.cons (vt rfl) (PV.nil)))) ?_
            refine RH.two (i := 4) (j := 7) (fun _ _ h => h) (by kernel_rfl) rfl rfl ?_ ?_
            · refine W.p (O.cvRow ⟨rfl, rfl⟩ (vt rfl) (by first | rfl | omega) (fun _ => ⟨_, rfl⟩)) ?_
              refine WL.nilQn ⟨(by repeat (first | exact List.nil_sublist _ | exact List.Sublist.refl _ | exact List.sublist_append_left _ _ | exact List.sublist_append_right _ _ | apply List.Sublist.cons_cons | apply List.Sublist.cons | refine List.Sublist.trans ?_ (List.sublist_append_right _ _))), ?_⟩
              refine RH.qa 5 rfl (O.bd (hv := PV.cons (vt rfl) (PV.cons (vt rfl) (PV.nil)))) ?_
              refine RH.one (i := 7) (fun _ _ h => h) (by kernel_rfl) rfl ?_
              refine W.p (O.cvRow ⟨rfl, rfl⟩ (vt rfl) (by first | rfl | omega) (fun _ => ⟨_, rfl⟩)) ?_
              refine WL.nilQn ⟨(by repeat (first | exact List.nil_sublist _ | exact List.Sublist.refl _ | exact List.sublist_append_left _ _ | exact List.sublist_append_right _ _ | apply List.Sublist.cons_cons | apply List.Sublist.cons | refine List.Sublist.trans ?_ (List.sublist_append_right _ _))), ?_⟩
              refine RH.qa 8 rfl (O.bd (hv := PV.cons (vt rfl) (PV.cons (vt rfl) (PV.nil)))) ?_
              refine RH.one (i := 9) (fun _ _ h => h) (by kernel_rfl) rfl ?_
              refine W.bs encO ([⟨1, (List.replicate (500 : Int).toNat (0 : UInt8))⟩, ⟨2, (List.replicate (500 : Int).toNat (0 : UInt8))⟩, ⟨3, (List.replicate (500 : Int).toNat (0 : UInt8))⟩] : List Opt) rfl (PV.cons (vt rfl) (PV.cons (vt rfl) (PV.cons (vt rfl) (PV.nil)))) rfl rfl rfl (by decide) rfl fun b129 => ?_
              refine WL.nilQn ⟨(by repeat (first | exact List.nil_sublist _ | exact List.Sublist.refl _ | exact List.sublist_append_left _ _ | exact List.sublist_append_right _ _ | apply List.Sublist.cons_cons | apply List.Sublist.cons | refine List.Sublist.trans ?_ (List.sublist_append_right _ _))), ?_⟩
              refine RH.qa 10 rfl (O.as) ?_
              refine RH.done (by kernel_rfl) (Q.tn ?_)
              exact ⟨_, trivial, (by repeat (first | exact trivial | refine ⟨rfl, ?_⟩)), (by repeat (first | exact List.Sublist.refl _ | exact List.nil_sublist _ | apply List.Sublist.cons_cons | apply List.Sublist.cons | exact List.sublist_append_left _ _))⟩
            · refine W.p (O.cvRow ⟨rfl, rfl⟩ (vt rfl) (by first | rfl | omega) (fun _ => ⟨_, rfl⟩)) ?_
              refine WL.nilQn ⟨(by repeat (first | exact List.nil_sublist _ | exact List.Sublist.refl _ | exact List.sublist_append_left _ _ | exact List.sublist_append_right _ _ | apply List.Sublist.cons_cons | apply List.Sublist.cons | refine List.Sublist.trans ?_ (List.sublist_append_right _ _))), ?_⟩
              refine RH.qa 8 rfl (O.bd (hv := PV.cons (vt rfl) (PV.cons (vt rfl) (PV.nil)))) ?_
              refine RH.one (i := 4) (fun _ _ h => h) (by kernel_rfl) rfl ?_
              refine W.p (O.cvRow ⟨rfl, rfl⟩ (vt rfl) (by first | rfl | omega) (fun _ => ⟨_, rfl⟩)) ?_
              refine WL.nilQn ⟨(by repeat (first | exact List.nil_sublist _ | exact List.Sublist.refl _ | exact List.sublist_append_left _ _ | exact List.sublist_append_right _ _ | apply List.Sublist.cons_cons | apply List.Sublist.cons | refine List.Sublist.trans ?_ (List.sublist_append_right _ _))), ?_⟩
              refine RH.qa 5 rfl (O.bd (hv := PV.cons (vt rfl) (PV.cons (vt rfl) (PV.nil)))) ?_
              refine RH.one (i := 9) (fun _ _ h => h) (by kernel_rfl) rfl ?_
              refine W.bs encO ([⟨1, (List.replicate (500 : Int).toNat (0 : UInt8))⟩, ⟨2, (List.replicate (500 : Int).toNat (0 : UInt8))⟩, ⟨3, (List.replicate (500 : Int).toNat (0 : UInt8))⟩] : List Opt) rfl (PV.cons (vt rfl) (PV.cons (vt rfl) (PV.cons (vt rfl) (PV.nil)))) rfl rfl rfl (by decide) rfl fun b130 => ?_
              refine WL.nilQn ⟨(by repeat (first | exact List.nil_sublist _ | exact List.Sublist.refl _ | exact List.sublist_append_left _ _ | exact List.sublist_append_right _ _ | apply List.Sublist.cons_cons | apply List.Sublist.cons | refine List.Sublist.trans ?_ (List.sublist_append_right _ _))), ?_⟩
              refine RH.qa 10 rfl (O.as) ?_
              refine RH.done (by kernel_rfl) (Q.tn ?_)
              exact ⟨_, trivial, (by repeat (first | exact trivial | refine ⟨rfl, ?_⟩)), (by repeat (first | exact List.Sublist.refl _ | exact List.nil_sublist _ | apply List.Sublist.cons_cons | apply List.Sublist.cons | exact List.sublist_append_left _ _))⟩
          · refine W.p (O.cvRow ⟨rfl, rfl⟩ (vt rfl) (by first | rfl | omega) (fun _ => ⟨_, rfl⟩)) ?_
            refine WL.nilQn ⟨(by repeat (first | exact List.nil_sublist _ | exact List.Sublist.refl _ | exact List.sublist_append_left _ _ | exact List.sublist_append_right _ _ | apply List.Sublist.cons_cons | apply List.Sublist.cons | refine List.Sublist.trans ?_ (List.sublist_append_right _ _))), ?_⟩
            refine RH.qa 5 rfl (O.bd (hv := PV.cons (vt rfl) (PV.cons (vt rfl) (PV.nil)))) ?_
            refine RH.two (i := 1) (j := 7) (fun _ _ h => h) (by kernel_rfl) rfl rfl ?_ ?_
            · refine W.p (O.cvRow ⟨rfl, rfl⟩ (vt rfl) (by first | rfl | omega) (fun _ => ⟨_, rfl⟩)) ?_
              refine WL.nilQn ⟨(by repeat (first | exact List.nil_sublist _ | exact List.Sublist.refl _ | exact List.sublist_append_left _ _ | exact List.sublist_append_right _ _ | apply List.Sublist.cons_cons | apply List.Sublist.cons | refine List.Sublist.trans ?_ (List.sublist_append_right _ _))), ?_⟩
              refine RH.qa 2 rfl (O.bd (hv := PV.cons (vt rfl) (PV.cons (vt rfl) (PV.nil)))) ?_
              refine RH.one (i := 7) (fun _ _ h => h) (by kernel_rfl) rfl ?_
              refine W.p (O.cvRow ⟨rfl, rfl⟩ (vt rfl) (by first | rfl | omega) (fun _ => ⟨_, rfl⟩)) ?_
              refine WL.nilQn ⟨(by repeat (first | exact List.nil_sublist _ | exact List.Sublist.refl _ | exact List.sublist_append_left _ _ | exact List.sublist_append_right _ _ | apply List.Sublist.cons_cons | apply List.Sublist.cons | refine List.Sublist.trans ?_ (List.sublist_append_right _ _))), ?_⟩
              refine RH.qa 8 rfl (O.bd (hv := PV.cons (vt rfl) (PV.cons (vt rfl) (PV.nil)))) ?_
              refine RH.one (i := 9) (fun _ _ h => h) (by kernel_rfl) rfl ?_
              refine W.bs encO ([⟨1, (List.replicate (500 : Int).toNat (0 : UInt8))⟩, ⟨2, (List.replicate (500 : Int).toNat (0 : UInt8))⟩, ⟨3, (List.replicate (500 : Int).toNat (0 : UInt8))⟩] : List Opt) rfl (PV.cons (vt rfl) (PV.cons (vt rfl) (PV.cons (vt rfl) (PV.nil)))) rfl rfl rfl (by decide) rfl fun b131 => ?_
              refine WL.nilQn ⟨(by repeat (first | exact List.nil_sublist _ | exact List.Sublist.refl _ | exact List.sublist_append_left _ _ | exact List.sublist_append_right _ _ | apply List.Sublist.cons_cons | apply List.Sublist.cons | refine List.Sublist.trans ?_ (List.sublist_append_right _ _))), ?_⟩
              refine RH.qa 10 rfl (O.as) ?_
              refine RH.done (by kernel_rfl) (Q.tn ?_)
              exact ⟨_, trivial, (by repeat (first | exact trivial | refine ⟨rfl, ?_⟩)), (by repeat (first | exact List.Sublist.refl _ | exact List.nil_sublist _ | apply List.Sublist.cons_cons | apply List.Sublist.cons | exact List.sublist_append_left _ _))⟩
            · refine W.p (O.cvRow ⟨rfl, rfl⟩ (vt rfl) (by first | rfl | omega) (fun _ => ⟨_, rfl⟩)) ?_
              refine WL.nilQn ⟨(by repeat (first | exact List.nil_sublist _ | exact List.Sublist.refl _ | exact List.sublist_append_left _ _ | exact List.sublist_append_right _ _ | apply List.Sublist.cons_cons | apply List.Sublist.cons | refine List.Sublist.trans ?_ (List.sublist_append_right _ _))), ?_⟩
              refine RH.qa 8 rfl (O.bd (hv := PV.cons (vt rfl) (PV.cons (vt rfl) (PV.nil)))) ?_
              refine RH.one (i := 1) (fun _ _ h => h) (by kernel_rfl) rfl ?_
              refine W.p (O.cvRow ⟨rfl, rfl⟩ (vt rfl) (by first | rfl | omega) (fun _ => ⟨_, rfl⟩)) ?_
              refine WL.nilQn ⟨(by repeat (first | exact List.nil_sublist _ | exact List.Sublist.refl _ | exact List.sublist_append_left _ _ | exact List.sublist_append_right _ _ | apply List.Sublist.cons_cons | apply List.Sublist.cons | refine List.Sublist.trans ?_ (List.sublist_append_right _ _))), ?_⟩
              refine RH.qa 2 rfl (O.bd (hv := PV.cons (vt rfl) (PV.cons (vt rfl) (PV.nil)))) ?_
              refine RH.one (i := 9) (fun _ _ h => h) (by kernel_rfl) rfl ?_
              refine W.bs encO ([⟨1, (List.replicate (500 : Int).toNat (0 : UInt8))⟩, ⟨2, (List.replicate (500 : Int).toNat (0 : UInt8))⟩, ⟨3, (List.replicate (500 : Int).toNat (0 : UInt8))⟩] : List Opt) rfl (PV.cons (vt rfl) (PV.cons (vt rfl) (PV.cons (vt rfl) (PV.nil)))) rfl rfl rfl (by decide) rfl fun b132 => ?_
              refine WL.nilQn ⟨(by repeat (first | exact List.nil_sublist _ | exact List.Sublist.refl _ | exact List.sublist_append_left _ _ | exact List.sublist_append_right _ _ | apply List.Sublist.cons_cons | apply List.Sublist.cons | refine List.Sublist.trans ?_ (List.sublist_append_right _ _))), ?_⟩
              refine RH.qa 10 rfl (O.as) ?_
              refine RH.done (by kernel_rfl) (Q.tn ?_)
              exact ⟨_, trivial, (by repeat (first | exact trivial | refine ⟨rfl, ?_⟩)), (by repeat (first | exact List.Sublist.refl _ | exact List.nil_sublist _ | apply List.Sublist.cons_cons | apply List.Sublist.cons | exact List.sublist_append_left _ _))⟩
          · refine W.p (O.cvRow ⟨rfl, rfl⟩ (vt rfl) (by first | rfl | omega) (fun _ => ⟨_, rfl⟩)) ?_
            refine WL.nilQn ⟨(by repeat (first | exact List.nil_sublist _ | exact List.Sublist.refl _ | exact List.sublist_append_left _ _ | exact List.sublist_append_right _ _ | apply List.Sublist.cons_cons | apply List.Sublist.cons | refine List.Sublist.trans ?_ (List.sublist_append_right _ _))), ?_⟩
            refine RH.qa 8 rfl (O.bd (hv := PV.cons (vt rfl) (PV.cons (vt rfl) (PV.nil)))) ?_
            refine RH.two (i := 1) (j := 4) (fun _ _ h => h) (by kernel_rfl) rfl rfl ?_ ?_
            · refine W.p (O.cvRow ⟨rfl, rfl⟩ (vt rfl) (by first | rfl | omega) (fun _ => ⟨_, rfl⟩)) ?_
              refine WL.nilQn ⟨(by repeat (first | exact List.nil_sublist _ | exact List.Sublist.refl _ | exact List.sublist_append_left _ _ | exact List.sublist_append_right _ _ | apply List.Sublist.cons_cons | apply List.Sublist.cons | refine List.Sublist.trans ?_ (List.sublist_append_right _ _))), ?_⟩
              refine RH.qa 2 rfl (O.bd (hv := PV.cons (vt rfl) (PV.cons (vt rfl) (PV.nil)))) ?_
              refine RH.one (i := 4) (fun _ _ h => h) (by kernel_rfl) rfl ?_
              refine W.p (O.cvRow ⟨rfl, rfl⟩ (vt rfl) (by first | rfl | omega) (fun _ => ⟨_, rfl⟩)) ?_
              refine WL.nilQn ⟨(by repeat (first | exact List.nil_sublist _ | exact List.Sublist.refl _ | exact List.sublist_append_left _ _ | exact List.sublist_append_right _ _ | apply List.Sublist.cons_cons | apply List.Sublist.cons | refine List.Sublist.trans ?_ (List.sublist_append_right _ _))), ?_⟩
              refine RH.qa 5 rfl (O.bd (hv := PV.cons (vt rfl) (PV.cons (vt rfl) (PV.nil)))) ?_
              refine RH.one (i := 9) (fun _ _ h => h) (by kernel_rfl) rfl ?_
              refine W.bs encO ([⟨1, (List.replicate (500 : Int).toNat (0 : UInt8))⟩, ⟨2, (List.replicate (500 : Int).toNat (0 : UInt8))⟩, ⟨3, (List.replicate (500 : Int).toNat (0 : UInt8))⟩] : List Opt) rfl (PV.cons (vt rfl) (PV.cons (vt rfl) (PV.cons (vt rfl) (PV.nil)))) rfl rfl rfl (by decide) rfl fun b133 => ?_
              refine WL.nilQn ⟨(by repeat (first | exact List.nil_sublist _ | exact List.Sublist.refl _ | exact List.sublist_append_left _ _ | exact List.sublist_append_right _ _ | apply List.Sublist.cons_cons | apply List.Sublist.cons | refine List.Sublist.trans ?_ (List.sublist_append_right _ _))), ?_⟩
              refine RH.qa 10 rfl (O.as) ?_
              refine RH.done (by kernel_rfl) (Q.tn ?_)
              exact ⟨_, trivial, (by repeat (first | exact trivial | refine ⟨rfl, ?_⟩)), (by repeat (first | exact List.Sublist.refl _ | exact List.nil_sublist _ | apply List.Sublist.cons_cons | apply List.Sublist.cons | exact List.sublist_append_left _ _))⟩
            · refine W.p (O.cvRow ⟨rfl, rfl⟩ (vt rfl) (by first | rfl | omega) (fun _ => ⟨_, rfl⟩)) ?_
              refine WL.nilQn ⟨(by repeat (first | exact List.nil_sublist _ | exact List.Sublist.refl _ | exact List.sublist_append_left _ _ | exact List.sublist_append_right _ _ | apply List.Sublist.cons_cons | apply List.Sublist.cons | refine List.Sublist.trans ?_ (List.sublist_append_right _ _))), ?_⟩
              refine RH.qa 5 rfl (O.bd (hv := PV.cons (vt rfl) (PV.cons (vt rfl) (PV.nil)))) ?_
              refine RH.one (i := 1) (fun _ _ h => h) (by kernel_rfl) rfl ?_
              refine W.p (O.cvRow ⟨rfl, rfl⟩ (vt rfl) (by first | rfl | omega) (fun _ => ⟨_, rfl⟩)) ?_
              refine WL.nilQn ⟨(by repeat (first | exact List.nil_sublist _ | exact List.Sublist.refl _ | exact List.sublist_append_left _ _ | exact List.sublist_append_right _ _ | apply List.Sublist.cons_cons | apply List.Sublist.cons | refine List.Sublist.trans ?_ (List.sublist_append_right _ _))), ?_⟩
              refine RH.qa 2 rfl (O.bd (hv := PV.cons (vt rfl) (PV.cons (vt rfl) (PV.nil)))) ?_
              refine RH.one (i := 9) (fun _ _ h => h) (by kernel_rfl) rfl ?_
              refine W.bs encO ([⟨1, (List.replicate (500 : Int).toNat (0 : UInt8))⟩, ⟨2, (List.replicate (500 : Int).toNat (0 : UInt8))⟩, ⟨3, (List.replicate (500 : Int).toNat (0 : UInt8))⟩] : List Opt) rfl (PV.cons (vt rfl) (PV.cons (vt rfl) (PV.cons (vt rfl) (PV.nil)))) rfl rfl rfl (by decide) rfl fun b134 => ?_
              refine WL.nilQn ⟨(by repeat (first | exact List.nil_sublist _ | exact List.Sublist.refl _ | exact List.sublist_append_left _ _ | exact List.sublist_append_right _ _ | apply List.Sublist.cons_cons | apply List.Sublist.cons | refine List.Sublist.trans ?_ (List.sublist_append_right _ _))), ?_⟩
              refine RH.qa 10 rfl (O.as) ?_
              refine RH.done (by kernel_rfl) (Q.tn ?_)
              exact ⟨_, trivial, (by repeat (first | exact trivial | refine ⟨rfl, ?_⟩)), (by repeat (first | exact List.Sublist.refl _ | exact List.nil_sublist _ | apply List.Sublist.cons_cons | apply List.Sublist.cons | exact List.sublist_append_left _ _))⟩
        · refine W.p (O.cvRow ⟨rfl, rfl⟩ (vt rfl) (by first | rfl | omega) (fun _ => ⟨_, rfl⟩)) ?_
          refine WL.nilQn ⟨(by repeat (first | exact List.nil_sublist _ | exact List.Sublist.refl _ | exact List.sublist_append_left _ _ | exact List.sublist_append_right _ _ | apply List.Sublist.cons_cons | apply List.Sublist.cons | refine List.Sublist.trans ?_ (List.sublist_append_right _ _))), ?_⟩
          refine RH.qa 5 rfl (O.bd (hv := PV.cons (vt rfl) (PV.cons (vt rfl) (PV.nil)))) ?_
          refine RH.two (i := 0) (j := 7) (fun _ _ h => h) (by kernel_rfl) rfl rfl ?_ ?_
          · refine W.mkF rfl (vt rfl) (vt rfl) (by first | omega | decide) fun b135 => ?_
            refine WL.nilQn ⟨(by repeat (first | exact List.nil_sublist _ | exact List.Sublist.refl _ | exact List.sublist_append_left _ _ | exact List.sublist_append_right _ _ | apply List.Sublist.cons_cons | apply List.Sublist.cons | refine List.Sublist.trans ?_ (List.sublist_append_right _ _))), ?_⟩
            refine RH.two (i := 1) (j := 7) (fun _ _ h => h) (by kernel_rfl) rfl rfl ?_ ?_
            · refine W.p (O.cvRow ⟨rfl, rfl⟩ (vt rfl) (by first | rfl | omega) (fun _ => ⟨_, rfl⟩)) ?_
              refine WL.nilQn ⟨(by repeat (first | exact List.nil_sublist _ | exact List.Sublist.refl _ | exact List.sublist_append_left _ _ | exact List.sublist_append_right _ _ | apply List.Sublist.cons_cons | apply List.Sublist.cons | refine List.Sublist.trans ?_ (List.sublist_append_right _ _))), ?_⟩
              refine RH.qa 2 rfl (O.bd (hv := PV.cons (vt rfl) (PV.cons (vt rfl) (PV.nil)))) ?_
              refine RH.one (i := 7) (fun _ _ h => h) (by kernel_rfl) rfl ?_
              refine W.p (O.cvRow ⟨rfl, rfl⟩ (vt rfl) (by first | rfl | omega) (fun _ => ⟨_, rfl⟩)) ?_
              refine WL.nilQn ⟨(by repeat (first | exact List.nil_sublist _ | exact List.Sublist.refl _ | exact List.sublist_append_left _ _ | exact List.sublist_append_right _ _ | apply List.Sublist.cons_cons | apply List.Sublist.cons | refine List.Sublist.trans ?_ (List.sublist_append_right _ _))), ?_⟩
              refine RH.qa 8 rfl (O.bd (hv := PV.cons (vt rfl) (PV.cons (vt rfl) (PV.nil)))) ?_
              refine RH.one (i := 9) (fun _ _ h => h) (by kernel_rfl) rfl ?_
              refine W.bs encO ([⟨1, (List.replicate (500 : Int).toNat (0 : UInt8))⟩, ⟨2, (List.replicate (500 : Int).toNat (0 : UInt8))⟩, ⟨3, (List.replicate (500 : Int).toNat (0 : UInt8))⟩] : List Opt) rfl (PV.cons (vt rfl) (PV.cons (vt rfl) (PV.cons (vt rfl) (PV.nil)))) rfl rfl rfl (by decide) rfl fun b136 => ?_
              refine WL.nilQn ⟨(by repeat (first | exact List.nil_sublist _ | exact List.Sublist.refl _ | exact List.sublist_append_left _ _ | exact List.sublist_append_right _ _ | apply List.Sublist.cons_cons | apply List.Sublist.cons | refine List.Sublist.trans ?_ (List.sublist_append_right _ _))), ?_⟩
              refine RH.qa 10 rfl (O.as) ?_
              refine RH.done (by kernel_rfl) (Q.tn ?_)
              exact ⟨_, trivial, (by repeat (first | exact trivial | refine ⟨rfl, ?_⟩)), (by repeat (first | exact List.Sublist.refl _ | exact List.nil_sublist _ | apply List.Sublist.cons_cons | apply List.Sublist.cons | exact List.sublist_append_left _ _))⟩
            · refine W.p (O.cvRow ⟨rfl, rfl⟩ (vt rfl) (by first | rfl | omega) (fun _ => ⟨_, rfl⟩)) ?_
              refine WL.nilQn ⟨(by repeat (first | exact List.nil_sublist _ | exact List.Sublist.refl _ | exact List.sublist_append_left _ _ | exact List.sublist_append_right _ _ | apply List.Sublist.cons_cons | apply List.Sublist.cons | refine List.Sublist.trans ?_ (List.sublist_append_right _ _))), ?_⟩
              refine RH.qa 8 rfl (O.bd (hv := PV.cons (vt rfl) (PV.cons (vt rfl) (PV.nil)))) ?_
              refine RH.one (i := 1) (fun _ _ h => h) (by kernel_rfl) rfl ?_
              refine W.p (O.cvRow ⟨rfl, rfl⟩ (vt rfl) (by first | rfl | omega) (fun _ => ⟨_, rfl⟩)) ?_
              refine WL.nilQn ⟨(by repeat (first | exact List.nil_sublist _ | exact List.Sublist.refl _ | exact List.sublist_append_left _ _ | exact List.sublist_append_right _ _ | apply List.Sublist.cons_cons | apply List.Sublist.cons | refine List.Sublist.trans ?_ (List.sublist_append_right _ _))), ?_⟩
              refine RH.qa 2 rfl (O.bd (hv := PV.cons (vt rfl) (PV.cons (vt rfl) (PV.nil)))) ?_
              refine RH.one (i := 9) (fun _ _ h => h) (by kernel_rfl) rfl ?_
              refine W.bs encO ([⟨1, (List.replicate (500 : Int).toNat (0 : UInt8))⟩, ⟨2, (List.replicate (500 : Int).toNat (0 : UInt8))⟩, ⟨3, (List.replicate (500 : Int).toNat (0 : UInt8))⟩] : List Opt) rfl (PV.cons (vt rfl) (PV.cons (vt rfl) (PV.cons (vt rfl) (PV.nil)))) rfl rfl rfl (by decide) rfl fun b137 => ?_
              refine WL.nilQn ⟨(by repeat (first | exact List.nil_sublist _ | exact List.Sublist.refl _ | exact List.sublist_append_left _ _ | exact List.sublist_append_right _ _ | apply List.Sublist.cons_cons | apply List.Sublist.cons | refine List.Sublist.trans ?_ (List.sublist_append_right _ _))), ?_⟩
              refine RH.qa 10 rfl (O.as) ?_
              refine RH.done (by kernel_rfl) (Q.tn ?_)
              exact ⟨_, trivial, (by repeat (first | exact trivial | refine ⟨rfl, ?_⟩)), (by repeat (first | exact List.Sublist.refl _ | exact List.nil_sublist _ | apply List.Sublist.cons_cons | apply List.Sublist.cons | exact List.sublist_append_left _ _))⟩
          · refine W.p (O.cvRow ⟨rfl, rfl⟩ (vt rfl) (by first | rfl | omega) (fun _ => ⟨_, rfl⟩)) ?_
            refine WL.nilQn ⟨(by repeat (first | exact List.nil_sublist _ | exact List.Sublist.refl _ | exact List.sublist_append_left _ _ | exact List.sublist_append_right _ _ | apply List.Sublist.cons_cons | apply List.Sublist.cons | refine List.Sublist.trans ?_ (List.sublist_append_right _ _))), ?_⟩
            refine RH.qa 8 rfl (O.bd (hv := PV.cons (vt rfl) (PV.cons (vt rfl) (PV.nil)))) ?_
            refine RH.one (i := 0) (fun _ _ h => h) (by kernel_rfl) rfl ?_
            refine W.mkF rfl (vt rfl) (vt rfl) (by first | omega | decide) fun b138 => ?_
            refine WL.nilQn ⟨(by repeat (first | exact List.nil_sublist _ | exact List.Sublist.refl _ | exact List.sublist_append_left _ _ | exact List.sublist_append_right _ _ | apply List.Sublist.cons_cons | apply List.Sublist.cons | refine List.Sublist.trans ?_ (List.sublist_append_right _ _))), ?_⟩
            refine RH.one (i := 1) (fun _ _ h => h) (by kernel_rfl) rfl ?_
            refine W.p (O.cvRow ⟨rfl, rfl⟩ (vt rfl) (by first | rfl | omega) (fun _ => ⟨_, rfl⟩)) ?_
            refine WL.nilQn ⟨(by repeat (first | exact List.nil_sublist _ | exact List.Sublist.refl _ | exact List.sublist_append_left _ _ | exact List.sublist_append_right _ _ | apply List.Sublist.cons_cons | apply List.Sublist.cons | refine List.Sublist.trans ?_ (List.sublist_append_right _ _))), ?_⟩
            refine RH.qa 2 rfl (O.bd (hv := PV.cons (vt rfl) (PV.cons (vt rfl) (PV.nil)))) ?_
            refine RH.one (i := 9) (fun _ _ h => h) (by kernel_rfl) rfl ?_
            refine W.bs encO ([⟨1, (List.replicate (500 : Int).toNat (0 : UInt8))⟩, ⟨2, (List.replicate (500 : Int).toNat (0 : UInt8))⟩, ⟨3, (List.replicate (500 : Int).toNat (0 : UInt8))⟩] : List Opt) rfl (PV.cons (vt rfl) (PV.cons (vt rfl) (PV.cons (vt rfl) (PV.nil)))) rfl rfl rfl (by decide) rfl fun b139 => ?_
            refine WL.nilQn ⟨(by repeat (first | exact List.nil_sublist _ | exact List.Sublist.refl _ | exact List.sublist_append_left _ _ | exact List.sublist_append_right _ _ | apply List.Sublist.cons_cons | apply List.Sublist.cons | refine List.Sublist.trans ?_ (List.sublist_append_right _ _))), ?_⟩
            refine RH.qa 10 rfl (O.as) ?_
            refine RH.done (by kernel_rfl) (Q.tn ?_)
            exact ⟨_, trivial, (by repeat (first | exact trivial | refine ⟨rfl, ?_⟩)), (by repeat (first | exact List.Sublist.refl _ | exact List.nil_sublist _ | apply List.Sublist.cons_cons | apply List.Sublist.cons | exact List.sublist_append_left _ _))⟩
        · refine W.p (O.cvRow ⟨rfl, rfl⟩ (vt rfl) (by first | rfl | omega) (fun _ => ⟨_, rfl⟩)) ?_
          refine WL.nilQn ⟨(by repeat (first | exact List.nil_sublist _ | exact List.Sublist.refl _ | exact List.sublist_append_left _ _ | exact List.sublist_append_right _ _ | apply List.Sublist.cons_cons | apply List.Sublist.cons | refine List.Sublist.trans ?_ (List.sublist_append_right _ _))), ?_⟩
          refine RH.qa 8 rfl (O.bd (hv := PV.cons (vt rfl) (PV.cons (vt rfl) (PV.nil)))) ?_
          refine RH.two (i := 0) (j := 4) (fun _ _ h => h) (by kernel_rfl) rfl rfl ?_ ?_
          · refine W.mkF rfl (vt rfl) (vt rfl) (by first | omega | decide) fun b140 => ?_
            refine WL.nilQn ⟨(by repeat (first | exact List.nil_sublist _ | exact List.Sublist.refl _ | exact List.sublist_append_left _ _ | exact List.sublist_append_right _ _ | apply List.Sublist.cons_cons | apply List.Sublist.cons | refine List.Sublist.trans ?_ (List.sublist_append_right _ _))), ?_⟩
            refine RH.two (i := 1) (j := 4) (fun _ _ h => h) (by kernel_rfl) rfl rfl ?_ ?_
            · refine W.p (O.cvRow ⟨rfl, rfl⟩ (vt rfl) (by first | rfl | omega) (fun _ => ⟨_, rfl⟩)) ?_
              refine WL.nilQn ⟨(by repeat (first | exact List.nil_sublist _ | exact List.Sublist.refl _ | exact List.sublist_append_left _ _ | exact List.sublist_append_right _ _ | apply List.Sublist.cons_cons | apply List.Sublist.cons | refine List.Sublist.trans ?_ (List.sublist_append_right _ _))), ?_⟩
              refine RH.qa 2 rfl (O.bd (hv := PV.cons (vt rfl) (PV.cons (vt rfl) (PV.nil)))) ?_
              refine RH.one (i := 4) (fun _ _ h => h) (by kernel_rfl) rfl ?_
              refine W.p (O.cvRow ⟨rfl, rfl⟩ (vt rfl) (by first | rfl | omega) (fun _ => ⟨_, rfl⟩)) ?_
              refine WL.nilQn ⟨(by repeat (first | exact List.nil_sublist _ | exact List.Sublist.refl _ | exact List.sublist_append_left _ _ | exact List.sublist_append_right _ _ | apply List.Sublist.cons_cons | apply List.Sublist.cons | refine List.Sublist.trans ?_ (List.sublist_append_right _ _))), ?_⟩
              refine RH.qa 5 rfl (O.bd (hv := PV.cons (vt rfl) (PV.cons (vt rfl) (PV.nil)))) ?_
              refine RH.one (i := 9) (fun _ _ h => h) (by kernel_rfl) rfl ?_
              refine W.bs encO ([⟨1, (List.replicate (500 : Int).toNat (0 : UInt8))⟩, ⟨2, (List.replicate (500 : Int).toNat (0 : UInt8))⟩, ⟨3, (List.replicate (500 : Int).toNat (0 : UInt8))⟩] : List Opt) rfl (PV.cons (vt rfl) (PV.cons (vt rfl) (PV.cons (vt rfl) (PV.nil)))) rfl rfl rfl (by decide) rfl fun b141 => ?_
              refine WL.nilQn ⟨(by repeat (first | exact List.nil_sublist _ | exact List.Sublist.refl _ | exact List.sublist_append_left _ _ | exact List.sublist_append_right _ _ | apply List.Sublist.cons_cons | apply List.Sublist.cons | refine List.Sublist.trans ?_ (List.sublist_append_right _ _))), ?_⟩
              refine RH.qa 10 rfl (O.as) ?_
              refine RH.done (by kernel_rfl) (Q.tn ?_)
              exact ⟨_, trivial, (by repeat (first | exact trivial | refine ⟨rfl, ?_⟩)), (by repeat (first | exact List.Sublist.refl _ | exact List.nil_sublist _ | apply List.Sublist.cons_cons | apply List.Sublist.cons | exact List.sublist_append_left _ _))⟩
            · refine W.p (O.cvRow ⟨rfl, rfl⟩ (vt rfl) (by first | rfl | omega) (fun _ => ⟨_, rfl⟩)) ?_
              refine WL.nilQn ⟨(by repeat (first | exact List.nil_sublist _ | exact List.Sublist.refl _ | exact List.sublist_append_left _ _ | exact List.sublist_append_right _ _ | apply List.Sublist.cons_cons | apply List.Sublist.cons | refine List.Sublist.trans ?_ (List.sublist_append_right _ _))), ?_⟩
              refine RH.qa 5 rfl (O.bd (hv := PV.cons (vt rfl) (PV.cons (vt rfl) (PV.nil)))) ?_
              refine RH.one (i := 1) (fun _ _ h => h) (by kernel_rfl) rfl ?_
              refine W.p (O.cvRow ⟨rfl, rfl⟩ (vt rfl) (by first | rfl | omega) (fun _ => ⟨_, rfl⟩)) ?_
              refine WL.nilQn ⟨(by repeat (first | exact List.nil_sublist _ | exact List.Sublist.refl _ | exact List.sublist_append_left _ _ | exact List.sublist_append_right _ _ | apply List.Sublist.cons_cons | apply List.Sublist.cons | refine List.Sublist.trans ?_ (List.sublist_append_right _ _))), ?_⟩
              refine RH.qa 2 rfl (O.bd (hv := PV.cons (vt rfl) (PV.cons (vt rfl) (PV.nil)))) ?_
              refine RH.one (i := 9) (fun _ _ h => h) (by kernel_rfl) rfl ?_
              refine W.bs encO ([⟨1, (List.replicate (500 : Int).toNat (0 : UInt8))⟩, ⟨2, (List.replicate (500 : Int).toNat (0 : UInt8))⟩, ⟨3, (List.replicate (500 : Int).toNat (0 : UInt8))⟩] : List Opt) rfl (PV.cons (vt rfl) (PV.cons (vt rfl) (PV.cons (vt rfl) (PV.nil)))) rfl rfl rfl (by decide) rfl fun b142 => ?_
              refine WL.nilQn ⟨(by repeat (first | exact List.nil_sublist _ | exact List.Sublist.refl _ | exact List.sublist_append_left _ _ | exact List.sublist_append_right _ _ | apply List.Sublist.cons_cons | apply List.Sublist.cons | refine List.Sublist.trans ?_ (List.sublist_append_right _ _))), ?_⟩
              refine RH.qa 10 rfl (O.as) ?_
              refine RH.done (by kernel_rfl) (Q.tn ?_)
              exact ⟨_, trivial, (by repeat (first | exact trivial | refine ⟨rfl, ?_⟩)), (by repeat (first | exact List.Sublist.refl _ | exact List.nil_sublist _ | apply List.Sublist.cons_cons | apply List.Sublist.cons | exact List.sublist_append_left _ _))⟩
          · refine W.p (O.cvRow ⟨rfl, rfl⟩ (vt rfl) (by first | rfl | omega) (fun _ => ⟨_, rfl⟩)) ?_
            refine WL.nilQn ⟨(by repeat (first | exact List.nil_sublist _ | exact List.Sublist.refl _ | exact List.sublist_append_left _ _ | exact List.sublist_append_right _ _ | apply List.Sublist.cons_cons | apply List.Sublist.cons | refine List.Sublist.trans ?_ (List.sublist_append_right _ _))), ?_⟩
            refine RH.qa 5 rfl (O.bd (hv := PV.cons (vt rfl) (PV.cons (vt rfl) (PV.nil)))) ?_
            refine RH.one (i := 0) (fun _ _ h => h) (by kernel_rfl) rfl ?_
            refine W.mkF rfl (vt rfl) (vt rfl) (by first | omega | decide) fun b143 => ?_
            refine WL.nilQn ⟨(by repeat (first | exact List.nil_sublist _ | exact List.Sublist.refl _ | exact List.sublist_append_left _ _ | exact List.sublist_append_right _ _ | apply List.Sublist.cons_cons | apply List.Sublist.cons | refine List.Sublist.trans ?_ (List.sublist_append_right _ _))), ?_⟩
            refine RH.one (i := 1) (fun _ _ h => h) (by kernel_rfl) rfl ?_
            refine W.p (O.cvRow ⟨rfl, rfl⟩ (vt rfl) (by first | rfl | omega) (fun _ => ⟨_, rfl⟩)) ?_
            refine WL.nilQn ⟨(by repeat (first | exact List.nil_sublist _ | exact List.Sublist.refl _ | exact List.sublist_append_left _ _ | exact List.sublist_append_right _ _ | apply List.Sublist.cons_cons | apply List.Sublist.cons | refine List.Sublist.trans ?_ (List.sublist_append_right _ _))), ?_⟩
            refine RH.qa 2 rfl (O.bd (hv := PV.cons (vt rfl) (PV.cons (vt rfl) (PV.nil)))) ?_
            refine RH.one (i := 9) (fun _ _ h => h) (by kernel_rfl) rfl ?_
            refine W.bs encO ([⟨1, (List.replicate (500 : Int).toNat (0 : UInt8))⟩, ⟨2, (List.replicate (500 : Int).toNat (0 : UInt8))⟩, ⟨3, (List.replicate (500 : Int).toNat (0 : UInt8))⟩] : List Opt) rfl (PV.cons (vt rfl) (PV.cons (vt rfl) (PV.cons (vt rfl) (PV.nil)))) rfl rfl rfl (by decide) rfl fun b144 => ?_
            refine WL.nilQn ⟨(by repeat (first | exact List.nil_sublist _ | exact List.Sublist.refl _ | exact List.sublist_append_left _ _ | exact List.sublist_append_right _ _ | apply List.Sublist.cons_cons | apply List.Sublist.cons | refine List.Sublist.trans ?_ (List.sublist_append_right _ _))), ?_⟩
            refine RH.qa 10 rfl (O.as) ?_
            refine RH.done (by kernel_rfl) (Q.tn ?_)
            exact ⟨_, trivial, (by repeat (first | exact trivial | refine ⟨rfl, ?_⟩)), (by repeat (first | exact List.Sublist.refl _ | exact List.nil_sublist _ | apply List.Sublist.cons_cons | apply List.Sublist.cons | exact List.sublist_append_left _ _))⟩
      · refine W.p (O.cvRow ⟨rfl, rfl⟩ (vt rfl) (by first | rfl | omega) (fun _ => ⟨_, rfl⟩)) ?_
        refine WL.nilQn ⟨(by repeat (first | exact List.nil_sublist _ | exact List.Sublist.refl _ | exact List.sublist_append_left _ _ | exact List.sublist_append_right _ _ | apply List.Sublist.cons_cons | apply List.Sublist.cons | refine List.Sublist.trans ?_ (List.sublist_append_right _ _))), ?_⟩
        refine RH.qa 8 rfl (O.bd (hv := PV.cons (vt rfl) (PV.cons (vt rfl) (PV.nil)))) ?_
        refine RH.two (i := 0) (j := 3) (fun _ _ h => h) (by kernel_rfl) rfl rfl ?_ ?_
        · refine W.mkF rfl (vt rfl) (vt rfl) (by first | omega | decide) fun b145 => ?_
          refine WL.nilQn ⟨(by repeat (first | exact List.nil_sublist _ | exact List.Sublist.refl _ | exact List.sublist_append_left _ _ | exact List.sublist_append_right _ _ | apply List.Sublist.cons_cons | apply List.Sublist.cons | refine List.Sublist.trans ?_ (List.sublist_append_right _ _))), ?_⟩
          refine RH.two (i := 1) (j := 3) (fun _ _ h => h) (by kernel_rfl) rfl rfl ?_ ?_
          · refine W.p (O.cvRow ⟨rfl, rfl⟩ (vt rfl) (by first | rfl | omega) (fun _ => ⟨_, rfl⟩)) ?_
            refine WL.nilQn ⟨(by repeat (first | exact List.nil_sublist _ | exact List.Sublist.refl _ | exact List.sublist_append_left _ _ | exact List.sublist_append_right _ _ | apply List.Sublist.cons_cons | apply List.Sublist.cons | refine List.Sublist.trans ?_ (List.sublist_append_right _ _))), ?_⟩
            refine RH.qa 2 rfl (O.bd (hv := PV.cons (vt rfl) (PV.cons (vt rfl) (PV.nil)))) ?_
            refine RH.one (i := 3) (fun _ _ h => h) (by kernel_rfl) rfl ?_
            refine W.mkF rfl (vt rfl) (vt rfl) (by first | omega | decide) fun b146 => ?_
            refine WL.nilQn ⟨(by repeat (first | exact List.nil_sublist _ | exact List.Sublist.refl _ | exact List.sublist_append_left _ _ | exact List.sublist_append_right _ _ | apply List.Sublist.cons_cons | apply List.Sublist.cons | refine List.Sublist.trans ?_ (List.sublist_append_right _ _))), ?_⟩
            refine RH.one (i := 4) (fun _ _ h => h) (by kernel_rfl) rfl ?_
            refine W.p (O.cvRow ⟨rfl, rfl⟩ (vt rfl) (by first | rfl | omega) (fun _ => ⟨_, rfl⟩)) ?_
            refine WL.nilQn ⟨(by repeat (first | exact List.nil_sublist _ | exact List.Sublist.refl _ | exact List.sublist_append_left _ _ | exact List.sublist_append_right _ _ | apply List.Sublist.cons_cons | apply List.Sublist.cons | refine List.Sublist.trans ?_ (List.sublist_append_right _ _))), ?_⟩
            refine RH.qa 5 rfl (O.bd (hv := PV.cons (vt rfl) (PV.cons (vt rfl) (PV.nil)))) ?_
            refine RH.one (i := 9) (fun _ _ h => h) (by kernel_rfl) rfl ?_
            refine W.bs encO ([⟨1, (List.replicate (500 : Int).toNat (0 : UInt8))⟩, ⟨2, (List.replicate (500 : Int).toNat (0 : UInt8))⟩, ⟨3, (List.replicate (500 : Int).toNat (0 : UInt8))⟩] : List Opt) rfl (PV.cons (vt rfl) (PV.cons (vt rfl) (PV.cons (vt rfl) (PV.nil)))) rfl rfl rfl (by decide) rfl fun b147 => ?_
            refine WL.nilQn ⟨(by repeat (first | exact List.nil_sublist _ | exact List.Sublist.refl _ | exact List.sublist_append_left _ _ | exact List.sublist_append_right _ _ | apply List.Sublist.cons_cons | apply List.Sublist.cons | refine List.Sublist.trans ?_ (List.sublist_append_right _ _))), ?_⟩
            refine RH.qa 10 rfl (O.as) ?_
            refine RH.done (by kernel_rfl) (Q.tn ?_)
            exact ⟨_, trivial, (by repeat (first | exact trivial | refine ⟨rfl, ?_⟩)), (by repeat (first | exact List.Sublist.refl _ | exact List.nil_sublist _ | apply List.Sublist.cons_cons | apply List.Sublist.cons | exact List.sublist_append_left _ _))⟩
          · refine W.mkF rfl (vt rfl) (vt rfl) (by first | omega | decide) fun b148 => ?_
            refine WL.nilQn ⟨(by repeat (first | exact List.nil_sublist _ | exact List.Sublist.refl _ | exact List.sublist_append_left _ _ | exact List.sublist_append_right _ _ | apply List.Sublist.cons_cons | apply List.Sublist.cons | refine List.Sublist.trans ?_ (List.sublist_append_right _ _))), ?_⟩
            refine RH.two (i := 1) (j := 4) (fun _ _ h => h) (by kernel_rfl) rfl rfl ?_ ?_
            · refine W.p (O.cvRow ⟨rfl, rfl⟩ (vt rfl) (by first | rfl | omega) (fun _ => ⟨_, rfl⟩)) ?_
              refine WL.nilQn ⟨(by repeat (first | exact List.nil_sublist _ | exact List.Sublist.refl _ | exact List.sublist_append_left _ _ | exact List.sublist_append_right _ _ | apply List.Sublist.cons_cons | apply List.Sublist.cons | refine List.Sublist.trans ?_ (List.sublist_append_right _ _))), ?_⟩
              refine RH.qa 2 rfl (O.bd (hv := PV.cons (vt rfl) (PV.cons (vt rfl) (PV.nil)))) ?_
              refine RH.one (i := 4) (fun _ _ h => h) (by kernel_rfl) rfl ?_
              refine W.p (O.cvRow ⟨rfl, rfl⟩ (vt rfl) (by first | rfl | omega) (fun _ => ⟨_, rfl⟩)) ?_
              refine WL.nilQn ⟨(by repeat (first | exact List.nil_sublist _ | exact List.Sublist.refl _ | exact List.sublist_append_left _ _ | exact List.sublist_append_right _ _ | apply List.Sublist.cons_cons | apply List.Sublist.cons | refine List.Sublist.trans ?_ (List.sublist_append_right _ _))), ?_⟩
              refine RH.qa 5 rfl (O.bd (hv := PV.cons (vt rfl) (PV.cons (vt rfl) (PV.nil)))) ?_
              refine RH.one (i := 9) (fun _ _ h => h) (by kernel_rfl) rfl ?_
              refine W.bs encO ([⟨1, (List.replicate (500 : Int).toNat (0 : UInt8))⟩, ⟨2, (List.replicate (500 : Int).toNat (0 : UInt8))⟩, ⟨3, (List.replicate (500 : Int).toNat (0 : UInt8))⟩] : List Opt) rfl (PV.cons (vt rfl) (PV.cons (vt rfl) (PV.cons (vt rfl) (PV.nil)))) rfl rfl rfl (by decide) rfl fun b149 => ?_
              refine WL.nilQn ⟨(by repeat (first | exact List.nil_sublist _ | exact List.Sublist.refl _ | exact List.sublist_append_left _ _ | exact List.sublist_append_right _ _ | apply List.Sublist.cons_cons | apply List.Sublist.cons | refine List.Sublist.trans ?_ (List.sublist_append_right _ _))), ?_⟩
              refine RH.qa 10 rfl (O.as) ?_
              refine RH.done (by kernel_rfl) (Q.tn ?_)
              exact ⟨_, trivial, (by repeat (first | exact trivial | refine ⟨rfl, ?_⟩)), (by repeat (first | exact List.Sublist.refl _ | exact List.nil_sublist _ | apply List.Sublist.cons_cons | apply List.Sublist.cons | exact List.sublist_append_left _ _))⟩
            · refine W.p (O.cvRow ⟨rfl, rfl⟩ (vt rfl) (by first | rfl | omega) (fun _ => ⟨_, rfl⟩)) ?_
              refine WL.nilQn ⟨(by repeat (first | exact List.nil_sublist _ | exact List.Sublist.refl _ | exact List.sublist_append_left _ _ | exact List.sublist_append_right _ _ | apply List.Sublist.cons_cons | apply List.Sublist.cons | refine List.Sublist.trans ?_ (List.sublist_append_right _ _))), ?_⟩
              refine RH.qa 5 rfl (O.bd (hv := PV.cons (vt rfl) (PV.cons (vt rfl) (PV.nil)))) ?_
              refine RH.one (i := 1) (fun _ _ h => h) (by kernel_rfl) rfl ?_
              refine W.p (O.cvRow ⟨rfl, rfl⟩ (vt rfl) (by first | rfl | omega) (fun _ => ⟨_, rfl⟩)) ?_
              refine WL.nilQn ⟨(by repeat (first | exact List.nil_sublist _ | exact List.Sublist.refl _ | exact List.sublist_append_left _ _ | exact List.sublist_append_right _ _ | apply List.Sublist.cons_cons | apply List.Sublist.cons | refine List.Sublist.trans ?_ (List.sublist_append_right _ _))), ?_⟩
              refine RH.qa 2 rfl (O.bd (hv := PV.cons (vt rfl) (PV.cons (vt rfl) (PV.nil)))) ?_
              refine RH.one (i := 9) (fun _ _ h => h) (by kernel_rfl) rfl ?_
              refine W.bs encO ([⟨1, (List.replicate (500 : Int).toNat (0 : UInt8))⟩, ⟨2, (List.replicate (500 : Int).toNat (0 : UInt8))⟩, ⟨3, (List.replicate (500 : Int).toNat (0 : UInt8))⟩] : List Opt) rfl (PV.cons (vt rfl) (PV.cons (vt rfl) (PV.cons (vt rfl) (PV.nil)))) rfl rfl rfl (by decide) rfl fun b150 => ?_
              refine WL.nilQn ⟨(by repeat (first | exact List.nil_sublist _ | exact List.Sublist.refl _ | exact List.sublist_append_left _ _ | exact List.sublist_append_right _ _ | apply List.Sublist.cons_cons | apply List.Sublist.cons | refine List.Sublist.trans ?_ (List.sublist_append_right _ _))), ?_⟩
              refine RH.qa 10 rfl (O.as) ?_
              refine RH.done (by kernel_rfl) (Q.tn ?_)
              exact ⟨_, trivial, (by repeat (first | exact trivial | refine ⟨rfl, ?_⟩)), (by repeat (first | exact List.Sublist.refl _ | exact List.nil_sublist _ | apply List.Sublist.cons_cons | apply List.Sublist.cons | exact List.sublist_append_left _ _))⟩
        · refine W.mkF rfl (vt rfl) (vt rfl) (by first | omega | decide) fun b151 => ?_
          refine WL.nilQn ⟨(by repeat (first | exact List.nil_sublist _ | exact List.Sublist.refl _ | exact List.sublist_append_left _ _ | exact List.sublist_append_right _ _ | apply List.Sublist.cons_cons | apply List.Sublist.cons | refine List.Sublist.trans ?_ (List.sublist_append_right _ _))), ?_⟩
          refine RH.two (i := 0) (j := 4) (fun _ _ h => h) (by kernel_rfl) rfl rfl ?_ ?_
          · refine W.mkF rfl (vt rfl) (vt rfl) (by first | omega | decide) fun b152 => ?_
            refine WL.nilQn ⟨(by repeat (first | exact List.nil_sublist _ | exact List.Sublist.refl _ | exact List.sublist_append_left _ _ | exact List.sublist_append_right _ _ | apply List.Sublist.cons_cons | apply List.Sublist.cons | refine List.Sublist.trans ?_ (List.sublist_append_right _ _))), ?_⟩
            refine RH.two (i := 1) (j := 4) (fun _ _ h => h) (by kernel_rfl) rfl rfl ?_ ?_
            · refine W.p (O.cvRow ⟨rfl, rfl⟩ (vt rfl) (by first | rfl | omega) (fun _ => ⟨_, rfl⟩)) ?_
              refine WL.nilQn ⟨(by repeat (first | exact List.nil_sublist _ | exact List.Sublist.refl _ | exact List.sublist_append_left _ _ | exact List.sublist_append_right _ _ | apply List.Sublist.cons_cons | apply List.Sublist.cons | refine List.Sublist.trans ?_ (List.sublist_append_right _ _))), ?_⟩
              refine RH.qa 2 rfl (O.bd (hv := PV.cons (vt rfl) (PV.cons (vt rfl) (PV.nil)))) ?_
              refine RH.one (i := 4) (fun _ _ h => h) (by kernel_rfl) rfl ?_
              refine W.p (O.cvRow ⟨rfl, rfl⟩ (vt rfl) (by first | rfl | omega) (fun _ => ⟨_, rfl⟩)) ?_
              refine WL.nilQn ⟨(by repeat (first | exact List.nil_sublist _ | exact List.Sublist.refl _ | exact List.sublist_append_left _ _ | exact List.sublist_append_right _ _ | apply List.Sublist.cons_cons | apply List.Sublist.cons | refine List.Sublist.trans ?_ (List.sublist_append_right _ _))), ?_⟩
              refine RH.qa 5 rfl (O.bd (hv := PV.cons (vt rfl) (PV.cons (vt rfl) (PV.nil)))) ?_
              refine RH.one (i := 9) (fun _ _ h => h) (by kernel_rfl) rfl ?_
              refine W.bs encO ([⟨1, (List.replicate (500 : Int).toNat (0 : UInt8))⟩, ⟨2, (List.replicate (500 : Int).toNat (0 : UInt8))⟩, ⟨3, (List.replicate (500 : Int).toNat (0 : UInt8))⟩] : List Opt) rfl (PV.cons (vt rfl) (PV.cons (vt rfl) (PV.cons (vt rfl) (PV.nil)))) rfl rfl rfl (by decide) rfl fun b153 => ?_
              refine WL.nilQn ⟨(by repeat (first | exact List.nil_sublist _ | exact List.Sublist.refl _ | exact List.sublist_append_left _ _ | exact List.sublist_append_right _ _ | apply List.Sublist.cons_cons | apply List.Sublist.cons | refine List.Sublist.trans ?_ (List.sublist_append_right _ _))), ?_⟩
              refine RH.qa 10 rfl (O.as) ?_
              refine RH.done (by kernel_rfl) (Q.tn ?_)
              exact ⟨_, trivial, (by repeat (first | exact trivial | refine ⟨rfl, ?_⟩)), (by repeat (first | exact List.Sublist.refl _ | exact List.nil_sublist _ | apply List.Sublist.cons_cons | apply List.Sublist.cons | exact List.sublist_append_left _ _))⟩
            · refine W.p (O.cvRow ⟨rfl, rfl⟩ (vt rfl) (by first | rfl | omega) (fun _ => ⟨_, rfl⟩)) ?_
              refine WL.nilQn ⟨(by repeat (first | exact List.nil_sublist _ | exact List.Sublist.refl _ | exact List.sublist_append_left _ _ | exact List.sublist_append_right _ _ | apply List.Sublist.cons_cons | apply List.Sublist.cons | refine List.Sublist.trans ?_ (List.sublist_append_right _ _))), ?_⟩
              refine RH.qa 5 rfl (O.bd (hv := PV.cons (vt rfl) (PV.cons (vt rfl) (PV.nil)))) ?_
              refine RH.one (i := 1) (fun _ _ h => h) (by kernel_rfl) rfl ?_
              refine W.p (O.cvRow ⟨rfl, rfl⟩ (vt rfl) (by first | rfl | omega) (fun _ => ⟨_, rfl⟩)) ?_
              refine WL.nilQn ⟨(by repeat (first | exact List.nil_sublist _ | exact List.Sublist.refl _ | exact List.sublist_append_left _ _ | exact List.sublist_append_right _ _ | apply List.Sublist.cons_cons | apply List.Sublist.cons | refine List.Sublist.trans ?_ (List.sublist_append_right _ _))), ?_⟩
              refine RH.qa 2 rfl (O.bd (hv := PV.cons (vt rfl) (PV.cons (vt rfl) (PV.nil)))) ?_
              refine RH.one (i := 9) (fun _ _ h => h) (by kernel_rfl) rfl ?_
              refine W.bs encO ([⟨1, (List.replicate (500 : Int).toNat (0 : UInt8))⟩, ⟨2, (List.replicate (500 : Int).toNat (0 : UInt8))⟩, ⟨3, (List.replicate (500 : Int).toNat (0 : UInt8))⟩] : List Opt) rfl (PV.cons (vt rfl) (PV.cons (vt rfl) (PV.cons (vt rfl) (PV.nil)))) rfl rfl rfl (by decide) rfl fun b154 => ?_
              refine WL.nilQn ⟨(by repeat (first | exact List.nil_sublist _ | exact List.Sublist.refl _ | exact List.sublist_append_left _ _ | exact List.sublist_append_right _ _ | apply List.Sublist.cons_cons | apply List.Sublist.cons | refine List.Sublist.trans ?_ (List.sublist_append_right _ _))), ?_⟩
              refine RH.qa 10 rfl (O.as) ?_
              refine RH.done (by kernel_rfl) (Q.tn ?_)
              exact ⟨_, trivial, (by repeat (first | exact trivial | refine ⟨rfl, ?_⟩)), (by repeat (first | exact List.Sublist.refl _ | exact List.nil_sublist _ | apply List.Sublist.cons_cons | apply List.Sublist.cons | exact List.sublist_append_left _ _))⟩
          · refine W.p (O.cvRow ⟨rfl, rfl⟩ (vt rfl) (by first | rfl | omega) (fun _ => ⟨_, rfl⟩)) ?_
            refine WL.nilQn ⟨(by repeat (first | exact List.nil_sublist _ | exact List.Sublist.refl _ | exact List.sublist_append_left _ _ | exact List.sublist_append_right _ _ | apply List.Sublist.cons_cons | apply List.Sublist.cons | refine List.Sublist.trans ?_ (List.sublist_append_right _ _))), ?_⟩
            refine RH.qa 5 rfl (O.bd (hv := PV.cons (vt rfl) (PV.cons (vt rfl) (PV.nil)))) ?_
            refine RH.one (i := 0) (fun _ _ h => h) (by kernel_rfl) rfl ?_
            refine W.mkF rfl (vt rfl) (vt rfl) (by first | omega | decide) fun b155 => ?_
            refine WL.nilQn ⟨(by repeat (first | exact List.nil_sublist _ | exact List.Sublist.refl _ | exact List.sublist_append_left _ _ | exact List.sublist_append_right _ _ | apply List.Sublist.cons_cons | apply List.Sublist.cons | refine List.Sublist.trans ?_ (List.sublist_append_right _ _))), ?_⟩
            refine RH.one (i := 1) (fun _ _ h => h) (by kernel_rfl) rfl ?_
            refine W.p (O.cvRow ⟨rfl, rfl⟩ (vt rfl) (by first | rfl | omega) (fun _ => ⟨_, rfl⟩)) ?_
            refine WL.nilQn ⟨(by repeat (first | exact List.nil_sublist _ | exact List.Sublist.refl _ | exact List.sublist_append_left _ _ | exact List.sublist_append_right _ _ | apply List.Sublist.cons_cons | apply List.Sublist.cons | refine List.Sublist.trans ?_ (List.sublist_append_right _ _))), ?_⟩
            refine RH.qa 2 rfl (O.bd (hv := PV.cons (vt rfl) (PV.cons (vt rfl) (PV.nil)))) ?_
            refine RH.one (i := 9) (fun _ _ h => h) (by kernel_rfl) rfl ?_
            refine W.bs encO ([⟨1, (List.replicate (500 : Int).toNat (0 : UInt8))⟩, ⟨2, (List.replicate (500 : Int).toNat (0 : UInt8))⟩, ⟨3, (List.replicate (500 : Int).toNat (0 : UInt8))⟩] : List Opt) rfl (PV.cons (vt rfl) (PV.cons (vt rfl) (PV.cons (vt rfl) (PV.nil)))) rfl rfl rfl (by decide) rfl fun b156 => ?_
            refine WL.nilQn ⟨(by repeat (first | exact List.nil_sublist _ | exact List.Sublist.refl _ | exact List.sublist_append_left _ _ | exact List.sublist_append_right _ _ | apply List.Sublist.cons_cons | apply List.Sublist.cons | refine List.Sublist.trans ?_ (List.sublist_append_right _ _))), ?_⟩
            refine RH.qa 10 rfl (O.as) ?_
            refine RH.done (by kernel_rfl) (Q.tn ?_)
            exact ⟨_, trivial, (by repeat (first | exact trivial | refine ⟨rfl, ?_⟩)), (by repeat (first | exact List.Sublist.refl _ | exact List.nil_sublist _ | apply List.Sublist.cons_cons | apply List.Sublist.cons | exact List.sublist_append_left _ _))⟩
  · rintro bq _
    try dsimp only
    refine CW.seq ?_
    refine CW.region ?_
    refine W.p O.mv ?_
    refine W.q (O.call ⟨rfl, rfl⟩ (AV.cons (vt rfl) (AV.nil)) (fun _ w hw => opts_Put ([⟨1, (List.replicate (500 : Int).toNat (0 : UInt8))⟩, ⟨2, (List.replicate (500 : Int).toNat (0 : UInt8))⟩, ⟨3, (List.replicate (500 : Int).toNat (0 : UInt8))⟩] : List Opt) _ _ w (RowL.h _ hw) (by decide))) ?_
    refine W.p O.mv ?_
    first | refine W.p O.extL ?_ | refine W.p O.ext ?_
    first | refine W.p O.extL ?_ | refine W.p O.ext ?_
    refine W.p O.as ?_
    refine W.p O.as ?_
    refine WL.nil (Q.tn ?_)
    refine CW.seq ?_
    refine CW.region ?_
    refine W.q (O.call ⟨rfl, rfl⟩ (AV.cons (vt rfl) (AV.nil)) (fun _ w hw => opts_Put [] _ _ w In.nil (by decide))) ?_
    refine W.p O.mv ?_
    first | refine W.p O.extL ?_ | refine W.p O.ext ?_
    first | refine W.p O.extL ?_ | refine W.p O.ext ?_
    refine W.p O.as ?_
    refine W.p O.as ?_
    refine WL.nil (Q.tn ?_)
    refine CW.seq ?_
    refine CW.region ?_
    refine W.bs encS txO rfl (PV.cons (vt rfl) (PV.cons (vt rfl) (PV.cons (vt rfl) (PV.cons (vt rfl) (PV.cons (vt rfl) (PV.nil)))))) rfl rfl rfl (by decide) rfl fun b157 => ?_
    refine W.p O.as ?_
    refine WL.nil (Q.tn ?_)
    refine CW.seq ?_
    refine CW.region ?_
    refine W.p O.mv ?_
    refine W.p O.mv ?_
    refine W.p O.cvUn ?_
    refine W.p O.rem ?_
    first | refine W.p O.cvN ?_ | refine W.p O.cv ?_
    refine W.p O.ixA ?_
    refine W.p O.ldE ?_
    refine W.callN (first := []) (cap := []) rfl (vt rfl) (AV.cons (vt rfl) (AV.nil)) (fun w hu => opts_Get _ w (by omega)) ?_; rintro _ _ ⟨_, rfl, o1, c1, sp1, rfl, ok1, rfl⟩; have nk1 := ok1.nk
    refine W.p O.mv ?_
    first | refine W.p O.extL ?_ | refine W.p O.ext ?_
    first | refine W.p O.extL ?_ | refine W.p O.ext ?_
    refine W.p O.as ?_
    refine W.p O.as ?_
    refine WL.nil (Q.tn ?_)
    refine CW.seq ?_
    refine CW.region ?_
    refine W.callN (first := []) (cap := []) rfl (vt rfl) (AV.cons (vt rfl) (AV.nil)) (fun w hu => opts_Get _ w (by decide)) ?_; rintro _ _ ⟨_, rfl, o2, c2, sp2, rfl, ok2, rfl⟩; have nk2 := ok2.nk
    refine W.p O.mv ?_
    first | refine W.p O.extL ?_ | refine W.p O.ext ?_
    first | refine W.p O.extL ?_ | refine W.p O.ext ?_
    refine W.p O.as ?_
    refine W.p O.as ?_
    refine WL.nil (Q.tn ?_)
    refine CW.seq ?_
    refine CW.region ?_
    refine W.q (O.call ⟨rfl, rfl⟩ (AV.cons (vt rfl) (AV.cons (vt rfl) (AV.nil))) (fun _ w hw => opts_Find [] _ _ _ w In.nil (by decide))) ?_
    refine W.p O.mv ?_
    first | refine W.p O.extL ?_ | refine W.p O.ext ?_
    first | refine W.p O.extL ?_ | refine W.p O.ext ?_
    refine W.p O.as ?_
    refine W.p O.as ?_
    refine WL.nil (Q.tn ?_)
    refine CW.seq ?_
    refine CW.region ?_
    refine W.p O.mv ?_
    refine W.p O.eqS ?_
    refine W.p O.mv ?_
    refine W.p O.mv ?_
    refine W.q (O.call ⟨rfl, rfl⟩ (AV.cons (vs rfl) (AV.nil)) (fun _ w hw => law0_Num _ w)) ?_
    refine W.p O.eqI ?_
    refine W.p O.pkB ?_
    refine W.p O.mv ?_
    refine W.p O.mv ?_
    refine W.q (O.call ⟨rfl, rfl⟩ (AV.cons (vs rfl) (AV.nil)) (fun _ w hw => law0_Num _ w)) ?_
    refine W.p O.eqI ?_
    refine W.p O.pkB ?_
    refine W.p O.mv ?_
    refine W.p O.mv ?_
    refine W.p O.eqS ?_
    refine W.p O.pkB ?_
    refine W.p O.mv ?_
    refine W.p O.mv ?_
    refine W.q (O.call ⟨rfl, rfl⟩ (AV.cons (vs rfl) (AV.nil)) (fun _ w hw => law0_Num _ w)) ?_
    refine W.p O.eqI ?_
    refine W.p O.pkB ?_
    refine W.p O.mv ?_
    refine W.p O.mv ?_
    refine W.q (O.call ⟨rfl, rfl⟩ (AV.cons (vs rfl) (AV.nil)) (fun _ w hw => law0_Num _ w)) ?_
    refine W.p O.eqI ?_
    refine W.p O.pkB ?_
    refine W.p O.mv ?_
    refine W.p O.mv ?_
    refine W.p O.lenL ?_
    refine W.p O.eqI ?_
    refine W.p O.pkB ?_
    refine W.p O.mv ?_
    refine W.p O.mv ?_
    refine W.q (O.call ⟨rfl, rfl⟩ (AV.cons (vs rfl) (AV.nil)) (fun _ w hw => law0_Num _ w)) ?_
    refine W.p O.eqI ?_
    refine W.p O.pkB ?_
    refine W.p O.mv ?_
    refine W.p O.mv ?_
    refine W.p O.nt ?_
    refine W.p O.pkB ?_
    refine W.p O.as ?_
    refine WL.nil (Q.tn ?_)
    refine CW.ret ?_
    refine ⟨_, [], (RVs.tmp rfl RVs.nil), List.nil_sublist _, ?_⟩
    refine ⟨?_, rfl⟩
    rw [show putR (([(some ⟨b2, 0, none⟩, [⟨0, []⟩]), (some ⟨b3, 0, none⟩, [⟨255, []⟩]), (some ⟨b4, 0, none⟩, [⟨-(1 + x % 1024), []⟩]), (some ⟨b5, 0, none⟩, [⟨254 + (1 + x % 1024), []⟩]), (some ⟨b6, 0, none⟩, [⟨5, []⟩, ⟨5, []⟩]), (some ⟨b8, 0, none⟩, [⟨5, (List.replicate (512 + (1 + x % 1024)).toNat (0 : UInt8))⟩]), (oa (some b1), ys)] : List (Option Addr × List Opt)).getD (which % 18446744073709551616 % 7).toNat (none, [])).2 = ([], 600) from bad_all x ys hy (by omega) (by omega), big_long, ht.2]
    rfl
end Go.Proofs.Ytkjcmdgideddnaa
