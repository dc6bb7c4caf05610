/- The statements ScriptForms and ScriptRows: their walks. Conditions: what comes in is not longer than a million; the library's table of powers of ten is as its text lays it, its two variables for errors hold errors. -/
import Derived.Test.YtagiajnpnjakhaaDoorL24
import Derived.Test.YtagiajnpnjakhaaDoorSlM
set_option linter.unusedVariables false
set_option linter.unusedSimpArgs false
namespace Go.Proofs.YtagiajnpnjakhaaDoor
open Go Go.RowKit
def badsA (d : Int) : List Ac := [⟨-d, [], 0, 0, 0⟩, ⟨3 + d, [], 0, 0, 0⟩, ⟨0, List.replicate (1200 + d).toNat 0, 0, 0, 0⟩, ⟨0, [], 1, 0, 0⟩, ⟨0, [], 0, -d, 0⟩, ⟨0, [], 0, 16 + d, 0⟩, ⟨0, [], 0, 0, 1⟩, ⟨0, [], 0, 1, 2048 + d⟩, ⟨0, [], 0, 1, -d⟩, ⟨1, [], 0, 1, 0⟩, ⟨1, [], 1, 0, 0⟩, ⟨1, [], 0, 0, 1⟩, ⟨2, [120], 0, 0, 0⟩, ⟨2, [], -d, 0, 0⟩, ⟨2, [], 1048576 + d, 0, 0⟩, ⟨3, [], 0, 1, 0⟩, ⟨3, [], 1, 0, 0⟩, ⟨3, [120], 0, 0, 0⟩]
theorem badsA_no {d : Int} (hd : 1 ≤ d ∧ d ≤ 1024) : ∀ a ∈ badsA d, acMay a = false ∧ a.text.length ≤ 3000 := by
  intro a ha
  simp only [badsA, List.mem_cons, List.not_mem_nil, or_false] at ha
  rcases ha with rfl | rfl | rfl | rfl | rfl | rfl | rfl | rfl | rfl | rfl | rfl | rfl | rfl | rfl | rfl | rfl | rfl | rfl
  all_goals refine ⟨?_, by first | (simp only [List.length_replicate]; omega) | simp⟩
  all_goals
    rw [Bool.eq_false_iff]; intro h
    have hm := may_ac h
    have hh := h
    simp only [acMay_ref, Bool.and_eq_true, decide_eq_true_eq, Bool.not_eq_true', Bool.and_eq_false_iff, List.length_replicate, decide_eq_false_iff_not, Bool.not_eq_false'] at hm hh
    first | omega | (simp at hh; done) | (simp at hh; omega)
theorem badsA_at {d : Int} (hd : 1 ≤ d ∧ d ≤ 1024) {i : Int} (h0 : 0 ≤ i) (h1 : i < 18) : acMay ((badsA d).getD i.toNat dA) = false ∧ ((badsA d).getD i.toNat dA).text.length ≤ 3000 :=
  badsA_no hd _ (mem_at dA h0 (by have : (badsA d).length = 18 := rfl; omega))
def txA : List (List UInt8) := [[100], [100, 48, 44, 48, 44, 48, 44], [100, 48, 44, 48, 44, 48, 44, 49, 58], [100, 48, 48, 44, 48, 44, 48, 44, 48, 58], [122, 48, 44, 48, 44, 48, 44, 48, 58], [100, 48, 44, 48, 44, 48, 44, 48, 58, 120], [32, 100, 48, 44, 48, 44, 48, 44, 48, 58], [100, 48, 59, 48, 44, 48, 44, 48, 58], [116, 49, 44, 48, 44, 49, 44, 48, 58], [113, 48, 44, 49, 44, 48, 44, 48, 58], [100, 48, 44, 48, 44, 48, 44, 50, 58, 97]]
theorem txA_read : (txA.all fun t => (readP t).2.2 == false || acMay (readP t).1 == false || (acMay (readP t).1 && (readP t).2.1 == [120])) = true ∧ (readP [120]).2.2 = false := by decide +kernel
theorem txA_no : ∀ t ∈ txA, parseP t = ([], 2400) := by
  intro t ht
  have h := List.all_eq_true.1 txA_read.1 t ht
  have hne : t ≠ [] := by
    intro e; subst e; revert ht; decide
  simp only [Bool.or_eq_true, Bool.and_eq_true, beq_iff_eq] at h
  rcases h with (h | h) | ⟨h1, h2⟩
  · exact (PrsI.new t).bad hne (.inl h)
  · exact (PrsI.new t).bad hne (.inr (.inl h))
  · cases hr : (readP t).2.2 with
    | false => exact (PrsI.new t).bad hne (.inl hr)
    | true =>
      have hs := ((PrsI.new t).step hr h1 (by decide)).1
      rw [h2] at hs
      exact hs.bad (by decide) (.inl txA_read.2)
theorem txA_at {i : Int} (h0 : 0 ≤ i) (h1 : i < 11) : parseP (txA.getD i.toNat []) = ([], 2400) ∧ (txA.getD i.toNat []).length ≤ 20 := by
  have hm : txA.getD i.toNat [] ∈ txA := mem_at [] h0 (by have : txA.length = 11 := rfl; omega)
  exact ⟨txA_no _ hm, (show ∀ t ∈ txA, t.length ≤ 20 by decide) _ hm⟩
theorem two_bad {b : Ac} (h : acMay b = false) : showP [dA, b] = ([], 2400) := by
  rw [showP, if_neg]; simp [showOk, h]
theorem many_bad : showP (List.replicate 257 dA) = ([], 2400) := by
  rw [showP, if_neg (by rw [showOk, Bool.and_eq_true, decide_eq_true_eq, List.length_replicate]; omega)]
theorem u64_nn (x : Int) : 0 ≤ IntKind.u64.wrap x := by
  have : IntKind.u64.wrap x = x % 18446744073709551616 := rfl
  omega
set_option maxRecDepth 100000 in
theorem law24_ScriptForms (which x : Int) (w : World) (ht : Tab10 w) (he : ErrV w) : Fn Tryd.prog 10 [.int .i64 which, .int .i64 x] w [] fun v L' => v = .bool true ∧ L' = [] := by
  have hx : 0 ≤ x % 1024 ∧ x % 1024 ≤ 1023 := by omega
  have hrl : (List.replicate (1200 + (1 + x % 1024)).toNat (0 : UInt8)).length = (1200 + (1 + x % 1024)).toNat := List.length_replicate
  obtain ⟨hb, hbl⟩ := badsA_at (d := (1 + x % 1024)) (by omega) (i := (which % 18446744073709551616 % 18)) (by omega) (by omega)
  obtain ⟨ht1, ht2⟩ := txA_at (i := (which % 18446744073709551616 % 11)) (by omega) (by omega)
  have hlen : (badsA (1 + x % 1024)).length = 18 := rfl
  have htl : txA.length = 11 := rfl
  have hb2 : AsSz [dA, ((badsA (1 + x % 1024)).getD (which % 18446744073709551616 % 18).toNat dA)] := ⟨by simp, fun a ha => by simp only [List.mem_cons, List.not_mem_nil, or_false] at ha; rcases ha with rfl | rfl; (simp); omega⟩
  have hb3 : AsSz (List.replicate 257 dA) := ⟨by simp, fun a ha => by rw [(List.mem_replicate.1 ha).2]; simp⟩
  refine Fn.enter Tryd.func10 rfl rfl rfl rfl (Holds.nil w) ?_
  refine CW.seq ?_
  refine CW.region ?_
  refine W.p O.as ?_
  refine WL.nil (Q.tn ?_)
  refine CW.seq ?_
  refine CW.seq ?_
  refine CW.region ?_
  refine W.q (O.call ⟨rfl, rfl⟩ (AV.nil) (fun _ w hw => law24_awake w (ht.upd hw) (he.upd hw))) ?_
  refine W.p O.nt ?_
  refine WL.nil (Q.tn ?_)
  refine CW.cond (vt rfl) (fun hc1 => ?_) (fun hc1 => ?_)
  · exfalso; simp at hc1
  try simp only [sk] at hc1
  refine CW.skip (Q.tn ?_)
  refine CW.seq ?_
  refine CW.region ?_
  refine W.p O.mv ?_
  refine W.p (O.andM 10 1024 (h := by decide) (hq := by decide) (hM := by decide)) ?_
  first | refine W.p O.addN ?_ | refine W.p O.add ?_
  refine W.p O.as ?_
  refine WL.nil (Q.tn ?_)
  refine CW.seq ?_
  refine CW.region ?_
  refine W.p O.mv ?_
  first | refine W.p O.ngN ?_ | refine W.p O.ng ?_
  refine W.p (O.bd (hv := PV.cons (vt rfl) (PV.nil))) ?_
  refine W.p O.mv ?_
  first | refine W.p O.addN ?_ | refine W.p O.add ?_
  refine W.p (O.bd (hv := PV.cons (vt rfl) (PV.nil))) ?_
  refine W.p O.mv ?_
  first | refine W.p O.addN ?_ | refine W.p O.add ?_
  refine W.mkF rfl (vt rfl) (vt rfl) (by first | omega | decide) fun b1 => ?_
  refine W.p (O.cvRow ⟨rfl, rfl⟩ (vt rfl) (by first | rfl | omega) (fun _ => ⟨_, rfl⟩)) ?_
  refine W.p (O.bd (hv := PV.cons (vt rfl) (PV.nil))) ?_
  refine W.p (O.bd (hv := PV.cons (vt rfl) (PV.nil))) ?_
  refine W.p O.mv ?_
  first | refine W.p O.ngN ?_ | refine W.p O.ng ?_
  refine W.p (O.bd (hv := PV.cons (vt rfl) (PV.nil))) ?_
  refine W.p O.mv ?_
  first | refine W.p O.addN ?_ | refine W.p O.add ?_
  refine W.p (O.bd (hv := PV.cons (vt rfl) (PV.nil))) ?_
  refine W.p (O.bd (hv := PV.cons (vt rfl) (PV.nil))) ?_
  refine W.p O.mv ?_
  first | refine W.p O.addN ?_ | refine W.p O.add ?_
  refine W.p (O.bd (hv := PV.cons (vt rfl) (PV.cons (vt rfl) (PV.nil)))) ?_
  refine W.p O.mv ?_
  first | refine W.p O.ngN ?_ | refine W.p O.ng ?_
  refine W.p (O.bd (hv := PV.cons (vt rfl) (PV.cons (vt rfl) (PV.nil)))) ?_
  refine W.p (O.bd (hv := PV.cons (vt rfl) (PV.cons (vt rfl) (PV.nil)))) ?_
  refine W.p (O.bd (hv := PV.cons (vt rfl) (PV.cons (vt rfl) (PV.nil)))) ?_
  refine W.p (O.bd (hv := PV.cons (vt rfl) (PV.cons (vt rfl) (PV.nil)))) ?_
  refine W.p (O.bd (hv := PV.cons (vt rfl) (PV.cons (vt rfl) (PV.nil)))) ?_
  refine W.p O.mv ?_
  first | refine W.p O.ngN ?_ | refine W.p O.ng ?_
  refine W.p (O.bd (hv := PV.cons (vt rfl) (PV.cons (vt rfl) (PV.nil)))) ?_
  refine W.p O.mv ?_
  first | refine W.p O.addN ?_ | refine W.p O.add ?_
  refine W.p (O.bd (hv := PV.cons (vt rfl) (PV.cons (vt rfl) (PV.nil)))) ?_
  refine W.p (O.bd (hv := PV.cons (vt rfl) (PV.cons (vt rfl) (PV.nil)))) ?_
  refine W.p (O.bd (hv := PV.cons (vt rfl) (PV.cons (vt rfl) (PV.nil)))) ?_
  refine W.p (O.bd (hv := PV.cons (vt rfl) (PV.cons (vt rfl) (PV.nil)))) ?_
  refine W.bs encA (badsA (1 + x % 1024)) rfl (PV.cons (vt rfl) (PV.cons (vt rfl) (PV.cons (vt rfl) (PV.cons (vt rfl) (PV.cons (vt rfl) (PV.cons (vt rfl) (PV.cons (vt rfl) (PV.cons (vt rfl) (PV.cons (vt rfl) (PV.cons (vt rfl) (PV.cons (vt rfl) (PV.cons (vt rfl) (PV.cons (vt rfl) (PV.cons (vt rfl) (PV.cons (vt rfl) (PV.cons (vt rfl) (PV.cons (vt rfl) (PV.cons (vt rfl) (PV.nil))))))))))))))))))) rfl rfl rfl (by decide) rfl fun b2 => ?_
  refine W.p O.as ?_
  refine WL.nil (Q.tn ?_)
  refine CW.seq ?_
  refine CW.region ?_
  refine W.p O.mv ?_
  refine W.p O.mv ?_
  refine W.p O.cvUn ?_
  refine W.p O.rem ?_
  first | refine W.p O.cvN ?_ | refine W.p O.cv ?_
  refine W.p O.ixA ?_
  refine W.p O.ldsE ?_
  refine W.al rfl rfl fun b3 => ?_
  refine W.st (vt rfl) (vt rfl) rfl ?_
  refine WL.nil (Q.tn ?_)
  refine CW.seq ?_
  refine CW.region ?_
  refine W.p (O.bd (hv := PV.nil)) ?_
  refine W.p O.lds ?_
  refine W.bs encA [dA, ((badsA (1 + x % 1024)).getD (which % 18446744073709551616 % 18).toNat dA)] rfl (PV.cons (vt rfl) (PV.cons (vt rfl) (PV.nil))) rfl rfl rfl (by decide) rfl fun b4 => ?_
  refine W.q (O.call ⟨rfl, rfl⟩ (AV.cons (vt rfl) (AV.nil)) (fun _ w hw => sc_Show [dA, ((badsA (1 + x % 1024)).getD (which % 18446744073709551616 % 18).toNat dA)] _ _ w (RowL.h (enc := encA) (xs := [dA, ((badsA (1 + x % 1024)).getD (which % 18446744073709551616 % 18).toNat dA)]) _ hw) hb2 (ht.upd hw))) ?_
  refine W.p O.mv ?_
  first | refine W.p O.extL ?_ | refine W.p O.ext ?_
  first | refine W.p O.extL ?_ | refine W.p O.ext ?_
  refine W.p O.as ?_
  refine W.p O.as ?_
  refine WL.nil (Q.tn ?_)
  refine CW.seq ?_
  refine CW.region ?_
  refine W.bs encS txA rfl (PV.cons (vt rfl) (PV.cons (vt rfl) (PV.cons (vt rfl) (PV.cons (vt rfl) (PV.cons (vt rfl) (PV.cons (vt rfl) (PV.cons (vt rfl) (PV.cons (vt rfl) (PV.cons (vt rfl) (PV.cons (vt rfl) (PV.cons (vt rfl) (PV.nil)))))))))))) rfl rfl rfl (by decide) rfl fun b5 => ?_
  refine W.p O.as ?_
  refine WL.nil (Q.tn ?_)
  refine CW.seq ?_
  refine CW.region ?_
  refine W.p O.mv ?_
  refine W.p O.mv ?_
  refine W.p O.cvUn ?_
  refine W.p O.rem ?_
  first | refine W.p O.cvN ?_ | refine W.p O.cv ?_
  refine W.p O.ixA ?_
  refine W.p O.ldE ?_
  refine W.callN (first := []) (cap := []) rfl (vt rfl) (AV.cons (vt rfl) (AV.nil)) (fun w hu => sc_Parse (txA.getD (which % 18446744073709551616 % 11).toNat []) w (by omega) (ht.upd hu) (he.upd hu)) ?_; rintro _ _ ⟨o11, c11, p11, rfl, ok11, rfl⟩
  refine W.p O.mv ?_
  first | refine W.p O.extL ?_ | refine W.p O.ext ?_
  first | refine W.p O.extL ?_ | refine W.p O.ext ?_
  refine W.p O.as ?_
  refine W.p O.as ?_
  refine WL.nil (Q.tn ?_)
  refine CW.seq ?_
  refine CW.region ?_
  refine W.mkE (enc := encA) (dv := dA) (c := 257) rfl (vt rfl) (vt rfl) rfl (by decide) (by decide) (by first | exact made_rep _ | kernel_rfl) fun b6 => ?_
  refine W.q (O.call ⟨rfl, rfl⟩ (AV.cons (vt rfl) (AV.nil)) (fun _ w hw => sc_Show (List.replicate 257 dA) _ _ w (RowL.h (enc := encA) (xs := List.replicate 257 dA) _ hw) hb3 (ht.upd hw))) ?_
  refine W.p O.mv ?_
  first | refine W.p O.extL ?_ | refine W.p O.ext ?_
  first | refine W.p O.extL ?_ | refine W.p O.ext ?_
  refine W.p O.as ?_
  refine W.p O.as ?_
  refine WL.nil (Q.tn ?_)
  refine CW.seq ?_
  refine CW.region ?_
  refine W.p O.lds ?_
  refine W.q (O.call ⟨rfl, rfl⟩ (AV.cons (vt rfl) (AV.nil)) (fun _ w hw => sc_May _ w (by omega))) ?_
  refine W.p O.nt ?_
  refine W.p O.mv ?_
  refine W.p O.mv ?_
  refine W.p O.eqS ?_
  refine W.p O.pkB ?_
  refine W.p O.mv ?_
  refine W.p O.mv ?_
  refine W.q (O.call ⟨rfl, rfl⟩ (AV.cons (vs rfl) (AV.nil)) (fun _ w hw => law0_Num _ w)) ?_
  refine W.p O.eqI ?_
  refine W.p O.pkB ?_
  refine W.p O.mv ?_
  refine W.p O.mv ?_
  refine W.p O.lenL ?_
  refine W.p O.eqI ?_
  refine W.p O.pkB ?_
  refine W.p O.mv ?_
  refine W.p O.mv ?_
  refine W.q (O.call ⟨rfl, rfl⟩ (AV.cons (vs rfl) (AV.nil)) (fun _ w hw => law0_Num _ w)) ?_
  refine W.p O.eqI ?_
  refine W.p O.pkB ?_
  refine W.p O.mv ?_
  refine W.p O.mv ?_
  refine W.q (O.call ⟨rfl, rfl⟩ (AV.cons (vs rfl) (AV.nil)) (fun _ w hw => law0_Num _ w)) ?_
  refine W.p O.eqI ?_
  refine W.p O.pkB ?_
  refine W.p O.as ?_
  refine WL.nil (Q.tn ?_)
  refine CW.ret ?_
  refine ⟨_, [], (RVs.tmp rfl RVs.nil), List.nil_sublist _, ?_⟩
  refine ⟨congrArg Value.bool ?_, rfl⟩
  rw [two_bad hb, ht1, many_bad, hb]; simp
theorem rows_z {us : List Ac} {k : Nat} (hk : k ≤ us.length) (hl : us.length ≤ 200) (h1 : (showP (us.take k)).2 = 0) (h2 : (showP (us.drop k)).2 = 0) : showP us = ((showP (us.take k)).1 ++ (showP (us.drop k)).1, 0) ∧ parseP ((showP (us.take k)).1 ++ (showP (us.drop k)).1) = (us, 0) := by
  have a1 : showOk (us.take k) = true := by
    unfold showP at h1; split at h1
    · assumption
    · exact absurd h1 (by decide)
  have a2 : showOk (us.drop k) = true := by
    unfold showP at h2; split at h2
    · assumption
    · exact absurd h2 (by decide)
  have e : us = us.take k ++ us.drop k := (List.take_append_drop k us).symm
  have ho : showOk us = true := by
    simp only [showOk, Bool.and_eq_true] at a1 a2
    rw [showOk, Bool.and_eq_true]
    refine ⟨?_, decide_eq_true (by omega)⟩
    rw [e, List.all_append, a1.1, a2.1]; rfl
  have hs : shows us = shows (us.take k) ++ shows (us.drop k) := by conv => lhs; rw [e, shows_app]
  rw [showP, if_pos ho, showP, if_pos a1, showP, if_pos a2]
  exact ⟨by rw [hs], parse_of ho hs⟩
theorem rows_no {us : List Ac} {k : Nat} (h : ¬(showP (us.take k)).2 = 0 ∨ ¬(showP (us.drop k)).2 = 0) : showP us = ([], 2400) := by
  rw [showP, if_neg]
  intro ho
  have e : us = us.take k ++ us.drop k := (List.take_append_drop k us).symm
  simp only [showOk, Bool.and_eq_true, decide_eq_true_eq] at ho
  obtain ⟨h1, h2⟩ := ho
  rw [e, List.all_append, Bool.and_eq_true] at h1
  rcases h with h | h
  · refine h ?_
    rw [showP, if_pos]
    rw [showOk, h1.1, Bool.true_and]; exact decide_eq_true (by rw [List.length_take]; omega)
  · refine h ?_
    rw [showP, if_pos]
    rw [showOk, h1.2, Bool.true_and]; exact decide_eq_true (by rw [List.length_drop]; omega)
theorem sc_ShowN {us : List Ac} {a : Option Addr} {n cc : Nat} (w : World) (hl : In w a (us.flatMap encA)) (hn : n = us.length) (hz : AsSz us) (ht : Tab10 w) : Fn Tryd.prog 31 [.slice a n cc] w [] fun v L' => v = .tuple #[.string (S (showP us).1), .int .i64 (showP us).2] ∧ L' = [] := by
  subst hn; exact sc_Show us a cc w hl hz ht
theorem take_in {w : World} {a : Option Addr} {us : List Ac} {k : Nat} (h : In w a (us.flatMap encA)) : In w a ((us.take k).flatMap encA) := by
  have e : us.flatMap encA = (us.take k).flatMap encA ++ (us.drop k).flatMap encA := by rw [← List.flatMap_append, List.take_append_drop]
  rw [e] at h; exact h.pre
set_option maxRecDepth 100000 in
theorem law24_ScriptRows (us : List Ac) (al : Option Addr) (cl : Nat) (cut : Int) (w : World) (hl : In w al (us.flatMap encA)) (hz : AsSz us) (hcap : us.length ≤ cl) (hcl : cl ≤ 9223372036854775807) (ht : Tab10 w) (he : ErrV w) :
    Fn Tryd.prog 11 [.slice al us.length cl, .int .i64 cut] w [] fun v L' => v = .bool true ∧ L' = [] := by
  have hll := hz.hl
  have hx : 0 ≤ (IntKind.i64.wrap (cut % 18446744073709551616 % (((us.length : Int) + 1) % 18446744073709551616))) ∧ (IntKind.i64.wrap (cut % 18446744073709551616 % (((us.length : Int) + 1) % 18446744073709551616))) ≤ us.length := by
    rw [Int.emod_eq_of_lt (a := (us.length : Int) + 1) (by omega) (by omega)]
    have h1 := Int.emod_nonneg (cut % 18446744073709551616) (show (us.length : Int) + 1 ≠ 0 by omega)
    have h2 := Int.emod_lt_of_pos (cut % 18446744073709551616) (show 0 < (us.length : Int) + 1 by omega)
    rw [wrap_in _ (by omega)]; omega
  have z1 := showP_len (us.take (IntKind.i64.wrap (cut % 18446744073709551616 % (((us.length : Int) + 1) % 18446744073709551616))).toNat); have z2 := showP_len (us.drop (IntKind.i64.wrap (cut % 18446744073709551616 % (((us.length : Int) + 1) % 18446744073709551616))).toNat)
  refine Fn.enter Tryd.func11 rfl rfl rfl rfl (Holds.nil w) ?_
  refine CW.seq ?_
  refine CW.region ?_
  refine W.p O.as ?_
  refine WL.nil (Q.tn ?_)
  refine CW.seq ?_
  refine CW.seq ?_
  refine CW.region ?_
  refine W.q (O.call ⟨rfl, rfl⟩ (AV.nil) (fun _ w hw => law24_awake w (ht.upd hw) (he.upd hw))) ?_
  refine W.p O.nt ?_
  refine WL.nil (Q.tn ?_)
  refine CW.cond (vt rfl) (fun hc1 => ?_) (fun hc1 => ?_)
  · exfalso; simp at hc1
  try simp only [sk] at hc1
  refine CW.skip (Q.tn ?_)
  refine CW.seq ?_
  refine CW.seq ?_
  refine CW.region ?_
  refine W.p O.mv ?_
  refine W.p O.lenL ?_
  refine W.p O.gtr ?_
  refine WL.nil (Q.tn ?_)
  refine CW.cond (vt rfl) (fun hc2 => ?_) (fun hc2 => ?_)
  · try simp only [sk] at hc2
    refine CW.seq ?_
    refine CW.region ?_
    refine W.p O.as ?_
    refine WL.nil (Q.tn ?_)
    refine CW.ret (Q.tr ?_)
    refine ⟨_, [], (RVs.tmp rfl RVs.nil), List.nil_sublist _, ?_⟩
    refine ⟨congrArg Value.bool ?_, rfl⟩
    rfl
  try simp only [sk] at hc2
  refine CW.skip (Q.tn ?_)
  refine CW.seq ?_
  refine CW.region ?_
  refine W.p O.mv ?_
  refine W.p O.cvUn ?_
  refine W.p O.mv ?_
  refine W.p O.lenL ?_
  first | refine W.p O.addN ?_ | refine W.p O.add ?_
  refine W.p O.cvUn ?_
  refine W.p O.rem ?_
  first | refine W.p O.cvN ?_ | refine W.p O.cv ?_
  refine W.p O.as ?_
  refine WL.nil (Q.tn ?_)
  refine CW.seq ?_
  refine CW.region ?_
  refine W.p O.mv ?_
  refine W.p O.mv ?_
  refine W.p O.slH ?_
  refine W.q (O.call ⟨rfl, rfl⟩ (AV.cons (vt rfl) (AV.nil)) (fun _ w hw => sc_ShowN (us := us.take (IntKind.i64.wrap (cut % 18446744073709551616 % (((us.length : Int) + 1) % 18446744073709551616))).toNat) w (take_in (hl.upd (L0 := []) hw)) (by rw [List.length_take]; omega) ⟨by rw [List.length_take]; omega, fun x hx => hz.ht x (List.mem_of_mem_take hx)⟩ (ht.upd hw))) ?_
  refine W.p O.mv ?_
  first | refine W.p O.extL ?_ | refine W.p O.ext ?_
  first | refine W.p O.extL ?_ | refine W.p O.ext ?_
  refine W.p O.as ?_
  refine W.p O.as ?_
  refine WL.nil (Q.tn ?_)
  refine CW.seq ?_
  refine CW.region ?_
  refine W.p O.mv ?_
  refine W.p O.mv ?_
  refine W.p O.slN ?_
  refine W.q (O.call ⟨rfl, rfl⟩ (AV.cons (vt rfl) (AV.nil)) (fun _ w hw => sc_ShowN (us := us.drop (IntKind.i64.wrap (cut % 18446744073709551616 % (((us.length : Int) + 1) % 18446744073709551616))).toNat) w (In.slA (m := 5) (hl.upd (L0 := []) hw) (fun _ => rfl) (by omega) hcap (by rw [List.length_drop, List.take_of_length_le (by rw [List.length_drop]; omega)])) (by rw [List.length_drop]) ⟨by rw [List.length_drop]; omega, fun x hx => hz.ht x (List.mem_of_mem_drop hx)⟩ (ht.upd hw))) ?_
  refine W.p O.mv ?_
  first | refine W.p O.extL ?_ | refine W.p O.ext ?_
  first | refine W.p O.extL ?_ | refine W.p O.ext ?_
  refine W.p O.as ?_
  refine W.p O.as ?_
  refine WL.nil (Q.tn ?_)
  refine CW.seq ?_
  refine CW.region ?_
  refine W.p O.mv ?_
  refine W.q (O.call ⟨rfl, rfl⟩ (AV.cons (vt rfl) (AV.nil)) (fun _ w hw => sc_ShowN (us := us) w (hl.upd (L0 := []) hw) rfl hz (ht.upd hw))) ?_
  refine W.p O.mv ?_
  first | refine W.p O.extL ?_ | refine W.p O.ext ?_
  first | refine W.p O.extL ?_ | refine W.p O.ext ?_
  refine W.p O.as ?_
  refine W.p O.as ?_
  refine WL.nil (Q.tn ?_)
  refine CW.seq ?_
  refine CW.seq ?_
  refine CW.region ?_
  refine W.p O.mv ?_
  refine W.q (O.call ⟨rfl, rfl⟩ (AV.cons (vt rfl) (AV.nil)) (fun _ w hw => law0_Num _ w)) ?_
  refine W.p O.neI ?_
  refine W.p O.mv ?_
  refine W.p O.mv ?_
  refine W.q (O.call ⟨rfl, rfl⟩ (AV.cons (vs rfl) (AV.nil)) (fun _ w hw => law0_Num _ w)) ?_
  refine W.p O.neI ?_
  refine W.p O.pkB ?_
  refine WL.nil (Q.tn ?_)
  refine CW.cond (vt rfl) (fun hc3 => ?_) (fun hc3 => ?_)
  · try simp only [sk] at hc3
    refine CW.seq ?_
    refine CW.region ?_
    refine W.p O.mv ?_
    refine W.q (O.call ⟨rfl, rfl⟩ (AV.cons (vt rfl) (AV.nil)) (fun _ w hw => law0_Num _ w)) ?_
    refine W.p O.eqI ?_
    refine W.p O.mv ?_
    refine W.p O.mv ?_
    refine W.p O.eqS ?_
    refine W.p O.pkB ?_
    refine W.p O.as ?_
    refine WL.nil (Q.tn ?_)
    refine CW.ret (Q.tr ?_)
    refine ⟨_, [], (RVs.tmp rfl RVs.nil), List.nil_sublist _, ?_⟩
    refine ⟨congrArg Value.bool ?_, rfl⟩
    rw [rows_no hc3]; simp
  try simp only [sk] at hc3
  refine CW.skip (Q.tn ?_)
  refine CW.seq ?_
  refine CW.region ?_
  refine W.p O.mv ?_
  refine W.p O.mv ?_
  refine W.p O.addS ?_
  refine W.callN (first := []) (cap := []) rfl (vt rfl) (AV.cons (vt rfl) (AV.nil)) (fun w hu => sc_Parse ((showP (us.take (IntKind.i64.wrap (cut % 18446744073709551616 % (((us.length : Int) + 1) % 18446744073709551616))).toNat)).1 ++ (showP (us.drop (IntKind.i64.wrap (cut % 18446744073709551616 % (((us.length : Int) + 1) % 18446744073709551616))).toNat)).1) w (by rw [List.length_append]; omega) (ht.upd hu) (he.upd hu)) ?_; rintro _ _ ⟨o11, c11, p11, rfl, ok11, rfl⟩; have nk11 := ok11.nk (α := Ac) (xs := (parseP ((showP (us.take (IntKind.i64.wrap (cut % 18446744073709551616 % (((us.length : Int) + 1) % 18446744073709551616))).toNat)).1 ++ (showP (us.drop (IntKind.i64.wrap (cut % 18446744073709551616 % (((us.length : Int) + 1) % 18446744073709551616))).toNat)).1)).1)
  refine W.p O.mv ?_
  first | refine W.p O.extL ?_ | refine W.p O.ext ?_
  first | refine W.p O.extL ?_ | refine W.p O.ext ?_
  refine W.p O.as ?_
  refine W.p O.as ?_
  refine WL.nil (Q.tn ?_)
  refine CW.seq ?_
  refine CW.region ?_
  refine W.p O.mv ?_
  refine W.q (O.call ⟨rfl, rfl⟩ (AV.cons (vt rfl) (AV.nil)) (fun _ w hw => law0_Num _ w)) ?_
  refine W.p O.eqI ?_
  refine W.p O.mv ?_
  refine W.p O.mv ?_
  refine W.p O.mv ?_
  refine W.p O.mv ?_
  refine W.p O.addS ?_
  refine W.p O.eqS ?_
  refine W.p O.pkB ?_
  refine W.p O.mv ?_
  refine W.p O.mv ?_
  refine W.q (O.call ⟨rfl, rfl⟩ (AV.cons (vs rfl) (AV.nil)) (fun _ w hw => law0_Num _ w)) ?_
  refine W.p O.eqI ?_
  refine W.p O.pkB ?_
  refine W.p O.mv ?_
  refine W.p O.mv ?_
  refine W.p O.mv ?_
  refine W.q (O.call ⟨rfl, rfl⟩ (AV.cons (vs rfl) (AV.cons (vs rfl) (AV.nil))) (fun _ w hw => sameActs (parseP ((showP (us.take (IntKind.i64.wrap (cut % 18446744073709551616 % (((us.length : Int) + 1) % 18446744073709551616))).toNat)).1 ++ (showP (us.drop (IntKind.i64.wrap (cut % 18446744073709551616 % (((us.length : Int) + 1) % 18446744073709551616))).toNat)).1)).1 us _ _ _ _ w (RowL.h (enc := encA) (xs := (parseP ((showP (us.take (IntKind.i64.wrap (cut % 18446744073709551616 % (((us.length : Int) + 1) % 18446744073709551616))).toNat)).1 ++ (showP (us.drop (IntKind.i64.wrap (cut % 18446744073709551616 % (((us.length : Int) + 1) % 18446744073709551616))).toNat)).1)).1) (a := oa o11) _ hw) (hl.upd (L0 := []) hw) (by have := parseP_len ((showP (us.take (IntKind.i64.wrap (cut % 18446744073709551616 % (((us.length : Int) + 1) % 18446744073709551616))).toNat)).1 ++ (showP (us.drop (IntKind.i64.wrap (cut % 18446744073709551616 % (((us.length : Int) + 1) % 18446744073709551616))).toNat)).1); omega))) ?_
  refine W.p O.pkB ?_
  refine W.p O.as ?_
  refine WL.nil (Q.tn ?_)
  refine CW.ret ?_
  refine ⟨_, [], (RVs.tmp rfl RVs.nil), List.nil_sublist _, ?_⟩
  refine ⟨congrArg Value.bool ?_, rfl⟩
  obtain ⟨e1, e2⟩ := rows_z (k := (IntKind.i64.wrap (cut % 18446744073709551616 % (((us.length : Int) + 1) % 18446744073709551616))).toNat) (by omega) (by omega) hc3.1 hc3.2
  rw [e2, e1]; simp
end Go.Proofs.YtagiajnpnjakhaaDoor
