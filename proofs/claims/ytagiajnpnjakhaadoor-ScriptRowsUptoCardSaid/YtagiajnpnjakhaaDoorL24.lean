/- The statements over package script: the sign of life; Scripts and ScriptBack: their walks. Conditions: what comes in is not longer than a million; the library's table of powers of ten is as its text lays it, its two variables for errors hold errors. -/
import Derived.Test.YtagiajnpnjakhaaDoorScS
import Derived.Test.YtagiajnpnjakhaaDoorLaw0A
set_option linter.unusedVariables false
set_option linter.unusedSimpArgs false
namespace Go.Proofs.YtagiajnpnjakhaaDoor
open Go Go.RowKit
def aw0 : List Ac := [⟨0, [49, 58, 120], 0, 2, 3⟩, ⟨2, [], 5, 0, 0⟩, ⟨3, [], 0, 0, 7⟩]
def awT : List UInt8 := [100, 48, 44, 50, 44, 51, 44, 51, 58, 49, 58, 120, 116, 53, 44, 48, 44, 48, 44, 48, 58, 99, 48, 44, 48, 44, 55, 44, 48, 58]
def aw1 : List Ac := [⟨1, [], 0, 1, 0⟩]
theorem aw_ok : showOk aw0 = true ∧ shows aw0 = awT ∧ showOk aw1 = false ∧ (readP [100]).2.2 = false := by decide +kernel
theorem aw_show : showP aw0 = (awT, 0) := by rw [showP, if_pos aw_ok.1, aw_ok.2.1]
theorem aw_parse : parseP awT = (aw0, 0) := parse_of aw_ok.1 aw_ok.2.1
theorem aw_no : showP aw1 = ([], 2400) := by rw [showP, if_neg (by rw [aw_ok.2.2.1]; decide)]
theorem PrsI.new (s : List UInt8) : PrsI s [] s := ⟨rfl, by simp, by simp [shows]⟩
theorem aw_bad : parseP [100] = ([], 2400) := (PrsI.new [100]).bad (by decide) (.inl aw_ok.2.2.2)
theorem aw0_sz : AsSz aw0 := ⟨by decide, by decide⟩
theorem aw1_sz : AsSz aw1 := ⟨by decide, by decide⟩
set_option maxRecDepth 100000 in
theorem law24_awake (w : World) (ht : Tab10 w) (he : ErrV w) : Fn Tryd.prog 40 [] w [] fun v L' => v = .bool true ∧ L' = [] := by
  have haw : aw0.length = 3 := rfl
  refine Fn.enter Tryd.func40 rfl rfl rfl rfl (Holds.nil w) ?_
  refine CW.seq ?_
  refine CW.region ?_
  refine W.p O.as ?_
  refine WL.nil (Q.tn ?_)
  refine CW.seq ?_
  refine CW.region ?_
  refine W.p (O.bd (hv := PV.cons (vt rfl) (PV.cons (vt rfl) (PV.cons (vt rfl) (PV.nil))))) ?_
  refine W.p (O.bd (hv := PV.cons (vt rfl) (PV.cons (vt rfl) (PV.nil)))) ?_
  refine W.p (O.bd (hv := PV.cons (vt rfl) (PV.cons (vt rfl) (PV.nil)))) ?_
  refine W.bs encA aw0 rfl (PV.cons (vt rfl) (PV.cons (vt rfl) (PV.cons (vt rfl) (PV.nil)))) rfl rfl rfl (by decide) rfl fun b1 => ?_
  refine W.p O.as ?_
  refine WL.nil (Q.tn ?_)
  refine CW.seq ?_
  refine CW.region ?_
  refine W.p O.mv ?_
  refine W.q (O.call ⟨rfl, rfl⟩ (AV.cons (vt rfl) (AV.nil)) (fun _ w hw => sc_Show aw0 _ _ w (RowL.h (enc := encA) (xs := aw0) _ hw) aw0_sz (ht.upd hw))) ?_
  refine W.p O.mv ?_
  first | refine W.p O.extL ?_ | refine W.p O.ext ?_
  first | refine W.p O.extL ?_ | refine W.p O.ext ?_
  refine W.p O.as ?_
  refine W.p O.as ?_
  refine WL.nil (Q.tn ?_)
  refine CW.seq ?_
  refine CW.region ?_
  refine W.p O.mv ?_
  refine W.callN (first := []) (cap := []) rfl (vt rfl) (AV.cons (vt rfl) (AV.nil)) (fun w hu => sc_Parse (showP aw0).1 w (by have := showP_len aw0; omega) (ht.upd hu) (he.upd hu)) ?_; rintro _ _ ⟨o11, c11, p11, rfl, ok11, rfl⟩; have nk11 := ok11.nk (α := Ac) (xs := (parseP (showP aw0).1).1)
  refine W.p O.mv ?_
  first | refine W.p O.extL ?_ | refine W.p O.ext ?_
  first | refine W.p O.extL ?_ | refine W.p O.ext ?_
  refine W.p O.as ?_
  refine W.p O.as ?_
  refine WL.nil (Q.tn ?_)
  refine CW.seq ?_
  refine CW.region ?_
  refine W.callN (first := []) (cap := []) rfl (vt rfl) (AV.cons (vt rfl) (AV.nil)) (fun w hu => sc_Parse [100] w (by decide) (ht.upd hu) (he.upd hu)) ?_; rintro _ _ ⟨o12, c12, p12, rfl, ok12, rfl⟩; have nk12 := ok12.nk (α := Ac) (xs := (parseP [100]).1)
  refine W.p O.mv ?_
  first | refine W.p O.extL ?_ | refine W.p O.ext ?_
  first | refine W.p O.extL ?_ | refine W.p O.ext ?_
  refine W.p O.as ?_
  refine W.p O.as ?_
  refine WL.nil (Q.tn ?_)
  refine CW.seq ?_
  refine CW.region ?_
  refine W.p (O.bd (hv := PV.cons (vt rfl) (PV.cons (vt rfl) (PV.nil)))) ?_
  refine W.bs encA aw1 rfl (PV.cons (vt rfl) (PV.nil)) rfl rfl rfl (by decide) rfl fun b2 => ?_
  refine W.q (O.call ⟨rfl, rfl⟩ (AV.cons (vt rfl) (AV.nil)) (fun _ w hw => sc_Show aw1 _ _ w (RowL.h (enc := encA) (xs := aw1) _ hw) aw1_sz (ht.upd hw))) ?_
  refine W.p O.mv ?_
  first | refine W.p O.extL ?_ | refine W.p O.ext ?_
  first | refine W.p O.extL ?_ | refine W.p O.ext ?_
  refine W.p O.as ?_
  refine W.p O.as ?_
  refine WL.nil (Q.tn ?_)
  refine CW.seq ?_
  refine CW.region ?_
  refine W.p O.mv ?_
  refine W.p O.eqS ?_
  refine W.p O.mv ?_
  refine W.p O.mv ?_
  refine W.q (O.call ⟨rfl, rfl⟩ (AV.cons (vs rfl) (AV.nil)) (fun _ w hw => law0_Num _ w)) ?_
  refine W.p O.eqI ?_
  refine W.p O.pkB ?_
  refine W.p O.mv ?_
  refine W.p O.mv ?_
  refine W.p O.mv ?_
  refine W.q (O.call ⟨rfl, rfl⟩ (AV.cons (vs rfl) (AV.cons (vs rfl) (AV.nil))) (fun _ w hw => sameActs aw0 (parseP (showP aw0).1).1 _ _ _ _ w (RowL.h (enc := encA) (xs := aw0) _ hw) (RowL.h (enc := encA) (xs := (parseP (showP aw0).1).1) (a := oa o11) _ hw) (by decide))) ?_
  refine W.p O.pkB ?_
  refine W.p O.mv ?_
  refine W.p O.mv ?_
  refine W.q (O.call ⟨rfl, rfl⟩ (AV.cons (vs rfl) (AV.nil)) (fun _ w hw => law0_Num _ w)) ?_
  refine W.p O.eqI ?_
  refine W.p O.pkB ?_
  refine W.p O.mv ?_
  refine W.p O.mv ?_
  refine W.q (O.call ⟨rfl, rfl⟩ (AV.cons (vs rfl) (AV.nil)) (fun _ w hw => law0_Num _ w)) ?_
  refine W.p O.eqI ?_
  refine W.p O.pkB ?_
  refine W.p O.mv ?_
  refine W.p O.mv ?_
  refine W.q (O.call ⟨rfl, rfl⟩ (AV.cons (vs rfl) (AV.nil)) (fun _ w hw => law0_Num _ w)) ?_
  refine W.p O.eqI ?_
  refine W.p O.pkB ?_
  refine W.p O.mv ?_
  refine W.p O.mv ?_
  refine W.p O.ixA ?_
  refine W.p O.ldsE ?_
  refine W.q (O.call ⟨rfl, rfl⟩ (AV.cons (vs rfl) (AV.nil)) (fun _ w hw => sc_May _ w (by decide))) ?_
  refine W.p O.pkB ?_
  refine W.p O.as ?_
  refine WL.nil (Q.tn ?_)
  refine CW.ret ?_
  refine ⟨_, [], (RVs.tmp rfl RVs.nil), List.nil_sublist _, ?_⟩
  refine ⟨congrArg Value.bool ?_, rfl⟩
  rw [aw_show, aw_no, aw_bad]; dsimp only; rw [aw_parse]
  decide +kernel
theorem parse_sz (s : List UInt8) : AsSz (parseP s).1 := by
  have hl := parseP_len s
  refine ⟨by omega, fun a ha => ?_⟩
  by_cases h : (parseP s).2 = 0
  · have h1 := (parse_ok h).1
    simp only [showOk, Bool.and_eq_true, List.all_eq_true] at h1
    have := (may_ac (h1.1 a ha)).2.1; omega
  · unfold parseP at h ha
    split at h
    · exact absurd rfl h
    · rename_i hx; rw [dif_neg hx] at ha; cases ha
theorem parse_none {s : List UInt8} (h : (parseP s).2 ≠ 0) : (parseP s).1 = [] := by
  unfold parseP at h ⊢
  split at h
  · exact absurd rfl h
  · rename_i hx; rw [dif_neg hx]
theorem show_back {us : List Ac} (h : (showP us).2 = 0) : parseP (showP us).1 = (us, 0) := by
  unfold showP at h ⊢
  split at h
  · rename_i hq; rw [if_pos hq]; exact parse_of hq rfl
  · exact absurd h (by decide)
theorem parse_back {s : List UInt8} (h : (parseP s).2 = 0) : showP (parseP s).1 = (s, 0) := by
  obtain ⟨h1, h2⟩ := parse_ok h
  rw [showP, if_pos h1, h2]
end Go.Proofs.YtagiajnpnjakhaaDoor
