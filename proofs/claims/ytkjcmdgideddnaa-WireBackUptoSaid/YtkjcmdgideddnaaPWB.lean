/- Plain laws (PWB): lists and numbers alone. No condition. -/
import Derived.Test.YtkjcmdgideddnaaPL3
set_option linter.unusedVariables false
set_option linter.unusedSimpArgs false
namespace Go.Proofs.Ytkjcmdgideddnaa
def WB (s : List UInt8) (ks : List Kn) (ats : List Int) (told : List (List UInt8)) : Prop :=
  Good s ks ∧ ats.length = told.length ∧ (∀ j, j < ats.length → 0 ≤ ats.getD j 0 ∧ ∀ z, getName (s ++ z) (ats.getD j 0) = .ok (told.getD j []) (if j + 1 < ats.length then ats.getD (j + 1) 0 else s.length)) ∧ ∀ t ∈ told, t ≠ [] → kfind ks t ≠ none
theorem wb_new (s : List UInt8) : WB s [] [] [] := ⟨Good.nil s, rfl, fun j h => by simp at h, fun t h => by cases h⟩
theorem kfind_mono {ks : List Kn} (added : List Kn) {t : List UInt8} (h : kfind ks t ≠ none) : kfind (ks ++ added) t = kfind ks t := by
  induction ks with
  | nil => exact absurd rfl h
  | cons k r ih =>
    simp only [List.cons_append, kfind] at h ⊢
    split
    · rfl
    · rename_i hne; rw [if_neg hne] at h; exact ih h
theorem kfind_end (ks : List Kn) (k : Kn) (added : List Kn) : kfind (ks ++ [k] ++ added) k.name ≠ none := by
  induction ks with
  | nil => simp [kfind]
  | cons x r ih =>
    simp only [List.cons_append, kfind]
    split
    · simp
    · simpa using ih
theorem wb_again {s : List UInt8} {ks : List Kn} {ats : List Int} {told : List (List UInt8)} {nm : List UInt8} (h : WB s ks ats told) (h0 : (nmPut s.length ks nm).2.2 = 0) (ha : (told.any fun t => decide (t = nm) && !decide (nm = [])) = true) : (nmPut s.length ks nm).1.length = 2 := by
  obtain ⟨t, ht, h2⟩ := List.any_eq_true.1 ha
  simp only [Bool.and_eq_true, decide_eq_true_eq, Bool.not_eq_true', decide_eq_false_iff_not] at h2
  obtain ⟨rfl, hne⟩ := h2
  have hk := h.2.2.2 t ht hne
  rw [nmPut_ok (nmPut_zero h0).1]
  cases hl : labs t with
  | nil => have := joinD_labs t; rw [hl] at this; exact absurd this.symm hne
  | cons l r =>
    have hj := joinD_labs t
    rw [hl] at hj
    cases hq : kfind ks t with
    | none => exact absurd hq hk
    | some p => rw [putL_hit (by rw [hj]; exact hq)]; rfl
theorem wb_empty {at_ : Int} {ks : List Kn} (h0 : (nmPut at_ ks []).2.2 = 0) : (nmPut at_ ks []).1 = [0] := by
  rw [nmPut_ok (nmPut_zero h0).1]; rfl
theorem wb_pre {s : List UInt8} {ks : List Kn} {ats : List Int} {told : List (List UInt8)} {nm : List UInt8} (h : WB s ks ats told) (h0 : (nmPut s.length ks nm).2.2 = 0) : ∃ added, (nmPut s.length ks nm).2.1 = ks ++ added := (name_back h.1 h0 []).2.2
theorem wb_step {s : List UInt8} {ks : List Kn} {ats : List Int} {told : List (List UInt8)} {nm : List UInt8} (h : WB s ks ats told) (h0 : (nmPut s.length ks nm).2.2 = 0) (hb : s.length < 16384) :
    WB (s ++ (nmPut s.length ks nm).1) (nmPut s.length ks nm).2.1 (ats ++ [(s.length : Int)]) (told ++ [nm]) := by
  obtain ⟨hg, hl, hr, hk⟩ := h
  have hnb := name_back hg h0
  obtain ⟨added, he⟩ := (hnb []).2.2
  refine ⟨(hnb []).2.1, by simp [hl], fun j hj => ?_, fun t ht hne => ?_⟩
  · simp only [List.length_append, List.length_cons, List.length_nil] at hj
    by_cases hlt : j < ats.length
    · have e1 : (ats ++ [(s.length : Int)]).getD j 0 = ats.getD j 0 := by rw [List.getD_eq_getElem?_getD, List.getElem?_append_left hlt, ← List.getD_eq_getElem?_getD]
      have e2 : (told ++ [nm]).getD j [] = told.getD j [] := by rw [List.getD_eq_getElem?_getD, List.getElem?_append_left (by omega), ← List.getD_eq_getElem?_getD]
      rw [e1, e2]
      refine ⟨(hr j hlt).1, fun z => ?_⟩
      rw [List.append_assoc, (hr j hlt).2]
      congr 1
      by_cases h3 : j + 1 < ats.length
      · rw [if_pos h3, if_pos (by simp; omega), List.getD_eq_getElem?_getD, List.getD_eq_getElem?_getD, List.getElem?_append_left h3]
      · rw [if_neg h3, if_pos (by simp; omega), List.getD_eq_getElem?_getD, List.getElem?_append_right (by omega), show j + 1 - ats.length = 0 by omega]; rfl
    · have ej : j = ats.length := by omega
      subst ej
      have e1 : (ats ++ [(s.length : Int)]).getD ats.length 0 = s.length := by rw [List.getD_eq_getElem?_getD, List.getElem?_append_right (by omega), Nat.sub_self]; rfl
      have e2 : (told ++ [nm]).getD ats.length [] = nm := by rw [List.getD_eq_getElem?_getD, List.getElem?_append_right (by omega), hl, Nat.sub_self]; rfl
      rw [e1, e2]
      refine ⟨by omega, fun z => ?_⟩
      rw [(hnb z).1, if_neg (by simp)]
      simp
  · rcases List.mem_append.1 ht with ht | ht
    · rw [he, kfind_mono added (hk t ht hne)]; exact hk t ht hne
    · simp only [List.mem_singleton] at ht
      subst ht
      cases hq : kfind ks t with
      | some p => rw [he, kfind_mono added (by rw [hq]; simp), hq]; simp
      | none =>
        have hc := (nmPut_zero h0).1
        rw [nmPut_ok hc]
        simp only [Bool.and_eq_true] at hc
        have hla := (nmMay_labs hc.2).1
        have hj := joinD_labs t
        cases hls : labs t with
        | nil => rw [hls] at hj; exact absurd hj.symm hne
        | cons l r =>
          rw [hls] at hj hla
          simp only [List.all_cons, Bool.and_eq_true] at hla
          rw [putL_miss (by rw [hj]; exact hq), hj, if_pos (by simp only [List.length_nil]; omega)]
          obtain ⟨a2, e2, _⟩ := putL_more ks s.length r ([] ++ UInt8.ofNat l.length :: l) (ks ++ [⟨t, (s.length : Int) + (([] : List UInt8).length : Nat)⟩]) hla.2
          simp only [e2]
          exact kfind_end ks ⟨t, _⟩ a2
theorem any_step {told : List (List UInt8)} {nm : List UInt8} {j : Int} (h0 : 0 ≤ j) (h1 : j < told.length) : ((told.take (j + 1).toNat).any fun t => decide (t = nm) && !decide (nm = [])) = (((told.take j.toNat).any fun t => decide (t = nm) && !decide (nm = [])) || (decide (told.getD j.toNat [] = nm) && !decide (nm = []))) := by
  have e : (j + 1).toNat = j.toNat + 1 := by omega
  have h : j.toNat < told.length := by omega
  rw [e, List.take_succ_eq_append_getElem h, List.any_append, List.getD_eq_getElem?_getD, List.getElem?_eq_getElem h]
  simp

end Go.Proofs.Ytkjcmdgideddnaa
