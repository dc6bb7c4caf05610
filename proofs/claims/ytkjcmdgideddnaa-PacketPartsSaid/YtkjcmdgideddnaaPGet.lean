/- Plain laws (PGet): lists and numbers alone. No condition. -/
import Derived.Test.YtkjcmdgideddnaaPRr
set_option linter.unusedVariables false
set_option linter.unusedSimpArgs false
namespace Go.Proofs.Ytkjcmdgideddnaa
/-- how far a reading is from its end -/
def measG (s : List UInt8) (g : GS) : Nat := g.row.toNat * (s.length + 2) + (s.length + 1 - g.at_).toNat
theorem measG_row {s : List UInt8} {g g' : GS} (h : g'.row < g.row) (h0 : 0 ≤ g'.row) (h1 : 0 ≤ g'.at_) : measG s g' < measG s g := by
  unfold measG
  have e : g.row.toNat = g'.row.toNat + 1 + (g.row.toNat - g'.row.toNat - 1) := by omega
  have h2 : (s.length + 1 - g'.at_).toNat < s.length + 2 := by omega
  rw [e, Nat.add_mul, Nat.add_mul, Nat.one_mul]
  omega
theorem measG_at {s : List UInt8} {g g' : GS} (h : g'.row = g.row) (h0 : g.at_ < g'.at_) (h1 : g.at_ ≤ s.length) : measG s g' < measG s g := by
  unfold measG; rw [h]; omega
theorem numI_bd : ∀ l : List UInt8, 0 ≤ numI l ∧ numI l < 256 ^ l.length := by
  intro l
  have : ∀ (l : List UInt8) (x : Int), 0 ≤ x → x * 256 ^ l.length ≤ l.foldl (fun x b => x * 256 + (b.toNat : Int)) x ∧ l.foldl (fun x b => x * 256 + (b.toNat : Int)) x < (x + 1) * 256 ^ l.length := by
    intro l
    induction l with
    | nil => intro x h; simp; omega
    | cons b r ih =>
      intro x h
      have hb := b.toNat_lt
      have h2 := ih (x * 256 + (b.toNat : Int)) (by omega)
      have hp : (0 : Int) ≤ 256 ^ r.length := Int.pow_nonneg (by decide)
      simp only [List.foldl_cons, List.length_cons, Int.pow_succ]
      constructor
      · refine Int.le_trans ?_ h2.1
        rw [Int.mul_comm (256 ^ r.length) 256, ← Int.mul_assoc]
        exact Int.mul_le_mul_of_nonneg_right (by omega) hp
      · refine Int.lt_of_lt_of_le h2.2 ?_
        rw [Int.mul_comm (256 ^ r.length) 256, ← Int.mul_assoc]
        exact Int.mul_le_mul_of_nonneg_right (by omega) hp
  have h := this l 0 (by omega)
  simp only [Int.zero_mul, Int.zero_add, Int.one_mul] at h
  exact h
theorem p256 {m n : Nat} (h : m ≤ n) : (256 : Int) ^ m ≤ 256 ^ n := by
  induction h with
  | refl => exact Int.le_refl _
  | @step k _ ih =>
    rw [Int.pow_succ]
    have : (0 : Int) ≤ 256 ^ k := Int.pow_nonneg (by decide)
    omega
theorem numI_7 {l : List UInt8} (h : l.length ≤ 7) : 0 ≤ numI l ∧ numI l < 72057594037927936 := by
  have := numI_bd l
  have h2 : (256 : Int) ^ l.length ≤ 256 ^ 7 := p256 h
  have e : (256 : Int) ^ 7 = 72057594037927936 := by decide
  omega
theorem numI_1 {l : List UInt8} (h : l.length ≤ 1) : 0 ≤ numI l ∧ numI l ≤ 255 := by
  have := numI_bd l
  have h2 : (256 : Int) ^ l.length ≤ 256 ^ 1 := p256 h
  have e : (256 : Int) ^ 1 = 256 := by decide
  omega
theorem numI_one (b : UInt8) : numI [b] = b.toNat := by simp [numI]
def takeR (s : List UInt8) (g : GS) (k : Int) : List UInt8 × Bool × GS := if (s.length : Int) - k < g.at_ then ([], false, g) else (slc s g.at_ (g.at_ + k), true, ⟨g.at_ + k, g.row, g.fin, g.ls⟩)
theorem takeR_len {s : List UInt8} {g : GS} {k : Int} (h0 : 0 ≤ g.at_) (hk : 0 ≤ k) : (takeR s g k).1.length ≤ k.toNat := by
  unfold takeR; split
  · simp
  · simp only [slc, List.length_drop, List.length_take]; omega
theorem takeR_ls (s : List UInt8) (g : GS) (k : Int) : (takeR s g k).2.2.ls = g.ls ∧ (takeR s g k).2.2.row = g.row ∧ (takeR s g k).2.2.fin = g.fin := by
  unfold takeR; split <;> simp
theorem takeR_at {s : List UInt8} {g : GS} {k : Int} (h0 : 0 ≤ g.at_) (hk : 0 ≤ k) : 0 ≤ (takeR s g k).2.2.at_ ∧ g.at_ ≤ (takeR s g k).2.2.at_ := by
  unfold takeR; split <;> simp only <;> omega
def labR (s : List UInt8) (g : GS) (k : Int) : Int × GS :=
  if (takeR s g k).2.1 = false then (301, (takeR s g k).2.2) else
  if labOk (fold (takeR s g k).1) = false ∨ (takeR s g k).2.2.ls.length = 8 then (300, (takeR s g k).2.2) else
  (0, ⟨(takeR s g k).2.2.at_, (takeR s g k).2.2.row, (takeR s g k).2.2.fin, (takeR s g k).2.2.ls ++ [fold (takeR s g k).1]⟩)
def jumR (s : List UInt8) (g : GS) (k : Int) : Int × GS :=
  if (takeR s g 1).2.1 = false then (301, (takeR s g 1).2.2) else
  if (takeR s g 1).2.2.row ≤ k * 256 + numI (takeR s g 1).1 - 49152 then (300, (takeR s g 1).2.2) else
  (0, ⟨k * 256 + numI (takeR s g 1).1 - 49152, k * 256 + numI (takeR s g 1).1 - 49152, if (takeR s g 1).2.2.fin < 0 then (takeR s g 1).2.2.at_ else (takeR s g 1).2.2.fin, (takeR s g 1).2.2.ls⟩)
def stepR (s : List UInt8) (g : GS) : Bool × Int × GS :=
  if (takeR s g 1).2.1 = false then (false, 301, (takeR s g 1).2.2) else
  if numI (takeR s g 1).1 = 0 then (false, 0, (takeR s g 1).2.2) else
  if numI (takeR s g 1).1 ≤ 8 then (true, labR s (takeR s g 1).2.2 (numI (takeR s g 1).1)) else
  if 192 ≤ numI (takeR s g 1).1 then (true, jumR s (takeR s g 1).2.2 (numI (takeR s g 1).1)) else (false, 300, (takeR s g 1).2.2)
theorem slc_one {s : List UInt8} {p : Int} (h0 : 0 ≤ p) (h1 : p < s.length) : slc s p (p + 1) = [s.getD p.toNat 0] := by
  obtain ⟨k, rfl⟩ := Int.eq_ofNat_of_zero_le h0
  have hk : k < s.length := by omega
  have e : ((k : Int) + 1).toNat = k + 1 := by omega
  rw [slc, e, Int.toNat_natCast, List.take_succ_eq_append_getElem hk, List.drop_append, List.drop_eq_nil_of_le (by simp; omega), List.length_take, List.getD_eq_getElem?_getD, List.getElem?_eq_getElem hk]
  simp [Nat.min_eq_left (Nat.le_of_lt hk)]
theorem takeR_1 {s : List UInt8} {g : GS} (h0 : 0 ≤ g.at_) (h1 : g.at_ < s.length) : takeR s g 1 = ([s.getD g.at_.toNat 0], true, ⟨g.at_ + 1, g.row, g.fin, g.ls⟩) := by
  rw [takeR, if_neg (by omega), slc_one h0 h1]
/-- a step of the reading, told both ways -/
theorem stepR_G {s : List UInt8} {g : GS} (h0 : 0 ≤ g.at_) : stepG s g = if (stepR s g).2.1 ≠ 0 then .inl (.err (stepR s g).2.1) else if (stepR s g).1 = true then .inr (stepR s g).2.2 else .inl (.ok (joinD g.ls) (if g.fin < 0 then (stepR s g).2.2.at_ else g.fin)) := by
  by_cases h1 : (s.length : Int) ≤ g.at_
  · have e : takeR s g 1 = ([], false, g) := by rw [takeR, if_pos (by omega)]
    simp [stepG, stepR, h1, e]
  · have e := takeR_1 h0 (show g.at_ < s.length by omega)
    have hb := (s.getD g.at_.toNat 0).toNat_lt
    simp only [stepG, stepR, h1, e, numI_one, if_false, Bool.true_eq_false]
    generalize hk : (s.getD g.at_.toNat 0).toNat = k at *
    by_cases hz : (k : Int) = 0
    · simp [hz]
    · simp only [hz, if_false]
      by_cases h8 : (k : Int) ≤ 8
      · simp only [h8, if_true, labR]
        by_cases hq : (s.length : Int) - k < g.at_ + 1
        · have e2 : takeR s ⟨g.at_ + 1, g.row, g.fin, g.ls⟩ k = ([], false, ⟨g.at_ + 1, g.row, g.fin, g.ls⟩) := by rw [takeR, if_pos hq]
          simp [hq, e2]
        · have e2 : takeR s ⟨g.at_ + 1, g.row, g.fin, g.ls⟩ k = (slc s (g.at_ + 1) (g.at_ + 1 + k), true, ⟨g.at_ + 1 + k, g.row, g.fin, g.ls⟩) := by rw [takeR, if_neg hq]
          simp only [hq, e2, if_false, Bool.true_eq_false]
          by_cases hl : labOk (fold (slc s (g.at_ + 1) (g.at_ + 1 + k))) = false ∨ g.ls.length = 8
          · simp [hl]
          · simp [hl]
      · simp only [h8, if_false]
        by_cases h192 : 192 ≤ (k : Int)
        · simp only [h192, if_true, jumR]
          by_cases hq : (s.length : Int) ≤ g.at_ + 1
          · have e2 : takeR s ⟨g.at_ + 1, g.row, g.fin, g.ls⟩ 1 = ([], false, ⟨g.at_ + 1, g.row, g.fin, g.ls⟩) := by rw [takeR, if_pos (by simp only; omega)]
            simp [hq, e2]
          · have e2 := takeR_1 (s := s) (g := ⟨g.at_ + 1, g.row, g.fin, g.ls⟩) (by simp only; omega) (by simp only; omega)
            simp only [hq, e2, if_false, Bool.true_eq_false, numI_one]
            generalize (s.getD (g.at_ + 1).toNat 0).toNat = m
            by_cases hr : g.row ≤ (k : Int) * 256 + m - 49152
            · simp [hr]
            · simp only [hr, if_false, ne_eq, not_true, if_true]
              rw [show g.at_ + 1 + 1 = g.at_ + 2 by omega]
        · simp [h192]
theorem stepR_at {s : List UInt8} {g : GS} (h0 : 0 ≤ g.at_) : 0 ≤ (stepR s g).2.2.at_ ∧ (stepR s g).2.2.fin = g.fin ∧ (stepR s g).2.2.ls = g.ls ∨ (stepR s g).1 = true ∨ (stepR s g).2.1 ≠ 0 := by
  unfold stepR
  have h := takeR_at (s := s) (k := 1) h0 (by decide)
  have h2 := takeR_ls s g 1
  split
  · simp
  · split
    · exact .inl ⟨h.1, h2.2.2, h2.1⟩
    · split
      · simp
      · split <;> simp
theorem stepG_lt {s : List UInt8} {g g' : GS} (h : stepG s g = .inr g') (h0 : 0 ≤ g.at_) (hl : g.ls.all labOk = true) (h8 : g.ls.length ≤ 8) : measG s g' < measG s g ∧ 0 ≤ g'.at_ ∧ g'.ls.all labOk = true ∧ g'.ls.length ≤ 8 := by
  by_cases h1 : (s.length : Int) ≤ g.at_
  · simp [stepG, h1] at h
  · simp only [stepG, h1, if_false] at h
    generalize (s.getD g.at_.toNat 0).toNat = k at h
    by_cases hz : (k : Int) = 0
    · simp [hz] at h
    · simp only [hz, if_false] at h
      by_cases hk : (k : Int) ≤ 8
      · simp only [hk, if_true] at h
        by_cases hq : (s.length : Int) - k < g.at_ + 1
        · simp [hq] at h
        · simp only [hq, if_false] at h
          by_cases hlab : labOk (fold (slc s (g.at_ + 1) (g.at_ + 1 + k))) = false ∨ g.ls.length = 8
          · simp [hlab] at h
          · simp only [hlab, if_false, Sum.inr.injEq] at h
            subst h
            simp only [not_or, Bool.not_eq_false] at hlab
            refine ⟨measG_at rfl (by simp only; omega) (by omega), by simp only; omega, ?_, ?_⟩
            · simp only [List.all_append, hl, List.all_cons, List.all_nil, Bool.and_true, Bool.true_and]
              exact hlab.1
            · simp only [List.length_append, List.length_cons, List.length_nil]; omega
      · simp only [hk, if_false] at h
        by_cases h192 : 192 ≤ (k : Int)
        · simp only [h192, if_true] at h
          by_cases hq : (s.length : Int) ≤ g.at_ + 1
          · simp [hq] at h
          · simp only [hq, if_false] at h
            generalize (s.getD (g.at_ + 1).toNat 0).toNat = m at h
            by_cases hr : g.row ≤ (k : Int) * 256 + m - 49152
            · simp [hr] at h
            · simp only [hr, if_false, Sum.inr.injEq] at h
              subst h
              exact ⟨measG_row (by simp only; omega) (by simp only; omega) (by simp only; omega), by simp only; omega, hl, h8⟩
        · simp [h192] at h
theorem getF_ok {s : List UInt8} : ∀ (n : Nat) (g : GS), 0 ≤ g.at_ → g.ls.all labOk = true → g.ls.length ≤ 8 → measG s g < n → ∃ r, getF n s g = some r
  | 0, _, _, _, _, h => by omega
  | n + 1, g, h0, hl, h8, h => by
    simp only [getF]
    cases hs : stepG s g with
    | inl r => exact ⟨r, rfl⟩
    | inr g' =>
      obtain ⟨a, b, c, d⟩ := stepG_lt hs h0 hl h8
      exact getF_ok n g' b c d (by omega)
/-- the name at a place -/
def getName (s : List UInt8) (p : Int) : GR := if p < 0 then .err 300 else (getF (measG s (GS.of p) + 1) s (GS.of p)).getD (.err 0)
theorem getName_got (s : List UInt8) {p : Int} (h : 0 ≤ p) : Got s (GS.of p) (getName s p) := by
  obtain ⟨r, hr⟩ := getF_ok (s := s) (measG s (GS.of p) + 1) (GS.of p) h rfl (by simp) (by omega)
  rw [getName, if_neg (by omega), hr]
  exact ⟨_, hr⟩
theorem getName_eq {s : List UInt8} {p : Int} {r : GR} (h : 0 ≤ p) (k : Got s (GS.of p) r) : getName s p = r := (getName_got s h).det k
theorem getName_neg (s : List UInt8) {p : Int} (h : p < 0) : getName s p = .err 300 := if_pos h

theorem ixb_at (c : UInt8) : ∀ (l x : List UInt8), c ∉ l → ixb (l ++ c :: x) c = l.length
  | [], x, _ => by simp [ixb]
  | b :: l, x, h => by
    simp only [List.mem_cons, not_or] at h
    have ih := ixb_at c l x h.2
    simp only [List.cons_append, ixb, ih, List.length_cons]
    rw [if_neg (fun e => h.1 e.symm), if_neg (by omega)]; omega
theorem ixb_no (c : UInt8) : ∀ (l : List UInt8), c ∉ l → ixb l c = -1
  | [], _ => rfl
  | b :: l, h => by
    simp only [List.mem_cons, not_or] at h
    rw [ixb, ixb_no c l h.2, if_neg (fun e => h.1 e.symm), if_pos rfl]
/-- the first label of a name, and the rest -/
theorem cut_join {l : List UInt8} {r : List (List UInt8)} (h : labOk l = true) : (cutB 46 (joinD (l :: r))).1 = l ∧ (cutB 46 (joinD (l :: r))).2.1 = joinD r := by
  have hd := labOk_dot h
  cases r with
  | nil => simp only [joinD, cutB, ixb_no 46 l hd]; exact ⟨rfl, rfl⟩
  | cons m r =>
    rw [joinD_cons l (by simp : m :: r ≠ [])]
    simp only [cutB, ixb_at 46 l _ hd]
    rw [if_pos (by omega)]
    have e : ((l.length : Int) + 1).toNat = l.length + 1 := by omega
    simp only [Int.toNat_natCast, e]
    refine ⟨List.take_left, ?_⟩
    rw [List.drop_append, List.drop_eq_nil_of_le (by omega)]
    simp
def nmPut (at_ : Int) (ks : List Kn) (nm : List UInt8) : List UInt8 × List Kn × Int := match putName at_ ks nm with
  | none => ([], [], 300)
  | some x => (x.1, x.2, 0)
theorem nmPut_bad {at_ : Int} {ks : List Kn} {nm : List UInt8} (h : (ks.all knOk && decide (0 ≤ at_) && decide (at_ ≤ 65535) && nmMay nm) = false) : nmPut at_ ks nm = ([], [], 300) := by
  simp [nmPut, putName, h]
theorem nmPut_ok {at_ : Int} {ks : List Kn} {nm : List UInt8} (h : (ks.all knOk && decide (0 ≤ at_) && decide (at_ ≤ 65535) && nmMay nm) = true) : nmPut at_ ks nm = ((putL ks at_ (labs nm) [] ks).1, (putL ks at_ (labs nm) [] ks).2, 0) := by
  simp only [nmPut, putName, h, if_true]
theorem kfind_ok {ks : List Kn} (h : ks.all knOk = true) {s : List UInt8} {t : Int} (hk : kfind ks s = some t) : 0 ≤ t ∧ t < 16384 := by
  have := List.all_eq_true.1 h _ (kfind_mem hk)
  simp only [knOk, Bool.and_eq_true, decide_eq_true_eq] at this
  exact ⟨this.1.2, this.2⟩
theorem putL_end (ks : List Kn) (at_ : Int) (out : List UInt8) (all : List Kn) : putL ks at_ [] out all = (out ++ [0], all) := rfl
theorem putL_hit {ks : List Kn} {at_ : Int} {l : List UInt8} {r : List (List UInt8)} {out : List UInt8} {all : List Kn} {t : Int} (h : kfind ks (joinD (l :: r)) = some t) : putL ks at_ (l :: r) out all = (out ++ beb (49152 + t) 2, all) := by
  simp only [putL, h]
theorem putL_miss {ks : List Kn} {at_ : Int} {l : List UInt8} {r : List (List UInt8)} {out : List UInt8} {all : List Kn} (h : kfind ks (joinD (l :: r)) = none) : putL ks at_ (l :: r) out all = putL ks at_ r (out ++ UInt8.ofNat l.length :: l) (if at_ + out.length < 16384 then all ++ [⟨joinD (l :: r), at_ + out.length⟩] else all) := by
  simp only [putL, h]

section
variable {s : List UInt8} {p r f : Int} {ls : List (List UInt8)}
theorem sG1 (h : (s.length : Int) ≤ p) : stepG s ⟨p, r, f, ls⟩ = .inl (.err 301) := by simp [stepG, h]
theorem sG2 (h : ¬ (s.length : Int) ≤ p) (hk : ((s.getD p.toNat 0).toNat : Int) = 0) : stepG s ⟨p, r, f, ls⟩ = .inl (.ok (joinD ls) (if f < 0 then p + 1 else f)) := by
  simp only [stepG, h, if_false, hk, if_true]
theorem sG3 (h : ¬ (s.length : Int) ≤ p) (hk : ¬ ((s.getD p.toNat 0).toNat : Int) = 0) (h8 : ((s.getD p.toNat 0).toNat : Int) ≤ 8) (hq : (s.length : Int) - p - 1 < ((s.getD p.toNat 0).toNat : Int)) : stepG s ⟨p, r, f, ls⟩ = .inl (.err 301) := by
  simp only [stepG, h, if_false, hk, h8, if_true]
  rw [if_pos (by omega)]
theorem sG4 (h : ¬ (s.length : Int) ≤ p) (hk : ¬ ((s.getD p.toNat 0).toNat : Int) = 0) (h8 : ((s.getD p.toNat 0).toNat : Int) ≤ 8) (hq : ¬ (s.length : Int) - p - 1 < ((s.getD p.toNat 0).toNat : Int)) (hl : labOk (fold (slc s (p + 1) (p + 1 + ((s.getD p.toNat 0).toNat : Int)))) = false ∨ ls.length = 8) : stepG s ⟨p, r, f, ls⟩ = .inl (.err 300) := by
  simp only [stepG, h, if_false, hk, h8, if_true]
  rw [if_neg (by omega), if_pos hl]
theorem sG5 (h : ¬ (s.length : Int) ≤ p) (hk : ¬ ((s.getD p.toNat 0).toNat : Int) = 0) (h8 : ((s.getD p.toNat 0).toNat : Int) ≤ 8) (hq : ¬ (s.length : Int) - p - 1 < ((s.getD p.toNat 0).toNat : Int)) (hl : ¬ (labOk (fold (slc s (p + 1) (p + 1 + ((s.getD p.toNat 0).toNat : Int)))) = false ∨ ls.length = 8)) : stepG s ⟨p, r, f, ls⟩ = .inr ⟨p + 1 + ((s.getD p.toNat 0).toNat : Int), r, f, ls ++ [fold (slc s (p + 1) (p + 1 + ((s.getD p.toNat 0).toNat : Int)))]⟩ := by
  simp only [stepG, h, if_false, hk, h8, if_true]
  rw [if_neg (by omega), if_neg hl]
theorem sG6 (h : ¬ (s.length : Int) ≤ p) (hk : ¬ ((s.getD p.toNat 0).toNat : Int) = 0) (h8 : ¬ ((s.getD p.toNat 0).toNat : Int) ≤ 8) (h9 : 192 ≤ ((s.getD p.toNat 0).toNat : Int)) (hq : (s.length : Int) - p < 2) : stepG s ⟨p, r, f, ls⟩ = .inl (.err 301) := by
  simp only [stepG, h, if_false, hk, h8, h9, if_true]
  rw [if_pos (by omega)]
theorem sG7 (h : ¬ (s.length : Int) ≤ p) (hk : ¬ ((s.getD p.toNat 0).toNat : Int) = 0) (h8 : ¬ ((s.getD p.toNat 0).toNat : Int) ≤ 8) (h9 : 192 ≤ ((s.getD p.toNat 0).toNat : Int)) (hq : ¬ (s.length : Int) - p < 2) (ht : r ≤ ((s.getD p.toNat 0).toNat : Int) * 256 + ((s.getD (p + 1).toNat 0).toNat : Int) - 49152) : stepG s ⟨p, r, f, ls⟩ = .inl (.err 300) := by
  simp only [stepG, h, if_false, hk, h8, h9, if_true]
  rw [if_neg (by omega), if_pos ht]
theorem sG8 (h : ¬ (s.length : Int) ≤ p) (hk : ¬ ((s.getD p.toNat 0).toNat : Int) = 0) (h8 : ¬ ((s.getD p.toNat 0).toNat : Int) ≤ 8) (h9 : 192 ≤ ((s.getD p.toNat 0).toNat : Int)) (hq : ¬ (s.length : Int) - p < 2) (ht : ¬ r ≤ ((s.getD p.toNat 0).toNat : Int) * 256 + ((s.getD (p + 1).toNat 0).toNat : Int) - 49152) : stepG s ⟨p, r, f, ls⟩ = .inr ⟨((s.getD p.toNat 0).toNat : Int) * 256 + ((s.getD (p + 1).toNat 0).toNat : Int) - 49152, ((s.getD p.toNat 0).toNat : Int) * 256 + ((s.getD (p + 1).toNat 0).toNat : Int) - 49152, if f < 0 then p + 2 else f, ls⟩ := by
  simp only [stepG, h, if_false, hk, h8, h9, if_true]
  rw [if_neg (by omega), if_neg ht]
theorem sG9 (h : ¬ (s.length : Int) ≤ p) (hk : ¬ ((s.getD p.toNat 0).toNat : Int) = 0) (h8 : ¬ ((s.getD p.toNat 0).toNat : Int) ≤ 8) (h9 : ¬ 192 ≤ ((s.getD p.toNat 0).toNat : Int)) : stepG s ⟨p, r, f, ls⟩ = .inl (.err 300) := by
  simp only [stepG, h, if_false, hk, h8, h9]
end
theorem isL_iff (b : UInt8) : isL b = true ↔ (97 ≤ b.toNat ∧ b.toNat ≤ 122) ∨ (48 ≤ b.toNat ∧ b.toNat ≤ 57) ∨ b.toNat = 45 := by
  simp [isL, or_assoc]
theorem split_mem_len : ∀ {s l : List UInt8}, l ∈ split s → l.length ≤ s.length := by
  intro s l h
  have : ∀ {ls : List (List UInt8)}, l ∈ ls → l.length ≤ (joinD ls).length := by
    intro ls
    induction ls with
    | nil => intro h; simp at h
    | cons x r ih =>
      intro h
      cases r with
      | nil => simp at h; subst h; simp [joinD]
      | cons y r =>
        rw [joinD_cons x (by simp), List.length_append, List.length_cons]
        rcases List.mem_cons.1 h with rfl | h
        · omega
        · have := ih h; omega
  have h2 := this h
  rwa [join_split] at h2
theorem split_len (s : List UInt8) : (split s).length ≤ s.length + 1 := by
  induction s with
  | nil => simp [split]
  | cons c r ih =>
    simp only [split]
    split
    · simp; omega
    · split
      · simp
      · rename_i h; rw [h] at ih; simp at ih ⊢; omega
/-- a text, cut: the parts ahead of a place -/
def PartsI (s : List UInt8) (i fr : Int) (out : List (List UInt8)) : Prop :=
  (i ≤ s.length ∧ (46 : UInt8) ∉ slc s fr i ∧ split s = out ++ split (s.drop fr.toNat)) ∨ (i = s.length + 1 ∧ split s = out)
theorem partsI_new (s : List UInt8) : PartsI s 0 0 [] := .inl ⟨by omega, by simp [slc], by simp⟩
theorem partsI_end {s : List UInt8} {i fr : Int} {out : List (List UInt8)} (h : PartsI s i fr out) (hi : ¬ i ≤ s.length) : split s = out := by
  rcases h with h | h
  · omega
  · exact h.2
theorem drop_slc {s : List UInt8} {i fr : Int} (h0 : 0 ≤ fr) (h1 : fr ≤ i) (h2 : i < s.length) : s.drop fr.toNat = slc s fr i ++ s.getD i.toNat 0 :: s.drop (i + 1).toNat := by
  have e : (i + 1).toNat = i.toNat + 1 := by omega
  have hi : i.toNat < s.length := by omega
  rw [slc, e, List.getD_eq_getElem?_getD, List.getElem?_eq_getElem hi, Option.getD_some, ← List.drop_eq_getElem_cons hi]
  conv => lhs; rw [← List.take_append_drop i.toNat s, List.drop_append_of_le_length (by rw [List.length_take]; omega)]
theorem slc_end {s : List UInt8} {fr : Int} (_ : 0 ≤ fr) : slc s fr s.length = s.drop fr.toNat := by rw [slc, Int.toNat_natCast, List.take_length]
theorem slc_more {s : List UInt8} {i fr : Int} (h0 : 0 ≤ fr) (h1 : fr ≤ i) (h2 : i < s.length) : slc s fr (i + 1) = slc s fr i ++ [s.getD i.toNat 0] := by
  have e : (i + 1).toNat = i.toNat + 1 := by omega
  have hi : i.toNat < s.length := by omega
  rw [slc, slc, e, List.take_succ_eq_append_getElem hi, List.drop_append_of_le_length (by rw [List.length_take]; omega), List.getD_eq_getElem?_getD, List.getElem?_eq_getElem hi]; rfl
theorem partsI_cut {s : List UInt8} {i fr : Int} {out : List (List UInt8)} (h : PartsI s i fr out) (h0 : 0 ≤ fr) (h1 : fr ≤ i) (h2 : i ≤ s.length) (hc : i = s.length ∨ s.getD i.toNat 0 = 46) : PartsI s (i + 1) (i + 1) (out ++ [slc s fr i]) := by
  rcases h with ⟨_, a, b⟩ | h
  · by_cases hi : i = s.length
    · refine .inr ⟨by omega, ?_⟩
      subst hi
      rw [slc_end h0] at a ⊢
      rw [b, split_none _ a]
    · have hd : s.getD i.toNat 0 = 46 := by rcases hc with h | h; exact absurd h hi; exact h
      refine .inl ⟨by omega, by simp [slc, List.drop_eq_nil_of_le], ?_⟩
      rw [b, drop_slc h0 h1 (by omega), hd, split_cons _ _ a]; simp
  · omega
theorem partsI_go {s : List UInt8} {i fr : Int} {out : List (List UInt8)} (h : PartsI s i fr out) (h0 : 0 ≤ fr) (h1 : fr ≤ i) (h2 : i < s.length) (hc : s.getD i.toNat 0 ≠ 46) : PartsI s (i + 1) fr out := by
  rcases h with ⟨_, a, b⟩ | h
  · refine .inl ⟨by omega, ?_, b⟩
    rw [slc_more h0 h1 h2]
    simp only [List.mem_append, List.mem_singleton, not_or]
    exact ⟨a, fun e => hc e.symm⟩
  · omega
/-- names added to the known ones are longer than what is looked for -/
theorem kfind_long {s : List UInt8} : ∀ (ks : List Kn) {added : List Kn}, (∀ k ∈ added, s.length < k.name.length) → kfind (ks ++ added) s = kfind ks s
  | [], added, h => by
    induction added with
    | nil => rfl
    | cons k r ih =>
      have h1 := h k (by simp)
      have : k.name ≠ s := fun e => by rw [e] at h1; omega
      simp only [List.nil_append, kfind, this, if_false]
      simpa [kfind] using ih (fun k hk => h k (by simp [hk]))
  | k :: r, added, h => by simp only [List.cons_append, kfind, kfind_long r h]

theorem joinD_app {ls : List (List UInt8)} (h : ls ≠ []) (x : List UInt8) : joinD (ls ++ [x]) = joinD ls ++ [46] ++ x := by
  rw [← joinB_dot, ← joinB_dot, joinB_app 46 h]
theorem joinD_nil {ls : List (List UInt8)} (h : ls.all labOk = true) (e : joinD ls = []) : ls = [] := by
  by_cases hn : ls = []
  · exact hn
  · exact absurd e (joinD_ne hn h)
theorem rest_join {l : List UInt8} {r : List (List UInt8)} {left : List UInt8} (h : left = joinD (l :: r)) : left.drop (min ((l.length : Int) + 1) (left.length : Int)).toNat = joinD r := by
  subst h
  cases r with
  | nil =>
    simp only [joinD]
    rw [show (min ((l.length : Int) + 1) (l.length : Int)).toNat = l.length by omega, List.drop_length]
  | cons m r =>
    rw [joinD_cons l (by simp : m :: r ≠ [])]
    have e : (min ((l.length : Int) + 1) ((l ++ 46 :: joinD (m :: r)).length : Int)).toNat = l.length + 1 := by simp only [List.length_append, List.length_cons]; omega
    rw [e, List.drop_append, List.drop_eq_nil_of_le (by omega)]
    simp
theorem join_lt {l : List UInt8} {r : List (List UInt8)} (h : labOk l = true) : (joinD r).length < (joinD (l :: r)).length := by
  have := (labOk_len h).1
  cases r with
  | nil => simp only [joinD, List.length_nil]; omega
  | cons m r => rw [joinD_cons l (by simp : m :: r ≠ []), List.length_append, List.length_cons]; omega

def grN : GR → List UInt8
  | .err _ => []
  | .ok nm _ => nm
def grT : GR → Int
  | .err _ => 0
  | .ok _ to => to
def grE : GR → Int
  | .err e => e
  | .ok _ _ => 0
theorem putL_more (ks : List Kn) (at_ : Int) : ∀ (ls : List (List UInt8)) (out : List UInt8) (all : List Kn), ls.all labOk = true →
    ∃ added, (putL ks at_ ls out all).2 = all ++ added ∧ added.length ≤ ls.length ∧ (∀ k ∈ added, k.name.length ≤ 9 * ls.length) ∧ (putL ks at_ ls out all).1.length ≤ out.length + 9 * ls.length + 2
  | [], out, all, _ => ⟨[], by simp [putL]⟩
  | l :: r, out, all, h => by
    have hj := joinD_len h
    have h2 := h
    simp only [List.all_cons, Bool.and_eq_true] at h
    have hl := labOk_len h.1
    cases hk : kfind ks (joinD (l :: r)) with
    | some t =>
      rw [putL_hit hk]
      refine ⟨[], by simp, by simp, by simp, ?_⟩
      have : (beb (49152 + t) 2).length = 2 := rfl
      simp only [List.length_append, this, List.length_cons]; omega
    | none =>
      rw [putL_miss hk]
      obtain ⟨added, e1, e2, e3, e4⟩ := putL_more ks at_ r (out ++ UInt8.ofNat l.length :: l) (if at_ + out.length < 16384 then all ++ [⟨joinD (l :: r), at_ + out.length⟩] else all) h.2
      simp only [List.length_append, List.length_cons] at e4 hj ⊢
      by_cases hp : at_ + out.length < 16384
      · rw [if_pos hp] at e1 ⊢
        refine ⟨⟨joinD (l :: r), at_ + out.length⟩ :: added, by rw [e1]; simp, by simp only [List.length_cons]; omega, ?_, ?_⟩
        · intro k hk2
          rcases List.mem_cons.1 hk2 with rfl | hk2
          · simp only; omega
          · have := e3 k hk2; omega
        · rw [if_pos hp] at e4; omega
      · rw [if_neg hp] at e1 ⊢
        refine ⟨added, e1, by omega, fun k hk2 => by have := e3 k hk2; omega, ?_⟩
        rw [if_neg hp] at e4; omega
theorem nmPut_more (at_ : Int) (ks : List Kn) (nm : List UInt8) : (nmPut at_ ks nm).1.length ≤ 74 ∧ (nmPut at_ ks nm).2.1.length ≤ ks.length + 8 ∧ ∀ k ∈ (nmPut at_ ks nm).2.1, k ∈ ks ∨ k.name.length ≤ 72 := by
  by_cases h : (ks.all knOk && decide (0 ≤ at_) && decide (at_ ≤ 65535) && nmMay nm) = true
  · rw [nmPut_ok h]
    simp only [Bool.and_eq_true] at h
    obtain ⟨hl, h8⟩ := nmMay_labs h.2
    obtain ⟨added, e1, e2, e3, e4⟩ := putL_more ks at_ (labs nm) [] ks hl
    simp only [List.length_nil] at e4
    refine ⟨by simp only; omega, by simp only [e1, List.length_append]; omega, ?_⟩
    simp only [e1]
    intro k hk
    rcases List.mem_append.1 hk with hk | hk
    · exact .inl hk
    · have := e3 k hk; exact .inr (by omega)
  · rw [nmPut_bad (by simpa using h)]
    exact ⟨by simp, by simp, by simp⟩

end Go.Proofs.Ytkjcmdgideddnaa
