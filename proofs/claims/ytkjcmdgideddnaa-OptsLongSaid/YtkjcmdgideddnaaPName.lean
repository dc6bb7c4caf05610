/- Plain laws (PName): lists and numbers alone. No condition. -/
set_option linter.unusedVariables false
set_option linter.unusedSimpArgs false
namespace Go.Proofs.Ytkjcmdgideddnaa
def isL (b : UInt8) : Bool := (decide (97 ≤ b.toNat) && decide (b.toNat ≤ 122)) || (decide (48 ≤ b.toNat) && decide (b.toNat ≤ 57)) || decide (b.toNat = 45)
def labOk (l : List UInt8) : Bool := l.all isL && decide (1 ≤ l.length) && decide (l.length ≤ 8)
def split : List UInt8 → List (List UInt8)
  | [] => [[]]
  | c :: r => if c = 46 then [] :: split r else match split r with
    | [] => [[c]]
    | l :: ls => (c :: l) :: ls
def joinD : List (List UInt8) → List UInt8
  | [] => []
  | [l] => l
  | l :: m :: r => l ++ 46 :: joinD (m :: r)
def nmMay (s : List UInt8) : Bool := decide (s = []) || ((split s).all labOk && decide ((split s).length ≤ 8))
def lower (b : UInt8) : UInt8 := if 65 ≤ b.toNat ∧ b.toNat ≤ 90 then b + 32 else b
def fold (s : List UInt8) : List UInt8 := s.map lower
theorem split_ne (s : List UInt8) : split s ≠ [] := by
  cases s with
  | nil => simp [split]
  | cons c r =>
    simp only [split]
    split
    · simp
    · split <;> simp
theorem split_none : ∀ (s : List UInt8), (46 : UInt8) ∉ s → split s = [s]
  | [], _ => rfl
  | c :: r, h => by
    simp only [List.mem_cons, not_or] at h
    simp only [split, if_neg (Ne.symm h.1), split_none r h.2]
theorem split_cons : ∀ (a r : List UInt8), (46 : UInt8) ∉ a → split (a ++ 46 :: r) = a :: split r
  | [], r, _ => by simp [split]
  | c :: a, r, h => by
    simp only [List.mem_cons, not_or] at h
    simp only [List.cons_append, split, if_neg (Ne.symm h.1), split_cons a r h.2]
theorem joinD_cons (l : List UInt8) {r : List (List UInt8)} (h : r ≠ []) : joinD (l :: r) = l ++ 46 :: joinD r := by
  cases r with
  | nil => exact absurd rfl h
  | cons m r => rfl
theorem split_join : ∀ (ls : List (List UInt8)), ls ≠ [] → (∀ l ∈ ls, (46 : UInt8) ∉ l) → split (joinD ls) = ls
  | [], h, _ => absurd rfl h
  | [l], _, h => split_none l (h l (by simp))
  | l :: m :: r, _, h => by
    rw [joinD_cons l (by simp), split_cons _ _ (h l (by simp)), split_join (m :: r) (by simp) (fun x hx => h x (by simp only [List.mem_cons] at hx ⊢; exact .inr hx))]
theorem join_split : ∀ (s : List UInt8), joinD (split s) = s
  | [] => rfl
  | c :: r => by
    have ih := join_split r
    simp only [split]
    split
    · rename_i h; subst h; rw [joinD_cons [] (split_ne r), ih]; rfl
    · split
      · rename_i e; exact absurd e (split_ne r)
      · rename_i l ls e
        rw [e] at ih
        cases ls with
        | nil => simp only [joinD] at ih ⊢; rw [ih]
        | cons m ms => rw [joinD_cons _ (by simp)] at ih ⊢; rw [← ih]; rfl
theorem isL_dot : isL 46 = false := by decide
theorem labOk_dot {l : List UInt8} (h : labOk l = true) : (46 : UInt8) ∉ l := by
  simp only [labOk, Bool.and_eq_true, List.all_eq_true] at h
  intro hm
  have := h.1.1 _ hm
  rw [isL_dot] at this; cases this
theorem labOk_ne {l : List UInt8} (h : labOk l = true) : l ≠ [] := by
  simp only [labOk, Bool.and_eq_true, decide_eq_true_eq] at h
  intro e; subst e; simp at h
theorem labOk_len {l : List UInt8} (h : labOk l = true) : 1 ≤ l.length ∧ l.length ≤ 8 := by
  simp only [labOk, Bool.and_eq_true, decide_eq_true_eq] at h
  exact ⟨h.1.2, h.2⟩
theorem lower_isL {b : UInt8} (h : isL b = true) : lower b = b := by
  unfold lower
  rw [if_neg]
  simp only [isL, Bool.or_eq_true, Bool.and_eq_true, decide_eq_true_eq] at h
  omega
theorem fold_ok {l : List UInt8} (h : labOk l = true) : fold l = l := by
  simp only [labOk, Bool.and_eq_true, List.all_eq_true] at h
  unfold fold
  conv => rhs; rw [← List.map_id l]
  exact List.map_congr_left fun b hb => lower_isL (h.1.1 b hb)
/-- a name's labels -/
def labs (s : List UInt8) : List (List UInt8) := if s = [] then [] else split s
theorem joinD_labs (s : List UInt8) : joinD (labs s) = s := by
  unfold labs; split
  · rename_i h; rw [h]; rfl
  · exact join_split s
theorem nmMay_labs {s : List UInt8} (h : nmMay s = true) : (labs s).all labOk = true ∧ (labs s).length ≤ 8 := by
  unfold labs
  simp only [nmMay, Bool.or_eq_true, decide_eq_true_eq, Bool.and_eq_true] at h
  split
  · simp
  · rename_i hs; exact (h.resolve_left hs)
theorem joinD_ne {ls : List (List UInt8)} (h : ls ≠ []) (h1 : ls.all labOk = true) : joinD ls ≠ [] := by
  cases ls with
  | nil => exact absurd rfl h
  | cons l r =>
    simp only [List.all_cons, Bool.and_eq_true] at h1
    have hl := labOk_ne h1.1
    cases r with
    | nil => exact hl
    | cons m r => simp [joinD, hl]
theorem labs_join {ls : List (List UInt8)} (h1 : ls.all labOk = true) : labs (joinD ls) = ls := by
  cases ls with
  | nil => rfl
  | cons l r =>
    unfold labs
    rw [if_neg (joinD_ne (by simp) h1), split_join _ (by simp)]
    intro x hx
    exact labOk_dot (List.all_eq_true.1 h1 x hx)
theorem nmMay_join {ls : List (List UInt8)} (h1 : ls.all labOk = true) (h2 : ls.length ≤ 8) : nmMay (joinD ls) = true := by
  cases ls with
  | nil => rfl
  | cons l r =>
    have := labs_join h1
    unfold labs at this
    rw [if_neg (joinD_ne (by simp) h1)] at this
    simp only [nmMay, this, h1, h2, decide_true, Bool.and_true, Bool.or_true]
theorem joinD_len : ∀ {ls : List (List UInt8)}, ls.all labOk = true → ls.length ≤ (joinD ls).length ∧ (joinD ls).length ≤ 9 * ls.length
  | [], _ => by simp [joinD]
  | [l], h => by
    simp only [List.all_cons, Bool.and_eq_true] at h
    have := labOk_len h.1
    simp [joinD]; omega
  | l :: m :: r, h => by
    have h' := h
    simp only [List.all_cons, Bool.and_eq_true] at h
    have := labOk_len h.1
    have ih := joinD_len (ls := m :: r) (by simp only [List.all_cons, Bool.and_eq_true]; exact h.2)
    rw [joinD_cons l (by simp)]
    simp only [List.length_append, List.length_cons] at *
    omega
theorem nmMay_len {s : List UInt8} (h : nmMay s = true) : s.length ≤ 72 := by
  have h1 := nmMay_labs h
  have := (joinD_len h1.1).2
  rw [joinD_labs] at this
  omega

end Go.Proofs.Ytkjcmdgideddnaa
