/- Plain laws (PName): lists and numbers alone. No condition. -/
set_option linter.unusedVariables false
set_option linter.unusedSimpArgs false
namespace Go.Proofs.Ytkjcmdgideddnaa
def isL (b : UInt8) : Bool := (decide (97 ≤ b.toNat) && decide (b.toNat ≤ 122)) || (decide (48 ≤ b.toNat) && decide (b.toNat ≤ 57)) || decide (b.toNat = 45)
def labOk (l : List UInt8) : Bool := l.all isL && decide (1 ≤ l.length) && decide (l.length ≤ 8)
def split : List UInt8 → List (List UInt8)
  | [] => [[]]
  | c :: r => if c = 46 then [] :: split r else match split r with
    | [] => [[c]]
    | l :: ls => (c :: l) :: ls
def joinD : List (List UInt8) → List UInt8
  | [] => []
  | [l] => l
  | l :: m :: r => l ++ 46 :: joinD (m :: r)
def nmMay (s : List UInt8) : Bool := decide (s = []) || ((split s).all labOk && decide ((split s).length ≤ 8))
def lower (b : UInt8) : UInt8 := if 65 ≤ b.toNat ∧ b.toNat ≤ 90 then b + 32 else b
def fold (s : List UInt8) : List UInt8 := s.map lower
theorem split_ne (s : List UInt8) : split s ≠ [] := by
  cases s with
  | nil => simp [split]
  | cons c r =>
    simp only [split]
    split
    · simp
    · split <;> simp
theorem split_none : ∀ (s : List UInt8), (46 : UInt8) ∉ s → split s = [s]
  | [], _ => rfl
  | c :: r, h => by
    simp only [List.mem_cons, not_or] at h
    simp only [split, if_neg (Ne.symm h.1), split_none r h.2]
theorem split_cons : ∀ (a r : List UInt8), (46 : UInt8) ∉ a → split (a ++ 46 :: r) = a :: split r
  | [], r, _ => by simp [split]
  | c :: a, r, h => by
    simp only [List.mem_cons, not_or] at h
    simp only [List.cons_append, split, if_neg (Ne.symm h.1), split_cons a r h.2]
theorem joinD_cons (l : List UInt8) {r : List (List UInt8)} (h : r ≠ []) : joinD (l :: r) = l ++ 46 :: joinD r := by
  cases r with
  | nil => exact absurd rfl h
  | cons m r => rfl
theorem split_join : ∀ (ls : List (List UInt8)), ls ≠ [] → (∀ l ∈ ls, (46 : UInt8) ∉ l) → split (joinD ls) = ls
  | [], h, _ => absurd rfl h
  | [l], _, h => split_none l (h l (by simp))
  | l :: m :: r, _, h => by
    rw [joinD_cons l (by simp), split_cons _ _ (h l (by simp)), split_join (m :: r) (by simp) (fun x hx => h x (by simp only [List.mem_cons] at hx ⊢; exact .inr hx))]
theorem join_split : ∀ (s : List UInt8), joinD (split s) = s
  | [] => rfl
  | c :: r => by
    have ih := join_split r
    simp only [split]
    split
    · rename_i h; subst h; rw [joinD_cons [] (split_ne r), ih]; rfl
    · split
      · rename_i e; exact absurd e (split_ne r)
      · rename_i l ls e
        rw [e] at ih
        cases ls with
        | nil => simp only [joinD] at ih ⊢; rw [ih]
        | cons m ms => rw [joinD_cons _ (by simp)] at ih ⊢; rw [← ih]; rfl
theorem isL_dot : isL 46 = false := by decide
theorem labOk_dot {l : List UInt8} (h : labOk l = true) : (46 : UInt8) ∉ l := by
  simp only [labOk, Bool.and_eq_true, List.all_eq_true] at h
  intro hm
  have := h.1.1 _ hm
  rw [isL_dot] at this; cases this
theorem labOk_ne {l : List UInt8} (h : labOk l = true) : l ≠ [] := by
  simp only [labOk, Bool.and_eq_true, decide_eq_true_eq] at h
  intro e; subst e; simp at h
theorem labOk_len {l : List UInt8} (h : labOk l = true) : 1 ≤ l.length ∧ l.length ≤ 8 := by
  simp only [labOk, Bool.and_eq_true, decide_eq_true_eq] at h
  exact ⟨h.1.2, h.2⟩
theorem lower_isL {b : UInt8} (h : isL b = true) : lower b = b := by
  unfold lower
  rw [if_neg]
  simp only [isL, Bool.or_eq_true, Bool.and_eq_true, decide_eq_true_eq] at h
  omega
theorem fold_ok {l : List UInt8} (h : labOk l = true) : fold l = l := by
  simp only [labOk, Bool.and_eq_true, List.all_eq_true] at h
  unfold fold
  conv => rhs; rw [← List.map_id l]
  exact List.map_congr_left fun b hb => lower_isL (h.1.1 b hb)
/-- a name's labels -/
def labs (s : List UInt8) : List (List UInt8) := if s = [] then [] else split s
theorem joinD_labs (s : List UInt8) : joinD (labs s) = s := by
  unfold labs; split
  · rename_i h; rw [h]; rfl
  · exact join_split s
theorem nmMay_labs {s : List UInt8} (h : nmMay s = true) : (labs s).all labOk = true ∧ (labs s).length ≤ 8 := by
  unfold labs
  simp only [nmMay, Bool.or_eq_true, decide_eq_true_eq, Bool.and_eq_true] at h
  split
  · simp
  · rename_i hs; exact (h.resolve_left hs)
theorem joinD_ne {ls : List (List UInt8)} (h : ls ≠ []) (h1 : ls.all labOk = true) : joinD ls ≠ [] := by
  cases ls with
  | nil => exact absurd rfl h
  | cons l r =>
    simp only [List.all_cons, Bool.and_eq_true] at h1
    have hl := labOk_ne h1.1
    cases r with
    | nil => exact hl
    | cons m r => simp [joinD, hl]
theorem labs_join {ls : List (List UInt8)} (h1 : ls.all labOk = true) : labs (joinD ls) = ls := by
  cases ls with
  | nil => rfl
  | cons l r =>
    unfold labs
    rw [if_neg (joinD_ne (by simp) h1), split_join _ (by simp)]
    intro x hx
    exact labOk_dot (List.all_eq_true.1 h1 x hx)
theorem nmMay_join {ls : List (List UInt8)} (h1 : ls.all labOk = true) (h2 : ls.length ≤ 8) : nmMay (joinD ls) = true := by
  cases ls with
  | nil => rfl
  | cons l r =>
    have := labs_join h1
    unfold labs at this
    rw [if_neg (joinD_ne (by simp) h1)] at this
    simp only [nmMay, this, h1, h2, decide_true, Bool.and_true, Bool.or_true]
theorem joinD_len : ∀ {ls : List (List UInt8)}, ls.all labOk = true → ls.length ≤ (joinD ls).length ∧ (joinD ls).length ≤ 9 * ls.length
  | [], _ => by simp [joinD]
  | [l], h => by
    simp only [List.all_cons, Bool.and_eq_true] at h
    have := labOk_len h.1
    simp [joinD]; omega
  | l :: m :: r, h => by
    have h' := h
    simp only [List.all_cons, Bool.and_eq_true] at h
    have := labOk_len h.1
    have ih := joinD_len (ls := m :: r) (by simp only [List.all_cons, Bool.and_eq_true]; exact h.2)
    rw [joinD_cons l (by simp)]
    simp only [List.length_append, List.length_cons] at *
    omega
theorem nmMay_len {s : List UInt8} (h : nmMay s = true) : s.length ≤ 72 := by
  have h1 := nmMay_labs h
  have := (joinD_len h1.1).2
  rw [joinD_labs] at this
  omega

/-- the first place of a byte, -1 where there is none -/
def ixb : List UInt8 → UInt8 → Int
  | [], _ => -1
  | b :: l, c => if b = c then 0 else if ixb l c = -1 then -1 else ixb l c + 1
theorem ixb_lo (c : UInt8) : ∀ (s : List UInt8), -1 ≤ ixb s c
  | [] => by simp [ixb]
  | b :: l => by simp only [ixb]; have := ixb_lo c l; split <;> (try split) <;> omega
theorem ixb_hi (c : UInt8) : ∀ (s : List UInt8), ixb s c < s.length
  | [] => by simp [ixb]
  | b :: l => by simp only [ixb, List.length_cons]; have := ixb_hi c l; split <;> (try split) <;> omega
/-- what stands ahead of the first such byte, what behind it, was there one -/
def cutB (c : UInt8) (s : List UInt8) : List UInt8 × List UInt8 × Bool :=
  if 0 ≤ ixb s c then (s.take (ixb s c).toNat, s.drop ((ixb s c) + 1).toNat, true) else (s, [], false)
theorem ixb_none (c : UInt8) : ∀ {s : List UInt8}, ixb s c < 0 → c ∉ s
  | [], _ => by simp
  | b :: l, h => by
    simp only [ixb] at h
    have := ixb_lo c l
    by_cases hb : b = c
    · simp [hb] at h
    · simp only [hb, if_false] at h
      have h2 : ixb l c < 0 := by split at h <;> omega
      have := ixb_none c h2
      simp only [List.mem_cons, not_or]
      exact ⟨fun e => hb e.symm, this⟩
theorem ixb_some (c : UInt8) : ∀ {s : List UInt8}, 0 ≤ ixb s c → s = s.take (ixb s c).toNat ++ c :: s.drop (ixb s c + 1).toNat ∧ c ∉ s.take (ixb s c).toNat
  | [], h => by simp [ixb] at h
  | b :: l, h => by
    simp only [ixb] at h ⊢
    have := ixb_lo c l
    by_cases hb : b = c
    · simp [hb]
    · simp only [hb, if_false] at h ⊢
      by_cases h2 : ixb l c = -1
      · simp [h2] at h
      · simp only [h2, if_false] at h ⊢
        have hi : 0 ≤ ixb l c := by omega
        obtain ⟨e1, e2⟩ := ixb_some c hi
        have n1 : (ixb l c + 1).toNat = (ixb l c).toNat + 1 := by omega
        have n2 : (ixb l c + 1 + 1).toNat = (ixb l c + 1).toNat + 1 := by omega
        rw [n2, n1, List.take_succ_cons, List.drop_succ_cons, ← n1]
        refine ⟨by rw [List.cons_append]; exact congrArg _ e1, ?_⟩
        simp only [List.mem_cons, not_or]
        exact ⟨fun e => hb e.symm, e2⟩
theorem split_cut (s : List UInt8) : split s = if (cutB 46 s).2.2 = true then (cutB 46 s).1 :: split (cutB 46 s).2.1 else [s] := by
  unfold cutB
  by_cases h : 0 ≤ ixb s 46
  · obtain ⟨e1, e2⟩ := ixb_some 46 h
    simp only [h, if_true]
    conv => lhs; rw [e1]
    exact split_cons _ _ e2
  · simp only [h, if_false]
    exact split_none s (ixb_none 46 (by omega))
theorem cut_len (c : UInt8) (s : List UInt8) : (cutB c s).1.length + (cutB c s).2.1.length + (if (cutB c s).2.2 = true then 1 else 0) = s.length := by
  unfold cutB
  by_cases h : 0 ≤ ixb s c
  · have := ixb_hi c s
    simp only [h, if_true, List.length_take, List.length_drop]; omega
  · simp [h]
/-- is the rest of a name as it should be, behind so many labels? -/
def nmF (k : Int) (s : List UInt8) (more : Bool) : Bool := !more || ((split s).all labOk && decide (k + (split s).length ≤ 8))
theorem nmMay_F (s : List UInt8) : nmMay s = nmF 0 s (!decide (s = [])) := by
  unfold nmMay nmF
  have : ((0 : Int) + ((split s).length : Nat) ≤ 8) ↔ (split s).length ≤ 8 := by omega
  simp only [this]
  cases decide (s = []) <;> simp
theorem nmF_step (k : Int) (s : List UInt8) : nmF k s true = (labOk (cutB 46 s).1 && decide (k + 1 ≤ 8) && nmF (k + 1) (cutB 46 s).2.1 (cutB 46 s).2.2) := by
  simp only [nmF]
  rw [split_cut s]
  have hc : (cutB 46 s).2.2 = false → (cutB 46 s).1 = s := by unfold cutB; split <;> simp
  cases h : (cutB 46 s).2.2
  · simp [hc h]
  · simp only [if_true, List.all_cons, List.length_cons, Bool.not_true, Bool.false_or]
    have : (split (cutB 46 s).2.1).length ≠ 0 := by simpa using split_ne (cutB 46 s).2.1
    rw [Bool.eq_iff_iff]
    simp only [Bool.and_eq_true, decide_eq_true_eq]
    constructor
    · rintro ⟨⟨a, b⟩, c⟩; exact ⟨⟨a, by omega⟩, b, by omega⟩
    · rintro ⟨⟨a, _⟩, b, c⟩; exact ⟨⟨a, b⟩, by omega⟩

theorem fold_step {s xs : List UInt8} {i : Int} (h0 : 0 ≤ i) (h1 : i < s.length) (hl : xs.length = s.length) (hx : xs = (s.take i.toNat).map lower ++ s.drop i.toNat) :
    xs.set i.toNat (lower (xs.getD i.toNat 0)) = (s.take (i + 1).toNat).map lower ++ s.drop (i + 1).toNat := by
  obtain ⟨k, rfl⟩ := Int.eq_ofNat_of_zero_le h0
  have hk : k < s.length := by omega
  have e1 : ((k : Int) + 1).toNat = k + 1 := by omega
  rw [e1, Int.toNat_natCast]
  rw [Int.toNat_natCast] at hx
  have hlen : ((s.take k).map lower).length = k := by simp; omega
  have hg : xs.getD k 0 = s[k] := by
    rw [hx, List.getD_eq_getElem?_getD, List.getElem?_append_right (by omega), hlen, Nat.sub_self, List.drop_eq_getElem_cons hk]; rfl
  rw [hg, hx, List.set_append_right _ _ (by omega), hlen, Nat.sub_self, List.drop_eq_getElem_cons hk, List.set_cons_zero, List.take_succ_eq_append_getElem hk, List.map_append, List.append_assoc]
  rfl

/-- texts, one byte between each two -/
def joinB (c : UInt8) : List (List UInt8) → List UInt8
  | [] => []
  | l :: r => l ++ r.flatMap fun x => c :: x
theorem joinB_dot : ∀ ls : List (List UInt8), joinB 46 ls = joinD ls
  | [] => rfl
  | [l] => by simp [joinB, joinD]
  | l :: m :: r => by
    have := joinB_dot (m :: r)
    simp only [joinB] at this
    simp only [joinB, joinD, ← this, List.flatMap_cons]
    simp
theorem joinB_app (c : UInt8) {ls : List (List UInt8)} (h : ls ≠ []) (x : List UInt8) : joinB c (ls ++ [x]) = joinB c ls ++ [c] ++ x := by
  cases ls with
  | nil => exact absurd rfl h
  | cons l r => simp [joinB]
theorem joinB_step (c : UInt8) {ls : List (List UInt8)} {k : Nat} (h : k + 1 < ls.length) : joinB c (ls.take (k + 2)) = joinB c (ls.take (k + 1)) ++ [c] ++ (ls.drop 1).getD k [] := by
  rw [List.take_succ_eq_append_getElem h, joinB_app c (by intro e; have := congrArg List.length e; rw [List.length_take, List.length_nil] at this; omega)]
  congr 1
  rw [List.getD_eq_getElem?_getD, List.getElem?_drop, Nat.add_comm 1 k, List.getElem?_eq_getElem h]; rfl
theorem joinB_len (c : UInt8) : ∀ ls : List (List UInt8), (joinB c ls).length ≤ ls.flatten.length + ls.length
  | [] => by simp [joinB]
  | l :: r => by
    have : ∀ r : List (List UInt8), (r.flatMap fun x => c :: x).length = r.flatten.length + r.length := fun r => by
      induction r with
      | nil => rfl
      | cons x r ih => simp only [List.flatMap_cons, List.length_append, List.length_cons, ih, List.flatten_cons]; omega
    simp only [joinB, List.length_append, this, List.flatten_cons, List.length_cons]; omega
theorem flat_take (ls : List (List UInt8)) (k : Nat) : (ls.take k).flatten.length ≤ ls.flatten.length := by
  have : ls.flatten = (ls.take k).flatten ++ (ls.drop k).flatten := by rw [← List.flatten_append, List.take_append_drop]
  rw [this, List.length_append]; omega
theorem flat_getD (ls : List (List UInt8)) (k : Nat) : (ls.getD k []).length ≤ ls.flatten.length := by
  by_cases h : k < ls.length
  · have : ls.flatten = (ls.take k).flatten ++ (ls.getD k [] ++ (ls.drop (k + 1)).flatten) := by
      rw [List.getD_eq_getElem?_getD, List.getElem?_eq_getElem h, Option.getD_some, ← List.flatten_cons, ← List.drop_eq_getElem_cons h, ← List.flatten_append, List.take_append_drop]
    rw [this, List.length_append, List.length_append]; omega
  · rw [List.getD_eq_getElem?_getD, List.getElem?_eq_none (by omega)]; simp
theorem flat_step {ls : List (List UInt8)} {i : Int} (h0 : 0 ≤ i) (h1 : i < ls.length) : (ls.take (i + 1).toNat).flatten.length = (ls.take i.toNat).flatten.length + (ls.getD i.toNat []).length := by
  have e : (i + 1).toNat = i.toNat + 1 := by omega
  have h : i.toNat < ls.length := by omega
  rw [e, List.take_succ_eq_append_getElem h, List.flatten_append, List.length_append, List.getD_eq_getElem?_getD, List.getElem?_eq_getElem h]; simp

end Go.Proofs.Ytkjcmdgideddnaa
