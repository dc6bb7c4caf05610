/- Plain laws (PFq): lists and numbers alone. No condition. -/
import Derived.Test.YtkjcmdgideddnaaPL3
set_option linter.unusedVariables false
set_option linter.unusedSimpArgs false
namespace Go.Proofs.Ytkjcmdgideddnaa
/-- labels without pointers: what stands there, and the tail: nothing, or a byte 0 and what is behind it -/
def scn : Nat → List UInt8 → Option (List (List UInt8) × List UInt8)
  | 0, _ => none
  | _ + 1, [] => some ([], [])
  | n + 1, b :: r => if b = 0 then some ([], b :: r) else if 8 < b.toNat ∨ r.length < b.toNat then none else (scn n (r.drop b.toNat)).map fun x => (r.take b.toNat :: x.1, x.2)
theorem scn_fuel : ∀ (n m : Nat) (t : List UInt8), t.length < n → t.length < m → scn n t = scn m t
  | 0, _, _, h, _ => by omega
  | _, 0, _, _, h => by omega
  | n + 1, m + 1, [], _, _ => rfl
  | n + 1, m + 1, b :: r, h, h' => by
    simp only [List.length_cons] at h h'
    simp only [scn]
    by_cases h0 : b = 0
    · simp [h0]
    · simp only [h0, if_false]
      split
      · rfl
      · rw [scn_fuel n m (r.drop b.toNat) (by simp; omega) (by simp; omega)]
def scF (t : List UInt8) : Option (List (List UInt8) × List UInt8) := scn (t.length + 1) t
theorem scF_nil : scF [] = some ([], []) := rfl
theorem scF_zero (r : List UInt8) : scF (0 :: r) = some ([], 0 :: r) := by simp [scF, scn]
theorem scF_bad {b : UInt8} {r : List UInt8} (h0 : b ≠ 0) (h : 8 < b.toNat ∨ r.length < b.toNat) : scF (b :: r) = none := by simp [scF, scn, h0, h]
theorem scF_lab {b : UInt8} {r : List UInt8} (h0 : b ≠ 0) (h : ¬ (8 < b.toNat ∨ r.length < b.toNat)) : scF (b :: r) = (scF (r.drop b.toNat)).map fun x => (r.take b.toNat :: x.1, x.2) := by
  have : scF (b :: r) = (scn (r.length + 1) (r.drop b.toNat)).map fun x => (r.take b.toNat :: x.1, x.2) := by
    simp only [scF, List.length_cons, scn, h0, if_false, h]
  rw [this, scF, scn_fuel (r.length + 1) ((r.drop b.toNat).length + 1) _ (by simp; omega) (by omega)]
inductive Scn : List UInt8 → List (List UInt8) → List UInt8 → Prop where
  | nil : Scn [] [] []
  | zero (r : List UInt8) : Scn (0 :: r) [] (0 :: r)
  | lab {b : UInt8} {x r : List UInt8} {ls : List (List UInt8)} {tl : List UInt8} (h0 : b ≠ 0) (h8 : b.toNat ≤ 8) (hx : x.length = b.toNat) (k : Scn r ls tl) : Scn (b :: (x ++ r)) (x :: ls) tl
theorem scn_of : ∀ (n : Nat) {t : List UInt8} {ls : List (List UInt8)} {tl : List UInt8}, scn n t = some (ls, tl) → Scn t ls tl
  | 0, _, _, _, h => by simp [scn] at h
  | n + 1, [], _, _, h => by simp only [scn, Option.some.injEq, Prod.mk.injEq] at h; obtain ⟨rfl, rfl⟩ := h; exact .nil
  | n + 1, b :: r, ls, tl, h => by
    simp only [scn] at h
    by_cases h0 : b = 0
    · simp only [h0, if_true, Option.some.injEq, Prod.mk.injEq] at h
      obtain ⟨rfl, rfl⟩ := h
      subst h0; exact .zero r
    · simp only [h0, if_false] at h
      split at h
      · cases h
      · rename_i hc
        cases hs : scn n (r.drop b.toNat) with
        | none => rw [hs] at h; cases h
        | some x =>
          rw [hs] at h
          simp only [Option.map_some, Option.some.injEq, Prod.mk.injEq] at h
          obtain ⟨rfl, rfl⟩ := h
          have k := scn_of n (ls := x.1) (tl := x.2) hs
          have := Scn.lab (x := r.take b.toNat) h0 (by omega) (by rw [List.length_take]; omega) k
          rwa [List.take_append_drop] at this
theorem Scn.of {t : List UInt8} {ls : List (List UInt8)} {tl : List UInt8} (h : Scn t ls tl) : scF t = some (ls, tl) := by
  induction h with
  | nil => rfl
  | zero r => exact scF_zero r
  | @lab b x r ls tl h0 h8 hx k ih =>
    rw [scF_lab h0 (by simp only [List.length_append]; omega), ← hx, List.drop_left, List.take_left, ih]; rfl
theorem Scn.tail {t : List UInt8} {ls : List (List UInt8)} {tl : List UInt8} (h : Scn t ls tl) : (tl = [] ∨ ∃ r, tl = 0 :: r) ∧ tl.length ≤ t.length := by
  induction h with
  | nil => simp
  | zero r => simp
  | lab h0 h8 hx k ih => simp only [List.length_cons, List.length_append]; exact ⟨ih.1, by omega⟩
/-- a byte 0 behind it -/
theorem Scn.behind {t : List UInt8} {ls : List (List UInt8)} {tl : List UInt8} (h : Scn t ls tl) : Scn (t ++ [0]) ls (tl ++ [0]) := by
  induction h with
  | nil => exact .zero []
  | zero r => exact .zero (r ++ [0])
  | @lab b x r ls tl h0 h8 hx k ih => have := Scn.lab h0 h8 hx ih; rw [← List.append_assoc] at this; exact this
/-- what a reading comes to -/
theorem Scn.got {s : List UInt8} {u : List UInt8} {ls : List (List UInt8)} {tl : List UInt8} (h : Scn u ls tl) : ∀ (pre : List UInt8) (acc : List (List UInt8)) (row : Int), acc.length ≤ 8 → s = pre ++ u →
    Got s ⟨pre.length, row, -1, acc⟩ (if (ls.map fold).all labOk = true ∧ acc.length + ls.length ≤ 8 then (if tl = [] then .err 301 else .ok (joinD (acc ++ ls.map fold)) ((s.length : Int) - tl.length + 1)) else .err 300) := by
  induction h with
  | nil =>
    intro pre acc row ha hs
    have := Got.stop (sG1 (s := s) (p := pre.length) (r := row) (f := -1) (ls := acc) (by rw [hs]; simp))
    simpa [ha] using this
  | zero r =>
    intro pre acc row ha hs
    have h0 : s.getD ((pre.length : Int)).toNat 0 = 0 := by rw [hs]; simp [List.getD_eq_getElem?_getD]
    have hl : s.length = pre.length + (r.length + 1) := by rw [hs]; simp
    have := Got.stop (sG2 (s := s) (p := pre.length) (r := row) (f := -1) (ls := acc) (by omega) (by rw [h0]; rfl))
    have e : (s.length : Int) - ((0 :: r : List UInt8).length : Nat) + 1 = (pre.length : Int) + 1 := by simp only [List.length_cons]; omega
    rw [e]
    simpa [ha] using this
  | @lab b x r ls tl h0 h8 hx k ih =>
    intro pre acc row ha hs
    have hl : s.length = pre.length + (1 + x.length + r.length) := by rw [hs]; simp; omega
    have hb : s.getD ((pre.length : Int)).toNat 0 = b := by rw [hs]; simp [List.getD_eq_getElem?_getD]
    have hbn : (b.toNat : Int) ≠ 0 := fun e => h0 (UInt8.toNat_inj.1 (by simp; omega))
    have sl : slc s ((pre.length : Int) + 1) ((pre.length : Int) + 1 + (b.toNat : Int)) = x := by
      rw [slc, show ((pre.length : Int) + 1 + (b.toNat : Int)).toNat = pre.length + 1 + x.length by omega, show ((pre.length : Int) + 1).toNat = pre.length + 1 by omega, hs]
      have e : pre ++ b :: (x ++ r) = (pre ++ [b] ++ x) ++ r := by simp
      rw [e, List.take_append_of_le_length (by simp; omega), List.take_of_length_le (by simp; omega)]
      have e2 : pre.length + 1 = (pre ++ [b]).length := by simp
      rw [e2, List.drop_left]
    by_cases hlab : labOk (fold x) = false ∨ acc.length = 8
    · have := Got.stop (sG4 (s := s) (p := pre.length) (r := row) (f := -1) (ls := acc) (by omega) (by rw [hb]; exact hbn) (by rw [hb]; omega) (by rw [hb]; omega) (by rw [hb, sl]; exact hlab))
      rw [if_neg (by rintro ⟨a, c⟩; rcases hlab with h | h; (simp only [List.map_cons, List.all_cons, Bool.and_eq_true] at a; rw [h] at a; exact absurd a.1 (by decide)); (simp only [List.length_cons] at c; omega))]
      exact this
    · refine Got.step (sG5 (s := s) (p := pre.length) (r := row) (f := -1) (ls := acc) (by omega) (by rw [hb]; exact hbn) (by rw [hb]; omega) (by rw [hb]; omega) (by rw [hb, sl]; exact hlab)) ?_
      rw [hb, sl]
      simp only [not_or, Bool.not_eq_false] at hlab
      have := ih (pre ++ [b] ++ x) (acc ++ [fold x]) row (by simp; omega) (by rw [hs]; simp)
      have e1 : (((pre ++ [b] ++ x).length : Nat) : Int) = (pre.length : Int) + 1 + (b.toNat : Int) := by simp; omega
      rw [e1] at this
      have e3 : ((acc ++ [fold x]).length + ls.length ≤ 8) ↔ (acc.length + (x :: ls).length ≤ 8) := by simp; omega
      have e4 : (((x :: ls).map fold).all labOk = true) ↔ ((ls.map fold).all labOk = true) := by simp [hlab.1]
      simp only [e4, ← e3]
      simpa using this
def fqMay (f : Int) : Bool := decide (0 ≤ f) && decide (f ≤ 15) && decide ((f / 4) % 2 = 1)
def fqName (t : List UInt8) : Option (List UInt8) := match scF t with
  | none => none
  | some (ls, tl) => if (ls.map fold).all labOk = true ∧ ls.length ≤ 8 ∧ tl.length ≤ 1 then some (joinD (ls.map fold)) else none
def fqGet (s : List UInt8) : Int × List UInt8 × Int := if s.length < 3 then (0, [], 800) else if fqMay (s.getD 0 0).toNat = false then (0, [], 800) else match fqName (s.drop 3) with
  | none => (0, [], 800)
  | some nm => ((s.getD 0 0).toNat, nm, 0)
def whole (t : List UInt8) : Bool := decide (grE (getName t 0) = 0) && decide (grT (getName t 0) = t.length)
theorem whole_sc {t : List UInt8} {ls : List (List UInt8)} {tl : List UInt8} (h : Scn t ls tl) : whole t = (decide (tl.length = 1) && (ls.map fold).all labOk && decide (ls.length ≤ 8)) ∧ (whole t = true → grN (getName t 0) = joinD (ls.map fold)) := by
  have hg := h.got (s := t) [] [] 0 (by decide) rfl
  simp only [List.length_nil, Nat.zero_add, List.nil_append] at hg
  have hn := getName_eq (p := 0) (by omega) hg
  have ht := h.tail
  simp only [whole, hn]
  by_cases hc : (ls.map fold).all labOk = true ∧ ls.length ≤ 8
  · rw [if_pos hc]
    rcases ht.1 with rfl | ⟨r, rfl⟩
    · simp [grE, grN]
    · simp only [List.cons_ne_nil, if_false, grE, grT, grN, hc.1, decide_eq_true hc.2, decide_true, Bool.true_and, Bool.and_true, implies_true, and_true]
      simp only [List.length_cons] at ht ⊢
      exact decide_eq_decide.2 (by omega)
  · rw [if_neg hc]
    simp only [grE]
    have : ((ls.map fold).all labOk && decide (ls.length ≤ 8)) = false := by
      rw [Bool.eq_false_iff]; intro h; simp only [Bool.and_eq_true, decide_eq_true_eq] at h; exact hc h
    rw [Bool.and_assoc, this]; simp
/-- the program's reading is the document's -/
theorem fq_two (t : List UInt8) : fqName t = if (scF t).isSome = true ∧ whole t = true then some (grN (getName t 0)) else if (scF t).isSome = true ∧ whole (t ++ [0]) = true then some (grN (getName (t ++ [0]) 0)) else none := by
  unfold fqName
  cases hs : scF t with
  | none => simp
  | some x =>
    obtain ⟨ls, tl⟩ := x
    have hS : Scn t ls tl := scn_of _ hs
    obtain ⟨w1, w2⟩ := whole_sc hS
    obtain ⟨v1, v2⟩ := whole_sc hS.behind
    simp only [Option.isSome_some, true_and]
    by_cases hc : (ls.map fold).all labOk = true ∧ ls.length ≤ 8
    · have hw : whole t = decide (tl.length = 1) := by rw [w1, hc.1, decide_eq_true hc.2]; simp
      have hv : whole (t ++ [0]) = decide (tl.length = 0) := by rw [v1, hc.1, decide_eq_true hc.2]; simp
      by_cases h1 : tl.length = 1
      · have : whole t = true := by rw [hw]; exact decide_eq_true h1
        rw [if_pos ⟨hc.1, hc.2, by omega⟩, if_pos this, w2 this]
      · have hwf : ¬ whole t = true := by rw [hw]; simpa using h1
        rw [if_neg hwf]
        by_cases h2 : tl.length = 0
        · have : whole (t ++ [0]) = true := by rw [hv]; exact decide_eq_true h2
          rw [if_pos ⟨hc.1, hc.2, by omega⟩, if_pos this, v2 this]
        · have : ¬ whole (t ++ [0]) = true := by rw [hv]; simpa using h2
          rw [if_neg this, if_neg (by omega)]
    · have hf : ((ls.map fold).all labOk && decide (ls.length ≤ 8)) = false := by
        rw [Bool.eq_false_iff]; intro h; simp only [Bool.and_eq_true, decide_eq_true_eq] at h; exact hc h
      rw [Bool.and_assoc, hf, Bool.and_false] at w1 v1
      rw [w1, v1, if_neg (fun h => hc ⟨h.1, h.2.1⟩)]; simp
theorem plain_nil {u : List UInt8} (h : u = [] ∨ (u.getD 0 0).toNat = 0) : (scF u).isSome = true := by
  cases u with
  | nil => rfl
  | cons b r =>
    rcases h with h | h
    · cases h
    · have : b = 0 := UInt8.toNat_inj.1 (by simpa using h)
      subst this; rw [scF_zero]; rfl
theorem plain_bad {u : List UInt8} (h1 : u ≠ []) (h2 : ¬ (u.getD 0 0).toNat = 0) (h3 : 8 < (u.getD 0 0).toNat ∨ u.length ≤ (u.getD 0 0).toNat) : scF u = none := by
  cases u with
  | nil => exact absurd rfl h1
  | cons b r =>
    simp only [List.getD_cons_zero, List.length_cons] at h2 h3
    exact scF_bad (fun e => h2 (by rw [e]; rfl)) (by omega)
theorem plain_step {u : List UInt8} (h1 : u ≠ []) (h2 : ¬ (u.getD 0 0).toNat = 0) (h3 : ¬ (8 < (u.getD 0 0).toNat ∨ u.length ≤ (u.getD 0 0).toNat)) :
    scF u = (scF (u.drop (1 + (u.getD 0 0).toNat))).map fun x => ((u.drop 1).take (u.getD 0 0).toNat :: x.1, x.2) := by
  cases u with
  | nil => exact absurd rfl h1
  | cons b r =>
    simp only [List.getD_cons_zero, List.length_cons] at h2 h3 ⊢
    rw [scF_lab (fun e => h2 (by rw [e]; rfl)) (by omega), Nat.add_comm 1, List.drop_succ_cons]; rfl
def fqPut (f : Int) (nm : List UInt8) : List UInt8 × Int := if fqMay f = true ∧ nmMay nm = true then (beb f 1 ++ [255, 255] ++ (nmPut 0 [] nm).1, 0) else ([], 800)
theorem fqName_no {t : List UInt8} (h : scF t = none) : fqName t = none := by simp [fqName, h]
theorem fqName_lab {t : List UInt8} {pre : List (List UInt8)} {x : List UInt8} {o : Option (List (List UInt8) × List UInt8)} (h : scF t = o.map fun y => (pre ++ (x :: y.1), y.2)) (hx : labOk (fold x) = false) : fqName t = none := by
  cases o with
  | none => exact fqName_no h
  | some y =>
    simp only [Option.map_some] at h
    simp [fqName, h, hx]
theorem fqGet_bad {s : List UInt8} (h : s.length < 3 ∨ fqMay (s.getD 0 0).toNat = false) : fqGet s = (0, [], 800) := by
  unfold fqGet
  by_cases h1 : s.length < 3
  · rw [if_pos h1]
  · rw [if_neg h1, if_pos (by rcases h with h | h; exact absurd h h1; exact h)]
theorem fqGet_no {s : List UInt8} (h : fqName (s.drop 3) = none) : fqGet s = (0, [], 800) := by
  unfold fqGet; rw [h]; split
  · rfl
  · split <;> rfl
theorem fqGet_some {s nm : List UInt8} (h1 : ¬ s.length < 3) (h2 : fqMay (s.getD 0 0).toNat = true) (h : fqName (s.drop 3) = some nm) : fqGet s = (((s.getD 0 0).toNat : Int), nm, 0) := by
  unfold fqGet; rw [h, if_neg h1, if_neg (by rw [h2]; decide)]

theorem fg_end {t : List UInt8} {p : Int} (h0 : 0 ≤ p) (h : ¬ p < t.length ∨ (t.getD p.toNat 0).toNat = 0) : scF (t.drop p.toNat) = some ([], t.drop p.toNat) := by
  by_cases hl : p < t.length
  · have hz : (t.getD p.toNat 0).toNat = 0 := by rcases h with h | h; exact absurd hl h; exact h
    have hp : p.toNat < t.length := by omega
    rw [List.drop_eq_getElem_cons hp]
    rw [List.getD_eq_getElem?_getD, List.getElem?_eq_getElem hp, Option.getD_some] at hz
    rw [show t[p.toNat] = 0 from UInt8.toNat_inj.1 (by simpa using hz), scF_zero]
  · rw [List.drop_eq_nil_of_le (by omega)]; rfl
theorem fg_bad {t : List UInt8} {p : Int} (h0 : 0 ≤ p) (h : p < t.length) (hz : ¬ (t.getD p.toNat 0).toNat = 0) (hb : 8 < (t.getD p.toNat 0).toNat ∨ (t.length : Int) - p - 1 < (t.getD p.toNat 0).toNat) : scF (t.drop p.toNat) = none := by
  have hp : p.toNat < t.length := by omega
  have e : t.getD p.toNat 0 = t[p.toNat] := by rw [List.getD_eq_getElem?_getD, List.getElem?_eq_getElem hp]; rfl
  rw [e] at hz hb
  rw [List.drop_eq_getElem_cons hp]
  exact scF_bad (fun e => hz (by rw [e]; rfl)) (by rw [List.length_drop]; omega)
theorem fg_step {t : List UInt8} {p : Int} (h0 : 0 ≤ p) (h : p < t.length) (hz : ¬ (t.getD p.toNat 0).toNat = 0) (hb : ¬ (8 < (t.getD p.toNat 0).toNat ∨ (t.length : Int) - p - 1 < (t.getD p.toNat 0).toNat)) :
    scF (t.drop p.toNat) = (scF (t.drop (p + 1 + ((t.getD p.toNat 0).toNat : Int)).toNat)).map fun x => (slc t (p + 1) (p + 1 + ((t.getD p.toNat 0).toNat : Int)) :: x.1, x.2) := by
  have hp : p.toNat < t.length := by omega
  have e : t.getD p.toNat 0 = t[p.toNat] := by rw [List.getD_eq_getElem?_getD, List.getElem?_eq_getElem hp]; rfl
  rw [e] at hz hb ⊢
  rw [List.drop_eq_getElem_cons hp, scF_lab (fun e => hz (by rw [e]; rfl)) (by rw [List.length_drop]; omega), List.drop_drop]
  have e1 : p.toNat + 1 + t[p.toNat].toNat = (p + 1 + (t[p.toNat].toNat : Int)).toNat := by omega
  have e2 : (t.drop (p.toNat + 1)).take t[p.toNat].toNat = slc t (p + 1) (p + 1 + (t[p.toNat].toNat : Int)) := by
    rw [slc, ← e1, show (p + 1).toNat = p.toNat + 1 by omega, List.drop_take]
    congr 1; omega
  rw [e1, e2]

theorem fg_fin {t : List UInt8} {p : Int} {ls : List (List UInt8)} {name : List UInt8} (h0 : 0 ≤ p) (h1 : p ≤ t.length) (he : ¬ p < t.length ∨ (t.getD p.toNat 0).toNat = 0) (hsc : scF t = (scF (t.drop p.toNat)).map fun x => (ls ++ x.1, x.2)) (hla : (ls.map fold).all labOk = true) (hnm : name = joinD (ls.map fold)) :
    fqName t = if p < (t.length : Int) - 1 ∨ nmMay name = false then none else some name := by
  rw [fg_end h0 he] at hsc
  simp only [Option.map_some, List.append_nil] at hsc
  subst hnm
  simp only [fqName, hsc, hla, true_and]
  have hl : (t.drop p.toNat).length ≤ 1 ↔ ¬ p < (t.length : Int) - 1 := by rw [List.length_drop]; omega
  have hm : ls.length ≤ 8 ↔ nmMay (joinD (ls.map fold)) = true := by
    constructor
    · intro h; exact nmMay_join hla (by simpa using h)
    · intro h; have := (nmMay_labs h).2; rw [labs_join hla] at this; simpa using this
  by_cases a : p < (t.length : Int) - 1
  · rw [if_neg (fun h => hl.1 h.2 a), if_pos (.inl a)]
  · by_cases b : nmMay (joinD (ls.map fold)) = true
    · rw [if_pos ⟨hm.2 b, hl.2 a⟩, if_neg (by rintro (h | h); exact a h; rw [b] at h; cases h)]
    · rw [if_neg (fun h => b (hm.1 h.1)), if_pos (.inr (by simpa using b))]
/-! the statements -/
theorem beb1 (x : Int) : beb x 1 = [byteOf x] := rfl
theorem nm0_plain {nm : List UInt8} (h : nmMay nm = true) : (nmPut 0 [] nm).1 = ((labs nm).flatMap fun (l : List UInt8) => UInt8.ofNat l.length :: l) ++ [0] := by
  have hl := nmMay_labs h
  have := plain_law (at_ := 0) (by omega) (by omega) hl.1 hl.2
  rw [joinD_labs] at this
  rw [this.1]
theorem scn_labs : ∀ {ls : List (List UInt8)}, ls.all labOk = true → Scn (ls.flatMap fun (l : List UInt8) => UInt8.ofNat l.length :: l) ls []
  | [], _ => .nil
  | l :: r, h => by
    simp only [List.all_cons, Bool.and_eq_true] at h
    have hl := labOk_len h.1
    have e : (UInt8.ofNat l.length).toNat = l.length := by simp; omega
    exact Scn.lab (fun e2 => by rw [e2] at e; simp at e; omega) (by omega) e.symm (scn_labs h.2)
theorem map_fold {ls : List (List UInt8)} (h : ls.all labOk = true) : ls.map fold = ls := by
  induction ls with
  | nil => rfl
  | cons l r ih => simp only [List.all_cons, Bool.and_eq_true] at h; rw [List.map_cons, fold_ok h.1, ih h.2]
theorem fq_name_back {nm : List UInt8} (h : nmMay nm = true) :
    fqName (nmPut 0 [] nm).1 = some nm ∧ fqName ((labs nm).flatMap fun (l : List UInt8) => UInt8.ofNat l.length :: l) = some nm ∧ fqName ((nmPut 0 [] nm).1 ++ [0]) = none := by
  have hl := nmMay_labs h
  have hs := scn_labs hl.1
  have hm := map_fold hl.1
  have h1 := hs.behind
  have h2 := h1.behind
  rw [nm0_plain h]
  refine ⟨?_, ?_, ?_⟩
  · simp [fqName, h1.of, hm, hl.1, hl.2, joinD_labs]
  · simp [fqName, hs.of, hm, hl.1, hl.2, joinD_labs]
  · unfold fqName; rw [h2.of]; simp
def or4 (k : Int) : Int := if (k / 4) % 2 = 1 then k else k + 4
theorem or4_may {k : Int} (h : 0 ≤ k ∧ k < 16) : fqMay (or4 k) = true ∧ 0 ≤ or4 k ∧ or4 k ≤ 15 := by
  unfold or4 fqMay
  split
  · simp only [Bool.and_eq_true, decide_eq_true_eq]; omega
  · simp only [Bool.and_eq_true, decide_eq_true_eq]; omega
theorem fqPut_ok {f : Int} {nm : List UInt8} (h : (fqPut f nm).2 = 0) : fqMay f = true ∧ nmMay nm = true ∧ fqPut f nm = (beb f 1 ++ [255, 255] ++ (nmPut 0 [] nm).1, 0) := by
  unfold fqPut at h ⊢
  split
  · rename_i hc; exact ⟨hc.1, hc.2, rfl⟩
  · rename_i hc; rw [if_neg hc] at h; cases h
theorem fqPut_err {f : Int} {nm : List UInt8} (h : (fqPut f nm).2 ≠ 0) : fqPut f nm = ([], 800) := by
  unfold fqPut at h ⊢
  split
  · rename_i hc; rw [if_pos hc] at h; exact absurd rfl h
  · rfl
theorem fqPut_two (f : Int) (nm : List UInt8) : (fqPut f nm).2 = 0 ∨ (fqPut f nm) = ([], 800) := by
  by_cases h : (fqPut f nm).2 = 0
  · exact .inl h
  · exact .inr (fqPut_err h)
theorem byteOf_small {f : Int} (h : 0 ≤ f ∧ f ≤ 15) : ((byteOf f).toNat : Int) = f := by rw [byteOf_toNat]; omega
theorem fqGet_of {f : Int} {x : List UInt8} (hf : fqMay f = true) : fqGet (beb f 1 ++ [255, 255] ++ x) = match fqName x with
    | none => (0, [], 800)
    | some nm => (f, nm, 0) := by
  have hr : 0 ≤ f ∧ f ≤ 15 := by simp only [fqMay, Bool.and_eq_true, decide_eq_true_eq] at hf; exact hf.1
  have hb := byteOf_small hr
  have e : beb f 1 ++ [255, 255] ++ x = byteOf f :: 255 :: 255 :: x := rfl
  rw [e]
  have hd : (byteOf f :: 255 :: 255 :: x).drop 3 = x := rfl
  have hg : (((byteOf f :: 255 :: 255 :: x).getD 0 0).toNat : Int) = f := hb
  cases hn : fqName x with
  | none => exact fqGet_no (by rw [hd]; exact hn)
  | some nm => rw [fqGet_some (nm := nm) (by simp) (by rw [hg]; exact hf) (by rw [hd]; exact hn), hg]
theorem take_last (x : List UInt8) (b : UInt8) : (x ++ [b]).take ((x ++ [b]).length - 1) = x := by simp
theorem fq_back {f : Int} {nm : List UInt8} (h : (fqPut f nm).2 = 0) :
    fqGet (fqPut f nm).1 = (f, nm, 0) ∧ fqGet ((fqPut f nm).1.take ((fqPut f nm).1.length - 1)) = (f, nm, 0) ∧ fqGet ((fqPut f nm).1 ++ [0]) = (0, [], 800) ∧ 4 ≤ (fqPut f nm).1.length := by
  obtain ⟨hf, hm, e⟩ := fqPut_ok h
  obtain ⟨n1, n2, n3⟩ := fq_name_back hm
  rw [e]
  simp only
  have ht : (beb f 1 ++ [255, 255] ++ (nmPut 0 [] nm).1).take ((beb f 1 ++ [255, 255] ++ (nmPut 0 [] nm).1).length - 1) = beb f 1 ++ [255, 255] ++ ((labs nm).flatMap fun (l : List UInt8) => UInt8.ofNat l.length :: l) := by
    rw [nm0_plain hm, ← List.append_assoc]
    exact take_last _ _
  refine ⟨?_, ?_, ?_, ?_⟩
  · rw [fqGet_of hf, n1]
  · rw [ht, fqGet_of hf, n2]
  · rw [List.append_assoc, fqGet_of hf, n3]
  · rw [nm0_plain hm]; simp [beb1]
theorem fq_unlike {f g : Int} {a b : List UInt8} (h : (fqPut f a).2 = 0) (h' : (fqPut g b).2 = 0) : decide ((fqPut f a).1 = (fqPut g b).1) = (decide (f = g) && decide (a = b)) := by
  have h1 := (fq_back h).1
  have h2 := (fq_back h').1
  by_cases e : f = g ∧ a = b
  · obtain ⟨rfl, rfl⟩ := e; simp
  · have hne : (fqPut f a).1 ≠ (fqPut g b).1 := fun e2 => by rw [e2, h2] at h1; simp only [Prod.mk.injEq] at h1; exact e ⟨h1.1.symm, h1.2.1.symm⟩
    rw [decide_eq_false hne, Eq.comm, Bool.and_eq_false_iff]
    by_cases e1 : f = g
    · exact .inr (decide_eq_false fun e2 => e ⟨e1, e2⟩)
    · exact .inl (decide_eq_false e1)
theorem fqPut_len (f : Int) (nm : List UInt8) : (fqPut f nm).1.length ≤ 100 := by
  have := (nmPut_more 0 [] nm).1
  unfold fqPut; split
  · simp only [List.length_append, beb1, List.length_cons, List.length_nil]; omega
  · simp

end Go.Proofs.Ytkjcmdgideddnaa
