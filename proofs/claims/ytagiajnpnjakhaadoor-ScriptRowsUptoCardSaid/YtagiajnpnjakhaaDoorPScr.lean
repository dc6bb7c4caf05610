/- Acts us texts, without the program. Conditions are the lemmas' own. -/
import Derived.Test.YtagiajnpnjakhaaDoorPZone
import Derived.Lib.ItoaNum
import Derived.Lib.AtoiAll
set_option linter.unusedVariables false
set_option linter.unusedSimpArgs false
namespace Go.Proofs.YtagiajnpnjakhaaDoor
open Go Go.RowKit
structure Ac where
  kind : Int
  text : List UInt8
  by_ : Int
  cut : Int
  keep : Int
deriving DecidableEq
def lett (k : Int) : List UInt8 := if k = 0 then [100] else if k = 1 then [113] else if k = 2 then [116] else if k = 3 then [99] else []
def acB (a : Ac) : List Int :=
  if a.kind = 0 then [1200, 0, 16, if a.cut ≠ 0 then 2048 else 0] else if a.kind = 1 then [1200, 0, 0, 0] else if a.kind = 2 then [0, 1048576, 16, if a.cut ≠ 0 then 2048 else 0] else [0, 0, 0, 2048]
def acN (a : Ac) : List Int := [a.text.length, a.by_, a.cut, a.keep]
def acMay (a : Ac) : Bool := ((acN a).zip (acB a)).all (fun p => decide (0 ≤ p.1) && decide (p.1 ≤ p.2)) && !decide (lett a.kind = [])
def acH (a : Ac) : List UInt8 := Lib.itoa a.by_ ++ 44 :: (Lib.itoa a.cut ++ 44 :: (Lib.itoa a.keep ++ 44 :: Lib.itoa a.text.length))
def acT (a : Ac) : List UInt8 := lett a.kind ++ (acH a ++ 58 :: a.text)
def shows (us : List Ac) : List UInt8 := us.flatMap acT
def showOk (us : List Ac) : Bool := us.all acMay && decide (us.length ≤ 256)
def showP (us : List Ac) : List UInt8 × Int := if showOk us = true then (shows us, 0) else ([], 2400)
theorem may_ac {a : Ac} (h : acMay a = true) : (a.kind = 0 ∨ a.kind = 1 ∨ a.kind = 2 ∨ a.kind = 3) ∧ a.text.length ≤ 1200 ∧ (0 ≤ a.by_ ∧ a.by_ ≤ 1048576) ∧ (0 ≤ a.cut ∧ a.cut ≤ 16) ∧ 0 ≤ a.keep ∧ a.keep ≤ 2048 := by
  simp only [acMay, Bool.and_eq_true, Bool.not_eq_true', decide_eq_false_iff_not] at h
  have hk : a.kind = 0 ∨ a.kind = 1 ∨ a.kind = 2 ∨ a.kind = 3 := by
    have := h.2
    unfold lett at this
    split at this; omega
    split at this; omega
    split at this; omega
    split at this; omega
    exact absurd rfl this
  have h1 := h.1
  rcases hk with e | e | e | e
  · have hB : acB a = [1200, 0, 16, if a.cut ≠ 0 then 2048 else 0] := by simp [acB, e]
    rw [hB] at h1
    simp only [acN, List.zip_cons_cons, List.zip_nil_left, List.all_cons, List.all_nil, Bool.and_eq_true, decide_eq_true_eq] at h1
    split at h1 <;> omega
  · have hB : acB a = [1200, 0, 0, 0] := by simp [acB, e]
    rw [hB] at h1
    simp only [acN, List.zip_cons_cons, List.zip_nil_left, List.all_cons, List.all_nil, Bool.and_eq_true, decide_eq_true_eq] at h1
    omega
  · have hB : acB a = [0, 1048576, 16, if a.cut ≠ 0 then 2048 else 0] := by simp [acB, e]
    rw [hB] at h1
    simp only [acN, List.zip_cons_cons, List.zip_nil_left, List.all_cons, List.all_nil, Bool.and_eq_true, decide_eq_true_eq] at h1
    split at h1 <;> omega
  · have hB : acB a = [0, 0, 0, 2048] := by simp [acB, e]
    rw [hB] at h1
    simp only [acN, List.zip_cons_cons, List.zip_nil_left, List.all_cons, List.all_nil, Bool.and_eq_true, decide_eq_true_eq] at h1
    omega
/-! digits -/
theorem dig_digits : ∀ (n : Nat), ∀ b ∈ Lib.decDigits n, 48 ≤ b.toNat ∧ b.toNat ≤ 57
  | n => by
    intro b hb
    rw [Lib.decDigits] at hb
    split at hb
    · simp only [List.mem_singleton] at hb; subst hb; simp; omega
    · rcases List.mem_append.1 hb with hb | hb
      · exact dig_digits (n / 10) b hb
      · simp only [List.mem_singleton] at hb; subst hb; simp; omega
termination_by n => n
decreasing_by omega
theorem dig_ne (n : Nat) : Lib.decDigits n ≠ [] := by
  rw [Lib.decDigits]; split <;> simp
/-- what is read of digits behind a number -/
def valD (acc : Nat) (l : List UInt8) : Nat := l.foldl (fun a b => 10 * a + (b.toNat - 48)) acc
theorem valD_app (acc : Nat) (a b : List UInt8) : valD acc (a ++ b) = valD (valD acc a) b := by simp [valD]
theorem valD_digits : ∀ (n : Nat), valD 0 (Lib.decDigits n) = n
  | n => by
    rw [Lib.decDigits]
    split
    · simp [valD]; omega
    · rw [valD_app, valD_digits (n / 10)]; simp [valD]; omega
termination_by n => n
decreasing_by omega
theorem valD_ge : ∀ (l : List UInt8) (acc : Nat), acc ≤ valD acc l
  | [], acc => Nat.le_refl _
  | b :: r, acc => by
    have := valD_ge r (10 * acc + (b.toNat - 48))
    simp only [valD, List.foldl_cons] at this ⊢; omega
theorem parse_digits : ∀ (l : List UInt8) (acc : Nat), (∀ b ∈ l, 48 ≤ b.toNat ∧ b.toNat ≤ 57) → valD acc l ≤ 9223372036854775807 → Lib.parseUint10 acc l = .ok (valD acc l)
  | [], acc, _, _ => rfl
  | b :: r, acc, hd, hv => by
    have hb := hd b (by simp)
    have hg := valD_ge r (10 * acc + (b.toNat - 48))
    simp only [valD, List.foldl_cons] at hv hg ⊢
    rw [Lib.parseUint10, if_pos hb, if_neg (by omega), if_neg (by omega), Nat.mul_comm acc 10]
    exact parse_digits r _ (fun x hx => hd x (by simp [hx])) hv
theorem atoi_itoa {x : Int} (h0 : 0 ≤ x) (h1 : x ≤ 9223372036854775807) : Lib.atoiAll (Lib.itoa x) = .ok x := by
  obtain ⟨n, rfl⟩ := Int.eq_ofNat_of_zero_le h0
  rw [Lib.itoa, if_neg (by omega), Int.toNat_natCast]
  have hd := dig_digits n
  have hne := dig_ne n
  have hp : Lib.parseMag (Lib.decDigits n) = .ok n := by
    rw [Lib.parseMag, if_neg hne]
    have := parse_digits (Lib.decDigits n) 0 hd (by rw [valD_digits]; omega)
    rwa [valD_digits] at this
  cases hl : Lib.decDigits n with
  | nil => exact absurd hl hne
  | cons c r =>
    have hc := hd c (by rw [hl]; simp)
    rw [hl] at hp
    simp only [Lib.atoiAll, if_neg (show ¬ (c.toNat = 43 ∨ c.toNat = 45) by omega), hp, if_neg (show ¬ (¬ (c.toNat = 45) ∧ 9223372036854775808 ≤ n) by omega), if_neg (show ¬ (c.toNat = 45 ∧ 9223372036854775808 < n) by omega), if_neg (show ¬ c.toNat = 45 by omega)]
theorem itoa_digits {x : Int} (h0 : 0 ≤ x) : ∀ b ∈ Lib.itoa x, 48 ≤ b.toNat ∧ b.toNat ≤ 57 := by
  rw [Lib.itoa, if_neg (by omega)]; exact dig_digits _
theorem itoa_no {x : Int} {q : UInt8} (h0 : 0 ≤ x) (hq : q.toNat < 48 ∨ 57 < q.toNat) : q ∉ Lib.itoa x := fun h => by have := itoa_digits h0 q h; omega
theorem decD_itoa {x : Int} (h0 : 0 ≤ x) (h1 : x < 1000) : decD x = Lib.itoa x := by
  obtain ⟨n, rfl⟩ := Int.eq_ofNat_of_zero_le h0
  rw [Lib.itoa, if_neg (by omega), Int.toNat_natCast]
  unfold decD
  dsimp only
  rw [Int.toNat_natCast]
  have hn : n < 1000 := by omega
  by_cases h1 : n < 10
  · rw [Lib.decDigits, dif_pos h1, if_neg (by omega), if_neg (by omega), Nat.mod_eq_of_lt h1]; rfl
  · rw [Lib.decDigits, dif_neg h1]
    by_cases h2 : n < 100
    · rw [Lib.decDigits, dif_pos (by omega), if_neg (by omega), if_pos (by omega), show n / 10 % 10 = n / 10 by omega]; rfl
    · rw [Lib.decDigits, dif_neg (by omega), Lib.decDigits, dif_pos (by omega), if_pos (by omega), if_pos (by omega), show n / 10 / 10 = n / 100 by omega]
/-! reading -/
def kindA (l : List UInt8) : Int := if l = [100] then 0 else if l = [113] then 1 else if l = [116] then 2 else if l = [99] then 3 else -1
theorem kind_lett {k : Int} (h : k = 0 ∨ k = 1 ∨ k = 2 ∨ k = 3) : kindA (lett k) = k ∧ (lett k).length = 1 := by
  rcases h with rfl | rfl | rfl | rfl <;> decide
/-- the numbers ahead of an act's text; none: there are none -/
def nums4 (l : List (List UInt8)) : Option (Int × Int × Int × Int) :=
  match l with
  | [a, b, c, d] => match Lib.atoiAll a, Lib.atoiAll b, Lib.atoiAll c, Lib.atoiAll d with
    | .ok x, .ok y, .ok z, .ok u => some (x, y, z, u)
    | _, _, _, _ => none
  | _ => none
def dAc : Ac := ⟨0, [], 0, 0, 0⟩
/-- reads an act, and tells what is left -/
def readP (s : List UInt8) : Ac × List UInt8 × Bool :=
  let h := cutB 58 (s.drop 1)
  match (if h.2.2 = true then nums4 (spl 44 h.1) else none) with
  | none => (dAc, [], false)
  | some (x, y, z, u) =>
    if u < 0 ∨ h.2.1.length < u then (dAc, [], false) else
    let a : Ac := ⟨kindA (s.take 1), h.2.1.take u.toNat, x, y, z⟩
    (a, h.2.1.drop u.toNat, decide (acT a ++ h.2.1.drop u.toNat = s))
theorem head_cut {a : Ac} (h : acMay a = true) (r : List UInt8) : cutB 58 (acH a ++ 58 :: r) = (acH a, r, true) := by
  obtain ⟨_, _, hb, hc, hk⟩ := may_ac h
  have no : (58 : UInt8) ∉ acH a := by
    have e1 := itoa_no (q := 58) hb.1 (by decide); have e2 := itoa_no (q := 58) hc.1 (by decide); have e3 := itoa_no (q := 58) hk.1 (by decide)
    have e4 := itoa_no (x := (a.text.length : Int)) (q := 58) (by omega) (by decide)
    simp only [acH, List.mem_append, List.mem_cons, not_or]
    exact ⟨e1, by decide, e2, by decide, e3, by decide, e4⟩
  have hx : ∀ (l : List UInt8), (58 : UInt8) ∉ l → ixb (l ++ 58 :: r) 58 = l.length := by
    intro l
    induction l with
    | nil => intro _; simp [ixb]
    | cons c l ih =>
      intro hm
      simp only [List.mem_cons, not_or] at hm
      rw [List.cons_append, ixb, if_neg (Ne.symm hm.1), ih hm.2, if_neg (by omega)]; simp
  rw [cutB, hx _ no, if_pos (by omega)]
  simp only [Int.toNat_natCast, show ((acH a).length : Int) + 1 = (((acH a).length + 1 : Nat) : Int) by omega]
  rw [List.take_left, ← List.drop_drop, List.drop_left]; rfl
theorem head_nums {a : Ac} (h : acMay a = true) : nums4 (spl 44 (acH a)) = some (a.by_, a.cut, a.keep, (a.text.length : Int)) := by
  obtain ⟨_, ht, hb, hc, hk⟩ := may_ac h
  rw [acH, spl_cons _ _ (itoa_no hb.1 (by decide)), spl_cons _ _ (itoa_no hc.1 (by decide)), spl_cons _ _ (itoa_no hk.1 (by decide)), spl_none _ (itoa_no (by omega) (by decide))]
  simp only [nums4, atoi_itoa hb.1 (by omega), atoi_itoa hc.1 (by omega), atoi_itoa hk.1 (by omega), atoi_itoa (x := (a.text.length : Int)) (by omega) (by omega)]
theorem read_show {a : Ac} (h : acMay a = true) (r : List UInt8) : readP (acT a ++ r) = (a, r, true) := by
  obtain ⟨hk, ht, _⟩ := may_ac h
  obtain ⟨k1, k2⟩ := kind_lett hk
  have e : acT a ++ r = lett a.kind ++ (acH a ++ 58 :: (a.text ++ r)) := by simp [acT]
  have d1 : (acT a ++ r).drop 1 = acH a ++ 58 :: (a.text ++ r) := by rw [e, List.drop_left' k2]
  have t1 : (acT a ++ r).take 1 = lett a.kind := by rw [e, List.take_left' k2]
  unfold readP
  rw [d1, t1, head_cut h, k1]
  simp only [if_true, head_nums h]
  rw [if_neg (by rw [List.length_append]; omega)]
  simp only [Int.toNat_natCast, List.take_left, List.drop_left]
  simp
theorem acT_ne (a : Ac) : 1 ≤ (acT a).length := by simp [acT]; omega
/-- a text is that of one row of acts alone -/
theorem shows_one : ∀ {us bs : List Ac}, us.all acMay = true → bs.all acMay = true → shows us = shows bs → us = bs
  | [], [], _, _, _ => rfl
  | [], b :: bs, _, _, h => by have := congrArg List.length h; have h2 := acT_ne b; simp only [shows, List.flatMap_nil, List.flatMap_cons, List.length_nil, List.length_append, List.append_assoc] at this; omega
  | a :: us, [], _, _, h => by have := congrArg List.length h; have h2 := acT_ne a; simp only [shows, List.flatMap_nil, List.flatMap_cons, List.length_nil, List.length_append, List.append_assoc] at this; omega
  | a :: us, b :: bs, ha, hb, h => by
    simp only [List.all_cons, Bool.and_eq_true] at ha hb
    simp only [shows, List.flatMap_cons] at h
    have h1 := read_show ha.1 (us.flatMap acT)
    have h2 := read_show hb.1 (bs.flatMap acT)
    rw [h] at h1
    rw [h1] at h2
    simp only [Prod.mk.injEq, and_true] at h2
    rw [h2.1, shows_one ha.2 hb.2 h2.2]
open Classical in
noncomputable def parseP (s : List UInt8) : List Ac × Int := if h : ∃ us, showOk us = true ∧ shows us = s then (Classical.choose h, 0) else ([], 2400)
theorem parse_of {us : List Ac} {s : List UInt8} (h : showOk us = true) (hs : shows us = s) : parseP s = (us, 0) := by
  have hex : ∃ us, showOk us = true ∧ shows us = s := ⟨us, h, hs⟩
  unfold parseP
  rw [dif_pos hex]
  have hc1 := (Classical.choose_spec hex).1
  have hc2 := (Classical.choose_spec hex).2
  rw [showOk, Bool.and_eq_true] at h hc1
  exact congrArg (fun x => (x, (0 : Int))) (shows_one hc1.1 h.1 (hc2.trans hs.symm))
theorem parse_no {s : List UInt8} (h : ¬ ∃ us, showOk us = true ∧ shows us = s) : parseP s = ([], 2400) := by
  unfold parseP; rw [dif_neg h]
/-- the state of a reading -/
structure PrsI (s : List UInt8) (out : List Ac) (left : List UInt8) : Prop where
  may : out.all acMay = true
  ln : out.length ≤ 256
  eq : s = shows out ++ left
theorem PrsI.step {s : List UInt8} {out : List Ac} {left : List UInt8} (h : PrsI s out left) (h1 : (readP left).2.2 = true) (h2 : acMay (readP left).1 = true) (h3 : out.length ≠ 256) : PrsI s (out ++ [(readP left).1]) (readP left).2.1 ∧ (readP left).2.1.length < left.length := by
  have e : acT (readP left).1 ++ (readP left).2.1 = left := by
    unfold readP at h1 ⊢
    dsimp only at h1 ⊢
    split
    · rename_i hn; rw [hn] at h1; cases h1
    · rename_i x y z u hn
      rw [hn] at h1
      dsimp only at h1
      split
      · rename_i hu; rw [if_pos hu] at h1; cases h1
      · rename_i hu; rw [if_neg hu] at h1; exact of_decide_eq_true h1
  refine ⟨⟨by rw [List.all_append, h.may]; simp [h2], by rw [List.length_append]; have := h.ln; simp; omega, ?_⟩, ?_⟩
  · conv => lhs; rw [h.eq, ← e]
    simp [shows]
  · have := acT_ne (readP left).1
    have h4 := congrArg List.length e
    rw [List.length_append] at h4; omega
theorem shows_pre : ∀ {out us : List Ac} {left : List UInt8}, out.all acMay = true → us.all acMay = true → shows us = shows out ++ left → ∃ bs, us = out ++ bs ∧ shows bs = left
  | [], us, left, _, _, h => ⟨us, rfl, h⟩
  | o :: out, [], left, _, _, h => by have := congrArg List.length h; have h2 := acT_ne o; simp only [shows, List.flatMap_nil, List.flatMap_cons, List.length_nil, List.length_append, List.append_assoc] at this; omega
  | o :: out, a :: us, left, ho, ha, h => by
    simp only [List.all_cons, Bool.and_eq_true] at ha ho
    simp only [shows, List.flatMap_cons, List.append_assoc] at h
    have h1 := read_show ha.1 (us.flatMap acT)
    have h2 := read_show ho.1 (out.flatMap acT ++ left)
    rw [h] at h1
    rw [h1] at h2
    simp only [Prod.mk.injEq, and_true] at h2
    obtain ⟨bs, e1, e2⟩ := shows_pre ho.2 ha.2 h2.2
    exact ⟨bs, by rw [h2.1, e1]; rfl, e2⟩
theorem PrsI.end {s : List UInt8} {out : List Ac} (h : PrsI s out []) : parseP s = (out, 0) :=
  parse_of (by rw [showOk, h.may, decide_eq_true h.ln]; rfl) (by rw [h.eq, List.append_nil])
theorem PrsI.bad {s : List UInt8} {out : List Ac} {left : List UInt8} (h : PrsI s out left) (hl : left ≠ []) (hb : (readP left).2.2 = false ∨ acMay (readP left).1 = false ∨ out.length = 256) : parseP s = ([], 2400) := by
  refine parse_no ?_
  rintro ⟨us, h1, h2⟩
  simp only [showOk, Bool.and_eq_true, decide_eq_true_eq] at h1
  obtain ⟨bs, rfl, e⟩ := shows_pre h.may h1.1 (h2.trans h.eq)
  cases bs with
  | nil => exact hl e.symm
  | cons b bs =>
    have hb1 : acMay b = true := List.all_eq_true.1 h1.1 b (by simp)
    have hr := read_show hb1 (bs.flatMap acT)
    rw [show acT b ++ bs.flatMap acT = left from e] at hr
    rw [hr] at hb
    rcases hb with hb | hb | hb
    · cases hb
    · rw [hb1] at hb; cases hb
    · rw [List.length_append] at h1; simp at h1; omega
theorem shows_app (us bs : List Ac) : shows (us ++ bs) = shows us ++ shows bs := by simp [shows]
theorem parse_ok {s : List UInt8} (h : (parseP s).2 = 0) : showOk (parseP s).1 = true ∧ shows (parseP s).1 = s := by
  by_cases hex : ∃ us, showOk us = true ∧ shows us = s
  · obtain ⟨us, h1, h2⟩ := hex
    rw [parse_of h1 h2]; exact ⟨h1, h2⟩
  · rw [parse_no hex] at h; cases h
end Go.Proofs.YtagiajnpnjakhaaDoor
