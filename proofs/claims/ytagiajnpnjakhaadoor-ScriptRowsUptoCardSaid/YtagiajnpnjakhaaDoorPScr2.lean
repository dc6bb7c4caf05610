/- Acts as texts: the document's reading of them, without the program. Conditions are the lemmas' own. -/
import Derived.Test.YtagiajnpnjakhaaDoorPScr
set_option linter.unusedVariables false
set_option linter.unusedSimpArgs false
namespace Go.Proofs.YtagiajnpnjakhaaDoor
open Go Go.RowKit
theorem dig_len : ∀ (k n : Nat), n < 10 ^ (k + 1) → (Lib.decDigits n).length ≤ k + 1
  | 0, n, h => by
    rw [Lib.decDigits, dif_pos (by omega)]; simp
  | k + 1, n, h => by
    rw [Lib.decDigits]
    split
    · simp
    · have := dig_len k (n / 10) (Nat.div_lt_of_lt_mul (by rw [Nat.mul_comm, ← Nat.pow_succ]; exact h))
      simp only [List.length_append, List.length_cons, List.length_nil]; omega
theorem itoa_len8 {y : Int} (h0 : 0 ≤ y) (h1 : y ≤ 99999999) : (Lib.itoa y).length ≤ 8 := by
  rw [Lib.itoa, if_neg (by omega)]
  exact dig_len 7 _ (by omega)
theorem valD_lt : ∀ (l : List UInt8) (acc : Nat), (∀ b ∈ l, 48 ≤ b.toNat ∧ b.toNat ≤ 57) → valD acc l < (acc + 1) * 10 ^ l.length
  | [], acc, _ => by simp [valD]
  | b :: r, acc, h => by
    have hb := h b (by simp)
    have ih := valD_lt r (10 * acc + (b.toNat - 48)) (fun x hx => h x (by simp [hx]))
    simp only [valD, List.foldl_cons, List.length_cons] at ih ⊢
    have h2 : (10 * acc + (b.toNat - 48) + 1) * 10 ^ r.length ≤ (acc + 1) * 10 ^ (r.length + 1) := by
      rw [Nat.pow_succ, show (acc + 1) * (10 ^ r.length * 10) = ((acc + 1) * 10) * 10 ^ r.length by rw [Nat.mul_comm (10 ^ r.length) 10, Nat.mul_assoc]]
      exact Nat.mul_le_mul_right _ (by omega)
    omega
/-- the state of a reading of digits -/
structure DgI (s : List UInt8) (a k x : Int) : Prop where
  k0 : 0 ≤ k
  k8 : k ≤ 8
  kl : k = 0 ∨ a + k ≤ s.length
  dg : ∀ b ∈ (s.drop a.toNat).take k.toNat, 48 ≤ b.toNat ∧ b.toNat ≤ 57
  xe : x = valD 0 ((s.drop a.toNat).take k.toNat)
/-- digits read to their end -/
structure DgF (s : List UInt8) (a k x : Int) : Prop extends DgI s a k x where
  out : k = 8 ∨ s.length ≤ a + k ∨ (s.getD (a + k).toNat 0).toNat < 48 ∨ 57 < (s.getD (a + k).toNat 0).toNat
section
variable {s : List UInt8} {a k x : Int}
theorem DgI.new (s : List UInt8) (a : Int) : DgI s a 0 0 := ⟨by omega, by omega, Or.inl rfl, by simp, by simp [valD]⟩
theorem drop_getD {s : List UInt8} {a k : Int} (ha : 0 ≤ a) (hk : 0 ≤ k) : (s.drop a.toNat).getD k.toNat 0 = s.getD (a + k).toNat 0 := by
  rw [List.getD_eq_getElem?_getD, List.getElem?_drop, List.getD_eq_getElem?_getD, show a.toNat + k.toNat = (a + k).toNat by omega]
theorem DgI.bound (h : DgI s a k x) : 0 ≤ x ∧ x ≤ 99999999 := by
  have h1 := valD_lt _ 0 h.dg
  have h2 : ((s.drop a.toNat).take k.toNat).length ≤ 8 := by rw [List.length_take]; have := h.k8; omega
  have h3 : 10 ^ ((s.drop a.toNat).take k.toNat).length ≤ 10 ^ 8 := Nat.pow_le_pow_right (by omega) h2
  have := h.xe; omega
theorem DgI.step (h : DgI s a k x) (ha : 0 ≤ a) (hk : k < 8) (hl : a + k < s.length) (h1 : 48 ≤ (s.getD (a + k).toNat 0).toNat) (h2 : (s.getD (a + k).toNat 0).toNat ≤ 57) : DgI s a (k + 1) (10 * x + (((s.getD (a + k).toNat 0).toNat - 48 : Nat) : Int)) := by
  have e := take_at' (os := s.drop a.toNat) (0 : UInt8) h.k0 (by rw [List.length_drop]; omega)
  rw [drop_getD ha h.k0] at e
  refine ⟨by have := h.k0; omega, by omega, Or.inr (by omega), ?_, ?_⟩
  · rw [e]; intro b hb
    rcases List.mem_append.1 hb with hb | hb
    · exact h.dg b hb
    · simp only [List.mem_singleton] at hb; subst hb; exact ⟨h1, h2⟩
  · rw [e, valD_app, h.xe]; simp [valD]
theorem DgF.peel {y : Int} {c : UInt8} {r : List UInt8} (h : DgF s a k x) (ha : 0 ≤ a) (h0 : 0 ≤ y) (h1 : y ≤ 99999999) (e : s.drop a.toNat = Lib.itoa y ++ c :: r) (hc : c.toNat < 48 ∨ 57 < c.toNat) : x = y ∧ a + k < s.length ∧ s.drop (a + k + 1).toNat = r := by
  have hm := itoa_len8 h0 h1
  have hk0 := h.k0
  have hlen := congrArg List.length e
  rw [List.length_drop, List.length_append, List.length_cons] at hlen
  have h2 : k.toNat ≤ (Lib.itoa y).length := by
    apply Decidable.byContradiction
    intro hn
    have hmem : c ∈ (s.drop a.toNat).take k.toNat := by
      rw [e, List.take_append, List.mem_append]
      right
      rw [show k.toNat - (Lib.itoa y).length = (k.toNat - (Lib.itoa y).length - 1) + 1 by omega, List.take_succ_cons]
      simp
    have := h.dg c hmem; omega
  have h3 : (Lib.itoa y).length ≤ k.toNat := by
    apply Decidable.byContradiction
    intro hn
    have hg : s.getD (a + k).toNat 0 ∈ Lib.itoa y := by
      rw [← drop_getD ha hk0, e, List.getD_eq_getElem?_getD, List.getElem?_append_left (by omega), List.getElem?_eq_getElem (by omega)]
      exact List.getElem_mem _
    have hd := itoa_digits h0 _ hg
    rcases h.out with h5 | h5 | h5 | h5 <;> omega
  have h4 : k.toNat = (Lib.itoa y).length := by omega
  have e1 : (s.drop a.toNat).take k.toNat = Lib.itoa y := by rw [e, h4, List.take_left]
  refine ⟨?_, by omega, ?_⟩
  · rw [h.xe, e1, Lib.itoa, if_neg (by omega), valD_digits]; omega
  · rw [show (a + k + 1).toNat = a.toNat + ((Lib.itoa y).length + 1) by omega, ← List.drop_drop, e, ← List.drop_drop, List.drop_left]; rfl
end
theorem acMay_ref (a : Ac) : acMay a = (decide (0 ≤ a.cut) && decide (a.cut ≤ 16) && decide (0 ≤ a.keep) && decide (a.keep ≤ 2048) && decide (a.text.length ≤ 1200) && decide (0 ≤ a.by_) && decide (a.by_ ≤ 1048576) && !(decide (a.cut = 0) && !decide (a.keep = 0) && !decide (a.kind = 3)) &&
    (if a.kind = 0 then decide (a.by_ = 0) else if a.kind = 1 then decide (a.by_ = 0) && decide (a.cut = 0) else if a.kind = 2 then decide (a.text = []) else if a.kind = 3 then decide (a.text = []) && decide (a.by_ = 0) && decide (a.cut = 0) else false)) := by
  rw [Bool.eq_iff_iff]
  by_cases h0 : a.kind = 0
  · by_cases hc : a.cut = 0 <;> simp [acMay, acN, acB, lett, h0, hc] <;> omega
  · by_cases h1 : a.kind = 1
    · by_cases hc : a.cut = 0 <;> simp [acMay, acN, acB, lett, h1, hc] <;> omega
    · by_cases h2 : a.kind = 2
      · by_cases hx : a.text = []
        · have hx1 : a.text.length = 0 := by rw [hx]; rfl
          by_cases hc : a.cut = 0 <;> simp [acMay, acN, acB, lett, h2, hc, hx] <;> omega
        · have hx1 : 0 < a.text.length := List.length_pos_iff.2 hx
          by_cases hc : a.cut = 0 <;> simp [acMay, acN, acB, lett, h2, hc, hx] <;> omega
      · by_cases h3 : a.kind = 3
        · by_cases hx : a.text = []
          · have hx1 : a.text.length = 0 := by rw [hx]; rfl
            by_cases hc : a.cut = 0 <;> simp [acMay, acN, acB, lett, h3, hc, hx] <;> omega
          · have hx1 : 0 < a.text.length := List.length_pos_iff.2 hx
            by_cases hc : a.cut = 0 <;> simp [acMay, acN, acB, lett, h3, hc, hx] <;> omega
        · simp [acMay, lett, h0, h1, h2, h3]
/-- the kind told by a letter, of the first so many -/
def kx (c : UInt8) (k : Int) : Int := if c = 100 ∧ 0 < k then 0 else if c = 113 ∧ 1 < k then 1 else if c = 116 ∧ 2 < k then 2 else if c = 99 ∧ 3 < k then 3 else -1
theorem kx_4 (c : UInt8) : kx c 4 = kindA [c] := by
  unfold kx kindA
  simp
theorem kx_0 (c : UInt8) : kx c 0 = -1 := by unfold kx; simp
def ltr : List UInt8 := [100, 113, 116, 99]
theorem kx_step {c : UInt8} {k : Int} (h0 : 0 ≤ k) (h1 : k < 4) : kx c (k + 1) = if c = ltr.getD k.toNat 0 then k else kx c k := by
  have hk : k = 0 ∨ k = 1 ∨ k = 2 ∨ k = 3 := by omega
  rcases hk with rfl | rfl | rfl | rfl
  · by_cases h : c = 100 <;> simp [kx, ltr, h]
  · by_cases h : c = 113
    · subst h; decide
    · by_cases h2 : c = 100 <;> simp [kx, ltr, h, h2]
  · by_cases h : c = 116
    · subst h; decide
    · by_cases h2 : c = 100
      · subst h2; decide
      · by_cases h3 : c = 113 <;> simp [kx, ltr, h, h2, h3]
  · by_cases h : c = 99
    · subst h; decide
    · by_cases h2 : c = 100
      · subst h2; decide
      · by_cases h3 : c = 113
        · subst h3; decide
        · by_cases h4 : c = 116 <;> simp [kx, ltr, h, h2, h3, h4]
/-- the state of the document's reading -/
structure RPr (s : List UInt8) (out : List Ac) (a : Int) (bad : Bool) : Prop where
  a0 : 0 ≤ a
  hit : ∀ us, showOk us = true → shows us = s → bad = false ∧ a ≤ s.length ∧ ∃ bs, us = out ++ bs ∧ s.drop a.toNat = shows bs
theorem RPr.new (s : List UInt8) : RPr s [] 0 false := ⟨by omega, fun us _ e => ⟨rfl, by omega, us, rfl, e.symm⟩⟩
section
variable {s : List UInt8} {out : List Ac} {a : Int} {bad : Bool}
theorem RPr.peel (h : RPr s out a bad) (hl : a < s.length) {k1 x1 k2 x2 k3 x3 k4 x4 : Int} (d1 : DgF s (a + 1) k1 x1) (d2 : DgF s (a + 1 + k1 + 1) k2 x2) (d3 : DgF s (a + 1 + k1 + 1 + k2 + 1) k3 x3) (d4 : DgF s (a + 1 + k1 + 1 + k2 + 1 + k3 + 1) k4 x4) {us : List Ac} (hu : showOk us = true) (hs : shows us = s) :
    bad = false ∧ ∃ b bs, us = out ++ b :: bs ∧ b = ⟨kindA [s.getD a.toNat 0], b.text, x1, x2, x3⟩ ∧ (b.text.length : Int) = x4 ∧ a + 1 + k1 < s.length ∧ a + 1 + k1 + 1 + k2 < s.length ∧ a + 1 + k1 + 1 + k2 + 1 + k3 < s.length ∧ a + 1 + k1 + 1 + k2 + 1 + k3 + 1 + k4 < s.length ∧ s.drop (a + 1 + k1 + 1 + k2 + 1 + k3 + 1 + k4 + 1).toNat = b.text ++ shows bs := by
  obtain ⟨hb, hle, bs, rfl, e⟩ := h.hit us hu hs
  refine ⟨hb, ?_⟩
  have ha := h.a0
  cases bs with
  | nil => have := congrArg List.length e; rw [List.length_drop] at this; simp [shows] at this; omega
  | cons b bs =>
    have hmay : acMay b = true := by
      simp only [showOk, Bool.and_eq_true, List.all_eq_true] at hu; exact hu.1 b (by simp)
    obtain ⟨hk, ht, hb1, hc1, hk1⟩ := may_ac hmay
    obtain ⟨q1, q2⟩ := kind_lett hk
    have e2 : s.drop a.toNat = lett b.kind ++ (Lib.itoa b.by_ ++ 44 :: (Lib.itoa b.cut ++ 44 :: (Lib.itoa b.keep ++ 44 :: (Lib.itoa b.text.length ++ 58 :: (b.text ++ shows bs))))) := by
      rw [e]; simp [shows, acT, acH]
    have hc : [s.getD a.toNat 0] = lett b.kind := by
      have h1 := drop_getD (s := s) (k := 0) ha (by omega)
      rw [e2] at h1
      obtain ⟨z, hz⟩ := List.length_eq_one_iff.1 q2
      rw [hz] at h1 ⊢
      simp only [Int.add_zero] at h1
      rw [← h1]; rfl
    have e3 : s.drop (a + 1).toNat = Lib.itoa b.by_ ++ 44 :: (Lib.itoa b.cut ++ 44 :: (Lib.itoa b.keep ++ 44 :: (Lib.itoa b.text.length ++ 58 :: (b.text ++ shows bs)))) := by
      rw [show (a + 1).toNat = a.toNat + 1 by omega, ← List.drop_drop, e2, List.drop_left' q2]
    have k1' := d1.k0; have k2' := d2.k0; have k3' := d3.k0; have k4' := d4.k0
    obtain ⟨r1, l1, f1⟩ := d1.peel (by omega) hb1.1 (by omega) e3 (by decide)
    obtain ⟨r2, l2, f2⟩ := d2.peel (by omega) hc1.1 (by omega) f1 (by decide)
    obtain ⟨r3, l3, f3⟩ := d3.peel (by omega) hk1.1 (by omega) f2 (by decide)
    obtain ⟨r4, l4, f4⟩ := d4.peel (by omega) (by omega) (by omega) f3 (by decide)
    refine ⟨b, bs, rfl, ?_, r4.symm, l1, l2, l3, l4, f4⟩
    rw [hc, q1, r1, r2, r3]
/-- an act read whole -/
theorem RPr.step (h : RPr s out a bad) (hl : a < s.length) {k1 x1 k2 x2 k3 x3 k4 x4 : Int} (d1 : DgF s (a + 1) k1 x1) (d2 : DgF s (a + 1 + k1 + 1) k2 x2) (d3 : DgF s (a + 1 + k1 + 1 + k2 + 1) k3 x3) (d4 : DgF s (a + 1 + k1 + 1 + k2 + 1 + k3 + 1) k4 x4) (hx : x4 ≤ s.length - (a + 1 + k1 + 1 + k2 + 1 + k3 + 1 + k4 + 1)) :
    RPr s (out ++ [⟨kindA [s.getD a.toNat 0], (s.drop (a + 1 + k1 + 1 + k2 + 1 + k3 + 1 + k4 + 1).toNat).take x4.toNat, x1, x2, x3⟩]) (a + 1 + k1 + 1 + k2 + 1 + k3 + 1 + k4 + 1 + x4) false := by
  have ha := h.a0
  have k1' := d1.k0; have k2' := d2.k0; have k3' := d3.k0; have k4' := d4.k0; have b4 := d4.bound
  refine ⟨by omega, fun us hu hs => ⟨rfl, by omega, ?_⟩⟩
  obtain ⟨hb, b, bs, rfl, e, ht, l1, l2, l3, l4, f4⟩ := h.peel hl d1 d2 d3 d4 hu hs
  refine ⟨bs, ?_, ?_⟩
  · rw [f4, List.take_left' (by omega), ← e]; simp
  · rw [show (a + 1 + k1 + 1 + k2 + 1 + k3 + 1 + k4 + 1 + x4).toNat = (a + 1 + k1 + 1 + k2 + 1 + k3 + 1 + k4 + 1).toNat + x4.toNat by omega, ← List.drop_drop, f4, List.drop_left' (by omega)]
/-- an act that is none -/
theorem RPr.fail (h : RPr s out a bad) (hl : a < s.length) {k1 x1 k2 x2 k3 x3 k4 x4 p : Int} {o : List Ac} (d1 : DgF s (a + 1) k1 x1) (d2 : DgF s (a + 1 + k1 + 1) k2 x2) (d3 : DgF s (a + 1 + k1 + 1 + k2 + 1) k3 x3) (d4 : DgF s (a + 1 + k1 + 1 + k2 + 1 + k3 + 1) k4 x4)
    (hx : bad = true ∨ s.length ≤ a + 1 + k1 ∨ s.length ≤ a + 1 + k1 + 1 + k2 ∨ s.length ≤ a + 1 + k1 + 1 + k2 + 1 + k3 ∨ s.length ≤ a + 1 + k1 + 1 + k2 + 1 + k3 + 1 + k4 ∨ s.length - (a + 1 + k1 + 1 + k2 + 1 + k3 + 1 + k4 + 1) < x4) (hp : 0 ≤ p) : RPr s o p true := by
  refine ⟨hp, fun us hu hs => ?_⟩
  exfalso
  have ha := h.a0
  have k1' := d1.k0; have k2' := d2.k0; have k3' := d3.k0; have k4' := d4.k0; have b4 := d4.bound
  obtain ⟨hb, b, bs, rfl, e, ht, l1, l2, l3, l4, f4⟩ := h.peel hl d1 d2 d3 d4 hu hs
  have := congrArg List.length f4
  rw [List.length_drop, List.length_append] at this
  rcases hx with hx | hx | hx | hx | hx | hx
  · rw [hb] at hx; cases hx
  all_goals omega
theorem RPr.end (h : RPr s out a bad) (hd : s.length ≤ a ∨ bad = true ∨ 256 < out.length) : parseP s = (if (showP out).2 = 0 ∧ (showP out).1 = s then (out, 0) else ([], 2400)) := by
  split
  · rename_i hq
    have ho : showOk out = true := by
      unfold showP at hq
      split at hq
      · assumption
      · exact absurd hq.1 (by decide)
    refine parse_of ho ?_
    have := hq.2
    rwa [showP, if_pos ho] at this
  · rename_i hq
    refine parse_no ?_
    rintro ⟨us, hu, hs⟩
    obtain ⟨hb, hle, bs, rfl, e⟩ := h.hit us hu hs
    have hn : bs = [] := by
      rcases hd with hd | hd | hd
      · rw [List.drop_of_length_le (by omega)] at e
        cases bs with
        | nil => rfl
        | cons b bs => have := congrArg List.length e; have h2 := acT_ne b; simp only [shows, List.flatMap_cons, List.length_append, List.length_nil] at this; omega
      · rw [hb] at hd; cases hd
      · simp only [showOk, Bool.and_eq_true, decide_eq_true_eq, List.length_append] at hu; omega
    subst hn
    rw [List.append_nil] at hu hs
    exact hq (by rw [showP, if_pos hu]; exact ⟨rfl, hs⟩)
end
end Go.Proofs.YtagiajnpnjakhaaDoor
