/- Packets, without the program: a packet's bytes give it back; options of three parts. Conditions are the lemmas' own. -/
import Derived.Test.YtkjcmdgideddnaaPk6
set_option linter.unusedVariables false
set_option linter.unusedSimpArgs false
namespace Go.Proofs.Ytkjcmdgideddnaa
open Go Go.RowKit
def inb (x : Int) (k : Nat) : Bool := decide (0 ≤ x) && decide (x < 2 ^ k)
theorem pkMay_eq (p : Pkt) : pkMay p = (inb p.op 8 && inb p.htype 8 && inb p.hops 8 && inb p.xid 32 && inb p.secs 16 && inb p.flags 16 && inb p.ciaddr 32 && inb p.yiaddr 32 && inb p.siaddr 32 && inb p.giaddr 32 && decide (p.chaddr.length ≤ 16) && optsMay p.opts) := by
  have hr : List.range (fieldsL 0 1).length = [0, 1, 2, 3, 4, 5, 6, 7, 8, 9, 10] := rfl
  have e1 : (256 : Int) ^ ((1 : Int).toNat) = 2 ^ 8 := by decide
  have e2 : (256 : Int) ^ ((2 : Int).toNat) = 2 ^ 16 := by decide
  have e4 : (256 : Int) ^ ((4 : Int).toNat) = 2 ^ 32 := by decide
  have f1 : ∀ x, fits x 1 = inb x 8 := fun x => by rw [fits, inb, e1]
  have f2 : ∀ x, fits x 2 = inb x 16 := fun x => by rw [fits, inb, e2]
  have f4 : ∀ x, fits x 4 = inb x 32 := fun x => by rw [fits, inb, e4]
  rw [pkMay, anyOdd, hr]
  simp only [List.any_cons, List.any_nil, fieldsL, FV, List.getD_cons_zero, List.getD_cons_succ, f1, f2, f4]
  have hl : p.chaddr.length ≤ 16 → inb p.chaddr.length 8 = true := fun h => by simp only [inb, Bool.and_eq_true, decide_eq_true_eq]; omega
  rw [Bool.eq_iff_iff]
  simp only [Bool.and_eq_true, Bool.not_eq_true', Bool.or_eq_false_iff, Bool.not_eq_false', decide_eq_true_eq]
  constructor
  · rintro ⟨⟨a, b⟩, c1, c2, c3, c4, c5, c6, c7, c8, c9, c10, c11, _⟩; exact ⟨⟨⟨⟨⟨⟨⟨⟨⟨⟨⟨c1, c2⟩, c4⟩, c5⟩, c6⟩, c7⟩, c8⟩, c9⟩, c10⟩, c11⟩, a⟩, b⟩
  · rintro ⟨⟨⟨⟨⟨⟨⟨⟨⟨⟨⟨c1, c2⟩, c4⟩, c5⟩, c6⟩, c7⟩, c8⟩, c9⟩, c10⟩, c11⟩, a⟩, b⟩; exact ⟨⟨a, b⟩, c1, c2, hl a, c4, c5, c6, c7, c8, c9, c10, c11, trivial⟩
theorem hdP_more (p : Pkt) (l : Int) (i : Nat) : ∀ n, ∃ r, hdP p l (i + n) = hdP p l i ++ r
  | 0 => ⟨[], by simp⟩
  | n + 1 => by
    obtain ⟨r, hr⟩ := hdP_more p l i n
    exact ⟨r ++ beb ((FV p l).getD (i + n) 0) (PFK.getD (i + n) 0).toNat, by rw [hdP, ← Nat.add_assoc, List.range_succ, List.flatMap_append, ← hdP, hr]; simp⟩
theorem hdP_at (p : Pkt) (l : Int) {i : Nat} (hi : i < 11) : ∃ r, hdP p l 11 = hdP p l i ++ beb ((FV p l).getD i 0) (PFK.getD i 0).toNat ++ r := by
  obtain ⟨r, hr⟩ := hdP_more p l (i + 1) (10 - i)
  refine ⟨r, ?_⟩
  rw [show i + 1 + (10 - i) = 11 by omega] at hr
  rw [hr, hdP, List.range_succ, List.flatMap_append, ← hdP]; simp
theorem hdP_off (p : Pkt) (l : Int) {i : Nat} (hi : i < 11) : ((hdP p l i).length : Int) = OFF.getD i 0 ∧ PFK.getD i 0 = ((PFK.getD i 0).toNat : Int) := by
  rcases (by omega : i = 0 ∨ i = 1 ∨ i = 2 ∨ i = 3 ∨ i = 4 ∨ i = 5 ∨ i = 6 ∨ i = 7 ∨ i = 8 ∨ i = 9 ∨ i = 10) with rfl | rfl | rfl | rfl | rfl | rfl | rfl | rfl | rfl | rfl | rfl <;> exact ⟨by simp [hdP, List.range_succ], by decide⟩
theorem pk_num (p : Pkt) (z : List UInt8) {i : Nat} (hi : i < 11) : slc (pkBytes p ++ z) (OFF.getD i 0) (OFF.getD i 0 + PFK.getD i 0) = beb ((FV p p.chaddr.length).getD i 0) (PFK.getD i 0).toNat := by
  obtain ⟨r, hr⟩ := hdP_at p p.chaddr.length hi
  have ho := hdP_off p p.chaddr.length hi
  have : pkBytes p ++ z = hdP p p.chaddr.length i ++ beb ((FV p p.chaddr.length).getD i 0) (PFK.getD i 0).toNat ++ (r ++ p.chaddr ++ List.replicate (208 - p.chaddr.length) 0 ++ (cookieB ++ (putR p.opts).1) ++ z) := by
    rw [pkBytes, hr]; simp only [List.append_assoc]
  rw [this]
  exact slc_mid _ _ _ ho.1.symm (by rw [beb_len]; omega)
theorem pk_ch (p : Pkt) (z : List UInt8) : slc (pkBytes p ++ z) 28 (28 + (p.chaddr.length : Int)) = p.chaddr := by
  have hl := hdP_len p p.chaddr.length
  have : pkBytes p ++ z = hdP p p.chaddr.length 11 ++ p.chaddr ++ (List.replicate (208 - p.chaddr.length) 0 ++ (cookieB ++ (putR p.opts).1) ++ z) := by
    rw [pkBytes]; simp only [List.append_assoc]
  rw [this]
  exact slc_mid _ _ _ (by rw [hl]; rfl) (by rw [hl]; rfl)
theorem pk_zero (p : Pkt) (z : List UInt8) (h : p.chaddr.length ≤ 16) : slc (pkBytes p ++ z) 44 236 = List.replicate 192 0 := by
  have hl := hdP_len p p.chaddr.length
  have : pkBytes p ++ z = (hdP p p.chaddr.length 11 ++ p.chaddr ++ List.replicate (16 - p.chaddr.length) 0) ++ List.replicate 192 0 ++ ((cookieB ++ (putR p.opts).1) ++ z) := by
    rw [pkBytes, show 208 - p.chaddr.length = (16 - p.chaddr.length) + 192 by omega, ← List.replicate_append_replicate]; simp only [List.append_assoc]
  rw [this]
  exact slc_mid _ _ _ (by simp only [List.length_append, List.length_replicate]; omega) (by simp only [List.length_append, List.length_replicate]; omega)
theorem ck_len : cookieB.length = 4 := rfl
theorem pk_ck (p : Pkt) (z : List UInt8) (h : p.chaddr.length ≤ 16) : slc (pkBytes p ++ z) 236 240 = cookieB ∧ (pkBytes p ++ z).drop 240 = (putR p.opts).1 ++ z ∧ (pkBytes p).length = 240 + (putR p.opts).1.length := by
  have hl := hdP_len p p.chaddr.length
  have hc := ck_len
  have : pkBytes p ++ z = (hdP p p.chaddr.length 11 ++ p.chaddr ++ List.replicate (208 - p.chaddr.length) 0) ++ cookieB ++ ((putR p.opts).1 ++ z) := by
    rw [pkBytes]; simp only [List.append_assoc]
  refine ⟨?_, ?_, ?_⟩
  · rw [this]; exact slc_mid _ _ _ (by simp only [List.length_append, List.length_replicate]; omega) (by simp only [List.length_append, List.length_replicate]; omega)
  · rw [this]; exact List.drop_left' (by simp only [List.length_append, List.length_replicate]; omega)
  · rw [pkBytes]; simp only [List.length_append, List.length_replicate]; omega
theorem pkPut_ok {p : Pkt} (h : (pkPut p).2 = 0) : pkPut p = (pkBytes p, 0) ∧ pkMay p = true ∧ (putR p.opts).2 = 0 := by
  unfold pkPut at h ⊢
  split at h
  · cases h
  · rename_i hn
    rw [if_neg hn]
    refine ⟨rfl, ?_, ?_⟩
    · cases hm : pkMay p with
      | true => rfl
      | false => exact absurd (.inr hm) hn
    · exact Decidable.byContradiction fun e => hn (.inl e)
theorem pkPut_nok {p : Pkt} (h : (pkPut p).2 ≠ 0) : pkPut p = ([], 700) := by
  unfold pkPut at h ⊢
  split at h
  · rename_i hn; rw [if_pos hn]
  · exact absurd rfl h
theorem inb_num {x : Int} {k j : Nat} (h : inb x k = true) (e : (2 : Int) ^ k = 256 ^ j) : numI (beb x j) = x := by
  simp only [inb, Bool.and_eq_true, decide_eq_true_eq] at h
  exact numI_beb j x h.1 (by rw [← e]; exact h.2)
/-- the numbers of a packet that may be come back -/
theorem pk_nums {p : Pkt} (hm : pkMay p = true) (z : List UInt8) {i : Nat} (hi : i < 11) : nmS (pkBytes p ++ z) (OFF.getD i 0) (OFF.getD i 0 + PFK.getD i 0) = (FV p p.chaddr.length).getD i 0 := by
  rw [nmS, pk_num p z hi]
  rw [pkMay_eq] at hm
  simp only [Bool.and_eq_true, decide_eq_true_eq] at hm
  obtain ⟨⟨⟨⟨⟨⟨⟨⟨⟨⟨⟨c1, c2⟩, c4⟩, c5⟩, c6⟩, c7⟩, c8⟩, c9⟩, c10⟩, c11⟩, a⟩, b⟩ := hm
  have c3 : inb (p.chaddr.length : Int) 8 = true := by simp only [inb, Bool.and_eq_true, decide_eq_true_eq]; omega
  have g1 : (2 : Int) ^ 8 = 256 ^ 1 := by decide
  have g2 : (2 : Int) ^ 16 = 256 ^ 2 := by decide
  have g4 : (2 : Int) ^ 32 = 256 ^ 4 := by decide
  rcases (by omega : i = 0 ∨ i = 1 ∨ i = 2 ∨ i = 3 ∨ i = 4 ∨ i = 5 ∨ i = 6 ∨ i = 7 ∨ i = 8 ∨ i = 9 ∨ i = 10) with rfl | rfl | rfl | rfl | rfl | rfl | rfl | rfl | rfl | rfl | rfl
  · exact inb_num c1 g1
  · exact inb_num c2 g1
  · exact inb_num c3 g1
  · exact inb_num c4 g1
  · exact inb_num c5 g4
  · exact inb_num c6 g2
  · exact inb_num c7 g2
  · exact inb_num c8 g4
  · exact inb_num c9 g4
  · exact inb_num c10 g4
  · exact inb_num c11 g4
theorem getR_put {os : List Opt} (h : (putR os).2 = 0) (z : List UInt8) : getR ((putR os).1 ++ z) = (os, 0) ∧ optsMay os = true ∧ 1 ≤ (putR os).1.length := by
  unfold putR at h ⊢
  split at h
  · rename_i hm
    rw [if_pos hm]
    split at h
    · rename_i hl
      rw [if_pos hl]
      have := get_put hm 0 z
      simp only [List.replicate_zero, List.nil_append] at this
      refine ⟨by rw [getR, this], hm, by simp [putOpts]⟩
    · cases h
  · cases h
theorem fdF_none {c : Int} : ∀ {os : List Opt}, (∀ o ∈ os, o.code ≠ c) → fdF c os = ([], false)
  | [], _ => rfl
  | o :: r, h => by rw [fdF, if_neg (h o (by simp)), fdF_none (fun x hx => h x (by simp [hx]))]
theorem band0 (y : Int) (h : y = 1 ∨ y = 2) : bits .and .i64 0 y = 0 := by rcases h with rfl | rfl <;> rfl
theorem stP_0 (s : List UInt8) : stP s 0 2 = getR (s.drop 240) := by
  show stepP s 0 (2, 44, 108) (stepP s 0 (1, 108, 236) (getR (s.drop 240))) = _
  have h1 : ∀ (b : Int × Int × Int) x, b.1 = 1 ∨ b.1 = 2 → stepP s 0 b x = x := fun b x hb => by rw [stepP, if_neg (fun e => e.1 (band0 _ hb))]
  rw [h1 _ _ (.inr rfl), h1 _ _ (.inl rfl)]
theorem ptR_put {p : Pkt} (h0 : (pkPut p).2 = 0) (h52 : ∀ o ∈ p.opts, o.code ≠ 52) (z : List UInt8) : ptR (pkBytes p ++ z) = (p.opts, true) := by
  obtain ⟨_, hm, hp⟩ := pkPut_ok h0
  have h16 : p.chaddr.length ≤ 16 := by simp only [pkMay, Bool.and_eq_true, decide_eq_true_eq] at hm; exact hm.1.1
  have hg := getR_put hp z
  have hd := (pk_ck p z h16).2.1
  have hw : whS (pkBytes p ++ z) = 0 := by rw [whS, hd, hg.1, fdF_none h52]; rfl
  have ha : allP (pkBytes p ++ z) = p.opts := by rw [allP, hw, if_pos rfl, stP_0, hd, hg.1]
  rw [ptR, ha, hw, stP_0, hd, hg.1, hg.2.1]; rfl
theorem pk_back {p : Pkt} (h0 : (pkPut p).2 = 0) (h52 : ∀ o ∈ p.opts, o.code ≠ 52) (z : List UInt8) : pkGet ((pkPut p).1 ++ z) = (p, 0) ∧ 240 < (pkPut p).1.length := by
  obtain ⟨he, hm, hp⟩ := pkPut_ok h0
  have h16 : p.chaddr.length ≤ 16 := by simp only [pkMay, Bool.and_eq_true, decide_eq_true_eq] at hm; exact hm.1.1
  have hg := getR_put hp z
  have hk := pk_ck p z h16
  have n := fun i (hi : i < 11) => pk_nums hm z hi
  have n2 : nmS (pkBytes p ++ z) 2 3 = p.chaddr.length := n 2 (by decide)
  rw [he]
  dsimp only
  refine ⟨?_, by omega⟩
  rw [pkGet, if_neg (by rintro (h | h); (rw [List.length_append] at h; omega); exact h hk.1), if_neg (by rw [n2, ptR_put h0 h52 z]; rintro (h | h); omega; cases h), pkOf, n2, pk_ch, ptR_put h0 h52 z]
  rw [show nmS (pkBytes p ++ z) 0 1 = p.op from n 0 (by decide), show nmS (pkBytes p ++ z) 1 2 = p.htype from n 1 (by decide), show nmS (pkBytes p ++ z) 3 4 = p.hops from n 3 (by decide), show nmS (pkBytes p ++ z) 4 8 = p.xid from n 4 (by decide), show nmS (pkBytes p ++ z) 8 10 = p.secs from n 5 (by decide), show nmS (pkBytes p ++ z) 10 12 = p.flags from n 6 (by decide), show nmS (pkBytes p ++ z) 12 16 = p.ciaddr from n 7 (by decide), show nmS (pkBytes p ++ z) 16 20 = p.yiaddr from n 8 (by decide), show nmS (pkBytes p ++ z) 20 24 = p.siaddr from n 9 (by decide), show nmS (pkBytes p ++ z) 24 28 = p.giaddr from n 10 (by decide)]
end Go.Proofs.Ytkjcmdgideddnaa
