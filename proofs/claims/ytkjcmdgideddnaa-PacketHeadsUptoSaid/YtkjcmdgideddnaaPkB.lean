/- Several texts in one (PkB). Their conditions are their own. -/
import Derived.Test.YtkjcmdgideddnaaPkA
import Derived.Test.YtkjcmdgideddnaaRefN
set_option linter.unusedVariables false
set_option linter.unusedSimpArgs false
namespace Go.Proofs.Ytkjcmdgideddnaa
open Go Go.RowKit
def inb (x : Int) (k : Nat) : Bool := decide (0 ≤ x) && decide (x < 2 ^ k)
theorem pkMay_eq (p : Pkt) : pkMay p = (inb p.op 8 && inb p.htype 8 && inb p.hops 8 && inb p.xid 32 && inb p.secs 16 && inb p.flags 16 && inb p.ciaddr 32 && inb p.yiaddr 32 && inb p.siaddr 32 && inb p.giaddr 32 && decide (p.chaddr.length ≤ 16) && optsMay p.opts) := by
  have hr : List.range (fieldsL 0 1).length = [0, 1, 2, 3, 4, 5, 6, 7, 8, 9, 10] := rfl
  have e1 : (256 : Int) ^ ((1 : Int).toNat) = 2 ^ 8 := by decide
  have e2 : (256 : Int) ^ ((2 : Int).toNat) = 2 ^ 16 := by decide
  have e4 : (256 : Int) ^ ((4 : Int).toNat) = 2 ^ 32 := by decide
  have f1 : ∀ x, fits x 1 = inb x 8 := fun x => by rw [fits, inb, e1]
  have f2 : ∀ x, fits x 2 = inb x 16 := fun x => by rw [fits, inb, e2]
  have f4 : ∀ x, fits x 4 = inb x 32 := fun x => by rw [fits, inb, e4]
  rw [pkMay, anyOdd, hr]
  simp only [List.any_cons, List.any_nil, fieldsL, FV, List.getD_cons_zero, List.getD_cons_succ, f1, f2, f4]
  have hl : p.chaddr.length ≤ 16 → inb p.chaddr.length 8 = true := fun h => by simp only [inb, Bool.and_eq_true, decide_eq_true_eq]; omega
  rw [Bool.eq_iff_iff]
  simp only [Bool.and_eq_true, Bool.not_eq_true', Bool.or_eq_false_iff, Bool.not_eq_false', decide_eq_true_eq]
  constructor
  · rintro ⟨⟨a, b⟩, c1, c2, c3, c4, c5, c6, c7, c8, c9, c10, c11, _⟩; exact ⟨⟨⟨⟨⟨⟨⟨⟨⟨⟨⟨c1, c2⟩, c4⟩, c5⟩, c6⟩, c7⟩, c8⟩, c9⟩, c10⟩, c11⟩, a⟩, b⟩
  · rintro ⟨⟨⟨⟨⟨⟨⟨⟨⟨⟨⟨c1, c2⟩, c4⟩, c5⟩, c6⟩, c7⟩, c8⟩, c9⟩, c10⟩, c11⟩, a⟩, b⟩; exact ⟨⟨a, b⟩, c1, c2, hl a, c4, c5, c6, c7, c8, c9, c10, c11, trivial⟩
theorem hdP_more (p : Pkt) (l : Int) (i : Nat) : ∀ n, ∃ r, hdP p l (i + n) = hdP p l i ++ r
  | 0 => ⟨[], by simp⟩
  | n + 1 => by
    obtain ⟨r, hr⟩ := hdP_more p l i n
    exact ⟨r ++ beb ((FV p l).getD (i + n) 0) (PFK.getD (i + n) 0).toNat, by rw [hdP, ← Nat.add_assoc, List.range_succ, List.flatMap_append, ← hdP, hr]; simp⟩
theorem hdP_at (p : Pkt) (l : Int) {i : Nat} (hi : i < 11) : ∃ r, hdP p l 11 = hdP p l i ++ beb ((FV p l).getD i 0) (PFK.getD i 0).toNat ++ r := by
  obtain ⟨r, hr⟩ := hdP_more p l (i + 1) (10 - i)
  refine ⟨r, ?_⟩
  rw [show i + 1 + (10 - i) = 11 by omega] at hr
  rw [hr, hdP, List.range_succ, List.flatMap_append, ← hdP]; simp
theorem hdP_off (p : Pkt) (l : Int) {i : Nat} (hi : i < 11) : ((hdP p l i).length : Int) = OFF.getD i 0 ∧ PFK.getD i 0 = ((PFK.getD i 0).toNat : Int) := by
  rcases (by omega : i = 0 ∨ i = 1 ∨ i = 2 ∨ i = 3 ∨ i = 4 ∨ i = 5 ∨ i = 6 ∨ i = 7 ∨ i = 8 ∨ i = 9 ∨ i = 10) with rfl | rfl | rfl | rfl | rfl | rfl | rfl | rfl | rfl | rfl | rfl <;> exact ⟨by simp [hdP, List.range_succ], by decide⟩
theorem pk_num (p : Pkt) (z : List UInt8) {i : Nat} (hi : i < 11) : slc (pkBytes p ++ z) (OFF.getD i 0) (OFF.getD i 0 + PFK.getD i 0) = beb ((FV p p.chaddr.length).getD i 0) (PFK.getD i 0).toNat := by
  obtain ⟨r, hr⟩ := hdP_at p p.chaddr.length hi
  have ho := hdP_off p p.chaddr.length hi
  have : pkBytes p ++ z = hdP p p.chaddr.length i ++ beb ((FV p p.chaddr.length).getD i 0) (PFK.getD i 0).toNat ++ (r ++ p.chaddr ++ List.replicate (208 - p.chaddr.length) 0 ++ (cookieB ++ (putR p.opts).1) ++ z) := by
    rw [pkBytes, hr]; simp only [List.append_assoc]
  rw [this]
  exact slc_mid _ _ _ ho.1.symm (by rw [beb_len]; omega)
theorem pk_ch (p : Pkt) (z : List UInt8) : slc (pkBytes p ++ z) 28 (28 + (p.chaddr.length : Int)) = p.chaddr := by
  have hl := hdP_len p p.chaddr.length
  have : pkBytes p ++ z = hdP p p.chaddr.length 11 ++ p.chaddr ++ (List.replicate (208 - p.chaddr.length) 0 ++ (cookieB ++ (putR p.opts).1) ++ z) := by
    rw [pkBytes]; simp only [List.append_assoc]
  rw [this]
  exact slc_mid _ _ _ (by rw [hl]; rfl) (by rw [hl]; rfl)
theorem pk_zero (p : Pkt) (z : List UInt8) (h : p.chaddr.length ≤ 16) : slc (pkBytes p ++ z) 44 236 = List.replicate 192 0 := by
  have hl := hdP_len p p.chaddr.length
  have : pkBytes p ++ z = (hdP p p.chaddr.length 11 ++ p.chaddr ++ List.replicate (16 - p.chaddr.length) 0) ++ List.replicate 192 0 ++ ((cookieB ++ (putR p.opts).1) ++ z) := by
    rw [pkBytes, show 208 - p.chaddr.length = (16 - p.chaddr.length) + 192 by omega, ← List.replicate_append_replicate]; simp only [List.append_assoc]
  rw [this]
  exact slc_mid _ _ _ (by simp only [List.length_append, List.length_replicate]; omega) (by simp only [List.length_append, List.length_replicate]; omega)
theorem ck_len : cookieB.length = 4 := rfl
theorem pk_ck (p : Pkt) (z : List UInt8) (h : p.chaddr.length ≤ 16) : slc (pkBytes p ++ z) 236 240 = cookieB ∧ (pkBytes p ++ z).drop 240 = (putR p.opts).1 ++ z ∧ (pkBytes p).length = 240 + (putR p.opts).1.length := by
  have hl := hdP_len p p.chaddr.length
  have hc := ck_len
  have : pkBytes p ++ z = (hdP p p.chaddr.length 11 ++ p.chaddr ++ List.replicate (208 - p.chaddr.length) 0) ++ cookieB ++ ((putR p.opts).1 ++ z) := by
    rw [pkBytes]; simp only [List.append_assoc]
  refine ⟨?_, ?_, ?_⟩
  · rw [this]; exact slc_mid _ _ _ (by simp only [List.length_append, List.length_replicate]; omega) (by simp only [List.length_append, List.length_replicate]; omega)
  · rw [this]; exact List.drop_left' (by simp only [List.length_append, List.length_replicate]; omega)
  · rw [pkBytes]; simp only [List.length_append, List.length_replicate]; omega
theorem pkPut_ok {p : Pkt} (h : (pkPut p).2 = 0) : pkPut p = (pkBytes p, 0) ∧ pkMay p = true ∧ (putR p.opts).2 = 0 := by
  unfold pkPut at h ⊢
  split at h
  · cases h
  · rename_i hn
    rw [if_neg hn]
    refine ⟨rfl, ?_, ?_⟩
    · cases hm : pkMay p with
      | true => rfl
      | false => exact absurd (.inr hm) hn
    · exact Decidable.byContradiction fun e => hn (.inl e)
theorem pkPut_nok {p : Pkt} (h : (pkPut p).2 ≠ 0) : pkPut p = ([], 700) := by
  unfold pkPut at h ⊢
  split at h
  · rename_i hn; rw [if_pos hn]
  · exact absurd rfl h
theorem inb_num {x : Int} {k j : Nat} (h : inb x k = true) (e : (2 : Int) ^ k = 256 ^ j) : numI (beb x j) = x := by
  simp only [inb, Bool.and_eq_true, decide_eq_true_eq] at h
  exact numI_beb j x h.1 (by rw [← e]; exact h.2)
/-- the numbers of a packet that may be come back -/
theorem pk_nums {p : Pkt} (hm : pkMay p = true) (z : List UInt8) {i : Nat} (hi : i < 11) : nmS (pkBytes p ++ z) (OFF.getD i 0) (OFF.getD i 0 + PFK.getD i 0) = (FV p p.chaddr.length).getD i 0 := by
  rw [nmS, pk_num p z hi]
  rw [pkMay_eq] at hm
  simp only [Bool.and_eq_true, decide_eq_true_eq] at hm
  obtain ⟨⟨⟨⟨⟨⟨⟨⟨⟨⟨⟨c1, c2⟩, c4⟩, c5⟩, c6⟩, c7⟩, c8⟩, c9⟩, c10⟩, c11⟩, a⟩, b⟩ := hm
  have c3 : inb (p.chaddr.length : Int) 8 = true := by simp only [inb, Bool.and_eq_true, decide_eq_true_eq]; omega
  have g1 : (2 : Int) ^ 8 = 256 ^ 1 := by decide
  have g2 : (2 : Int) ^ 16 = 256 ^ 2 := by decide
  have g4 : (2 : Int) ^ 32 = 256 ^ 4 := by decide
  rcases (by omega : i = 0 ∨ i = 1 ∨ i = 2 ∨ i = 3 ∨ i = 4 ∨ i = 5 ∨ i = 6 ∨ i = 7 ∨ i = 8 ∨ i = 9 ∨ i = 10) with rfl | rfl | rfl | rfl | rfl | rfl | rfl | rfl | rfl | rfl | rfl
  · exact inb_num c1 g1
  · exact inb_num c2 g1
  · exact inb_num c3 g1
  · exact inb_num c4 g1
  · exact inb_num c5 g4
  · exact inb_num c6 g2
  · exact inb_num c7 g2
  · exact inb_num c8 g4
  · exact inb_num c9 g4
  · exact inb_num c10 g4
  · exact inb_num c11 g4
theorem getR_put {os : List Opt} (h : (putR os).2 = 0) (z : List UInt8) : getR ((putR os).1 ++ z) = (os, 0) ∧ optsMay os = true ∧ 1 ≤ (putR os).1.length := by
  unfold putR at h ⊢
  split at h
  · rename_i hm
    rw [if_pos hm]
    split at h
    · rename_i hl
      rw [if_pos hl]
      have := get_put hm 0 z
      simp only [List.replicate_zero, List.nil_append] at this
      refine ⟨by rw [getR, this], hm, by simp [putOpts]⟩
    · cases h
  · cases h
theorem fdF_none {c : Int} : ∀ {os : List Opt}, (∀ o ∈ os, o.code ≠ c) → fdF c os = ([], false)
  | [], _ => rfl
  | o :: r, h => by rw [fdF, if_neg (h o (by simp)), fdF_none (fun x hx => h x (by simp [hx]))]
theorem band0 (y : Int) (h : y = 1 ∨ y = 2) : bits .and .i64 0 y = 0 := by rcases h with rfl | rfl <;> rfl
theorem stP_0 (s : List UInt8) : stP s 0 2 = getR (s.drop 240) := by
  show stepP s 0 (2, 44, 108) (stepP s 0 (1, 108, 236) (getR (s.drop 240))) = _
  have h1 : ∀ (b : Int × Int × Int) x, b.1 = 1 ∨ b.1 = 2 → stepP s 0 b x = x := fun b x hb => by rw [stepP, if_neg (fun e => e.1 (band0 _ hb))]
  rw [h1 _ _ (.inr rfl), h1 _ _ (.inl rfl)]
theorem ptR_put {p : Pkt} (h0 : (pkPut p).2 = 0) (h52 : ∀ o ∈ p.opts, o.code ≠ 52) (z : List UInt8) : ptR (pkBytes p ++ z) = (p.opts, true) := by
  obtain ⟨_, hm, hp⟩ := pkPut_ok h0
  have h16 : p.chaddr.length ≤ 16 := by simp only [pkMay, Bool.and_eq_true, decide_eq_true_eq] at hm; exact hm.1.1
  have hg := getR_put hp z
  have hd := (pk_ck p z h16).2.1
  have hw : whS (pkBytes p ++ z) = 0 := by rw [whS, hd, hg.1, fdF_none h52]; rfl
  have ha : allP (pkBytes p ++ z) = p.opts := by rw [allP, hw, if_pos rfl, stP_0, hd, hg.1]
  rw [ptR, ha, hw, stP_0, hd, hg.1, hg.2.1]; rfl
theorem pk_back {p : Pkt} (h0 : (pkPut p).2 = 0) (h52 : ∀ o ∈ p.opts, o.code ≠ 52) (z : List UInt8) : pkGet ((pkPut p).1 ++ z) = (p, 0) ∧ 240 < (pkPut p).1.length := by
  obtain ⟨he, hm, hp⟩ := pkPut_ok h0
  have h16 : p.chaddr.length ≤ 16 := by simp only [pkMay, Bool.and_eq_true, decide_eq_true_eq] at hm; exact hm.1.1
  have hg := getR_put hp z
  have hk := pk_ck p z h16
  have n := fun i (hi : i < 11) => pk_nums hm z hi
  have n2 : nmS (pkBytes p ++ z) 2 3 = p.chaddr.length := n 2 (by decide)
  rw [he]
  dsimp only
  refine ⟨?_, by omega⟩
  rw [pkGet, if_neg (by rintro (h | h); (rw [List.length_append] at h; omega); exact h hk.1), if_neg (by rw [n2, ptR_put h0 h52 z]; rintro (h | h); omega; cases h), pkOf, n2, pk_ch, ptR_put h0 h52 z]
  rw [show nmS (pkBytes p ++ z) 0 1 = p.op from n 0 (by decide), show nmS (pkBytes p ++ z) 1 2 = p.htype from n 1 (by decide), show nmS (pkBytes p ++ z) 3 4 = p.hops from n 3 (by decide), show nmS (pkBytes p ++ z) 4 8 = p.xid from n 4 (by decide), show nmS (pkBytes p ++ z) 8 10 = p.secs from n 5 (by decide), show nmS (pkBytes p ++ z) 10 12 = p.flags from n 6 (by decide), show nmS (pkBytes p ++ z) 12 16 = p.ciaddr from n 7 (by decide), show nmS (pkBytes p ++ z) 16 20 = p.yiaddr from n 8 (by decide), show nmS (pkBytes p ++ z) 20 24 = p.siaddr from n 9 (by decide), show nmS (pkBytes p ++ z) 24 28 = p.giaddr from n 10 (by decide)]
end Go.Proofs.Ytkjcmdgideddnaa

set_option linter.unusedVariables false
set_option linter.unusedSimpArgs false
namespace Go.Proofs.Ytkjcmdgideddnaa
open Go Go.RowKit
def oneP (x : List UInt8) : List UInt8 := [12] ++ [byteOf x.length] ++ x ++ [255]
theorem oneP_len (x : List UInt8) : (oneP x).length = x.length + 3 := by simp [oneP]
theorem pieces_oneP {x : List UInt8} (hx : x.length ≤ 255) (rest : List UInt8) : pieces (oneP x ++ rest) = some [⟨12, x⟩] := by
  have hb := byteOf_toNat (x.length : Int)
  have e1 : (byteOf (x.length : Int)).toNat = x.length := by omega
  have : oneP x ++ rest = 12 :: byteOf x.length :: (x ++ (255 :: rest)) := by simp [oneP]
  rw [this, pieces_cons (by decide) (by decide), e1, if_pos (by simp), List.take_left, List.drop_left, pieces_end]; rfl
theorem may12 {x : List UInt8} (hx : x.length ≤ 512) : optsMay [⟨12, x⟩] = true := by simp [optsMay, optOk, nodupC, hx]
theorem getR_one {x : List UInt8} (hx : x.length ≤ 255) (rest : List UInt8) : getR (oneP x ++ rest) = ([⟨12, x⟩], 0) := by
  have hj : joinAll [] [(⟨12, x⟩ : Opt)] = [⟨12, x⟩] := rfl
  unfold getR getOpts
  rw [pieces_oneP hx]
  simp only [hj, may12 (show x.length ≤ 512 by omega), if_true]
theorem getR_two {x : List UInt8} (hx : x.length ≤ 255) {k : Int} (hk : 1 ≤ k ∧ k ≤ 3) : getR ([52, 1] ++ [byteOf k] ++ oneP x) = ([⟨52, [byteOf k]⟩, ⟨12, x⟩], 0) := by
  have hp := pieces_oneP hx []
  rw [List.append_nil] at hp
  have h1 : pieces ([52, 1] ++ [byteOf k] ++ oneP x) = some [⟨52, [byteOf k]⟩, ⟨12, x⟩] := by
    show pieces (52 :: 1 :: ([byteOf k] ++ oneP x)) = _
    rw [pieces_cons (by decide) (by decide), if_pos (by simp), show (1 : UInt8).toNat = [byteOf k].length from rfl, List.take_left, List.drop_left, hp]; rfl
  have hj : joinAll [] [(⟨52, [byteOf k]⟩ : Opt), ⟨12, x⟩] = [⟨52, [byteOf k]⟩, ⟨12, x⟩] := rfl
  have hm : optsMay [(⟨52, [byteOf k]⟩ : Opt), ⟨12, x⟩] = true := by simp [optsMay, optOk, nodupC]; omega
  unfold getR getOpts
  rw [h1]
  simp only [hj, hm, if_true]
theorem slc_pre (A F R : List UInt8) {i j : Int} (hi : i = A.length) (hj : i + F.length ≤ j) : ∃ R', slc (A ++ F ++ R) i j = F ++ R' := by
  refine ⟨R.take (j.toNat - (A ++ F).length), ?_⟩
  have e : j.toNat = (A ++ F).length + (j.toNat - (A ++ F).length) := by rw [List.length_append]; omega
  rw [slc, show i.toNat = A.length by omega]
  have : (A ++ F ++ R).take j.toNat = (A ++ F) ++ R.take (j.toNat - (A ++ F).length) := by
    conv => lhs; rw [e]
    rw [List.take_length_add_append]
  rw [this, List.append_assoc, List.drop_left]
def T1 : List UInt8 := (pkPut ⟨1, 0, 0, 0, 0, 0, 0, 0, 0, 0, [], []⟩).1
theorem T1_len : T1.length = 241 := by decide +kernel
theorem T1_ck : slc T1 236 240 = cookieB := by decide +kernel
theorem T1_2 : slc T1 2 3 = [0] := by decide +kernel
theorem T1_0 : slc T1 0 1 = [1] := by decide +kernel
def partsT (x y z : List UInt8) (k : Int) : List UInt8 := T1.take (44 : Int).toNat ++ oneP z ++ slc T1 (44 + ((oneP z).length : Int)) 108 ++ oneP y ++ slc T1 (108 + ((oneP y).length : Int)) 240 ++ [52, 1] ++ [byteOf k] ++ oneP x
theorem partsT_len {x y z : List UInt8} (hx : x.length ≤ 20) (hy : y.length ≤ 20) (hz : z.length ≤ 20) (k : Int) : (partsT x y z k).length ≤ 1000 := by
  have lx := oneP_len x
  have ly := oneP_len y
  have lz := oneP_len z
  have lt := T1_len
  simp only [partsT, List.length_append, slc, List.length_drop, List.length_take, List.length_cons, List.length_nil]; omega
def partsW (x y z : List UInt8) (k : Int) : List UInt8 := if k ≠ 1 then (if k ≠ 2 then x ++ y else x) ++ z else (if k ≠ 2 then x ++ y else x)
theorem band_k : bits .and .i64 1 1 = 1 ∧ bits .and .i64 1 2 = 0 ∧ bits .and .i64 2 1 = 0 ∧ bits .and .i64 2 2 = 2 ∧ bits .and .i64 3 1 = 1 ∧ bits .and .i64 3 2 = 2 := ⟨rfl, rfl, rfl, rfl, rfl, rfl⟩
theorem whP_k {k : Int} (hk : 1 ≤ k ∧ k ≤ 3) : whP ([byteOf k], true) = k := by
  have hb := byteOf_toNat k
  have e : ((byteOf k).toNat : Int) = k := by omega
  rw [whP, if_pos ⟨⟨rfl, rfl⟩, by show ((byteOf k).toNat : Int) ≤ 3; omega⟩]
  exact e
theorem parts_get {x y z : List UInt8} (hx : x.length ≤ 20) (hy : y.length ≤ 20) (hz : z.length ≤ 20) {k : Int} (hk : 1 ≤ k ∧ k ≤ 3) :
    (pkGet (partsT x y z k)).2 = 0 ∧ (pkGet (partsT x y z k)).1.opts = [⟨12, partsW x y z k⟩] ∧ (pkGet (partsT x y z k)).1.op = 1 := by
  have lx := oneP_len x
  have ly := oneP_len y
  have lz := oneP_len z
  have lt := T1_len
  have s1 : (slc T1 (44 + ((oneP z).length : Int)) 108).length = 64 - (oneP z).length := by rw [slc_len (by omega) (by omega) (by omega)]; omega
  have s2 : (slc T1 (108 + ((oneP y).length : Int)) 236).length = 128 - (oneP y).length := by rw [slc_len (by omega) (by omega) (by omega)]; omega
  have s3 : slc T1 (108 + ((oneP y).length : Int)) 240 = slc T1 (108 + ((oneP y).length : Int)) 236 ++ cookieB := by rw [← T1_ck]; exact slc_app (by omega) (by omega) (by omega) (by omega)
  have l44 : (T1.take (44 : Int).toNat).length = 44 := by rw [List.length_take]; omega
  have hc := ck_len
  generalize hs : partsT x y z k = s
  rw [partsT, s3] at hs
  have hdrop : s.drop 240 = [52, 1] ++ [byteOf k] ++ oneP x := by
    rw [← hs, show ∀ a b c d e f g h : List UInt8, a ++ b ++ c ++ d ++ e ++ f ++ g ++ h = (a ++ b ++ c ++ d ++ e) ++ (f ++ g ++ h) by intros; simp only [List.append_assoc]]
    exact List.drop_left' (by simp only [List.length_append]; omega)
  have hck : slc s 236 240 = cookieB := by
    rw [← hs, show ∀ a b c d e e' f g h : List UInt8, a ++ b ++ c ++ d ++ (e ++ e') ++ f ++ g ++ h = (a ++ b ++ c ++ d ++ e) ++ e' ++ (f ++ g ++ h) by intros; simp only [List.append_assoc]]
    exact slc_mid _ _ _ (by simp only [List.length_append]; omega) (by simp only [List.length_append]; omega)
  have hf : ∃ r, slc s 108 236 = oneP y ++ r := by
    rw [← hs, show ∀ a b c d e f g h : List UInt8, a ++ b ++ c ++ d ++ e ++ f ++ g ++ h = (a ++ b ++ c) ++ d ++ (e ++ f ++ g ++ h) by intros; simp only [List.append_assoc]]
    exact slc_pre _ _ _ (by simp only [List.length_append]; omega) (by omega)
  have hb : ∃ r, slc s 44 108 = oneP z ++ r := by
    rw [← hs, show ∀ a b c d e f g h : List UInt8, a ++ b ++ c ++ d ++ e ++ f ++ g ++ h = a ++ b ++ (c ++ d ++ e ++ f ++ g ++ h) by intros; simp only [List.append_assoc]]
    exact slc_pre _ _ _ (by omega) (by omega)
  have hhd : ∃ r, s = T1.take (44 : Int).toNat ++ r := ⟨_, by rw [← hs]; simp only [List.append_assoc]; rfl⟩
  have hlen : 240 ≤ s.length := by rw [← hs]; simp only [List.length_append]; omega
  clear hs
  obtain ⟨rf, hf⟩ := hf
  obtain ⟨rb, hb⟩ := hb
  obtain ⟨rh, hhd⟩ := hhd
  have g0 : getR (s.drop 240) = ([⟨52, [byteOf k]⟩, ⟨12, x⟩], 0) := by rw [hdrop]; exact getR_two (by omega) hk
  have g1 : getR (slc s 108 236) = ([⟨12, y⟩], 0) := by rw [hf]; exact getR_one (by omega) _
  have g2 : getR (slc s 44 108) = ([⟨12, z⟩], 0) := by rw [hb]; exact getR_one (by omega) _
  have n2 : slc s 2 3 = [0] := by
    rw [hhd, slcM _ (by omega)]; rw [← T1_2]; decide +kernel
  have n0 : slc s 0 1 = [1] := by
    rw [hhd, slcM _ (by omega)]; rw [← T1_0]; decide +kernel
  have hw : whS s = k := by rw [whS, g0]; exact whP_k hk
  have hst : stP s k 2 = ([⟨52, [byteOf k]⟩, ⟨12, partsW x y z k⟩], 0) := by
    show stepP s k (2, 44, 108) (stepP s k (1, 108, 236) (getR (s.drop 240))) = _
    obtain ⟨b1, b2, b3, b4, b5, b6⟩ := band_k
    rcases (by omega : k = 1 ∨ k = 2 ∨ k = 3) with rfl | rfl | rfl
    · simp only [stepP, b1, b2, g0, g1, g2]; rfl
    · simp only [stepP, b3, b4, g0, g1, g2]; rfl
    · simp only [stepP, b5, b6, g0, g1, g2]; rfl
  have hlw : (partsW x y z k).length ≤ 60 := by unfold partsW; split <;> split <;> (try simp only [List.length_append]) <;> omega
  have hall : allP s = [⟨12, partsW x y z k⟩] := by rw [allP, hw, if_neg (by omega), hst]; rfl
  have hpt : ptR s = ([⟨12, partsW x y z k⟩], true) := by rw [ptR, hall, hw, hst, may12 (by omega)]; rfl
  have m2 : nmS s 2 3 = 0 := by rw [nmS, n2]; rfl
  have m0 : nmS s 0 1 = 1 := by rw [nmS, n0]; rfl
  rw [pkGet, if_neg (by rintro (h | h); omega; exact h hck), if_neg (by rw [m2, hpt]; rintro (h | h); omega; cases h), pkOf, hpt, m0]
  exact ⟨rfl, rfl, rfl⟩
end Go.Proofs.Ytkjcmdgideddnaa

set_option linter.unusedVariables false
set_option linter.unusedSimpArgs false
namespace Go.Proofs.Ytkjcmdgideddnaa
open Go Go.RowKit
set_option maxRecDepth 100000 in
theorem ref_PacketMay (p : Pkt) (a : Option Addr) (c : Nat) (w : World) (h : In w a (p.opts.flatMap encO)) (hn : p.opts.length ≤ 140737488355328) : Fn Try.prog 63 [vPk p a c] w [] fun v L' => v = .bool (pkMay p) ∧ L' = [] := by
  have row := Row.ofE h
  refine Fn.enter Try.func63 rfl rfl rfl rfl (Holds.nil w) ?_
  refine CW.seq ?_
  refine CW.region ?_
  refine W.bx rfl (vt rfl) rfl fun b1 => ?_
  refine W.p O.as ?_
  refine WL.nil (Q.tn ?_)
  refine CW.seq ?_
  refine CW.region ?_
  first | refine W.p O.fb ?_ | refine W.p O.fa ?_
  refine W.p O.ld ?_
  refine W.q (O.call ⟨rfl, rfl⟩ (AV.cons (vt rfl) (AV.cons (vt rfl) (AV.nil))) (fun _ w hw => ref_within _ 8 w (by decide))) ?_
  refine W.p O.mv ?_
  first | refine W.p O.fb ?_ | refine W.p O.fa ?_
  refine W.p O.ld ?_
  refine W.q (O.call ⟨rfl, rfl⟩ (AV.cons (vs rfl) (AV.cons (vt rfl) (AV.nil))) (fun _ w hw => ref_within _ 8 w (by decide))) ?_
  refine W.p O.pkB ?_
  refine W.p O.mv ?_
  first | refine W.p O.fb ?_ | refine W.p O.fa ?_
  refine W.p O.ld ?_
  refine W.q (O.call ⟨rfl, rfl⟩ (AV.cons (vs rfl) (AV.cons (vt rfl) (AV.nil))) (fun _ w hw => ref_within _ 8 w (by decide))) ?_
  refine W.p O.pkB ?_
  refine W.p O.mv ?_
  first | refine W.p O.fb ?_ | refine W.p O.fa ?_
  refine W.p O.ld ?_
  refine W.q (O.call ⟨rfl, rfl⟩ (AV.cons (vs rfl) (AV.cons (vt rfl) (AV.nil))) (fun _ w hw => ref_within _ 32 w (by decide))) ?_
  refine W.p O.pkB ?_
  refine W.p O.mv ?_
  first | refine W.p O.fb ?_ | refine W.p O.fa ?_
  refine W.p O.ld ?_
  refine W.q (O.call ⟨rfl, rfl⟩ (AV.cons (vs rfl) (AV.cons (vt rfl) (AV.nil))) (fun _ w hw => ref_within _ 16 w (by decide))) ?_
  refine W.p O.pkB ?_
  refine W.p O.mv ?_
  first | refine W.p O.fb ?_ | refine W.p O.fa ?_
  refine W.p O.ld ?_
  refine W.q (O.call ⟨rfl, rfl⟩ (AV.cons (vs rfl) (AV.cons (vt rfl) (AV.nil))) (fun _ w hw => ref_within _ 16 w (by decide))) ?_
  refine W.p O.pkB ?_
  refine W.p O.mv ?_
  first | refine W.p O.fb ?_ | refine W.p O.fa ?_
  refine W.p O.ld ?_
  refine W.q (O.call ⟨rfl, rfl⟩ (AV.cons (vs rfl) (AV.cons (vt rfl) (AV.nil))) (fun _ w hw => ref_within _ 32 w (by decide))) ?_
  refine W.p O.pkB ?_
  refine W.p O.mv ?_
  first | refine W.p O.fb ?_ | refine W.p O.fa ?_
  refine W.p O.ld ?_
  refine W.q (O.call ⟨rfl, rfl⟩ (AV.cons (vs rfl) (AV.cons (vt rfl) (AV.nil))) (fun _ w hw => ref_within _ 32 w (by decide))) ?_
  refine W.p O.pkB ?_
  refine W.p O.mv ?_
  first | refine W.p O.fb ?_ | refine W.p O.fa ?_
  refine W.p O.ld ?_
  refine W.q (O.call ⟨rfl, rfl⟩ (AV.cons (vs rfl) (AV.cons (vt rfl) (AV.nil))) (fun _ w hw => ref_within _ 32 w (by decide))) ?_
  refine W.p O.pkB ?_
  refine W.p O.mv ?_
  first | refine W.p O.fb ?_ | refine W.p O.fa ?_
  refine W.p O.ld ?_
  refine W.q (O.call ⟨rfl, rfl⟩ (AV.cons (vs rfl) (AV.cons (vt rfl) (AV.nil))) (fun _ w hw => ref_within _ 32 w (by decide))) ?_
  refine W.p O.pkB ?_
  refine W.p O.mv ?_
  first | refine W.p O.fb ?_ | refine W.p O.fa ?_
  refine W.p O.ld ?_
  refine W.p O.len ?_
  refine W.p O.leq ?_
  refine W.p O.pkB ?_
  refine W.p O.mv ?_
  first | refine W.p O.fb ?_ | refine W.p O.fa ?_
  refine W.p O.ld ?_
  refine W.q (O.call ⟨rfl, rfl⟩ (AV.cons (vs rfl) (AV.nil)) (fun _ w hw => ref_OptsMay p.opts a c w (row.h _ w hw) hn)) ?_
  refine W.p O.pkB ?_
  refine W.p O.as ?_
  refine WL.nil (Q.tn ?_)
  refine CW.ret ?_
  refine ⟨_, [], (RVs.tmp rfl RVs.nil), List.nil_sublist _, ?_⟩
  refine ⟨congrArg Value.bool ?_, rfl⟩
  have hS : ∀ l : List UInt8, (S l).data.toList = l := fun _ => rfl
  rw [pkMay_eq, Bool.eq_iff_iff]
  simp [hS, inb, and_assoc]; intros; omega
set_option maxRecDepth 100000 in
set_option maxHeartbeats 1000000 in
theorem ref_PutPacket (p : Pkt) (a : Option Addr) (c : Nat) (w : World) (h : In w a (p.opts.flatMap encO)) (hn : p.opts.length ≤ 140737488355328) : Fn Try.prog 58 [vPk p a c] w [] fun v L' => v = .tuple #[.string (S (pkPut p).1), .int .i64 (pkPut p).2] ∧ L' = [] := by
  have row := Row.ofE h
  have hpl := putR_len1 p.opts
  have hcl : (beb 1669485411 4).length = 4 := rfl
  have hT : (beb p.op 1 ++ beb p.htype 1 ++ beb (p.chaddr.length : Int) 1 ++ beb p.hops 1 ++ beb p.xid 4 ++ beb p.secs 2 ++ beb p.flags 2 ++ beb p.ciaddr 4 ++ beb p.yiaddr 4 ++ beb p.siaddr 4 ++ beb p.giaddr 4 ++ p.chaddr).length = 28 + p.chaddr.length := by simp only [List.length_append, beb_len]
  have hrl : (List.replicate (236 - ((beb p.op 1 ++ beb p.htype 1 ++ beb (p.chaddr.length : Int) 1 ++ beb p.hops 1 ++ beb p.xid 4 ++ beb p.secs 2 ++ beb p.flags 2 ++ beb p.ciaddr 4 ++ beb p.yiaddr 4 ++ beb p.siaddr 4 ++ beb p.giaddr 4 ++ p.chaddr).length : Int)).toNat (0 : UInt8)).length = (236 - ((beb p.op 1 ++ beb p.htype 1 ++ beb (p.chaddr.length : Int) 1 ++ beb p.hops 1 ++ beb p.xid 4 ++ beb p.secs 2 ++ beb p.flags 2 ++ beb p.ciaddr 4 ++ beb p.yiaddr 4 ++ beb p.siaddr 4 ++ beb p.giaddr 4 ++ p.chaddr).length : Int)).toNat := List.length_replicate
  have hd0 : hdP p p.chaddr.length 11 ++ p.chaddr = (beb p.op 1 ++ beb p.htype 1 ++ beb (p.chaddr.length : Int) 1 ++ beb p.hops 1 ++ beb p.xid 4 ++ beb p.secs 2 ++ beb p.flags 2 ++ beb p.ciaddr 4 ++ beb p.yiaddr 4 ++ beb p.siaddr 4 ++ beb p.giaddr 4 ++ p.chaddr) := by simp [hdP, List.range_succ]
  refine Fn.enter Try.func58 rfl rfl rfl rfl (Holds.nil w) ?_
  refine CW.seq ?_
  refine CW.region ?_
  refine W.bx rfl (vt rfl) rfl fun b1 => ?_
  refine W.p O.as ?_
  refine W.p O.as ?_
  refine WL.nil (Q.tn ?_)
  refine CW.seq ?_
  refine CW.seq ?_
  refine CW.region ?_
  refine W.p O.lds ?_
  refine W.q (O.call ⟨rfl, rfl⟩ (AV.cons (vt rfl) (AV.nil)) (fun _ w hw => ref_PacketMay p a c w (row.h _ w hw) hn)) ?_
  refine W.p O.nt ?_
  refine WL.nil (Q.tn ?_)
  refine CW.cond (vt rfl) (fun hc1 => ?_) (fun hc1 => ?_)
  · try simp only [Bool.cond_true_left, Bool.cond_false_right, Bool.or_eq_true, Bool.or_eq_false_iff, Bool.and_eq_true, Bool.and_eq_false_iff, decide_eq_true_eq, decide_eq_false_iff_not, Bool.not_eq_true', Bool.not_eq_false'] at hc1
    refine CW.seq ?_
    refine CW.region ?_
    refine W.p O.as ?_
    refine W.p O.as ?_
    refine WL.nil (Q.tn ?_)
    refine CW.ret (Q.tr ?_)
    refine ⟨_, [], (RVs.tmp rfl (RVs.tmp rfl RVs.nil)), List.nil_sublist _, ?_⟩
    rw [pkPut, if_pos (.inr hc1)]; exact ⟨rfl, rfl⟩
  try simp only [Bool.cond_true_left, Bool.cond_false_right, Bool.or_eq_true, Bool.or_eq_false_iff, Bool.and_eq_true, Bool.and_eq_false_iff, decide_eq_true_eq, decide_eq_false_iff_not, Bool.not_eq_true', Bool.not_eq_false'] at hc1
  have hch : p.chaddr.length ≤ 16 := by have h := hc1; simp only [pkMay, Bool.and_eq_true, decide_eq_true_eq] at h; exact h.1.1
  refine CW.skip (Q.tn ?_)
  refine CW.seq ?_
  refine CW.region ?_
  first | refine W.p O.fb ?_ | refine W.p O.fa ?_
  refine W.p O.ld ?_
  refine W.q (O.call ⟨rfl, rfl⟩ (AV.cons (vt rfl) (AV.nil)) (fun _ w hw => ref_PutOpts p.opts a c w (row.h _ w hw) hn)) ?_
  refine W.p O.mv ?_
  first | refine W.p O.extL ?_ | refine W.p O.ext ?_
  first | refine W.p O.extL ?_ | refine W.p O.ext ?_
  refine W.p O.as ?_
  refine W.p O.as ?_
  refine WL.nil (Q.tn ?_)
  refine CW.seq ?_
  refine CW.seq ?_
  refine CW.region ?_
  refine W.p O.mv ?_
  refine W.p O.neI ?_
  refine WL.nil (Q.tn ?_)
  refine CW.cond (vt rfl) (fun hc2 => ?_) (fun hc2 => ?_)
  · try simp only [Bool.cond_true_left, Bool.cond_false_right, Bool.or_eq_true, Bool.or_eq_false_iff, Bool.and_eq_true, Bool.and_eq_false_iff, decide_eq_true_eq, decide_eq_false_iff_not, Bool.not_eq_true', Bool.not_eq_false'] at hc2
    refine CW.seq ?_
    refine CW.region ?_
    refine W.p O.as ?_
    refine W.p O.as ?_
    refine WL.nil (Q.tn ?_)
    refine CW.ret (Q.tr ?_)
    refine ⟨_, [], (RVs.tmp rfl (RVs.tmp rfl RVs.nil)), List.nil_sublist _, ?_⟩
    rw [pkPut, if_pos (.inl hc2)]; exact ⟨rfl, rfl⟩
  try simp only [Bool.cond_true_left, Bool.cond_false_right, Bool.or_eq_true, Bool.or_eq_false_iff, Bool.and_eq_true, Bool.and_eq_false_iff, decide_eq_true_eq, decide_eq_false_iff_not, Bool.not_eq_true', Bool.not_eq_false'] at hc2
  refine CW.skip (Q.tn ?_)
  refine CW.seq ?_
  refine CW.draw 48 rfl (by kernel_rfl) ?_
  first | refine WQ.p O.fb ?_ | refine WQ.p O.fa ?_
  refine WQ.p O.ld ?_
  refine WQ.q (O.call ⟨rfl, rfl⟩ (AV.cons (vt rfl) (AV.cons (vt rfl) (AV.nil))) (fun _ w hw => ref_Num _ 1 w (by decide) (by decide))) ?_
  first | refine WQ.p O.fb ?_ | refine WQ.p O.fa ?_
  refine WQ.p O.ld ?_
  refine WQ.q (O.call ⟨rfl, rfl⟩ (AV.cons (vt rfl) (AV.cons (vt rfl) (AV.nil))) (fun _ w hw => ref_Num _ 1 w (by decide) (by decide))) ?_
  refine WQ.p O.addS ?_
  first | refine WQ.p O.fb ?_ | refine WQ.p O.fa ?_
  refine WQ.p O.ld ?_
  refine WQ.p O.len ?_
  refine WQ.q (O.call ⟨rfl, rfl⟩ (AV.cons (vt rfl) (AV.cons (vt rfl) (AV.nil))) (fun _ w hw => ref_Num _ 1 w (by decide) (by decide))) ?_
  refine WQ.p O.addS ?_
  first | refine WQ.p O.fb ?_ | refine WQ.p O.fa ?_
  refine WQ.p O.ld ?_
  refine WQ.q (O.call ⟨rfl, rfl⟩ (AV.cons (vt rfl) (AV.cons (vt rfl) (AV.nil))) (fun _ w hw => ref_Num _ 1 w (by decide) (by decide))) ?_
  refine WQ.p O.addS ?_
  first | refine WQ.p O.fb ?_ | refine WQ.p O.fa ?_
  refine WQ.p O.ld ?_
  refine WQ.q (O.call ⟨rfl, rfl⟩ (AV.cons (vt rfl) (AV.cons (vt rfl) (AV.nil))) (fun _ w hw => ref_Num _ 4 w (by decide) (by decide))) ?_
  refine WQ.p O.addS ?_
  first | refine WQ.p O.fb ?_ | refine WQ.p O.fa ?_
  refine WQ.p O.ld ?_
  refine WQ.q (O.call ⟨rfl, rfl⟩ (AV.cons (vt rfl) (AV.cons (vt rfl) (AV.nil))) (fun _ w hw => ref_Num _ 2 w (by decide) (by decide))) ?_
  refine WQ.p O.addS ?_
  first | refine WQ.p O.fb ?_ | refine WQ.p O.fa ?_
  refine WQ.p O.ld ?_
  refine WQ.q (O.call ⟨rfl, rfl⟩ (AV.cons (vt rfl) (AV.cons (vt rfl) (AV.nil))) (fun _ w hw => ref_Num _ 2 w (by decide) (by decide))) ?_
  refine WQ.p O.addS ?_
  first | refine WQ.p O.fb ?_ | refine WQ.p O.fa ?_
  refine WQ.p O.ld ?_
  refine WQ.q (O.call ⟨rfl, rfl⟩ (AV.cons (vt rfl) (AV.cons (vt rfl) (AV.nil))) (fun _ w hw => ref_Num _ 4 w (by decide) (by decide))) ?_
  refine WQ.p O.addS ?_
  first | refine WQ.p O.fb ?_ | refine WQ.p O.fa ?_
  refine WQ.p O.ld ?_
  refine WQ.q (O.call ⟨rfl, rfl⟩ (AV.cons (vt rfl) (AV.cons (vt rfl) (AV.nil))) (fun _ w hw => ref_Num _ 4 w (by decide) (by decide))) ?_
  refine WQ.p O.addS ?_
  first | refine WQ.p O.fb ?_ | refine WQ.p O.fa ?_
  refine WQ.p O.ld ?_
  refine WQ.q (O.call ⟨rfl, rfl⟩ (AV.cons (vt rfl) (AV.cons (vt rfl) (AV.nil))) (fun _ w hw => ref_Num _ 4 w (by decide) (by decide))) ?_
  refine WQ.p O.addS ?_
  first | refine WQ.p O.fb ?_ | refine WQ.p O.fa ?_
  refine WQ.p O.ld ?_
  refine WQ.q (O.call ⟨rfl, rfl⟩ (AV.cons (vt rfl) (AV.cons (vt rfl) (AV.nil))) (fun _ w hw => ref_Num _ 4 w (by decide) (by decide))) ?_
  refine WQ.p O.addS ?_
  first | refine WQ.p O.fb ?_ | refine WQ.p O.fa ?_
  refine WQ.p O.ld ?_
  refine WQ.p O.addS ?_
  refine WQ.p O.as ?_
  refine WQ.nil ?_
  refine WL.nil (Q.tn ?_)
  refine CW.seq ?_
  refine CW.drawHL rfl ?_
  refine RH.qa 0 rfl (O.mv) ?_
  refine RH.qa 1 rfl (O.mv) ?_
  refine RH.qa 2 rfl (O.len) ?_
  first | refine RH.qa 3 rfl (O.subN) ?_ | refine RH.qa 3 rfl (O.sub) ?_
  refine RH.qa 9 rfl (O.mv) ?_
  refine RH.two (i := 4) (j := 7) (fun _ _ h => h) (by kernel_rfl) rfl rfl ?_ ?_
  · refine W.mkF rfl (vt rfl) (vt rfl) (by first | omega | decide) fun b2 => ?_
    refine WL.nilQn ⟨(by repeat (first | exact List.nil_sublist _ | exact List.Sublist.refl _ | exact List.sublist_append_left _ _ | exact List.sublist_append_right _ _ | apply List.Sublist.cons_cons | apply List.Sublist.cons | refine List.Sublist.trans ?_ (List.sublist_append_right _ _))), ?_⟩
    refine RH.two (i := 5) (j := 7) (fun _ _ h => h) (by kernel_rfl) rfl rfl ?_ ?_
    · refine W.p (O.cvRow ⟨rfl, rfl⟩ (vt rfl) (by first | omega | rfl) (fun _ => ⟨_, rfl⟩)) ?_
      refine WL.nilQn ⟨(by repeat (first | exact List.nil_sublist _ | exact List.Sublist.refl _ | exact List.sublist_append_left _ _ | exact List.sublist_append_right _ _ | apply List.Sublist.cons_cons | apply List.Sublist.cons | refine List.Sublist.trans ?_ (List.sublist_append_right _ _))), ?_⟩
      refine RH.qa 6 rfl (O.addS) ?_
      refine RH.one (i := 7) (fun _ _ h => h) (by kernel_rfl) rfl ?_
      refine W.q (O.call ⟨rfl, rfl⟩ (AV.cons (vt rfl) (AV.cons (vt rfl) (AV.nil))) (fun _ w hw => ref_Num _ 4 w (by decide) (by decide))) ?_
      refine WL.nilQn ⟨(by repeat (first | exact List.nil_sublist _ | exact List.Sublist.refl _ | exact List.sublist_append_left _ _ | exact List.sublist_append_right _ _ | apply List.Sublist.cons_cons | apply List.Sublist.cons | refine List.Sublist.trans ?_ (List.sublist_append_right _ _))), ?_⟩
      refine RH.qa 8 rfl (O.addS) ?_
      refine RH.qa 10 rfl (O.addS) ?_
      refine RH.qa 11 rfl (O.as) ?_
      refine RH.qa 12 rfl (O.as) ?_
      refine RH.done (by kernel_rfl) (Q.tn ?_)
      refine CW.ret ?_
      refine ⟨_, [], (RVs.tmp rfl (RVs.tmp rfl RVs.nil)), List.nil_sublist _, ?_⟩
      have h16 : p.chaddr.length ≤ 16 := hch
      have e : (236 - ((beb p.op 1 ++ beb p.htype 1 ++ beb (p.chaddr.length : Int) 1 ++ beb p.hops 1 ++ beb p.xid 4 ++ beb p.secs 2 ++ beb p.flags 2 ++ beb p.ciaddr 4 ++ beb p.yiaddr 4 ++ beb p.siaddr 4 ++ beb p.giaddr 4 ++ p.chaddr).length : Int)).toNat = 208 - p.chaddr.length := by omega
      rw [pkPut, if_neg (by rintro (h | h); exact h hc2; rw [hc1] at h; cases h), pkBytes, hd0, e]
      refine ⟨?_, rfl⟩
      simp only [List.append_assoc, cookieB]; rfl
    · refine W.q (O.call ⟨rfl, rfl⟩ (AV.cons (vt rfl) (AV.cons (vt rfl) (AV.nil))) (fun _ w hw => ref_Num _ 4 w (by decide) (by decide))) ?_
      refine WL.nilQn ⟨(by repeat (first | exact List.nil_sublist _ | exact List.Sublist.refl _ | exact List.sublist_append_left _ _ | exact List.sublist_append_right _ _ | apply List.Sublist.cons_cons | apply List.Sublist.cons | refine List.Sublist.trans ?_ (List.sublist_append_right _ _))), ?_⟩
      refine RH.one (i := 5) (fun _ _ h => h) (by kernel_rfl) rfl ?_
      refine W.p (O.cvRow ⟨rfl, rfl⟩ (vt rfl) (by first | omega | rfl) (fun _ => ⟨_, rfl⟩)) ?_
      refine WL.nilQn ⟨(by repeat (first | exact List.nil_sublist _ | exact List.Sublist.refl _ | exact List.sublist_append_left _ _ | exact List.sublist_append_right _ _ | apply List.Sublist.cons_cons | apply List.Sublist.cons | refine List.Sublist.trans ?_ (List.sublist_append_right _ _))), ?_⟩
      refine RH.qa 6 rfl (O.addS) ?_
      refine RH.qa 8 rfl (O.addS) ?_
      refine RH.qa 10 rfl (O.addS) ?_
      refine RH.qa 11 rfl (O.as) ?_
      refine RH.qa 12 rfl (O.as) ?_
      refine RH.done (by kernel_rfl) (Q.tn ?_)
      refine CW.ret ?_
      refine ⟨_, [], (RVs.tmp rfl (RVs.tmp rfl RVs.nil)), List.nil_sublist _, ?_⟩
      have h16 : p.chaddr.length ≤ 16 := hch
      have e : (236 - ((beb p.op 1 ++ beb p.htype 1 ++ beb (p.chaddr.length : Int) 1 ++ beb p.hops 1 ++ beb p.xid 4 ++ beb p.secs 2 ++ beb p.flags 2 ++ beb p.ciaddr 4 ++ beb p.yiaddr 4 ++ beb p.siaddr 4 ++ beb p.giaddr 4 ++ p.chaddr).length : Int)).toNat = 208 - p.chaddr.length := by omega
      rw [pkPut, if_neg (by rintro (h | h); exact h hc2; rw [hc1] at h; cases h), pkBytes, hd0, e]
      refine ⟨?_, rfl⟩
      simp only [List.append_assoc, cookieB]; rfl
  · refine W.q (O.call ⟨rfl, rfl⟩ (AV.cons (vt rfl) (AV.cons (vt rfl) (AV.nil))) (fun _ w hw => ref_Num _ 4 w (by decide) (by decide))) ?_
    refine WL.nilQn ⟨(by repeat (first | exact List.nil_sublist _ | exact List.Sublist.refl _ | exact List.sublist_append_left _ _ | exact List.sublist_append_right _ _ | apply List.Sublist.cons_cons | apply List.Sublist.cons | refine List.Sublist.trans ?_ (List.sublist_append_right _ _))), ?_⟩
    refine RH.one (i := 4) (fun _ _ h => h) (by kernel_rfl) rfl ?_
    refine W.mkF rfl (vt rfl) (vt rfl) (by first | omega | decide) fun b3 => ?_
    refine WL.nilQn ⟨(by repeat (first | exact List.nil_sublist _ | exact List.Sublist.refl _ | exact List.sublist_append_left _ _ | exact List.sublist_append_right _ _ | apply List.Sublist.cons_cons | apply List.Sublist.cons | refine List.Sublist.trans ?_ (List.sublist_append_right _ _))), ?_⟩
    refine RH.one (i := 5) (fun _ _ h => h) (by kernel_rfl) rfl ?_
    refine W.p (O.cvRow ⟨rfl, rfl⟩ (vt rfl) (by first | omega | rfl) (fun _ => ⟨_, rfl⟩)) ?_
    refine WL.nilQn ⟨(by repeat (first | exact List.nil_sublist _ | exact List.Sublist.refl _ | exact List.sublist_append_left _ _ | exact List.sublist_append_right _ _ | apply List.Sublist.cons_cons | apply List.Sublist.cons | refine List.Sublist.trans ?_ (List.sublist_append_right _ _))), ?_⟩
    refine RH.qa 6 rfl (O.addS) ?_
    refine RH.qa 8 rfl (O.addS) ?_
    refine RH.qa 10 rfl (O.addS) ?_
    refine RH.qa 11 rfl (O.as) ?_
    refine RH.qa 12 rfl (O.as) ?_
    refine RH.done (by kernel_rfl) (Q.tn ?_)
    refine CW.ret ?_
    refine ⟨_, [], (RVs.tmp rfl (RVs.tmp rfl RVs.nil)), List.nil_sublist _, ?_⟩
    have h16 : p.chaddr.length ≤ 16 := hch
    have e : (236 - ((beb p.op 1 ++ beb p.htype 1 ++ beb (p.chaddr.length : Int) 1 ++ beb p.hops 1 ++ beb p.xid 4 ++ beb p.secs 2 ++ beb p.flags 2 ++ beb p.ciaddr 4 ++ beb p.yiaddr 4 ++ beb p.siaddr 4 ++ beb p.giaddr 4 ++ p.chaddr).length : Int)).toNat = 208 - p.chaddr.length := by omega
    rw [pkPut, if_neg (by rintro (h | h); exact h hc2; rw [hc1] at h; cases h), pkBytes, hd0, e]
    refine ⟨?_, rfl⟩
    simp only [List.append_assoc, cookieB]; rfl
end Go.Proofs.Ytkjcmdgideddnaa

set_option linter.unusedVariables false
set_option linter.unusedSimpArgs false
namespace Go.Proofs.Ytkjcmdgideddnaa
open Go Go.RowKit
abbrev NmO (b : Nat) (s : List UInt8) (p : Int) : Nat × Obj := (b, .cells [.string (S s), .int .i64 p, .bool false].toArray 177 (0, 0))
set_option maxRecDepth 100000 in
theorem ref_rnum {b : Nat} {s : List UInt8} (p k q : Int) (w : World) (hL : Holds [NmO b s p] w) (hs : s.length ≤ 140737488355328) (hk : k = 1 ∨ k = 2 ∨ k = 4) (h0 : 0 ≤ p) (hq : p + k = q) (hl : q ≤ s.length) :
    Fn Try.prog 118 [.pointer (some ⟨b, 0, none⟩), .int .i64 k] w [NmO b s p] fun v L' => v = .int .i64 (numI (slc s p q)) ∧ L' = [NmO b s q] := by
  refine Fn.enter Try.func118 rfl rfl rfl rfl hL ?_
  refine CW.seq ?_
  refine CW.region ?_
  refine W.p O.as ?_
  refine WL.nil (Q.tn ?_)
  refine CW.seq ?_
  refine CW.draw 15 rfl (by kernel_rfl) ?_
  refine WQ.p O.mv ?_
  refine WQ.p O.nc ?_
  first | refine WQ.p O.fb ?_ | refine WQ.p O.fa ?_
  refine WQ.p O.ld ?_
  refine WQ.p O.mv ?_
  refine WQ.p O.nc ?_
  first | refine WQ.p O.fb ?_ | refine WQ.p O.fa ?_
  refine WQ.p O.ld ?_
  refine WQ.p O.mv ?_
  refine WQ.q (O.call ⟨rfl, rfl⟩ (AV.cons (vt rfl) (AV.cons (vt rfl) (AV.cons (vt rfl) (AV.nil)))) (fun _ w hw => ref_GetBeI s p k q w hs hk h0 hq hl)) ?_
  refine WQ.p O.mv ?_
  first | refine WQ.p O.extL ?_ | refine WQ.p O.ext ?_
  first | refine WQ.p O.extL ?_ | refine WQ.p O.ext ?_
  refine WQ.p O.as ?_
  refine WQ.p O.as ?_
  refine WQ.nil ?_
  refine WL.nil (Q.tn ?_)
  refine CW.seq ?_
  refine CW.seq ?_
  refine CW.region ?_
  refine W.p O.mv ?_
  refine W.p O.nc ?_
  first | refine W.p O.fb ?_ | refine W.p O.fa ?_
  refine W.p O.ld ?_
  refine W.p O.mv ?_
  refine W.p O.mv ?_
  refine W.p O.neI ?_
  refine W.p O.pkB ?_
  refine WL.nil (Q.tn ?_)
  refine CW.cond (vt rfl) (fun hc1 => ?_) (fun hc1 => ?_)
  · exact absurd hc1 (by decide)
  try simp only [Bool.cond_true_left, Bool.cond_false_right, Bool.or_eq_true, Bool.or_eq_false_iff, Bool.and_eq_true, Bool.and_eq_false_iff, decide_eq_true_eq, decide_eq_false_iff_not, Bool.not_eq_true', Bool.not_eq_false'] at hc1
  refine CW.skip (Q.tn ?_)
  refine CW.seq ?_
  refine CW.region ?_
  refine W.p O.mv ?_
  refine W.p O.mv ?_
  refine W.p O.nc ?_
  first | refine W.p O.fb ?_ | refine W.p O.fa ?_
  refine W.p O.ld ?_
  refine W.p O.mv ?_
  first | refine W.p O.addN ?_ | refine W.p O.add ?_
  refine W.p O.nc ?_
  first | refine W.p O.fb ?_ | refine W.p O.fa ?_
  first | refine W.st (vt rfl) (vt rfl) rfl ?_ | refine W.st (u := .int _ _) (vt rfl) (vt rfl) rfl ?_
  refine WL.nil (Q.tn ?_)
  refine CW.seq ?_
  refine CW.region ?_
  refine W.p O.mv ?_
  refine W.p O.as ?_
  refine WL.nil (Q.tn ?_)
  refine CW.ret ?_
  refine ⟨_, [NmO b s (p + k)], (RVs.tmp rfl RVs.nil), (by repeat (first | exact List.Sublist.refl _ | exact hSub _ | exact List.sublist_append_left _ _ | exact List.nil_sublist _ | refine List.Sublist.append (List.Sublist.refl _) ?_ | apply List.Sublist.cons_cons | apply List.Sublist.cons | exact List.sublist_append_left _ _ | refine List.Sublist.trans ?_ (List.sublist_append_right _ _))), ?_⟩
  rw [hq]; exact ⟨rfl, rfl⟩
def ovR (os : List Opt) (s : List UInt8) : List Opt × Bool := if (getR s).2 = 0 then (joinAll os (keep (getR s).1), true) else ([], false)
theorem keep_one (x : Opt) : keep [x] = if x.code = 52 then [] else [x] := by
  by_cases h : x.code = 52 <;> simp [keep, is52, h]
theorem ov_step {os xs : List Opt} {i : Int} (h0 : 0 ≤ i) (h1 : i < xs.length) : joinAll os (keep (xs.take (i + 1).toNat)) = if (xs.getD i.toNat dO).code = 52 then joinAll os (keep (xs.take i.toNat)) else join1 (joinAll os (keep (xs.take i.toNat))) (xs.getD i.toNat dO) := by
  rw [take_at' dO h0 h1, keep_app, keep_one]
  split
  · rw [List.append_nil]
  · rw [joinAll_snoc]
theorem dsum_keep : ∀ os : List Opt, dsum (keep os) ≤ dsum os
  | [] => Nat.le_refl _
  | o :: r => by
    have ih := dsum_keep r
    by_cases h : is52 o = true
    · have : keep (o :: r) = keep r := by simp [keep, h]
      rw [this]; simp only [dsum, List.map_cons, List.sum_cons] at ih ⊢; omega
    · have : keep (o :: r) = o :: keep r := by simp [keep, h]
      rw [this]; simp only [dsum, List.map_cons, List.sum_cons] at ih ⊢; omega
theorem dsum_tk (os : List Opt) (n : Nat) : dsum (os.take n) ≤ dsum os := by
  have h := congrArg dsum (List.take_append_drop n os)
  rw [dsum_app] at h; omega
set_option maxRecDepth 100000 in
theorem ref_over (os : List Opt) (o : Option Nat) (c : Nat) (sp : List Value) (s : List UInt8) (w : World) (ok : OwnOk o c 2 os.length sp.length) (hL : Holds (rowL o 42 (flat encO os sp)) w) (hs : s.length ≤ 1000) (hn : os.length ≤ 100000000) (hd : dsum os ≤ 100000000) :
    Fn Try.prog 119 [.slice (oa o) os.length c, .string (S s)] w (rowL o 42 (flat encO os sp)) fun v L' => ∃ o' c' sp', v = .tuple #[.slice (oa o') (ovR os s).1.length c', .bool (ovR os s).2] ∧ OwnOk o' c' 2 (ovR os s).1.length (List.length sp') ∧ L' = rowL o' 42 (flat encO (ovR os s).1 sp') := by
  have nk := ok.nk (α := Opt) (xs := os)
  have hgb := getR_b s
  refine Fn.enter Try.func119 rfl rfl rfl rfl hL ?_
  refine CW.seq ?_
  refine CW.region ?_
  refine W.p O.as ?_
  refine W.p O.as ?_
  refine WL.nil (Q.tn ?_)
  refine CW.seq ?_
  refine CW.region ?_
  refine W.p O.mv ?_
  refine W.callN (first := []) (cap := []) rfl (vt rfl) (AV.cons (vt rfl) (AV.nil)) (fun w hu => ref_GetOpts s w (by omega)) ?_; rintro _ _ ⟨_, rfl, o11, c11, sp11, rfl, ok11, rfl⟩; have nk11 := ok11.nk
  refine W.p O.mv ?_
  first | refine W.p O.extL ?_ | refine W.p O.ext ?_
  first | refine W.p O.extL ?_ | refine W.p O.ext ?_
  refine W.p O.as ?_
  refine W.p O.as ?_
  refine WL.nil (Q.tn ?_)
  refine CW.seq ?_
  refine CW.seq ?_
  refine CW.region ?_
  refine W.p O.mv ?_
  refine W.p O.neI ?_
  refine WL.nil (Q.tn ?_)
  refine CW.cond (vt rfl) (fun hc1 => ?_) (fun hc1 => ?_)
  · try simp only [Bool.cond_true_left, Bool.cond_false_right, Bool.or_eq_true, Bool.or_eq_false_iff, Bool.and_eq_true, Bool.and_eq_false_iff, decide_eq_true_eq, decide_eq_false_iff_not, Bool.not_eq_true', Bool.not_eq_false'] at hc1
    refine CW.seq ?_
    refine CW.region ?_
    refine W.p O.as ?_
    refine W.p O.as ?_
    refine WL.nil (Q.tn ?_)
    refine CW.ret (Q.tr ?_)
    refine ⟨_, [], (RVs.tmp rfl (RVs.tmp rfl RVs.nil)), List.nil_sublist _, ?_⟩
    unfold ovR; rw [if_neg hc1]; exact ⟨none, 0, [], rfl, OwnOk.nil, rfl⟩
  try simp only [Bool.cond_true_left, Bool.cond_false_right, Bool.or_eq_true, Bool.or_eq_false_iff, Bool.and_eq_true, Bool.and_eq_false_iff, decide_eq_true_eq, decide_eq_false_iff_not, Bool.not_eq_true', Bool.not_eq_false'] at hc1
  refine CW.skip (Q.tn ?_)
  refine CW.seq ?_
  refine CW.seq ?_
  refine CW.region ?_
  refine W.p O.as ?_
  refine WL.nil (Q.tn ?_)
  refine CW.block ?_
  refine CW.permH (L' := rowL o 42 (flat encO os sp) ++ rowL o11 42 (flat encO (getR s).1 sp11)) List.perm_append_comm ?_
  refine CW.loop (X := Int × (List Opt) × (Option Nat) × Nat × (List Value)) (fun ⟨i, al, p1, q1, r1⟩ => [(0, true, .slice (oa p1) al.length q1), (6, true, .slice (oa o11) (getR s).1.length c11), (8, true, .int .i64 i)]) (fun ⟨i, al, p1, q1, r1⟩ => rowL p1 42 (flat encO al r1) ++ rowL o11 42 (flat encO (getR s).1 sp11)) (fun ⟨i, al, p1, q1, r1⟩ => 0 ≤ i ∧ i ≤ (getR s).1.length ∧ OwnOk p1 q1 2 al.length r1.length ∧ al = (joinAll os (keep ((getR s).1.take i.toNat)))) (fun ⟨i, al, p1, q1, r1⟩ => ((getR s).1.length - i).toNat) (0, os, o, c, sp) ?_ (by repeat (first | exact trivial | refine ⟨rfl, ?_⟩ | refine ⟨by (simp only [List.length_set]; rfl), ?_⟩)) (by repeat (first | exact List.Sublist.refl _ | exact List.sublist_append_left _ _ | exact List.nil_sublist _ | refine List.Sublist.append (List.Sublist.refl _) ?_ | apply List.Sublist.cons_cons | apply List.Sublist.cons | refine List.Sublist.trans ?_ (List.sublist_append_right _ _))) ?_
  · exact ⟨by omega, by omega, ok, rfl⟩
  rintro ⟨i, al, p1, q1, r1⟩ hI
  try dsimp only at hI ⊢
  obtain ⟨h0, h1, okp, hal⟩ := hI
  have nkp := okp.nk (α := Opt) (xs := al)
  have hj := joinAll_len (keep ((getR s).1.take i.toNat)) os
  have hk1 := dsum_keep ((getR s).1.take i.toNat)
  have hk2 := keep_len ((getR s).1.take i.toNat)
  have hk3 : ((getR s).1.take i.toNat).length ≤ (getR s).1.length := by rw [List.length_take]; omega
  have hdg := dsum_getD (getR s).1 i.toNat
  have hk4 : dsum ((getR s).1.take i.toNat) ≤ dsum (getR s).1 := dsum_tk _ _
  rw [← hal] at hj
  refine CW.seq ?_
  refine CW.seq ?_
  refine CW.region ?_
  refine W.p O.mv ?_
  refine W.p O.mv ?_
  refine W.p O.lenL ?_
  refine W.p O.lss ?_
  refine WL.nil (Q.tn ?_)
  refine CW.cond (vt rfl) (fun hc2 => ?_) (fun hc2 => ?_)
  · try simp only [Bool.cond_true_left, Bool.cond_false_right, Bool.or_eq_true, Bool.or_eq_false_iff, Bool.and_eq_true, Bool.and_eq_false_iff, decide_eq_true_eq, decide_eq_false_iff_not, Bool.not_eq_true', Bool.not_eq_false'] at hc2
    refine CW.skip (Q.tn ?_)
    refine CW.seq ?_
    refine CW.block ?_
    refine CW.seq ?_
    refine CW.region ?_
    refine W.p O.mv ?_
    refine W.p O.mv ?_
    refine W.p O.ixA ?_
    first | refine W.p O.fe ?_ | refine W.p O.feR ?_
    refine W.p O.ldE ?_
    refine W.p O.neI ?_
    refine WL.nil (Q.tn ?_)
    refine CW.cond (vt rfl) (fun hc3 => ?_) (fun hc3 => ?_)
    · try simp only [Bool.cond_true_left, Bool.cond_false_right, Bool.or_eq_true, Bool.or_eq_false_iff, Bool.and_eq_true, Bool.and_eq_false_iff, decide_eq_true_eq, decide_eq_false_iff_not, Bool.not_eq_true', Bool.not_eq_false'] at hc3
      refine CW.draw 11 rfl (by kernel_rfl) ?_
      refine WQ.p O.mv ?_
      refine WQ.p O.mv ?_
      refine WQ.p O.mv ?_
      refine WQ.p O.ixA ?_
      first | refine WQ.p O.fe ?_ | refine WQ.p O.feR ?_
      refine WQ.p O.ldE ?_
      refine WQ.p O.mv ?_
      refine WQ.p O.mv ?_
      refine WQ.p O.ixA ?_
      first | refine WQ.p O.fe ?_ | refine WQ.p O.feR ?_
      refine WQ.p O.ldE ?_
      refine WQ.nil ?_
      refine W.callN (first := []) (cap := []) rfl (vt rfl) (AV.cons (vt rfl) (AV.cons (vt rfl) (AV.cons (vt rfl) (AV.nil)))) (fun w hu => ref_join al _ _ ((getR s).1.getD i.toNat dO).code ((getR s).1.getD i.toNat dO).data w (RowL.h _ hu) (by omega) (by omega)) ?_; rintro _ _ ⟨o13, c13, sp13, rfl, ok13, rfl⟩; have nk13 := ok13.nk
      refine W.p O.as ?_
      refine WL.nil (Q.bn (Q.tn ?_))
      refine CW.region ?_
      refine W.p O.mv ?_
      first | refine W.p O.addN ?_ | refine W.p O.add ?_
      refine W.p O.as ?_
      refine WL.nil (Q.tn ?_)
      refine ⟨(_, _, _, _, _), ?_, ?_, (by repeat (first | exact trivial | refine ⟨rfl, ?_⟩ | refine ⟨by (simp only [List.length_set]; rfl), ?_⟩)), (by repeat (first | exact List.Sublist.refl _ | exact List.sublist_append_left _ _ | exact List.nil_sublist _ | refine List.Sublist.append (List.Sublist.refl _) ?_ | apply List.Sublist.cons_cons | apply List.Sublist.cons | refine List.Sublist.trans ?_ (List.sublist_append_right _ _)))⟩
      · try dsimp only
        refine ⟨by omega, by omega, ok13, ?_⟩
        rw [ov_step h0 hc2, if_neg hc3, ← hal]
      · try dsimp only
        omega
    try simp only [Bool.cond_true_left, Bool.cond_false_right, Bool.or_eq_true, Bool.or_eq_false_iff, Bool.and_eq_true, Bool.and_eq_false_iff, decide_eq_true_eq, decide_eq_false_iff_not, Bool.not_eq_true', Bool.not_eq_false'] at hc3
    refine CW.skip (Q.bn (Q.tn ?_))
    refine CW.region ?_
    refine W.p O.mv ?_
    first | refine W.p O.addN ?_ | refine W.p O.add ?_
    refine W.p O.as ?_
    refine WL.nil (Q.tn ?_)
    refine ⟨(_, _, _, _, _), ?_, ?_, (by repeat (first | exact trivial | refine ⟨rfl, ?_⟩ | refine ⟨by (simp only [List.length_set]; rfl), ?_⟩)), (by repeat (first | exact List.Sublist.refl _ | exact List.sublist_append_left _ _ | exact List.nil_sublist _ | refine List.Sublist.append (List.Sublist.refl _) ?_ | apply List.Sublist.cons_cons | apply List.Sublist.cons | refine List.Sublist.trans ?_ (List.sublist_append_right _ _)))⟩
    · try dsimp only
      refine ⟨by omega, by omega, okp, ?_⟩
      rw [ov_step h0 hc2, if_pos hc3, ← hal]
    · try dsimp only
      omega
  try simp only [Bool.cond_true_left, Bool.cond_false_right, Bool.or_eq_true, Bool.or_eq_false_iff, Bool.and_eq_true, Bool.and_eq_false_iff, decide_eq_true_eq, decide_eq_false_iff_not, Bool.not_eq_true', Bool.not_eq_false'] at hc2
  have hA : ovR os s = (al, true) := by rw [ovR, if_pos hc1, hal, List.take_of_length_le (by omega)]
  refine CW.exit (Q.te (Q.te (Q.bx (Q.tn ?_))))
  refine CW.seq ?_
  refine CW.region ?_
  refine W.p O.mv ?_
  refine W.p O.as ?_
  refine W.p O.as ?_
  refine WL.nil (Q.tn ?_)
  refine CW.ret ?_
  refine ⟨_, rowL p1 42 (flat encO al r1), (RVs.tmp rfl (RVs.tmp rfl RVs.nil)), (by repeat (first | exact List.Sublist.refl _ | exact hSub _ | exact List.sublist_append_left _ _ | exact List.nil_sublist _ | refine List.Sublist.append (List.Sublist.refl _) ?_ | apply List.Sublist.cons_cons | apply List.Sublist.cons | exact List.sublist_append_left _ _ | refine List.Sublist.trans ?_ (List.sublist_append_right _ _))), ?_⟩
  rw [hA]; exact ⟨p1, q1, r1, rfl, okp, rfl⟩
end Go.Proofs.Ytkjcmdgideddnaa

set_option linter.unusedVariables false
set_option linter.unusedSimpArgs false
namespace Go.Proofs.Ytkjcmdgideddnaa
open Go Go.RowKit
theorem getR_err {s : List UInt8} (h : (getR s).2 ≠ 0) : getR s = ([], 600) := by
  unfold getR at h ⊢
  split <;> simp_all
theorem pt_0 {s : List UInt8} (h : (getR (s.drop 240)).2 ≠ 0) : (ptR s).2 = false := by
  have hg := getR_err h
  have hw : whS s = 0 := by rw [whS, hg]; rfl
  rw [ptR, hw, stP_0, hg]; rfl
theorem pt_1 {s : List UInt8} (hw : whS s = 0) (h : (getR (s.drop 240)).2 = 0) : ptR s = ((getR (s.drop 240)).1, optsMay (getR (s.drop 240)).1) := by
  have ha : allP s = (getR (s.drop 240)).1 := by rw [allP, hw, if_pos rfl, stP_0]
  rw [ptR, ha, hw, stP_0, decide_eq_true h]; rfl
theorem st_2 {s : List UInt8} {k : Int} : stP s k 2 = stepP s k (2, 44, 108) (stepP s k (1, 108, 236) (getR (s.drop 240))) := rfl
theorem stepP_yes {s : List UInt8} {k : Int} {b : Int × Int × Int} {x : List Opt × Int} (h : bits .and .i64 k b.1 ≠ 0) (hx : x.2 = 0) : stepP s k b x = (joinAll x.1 (getR (slc s b.2.1 b.2.2)).1, (getR (slc s b.2.1 b.2.2)).2) := by rw [stepP, if_pos ⟨h, hx⟩]
theorem stepP_no {s : List UInt8} {k : Int} {b : Int × Int × Int} {x : List Opt × Int} (h : bits .and .i64 k b.1 = 0 ∨ x.2 ≠ 0) : stepP s k b x = x := by rw [stepP, if_neg]; rintro ⟨a, c⟩; rcases h with h | h; exact a h; exact h c
theorem ov_1 {os : List Opt} {u : List UInt8} : ((ovR os u).2 = true → (getR u).2 = 0 ∧ (ovR os u).1 = joinAll os (keep (getR u).1)) ∧ ((ovR os u).2 = false → (getR u).2 ≠ 0) := by
  unfold ovR
  by_cases h : (getR u).2 = 0
  · rw [if_pos h]; exact ⟨fun _ => ⟨h, rfl⟩, fun e => by cases e⟩
  · rw [if_neg h]; exact ⟨fun e => (by cases e), fun _ => h⟩
/-- one part more: told of by one bit alone -/
theorem pt_b {s : List UInt8} {i j : Int} (hk : whS s = 1 ∧ i = 108 ∧ j = 236 ∨ whS s = 2 ∧ i = 44 ∧ j = 108) (h : (getR (s.drop 240)).2 = 0) :
    ((ovR (keep (getR (s.drop 240)).1) (slc s i j)).2 = true → ptR s = ((ovR (keep (getR (s.drop 240)).1) (slc s i j)).1, optsMay (ovR (keep (getR (s.drop 240)).1) (slc s i j)).1)) ∧
    ((ovR (keep (getR (s.drop 240)).1) (slc s i j)).2 = false → (ptR s).2 = false) := by
  have hw0 : ¬ whS s = 0 := by omega
  have hst : stP s (whS s) 2 = (joinAll (getR (s.drop 240)).1 (getR (slc s i j)).1, (getR (slc s i j)).2) := by
    obtain ⟨b1, b2, b3, b4, b5, b6⟩ := band_k
    rcases hk with ⟨e, rfl, rfl⟩ | ⟨e, rfl, rfl⟩
    · rw [st_2, e, stepP_no (k := 1) (b := (2, 44, 108)) (.inl b2), stepP_yes (k := 1) (b := (1, 108, 236)) (by rw [b1]; decide) h]
    · rw [st_2, e, stepP_no (k := 2) (b := (1, 108, 236)) (.inl b3), stepP_yes (k := 2) (b := (2, 44, 108)) (by rw [b4]; decide) h]
  have hall : allP s = joinAll (keep (getR (s.drop 240)).1) (keep (getR (slc s i j)).1) := by rw [allP, if_neg hw0, hst]; exact keep_joinAll _ _
  have ho := ov_1 (os := keep (getR (s.drop 240)).1) (u := slc s i j)
  constructor
  · intro e
    obtain ⟨e1, e2⟩ := ho.1 e
    rw [ptR, hall, hst, e2]; dsimp only; rw [decide_eq_true e1]; rfl
  · intro e
    rw [ptR, hst]; dsimp only; rw [decide_eq_false (ho.2 e)]; rfl
/-- both parts more -/
theorem pt_3 {s : List UInt8} (hk : whS s = 3) (h : (getR (s.drop 240)).2 = 0) :
    ((ovR (keep (getR (s.drop 240)).1) (slc s 108 236)).2 = false → (ptR s).2 = false) ∧
    ((ovR (keep (getR (s.drop 240)).1) (slc s 108 236)).2 = true →
      ((ovR (ovR (keep (getR (s.drop 240)).1) (slc s 108 236)).1 (slc s 44 108)).2 = true → ptR s = ((ovR (ovR (keep (getR (s.drop 240)).1) (slc s 108 236)).1 (slc s 44 108)).1, optsMay (ovR (ovR (keep (getR (s.drop 240)).1) (slc s 108 236)).1 (slc s 44 108)).1)) ∧
      ((ovR (ovR (keep (getR (s.drop 240)).1) (slc s 108 236)).1 (slc s 44 108)).2 = false → (ptR s).2 = false)) := by
  obtain ⟨b1, b2, b3, b4, b5, b6⟩ := band_k
  have hw0 : ¬ whS s = 0 := by omega
  have ho := ov_1 (os := keep (getR (s.drop 240)).1) (u := slc s 108 236)
  have hA : stepP s 3 (1, 108, 236) (getR (s.drop 240)) = (joinAll (getR (s.drop 240)).1 (getR (slc s 108 236)).1, (getR (slc s 108 236)).2) := stepP_yes (k := 3) (b := (1, 108, 236)) (by rw [b5]; decide) h
  constructor
  · intro e
    have e1 := ho.2 e
    rw [ptR, hk, st_2, hA, stepP_no (k := 3) (b := (2, 44, 108)) (x := (joinAll (getR (s.drop 240)).1 (getR (slc s 108 236)).1, (getR (slc s 108 236)).2)) (.inr e1)]; dsimp only; rw [decide_eq_false e1]; rfl
  · intro e
    obtain ⟨e1, e2⟩ := ho.1 e
    rw [e2]
    have ho2 := ov_1 (os := joinAll (keep (getR (s.drop 240)).1) (keep (getR (slc s 108 236)).1)) (u := slc s 44 108)
    have hst : stP s (whS s) 2 = (joinAll (joinAll (getR (s.drop 240)).1 (getR (slc s 108 236)).1) (getR (slc s 44 108)).1, (getR (slc s 44 108)).2) := by
      rw [hk, st_2, hA, stepP_yes (k := 3) (b := (2, 44, 108)) (x := (joinAll (getR (s.drop 240)).1 (getR (slc s 108 236)).1, (getR (slc s 108 236)).2)) (by rw [b6]; decide) e1]
    have hall : allP s = joinAll (joinAll (keep (getR (s.drop 240)).1) (keep (getR (slc s 108 236)).1)) (keep (getR (slc s 44 108)).1) := by rw [allP, if_neg hw0, hst]; dsimp only; rw [keep_joinAll, keep_joinAll]
    constructor
    · intro e
      obtain ⟨e3, e4⟩ := ho2.1 e
      rw [ptR, hall, hst, e4]; dsimp only; rw [decide_eq_true e3]; rfl
    · intro e
      rw [ptR, hst]; dsimp only; rw [decide_eq_false (ho2.2 e)]; rfl
theorem nm_one {s : List UInt8} (h : 3 ≤ s.length) : nmS s 2 3 = ((s.getD 2 0).toNat : Int) := by
  have : slc s 2 3 = [s.getD 2 0] := by
    match s, h with
    | a :: b :: c :: r, _ => rfl
  rw [nmS, this]; simp [numI]
theorem numI_rngF : ∀ (l : List UInt8) (x : Int), 0 ≤ x → 0 ≤ l.foldl (fun x b => x * 256 + (b.toNat : Int)) x ∧ l.foldl (fun x b => x * 256 + (b.toNat : Int)) x < (x + 1) * 256 ^ l.length
  | [], x, h => by simp; omega
  | b :: r, x, h => by
    have hb := b.toNat_lt
    have ih := numI_rngF r (x * 256 + (b.toNat : Int)) (by omega)
    refine ⟨ih.1, Int.lt_of_lt_of_le ih.2 ?_⟩
    rw [List.length_cons, Int.pow_succ, Int.mul_comm (256 ^ r.length) 256, ← Int.mul_assoc]
    exact Int.mul_le_mul_of_nonneg_right (by omega) (Int.pow_nonneg (by decide))
theorem numI_rng (l : List UInt8) : 0 ≤ numI l ∧ numI l < 256 ^ l.length := by
  have := numI_rngF l 0 (Int.le_refl 0)
  simp only [Int.zero_add, Int.one_mul] at this
  exact this
theorem inb_nm {s : List UInt8} {i j : Int} {m n : Nat} (h0 : 0 ≤ i) (h1 : i ≤ j) (h2 : j ≤ s.length) (hm : j - i = m) (hn : (256 : Int) ^ m = 2 ^ n) : inb (nmS s i j) n = true := by
  have h := numI_rng (slc s i j)
  rw [slc_len h0 h1 h2, show (j - i).toNat = m by omega, hn] at h
  simp only [inb, nmS, Bool.and_eq_true, decide_eq_true_eq]; exact h
/-- a packet of bytes that are long enough may be, if its options may be -/
theorem pkOf_may {s : List UInt8} (h : 240 ≤ s.length) (hk : nmS s 2 3 ≤ 16) (os : List Opt) : pkMay ⟨nmS s 0 1, nmS s 1 2, nmS s 3 4, nmS s 4 8, nmS s 8 10, nmS s 10 12, nmS s 12 16, nmS s 16 20, nmS s 20 24, nmS s 24 28, slc s 28 (28 + nmS s 2 3), os⟩ = optsMay os := by
  have h0 : 0 ≤ nmS s 2 3 := (numI_rng _).1
  have hl : (slc s 28 (28 + nmS s 2 3)).length ≤ 16 := by rw [slc_len (by omega) (by omega) (by omega)]; omega
  have g1 : (256 : Int) ^ 1 = 2 ^ 8 := by decide
  have g2 : (256 : Int) ^ 2 = 2 ^ 16 := by decide
  have g4 : (256 : Int) ^ 4 = 2 ^ 32 := by decide
  rw [pkMay_eq]
  dsimp only
  rw [inb_nm (i := 0) (j := 1) (m := 1) (by decide) (by decide) (by omega) (by decide) g1, inb_nm (i := 1) (j := 2) (m := 1) (by decide) (by decide) (by omega) (by decide) g1, inb_nm (i := 3) (j := 4) (m := 1) (by decide) (by decide) (by omega) (by decide) g1,
    inb_nm (i := 4) (j := 8) (m := 4) (by decide) (by decide) (by omega) (by decide) g4, inb_nm (i := 8) (j := 10) (m := 2) (by decide) (by decide) (by omega) (by decide) g2, inb_nm (i := 10) (j := 12) (m := 2) (by decide) (by decide) (by omega) (by decide) g2,
    inb_nm (i := 12) (j := 16) (m := 4) (by decide) (by decide) (by omega) (by decide) g4, inb_nm (i := 16) (j := 20) (m := 4) (by decide) (by decide) (by omega) (by decide) g4, inb_nm (i := 20) (j := 24) (m := 4) (by decide) (by decide) (by omega) (by decide) g4, inb_nm (i := 24) (j := 28) (m := 4) (by decide) (by decide) (by omega) (by decide) g4, decide_eq_true hl]
  rfl
end Go.Proofs.Ytkjcmdgideddnaa

set_option linter.unusedVariables false
set_option linter.unusedSimpArgs false
namespace Go.Proofs.Ytkjcmdgideddnaa
open Go Go.RowKit
theorem slc_le5 (s : List UInt8) {i j : Int} (hi : 0 ≤ i) (hj : j - i ≤ 1000) : (slc s i j).length ≤ 1000 := by
  simp only [slc, List.length_drop, List.length_take]; omega
theorem ov_len (os : List Opt) (u : List UInt8) : (ovR os u).1.length ≤ os.length + u.length ∧ dsum (ovR os u).1 ≤ dsum os + u.length := by
  have hg := getR_b u
  have hj := joinAll_len (keep (getR u).1) os
  have h1 := keep_len (getR u).1
  have h2 := dsum_keep (getR u).1
  unfold ovR
  split
  · dsimp only; omega
  · simp [dsum]
theorem pkGet_no {s : List UInt8} (hne : ¬ (s.length < 240 ∨ slc s 236 240 ≠ cookieB)) (hp : (ptR s).2 = false) : pkGet s = (noPk, 700) := by rw [pkGet, if_neg hne, if_pos (.inr hp)]
theorem pkGet_yes {s : List UInt8} {os : List Opt} (hne : ¬ (s.length < 240 ∨ slc s 236 240 ≠ cookieB)) (hk : nmS s 2 3 ≤ 16) (hp : ptR s = (os, optsMay os)) (hm : pkMay ((fun os : List Opt => (⟨nmS s 0 1, nmS s 1 2, nmS s 3 4, nmS s 4 8, nmS s 8 10, nmS s 10 12, nmS s 12 16, nmS s 16 20, nmS s 20 24, nmS s 24 28, slc s 28 (28 + nmS s 2 3), os⟩ : Pkt)) os) = true) : pkGet s = ((fun os : List Opt => (⟨nmS s 0 1, nmS s 1 2, nmS s 3 4, nmS s 4 8, nmS s 8 10, nmS s 10 12, nmS s 12 16, nmS s 16 20, nmS s 20 24, nmS s 24 28, slc s 28 (28 + nmS s 2 3), os⟩ : Pkt)) os, 0) := by
  have h := pkOf_may (s := s) (by omega) hk os
  have hm' : optsMay os = true := h.symm.trans hm
  rw [pkGet, if_neg hne, if_neg (by rw [hp, hm']; rintro (h | h); omega; cases h), pkOf, hp]
theorem pkGet_bad {s : List UInt8} {os : List Opt} (hne : ¬ (s.length < 240 ∨ slc s 236 240 ≠ cookieB)) (hk : nmS s 2 3 ≤ 16) (hp : ptR s = (os, optsMay os)) (hm : pkMay ((fun os : List Opt => (⟨nmS s 0 1, nmS s 1 2, nmS s 3 4, nmS s 4 8, nmS s 8 10, nmS s 10 12, nmS s 12 16, nmS s 16 20, nmS s 20 24, nmS s 24 28, slc s 28 (28 + nmS s 2 3), os⟩ : Pkt)) os) = false) : pkGet s = (noPk, 700) := by
  have h := pkOf_may (s := s) (by omega) hk os
  exact pkGet_no hne (by rw [hp]; exact h.symm.trans hm)
set_option maxRecDepth 100000 in
set_option maxHeartbeats 2000000 in
theorem ref_GetPacket (s : List UInt8) (w : World) (hs : s.length ≤ 10000000) : Fn Try.prog 60 [.string (S s)] w [] fun v L' => ∃ o c sp, v = .tuple #[vPk (pkGet s).1 (oa o) c, .int .i64 (pkGet s).2] ∧ OwnOk o c 2 (pkGet s).1.opts.length (List.length sp) ∧ L' = rowL o 42 (flat encO (pkGet s).1.opts sp) := by
  have hn3 := nm3 s
  have hs47 : s.length ≤ 140737488355328 := by omega
  have hgb := getR_b (s.drop 240)
  have hdl : (s.drop 240).length ≤ s.length := by rw [List.length_drop]; omega
  refine Fn.enter Try.func60 rfl rfl rfl rfl (Holds.nil w) ?_
  refine CW.seq ?_
  refine CW.region ?_
  refine W.al rfl rfl fun b1 => ?_
  refine W.p O.as ?_
  refine WL.nil (Q.tn ?_)
  refine CW.seq ?_
  refine CW.seq ?_
  refine CW.draw 14 rfl (by kernel_rfl) ?_
  refine WQ.p O.mv ?_
  refine WQ.p O.len ?_
  refine WQ.p O.lss ?_
  refine WQ.p O.mv ?_
  refine WQ.p O.mv ?_
  first | refine WQ.p O.idxS ?_ | refine WQ.p (O.idxS (h := fun hg => by simp only [cond_true, cond_false, Bool.true_and, Bool.cond_false_right, Bool.cond_true_left, Bool.and_eq_true, Bool.or_eq_true, Bool.or_eq_false_iff, Bool.and_eq_false_iff, Bool.not_eq_true', Bool.not_eq_false', decide_eq_true_eq, decide_eq_false_iff_not, Int.reduceToNat] at *; omega)) ?_
  refine WQ.p O.gtr ?_
  refine WQ.p O.pkB ?_
  refine WQ.p O.mv ?_
  refine WQ.p O.mv ?_
  refine WQ.p (O.slc (h := by intro hg; simp at hg; omega)) ?_
  refine WQ.q (O.call ⟨rfl, rfl⟩ (AV.cons (vt rfl) (AV.cons (vt rfl) (AV.nil))) (fun _ w hw => ref_Num _ 4 w (by decide) (by decide))) ?_
  refine WQ.p O.neS ?_
  refine WQ.p O.pkB ?_
  refine WQ.nil ?_
  refine WL.nil (Q.tn ?_)
  refine CW.cond (vt rfl) (fun hc1 => ?_) (fun hc1 => ?_)
  · try simp only [Bool.cond_true_left, Bool.cond_false_right, Bool.or_eq_true, Bool.or_eq_false_iff, Bool.and_eq_true, Bool.and_eq_false_iff, decide_eq_true_eq, decide_eq_false_iff_not, Bool.not_eq_true', Bool.not_eq_false'] at hc1
    refine CW.seq ?_
    refine CW.region ?_
    refine W.p (O.bd (hv := PV.nil)) ?_
    refine W.st (vt rfl) (vt rfl) rfl ?_
    refine W.p O.as ?_
    refine WL.nil (Q.tn ?_)
    refine CW.ret (Q.tr ?_)
    refine ⟨_, [], (RVs.cell rfl (RVs.tmp rfl RVs.nil)), List.nil_sublist _, ?_⟩
    have hno : pkGet s = (noPk, 700) := by
      by_cases h4 : s.length < 240 ∨ slc s 236 240 ≠ cookieB
      · rw [pkGet, if_pos h4]
      · have h6 : 16 < nmS s 2 3 := by rw [nm_one (by omega)]; rcases hc1 with (h | h) | h; omega; exact h; exact absurd (.inr h) h4
        rw [pkGet, if_neg h4, if_pos (.inl h6)]
    rw [hno]; exact ⟨none, 0, [], rfl, OwnOk.nil, rfl⟩
  try simp only [Bool.cond_true_left, Bool.cond_false_right, Bool.or_eq_true, Bool.or_eq_false_iff, Bool.and_eq_true, Bool.and_eq_false_iff, decide_eq_true_eq, decide_eq_false_iff_not, Bool.not_eq_true', Bool.not_eq_false'] at hc1
  have h240 : 240 ≤ s.length := by omega
  have hb16 : ¬ 16 < ((s.getD 2 0).toNat : Int) := hc1.1.2
  have hn4 : numI (slc s 2 3) = ((s.getD 2 0).toNat : Int) := nm_one (by omega)
  have hn5 : 0 ≤ numI (slc s 2 3) ∧ numI (slc s 2 3) ≤ 16 := by omega
  have hn6 : 0 ≤ nmS s 2 3 ∧ nmS s 2 3 ≤ 16 := hn5
  have hne : ¬ (s.length < 240 ∨ slc s 236 240 ≠ cookieB) := by rintro (h | h); omega; exact h hc1.2
  have hsk : (slc s 28 (28 + nmS s 2 3)).length ≤ 16 := by rw [slc_len (by omega) (by omega) (by omega)]; omega
  refine CW.skip (Q.tn ?_)
  refine CW.seq ?_
  refine CW.region ?_
  refine W.p O.mv ?_
  refine W.p (O.bd (hv := PV.cons (vt rfl) (PV.nil))) ?_
  refine W.bx rfl (vt rfl) rfl fun b2 => ?_
  refine W.p O.as ?_
  refine WL.nil (Q.tn ?_)
  refine CW.seq ?_
  refine CW.region ?_
  refine W.p O.mv ?_
  refine W.callS (first := []) (cap := []) ([NmO b2 s 0]) rfl (vt rfl) (AV.cons (vt rfl) (AV.cons (vt rfl) (AV.nil))) (fun w hu hh => ref_rnum 0 1 1 w hh hs47 (by decide) (by decide) (by decide) (by omega)) ?_; rintro _ _ ⟨rfl, rfl⟩
  refine W.p O.mv ?_
  refine W.callS (first := []) (cap := []) ([NmO b2 s 1]) rfl (vt rfl) (AV.cons (vt rfl) (AV.cons (vt rfl) (AV.nil))) (fun w hu hh => ref_rnum 1 1 2 w hh hs47 (by decide) (by decide) (by decide) (by omega)) ?_; rintro _ _ ⟨rfl, rfl⟩
  refine W.p (O.bd (hv := PV.cons (vt rfl) (PV.cons (vt rfl) (PV.nil)))) ?_
  refine W.al rfl rfl fun b3 => ?_
  refine W.st (vt rfl) (vt rfl) rfl ?_
  refine WL.nil (Q.tn ?_)
  refine CW.seq ?_
  refine CW.region ?_
  refine W.p O.mv ?_
  refine W.callS (first := []) (cap := []) ([NmO b2 s 2]) rfl (vt rfl) (AV.cons (vt rfl) (AV.cons (vt rfl) (AV.nil))) (fun w hu hh => ref_rnum 2 1 3 w hh hs47 (by decide) (by decide) (by decide) (by omega)) ?_; rintro _ _ ⟨rfl, rfl⟩
  refine W.p O.as ?_
  refine WL.nil (Q.tn ?_)
  refine CW.seq ?_
  refine CW.region ?_
  refine W.p O.mv ?_
  refine W.callS (first := []) (cap := []) ([NmO b2 s 3]) rfl (vt rfl) (AV.cons (vt rfl) (AV.cons (vt rfl) (AV.nil))) (fun w hu hh => ref_rnum 3 1 4 w hh hs47 (by decide) (by decide) (by decide) (by omega)) ?_; rintro _ _ ⟨rfl, rfl⟩
  first | refine W.p O.fb ?_ | refine W.p O.fa ?_
  first | refine W.st (vt rfl) (vt rfl) rfl ?_ | refine W.st (u := .int _ _) (vt rfl) (vt rfl) rfl ?_
  refine WL.nil (Q.tn ?_)
  refine CW.seq ?_
  refine CW.region ?_
  refine W.p O.mv ?_
  refine W.callS (first := []) (cap := []) ([NmO b2 s 4]) rfl (vt rfl) (AV.cons (vt rfl) (AV.cons (vt rfl) (AV.nil))) (fun w hu hh => ref_rnum 4 4 8 w hh hs47 (by decide) (by decide) (by decide) (by omega)) ?_; rintro _ _ ⟨rfl, rfl⟩
  first | refine W.p O.fb ?_ | refine W.p O.fa ?_
  first | refine W.st (vt rfl) (vt rfl) rfl ?_ | refine W.st (u := .int _ _) (vt rfl) (vt rfl) rfl ?_
  refine WL.nil (Q.tn ?_)
  refine CW.seq ?_
  refine CW.region ?_
  refine W.p O.mv ?_
  refine W.callS (first := []) (cap := []) ([NmO b2 s 8]) rfl (vt rfl) (AV.cons (vt rfl) (AV.cons (vt rfl) (AV.nil))) (fun w hu hh => ref_rnum 8 2 10 w hh hs47 (by decide) (by decide) (by decide) (by omega)) ?_; rintro _ _ ⟨rfl, rfl⟩
  first | refine W.p O.fb ?_ | refine W.p O.fa ?_
  first | refine W.st (vt rfl) (vt rfl) rfl ?_ | refine W.st (u := .int _ _) (vt rfl) (vt rfl) rfl ?_
  refine WL.nil (Q.tn ?_)
  refine CW.seq ?_
  refine CW.region ?_
  refine W.p O.mv ?_
  refine W.callS (first := []) (cap := []) ([NmO b2 s 10]) rfl (vt rfl) (AV.cons (vt rfl) (AV.cons (vt rfl) (AV.nil))) (fun w hu hh => ref_rnum 10 2 12 w hh hs47 (by decide) (by decide) (by decide) (by omega)) ?_; rintro _ _ ⟨rfl, rfl⟩
  first | refine W.p O.fb ?_ | refine W.p O.fa ?_
  first | refine W.st (vt rfl) (vt rfl) rfl ?_ | refine W.st (u := .int _ _) (vt rfl) (vt rfl) rfl ?_
  refine WL.nil (Q.tn ?_)
  refine CW.seq ?_
  refine CW.region ?_
  refine W.p O.mv ?_
  refine W.callS (first := []) (cap := []) ([NmO b2 s 12]) rfl (vt rfl) (AV.cons (vt rfl) (AV.cons (vt rfl) (AV.nil))) (fun w hu hh => ref_rnum 12 4 16 w hh hs47 (by decide) (by decide) (by decide) (by omega)) ?_; rintro _ _ ⟨rfl, rfl⟩
  first | refine W.p O.fb ?_ | refine W.p O.fa ?_
  first | refine W.st (vt rfl) (vt rfl) rfl ?_ | refine W.st (u := .int _ _) (vt rfl) (vt rfl) rfl ?_
  refine WL.nil (Q.tn ?_)
  refine CW.seq ?_
  refine CW.region ?_
  refine W.p O.mv ?_
  refine W.callS (first := []) (cap := []) ([NmO b2 s 16]) rfl (vt rfl) (AV.cons (vt rfl) (AV.cons (vt rfl) (AV.nil))) (fun w hu hh => ref_rnum 16 4 20 w hh hs47 (by decide) (by decide) (by decide) (by omega)) ?_; rintro _ _ ⟨rfl, rfl⟩
  first | refine W.p O.fb ?_ | refine W.p O.fa ?_
  first | refine W.st (vt rfl) (vt rfl) rfl ?_ | refine W.st (u := .int _ _) (vt rfl) (vt rfl) rfl ?_
  refine WL.nil (Q.tn ?_)
  refine CW.seq ?_
  refine CW.region ?_
  refine W.p O.mv ?_
  refine W.callS (first := []) (cap := []) ([NmO b2 s 20]) rfl (vt rfl) (AV.cons (vt rfl) (AV.cons (vt rfl) (AV.nil))) (fun w hu hh => ref_rnum 20 4 24 w hh hs47 (by decide) (by decide) (by decide) (by omega)) ?_; rintro _ _ ⟨rfl, rfl⟩
  first | refine W.p O.fb ?_ | refine W.p O.fa ?_
  first | refine W.st (vt rfl) (vt rfl) rfl ?_ | refine W.st (u := .int _ _) (vt rfl) (vt rfl) rfl ?_
  refine WL.nil (Q.tn ?_)
  refine CW.seq ?_
  refine CW.region ?_
  refine W.p O.mv ?_
  refine W.callS (first := []) (cap := []) ([NmO b2 s 24]) rfl (vt rfl) (AV.cons (vt rfl) (AV.cons (vt rfl) (AV.nil))) (fun w hu hh => ref_rnum 24 4 28 w hh hs47 (by decide) (by decide) (by decide) (by omega)) ?_; rintro _ _ ⟨rfl, rfl⟩
  first | refine W.p O.fb ?_ | refine W.p O.fa ?_
  first | refine W.st (vt rfl) (vt rfl) rfl ?_ | refine W.st (u := .int _ _) (vt rfl) (vt rfl) rfl ?_
  refine WL.nil (Q.tn ?_)
  refine CW.seq ?_
  refine CW.region ?_
  refine W.p O.mv ?_
  refine W.p O.mv ?_
  first | refine W.p O.addN ?_ | refine W.p O.add ?_
  refine W.p O.slc ?_
  first | refine W.p O.fb ?_ | refine W.p O.fa ?_
  first | refine W.st (vt rfl) (vt rfl) rfl ?_ | refine W.st (u := .string _) (vt rfl) (vt rfl) rfl ?_
  refine WL.nil (Q.tn ?_)
  refine CW.seq ?_
  refine CW.region ?_
  refine W.p O.mv ?_
  refine W.p O.slcL ?_
  refine W.callN (first := []) (cap := []) rfl (vt rfl) (AV.cons (vt rfl) (AV.nil)) (fun w hu => ref_GetOpts (s.drop 240) w (by omega)) ?_; rintro _ _ ⟨_, rfl, o11, c11, sp11, rfl, ok11, rfl⟩; have nk11 := ok11.nk
  refine W.p O.mv ?_
  first | refine W.p O.extL ?_ | refine W.p O.ext ?_
  first | refine W.p O.extL ?_ | refine W.p O.ext ?_
  refine W.p O.as ?_
  refine W.p O.as ?_
  refine WL.nil (Q.tn ?_)
  refine CW.seq ?_
  refine CW.seq ?_
  refine CW.region ?_
  refine W.p O.mv ?_
  refine W.p O.neI ?_
  refine WL.nil (Q.tn ?_)
  refine CW.cond (vt rfl) (fun hc2 => ?_) (fun hc2 => ?_)
  · try simp only [Bool.cond_true_left, Bool.cond_false_right, Bool.or_eq_true, Bool.or_eq_false_iff, Bool.and_eq_true, Bool.and_eq_false_iff, decide_eq_true_eq, decide_eq_false_iff_not, Bool.not_eq_true', Bool.not_eq_false'] at hc2
    refine CW.seq ?_
    refine CW.region ?_
    refine W.p (O.bd (hv := PV.nil)) ?_
    refine W.st (vt rfl) (vt rfl) rfl ?_
    refine W.p O.as ?_
    refine WL.nil (Q.tn ?_)
    refine CW.ret (Q.tr ?_)
    refine ⟨_, [], (RVs.cell rfl (RVs.tmp rfl RVs.nil)), List.nil_sublist _, ?_⟩
    rw [pkGet, if_neg hne, if_pos (.inr (pt_0 hc2))]; exact ⟨none, 0, [], rfl, OwnOk.nil, rfl⟩
  try simp only [Bool.cond_true_left, Bool.cond_false_right, Bool.or_eq_true, Bool.or_eq_false_iff, Bool.and_eq_true, Bool.and_eq_false_iff, decide_eq_true_eq, decide_eq_false_iff_not, Bool.not_eq_true', Bool.not_eq_false'] at hc2
  refine CW.skip (Q.tn ?_)
  refine CW.seq ?_
  refine CW.region ?_
  refine W.p O.mv ?_
  refine W.q (O.call ⟨rfl, rfl⟩ (AV.cons (vt rfl) (AV.cons (vt rfl) (AV.nil))) (fun _ w hw => ref_FindOpt (getR (s.drop 240)).1 _ _ 52 w (RowL.h _ hw) (by omega))) ?_
  refine W.p O.mv ?_
  first | refine W.p O.extL ?_ | refine W.p O.ext ?_
  first | refine W.p O.extL ?_ | refine W.p O.ext ?_
  refine W.p O.as ?_
  refine W.p O.as ?_
  refine WL.nil (Q.tn ?_)
  refine CW.seq ?_
  refine CW.seq ?_
  refine CW.region ?_
  refine W.p O.mv ?_
  refine W.p O.mv ?_
  refine W.p O.mv ?_
  refine W.p O.len ?_
  refine W.p O.eqI ?_
  refine W.p O.pkB ?_
  refine W.p O.mv ?_
  refine W.p O.mv ?_
  first | refine W.p O.idxS ?_ | refine W.p (O.idxS (h := fun hg => by simp only [cond_true, cond_false, Bool.true_and, Bool.cond_false_right, Bool.cond_true_left, Bool.and_eq_true, Bool.or_eq_true, Bool.or_eq_false_iff, Bool.and_eq_false_iff, Bool.not_eq_true', Bool.not_eq_false', decide_eq_true_eq, decide_eq_false_iff_not, Int.reduceToNat] at *; omega)) ?_
  refine W.p O.geq ?_
  refine W.p O.pkB ?_
  refine W.p O.mv ?_
  refine W.p O.mv ?_
  first | refine W.p O.idxS ?_ | refine W.p (O.idxS (h := fun hg => by simp only [cond_true, cond_false, Bool.true_and, Bool.cond_false_right, Bool.cond_true_left, Bool.and_eq_true, Bool.or_eq_true, Bool.or_eq_false_iff, Bool.and_eq_false_iff, Bool.not_eq_true', Bool.not_eq_false', decide_eq_true_eq, decide_eq_false_iff_not, Int.reduceToNat] at *; omega)) ?_
  refine W.p O.leq ?_
  refine W.p O.pkB ?_
  refine WL.nil (Q.tn ?_)
  refine CW.cond (vt rfl) (fun hc3 => ?_) (fun hc3 => ?_)
  · try simp only [Bool.cond_true_left, Bool.cond_false_right, Bool.or_eq_true, Bool.or_eq_false_iff, Bool.and_eq_true, Bool.and_eq_false_iff, decide_eq_true_eq, decide_eq_false_iff_not, Bool.not_eq_true', Bool.not_eq_false'] at hc3
    refine CW.seq ?_
    refine CW.region ?_
    refine W.p O.as ?_
    refine WL.nil (Q.tn ?_)
    refine CW.seq ?_
    refine CW.seq ?_
    refine CW.region ?_
    refine W.p O.as ?_
    refine WL.nil (Q.tn ?_)
    refine CW.block ?_
    refine CW.loop (X := Int × (List Opt) × (Option Nat) × Nat × (List Value)) (fun ⟨i, rs, p1, q1, r1⟩ => [(0, true, .string (S s)), (2, true, .pointer (some ⟨b1, 0, none⟩)), (5, true, .pointer (some ⟨b3, 0, none⟩)), (7, true, .slice (oa o11) (getR (s.drop 240)).1.length c11), (9, true, .string (S (fdF 52 (getR (s.drop 240)).1).1)), (11, true, .slice (oa p1) rs.length q1), (12, true, .int .i64 i)]) (fun ⟨i, rs, p1, q1, r1⟩ => rowL p1 42 (flat encO rs r1) ++ (rowL o11 42 (flat encO (getR (s.drop 240)).1 sp11) ++ [(b3, .cells (encPk (⟨nmS s 0 1, nmS s 1 2, nmS s 3 4, nmS s 4 8, nmS s 8 10, nmS s 10 12, nmS s 12 16, nmS s 16 20, nmS s 20 24, nmS s 24 28, slc s 28 (28 + nmS s 2 3), []⟩ : Pkt) none 0).toArray 72 (0, 0)), (b1, .cells (pkC [0, 0, 0, 0, 0, 0, 0, 0, 0, 0, 0]).toArray 72 (0, 0))])) (fun ⟨i, rs, p1, q1, r1⟩ => 0 ≤ i ∧ i ≤ (getR (s.drop 240)).1.length ∧ OwnOk p1 q1 2 rs.length r1.length ∧ rs = keep ((getR (s.drop 240)).1.take i.toNat)) (fun ⟨i, rs, p1, q1, r1⟩ => ((getR (s.drop 240)).1.length - i).toNat) (0, [], none, 0, []) ?_ (by repeat (first | exact trivial | refine ⟨rfl, ?_⟩ | refine ⟨by (simp only [List.length_set]; rfl), ?_⟩)) (by show List.Sublist (rowL o11 42 (flat encO (getR (s.drop 240)).1 sp11) ++ [(b3, .cells (encPk (⟨nmS s 0 1, nmS s 1 2, nmS s 3 4, nmS s 4 8, nmS s 8 10, nmS s 10 12, nmS s 12 16, nmS s 16 20, nmS s 20 24, nmS s 24 28, slc s 28 (28 + nmS s 2 3), []⟩ : Pkt) none 0).toArray 72 (0, 0)), (b1, .cells (pkC [0, 0, 0, 0, 0, 0, 0, 0, 0, 0, 0]).toArray 72 (0, 0))]) (rowL o11 42 (flat encO (getR (s.drop 240)).1 sp11) ++ (b3, .cells (encPk (⟨nmS s 0 1, nmS s 1 2, nmS s 3 4, nmS s 4 8, nmS s 8 10, nmS s 10 12, nmS s 12 16, nmS s 16 20, nmS s 20 24, nmS s 24 28, slc s 28 (28 + nmS s 2 3), []⟩ : Pkt) none 0).toArray 72 (0, 0)) :: [NmO b2 s 28, (b1, .cells (pkC [0, 0, 0, 0, 0, 0, 0, 0, 0, 0, 0]).toArray 72 (0, 0))]); exact List.Sublist.append (List.Sublist.refl _) (List.Sublist.cons_cons _ (List.Sublist.cons _ (List.Sublist.refl _)))) ?_
    · exact ⟨by omega, by omega, OwnOk.nil, rfl⟩
    rintro ⟨i, rs, p1, q1, r1⟩ hI
    try dsimp only at hI ⊢
    obtain ⟨h0, h1, ok, hrs⟩ := hI
    have nk := ok.nk (α := Opt) (xs := rs)
    have hkl := keep_len ((getR (s.drop 240)).1.take i.toNat)
    have hk3 : ((getR (s.drop 240)).1.take i.toNat).length ≤ (getR (s.drop 240)).1.length := by rw [List.length_take]; omega
    rw [← hrs] at hkl
    refine CW.seq ?_
    refine CW.seq ?_
    refine CW.region ?_
    refine W.p O.mv ?_
    refine W.p O.mv ?_
    refine W.p O.lenL ?_
    refine W.p O.lss ?_
    refine WL.nil (Q.tn ?_)
    refine CW.cond (vt rfl) (fun hc4 => ?_) (fun hc4 => ?_)
    · try simp only [Bool.cond_true_left, Bool.cond_false_right, Bool.or_eq_true, Bool.or_eq_false_iff, Bool.and_eq_true, Bool.and_eq_false_iff, decide_eq_true_eq, decide_eq_false_iff_not, Bool.not_eq_true', Bool.not_eq_false'] at hc4
      refine CW.skip (Q.tn ?_)
      refine CW.seq ?_
      refine CW.block ?_
      refine CW.seq ?_
      refine CW.region ?_
      refine W.p O.mv ?_
      refine W.p O.mv ?_
      refine W.p O.ixA ?_
      first | refine W.p O.fe ?_ | refine W.p O.feR ?_
      refine W.p O.ldE ?_
      refine W.p O.neI ?_
      refine WL.nil (Q.tn ?_)
      refine CW.cond (vt rfl) (fun hc5 => ?_) (fun hc5 => ?_)
      · try simp only [Bool.cond_true_left, Bool.cond_false_right, Bool.or_eq_true, Bool.or_eq_false_iff, Bool.and_eq_true, Bool.and_eq_false_iff, decide_eq_true_eq, decide_eq_false_iff_not, Bool.not_eq_true', Bool.not_eq_false'] at hc5
        refine CW.region ?_
        refine W.p O.mv ?_
        refine W.p O.mv ?_
        refine W.p O.mv ?_
        refine W.p O.ixA ?_
        refine W.p O.ldsE ?_
        refine W.bs encO [(getR (s.drop 240)).1.getD i.toNat dO] rfl (PV.cons (vt rfl) (PV.nil)) rfl rfl rfl (by decide) rfl fun b4 => ?_
        refine W.ap rfl (vt rfl) (vt rfl) (by first | rfl | omega) (by first | rfl | omega) rfl (by first | assumption | exact OwnOk.nil | exact OwnOk.lit) (by first | omega | (simp; omega)) fun o1 c1 sp1 ok1 ne1 gt1 => ?_
        have nk1 := ok1.nk; have le1 := ok1.2.2.1; try simp only [List.length_append, List.length_cons, List.length_nil] at le1
        refine W.p O.as ?_
        refine WL.nil (Q.bn (Q.tn ?_))
        refine CW.region ?_
        refine W.p O.mv ?_
        first | refine W.p O.addN ?_ | refine W.p O.add ?_
        refine W.p O.as ?_
        refine WL.nil (Q.tn ?_)
        refine ⟨(_, _, _, _, _), ?_, ?_, (by repeat (first | exact trivial | refine ⟨rfl, ?_⟩ | refine ⟨by (simp only [List.length_set]; rfl), ?_⟩)), (by repeat (first | exact List.Sublist.refl _ | exact List.sublist_append_left _ _ | exact List.nil_sublist _ | refine List.Sublist.append (List.Sublist.refl _) ?_ | apply List.Sublist.cons_cons | apply List.Sublist.cons | refine List.Sublist.trans ?_ (List.sublist_append_right _ _)))⟩
        · try dsimp only
          refine ⟨by omega, by omega, by assumption, ?_⟩
          rw [take_at' dO h0 hc4, keep_app, ← hrs, keep_one, if_neg hc5]
        · try dsimp only
          omega
      try simp only [Bool.cond_true_left, Bool.cond_false_right, Bool.or_eq_true, Bool.or_eq_false_iff, Bool.and_eq_true, Bool.and_eq_false_iff, decide_eq_true_eq, decide_eq_false_iff_not, Bool.not_eq_true', Bool.not_eq_false'] at hc5
      refine CW.skip (Q.bn (Q.tn ?_))
      refine CW.region ?_
      refine W.p O.mv ?_
      first | refine W.p O.addN ?_ | refine W.p O.add ?_
      refine W.p O.as ?_
      refine WL.nil (Q.tn ?_)
      refine ⟨(_, _, _, _, _), ?_, ?_, (by repeat (first | exact trivial | refine ⟨rfl, ?_⟩ | refine ⟨by (simp only [List.length_set]; rfl), ?_⟩)), (by repeat (first | exact List.Sublist.refl _ | exact List.sublist_append_left _ _ | exact List.nil_sublist _ | refine List.Sublist.append (List.Sublist.refl _) ?_ | apply List.Sublist.cons_cons | apply List.Sublist.cons | refine List.Sublist.trans ?_ (List.sublist_append_right _ _)))⟩
      · try dsimp only
        refine ⟨by omega, by omega, ok, ?_⟩
        rw [take_at' dO h0 hc4, keep_app, ← hrs, keep_one, if_pos hc5, List.append_nil]
      · try dsimp only
        omega
    try simp only [Bool.cond_true_left, Bool.cond_false_right, Bool.or_eq_true, Bool.or_eq_false_iff, Bool.and_eq_true, Bool.and_eq_false_iff, decide_eq_true_eq, decide_eq_false_iff_not, Bool.not_eq_true', Bool.not_eq_false'] at hc4
    obtain rfl : rs = (keep (getR (s.drop 240)).1) := by rw [hrs, List.take_of_length_le (by omega)]
    have hwh : whS s = (((fdF 52 (getR (s.drop 240)).1).1.getD 0 0).toNat : Int) := by rw [whS, whP, if_pos ⟨hc3.1.1, hc3.2⟩]
    have hx1 : 1 ≤ whS s := by rw [hwh]; exact hc3.1.2
    have hx3 : whS s ≤ 3 := by rw [hwh]; exact hc3.2
    have hxe : ∀ n : Int, ¬ (((fdF 52 (getR (s.drop 240)).1).1.getD 0 0).toNat : Int) = n → ¬ whS s = n := fun n h e => h (hwh.symm.trans e)
    have hkk := keep_len (getR (s.drop 240)).1
    have hkd := dsum_keep (getR (s.drop 240)).1
    have hv0 : (ovR (keep (getR (s.drop 240)).1) (slc s 108 236)).1.length ≤ 100000000 ∧ dsum (ovR (keep (getR (s.drop 240)).1) (slc s 108 236)).1 ≤ 100000000 := by have h1 := ov_len (keep (getR (s.drop 240)).1) (slc s 108 236); have h2 := slc_le5 s (i := 108) (j := 236) (by decide) (by decide); omega
    have hv1 : (ovR (ovR (keep (getR (s.drop 240)).1) (slc s 108 236)).1 (slc s 44 108)).1.length ≤ 140737488355328 := by have h1 := ov_len (ovR (keep (getR (s.drop 240)).1) (slc s 108 236)).1 (slc s 44 108); have h2 := slc_le5 s (i := 44) (j := 108) (by decide) (by decide); omega
    have hv2 : (ovR (keep (getR (s.drop 240)).1) (slc s 44 108)).1.length ≤ 140737488355328 := by have h1 := ov_len (keep (getR (s.drop 240)).1) (slc s 44 108); have h2 := slc_le5 s (i := 44) (j := 108) (by decide) (by decide); omega
    refine CW.exit (Q.te (Q.te (Q.bx (Q.tn ?_))))
    refine CW.seq ?_
    refine CW.region ?_
    refine W.p O.mv ?_
    refine W.p O.as ?_
    refine WL.nil (Q.tn ?_)
    refine CW.seq ?_
    refine CW.region ?_
    refine W.p O.as ?_
    refine WL.nil (Q.tn ?_)
    refine CW.seq ?_
    refine CW.seq ?_
    refine CW.region ?_
    refine W.p O.mv ?_
    first | refine W.p O.idxS ?_ | refine W.p (O.idxS (h := fun hg => by simp only [cond_true, cond_false, Bool.true_and, Bool.cond_false_right, Bool.cond_true_left, Bool.and_eq_true, Bool.or_eq_true, Bool.or_eq_false_iff, Bool.and_eq_false_iff, Bool.not_eq_true', Bool.not_eq_false', decide_eq_true_eq, decide_eq_false_iff_not, Int.reduceToNat] at *; omega)) ?_
    refine W.p O.neI ?_
    refine WL.nil (Q.tn ?_)
    refine CW.cond (vt rfl) (fun hc6 => ?_) (fun hc6 => ?_)
    · try simp only [Bool.cond_true_left, Bool.cond_false_right, Bool.or_eq_true, Bool.or_eq_false_iff, Bool.and_eq_true, Bool.and_eq_false_iff, decide_eq_true_eq, decide_eq_false_iff_not, Bool.not_eq_true', Bool.not_eq_false'] at hc6
      refine CW.region ?_
      refine W.p O.mv ?_
      refine W.p O.mv ?_
      refine W.p O.slc ?_
      refine W.callS (first := []) (cap := []) (rowL p1 42 (flat encO (keep (getR (s.drop 240)).1) r1)) rfl (vt rfl) (AV.cons (vt rfl) (AV.cons (vt rfl) (AV.nil))) (fun w hu hh => ref_over (keep (getR (s.drop 240)).1) p1 q1 r1 (slc s 108 236) w ok hh (slc_le5 _ (by decide) (by decide)) (by omega) (by omega)) ?_; rintro _ _ ⟨o14, c14, sp14, rfl, ok14, rfl⟩; have nk14 := ok14.nk
      refine W.p O.mv ?_
      first | refine W.p O.extL ?_ | refine W.p O.ext ?_
      first | refine W.p O.extL ?_ | refine W.p O.ext ?_
      refine W.p O.as ?_
      refine W.p O.as ?_
      refine WL.nil (Q.tn ?_)
      refine CW.seq ?_
      refine CW.seq ?_
      refine CW.region ?_
      refine W.p O.mv ?_
      refine W.p O.mv ?_
      refine W.p O.mv ?_
      first | refine W.p O.idxS ?_ | refine W.p (O.idxS (h := fun hg => by simp only [cond_true, cond_false, Bool.true_and, Bool.cond_false_right, Bool.cond_true_left, Bool.and_eq_true, Bool.or_eq_true, Bool.or_eq_false_iff, Bool.and_eq_false_iff, Bool.not_eq_true', Bool.not_eq_false', decide_eq_true_eq, decide_eq_false_iff_not, Int.reduceToNat] at *; omega)) ?_
      refine W.p O.neI ?_
      refine W.p O.pkB ?_
      refine WL.nil (Q.tn ?_)
      refine CW.cond (vt rfl) (fun hc7 => ?_) (fun hc7 => ?_)
      · try simp only [Bool.cond_true_left, Bool.cond_false_right, Bool.or_eq_true, Bool.or_eq_false_iff, Bool.and_eq_true, Bool.and_eq_false_iff, decide_eq_true_eq, decide_eq_false_iff_not, Bool.not_eq_true', Bool.not_eq_false'] at hc7
        refine CW.region ?_
        refine W.p O.mv ?_
        refine W.p O.mv ?_
        refine W.p O.slc ?_
        refine W.callS (first := []) (cap := []) (rowL o14 42 (flat encO (ovR (keep (getR (s.drop 240)).1) (slc s 108 236)).1 sp14)) rfl (vt rfl) (AV.cons (vt rfl) (AV.cons (vt rfl) (AV.nil))) (fun w hu hh => ref_over (ovR (keep (getR (s.drop 240)).1) (slc s 108 236)).1 o14 c14 sp14 (slc s 44 108) w ok14 hh (slc_le5 _ (by decide) (by decide)) hv0.1 hv0.2) ?_; rintro _ _ ⟨o15, c15, sp15, rfl, ok15, rfl⟩; have nk15 := ok15.nk
        refine W.p O.mv ?_
        first | refine W.p O.extL ?_ | refine W.p O.ext ?_
        first | refine W.p O.extL ?_ | refine W.p O.ext ?_
        refine W.p O.as ?_
        refine W.p O.as ?_
        refine WL.nil (Q.tn ?_)
        refine CW.seq ?_
        refine CW.region ?_
        refine W.p O.mv ?_
        refine W.p O.nt ?_
        refine WL.nil (Q.tn ?_)
        refine CW.cond (vt rfl) (fun hc8 => ?_) (fun hc8 => ?_)
        · try simp only [Bool.cond_true_left, Bool.cond_false_right, Bool.or_eq_true, Bool.or_eq_false_iff, Bool.and_eq_true, Bool.and_eq_false_iff, decide_eq_true_eq, decide_eq_false_iff_not, Bool.not_eq_true', Bool.not_eq_false'] at hc8
          refine CW.seq ?_
          refine CW.region ?_
          refine W.p (O.bd (hv := PV.nil)) ?_
          refine W.st (vt rfl) (vt rfl) rfl ?_
          refine W.p O.as ?_
          refine WL.nil (Q.tn ?_)
          refine CW.ret (Q.tr ?_)
          refine ⟨_, [], (RVs.cell rfl (RVs.tmp rfl RVs.nil)), List.nil_sublist _, ?_⟩
          have hw2 := hxe 2 hc6
          have hw1 := hxe 1 hc7.2
          rw [pkGet_no hne (((pt_3 (by omega) hc2).2 hc7.1).2 hc8)]; exact ⟨none, 0, [], rfl, OwnOk.nil, rfl⟩
        try simp only [Bool.cond_true_left, Bool.cond_false_right, Bool.or_eq_true, Bool.or_eq_false_iff, Bool.and_eq_true, Bool.and_eq_false_iff, decide_eq_true_eq, decide_eq_false_iff_not, Bool.not_eq_true', Bool.not_eq_false'] at hc8
        refine CW.skip (Q.tn ?_)
        refine CW.seq ?_
        refine CW.region ?_
        refine W.p O.mv ?_
        first | refine W.p O.fb ?_ | refine W.p O.fa ?_
        first | refine W.st (vt rfl) (vt rfl) rfl ?_ | refine W.st (u := .slice _ _ _) (vt rfl) (vt rfl) rfl ?_
        refine WL.nil (Q.tn ?_)
        refine CW.seq ?_
        refine CW.seq ?_
        refine CW.region ?_
        refine W.p O.lds ?_
        refine W.q (O.call ⟨rfl, rfl⟩ (AV.cons (vt rfl) (AV.nil)) (fun _ w hw => ref_PacketMay ((fun os : List Opt => (⟨nmS s 0 1, nmS s 1 2, nmS s 3 4, nmS s 4 8, nmS s 8 10, nmS s 10 12, nmS s 12 16, nmS s 16 20, nmS s 20 24, nmS s 24 28, slc s 28 (28 + nmS s 2 3), os⟩ : Pkt)) (ovR (ovR (keep (getR (s.drop 240)).1) (slc s 108 236)).1 (slc s 44 108)).1) _ _ w (RowL.h _ hw) hv1)) ?_
        refine W.p O.nt ?_
        refine WL.nil (Q.tn ?_)
        refine CW.cond (vt rfl) (fun hc9 => ?_) (fun hc9 => ?_)
        · try simp only [Bool.cond_true_left, Bool.cond_false_right, Bool.or_eq_true, Bool.or_eq_false_iff, Bool.and_eq_true, Bool.and_eq_false_iff, decide_eq_true_eq, decide_eq_false_iff_not, Bool.not_eq_true', Bool.not_eq_false'] at hc9
          refine CW.seq ?_
          refine CW.region ?_
          refine W.p (O.bd (hv := PV.nil)) ?_
          refine W.st (vt rfl) (vt rfl) rfl ?_
          refine W.p O.as ?_
          refine WL.nil (Q.tn ?_)
          refine CW.ret (Q.tr ?_)
          refine ⟨_, [], (RVs.cell rfl (RVs.tmp rfl RVs.nil)), List.nil_sublist _, ?_⟩
          have hw2 := hxe 2 hc6
          have hw1 := hxe 1 hc7.2
          rw [pkGet_bad hne hn6.2 (((pt_3 (by omega) hc2).2 hc7.1).1 hc8) hc9]; exact ⟨none, 0, [], rfl, OwnOk.nil, rfl⟩
        try simp only [Bool.cond_true_left, Bool.cond_false_right, Bool.or_eq_true, Bool.or_eq_false_iff, Bool.and_eq_true, Bool.and_eq_false_iff, decide_eq_true_eq, decide_eq_false_iff_not, Bool.not_eq_true', Bool.not_eq_false'] at hc9
        refine CW.skip (Q.tn ?_)
        refine CW.seq ?_
        refine CW.region ?_
        refine W.p O.lds ?_
        refine W.st (vt rfl) (vt rfl) rfl ?_
        refine W.p O.as ?_
        refine WL.nil (Q.tn ?_)
        refine CW.ret ?_
        refine ⟨_, rowL o15 42 (flat encO (ovR (ovR (keep (getR (s.drop 240)).1) (slc s 108 236)).1 (slc s 44 108)).1 sp15), (RVs.cell rfl (RVs.tmp rfl RVs.nil)), (by repeat (first | exact List.Sublist.refl _ | exact hSub _ | exact List.sublist_append_left _ _ | exact List.nil_sublist _ | refine List.Sublist.append (List.Sublist.refl _) ?_ | apply List.Sublist.cons_cons | apply List.Sublist.cons | exact List.sublist_append_left _ _ | refine List.Sublist.trans ?_ (List.sublist_append_right _ _))), ?_⟩
        have hw2 := hxe 2 hc6
        have hw1 := hxe 1 hc7.2
        rw [pkGet_yes hne hn6.2 (((pt_3 (by omega) hc2).2 hc7.1).1 hc8) hc9]; exact ⟨o15, c15, sp15, rfl, ok15, rfl⟩
      try simp only [Bool.cond_true_left, Bool.cond_false_right, Bool.or_eq_true, Bool.or_eq_false_iff, Bool.and_eq_true, Bool.and_eq_false_iff, decide_eq_true_eq, decide_eq_false_iff_not, Bool.not_eq_true', Bool.not_eq_false'] at hc7
      refine CW.skip (Q.tn ?_)
      refine CW.seq ?_
      refine CW.region ?_
      refine W.p O.mv ?_
      refine W.p O.nt ?_
      refine WL.nil (Q.tn ?_)
      refine CW.cond (vt rfl) (fun hc10 => ?_) (fun hc10 => ?_)
      · try simp only [Bool.cond_true_left, Bool.cond_false_right, Bool.or_eq_true, Bool.or_eq_false_iff, Bool.and_eq_true, Bool.and_eq_false_iff, decide_eq_true_eq, decide_eq_false_iff_not, Bool.not_eq_true', Bool.not_eq_false'] at hc10
        refine CW.seq ?_
        refine CW.region ?_
        refine W.p (O.bd (hv := PV.nil)) ?_
        refine W.st (vt rfl) (vt rfl) rfl ?_
        refine W.p O.as ?_
        refine WL.nil (Q.tn ?_)
        refine CW.ret (Q.tr ?_)
        refine ⟨_, [], (RVs.cell rfl (RVs.tmp rfl RVs.nil)), List.nil_sublist _, ?_⟩
        have hw2 := hxe 2 hc6
        have hf : (ptR s).2 = false := by
          by_cases h1 : whS s = 1
          · exact (pt_b (.inl ⟨h1, rfl, rfl⟩) hc2).2 hc10
          · exact (pt_3 (by omega) hc2).1 hc10
        rw [pkGet_no hne hf]; exact ⟨none, 0, [], rfl, OwnOk.nil, rfl⟩
      try simp only [Bool.cond_true_left, Bool.cond_false_right, Bool.or_eq_true, Bool.or_eq_false_iff, Bool.and_eq_true, Bool.and_eq_false_iff, decide_eq_true_eq, decide_eq_false_iff_not, Bool.not_eq_true', Bool.not_eq_false'] at hc10
      have hw1 : whS s = 1 := by rcases hc7 with h | h; (rw [hc10] at h; cases h); (rw [hwh]; exact h)
      refine CW.skip (Q.tn ?_)
      refine CW.seq ?_
      refine CW.region ?_
      refine W.p O.mv ?_
      first | refine W.p O.fb ?_ | refine W.p O.fa ?_
      first | refine W.st (vt rfl) (vt rfl) rfl ?_ | refine W.st (u := .slice _ _ _) (vt rfl) (vt rfl) rfl ?_
      refine WL.nil (Q.tn ?_)
      refine CW.seq ?_
      refine CW.seq ?_
      refine CW.region ?_
      refine W.p O.lds ?_
      refine W.q (O.call ⟨rfl, rfl⟩ (AV.cons (vt rfl) (AV.nil)) (fun _ w hw => ref_PacketMay ((fun os : List Opt => (⟨nmS s 0 1, nmS s 1 2, nmS s 3 4, nmS s 4 8, nmS s 8 10, nmS s 10 12, nmS s 12 16, nmS s 16 20, nmS s 20 24, nmS s 24 28, slc s 28 (28 + nmS s 2 3), os⟩ : Pkt)) (ovR (keep (getR (s.drop 240)).1) (slc s 108 236)).1) _ _ w (RowL.h _ hw) (by dsimp only; omega))) ?_
      refine W.p O.nt ?_
      refine WL.nil (Q.tn ?_)
      refine CW.cond (vt rfl) (fun hc11 => ?_) (fun hc11 => ?_)
      · try simp only [Bool.cond_true_left, Bool.cond_false_right, Bool.or_eq_true, Bool.or_eq_false_iff, Bool.and_eq_true, Bool.and_eq_false_iff, decide_eq_true_eq, decide_eq_false_iff_not, Bool.not_eq_true', Bool.not_eq_false'] at hc11
        refine CW.seq ?_
        refine CW.region ?_
        refine W.p (O.bd (hv := PV.nil)) ?_
        refine W.st (vt rfl) (vt rfl) rfl ?_
        refine W.p O.as ?_
        refine WL.nil (Q.tn ?_)
        refine CW.ret (Q.tr ?_)
        refine ⟨_, [], (RVs.cell rfl (RVs.tmp rfl RVs.nil)), List.nil_sublist _, ?_⟩
        rw [pkGet_bad hne hn6.2 ((pt_b (.inl ⟨hw1, rfl, rfl⟩) hc2).1 hc10) hc11]; exact ⟨none, 0, [], rfl, OwnOk.nil, rfl⟩
      try simp only [Bool.cond_true_left, Bool.cond_false_right, Bool.or_eq_true, Bool.or_eq_false_iff, Bool.and_eq_true, Bool.and_eq_false_iff, decide_eq_true_eq, decide_eq_false_iff_not, Bool.not_eq_true', Bool.not_eq_false'] at hc11
      refine CW.skip (Q.tn ?_)
      refine CW.seq ?_
      refine CW.region ?_
      refine W.p O.lds ?_
      refine W.st (vt rfl) (vt rfl) rfl ?_
      refine W.p O.as ?_
      refine WL.nil (Q.tn ?_)
      refine CW.ret ?_
      refine ⟨_, rowL o14 42 (flat encO (ovR (keep (getR (s.drop 240)).1) (slc s 108 236)).1 sp14), (RVs.cell rfl (RVs.tmp rfl RVs.nil)), (by repeat (first | exact List.Sublist.refl _ | exact hSub _ | exact List.sublist_append_left _ _ | exact List.nil_sublist _ | refine List.Sublist.append (List.Sublist.refl _) ?_ | apply List.Sublist.cons_cons | apply List.Sublist.cons | exact List.sublist_append_left _ _ | refine List.Sublist.trans ?_ (List.sublist_append_right _ _))), ?_⟩
      rw [pkGet_yes hne hn6.2 ((pt_b (.inl ⟨hw1, rfl, rfl⟩) hc2).1 hc10) hc11]; exact ⟨o14, c14, sp14, rfl, ok14, rfl⟩
    try simp only [Bool.cond_true_left, Bool.cond_false_right, Bool.or_eq_true, Bool.or_eq_false_iff, Bool.and_eq_true, Bool.and_eq_false_iff, decide_eq_true_eq, decide_eq_false_iff_not, Bool.not_eq_true', Bool.not_eq_false'] at hc6
    have hw2 : whS s = 2 := by rw [hwh]; exact hc6
    refine CW.skip (Q.tn ?_)
    refine CW.seq ?_
    refine CW.seq ?_
    refine CW.region ?_
    refine W.p O.mv ?_
    refine W.p O.mv ?_
    refine W.p O.mv ?_
    first | refine W.p O.idxS ?_ | refine W.p (O.idxS (h := fun hg => by simp only [cond_true, cond_false, Bool.true_and, Bool.cond_false_right, Bool.cond_true_left, Bool.and_eq_true, Bool.or_eq_true, Bool.or_eq_false_iff, Bool.and_eq_false_iff, Bool.not_eq_true', Bool.not_eq_false', decide_eq_true_eq, decide_eq_false_iff_not, Int.reduceToNat] at *; omega)) ?_
    refine W.p O.neI ?_
    refine W.p O.pkB ?_
    refine WL.nil (Q.tn ?_)
    refine CW.cond (vt rfl) (fun hc12 => ?_) (fun hc12 => ?_)
    · try simp only [Bool.cond_true_left, Bool.cond_false_right, Bool.or_eq_true, Bool.or_eq_false_iff, Bool.and_eq_true, Bool.and_eq_false_iff, decide_eq_true_eq, decide_eq_false_iff_not, Bool.not_eq_true', Bool.not_eq_false'] at hc12
      refine CW.region ?_
      refine W.p O.mv ?_
      refine W.p O.mv ?_
      refine W.p O.slc ?_
      refine W.callS (first := []) (cap := []) (rowL p1 42 (flat encO (keep (getR (s.drop 240)).1) r1)) rfl (vt rfl) (AV.cons (vt rfl) (AV.cons (vt rfl) (AV.nil))) (fun w hu hh => ref_over (keep (getR (s.drop 240)).1) p1 q1 r1 (slc s 44 108) w ok hh (slc_le5 _ (by decide) (by decide)) (by omega) (by omega)) ?_; rintro _ _ ⟨o14, c14, sp14, rfl, ok14, rfl⟩; have nk14 := ok14.nk
      refine W.p O.mv ?_
      first | refine W.p O.extL ?_ | refine W.p O.ext ?_
      first | refine W.p O.extL ?_ | refine W.p O.ext ?_
      refine W.p O.as ?_
      refine W.p O.as ?_
      refine WL.nil (Q.tn ?_)
      refine CW.seq ?_
      refine CW.region ?_
      refine W.p O.mv ?_
      refine W.p O.nt ?_
      refine WL.nil (Q.tn ?_)
      refine CW.cond (vt rfl) (fun hc13 => ?_) (fun hc13 => ?_)
      · try simp only [Bool.cond_true_left, Bool.cond_false_right, Bool.or_eq_true, Bool.or_eq_false_iff, Bool.and_eq_true, Bool.and_eq_false_iff, decide_eq_true_eq, decide_eq_false_iff_not, Bool.not_eq_true', Bool.not_eq_false'] at hc13
        refine CW.seq ?_
        refine CW.region ?_
        refine W.p (O.bd (hv := PV.nil)) ?_
        refine W.st (vt rfl) (vt rfl) rfl ?_
        refine W.p O.as ?_
        refine WL.nil (Q.tn ?_)
        refine CW.ret (Q.tr ?_)
        refine ⟨_, [], (RVs.cell rfl (RVs.tmp rfl RVs.nil)), List.nil_sublist _, ?_⟩
        rw [pkGet_no hne ((pt_b (.inr ⟨hw2, rfl, rfl⟩) hc2).2 hc13)]; exact ⟨none, 0, [], rfl, OwnOk.nil, rfl⟩
      try simp only [Bool.cond_true_left, Bool.cond_false_right, Bool.or_eq_true, Bool.or_eq_false_iff, Bool.and_eq_true, Bool.and_eq_false_iff, decide_eq_true_eq, decide_eq_false_iff_not, Bool.not_eq_true', Bool.not_eq_false'] at hc13
      refine CW.skip (Q.tn ?_)
      refine CW.seq ?_
      refine CW.region ?_
      refine W.p O.mv ?_
      first | refine W.p O.fb ?_ | refine W.p O.fa ?_
      first | refine W.st (vt rfl) (vt rfl) rfl ?_ | refine W.st (u := .slice _ _ _) (vt rfl) (vt rfl) rfl ?_
      refine WL.nil (Q.tn ?_)
      refine CW.seq ?_
      refine CW.seq ?_
      refine CW.region ?_
      refine W.p O.lds ?_
      refine W.q (O.call ⟨rfl, rfl⟩ (AV.cons (vt rfl) (AV.nil)) (fun _ w hw => ref_PacketMay ((fun os : List Opt => (⟨nmS s 0 1, nmS s 1 2, nmS s 3 4, nmS s 4 8, nmS s 8 10, nmS s 10 12, nmS s 12 16, nmS s 16 20, nmS s 20 24, nmS s 24 28, slc s 28 (28 + nmS s 2 3), os⟩ : Pkt)) (ovR (keep (getR (s.drop 240)).1) (slc s 44 108)).1) _ _ w (RowL.h _ hw) hv2)) ?_
      refine W.p O.nt ?_
      refine WL.nil (Q.tn ?_)
      refine CW.cond (vt rfl) (fun hc14 => ?_) (fun hc14 => ?_)
      · try simp only [Bool.cond_true_left, Bool.cond_false_right, Bool.or_eq_true, Bool.or_eq_false_iff, Bool.and_eq_true, Bool.and_eq_false_iff, decide_eq_true_eq, decide_eq_false_iff_not, Bool.not_eq_true', Bool.not_eq_false'] at hc14
        refine CW.seq ?_
        refine CW.region ?_
        refine W.p (O.bd (hv := PV.nil)) ?_
        refine W.st (vt rfl) (vt rfl) rfl ?_
        refine W.p O.as ?_
        refine WL.nil (Q.tn ?_)
        refine CW.ret (Q.tr ?_)
        refine ⟨_, [], (RVs.cell rfl (RVs.tmp rfl RVs.nil)), List.nil_sublist _, ?_⟩
        rw [pkGet_bad hne hn6.2 ((pt_b (.inr ⟨hw2, rfl, rfl⟩) hc2).1 hc13) hc14]; exact ⟨none, 0, [], rfl, OwnOk.nil, rfl⟩
      try simp only [Bool.cond_true_left, Bool.cond_false_right, Bool.or_eq_true, Bool.or_eq_false_iff, Bool.and_eq_true, Bool.and_eq_false_iff, decide_eq_true_eq, decide_eq_false_iff_not, Bool.not_eq_true', Bool.not_eq_false'] at hc14
      refine CW.skip (Q.tn ?_)
      refine CW.seq ?_
      refine CW.region ?_
      refine W.p O.lds ?_
      refine W.st (vt rfl) (vt rfl) rfl ?_
      refine W.p O.as ?_
      refine WL.nil (Q.tn ?_)
      refine CW.ret ?_
      refine ⟨_, rowL o14 42 (flat encO (ovR (keep (getR (s.drop 240)).1) (slc s 44 108)).1 sp14), (RVs.cell rfl (RVs.tmp rfl RVs.nil)), (by repeat (first | exact List.Sublist.refl _ | exact hSub _ | exact List.sublist_append_left _ _ | exact List.nil_sublist _ | refine List.Sublist.append (List.Sublist.refl _) ?_ | apply List.Sublist.cons_cons | apply List.Sublist.cons | exact List.sublist_append_left _ _ | refine List.Sublist.trans ?_ (List.sublist_append_right _ _))), ?_⟩
      rw [pkGet_yes hne hn6.2 ((pt_b (.inr ⟨hw2, rfl, rfl⟩) hc2).1 hc13) hc14]; exact ⟨o14, c14, sp14, rfl, ok14, rfl⟩
    exact absurd hc12 (by simp only [hc6]; decide)
  try simp only [Bool.cond_true_left, Bool.cond_false_right, Bool.or_eq_true, Bool.or_eq_false_iff, Bool.and_eq_true, Bool.and_eq_false_iff, decide_eq_true_eq, decide_eq_false_iff_not, Bool.not_eq_true', Bool.not_eq_false'] at hc3
  have hw0 : whS s = 0 := by
    rw [whS, whP]
    split
    · rename_i h; rcases hc3 with ((h1 | h1) | h1) | h1; (rw [h.1.1] at h1; cases h1); exact absurd h.1.2 h1; (have h1 : ¬ 1 ≤ (((fdF 52 (getR (s.drop 240)).1).1.getD 0 0).toNat : Int) := h1; show (((fdF 52 (getR (s.drop 240)).1).1.getD 0 0).toNat : Int) = 0; omega); exact absurd h.2 h1
    · rfl
  refine CW.skip (Q.tn ?_)
  refine CW.seq ?_
  refine CW.region ?_
  refine W.p O.mv ?_
  first | refine W.p O.fb ?_ | refine W.p O.fa ?_
  first | refine W.st (vt rfl) (vt rfl) rfl ?_ | refine W.st (u := .slice _ _ _) (vt rfl) (vt rfl) rfl ?_
  refine WL.nil (Q.tn ?_)
  refine CW.seq ?_
  refine CW.seq ?_
  refine CW.region ?_
  refine W.p O.lds ?_
  refine W.q (O.call ⟨rfl, rfl⟩ (AV.cons (vt rfl) (AV.nil)) (fun _ w hw => ref_PacketMay ((fun os : List Opt => (⟨nmS s 0 1, nmS s 1 2, nmS s 3 4, nmS s 4 8, nmS s 8 10, nmS s 10 12, nmS s 12 16, nmS s 16 20, nmS s 20 24, nmS s 24 28, slc s 28 (28 + nmS s 2 3), os⟩ : Pkt)) (getR (s.drop 240)).1) _ _ w (RowL.h _ hw) (by dsimp only; omega))) ?_
  refine W.p O.nt ?_
  refine WL.nil (Q.tn ?_)
  refine CW.cond (vt rfl) (fun hc15 => ?_) (fun hc15 => ?_)
  · try simp only [Bool.cond_true_left, Bool.cond_false_right, Bool.or_eq_true, Bool.or_eq_false_iff, Bool.and_eq_true, Bool.and_eq_false_iff, decide_eq_true_eq, decide_eq_false_iff_not, Bool.not_eq_true', Bool.not_eq_false'] at hc15
    refine CW.seq ?_
    refine CW.region ?_
    refine W.p (O.bd (hv := PV.nil)) ?_
    refine W.st (vt rfl) (vt rfl) rfl ?_
    refine W.p O.as ?_
    refine WL.nil (Q.tn ?_)
    refine CW.ret (Q.tr ?_)
    refine ⟨_, [], (RVs.cell rfl (RVs.tmp rfl RVs.nil)), List.nil_sublist _, ?_⟩
    rw [pkGet_bad hne hn6.2 (pt_1 hw0 hc2) hc15]; exact ⟨none, 0, [], rfl, OwnOk.nil, rfl⟩
  try simp only [Bool.cond_true_left, Bool.cond_false_right, Bool.or_eq_true, Bool.or_eq_false_iff, Bool.and_eq_true, Bool.and_eq_false_iff, decide_eq_true_eq, decide_eq_false_iff_not, Bool.not_eq_true', Bool.not_eq_false'] at hc15
  refine CW.skip (Q.tn ?_)
  refine CW.seq ?_
  refine CW.region ?_
  refine W.p O.lds ?_
  refine W.st (vt rfl) (vt rfl) rfl ?_
  refine W.p O.as ?_
  refine WL.nil (Q.tn ?_)
  refine CW.ret ?_
  refine ⟨_, rowL o11 42 (flat encO (getR (s.drop 240)).1 sp11), (RVs.cell rfl (RVs.tmp rfl RVs.nil)), (by repeat (first | exact List.Sublist.refl _ | exact hSub _ | exact List.sublist_append_left _ _ | exact List.nil_sublist _ | refine List.Sublist.append (List.Sublist.refl _) ?_ | apply List.Sublist.cons_cons | apply List.Sublist.cons | exact List.sublist_append_left _ _ | refine List.Sublist.trans ?_ (List.sublist_append_right _ _))), ?_⟩
  rw [pkGet_yes hne hn6.2 (pt_1 hw0 hc2) hc15]; exact ⟨o11, c11, sp11, rfl, ok11, rfl⟩
end Go.Proofs.Ytkjcmdgideddnaa
