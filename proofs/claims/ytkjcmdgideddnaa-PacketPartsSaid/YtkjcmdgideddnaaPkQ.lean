/- Packets, without the program: options of three parts. Conditions are the lemmas' own. -/
import Derived.Test.YtkjcmdgideddnaaPkP
set_option linter.unusedVariables false
set_option linter.unusedSimpArgs false
namespace Go.Proofs.Ytkjcmdgideddnaa
open Go Go.RowKit
def oneP (x : List UInt8) : List UInt8 := [12] ++ [byteOf x.length] ++ x ++ [255]
theorem oneP_len (x : List UInt8) : (oneP x).length = x.length + 3 := by simp [oneP]
theorem pieces_oneP {x : List UInt8} (hx : x.length ≤ 255) (rest : List UInt8) : pieces (oneP x ++ rest) = some [⟨12, x⟩] := by
  have hb := byteOf_toNat (x.length : Int)
  have e1 : (byteOf (x.length : Int)).toNat = x.length := by omega
  have : oneP x ++ rest = 12 :: byteOf x.length :: (x ++ (255 :: rest)) := by simp [oneP]
  rw [this, pieces_cons (by decide) (by decide), e1, if_pos (by simp), List.take_left, List.drop_left, pieces_end]; rfl
theorem may12 {x : List UInt8} (hx : x.length ≤ 512) : optsMay [⟨12, x⟩] = true := by simp [optsMay, optOk, nodupC, hx]
theorem getR_one {x : List UInt8} (hx : x.length ≤ 255) (rest : List UInt8) : getR (oneP x ++ rest) = ([⟨12, x⟩], 0) := by
  have hj : joinAll [] [(⟨12, x⟩ : Opt)] = [⟨12, x⟩] := rfl
  unfold getR getOpts
  rw [pieces_oneP hx]
  simp only [hj, may12 (show x.length ≤ 512 by omega), if_true]
theorem getR_two {x : List UInt8} (hx : x.length ≤ 255) {k : Int} (hk : 1 ≤ k ∧ k ≤ 3) : getR ([52, 1] ++ [byteOf k] ++ oneP x) = ([⟨52, [byteOf k]⟩, ⟨12, x⟩], 0) := by
  have hp := pieces_oneP hx []
  rw [List.append_nil] at hp
  have h1 : pieces ([52, 1] ++ [byteOf k] ++ oneP x) = some [⟨52, [byteOf k]⟩, ⟨12, x⟩] := by
    show pieces (52 :: 1 :: ([byteOf k] ++ oneP x)) = _
    rw [pieces_cons (by decide) (by decide), if_pos (by simp), show (1 : UInt8).toNat = [byteOf k].length from rfl, List.take_left, List.drop_left, hp]; rfl
  have hj : joinAll [] [(⟨52, [byteOf k]⟩ : Opt), ⟨12, x⟩] = [⟨52, [byteOf k]⟩, ⟨12, x⟩] := rfl
  have hm : optsMay [(⟨52, [byteOf k]⟩ : Opt), ⟨12, x⟩] = true := by simp [optsMay, optOk, nodupC]; omega
  unfold getR getOpts
  rw [h1]
  simp only [hj, hm, if_true]
theorem slc_pre (A F R : List UInt8) {i j : Int} (hi : i = A.length) (hj : i + F.length ≤ j) : ∃ R', slc (A ++ F ++ R) i j = F ++ R' := by
  refine ⟨R.take (j.toNat - (A ++ F).length), ?_⟩
  have e : j.toNat = (A ++ F).length + (j.toNat - (A ++ F).length) := by rw [List.length_append]; omega
  rw [slc, show i.toNat = A.length by omega]
  have : (A ++ F ++ R).take j.toNat = (A ++ F) ++ R.take (j.toNat - (A ++ F).length) := by
    conv => lhs; rw [e]
    rw [List.take_length_add_append]
  rw [this, List.append_assoc, List.drop_left]
def T1 : List UInt8 := (pkPut ⟨1, 0, 0, 0, 0, 0, 0, 0, 0, 0, [], []⟩).1
theorem T1_len : T1.length = 241 := by decide +kernel
theorem T1_ck : slc T1 236 240 = cookieB := by decide +kernel
theorem T1_2 : slc T1 2 3 = [0] := by decide +kernel
theorem T1_0 : slc T1 0 1 = [1] := by decide +kernel
def partsT (x y z : List UInt8) (k : Int) : List UInt8 := T1.take (44 : Int).toNat ++ oneP z ++ slc T1 (44 + ((oneP z).length : Int)) 108 ++ oneP y ++ slc T1 (108 + ((oneP y).length : Int)) 240 ++ [52, 1] ++ [byteOf k] ++ oneP x
theorem partsT_len {x y z : List UInt8} (hx : x.length ≤ 20) (hy : y.length ≤ 20) (hz : z.length ≤ 20) (k : Int) : (partsT x y z k).length ≤ 1000 := by
  have lx := oneP_len x
  have ly := oneP_len y
  have lz := oneP_len z
  have lt := T1_len
  simp only [partsT, List.length_append, slc, List.length_drop, List.length_take, List.length_cons, List.length_nil]; omega
def partsW (x y z : List UInt8) (k : Int) : List UInt8 := if k ≠ 1 then (if k ≠ 2 then x ++ y else x) ++ z else (if k ≠ 2 then x ++ y else x)
theorem band_k : bits .and .i64 1 1 = 1 ∧ bits .and .i64 1 2 = 0 ∧ bits .and .i64 2 1 = 0 ∧ bits .and .i64 2 2 = 2 ∧ bits .and .i64 3 1 = 1 ∧ bits .and .i64 3 2 = 2 := ⟨rfl, rfl, rfl, rfl, rfl, rfl⟩
theorem whP_k {k : Int} (hk : 1 ≤ k ∧ k ≤ 3) : whP ([byteOf k], true) = k := by
  have hb := byteOf_toNat k
  have e : ((byteOf k).toNat : Int) = k := by omega
  rw [whP, if_pos ⟨⟨rfl, rfl⟩, by show ((byteOf k).toNat : Int) ≤ 3; omega⟩]
  exact e
theorem parts_get {x y z : List UInt8} (hx : x.length ≤ 20) (hy : y.length ≤ 20) (hz : z.length ≤ 20) {k : Int} (hk : 1 ≤ k ∧ k ≤ 3) :
    (pkGet (partsT x y z k)).2 = 0 ∧ (pkGet (partsT x y z k)).1.opts = [⟨12, partsW x y z k⟩] ∧ (pkGet (partsT x y z k)).1.op = 1 := by
  have lx := oneP_len x
  have ly := oneP_len y
  have lz := oneP_len z
  have lt := T1_len
  have s1 : (slc T1 (44 + ((oneP z).length : Int)) 108).length = 64 - (oneP z).length := by rw [slc_len (by omega) (by omega) (by omega)]; omega
  have s2 : (slc T1 (108 + ((oneP y).length : Int)) 236).length = 128 - (oneP y).length := by rw [slc_len (by omega) (by omega) (by omega)]; omega
  have s3 : slc T1 (108 + ((oneP y).length : Int)) 240 = slc T1 (108 + ((oneP y).length : Int)) 236 ++ cookieB := by rw [← T1_ck]; exact slc_app (by omega) (by omega) (by omega) (by omega)
  have l44 : (T1.take (44 : Int).toNat).length = 44 := by rw [List.length_take]; omega
  have hc := ck_len
  generalize hs : partsT x y z k = s
  rw [partsT, s3] at hs
  have hdrop : s.drop 240 = [52, 1] ++ [byteOf k] ++ oneP x := by
    rw [← hs, show ∀ a b c d e f g h : List UInt8, a ++ b ++ c ++ d ++ e ++ f ++ g ++ h = (a ++ b ++ c ++ d ++ e) ++ (f ++ g ++ h) by intros; simp only [List.append_assoc]]
    exact List.drop_left' (by simp only [List.length_append]; omega)
  have hck : slc s 236 240 = cookieB := by
    rw [← hs, show ∀ a b c d e e' f g h : List UInt8, a ++ b ++ c ++ d ++ (e ++ e') ++ f ++ g ++ h = (a ++ b ++ c ++ d ++ e) ++ e' ++ (f ++ g ++ h) by intros; simp only [List.append_assoc]]
    exact slc_mid _ _ _ (by simp only [List.length_append]; omega) (by simp only [List.length_append]; omega)
  have hf : ∃ r, slc s 108 236 = oneP y ++ r := by
    rw [← hs, show ∀ a b c d e f g h : List UInt8, a ++ b ++ c ++ d ++ e ++ f ++ g ++ h = (a ++ b ++ c) ++ d ++ (e ++ f ++ g ++ h) by intros; simp only [List.append_assoc]]
    exact slc_pre _ _ _ (by simp only [List.length_append]; omega) (by omega)
  have hb : ∃ r, slc s 44 108 = oneP z ++ r := by
    rw [← hs, show ∀ a b c d e f g h : List UInt8, a ++ b ++ c ++ d ++ e ++ f ++ g ++ h = a ++ b ++ (c ++ d ++ e ++ f ++ g ++ h) by intros; simp only [List.append_assoc]]
    exact slc_pre _ _ _ (by omega) (by omega)
  have hhd : ∃ r, s = T1.take (44 : Int).toNat ++ r := ⟨_, by rw [← hs]; simp only [List.append_assoc]; rfl⟩
  have hlen : 240 ≤ s.length := by rw [← hs]; simp only [List.length_append]; omega
  clear hs
  obtain ⟨rf, hf⟩ := hf
  obtain ⟨rb, hb⟩ := hb
  obtain ⟨rh, hhd⟩ := hhd
  have g0 : getR (s.drop 240) = ([⟨52, [byteOf k]⟩, ⟨12, x⟩], 0) := by rw [hdrop]; exact getR_two (by omega) hk
  have g1 : getR (slc s 108 236) = ([⟨12, y⟩], 0) := by rw [hf]; exact getR_one (by omega) _
  have g2 : getR (slc s 44 108) = ([⟨12, z⟩], 0) := by rw [hb]; exact getR_one (by omega) _
  have n2 : slc s 2 3 = [0] := by
    rw [hhd, slcM _ (by omega)]; rw [← T1_2]; decide +kernel
  have n0 : slc s 0 1 = [1] := by
    rw [hhd, slcM _ (by omega)]; rw [← T1_0]; decide +kernel
  have hw : whS s = k := by rw [whS, g0]; exact whP_k hk
  have hst : stP s k 2 = ([⟨52, [byteOf k]⟩, ⟨12, partsW x y z k⟩], 0) := by
    show stepP s k (2, 44, 108) (stepP s k (1, 108, 236) (getR (s.drop 240))) = _
    obtain ⟨b1, b2, b3, b4, b5, b6⟩ := band_k
    rcases (by omega : k = 1 ∨ k = 2 ∨ k = 3) with rfl | rfl | rfl
    · simp only [stepP, b1, b2, g0, g1, g2]; rfl
    · simp only [stepP, b3, b4, g0, g1, g2]; rfl
    · simp only [stepP, b5, b6, g0, g1, g2]; rfl
  have hlw : (partsW x y z k).length ≤ 60 := by unfold partsW; split <;> split <;> (try simp only [List.length_append]) <;> omega
  have hall : allP s = [⟨12, partsW x y z k⟩] := by rw [allP, hw, if_neg (by omega), hst]; rfl
  have hpt : ptR s = ([⟨12, partsW x y z k⟩], true) := by rw [ptR, hall, hw, hst, may12 (by omega)]; rfl
  have m2 : nmS s 2 3 = 0 := by rw [nmS, n2]; rfl
  have m0 : nmS s 0 1 = 1 := by rw [nmS, n0]; rfl
  rw [pkGet, if_neg (by rintro (h | h); omega; exact h hck), if_neg (by rw [m2, hpt]; rintro (h | h); omega; cases h), pkOf, hpt, m0]
  exact ⟨rfl, rfl, rfl⟩
end Go.Proofs.Ytkjcmdgideddnaa
