/- Several texts in one (PDns). Their conditions are their own. -/
import Derived.Test.YtfmdaijkgjkmpaaGreatDoorLaw0
import Derived.Test.YtfmdaijkgjkmpaaGreatDoorPRL
set_option linter.unusedVariables false
set_option linter.unusedSimpArgs false
namespace Go.Proofs.YtfmdaijkgjkmpaaGreatDoor
open Go Go.RowKit
structure Dn where
  id : Int
  resp : Bool
  op : Int
  auth : Bool
  trunc : Bool
  recu : Bool
  code : Int
  qs : List Qn'
  an : List RR
  se : List RR
  ad : List RR
  size : Int
deriving DecidableEq
def noD : Dn := ⟨0, false, 0, false, false, false, 0, [], [], [], [], 0⟩
def inR (x f t : Int) : Bool := decide (f ≤ x) && decide (x ≤ t)
def qMay (q : Qn') : Bool := nmMay q.name && inR q.type 0 65535
def rsMay (rs : List RR) : Bool := decide (rs.length ≤ 32) && rs.all rrMay
def dnMay (m : Dn) : Bool := rsMay m.an && rsMay m.se && rsMay m.ad && inR m.id 0 65535 && inR m.op 0 15 && inR m.code 0 15 && decide (m.qs.length ≤ 4) && m.qs.all qMay && (decide (m.size = 0) || inR m.size 512 65535)
def flg (b : Bool) (x : Int) : Int := bif b then x else 0
def dBits (m : Dn) : Int := flg m.resp 32768 + m.op * 2048 + flg m.auth 1024 + flg m.trunc 512 + flg m.recu 256 + m.code
def qPut (st : List UInt8 × List Kn) (q : Qn') : List UInt8 × List Kn := (st.1 ++ ((nmPut st.1.length st.2 q.name).1 ++ beb q.type 2 ++ beb 1 2), (nmPut st.1.length st.2 q.name).2.1)
def rPut (st : List UInt8 × List Kn) (r : RR) : List UInt8 × List Kn := (st.1 ++ (rrPut st.1.length st.2 r).1, (rrPut st.1.length st.2 r).2.1)
def dHd (m : Dn) : List UInt8 := beb m.id 2 ++ beb (dBits m) 2 ++ beb m.qs.length 2 ++ beb m.an.length 2 ++ beb m.se.length 2 ++ beb (m.ad.length + flg (!decide (m.size = 0)) 1) 2
def dOpt (m : Dn) : List UInt8 := if m.size = 0 then [] else [0] ++ beb 41 2 ++ beb m.size 2 ++ beb 0 4 ++ beb 0 2
def dAll (m : Dn) : List RR := m.an ++ m.se ++ m.ad
def dQs (m : Dn) : List UInt8 × List Kn := m.qs.foldl qPut (dHd m, [])
def dRs (m : Dn) : List UInt8 × List Kn := (dAll m).foldl rPut (dQs m)
def dWrite (m : Dn) : List UInt8 := (dRs m).1 ++ dOpt m
def cutD (m : Dn) : Dn := ⟨m.id, m.resp, m.op, m.auth, true, m.recu, m.code, m.qs, [], [], [], m.size⟩
def dnPut (m : Dn) (most : Int) : List UInt8 × Int :=
  if dnMay m = false ∨ inR most 12 65535 = false then ([], 500)
  else if (dWrite m).length ≤ most then (dWrite m, 0)
  else if (dWrite (cutD m)).length ≤ most then (dWrite (cutD m), 0) else ([], 501)
/-! what is read -/
def numS (s : List UInt8) (i j : Int) : Int := numI (slc s i j)
def qG (s : List UInt8) (p : Int) : Option (Qn' × Int) := match getName s p with
  | .err _ => none
  | .ok nm to => if to + 4 ≤ s.length ∧ numS s (to + 2) (to + 4) = 1 then some (⟨nm, numS s to (to + 2)⟩, to + 4) else none
def optG (s : List UInt8) (p : Int) : Option (Int × Int) := match getName s p with
  | .err _ => none
  | .ok nm to => if nm = [] ∧ to + 10 ≤ s.length ∧ numS s to (to + 2) = 41 ∧ to + 10 + numS s (to + 8) (to + 10) ≤ s.length then some (max (numS s (to + 2) (to + 4)) 512, to + 10 + numS s (to + 8) (to + 10)) else none
def manyG {α : Type} (g : Int → Option (α × Int)) : Nat → Int → Option (List α × Int)
  | 0, p => some ([], p)
  | n + 1, p => (g p).bind fun x => (manyG g n x.2).map fun y => (x.1 :: y.1, y.2)
def adG (s : List UInt8) : Nat → Int → Int → Option (List RR × Int × Int)
  | 0, p, z => some ([], z, p)
  | n + 1, p, z => match optG s p with
    | some x => if z = 0 then adG s n x.2 x.1 else none
    | none => (gR s p).bind fun x => (adG s n x.2 z).map fun y => (x.1 :: y.1, y.2)
abbrev hdD (x id : Int) (qs : List Qn') (an se ad : List RR) (size : Int) : Dn :=
  ⟨id, !decide (bits .and .i64 x 32768 = 0), x / 2048 % 16, !decide (bits .and .i64 x 1024 = 0), !decide (bits .and .i64 x 512 = 0), !decide (bits .and .i64 x 256 = 0), x % 16, qs, an, se, ad, size⟩
def n2 (s : List UInt8) (i : Int) : Int := numS s i (i + 2)
def dG (s : List UInt8) : Option (Dn × Int) :=
  if 12 ≤ s.length ∧ bits .and .i64 (n2 s 2) 240 = 0 ∧ n2 s 4 ≤ 4 ∧ n2 s 6 ≤ 32 ∧ n2 s 8 ≤ 32 ∧ n2 s 10 ≤ 33 then
    (manyG (qG s) (n2 s 4).toNat 12).bind fun q => (manyG (gR s) (n2 s 6).toNat q.2).bind fun x => (manyG (gR s) (n2 s 8).toNat x.2).bind fun y => (adG s (n2 s 10).toNat y.2 0).map fun w =>
      (hdD (n2 s 2) (n2 s 0) q.1 x.1 y.1 w.1 w.2.1, w.2.2)
  else none
def dnGet (s : List UInt8) : Dn × Int := match dG s with
  | none => (noD, 500)
  | some x => if x.2 = s.length ∧ dnMay x.1 = true then (x.1, 0) else (noD, 500)
/-! what is written comes back -/
theorem bit_back : ∀ (r a t c : Bool) (o d : Fin 16), let x := flg r 32768 + ((o.val : Nat) : Int) * 2048 + flg a 1024 + flg t 512 + flg c 256 + ((d.val : Nat) : Int)
    (!decide (bits .and .i64 x 32768 = 0)) = r ∧ x / 2048 % 16 = ((o.val : Nat) : Int) ∧ (!decide (bits .and .i64 x 1024 = 0)) = a ∧ (!decide (bits .and .i64 x 512 = 0)) = t ∧ (!decide (bits .and .i64 x 256 = 0)) = c ∧ x % 16 = ((d.val : Nat) : Int) ∧ bits .and .i64 x 240 = 0 ∧ 0 ≤ x ∧ x < 65536 := by decide +kernel
theorem inR_iff {x f t : Int} : inR x f t = true ↔ f ≤ x ∧ x ≤ t := by simp [inR]
theorem may_d {m : Dn} (h : dnMay m = true) : (m.an.length ≤ 32 ∧ ∀ r ∈ m.an, rrMay r = true) ∧ (m.se.length ≤ 32 ∧ ∀ r ∈ m.se, rrMay r = true) ∧ (m.ad.length ≤ 32 ∧ ∀ r ∈ m.ad, rrMay r = true) ∧ (0 ≤ m.id ∧ m.id ≤ 65535) ∧ (0 ≤ m.op ∧ m.op ≤ 15) ∧ (0 ≤ m.code ∧ m.code ≤ 15) ∧ (m.qs.length ≤ 4 ∧ ∀ q ∈ m.qs, nmMay q.name = true ∧ 0 ≤ q.type ∧ q.type ≤ 65535) ∧ (m.size = 0 ∨ (512 ≤ m.size ∧ m.size ≤ 65535)) := by
  simp only [dnMay, rsMay, qMay, inR, Bool.and_eq_true, Bool.or_eq_true, decide_eq_true_eq, List.all_eq_true] at h
  obtain ⟨⟨⟨⟨⟨⟨⟨⟨a, b⟩, c⟩, d⟩, e⟩, f⟩, g⟩, i⟩, j⟩ := h
  exact ⟨a, b, c, d, e, f, ⟨g, i⟩, j⟩
theorem bits_d {m : Dn} (h : dnMay m = true) (id size : Int) (qs : List Qn') (an se ad : List RR) : hdD (dBits m) id qs an se ad size = ⟨id, m.resp, m.op, m.auth, m.trunc, m.recu, m.code, qs, an, se, ad, size⟩ ∧ bits .and .i64 (dBits m) 240 = 0 ∧ 0 ≤ dBits m ∧ dBits m < 65536 := by
  obtain ⟨_, _, _, _, ho, hc, _, _⟩ := may_d h
  have := bit_back m.resp m.auth m.trunc m.recu ⟨m.op.toNat, by omega⟩ ⟨m.code.toNat, by omega⟩
  dsimp only at this
  rw [Int.toNat_of_nonneg ho.1, Int.toNat_of_nonneg hc.1] at this
  obtain ⟨a, b, c, d, e, f, g, i, j⟩ := this
  refine ⟨?_, g, i, j⟩
  unfold hdD dBits
  rw [a, b, c, d, e, f]
theorem numS_at (a b c : List UInt8) {i j : Int} {x : Int} {n : Nat} (hb : b = beb x n) (h0 : 0 ≤ x) (h1 : x < 256 ^ n) (hi : i = a.length) (hj : j = (a.length : Int) + n) : numS (a ++ b ++ c) i j = x := by
  subst hb
  rw [numS, slc_mid a (beb x n) c hi (by rw [beb_len]; exact hj), numI_beb n x h0 h1]
theorem hd_len (m : Dn) : (dHd m).length = 12 := by simp [dHd, beb_len]
/-- the numbers of a message's head -/
theorem hd_nums {m : Dn} (h : dnMay m = true) (z : List UInt8) : n2 (dHd m ++ z) 0 = m.id ∧ n2 (dHd m ++ z) 2 = dBits m ∧ n2 (dHd m ++ z) 4 = m.qs.length ∧ n2 (dHd m ++ z) 6 = m.an.length ∧ n2 (dHd m ++ z) 8 = m.se.length ∧ n2 (dHd m ++ z) 10 = m.ad.length + flg (!decide (m.size = 0)) 1 := by
  have hb := (bits_d h 0 0 [] [] [] []).2.2
  obtain ⟨a, b, c, d, _, _, e, _⟩ := may_d h
  have hp : (256 : Int) ^ 2 = 65536 := by decide
  have hf : 0 ≤ flg (!decide (m.size = 0)) 1 ∧ flg (!decide (m.size = 0)) 1 ≤ 1 := by cases decide (m.size = 0) <;> decide
  have key : ∀ (a b c : List UInt8) (x : Int) (i : Int), b = beb x 2 → 0 ≤ x → x < 65536 → i = a.length → dHd m ++ z = a ++ b ++ c → n2 (dHd m ++ z) i = x := fun a b c x i hb h0 h1 hi e => by
    rw [n2, e]; exact numS_at a b c hb h0 (by rw [hp]; exact h1) hi (by rw [hi]; rfl)
  refine ⟨?_, ?_, ?_, ?_, ?_, ?_⟩
  · exact key [] (beb m.id 2) _ _ _ rfl (by omega) (by omega) rfl (by rw [dHd]; simp only [List.append_assoc, List.nil_append]; rfl)
  · exact key (beb m.id 2) (beb (dBits m) 2) _ _ _ rfl (by omega) (by omega) (by simp [beb_len]) (by rw [dHd]; simp only [List.append_assoc]; rfl)
  · exact key (beb m.id 2 ++ beb (dBits m) 2) (beb m.qs.length 2) _ _ _ rfl (by omega) (by omega) (by simp [beb_len]) (by rw [dHd]; simp only [List.append_assoc]; rfl)
  · exact key (beb m.id 2 ++ beb (dBits m) 2 ++ beb m.qs.length 2) (beb m.an.length 2) _ _ _ rfl (by omega) (by omega) (by simp [beb_len]) (by rw [dHd]; simp only [List.append_assoc]; rfl)
  · exact key (beb m.id 2 ++ beb (dBits m) 2 ++ beb m.qs.length 2 ++ beb m.an.length 2) (beb m.se.length 2) _ _ _ rfl (by omega) (by omega) (by simp [beb_len]) (by rw [dHd]; simp only [List.append_assoc]; rfl)
  · exact key (beb m.id 2 ++ beb (dBits m) 2 ++ beb m.qs.length 2 ++ beb m.an.length 2 ++ beb m.se.length 2) (beb (m.ad.length + flg (!decide (m.size = 0)) 1) 2) _ _ _ rfl (by omega) (by omega) (by simp [beb_len]) (by rw [dHd])
theorem q_back {st : List UInt8 × List Kn} {q : Qn'} (hg : Good st.1 st.2) (hl : st.1.length ≤ 60000) (hm : nmMay q.name = true ∧ 0 ≤ q.type ∧ q.type ≤ 65535) :
    ∃ t, (qPut st q).1 = st.1 ++ t ∧ t.length ≤ 78 ∧ Good (qPut st q).1 (qPut st q).2 ∧ ∀ z, qG ((qPut st q).1 ++ z) st.1.length = some (q, ((qPut st q).1.length : Int)) := by
  obtain ⟨⟨t, k2⟩, hx⟩ := putName_some hg.all (show 0 ≤ (st.1.length : Int) by omega) (by omega) hm.1
  obtain ⟨b1, b2, _, b4⟩ := put_back rfl hg hx
  obtain ⟨_, rfl, rfl⟩ := putName_zero hx
  refine ⟨_, rfl, by simp only [List.length_append, beb_len]; omega, ?_, fun z => ?_⟩
  · have := b2.more (beb q.type 2 ++ beb 1 2)
    simpa only [qPut, List.append_assoc] using this
  · have hn := b1 (beb q.type 2 ++ beb 1 2 ++ z)
    have e : (qPut st q).1 ++ z = st.1 ++ (nmPut st.1.length st.2 q.name).1 ++ (beb q.type 2 ++ beb 1 2 ++ z) := by simp only [qPut, List.append_assoc]
    have hp : (256 : Int) ^ 2 = 65536 := by decide
    have e1 : numS ((qPut st q).1 ++ z) ((st.1.length : Int) + (nmPut st.1.length st.2 q.name).1.length) ((st.1.length : Int) + (nmPut st.1.length st.2 q.name).1.length + 2) = q.type := by
      rw [e, show st.1 ++ (nmPut st.1.length st.2 q.name).1 ++ (beb q.type 2 ++ beb 1 2 ++ z) = (st.1 ++ (nmPut st.1.length st.2 q.name).1) ++ beb q.type 2 ++ (beb 1 2 ++ z) by simp only [List.append_assoc]]
      exact numS_at _ _ _ rfl (by omega) (by omega) (by simp only [List.length_append]; omega) (by simp only [List.length_append]; omega)
    have e2 : numS ((qPut st q).1 ++ z) ((st.1.length : Int) + (nmPut st.1.length st.2 q.name).1.length + 2) ((st.1.length : Int) + (nmPut st.1.length st.2 q.name).1.length + 4) = 1 := by
      rw [e, show st.1 ++ (nmPut st.1.length st.2 q.name).1 ++ (beb q.type 2 ++ beb 1 2 ++ z) = (st.1 ++ (nmPut st.1.length st.2 q.name).1 ++ beb q.type 2) ++ beb 1 2 ++ z by simp only [List.append_assoc]]
      exact numS_at _ _ _ rfl (by omega) (by omega) (by simp only [List.length_append, beb_len]; omega) (by simp only [List.length_append, beb_len]; omega)
    have hlen : ((qPut st q).1.length : Int) = (st.1.length : Int) + (nmPut st.1.length st.2 q.name).1.length + 4 := by simp only [qPut, List.length_append, beb_len]; omega
    rw [← e] at hn
    unfold qG
    rw [hn]
    dsimp only
    rw [if_pos ⟨by rw [List.length_append]; omega, e2⟩, e1, hlen]
theorem qs_back : ∀ (qs : List Qn') (st : List UInt8 × List Kn), Good st.1 st.2 → st.1.length + 78 * qs.length ≤ 60000 → (∀ q ∈ qs, nmMay q.name = true ∧ 0 ≤ q.type ∧ q.type ≤ 65535) →
    ∃ t, (qs.foldl qPut st).1 = st.1 ++ t ∧ t.length ≤ 78 * qs.length ∧ Good (qs.foldl qPut st).1 (qs.foldl qPut st).2 ∧ ∀ z, manyG (qG ((qs.foldl qPut st).1 ++ z)) qs.length st.1.length = some (qs, ((qs.foldl qPut st).1.length : Int))
  | [], st, hg, _, _ => ⟨[], by simp, by simp, hg, fun z => rfl⟩
  | q :: qs, st, hg, hl, hm => by
    simp only [List.length_cons] at hl
    obtain ⟨t, e1, l1, g1, k1⟩ := q_back hg (by omega) (hm q (by simp))
    obtain ⟨u, e2, l2, g2, k2⟩ := qs_back qs (qPut st q) g1 (by rw [e1, List.length_append]; omega) (fun x hx => hm x (by simp [hx]))
    refine ⟨t ++ u, by rw [List.foldl_cons, e2, e1, List.append_assoc], by simp only [List.length_append, List.length_cons]; omega, g2, fun z => ?_⟩
    rw [List.foldl_cons, List.length_cons, manyG]
    have k3 := k1 (u ++ z)
    rw [← List.append_assoc, ← e2] at k3
    rw [k3, Option.bind_some]
    rw [show ((((qPut st q).1.length : Nat) : Int)) = ((qPut st q).1.length : Int) from rfl, k2 z]; rfl
theorem data_len {p : Int} {ks : List Kn} {r : RR} {d : List UInt8} {k2 : List Kn} (hm : rrMay r = true) (h : dataPut p ks r = some (d, k2)) : d.length ≤ 168 := by
  have hn : ∀ {p : Int} {ks k2 : List Kn} {nm t : List UInt8}, putName p ks nm = some (t, k2) → t.length ≤ 74 := fun {p ks k2 nm t} h => by
    obtain ⟨_, rfl, _⟩ := putName_zero h
    exact (nmPut_more _ _ _).1
  have ht := may_text hm
  have hst : soaTail.length = 16 := rfl
  unfold dataPut at h
  split at h
  · simp only [Option.some.injEq, Prod.mk.injEq] at h; rw [← h.1, beb_len]; omega
  split at h
  · cases hy : putName p ks r.target with
    | none => rw [hy] at h; cases h
    | some y =>
      rw [hy, Option.bind_some] at h
      cases hz : putName (p + y.1.length) y.2 r.target with
      | none => rw [hz] at h; cases h
      | some z =>
        rw [hz] at h
        simp only [Option.map_some, Option.some.injEq, Prod.mk.injEq] at h
        have h1 := hn (t := y.1) (k2 := y.2) hy
        have h2 := hn (t := z.1) (k2 := z.2) hz
        rw [← h.1]; simp only [List.length_append, beb_len]; omega
  split at h
  · simp only [Option.some.injEq, Prod.mk.injEq] at h; rw [← h.1, List.length_cons]; omega
  split at h
  · simp only [Option.some.injEq, Prod.mk.injEq] at h; rw [← h.1]; omega
  · have := hn h; omega
theorem rr_len {p : Int} {ks : List Kn} {r : RR} {t : List UInt8} {k2 : List Kn} (h : putRr p ks r = some (t, k2)) : t.length ≤ 252 := by
  obtain ⟨hm, x1, x2, d, hx, hd, rfl⟩ := put_more' h
  obtain ⟨_, rfl, _⟩ := putName_zero hx
  have h1 := (nmPut_more p ks r.name).1
  have h2 := data_len hm hd
  simp only [List.length_append, beb_len]; omega
theorem r_back {st : List UInt8 × List Kn} {r : RR} (hg : Good st.1 st.2) (hl : st.1.length ≤ 60000) (hm : rrMay r = true) :
    ∃ t, (rPut st r).1 = st.1 ++ t ∧ t.length ≤ 252 ∧ Good (rPut st r).1 (rPut st r).2 ∧ ∀ z, gR ((rPut st r).1 ++ z) st.1.length = some (r, ((rPut st r).1.length : Int)) := by
  obtain ⟨⟨t, k2⟩, hx⟩ := rr_puts hg hl hm
  have hp : rrPut st.1.length st.2 r = (t, k2, 0) := by rw [rrPut, hx]
  obtain ⟨b1, b2, _, _⟩ := rr_back hg hx
  have e : rPut st r = (st.1 ++ t, k2) := by rw [rPut, hp]
  rw [e]
  exact ⟨t, rfl, rr_len hx, b2, fun z => by rw [b1 z]; simp⟩
theorem rs_back : ∀ (rs : List RR) (st : List UInt8 × List Kn), Good st.1 st.2 → st.1.length + 252 * rs.length ≤ 60000 → (∀ r ∈ rs, rrMay r = true) →
    ∃ t, (rs.foldl rPut st).1 = st.1 ++ t ∧ t.length ≤ 252 * rs.length ∧ Good (rs.foldl rPut st).1 (rs.foldl rPut st).2 ∧ ∀ z, manyG (gR ((rs.foldl rPut st).1 ++ z)) rs.length st.1.length = some (rs, ((rs.foldl rPut st).1.length : Int))
  | [], st, hg, _, _ => ⟨[], by simp, by simp, hg, fun z => rfl⟩
  | r :: rs, st, hg, hl, hm => by
    simp only [List.length_cons] at hl
    obtain ⟨t, e1, l1, g1, k1⟩ := r_back hg (by omega) (hm r (by simp))
    obtain ⟨u, e2, l2, g2, k2⟩ := rs_back rs (rPut st r) g1 (by rw [e1, List.length_append]; omega) (fun x hx => hm x (by simp [hx]))
    refine ⟨t ++ u, by rw [List.foldl_cons, e2, e1, List.append_assoc], by simp only [List.length_append, List.length_cons]; omega, g2, fun z => ?_⟩
    rw [List.foldl_cons, List.length_cons, manyG]
    have k3 := k1 (u ++ z)
    rw [← List.append_assoc, ← e2] at k3
    rw [k3, Option.bind_some, k2 z]; rfl
/-- where a record is there is no OPT -/
theorem gR_opt {s : List UInt8} {p : Int} {x : RR × Int} (h : gR s p = some x) : optG s p = none := by
  obtain ⟨r, to⟩ := x
  have hg := rrGet_some h
  cases ho : optG s p with
  | none => rfl
  | some y =>
    exfalso
    unfold optG at ho
    cases hn : getName s p with
    | err e => rw [hn] at ho; cases ho
    | ok nm t0 =>
      rw [hn] at ho
      dsimp only at ho
      split at ho
      · rename_i hc
        have hgt : grT (getName s p) = t0 := by rw [hn]; rfl
        have := rrGet_other (s := s) (p := p) hgt rfl (by have := hc.2.2.1; rw [numS] at this; omega)
        rw [this] at hg
        cases hg
      · cases ho
theorem ad_many {s : List UInt8} : ∀ (n k : Nat) {p p' z : Int} {l : List RR}, manyG (gR s) n p = some (l, p') → adG s (n + k) p z = (adG s k p' z).map fun y => (l ++ y.1, y.2)
  | 0, k, p, p', z, l, h => by
    simp only [manyG, Option.some.injEq, Prod.mk.injEq] at h
    obtain ⟨rfl, rfl⟩ := h
    rw [Nat.zero_add]; cases adG s k p z <;> simp
  | n + 1, k, p, p', z, l, h => by
    rw [manyG] at h
    cases hg : gR s p with
    | none => rw [hg] at h; cases h
    | some x =>
      rw [hg, Option.bind_some] at h
      cases hm : manyG (gR s) n x.2 with
      | none => rw [hm] at h; cases h
      | some y =>
        rw [hm] at h
        simp only [Option.map_some, Option.some.injEq, Prod.mk.injEq] at h
        obtain ⟨rfl, rfl⟩ := h
        rw [show n + 1 + k = (n + k) + 1 by omega, adG, gR_opt hg]
        dsimp only
        rw [hg, Option.bind_some, ad_many n k hm]
        cases adG s k y.2 z <;> simp
theorem dn_len {m : Dn} (h : dnMay m = true) : (dRs m).1.length ≤ 24600 ∧ (dQs m).1.length ≤ 324 ∧ (dWrite m).length ≤ 24700 ∧ Good (dQs m).1 (dQs m).2 ∧ Good (dRs m).1 (dRs m).2 := by
  obtain ⟨a, b, c, _, _, _, e, _⟩ := may_d h
  have hh := hd_len m
  obtain ⟨t, e1, l1, g1, _⟩ := qs_back m.qs (dHd m, []) (Good.nil _) (by dsimp only; omega) e.2
  have el : (dAll m).length = m.an.length + m.se.length + m.ad.length := by simp [dAll]; omega
  have em : ∀ r ∈ dAll m, rrMay r = true := fun r hr => by
    simp only [dAll, List.mem_append] at hr
    rcases hr with (hr | hr) | hr
    · exact a.2 r hr
    · exact b.2 r hr
    · exact c.2 r hr
  have q1 : (dQs m).1.length ≤ 324 := by rw [dQs, e1, List.length_append]; dsimp only; omega
  obtain ⟨u, e2, l2, g2, _⟩ := rs_back (dAll m) (dQs m) g1 (by omega) em
  have r1 : (dRs m).1.length ≤ 24600 := by rw [dRs, e2, List.length_append]; omega
  have o1 : (dOpt m).length ≤ 11 := by unfold dOpt; split <;> simp [beb_len]
  exact ⟨r1, q1, by rw [dWrite, List.length_append]; omega, g1, g2⟩
theorem opt_back {s : List UInt8} {m : Dn} (hs : s.length ≤ 60000) (h : 512 ≤ m.size ∧ m.size ≤ 65535) : optG (s ++ dOpt m) s.length = some (m.size, ((s ++ dOpt m).length : Int)) := by
  have hp : (256 : Int) ^ 2 = 65536 := by decide
  have e : dOpt m = [0] ++ beb 41 2 ++ beb m.size 2 ++ beb 0 4 ++ beb 0 2 := by rw [dOpt, if_neg (by omega)]
  have hl : (dOpt m).length = 11 := by rw [e]; simp [beb_len]
  have hx : putName s.length [] [] = some ([0], []) := by
    unfold putName
    rw [if_pos (by rw [decide_eq_true (show 0 ≤ (s.length : Int) by omega), decide_eq_true (show (s.length : Int) ≤ 65535 by omega)]; rfl)]; rfl
  obtain ⟨b1, _, _, _⟩ := put_back (s := s) rfl (Good.nil _) hx
  have hn : getName (s ++ dOpt m) s.length = .ok [] ((s.length : Int) + 1) := by
    have := b1 (beb 41 2 ++ beb m.size 2 ++ beb 0 4 ++ beb 0 2)
    rw [e]; simp only [List.append_assoc] at this ⊢; exact this
  have e1 : numS (s ++ dOpt m) ((s.length : Int) + 1) ((s.length : Int) + 1 + 2) = 41 := by
    rw [e, show s ++ ([0] ++ beb 41 2 ++ beb m.size 2 ++ beb 0 4 ++ beb 0 2) = (s ++ [0]) ++ beb 41 2 ++ (beb m.size 2 ++ beb 0 4 ++ beb 0 2) by simp only [List.append_assoc]]
    exact numS_at _ _ _ rfl (by omega) (by omega) (by simp) (by simp)
  have e2 : numS (s ++ dOpt m) ((s.length : Int) + 1 + 2) ((s.length : Int) + 1 + 4) = m.size := by
    rw [e, show s ++ ([0] ++ beb 41 2 ++ beb m.size 2 ++ beb 0 4 ++ beb 0 2) = (s ++ [0] ++ beb 41 2) ++ beb m.size 2 ++ (beb 0 4 ++ beb 0 2) by simp only [List.append_assoc]]
    exact numS_at _ _ _ rfl (by omega) (by omega) (by simp only [List.length_append, beb_len, List.length_cons, List.length_nil]; omega) (by simp only [List.length_append, beb_len, List.length_cons, List.length_nil]; omega)
  have e3 : numS (s ++ dOpt m) ((s.length : Int) + 1 + 8) ((s.length : Int) + 1 + 10) = 0 := by
    rw [e, show s ++ ([0] ++ beb 41 2 ++ beb m.size 2 ++ beb 0 4 ++ beb 0 2) = (s ++ [0] ++ beb 41 2 ++ beb m.size 2 ++ beb 0 4) ++ beb 0 2 ++ [] by simp only [List.append_assoc, List.append_nil]]
    exact numS_at _ _ _ rfl (by omega) (by omega) (by simp only [List.length_append, beb_len, List.length_cons, List.length_nil]; omega) (by simp only [List.length_append, beb_len, List.length_cons, List.length_nil]; omega)
  unfold optG
  rw [hn]
  dsimp only
  rw [e1, e2, e3, if_pos ⟨rfl, by rw [List.length_append]; omega, rfl, by rw [List.length_append]; omega⟩, List.length_append]
  rw [show max m.size 512 = m.size by omega, show (s.length : Int) + 1 + 10 + 0 = ((s.length + (dOpt m).length : Nat) : Int) by omega]
theorem dn_back {m : Dn} (h : dnMay m = true) : dG (dWrite m) = some (m, ((dWrite m).length : Int)) := by
  obtain ⟨a, b, c, _, _, _, e, hz⟩ := may_d h
  have hh := hd_len m
  obtain ⟨tq, e1, l1, g1, k1⟩ := qs_back m.qs (dHd m, []) (Good.nil _) (by dsimp only; omega) e.2
  have q1 : (dQs m).1.length ≤ 324 := by rw [dQs, e1, List.length_append]; dsimp only; omega
  obtain ⟨ta, e2, l2, g2, k2⟩ := rs_back m.an (dQs m) g1 (by omega) a.2
  have q2 : (m.an.foldl rPut (dQs m)).1.length ≤ 324 + 252 * 32 := by rw [e2, List.length_append]; omega
  obtain ⟨tb, e3, l3, g3, k3⟩ := rs_back m.se (m.an.foldl rPut (dQs m)) g2 (by omega) b.2
  have q3 : (m.se.foldl rPut (m.an.foldl rPut (dQs m))).1.length ≤ 324 + 252 * 64 := by rw [e3, List.length_append]; omega
  obtain ⟨tc, e4, l4, g4, k4⟩ := rs_back m.ad (m.se.foldl rPut (m.an.foldl rPut (dQs m))) g3 (by omega) c.2
  have q4 : (m.ad.foldl rPut (m.se.foldl rPut (m.an.foldl rPut (dQs m)))).1.length ≤ 324 + 252 * 96 := by rw [e4, List.length_append]; omega
  have hC : dRs m = m.ad.foldl rPut (m.se.foldl rPut (m.an.foldl rPut (dQs m))) := by rw [dRs, dAll, List.foldl_append, List.foldl_append]
  have w4 : dWrite m = (m.ad.foldl rPut (m.se.foldl rPut (m.an.foldl rPut (dQs m)))).1 ++ dOpt m := by rw [dWrite, hC]
  have w3 : dWrite m = (m.se.foldl rPut (m.an.foldl rPut (dQs m))).1 ++ (tc ++ dOpt m) := by rw [w4, e4, List.append_assoc]
  have w2 : dWrite m = (m.an.foldl rPut (dQs m)).1 ++ (tb ++ (tc ++ dOpt m)) := by rw [w3, e3, List.append_assoc]
  have w1 : dWrite m = (dQs m).1 ++ (ta ++ (tb ++ (tc ++ dOpt m))) := by rw [w2, e2, List.append_assoc]
  have w0 : dWrite m = dHd m ++ (tq ++ (ta ++ (tb ++ (tc ++ dOpt m)))) := by rw [w1, dQs, e1, List.append_assoc]
  have hl : (dWrite m).length = 12 + (tq ++ (ta ++ (tb ++ (tc ++ dOpt m)))).length := by rw [w0, List.length_append, hh]
  obtain ⟨n0, nb, nq, na, ns, nd⟩ := hd_nums h (tq ++ (ta ++ (tb ++ (tc ++ dOpt m))))
  rw [← w0] at n0 nb nq na ns nd
  have f1 : manyG (qG (dWrite m)) m.qs.length 12 = some (m.qs, ((dQs m).1.length : Int)) := by
    have := k1 (ta ++ (tb ++ (tc ++ dOpt m)))
    rw [← dQs, ← w1] at this
    rw [← this, hh]; rfl
  have f2 : manyG (gR (dWrite m)) m.an.length ((dQs m).1.length : Int) = some (m.an, ((m.an.foldl rPut (dQs m)).1.length : Int)) := by
    have := k2 (tb ++ (tc ++ dOpt m)); rwa [← w2] at this
  have f3 : manyG (gR (dWrite m)) m.se.length ((m.an.foldl rPut (dQs m)).1.length : Int) = some (m.se, ((m.se.foldl rPut (m.an.foldl rPut (dQs m))).1.length : Int)) := by
    have := k3 (tc ++ dOpt m); rwa [← w3] at this
  have f4 : manyG (gR (dWrite m)) m.ad.length ((m.se.foldl rPut (m.an.foldl rPut (dQs m))).1.length : Int) = some (m.ad, ((m.ad.foldl rPut (m.se.foldl rPut (m.an.foldl rPut (dQs m)))).1.length : Int)) := by
    have := k4 (dOpt m); rwa [← w4] at this
  have hbt := bits_d h m.id m.size m.qs m.an m.se m.ad
  have f5 : adG (dWrite m) ((m.ad.length : Int) + flg (!decide (m.size = 0)) 1).toNat ((m.se.foldl rPut (m.an.foldl rPut (dQs m))).1.length : Int) 0 = some (m.ad, m.size, ((dWrite m).length : Int)) := by
    rcases hz with hz | hz
    · have h0 : dOpt m = [] := by rw [dOpt, if_pos hz]
      rw [hz, show ((m.ad.length : Int) + flg (!decide ((0 : Int) = 0)) 1).toNat = m.ad.length + 0 by simp [flg], ad_many _ 0 f4, adG, Option.map_some, List.append_nil]
      rw [w4, h0, List.append_nil]
    · have ho := opt_back (s := (m.ad.foldl rPut (m.se.foldl rPut (m.an.foldl rPut (dQs m)))).1) (by omega) hz
      rw [← w4] at ho
      rw [decide_eq_false (show ¬ m.size = 0 by omega), show ((m.ad.length : Int) + flg (!false) 1).toNat = m.ad.length + 1 by simp [flg], ad_many _ 1 f4, adG, ho]
      simp [adG]
  unfold dG
  rw [nb, nq, na, ns, nd, n0]
  have hf : flg (!decide (m.size = 0)) 1 ≤ 1 := by cases decide (m.size = 0) <;> decide
  rw [if_pos ⟨by omega, hbt.2.1, by omega, by omega, by omega, by omega⟩, Int.toNat_natCast, f1, Option.bind_some, Int.toNat_natCast, f2, Option.bind_some, Int.toNat_natCast, f3, Option.bind_some, f5, Option.map_some, hbt.1]
theorem dn_got {m : Dn} (h : dnMay m = true) : dnGet (dWrite m) = (m, 0) := by
  rw [dnGet, dn_back h]; dsimp only; rw [if_pos ⟨rfl, h⟩]
/-! what is read is there still, if more stands behind it -/
end Go.Proofs.YtfmdaijkgjkmpaaGreatDoor

set_option linter.unusedVariables false
set_option linter.unusedSimpArgs false
namespace Go.Proofs.YtfmdaijkgjkmpaaGreatDoor
open Go Go.RowKit
theorem bif_tt (b : Bool) : (bif b then true else true) = true := by cases b <;> rfl
def lpM {α : Type} (f : TS → α × TS) (cap : Nat) : Nat → List α → TS → List α × TS
  | 0, out, t => (out, t)
  | k + 1, out, t => if t.bad = true ∨ cap < out.length then (out, t) else lpM f cap k (out ++ [(f t).1]) (f t).2
section
variable {α : Type} {f : TS → α × TS} {g : Int → Option (α × Int)} {cap : Nat}
theorem lp_bad {k : Nat} {out : List α} {t : TS} (h : t.bad = true) : lpM f cap k out t = (out, t) := by
  cases k with
  | zero => rfl
  | succ k => rw [lpM, if_pos (.inl h)]
theorem lp_full {k : Nat} {out : List α} {t : TS} (h : cap < out.length) : lpM f cap k out t = (out, t) := by
  cases k with
  | zero => rfl
  | succ k => rw [lpM, if_pos (.inr h)]
/-- a step of the reader that does what the plain function tells -/
def Imp (f : TS → α × TS) (g : Int → Option (α × Int)) : Prop := ∀ p, 0 ≤ p → (∀ x q, g p = some (x, q) → f ⟨p, false⟩ = (x, ⟨q, false⟩) ∧ 0 ≤ q) ∧ (g p = none → (f ⟨p, false⟩).2.bad = true)
theorem lp_spec (hf : Imp f g) : ∀ (k : Nat) (out : List α) (p : Int), 0 ≤ p →
    (∃ l q, manyG g k p = some (l, q) ∧ lpM f cap k out ⟨p, false⟩ = (out ++ l, ⟨q, false⟩) ∧ l.length = k ∧ 0 ≤ q) ∨ ((lpM f cap k out ⟨p, false⟩).2.bad = true ∧ manyG g k p = none) ∨ (cap < (lpM f cap k out ⟨p, false⟩).1.length ∧ cap < out.length + k)
  | 0, out, p, h0 => .inl ⟨[], p, rfl, by simp [lpM], rfl, h0⟩
  | k + 1, out, p, h0 => by
    by_cases hc : cap < out.length
    · refine .inr (.inr ?_); rw [lp_full hc]; exact ⟨hc, by omega⟩
    rw [lpM, if_neg (by simp [hc]), manyG]
    cases hg : g p with
    | none =>
      have hb := (hf p h0).2 hg
      refine .inr (.inl ⟨?_, rfl⟩)
      rw [lp_bad hb]; exact hb
    | some x =>
      obtain ⟨x, q⟩ := x
      obtain ⟨e, hq⟩ := (hf p h0).1 x q hg
      rw [e, Option.bind_some]
      dsimp only
      rcases lp_spec hf k (out ++ [x]) q hq with ⟨l, r, h1, h2, h3, h4⟩ | ⟨h1, h2⟩ | ⟨h1, h2⟩
      · exact .inl ⟨x :: l, r, by rw [h1]; rfl, by rw [h2]; simp, by simp [h3], h4⟩
      · exact .inr (.inl ⟨h1, by rw [h2]; rfl⟩)
      · exact .inr (.inr ⟨h1, by simp only [List.length_append, List.length_cons, List.length_nil] at h2; omega⟩)
end
theorem gR_nn {s : List UInt8} {p : Int} {r : RR} {to : Int} (h : gR s p = some (r, to)) : 0 ≤ to := by
  unfold gR at h
  cases hg : getName s p with
  | err e => rw [hg] at h; cases h
  | ok nm t0 =>
    rw [hg] at h
    dsimp only at h
    split at h
    · rename_i hc
      have hr := getName_rng hg
      have hz := sizeG_rng (s := s) (to := t0) (by omega) (by omega)
      cases hd : dataG s (headG s t0 nm) (t0 + 10) (sizeG s t0) with
      | none => rw [hd] at h; cases h
      | some r' =>
        rw [hd, Option.bind_some] at h
        split at h
        · simp only [Option.some.injEq, Prod.mk.injEq] at h; omega
        · cases h
    · cases h
theorem gR_non {s : List UInt8} {p : Int} (h : gR s p = none) : rrGet s p = (noR, 0, 400) := by rw [rrGet, h]
def dRec (s : List UInt8) (t : TS) : RR × TS := ((rrGet s t.at_).1, if t.bad = true ∨ (rrGet s t.at_).2.2 ≠ 0 then ⟨t.at_, true⟩ else ⟨(rrGet s t.at_).2.1, false⟩)
def rRec (s : List UInt8) (t : TS) : RR × TS := ((rrGet s t.at_).1, ⟨(rrGet s t.at_).2.1, !decide ((rrGet s t.at_).2.2 = 0)⟩)
theorem imp_dRec (s : List UInt8) : Imp (dRec s) (gR s) := fun p h0 => ⟨fun x q h => by
    rw [dRec]; dsimp only; rw [rrGet_some h]; exact ⟨by simp, gR_nn h⟩, fun h => by
    rw [dRec]; dsimp only; rw [gR_non h]; simp⟩
theorem imp_rRec (s : List UInt8) : Imp (rRec s) (gR s) := fun p h0 => ⟨fun x q h => by
    rw [rRec]; dsimp only; rw [rrGet_some h]; exact ⟨by simp, gR_nn h⟩, fun h => by
    rw [rRec]; dsimp only; rw [gR_non h]; simp⟩
section
variable {W : Int → Int} (hW : ∀ x : Int, 0 ≤ x → x ≤ 4611686018427387904 → W x = x) {s : List UInt8} (hs : s.length ≤ 140737488355328)
def dAsk (W : Int → Int) (s : List UInt8) (t : TS) : Qn' × TS :=
  let a := tName s t
  let b := tNum W s 2 a.2
  let c := tNum W s 2 b.2
  (⟨a.1, b.1⟩, ⟨c.2.at_, bif !decide (c.1 = 1) then true else c.2.bad⟩)
include hW hs
theorem tNum_in {k p : Int} (hk : k = 1 ∨ k = 2 ∨ k = 4) (h0 : 0 ≤ p) (h : p + k ≤ s.length) : tNum W s k ⟨p, false⟩ = (numS s p (p + k), ⟨p + k, false⟩) := by
  rcases tNum_ok hW hs hk (t := ⟨p, false⟩) (fun _ => h0) with ⟨_, h1 | h1⟩ | ⟨_, _, h1⟩
  · cases h1
  · dsimp only at h1; omega
  · exact h1
theorem tNum_out {k p : Int} (hk : k = 1 ∨ k = 2 ∨ k = 4) (h0 : 0 ≤ p) (h : ¬ p + k ≤ s.length) : (tNum W s k ⟨p, false⟩).2.bad = true := by
  rcases tNum_ok hW hs hk (t := ⟨p, false⟩) (fun _ => h0) with ⟨h1, _⟩ | ⟨_, h1, _⟩
  · exact h1
  · exact absurd h1 h
theorem imp_dAsk : Imp (dAsk W s) (qG s) := fun p h0 => by
  cases hg : getName s p with
  | err e =>
    have h1 : (tName s ⟨p, false⟩).2.bad = true := by
      rw [tName]; dsimp only; rw [if_pos (.inr (by rw [hg]; exact GR.err_ne hg))]
    have h2 := tNum_bad (W := W) (s := s) (k := 2) (tNum_bad (W := W) (s := s) (k := 2) h1)
    refine ⟨fun x q h => (by rw [qG, hg] at h; cases h), fun _ => ?_⟩
    rw [dAsk]; dsimp only; rw [h2]; exact bif_tt _
  | ok nm to =>
    have hr := getName_rng hg
    have h1 : tName s ⟨p, false⟩ = (nm, ⟨to, false⟩) := by
      rw [tName]; dsimp only; rw [hg]; simp [grN, grE, grT]
    by_cases hc : to + 4 ≤ s.length
    · have e1 := tNum_in hW hs (k := 2) (p := to) (.inr (.inl rfl)) (by omega) (by omega)
      have e2 := tNum_in hW hs (k := 2) (p := to + 2) (.inr (.inl rfl)) (by omega) (by omega)
      have e : dAsk W s ⟨p, false⟩ = (⟨nm, numS s to (to + 2)⟩, ⟨to + 4, bif !decide (numS s (to + 2) (to + 4) = 1) then true else false⟩) := by
        unfold dAsk; dsimp only; rw [h1]; dsimp only; rw [e1]; dsimp only; rw [e2]; dsimp only
        rw [show to + 2 + 2 = to + 4 by omega]
      rw [e]
      unfold qG
      rw [hg]
      dsimp only
      by_cases h4 : numS s (to + 2) (to + 4) = 1
      · rw [if_pos ⟨hc, h4⟩]
        refine ⟨fun x q h => ?_, fun h => by cases h⟩
        simp only [Option.some.injEq, Prod.mk.injEq] at h
        obtain ⟨rfl, rfl⟩ := h
        exact ⟨by rw [decide_eq_true h4]; rfl, by omega⟩
      · rw [if_neg (fun h => h4 h.2)]
        exact ⟨fun x q h => (by cases h), fun _ => by rw [decide_eq_false h4]; rfl⟩
    · have hb : (tNum W s 2 (tNum W s 2 ⟨to, false⟩).2).2.bad = true := by
        by_cases h2 : to + 2 ≤ s.length
        · rw [tNum_in hW hs (.inr (.inl rfl)) (by omega) h2]; exact tNum_out hW hs (.inr (.inl rfl)) (by omega) (by omega)
        · exact tNum_bad (tNum_out hW hs (.inr (.inl rfl)) (by omega) h2)
      unfold qG
      rw [hg]
      dsimp only
      rw [if_neg (fun h => hc h.1)]
      refine ⟨fun x q h => (by cases h), fun _ => ?_⟩
      unfold dAsk; dsimp only; rw [h1]; dsimp only; rw [hb]; exact bif_tt _
omit hW hs
/-- an OPT, as the program reads it -/
def tOptC (W : Int → Int) (s : List UInt8) (t : TS) : Int × Bool × TS :=
  let a := tName s t
  let b := tNum W s 2 a.2
  if a.1 ≠ [] ∨ b.1 ≠ 41 ∨ b.2.bad = true then (0, false, t)
  else
    let c := tNum W s 2 b.2
    let d := tNum W s 4 c.2
    let e := tNum W s 2 d.2
    let f := tSome s e.1 e.2
    (max c.1 512, true, f.2)
include hW hs
theorem tOpt_spec {p : Int} (h0 : 0 ≤ p) : (∀ k to, optG s p = some (k, to) → tOptC W s ⟨p, false⟩ = (k, true, ⟨to, false⟩) ∧ 0 ≤ to ∧ 512 ≤ k) ∧
    (optG s p = none → (tOptC W s ⟨p, false⟩).2.1 = false ∨ ((tOptC W s ⟨p, false⟩).2.1 = true ∧ (tOptC W s ⟨p, false⟩).2.2.bad = true ∧ gR s p = none)) := by
  have hrng : ∀ i : Int, 0 ≤ numS s i (i + 2) := fun i => (numI_bd _).1
  cases hg : getName s p with
  | err e =>
    have h1 : (tName s ⟨p, false⟩).2.bad = true := by
      rw [tName]; dsimp only; rw [if_pos (.inr (by rw [hg]; exact GR.err_ne hg))]
    have h2 := tNum_bad (W := W) (s := s) (k := 2) h1
    refine ⟨fun k to h => (by rw [optG, hg] at h; cases h), fun _ => .inl ?_⟩
    unfold tOptC; dsimp only; rw [if_pos (.inr (.inr h2))]
  | ok nm to =>
    have hr := getName_rng hg
    have h1 : tName s ⟨p, false⟩ = (nm, ⟨to, false⟩) := by
      rw [tName]; dsimp only; rw [hg]; simp [grN, grE, grT]
    unfold optG
    rw [hg]
    dsimp only
    by_cases hn : nm = []
    rotate_left
    · rw [if_neg (fun h => hn h.1)]
      refine ⟨fun k to h => (by cases h), fun _ => .inl ?_⟩
      unfold tOptC; dsimp only; rw [h1]; dsimp only; rw [if_pos (.inl hn)]
    by_cases h2 : to + 2 ≤ s.length
    rotate_left
    · rw [if_neg (fun h => by omega)]
      refine ⟨fun k to h => (by cases h), fun _ => .inl ?_⟩
      unfold tOptC; dsimp only; rw [h1]; dsimp only; rw [if_pos (.inr (.inr (tNum_out hW hs (.inr (.inl rfl)) (by omega) h2)))]
    have e1 := tNum_in hW hs (k := 2) (p := to) (.inr (.inl rfl)) (by omega) h2
    by_cases h41 : numS s to (to + 2) = 41
    rotate_left
    · rw [if_neg (fun h => h41 h.2.2.1)]
      refine ⟨fun k to h => (by cases h), fun _ => .inl ?_⟩
      unfold tOptC; dsimp only; rw [h1]; dsimp only; rw [e1]; dsimp only; rw [if_pos (.inr (.inl h41))]
    have e : tOptC W s ⟨p, false⟩ = (max (tNum W s 2 ⟨to + 2, false⟩).1 512, true, (tSome s (tNum W s 2 (tNum W s 4 (tNum W s 2 ⟨to + 2, false⟩).2).2).1 (tNum W s 2 (tNum W s 4 (tNum W s 2 ⟨to + 2, false⟩).2).2).2).2) := by
      unfold tOptC; dsimp only; rw [h1]; dsimp only; rw [e1]; dsimp only
      rw [if_neg (by rintro (h | h | h); exact h hn; exact h h41; cases h)]
    have hrn : gR s p = none := by
      have := rrGet_other (s := s) (p := p) (to := to) (by rw [hg]; rfl) rfl (by rw [numS] at h41; omega)
      cases hx : gR s p with
      | none => rfl
      | some x => rw [rrGet, hx] at this; have h9 : (0 : Int) = 400 := congrArg (fun y => y.2.2) this; omega
    have tb : ∀ (k : Int) (t : TS), t.bad = true → (tSome s k t).2.bad = true := fun k t h => by rw [tSome, if_pos (.inl h)]
    rw [e]
    by_cases h10 : to + 10 ≤ s.length
    rotate_left
    · rw [if_neg (fun h => h10 h.2.1)]
      refine ⟨fun k to h => (by cases h), fun _ => .inr ⟨rfl, tb _ _ ?_, hrn⟩⟩
      by_cases h4 : to + 4 ≤ s.length
      · rw [tNum_in hW hs (.inr (.inl rfl)) (by omega) (by omega)]
        by_cases h8 : to + 8 ≤ s.length
        · rw [tNum_in hW hs (.inr (.inr rfl)) (by omega) (by omega)]
          exact tNum_out hW hs (.inr (.inl rfl)) (by omega) (by omega)
        · exact tNum_bad (tNum_out hW hs (.inr (.inr rfl)) (by omega) (by omega))
      · exact tNum_bad (tNum_bad (tNum_out hW hs (.inr (.inl rfl)) (by omega) (by omega)))
    rw [tNum_in hW hs (.inr (.inl rfl)) (by omega) (by omega)]
    dsimp only
    rw [tNum_in hW hs (.inr (.inr rfl)) (by omega) (by omega)]
    dsimp only
    rw [tNum_in hW hs (.inr (.inl rfl)) (by omega) (by omega)]
    dsimp only
    rw [show to + 2 + 2 + 4 + 2 = to + 10 by omega, show to + 2 + 2 + 4 = to + 8 by omega, show to + 2 + 2 = to + 4 by omega]
    have hp := hrng (to + 8)
    rw [show to + 8 + 2 = to + 10 by omega] at hp
    by_cases hk : to + 10 + numS s (to + 8) (to + 10) ≤ s.length
    · rw [if_pos ⟨hn, h10, h41, hk⟩, tSome]
      dsimp only
      rw [if_neg (by rintro (h | h); cases h; omega)]
      refine ⟨fun k t h => ?_, fun h => by cases h⟩
      simp only [Option.some.injEq, Prod.mk.injEq] at h
      obtain ⟨rfl, rfl⟩ := h
      exact ⟨rfl, by omega, by omega⟩
    · rw [if_neg (fun h => hk h.2.2.2), tSome]
      dsimp only
      rw [if_pos (.inr (by omega))]
      exact ⟨fun k t h => (by cases h), fun _ => .inr ⟨rfl, rfl, hrn⟩⟩
omit hW hs
def adC (W : Int → Int) (s : List UInt8) : Nat → List RR → Int → TS → List RR × Int × TS
  | 0, out, z, t => (out, z, t)
  | k + 1, out, z, t => if t.bad = true ∨ 32 < out.length then (out, z, t)
    else if (tOptC W s t).2.1 = true then adC W s k out (tOptC W s t).1 ⟨(tOptC W s t).2.2.at_, bif (tOptC W s t).2.2.bad then true else !decide (z = 0)⟩
    else adC W s k (out ++ [(dRec s t).1]) z (dRec s t).2
def adR (s : List UInt8) : Nat → List RR → Int → TS → List RR × Int × TS
  | 0, out, z, t => (out, z, t)
  | k + 1, out, z, t => if t.bad = true then (out, z, t)
    else match optG s t.at_ with
    | some x => if z = 0 then adR s k out x.1 ⟨x.2, false⟩ else adR s k (out ++ [(rRec s t).1]) z (rRec s t).2
    | none => adR s k (out ++ [(rRec s t).1]) z (rRec s t).2
theorem adC_stop {k : Nat} {out : List RR} {z : Int} {t : TS} (h : t.bad = true ∨ 32 < out.length) : adC W s k out z t = (out, z, t) := by
  cases k with
  | zero => rfl
  | succ k => rw [adC, if_pos h]
theorem adR_stop {k : Nat} {out : List RR} {z : Int} {t : TS} (h : t.bad = true) : adR s k out z t = (out, z, t) := by
  cases k with
  | zero => rfl
  | succ k => rw [adR, if_pos h]
include hW hs
theorem adC_spec : ∀ (k : Nat) (out : List RR) (z p : Int), 0 ≤ p → (z = 0 ∨ 512 ≤ z) →
    (∃ l z' q, adG s k p z = some (l, z', q) ∧ adC W s k out z ⟨p, false⟩ = (out ++ l, z', ⟨q, false⟩) ∧ k ≤ l.length + (if z = 0 then 1 else 0)) ∨ ((adC W s k out z ⟨p, false⟩).2.2.bad = true ∧ adG s k p z = none) ∨ (32 < (adC W s k out z ⟨p, false⟩).1.length ∧ ∀ l z' q, adG s k p z = some (l, z', q) → 32 < out.length + l.length)
  | 0, out, z, p, h0, hz => .inl ⟨[], z, p, rfl, by simp [adC], by simp⟩
  | k + 1, out, z, p, h0, hz => by
    by_cases hc : 32 < out.length
    · refine .inr (.inr ?_); rw [adC_stop (.inr hc)]; exact ⟨hc, fun l _ _ _ => by omega⟩
    rw [adC, if_neg (by simp [hc]), adG]
    obtain ⟨o1, o2⟩ := tOpt_spec hW hs h0
    have hrec : optG s p = none → (tOptC W s ⟨p, false⟩).2.1 = false →
        (∃ l z' q, ((gR s p).bind fun x => (adG s k x.2 z).map fun y => (x.1 :: y.1, y.2)) = some (l, z', q) ∧ adC W s k (out ++ [(dRec s ⟨p, false⟩).1]) z (dRec s ⟨p, false⟩).2 = (out ++ l, z', ⟨q, false⟩) ∧ k + 1 ≤ l.length + (if z = 0 then 1 else 0)) ∨ ((adC W s k (out ++ [(dRec s ⟨p, false⟩).1]) z (dRec s ⟨p, false⟩).2).2.2.bad = true ∧ ((gR s p).bind fun x => (adG s k x.2 z).map fun y => (x.1 :: y.1, y.2)) = none) ∨ (32 < (adC W s k (out ++ [(dRec s ⟨p, false⟩).1]) z (dRec s ⟨p, false⟩).2).1.length ∧ ∀ l z' q, ((gR s p).bind fun x => (adG s k x.2 z).map fun y => (x.1 :: y.1, y.2)) = some (l, z', q) → 32 < out.length + l.length) := fun _ _ => by
      cases hg : gR s p with
      | none =>
        have hb := (imp_dRec s p h0).2 hg
        refine .inr (.inl ⟨?_, rfl⟩)
        rw [adC_stop (.inl hb)]; exact hb
      | some x =>
        obtain ⟨x, q⟩ := x
        obtain ⟨e, hq⟩ := (imp_dRec s p h0).1 x q hg
        rw [e, Option.bind_some]
        dsimp only
        rcases adC_spec k (out ++ [x]) z q hq hz with ⟨l, z', r, h1, h2, h3⟩ | ⟨h1, h2⟩ | ⟨h1, h2⟩
        · exact .inl ⟨x :: l, z', r, by rw [h1]; rfl, by rw [h2]; simp, by simp only [List.length_cons]; omega⟩
        · exact .inr (.inl ⟨h1, by rw [h2]; rfl⟩)
        · refine .inr (.inr ⟨h1, fun l z' r h => ?_⟩)
          cases ha : adG s k q z with
          | none => rw [ha] at h; cases h
          | some y =>
            obtain ⟨y1, y2, y3⟩ := y
            have := h2 y1 y2 y3 ha
            rw [ha] at h
            simp only [Option.map_some, Option.some.injEq, Prod.mk.injEq] at h
            obtain ⟨rfl, _⟩ := h
            simp only [List.length_append, List.length_cons, List.length_nil] at this ⊢; omega
    cases ho : optG s p with
    | none =>
      dsimp only
      rcases o2 ho with h1 | ⟨h1, h2, h3⟩
      · rw [if_neg (by rw [h1]; decide)]
        exact hrec ho h1
      · rw [if_pos h1]
        refine .inr (.inl ?_)
        have hb : (bif (tOptC W s ⟨p, false⟩).2.2.bad then true else !decide (z = 0)) = true := by rw [h2]; rfl
        rw [adC_stop (.inl hb), h3]
        exact ⟨hb, rfl⟩
    | some x =>
      obtain ⟨k', to⟩ := x
      obtain ⟨e, ht, h5⟩ := o1 k' to ho
      rw [e, if_pos rfl]
      dsimp only
      by_cases hz0 : z = 0
      · subst hz0
        rw [if_pos rfl]
        have hne : ¬ k' = 0 := by omega
        rcases adC_spec k out k' to ht (.inr h5) with ⟨l, z', r, h1, h2, h3⟩ | ⟨h1, h2⟩ | ⟨h1, h2⟩
        · exact .inl ⟨l, z', r, h1, h2, by rw [if_neg hne] at h3; rw [if_pos rfl]; omega⟩
        · exact .inr (.inl ⟨h1, h2⟩)
        · exact .inr (.inr ⟨h1, h2⟩)
      · rw [if_neg hz0, decide_eq_false hz0]
        exact .inr (.inl ⟨by rw [adC_stop (.inl rfl)]; rfl, rfl⟩)
omit hW hs
theorem optG_nn {p : Int} {k to : Int} (h : optG s p = some (k, to)) : 0 ≤ to ∧ 512 ≤ k ∧ gR s p = none := by
  have hrng : ∀ i j : Int, 0 ≤ numS s i j := fun i j => (numI_bd _).1
  unfold optG at h
  cases hg : getName s p with
  | err e => rw [hg] at h; cases h
  | ok nm t0 =>
    rw [hg] at h
    dsimp only at h
    split at h
    · rename_i hc
      have hr := getName_rng hg
      have := hrng (t0 + 8) (t0 + 10)
      simp only [Option.some.injEq, Prod.mk.injEq] at h
      refine ⟨by omega, by omega, ?_⟩
      have h4 := rrGet_other (s := s) (p := p) (to := t0) (by rw [hg]; rfl) rfl (by have := hc.2.2.1; rw [numS] at this; omega)
      cases hx : gR s p with
      | none => rfl
      | some x => rw [rrGet, hx] at h4; have h9 : (0 : Int) = 400 := congrArg (fun y => y.2.2) h4; omega
    · cases h
theorem adR_spec : ∀ (k : Nat) (out : List RR) (z p : Int), 0 ≤ p → (z = 0 ∨ 512 ≤ z) →
    (∃ l z' q, adG s k p z = some (l, z', q) ∧ adR s k out z ⟨p, false⟩ = (out ++ l, z', ⟨q, false⟩)) ∨ ((adR s k out z ⟨p, false⟩).2.2.bad = true ∧ adG s k p z = none)
  | 0, out, z, p, h0, hz => .inl ⟨[], z, p, rfl, by simp [adR]⟩
  | k + 1, out, z, p, h0, hz => by
    rw [adR, if_neg (by simp), adG]
    dsimp only
    have hrec : (∃ l z' q, ((gR s p).bind fun x => (adG s k x.2 z).map fun y => (x.1 :: y.1, y.2)) = some (l, z', q) ∧ adR s k (out ++ [(rRec s ⟨p, false⟩).1]) z (rRec s ⟨p, false⟩).2 = (out ++ l, z', ⟨q, false⟩)) ∨ ((adR s k (out ++ [(rRec s ⟨p, false⟩).1]) z (rRec s ⟨p, false⟩).2).2.2.bad = true ∧ ((gR s p).bind fun x => (adG s k x.2 z).map fun y => (x.1 :: y.1, y.2)) = none) := by
      cases hg : gR s p with
      | none =>
        have hb := (imp_rRec s p h0).2 hg
        refine .inr ⟨?_, rfl⟩
        rw [adR_stop hb]; exact hb
      | some x =>
        obtain ⟨x, q⟩ := x
        obtain ⟨e, hq⟩ := (imp_rRec s p h0).1 x q hg
        rw [e, Option.bind_some]
        dsimp only
        rcases adR_spec k (out ++ [x]) z q hq hz with ⟨l, z', r, h1, h2⟩ | ⟨h1, h2⟩
        · exact .inl ⟨x :: l, z', r, by rw [h1]; rfl, by rw [h2]; simp⟩
        · exact .inr ⟨h1, by rw [h2]; rfl⟩
    cases ho : optG s p with
    | none => exact hrec
    | some x =>
      obtain ⟨k', to⟩ := x
      obtain ⟨ht, h5, hn⟩ := optG_nn ho
      dsimp only
      by_cases hz0 : z = 0
      · subst hz0
        rw [if_pos rfl, if_pos rfl]
        exact adR_spec k out k' to ht (.inr h5)
      · rw [if_neg hz0, if_neg hz0]
        have hb := (imp_rRec s p h0).2 hn
        exact .inr ⟨by rw [adR_stop hb]; exact hb, rfl⟩
/-! the numbers of the head -/
def tSt (W : Int → Int) (s : List UInt8) : Nat → TS
  | 0 => ⟨0, false⟩
  | i + 1 => (tNum W s 2 (tSt W s i)).2
def nuR (s : List UInt8) (k : Int) (t : TS) : Int × TS := if t.bad = true ∨ (beG s t.at_ k).2 ≠ 0 then (0, ⟨t.at_, true⟩) else ((beG s t.at_ k).1, ⟨t.at_ + k, false⟩)
def rSt (s : List UInt8) : Nat → TS
  | 0 => ⟨0, false⟩
  | i + 1 => (nuR s 2 (rSt s i)).2
include hW hs
theorem tSt_ok : ∀ (i : Nat), 2 * i ≤ s.length → tSt W s i = ⟨2 * i, false⟩
  | 0, _ => rfl
  | i + 1, h => by
    rw [tSt, tSt_ok i (by omega), tNum_in hW hs (.inr (.inl rfl)) (by omega) (by omega)]
    exact congrArg (fun z => (⟨z, false⟩ : TS)) (by omega)
theorem tSt_bad : ∀ (i : Nat), ¬ 2 * i ≤ s.length → (tSt W s i).bad = true
  | 0, h => absurd (by omega) h
  | i + 1, h => by
    rw [tSt]
    by_cases h2 : 2 * i ≤ s.length
    · rw [tSt_ok hW hs i h2]; exact tNum_out hW hs (.inr (.inl rfl)) (by omega) (by omega)
    · exact tNum_bad (tSt_bad i h2)
theorem tSt_num {i : Nat} (h : 2 * i + 2 ≤ s.length) : (tNum W s 2 (tSt W s i)).1 = n2 s (2 * i) := by
  rw [tSt_ok hW hs i (by omega), tNum_in hW hs (.inr (.inl rfl)) (by omega) (by omega)]; rfl
omit hW hs
theorem nuR_in {p : Int} (h0 : 0 ≤ p) (h : p + 2 ≤ s.length) : nuR s 2 ⟨p, false⟩ = (numS s p (p + 2), ⟨p + 2, false⟩) := by
  rw [nuR]; dsimp only; rw [beG_in (.inr (.inl rfl)) h0 rfl h]; simp [numS]
theorem nuR_out {t : TS} (h : t.bad = true ∨ ¬ t.at_ + 2 ≤ s.length) : (nuR s 2 t).2.bad = true ∧ (nuR s 2 t).1 = 0 := by
  rw [nuR, if_pos]
  · exact ⟨rfl, rfl⟩
  · rcases h with h | h
    · exact .inl h
    · right
      unfold beG
      split
      · decide
      · rw [if_pos (by omega)]; decide
theorem rSt_ok : ∀ (i : Nat), 2 * i ≤ s.length → rSt s i = ⟨2 * i, false⟩
  | 0, _ => rfl
  | i + 1, h => by
    rw [rSt, rSt_ok i (by omega), nuR_in (by omega) (by omega)]
    exact congrArg (fun z => (⟨z, false⟩ : TS)) (by omega)
theorem rSt_bad : ∀ (i : Nat), ¬ 2 * i ≤ s.length → (rSt s i).bad = true
  | 0, h => absurd (by omega) h
  | i + 1, h => by
    rw [rSt]
    by_cases h2 : 2 * i ≤ s.length
    · rw [rSt_ok i h2]; exact (nuR_out (.inr (by dsimp only; omega))).1
    · exact (nuR_out (.inl (rSt_bad i h2))).1
theorem rSt_num {i : Nat} (h : 2 * i + 2 ≤ s.length) : (nuR s 2 (rSt s i)).1 = n2 s (2 * i) := by
  rw [rSt_ok i (by omega), nuR_in (by omega) (by omega)]; rfl
/-- a question, as the document reads it -/
def rAsk (s : List UInt8) (t : TS) : Qn' × TS :=
  let b := nuR s 2 ⟨grT (getName s t.at_), !decide (grE (getName s t.at_) = 0)⟩
  let c := nuR s 2 b.2
  (⟨grN (getName s t.at_), b.1⟩, ⟨c.2.at_, bif !decide (c.1 = 1) then true else c.2.bad⟩)
theorem imp_rAsk (s : List UInt8) : Imp (rAsk s) (qG s) := fun p h0 => by
  cases hg : getName s p with
  | err e =>
    have he := GR.err_ne hg
    refine ⟨fun x q h => (by rw [qG, hg] at h; cases h), fun _ => ?_⟩
    have h1 := (nuR_out (s := s) (t := ⟨grT (getName s p), !decide (grE (getName s p) = 0)⟩) (.inl (by rw [hg]; simp [grE, he]))).1
    have h2 := (nuR_out (s := s) (.inl h1)).1
    unfold rAsk; dsimp only; rw [h2]; exact bif_tt _
  | ok nm to =>
    have hr := getName_rng hg
    have h1 : (⟨grT (getName s p), !decide (grE (getName s p) = 0)⟩ : TS) = ⟨to, false⟩ := by rw [hg]; rfl
    have hN : grN (getName s p) = nm := by rw [hg]; rfl
    unfold qG
    rw [hg]
    dsimp only
    by_cases hc : to + 4 ≤ s.length
    · have e : rAsk s ⟨p, false⟩ = (⟨nm, numS s to (to + 2)⟩, ⟨to + 4, bif !decide (numS s (to + 2) (to + 4) = 1) then true else false⟩) := by
        unfold rAsk; dsimp only; rw [h1, hN, nuR_in (by omega) (by omega)]; dsimp only; rw [nuR_in (by omega) (by omega)]; dsimp only
        rw [show to + 2 + 2 = to + 4 by omega]
      rw [e]
      by_cases h4 : numS s (to + 2) (to + 4) = 1
      · rw [if_pos ⟨hc, h4⟩]
        refine ⟨fun x q h => ?_, fun h => by cases h⟩
        simp only [Option.some.injEq, Prod.mk.injEq] at h
        obtain ⟨rfl, rfl⟩ := h
        exact ⟨by rw [decide_eq_true h4]; rfl, by omega⟩
      · rw [if_neg (fun h => h4 h.2)]
        exact ⟨fun x q h => (by cases h), fun _ => by rw [decide_eq_false h4]; rfl⟩
    · rw [if_neg (fun h => hc h.1)]
      refine ⟨fun x q h => (by cases h), fun _ => ?_⟩
      have hb : (nuR s 2 (nuR s 2 ⟨to, false⟩).2).2.bad = true := by
        by_cases h2 : to + 2 ≤ s.length
        · rw [nuR_in (by omega) h2]; exact (nuR_out (.inr (by dsimp only; omega))).1
        · exact (nuR_out (.inl (nuR_out (.inr (by dsimp only; omega))).1)).1
      unfold rAsk; dsimp only; rw [h1, hb]; exact bif_tt _
end
def bigC : Nat := 1000000
def dnGetC (W : Int → Int) (s : List UInt8) : Dn × Int :=
  let x := (tNum W s 2 (tSt W s 1)).1
  let q := lpM (dAsk W s) bigC (min (tNum W s 2 (tSt W s 2)).1 5).toNat [] (tSt W s 6)
  let a := lpM (dRec s) 32 (tNum W s 2 (tSt W s 3)).1.toNat [] q.2
  let b := lpM (dRec s) 32 (tNum W s 2 (tSt W s 4)).1.toNat [] a.2
  let c := adC W s (tNum W s 2 (tSt W s 5)).1.toNat [] 0 b.2
  let m := hdD x (tNum W s 2 (tSt W s 0)).1 q.1 a.1 b.1 c.1 c.2.1
  if c.2.2.bad = true ∨ bits .and .i64 x 240 ≠ 0 ∨ c.2.2.at_ ≠ s.length ∨ dnMay m = false then (noD, 500) else (m, 0)
def dnGetR (s : List UInt8) : Dn × Int :=
  let x := (nuR s 2 (rSt s 1)).1
  let na := (nuR s 2 (rSt s 2)).1
  let nb := (nuR s 2 (rSt s 3)).1
  let nc := (nuR s 2 (rSt s 4)).1
  let nd := (nuR s 2 (rSt s 5)).1
  let q := lpM (rAsk s) bigC na.toNat [] ⟨(rSt s 6).at_, (rSt s 6).bad || !decide (bits .and .i64 x 240 = 0) || decide (4 < na) || decide (32 < nb) || decide (32 < nc) || decide (33 < nd)⟩
  let a := lpM (rRec s) bigC nb.toNat [] q.2
  let b := lpM (rRec s) bigC nc.toNat [] a.2
  let c := adR s nd.toNat [] 0 b.2
  let m := hdD x (nuR s 2 (rSt s 0)).1 q.1 a.1 b.1 c.1 c.2.1
  if c.2.2.bad = true ∨ c.2.2.at_ ≠ s.length ∨ dnMay m = false then (noD, 500) else (m, 0)
theorem n2_rng (s : List UInt8) {i : Int} (h0 : 0 ≤ i) (h : i + 2 ≤ s.length) : 0 ≤ n2 s i ∧ n2 s i < 65536 := by
  have h1 := numI_bd (slc s i (i + 2))
  rw [slc_len h0 (by omega) h, show (i + 2 - i).toNat = 2 by omega] at h1
  have hp : (256 : Int) ^ 2 = 65536 := by decide
  rw [hp] at h1; exact h1
theorem hd_may {x id : Int} {qs : List Qn'} {an se ad : List RR} {size : Int} (h : dnMay (hdD x id qs an se ad size) = true) : qs.length ≤ 4 ∧ an.length ≤ 32 ∧ se.length ≤ 32 ∧ ad.length ≤ 32 := by
  obtain ⟨a, b, c, _, _, _, e, _⟩ := may_d h
  exact ⟨e.1, a.1, b.1, c.1⟩
theorem dnGetC_eq {W : Int → Int} (hW : ∀ x : Int, 0 ≤ x → x ≤ 4611686018427387904 → W x = x) {s : List UInt8} (hs : s.length ≤ 140737488355328) : dnGetC W s = dnGet s := by
  by_cases hl : 12 ≤ s.length
  rotate_left
  · have h6 : (tSt W s 6).bad = true := tSt_bad hW hs 6 (by omega)
    have h0 : dG s = none := by rw [dG, if_neg (fun h => hl h.1)]
    rw [dnGet, h0]
    unfold dnGetC
    dsimp only
    rw [lp_bad h6]
    dsimp only
    rw [lp_bad h6]
    dsimp only
    rw [lp_bad h6]
    dsimp only
    rw [adC_stop (.inl h6), if_pos (.inl h6)]
  · have e6 : tSt W s 6 = ⟨12, false⟩ := tSt_ok hW hs 6 (by omega)
    have en : ∀ i : Nat, 2 * i + 2 ≤ s.length → (tNum W s 2 (tSt W s i)).1 = n2 s (2 * i) := fun i hi => tSt_num hW hs hi
    have k0 : (tNum W s 2 (tSt W s 0)).1 = n2 s 0 := en 0 (by omega)
    have k1 : (tNum W s 2 (tSt W s 1)).1 = n2 s 2 := en 1 (by omega)
    have k2 : (tNum W s 2 (tSt W s 2)).1 = n2 s 4 := en 2 (by omega)
    have k3 : (tNum W s 2 (tSt W s 3)).1 = n2 s 6 := en 3 (by omega)
    have k4 : (tNum W s 2 (tSt W s 4)).1 = n2 s 8 := en 4 (by omega)
    have k5 : (tNum W s 2 (tSt W s 5)).1 = n2 s 10 := en 5 (by omega)
    unfold dnGetC
    dsimp only
    rw [e6, k0, k1, k2, k3, k4, k5]
    have r4 := n2_rng s (i := 4) (by omega) (by omega)
    have r6 := n2_rng s (i := 6) (by omega) (by omega)
    have r8 := n2_rng s (i := 8) (by omega) (by omega)
    have r10 := n2_rng s (i := 10) (by omega) (by omega)
    rw [dnGet, dG]
    have bad : ∀ (k1 k2 k3 : Nat) (t : TS) (x id : Int) (qs : List Qn') (an : List RR), t.bad = true → (adC W s k3 [] 0 (lpM (dRec s) 32 k2 [] (lpM (dRec s) 32 k1 [] t).2).2).2.2.bad = true := fun k1 k2 k3 t x id qs an h => by
      rw [lp_bad h]; dsimp only; rw [lp_bad h]; dsimp only; rw [adC_stop (.inl h)]; exact h
    rcases lp_spec (cap := bigC) (imp_dAsk hW hs) (min (n2 s 4) 5).toNat [] 12 (by omega) with ⟨qs, p1, q1, q2, q3, q4⟩ | ⟨q1, q2⟩ | ⟨q1, q2⟩
    rotate_left
    · rw [if_pos (.inl (bad _ _ _ _ 0 0 [] [] q1))]
      split <;> rename_i hx
      · rfl
      · split at hx
        · rename_i hc
          rw [show (min (n2 s 4) 5).toNat = (n2 s 4).toNat by omega] at q2
          rw [q2] at hx; cases hx
        · cases hx
    · exfalso; simp only [bigC, List.length_nil] at q2; omega
    rw [q2]
    dsimp only
    rcases lp_spec (cap := 32) (imp_dRec s) (n2 s 6).toNat [] p1 q4 with ⟨an, p2, a1, a2, a3, a4⟩ | ⟨a1, a2⟩ | ⟨a1, a2⟩
    rotate_left
    · have hb : (adC W s (n2 s 10).toNat [] 0 (lpM (dRec s) 32 (n2 s 8).toNat [] (lpM (dRec s) 32 (n2 s 6).toNat [] ⟨p1, false⟩).2).2).2.2.bad = true := by
        rw [lp_bad a1]; rw [adC_stop (.inl a1)]; exact a1
      rw [if_pos (.inl hb)]
      split <;> rename_i hx
      · rfl
      · split at hx
        · rename_i hc
          rw [show (min (n2 s 4) 5).toNat = (n2 s 4).toNat by omega] at q1
          rw [q1, Option.bind_some] at hx; dsimp only at hx; rw [a2] at hx; cases hx
        · cases hx
    · rw [if_pos (.inr (.inr (.inr (Bool.eq_false_iff.2 fun h => by have := (hd_may h).2.1; omega))))]
      split <;> rename_i hx
      · rfl
      · split at hx
        · rename_i hc; simp only [List.length_nil] at a2; omega
        · cases hx
    rw [a2]
    dsimp only
    rcases lp_spec (cap := 32) (imp_dRec s) (n2 s 8).toNat [] p2 a4 with ⟨se, p3, b1, b2, b3, b4⟩ | ⟨b1, b2⟩ | ⟨b1, b2⟩
    rotate_left
    · have hb : (adC W s (n2 s 10).toNat [] 0 (lpM (dRec s) 32 (n2 s 8).toNat [] ⟨p2, false⟩).2).2.2.bad = true := by
        rw [adC_stop (.inl b1)]; exact b1
      rw [if_pos (.inl hb)]
      split <;> rename_i hx
      · rfl
      · split at hx
        · rename_i hc
          rw [show (min (n2 s 4) 5).toNat = (n2 s 4).toNat by omega] at q1
          rw [q1, Option.bind_some] at hx; dsimp only at hx; rw [a1, Option.bind_some] at hx; dsimp only at hx; rw [b2] at hx; cases hx
        · cases hx
    · rw [if_pos (.inr (.inr (.inr (Bool.eq_false_iff.2 fun h => by have := (hd_may h).2.2.1; omega))))]
      split <;> rename_i hx
      · rfl
      · split at hx
        · rename_i hc; simp only [List.length_nil] at b2; omega
        · cases hx
    rw [b2]
    dsimp only
    rcases adC_spec hW hs (n2 s 10).toNat [] 0 p3 b4 (.inl rfl) with ⟨ad, z, p4, c1, c2, c3⟩ | ⟨c1, c2⟩ | ⟨c1, c2⟩
    rotate_left
    · rw [if_pos (.inl c1)]
      split <;> rename_i hx
      · rfl
      · split at hx
        · rename_i hc
          rw [show (min (n2 s 4) 5).toNat = (n2 s 4).toNat by omega] at q1
          rw [q1, Option.bind_some] at hx; dsimp only at hx; rw [a1, Option.bind_some] at hx; dsimp only at hx; rw [b1, Option.bind_some] at hx; dsimp only at hx; rw [c2] at hx; cases hx
        · cases hx
    · rw [if_pos (.inr (.inr (.inr (Bool.eq_false_iff.2 fun h => by have := (hd_may h).2.2.2; omega))))]
      split <;> rename_i hx
      · rfl
      · split at hx
        · rename_i hc
          rw [show (min (n2 s 4) 5).toNat = (n2 s 4).toNat by omega] at q1
          rw [q1, Option.bind_some] at hx; dsimp only at hx; rw [a1, Option.bind_some] at hx; dsimp only at hx; rw [b1, Option.bind_some] at hx; dsimp only at hx
          cases hy : adG s (n2 s 10).toNat p3 0 with
          | none => rw [hy] at hx; cases hx
          | some y =>
            obtain ⟨y1, y2, y3⟩ := y
            have := c2 y1 y2 y3 hy
            rw [hy] at hx
            simp only [Option.map_some, Option.some.injEq] at hx
            subst hx
            dsimp only
            rw [if_neg]
            rintro ⟨_, h⟩
            have := (hd_may h).2.2.2
            simp only [List.length_nil] at *; omega
        · cases hx
    rw [c2]
    simp only [List.nil_append]
    by_cases hc : bits .and .i64 (n2 s 2) 240 = 0
    rotate_left
    · rw [if_pos (.inr (.inl hc)), if_neg (fun h => hc h.2.1)]
    by_cases h4 : n2 s 4 ≤ 4
    rotate_left
    · rw [if_pos (.inr (.inr (.inr (Bool.eq_false_iff.2 fun h => by have := (hd_may h).1; omega)))), if_neg (fun h => h4 h.2.2.1)]
    by_cases h32 : n2 s 6 ≤ 32 ∧ n2 s 8 ≤ 32 ∧ n2 s 10 ≤ 33
    rotate_left
    · rw [if_pos (.inr (.inr (.inr (Bool.eq_false_iff.2 fun h => by have := hd_may h; rw [if_pos rfl] at c3; omega)))), if_neg (fun h => h32 h.2.2.2)]
    rw [show (min (n2 s 4) 5).toNat = (n2 s 4).toNat by omega] at q1
    have hC : 12 ≤ s.length ∧ bits .and .i64 (n2 s 2) 240 = 0 ∧ n2 s 4 ≤ 4 ∧ n2 s 6 ≤ 32 ∧ n2 s 8 ≤ 32 ∧ n2 s 10 ≤ 33 := ⟨hl, hc, h4, h32⟩
    rw [if_pos hC, q1, Option.bind_some]
    dsimp only
    rw [a1, Option.bind_some]
    dsimp only
    rw [b1, Option.bind_some]
    dsimp only
    rw [c1, Option.map_some]
    dsimp only
    by_cases hf : p4 = s.length ∧ dnMay (hdD (n2 s 2) (n2 s 0) qs an se ad z) = true
    · rw [if_pos hf, if_neg (by rintro (h | h | h | h); cases h; exact h hc; exact h hf.1; rw [hf.2] at h; cases h)]
    · rw [if_neg hf, if_pos]
      by_cases h1 : p4 = s.length
      · exact .inr (.inr (.inr (Bool.eq_false_iff.2 fun h => hf ⟨h1, h⟩)))
      · exact .inr (.inr (.inl h1))
theorem allbadR {s : List UInt8} {n1 n2 n3 n4 : Nat} {t : TS} (h : t.bad = true) : (adR s n4 [] 0 (lpM (rRec s) bigC n3 [] (lpM (rRec s) bigC n2 [] (lpM (rAsk s) bigC n1 [] t).2).2).2).2.2.bad = true := by
  rw [lp_bad (f := rAsk s) h]
  dsimp only
  have h2 : lpM (rRec s) bigC n2 [] t = ([], t) := lp_bad h
  rw [h2]
  dsimp only
  have h3 : lpM (rRec s) bigC n3 [] t = ([], t) := lp_bad h
  rw [h3]
  dsimp only
  rw [adR_stop h]; exact h
theorem dnGetR_eq {s : List UInt8} : dnGetR s = dnGet s := by
  by_cases hl : 12 ≤ s.length
  rotate_left
  · have h6 : (rSt s 6).bad = true := rSt_bad 6 (by omega)
    have h0 : dG s = none := by rw [dG, if_neg (fun h => hl h.1)]
    rw [dnGet, h0]
    unfold dnGetR
    dsimp only
    rw [if_pos (.inl (allbadR (by rw [h6]; rfl)))]
  · have e6 : rSt s 6 = ⟨12, false⟩ := rSt_ok 6 (by omega)
    have en : ∀ i : Nat, 2 * i + 2 ≤ s.length → (nuR s 2 (rSt s i)).1 = n2 s (2 * i) := fun i hi => rSt_num hi
    have k0 : (nuR s 2 (rSt s 0)).1 = n2 s 0 := en 0 (by omega)
    have k1 : (nuR s 2 (rSt s 1)).1 = n2 s 2 := en 1 (by omega)
    have k2 : (nuR s 2 (rSt s 2)).1 = n2 s 4 := en 2 (by omega)
    have k3 : (nuR s 2 (rSt s 3)).1 = n2 s 6 := en 3 (by omega)
    have k4 : (nuR s 2 (rSt s 4)).1 = n2 s 8 := en 4 (by omega)
    have k5 : (nuR s 2 (rSt s 5)).1 = n2 s 10 := en 5 (by omega)
    unfold dnGetR
    dsimp only
    rw [e6, k0, k1, k2, k3, k4, k5]
    dsimp only
    have r4 := n2_rng s (i := 4) (by omega) (by omega)
    have r6 := n2_rng s (i := 6) (by omega) (by omega)
    have r8 := n2_rng s (i := 8) (by omega) (by omega)
    have r10 := n2_rng s (i := 10) (by omega) (by omega)
    rw [dnGet, dG]
    by_cases hC : 12 ≤ s.length ∧ bits .and .i64 (n2 s 2) 240 = 0 ∧ n2 s 4 ≤ 4 ∧ n2 s 6 ≤ 32 ∧ n2 s 8 ≤ 32 ∧ n2 s 10 ≤ 33
    rotate_left
    · rw [if_neg hC]
      have hb : (false || !decide (bits .and .i64 (n2 s 2) 240 = 0) || decide (4 < n2 s 4) || decide (32 < n2 s 6) || decide (32 < n2 s 8) || decide (33 < n2 s 10)) = true := by
        apply Decidable.byContradiction
        intro h
        simp only [Bool.not_eq_true, Bool.or_eq_false_iff, Bool.not_eq_false', decide_eq_true_eq, decide_eq_false_iff_not, Bool.false_or] at h
        exact hC ⟨hl, h.1.1.1.1, by omega, by omega, by omega, by omega⟩
      rw [hb, if_pos (.inl (allbadR rfl))]
    rw [if_pos hC]
    obtain ⟨_, hc, h4, h32⟩ := hC
    have hb : (false || !decide (bits .and .i64 (n2 s 2) 240 = 0) || decide (4 < n2 s 4) || decide (32 < n2 s 6) || decide (32 < n2 s 8) || decide (33 < n2 s 10)) = false := by
      rw [decide_eq_true hc, decide_eq_false (by omega), decide_eq_false (by omega), decide_eq_false (by omega), decide_eq_false (by omega)]; rfl
    rw [hb]
    rcases lp_spec (cap := bigC) (imp_rAsk s) (n2 s 4).toNat [] 12 (by omega) with ⟨qs, p1, q1, q2, q3, q4⟩ | ⟨q1, q2⟩ | ⟨q1, q2⟩
    rotate_left
    · rw [q2, lp_bad q1, lp_bad q1, adR_stop q1, if_pos (.inl q1)]; rfl
    · exfalso; simp only [bigC, List.length_nil] at q2; omega
    rw [q2, q1, Option.bind_some]
    dsimp only
    rcases lp_spec (cap := bigC) (imp_rRec s) (n2 s 6).toNat [] p1 q4 with ⟨an, p2, a1, a2, a3, a4⟩ | ⟨a1, a2⟩ | ⟨a1, a2⟩
    rotate_left
    · rw [a2, lp_bad a1, adR_stop a1, if_pos (.inl a1)]; rfl
    · exfalso; simp only [bigC, List.length_nil] at a2; omega
    rw [a2, a1, Option.bind_some]
    dsimp only
    rcases lp_spec (cap := bigC) (imp_rRec s) (n2 s 8).toNat [] p2 a4 with ⟨se, p3, b1, b2, b3, b4⟩ | ⟨b1, b2⟩ | ⟨b1, b2⟩
    rotate_left
    · rw [b2, adR_stop b1, if_pos (.inl b1)]; rfl
    · exfalso; simp only [bigC, List.length_nil] at b2; omega
    rw [b2, b1, Option.bind_some]
    dsimp only
    rcases adR_spec (s := s) (n2 s 10).toNat [] 0 p3 b4 (.inl rfl) with ⟨ad, z, p4, c1, c2⟩ | ⟨c1, c2⟩
    · rw [c2, c1, Option.map_some]
      simp only [List.nil_append]
      by_cases hf : p4 = s.length ∧ dnMay (hdD (n2 s 2) (n2 s 0) qs an se ad z) = true
      · rw [if_pos hf, if_neg (by rintro (h | h | h); cases h; exact h hf.1; rw [hf.2] at h; cases h)]
      · rw [if_neg hf, if_pos]
        by_cases h1 : p4 = s.length
        · exact .inr (.inr (Bool.eq_false_iff.2 fun h => hf ⟨h1, h⟩))
        · exact .inr (.inl h1)
    · rw [c2, if_pos (.inl c1)]; rfl
end Go.Proofs.YtfmdaijkgjkmpaaGreatDoor
