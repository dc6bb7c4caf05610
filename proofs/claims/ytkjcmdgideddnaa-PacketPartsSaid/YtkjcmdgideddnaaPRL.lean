/- Plain laws (PRL): lists and numbers alone. No condition. -/
import Derived.Test.YtkjcmdgideddnaaPTak
set_option linter.unusedVariables false
set_option linter.unusedSimpArgs false
namespace Go.Proofs.Ytkjcmdgideddnaa
set_option linter.unusedSimpArgs false
/-! records: what is written comes back -/
theorem slc_mid (a b c : List UInt8) {i j : Int} (hi : i = a.length) (hj : j = (a.length : Int) + b.length) : slc (a ++ b ++ c) i j = b := by
  have e1 : i.toNat = a.length := by omega
  have e2 : j.toNat = (a ++ b).length := by rw [List.length_append]; omega
  rw [slc, e2, List.take_left, e1, List.drop_left]
theorem slcM {s : List UInt8} {i j : Int} (z : List UInt8) (h : j ≤ s.length) : slc (s ++ z) i j = slc s i j := by
  unfold slc; rw [List.take_append_of_le_length (by omega)]
theorem may_parts {r : RR} (h : rrMay r = true) : rrBody r = true ∧ nmMay r.name = true ∧ 0 ≤ r.ttl ∧ r.ttl ≤ 1048576 := by
  simp only [rrMay, Bool.and_eq_true, decide_eq_true_eq] at h
  exact ⟨h.1.1.1, h.1.1.2, h.1.2, h.2⟩
theorem body_type {r : RR} (h : rrBody r = true) : 0 ≤ r.type ∧ r.type < 50 := by
  unfold rrBody isName at h
  split at h
  · omega
  split at h
  · rename_i h2; simp only [Bool.or_eq_true, decide_eq_true_eq] at h2; omega
  split at h
  · omega
  split at h
  · omega
  · cases h
theorem putName_zero {at_ : Int} {ks : List Kn} {nm t : List UInt8} {ks' : List Kn} (h : putName at_ ks nm = some (t, ks')) : (nmPut at_ ks nm).2.2 = 0 ∧ (nmPut at_ ks nm).1 = t ∧ (nmPut at_ ks nm).2.1 = ks' := by
  unfold nmPut; rw [h]; exact ⟨rfl, rfl, rfl⟩
theorem put_back {s : List UInt8} {ks ks' : List Kn} {nm t : List UInt8} {p : Int} (hp : p = s.length) (hg : Good s ks) (h : putName p ks nm = some (t, ks')) :
    (∀ z, getName (s ++ t ++ z) p = .ok nm ((s.length : Int) + t.length)) ∧ Good (s ++ t) ks' ∧ (∃ added, ks' = ks ++ added) ∧ t.length ≤ 74 := by
  subst hp
  obtain ⟨h0, rfl, rfl⟩ := putName_zero h
  have hb := name_back hg h0
  refine ⟨fun z => ?_, (hb []).2.1, (hb []).2.2, (nmPut_more _ _ _).1⟩
  rw [(hb z).1]; simp
theorem word_iff {x : Int} (h : word x = true) : 0 ≤ x ∧ x < 256 ^ 4 := by
  simp only [word, Bool.and_eq_true, decide_eq_true_eq] at h
  have : (256 : Int) ^ 4 = 4294967296 := by decide
  omega
theorem data_back {u : List UInt8} {ks k2 : List Kn} {r : RR} {d : List UInt8} {p : Int} (hp : p = u.length) (hg : Good u ks) (hm : rrBody r = true) (h : dataPut p ks r = some (d, k2)) :
    d.length ≤ 1000 ∧ (∀ z, dataG (u ++ d ++ z) ⟨r.name, r.type, r.ttl, 0, [], [], 0⟩ p d.length = some r) ∧ Good (u ++ d) k2 ∧ ∃ added, k2 = ks ++ added := by
  subst hp
  have keep : ∀ x : List UInt8, Good (u ++ x) ks ∧ ∃ added, ks = ks ++ added := fun x => ⟨hg.more x, [], by simp⟩
  obtain ⟨nm, ty, ttl, ad, tg, tx, se⟩ := r
  dsimp only at *
  by_cases t1 : ty = 1
  · rw [dataPut, if_pos t1] at h
    simp only [Option.some.injEq, Prod.mk.injEq] at h
    obtain ⟨rfl, rfl⟩ := h
    simp only [rrBody, t1, if_true, Bool.and_eq_true, decide_eq_true_eq] at hm
    obtain ⟨⟨⟨rfl, rfl⟩, rfl⟩, hw⟩ := hm
    have hw := word_iff hw
    refine ⟨by simp, fun z => ?_, keep _⟩
    rw [dataG, if_pos t1]
    dsimp only
    rw [if_pos (by simp), slc_mid u (beb ad 4) z rfl (by simp), numI_beb 4 ad hw.1 hw.2]
  by_cases t2 : isName ty = true
  · have t6 : ty ≠ 6 := by rintro rfl; exact absurd t2 (by decide)
    have t16 : ty ≠ 16 := by rintro rfl; exact absurd t2 (by decide)
    have t49 : ty ≠ 49 := by rintro rfl; exact absurd t2 (by decide)
    rw [dataPut, if_neg t1, if_neg t6, if_neg t16, if_neg t49] at h
    simp only [rrBody, t1, t2, if_true, if_false, Bool.and_eq_true, decide_eq_true_eq] at hm
    obtain ⟨⟨⟨rfl, rfl⟩, rfl⟩, hw⟩ := hm
    obtain ⟨b1, b2, b3, b4⟩ := put_back rfl hg h
    refine ⟨by omega, fun z => ?_, b2, b3⟩
    rw [dataG, if_neg t1, if_pos t2, b1 z]
    simp [grE, grT, grN]
  by_cases t6 : ty = 6
  · rw [dataPut, if_neg t1, if_pos t6] at h
    simp only [rrBody, t1, t2, t6, if_true, if_false, Bool.and_eq_true, decide_eq_true_eq, Bool.false_eq_true] at hm
    simp only [show ¬ ((6 : Int) = 1) by decide, show isName 6 = false by decide, if_false, Bool.false_eq_true, Bool.and_eq_true, decide_eq_true_eq] at hm
    obtain ⟨⟨⟨rfl, rfl⟩, hw⟩, hs⟩ := hm
    have hs := word_iff hs
    dsimp only at h
    cases hy : putName u.length ks tg with
    | none => rw [hy] at h; cases h
    | some y =>
      rw [hy, Option.bind_some] at h
      obtain ⟨y1, y2⟩ := y
      dsimp only at h
      cases hz : putName ((u.length : Int) + y1.length) y2 tg with
      | none => rw [hz] at h; cases h
      | some q =>
        rw [hz] at h
        obtain ⟨q1, q2⟩ := q
        simp only [Option.map_some, Option.some.injEq, Prod.mk.injEq] at h
        obtain ⟨rfl, rfl⟩ := h
        obtain ⟨b1, b2, ⟨ad1, b3⟩, b4⟩ := put_back rfl hg hy
        obtain ⟨c1, c2, ⟨ad2, c3⟩, c4⟩ := put_back (s := u ++ y1) (by rw [List.length_append]; omega) b2 hz
        have hst : soaTail.length = 16 := by rw [soaTail_tims]; rfl
        refine ⟨by simp only [List.length_append, beb_len, hst]; omega, fun z => ?_, ?_, ?_⟩
        · have e1 : u ++ (y1 ++ q1 ++ beb se 4 ++ soaTail) ++ z = u ++ y1 ++ (q1 ++ beb se 4 ++ soaTail ++ z) := by simp
          have e2 : u ++ (y1 ++ q1 ++ beb se 4 ++ soaTail) ++ z = (u ++ y1) ++ q1 ++ (beb se 4 ++ soaTail ++ z) := by simp
          have e3 : u ++ (y1 ++ q1 ++ beb se 4 ++ soaTail) ++ z = (u ++ y1 ++ q1) ++ beb se 4 ++ (soaTail ++ z) := by simp
          have e4 : u ++ (y1 ++ q1 ++ beb se 4 ++ soaTail) ++ z = (u ++ y1 ++ q1 ++ beb se 4) ++ soaTail ++ z := by simp
          have g1 := b1 (q1 ++ beb se 4 ++ soaTail ++ z)
          rw [← e1] at g1
          have g2 := c1 (beb se 4 ++ soaTail ++ z)
          rw [← e2] at g2
          have el : ((u ++ y1).length : Int) + q1.length = (u.length : Int) + y1.length + q1.length := by rw [List.length_append]; omega
          rw [el] at g2
          rw [dataG, if_neg t1, if_neg t2, if_pos t6]
          simp only [g1, g2, grE, grT, grN]
          have s1 : slc (u ++ (y1 ++ q1 ++ beb se 4 ++ soaTail) ++ z) ((u.length : Int) + y1.length + q1.length) ((u.length : Int) + y1.length + q1.length + 4) = beb se 4 := by
            rw [e3]; exact slc_mid _ _ _ (by simp only [List.length_append]; omega) (by simp only [List.length_append, beb_len]; omega)
          have s2 : slc (u ++ (y1 ++ q1 ++ beb se 4 ++ soaTail) ++ z) ((u.length : Int) + y1.length + q1.length + 4) ((u.length : Int) + ((y1 ++ q1 ++ beb se 4 ++ soaTail).length : Int)) = soaTail := by
            rw [e4]; exact slc_mid _ _ _ (by simp only [List.length_append, beb_len]; omega) (by simp only [List.length_append, beb_len]; omega)
          rw [s1, s2, if_pos ⟨trivial, trivial, trivial, by simp only [List.length_append, beb_len, hst]; omega, rfl⟩, numI_beb 4 se hs.1 hs.2]
        · have := c2.more (beb se 4 ++ soaTail)
          have e : u ++ (y1 ++ q1 ++ beb se 4 ++ soaTail) = u ++ y1 ++ q1 ++ (beb se 4 ++ soaTail) := by simp
          rw [e]; exact this
        · exact ⟨ad1 ++ ad2, by rw [c3, b3, List.append_assoc]⟩
  by_cases t16 : ty = 16
  · rw [dataPut, if_neg t1, if_neg t6, if_pos t16] at h
    simp only [Option.some.injEq, Prod.mk.injEq] at h
    obtain ⟨rfl, rfl⟩ := h
    simp only [rrBody, t1, t2, t6, t16, if_true, if_false, Bool.and_eq_true, decide_eq_true_eq, Bool.false_eq_true, true_or] at hm
    simp only [show ¬ ((16 : Int) = 1) by decide, show ¬ ((16 : Int) = 6) by decide, show isName 16 = false by decide, if_false, Bool.false_eq_true, Bool.and_eq_true, decide_eq_true_eq] at hm
    obtain ⟨⟨⟨rfl, rfl⟩, rfl⟩, hw⟩ := hm
    refine ⟨by simp only [List.length_cons]; omega, fun z => ?_, keep _⟩
    have e1 : u ++ UInt8.ofNat tx.length :: tx ++ z = u ++ [UInt8.ofNat tx.length] ++ (tx ++ z) := by simp
    have e2 : u ++ UInt8.ofNat tx.length :: tx ++ z = (u ++ [UInt8.ofNat tx.length]) ++ tx ++ z := by simp
    have s1 : slc (u ++ UInt8.ofNat tx.length :: tx ++ z) u.length ((u.length : Int) + 1) = [UInt8.ofNat tx.length] := by
      rw [e1]; exact slc_mid _ _ _ rfl (by simp)
    have s2 : slc (u ++ UInt8.ofNat tx.length :: tx ++ z) ((u.length : Int) + 1) ((u.length : Int) + ((UInt8.ofNat tx.length :: tx).length : Int)) = tx := by
      rw [e2]; exact slc_mid _ _ _ (by simp) (by simp only [List.length_append, List.length_cons, List.length_nil]; omega)
    have hb : ((UInt8.ofNat tx.length).toNat : Int) = tx.length := by simp; omega
    rw [dataG, if_neg t1, if_neg t2, if_neg t6, if_pos t16, s1, s2, numI_one, hb, if_pos (by simp only [List.length_cons]; omega)]
  by_cases t49 : ty = 49
  · rw [dataPut, if_neg t1, if_neg t6, if_neg t16, if_pos t49] at h
    simp only [Option.some.injEq, Prod.mk.injEq] at h
    obtain ⟨rfl, rfl⟩ := h
    simp only [rrBody, t1, t2, t6, t49, if_true, if_false, Bool.and_eq_true, decide_eq_true_eq, Bool.false_eq_true, or_true] at hm
    simp only [show ¬ ((49 : Int) = 1) by decide, show ¬ ((49 : Int) = 6) by decide, show isName 49 = false by decide, if_false, Bool.false_eq_true, Bool.and_eq_true, decide_eq_true_eq] at hm
    obtain ⟨⟨⟨rfl, rfl⟩, rfl⟩, hw⟩ := hm
    refine ⟨by omega, fun z => ?_, keep _⟩
    rw [dataG, if_neg t1, if_neg t2, if_neg t6, if_neg t16, slc_mid u tx z rfl rfl]
  · simp only [rrBody, t1, t2, t6, t16, t49, if_false, Bool.false_eq_true, or_self] at hm
theorem put_more' {p : Int} {ks : List Kn} {r : RR} {t : List UInt8} {ks' : List Kn} (h : putRr p ks r = some (t, ks')) :
    rrMay r = true ∧ ∃ x1 x2 d, putName p ks r.name = some (x1, x2) ∧ dataPut (p + x1.length + 10) x2 r = some (d, ks') ∧ t = x1 ++ beb r.type 2 ++ beb 1 2 ++ beb r.ttl 4 ++ beb d.length 2 ++ d := by
  unfold putRr at h
  split at h
  · rename_i hm
    refine ⟨hm, ?_⟩
    cases hx : putName p ks r.name with
    | none => rw [hx] at h; cases h
    | some x =>
      rw [hx, Option.bind_some] at h
      cases hd : dataPut (p + x.1.length + 10) x.2 r with
      | none => rw [hd] at h; cases h
      | some d =>
        rw [hd] at h
        simp only [Option.map_some, Option.some.injEq, Prod.mk.injEq] at h
        obtain ⟨rfl, rfl⟩ := h
        exact ⟨x.1, x.2, d.1, rfl, by rw [hd], rfl⟩
  · cases h
/-- a record comes back -/
theorem rr_back {s : List UInt8} {ks ks' : List Kn} {r : RR} {t : List UInt8} (hg : Good s ks) (h : putRr s.length ks r = some (t, ks')) :
    (∀ z, gR (s ++ t ++ z) s.length = some (r, (s.length : Int) + t.length)) ∧ Good (s ++ t) ks' ∧ (∃ added, ks' = ks ++ added) ∧ t.length ≤ 1084 ∧ 0 < t.length := by
  obtain ⟨hm, x1, x2, d, hx, hd, rfl⟩ := put_more' h
  obtain ⟨hbo, hnm, hl0, hl1⟩ := may_parts hm
  have hty := body_type hbo
  obtain ⟨b1, b2, ⟨ad1, b3⟩, b4⟩ := put_back rfl hg hx
  have hu : ((s ++ x1 ++ (beb r.type 2 ++ beb 1 2 ++ beb r.ttl 4 ++ beb d.length 2)).length : Int) = (s.length : Int) + x1.length + 10 := by simp only [List.length_append, beb_len]; omega
  obtain ⟨c1, c2, c3, ⟨ad2, c4⟩⟩ := data_back (u := s ++ x1 ++ (beb r.type 2 ++ beb 1 2 ++ beb r.ttl 4 ++ beb d.length 2)) hu.symm (b2.more _) hbo hd
  have htl : (x1 ++ beb r.type 2 ++ beb 1 2 ++ beb r.ttl 4 ++ beb d.length 2 ++ d).length = x1.length + 10 + d.length := by simp only [List.length_append, beb_len]
  refine ⟨fun z => ?_, ?_, ⟨ad1 ++ ad2, by rw [c4, b3, List.append_assoc]⟩, by rw [htl]; omega, by rw [htl]; omega⟩
  · have e0 : s ++ (x1 ++ beb r.type 2 ++ beb 1 2 ++ beb r.ttl 4 ++ beb d.length 2 ++ d) ++ z = s ++ x1 ++ (beb r.type 2 ++ beb 1 2 ++ beb r.ttl 4 ++ beb d.length 2 ++ d ++ z) := by simp
    have e1 : s ++ (x1 ++ beb r.type 2 ++ beb 1 2 ++ beb r.ttl 4 ++ beb d.length 2 ++ d) ++ z = (s ++ x1) ++ beb r.type 2 ++ (beb 1 2 ++ beb r.ttl 4 ++ beb d.length 2 ++ d ++ z) := by simp
    have e2 : s ++ (x1 ++ beb r.type 2 ++ beb 1 2 ++ beb r.ttl 4 ++ beb d.length 2 ++ d) ++ z = (s ++ x1 ++ beb r.type 2) ++ beb 1 2 ++ (beb r.ttl 4 ++ beb d.length 2 ++ d ++ z) := by simp
    have e3 : s ++ (x1 ++ beb r.type 2 ++ beb 1 2 ++ beb r.ttl 4 ++ beb d.length 2 ++ d) ++ z = (s ++ x1 ++ beb r.type 2 ++ beb 1 2) ++ beb r.ttl 4 ++ (beb d.length 2 ++ d ++ z) := by simp
    have e4 : s ++ (x1 ++ beb r.type 2 ++ beb 1 2 ++ beb r.ttl 4 ++ beb d.length 2 ++ d) ++ z = (s ++ x1 ++ beb r.type 2 ++ beb 1 2 ++ beb r.ttl 4) ++ beb d.length 2 ++ (d ++ z) := by simp
    have e5 : s ++ (x1 ++ beb r.type 2 ++ beb 1 2 ++ beb r.ttl 4 ++ beb d.length 2 ++ d) ++ z = (s ++ x1 ++ (beb r.type 2 ++ beb 1 2 ++ beb r.ttl 4 ++ beb d.length 2)) ++ d ++ z := by simp
    have g0 := b1 (beb r.type 2 ++ beb 1 2 ++ beb r.ttl 4 ++ beb d.length 2 ++ d ++ z)
    rw [← e0] at g0
    have g5 := c2 z
    rw [← e5] at g5
    generalize hT : s ++ (x1 ++ beb r.type 2 ++ beb 1 2 ++ beb r.ttl 4 ++ beb d.length 2 ++ d) ++ z = T at *
    have hTl : (s.length : Int) + x1.length + 10 + d.length ≤ T.length := by rw [← hT]; simp only [List.length_append, beb_len]; omega
    have p2 : (256 : Int) ^ 2 = 65536 := by decide
    have p4 : (256 : Int) ^ 4 = 4294967296 := by decide
    have s1 : slc T ((s.length : Int) + x1.length) ((s.length : Int) + x1.length + 2) = beb r.type 2 := by rw [e1]; exact slc_mid _ _ _ (by simp only [List.length_append]; omega) (by simp only [List.length_append, beb_len]; omega)
    have s2 : slc T ((s.length : Int) + x1.length + 2) ((s.length : Int) + x1.length + 4) = beb 1 2 := by rw [e2]; exact slc_mid _ _ _ (by simp only [List.length_append, beb_len]; omega) (by simp only [List.length_append, beb_len]; omega)
    have s3 : slc T ((s.length : Int) + x1.length + 4) ((s.length : Int) + x1.length + 8) = beb r.ttl 4 := by rw [e3]; exact slc_mid _ _ _ (by simp only [List.length_append, beb_len]; omega) (by simp only [List.length_append, beb_len]; omega)
    have s4 : slc T ((s.length : Int) + x1.length + 8) ((s.length : Int) + x1.length + 10) = beb d.length 2 := by rw [e4]; exact slc_mid _ _ _ (by simp only [List.length_append, beb_len]; omega) (by simp only [List.length_append, beb_len]; omega)
    have hsz : sizeG T ((s.length : Int) + x1.length) = d.length := by rw [sizeG, s4]; exact numI_beb 2 _ (by omega) (by omega)
    have hhd : headG T ((s.length : Int) + x1.length) r.name = ⟨r.name, r.type, r.ttl, 0, [], [], 0⟩ := by
      rw [headG, s1, s3, numI_beb 2 _ hty.1 (by omega), numI_beb 4 _ hl0 (by omega)]
    unfold gR
    rw [g0]
    dsimp only
    rw [hsz, s2, hhd, g5, if_pos ⟨by omega, numI_beb 2 1 (by decide) (by decide), hTl⟩, Option.bind_some, if_pos hm, htl]
    congr 2; omega
  · have e : s ++ (x1 ++ beb r.type 2 ++ beb 1 2 ++ beb r.ttl 4 ++ beb d.length 2 ++ d) = s ++ x1 ++ (beb r.type 2 ++ beb 1 2 ++ beb r.ttl 4 ++ beb d.length 2) ++ d := by simp
    rw [e]; exact c3
theorem gr_more {s : List UInt8} {p : Int} (z : List UInt8) (h : grE (getName s p) = 0) : getName (s ++ z) p = getName s p := by
  have := getName_more (gr_ok h) z; rw [this, ← gr_ok h]
theorem dataG_more {s : List UInt8} {r r' : RR} {p k : Int} (z : List UInt8) (h : dataG s r p k = some r') (hl : p + k ≤ s.length) : dataG (s ++ z) r p k = some r' := by
  by_cases t1 : r.type = 1
  · rw [dataG, if_pos t1] at h ⊢
    split at h
    · rename_i hk; rw [if_pos hk, slcM z (by omega)]; exact h
    · cases h
  by_cases t2 : isName r.type = true
  · rw [dataG, if_neg t1, if_pos t2] at h ⊢
    split at h
    · rename_i hk; rw [gr_more z hk.1, if_pos hk]; exact h
    · cases h
  by_cases t6 : r.type = 6
  · rw [dataG, if_neg t1, if_neg t2, if_pos t6] at h ⊢
    split at h
    · rename_i hk
      rw [gr_more z hk.1, gr_more z hk.2.1, slcM z (by omega), slcM z (by omega), if_pos hk]; exact h
    · cases h
  by_cases t16 : r.type = 16
  · rw [dataG, if_neg t1, if_neg t2, if_neg t6, if_pos t16] at h ⊢
    split at h
    · rename_i hk; rw [slcM z (by omega), slcM z (by omega), if_pos hk]; exact h
    · cases h
  · rw [dataG, if_neg t1, if_neg t2, if_neg t6, if_neg t16] at h ⊢
    rw [slcM z hl]; exact h
theorem gR_more {s : List UInt8} {p : Int} {r : RR} {to : Int} (h : gR s p = some (r, to)) (z : List UInt8) : gR (s ++ z) p = some (r, to) ∧ to ≤ s.length := by
  unfold gR at h
  cases hg : getName s p with
  | err e => rw [hg] at h; cases h
  | ok nm t0 =>
    rw [hg] at h
    dsimp only at h
    split at h
    · rename_i hc
      obtain ⟨c1, c2, c3⟩ := hc
      have hr := getName_rng hg
      have h1 : sizeG (s ++ z) t0 = sizeG s t0 := by unfold sizeG; rw [slcM z (by omega)]
      have h2 : headG (s ++ z) t0 nm = headG s t0 nm := by unfold headG; rw [slcM z (by omega), slcM z (by omega)]
      have h3 : slc (s ++ z) (t0 + 2) (t0 + 4) = slc s (t0 + 2) (t0 + 4) := slcM z (by omega)
      cases hd : dataG s (headG s t0 nm) (t0 + 10) (sizeG s t0) with
      | none => rw [hd] at h; cases h
      | some r' =>
        rw [hd, Option.bind_some] at h
        unfold gR
        rw [getName_more hg z]
        dsimp only
        rw [h1, h2, h3, dataG_more z hd c3, if_pos ⟨by rw [List.length_append]; omega, c2, by rw [List.length_append]; omega⟩, Option.bind_some]
        refine ⟨h, ?_⟩
        split at h
        · simp only [Option.some.injEq, Prod.mk.injEq] at h; omega
        · cases h
    · cases h
theorem rrPut_zero {p : Int} {ks : List Kn} {r : RR} (h : (rrPut p ks r).2.2 = 0) : putRr p ks r = some ((rrPut p ks r).1, (rrPut p ks r).2.1) := by
  unfold rrPut at h ⊢
  cases hp : putRr p ks r with
  | none => rw [hp] at h; cases h
  | some x => rfl
theorem rrPut_non {p : Int} {ks : List Kn} {r : RR} (h : (rrPut p ks r).2.2 ≠ 0) : rrPut p ks r = ([], [], 400) := by
  unfold rrPut at h ⊢
  cases hp : putRr p ks r with
  | none => rfl
  | some x => rw [hp] at h; exact absurd rfl h
theorem rrGet_some {s : List UInt8} {p : Int} {r : RR} {to : Int} (h : gR s p = some (r, to)) : rrGet s p = (r, to, 0) := by rw [rrGet, h]
/-- a record whose bytes are cut is none -/
theorem rr_cut {r : RR} (h : (rrPut 0 [] r).2.2 = 0) {k : Nat} (hk : k < (rrPut 0 [] r).1.length) : rrGet ((rrPut 0 [] r).1.take k) 0 = (noR, 0, 400) := by
  have hb := rr_back (s := []) (Good.nil []) (rrPut_zero h)
  cases hg : gR ((rrPut 0 [] r).1.take k) 0 with
  | none => rw [rrGet, hg]
  | some x =>
    obtain ⟨r', to⟩ := x
    have hm := gR_more hg ((rrPut 0 [] r).1.drop k)
    rw [List.take_append_drop] at hm
    have := hb.1 []
    simp only [List.nil_append, List.append_nil, List.length_nil, Int.natCast_zero, Int.zero_add] at this
    rw [this] at hm
    simp only [Option.some.injEq, Prod.mk.injEq, List.length_take] at hm
    omega
theorem rr_more {r : RR} (h : (rrPut 0 [] r).2.2 = 0) (z : List UInt8) : rrGet ((rrPut 0 [] r).1 ++ z) 0 = (r, ((rrPut 0 [] r).1.length : Int), 0) := by
  have hb := (rr_back (s := []) (Good.nil []) (rrPut_zero h)).1 z
  simp only [List.nil_append, List.length_nil, Int.natCast_zero, Int.zero_add] at hb
  exact rrGet_some hb
theorem rr_unlike {a b : RR} (ha : (rrPut 0 [] a).2.2 = 0) (hb : (rrPut 0 [] b).2.2 = 0) : decide ((rrPut 0 [] a).1 = (rrPut 0 [] b).1) = decide (a = b) := by
  have h1 := rr_more ha []
  have h2 := rr_more hb []
  rw [List.append_nil] at h1 h2
  by_cases e : a = b
  · subst e; simp
  · rw [decide_eq_false e, decide_eq_false]
    intro h
    rw [h] at h1
    rw [h1] at h2
    simp only [Prod.mk.injEq] at h2
    exact e h2.1
theorem knOk_put {p : Int} {ks ks' : List Kn} {nm t : List UInt8} (h : putName p ks nm = some (t, ks')) : ks.all knOk = true := by
  have := (nmPut_zero (putName_zero h).1).1
  simp only [Bool.and_eq_true] at this
  exact this.1.1.1
theorem putName_some {p : Int} {ks : List Kn} {nm : List UInt8} (h1 : ks.all knOk = true) (h2 : 0 ≤ p) (h3 : p ≤ 65535) (h4 : nmMay nm = true) : ∃ x, putName p ks nm = some x := by
  unfold putName
  rw [if_pos (by rw [h1, h4, decide_eq_true h2, decide_eq_true h3]; rfl)]
  exact ⟨_, rfl⟩
/-- a record that may be is written -/
theorem rr_puts {s : List UInt8} {ks : List Kn} {r : RR} (hg : Good s ks) (hs : s.length ≤ 60000) (hm : rrMay r = true) : ∃ x, putRr s.length ks r = some x := by
  obtain ⟨hbo, hnm, hl0, hl1⟩ := may_parts hm
  obtain ⟨⟨x1, x2⟩, hx⟩ := putName_some hg.all (show 0 ≤ (s.length : Int) by omega) (by omega) hnm
  obtain ⟨b1, b2, ⟨ad1, b3⟩, b4⟩ := put_back rfl hg hx
  unfold putRr
  rw [if_pos hm, hx, Option.bind_some]
  suffices ∃ y, dataPut ((s.length : Int) + x1.length + 10) x2 r = some y by
    obtain ⟨y, hy⟩ := this
    exact ⟨_, by dsimp only; rw [hy]; rfl⟩
  by_cases t1 : r.type = 1
  · exact ⟨_, by rw [dataPut, if_pos t1]⟩
  by_cases t2 : isName r.type = true
  · have t6 : r.type ≠ 6 := by intro h; rw [h] at t2; exact absurd t2 (by decide)
    have t16 : r.type ≠ 16 := by intro h; rw [h] at t2; exact absurd t2 (by decide)
    have t49 : r.type ≠ 49 := by intro h; rw [h] at t2; exact absurd t2 (by decide)
    have hw : nmMay r.target = true := by
      simp only [rrBody, t1, t2, if_true, if_false, Bool.and_eq_true, decide_eq_true_eq] at hbo; exact hbo.2
    rw [dataPut, if_neg t1, if_neg t6, if_neg t16, if_neg t49]
    exact putName_some b2.all (by omega) (by omega) hw
  by_cases t6 : r.type = 6
  · have hw : nmMay r.target = true := by
      simp only [rrBody, t1, t2, t6, if_true, if_false, Bool.false_eq_true, Bool.and_eq_true, decide_eq_true_eq] at hbo
      simp only [show ¬ ((6 : Int) = 1) by decide, show isName 6 = false by decide, if_false, Bool.false_eq_true, Bool.and_eq_true, decide_eq_true_eq] at hbo
      exact hbo.1.2
    obtain ⟨⟨y1, y2⟩, hy⟩ := putName_some b2.all (show 0 ≤ (s.length : Int) + x1.length + 10 by omega) (by omega) hw
    have hu : (s.length : Int) + x1.length + 10 = (s ++ x1 ++ List.replicate 10 0).length := by simp only [List.length_append, List.length_replicate]; omega
    obtain ⟨c1, c2, _, c4⟩ := put_back (s := s ++ x1 ++ List.replicate 10 0) hu (b2.more _) hy
    obtain ⟨⟨z1, z2⟩, hz⟩ := putName_some c2.all (show 0 ≤ (s.length : Int) + x1.length + 10 + y1.length by omega) (by omega) hw
    exact ⟨_, by rw [dataPut, if_neg t1, if_pos t6, hy, Option.bind_some]; dsimp only; rw [hz]; rfl⟩
  by_cases t16 : r.type = 16
  · exact ⟨_, by rw [dataPut, if_neg t1, if_neg t6, if_pos t16]⟩
  by_cases t49 : r.type = 49
  · exact ⟨_, by rw [dataPut, if_neg t1, if_neg t6, if_neg t16, if_pos t49]⟩
  · simp only [rrBody, t1, t2, t6, t16, t49, if_false, Bool.false_eq_true, or_self] at hbo
/-- records one behind the other -/
def RB (s : List UInt8) (ks : List Kn) (ats : List Int) (told : List RR) : Prop := Good s ks ∧ told.length = ats.length ∧
  ∀ j, j < ats.length → (0 ≤ ats.getD j 0) ∧ ∀ z, gR (s ++ z) (ats.getD j 0) = some (told.getD j noR, if j + 1 < ats.length then ats.getD (j + 1) 0 else s.length)
theorem rb_new : RB [] [] [] [] := ⟨Good.nil _, rfl, fun j hj => absurd hj (by simp)⟩
theorem rb_put {s : List UInt8} {ks : List Kn} {ats : List Int} {told : List RR} {r : RR} (h : RB s ks ats told) (hs : s.length ≤ 60000) : decide ((rrPut s.length ks r).2.2 = 0) = rrMay r := by
  cases hm : rrMay r with
  | true =>
    obtain ⟨x, hx⟩ := rr_puts h.1 hs hm
    rw [rrPut, hx]; rfl
  | false =>
    have : putRr s.length ks r = none := by rw [putRr, if_neg (by simp [hm])]
    rw [rrPut, this]; rfl
theorem rb_pre {s : List UInt8} {ks : List Kn} {ats : List Int} {told : List RR} {r : RR} (h : RB s ks ats told) (h0 : (rrPut s.length ks r).2.2 = 0) : (rrPut s.length ks r).1.length ≤ 1084 := (rr_back h.1 (rrPut_zero h0)).2.2.2.1
theorem rb_step {s : List UInt8} {ks : List Kn} {ats : List Int} {told : List RR} {r : RR} (h : RB s ks ats told) (h0 : (rrPut s.length ks r).2.2 = 0) :
    RB (s ++ (rrPut s.length ks r).1) (rrPut s.length ks r).2.1 (ats ++ [(s.length : Int)]) (told ++ [r]) := by
  obtain ⟨hg, hl, hr⟩ := h
  obtain ⟨b1, b2, _, _⟩ := rr_back hg (rrPut_zero h0)
  refine ⟨b2, by simp [hl], fun j hj => ?_⟩
  simp only [List.length_append, List.length_cons, List.length_nil] at hj
  by_cases hlt : j < ats.length
  · have e1 : (ats ++ [(s.length : Int)]).getD j 0 = ats.getD j 0 := by rw [List.getD_eq_getElem?_getD, List.getElem?_append_left hlt, ← List.getD_eq_getElem?_getD]
    have e2 : (told ++ [r]).getD j noR = told.getD j noR := by rw [List.getD_eq_getElem?_getD, List.getElem?_append_left (by omega), ← List.getD_eq_getElem?_getD]
    rw [e1, e2]
    refine ⟨(hr j hlt).1, fun z => ?_⟩
    rw [List.append_assoc, (hr j hlt).2]
    congr 2
    by_cases h3 : j + 1 < ats.length
    · rw [if_pos h3, if_pos (by simp; omega), List.getD_eq_getElem?_getD, List.getD_eq_getElem?_getD, List.getElem?_append_left h3]
    · rw [if_neg h3, if_pos (by simp; omega), List.getD_eq_getElem?_getD, List.getElem?_append_right (by omega), show j + 1 - ats.length = 0 by omega]; rfl
  · have ej : j = ats.length := by omega
    subst ej
    have e1 : (ats ++ [(s.length : Int)]).getD ats.length 0 = s.length := by rw [List.getD_eq_getElem?_getD, List.getElem?_append_right (by omega), Nat.sub_self]; rfl
    have e2 : (told ++ [r]).getD ats.length noR = r := by rw [List.getD_eq_getElem?_getD, List.getElem?_append_right (by omega), hl, Nat.sub_self]; rfl
    rw [e1, e2]
    refine ⟨by omega, fun z => ?_⟩
    rw [b1 z, if_neg (by simp)]
    simp
section
variable {at_ : Int} {ks k2 : List Kn} {r : RR} {d : List UInt8}
theorem rrPut_no (h : rrMay r = false) : rrPut at_ ks r = ([], [], 400) := by
  rw [rrPut, putRr, if_neg (by simp [h])]
theorem rrPut_bad (hx : (nmPut at_ ks r.name).2.2 ≠ 0) : rrPut at_ ks r = ([], [], 400) := by
  by_cases hm : rrMay r = true
  · rw [rrPut, putRr, if_pos hm, nmPut_putName, if_neg hx]; rfl
  · exact rrPut_no (Bool.eq_false_iff.2 hm)
theorem rrPut_d (hm : rrMay r = true) (hx : (nmPut at_ ks r.name).2.2 = 0) (hd : dataPut (at_ + (nmPut at_ ks r.name).1.length + 10) (nmPut at_ ks r.name).2.1 r = some (d, k2)) :
    rrPut at_ ks r = ((nmPut at_ ks r.name).1 ++ beb r.type 2 ++ beb 1 2 ++ beb r.ttl 4 ++ beb d.length 2 ++ d, k2, 0) := by
  rw [rrPut, putRr, if_pos hm, nmPut_putName, if_pos hx, Option.bind_some]
  dsimp only
  rw [hd]; rfl
theorem rrPut_n (hm : rrMay r = true) (hx : (nmPut at_ ks r.name).2.2 = 0) (hd : dataPut (at_ + (nmPut at_ ks r.name).1.length + 10) (nmPut at_ ks r.name).2.1 r = none) : rrPut at_ ks r = ([], [], 400) := by
  rw [rrPut, putRr, if_pos hm, nmPut_putName, if_pos hx, Option.bind_some]
  dsimp only
  rw [hd]; rfl
theorem dP_1 (h : r.type = 1) : dataPut at_ ks r = some (beb r.addr 4, ks) := by rw [dataPut, if_pos h]
theorem dP_n (h : r.type = 2 ∨ r.type = 5 ∨ r.type = 12) : dataPut at_ ks r = if (nmPut at_ ks r.target).2.2 = 0 then some ((nmPut at_ ks r.target).1, (nmPut at_ ks r.target).2.1) else none := by
  rw [dataPut, if_neg (by omega), if_neg (by omega), if_neg (by omega), if_neg (by omega), nmPut_putName]
theorem dP_16 (h : r.type = 16) : dataPut at_ ks r = some (UInt8.ofNat r.text.length :: r.text, ks) := by rw [dataPut, if_neg (by omega), if_neg (by omega), if_pos h]
theorem dP_49 (h : r.type = 49) : dataPut at_ ks r = some (r.text, ks) := by rw [dataPut, if_neg (by omega), if_neg (by omega), if_neg (by omega), if_pos h]
theorem dP_6 (h : r.type = 6) (h1 : (nmPut at_ ks r.target).2.2 = 0) (h2 : (nmPut (at_ + (nmPut at_ ks r.target).1.length) (nmPut at_ ks r.target).2.1 r.target).2.2 = 0) :
    dataPut at_ ks r = some ((nmPut at_ ks r.target).1 ++ (nmPut (at_ + (nmPut at_ ks r.target).1.length) (nmPut at_ ks r.target).2.1 r.target).1 ++ beb r.serial 4 ++ soaTail, (nmPut (at_ + (nmPut at_ ks r.target).1.length) (nmPut at_ ks r.target).2.1 r.target).2.1) := by
  rw [dataPut, if_neg (by omega), if_pos h, nmPut_putName, if_pos h1, Option.bind_some]
  dsimp only
  rw [nmPut_putName, if_pos h2]; rfl
theorem dP_6a (h : r.type = 6) (h1 : (nmPut at_ ks r.target).2.2 ≠ 0) : dataPut at_ ks r = none := by
  rw [dataPut, if_neg (by omega), if_pos h, nmPut_putName, if_neg h1]; rfl
theorem dP_6b (h : r.type = 6) (h1 : (nmPut at_ ks r.target).2.2 = 0) (h2 : (nmPut (at_ + (nmPut at_ ks r.target).1.length) (nmPut at_ ks r.target).2.1 r.target).2.2 ≠ 0) : dataPut at_ ks r = none := by
  rw [dataPut, if_neg (by omega), if_pos h, nmPut_putName, if_pos h1, Option.bind_some]
  dsimp only
  rw [nmPut_putName, if_neg h2]; rfl
theorem may_type (h : rrMay r = true) : r.type = 1 ∨ r.type = 2 ∨ r.type = 5 ∨ r.type = 12 ∨ r.type = 6 ∨ r.type = 16 ∨ r.type = 49 := by
  have hb := (may_parts h).1
  unfold rrBody isName at hb
  split at hb
  · omega
  split at hb
  · rename_i h2; simp only [Bool.or_eq_true, decide_eq_true_eq] at h2; omega
  split at hb
  · omega
  split at hb
  · omega
  · cases hb
end
theorem may_text {r : RR} (h : rrMay r = true) : r.text.length ≤ 64 := by
  have hb := (may_parts h).1
  simp only [rrBody] at hb
  split at hb
  · simp only [Bool.and_eq_true, decide_eq_true_eq] at hb; rw [hb.1.1.2]; simp
  split at hb
  · simp only [Bool.and_eq_true, decide_eq_true_eq] at hb; rw [hb.1.1.2]; simp
  split at hb
  · simp only [Bool.and_eq_true, decide_eq_true_eq] at hb; rw [hb.1.1.2]; simp
  split at hb
  · simp only [Bool.and_eq_true, decide_eq_true_eq] at hb; exact hb.2
  · cases hb
/-! the document's reading, way by way -/
section
variable {s : List UInt8} {p : Int}
theorem beG_in {k q : Int} (hk : k = 1 ∨ k = 2 ∨ k = 4) (h0 : 0 ≤ p) (hq : p + k = q) (hl : q ≤ s.length) : beG s p k = (numI (slc s p q), 0) := by
  subst hq; rw [beG, if_neg (by omega), if_neg (by omega)]
theorem rrGet_bad1 (h : grE (getName s p) ≠ 0) : rrGet s p = (noR, 0, 400) := by
  rw [rrGet, gR]
  cases hg : getName s p with
  | err e => rfl
  | ok nm to => rw [hg] at h; exact absurd rfl h
theorem gR_ok (h : grE (getName s p) = 0) : gR s p = if grT (getName s p) + 10 ≤ s.length ∧ numI (slc s (grT (getName s p) + 2) (grT (getName s p) + 4)) = 1 ∧ grT (getName s p) + 10 + sizeG s (grT (getName s p)) ≤ s.length then
      (dataG s (headG s (grT (getName s p)) (grN (getName s p))) (grT (getName s p) + 10) (sizeG s (grT (getName s p)))).bind fun r => if rrMay r = true then some (r, grT (getName s p) + 10 + sizeG s (grT (getName s p))) else none
    else none := by
  unfold gR; rw [gr_ok h]; rfl
theorem rrGet_bad2 (h : ¬ (grT (getName s p) + 10 ≤ s.length ∧ numI (slc s (grT (getName s p) + 2) (grT (getName s p) + 4)) = 1 ∧ grT (getName s p) + 10 + sizeG s (grT (getName s p)) ≤ s.length)) : rrGet s p = (noR, 0, 400) := by
  by_cases h0 : grE (getName s p) = 0
  · rw [rrGet, gR_ok h0, if_neg h]
  · exact rrGet_bad1 h0
theorem rrGet_two {C : Prop} [Decidable C] {r' : RR} {k to fr en : Int} {r0 : RR} (h0 : grE (getName s p) = 0) (hto : grT (getName s p) = to) (h1 : to + 10 ≤ s.length) (h2 : numI (slc s (to + 2) (to + 4)) = 1) (hk : sizeG s to = k) (hf : to + 10 = fr) (he : fr + k = en) (h3 : en ≤ s.length)
    (hr : headG s to (grN (getName s p)) = r0) (hd : dataG s r0 fr k = if C then some r' else none) : (¬ C ∨ rrMay r' = false → rrGet s p = (noR, 0, 400)) ∧ (C ∧ rrMay r' = true → rrGet s p = (r', en, 0)) := by
  subst hto; subst hk; subst hf; subst he; subst hr
  have hg := gR_ok h0
  rw [if_pos ⟨h1, h2, h3⟩, hd] at hg
  constructor
  · intro h
    rw [rrGet, hg]
    by_cases hc : C
    · rw [if_pos hc, Option.bind_some, if_neg (by rcases h with h | h; exact absurd hc h; simp [h])]
    · rw [if_neg hc]; rfl
  · rintro ⟨h, hm⟩
    rw [rrGet, hg, if_pos h, Option.bind_some, if_pos hm]
variable {r : RR} {k en : Int}
theorem dG_1 (ht : r.type = 1) (h0 : 0 ≤ p) (he : p + k = en) (hl : en ≤ s.length) : dataG s r p k = if k = 4 then some ⟨r.name, r.type, r.ttl, (beG s p 4).1, r.target, r.text, r.serial⟩ else none := by
  rw [dataG, if_pos ht]
  by_cases h : k = 4
  · rw [if_pos h, if_pos h, beG_in (by simp) h0 rfl (by omega)]
  · rw [if_neg h, if_neg h]
theorem gt_iff {E q : Int} (hE : E ≤ s.length) (h : grE (getName (s.take E.toNat) q) = 0) : getName s q = getName (s.take E.toNat) q ∧ grT (getName (s.take E.toNat) q) ≤ E := by
  have := (getName_take hE).1 (gr_ok h)
  exact ⟨this.1.trans (gr_ok h).symm, this.2⟩
theorem gt_to {E q : Int} (hE : E ≤ s.length) (h : grE (getName s q) = 0) (ht : grT (getName s q) ≤ E) : getName (s.take E.toNat) q = getName s q :=
  ((getName_take hE).2 ⟨gr_ok h, ht⟩).trans (gr_ok h).symm
theorem dG_n (ht : r.type = 2 ∨ r.type = 5 ∨ r.type = 12) (he : p + k = en) (hl : en ≤ s.length) : dataG s r p k = if grE (getName (s.take en.toNat) p) = 0 ∧ grT (getName (s.take en.toNat) p) = en then some ⟨r.name, r.type, r.ttl, r.addr, grN (getName (s.take en.toNat) p), r.text, r.serial⟩ else none := by
  subst he
  rw [dataG, if_neg (by omega), if_pos (by simp only [isName, Bool.or_eq_true, decide_eq_true_eq]; omega)]
  by_cases h : grE (getName (s.take (p + k).toNat) p) = 0 ∧ grT (getName (s.take (p + k).toNat) p) = p + k
  · rw [if_pos h, (gt_iff hl h.1).1, if_pos h]
  · rw [if_neg h, if_neg]
    rintro ⟨a, b⟩
    rw [gt_to hl a (by omega)] at h
    exact h ⟨a, b⟩
theorem dG_6 (ht : r.type = 6) (h0 : 0 ≤ p) (he : p + k = en) (hl : en ≤ s.length) : dataG s r p k =
    if (((grE (getName (s.take en.toNat) p) = 0 ∧ grE (getName (s.take en.toNat) (grT (getName (s.take en.toNat) p))) = 0) ∧ grN (getName (s.take en.toNat) p) = grN (getName (s.take en.toNat) (grT (getName (s.take en.toNat) p)))) ∧ grT (getName (s.take en.toNat) (grT (getName (s.take en.toNat) p))) + 20 = en) ∧
      slc s (grT (getName (s.take en.toNat) (grT (getName (s.take en.toNat) p))) + 4) en = soaTail then some ⟨r.name, r.type, r.ttl, r.addr, grN (getName (s.take en.toNat) p), r.text, (beG s (grT (getName (s.take en.toNat) (grT (getName (s.take en.toNat) p)))) 4).1⟩ else none := by
  subst he
  rw [dataG, if_neg (by omega), if_neg (by rw [ht]; decide), if_pos ht]
  by_cases h : (((grE (getName (s.take (p + k).toNat) p) = 0 ∧ grE (getName (s.take (p + k).toNat) (grT (getName (s.take (p + k).toNat) p))) = 0) ∧ grN (getName (s.take (p + k).toNat) p) = grN (getName (s.take (p + k).toNat) (grT (getName (s.take (p + k).toNat) p)))) ∧ grT (getName (s.take (p + k).toNat) (grT (getName (s.take (p + k).toNat) p))) + 20 = p + k) ∧
      slc s (grT (getName (s.take (p + k).toNat) (grT (getName (s.take (p + k).toNat) p))) + 4) (p + k) = soaTail
  · rw [if_pos h]
    obtain ⟨⟨⟨⟨a, b⟩, c⟩, d⟩, e⟩ := h
    have e1 := (gt_iff hl a).1
    have e2 := (gt_iff hl b).1
    rw [← e1] at a b c d e ⊢
    rw [← e1] at e2
    rw [← e2] at b c d e ⊢
    have hr := getName_rng (gr_ok a)
    have hr2 := getName_rng (gr_ok b)
    rw [if_pos ⟨a, b, c.symm, d, e⟩, beG_in (by simp) (by omega) rfl (by omega)]
  · rw [if_neg h, if_neg]
    rintro ⟨a, b, c, d, e⟩
    have hr2 := getName_rng (gr_ok b)
    have e1 := gt_to hl a (by omega)
    have e2 := gt_to hl b (by omega)
    rw [e1, e2] at h
    exact h ⟨⟨⟨⟨a, b⟩, c.symm⟩, d⟩, e⟩
theorem dG_16 (ht : r.type = 16) (h0 : 0 ≤ p) (he : p + k = en) (hl : en ≤ s.length) (hk : 0 ≤ k) : dataG s r p k = if 0 < k ∧ ((s.getD (min p ((s.length : Int) - 1)).toNat 0).toNat : Int) = k - 1 then some ⟨r.name, r.type, r.ttl, r.addr, r.target, slc s (min (p + 1) en) en, r.serial⟩ else none := by
  subst he
  rw [dataG, if_neg (by omega), if_neg (by rw [ht]; decide), if_neg (by omega), if_pos ht]
  by_cases h : 0 < k
  · rw [Int.min_eq_left (by omega : p ≤ (s.length : Int) - 1), Int.min_eq_left (by omega : p + 1 ≤ p + k), slc_one h0 (by omega), numI_one]
  · rw [if_neg (fun x => h x.1), if_neg (fun x => h x.1)]
theorem dG_49 (ht : r.type = 49) (he : p + k = en) : dataG s r p k = if True then some ⟨r.name, r.type, r.ttl, r.addr, r.target, slc s p en, r.serial⟩ else none := by
  subst he
  rw [dataG, if_neg (by omega), if_neg (by rw [ht]; decide), if_neg (by omega), if_neg (by omega)]; rfl
theorem rrGet_other {to : Int} (hto : grT (getName s p) = to) (ht : numI (slc s to (to + 2)) = k) (hn : ¬ (k = 1 ∨ k = 2 ∨ k = 5 ∨ k = 12 ∨ k = 6 ∨ k = 16 ∨ k = 49)) : rrGet s p = (noR, 0, 400) := by
  subst hto; subst ht
  by_cases h0 : grE (getName s p) = 0
  · have hn2 : ¬ isName (numI (slc s (grT (getName s p)) (grT (getName s p) + 2))) = true := by
      simp only [isName, Bool.or_eq_true, decide_eq_true_eq]; omega
    have hd : dataG s (headG s (grT (getName s p)) (grN (getName s p))) (grT (getName s p) + 10) (sizeG s (grT (getName s p))) = some ⟨grN (getName s p), numI (slc s (grT (getName s p)) (grT (getName s p) + 2)), numI (slc s (grT (getName s p) + 4) (grT (getName s p) + 8)), 0, [], slc s (grT (getName s p) + 10) (grT (getName s p) + 10 + sizeG s (grT (getName s p))), 0⟩ := by
      rw [dataG, if_neg (by simp only [headG]; omega), if_neg (by simp only [headG]; exact hn2), if_neg (by simp only [headG]; omega), if_neg (by simp only [headG]; omega)]; rfl
    rw [rrGet, gR_ok h0, hd]
    by_cases hc : grT (getName s p) + 10 ≤ s.length ∧ numI (slc s (grT (getName s p) + 2) (grT (getName s p) + 4)) = 1 ∧ grT (getName s p) + 10 + sizeG s (grT (getName s p)) ≤ s.length
    · rw [if_pos hc, Option.bind_some, if_neg (fun hm => by have := may_type hm; dsimp only at this; omega)]
    · rw [if_neg hc]
  · exact rrGet_bad1 h0
end
theorem dataPut_ks {at_ : Int} {ks : List Kn} {r : RR} {d : List UInt8} {k2 : List Kn} (h : dataPut at_ ks r = some (d, k2)) : k2.length ≤ ks.length + 16 := by
  have hn : ∀ {p : Int} {ks k2 : List Kn} {nm t : List UInt8}, putName p ks nm = some (t, k2) → k2.length ≤ ks.length + 8 := fun {p ks k2 nm t} h => by
    obtain ⟨_, _, rfl⟩ := putName_zero h
    exact (nmPut_more _ _ _).2.1
  unfold dataPut at h
  split at h
  · simp only [Option.some.injEq, Prod.mk.injEq] at h; rw [h.2]; omega
  split at h
  · cases hy : putName at_ ks r.target with
    | none => rw [hy] at h; cases h
    | some y =>
      rw [hy, Option.bind_some] at h
      cases hz : putName (at_ + y.1.length) y.2 r.target with
      | none => rw [hz] at h; cases h
      | some z =>
        rw [hz] at h
        simp only [Option.map_some, Option.some.injEq, Prod.mk.injEq] at h
        have h1 := hn (t := y.1) (k2 := y.2) hy
        have h2 := hn (t := z.1) (k2 := z.2) hz
        rw [← h.2]; omega
  split at h
  · simp only [Option.some.injEq, Prod.mk.injEq] at h; rw [h.2]; omega
  split at h
  · simp only [Option.some.injEq, Prod.mk.injEq] at h; rw [h.2]; omega
  · have := hn h; omega
theorem rrPut_ks (at_ : Int) (ks : List Kn) (r : RR) : (rrPut at_ ks r).2.1.length ≤ ks.length + 1000 := by
  unfold rrPut
  cases h : putRr at_ ks r with
  | none => simp
  | some x =>
    obtain ⟨t, k2⟩ := x
    obtain ⟨_, x1, x2, d, hx, hd, _⟩ := put_more' h
    obtain ⟨_, _, rfl⟩ := putName_zero hx
    have h1 := (nmPut_more at_ ks r.name).2.1
    have h2 := dataPut_ks hd
    dsimp only; omega
theorem rrPut_len (r : RR) : (rrPut 0 [] r).1.length ≤ 1084 := by
  unfold rrPut
  cases h : putRr 0 [] r with
  | none => simp
  | some x => obtain ⟨t, k2⟩ := x; exact (rr_back (s := []) (Good.nil []) h).2.2.2.1

end Go.Proofs.Ytkjcmdgideddnaa
