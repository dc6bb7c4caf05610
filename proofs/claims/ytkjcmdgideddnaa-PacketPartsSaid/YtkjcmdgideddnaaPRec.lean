/- Plain laws (PRec): lists and numbers alone. No condition. -/
import Derived.Test.YtkjcmdgideddnaaPCut
set_option linter.unusedVariables false
set_option linter.unusedSimpArgs false
namespace Go.Proofs.Ytkjcmdgideddnaa
/-! records: what the pen writes, what the taker takes -/
structure PS where
  out : List UInt8
  ks : List Kn
  bad : Bool
def pName (W : Int → Int) (fr : Int) (s : List UInt8) (p : PS) : PS :=
  if p.bad = true ∨ (nmPut (W (fr + p.out.length)) p.ks s).2.2 ≠ 0 then ⟨p.out, p.ks, true⟩ else ⟨p.out ++ (nmPut (W (fr + p.out.length)) p.ks s).1, (nmPut (W (fr + p.out.length)) p.ks s).2.1, false⟩
def pNum (x : Int) (k : Nat) (p : PS) : PS := ⟨p.out ++ beb x k, p.ks, p.bad⟩
def pRaw (t : List UInt8) (p : PS) : PS := ⟨p.out ++ t, p.ks, p.bad⟩
def pData (W : Int → Int) (fr : Int) (r : RR) (p : PS) : PS :=
  if r.type = 1 then pNum r.addr 4 p
  else if r.type = 6 then pRaw soaTail (pNum r.serial 4 (pName W fr r.target (pName W fr r.target p)))
  else if r.type = 16 then pRaw r.text (pNum r.text.length 1 p)
  else if r.type = 49 then pRaw r.text p
  else pName W fr r.target p
def pHead (W : Int → Int) (at_ : Int) (ks : List Kn) (r : RR) : PS := pNum r.ttl 4 (pNum 1 2 (pNum r.type 2 (pName W at_ r.name ⟨[], ks, false⟩)))
def pAll (W : Int → Int) (at_ : Int) (ks : List Kn) (r : RR) : PS := pData W at_ r (pNum 0 2 (pHead W at_ ks r))
def rrPut (at_ : Int) (ks : List Kn) (r : RR) : List UInt8 × List Kn × Int := match putRr at_ ks r with
  | none => ([], [], 400)
  | some x => (x.1, x.2, 0)
theorem pName_ok {W : Int → Int} {fr : Int} {s : List UInt8} {p : PS} (h : (pName W fr s p).bad = false) : p.bad = false ∧ (nmPut (W (fr + p.out.length)) p.ks s).2.2 = 0 ∧ pName W fr s p = ⟨p.out ++ (nmPut (W (fr + p.out.length)) p.ks s).1, (nmPut (W (fr + p.out.length)) p.ks s).2.1, false⟩ := by
  unfold pName at h ⊢
  split at h
  · cases h
  · rename_i hc
    rw [if_neg hc]
    simp only [not_or, Decidable.not_not, Bool.not_eq_true] at hc
    exact ⟨hc.1, hc.2, rfl⟩
theorem pName_bad {W : Int → Int} {fr : Int} {s : List UInt8} {p : PS} (h : (pName W fr s p).bad = true) : (p.bad = true ∨ (nmPut (W (fr + p.out.length)) p.ks s).2.2 ≠ 0) ∧ pName W fr s p = ⟨p.out, p.ks, true⟩ := by
  unfold pName at h ⊢
  split at h
  · rename_i hc; rw [if_pos hc]; exact ⟨hc, rfl⟩
  · cases h
theorem pData_good {W : Int → Int} {fr : Int} {r : RR} {p : PS} (h : (pData W fr r p).bad = false) : p.bad = false := by
  unfold pData at h
  split at h
  · exact h
  split at h
  · exact (pName_ok (pName_ok h).1).1
  split at h
  · exact h
  split at h
  · exact h
  · exact (pName_ok h).1
theorem nmPut_putName {at_ : Int} {ks : List Kn} {nm : List UInt8} : putName at_ ks nm = if (nmPut at_ ks nm).2.2 = 0 then some ((nmPut at_ ks nm).1, (nmPut at_ ks nm).2.1) else none := by
  unfold nmPut
  cases putName at_ ks nm <;> rfl
theorem nmPut_rng {at_ : Int} {ks : List Kn} {nm : List UInt8} (h : (nmPut at_ ks nm).2.2 = 0) : 0 ≤ at_ ∧ at_ ≤ 65535 := by
  have := (nmPut_zero h).1
  simp only [Bool.and_eq_true, decide_eq_true_eq] at this
  exact ⟨this.1.1.2, this.1.2⟩
theorem beb_1 (x : Int) : beb x 1 = [byteOf x] := rfl
theorem pAll_head {W : Int → Int} {at_ : Int} {ks : List Kn} {r : RR} (h : (pAll W at_ ks r).bad = false) : (pName W at_ r.name ⟨[], ks, false⟩).bad = false := by
  have := pData_good h
  simpa only [pNum, pHead] using this
/-- what all of it comes to -/
theorem pAll_eq {W : Int → Int} (hW : ∀ x : Int, -4611686018427387904 ≤ x → x ≤ 4611686018427387904 → W x = x) {at_ : Int} (hW1 : W at_ = at_) {ks : List Kn} {r : RR} (hm : rrMay r = true) :
    ((pAll W at_ ks r).bad = true ∧ putRr at_ ks r = none) ∨
    ((pAll W at_ ks r).bad = false ∧ putRr at_ ks r = some ((pHead W at_ ks r).out ++ beb ((pAll W at_ ks r).out.drop ((pHead W at_ ks r).out.length + 2)).length 2 ++ (pAll W at_ ks r).out.drop ((pHead W at_ ks r).out.length + 2), (pAll W at_ ks r).ks)) := by
  have hn : putRr at_ ks r = (putName at_ ks r.name).bind fun x => (dataPut (at_ + x.1.length + 10) x.2 r).map fun y => (x.1 ++ beb r.type 2 ++ beb 1 2 ++ beb r.ttl 4 ++ beb y.1.length 2 ++ y.1, y.2) := by rw [putRr, if_pos hm]
  cases hb : (pName W at_ r.name ⟨[], ks, false⟩).bad with
  | true =>
    have h1 := (pName_bad hb).1
    simp only [List.length_nil, Int.natCast_zero, Int.add_zero, hW1, Bool.false_eq_true, false_or] at h1
    refine .inl ⟨?_, by rw [hn, nmPut_putName, if_neg h1]; rfl⟩
    cases hq : (pAll W at_ ks r).bad with
    | true => rfl
    | false => have h3 := pAll_head hq; rw [hb] at h3; cases h3
  | false =>
    obtain ⟨_, h1, h2⟩ := pName_ok hb
    simp only [List.length_nil, Int.natCast_zero, Int.add_zero, hW1, List.nil_append] at h1 h2
    have hr := nmPut_rng h1
    have h74 := (nmPut_more at_ ks r.name).1
    generalize hx : nmPut at_ ks r.name = x at *
    have hH : pHead W at_ ks r = ⟨x.1 ++ beb r.type 2 ++ beb 1 2 ++ beb r.ttl 4, x.2.1, false⟩ := by rw [pHead, h2]; rfl
    have hP : pNum 0 2 (pHead W at_ ks r) = ⟨x.1 ++ beb r.type 2 ++ beb 1 2 ++ beb r.ttl 4 ++ beb 0 2, x.2.1, false⟩ := by rw [hH]; rfl
    have hl : (x.1 ++ beb r.type 2 ++ beb 1 2 ++ beb r.ttl 4 ++ beb 0 2).length = x.1.length + 10 := by simp only [List.length_append, beb_len]
    have hl0 : (x.1 ++ beb r.type 2 ++ beb 1 2 ++ beb r.ttl 4).length + 2 = x.1.length + 10 := by simp only [List.length_append, beb_len]
    rw [hn, nmPut_putName, hx, if_pos h1, Option.bind_some]
    dsimp only
    have key : ∀ (d : List UInt8) (k2 : List Kn), pAll W at_ ks r = ⟨x.1 ++ beb r.type 2 ++ beb 1 2 ++ beb r.ttl 4 ++ beb 0 2 ++ d, k2, false⟩ → dataPut (at_ + x.1.length + 10) x.2.1 r = some (d, k2) →
      ((pAll W at_ ks r).bad = true ∧ ((dataPut (at_ + x.1.length + 10) x.2.1 r).map fun y => (x.1 ++ beb r.type 2 ++ beb 1 2 ++ beb r.ttl 4 ++ beb y.1.length 2 ++ y.1, y.2)) = none) ∨
      ((pAll W at_ ks r).bad = false ∧ ((dataPut (at_ + x.1.length + 10) x.2.1 r).map fun y => (x.1 ++ beb r.type 2 ++ beb 1 2 ++ beb r.ttl 4 ++ beb y.1.length 2 ++ y.1, y.2)) = some ((pHead W at_ ks r).out ++ beb ((pAll W at_ ks r).out.drop ((pHead W at_ ks r).out.length + 2)).length 2 ++ (pAll W at_ ks r).out.drop ((pHead W at_ ks r).out.length + 2), (pAll W at_ ks r).ks)) := by
      intro d k2 e1 e2
      refine .inr ?_
      rw [e1, e2, hH]
      refine ⟨rfl, ?_⟩
      dsimp only
      rw [hl0, ← hl, List.drop_left]; rfl
    have hW2 : ∀ k : Nat, k ≤ 1000000 → W (at_ + ((x.1 ++ beb r.type 2 ++ beb 1 2 ++ beb r.ttl 4 ++ beb 0 2).length : Int) + k) = at_ + x.1.length + 10 + k := fun k hk => by
      rw [hl, hW _ (by omega) (by omega)]; omega
    have bad : (pAll W at_ ks r).bad = true → dataPut (at_ + x.1.length + 10) x.2.1 r = none → ((pAll W at_ ks r).bad = true ∧ ((dataPut (at_ + x.1.length + 10) x.2.1 r).map fun y => (x.1 ++ beb r.type 2 ++ beb 1 2 ++ beb r.ttl 4 ++ beb y.1.length 2 ++ y.1, y.2)) = none) ∨
      ((pAll W at_ ks r).bad = false ∧ ((dataPut (at_ + x.1.length + 10) x.2.1 r).map fun y => (x.1 ++ beb r.type 2 ++ beb 1 2 ++ beb r.ttl 4 ++ beb y.1.length 2 ++ y.1, y.2)) = some ((pHead W at_ ks r).out ++ beb ((pAll W at_ ks r).out.drop ((pHead W at_ ks r).out.length + 2)).length 2 ++ (pAll W at_ ks r).out.drop ((pHead W at_ ks r).out.length + 2), (pAll W at_ ks r).ks)) := fun a b => by
      rw [b]; exact .inl ⟨a, rfl⟩
    have hA : pAll W at_ ks r = pData W at_ r ⟨x.1 ++ beb r.type 2 ++ beb 1 2 ++ beb r.ttl 4 ++ beb 0 2, x.2.1, false⟩ := by rw [pAll, hP]
    by_cases t1 : r.type = 1
    · exact key (beb r.addr 4) x.2.1 (by rw [hA, pData, if_pos t1]; rfl) (by rw [dataPut, if_pos t1])
    by_cases t6 : r.type = 6
    · generalize hy : nmPut (at_ + x.1.length + 10) x.2.1 r.target = y at *
      have w0 : W (at_ + ((x.1 ++ beb r.type 2 ++ beb 1 2 ++ beb r.ttl 4 ++ beb 0 2).length : Int)) = at_ + x.1.length + 10 := by have := hW2 0 (by omega); simpa using this
      cases hb2 : (pName W at_ r.target ⟨x.1 ++ beb r.type 2 ++ beb 1 2 ++ beb r.ttl 4 ++ beb 0 2, x.2.1, false⟩).bad with
      | true =>
        have h3 := (pName_bad hb2).1
        simp only [w0, hy, Bool.false_eq_true, false_or] at h3
        refine bad ?_ ?_
        · rw [hA, pData, if_neg t1, if_pos t6]
          show (pName W at_ r.target _).bad = true
          rw [pName, if_pos (.inl hb2)]
        · rw [dataPut, if_neg t1, if_pos t6, nmPut_putName, hy, if_neg h3]; rfl
      | false =>
        obtain ⟨_, h3, h4⟩ := pName_ok hb2
        simp only [w0, hy] at h3 h4
        have hy74 := (nmPut_more (at_ + x.1.length + 10) x.2.1 r.target).1
        rw [hy] at hy74
        have w1 : W (at_ + ((x.1 ++ beb r.type 2 ++ beb 1 2 ++ beb r.ttl 4 ++ beb 0 2 ++ y.1).length : Int)) = at_ + x.1.length + 10 + y.1.length := by
          rw [List.length_append, hl, hW _ (by omega) (by omega)]; omega
        generalize hz : nmPut (at_ + x.1.length + 10 + y.1.length) y.2.1 r.target = z at *
        cases hb3 : (pName W at_ r.target ⟨x.1 ++ beb r.type 2 ++ beb 1 2 ++ beb r.ttl 4 ++ beb 0 2 ++ y.1, y.2.1, false⟩).bad with
        | true =>
          have h5 := (pName_bad hb3).1
          simp only [w1, hz, Bool.false_eq_true, false_or] at h5
          refine bad ?_ ?_
          · rw [hA, pData, if_neg t1, if_pos t6, h4]
            exact hb3
          · rw [dataPut, if_neg t1, if_pos t6, nmPut_putName, hy, if_pos h3, Option.bind_some]
            dsimp only
            rw [nmPut_putName, hz, if_neg h5]; rfl
        | false =>
          obtain ⟨_, h5, h6⟩ := pName_ok hb3
          simp only [w1, hz] at h5 h6
          refine key (y.1 ++ z.1 ++ beb r.serial 4 ++ soaTail) z.2.1 ?_ ?_
          · rw [hA, pData, if_neg t1, if_pos t6, h4, h6]
            simp only [pNum, pRaw, List.append_assoc]
          · rw [dataPut, if_neg t1, if_pos t6, nmPut_putName, hy, if_pos h3, Option.bind_some]
            dsimp only
            rw [nmPut_putName, hz, if_pos h5]; rfl
    by_cases t16 : r.type = 16
    · refine key (UInt8.ofNat r.text.length :: r.text) x.2.1 ?_ (by rw [dataPut, if_neg t1, if_neg t6, if_pos t16])
      rw [hA, pData, if_neg t1, if_neg t6, if_pos t16]
      simp only [pNum, pRaw, beb_1, byteOf_nat, List.append_assoc, List.cons_append, List.nil_append]
    by_cases t49 : r.type = 49
    · exact key r.text x.2.1 (by rw [hA, pData, if_neg t1, if_neg t6, if_neg t16, if_pos t49]; rfl) (by rw [dataPut, if_neg t1, if_neg t6, if_neg t16, if_pos t49])
    · have w0 : W (at_ + ((x.1 ++ beb r.type 2 ++ beb 1 2 ++ beb r.ttl 4 ++ beb 0 2).length : Int)) = at_ + x.1.length + 10 := by have := hW2 0 (by omega); simpa using this
      generalize hy : nmPut (at_ + x.1.length + 10) x.2.1 r.target = y at *
      cases hb2 : (pName W at_ r.target ⟨x.1 ++ beb r.type 2 ++ beb 1 2 ++ beb r.ttl 4 ++ beb 0 2, x.2.1, false⟩).bad with
      | true =>
        have h3 := (pName_bad hb2).1
        simp only [w0, hy, Bool.false_eq_true, false_or] at h3
        refine bad ?_ ?_
        · rw [hA, pData, if_neg t1, if_neg t6, if_neg t16, if_neg t49]; exact hb2
        · rw [dataPut, if_neg t1, if_neg t6, if_neg t16, if_neg t49, nmPut_putName, hy, if_neg h3]
      | false =>
        obtain ⟨_, h3, h4⟩ := pName_ok hb2
        simp only [w0, hy] at h3 h4
        refine key y.1 y.2.1 ?_ ?_
        · rw [hA, pData, if_neg t1, if_neg t6, if_neg t16, if_neg t49, h4]
        · rw [dataPut, if_neg t1, if_neg t6, if_neg t16, if_neg t49, nmPut_putName, hy, if_pos h3]

end Go.Proofs.Ytkjcmdgideddnaa
