/- What the document's GetDns comes to. Condition: the text is not longer than some 2^42 bytes. -/
import Derived.Test.YtkjcmdgideddnaaDnS
set_option linter.unusedVariables false
set_option linter.unusedSimpArgs false
namespace Go.Proofs.Ytkjcmdgideddnaa
open Go Go.RowKit
theorem ref_nuS {b : Nat} {s : List UInt8} (i j : Nat) (h : j = i + 1) (w : World) (hL : Holds [MmO b s (rSt s i)] w) (hs : s.length ≤ 4398046511104) :
    Fn Try.prog 118 [.pointer (some ⟨b, 0, none⟩), .int .i64 2] w [MmO b s (rSt s i)] fun v L' => v = .int .i64 (nuR s 2 (rSt s i)).1 ∧ L' = [MmO b s (rSt s j)] := by
  subst h; exact ref_nu w hL hs
theorem ref_rrs1 {b : Nat} {s : List UInt8} {t : TS} (w : World) (hL : Holds [MmO b s t] w) (hs : s.length ≤ 4398046511104) (hb : t.bad = false) :
    Fn Try.prog 140 [.pointer (some ⟨b, 0, none⟩), .int .i64 1] w [MmO b s t] fun v L' => ∃ o c sp, v = .slice (oa o) [(rRec s t).1].length c ∧ OwnOk o c 7 [(rRec s t).1].length (List.length sp) ∧ L' = MmO b s (rRec s t).2 :: rowL o 96 (flat encR [(rRec s t).1] sp) := by
  have h := ref_rrs 1 w hL hs (by decide)
  have e : lpM (rRec s) bigC (1 : Int).toNat [] t = ([(rRec s t).1], (rRec s t).2) := by
    show lpM (rRec s) bigC (0 + 1) [] t = _
    rw [lpM, if_neg (by rintro (h | h); (rw [hb] at h; cases h); (simp [bigC] at h))]; rfl
  rw [e] at h; exact h
section
variable {s : List UInt8} {k z : Int} {out : List RR} {t : TS}
theorem adR_opt (h0 : 0 < k) (hb : t.bad = false) (hi : (optA s t.at_).2.2 = true) (hz : z = 0) : adR s k.toNat out z t = adR s (k - 1).toNat out (optA s t.at_).1 ⟨(optA s t.at_).2.1, false⟩ := by
  rw [show k.toNat = (k - 1).toNat + 1 by omega, adR, if_neg (by rw [hb]; decide)]
  unfold optA at hi ⊢
  cases ho : optG s t.at_ with
  | none => rw [ho] at hi; cases hi
  | some x => dsimp only; rw [if_pos hz]
theorem adR_rec (h0 : 0 < k) (hb : t.bad = false) (hi : (optA s t.at_).2.2 = false ∨ ¬ z = 0) : adR s k.toNat out z t = adR s (k - 1).toNat (out ++ [(rRec s t).1]) z (rRec s t).2 := by
  rw [show k.toNat = (k - 1).toNat + 1 by omega, adR, if_neg (by rw [hb]; decide)]
  unfold optA at hi
  cases ho : optG s t.at_ with
  | none => rfl
  | some x => rw [ho] at hi; dsimp only; rw [if_neg (by rcases hi with h | h; cases h; exact h)]
theorem adR_end (h : k ≤ 0 ∨ t.bad = true) : adR s k.toNat out z t = (out, z, t) := by
  rcases h with h | h
  · rw [show k.toNat = 0 by omega, adR]
  · exact adR_stop h
end
theorem nu_rng (s : List UInt8) (t : TS) : 0 ≤ (nuR s 2 t).1 ∧ (nuR s 2 t).1 ≤ 65535 := by
  unfold nuR
  split
  · simp
  · have := beG_rng s t.at_; exact ⟨this.1, by dsimp only; omega⟩
theorem rrGet_nm2 (s : List UInt8) (p : Int) : (rrGet s p).1.name.length ≤ 4398046511104 ∧ (rrGet s p).1.target.length ≤ 4398046511104 := by
  cases h : gR s p with
  | none => rw [gR_non h]; simp [noR]
  | some x => obtain ⟨r, to⟩ := x; rw [rrGet_some h]; exact may_nm2 (gR_may h)
theorem adR_all {s : List UInt8} {P : RR → Prop} (hf : ∀ t, P (rRec s t).1) : ∀ (k : Nat) {out : List RR} {z : Int} {t : TS}, (∀ x ∈ out, P x) → ∀ x ∈ (adR s k out z t).1, P x
  | 0, out, z, t, h => h
  | k + 1, out, z, t, h => by
    have hx : ∀ x ∈ out ++ [(rRec s t).1], P x := fun x hx => by
      rcases List.mem_append.1 hx with hx | hx
      · exact h x hx
      · rw [List.mem_singleton] at hx; subst hx; exact hf t
    rw [adR]
    split
    · exact h
    · split
      · split
        · exact adR_all hf k h
        · exact adR_all hf k hx
      · exact adR_all hf k hx
theorem adR_len {s : List UInt8} : ∀ (k : Nat) {out : List RR} {z : Int} {t : TS}, (adR s k out z t).1.length ≤ out.length + k
  | 0, out, z, t => by simp [adR]
  | k + 1, out, z, t => by
    have h2 := adR_len (s := s) k (out := out ++ [(rRec s t).1]) (z := z) (t := (rRec s t).2)
    simp only [List.length_append, List.length_cons, List.length_nil] at h2
    rw [adR]
    split
    · dsimp only; omega
    · split
      · rename_i x _
        split
        · have := adR_len (s := s) k (out := out) (z := x.1) (t := ⟨x.2, false⟩); omega
        · omega
      · omega
theorem dn_szR {s : List UInt8} {x id z zz : Int} {k1 k2 k3 k4 : Nat} {t1 t2 t3 t4 : TS} (h1 : k1 ≤ 1000000) (h2 : k2 ≤ 1000000) (h3 : k3 ≤ 1000000) (h4 : k4 ≤ 1000000) : DnSz (hdD x id (lpM (rAsk s) bigC k1 [] t1).1 (lpM (rRec s) bigC k2 [] t2).1 (lpM (rRec s) bigC k3 [] t3).1 (adR s k4 [] z t4).1 zz) 4398046511104 := by
  have l1 := lp_len (f := rAsk s) (cap := bigC) k1 (out := []) (t := t1)
  have l2 := lp_len (f := rRec s) (cap := bigC) k2 (out := []) (t := t2)
  have l3 := lp_len (f := rRec s) (cap := bigC) k3 (out := []) (t := t3)
  have l4 := adR_len (s := s) k4 (out := []) (z := z) (t := t4)
  simp only [List.length_nil, Nat.zero_add] at l1 l2 l3 l4
  have hq : ∀ t : TS, (rAsk s t).1.name.length ≤ 4398046511104 := fun t => Nat.le_trans (grN_len s t.at_) (by decide)
  have hr : ∀ t : TS, (rRec s t).1.name.length ≤ 4398046511104 ∧ (rRec s t).1.target.length ≤ 4398046511104 := fun t => rrGet_nm2 s t.at_
  exact ⟨⟨by show (lpM (rAsk s) bigC k1 [] t1).1.length ≤ _; omega, lp_all hq k1 (by simp)⟩, ⟨by show (lpM (rRec s) bigC k2 [] t2).1.length ≤ _; omega, lp_all hr k2 (by simp)⟩, ⟨by show (lpM (rRec s) bigC k3 [] t3).1.length ≤ _; omega, lp_all hr k3 (by simp)⟩, ⟨by show (adR s k4 [] z t4).1.length ≤ _; omega, adR_all hr k4 (by simp)⟩⟩
set_option maxRecDepth 100000 in
set_option maxHeartbeats 4000000 in
theorem ref_GetDns (s : List UInt8) (w : World) (hs : s.length ≤ 4398046511104) : Fn Try.prog 82 [.string (S s)] w [] fun v L' => ∃ o1 c1 p1 o2 c2 p2 o3 c3 p3 o4 c4 p4, v = .tuple #[vDn (dnGet s).1 (oa o1, c1) (oa o2, c2) (oa o3, c3) (oa o4, c4), .int .i64 (dnGet s).2] ∧ OwnOk o1 c1 2 (dnGet s).1.qs.length (List.length p1) ∧ OwnOk o2 c2 7 (dnGet s).1.an.length (List.length p2) ∧ OwnOk o3 c3 7 (dnGet s).1.se.length (List.length p3) ∧ OwnOk o4 c4 7 (dnGet s).1.ad.length (List.length p4) ∧ L' = rowL o4 96 (flat encR (dnGet s).1.ad p4) ++ (rowL o3 96 (flat encR (dnGet s).1.se p3) ++ (rowL o2 96 (flat encR (dnGet s).1.an p2) ++ rowL o1 126 (flat encQ (dnGet s).1.qs p1))) := by
  have hbad : (bif (bif (bif (bif (bif (rSt s 6).bad then true else !decide (bits .and .i64 (nuR s 2 (rSt s 1)).1 240 = 0)) then true else decide (4 < (nuR s 2 (rSt s 2)).1)) then true else decide (32 < (nuR s 2 (rSt s 3)).1)) then true else decide (32 < (nuR s 2 (rSt s 4)).1)) then true else decide (33 < (nuR s 2 (rSt s 5)).1)) = ((rSt s 6).bad || !decide (bits .and .i64 (nuR s 2 (rSt s 1)).1 240 = 0) || decide (4 < (nuR s 2 (rSt s 2)).1) || decide (32 < (nuR s 2 (rSt s 3)).1) || decide (32 < (nuR s 2 (rSt s 4)).1) || decide (33 < (nuR s 2 (rSt s 5)).1)) := by
    generalize (rSt s 6).bad = x1; generalize decide (bits .and .i64 (nuR s 2 (rSt s 1)).1 240 = 0) = x2; generalize decide (4 < (nuR s 2 (rSt s 2)).1) = x3; generalize decide (32 < (nuR s 2 (rSt s 3)).1) = x4; generalize decide (32 < (nuR s 2 (rSt s 4)).1) = x5; generalize decide (33 < (nuR s 2 (rSt s 5)).1) = x6
    cases x1 <;> cases x2 <;> cases x3 <;> cases x4 <;> cases x5 <;> cases x6 <;> rfl
  have gA := nu_rng s (rSt s 2)
  have gB := nu_rng s (rSt s 3)
  have gC := nu_rng s (rSt s 4)
  have gD := nu_rng s (rSt s 5)
  refine Fn.enter Try.func82 rfl rfl rfl rfl (Holds.nil w) ?_
  refine CW.seq ?_
  refine CW.region ?_
  refine W.al rfl rfl fun b1 => ?_
  refine W.p O.as ?_
  refine WL.nil (Q.tn ?_)
  refine CW.seq ?_
  refine CW.region ?_
  refine W.p O.mv ?_
  refine W.p (O.bd (hv := PV.cons (vt rfl) (PV.nil))) ?_
  refine W.bx rfl (vt rfl) rfl fun b2 => ?_
  refine W.p O.as ?_
  refine WL.nil (Q.tn ?_)
  refine CW.seq ?_
  refine CW.region ?_
  refine W.p O.mv ?_
  refine W.callS (first := []) (cap := []) [MmO b2 s ⟨0, false⟩] rfl (vt rfl) (AV.cons (vt rfl) (AV.cons (vt rfl) (AV.nil))) (fun w hu hh => ref_nuS 0 1 rfl w hh hs) ?_; rintro _ _ ⟨rfl, rfl⟩
  refine W.p (O.bd (hv := PV.cons (vt rfl) (PV.nil))) ?_
  refine W.al rfl rfl fun b3 => ?_
  refine W.st (vt rfl) (vt rfl) rfl ?_
  refine WL.nil (Q.tn ?_)
  refine CW.seq ?_
  refine CW.region ?_
  refine W.p O.mv ?_
  refine W.callS (first := []) (cap := []) [MmO b2 s (rSt s 1)] rfl (vt rfl) (AV.cons (vt rfl) (AV.cons (vt rfl) (AV.nil))) (fun w hu hh => ref_nuS 1 2 rfl w hh hs) ?_; rintro _ _ ⟨rfl, rfl⟩
  refine W.p O.as ?_
  refine WL.nil (Q.tn ?_)
  refine CW.seq ?_
  refine CW.region ?_
  refine W.p O.mv ?_
  refine W.p O.and ?_
  refine W.p O.neI ?_
  first | refine W.p O.fb ?_ | refine W.p O.fa ?_
  refine W.st (vt rfl) (vt rfl) rfl ?_
  refine WL.nil (Q.tn ?_)
  refine CW.seq ?_
  refine CW.region ?_
  refine W.p O.mv ?_
  refine W.p O.shr ?_
  refine W.p (O.andM 4 16 (h := by decide) (hq := by decide) (hM := by decide)) ?_
  first | refine W.p O.fb ?_ | refine W.p O.fa ?_
  first | refine W.st (vt rfl) (vt rfl) rfl ?_ | refine W.st (u := .int _ _) (vt rfl) (vt rfl) rfl ?_
  refine WL.nil (Q.tn ?_)
  refine CW.seq ?_
  refine CW.region ?_
  refine W.p O.mv ?_
  refine W.p O.and ?_
  refine W.p O.neI ?_
  first | refine W.p O.fb ?_ | refine W.p O.fa ?_
  refine W.st (vt rfl) (vt rfl) rfl ?_
  refine WL.nil (Q.tn ?_)
  refine CW.seq ?_
  refine CW.region ?_
  refine W.p O.mv ?_
  refine W.p O.and ?_
  refine W.p O.neI ?_
  first | refine W.p O.fb ?_ | refine W.p O.fa ?_
  refine W.st (vt rfl) (vt rfl) rfl ?_
  refine WL.nil (Q.tn ?_)
  refine CW.seq ?_
  refine CW.region ?_
  refine W.p O.mv ?_
  refine W.p O.and ?_
  refine W.p O.neI ?_
  first | refine W.p O.fb ?_ | refine W.p O.fa ?_
  refine W.st (vt rfl) (vt rfl) rfl ?_
  refine WL.nil (Q.tn ?_)
  refine CW.seq ?_
  refine CW.region ?_
  refine W.p O.mv ?_
  refine W.p (O.andM 4 16 (h := by decide) (hq := by decide) (hM := by decide)) ?_
  first | refine W.p O.fb ?_ | refine W.p O.fa ?_
  first | refine W.st (vt rfl) (vt rfl) rfl ?_ | refine W.st (u := .int _ _) (vt rfl) (vt rfl) rfl ?_
  refine WL.nil (Q.tn ?_)
  refine CW.seq ?_
  refine CW.region ?_
  refine W.p O.mv ?_
  refine W.callS (first := []) (cap := []) [MmO b2 s (rSt s 2)] rfl (vt rfl) (AV.cons (vt rfl) (AV.cons (vt rfl) (AV.nil))) (fun w hu hh => ref_nuS 2 3 rfl w hh hs) ?_; rintro _ _ ⟨rfl, rfl⟩
  refine W.p O.mv ?_
  refine W.callS (first := []) (cap := []) [MmO b2 s (rSt s 3)] rfl (vt rfl) (AV.cons (vt rfl) (AV.cons (vt rfl) (AV.nil))) (fun w hu hh => ref_nuS 3 4 rfl w hh hs) ?_; rintro _ _ ⟨rfl, rfl⟩
  refine W.p O.mv ?_
  refine W.callS (first := []) (cap := []) [MmO b2 s (rSt s 4)] rfl (vt rfl) (AV.cons (vt rfl) (AV.cons (vt rfl) (AV.nil))) (fun w hu hh => ref_nuS 4 5 rfl w hh hs) ?_; rintro _ _ ⟨rfl, rfl⟩
  refine W.p O.mv ?_
  refine W.callS (first := []) (cap := []) [MmO b2 s (rSt s 5)] rfl (vt rfl) (AV.cons (vt rfl) (AV.cons (vt rfl) (AV.nil))) (fun w hu hh => ref_nuS 5 6 rfl w hh hs) ?_; rintro _ _ ⟨rfl, rfl⟩
  refine W.p O.as ?_
  refine W.p O.as ?_
  refine W.p O.as ?_
  refine W.p O.as ?_
  refine WL.nil (Q.tn ?_)
  refine CW.seq ?_
  refine CW.region ?_
  refine W.p O.mv ?_
  refine W.p O.mv ?_
  refine W.p O.nc ?_
  first | refine W.p O.fb ?_ | refine W.p O.fa ?_
  refine W.p O.ld ?_
  refine W.p O.mv ?_
  refine W.p O.mv ?_
  refine W.p O.and ?_
  refine W.p O.neI ?_
  refine W.p O.pkB ?_
  refine W.p O.mv ?_
  refine W.p O.mv ?_
  refine W.p O.gtr ?_
  refine W.p O.pkB ?_
  refine W.p O.mv ?_
  refine W.p O.mv ?_
  refine W.p O.gtr ?_
  refine W.p O.pkB ?_
  refine W.p O.mv ?_
  refine W.p O.mv ?_
  refine W.p O.gtr ?_
  refine W.p O.pkB ?_
  refine W.p O.mv ?_
  refine W.p O.mv ?_
  refine W.p O.gtr ?_
  refine W.p O.pkB ?_
  refine W.p O.nc ?_
  first | refine W.p O.fb ?_ | refine W.p O.fa ?_
  refine W.st (vt rfl) (vt rfl) rfl ?_
  refine WL.nil (Q.tn ?_)
  refine CW.seq ?_
  refine CW.seq ?_
  refine CW.region ?_
  refine W.p O.as ?_
  refine WL.nil (Q.tn ?_)
  refine CW.block ?_
  rw [hbad]
  refine CW.loopA (X := Int × (List Qn') × TS × (Option Nat) × Nat × (List Value)) (fun ⟨i, out, u, o, cc, sp⟩ => [(0, true, .string (S s)), (2, true, .pointer (some ⟨b1, 0, none⟩)), (4, true, .pointer (some ⟨b2, 0, none⟩)), (5, true, .pointer (some ⟨b3, 0, none⟩)), (7, true, .int .i64 (nuR s 2 (rSt s 2)).1), (8, true, .int .i64 (nuR s 2 (rSt s 3)).1), (9, true, .int .i64 (nuR s 2 (rSt s 4)).1), (10, true, .int .i64 (nuR s 2 (rSt s 5)).1), (11, true, .int .i64 i)]) (fun ⟨i, out, u, o, cc, sp⟩ => rowL o 126 (flat encQ out sp) ++ [DnO b3 (hdD (nuR s 2 (rSt s 1)).1 (nuR s 2 (rSt s 0)).1 out [] [] [] 0) (oa o, cc) nS nS nS, MmO b2 s u, (DnO b1 noD nS nS nS nS)]) (fun ⟨i, out, u, o, cc, sp⟩ => 0 ≤ i ∧ i ≤ (nuR s 2 (rSt s 2)).1 ∧ OwnOk o cc 2 out.length sp.length ∧ lpM (rAsk s) bigC ((nuR s 2 (rSt s 2)).1 - i).toNat out u = (lpM (rAsk s) bigC (nuR s 2 (rSt s 2)).1.toNat [] (⟨(rSt s 6).at_, ((rSt s 6).bad || !decide (bits .and .i64 (nuR s 2 (rSt s 1)).1 240 = 0) || decide (4 < (nuR s 2 (rSt s 2)).1) || decide (32 < (nuR s 2 (rSt s 3)).1) || decide (32 < (nuR s 2 (rSt s 4)).1) || decide (33 < (nuR s 2 (rSt s 5)).1))⟩ : TS)) ∧ out.length ≤ i) (fun ⟨i, out, u, o, cc, sp⟩ => ((nuR s 2 (rSt s 2)).1 - i).toNat) (0, [], (⟨(rSt s 6).at_, ((rSt s 6).bad || !decide (bits .and .i64 (nuR s 2 (rSt s 1)).1 240 = 0) || decide (4 < (nuR s 2 (rSt s 2)).1) || decide (32 < (nuR s 2 (rSt s 3)).1) || decide (32 < (nuR s 2 (rSt s 4)).1) || decide (33 < (nuR s 2 (rSt s 5)).1))⟩ : TS), none, 0, []) ?_ ?_
  · exact ⟨by omega, by omega, OwnOk.nil, by rw [Int.sub_zero], by simp⟩
  rintro ⟨i, out, u, o, cc, sp⟩ hI
  try dsimp only at hI ⊢
  obtain ⟨h0, h1, ok9, hr, hl⟩ := hI
  have nk9 := ok9.nk (α := Qn') (xs := out)
  refine CW.seq ?_
  refine CW.seq ?_
  refine CW.region ?_
  refine W.p O.mv ?_
  refine W.p O.mv ?_
  refine W.p O.lss ?_
  refine W.p O.mv ?_
  refine W.p O.mv ?_
  refine W.p O.nc ?_
  first | refine W.p O.fb ?_ | refine W.p O.fa ?_
  refine W.p O.ld ?_
  refine W.p O.nt ?_
  refine W.p O.pkB ?_
  refine WL.nil (Q.tn ?_)
  refine CW.cond (vt rfl) (fun hc1 => ?_) (fun hc1 => ?_)
  · try simp only [sk] at hc1
    refine CW.skip (Q.tn ?_)
    refine CW.seq ?_
    refine CW.block ?_
    refine CW.seq ?_
    refine CW.region ?_
    refine W.p O.mv ?_
    refine W.p O.mv ?_
    refine W.p O.nc ?_
    first | refine W.p O.fb ?_ | refine W.p O.fa ?_
    refine W.p O.ld ?_
    refine W.q (O.call ⟨rfl, rfl⟩ (AV.cons (vt rfl) (AV.cons (vt rfl) (AV.nil))) (fun _ w hw => ref_GetName _ _ w hs)) ?_
    refine W.p O.mv ?_
    first | refine W.p O.extL ?_ | refine W.p O.ext ?_
    first | refine W.p O.extL ?_ | refine W.p O.ext ?_
    first | refine W.p O.extL ?_ | refine W.p O.ext ?_
    refine W.p O.as ?_
    refine W.p O.as ?_
    refine W.p O.as ?_
    refine WL.nil (Q.tn ?_)
    refine CW.seq ?_
    refine CW.region ?_
    refine W.p O.mv ?_
    refine W.p O.mv ?_
    refine W.p O.neI ?_
    refine W.p O.nc ?_
    first | refine W.p O.fb ?_ | refine W.p O.fa ?_
    refine W.st (vt rfl) (vt rfl) rfl ?_
    refine WL.nil (Q.tn ?_)
    refine CW.seq ?_
    refine CW.region ?_
    refine W.p O.mv ?_
    refine W.p O.mv ?_
    refine W.p O.nc ?_
    first | refine W.p O.fb ?_ | refine W.p O.fa ?_
    first | refine W.st (vt rfl) (vt rfl) rfl ?_ | refine W.st (u := .int _ _) (vt rfl) (vt rfl) rfl ?_
    refine WL.nil (Q.tn ?_)
    refine CW.seq ?_
    refine CW.region ?_
    refine W.p O.mv ?_
    refine W.p O.mv ?_
    refine W.callS (first := []) (cap := []) [MmO b2 s (⟨grT (getName s u.at_), !decide (grE (getName s u.at_) = 0)⟩ : TS)] rfl (vt rfl) (AV.cons (vt rfl) (AV.cons (vt rfl) (AV.nil))) (fun w hu hh => ref_nu w hh hs) ?_; rintro _ _ ⟨rfl, rfl⟩
    refine W.p (O.bd (hv := PV.cons (vt rfl) (PV.cons (vt rfl) (PV.nil)))) ?_
    refine W.al rfl rfl fun b4 => ?_
    refine W.st (vt rfl) (vt rfl) rfl ?_
    refine WL.nil (Q.tn ?_)
    refine CW.seq ?_
    refine CW.region ?_
    refine W.p O.mv ?_
    refine W.p O.mv ?_
    refine W.callS (first := []) (cap := []) [MmO b2 s (nuR s 2 (⟨grT (getName s u.at_), !decide (grE (getName s u.at_) = 0)⟩ : TS)).2] rfl (vt rfl) (AV.cons (vt rfl) (AV.cons (vt rfl) (AV.nil))) (fun w hu hh => ref_nu w hh hs) ?_; rintro _ _ ⟨rfl, rfl⟩
    refine W.p O.neI ?_
    refine W.p O.mv ?_
    refine W.p O.mv ?_
    refine W.p O.nc ?_
    first | refine W.p O.fb ?_ | refine W.p O.fa ?_
    refine W.p O.ld ?_
    refine W.p O.pkB ?_
    refine W.p O.nc ?_
    first | refine W.p O.fb ?_ | refine W.p O.fa ?_
    refine W.st (vt rfl) (vt rfl) rfl ?_
    refine WL.nil (Q.tn ?_)
    refine CW.region ?_
    first | refine W.p O.fb ?_ | refine W.p O.fa ?_
    refine W.p O.ld ?_
    refine W.p O.lds ?_
    refine W.bs encQ [(rAsk s u).1] rfl (PV.cons (vt rfl) (PV.nil)) rfl rfl rfl (by decide) rfl fun b5 => ?_
    refine W.ap rfl (vt rfl) (vt rfl) (by first | rfl | omega) (by first | rfl | omega) rfl (by first | assumption | exact OwnOk.nil | exact OwnOk.lit) (by first | omega | (simp; omega)) fun o1 c1 sp1 ok1 ne1 gt1 => ?_
    have nk1 := ok1.nk; have le1 := ok1.2.2.1; try simp only [List.length_append, List.length_cons, List.length_nil] at le1
    first | refine W.p O.fb ?_ | refine W.p O.fa ?_
    first | refine W.st (vt rfl) (vt rfl) rfl ?_ | refine W.st (u := .slice _ _ _) (vt rfl) (vt rfl) rfl ?_
    refine WL.nil (Q.bn (Q.tn ?_))
    refine CW.region ?_
    refine W.p O.mv ?_
    first | refine W.p O.addN ?_ | refine W.p O.add ?_
    refine W.p O.as ?_
    refine WL.nil (Q.tn ?_)
    refine nextA (i + 1, out ++ [(rAsk s u).1], (rAsk s u).2, _, _, _) ?_ ?_
    · try dsimp only
      refine ⟨by omega, by omega, by assumption, ?_, by simp only [List.length_append, List.length_cons, List.length_nil]; omega⟩
      rw [← hr, lp_step (k := (nuR s 2 (rSt s 2)).1 - i) (by omega) hc1.2 (by show out.length ≤ 1000000; omega), show (nuR s 2 (rSt s 2)).1 - i - 1 = (nuR s 2 (rSt s 2)).1 - (i + 1) by omega]
    · try dsimp only
      omega
  try simp only [sk] at hc1
  have hq : (lpM (rAsk s) bigC (nuR s 2 (rSt s 2)).1.toNat [] (⟨(rSt s 6).at_, ((rSt s 6).bad || !decide (bits .and .i64 (nuR s 2 (rSt s 1)).1 240 = 0) || decide (4 < (nuR s 2 (rSt s 2)).1) || decide (32 < (nuR s 2 (rSt s 3)).1) || decide (32 < (nuR s 2 (rSt s 4)).1) || decide (33 < (nuR s 2 (rSt s 5)).1))⟩ : TS)) = (out, u) := by rw [← hr]; exact lp_stop (by rcases hc1 with h | h; exact .inl (by omega); exact .inr (.inl (by simpa using h)))
  have hq1 : out = (lpM (rAsk s) bigC (nuR s 2 (rSt s 2)).1.toNat [] (⟨(rSt s 6).at_, ((rSt s 6).bad || !decide (bits .and .i64 (nuR s 2 (rSt s 1)).1 240 = 0) || decide (4 < (nuR s 2 (rSt s 2)).1) || decide (32 < (nuR s 2 (rSt s 3)).1) || decide (32 < (nuR s 2 (rSt s 4)).1) || decide (33 < (nuR s 2 (rSt s 5)).1))⟩ : TS)).1 := by rw [hq]
  have hq2 : u = (lpM (rAsk s) bigC (nuR s 2 (rSt s 2)).1.toNat [] (⟨(rSt s 6).at_, ((rSt s 6).bad || !decide (bits .and .i64 (nuR s 2 (rSt s 1)).1 240 = 0) || decide (4 < (nuR s 2 (rSt s 2)).1) || decide (32 < (nuR s 2 (rSt s 3)).1) || decide (32 < (nuR s 2 (rSt s 4)).1) || decide (33 < (nuR s 2 (rSt s 5)).1))⟩ : TS)).2 := by rw [hq]
  clear hr hc1 hq
  subst hq1
  subst hq2
  refine CW.exit (Q.te (Q.te (Q.bx (Q.tn ?_))))
  refine CW.seq ?_
  refine CW.region ?_
  refine W.p O.mv ?_
  refine W.p O.mv ?_
  refine W.callS (first := []) (cap := []) [MmO b2 s (lpM (rAsk s) bigC (nuR s 2 (rSt s 2)).1.toNat [] (⟨(rSt s 6).at_, ((rSt s 6).bad || !decide (bits .and .i64 (nuR s 2 (rSt s 1)).1 240 = 0) || decide (4 < (nuR s 2 (rSt s 2)).1) || decide (32 < (nuR s 2 (rSt s 3)).1) || decide (32 < (nuR s 2 (rSt s 4)).1) || decide (33 < (nuR s 2 (rSt s 5)).1))⟩ : TS)).2] rfl (vt rfl) (AV.cons (vt rfl) (AV.cons (vt rfl) (AV.nil))) (fun w hu hh => ref_rrs (nuR s 2 (rSt s 3)).1 w hh hs (by omega)) ?_; rintro _ _ ⟨o12, c12, p12, rfl, ok12, rfl⟩; have nk12 := ok12.nk (α := RR) (xs := (lpM (rRec s) bigC (nuR s 2 (rSt s 3)).1.toNat [] (lpM (rAsk s) bigC (nuR s 2 (rSt s 2)).1.toNat [] (⟨(rSt s 6).at_, ((rSt s 6).bad || !decide (bits .and .i64 (nuR s 2 (rSt s 1)).1 240 = 0) || decide (4 < (nuR s 2 (rSt s 2)).1) || decide (32 < (nuR s 2 (rSt s 3)).1) || decide (32 < (nuR s 2 (rSt s 4)).1) || decide (33 < (nuR s 2 (rSt s 5)).1))⟩ : TS)).2).1)
  first | refine W.p O.fb ?_ | refine W.p O.fa ?_
  first | refine W.st (vt rfl) (vt rfl) rfl ?_ | refine W.st (u := .slice _ _ _) (vt rfl) (vt rfl) rfl ?_
  refine WL.nil (Q.tn ?_)
  refine CW.seq ?_
  refine CW.region ?_
  refine W.p O.mv ?_
  refine W.p O.mv ?_
  refine W.callS (first := []) (cap := []) [MmO b2 s (lpM (rRec s) bigC (nuR s 2 (rSt s 3)).1.toNat [] (lpM (rAsk s) bigC (nuR s 2 (rSt s 2)).1.toNat [] (⟨(rSt s 6).at_, ((rSt s 6).bad || !decide (bits .and .i64 (nuR s 2 (rSt s 1)).1 240 = 0) || decide (4 < (nuR s 2 (rSt s 2)).1) || decide (32 < (nuR s 2 (rSt s 3)).1) || decide (32 < (nuR s 2 (rSt s 4)).1) || decide (33 < (nuR s 2 (rSt s 5)).1))⟩ : TS)).2).2] rfl (vt rfl) (AV.cons (vt rfl) (AV.cons (vt rfl) (AV.nil))) (fun w hu hh => ref_rrs (nuR s 2 (rSt s 4)).1 w hh hs (by omega)) ?_; rintro _ _ ⟨o13, c13, p13, rfl, ok13, rfl⟩; have nk13 := ok13.nk (α := RR) (xs := (lpM (rRec s) bigC (nuR s 2 (rSt s 4)).1.toNat [] (lpM (rRec s) bigC (nuR s 2 (rSt s 3)).1.toNat [] (lpM (rAsk s) bigC (nuR s 2 (rSt s 2)).1.toNat [] (⟨(rSt s 6).at_, ((rSt s 6).bad || !decide (bits .and .i64 (nuR s 2 (rSt s 1)).1 240 = 0) || decide (4 < (nuR s 2 (rSt s 2)).1) || decide (32 < (nuR s 2 (rSt s 3)).1) || decide (32 < (nuR s 2 (rSt s 4)).1) || decide (33 < (nuR s 2 (rSt s 5)).1))⟩ : TS)).2).2).1)
  first | refine W.p O.fb ?_ | refine W.p O.fa ?_
  first | refine W.st (vt rfl) (vt rfl) rfl ?_ | refine W.st (u := .slice _ _ _) (vt rfl) (vt rfl) rfl ?_
  refine WL.nil (Q.tn ?_)
  refine CW.seq ?_
  refine CW.seq ?_
  refine CW.region ?_
  refine W.p O.as ?_
  refine WL.nil (Q.tn ?_)
  refine CW.block ?_
  refine CW.permH (L' := DnO b3 (hdD (nuR s 2 (rSt s 1)).1 (nuR s 2 (rSt s 0)).1 (lpM (rAsk s) bigC (nuR s 2 (rSt s 2)).1.toNat [] (⟨(rSt s 6).at_, ((rSt s 6).bad || !decide (bits .and .i64 (nuR s 2 (rSt s 1)).1 240 = 0) || decide (4 < (nuR s 2 (rSt s 2)).1) || decide (32 < (nuR s 2 (rSt s 3)).1) || decide (32 < (nuR s 2 (rSt s 4)).1) || decide (33 < (nuR s 2 (rSt s 5)).1))⟩ : TS)).1 (lpM (rRec s) bigC (nuR s 2 (rSt s 3)).1.toNat [] (lpM (rAsk s) bigC (nuR s 2 (rSt s 2)).1.toNat [] (⟨(rSt s 6).at_, ((rSt s 6).bad || !decide (bits .and .i64 (nuR s 2 (rSt s 1)).1 240 = 0) || decide (4 < (nuR s 2 (rSt s 2)).1) || decide (32 < (nuR s 2 (rSt s 3)).1) || decide (32 < (nuR s 2 (rSt s 4)).1) || decide (33 < (nuR s 2 (rSt s 5)).1))⟩ : TS)).2).1 (lpM (rRec s) bigC (nuR s 2 (rSt s 4)).1.toNat [] (lpM (rRec s) bigC (nuR s 2 (rSt s 3)).1.toNat [] (lpM (rAsk s) bigC (nuR s 2 (rSt s 2)).1.toNat [] (⟨(rSt s 6).at_, ((rSt s 6).bad || !decide (bits .and .i64 (nuR s 2 (rSt s 1)).1 240 = 0) || decide (4 < (nuR s 2 (rSt s 2)).1) || decide (32 < (nuR s 2 (rSt s 3)).1) || decide (32 < (nuR s 2 (rSt s 4)).1) || decide (33 < (nuR s 2 (rSt s 5)).1))⟩ : TS)).2).2).1 [] 0) (oa o, cc) (oa o12, c12) (oa o13, c13) nS :: (MmO b2 s (lpM (rRec s) bigC (nuR s 2 (rSt s 4)).1.toNat [] (lpM (rRec s) bigC (nuR s 2 (rSt s 3)).1.toNat [] (lpM (rAsk s) bigC (nuR s 2 (rSt s 2)).1.toNat [] (⟨(rSt s 6).at_, ((rSt s 6).bad || !decide (bits .and .i64 (nuR s 2 (rSt s 1)).1 240 = 0) || decide (4 < (nuR s 2 (rSt s 2)).1) || decide (32 < (nuR s 2 (rSt s 3)).1) || decide (32 < (nuR s 2 (rSt s 4)).1) || decide (33 < (nuR s 2 (rSt s 5)).1))⟩ : TS)).2).2).2 :: (rowL o13 96 (flat encR (lpM (rRec s) bigC (nuR s 2 (rSt s 4)).1.toNat [] (lpM (rRec s) bigC (nuR s 2 (rSt s 3)).1.toNat [] (lpM (rAsk s) bigC (nuR s 2 (rSt s 2)).1.toNat [] (⟨(rSt s 6).at_, ((rSt s 6).bad || !decide (bits .and .i64 (nuR s 2 (rSt s 1)).1 240 = 0) || decide (4 < (nuR s 2 (rSt s 2)).1) || decide (32 < (nuR s 2 (rSt s 3)).1) || decide (32 < (nuR s 2 (rSt s 4)).1) || decide (33 < (nuR s 2 (rSt s 5)).1))⟩ : TS)).2).2).1 p13) ++ (rowL o12 96 (flat encR (lpM (rRec s) bigC (nuR s 2 (rSt s 3)).1.toNat [] (lpM (rAsk s) bigC (nuR s 2 (rSt s 2)).1.toNat [] (⟨(rSt s 6).at_, ((rSt s 6).bad || !decide (bits .and .i64 (nuR s 2 (rSt s 1)).1 240 = 0) || decide (4 < (nuR s 2 (rSt s 2)).1) || decide (32 < (nuR s 2 (rSt s 3)).1) || decide (32 < (nuR s 2 (rSt s 4)).1) || decide (33 < (nuR s 2 (rSt s 5)).1))⟩ : TS)).2).1 p12) ++ ((DnO b1 noD nS nS nS nS) :: rowL o 126 (flat encQ (lpM (rAsk s) bigC (nuR s 2 (rSt s 2)).1.toNat [] (⟨(rSt s 6).at_, ((rSt s 6).bad || !decide (bits .and .i64 (nuR s 2 (rSt s 1)).1 240 = 0) || decide (4 < (nuR s 2 (rSt s 2)).1) || decide (32 < (nuR s 2 (rSt s 3)).1) || decide (32 < (nuR s 2 (rSt s 4)).1) || decide (33 < (nuR s 2 (rSt s 5)).1))⟩ : TS)).1 sp)))))) (List.perm_append_comm.trans (by simp only [List.append_assoc, List.cons_append, List.nil_append]; exact List.Perm.refl _)) ?_
  refine CW.loopA (X := Int × (List RR) × Int × TS × (Option Nat) × Nat × (List Value)) (fun ⟨i, out, z, u, o2, cc2, sp2⟩ => [(0, true, .string (S s)), (2, true, .pointer (some ⟨b1, 0, none⟩)), (4, true, .pointer (some ⟨b2, 0, none⟩)), (5, true, .pointer (some ⟨b3, 0, none⟩)), (10, true, .int .i64 (nuR s 2 (rSt s 5)).1), (16, true, .int .i64 i)]) (fun ⟨i, out, z, u, o2, cc2, sp2⟩ => rowL o2 96 (flat encR out sp2) ++ ((DnO b3 (hdD (nuR s 2 (rSt s 1)).1 (nuR s 2 (rSt s 0)).1 (lpM (rAsk s) bigC (nuR s 2 (rSt s 2)).1.toNat [] (⟨(rSt s 6).at_, ((rSt s 6).bad || !decide (bits .and .i64 (nuR s 2 (rSt s 1)).1 240 = 0) || decide (4 < (nuR s 2 (rSt s 2)).1) || decide (32 < (nuR s 2 (rSt s 3)).1) || decide (32 < (nuR s 2 (rSt s 4)).1) || decide (33 < (nuR s 2 (rSt s 5)).1))⟩ : TS)).1 (lpM (rRec s) bigC (nuR s 2 (rSt s 3)).1.toNat [] (lpM (rAsk s) bigC (nuR s 2 (rSt s 2)).1.toNat [] (⟨(rSt s 6).at_, ((rSt s 6).bad || !decide (bits .and .i64 (nuR s 2 (rSt s 1)).1 240 = 0) || decide (4 < (nuR s 2 (rSt s 2)).1) || decide (32 < (nuR s 2 (rSt s 3)).1) || decide (32 < (nuR s 2 (rSt s 4)).1) || decide (33 < (nuR s 2 (rSt s 5)).1))⟩ : TS)).2).1 (lpM (rRec s) bigC (nuR s 2 (rSt s 4)).1.toNat [] (lpM (rRec s) bigC (nuR s 2 (rSt s 3)).1.toNat [] (lpM (rAsk s) bigC (nuR s 2 (rSt s 2)).1.toNat [] (⟨(rSt s 6).at_, ((rSt s 6).bad || !decide (bits .and .i64 (nuR s 2 (rSt s 1)).1 240 = 0) || decide (4 < (nuR s 2 (rSt s 2)).1) || decide (32 < (nuR s 2 (rSt s 3)).1) || decide (32 < (nuR s 2 (rSt s 4)).1) || decide (33 < (nuR s 2 (rSt s 5)).1))⟩ : TS)).2).2).1 out z) (oa o, cc) (oa o12, c12) (oa o13, c13) (oa o2, cc2)) :: (MmO b2 s u :: (rowL o13 96 (flat encR (lpM (rRec s) bigC (nuR s 2 (rSt s 4)).1.toNat [] (lpM (rRec s) bigC (nuR s 2 (rSt s 3)).1.toNat [] (lpM (rAsk s) bigC (nuR s 2 (rSt s 2)).1.toNat [] (⟨(rSt s 6).at_, ((rSt s 6).bad || !decide (bits .and .i64 (nuR s 2 (rSt s 1)).1 240 = 0) || decide (4 < (nuR s 2 (rSt s 2)).1) || decide (32 < (nuR s 2 (rSt s 3)).1) || decide (32 < (nuR s 2 (rSt s 4)).1) || decide (33 < (nuR s 2 (rSt s 5)).1))⟩ : TS)).2).2).1 p13) ++ (rowL o12 96 (flat encR (lpM (rRec s) bigC (nuR s 2 (rSt s 3)).1.toNat [] (lpM (rAsk s) bigC (nuR s 2 (rSt s 2)).1.toNat [] (⟨(rSt s 6).at_, ((rSt s 6).bad || !decide (bits .and .i64 (nuR s 2 (rSt s 1)).1 240 = 0) || decide (4 < (nuR s 2 (rSt s 2)).1) || decide (32 < (nuR s 2 (rSt s 3)).1) || decide (32 < (nuR s 2 (rSt s 4)).1) || decide (33 < (nuR s 2 (rSt s 5)).1))⟩ : TS)).2).1 p12) ++ ((DnO b1 noD nS nS nS nS) :: rowL o 126 (flat encQ (lpM (rAsk s) bigC (nuR s 2 (rSt s 2)).1.toNat [] (⟨(rSt s 6).at_, ((rSt s 6).bad || !decide (bits .and .i64 (nuR s 2 (rSt s 1)).1 240 = 0) || decide (4 < (nuR s 2 (rSt s 2)).1) || decide (32 < (nuR s 2 (rSt s 3)).1) || decide (32 < (nuR s 2 (rSt s 4)).1) || decide (33 < (nuR s 2 (rSt s 5)).1))⟩ : TS)).1 sp))))))) (fun ⟨i, out, z, u, o2, cc2, sp2⟩ => 0 ≤ i ∧ i ≤ (nuR s 2 (rSt s 5)).1 ∧ OwnOk o2 cc2 7 out.length sp2.length ∧ adR s ((nuR s 2 (rSt s 5)).1 - i).toNat out z u = (adR s (nuR s 2 (rSt s 5)).1.toNat [] 0 (lpM (rRec s) bigC (nuR s 2 (rSt s 4)).1.toNat [] (lpM (rRec s) bigC (nuR s 2 (rSt s 3)).1.toNat [] (lpM (rAsk s) bigC (nuR s 2 (rSt s 2)).1.toNat [] (⟨(rSt s 6).at_, ((rSt s 6).bad || !decide (bits .and .i64 (nuR s 2 (rSt s 1)).1 240 = 0) || decide (4 < (nuR s 2 (rSt s 2)).1) || decide (32 < (nuR s 2 (rSt s 3)).1) || decide (32 < (nuR s 2 (rSt s 4)).1) || decide (33 < (nuR s 2 (rSt s 5)).1))⟩ : TS)).2).2).2) ∧ out.length ≤ i) (fun ⟨i, out, z, u, o2, cc2, sp2⟩ => ((nuR s 2 (rSt s 5)).1 - i).toNat) (0, [], 0, (lpM (rRec s) bigC (nuR s 2 (rSt s 4)).1.toNat [] (lpM (rRec s) bigC (nuR s 2 (rSt s 3)).1.toNat [] (lpM (rAsk s) bigC (nuR s 2 (rSt s 2)).1.toNat [] (⟨(rSt s 6).at_, ((rSt s 6).bad || !decide (bits .and .i64 (nuR s 2 (rSt s 1)).1 240 = 0) || decide (4 < (nuR s 2 (rSt s 2)).1) || decide (32 < (nuR s 2 (rSt s 3)).1) || decide (32 < (nuR s 2 (rSt s 4)).1) || decide (33 < (nuR s 2 (rSt s 5)).1))⟩ : TS)).2).2).2, none, 0, []) ?_ ?_
  · exact ⟨by omega, by omega, OwnOk.nil, by rw [Int.sub_zero], by simp⟩
  rintro ⟨i, out, z, u, o2, cc2, sp2⟩ hI
  try dsimp only at hI ⊢
  obtain ⟨h0, h1, ok8, hr, hl⟩ := hI
  have nk8 := ok8.nk (α := RR) (xs := out)
  refine CW.seq ?_
  refine CW.seq ?_
  refine CW.region ?_
  refine W.p O.mv ?_
  refine W.p O.mv ?_
  refine W.p O.lss ?_
  refine W.p O.mv ?_
  refine W.p O.mv ?_
  refine W.p O.nc ?_
  first | refine W.p O.fb ?_ | refine W.p O.fa ?_
  refine W.p O.ld ?_
  refine W.p O.nt ?_
  refine W.p O.pkB ?_
  refine WL.nil (Q.tn ?_)
  refine CW.cond (vt rfl) (fun hc2 => ?_) (fun hc2 => ?_)
  · try simp only [sk] at hc2
    refine CW.skip (Q.tn ?_)
    refine CW.seq ?_
    refine CW.block ?_
    refine CW.seq ?_
    refine CW.region ?_
    refine W.p O.mv ?_
    refine W.callS (first := []) (cap := []) [MmO b2 s u] rfl (vt rfl) (AV.cons (vt rfl) (AV.nil)) (fun w hu hh => ref_opt w hh hs) ?_; rintro _ _ ⟨rfl, rfl⟩
    refine W.p O.mv ?_
    first | refine W.p O.extL ?_ | refine W.p O.ext ?_
    first | refine W.p O.extL ?_ | refine W.p O.ext ?_
    first | refine W.p O.extL ?_ | refine W.p O.ext ?_
    refine W.p O.as ?_
    refine W.p O.as ?_
    refine W.p O.as ?_
    refine WL.nil (Q.tn ?_)
    refine CW.seq ?_
    refine CW.seq ?_
    refine CW.region ?_
    refine W.p O.mv ?_
    refine W.p O.mv ?_
    first | refine W.p O.fb ?_ | refine W.p O.fa ?_
    refine W.p O.ld ?_
    refine W.p O.eqI ?_
    refine W.p O.pkB ?_
    refine WL.nil (Q.tn ?_)
    refine CW.cond (vt rfl) (fun hc3 => ?_) (fun hc3 => ?_)
    · try simp only [sk] at hc3
      refine CW.seq ?_
      refine CW.region ?_
      refine W.p O.mv ?_
      first | refine W.p O.fb ?_ | refine W.p O.fa ?_
      first | refine W.st (vt rfl) (vt rfl) rfl ?_ | refine W.st (u := .int _ _) (vt rfl) (vt rfl) rfl ?_
      refine WL.nil (Q.tn ?_)
      refine CW.seq ?_
      refine CW.region ?_
      refine W.p O.mv ?_
      refine W.p O.mv ?_
      refine W.p O.nc ?_
      first | refine W.p O.fb ?_ | refine W.p O.fa ?_
      first | refine W.st (vt rfl) (vt rfl) rfl ?_ | refine W.st (u := .int _ _) (vt rfl) (vt rfl) rfl ?_
      refine WL.nil (Q.tn ?_)
      refine CW.exit (Q.te (Q.bx (Q.tn ?_)))
      refine CW.region ?_
      refine W.p O.mv ?_
      first | refine W.p O.addN ?_ | refine W.p O.add ?_
      refine W.p O.as ?_
      refine WL.nil (Q.tn ?_)
      refine nextA (i + 1, out, (optA s u.at_).1, ⟨(optA s u.at_).2.1, u.bad⟩, o2, cc2, sp2) ?_ ?_
      · try dsimp only
        refine ⟨by omega, by omega, ok8, ?_, by omega⟩
        rw [← hr, adR_opt (k := (nuR s 2 (rSt s 5)).1 - i) (by omega) hc2.2 hc3.1 hc3.2, show (nuR s 2 (rSt s 5)).1 - i - 1 = (nuR s 2 (rSt s 5)).1 - (i + 1) by omega, hc2.2]
      · try dsimp only
        omega
    try simp only [sk] at hc3
    refine CW.skip (Q.tn ?_)
    refine CW.drawH [] rfl ?_
    first | refine RH.qa 0 rfl (O.fb) ?_ | refine RH.qa 0 rfl (O.fa) ?_
    refine RH.qa 2 rfl (O.mv) ?_
    refine RH.two (i := 1) (j := 3) (fun _ _ h => h) (by kernel_rfl) rfl rfl ?_ ?_
    · refine W.p O.ld ?_
      refine WL.nilQa ?_
      refine RH.one (i := 3) (fun _ _ h => h) (by kernel_rfl) rfl ?_
      refine W.callS (first := []) (cap := []) [MmO b2 s u] rfl (vt rfl) (AV.cons (vt rfl) (AV.cons (vt rfl) (AV.nil))) (fun w hu hh => ref_rrs1 w hh hs hc2.2) ?_; rintro _ _ ⟨o14, c14, p14, rfl, ok14, rfl⟩; have nk14 := ok14.nk (α := RR) (xs := [(rRec s u).1]); refine WL.permH (L' := rowL o2 96 (flat encR out sp2) ++ ((DnO b3 (hdD (nuR s 2 (rSt s 1)).1 (nuR s 2 (rSt s 0)).1 (lpM (rAsk s) bigC (nuR s 2 (rSt s 2)).1.toNat [] (⟨(rSt s 6).at_, ((rSt s 6).bad || !decide (bits .and .i64 (nuR s 2 (rSt s 1)).1 240 = 0) || decide (4 < (nuR s 2 (rSt s 2)).1) || decide (32 < (nuR s 2 (rSt s 3)).1) || decide (32 < (nuR s 2 (rSt s 4)).1) || decide (33 < (nuR s 2 (rSt s 5)).1))⟩ : TS)).1 (lpM (rRec s) bigC (nuR s 2 (rSt s 3)).1.toNat [] (lpM (rAsk s) bigC (nuR s 2 (rSt s 2)).1.toNat [] (⟨(rSt s 6).at_, ((rSt s 6).bad || !decide (bits .and .i64 (nuR s 2 (rSt s 1)).1 240 = 0) || decide (4 < (nuR s 2 (rSt s 2)).1) || decide (32 < (nuR s 2 (rSt s 3)).1) || decide (32 < (nuR s 2 (rSt s 4)).1) || decide (33 < (nuR s 2 (rSt s 5)).1))⟩ : TS)).2).1 (lpM (rRec s) bigC (nuR s 2 (rSt s 4)).1.toNat [] (lpM (rRec s) bigC (nuR s 2 (rSt s 3)).1.toNat [] (lpM (rAsk s) bigC (nuR s 2 (rSt s 2)).1.toNat [] (⟨(rSt s 6).at_, ((rSt s 6).bad || !decide (bits .and .i64 (nuR s 2 (rSt s 1)).1 240 = 0) || decide (4 < (nuR s 2 (rSt s 2)).1) || decide (32 < (nuR s 2 (rSt s 3)).1) || decide (32 < (nuR s 2 (rSt s 4)).1) || decide (33 < (nuR s 2 (rSt s 5)).1))⟩ : TS)).2).2).1 out z) (oa o, cc) (oa o12, c12) (oa o13, c13) (oa o2, cc2)) :: (MmO b2 s (rRec s u).2 :: (rowL o14 96 (flat encR [(rRec s u).1] p14) ++ (rowL o13 96 (flat encR (lpM (rRec s) bigC (nuR s 2 (rSt s 4)).1.toNat [] (lpM (rRec s) bigC (nuR s 2 (rSt s 3)).1.toNat [] (lpM (rAsk s) bigC (nuR s 2 (rSt s 2)).1.toNat [] (⟨(rSt s 6).at_, ((rSt s 6).bad || !decide (bits .and .i64 (nuR s 2 (rSt s 1)).1 240 = 0) || decide (4 < (nuR s 2 (rSt s 2)).1) || decide (32 < (nuR s 2 (rSt s 3)).1) || decide (32 < (nuR s 2 (rSt s 4)).1) || decide (33 < (nuR s 2 (rSt s 5)).1))⟩ : TS)).2).2).1 p13) ++ (rowL o12 96 (flat encR (lpM (rRec s) bigC (nuR s 2 (rSt s 3)).1.toNat [] (lpM (rAsk s) bigC (nuR s 2 (rSt s 2)).1.toNat [] (⟨(rSt s 6).at_, ((rSt s 6).bad || !decide (bits .and .i64 (nuR s 2 (rSt s 1)).1 240 = 0) || decide (4 < (nuR s 2 (rSt s 2)).1) || decide (32 < (nuR s 2 (rSt s 3)).1) || decide (32 < (nuR s 2 (rSt s 4)).1) || decide (33 < (nuR s 2 (rSt s 5)).1))⟩ : TS)).2).1 p12) ++ ((DnO b1 noD nS nS nS nS) :: rowL o 126 (flat encQ (lpM (rAsk s) bigC (nuR s 2 (rSt s 2)).1.toNat [] (⟨(rSt s 6).at_, ((rSt s 6).bad || !decide (bits .and .i64 (nuR s 2 (rSt s 1)).1 240 = 0) || decide (4 < (nuR s 2 (rSt s 2)).1) || decide (32 < (nuR s 2 (rSt s 3)).1) || decide (32 < (nuR s 2 (rSt s 4)).1) || decide (33 < (nuR s 2 (rSt s 5)).1))⟩ : TS)).1 sp)))))))) (by simp only [List.append_assoc, List.cons_append, List.nil_append]; exact List.Perm.refl _) ?_
      refine WL.nilQa ?_
      refine RH.one (i := 4) (fun _ _ h => h) (by kernel_rfl) rfl ?_
      refine W.ap rfl (vt rfl) (vt rfl) (by first | rfl | omega) (by first | rfl | omega) rfl (by first | assumption | exact OwnOk.nil | exact OwnOk.lit) (by first | omega | (simp; omega)) fun o2 c2 sp2 ok2 ne2 gt2 => ?_
      have nk2 := ok2.nk; have le2 := ok2.2.2.1; try simp only [List.length_append, List.length_cons, List.length_nil] at le2
      refine WL.nilQa ?_
      first | refine RH.qa 5 rfl (O.fb) ?_ | refine RH.qa 5 rfl (O.fa) ?_
      refine RH.one (i := 6) (fun _ _ h => h) (by kernel_rfl) rfl ?_
      first | refine W.st (vt rfl) (vt rfl) rfl ?_ | refine W.st (u := .slice _ _ _) (vt rfl) (vt rfl) rfl ?_
      refine WL.nilQa ?_
      refine RH.done (by kernel_rfl) (Q.bn (Q.tn ?_))
      refine CW.region ?_
      refine W.p O.mv ?_
      first | refine W.p O.addN ?_ | refine W.p O.add ?_
      refine W.p O.as ?_
      refine WL.nil (Q.tn ?_)
      refine nextA (i + 1, out ++ [(rRec s u).1], z, (rRec s u).2, _, _, _) ?_ ?_
      · try dsimp only
        refine ⟨by omega, by omega, by assumption, ?_, by simp only [List.length_append, List.length_cons, List.length_nil]; omega⟩
        rw [← hr, adR_rec (k := (nuR s 2 (rSt s 5)).1 - i) (by omega) hc2.2 hc3, show (nuR s 2 (rSt s 5)).1 - i - 1 = (nuR s 2 (rSt s 5)).1 - (i + 1) by omega]
      · try dsimp only
        omega
    · refine W.callS (first := []) (cap := []) [MmO b2 s u] rfl (vt rfl) (AV.cons (vt rfl) (AV.cons (vt rfl) (AV.nil))) (fun w hu hh => ref_rrs1 w hh hs hc2.2) ?_; rintro _ _ ⟨o14, c14, p14, rfl, ok14, rfl⟩; have nk14 := ok14.nk (α := RR) (xs := [(rRec s u).1]); refine WL.permH (L' := rowL o2 96 (flat encR out sp2) ++ ((DnO b3 (hdD (nuR s 2 (rSt s 1)).1 (nuR s 2 (rSt s 0)).1 (lpM (rAsk s) bigC (nuR s 2 (rSt s 2)).1.toNat [] (⟨(rSt s 6).at_, ((rSt s 6).bad || !decide (bits .and .i64 (nuR s 2 (rSt s 1)).1 240 = 0) || decide (4 < (nuR s 2 (rSt s 2)).1) || decide (32 < (nuR s 2 (rSt s 3)).1) || decide (32 < (nuR s 2 (rSt s 4)).1) || decide (33 < (nuR s 2 (rSt s 5)).1))⟩ : TS)).1 (lpM (rRec s) bigC (nuR s 2 (rSt s 3)).1.toNat [] (lpM (rAsk s) bigC (nuR s 2 (rSt s 2)).1.toNat [] (⟨(rSt s 6).at_, ((rSt s 6).bad || !decide (bits .and .i64 (nuR s 2 (rSt s 1)).1 240 = 0) || decide (4 < (nuR s 2 (rSt s 2)).1) || decide (32 < (nuR s 2 (rSt s 3)).1) || decide (32 < (nuR s 2 (rSt s 4)).1) || decide (33 < (nuR s 2 (rSt s 5)).1))⟩ : TS)).2).1 (lpM (rRec s) bigC (nuR s 2 (rSt s 4)).1.toNat [] (lpM (rRec s) bigC (nuR s 2 (rSt s 3)).1.toNat [] (lpM (rAsk s) bigC (nuR s 2 (rSt s 2)).1.toNat [] (⟨(rSt s 6).at_, ((rSt s 6).bad || !decide (bits .and .i64 (nuR s 2 (rSt s 1)).1 240 = 0) || decide (4 < (nuR s 2 (rSt s 2)).1) || decide (32 < (nuR s 2 (rSt s 3)).1) || decide (32 < (nuR s 2 (rSt s 4)).1) || decide (33 < (nuR s 2 (rSt s 5)).1))⟩ : TS)).2).2).1 out z) (oa o, cc) (oa o12, c12) (oa o13, c13) (oa o2, cc2)) :: (MmO b2 s (rRec s u).2 :: (rowL o14 96 (flat encR [(rRec s u).1] p14) ++ (rowL o13 96 (flat encR (lpM (rRec s) bigC (nuR s 2 (rSt s 4)).1.toNat [] (lpM (rRec s) bigC (nuR s 2 (rSt s 3)).1.toNat [] (lpM (rAsk s) bigC (nuR s 2 (rSt s 2)).1.toNat [] (⟨(rSt s 6).at_, ((rSt s 6).bad || !decide (bits .and .i64 (nuR s 2 (rSt s 1)).1 240 = 0) || decide (4 < (nuR s 2 (rSt s 2)).1) || decide (32 < (nuR s 2 (rSt s 3)).1) || decide (32 < (nuR s 2 (rSt s 4)).1) || decide (33 < (nuR s 2 (rSt s 5)).1))⟩ : TS)).2).2).1 p13) ++ (rowL o12 96 (flat encR (lpM (rRec s) bigC (nuR s 2 (rSt s 3)).1.toNat [] (lpM (rAsk s) bigC (nuR s 2 (rSt s 2)).1.toNat [] (⟨(rSt s 6).at_, ((rSt s 6).bad || !decide (bits .and .i64 (nuR s 2 (rSt s 1)).1 240 = 0) || decide (4 < (nuR s 2 (rSt s 2)).1) || decide (32 < (nuR s 2 (rSt s 3)).1) || decide (32 < (nuR s 2 (rSt s 4)).1) || decide (33 < (nuR s 2 (rSt s 5)).1))⟩ : TS)).2).1 p12) ++ ((DnO b1 noD nS nS nS nS) :: rowL o 126 (flat encQ (lpM (rAsk s) bigC (nuR s 2 (rSt s 2)).1.toNat [] (⟨(rSt s 6).at_, ((rSt s 6).bad || !decide (bits .and .i64 (nuR s 2 (rSt s 1)).1 240 = 0) || decide (4 < (nuR s 2 (rSt s 2)).1) || decide (32 < (nuR s 2 (rSt s 3)).1) || decide (32 < (nuR s 2 (rSt s 4)).1) || decide (33 < (nuR s 2 (rSt s 5)).1))⟩ : TS)).1 sp)))))))) (by simp only [List.append_assoc, List.cons_append, List.nil_append]; exact List.Perm.refl _) ?_
      refine WL.nilQa ?_
      refine RH.one (i := 1) (fun _ _ h => h) (by kernel_rfl) rfl ?_
      refine W.p O.ld ?_
      refine WL.nilQa ?_
      refine RH.one (i := 4) (fun _ _ h => h) (by kernel_rfl) rfl ?_
      refine W.ap rfl (vt rfl) (vt rfl) (by first | rfl | omega) (by first | rfl | omega) rfl (by first | assumption | exact OwnOk.nil | exact OwnOk.lit) (by first | omega | (simp; omega)) fun o3 c3 sp3 ok3 ne3 gt3 => ?_
      have nk3 := ok3.nk; have le3 := ok3.2.2.1; try simp only [List.length_append, List.length_cons, List.length_nil] at le3
      refine WL.nilQa ?_
      first | refine RH.qa 5 rfl (O.fb) ?_ | refine RH.qa 5 rfl (O.fa) ?_
      refine RH.one (i := 6) (fun _ _ h => h) (by kernel_rfl) rfl ?_
      first | refine W.st (vt rfl) (vt rfl) rfl ?_ | refine W.st (u := .slice _ _ _) (vt rfl) (vt rfl) rfl ?_
      refine WL.nilQa ?_
      refine RH.done (by kernel_rfl) (Q.bn (Q.tn ?_))
      refine CW.region ?_
      refine W.p O.mv ?_
      first | refine W.p O.addN ?_ | refine W.p O.add ?_
      refine W.p O.as ?_
      refine WL.nil (Q.tn ?_)
      refine nextA (i + 1, out ++ [(rRec s u).1], z, (rRec s u).2, _, _, _) ?_ ?_
      · try dsimp only
        refine ⟨by omega, by omega, by assumption, ?_, by simp only [List.length_append, List.length_cons, List.length_nil]; omega⟩
        rw [← hr, adR_rec (k := (nuR s 2 (rSt s 5)).1 - i) (by omega) hc2.2 hc3, show (nuR s 2 (rSt s 5)).1 - i - 1 = (nuR s 2 (rSt s 5)).1 - (i + 1) by omega]
      · try dsimp only
        omega
  try simp only [sk] at hc2
  have hq : (adR s (nuR s 2 (rSt s 5)).1.toNat [] 0 (lpM (rRec s) bigC (nuR s 2 (rSt s 4)).1.toNat [] (lpM (rRec s) bigC (nuR s 2 (rSt s 3)).1.toNat [] (lpM (rAsk s) bigC (nuR s 2 (rSt s 2)).1.toNat [] (⟨(rSt s 6).at_, ((rSt s 6).bad || !decide (bits .and .i64 (nuR s 2 (rSt s 1)).1 240 = 0) || decide (4 < (nuR s 2 (rSt s 2)).1) || decide (32 < (nuR s 2 (rSt s 3)).1) || decide (32 < (nuR s 2 (rSt s 4)).1) || decide (33 < (nuR s 2 (rSt s 5)).1))⟩ : TS)).2).2).2) = (out, z, u) := by rw [← hr]; exact adR_end (by rcases hc2 with h | h; exact .inl (by omega); exact .inr (by simpa using h))
  have hq1 : out = (adR s (nuR s 2 (rSt s 5)).1.toNat [] 0 (lpM (rRec s) bigC (nuR s 2 (rSt s 4)).1.toNat [] (lpM (rRec s) bigC (nuR s 2 (rSt s 3)).1.toNat [] (lpM (rAsk s) bigC (nuR s 2 (rSt s 2)).1.toNat [] (⟨(rSt s 6).at_, ((rSt s 6).bad || !decide (bits .and .i64 (nuR s 2 (rSt s 1)).1 240 = 0) || decide (4 < (nuR s 2 (rSt s 2)).1) || decide (32 < (nuR s 2 (rSt s 3)).1) || decide (32 < (nuR s 2 (rSt s 4)).1) || decide (33 < (nuR s 2 (rSt s 5)).1))⟩ : TS)).2).2).2).1 := by rw [hq]
  have hq2 : z = (adR s (nuR s 2 (rSt s 5)).1.toNat [] 0 (lpM (rRec s) bigC (nuR s 2 (rSt s 4)).1.toNat [] (lpM (rRec s) bigC (nuR s 2 (rSt s 3)).1.toNat [] (lpM (rAsk s) bigC (nuR s 2 (rSt s 2)).1.toNat [] (⟨(rSt s 6).at_, ((rSt s 6).bad || !decide (bits .and .i64 (nuR s 2 (rSt s 1)).1 240 = 0) || decide (4 < (nuR s 2 (rSt s 2)).1) || decide (32 < (nuR s 2 (rSt s 3)).1) || decide (32 < (nuR s 2 (rSt s 4)).1) || decide (33 < (nuR s 2 (rSt s 5)).1))⟩ : TS)).2).2).2).2.1 := by rw [hq]
  have hq3 : u = (adR s (nuR s 2 (rSt s 5)).1.toNat [] 0 (lpM (rRec s) bigC (nuR s 2 (rSt s 4)).1.toNat [] (lpM (rRec s) bigC (nuR s 2 (rSt s 3)).1.toNat [] (lpM (rAsk s) bigC (nuR s 2 (rSt s 2)).1.toNat [] (⟨(rSt s 6).at_, ((rSt s 6).bad || !decide (bits .and .i64 (nuR s 2 (rSt s 1)).1 240 = 0) || decide (4 < (nuR s 2 (rSt s 2)).1) || decide (32 < (nuR s 2 (rSt s 3)).1) || decide (32 < (nuR s 2 (rSt s 4)).1) || decide (33 < (nuR s 2 (rSt s 5)).1))⟩ : TS)).2).2).2).2.2 := by rw [hq]
  clear hr hc2 hq
  subst hq1
  subst hq2
  subst hq3
  have hfin : dnGet s = if (adR s (nuR s 2 (rSt s 5)).1.toNat [] 0 (lpM (rRec s) bigC (nuR s 2 (rSt s 4)).1.toNat [] (lpM (rRec s) bigC (nuR s 2 (rSt s 3)).1.toNat [] (lpM (rAsk s) bigC (nuR s 2 (rSt s 2)).1.toNat [] (⟨(rSt s 6).at_, ((rSt s 6).bad || !decide (bits .and .i64 (nuR s 2 (rSt s 1)).1 240 = 0) || decide (4 < (nuR s 2 (rSt s 2)).1) || decide (32 < (nuR s 2 (rSt s 3)).1) || decide (32 < (nuR s 2 (rSt s 4)).1) || decide (33 < (nuR s 2 (rSt s 5)).1))⟩ : TS)).2).2).2).2.2.bad = true ∨ (adR s (nuR s 2 (rSt s 5)).1.toNat [] 0 (lpM (rRec s) bigC (nuR s 2 (rSt s 4)).1.toNat [] (lpM (rRec s) bigC (nuR s 2 (rSt s 3)).1.toNat [] (lpM (rAsk s) bigC (nuR s 2 (rSt s 2)).1.toNat [] (⟨(rSt s 6).at_, ((rSt s 6).bad || !decide (bits .and .i64 (nuR s 2 (rSt s 1)).1 240 = 0) || decide (4 < (nuR s 2 (rSt s 2)).1) || decide (32 < (nuR s 2 (rSt s 3)).1) || decide (32 < (nuR s 2 (rSt s 4)).1) || decide (33 < (nuR s 2 (rSt s 5)).1))⟩ : TS)).2).2).2).2.2.at_ ≠ s.length ∨ dnMay (hdD (nuR s 2 (rSt s 1)).1 (nuR s 2 (rSt s 0)).1 (lpM (rAsk s) bigC (nuR s 2 (rSt s 2)).1.toNat [] (⟨(rSt s 6).at_, ((rSt s 6).bad || !decide (bits .and .i64 (nuR s 2 (rSt s 1)).1 240 = 0) || decide (4 < (nuR s 2 (rSt s 2)).1) || decide (32 < (nuR s 2 (rSt s 3)).1) || decide (32 < (nuR s 2 (rSt s 4)).1) || decide (33 < (nuR s 2 (rSt s 5)).1))⟩ : TS)).1 (lpM (rRec s) bigC (nuR s 2 (rSt s 3)).1.toNat [] (lpM (rAsk s) bigC (nuR s 2 (rSt s 2)).1.toNat [] (⟨(rSt s 6).at_, ((rSt s 6).bad || !decide (bits .and .i64 (nuR s 2 (rSt s 1)).1 240 = 0) || decide (4 < (nuR s 2 (rSt s 2)).1) || decide (32 < (nuR s 2 (rSt s 3)).1) || decide (32 < (nuR s 2 (rSt s 4)).1) || decide (33 < (nuR s 2 (rSt s 5)).1))⟩ : TS)).2).1 (lpM (rRec s) bigC (nuR s 2 (rSt s 4)).1.toNat [] (lpM (rRec s) bigC (nuR s 2 (rSt s 3)).1.toNat [] (lpM (rAsk s) bigC (nuR s 2 (rSt s 2)).1.toNat [] (⟨(rSt s 6).at_, ((rSt s 6).bad || !decide (bits .and .i64 (nuR s 2 (rSt s 1)).1 240 = 0) || decide (4 < (nuR s 2 (rSt s 2)).1) || decide (32 < (nuR s 2 (rSt s 3)).1) || decide (32 < (nuR s 2 (rSt s 4)).1) || decide (33 < (nuR s 2 (rSt s 5)).1))⟩ : TS)).2).2).1 (adR s (nuR s 2 (rSt s 5)).1.toNat [] 0 (lpM (rRec s) bigC (nuR s 2 (rSt s 4)).1.toNat [] (lpM (rRec s) bigC (nuR s 2 (rSt s 3)).1.toNat [] (lpM (rAsk s) bigC (nuR s 2 (rSt s 2)).1.toNat [] (⟨(rSt s 6).at_, ((rSt s 6).bad || !decide (bits .and .i64 (nuR s 2 (rSt s 1)).1 240 = 0) || decide (4 < (nuR s 2 (rSt s 2)).1) || decide (32 < (nuR s 2 (rSt s 3)).1) || decide (32 < (nuR s 2 (rSt s 4)).1) || decide (33 < (nuR s 2 (rSt s 5)).1))⟩ : TS)).2).2).2).1 (adR s (nuR s 2 (rSt s 5)).1.toNat [] 0 (lpM (rRec s) bigC (nuR s 2 (rSt s 4)).1.toNat [] (lpM (rRec s) bigC (nuR s 2 (rSt s 3)).1.toNat [] (lpM (rAsk s) bigC (nuR s 2 (rSt s 2)).1.toNat [] (⟨(rSt s 6).at_, ((rSt s 6).bad || !decide (bits .and .i64 (nuR s 2 (rSt s 1)).1 240 = 0) || decide (4 < (nuR s 2 (rSt s 2)).1) || decide (32 < (nuR s 2 (rSt s 3)).1) || decide (32 < (nuR s 2 (rSt s 4)).1) || decide (33 < (nuR s 2 (rSt s 5)).1))⟩ : TS)).2).2).2).2.1) = false then (noD, 500) else ((hdD (nuR s 2 (rSt s 1)).1 (nuR s 2 (rSt s 0)).1 (lpM (rAsk s) bigC (nuR s 2 (rSt s 2)).1.toNat [] (⟨(rSt s 6).at_, ((rSt s 6).bad || !decide (bits .and .i64 (nuR s 2 (rSt s 1)).1 240 = 0) || decide (4 < (nuR s 2 (rSt s 2)).1) || decide (32 < (nuR s 2 (rSt s 3)).1) || decide (32 < (nuR s 2 (rSt s 4)).1) || decide (33 < (nuR s 2 (rSt s 5)).1))⟩ : TS)).1 (lpM (rRec s) bigC (nuR s 2 (rSt s 3)).1.toNat [] (lpM (rAsk s) bigC (nuR s 2 (rSt s 2)).1.toNat [] (⟨(rSt s 6).at_, ((rSt s 6).bad || !decide (bits .and .i64 (nuR s 2 (rSt s 1)).1 240 = 0) || decide (4 < (nuR s 2 (rSt s 2)).1) || decide (32 < (nuR s 2 (rSt s 3)).1) || decide (32 < (nuR s 2 (rSt s 4)).1) || decide (33 < (nuR s 2 (rSt s 5)).1))⟩ : TS)).2).1 (lpM (rRec s) bigC (nuR s 2 (rSt s 4)).1.toNat [] (lpM (rRec s) bigC (nuR s 2 (rSt s 3)).1.toNat [] (lpM (rAsk s) bigC (nuR s 2 (rSt s 2)).1.toNat [] (⟨(rSt s 6).at_, ((rSt s 6).bad || !decide (bits .and .i64 (nuR s 2 (rSt s 1)).1 240 = 0) || decide (4 < (nuR s 2 (rSt s 2)).1) || decide (32 < (nuR s 2 (rSt s 3)).1) || decide (32 < (nuR s 2 (rSt s 4)).1) || decide (33 < (nuR s 2 (rSt s 5)).1))⟩ : TS)).2).2).1 (adR s (nuR s 2 (rSt s 5)).1.toNat [] 0 (lpM (rRec s) bigC (nuR s 2 (rSt s 4)).1.toNat [] (lpM (rRec s) bigC (nuR s 2 (rSt s 3)).1.toNat [] (lpM (rAsk s) bigC (nuR s 2 (rSt s 2)).1.toNat [] (⟨(rSt s 6).at_, ((rSt s 6).bad || !decide (bits .and .i64 (nuR s 2 (rSt s 1)).1 240 = 0) || decide (4 < (nuR s 2 (rSt s 2)).1) || decide (32 < (nuR s 2 (rSt s 3)).1) || decide (32 < (nuR s 2 (rSt s 4)).1) || decide (33 < (nuR s 2 (rSt s 5)).1))⟩ : TS)).2).2).2).1 (adR s (nuR s 2 (rSt s 5)).1.toNat [] 0 (lpM (rRec s) bigC (nuR s 2 (rSt s 4)).1.toNat [] (lpM (rRec s) bigC (nuR s 2 (rSt s 3)).1.toNat [] (lpM (rAsk s) bigC (nuR s 2 (rSt s 2)).1.toNat [] (⟨(rSt s 6).at_, ((rSt s 6).bad || !decide (bits .and .i64 (nuR s 2 (rSt s 1)).1 240 = 0) || decide (4 < (nuR s 2 (rSt s 2)).1) || decide (32 < (nuR s 2 (rSt s 3)).1) || decide (32 < (nuR s 2 (rSt s 4)).1) || decide (33 < (nuR s 2 (rSt s 5)).1))⟩ : TS)).2).2).2).2.1), 0) := by rw [← dnGetR_eq]; rfl
  refine CW.exit (Q.te (Q.te (Q.bx (Q.tn ?_))))
  refine CW.seq ?_
  refine CW.seq ?_
  refine CW.region ?_
  refine W.p O.mv ?_
  refine W.p O.nc ?_
  first | refine W.p O.fb ?_ | refine W.p O.fa ?_
  refine W.p O.ld ?_
  refine W.p O.mv ?_
  refine W.p O.mv ?_
  refine W.p O.nc ?_
  first | refine W.p O.fb ?_ | refine W.p O.fa ?_
  refine W.p O.ld ?_
  refine W.p O.mv ?_
  refine W.p O.len ?_
  refine W.p O.neI ?_
  refine W.p O.pkB ?_
  refine W.p O.mv ?_
  refine W.p O.lds ?_
  refine W.q (O.call ⟨rfl, rfl⟩ (AV.cons (vs rfl) (AV.nil)) (fun _ w hw => ref_DnsMay (hdD (nuR s 2 (rSt s 1)).1 (nuR s 2 (rSt s 0)).1 (lpM (rAsk s) bigC (nuR s 2 (rSt s 2)).1.toNat [] (⟨(rSt s 6).at_, ((rSt s 6).bad || !decide (bits .and .i64 (nuR s 2 (rSt s 1)).1 240 = 0) || decide (4 < (nuR s 2 (rSt s 2)).1) || decide (32 < (nuR s 2 (rSt s 3)).1) || decide (32 < (nuR s 2 (rSt s 4)).1) || decide (33 < (nuR s 2 (rSt s 5)).1))⟩ : TS)).1 (lpM (rRec s) bigC (nuR s 2 (rSt s 3)).1.toNat [] (lpM (rAsk s) bigC (nuR s 2 (rSt s 2)).1.toNat [] (⟨(rSt s 6).at_, ((rSt s 6).bad || !decide (bits .and .i64 (nuR s 2 (rSt s 1)).1 240 = 0) || decide (4 < (nuR s 2 (rSt s 2)).1) || decide (32 < (nuR s 2 (rSt s 3)).1) || decide (32 < (nuR s 2 (rSt s 4)).1) || decide (33 < (nuR s 2 (rSt s 5)).1))⟩ : TS)).2).1 (lpM (rRec s) bigC (nuR s 2 (rSt s 4)).1.toNat [] (lpM (rRec s) bigC (nuR s 2 (rSt s 3)).1.toNat [] (lpM (rAsk s) bigC (nuR s 2 (rSt s 2)).1.toNat [] (⟨(rSt s 6).at_, ((rSt s 6).bad || !decide (bits .and .i64 (nuR s 2 (rSt s 1)).1 240 = 0) || decide (4 < (nuR s 2 (rSt s 2)).1) || decide (32 < (nuR s 2 (rSt s 3)).1) || decide (32 < (nuR s 2 (rSt s 4)).1) || decide (33 < (nuR s 2 (rSt s 5)).1))⟩ : TS)).2).2).1 (adR s (nuR s 2 (rSt s 5)).1.toNat [] 0 (lpM (rRec s) bigC (nuR s 2 (rSt s 4)).1.toNat [] (lpM (rRec s) bigC (nuR s 2 (rSt s 3)).1.toNat [] (lpM (rAsk s) bigC (nuR s 2 (rSt s 2)).1.toNat [] (⟨(rSt s 6).at_, ((rSt s 6).bad || !decide (bits .and .i64 (nuR s 2 (rSt s 1)).1 240 = 0) || decide (4 < (nuR s 2 (rSt s 2)).1) || decide (32 < (nuR s 2 (rSt s 3)).1) || decide (32 < (nuR s 2 (rSt s 4)).1) || decide (33 < (nuR s 2 (rSt s 5)).1))⟩ : TS)).2).2).2).1 (adR s (nuR s 2 (rSt s 5)).1.toNat [] 0 (lpM (rRec s) bigC (nuR s 2 (rSt s 4)).1.toNat [] (lpM (rRec s) bigC (nuR s 2 (rSt s 3)).1.toNat [] (lpM (rAsk s) bigC (nuR s 2 (rSt s 2)).1.toNat [] (⟨(rSt s 6).at_, ((rSt s 6).bad || !decide (bits .and .i64 (nuR s 2 (rSt s 1)).1 240 = 0) || decide (4 < (nuR s 2 (rSt s 2)).1) || decide (32 < (nuR s 2 (rSt s 3)).1) || decide (32 < (nuR s 2 (rSt s 4)).1) || decide (33 < (nuR s 2 (rSt s 5)).1))⟩ : TS)).2).2).2).2.1) (oa o, cc) (oa o12, c12) (oa o13, c13) (oa o2, cc2) w ⟨(show In w (oa o) ((lpM (rAsk s) bigC (nuR s 2 (rSt s 2)).1.toNat [] (⟨(rSt s 6).at_, ((rSt s 6).bad || !decide (bits .and .i64 (nuR s 2 (rSt s 1)).1 240 = 0) || decide (4 < (nuR s 2 (rSt s 2)).1) || decide (32 < (nuR s 2 (rSt s 3)).1) || decide (32 < (nuR s 2 (rSt s 4)).1) || decide (33 < (nuR s 2 (rSt s 5)).1))⟩ : TS)).1.flatMap encQ) from RowL.h _ hw), (show In w (oa o12) ((lpM (rRec s) bigC (nuR s 2 (rSt s 3)).1.toNat [] (lpM (rAsk s) bigC (nuR s 2 (rSt s 2)).1.toNat [] (⟨(rSt s 6).at_, ((rSt s 6).bad || !decide (bits .and .i64 (nuR s 2 (rSt s 1)).1 240 = 0) || decide (4 < (nuR s 2 (rSt s 2)).1) || decide (32 < (nuR s 2 (rSt s 3)).1) || decide (32 < (nuR s 2 (rSt s 4)).1) || decide (33 < (nuR s 2 (rSt s 5)).1))⟩ : TS)).2).1.flatMap encR) from RowL.h _ hw), (show In w (oa o13) ((lpM (rRec s) bigC (nuR s 2 (rSt s 4)).1.toNat [] (lpM (rRec s) bigC (nuR s 2 (rSt s 3)).1.toNat [] (lpM (rAsk s) bigC (nuR s 2 (rSt s 2)).1.toNat [] (⟨(rSt s 6).at_, ((rSt s 6).bad || !decide (bits .and .i64 (nuR s 2 (rSt s 1)).1 240 = 0) || decide (4 < (nuR s 2 (rSt s 2)).1) || decide (32 < (nuR s 2 (rSt s 3)).1) || decide (32 < (nuR s 2 (rSt s 4)).1) || decide (33 < (nuR s 2 (rSt s 5)).1))⟩ : TS)).2).2).1.flatMap encR) from RowL.h _ hw), (show In w (oa o2) ((adR s (nuR s 2 (rSt s 5)).1.toNat [] 0 (lpM (rRec s) bigC (nuR s 2 (rSt s 4)).1.toNat [] (lpM (rRec s) bigC (nuR s 2 (rSt s 3)).1.toNat [] (lpM (rAsk s) bigC (nuR s 2 (rSt s 2)).1.toNat [] (⟨(rSt s 6).at_, ((rSt s 6).bad || !decide (bits .and .i64 (nuR s 2 (rSt s 1)).1 240 = 0) || decide (4 < (nuR s 2 (rSt s 2)).1) || decide (32 < (nuR s 2 (rSt s 3)).1) || decide (32 < (nuR s 2 (rSt s 4)).1) || decide (33 < (nuR s 2 (rSt s 5)).1))⟩ : TS)).2).2).2).1.flatMap encR) from RowL.h _ hw)⟩ (dn_szR (by omega) (by omega) (by omega) (by omega)))) ?_
  refine W.p O.nt ?_
  refine W.p O.pkB ?_
  refine WL.nil (Q.tn ?_)
  refine CW.cond (vt rfl) (fun hc4 => ?_) (fun hc4 => ?_)
  · try simp only [sk] at hc4
    refine CW.seq ?_
    refine CW.region ?_
    refine W.p (O.bd (hv := PV.nil)) ?_
    refine W.st (vt rfl) (vt rfl) rfl ?_
    refine W.p O.as ?_
    refine WL.nil (Q.tn ?_)
    refine CW.ret (Q.tr ?_)
    refine ⟨_, [], (RVs.cell rfl (RVs.tmp rfl RVs.nil)), List.nil_sublist _, ?_⟩
    rw [hfin, if_pos (by rcases hc4 with (h | h) | h; exact .inl h; exact .inr (.inl h); exact .inr (.inr h))]
    exact ⟨none, 0, [], none, 0, [], none, 0, [], none, 0, [], rfl, OwnOk.nil, OwnOk.nil, OwnOk.nil, OwnOk.nil, rfl⟩
  try simp only [sk] at hc4
  refine CW.skip (Q.tn ?_)
  refine CW.seq ?_
  refine CW.region ?_
  refine W.p O.lds ?_
  refine W.st (vt rfl) (vt rfl) rfl ?_
  refine W.p O.as ?_
  refine WL.nil (Q.tn ?_)
  refine CW.ret ?_
  refine ⟨_, rowL o2 96 (flat encR (adR s (nuR s 2 (rSt s 5)).1.toNat [] 0 (lpM (rRec s) bigC (nuR s 2 (rSt s 4)).1.toNat [] (lpM (rRec s) bigC (nuR s 2 (rSt s 3)).1.toNat [] (lpM (rAsk s) bigC (nuR s 2 (rSt s 2)).1.toNat [] (⟨(rSt s 6).at_, ((rSt s 6).bad || !decide (bits .and .i64 (nuR s 2 (rSt s 1)).1 240 = 0) || decide (4 < (nuR s 2 (rSt s 2)).1) || decide (32 < (nuR s 2 (rSt s 3)).1) || decide (32 < (nuR s 2 (rSt s 4)).1) || decide (33 < (nuR s 2 (rSt s 5)).1))⟩ : TS)).2).2).2).1 sp2) ++ (rowL o13 96 (flat encR (lpM (rRec s) bigC (nuR s 2 (rSt s 4)).1.toNat [] (lpM (rRec s) bigC (nuR s 2 (rSt s 3)).1.toNat [] (lpM (rAsk s) bigC (nuR s 2 (rSt s 2)).1.toNat [] (⟨(rSt s 6).at_, ((rSt s 6).bad || !decide (bits .and .i64 (nuR s 2 (rSt s 1)).1 240 = 0) || decide (4 < (nuR s 2 (rSt s 2)).1) || decide (32 < (nuR s 2 (rSt s 3)).1) || decide (32 < (nuR s 2 (rSt s 4)).1) || decide (33 < (nuR s 2 (rSt s 5)).1))⟩ : TS)).2).2).1 p13) ++ (rowL o12 96 (flat encR (lpM (rRec s) bigC (nuR s 2 (rSt s 3)).1.toNat [] (lpM (rAsk s) bigC (nuR s 2 (rSt s 2)).1.toNat [] (⟨(rSt s 6).at_, ((rSt s 6).bad || !decide (bits .and .i64 (nuR s 2 (rSt s 1)).1 240 = 0) || decide (4 < (nuR s 2 (rSt s 2)).1) || decide (32 < (nuR s 2 (rSt s 3)).1) || decide (32 < (nuR s 2 (rSt s 4)).1) || decide (33 < (nuR s 2 (rSt s 5)).1))⟩ : TS)).2).1 p12) ++ rowL o 126 (flat encQ (lpM (rAsk s) bigC (nuR s 2 (rSt s 2)).1.toNat [] (⟨(rSt s 6).at_, ((rSt s 6).bad || !decide (bits .and .i64 (nuR s 2 (rSt s 1)).1 240 = 0) || decide (4 < (nuR s 2 (rSt s 2)).1) || decide (32 < (nuR s 2 (rSt s 3)).1) || decide (32 < (nuR s 2 (rSt s 4)).1) || decide (33 < (nuR s 2 (rSt s 5)).1))⟩ : TS)).1 sp))), (RVs.cell rfl (RVs.tmp rfl RVs.nil)), (by repeat (first | exact List.Sublist.refl _ | exact hSub _ | exact List.sublist_append_left _ _ | exact List.nil_sublist _ | refine List.Sublist.append (List.Sublist.refl _) ?_ | apply List.Sublist.cons_cons | apply List.Sublist.cons | exact List.sublist_append_left _ _ | refine List.Sublist.trans ?_ (List.sublist_append_right _ _))), ?_⟩
  rw [hfin, if_neg (by rintro (h | h | h); (rw [hc4.1.1] at h; cases h); exact h hc4.1.2; (rw [hc4.2] at h; cases h))]
  exact ⟨o, cc, sp, o12, c12, p12, o13, c13, p13, o2, cc2, sp2, rfl, ok9, ok12, ok13, ok8, rfl⟩
end Go.Proofs.Ytkjcmdgideddnaa
