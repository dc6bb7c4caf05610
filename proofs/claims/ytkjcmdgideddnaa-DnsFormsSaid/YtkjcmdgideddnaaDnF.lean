/- What dns.Get comes to. Condition: the text is not longer than some 2^47 bytes. -/
import Derived.Test.YtkjcmdgideddnaaDnC
import Derived.Test.YtkjcmdgideddnaaDnE
set_option linter.unusedVariables false
set_option linter.unusedSimpArgs false
namespace Go.Proofs.Ytkjcmdgideddnaa
open Go Go.RowKit
section
variable {α : Type} {f : TS → α × TS} {cap : Nat} {P : α → Prop}
theorem lp_all (hf : ∀ t, P (f t).1) : ∀ (k : Nat) {out : List α} {t : TS}, (∀ x ∈ out, P x) → ∀ x ∈ (lpM f cap k out t).1, P x
  | 0, out, t, h => h
  | k + 1, out, t, h => by
    rw [lpM]
    split
    · exact h
    · exact lp_all hf k (fun x hx => by
        rcases List.mem_append.1 hx with hx | hx
        · exact h x hx
        · rw [List.mem_singleton] at hx; subst hx; exact hf t)
theorem lp_len : ∀ (k : Nat) {out : List α} {t : TS}, (lpM f cap k out t).1.length ≤ out.length + k
  | 0, out, t => by simp [lpM]
  | k + 1, out, t => by
    rw [lpM]
    split
    · dsimp only; omega
    · have := lp_len k (out := out ++ [(f t).1]) (t := (f t).2)
      simp only [List.length_append, List.length_cons, List.length_nil] at this; omega
end
theorem adC_all {W : Int → Int} {s : List UInt8} {P : RR → Prop} (hf : ∀ t, P (dRec s t).1) : ∀ (k : Nat) {out : List RR} {z : Int} {t : TS}, (∀ x ∈ out, P x) → ∀ x ∈ (adC W s k out z t).1, P x
  | 0, out, z, t, h => h
  | k + 1, out, z, t, h => by
    rw [adC]
    split
    · exact h
    · split
      · exact adC_all hf k h
      · exact adC_all hf k (fun x hx => by
          rcases List.mem_append.1 hx with hx | hx
          · exact h x hx
          · rw [List.mem_singleton] at hx; subst hx; exact hf t)
theorem adC_len {W : Int → Int} {s : List UInt8} : ∀ (k : Nat) {out : List RR} {z : Int} {t : TS}, (adC W s k out z t).1.length ≤ out.length + k
  | 0, out, z, t => by simp [adC]
  | k + 1, out, z, t => by
    rw [adC]
    split
    · dsimp only; omega
    · split
      · have := adC_len (W := W) (s := s) k (out := out) (z := (tOptC W s t).1) (t := ⟨(tOptC W s t).2.2.at_, bif (tOptC W s t).2.2.bad then true else !decide (z = 0)⟩)
        omega
      · have := adC_len (W := W) (s := s) k (out := out ++ [(dRec s t).1]) (z := z) (t := (dRec s t).2)
        simp only [List.length_append, List.length_cons, List.length_nil] at this; omega
theorem gR_may {s : List UInt8} {p : Int} {r : RR} {to : Int} (h : gR s p = some (r, to)) : rrMay r = true := by
  unfold gR at h
  split at h
  · cases h
  · split at h
    · rename_i nm t0 _ _
      cases hd : dataG s (headG s t0 nm) (t0 + 10) (sizeG s t0) with
      | none => rw [hd] at h; cases h
      | some r' =>
        rw [hd, Option.bind_some] at h
        split at h
        · rename_i hm; simp only [Option.some.injEq, Prod.mk.injEq] at h; rw [← h.1]; exact hm
        · cases h
    · cases h
theorem rrGet_nm (s : List UInt8) (p : Int) : (rrGet s p).1.name.length ≤ 140737488355328 ∧ (rrGet s p).1.target.length ≤ 140737488355328 := by
  cases h : gR s p with
  | none => rw [gR_non h]; simp [noR]
  | some x => obtain ⟨r, to⟩ := x; rw [rrGet_some h]; exact may_nm (gR_may h)
theorem WL.permH {P : Program} {n : Nat} {w0 : World} {L0 L L' : Heap} {all rest : List Oper} {E : Env} {Q : Post} (hp : L.Perm L') (h : WL P n w0 L0 all rest E L' Q) : WL P n w0 L0 all rest E L Q := fun a w ha hw => h a w ha (hw.perm hp.symm)
theorem dn_sz {s : List UInt8} {x id z zz : Int} {k1 k2 k3 k4 : Nat} {t1 t2 t3 t4 : TS} (h1 : k1 ≤ 1000000) (h2 : k2 ≤ 1000000) (h3 : k3 ≤ 1000000) (h4 : k4 ≤ 1000000) : DnSz (hdD x id (lpM (dAsk IntKind.i64.wrap s) bigC k1 [] t1).1 (lpM (dRec s) 32 k2 [] t2).1 (lpM (dRec s) 32 k3 [] t3).1 (adC IntKind.i64.wrap s k4 [] z t4).1 zz) 140737488355328 := by
  have l1 := lp_len (f := dAsk IntKind.i64.wrap s) (cap := bigC) k1 (out := []) (t := t1)
  have l2 := lp_len (f := dRec s) (cap := 32) k2 (out := []) (t := t2)
  have l3 := lp_len (f := dRec s) (cap := 32) k3 (out := []) (t := t3)
  have l4 := adC_len (W := IntKind.i64.wrap) (s := s) k4 (out := []) (z := z) (t := t4)
  simp only [List.length_nil, Nat.zero_add] at l1 l2 l3 l4
  have hq : ∀ t : TS, (dAsk IntKind.i64.wrap s t).1.name.length ≤ 140737488355328 := fun t => Nat.le_trans (grN_len s t.at_) (by decide)
  have hr : ∀ t : TS, (dRec s t).1.name.length ≤ 140737488355328 ∧ (dRec s t).1.target.length ≤ 140737488355328 := fun t => rrGet_nm s t.at_
  exact ⟨⟨by show (lpM (dAsk IntKind.i64.wrap s) bigC k1 [] t1).1.length ≤ _; omega, lp_all hq k1 (by simp)⟩, ⟨by show (lpM (dRec s) 32 k2 [] t2).1.length ≤ _; omega, lp_all hr k2 (by simp)⟩, ⟨by show (lpM (dRec s) 32 k3 [] t3).1.length ≤ _; omega, lp_all hr k3 (by simp)⟩, ⟨by show (adC IntKind.i64.wrap s k4 [] z t4).1.length ≤ _; omega, adC_all hr k4 (by simp)⟩⟩
theorem n_rng (s : List UInt8) (t : TS) : 0 ≤ (tNum IntKind.i64.wrap s 2 t).1 ∧ (tNum IntKind.i64.wrap s 2 t).1 < 65536 := beG_rng s t.at_
set_option maxRecDepth 100000 in
set_option maxHeartbeats 2000000 in
theorem dn_Get (s : List UInt8) (w : World) (hs : s.length ≤ 140737488355328) : Fn Try.prog 81 [.string (S s)] w [] fun v L' => ∃ o1 c1 p1 o2 c2 p2 o3 c3 p3 o4 c4 p4, v = .tuple #[vDn (dnGet s).1 (oa o1, c1) (oa o2, c2) (oa o3, c3) (oa o4, c4), .int .i64 (dnGet s).2] ∧ OwnOk o1 c1 2 (dnGet s).1.qs.length (List.length p1) ∧ OwnOk o2 c2 7 (dnGet s).1.an.length (List.length p2) ∧ OwnOk o3 c3 7 (dnGet s).1.se.length (List.length p3) ∧ OwnOk o4 c4 7 (dnGet s).1.ad.length (List.length p4) ∧ L' = rowL o4 96 (flat encR (dnGet s).1.ad p4) ++ (rowL o3 96 (flat encR (dnGet s).1.se p3) ++ (rowL o2 96 (flat encR (dnGet s).1.an p2) ++ rowL o1 126 (flat encQ (dnGet s).1.qs p1))) := by
  refine Fn.enter Try.func81 rfl rfl rfl rfl (Holds.nil w) ?_
  refine CW.seq ?_
  refine CW.region ?_
  refine W.al rfl rfl fun b1 => ?_
  refine W.p O.as ?_
  refine WL.nil (Q.tn ?_)
  refine CW.seq ?_
  refine CW.region ?_
  refine W.p O.mv ?_
  refine W.p (O.bd (hv := PV.cons (vt rfl) (PV.nil))) ?_
  refine W.p (O.bd (hv := PV.cons (vt rfl) (PV.nil))) ?_
  refine W.bx rfl (vt rfl) rfl fun b2 => ?_
  refine W.p O.as ?_
  refine WL.nil (Q.tn ?_)
  refine CW.seq ?_
  refine CW.region ?_
  refine W.p O.mv ?_
  refine W.p O.nc ?_
  first | refine W.p O.fb ?_ | refine W.p O.fa ?_
  refine W.callS (first := []) (cap := []) (QdH b2 s ⟨0, false⟩) rfl (vt rfl) (AV.cons (vt rfl) (AV.cons (vt rfl) (AV.nil))) (fun w hu hh => tk_Num 2 w hh hs) ?_; rintro _ _ ⟨rfl, rfl⟩
  refine W.p O.as ?_
  refine WL.nil (Q.tn ?_)
  refine CW.seq ?_
  refine CW.region ?_
  refine W.p O.mv ?_
  refine W.p O.nc ?_
  first | refine W.p O.fb ?_ | refine W.p O.fa ?_
  refine W.callS (first := []) (cap := []) (QdH b2 s (tNum IntKind.i64.wrap s 2 ⟨0, false⟩).2) rfl (vt rfl) (AV.cons (vt rfl) (AV.cons (vt rfl) (AV.nil))) (fun w hu hh => tk_Num 2 w hh hs) ?_; rintro _ _ ⟨rfl, rfl⟩
  refine W.q (O.call ⟨rfl, rfl⟩ (AV.cons (vt rfl) (AV.nil)) (fun _ w hw => dn_head _ w)) ?_
  refine W.p O.mv ?_
  first | refine W.p O.extL ?_ | refine W.p O.ext ?_
  first | refine W.p O.extL ?_ | refine W.p O.ext ?_
  refine W.al rfl rfl fun b3 => ?_
  refine W.st (vt rfl) (vt rfl) rfl ?_
  refine W.p O.as ?_
  refine WL.nil (Q.tn ?_)
  refine CW.seq ?_
  refine CW.region ?_
  refine W.p O.mv ?_
  first | refine W.p O.fb ?_ | refine W.p O.fa ?_
  first | refine W.st (vt rfl) (vt rfl) rfl ?_ | refine W.st (u := .int _ _) (vt rfl) (vt rfl) rfl ?_
  refine WL.nil (Q.tn ?_)
  refine CW.seq ?_
  refine CW.region ?_
  refine W.al (cs := (List.replicate 4 (0 : Int)).map kI) rfl rfl fun b4 => ?_
  refine WL.nil (Q.tn ?_)
  refine CW.seq ?_
  refine CW.seq ?_
  refine CW.region ?_
  refine W.p O.mv ?_
  refine WL.nil (Q.tn ?_)
  refine CW.block ?_
  refine CW.loopA (X := Int × (List Int) × TS) (fun ⟨i, l, u⟩ => [(0, true, .string (S s)), (2, true, .pointer (some ⟨b1, 0, none⟩)), (4, true, .pointer (some ⟨b2, 0, none⟩)), (6, true, .pointer (some ⟨b3, 0, none⟩)), (7, true, .bool (decide (bits .and .i64 (tNum IntKind.i64.wrap s 2 (tSt IntKind.i64.wrap s 1)).1 240 = 0))), (8, true, .pointer (some ⟨b4, 0, none⟩)), (28, true, .int .i64 i)]) (fun ⟨i, l, u⟩ => [(b4, .cells (l.map kI).toArray 202 (0, 0)), DnO b3 (hdD (tNum IntKind.i64.wrap s 2 (tSt IntKind.i64.wrap s 1)).1 (tNum IntKind.i64.wrap s 2 (tSt IntKind.i64.wrap s 0)).1 [] [] [] [] 0) nS nS nS nS, QdO b2 s u, DnO b1 noD nS nS nS nS]) (fun ⟨i, l, u⟩ => 0 ≤ i ∧ i ≤ 4 ∧ l.length = 4 ∧ u = tSt IntKind.i64.wrap s (2 + i.toNat) ∧ ∀ j : Nat, j < i.toNat → l.getD j 0 = (tNum IntKind.i64.wrap s 2 (tSt IntKind.i64.wrap s (2 + j))).1) (fun ⟨i, l, u⟩ => (4 - i).toNat) (0, [0, 0, 0, 0], tSt IntKind.i64.wrap s 2) ?_ ?_
  · exact ⟨by omega, by omega, rfl, rfl, fun j hj => absurd hj (by simp)⟩
  rintro ⟨i, l, u⟩ hI
  try dsimp only at hI ⊢
  obtain ⟨h0, h1, hl, hu, hn⟩ := hI
  refine CW.seq ?_
  refine CW.region ?_
  refine W.p O.lss ?_
  refine WL.nil (Q.tn ?_)
  refine CW.seq ?_
  refine CW.cond (vt rfl) (fun hc1 => ?_) (fun hc1 => ?_)
  · try simp only [sk] at hc1
    refine CW.skip (Q.tn ?_)
    refine CW.seq ?_
    refine CW.block ?_
    refine CW.seq ?_
    refine CW.region ?_
    refine W.p O.mv ?_
    refine W.p O.as ?_
    refine WL.nil (Q.tn ?_)
    refine CW.region ?_
    refine W.p O.mv ?_
    refine W.p O.mv ?_
    refine W.p O.nc ?_
    first | refine W.p O.fb ?_ | refine W.p O.fa ?_
    refine W.callS (first := []) (cap := []) (QdH b2 s u) rfl (vt rfl) (AV.cons (vt rfl) (AV.cons (vt rfl) (AV.nil))) (fun w hu hh => tk_Num 2 w hh hs) ?_; rintro _ _ ⟨rfl, rfl⟩
    refine W.p O.ixR ?_
    refine W.stA (tNum IntKind.i64.wrap s 2 u).1 (vt rfl) (vt rfl) rfl rfl (by omega) ?_
    refine WL.nil (Q.bn (Q.tn ?_))
    refine CW.region ?_
    first | refine W.p O.addN ?_ | refine W.p O.add ?_
    refine W.p O.mv ?_
    refine WL.nil (Q.tn ?_)
    refine nextA (i + 1, _, (tNum IntKind.i64.wrap s 2 u).2) ?_ ?_
    · try dsimp only
      refine ⟨by omega, by omega, by simpa using hl, by rw [hu, show (i + 1).toNat = i.toNat + 1 by omega]; rfl, fun j hj => ?_⟩
      rw [Nat.mul_one, List.getD_eq_getElem?_getD, List.getElem?_set]
      by_cases e : i.toNat = j
      · subst e; rw [if_pos rfl, if_pos (by omega), hu]; rfl
      · rw [if_neg e, ← List.getD_eq_getElem?_getD]; exact hn j (by omega)
    · try dsimp only
      omega
  try simp only [sk] at hc1
  have hi4 : i = 4 := by omega
  subst hi4
  have n0 : l.getD 0 0 = (tNum IntKind.i64.wrap s 2 (tSt IntKind.i64.wrap s 2)).1 := hn 0 (by decide)
  have n1 : l.getD 1 0 = (tNum IntKind.i64.wrap s 2 (tSt IntKind.i64.wrap s 3)).1 := hn 1 (by decide)
  have n2' : l.getD 2 0 = (tNum IntKind.i64.wrap s 2 (tSt IntKind.i64.wrap s 4)).1 := hn 2 (by decide)
  have n3 : l.getD 3 0 = (tNum IntKind.i64.wrap s 2 (tSt IntKind.i64.wrap s 5)).1 := hn 3 (by decide)
  have hu6 : u = tSt IntKind.i64.wrap s 6 := hu
  subst hu6
  have g0 := n_rng s (tSt IntKind.i64.wrap s 2)
  have g1 := n_rng s (tSt IntKind.i64.wrap s 3)
  have g2 := n_rng s (tSt IntKind.i64.wrap s 4)
  have g3 := n_rng s (tSt IntKind.i64.wrap s 5)
  have hfin : dnGet s = if (adC IntKind.i64.wrap s (l.getD 3 0).toNat [] 0 (lpM (dRec s) 32 (l.getD 2 0).toNat [] (lpM (dRec s) 32 (l.getD 1 0).toNat [] (lpM (dAsk IntKind.i64.wrap s) bigC (min (l.getD 0 0) 5).toNat [] (tSt IntKind.i64.wrap s 6)).2).2).2).2.2.bad = true ∨ bits .and .i64 (tNum IntKind.i64.wrap s 2 (tSt IntKind.i64.wrap s 1)).1 240 ≠ 0 ∨ (adC IntKind.i64.wrap s (l.getD 3 0).toNat [] 0 (lpM (dRec s) 32 (l.getD 2 0).toNat [] (lpM (dRec s) 32 (l.getD 1 0).toNat [] (lpM (dAsk IntKind.i64.wrap s) bigC (min (l.getD 0 0) 5).toNat [] (tSt IntKind.i64.wrap s 6)).2).2).2).2.2.at_ ≠ s.length ∨ dnMay (hdD (tNum IntKind.i64.wrap s 2 (tSt IntKind.i64.wrap s 1)).1 (tNum IntKind.i64.wrap s 2 (tSt IntKind.i64.wrap s 0)).1 (lpM (dAsk IntKind.i64.wrap s) bigC (min (l.getD 0 0) 5).toNat [] (tSt IntKind.i64.wrap s 6)).1 (lpM (dRec s) 32 (l.getD 1 0).toNat [] (lpM (dAsk IntKind.i64.wrap s) bigC (min (l.getD 0 0) 5).toNat [] (tSt IntKind.i64.wrap s 6)).2).1 (lpM (dRec s) 32 (l.getD 2 0).toNat [] (lpM (dRec s) 32 (l.getD 1 0).toNat [] (lpM (dAsk IntKind.i64.wrap s) bigC (min (l.getD 0 0) 5).toNat [] (tSt IntKind.i64.wrap s 6)).2).2).1 (adC IntKind.i64.wrap s (l.getD 3 0).toNat [] 0 (lpM (dRec s) 32 (l.getD 2 0).toNat [] (lpM (dRec s) 32 (l.getD 1 0).toNat [] (lpM (dAsk IntKind.i64.wrap s) bigC (min (l.getD 0 0) 5).toNat [] (tSt IntKind.i64.wrap s 6)).2).2).2).1 (adC IntKind.i64.wrap s (l.getD 3 0).toNat [] 0 (lpM (dRec s) 32 (l.getD 2 0).toNat [] (lpM (dRec s) 32 (l.getD 1 0).toNat [] (lpM (dAsk IntKind.i64.wrap s) bigC (min (l.getD 0 0) 5).toNat [] (tSt IntKind.i64.wrap s 6)).2).2).2).2.1) = false then (noD, 500) else ((hdD (tNum IntKind.i64.wrap s 2 (tSt IntKind.i64.wrap s 1)).1 (tNum IntKind.i64.wrap s 2 (tSt IntKind.i64.wrap s 0)).1 (lpM (dAsk IntKind.i64.wrap s) bigC (min (l.getD 0 0) 5).toNat [] (tSt IntKind.i64.wrap s 6)).1 (lpM (dRec s) 32 (l.getD 1 0).toNat [] (lpM (dAsk IntKind.i64.wrap s) bigC (min (l.getD 0 0) 5).toNat [] (tSt IntKind.i64.wrap s 6)).2).1 (lpM (dRec s) 32 (l.getD 2 0).toNat [] (lpM (dRec s) 32 (l.getD 1 0).toNat [] (lpM (dAsk IntKind.i64.wrap s) bigC (min (l.getD 0 0) 5).toNat [] (tSt IntKind.i64.wrap s 6)).2).2).1 (adC IntKind.i64.wrap s (l.getD 3 0).toNat [] 0 (lpM (dRec s) 32 (l.getD 2 0).toNat [] (lpM (dRec s) 32 (l.getD 1 0).toNat [] (lpM (dAsk IntKind.i64.wrap s) bigC (min (l.getD 0 0) 5).toNat [] (tSt IntKind.i64.wrap s 6)).2).2).2).1 (adC IntKind.i64.wrap s (l.getD 3 0).toNat [] 0 (lpM (dRec s) 32 (l.getD 2 0).toNat [] (lpM (dRec s) 32 (l.getD 1 0).toNat [] (lpM (dAsk IntKind.i64.wrap s) bigC (min (l.getD 0 0) 5).toNat [] (tSt IntKind.i64.wrap s 6)).2).2).2).2.1), 0) := by rw [← dnGetC_eq wr_in hs]; unfold dnGetC; dsimp only; rw [← n0, ← n1, ← n2', ← n3]
  refine CW.exit (Q.te (Q.te (Q.bx (Q.tn ?_))))
  refine CW.seq ?_
  refine CW.region ?_
  refine W.p O.mv ?_
  refine W.p O.ixR ?_
  refine W.p (O.ldA (0 : Int) (h := fun hg => by first | omega | (simp only [cond_true, cond_false, Bool.true_and, Bool.and_eq_true, Bool.not_eq_true', decide_eq_true_eq, decide_eq_false_iff_not, Bool.or_eq_false_iff, Bool.cond_true_left] at *; omega))) ?_
  refine W.p O.min ?_
  refine W.callS (first := []) (cap := []) (QdH b2 s (tSt IntKind.i64.wrap s 6)) rfl (vt rfl) (AV.cons (vt rfl) (AV.cons (vt rfl) (AV.nil))) (fun w hu hh => rd_asked (min (l.getD 0 0) 5) w hh hs (by omega)) ?_; rintro _ _ ⟨o11, c11, p11, rfl, ok11, rfl⟩; have nk11 := ok11.nk (α := Qn') (xs := (lpM (dAsk IntKind.i64.wrap s) bigC (min (l.getD 0 0) 5).toNat [] (tSt IntKind.i64.wrap s 6)).1)
  first | refine W.p O.fb ?_ | refine W.p O.fa ?_
  first | refine W.st (vt rfl) (vt rfl) rfl ?_ | refine W.st (u := .slice _ _ _) (vt rfl) (vt rfl) rfl ?_
  refine WL.nil (Q.tn ?_)
  refine CW.seq ?_
  refine CW.region ?_
  refine W.p O.mv ?_
  refine W.p O.ixR ?_
  refine W.p (O.ldA (0 : Int) (h := fun hg => by first | omega | (simp only [cond_true, cond_false, Bool.true_and, Bool.and_eq_true, Bool.not_eq_true', decide_eq_true_eq, decide_eq_false_iff_not, Bool.or_eq_false_iff, Bool.cond_true_left] at *; omega))) ?_
  refine W.callS (first := []) (cap := []) (QdH b2 s (lpM (dAsk IntKind.i64.wrap s) bigC (min (l.getD 0 0) 5).toNat [] (tSt IntKind.i64.wrap s 6)).2) rfl (vt rfl) (AV.cons (vt rfl) (AV.cons (vt rfl) (AV.cons (vt rfl) (AV.nil)))) (fun w hu hh => rd_recs (l.getD 1 0) w hh hs (by omega)) ?_; rintro _ _ ⟨o12, c12, p12, rfl, ok12, rfl⟩; have nk12 := ok12.nk (α := RR) (xs := (lpM (dRec s) 32 (l.getD 1 0).toNat [] (lpM (dAsk IntKind.i64.wrap s) bigC (min (l.getD 0 0) 5).toNat [] (tSt IntKind.i64.wrap s 6)).2).1)
  first | refine W.p O.fb ?_ | refine W.p O.fa ?_
  first | refine W.st (vt rfl) (vt rfl) rfl ?_ | refine W.st (u := .slice _ _ _) (vt rfl) (vt rfl) rfl ?_
  refine WL.nil (Q.tn ?_)
  refine CW.seq ?_
  refine CW.region ?_
  refine W.p O.mv ?_
  refine W.p O.ixR ?_
  refine W.p (O.ldA (0 : Int) (h := fun hg => by first | omega | (simp only [cond_true, cond_false, Bool.true_and, Bool.and_eq_true, Bool.not_eq_true', decide_eq_true_eq, decide_eq_false_iff_not, Bool.or_eq_false_iff, Bool.cond_true_left] at *; omega))) ?_
  refine W.callS (first := []) (cap := []) (QdH b2 s (lpM (dRec s) 32 (l.getD 1 0).toNat [] (lpM (dAsk IntKind.i64.wrap s) bigC (min (l.getD 0 0) 5).toNat [] (tSt IntKind.i64.wrap s 6)).2).2) rfl (vt rfl) (AV.cons (vt rfl) (AV.cons (vt rfl) (AV.cons (vt rfl) (AV.nil)))) (fun w hu hh => rd_recs (l.getD 2 0) w hh hs (by omega)) ?_; rintro _ _ ⟨o13, c13, p13, rfl, ok13, rfl⟩; have nk13 := ok13.nk (α := RR) (xs := (lpM (dRec s) 32 (l.getD 2 0).toNat [] (lpM (dRec s) 32 (l.getD 1 0).toNat [] (lpM (dAsk IntKind.i64.wrap s) bigC (min (l.getD 0 0) 5).toNat [] (tSt IntKind.i64.wrap s 6)).2).2).1)
  first | refine W.p O.fb ?_ | refine W.p O.fa ?_
  first | refine W.st (vt rfl) (vt rfl) rfl ?_ | refine W.st (u := .slice _ _ _) (vt rfl) (vt rfl) rfl ?_
  refine WL.nil (Q.tn ?_)
  refine CW.seq ?_
  refine CW.region ?_
  refine W.p O.mv ?_
  refine W.p O.ixR ?_
  refine W.p (O.ldA (0 : Int) (h := fun hg => by first | omega | (simp only [cond_true, cond_false, Bool.true_and, Bool.and_eq_true, Bool.not_eq_true', decide_eq_true_eq, decide_eq_false_iff_not, Bool.or_eq_false_iff, Bool.cond_true_left] at *; omega))) ?_
  first | refine W.p O.fb ?_ | refine W.p O.fa ?_
  refine WL.permH (L' := (b4, Obj.cells (l.map kI).toArray 202 (0, 0)) :: (DnO b3 (hdD (tNum IntKind.i64.wrap s 2 (tSt IntKind.i64.wrap s 1)).1 (tNum IntKind.i64.wrap s 2 (tSt IntKind.i64.wrap s 0)).1 (lpM (dAsk IntKind.i64.wrap s) bigC (min (l.getD 0 0) 5).toNat [] (tSt IntKind.i64.wrap s 6)).1 (lpM (dRec s) 32 (l.getD 1 0).toNat [] (lpM (dAsk IntKind.i64.wrap s) bigC (min (l.getD 0 0) 5).toNat [] (tSt IntKind.i64.wrap s 6)).2).1 (lpM (dRec s) 32 (l.getD 2 0).toNat [] (lpM (dRec s) 32 (l.getD 1 0).toNat [] (lpM (dAsk IntKind.i64.wrap s) bigC (min (l.getD 0 0) 5).toNat [] (tSt IntKind.i64.wrap s 6)).2).2).1 [] 0) (oa o11, c11) (oa o12, c12) (oa o13, c13) nS :: (QdH b2 s (lpM (dRec s) 32 (l.getD 2 0).toNat [] (lpM (dRec s) 32 (l.getD 1 0).toNat [] (lpM (dAsk IntKind.i64.wrap s) bigC (min (l.getD 0 0) 5).toNat [] (tSt IntKind.i64.wrap s 6)).2).2).2 ++ (rowL o13 96 (flat encR (lpM (dRec s) 32 (l.getD 2 0).toNat [] (lpM (dRec s) 32 (l.getD 1 0).toNat [] (lpM (dAsk IntKind.i64.wrap s) bigC (min (l.getD 0 0) 5).toNat [] (tSt IntKind.i64.wrap s 6)).2).2).1 p13) ++ (rowL o12 96 (flat encR (lpM (dRec s) 32 (l.getD 1 0).toNat [] (lpM (dAsk IntKind.i64.wrap s) bigC (min (l.getD 0 0) 5).toNat [] (tSt IntKind.i64.wrap s 6)).2).1 p12) ++ (rowL o11 126 (flat encQ (lpM (dAsk IntKind.i64.wrap s) bigC (min (l.getD 0 0) 5).toNat [] (tSt IntKind.i64.wrap s 6)).1 p11) ++ [DnO b1 noD nS nS nS nS])))))) (by simp only [List.append_assoc, List.cons_append, List.nil_append]; exact List.Perm.refl _) ?_; refine W.callS (first := []) (cap := []) (DnO b3 (hdD (tNum IntKind.i64.wrap s 2 (tSt IntKind.i64.wrap s 1)).1 (tNum IntKind.i64.wrap s 2 (tSt IntKind.i64.wrap s 0)).1 (lpM (dAsk IntKind.i64.wrap s) bigC (min (l.getD 0 0) 5).toNat [] (tSt IntKind.i64.wrap s 6)).1 (lpM (dRec s) 32 (l.getD 1 0).toNat [] (lpM (dAsk IntKind.i64.wrap s) bigC (min (l.getD 0 0) 5).toNat [] (tSt IntKind.i64.wrap s 6)).2).1 (lpM (dRec s) 32 (l.getD 2 0).toNat [] (lpM (dRec s) 32 (l.getD 1 0).toNat [] (lpM (dAsk IntKind.i64.wrap s) bigC (min (l.getD 0 0) 5).toNat [] (tSt IntKind.i64.wrap s 6)).2).2).1 [] 0) (oa o11, c11) (oa o12, c12) (oa o13, c13) nS :: QdH b2 s (lpM (dRec s) 32 (l.getD 2 0).toNat [] (lpM (dRec s) 32 (l.getD 1 0).toNat [] (lpM (dAsk IntKind.i64.wrap s) bigC (min (l.getD 0 0) 5).toNat [] (tSt IntKind.i64.wrap s 6)).2).2).2) rfl (vt rfl) (AV.cons (vt rfl) (AV.cons (vt rfl) (AV.cons (vt rfl) (AV.nil)))) (fun w hu hh => rd_recsZ (l.getD 3 0) w hh hs (by omega)) ?_; rintro _ _ ⟨o14, c14, p14, rfl, ok14, rfl⟩; have nk14 := ok14.nk (α := RR) (xs := (adC IntKind.i64.wrap s (l.getD 3 0).toNat [] 0 (lpM (dRec s) 32 (l.getD 2 0).toNat [] (lpM (dRec s) 32 (l.getD 1 0).toNat [] (lpM (dAsk IntKind.i64.wrap s) bigC (min (l.getD 0 0) 5).toNat [] (tSt IntKind.i64.wrap s 6)).2).2).2).1); refine WL.permH (L' := (b4, Obj.cells (l.map kI).toArray 202 (0, 0)) :: (DnO b3 (szD (hdD (tNum IntKind.i64.wrap s 2 (tSt IntKind.i64.wrap s 1)).1 (tNum IntKind.i64.wrap s 2 (tSt IntKind.i64.wrap s 0)).1 (lpM (dAsk IntKind.i64.wrap s) bigC (min (l.getD 0 0) 5).toNat [] (tSt IntKind.i64.wrap s 6)).1 (lpM (dRec s) 32 (l.getD 1 0).toNat [] (lpM (dAsk IntKind.i64.wrap s) bigC (min (l.getD 0 0) 5).toNat [] (tSt IntKind.i64.wrap s 6)).2).1 (lpM (dRec s) 32 (l.getD 2 0).toNat [] (lpM (dRec s) 32 (l.getD 1 0).toNat [] (lpM (dAsk IntKind.i64.wrap s) bigC (min (l.getD 0 0) 5).toNat [] (tSt IntKind.i64.wrap s 6)).2).2).1 [] 0) (adC IntKind.i64.wrap s (l.getD 3 0).toNat [] 0 (lpM (dRec s) 32 (l.getD 2 0).toNat [] (lpM (dRec s) 32 (l.getD 1 0).toNat [] (lpM (dAsk IntKind.i64.wrap s) bigC (min (l.getD 0 0) 5).toNat [] (tSt IntKind.i64.wrap s 6)).2).2).2).2.1) (oa o11, c11) (oa o12, c12) (oa o13, c13) nS :: (QdO b2 s (adC IntKind.i64.wrap s (l.getD 3 0).toNat [] 0 (lpM (dRec s) 32 (l.getD 2 0).toNat [] (lpM (dRec s) 32 (l.getD 1 0).toNat [] (lpM (dAsk IntKind.i64.wrap s) bigC (min (l.getD 0 0) 5).toNat [] (tSt IntKind.i64.wrap s 6)).2).2).2).2.2 :: (rowL o14 96 (flat encR (adC IntKind.i64.wrap s (l.getD 3 0).toNat [] 0 (lpM (dRec s) 32 (l.getD 2 0).toNat [] (lpM (dRec s) 32 (l.getD 1 0).toNat [] (lpM (dAsk IntKind.i64.wrap s) bigC (min (l.getD 0 0) 5).toNat [] (tSt IntKind.i64.wrap s 6)).2).2).2).1 p14) ++ (rowL o13 96 (flat encR (lpM (dRec s) 32 (l.getD 2 0).toNat [] (lpM (dRec s) 32 (l.getD 1 0).toNat [] (lpM (dAsk IntKind.i64.wrap s) bigC (min (l.getD 0 0) 5).toNat [] (tSt IntKind.i64.wrap s 6)).2).2).1 p13) ++ (rowL o12 96 (flat encR (lpM (dRec s) 32 (l.getD 1 0).toNat [] (lpM (dAsk IntKind.i64.wrap s) bigC (min (l.getD 0 0) 5).toNat [] (tSt IntKind.i64.wrap s 6)).2).1 p12) ++ (rowL o11 126 (flat encQ (lpM (dAsk IntKind.i64.wrap s) bigC (min (l.getD 0 0) 5).toNat [] (tSt IntKind.i64.wrap s 6)).1 p11) ++ [DnO b1 noD nS nS nS nS]))))))) (by simp only [List.append_assoc, List.cons_append, List.nil_append]; exact List.Perm.refl _) ?_
  first | refine W.p O.fb ?_ | refine W.p O.fa ?_
  first | refine W.st (vt rfl) (vt rfl) rfl ?_ | refine W.st (u := .slice _ _ _) (vt rfl) (vt rfl) rfl ?_
  refine WL.nil (Q.tn ?_)
  refine CW.seq ?_
  refine CW.seq ?_
  refine CW.region ?_
  refine W.p O.mv ?_
  refine W.p O.nc ?_
  first | refine W.p O.fb ?_ | refine W.p O.fa ?_
  first | refine W.p O.fb ?_ | refine W.p O.fa ?_
  refine W.p O.ld ?_
  refine W.p O.mv ?_
  refine W.p O.mv ?_
  refine W.p O.nt ?_
  refine W.p O.pkB ?_
  refine W.p O.mv ?_
  refine W.p O.mv ?_
  refine W.p O.nc ?_
  first | refine W.p O.fb ?_ | refine W.p O.fa ?_
  first | refine W.p O.fb ?_ | refine W.p O.fa ?_
  refine W.p O.ld ?_
  refine W.p O.mv ?_
  refine W.p O.len ?_
  refine W.p O.neI ?_
  refine W.p O.pkB ?_
  refine W.p O.mv ?_
  refine W.p O.lds ?_
  refine W.q (O.call ⟨rfl, rfl⟩ (AV.cons (vs rfl) (AV.nil)) (fun _ w hw => dn_May (hdD (tNum IntKind.i64.wrap s 2 (tSt IntKind.i64.wrap s 1)).1 (tNum IntKind.i64.wrap s 2 (tSt IntKind.i64.wrap s 0)).1 (lpM (dAsk IntKind.i64.wrap s) bigC (min (l.getD 0 0) 5).toNat [] (tSt IntKind.i64.wrap s 6)).1 (lpM (dRec s) 32 (l.getD 1 0).toNat [] (lpM (dAsk IntKind.i64.wrap s) bigC (min (l.getD 0 0) 5).toNat [] (tSt IntKind.i64.wrap s 6)).2).1 (lpM (dRec s) 32 (l.getD 2 0).toNat [] (lpM (dRec s) 32 (l.getD 1 0).toNat [] (lpM (dAsk IntKind.i64.wrap s) bigC (min (l.getD 0 0) 5).toNat [] (tSt IntKind.i64.wrap s 6)).2).2).1 (adC IntKind.i64.wrap s (l.getD 3 0).toNat [] 0 (lpM (dRec s) 32 (l.getD 2 0).toNat [] (lpM (dRec s) 32 (l.getD 1 0).toNat [] (lpM (dAsk IntKind.i64.wrap s) bigC (min (l.getD 0 0) 5).toNat [] (tSt IntKind.i64.wrap s 6)).2).2).2).1 (adC IntKind.i64.wrap s (l.getD 3 0).toNat [] 0 (lpM (dRec s) 32 (l.getD 2 0).toNat [] (lpM (dRec s) 32 (l.getD 1 0).toNat [] (lpM (dAsk IntKind.i64.wrap s) bigC (min (l.getD 0 0) 5).toNat [] (tSt IntKind.i64.wrap s 6)).2).2).2).2.1) (oa o11, c11) (oa o12, c12) (oa o13, c13) (oa o14, c14) w ⟨(show In w (oa o11) ((lpM (dAsk IntKind.i64.wrap s) bigC (min (l.getD 0 0) 5).toNat [] (tSt IntKind.i64.wrap s 6)).1.flatMap encQ) from RowL.h _ hw), (show In w (oa o12) ((lpM (dRec s) 32 (l.getD 1 0).toNat [] (lpM (dAsk IntKind.i64.wrap s) bigC (min (l.getD 0 0) 5).toNat [] (tSt IntKind.i64.wrap s 6)).2).1.flatMap encR) from RowL.h _ hw), (show In w (oa o13) ((lpM (dRec s) 32 (l.getD 2 0).toNat [] (lpM (dRec s) 32 (l.getD 1 0).toNat [] (lpM (dAsk IntKind.i64.wrap s) bigC (min (l.getD 0 0) 5).toNat [] (tSt IntKind.i64.wrap s 6)).2).2).1.flatMap encR) from RowL.h _ hw), (show In w (oa o14) ((adC IntKind.i64.wrap s (l.getD 3 0).toNat [] 0 (lpM (dRec s) 32 (l.getD 2 0).toNat [] (lpM (dRec s) 32 (l.getD 1 0).toNat [] (lpM (dAsk IntKind.i64.wrap s) bigC (min (l.getD 0 0) 5).toNat [] (tSt IntKind.i64.wrap s 6)).2).2).2).1.flatMap encR) from RowL.h _ hw)⟩ (dn_sz (by omega) (by omega) (by omega) (by omega)))) ?_
  refine W.p O.nt ?_
  refine W.p O.pkB ?_
  refine WL.nil (Q.tn ?_)
  refine CW.cond (vt rfl) (fun hc2 => ?_) (fun hc2 => ?_)
  · try simp only [sk] at hc2
    refine CW.seq ?_
    refine CW.region ?_
    refine W.p (O.bd (hv := PV.nil)) ?_
    refine W.st (vt rfl) (vt rfl) rfl ?_
    refine W.p O.as ?_
    refine WL.nil (Q.tn ?_)
    refine CW.ret (Q.tr ?_)
    refine ⟨_, [], (RVs.cell rfl (RVs.tmp rfl RVs.nil)), List.nil_sublist _, ?_⟩
    rw [hfin, if_pos (by rcases hc2 with ((h | h) | h) | h; exact .inl h; exact .inr (.inl h); exact .inr (.inr (.inl h)); exact .inr (.inr (.inr h)))]
    exact ⟨none, 0, [], none, 0, [], none, 0, [], none, 0, [], rfl, OwnOk.nil, OwnOk.nil, OwnOk.nil, OwnOk.nil, rfl⟩
  try simp only [sk] at hc2
  refine CW.skip (Q.tn ?_)
  refine CW.seq ?_
  refine CW.region ?_
  refine W.p O.lds ?_
  refine W.st (vt rfl) (vt rfl) rfl ?_
  refine W.p O.as ?_
  refine WL.nil (Q.tn ?_)
  refine CW.ret ?_
  refine ⟨_, rowL o14 96 (flat encR (adC IntKind.i64.wrap s (l.getD 3 0).toNat [] 0 (lpM (dRec s) 32 (l.getD 2 0).toNat [] (lpM (dRec s) 32 (l.getD 1 0).toNat [] (lpM (dAsk IntKind.i64.wrap s) bigC (min (l.getD 0 0) 5).toNat [] (tSt IntKind.i64.wrap s 6)).2).2).2).1 p14) ++ (rowL o13 96 (flat encR (lpM (dRec s) 32 (l.getD 2 0).toNat [] (lpM (dRec s) 32 (l.getD 1 0).toNat [] (lpM (dAsk IntKind.i64.wrap s) bigC (min (l.getD 0 0) 5).toNat [] (tSt IntKind.i64.wrap s 6)).2).2).1 p13) ++ (rowL o12 96 (flat encR (lpM (dRec s) 32 (l.getD 1 0).toNat [] (lpM (dAsk IntKind.i64.wrap s) bigC (min (l.getD 0 0) 5).toNat [] (tSt IntKind.i64.wrap s 6)).2).1 p12) ++ rowL o11 126 (flat encQ (lpM (dAsk IntKind.i64.wrap s) bigC (min (l.getD 0 0) 5).toNat [] (tSt IntKind.i64.wrap s 6)).1 p11))), (RVs.cell rfl (RVs.tmp rfl RVs.nil)), (by repeat (first | exact List.Sublist.refl _ | exact hSub _ | exact List.sublist_append_left _ _ | exact List.nil_sublist _ | refine List.Sublist.append (List.Sublist.refl _) ?_ | apply List.Sublist.cons_cons | apply List.Sublist.cons | exact List.sublist_append_left _ _ | refine List.Sublist.trans ?_ (List.sublist_append_right _ _))), ?_⟩
  rw [hfin, if_neg (by rintro (h | h | h | h); (rw [hc2.1.1.1] at h; cases h); exact h hc2.1.1.2; exact h hc2.1.2; (rw [hc2.2] at h; cases h))]
  exact ⟨o11, c11, p11, o12, c12, p12, o13, c13, p13, o14, c14, p14, rfl, ok11, ok12, ok13, ok14, rfl⟩
end Go.Proofs.Ytkjcmdgideddnaa
