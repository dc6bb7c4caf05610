/- What the document's reader comes to: num, rrs, opt. Condition: the text is not longer than some 2^42 bytes. -/
import Derived.Test.YtkjcmdgideddnaaDnR
import Derived.Test.YtkjcmdgideddnaaDnF
import Derived.Test.YtkjcmdgideddnaaRrRef3
set_option linter.unusedVariables false
set_option linter.unusedSimpArgs false
namespace Go.Proofs.Ytkjcmdgideddnaa
open Go Go.RowKit
abbrev MmO (b : Nat) (s : List UInt8) (t : TS) : Nat × Obj := (b, .cells [.string (S s), .int .i64 t.at_, .bool t.bad].toArray 177 (0, 0))
theorem beG_ok {s : List UInt8} {p k : Int} (h : (beG s p k).2 = 0) : (k = 1 ∨ k = 2 ∨ k = 4) ∧ 0 ≤ p ∧ p + k ≤ s.length := by
  unfold beG at h
  split at h
  · cases h
  · split at h
    · cases h
    · rename_i h1 h2; omega
set_option maxRecDepth 100000 in
theorem ref_nu {b : Nat} {s : List UInt8} {t : TS} (w : World) (hL : Holds [MmO b s t] w) (hs : s.length ≤ 4398046511104) :
    Fn Try.prog 118 [.pointer (some ⟨b, 0, none⟩), .int .i64 2] w [MmO b s t] fun v L' => v = .int .i64 (nuR s 2 t).1 ∧ L' = [MmO b s (nuR s 2 t).2] := by
  refine Fn.enter Try.func118 rfl rfl rfl rfl hL ?_
  refine CW.seq ?_
  refine CW.region ?_
  refine W.p O.as ?_
  refine WL.nil (Q.tn ?_)
  refine CW.seq ?_
  refine CW.draw 15 rfl (by kernel_rfl) ?_
  refine WQ.p O.mv ?_
  refine WQ.p O.nc ?_
  first | refine WQ.p O.fb ?_ | refine WQ.p O.fa ?_
  refine WQ.p O.ld ?_
  refine WQ.p O.mv ?_
  refine WQ.p O.nc ?_
  first | refine WQ.p O.fb ?_ | refine WQ.p O.fa ?_
  refine WQ.p O.ld ?_
  refine WQ.p O.mv ?_
  refine WQ.q (O.call ⟨rfl, rfl⟩ (AV.cons (vt rfl) (AV.cons (vt rfl) (AV.cons (vt rfl) (AV.nil)))) (fun _ w hw => ref_GetBe s _ _ w (by omega))) ?_
  refine WQ.p O.mv ?_
  first | refine WQ.p O.extL ?_ | refine WQ.p O.ext ?_
  first | refine WQ.p O.extL ?_ | refine WQ.p O.ext ?_
  refine WQ.p O.as ?_
  refine WQ.p O.as ?_
  refine WQ.nil ?_
  refine WL.nil (Q.tn ?_)
  refine CW.seq ?_
  refine CW.seq ?_
  refine CW.region ?_
  refine W.p O.mv ?_
  refine W.p O.nc ?_
  first | refine W.p O.fb ?_ | refine W.p O.fa ?_
  refine W.p O.ld ?_
  refine W.p O.mv ?_
  refine W.p O.mv ?_
  refine W.p O.neI ?_
  refine W.p O.pkB ?_
  refine WL.nil (Q.tn ?_)
  refine CW.cond (vt rfl) (fun hc1 => ?_) (fun hc1 => ?_)
  · try simp only [sk] at hc1
    refine CW.seq ?_
    refine CW.region ?_
    refine W.p O.mv ?_
    refine W.p O.nc ?_
    first | refine W.p O.fb ?_ | refine W.p O.fa ?_
    refine W.st (vt rfl) (vt rfl) rfl ?_
    refine WL.nil (Q.tn ?_)
    refine CW.seq ?_
    refine CW.region ?_
    refine W.p O.as ?_
    refine WL.nil (Q.tn ?_)
    refine CW.ret (Q.tr ?_)
    refine ⟨_, [MmO b s ⟨t.at_, true⟩], (RVs.tmp rfl RVs.nil), (by repeat (first | exact List.Sublist.refl _ | exact hSub _ | exact List.sublist_append_left _ _ | exact List.nil_sublist _ | refine List.Sublist.append (List.Sublist.refl _) ?_ | apply List.Sublist.cons_cons | apply List.Sublist.cons | exact List.sublist_append_left _ _ | refine List.Sublist.trans ?_ (List.sublist_append_right _ _))), ?_⟩
    rw [nuR, if_pos hc1]; exact ⟨rfl, rfl⟩
  try simp only [sk] at hc1
  have hbe := beG_ok hc1.2
  refine CW.skip (Q.tn ?_)
  refine CW.seq ?_
  refine CW.region ?_
  refine W.p O.mv ?_
  refine W.p O.mv ?_
  refine W.p O.nc ?_
  first | refine W.p O.fb ?_ | refine W.p O.fa ?_
  refine W.p O.ld ?_
  refine W.p O.mv ?_
  first | refine W.p O.addN ?_ | refine W.p O.add ?_
  refine W.p O.nc ?_
  first | refine W.p O.fb ?_ | refine W.p O.fa ?_
  first | refine W.st (vt rfl) (vt rfl) rfl ?_ | refine W.st (u := .int _ _) (vt rfl) (vt rfl) rfl ?_
  refine WL.nil (Q.tn ?_)
  refine CW.seq ?_
  refine CW.region ?_
  refine W.p O.mv ?_
  refine W.p O.as ?_
  refine WL.nil (Q.tn ?_)
  refine CW.ret ?_
  refine ⟨_, [MmO b s ⟨t.at_ + 2, t.bad⟩], (RVs.tmp rfl RVs.nil), (by repeat (first | exact List.Sublist.refl _ | exact hSub _ | exact List.sublist_append_left _ _ | exact List.nil_sublist _ | refine List.Sublist.append (List.Sublist.refl _) ?_ | apply List.Sublist.cons_cons | apply List.Sublist.cons | exact List.sublist_append_left _ _ | refine List.Sublist.trans ?_ (List.sublist_append_right _ _))), ?_⟩
  rw [nuR, if_neg (by rintro (h | h); (rw [hc1.1] at h; cases h); exact h hc1.2), hc1.1]; exact ⟨rfl, rfl⟩
set_option maxRecDepth 100000 in
theorem ref_rrs0 {b : Nat} {s : List UInt8} {t : TS} (k : Int) (w : World) (hL : Holds [MmO b s t] w) (hs : s.length ≤ 4398046511104) (hk : k ≤ 65535) :
    Fn Try.prog 140 [.pointer (some ⟨b, 0, none⟩), .int .i64 k] w [MmO b s t] fun v L' => ∃ o c sp, v = .slice (oa o) (lpM (rRec s) bigC k.toNat [] t).1.length c ∧ OwnOk o c 7 (lpM (rRec s) bigC k.toNat [] t).1.length (List.length sp) ∧ L' = rowL o 96 (flat encR (lpM (rRec s) bigC k.toNat [] t).1 sp) ++ [MmO b s (lpM (rRec s) bigC k.toNat [] t).2] := by
  refine Fn.enter Try.func140 rfl rfl rfl rfl hL ?_
  refine CW.seq ?_
  refine CW.region ?_
  refine W.p O.as ?_
  refine WL.nil (Q.tn ?_)
  refine CW.seq ?_
  refine CW.region ?_
  refine W.p O.as ?_
  refine WL.nil (Q.tn ?_)
  refine CW.seq ?_
  refine CW.seq ?_
  refine CW.region ?_
  refine W.p O.as ?_
  refine WL.nil (Q.tn ?_)
  refine CW.block ?_
  refine CW.loopA (X := Int × (List RR) × TS × (Option Nat) × Nat × (List Value)) (fun ⟨i, out, u, o, cc, sp⟩ => [(0, true, .pointer (some ⟨b, 0, none⟩)), (1, true, .int .i64 k), (6, true, .int .i64 i), (5, true, .slice (oa o) out.length cc)]) (fun ⟨i, out, u, o, cc, sp⟩ => rowL o 96 (flat encR out sp) ++ [MmO b s u]) (fun ⟨i, out, u, o, cc, sp⟩ => 0 ≤ i ∧ OwnOk o cc 7 out.length sp.length ∧ lpM (rRec s) bigC (k - i).toNat out u = (lpM (rRec s) bigC k.toNat [] t) ∧ out.length ≤ i ∧ (i = 0 ∨ i ≤ 65535)) (fun ⟨i, out, u, o, cc, sp⟩ => (k - i).toNat) (0, [], t, none, 0, []) ?_ ?_
  · exact ⟨by omega, OwnOk.nil, by rw [Int.sub_zero], by simp, .inl rfl⟩
  rintro ⟨i, out, u, o, cc, sp⟩ hI
  try dsimp only at hI ⊢
  obtain ⟨h1, ok9, hr, hl, hi⟩ := hI
  have nk9 := ok9.nk (α := RR) (xs := out)
  refine CW.seq ?_
  refine CW.seq ?_
  refine CW.region ?_
  refine W.p O.mv ?_
  refine W.p O.mv ?_
  refine W.p O.lss ?_
  refine W.p O.mv ?_
  refine W.p O.mv ?_
  refine W.p O.nc ?_
  first | refine W.p O.fb ?_ | refine W.p O.fa ?_
  refine W.p O.ld ?_
  refine W.p O.nt ?_
  refine W.p O.pkB ?_
  refine WL.nil (Q.tn ?_)
  refine CW.cond (vt rfl) (fun hc1 => ?_) (fun hc1 => ?_)
  · try simp only [sk] at hc1
    refine CW.skip (Q.tn ?_)
    refine CW.seq ?_
    refine CW.block ?_
    refine CW.seq ?_
    refine CW.drawHL rfl ?_
    refine RH.qa 0 rfl (O.mv) ?_
    refine RH.qa 1 rfl (O.nc) ?_
    first | refine RH.qa 2 rfl (O.fb) ?_ | refine RH.qa 2 rfl (O.fa) ?_
    refine RH.qa 3 rfl (O.ld) ?_
    refine RH.qa 4 rfl (O.mv) ?_
    refine RH.qa 5 rfl (O.nc) ?_
    first | refine RH.qa 6 rfl (O.fb) ?_ | refine RH.qa 6 rfl (O.fa) ?_
    refine RH.qa 7 rfl (O.ld) ?_
    refine RH.two (i := 8) (j := 13) (fun _ _ h => h) (by kernel_rfl) rfl rfl ?_ ?_
    · refine W.q (O.call ⟨rfl, rfl⟩ (AV.cons (vt rfl) (AV.cons (vt rfl) (AV.nil))) (fun _ w hw => ref_GetRr s _ w hs)) ?_
      refine WL.nilQa ?_
      refine RH.qa 9 rfl (O.mv) ?_
      first | refine RH.qa 10 rfl (O.extL) ?_ | refine RH.qa 10 rfl (O.ext) ?_
      first | refine RH.qa 11 rfl (O.extL) ?_ | refine RH.qa 11 rfl (O.ext) ?_
      first | refine RH.qa 12 rfl (O.extL) ?_ | refine RH.qa 12 rfl (O.ext) ?_
      refine RH.one (i := 13) (fun _ _ h => h) (by kernel_rfl) rfl ?_
      refine W.al rfl rfl fun b1 => ?_
      refine WL.nilQa ?_
      refine RH.one (i := 14) (fun _ _ h => h) (by kernel_rfl) rfl ?_
      refine W.st (vt rfl) (vt rfl) rfl ?_
      refine WL.nilQa ?_
      refine RH.qa 15 rfl (O.as) ?_
      refine RH.qa 16 rfl (O.as) ?_
      refine RH.done (by kernel_rfl) (Q.tn ?_)
      refine CW.seq ?_
      refine CW.region ?_
      refine W.p O.mv ?_
      refine W.p O.mv ?_
      refine W.p O.neI ?_
      refine W.p O.nc ?_
      first | refine W.p O.fb ?_ | refine W.p O.fa ?_
      refine W.st (vt rfl) (vt rfl) rfl ?_
      refine WL.nil (Q.tn ?_)
      refine CW.seq ?_
      refine CW.region ?_
      refine W.p O.mv ?_
      refine W.p O.mv ?_
      refine W.p O.nc ?_
      first | refine W.p O.fb ?_ | refine W.p O.fa ?_
      first | refine W.st (vt rfl) (vt rfl) rfl ?_ | refine W.st (u := .int _ _) (vt rfl) (vt rfl) rfl ?_
      refine WL.nil (Q.tn ?_)
      refine CW.region ?_
      refine W.p O.mv ?_
      refine W.p O.lds ?_
      refine W.bs encR [(rRec s u).1] rfl (PV.cons (vt rfl) (PV.nil)) rfl rfl rfl (by decide) rfl fun b2 => ?_
      refine W.ap rfl (vt rfl) (vt rfl) (by first | rfl | omega) (by first | rfl | omega) rfl (by first | assumption | exact OwnOk.nil | exact OwnOk.lit) (by first | omega | (simp; omega)) fun o1 c1 sp1 ok1 ne1 gt1 => ?_
      have nk1 := ok1.nk; have le1 := ok1.2.2.1; try simp only [List.length_append, List.length_cons, List.length_nil] at le1
      refine W.p O.as ?_
      refine WL.nil (Q.bn (Q.tn ?_))
      refine CW.region ?_
      refine W.p O.mv ?_
      first | refine W.p O.addN ?_ | refine W.p O.add ?_
      refine W.p O.as ?_
      refine WL.nil (Q.tn ?_)
      refine nextA (i + 1, out ++ [(rRec s u).1], (rRec s u).2, _, _, _) ?_ ?_
      · try dsimp only
        refine ⟨by omega, by assumption, ?_, by simp only [List.length_append, List.length_cons, List.length_nil]; omega, .inr (by omega)⟩
        rw [← hr, lp_step (k := k - i) (by omega) hc1.2 (by show out.length ≤ 1000000; omega), show k - i - 1 = k - (i + 1) by omega]
      · try dsimp only
        omega
    · refine W.al rfl rfl fun b3 => ?_
      refine WL.nilQa ?_
      refine RH.one (i := 8) (fun _ _ h => h) (by kernel_rfl) rfl ?_
      refine W.q (O.call ⟨rfl, rfl⟩ (AV.cons (vt rfl) (AV.cons (vt rfl) (AV.nil))) (fun _ w hw => ref_GetRr s _ w hs)) ?_
      refine WL.nilQa ?_
      refine RH.qa 9 rfl (O.mv) ?_
      first | refine RH.qa 10 rfl (O.extL) ?_ | refine RH.qa 10 rfl (O.ext) ?_
      first | refine RH.qa 11 rfl (O.extL) ?_ | refine RH.qa 11 rfl (O.ext) ?_
      first | refine RH.qa 12 rfl (O.extL) ?_ | refine RH.qa 12 rfl (O.ext) ?_
      refine RH.one (i := 14) (fun _ _ h => h) (by kernel_rfl) rfl ?_
      refine W.st (vt rfl) (vt rfl) rfl ?_
      refine WL.nilQa ?_
      refine RH.qa 15 rfl (O.as) ?_
      refine RH.qa 16 rfl (O.as) ?_
      refine RH.done (by kernel_rfl) (Q.tn ?_)
      refine CW.seq ?_
      refine CW.region ?_
      refine W.p O.mv ?_
      refine W.p O.mv ?_
      refine W.p O.neI ?_
      refine W.p O.nc ?_
      first | refine W.p O.fb ?_ | refine W.p O.fa ?_
      refine W.st (vt rfl) (vt rfl) rfl ?_
      refine WL.nil (Q.tn ?_)
      refine CW.seq ?_
      refine CW.region ?_
      refine W.p O.mv ?_
      refine W.p O.mv ?_
      refine W.p O.nc ?_
      first | refine W.p O.fb ?_ | refine W.p O.fa ?_
      first | refine W.st (vt rfl) (vt rfl) rfl ?_ | refine W.st (u := .int _ _) (vt rfl) (vt rfl) rfl ?_
      refine WL.nil (Q.tn ?_)
      refine CW.region ?_
      refine W.p O.mv ?_
      refine W.p O.lds ?_
      refine W.bs encR [(rRec s u).1] rfl (PV.cons (vt rfl) (PV.nil)) rfl rfl rfl (by decide) rfl fun b4 => ?_
      refine W.ap rfl (vt rfl) (vt rfl) (by first | rfl | omega) (by first | rfl | omega) rfl (by first | assumption | exact OwnOk.nil | exact OwnOk.lit) (by first | omega | (simp; omega)) fun o2 c2 sp2 ok2 ne2 gt2 => ?_
      have nk2 := ok2.nk; have le2 := ok2.2.2.1; try simp only [List.length_append, List.length_cons, List.length_nil] at le2
      refine W.p O.as ?_
      refine WL.nil (Q.bn (Q.tn ?_))
      refine CW.region ?_
      refine W.p O.mv ?_
      first | refine W.p O.addN ?_ | refine W.p O.add ?_
      refine W.p O.as ?_
      refine WL.nil (Q.tn ?_)
      refine nextA (i + 1, out ++ [(rRec s u).1], (rRec s u).2, _, _, _) ?_ ?_
      · try dsimp only
        refine ⟨by omega, by assumption, ?_, by simp only [List.length_append, List.length_cons, List.length_nil]; omega, .inr (by omega)⟩
        rw [← hr, lp_step (k := k - i) (by omega) hc1.2 (by show out.length ≤ 1000000; omega), show k - i - 1 = k - (i + 1) by omega]
      · try dsimp only
        omega
  try simp only [sk] at hc1
  refine CW.exit (Q.te (Q.te (Q.bx (Q.tn ?_))))
  refine CW.seq ?_
  refine CW.region ?_
  refine W.p O.mv ?_
  refine W.p O.as ?_
  refine WL.nil (Q.tn ?_)
  refine CW.ret ?_
  refine ⟨_, rowL o 96 (flat encR out sp) ++ [MmO b s u], (RVs.tmp rfl RVs.nil), (by repeat (first | exact List.Sublist.refl _ | exact hSub _ | exact List.sublist_append_left _ _ | exact List.nil_sublist _ | refine List.Sublist.append (List.Sublist.refl _) ?_ | apply List.Sublist.cons_cons | apply List.Sublist.cons | exact List.sublist_append_left _ _ | refine List.Sublist.trans ?_ (List.sublist_append_right _ _))), ?_⟩
  have e : (lpM (rRec s) bigC k.toNat [] t) = (out, u) := by rw [← hr]; exact lp_stop (by rcases hc1 with h | h; exact .inl (by omega); exact .inr (.inl (by simpa using h)))
  rw [e]; exact ⟨o, cc, sp, rfl, ok9, rfl⟩
theorem ref_rrs {b : Nat} {s : List UInt8} {t : TS} (k : Int) (w : World) (hL : Holds [MmO b s t] w) (hs : s.length ≤ 4398046511104) (hk : k ≤ 65535) :
    Fn Try.prog 140 [.pointer (some ⟨b, 0, none⟩), .int .i64 k] w [MmO b s t] fun v L' => ∃ o c sp, v = .slice (oa o) (lpM (rRec s) bigC k.toNat [] t).1.length c ∧ OwnOk o c 7 (lpM (rRec s) bigC k.toNat [] t).1.length (List.length sp) ∧ L' = MmO b s (lpM (rRec s) bigC k.toNat [] t).2 :: rowL o 96 (flat encR (lpM (rRec s) bigC k.toNat [] t).1 sp) :=
  Fn.perm (ref_rrs0 k w hL hs hk) fun v L ⟨o, c, sp, h1, h2, h3⟩ => ⟨_, h3 ▸ own_perm, o, c, sp, h1, h2, rfl⟩
def optA (s : List UInt8) (p : Int) : Int × Int × Bool := match optG s p with | some x => (x.1, x.2, true) | none => (0, 0, false)
theorem beG_2 {s : List UInt8} {p : Int} (h0 : 0 ≤ p) (h : p + 2 ≤ s.length) : beG s p 2 = (numS s p (p + 2), 0) := by rw [beG_in (.inr (.inl rfl)) h0 rfl h]; rfl
theorem gt_rng (s : List UInt8) (p : Int) : 0 ≤ (grT (getName s p)) ∧ (grT (getName s p)) ≤ s.length := by
  cases hg : getName s p with
  | err e => exact ⟨Int.le_refl 0, by show (0 : Int) ≤ _; omega⟩
  | ok nm to => have := getName_rng hg; exact ⟨by show 0 ≤ to; omega, this.2.2⟩
theorem optG_ok {s : List UInt8} {p : Int} (h : grE (getName s p) = 0) : optG s p = if grN (getName s p) = [] ∧ (grT (getName s p)) + 10 ≤ s.length ∧ numS s (grT (getName s p)) ((grT (getName s p)) + 2) = 41 ∧ (grT (getName s p)) + 10 + numS s ((grT (getName s p)) + 8) ((grT (getName s p)) + 10) ≤ s.length then some (max (numS s ((grT (getName s p)) + 2) ((grT (getName s p)) + 4)) 512, (grT (getName s p)) + 10 + numS s ((grT (getName s p)) + 8) ((grT (getName s p)) + 10)) else none := by
  unfold optG; rw [gr_ok h]; rfl
theorem optA_no {s : List UInt8} {p : Int} (h : ((((((grE (getName s p) ≠ 0 ∨ (beG s (grT (getName s p)) 2).2 ≠ 0) ∨ (beG s ((grT (getName s p)) + 2) 2).2 ≠ 0) ∨ (beG s ((grT (getName s p)) + 8) 2).2 ≠ 0) ∨ grN (getName s p) ≠ []) ∨ (beG s (grT (getName s p)) 2).1 ≠ 41) ∨ (s.length : Int) < (grT (getName s p)) + 10 + (beG s ((grT (getName s p)) + 8) 2).1)) : optA s p = (0, 0, false) := by
  have hr := gt_rng s p
  have key : optG s p = none := by
    by_cases h0 : grE (getName s p) = 0
    · rw [optG_ok h0, if_neg]
      rintro ⟨a, b, c, d⟩
      rw [beG_2 hr.1 (by omega), beG_2 (p := (grT (getName s p)) + 2) (by omega) (by omega), beG_2 (p := (grT (getName s p)) + 8) (by omega) (by omega), show (grT (getName s p)) + 8 + 2 = (grT (getName s p)) + 10 by omega] at h
      dsimp only at h
      rcases h with (((((h | h) | h) | h) | h) | h) | h
      · exact h h0
      · exact h rfl
      · exact h rfl
      · exact h rfl
      · exact h a
      · exact h c
      · omega
    · unfold optG
      cases hg : getName s p with
      | err e => rfl
      | ok nm to => rw [hg] at h0; exact absurd rfl h0
  rw [optA, key]
theorem optA_yes {s : List UInt8} {p : Int} (h : ((((((grE (getName s p) = 0 ∧ (beG s (grT (getName s p)) 2).2 = 0) ∧ (beG s ((grT (getName s p)) + 2) 2).2 = 0) ∧ (beG s ((grT (getName s p)) + 8) 2).2 = 0) ∧ grN (getName s p) = []) ∧ (beG s (grT (getName s p)) 2).1 = 41) ∧ ¬ (s.length : Int) < (grT (getName s p)) + 10 + (beG s ((grT (getName s p)) + 8) 2).1)) : optA s p = (max (beG s ((grT (getName s p)) + 2) 2).1 512, (grT (getName s p)) + 10 + (beG s ((grT (getName s p)) + 8) 2).1, true) := by
  have hr := gt_rng s p
  obtain ⟨⟨⟨⟨⟨⟨a, b⟩, c⟩, d⟩, e⟩, f⟩, g⟩ := h
  have h8 := (beG_ok d).2.2
  rw [beG_2 hr.1 (by omega)] at f
  rw [beG_2 (p := (grT (getName s p)) + 8) (by omega) (by omega), show (grT (getName s p)) + 8 + 2 = (grT (getName s p)) + 10 by omega] at g ⊢
  rw [beG_2 (p := (grT (getName s p)) + 2) (by omega) (by omega), show (grT (getName s p)) + 2 + 2 = (grT (getName s p)) + 4 by omega]
  dsimp only at f g ⊢
  rw [optA, optG_ok a, if_pos ⟨e, by omega, f, by omega⟩]
set_option maxRecDepth 100000 in
theorem ref_opt {b : Nat} {s : List UInt8} {t : TS} (w : World) (hL : Holds [MmO b s t] w) (hs : s.length ≤ 4398046511104) :
    Fn Try.prog 141 [.pointer (some ⟨b, 0, none⟩)] w [MmO b s t] fun v L' => v = .tuple #[.int .i64 (optA s t.at_).1, .int .i64 (optA s t.at_).2.1, .bool (optA s t.at_).2.2] ∧ L' = [MmO b s t] := by
  have hr := gt_rng s t.at_
  have hk := beG_rng s (grT (getName s t.at_) + 8)
  refine Fn.enter Try.func141 rfl rfl rfl rfl hL ?_
  refine CW.seq ?_
  refine CW.region ?_
  refine W.p O.as ?_
  refine W.p O.as ?_
  refine W.p O.as ?_
  refine WL.nil (Q.tn ?_)
  refine CW.seq ?_
  refine CW.draw 16 rfl (by kernel_rfl) ?_
  refine WQ.p O.mv ?_
  refine WQ.p O.nc ?_
  first | refine WQ.p O.fb ?_ | refine WQ.p O.fa ?_
  refine WQ.p O.ld ?_
  refine WQ.p O.mv ?_
  refine WQ.p O.nc ?_
  first | refine WQ.p O.fb ?_ | refine WQ.p O.fa ?_
  refine WQ.p O.ld ?_
  refine WQ.q (O.call ⟨rfl, rfl⟩ (AV.cons (vt rfl) (AV.cons (vt rfl) (AV.nil))) (fun _ w hw => ref_GetName _ _ w hs)) ?_
  refine WQ.p O.mv ?_
  first | refine WQ.p O.extL ?_ | refine WQ.p O.ext ?_
  first | refine WQ.p O.extL ?_ | refine WQ.p O.ext ?_
  first | refine WQ.p O.extL ?_ | refine WQ.p O.ext ?_
  refine WQ.p O.as ?_
  refine WQ.p O.as ?_
  refine WQ.p O.as ?_
  refine WQ.nil ?_
  refine WL.nil (Q.tn ?_)
  refine CW.seq ?_
  refine CW.region ?_
  refine W.p O.mv ?_
  refine W.p O.nc ?_
  first | refine W.p O.fb ?_ | refine W.p O.fa ?_
  refine W.p O.ld ?_
  refine W.p O.mv ?_
  refine W.q (O.call ⟨rfl, rfl⟩ (AV.cons (vt rfl) (AV.cons (vt rfl) (AV.cons (vt rfl) (AV.nil)))) (fun _ w hw => ref_GetBe s _ _ w (by omega))) ?_
  refine W.p O.mv ?_
  first | refine W.p O.extL ?_ | refine W.p O.ext ?_
  first | refine W.p O.extL ?_ | refine W.p O.ext ?_
  refine W.p O.as ?_
  refine W.p O.as ?_
  refine WL.nil (Q.tn ?_)
  refine CW.seq ?_
  refine CW.region ?_
  refine W.p O.mv ?_
  refine W.p O.nc ?_
  first | refine W.p O.fb ?_ | refine W.p O.fa ?_
  refine W.p O.ld ?_
  refine W.p O.mv ?_
  first | refine W.p O.addN ?_ | refine W.p O.add ?_
  refine W.q (O.call ⟨rfl, rfl⟩ (AV.cons (vt rfl) (AV.cons (vt rfl) (AV.cons (vt rfl) (AV.nil)))) (fun _ w hw => ref_GetBe s _ _ w (by omega))) ?_
  refine W.p O.mv ?_
  first | refine W.p O.extL ?_ | refine W.p O.ext ?_
  first | refine W.p O.extL ?_ | refine W.p O.ext ?_
  refine W.p O.as ?_
  refine W.p O.as ?_
  refine WL.nil (Q.tn ?_)
  refine CW.seq ?_
  refine CW.region ?_
  refine W.p O.mv ?_
  refine W.p O.nc ?_
  first | refine W.p O.fb ?_ | refine W.p O.fa ?_
  refine W.p O.ld ?_
  refine W.p O.mv ?_
  first | refine W.p O.addN ?_ | refine W.p O.add ?_
  refine W.q (O.call ⟨rfl, rfl⟩ (AV.cons (vt rfl) (AV.cons (vt rfl) (AV.cons (vt rfl) (AV.nil)))) (fun _ w hw => ref_GetBe s _ _ w (by omega))) ?_
  refine W.p O.mv ?_
  first | refine W.p O.extL ?_ | refine W.p O.ext ?_
  first | refine W.p O.extL ?_ | refine W.p O.ext ?_
  refine W.p O.as ?_
  refine W.p O.as ?_
  refine WL.nil (Q.tn ?_)
  refine CW.seq ?_
  refine CW.seq ?_
  refine CW.region ?_
  refine W.p O.mv ?_
  refine W.p O.neI ?_
  refine W.p O.mv ?_
  refine W.p O.mv ?_
  refine W.p O.neI ?_
  refine W.p O.pkB ?_
  refine W.p O.mv ?_
  refine W.p O.mv ?_
  refine W.p O.neI ?_
  refine W.p O.pkB ?_
  refine W.p O.mv ?_
  refine W.p O.mv ?_
  refine W.p O.neI ?_
  refine W.p O.pkB ?_
  refine W.p O.mv ?_
  refine W.p O.mv ?_
  refine W.p O.neS ?_
  refine W.p O.pkB ?_
  refine W.p O.mv ?_
  refine W.p O.mv ?_
  refine W.p O.neI ?_
  refine W.p O.pkB ?_
  refine W.p O.mv ?_
  refine W.p O.mv ?_
  first | refine W.p O.addN ?_ | refine W.p O.add ?_
  refine W.p O.mv ?_
  first | refine W.p O.addN ?_ | refine W.p O.add ?_
  refine W.p O.mv ?_
  refine W.p O.nc ?_
  first | refine W.p O.fb ?_ | refine W.p O.fa ?_
  refine W.p O.ld ?_
  refine W.p O.len ?_
  refine W.p O.gtr ?_
  refine W.p O.pkB ?_
  refine WL.nil (Q.tn ?_)
  refine CW.cond (vt rfl) (fun hc1 => ?_) (fun hc1 => ?_)
  · try simp only [sk] at hc1
    refine CW.seq ?_
    refine CW.region ?_
    refine W.p O.as ?_
    refine W.p O.as ?_
    refine W.p O.as ?_
    refine WL.nil (Q.tn ?_)
    refine CW.ret (Q.tr ?_)
    refine ⟨_, [MmO b s t], (RVs.tmp rfl (RVs.tmp rfl (RVs.tmp rfl RVs.nil))), (by repeat (first | exact List.Sublist.refl _ | exact hSub _ | exact List.sublist_append_left _ _ | exact List.nil_sublist _ | refine List.Sublist.append (List.Sublist.refl _) ?_ | apply List.Sublist.cons_cons | apply List.Sublist.cons | exact List.sublist_append_left _ _ | refine List.Sublist.trans ?_ (List.sublist_append_right _ _))), ?_⟩
    refine ⟨?_, rfl⟩
    rw [optA_no (p := t.at_) (by simpa only [ne_eq] using hc1)]; rfl
  try simp only [sk] at hc1
  refine CW.skip (Q.tn ?_)
  refine CW.seq ?_
  refine CW.region ?_
  refine W.p O.mv ?_
  refine W.p O.max ?_
  refine W.p O.mv ?_
  first | refine W.p O.addN ?_ | refine W.p O.add ?_
  refine W.p O.mv ?_
  first | refine W.p O.addN ?_ | refine W.p O.add ?_
  refine W.p O.as ?_
  refine W.p O.as ?_
  refine W.p O.as ?_
  refine WL.nil (Q.tn ?_)
  refine CW.ret ?_
  refine ⟨_, [MmO b s t], (RVs.tmp rfl (RVs.tmp rfl (RVs.tmp rfl RVs.nil))), (by repeat (first | exact List.Sublist.refl _ | exact hSub _ | exact List.sublist_append_left _ _ | exact List.nil_sublist _ | refine List.Sublist.append (List.Sublist.refl _) ?_ | apply List.Sublist.cons_cons | apply List.Sublist.cons | exact List.sublist_append_left _ _ | refine List.Sublist.trans ?_ (List.sublist_append_right _ _))), ?_⟩
  refine ⟨?_, rfl⟩
  rw [optA_yes (p := t.at_) (by exact hc1)]; rfl
end Go.Proofs.Ytkjcmdgideddnaa
