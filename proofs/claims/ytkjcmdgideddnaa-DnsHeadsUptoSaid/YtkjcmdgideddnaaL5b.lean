/- The statements DnsBack, DnsCut and DnsRoom: their walks. Conditions: what comes in is not longer than some millions. -/
import Derived.Test.YtkjcmdgideddnaaL5
set_option linter.unusedVariables false
set_option linter.unusedSimpArgs false
namespace Go.Proofs.Ytkjcmdgideddnaa
open Go Go.RowKit
/-- what a message that may be comes to, bound by bound -/
theorem put_big {m : Dn} : dnPut m 65535 = if dnMay m = true then (dWrite m, 0) else ([], 500) := by
  by_cases h : dnMay m = true
  · have hl := (dn_len h).2.2.1
    rw [if_pos h, dnPut, if_neg (by rintro (h2 | h2); rw [h] at h2; cases h2; exact absurd h2 (by decide)), if_pos (by omega)]
  · rw [if_neg h, dnPut, if_pos (.inl (Bool.not_eq_true _ ▸ h))]
theorem put_k {m : Dn} (h : dnMay m = true) {k : Int} (h1 : 12 ≤ k) (h2 : k ≤ 65535) : dnPut m k = if ((dWrite m).length : Int) ≤ k then (dWrite m, 0) else if ((dWrite (cutD m)).length : Int) ≤ k then (dWrite (cutD m), 0) else ([], 501) := by
  rw [dnPut, if_neg (by rintro (h3 | h3); (rw [h] at h3; cases h3); (rw [inR, decide_eq_true h1, decide_eq_true h2] at h3; cases h3))]
theorem put_len (m : Dn) (k : Int) : (dnPut m k).1.length ≤ 24700 := by
  unfold dnPut
  split
  · simp
  · rename_i h
    have hm : dnMay m = true := by cases hx : dnMay m with | true => rfl | false => exact absurd (.inl hx) h
    have h1 := (dn_len hm).2.2.1
    have h2 := (dn_len (may_cut hm)).2.2.1
    split
    · exact h1
    · split
      · exact h2
      · simp
theorem fold_q_lo : ∀ (l : List Qn') (st : List UInt8 × List Kn), st.1.length ≤ (l.foldl qPut st).1.length
  | [], st => Nat.le_refl _
  | x :: l, st => Nat.le_trans (by simp only [qPut, List.length_append]; omega) (fold_q_lo l (qPut st x))
theorem fold_r_lo : ∀ (l : List RR) (st : List UInt8 × List Kn), st.1.length ≤ (l.foldl rPut st).1.length
  | [], st => Nat.le_refl _
  | x :: l, st => Nat.le_trans (by simp only [rPut, List.length_append]; omega) (fold_r_lo l (rPut st x))
theorem dWrite_lo (m : Dn) : 12 ≤ (dWrite m).length := by
  have h1 := fold_q_lo m.qs (dHd m, [])
  have h2 := fold_r_lo (dAll m) (dQs m)
  have h3 := hd_len m
  rw [dWrite, List.length_append]
  rw [dQs] at h2
  rw [dRs, dQs]
  dsimp only at h1; omega
set_option maxRecDepth 100000 in
theorem law5_DnsCut (m : Dn) (aq : Option Addr) (cq : Nat) (aa : Option Addr) (ca : Nat) (az : Option Addr) (cz : Nat) (ad : Option Addr) (cd : Nat) (cut : Int) (more : List UInt8) (w : World) (h1 : In w aq (m.qs.flatMap encQ)) (h2 : In w aa (m.an.flatMap encR)) (h3 : In w az (m.se.flatMap encR)) (h4 : In w ad (m.ad.flatMap encR)) (g1 : m.qs.length ≤ 1048576) (g2 : ∀ x ∈ m.qs, x.name.length ≤ 1048576) (g3 : m.an.length ≤ 1048576) (g4 : ∀ x ∈ m.an, x.name.length ≤ 1048576) (g5 : ∀ x ∈ m.an, x.target.length ≤ 1048576) (g6 : m.se.length ≤ 1048576) (g7 : ∀ x ∈ m.se, x.name.length ≤ 1048576) (g8 : ∀ x ∈ m.se, x.target.length ≤ 1048576) (g9 : m.ad.length ≤ 1048576) (ga : ∀ x ∈ m.ad, x.name.length ≤ 1048576) (gb : ∀ x ∈ m.ad, x.target.length ≤ 1048576) (hb : more.length ≤ 1048576) : Fn Try.prog 33 [vDn m (aq, cq) (aa, ca) (az, cz) (ad, cd), .int .i64 cut, .string (S more)] w [] fun v L' => v = .bool true ∧ L' = [] := by
  have hin : DnIn w m (aq, cq) (aa, ca) (az, cz) (ad, cd) := ⟨h1, h2, h3, h4⟩
  have hz : DnSz m 1048576 := ⟨⟨g1, g2⟩, ⟨g3, fun x hx => ⟨g4 x hx, g5 x hx⟩⟩, ⟨g6, fun x hx => ⟨g7 x hx, g8 x hx⟩⟩, ⟨g9, fun x hx => ⟨ga x hx, gb x hx⟩⟩⟩
  have hpl := put_len m 65535
  refine Fn.enter Try.func33 rfl rfl rfl rfl (Holds.nil w) ?_
  refine CW.seq ?_
  refine CW.region ?_
  refine W.bx rfl (vt rfl) rfl fun b1 => ?_
  refine W.p O.as ?_
  refine WL.nil (Q.tn ?_)
  refine CW.seq ?_
  refine CW.seq ?_
  refine CW.region ?_
  refine W.q (O.call ⟨rfl, rfl⟩ (AV.nil) (fun _ w hw => law5_awake w)) ?_
  refine W.p O.nt ?_
  refine WL.nil (Q.tn ?_)
  refine CW.cond (vt rfl) (fun hc1 => ?_) (fun hc1 => ?_)
  · exact absurd hc1 (by decide)
  try simp only [sk] at hc1
  refine CW.skip (Q.tn ?_)
  refine CW.seq ?_
  refine CW.region ?_
  refine W.p O.lds ?_
  refine W.q (O.call ⟨rfl, rfl⟩ (AV.cons (vt rfl) (AV.cons (vt rfl) (AV.nil))) (fun _ w hw => dn_Put m (aq, cq) (aa, ca) (az, cz) (ad, cd) _ w (hin.upd hw) (hz.le (by decide)))) ?_
  refine W.p O.mv ?_
  first | refine W.p O.extL ?_ | refine W.p O.ext ?_
  first | refine W.p O.extL ?_ | refine W.p O.ext ?_
  refine W.p O.as ?_
  refine W.p O.as ?_
  refine WL.nil (Q.tn ?_)
  refine CW.seq ?_
  refine CW.seq ?_
  refine CW.region ?_
  refine W.p O.mv ?_
  refine W.q (O.call ⟨rfl, rfl⟩ (AV.cons (vt rfl) (AV.nil)) (fun _ w hw => law0_Num _ w)) ?_
  refine W.p O.neI ?_
  refine W.p O.mv ?_
  refine W.p O.mv ?_
  refine W.p O.len ?_
  refine W.p O.lss ?_
  refine W.p O.pkB ?_
  refine WL.nil (Q.tn ?_)
  refine CW.cond (vt rfl) (fun hc2 => ?_) (fun hc2 => ?_)
  · try simp only [sk] at hc2
    refine CW.seq ?_
    refine CW.region ?_
    refine W.p O.mv ?_
    refine W.p O.eqS ?_
    refine W.p O.as ?_
    refine WL.nil (Q.tn ?_)
    refine CW.ret (Q.tr ?_)
    refine ⟨_, [], (RVs.tmp rfl RVs.nil), List.nil_sublist _, ?_⟩
    refine ⟨?_, rfl⟩
    have hm : ¬ dnMay m = true := by intro h; rw [put_big, if_pos h] at hc2; have := dWrite_lo m; rcases hc2 with h2 | h2; exact h2 rfl; (dsimp only at h2; omega)
    rw [put_big, if_neg hm]; rfl
  try simp only [sk] at hc2
  have hlen : 12 ≤ (dnPut m 65535).1.length := by omega
  have hk0 := Int.emod_nonneg (cut % 18446744073709551616) (show ((dnPut m 65535).1.length : Int) % 18446744073709551616 ≠ 0 by omega)
  have hk1 := Int.emod_lt_of_pos (cut % 18446744073709551616) (show 0 < ((dnPut m 65535).1.length : Int) % 18446744073709551616 by omega)
  have hkk : IntKind.i64.wrap (cut % 18446744073709551616 % (((dnPut m 65535).1.length : Int) % 18446744073709551616)) = cut % 18446744073709551616 % (((dnPut m 65535).1.length : Int) % 18446744073709551616) := wrap_in _ (by omega)
  have hm : dnMay m = true := by apply Decidable.byContradiction; intro h; rw [put_big, if_neg h] at hc2; exact absurd hc2.1 (by decide)
  refine CW.skip (Q.tn ?_)
  refine CW.seq ?_
  refine CW.region ?_
  refine W.p O.mv ?_
  refine W.p O.cvUn ?_
  refine W.p O.mv ?_
  refine W.p O.len ?_
  refine W.p O.cvUn ?_
  refine W.p O.rem ?_
  first | refine W.p O.cvN ?_ | refine W.p O.cv ?_
  refine W.p O.as ?_
  refine WL.nil (Q.tn ?_)
  refine CW.seq ?_
  refine CW.region ?_
  refine W.p O.mv ?_
  refine W.p O.mv ?_
  refine W.p O.slcH ?_
  refine W.callN (first := []) (cap := []) rfl (vt rfl) (AV.cons (vt rfl) (AV.nil)) (fun w hu => dn_Get _ w (by rw [List.length_take]; omega)) ?_; rintro _ _ ⟨o21, c21, p21, o22, c22, p22, o23, c23, p23, o24, c24, p24, rfl, ok21, ok22, ok23, ok24, rfl⟩
  refine W.p O.mv ?_
  first | refine W.p O.extL ?_ | refine W.p O.ext ?_
  first | refine W.p O.extL ?_ | refine W.p O.ext ?_
  refine W.al rfl rfl fun b2 => ?_
  refine W.st (vt rfl) (vt rfl) rfl ?_
  refine W.p O.as ?_
  refine WL.nil (Q.tn ?_)
  refine CW.seq ?_
  refine CW.region ?_
  refine W.p O.mv ?_
  refine W.p O.addS ?_
  refine W.p O.mv ?_
  refine W.p O.addS ?_
  refine W.callN (first := []) (cap := []) rfl (vt rfl) (AV.cons (vt rfl) (AV.nil)) (fun w hu => dn_Get _ w (by simp only [List.length_append, List.length_cons, List.length_nil]; omega)) ?_; rintro _ _ ⟨o31, c31, p31, o32, c32, p32, o33, c33, p33, o34, c34, p34, rfl, ok31, ok32, ok33, ok34, rfl⟩
  refine W.p O.mv ?_
  first | refine W.p O.extL ?_ | refine W.p O.ext ?_
  first | refine W.p O.extL ?_ | refine W.p O.ext ?_
  refine W.al rfl rfl fun b3 => ?_
  refine W.st (vt rfl) (vt rfl) rfl ?_
  refine W.p O.as ?_
  refine WL.nil (Q.tn ?_)
  refine CW.seq ?_
  refine CW.region ?_
  refine W.p O.mv ?_
  refine W.q (O.call ⟨rfl, rfl⟩ (AV.cons (vt rfl) (AV.nil)) (fun _ w hw => law0_Num _ w)) ?_
  refine W.p O.eqI ?_
  refine W.p O.mv ?_
  refine W.p O.mv ?_
  refine W.q (O.call ⟨rfl, rfl⟩ (AV.cons (vs rfl) (AV.nil)) (fun _ w hw => law0_Num _ w)) ?_
  refine W.p O.eqI ?_
  refine W.p O.pkB ?_
  refine W.p O.as ?_
  refine WL.nil (Q.tn ?_)
  refine CW.ret ?_
  refine ⟨_, [], (RVs.tmp rfl RVs.nil), List.nil_sublist _, ?_⟩
  refine ⟨?_, rfl⟩
  have e : dnPut m 65535 = (dWrite m, 0) := by rw [put_big, if_pos hm]
  rw [e] at hk0 hk1 ⊢
  rw [dn_cut hm (by dsimp only at hk0 hk1 ⊢; omega), List.append_assoc, dn_long hm (by simp)]; rfl
set_option maxRecDepth 100000 in
theorem law5_DnsBack (m : Dn) (aq : Option Addr) (cq : Nat) (aa : Option Addr) (ca : Nat) (az : Option Addr) (cz : Nat) (ad : Option Addr) (cd : Nat) (most : Int) (w : World) (h1 : In w aq (m.qs.flatMap encQ)) (h2 : In w aa (m.an.flatMap encR)) (h3 : In w az (m.se.flatMap encR)) (h4 : In w ad (m.ad.flatMap encR)) (g1 : m.qs.length ≤ 1048576) (g2 : ∀ x ∈ m.qs, x.name.length ≤ 1048576) (g3 : m.an.length ≤ 1048576) (g4 : ∀ x ∈ m.an, x.name.length ≤ 1048576) (g5 : ∀ x ∈ m.an, x.target.length ≤ 1048576) (g6 : m.se.length ≤ 1048576) (g7 : ∀ x ∈ m.se, x.name.length ≤ 1048576) (g8 : ∀ x ∈ m.se, x.target.length ≤ 1048576) (g9 : m.ad.length ≤ 1048576) (ga : ∀ x ∈ m.ad, x.name.length ≤ 1048576) (gb : ∀ x ∈ m.ad, x.target.length ≤ 1048576) : Fn Try.prog 30 [vDn m (aq, cq) (aa, ca) (az, cz) (ad, cd), .int .i64 most] w [] fun v L' => v = .bool true ∧ L' = [] := by
  have hin : DnIn w m (aq, cq) (aa, ca) (az, cz) (ad, cd) := ⟨h1, h2, h3, h4⟩
  have hz : DnSz m 1048576 := ⟨⟨g1, g2⟩, ⟨g3, fun x hx => ⟨g4 x hx, g5 x hx⟩⟩, ⟨g6, fun x hx => ⟨g7 x hx, g8 x hx⟩⟩, ⟨g9, fun x hx => ⟨ga x hx, gb x hx⟩⟩⟩
  have hpl := put_len m 65535
  have hpk := put_len m (12 + most % 18446744073709551616 % 600)
  have hk : 12 ≤ (12 + most % 18446744073709551616 % 600) ∧ (12 + most % 18446744073709551616 % 600) ≤ 65535 := by omega
  have hl1 := fun t => (dnGet_ln t).ha
  have hl2 := fun t => (dnGet_ln t).hs
  have hl3 := fun t => (dnGet_ln t).hd
  have la1 := hl1 (dnPut m (12 + most % 18446744073709551616 % 600)).1
  have la2 := hl2 (dnPut m (12 + most % 18446744073709551616 % 600)).1
  have la3 := hl3 (dnPut m (12 + most % 18446744073709551616 % 600)).1
  refine Fn.enter Try.func30 rfl rfl rfl rfl (Holds.nil w) ?_
  refine CW.seq ?_
  refine CW.region ?_
  refine W.bx rfl (vt rfl) rfl fun b1 => ?_
  refine W.p O.as ?_
  refine WL.nil (Q.tn ?_)
  refine CW.seq ?_
  refine CW.seq ?_
  refine CW.region ?_
  refine W.q (O.call ⟨rfl, rfl⟩ (AV.nil) (fun _ w hw => law5_awake w)) ?_
  refine W.p O.nt ?_
  refine WL.nil (Q.tn ?_)
  refine CW.cond (vt rfl) (fun hc1 => ?_) (fun hc1 => ?_)
  · exact absurd hc1 (by decide)
  try simp only [sk] at hc1
  refine CW.skip (Q.tn ?_)
  refine CW.seq ?_
  refine CW.region ?_
  refine W.p O.lds ?_
  refine W.q (O.call ⟨rfl, rfl⟩ (AV.cons (vt rfl) (AV.cons (vt rfl) (AV.nil))) (fun _ w hw => dn_Put m (aq, cq) (aa, ca) (az, cz) (ad, cd) _ w (hin.upd hw) (hz.le (by decide)))) ?_
  refine W.p O.mv ?_
  first | refine W.p O.extL ?_ | refine W.p O.ext ?_
  first | refine W.p O.extL ?_ | refine W.p O.ext ?_
  refine W.p O.as ?_
  refine W.p O.as ?_
  refine WL.nil (Q.tn ?_)
  refine CW.seq ?_
  refine CW.seq ?_
  refine CW.region ?_
  refine W.p O.mv ?_
  refine W.q (O.call ⟨rfl, rfl⟩ (AV.cons (vt rfl) (AV.nil)) (fun _ w hw => law0_Num _ w)) ?_
  refine W.p O.neI ?_
  refine WL.nil (Q.tn ?_)
  refine CW.cond (vt rfl) (fun hc2 => ?_) (fun hc2 => ?_)
  · try simp only [sk] at hc2
    refine CW.seq ?_
    refine CW.region ?_
    refine W.p O.mv ?_
    refine W.p O.eqS ?_
    refine W.p O.mv ?_
    refine W.p O.lds ?_
    refine W.q (O.call ⟨rfl, rfl⟩ (AV.cons (vs rfl) (AV.nil)) (fun _ w hw => dn_May m (aq, cq) (aa, ca) (az, cz) (ad, cd) w (hin.upd hw) (hz.le (by decide)))) ?_
    refine W.p O.nt ?_
    refine W.p O.mv ?_
    refine W.p O.mv ?_
    refine W.q (O.call ⟨rfl, rfl⟩ (AV.cons (vs rfl) (AV.nil)) (fun _ w hw => law0_Num _ w)) ?_
    refine W.p O.eqI ?_
    refine W.p O.pkB ?_
    refine W.p O.pkB ?_
    refine W.p O.as ?_
    refine WL.nil (Q.tn ?_)
    refine CW.ret (Q.tr ?_)
    refine ⟨_, [], (RVs.tmp rfl RVs.nil), List.nil_sublist _, ?_⟩
    refine ⟨?_, rfl⟩
    have hm : dnMay m = false := by cases hx : dnMay m with | false => rfl | true => (rw [put_big, if_pos hx] at hc2; exact absurd rfl hc2)
    rw [put_big, if_neg (by rw [hm]; decide), hm]; rfl
  try simp only [sk] at hc2
  have hm : dnMay m = true := by apply Decidable.byContradiction; intro h; rw [put_big, if_neg h] at hc2; exact absurd hc2 (by decide)
  have e : dnPut m 65535 = (dWrite m, 0) := by rw [put_big, if_pos hm]
  have hg : dnGet (dnPut m 65535).1 = (m, 0) := by rw [e]; exact dn_got hm
  have hp := put_k hm hk.1 hk.2
  refine CW.skip (Q.tn ?_)
  refine CW.seq ?_
  refine CW.region ?_
  refine W.p O.mv ?_
  refine W.callN (first := []) (cap := []) rfl (vt rfl) (AV.cons (vt rfl) (AV.nil)) (fun w hu => dn_Get (dnPut m 65535).1 w (by omega)) ?_; rintro _ _ ⟨o21, c21, p21, o22, c22, p22, o23, c23, p23, o24, c24, p24, rfl, ok21, ok22, ok23, ok24, rfl⟩; have nk21 := ok21.nk (α := Qn') (xs := (dnGet (dnPut m 65535).1).1.qs); have nk22 := ok22.nk (α := RR) (xs := (dnGet (dnPut m 65535).1).1.an); have nk23 := ok23.nk (α := RR) (xs := (dnGet (dnPut m 65535).1).1.se); have nk24 := ok24.nk (α := RR) (xs := (dnGet (dnPut m 65535).1).1.ad)
  refine W.p O.mv ?_
  first | refine W.p O.extL ?_ | refine W.p O.ext ?_
  first | refine W.p O.extL ?_ | refine W.p O.ext ?_
  refine W.al rfl rfl fun b2 => ?_
  refine W.st (vt rfl) (vt rfl) rfl ?_
  refine W.p O.as ?_
  refine WL.nil (Q.tn ?_)
  refine CW.seq ?_
  refine CW.seq ?_
  refine CW.region ?_
  refine W.p O.mv ?_
  refine W.q (O.call ⟨rfl, rfl⟩ (AV.cons (vt rfl) (AV.nil)) (fun _ w hw => law0_Num _ w)) ?_
  refine W.p O.neI ?_
  refine W.p O.mv ?_
  refine W.p O.lds ?_
  refine W.p O.lds ?_
  refine W.q (O.call ⟨rfl, rfl⟩ (AV.cons (vs rfl) (AV.cons (vs rfl) (AV.nil))) (fun _ w hw => sameDns (dnGet (dnPut m 65535).1).1 m (oa o21, c21) (oa o22, c22) (oa o23, c23) (oa o24, c24) (aq, cq) (aa, ca) (az, cz) (ad, cd) w (DnIn.mk (RowL.h (enc := encQ) (xs := (dnGet (dnPut m 65535).1).1.qs) (a := oa o21) _ hw) (RowL.h (enc := encR) (xs := (dnGet (dnPut m 65535).1).1.an) (a := oa o22) _ hw) (RowL.h (enc := encR) (xs := (dnGet (dnPut m 65535).1).1.se) (a := oa o23) _ hw) (RowL.h (enc := encR) (xs := (dnGet (dnPut m 65535).1).1.ad) (a := oa o24) _ hw)) (hin.upd hw) (dnGet_ln _))) ?_
  refine W.p O.nt ?_
  refine W.p O.mv ?_
  refine W.p O.mv ?_
  refine W.p O.len ?_
  refine W.p O.leq ?_
  refine W.p O.pkB ?_
  refine W.p O.pkB ?_
  refine WL.nil (Q.tn ?_)
  refine CW.cond (vt rfl) (fun hc3 => ?_) (fun hc3 => ?_)
  · exfalso; rw [hg] at hc3; simp at hc3
  try simp only [sk] at hc3
  refine CW.skip (Q.tn ?_)
  refine CW.seq ?_
  refine CW.region ?_
  refine W.p O.mv ?_
  refine W.p O.cvUn ?_
  refine W.p O.rem ?_
  first | refine W.p O.cvN ?_ | refine W.p O.cv ?_
  first | refine W.p O.addN ?_ | refine W.p O.add ?_
  refine W.p O.as ?_
  refine WL.nil (Q.tn ?_)
  refine CW.seq ?_
  refine CW.region ?_
  refine W.p O.lds ?_
  refine W.p O.mv ?_
  refine W.q (O.call ⟨rfl, rfl⟩ (AV.cons (vt rfl) (AV.cons (vt rfl) (AV.nil))) (fun _ w hw => dn_Put m (aq, cq) (aa, ca) (az, cz) (ad, cd) _ w (hin.upd hw) (hz.le (by decide)))) ?_
  refine W.p O.mv ?_
  first | refine W.p O.extL ?_ | refine W.p O.ext ?_
  first | refine W.p O.extL ?_ | refine W.p O.ext ?_
  refine W.p O.as ?_
  refine W.p O.as ?_
  refine WL.nil (Q.tn ?_)
  refine CW.seq ?_
  refine CW.seq ?_
  refine CW.region ?_
  refine W.p O.mv ?_
  refine W.q (O.call ⟨rfl, rfl⟩ (AV.cons (vt rfl) (AV.nil)) (fun _ w hw => law0_Num _ w)) ?_
  refine W.p O.neI ?_
  refine WL.nil (Q.tn ?_)
  refine CW.cond (vt rfl) (fun hc4 => ?_) (fun hc4 => ?_)
  · try simp only [sk] at hc4
    refine CW.seq ?_
    refine CW.region ?_
    refine W.p O.mv ?_
    refine W.p O.eqS ?_
    refine W.p O.mv ?_
    refine W.p O.mv ?_
    refine W.q (O.call ⟨rfl, rfl⟩ (AV.cons (vs rfl) (AV.nil)) (fun _ w hw => law0_Num _ w)) ?_
    refine W.p O.eqI ?_
    refine W.p O.pkB ?_
    refine W.p O.mv ?_
    refine W.p O.mv ?_
    refine W.p O.len ?_
    refine W.p O.mv ?_
    refine W.p O.gtr ?_
    refine W.p O.pkB ?_
    refine W.p O.as ?_
    refine WL.nil (Q.tn ?_)
    refine CW.ret (Q.tr ?_)
    refine ⟨_, [], (RVs.tmp rfl RVs.nil), List.nil_sublist _, ?_⟩
    refine ⟨?_, rfl⟩
    by_cases a : ((dWrite m).length : Int) ≤ (12 + most % 18446744073709551616 % 600)
    · rw [hp, if_pos a] at hc4; exact absurd rfl hc4
    by_cases b : ((dWrite (cutD m)).length : Int) ≤ (12 + most % 18446744073709551616 % 600)
    · rw [hp, if_neg a, if_pos b] at hc4; exact absurd rfl hc4
    rw [if_neg a, if_neg b] at hp
    rw [hp, e, decide_eq_true (show (12 + most % 18446744073709551616 % 600) < ((dWrite m).length : Int) by omega)]; rfl
  try simp only [sk] at hc4
  refine CW.skip (Q.tn ?_)
  refine CW.seq ?_
  refine CW.region ?_
  refine W.p O.mv ?_
  refine W.callN (first := []) (cap := []) rfl (vt rfl) (AV.cons (vt rfl) (AV.nil)) (fun w hu => dn_Get (dnPut m (12 + most % 18446744073709551616 % 600)).1 w (by omega)) ?_; rintro _ _ ⟨o31, c31, p31, o32, c32, p32, o33, c33, p33, o34, c34, p34, rfl, ok31, ok32, ok33, ok34, rfl⟩; have nk31 := ok31.nk (α := Qn') (xs := (dnGet (dnPut m (12 + most % 18446744073709551616 % 600)).1).1.qs); have nk32 := ok32.nk (α := RR) (xs := (dnGet (dnPut m (12 + most % 18446744073709551616 % 600)).1).1.an); have nk33 := ok33.nk (α := RR) (xs := (dnGet (dnPut m (12 + most % 18446744073709551616 % 600)).1).1.se); have nk34 := ok34.nk (α := RR) (xs := (dnGet (dnPut m (12 + most % 18446744073709551616 % 600)).1).1.ad)
  refine W.p O.mv ?_
  first | refine W.p O.extL ?_ | refine W.p O.ext ?_
  first | refine W.p O.extL ?_ | refine W.p O.ext ?_
  refine W.al rfl rfl fun b3 => ?_
  refine W.st (vt rfl) (vt rfl) rfl ?_
  refine W.p O.as ?_
  refine WL.nil (Q.tn ?_)
  refine CW.seq ?_
  refine CW.seq ?_
  refine CW.region ?_
  refine W.p O.mv ?_
  refine W.p O.len ?_
  refine W.p O.mv ?_
  refine W.p O.leq ?_
  refine WL.nil (Q.tn ?_)
  refine CW.cond (vt rfl) (fun hc5 => ?_) (fun hc5 => ?_)
  · try simp only [sk] at hc5
    refine CW.seq ?_
    refine CW.region ?_
    refine W.p O.mv ?_
    refine W.p O.mv ?_
    refine W.p O.eqS ?_
    refine W.p O.as ?_
    refine WL.nil (Q.tn ?_)
    refine CW.ret (Q.tr ?_)
    refine ⟨_, [], (RVs.tmp rfl RVs.nil), List.nil_sublist _, ?_⟩
    refine ⟨?_, rfl⟩
    rw [e] at hc5
    rw [hp, if_pos hc5, e]; simp [oneOr]
  try simp only [sk] at hc5
  refine CW.skip (Q.tn ?_)
  refine CW.seq ?_
  refine CW.region ?_
  refine W.p O.mv ?_
  refine W.q (O.call ⟨rfl, rfl⟩ (AV.cons (vt rfl) (AV.nil)) (fun _ w hw => law0_Num _ w)) ?_
  refine W.p O.eqI ?_
  refine W.p O.mv ?_
  refine W.p O.mv ?_
  refine W.p O.len ?_
  refine W.p O.mv ?_
  refine W.p O.leq ?_
  refine W.p O.pkB ?_
  refine W.p O.mv ?_
  first | refine W.p O.fb ?_ | refine W.p O.fa ?_
  refine W.p O.ld ?_
  refine W.p O.pkB ?_
  refine W.p O.mv ?_
  first | refine W.p O.fb ?_ | refine W.p O.fa ?_
  refine W.p O.ld ?_
  refine W.p O.lenL ?_
  first | refine W.p O.fb ?_ | refine W.p O.fa ?_
  refine W.p O.ld ?_
  refine W.p O.lenL ?_
  first | refine W.p O.addN ?_ | refine W.p O.add ?_
  first | refine W.p O.fb ?_ | refine W.p O.fa ?_
  refine W.p O.ld ?_
  refine W.p O.lenL ?_
  first | refine W.p O.addN ?_ | refine W.p O.add ?_
  refine W.p O.eqI ?_
  refine W.p O.pkB ?_
  refine W.p O.mv ?_
  first | refine W.p O.fb ?_ | refine W.p O.fa ?_
  refine W.p O.ld ?_
  first | refine W.p O.fb ?_ | refine W.p O.fa ?_
  refine W.p O.ld ?_
  refine W.p O.eqI ?_
  refine W.p O.pkB ?_
  refine W.p O.mv ?_
  first | refine W.p O.fb ?_ | refine W.p O.fa ?_
  refine W.p O.ld ?_
  first | refine W.p O.fb ?_ | refine W.p O.fa ?_
  refine W.p O.ld ?_
  refine W.q (O.call ⟨rfl, rfl⟩ (AV.cons (vs rfl) (AV.cons (vs rfl) (AV.nil))) (fun _ w hw => sameQuestions (dnGet (dnPut m (12 + most % 18446744073709551616 % 600)).1).1.qs m.qs _ _ _ _ w (RowL.h (enc := encQ) (xs := (dnGet (dnPut m (12 + most % 18446744073709551616 % 600)).1).1.qs) (a := oa o31) _ hw) (hin.hq.upd (L0 := []) hw) (by have := (dnGet_ln (dnPut m (12 + most % 18446744073709551616 % 600)).1).hq; omega))) ?_
  refine W.p O.pkB ?_
  refine W.p O.mv ?_
  first | refine W.p O.fb ?_ | refine W.p O.fa ?_
  refine W.p O.ld ?_
  first | refine W.p O.fb ?_ | refine W.p O.fa ?_
  refine W.p O.ld ?_
  refine W.p O.eqI ?_
  refine W.p O.pkB ?_
  refine W.p O.as ?_
  refine WL.nil (Q.tn ?_)
  refine CW.ret ?_
  refine ⟨_, [], (RVs.tmp rfl RVs.nil), List.nil_sublist _, ?_⟩
  refine ⟨?_, rfl⟩
  rw [e] at hc5
  by_cases b : ((dWrite (cutD m)).length : Int) ≤ (12 + most % 18446744073709551616 % 600)
  · rw [if_neg hc5, if_pos b] at hp
    have hg2 := dn_got (may_cut hm)
    rw [hp]
    dsimp only
    rw [hg2, decide_eq_true b]
    simp [oneOr, cutD]
  · rw [hp, if_neg hc5, if_neg b] at hc4; exact absurd hc4 (by decide)
set_option maxRecDepth 100000 in
theorem law5_DnsRoom (m : Dn) (aq : Option Addr) (cq : Nat) (aa : Option Addr) (ca : Nat) (az : Option Addr) (cz : Nat) (ad : Option Addr) (cd : Nat) (a b : Int) (w : World) (h1 : In w aq (m.qs.flatMap encQ)) (h2 : In w aa (m.an.flatMap encR)) (h3 : In w az (m.se.flatMap encR)) (h4 : In w ad (m.ad.flatMap encR)) (g1 : m.qs.length ≤ 1048576) (g2 : ∀ x ∈ m.qs, x.name.length ≤ 1048576) (g3 : m.an.length ≤ 1048576) (g4 : ∀ x ∈ m.an, x.name.length ≤ 1048576) (g5 : ∀ x ∈ m.an, x.target.length ≤ 1048576) (g6 : m.se.length ≤ 1048576) (g7 : ∀ x ∈ m.se, x.name.length ≤ 1048576) (g8 : ∀ x ∈ m.se, x.target.length ≤ 1048576) (g9 : m.ad.length ≤ 1048576) (ga : ∀ x ∈ m.ad, x.name.length ≤ 1048576) (gb : ∀ x ∈ m.ad, x.target.length ≤ 1048576) : Fn Try.prog 34 [vDn m (aq, cq) (aa, ca) (az, cz) (ad, cd), .int .i64 a, .int .i64 b] w [] fun v L' => v = .bool true ∧ L' = [] := by
  have hin : DnIn w m (aq, cq) (aa, ca) (az, cz) (ad, cd) := ⟨h1, h2, h3, h4⟩
  have hz : DnSz m 1048576 := ⟨⟨g1, g2⟩, ⟨g3, fun x hx => ⟨g4 x hx, g5 x hx⟩⟩, ⟨g6, fun x hx => ⟨g7 x hx, g8 x hx⟩⟩, ⟨g9, fun x hx => ⟨ga x hx, gb x hx⟩⟩⟩
  have hlo : 12 ≤ (12 + a % 18446744073709551616 % 2000) ∧ (12 + a % 18446744073709551616 % 2000) ≤ 65535 := by omega
  have hhi : 12 ≤ (12 + b % 18446744073709551616 % 2000) ∧ (12 + b % 18446744073709551616 % 2000) ≤ 65535 := by omega
  refine Fn.enter Try.func34 rfl rfl rfl rfl (Holds.nil w) ?_
  refine CW.seq ?_
  refine CW.region ?_
  refine W.bx rfl (vt rfl) rfl fun b1 => ?_
  refine W.p O.as ?_
  refine WL.nil (Q.tn ?_)
  refine CW.seq ?_
  refine CW.seq ?_
  refine CW.region ?_
  refine W.q (O.call ⟨rfl, rfl⟩ (AV.nil) (fun _ w hw => law5_awake w)) ?_
  refine W.p O.nt ?_
  refine WL.nil (Q.tn ?_)
  refine CW.cond (vt rfl) (fun hc1 => ?_) (fun hc1 => ?_)
  · exact absurd hc1 (by decide)
  try simp only [sk] at hc1
  refine CW.skip (Q.tn ?_)
  refine CW.seq ?_
  refine CW.region ?_
  refine W.p O.lds ?_
  refine W.q (O.call ⟨rfl, rfl⟩ (AV.cons (vt rfl) (AV.cons (vt rfl) (AV.nil))) (fun _ w hw => dn_Put m (aq, cq) (aa, ca) (az, cz) (ad, cd) _ w (hin.upd hw) (hz.le (by decide)))) ?_
  refine W.p O.mv ?_
  first | refine W.p O.extL ?_ | refine W.p O.ext ?_
  first | refine W.p O.extL ?_ | refine W.p O.ext ?_
  refine W.p O.as ?_
  refine W.p O.as ?_
  refine WL.nil (Q.tn ?_)
  refine CW.seq ?_
  refine CW.seq ?_
  refine CW.region ?_
  refine W.p O.mv ?_
  refine W.q (O.call ⟨rfl, rfl⟩ (AV.cons (vt rfl) (AV.nil)) (fun _ w hw => law0_Num _ w)) ?_
  refine W.p O.neI ?_
  refine WL.nil (Q.tn ?_)
  refine CW.cond (vt rfl) (fun hc2 => ?_) (fun hc2 => ?_)
  · try simp only [sk] at hc2
    refine CW.seq ?_
    refine CW.region ?_
    refine W.p O.mv ?_
    refine W.p O.eqS ?_
    refine W.p O.as ?_
    refine WL.nil (Q.tn ?_)
    refine CW.ret (Q.tr ?_)
    refine ⟨_, [], (RVs.tmp rfl RVs.nil), List.nil_sublist _, ?_⟩
    refine ⟨?_, rfl⟩
    have hm : dnMay m = false := by cases hx : dnMay m with | false => rfl | true => (rw [put_big, if_pos hx] at hc2; exact absurd rfl hc2)
    rw [put_big, if_neg (by rw [hm]; decide)]; rfl
  try simp only [sk] at hc2
  have hm : dnMay m = true := by apply Decidable.byContradiction; intro h; rw [put_big, if_neg h] at hc2; exact absurd hc2 (by decide)
  have e : dnPut m 65535 = (dWrite m, 0) := by rw [put_big, if_pos hm]
  have pl := put_k hm hlo.1 hlo.2
  have ph := put_k hm hhi.1 hhi.2
  refine CW.skip (Q.tn ?_)
  refine CW.seq ?_
  refine CW.region ?_
  refine W.p O.mv ?_
  refine W.p O.cvUn ?_
  refine W.p O.rem ?_
  first | refine W.p O.cvN ?_ | refine W.p O.cv ?_
  first | refine W.p O.addN ?_ | refine W.p O.add ?_
  refine W.p O.mv ?_
  refine W.p O.cvUn ?_
  refine W.p O.rem ?_
  first | refine W.p O.cvN ?_ | refine W.p O.cv ?_
  first | refine W.p O.addN ?_ | refine W.p O.add ?_
  refine W.p O.as ?_
  refine W.p O.as ?_
  refine WL.nil (Q.tn ?_)
  refine CW.seq ?_
  refine CW.seq ?_
  refine CW.region ?_
  refine W.p O.mv ?_
  refine W.p O.mv ?_
  refine W.p O.gtr ?_
  refine WL.nil (Q.tn ?_)
  refine CW.cond (vt rfl) (fun hc3 => ?_) (fun hc3 => ?_)
  · try simp only [sk] at hc3
    refine CW.seq ?_
    refine CW.region ?_
    refine W.p O.as ?_
    refine WL.nil (Q.tn ?_)
    refine CW.ret (Q.tr ?_)
    refine ⟨_, [], (RVs.tmp rfl RVs.nil), List.nil_sublist _, ?_⟩
    refine ⟨?_, rfl⟩
    rfl
  try simp only [sk] at hc3
  refine CW.skip (Q.tn ?_)
  refine CW.seq ?_
  refine CW.region ?_
  refine W.p O.lds ?_
  refine W.p O.mv ?_
  refine W.q (O.call ⟨rfl, rfl⟩ (AV.cons (vt rfl) (AV.cons (vt rfl) (AV.nil))) (fun _ w hw => dn_Put m (aq, cq) (aa, ca) (az, cz) (ad, cd) _ w (hin.upd hw) (hz.le (by decide)))) ?_
  refine W.p O.mv ?_
  first | refine W.p O.extL ?_ | refine W.p O.ext ?_
  first | refine W.p O.extL ?_ | refine W.p O.ext ?_
  refine W.p O.as ?_
  refine W.p O.as ?_
  refine WL.nil (Q.tn ?_)
  refine CW.seq ?_
  refine CW.region ?_
  refine W.p O.lds ?_
  refine W.p O.mv ?_
  refine W.q (O.call ⟨rfl, rfl⟩ (AV.cons (vt rfl) (AV.cons (vt rfl) (AV.nil))) (fun _ w hw => dn_Put m (aq, cq) (aa, ca) (az, cz) (ad, cd) _ w (hin.upd hw) (hz.le (by decide)))) ?_
  refine W.p O.mv ?_
  first | refine W.p O.extL ?_ | refine W.p O.ext ?_
  first | refine W.p O.extL ?_ | refine W.p O.ext ?_
  refine W.p O.as ?_
  refine W.p O.as ?_
  refine WL.nil (Q.tn ?_)
  refine CW.seq ?_
  refine CW.seq ?_
  refine CW.region ?_
  refine W.p O.mv ?_
  refine W.q (O.call ⟨rfl, rfl⟩ (AV.cons (vt rfl) (AV.nil)) (fun _ w hw => law0_Num _ w)) ?_
  refine W.p O.eqI ?_
  refine W.p O.mv ?_
  refine W.p O.mv ?_
  refine W.p O.mv ?_
  refine W.p O.eqS ?_
  refine W.p O.pkB ?_
  refine WL.nil (Q.tn ?_)
  refine CW.cond (vt rfl) (fun hc4 => ?_) (fun hc4 => ?_)
  · try simp only [sk] at hc4
    refine CW.seq ?_
    refine CW.region ?_
    refine W.p O.mv ?_
    refine W.q (O.call ⟨rfl, rfl⟩ (AV.cons (vt rfl) (AV.nil)) (fun _ w hw => law0_Num _ w)) ?_
    refine W.p O.eqI ?_
    refine W.p O.mv ?_
    refine W.p O.mv ?_
    refine W.p O.mv ?_
    refine W.p O.eqS ?_
    refine W.p O.pkB ?_
    refine W.p O.as ?_
    refine WL.nil (Q.tn ?_)
    refine CW.ret (Q.tr ?_)
    refine ⟨_, [], (RVs.tmp rfl RVs.nil), List.nil_sublist _, ?_⟩
    refine ⟨?_, rfl⟩
    by_cases a1 : ((dWrite m).length : Int) ≤ (12 + a % 18446744073709551616 % 2000)
    · rw [ph, if_pos (by omega), e]; simp [oneOr]
    · exfalso
      rw [pl, if_neg a1, e] at hc4
      by_cases b1 : ((dWrite (cutD m)).length : Int) ≤ (12 + a % 18446744073709551616 % 2000)
      · rw [if_pos b1] at hc4; have hq := congrArg List.length hc4.2; dsimp only at hq; omega
      · rw [if_neg b1] at hc4; exact absurd hc4.1 (by decide)
  try simp only [sk] at hc4
  refine CW.skip (Q.tn ?_)
  refine CW.seq ?_
  refine CW.seq ?_
  refine CW.region ?_
  refine W.p O.mv ?_
  refine W.q (O.call ⟨rfl, rfl⟩ (AV.cons (vt rfl) (AV.nil)) (fun _ w hw => law0_Num _ w)) ?_
  refine W.p O.neI ?_
  refine WL.nil (Q.tn ?_)
  refine CW.cond (vt rfl) (fun hc5 => ?_) (fun hc5 => ?_)
  · try simp only [sk] at hc5
    refine CW.seq ?_
    refine CW.region ?_
    refine W.p O.mv ?_
    refine W.q (O.call ⟨rfl, rfl⟩ (AV.cons (vt rfl) (AV.nil)) (fun _ w hw => law0_Num _ w)) ?_
    refine W.p O.eqI ?_
    refine W.p O.mv ?_
    refine W.p O.mv ?_
    refine W.q (O.call ⟨rfl, rfl⟩ (AV.cons (vs rfl) (AV.nil)) (fun _ w hw => law0_Num _ w)) ?_
    refine W.p O.eqI ?_
    refine W.p O.pkB ?_
    refine W.p O.as ?_
    refine WL.nil (Q.tn ?_)
    refine CW.ret (Q.tr ?_)
    refine ⟨_, [], (RVs.tmp rfl RVs.nil), List.nil_sublist _, ?_⟩
    refine ⟨?_, rfl⟩
    have a1 : ¬ ((dWrite m).length : Int) ≤ (12 + b % 18446744073709551616 % 2000) := by intro h; rw [ph, if_pos h] at hc5; exact hc5 rfl
    have b1 : ¬ ((dWrite (cutD m)).length : Int) ≤ (12 + b % 18446744073709551616 % 2000) := by intro h; rw [ph, if_neg a1, if_pos h] at hc5; exact hc5 rfl
    rw [ph, if_neg a1, if_neg b1, pl, if_neg (by omega), if_neg (by omega)]; rfl
  try simp only [sk] at hc5
  refine CW.skip (Q.tn ?_)
  refine CW.seq ?_
  refine CW.region ?_
  refine W.p O.mv ?_
  refine W.q (O.call ⟨rfl, rfl⟩ (AV.cons (vt rfl) (AV.nil)) (fun _ w hw => law0_Num _ w)) ?_
  refine W.p O.neI ?_
  refine W.p O.mv ?_
  refine W.p O.mv ?_
  refine W.p O.mv ?_
  refine W.p O.eqS ?_
  refine W.p O.pkB ?_
  refine W.p O.mv ?_
  refine W.p O.mv ?_
  refine W.p O.mv ?_
  refine W.p O.eqS ?_
  refine W.p O.pkB ?_
  refine W.p O.as ?_
  refine WL.nil (Q.tn ?_)
  refine CW.ret ?_
  refine ⟨_, [], (RVs.tmp rfl RVs.nil), List.nil_sublist _, ?_⟩
  refine ⟨?_, rfl⟩
  by_cases a1 : ((dWrite m).length : Int) ≤ (12 + a % 18446744073709551616 % 2000)
  · exfalso; rw [pl, if_pos a1, e] at hc4; simp at hc4
  by_cases b1 : ((dWrite (cutD m)).length : Int) ≤ (12 + a % 18446744073709551616 % 2000)
  · by_cases a2 : ((dWrite m).length : Int) ≤ (12 + b % 18446744073709551616 % 2000)
    · rw [ph, if_pos a2, e]; simp [oneOr]
    · rw [ph, if_neg a2, if_pos (by omega), pl, if_neg a1, if_pos b1]; simp [oneOr]
  · rw [pl, if_neg a1, if_neg b1]; simp [oneOr]
end Go.Proofs.Ytkjcmdgideddnaa
