/- The statement DnsForms: its walk. No condition. -/
import Derived.Test.YtkjcmdgideddnaaL5
import Derived.Test.YtkjcmdgideddnaaMkE
set_option linter.unusedVariables false
set_option linter.unusedSimpArgs false
namespace Go.Proofs.Ytkjcmdgideddnaa
open Go Go.RowKit
abbrev DD := Dn × Sl × Sl × Sl × Sl
abbrev encDD : DD → List Value := fun p => encDn p.1 p.2.1 p.2.2.1 p.2.2.2.1 p.2.2.2.2
abbrev dDD : DD := (noD, nS, nS, nS, nS)
instance : Enc encDD 12 dDD := ⟨fun _ => rfl, by decide⟩
instance : EncOne encDD := ⟨fun x u hu => by simp at hu; rcases hu with rfl | rfl | rfl | rfl | rfl | rfl | rfl | rfl | rfl | rfl | rfl | rfl <;> rfl⟩
def bd (id op code size : Int) (qs : List Qn') (an se ad : List RR) : Dn := ⟨id, false, op, false, false, false, code, qs, an, se, ad, size⟩
abbrev r41 : RR := ⟨[], 41, 0, 0, [], [], 0⟩
def badsD (d : Int) (b1 b2 b3 b4 b5 b6 b7 : Nat) : List DD := [
  (bd (-d) 0 0 0 [] [] [] [], nS, nS, nS, nS), (bd (65535 + d) 0 0 0 [] [] [] [], nS, nS, nS, nS), (bd 0 (-d) 0 0 [] [] [] [], nS, nS, nS, nS), (bd 0 (15 + d) 0 0 [] [] [] [], nS, nS, nS, nS),
  (bd 0 0 (-d) 0 [] [] [] [], nS, nS, nS, nS), (bd 0 0 (15 + d) 0 [] [] [] [], nS, nS, nS, nS), (bd 0 0 0 511 [] [] [] [], nS, nS, nS, nS), (bd 0 0 0 (-d) [] [] [] [], nS, nS, nS, nS), (bd 0 0 0 (65535 + d) [] [] [] [], nS, nS, nS, nS),
  (bd 0 0 0 0 (List.replicate 5 dQ) [] [] [], (oa (some b1), 5), nS, nS, nS), (bd 0 0 0 0 [⟨[65], 0⟩] [] [] [], (oa (some b2), 1), nS, nS, nS), (bd 0 0 0 0 [⟨[], -d⟩] [] [] [], (oa (some b3), 1), nS, nS, nS), (bd 0 0 0 0 [⟨[], 65535 + d⟩] [] [] [], (oa (some b4), 1), nS, nS, nS),
  (bd 0 0 0 0 [] [dR] [] [], nS, (oa (some b5), 1), nS, nS), (bd 0 0 0 0 [] [] [r41] [], nS, nS, (oa (some b6), 1), nS), (bd 0 0 0 0 [] [] [] [dR], nS, nS, nS, (oa (some b7), 1))]
theorem badsD_no {d : Int} (hd : 1 ≤ d ∧ d ≤ 1024) {b1 b2 b3 b4 b5 b6 b7 : Nat} : ∀ x ∈ badsD d b1 b2 b3 b4 b5 b6 b7, dnMay x.1 = false ∧ DnSz x.1 140737488355328 := by
  have hA : nmMay [65] = false := by decide
  have hE : nmMay [] = true := by decide
  have hR : rrMay dR = false := by decide
  have h41 : rrMay r41 = false := by decide
  have no : ∀ {x f t : Int}, (x < f ∨ t < x) → inR x f t = false := fun {x f t} h => by
    rw [inR]
    rcases h with h | h
    · rw [decide_eq_false (show ¬ f ≤ x by omega)]; rfl
    · rw [decide_eq_false (show ¬ x ≤ t by omega), Bool.and_false]
  have i1 : inR (-d) 0 65535 = false := no (by omega)
  have i2 : inR (65535 + d) 0 65535 = false := no (by omega)
  have i3 : inR (-d) 0 15 = false := no (by omega)
  have i4 : inR (15 + d) 0 15 = false := no (by omega)
  have i5 : inR 511 512 65535 = false := no (by omega)
  have i6 : inR (-d) 512 65535 = false := no (by omega)
  have i7 : inR (65535 + d) 512 65535 = false := no (by omega)
  have z1 : ¬ d = 0 := by omega
  have z2 : ¬ 65535 + d = 0 := by omega
  intro x hx
  simp only [badsD, List.mem_cons, List.not_mem_nil, or_false] at hx
  rcases hx with rfl | rfl | rfl | rfl | rfl | rfl | rfl | rfl | rfl | rfl | rfl | rfl | rfl | rfl | rfl | rfl
  all_goals refine ⟨?_, ⟨⟨by simp [bd], by simp [bd]⟩, ⟨by simp [bd], by simp [bd, NmB]⟩, ⟨by simp [bd], by simp [bd, NmB]⟩, ⟨by simp [bd], by simp [bd, NmB]⟩⟩⟩
  all_goals (simp [bd, dnMay, rsMay, qMay, i1, i2, i3, i4, i5, i6, i7, z1, z2, hA, hE, hR, h41])
theorem badsD_at {d : Int} (hd : 1 ≤ d ∧ d ≤ 1024) {b1 b2 b3 b4 b5 b6 b7 : Nat} {i : Int} (h0 : 0 ≤ i) (h1 : i < 16) : dnMay ((badsD d b1 b2 b3 b4 b5 b6 b7).getD i.toNat dDD).1 = false ∧ DnSz ((badsD d b1 b2 b3 b4 b5 b6 b7).getD i.toNat dDD).1 140737488355328 :=
  badsD_no hd _ (mem_at dDD h0 (by simpa [badsD] using h1))
theorem badsD_in {d : Int} {b1 b2 b3 b4 b5 b6 b7 : Nat} {w : World} (h1 : In w (oa (some b1)) ((List.replicate 5 dQ).flatMap encQ)) (h2 : In w (oa (some b2)) (([⟨[65], 0⟩] : List Qn').flatMap encQ)) (h3 : In w (oa (some b3)) (([⟨[], -d⟩] : List Qn').flatMap encQ)) (h4 : In w (oa (some b4)) (([⟨[], 65535 + d⟩] : List Qn').flatMap encQ)) (h5 : In w (oa (some b5)) ([dR].flatMap encR)) (h6 : In w (oa (some b6)) ([r41].flatMap encR)) (h7 : In w (oa (some b7)) ([dR].flatMap encR)) {i : Int} (i0 : 0 ≤ i) (i1 : i < 16) :
    DnIn w ((badsD d b1 b2 b3 b4 b5 b6 b7).getD i.toNat dDD).1 ((badsD d b1 b2 b3 b4 b5 b6 b7).getD i.toNat dDD).2.1 ((badsD d b1 b2 b3 b4 b5 b6 b7).getD i.toNat dDD).2.2.1 ((badsD d b1 b2 b3 b4 b5 b6 b7).getD i.toNat dDD).2.2.2.1 ((badsD d b1 b2 b3 b4 b5 b6 b7).getD i.toNat dDD).2.2.2.2 := by
  have key : ∀ x ∈ badsD d b1 b2 b3 b4 b5 b6 b7, DnIn w x.1 x.2.1 x.2.2.1 x.2.2.2.1 x.2.2.2.2 := by
    intro x hx
    simp only [badsD, List.mem_cons, List.not_mem_nil, or_false] at hx
    rcases hx with rfl | rfl | rfl | rfl | rfl | rfl | rfl | rfl | rfl | rfl | rfl | rfl | rfl | rfl | rfl | rfl
    all_goals first | exact ⟨In.nil, In.nil, In.nil, In.nil⟩ | exact ⟨h1, In.nil, In.nil, In.nil⟩ | exact ⟨h2, In.nil, In.nil, In.nil⟩ | exact ⟨h3, In.nil, In.nil, In.nil⟩ | exact ⟨h4, In.nil, In.nil, In.nil⟩ | exact ⟨In.nil, h5, In.nil, In.nil⟩ | exact ⟨In.nil, In.nil, h6, In.nil⟩ | exact ⟨In.nil, In.nil, In.nil, h7⟩
  exact key _ (mem_at dDD i0 (by simpa [badsD] using i1))
theorem put_bad {m : Dn} {k : Int} (h : dnMay m = false ∨ inR k 12 65535 = false) : dnPut m k = ([], 500) := by rw [dnPut, if_pos h]
theorem put_12 : dnPut noD 12 = (List.replicate 12 0, 0) := by decide +kernel
theorem noD_sz : DnSz noD 140737488355328 := ⟨⟨by decide, by simp [noD]⟩, ⟨by decide, by simp [noD, NmB]⟩, ⟨by decide, by simp [noD, NmB]⟩, ⟨by decide, by simp [noD, NmB]⟩⟩
theorem noD_in (w : World) : DnIn w noD nS nS nS nS := ⟨In.nil, In.nil, In.nil, In.nil⟩
set_option maxRecDepth 100000 in
set_option maxHeartbeats 1000000 in
theorem law5_DnsForms (which x : Int) (w : World) : Fn Try.prog 31 [.int .i64 which, .int .i64 x] w [] fun v L' => v = .bool true ∧ L' = [] := by
  have hb := fun b1 b2 b3 b4 b5 b6 b7 => badsD_at (d := (1 + x % 1024)) (by omega) (b1 := b1) (b2 := b2) (b3 := b3) (b4 := b4) (b5 := b5) (b6 := b6) (b7 := b7) (i := (which % 18446744073709551616 % 16)) (by omega) (by omega)
  have hbl : ∀ b1 b2 b3 b4 b5 b6 b7, (badsD (1 + x % 1024) b1 b2 b3 b4 b5 b6 b7).length = 16 := fun _ _ _ _ _ _ _ => rfl
  have k1 : ∀ b1 b2 b3 b4 b5 b6 b7, dnPut ((badsD (1 + x % 1024) b1 b2 b3 b4 b5 b6 b7).getD (which % 18446744073709551616 % 16).toNat dDD).1 512 = ([], 500) := fun b1 b2 b3 b4 b5 b6 b7 => put_bad (.inl (hb b1 b2 b3 b4 b5 b6 b7).1)
  have k2 : dnPut noD (12 - (1 + x % 1024)) = ([], 500) := put_bad (.inr (by rw [inR, decide_eq_false (by omega)]; rfl))
  have k3 : dnPut noD (65535 + (1 + x % 1024)) = ([], 500) := put_bad (.inr (by rw [inR, decide_eq_false (show ¬ (65535 + (1 + x % 1024) ≤ 65535) by omega), Bool.and_false]))
  refine Fn.enter Try.func31 rfl rfl rfl rfl (Holds.nil w) ?_
  refine CW.seq ?_
  refine CW.region ?_
  refine W.p O.as ?_
  refine WL.nil (Q.tn ?_)
  refine CW.seq ?_
  refine CW.seq ?_
  refine CW.region ?_
  refine W.q (O.call ⟨rfl, rfl⟩ (AV.nil) (fun _ w hw => law5_awake w)) ?_
  refine W.p O.nt ?_
  refine WL.nil (Q.tn ?_)
  refine CW.cond (vt rfl) (fun hc1 => ?_) (fun hc1 => ?_)
  · exact absurd hc1 (by decide)
  try simp only [sk] at hc1
  refine CW.skip (Q.tn ?_)
  refine CW.seq ?_
  refine CW.region ?_
  refine W.p O.mv ?_
  refine W.p (O.andM 10 1024 (h := by decide) (hq := by decide) (hM := by decide)) ?_
  first | refine W.p O.addN ?_ | refine W.p O.add ?_
  refine W.p O.as ?_
  refine WL.nil (Q.tn ?_)
  refine CW.seq ?_
  refine CW.region ?_
  refine W.p O.mv ?_
  first | refine W.p O.ngN ?_ | refine W.p O.ng ?_
  refine W.p (O.bd (hv := PV.cons (vt rfl) (PV.nil))) ?_
  refine W.p O.mv ?_
  first | refine W.p O.addN ?_ | refine W.p O.add ?_
  refine W.p (O.bd (hv := PV.cons (vt rfl) (PV.nil))) ?_
  refine W.p O.mv ?_
  first | refine W.p O.ngN ?_ | refine W.p O.ng ?_
  refine W.p (O.bd (hv := PV.cons (vt rfl) (PV.nil))) ?_
  refine W.p O.mv ?_
  first | refine W.p O.addN ?_ | refine W.p O.add ?_
  refine W.p (O.bd (hv := PV.cons (vt rfl) (PV.nil))) ?_
  refine W.p O.mv ?_
  first | refine W.p O.ngN ?_ | refine W.p O.ng ?_
  refine W.p (O.bd (hv := PV.cons (vt rfl) (PV.nil))) ?_
  refine W.p O.mv ?_
  first | refine W.p O.addN ?_ | refine W.p O.add ?_
  refine W.p (O.bd (hv := PV.cons (vt rfl) (PV.nil))) ?_
  refine W.p (O.bd (hv := PV.cons (vt rfl) (PV.nil))) ?_
  refine W.p O.mv ?_
  first | refine W.p O.ngN ?_ | refine W.p O.ng ?_
  refine W.p (O.bd (hv := PV.cons (vt rfl) (PV.nil))) ?_
  refine W.p O.mv ?_
  first | refine W.p O.addN ?_ | refine W.p O.add ?_
  refine W.p (O.bd (hv := PV.cons (vt rfl) (PV.nil))) ?_
  refine W.mkE (enc := encQ) (dv := dQ) (c := 5) rfl (vt rfl) (vt rfl) rfl (by decide) (by decide) (by kernel_rfl) fun b1 => ?_
  refine W.p (O.bd (hv := PV.cons (vt rfl) (PV.nil))) ?_
  refine W.p (O.bd (hv := PV.cons (vt rfl) (PV.nil))) ?_
  refine W.bs encQ [⟨[65], 0⟩] rfl (PV.cons (vt rfl) (PV.nil)) rfl rfl rfl (by decide) rfl fun b2 => ?_
  refine W.p (O.bd (hv := PV.cons (vt rfl) (PV.nil))) ?_
  refine W.p O.mv ?_
  first | refine W.p O.ngN ?_ | refine W.p O.ng ?_
  refine W.p (O.bd (hv := PV.cons (vt rfl) (PV.nil))) ?_
  refine W.bs encQ [⟨[], -(1 + x % 1024)⟩] rfl (PV.cons (vt rfl) (PV.nil)) rfl rfl rfl (by decide) rfl fun b3 => ?_
  refine W.p (O.bd (hv := PV.cons (vt rfl) (PV.nil))) ?_
  refine W.p O.mv ?_
  first | refine W.p O.addN ?_ | refine W.p O.add ?_
  refine W.p (O.bd (hv := PV.cons (vt rfl) (PV.nil))) ?_
  refine W.bs encQ [⟨[], 65535 + (1 + x % 1024)⟩] rfl (PV.cons (vt rfl) (PV.nil)) rfl rfl rfl (by decide) rfl fun b4 => ?_
  refine W.p (O.bd (hv := PV.cons (vt rfl) (PV.nil))) ?_
  refine W.p (O.bd (hv := PV.nil)) ?_
  refine W.bs encR [dR] rfl (PV.cons (vt rfl) (PV.nil)) rfl rfl rfl (by decide) rfl fun b5 => ?_
  refine W.p (O.bd (hv := PV.cons (vt rfl) (PV.nil))) ?_
  refine W.p (O.bd (hv := PV.cons (vt rfl) (PV.nil))) ?_
  refine W.bs encR [r41] rfl (PV.cons (vt rfl) (PV.nil)) rfl rfl rfl (by decide) rfl fun b6 => ?_
  refine W.p (O.bd (hv := PV.cons (vt rfl) (PV.nil))) ?_
  refine W.p (O.bd (hv := PV.nil)) ?_
  refine W.bs encR [dR] rfl (PV.cons (vt rfl) (PV.nil)) rfl rfl rfl (by decide) rfl fun b7 => ?_
  refine W.p (O.bd (hv := PV.cons (vt rfl) (PV.nil))) ?_
  refine W.bs encDD (badsD (1 + x % 1024) b1 b2 b3 b4 b5 b6 b7) rfl (PV.cons (vt rfl) (PV.cons (vt rfl) (PV.cons (vt rfl) (PV.cons (vt rfl) (PV.cons (vt rfl) (PV.cons (vt rfl) (PV.cons (vt rfl) (PV.cons (vt rfl) (PV.cons (vt rfl) (PV.cons (vt rfl) (PV.cons (vt rfl) (PV.cons (vt rfl) (PV.cons (vt rfl) (PV.cons (vt rfl) (PV.cons (vt rfl) (PV.cons (vt rfl) (PV.nil))))))))))))))))) rfl rfl rfl (by decide) rfl fun b8 => ?_; have hl8 := hbl b1 b2 b3 b4 b5 b6 b7
  refine W.p O.as ?_
  refine WL.nil (Q.tn ?_)
  refine CW.seq ?_
  refine CW.region ?_
  refine W.p O.mv ?_
  refine W.p O.mv ?_
  refine W.p O.cvUn ?_
  refine W.p O.rem ?_
  first | refine W.p O.cvN ?_ | refine W.p O.cv ?_
  refine W.p O.ixA ?_
  refine W.p O.ldsE ?_
  refine W.al rfl rfl fun b9 => ?_
  refine W.st (vt rfl) (vt rfl) rfl ?_
  refine WL.nil (Q.tn ?_)
  refine CW.seq ?_
  refine CW.region ?_
  refine W.p O.lds ?_
  refine W.q (O.call ⟨rfl, rfl⟩ (AV.cons (vt rfl) (AV.cons (vt rfl) (AV.nil))) (fun _ w hw => dn_Put ((badsD (1 + x % 1024) b1 b2 b3 b4 b5 b6 b7).getD (which % 18446744073709551616 % 16).toNat dDD).1 ((badsD (1 + x % 1024) b1 b2 b3 b4 b5 b6 b7).getD (which % 18446744073709551616 % 16).toNat dDD).2.1 ((badsD (1 + x % 1024) b1 b2 b3 b4 b5 b6 b7).getD (which % 18446744073709551616 % 16).toNat dDD).2.2.1 ((badsD (1 + x % 1024) b1 b2 b3 b4 b5 b6 b7).getD (which % 18446744073709551616 % 16).toNat dDD).2.2.2.1 ((badsD (1 + x % 1024) b1 b2 b3 b4 b5 b6 b7).getD (which % 18446744073709551616 % 16).toNat dDD).2.2.2.2 512 w (badsD_in (RowL.h (enc := encQ) (xs := List.replicate 5 dQ) (a := oa (some b1)) _ hw) (RowL.h (enc := encQ) (xs := [⟨[65], 0⟩]) (a := oa (some b2)) _ hw) (RowL.h (enc := encQ) (xs := [⟨[], -(1 + x % 1024)⟩]) (a := oa (some b3)) _ hw) (RowL.h (enc := encQ) (xs := [⟨[], 65535 + (1 + x % 1024)⟩]) (a := oa (some b4)) _ hw) (RowL.h (enc := encR) (xs := [dR]) (a := oa (some b5)) _ hw) (RowL.h (enc := encR) (xs := [r41]) (a := oa (some b6)) _ hw) (RowL.h (enc := encR) (xs := [dR]) (a := oa (some b7)) _ hw) (by omega) (by omega)) (hb b1 b2 b3 b4 b5 b6 b7).2)) ?_
  refine W.p O.mv ?_
  first | refine W.p O.extL ?_ | refine W.p O.ext ?_
  first | refine W.p O.extL ?_ | refine W.p O.ext ?_
  refine W.p O.as ?_
  refine W.p O.as ?_
  refine WL.nil (Q.tn ?_)
  refine CW.seq ?_
  refine CW.region ?_
  refine W.p (O.bd (hv := PV.nil)) ?_
  refine W.p O.mv ?_
  first | refine W.p O.subN ?_ | refine W.p O.sub ?_
  refine W.q (O.call ⟨rfl, rfl⟩ (AV.cons (vt rfl) (AV.cons (vt rfl) (AV.nil))) (fun _ w hw => dn_Put noD nS nS nS nS _ w (noD_in w) noD_sz)) ?_
  refine W.p O.mv ?_
  first | refine W.p O.extL ?_ | refine W.p O.ext ?_
  first | refine W.p O.extL ?_ | refine W.p O.ext ?_
  refine W.p O.as ?_
  refine W.p O.as ?_
  refine WL.nil (Q.tn ?_)
  refine CW.seq ?_
  refine CW.region ?_
  refine W.p (O.bd (hv := PV.nil)) ?_
  refine W.p O.mv ?_
  first | refine W.p O.addN ?_ | refine W.p O.add ?_
  refine W.q (O.call ⟨rfl, rfl⟩ (AV.cons (vt rfl) (AV.cons (vt rfl) (AV.nil))) (fun _ w hw => dn_Put noD nS nS nS nS _ w (noD_in w) noD_sz)) ?_
  refine W.p O.mv ?_
  first | refine W.p O.extL ?_ | refine W.p O.ext ?_
  first | refine W.p O.extL ?_ | refine W.p O.ext ?_
  refine W.p O.as ?_
  refine W.p O.as ?_
  refine WL.nil (Q.tn ?_)
  refine CW.seq ?_
  refine CW.region ?_
  refine W.p (O.bd (hv := PV.nil)) ?_
  refine W.q (O.call ⟨rfl, rfl⟩ (AV.cons (vt rfl) (AV.cons (vt rfl) (AV.nil))) (fun _ w hw => dn_Put noD nS nS nS nS _ w (noD_in w) noD_sz)) ?_
  refine W.p O.mv ?_
  first | refine W.p O.extL ?_ | refine W.p O.ext ?_
  first | refine W.p O.extL ?_ | refine W.p O.ext ?_
  refine W.p O.as ?_
  refine W.p O.as ?_
  refine WL.nil (Q.tn ?_)
  refine CW.seq ?_
  refine CW.region ?_
  refine W.p O.lds ?_
  refine W.q (O.call ⟨rfl, rfl⟩ (AV.cons (vt rfl) (AV.nil)) (fun _ w hw => dn_May ((badsD (1 + x % 1024) b1 b2 b3 b4 b5 b6 b7).getD (which % 18446744073709551616 % 16).toNat dDD).1 ((badsD (1 + x % 1024) b1 b2 b3 b4 b5 b6 b7).getD (which % 18446744073709551616 % 16).toNat dDD).2.1 ((badsD (1 + x % 1024) b1 b2 b3 b4 b5 b6 b7).getD (which % 18446744073709551616 % 16).toNat dDD).2.2.1 ((badsD (1 + x % 1024) b1 b2 b3 b4 b5 b6 b7).getD (which % 18446744073709551616 % 16).toNat dDD).2.2.2.1 ((badsD (1 + x % 1024) b1 b2 b3 b4 b5 b6 b7).getD (which % 18446744073709551616 % 16).toNat dDD).2.2.2.2 w (badsD_in (RowL.h (enc := encQ) (xs := List.replicate 5 dQ) (a := oa (some b1)) _ hw) (RowL.h (enc := encQ) (xs := [⟨[65], 0⟩]) (a := oa (some b2)) _ hw) (RowL.h (enc := encQ) (xs := [⟨[], -(1 + x % 1024)⟩]) (a := oa (some b3)) _ hw) (RowL.h (enc := encQ) (xs := [⟨[], 65535 + (1 + x % 1024)⟩]) (a := oa (some b4)) _ hw) (RowL.h (enc := encR) (xs := [dR]) (a := oa (some b5)) _ hw) (RowL.h (enc := encR) (xs := [r41]) (a := oa (some b6)) _ hw) (RowL.h (enc := encR) (xs := [dR]) (a := oa (some b7)) _ hw) (by omega) (by omega)) (hb b1 b2 b3 b4 b5 b6 b7).2)) ?_
  first | (refine WL.kn (v := true) (by rfl) ?_ ?_; focus (exact (hb b1 b2 b3 b4 b5 b6 b7).1)) | (refine WL.kn (v := false) (by rfl) ?_ ?_; focus (exact (hb b1 b2 b3 b4 b5 b6 b7).1))
  refine W.p O.nt ?_
  first | (refine WL.kn (v := true) (by rfl) ?_ ?_; focus (rfl)) | (refine WL.kn (v := false) (by rfl) ?_ ?_; focus (rfl))
  refine W.p O.mv ?_
  refine W.p O.mv ?_
  refine W.p O.eqS ?_
  first | (refine WL.kn (v := true) (by rfl) ?_ ?_; focus (rw [k1]; rfl)) | (refine WL.kn (v := false) (by rfl) ?_ ?_; focus (rw [k1]; rfl))
  refine W.p O.pkB ?_
  refine W.p O.mv ?_
  refine W.p O.mv ?_
  refine W.q (O.call ⟨rfl, rfl⟩ (AV.cons (vs rfl) (AV.nil)) (fun _ w hw => law0_Num _ w)) ?_
  refine W.p O.eqI ?_
  first | (refine WL.kn (v := true) (by rfl) ?_ ?_; focus (rw [k1]; rfl)) | (refine WL.kn (v := false) (by rfl) ?_ ?_; focus (rw [k1]; rfl))
  refine W.p O.pkB ?_
  refine W.p O.mv ?_
  refine W.p O.mv ?_
  refine W.q (O.call ⟨rfl, rfl⟩ (AV.cons (vs rfl) (AV.nil)) (fun _ w hw => law0_Num _ w)) ?_
  refine W.p O.eqI ?_
  first | (refine WL.kn (v := true) (by rfl) ?_ ?_; focus (rw [k2]; rfl)) | (refine WL.kn (v := false) (by rfl) ?_ ?_; focus (rw [k2]; rfl))
  refine W.p O.pkB ?_
  refine W.p O.mv ?_
  refine W.p O.mv ?_
  refine W.q (O.call ⟨rfl, rfl⟩ (AV.cons (vs rfl) (AV.nil)) (fun _ w hw => law0_Num _ w)) ?_
  refine W.p O.eqI ?_
  first | (refine WL.kn (v := true) (by rfl) ?_ ?_; focus (rw [k3]; rfl)) | (refine WL.kn (v := false) (by rfl) ?_ ?_; focus (rw [k3]; rfl))
  refine W.p O.pkB ?_
  refine W.p O.mv ?_
  refine W.p O.mv ?_
  refine W.ug rfl ?_
  refine W.mkF rfl (vt rfl) (vt rfl) (by first | omega | decide) fun b10 => ?_
  refine W.p (O.cvRow ⟨rfl, rfl⟩ (vt rfl) (by first | rfl | omega) (fun _ => ⟨_, rfl⟩)) ?_
  refine W.p O.eqS ?_
  refine W.p O.pkB ?_
  refine W.p O.mv ?_
  refine W.p O.mv ?_
  refine W.q (O.call ⟨rfl, rfl⟩ (AV.cons (vs rfl) (AV.nil)) (fun _ w hw => law0_Num _ w)) ?_
  refine W.p O.eqI ?_
  refine W.p O.pkB ?_
  refine W.p O.as ?_
  refine WL.nil (Q.tn ?_)
  refine CW.ret ?_
  refine ⟨_, [], (RVs.tmp rfl RVs.nil), List.nil_sublist _, ?_⟩
  refine ⟨?_, rfl⟩
  rw [put_12]; rfl
end Go.Proofs.Ytkjcmdgideddnaa
