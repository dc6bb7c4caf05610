/- The statement Dnses: its walk. Conditions: what comes in is not longer than some millions. -/
import Derived.Test.YtkjcmdgideddnaaL5
import Derived.Test.YtkjcmdgideddnaaDnT
set_option linter.unusedVariables false
set_option linter.unusedSimpArgs false
namespace Go.Proofs.Ytkjcmdgideddnaa
open Go Go.RowKit
set_option maxRecDepth 100000 in
theorem law5_Dnses (m : Dn) (aq : Option Addr) (cq : Nat) (aa : Option Addr) (ca : Nat) (az : Option Addr) (cs : Nat) (ad : Option Addr) (cd : Nat) (most : Int) (t : List UInt8) (w : World) (h1 : In w aq (m.qs.flatMap encQ)) (h2 : In w aa (m.an.flatMap encR)) (h3 : In w az (m.se.flatMap encR)) (h4 : In w ad (m.ad.flatMap encR))
    (g1 : m.qs.length ≤ 1048576) (g2 : ∀ x ∈ m.qs, x.name.length ≤ 1048576) (g3 : m.an.length ≤ 1048576) (g4 : ∀ x ∈ m.an, x.name.length ≤ 1048576) (g5 : ∀ x ∈ m.an, x.target.length ≤ 1048576) (g6 : m.se.length ≤ 1048576) (g7 : ∀ x ∈ m.se, x.name.length ≤ 1048576) (g8 : ∀ x ∈ m.se, x.target.length ≤ 1048576) (g9 : m.ad.length ≤ 1048576) (ga : ∀ x ∈ m.ad, x.name.length ≤ 1048576) (gb : ∀ x ∈ m.ad, x.target.length ≤ 1048576) (ht : t.length ≤ 1048576) :
    Fn Try.prog 29 [vDn m (aq, cq) (aa, ca) (az, cs) (ad, cd), .int .i64 most, .string (S t)] w [] fun v L' => v = .bool true ∧ L' = [] := by
  have hin : DnIn w m (aq, cq) (aa, ca) (az, cs) (ad, cd) := ⟨h1, h2, h3, h4⟩
  have hz : DnSz m 1048576 := ⟨⟨g1, g2⟩, ⟨g3, fun x hx => ⟨g4 x hx, g5 x hx⟩⟩, ⟨g6, fun x hx => ⟨g7 x hx, g8 x hx⟩⟩, ⟨g9, fun x hx => ⟨ga x hx, gb x hx⟩⟩⟩
  refine Fn.enter Try.func29 rfl rfl rfl rfl (Holds.nil w) ?_
  refine CW.seq ?_
  refine CW.region ?_
  refine W.bx rfl (vt rfl) rfl fun b1 => ?_
  refine W.p O.as ?_
  refine WL.nil (Q.tn ?_)
  refine CW.seq ?_
  refine CW.region ?_
  refine W.p O.lds ?_
  refine W.callN (first := []) (cap := []) rfl (vt rfl) (AV.cons (vt rfl) (AV.nil)) (fun w hu => copyDns m (aq, cq) (aa, ca) (az, cs) (ad, cd) w (hin.upd hu) hz.ln) ?_; rintro _ _ ⟨o11, c11, p11, o12, c12, p12, o13, c13, p13, o14, c14, p14, rfl, ok11, ok12, ok13, ok14, rfl⟩; have nk11 := ok11.nk (α := Qn') (xs := m.qs); have nk12 := ok12.nk (α := RR) (xs := m.an); have nk13 := ok13.nk (α := RR) (xs := m.se); have nk14 := ok14.nk (α := RR) (xs := m.ad)
  refine W.al rfl rfl fun b2 => ?_
  refine W.st (vt rfl) (vt rfl) rfl ?_
  refine WL.nil (Q.tn ?_)
  refine CW.seq ?_
  refine CW.region ?_
  refine W.p O.lds ?_
  refine W.p O.mv ?_
  refine W.q (O.call ⟨rfl, rfl⟩ (AV.cons (vt rfl) (AV.cons (vt rfl) (AV.nil))) (fun _ w hw => dn_Put m (oa o11, c11) (oa o12, c12) (oa o13, c13) (oa o14, c14) most w (DnIn.mk (RowL.h (enc := encQ) (xs := m.qs) (a := oa o11) _ hw) (RowL.h (enc := encR) (xs := m.an) (a := oa o12) _ hw) (RowL.h (enc := encR) (xs := m.se) (a := oa o13) _ hw) (RowL.h (enc := encR) (xs := m.ad) (a := oa o14) _ hw)) (hz.le (by decide)))) ?_
  refine W.p O.mv ?_
  first | refine W.p O.extL ?_ | refine W.p O.ext ?_
  first | refine W.p O.extL ?_ | refine W.p O.ext ?_
  refine W.p O.as ?_
  refine W.p O.as ?_
  refine WL.nil (Q.tn ?_)
  refine CW.seq ?_
  refine CW.region ?_
  refine W.p O.lds ?_
  refine W.p O.mv ?_
  refine W.q (O.call ⟨rfl, rfl⟩ (AV.cons (vt rfl) (AV.cons (vt rfl) (AV.nil))) (fun _ w hw => ref_PutDns m (aq, cq) (aa, ca) (az, cs) (ad, cd) most w (hin.upd hw) (hz.le (by decide)))) ?_
  refine W.p O.mv ?_
  first | refine W.p O.extL ?_ | refine W.p O.ext ?_
  first | refine W.p O.extL ?_ | refine W.p O.ext ?_
  refine W.p O.as ?_
  refine W.p O.as ?_
  refine WL.nil (Q.tn ?_)
  refine CW.seq ?_
  refine CW.region ?_
  refine W.p O.mv ?_
  refine W.callN (first := []) (cap := []) rfl (vt rfl) (AV.cons (vt rfl) (AV.nil)) (fun w hu => dn_Get t w (by omega)) ?_; rintro _ _ ⟨o21, c21, p21, o22, c22, p22, o23, c23, p23, o24, c24, p24, rfl, ok21, ok22, ok23, ok24, rfl⟩; have nk21 := ok21.nk (α := Qn') (xs := (dnGet t).1.qs); have nk22 := ok22.nk (α := RR) (xs := (dnGet t).1.an); have nk23 := ok23.nk (α := RR) (xs := (dnGet t).1.se); have nk24 := ok24.nk (α := RR) (xs := (dnGet t).1.ad)
  refine W.p O.mv ?_
  first | refine W.p O.extL ?_ | refine W.p O.ext ?_
  first | refine W.p O.extL ?_ | refine W.p O.ext ?_
  refine W.al rfl rfl fun b3 => ?_
  refine W.st (vt rfl) (vt rfl) rfl ?_
  refine W.p O.as ?_
  refine WL.nil (Q.tn ?_)
  refine CW.seq ?_
  refine CW.region ?_
  refine W.p O.mv ?_
  refine W.callN (first := []) (cap := []) rfl (vt rfl) (AV.cons (vt rfl) (AV.nil)) (fun w hu => ref_GetDns t w (by omega)) ?_; rintro _ _ ⟨o31, c31, p31, o32, c32, p32, o33, c33, p33, o34, c34, p34, rfl, ok31, ok32, ok33, ok34, rfl⟩; have nk31 := ok31.nk (α := Qn') (xs := (dnGet t).1.qs); have nk32 := ok32.nk (α := RR) (xs := (dnGet t).1.an); have nk33 := ok33.nk (α := RR) (xs := (dnGet t).1.se); have nk34 := ok34.nk (α := RR) (xs := (dnGet t).1.ad)
  refine W.p O.mv ?_
  first | refine W.p O.extL ?_ | refine W.p O.ext ?_
  first | refine W.p O.extL ?_ | refine W.p O.ext ?_
  refine W.al rfl rfl fun b4 => ?_
  refine W.st (vt rfl) (vt rfl) rfl ?_
  refine W.p O.as ?_
  refine WL.nil (Q.tn ?_)
  refine CW.seq ?_
  refine CW.seq ?_
  refine CW.draw 28 rfl (by kernel_rfl) ?_
  refine WQ.p O.mv ?_
  refine WQ.p O.mv ?_
  refine WQ.p O.neS ?_
  refine WQ.p O.mv ?_
  refine WQ.p O.mv ?_
  refine WQ.q (O.call ⟨rfl, rfl⟩ (AV.cons (vs rfl) (AV.nil)) (fun _ w hw => law0_Num _ w)) ?_
  refine WQ.p O.mv ?_
  refine WQ.p O.neI ?_
  refine WQ.p O.pkB ?_
  refine WQ.p O.mv ?_
  refine WQ.p O.lds ?_
  refine WQ.p O.lds ?_
  refine WQ.q (O.call ⟨rfl, rfl⟩ (AV.cons (vs rfl) (AV.cons (vs rfl) (AV.nil))) (fun _ w hw => sameDns (dnGet t).1 (dnGet t).1 (oa o21, c21) (oa o22, c22) (oa o23, c23) (oa o24, c24) (oa o31, c31) (oa o32, c32) (oa o33, c33) (oa o34, c34) w (DnIn.mk (RowL.h (enc := encQ) (xs := (dnGet t).1.qs) (a := oa o21) _ hw) (RowL.h (enc := encR) (xs := (dnGet t).1.an) (a := oa o22) _ hw) (RowL.h (enc := encR) (xs := (dnGet t).1.se) (a := oa o23) _ hw) (RowL.h (enc := encR) (xs := (dnGet t).1.ad) (a := oa o24) _ hw)) (DnIn.mk (RowL.h (enc := encQ) (xs := (dnGet t).1.qs) (a := oa o31) _ hw) (RowL.h (enc := encR) (xs := (dnGet t).1.an) (a := oa o32) _ hw) (RowL.h (enc := encR) (xs := (dnGet t).1.se) (a := oa o33) _ hw) (RowL.h (enc := encR) (xs := (dnGet t).1.ad) (a := oa o34) _ hw)) (dnGet_ln t))) ?_
  refine WQ.p O.nt ?_
  refine WQ.p O.pkB ?_
  refine WQ.p O.mv ?_
  refine WQ.p O.mv ?_
  refine WQ.q (O.call ⟨rfl, rfl⟩ (AV.cons (vs rfl) (AV.nil)) (fun _ w hw => law0_Num _ w)) ?_
  refine WQ.p O.mv ?_
  refine WQ.p O.neI ?_
  refine WQ.p O.pkB ?_
  refine WQ.p O.mv ?_
  refine WQ.p O.lds ?_
  refine WQ.q (O.call ⟨rfl, rfl⟩ (AV.cons (vs rfl) (AV.nil)) (fun _ w hw => dn_May m (oa o11, c11) (oa o12, c12) (oa o13, c13) (oa o14, c14) w (DnIn.mk (RowL.h (enc := encQ) (xs := m.qs) (a := oa o11) _ hw) (RowL.h (enc := encR) (xs := m.an) (a := oa o12) _ hw) (RowL.h (enc := encR) (xs := m.se) (a := oa o13) _ hw) (RowL.h (enc := encR) (xs := m.ad) (a := oa o14) _ hw)) (hz.le (by decide)))) ?_
  refine WQ.p O.lds ?_
  refine WQ.q (O.call ⟨rfl, rfl⟩ (AV.cons (vs rfl) (AV.nil)) (fun _ w hw => ref_DnsMay m (aq, cq) (aa, ca) (az, cs) (ad, cd) w (hin.upd hw) (hz.le (by decide)))) ?_
  refine WQ.p O.neB ?_
  refine WQ.p O.pkB ?_
  refine WQ.nil ?_
  refine WL.nil (Q.tn ?_)
  refine CW.cond (vt rfl) (fun hc1 => ?_) (fun hc1 => ?_)
  · exfalso; simp at hc1
  try simp only [sk] at hc1
  refine CW.skip (Q.tn ?_)
  refine CW.seq ?_
  refine CW.region ?_
  refine W.p O.lds ?_
  refine W.callS (first := []) (cap := []) (rowL o24 96 (flat encR (dnGet t).1.ad p24) ++ (rowL o23 96 (flat encR (dnGet t).1.se p23) ++ (rowL o22 96 (flat encR (dnGet t).1.an p22) ++ rowL o21 126 (flat encQ (dnGet t).1.qs p21)))) rfl (vt rfl) (AV.cons (vt rfl) (AV.nil)) (fun w hu hh => spoilDns (dnGet t).1 o21 o22 o23 o24 c21 c22 c23 c24 p21 p22 p23 p24 w ok21 ok22 ok23 ok24 hh (dnGet_ln t)) ?_; rintro _ _ rfl
  refine WL.nil (Q.tn ?_)
  refine CW.seq ?_
  refine CW.region ?_
  refine W.p O.lds ?_
  refine W.p O.lds ?_
  refine W.q (O.call ⟨rfl, rfl⟩ (AV.cons (vt rfl) (AV.cons (vt rfl) (AV.nil))) (fun _ w hw => sameDns m m (oa o11, c11) (oa o12, c12) (oa o13, c13) (oa o14, c14) (aq, cq) (aa, ca) (az, cs) (ad, cd) w (DnIn.mk (RowL.h (enc := encQ) (xs := m.qs) (a := oa o11) _ hw) (RowL.h (enc := encR) (xs := m.an) (a := oa o12) _ hw) (RowL.h (enc := encR) (xs := m.se) (a := oa o13) _ hw) (RowL.h (enc := encR) (xs := m.ad) (a := oa o14) _ hw)) (hin.upd hw) hz.ln)) ?_
  refine W.p O.mv ?_
  refine W.q (O.call ⟨rfl, rfl⟩ (AV.nil) (fun _ w hw => law5_awake w)) ?_
  refine W.p O.pkB ?_
  refine W.p O.as ?_
  refine WL.nil (Q.tn ?_)
  refine CW.ret ?_
  refine ⟨_, [], (RVs.tmp rfl RVs.nil), List.nil_sublist _, ?_⟩
  exact ⟨by simp [oneOr], rfl⟩
end Go.Proofs.Ytkjcmdgideddnaa
