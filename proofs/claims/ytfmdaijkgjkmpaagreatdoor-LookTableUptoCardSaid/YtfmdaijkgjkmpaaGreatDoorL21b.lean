/- The statement LookTable: its walk. Condition: the library's table of powers of ten is as its text lays it. -/
import Derived.Test.YtfmdaijkgjkmpaaGreatDoorL21
set_option linter.unusedVariables false
set_option linter.unusedSimpArgs false
namespace Go.Proofs.YtfmdaijkgjkmpaaGreatDoor
open Go Go.RowKit
def kRw (g1 g2 g3 g4 g5 : Nat) : List (Option Addr × Nat × Nat) := [(oa (some g1), 1, 1), (oa (some g2), 2, 2), (oa (some g3), 2, 2), (oa (some g4), 1, 1), (none, 0, 0), (none, 0, 0), (none, 0, 0), (none, 0, 0), (none, 0, 0), (oa (some g5), 1, 1)]
theorem kRw_at {g1 g2 g3 g4 g5 : Nat} {w : World} (h1 : In w (oa (some g1)) ([kAd].flatMap encR)) (h2 : In w (oa (some g2)) ([kAd, kTx].flatMap encR)) (h3 : In w (oa (some g3)) ([kAl, kAd].flatMap encR)) (h4 : In w (oa (some g4)) ([kAl].flatMap encR)) (h5 : In w (oa (some g5)) ([kAl].flatMap encR)) {i : Int} (i0 : 0 ≤ i) (i1 : i < 10) :
  In w ((kRw g1 g2 g3 g4 g5).getD i.toNat dSl).1 ((kAs.getD i.toNat []).flatMap encR) ∧ ((kRw g1 g2 g3 g4 g5).getD i.toNat dSl).2.1 = (kAs.getD i.toNat []).length := by
 obtain rfl | rfl | rfl | rfl | rfl | rfl | rfl | rfl | rfl | rfl : i = 0 ∨ i = 1 ∨ i = 2 ∨ i = 3 ∨ i = 4 ∨ i = 5 ∨ i = 6 ∨ i = 7 ∨ i = 8 ∨ i = 9 := by omega
 ·exact ⟨h1, rfl⟩
 ·exact ⟨h2, rfl⟩
 ·exact ⟨h3, rfl⟩
 ·exact ⟨h4, rfl⟩
 ·exact ⟨In.nil, rfl⟩
 ·exact ⟨In.nil, rfl⟩
 ·exact ⟨In.nil, rfl⟩
 ·exact ⟨In.nil, rfl⟩
 ·exact ⟨In.nil, rfl⟩
 ·exact ⟨h5, rfl⟩
theorem kAs_le {i : Int} (i0 : 0 ≤ i) (i1 : i < 10) : (kAs.getD i.toNat []).length ≤ 2 := by
 have key : ∀ i : Fin 10, (kAs.getD i.val []).length ≤ 2 := by decide +kernel
 exact key ⟨i.toNat, by omega⟩
theorem kRs_nm : RsNm kRs := by
 intro r hr
 have key : ∀ r ∈ kRs, r.name.length ≤ 10 ∧ r.target.length ≤ 10 := by decide +kernel
 have := key r hr; omega
/-- a row against one that is told by its handle -/
theorem same_tld (xs ys : List RR) (a : Option Addr) (c : Nat) (p : Option Addr × Nat × Nat) (w : World) (h : In w a (xs.flatMap encR)) (h2 : In w p.1 (ys.flatMap encR) ∧ p.2.1 = ys.length) (hn : xs.length ≤ 1000000000) : Fn Tryz.prog 17 [.slice a xs.length c, .slice p.1 p.2.1 p.2.2] w [] fun v L' => v = .bool (decide (xs = ys)) ∧ L' = [] := by
 obtain ⟨h2, h3⟩ := h2
 rw [h3]; exact sameRRs xs ys a p.1 c p.2.2 w h h2 hn
set_option maxHeartbeats 2000000 in
set_option maxRecDepth 100000 in
theorem law21_LookTable (which : Int) (w : World) (ht : Tab10 w) : Fn Tryz.prog 7 [.int .i64 which] w [] fun v L' => v = .bool true ∧ L' = [] := by
 have hq := (table_q (i := (which % 18446744073709551616 % 10)) (by omega) (by omega)).1
 have hs := (table_q (i := (which % 18446744073709551616 % 10)) (by omega) (by omega)).2
 have ha := table_at (i := (which % 18446744073709551616 % 10)) (by omega) (by omega)
 have hk := kAs_le (i := (which % 18446744073709551616 % 10)) (by omega) (by omega)
 have h21 : (look kRs (kQs.getD (which % 18446744073709551616 % 10).toNat dQ) lanN).2.1.length ≤ 2 := by rw [ha]; exact hk
 have h22 : (look kRs (kQs.getD (which % 18446744073709551616 % 10).toNat dQ) lanN).2.2.length ≤ 1 := by rw [ha]; dsimp only; split <;> simp
 have hql : kQs.length = 10 := rfl
 have hcl : kCs.length = 10 := rfl
 have hsl : kSs.length = 10 := rfl
 have hkl : kRs.length = 4 := rfl
 refine Fn.enter Tryz.func7 rfl rfl rfl rfl (Holds.nil w) ?_
 refine W.go ?_
 refine W.q (O.call ⟨rfl, rfl⟩ (AV.nil) (fun _ w hw => law21_awake w (ht.upd hw))) ?_
 refine W.go ?_
 refine CW.cond (vt rfl) (fun hc1 => ?_) (fun hc1 => ?_)
 ·exfalso; simp at hc1
 try simp only [sk] at hc1
 refine W.go ?_
 refine W.p (O.bd (hv := PV.cons (vt rfl) (PV.cons (vt rfl) (PV.cons (vt rfl) (PV.cons (vt rfl) (PV.nil)))))) ?_
 refine W.al rfl rfl fun b1 => ?_
 refine W.st (vt rfl) (vt rfl) rfl ?_
 refine W.go ?_
 refine W.p (O.bd (hv := PV.cons (vt rfl) (PV.cons (vt rfl) (PV.cons (vt rfl) (PV.nil))))) ?_
 refine W.al rfl rfl fun b2 => ?_
 refine W.st (vt rfl) (vt rfl) rfl ?_
 refine W.go ?_
 refine W.p (O.bd (hv := PV.cons (vt rfl) (PV.cons (vt rfl) (PV.cons (vt rfl) (PV.nil))))) ?_
 refine W.al rfl rfl fun b3 => ?_
 refine W.st (vt rfl) (vt rfl) rfl ?_
 refine W.go ?_
 refine W.p (O.bd (hv := PV.cons (vt rfl) (PV.cons (vt rfl) (PV.cons (vt rfl) (PV.nil))))) ?_
 refine W.al rfl rfl fun b4 => ?_
 refine W.st (vt rfl) (vt rfl) rfl ?_
 refine WL.nil (Q.tn ?_)
 refine CW.seq ?_
 refine CW.region ?_
 refine W.p O.lds ?_
 refine W.p O.lds ?_
 refine W.p O.lds ?_
 refine W.p O.lds ?_
 refine W.bs encR kRs rfl (PV.cons (vt rfl) (PV.cons (vt rfl) (PV.cons (vt rfl) (PV.cons (vt rfl) (PV.nil))))) rfl rfl rfl (by decide) rfl fun b5 => ?_
 refine W.go ?_
 refine W.p (O.bd (hv := PV.cons (vt rfl) (PV.cons (vt rfl) (PV.nil)))) ?_
 refine W.p (O.bd (hv := PV.cons (vt rfl) (PV.cons (vt rfl) (PV.nil)))) ?_
 refine W.p (O.bd (hv := PV.cons (vt rfl) (PV.cons (vt rfl) (PV.nil)))) ?_
 refine W.p (O.bd (hv := PV.cons (vt rfl) (PV.cons (vt rfl) (PV.nil)))) ?_
 refine W.p (O.bd (hv := PV.cons (vt rfl) (PV.cons (vt rfl) (PV.nil)))) ?_
 refine W.p (O.bd (hv := PV.cons (vt rfl) (PV.cons (vt rfl) (PV.nil)))) ?_
 refine W.p (O.bd (hv := PV.cons (vt rfl) (PV.cons (vt rfl) (PV.nil)))) ?_
 refine W.p (O.bd (hv := PV.cons (vt rfl) (PV.cons (vt rfl) (PV.nil)))) ?_
 refine W.p (O.bd (hv := PV.cons (vt rfl) (PV.cons (vt rfl) (PV.nil)))) ?_
 refine W.p (O.bd (hv := PV.cons (vt rfl) (PV.cons (vt rfl) (PV.nil)))) ?_
 refine W.bs encQ kQs rfl (PV.cons (vt rfl) (PV.cons (vt rfl) (PV.cons (vt rfl) (PV.cons (vt rfl) (PV.cons (vt rfl) (PV.cons (vt rfl) (PV.cons (vt rfl) (PV.cons (vt rfl) (PV.cons (vt rfl) (PV.cons (vt rfl) (PV.nil))))))))))) rfl rfl rfl (by decide) rfl fun b6 => ?_
 refine W.p O.as ?_
 refine WL.nil (Q.tn ?_)
 refine CW.seq ?_
 refine CW.region ?_
 refine W.bs encI kCs rfl (PV.cons (vt rfl) (PV.cons (vt rfl) (PV.cons (vt rfl) (PV.cons (vt rfl) (PV.cons (vt rfl) (PV.cons (vt rfl) (PV.cons (vt rfl) (PV.cons (vt rfl) (PV.cons (vt rfl) (PV.cons (vt rfl) (PV.nil))))))))))) rfl rfl rfl (by decide) rfl fun b7 => ?_
 refine W.p O.as ?_
 refine WL.nil (Q.tn ?_)
 refine CW.seq ?_
 refine CW.region ?_
 refine W.p O.lds ?_
 refine W.bs encR [kAd] rfl (PV.cons (vt rfl) (PV.nil)) rfl rfl rfl (by decide) rfl fun b8 => ?_
 refine W.p O.lds ?_
 refine W.p O.lds ?_
 refine W.bs encR [kAd, kTx] rfl (PV.cons (vt rfl) (PV.cons (vt rfl) (PV.nil))) rfl rfl rfl (by decide) rfl fun b9 => ?_
 refine W.p O.lds ?_
 refine W.p O.lds ?_
 refine W.bs encR [kAl, kAd] rfl (PV.cons (vt rfl) (PV.cons (vt rfl) (PV.nil))) rfl rfl rfl (by decide) rfl fun b10 => ?_
 refine W.p O.lds ?_
 refine W.bs encR [kAl] rfl (PV.cons (vt rfl) (PV.nil)) rfl rfl rfl (by decide) rfl fun b11 => ?_
 refine W.p O.lds ?_
 refine W.bs encR [kAl] rfl (PV.cons (vt rfl) (PV.nil)) rfl rfl rfl (by decide) rfl fun b12 => ?_
 refine W.bs encSl (kRw b8 b9 b10 b11 b12) rfl (PV.cons (vt rfl) (PV.cons (vt rfl) (PV.cons (vt rfl) (PV.cons (vt rfl) (PV.cons (vt rfl) (PV.cons (vt rfl) (PV.cons (vt rfl) (PV.cons (vt rfl) (PV.cons (vt rfl) (PV.cons (vt rfl) (PV.nil))))))))))) rfl rfl rfl (by decide) rfl fun b13 => ?_
 refine W.p O.as ?_
 refine WL.nil (Q.tn ?_)
 refine CW.seq ?_
 refine CW.region ?_
 refine W.bs encI kSs rfl (PV.cons (vt rfl) (PV.cons (vt rfl) (PV.cons (vt rfl) (PV.cons (vt rfl) (PV.cons (vt rfl) (PV.cons (vt rfl) (PV.cons (vt rfl) (PV.cons (vt rfl) (PV.cons (vt rfl) (PV.cons (vt rfl) (PV.nil))))))))))) rfl rfl rfl (by decide) rfl fun b14 => ?_
 refine W.go ?_
 refine W.p O.cvUn ?_
 refine W.p O.rem ?_
 first | refine W.p O.cvN ?_ | refine W.p O.cv ?_
 refine W.go ?_
 refine W.callN (first := []) (cap := []) rfl (vt rfl) (AV.cons (vt rfl) (AV.cons (vt rfl) (AV.cons (vt rfl) (AV.nil)))) (fun w hu => an_Look kRs (oa (some b5)) 4 (kQs.getD (which % 18446744073709551616 % 10).toNat dQ) lanN w (RowL.h (enc := encR) (xs := kRs) (a := oa (some b5)) _ hu) (by decide) kRs_nm (by omega) (by decide)) ?_; rintro _ _ ⟨o51, c51, p51, o52, c52, p52, rfl, nk51, nk52, rfl⟩; have hrl2 : (kRw b8 b9 b10 b11 b12).length = 10 := rfl
 refine W.go ?_
 refine CW.draw 36 rfl (by kernel_rfl) ?_
 refine WQ.p O.mv ?_
 refine WQ.p O.mv ?_
 refine WQ.p O.mv ?_
 refine WQ.p O.ixA ?_
 refine WQ.p O.ldE ?_
 refine WQ.p O.eqI ?_
 refine WQ.p O.mv ?_
 refine WQ.p O.mv ?_
 refine WQ.p O.mv ?_
 refine WQ.p O.mv ?_
 refine WQ.p O.ixA ?_
 refine WQ.p O.ldE ?_
 refine WQ.q (O.call ⟨rfl, rfl⟩ (AV.cons (vs rfl) (AV.cons (vs rfl) (AV.nil))) (fun _ w hw => same_tld (look kRs (kQs.getD (which % 18446744073709551616 % 10).toNat dQ) lanN).2.1 (kAs.getD (which % 18446744073709551616 % 10).toNat []) (oa o51) c51 ((kRw b8 b9 b10 b11 b12).getD (which % 18446744073709551616 % 10).toNat dSl) w (RowL.h (enc := encR) (xs := (look kRs (kQs.getD (which % 18446744073709551616 % 10).toNat dQ) lanN).2.1) (a := oa o51) _ hw) (kRw_at (RowL.h (enc := encR) (xs := [kAd]) (a := oa (some b8)) _ hw) (RowL.h (enc := encR) (xs := [kAd, kTx]) (a := oa (some b9)) _ hw) (RowL.h (enc := encR) (xs := [kAl, kAd]) (a := oa (some b10)) _ hw) (RowL.h (enc := encR) (xs := [kAl]) (a := oa (some b11)) _ hw) (RowL.h (enc := encR) (xs := [kAl]) (a := oa (some b12)) _ hw) (by omega) (by omega)) (by omega))) ?_
 refine WQ.p O.pkB ?_
 refine WQ.p O.mv ?_
 refine WQ.p O.mv ?_
 refine WQ.p O.lenL ?_
 refine WQ.p O.mv ?_
 refine WQ.p O.mv ?_
 refine WQ.p O.ixA ?_
 refine WQ.p O.ldE ?_
 refine WQ.p O.eqI ?_
 refine WQ.p O.pkB ?_
 refine WQ.p O.mv ?_
 refine WQ.p O.mv ?_
 refine WQ.p O.lenL ?_
 refine WQ.p O.eqI ?_
 refine WQ.p O.mv ?_
 refine WQ.p O.mv ?_
 refine WQ.p O.ixA ?_
 refine WQ.p O.ldsE ?_
 refine WQ.p O.lds ?_
 refine WQ.p O.eqT ?_
 refine WQ.p O.pkB ?_
 refine WQ.p O.pkB ?_
 refine WQ.p O.as ?_
 refine WQ.nil ?_
 refine WL.nil (Q.tn ?_)
 refine CW.ret ?_
 refine ⟨_, [], (RVs.tmp rfl RVs.nil), List.nil_sublist _, ?_⟩
 refine ⟨congrArg Value.bool ?_, rfl⟩
 rw [ha]; dsimp only
 rcases hs with e | e
 ·rw [e]; simp
 ·rw [e]; simp [encR, kSoa, lanN]
end Go.Proofs.YtfmdaijkgjkmpaaGreatDoor
