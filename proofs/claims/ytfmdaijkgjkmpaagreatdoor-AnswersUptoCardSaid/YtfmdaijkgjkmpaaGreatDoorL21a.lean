/- The statements Answers and AnswerNever: their walks. Conditions: what comes in is not longer than a million; the library's table of powers of ten is as its text lays it. -/
import Derived.Test.YtfmdaijkgjkmpaaGreatDoorL21
import Derived.Test.YtfmdaijkgjkmpaaGreatDoorLaw0
import Derived.Test.YtfmdaijkgjkmpaaGreatDoorLaw0L
set_option linter.unusedVariables false
set_option linter.unusedSimpArgs false
namespace Go.Proofs.YtfmdaijkgjkmpaaGreatDoor
open Go Go.RowKit
set_option maxRecDepth 100000 in
theorem spoilW (xs : List RR) (o : Option Nat) (c : Nat) (sp : List Value) (w : World) (nk : NilOk o xs) (hL : Holds (rowL o 58 (flat encR xs sp)) w) (hn : xs.length ≤ 1000000000) : Fn Tryz.prog 18 [.slice (oa o) xs.length c] w (rowL o 58 (flat encR xs sp)) fun v L' => ∃ ys : List RR, ys.length = xs.length ∧ L' = rowL o 58 (flat encR ys sp) := by
 refine Fn.enter Tryz.func18 rfl rfl rfl rfl hL ?_
 refine W.go ?_
 refine CW.loopA (X := Int × (List RR)) (fun ⟨i, ys⟩ => [(0, true, .slice (oa o) xs.length c), (2, true, .int .i64 i)]) (fun ⟨i, ys⟩ => rowL o 58 (flat encR ys sp)) (fun ⟨i, ys⟩ => 0 ≤ i ∧ i ≤ xs.length ∧ ys.length = xs.length) (fun ⟨i, ys⟩ => (xs.length - i).toNat) (0, xs) ?_ ?_
 ·exact ⟨by omega, by omega, rfl⟩
 rintro ⟨i, ys⟩ hI
 try dsimp only at hI ⊢
 obtain ⟨h0, h1, hr⟩ := hI
 have nk2 : NilOk o ys := ⟨fun e => List.eq_nil_of_length_eq_zero (by rw [hr, nk.h e]; rfl)⟩
 refine W.go ?_
 refine CW.cond (vt rfl) (fun hc1 => ?_) (fun hc1 => ?_)
 ·try simp only [sk] at hc1
  refine CW.skip (Q.tn ?_)
  refine CW.seq ?_
  refine CW.block ?_
  refine CW.region ?_
  refine W.p O.mv ?_
  refine W.p O.mv ?_
  refine W.p O.mv ?_
  refine W.p O.mv ?_
  refine W.p O.ixA ?_
  first | refine W.p O.fe ?_ | refine W.p O.feR ?_
  refine W.go ?_
  refine W.p O.xor ?_
  refine W.p O.ixA ?_
  first | refine W.p O.fe ?_ | refine W.p O.feR ?_
  refine W.stE ⟨(ys.getD i.toNat dR).name, (ys.getD i.toNat dR).type, bits .xor .i64 (ys.getD i.toNat dR).ttl 90, (ys.getD i.toNat dR).addr, (ys.getD i.toNat dR).target, (ys.getD i.toNat dR).text, (ys.getD i.toNat dR).serial⟩ (vt rfl) (vt rfl) rfl (by first | omega | (simp only [decide_eq_true_eq, decide_eq_false_iff_not] at *; omega)) (by decide) (by rfl) ?_
  refine W.go ?_
  refine nextA (_, _) ?_ ?_
  ·try dsimp only
   exact ⟨by omega, by omega, by simpa using hr⟩
  ·try dsimp only
   omega
 try simp only [sk] at hc1
 refine W.go ?_
 refine ⟨_, rowL o 58 (flat encR ys sp), RVs.nil, (by repeat (first | exact List.Sublist.refl _ | exact hSub _ | exact List.sublist_append_left _ _ | exact List.nil_sublist _ | refine List.Sublist.append (List.Sublist.refl _) ?_ | apply List.Sublist.cons_cons | apply List.Sublist.cons | exact List.sublist_append_left _ _ | refine List.Sublist.trans ?_ (List.sublist_append_right _ _))), ?_⟩
 exact ⟨ys, hr, rfl⟩
set_option maxHeartbeats 2000000 in
set_option maxRecDepth 100000 in
theorem law21_Answers (c : Cf) (e r s : Sl2) (ls : List Lz) (al : Option Addr) (cl : Nat) (now n : Int) (t : List UInt8) (rs : List RR) (ar : Option Addr) (cr : Nat) (q : Qn') (z : List UInt8) (w : World) (h : CfIn w c e r s) (hl : In w al (ls.flatMap encL)) (hr : In w ar (rs.flatMap encR)) (hz : CfSz c) (hls : LsSz ls) (hn : -9223372036854775808 ≤ n ∧ n ≤ 9223372036854775807) (htl : t.length ≤ 1048576) (hrn : rs.length ≤ 1048576) (hrk : RsNm rs) (hqn : q.name.length ≤ 1048576) (hzn : z.length ≤ 1048576) (ht : Tab10 w) :
  Fn Tryz.prog 3 [vCf c e r s, .slice al ls.length cl, .int .i64 now, .int .i64 n, .string (S t), .slice ar rs.length cr, .agg (encQ q).toArray, .string (S z)] w [] fun v L' => v = .bool true ∧ L' = [] := by
 have hll := hls.hl
 have hlk := look_nm (q := q) (z := z) hrk
 refine Fn.enter Tryz.func3 rfl rfl rfl rfl (Holds.nil w) ?_
 refine W.go ?_
 refine W.bx rfl (vt rfl) rfl fun b1 => ?_
 refine W.bx rfl (vt rfl) rfl fun b2 => ?_
 refine W.go ?_
 refine W.callN (first := []) (cap := []) rfl (vt rfl) (AV.cons (vt rfl) (AV.nil)) (fun w hu => copyConfig c e r s w (h.upd hu) hz.ln) ?_; rintro _ _ ⟨o11, c11, p11, o12, c12, p12, o13, c13, p13, rfl, ok11, ok12, ok13, rfl⟩; have nk11 := ok11.nk (α := Int) (xs := c.excl); have nk12 := ok12.nk (α := Rs) (xs := c.resv); have nk13 := ok13.nk (α := RR) (xs := c.stat)
 refine W.go ?_
 refine W.callN (first := []) (cap := []) rfl (vt rfl) (AV.cons (vt rfl) (AV.nil)) (fun w hu => lendLeases ls al cl w (hl.upd (L0 := []) hu) (by omega)) ?_; rintro _ _ ⟨b21, c21, p21, rfl, ok21, rfl⟩
 refine W.go ?_
 refine W.callN (first := []) (cap := []) rfl (vt rfl) (AV.cons (vt rfl) (AV.nil)) (fun w hu => lendRRs rs ar cr w (hr.upd (L0 := []) hu) (by omega)) ?_; rintro _ _ ⟨b22, c22, p22, rfl, ok22, rfl⟩
 refine W.al rfl rfl fun b3 => ?_
 refine W.st (vt rfl) (vt rfl) rfl ?_
 refine W.go ?_
 refine W.q (O.call ⟨rfl, rfl⟩ (AV.cons (vt rfl) (AV.cons (vt rfl) (AV.cons (vt rfl) (AV.cons (vt rfl) (AV.cons (vt rfl) (AV.nil)))))) (fun _ w hw => an_Answer c (oa o11, c11) (oa o12, c12) (oa o13, c13) ls (oa (some b21)) c21 now n t w (CfIn.mk (RowL.h (enc := encI) (xs := c.excl) (a := oa o11) _ hw) (RowL.h (enc := encRs) (xs := c.resv) (a := oa o12) _ hw) (RowL.h (enc := encR) (xs := c.stat) (a := oa o13) _ hw)) hz (In.cutPre hw) hls hn htl (ht.upd hw))) ?_
 refine W.go ?_
 refine W.q (O.call ⟨rfl, rfl⟩ (AV.cons (vt rfl) (AV.cons (vt rfl) (AV.cons (vt rfl) (AV.cons (vt rfl) (AV.cons (vt rfl) (AV.nil)))))) (fun _ w hw => ref_Answer c e r s ls al cl now n t w (h.upd hw) hz (hl.upd (L0 := []) hw) hls htl)) ?_
 refine W.go ?_
 refine W.callN (first := []) (cap := []) rfl (vt rfl) (AV.cons (vt rfl) (AV.cons (vt rfl) (AV.cons (vt rfl) (AV.nil)))) (fun w hu => an_Look rs (oa (some b22)) c22 q z w (In.cutPre hu) hrn hrk hqn hzn) ?_; rintro _ _ ⟨o51, c51, p51, o52, c52, p52, rfl, nk51, nk52, rfl⟩
 refine W.go ?_
 refine W.callN (first := []) (cap := []) rfl (vt rfl) (AV.cons (vt rfl) (AV.cons (vt rfl) (AV.cons (vt rfl) (AV.nil)))) (fun w hu => ref_Look rs ar cr q z w (hr.upd (L0 := []) hu) hrn hrk hqn hzn) ?_; rintro _ _ ⟨o61, c61, p61, o62, c62, p62, rfl, nk61, nk62, rfl⟩
 refine W.go ?_
 refine W.p O.neB ?_
 refine W.go ?_
 refine W.q (O.call ⟨rfl, rfl⟩ (AV.cons (vs rfl) (AV.nil)) (fun _ w hw => law0_Num _ w)) ?_
 refine W.go ?_
 refine W.q (O.call ⟨rfl, rfl⟩ (AV.cons (vs rfl) (AV.cons (vs rfl) (AV.nil))) (fun _ w hw => sameRRs (look rs q z).2.1 (look rs q z).2.1 _ _ _ _ w (RowL.h (enc := encR) (xs := (look rs q z).2.1) (a := oa o51) _ hw) (RowL.h (enc := encR) (xs := (look rs q z).2.1) (a := oa o61) _ hw) (by omega))) ?_
 refine W.go ?_
 refine W.q (O.call ⟨rfl, rfl⟩ (AV.cons (vs rfl) (AV.cons (vs rfl) (AV.nil))) (fun _ w hw => sameRRs (look rs q z).2.2 (look rs q z).2.2 _ _ _ _ w (RowL.h (enc := encR) (xs := (look rs q z).2.2) (a := oa o52) _ hw) (RowL.h (enc := encR) (xs := (look rs q z).2.2) (a := oa o62) _ hw) (by omega))) ?_
 refine W.go ?_
 refine CW.cond (vt rfl) (fun hc1 => ?_) (fun hc1 => ?_)
 ·exfalso; simp at hc1
 try simp only [sk] at hc1
 refine W.go ?_
 refine W.callS (first := []) (cap := []) (rowL o51 58 (flat encR (look rs q z).2.1 p51)) rfl (vt rfl) (AV.cons (vt rfl) (AV.nil)) (fun w hu hh => spoilW (look rs q z).2.1 o51 c51 p51 w nk51 hh (by omega)) ?_; rintro _ _ ⟨y1, hy1, rfl⟩
 refine W.go ?_
 refine W.callS (first := []) (cap := []) (rowL o52 58 (flat encR (look rs q z).2.2 p52)) rfl (vt rfl) (AV.cons (vt rfl) (AV.nil)) (fun w hu hh => spoilW (look rs q z).2.2 o52 c52 p52 w nk52 hh (by omega)) ?_; rintro _ _ ⟨y2, hy2, rfl⟩
 refine W.go ?_
 refine W.q (O.call ⟨rfl, rfl⟩ (AV.cons (vt rfl) (AV.cons (vt rfl) (AV.nil))) (fun _ w hw => sameConfig c c (oa o11, c11) (oa o12, c12) (oa o13, c13) e r s w (CfIn.mk (RowL.h (enc := encI) (xs := c.excl) (a := oa o11) _ hw) (RowL.h (enc := encRs) (xs := c.resv) (a := oa o12) _ hw) (RowL.h (enc := encR) (xs := c.stat) (a := oa o13) _ hw)) (h.upd hw) hz.ln)) ?_
 refine W.go ?_
 refine W.q (O.call ⟨rfl, rfl⟩ (AV.cons (vs rfl) (AV.cons (vs rfl) (AV.nil))) (fun _ w hw => keptLeases ls b21 al c21 cl w (RowL.h (enc := encL) (xs := ls ++ [mkLeases, mkLeases]) (a := oa (some b21)) _ hw) (hl.upd (L0 := []) hw) (by omega) (by have := ok21.2.2.1; simp only [List.length_append, List.length_cons, List.length_nil] at this; omega))) ?_
 refine W.go ?_
 refine W.q (O.call ⟨rfl, rfl⟩ (AV.cons (vs rfl) (AV.cons (vs rfl) (AV.nil))) (fun _ w hw => keptRRs rs b22 ar c22 cr w (RowL.h (enc := encR) (xs := rs ++ [mkRRs, mkRRs]) (a := oa (some b22)) _ hw) (hr.upd (L0 := []) hw) (by omega) (by have := ok22.2.2.1; simp only [List.length_append, List.length_cons, List.length_nil] at this; omega))) ?_
 refine W.go ?_
 refine W.q (O.call ⟨rfl, rfl⟩ (AV.nil) (fun _ w hw => law21_awake w (ht.upd hw))) ?_
 refine W.go ?_
 refine ⟨_, [], (RVs.tmp rfl RVs.nil), List.nil_sublist _, ?_⟩
 exact ⟨by simp [oneOr], rfl⟩
end Go.Proofs.YtfmdaijkgjkmpaaGreatDoor
