/- The statement Zones: its walk. Conditions: what comes in is not longer than a million; the library's table of powers of ten is as its text lays it. -/
import Derived.Test.YtagiajnpnjakhaaDoorL20
set_option linter.unusedVariables false
set_option linter.unusedSimpArgs false
namespace Go.Proofs.YtagiajnpnjakhaaDoor
open Go Go.RowKit
set_option maxRecDepth 100000 in
theorem law20_Zones (c : Cf) (e r s : Sl2) (ls : List Lz) (al : Option Addr) (cl : Nat) (now n : Int) (ms : List Lz) (am : Option Addr) (cm : Nat) (thn : Int) (w : World) (h : CfIn w c e r s) (hl : In w al (ls.flatMap encL)) (hm : In w am (ms.flatMap encL)) (hz : CfSz c) (hls : LsSz ls) (hms : LsSz ms) (hn : -9223372036854775808 ≤ n ∧ n ≤ 9223372036854775807) (ht : Tab10 w) :
    Fn Tryd.prog 3 [vCf c e r s, .slice al ls.length cl, .int .i64 now, .int .i64 n, .slice am ms.length cm, .int .i64 thn] w [] fun v L' => v = .bool true ∧ L' = [] := by
  have hr1 := zRec_len (now := now) (n := n) hz hls
  have hll := hls.hl
  refine Fn.enter Tryd.func3 rfl rfl rfl rfl (Holds.nil w) ?_
  refine CW.seq ?_
  refine CW.region ?_
  refine W.bx rfl (vt rfl) rfl fun b1 => ?_
  refine W.p O.as ?_
  refine WL.nil (Q.tn ?_)
  refine CW.seq ?_
  refine CW.region ?_
  refine W.p O.lds ?_
  refine W.callN (first := []) (cap := []) rfl (vt rfl) (AV.cons (vt rfl) (AV.nil)) (fun w hu => copyConfig c e r s w (h.upd hu) hz.ln) ?_; rintro _ _ ⟨o11, c11, p11, o12, c12, p12, o13, c13, p13, rfl, ok11, ok12, ok13, rfl⟩; have nk11 := ok11.nk (α := Int) (xs := c.excl); have nk12 := ok12.nk (α := Rs) (xs := c.resv); have nk13 := ok13.nk (α := RR) (xs := c.stat)
  refine W.p O.mv ?_
  refine W.callN (first := []) (cap := []) rfl (vt rfl) (AV.cons (vt rfl) (AV.nil)) (fun w hu => lendLeases ls al cl w (hl.upd (L0 := []) hu) (by omega)) ?_; rintro _ _ ⟨b21, c21, p21, rfl, ok21, rfl⟩
  refine W.al rfl rfl fun b2 => ?_
  refine W.st (vt rfl) (vt rfl) rfl ?_
  refine W.p O.as ?_
  refine WL.nil (Q.tn ?_)
  refine CW.seq ?_
  refine CW.region ?_
  refine W.p O.lds ?_
  refine W.p O.mv ?_
  refine W.p O.mv ?_
  refine W.p O.mv ?_
  refine W.callN (first := []) (cap := []) rfl (vt rfl) (AV.cons (vt rfl) (AV.cons (vt rfl) (AV.cons (vt rfl) (AV.cons (vt rfl) (AV.nil))))) (fun w hu => zn_Records c (oa o11, c11) (oa o12, c12) (oa o13, c13) ls (oa (some b21)) c21 now n w (CfIn.mk (RowL.h (enc := encI) (xs := c.excl) (a := oa o11) _ hu) (RowL.h (enc := encRs) (xs := c.resv) (a := oa o12) _ hu) (RowL.h (enc := encR) (xs := c.stat) (a := oa o13) _ hu)) hz (In.cutPre hu) hls hn (ht.upd hu)) ?_; rintro _ _ ⟨o31, c31, p31, rfl, ok31, rfl⟩; have nk31 := ok31.nk (α := RR) (xs := (zRec c ls now n).1)
  refine W.p O.mv ?_
  first | refine W.p O.extL ?_ | refine W.p O.ext ?_
  first | refine W.p O.extL ?_ | refine W.p O.ext ?_
  refine W.p O.as ?_
  refine W.p O.as ?_
  refine WL.nil (Q.tn ?_)
  refine CW.seq ?_
  refine CW.region ?_
  refine W.p O.lds ?_
  refine W.p O.mv ?_
  refine W.p O.mv ?_
  refine W.p O.mv ?_
  refine W.callN (first := []) (cap := []) rfl (vt rfl) (AV.cons (vt rfl) (AV.cons (vt rfl) (AV.cons (vt rfl) (AV.cons (vt rfl) (AV.nil))))) (fun w hu => ref_Records c e r s ls al cl now n w (h.upd hu) hz (hl.upd (L0 := []) hu) hls) ?_; rintro _ _ ⟨o32, c32, p32, rfl, ok32, rfl⟩; have nk32 := ok32.nk (α := RR) (xs := (zRec c ls now n).1)
  refine W.p O.mv ?_
  first | refine W.p O.extL ?_ | refine W.p O.ext ?_
  first | refine W.p O.extL ?_ | refine W.p O.ext ?_
  refine W.p O.as ?_
  refine W.p O.as ?_
  refine WL.nil (Q.tn ?_)
  refine CW.seq ?_
  refine CW.region ?_
  refine W.p O.lds ?_
  refine W.p O.mv ?_
  refine W.p O.mv ?_
  refine W.p O.mv ?_
  refine W.p O.mv ?_
  refine W.q (O.call ⟨rfl, rfl⟩ (AV.cons (vt rfl) (AV.cons (vt rfl) (AV.cons (vt rfl) (AV.cons (vt rfl) (AV.cons (vt rfl) (AV.nil)))))) (fun _ w hw => zn_Changed c (oa o11, c11) (oa o12, c12) (oa o13, c13) ls ms (oa (some b21)) am c21 cm now thn w (CfIn.mk (RowL.h (enc := encI) (xs := c.excl) (a := oa o11) _ hw) (RowL.h (enc := encRs) (xs := c.resv) (a := oa o12) _ hw) (RowL.h (enc := encR) (xs := c.stat) (a := oa o13) _ hw)) hz (In.cutPre hw) hls (hm.upd (L0 := []) hw) hms (ht.upd hw))) ?_
  refine W.p O.mv ?_
  first | refine W.p O.extL ?_ | refine W.p O.ext ?_
  first | refine W.p O.extL ?_ | refine W.p O.ext ?_
  refine W.p O.as ?_
  refine W.p O.as ?_
  refine WL.nil (Q.tn ?_)
  refine CW.seq ?_
  refine CW.region ?_
  refine W.p O.lds ?_
  refine W.p O.mv ?_
  refine W.p O.mv ?_
  refine W.p O.mv ?_
  refine W.p O.mv ?_
  refine W.q (O.call ⟨rfl, rfl⟩ (AV.cons (vt rfl) (AV.cons (vt rfl) (AV.cons (vt rfl) (AV.cons (vt rfl) (AV.cons (vt rfl) (AV.nil)))))) (fun _ w hw => ref_Changed c e r s ls ms al am cl cm now thn w (h.upd hw) hz (hl.upd (L0 := []) hw) hls (hm.upd (L0 := []) hw) hms)) ?_
  refine W.p O.mv ?_
  first | refine W.p O.extL ?_ | refine W.p O.ext ?_
  first | refine W.p O.extL ?_ | refine W.p O.ext ?_
  refine W.p O.as ?_
  refine W.p O.as ?_
  refine WL.nil (Q.tn ?_)
  refine CW.seq ?_
  refine CW.seq ?_
  refine CW.region ?_
  refine W.p O.mv ?_
  refine W.p O.mv ?_
  refine W.q (O.call ⟨rfl, rfl⟩ (AV.cons (vt rfl) (AV.cons (vt rfl) (AV.nil))) (fun _ w hw => sameRRs (zRec c ls now n).1 (zRec c ls now n).1 _ _ _ _ w (RowL.h (enc := encR) (xs := (zRec c ls now n).1) (a := oa o31) _ hw) (RowL.h (enc := encR) (xs := (zRec c ls now n).1) (a := oa o32) _ hw) (by omega))) ?_
  refine W.p O.nt ?_
  refine W.p O.mv ?_
  refine W.p O.mv ?_
  refine W.q (O.call ⟨rfl, rfl⟩ (AV.cons (vs rfl) (AV.nil)) (fun _ w hw => law0_Num _ w)) ?_
  refine W.p O.mv ?_
  refine W.p O.neI ?_
  refine W.p O.pkB ?_
  refine W.p O.mv ?_
  refine W.p O.mv ?_
  refine W.p O.mv ?_
  refine W.p O.neB ?_
  refine W.p O.pkB ?_
  refine W.p O.mv ?_
  refine W.p O.mv ?_
  refine W.q (O.call ⟨rfl, rfl⟩ (AV.cons (vs rfl) (AV.nil)) (fun _ w hw => law0_Num _ w)) ?_
  refine W.p O.mv ?_
  refine W.p O.neI ?_
  refine W.p O.pkB ?_
  refine WL.nil (Q.tn ?_)
  refine CW.cond (vt rfl) (fun hc1 => ?_) (fun hc1 => ?_)
  · exfalso; simp at hc1
  try simp only [sk] at hc1
  refine CW.skip (Q.tn ?_)
  refine CW.seq ?_
  refine CW.region ?_
  refine W.p O.mv ?_
  refine W.callS (first := []) (cap := []) (rowL o31 51 (flat encR (zRec c ls now n).1 p31)) rfl (vt rfl) (AV.cons (vt rfl) (AV.nil)) (fun w hu hh => spoilRRs (zRec c ls now n).1 o31 c31 p31 w ok31 hh (by omega)) ?_; rintro _ _ ⟨y1, hy1, rfl⟩
  refine WL.nil (Q.tn ?_)
  refine CW.seq ?_
  refine CW.region ?_
  refine W.p O.lds ?_
  refine W.p O.lds ?_
  refine W.q (O.call ⟨rfl, rfl⟩ (AV.cons (vt rfl) (AV.cons (vt rfl) (AV.nil))) (fun _ w hw => sameConfig c c (oa o11, c11) (oa o12, c12) (oa o13, c13) e r s w (CfIn.mk (RowL.h (enc := encI) (xs := c.excl) (a := oa o11) _ hw) (RowL.h (enc := encRs) (xs := c.resv) (a := oa o12) _ hw) (RowL.h (enc := encR) (xs := c.stat) (a := oa o13) _ hw)) (h.upd hw) hz.ln)) ?_
  refine W.p O.mv ?_
  refine W.p O.mv ?_
  refine W.p O.mv ?_
  refine W.q (O.call ⟨rfl, rfl⟩ (AV.cons (vs rfl) (AV.cons (vs rfl) (AV.nil))) (fun _ w hw => keptLeases ls b21 al c21 cl w (RowL.h (enc := encL) (xs := ls ++ [mkLeases, mkLeases]) (a := oa (some b21)) _ hw) (hl.upd (L0 := []) hw) (by omega) (by have := ok21.2.2.1; simp only [List.length_append, List.length_cons, List.length_nil] at this; omega))) ?_
  refine W.p O.pkB ?_
  refine W.p O.mv ?_
  refine W.q (O.call ⟨rfl, rfl⟩ (AV.nil) (fun _ w hw => law20_awake w (ht.upd hw))) ?_
  refine W.p O.pkB ?_
  refine W.p O.as ?_
  refine WL.nil (Q.tn ?_)
  refine CW.ret ?_
  refine ⟨_, [], (RVs.tmp rfl RVs.nil), List.nil_sublist _, ?_⟩
  exact ⟨by simp [oneOr], rfl⟩
end Go.Proofs.YtagiajnpnjakhaaDoor
