/- The statement ZoneOwns: its walk. Conditions: what comes in is not longer than a million; the library's table of powers of ten is as its text lays it. -/
import Derived.Test.YtagiajnpnjakhaaDoorZnS
import Derived.Test.YtagiajnpnjakhaaDoorSlM
set_option linter.unusedVariables false
set_option linter.unusedSimpArgs false
namespace Go.Proofs.YtagiajnpnjakhaaDoor
open Go Go.RowKit
def cntZ (c : Cf) (now : Int) (ls : List Lz) : Nat := (ls.filter (toldZ c now)).length
theorem flatL_len (c : Cf) : ∀ ls : List Lz, (ls.flatMap (lentR c)).length = 3 * ls.length
  | [] => rfl
  | l :: r => by rw [List.flatMap_cons, List.length_append, flatL_len c r]; simp [lentR]; omega
theorem recs_len {c : Cf} {ls : List Lz} {now n : Int} : (zRecs c ls now n).length = 2 + c.stat.length + 3 * cntZ c now ls := by
  rw [zRecs, List.length_append, List.length_append, flatL_len]; rfl
theorem recs_at {c : Cf} {ls : List Lz} {now n i : Int} (h0 : 0 ≤ i) (hi : i < ls.length) (ht : toldZ c now (ls.getD i.toNat dL) = true) {k : Nat} (hk : k = 2 + c.stat.length + 3 * cntZ c now (ls.take i.toNat)) :
    k + 3 ≤ (zRecs c ls now n).length ∧ cntZ c now (ls.take (i + 1).toNat) = cntZ c now (ls.take i.toNat) + 1 ∧ ∀ j : Nat, j < 3 → (zRecs c ls now n).getD (k + j) dR = (lentR c (ls.getD i.toNat dL)).getD j dR := by
  have e : ls = ls.take i.toNat ++ ls.getD i.toNat dL :: ls.drop (i.toNat + 1) := by
    have h1 : i.toNat < ls.length := by omega
    conv => lhs; rw [← List.take_append_drop i.toNat ls, List.drop_eq_getElem_cons h1]
    rw [List.getD_eq_getElem?_getD, List.getElem?_eq_getElem h1]; rfl
  have hc : cntZ c now ls = cntZ c now (ls.take i.toNat) + 1 + cntZ c now (ls.drop (i.toNat + 1)) := by
    conv => lhs; rw [e]
    rw [cntZ, List.filter_append, List.filter_cons_of_pos ht, List.length_append, List.length_cons]; simp only [cntZ]; omega
  have e2 : zRecs c ls now n = (zHead c n ++ c.stat ++ ((ls.take i.toNat).filter (toldZ c now)).flatMap (lentR c)) ++ (lentR c (ls.getD i.toNat dL) ++ ((ls.drop (i.toNat + 1)).filter (toldZ c now)).flatMap (lentR c)) := by
    conv => lhs; rw [zRecs, e]
    rw [List.filter_append, List.filter_cons_of_pos ht, List.flatMap_append, List.flatMap_cons]; simp only [List.append_assoc]
  have hA : (zHead c n ++ c.stat ++ ((ls.take i.toNat).filter (toldZ c now)).flatMap (lentR c)).length = k := by
    rw [hk, List.length_append, List.length_append, flatL_len]; rfl
  refine ⟨by rw [recs_len, hc, hk]; omega, ?_, fun j hj => ?_⟩
  · rw [take_at' dL h0 hi, cntZ, List.filter_append, List.filter_cons_of_pos ht]; simp [cntZ]
  · rw [e2, List.getD_eq_getElem?_getD, List.getElem?_append_right (by omega), hA, show k + j - k = j by omega, List.getElem?_append_left (by simp [lentR]; omega)]; simp only [List.getD_eq_getElem?_getD]
theorem cnt_no {c : Cf} {ls : List Lz} {now i : Int} (h0 : 0 ≤ i) (hi : i < ls.length) (ht : toldZ c now (ls.getD i.toNat dL) = false) : cntZ c now (ls.take (i + 1).toNat) = cntZ c now (ls.take i.toNat) := by
  rw [take_at' dL h0 hi, cntZ, List.filter_append, List.filter_cons_of_neg (by rw [ht]; decide)]; simp [cntZ]
theorem recs_mid {c : Cf} {ls : List Lz} {now n : Int} : ((zRecs c ls now n).drop 2).take c.stat.length = c.stat := by
  rw [zRecs, List.append_assoc, zHead, List.cons_append, List.cons_append, List.nil_append]
  simp
theorem sameRRn {xs ys : List RR} {a b : Option Addr} {n m c c' : Nat} (w : World) (h : In w a (xs.flatMap encR)) (h' : In w b (ys.flatMap encR)) (hn : n = xs.length) (hm : m = ys.length) (hl : xs.length ≤ 1000000000) : Fn Tryd.prog 18 [.slice a n c, .slice b m c'] w [] fun v L' => v = .bool (decide (xs = ys)) ∧ L' = [] := by
  subst hn; subst hm; exact sameRRs xs ys a b c c' w h h' hl
theorem may_nm3 {r : RR} (h : rrMay r = true) : r.name.length ≤ 4398046511104 ∧ r.target.length ≤ 4398046511104 := by
  obtain ⟨hb, hn, _, _⟩ := may_parts h
  have h1 := nmMay_len hn
  refine ⟨by omega, ?_⟩
  have : r.target.length ≤ 72 := by
    unfold rrBody at hb
    split at hb
    · simp only [Bool.and_eq_true, decide_eq_true_eq] at hb; rw [hb.1.1.1]; simp
    split at hb
    · simp only [Bool.and_eq_true, decide_eq_true_eq] at hb; exact nmMay_len hb.2
    split at hb
    · simp only [Bool.and_eq_true, decide_eq_true_eq] at hb; exact nmMay_len hb.1.2
    split at hb
    · simp only [Bool.and_eq_true, decide_eq_true_eq] at hb; rw [hb.1.1.2]; simp
    · cases hb
  omega
theorem host_told {c : Cf} {now : Int} {l : Lz} (h : toldZ c now l = true) : 2 ≤ l.host ∧ l.host ≤ 254 := by
  simp only [toldZ, live, lzMay, inZ, Bool.and_eq_true, decide_eq_true_eq] at h
  obtain ⟨⟨⟨_, ⟨⟨⟨⟨⟨h1, _⟩, _⟩, _⟩, _⟩, _⟩, _⟩, _⟩, _⟩ := h
  exact h1
set_option maxRecDepth 100000 in
theorem law20_ZoneOwns (c : Cf) (e r s : Sl2) (ls : List Lz) (al : Option Addr) (cl : Nat) (now : Int) (w : World) (h : CfIn w c e r s) (hl : In w al (ls.flatMap encL)) (hz : CfSz c) (hls : LsSz ls) (ht : Tab10 w) :
    Fn Tryd.prog 4 [vCf c e r s, .slice al ls.length cl, .int .i64 now] w [] fun v L' => v = .bool true ∧ L' = [] := by
  have hr1 := zRec_len (now := now) (n := 1) hz hls
  have hll := hls.hl
  have hzs := hz.hs
  have row := Row.ofE (dv := dL) hl
  refine Fn.enter Tryd.func4 rfl rfl rfl rfl (Holds.nil w) ?_
  refine CW.seq ?_
  refine CW.region ?_
  refine W.bx rfl (vt rfl) rfl fun b1 => ?_
  refine W.p O.as ?_
  refine WL.nil (Q.tn ?_)
  refine CW.seq ?_
  refine CW.seq ?_
  refine CW.region ?_
  refine W.q (O.call ⟨rfl, rfl⟩ (AV.nil) (fun _ w hw => law20_awake w (ht.upd hw))) ?_
  refine W.p O.nt ?_
  refine WL.nil (Q.tn ?_)
  refine CW.cond (vt rfl) (fun hc1 => ?_) (fun hc1 => ?_)
  · exfalso; simp at hc1
  try simp only [sk] at hc1
  refine CW.skip (Q.tn ?_)
  refine CW.seq ?_
  refine CW.region ?_
  refine W.p O.lds ?_
  refine W.p O.mv ?_
  refine W.p O.mv ?_
  refine W.callN (first := []) (cap := []) rfl (vt rfl) (AV.cons (vt rfl) (AV.cons (vt rfl) (AV.cons (vt rfl) (AV.cons (vt rfl) (AV.nil))))) (fun w hu => zn_Records c e r s ls al cl now 1 w (h.upd hu) hz (hl.upd (L0 := []) hu) hls (by decide) (ht.upd hu)) ?_; rintro _ _ ⟨o31, c31, p31, rfl, ok31, rfl⟩; have nk31 := ok31.nk (α := RR) (xs := (zRec c ls now 1).1)
  refine W.p O.mv ?_
  first | refine W.p O.extL ?_ | refine W.p O.ext ?_
  first | refine W.p O.extL ?_ | refine W.p O.ext ?_
  refine W.p O.as ?_
  refine W.p O.as ?_
  refine WL.nil (Q.tn ?_)
  refine CW.seq ?_
  refine CW.seq ?_
  refine CW.region ?_
  refine W.p O.mv ?_
  refine W.q (O.call ⟨rfl, rfl⟩ (AV.cons (vt rfl) (AV.nil)) (fun _ w hw => law0_Num _ w)) ?_
  refine W.p O.neI ?_
  refine WL.nil (Q.tn ?_)
  refine CW.cond (vt rfl) (fun hc2 => ?_) (fun hc2 => ?_)
  · try simp only [sk] at hc2
    refine CW.seq ?_
    refine CW.region ?_
    refine W.p O.mv ?_
    refine W.p O.lenL ?_
    refine W.p O.eqI ?_
    refine W.p O.as ?_
    refine WL.nil (Q.tn ?_)
    refine CW.ret (Q.tr ?_)
    refine ⟨_, [], (RVs.tmp rfl RVs.nil), List.nil_sublist _, ?_⟩
    refine ⟨congrArg Value.bool ?_, rfl⟩
    rw [zRec_no hc2]; rfl
  try simp only [sk] at hc2
  have hyes := zRec_0.1 hc2
  have hrs := zRec_1 hyes
  have hlen : (zRec c ls now 1).1.length = 2 + c.stat.length + 3 * cntZ c now ls := by rw [hrs]; exact recs_len
  have lc31 := ok31.2.2.1
  refine CW.skip (Q.tn ?_)
  refine CW.seq ?_
  refine CW.region ?_
  first | refine W.p O.fb ?_ | refine W.p O.fa ?_
  refine W.p O.ld ?_
  refine W.p O.lenL ?_
  first | refine W.p O.addN ?_ | refine W.p O.add ?_
  refine W.p O.as ?_
  refine WL.nil (Q.tn ?_)
  refine CW.seq ?_
  refine CW.seq ?_
  refine CW.draw 21 rfl (by kernel_rfl) ?_
  refine WQ.p O.mv ?_
  refine WQ.p O.lenL ?_
  refine WQ.p O.mv ?_
  refine WQ.p O.lss ?_
  refine WQ.p O.mv ?_
  refine WQ.p O.mv ?_
  refine WQ.p O.lenL ?_
  refine WQ.p O.mv ?_
  first | refine WQ.p O.subN ?_ | refine WQ.p O.sub ?_
  refine WQ.p O.rem ?_
  refine WQ.p O.neI ?_
  refine WQ.p O.pkB ?_
  refine WQ.p O.mv ?_
  refine WQ.p O.mv ?_
  refine WQ.p O.mv ?_
  refine WQ.p O.slM ?_
  first | refine WQ.p O.fb ?_ | refine WQ.p O.fa ?_
  refine WQ.p O.ld ?_
  refine WQ.q (O.call ⟨rfl, rfl⟩ (AV.cons (vs rfl) (AV.cons (vs rfl) (AV.nil))) (fun _ w hw => sameRRn (xs := c.stat) (ys := c.stat) w (In.slA (m := 7) (RowL.h (enc := encR) (xs := (zRec c ls now 1).1) (a := oa o31) _ hw) (fun _ => rfl) (by show (2 : Int).toNat ≤ _; omega) lc31 (by rw [hrs]; exact recs_mid)) (h.upd hw).hs (by omega) rfl (by omega))) ?_
  refine WQ.p O.nt ?_
  refine WQ.p O.pkB ?_
  refine WQ.nil ?_
  refine WL.nil (Q.tn ?_)
  refine CW.cond (vt rfl) (fun hc3 => ?_) (fun hc3 => ?_)
  · exfalso; simp at hc3; omega
  try simp only [sk] at hc3
  refine CW.skip (Q.tn ?_)
  refine CW.seq ?_
  refine CW.region ?_
  refine W.p O.mv ?_
  refine W.p O.as ?_
  refine WL.nil (Q.tn ?_)
  refine CW.seq ?_
  refine CW.seq ?_
  refine CW.region ?_
  refine W.p O.as ?_
  refine WL.nil (Q.tn ?_)
  refine CW.block ?_
  refine CW.loopA (X := Int × Int) (fun ⟨i, at_⟩ => [(1, true, .slice al ls.length cl), (2, true, .int .i64 now), (3, true, .pointer (some ⟨b1, 0, none⟩)), (7, true, .slice (oa o31) (zRec c ls now 1).1.length c31), (10, true, .int .i64 at_), (11, true, .int .i64 i)]) (fun ⟨i, at_⟩ => rowL o31 51 (flat encR (zRec c ls now 1).1 p31) ++ [(b1, .cells (encCf c e r s).toArray 26 (0, 0))]) (fun ⟨i, at_⟩ => 0 ≤ i ∧ i ≤ ls.length ∧ at_ = 2 + c.stat.length + 3 * (cntZ c now (ls.take i.toNat) : Nat)) (fun ⟨i, at_⟩ => (ls.length - i).toNat) (0, _) ?_ ?_
  · exact ⟨by omega, by omega, rfl⟩
  rintro ⟨i, at_⟩ hI
  try dsimp only at hI ⊢
  obtain ⟨h0, h1, hat⟩ := hI
  refine CW.seq ?_
  refine CW.seq ?_
  refine CW.region ?_
  refine W.p O.mv ?_
  refine W.p O.mv ?_
  refine W.p O.lenL ?_
  refine W.p O.lss ?_
  refine WL.nil (Q.tn ?_)
  refine CW.cond (vt rfl) (fun hc4 => ?_) (fun hc4 => ?_)
  · try simp only [sk] at hc4
    have hnn := hls.hn _ (mem_at dL h0 hc4)
    refine CW.skip (Q.tn ?_)
    refine CW.seq ?_
    refine CW.block ?_
    refine CW.seq ?_
    refine CW.draw 8 rfl (by kernel_rfl) ?_
    refine WQ.p O.lds ?_
    refine WQ.p O.mv ?_
    refine WQ.p O.mv ?_
    refine WQ.p O.ixA ?_
    first | refine WQ.p O.fe ?_ | refine WQ.p O.feR ?_
    refine WQ.p O.ldE ?_
    refine WQ.q (O.call ⟨rfl, rfl⟩ (AV.cons (vt rfl) (AV.cons (vt rfl) (AV.nil))) (fun _ w hw => ref_Full c e r s (ls.getD i.toNat dL).name w (h.upd hw) hz (by omega))) ?_
    refine WQ.p O.as ?_
    refine WQ.nil ?_
    refine WL.nil (Q.tn ?_)
    refine CW.seq ?_
    refine CW.seq ?_
    refine CW.region ?_
    refine W.p O.mv ?_
    refine W.p O.mv ?_
    refine W.p O.ixA ?_
    refine W.p O.ldsE ?_
    refine W.p O.mv ?_
    refine W.q (O.call ⟨rfl, rfl⟩ (AV.cons (vt rfl) (AV.cons (vt rfl) (AV.nil))) (fun _ w hw => ref_Live (ls.getD i.toNat dL) now w (by omega))) ?_
    refine W.p O.nt ?_
    refine W.p O.mv ?_
    refine W.p O.mv ?_
    refine W.p O.mv ?_
    refine W.p O.ixA ?_
    first | refine W.p O.fe ?_ | refine W.p O.feR ?_
    refine W.p O.ldE ?_
    refine W.p O.neI ?_
    refine W.p O.pkB ?_
    refine W.p O.mv ?_
    refine W.p O.mv ?_
    refine W.p O.mv ?_
    refine W.p O.ixA ?_
    first | refine W.p O.fe ?_ | refine W.p O.feR ?_
    refine W.p O.ldE ?_
    refine W.p O.nt ?_
    refine W.p O.pkB ?_
    refine W.p O.mv ?_
    refine W.p O.mv ?_
    refine W.p O.eqS ?_
    refine W.p O.pkB ?_
    refine WL.nil (Q.tn ?_)
    refine CW.cond (vt rfl) (fun hc5 => ?_) (fun hc5 => ?_)
    · try simp only [sk] at hc5
      have htold : toldZ c now (ls.getD i.toNat dL) = false := by rw [toldZ]; simp_all; grind
      refine CW.exit (Q.te (Q.bx (Q.tn ?_)))
      refine CW.region ?_
      refine W.p O.mv ?_
      first | refine W.p O.addN ?_ | refine W.p O.add ?_
      refine W.p O.as ?_
      refine WL.nil (Q.tn ?_)
      refine nextA (_, _) ?_ ?_
      · try dsimp only
        refine ⟨by omega, by omega, ?_⟩
        rw [cnt_no h0 hc4 htold]; exact hat
      · try dsimp only
        omega
    try simp only [sk] at hc5
    have htold : toldZ c now (ls.getD i.toNat dL) = true := by rw [toldZ]; simp_all
    obtain ⟨hh0, hh1⟩ := host_told htold
    obtain ⟨q1, q2, q3⟩ := recs_at (n := 1) h0 hc4 htold rfl
    rw [← hrs] at q1 q3
    have g0 : (zRec c ls now 1).1.getD at_.toNat dR = (lentR c (ls.getD i.toNat dL)).getD 0 dR := by rw [← q3 0 (by omega)]; congr 1; omega
    have g1 : (zRec c ls now 1).1.getD (at_ + 1).toNat dR = (lentR c (ls.getD i.toNat dL)).getD 1 dR := by rw [← q3 1 (by omega)]; congr 1; omega
    have g2 : (zRec c ls now 1).1.getD (at_ + 2).toNat dR = (lentR c (ls.getD i.toNat dL)).getD 2 dR := by rw [← q3 2 (by omega)]; congr 1; omega
    have hit : (Lib.itoa (ls.getD i.toNat dL).host).length ≤ 3 := by rw [← decD_itoa (by omega) (by omega)]; exact (decD_len _).2
    have hit2 := hit; simp only [List.getD_eq_getElem?_getD] at hit2
    have hdi := decD_itoa (show 0 ≤ (ls.getD i.toNat dL).host by omega) (by omega)
    have hdi2 := hdi; simp only [List.getD_eq_getElem?_getD] at hdi2
    refine CW.skip (Q.tn ?_)
    refine CW.seq ?_
    refine CW.seq ?_
    refine CW.draw 90 rfl (by kernel_rfl) ?_
    refine WQ.p O.mv ?_
    first | refine WQ.p O.addN ?_ | refine WQ.p O.add ?_
    refine WQ.p O.mv ?_
    refine WQ.p O.lenL ?_
    refine WQ.p O.gtr ?_
    refine WQ.p O.mv ?_
    refine WQ.p O.mv ?_
    refine WQ.p O.mv ?_
    refine WQ.p O.ixA ?_
    first | refine WQ.p O.fe ?_ | refine WQ.p O.feR ?_
    refine WQ.p O.ldE ?_
    refine WQ.p O.neI ?_
    refine WQ.p O.pkB ?_
    refine WQ.p O.mv ?_
    refine WQ.p O.mv ?_
    refine WQ.p O.mv ?_
    refine WQ.p O.ixA ?_
    first | refine WQ.p O.fe ?_ | refine WQ.p O.feR ?_
    refine WQ.p O.ldE ?_
    refine WQ.p O.mv ?_
    refine WQ.p O.mv ?_
    refine WQ.p O.ixA ?_
    first | refine WQ.p O.fe ?_ | refine WQ.p O.feR ?_
    refine WQ.p O.ldE ?_
    first | refine WQ.p O.addN ?_ | refine WQ.p O.add ?_
    refine WQ.p O.neI ?_
    refine WQ.p O.pkB ?_
    refine WQ.p O.mv ?_
    refine WQ.p O.mv ?_
    refine WQ.p O.mv ?_
    refine WQ.p O.ixA ?_
    first | refine WQ.p O.fe ?_ | refine WQ.p O.feR ?_
    refine WQ.p O.ldE ?_
    refine WQ.p O.mv ?_
    refine WQ.p O.neS ?_
    refine WQ.p O.pkB ?_
    refine WQ.p O.mv ?_
    refine WQ.p O.mv ?_
    refine WQ.p O.mv ?_
    first | refine WQ.p O.addN ?_ | refine WQ.p O.add ?_
    refine WQ.p O.ixA ?_
    first | refine WQ.p O.fe ?_ | refine WQ.p O.feR ?_
    refine WQ.p O.ldE ?_
    refine WQ.p O.neI ?_
    refine WQ.p O.pkB ?_
    refine WQ.p O.mv ?_
    refine WQ.p O.mv ?_
    refine WQ.p O.mv ?_
    first | refine WQ.p O.addN ?_ | refine WQ.p O.add ?_
    refine WQ.p O.ixA ?_
    first | refine WQ.p O.fe ?_ | refine WQ.p O.feR ?_
    refine WQ.p O.ldE ?_
    refine WQ.p O.mv ?_
    refine WQ.p O.neS ?_
    refine WQ.p O.pkB ?_
    refine WQ.p O.mv ?_
    refine WQ.p O.mv ?_
    refine WQ.p O.mv ?_
    first | refine WQ.p O.addN ?_ | refine WQ.p O.add ?_
    refine WQ.p O.ixA ?_
    first | refine WQ.p O.fe ?_ | refine WQ.p O.feR ?_
    refine WQ.p O.ldE ?_
    refine WQ.p O.neI ?_
    refine WQ.p O.pkB ?_
    refine WQ.p O.mv ?_
    refine WQ.p O.mv ?_
    refine WQ.p O.mv ?_
    first | refine WQ.p O.addN ?_ | refine WQ.p O.add ?_
    refine WQ.p O.ixA ?_
    first | refine WQ.p O.fe ?_ | refine WQ.p O.feR ?_
    refine WQ.p O.ldE ?_
    refine WQ.p O.mv ?_
    refine WQ.p O.neS ?_
    refine WQ.p O.pkB ?_
    refine WQ.p O.mv ?_
    refine WQ.p O.mv ?_
    refine WQ.p O.mv ?_
    first | refine WQ.p O.addN ?_ | refine WQ.p O.add ?_
    refine WQ.p O.ixA ?_
    first | refine WQ.p O.fe ?_ | refine WQ.p O.feR ?_
    refine WQ.p O.ldE ?_
    refine WQ.p O.mv ?_
    refine WQ.p O.mv ?_
    refine WQ.p O.ixA ?_
    first | refine WQ.p O.fe ?_ | refine WQ.p O.feR ?_
    refine WQ.p O.ldE ?_
    refine WQ.q (O.call ⟨rfl, rfl⟩ (AV.cons (vs rfl) (AV.nil)) (fun _ w hw => ref_Decimal _ w (by omega) (by omega))) ?_
    refine WQ.p O.addS ?_
    refine WQ.p O.neS ?_
    refine WQ.p O.pkB ?_
    refine WQ.nil ?_
    refine WL.nil (Q.tn ?_)
    refine CW.cond (vt rfl) (fun hc6 => ?_) (fun hc6 => ?_)
    · exfalso; rw [g0, g1, g2] at hc6; simp [lentR, backN] at hc6; rcases hc6 with hq | hq; (omega); (exact hq hdi2)
    try simp only [sk] at hc6
    refine CW.skip (Q.tn ?_)
    refine CW.region ?_
    refine W.p O.mv ?_
    first | refine W.p O.addN ?_ | refine W.p O.add ?_
    refine W.p O.as ?_
    refine WL.nil (Q.bn (Q.tn ?_))
    refine CW.region ?_
    refine W.p O.mv ?_
    first | refine W.p O.addN ?_ | refine W.p O.add ?_
    refine W.p O.as ?_
    refine WL.nil (Q.tn ?_)
    refine nextA (_, _) ?_ ?_
    · try dsimp only
      exact ⟨by omega, by omega, by omega⟩
    · try dsimp only
      omega
  try simp only [sk] at hc4
  refine CW.exit (Q.te (Q.te (Q.bx (Q.tn ?_))))
  refine CW.seq ?_
  refine CW.seq ?_
  refine CW.region ?_
  refine W.p O.as ?_
  refine WL.nil (Q.tn ?_)
  refine CW.block ?_
  refine CW.loopA (X := Int) (fun j => [(7, true, .slice (oa o31) (zRec c ls now 1).1.length c31), (10, true, .int .i64 at_), (13, true, .int .i64 j)]) (fun j => rowL o31 51 (flat encR (zRec c ls now 1).1 p31)) (fun j => 0 ≤ j ∧ j ≤ (zRec c ls now 1).1.length) (fun j => ((zRec c ls now 1).1.length - j).toNat) (0) ?_ ?_
  · exact ⟨by omega, by omega⟩
  rintro j hI
  try dsimp only at hI ⊢
  obtain ⟨j0, j1⟩ := hI
  refine CW.seq ?_
  refine CW.seq ?_
  refine CW.region ?_
  refine W.p O.mv ?_
  refine W.p O.mv ?_
  refine W.p O.lenL ?_
  refine W.p O.lss ?_
  refine WL.nil (Q.tn ?_)
  refine CW.cond (vt rfl) (fun hc7 => ?_) (fun hc7 => ?_)
  · try simp only [sk] at hc7
    have hrm : rrMay ((zRec c ls now 1).1.getD j.toNat dR) = true := recs_may hyes _ (by rw [← hrs]; exact mem_at dR j0 hc7)
    have hnm := may_nm3 hrm
    refine CW.skip (Q.tn ?_)
    refine CW.seq ?_
    refine CW.block ?_
    refine CW.seq ?_
    refine CW.region ?_
    refine W.p O.mv ?_
    refine W.p O.mv ?_
    refine W.p O.ixA ?_
    refine W.p O.ldsE ?_
    refine W.q (O.call ⟨rfl, rfl⟩ (AV.cons (vt rfl) (AV.nil)) (fun _ w hw => ref_RrMay _ w hnm.1 hnm.2)) ?_
    refine W.p O.nt ?_
    refine WL.nil (Q.tn ?_)
    refine CW.cond (vt rfl) (fun hc8 => ?_) (fun hc8 => ?_)
    · exfalso; rw [hrm] at hc8; cases hc8
    try simp only [sk] at hc8
    refine CW.skip (Q.bn (Q.tn ?_))
    refine CW.region ?_
    refine W.p O.mv ?_
    first | refine W.p O.addN ?_ | refine W.p O.add ?_
    refine W.p O.as ?_
    refine WL.nil (Q.tn ?_)
    refine nextA (_) ?_ ?_
    · try dsimp only
      exact ⟨by omega, by omega⟩
    · try dsimp only
      omega
  try simp only [sk] at hc7
  refine CW.exit (Q.te (Q.te (Q.bx (Q.tn ?_))))
  refine CW.seq ?_
  refine CW.region ?_
  refine W.p O.mv ?_
  refine W.p O.mv ?_
  refine W.p O.lenL ?_
  refine W.p O.eqI ?_
  refine W.p O.as ?_
  refine WL.nil (Q.tn ?_)
  refine CW.ret ?_
  refine ⟨_, [], (RVs.tmp rfl RVs.nil), List.nil_sublist _, ?_⟩
  refine ⟨congrArg Value.bool ?_, rfl⟩
  rw [hat, List.take_of_length_le (by omega)]; exact decide_eq_true (by omega)
end Go.Proofs.YtagiajnpnjakhaaDoor
