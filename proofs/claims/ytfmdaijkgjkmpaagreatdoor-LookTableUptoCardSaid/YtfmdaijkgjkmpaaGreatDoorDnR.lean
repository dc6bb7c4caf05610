/- Several texts in one (DnR). Their conditions are their own. -/
import Derived.Test.YtfmdaijkgjkmpaaGreatDoorDnA
import Derived.Test.YtfmdaijkgjkmpaaGreatDoorRrRef
import Derived.Test.YtfmdaijkgjkmpaaGreatDoorDnD
set_option linter.unusedVariables false
set_option linter.unusedSimpArgs false
namespace Go.Proofs.YtfmdaijkgjkmpaaGreatDoor
open Go Go.RowKit
set_option maxRecDepth 100000 in
theorem ref_flag (b : Bool) (x : Int) (w : World) : Fn Tryz.prog 91 [.bool b, .int .i64 x] w [] fun v L' => v = .int .i64 (flg b x) ∧ L' = [] := by
 refine Fn.enter Tryz.func91 rfl rfl rfl rfl (Holds.nil w) ?_
 refine W.go ?_
 refine CW.cond (vt rfl) (fun hc1 => ?_) (fun hc1 => ?_)
 ·try simp only [sk] at hc1
  refine W.go ?_
  refine ⟨_, [], (RVs.tmp rfl RVs.nil), List.nil_sublist _, ?_⟩
  refine ⟨?_, rfl⟩
  rw [show b = true from hc1]; rfl
 try simp only [sk] at hc1
 refine W.go ?_
 refine ⟨_, [], (RVs.tmp rfl RVs.nil), List.nil_sublist _, ?_⟩
 refine ⟨?_, rfl⟩
 rw [show b = false from hc1]; rfl
theorem inR_lt {x t : Int} : inR x 0 t = (decide (0 ≤ x) && decide (x < t + 1)) := by
 rw [inR, show decide (x ≤ t) = decide (x < t + 1) from decide_eq_decide.2 (by omega)]
theorem ref_w16 (x : Int) (w : World) : Fn Tryz.prog 89 [.int .i64 x, .int .i64 16] w [] fun v L' => v = .bool (inR x 0 65535) ∧ L' = [] := by
 rw [inR_lt]; exact ref_within x 16 w (by decide)
theorem ref_w4 (x : Int) (w : World) : Fn Tryz.prog 89 [.int .i64 x, .int .i64 4] w [] fun v L' => v = .bool (inR x 0 15) ∧ L' = [] := by
 rw [inR_lt]; exact ref_within x 4 w (by decide)
set_option maxRecDepth 100000 in
theorem ref_rrsMay (rs : List RR) (a : Option Addr) (c : Nat) (w : World) (h : In w a (rs.flatMap encR)) (hn : rs.length ≤ 1048576) (hk : NmB rs 4398046511104) : Fn Tryz.prog 90 [.slice a rs.length c] w [] fun v L' => v = .bool (rsMay rs) ∧ L' = [] := by
 have row := Row.ofE (dv := dR) h
 refine Fn.enter Tryz.func90 rfl rfl rfl rfl (Holds.nil w) ?_
 refine W.go ?_
 refine CW.loopA (X := Int) (fun i => [(0, true, .slice a rs.length c), (3, true, .int .i64 i)]) (fun i => []) (fun i => 0 ≤ i ∧ i ≤ rs.length ∧ (rs.take i.toNat).all rrMay = true) (fun i => (rs.length - i).toNat) (0) ?_ ?_
 ·exact ⟨by omega, by omega, rfl⟩
 rintro i hI
 try dsimp only at hI ⊢
 obtain ⟨h0, h1, hr⟩ := hI
 refine W.go ?_
 refine CW.cond (vt rfl) (fun hc1 => ?_) (fun hc1 => ?_)
 ·try simp only [sk] at hc1
  have hkk := hk _ (mem_at dR h0 hc1)
  refine W.go ?_
  refine W.q (O.call ⟨rfl, rfl⟩ (AV.cons (vt rfl) (AV.nil)) (fun _ w hw => ref_RrMay (rs.getD i.toNat dR) w hkk.1 hkk.2)) ?_
  refine W.go ?_
  refine CW.cond (vt rfl) (fun hc2 => ?_) (fun hc2 => ?_)
  ·try simp only [sk] at hc2
   refine W.go ?_
   refine ⟨_, [], (RVs.tmp rfl RVs.nil), List.nil_sublist _, ?_⟩
   refine ⟨congrArg Value.bool ?_, rfl⟩
   rw [rsMay, show rs.all rrMay = false from List.all_eq_false.2 ⟨_, mem_at dR h0 hc1, by rw [hc2]; decide⟩, Bool.and_false]
  try simp only [sk] at hc2
  refine W.go ?_
  refine nextA (_) ?_ ?_
  ·try dsimp only
   exact ⟨by omega, by omega, by rw [take_at' dR h0 hc1, List.all_append, hr]; simp only [List.all_cons, hc2, List.all_nil, Bool.and_true]⟩
  ·try dsimp only
   omega
 try simp only [sk] at hc1
 refine W.go ?_
 refine ⟨_, [], (RVs.tmp rfl RVs.nil), List.nil_sublist _, ?_⟩
 refine ⟨congrArg Value.bool ?_, rfl⟩
 rw [List.take_of_length_le (by omega)] at hr
 rw [rsMay, hr, Bool.and_true]; exact decide_eq_decide.2 (by omega)
set_option maxRecDepth 100000 in
theorem ref_DnsMay (m : Dn) (q a s d : Sl) (w : World) (h : DnIn w m q a s d) (hz : DnSz m 4398046511104) : Fn Tryz.prog 61 [vDn m q a s d] w [] fun v L' => v = .bool (dnMay m) ∧ L' = [] := by
 have row := Row.ofE (dv := dQ) h.hq
 have hq2 := hz.hq.1
 refine Fn.enter Tryz.func61 rfl rfl rfl rfl (Holds.nil w) ?_
 refine W.go ?_
 refine W.bx rfl (vt rfl) rfl fun b1 => ?_
 refine W.go ?_
 refine CW.loopA (X := Int) (fun i => [(1, true, .pointer (some ⟨b1, 0, none⟩)), (3, true, .int .i64 i)]) (fun i => [(b1, .cells (encDn m q a s d).toArray 53 (0, 0))]) (fun i => 0 ≤ i ∧ i ≤ m.qs.length ∧ (m.qs.take i.toNat).all qMay = true) (fun i => (m.qs.length - i).toNat) (0) ?_ ?_
 ·exact ⟨by omega, by omega, rfl⟩
 rintro i hI
 try dsimp only at hI ⊢
 obtain ⟨h0, h1, hr⟩ := hI
 refine W.go ?_
 refine CW.cond (vt rfl) (fun hc1 => ?_) (fun hc1 => ?_)
 ·try simp only [sk] at hc1
  have hkk := hz.hq.2 _ (mem_at dQ h0 hc1)
  refine CW.skip (Q.tn ?_)
  refine CW.seq ?_
  refine CW.block ?_
  refine CW.seq ?_
  refine CW.region ?_
  first | refine W.p O.fb ?_ | refine W.p O.fa ?_
  refine W.p O.ld ?_
  refine W.p O.mv ?_
  refine W.p O.ixA ?_
  first | refine W.p O.fe ?_ | refine W.p O.feR ?_
  refine W.go ?_
  refine W.q (O.call ⟨rfl, rfl⟩ (AV.cons (vt rfl) (AV.nil)) (fun _ w hw => ref_NameMay _ w hkk)) ?_
  refine W.p O.nt ?_
  refine W.p O.mv ?_
  first | refine W.p O.fb ?_ | refine W.p O.fa ?_
  refine W.p O.ld ?_
  refine W.p O.mv ?_
  refine W.p O.ixA ?_
  first | refine W.p O.fe ?_ | refine W.p O.feR ?_
  refine W.go ?_
  refine W.q (O.call ⟨rfl, rfl⟩ (AV.cons (vs rfl) (AV.cons (vt rfl) (AV.nil))) (fun _ w hw => ref_w16 _ w)) ?_
  refine W.go ?_
  refine CW.cond (vt rfl) (fun hc2 => ?_) (fun hc2 => ?_)
  ·try simp only [sk] at hc2
   refine W.go ?_
   refine ⟨_, [], (RVs.tmp rfl RVs.nil), List.nil_sublist _, ?_⟩
   refine ⟨congrArg Value.bool ?_, rfl⟩
   have hno : m.qs.all qMay = false := List.all_eq_false.2 ⟨_, mem_at dQ h0 hc1, by rw [qMay]; rcases hc2 with h | h; (rw [h]; simp); (rw [h]; simp)⟩
   rw [dnMay, hno, Bool.and_false, Bool.false_and]
  try simp only [sk] at hc2
  refine W.go ?_
  refine nextA (_) ?_ ?_
  ·try dsimp only
   refine ⟨by omega, by omega, ?_⟩
   rw [take_at' dQ h0 hc1, List.all_append, hr]; simp only [List.all_cons, List.all_nil, Bool.and_true, Bool.true_and, qMay]
   rw [hc2.1, hc2.2]; rfl
  ·try dsimp only
   omega
 try simp only [sk] at hc1
 refine W.go ?_
 refine W.q (O.call ⟨rfl, rfl⟩ (AV.cons (vt rfl) (AV.cons (vt rfl) (AV.nil))) (fun _ w hw => ref_w16 _ w)) ?_
 refine W.go ?_
 refine W.q (O.call ⟨rfl, rfl⟩ (AV.cons (vs rfl) (AV.cons (vt rfl) (AV.nil))) (fun _ w hw => ref_w4 _ w)) ?_
 refine W.go ?_
 refine W.q (O.call ⟨rfl, rfl⟩ (AV.cons (vs rfl) (AV.cons (vt rfl) (AV.nil))) (fun _ w hw => ref_w4 _ w)) ?_
 refine W.go ?_
 refine W.q (O.call ⟨rfl, rfl⟩ (AV.cons (vs rfl) (AV.nil)) (fun _ w hw => ref_rrsMay m.an _ _ w (h.ha.upd (L0 := []) hw) hz.ha.1 hz.ha.2)) ?_
 refine W.go ?_
 refine W.q (O.call ⟨rfl, rfl⟩ (AV.cons (vs rfl) (AV.nil)) (fun _ w hw => ref_rrsMay m.se _ _ w (h.hs.upd (L0 := []) hw) hz.hs.1 hz.hs.2)) ?_
 refine W.go ?_
 refine W.q (O.call ⟨rfl, rfl⟩ (AV.cons (vs rfl) (AV.nil)) (fun _ w hw => ref_rrsMay m.ad _ _ w (h.hd.upd (L0 := []) hw) hz.hd.1 hz.hd.2)) ?_
 refine W.go ?_
 refine ⟨_, [], (RVs.tmp rfl RVs.nil), List.nil_sublist _, ?_⟩
 refine ⟨congrArg Value.bool ?_, rfl⟩
 rw [List.take_of_length_le (by omega)] at hr
 rw [dnMay, hr, show inR m.size 512 65535 = (decide (512 ≤ m.size) && decide (m.size ≤ 65535)) from rfl, show decide ((m.qs.length : Int) ≤ 4) = decide (m.qs.length ≤ 4) from decide_eq_decide.2 (by omega)]
 generalize inR m.id 0 65535 = x1; generalize inR m.op 0 15 = x2; generalize inR m.code 0 15 = x3; generalize decide (m.qs.length ≤ 4) = x4; generalize rsMay m.an = x5; generalize rsMay m.se = x6; generalize rsMay m.ad = x7; generalize decide (m.size = 0) = x8; generalize decide (512 ≤ m.size) = x9; generalize decide (m.size ≤ 65535) = xa
 cases x1 <;> cases x2 <;> cases x3 <;> cases x4 <;> cases x5 <;> cases x6 <;> cases x7 <;> cases x8 <;> cases x9 <;> cases xa <;> rfl
theorem may_nm2 {r : RR} (h : rrMay r = true) : r.name.length ≤ 4398046511104 ∧ r.target.length ≤ 4398046511104 := by
 obtain ⟨hb, hn, _, _⟩ := may_parts h
 have h1 := nmMay_len hn
 refine ⟨by omega, ?_⟩
 have : r.target.length ≤ 72 := by
  unfold rrBody at hb
  split at hb
  ·simp only [Bool.and_eq_true, decide_eq_true_eq] at hb; rw [hb.1.1.1]; simp
  split at hb
  ·simp only [Bool.and_eq_true, decide_eq_true_eq] at hb; exact nmMay_len hb.2
  split at hb
  ·simp only [Bool.and_eq_true, decide_eq_true_eq] at hb; exact nmMay_len hb.1.2
  split at hb
  ·simp only [Bool.and_eq_true, decide_eq_true_eq] at hb; rw [hb.1.1.2]; simp
  ·cases hb
 omega
theorem flg_le (b : Bool) {x : Int} (h : 0 ≤ x) : 0 ≤ flg b x ∧ flg b x ≤ x := by cases b <;> simp [flg, h]
set_option maxRecDepth 100000 in
set_option maxHeartbeats 2000000 in
theorem ref_written (m : Dn) (q a s d : Sl) (w : World) (h : DnIn w m q a s d) (hm : dnMay m = true) : Fn Tryz.prog 62 [vDn m q a s d] w [] fun v L' => v = .string (S (dWrite m)) ∧ L' = [] := by
 obtain ⟨han, hse, had, hid, hop, hco, hqs, hsz⟩ := may_d hm
 have hall := dAll_may hm
 have f1 := flg_le m.resp (x := 32768) (by decide)
 have f2 := flg_le m.auth (x := 1024) (by decide)
 have f3 := flg_le m.trunc (x := 512) (by decide)
 have f4 := flg_le m.recu (x := 256) (by decide)
 have f5 := flg_le (decide (0 < m.size)) (x := 1) (by decide)
 have hs0 : decide (0 < m.size) = !decide (m.size = 0) := by
  rcases hsz with h | h
  ·rw [h]; rfl
  ·rw [decide_eq_true (by omega), decide_eq_false (by omega)]; rfl
 have hb1 : ∀ x : Int, (beb x 2).length = 2 := fun x => beb_len 2 x
 have hb3 : (beb 0 4).length = 4 := rfl
 have hb6 : ([0] : List UInt8).length = 1 := rfl
 have rowq := Row.ofE (dv := dQ) h.hq
 have rowa := Row.ofE (dv := dR) h.ha
 have rows := Row.ofE (dv := dR) h.hs
 have rowd := Row.ofE (dv := dR) h.hd
 refine Fn.enter Tryz.func62 rfl rfl rfl rfl (Holds.nil w) ?_
 refine W.go ?_
 refine W.bx rfl (vt rfl) rfl fun b1 => ?_
 refine W.go ?_
 refine CW.draw 23 rfl (by kernel_rfl) ?_
 first | refine WQ.p O.fb ?_ | refine WQ.p O.fa ?_
 refine WQ.p O.ld ?_
 refine WQ.q (O.call ⟨rfl, rfl⟩ (AV.cons (vt rfl) (AV.cons (vt rfl) (AV.nil))) (fun _ w hw => ref_flag _ _ w)) ?_
 first | refine WQ.p O.fb ?_ | refine WQ.p O.fa ?_
 refine WQ.p O.ld ?_
 first | refine WQ.p O.mulN ?_ | refine WQ.p O.mul ?_
 first | refine WQ.p O.addN ?_ | refine WQ.p O.add ?_
 first | refine WQ.p O.fb ?_ | refine WQ.p O.fa ?_
 refine WQ.p O.ld ?_
 refine WQ.q (O.call ⟨rfl, rfl⟩ (AV.cons (vt rfl) (AV.cons (vt rfl) (AV.nil))) (fun _ w hw => ref_flag _ _ w)) ?_
 first | refine WQ.p O.addN ?_ | refine WQ.p O.add ?_
 first | refine WQ.p O.fb ?_ | refine WQ.p O.fa ?_
 refine WQ.p O.ld ?_
 refine WQ.q (O.call ⟨rfl, rfl⟩ (AV.cons (vt rfl) (AV.cons (vt rfl) (AV.nil))) (fun _ w hw => ref_flag _ _ w)) ?_
 first | refine WQ.p O.addN ?_ | refine WQ.p O.add ?_
 first | refine WQ.p O.fb ?_ | refine WQ.p O.fa ?_
 refine WQ.p O.ld ?_
 refine WQ.q (O.call ⟨rfl, rfl⟩ (AV.cons (vt rfl) (AV.cons (vt rfl) (AV.nil))) (fun _ w hw => ref_flag _ _ w)) ?_
 first | refine WQ.p O.addN ?_ | refine WQ.p O.add ?_
 first | refine WQ.p O.fb ?_ | refine WQ.p O.fa ?_
 refine WQ.p O.ld ?_
 first | refine WQ.p O.addN ?_ | refine WQ.p O.add ?_
 refine WQ.p O.as ?_
 refine WQ.nil ?_
 refine WL.nil (Q.tn ?_)
 refine CW.seq ?_
 refine CW.draw 32 rfl (by kernel_rfl) ?_
 first | refine WQ.p O.fb ?_ | refine WQ.p O.fa ?_
 refine WQ.p O.ld ?_
 refine WQ.q (O.call ⟨rfl, rfl⟩ (AV.cons (vt rfl) (AV.cons (vt rfl) (AV.nil))) (fun _ w hw => ref_Num _ 2 w (by decide) (by decide))) ?_
 refine WQ.p O.mv ?_
 refine WQ.q (O.call ⟨rfl, rfl⟩ (AV.cons (vt rfl) (AV.cons (vt rfl) (AV.nil))) (fun _ w hw => ref_Num _ 2 w (by decide) (by decide))) ?_
 refine WQ.p O.addS ?_
 first | refine WQ.p O.fb ?_ | refine WQ.p O.fa ?_
 refine WQ.p O.ld ?_
 refine WQ.p O.lenL ?_
 refine WQ.q (O.call ⟨rfl, rfl⟩ (AV.cons (vt rfl) (AV.cons (vt rfl) (AV.nil))) (fun _ w hw => ref_Num _ 2 w (by decide) (by decide))) ?_
 refine WQ.p O.addS ?_
 first | refine WQ.p O.fb ?_ | refine WQ.p O.fa ?_
 refine WQ.p O.ld ?_
 refine WQ.p O.lenL ?_
 refine WQ.q (O.call ⟨rfl, rfl⟩ (AV.cons (vt rfl) (AV.cons (vt rfl) (AV.nil))) (fun _ w hw => ref_Num _ 2 w (by decide) (by decide))) ?_
 refine WQ.p O.addS ?_
 first | refine WQ.p O.fb ?_ | refine WQ.p O.fa ?_
 refine WQ.p O.ld ?_
 refine WQ.p O.lenL ?_
 refine WQ.q (O.call ⟨rfl, rfl⟩ (AV.cons (vt rfl) (AV.cons (vt rfl) (AV.nil))) (fun _ w hw => ref_Num _ 2 w (by decide) (by decide))) ?_
 refine WQ.p O.addS ?_
 first | refine WQ.p O.fb ?_ | refine WQ.p O.fa ?_
 refine WQ.p O.ld ?_
 refine WQ.p O.lenL ?_
 first | refine WQ.p O.fb ?_ | refine WQ.p O.fa ?_
 refine WQ.p O.ld ?_
 refine WQ.p O.gtr ?_
 refine WQ.q (O.call ⟨rfl, rfl⟩ (AV.cons (vt rfl) (AV.cons (vt rfl) (AV.nil))) (fun _ w hw => ref_flag _ _ w)) ?_
 first | refine WQ.p O.addN ?_ | refine WQ.p O.add ?_
 refine WQ.q (O.call ⟨rfl, rfl⟩ (AV.cons (vt rfl) (AV.cons (vt rfl) (AV.nil))) (fun _ w hw => ref_Num _ 2 w (by decide) (by decide))) ?_
 refine WQ.p O.addS ?_
 refine WQ.p O.as ?_
 refine WQ.nil ?_
 refine WL.nil (Q.tn ?_)
 refine CW.seq ?_
 refine CW.region ?_
 refine W.p O.as ?_
 refine WL.nil (Q.tn ?_)
 refine CW.seq ?_
 refine CW.seq ?_
 refine CW.region ?_
 refine W.p O.as ?_
 refine WL.nil (Q.tn ?_)
 refine CW.block ?_
 rw [hs0]
 refine CW.loopA (X := Int × (List UInt8 × List Kn) × (Option Nat) × Nat × (List Value)) (fun ⟨i, st, o, cc, sp⟩ => [(1, true, .pointer (some ⟨b1, 0, none⟩)), (4, true, .string (S st.1)), (5, true, .slice (oa o) st.2.length cc), (6, true, .int .i64 i)]) (fun ⟨i, st, o, cc, sp⟩ => rowL o 167 (flat encK st.2 sp) ++ [(b1, .cells (encDn m q a s d).toArray 53 (0, 0))]) (fun ⟨i, st, o, cc, sp⟩ => 0 ≤ i ∧ i ≤ m.qs.length ∧ OwnOk o cc 2 st.2.length sp.length ∧ st = dQk m i ∧ st.2.length ≤ 8 * i) (fun ⟨i, st, o, cc, sp⟩ => (m.qs.length - i).toNat) (0, (dHd m, []), none, 0, []) ?_ ?_
 ·exact ⟨by omega, by omega, OwnOk.nil, rfl, by simp⟩
 rintro ⟨i, st, o, cc, sp⟩ hI
 try dsimp only at hI ⊢
 obtain ⟨h0, h1, ok8, hst, hkl⟩ := hI
 have nk8 := ok8.nk (α := Kn) (xs := st.2)
 have hgo := dQk_ok hm i
 rw [← hst] at hgo
 have hgn := good_names hgo.1
 refine W.go ?_
 refine CW.cond (vt rfl) (fun hc1 => ?_) (fun hc1 => ?_)
 ·try simp only [sk] at hc1
  have hnm := (hqs.2 _ (mem_at dQ h0 hc1)).1
  have hnl := nmMay_len hnm
  have hq9 := (nmPut_more st.1.length st.2 (m.qs.getD i.toNat dQ).name).1
  have hq8 : (nmPut st.1.length st.2 (m.qs[i.toNat]?.getD dQ).name).1.length ≤ 74 := (nmPut_more _ _ _).1
  have hb9 := hb1 (m.qs.getD i.toNat dQ).type
  have hb8 := hb1 1
  refine CW.skip (Q.tn ?_)
  refine CW.seq ?_
  refine CW.block ?_
  refine CW.seq ?_
  refine CW.region ?_
  refine W.p O.mv ?_
  refine W.p O.len ?_
  refine W.p O.mv ?_
  first | refine W.p O.fb ?_ | refine W.p O.fa ?_
  refine W.p O.ld ?_
  refine W.p O.mv ?_
  refine W.p O.ixA ?_
  first | refine W.p O.fe ?_ | refine W.p O.feR ?_
  refine W.go ?_
  refine W.callN (first := []) (cap := []) rfl (vt rfl) (AV.cons (vt rfl) (AV.cons (vt rfl) (AV.cons (vt rfl) (AV.nil)))) (fun w hu => ref_PutName _ st.2 (m.qs.getD i.toNat dQ).name _ _ w (RowL.h _ hu) (by omega) (fun k hk => by have := hgn k hk; omega) (by omega)) ?_; rintro _ _ ⟨p4, q4, r4, rfl, hk4, rfl⟩; have nk4 := hk4.nk
  refine W.p O.mv ?_
  first | refine W.p O.extL ?_ | refine W.p O.ext ?_
  first | refine W.p O.extL ?_ | refine W.p O.ext ?_
  first | refine W.p O.extL ?_ | refine W.p O.ext ?_
  refine W.p O.as ?_
  refine W.p O.as ?_
  refine W.p O.as ?_
  refine WL.nil (Q.tn ?_)
  refine CW.seq ?_
  refine CW.region ?_
  refine W.p O.mv ?_
  refine W.p O.as ?_
  refine WL.nil (Q.tn ?_)
  refine CW.region ?_
  refine W.p O.mv ?_
  refine W.p O.mv ?_
  refine W.p O.addS ?_
  first | refine W.p O.fb ?_ | refine W.p O.fa ?_
  refine W.p O.ld ?_
  refine W.p O.mv ?_
  refine W.p O.ixA ?_
  first | refine W.p O.fe ?_ | refine W.p O.feR ?_
  refine W.go ?_
  refine W.q (O.call ⟨rfl, rfl⟩ (AV.cons (vt rfl) (AV.cons (vt rfl) (AV.nil))) (fun _ w hw => ref_Num _ 2 w (by decide) (by decide))) ?_
  refine W.go ?_
  refine W.q (O.call ⟨rfl, rfl⟩ (AV.cons (vt rfl) (AV.cons (vt rfl) (AV.nil))) (fun _ w hw => ref_Num _ 2 w (by decide) (by decide))) ?_
  refine W.go ?_
  refine nextA (i + 1, (((st.1 ++ (nmPut st.1.length st.2 (m.qs.getD i.toNat dQ).name).1) ++ beb (m.qs.getD i.toNat dQ).type 2) ++ beb 1 2, (nmPut st.1.length st.2 (m.qs.getD i.toNat dQ).name).2.1), p4, q4, r4) ?_ ?_
  ·try dsimp only
   have hq7 := q_ks st (m.qs.getD i.toNat dQ)
   have hq6 : (qPut st (m.qs.getD i.toNat dQ)).2.length = (nmPut st.1.length st.2 (m.qs.getD i.toNat dQ).name).2.1.length := rfl
   refine ⟨by omega, by omega, hk4, ?_, by omega⟩
   rw [dQk_up h0 hc1, ← hst, qPut]; simp only [List.append_assoc]
  ·try dsimp only
   omega
 try simp only [sk] at hc1
 have hst2 : st = dQs m := by rw [hst, dQk, dQs, List.take_of_length_le (by omega)]
 subst hst2
 refine CW.exit (Q.te (Q.te (Q.bx (Q.tn ?_))))
 refine CW.seq ?_
 refine CW.region ?_
 refine W.bs0 encR rfl fun b2 => ?_
 refine W.go ?_
 refine W.ap rfl (vt rfl) (vt rfl) (by first | rfl | omega) (by first | rfl | omega) rfl (by first | assumption | exact OwnOk.nil | exact OwnOk.lit) (by first | omega | (simp; omega)) fun o1 c1 sp1 ok1 ne1 gt1 => ?_
 have nk1 := ok1.nk; have le1 := ok1.2.2.1; try simp only [List.length_append, List.length_cons, List.length_nil] at le1
 refine W.go ?_
 refine W.ap rfl (vt rfl) (vt rfl) (by first | rfl | omega) (by first | rfl | omega) rfl (by first | assumption | exact OwnOk.nil | exact OwnOk.lit) (by first | omega | (simp; omega)) fun o2 c2 sp2 ok2 ne2 gt2 => ?_
 have nk2 := ok2.nk; have le2 := ok2.2.2.1; try simp only [List.length_append, List.length_cons, List.length_nil] at le2
 refine W.go ?_
 refine W.ap rfl (vt rfl) (vt rfl) (by first | rfl | omega) (by first | rfl | omega) rfl (by first | assumption | exact OwnOk.nil | exact OwnOk.lit) (by first | omega | (simp; omega)) fun o3 c3 sp3 ok3 ne3 gt3 => ?_
 have nk3 := ok3.nk; have le3 := ok3.2.2.1; try simp only [List.length_append, List.length_cons, List.length_nil] at le3
 refine W.p O.as ?_
 refine WL.nil (Q.tn ?_)
 refine CW.seq ?_
 refine CW.seq ?_
 refine CW.region ?_
 refine W.p O.as ?_
 refine WL.nil (Q.tn ?_)
 refine CW.block ?_
 have nk33 : NilOk o3 (dAll m) := nk3
 refine CW.permH (L' := rowL o 167 (flat encK (dQs m).2 sp) ++ (((b1, .cells (encDn m q a s d).toArray 53 (0, 0)) : Nat × Obj) :: rowL o3 58 (flat encR (dAll m) sp3))) (List.perm_append_comm.trans (by rw [List.append_assoc]; exact List.Perm.refl _)) ?_
 refine CW.loopA (X := Int × (List UInt8 × List Kn) × (Option Nat) × Nat × (List Value)) (fun ⟨i, st, o, cc, sp⟩ => [(1, true, .pointer (some ⟨b1, 0, none⟩)), (10, true, .slice (oa o3) (dAll m).length c3), (4, true, .string (S st.1)), (5, true, .slice (oa o) st.2.length cc), (11, true, .int .i64 i)]) (fun ⟨i, st, o, cc, sp⟩ => rowL o 167 (flat encK st.2 sp) ++ (((b1, .cells (encDn m q a s d).toArray 53 (0, 0)) : Nat × Obj) :: rowL o3 58 (flat encR (dAll m) sp3))) (fun ⟨i, st, o, cc, sp⟩ => 0 ≤ i ∧ i ≤ (dAll m).length ∧ OwnOk o cc 2 st.2.length sp.length ∧ st = dRk m i ∧ st.2.length ≤ 32 + 1000 * i) (fun ⟨i, st, o, cc, sp⟩ => ((dAll m).length - i).toNat) (0, dQs m, o, cc, sp) ?_ ?_
 ·exact ⟨by omega, by omega, ok8, rfl, by omega⟩
 rintro ⟨i, st, o, cc, sp⟩ hI
 try dsimp only at hI ⊢
 obtain ⟨h0, h1, ok9, hst, hkl⟩ := hI
 have nk9 := ok9.nk (α := Kn) (xs := st.2)
 have hgo := dRk_ok hm i
 rw [← hst] at hgo
 have hgn := good_names hgo.1
 refine W.go ?_
 refine CW.cond (vt rfl) (fun hc2 => ?_) (fun hc2 => ?_)
 ·try simp only [sk] at hc2
  have hq9 := rr_len2 st.1.length st.2 ((dAll m).getD i.toNat dR)
  have hnm := may_nm2 (hall.2 _ (mem_at dR h0 hc2))
  refine W.go ?_
  refine W.callN (first := []) (cap := []) rfl (vt rfl) (AV.cons (vt rfl) (AV.cons (vt rfl) (AV.cons (vt rfl) (AV.nil)))) (fun w hu => ref_PutRr _ st.2 ((dAll m).getD i.toNat dR) _ _ w (RowL.h _ hu) (by omega) (fun k hk => by have := hgn k hk; omega) hnm.1 hnm.2) ?_; rintro _ _ ⟨p4, q4, r4, rfl, hk4, rfl⟩; have nk4 := hk4.nk
  refine W.go ?_
  refine nextA (i + 1, rPut st ((dAll m).getD i.toNat dR), p4, q4, r4) ?_ ?_
  ·try dsimp only
   have hq8 := r_ks st ((dAll m).getD i.toNat dR)
   exact ⟨by omega, by omega, hk4, by rw [dRk_up h0 hc2, hst], by omega⟩
  ·try dsimp only
   omega
 try simp only [sk] at hc2
 have hst3 : st = dRs m := by rw [hst, dRk, dRs, List.take_of_length_le (by omega)]
 subst hst3
 have hb9 := hb1 41
 have hb8 := hb1 m.size
 have hb7 := hb1 0
 refine W.go ?_
 refine CW.cond (vt rfl) (fun hc3 => ?_) (fun hc3 => ?_)
 ·try simp only [sk] at hc3
  refine CW.draw 12 rfl (by kernel_rfl) ?_
  refine WQ.p O.mv ?_
  refine WQ.p O.addS ?_
  refine WQ.q (O.call ⟨rfl, rfl⟩ (AV.cons (vt rfl) (AV.cons (vt rfl) (AV.nil))) (fun _ w hw => ref_Num _ 2 w (by decide) (by decide))) ?_
  refine WQ.p O.addS ?_
  first | refine WQ.p O.fb ?_ | refine WQ.p O.fa ?_
  refine WQ.p O.ld ?_
  refine WQ.q (O.call ⟨rfl, rfl⟩ (AV.cons (vt rfl) (AV.cons (vt rfl) (AV.nil))) (fun _ w hw => ref_Num _ 2 w (by decide) (by decide))) ?_
  refine WQ.p O.addS ?_
  refine WQ.q (O.call ⟨rfl, rfl⟩ (AV.cons (vt rfl) (AV.cons (vt rfl) (AV.nil))) (fun _ w hw => ref_Num _ 4 w (by decide) (by decide))) ?_
  refine WQ.p O.addS ?_
  refine WQ.q (O.call ⟨rfl, rfl⟩ (AV.cons (vt rfl) (AV.cons (vt rfl) (AV.nil))) (fun _ w hw => ref_Num _ 2 w (by decide) (by decide))) ?_
  refine WQ.p O.addS ?_
  refine WQ.nil ?_
  refine W.p O.as ?_
  refine W.go ?_
  refine ⟨_, [], (RVs.tmp rfl RVs.nil), List.nil_sublist _, ?_⟩
  refine ⟨congrArg (fun x => Value.string (S x)) ?_, rfl⟩
  rw [dWrite, dOpt, if_neg (by omega)]; simp only [List.append_assoc]
 try simp only [sk] at hc3
 refine W.go ?_
 refine ⟨_, [], (RVs.tmp rfl RVs.nil), List.nil_sublist _, ?_⟩
 refine ⟨congrArg (fun x => Value.string (S x)) ?_, rfl⟩
 rw [dWrite, dOpt, if_pos (by omega), List.append_nil]
set_option maxRecDepth 100000 in
theorem ref_PutDns (m : Dn) (q a s d : Sl) (most : Int) (w : World) (hr : DnIn w m q a s d) (hz : DnSz m 4398046511104) : Fn Tryz.prog 29 [vDn m q a s d, .int .i64 most] w [] fun v L' => v = .tuple #[.string (S (dnPut m most).1), .int .i64 (dnPut m most).2] ∧ L' = [] := by
 refine Fn.enter Tryz.func29 rfl rfl rfl rfl (Holds.nil w) ?_
 refine W.go ?_
 refine W.bx rfl (vt rfl) rfl fun b1 => ?_
 refine W.go ?_
 refine W.q (O.call ⟨rfl, rfl⟩ (AV.cons (vt rfl) (AV.nil)) (fun _ w hw => ref_DnsMay m q a s d w (hr.upd hw) hz)) ?_
 refine W.go ?_
 refine CW.cond (vt rfl) (fun hc1 => ?_) (fun hc1 => ?_)
 ·try simp only [sk] at hc1
  refine W.go ?_
  refine ⟨_, [], (RVs.tmp rfl (RVs.tmp rfl RVs.nil)), List.nil_sublist _, ?_⟩
  refine ⟨?_, rfl⟩
  have hyes : dnMay m = false ∨ inR most 12 65535 = false := by rcases hc1 with (h | h) | h; exact .inl h; (right; rw [inR, decide_eq_false (by omega)]; rfl); (right; rw [inR, decide_eq_false (show ¬ most ≤ 65535 by omega), Bool.and_false])
  rw [dnPut, if_pos hyes]; rfl
 try simp only [sk] at hc1
 have hm1 : dnMay m = true := hc1.1.1
 have hno : ¬ (dnMay m = false ∨ inR most 12 65535 = false) := by rintro (h | h); (rw [hm1] at h; cases h); (rw [inR, decide_eq_true (by omega), decide_eq_true (by omega)] at h; cases h)
 have hb1 := (dn_len hm1).2.2.1
 have hb2 := (dn_len (may_cut hm1)).2.2.1
 refine W.go ?_
 refine W.q (O.call ⟨rfl, rfl⟩ (AV.cons (vt rfl) (AV.nil)) (fun _ w hw => ref_written m q a s d w (hr.upd hw) hm1)) ?_
 refine W.go ?_
 refine CW.cond (vt rfl) (fun hc2 => ?_) (fun hc2 => ?_)
 ·try simp only [sk] at hc2
  refine W.go ?_
  refine ⟨_, [], (RVs.tmp rfl (RVs.tmp rfl RVs.nil)), List.nil_sublist _, ?_⟩
  refine ⟨?_, rfl⟩
  rw [dnPut, if_neg hno, if_pos (by omega)]; rfl
 try simp only [sk] at hc2
 refine W.go ?_
 refine W.st (vt rfl) (vt rfl) rfl ?_
 refine W.go ?_
 first | refine W.st (vt rfl) (vt rfl) rfl ?_ | refine W.st (u := .slice _ _ _) (vt rfl) (vt rfl) rfl ?_
 refine W.go ?_
 first | refine W.st (vt rfl) (vt rfl) rfl ?_ | refine W.st (u := .slice _ _ _) (vt rfl) (vt rfl) rfl ?_
 refine W.go ?_
 first | refine W.st (vt rfl) (vt rfl) rfl ?_ | refine W.st (u := .slice _ _ _) (vt rfl) (vt rfl) rfl ?_
 refine W.go ?_
 refine W.q (O.call ⟨rfl, rfl⟩ (AV.cons (vt rfl) (AV.nil)) (fun _ w hw => ref_written (cutD m) q nS nS nS w ⟨hr.hq.upd (L0 := []) hw, In.nil, In.nil, In.nil⟩ (may_cut hm1))) ?_
 refine W.go ?_
 refine CW.cond (vt rfl) (fun hc3 => ?_) (fun hc3 => ?_)
 ·try simp only [sk] at hc3
  refine W.go ?_
  refine ⟨_, [], (RVs.tmp rfl (RVs.tmp rfl RVs.nil)), List.nil_sublist _, ?_⟩
  refine ⟨?_, rfl⟩
  rw [dnPut, if_neg hno, if_neg (by omega), if_neg (by omega)]; rfl
 try simp only [sk] at hc3
 refine W.go ?_
 refine ⟨_, [], (RVs.tmp rfl (RVs.tmp rfl RVs.nil)), List.nil_sublist _, ?_⟩
 refine ⟨?_, rfl⟩
 rw [dnPut, if_neg hno, if_neg (by omega), if_pos (by omega)]; rfl
end Go.Proofs.YtfmdaijkgjkmpaaGreatDoor

set_option linter.unusedVariables false
set_option linter.unusedSimpArgs false
namespace Go.Proofs.YtfmdaijkgjkmpaaGreatDoor
open Go Go.RowKit
abbrev MmO (b : Nat) (s : List UInt8) (t : TS) : Nat × Obj := (b, .cells [.string (S s), .int .i64 t.at_, .bool t.bad].toArray 98 (0, 0))
theorem beG_ok {s : List UInt8} {p k : Int} (h : (beG s p k).2 = 0) : (k = 1 ∨ k = 2 ∨ k = 4) ∧ 0 ≤ p ∧ p + k ≤ s.length := by
 unfold beG at h
 split at h
 ·cases h
 ·split at h
  ·cases h
  ·rename_i h1 h2; omega
set_option maxRecDepth 100000 in
theorem ref_nu {b : Nat} {s : List UInt8} {t : TS} (w : World) (hL : Holds [MmO b s t] w) (hs : s.length ≤ 4398046511104) :
  Fn Tryz.prog 57 [.pointer (some ⟨b, 0, none⟩), .int .i64 2] w [MmO b s t] fun v L' => v = .int .i64 (nuR s 2 t).1 ∧ L' = [MmO b s (nuR s 2 t).2] := by
 refine Fn.enter Tryz.func57 rfl rfl rfl rfl hL ?_
 refine W.go ?_
 refine CW.draw 15 rfl (by kernel_rfl) ?_
 refine WQ.p O.mv ?_
 refine WQ.p O.nc ?_
 first | refine WQ.p O.fb ?_ | refine WQ.p O.fa ?_
 refine WQ.p O.ld ?_
 refine WQ.p O.mv ?_
 refine WQ.p O.nc ?_
 first | refine WQ.p O.fb ?_ | refine WQ.p O.fa ?_
 refine WQ.p O.ld ?_
 refine WQ.p O.mv ?_
 refine WQ.q (O.call ⟨rfl, rfl⟩ (AV.cons (vt rfl) (AV.cons (vt rfl) (AV.cons (vt rfl) (AV.nil)))) (fun _ w hw => ref_GetBe s _ _ w (by omega))) ?_
 refine WQ.p O.mv ?_
 first | refine WQ.p O.extL ?_ | refine WQ.p O.ext ?_
 first | refine WQ.p O.extL ?_ | refine WQ.p O.ext ?_
 refine WQ.p O.as ?_
 refine WQ.p O.as ?_
 refine WQ.nil ?_
 refine WL.nil (Q.tn ?_)
 refine W.go ?_
 refine CW.cond (vt rfl) (fun hc1 => ?_) (fun hc1 => ?_)
 ·try simp only [sk] at hc1
  refine W.go ?_
  refine W.st (vt rfl) (vt rfl) rfl ?_
  refine W.go ?_
  refine ⟨_, [MmO b s ⟨t.at_, true⟩], (RVs.tmp rfl RVs.nil), (by repeat (first | exact List.Sublist.refl _ | exact hSub _ | exact List.sublist_append_left _ _ | exact List.nil_sublist _ | refine List.Sublist.append (List.Sublist.refl _) ?_ | apply List.Sublist.cons_cons | apply List.Sublist.cons | exact List.sublist_append_left _ _ | refine List.Sublist.trans ?_ (List.sublist_append_right _ _))), ?_⟩
  rw [nuR, if_pos hc1]; exact ⟨rfl, rfl⟩
 try simp only [sk] at hc1
 have hbe := beG_ok hc1.2
 refine W.go ?_
 first | refine W.st (vt rfl) (vt rfl) rfl ?_ | refine W.st (u := .int _ _) (vt rfl) (vt rfl) rfl ?_
 refine W.go ?_
 refine ⟨_, [MmO b s ⟨t.at_ + 2, t.bad⟩], (RVs.tmp rfl RVs.nil), (by repeat (first | exact List.Sublist.refl _ | exact hSub _ | exact List.sublist_append_left _ _ | exact List.nil_sublist _ | refine List.Sublist.append (List.Sublist.refl _) ?_ | apply List.Sublist.cons_cons | apply List.Sublist.cons | exact List.sublist_append_left _ _ | refine List.Sublist.trans ?_ (List.sublist_append_right _ _))), ?_⟩
 rw [nuR, if_neg (by rintro (h | h); (rw [hc1.1] at h; cases h); exact h hc1.2), hc1.1]; exact ⟨rfl, rfl⟩
set_option maxRecDepth 100000 in
theorem ref_rrs0 {b : Nat} {s : List UInt8} {t : TS} (k : Int) (w : World) (hL : Holds [MmO b s t] w) (hs : s.length ≤ 4398046511104) (hk : k ≤ 65535) :
  Fn Tryz.prog 59 [.pointer (some ⟨b, 0, none⟩), .int .i64 k] w [MmO b s t] fun v L' => ∃ o c sp, v = .slice (oa o) (lpM (rRec s) bigC k.toNat [] t).1.length c ∧ OwnOk o c 7 (lpM (rRec s) bigC k.toNat [] t).1.length (List.length sp) ∧ L' = rowL o 58 (flat encR (lpM (rRec s) bigC k.toNat [] t).1 sp) ++ [MmO b s (lpM (rRec s) bigC k.toNat [] t).2] := by
 refine Fn.enter Tryz.func59 rfl rfl rfl rfl hL ?_
 refine W.go ?_
 refine CW.loopA (X := Int × (List RR) × TS × (Option Nat) × Nat × (List Value)) (fun ⟨i, out, u, o, cc, sp⟩ => [(0, true, .pointer (some ⟨b, 0, none⟩)), (1, true, .int .i64 k), (6, true, .int .i64 i), (5, true, .slice (oa o) out.length cc)]) (fun ⟨i, out, u, o, cc, sp⟩ => rowL o 58 (flat encR out sp) ++ [MmO b s u]) (fun ⟨i, out, u, o, cc, sp⟩ => 0 ≤ i ∧ OwnOk o cc 7 out.length sp.length ∧ lpM (rRec s) bigC (k - i).toNat out u = (lpM (rRec s) bigC k.toNat [] t) ∧ out.length ≤ i ∧ (i = 0 ∨ i ≤ 65535)) (fun ⟨i, out, u, o, cc, sp⟩ => (k - i).toNat) (0, [], t, none, 0, []) ?_ ?_
 ·exact ⟨by omega, OwnOk.nil, by rw [Int.sub_zero], by simp, .inl rfl⟩
 rintro ⟨i, out, u, o, cc, sp⟩ hI
 try dsimp only at hI ⊢
 obtain ⟨h1, ok9, hr, hl, hi⟩ := hI
 have nk9 := ok9.nk (α := RR) (xs := out)
 refine W.go ?_
 refine CW.cond (vt rfl) (fun hc1 => ?_) (fun hc1 => ?_)
 ·try simp only [sk] at hc1
  refine W.go ?_
  refine CW.drawHL rfl ?_
  refine RH.qa 0 rfl (O.mv) ?_
  refine RH.qa 1 rfl (O.nc) ?_
  first | refine RH.qa 2 rfl (O.fb) ?_ | refine RH.qa 2 rfl (O.fa) ?_
  refine RH.qa 3 rfl (O.ld) ?_
  refine RH.qa 4 rfl (O.mv) ?_
  refine RH.qa 5 rfl (O.nc) ?_
  first | refine RH.qa 6 rfl (O.fb) ?_ | refine RH.qa 6 rfl (O.fa) ?_
  refine RH.qa 7 rfl (O.ld) ?_
  refine RH.two (i := 8) (j := 13) (fun _ _ h => h) (by kernel_rfl) rfl rfl ?_ ?_
  ·refine W.q (O.call ⟨rfl, rfl⟩ (AV.cons (vt rfl) (AV.cons (vt rfl) (AV.nil))) (fun _ w hw => ref_GetRr s _ w hs)) ?_
   refine WL.nilQa ?_
   refine RH.qa 9 rfl (O.mv) ?_
   first | refine RH.qa 10 rfl (O.extL) ?_ | refine RH.qa 10 rfl (O.ext) ?_
   first | refine RH.qa 11 rfl (O.extL) ?_ | refine RH.qa 11 rfl (O.ext) ?_
   first | refine RH.qa 12 rfl (O.extL) ?_ | refine RH.qa 12 rfl (O.ext) ?_
   refine RH.one (i := 13) (fun _ _ h => h) (by kernel_rfl) rfl ?_
   refine W.al rfl rfl fun b1 => ?_
   refine WL.nilQa ?_
   refine RH.one (i := 14) (fun _ _ h => h) (by kernel_rfl) rfl ?_
   refine W.st (vt rfl) (vt rfl) rfl ?_
   refine WL.nilQa ?_
   refine RH.qa 15 rfl (O.as) ?_
   refine RH.qa 16 rfl (O.as) ?_
   refine RH.done (by kernel_rfl) (Q.tn ?_)
   refine W.go ?_
   refine W.st (vt rfl) (vt rfl) rfl ?_
   refine W.go ?_
   first | refine W.st (vt rfl) (vt rfl) rfl ?_ | refine W.st (u := .int _ _) (vt rfl) (vt rfl) rfl ?_
   refine WL.nil (Q.tn ?_)
   refine CW.region ?_
   refine W.p O.mv ?_
   refine W.p O.lds ?_
   refine W.bs encR [(rRec s u).1] rfl (PV.cons (vt rfl) (PV.nil)) rfl rfl rfl (by decide) rfl fun b2 => ?_
   refine W.ap rfl (vt rfl) (vt rfl) (by first | rfl | omega) (by first | rfl | omega) rfl (by first | assumption | exact OwnOk.nil | exact OwnOk.lit) (by first | omega | (simp; omega)) fun o1 c1 sp1 ok1 ne1 gt1 => ?_
   have nk1 := ok1.nk; have le1 := ok1.2.2.1; try simp only [List.length_append, List.length_cons, List.length_nil] at le1
   refine W.go ?_
   refine nextA (i + 1, out ++ [(rRec s u).1], (rRec s u).2, _, _, _) ?_ ?_
   ·try dsimp only
    refine ⟨by omega, by assumption, ?_, by simp only [List.length_append, List.length_cons, List.length_nil]; omega, .inr (by omega)⟩
    rw [← hr, lp_step (k := k - i) (by omega) hc1.2 (by show out.length ≤ 1000000; omega), show k - i - 1 = k - (i + 1) by omega]
   ·try dsimp only
    omega
  ·refine W.al rfl rfl fun b3 => ?_
   refine WL.nilQa ?_
   refine RH.one (i := 8) (fun _ _ h => h) (by kernel_rfl) rfl ?_
   refine W.q (O.call ⟨rfl, rfl⟩ (AV.cons (vt rfl) (AV.cons (vt rfl) (AV.nil))) (fun _ w hw => ref_GetRr s _ w hs)) ?_
   refine WL.nilQa ?_
   refine RH.qa 9 rfl (O.mv) ?_
   first | refine RH.qa 10 rfl (O.extL) ?_ | refine RH.qa 10 rfl (O.ext) ?_
   first | refine RH.qa 11 rfl (O.extL) ?_ | refine RH.qa 11 rfl (O.ext) ?_
   first | refine RH.qa 12 rfl (O.extL) ?_ | refine RH.qa 12 rfl (O.ext) ?_
   refine RH.one (i := 14) (fun _ _ h => h) (by kernel_rfl) rfl ?_
   refine W.st (vt rfl) (vt rfl) rfl ?_
   refine WL.nilQa ?_
   refine RH.qa 15 rfl (O.as) ?_
   refine RH.qa 16 rfl (O.as) ?_
   refine RH.done (by kernel_rfl) (Q.tn ?_)
   refine W.go ?_
   refine W.st (vt rfl) (vt rfl) rfl ?_
   refine W.go ?_
   first | refine W.st (vt rfl) (vt rfl) rfl ?_ | refine W.st (u := .int _ _) (vt rfl) (vt rfl) rfl ?_
   refine WL.nil (Q.tn ?_)
   refine CW.region ?_
   refine W.p O.mv ?_
   refine W.p O.lds ?_
   refine W.bs encR [(rRec s u).1] rfl (PV.cons (vt rfl) (PV.nil)) rfl rfl rfl (by decide) rfl fun b4 => ?_
   refine W.ap rfl (vt rfl) (vt rfl) (by first | rfl | omega) (by first | rfl | omega) rfl (by first | assumption | exact OwnOk.nil | exact OwnOk.lit) (by first | omega | (simp; omega)) fun o2 c2 sp2 ok2 ne2 gt2 => ?_
   have nk2 := ok2.nk; have le2 := ok2.2.2.1; try simp only [List.length_append, List.length_cons, List.length_nil] at le2
   refine W.go ?_
   refine nextA (i + 1, out ++ [(rRec s u).1], (rRec s u).2, _, _, _) ?_ ?_
   ·try dsimp only
    refine ⟨by omega, by assumption, ?_, by simp only [List.length_append, List.length_cons, List.length_nil]; omega, .inr (by omega)⟩
    rw [← hr, lp_step (k := k - i) (by omega) hc1.2 (by show out.length ≤ 1000000; omega), show k - i - 1 = k - (i + 1) by omega]
   ·try dsimp only
    omega
 try simp only [sk] at hc1
 refine W.go ?_
 refine ⟨_, rowL o 58 (flat encR out sp) ++ [MmO b s u], (RVs.tmp rfl RVs.nil), (by repeat (first | exact List.Sublist.refl _ | exact hSub _ | exact List.sublist_append_left _ _ | exact List.nil_sublist _ | refine List.Sublist.append (List.Sublist.refl _) ?_ | apply List.Sublist.cons_cons | apply List.Sublist.cons | exact List.sublist_append_left _ _ | refine List.Sublist.trans ?_ (List.sublist_append_right _ _))), ?_⟩
 have e : (lpM (rRec s) bigC k.toNat [] t) = (out, u) := by rw [← hr]; exact lp_stop (by rcases hc1 with h | h; exact .inl (by omega); exact .inr (.inl (by simpa using h)))
 rw [e]; exact ⟨o, cc, sp, rfl, ok9, rfl⟩
theorem ref_rrs {b : Nat} {s : List UInt8} {t : TS} (k : Int) (w : World) (hL : Holds [MmO b s t] w) (hs : s.length ≤ 4398046511104) (hk : k ≤ 65535) :
  Fn Tryz.prog 59 [.pointer (some ⟨b, 0, none⟩), .int .i64 k] w [MmO b s t] fun v L' => ∃ o c sp, v = .slice (oa o) (lpM (rRec s) bigC k.toNat [] t).1.length c ∧ OwnOk o c 7 (lpM (rRec s) bigC k.toNat [] t).1.length (List.length sp) ∧ L' = MmO b s (lpM (rRec s) bigC k.toNat [] t).2 :: rowL o 58 (flat encR (lpM (rRec s) bigC k.toNat [] t).1 sp) :=
 Fn.perm (ref_rrs0 k w hL hs hk) fun v L ⟨o, c, sp, h1, h2, h3⟩ => ⟨_, h3 ▸ own_perm, o, c, sp, h1, h2, rfl⟩
def optA (s : List UInt8) (p : Int) : Int × Int × Bool := match optG s p with | some x => (x.1, x.2, true) | none => (0, 0, false)
theorem beG_2 {s : List UInt8} {p : Int} (h0 : 0 ≤ p) (h : p + 2 ≤ s.length) : beG s p 2 = (numS s p (p + 2), 0) := by rw [beG_in (.inr (.inl rfl)) h0 rfl h]; rfl
theorem gt_rng (s : List UInt8) (p : Int) : 0 ≤ (grT (getName s p)) ∧ (grT (getName s p)) ≤ s.length := by
 cases hg : getName s p with
 | err e => exact ⟨Int.le_refl 0, by show (0 : Int) ≤ _; omega⟩
 | ok nm to => have := getName_rng hg; exact ⟨by show 0 ≤ to; omega, this.2.2⟩
theorem optG_ok {s : List UInt8} {p : Int} (h : grE (getName s p) = 0) : optG s p = if grN (getName s p) = [] ∧ (grT (getName s p)) + 10 ≤ s.length ∧ numS s (grT (getName s p)) ((grT (getName s p)) + 2) = 41 ∧ (grT (getName s p)) + 10 + numS s ((grT (getName s p)) + 8) ((grT (getName s p)) + 10) ≤ s.length then some (max (numS s ((grT (getName s p)) + 2) ((grT (getName s p)) + 4)) 512, (grT (getName s p)) + 10 + numS s ((grT (getName s p)) + 8) ((grT (getName s p)) + 10)) else none := by
 unfold optG; rw [gr_ok h]; rfl
theorem optA_no {s : List UInt8} {p : Int} (h : ((((((grE (getName s p) ≠ 0 ∨ (beG s (grT (getName s p)) 2).2 ≠ 0) ∨ (beG s ((grT (getName s p)) + 2) 2).2 ≠ 0) ∨ (beG s ((grT (getName s p)) + 8) 2).2 ≠ 0) ∨ grN (getName s p) ≠ []) ∨ (beG s (grT (getName s p)) 2).1 ≠ 41) ∨ (s.length : Int) < (grT (getName s p)) + 10 + (beG s ((grT (getName s p)) + 8) 2).1)) : optA s p = (0, 0, false) := by
 have hr := gt_rng s p
 have key : optG s p = none := by
  by_cases h0 : grE (getName s p) = 0
  ·rw [optG_ok h0, if_neg]
   rintro ⟨a, b, c, d⟩
   rw [beG_2 hr.1 (by omega), beG_2 (p := (grT (getName s p)) + 2) (by omega) (by omega), beG_2 (p := (grT (getName s p)) + 8) (by omega) (by omega), show (grT (getName s p)) + 8 + 2 = (grT (getName s p)) + 10 by omega] at h
   dsimp only at h
   rcases h with (((((h | h) | h) | h) | h) | h) | h
   ·exact h h0
   ·exact h rfl
   ·exact h rfl
   ·exact h rfl
   ·exact h a
   ·exact h c
   ·omega
  ·unfold optG
   cases hg : getName s p with
   | err e => rfl
   | ok nm to => rw [hg] at h0; exact absurd rfl h0
 rw [optA, key]
theorem optA_yes {s : List UInt8} {p : Int} (h : ((((((grE (getName s p) = 0 ∧ (beG s (grT (getName s p)) 2).2 = 0) ∧ (beG s ((grT (getName s p)) + 2) 2).2 = 0) ∧ (beG s ((grT (getName s p)) + 8) 2).2 = 0) ∧ grN (getName s p) = []) ∧ (beG s (grT (getName s p)) 2).1 = 41) ∧ ¬ (s.length : Int) < (grT (getName s p)) + 10 + (beG s ((grT (getName s p)) + 8) 2).1)) : optA s p = (max (beG s ((grT (getName s p)) + 2) 2).1 512, (grT (getName s p)) + 10 + (beG s ((grT (getName s p)) + 8) 2).1, true) := by
 have hr := gt_rng s p
 obtain ⟨⟨⟨⟨⟨⟨a, b⟩, c⟩, d⟩, e⟩, f⟩, g⟩ := h
 have h8 := (beG_ok d).2.2
 rw [beG_2 hr.1 (by omega)] at f
 rw [beG_2 (p := (grT (getName s p)) + 8) (by omega) (by omega), show (grT (getName s p)) + 8 + 2 = (grT (getName s p)) + 10 by omega] at g ⊢
 rw [beG_2 (p := (grT (getName s p)) + 2) (by omega) (by omega), show (grT (getName s p)) + 2 + 2 = (grT (getName s p)) + 4 by omega]
 dsimp only at f g ⊢
 rw [optA, optG_ok a, if_pos ⟨e, by omega, f, by omega⟩]
set_option maxRecDepth 100000 in
theorem ref_opt {b : Nat} {s : List UInt8} {t : TS} (w : World) (hL : Holds [MmO b s t] w) (hs : s.length ≤ 4398046511104) :
  Fn Tryz.prog 60 [.pointer (some ⟨b, 0, none⟩)] w [MmO b s t] fun v L' => v = .tuple #[.int .i64 (optA s t.at_).1, .int .i64 (optA s t.at_).2.1, .bool (optA s t.at_).2.2] ∧ L' = [MmO b s t] := by
 have hr := gt_rng s t.at_
 have hk := beG_rng s (grT (getName s t.at_) + 8)
 refine Fn.enter Tryz.func60 rfl rfl rfl rfl hL ?_
 refine W.go ?_
 refine CW.draw 16 rfl (by kernel_rfl) ?_
 refine WQ.p O.mv ?_
 refine WQ.p O.nc ?_
 first | refine WQ.p O.fb ?_ | refine WQ.p O.fa ?_
 refine WQ.p O.ld ?_
 refine WQ.p O.mv ?_
 refine WQ.p O.nc ?_
 first | refine WQ.p O.fb ?_ | refine WQ.p O.fa ?_
 refine WQ.p O.ld ?_
 refine WQ.q (O.call ⟨rfl, rfl⟩ (AV.cons (vt rfl) (AV.cons (vt rfl) (AV.nil))) (fun _ w hw => ref_GetName _ _ w hs)) ?_
 refine WQ.p O.mv ?_
 first | refine WQ.p O.extL ?_ | refine WQ.p O.ext ?_
 first | refine WQ.p O.extL ?_ | refine WQ.p O.ext ?_
 first | refine WQ.p O.extL ?_ | refine WQ.p O.ext ?_
 refine WQ.p O.as ?_
 refine WQ.p O.as ?_
 refine WQ.p O.as ?_
 refine WQ.nil ?_
 refine WL.nil (Q.tn ?_)
 refine W.go ?_
 refine W.q (O.call ⟨rfl, rfl⟩ (AV.cons (vt rfl) (AV.cons (vt rfl) (AV.cons (vt rfl) (AV.nil)))) (fun _ w hw => ref_GetBe s _ _ w (by omega))) ?_
 refine W.go ?_
 refine W.q (O.call ⟨rfl, rfl⟩ (AV.cons (vt rfl) (AV.cons (vt rfl) (AV.cons (vt rfl) (AV.nil)))) (fun _ w hw => ref_GetBe s _ _ w (by omega))) ?_
 refine W.go ?_
 refine W.q (O.call ⟨rfl, rfl⟩ (AV.cons (vt rfl) (AV.cons (vt rfl) (AV.cons (vt rfl) (AV.nil)))) (fun _ w hw => ref_GetBe s _ _ w (by omega))) ?_
 refine W.go ?_
 refine CW.cond (vt rfl) (fun hc1 => ?_) (fun hc1 => ?_)
 ·try simp only [sk] at hc1
  refine W.go ?_
  refine ⟨_, [MmO b s t], (RVs.tmp rfl (RVs.tmp rfl (RVs.tmp rfl RVs.nil))), (by repeat (first | exact List.Sublist.refl _ | exact hSub _ | exact List.sublist_append_left _ _ | exact List.nil_sublist _ | refine List.Sublist.append (List.Sublist.refl _) ?_ | apply List.Sublist.cons_cons | apply List.Sublist.cons | exact List.sublist_append_left _ _ | refine List.Sublist.trans ?_ (List.sublist_append_right _ _))), ?_⟩
  refine ⟨?_, rfl⟩
  rw [optA_no (p := t.at_) (by simpa only [ne_eq] using hc1)]; rfl
 try simp only [sk] at hc1
 refine W.go ?_
 refine W.p O.max ?_
 refine W.go ?_
 refine ⟨_, [MmO b s t], (RVs.tmp rfl (RVs.tmp rfl (RVs.tmp rfl RVs.nil))), (by repeat (first | exact List.Sublist.refl _ | exact hSub _ | exact List.sublist_append_left _ _ | exact List.nil_sublist _ | refine List.Sublist.append (List.Sublist.refl _) ?_ | apply List.Sublist.cons_cons | apply List.Sublist.cons | exact List.sublist_append_left _ _ | refine List.Sublist.trans ?_ (List.sublist_append_right _ _))), ?_⟩
 refine ⟨?_, rfl⟩
 rw [optA_yes (p := t.at_) (by exact hc1)]; rfl
end Go.Proofs.YtfmdaijkgjkmpaaGreatDoor

set_option linter.unusedVariables false
set_option linter.unusedSimpArgs false
namespace Go.Proofs.YtfmdaijkgjkmpaaGreatDoor
open Go Go.RowKit
theorem ref_nuS {b : Nat} {s : List UInt8} (i j : Nat) (h : j = i + 1) (w : World) (hL : Holds [MmO b s (rSt s i)] w) (hs : s.length ≤ 4398046511104) :
  Fn Tryz.prog 57 [.pointer (some ⟨b, 0, none⟩), .int .i64 2] w [MmO b s (rSt s i)] fun v L' => v = .int .i64 (nuR s 2 (rSt s i)).1 ∧ L' = [MmO b s (rSt s j)] := by
 subst h; exact ref_nu w hL hs
theorem ref_rrs1 {b : Nat} {s : List UInt8} {t : TS} (w : World) (hL : Holds [MmO b s t] w) (hs : s.length ≤ 4398046511104) (hb : t.bad = false) :
  Fn Tryz.prog 59 [.pointer (some ⟨b, 0, none⟩), .int .i64 1] w [MmO b s t] fun v L' => ∃ o c sp, v = .slice (oa o) [(rRec s t).1].length c ∧ OwnOk o c 7 [(rRec s t).1].length (List.length sp) ∧ L' = MmO b s (rRec s t).2 :: rowL o 58 (flat encR [(rRec s t).1] sp) := by
 have h := ref_rrs 1 w hL hs (by decide)
 have e : lpM (rRec s) bigC (1 : Int).toNat [] t = ([(rRec s t).1], (rRec s t).2) := by
  show lpM (rRec s) bigC (0 + 1) [] t = _
  rw [lpM, if_neg (by rintro (h | h); (rw [hb] at h; cases h); (simp [bigC] at h))]; rfl
 rw [e] at h; exact h
section
variable {s : List UInt8} {k z : Int} {out : List RR} {t : TS}
theorem adR_opt (h0 : 0 < k) (hb : t.bad = false) (hi : (optA s t.at_).2.2 = true) (hz : z = 0) : adR s k.toNat out z t = adR s (k - 1).toNat out (optA s t.at_).1 ⟨(optA s t.at_).2.1, false⟩ := by
 rw [show k.toNat = (k - 1).toNat + 1 by omega, adR, if_neg (by rw [hb]; decide)]
 unfold optA at hi ⊢
 cases ho : optG s t.at_ with
 | none => rw [ho] at hi; cases hi
 | some x => dsimp only; rw [if_pos hz]
theorem adR_rec (h0 : 0 < k) (hb : t.bad = false) (hi : (optA s t.at_).2.2 = false ∨ ¬ z = 0) : adR s k.toNat out z t = adR s (k - 1).toNat (out ++ [(rRec s t).1]) z (rRec s t).2 := by
 rw [show k.toNat = (k - 1).toNat + 1 by omega, adR, if_neg (by rw [hb]; decide)]
 unfold optA at hi
 cases ho : optG s t.at_ with
 | none => rfl
 | some x => rw [ho] at hi; dsimp only; rw [if_neg (by rcases hi with h | h; cases h; exact h)]
theorem adR_end (h : k ≤ 0 ∨ t.bad = true) : adR s k.toNat out z t = (out, z, t) := by
 rcases h with h | h
 ·rw [show k.toNat = 0 by omega, adR]
 ·exact adR_stop h
end
theorem nu_rng (s : List UInt8) (t : TS) : 0 ≤ (nuR s 2 t).1 ∧ (nuR s 2 t).1 ≤ 65535 := by
 unfold nuR
 split
 ·simp
 ·have := beG_rng s t.at_; exact ⟨this.1, by dsimp only; omega⟩
theorem rrGet_nm2 (s : List UInt8) (p : Int) : (rrGet s p).1.name.length ≤ 4398046511104 ∧ (rrGet s p).1.target.length ≤ 4398046511104 := by
 cases h : gR s p with
 | none => rw [gR_non h]; simp [noR]
 | some x => obtain ⟨r, to⟩ := x; rw [rrGet_some h]; exact may_nm2 (gR_may h)
theorem adR_all {s : List UInt8} {P : RR → Prop} (hf : ∀ t, P (rRec s t).1) : ∀ (k : Nat) {out : List RR} {z : Int} {t : TS}, (∀ x ∈ out, P x) → ∀ x ∈ (adR s k out z t).1, P x
 | 0, out, z, t, h => h
 | k + 1, out, z, t, h => by
  have hx : ∀ x ∈ out ++ [(rRec s t).1], P x := fun x hx => by
   rcases List.mem_append.1 hx with hx | hx
   ·exact h x hx
   ·rw [List.mem_singleton] at hx; subst hx; exact hf t
  rw [adR]
  split
  ·exact h
  ·split
   ·split
    ·exact adR_all hf k h
    ·exact adR_all hf k hx
   ·exact adR_all hf k hx
theorem adR_len {s : List UInt8} : ∀ (k : Nat) {out : List RR} {z : Int} {t : TS}, (adR s k out z t).1.length ≤ out.length + k
 | 0, out, z, t => by simp [adR]
 | k + 1, out, z, t => by
  have h2 := adR_len (s := s) k (out := out ++ [(rRec s t).1]) (z := z) (t := (rRec s t).2)
  simp only [List.length_append, List.length_cons, List.length_nil] at h2
  rw [adR]
  split
  ·dsimp only; omega
  ·split
   ·rename_i x _
    split
    ·have := adR_len (s := s) k (out := out) (z := x.1) (t := ⟨x.2, false⟩); omega
    ·omega
   ·omega
theorem dn_szR {s : List UInt8} {x id z zz : Int} {k1 k2 k3 k4 : Nat} {t1 t2 t3 t4 : TS} (h1 : k1 ≤ 1000000) (h2 : k2 ≤ 1000000) (h3 : k3 ≤ 1000000) (h4 : k4 ≤ 1000000) : DnSz (hdD x id (lpM (rAsk s) bigC k1 [] t1).1 (lpM (rRec s) bigC k2 [] t2).1 (lpM (rRec s) bigC k3 [] t3).1 (adR s k4 [] z t4).1 zz) 4398046511104 := by
 have l1 := lp_len (f := rAsk s) (cap := bigC) k1 (out := []) (t := t1)
 have l2 := lp_len (f := rRec s) (cap := bigC) k2 (out := []) (t := t2)
 have l3 := lp_len (f := rRec s) (cap := bigC) k3 (out := []) (t := t3)
 have l4 := adR_len (s := s) k4 (out := []) (z := z) (t := t4)
 simp only [List.length_nil, Nat.zero_add] at l1 l2 l3 l4
 have hq : ∀ t : TS, (rAsk s t).1.name.length ≤ 4398046511104 := fun t => Nat.le_trans (grN_len s t.at_) (by decide)
 have hr : ∀ t : TS, (rRec s t).1.name.length ≤ 4398046511104 ∧ (rRec s t).1.target.length ≤ 4398046511104 := fun t => rrGet_nm2 s t.at_
 exact ⟨⟨by show (lpM (rAsk s) bigC k1 [] t1).1.length ≤ _; omega, lp_all hq k1 (by simp)⟩, ⟨by show (lpM (rRec s) bigC k2 [] t2).1.length ≤ _; omega, lp_all hr k2 (by simp)⟩, ⟨by show (lpM (rRec s) bigC k3 [] t3).1.length ≤ _; omega, lp_all hr k3 (by simp)⟩, ⟨by show (adR s k4 [] z t4).1.length ≤ _; omega, adR_all hr k4 (by simp)⟩⟩
set_option maxRecDepth 100000 in
set_option maxHeartbeats 4000000 in
theorem ref_GetDns (s : List UInt8) (w : World) (hs : s.length ≤ 4398046511104) : Fn Tryz.prog 26 [.string (S s)] w [] fun v L' => ∃ o1 c1 p1 o2 c2 p2 o3 c3 p3 o4 c4 p4, v = .tuple #[vDn (dnGet s).1 (oa o1, c1) (oa o2, c2) (oa o3, c3) (oa o4, c4), .int .i64 (dnGet s).2] ∧ OwnOk o1 c1 2 (dnGet s).1.qs.length (List.length p1) ∧ OwnOk o2 c2 7 (dnGet s).1.an.length (List.length p2) ∧ OwnOk o3 c3 7 (dnGet s).1.se.length (List.length p3) ∧ OwnOk o4 c4 7 (dnGet s).1.ad.length (List.length p4) ∧ L' = rowL o4 58 (flat encR (dnGet s).1.ad p4) ++ (rowL o3 58 (flat encR (dnGet s).1.se p3) ++ (rowL o2 58 (flat encR (dnGet s).1.an p2) ++ rowL o1 29 (flat encQ (dnGet s).1.qs p1))) := by
 have hbad : (bif (bif (bif (bif (bif (rSt s 6).bad then true else !decide (bits .and .i64 (nuR s 2 (rSt s 1)).1 240 = 0)) then true else decide (4 < (nuR s 2 (rSt s 2)).1)) then true else decide (32 < (nuR s 2 (rSt s 3)).1)) then true else decide (32 < (nuR s 2 (rSt s 4)).1)) then true else decide (33 < (nuR s 2 (rSt s 5)).1)) = ((rSt s 6).bad || !decide (bits .and .i64 (nuR s 2 (rSt s 1)).1 240 = 0) || decide (4 < (nuR s 2 (rSt s 2)).1) || decide (32 < (nuR s 2 (rSt s 3)).1) || decide (32 < (nuR s 2 (rSt s 4)).1) || decide (33 < (nuR s 2 (rSt s 5)).1)) := by
  generalize (rSt s 6).bad = x1; generalize decide (bits .and .i64 (nuR s 2 (rSt s 1)).1 240 = 0) = x2; generalize decide (4 < (nuR s 2 (rSt s 2)).1) = x3; generalize decide (32 < (nuR s 2 (rSt s 3)).1) = x4; generalize decide (32 < (nuR s 2 (rSt s 4)).1) = x5; generalize decide (33 < (nuR s 2 (rSt s 5)).1) = x6
  cases x1 <;> cases x2 <;> cases x3 <;> cases x4 <;> cases x5 <;> cases x6 <;> rfl
 have gA := nu_rng s (rSt s 2)
 have gB := nu_rng s (rSt s 3)
 have gC := nu_rng s (rSt s 4)
 have gD := nu_rng s (rSt s 5)
 refine Fn.enter Tryz.func26 rfl rfl rfl rfl (Holds.nil w) ?_
 refine W.go ?_
 refine W.al rfl rfl fun b1 => ?_
 refine W.go ?_
 refine W.p (O.bd (hv := PV.cons (vt rfl) (PV.nil))) ?_
 refine W.bx rfl (vt rfl) rfl fun b2 => ?_
 refine W.go ?_
 refine W.callS (first := []) (cap := []) [MmO b2 s ⟨0, false⟩] rfl (vt rfl) (AV.cons (vt rfl) (AV.cons (vt rfl) (AV.nil))) (fun w hu hh => ref_nuS 0 1 rfl w hh hs) ?_; rintro _ _ ⟨rfl, rfl⟩
 refine W.p (O.bd (hv := PV.cons (vt rfl) (PV.nil))) ?_
 refine W.al rfl rfl fun b3 => ?_
 refine W.st (vt rfl) (vt rfl) rfl ?_
 refine W.go ?_
 refine W.callS (first := []) (cap := []) [MmO b2 s (rSt s 1)] rfl (vt rfl) (AV.cons (vt rfl) (AV.cons (vt rfl) (AV.nil))) (fun w hu hh => ref_nuS 1 2 rfl w hh hs) ?_; rintro _ _ ⟨rfl, rfl⟩
 refine W.go ?_
 refine W.p O.and ?_
 refine W.go ?_
 refine W.st (vt rfl) (vt rfl) rfl ?_
 refine W.go ?_
 refine W.p O.shr ?_
 refine W.p (O.andM 4 16 (h := by decide) (hq := by decide) (hM := by decide)) ?_
 refine W.go ?_
 first | refine W.st (vt rfl) (vt rfl) rfl ?_ | refine W.st (u := .int _ _) (vt rfl) (vt rfl) rfl ?_
 refine W.go ?_
 refine W.p O.and ?_
 refine W.go ?_
 refine W.st (vt rfl) (vt rfl) rfl ?_
 refine W.go ?_
 refine W.p O.and ?_
 refine W.go ?_
 refine W.st (vt rfl) (vt rfl) rfl ?_
 refine W.go ?_
 refine W.p O.and ?_
 refine W.go ?_
 refine W.st (vt rfl) (vt rfl) rfl ?_
 refine W.go ?_
 refine W.p (O.andM 4 16 (h := by decide) (hq := by decide) (hM := by decide)) ?_
 refine W.go ?_
 first | refine W.st (vt rfl) (vt rfl) rfl ?_ | refine W.st (u := .int _ _) (vt rfl) (vt rfl) rfl ?_
 refine W.go ?_
 refine W.callS (first := []) (cap := []) [MmO b2 s (rSt s 2)] rfl (vt rfl) (AV.cons (vt rfl) (AV.cons (vt rfl) (AV.nil))) (fun w hu hh => ref_nuS 2 3 rfl w hh hs) ?_; rintro _ _ ⟨rfl, rfl⟩
 refine W.go ?_
 refine W.callS (first := []) (cap := []) [MmO b2 s (rSt s 3)] rfl (vt rfl) (AV.cons (vt rfl) (AV.cons (vt rfl) (AV.nil))) (fun w hu hh => ref_nuS 3 4 rfl w hh hs) ?_; rintro _ _ ⟨rfl, rfl⟩
 refine W.go ?_
 refine W.callS (first := []) (cap := []) [MmO b2 s (rSt s 4)] rfl (vt rfl) (AV.cons (vt rfl) (AV.cons (vt rfl) (AV.nil))) (fun w hu hh => ref_nuS 4 5 rfl w hh hs) ?_; rintro _ _ ⟨rfl, rfl⟩
 refine W.go ?_
 refine W.callS (first := []) (cap := []) [MmO b2 s (rSt s 5)] rfl (vt rfl) (AV.cons (vt rfl) (AV.cons (vt rfl) (AV.nil))) (fun w hu hh => ref_nuS 5 6 rfl w hh hs) ?_; rintro _ _ ⟨rfl, rfl⟩
 refine W.go ?_
 refine W.p O.and ?_
 refine W.go ?_
 refine W.st (vt rfl) (vt rfl) rfl ?_
 refine WL.nil (Q.tn ?_)
 refine CW.seq ?_
 refine CW.seq ?_
 refine CW.region ?_
 refine W.p O.as ?_
 refine WL.nil (Q.tn ?_)
 refine CW.block ?_
 rw [hbad]
 refine CW.loopA (X := Int × (List Qn') × TS × (Option Nat) × Nat × (List Value)) (fun ⟨i, out, u, o, cc, sp⟩ => [(0, true, .string (S s)), (2, true, .pointer (some ⟨b1, 0, none⟩)), (4, true, .pointer (some ⟨b2, 0, none⟩)), (5, true, .pointer (some ⟨b3, 0, none⟩)), (7, true, .int .i64 (nuR s 2 (rSt s 2)).1), (8, true, .int .i64 (nuR s 2 (rSt s 3)).1), (9, true, .int .i64 (nuR s 2 (rSt s 4)).1), (10, true, .int .i64 (nuR s 2 (rSt s 5)).1), (11, true, .int .i64 i)]) (fun ⟨i, out, u, o, cc, sp⟩ => rowL o 29 (flat encQ out sp) ++ [DnO b3 (hdD (nuR s 2 (rSt s 1)).1 (nuR s 2 (rSt s 0)).1 out [] [] [] 0) (oa o, cc) nS nS nS, MmO b2 s u, (DnO b1 noD nS nS nS nS)]) (fun ⟨i, out, u, o, cc, sp⟩ => 0 ≤ i ∧ i ≤ (nuR s 2 (rSt s 2)).1 ∧ OwnOk o cc 2 out.length sp.length ∧ lpM (rAsk s) bigC ((nuR s 2 (rSt s 2)).1 - i).toNat out u = (lpM (rAsk s) bigC (nuR s 2 (rSt s 2)).1.toNat [] (⟨(rSt s 6).at_, ((rSt s 6).bad || !decide (bits .and .i64 (nuR s 2 (rSt s 1)).1 240 = 0) || decide (4 < (nuR s 2 (rSt s 2)).1) || decide (32 < (nuR s 2 (rSt s 3)).1) || decide (32 < (nuR s 2 (rSt s 4)).1) || decide (33 < (nuR s 2 (rSt s 5)).1))⟩ : TS)) ∧ out.length ≤ i) (fun ⟨i, out, u, o, cc, sp⟩ => ((nuR s 2 (rSt s 2)).1 - i).toNat) (0, [], (⟨(rSt s 6).at_, ((rSt s 6).bad || !decide (bits .and .i64 (nuR s 2 (rSt s 1)).1 240 = 0) || decide (4 < (nuR s 2 (rSt s 2)).1) || decide (32 < (nuR s 2 (rSt s 3)).1) || decide (32 < (nuR s 2 (rSt s 4)).1) || decide (33 < (nuR s 2 (rSt s 5)).1))⟩ : TS), none, 0, []) ?_ ?_
 ·exact ⟨by omega, by omega, OwnOk.nil, by rw [Int.sub_zero], by simp⟩
 rintro ⟨i, out, u, o, cc, sp⟩ hI
 try dsimp only at hI ⊢
 obtain ⟨h0, h1, ok9, hr, hl⟩ := hI
 have nk9 := ok9.nk (α := Qn') (xs := out)
 refine W.go ?_
 refine CW.cond (vt rfl) (fun hc1 => ?_) (fun hc1 => ?_)
 ·try simp only [sk] at hc1
  refine W.go ?_
  refine W.q (O.call ⟨rfl, rfl⟩ (AV.cons (vt rfl) (AV.cons (vt rfl) (AV.nil))) (fun _ w hw => ref_GetName _ _ w hs)) ?_
  refine W.go ?_
  refine W.st (vt rfl) (vt rfl) rfl ?_
  refine W.go ?_
  first | refine W.st (vt rfl) (vt rfl) rfl ?_ | refine W.st (u := .int _ _) (vt rfl) (vt rfl) rfl ?_
  refine W.go ?_
  refine W.callS (first := []) (cap := []) [MmO b2 s (⟨grT (getName s u.at_), !decide (grE (getName s u.at_) = 0)⟩ : TS)] rfl (vt rfl) (AV.cons (vt rfl) (AV.cons (vt rfl) (AV.nil))) (fun w hu hh => ref_nu w hh hs) ?_; rintro _ _ ⟨rfl, rfl⟩
  refine W.p (O.bd (hv := PV.cons (vt rfl) (PV.cons (vt rfl) (PV.nil)))) ?_
  refine W.al rfl rfl fun b4 => ?_
  refine W.st (vt rfl) (vt rfl) rfl ?_
  refine W.go ?_
  refine W.callS (first := []) (cap := []) [MmO b2 s (nuR s 2 (⟨grT (getName s u.at_), !decide (grE (getName s u.at_) = 0)⟩ : TS)).2] rfl (vt rfl) (AV.cons (vt rfl) (AV.cons (vt rfl) (AV.nil))) (fun w hu hh => ref_nu w hh hs) ?_; rintro _ _ ⟨rfl, rfl⟩
  refine W.go ?_
  refine W.st (vt rfl) (vt rfl) rfl ?_
  refine WL.nil (Q.tn ?_)
  refine CW.region ?_
  first | refine W.p O.fb ?_ | refine W.p O.fa ?_
  refine W.p O.ld ?_
  refine W.p O.lds ?_
  refine W.bs encQ [(rAsk s u).1] rfl (PV.cons (vt rfl) (PV.nil)) rfl rfl rfl (by decide) rfl fun b5 => ?_
  refine W.ap rfl (vt rfl) (vt rfl) (by first | rfl | omega) (by first | rfl | omega) rfl (by first | assumption | exact OwnOk.nil | exact OwnOk.lit) (by first | omega | (simp; omega)) fun o1 c1 sp1 ok1 ne1 gt1 => ?_
  have nk1 := ok1.nk; have le1 := ok1.2.2.1; try simp only [List.length_append, List.length_cons, List.length_nil] at le1
  refine W.go ?_
  first | refine W.st (vt rfl) (vt rfl) rfl ?_ | refine W.st (u := .slice _ _ _) (vt rfl) (vt rfl) rfl ?_
  refine W.go ?_
  refine nextA (i + 1, out ++ [(rAsk s u).1], (rAsk s u).2, _, _, _) ?_ ?_
  ·try dsimp only
   refine ⟨by omega, by omega, by assumption, ?_, by simp only [List.length_append, List.length_cons, List.length_nil]; omega⟩
   rw [← hr, lp_step (k := (nuR s 2 (rSt s 2)).1 - i) (by omega) hc1.2 (by show out.length ≤ 1000000; omega), show (nuR s 2 (rSt s 2)).1 - i - 1 = (nuR s 2 (rSt s 2)).1 - (i + 1) by omega]
  ·try dsimp only
   omega
 try simp only [sk] at hc1
 have hq : (lpM (rAsk s) bigC (nuR s 2 (rSt s 2)).1.toNat [] (⟨(rSt s 6).at_, ((rSt s 6).bad || !decide (bits .and .i64 (nuR s 2 (rSt s 1)).1 240 = 0) || decide (4 < (nuR s 2 (rSt s 2)).1) || decide (32 < (nuR s 2 (rSt s 3)).1) || decide (32 < (nuR s 2 (rSt s 4)).1) || decide (33 < (nuR s 2 (rSt s 5)).1))⟩ : TS)) = (out, u) := by rw [← hr]; exact lp_stop (by rcases hc1 with h | h; exact .inl (by omega); exact .inr (.inl (by simpa using h)))
 have hq1 : out = (lpM (rAsk s) bigC (nuR s 2 (rSt s 2)).1.toNat [] (⟨(rSt s 6).at_, ((rSt s 6).bad || !decide (bits .and .i64 (nuR s 2 (rSt s 1)).1 240 = 0) || decide (4 < (nuR s 2 (rSt s 2)).1) || decide (32 < (nuR s 2 (rSt s 3)).1) || decide (32 < (nuR s 2 (rSt s 4)).1) || decide (33 < (nuR s 2 (rSt s 5)).1))⟩ : TS)).1 := by rw [hq]
 have hq2 : u = (lpM (rAsk s) bigC (nuR s 2 (rSt s 2)).1.toNat [] (⟨(rSt s 6).at_, ((rSt s 6).bad || !decide (bits .and .i64 (nuR s 2 (rSt s 1)).1 240 = 0) || decide (4 < (nuR s 2 (rSt s 2)).1) || decide (32 < (nuR s 2 (rSt s 3)).1) || decide (32 < (nuR s 2 (rSt s 4)).1) || decide (33 < (nuR s 2 (rSt s 5)).1))⟩ : TS)).2 := by rw [hq]
 clear hr hc1 hq
 subst hq1
 subst hq2
 refine W.go ?_
 refine W.callS (first := []) (cap := []) [MmO b2 s (lpM (rAsk s) bigC (nuR s 2 (rSt s 2)).1.toNat [] (⟨(rSt s 6).at_, ((rSt s 6).bad || !decide (bits .and .i64 (nuR s 2 (rSt s 1)).1 240 = 0) || decide (4 < (nuR s 2 (rSt s 2)).1) || decide (32 < (nuR s 2 (rSt s 3)).1) || decide (32 < (nuR s 2 (rSt s 4)).1) || decide (33 < (nuR s 2 (rSt s 5)).1))⟩ : TS)).2] rfl (vt rfl) (AV.cons (vt rfl) (AV.cons (vt rfl) (AV.nil))) (fun w hu hh => ref_rrs (nuR s 2 (rSt s 3)).1 w hh hs (by omega)) ?_; rintro _ _ ⟨o12, c12, p12, rfl, ok12, rfl⟩; have nk12 := ok12.nk (α := RR) (xs := (lpM (rRec s) bigC (nuR s 2 (rSt s 3)).1.toNat [] (lpM (rAsk s) bigC (nuR s 2 (rSt s 2)).1.toNat [] (⟨(rSt s 6).at_, ((rSt s 6).bad || !decide (bits .and .i64 (nuR s 2 (rSt s 1)).1 240 = 0) || decide (4 < (nuR s 2 (rSt s 2)).1) || decide (32 < (nuR s 2 (rSt s 3)).1) || decide (32 < (nuR s 2 (rSt s 4)).1) || decide (33 < (nuR s 2 (rSt s 5)).1))⟩ : TS)).2).1)
 refine W.go ?_
 first | refine W.st (vt rfl) (vt rfl) rfl ?_ | refine W.st (u := .slice _ _ _) (vt rfl) (vt rfl) rfl ?_
 refine W.go ?_
 refine W.callS (first := []) (cap := []) [MmO b2 s (lpM (rRec s) bigC (nuR s 2 (rSt s 3)).1.toNat [] (lpM (rAsk s) bigC (nuR s 2 (rSt s 2)).1.toNat [] (⟨(rSt s 6).at_, ((rSt s 6).bad || !decide (bits .and .i64 (nuR s 2 (rSt s 1)).1 240 = 0) || decide (4 < (nuR s 2 (rSt s 2)).1) || decide (32 < (nuR s 2 (rSt s 3)).1) || decide (32 < (nuR s 2 (rSt s 4)).1) || decide (33 < (nuR s 2 (rSt s 5)).1))⟩ : TS)).2).2] rfl (vt rfl) (AV.cons (vt rfl) (AV.cons (vt rfl) (AV.nil))) (fun w hu hh => ref_rrs (nuR s 2 (rSt s 4)).1 w hh hs (by omega)) ?_; rintro _ _ ⟨o13, c13, p13, rfl, ok13, rfl⟩; have nk13 := ok13.nk (α := RR) (xs := (lpM (rRec s) bigC (nuR s 2 (rSt s 4)).1.toNat [] (lpM (rRec s) bigC (nuR s 2 (rSt s 3)).1.toNat [] (lpM (rAsk s) bigC (nuR s 2 (rSt s 2)).1.toNat [] (⟨(rSt s 6).at_, ((rSt s 6).bad || !decide (bits .and .i64 (nuR s 2 (rSt s 1)).1 240 = 0) || decide (4 < (nuR s 2 (rSt s 2)).1) || decide (32 < (nuR s 2 (rSt s 3)).1) || decide (32 < (nuR s 2 (rSt s 4)).1) || decide (33 < (nuR s 2 (rSt s 5)).1))⟩ : TS)).2).2).1)
 refine W.go ?_
 first | refine W.st (vt rfl) (vt rfl) rfl ?_ | refine W.st (u := .slice _ _ _) (vt rfl) (vt rfl) rfl ?_
 refine W.go ?_
 refine CW.permH (L' := DnO b3 (hdD (nuR s 2 (rSt s 1)).1 (nuR s 2 (rSt s 0)).1 (lpM (rAsk s) bigC (nuR s 2 (rSt s 2)).1.toNat [] (⟨(rSt s 6).at_, ((rSt s 6).bad || !decide (bits .and .i64 (nuR s 2 (rSt s 1)).1 240 = 0) || decide (4 < (nuR s 2 (rSt s 2)).1) || decide (32 < (nuR s 2 (rSt s 3)).1) || decide (32 < (nuR s 2 (rSt s 4)).1) || decide (33 < (nuR s 2 (rSt s 5)).1))⟩ : TS)).1 (lpM (rRec s) bigC (nuR s 2 (rSt s 3)).1.toNat [] (lpM (rAsk s) bigC (nuR s 2 (rSt s 2)).1.toNat [] (⟨(rSt s 6).at_, ((rSt s 6).bad || !decide (bits .and .i64 (nuR s 2 (rSt s 1)).1 240 = 0) || decide (4 < (nuR s 2 (rSt s 2)).1) || decide (32 < (nuR s 2 (rSt s 3)).1) || decide (32 < (nuR s 2 (rSt s 4)).1) || decide (33 < (nuR s 2 (rSt s 5)).1))⟩ : TS)).2).1 (lpM (rRec s) bigC (nuR s 2 (rSt s 4)).1.toNat [] (lpM (rRec s) bigC (nuR s 2 (rSt s 3)).1.toNat [] (lpM (rAsk s) bigC (nuR s 2 (rSt s 2)).1.toNat [] (⟨(rSt s 6).at_, ((rSt s 6).bad || !decide (bits .and .i64 (nuR s 2 (rSt s 1)).1 240 = 0) || decide (4 < (nuR s 2 (rSt s 2)).1) || decide (32 < (nuR s 2 (rSt s 3)).1) || decide (32 < (nuR s 2 (rSt s 4)).1) || decide (33 < (nuR s 2 (rSt s 5)).1))⟩ : TS)).2).2).1 [] 0) (oa o, cc) (oa o12, c12) (oa o13, c13) nS :: (MmO b2 s (lpM (rRec s) bigC (nuR s 2 (rSt s 4)).1.toNat [] (lpM (rRec s) bigC (nuR s 2 (rSt s 3)).1.toNat [] (lpM (rAsk s) bigC (nuR s 2 (rSt s 2)).1.toNat [] (⟨(rSt s 6).at_, ((rSt s 6).bad || !decide (bits .and .i64 (nuR s 2 (rSt s 1)).1 240 = 0) || decide (4 < (nuR s 2 (rSt s 2)).1) || decide (32 < (nuR s 2 (rSt s 3)).1) || decide (32 < (nuR s 2 (rSt s 4)).1) || decide (33 < (nuR s 2 (rSt s 5)).1))⟩ : TS)).2).2).2 :: (rowL o13 58 (flat encR (lpM (rRec s) bigC (nuR s 2 (rSt s 4)).1.toNat [] (lpM (rRec s) bigC (nuR s 2 (rSt s 3)).1.toNat [] (lpM (rAsk s) bigC (nuR s 2 (rSt s 2)).1.toNat [] (⟨(rSt s 6).at_, ((rSt s 6).bad || !decide (bits .and .i64 (nuR s 2 (rSt s 1)).1 240 = 0) || decide (4 < (nuR s 2 (rSt s 2)).1) || decide (32 < (nuR s 2 (rSt s 3)).1) || decide (32 < (nuR s 2 (rSt s 4)).1) || decide (33 < (nuR s 2 (rSt s 5)).1))⟩ : TS)).2).2).1 p13) ++ (rowL o12 58 (flat encR (lpM (rRec s) bigC (nuR s 2 (rSt s 3)).1.toNat [] (lpM (rAsk s) bigC (nuR s 2 (rSt s 2)).1.toNat [] (⟨(rSt s 6).at_, ((rSt s 6).bad || !decide (bits .and .i64 (nuR s 2 (rSt s 1)).1 240 = 0) || decide (4 < (nuR s 2 (rSt s 2)).1) || decide (32 < (nuR s 2 (rSt s 3)).1) || decide (32 < (nuR s 2 (rSt s 4)).1) || decide (33 < (nuR s 2 (rSt s 5)).1))⟩ : TS)).2).1 p12) ++ ((DnO b1 noD nS nS nS nS) :: rowL o 29 (flat encQ (lpM (rAsk s) bigC (nuR s 2 (rSt s 2)).1.toNat [] (⟨(rSt s 6).at_, ((rSt s 6).bad || !decide (bits .and .i64 (nuR s 2 (rSt s 1)).1 240 = 0) || decide (4 < (nuR s 2 (rSt s 2)).1) || decide (32 < (nuR s 2 (rSt s 3)).1) || decide (32 < (nuR s 2 (rSt s 4)).1) || decide (33 < (nuR s 2 (rSt s 5)).1))⟩ : TS)).1 sp)))))) (List.perm_append_comm.trans (by simp only [List.append_assoc, List.cons_append, List.nil_append]; exact List.Perm.refl _)) ?_
 refine CW.loopA (X := Int × (List RR) × Int × TS × (Option Nat) × Nat × (List Value)) (fun ⟨i, out, z, u, o2, cc2, sp2⟩ => [(0, true, .string (S s)), (2, true, .pointer (some ⟨b1, 0, none⟩)), (4, true, .pointer (some ⟨b2, 0, none⟩)), (5, true, .pointer (some ⟨b3, 0, none⟩)), (10, true, .int .i64 (nuR s 2 (rSt s 5)).1), (16, true, .int .i64 i)]) (fun ⟨i, out, z, u, o2, cc2, sp2⟩ => rowL o2 58 (flat encR out sp2) ++ ((DnO b3 (hdD (nuR s 2 (rSt s 1)).1 (nuR s 2 (rSt s 0)).1 (lpM (rAsk s) bigC (nuR s 2 (rSt s 2)).1.toNat [] (⟨(rSt s 6).at_, ((rSt s 6).bad || !decide (bits .and .i64 (nuR s 2 (rSt s 1)).1 240 = 0) || decide (4 < (nuR s 2 (rSt s 2)).1) || decide (32 < (nuR s 2 (rSt s 3)).1) || decide (32 < (nuR s 2 (rSt s 4)).1) || decide (33 < (nuR s 2 (rSt s 5)).1))⟩ : TS)).1 (lpM (rRec s) bigC (nuR s 2 (rSt s 3)).1.toNat [] (lpM (rAsk s) bigC (nuR s 2 (rSt s 2)).1.toNat [] (⟨(rSt s 6).at_, ((rSt s 6).bad || !decide (bits .and .i64 (nuR s 2 (rSt s 1)).1 240 = 0) || decide (4 < (nuR s 2 (rSt s 2)).1) || decide (32 < (nuR s 2 (rSt s 3)).1) || decide (32 < (nuR s 2 (rSt s 4)).1) || decide (33 < (nuR s 2 (rSt s 5)).1))⟩ : TS)).2).1 (lpM (rRec s) bigC (nuR s 2 (rSt s 4)).1.toNat [] (lpM (rRec s) bigC (nuR s 2 (rSt s 3)).1.toNat [] (lpM (rAsk s) bigC (nuR s 2 (rSt s 2)).1.toNat [] (⟨(rSt s 6).at_, ((rSt s 6).bad || !decide (bits .and .i64 (nuR s 2 (rSt s 1)).1 240 = 0) || decide (4 < (nuR s 2 (rSt s 2)).1) || decide (32 < (nuR s 2 (rSt s 3)).1) || decide (32 < (nuR s 2 (rSt s 4)).1) || decide (33 < (nuR s 2 (rSt s 5)).1))⟩ : TS)).2).2).1 out z) (oa o, cc) (oa o12, c12) (oa o13, c13) (oa o2, cc2)) :: (MmO b2 s u :: (rowL o13 58 (flat encR (lpM (rRec s) bigC (nuR s 2 (rSt s 4)).1.toNat [] (lpM (rRec s) bigC (nuR s 2 (rSt s 3)).1.toNat [] (lpM (rAsk s) bigC (nuR s 2 (rSt s 2)).1.toNat [] (⟨(rSt s 6).at_, ((rSt s 6).bad || !decide (bits .and .i64 (nuR s 2 (rSt s 1)).1 240 = 0) || decide (4 < (nuR s 2 (rSt s 2)).1) || decide (32 < (nuR s 2 (rSt s 3)).1) || decide (32 < (nuR s 2 (rSt s 4)).1) || decide (33 < (nuR s 2 (rSt s 5)).1))⟩ : TS)).2).2).1 p13) ++ (rowL o12 58 (flat encR (lpM (rRec s) bigC (nuR s 2 (rSt s 3)).1.toNat [] (lpM (rAsk s) bigC (nuR s 2 (rSt s 2)).1.toNat [] (⟨(rSt s 6).at_, ((rSt s 6).bad || !decide (bits .and .i64 (nuR s 2 (rSt s 1)).1 240 = 0) || decide (4 < (nuR s 2 (rSt s 2)).1) || decide (32 < (nuR s 2 (rSt s 3)).1) || decide (32 < (nuR s 2 (rSt s 4)).1) || decide (33 < (nuR s 2 (rSt s 5)).1))⟩ : TS)).2).1 p12) ++ ((DnO b1 noD nS nS nS nS) :: rowL o 29 (flat encQ (lpM (rAsk s) bigC (nuR s 2 (rSt s 2)).1.toNat [] (⟨(rSt s 6).at_, ((rSt s 6).bad || !decide (bits .and .i64 (nuR s 2 (rSt s 1)).1 240 = 0) || decide (4 < (nuR s 2 (rSt s 2)).1) || decide (32 < (nuR s 2 (rSt s 3)).1) || decide (32 < (nuR s 2 (rSt s 4)).1) || decide (33 < (nuR s 2 (rSt s 5)).1))⟩ : TS)).1 sp))))))) (fun ⟨i, out, z, u, o2, cc2, sp2⟩ => 0 ≤ i ∧ i ≤ (nuR s 2 (rSt s 5)).1 ∧ OwnOk o2 cc2 7 out.length sp2.length ∧ adR s ((nuR s 2 (rSt s 5)).1 - i).toNat out z u = (adR s (nuR s 2 (rSt s 5)).1.toNat [] 0 (lpM (rRec s) bigC (nuR s 2 (rSt s 4)).1.toNat [] (lpM (rRec s) bigC (nuR s 2 (rSt s 3)).1.toNat [] (lpM (rAsk s) bigC (nuR s 2 (rSt s 2)).1.toNat [] (⟨(rSt s 6).at_, ((rSt s 6).bad || !decide (bits .and .i64 (nuR s 2 (rSt s 1)).1 240 = 0) || decide (4 < (nuR s 2 (rSt s 2)).1) || decide (32 < (nuR s 2 (rSt s 3)).1) || decide (32 < (nuR s 2 (rSt s 4)).1) || decide (33 < (nuR s 2 (rSt s 5)).1))⟩ : TS)).2).2).2) ∧ out.length ≤ i) (fun ⟨i, out, z, u, o2, cc2, sp2⟩ => ((nuR s 2 (rSt s 5)).1 - i).toNat) (0, [], 0, (lpM (rRec s) bigC (nuR s 2 (rSt s 4)).1.toNat [] (lpM (rRec s) bigC (nuR s 2 (rSt s 3)).1.toNat [] (lpM (rAsk s) bigC (nuR s 2 (rSt s 2)).1.toNat [] (⟨(rSt s 6).at_, ((rSt s 6).bad || !decide (bits .and .i64 (nuR s 2 (rSt s 1)).1 240 = 0) || decide (4 < (nuR s 2 (rSt s 2)).1) || decide (32 < (nuR s 2 (rSt s 3)).1) || decide (32 < (nuR s 2 (rSt s 4)).1) || decide (33 < (nuR s 2 (rSt s 5)).1))⟩ : TS)).2).2).2, none, 0, []) ?_ ?_
 ·exact ⟨by omega, by omega, OwnOk.nil, by rw [Int.sub_zero], by simp⟩
 rintro ⟨i, out, z, u, o2, cc2, sp2⟩ hI
 try dsimp only at hI ⊢
 obtain ⟨h0, h1, ok8, hr, hl⟩ := hI
 have nk8 := ok8.nk (α := RR) (xs := out)
 refine W.go ?_
 refine CW.cond (vt rfl) (fun hc2 => ?_) (fun hc2 => ?_)
 ·try simp only [sk] at hc2
  refine W.go ?_
  refine W.callS (first := []) (cap := []) [MmO b2 s u] rfl (vt rfl) (AV.cons (vt rfl) (AV.nil)) (fun w hu hh => ref_opt w hh hs) ?_; rintro _ _ ⟨rfl, rfl⟩
  refine W.go ?_
  refine CW.cond (vt rfl) (fun hc3 => ?_) (fun hc3 => ?_)
  ·try simp only [sk] at hc3
   refine W.go ?_
   first | refine W.st (vt rfl) (vt rfl) rfl ?_ | refine W.st (u := .int _ _) (vt rfl) (vt rfl) rfl ?_
   refine W.go ?_
   first | refine W.st (vt rfl) (vt rfl) rfl ?_ | refine W.st (u := .int _ _) (vt rfl) (vt rfl) rfl ?_
   refine W.go ?_
   refine nextA (i + 1, out, (optA s u.at_).1, ⟨(optA s u.at_).2.1, u.bad⟩, o2, cc2, sp2) ?_ ?_
   ·try dsimp only
    refine ⟨by omega, by omega, ok8, ?_, by omega⟩
    rw [← hr, adR_opt (k := (nuR s 2 (rSt s 5)).1 - i) (by omega) hc2.2 hc3.1 hc3.2, show (nuR s 2 (rSt s 5)).1 - i - 1 = (nuR s 2 (rSt s 5)).1 - (i + 1) by omega, hc2.2]
   ·try dsimp only
    omega
  try simp only [sk] at hc3
  refine W.go ?_
  refine CW.drawH [] rfl ?_
  first | refine RH.qa 0 rfl (O.fb) ?_ | refine RH.qa 0 rfl (O.fa) ?_
  refine RH.qa 2 rfl (O.mv) ?_
  refine RH.two (i := 1) (j := 3) (fun _ _ h => h) (by kernel_rfl) rfl rfl ?_ ?_
  ·refine W.p O.ld ?_
   refine WL.nilQa ?_
   refine RH.one (i := 3) (fun _ _ h => h) (by kernel_rfl) rfl ?_
   refine W.callS (first := []) (cap := []) [MmO b2 s u] rfl (vt rfl) (AV.cons (vt rfl) (AV.cons (vt rfl) (AV.nil))) (fun w hu hh => ref_rrs1 w hh hs hc2.2) ?_; rintro _ _ ⟨o14, c14, p14, rfl, ok14, rfl⟩; have nk14 := ok14.nk (α := RR) (xs := [(rRec s u).1]); refine WL.permH (L' := rowL o2 58 (flat encR out sp2) ++ ((DnO b3 (hdD (nuR s 2 (rSt s 1)).1 (nuR s 2 (rSt s 0)).1 (lpM (rAsk s) bigC (nuR s 2 (rSt s 2)).1.toNat [] (⟨(rSt s 6).at_, ((rSt s 6).bad || !decide (bits .and .i64 (nuR s 2 (rSt s 1)).1 240 = 0) || decide (4 < (nuR s 2 (rSt s 2)).1) || decide (32 < (nuR s 2 (rSt s 3)).1) || decide (32 < (nuR s 2 (rSt s 4)).1) || decide (33 < (nuR s 2 (rSt s 5)).1))⟩ : TS)).1 (lpM (rRec s) bigC (nuR s 2 (rSt s 3)).1.toNat [] (lpM (rAsk s) bigC (nuR s 2 (rSt s 2)).1.toNat [] (⟨(rSt s 6).at_, ((rSt s 6).bad || !decide (bits .and .i64 (nuR s 2 (rSt s 1)).1 240 = 0) || decide (4 < (nuR s 2 (rSt s 2)).1) || decide (32 < (nuR s 2 (rSt s 3)).1) || decide (32 < (nuR s 2 (rSt s 4)).1) || decide (33 < (nuR s 2 (rSt s 5)).1))⟩ : TS)).2).1 (lpM (rRec s) bigC (nuR s 2 (rSt s 4)).1.toNat [] (lpM (rRec s) bigC (nuR s 2 (rSt s 3)).1.toNat [] (lpM (rAsk s) bigC (nuR s 2 (rSt s 2)).1.toNat [] (⟨(rSt s 6).at_, ((rSt s 6).bad || !decide (bits .and .i64 (nuR s 2 (rSt s 1)).1 240 = 0) || decide (4 < (nuR s 2 (rSt s 2)).1) || decide (32 < (nuR s 2 (rSt s 3)).1) || decide (32 < (nuR s 2 (rSt s 4)).1) || decide (33 < (nuR s 2 (rSt s 5)).1))⟩ : TS)).2).2).1 out z) (oa o, cc) (oa o12, c12) (oa o13, c13) (oa o2, cc2)) :: (MmO b2 s (rRec s u).2 :: (rowL o14 58 (flat encR [(rRec s u).1] p14) ++ (rowL o13 58 (flat encR (lpM (rRec s) bigC (nuR s 2 (rSt s 4)).1.toNat [] (lpM (rRec s) bigC (nuR s 2 (rSt s 3)).1.toNat [] (lpM (rAsk s) bigC (nuR s 2 (rSt s 2)).1.toNat [] (⟨(rSt s 6).at_, ((rSt s 6).bad || !decide (bits .and .i64 (nuR s 2 (rSt s 1)).1 240 = 0) || decide (4 < (nuR s 2 (rSt s 2)).1) || decide (32 < (nuR s 2 (rSt s 3)).1) || decide (32 < (nuR s 2 (rSt s 4)).1) || decide (33 < (nuR s 2 (rSt s 5)).1))⟩ : TS)).2).2).1 p13) ++ (rowL o12 58 (flat encR (lpM (rRec s) bigC (nuR s 2 (rSt s 3)).1.toNat [] (lpM (rAsk s) bigC (nuR s 2 (rSt s 2)).1.toNat [] (⟨(rSt s 6).at_, ((rSt s 6).bad || !decide (bits .and .i64 (nuR s 2 (rSt s 1)).1 240 = 0) || decide (4 < (nuR s 2 (rSt s 2)).1) || decide (32 < (nuR s 2 (rSt s 3)).1) || decide (32 < (nuR s 2 (rSt s 4)).1) || decide (33 < (nuR s 2 (rSt s 5)).1))⟩ : TS)).2).1 p12) ++ ((DnO b1 noD nS nS nS nS) :: rowL o 29 (flat encQ (lpM (rAsk s) bigC (nuR s 2 (rSt s 2)).1.toNat [] (⟨(rSt s 6).at_, ((rSt s 6).bad || !decide (bits .and .i64 (nuR s 2 (rSt s 1)).1 240 = 0) || decide (4 < (nuR s 2 (rSt s 2)).1) || decide (32 < (nuR s 2 (rSt s 3)).1) || decide (32 < (nuR s 2 (rSt s 4)).1) || decide (33 < (nuR s 2 (rSt s 5)).1))⟩ : TS)).1 sp)))))))) (by simp only [List.append_assoc, List.cons_append, List.nil_append]; exact List.Perm.refl _) ?_
   refine WL.nilQa ?_
   refine RH.one (i := 4) (fun _ _ h => h) (by kernel_rfl) rfl ?_
   refine W.ap rfl (vt rfl) (vt rfl) (by first | rfl | omega) (by first | rfl | omega) rfl (by first | assumption | exact OwnOk.nil | exact OwnOk.lit) (by first | omega | (simp; omega)) fun o2 c2 sp2 ok2 ne2 gt2 => ?_
   have nk2 := ok2.nk; have le2 := ok2.2.2.1; try simp only [List.length_append, List.length_cons, List.length_nil] at le2
   refine WL.nilQa ?_
   first | refine RH.qa 5 rfl (O.fb) ?_ | refine RH.qa 5 rfl (O.fa) ?_
   refine RH.one (i := 6) (fun _ _ h => h) (by kernel_rfl) rfl ?_
   first | refine W.st (vt rfl) (vt rfl) rfl ?_ | refine W.st (u := .slice _ _ _) (vt rfl) (vt rfl) rfl ?_
   refine WL.nilQa ?_
   refine RH.done (by kernel_rfl) (Q.bn (Q.tn ?_))
   refine W.go ?_
   refine nextA (i + 1, out ++ [(rRec s u).1], z, (rRec s u).2, _, _, _) ?_ ?_
   ·try dsimp only
    refine ⟨by omega, by omega, by assumption, ?_, by simp only [List.length_append, List.length_cons, List.length_nil]; omega⟩
    rw [← hr, adR_rec (k := (nuR s 2 (rSt s 5)).1 - i) (by omega) hc2.2 hc3, show (nuR s 2 (rSt s 5)).1 - i - 1 = (nuR s 2 (rSt s 5)).1 - (i + 1) by omega]
   ·try dsimp only
    omega
  ·refine W.callS (first := []) (cap := []) [MmO b2 s u] rfl (vt rfl) (AV.cons (vt rfl) (AV.cons (vt rfl) (AV.nil))) (fun w hu hh => ref_rrs1 w hh hs hc2.2) ?_; rintro _ _ ⟨o14, c14, p14, rfl, ok14, rfl⟩; have nk14 := ok14.nk (α := RR) (xs := [(rRec s u).1]); refine WL.permH (L' := rowL o2 58 (flat encR out sp2) ++ ((DnO b3 (hdD (nuR s 2 (rSt s 1)).1 (nuR s 2 (rSt s 0)).1 (lpM (rAsk s) bigC (nuR s 2 (rSt s 2)).1.toNat [] (⟨(rSt s 6).at_, ((rSt s 6).bad || !decide (bits .and .i64 (nuR s 2 (rSt s 1)).1 240 = 0) || decide (4 < (nuR s 2 (rSt s 2)).1) || decide (32 < (nuR s 2 (rSt s 3)).1) || decide (32 < (nuR s 2 (rSt s 4)).1) || decide (33 < (nuR s 2 (rSt s 5)).1))⟩ : TS)).1 (lpM (rRec s) bigC (nuR s 2 (rSt s 3)).1.toNat [] (lpM (rAsk s) bigC (nuR s 2 (rSt s 2)).1.toNat [] (⟨(rSt s 6).at_, ((rSt s 6).bad || !decide (bits .and .i64 (nuR s 2 (rSt s 1)).1 240 = 0) || decide (4 < (nuR s 2 (rSt s 2)).1) || decide (32 < (nuR s 2 (rSt s 3)).1) || decide (32 < (nuR s 2 (rSt s 4)).1) || decide (33 < (nuR s 2 (rSt s 5)).1))⟩ : TS)).2).1 (lpM (rRec s) bigC (nuR s 2 (rSt s 4)).1.toNat [] (lpM (rRec s) bigC (nuR s 2 (rSt s 3)).1.toNat [] (lpM (rAsk s) bigC (nuR s 2 (rSt s 2)).1.toNat [] (⟨(rSt s 6).at_, ((rSt s 6).bad || !decide (bits .and .i64 (nuR s 2 (rSt s 1)).1 240 = 0) || decide (4 < (nuR s 2 (rSt s 2)).1) || decide (32 < (nuR s 2 (rSt s 3)).1) || decide (32 < (nuR s 2 (rSt s 4)).1) || decide (33 < (nuR s 2 (rSt s 5)).1))⟩ : TS)).2).2).1 out z) (oa o, cc) (oa o12, c12) (oa o13, c13) (oa o2, cc2)) :: (MmO b2 s (rRec s u).2 :: (rowL o14 58 (flat encR [(rRec s u).1] p14) ++ (rowL o13 58 (flat encR (lpM (rRec s) bigC (nuR s 2 (rSt s 4)).1.toNat [] (lpM (rRec s) bigC (nuR s 2 (rSt s 3)).1.toNat [] (lpM (rAsk s) bigC (nuR s 2 (rSt s 2)).1.toNat [] (⟨(rSt s 6).at_, ((rSt s 6).bad || !decide (bits .and .i64 (nuR s 2 (rSt s 1)).1 240 = 0) || decide (4 < (nuR s 2 (rSt s 2)).1) || decide (32 < (nuR s 2 (rSt s 3)).1) || decide (32 < (nuR s 2 (rSt s 4)).1) || decide (33 < (nuR s 2 (rSt s 5)).1))⟩ : TS)).2).2).1 p13) ++ (rowL o12 58 (flat encR (lpM (rRec s) bigC (nuR s 2 (rSt s 3)).1.toNat [] (lpM (rAsk s) bigC (nuR s 2 (rSt s 2)).1.toNat [] (⟨(rSt s 6).at_, ((rSt s 6).bad || !decide (bits .and .i64 (nuR s 2 (rSt s 1)).1 240 = 0) || decide (4 < (nuR s 2 (rSt s 2)).1) || decide (32 < (nuR s 2 (rSt s 3)).1) || decide (32 < (nuR s 2 (rSt s 4)).1) || decide (33 < (nuR s 2 (rSt s 5)).1))⟩ : TS)).2).1 p12) ++ ((DnO b1 noD nS nS nS nS) :: rowL o 29 (flat encQ (lpM (rAsk s) bigC (nuR s 2 (rSt s 2)).1.toNat [] (⟨(rSt s 6).at_, ((rSt s 6).bad || !decide (bits .and .i64 (nuR s 2 (rSt s 1)).1 240 = 0) || decide (4 < (nuR s 2 (rSt s 2)).1) || decide (32 < (nuR s 2 (rSt s 3)).1) || decide (32 < (nuR s 2 (rSt s 4)).1) || decide (33 < (nuR s 2 (rSt s 5)).1))⟩ : TS)).1 sp)))))))) (by simp only [List.append_assoc, List.cons_append, List.nil_append]; exact List.Perm.refl _) ?_
   refine WL.nilQa ?_
   refine RH.one (i := 1) (fun _ _ h => h) (by kernel_rfl) rfl ?_
   refine W.p O.ld ?_
   refine WL.nilQa ?_
   refine RH.one (i := 4) (fun _ _ h => h) (by kernel_rfl) rfl ?_
   refine W.ap rfl (vt rfl) (vt rfl) (by first | rfl | omega) (by first | rfl | omega) rfl (by first | assumption | exact OwnOk.nil | exact OwnOk.lit) (by first | omega | (simp; omega)) fun o3 c3 sp3 ok3 ne3 gt3 => ?_
   have nk3 := ok3.nk; have le3 := ok3.2.2.1; try simp only [List.length_append, List.length_cons, List.length_nil] at le3
   refine WL.nilQa ?_
   first | refine RH.qa 5 rfl (O.fb) ?_ | refine RH.qa 5 rfl (O.fa) ?_
   refine RH.one (i := 6) (fun _ _ h => h) (by kernel_rfl) rfl ?_
   first | refine W.st (vt rfl) (vt rfl) rfl ?_ | refine W.st (u := .slice _ _ _) (vt rfl) (vt rfl) rfl ?_
   refine WL.nilQa ?_
   refine RH.done (by kernel_rfl) (Q.bn (Q.tn ?_))
   refine W.go ?_
   refine nextA (i + 1, out ++ [(rRec s u).1], z, (rRec s u).2, _, _, _) ?_ ?_
   ·try dsimp only
    refine ⟨by omega, by omega, by assumption, ?_, by simp only [List.length_append, List.length_cons, List.length_nil]; omega⟩
    rw [← hr, adR_rec (k := (nuR s 2 (rSt s 5)).1 - i) (by omega) hc2.2 hc3, show (nuR s 2 (rSt s 5)).1 - i - 1 = (nuR s 2 (rSt s 5)).1 - (i + 1) by omega]
   ·try dsimp only
    omega
 try simp only [sk] at hc2
 have hq : (adR s (nuR s 2 (rSt s 5)).1.toNat [] 0 (lpM (rRec s) bigC (nuR s 2 (rSt s 4)).1.toNat [] (lpM (rRec s) bigC (nuR s 2 (rSt s 3)).1.toNat [] (lpM (rAsk s) bigC (nuR s 2 (rSt s 2)).1.toNat [] (⟨(rSt s 6).at_, ((rSt s 6).bad || !decide (bits .and .i64 (nuR s 2 (rSt s 1)).1 240 = 0) || decide (4 < (nuR s 2 (rSt s 2)).1) || decide (32 < (nuR s 2 (rSt s 3)).1) || decide (32 < (nuR s 2 (rSt s 4)).1) || decide (33 < (nuR s 2 (rSt s 5)).1))⟩ : TS)).2).2).2) = (out, z, u) := by rw [← hr]; exact adR_end (by rcases hc2 with h | h; exact .inl (by omega); exact .inr (by simpa using h))
 have hq1 : out = (adR s (nuR s 2 (rSt s 5)).1.toNat [] 0 (lpM (rRec s) bigC (nuR s 2 (rSt s 4)).1.toNat [] (lpM (rRec s) bigC (nuR s 2 (rSt s 3)).1.toNat [] (lpM (rAsk s) bigC (nuR s 2 (rSt s 2)).1.toNat [] (⟨(rSt s 6).at_, ((rSt s 6).bad || !decide (bits .and .i64 (nuR s 2 (rSt s 1)).1 240 = 0) || decide (4 < (nuR s 2 (rSt s 2)).1) || decide (32 < (nuR s 2 (rSt s 3)).1) || decide (32 < (nuR s 2 (rSt s 4)).1) || decide (33 < (nuR s 2 (rSt s 5)).1))⟩ : TS)).2).2).2).1 := by rw [hq]
 have hq2 : z = (adR s (nuR s 2 (rSt s 5)).1.toNat [] 0 (lpM (rRec s) bigC (nuR s 2 (rSt s 4)).1.toNat [] (lpM (rRec s) bigC (nuR s 2 (rSt s 3)).1.toNat [] (lpM (rAsk s) bigC (nuR s 2 (rSt s 2)).1.toNat [] (⟨(rSt s 6).at_, ((rSt s 6).bad || !decide (bits .and .i64 (nuR s 2 (rSt s 1)).1 240 = 0) || decide (4 < (nuR s 2 (rSt s 2)).1) || decide (32 < (nuR s 2 (rSt s 3)).1) || decide (32 < (nuR s 2 (rSt s 4)).1) || decide (33 < (nuR s 2 (rSt s 5)).1))⟩ : TS)).2).2).2).2.1 := by rw [hq]
 have hq3 : u = (adR s (nuR s 2 (rSt s 5)).1.toNat [] 0 (lpM (rRec s) bigC (nuR s 2 (rSt s 4)).1.toNat [] (lpM (rRec s) bigC (nuR s 2 (rSt s 3)).1.toNat [] (lpM (rAsk s) bigC (nuR s 2 (rSt s 2)).1.toNat [] (⟨(rSt s 6).at_, ((rSt s 6).bad || !decide (bits .and .i64 (nuR s 2 (rSt s 1)).1 240 = 0) || decide (4 < (nuR s 2 (rSt s 2)).1) || decide (32 < (nuR s 2 (rSt s 3)).1) || decide (32 < (nuR s 2 (rSt s 4)).1) || decide (33 < (nuR s 2 (rSt s 5)).1))⟩ : TS)).2).2).2).2.2 := by rw [hq]
 clear hr hc2 hq
 subst hq1
 subst hq2
 subst hq3
 have hfin : dnGet s = if (adR s (nuR s 2 (rSt s 5)).1.toNat [] 0 (lpM (rRec s) bigC (nuR s 2 (rSt s 4)).1.toNat [] (lpM (rRec s) bigC (nuR s 2 (rSt s 3)).1.toNat [] (lpM (rAsk s) bigC (nuR s 2 (rSt s 2)).1.toNat [] (⟨(rSt s 6).at_, ((rSt s 6).bad || !decide (bits .and .i64 (nuR s 2 (rSt s 1)).1 240 = 0) || decide (4 < (nuR s 2 (rSt s 2)).1) || decide (32 < (nuR s 2 (rSt s 3)).1) || decide (32 < (nuR s 2 (rSt s 4)).1) || decide (33 < (nuR s 2 (rSt s 5)).1))⟩ : TS)).2).2).2).2.2.bad = true ∨ (adR s (nuR s 2 (rSt s 5)).1.toNat [] 0 (lpM (rRec s) bigC (nuR s 2 (rSt s 4)).1.toNat [] (lpM (rRec s) bigC (nuR s 2 (rSt s 3)).1.toNat [] (lpM (rAsk s) bigC (nuR s 2 (rSt s 2)).1.toNat [] (⟨(rSt s 6).at_, ((rSt s 6).bad || !decide (bits .and .i64 (nuR s 2 (rSt s 1)).1 240 = 0) || decide (4 < (nuR s 2 (rSt s 2)).1) || decide (32 < (nuR s 2 (rSt s 3)).1) || decide (32 < (nuR s 2 (rSt s 4)).1) || decide (33 < (nuR s 2 (rSt s 5)).1))⟩ : TS)).2).2).2).2.2.at_ ≠ s.length ∨ dnMay (hdD (nuR s 2 (rSt s 1)).1 (nuR s 2 (rSt s 0)).1 (lpM (rAsk s) bigC (nuR s 2 (rSt s 2)).1.toNat [] (⟨(rSt s 6).at_, ((rSt s 6).bad || !decide (bits .and .i64 (nuR s 2 (rSt s 1)).1 240 = 0) || decide (4 < (nuR s 2 (rSt s 2)).1) || decide (32 < (nuR s 2 (rSt s 3)).1) || decide (32 < (nuR s 2 (rSt s 4)).1) || decide (33 < (nuR s 2 (rSt s 5)).1))⟩ : TS)).1 (lpM (rRec s) bigC (nuR s 2 (rSt s 3)).1.toNat [] (lpM (rAsk s) bigC (nuR s 2 (rSt s 2)).1.toNat [] (⟨(rSt s 6).at_, ((rSt s 6).bad || !decide (bits .and .i64 (nuR s 2 (rSt s 1)).1 240 = 0) || decide (4 < (nuR s 2 (rSt s 2)).1) || decide (32 < (nuR s 2 (rSt s 3)).1) || decide (32 < (nuR s 2 (rSt s 4)).1) || decide (33 < (nuR s 2 (rSt s 5)).1))⟩ : TS)).2).1 (lpM (rRec s) bigC (nuR s 2 (rSt s 4)).1.toNat [] (lpM (rRec s) bigC (nuR s 2 (rSt s 3)).1.toNat [] (lpM (rAsk s) bigC (nuR s 2 (rSt s 2)).1.toNat [] (⟨(rSt s 6).at_, ((rSt s 6).bad || !decide (bits .and .i64 (nuR s 2 (rSt s 1)).1 240 = 0) || decide (4 < (nuR s 2 (rSt s 2)).1) || decide (32 < (nuR s 2 (rSt s 3)).1) || decide (32 < (nuR s 2 (rSt s 4)).1) || decide (33 < (nuR s 2 (rSt s 5)).1))⟩ : TS)).2).2).1 (adR s (nuR s 2 (rSt s 5)).1.toNat [] 0 (lpM (rRec s) bigC (nuR s 2 (rSt s 4)).1.toNat [] (lpM (rRec s) bigC (nuR s 2 (rSt s 3)).1.toNat [] (lpM (rAsk s) bigC (nuR s 2 (rSt s 2)).1.toNat [] (⟨(rSt s 6).at_, ((rSt s 6).bad || !decide (bits .and .i64 (nuR s 2 (rSt s 1)).1 240 = 0) || decide (4 < (nuR s 2 (rSt s 2)).1) || decide (32 < (nuR s 2 (rSt s 3)).1) || decide (32 < (nuR s 2 (rSt s 4)).1) || decide (33 < (nuR s 2 (rSt s 5)).1))⟩ : TS)).2).2).2).1 (adR s (nuR s 2 (rSt s 5)).1.toNat [] 0 (lpM (rRec s) bigC (nuR s 2 (rSt s 4)).1.toNat [] (lpM (rRec s) bigC (nuR s 2 (rSt s 3)).1.toNat [] (lpM (rAsk s) bigC (nuR s 2 (rSt s 2)).1.toNat [] (⟨(rSt s 6).at_, ((rSt s 6).bad || !decide (bits .and .i64 (nuR s 2 (rSt s 1)).1 240 = 0) || decide (4 < (nuR s 2 (rSt s 2)).1) || decide (32 < (nuR s 2 (rSt s 3)).1) || decide (32 < (nuR s 2 (rSt s 4)).1) || decide (33 < (nuR s 2 (rSt s 5)).1))⟩ : TS)).2).2).2).2.1) = false then (noD, 500) else ((hdD (nuR s 2 (rSt s 1)).1 (nuR s 2 (rSt s 0)).1 (lpM (rAsk s) bigC (nuR s 2 (rSt s 2)).1.toNat [] (⟨(rSt s 6).at_, ((rSt s 6).bad || !decide (bits .and .i64 (nuR s 2 (rSt s 1)).1 240 = 0) || decide (4 < (nuR s 2 (rSt s 2)).1) || decide (32 < (nuR s 2 (rSt s 3)).1) || decide (32 < (nuR s 2 (rSt s 4)).1) || decide (33 < (nuR s 2 (rSt s 5)).1))⟩ : TS)).1 (lpM (rRec s) bigC (nuR s 2 (rSt s 3)).1.toNat [] (lpM (rAsk s) bigC (nuR s 2 (rSt s 2)).1.toNat [] (⟨(rSt s 6).at_, ((rSt s 6).bad || !decide (bits .and .i64 (nuR s 2 (rSt s 1)).1 240 = 0) || decide (4 < (nuR s 2 (rSt s 2)).1) || decide (32 < (nuR s 2 (rSt s 3)).1) || decide (32 < (nuR s 2 (rSt s 4)).1) || decide (33 < (nuR s 2 (rSt s 5)).1))⟩ : TS)).2).1 (lpM (rRec s) bigC (nuR s 2 (rSt s 4)).1.toNat [] (lpM (rRec s) bigC (nuR s 2 (rSt s 3)).1.toNat [] (lpM (rAsk s) bigC (nuR s 2 (rSt s 2)).1.toNat [] (⟨(rSt s 6).at_, ((rSt s 6).bad || !decide (bits .and .i64 (nuR s 2 (rSt s 1)).1 240 = 0) || decide (4 < (nuR s 2 (rSt s 2)).1) || decide (32 < (nuR s 2 (rSt s 3)).1) || decide (32 < (nuR s 2 (rSt s 4)).1) || decide (33 < (nuR s 2 (rSt s 5)).1))⟩ : TS)).2).2).1 (adR s (nuR s 2 (rSt s 5)).1.toNat [] 0 (lpM (rRec s) bigC (nuR s 2 (rSt s 4)).1.toNat [] (lpM (rRec s) bigC (nuR s 2 (rSt s 3)).1.toNat [] (lpM (rAsk s) bigC (nuR s 2 (rSt s 2)).1.toNat [] (⟨(rSt s 6).at_, ((rSt s 6).bad || !decide (bits .and .i64 (nuR s 2 (rSt s 1)).1 240 = 0) || decide (4 < (nuR s 2 (rSt s 2)).1) || decide (32 < (nuR s 2 (rSt s 3)).1) || decide (32 < (nuR s 2 (rSt s 4)).1) || decide (33 < (nuR s 2 (rSt s 5)).1))⟩ : TS)).2).2).2).1 (adR s (nuR s 2 (rSt s 5)).1.toNat [] 0 (lpM (rRec s) bigC (nuR s 2 (rSt s 4)).1.toNat [] (lpM (rRec s) bigC (nuR s 2 (rSt s 3)).1.toNat [] (lpM (rAsk s) bigC (nuR s 2 (rSt s 2)).1.toNat [] (⟨(rSt s 6).at_, ((rSt s 6).bad || !decide (bits .and .i64 (nuR s 2 (rSt s 1)).1 240 = 0) || decide (4 < (nuR s 2 (rSt s 2)).1) || decide (32 < (nuR s 2 (rSt s 3)).1) || decide (32 < (nuR s 2 (rSt s 4)).1) || decide (33 < (nuR s 2 (rSt s 5)).1))⟩ : TS)).2).2).2).2.1), 0) := by rw [← dnGetR_eq]; rfl
 refine W.go ?_
 refine W.q (O.call ⟨rfl, rfl⟩ (AV.cons (vs rfl) (AV.nil)) (fun _ w hw => ref_DnsMay (hdD (nuR s 2 (rSt s 1)).1 (nuR s 2 (rSt s 0)).1 (lpM (rAsk s) bigC (nuR s 2 (rSt s 2)).1.toNat [] (⟨(rSt s 6).at_, ((rSt s 6).bad || !decide (bits .and .i64 (nuR s 2 (rSt s 1)).1 240 = 0) || decide (4 < (nuR s 2 (rSt s 2)).1) || decide (32 < (nuR s 2 (rSt s 3)).1) || decide (32 < (nuR s 2 (rSt s 4)).1) || decide (33 < (nuR s 2 (rSt s 5)).1))⟩ : TS)).1 (lpM (rRec s) bigC (nuR s 2 (rSt s 3)).1.toNat [] (lpM (rAsk s) bigC (nuR s 2 (rSt s 2)).1.toNat [] (⟨(rSt s 6).at_, ((rSt s 6).bad || !decide (bits .and .i64 (nuR s 2 (rSt s 1)).1 240 = 0) || decide (4 < (nuR s 2 (rSt s 2)).1) || decide (32 < (nuR s 2 (rSt s 3)).1) || decide (32 < (nuR s 2 (rSt s 4)).1) || decide (33 < (nuR s 2 (rSt s 5)).1))⟩ : TS)).2).1 (lpM (rRec s) bigC (nuR s 2 (rSt s 4)).1.toNat [] (lpM (rRec s) bigC (nuR s 2 (rSt s 3)).1.toNat [] (lpM (rAsk s) bigC (nuR s 2 (rSt s 2)).1.toNat [] (⟨(rSt s 6).at_, ((rSt s 6).bad || !decide (bits .and .i64 (nuR s 2 (rSt s 1)).1 240 = 0) || decide (4 < (nuR s 2 (rSt s 2)).1) || decide (32 < (nuR s 2 (rSt s 3)).1) || decide (32 < (nuR s 2 (rSt s 4)).1) || decide (33 < (nuR s 2 (rSt s 5)).1))⟩ : TS)).2).2).1 (adR s (nuR s 2 (rSt s 5)).1.toNat [] 0 (lpM (rRec s) bigC (nuR s 2 (rSt s 4)).1.toNat [] (lpM (rRec s) bigC (nuR s 2 (rSt s 3)).1.toNat [] (lpM (rAsk s) bigC (nuR s 2 (rSt s 2)).1.toNat [] (⟨(rSt s 6).at_, ((rSt s 6).bad || !decide (bits .and .i64 (nuR s 2 (rSt s 1)).1 240 = 0) || decide (4 < (nuR s 2 (rSt s 2)).1) || decide (32 < (nuR s 2 (rSt s 3)).1) || decide (32 < (nuR s 2 (rSt s 4)).1) || decide (33 < (nuR s 2 (rSt s 5)).1))⟩ : TS)).2).2).2).1 (adR s (nuR s 2 (rSt s 5)).1.toNat [] 0 (lpM (rRec s) bigC (nuR s 2 (rSt s 4)).1.toNat [] (lpM (rRec s) bigC (nuR s 2 (rSt s 3)).1.toNat [] (lpM (rAsk s) bigC (nuR s 2 (rSt s 2)).1.toNat [] (⟨(rSt s 6).at_, ((rSt s 6).bad || !decide (bits .and .i64 (nuR s 2 (rSt s 1)).1 240 = 0) || decide (4 < (nuR s 2 (rSt s 2)).1) || decide (32 < (nuR s 2 (rSt s 3)).1) || decide (32 < (nuR s 2 (rSt s 4)).1) || decide (33 < (nuR s 2 (rSt s 5)).1))⟩ : TS)).2).2).2).2.1) (oa o, cc) (oa o12, c12) (oa o13, c13) (oa o2, cc2) w ⟨(show In w (oa o) ((lpM (rAsk s) bigC (nuR s 2 (rSt s 2)).1.toNat [] (⟨(rSt s 6).at_, ((rSt s 6).bad || !decide (bits .and .i64 (nuR s 2 (rSt s 1)).1 240 = 0) || decide (4 < (nuR s 2 (rSt s 2)).1) || decide (32 < (nuR s 2 (rSt s 3)).1) || decide (32 < (nuR s 2 (rSt s 4)).1) || decide (33 < (nuR s 2 (rSt s 5)).1))⟩ : TS)).1.flatMap encQ) from RowL.h _ hw), (show In w (oa o12) ((lpM (rRec s) bigC (nuR s 2 (rSt s 3)).1.toNat [] (lpM (rAsk s) bigC (nuR s 2 (rSt s 2)).1.toNat [] (⟨(rSt s 6).at_, ((rSt s 6).bad || !decide (bits .and .i64 (nuR s 2 (rSt s 1)).1 240 = 0) || decide (4 < (nuR s 2 (rSt s 2)).1) || decide (32 < (nuR s 2 (rSt s 3)).1) || decide (32 < (nuR s 2 (rSt s 4)).1) || decide (33 < (nuR s 2 (rSt s 5)).1))⟩ : TS)).2).1.flatMap encR) from RowL.h _ hw), (show In w (oa o13) ((lpM (rRec s) bigC (nuR s 2 (rSt s 4)).1.toNat [] (lpM (rRec s) bigC (nuR s 2 (rSt s 3)).1.toNat [] (lpM (rAsk s) bigC (nuR s 2 (rSt s 2)).1.toNat [] (⟨(rSt s 6).at_, ((rSt s 6).bad || !decide (bits .and .i64 (nuR s 2 (rSt s 1)).1 240 = 0) || decide (4 < (nuR s 2 (rSt s 2)).1) || decide (32 < (nuR s 2 (rSt s 3)).1) || decide (32 < (nuR s 2 (rSt s 4)).1) || decide (33 < (nuR s 2 (rSt s 5)).1))⟩ : TS)).2).2).1.flatMap encR) from RowL.h _ hw), (show In w (oa o2) ((adR s (nuR s 2 (rSt s 5)).1.toNat [] 0 (lpM (rRec s) bigC (nuR s 2 (rSt s 4)).1.toNat [] (lpM (rRec s) bigC (nuR s 2 (rSt s 3)).1.toNat [] (lpM (rAsk s) bigC (nuR s 2 (rSt s 2)).1.toNat [] (⟨(rSt s 6).at_, ((rSt s 6).bad || !decide (bits .and .i64 (nuR s 2 (rSt s 1)).1 240 = 0) || decide (4 < (nuR s 2 (rSt s 2)).1) || decide (32 < (nuR s 2 (rSt s 3)).1) || decide (32 < (nuR s 2 (rSt s 4)).1) || decide (33 < (nuR s 2 (rSt s 5)).1))⟩ : TS)).2).2).2).1.flatMap encR) from RowL.h _ hw)⟩ (dn_szR (by omega) (by omega) (by omega) (by omega)))) ?_
 refine W.go ?_
 refine CW.cond (vt rfl) (fun hc4 => ?_) (fun hc4 => ?_)
 ·try simp only [sk] at hc4
  refine W.go ?_
  refine W.p (O.bd (hv := PV.nil)) ?_
  refine W.st (vt rfl) (vt rfl) rfl ?_
  refine W.go ?_
  refine ⟨_, [], (RVs.cell rfl (RVs.tmp rfl RVs.nil)), List.nil_sublist _, ?_⟩
  rw [hfin, if_pos (by rcases hc4 with (h | h) | h; exact .inl h; exact .inr (.inl h); exact .inr (.inr h))]
  exact ⟨none, 0, [], none, 0, [], none, 0, [], none, 0, [], rfl, OwnOk.nil, OwnOk.nil, OwnOk.nil, OwnOk.nil, rfl⟩
 try simp only [sk] at hc4
 refine W.go ?_
 refine W.st (vt rfl) (vt rfl) rfl ?_
 refine W.go ?_
 refine ⟨_, rowL o2 58 (flat encR (adR s (nuR s 2 (rSt s 5)).1.toNat [] 0 (lpM (rRec s) bigC (nuR s 2 (rSt s 4)).1.toNat [] (lpM (rRec s) bigC (nuR s 2 (rSt s 3)).1.toNat [] (lpM (rAsk s) bigC (nuR s 2 (rSt s 2)).1.toNat [] (⟨(rSt s 6).at_, ((rSt s 6).bad || !decide (bits .and .i64 (nuR s 2 (rSt s 1)).1 240 = 0) || decide (4 < (nuR s 2 (rSt s 2)).1) || decide (32 < (nuR s 2 (rSt s 3)).1) || decide (32 < (nuR s 2 (rSt s 4)).1) || decide (33 < (nuR s 2 (rSt s 5)).1))⟩ : TS)).2).2).2).1 sp2) ++ (rowL o13 58 (flat encR (lpM (rRec s) bigC (nuR s 2 (rSt s 4)).1.toNat [] (lpM (rRec s) bigC (nuR s 2 (rSt s 3)).1.toNat [] (lpM (rAsk s) bigC (nuR s 2 (rSt s 2)).1.toNat [] (⟨(rSt s 6).at_, ((rSt s 6).bad || !decide (bits .and .i64 (nuR s 2 (rSt s 1)).1 240 = 0) || decide (4 < (nuR s 2 (rSt s 2)).1) || decide (32 < (nuR s 2 (rSt s 3)).1) || decide (32 < (nuR s 2 (rSt s 4)).1) || decide (33 < (nuR s 2 (rSt s 5)).1))⟩ : TS)).2).2).1 p13) ++ (rowL o12 58 (flat encR (lpM (rRec s) bigC (nuR s 2 (rSt s 3)).1.toNat [] (lpM (rAsk s) bigC (nuR s 2 (rSt s 2)).1.toNat [] (⟨(rSt s 6).at_, ((rSt s 6).bad || !decide (bits .and .i64 (nuR s 2 (rSt s 1)).1 240 = 0) || decide (4 < (nuR s 2 (rSt s 2)).1) || decide (32 < (nuR s 2 (rSt s 3)).1) || decide (32 < (nuR s 2 (rSt s 4)).1) || decide (33 < (nuR s 2 (rSt s 5)).1))⟩ : TS)).2).1 p12) ++ rowL o 29 (flat encQ (lpM (rAsk s) bigC (nuR s 2 (rSt s 2)).1.toNat [] (⟨(rSt s 6).at_, ((rSt s 6).bad || !decide (bits .and .i64 (nuR s 2 (rSt s 1)).1 240 = 0) || decide (4 < (nuR s 2 (rSt s 2)).1) || decide (32 < (nuR s 2 (rSt s 3)).1) || decide (32 < (nuR s 2 (rSt s 4)).1) || decide (33 < (nuR s 2 (rSt s 5)).1))⟩ : TS)).1 sp))), (RVs.cell rfl (RVs.tmp rfl RVs.nil)), (by repeat (first | exact List.Sublist.refl _ | exact hSub _ | exact List.sublist_append_left _ _ | exact List.nil_sublist _ | refine List.Sublist.append (List.Sublist.refl _) ?_ | apply List.Sublist.cons_cons | apply List.Sublist.cons | exact List.sublist_append_left _ _ | refine List.Sublist.trans ?_ (List.sublist_append_right _ _))), ?_⟩
 rw [hfin, if_neg (by rintro (h | h | h); (rw [hc4.1.1] at h; cases h); exact h hc4.1.2; (rw [hc4.2] at h; cases h))]
 exact ⟨o, cc, sp, o12, c12, p12, o13, c13, p13, o2, cc2, sp2, rfl, ok9, ok12, ok13, ok8, rfl⟩
end Go.Proofs.YtfmdaijkgjkmpaaGreatDoor
