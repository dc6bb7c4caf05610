/- What the document's DnsMay, written and PutDns come to. Conditions: the rows are not longer than a million, the texts not than some 2^42 bytes. -/
import Derived.Test.YtkjcmdgideddnaaDnC
import Derived.Test.YtkjcmdgideddnaaRrRef2
set_option linter.unusedVariables false
set_option linter.unusedSimpArgs false
namespace Go.Proofs.Ytkjcmdgideddnaa
open Go Go.RowKit
set_option maxRecDepth 100000 in
theorem ref_flag (b : Bool) (x : Int) (w : World) : Fn Try.prog 169 [.bool b, .int .i64 x] w [] fun v L' => v = .int .i64 (flg b x) ∧ L' = [] := by
  refine Fn.enter Try.func169 rfl rfl rfl rfl (Holds.nil w) ?_
  refine CW.seq ?_
  refine CW.region ?_
  refine W.p O.as ?_
  refine WL.nil (Q.tn ?_)
  refine CW.seq ?_
  refine CW.seq ?_
  refine CW.region ?_
  refine W.p O.mv ?_
  refine WL.nil (Q.tn ?_)
  refine CW.cond (vt rfl) (fun hc1 => ?_) (fun hc1 => ?_)
  · try simp only [sk] at hc1
    refine CW.seq ?_
    refine CW.region ?_
    refine W.p O.mv ?_
    refine W.p O.as ?_
    refine WL.nil (Q.tn ?_)
    refine CW.ret (Q.tr ?_)
    refine ⟨_, [], (RVs.tmp rfl RVs.nil), List.nil_sublist _, ?_⟩
    refine ⟨?_, rfl⟩
    rw [show b = true from hc1]; rfl
  try simp only [sk] at hc1
  refine CW.skip (Q.tn ?_)
  refine CW.seq ?_
  refine CW.region ?_
  refine W.p O.as ?_
  refine WL.nil (Q.tn ?_)
  refine CW.ret ?_
  refine ⟨_, [], (RVs.tmp rfl RVs.nil), List.nil_sublist _, ?_⟩
  refine ⟨?_, rfl⟩
  rw [show b = false from hc1]; rfl
theorem inR_lt {x t : Int} : inR x 0 t = (decide (0 ≤ x) && decide (x < t + 1)) := by
  rw [inR, show decide (x ≤ t) = decide (x < t + 1) from decide_eq_decide.2 (by omega)]
theorem ref_w16 (x : Int) (w : World) : Fn Try.prog 123 [.int .i64 x, .int .i64 16] w [] fun v L' => v = .bool (inR x 0 65535) ∧ L' = [] := by
  rw [inR_lt]; exact ref_within x 16 w (by decide)
theorem ref_w4 (x : Int) (w : World) : Fn Try.prog 123 [.int .i64 x, .int .i64 4] w [] fun v L' => v = .bool (inR x 0 15) ∧ L' = [] := by
  rw [inR_lt]; exact ref_within x 4 w (by decide)
set_option maxRecDepth 100000 in
theorem ref_rrsMay (rs : List RR) (a : Option Addr) (c : Nat) (w : World) (h : In w a (rs.flatMap encR)) (hn : rs.length ≤ 1048576) (hk : NmB rs 4398046511104) : Fn Try.prog 147 [.slice a rs.length c] w [] fun v L' => v = .bool (rsMay rs) ∧ L' = [] := by
  have row := Row.ofE (dv := dR) h
  refine Fn.enter Try.func147 rfl rfl rfl rfl (Holds.nil w) ?_
  refine CW.seq ?_
  refine CW.region ?_
  refine W.p O.as ?_
  refine WL.nil (Q.tn ?_)
  refine CW.seq ?_
  refine CW.seq ?_
  refine CW.region ?_
  refine W.p O.as ?_
  refine WL.nil (Q.tn ?_)
  refine CW.block ?_
  refine CW.loopA (X := Int) (fun i => [(0, true, .slice a rs.length c), (3, true, .int .i64 i)]) (fun i => []) (fun i => 0 ≤ i ∧ i ≤ rs.length ∧ (rs.take i.toNat).all rrMay = true) (fun i => (rs.length - i).toNat) (0) ?_ ?_
  · exact ⟨by omega, by omega, rfl⟩
  rintro i hI
  try dsimp only at hI ⊢
  obtain ⟨h0, h1, hr⟩ := hI
  refine CW.seq ?_
  refine CW.seq ?_
  refine CW.region ?_
  refine W.p O.mv ?_
  refine W.p O.mv ?_
  refine W.p O.lenL ?_
  refine W.p O.lss ?_
  refine WL.nil (Q.tn ?_)
  refine CW.cond (vt rfl) (fun hc1 => ?_) (fun hc1 => ?_)
  · try simp only [sk] at hc1
    have hkk := hk _ (mem_at dR h0 hc1)
    refine CW.skip (Q.tn ?_)
    refine CW.seq ?_
    refine CW.block ?_
    refine CW.seq ?_
    refine CW.region ?_
    refine W.p O.mv ?_
    refine W.p O.mv ?_
    refine W.p O.ixA ?_
    refine W.p O.ldsE ?_
    refine W.q (O.call ⟨rfl, rfl⟩ (AV.cons (vt rfl) (AV.nil)) (fun _ w hw => ref_RrMay (rs.getD i.toNat dR) w hkk.1 hkk.2)) ?_
    refine W.p O.nt ?_
    refine WL.nil (Q.tn ?_)
    refine CW.cond (vt rfl) (fun hc2 => ?_) (fun hc2 => ?_)
    · try simp only [sk] at hc2
      refine CW.seq ?_
      refine CW.region ?_
      refine W.p O.as ?_
      refine WL.nil (Q.tn ?_)
      refine CW.ret (Q.br (Q.tr (Q.tr (Q.br (Q.tr ?_)))))
      refine ⟨_, [], (RVs.tmp rfl RVs.nil), List.nil_sublist _, ?_⟩
      refine ⟨congrArg Value.bool ?_, rfl⟩
      rw [rsMay, show rs.all rrMay = false from List.all_eq_false.2 ⟨_, mem_at dR h0 hc1, by rw [hc2]; decide⟩, Bool.and_false]
    try simp only [sk] at hc2
    refine CW.skip (Q.bn (Q.tn ?_))
    refine CW.region ?_
    refine W.p O.mv ?_
    first | refine W.p O.addN ?_ | refine W.p O.add ?_
    refine W.p O.as ?_
    refine WL.nil (Q.tn ?_)
    refine nextA (_) ?_ ?_
    · try dsimp only
      exact ⟨by omega, by omega, by rw [take_at' dR h0 hc1, List.all_append, hr]; simp only [List.all_cons, hc2, List.all_nil, Bool.and_true]⟩
    · try dsimp only
      omega
  try simp only [sk] at hc1
  refine CW.exit (Q.te (Q.te (Q.bx (Q.tn ?_))))
  refine CW.seq ?_
  refine CW.region ?_
  refine W.p O.mv ?_
  refine W.p O.lenL ?_
  refine W.p O.leq ?_
  refine W.p O.as ?_
  refine WL.nil (Q.tn ?_)
  refine CW.ret ?_
  refine ⟨_, [], (RVs.tmp rfl RVs.nil), List.nil_sublist _, ?_⟩
  refine ⟨congrArg Value.bool ?_, rfl⟩
  rw [List.take_of_length_le (by omega)] at hr
  rw [rsMay, hr, Bool.and_true]; exact decide_eq_decide.2 (by omega)
set_option maxRecDepth 100000 in
theorem ref_DnsMay (m : Dn) (q a s d : Sl) (w : World) (h : DnIn w m q a s d) (hz : DnSz m 4398046511104) : Fn Try.prog 85 [vDn m q a s d] w [] fun v L' => v = .bool (dnMay m) ∧ L' = [] := by
  have row := Row.ofE (dv := dQ) h.hq
  have hq2 := hz.hq.1
  refine Fn.enter Try.func85 rfl rfl rfl rfl (Holds.nil w) ?_
  refine CW.seq ?_
  refine CW.region ?_
  refine W.bx rfl (vt rfl) rfl fun b1 => ?_
  refine W.p O.as ?_
  refine WL.nil (Q.tn ?_)
  refine CW.seq ?_
  refine CW.seq ?_
  refine CW.region ?_
  refine W.p O.as ?_
  refine WL.nil (Q.tn ?_)
  refine CW.block ?_
  refine CW.loopA (X := Int) (fun i => [(1, true, .pointer (some ⟨b1, 0, none⟩)), (3, true, .int .i64 i)]) (fun i => [(b1, .cells (encDn m q a s d).toArray 111 (0, 0))]) (fun i => 0 ≤ i ∧ i ≤ m.qs.length ∧ (m.qs.take i.toNat).all qMay = true) (fun i => (m.qs.length - i).toNat) (0) ?_ ?_
  · exact ⟨by omega, by omega, rfl⟩
  rintro i hI
  try dsimp only at hI ⊢
  obtain ⟨h0, h1, hr⟩ := hI
  refine CW.seq ?_
  refine CW.seq ?_
  refine CW.region ?_
  refine W.p O.mv ?_
  first | refine W.p O.fb ?_ | refine W.p O.fa ?_
  refine W.p O.ld ?_
  refine W.p O.lenL ?_
  refine W.p O.lss ?_
  refine WL.nil (Q.tn ?_)
  refine CW.cond (vt rfl) (fun hc1 => ?_) (fun hc1 => ?_)
  · try simp only [sk] at hc1
    have hkk := hz.hq.2 _ (mem_at dQ h0 hc1)
    refine CW.skip (Q.tn ?_)
    refine CW.seq ?_
    refine CW.block ?_
    refine CW.seq ?_
    refine CW.region ?_
    first | refine W.p O.fb ?_ | refine W.p O.fa ?_
    refine W.p O.ld ?_
    refine W.p O.mv ?_
    refine W.p O.ixA ?_
    first | refine W.p O.fe ?_ | refine W.p O.feR ?_
    refine W.p O.ldE ?_
    refine W.q (O.call ⟨rfl, rfl⟩ (AV.cons (vt rfl) (AV.nil)) (fun _ w hw => ref_NameMay _ w hkk)) ?_
    refine W.p O.nt ?_
    refine W.p O.mv ?_
    first | refine W.p O.fb ?_ | refine W.p O.fa ?_
    refine W.p O.ld ?_
    refine W.p O.mv ?_
    refine W.p O.ixA ?_
    first | refine W.p O.fe ?_ | refine W.p O.feR ?_
    refine W.p O.ldE ?_
    refine W.q (O.call ⟨rfl, rfl⟩ (AV.cons (vs rfl) (AV.cons (vt rfl) (AV.nil))) (fun _ w hw => ref_w16 _ w)) ?_
    refine W.p O.nt ?_
    refine W.p O.pkB ?_
    refine WL.nil (Q.tn ?_)
    refine CW.cond (vt rfl) (fun hc2 => ?_) (fun hc2 => ?_)
    · try simp only [sk] at hc2
      refine CW.seq ?_
      refine CW.region ?_
      refine W.p O.as ?_
      refine WL.nil (Q.tn ?_)
      refine CW.ret (Q.br (Q.tr (Q.tr (Q.br (Q.tr ?_)))))
      refine ⟨_, [], (RVs.tmp rfl RVs.nil), List.nil_sublist _, ?_⟩
      refine ⟨congrArg Value.bool ?_, rfl⟩
      have hno : m.qs.all qMay = false := List.all_eq_false.2 ⟨_, mem_at dQ h0 hc1, by rw [qMay]; rcases hc2 with h | h; (rw [h]; simp); (rw [h]; simp)⟩
      rw [dnMay, hno, Bool.and_false, Bool.false_and]
    try simp only [sk] at hc2
    refine CW.skip (Q.bn (Q.tn ?_))
    refine CW.region ?_
    refine W.p O.mv ?_
    first | refine W.p O.addN ?_ | refine W.p O.add ?_
    refine W.p O.as ?_
    refine WL.nil (Q.tn ?_)
    refine nextA (_) ?_ ?_
    · try dsimp only
      refine ⟨by omega, by omega, ?_⟩
      rw [take_at' dQ h0 hc1, List.all_append, hr]; simp only [List.all_cons, List.all_nil, Bool.and_true, Bool.true_and, qMay]
      rw [hc2.1, hc2.2]; rfl
    · try dsimp only
      omega
  try simp only [sk] at hc1
  refine CW.exit (Q.te (Q.te (Q.bx (Q.tn ?_))))
  refine CW.seq ?_
  refine CW.region ?_
  first | refine W.p O.fb ?_ | refine W.p O.fa ?_
  refine W.p O.ld ?_
  refine W.q (O.call ⟨rfl, rfl⟩ (AV.cons (vt rfl) (AV.cons (vt rfl) (AV.nil))) (fun _ w hw => ref_w16 _ w)) ?_
  refine W.p O.mv ?_
  first | refine W.p O.fb ?_ | refine W.p O.fa ?_
  refine W.p O.ld ?_
  refine W.q (O.call ⟨rfl, rfl⟩ (AV.cons (vs rfl) (AV.cons (vt rfl) (AV.nil))) (fun _ w hw => ref_w4 _ w)) ?_
  refine W.p O.pkB ?_
  refine W.p O.mv ?_
  first | refine W.p O.fb ?_ | refine W.p O.fa ?_
  refine W.p O.ld ?_
  refine W.q (O.call ⟨rfl, rfl⟩ (AV.cons (vs rfl) (AV.cons (vt rfl) (AV.nil))) (fun _ w hw => ref_w4 _ w)) ?_
  refine W.p O.pkB ?_
  refine W.p O.mv ?_
  first | refine W.p O.fb ?_ | refine W.p O.fa ?_
  refine W.p O.ld ?_
  refine W.p O.lenL ?_
  refine W.p O.leq ?_
  refine W.p O.pkB ?_
  refine W.p O.mv ?_
  first | refine W.p O.fb ?_ | refine W.p O.fa ?_
  refine W.p O.ld ?_
  refine W.q (O.call ⟨rfl, rfl⟩ (AV.cons (vs rfl) (AV.nil)) (fun _ w hw => ref_rrsMay m.an _ _ w (h.ha.upd (L0 := []) hw) hz.ha.1 hz.ha.2)) ?_
  refine W.p O.pkB ?_
  refine W.p O.mv ?_
  first | refine W.p O.fb ?_ | refine W.p O.fa ?_
  refine W.p O.ld ?_
  refine W.q (O.call ⟨rfl, rfl⟩ (AV.cons (vs rfl) (AV.nil)) (fun _ w hw => ref_rrsMay m.se _ _ w (h.hs.upd (L0 := []) hw) hz.hs.1 hz.hs.2)) ?_
  refine W.p O.pkB ?_
  refine W.p O.mv ?_
  first | refine W.p O.fb ?_ | refine W.p O.fa ?_
  refine W.p O.ld ?_
  refine W.q (O.call ⟨rfl, rfl⟩ (AV.cons (vs rfl) (AV.nil)) (fun _ w hw => ref_rrsMay m.ad _ _ w (h.hd.upd (L0 := []) hw) hz.hd.1 hz.hd.2)) ?_
  refine W.p O.pkB ?_
  refine W.p O.mv ?_
  first | refine W.p O.fb ?_ | refine W.p O.fa ?_
  refine W.p O.ld ?_
  refine W.p O.eqI ?_
  refine W.p O.mv ?_
  first | refine W.p O.fb ?_ | refine W.p O.fa ?_
  refine W.p O.ld ?_
  refine W.p O.geq ?_
  refine W.p O.mv ?_
  first | refine W.p O.fb ?_ | refine W.p O.fa ?_
  refine W.p O.ld ?_
  refine W.p O.leq ?_
  refine W.p O.pkB ?_
  refine W.p O.pkB ?_
  refine W.p O.pkB ?_
  refine W.p O.as ?_
  refine WL.nil (Q.tn ?_)
  refine CW.ret ?_
  refine ⟨_, [], (RVs.tmp rfl RVs.nil), List.nil_sublist _, ?_⟩
  refine ⟨congrArg Value.bool ?_, rfl⟩
  rw [List.take_of_length_le (by omega)] at hr
  rw [dnMay, hr, show inR m.size 512 65535 = (decide (512 ≤ m.size) && decide (m.size ≤ 65535)) from rfl, show decide ((m.qs.length : Int) ≤ 4) = decide (m.qs.length ≤ 4) from decide_eq_decide.2 (by omega)]
  generalize inR m.id 0 65535 = x1; generalize inR m.op 0 15 = x2; generalize inR m.code 0 15 = x3; generalize decide (m.qs.length ≤ 4) = x4; generalize rsMay m.an = x5; generalize rsMay m.se = x6; generalize rsMay m.ad = x7; generalize decide (m.size = 0) = x8; generalize decide (512 ≤ m.size) = x9; generalize decide (m.size ≤ 65535) = xa
  cases x1 <;> cases x2 <;> cases x3 <;> cases x4 <;> cases x5 <;> cases x6 <;> cases x7 <;> cases x8 <;> cases x9 <;> cases xa <;> rfl
theorem may_nm2 {r : RR} (h : rrMay r = true) : r.name.length ≤ 4398046511104 ∧ r.target.length ≤ 4398046511104 := by
  obtain ⟨hb, hn, _, _⟩ := may_parts h
  have h1 := nmMay_len hn
  refine ⟨by omega, ?_⟩
  have : r.target.length ≤ 72 := by
    unfold rrBody at hb
    split at hb
    · simp only [Bool.and_eq_true, decide_eq_true_eq] at hb; rw [hb.1.1.1]; simp
    split at hb
    · simp only [Bool.and_eq_true, decide_eq_true_eq] at hb; exact nmMay_len hb.2
    split at hb
    · simp only [Bool.and_eq_true, decide_eq_true_eq] at hb; exact nmMay_len hb.1.2
    split at hb
    · simp only [Bool.and_eq_true, decide_eq_true_eq] at hb; rw [hb.1.1.2]; simp
    · cases hb
  omega
theorem flg_le (b : Bool) {x : Int} (h : 0 ≤ x) : 0 ≤ flg b x ∧ flg b x ≤ x := by cases b <;> simp [flg, h]
set_option maxRecDepth 100000 in
set_option maxHeartbeats 2000000 in
theorem ref_written (m : Dn) (q a s d : Sl) (w : World) (h : DnIn w m q a s d) (hm : dnMay m = true) : Fn Try.prog 136 [vDn m q a s d] w [] fun v L' => v = .string (S (dWrite m)) ∧ L' = [] := by
  obtain ⟨han, hse, had, hid, hop, hco, hqs, hsz⟩ := may_d hm
  have hall := dAll_may hm
  have f1 := flg_le m.resp (x := 32768) (by decide)
  have f2 := flg_le m.auth (x := 1024) (by decide)
  have f3 := flg_le m.trunc (x := 512) (by decide)
  have f4 := flg_le m.recu (x := 256) (by decide)
  have f5 := flg_le (decide (0 < m.size)) (x := 1) (by decide)
  have hs0 : decide (0 < m.size) = !decide (m.size = 0) := by
    rcases hsz with h | h
    · rw [h]; rfl
    · rw [decide_eq_true (by omega), decide_eq_false (by omega)]; rfl
  have hb1 : ∀ x : Int, (beb x 2).length = 2 := fun x => beb_len 2 x
  have hb3 : (beb 0 4).length = 4 := rfl
  have hb6 : ([0] : List UInt8).length = 1 := rfl
  have rowq := Row.ofE (dv := dQ) h.hq
  have rowa := Row.ofE (dv := dR) h.ha
  have rows := Row.ofE (dv := dR) h.hs
  have rowd := Row.ofE (dv := dR) h.hd
  refine Fn.enter Try.func136 rfl rfl rfl rfl (Holds.nil w) ?_
  refine CW.seq ?_
  refine CW.region ?_
  refine W.bx rfl (vt rfl) rfl fun b1 => ?_
  refine W.p O.as ?_
  refine WL.nil (Q.tn ?_)
  refine CW.seq ?_
  refine CW.draw 23 rfl (by kernel_rfl) ?_
  first | refine WQ.p O.fb ?_ | refine WQ.p O.fa ?_
  refine WQ.p O.ld ?_
  refine WQ.q (O.call ⟨rfl, rfl⟩ (AV.cons (vt rfl) (AV.cons (vt rfl) (AV.nil))) (fun _ w hw => ref_flag _ _ w)) ?_
  first | refine WQ.p O.fb ?_ | refine WQ.p O.fa ?_
  refine WQ.p O.ld ?_
  first | refine WQ.p O.mulN ?_ | refine WQ.p O.mul ?_
  first | refine WQ.p O.addN ?_ | refine WQ.p O.add ?_
  first | refine WQ.p O.fb ?_ | refine WQ.p O.fa ?_
  refine WQ.p O.ld ?_
  refine WQ.q (O.call ⟨rfl, rfl⟩ (AV.cons (vt rfl) (AV.cons (vt rfl) (AV.nil))) (fun _ w hw => ref_flag _ _ w)) ?_
  first | refine WQ.p O.addN ?_ | refine WQ.p O.add ?_
  first | refine WQ.p O.fb ?_ | refine WQ.p O.fa ?_
  refine WQ.p O.ld ?_
  refine WQ.q (O.call ⟨rfl, rfl⟩ (AV.cons (vt rfl) (AV.cons (vt rfl) (AV.nil))) (fun _ w hw => ref_flag _ _ w)) ?_
  first | refine WQ.p O.addN ?_ | refine WQ.p O.add ?_
  first | refine WQ.p O.fb ?_ | refine WQ.p O.fa ?_
  refine WQ.p O.ld ?_
  refine WQ.q (O.call ⟨rfl, rfl⟩ (AV.cons (vt rfl) (AV.cons (vt rfl) (AV.nil))) (fun _ w hw => ref_flag _ _ w)) ?_
  first | refine WQ.p O.addN ?_ | refine WQ.p O.add ?_
  first | refine WQ.p O.fb ?_ | refine WQ.p O.fa ?_
  refine WQ.p O.ld ?_
  first | refine WQ.p O.addN ?_ | refine WQ.p O.add ?_
  refine WQ.p O.as ?_
  refine WQ.nil ?_
  refine WL.nil (Q.tn ?_)
  refine CW.seq ?_
  refine CW.draw 32 rfl (by kernel_rfl) ?_
  first | refine WQ.p O.fb ?_ | refine WQ.p O.fa ?_
  refine WQ.p O.ld ?_
  refine WQ.q (O.call ⟨rfl, rfl⟩ (AV.cons (vt rfl) (AV.cons (vt rfl) (AV.nil))) (fun _ w hw => ref_Num _ 2 w (by decide) (by decide))) ?_
  refine WQ.p O.mv ?_
  refine WQ.q (O.call ⟨rfl, rfl⟩ (AV.cons (vt rfl) (AV.cons (vt rfl) (AV.nil))) (fun _ w hw => ref_Num _ 2 w (by decide) (by decide))) ?_
  refine WQ.p O.addS ?_
  first | refine WQ.p O.fb ?_ | refine WQ.p O.fa ?_
  refine WQ.p O.ld ?_
  refine WQ.p O.lenL ?_
  refine WQ.q (O.call ⟨rfl, rfl⟩ (AV.cons (vt rfl) (AV.cons (vt rfl) (AV.nil))) (fun _ w hw => ref_Num _ 2 w (by decide) (by decide))) ?_
  refine WQ.p O.addS ?_
  first | refine WQ.p O.fb ?_ | refine WQ.p O.fa ?_
  refine WQ.p O.ld ?_
  refine WQ.p O.lenL ?_
  refine WQ.q (O.call ⟨rfl, rfl⟩ (AV.cons (vt rfl) (AV.cons (vt rfl) (AV.nil))) (fun _ w hw => ref_Num _ 2 w (by decide) (by decide))) ?_
  refine WQ.p O.addS ?_
  first | refine WQ.p O.fb ?_ | refine WQ.p O.fa ?_
  refine WQ.p O.ld ?_
  refine WQ.p O.lenL ?_
  refine WQ.q (O.call ⟨rfl, rfl⟩ (AV.cons (vt rfl) (AV.cons (vt rfl) (AV.nil))) (fun _ w hw => ref_Num _ 2 w (by decide) (by decide))) ?_
  refine WQ.p O.addS ?_
  first | refine WQ.p O.fb ?_ | refine WQ.p O.fa ?_
  refine WQ.p O.ld ?_
  refine WQ.p O.lenL ?_
  first | refine WQ.p O.fb ?_ | refine WQ.p O.fa ?_
  refine WQ.p O.ld ?_
  refine WQ.p O.gtr ?_
  refine WQ.q (O.call ⟨rfl, rfl⟩ (AV.cons (vt rfl) (AV.cons (vt rfl) (AV.nil))) (fun _ w hw => ref_flag _ _ w)) ?_
  first | refine WQ.p O.addN ?_ | refine WQ.p O.add ?_
  refine WQ.q (O.call ⟨rfl, rfl⟩ (AV.cons (vt rfl) (AV.cons (vt rfl) (AV.nil))) (fun _ w hw => ref_Num _ 2 w (by decide) (by decide))) ?_
  refine WQ.p O.addS ?_
  refine WQ.p O.as ?_
  refine WQ.nil ?_
  refine WL.nil (Q.tn ?_)
  refine CW.seq ?_
  refine CW.region ?_
  refine W.p O.as ?_
  refine WL.nil (Q.tn ?_)
  refine CW.seq ?_
  refine CW.seq ?_
  refine CW.region ?_
  refine W.p O.as ?_
  refine WL.nil (Q.tn ?_)
  refine CW.block ?_
  rw [hs0]
  refine CW.loopA (X := Int × (List UInt8 × List Kn) × (Option Nat) × Nat × (List Value)) (fun ⟨i, st, o, cc, sp⟩ => [(1, true, .pointer (some ⟨b1, 0, none⟩)), (4, true, .string (S st.1)), (5, true, .slice (oa o) st.2.length cc), (6, true, .int .i64 i)]) (fun ⟨i, st, o, cc, sp⟩ => rowL o 66 (flat encK st.2 sp) ++ [(b1, .cells (encDn m q a s d).toArray 111 (0, 0))]) (fun ⟨i, st, o, cc, sp⟩ => 0 ≤ i ∧ i ≤ m.qs.length ∧ OwnOk o cc 2 st.2.length sp.length ∧ st = dQk m i ∧ st.2.length ≤ 8 * i) (fun ⟨i, st, o, cc, sp⟩ => (m.qs.length - i).toNat) (0, (dHd m, []), none, 0, []) ?_ ?_
  · exact ⟨by omega, by omega, OwnOk.nil, rfl, by simp⟩
  rintro ⟨i, st, o, cc, sp⟩ hI
  try dsimp only at hI ⊢
  obtain ⟨h0, h1, ok8, hst, hkl⟩ := hI
  have nk8 := ok8.nk (α := Kn) (xs := st.2)
  have hgo := dQk_ok hm i
  rw [← hst] at hgo
  have hgn := good_names hgo.1
  refine CW.seq ?_
  refine CW.seq ?_
  refine CW.region ?_
  refine W.p O.mv ?_
  first | refine W.p O.fb ?_ | refine W.p O.fa ?_
  refine W.p O.ld ?_
  refine W.p O.lenL ?_
  refine W.p O.lss ?_
  refine WL.nil (Q.tn ?_)
  refine CW.cond (vt rfl) (fun hc1 => ?_) (fun hc1 => ?_)
  · try simp only [sk] at hc1
    have hnm := (hqs.2 _ (mem_at dQ h0 hc1)).1
    have hnl := nmMay_len hnm
    have hq9 := (nmPut_more st.1.length st.2 (m.qs.getD i.toNat dQ).name).1
    have hq8 : (nmPut st.1.length st.2 (m.qs[i.toNat]?.getD dQ).name).1.length ≤ 74 := (nmPut_more _ _ _).1
    have hb9 := hb1 (m.qs.getD i.toNat dQ).type
    have hb8 := hb1 1
    refine CW.skip (Q.tn ?_)
    refine CW.seq ?_
    refine CW.block ?_
    refine CW.seq ?_
    refine CW.region ?_
    refine W.p O.mv ?_
    refine W.p O.len ?_
    refine W.p O.mv ?_
    first | refine W.p O.fb ?_ | refine W.p O.fa ?_
    refine W.p O.ld ?_
    refine W.p O.mv ?_
    refine W.p O.ixA ?_
    first | refine W.p O.fe ?_ | refine W.p O.feR ?_
    refine W.p O.ldE ?_
    refine W.callN (first := []) (cap := []) rfl (vt rfl) (AV.cons (vt rfl) (AV.cons (vt rfl) (AV.cons (vt rfl) (AV.nil)))) (fun w hu => ref_PutName _ st.2 (m.qs.getD i.toNat dQ).name _ _ w (RowL.h _ hu) (by omega) (fun k hk => by have := hgn k hk; omega) (by omega)) ?_; rintro _ _ ⟨p4, q4, r4, rfl, hk4, rfl⟩; have nk4 := hk4.nk
    refine W.p O.mv ?_
    first | refine W.p O.extL ?_ | refine W.p O.ext ?_
    first | refine W.p O.extL ?_ | refine W.p O.ext ?_
    first | refine W.p O.extL ?_ | refine W.p O.ext ?_
    refine W.p O.as ?_
    refine W.p O.as ?_
    refine W.p O.as ?_
    refine WL.nil (Q.tn ?_)
    refine CW.seq ?_
    refine CW.region ?_
    refine W.p O.mv ?_
    refine W.p O.as ?_
    refine WL.nil (Q.tn ?_)
    refine CW.region ?_
    refine W.p O.mv ?_
    refine W.p O.mv ?_
    refine W.p O.addS ?_
    first | refine W.p O.fb ?_ | refine W.p O.fa ?_
    refine W.p O.ld ?_
    refine W.p O.mv ?_
    refine W.p O.ixA ?_
    first | refine W.p O.fe ?_ | refine W.p O.feR ?_
    refine W.p O.ldE ?_
    refine W.q (O.call ⟨rfl, rfl⟩ (AV.cons (vt rfl) (AV.cons (vt rfl) (AV.nil))) (fun _ w hw => ref_Num _ 2 w (by decide) (by decide))) ?_
    refine W.p O.addS ?_
    refine W.q (O.call ⟨rfl, rfl⟩ (AV.cons (vt rfl) (AV.cons (vt rfl) (AV.nil))) (fun _ w hw => ref_Num _ 2 w (by decide) (by decide))) ?_
    refine W.p O.addS ?_
    refine W.p O.as ?_
    refine WL.nil (Q.bn (Q.tn ?_))
    refine CW.region ?_
    refine W.p O.mv ?_
    first | refine W.p O.addN ?_ | refine W.p O.add ?_
    refine W.p O.as ?_
    refine WL.nil (Q.tn ?_)
    refine nextA (i + 1, (((st.1 ++ (nmPut st.1.length st.2 (m.qs.getD i.toNat dQ).name).1) ++ beb (m.qs.getD i.toNat dQ).type 2) ++ beb 1 2, (nmPut st.1.length st.2 (m.qs.getD i.toNat dQ).name).2.1), p4, q4, r4) ?_ ?_
    · try dsimp only
      have hq7 := q_ks st (m.qs.getD i.toNat dQ)
      have hq6 : (qPut st (m.qs.getD i.toNat dQ)).2.length = (nmPut st.1.length st.2 (m.qs.getD i.toNat dQ).name).2.1.length := rfl
      refine ⟨by omega, by omega, hk4, ?_, by omega⟩
      rw [dQk_up h0 hc1, ← hst, qPut]; simp only [List.append_assoc]
    · try dsimp only
      omega
  try simp only [sk] at hc1
  have hst2 : st = dQs m := by rw [hst, dQk, dQs, List.take_of_length_le (by omega)]
  subst hst2
  refine CW.exit (Q.te (Q.te (Q.bx (Q.tn ?_))))
  refine CW.seq ?_
  refine CW.region ?_
  refine W.bs0 encR rfl fun b2 => ?_
  first | refine W.p O.fb ?_ | refine W.p O.fa ?_
  refine W.p O.ld ?_
  refine W.ap rfl (vt rfl) (vt rfl) (by first | rfl | omega) (by first | rfl | omega) rfl (by first | assumption | exact OwnOk.nil | exact OwnOk.lit) (by first | omega | (simp; omega)) fun o1 c1 sp1 ok1 ne1 gt1 => ?_
  have nk1 := ok1.nk; have le1 := ok1.2.2.1; try simp only [List.length_append, List.length_cons, List.length_nil] at le1
  refine W.p O.as ?_
  refine WL.nil (Q.tn ?_)
  refine CW.seq ?_
  refine CW.region ?_
  refine W.p O.mv ?_
  first | refine W.p O.fb ?_ | refine W.p O.fa ?_
  refine W.p O.ld ?_
  refine W.ap rfl (vt rfl) (vt rfl) (by first | rfl | omega) (by first | rfl | omega) rfl (by first | assumption | exact OwnOk.nil | exact OwnOk.lit) (by first | omega | (simp; omega)) fun o2 c2 sp2 ok2 ne2 gt2 => ?_
  have nk2 := ok2.nk; have le2 := ok2.2.2.1; try simp only [List.length_append, List.length_cons, List.length_nil] at le2
  refine W.p O.as ?_
  refine WL.nil (Q.tn ?_)
  refine CW.seq ?_
  refine CW.region ?_
  refine W.p O.mv ?_
  first | refine W.p O.fb ?_ | refine W.p O.fa ?_
  refine W.p O.ld ?_
  refine W.ap rfl (vt rfl) (vt rfl) (by first | rfl | omega) (by first | rfl | omega) rfl (by first | assumption | exact OwnOk.nil | exact OwnOk.lit) (by first | omega | (simp; omega)) fun o3 c3 sp3 ok3 ne3 gt3 => ?_
  have nk3 := ok3.nk; have le3 := ok3.2.2.1; try simp only [List.length_append, List.length_cons, List.length_nil] at le3
  refine W.p O.as ?_
  refine WL.nil (Q.tn ?_)
  refine CW.seq ?_
  refine CW.seq ?_
  refine CW.region ?_
  refine W.p O.as ?_
  refine WL.nil (Q.tn ?_)
  refine CW.block ?_
  have nk33 : NilOk o3 (dAll m) := nk3
  refine CW.permH (L' := rowL o 66 (flat encK (dQs m).2 sp) ++ (((b1, .cells (encDn m q a s d).toArray 111 (0, 0)) : Nat × Obj) :: rowL o3 96 (flat encR (dAll m) sp3))) (List.perm_append_comm.trans (by rw [List.append_assoc]; exact List.Perm.refl _)) ?_
  refine CW.loopA (X := Int × (List UInt8 × List Kn) × (Option Nat) × Nat × (List Value)) (fun ⟨i, st, o, cc, sp⟩ => [(1, true, .pointer (some ⟨b1, 0, none⟩)), (10, true, .slice (oa o3) (dAll m).length c3), (4, true, .string (S st.1)), (5, true, .slice (oa o) st.2.length cc), (11, true, .int .i64 i)]) (fun ⟨i, st, o, cc, sp⟩ => rowL o 66 (flat encK st.2 sp) ++ (((b1, .cells (encDn m q a s d).toArray 111 (0, 0)) : Nat × Obj) :: rowL o3 96 (flat encR (dAll m) sp3))) (fun ⟨i, st, o, cc, sp⟩ => 0 ≤ i ∧ i ≤ (dAll m).length ∧ OwnOk o cc 2 st.2.length sp.length ∧ st = dRk m i ∧ st.2.length ≤ 32 + 1000 * i) (fun ⟨i, st, o, cc, sp⟩ => ((dAll m).length - i).toNat) (0, dQs m, o, cc, sp) ?_ ?_
  · exact ⟨by omega, by omega, ok8, rfl, by omega⟩
  rintro ⟨i, st, o, cc, sp⟩ hI
  try dsimp only at hI ⊢
  obtain ⟨h0, h1, ok9, hst, hkl⟩ := hI
  have nk9 := ok9.nk (α := Kn) (xs := st.2)
  have hgo := dRk_ok hm i
  rw [← hst] at hgo
  have hgn := good_names hgo.1
  refine CW.seq ?_
  refine CW.seq ?_
  refine CW.region ?_
  refine W.p O.mv ?_
  refine W.p O.mv ?_
  refine W.p O.lenL ?_
  refine W.p O.lss ?_
  refine WL.nil (Q.tn ?_)
  refine CW.cond (vt rfl) (fun hc2 => ?_) (fun hc2 => ?_)
  · try simp only [sk] at hc2
    have hq9 := rr_len2 st.1.length st.2 ((dAll m).getD i.toNat dR)
    have hnm := may_nm2 (hall.2 _ (mem_at dR h0 hc2))
    refine CW.skip (Q.tn ?_)
    refine CW.seq ?_
    refine CW.block ?_
    refine CW.seq ?_
    refine CW.region ?_
    refine W.p O.mv ?_
    refine W.p O.len ?_
    refine W.p O.mv ?_
    refine W.p O.mv ?_
    refine W.p O.mv ?_
    refine W.p O.ixA ?_
    refine W.p O.ldsE ?_
    refine W.callN (first := []) (cap := []) rfl (vt rfl) (AV.cons (vt rfl) (AV.cons (vt rfl) (AV.cons (vt rfl) (AV.nil)))) (fun w hu => ref_PutRr _ st.2 ((dAll m).getD i.toNat dR) _ _ w (RowL.h _ hu) (by omega) (fun k hk => by have := hgn k hk; omega) hnm.1 hnm.2) ?_; rintro _ _ ⟨p4, q4, r4, rfl, hk4, rfl⟩; have nk4 := hk4.nk
    refine W.p O.mv ?_
    first | refine W.p O.extL ?_ | refine W.p O.ext ?_
    first | refine W.p O.extL ?_ | refine W.p O.ext ?_
    first | refine W.p O.extL ?_ | refine W.p O.ext ?_
    refine W.p O.as ?_
    refine W.p O.as ?_
    refine W.p O.as ?_
    refine WL.nil (Q.tn ?_)
    refine CW.seq ?_
    refine CW.region ?_
    refine W.p O.mv ?_
    refine W.p O.as ?_
    refine WL.nil (Q.tn ?_)
    refine CW.region ?_
    refine W.p O.mv ?_
    refine W.p O.mv ?_
    refine W.p O.addS ?_
    refine W.p O.as ?_
    refine WL.nil (Q.bn (Q.tn ?_))
    refine CW.region ?_
    refine W.p O.mv ?_
    first | refine W.p O.addN ?_ | refine W.p O.add ?_
    refine W.p O.as ?_
    refine WL.nil (Q.tn ?_)
    refine nextA (i + 1, rPut st ((dAll m).getD i.toNat dR), p4, q4, r4) ?_ ?_
    · try dsimp only
      have hq8 := r_ks st ((dAll m).getD i.toNat dR)
      exact ⟨by omega, by omega, hk4, by rw [dRk_up h0 hc2, hst], by omega⟩
    · try dsimp only
      omega
  try simp only [sk] at hc2
  have hst3 : st = dRs m := by rw [hst, dRk, dRs, List.take_of_length_le (by omega)]
  subst hst3
  have hb9 := hb1 41
  have hb8 := hb1 m.size
  have hb7 := hb1 0
  refine CW.exit (Q.te (Q.te (Q.bx (Q.tn ?_))))
  refine CW.seq ?_
  refine CW.seq ?_
  refine CW.region ?_
  first | refine W.p O.fb ?_ | refine W.p O.fa ?_
  refine W.p O.ld ?_
  refine W.p O.gtr ?_
  refine WL.nil (Q.tn ?_)
  refine CW.cond (vt rfl) (fun hc3 => ?_) (fun hc3 => ?_)
  · try simp only [sk] at hc3
    refine CW.draw 12 rfl (by kernel_rfl) ?_
    refine WQ.p O.mv ?_
    refine WQ.p O.addS ?_
    refine WQ.q (O.call ⟨rfl, rfl⟩ (AV.cons (vt rfl) (AV.cons (vt rfl) (AV.nil))) (fun _ w hw => ref_Num _ 2 w (by decide) (by decide))) ?_
    refine WQ.p O.addS ?_
    first | refine WQ.p O.fb ?_ | refine WQ.p O.fa ?_
    refine WQ.p O.ld ?_
    refine WQ.q (O.call ⟨rfl, rfl⟩ (AV.cons (vt rfl) (AV.cons (vt rfl) (AV.nil))) (fun _ w hw => ref_Num _ 2 w (by decide) (by decide))) ?_
    refine WQ.p O.addS ?_
    refine WQ.q (O.call ⟨rfl, rfl⟩ (AV.cons (vt rfl) (AV.cons (vt rfl) (AV.nil))) (fun _ w hw => ref_Num _ 4 w (by decide) (by decide))) ?_
    refine WQ.p O.addS ?_
    refine WQ.q (O.call ⟨rfl, rfl⟩ (AV.cons (vt rfl) (AV.cons (vt rfl) (AV.nil))) (fun _ w hw => ref_Num _ 2 w (by decide) (by decide))) ?_
    refine WQ.p O.addS ?_
    refine WQ.nil ?_
    refine W.p O.as ?_
    refine WL.nil (Q.tn ?_)
    refine CW.seq ?_
    refine CW.region ?_
    refine W.p O.mv ?_
    refine W.p O.as ?_
    refine WL.nil (Q.tn ?_)
    refine CW.ret ?_
    refine ⟨_, [], (RVs.tmp rfl RVs.nil), List.nil_sublist _, ?_⟩
    refine ⟨congrArg (fun x => Value.string (S x)) ?_, rfl⟩
    rw [dWrite, dOpt, if_neg (by omega)]; simp only [List.append_assoc]
  try simp only [sk] at hc3
  refine CW.skip (Q.tn ?_)
  refine CW.seq ?_
  refine CW.region ?_
  refine W.p O.mv ?_
  refine W.p O.as ?_
  refine WL.nil (Q.tn ?_)
  refine CW.ret ?_
  refine ⟨_, [], (RVs.tmp rfl RVs.nil), List.nil_sublist _, ?_⟩
  refine ⟨congrArg (fun x => Value.string (S x)) ?_, rfl⟩
  rw [dWrite, dOpt, if_pos (by omega), List.append_nil]
set_option maxRecDepth 100000 in
theorem ref_PutDns (m : Dn) (q a s d : Sl) (most : Int) (w : World) (hr : DnIn w m q a s d) (hz : DnSz m 4398046511104) : Fn Try.prog 80 [vDn m q a s d, .int .i64 most] w [] fun v L' => v = .tuple #[.string (S (dnPut m most).1), .int .i64 (dnPut m most).2] ∧ L' = [] := by
  refine Fn.enter Try.func80 rfl rfl rfl rfl (Holds.nil w) ?_
  refine CW.seq ?_
  refine CW.region ?_
  refine W.bx rfl (vt rfl) rfl fun b1 => ?_
  refine W.p O.as ?_
  refine W.p O.as ?_
  refine WL.nil (Q.tn ?_)
  refine CW.seq ?_
  refine CW.seq ?_
  refine CW.region ?_
  refine W.p O.lds ?_
  refine W.q (O.call ⟨rfl, rfl⟩ (AV.cons (vt rfl) (AV.nil)) (fun _ w hw => ref_DnsMay m q a s d w (hr.upd hw) hz)) ?_
  refine W.p O.nt ?_
  refine W.p O.mv ?_
  refine W.p O.mv ?_
  refine W.p O.lss ?_
  refine W.p O.pkB ?_
  refine W.p O.mv ?_
  refine W.p O.mv ?_
  refine W.p O.gtr ?_
  refine W.p O.pkB ?_
  refine WL.nil (Q.tn ?_)
  refine CW.cond (vt rfl) (fun hc1 => ?_) (fun hc1 => ?_)
  · try simp only [sk] at hc1
    refine CW.seq ?_
    refine CW.region ?_
    refine W.p O.as ?_
    refine W.p O.as ?_
    refine WL.nil (Q.tn ?_)
    refine CW.ret (Q.tr ?_)
    refine ⟨_, [], (RVs.tmp rfl (RVs.tmp rfl RVs.nil)), List.nil_sublist _, ?_⟩
    refine ⟨?_, rfl⟩
    have hyes : dnMay m = false ∨ inR most 12 65535 = false := by rcases hc1 with (h | h) | h; exact .inl h; (right; rw [inR, decide_eq_false (by omega)]; rfl); (right; rw [inR, decide_eq_false (show ¬ most ≤ 65535 by omega), Bool.and_false])
    rw [dnPut, if_pos hyes]; rfl
  try simp only [sk] at hc1
  have hm1 : dnMay m = true := hc1.1.1
  have hno : ¬ (dnMay m = false ∨ inR most 12 65535 = false) := by rintro (h | h); (rw [hm1] at h; cases h); (rw [inR, decide_eq_true (by omega), decide_eq_true (by omega)] at h; cases h)
  have hb1 := (dn_len hm1).2.2.1
  have hb2 := (dn_len (may_cut hm1)).2.2.1
  refine CW.skip (Q.tn ?_)
  refine CW.seq ?_
  refine CW.region ?_
  refine W.p O.lds ?_
  refine W.q (O.call ⟨rfl, rfl⟩ (AV.cons (vt rfl) (AV.nil)) (fun _ w hw => ref_written m q a s d w (hr.upd hw) hm1)) ?_
  refine W.p O.as ?_
  refine WL.nil (Q.tn ?_)
  refine CW.seq ?_
  refine CW.seq ?_
  refine CW.region ?_
  refine W.p O.mv ?_
  refine W.p O.len ?_
  refine W.p O.mv ?_
  refine W.p O.leq ?_
  refine WL.nil (Q.tn ?_)
  refine CW.cond (vt rfl) (fun hc2 => ?_) (fun hc2 => ?_)
  · try simp only [sk] at hc2
    refine CW.seq ?_
    refine CW.region ?_
    refine W.p O.mv ?_
    refine W.p O.as ?_
    refine W.p O.as ?_
    refine WL.nil (Q.tn ?_)
    refine CW.ret (Q.tr ?_)
    refine ⟨_, [], (RVs.tmp rfl (RVs.tmp rfl RVs.nil)), List.nil_sublist _, ?_⟩
    refine ⟨?_, rfl⟩
    rw [dnPut, if_neg hno, if_pos (by omega)]; rfl
  try simp only [sk] at hc2
  refine CW.skip (Q.tn ?_)
  refine CW.seq ?_
  refine CW.region ?_
  first | refine W.p O.fb ?_ | refine W.p O.fa ?_
  refine W.st (vt rfl) (vt rfl) rfl ?_
  refine WL.nil (Q.tn ?_)
  refine CW.seq ?_
  refine CW.region ?_
  first | refine W.p O.fb ?_ | refine W.p O.fa ?_
  first | refine W.st (vt rfl) (vt rfl) rfl ?_ | refine W.st (u := .slice _ _ _) (vt rfl) (vt rfl) rfl ?_
  refine WL.nil (Q.tn ?_)
  refine CW.seq ?_
  refine CW.region ?_
  first | refine W.p O.fb ?_ | refine W.p O.fa ?_
  first | refine W.st (vt rfl) (vt rfl) rfl ?_ | refine W.st (u := .slice _ _ _) (vt rfl) (vt rfl) rfl ?_
  refine WL.nil (Q.tn ?_)
  refine CW.seq ?_
  refine CW.region ?_
  first | refine W.p O.fb ?_ | refine W.p O.fa ?_
  first | refine W.st (vt rfl) (vt rfl) rfl ?_ | refine W.st (u := .slice _ _ _) (vt rfl) (vt rfl) rfl ?_
  refine WL.nil (Q.tn ?_)
  refine CW.seq ?_
  refine CW.region ?_
  refine W.p O.lds ?_
  refine W.q (O.call ⟨rfl, rfl⟩ (AV.cons (vt rfl) (AV.nil)) (fun _ w hw => ref_written (cutD m) q nS nS nS w ⟨hr.hq.upd (L0 := []) hw, In.nil, In.nil, In.nil⟩ (may_cut hm1))) ?_
  refine W.p O.as ?_
  refine WL.nil (Q.tn ?_)
  refine CW.seq ?_
  refine CW.seq ?_
  refine CW.region ?_
  refine W.p O.mv ?_
  refine W.p O.len ?_
  refine W.p O.mv ?_
  refine W.p O.gtr ?_
  refine WL.nil (Q.tn ?_)
  refine CW.cond (vt rfl) (fun hc3 => ?_) (fun hc3 => ?_)
  · try simp only [sk] at hc3
    refine CW.seq ?_
    refine CW.region ?_
    refine W.p O.as ?_
    refine W.p O.as ?_
    refine WL.nil (Q.tn ?_)
    refine CW.ret (Q.tr ?_)
    refine ⟨_, [], (RVs.tmp rfl (RVs.tmp rfl RVs.nil)), List.nil_sublist _, ?_⟩
    refine ⟨?_, rfl⟩
    rw [dnPut, if_neg hno, if_neg (by omega), if_neg (by omega)]; rfl
  try simp only [sk] at hc3
  refine CW.skip (Q.tn ?_)
  refine CW.seq ?_
  refine CW.region ?_
  refine W.p O.mv ?_
  refine W.p O.as ?_
  refine W.p O.as ?_
  refine WL.nil (Q.tn ?_)
  refine CW.ret ?_
  refine ⟨_, [], (RVs.tmp rfl (RVs.tmp rfl RVs.nil)), List.nil_sublist _, ?_⟩
  refine ⟨?_, rfl⟩
  rw [dnPut, if_neg hno, if_neg (by omega), if_pos (by omega)]; rfl
end Go.Proofs.Ytkjcmdgideddnaa
