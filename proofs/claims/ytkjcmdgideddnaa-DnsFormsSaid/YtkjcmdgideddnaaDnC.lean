/- What dns.write and dns.Put come to. Conditions: the rows are not longer than a million, the texts not than some 2^47 bytes. -/
import Derived.Test.YtkjcmdgideddnaaDnB
import Derived.Test.YtkjcmdgideddnaaRrPen
set_option linter.unusedVariables false
set_option linter.unusedSimpArgs false
namespace Go.Proofs.Ytkjcmdgideddnaa
open Go Go.RowKit
theorem q_ks (st : List UInt8 × List Kn) (x : Qn') : (qPut st x).2.length ≤ st.2.length + 8 := (nmPut_more _ _ _).2.1
theorem r_ks (st : List UInt8 × List Kn) (x : RR) : (rPut st x).2.length ≤ st.2.length + 1000 := rrPut_ks _ _ _
theorem good_names {s : List UInt8} {ks : List Kn} (h : Good s ks) : ∀ k ∈ ks, k.name.length ≤ 72 := fun k hk => by
  have := (h k hk).1
  simp only [knOk, Bool.and_eq_true] at this
  exact nmMay_len this.1.1.2
theorem rr_len2 (p : Int) (ks : List Kn) (r : RR) : (rrPut p ks r).1.length ≤ 252 := by
  unfold rrPut
  cases h : putRr p ks r with
  | none => simp
  | some x => obtain ⟨t, k2⟩ := x; exact rr_len h
/-- a message's bytes up to a question, up to a record -/
def dQk (m : Dn) (i : Int) : List UInt8 × List Kn := (m.qs.take i.toNat).foldl qPut (dHd m, [])
def dRk (m : Dn) (i : Int) : List UInt8 × List Kn := ((dAll m).take i.toNat).foldl rPut (dQs m)
theorem dQk_up {m : Dn} {i : Int} (h0 : 0 ≤ i) (h1 : i < m.qs.length) : dQk m (i + 1) = qPut (dQk m i) (m.qs.getD i.toNat dQ) := by
  rw [dQk, take_at' dQ h0 h1, List.foldl_append]; rfl
theorem dRk_up {m : Dn} {i : Int} (h0 : 0 ≤ i) (h1 : i < (dAll m).length) : dRk m (i + 1) = rPut (dRk m i) ((dAll m).getD i.toNat dR) := by
  rw [dRk, take_at' dR h0 h1, List.foldl_append]; rfl
theorem dAll_may {m : Dn} (hm : dnMay m = true) : (dAll m).length ≤ 96 ∧ ∀ r ∈ dAll m, rrMay r = true := by
  obtain ⟨a, b, c, _⟩ := may_d hm
  refine ⟨by simp only [dAll, List.length_append]; omega, fun r hr => ?_⟩
  simp only [dAll, List.mem_append] at hr
  rcases hr with (hr | hr) | hr
  · exact a.2 r hr
  · exact b.2 r hr
  · exact c.2 r hr
theorem dQk_ok {m : Dn} (hm : dnMay m = true) (i : Int) : Good (dQk m i).1 (dQk m i).2 ∧ (dQk m i).1.length ≤ 324 := by
  obtain ⟨_, _, _, _, _, _, e, _⟩ := may_d hm
  have hh := hd_len m
  have hl : (m.qs.take i.toNat).length ≤ 4 := by rw [List.length_take]; omega
  obtain ⟨t, e1, l1, g1, _⟩ := qs_back (m.qs.take i.toNat) (dHd m, []) (Good.nil _) (by dsimp only; omega) (fun x hx => e.2 x (List.mem_of_mem_take hx))
  refine ⟨g1, ?_⟩
  rw [dQk, e1, List.length_append]; dsimp only; omega
theorem dRk_ok {m : Dn} (hm : dnMay m = true) (i : Int) : Good (dRk m i).1 (dRk m i).2 ∧ (dRk m i).1.length ≤ 24600 := by
  have hd := dn_len hm
  have ha := dAll_may hm
  have hl : ((dAll m).take i.toNat).length ≤ 96 := by rw [List.length_take]; omega
  obtain ⟨t, e1, l1, g1, _⟩ := rs_back ((dAll m).take i.toNat) (dQs m) hd.2.2.2.1 (by omega) (fun x hx => ha.2 x (List.mem_of_mem_take hx))
  refine ⟨g1, ?_⟩
  rw [dRk, e1, List.length_append]; omega
theorem may_nm {r : RR} (h : rrMay r = true) : r.name.length ≤ 140737488355328 ∧ r.target.length ≤ 140737488355328 := by
  obtain ⟨hb, hn, _, _⟩ := may_parts h
  have h1 := nmMay_len hn
  refine ⟨by omega, ?_⟩
  have : r.target.length ≤ 72 := by
    unfold rrBody at hb
    split at hb
    · simp only [Bool.and_eq_true, decide_eq_true_eq] at hb; rw [hb.1.1.1]; simp
    split at hb
    · simp only [Bool.and_eq_true, decide_eq_true_eq] at hb; exact nmMay_len hb.2
    split at hb
    · simp only [Bool.and_eq_true, decide_eq_true_eq] at hb; exact nmMay_len hb.1.2
    split at hb
    · simp only [Bool.and_eq_true, decide_eq_true_eq] at hb; rw [hb.1.1.2]; simp
    · cases hb
  omega
theorem h6_up {l : List Int} {i : Int} (h0 : 0 ≤ i) (h1 : i < l.length) : (l.take (i + 1).toNat).flatMap (fun x => beb x 2) = (l.take i.toNat).flatMap (fun x => beb x 2) ++ beb (l.getD i.toNat 0) 2 := by
  rw [take_at' 0 h0 h1, List.flatMap_append]; simp
theorem h6_hd (m : Dn) : ([m.id, dBits m, (m.qs.length : Int), (m.an.length : Int), (m.se.length : Int), (m.ad.length : Int) + flg (!decide (m.size = 0)) 1] : List Int).flatMap (fun x => beb x 2) = dHd m := by simp [dHd]
theorem flat3 (m : Dn) : ([m.an, m.se, m.ad] : List (List RR)).flatten = dAll m := by simp [dAll]
theorem dn_Concat3 (m : Dn) (a s d : Sl) (pa : Option Addr) (pc : Nat) (w : World) (h : In w pa (([(a.1, m.an.length, a.2), (s.1, m.se.length, s.2), (d.1, m.ad.length, d.2)] : List (Option Addr × Nat × Nat)).flatMap encSl)) (hrow : ∀ i : Int, 0 ≤ i → i < 3 → In w (([(a.1, m.an.length, a.2), (s.1, m.se.length, s.2), (d.1, m.ad.length, d.2)] : List (Option Addr × Nat × Nat)).getD i.toNat dSl).1 ((([m.an, m.se, m.ad] : List (List RR)).getD i.toNat []).flatMap encR) ∧ (([(a.1, m.an.length, a.2), (s.1, m.se.length, s.2), (d.1, m.ad.length, d.2)] : List (Option Addr × Nat × Nat)).getD i.toNat dSl).2.1 = (([m.an, m.se, m.ad] : List (List RR)).getD i.toNat []).length ∧ (([m.an, m.se, m.ad] : List (List RR)).getD i.toNat []).length ≤ 1000000) : Fn Try.prog 168 [.slice pa 3 pc] w [] (Fresh encR 96 7 (dAll m)) := by
  have := dn_Concat ([(a.1, m.an.length, a.2), (s.1, m.se.length, s.2), (d.1, m.ad.length, d.2)] : List (Option Addr × Nat × Nat)) ([m.an, m.se, m.ad] : List (List RR)) pa pc w h rfl rfl hrow
  rwa [flat3] at this
set_option maxRecDepth 100000 in
set_option maxHeartbeats 2000000 in
theorem dn_write {b : Nat} (m : Dn) (q a s d : Sl) (w : World) (h : In w (some ⟨b, 0, none⟩) (encDn m q a s d)) (hr : DnIn w m q a s d) (hm : dnMay m = true) : Fn Try.prog 135 [.pointer (some ⟨b, 0, none⟩)] w [] fun v L' => v = .string (S (dWrite m)) ∧ L' = [] := by
  obtain ⟨han, hse, had, hid, hop, hco, hqs, hsz⟩ := may_d hm
  have hall := dAll_may hm
  have c0 : ∀ {L : Heap}, Cell w [] L ⟨b, 0, none⟩ (.int .i64 m.id) := fun {L} => dn_cells (w' := w) h rfl
  have c7 : ∀ {L : Heap}, Cell w [] L ⟨b, 7, none⟩ (.slice q.1 m.qs.length q.2) := fun {L} => dn_cells (w' := w) h rfl
  have c8 : ∀ {L : Heap}, Cell w [] L ⟨b, 8, none⟩ (.slice a.1 m.an.length a.2) := fun {L} => dn_cells (w' := w) h rfl
  have c9 : ∀ {L : Heap}, Cell w [] L ⟨b, 9, none⟩ (.slice s.1 m.se.length s.2) := fun {L} => dn_cells (w' := w) h rfl
  have c10 : ∀ {L : Heap}, Cell w [] L ⟨b, 10, none⟩ (.slice d.1 m.ad.length d.2) := fun {L} => dn_cells (w' := w) h rfl
  have c11 : ∀ {L : Heap}, Cell w [] L ⟨b, 11, none⟩ (.int .i64 m.size) := fun {L} => dn_cells (w' := w) h rfl
  have rowq := Row.ofE (dv := dQ) hr.hq
  have hb1 : (beb 1 2).length = 2 := rfl
  have hb2 : (beb 41 2).length = 2 := rfl
  have hb3 : (beb 0 4).length = 4 := rfl
  have hb4 : (beb 0 2).length = 2 := rfl
  have hb5 : (beb m.size 2).length = 2 := beb_len 2 _
  have hb6 : ([0] : List UInt8).length = 1 := rfl
  have hfl : 0 ≤ flg (!decide (m.size = 0)) 1 ∧ flg (!decide (m.size = 0)) 1 ≤ 1 := by cases decide (m.size = 0) <;> decide
  have hrow : ∀ (w' : World) {L : Heap}, Upd w [] w' L → ∀ i : Int, 0 ≤ i → i < 3 → In w' (([(a.1, m.an.length, a.2), (s.1, m.se.length, s.2), (d.1, m.ad.length, d.2)] : List (Option Addr × Nat × Nat)).getD i.toNat dSl).1 ((([m.an, m.se, m.ad] : List (List RR)).getD i.toNat []).flatMap encR) ∧ (([(a.1, m.an.length, a.2), (s.1, m.se.length, s.2), (d.1, m.ad.length, d.2)] : List (Option Addr × Nat × Nat)).getD i.toNat dSl).2.1 = (([m.an, m.se, m.ad] : List (List RR)).getD i.toNat []).length ∧ (([m.an, m.se, m.ad] : List (List RR)).getD i.toNat []).length ≤ 1000000 := by
    intro w' L hw i h0 h3
    rcases (by omega : i = 0 ∨ i = 1 ∨ i = 2) with rfl | rfl | rfl
    · exact ⟨hr.ha.upd (L0 := []) hw, rfl, by show m.an.length ≤ _; omega⟩
    · exact ⟨hr.hs.upd (L0 := []) hw, rfl, by show m.se.length ≤ _; omega⟩
    · exact ⟨hr.hd.upd (L0 := []) hw, rfl, by show m.ad.length ≤ _; omega⟩
  refine Fn.enter Try.func135 rfl rfl rfl rfl (Holds.nil w) ?_
  refine CW.seq ?_
  refine CW.region ?_
  refine W.p O.as ?_
  refine WL.nil (Q.tn ?_)
  refine CW.seq ?_
  refine CW.region ?_
  refine W.p O.as ?_
  refine WL.nil (Q.tn ?_)
  refine CW.seq ?_
  refine CW.region ?_
  refine W.p O.mv ?_
  refine W.p O.nc ?_
  first | refine W.p O.fb ?_ | refine W.p O.fa ?_
  first | refine W.p O.ld ?_ | refine W.p O.ldC ?_
  refine W.p O.neI ?_
  refine W.q (O.call ⟨rfl, rfl⟩ (AV.cons (vt rfl) (AV.cons (vt rfl) (AV.nil))) (fun _ w hw => dn_flag _ _ w)) ?_
  refine W.p O.as ?_
  refine WL.nil (Q.tn ?_)
  refine CW.seq ?_
  refine CW.seq ?_
  refine CW.drawHL rfl ?_
  refine RH.qa 0 rfl (O.mv) ?_
  refine RH.qa 1 rfl (O.nc) ?_
  first | refine RH.qa 2 rfl (O.fb) ?_ | refine RH.qa 2 rfl (O.fa) ?_
  first | refine RH.qa 3 rfl (O.ld) ?_ | refine RH.qa 3 rfl (O.ldC) ?_
  refine RH.qa 4 rfl (O.mv) ?_
  refine RH.qa 6 rfl (O.mv) ?_
  refine RH.qa 7 rfl (O.nc) ?_
  first | refine RH.qa 8 rfl (O.fb) ?_ | refine RH.qa 8 rfl (O.fa) ?_
  first | refine RH.qa 9 rfl (O.ld) ?_ | refine RH.qa 9 rfl (O.ldC) ?_
  refine RH.qa 10 rfl (O.lenL) ?_
  refine RH.qa 11 rfl (O.mv) ?_
  refine RH.qa 12 rfl (O.nc) ?_
  first | refine RH.qa 13 rfl (O.fb) ?_ | refine RH.qa 13 rfl (O.fa) ?_
  first | refine RH.qa 14 rfl (O.ld) ?_ | refine RH.qa 14 rfl (O.ldC) ?_
  refine RH.qa 15 rfl (O.lenL) ?_
  refine RH.qa 16 rfl (O.mv) ?_
  refine RH.qa 17 rfl (O.nc) ?_
  first | refine RH.qa 18 rfl (O.fb) ?_ | refine RH.qa 18 rfl (O.fa) ?_
  first | refine RH.qa 19 rfl (O.ld) ?_ | refine RH.qa 19 rfl (O.ldC) ?_
  refine RH.qa 20 rfl (O.lenL) ?_
  refine RH.qa 21 rfl (O.mv) ?_
  refine RH.qa 22 rfl (O.nc) ?_
  first | refine RH.qa 23 rfl (O.fb) ?_ | refine RH.qa 23 rfl (O.fa) ?_
  first | refine RH.qa 24 rfl (O.ld) ?_ | refine RH.qa 24 rfl (O.ldC) ?_
  refine RH.qa 25 rfl (O.lenL) ?_
  refine RH.qa 26 rfl (O.mv) ?_
  first | refine RH.qa 27 rfl (O.addN) ?_ | refine RH.qa 27 rfl (O.add) ?_
  refine RH.qa 30 rfl (O.mv) ?_
  refine RH.one (i := 5) (fun _ _ h => h) (by kernel_rfl) rfl ?_
  refine W.q (O.call ⟨rfl, rfl⟩ (AV.cons (vt rfl) (AV.nil)) (fun _ w hw => dn_bits m q a s d w (h.upd (L0 := []) hw) hop hco)) ?_
  refine WL.nilQa ?_
  refine RH.one (i := 28) (fun _ _ h => h) (by kernel_rfl) rfl ?_
  refine W.bs encI ([m.id, dBits m, (m.qs.length : Int), (m.an.length : Int), (m.se.length : Int), (m.ad.length : Int) + flg (!decide (m.size = 0)) 1] : List Int) rfl (PV.cons (vt rfl) (PV.cons (vt rfl) (PV.cons (vt rfl) (PV.cons (vt rfl) (PV.cons (vt rfl) (PV.cons (vt rfl) (PV.nil))))))) rfl rfl rfl (by decide) rfl fun b1 => ?_
  refine WL.nilQa ?_
  refine RH.qa 29 rfl (O.lenL) ?_
  refine RH.done (by kernel_rfl) (Q.tn ?_)
  refine CW.block ?_
  refine CW.loopA (X := Int × (List UInt8)) (fun ⟨i, out⟩ => [(0, true, .pointer (some ⟨b, 0, none⟩)), (4, true, .int .i64 (flg (!decide (m.size = 0)) 1)), (52, true, .slice (oa (some b1)) 6 6), (53, true, .int .i64 6), (3, true, .string (S out)), (54, true, .int .i64 i)]) (fun ⟨i, out⟩ => rowL (some b1) 3 (flat encI ([m.id, dBits m, (m.qs.length : Int), (m.an.length : Int), (m.se.length : Int), (m.ad.length : Int) + flg (!decide (m.size = 0)) 1] : List Int) [])) (fun ⟨i, out⟩ => 0 ≤ i ∧ i ≤ 6 ∧ out = (([m.id, dBits m, (m.qs.length : Int), (m.an.length : Int), (m.se.length : Int), (m.ad.length : Int) + flg (!decide (m.size = 0)) 1] : List Int).take i.toNat).flatMap (fun x => beb x 2) ∧ out.length = 2 * i) (fun ⟨i, out⟩ => (6 - i).toNat) (0, []) ?_ ?_
  · exact ⟨by omega, by omega, rfl, rfl⟩
  rintro ⟨i, out⟩ hI
  try dsimp only at hI ⊢
  obtain ⟨h0, h1, ho, hol⟩ := hI
  refine CW.seq ?_
  refine CW.region ?_
  refine W.p O.lss ?_
  refine WL.nil (Q.tn ?_)
  refine CW.seq ?_
  refine CW.cond (vt rfl) (fun hc1 => ?_) (fun hc1 => ?_)
  · try simp only [sk] at hc1
    refine CW.skip (Q.tn ?_)
    refine CW.seq ?_
    refine CW.block ?_
    refine CW.seq ?_
    refine CW.region ?_
    refine W.p O.ixA ?_
    refine W.p O.ldE ?_
    refine W.p O.as ?_
    refine WL.nil (Q.tn ?_)
    refine CW.region ?_
    refine W.p O.mv ?_
    refine W.p O.mv ?_
    refine W.q (O.call ⟨rfl, rfl⟩ (AV.cons (vt rfl) (AV.cons (vt rfl) (AV.nil))) (fun _ w hw => be_Bytes _ 2 w (by decide))) ?_
    refine W.p O.addS ?_
    refine W.p O.as ?_
    refine WL.nil (Q.bn (Q.tn ?_))
    refine CW.region ?_
    first | refine W.p O.addN ?_ | refine W.p O.add ?_
    refine W.p O.mv ?_
    refine WL.nil (Q.tn ?_)
    refine nextA (_, _) ?_ ?_
    · try dsimp only
      refine ⟨by omega, by omega, ?_, by simp only [List.length_append, beb_len]; omega⟩
      rw [h6_up h0 (by show i < 6; omega), ho]
    · try dsimp only
      omega
  try simp only [sk] at hc1
  have hout : out = dHd m := by rw [ho, ← h6_hd]; congr 1; exact List.take_of_length_le (by show 6 ≤ i.toNat; omega)
  subst hout
  refine CW.exit (Q.te (Q.te (Q.bx (Q.tn ?_))))
  refine CW.seq ?_
  refine CW.region ?_
  refine W.p O.as ?_
  refine WL.nil (Q.tn ?_)
  refine CW.seq ?_
  refine CW.seq ?_
  refine CW.region ?_
  refine W.p O.mv ?_
  refine W.p O.nc ?_
  first | refine W.p O.fb ?_ | refine W.p O.fa ?_
  first | refine W.p O.ld ?_ | refine W.p O.ldC ?_
  refine W.p O.lenL ?_
  refine W.p O.mv ?_
  refine WL.nil (Q.tn ?_)
  refine CW.block ?_
  refine CW.loopA (X := Int × (List UInt8 × List Kn) × (Option Nat) × Nat × (List Value)) (fun ⟨i, st, o, cc, sp⟩ => [(0, true, .pointer (some ⟨b, 0, none⟩)), (4, true, .int .i64 (flg (!decide (m.size = 0)) 1)), (66, true, .slice q.1 m.qs.length q.2), (67, true, .int .i64 m.qs.length), (3, true, .string (S st.1)), (7, true, .slice (oa o) st.2.length cc), (68, true, .int .i64 i)]) (fun ⟨i, st, o, cc, sp⟩ => rowL o 66 (flat encK st.2 sp)) (fun ⟨i, st, o, cc, sp⟩ => 0 ≤ i ∧ i ≤ m.qs.length ∧ OwnOk o cc 2 st.2.length sp.length ∧ st = dQk m i ∧ st.2.length ≤ 8 * i) (fun ⟨i, st, o, cc, sp⟩ => (m.qs.length - i).toNat) (0, (dHd m, []), none, 0, []) ?_ ?_
  · exact ⟨by omega, by omega, OwnOk.nil, rfl, by simp⟩
  rintro ⟨i, st, o, cc, sp⟩ hI
  try dsimp only at hI ⊢
  obtain ⟨h0, h1, ok8, hst, hkl⟩ := hI
  have nk8 := ok8.nk (α := Kn) (xs := st.2)
  have hgo := dQk_ok hm i
  rw [← hst] at hgo
  have hgn := good_names hgo.1
  refine CW.seq ?_
  refine CW.region ?_
  refine W.p O.lss ?_
  refine WL.nil (Q.tn ?_)
  refine CW.seq ?_
  refine CW.cond (vt rfl) (fun hc2 => ?_) (fun hc2 => ?_)
  · try simp only [sk] at hc2
    have hnm := (hqs.2 _ (mem_at dQ h0 hc2)).1
    have hnl := nmMay_len hnm
    have hq9 := (nmPut_more st.1.length st.2 (m.qs.getD i.toNat dQ).name).1
    have hq8 : (nmPut st.1.length st.2 (m.qs[i.toNat]?.getD dQ).name).1.length ≤ 74 := (nmPut_more _ _ _).1
    have hb9 : (beb (m.qs.getD i.toNat dQ).type 2).length = 2 := beb_len 2 _
    refine CW.skip (Q.tn ?_)
    refine CW.seq ?_
    refine CW.block ?_
    refine CW.seq ?_
    refine CW.region ?_
    refine W.p O.ixA ?_
    refine W.p O.ldsE ?_
    refine W.al rfl rfl fun b2 => ?_
    refine W.st (vt rfl) (vt rfl) rfl ?_
    refine WL.nil (Q.tn ?_)
    refine CW.seq ?_
    refine CW.region ?_
    refine W.p O.mv ?_
    refine W.p O.len ?_
    refine W.p O.mv ?_
    first | refine W.p O.fb ?_ | refine W.p O.fa ?_
    first | refine W.p O.ld ?_ | refine W.p O.ldC ?_
    refine W.callN (first := []) (cap := []) rfl (vt rfl) (AV.cons (vt rfl) (AV.cons (vt rfl) (AV.cons (vt rfl) (AV.nil)))) (fun w hu => wr_Put _ st.2 (m.qs.getD i.toNat dQ).name _ _ w (RowL.h _ hu) (by omega) (fun k hk => by have := hgn k hk; omega) (by omega)) ?_; rintro _ _ ⟨p4, q4, r4, rfl, hk4, rfl⟩; have nk4 := hk4.nk
    refine W.p O.mv ?_
    first | refine W.p O.extL ?_ | refine W.p O.ext ?_
    first | refine W.p O.extL ?_ | refine W.p O.ext ?_
    first | refine W.p O.extL ?_ | refine W.p O.ext ?_
    refine W.p O.as ?_
    refine W.p O.as ?_
    refine W.p O.as ?_
    refine WL.nil (Q.tn ?_)
    refine CW.seq ?_
    refine CW.region ?_
    refine W.p O.mv ?_
    refine W.p O.mv ?_
    first | refine W.p O.fb ?_ | refine W.p O.fa ?_
    first | refine W.p O.ld ?_ | refine W.p O.ldC ?_
    refine W.q (O.call ⟨rfl, rfl⟩ (AV.cons (vt rfl) (AV.cons (vt rfl) (AV.nil))) (fun _ w hw => be_Bytes _ 2 w (by decide))) ?_
    refine W.p O.addS ?_
    refine W.q (O.call ⟨rfl, rfl⟩ (AV.cons (vt rfl) (AV.cons (vt rfl) (AV.nil))) (fun _ w hw => be_Bytes _ 2 w (by decide))) ?_
    refine W.p O.addS ?_
    refine W.p O.addS ?_
    refine W.p O.as ?_
    refine WL.nil (Q.tn ?_)
    refine CW.region ?_
    refine W.p O.mv ?_
    refine W.p O.as ?_
    refine WL.nil (Q.bn (Q.tn ?_))
    refine CW.region ?_
    first | refine W.p O.addN ?_ | refine W.p O.add ?_
    refine W.p O.mv ?_
    refine WL.nil (Q.tn ?_)
    refine nextA (i + 1, qPut st (m.qs.getD i.toNat dQ), p4, q4, r4) ?_ ?_
    · try dsimp only
      have hq8 := q_ks st (m.qs.getD i.toNat dQ)
      exact ⟨by omega, by omega, hk4, by rw [dQk_up h0 hc2, hst], by omega⟩
    · try dsimp only
      omega
  try simp only [sk] at hc2
  have hst2 : st = dQs m := by rw [hst, dQk, dQs, List.take_of_length_le (by omega)]
  subst hst2
  refine CW.exit (Q.te (Q.te (Q.bx (Q.tn ?_))))
  refine CW.seq ?_
  refine CW.seq ?_
  refine CW.drawH [] rfl ?_
  refine RH.qa 0 rfl (O.mv) ?_
  refine RH.qa 1 rfl (O.nc) ?_
  first | refine RH.qa 2 rfl (O.fb) ?_ | refine RH.qa 2 rfl (O.fa) ?_
  first | refine RH.qa 3 rfl (O.ld) ?_ | refine RH.qa 3 rfl (O.ldC) ?_
  refine RH.qa 4 rfl (O.mv) ?_
  refine RH.qa 5 rfl (O.nc) ?_
  first | refine RH.qa 6 rfl (O.fb) ?_ | refine RH.qa 6 rfl (O.fa) ?_
  first | refine RH.qa 7 rfl (O.ld) ?_ | refine RH.qa 7 rfl (O.ldC) ?_
  refine RH.qa 8 rfl (O.mv) ?_
  refine RH.qa 9 rfl (O.nc) ?_
  first | refine RH.qa 10 rfl (O.fb) ?_ | refine RH.qa 10 rfl (O.fa) ?_
  first | refine RH.qa 11 rfl (O.ld) ?_ | refine RH.qa 11 rfl (O.ldC) ?_
  refine RH.qa 15 rfl (O.mv) ?_
  refine RH.one (i := 12) (fun _ _ h => h) (by kernel_rfl) rfl ?_
  refine W.bs encSl ([(a.1, m.an.length, a.2), (s.1, m.se.length, s.2), (d.1, m.ad.length, d.2)] : List (Option Addr × Nat × Nat)) rfl (PV.cons (vt rfl) (PV.cons (vt rfl) (PV.cons (vt rfl) (PV.nil)))) rfl rfl rfl (by decide) rfl fun b3 => ?_
  refine WL.nilQa ?_
  refine RH.one (i := 13) (fun _ _ h => h) (by kernel_rfl) rfl ?_
  refine W.callN (first := []) (cap := []) rfl (vt rfl) (AV.cons (vt rfl) (AV.nil)) (fun w hu => dn_Concat3 m a s d _ _ w (RowL.h _ hu) (fun i h0 h3 => hrow w hu i h0 h3)) ?_; rintro _ _ ⟨p5, q5, r5, rfl, hk5, rfl⟩; have nk5 := hk5.nk
  refine WL.nilQa ?_
  refine RH.qa 14 rfl (O.lenL) ?_
  refine RH.done (by kernel_rfl) (Q.tn ?_)
  refine CW.block ?_
  refine CW.permH (L' := _ ++ rowL p5 96 (flat encR (dAll m) r5)) List.perm_append_comm ?_
  refine CW.loopA (X := Int × (List UInt8 × List Kn) × (Option Nat) × Nat × (List Value)) (fun ⟨i, st, o, cc, sp⟩ => [(0, true, .pointer (some ⟨b, 0, none⟩)), (4, true, .int .i64 (flg (!decide (m.size = 0)) 1)), (106, true, .slice (oa p5) (dAll m).length q5), (107, true, .int .i64 (dAll m).length), (3, true, .string (S st.1)), (7, true, .slice (oa o) st.2.length cc), (108, true, .int .i64 i)]) (fun ⟨i, st, o, cc, sp⟩ => rowL o 66 (flat encK st.2 sp) ++ rowL p5 96 (flat encR (dAll m) r5)) (fun ⟨i, st, o, cc, sp⟩ => 0 ≤ i ∧ i ≤ (dAll m).length ∧ OwnOk o cc 2 st.2.length sp.length ∧ st = dRk m i ∧ st.2.length ≤ 32 + 1000 * i) (fun ⟨i, st, o, cc, sp⟩ => ((dAll m).length - i).toNat) (0, dQs m, o, cc, sp) ?_ ?_
  · exact ⟨by omega, by omega, ok8, rfl, by omega⟩
  rintro ⟨i, st, o, cc, sp⟩ hI
  try dsimp only at hI ⊢
  obtain ⟨h0, h1, ok9, hst, hkl⟩ := hI
  have nk9 := ok9.nk (α := Kn) (xs := st.2)
  have hgo := dRk_ok hm i
  rw [← hst] at hgo
  have hgn := good_names hgo.1
  refine CW.seq ?_
  refine CW.region ?_
  refine W.p O.lss ?_
  refine WL.nil (Q.tn ?_)
  refine CW.seq ?_
  refine CW.cond (vt rfl) (fun hc3 => ?_) (fun hc3 => ?_)
  · try simp only [sk] at hc3
    have hq9 := rr_len2 st.1.length st.2 ((dAll m).getD i.toNat dR)
    have hnm := may_nm (hall.2 _ (mem_at dR h0 hc3))
    refine CW.skip (Q.tn ?_)
    refine CW.seq ?_
    refine CW.block ?_
    refine CW.seq ?_
    refine CW.region ?_
    refine W.p O.ixA ?_
    refine W.p O.ldsE ?_
    refine W.al rfl rfl fun b4 => ?_
    refine W.st (vt rfl) (vt rfl) rfl ?_
    refine WL.nil (Q.tn ?_)
    refine CW.seq ?_
    refine CW.region ?_
    refine W.p O.mv ?_
    refine W.p O.len ?_
    refine W.p O.mv ?_
    refine W.p O.lds ?_
    refine W.callN (first := []) (cap := []) rfl (vt rfl) (AV.cons (vt rfl) (AV.cons (vt rfl) (AV.cons (vt rfl) (AV.nil)))) (fun w hu => rr_Put _ st.2 ((dAll m).getD i.toNat dR) _ _ w (RowL.h _ hu) (by omega) (by omega) (fun k hk => by have := hgn k hk; omega) hnm.1 hnm.2) ?_; rintro _ _ ⟨p4, q4, r4, rfl, hk4, rfl⟩; have nk4 := hk4.nk
    refine W.p O.mv ?_
    first | refine W.p O.extL ?_ | refine W.p O.ext ?_
    first | refine W.p O.extL ?_ | refine W.p O.ext ?_
    first | refine W.p O.extL ?_ | refine W.p O.ext ?_
    refine W.p O.as ?_
    refine W.p O.as ?_
    refine W.p O.as ?_
    refine WL.nil (Q.tn ?_)
    refine CW.seq ?_
    refine CW.region ?_
    refine W.p O.mv ?_
    refine W.p O.mv ?_
    refine W.p O.addS ?_
    refine W.p O.as ?_
    refine WL.nil (Q.tn ?_)
    refine CW.region ?_
    refine W.p O.mv ?_
    refine W.p O.as ?_
    refine WL.nil (Q.bn (Q.tn ?_))
    refine CW.region ?_
    first | refine W.p O.addN ?_ | refine W.p O.add ?_
    refine W.p O.mv ?_
    refine WL.nil (Q.tn ?_)
    refine nextA (i + 1, rPut st ((dAll m).getD i.toNat dR), p4, q4, r4) ?_ ?_
    · try dsimp only
      have hq8 := r_ks st ((dAll m).getD i.toNat dR)
      exact ⟨by omega, by omega, hk4, by rw [dRk_up h0 hc3, hst], by omega⟩
    · try dsimp only
      omega
  try simp only [sk] at hc3
  have hst3 : st = dRs m := by rw [hst, dRk, dRs, List.take_of_length_le (by omega)]
  subst hst3
  refine CW.exit (Q.te (Q.te (Q.bx (Q.tn ?_))))
  refine CW.seq ?_
  refine CW.seq ?_
  refine CW.region ?_
  refine W.p O.mv ?_
  refine W.p O.eqI ?_
  refine WL.nil (Q.tn ?_)
  refine CW.cond (vt rfl) (fun hc4 => ?_) (fun hc4 => ?_)
  · try simp only [sk] at hc4
    refine CW.draw 14 rfl (by kernel_rfl) ?_
    refine WQ.p O.mv ?_
    refine WQ.q (O.call ⟨rfl, rfl⟩ (AV.cons (vt rfl) (AV.cons (vt rfl) (AV.nil))) (fun _ w hw => be_Bytes _ 2 w (by decide))) ?_
    refine WQ.p O.addS ?_
    refine WQ.p O.mv ?_
    refine WQ.p O.nc ?_
    first | refine WQ.p O.fb ?_ | refine WQ.p O.fa ?_
    first | refine WQ.p O.ld ?_ | refine WQ.p O.ldC ?_
    refine WQ.q (O.call ⟨rfl, rfl⟩ (AV.cons (vt rfl) (AV.cons (vt rfl) (AV.nil))) (fun _ w hw => be_Bytes _ 2 w (by decide))) ?_
    refine WQ.p O.addS ?_
    refine WQ.q (O.call ⟨rfl, rfl⟩ (AV.cons (vt rfl) (AV.cons (vt rfl) (AV.nil))) (fun _ w hw => be_Bytes _ 4 w (by decide))) ?_
    refine WQ.p O.addS ?_
    refine WQ.q (O.call ⟨rfl, rfl⟩ (AV.cons (vt rfl) (AV.cons (vt rfl) (AV.nil))) (fun _ w hw => be_Bytes _ 2 w (by decide))) ?_
    refine WQ.p O.addS ?_
    refine WQ.p O.addS ?_
    refine WQ.nil ?_
    refine W.p O.as ?_
    refine WL.nil (Q.tn ?_)
    refine CW.seq ?_
    refine CW.region ?_
    refine W.p O.mv ?_
    refine W.p O.as ?_
    refine WL.nil (Q.tn ?_)
    refine CW.ret ?_
    refine ⟨_, [], (RVs.tmp rfl RVs.nil), List.nil_sublist _, ?_⟩
    refine ⟨congrArg (fun x => Value.string (S x)) ?_, rfl⟩
    rw [dWrite, dOpt, if_neg (by intro e; rw [decide_eq_true e] at hc4; exact absurd hc4 (by decide))]
  try simp only [sk] at hc4
  refine CW.skip (Q.tn ?_)
  refine CW.seq ?_
  refine CW.region ?_
  refine W.p O.mv ?_
  refine W.p O.as ?_
  refine WL.nil (Q.tn ?_)
  refine CW.ret ?_
  refine ⟨_, [], (RVs.tmp rfl RVs.nil), List.nil_sublist _, ?_⟩
  refine ⟨congrArg (fun x => Value.string (S x)) ?_, rfl⟩
  rw [dWrite, dOpt, if_pos (by apply Decidable.byContradiction; intro e; rw [decide_eq_false e] at hc4; exact hc4 rfl), List.append_nil]
theorem in_blk {w0 w : World} {L0 L : Heap} {b : Nat} {cs : List Value} {U : TypeId} (hw : Upd w0 L0 w L) [h1 : Blk L b (.cells cs.toArray U (0, 0))] : In w (some ⟨b, 0, none⟩) cs :=
  .inr ⟨b, 0, cs.toArray, U, (0, 0), rfl, hw.has _ h1.h, fun k hk => by simp⟩
theorem may_cut {m : Dn} (h : dnMay m = true) : dnMay (cutD m) = true := by
  simp only [dnMay, cutD, Bool.and_eq_true] at h ⊢
  obtain ⟨⟨⟨⟨⟨⟨⟨⟨a, b⟩, c⟩, d⟩, e⟩, f⟩, g⟩, i⟩, j⟩ := h
  exact ⟨⟨⟨⟨⟨⟨⟨⟨rfl, rfl⟩, rfl⟩, d⟩, e⟩, f⟩, g⟩, i⟩, j⟩
set_option maxRecDepth 100000 in
theorem dn_Put (m : Dn) (q a s d : Sl) (most : Int) (w : World) (hr : DnIn w m q a s d) (hz : DnSz m 140737488355328) : Fn Try.prog 79 [vDn m q a s d, .int .i64 most] w [] fun v L' => v = .tuple #[.string (S (dnPut m most).1), .int .i64 (dnPut m most).2] ∧ L' = [] := by
  refine Fn.enter Try.func79 rfl rfl rfl rfl (Holds.nil w) ?_
  refine CW.seq ?_
  refine CW.region ?_
  refine W.bx rfl (vt rfl) rfl fun b1 => ?_
  refine W.p O.as ?_
  refine W.p O.as ?_
  refine WL.nil (Q.tn ?_)
  refine CW.seq ?_
  refine CW.seq ?_
  refine CW.region ?_
  refine W.p O.lds ?_
  refine W.q (O.call ⟨rfl, rfl⟩ (AV.cons (vt rfl) (AV.nil)) (fun _ w hw => dn_May m q a s d w (hr.upd hw) hz)) ?_
  refine W.p O.nt ?_
  refine W.p O.mv ?_
  refine W.p O.mv ?_
  refine W.q (O.call ⟨rfl, rfl⟩ (AV.cons (vs rfl) (AV.cons (vt rfl) (AV.cons (vt rfl) (AV.nil)))) (fun _ w hw => dn_in _ _ _ w)) ?_
  refine W.p O.nt ?_
  refine W.p O.pkB ?_
  refine WL.nil (Q.tn ?_)
  refine CW.cond (vt rfl) (fun hc1 => ?_) (fun hc1 => ?_)
  · try simp only [sk] at hc1
    refine CW.seq ?_
    refine CW.region ?_
    refine W.p O.as ?_
    refine W.p O.as ?_
    refine WL.nil (Q.tn ?_)
    refine CW.ret (Q.tr ?_)
    refine ⟨_, [], (RVs.tmp rfl (RVs.tmp rfl RVs.nil)), List.nil_sublist _, ?_⟩
    refine ⟨?_, rfl⟩
    rw [dnPut, if_pos hc1]; rfl
  try simp only [sk] at hc1
  have hno : ¬ (dnMay m = false ∨ inR most 12 65535 = false) := by rintro (h | h); rw [hc1.1] at h; cases h; rw [hc1.2] at h; cases h
  have hb1 := (dn_len hc1.1).2.2.1
  have hb2 := (dn_len (may_cut hc1.1)).2.2.1
  refine CW.skip (Q.tn ?_)
  refine CW.seq ?_
  refine CW.region ?_
  refine W.q (O.call ⟨rfl, rfl⟩ (AV.cons (vt rfl) (AV.nil)) (fun _ w hw => dn_write m q a s d w (in_blk hw) (hr.upd hw) hc1.1)) ?_
  refine W.p O.as ?_
  refine WL.nil (Q.tn ?_)
  refine CW.seq ?_
  refine CW.seq ?_
  refine CW.region ?_
  refine W.p O.mv ?_
  refine W.p O.len ?_
  refine W.p O.mv ?_
  refine W.p O.gtr ?_
  refine WL.nil (Q.tn ?_)
  refine CW.cond (vt rfl) (fun hc2 => ?_) (fun hc2 => ?_)
  · try simp only [sk] at hc2
    refine CW.seq ?_
    refine CW.region ?_
    first | refine W.p O.fb ?_ | refine W.p O.fa ?_
    refine W.st (vt rfl) (vt rfl) rfl ?_
    first | refine W.p O.fb ?_ | refine W.p O.fa ?_
    first | refine W.st (vt rfl) (vt rfl) rfl ?_ | refine W.st (u := .slice _ _ _) (vt rfl) (vt rfl) rfl ?_
    first | refine W.p O.fb ?_ | refine W.p O.fa ?_
    first | refine W.st (vt rfl) (vt rfl) rfl ?_ | refine W.st (u := .slice _ _ _) (vt rfl) (vt rfl) rfl ?_
    first | refine W.p O.fb ?_ | refine W.p O.fa ?_
    first | refine W.st (vt rfl) (vt rfl) rfl ?_ | refine W.st (u := .slice _ _ _) (vt rfl) (vt rfl) rfl ?_
    refine WL.nil (Q.tn ?_)
    refine CW.region ?_
    refine W.q (O.call ⟨rfl, rfl⟩ (AV.cons (vt rfl) (AV.nil)) (fun _ w hw => dn_write (cutD m) q nS nS nS w (in_blk hw) ⟨hr.hq.upd (L0 := []) hw, In.nil, In.nil, In.nil⟩ (may_cut hc1.1))) ?_
    refine W.p O.as ?_
    refine WL.nil (Q.tn ?_)
    refine CW.seq ?_
    refine CW.seq ?_
    refine CW.region ?_
    refine W.p O.mv ?_
    refine W.p O.len ?_
    refine W.p O.mv ?_
    refine W.p O.gtr ?_
    refine WL.nil (Q.tn ?_)
    refine CW.cond (vt rfl) (fun hc3 => ?_) (fun hc3 => ?_)
    · try simp only [sk] at hc3
      refine CW.seq ?_
      refine CW.region ?_
      refine W.p O.as ?_
      refine W.p O.as ?_
      refine WL.nil (Q.tn ?_)
      refine CW.ret (Q.tr ?_)
      refine ⟨_, [], (RVs.tmp rfl (RVs.tmp rfl RVs.nil)), List.nil_sublist _, ?_⟩
      refine ⟨?_, rfl⟩
      rw [dnPut, if_neg hno, if_neg (by omega), if_neg (by omega)]; rfl
    try simp only [sk] at hc3
    refine CW.skip (Q.tn ?_)
    refine CW.seq ?_
    refine CW.region ?_
    refine W.p O.mv ?_
    refine W.p O.as ?_
    refine W.p O.as ?_
    refine WL.nil (Q.tn ?_)
    refine CW.ret ?_
    refine ⟨_, [], (RVs.tmp rfl (RVs.tmp rfl RVs.nil)), List.nil_sublist _, ?_⟩
    refine ⟨?_, rfl⟩
    rw [dnPut, if_neg hno, if_neg (by omega), if_pos (by omega)]; rfl
  try simp only [sk] at hc2
  refine CW.skip (Q.tn ?_)
  refine CW.seq ?_
  refine CW.seq ?_
  refine CW.region ?_
  refine W.p O.mv ?_
  refine W.p O.len ?_
  refine W.p O.mv ?_
  refine W.p O.gtr ?_
  refine WL.nil (Q.tn ?_)
  refine CW.cond (vt rfl) (fun hc4 => ?_) (fun hc4 => ?_)
  · exact absurd (of_decide_eq_true hc4) hc2
  try simp only [sk] at hc4
  refine CW.skip (Q.tn ?_)
  refine CW.seq ?_
  refine CW.region ?_
  refine W.p O.mv ?_
  refine W.p O.as ?_
  refine W.p O.as ?_
  refine WL.nil (Q.tn ?_)
  refine CW.ret ?_
  refine ⟨_, [], (RVs.tmp rfl (RVs.tmp rfl RVs.nil)), List.nil_sublist _, ?_⟩
  refine ⟨?_, rfl⟩
  rw [dnPut, if_neg hno, if_pos (by omega)]; rfl
end Go.Proofs.Ytkjcmdgideddnaa
