/- What the document's sweep comes to, and the statement ZoneSwept: its walk. Conditions: what comes in is not longer than a million; the library's table of powers of ten is as its text lays it. -/
import Derived.Test.YtagiajnpnjakhaaDoorL20
set_option linter.unusedVariables false
set_option linter.unusedSimpArgs false
namespace Go.Proofs.YtagiajnpnjakhaaDoor
open Go Go.RowKit
def SRes (ls : List Lz) (now : Int) (v : Value) (L' : Heap) : Prop := ∃ o c' sp, v = .tuple #[.slice (oa o) (sweepP ls now).1.length c', .int .i64 (sweepP ls now).2] ∧ OwnOk o c' 6 (sweepP ls now).1.length (List.length sp) ∧ L' = rowL o 48 (flat encL (sweepP ls now).1 sp)
def swL (now : Int) (l : Lz) : Lz := if l.state ≠ 0 ∧ live l now = false then letL l else l
set_option maxRecDepth 100000 in
theorem ref_Sweep (ls : List Lz) (a : Option Addr) (cc : Nat) (now : Int) (w : World) (hl : In w a (ls.flatMap encL)) (hls : LsSz ls) : Fn Tryd.prog 29 [.slice a ls.length cc, .int .i64 now] w [] (SRes ls now) := by
  have row := Row.ofE (dv := dL) hl
  have hll := hls.hl
  refine Fn.enter Tryd.func29 rfl rfl rfl rfl (Holds.nil w) ?_
  refine CW.seq ?_
  refine CW.region ?_
  refine W.p O.as ?_
  refine W.p O.as ?_
  refine WL.nil (Q.tn ?_)
  refine CW.seq ?_
  refine CW.seq ?_
  refine CW.region ?_
  refine W.p O.mv ?_
  refine W.q (O.call ⟨rfl, rfl⟩ (AV.cons (vt rfl) (AV.nil)) (fun _ w hw => ref_TableMay ls a cc w (hl.upd (L0 := []) hw) hls)) ?_
  refine W.p O.nt ?_
  refine W.p O.mv ?_
  refine W.p O.mv ?_
  refine W.p O.lss ?_
  refine W.p O.pkB ?_
  refine W.p O.mv ?_
  refine W.p O.mv ?_
  refine W.p O.gtr ?_
  refine W.p O.pkB ?_
  refine WL.nil (Q.tn ?_)
  refine CW.cond (vt rfl) (fun hc1 => ?_) (fun hc1 => ?_)
  · try simp only [sk] at hc1
    refine CW.seq ?_
    refine CW.region ?_
    refine W.p O.as ?_
    refine W.p O.as ?_
    refine WL.nil (Q.tn ?_)
    refine CW.ret (Q.tr ?_)
    refine ⟨_, [], (RVs.tmp rfl (RVs.tmp rfl RVs.nil)), List.nil_sublist _, ?_⟩
    have hno : sweepP ls now = ([], 1900) := by
      rw [sweepP, if_neg]; rintro ⟨a1, a2⟩; simp only [inZ, Bool.and_eq_true, decide_eq_true_eq] at a2; rcases hc1 with (hq | hq) | hq; (rw [a1] at hq; cases hq); all_goals omega
    rw [SRes, hno]; exact ⟨none, 0, [], rfl, OwnOk.nil, rfl⟩
  try simp only [sk] at hc1
  refine CW.skip (Q.tn ?_)
  refine CW.seq ?_
  refine CW.region ?_
  refine W.p O.as ?_
  refine WL.nil (Q.tn ?_)
  refine CW.seq ?_
  refine CW.seq ?_
  refine CW.region ?_
  refine W.p O.as ?_
  refine WL.nil (Q.tn ?_)
  refine CW.block ?_
  refine CW.loopA (X := Int × (List Lz) × (Option Nat) × Nat × (List Value)) (fun ⟨i, out, o, ca, sp⟩ => [(0, true, .slice a ls.length cc), (1, true, .int .i64 now), (6, true, .slice (oa o) out.length ca), (7, true, .int .i64 i)]) (fun ⟨i, out, o, ca, sp⟩ => rowL o 48 (flat encL out sp)) (fun ⟨i, out, o, ca, sp⟩ => 0 ≤ i ∧ i ≤ ls.length ∧ OwnOk o ca 6 out.length sp.length ∧ out = (ls.take i.toNat).map (swL now)) (fun ⟨i, out, o, ca, sp⟩ => (ls.length - i).toNat) (0, [], none, 0, []) ?_ ?_
  · exact ⟨by omega, by omega, OwnOk.nil, by simp⟩
  rintro ⟨i, out, o, ca, sp⟩ hI
  try dsimp only at hI ⊢
  obtain ⟨h0, h1, hok, hout⟩ := hI
  have nk := hok.nk
  have hol : out.length ≤ i := by rw [hout, List.length_map, List.length_take]; omega
  refine CW.seq ?_
  refine CW.seq ?_
  refine CW.region ?_
  refine W.p O.mv ?_
  refine W.p O.mv ?_
  refine W.p O.lenL ?_
  refine W.p O.lss ?_
  refine WL.nil (Q.tn ?_)
  refine CW.cond (vt rfl) (fun hc2 => ?_) (fun hc2 => ?_)
  · try simp only [sk] at hc2
    have hnn := hls.hn _ (mem_at dL h0 hc2)
    refine CW.skip (Q.tn ?_)
    refine CW.seq ?_
    refine CW.block ?_
    refine CW.seq ?_
    refine CW.region ?_
    refine W.p O.mv ?_
    refine W.p O.mv ?_
    refine W.p O.ixA ?_
    refine W.p O.ldsE ?_
    refine W.al rfl rfl fun b1 => ?_
    refine W.st (vt rfl) (vt rfl) rfl ?_
    refine WL.nil (Q.tn ?_)
    refine CW.seq ?_
    refine CW.seq ?_
    refine CW.region ?_
    first | refine W.p O.fb ?_ | refine W.p O.fa ?_
    refine W.p O.ld ?_
    refine W.p O.neI ?_
    refine W.p O.mv ?_
    refine W.p O.lds ?_
    refine W.p O.mv ?_
    refine W.q (O.call ⟨rfl, rfl⟩ (AV.cons (vs rfl) (AV.cons (vs rfl) (AV.nil))) (fun _ w hw => ref_Live (ls.getD i.toNat dL) now w (by omega))) ?_
    refine W.p O.nt ?_
    refine W.p O.pkB ?_
    refine WL.nil (Q.tn ?_)
    refine CW.cond (vt rfl) (fun hc3 => ?_) (fun hc3 => ?_)
    · try simp only [sk] at hc3
      have hsw : swL now (ls.getD i.toNat dL) = letL (ls.getD i.toNat dL) := by rw [swL, if_pos]; simpa using hc3
      refine CW.region ?_
      refine W.p O.lds ?_
      refine W.q (O.call ⟨rfl, rfl⟩ (AV.cons (vt rfl) (AV.nil)) (fun _ w hw => ref_let (ls.getD i.toNat dL) w)) ?_
      refine W.st (vt rfl) (vt rfl) rfl ?_
      refine WL.nil (Q.tn ?_)
      refine CW.region ?_
      refine W.p O.mv ?_
      refine W.p O.lds ?_
      refine W.bs encL [⟨_, _, _, _, _, _⟩] rfl (PV.cons (vt rfl) (PV.nil)) rfl rfl rfl (by decide) rfl fun b2 => ?_
      refine W.ap rfl (vt rfl) (vt rfl) (by first | rfl | omega) (by first | rfl | omega) rfl (by first | assumption | exact OwnOk.nil | exact OwnOk.lit) (by first | omega | (simp; omega)) fun o1 c1 sp1 ok1 ne1 gt1 => ?_
      have nk1 := ok1.nk; have le1 := ok1.2.2.1; try simp only [List.length_append, List.length_cons, List.length_nil] at le1
      refine W.p O.as ?_
      refine WL.nil (Q.bn (Q.tn ?_))
      refine CW.region ?_
      refine W.p O.mv ?_
      first | refine W.p O.addN ?_ | refine W.p O.add ?_
      refine W.p O.as ?_
      refine WL.nil (Q.tn ?_)
      refine nextA (_, out ++ [letL (ls.getD i.toNat dL)], _, _, _) ?_ ?_
      · try dsimp only
        refine ⟨by omega, by omega, by assumption, ?_⟩
        rw [take_at' dL h0 hc2, List.map_append, hout, List.map_cons, hsw]; rfl
      · try dsimp only
        omega
    try simp only [sk] at hc3
    have hsw : swL now (ls.getD i.toNat dL) = ls.getD i.toNat dL := by rw [swL, if_neg]; rintro ⟨q1, q2⟩; rw [q2] at hc3; simp only [Bool.not_false, decide_true, not_true, Decidable.not_not, not_and, Bool.not_eq_true, and_true, Bool.false_eq_true] at hc3; exact hc3.elim q1 id
    refine CW.skip (Q.tn ?_)
    refine CW.region ?_
    refine W.p O.mv ?_
    refine W.p O.lds ?_
    refine W.bs encL [⟨_, _, _, _, _, _⟩] rfl (PV.cons (vt rfl) (PV.nil)) rfl rfl rfl (by decide) rfl fun b3 => ?_
    refine W.ap rfl (vt rfl) (vt rfl) (by first | rfl | omega) (by first | rfl | omega) rfl (by first | assumption | exact OwnOk.nil | exact OwnOk.lit) (by first | omega | (simp; omega)) fun o2 c2 sp2 ok2 ne2 gt2 => ?_
    have nk2 := ok2.nk; have le2 := ok2.2.2.1; try simp only [List.length_append, List.length_cons, List.length_nil] at le2
    refine W.p O.as ?_
    refine WL.nil (Q.bn (Q.tn ?_))
    refine CW.region ?_
    refine W.p O.mv ?_
    first | refine W.p O.addN ?_ | refine W.p O.add ?_
    refine W.p O.as ?_
    refine WL.nil (Q.tn ?_)
    refine nextA (_, out ++ [ls.getD i.toNat dL], _, _, _) ?_ ?_
    · try dsimp only
      refine ⟨by omega, by omega, by assumption, ?_⟩
      rw [take_at' dL h0 hc2, List.map_append, hout, List.map_cons, hsw]; rfl
    · try dsimp only
      omega
  try simp only [sk] at hc2
  refine CW.exit (Q.te (Q.te (Q.bx (Q.tn ?_))))
  refine CW.seq ?_
  refine CW.region ?_
  refine W.p O.mv ?_
  refine W.p O.as ?_
  refine W.p O.as ?_
  refine WL.nil (Q.tn ?_)
  refine CW.ret ?_
  refine ⟨_, rowL o 48 (flat encL out sp), (RVs.tmp rfl (RVs.tmp rfl RVs.nil)), (by repeat (first | exact List.Sublist.refl _ | exact hSub _ | exact List.sublist_append_left _ _ | exact List.nil_sublist _ | refine List.Sublist.append (List.Sublist.refl _) ?_ | apply List.Sublist.cons_cons | apply List.Sublist.cons | exact List.sublist_append_left _ _ | refine List.Sublist.trans ?_ (List.sublist_append_right _ _))), ?_⟩
  have hyes : sweepP ls now = (out, 0) := by
    rw [sweepP, if_pos (by refine ⟨hc1.1.1, ?_⟩; simp only [inZ, Bool.and_eq_true, decide_eq_true_eq]; omega), hout, List.take_of_length_le (by omega)]; rfl
  rw [SRes, hyes]; exact ⟨o, ca, sp, rfl, hok, rfl⟩
theorem sweepL_sz {ls : List Lz} {now : Int} (h : LsSz ls) : LsSz (sweepP ls now).1 := by
  unfold sweepP
  split
  · refine ⟨by simp only [sweepL, List.length_map]; exact h.hl, fun l hm => ?_, fun l hm => ?_⟩
    all_goals simp only [sweepL] at hm; obtain ⟨x, hx, rfl⟩ := List.mem_map.1 hm
    · split
      · simp [letL]
      · exact h.hn x hx
    · split
      · exact h.hc x hx
      · exact h.hc x hx
  · exact nil_sz
theorem swept_z {c : Cf} {ls : List Lz} {now : Int} (h : zAsk c ls now 3 = true) : (sweepP ls now).2 = 0 ∧ zRec c (sweepP ls now).1 now 3 = zRec c ls now 3 ∧ zChg c ls (sweepP ls now).1 now now = (false, 0) := by
  have h' := h
  simp only [zAsk, Bool.and_eq_true] at h'
  obtain ⟨⟨⟨h1, h2⟩, h3⟩, _⟩ := h'
  have e : sweepP ls now = (sweepL ls now, 0) := by rw [sweepP, if_pos ⟨h2, h3⟩]
  have hm := sweep_may (now := now) h2
  have h3' := h3
  simp only [inZ, Bool.and_eq_true, decide_eq_true_eq] at h3'
  have a3 : zAsk c (sweepL ls now) now 3 = true := by simp [zAsk, h1, hm, h3', inZ]
  have a0 : zAsk c (sweepL ls now) now 0 = true := by simp [zAsk, h1, hm, h3', inZ]
  have a1 : zAsk c ls now 0 = true := by simp [zAsk, h1, h2, h3', inZ]
  rw [e]
  refine ⟨rfl, ?_, ?_⟩
  · simp only []; rw [zRec, if_pos a3, zRec, if_pos h, recs_sweep]
  · simp only []; rw [zChg, if_pos ⟨a1, a0⟩, recs_sweep]; simp
theorem zRec_no {c : Cf} {ls : List Lz} {now n : Int} (h : (zRec c ls now n).2 ≠ 0) : (zRec c ls now n).1 = [] := by
  unfold zRec at h ⊢
  split at h
  · exact absurd rfl h
  · rename_i hq; rw [if_neg hq]
set_option maxRecDepth 100000 in
theorem law20_ZoneSwept (c : Cf) (e r s : Sl2) (ls : List Lz) (al : Option Addr) (cl : Nat) (now : Int) (w : World) (h : CfIn w c e r s) (hl : In w al (ls.flatMap encL)) (hz : CfSz c) (hls : LsSz ls) (ht : Tab10 w) :
    Fn Tryd.prog 7 [vCf c e r s, .slice al ls.length cl, .int .i64 now] w [] fun v L' => v = .bool true ∧ L' = [] := by
  have hr1 := zRec_len (now := now) (n := 3) hz hls
  have hll := hls.hl
  have hsl := sweepL_sz (now := now) hls
  refine Fn.enter Tryd.func7 rfl rfl rfl rfl (Holds.nil w) ?_
  refine CW.seq ?_
  refine CW.region ?_
  refine W.bx rfl (vt rfl) rfl fun b1 => ?_
  refine W.p O.as ?_
  refine WL.nil (Q.tn ?_)
  refine CW.seq ?_
  refine CW.seq ?_
  refine CW.region ?_
  refine W.q (O.call ⟨rfl, rfl⟩ (AV.nil) (fun _ w hw => law20_awake w (ht.upd hw))) ?_
  refine W.p O.nt ?_
  refine WL.nil (Q.tn ?_)
  refine CW.cond (vt rfl) (fun hc1 => ?_) (fun hc1 => ?_)
  · exfalso; simp at hc1
  try simp only [sk] at hc1
  refine CW.skip (Q.tn ?_)
  refine CW.seq ?_
  refine CW.region ?_
  refine W.p O.lds ?_
  refine W.p O.mv ?_
  refine W.p O.mv ?_
  refine W.callN (first := []) (cap := []) rfl (vt rfl) (AV.cons (vt rfl) (AV.cons (vt rfl) (AV.cons (vt rfl) (AV.cons (vt rfl) (AV.nil))))) (fun w hu => zn_Records c e r s ls al cl now 3 w (h.upd hu) hz (hl.upd (L0 := []) hu) hls (by decide) (ht.upd hu)) ?_; rintro _ _ ⟨o31, c31, p31, rfl, ok31, rfl⟩; have nk31 := ok31.nk (α := RR) (xs := (zRec c ls now 3).1)
  refine W.p O.mv ?_
  first | refine W.p O.extL ?_ | refine W.p O.ext ?_
  first | refine W.p O.extL ?_ | refine W.p O.ext ?_
  refine W.p O.as ?_
  refine W.p O.as ?_
  refine WL.nil (Q.tn ?_)
  refine CW.seq ?_
  refine CW.seq ?_
  refine CW.region ?_
  refine W.p O.mv ?_
  refine W.q (O.call ⟨rfl, rfl⟩ (AV.cons (vt rfl) (AV.nil)) (fun _ w hw => law0_Num _ w)) ?_
  refine W.p O.neI ?_
  refine WL.nil (Q.tn ?_)
  refine CW.cond (vt rfl) (fun hc2 => ?_) (fun hc2 => ?_)
  · try simp only [sk] at hc2
    refine CW.seq ?_
    refine CW.region ?_
    refine W.p O.mv ?_
    refine W.p O.lenL ?_
    refine W.p O.eqI ?_
    refine W.p O.as ?_
    refine WL.nil (Q.tn ?_)
    refine CW.ret (Q.tr ?_)
    refine ⟨_, [], (RVs.tmp rfl RVs.nil), List.nil_sublist _, ?_⟩
    refine ⟨congrArg Value.bool ?_, rfl⟩
    rw [zRec_no hc2]; rfl
  try simp only [sk] at hc2
  refine CW.skip (Q.tn ?_)
  refine CW.seq ?_
  refine CW.region ?_
  refine W.p O.mv ?_
  refine W.p O.mv ?_
  refine W.callN (first := []) (cap := []) rfl (vt rfl) (AV.cons (vt rfl) (AV.cons (vt rfl) (AV.nil))) (fun w hu => ref_Sweep ls al cl now w (hl.upd (L0 := []) hu) hls) ?_; rintro _ _ ⟨o32, c32, p32, rfl, ok32, rfl⟩; have nk32 := ok32.nk (α := Lz) (xs := (sweepP ls now).1)
  refine W.p O.mv ?_
  first | refine W.p O.extL ?_ | refine W.p O.ext ?_
  first | refine W.p O.extL ?_ | refine W.p O.ext ?_
  refine W.p O.as ?_
  refine W.p O.as ?_
  refine WL.nil (Q.tn ?_)
  refine CW.seq ?_
  refine CW.region ?_
  refine W.p O.lds ?_
  refine W.p O.mv ?_
  refine W.p O.mv ?_
  refine W.callN (first := []) (cap := []) rfl (vt rfl) (AV.cons (vt rfl) (AV.cons (vt rfl) (AV.cons (vt rfl) (AV.cons (vt rfl) (AV.nil))))) (fun w hu => zn_Records c e r s (sweepP ls now).1 (oa o32) c32 now 3 w (h.upd hu) hz (RowL.h (enc := encL) (xs := (sweepP ls now).1) (a := oa o32) _ hu) hsl (by decide) (ht.upd hu)) ?_; rintro _ _ ⟨o33, c33, p33, rfl, ok33, rfl⟩; have nk33 := ok33.nk (α := RR) (xs := (zRec c (sweepP ls now).1 now 3).1)
  refine W.p O.mv ?_
  first | refine W.p O.extL ?_ | refine W.p O.ext ?_
  first | refine W.p O.extL ?_ | refine W.p O.ext ?_
  refine W.p O.as ?_
  refine W.p O.as ?_
  refine WL.nil (Q.tn ?_)
  refine CW.seq ?_
  refine CW.region ?_
  refine W.p O.lds ?_
  refine W.p O.mv ?_
  refine W.p O.mv ?_
  refine W.p O.mv ?_
  refine W.p O.mv ?_
  refine W.q (O.call ⟨rfl, rfl⟩ (AV.cons (vt rfl) (AV.cons (vt rfl) (AV.cons (vt rfl) (AV.cons (vt rfl) (AV.cons (vt rfl) (AV.nil)))))) (fun _ w hw => zn_Changed c e r s ls (sweepP ls now).1 al (oa o32) cl c32 now now w (h.upd hw) hz (hl.upd (L0 := []) hw) hls (RowL.h (enc := encL) (xs := (sweepP ls now).1) (a := oa o32) _ hw) hsl (ht.upd hw))) ?_
  refine W.p O.mv ?_
  first | refine W.p O.extL ?_ | refine W.p O.ext ?_
  first | refine W.p O.extL ?_ | refine W.p O.ext ?_
  refine W.p O.as ?_
  refine W.p O.as ?_
  refine WL.nil (Q.tn ?_)
  refine CW.seq ?_
  refine CW.region ?_
  refine W.p O.mv ?_
  refine W.p O.eqI ?_
  refine W.p O.mv ?_
  refine W.p O.mv ?_
  refine W.q (O.call ⟨rfl, rfl⟩ (AV.cons (vs rfl) (AV.nil)) (fun _ w hw => law0_Num _ w)) ?_
  refine W.p O.eqI ?_
  refine W.p O.pkB ?_
  refine W.p O.mv ?_
  refine W.p O.mv ?_
  refine W.p O.mv ?_
  refine W.q (O.call ⟨rfl, rfl⟩ (AV.cons (vs rfl) (AV.cons (vs rfl) (AV.nil))) (fun _ w hw => sameRRs (zRec c ls now 3).1 (zRec c (sweepP ls now).1 now 3).1 _ _ _ _ w (RowL.h (enc := encR) (xs := (zRec c ls now 3).1) (a := oa o31) _ hw) (RowL.h (enc := encR) (xs := (zRec c (sweepP ls now).1 now 3).1) (a := oa o33) _ hw) (by omega))) ?_
  refine W.p O.pkB ?_
  refine W.p O.mv ?_
  refine W.p O.mv ?_
  refine W.p O.nt ?_
  refine W.p O.pkB ?_
  refine W.p O.mv ?_
  refine W.p O.mv ?_
  refine W.q (O.call ⟨rfl, rfl⟩ (AV.cons (vs rfl) (AV.nil)) (fun _ w hw => law0_Num _ w)) ?_
  refine W.p O.eqI ?_
  refine W.p O.pkB ?_
  refine W.p O.as ?_
  refine WL.nil (Q.tn ?_)
  refine CW.ret ?_
  refine ⟨_, [], (RVs.tmp rfl RVs.nil), List.nil_sublist _, ?_⟩
  refine ⟨congrArg Value.bool ?_, rfl⟩
  obtain ⟨e1, e2, e3⟩ := swept_z (zRec_0.1 hc2)
  rw [e1, e2, e3]; simp [hc2]
end Go.Proofs.YtagiajnpnjakhaaDoor
