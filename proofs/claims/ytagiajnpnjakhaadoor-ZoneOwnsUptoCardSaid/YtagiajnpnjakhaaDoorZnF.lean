/- What zone.Records and zone.Changed come to. Conditions: the configuration's and the leases' rows and texts are not longer than a million; the library's table of powers of ten is as its text lays it. -/
import Derived.Test.YtagiajnpnjakhaaDoorZnD
set_option linter.unusedVariables false
set_option linter.unusedSimpArgs false
namespace Go.Proofs.YtagiajnpnjakhaaDoor
open Go Go.RowKit
theorem In.el {w : World} {a : Option Addr} {α : Type} {enc : α → List Value} {m : Nat} {dv : α} [he : Enc enc m dv] {xs : List α} {i : Int} (h : In w a (xs.flatMap enc)) (h0 : 0 ≤ i) (h1 : i < xs.length) : ∃ q, elt a m i.toNat 0 = some q ∧ In w (some q) (enc (xs.getD i.toNat dv)) := by
  have hd := h.drop he.hm i.toNat (by omega)
  have e : xs.drop i.toNat = xs.getD i.toNat dv :: xs.drop (i.toNat + 1) := by
    rw [List.getD_eq_getElem?_getD, List.getElem?_eq_getElem (by omega), List.drop_eq_getElem_cons (by omega)]; rfl
  rw [e, List.flatMap_cons] at hd
  have h2 := hd.pre
  have hne : enc (xs.getD i.toNat dv) ≠ [] := fun e => by have := he.hm (xs.getD i.toNat dv); have h3 := he.pos; rw [e] at this; simp at this; omega
  obtain ⟨q, hq⟩ := h2.adr hne
  exact ⟨q, hq, hq ▸ h2⟩
def ZRes (c : Cf) (ls : List Lz) (now n : Int) (v : Value) (L' : Heap) : Prop := ∃ o c' sp, v = .tuple #[.slice (oa o) (zRec c ls now n).1.length c', .int .i64 (zRec c ls now n).2] ∧ OwnOk o c' 7 (zRec c ls now n).1.length (List.length sp) ∧ L' = rowL o 51 (flat encR (zRec c ls now n).1 sp)
set_option maxRecDepth 100000 in
theorem zn_Records (c : Cf) (e r s : Sl2) (ls : List Lz) (a : Option Addr) (cc : Nat) (now n : Int) (w : World) (h : CfIn w c e r s) (hz : CfSz c) (hl : In w a (ls.flatMap encL)) (hls : LsSz ls) (hn : -9223372036854775808 ≤ n ∧ n ≤ 9223372036854775807) (ht : Tab10 w) : Fn Tryd.prog 14 [vCf c e r s, .slice a ls.length cc, .int .i64 now, .int .i64 n] w [] (ZRes c ls now n) := by
  have row := Row.ofE (dv := dL) hl
  have rows := Row.ofE (dv := dR) h.hs
  have hll := hls.hl
  have hzs := hz.hs
  have hzh : (zHead c n).length = 2 := rfl
  refine Fn.enter Tryd.func14 rfl rfl rfl rfl (Holds.nil w) ?_
  refine CW.seq ?_
  refine CW.region ?_
  refine W.bx rfl (vt rfl) rfl fun b1 => ?_
  refine W.p O.as ?_
  refine W.p O.as ?_
  refine WL.nil (Q.tn ?_)
  refine CW.seq ?_
  refine CW.seq ?_
  refine CW.region ?_
  first | refine W.p O.lds ?_ | refine W.p O.ldsC ?_
  refine W.q (O.call ⟨rfl, rfl⟩ (AV.cons (vt rfl) (AV.nil)) (fun _ w hw => cf_May c e r s w (h.upd hw) hz)) ?_
  refine W.p O.nt ?_
  refine W.p O.mv ?_
  refine W.p O.mv ?_
  refine W.q (O.call ⟨rfl, rfl⟩ (AV.cons (vs rfl) (AV.nil)) (fun _ w hw => tb_May ls a cc w (hl.upd (L0 := []) hw) hls)) ?_
  refine W.p O.nt ?_
  refine W.p O.pkB ?_
  refine W.p O.mv ?_
  refine W.p O.mv ?_
  refine W.q (O.call ⟨rfl, rfl⟩ (AV.cons (vs rfl) (AV.nil)) (fun _ w hw => ls_Time now w)) ?_
  refine W.p O.nt ?_
  refine W.p O.pkB ?_
  refine W.p O.mv ?_
  refine W.p O.mv ?_
  refine W.q (O.call ⟨rfl, rfl⟩ (AV.cons (vs rfl) (AV.nil)) (fun _ w hw => sn_May n w hn)) ?_
  refine W.p O.nt ?_
  refine W.p O.pkB ?_
  refine WL.nil (Q.tn ?_)
  refine CW.cond (vt rfl) (fun hc1 => ?_) (fun hc1 => ?_)
  · try simp only [sk] at hc1
    refine CW.seq ?_
    refine CW.region ?_
    refine W.p O.as ?_
    refine W.p O.as ?_
    refine WL.nil (Q.tn ?_)
    refine CW.ret (Q.tr ?_)
    refine ⟨_, [], (RVs.tmp rfl (RVs.tmp rfl RVs.nil)), List.nil_sublist _, ?_⟩
    have hno : zAsk c ls now n = false := by rw [zAsk]; rcases hc1 with ((hq | hq) | hq) | hq <;> rw [hq] <;> simp
    rw [ZRes, zRec, if_neg (by rw [hno]; decide)]; exact ⟨none, 0, [], rfl, OwnOk.nil, rfl⟩
  try simp only [sk] at hc1
  refine CW.skip (Q.tn ?_)
  refine CW.seq ?_
  refine CW.region ?_
  first | refine W.p O.lds ?_ | refine W.p O.ldsC ?_
  refine W.q (O.call ⟨rfl, rfl⟩ (AV.cons (vt rfl) (AV.cons (vt rfl) (AV.nil))) (fun _ w hw => rg_Full c e r s [110, 115] w (h.upd hw) hz (by decide))) ?_
  refine W.p O.as ?_
  refine WL.nil (Q.tn ?_)
  refine CW.seq ?_
  refine CW.region ?_
  first | refine W.p O.fb ?_ | refine W.p O.fa ?_
  first | refine W.p O.ld ?_ | refine W.p O.ldC ?_
  refine W.p O.mv ?_
  refine W.p O.mv ?_
  refine W.p (O.bd (hv := PV.cons (vt rfl) (PV.cons (vt rfl) (PV.cons (vt rfl) (PV.cons (vt rfl) (PV.cons (vt rfl) (PV.nil))))))) ?_
  first | refine W.p O.fb ?_ | refine W.p O.fa ?_
  first | refine W.p O.ld ?_ | refine W.p O.ldC ?_
  refine W.p O.mv ?_
  refine W.p (O.bd (hv := PV.cons (vt rfl) (PV.cons (vt rfl) (PV.cons (vt rfl) (PV.cons (vt rfl) (PV.nil)))))) ?_
  refine W.bs encR (zHead c n) rfl (PV.cons (vt rfl) (PV.cons (vt rfl) (PV.nil))) rfl rfl rfl (by decide) rfl fun b2 => ?_
  refine W.p O.as ?_
  refine WL.nil (Q.tn ?_)
  refine CW.seq ?_
  refine CW.region ?_
  refine W.p O.mv ?_
  first | refine W.p O.fb ?_ | refine W.p O.fa ?_
  first | refine W.p O.ld ?_ | refine W.p O.ldC ?_
  refine W.ap (o := some _) rfl (vt rfl) (vt rfl) (by first | rfl | omega) (by first | rfl | omega) rfl (by first | assumption | exact OwnOk.nil | exact OwnOk.lit | exact ⟨by simp, rfl, Nat.le_refl _, by decide⟩) (by first | omega | (simp; omega)) fun o1 c1 sp1 ok1 ne1 gt1 => ?_
  have nk1 := ok1.nk; have le1 := ok1.2.2.1; try simp only [List.length_append, List.length_cons, List.length_nil] at le1
  refine W.p O.as ?_
  refine WL.nil (Q.tn ?_)
  refine CW.seq ?_
  refine CW.seq ?_
  refine CW.region ?_
  refine W.p O.mv ?_
  refine W.p O.lenL ?_
  refine W.p O.mv ?_
  refine WL.nil (Q.tn ?_)
  refine CW.block ?_
  refine CW.loopA (X := Int × (List RR) × (Option Nat) × Nat × (List Value)) (fun ⟨i, out, o, ca, sp⟩ => [(1, true, .slice a ls.length cc), (2, true, .int .i64 now), (4, true, .pointer (some ⟨b1, 0, none⟩)), (11, true, .slice (oa o) out.length ca), (49, true, .int .i64 ls.length), (50, true, .int .i64 i)]) (fun ⟨i, out, o, ca, sp⟩ => rowL o 51 (flat encR out sp) ++ [(b1, .cells (encCf c e r s).toArray 26 (0, 0))]) (fun ⟨i, out, o, ca, sp⟩ => 0 ≤ i ∧ i ≤ ls.length ∧ OwnOk o ca 7 out.length sp.length ∧ out.length ≤ 2 + c.stat.length + 3 * i ∧ out = zHead c n ++ c.stat ++ ((ls.take i.toNat).filter (toldZ c now)).flatMap (lentR c)) (fun ⟨i, out, o, ca, sp⟩ => (ls.length - i).toNat) (0, zHead c n ++ c.stat, _, _, _) ?_ ?_
  · exact ⟨by omega, by omega, by assumption, by rw [List.length_append]; omega, by simp⟩
  rintro ⟨i, out, o, ca, sp⟩ hI
  try dsimp only at hI ⊢
  obtain ⟨h0, h1, hok, hol, hout⟩ := hI
  have nk := hok.nk
  refine CW.seq ?_
  refine CW.region ?_
  refine W.p O.lss ?_
  refine WL.nil (Q.tn ?_)
  refine CW.seq ?_
  refine CW.cond (vt rfl) (fun hc2 => ?_) (fun hc2 => ?_)
  · try simp only [sk] at hc2
    obtain ⟨q, hq, hqi⟩ := hl.el (m := 6) (dv := dL) h0 hc2
    have hnn := hls.hn _ (mem_at dL h0 hc2)
    have d2 : ∀ {L : Heap}, Cell w [] L (q.add 2) (.string (S (ls.getD i.toNat dL).client)) := fun {L} => cellQ hqi rfl
    have d4 : ∀ {L : Heap}, Cell w [] L (q.add 4) (.string (S (ls.getD i.toNat dL).name)) := fun {L} => cellQ hqi rfl
    have d5 : ∀ {L : Heap}, Cell w [] L (q.add 5) (.bool (ls.getD i.toNat dL).won) := fun {L} => cellQ hqi rfl
    refine CW.skip (Q.tn ?_)
    refine CW.seq ?_
    refine CW.block ?_
    refine CW.seq ?_
    refine CW.region ?_
    refine W.p O.mv ?_
    refine W.p O.as ?_
    refine WL.nil (Q.tn ?_)
    refine CW.seq ?_
    refine CW.region ?_
    refine W.p O.mv ?_
    refine W.p O.mv ?_
    refine W.p O.ixA ?_
    rw [hq]
    refine W.p O.as ?_
    refine WL.nil (Q.tn ?_)
    refine CW.seq ?_
    refine CW.draw 22 rfl (by kernel_rfl) ?_
    refine WQ.p O.mv ?_
    refine WQ.p O.nc ?_
    first | refine WQ.p O.fb ?_ | refine WQ.p O.fa ?_
    first | refine WQ.p O.ld ?_ | refine WQ.p O.ldC ?_
    refine WQ.p O.mv ?_
    refine WQ.p O.mv ?_
    refine WQ.p O.mv ?_
    refine WQ.p O.nc ?_
    first | refine WQ.p O.fb ?_ | refine WQ.p O.fa ?_
    first | refine WQ.p O.ld ?_ | refine WQ.p O.ldC ?_
    refine WQ.p O.mv ?_
    refine WQ.q (O.call ⟨rfl, rfl⟩ (AV.cons (vs rfl) (AV.cons (vs rfl) (AV.cons (vs rfl) (AV.nil)))) (fun _ w hw => ls_Bound (ls.getD i.toNat dL) _ now w (hqi.upd (L0 := []) hw) (by omega))) ?_
    refine WQ.p O.pkB ?_
    refine WQ.p O.mv ?_
    first | refine WQ.p O.lds ?_ | refine WQ.p O.ldsC ?_
    refine WQ.p O.mv ?_
    refine WQ.p O.nc ?_
    first | refine WQ.p O.fb ?_ | refine WQ.p O.fa ?_
    first | refine WQ.p O.ld ?_ | refine WQ.p O.ldC ?_
    refine WQ.q (O.call ⟨rfl, rfl⟩ (AV.cons (vs rfl) (AV.cons (vs rfl) (AV.nil))) (fun _ w hw => rg_Full c e r s (ls.getD i.toNat dL).name w (h.upd hw) hz (by omega))) ?_
    refine WQ.p O.neS ?_
    refine WQ.p O.pkB ?_
    refine WQ.nil ?_
    refine WL.nil (Q.tn ?_)
    refine CW.cond (vt rfl) (fun hc3 => ?_) (fun hc3 => ?_)
    · try simp only [sk] at hc3
      have htold : toldZ c now (ls.getD i.toNat dL) = true := by rw [toldZ]; simp_all
      have hlm : lzMay (ls.getD i.toNat dL) = true := by rw [toldZ, live] at htold; simp only [Bool.and_eq_true] at htold; exact htold.1.1.2.1.1
      have hl3 : (lentR c (ls.getD i.toNat dL)).length = 3 := rfl
      refine CW.region ?_
      refine W.p O.mv ?_
      refine W.p O.mv ?_
      refine W.callN (first := []) (cap := []) rfl (vt rfl) (AV.cons (vt rfl) (AV.cons (vt rfl) (AV.nil))) (fun w hu => zn_lent c e r s (ls.getD i.toNat dL) w (in_blk hu) (hqi.upd (L0 := []) hu) (h.upd hu) hz hlm (ht.upd hu)) ?_; rintro _ _ ⟨o9, c9, sp9, rfl, ok9, rfl⟩; have nk9 := ok9.nk
      refine W.ap rfl (vt rfl) (vt rfl) (by first | rfl | omega) (by first | rfl | omega) rfl (by first | assumption | exact OwnOk.nil | exact OwnOk.lit) (by first | omega | (simp; omega)) fun o2 c2 sp2 ok2 ne2 gt2 => ?_
      have nk2 := ok2.nk; have le2 := ok2.2.2.1; try simp only [List.length_append, List.length_cons, List.length_nil] at le2
      refine W.p O.as ?_
      refine WL.nil (Q.bn (Q.tn ?_))
      refine CW.region ?_
      first | refine W.p O.addN ?_ | refine W.p O.add ?_
      refine W.p O.mv ?_
      refine WL.nil (Q.tn ?_)
      refine nextA (_, out ++ lentR c (ls.getD i.toNat dL), _, _, _) ?_ ?_
      · try dsimp only
        refine ⟨by omega, by omega, by assumption, by rw [List.length_append]; omega, ?_⟩
        rw [take_at' dL h0 hc2, List.filter_append, List.flatMap_append, hout, List.filter_cons_of_pos htold]; simp
      · try dsimp only
        omega
    try simp only [sk] at hc3
    have htold : toldZ c now (ls.getD i.toNat dL) = false := by rw [toldZ]; simp_all; grind
    refine CW.skip (Q.bn (Q.tn ?_))
    refine CW.region ?_
    first | refine W.p O.addN ?_ | refine W.p O.add ?_
    refine W.p O.mv ?_
    refine WL.nil (Q.tn ?_)
    refine nextA (_, out, _, _, _) ?_ ?_
    · try dsimp only
      refine ⟨by omega, by omega, hok, by omega, ?_⟩
      rw [take_at' dL h0 hc2, List.filter_append, List.flatMap_append, hout, List.filter_cons_of_neg (by rw [htold]; decide)]; simp
    · try dsimp only
      omega
  try simp only [sk] at hc2
  refine CW.exit (Q.te (Q.te (Q.bx (Q.tn ?_))))
  refine CW.seq ?_
  refine CW.region ?_
  refine W.p O.mv ?_
  refine W.p O.as ?_
  refine W.p O.as ?_
  refine WL.nil (Q.tn ?_)
  refine CW.ret ?_
  refine ⟨_, rowL o 51 (flat encR out sp), (RVs.tmp rfl (RVs.tmp rfl RVs.nil)), (by repeat (first | exact List.Sublist.refl _ | exact hSub _ | exact List.sublist_append_left _ _ | exact List.nil_sublist _ | refine List.Sublist.append (List.Sublist.refl _) ?_ | apply List.Sublist.cons_cons | apply List.Sublist.cons | exact List.sublist_append_left _ _ | refine List.Sublist.trans ?_ (List.sublist_append_right _ _))), ?_⟩
  have hyes : zAsk c ls now n = true := by rw [zAsk]; simp_all
  rw [List.take_of_length_le (by omega)] at hout
  rw [ZRes, zRec, if_pos hyes, zRecs, ← hout]; exact ⟨o, ca, sp, rfl, hok, rfl⟩
set_option maxRecDepth 100000 in
theorem sl_EqRR (xs ys : List RR) (a b : Option Addr) (c c' : Nat) (w : World) (h : In w a (xs.flatMap encR)) (h' : In w b (ys.flatMap encR)) (hn : xs.length ≤ 1000000000) : Fn Tryd.prog 54 [.slice a xs.length c, .slice b ys.length c'] w [] fun v L' => v = .bool (decide (xs = ys)) ∧ L' = [] := by
  have row := Row.ofE h
  have row' := Row.ofE h'
  refine Fn.enter Tryd.func54 rfl rfl rfl rfl (Holds.nil w) ?_
  refine CW.seq ?_
  refine CW.region ?_
  refine W.p O.as ?_
  refine WL.nil (Q.tn ?_)
  refine CW.seq ?_
  refine CW.seq ?_
  refine CW.region ?_
  refine W.p O.mv ?_
  refine W.p O.lenL ?_
  refine W.p O.mv ?_
  refine W.p O.lenL ?_
  refine W.p O.neI ?_
  refine WL.nil (Q.tn ?_)
  refine CW.cond (vt rfl) (fun hc1 => ?_) (fun hc1 => ?_)
  · try simp only [sk] at hc1
    refine CW.seq ?_
    refine CW.region ?_
    refine W.p O.as ?_
    refine WL.nil (Q.tn ?_)
    refine CW.ret (Q.tr ?_)
    refine ⟨_, [], (RVs.tmp rfl RVs.nil), List.nil_sublist _, ?_⟩
    refine ⟨congrArg Value.bool ?_, rfl⟩
    rw [eq_comm, decide_eq_false_iff_not]; intro e; subst e; exact hc1 rfl
  try simp only [sk] at hc1
  refine CW.skip (Q.tn ?_)
  refine CW.seq ?_
  refine CW.seq ?_
  refine CW.region ?_
  refine W.p O.mv ?_
  refine W.p O.lenL ?_
  refine W.p O.mv ?_
  refine WL.nil (Q.tn ?_)
  refine CW.block ?_
  refine CW.loopA (X := Int) (fun i => [(0, true, .slice a xs.length c), (1, true, .slice b ys.length c'), (12, true, .int .i64 xs.length), (13, true, .int .i64 i)]) (fun i => []) (fun i => 0 ≤ i ∧ i ≤ xs.length ∧ xs.take i.toNat = ys.take i.toNat) (fun i => (xs.length - i).toNat) (0) ?_ ?_
  · exact ⟨by omega, by omega, rfl⟩
  rintro i hI
  try dsimp only at hI ⊢
  obtain ⟨h0, h1, hr⟩ := hI
  refine CW.seq ?_
  refine CW.region ?_
  refine W.p O.lss ?_
  refine WL.nil (Q.tn ?_)
  refine CW.seq ?_
  refine CW.cond (vt rfl) (fun hc2 => ?_) (fun hc2 => ?_)
  · try simp only [sk] at hc2
    refine CW.skip (Q.tn ?_)
    refine CW.seq ?_
    refine CW.block ?_
    refine CW.seq ?_
    refine CW.region ?_
    refine W.p O.mv ?_
    refine W.p O.as ?_
    refine WL.nil (Q.tn ?_)
    refine CW.seq ?_
    refine CW.draw 9 rfl (by kernel_rfl) ?_
    refine WQ.p O.mv ?_
    refine WQ.p O.mv ?_
    refine WQ.p O.ixA ?_
    refine WQ.p O.ldsE ?_
    refine WQ.p O.mv ?_
    refine WQ.p O.mv ?_
    refine WQ.p O.ixA ?_
    refine WQ.p O.ldsE ?_
    refine WQ.p O.neT ?_
    refine WQ.nil ?_
    refine WL.nil (Q.tn ?_)
    refine CW.cond (vt rfl) (fun hc3 => ?_) (fun hc3 => ?_)
    · try simp only [sk] at hc3
      refine CW.seq ?_
      refine CW.region ?_
      refine W.p O.as ?_
      refine WL.nil (Q.tn ?_)
      refine CW.ret (Q.br (Q.tr (Q.tr (Q.br (Q.tr ?_)))))
      refine ⟨_, [], (RVs.tmp rfl RVs.nil), List.nil_sublist _, ?_⟩
      refine ⟨congrArg Value.bool ?_, rfl⟩
      rw [eq_comm, decide_eq_false_iff_not]; intro e; subst e; simp at hc3
    try simp only [sk] at hc3
    refine CW.skip (Q.bn (Q.tn ?_))
    refine CW.region ?_
    first | refine W.p O.addN ?_ | refine W.p O.add ?_
    refine W.p O.mv ?_
    refine WL.nil (Q.tn ?_)
    refine nextA (_) ?_ ?_
    · try dsimp only
      refine ⟨by omega, by omega, ?_⟩
      rw [take_at' dR h0 (by omega), take_at' dR h0 (by omega), hr]; congr 2
      generalize xs.getD i.toNat dR = p at *; generalize ys.getD i.toNat dR = q at *; cases p; cases q; simp_all
    · try dsimp only
      omega
  try simp only [sk] at hc2
  refine CW.exit (Q.te (Q.te (Q.bx (Q.tn ?_))))
  refine CW.seq ?_
  refine CW.region ?_
  refine W.p O.as ?_
  refine WL.nil (Q.tn ?_)
  refine CW.ret ?_
  refine ⟨_, [], (RVs.tmp rfl RVs.nil), List.nil_sublist _, ?_⟩
  refine ⟨congrArg Value.bool ?_, rfl⟩
  have e1 : xs.take i.toNat = xs := List.take_of_length_le (by omega)
  have e2 : ys.take i.toNat = ys := List.take_of_length_le (by omega)
  rw [e1, e2] at hr; rw [hr]; simp
theorem zRec_len {c : Cf} {ls : List Lz} {now n : Int} (hz : CfSz c) (hl : LsSz ls) : (zRec c ls now n).1.length ≤ 8000000 := by
  unfold zRec
  split
  · have h1 := hz.hs; have h2 := hl.hl
    have h3 : ((ls.filter (toldZ c now)).flatMap (lentR c)).length = 3 * (ls.filter (toldZ c now)).length := by
      induction ls.filter (toldZ c now) with
      | nil => rfl
      | cons x r ih => rw [List.flatMap_cons, List.length_append, ih]; simp [lentR]; omega
    have h4 := List.length_filter_le (toldZ c now) ls
    have h5 : (zHead c n).length = 2 := rfl
    rw [zRecs, List.length_append, List.length_append]; omega
  · exact Nat.zero_le _
theorem zRec_0 {c : Cf} {ls : List Lz} {now n : Int} : (zRec c ls now n).2 = 0 ↔ zAsk c ls now n = true := by
  unfold zRec; split <;> simp_all
theorem zRec_1 {c : Cf} {ls : List Lz} {now n : Int} (h : zAsk c ls now n = true) : (zRec c ls now n).1 = zRecs c ls now n := by
  unfold zRec; rw [if_pos h]
set_option maxRecDepth 100000 in
theorem zn_Changed (c : Cf) (e r s : Sl2) (la lb : List Lz) (aa ab : Option Addr) (ca cb : Nat) (now thn : Int) (w : World) (h : CfIn w c e r s) (hz : CfSz c) (hla : In w aa (la.flatMap encL)) (hsa : LsSz la) (hlb : In w ab (lb.flatMap encL)) (hsb : LsSz lb) (ht : Tab10 w) : Fn Tryd.prog 16 [vCf c e r s, .slice aa la.length ca, .slice ab lb.length cb, .int .i64 now, .int .i64 thn] w [] fun v L' => v = .tuple #[.bool (zChg c la lb now thn).1, .int .i64 (zChg c la lb now thn).2] ∧ L' = [] := by
  have hr1 := zRec_len (now := now) (n := 0) hz hsa
  have hr2 := zRec_len (now := thn) (n := 0) hz hsb
  refine Fn.enter Tryd.func16 rfl rfl rfl rfl (Holds.nil w) ?_
  refine CW.seq ?_
  refine CW.region ?_
  refine W.bx rfl (vt rfl) rfl fun b1 => ?_
  refine W.p O.as ?_
  refine W.p O.as ?_
  refine WL.nil (Q.tn ?_)
  refine CW.seq ?_
  refine CW.region ?_
  refine W.p O.lds ?_
  refine W.p O.mv ?_
  refine W.p O.mv ?_
  refine W.callN (first := []) (cap := []) rfl (vt rfl) (AV.cons (vt rfl) (AV.cons (vt rfl) (AV.cons (vt rfl) (AV.cons (vt rfl) (AV.nil))))) (fun w hu => zn_Records c e r s la aa ca now 0 w (h.upd hu) hz (hla.upd (L0 := []) hu) hsa (by decide) (ht.upd hu)) ?_; rintro _ _ ⟨o11, c11, p11, rfl, ok11, rfl⟩; have nk11 := ok11.nk (α := RR) (xs := (zRec c la now 0).1)
  refine W.p O.mv ?_
  first | refine W.p O.extL ?_ | refine W.p O.ext ?_
  first | refine W.p O.extL ?_ | refine W.p O.ext ?_
  refine W.p O.as ?_
  refine W.p O.as ?_
  refine WL.nil (Q.tn ?_)
  refine CW.seq ?_
  refine CW.region ?_
  refine W.p O.lds ?_
  refine W.p O.mv ?_
  refine W.p O.mv ?_
  refine W.callN (first := []) (cap := []) rfl (vt rfl) (AV.cons (vt rfl) (AV.cons (vt rfl) (AV.cons (vt rfl) (AV.cons (vt rfl) (AV.nil))))) (fun w hu => zn_Records c e r s lb ab cb thn 0 w (h.upd hu) hz (hlb.upd (L0 := []) hu) hsb (by decide) (ht.upd hu)) ?_; rintro _ _ ⟨o12, c12, p12, rfl, ok12, rfl⟩; have nk12 := ok12.nk (α := RR) (xs := (zRec c lb thn 0).1)
  refine W.p O.mv ?_
  first | refine W.p O.extL ?_ | refine W.p O.ext ?_
  first | refine W.p O.extL ?_ | refine W.p O.ext ?_
  refine W.p O.as ?_
  refine W.p O.as ?_
  refine WL.nil (Q.tn ?_)
  refine CW.seq ?_
  refine CW.seq ?_
  refine CW.region ?_
  refine W.p O.mv ?_
  refine W.p O.neI ?_
  refine W.p O.mv ?_
  refine W.p O.mv ?_
  refine W.p O.neI ?_
  refine W.p O.pkB ?_
  refine WL.nil (Q.tn ?_)
  refine CW.cond (vt rfl) (fun hc1 => ?_) (fun hc1 => ?_)
  · try simp only [sk] at hc1
    refine CW.seq ?_
    refine CW.region ?_
    refine W.p O.as ?_
    refine W.p O.as ?_
    refine WL.nil (Q.tn ?_)
    refine CW.ret (Q.tr ?_)
    refine ⟨_, [], (RVs.tmp rfl (RVs.tmp rfl RVs.nil)), List.nil_sublist _, ?_⟩
    have hno : zChg c la lb now thn = (false, 2000) := by rw [zChg, if_neg]; rintro ⟨a1, a2⟩; rw [← zRec_0] at a1 a2; rcases hc1 with hq | hq; (exact hq a1); (exact hq a2)
    rw [hno]; exact ⟨rfl, rfl⟩
  try simp only [sk] at hc1
  refine CW.skip (Q.tn ?_)
  refine CW.seq ?_
  refine CW.region ?_
  refine W.p O.mv ?_
  refine W.p O.mv ?_
  refine W.q (O.call ⟨rfl, rfl⟩ (AV.cons (vt rfl) (AV.cons (vt rfl) (AV.nil))) (fun _ w hw => sl_EqRR (zRec c la now 0).1 (zRec c lb thn 0).1 _ _ _ _ w (RowL.h (enc := encR) (xs := (zRec c la now 0).1) (a := oa o11) _ hw) (RowL.h (enc := encR) (xs := (zRec c lb thn 0).1) (a := oa o12) _ hw) (by omega))) ?_
  refine W.p O.nt ?_
  refine W.p O.as ?_
  refine W.p O.as ?_
  refine WL.nil (Q.tn ?_)
  refine CW.ret ?_
  refine ⟨_, [], (RVs.tmp rfl (RVs.tmp rfl RVs.nil)), List.nil_sublist _, ?_⟩
  have y1 := zRec_0.1 hc1.1
  have y2 := zRec_0.1 hc1.2
  rw [zRec_1 y1, zRec_1 y2, zChg, if_pos ⟨y1, y2⟩]; exact ⟨rfl, rfl⟩
end Go.Proofs.YtagiajnpnjakhaaDoor
