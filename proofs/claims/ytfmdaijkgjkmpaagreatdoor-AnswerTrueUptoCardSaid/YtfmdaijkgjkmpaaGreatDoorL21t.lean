/- The statement AnswerTrue: its walk. Condition: what comes in is not longer than a million; the library's table of powers of ten is as its text lays it. -/
import Derived.Test.YtfmdaijkgjkmpaaGreatDoorL21
set_option linter.unusedVariables false
set_option linter.unusedSimpArgs false
namespace Go.Proofs.YtfmdaijkgjkmpaaGreatDoor
open Go Go.RowKit
theorem true_got {c : Cf} {ls : List Lz} {now : Int} {nm : List UInt8} {k : Int} (h : (zRec c ls now 1).2 = 0) (hm : dnMay (askD 9 nm (k % 65536) false 0) = true) :
  ∃ m, (ansP c ls now 1 (dWrite (askD 9 nm (k % 65536) false 0))).2 = (true, 0) ∧ dnGet (ansP c ls now 1 (dWrite (askD 9 nm (k % 65536) false 0))).1 = (m, 0) ∧ (ansP c ls now 1 (dWrite (askD 9 nm (k % 65536) false 0))).1.length ≤ 1200 ∧ m.id = 9 ∧ m.resp = true ∧ ((m.trunc = false ∧ m.code = (look (zRec c ls now 1).1 ⟨nm, (k % 65536)⟩ c.zone).1 ∧ m.an = (look (zRec c ls now 1).1 ⟨nm, (k % 65536)⟩ c.zone).2.1 ∧ m.se = (look (zRec c ls now 1).1 ⟨nm, (k % 65536)⟩ c.zone).2.2) ∨ (m.trunc = true ∧ m.an = [])) := by
 have hq := zRec_0.1 h
 obtain ⟨m, e1, e2, e3, e4⟩ := ask_got (c := c) (ls := ls) (now := now) (n := 1) hq hm
 refine ⟨m, e1, e2, e3, ?_⟩
 rw [zRec_1 hq]
 rw [reply_ask] at e4
 rcases e4 with rfl | rfl
 ·exact ⟨rfl, rfl, .inl ⟨rfl, rfl, rfl, rfl⟩⟩
 ·exact ⟨rfl, rfl, .inr ⟨rfl, rfl⟩⟩
theorem eqRR (a b : RR) : (decide (a.name = b.name) && (decide (a.type = b.type) && (decide (a.ttl = b.ttl) && (decide (a.addr = b.addr) && (decide (a.target = b.target) && (decide (a.text = b.text) && (decide (a.serial = b.serial) && true))))))) = decide (a = b) := by
 cases a; cases b
 rw [Bool.eq_iff_iff]
 simp
theorem t_dead {rs an : List RR} {nm z : List UInt8} {kk j : Int} {fd : Bool} (y : an = (look rs ⟨nm, kk⟩ z).2.1) (hn0 : ¬(an.length : Int) = 0) (g0 : 0 ≤ j) (g1 : j < an.length) (ir : fd = rs.any (fun x => decide (x = an.getD j.toNat dR)))
  (h : fd = false ∨ ((¬(an.getD (Int.toNat 0) dR).type = 5 ∨ kk = 5) ∨ kk = 255) ∧ (¬(an.getD j.toNat dR).name = nm ∨ ¬kk = 255 ∧ ¬(an.getD j.toNat dR).type = kk)) : False := by
 obtain ⟨a, b, cc⟩ := look_some (rs := rs) (q := ⟨nm, kk⟩) (z := z) (by rw [← y]; intro hh; rw [hh] at hn0; exact hn0 rfl)
 have hj := mem_at dR g0 g1
 rw [← y] at b cc
 have hfd : fd = true := by rw [ir, List.any_eq_true]; exact ⟨_, b _ hj, by simp⟩
 rcases h with hq | ⟨h1, h2⟩
 ·rw [hfd] at hq; cases hq
 ·rcases cc with ⟨d1, d2, d3⟩ | d
  ·rcases h1 with (hh | hh) | hh
   ·exact hh d1
   ·exact d2 hh
   ·exact d3 hh
  ·obtain ⟨d1, d2⟩ := d _ hj
   rcases h2 with hh | ⟨hh, hh2⟩
   ·exact hh d1
   ·exact d2.elim hh hh2
theorem asked9 (nm : List UInt8) (k : Int) (w : World) (hn : nm.length ≤ 1048576) (hm : dnMay (askD 9 nm k false 0) = true) : Fn Tryz.prog 25 [.int .i64 9, .string (S nm), .int .i64 k] w [] fun v L' => v = .string (S (dWrite (askD 9 nm k false 0))) ∧ L' = [] := by
 have h := law21_asked 9 nm k w hn
 rw [show (9 : Int) % 65536 = 9 by decide, ask_put hm] at h
 exact h
theorem ans9 (c : Cf) (e r s : Sl2) (ls : List Lz) (al : Option Addr) (cl : Nat) (now : Int) (t : List UInt8) (w : World) (h : CfIn w c e r s) (hz : CfSz c) (hl : In w al (ls.flatMap encL)) (hls : LsSz ls) (htl : t.length ≤ 1048576) (ht : Tab10 w) (y : (ansP c ls now 1 t).2 = (true, 0)) :
  Fn Tryz.prog 12 [vCf c e r s, .slice al ls.length cl, .int .i64 now, .int .i64 1, .string (S t)] w [] fun v L' => v = .tuple #[.string (S (ansP c ls now 1 t).1), .bool true, .int .i64 0] ∧ L' = [] := by
 have h := an_Answer c e r s ls al cl now 1 t w h hz hl hls ⟨by decide, by decide⟩ htl ht
 rw [y] at h
 exact h
theorem get9 (s : List UInt8) (m : Dn) (w : World) (hs : s.length ≤ 1200) (e : dnGet s = (m, 0)) : Fn Tryz.prog 26 [.string (S s)] w [] fun v L' => ∃ o1 c1 p1 o2 c2 p2 o3 c3 p3 o4 c4 p4, v = .tuple #[vDn m (oa o1, c1) (oa o2, c2) (oa o3, c3) (oa o4, c4), .int .i64 0] ∧ OwnOk o1 c1 2 m.qs.length (List.length p1) ∧ OwnOk o2 c2 7 m.an.length (List.length p2) ∧ OwnOk o3 c3 7 m.se.length (List.length p3) ∧ OwnOk o4 c4 7 m.ad.length (List.length p4) ∧ L' = rowL o4 58 (flat encR m.ad p4) ++ (rowL o3 58 (flat encR m.se p3) ++ (rowL o2 58 (flat encR m.an p2) ++ rowL o1 29 (flat encQ m.qs p1))) := by
 have h := ref_GetDns s w (by omega)
 rw [e] at h
 exact h
set_option maxHeartbeats 2000000 in
set_option maxRecDepth 100000 in
theorem law21_AnswerTrue (c : Cf) (e r s : Sl2) (ls : List Lz) (al : Option Addr) (cl : Nat) (now : Int) (nm : List UInt8) (k : Int) (w : World) (h : CfIn w c e r s) (hl : In w al (ls.flatMap encL)) (hz : CfSz c) (hls : LsSz ls) (hn : nm.length ≤ 1048576) (ht : Tab10 w) :
  Fn Tryz.prog 4 [vCf c e r s, .slice al ls.length cl, .int .i64 now, .string (S nm), .int .i64 k] w [] fun v L' => v = .bool true ∧ L' = [] := by
 have hzl := hz.hz
 have hr34 := zRec_34 (c := c) (ls := ls) (now := now) (n := 1)
 refine Fn.enter Tryz.func4 rfl rfl rfl rfl (Holds.nil w) ?_
 refine W.go ?_
 refine W.bx rfl (vt rfl) rfl fun b1 => ?_
 refine W.go ?_
 refine W.q (O.call ⟨rfl, rfl⟩ (AV.nil) (fun _ w hw => law21_awake w (ht.upd hw))) ?_
 refine W.go ?_
 refine CW.cond (vt rfl) (fun hc1 => ?_) (fun hc1 => ?_)
 ·exfalso; simp at hc1
 try simp only [sk] at hc1
 refine W.go ?_
 refine W.callN (first := []) (cap := []) rfl (vt rfl) (AV.cons (vt rfl) (AV.cons (vt rfl) (AV.cons (vt rfl) (AV.cons (vt rfl) (AV.nil))))) (fun w hu => ref_Records c e r s ls al cl now 1 w (h.upd hu) hz (hl.upd (L0 := []) hu) hls) ?_; rintro _ _ ⟨o31, c31, p31, rfl, ok31, rfl⟩; have nk31 := ok31.nk (α := RR) (xs := (zRec c ls now 1).1)
 refine W.go ?_
 refine W.q (O.call ⟨rfl, rfl⟩ (AV.cons (vs rfl) (AV.nil)) (fun _ w hw => ref_NameMay _ w (by omega))) ?_
 refine W.go ?_
 refine CW.cond (vt rfl) (fun hc2 => ?_) (fun hc2 => ?_)
 ·try simp only [sk] at hc2
  refine W.go ?_
  refine ⟨_, [], (RVs.tmp rfl RVs.nil), List.nil_sublist _, ?_⟩
  refine ⟨congrArg Value.bool ?_, rfl⟩
  rfl
 try simp only [sk] at hc2
 have hm : dnMay (askD 9 nm (k % 65536) false 0) = true := ask_may ⟨by decide, by decide⟩ hc2.2 ⟨by omega, by omega⟩ (.inl rfl)
 have hql := short_len hm rfl
 obtain ⟨m, y1, y2, y3, y4, y5, y6⟩ := true_got hc2.1 hm
 refine W.go ?_
 refine W.p (O.andM 16 65536 (h := by decide) (hq := by decide) (hM := by decide)) ?_
 refine W.go ?_
 refine CW.draw 14 rfl (by kernel_rfl) ?_
 refine WQ.p O.lds ?_
 refine WQ.p O.mv ?_
 refine WQ.p O.mv ?_
 refine WQ.p O.mv ?_
 refine WQ.p O.mv ?_
 refine WQ.q (O.call ⟨rfl, rfl⟩ (AV.cons (vt rfl) (AV.cons (vt rfl) (AV.cons (vt rfl) (AV.nil)))) (fun _ w hw => asked9 nm (k % 65536) w hn hm)) ?_
 refine WQ.q (O.call ⟨rfl, rfl⟩ (AV.cons (vt rfl) (AV.cons (vt rfl) (AV.cons (vt rfl) (AV.cons (vt rfl) (AV.cons (vt rfl) (AV.nil)))))) (fun _ w hw => ans9 c e r s ls al cl now (dWrite (askD 9 nm (k % 65536) false 0)) w (h.upd hw) hz (hl.upd (L0 := []) hw) hls (by omega) (ht.upd hw) y1)) ?_
 refine WQ.p O.mv ?_
 first | refine WQ.p O.extL ?_ | refine WQ.p O.ext ?_
 first | refine WQ.p O.extL ?_ | refine WQ.p O.ext ?_
 first | refine WQ.p O.extL ?_ | refine WQ.p O.ext ?_
 refine WQ.p O.as ?_
 refine WQ.p O.as ?_
 refine WQ.p O.as ?_
 refine WQ.nil ?_
 refine WL.nil (Q.tn ?_)
 refine W.go ?_
 refine W.callN (first := []) (cap := []) rfl (vt rfl) (AV.cons (vt rfl) (AV.nil)) (fun w hu => get9 (ansP c ls now 1 (dWrite (askD 9 nm (k % 65536) false 0))).1 m w y3 y2) ?_; rintro _ _ ⟨o41, c41, p41, o42, c42, p42, o43, c43, p43, o44, c44, p44, rfl, ok41, ok42, ok43, ok44, rfl⟩; have nk42 := ok42.nk (α := RR) (xs := m.an); have nk43 := ok43.nk (α := RR) (xs := m.se)
 refine W.go ?_
 refine W.al rfl rfl fun b2 => ?_
 refine W.st (vt rfl) (vt rfl) rfl ?_
 refine W.go ?_
 refine W.q (O.call ⟨rfl, rfl⟩ (AV.cons (vs rfl) (AV.nil)) (fun _ w hw => law0_Num _ w)) ?_
 refine W.go ?_
 refine CW.cond (vt rfl) (fun hc3 => ?_) (fun hc3 => ?_)
 ·try simp only [sk] at hc3
  refine W.go ?_
  refine ⟨_, [], (RVs.tmp rfl RVs.nil), List.nil_sublist _, ?_⟩
  refine ⟨congrArg Value.bool ?_, rfl⟩
  rcases y6 with ⟨a, _⟩ | ⟨a, b⟩
  ·exfalso; rw [y4, y5, a] at hc3; simp at hc3
  ·rw [a, b]; rfl
 try simp only [sk] at hc3
 have y7 : m.code = (look (zRec c ls now 1).1 ⟨nm, (k % 65536)⟩ c.zone).1 ∧ m.an = (look (zRec c ls now 1).1 ⟨nm, (k % 65536)⟩ c.zone).2.1 ∧ m.se = (look (zRec c ls now 1).1 ⟨nm, (k % 65536)⟩ c.zone).2.2 := by
  rcases y6 with ⟨_, q⟩ | ⟨q, _⟩
  ·exact q
  ·have := hc3.2; rw [q] at this; cases this
 have hal : m.an.length ≤ 35 := by rw [y7.2.1]; have := (look_nm (q := ⟨nm, (k % 65536)⟩) (z := c.zone) (zRec_nm (c := c) (ls := ls) (now := now) (n := 1))).2.2.1; omega
 refine W.go ?_
 refine CW.cond (vt rfl) (fun hc4 => ?_) (fun hc4 => ?_)
 ·try simp only [sk] at hc4
  refine W.go ?_
  refine W.q (O.call ⟨rfl, rfl⟩ (AV.cons (vt rfl) (AV.cons (vt rfl) (AV.nil))) (fun _ w hw => ref_Under _ _ w (by omega) (by first | omega | decide))) ?_
  refine W.go ?_
  refine W.q (O.call ⟨rfl, rfl⟩ (AV.cons (vs rfl) (AV.cons (vt rfl) (AV.nil))) (fun _ w hw => ref_Under _ _ w (by omega) (by first | omega | decide))) ?_
  refine W.go ?_
  refine ⟨_, [], (RVs.tmp rfl RVs.nil), List.nil_sublist _, ?_⟩
  refine ⟨congrArg Value.bool ?_, rfl⟩
  obtain ⟨a, b, cc⟩ := look_five (y7.1.symm.trans hc4)
  rw [y7.2.1, cc, show under nm c.zone = false from a, show under nm [97, 114, 112, 97] = false from b]; rfl
 try simp only [sk] at hc4
 refine W.go ?_
 refine CW.loopA (X := Int × Bool) (fun ⟨i, ex⟩ => [(3, true, .string (S nm)), (11, true, .slice (oa o31) (zRec c ls now 1).1.length c31), (13, true, .int .i64 (k % 65536)), (17, true, .pointer (some ⟨b2, 0, none⟩)), (19, true, .bool ex), (20, true, .int .i64 i)]) (fun ⟨i, ex⟩ => ((b2, .cells (encDn m (oa o41, c41) (oa o42, c42) (oa o43, c43) (oa o44, c44)).toArray 53 (0, 0)) :: ((rowL o44 58 (flat encR m.ad p44) ++ (rowL o43 58 (flat encR m.se p43) ++ (rowL o42 58 (flat encR m.an p42) ++ rowL o41 29 (flat encQ m.qs p41)))) ++ (rowL o31 58 (flat encR (zRec c ls now 1).1 p31) ++ [(b1, .cells (encCf c e r s).toArray 26 (0, 0))])))) (fun ⟨i, ex⟩ => 0 ≤ i ∧ i ≤ (zRec c ls now 1).1.length ∧ ex = ((zRec c ls now 1).1.take i.toNat).any (fun x => under x.name nm)) (fun ⟨i, ex⟩ => ((zRec c ls now 1).1.length - i).toNat) (0, false) ?_ ?_
 ·exact ⟨by omega, by omega, rfl⟩
 rintro ⟨i, ex⟩ hI
 try dsimp only at hI ⊢
 obtain ⟨h0, h1, hr⟩ := hI
 refine W.go ?_
 refine CW.cond (vt rfl) (fun hc5 => ?_) (fun hc5 => ?_)
 ·try simp only [sk] at hc5
  have hnm := zRec_nm (c := c) (ls := ls) (now := now) (n := 1) _ (mem_at dR h0 hc5)
  refine CW.skip (Q.tn ?_)
  refine CW.seq ?_
  refine CW.block ?_
  refine CW.region ?_
  refine W.p O.mv ?_
  refine W.p O.mv ?_
  refine W.p O.mv ?_
  refine W.p O.mv ?_
  refine W.p O.ixA ?_
  first | refine W.p O.fe ?_ | refine W.p O.feR ?_
  refine W.go ?_
  refine W.q (O.call ⟨rfl, rfl⟩ (AV.cons (vs rfl) (AV.cons (vs rfl) (AV.nil))) (fun _ w hw => ref_Under _ _ w (by omega) (by first | omega | decide))) ?_
  refine W.go ?_
  refine nextA (_, _) ?_ ?_
  ·try dsimp only
   exact ⟨by omega, by omega, by rw [any_upN (d := dR) h0 hc5, ← hr]; cases ex <;> rfl⟩
  ·try dsimp only
   omega
 try simp only [sk] at hc5
 refine W.go ?_
 refine CW.cond (vt rfl) (fun hc6 => ?_) (fun hc6 => ?_)
 ·try simp only [sk] at hc6
  refine W.go ?_
  refine W.p O.eqB ?_
  refine W.p O.mv ?_
  first | refine W.p O.fb ?_ | refine W.p O.fa ?_
  refine W.p O.ld ?_
  refine W.p O.lenL ?_
  refine W.p O.eqI ?_
  refine W.p O.pkB ?_
  refine W.p O.mv ?_
  first | refine W.p O.fb ?_ | refine W.p O.fa ?_
  refine W.p O.ld ?_
  refine W.p O.ixA ?_
  first | refine W.p O.fe ?_ | refine W.p O.feR ?_
  refine W.go ?_
  refine ⟨_, [], (RVs.tmp rfl RVs.nil), List.nil_sublist _, ?_⟩
  refine ⟨congrArg Value.bool ?_, rfl⟩
  have hq := zRec_0.1 hc2.1
  have e := zRec_1 hq
  have hex : ex = (zRec c ls now 1).1.any (fun r => under r.name nm) := by have ei : (zRec c ls now 1).1.take i.toNat = (zRec c ls now 1).1 := List.take_of_length_le (by omega); rw [ei] at hr; exact hr
  obtain ⟨a, b, cc⟩ := look_none (c := c) (ls := ls) (now := now) (n := 1) (q := ⟨nm, (k % 65536)⟩) (z := c.zone) (by rw [← e, ← y7.1]; exact hc4) (by rw [← e, ← y7.2.1]; exact List.eq_nil_of_length_eq_zero (by omega))
  rw [← e] at a b cc
  rw [y7.1, y7.2.2, a, b, hex, show Int.toNat 0 = 0 from rfl, cc]; dsimp only
  generalize (zRec c ls now 1).1.any _ = B
  cases B <;> rfl
 try simp only [sk] at hc6
 refine W.go ?_
 refine CW.loopA (X := Int) (fun j => [(3, true, .string (S nm)), (11, true, .slice (oa o31) (zRec c ls now 1).1.length c31), (13, true, .int .i64 (k % 65536)), (17, true, .pointer (some ⟨b2, 0, none⟩)), (21, true, .int .i64 j)]) (fun j => ((b2, .cells (encDn m (oa o41, c41) (oa o42, c42) (oa o43, c43) (oa o44, c44)).toArray 53 (0, 0)) :: ((rowL o44 58 (flat encR m.ad p44) ++ (rowL o43 58 (flat encR m.se p43) ++ (rowL o42 58 (flat encR m.an p42) ++ rowL o41 29 (flat encQ m.qs p41)))) ++ (rowL o31 58 (flat encR (zRec c ls now 1).1 p31) ++ [(b1, .cells (encCf c e r s).toArray 26 (0, 0))])))) (fun j => 0 ≤ j ∧ j ≤ m.an.length) (fun j => (m.an.length - j).toNat) (0) ?_ ?_
 ·exact ⟨by omega, by omega⟩
 rintro j hI
 try dsimp only at hI ⊢
 obtain ⟨g0, g1⟩ := hI
 refine W.go ?_
 refine CW.cond (vt rfl) (fun hc7 => ?_) (fun hc7 => ?_)
 ·try simp only [sk] at hc7
  refine W.go ?_
  refine CW.loopA (X := Int × Bool) (fun ⟨i, fd⟩ => [(3, true, .string (S nm)), (11, true, .slice (oa o31) (zRec c ls now 1).1.length c31), (13, true, .int .i64 (k % 65536)), (17, true, .pointer (some ⟨b2, 0, none⟩)), (21, true, .int .i64 j), (22, true, .bool fd), (23, true, .int .i64 i)]) (fun ⟨i, fd⟩ => ((b2, .cells (encDn m (oa o41, c41) (oa o42, c42) (oa o43, c43) (oa o44, c44)).toArray 53 (0, 0)) :: ((rowL o44 58 (flat encR m.ad p44) ++ (rowL o43 58 (flat encR m.se p43) ++ (rowL o42 58 (flat encR m.an p42) ++ rowL o41 29 (flat encQ m.qs p41)))) ++ (rowL o31 58 (flat encR (zRec c ls now 1).1 p31) ++ [(b1, .cells (encCf c e r s).toArray 26 (0, 0))])))) (fun ⟨i, fd⟩ => 0 ≤ i ∧ i ≤ (zRec c ls now 1).1.length ∧ fd = ((zRec c ls now 1).1.take i.toNat).any (fun x => decide (x = m.an.getD j.toNat dR))) (fun ⟨i, fd⟩ => ((zRec c ls now 1).1.length - i).toNat) (0, false) ?_ ?_
  ·exact ⟨by omega, by omega, rfl⟩
  rintro ⟨i, fd⟩ hI
  try dsimp only at hI ⊢
  obtain ⟨i0, i1, ir⟩ := hI
  refine W.go ?_
  refine CW.cond (vt rfl) (fun hc8 => ?_) (fun hc8 => ?_)
  ·try simp only [sk] at hc8
   refine W.go ?_
   refine CW.draw 13 rfl (by kernel_rfl) ?_
   refine WQ.p O.mv ?_
   refine WQ.p O.mv ?_
   refine WQ.p O.mv ?_
   refine WQ.p O.mv ?_
   refine WQ.p O.ixA ?_
   refine WQ.p O.ldsE ?_
   first | refine WQ.p O.fb ?_ | refine WQ.p O.fa ?_
   refine WQ.p O.ld ?_
   refine WQ.p O.mv ?_
   refine WQ.p O.ixA ?_
   refine WQ.p O.ldsE ?_
   refine WQ.p O.eqT ?_
   refine WQ.p O.pkB ?_
   refine WQ.nil ?_
   refine W.p O.as ?_
   refine W.go ?_
   refine nextA (_, _) ?_ ?_
   ·try dsimp only
    exact ⟨by omega, by omega, by rw [any_upN (d := dR) i0 hc8, ← ir]; cases fd; exact eqRR _ _; rfl⟩
   ·try dsimp only
    omega
  try simp only [sk] at hc8
  refine CW.exit (Q.te (Q.te (Q.bx (Q.tn ?_))))
  refine CW.seq ?_
  refine CW.region ?_
  first | refine W.p O.fb ?_ | refine W.p O.fa ?_
  refine W.p O.ld ?_
  refine W.p O.ixA ?_
  first | refine W.p O.fe ?_ | refine W.p O.feR ?_
  refine W.p O.ldE ?_
  refine W.p O.eqI ?_
  refine W.p O.mv ?_
  refine W.p O.mv ?_
  refine W.p O.neI ?_
  refine W.p O.pkB ?_
  refine W.p O.mv ?_
  refine W.p O.mv ?_
  refine W.p O.neI ?_
  refine W.p O.pkB ?_
  refine W.p O.as ?_
  refine WL.nil (Q.tn ?_)
  refine CW.seq ?_
  refine CW.region ?_
  refine W.p O.mv ?_
  refine W.p O.nt ?_
  refine W.p O.mv ?_
  refine W.p O.mv ?_
  refine W.p O.nt ?_
  refine W.p O.mv ?_
  first | refine W.p O.fb ?_ | refine W.p O.fa ?_
  refine W.p O.ld ?_
  refine W.p O.mv ?_
  refine W.p O.ixA ?_
  first | refine W.p O.fe ?_ | refine W.p O.feR ?_
  refine W.p O.ldE ?_
  refine W.p O.mv ?_
  refine W.p O.neS ?_
  refine W.p O.mv ?_
  refine W.p O.mv ?_
  refine W.p O.neI ?_
  refine W.p O.mv ?_
  first | refine W.p O.fb ?_ | refine W.p O.fa ?_
  refine W.p O.ld ?_
  refine W.p O.mv ?_
  refine W.p O.ixA ?_
  first | refine W.p O.fe ?_ | refine W.p O.feR ?_
  refine W.go ?_
  refine CW.cond (vt rfl) (fun hc9 => ?_) (fun hc9 => ?_)
  ·exfalso; (try simp only [sk] at hc9); exact t_dead y7.2.1 hc6 g0 hc7 (by have ei : (zRec c ls now 1).1.take i.toNat = (zRec c ls now 1).1 := List.take_of_length_le (by omega); rw [ei] at ir; exact ir) hc9
  try simp only [sk] at hc9
  refine W.go ?_
  refine nextA (_) ?_ ?_
  ·try dsimp only
   exact ⟨by omega, by omega⟩
  ·try dsimp only
   omega
 try simp only [sk] at hc7
 refine W.go ?_
 refine ⟨_, [], (RVs.tmp rfl RVs.nil), List.nil_sublist _, ?_⟩
 refine ⟨congrArg Value.bool ?_, rfl⟩
 obtain ⟨a, _⟩ := look_some (rs := (zRec c ls now 1).1) (q := ⟨nm, (k % 65536)⟩) (z := c.zone) (by rw [← y7.2.1]; intro hh; rw [hh] at hc6; exact hc6 rfl)
 rw [y7.1, a]; rfl
end Go.Proofs.YtfmdaijkgjkmpaaGreatDoor
