/- What packages conf and table come to. Condition: the configuration's and the leases' rows and texts are not longer than a million. -/
import Derived.Test.YtfmdaijkgjkmpaaGreatDoorZnA
import Derived.Test.YtfmdaijkgjkmpaaGreatDoorRr
set_option linter.unusedVariables false
set_option linter.unusedSimpArgs false
namespace Go.Proofs.YtfmdaijkgjkmpaaGreatDoor
open Go Go.RowKit
theorem seen_put {κ : Type} [DecidableEq κ] {m : List (κ × Bool)} {l : List κ} {x : κ} (h : ∀ y, (mget m y).getD false = true ↔ y ∈ l) : ∀ y, (mget (mput m x true) y).getD false = true ↔ y ∈ l ++ [x] := fun y => by
 rw [mget_mput, List.mem_append, List.mem_singleton]
 by_cases e : y = x
 ·simp [e]
 ·rw [if_neg e, h y]; simp [e]
theorem seen_nil {κ : Type} [DecidableEq κ] : ∀ y : κ, (mget ([] : List (κ × Bool)) y).getD false = true ↔ y ∈ ([] : List κ) := fun y => ⟨fun h => (by cases h), fun h => (by cases h)⟩
theorem hosts_bad {f t : Int} {all : List Int} {k : Nat} {i : Int} {m : List (Int × Bool)} (h0 : 0 ≤ i) (h1 : i < all.length) (hm : ∀ y, (mget m y).getD false = true ↔ y ∈ all.take i.toNat) (hb : (all.getD i.toNat 0 < f ∨ t < all.getD i.toNat 0) ∨ (mget m (all.getD i.toNat 0)).getD false = true) : hostsOk f t all k = false := by
 have hmem := mem_at 0 h0 h1
 rcases hb with hb | hb
 ·have : all.all (fun h => inZ h f t) = false := List.all_eq_false.2 ⟨_, hmem, by simp only [inZ, Bool.and_eq_true, decide_eq_true_eq]; omega⟩
  rw [hostsOk, this]; rfl
 ·rw [hm] at hb
  rw [hostsOk, decide_eq_false (nodup_no h0 h1 hb)]; simp
set_option maxRecDepth 100000 in
theorem cf_hosts {q : Addr} (c : Cf) (e r s : Sl2) (all : List Int) (a : Option Addr) (cc : Nat) (k : Nat) (w : World) (hi : In w (some q) (encCf c e r s)) (h : In w a (all.flatMap encI)) (hn : all.length ≤ 1048576) : Fn Tryz.prog 95 [.pointer (some q), .slice a all.length cc, .int .i64 k] w [] fun v L' => v = .bool (hostsOk c.first c.last all k) ∧ L' = [] := by
 have c0 : ∀ {L : Heap}, Cell w [] L (q.add 0) (.int .i64 c.first) := fun {L} => cellQ hi rfl
 have c1 : ∀ {L : Heap}, Cell w [] L (q.add 1) (.int .i64 c.last) := fun {L} => cellQ hi rfl
 have row := Row.ofE (dv := (0 : Int)) h
 refine Fn.enter Tryz.func95 rfl rfl rfl rfl (Holds.nil w) ?_
 refine CW.seq ?_
 refine CW.region ?_
 refine W.p O.as ?_
 refine WL.nil (Q.tn ?_)
 refine CW.seq ?_
 refine CW.region ?_
 refine W.mm kI vB rfl fun b1 => ?_
 refine W.go ?_
 refine CW.loopA (X := Int × (List (Int × Bool))) (fun ⟨i, m⟩ => [(0, true, .pointer (some q)), (1, true, .slice a all.length cc), (2, true, .int .i64 k), (7, true, .map (some b1)), (11, true, .slice a all.length cc), (12, true, .int .i64 all.length), (13, true, .int .i64 i)]) (fun ⟨i, m⟩ => [(b1, mObj kI vB m)]) (fun ⟨i, m⟩ => 0 ≤ i ∧ i ≤ all.length ∧ (all.take i.toNat).all (fun h => inZ h c.first c.last) = true ∧ (all.take i.toNat).Nodup ∧ ∀ y, (mget m y).getD false = true ↔ y ∈ all.take i.toNat) (fun ⟨i, m⟩ => (all.length - i).toNat) (0, []) ?_ ?_
 ·exact ⟨by omega, by omega, rfl, List.nodup_nil, seen_nil⟩
 rintro ⟨i, m⟩ hI
 try dsimp only at hI ⊢
 obtain ⟨h0, h1, ha, hd, hm⟩ := hI
 refine W.go ?_
 refine CW.cond (vt rfl) (fun hc1 => ?_) (fun hc1 => ?_)
 ·try simp only [sk] at hc1
  refine W.go ?_
  refine W.p (O.lk (ek := kI) (ev := vB) false) ?_
  refine W.go ?_
  refine CW.cond (vt rfl) (fun hc2 => ?_) (fun hc2 => ?_)
  ·try simp only [sk] at hc2
   refine W.go ?_
   refine ⟨_, [], (RVs.tmp rfl RVs.nil), List.nil_sublist _, ?_⟩
   refine ⟨congrArg Value.bool ?_, rfl⟩
   exact (hosts_bad h0 hc1 hm hc2).symm
  try simp only [sk] at hc2
  refine CW.skip (Q.tn ?_)
  refine CW.region ?_
  refine W.p O.mv ?_
  refine W.p O.mv ?_
  refine W.mu (ek := kI) (ev := vB) (vt rfl) (vt rfl) (vt rfl) ?_
  refine W.go ?_
  refine nextA (_, mput m (all.getD i.toNat 0) true) ?_ ?_
  ·try dsimp only
   have hx : all.getD i.toNat 0 ∉ all.take i.toNat := fun hx => by have := (hm _).2 hx; rw [this] at hc2; exact absurd hc2.2 (by decide)
   refine ⟨by omega, by omega, ?_, ?_, ?_⟩
   ·rw [take_at' 0 h0 hc1, List.all_append, ha]; simp only [List.all_cons, List.all_nil, Bool.and_true, Bool.true_and, inZ, Bool.and_eq_true, decide_eq_true_eq]; omega
   ·rw [take_at' 0 h0 hc1, nodup_snoc]; exact ⟨hd, hx⟩
   ·rw [take_at' 0 h0 hc1]; exact seen_put hm
  ·try dsimp only
   omega
 try simp only [sk] at hc1
 refine W.go ?_
 refine ⟨_, [], (RVs.tmp rfl RVs.nil), List.nil_sublist _, ?_⟩
 refine ⟨congrArg Value.bool ?_, rfl⟩
 rw [List.take_of_length_le (by omega)] at ha hd
 rw [hostsOk, ha, decide_eq_true hd]; exact decide_eq_decide.2 (by omega)
theorem res_bad {c : Cf} {i : Int} {m : List (List UInt8 × Bool)} (h0 : 0 ≤ i) (h1 : i < c.resv.length) (hm : ∀ y, (mget m y).getD false = true ↔ y ∈ (c.resv.take i.toNat).map Rs.client) (hb : clMay (c.resv.getD i.toNat dRz).client = false ∨ (mget m (c.resv.getD i.toNat dRz).client).getD false = true) : resOk c = false := by
 have hmem := mem_at dRz h0 h1
 rcases hb with hb | hb
 ·have : c.resv.all (fun r => clMay r.client) = false := List.all_eq_false.2 ⟨_, hmem, by rw [hb]; decide⟩
  rw [resOk, this]; rfl
 ·rw [hm] at hb
  have hg : (c.resv.map Rs.client).getD i.toNat [] = (c.resv.getD i.toNat dRz).client := by
   rw [List.getD_eq_getElem?_getD, List.getD_eq_getElem?_getD, List.getElem?_map, List.getElem?_eq_getElem (by omega)]; rfl
  have := nodup_no (d := []) (l := c.resv.map Rs.client) h0 (by simpa using h1) (by rw [hg, ← List.map_take]; exact hb)
  rw [resOk, decide_eq_false this]; simp
set_option maxRecDepth 100000 in
theorem cf_reserved {q : Addr} (c : Cf) (e r s : Sl2) (w : World) (hi : In w (some q) (encCf c e r s)) (h : In w r.1 (c.resv.flatMap encRs)) (hn : c.resv.length ≤ 1048576) (hc : ∀ r ∈ c.resv, r.client.length ≤ 1048576) : Fn Tryz.prog 96 [.pointer (some q)] w [] fun v L' => v = .bool (resOk c) ∧ L' = [] := by
 have c3 : ∀ {L : Heap}, Cell w [] L (q.add 3) (.slice r.1 c.resv.length r.2) := fun {L} => cellQ hi rfl
 have row := Row.ofE (dv := dRz) h
 refine Fn.enter Tryz.func96 rfl rfl rfl rfl (Holds.nil w) ?_
 refine CW.seq ?_
 refine CW.region ?_
 refine W.p O.as ?_
 refine WL.nil (Q.tn ?_)
 refine CW.seq ?_
 refine CW.region ?_
 refine W.p O.as ?_
 refine WL.nil (Q.tn ?_)
 refine CW.seq ?_
 refine CW.region ?_
 refine W.mm kS vB rfl fun b1 => ?_
 refine W.go ?_
 refine CW.loopA (X := Int × (List (List UInt8 × Bool)) × (List Int) × (Option Nat) × Nat × (List Value)) (fun ⟨i, m, hs, o, cc, sp⟩ => [(0, true, .pointer (some q)), (3, true, .slice (oa o) hs.length cc), (4, true, .map (some b1)), (11, true, .slice r.1 c.resv.length r.2), (12, true, .int .i64 c.resv.length), (13, true, .int .i64 i)]) (fun ⟨i, m, hs, o, cc, sp⟩ => rowL o 3 (flat encI hs sp) ++ [(b1, mObj kS vB m)]) (fun ⟨i, m, hs, o, cc, sp⟩ => 0 ≤ i ∧ i ≤ c.resv.length ∧ OwnOk o cc 1 hs.length sp.length ∧ hs = (c.resv.take i.toNat).map Rs.host ∧ (c.resv.take i.toNat).all (fun r => clMay r.client) = true ∧ ((c.resv.take i.toNat).map Rs.client).Nodup ∧ ∀ y, (mget m y).getD false = true ↔ y ∈ (c.resv.take i.toNat).map Rs.client) (fun ⟨i, m, hs, o, cc, sp⟩ => (c.resv.length - i).toNat) (0, [], [], none, 0, []) ?_ ?_
 ·exact ⟨by omega, by omega, OwnOk.nil, rfl, rfl, List.nodup_nil, seen_nil⟩
 rintro ⟨i, m, hs, o, cc, sp⟩ hI
 try dsimp only at hI ⊢
 obtain ⟨h0, h1, hok, hhs, ha, hd, hm⟩ := hI
 have nk := hok.nk
 have hln : hs.length ≤ 1048576 := by rw [hhs]; simp; omega
 refine W.go ?_
 refine CW.cond (vt rfl) (fun hc1 => ?_) (fun hc1 => ?_)
 ·try simp only [sk] at hc1
  have hcl := hc _ (mem_at dRz h0 hc1)
  refine W.go ?_
  refine W.al rfl rfl fun b2 => ?_
  refine W.st (vt rfl) (vt rfl) rfl ?_
  refine W.go ?_
  refine W.q (O.call ⟨rfl, rfl⟩ (AV.cons (vt rfl) (AV.nil)) (fun _ w hw => id_May _ w (by omega))) ?_
  refine W.go ?_
  refine W.p (O.lk (ek := kS) (ev := vB) false) ?_
  refine W.go ?_
  refine CW.cond (vt rfl) (fun hc2 => ?_) (fun hc2 => ?_)
  ·try simp only [sk] at hc2
   refine W.go ?_
   refine ⟨_, [], (RVs.tmp rfl RVs.nil), List.nil_sublist _, ?_⟩
   refine ⟨congrArg Value.bool ?_, rfl⟩
   exact (res_bad h0 hc1 hm hc2).symm
  try simp only [sk] at hc2
  refine CW.skip (Q.tn ?_)
  refine CW.seq ?_
  refine CW.region ?_
  refine W.p O.mv ?_
  first | refine W.p O.fb ?_ | refine W.p O.fa ?_
  first | refine W.p O.ld ?_ | refine W.p O.ldC ?_
  refine W.mu (ek := kS) (ev := vB) (vt rfl) (vt rfl) (vt rfl) ?_
  refine WL.nil (Q.tn ?_)
  refine CW.region ?_
  refine W.p O.mv ?_
  first | refine W.p O.fb ?_ | refine W.p O.fa ?_
  first | refine W.p O.ld ?_ | refine W.p O.ldC ?_
  refine W.bs encI [_] rfl (PV.cons (vt rfl) (PV.nil)) rfl rfl rfl (by decide) rfl fun b3 => ?_
  refine W.ap rfl (vt rfl) (vt rfl) (by first | rfl | omega) (by first | rfl | omega) rfl (by first | assumption | exact OwnOk.nil | exact OwnOk.lit) (by first | omega | (simp; omega)) fun o1 c1 sp1 ok1 ne1 gt1 => ?_
  have nk1 := ok1.nk; have le1 := ok1.2.2.1; try simp only [List.length_append, List.length_cons, List.length_nil] at le1
  refine W.go ?_
  refine nextA (_, mput m (c.resv.getD i.toNat dRz).client true, hs ++ [(c.resv.getD i.toNat dRz).host], _, _, _) ?_ ?_
  ·try dsimp only
   have hx : (c.resv.getD i.toNat dRz).client ∉ (c.resv.take i.toNat).map Rs.client := fun hx => by have := (hm _).2 hx; rw [this] at hc2; exact absurd hc2.2 (by decide)
   refine ⟨by omega, by omega, by assumption, ?_, ?_, ?_, ?_⟩
   ·rw [hhs, take_at' dRz h0 hc1, List.map_append]; rfl
   ·rw [take_at' dRz h0 hc1, List.all_append, ha]; simp only [List.all_cons, List.all_nil, Bool.and_true, Bool.true_and]; simp_all
   ·rw [take_at' dRz h0 hc1, List.map_append]; exact nodup_snoc.2 ⟨hd, hx⟩
   ·rw [take_at' dRz h0 hc1, List.map_append]; exact seen_put hm
  ·try dsimp only
   omega
 try simp only [sk] at hc1
 refine W.go ?_
 refine W.q (O.call ⟨rfl, rfl⟩ (AV.cons (vt rfl) (AV.cons (vt rfl) (AV.cons (vt rfl) (AV.nil)))) (fun _ w hw => cf_hosts c e r s hs _ _ 4 w (hi.upd (L0 := []) hw) (RowL.h _ hw) (by omega))) ?_
 refine W.go ?_
 refine ⟨_, [], (RVs.tmp rfl RVs.nil), List.nil_sublist _, ?_⟩
 refine ⟨congrArg Value.bool ?_, rfl⟩
 rw [List.take_of_length_le (by omega)] at hhs ha hd
 rw [resOk, ha, decide_eq_true hd, ← hhs]; rfl
set_option maxRecDepth 100000 in
theorem cf_static {q : Addr} (c : Cf) (e r s : Sl2) (w : World) (hi : In w (some q) (encCf c e r s)) (h : In w s.1 (c.stat.flatMap encR)) (hn : c.stat.length ≤ 1048576) (hz : c.zone.length ≤ 1048576) (hnm : ∀ r ∈ c.stat, r.name.length ≤ 1048576 ∧ r.target.length ≤ 1048576) : Fn Tryz.prog 97 [.pointer (some q)] w [] fun v L' => v = .bool (stOk c) ∧ L' = [] := by
 have c5 : ∀ {L : Heap}, Cell w [] L (q.add 5) (.string (S c.zone)) := fun {L} => cellQ hi rfl
 have c6 : ∀ {L : Heap}, Cell w [] L (q.add 6) (.slice s.1 c.stat.length s.2) := fun {L} => cellQ hi rfl
 have row := Row.ofE (dv := dR) h
 refine Fn.enter Tryz.func97 rfl rfl rfl rfl (Holds.nil w) ?_
 refine W.go ?_
 refine CW.loopA (X := Int) (fun i => [(0, true, .pointer (some q)), (8, true, .slice s.1 c.stat.length s.2), (9, true, .int .i64 c.stat.length), (10, true, .int .i64 i)]) (fun i => []) (fun i => 0 ≤ i ∧ i ≤ c.stat.length ∧ (c.stat.take i.toNat).all (stMay c.zone) = true) (fun i => (c.stat.length - i).toNat) (0) ?_ ?_
 ·exact ⟨by omega, by omega, rfl⟩
 rintro i hI
 try dsimp only at hI ⊢
 obtain ⟨h0, h1, ha⟩ := hI
 refine W.go ?_
 refine CW.cond (vt rfl) (fun hc1 => ?_) (fun hc1 => ?_)
 ·try simp only [sk] at hc1
  have hnn := hnm _ (mem_at dR h0 hc1)
  refine W.go ?_
  refine W.al rfl rfl fun b1 => ?_
  refine W.st (vt rfl) (vt rfl) rfl ?_
  refine W.go ?_
  refine CW.draw 37 rfl (by kernel_rfl) ?_
  first | refine WQ.p O.fb ?_ | refine WQ.p O.fa ?_
  first | refine WQ.p O.ld ?_ | refine WQ.p O.ldC ?_
  refine WQ.p O.neI ?_
  refine WQ.p O.mv ?_
  first | refine WQ.p O.fb ?_ | refine WQ.p O.fa ?_
  first | refine WQ.p O.ld ?_ | refine WQ.p O.ldC ?_
  refine WQ.p O.neI ?_
  refine WQ.p O.pkB ?_
  refine WQ.p O.mv ?_
  first | refine WQ.p O.fb ?_ | refine WQ.p O.fa ?_
  first | refine WQ.p O.ld ?_ | refine WQ.p O.ldC ?_
  refine WQ.p O.neI ?_
  refine WQ.p O.pkB ?_
  refine WQ.p O.mv ?_
  first | refine WQ.p O.lds ?_ | refine WQ.p O.ldsC ?_
  refine WQ.q (O.call ⟨rfl, rfl⟩ (AV.cons (vs rfl) (AV.nil)) (fun _ w hw => rr_May _ w (by have := hnn.1; omega) (by have := hnn.2; omega))) ?_
  refine WQ.p O.nt ?_
  refine WQ.p O.pkB ?_
  refine WQ.p O.mv ?_
  first | refine WQ.p O.fb ?_ | refine WQ.p O.fa ?_
  first | refine WQ.p O.ld ?_ | refine WQ.p O.ldC ?_
  refine WQ.p O.mv ?_
  refine WQ.p O.nc ?_
  first | refine WQ.p O.fb ?_ | refine WQ.p O.fa ?_
  first | refine WQ.p O.ld ?_ | refine WQ.p O.ldC ?_
  refine WQ.q (O.call ⟨rfl, rfl⟩ (AV.cons (vs rfl) (AV.cons (vs rfl) (AV.nil))) (fun _ w hw => nm_Under _ _ w (by have := hnn.1; omega) (by have := hz; omega))) ?_
  refine WQ.p O.nt ?_
  refine WQ.p O.pkB ?_
  refine WQ.p O.mv ?_
  first | refine WQ.p O.fb ?_ | refine WQ.p O.fa ?_
  first | refine WQ.p O.ld ?_ | refine WQ.p O.ldC ?_
  refine WQ.p O.mv ?_
  refine WQ.p O.nc ?_
  first | refine WQ.p O.fb ?_ | refine WQ.p O.fa ?_
  first | refine WQ.p O.ld ?_ | refine WQ.p O.ldC ?_
  refine WQ.p O.eqS ?_
  refine WQ.p O.pkB ?_
  refine WQ.nil ?_
  refine WL.nil (Q.tn ?_)
  refine CW.cond (vt rfl) (fun hc2 => ?_) (fun hc2 => ?_)
  ·try simp only [sk] at hc2
   refine W.go ?_
   refine ⟨_, [], (RVs.tmp rfl RVs.nil), List.nil_sublist _, ?_⟩
   refine ⟨congrArg Value.bool ?_, rfl⟩
   have hno : c.stat.all (stMay c.zone) = false := List.all_eq_false.2 ⟨_, mem_at dR h0 hc1, by simp only [stMay, Bool.and_eq_true, Bool.or_eq_true, decide_eq_true_eq, Bool.not_eq_true', decide_eq_false_iff_not]; intro hg; rcases hc2 with ((h | h) | h) | h; (exact absurd hg.1.1.1 (by omega)); (rw [hg.1.1.2] at h; cases h); (rw [hg.1.2] at h; cases h); (exact hg.2 h)⟩
   rw [stOk, hno]; rfl
  try simp only [sk] at hc2
  refine W.go ?_
  refine nextA (_) ?_ ?_
  ·try dsimp only
   refine ⟨by omega, by omega, ?_⟩
   rw [take_at' dR h0 hc1, List.all_append, ha]; simp only [List.all_cons, List.all_nil, Bool.and_true, Bool.true_and, stMay, Bool.and_eq_true, Bool.or_eq_true, decide_eq_true_eq, Bool.not_eq_true', decide_eq_false_iff_not]
   exact hc2
  ·try dsimp only
   omega
 try simp only [sk] at hc1
 refine W.go ?_
 refine ⟨_, [], (RVs.tmp rfl RVs.nil), List.nil_sublist _, ?_⟩
 refine ⟨congrArg Value.bool ?_, rfl⟩
 rw [List.take_of_length_le (by omega)] at ha
 rw [stOk, ha]; exact decide_eq_decide.2 (by omega)
theorem cf_fin (c : Cf) (zn : Bool) (hz : zn = (!decide (c.zone = []) && nmMay c.zone && decide ((labs c.zone).length ≤ 4))) : (bif bif bif bif bif bif bif bif bif decide (2 ≤ c.first) then decide (c.first ≤ c.last) else false then decide (c.last ≤ 254) else false then decide (IntKind.i64.wrap (c.last - c.first) < 8) else false then zn else false then decide (1 ≤ c.time) else false then decide (c.time ≤ 1048576) else false then hostsOk c.first c.last c.excl 8 else false then resOk c else false then stOk c else false) = cfMay c := by
 rw [hz, cfMay, inZ]
 simp only [Bool.cond_false_right, Bool.and_assoc]
 by_cases h1 : 2 ≤ c.first
 ·by_cases h2 : c.first ≤ c.last
  ·by_cases h3 : c.last ≤ 254
   ·rw [wrap_in _ (by omega)]
   ·simp [h3]
  ·simp [h2]
 ·simp [h1]
theorem lbls_len {z : List UInt8} (h : nmMay z = true) : (lbls z).length = (labs z).length := by rw [lbls, if_pos h]
set_option maxRecDepth 100000 in
theorem cf_May1 (c : Cf) (e r s : Sl2) (w : World) (h : CfIn w c e r s) (hz : CfSz c) (h1 : c.zone = []) : Fn Tryz.prog 63 [vCf c e r s] w [] fun v L' => v = .bool (cfMay c) ∧ L' = [] := by
 refine Fn.enter Tryz.func63 rfl rfl rfl rfl (Holds.nil w) ?_
 refine W.go ?_
 refine W.bx rfl (vt rfl) rfl fun b1 => ?_
 refine W.p O.as ?_
 refine WL.nil (Q.tn ?_)
 refine CW.seq ?_
 refine CW.region ?_
 first | refine W.p O.fb ?_ | refine W.p O.fa ?_
 refine W.p O.ld ?_
 refine W.p O.geq ?_
 refine W.p O.mv ?_
 first | refine W.p O.fb ?_ | refine W.p O.fa ?_
 refine W.p O.ld ?_
 first | refine W.p O.fb ?_ | refine W.p O.fa ?_
 refine W.p O.ld ?_
 refine W.p O.leq ?_
 refine W.p O.pkB ?_
 refine W.p O.mv ?_
 first | refine W.p O.fb ?_ | refine W.p O.fa ?_
 refine W.p O.ld ?_
 refine W.p O.leq ?_
 refine W.p O.pkB ?_
 refine W.p O.mv ?_
 first | refine W.p O.fb ?_ | refine W.p O.fa ?_
 refine W.p O.ld ?_
 first | refine W.p O.fb ?_ | refine W.p O.fa ?_
 refine W.p O.ld ?_
 first | refine W.p O.subN ?_ | refine W.p O.sub ?_
 refine W.p O.lss ?_
 refine W.p O.pkB ?_
 refine W.p O.as ?_
 refine WL.nil (Q.tn ?_)
 refine CW.seq ?_
 refine CW.region ?_
 first | refine W.p O.fb ?_ | refine W.p O.fa ?_
 refine W.p O.ld ?_
 refine W.p O.neS ?_
 first | (refine WL.kn (v := true) (by rfl) ?_ ?_; focus ((simp [h1]; done))) | (refine WL.kn (v := false) (by rfl) ?_ ?_; focus ((simp [h1]; done)))
 refine W.go ?_
 refine W.q (O.call ⟨rfl, rfl⟩ (AV.cons (vs rfl) (AV.nil)) (fun _ w hw => nm_May _ w (by have := hz.hz; omega))) ?_
 refine W.p O.pkB ?_
 refine W.p O.mv ?_
 first | refine W.p O.fb ?_ | refine W.p O.fa ?_
 refine W.p O.ld ?_
 refine (W.offc (.slice none 0 0) rfl rfl rfl ?_)
 refine W.go ?_
 refine W.q (O.call ⟨rfl, rfl⟩ (AV.cons (vt rfl) (AV.cons (vs rfl) (AV.cons (vt rfl) (AV.nil)))) (fun _ w hw => cf_hosts c e r s c.excl _ _ 8 w (in_blk hw) (h.hx.upd (L0 := []) hw) hz.hx)) ?_
 refine W.go ?_
 refine W.q (O.call ⟨rfl, rfl⟩ (AV.cons (vt rfl) (AV.nil)) (fun _ w hw => cf_reserved c e r s w (in_blk hw) (h.hr.upd (L0 := []) hw) hz.hr hz.hc)) ?_
 refine W.go ?_
 refine W.q (O.call ⟨rfl, rfl⟩ (AV.cons (vt rfl) (AV.nil)) (fun _ w hw => cf_static c e r s w (in_blk hw) (h.hs.upd (L0 := []) hw) hz.hs hz.hz hz.hn)) ?_
 refine W.go ?_
 refine ⟨_, [], (RVs.tmp rfl RVs.nil), List.nil_sublist _, ?_⟩
 exact ⟨congrArg Value.bool (cf_fin c _ (by simp [h1])), rfl⟩
set_option maxRecDepth 100000 in
theorem cf_May2 (c : Cf) (e r s : Sl2) (w : World) (h : CfIn w c e r s) (hz : CfSz c) (h1 : c.zone ≠ [] ∧ nmMay c.zone = false) : Fn Tryz.prog 63 [vCf c e r s] w [] fun v L' => v = .bool (cfMay c) ∧ L' = [] := by
 refine Fn.enter Tryz.func63 rfl rfl rfl rfl (Holds.nil w) ?_
 refine W.go ?_
 refine W.bx rfl (vt rfl) rfl fun b1 => ?_
 refine W.p O.as ?_
 refine WL.nil (Q.tn ?_)
 refine CW.seq ?_
 refine CW.region ?_
 first | refine W.p O.fb ?_ | refine W.p O.fa ?_
 refine W.p O.ld ?_
 refine W.p O.geq ?_
 refine W.p O.mv ?_
 first | refine W.p O.fb ?_ | refine W.p O.fa ?_
 refine W.p O.ld ?_
 first | refine W.p O.fb ?_ | refine W.p O.fa ?_
 refine W.p O.ld ?_
 refine W.p O.leq ?_
 refine W.p O.pkB ?_
 refine W.p O.mv ?_
 first | refine W.p O.fb ?_ | refine W.p O.fa ?_
 refine W.p O.ld ?_
 refine W.p O.leq ?_
 refine W.p O.pkB ?_
 refine W.p O.mv ?_
 first | refine W.p O.fb ?_ | refine W.p O.fa ?_
 refine W.p O.ld ?_
 first | refine W.p O.fb ?_ | refine W.p O.fa ?_
 refine W.p O.ld ?_
 first | refine W.p O.subN ?_ | refine W.p O.sub ?_
 refine W.p O.lss ?_
 refine W.p O.pkB ?_
 refine W.p O.as ?_
 refine WL.nil (Q.tn ?_)
 refine CW.seq ?_
 refine CW.region ?_
 first | refine W.p O.fb ?_ | refine W.p O.fa ?_
 refine W.p O.ld ?_
 refine W.p O.neS ?_
 first | (refine WL.kn (v := true) (by rfl) ?_ ?_; focus ((simp [h1]; done))) | (refine WL.kn (v := false) (by rfl) ?_ ?_; focus ((simp [h1]; done)))
 refine W.go ?_
 refine W.q (O.call ⟨rfl, rfl⟩ (AV.cons (vs rfl) (AV.nil)) (fun _ w hw => nm_May _ w (by have := hz.hz; omega))) ?_
 first | (refine WL.kn (v := true) (by rfl) ?_ ?_; focus ((simp [h1]; done))) | (refine WL.kn (v := false) (by rfl) ?_ ?_; focus ((simp [h1]; done)))
 refine W.p O.pkB ?_
 refine W.p O.mv ?_
 first | refine W.p O.fb ?_ | refine W.p O.fa ?_
 refine W.p O.ld ?_
 refine (W.offc (.slice none 0 0) rfl rfl rfl ?_)
 refine W.go ?_
 refine W.q (O.call ⟨rfl, rfl⟩ (AV.cons (vt rfl) (AV.cons (vs rfl) (AV.cons (vt rfl) (AV.nil)))) (fun _ w hw => cf_hosts c e r s c.excl _ _ 8 w (in_blk hw) (h.hx.upd (L0 := []) hw) hz.hx)) ?_
 refine W.go ?_
 refine W.q (O.call ⟨rfl, rfl⟩ (AV.cons (vt rfl) (AV.nil)) (fun _ w hw => cf_reserved c e r s w (in_blk hw) (h.hr.upd (L0 := []) hw) hz.hr hz.hc)) ?_
 refine W.go ?_
 refine W.q (O.call ⟨rfl, rfl⟩ (AV.cons (vt rfl) (AV.nil)) (fun _ w hw => cf_static c e r s w (in_blk hw) (h.hs.upd (L0 := []) hw) hz.hs hz.hz hz.hn)) ?_
 refine W.go ?_
 refine ⟨_, [], (RVs.tmp rfl RVs.nil), List.nil_sublist _, ?_⟩
 exact ⟨congrArg Value.bool (cf_fin c _ (by simp [h1])), rfl⟩
set_option maxRecDepth 100000 in
theorem cf_May3 (c : Cf) (e r s : Sl2) (w : World) (h : CfIn w c e r s) (hz : CfSz c) (h1 : c.zone ≠ [] ∧ nmMay c.zone = true) : Fn Tryz.prog 63 [vCf c e r s] w [] fun v L' => v = .bool (cfMay c) ∧ L' = [] := by
 refine Fn.enter Tryz.func63 rfl rfl rfl rfl (Holds.nil w) ?_
 refine W.go ?_
 refine W.bx rfl (vt rfl) rfl fun b1 => ?_
 refine W.p O.as ?_
 refine WL.nil (Q.tn ?_)
 refine CW.seq ?_
 refine CW.region ?_
 first | refine W.p O.fb ?_ | refine W.p O.fa ?_
 refine W.p O.ld ?_
 refine W.p O.geq ?_
 refine W.p O.mv ?_
 first | refine W.p O.fb ?_ | refine W.p O.fa ?_
 refine W.p O.ld ?_
 first | refine W.p O.fb ?_ | refine W.p O.fa ?_
 refine W.p O.ld ?_
 refine W.p O.leq ?_
 refine W.p O.pkB ?_
 refine W.p O.mv ?_
 first | refine W.p O.fb ?_ | refine W.p O.fa ?_
 refine W.p O.ld ?_
 refine W.p O.leq ?_
 refine W.p O.pkB ?_
 refine W.p O.mv ?_
 first | refine W.p O.fb ?_ | refine W.p O.fa ?_
 refine W.p O.ld ?_
 first | refine W.p O.fb ?_ | refine W.p O.fa ?_
 refine W.p O.ld ?_
 first | refine W.p O.subN ?_ | refine W.p O.sub ?_
 refine W.p O.lss ?_
 refine W.p O.pkB ?_
 refine W.p O.as ?_
 refine WL.nil (Q.tn ?_)
 refine CW.seq ?_
 refine CW.region ?_
 first | refine W.p O.fb ?_ | refine W.p O.fa ?_
 refine W.p O.ld ?_
 refine W.p O.neS ?_
 first | (refine WL.kn (v := true) (by rfl) ?_ ?_; focus ((simp [h1]; done))) | (refine WL.kn (v := false) (by rfl) ?_ ?_; focus ((simp [h1]; done)))
 refine W.go ?_
 refine W.q (O.call ⟨rfl, rfl⟩ (AV.cons (vs rfl) (AV.nil)) (fun _ w hw => nm_May _ w (by have := hz.hz; omega))) ?_
 first | (refine WL.kn (v := true) (by rfl) ?_ ?_; focus ((simp [h1]; done))) | (refine WL.kn (v := false) (by rfl) ?_ ?_; focus ((simp [h1]; done)))
 refine W.p O.pkB ?_
 refine W.p O.mv ?_
 first | refine W.p O.fb ?_ | refine W.p O.fa ?_
 refine W.p O.ld ?_
 refine W.ug rfl ?_
 refine W.callN (first := []) (cap := []) rfl (vt rfl) (AV.cons (vs rfl) (AV.nil)) (fun w hu => nm_Labels c.zone w (by have := hz.hz; omega)) ?_; rintro _ _ ⟨o9, c9, sp9, rfl, ok9, rfl⟩; have nk9 := ok9.nk
 refine W.go ?_
 refine W.q (O.call ⟨rfl, rfl⟩ (AV.cons (vt rfl) (AV.cons (vs rfl) (AV.cons (vt rfl) (AV.nil)))) (fun _ w hw => cf_hosts c e r s c.excl _ _ 8 w (in_blk hw) (h.hx.upd (L0 := []) hw) hz.hx)) ?_
 refine W.go ?_
 refine W.q (O.call ⟨rfl, rfl⟩ (AV.cons (vt rfl) (AV.nil)) (fun _ w hw => cf_reserved c e r s w (in_blk hw) (h.hr.upd (L0 := []) hw) hz.hr hz.hc)) ?_
 refine W.go ?_
 refine W.q (O.call ⟨rfl, rfl⟩ (AV.cons (vt rfl) (AV.nil)) (fun _ w hw => cf_static c e r s w (in_blk hw) (h.hs.upd (L0 := []) hw) hz.hs hz.hz hz.hn)) ?_
 refine W.go ?_
 refine ⟨_, [], (RVs.tmp rfl RVs.nil), List.nil_sublist _, ?_⟩
 have e9 : decide (((lbls c.zone).length : Int) ≤ 4) = decide ((labs c.zone).length ≤ 4) := decide_eq_decide.2 (by rw [lbls_len h1.2]; omega)
 exact ⟨congrArg Value.bool (cf_fin c _ (by simp [h1, e9])), rfl⟩
theorem cf_May (c : Cf) (e r s : Sl2) (w : World) (h : CfIn w c e r s) (hz : CfSz c) : Fn Tryz.prog 63 [vCf c e r s] w [] fun v L' => v = .bool (cfMay c) ∧ L' = [] := by
 by_cases h1 : c.zone = []
 ·exact cf_May1 c e r s w h hz h1
 ·cases h2 : nmMay c.zone with
  | false => exact cf_May2 c e r s w h hz ⟨h1, h2⟩
  | true => exact cf_May3 c e r s w h hz ⟨h1, h2⟩
theorem asc_take : ∀ (l : List Lz) (k : Nat), asc l = true → asc (l.take k) = true
 | [], k, _ => by simp [asc]
 | a :: l, 0, _ => rfl
 | [a], k + 1, _ => by simp [asc]
 | a :: b :: r, 1, _ => rfl
 | a :: b :: r, k + 2, h => by
  simp only [asc, Bool.and_eq_true] at h
  have ih := asc_take (b :: r) (k + 1) h.2
  simp only [List.take_succ_cons, asc, Bool.and_eq_true] at ih ⊢
  exact ⟨h.1, ih⟩
theorem take_get {α : Type} {d : α} {l : List α} {i : Int} (h0 : 0 < i) (h1 : i < l.length) : (l.take i.toNat).getD ((l.take i.toNat).length - 1) d = l.getD (i - 1).toNat d := by
 have e : (l.take i.toNat).length = i.toNat := by rw [List.length_take]; omega
 rw [e, List.getD_eq_getElem?_getD, List.getD_eq_getElem?_getD, List.getElem?_take, if_pos (by omega), show (i - 1).toNat = i.toNat - 1 by omega]
theorem tb_step {ls : List Lz} {i : Int} (h0 : 0 ≤ i) (h1 : i < ls.length) : asc (ls.take (i + 1).toNat) = (asc (ls.take i.toNat) && (decide (i = 0) || decide ((ls.getD (i - 1).toNat dL).host < (ls.getD i.toNat dL).host))) := by
 rw [take_at' dL h0 h1, asc_snoc dL]
 by_cases h : i = 0
 ·subst h; simp
 ·have : ls.take i.toNat ≠ [] := fun e => by have := congrArg List.length e; rw [List.length_take, List.length_nil] at this; omega
  rw [take_get (by omega) h1, decide_eq_false this, decide_eq_false h]
set_option maxRecDepth 100000 in
theorem tb_May (ls : List Lz) (a : Option Addr) (cc : Nat) (w : World) (h : In w a (ls.flatMap encL)) (hz : LsSz ls) : Fn Tryz.prog 64 [.slice a ls.length cc] w [] fun v L' => v = .bool (tbMay ls) ∧ L' = [] := by
 have row := Row.ofE (dv := dL) h
 have hl := hz.hl
 refine Fn.enter Tryz.func64 rfl rfl rfl rfl (Holds.nil w) ?_
 refine W.go ?_
 refine CW.loopA (X := Int) (fun i => [(0, true, .slice a ls.length cc), (5, true, .slice a ls.length cc), (6, true, .int .i64 ls.length), (7, true, .int .i64 i)]) (fun i => []) (fun i => 0 ≤ i ∧ i ≤ ls.length ∧ (ls.take i.toNat).all lzMay = true ∧ asc (ls.take i.toNat) = true) (fun i => (ls.length - i).toNat) (0) ?_ ?_
 ·exact ⟨by omega, by omega, rfl, rfl⟩
 rintro i hI
 try dsimp only at hI ⊢
 obtain ⟨h0, h1, ha, hs⟩ := hI
 refine W.go ?_
 refine CW.cond (vt rfl) (fun hc1 => ?_) (fun hc1 => ?_)
 ·try simp only [sk] at hc1
  have hnn := hz.hn _ (mem_at dL h0 hc1)
  refine W.go ?_
  refine W.al rfl rfl fun b1 => ?_
  refine W.go ?_
  refine W.st (vt rfl) (vt rfl) rfl ?_
  refine W.go ?_
  refine CW.draw 18 rfl (by kernel_rfl) ?_
  refine WQ.p O.lds ?_
  refine WQ.q (O.call ⟨rfl, rfl⟩ (AV.cons (vt rfl) (AV.nil)) (fun _ w hw => ls_May _ w (by omega))) ?_
  refine WQ.p O.nt ?_
  refine WQ.p O.mv ?_
  refine WQ.p O.mv ?_
  refine WQ.p O.gtr ?_
  refine WQ.p O.mv ?_
  refine WQ.p O.mv ?_
  refine WQ.p O.mv ?_
  first | refine WQ.p O.subN ?_ | refine WQ.p O.sub ?_
  refine WQ.p O.ixA ?_
  first | refine WQ.p O.fe ?_ | refine WQ.p O.feR ?_
  refine WQ.p O.ldE ?_
  first | refine WQ.p O.fb ?_ | refine WQ.p O.fa ?_
  refine WQ.p O.ld ?_
  refine WQ.p O.geq ?_
  refine WQ.p O.pkB ?_
  refine WQ.p O.pkB ?_
  refine WQ.nil ?_
  refine WL.nil (Q.tn ?_)
  refine CW.cond (vt rfl) (fun hc2 => ?_) (fun hc2 => ?_)
  ·try simp only [sk] at hc2
   refine W.go ?_
   refine ⟨_, [], (RVs.tmp rfl RVs.nil), List.nil_sublist _, ?_⟩
   refine ⟨congrArg Value.bool ?_, rfl⟩
   rcases hc2 with h | h
   ·have hf : ls.all lzMay = false := List.all_eq_false.2 ⟨_, mem_at dL h0 hc1, by rw [h]; decide⟩
    rw [tbMay, hf]; rfl
   ·have hf : asc ls = false := by
     cases ha' : asc ls with
     | false => rfl
     | true => have := asc_take ls (i + 1).toNat ha'; rw [tb_step h0 hc1, Bool.and_eq_true, Bool.or_eq_true, decide_eq_true_eq, decide_eq_true_eq] at this; omega
    rw [tbMay, hf]; simp
  try simp only [sk] at hc2
  refine W.go ?_
  refine nextA (_) ?_ ?_
  ·try dsimp only
   refine ⟨by omega, by omega, ?_, ?_⟩
   ·rw [take_at' dL h0 hc1, List.all_append, ha]; simp only [List.all_cons, hc2.1, List.all_nil, Bool.and_true]
   ·rw [tb_step h0 hc1, hs, Bool.true_and]; rcases hc2.2 with h | h; (rw [decide_eq_true (show i = 0 by omega)]; rfl); (rw [decide_eq_true (show (ls.getD (i - 1).toNat dL).host < (ls.getD i.toNat dL).host by omega)]; simp)
  ·try dsimp only
   omega
 try simp only [sk] at hc1
 refine W.go ?_
 refine ⟨_, [], (RVs.tmp rfl RVs.nil), List.nil_sublist _, ?_⟩
 refine ⟨congrArg Value.bool ?_, rfl⟩
 rw [List.take_of_length_le (by omega)] at ha hs
 rw [tbMay, ha, hs]; exact decide_eq_decide.2 (by omega)
theorem cf_zone {c : Cf} (h : cfMay c = true) : c.zone ≠ [] ∧ nmMay c.zone = true := by
 simp only [cfMay, Bool.and_eq_true, Bool.not_eq_true', decide_eq_false_iff_not] at h
 exact ⟨h.1.1.1.1.1.1.2, h.1.1.1.1.1.2⟩
theorem lbls_may {s : List UInt8} (h : (lbls s).length = 1) : s ≠ [] ∧ nmMay s = true := by
 unfold lbls at h
 split at h
 ·rename_i hm
  refine ⟨fun e => ?_, hm⟩
  subst e; cases h
 ·cases h
theorem full_one {c : Cf} {n : List UInt8} (h1 : ((lbls n).length : Int) = 1) (hm : nmMay (n ++ [46] ++ c.zone) = true ∧ cfMay c = true) : full c n = n ++ [46] ++ c.zone := by
 obtain ⟨z1, z2⟩ := cf_zone hm.2
 obtain ⟨n1, n2⟩ := lbls_may (s := n) (by omega)
 have e : n ++ [46] ++ c.zone = n ++ 46 :: c.zone := by simp
 rw [e] at hm ⊢
 have hf : fullN c n = n ++ 46 :: c.zone := by rw [fullN, if_pos (by omega)]
 have hl : (n ++ 46 :: c.zone).length = n.length + (46 :: c.zone).length := List.length_append
 unfold full
 rw [hf, if_pos]
 refine ⟨hm.2, n1, n2, fun e => ?_, ?_⟩
 ·have := congrArg List.length e; simp at this; omega
 ·rw [under, hm.1, z2, endsB, decide_eq_true (show (46 :: c.zone).length ≤ (n ++ 46 :: c.zone).length by omega), show (n ++ 46 :: c.zone).length - (46 :: c.zone).length = n.length by omega, List.drop_left]; simp
theorem full_none {c : Cf} {n : List UInt8} (h : nmMay (fullN c n) = false ∨ cfMay c = false) : full c n = [] := by
 unfold full
 rw [if_neg]
 rintro ⟨a, _, _, _, b⟩
 rcases h with h | h
 ·rw [under, h] at b; cases b
 ·rw [h] at a; cases a
theorem fullN_not {c : Cf} {n : List UInt8} (h : ¬((lbls n).length : Int) = 1) : fullN c n = n := by rw [fullN, if_neg (by omega)]
theorem fullN_one {c : Cf} {n : List UInt8} (h : ((lbls n).length : Int) = 1) : fullN c n = n ++ [46] ++ c.zone := by rw [fullN, if_pos (by omega)]; simp
theorem full_far {c : Cf} {n : List UInt8} (h1 : ¬((lbls n).length : Int) = 1) (h : n = c.zone ∨ under n c.zone = false) : full c n = [] := by
 unfold full
 rw [fullN_not h1, if_neg]
 rintro ⟨_, _, _, a, b⟩
 rcases h with h | h
 ·exact a h
 ·rw [h] at b; cases b
theorem full_self {c : Cf} {n : List UInt8} (h1 : ¬((lbls n).length : Int) = 1) (h : ¬n = c.zone ∧ under n c.zone = true) (hm : nmMay n = true ∧ cfMay c = true) : full c n = n := by
 unfold full
 rw [fullN_not h1, if_pos]
 refine ⟨hm.2, fun e => ?_, hm.1, h.1, h.2⟩
 subst e
 have hz := (cf_zone hm.2).1
 have := h.2
 simp [under, endsB, hz, h.1] at this
set_option maxRecDepth 100000 in
theorem rg_Full (c : Cf) (e r s : Sl2) (host : List UInt8) (w : World) (h : CfIn w c e r s) (hz : CfSz c) (hn : host.length ≤ 4194304) : Fn Tryz.prog 67 [vCf c e r s, .string (S host)] w [] fun v L' => v = .string (S (full c host)) ∧ L' = [] := by
 have hzz := hz.hz
 refine Fn.enter Tryz.func67 rfl rfl rfl rfl (Holds.nil w) ?_
 refine W.go ?_
 refine W.bx rfl (vt rfl) rfl fun b1 => ?_
 refine W.go ?_
 refine W.callN (first := []) (cap := []) rfl (vt rfl) (AV.cons (vt rfl) (AV.nil)) (fun w hu => nm_Labels host w (by omega)) ?_; rintro _ _ ⟨o9, c9, sp9, rfl, ok9, rfl⟩; have nk9 := ok9.nk
 refine W.go ?_
 refine CW.cond (vt rfl) (fun hc1 => ?_) (fun hc1 => ?_)
 ·try simp only [sk] at hc1
  refine W.go ?_
  refine W.q (O.call ⟨rfl, rfl⟩ (AV.cons (vt rfl) (AV.nil)) (fun _ w hw => nm_May _ w (by have := hz.hz; first | omega | (simp only [List.length_append, List.length_cons, List.length_nil]; omega)))) ?_
  refine W.go ?_
  refine W.q (O.call ⟨rfl, rfl⟩ (AV.cons (vs rfl) (AV.nil)) (fun _ w hw => cf_May c e r s w (h.upd hw) hz)) ?_
  refine W.go ?_
  refine CW.cond (vt rfl) (fun hc2 => ?_) (fun hc2 => ?_)
  ·try simp only [sk] at hc2
   refine W.go ?_
   refine ⟨_, [], (RVs.tmp rfl RVs.nil), List.nil_sublist _, ?_⟩
   rw [full_none (by rw [fullN_one hc1]; exact hc2)]; exact ⟨rfl, rfl⟩
  try simp only [sk] at hc2
  refine W.go ?_
  refine ⟨_, [], (RVs.tmp rfl RVs.nil), List.nil_sublist _, ?_⟩
  rw [full_one hc1 hc2]; exact ⟨rfl, rfl⟩
 try simp only [sk] at hc1
 refine W.go ?_
 refine W.q (O.call ⟨rfl, rfl⟩ (AV.cons (vs rfl) (AV.cons (vs rfl) (AV.nil))) (fun _ w hw => nm_Under _ _ w (by omega) (by have := hz.hz; omega))) ?_
 refine W.go ?_
 refine CW.cond (vt rfl) (fun hc3 => ?_) (fun hc3 => ?_)
 ·try simp only [sk] at hc3
  refine W.go ?_
  refine ⟨_, [], (RVs.tmp rfl RVs.nil), List.nil_sublist _, ?_⟩
  rw [full_far hc1 hc3]; exact ⟨rfl, rfl⟩
 try simp only [sk] at hc3
 refine W.go ?_
 refine W.q (O.call ⟨rfl, rfl⟩ (AV.cons (vt rfl) (AV.nil)) (fun _ w hw => nm_May _ w (by have := hz.hz; first | omega | (simp only [List.length_append, List.length_cons, List.length_nil]; omega)))) ?_
 refine W.go ?_
 refine W.q (O.call ⟨rfl, rfl⟩ (AV.cons (vs rfl) (AV.nil)) (fun _ w hw => cf_May c e r s w (h.upd hw) hz)) ?_
 refine W.go ?_
 refine CW.cond (vt rfl) (fun hc4 => ?_) (fun hc4 => ?_)
 ·try simp only [sk] at hc4
  refine W.go ?_
  refine ⟨_, [], (RVs.tmp rfl RVs.nil), List.nil_sublist _, ?_⟩
  rw [full_none (by rw [fullN_not hc1]; exact hc4)]; exact ⟨rfl, rfl⟩
 try simp only [sk] at hc4
 refine W.go ?_
 refine ⟨_, [], (RVs.tmp rfl RVs.nil), List.nil_sublist _, ?_⟩
 rw [full_self hc1 hc3 hc4]; exact ⟨rfl, rfl⟩
end Go.Proofs.YtfmdaijkgjkmpaaGreatDoor
