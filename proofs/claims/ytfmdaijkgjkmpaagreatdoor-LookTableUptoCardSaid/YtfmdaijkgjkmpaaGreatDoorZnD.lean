/- Several texts in one (ZnD). Their conditions are their own. -/
import Derived.Test.YtfmdaijkgjkmpaaGreatDoorZnC
import Derived.Test.YtfmdaijkgjkmpaaGreatDoorIto
import Derived.Test.YtfmdaijkgjkmpaaGreatDoorLaw0
import Derived.Laws.BitsAllLaws
set_option linter.unusedVariables false
set_option linter.unusedSimpArgs false
namespace Go.Proofs.YtfmdaijkgjkmpaaGreatDoor
open Go Go.RowKit
theorem fnv_snoc (s : List UInt8) (b : UInt8) : fnv (s ++ [b]) = ((fnv s ^^^ b.toNat) * 16777619) % 4294967296 := by
 rw [fnv, fnv, List.foldl_append, List.foldl_cons, List.foldl_nil]
theorem fnv_lt (s : List UInt8) : fnv s < 4294967296 := by
 have h : ∀ (l : List UInt8) (a : Nat), a < 4294967296 → l.foldl (fun h b => ((h ^^^ b.toNat) * 16777619) % 4294967296) a < 4294967296 := by
  intro l
  induction l with
  | nil => intro a ha; exact ha
  | cons b l ih => intro a _; exact ih _ (Nat.mod_lt _ (by omega))
 exact h s _ (by omega)
theorem fnv_step {s : List UInt8} {i : Int} (h0 : 0 ≤ i) (h1 : i < s.length) : IntKind.u32.wrap (bits .xor .u32 ((fnv (s.take i.toNat) : Nat) : Int) (IntKind.u32.wrap ((s.getD i.toNat 0).toNat : Int)) * 16777619) = ((fnv (s.take (i + 1).toNat) : Nat) : Int) := by
 have hb := (s.getD i.toNat 0).toNat_lt
 rw [show IntKind.u32.wrap ((s.getD i.toNat 0).toNat : Int) = ((s.getD i.toNat 0).toNat : Int) from wrap32_in (by omega) (by omega), u32_xor_nat _ _ (fnv_lt _) (by omega), take_at' 0 h0 h1, fnv_snoc]
 have : IntKind.u32.wrap (((fnv (s.take i.toNat) ^^^ (s.getD i.toNat 0).toNat : Nat) : Int) * 16777619) = (((fnv (s.take i.toNat) ^^^ (s.getD i.toNat 0).toNat : Nat) : Int) * 16777619) % 4294967296 := rfl
 rw [this]; omega
set_option maxRecDepth 100000 in
theorem id_sum (s : List UInt8) (w : World) (h : s.length ≤ 140737488355328) : Fn Tryz.prog 127 [.string (S s)] w [] fun v L' => v = .int .u32 (fnv s : Nat) ∧ L' = [] := by
 refine Fn.enter Tryz.func127 rfl rfl rfl rfl (Holds.nil w) ?_
 refine W.go ?_
 refine CW.loopA (X := Int × Int) (fun ⟨i, x⟩ => [(0, true, .string (S s)), (3, true, .int .u32 x), (6, true, .int .i64 s.length), (7, true, .int .i64 i)]) (fun ⟨i, x⟩ => []) (fun ⟨i, x⟩ => 0 ≤ i ∧ i ≤ s.length ∧ x = ((fnv (s.take i.toNat) : Nat) : Int)) (fun ⟨i, x⟩ => (s.length - i).toNat) (0, 2166136261) ?_ ?_
 ·exact ⟨by omega, by omega, rfl⟩
 rintro ⟨i, x⟩ hI
 try dsimp only at hI ⊢
 obtain ⟨h0, h1, hx⟩ := hI
 refine W.go ?_
 refine CW.cond (vt rfl) (fun hc1 => ?_) (fun hc1 => ?_)
 ·try simp only [sk] at hc1
  refine W.go ?_
  first | refine W.p O.idxS ?_ | refine W.p (O.idxS (h := fun hg => by simp only [cond_true, cond_false, Bool.true_and, Bool.cond_false_right, Bool.cond_true_left, Bool.and_eq_true, Bool.or_eq_true, Bool.or_eq_false_iff, Bool.and_eq_false_iff, Bool.not_eq_true', Bool.not_eq_false', decide_eq_true_eq, decide_eq_false_iff_not, Int.reduceToNat] at *; omega)) ?_
  refine W.p O.cv ?_
  refine W.p O.xor ?_
  refine W.p O.mul ?_
  refine W.go ?_
  refine nextA (_, _) ?_ ?_
  ·try dsimp only
   refine ⟨by omega, by omega, ?_⟩
   rw [hx]; exact fnv_step h0 hc1
  ·try dsimp only
   omega
 try simp only [sk] at hc1
 refine W.go ?_
 refine ⟨_, [], (RVs.tmp rfl RVs.nil), List.nil_sublist _, ?_⟩
 refine ⟨?_, rfl⟩
 rw [hx, List.take_of_length_le (by omega)]; rfl
theorem dhcid_no {cl nm : List UInt8} (h : clMay cl = false ∨ nmMay nm = false) : dhcid cl nm = [] := by
 unfold dhcid; rw [if_neg]; rintro ⟨a, b⟩; rcases h with h | h; (rw [h] at a; cases a); (rw [h] at b; cases b)
set_option maxRecDepth 100000 in
theorem id_Dhcid (cl nm : List UInt8) (w : World) (h1 : cl.length ≤ 4398046511104) (h2 : nm.length ≤ 4398046511104) : Fn Tryz.prog 101 [.string (S cl), .string (S nm)] w [] fun v L' => v = .tuple #[.string (S (dhcid cl nm)), .int .i64 (if clMay cl = true ∧ nmMay nm = true then 0 else 900)] ∧ L' = [] := by
 have hw32 : IntKind.i64.wrap ((fnv (cl ++ [0] ++ nm) : Nat) : Int) = ((fnv (cl ++ [0] ++ nm) : Nat) : Int) := wrap_in _ (by have := fnv_lt (cl ++ [0] ++ nm); omega)
 refine Fn.enter Tryz.func101 rfl rfl rfl rfl (Holds.nil w) ?_
 refine W.go ?_
 refine W.q (O.call ⟨rfl, rfl⟩ (AV.cons (vt rfl) (AV.nil)) (fun _ w hw => id_May _ w (by omega))) ?_
 refine W.go ?_
 refine W.q (O.call ⟨rfl, rfl⟩ (AV.cons (vs rfl) (AV.nil)) (fun _ w hw => nm_May _ w (by omega))) ?_
 refine W.go ?_
 refine CW.cond (vt rfl) (fun hc1 => ?_) (fun hc1 => ?_)
 ·try simp only [sk] at hc1
  refine W.go ?_
  refine ⟨_, [], (RVs.tmp rfl (RVs.tmp rfl RVs.nil)), List.nil_sublist _, ?_⟩
  refine ⟨?_, rfl⟩
  rw [dhcid_no hc1, if_neg (by rintro ⟨a, b⟩; rcases hc1 with h | h; (rw [h] at a; cases a); (rw [h] at b; cases b))]; rfl
 try simp only [sk] at hc1
 refine W.go ?_
 refine W.q (O.call ⟨rfl, rfl⟩ (AV.cons (vt rfl) (AV.nil)) (fun _ w hw => id_sum _ w (by simp only [List.length_append, List.length_cons, List.length_nil]; omega))) ?_
 refine W.p O.cv ?_
 refine W.q (O.call ⟨rfl, rfl⟩ (AV.cons (vt rfl) (AV.cons (vt rfl) (AV.nil))) (fun _ w hw => be_Bytes _ 4 w (by decide))) ?_
 refine W.go ?_
 refine ⟨_, [], (RVs.tmp rfl (RVs.tmp rfl RVs.nil)), List.nil_sublist _, ?_⟩
 refine ⟨?_, rfl⟩
 rw [hw32, if_pos hc1, dhcid, if_pos hc1]; simp [oneOr]
theorem cf_Addr (h : Int) (w : World) (h0 : 1 ≤ h) (h1 : h ≤ 254) : Fn Tryz.prog 100 [.int .i64 h] w [] fun v L' => v = .tuple #[.int .i64 (167772160 + h), .int .i64 0] ∧ L' = [] := by
 have := cf_Address h w
 rwa [if_pos ⟨h0, h1⟩, if_pos ⟨h0, h1⟩] at this
theorem it_dec (x : Int) (w : World) (h0 : 0 ≤ x) (h1 : x < 1000) (ht : Tab10 w) : Fn Tryz.prog 102 [.int .i64 x] w [] fun v L' => v = .string (S (decD x)) ∧ L' = [] := by
 rw [decD_itoa h0 h1]; exact it_Itoa x w (by omega) (by omega) ht
theorem lz_host {l : Lz} (h : lzMay l = true) : 2 ≤ l.host ∧ l.host ≤ 254 ∧ l.client.length ≤ 16 ∧ l.name.length ≤ 72 := by
 simp only [lzMay, inZ, Bool.and_eq_true, decide_eq_true_eq] at h
 obtain ⟨⟨⟨⟨⟨a, b⟩, _⟩, c⟩, _⟩, d⟩ := h
 exact ⟨a, b, c, nmMay_len d⟩
set_option maxRecDepth 100000 in
theorem zn_lent {q p : Addr} (c : Cf) (e r s : Sl2) (l : Lz) (w : World) (hc : In w (some q) (encCf c e r s)) (hl : In w (some p) (encL l)) (h : CfIn w c e r s) (hz : CfSz c) (hm : lzMay l = true) (ht : Tab10 w) : Fn Tryz.prog 69 [.pointer (some q), .pointer (some p)] w [] (Fresh encR 58 7 (lentR c l)) := by
 obtain ⟨hh0, hh1, hcl, hnl⟩ := lz_host hm
 have hdl := decD_len l.host
 have ca : ∀ {L : Heap}, Cells w [] L q 7 (encCf c e r s) := fun {L} => cellsO hc rfl (by decide)
 have c0 : ∀ {L : Heap}, Cell w [] L (p.add 0) (.int .i64 l.host) := fun {L} => cellQ hl rfl
 have c2 : ∀ {L : Heap}, Cell w [] L (p.add 2) (.string (S l.client)) := fun {L} => cellQ hl rfl
 have c4 : ∀ {L : Heap}, Cell w [] L (p.add 4) (.string (S l.name)) := fun {L} => cellQ hl rfl
 refine Fn.enter Tryz.func69 rfl rfl rfl rfl (Holds.nil w) ?_
 refine W.go ?_
 refine CW.draw 9 rfl (by kernel_rfl) ?_
 refine WQ.p O.mv ?_
 refine WQ.p O.nc ?_
 first | refine WQ.p O.lds ?_ | refine WQ.p O.ldsC ?_
 refine WQ.p O.mv ?_
 refine WQ.p O.nc ?_
 first | refine WQ.p O.fb ?_ | refine WQ.p O.fa ?_
 first | refine WQ.p O.ld ?_ | refine WQ.p O.ldC ?_
 refine WQ.q (O.call ⟨rfl, rfl⟩ (AV.cons (vt rfl) (AV.cons (vt rfl) (AV.nil))) (fun _ w hw => rg_Full c e r s l.name w (h.upd hw) hz (by omega))) ?_
 refine WQ.p O.as ?_
 refine WQ.nil ?_
 refine WL.nil (Q.tn ?_)
 refine W.go ?_
 refine W.q (O.call ⟨rfl, rfl⟩ (AV.cons (vt rfl) (AV.nil)) (fun _ w hw => cf_Addr l.host w (by omega) (by omega))) ?_
 refine W.go ?_
 refine W.q (O.call ⟨rfl, rfl⟩ (AV.cons (vt rfl) (AV.cons (vt rfl) (AV.nil))) (fun _ w hw => id_Dhcid l.client (full c l.name) w (by omega) (by have := nmMay_len (full_may (c := c) (h := l.name)); omega))) ?_
 refine W.go ?_
 refine W.p (O.bd (hv := PV.cons (vt rfl) (PV.cons (vt rfl) (PV.cons (vt rfl) (PV.cons (vt rfl) (PV.nil)))))) ?_
 refine W.go ?_
 refine W.p (O.bd (hv := PV.cons (vt rfl) (PV.cons (vt rfl) (PV.cons (vt rfl) (PV.cons (vt rfl) (PV.nil)))))) ?_
 refine W.go ?_
 refine W.q (O.call ⟨rfl, rfl⟩ (AV.cons (vt rfl) (AV.nil)) (fun _ w hw => it_dec l.host w (by omega) (by omega) (ht.upd hw))) ?_
 refine W.go ?_
 refine W.p (O.bd (hv := PV.cons (vt rfl) (PV.cons (vt rfl) (PV.cons (vt rfl) (PV.cons (vt rfl) (PV.nil)))))) ?_
 refine W.bs encR (lentR c l) rfl (PV.cons (vt rfl) (PV.cons (vt rfl) (PV.cons (vt rfl) (PV.nil)))) rfl rfl rfl (by decide) rfl fun b1 => ?_
 refine W.go ?_
 refine ⟨_, rowL (some b1) 58 (flat encR (lentR c l) []), (RVs.tmp rfl RVs.nil), (by repeat (first | exact List.Sublist.refl _ | exact hSub _ | exact List.sublist_append_left _ _ | exact List.nil_sublist _ | refine List.Sublist.append (List.Sublist.refl _) ?_ | apply List.Sublist.cons_cons | apply List.Sublist.cons | exact List.sublist_append_left _ _ | refine List.Sublist.trans ?_ (List.sublist_append_right _ _))), ?_⟩
 exact ⟨some b1, 3, [], rfl, ⟨by simp, by simp [lentR], by simp [lentR], by decide⟩, rfl⟩
end Go.Proofs.YtfmdaijkgjkmpaaGreatDoor

set_option linter.unusedVariables false
set_option linter.unusedSimpArgs false
namespace Go.Proofs.YtfmdaijkgjkmpaaGreatDoor
open Go Go.RowKit
theorem In.el {w : World} {a : Option Addr} {α : Type} {enc : α → List Value} {m : Nat} {dv : α} [he : Enc enc m dv] {xs : List α} {i : Int} (h : In w a (xs.flatMap enc)) (h0 : 0 ≤ i) (h1 : i < xs.length) : ∃ q, elt a m i.toNat 0 = some q ∧ In w (some q) (enc (xs.getD i.toNat dv)) := by
 have hd := h.drop he.hm i.toNat (by omega)
 have e : xs.drop i.toNat = xs.getD i.toNat dv :: xs.drop (i.toNat + 1) := by
  rw [List.getD_eq_getElem?_getD, List.getElem?_eq_getElem (by omega), List.drop_eq_getElem_cons (by omega)]; rfl
 rw [e, List.flatMap_cons] at hd
 have h2 := hd.pre
 have hne : enc (xs.getD i.toNat dv) ≠ [] := fun e => by have := he.hm (xs.getD i.toNat dv); have h3 := he.pos; rw [e] at this; simp at this; omega
 obtain ⟨q, hq⟩ := h2.adr hne
 exact ⟨q, hq, hq ▸ h2⟩
def ZRes (c : Cf) (ls : List Lz) (now n : Int) (v : Value) (L' : Heap) : Prop := ∃ o c' sp, v = .tuple #[.slice (oa o) (zRec c ls now n).1.length c', .int .i64 (zRec c ls now n).2] ∧ OwnOk o c' 7 (zRec c ls now n).1.length (List.length sp) ∧ L' = rowL o 58 (flat encR (zRec c ls now n).1 sp)
set_option maxRecDepth 100000 in
theorem zn_Records (c : Cf) (e r s : Sl2) (ls : List Lz) (a : Option Addr) (cc : Nat) (now n : Int) (w : World) (h : CfIn w c e r s) (hz : CfSz c) (hl : In w a (ls.flatMap encL)) (hls : LsSz ls) (hn : -9223372036854775808 ≤ n ∧ n ≤ 9223372036854775807) (ht : Tab10 w) : Fn Tryz.prog 33 [vCf c e r s, .slice a ls.length cc, .int .i64 now, .int .i64 n] w [] (ZRes c ls now n) := by
 have row := Row.ofE (dv := dL) hl
 have rows := Row.ofE (dv := dR) h.hs
 have hll := hls.hl
 have hzs := hz.hs
 have hzh : (zHead c n).length = 2 := rfl
 refine Fn.enter Tryz.func33 rfl rfl rfl rfl (Holds.nil w) ?_
 refine W.go ?_
 refine W.bx rfl (vt rfl) rfl fun b1 => ?_
 refine W.go ?_
 refine W.q (O.call ⟨rfl, rfl⟩ (AV.cons (vt rfl) (AV.nil)) (fun _ w hw => cf_May c e r s w (h.upd hw) hz)) ?_
 refine W.go ?_
 refine W.q (O.call ⟨rfl, rfl⟩ (AV.cons (vs rfl) (AV.nil)) (fun _ w hw => tb_May ls a cc w (hl.upd (L0 := []) hw) hls)) ?_
 refine W.go ?_
 refine W.q (O.call ⟨rfl, rfl⟩ (AV.cons (vs rfl) (AV.nil)) (fun _ w hw => ls_Time now w)) ?_
 refine W.go ?_
 refine W.q (O.call ⟨rfl, rfl⟩ (AV.cons (vs rfl) (AV.nil)) (fun _ w hw => sn_May n w hn)) ?_
 refine W.go ?_
 refine CW.cond (vt rfl) (fun hc1 => ?_) (fun hc1 => ?_)
 ·try simp only [sk] at hc1
  refine W.go ?_
  refine ⟨_, [], (RVs.tmp rfl (RVs.tmp rfl RVs.nil)), List.nil_sublist _, ?_⟩
  have hno : zAsk c ls now n = false := by rw [zAsk]; rcases hc1 with ((hq | hq) | hq) | hq <;> rw [hq] <;> simp
  rw [ZRes, zRec, if_neg (by rw [hno]; decide)]; exact ⟨none, 0, [], rfl, OwnOk.nil, rfl⟩
 try simp only [sk] at hc1
 refine W.go ?_
 refine W.q (O.call ⟨rfl, rfl⟩ (AV.cons (vt rfl) (AV.cons (vt rfl) (AV.nil))) (fun _ w hw => rg_Full c e r s [110, 115] w (h.upd hw) hz (by decide))) ?_
 refine W.go ?_
 refine W.p (O.bd (hv := PV.cons (vt rfl) (PV.cons (vt rfl) (PV.cons (vt rfl) (PV.cons (vt rfl) (PV.cons (vt rfl) (PV.nil))))))) ?_
 refine W.go ?_
 refine W.p (O.bd (hv := PV.cons (vt rfl) (PV.cons (vt rfl) (PV.cons (vt rfl) (PV.cons (vt rfl) (PV.nil)))))) ?_
 refine W.bs encR (zHead c n) rfl (PV.cons (vt rfl) (PV.cons (vt rfl) (PV.nil))) rfl rfl rfl (by decide) rfl fun b2 => ?_
 refine W.go ?_
 refine W.ap (o := some _) rfl (vt rfl) (vt rfl) (by first | rfl | omega) (by first | rfl | omega) rfl (by first | assumption | exact OwnOk.nil | exact OwnOk.lit | exact ⟨by simp, rfl, Nat.le_refl _, by decide⟩) (by first | omega | (simp; omega)) fun o1 c1 sp1 ok1 ne1 gt1 => ?_
 have nk1 := ok1.nk; have le1 := ok1.2.2.1; try simp only [List.length_append, List.length_cons, List.length_nil] at le1
 refine W.go ?_
 refine CW.loopA (X := Int × (List RR) × (Option Nat) × Nat × (List Value)) (fun ⟨i, out, o, ca, sp⟩ => [(1, true, .slice a ls.length cc), (2, true, .int .i64 now), (4, true, .pointer (some ⟨b1, 0, none⟩)), (11, true, .slice (oa o) out.length ca), (49, true, .int .i64 ls.length), (50, true, .int .i64 i)]) (fun ⟨i, out, o, ca, sp⟩ => rowL o 58 (flat encR out sp) ++ [(b1, .cells (encCf c e r s).toArray 26 (0, 0))]) (fun ⟨i, out, o, ca, sp⟩ => 0 ≤ i ∧ i ≤ ls.length ∧ OwnOk o ca 7 out.length sp.length ∧ out.length ≤ 2 + c.stat.length + 3 * i ∧ out = zHead c n ++ c.stat ++ ((ls.take i.toNat).filter (toldZ c now)).flatMap (lentR c)) (fun ⟨i, out, o, ca, sp⟩ => (ls.length - i).toNat) (0, zHead c n ++ c.stat, _, _, _) ?_ ?_
 ·exact ⟨by omega, by omega, by assumption, by rw [List.length_append]; omega, by simp⟩
 rintro ⟨i, out, o, ca, sp⟩ hI
 try dsimp only at hI ⊢
 obtain ⟨h0, h1, hok, hol, hout⟩ := hI
 have nk := hok.nk
 refine W.go ?_
 refine CW.cond (vt rfl) (fun hc2 => ?_) (fun hc2 => ?_)
 ·try simp only [sk] at hc2
  obtain ⟨q, hq, hqi⟩ := hl.el (m := 6) (dv := dL) h0 hc2
  have hnn := hls.hn _ (mem_at dL h0 hc2)
  have d2 : ∀ {L : Heap}, Cell w [] L (q.add 2) (.string (S (ls.getD i.toNat dL).client)) := fun {L} => cellQ hqi rfl
  have d4 : ∀ {L : Heap}, Cell w [] L (q.add 4) (.string (S (ls.getD i.toNat dL).name)) := fun {L} => cellQ hqi rfl
  have d5 : ∀ {L : Heap}, Cell w [] L (q.add 5) (.bool (ls.getD i.toNat dL).won) := fun {L} => cellQ hqi rfl
  refine CW.skip (Q.tn ?_)
  refine CW.seq ?_
  refine CW.block ?_
  refine CW.seq ?_
  refine CW.region ?_
  refine W.p O.mv ?_
  refine W.p O.as ?_
  refine WL.nil (Q.tn ?_)
  refine CW.seq ?_
  refine CW.region ?_
  refine W.p O.mv ?_
  refine W.p O.mv ?_
  refine W.p O.ixA ?_
  rw [hq]
  refine W.go ?_
  refine CW.draw 22 rfl (by kernel_rfl) ?_
  refine WQ.p O.mv ?_
  refine WQ.p O.nc ?_
  first | refine WQ.p O.fb ?_ | refine WQ.p O.fa ?_
  first | refine WQ.p O.ld ?_ | refine WQ.p O.ldC ?_
  refine WQ.p O.mv ?_
  refine WQ.p O.mv ?_
  refine WQ.p O.mv ?_
  refine WQ.p O.nc ?_
  first | refine WQ.p O.fb ?_ | refine WQ.p O.fa ?_
  first | refine WQ.p O.ld ?_ | refine WQ.p O.ldC ?_
  refine WQ.p O.mv ?_
  refine WQ.q (O.call ⟨rfl, rfl⟩ (AV.cons (vs rfl) (AV.cons (vs rfl) (AV.cons (vs rfl) (AV.nil)))) (fun _ w hw => ls_Bound (ls.getD i.toNat dL) _ now w (hqi.upd (L0 := []) hw) (by omega))) ?_
  refine WQ.p O.pkB ?_
  refine WQ.p O.mv ?_
  first | refine WQ.p O.lds ?_ | refine WQ.p O.ldsC ?_
  refine WQ.p O.mv ?_
  refine WQ.p O.nc ?_
  first | refine WQ.p O.fb ?_ | refine WQ.p O.fa ?_
  first | refine WQ.p O.ld ?_ | refine WQ.p O.ldC ?_
  refine WQ.q (O.call ⟨rfl, rfl⟩ (AV.cons (vs rfl) (AV.cons (vs rfl) (AV.nil))) (fun _ w hw => rg_Full c e r s (ls.getD i.toNat dL).name w (h.upd hw) hz (by omega))) ?_
  refine WQ.p O.neS ?_
  refine WQ.p O.pkB ?_
  refine WQ.nil ?_
  refine WL.nil (Q.tn ?_)
  refine CW.cond (vt rfl) (fun hc3 => ?_) (fun hc3 => ?_)
  ·try simp only [sk] at hc3
   have htold : toldZ c now (ls.getD i.toNat dL) = true := by rw [toldZ]; simp_all
   have hlm : lzMay (ls.getD i.toNat dL) = true := by rw [toldZ, live] at htold; simp only [Bool.and_eq_true] at htold; exact htold.1.1.2.1.1
   have hl3 : (lentR c (ls.getD i.toNat dL)).length = 3 := rfl
   refine W.go ?_
   refine W.callN (first := []) (cap := []) rfl (vt rfl) (AV.cons (vt rfl) (AV.cons (vt rfl) (AV.nil))) (fun w hu => zn_lent c e r s (ls.getD i.toNat dL) w (in_blk hu) (hqi.upd (L0 := []) hu) (h.upd hu) hz hlm (ht.upd hu)) ?_; rintro _ _ ⟨o9, c9, sp9, rfl, ok9, rfl⟩; have nk9 := ok9.nk
   refine W.ap rfl (vt rfl) (vt rfl) (by first | rfl | omega) (by first | rfl | omega) rfl (by first | assumption | exact OwnOk.nil | exact OwnOk.lit) (by first | omega | (simp; omega)) fun o2 c2 sp2 ok2 ne2 gt2 => ?_
   have nk2 := ok2.nk; have le2 := ok2.2.2.1; try simp only [List.length_append, List.length_cons, List.length_nil] at le2
   refine W.go ?_
   refine nextA (_, out ++ lentR c (ls.getD i.toNat dL), _, _, _) ?_ ?_
   ·try dsimp only
    refine ⟨by omega, by omega, by assumption, by rw [List.length_append]; omega, ?_⟩
    rw [take_at' dL h0 hc2, List.filter_append, List.flatMap_append, hout, List.filter_cons_of_pos htold]; simp
   ·try dsimp only
    omega
  try simp only [sk] at hc3
  have htold : toldZ c now (ls.getD i.toNat dL) = false := by rw [toldZ]; simp_all; grind
  refine W.go ?_
  refine nextA (_, out, _, _, _) ?_ ?_
  ·try dsimp only
   refine ⟨by omega, by omega, hok, by omega, ?_⟩
   rw [take_at' dL h0 hc2, List.filter_append, List.flatMap_append, hout, List.filter_cons_of_neg (by rw [htold]; decide)]; simp
  ·try dsimp only
   omega
 try simp only [sk] at hc2
 refine W.go ?_
 refine ⟨_, rowL o 58 (flat encR out sp), (RVs.tmp rfl (RVs.tmp rfl RVs.nil)), (by repeat (first | exact List.Sublist.refl _ | exact hSub _ | exact List.sublist_append_left _ _ | exact List.nil_sublist _ | refine List.Sublist.append (List.Sublist.refl _) ?_ | apply List.Sublist.cons_cons | apply List.Sublist.cons | exact List.sublist_append_left _ _ | refine List.Sublist.trans ?_ (List.sublist_append_right _ _))), ?_⟩
 have hyes : zAsk c ls now n = true := by rw [zAsk]; simp_all
 rw [List.take_of_length_le (by omega)] at hout
 rw [ZRes, zRec, if_pos hyes, zRecs, ← hout]; exact ⟨o, ca, sp, rfl, hok, rfl⟩
theorem zRec_0 {c : Cf} {ls : List Lz} {now n : Int} : (zRec c ls now n).2 = 0 ↔ zAsk c ls now n = true := by
 unfold zRec; split <;> simp_all
theorem zRec_1 {c : Cf} {ls : List Lz} {now n : Int} (h : zAsk c ls now n = true) : (zRec c ls now n).1 = zRecs c ls now n := by
 unfold zRec; rw [if_pos h]
end Go.Proofs.YtfmdaijkgjkmpaaGreatDoor
