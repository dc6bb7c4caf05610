/- What ident.Dhcid and package zone come to. Conditions: the configuration's and the leases' rows and texts are not longer than a million; the library's table of powers of ten is as its text lays it. -/
import Derived.Test.YtagiajnpnjakhaaDoorZnC
import Derived.Test.YtagiajnpnjakhaaDoorIto
import Derived.Test.YtagiajnpnjakhaaDoorLaw0R
import Derived.Laws.BitsAllLaws
set_option linter.unusedVariables false
set_option linter.unusedSimpArgs false
namespace Go.Proofs.YtagiajnpnjakhaaDoor
open Go Go.RowKit
theorem fnv_snoc (s : List UInt8) (b : UInt8) : fnv (s ++ [b]) = ((fnv s ^^^ b.toNat) * 16777619) % 4294967296 := by
  rw [fnv, fnv, List.foldl_append, List.foldl_cons, List.foldl_nil]
theorem fnv_lt (s : List UInt8) : fnv s < 4294967296 := by
  have h : ∀ (l : List UInt8) (a : Nat), a < 4294967296 → l.foldl (fun h b => ((h ^^^ b.toNat) * 16777619) % 4294967296) a < 4294967296 := by
    intro l
    induction l with
    | nil => intro a ha; exact ha
    | cons b l ih => intro a _; exact ih _ (Nat.mod_lt _ (by omega))
  exact h s _ (by omega)
theorem fnv_step {s : List UInt8} {i : Int} (h0 : 0 ≤ i) (h1 : i < s.length) : IntKind.u32.wrap (bits .xor .u32 ((fnv (s.take i.toNat) : Nat) : Int) (IntKind.u32.wrap ((s.getD i.toNat 0).toNat : Int)) * 16777619) = ((fnv (s.take (i + 1).toNat) : Nat) : Int) := by
  have hb := (s.getD i.toNat 0).toNat_lt
  rw [show IntKind.u32.wrap ((s.getD i.toNat 0).toNat : Int) = ((s.getD i.toNat 0).toNat : Int) from wrap32_in (by omega) (by omega), u32_xor_nat _ _ (fnv_lt _) (by omega), take_at' 0 h0 h1, fnv_snoc]
  have : IntKind.u32.wrap (((fnv (s.take i.toNat) ^^^ (s.getD i.toNat 0).toNat : Nat) : Int) * 16777619) = (((fnv (s.take i.toNat) ^^^ (s.getD i.toNat 0).toNat : Nat) : Int) * 16777619) % 4294967296 := rfl
  rw [this]; omega
set_option maxRecDepth 100000 in
theorem id_sum (s : List UInt8) (w : World) (h : s.length ≤ 140737488355328) : Fn Tryd.prog 103 [.string (S s)] w [] fun v L' => v = .int .u32 (fnv s : Nat) ∧ L' = [] := by
  refine Fn.enter Tryd.func103 rfl rfl rfl rfl (Holds.nil w) ?_
  refine CW.seq ?_
  refine CW.region ?_
  refine W.p O.as ?_
  refine WL.nil (Q.tn ?_)
  refine CW.seq ?_
  refine CW.region ?_
  refine W.p O.as ?_
  refine WL.nil (Q.tn ?_)
  refine CW.seq ?_
  refine CW.seq ?_
  refine CW.region ?_
  refine W.p O.mv ?_
  refine W.p O.len ?_
  refine W.p O.mv ?_
  refine WL.nil (Q.tn ?_)
  refine CW.block ?_
  refine CW.loopA (X := Int × Int) (fun ⟨i, x⟩ => [(0, true, .string (S s)), (3, true, .int .u32 x), (6, true, .int .i64 s.length), (7, true, .int .i64 i)]) (fun ⟨i, x⟩ => []) (fun ⟨i, x⟩ => 0 ≤ i ∧ i ≤ s.length ∧ x = ((fnv (s.take i.toNat) : Nat) : Int)) (fun ⟨i, x⟩ => (s.length - i).toNat) (0, 2166136261) ?_ ?_
  · exact ⟨by omega, by omega, rfl⟩
  rintro ⟨i, x⟩ hI
  try dsimp only at hI ⊢
  obtain ⟨h0, h1, hx⟩ := hI
  refine CW.seq ?_
  refine CW.region ?_
  refine W.p O.lss ?_
  refine WL.nil (Q.tn ?_)
  refine CW.seq ?_
  refine CW.cond (vt rfl) (fun hc1 => ?_) (fun hc1 => ?_)
  · try simp only [sk] at hc1
    refine CW.skip (Q.tn ?_)
    refine CW.seq ?_
    refine CW.block ?_
    refine CW.seq ?_
    refine CW.region ?_
    refine W.p O.mv ?_
    refine W.p O.as ?_
    refine WL.nil (Q.tn ?_)
    refine CW.region ?_
    refine W.p O.mv ?_
    refine W.p O.mv ?_
    refine W.p O.mv ?_
    first | refine W.p O.idxS ?_ | refine W.p (O.idxS (h := fun hg => by simp only [cond_true, cond_false, Bool.true_and, Bool.cond_false_right, Bool.cond_true_left, Bool.and_eq_true, Bool.or_eq_true, Bool.or_eq_false_iff, Bool.and_eq_false_iff, Bool.not_eq_true', Bool.not_eq_false', decide_eq_true_eq, decide_eq_false_iff_not, Int.reduceToNat] at *; omega)) ?_
    refine W.p O.cv ?_
    refine W.p O.xor ?_
    refine W.p O.mul ?_
    refine W.p O.as ?_
    refine WL.nil (Q.bn (Q.tn ?_))
    refine CW.region ?_
    first | refine W.p O.addN ?_ | refine W.p O.add ?_
    refine W.p O.mv ?_
    refine WL.nil (Q.tn ?_)
    refine nextA (_, _) ?_ ?_
    · try dsimp only
      refine ⟨by omega, by omega, ?_⟩
      rw [hx]; exact fnv_step h0 hc1
    · try dsimp only
      omega
  try simp only [sk] at hc1
  refine CW.exit (Q.te (Q.te (Q.bx (Q.tn ?_))))
  refine CW.seq ?_
  refine CW.region ?_
  refine W.p O.mv ?_
  refine W.p O.as ?_
  refine WL.nil (Q.tn ?_)
  refine CW.ret ?_
  refine ⟨_, [], (RVs.tmp rfl RVs.nil), List.nil_sublist _, ?_⟩
  refine ⟨?_, rfl⟩
  rw [hx, List.take_of_length_le (by omega)]; rfl
theorem dhcid_no {cl nm : List UInt8} (h : clMay cl = false ∨ nmMay nm = false) : dhcid cl nm = [] := by
  unfold dhcid; rw [if_neg]; rintro ⟨a, b⟩; rcases h with h | h; (rw [h] at a; cases a); (rw [h] at b; cases b)
set_option maxRecDepth 100000 in
theorem id_Dhcid (cl nm : List UInt8) (w : World) (h1 : cl.length ≤ 4398046511104) (h2 : nm.length ≤ 4398046511104) : Fn Tryd.prog 82 [.string (S cl), .string (S nm)] w [] fun v L' => v = .tuple #[.string (S (dhcid cl nm)), .int .i64 (if clMay cl = true ∧ nmMay nm = true then 0 else 900)] ∧ L' = [] := by
  have hw32 : IntKind.i64.wrap ((fnv (cl ++ [0] ++ nm) : Nat) : Int) = ((fnv (cl ++ [0] ++ nm) : Nat) : Int) := wrap_in _ (by have := fnv_lt (cl ++ [0] ++ nm); omega)
  refine Fn.enter Tryd.func82 rfl rfl rfl rfl (Holds.nil w) ?_
  refine CW.seq ?_
  refine CW.region ?_
  refine W.p O.as ?_
  refine W.p O.as ?_
  refine WL.nil (Q.tn ?_)
  refine CW.seq ?_
  refine CW.seq ?_
  refine CW.region ?_
  refine W.p O.mv ?_
  refine W.q (O.call ⟨rfl, rfl⟩ (AV.cons (vt rfl) (AV.nil)) (fun _ w hw => id_May _ w (by omega))) ?_
  refine W.p O.nt ?_
  refine W.p O.mv ?_
  refine W.p O.mv ?_
  refine W.q (O.call ⟨rfl, rfl⟩ (AV.cons (vs rfl) (AV.nil)) (fun _ w hw => nm_May _ w (by omega))) ?_
  refine W.p O.nt ?_
  refine W.p O.pkB ?_
  refine WL.nil (Q.tn ?_)
  refine CW.cond (vt rfl) (fun hc1 => ?_) (fun hc1 => ?_)
  · try simp only [sk] at hc1
    refine CW.seq ?_
    refine CW.region ?_
    refine W.p O.as ?_
    refine W.p O.as ?_
    refine WL.nil (Q.tn ?_)
    refine CW.ret (Q.tr ?_)
    refine ⟨_, [], (RVs.tmp rfl (RVs.tmp rfl RVs.nil)), List.nil_sublist _, ?_⟩
    refine ⟨?_, rfl⟩
    rw [dhcid_no hc1, if_neg (by rintro ⟨a, b⟩; rcases hc1 with h | h; (rw [h] at a; cases a); (rw [h] at b; cases b))]; rfl
  try simp only [sk] at hc1
  refine CW.skip (Q.tn ?_)
  refine CW.seq ?_
  refine CW.region ?_
  refine W.p O.mv ?_
  refine W.p O.addS ?_
  refine W.p O.mv ?_
  refine W.p O.addS ?_
  refine W.q (O.call ⟨rfl, rfl⟩ (AV.cons (vt rfl) (AV.nil)) (fun _ w hw => id_sum _ w (by simp only [List.length_append, List.length_cons, List.length_nil]; omega))) ?_
  refine W.p O.cv ?_
  refine W.q (O.call ⟨rfl, rfl⟩ (AV.cons (vt rfl) (AV.cons (vt rfl) (AV.nil))) (fun _ w hw => be_Bytes _ 4 w (by decide))) ?_
  refine W.p O.addS ?_
  refine W.p O.as ?_
  refine W.p O.as ?_
  refine WL.nil (Q.tn ?_)
  refine CW.ret ?_
  refine ⟨_, [], (RVs.tmp rfl (RVs.tmp rfl RVs.nil)), List.nil_sublist _, ?_⟩
  refine ⟨?_, rfl⟩
  rw [hw32, if_pos hc1, dhcid, if_pos hc1]; simp [oneOr]
theorem cf_Addr (h : Int) (w : World) (h0 : 1 ≤ h) (h1 : h ≤ 254) : Fn Tryd.prog 81 [.int .i64 h] w [] fun v L' => v = .tuple #[.int .i64 (167772160 + h), .int .i64 0] ∧ L' = [] := by
  have := cf_Address h w
  rwa [if_pos ⟨h0, h1⟩, if_pos ⟨h0, h1⟩] at this
theorem it_dec (x : Int) (w : World) (h0 : 0 ≤ x) (h1 : x < 1000) (ht : Tab10 w) : Fn Tryd.prog 83 [.int .i64 x] w [] fun v L' => v = .string (S (decD x)) ∧ L' = [] := by
  rw [decD_itoa h0 h1]; exact it_Itoa x w (by omega) (by omega) ht
theorem lz_host {l : Lz} (h : lzMay l = true) : 2 ≤ l.host ∧ l.host ≤ 254 ∧ l.client.length ≤ 16 ∧ l.name.length ≤ 72 := by
  simp only [lzMay, inZ, Bool.and_eq_true, decide_eq_true_eq] at h
  obtain ⟨⟨⟨⟨⟨a, b⟩, _⟩, c⟩, _⟩, d⟩ := h
  exact ⟨a, b, c, nmMay_len d⟩
set_option maxRecDepth 100000 in
theorem zn_lent {q p : Addr} (c : Cf) (e r s : Sl2) (l : Lz) (w : World) (hc : In w (some q) (encCf c e r s)) (hl : In w (some p) (encL l)) (h : CfIn w c e r s) (hz : CfSz c) (hm : lzMay l = true) (ht : Tab10 w) : Fn Tryd.prog 48 [.pointer (some q), .pointer (some p)] w [] (Fresh encR 51 7 (lentR c l)) := by
  obtain ⟨hh0, hh1, hcl, hnl⟩ := lz_host hm
  have hdl := decD_len l.host
  have ca : ∀ {L : Heap}, Cells w [] L q 7 (encCf c e r s) := fun {L} => cellsO hc rfl (by decide)
  have c0 : ∀ {L : Heap}, Cell w [] L (p.add 0) (.int .i64 l.host) := fun {L} => cellQ hl rfl
  have c2 : ∀ {L : Heap}, Cell w [] L (p.add 2) (.string (S l.client)) := fun {L} => cellQ hl rfl
  have c4 : ∀ {L : Heap}, Cell w [] L (p.add 4) (.string (S l.name)) := fun {L} => cellQ hl rfl
  refine Fn.enter Tryd.func48 rfl rfl rfl rfl (Holds.nil w) ?_
  refine CW.seq ?_
  refine CW.region ?_
  refine W.p O.as ?_
  refine WL.nil (Q.tn ?_)
  refine CW.seq ?_
  refine CW.draw 9 rfl (by kernel_rfl) ?_
  refine WQ.p O.mv ?_
  refine WQ.p O.nc ?_
  first | refine WQ.p O.lds ?_ | refine WQ.p O.ldsC ?_
  refine WQ.p O.mv ?_
  refine WQ.p O.nc ?_
  first | refine WQ.p O.fb ?_ | refine WQ.p O.fa ?_
  first | refine WQ.p O.ld ?_ | refine WQ.p O.ldC ?_
  refine WQ.q (O.call ⟨rfl, rfl⟩ (AV.cons (vt rfl) (AV.cons (vt rfl) (AV.nil))) (fun _ w hw => rg_Full c e r s l.name w (h.upd hw) hz (by omega))) ?_
  refine WQ.p O.as ?_
  refine WQ.nil ?_
  refine WL.nil (Q.tn ?_)
  refine CW.seq ?_
  refine CW.region ?_
  refine W.p O.mv ?_
  refine W.p O.nc ?_
  first | refine W.p O.fb ?_ | refine W.p O.fa ?_
  first | refine W.p O.ld ?_ | refine W.p O.ldC ?_
  refine W.q (O.call ⟨rfl, rfl⟩ (AV.cons (vt rfl) (AV.nil)) (fun _ w hw => cf_Addr l.host w (by omega) (by omega))) ?_
  refine W.p O.mv ?_
  first | refine W.p O.extL ?_ | refine W.p O.ext ?_
  first | refine W.p O.extL ?_ | refine W.p O.ext ?_
  refine W.p O.as ?_
  refine W.p O.as ?_
  refine WL.nil (Q.tn ?_)
  refine CW.seq ?_
  refine CW.region ?_
  refine W.p O.mv ?_
  refine W.p O.nc ?_
  first | refine W.p O.fb ?_ | refine W.p O.fa ?_
  first | refine W.p O.ld ?_ | refine W.p O.ldC ?_
  refine W.p O.mv ?_
  refine W.q (O.call ⟨rfl, rfl⟩ (AV.cons (vt rfl) (AV.cons (vt rfl) (AV.nil))) (fun _ w hw => id_Dhcid l.client (full c l.name) w (by omega) (by have := nmMay_len (full_may (c := c) (h := l.name)); omega))) ?_
  refine W.p O.mv ?_
  first | refine W.p O.extL ?_ | refine W.p O.ext ?_
  first | refine W.p O.extL ?_ | refine W.p O.ext ?_
  refine W.p O.as ?_
  refine W.p O.as ?_
  refine WL.nil (Q.tn ?_)
  refine CW.seq ?_
  refine CW.region ?_
  refine W.p O.mv ?_
  refine W.p O.mv ?_
  refine W.p (O.bd (hv := PV.cons (vt rfl) (PV.cons (vt rfl) (PV.cons (vt rfl) (PV.cons (vt rfl) (PV.nil)))))) ?_
  refine W.p O.mv ?_
  refine W.p O.mv ?_
  refine W.p (O.bd (hv := PV.cons (vt rfl) (PV.cons (vt rfl) (PV.cons (vt rfl) (PV.cons (vt rfl) (PV.nil)))))) ?_
  refine W.p O.mv ?_
  refine W.p O.nc ?_
  first | refine W.p O.fb ?_ | refine W.p O.fa ?_
  first | refine W.p O.ld ?_ | refine W.p O.ldC ?_
  refine W.q (O.call ⟨rfl, rfl⟩ (AV.cons (vt rfl) (AV.nil)) (fun _ w hw => it_dec l.host w (by omega) (by omega) (ht.upd hw))) ?_
  refine W.p O.addS ?_
  refine W.p O.mv ?_
  refine W.p (O.bd (hv := PV.cons (vt rfl) (PV.cons (vt rfl) (PV.cons (vt rfl) (PV.cons (vt rfl) (PV.nil)))))) ?_
  refine W.bs encR (lentR c l) rfl (PV.cons (vt rfl) (PV.cons (vt rfl) (PV.cons (vt rfl) (PV.nil)))) rfl rfl rfl (by decide) rfl fun b1 => ?_
  refine W.p O.as ?_
  refine WL.nil (Q.tn ?_)
  refine CW.ret ?_
  refine ⟨_, rowL (some b1) 51 (flat encR (lentR c l) []), (RVs.tmp rfl RVs.nil), (by repeat (first | exact List.Sublist.refl _ | exact hSub _ | exact List.sublist_append_left _ _ | exact List.nil_sublist _ | refine List.Sublist.append (List.Sublist.refl _) ?_ | apply List.Sublist.cons_cons | apply List.Sublist.cons | exact List.sublist_append_left _ _ | refine List.Sublist.trans ?_ (List.sublist_append_right _ _))), ?_⟩
  exact ⟨some b1, 3, [], rfl, ⟨by simp, by simp [lentR], by simp [lentR], by decide⟩, rfl⟩
end Go.Proofs.YtagiajnpnjakhaaDoor
