/- Several texts in one (ZrA). Their conditions are their own. -/
import Derived.Test.YtfmdaijkgjkmpaaGreatDoorZnD
import Derived.Test.YtfmdaijkgjkmpaaGreatDoorRrRef
set_option linter.unusedVariables false
set_option linter.unusedSimpArgs false
namespace Go.Proofs.YtfmdaijkgjkmpaaGreatDoor
open Go Go.RowKit
/-- digits so far -/
def DecI (n u : Nat) (out : List UInt8) : Prop := (out = [] ∧ u = n) ∨ (out ≠ [] ∧ Lib.decDigits n = (if u = 0 then [] else Lib.decDigits u) ++ out)
theorem DecI.new (n : Nat) : DecI n n [] := .inl ⟨rfl, rfl⟩
theorem DecI.step {n u : Nat} {out : List UInt8} (h : DecI n u out) (hg : 0 < u ∨ out = []) : DecI n (u / 10) (UInt8.ofNat (48 + u % 10) :: out) := by
 have e : Lib.decDigits u = (if u / 10 = 0 then [] else Lib.decDigits (u / 10)) ++ [UInt8.ofNat (48 + u % 10)] := by
  conv => lhs; rw [Lib.decDigits]
  by_cases hu : u < 10
  ·rw [dif_pos hu, if_pos (by omega), Nat.mod_eq_of_lt hu]; rfl
  ·rw [dif_neg hu, if_neg (by omega)]
 refine .inr ⟨by simp, ?_⟩
 rcases h with ⟨rfl, rfl⟩ | ⟨h1, h2⟩
 ·exact e
 ·have hu : 0 < u := hg.resolve_right h1
  rw [h2, if_neg (by omega), e, List.append_assoc]; rfl
theorem DecI.end {n u : Nat} {out : List UInt8} (h : DecI n u out) (hu : u = 0) (ho : out ≠ []) : out = Lib.decDigits n := by
 rcases h with ⟨h1, _⟩ | ⟨_, h2⟩
 ·exact absurd h1 ho
 ·rw [h2, if_pos hu]; rfl
theorem DecI.len {n u : Nat} {out : List UInt8} (h : DecI n u out) : out.length ≤ (Lib.decDigits n).length := by
 rcases h with ⟨h1, _⟩ | ⟨_, h2⟩
 ·rw [h1]; exact Nat.zero_le _
 ·rw [h2, List.length_append]; omega
theorem dig_len20 : ∀ (k n : Nat), n < 10 ^ (k + 1) → (Lib.decDigits n).length ≤ k + 1
 | 0, n, h => by rw [Lib.decDigits, dif_pos (by simpa using h)]; simp
 | k + 1, n, h => by
  rw [Lib.decDigits]
  split
  ·simp
  ·have := dig_len20 k (n / 10) (by rw [Nat.pow_succ] at h; omega); rw [List.length_append]; simp; omega
set_option maxRecDepth 100000 in
theorem ref_Labels (s : List UInt8) (w : World) (hn : s.length ≤ 4398046511104) : Fn Tryz.prog 80 [.string (S s)] w [] (Fresh encS 9 1 (lbls s)) := by
 refine Fn.enter Tryz.func80 rfl rfl rfl rfl (Holds.nil w) ?_
 refine W.go ?_
 refine W.q (O.call ⟨rfl, rfl⟩ (AV.cons (vs rfl) (AV.nil)) (fun _ w hw => ref_NameMay _ w (by omega))) ?_
 refine W.go ?_
 refine CW.cond (vt rfl) (fun hc1 => ?_) (fun hc1 => ?_)
 ·try simp only [sk] at hc1
  refine W.go ?_
  refine ⟨_, [], (RVs.tmp rfl RVs.nil), List.nil_sublist _, ?_⟩
  rw [lbls_no hc1]; exact ⟨none, 0, [], rfl, OwnOk.nil, rfl⟩
 try simp only [sk] at hc1
 refine W.go ?_
 refine W.callN (first := []) (cap := []) rfl (vt rfl) (AV.cons (vt rfl) (AV.nil)) (fun w hu => ref_parts _ w (by omega)) ?_; rintro _ _ ⟨o9, c9, sp9, rfl, ok9, rfl⟩; have nk9 := ok9.nk
 refine W.go ?_
 refine ⟨_, rowL o9 9 (flat encS (split s) sp9), (RVs.tmp rfl RVs.nil), (by repeat (first | exact List.Sublist.refl _ | exact hSub _ | exact List.sublist_append_left _ _ | exact List.nil_sublist _ | refine List.Sublist.append (List.Sublist.refl _) ?_ | apply List.Sublist.cons_cons | apply List.Sublist.cons | exact List.sublist_append_left _ _ | refine List.Sublist.trans ?_ (List.sublist_append_right _ _))), ?_⟩
 rw [lbls_is hc1, spl_dot]; exact ⟨o9, c9, sp9, rfl, ok9, rfl⟩
set_option maxRecDepth 100000 in
theorem ref_Under (s z : List UInt8) (w : World) (h1 : s.length ≤ 4398046511104) (h2 : z.length ≤ 4398046511104) : Fn Tryz.prog 27 [.string (S s), .string (S z)] w [] fun v L' => v = .bool (under s z) ∧ L' = [] := by
 refine Fn.enter Tryz.func27 rfl rfl rfl rfl (Holds.nil w) ?_
 refine W.go ?_
 refine W.q (O.call ⟨rfl, rfl⟩ (AV.cons (vt rfl) (AV.nil)) (fun _ w hw => ref_NameMay _ w (by omega))) ?_
 refine W.go ?_
 refine W.q (O.call ⟨rfl, rfl⟩ (AV.cons (vs rfl) (AV.nil)) (fun _ w hw => ref_NameMay _ w (by omega))) ?_
 refine W.go ?_
 refine CW.cond (vt rfl) (fun hc1 => ?_) (fun hc1 => ?_)
 ·try simp only [sk] at hc1
  refine W.go ?_
  refine ⟨_, [], (RVs.tmp rfl RVs.nil), List.nil_sublist _, ?_⟩
  refine ⟨congrArg Value.bool ?_, rfl⟩
  rw [under]; rcases hc1 with h | h <;> rw [h] <;> simp
 try simp only [sk] at hc1
 refine W.go ?_
 refine W.p O.slcL ?_
 refine W.go ?_
 first | refine W.p O.idxS ?_ | refine W.p (O.idxS (h := fun hg => by simp only [cond_true, cond_false, Bool.true_and, Bool.cond_false_right, Bool.cond_true_left, Bool.and_eq_true, Bool.or_eq_true, Bool.or_eq_false_iff, Bool.and_eq_false_iff, Bool.not_eq_true', Bool.not_eq_false', decide_eq_true_eq, decide_eq_false_iff_not, Int.reduceToNat] at *; omega)) ?_
 refine W.go ?_
 refine ⟨_, [], (RVs.tmp rfl RVs.nil), List.nil_sublist _, ?_⟩
 refine ⟨congrArg Value.bool ?_, rfl⟩
 rw [under, hc1.1, hc1.2, ends_ref hc1.1, show decide (((s.getD ((s.length : Int) - z.length - 1).toNat 0).toNat : Int) = 46) = decide (s.getD ((s.length : Int) - z.length - 1).toNat 0 = 46) from decide_eq_decide.2 byte_46]
 simp only [Bool.cond_true_left, Bool.cond_false_right, Bool.true_and, Bool.or_assoc, Bool.and_assoc]
set_option maxRecDepth 100000 in
theorem ref_client (s : List UInt8) (w : World) (h : s.length ≤ 140737488355328) : Fn Tryz.prog 81 [.string (S s)] w [] fun v L' => v = .bool (clMay s) ∧ L' = [] := by
 refine Fn.enter Tryz.func81 rfl rfl rfl rfl (Holds.nil w) ?_
 refine W.go ?_
 refine ⟨_, [], (RVs.tmp rfl RVs.nil), List.nil_sublist _, ?_⟩
 refine ⟨congrArg Value.bool ?_, rfl⟩
 rw [Bool.eq_iff_iff]
 simp [clMay, *]
 try omega
set_option maxRecDepth 100000 in
theorem ref_static (r : RR) (z : List UInt8) (w : World) (h1 : r.name.length ≤ 4194304) (h2 : r.target.length ≤ 4194304) (h3 : z.length ≤ 4194304) : Fn Tryz.prog 82 [vR r, .string (S z)] w [] fun v L' => v = .bool (stMay z r) ∧ L' = [] := by
 refine Fn.enter Tryz.func82 rfl rfl rfl rfl (Holds.nil w) ?_
 refine W.go ?_
 refine W.bx rfl (vt rfl) rfl fun b1 => ?_
 refine W.go ?_
 refine W.q (O.call ⟨rfl, rfl⟩ (AV.cons (vt rfl) (AV.nil)) (fun _ w hw => ref_RrMay r w (by omega) (by omega))) ?_
 refine W.go ?_
 refine W.q (O.call ⟨rfl, rfl⟩ (AV.cons (vs rfl) (AV.cons (vs rfl) (AV.nil))) (fun _ w hw => ref_Under _ _ w (by omega) (by omega))) ?_
 refine W.go ?_
 refine ⟨_, [], (RVs.tmp rfl RVs.nil), List.nil_sublist _, ?_⟩
 refine ⟨congrArg Value.bool ?_, rfl⟩
 rw [stMay]
 cases rrMay r <;> cases decide (r.type = 1) <;> cases decide (r.type = 5) <;> cases decide (r.type = 16) <;> cases decide (r.name = z) <;> cases under r.name z <;> rfl
set_option maxRecDepth 100000 in
theorem ref_Dhcid (cl nm : List UInt8) (w : World) (h1 : cl.length ≤ 4398046511104) (h2 : nm.length ≤ 4398046511104) : Fn Tryz.prog 53 [.string (S cl), .string (S nm)] w [] fun v L' => v = .tuple #[.string (S (dhcid cl nm)), .int .i64 (if clMay cl = true ∧ nmMay nm = true then 0 else 900)] ∧ L' = [] := by
 have hsl : (cl ++ [0] ++ nm).length ≤ 8796093022209 := by simp only [List.length_append, List.length_cons, List.length_nil]; omega
 refine Fn.enter Tryz.func53 rfl rfl rfl rfl (Holds.nil w) ?_
 refine W.go ?_
 refine W.q (O.call ⟨rfl, rfl⟩ (AV.cons (vs rfl) (AV.nil)) (fun _ w hw => ref_NameMay _ w (by omega))) ?_
 refine W.go ?_
 refine CW.cond (vt rfl) (fun hc1 => ?_) (fun hc1 => ?_)
 ·try simp only [sk] at hc1
  refine W.go ?_
  refine ⟨_, [], (RVs.tmp rfl (RVs.tmp rfl RVs.nil)), List.nil_sublist _, ?_⟩
  have hq : ¬(clMay cl = true ∧ nmMay nm = true) := by rw [clMay]; simp only [Bool.and_eq_true, decide_eq_true_eq]; rintro ⟨a, b⟩; rcases hc1 with (h | h) | h; (omega); (omega); (rw [h] at b; cases b)
  rw [dhcid, if_neg hq, if_neg hq]; exact ⟨rfl, rfl⟩
 try simp only [sk] at hc1
 refine W.go ?_
 refine CW.loopA (X := Int × Int) (fun ⟨i, x⟩ => [(6, true, .int .u32 x), (7, true, .string (S (cl ++ [0] ++ nm))), (8, true, .int .i64 i)]) (fun ⟨i, x⟩ => []) (fun ⟨i, x⟩ => 0 ≤ i ∧ i ≤ (cl ++ [0] ++ nm).length ∧ x = ((fnv ((cl ++ [0] ++ nm).take i.toNat) : Nat) : Int)) (fun ⟨i, x⟩ => ((cl ++ [0] ++ nm).length - i).toNat) (0, 2166136261) ?_ ?_
 ·exact ⟨by omega, by omega, rfl⟩
 rintro ⟨i, x⟩ hI
 try dsimp only at hI ⊢
 obtain ⟨h0, h1, hx⟩ := hI
 refine W.go ?_
 refine CW.cond (vt rfl) (fun hc2 => ?_) (fun hc2 => ?_)
 ·try simp only [sk] at hc2
  refine W.go ?_
  first | refine W.p O.idxS ?_ | refine W.p (O.idxS (h := fun hg => by simp only [cond_true, cond_false, Bool.true_and, Bool.cond_false_right, Bool.cond_true_left, Bool.and_eq_true, Bool.or_eq_true, Bool.or_eq_false_iff, Bool.and_eq_false_iff, Bool.not_eq_true', Bool.not_eq_false', decide_eq_true_eq, decide_eq_false_iff_not, Int.reduceToNat] at *; omega)) ?_
  refine W.p O.cv ?_
  refine W.p O.xor ?_
  refine W.p O.mul ?_
  refine W.go ?_
  refine nextA (_, _) ?_ ?_
  ·try dsimp only
   refine ⟨by omega, by omega, ?_⟩
   rw [hx]; exact fnv_step h0 hc2
  ·try dsimp only
   omega
 try simp only [sk] at hc2
 refine W.go ?_
 refine W.p O.cv ?_
 refine W.q (O.call ⟨rfl, rfl⟩ (AV.cons (vt rfl) (AV.cons (vt rfl) (AV.nil))) (fun _ w hw => ref_Num _ 4 w (by decide) (by decide))) ?_
 refine W.go ?_
 refine ⟨_, [], (RVs.tmp rfl (RVs.tmp rfl RVs.nil)), List.nil_sublist _, ?_⟩
 have hq : clMay cl = true ∧ nmMay nm = true := ⟨by rw [clMay]; simp only [Bool.and_eq_true, decide_eq_true_eq]; omega, hc1.2⟩
 have hf := fnv_lt (cl ++ [0] ++ nm)
 rw [hx, List.take_of_length_le (by omega), wrap_in _ (by omega), dhcid, if_pos hq, if_pos hq, show cl ++ [0] ++ nm = cl ++ 0 :: nm by simp]; exact ⟨rfl, rfl⟩
set_option maxRecDepth 100000 in
theorem ref_Addr (h : Int) (w : World) (h0 : 1 ≤ h) (h1 : h ≤ 254) : Fn Tryz.prog 52 [.int .i64 h] w [] fun v L' => v = .tuple #[.int .i64 (167772160 + h), .int .i64 0] ∧ L' = [] := by
 refine Fn.enter Tryz.func52 rfl rfl rfl rfl (Holds.nil w) ?_
 refine W.go ?_
 refine CW.cond (vt rfl) (fun hc1 => ?_) (fun hc1 => ?_)
 ·simp at hc1; omega
 try simp only [sk] at hc1
 refine W.go ?_
 refine ⟨_, [], (RVs.tmp rfl (RVs.tmp rfl RVs.nil)), List.nil_sublist _, ?_⟩
 exact ⟨rfl, rfl⟩
set_option maxRecDepth 100000 in
theorem ref_Decimal (x : Int) (w : World) (h0 : 0 ≤ x) (h1 : x ≤ 4611686018427387904) : Fn Tryz.prog 85 [.int .i64 x] w [] fun v L' => v = .string (S (Lib.itoa x)) ∧ L' = [] := by
 obtain ⟨n, rfl⟩ := Int.eq_ofNat_of_zero_le h0
 have h20 := dig_len20 18 n (by omega)
 refine Fn.enter Tryz.func85 rfl rfl rfl rfl (Holds.nil w) ?_
 refine W.go ?_
 refine W.p O.cvUn ?_
 refine W.go ?_
 refine CW.cond (vt rfl) (fun hc1 => ?_) (fun hc1 => ?_)
 ·exact absurd (of_decide_eq_true hc1) (by omega)
 try simp only [sk] at hc1
 refine W.go ?_
 refine CW.loopA (X := Int × (List UInt8) × (Option Nat) × Nat × (List Value)) (fun ⟨u, out, o, ca, sp⟩ => [(0, true, .int .i64 (n : Int)), (3, true, .int .u64 u), (4, true, .slice (oa o) out.length ca)]) (fun ⟨u, out, o, ca, sp⟩ => rowL o 5 (flat encB out sp)) (fun ⟨u, out, o, ca, sp⟩ => 0 ≤ u ∧ u ≤ 4611686018427387904 ∧ OwnOk o ca 1 out.length sp.length ∧ DecI n u.toNat out) (fun ⟨u, out, o, ca, sp⟩ => (if out = [] then u.toNat + 1 else u.toNat)) ((n : Int) % 18446744073709551616, [], none, 0, []) ?_ ?_
 ·exact ⟨by omega, by omega, OwnOk.nil, by rw [show ((n : Int) % 18446744073709551616).toNat = n by omega]; exact DecI.new n⟩
 rintro ⟨u, out, o, ca, sp⟩ hI
 try dsimp only at hI ⊢
 obtain ⟨hu0, hu1, hok, hd⟩ := hI
 have nk := hok.nk
 have hol := hd.len
 have hw1 : IntKind.u64.wrap (u / 10) = u / 10 := by rw [wrap_u64]; omega
 have hw2 : byteOf (IntKind.u64.wrap (48 + u % 10)) = UInt8.ofNat (48 + u.toNat % 10) := by rw [wrap_u64, show (48 + u % 10) % 18446744073709551616 = ((48 + u.toNat % 10 : Nat) : Int) by omega]; exact byteOf_nat _
 refine W.go ?_
 refine CW.cond (vt rfl) (fun hc2 => ?_) (fun hc2 => ?_)
 ·try simp only [sk] at hc2
  refine W.go ?_
  refine W.p O.rem ?_
  refine W.go ?_
  refine W.p O.cvI8 ?_
  refine W.bs encB [_] rfl (PV.cons (vt rfl) (PV.nil)) rfl rfl rfl (by decide) rfl fun b1 => ?_
  refine W.go ?_
  refine W.ap (o := some _) rfl (vt rfl) (vt rfl) (by first | rfl | omega) (by first | rfl | omega) rfl (by first | assumption | exact OwnOk.nil | exact OwnOk.lit | exact ⟨by simp, rfl, Nat.le_refl _, by decide⟩) (by first | omega | (simp; omega)) fun o1 c1 sp1 ok1 ne1 gt1 => ?_
  have nk1 := ok1.nk; have le1 := ok1.2.2.1; try simp only [List.length_append, List.length_cons, List.length_nil] at le1
  refine W.go ?_
  refine W.p O.quo ?_
  refine W.go ?_
  refine nextA (IntKind.u64.wrap (u / 10), [byteOf (IntKind.u64.wrap (48 + u % 10))] ++ out, _, _, _) ?_ ?_
  ·try dsimp only
   refine ⟨by rw [hw1]; omega, by rw [hw1]; omega, by assumption, ?_⟩
   rw [hw1, hw2, show (u / 10).toNat = u.toNat / 10 by omega]; exact hd.step (by rcases hc2 with h | h; (left; omega); (right; exact List.eq_nil_of_length_eq_zero (by omega)))
  ·try dsimp only
   rw [hw1, if_neg (by simp)]; split; (omega); (rename_i hne; have : 0 < u := by { rcases hc2 with h | h; exact h; exact absurd (List.eq_nil_of_length_eq_zero (by omega)) hne }; omega)
 try simp only [sk] at hc2
 obtain ⟨b, rfl⟩ : ∃ b, o = some b := by cases o with | some b => exact ⟨b, rfl⟩ | none => exact absurd (nk.h rfl) (fun e => by subst e; simp at hc2)
 refine W.go ?_
 refine CW.cond (vt rfl) (fun hc3 => ?_) (fun hc3 => ?_)
 ·exact absurd (of_decide_eq_true hc3) (by omega)
 try simp only [sk] at hc3
 refine W.go ?_
 refine W.p (O.cvRow ⟨rfl, rfl⟩ (vt rfl) (by first | rfl | omega) (fun _ => ⟨_, rfl⟩)) ?_
 refine W.go ?_
 refine ⟨_, [], (RVs.tmp rfl RVs.nil), List.nil_sublist _, ?_⟩
 rw [hd.end (by omega) (fun e => by subst e; simp at hc2), Lib.itoa, if_neg (by omega), Int.toNat_natCast]; exact ⟨rfl, rfl⟩
set_option maxRecDepth 100000 in
theorem ref_Reverse (h : Int) (w : World) (h0 : 0 ≤ h) (h1 : h ≤ 999) : Fn Tryz.prog 54 [.int .i64 h] w [] fun v L' => v = .string (S (decD h ++ backN)) ∧ L' = [] := by
 have hdl := decD_len h
 rw [decD_itoa h0 (by omega)] at hdl ⊢
 refine Fn.enter Tryz.func54 rfl rfl rfl rfl (Holds.nil w) ?_
 refine W.go ?_
 refine W.q (O.call ⟨rfl, rfl⟩ (AV.cons (vt rfl) (AV.nil)) (fun _ w hw => ref_Decimal h w h0 (by omega))) ?_
 refine W.go ?_
 refine ⟨_, [], (RVs.tmp rfl RVs.nil), List.nil_sublist _, ?_⟩
 exact ⟨rfl, rfl⟩
end Go.Proofs.YtfmdaijkgjkmpaaGreatDoor

set_option linter.unusedVariables false
set_option linter.unusedSimpArgs false
namespace Go.Proofs.YtfmdaijkgjkmpaaGreatDoor
open Go Go.RowKit
def cfPre (c : Cf) : Bool := decide (2 ≤ c.first) && decide (c.last ≤ 254) && decide (c.first ≤ c.last) && decide (c.last - c.first < 8) && decide (c.excl.length ≤ 8) && decide (c.resv.length ≤ 4) && decide (1 ≤ c.time) && decide (c.time ≤ 1048576) && !decide (c.zone = []) && nmMay c.zone
def exOk (c : Cf) : Bool := c.excl.all (fun h => inZ h c.first c.last) && decide c.excl.Nodup
def rvOk (c : Cf) : Bool := c.resv.all (fun r => inZ r.host c.first c.last && clMay r.client) && decide ((c.resv.map Rs.client).Nodup) && decide ((c.resv.map Rs.host).Nodup)
theorem cf_pre (c : Cf) : cfMay c = (cfPre c && decide ((labs c.zone).length ≤ 4) && decide (c.stat.length ≤ 8) && exOk c && rvOk c && c.stat.all (stMay c.zone)) := by
 rw [Bool.eq_iff_iff]
 simp only [cfMay, cfPre, exOk, rvOk, hostsOk, resOk, stOk, inZ, Bool.and_eq_true, decide_eq_true_eq, List.all_eq_true, List.mem_map, forall_exists_index, and_imp, forall_apply_eq_imp_iff₂, List.length_map]
 constructor
 ·rintro ⟨⟨⟨⟨⟨⟨⟨⟨⟨⟨a1, a2⟩, a3⟩, a4⟩, a5⟩, a6⟩, a7⟩, a8, a8'⟩, ⟨a9, a10⟩, a11⟩, ⟨a12, a13⟩, ⟨a14, a15⟩, a16⟩, a17, a18⟩
  exact ⟨⟨⟨⟨⟨⟨⟨⟨⟨⟨⟨⟨⟨⟨a1, a3⟩, a2⟩, a4⟩, a11⟩, a16⟩, a8⟩, a8'⟩, a5⟩, a6⟩, a7⟩, a18⟩, a9, a10⟩, ⟨fun r hr => ⟨a14 r hr, a12 r hr⟩, a13⟩, a15⟩, a17⟩
 ·rintro ⟨⟨⟨⟨⟨⟨⟨⟨⟨⟨⟨⟨⟨⟨a1, a3⟩, a2⟩, a4⟩, a11⟩, a16⟩, a8⟩, a8'⟩, a5⟩, a6⟩, a7⟩, a18⟩, a9, a10⟩, ⟨a12, a13⟩, a15⟩, a17⟩
  exact ⟨⟨⟨⟨⟨⟨⟨⟨⟨⟨a1, a2⟩, a3⟩, a4⟩, a5⟩, a6⟩, a7⟩, a8, a8'⟩, ⟨a9, a10⟩, a11⟩, ⟨fun r hr => (a12 r hr).2, a13⟩, ⟨fun r hr => (a12 r hr).1, a15⟩, a16⟩, a17, a18⟩
theorem pre_eq (c : Cf) : (bif bif bif bif bif bif bif bif bif decide (c.first < 2) then true else decide (254 < c.last) then true else decide (c.last < c.first) then true else decide (8 ≤ IntKind.i64.wrap (c.last - c.first)) then true else decide (8 < (c.excl.length : Int)) then true else decide (4 < (c.resv.length : Int)) then true else decide (c.time < 1) then true else decide (1048576 < c.time) then true else decide (c.zone = []) then true else !nmMay c.zone) = !cfPre c := by
 have e1 : ∀ a b : Int, decide (a < b) = !decide (b ≤ a) := fun a b => by rw [← decide_not]; exact decide_eq_decide.2 (by omega)
 have e2 : decide (8 ≤ c.last - c.first) = !decide (c.last - c.first < 8) := by rw [← decide_not]; exact decide_eq_decide.2 (by omega)
 have e3 : decide (8 < (c.excl.length : Int)) = !decide (c.excl.length ≤ 8) := by rw [← decide_not]; exact decide_eq_decide.2 (by omega)
 have e4 : decide (4 < (c.resv.length : Int)) = !decide (c.resv.length ≤ 4) := by rw [← decide_not]; exact decide_eq_decide.2 (by omega)
 simp only [Bool.cond_true_left, cfPre, Bool.not_and, Bool.not_not]
 by_cases h1 : 2 ≤ c.first
 ·by_cases h2 : c.last ≤ 254
  ·by_cases h3 : c.first ≤ c.last
   ·rw [wrap_in _ (by omega), e2, e3, e4]; simp only [e1, Bool.not_not]
   ·simp [h3, show c.last < c.first by omega]
  ·simp [h2, show 254 < c.last by omega]
 ·simp [h1, show c.first < 2 by omega]
theorem take_in {α : Type} {d : α} {l : List α} {j i : Int} (h0 : 0 ≤ j) (hj : j < i) (hi : i < l.length) : l.getD j.toNat d ∈ l.take i.toNat := by
 have hlt : j.toNat < (l.take i.toNat).length := by rw [List.length_take]; omega
 rw [List.getD_eq_getElem?_getD, List.getElem?_eq_getElem (by omega), Option.getD_some]
 have := List.getElem_mem hlt
 rwa [List.getElem_take] at this
theorem map_get {l : List Rs} {i : Int} (h0 : 0 ≤ i) (h1 : i < l.length) : (l.map Rs.client).getD i.toNat [] = (l.getD i.toNat dRz).client ∧ (l.map Rs.host).getD i.toNat 0 = (l.getD i.toNat dRz).host := by
 constructor <;> rw [List.getD_eq_getElem?_getD, List.getD_eq_getElem?_getD, List.getElem?_map, List.getElem?_eq_getElem (by omega)] <;> rfl
theorem cf_no {c : Cf} (h : decide ((labs c.zone).length ≤ 4) = false ∨ decide (c.stat.length ≤ 8) = false ∨ exOk c = false ∨ rvOk c = false ∨ c.stat.all (stMay c.zone) = false) : cfMay c = false := by
 rw [cf_pre]; rcases h with h | h | h | h | h <;> rw [h] <;> simp
set_option maxRecDepth 100000 in
theorem ref_ConfB (c : Cf) (e r s : Sl2) (w : World) (h : CfIn w c e r s) (hz : CfSz c) (hB : cfPre c = false) : Fn Tryz.prog 48 [vCf c e r s] w [] fun v L' => v = .bool (cfMay c) ∧ L' = [] := by
 refine Fn.enter Tryz.func48 rfl rfl rfl rfl (Holds.nil w) ?_
 refine W.go ?_
 refine W.bx rfl (vt rfl) rfl fun b1 => ?_
 refine W.go ?_
 refine W.q (O.call ⟨rfl, rfl⟩ (AV.cons (vs rfl) (AV.nil)) (fun _ w hw => ref_NameMay _ w (by have := hz.hz; omega))) ?_
 refine W.p O.nt ?_
 refine W.p O.pkB ?_
 refine W.p O.mv ?_
 first | (refine WL.kn (v := true) (by rfl) ?_ ?_; focus (rw [pre_eq, hB]; rfl)) | (refine WL.kn (v := false) (by rfl) ?_ ?_; focus (rw [pre_eq, hB]; rfl))
 first | refine W.p O.fb ?_ | refine W.p O.fa ?_
 refine W.p O.ld ?_
 refine (W.offc (.slice none 0 0) rfl rfl rfl ?_)
 refine W.go ?_
 refine CW.cond (vt rfl) (fun hc1 => ?_) (fun hc1 => ?_)
 ·try simp only [sk] at hc1
  refine W.go ?_
  refine ⟨_, [], (RVs.tmp rfl RVs.nil), List.nil_sublist _, ?_⟩
  rw [cf_pre, hB]; exact ⟨rfl, rfl⟩
 exact absurd hc1 (by simp)
set_option maxRecDepth 100000 in
theorem ref_ConfA (c : Cf) (e r s : Sl2) (w : World) (h : CfIn w c e r s) (hz : CfSz c) (hA : cfPre c = true) : Fn Tryz.prog 48 [vCf c e r s] w [] fun v L' => v = .bool (cfMay c) ∧ L' = [] := by
 have hnz : nmMay c.zone = true := by rw [cfPre] at hA; simp only [Bool.and_eq_true] at hA; exact hA.2
 have rowx := Row.ofE (dv := (0 : Int)) h.hx
 have rowr := Row.ofE (dv := dRz) h.hr
 have rows := Row.ofE (dv := dR) h.hs
 have hzx := hz.hx; have hzr := hz.hr; have hzs := hz.hs
 refine Fn.enter Tryz.func48 rfl rfl rfl rfl (Holds.nil w) ?_
 refine W.go ?_
 refine W.bx rfl (vt rfl) rfl fun b1 => ?_
 refine W.go ?_
 refine W.q (O.call ⟨rfl, rfl⟩ (AV.cons (vs rfl) (AV.nil)) (fun _ w hw => ref_NameMay _ w (by have := hz.hz; omega))) ?_
 refine W.p O.nt ?_
 refine W.p O.pkB ?_
 refine W.p O.mv ?_
 first | (refine WL.kn (v := true) (by rfl) ?_ ?_; focus (rw [pre_eq, hA]; rfl)) | (refine WL.kn (v := false) (by rfl) ?_ ?_; focus (rw [pre_eq, hA]; rfl))
 first | refine W.p O.fb ?_ | refine W.p O.fa ?_
 refine W.p O.ld ?_
 refine W.ug rfl ?_
 refine W.callN (first := []) (cap := []) rfl (vt rfl) (AV.cons (vs rfl) (AV.nil)) (fun w hu => ref_Labels c.zone w (by have := hz.hz; omega)) ?_; rintro _ _ ⟨o9, c9, sp9, rfl, ok9, rfl⟩; have nk9 := ok9.nk
 refine W.go ?_
 refine CW.cond (vt rfl) (fun hc1 => ?_) (fun hc1 => ?_)
 ·try simp only [sk] at hc1
  refine W.go ?_
  refine ⟨_, [], (RVs.tmp rfl RVs.nil), List.nil_sublist _, ?_⟩
  have hll := lbls_len hnz
  rw [cf_no (c := c) (by rcases hc1 with (hq | hq) | hq; (cases hq); (left; exact decide_eq_false (by omega)); (right; left; exact decide_eq_false (by omega)))]; exact ⟨rfl, rfl⟩
 try simp only [sk] at hc1
 refine W.go ?_
 refine CW.loopA (X := Int) (fun i => [(1, true, .pointer (some ⟨b1, 0, none⟩)), (3, true, .int .i64 i)]) (fun i => [(b1, .cells (encCf c e r s).toArray 26 (0, 0))]) (fun i => 0 ≤ i ∧ i ≤ c.excl.length ∧ (c.excl.take i.toNat).all (fun h => inZ h c.first c.last) = true ∧ (c.excl.take i.toNat).Nodup) (fun i => (c.excl.length - i).toNat) (0) ?_ ?_
 ·exact ⟨by omega, by omega, rfl, List.nodup_nil⟩
 rintro i hI
 try dsimp only at hI ⊢
 obtain ⟨h0, h1, ha, hd⟩ := hI
 refine W.go ?_
 refine CW.cond (vt rfl) (fun hc2 => ?_) (fun hc2 => ?_)
 ·try simp only [sk] at hc2
  refine W.go ?_
  refine CW.draw 18 rfl (by kernel_rfl) ?_
  first | refine WQ.p O.fb ?_ | refine WQ.p O.fa ?_
  refine WQ.p O.ld ?_
  refine WQ.p O.mv ?_
  refine WQ.p O.ixA ?_
  refine WQ.p O.ldE ?_
  first | refine WQ.p O.fb ?_ | refine WQ.p O.fa ?_
  refine WQ.p O.ld ?_
  refine WQ.p O.lss ?_
  refine WQ.p O.mv ?_
  first | refine WQ.p O.fb ?_ | refine WQ.p O.fa ?_
  refine WQ.p O.ld ?_
  refine WQ.p O.mv ?_
  refine WQ.p O.ixA ?_
  refine WQ.p O.ldE ?_
  first | refine WQ.p O.fb ?_ | refine WQ.p O.fa ?_
  refine WQ.p O.ld ?_
  refine WQ.p O.gtr ?_
  refine WQ.p O.pkB ?_
  refine WQ.nil ?_
  refine WL.nil (Q.tn ?_)
  refine CW.cond (vt rfl) (fun hc3 => ?_) (fun hc3 => ?_)
  ·try simp only [sk] at hc3
   refine W.go ?_
   refine ⟨_, [], (RVs.tmp rfl RVs.nil), List.nil_sublist _, ?_⟩
   have hex : c.excl.all (fun h => inZ h c.first c.last) = false := List.all_eq_false.2 ⟨_, mem_at 0 h0 hc2, by simp only [inZ, Bool.and_eq_true, decide_eq_true_eq]; omega⟩
   rw [cf_no (c := c) (.inr (.inr (.inl (by rw [exOk, hex]; rfl))))]; exact ⟨rfl, rfl⟩
  try simp only [sk] at hc3
  refine W.go ?_
  refine CW.loopA (X := Int) (fun j => [(1, true, .pointer (some ⟨b1, 0, none⟩)), (3, true, .int .i64 i), (4, true, .int .i64 j)]) (fun j => [(b1, .cells (encCf c e r s).toArray 26 (0, 0))]) (fun j => 0 ≤ j ∧ j ≤ i ∧ c.excl.getD i.toNat 0 ∉ c.excl.take j.toNat) (fun j => (i - j).toNat) (0) ?_ ?_
  ·exact ⟨by omega, by omega, by simp⟩
  rintro j hI
  try dsimp only at hI ⊢
  obtain ⟨j0, j1, jn⟩ := hI
  refine W.go ?_
  refine CW.cond (vt rfl) (fun hc4 => ?_) (fun hc4 => ?_)
  ·try simp only [sk] at hc4
   refine W.go ?_
   refine CW.draw 11 rfl (by kernel_rfl) ?_
   first | refine WQ.p O.fb ?_ | refine WQ.p O.fa ?_
   refine WQ.p O.ld ?_
   refine WQ.p O.mv ?_
   refine WQ.p O.ixA ?_
   refine WQ.p O.ldE ?_
   first | refine WQ.p O.fb ?_ | refine WQ.p O.fa ?_
   refine WQ.p O.ld ?_
   refine WQ.p O.mv ?_
   refine WQ.p O.ixA ?_
   refine WQ.p O.ldE ?_
   refine WQ.p O.eqI ?_
   refine WQ.nil ?_
   refine WL.nil (Q.tn ?_)
   refine CW.cond (vt rfl) (fun hc5 => ?_) (fun hc5 => ?_)
   ·try simp only [sk] at hc5
    refine W.go ?_
    refine ⟨_, [], (RVs.tmp rfl RVs.nil), List.nil_sublist _, ?_⟩
    have hnn := nodup_no (d := (0 : Int)) h0 hc2 (by rw [← hc5]; exact take_in j0 hc4 hc2)
    rw [cf_no (c := c) (.inr (.inr (.inl (by rw [exOk, decide_eq_false hnn, Bool.and_false]))))]; exact ⟨rfl, rfl⟩
   try simp only [sk] at hc5
   refine W.go ?_
   refine nextA (_) ?_ ?_
   ·try dsimp only
    refine ⟨by omega, by omega, ?_⟩
    rw [take_at' 0 j0 (by omega), List.mem_append, List.mem_singleton]; rintro (hq | hq); (exact jn hq); (exact hc5 hq.symm)
   ·try dsimp only
    omega
  try simp only [sk] at hc4
  refine W.go ?_
  refine nextA (i + 1) ?_ ?_
  ·try dsimp only
   refine ⟨by omega, by omega, ?_, ?_⟩
   ·rw [take_at' 0 h0 hc2, List.all_append, ha]; simp only [List.all_cons, List.all_nil, Bool.and_true, Bool.true_and, inZ, Bool.and_eq_true, decide_eq_true_eq]; omega
   ·rw [take_at' 0 h0 hc2, nodup_snoc]; exact ⟨hd, by rwa [show j = i by omega] at jn⟩
  ·try dsimp only
   omega
 try simp only [sk] at hc2
 refine W.go ?_
 refine CW.loopA (X := Int) (fun i => [(1, true, .pointer (some ⟨b1, 0, none⟩)), (5, true, .int .i64 i)]) (fun i => [(b1, .cells (encCf c e r s).toArray 26 (0, 0))]) (fun i => 0 ≤ i ∧ i ≤ c.resv.length ∧ (c.resv.take i.toNat).all (fun r => inZ r.host c.first c.last && clMay r.client) = true ∧ ((c.resv.take i.toNat).map Rs.client).Nodup ∧ ((c.resv.take i.toNat).map Rs.host).Nodup) (fun i => (c.resv.length - i).toNat) (0) ?_ ?_
 ·exact ⟨by omega, by omega, rfl, List.nodup_nil, List.nodup_nil⟩
 rintro i hI
 try dsimp only at hI ⊢
 obtain ⟨g0, g1, ga, gc, gd⟩ := hI
 refine W.go ?_
 refine CW.cond (vt rfl) (fun hc6 => ?_) (fun hc6 => ?_)
 ·try simp only [sk] at hc6
  have hcl := hz.hc _ (mem_at dRz g0 hc6)
  refine W.go ?_
  refine W.al rfl rfl fun b2 => ?_
  refine W.st (vt rfl) (vt rfl) rfl ?_
  refine W.go ?_
  refine W.q (O.call ⟨rfl, rfl⟩ (AV.cons (vs rfl) (AV.nil)) (fun _ w hw => ref_client _ w (by omega))) ?_
  refine W.go ?_
  refine CW.cond (vt rfl) (fun hc7 => ?_) (fun hc7 => ?_)
  ·try simp only [sk] at hc7
   refine W.go ?_
   refine ⟨_, [], (RVs.tmp rfl RVs.nil), List.nil_sublist _, ?_⟩
   have hex : c.resv.all (fun r => inZ r.host c.first c.last && clMay r.client) = false := List.all_eq_false.2 ⟨_, mem_at dRz g0 hc6, by simp only [inZ, Bool.and_eq_true, decide_eq_true_eq]; rintro ⟨a1, a2⟩; rcases hc7 with hq | hq; (omega); (rw [hq] at a2; cases a2)⟩
   rw [cf_no (c := c) (.inr (.inr (.inr (.inl (by rw [rvOk, hex]; rfl)))))]; exact ⟨rfl, rfl⟩
  try simp only [sk] at hc7
  refine W.go ?_
  refine CW.loopA (X := Int) (fun j => [(1, true, .pointer (some ⟨b1, 0, none⟩)), (5, true, .int .i64 i), (6, true, .pointer (some ⟨b2, 0, none⟩)), (7, true, .int .i64 j)]) (fun j => [(b2, .cells (encRs (c.resv.getD i.toNat dRz)).toArray 107 (0, 0)), (b1, .cells (encCf c e r s).toArray 26 (0, 0))]) (fun j => 0 ≤ j ∧ j ≤ i ∧ (c.resv.getD i.toNat dRz).host ∉ (c.resv.take j.toNat).map Rs.host ∧ (c.resv.getD i.toNat dRz).client ∉ (c.resv.take j.toNat).map Rs.client) (fun j => (i - j).toNat) (0) ?_ ?_
  ·exact ⟨by omega, by omega, by simp, by simp⟩
  rintro j hI
  try dsimp only at hI ⊢
  obtain ⟨j0, j1, jh, jc⟩ := hI
  refine W.go ?_
  refine CW.cond (vt rfl) (fun hc8 => ?_) (fun hc8 => ?_)
  ·try simp only [sk] at hc8
   refine W.go ?_
   refine CW.draw 20 rfl (by kernel_rfl) ?_
   first | refine WQ.p O.fb ?_ | refine WQ.p O.fa ?_
   refine WQ.p O.ld ?_
   refine WQ.p O.mv ?_
   refine WQ.p O.ixA ?_
   first | refine WQ.p O.fe ?_ | refine WQ.p O.feR ?_
   refine WQ.p O.ldE ?_
   first | refine WQ.p O.fb ?_ | refine WQ.p O.fa ?_
   refine WQ.p O.ld ?_
   refine WQ.p O.eqI ?_
   refine WQ.p O.mv ?_
   first | refine WQ.p O.fb ?_ | refine WQ.p O.fa ?_
   refine WQ.p O.ld ?_
   refine WQ.p O.mv ?_
   refine WQ.p O.ixA ?_
   first | refine WQ.p O.fe ?_ | refine WQ.p O.feR ?_
   refine WQ.p O.ldE ?_
   first | refine WQ.p O.fb ?_ | refine WQ.p O.fa ?_
   refine WQ.p O.ld ?_
   refine WQ.p O.eqS ?_
   refine WQ.p O.pkB ?_
   refine WQ.nil ?_
   refine WL.nil (Q.tn ?_)
   refine CW.cond (vt rfl) (fun hc9 => ?_) (fun hc9 => ?_)
   ·try simp only [sk] at hc9
    refine W.go ?_
    refine ⟨_, [], (RVs.tmp rfl RVs.nil), List.nil_sublist _, ?_⟩
    have hmg := map_get (l := c.resv) g0 hc6
    have htk := take_in (d := dRz) j0 hc8 hc6
    have hrv : rvOk c = false := by
     rcases hc9 with hq | hq
     ·have hnn := nodup_no (d := (0 : Int)) (l := c.resv.map Rs.host) g0 (by simpa using hc6) (by rw [hmg.2, ← List.map_take, ← hq]; exact List.mem_map_of_mem htk)
      rw [rvOk, decide_eq_false hnn, Bool.and_false]
     ·have hnn := nodup_no (d := ([] : List UInt8)) (l := c.resv.map Rs.client) g0 (by simpa using hc6) (by rw [hmg.1, ← List.map_take, ← hq]; exact List.mem_map_of_mem htk)
      rw [rvOk, decide_eq_false hnn, Bool.and_false, Bool.false_and]
    rw [cf_no (c := c) (.inr (.inr (.inr (.inl hrv))))]; exact ⟨rfl, rfl⟩
   try simp only [sk] at hc9
   refine W.go ?_
   refine nextA (_) ?_ ?_
   ·try dsimp only
    refine ⟨by omega, by omega, ?_, ?_⟩
    ·rw [take_at' dRz j0 (by omega), List.map_append, List.mem_append]; rintro (hq | hq); (exact jh hq); (simp only [List.map_cons, List.map_nil, List.mem_singleton] at hq; exact hc9.1 hq.symm)
    ·rw [take_at' dRz j0 (by omega), List.map_append, List.mem_append]; rintro (hq | hq); (exact jc hq); (simp only [List.map_cons, List.map_nil, List.mem_singleton] at hq; exact hc9.2 hq.symm)
   ·try dsimp only
    omega
  try simp only [sk] at hc8
  refine W.go ?_
  refine nextA (i + 1) ?_ ?_
  ·try dsimp only
   refine ⟨by omega, by omega, ?_, ?_, ?_⟩
   ·rw [take_at' dRz g0 hc6, List.all_append, ga]; simp only [List.all_cons, List.all_nil, Bool.and_true, Bool.true_and, inZ, Bool.and_eq_true, decide_eq_true_eq]; exact ⟨by omega, hc7.2⟩
   ·rw [take_at' dRz g0 hc6, List.map_append]; exact nodup_snoc.2 ⟨gc, by rwa [show j = i by omega] at jc⟩
   ·rw [take_at' dRz g0 hc6, List.map_append]; exact nodup_snoc.2 ⟨gd, by rwa [show j = i by omega] at jh⟩
  ·try dsimp only
   omega
 try simp only [sk] at hc6
 refine W.go ?_
 refine CW.loopA (X := Int) (fun i => [(1, true, .pointer (some ⟨b1, 0, none⟩)), (8, true, .int .i64 i)]) (fun i => [(b1, .cells (encCf c e r s).toArray 26 (0, 0))]) (fun i => 0 ≤ i ∧ i ≤ c.stat.length ∧ (c.stat.take i.toNat).all (stMay c.zone) = true) (fun i => (c.stat.length - i).toNat) (0) ?_ ?_
 ·exact ⟨by omega, by omega, rfl⟩
 rintro i hI
 try dsimp only at hI ⊢
 obtain ⟨k0, k1, ka⟩ := hI
 refine W.go ?_
 refine CW.cond (vt rfl) (fun hc10 => ?_) (fun hc10 => ?_)
 ·try simp only [sk] at hc10
  have hnn := hz.hn _ (mem_at dR k0 hc10)
  refine W.go ?_
  refine CW.draw 9 rfl (by kernel_rfl) ?_
  first | refine WQ.p O.fb ?_ | refine WQ.p O.fa ?_
  refine WQ.p O.ld ?_
  refine WQ.p O.mv ?_
  refine WQ.p O.ixA ?_
  refine WQ.p O.ldsE ?_
  first | refine WQ.p O.fb ?_ | refine WQ.p O.fa ?_
  refine WQ.p O.ld ?_
  refine WQ.q (O.call ⟨rfl, rfl⟩ (AV.cons (vt rfl) (AV.cons (vt rfl) (AV.nil))) (fun _ w hw => ref_static _ _ w (by omega) (by omega) (by have := hz.hz; omega))) ?_
  refine WQ.p O.nt ?_
  refine WQ.nil ?_
  refine WL.nil (Q.tn ?_)
  refine CW.cond (vt rfl) (fun hc11 => ?_) (fun hc11 => ?_)
  ·try simp only [sk] at hc11
   refine W.go ?_
   refine ⟨_, [], (RVs.tmp rfl RVs.nil), List.nil_sublist _, ?_⟩
   have hex : c.stat.all (stMay c.zone) = false := List.all_eq_false.2 ⟨_, mem_at dR k0 hc10, by rw [hc11]; decide⟩
   rw [cf_no (c := c) (.inr (.inr (.inr (.inr hex))))]; exact ⟨rfl, rfl⟩
  try simp only [sk] at hc11
  refine W.go ?_
  refine nextA (_) ?_ ?_
  ·try dsimp only
   exact ⟨by omega, by omega, by rw [take_at' dR k0 hc10, List.all_append, ka]; simp only [List.all_cons, hc11, List.all_nil, Bool.and_true]⟩
  ·try dsimp only
   omega
 try simp only [sk] at hc10
 refine W.go ?_
 refine ⟨_, [], (RVs.tmp rfl RVs.nil), List.nil_sublist _, ?_⟩
 have hll := lbls_len hnz
 rw [List.take_of_length_le (by omega)] at ha hd ga gc gd ka
 have hyes : cfMay c = true := by rw [cf_pre, hA, exOk, rvOk, ha, decide_eq_true hd, ga, decide_eq_true gc, decide_eq_true gd, ka, decide_eq_true (show (labs c.zone).length ≤ 4 by omega), decide_eq_true (show c.stat.length ≤ 8 by omega)]; rfl
 rw [hyes]; exact ⟨rfl, rfl⟩
theorem ref_ConfMay (c : Cf) (e r s : Sl2) (w : World) (h : CfIn w c e r s) (hz : CfSz c) : Fn Tryz.prog 48 [vCf c e r s] w [] fun v L' => v = .bool (cfMay c) ∧ L' = [] := by
 cases hq : cfPre c with
 | false => exact ref_ConfB c e r s w h hz hq
 | true => exact ref_ConfA c e r s w h hz hq
end Go.Proofs.YtfmdaijkgjkmpaaGreatDoor

set_option linter.unusedVariables false
set_option linter.unusedSimpArgs false
namespace Go.Proofs.YtfmdaijkgjkmpaaGreatDoor
open Go Go.RowKit
theorem lz_eq (l : Lz) : lzMay l = (inZ l.host 2 254 && inZ l.state 0 3 && decide (l.client.length ≤ 16) && inZ l.til 0 1099511627776 && nmMay l.name && !((decide (l.state = 1) || decide (l.state = 2)) && decide (l.client = [])) && (decide (l.state = 2) || decide (l.name = [])) && (!l.won || !decide (l.name = []))) := by
 rw [Bool.eq_iff_iff]
 simp only [lzMay, lzSt, inZ, Bool.and_eq_true, Bool.or_eq_true, Bool.not_eq_true', decide_eq_true_eq, decide_eq_false_iff_not, Bool.and_eq_false_iff, Bool.or_eq_false_iff]
 by_cases h0 : l.state = 0
 ·simp [h0]; grind
 ·by_cases h3 : l.state = 3
  ·simp [h3]; grind
  ·by_cases h1 : l.state = 1
   ·simp [h1]; grind
   ·by_cases h2 : l.state = 2
    ·simp [h2]; grind
    ·simp [h0, h1, h2, h3]; grind
set_option maxRecDepth 100000 in
theorem ref_LeaseMay (l : Lz) (w : World) (h : l.name.length ≤ 4194304) : Fn Tryz.prog 83 [vL l] w [] fun v L' => v = .bool (lzMay l) ∧ L' = [] := by
 refine Fn.enter Tryz.func83 rfl rfl rfl rfl (Holds.nil w) ?_
 refine W.go ?_
 refine W.bx rfl (vt rfl) rfl fun b1 => ?_
 refine W.go ?_
 refine W.q (O.call ⟨rfl, rfl⟩ (AV.cons (vs rfl) (AV.nil)) (fun _ w hw => ref_NameMay _ w (by omega))) ?_
 refine W.go ?_
 refine CW.cond (vt rfl) (fun hc1 => ?_) (fun hc1 => ?_)
 ·try simp only [sk] at hc1
  refine W.go ?_
  refine ⟨_, [], (RVs.tmp rfl RVs.nil), List.nil_sublist _, ?_⟩
  refine ⟨congrArg Value.bool ?_, rfl⟩
  rw [lz_eq, Bool.eq_iff_iff]
  simp [inZ, *]
  try grind
 try simp only [sk] at hc1
 refine W.go ?_
 refine CW.cond (vt rfl) (fun hc2 => ?_) (fun hc2 => ?_)
 ·try simp only [sk] at hc2
  refine W.go ?_
  refine ⟨_, [], (RVs.tmp rfl RVs.nil), List.nil_sublist _, ?_⟩
  refine ⟨congrArg Value.bool ?_, rfl⟩
  rw [lz_eq, Bool.eq_iff_iff]
  simp [inZ, *]
  try grind
 try simp only [sk] at hc2
 refine W.go ?_
 refine ⟨_, [], (RVs.tmp rfl RVs.nil), List.nil_sublist _, ?_⟩
 refine ⟨congrArg Value.bool ?_, rfl⟩
 rw [lz_eq, Bool.eq_iff_iff]
 simp [inZ, *]
 try grind
set_option maxRecDepth 100000 in
theorem ref_Live (l : Lz) (now : Int) (w : World) (h : l.name.length ≤ 4194304) : Fn Tryz.prog 51 [vL l, .int .i64 now] w [] fun v L' => v = .bool (live l now) ∧ L' = [] := by
 refine Fn.enter Tryz.func51 rfl rfl rfl rfl (Holds.nil w) ?_
 refine W.go ?_
 refine W.bx rfl (vt rfl) rfl fun b1 => ?_
 refine W.go ?_
 refine W.q (O.call ⟨rfl, rfl⟩ (AV.cons (vt rfl) (AV.nil)) (fun _ w hw => ref_LeaseMay _ w (by omega))) ?_
 refine W.go ?_
 refine ⟨_, [], (RVs.tmp rfl RVs.nil), List.nil_sublist _, ?_⟩
 refine ⟨congrArg Value.bool ?_, rfl⟩
 rw [Bool.eq_iff_iff]
 simp [live, *]
set_option maxRecDepth 100000 in
theorem ref_TableMay (ls : List Lz) (a : Option Addr) (cc : Nat) (w : World) (h : In w a (ls.flatMap encL)) (hz : LsSz ls) : Fn Tryz.prog 49 [.slice a ls.length cc] w [] fun v L' => v = .bool (tbMay ls) ∧ L' = [] := by
 have row := Row.ofE (dv := dL) h
 have hl := hz.hl
 refine Fn.enter Tryz.func49 rfl rfl rfl rfl (Holds.nil w) ?_
 refine W.go ?_
 refine CW.loopA (X := Int) (fun i => [(0, true, .slice a ls.length cc), (3, true, .int .i64 i)]) (fun i => []) (fun i => 0 ≤ i ∧ i ≤ ls.length ∧ (ls.take i.toNat).all lzMay = true ∧ asc (ls.take i.toNat) = true) (fun i => (ls.length - i).toNat) (0) ?_ ?_
 ·exact ⟨by omega, by omega, rfl, rfl⟩
 rintro i hI
 try dsimp only at hI ⊢
 obtain ⟨h0, h1, ha, hs⟩ := hI
 refine W.go ?_
 refine CW.cond (vt rfl) (fun hc1 => ?_) (fun hc1 => ?_)
 ·try simp only [sk] at hc1
  have hnn := hz.hn _ (mem_at dL h0 hc1)
  refine W.go ?_
  refine CW.draw 24 rfl (by kernel_rfl) ?_
  refine WQ.p O.mv ?_
  refine WQ.p O.mv ?_
  refine WQ.p O.ixA ?_
  refine WQ.p O.ldsE ?_
  refine WQ.q (O.call ⟨rfl, rfl⟩ (AV.cons (vt rfl) (AV.nil)) (fun _ w hw => ref_LeaseMay _ w (by omega))) ?_
  refine WQ.p O.nt ?_
  refine WQ.p O.mv ?_
  refine WQ.p O.mv ?_
  refine WQ.p O.gtr ?_
  refine WQ.p O.mv ?_
  refine WQ.p O.mv ?_
  refine WQ.p O.mv ?_
  refine WQ.p O.ixA ?_
  first | refine WQ.p O.fe ?_ | refine WQ.p O.feR ?_
  refine WQ.p O.ldE ?_
  refine WQ.p O.mv ?_
  refine WQ.p O.mv ?_
  first | refine WQ.p O.subN ?_ | refine WQ.p O.sub ?_
  refine WQ.p O.ixA ?_
  first | refine WQ.p O.fe ?_ | refine WQ.p O.feR ?_
  refine WQ.p O.ldE ?_
  refine WQ.p O.leq ?_
  refine WQ.p O.pkB ?_
  refine WQ.p O.pkB ?_
  refine WQ.nil ?_
  refine WL.nil (Q.tn ?_)
  refine CW.cond (vt rfl) (fun hc2 => ?_) (fun hc2 => ?_)
  ·try simp only [sk] at hc2
   refine W.go ?_
   refine ⟨_, [], (RVs.tmp rfl RVs.nil), List.nil_sublist _, ?_⟩
   refine ⟨congrArg Value.bool ?_, rfl⟩
   rcases hc2 with h | h
   ·have hf : ls.all lzMay = false := List.all_eq_false.2 ⟨_, mem_at dL h0 hc1, by rw [h]; decide⟩
    rw [tbMay, hf]; rfl
   ·have hf : asc ls = false := by
     cases ha' : asc ls with
     | false => rfl
     | true => have := asc_take ls (i + 1).toNat ha'; rw [tb_step h0 hc1, Bool.and_eq_true, Bool.or_eq_true, decide_eq_true_eq, decide_eq_true_eq] at this; omega
    rw [tbMay, hf]; simp
  try simp only [sk] at hc2
  refine W.go ?_
  refine nextA (_) ?_ ?_
  ·try dsimp only
   refine ⟨by omega, by omega, ?_, ?_⟩
   ·rw [take_at' dL h0 hc1, List.all_append, ha]; simp only [List.all_cons, hc2.1, List.all_nil, Bool.and_true]
   ·rw [tb_step h0 hc1, hs, Bool.true_and]; rcases hc2.2 with h | h; (rw [decide_eq_true (show i = 0 by omega)]; rfl); (rw [decide_eq_true (show (ls.getD (i - 1).toNat dL).host < (ls.getD i.toNat dL).host by omega)]; simp)
  ·try dsimp only
   omega
 try simp only [sk] at hc1
 refine W.go ?_
 refine ⟨_, [], (RVs.tmp rfl RVs.nil), List.nil_sublist _, ?_⟩
 refine ⟨congrArg Value.bool ?_, rfl⟩
 rw [List.take_of_length_le (by omega)] at ha hs
 rw [tbMay, ha, hs]; exact decide_eq_decide.2 (by omega)
set_option maxRecDepth 100000 in
theorem ref_Full (c : Cf) (e r s : Sl2) (host : List UInt8) (w : World) (h : CfIn w c e r s) (hz : CfSz c) (hn : host.length ≤ 4194304) : Fn Tryz.prog 50 [vCf c e r s, .string (S host)] w [] fun v L' => v = .string (S (full c host)) ∧ L' = [] := by
 have hzz := hz.hz
 refine Fn.enter Tryz.func50 rfl rfl rfl rfl (Holds.nil w) ?_
 refine W.go ?_
 refine W.bx rfl (vt rfl) rfl fun b1 => ?_
 refine W.go ?_
 refine W.q (O.call ⟨rfl, rfl⟩ (AV.cons (vt rfl) (AV.nil)) (fun _ w hw => ref_ConfMay c e r s w (h.upd hw) hz)) ?_
 refine W.go ?_
 refine W.q (O.call ⟨rfl, rfl⟩ (AV.cons (vs rfl) (AV.nil)) (fun _ w hw => ref_NameMay _ w (by omega))) ?_
 refine W.go ?_
 refine CW.cond (vt rfl) (fun hc1 => ?_) (fun hc1 => ?_)
 ·try simp only [sk] at hc1
  refine W.go ?_
  refine ⟨_, [], (RVs.tmp rfl RVs.nil), List.nil_sublist _, ?_⟩
  rw [full, if_neg (by rintro ⟨a1, a2, a3, _⟩; rcases hc1 with (hq | hq) | hq; (rw [hq] at a1; cases a1); (exact a2 hq); (rw [hq] at a3; cases a3))]; exact ⟨rfl, rfl⟩
 try simp only [sk] at hc1
 refine W.go ?_
 refine W.callN (first := []) (cap := []) rfl (vt rfl) (AV.cons (vt rfl) (AV.nil)) (fun w hu => ref_Labels host w (by omega)) ?_; rintro _ _ ⟨o9, c9, sp9, rfl, ok9, rfl⟩; have nk9 := ok9.nk
 refine W.go ?_
 refine CW.cond (vt rfl) (fun hc2 => ?_) (fun hc2 => ?_)
 ·try simp only [sk] at hc2
  refine W.go ?_
  refine W.q (O.call ⟨rfl, rfl⟩ (AV.cons (vs rfl) (AV.cons (vs rfl) (AV.nil))) (fun _ w hw => ref_Under _ _ w (by first | omega | (simp only [List.length_append, List.length_cons, List.length_nil]; omega)) (by omega))) ?_
  refine W.go ?_
  refine CW.cond (vt rfl) (fun hc3 => ?_) (fun hc3 => ?_)
  ·try simp only [sk] at hc3
   refine W.go ?_
   refine ⟨_, [], (RVs.tmp rfl RVs.nil), List.nil_sublist _, ?_⟩
   rw [full, if_neg (by rw [fullN_one hc2]; rintro ⟨_, _, _, a1, a2⟩; rcases hc3 with hq | hq; (exact a1 hq); (rw [hq] at a2; cases a2))]; exact ⟨rfl, rfl⟩
  try simp only [sk] at hc3
  refine W.go ?_
  refine ⟨_, [], (RVs.tmp rfl RVs.nil), List.nil_sublist _, ?_⟩
  rw [full, if_pos (by rw [fullN_one hc2]; exact ⟨hc1.1.1, hc1.1.2, hc1.2, hc3.1, hc3.2⟩), fullN_one hc2]; exact ⟨rfl, rfl⟩
 try simp only [sk] at hc2
 refine W.go ?_
 refine W.q (O.call ⟨rfl, rfl⟩ (AV.cons (vs rfl) (AV.cons (vs rfl) (AV.nil))) (fun _ w hw => ref_Under _ _ w (by first | omega | (simp only [List.length_append, List.length_cons, List.length_nil]; omega)) (by omega))) ?_
 refine W.go ?_
 refine CW.cond (vt rfl) (fun hc4 => ?_) (fun hc4 => ?_)
 ·try simp only [sk] at hc4
  refine W.go ?_
  refine ⟨_, [], (RVs.tmp rfl RVs.nil), List.nil_sublist _, ?_⟩
  rw [full, if_neg (by rw [fullN_not hc2]; rintro ⟨_, _, _, a1, a2⟩; rcases hc4 with hq | hq; (exact a1 hq); (rw [hq] at a2; cases a2))]; exact ⟨rfl, rfl⟩
 try simp only [sk] at hc4
 refine W.go ?_
 refine ⟨_, [], (RVs.tmp rfl RVs.nil), List.nil_sublist _, ?_⟩
 rw [full, if_pos (by rw [fullN_not hc2]; exact ⟨hc1.1.1, hc1.1.2, hc1.2, hc4.1, hc4.2⟩), fullN_not hc2]; exact ⟨rfl, rfl⟩
set_option maxRecDepth 100000 in
theorem ref_Records (c : Cf) (e r s : Sl2) (ls : List Lz) (a : Option Addr) (cc : Nat) (now n : Int) (w : World) (h : CfIn w c e r s) (hz : CfSz c) (hl : In w a (ls.flatMap encL)) (hls : LsSz ls) : Fn Tryz.prog 23 [vCf c e r s, .slice a ls.length cc, .int .i64 now, .int .i64 n] w [] (ZRes c ls now n) := by
 have row := Row.ofE (dv := dL) hl
 have rows := Row.ofE (dv := dR) h.hs
 have hll := hls.hl
 have hzs := hz.hs
 have hzh : (zHead c n).length = 2 := rfl
 refine Fn.enter Tryz.func23 rfl rfl rfl rfl (Holds.nil w) ?_
 refine W.go ?_
 refine W.bx rfl (vt rfl) rfl fun b1 => ?_
 refine W.go ?_
 refine W.q (O.call ⟨rfl, rfl⟩ (AV.cons (vt rfl) (AV.nil)) (fun _ w hw => ref_ConfMay c e r s w (h.upd hw) hz)) ?_
 refine W.go ?_
 refine W.q (O.call ⟨rfl, rfl⟩ (AV.cons (vs rfl) (AV.nil)) (fun _ w hw => ref_TableMay ls a cc w (hl.upd (L0 := []) hw) hls)) ?_
 refine W.go ?_
 refine CW.cond (vt rfl) (fun hc1 => ?_) (fun hc1 => ?_)
 ·try simp only [sk] at hc1
  refine W.go ?_
  refine ⟨_, [], (RVs.tmp rfl (RVs.tmp rfl RVs.nil)), List.nil_sublist _, ?_⟩
  have hno : zAsk c ls now n = false := by
   rw [zAsk, Bool.eq_false_iff]; intro hq; simp only [Bool.and_eq_true, inZ, decide_eq_true_eq] at hq
   obtain ⟨⟨⟨a1, a2⟩, a3, a4⟩, a5, a6⟩ := hq
   rcases hc1 with ((((hq | hq) | hq) | hq) | hq) | hq
   ·rw [a1] at hq; cases hq
   ·rw [a2] at hq; cases hq
   all_goals omega
  rw [ZRes, zRec, if_neg (by rw [hno]; decide)]; exact ⟨none, 0, [], rfl, OwnOk.nil, rfl⟩
 try simp only [sk] at hc1
 refine W.go ?_
 refine W.q (O.call ⟨rfl, rfl⟩ (AV.cons (vt rfl) (AV.cons (vt rfl) (AV.nil))) (fun _ w hw => ref_Full c e r s [110, 115] w (h.upd hw) hz (by decide))) ?_
 refine W.go ?_
 refine W.p (O.bd (hv := PV.cons (vt rfl) (PV.cons (vt rfl) (PV.cons (vt rfl) (PV.cons (vt rfl) (PV.cons (vt rfl) (PV.nil))))))) ?_
 refine W.go ?_
 refine W.p (O.bd (hv := PV.cons (vt rfl) (PV.cons (vt rfl) (PV.cons (vt rfl) (PV.cons (vt rfl) (PV.nil)))))) ?_
 refine W.bs encR (zHead c n) rfl (PV.cons (vt rfl) (PV.cons (vt rfl) (PV.nil))) rfl rfl rfl (by decide) rfl fun b2 => ?_
 refine W.go ?_
 refine W.ap (o := some _) rfl (vt rfl) (vt rfl) (by first | rfl | omega) (by first | rfl | omega) rfl (by first | assumption | exact OwnOk.nil | exact OwnOk.lit | exact ⟨by simp, rfl, Nat.le_refl _, by decide⟩) (by first | omega | (simp; omega)) fun o1 c1 sp1 ok1 ne1 gt1 => ?_
 have nk1 := ok1.nk; have le1 := ok1.2.2.1; try simp only [List.length_append, List.length_cons, List.length_nil] at le1
 refine W.go ?_
 refine CW.loopA (X := Int × (List RR) × (Option Nat) × Nat × (List Value)) (fun ⟨i, out, o, ca, sp⟩ => [(1, true, .slice a ls.length cc), (2, true, .int .i64 now), (4, true, .pointer (some ⟨b1, 0, none⟩)), (11, true, .slice (oa o) out.length ca), (12, true, .int .i64 i)]) (fun ⟨i, out, o, ca, sp⟩ => rowL o 58 (flat encR out sp) ++ [(b1, .cells (encCf c e r s).toArray 26 (0, 0))]) (fun ⟨i, out, o, ca, sp⟩ => 0 ≤ i ∧ i ≤ ls.length ∧ OwnOk o ca 7 out.length sp.length ∧ out.length ≤ 2 + c.stat.length + 3 * i ∧ out = zHead c n ++ c.stat ++ ((ls.take i.toNat).filter (toldZ c now)).flatMap (lentR c)) (fun ⟨i, out, o, ca, sp⟩ => (ls.length - i).toNat) (0, zHead c n ++ c.stat, _, _, _) ?_ ?_
 ·exact ⟨by omega, by omega, by assumption, by rw [List.length_append]; omega, by simp⟩
 rintro ⟨i, out, o, ca, sp⟩ hI
 try dsimp only at hI ⊢
 obtain ⟨h0, h1, hok, hol, hout⟩ := hI
 have nk := hok.nk
 refine W.go ?_
 refine CW.cond (vt rfl) (fun hc2 => ?_) (fun hc2 => ?_)
 ·try simp only [sk] at hc2
  have hnn := hls.hn _ (mem_at dL h0 hc2)
  refine W.go ?_
  refine W.al rfl rfl fun b3 => ?_
  refine W.st (vt rfl) (vt rfl) rfl ?_
  refine W.go ?_
  refine W.q (O.call ⟨rfl, rfl⟩ (AV.cons (vt rfl) (AV.cons (vt rfl) (AV.nil))) (fun _ w hw => ref_Full c e r s (ls.getD i.toNat dL).name w (h.upd hw) hz (by omega))) ?_
  refine W.go ?_
  refine W.q (O.call ⟨rfl, rfl⟩ (AV.cons (vt rfl) (AV.cons (vt rfl) (AV.nil))) (fun _ w hw => ref_Live (ls.getD i.toNat dL) now w (by omega))) ?_
  refine W.go ?_
  refine CW.cond (vt rfl) (fun hc3 => ?_) (fun hc3 => ?_)
  ·try simp only [sk] at hc3
   have htold : toldZ c now (ls.getD i.toNat dL) = false := by rw [toldZ]; simp_all; grind
   refine W.go ?_
   refine nextA (_, out, _, _, _) ?_ ?_
   ·try dsimp only
    refine ⟨by omega, by omega, hok, by omega, ?_⟩
    rw [take_at' dL h0 hc2, List.filter_append, List.flatMap_append, hout, List.filter_cons_of_neg (by rw [htold]; decide)]; simp
   ·try dsimp only
    omega
  try simp only [sk] at hc3
  have htold : toldZ c now (ls.getD i.toNat dL) = true := by rw [toldZ]; simp_all
  have hlm : lzMay (ls.getD i.toNat dL) = true := by rw [toldZ, live] at htold; simp only [Bool.and_eq_true] at htold; exact htold.1.1.2.1.1
  have hl3 : (lentR c (ls.getD i.toNat dL)).length = 3 := rfl
  obtain ⟨hh0, hh1, hcl, hnl⟩ := lz_host hlm
  have hdl := decD_len (ls.getD i.toNat dL).host
  refine W.go ?_
  refine W.q (O.call ⟨rfl, rfl⟩ (AV.cons (vt rfl) (AV.nil)) (fun _ w hw => ref_Addr _ w (by omega) (by omega))) ?_
  refine W.go ?_
  refine W.q (O.call ⟨rfl, rfl⟩ (AV.cons (vt rfl) (AV.cons (vt rfl) (AV.nil))) (fun _ w hw => ref_Dhcid _ _ w (by omega) (by have := nmMay_len (full_may (c := c) (h := (ls.getD i.toNat dL).name)); omega))) ?_
  refine W.go ?_
  refine W.p (O.bd (hv := PV.cons (vt rfl) (PV.cons (vt rfl) (PV.cons (vt rfl) (PV.cons (vt rfl) (PV.nil)))))) ?_
  refine W.go ?_
  refine W.p (O.bd (hv := PV.cons (vt rfl) (PV.cons (vt rfl) (PV.cons (vt rfl) (PV.cons (vt rfl) (PV.nil)))))) ?_
  refine W.go ?_
  refine W.q (O.call ⟨rfl, rfl⟩ (AV.cons (vt rfl) (AV.nil)) (fun _ w hw => ref_Reverse _ w (by omega) (by omega))) ?_
  refine W.go ?_
  refine W.p (O.bd (hv := PV.cons (vt rfl) (PV.cons (vt rfl) (PV.cons (vt rfl) (PV.cons (vt rfl) (PV.nil)))))) ?_
  refine W.bs encR (lentR c (ls.getD i.toNat dL)) rfl (PV.cons (vt rfl) (PV.cons (vt rfl) (PV.cons (vt rfl) (PV.nil)))) rfl rfl rfl (by decide) rfl fun b4 => ?_
  refine W.ap rfl (vt rfl) (vt rfl) (by first | rfl | omega) (by first | rfl | omega) rfl (by first | assumption | exact OwnOk.nil | exact OwnOk.lit) (by first | omega | (simp; omega)) fun o2 c2 sp2 ok2 ne2 gt2 => ?_
  have nk2 := ok2.nk; have le2 := ok2.2.2.1; try simp only [List.length_append, List.length_cons, List.length_nil] at le2
  refine W.go ?_
  refine nextA (_, out ++ lentR c (ls.getD i.toNat dL), _, _, _) ?_ ?_
  ·try dsimp only
   refine ⟨by omega, by omega, by assumption, by rw [List.length_append]; omega, ?_⟩
   rw [take_at' dL h0 hc2, List.filter_append, List.flatMap_append, hout, List.filter_cons_of_pos htold]; simp
  ·try dsimp only
   omega
 try simp only [sk] at hc2
 refine W.go ?_
 refine ⟨_, rowL o 58 (flat encR out sp), (RVs.tmp rfl (RVs.tmp rfl RVs.nil)), (by repeat (first | exact List.Sublist.refl _ | exact hSub _ | exact List.sublist_append_left _ _ | exact List.nil_sublist _ | refine List.Sublist.append (List.Sublist.refl _) ?_ | apply List.Sublist.cons_cons | apply List.Sublist.cons | exact List.sublist_append_left _ _ | refine List.Sublist.trans ?_ (List.sublist_append_right _ _))), ?_⟩
 have hyes : zAsk c ls now n = true := by rw [zAsk]; simp only [Bool.and_eq_true, inZ, decide_eq_true_eq]; exact ⟨⟨hc1.1.1.1.1, by omega, by omega⟩, by omega, by omega⟩
 rw [List.take_of_length_le (by omega)] at hout
 rw [ZRes, zRec, if_pos hyes, zRecs, ← hout]; exact ⟨o, ca, sp, rfl, hok, rfl⟩
end Go.Proofs.YtfmdaijkgjkmpaaGreatDoor
