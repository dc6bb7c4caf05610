/- What the document's functions on names, clients, numbers' digits come to. Condition: the texts are not longer than some 2^42 bytes. -/
import Derived.Test.YtagiajnpnjakhaaDoorZnD
import Derived.Test.YtagiajnpnjakhaaDoorRrRef
set_option linter.unusedVariables false
set_option linter.unusedSimpArgs false
namespace Go.Proofs.YtagiajnpnjakhaaDoor
open Go Go.RowKit
/-- digits so far -/
def DecI (n u : Nat) (out : List UInt8) : Prop := (out = [] ∧ u = n) ∨ (out ≠ [] ∧ Lib.decDigits n = (if u = 0 then [] else Lib.decDigits u) ++ out)
theorem DecI.new (n : Nat) : DecI n n [] := .inl ⟨rfl, rfl⟩
theorem DecI.step {n u : Nat} {out : List UInt8} (h : DecI n u out) (hg : 0 < u ∨ out = []) : DecI n (u / 10) (UInt8.ofNat (48 + u % 10) :: out) := by
  have e : Lib.decDigits u = (if u / 10 = 0 then [] else Lib.decDigits (u / 10)) ++ [UInt8.ofNat (48 + u % 10)] := by
    conv => lhs; rw [Lib.decDigits]
    by_cases hu : u < 10
    · rw [dif_pos hu, if_pos (by omega), Nat.mod_eq_of_lt hu]; rfl
    · rw [dif_neg hu, if_neg (by omega)]
  refine .inr ⟨by simp, ?_⟩
  rcases h with ⟨rfl, rfl⟩ | ⟨h1, h2⟩
  · exact e
  · have hu : 0 < u := hg.resolve_right h1
    rw [h2, if_neg (by omega), e, List.append_assoc]; rfl
theorem DecI.end {n u : Nat} {out : List UInt8} (h : DecI n u out) (hu : u = 0) (ho : out ≠ []) : out = Lib.decDigits n := by
  rcases h with ⟨h1, _⟩ | ⟨_, h2⟩
  · exact absurd h1 ho
  · rw [h2, if_pos hu]; rfl
theorem DecI.len {n u : Nat} {out : List UInt8} (h : DecI n u out) : out.length ≤ (Lib.decDigits n).length := by
  rcases h with ⟨h1, _⟩ | ⟨_, h2⟩
  · rw [h1]; exact Nat.zero_le _
  · rw [h2, List.length_append]; omega
theorem dig_len20 : ∀ (k n : Nat), n < 10 ^ (k + 1) → (Lib.decDigits n).length ≤ k + 1
  | 0, n, h => by rw [Lib.decDigits, dif_pos (by simpa using h)]; simp
  | k + 1, n, h => by
    rw [Lib.decDigits]
    split
    · simp
    · have := dig_len20 k (n / 10) (by rw [Nat.pow_succ] at h; omega); rw [List.length_append]; simp; omega
set_option maxRecDepth 100000 in
theorem ref_Labels (s : List UInt8) (w : World) (hn : s.length ≤ 4398046511104) : Fn Tryd.prog 60 [.string (S s)] w [] (Fresh encS 9 1 (lbls s)) := by
  refine Fn.enter Tryd.func60 rfl rfl rfl rfl (Holds.nil w) ?_
  refine CW.seq ?_
  refine CW.region ?_
  refine W.p O.as ?_
  refine WL.nil (Q.tn ?_)
  refine CW.seq ?_
  refine CW.seq ?_
  refine CW.region ?_
  refine W.p O.mv ?_
  refine W.p O.eqS ?_
  refine W.p O.mv ?_
  refine W.p O.mv ?_
  refine W.q (O.call ⟨rfl, rfl⟩ (AV.cons (vs rfl) (AV.nil)) (fun _ w hw => ref_NameMay _ w (by omega))) ?_
  refine W.p O.nt ?_
  refine W.p O.pkB ?_
  refine WL.nil (Q.tn ?_)
  refine CW.cond (vt rfl) (fun hc1 => ?_) (fun hc1 => ?_)
  · try simp only [sk] at hc1
    refine CW.seq ?_
    refine CW.region ?_
    refine W.p O.as ?_
    refine WL.nil (Q.tn ?_)
    refine CW.ret (Q.tr ?_)
    refine ⟨_, [], (RVs.tmp rfl RVs.nil), List.nil_sublist _, ?_⟩
    rw [lbls_no hc1]; exact ⟨none, 0, [], rfl, OwnOk.nil, rfl⟩
  try simp only [sk] at hc1
  refine CW.skip (Q.tn ?_)
  refine CW.seq ?_
  refine CW.region ?_
  refine W.p O.mv ?_
  refine W.callN (first := []) (cap := []) rfl (vt rfl) (AV.cons (vt rfl) (AV.nil)) (fun w hu => ref_parts _ w (by omega)) ?_; rintro _ _ ⟨o9, c9, sp9, rfl, ok9, rfl⟩; have nk9 := ok9.nk
  refine W.p O.as ?_
  refine WL.nil (Q.tn ?_)
  refine CW.ret ?_
  refine ⟨_, rowL o9 9 (flat encS (split s) sp9), (RVs.tmp rfl RVs.nil), (by repeat (first | exact List.Sublist.refl _ | exact hSub _ | exact List.sublist_append_left _ _ | exact List.nil_sublist _ | refine List.Sublist.append (List.Sublist.refl _) ?_ | apply List.Sublist.cons_cons | apply List.Sublist.cons | exact List.sublist_append_left _ _ | refine List.Sublist.trans ?_ (List.sublist_append_right _ _))), ?_⟩
  rw [lbls_is hc1, spl_dot]; exact ⟨o9, c9, sp9, rfl, ok9, rfl⟩
set_option maxRecDepth 100000 in
theorem ref_Under (s z : List UInt8) (w : World) (h1 : s.length ≤ 4398046511104) (h2 : z.length ≤ 4398046511104) : Fn Tryd.prog 61 [.string (S s), .string (S z)] w [] fun v L' => v = .bool (under s z) ∧ L' = [] := by
  refine Fn.enter Tryd.func61 rfl rfl rfl rfl (Holds.nil w) ?_
  refine CW.seq ?_
  refine CW.region ?_
  refine W.p O.as ?_
  refine WL.nil (Q.tn ?_)
  refine CW.seq ?_
  refine CW.seq ?_
  refine CW.region ?_
  refine W.p O.mv ?_
  refine W.q (O.call ⟨rfl, rfl⟩ (AV.cons (vt rfl) (AV.nil)) (fun _ w hw => ref_NameMay _ w (by omega))) ?_
  refine W.p O.nt ?_
  refine W.p O.mv ?_
  refine W.p O.mv ?_
  refine W.q (O.call ⟨rfl, rfl⟩ (AV.cons (vs rfl) (AV.nil)) (fun _ w hw => ref_NameMay _ w (by omega))) ?_
  refine W.p O.nt ?_
  refine W.p O.pkB ?_
  refine WL.nil (Q.tn ?_)
  refine CW.cond (vt rfl) (fun hc1 => ?_) (fun hc1 => ?_)
  · try simp only [sk] at hc1
    refine CW.seq ?_
    refine CW.region ?_
    refine W.p O.as ?_
    refine WL.nil (Q.tn ?_)
    refine CW.ret (Q.tr ?_)
    refine ⟨_, [], (RVs.tmp rfl RVs.nil), List.nil_sublist _, ?_⟩
    refine ⟨congrArg Value.bool ?_, rfl⟩
    rw [under]; rcases hc1 with h | h <;> rw [h] <;> simp
  try simp only [sk] at hc1
  refine CW.skip (Q.tn ?_)
  refine CW.seq ?_
  refine CW.region ?_
  refine W.p O.mv ?_
  refine W.p O.len ?_
  refine W.p O.mv ?_
  refine W.p O.len ?_
  first | refine W.p O.subN ?_ | refine W.p O.sub ?_
  refine W.p O.as ?_
  refine WL.nil (Q.tn ?_)
  refine CW.seq ?_
  refine CW.region ?_
  refine W.p O.mv ?_
  refine W.p O.eqS ?_
  refine W.p O.mv ?_
  refine W.p O.mv ?_
  refine W.p O.mv ?_
  refine W.p O.eqS ?_
  refine W.p O.pkB ?_
  refine W.p O.mv ?_
  refine W.p O.mv ?_
  refine W.p O.gtr ?_
  refine W.p O.mv ?_
  refine W.p O.mv ?_
  refine W.p O.mv ?_
  refine W.p O.slcL ?_
  refine W.p O.mv ?_
  refine W.p O.eqS ?_
  refine W.p O.pkB ?_
  refine W.p O.mv ?_
  refine W.p O.mv ?_
  refine W.p O.mv ?_
  first | refine W.p O.subN ?_ | refine W.p O.sub ?_
  first | refine W.p O.idxS ?_ | refine W.p (O.idxS (h := fun hg => by simp only [cond_true, cond_false, Bool.true_and, Bool.cond_false_right, Bool.cond_true_left, Bool.and_eq_true, Bool.or_eq_true, Bool.or_eq_false_iff, Bool.and_eq_false_iff, Bool.not_eq_true', Bool.not_eq_false', decide_eq_true_eq, decide_eq_false_iff_not, Int.reduceToNat] at *; omega)) ?_
  refine W.p O.eqI ?_
  refine W.p O.pkB ?_
  refine W.p O.pkB ?_
  refine W.p O.as ?_
  refine WL.nil (Q.tn ?_)
  refine CW.ret ?_
  refine ⟨_, [], (RVs.tmp rfl RVs.nil), List.nil_sublist _, ?_⟩
  refine ⟨congrArg Value.bool ?_, rfl⟩
  rw [under, hc1.1, hc1.2, ends_ref hc1.1, show decide (((s.getD ((s.length : Int) - z.length - 1).toNat 0).toNat : Int) = 46) = decide (s.getD ((s.length : Int) - z.length - 1).toNat 0 = 46) from decide_eq_decide.2 byte_46]
  simp only [Bool.cond_true_left, Bool.cond_false_right, Bool.true_and, Bool.or_assoc, Bool.and_assoc]
set_option maxRecDepth 100000 in
theorem ref_client (s : List UInt8) (w : World) (h : s.length ≤ 140737488355328) : Fn Tryd.prog 84 [.string (S s)] w [] fun v L' => v = .bool (clMay s) ∧ L' = [] := by
  refine Fn.enter Tryd.func84 rfl rfl rfl rfl (Holds.nil w) ?_
  refine CW.seq ?_
  refine CW.region ?_
  refine W.p O.as ?_
  refine WL.nil (Q.tn ?_)
  refine CW.seq ?_
  refine CW.region ?_
  refine W.p O.mv ?_
  refine W.p O.len ?_
  refine W.p O.geq ?_
  refine W.p O.mv ?_
  refine W.p O.mv ?_
  refine W.p O.len ?_
  refine W.p O.leq ?_
  refine W.p O.pkB ?_
  refine W.p O.as ?_
  refine WL.nil (Q.tn ?_)
  refine CW.ret ?_
  refine ⟨_, [], (RVs.tmp rfl RVs.nil), List.nil_sublist _, ?_⟩
  refine ⟨congrArg Value.bool ?_, rfl⟩
  rw [Bool.eq_iff_iff]
  simp [clMay, *]
  try omega
set_option maxRecDepth 100000 in
theorem ref_static (r : RR) (z : List UInt8) (w : World) (h1 : r.name.length ≤ 4194304) (h2 : r.target.length ≤ 4194304) (h3 : z.length ≤ 4194304) : Fn Tryd.prog 85 [vR r, .string (S z)] w [] fun v L' => v = .bool (stMay z r) ∧ L' = [] := by
  refine Fn.enter Tryd.func85 rfl rfl rfl rfl (Holds.nil w) ?_
  refine CW.seq ?_
  refine CW.region ?_
  refine W.bx rfl (vt rfl) rfl fun b1 => ?_
  refine W.p O.as ?_
  refine WL.nil (Q.tn ?_)
  refine CW.seq ?_
  refine CW.region ?_
  refine W.p O.lds ?_
  refine W.q (O.call ⟨rfl, rfl⟩ (AV.cons (vt rfl) (AV.nil)) (fun _ w hw => ref_RrMay r w (by omega) (by omega))) ?_
  refine W.p O.mv ?_
  first | refine W.p O.fb ?_ | refine W.p O.fa ?_
  refine W.p O.ld ?_
  refine W.p O.eqI ?_
  refine W.p O.mv ?_
  first | refine W.p O.fb ?_ | refine W.p O.fa ?_
  refine W.p O.ld ?_
  refine W.p O.eqI ?_
  refine W.p O.pkB ?_
  refine W.p O.mv ?_
  first | refine W.p O.fb ?_ | refine W.p O.fa ?_
  refine W.p O.ld ?_
  refine W.p O.eqI ?_
  refine W.p O.pkB ?_
  refine W.p O.pkB ?_
  refine W.p O.mv ?_
  first | refine W.p O.fb ?_ | refine W.p O.fa ?_
  refine W.p O.ld ?_
  refine W.p O.mv ?_
  refine W.p O.neS ?_
  refine W.p O.pkB ?_
  refine W.p O.mv ?_
  first | refine W.p O.fb ?_ | refine W.p O.fa ?_
  refine W.p O.ld ?_
  refine W.p O.mv ?_
  refine W.q (O.call ⟨rfl, rfl⟩ (AV.cons (vs rfl) (AV.cons (vs rfl) (AV.nil))) (fun _ w hw => ref_Under _ _ w (by omega) (by omega))) ?_
  refine W.p O.pkB ?_
  refine W.p O.as ?_
  refine WL.nil (Q.tn ?_)
  refine CW.ret ?_
  refine ⟨_, [], (RVs.tmp rfl RVs.nil), List.nil_sublist _, ?_⟩
  refine ⟨congrArg Value.bool ?_, rfl⟩
  rw [stMay]
  cases rrMay r <;> cases decide (r.type = 1) <;> cases decide (r.type = 5) <;> cases decide (r.type = 16) <;> cases decide (r.name = z) <;> cases under r.name z <;> rfl
set_option maxRecDepth 100000 in
theorem ref_Dhcid (cl nm : List UInt8) (w : World) (h1 : cl.length ≤ 4398046511104) (h2 : nm.length ≤ 4398046511104) : Fn Tryd.prog 52 [.string (S cl), .string (S nm)] w [] fun v L' => v = .tuple #[.string (S (dhcid cl nm)), .int .i64 (if clMay cl = true ∧ nmMay nm = true then 0 else 900)] ∧ L' = [] := by
  have hsl : (cl ++ [0] ++ nm).length ≤ 8796093022209 := by simp only [List.length_append, List.length_cons, List.length_nil]; omega
  refine Fn.enter Tryd.func52 rfl rfl rfl rfl (Holds.nil w) ?_
  refine CW.seq ?_
  refine CW.region ?_
  refine W.p O.as ?_
  refine W.p O.as ?_
  refine WL.nil (Q.tn ?_)
  refine CW.seq ?_
  refine CW.seq ?_
  refine CW.region ?_
  refine W.p O.mv ?_
  refine W.p O.len ?_
  refine W.p O.lss ?_
  refine W.p O.mv ?_
  refine W.p O.mv ?_
  refine W.p O.len ?_
  refine W.p O.gtr ?_
  refine W.p O.pkB ?_
  refine W.p O.mv ?_
  refine W.p O.mv ?_
  refine W.q (O.call ⟨rfl, rfl⟩ (AV.cons (vs rfl) (AV.nil)) (fun _ w hw => ref_NameMay _ w (by omega))) ?_
  refine W.p O.nt ?_
  refine W.p O.pkB ?_
  refine WL.nil (Q.tn ?_)
  refine CW.cond (vt rfl) (fun hc1 => ?_) (fun hc1 => ?_)
  · try simp only [sk] at hc1
    refine CW.seq ?_
    refine CW.region ?_
    refine W.p O.as ?_
    refine W.p O.as ?_
    refine WL.nil (Q.tn ?_)
    refine CW.ret (Q.tr ?_)
    refine ⟨_, [], (RVs.tmp rfl (RVs.tmp rfl RVs.nil)), List.nil_sublist _, ?_⟩
    have hq : ¬(clMay cl = true ∧ nmMay nm = true) := by rw [clMay]; simp only [Bool.and_eq_true, decide_eq_true_eq]; rintro ⟨a, b⟩; rcases hc1 with (h | h) | h; (omega); (omega); (rw [h] at b; cases b)
    rw [dhcid, if_neg hq, if_neg hq]; exact ⟨rfl, rfl⟩
  try simp only [sk] at hc1
  refine CW.skip (Q.tn ?_)
  refine CW.seq ?_
  refine CW.region ?_
  refine W.p O.as ?_
  refine WL.nil (Q.tn ?_)
  refine CW.seq ?_
  refine CW.region ?_
  refine W.p O.mv ?_
  refine W.p O.addS ?_
  refine W.p O.mv ?_
  refine W.p O.addS ?_
  refine W.p O.as ?_
  refine WL.nil (Q.tn ?_)
  refine CW.seq ?_
  refine CW.seq ?_
  refine CW.region ?_
  refine W.p O.as ?_
  refine WL.nil (Q.tn ?_)
  refine CW.block ?_
  refine CW.loopA (X := Int × Int) (fun ⟨i, x⟩ => [(6, true, .int .u32 x), (7, true, .string (S (cl ++ [0] ++ nm))), (8, true, .int .i64 i)]) (fun ⟨i, x⟩ => []) (fun ⟨i, x⟩ => 0 ≤ i ∧ i ≤ (cl ++ [0] ++ nm).length ∧ x = ((fnv ((cl ++ [0] ++ nm).take i.toNat) : Nat) : Int)) (fun ⟨i, x⟩ => ((cl ++ [0] ++ nm).length - i).toNat) (0, 2166136261) ?_ ?_
  · exact ⟨by omega, by omega, rfl⟩
  rintro ⟨i, x⟩ hI
  try dsimp only at hI ⊢
  obtain ⟨h0, h1, hx⟩ := hI
  refine CW.seq ?_
  refine CW.seq ?_
  refine CW.region ?_
  refine W.p O.mv ?_
  refine W.p O.mv ?_
  refine W.p O.len ?_
  refine W.p O.lss ?_
  refine WL.nil (Q.tn ?_)
  refine CW.cond (vt rfl) (fun hc2 => ?_) (fun hc2 => ?_)
  · try simp only [sk] at hc2
    refine CW.skip (Q.tn ?_)
    refine CW.seq ?_
    refine CW.block ?_
    refine CW.region ?_
    refine W.p O.mv ?_
    refine W.p O.mv ?_
    refine W.p O.mv ?_
    first | refine W.p O.idxS ?_ | refine W.p (O.idxS (h := fun hg => by simp only [cond_true, cond_false, Bool.true_and, Bool.cond_false_right, Bool.cond_true_left, Bool.and_eq_true, Bool.or_eq_true, Bool.or_eq_false_iff, Bool.and_eq_false_iff, Bool.not_eq_true', Bool.not_eq_false', decide_eq_true_eq, decide_eq_false_iff_not, Int.reduceToNat] at *; omega)) ?_
    refine W.p O.cv ?_
    refine W.p O.xor ?_
    refine W.p O.mul ?_
    refine W.p O.as ?_
    refine WL.nil (Q.bn (Q.tn ?_))
    refine CW.region ?_
    refine W.p O.mv ?_
    first | refine W.p O.addN ?_ | refine W.p O.add ?_
    refine W.p O.as ?_
    refine WL.nil (Q.tn ?_)
    refine nextA (_, _) ?_ ?_
    · try dsimp only
      refine ⟨by omega, by omega, ?_⟩
      rw [hx]; exact fnv_step h0 hc2
    · try dsimp only
      omega
  try simp only [sk] at hc2
  refine CW.exit (Q.te (Q.te (Q.bx (Q.tn ?_))))
  refine CW.seq ?_
  refine CW.region ?_
  refine W.p O.mv ?_
  refine W.p O.cv ?_
  refine W.q (O.call ⟨rfl, rfl⟩ (AV.cons (vt rfl) (AV.cons (vt rfl) (AV.nil))) (fun _ w hw => ref_Num _ 4 w (by decide) (by decide))) ?_
  refine W.p O.addS ?_
  refine W.p O.as ?_
  refine W.p O.as ?_
  refine WL.nil (Q.tn ?_)
  refine CW.ret ?_
  refine ⟨_, [], (RVs.tmp rfl (RVs.tmp rfl RVs.nil)), List.nil_sublist _, ?_⟩
  have hq : clMay cl = true ∧ nmMay nm = true := ⟨by rw [clMay]; simp only [Bool.and_eq_true, decide_eq_true_eq]; omega, hc1.2⟩
  have hf := fnv_lt (cl ++ [0] ++ nm)
  rw [hx, List.take_of_length_le (by omega), wrap_in _ (by omega), dhcid, if_pos hq, if_pos hq, show cl ++ [0] ++ nm = cl ++ 0 :: nm by simp]; exact ⟨rfl, rfl⟩
set_option maxRecDepth 100000 in
theorem ref_Addr (h : Int) (w : World) (h0 : 1 ≤ h) (h1 : h ≤ 254) : Fn Tryd.prog 51 [.int .i64 h] w [] fun v L' => v = .tuple #[.int .i64 (167772160 + h), .int .i64 0] ∧ L' = [] := by
  refine Fn.enter Tryd.func51 rfl rfl rfl rfl (Holds.nil w) ?_
  refine CW.seq ?_
  refine CW.region ?_
  refine W.p O.as ?_
  refine W.p O.as ?_
  refine WL.nil (Q.tn ?_)
  refine CW.seq ?_
  refine CW.seq ?_
  refine CW.region ?_
  refine W.p O.mv ?_
  refine W.p O.lss ?_
  refine W.p O.mv ?_
  refine W.p O.mv ?_
  refine W.p O.gtr ?_
  refine W.p O.pkB ?_
  refine WL.nil (Q.tn ?_)
  refine CW.cond (vt rfl) (fun hc1 => ?_) (fun hc1 => ?_)
  · simp at hc1; omega
  try simp only [sk] at hc1
  refine CW.skip (Q.tn ?_)
  refine CW.seq ?_
  refine CW.region ?_
  refine W.p O.mv ?_
  first | refine W.p O.addN ?_ | refine W.p O.add ?_
  refine W.p O.as ?_
  refine W.p O.as ?_
  refine WL.nil (Q.tn ?_)
  refine CW.ret ?_
  refine ⟨_, [], (RVs.tmp rfl (RVs.tmp rfl RVs.nil)), List.nil_sublist _, ?_⟩
  exact ⟨rfl, rfl⟩
set_option maxRecDepth 100000 in
theorem ref_Decimal (x : Int) (w : World) (h0 : 0 ≤ x) (h1 : x ≤ 4611686018427387904) : Fn Tryd.prog 26 [.int .i64 x] w [] fun v L' => v = .string (S (Lib.itoa x)) ∧ L' = [] := by
  obtain ⟨n, rfl⟩ := Int.eq_ofNat_of_zero_le h0
  have h20 := dig_len20 18 n (by omega)
  refine Fn.enter Tryd.func26 rfl rfl rfl rfl (Holds.nil w) ?_
  refine CW.seq ?_
  refine CW.region ?_
  refine W.p O.as ?_
  refine WL.nil (Q.tn ?_)
  refine CW.seq ?_
  refine CW.region ?_
  refine W.p O.mv ?_
  refine W.p O.cvUn ?_
  refine W.p O.as ?_
  refine WL.nil (Q.tn ?_)
  refine CW.seq ?_
  refine CW.seq ?_
  refine CW.region ?_
  refine W.p O.mv ?_
  refine W.p O.lss ?_
  refine WL.nil (Q.tn ?_)
  refine CW.cond (vt rfl) (fun hc1 => ?_) (fun hc1 => ?_)
  · exact absurd (of_decide_eq_true hc1) (by omega)
  try simp only [sk] at hc1
  refine CW.skip (Q.tn ?_)
  refine CW.seq ?_
  refine CW.region ?_
  refine W.p O.as ?_
  refine WL.nil (Q.tn ?_)
  refine CW.seq ?_
  refine CW.block ?_
  refine CW.loopA (X := Int × (List UInt8) × (Option Nat) × Nat × (List Value)) (fun ⟨u, out, o, ca, sp⟩ => [(0, true, .int .i64 (n : Int)), (3, true, .int .u64 u), (4, true, .slice (oa o) out.length ca)]) (fun ⟨u, out, o, ca, sp⟩ => rowL o 5 (flat encB out sp)) (fun ⟨u, out, o, ca, sp⟩ => 0 ≤ u ∧ u ≤ 4611686018427387904 ∧ OwnOk o ca 1 out.length sp.length ∧ DecI n u.toNat out) (fun ⟨u, out, o, ca, sp⟩ => (if out = [] then u.toNat + 1 else u.toNat)) ((n : Int) % 18446744073709551616, [], none, 0, []) ?_ ?_
  · exact ⟨by omega, by omega, OwnOk.nil, by rw [show ((n : Int) % 18446744073709551616).toNat = n by omega]; exact DecI.new n⟩
  rintro ⟨u, out, o, ca, sp⟩ hI
  try dsimp only at hI ⊢
  obtain ⟨hu0, hu1, hok, hd⟩ := hI
  have nk := hok.nk
  have hol := hd.len
  have hw1 : IntKind.u64.wrap (u / 10) = u / 10 := by rw [wrap_u64]; omega
  have hw2 : byteOf (IntKind.u64.wrap (48 + u % 10)) = UInt8.ofNat (48 + u.toNat % 10) := by rw [wrap_u64, show (48 + u % 10) % 18446744073709551616 = ((48 + u.toNat % 10 : Nat) : Int) by omega]; exact byteOf_nat _
  refine CW.seq ?_
  refine CW.seq ?_
  refine CW.region ?_
  refine W.p O.mv ?_
  refine W.p O.gtr ?_
  refine W.p O.mv ?_
  refine W.p O.mv ?_
  refine W.p O.lenL ?_
  refine W.p O.eqI ?_
  refine W.p O.pkB ?_
  refine WL.nil (Q.tn ?_)
  refine CW.cond (vt rfl) (fun hc2 => ?_) (fun hc2 => ?_)
  · try simp only [sk] at hc2
    refine CW.skip (Q.tn ?_)
    refine CW.block ?_
    refine CW.seq ?_
    refine CW.region ?_
    refine W.p O.mv ?_
    refine W.p O.rem ?_
    refine W.p O.add ?_
    refine W.p O.cvI8 ?_
    refine W.bs encB [_] rfl (PV.cons (vt rfl) (PV.nil)) rfl rfl rfl (by decide) rfl fun b1 => ?_
    refine W.p O.mv ?_
    refine W.ap (o := some _) rfl (vt rfl) (vt rfl) (by first | rfl | omega) (by first | rfl | omega) rfl (by first | assumption | exact OwnOk.nil | exact OwnOk.lit | exact ⟨by simp, rfl, Nat.le_refl _, by decide⟩) (by first | omega | (simp; omega)) fun o1 c1 sp1 ok1 ne1 gt1 => ?_
    have nk1 := ok1.nk; have le1 := ok1.2.2.1; try simp only [List.length_append, List.length_cons, List.length_nil] at le1
    refine W.p O.as ?_
    refine WL.nil (Q.tn ?_)
    refine CW.region ?_
    refine W.p O.mv ?_
    refine W.p O.quo ?_
    refine W.p O.as ?_
    refine WL.nil (Q.bn (Q.tn ?_))
    refine nextA (IntKind.u64.wrap (u / 10), [byteOf (IntKind.u64.wrap (48 + u % 10))] ++ out, _, _, _) ?_ ?_
    · try dsimp only
      refine ⟨by rw [hw1]; omega, by rw [hw1]; omega, by assumption, ?_⟩
      rw [hw1, hw2, show (u / 10).toNat = u.toNat / 10 by omega]; exact hd.step (by rcases hc2 with h | h; (left; omega); (right; exact List.eq_nil_of_length_eq_zero (by omega)))
    · try dsimp only
      rw [hw1, if_neg (by simp)]; split; (omega); (rename_i hne; have : 0 < u := by { rcases hc2 with h | h; exact h; exact absurd (List.eq_nil_of_length_eq_zero (by omega)) hne }; omega)
  try simp only [sk] at hc2
  obtain ⟨b, rfl⟩ : ∃ b, o = some b := by cases o with | some b => exact ⟨b, rfl⟩ | none => exact absurd (nk.h rfl) (fun e => by subst e; simp at hc2)
  refine CW.exit (Q.te (Q.te (Q.bx (Q.tn ?_))))
  refine CW.seq ?_
  refine CW.seq ?_
  refine CW.region ?_
  refine W.p O.mv ?_
  refine W.p O.lss ?_
  refine WL.nil (Q.tn ?_)
  refine CW.cond (vt rfl) (fun hc3 => ?_) (fun hc3 => ?_)
  · exact absurd (of_decide_eq_true hc3) (by omega)
  try simp only [sk] at hc3
  refine CW.skip (Q.tn ?_)
  refine CW.seq ?_
  refine CW.region ?_
  refine W.p O.mv ?_
  refine W.p (O.cvRow ⟨rfl, rfl⟩ (vt rfl) (by first | rfl | omega) (fun _ => ⟨_, rfl⟩)) ?_
  refine W.p O.as ?_
  refine WL.nil (Q.tn ?_)
  refine CW.ret ?_
  refine ⟨_, [], (RVs.tmp rfl RVs.nil), List.nil_sublist _, ?_⟩
  rw [hd.end (by omega) (fun e => by subst e; simp at hc2), Lib.itoa, if_neg (by omega), Int.toNat_natCast]; exact ⟨rfl, rfl⟩
set_option maxRecDepth 100000 in
theorem ref_Reverse (h : Int) (w : World) (h0 : 0 ≤ h) (h1 : h ≤ 999) : Fn Tryd.prog 53 [.int .i64 h] w [] fun v L' => v = .string (S (decD h ++ backN)) ∧ L' = [] := by
  have hdl := decD_len h
  rw [decD_itoa h0 (by omega)] at hdl ⊢
  refine Fn.enter Tryd.func53 rfl rfl rfl rfl (Holds.nil w) ?_
  refine CW.seq ?_
  refine CW.region ?_
  refine W.p O.as ?_
  refine WL.nil (Q.tn ?_)
  refine CW.seq ?_
  refine CW.region ?_
  refine W.p O.mv ?_
  refine W.q (O.call ⟨rfl, rfl⟩ (AV.cons (vt rfl) (AV.nil)) (fun _ w hw => ref_Decimal h w h0 (by omega))) ?_
  refine W.p O.addS ?_
  refine W.p O.as ?_
  refine WL.nil (Q.tn ?_)
  refine CW.ret ?_
  refine ⟨_, [], (RVs.tmp rfl RVs.nil), List.nil_sublist _, ?_⟩
  exact ⟨rfl, rfl⟩
end Go.Proofs.YtagiajnpnjakhaaDoor
