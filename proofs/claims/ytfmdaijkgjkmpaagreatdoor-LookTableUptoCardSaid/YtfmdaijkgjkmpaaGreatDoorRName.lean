/- Several texts in one (RName). Their conditions are their own. -/
import Derived.Test.YtfmdaijkgjkmpaaGreatDoorWire
import Derived.Test.YtfmdaijkgjkmpaaGreatDoorLaw0
set_option linter.unusedVariables false
set_option linter.unusedSimpArgs false
namespace Go.Proofs.YtfmdaijkgjkmpaaGreatDoor
open Go Go.RowKit
set_option maxRecDepth 100000 in
theorem ref_labelMay (s : List UInt8) (w : World) (hn : s.length ≤ 140737488355328) : Fn Tryz.prog 56 [.string (S s)] w [] fun v L' => v = .bool (labOk s) ∧ L' = [] := by
 refine Fn.enter Tryz.func56 rfl rfl rfl rfl (Holds.nil w) ?_
 refine W.go ?_
 refine CW.loopA (X := Int) (fun i => [(0, true, .string (S s)), (3, true, .int .i64 i)]) (fun i => []) (fun i => 0 ≤ i ∧ i ≤ s.length ∧ (s.take i.toNat).all isL = true) (fun i => (s.length - i).toNat) (0) ?_ ?_
 ·exact ⟨by omega, by omega, rfl⟩
 rintro i hI
 try dsimp only at hI ⊢
 obtain ⟨h0, h1, ha⟩ := hI
 refine W.go ?_
 refine CW.cond (vt rfl) (fun hc1 => ?_) (fun hc1 => ?_)
 ·try simp only [sk] at hc1
  refine W.go ?_
  first | refine W.p O.idxS ?_ | refine W.p (O.idxS (h := fun hg => by simp only [cond_true, cond_false, Bool.true_and, Bool.cond_false_right, Bool.cond_true_left, Bool.and_eq_true, Bool.or_eq_true, Bool.or_eq_false_iff, Bool.and_eq_false_iff, Bool.not_eq_true', Bool.not_eq_false', decide_eq_true_eq, decide_eq_false_iff_not, Int.reduceToNat] at *; omega)) ?_
  refine W.go ?_
  refine CW.cond (vt rfl) (fun hc2 => ?_) (fun hc2 => ?_)
  ·try simp only [sk] at hc2
   refine W.go ?_
   refine ⟨_, [], (RVs.tmp rfl RVs.nil), List.nil_sublist _, ?_⟩
   refine ⟨congrArg Value.bool ?_, rfl⟩
   have hm : s.getD i.toNat 0 ∈ s := mem_at 0 h0 hc1
   have hl : ¬ isL (s.getD i.toNat 0) = true := by rw [isL_iff]; omega
   have : s.all isL = false := by rw [List.all_eq_false]; exact ⟨_, hm, hl⟩
   simp [labOk, this]
  try simp only [sk] at hc2
  refine W.go ?_
  refine nextA (_) ?_ ?_
  ·try dsimp only
   have hl : isL (s.getD i.toNat 0) = true := by rw [isL_iff]; omega
   refine ⟨by omega, by omega, ?_⟩
   rw [take_at' 0 h0 hc1, List.all_append, ha]; simp only [List.all_cons, hl, List.all_nil, Bool.and_true]
  ·try dsimp only
   omega
 try simp only [sk] at hc1
 refine W.go ?_
 refine ⟨_, [], (RVs.tmp rfl RVs.nil), List.nil_sublist _, ?_⟩
 refine ⟨congrArg Value.bool ?_, rfl⟩
 have e : i = s.length := by omega
 have ha' : s.all isL = true := by rw [e] at ha; simpa using ha
 have e3 : decide (1 ≤ (s.length : Int)) = decide (1 ≤ s.length) := decide_eq_decide.2 (by omega)
 have e4 : decide ((s.length : Int) ≤ 8) = decide (s.length ≤ 8) := decide_eq_decide.2 (by omega)
 simp only [labOk, ha']
 simp_all
theorem byte_46 {b : UInt8} : (b.toNat : Int) = 46 ↔ b = 46 := by
 constructor
 ·intro h; apply UInt8.toNat_inj.1; simp; omega
 ·rintro rfl; rfl
set_option maxRecDepth 100000 in
theorem ref_parts (s : List UInt8) (w : World) (hn : s.length ≤ 4398046511104) : Fn Tryz.prog 55 [.string (S s)] w [] (Fresh encS 9 1 (split s)) := by
 refine Fn.enter Tryz.func55 rfl rfl rfl rfl (Holds.nil w) ?_
 refine W.go ?_
 refine CW.loopA (X := Int × Int × (List (List UInt8)) × (Option Nat) × Nat × (List Value)) (fun ⟨i, fr, out, o, c, sp⟩ => [(0, true, .string (S s)), (3, true, .slice (oa o) out.length c), (4, true, .int .i64 fr), (5, true, .int .i64 i)]) (fun ⟨i, fr, out, o, c, sp⟩ => rowL o 9 (flat encS out sp)) (fun ⟨i, fr, out, o, c, sp⟩ => 0 ≤ fr ∧ fr ≤ i ∧ i ≤ s.length + 1 ∧ OwnOk o c 1 out.length sp.length ∧ out.length ≤ i ∧ PartsI s i fr out) (fun ⟨i, fr, out, o, c, sp⟩ => (s.length + 1 - i).toNat) (0, 0, [], none, 0, []) ?_ ?_
 ·exact ⟨by omega, by omega, by omega, OwnOk.nil, by simp, partsI_new s⟩
 rintro ⟨i, fr, out, o, c, sp⟩ hI
 try dsimp only at hI ⊢
 obtain ⟨h0, h1, h2, hok, hol, hP⟩ := hI
 have nk := hok.nk
 refine W.go ?_
 refine CW.cond (vt rfl) (fun hc1 => ?_) (fun hc1 => ?_)
 ·try simp only [sk] at hc1
  refine W.go ?_
  first | refine W.p O.idxS ?_ | refine W.p (O.idxS (h := fun hg => by simp only [cond_true, cond_false, Bool.true_and, Bool.cond_false_right, Bool.cond_true_left, Bool.and_eq_true, Bool.or_eq_true, Bool.or_eq_false_iff, Bool.and_eq_false_iff, Bool.not_eq_true', Bool.not_eq_false', decide_eq_true_eq, decide_eq_false_iff_not, Int.reduceToNat] at *; omega)) ?_
  refine W.go ?_
  refine CW.cond (vt rfl) (fun hc2 => ?_) (fun hc2 => ?_)
  ·try simp only [sk] at hc2
   refine W.go ?_
   refine W.p O.slc ?_
   refine W.bs encS [_] rfl (PV.cons (vt rfl) (PV.nil)) rfl rfl rfl (by decide) rfl fun b1 => ?_
   refine W.ap rfl (vt rfl) (vt rfl) (by first | rfl | omega) (by first | rfl | omega) rfl (by first | assumption | exact OwnOk.nil | exact OwnOk.lit) (by first | omega | (simp; omega)) fun o1 c1 sp1 ok1 ne1 gt1 => ?_
   have nk1 := ok1.nk; have le1 := ok1.2.2.1; try simp only [List.length_append, List.length_cons, List.length_nil] at le1
   refine W.go ?_
   refine nextA (_, _, out ++ [slc s fr i], _, _, _) ?_ ?_
   ·try dsimp only
    refine ⟨by omega, by omega, by omega, by assumption, by simp only [List.length_append, List.length_cons, List.length_nil]; omega, partsI_cut hP h0 h1 hc1 (by rcases hc2 with h | h; exact .inl h; exact .inr (byte_46.1 h))⟩
   ·try dsimp only
    omega
  try simp only [sk] at hc2
  refine W.go ?_
  refine nextA (_, _, out, _, _, _) ?_ ?_
  ·try dsimp only
   have hlt : i < s.length := by omega
   exact ⟨by omega, by omega, by omega, hok, by omega, partsI_go hP h0 h1 hlt (fun e => hc2.2 (byte_46.2 e))⟩
  ·try dsimp only
   omega
 try simp only [sk] at hc1
 refine W.go ?_
 refine ⟨_, rowL o 9 (flat encS out sp), (RVs.tmp rfl RVs.nil), (by repeat (first | exact List.Sublist.refl _ | exact hSub _ | exact List.sublist_append_left _ _ | exact List.nil_sublist _ | refine List.Sublist.append (List.Sublist.refl _) ?_ | apply List.Sublist.cons_cons | apply List.Sublist.cons | exact List.sublist_append_left _ _ | refine List.Sublist.trans ?_ (List.sublist_append_right _ _))), ?_⟩
 rw [partsI_end hP hc1]
 exact ⟨o, c, sp, rfl, hok, rfl⟩
set_option maxRecDepth 100000 in
theorem ref_NameMay (s : List UInt8) (w : World) (hn : s.length ≤ 4398046511104) : Fn Tryz.prog 24 [.string (S s)] w [] fun v L' => v = .bool (nmMay s) ∧ L' = [] := by
 have hsl := split_len s
 refine Fn.enter Tryz.func24 rfl rfl rfl rfl (Holds.nil w) ?_
 refine W.go ?_
 refine CW.cond (vt rfl) (fun hc1 => ?_) (fun hc1 => ?_)
 ·try simp only [sk] at hc1
  refine W.go ?_
  refine ⟨_, [], (RVs.tmp rfl RVs.nil), List.nil_sublist _, ?_⟩
  refine ⟨congrArg Value.bool ?_, rfl⟩
  simp [nmMay, hc1]
 try simp only [sk] at hc1
 refine W.go ?_
 refine W.callN (first := []) (cap := []) rfl (vt rfl) (AV.cons (vt rfl) (AV.nil)) (fun w hu => ref_parts _ w (by omega)) ?_; rintro _ _ ⟨o9, c9, sp9, rfl, ok9, rfl⟩; have nk9 := ok9.nk
 refine W.go ?_
 refine CW.loopA (X := Int) (fun i => [(3, true, .slice (oa o9) (split s).length c9), (4, true, .int .i64 i)]) (fun i => rowL o9 9 (flat encS (split s) sp9)) (fun i => 0 ≤ i ∧ i ≤ (split s).length ∧ ((split s).take i.toNat).all labOk = true) (fun i => ((split s).length - i).toNat) (0) ?_ ?_
 ·exact ⟨by omega, by omega, rfl⟩
 rintro i hI
 try dsimp only at hI ⊢
 obtain ⟨h0, h1, ha⟩ := hI
 have hml : i < (split s).length → ((split s).getD i.toNat []).length ≤ s.length := fun h => split_mem_len (mem_at [] h0 h)
 refine W.go ?_
 refine CW.cond (vt rfl) (fun hc2 => ?_) (fun hc2 => ?_)
 ·try simp only [sk] at hc2
  refine W.go ?_
  refine W.q (O.call ⟨rfl, rfl⟩ (AV.cons (vt rfl) (AV.nil)) (fun _ w hw => ref_labelMay _ w (by omega))) ?_
  refine W.go ?_
  refine CW.cond (vt rfl) (fun hc3 => ?_) (fun hc3 => ?_)
  ·try simp only [sk] at hc3
   refine W.go ?_
   refine ⟨_, [], (RVs.tmp rfl RVs.nil), List.nil_sublist _, ?_⟩
   refine ⟨congrArg Value.bool ?_, rfl⟩
   have hno : (split s).all labOk = false := by rw [List.all_eq_false]; exact ⟨_, mem_at [] h0 hc2, by rw [hc3]; decide⟩
   simp [nmMay, hc1, hno]
  try simp only [sk] at hc3
  refine W.go ?_
  refine nextA (_) ?_ ?_
  ·try dsimp only
   refine ⟨by omega, by omega, ?_⟩
   rw [take_at' [] h0 hc2, List.all_append, ha]; simp only [List.all_cons, hc3, List.all_nil, Bool.and_true]
  ·try dsimp only
   omega
 try simp only [sk] at hc2
 refine W.go ?_
 refine ⟨_, [], (RVs.tmp rfl RVs.nil), List.nil_sublist _, ?_⟩
 refine ⟨congrArg Value.bool ?_, rfl⟩
 have e : (split s).take i.toNat = split s := List.take_of_length_le (by omega)
 rw [e] at ha
 rw [nmMay, ha, decide_eq_false hc1, Bool.false_or, Bool.true_and]
 exact decide_eq_decide.2 (by omega)
set_option maxRecDepth 100000 in
theorem ref_Fold (s : List UInt8) (w : World) (hn : s.length ≤ 140737488355328) : Fn Tryz.prog 87 [.string (S s)] w [] fun v L' => v = .string (S (fold s)) ∧ L' = [] := by
 refine Fn.enter Tryz.func87 rfl rfl rfl rfl (Holds.nil w) ?_
 refine CW.seq ?_
 refine CW.region ?_
 refine W.p O.as ?_
 refine WL.nil (Q.tn ?_)
 refine CW.seq ?_
 refine CW.region ?_
 refine W.p O.mv ?_
 refine W.cvSB rfl (vt rfl) fun b1 c1 sp1 le1 => ?_
 refine W.go ?_
 refine CW.loopA (X := Int × (List UInt8)) (fun ⟨i, xs⟩ => [(3, true, .slice (some ⟨b1, 0, none⟩) s.length c1), (4, true, .int .i64 i)]) (fun ⟨i, xs⟩ => [(b1, .cells (flat encB xs sp1).toArray 5 (c1, c1 + 1))]) (fun ⟨i, xs⟩ => 0 ≤ i ∧ i ≤ s.length ∧ xs.length = s.length ∧ xs = (s.take i.toNat).map lower ++ s.drop i.toNat) (fun ⟨i, xs⟩ => (s.length - i).toNat) (0, s) ?_ ?_
 ·exact ⟨by omega, by omega, rfl, by simp⟩
 rintro ⟨i, xs⟩ hI
 try dsimp only at hI ⊢
 obtain ⟨h0, h1, hl, hx⟩ := hI
 refine W.go ?_
 refine CW.cond (vt rfl) (fun hc1 => ?_) (fun hc1 => ?_)
 ·try simp only [sk] at hc1
  refine W.go ?_
  refine CW.cond (vt rfl) (fun hc2 => ?_) (fun hc2 => ?_)
  ·try simp only [sk] at hc2
   refine W.go ?_
   refine W.stZ (lower (xs.getD i.toNat 0)) (vt rfl) (vt rfl) (by exact lower_int2 _ (by omega)) (by omega) (by omega) ?_
   refine W.go ?_
   refine nextA (_, xs.set i.toNat (lower (xs.getD i.toNat 0))) ?_ ?_
   ·try dsimp only
    have e := fold_step h0 hc1 hl hx
    refine ⟨by omega, by omega, by simpa using hl, e⟩
   ·try dsimp only
    omega
  try simp only [sk] at hc2
  refine W.go ?_
  refine nextA (_, xs) ?_ ?_
  ·try dsimp only
   have e := fold_step h0 hc1 hl hx
   have e2 : lower (xs.getD i.toNat 0) = xs.getD i.toNat 0 := by rw [lower, if_neg (by omega)]
   rw [e2] at e
   refine ⟨by omega, by omega, hl, ?_⟩
   rw [← e, List.getD_eq_getElem?_getD, List.getElem?_eq_getElem (by omega)]; simp
  ·try dsimp only
   omega
 try simp only [sk] at hc1
 refine W.go ?_
 refine W.p (O.cvRow ⟨rfl, rfl⟩ (vt rfl) (by first | rfl | omega) (fun _ => ⟨_, rfl⟩)) ?_
 refine W.go ?_
 refine ⟨_, [], (RVs.tmp rfl RVs.nil), List.nil_sublist _, ?_⟩
 refine ⟨?_, rfl⟩
 have e : i = s.length := by omega
 rw [hx, e]; simp [fold]; rfl
set_option maxRecDepth 100000 in
theorem ref_knownMay (ks : List Kn) (a : Option Addr) (c : Nat) (w : World) (h : In w a (ks.flatMap encK)) (hn : ks.length ≤ 1000000000) (hl : ∀ k ∈ ks, k.name.length ≤ 4398046511104) : Fn Tryz.prog 121 [.slice a ks.length c] w [] fun v L' => v = .bool (ks.all knOk) ∧ L' = [] := by
 have row := Row.ofE h
 refine Fn.enter Tryz.func121 rfl rfl rfl rfl (Holds.nil w) ?_
 refine W.go ?_
 refine CW.loopA (X := Int) (fun i => [(0, true, .slice a ks.length c), (3, true, .int .i64 i)]) (fun i => []) (fun i => 0 ≤ i ∧ i ≤ ks.length ∧ (ks.take i.toNat).all knOk = true) (fun i => (ks.length - i).toNat) (0) ?_ ?_
 ·exact ⟨by omega, by omega, rfl⟩
 rintro i hI
 try dsimp only at hI ⊢
 obtain ⟨h0, h1, ha⟩ := hI
 have hb : i < ks.length → (ks.getD i.toNat dK).name.length ≤ 4398046511104 := fun h => hl _ (mem_at dK h0 h)
 refine W.go ?_
 refine CW.cond (vt rfl) (fun hc1 => ?_) (fun hc1 => ?_)
 ·try simp only [sk] at hc1
  refine CW.skip (Q.tn ?_)
  refine CW.seq ?_
  refine CW.block ?_
  refine CW.seq ?_
  refine CW.region ?_
  refine W.p O.mv ?_
  refine W.p O.mv ?_
  refine W.p O.ixA ?_
  first | refine W.p O.fe ?_ | refine W.p O.feR ?_
  refine W.p O.ldE ?_
  refine W.p O.eqS ?_
  refine W.p O.mv ?_
  refine W.p O.mv ?_
  refine W.p O.mv ?_
  refine W.p O.ixA ?_
  first | refine W.p O.fe ?_ | refine W.p O.feR ?_
  refine W.go ?_
  refine W.q (O.call ⟨rfl, rfl⟩ (AV.cons (vs rfl) (AV.nil)) (fun _ w hw => ref_NameMay _ w (by omega))) ?_
  refine W.p O.nt ?_
  refine W.p O.pkB ?_
  refine W.p O.mv ?_
  refine W.p O.mv ?_
  refine W.p O.mv ?_
  refine W.p O.ixA ?_
  first | refine W.p O.fe ?_ | refine W.p O.feR ?_
  refine W.p O.ldE ?_
  refine W.p O.lss ?_
  refine W.p O.pkB ?_
  refine W.p O.mv ?_
  refine W.p O.mv ?_
  refine W.p O.mv ?_
  refine W.p O.ixA ?_
  first | refine W.p O.fe ?_ | refine W.p O.feR ?_
  refine W.go ?_
  refine CW.cond (vt rfl) (fun hc2 => ?_) (fun hc2 => ?_)
  ·try simp only [sk] at hc2
   refine W.go ?_
   refine ⟨_, [], (RVs.tmp rfl RVs.nil), List.nil_sublist _, ?_⟩
   refine ⟨congrArg Value.bool ?_, rfl⟩
   have hno : ks.all knOk = false := by rw [List.all_eq_false]; exact ⟨_, mem_at dK h0 hc1, by rw [knOk_iff]; rintro ⟨a1, a2, a3, a4⟩; rcases hc2 with ((h | h) | h) | h; exact a1 h; rw [h] at a2; cases a2; omega; omega⟩
   rw [hno]
  try simp only [sk] at hc2
  refine W.go ?_
  refine nextA (_) ?_ ?_
  ·try dsimp only
   have hk := kn_ok hc2
   exact ⟨by omega, by omega, by rw [take_at' dK h0 hc1, List.all_append, ha]; simp only [List.all_cons, hk, List.all_nil, Bool.and_true]⟩
  ·try dsimp only
   omega
 try simp only [sk] at hc1
 refine W.go ?_
 refine ⟨_, [], (RVs.tmp rfl RVs.nil), List.nil_sublist _, ?_⟩
 refine ⟨congrArg Value.bool ?_, rfl⟩
 have e : ks.take i.toNat = ks := List.take_of_length_le (by omega)
 rw [e] at ha
 rw [ha]
theorem kfind_take {ks : List Kn} {s : List UInt8} {i : Int} (h0 : 0 ≤ i) (h1 : i < ks.length) (hn : kfind (ks.take i.toNat) s = none) : kfind ks s = if (ks.getD i.toNat dK).name = s then some (ks.getD i.toNat dK).pos else kfind (ks.drop (i + 1).toNat) s := by
 have : ∀ (a b : List Kn), kfind a s = none → kfind (a ++ b) s = kfind b s := by
  intro a b h
  induction a with
  | nil => rfl
  | cons k r ih =>
   simp only [kfind] at h
   split at h
   ·cases h
   ·rename_i hne; simp only [List.cons_append, kfind, hne, if_false]; exact ih h
 conv => lhs; rw [← List.take_append_drop i.toNat ks, drop_at dK h0 h1]
 rw [this _ _ hn]; rfl
set_option maxRecDepth 100000 in
theorem ref_where (ks : List Kn) (s : List UInt8) (a : Option Addr) (c : Nat) (w : World) (h : In w a (ks.flatMap encK)) (hn : ks.length ≤ 1000000010) : Fn Tryz.prog 122 [.slice a ks.length c, .string (S s)] w [] fun v L' => v = .int .i64 ((kfind ks s).getD (-1)) ∧ L' = [] := by
 have row := Row.ofE h
 refine Fn.enter Tryz.func122 rfl rfl rfl rfl (Holds.nil w) ?_
 refine W.go ?_
 refine CW.loopA (X := Int) (fun i => [(0, true, .slice a ks.length c), (1, true, .string (S s)), (5, true, .int .i64 i)]) (fun i => []) (fun i => 0 ≤ i ∧ i ≤ ks.length ∧ kfind (ks.take i.toNat) s = none) (fun i => (ks.length - i).toNat) (0) ?_ ?_
 ·exact ⟨by omega, by omega, rfl⟩
 rintro i hI
 try dsimp only at hI ⊢
 obtain ⟨h0, h1, ha⟩ := hI
 refine W.go ?_
 refine CW.cond (vt rfl) (fun hc1 => ?_) (fun hc1 => ?_)
 ·try simp only [sk] at hc1
  refine CW.skip (Q.tn ?_)
  refine CW.seq ?_
  refine CW.block ?_
  refine CW.seq ?_
  refine CW.region ?_
  refine W.p O.mv ?_
  refine W.p O.mv ?_
  refine W.p O.ixA ?_
  first | refine W.p O.fe ?_ | refine W.p O.feR ?_
  refine W.go ?_
  refine CW.cond (vt rfl) (fun hc2 => ?_) (fun hc2 => ?_)
  ·try simp only [sk] at hc2
   refine CW.seq ?_
   refine CW.region ?_
   refine W.p O.mv ?_
   refine W.p O.mv ?_
   refine W.p O.ixA ?_
   first | refine W.p O.fe ?_ | refine W.p O.feR ?_
   refine W.go ?_
   refine ⟨_, [], (RVs.tmp rfl RVs.nil), List.nil_sublist _, ?_⟩
   refine ⟨congrArg (Value.int .i64) ?_, rfl⟩
   rw [kfind_take h0 hc1 ha, if_pos hc2]; rfl
  try simp only [sk] at hc2
  refine W.go ?_
  refine nextA (_) ?_ ?_
  ·try dsimp only
   exact ⟨by omega, by omega, by rw [take_at' dK h0 hc1, kfind_app, ha]; simp only [hc2, if_false]⟩
  ·try dsimp only
   omega
 try simp only [sk] at hc1
 refine W.go ?_
 refine ⟨_, [], (RVs.tmp rfl RVs.nil), List.nil_sublist _, ?_⟩
 refine ⟨congrArg (Value.int .i64) ?_, rfl⟩
 have e : ks.take i.toNat = ks := List.take_of_length_le (by omega)
 rw [e] at ha
 rw [ha]; rfl
end Go.Proofs.YtfmdaijkgjkmpaaGreatDoor

set_option linter.unusedVariables false
set_option linter.unusedSimpArgs false
namespace Go.Proofs.YtfmdaijkgjkmpaaGreatDoor
open Go Go.RowKit
set_option maxRecDepth 100000 in
theorem ref_PutName (at_ : Int) (ks : List Kn) (nm : List UInt8) (a : Option Addr) (c : Nat) (w : World) (h : In w a (ks.flatMap encK)) (hn : ks.length ≤ 1000000000) (hl : ∀ k ∈ ks, k.name.length ≤ 4398046511104) (hs : nm.length ≤ 4398046511104) :
  Fn Tryz.prog 92 [.int .i64 at_, .slice a ks.length c, .string (S nm)] w [] fun v L' => ∃ o c' sp, v = .tuple #[.string (S (nmPut at_ ks nm).1), .slice (oa o) (nmPut at_ ks nm).2.1.length c', .int .i64 (nmPut at_ ks nm).2.2] ∧ OwnOk o c' 2 (nmPut at_ ks nm).2.1.length (List.length sp) ∧ L' = rowL o 167 (flat encK (nmPut at_ ks nm).2.1 sp) := by
 have row := Row.ofE h
 refine Fn.enter Tryz.func92 rfl rfl rfl rfl (Holds.nil w) ?_
 refine W.go ?_
 refine W.q (O.call ⟨rfl, rfl⟩ (AV.cons (vs rfl) (AV.nil)) (fun _ w hw => ref_NameMay _ w (by omega))) ?_
 refine W.go ?_
 refine W.q (O.call ⟨rfl, rfl⟩ (AV.cons (vs rfl) (AV.nil)) (fun _ w hw => ref_knownMay ks a c w (row.h _ w hw) hn hl)) ?_
 refine W.go ?_
 refine CW.cond (vt rfl) (fun hc1 => ?_) (fun hc1 => ?_)
 ·try simp only [sk] at hc1
  refine W.go ?_
  refine ⟨_, [], (RVs.tmp rfl (RVs.tmp rfl (RVs.tmp rfl RVs.nil))), List.nil_sublist _, ?_⟩
  have hbad : (ks.all knOk && decide (0 ≤ at_) && decide (at_ ≤ 65535) && nmMay nm) = false := by rcases hc1 with ((h | h) | h) | h; rw [decide_eq_false (by omega : ¬ 0 ≤ at_)]; simp; rw [decide_eq_false (by omega : ¬ at_ ≤ 65535)]; simp; rw [h]; simp; rw [h]; rfl
  rw [nmPut_bad hbad]
  exact ⟨none, 0, [], rfl, OwnOk.nil, rfl⟩
 try simp only [sk] at hc1
 obtain ⟨⟨⟨ha0, ha1⟩, hmay⟩, hk⟩ := hc1
 have hok : (ks.all knOk && decide (0 ≤ at_) && decide (at_ ≤ 65535) && nmMay nm) = true := by rw [hk, hmay, decide_eq_true (by omega), decide_eq_true (by omega)]; rfl
 have hlab := nmMay_labs hmay
 refine CW.skip (Q.tn ?_)
 refine CW.seq ?_
 refine CW.region ?_
 refine W.bs0 encK rfl fun b1 => ?_
 refine W.go ?_
 refine W.ap rfl (vt rfl) (vt rfl) (by first | rfl | omega) (by first | rfl | omega) rfl (by first | assumption | exact OwnOk.nil | exact OwnOk.lit) (by first | omega | (simp; omega)) fun o1 c1 sp1 ok1 ne1 gt1 => ?_
 have nk1 := ok1.nk; have le1 := ok1.2.2.1; try simp only [List.length_append, List.length_cons, List.length_nil] at le1
 refine W.go ?_
 refine CW.loopA (X := (List UInt8) × (List (List UInt8)) × (List Kn) × (List UInt8) × (List Kn) × (Option Nat) × Nat × (List Value)) (fun ⟨left, ls, added, out, all, o, cc, sp⟩ => [(0, true, .int .i64 at_), (9, true, .slice (oa o) all.length cc), (10, true, .string (S out)), (11, true, .string (S left))]) (fun ⟨left, ls, added, out, all, o, cc, sp⟩ => rowL o 167 (flat encK all sp)) (fun ⟨left, ls, added, out, all, o, cc, sp⟩ => OwnOk o cc 2 all.length sp.length ∧ left = joinD ls ∧ ls.all labOk = true ∧ ls.length ≤ 8 ∧ putL ks at_ (labs nm) [] ks = putL ks at_ ls out all ∧ out.length ≤ 9 * (8 - ls.length) ∧ all.length ≤ ks.length + 8 - ls.length ∧ all = ks ++ added ∧ (∀ k ∈ added, left.length < k.name.length)) (fun ⟨left, ls, added, out, all, o, cc, sp⟩ => ls.length) (nm, labs nm, [], [], ks, o1, c1, sp1) ?_ ?_
 ·exact ⟨ok1, (joinD_labs nm).symm, hlab.1, hlab.2, rfl, by simp, by omega, by simp, by simp⟩
 rintro ⟨left, ls, added, out, all, o, cc, sp⟩ hI
 try dsimp only at hI ⊢
 obtain ⟨hok2, hleft, hla, hl8, hput, hol, hal, hall, hadd⟩ := hI
 have nk2 := hok2.nk
 have hkf : kfind all left = kfind ks left := by rw [hall]; exact kfind_long ks hadd
 have hto : -1 ≤ (kfind all left).getD (-1) ∧ (kfind all left).getD (-1) < 16384 := by rw [hkf]; cases hq : kfind ks left with | none => simp | some t => have := kfind_ok hk hq; simp only [Option.getD_some]; omega
 have hjl := joinD_len hla
 rw [← hleft] at hjl
 refine W.go ?_
 refine CW.cond (vt rfl) (fun hc2 => ?_) (fun hc2 => ?_)
 ·try simp only [sk] at hc2
  cases ls with | nil => exact absurd hleft hc2 | cons l r => ?_
  have hla0 := hla
  simp only [List.all_cons, Bool.and_eq_true] at hla
  have hll := labOk_len hla.1
  simp only [List.length_cons] at hl8 hol hal hjl
  have hsl : split left = l :: r := by rw [hleft]; exact split_join _ (by simp) (fun x hx => labOk_dot (List.all_eq_true.1 hla0 x hx))
  have hg0 : (split left).getD (0 : Int).toNat [] = l := by rw [hsl]; rfl
  have hgl : ((split left).getD (0 : Int).toNat []).length = l.length := by rw [hg0]
  have hgl2 : ((split left)[0]?.getD []).length = l.length := by rw [hsl]; rfl
  have hsn : (split left).length = r.length + 1 := by rw [hsl]; rfl
  have hb1 : (beb (((split left).getD (0 : Int).toNat []).length : Int) 1).length = 1 := rfl
  have hrj := rest_join hleft
  have hjlt : (joinD r).length < left.length := by rw [hleft]; exact join_lt hla.1
  refine W.go ?_
  refine W.q (O.call ⟨rfl, rfl⟩ (AV.cons (vt rfl) (AV.cons (vt rfl) (AV.nil))) (fun _ w hw => ref_where all left _ _ w (RowL.h _ hw) (by omega))) ?_
  refine W.go ?_
  refine CW.cond (vt rfl) (fun hc3 => ?_) (fun hc3 => ?_)
  ·try simp only [sk] at hc3
   refine W.go ?_
   refine W.q (O.call ⟨rfl, rfl⟩ (AV.cons (vt rfl) (AV.cons (vt rfl) (AV.nil))) (fun _ w hw => ref_Num _ 2 w (by decide) (by decide))) ?_
   refine W.go ?_
   refine ⟨_, rowL o 167 (flat encK all sp), (RVs.tmp rfl (RVs.tmp rfl (RVs.tmp rfl RVs.nil))), (by repeat (first | exact List.Sublist.refl _ | exact hSub _ | exact List.sublist_append_left _ _ | exact List.nil_sublist _ | refine List.Sublist.append (List.Sublist.refl _) ?_ | apply List.Sublist.cons_cons | apply List.Sublist.cons | exact List.sublist_append_left _ _ | refine List.Sublist.trans ?_ (List.sublist_append_right _ _))), ?_⟩
   rw [nmPut_ok hok, hput]
   cases hq : kfind ks (joinD (l :: r)) with | none => (rw [hkf, hleft, hq] at hc3; exact absurd hc3 (by decide)) | some t => ?_
   rw [putL_hit hq, hkf, hleft, hq]
   exact ⟨o, cc, sp, rfl, hok2, rfl⟩
  try simp only [sk] at hc3
  refine W.go ?_
  refine CW.cond (vt rfl) (fun hc4 => ?_) (fun hc4 => ?_)
  ·try simp only [sk] at hc4
   refine W.go ?_
   refine W.p (O.bd (hv := PV.cons (vt rfl) (PV.cons (vt rfl) (PV.nil)))) ?_
   refine W.bs encK [⟨_, _⟩] rfl (PV.cons (vt rfl) (PV.nil)) rfl rfl rfl (by decide) rfl fun b2 => ?_
   refine W.ap rfl (vt rfl) (vt rfl) (by first | rfl | omega) (by first | rfl | omega) rfl (by first | assumption | exact OwnOk.nil | exact OwnOk.lit) (by first | omega | (simp; omega)) fun o2 c2 sp2 ok2 ne2 gt2 => ?_
   have nk2 := ok2.nk; have le2 := ok2.2.2.1; try simp only [List.length_append, List.length_cons, List.length_nil] at le2
   refine W.go ?_
   refine W.callN (first := []) (cap := []) rfl (vt rfl) (AV.cons (vt rfl) (AV.nil)) (fun w hu => ref_parts _ w (by omega)) ?_; rintro _ _ ⟨o9, c9, sp9, rfl, ok9, rfl⟩; have nk9 := ok9.nk
   refine W.go ?_
   refine W.q (O.call ⟨rfl, rfl⟩ (AV.cons (vt rfl) (AV.cons (vt rfl) (AV.nil))) (fun _ w hw => ref_Num _ 1 w (by decide) (by decide))) ?_
   refine W.go ?_
   refine W.p O.min ?_
   refine W.p O.slcL ?_
   refine W.go ?_
   refine nextA (_, r, added ++ [⟨left, at_ + out.length⟩], _, all ++ [⟨left, at_ + out.length⟩], _, _, _) ?_ ?_
   ·try dsimp only
    have hno : kfind ks (joinD (l :: r)) = none := by rw [← hleft, ← hkf]; cases hq : kfind all left with | none => rfl | some t => have h7 := kfind_ok hk (hkf ▸ hq); rw [hq] at hc3; exact absurd h7.1 hc3
    rw [putL_miss hno, if_pos hc4, ← hleft] at hput
    simp only [hg0, hrj]
    refine ⟨by assumption, by trivial, hla.2, by omega, ?_, ?_, by simp only [List.length_append, List.length_cons, List.length_nil]; omega, by rw [hall, List.append_assoc], ?_⟩
    ·rw [hput, beb_one, byteOf_cast]; simp
    ·rw [beb_one]; simp only [List.length_append, List.length_cons, List.length_nil]; omega
    ·intro k hk5; rcases List.mem_append.1 hk5 with h5 | h5; have := hadd k h5; omega; simp only [List.mem_singleton] at h5; subst h5; exact hjlt
   ·try dsimp only
    simp
  try simp only [sk] at hc4
  refine W.go ?_
  refine W.callN (first := []) (cap := []) rfl (vt rfl) (AV.cons (vt rfl) (AV.nil)) (fun w hu => ref_parts _ w (by omega)) ?_; rintro _ _ ⟨o9, c9, sp9, rfl, ok9, rfl⟩; have nk9 := ok9.nk
  refine W.go ?_
  refine W.q (O.call ⟨rfl, rfl⟩ (AV.cons (vt rfl) (AV.cons (vt rfl) (AV.nil))) (fun _ w hw => ref_Num _ 1 w (by decide) (by decide))) ?_
  refine W.go ?_
  refine W.p O.min ?_
  refine W.p O.slcL ?_
  refine W.go ?_
  refine nextA (_, r, added, _, all, _, _, _) ?_ ?_
  ·try dsimp only
   have hno : kfind ks (joinD (l :: r)) = none := by rw [← hleft, ← hkf]; cases hq : kfind all left with | none => rfl | some t => have h7 := kfind_ok hk (hkf ▸ hq); rw [hq] at hc3; exact absurd h7.1 hc3
   rw [putL_miss hno, if_neg hc4] at hput
   simp only [hg0, hrj]
   refine ⟨hok2, by trivial, hla.2, by omega, ?_, ?_, by omega, hall, ?_⟩
   ·rw [hput, beb_one, byteOf_cast]; simp
   ·rw [beb_one]; simp only [List.length_append, List.length_cons, List.length_nil]; omega
   ·intro k hk5; have := hadd k hk5; omega
  ·try dsimp only
   simp
 try simp only [sk] at hc2
 refine W.go ?_
 refine ⟨_, rowL o 167 (flat encK all sp), (RVs.tmp rfl (RVs.tmp rfl (RVs.tmp rfl RVs.nil))), (by repeat (first | exact List.Sublist.refl _ | exact hSub _ | exact List.sublist_append_left _ _ | exact List.nil_sublist _ | refine List.Sublist.append (List.Sublist.refl _) ?_ | apply List.Sublist.cons_cons | apply List.Sublist.cons | exact List.sublist_append_left _ _ | refine List.Sublist.trans ?_ (List.sublist_append_right _ _))), ?_⟩
 have hnil : ls = [] := joinD_nil hla (hleft.symm.trans (by simpa using hc2))
 subst hnil
 rw [nmPut_ok hok, hput, putL_end]
 exact ⟨o, cc, sp, rfl, hok2, rfl⟩
theorem or_to {k m : Int} (h : 192 ≤ k ∧ k ≤ 255) (hm : 0 ≤ m ∧ m < 256) : bits .or .i64 (IntKind.i64.wrap ((k - 192) * 2 ^ (8 : Int).toNat)) m = k * 256 + m - 49152 := by
 have e8 : (2 : Int) ^ (8 : Int).toNat = 256 := by decide
 rw [e8, wrap_in _ (by omega), or_add 8 (by decide) (by omega) (by omega) (by omega) (by omega) (by omega)]
 omega
set_option maxRecDepth 100000 in
theorem ref_GetName (s : List UInt8) (p0 : Int) (w : World) (hs : s.length ≤ 4398046511104) : Fn Tryz.prog 58 [.string (S s), .int .i64 p0] w [] fun v L' => v = grV (getName s p0) ∧ L' = [] := by
 refine Fn.enter Tryz.func58 rfl rfl rfl rfl (Holds.nil w) ?_
 refine W.go ?_
 refine CW.cond (vt rfl) (fun hc1 => ?_) (fun hc1 => ?_)
 ·try simp only [sk] at hc1
  refine W.go ?_
  refine ⟨_, [], (RVs.tmp rfl (RVs.tmp rfl (RVs.tmp rfl RVs.nil))), List.nil_sublist _, ?_⟩
  refine ⟨?_, rfl⟩
  rw [getName_neg s hc1]; rfl
 try simp only [sk] at hc1
 refine W.go ?_
 refine CW.loopA (X := Int × Int × Int × Int × (List UInt8) × (List (List UInt8))) (fun ⟨p, r, f, k, nm, ls⟩ => [(0, true, .string (S s)), (1, true, .int .i64 p), (7, true, .string (S nm)), (8, true, .int .i64 r), (9, true, .int .i64 f), (10, true, .int .i64 k)]) (fun ⟨p, r, f, k, nm, ls⟩ => []) (fun ⟨p, r, f, k, nm, ls⟩ => 0 ≤ p ∧ nm = joinD ls ∧ k = ls.length ∧ ls.all labOk = true ∧ ls.length ≤ 8 ∧ (∀ x, Got s ⟨p, r, f, ls⟩ x → Got s (GS.of p0) x)) (fun ⟨p, r, f, k, nm, ls⟩ => measG s ⟨p, r, f, ls⟩) (p0, p0, -1, 0, [], []) ?_ ?_
 ·exact ⟨by omega, rfl, rfl, rfl, by simp, fun _ h => h⟩
 rintro ⟨p, r, f, k, nm, ls⟩ hI
 try dsimp only at hI ⊢
 obtain ⟨h0, hnm, hk, hla, h8, hg⟩ := hI
 have hb := (s.getD p.toNat 0).toNat_lt
 have hb2 := (s.getD (p + 1).toNat 0).toNat_lt
 have hjl := joinD_len hla
 rw [← hnm] at hjl
 refine W.go ?_
 refine CW.cond (vt rfl) (fun hc2 => ?_) (fun hc2 => ?_)
 ·try simp only [sk] at hc2
  refine W.go ?_
  refine ⟨_, [], (RVs.tmp rfl (RVs.tmp rfl (RVs.tmp rfl RVs.nil))), List.nil_sublist _, ?_⟩
  refine ⟨?_, rfl⟩
  rw [getName_eq (by omega) (hg _ (Got.stop (sG1 hc2)))]; rfl
 try simp only [sk] at hc2
 refine W.go ?_
 first | refine W.p O.idxS ?_ | refine W.p (O.idxS (h := fun hg => by simp only [cond_true, cond_false, Bool.true_and, Bool.cond_false_right, Bool.cond_true_left, Bool.and_eq_true, Bool.or_eq_true, Bool.or_eq_false_iff, Bool.and_eq_false_iff, Bool.not_eq_true', Bool.not_eq_false', decide_eq_true_eq, decide_eq_false_iff_not, Int.reduceToNat] at *; omega)) ?_
 first | refine W.p O.cvB ?_ | refine W.p O.cv ?_
 refine W.go ?_
 refine CW.cond (vt rfl) (fun hc3 => ?_) (fun hc3 => ?_)
 ·try simp only [sk] at hc3
  refine W.go ?_
  refine CW.cond (vt rfl) (fun hc4 => ?_) (fun hc4 => ?_)
  ·try simp only [sk] at hc4
   refine W.go ?_
   refine ⟨_, [], (RVs.tmp rfl (RVs.tmp rfl (RVs.tmp rfl RVs.nil))), List.nil_sublist _, ?_⟩
   refine ⟨?_, rfl⟩
   rw [getName_eq (by omega) (hg _ (Got.stop (sG2 hc2 hc3))), if_pos hc4, hnm]; rfl
  try simp only [sk] at hc4
  refine W.go ?_
  refine ⟨_, [], (RVs.tmp rfl (RVs.tmp rfl (RVs.tmp rfl RVs.nil))), List.nil_sublist _, ?_⟩
  refine ⟨?_, rfl⟩
  rw [getName_eq (by omega) (hg _ (Got.stop (sG2 hc2 hc3))), if_neg hc4, hnm]; rfl
 try simp only [sk] at hc3
 refine W.go ?_
 refine CW.cond (vt rfl) (fun hc5 => ?_) (fun hc5 => ?_)
 ·try simp only [sk] at hc5
  refine W.go ?_
  refine CW.cond (vt rfl) (fun hc6 => ?_) (fun hc6 => ?_)
  ·try simp only [sk] at hc6
   refine W.go ?_
   refine ⟨_, [], (RVs.tmp rfl (RVs.tmp rfl (RVs.tmp rfl RVs.nil))), List.nil_sublist _, ?_⟩
   refine ⟨?_, rfl⟩
   rw [getName_eq (by omega) (hg _ (Got.stop (sG3 hc2 hc3 hc5 hc6)))]; rfl
  try simp only [sk] at hc6
  refine W.go ?_
  refine W.p O.slc ?_
  refine W.q (O.call ⟨rfl, rfl⟩ (AV.cons (vt rfl) (AV.nil)) (fun _ w hw => ref_Fold _ w (by simp only [List.length_drop, List.length_take]; omega))) ?_
  refine W.go ?_
  refine W.q (O.call ⟨rfl, rfl⟩ (AV.cons (vt rfl) (AV.nil)) (fun _ w hw => ref_labelMay _ w (by simp only [fold, List.length_map, List.length_drop, List.length_take]; omega))) ?_
  refine W.go ?_
  refine CW.cond (vt rfl) (fun hc7 => ?_) (fun hc7 => ?_)
  ·try simp only [sk] at hc7
   have hlx : labOk (fold (slc s (p + 1) (p + 1 + ((s.getD p.toNat 0).toNat : Int)))) = false ∨ ls.length = 8 := by rcases hc7 with h | h; exact .inl h; exact .inr (by omega)
   refine W.go ?_
   refine ⟨_, [], (RVs.tmp rfl (RVs.tmp rfl (RVs.tmp rfl RVs.nil))), List.nil_sublist _, ?_⟩
   refine ⟨?_, rfl⟩
   rw [getName_eq (by omega) (hg _ (Got.stop (sG4 hc2 hc3 hc5 hc6 hlx)))]; rfl
  try simp only [sk] at hc7
  have hlx : ¬ (labOk (fold (slc s (p + 1) (p + 1 + ((s.getD p.toNat 0).toNat : Int)))) = false ∨ ls.length = 8) := by rintro (h | h); (have h3 : labOk (fold (slc s (p + 1) (p + 1 + ((s.getD p.toNat 0).toNat : Int)))) = true := hc7.1); rw [h] at h3; cases h3; omega
  have htl := (labOk_len hc7.1).2
  have htl2 := htl
  simp only [List.getD_eq_getElem?_getD] at htl2
  have hG := sG5 (r := r) (f := f) hc2 hc3 hc5 hc6 hlx
  obtain ⟨g1, g2, g3, g4⟩ := stepG_lt hG h0 hla h8
  refine W.go ?_
  refine CW.cond (vt rfl) (fun hc8 => ?_) (fun hc8 => ?_)
  ·try simp only [sk] at hc8
   refine W.go ?_
   refine nextA (_, _, _, _, _, ls ++ [fold (slc s (p + 1) (p + 1 + ((s.getD p.toNat 0).toNat : Int)))]) ?_ ?_
   ·try dsimp only
    refine ⟨g2, ?_, ?_, g3, g4, fun x hx => hg x (Got.step hG hx)⟩
    ·rw [joinD_app (fun e => hc8 (by rw [hnm, e]; rfl)), hnm]; rfl
    ·simp only [List.length_append, List.length_cons, List.length_nil]; omega
   ·try dsimp only
    exact g1
  try simp only [sk] at hc8
  refine W.go ?_
  refine nextA (_, _, _, _, _, ls ++ [fold (slc s (p + 1) (p + 1 + ((s.getD p.toNat 0).toNat : Int)))]) ?_ ?_
  ·try dsimp only
   have hnil : ls = [] := joinD_nil hla (hnm.symm.trans (by simpa using hc8))
   refine ⟨g2, ?_, ?_, g3, g4, fun x hx => hg x (Got.step hG hx)⟩
   ·rw [hnm, hnil]; rfl
   ·simp only [List.length_append, List.length_cons, List.length_nil]; omega
  ·try dsimp only
   exact g1
 try simp only [sk] at hc5
 refine W.go ?_
 refine CW.cond (vt rfl) (fun hc9 => ?_) (fun hc9 => ?_)
 ·try simp only [sk] at hc9
  refine W.go ?_
  refine CW.cond (vt rfl) (fun hc10 => ?_) (fun hc10 => ?_)
  ·try simp only [sk] at hc10
   refine W.go ?_
   refine ⟨_, [], (RVs.tmp rfl (RVs.tmp rfl (RVs.tmp rfl RVs.nil))), List.nil_sublist _, ?_⟩
   refine ⟨?_, rfl⟩
   rw [getName_eq (by omega) (hg _ (Got.stop (sG6 hc2 hc3 hc5 hc9 hc10)))]; rfl
  try simp only [sk] at hc10
  have hto := or_to (k := ((s.getD p.toNat 0).toNat : Int)) (m := ((s.getD (p + 1).toNat 0).toNat : Int)) (by omega) (by omega)
  refine W.go ?_
  refine W.p O.shl ?_
  refine W.go ?_
  first | refine W.p O.idxS ?_ | refine W.p (O.idxS (h := fun hg => by simp only [cond_true, cond_false, Bool.true_and, Bool.cond_false_right, Bool.cond_true_left, Bool.and_eq_true, Bool.or_eq_true, Bool.or_eq_false_iff, Bool.and_eq_false_iff, Bool.not_eq_true', Bool.not_eq_false', decide_eq_true_eq, decide_eq_false_iff_not, Int.reduceToNat] at *; omega)) ?_
  first | refine W.p O.cvB ?_ | refine W.p O.cv ?_
  refine W.p O.or ?_
  refine W.go ?_
  refine CW.cond (vt rfl) (fun hc11 => ?_) (fun hc11 => ?_)
  ·try simp only [sk] at hc11
   rw [hto] at hc11
   refine W.go ?_
   refine ⟨_, [], (RVs.tmp rfl (RVs.tmp rfl (RVs.tmp rfl RVs.nil))), List.nil_sublist _, ?_⟩
   refine ⟨?_, rfl⟩
   rw [getName_eq (by omega) (hg _ (Got.stop (sG7 hc2 hc3 hc5 hc9 hc10 hc11)))]; rfl
  try simp only [sk] at hc11
  rw [hto] at hc11 ⊢
  have hG := sG8 (f := f) (ls := ls) hc2 hc3 hc5 hc9 hc10 hc11
  obtain ⟨g1, g2, g3, g4⟩ := stepG_lt hG h0 hla h8
  refine W.go ?_
  refine CW.cond (vt rfl) (fun hc12 => ?_) (fun hc12 => ?_)
  ·try simp only [sk] at hc12
   refine W.go ?_
   refine nextA (_, _, _, _, _, ls) ?_ ?_
   ·try dsimp only
    rw [if_pos hc12] at hG g1
    exact ⟨g2, hnm, hk, hla, h8, fun x hx => hg x (Got.step hG hx)⟩
   ·try dsimp only
    rw [if_pos hc12] at g1; exact g1
  try simp only [sk] at hc12
  refine W.go ?_
  refine nextA (_, _, _, _, _, ls) ?_ ?_
  ·try dsimp only
   rw [if_neg hc12] at hG g1
   exact ⟨g2, hnm, hk, hla, h8, fun x hx => hg x (Got.step hG hx)⟩
  ·try dsimp only
   rw [if_neg hc12] at g1; exact g1
 try simp only [sk] at hc9
 refine W.go ?_
 refine ⟨_, [], (RVs.tmp rfl (RVs.tmp rfl (RVs.tmp rfl RVs.nil))), List.nil_sublist _, ?_⟩
 refine ⟨?_, rfl⟩
 rw [getName_eq (by omega) (hg _ (Got.stop (sG9 hc2 hc3 hc5 hc9)))]; rfl
end Go.Proofs.YtfmdaijkgjkmpaaGreatDoor

set_option linter.unusedVariables false
set_option linter.unusedSimpArgs false
namespace Go.Proofs.YtfmdaijkgjkmpaaGreatDoor
open Go Go.RowKit
theorem slc_in {s : List UInt8} {p k i : Int} (h0 : 0 ≤ p) (hi : 0 ≤ i) (hk : i < k) (hl : p + k ≤ s.length) : (slc s p (p + k)).getD i.toNat 0 = s.getD (p + i).toNat 0 := by
 rw [slc, List.getD_eq_getElem?_getD, List.getD_eq_getElem?_getD, List.getElem?_drop, List.getElem?_take, if_pos (by omega)]
 congr 2; omega
set_option maxRecDepth 100000 in
theorem ref_GetBe (s : List UInt8) (p k : Int) (w : World) (hs : s.length ≤ 140737488355328) : Fn Tryz.prog 86 [.string (S s), .int .i64 p, .int .i64 k] w [] fun v L' => v = .tuple #[.int .i64 (beG s p k).1, .int .i64 (beG s p k).2] ∧ L' = [] := by
 refine Fn.enter Tryz.func86 rfl rfl rfl rfl (Holds.nil w) ?_
 refine W.go ?_
 refine CW.cond (vt rfl) (fun hc1 => ?_) (fun hc1 => ?_)
 ·try simp only [sk] at hc1
  refine W.go ?_
  refine ⟨_, [], (RVs.tmp rfl (RVs.tmp rfl RVs.nil)), List.nil_sublist _, ?_⟩
  refine ⟨?_, rfl⟩
  rw [beG, if_pos (by omega)]; rfl
 try simp only [sk] at hc1
 have hk : (k = 1 ∨ k = 2 ∨ k = 4) ∧ 0 ≤ p := by omega
 have hwr : p ≤ s.length → IntKind.i64.wrap ((s.length : Int) - p) = s.length - p := fun h => wrap_in _ (by omega)
 refine W.go ?_
 refine CW.cond (vt rfl) (fun hc2 => ?_) (fun hc2 => ?_)
 ·try simp only [sk] at hc2
  have hbad : (s.length : Int) - k < p := by by_cases h : p ≤ s.length; (rw [hwr h] at hc2; omega); omega
  refine W.go ?_
  refine ⟨_, [], (RVs.tmp rfl (RVs.tmp rfl RVs.nil)), List.nil_sublist _, ?_⟩
  refine ⟨?_, rfl⟩
  rw [beG, if_neg (by omega), if_pos hbad]; rfl
 try simp only [sk] at hc2
 rw [hwr (by omega)] at hc2
 refine W.go ?_
 refine CW.loopA (X := Int × Int) (fun ⟨i, x⟩ => [(0, true, .string (S s)), (1, true, .int .i64 p), (2, true, .int .i64 k), (8, true, .int .i64 x), (9, true, .int .i64 i)]) (fun ⟨i, x⟩ => []) (fun ⟨i, x⟩ => 0 ≤ i ∧ i ≤ k ∧ x = numI ((slc s p (p + k)).take i.toNat)) (fun ⟨i, x⟩ => (k - i).toNat) (0, 0) ?_ ?_
 ·exact ⟨by omega, by omega, by simp [numI]⟩
 rintro ⟨i, x⟩ hI
 try dsimp only at hI ⊢
 obtain ⟨h0, h1, hx⟩ := hI
 have hT := slc_len (s := s) (i := p) (j := p + k) (by omega) (by omega) (by omega)
 refine W.go ?_
 refine CW.cond (vt rfl) (fun hc3 => ?_) (fun hc3 => ?_)
 ·try simp only [sk] at hc3
  refine W.go ?_
  refine W.p O.shl ?_
  refine W.go ?_
  first | refine W.p O.idxS ?_ | refine W.p (O.idxS (h := fun hg => by simp only [cond_true, cond_false, Bool.true_and, Bool.cond_false_right, Bool.cond_true_left, Bool.and_eq_true, Bool.or_eq_true, Bool.or_eq_false_iff, Bool.and_eq_false_iff, Bool.not_eq_true', Bool.not_eq_false', decide_eq_true_eq, decide_eq_false_iff_not, Int.reduceToNat] at *; omega)) ?_
  first | refine W.p O.cvB ?_ | refine W.p O.cv ?_
  refine W.p O.or ?_
  refine W.go ?_
  refine nextA (_, _) ?_ ?_
  ·try dsimp only
   refine ⟨by omega, by omega, ?_⟩
   rw [← slc_in (by omega) h0 hc3 (by omega)]; exact num_step h0 (by omega) (by omega) hx
  ·try dsimp only
   omega
 try simp only [sk] at hc3
 refine W.go ?_
 refine ⟨_, [], (RVs.tmp rfl (RVs.tmp rfl RVs.nil)), List.nil_sublist _, ?_⟩
 refine ⟨?_, rfl⟩
 have e : (slc s p (p + k)).take i.toNat = slc s p (p + k) := List.take_of_length_le (by omega)
 rw [beG, if_neg (by omega), if_neg (by omega), hx, e]; rfl
theorem ref_GetBeI (s : List UInt8) (p k q : Int) (w : World) (hs : s.length ≤ 140737488355328) (hk : k = 1 ∨ k = 2 ∨ k = 4) (h0 : 0 ≤ p) (hq : p + k = q) (hl : q ≤ s.length) : Fn Tryz.prog 86 [.string (S s), .int .i64 p, .int .i64 k] w [] fun v L' => v = .tuple #[.int .i64 (numI (slc s p q)), .int .i64 0] ∧ L' = [] := by
 have := ref_GetBe s p k w hs
 rwa [beG_in hk h0 hq hl] at this
end Go.Proofs.YtfmdaijkgjkmpaaGreatDoor
