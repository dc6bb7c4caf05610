/- What slices.DeleteFunc comes to, at packet.parts. Condition: the row of options is not longer than some millions. -/
import Derived.Test.YtkjcmdgideddnaaPk2
import Derived.Test.YtkjcmdgideddnaaClr
set_option linter.unusedVariables false
set_option linter.unusedSimpArgs false
namespace Go.Proofs.Ytkjcmdgideddnaa
open Go Go.RowKit
def is52 (o : Opt) : Bool := decide (o.code = 52)
def keep (os : List Opt) : List Opt := os.filter fun o => !is52 o
set_option maxRecDepth 100000 in
theorem pk_drop (o : Opt) (w : World) : Fn Try.prog 162 [.agg (encO o).toArray] w [] fun v L' => v = .bool (is52 o) ∧ L' = [] := by
  refine Fn.enter Try.func162 rfl rfl rfl rfl (Holds.nil w) ?_
  refine CW.seq ?_
  refine CW.region ?_
  refine W.bx rfl (vt rfl) rfl fun b1 => ?_
  refine W.p O.as ?_
  refine WL.nil (Q.tn ?_)
  refine CW.seq ?_
  refine CW.region ?_
  first | refine W.p O.fb ?_ | refine W.p O.fa ?_
  refine W.p O.ld ?_
  refine W.p O.eqI ?_
  refine W.p O.as ?_
  refine WL.nil (Q.tn ?_)
  refine CW.ret ?_
  refine ⟨_, [], (RVs.tmp rfl RVs.nil), List.nil_sublist _, ?_⟩
  exact ⟨rfl, rfl⟩
set_option maxRecDepth 100000 in
theorem ix_Opt (os : List Opt) (a : Option Addr) (c : Nat) (w : World) (h : In w a (os.flatMap encO)) (hn : os.length ≤ 1000000000) :
    Fn Try.prog 183 [.slice a os.length c, (.func (.func 162) #[] #[])] w [] fun v L' => ∃ k : Int, v = .int .i64 k ∧ L' = [] ∧ ((k = -1 ∧ os.any is52 = false) ∨ (0 ≤ k ∧ k < os.length ∧ is52 (os.getD k.toNat dO) = true ∧ (os.take k.toNat).any is52 = false)) := by
  have row := Row.ofE h
  refine Fn.enter Try.func183 rfl rfl rfl rfl (Holds.nil w) ?_
  refine CW.seq ?_
  refine CW.region ?_
  refine W.p O.as ?_
  refine WL.nil (Q.tn ?_)
  refine CW.seq ?_
  refine CW.seq ?_
  refine CW.region ?_
  refine W.p O.mv ?_
  refine W.p O.lenL ?_
  refine W.p O.mv ?_
  refine WL.nil (Q.tn ?_)
  refine CW.block ?_
  refine CW.loop (X := Int) (fun i => [(0, true, .slice a os.length c), (1, true, (.func (.func 162) #[] #[])), (7, true, .int .i64 os.length), (8, true, .int .i64 i)]) (fun i => []) (fun i => 0 ≤ i ∧ i ≤ os.length ∧ (os.take i.toNat).any is52 = false) (fun i => (os.length - i).toNat) (0) ?_ (by repeat (first | exact trivial | refine ⟨rfl, ?_⟩ | refine ⟨by (simp only [List.length_set]; rfl), ?_⟩)) (by repeat (first | exact List.Sublist.refl _ | exact List.sublist_append_left _ _ | exact List.nil_sublist _ | refine List.Sublist.append (List.Sublist.refl _) ?_ | apply List.Sublist.cons_cons | apply List.Sublist.cons | refine List.Sublist.trans ?_ (List.sublist_append_right _ _))) ?_
  · exact ⟨by omega, by omega, rfl⟩
  rintro i hI
  try dsimp only at hI ⊢
  obtain ⟨h0, h1, hr⟩ := hI
  refine CW.seq ?_
  refine CW.region ?_
  refine W.p O.lss ?_
  refine WL.nil (Q.tn ?_)
  refine CW.seq ?_
  refine CW.cond (vt rfl) (fun hc1 => ?_) (fun hc1 => ?_)
  · try simp only [Bool.cond_true_left, Bool.cond_false_right, Bool.or_eq_true, Bool.or_eq_false_iff, Bool.and_eq_true, Bool.and_eq_false_iff, decide_eq_true_eq, decide_eq_false_iff_not, Bool.not_eq_true', Bool.not_eq_false'] at hc1
    refine CW.skip (Q.tn ?_)
    refine CW.seq ?_
    refine CW.block ?_
    refine CW.seq ?_
    refine CW.region ?_
    refine W.p O.mv ?_
    refine W.p O.as ?_
    refine WL.nil (Q.tn ?_)
    refine CW.seq ?_
    refine CW.region ?_
    refine W.p O.mv ?_
    refine W.p O.mv ?_
    refine W.p O.mv ?_
    refine W.p O.ixA ?_
    refine W.p O.ldsE ?_
    refine W.callN (first := []) (cap := []) rfl (vt rfl) (AV.cons (vt rfl) (AV.nil)) (fun w hu => pk_drop (os.getD i.toNat dO) w) ?_; rintro _ _ ⟨rfl, rfl⟩
    refine WL.nil (Q.tn ?_)
    refine CW.cond (vt rfl) (fun hc2 => ?_) (fun hc2 => ?_)
    · try simp only [Bool.cond_true_left, Bool.cond_false_right, Bool.or_eq_true, Bool.or_eq_false_iff, Bool.and_eq_true, Bool.and_eq_false_iff, decide_eq_true_eq, decide_eq_false_iff_not, Bool.not_eq_true', Bool.not_eq_false'] at hc2
      refine CW.seq ?_
      refine CW.region ?_
      refine W.p O.mv ?_
      refine W.p O.as ?_
      refine WL.nil (Q.tn ?_)
      refine CW.ret (Q.br (Q.tr (Q.tr (Q.br (Q.tr ?_)))))
      refine ⟨_, [], (RVs.tmp rfl RVs.nil), List.nil_sublist _, ?_⟩
      exact ⟨i, rfl, rfl, .inr ⟨h0, hc1, hc2, hr⟩⟩
    try simp only [Bool.cond_true_left, Bool.cond_false_right, Bool.or_eq_true, Bool.or_eq_false_iff, Bool.and_eq_true, Bool.and_eq_false_iff, decide_eq_true_eq, decide_eq_false_iff_not, Bool.not_eq_true', Bool.not_eq_false'] at hc2
    refine CW.skip (Q.bn (Q.tn ?_))
    refine CW.region ?_
    first | refine W.p O.addN ?_ | refine W.p O.add ?_
    refine W.p O.mv ?_
    refine WL.nil (Q.tn ?_)
    refine ⟨(_), ?_, ?_, (by repeat (first | exact trivial | refine ⟨rfl, ?_⟩ | refine ⟨by (simp only [List.length_set]; rfl), ?_⟩)), (by repeat (first | exact List.Sublist.refl _ | exact List.sublist_append_left _ _ | exact List.nil_sublist _ | refine List.Sublist.append (List.Sublist.refl _) ?_ | apply List.Sublist.cons_cons | apply List.Sublist.cons | refine List.Sublist.trans ?_ (List.sublist_append_right _ _)))⟩
    · try dsimp only
      exact ⟨by omega, by omega, by rw [take_at' dO h0 hc1, List.any_append, hr]; simpa using hc2⟩
    · try dsimp only
      omega
  try simp only [Bool.cond_true_left, Bool.cond_false_right, Bool.or_eq_true, Bool.or_eq_false_iff, Bool.and_eq_true, Bool.and_eq_false_iff, decide_eq_true_eq, decide_eq_false_iff_not, Bool.not_eq_true', Bool.not_eq_false'] at hc1
  refine CW.exit (Q.te (Q.te (Q.bx (Q.tn ?_))))
  refine CW.seq ?_
  refine CW.region ?_
  refine W.p O.as ?_
  refine WL.nil (Q.tn ?_)
  refine CW.ret ?_
  refine ⟨_, [], (RVs.tmp rfl RVs.nil), List.nil_sublist _, ?_⟩
  refine ⟨-1, rfl, rfl, .inl ⟨rfl, ?_⟩⟩
  rw [List.take_of_length_le (by omega)] at hr; exact hr
theorem keep_none {os : List Opt} (h : os.any is52 = false) : keep os = os := by
  rw [keep, List.filter_eq_self]
  intro o ho
  have := List.any_eq_false.1 h o ho
  simpa using this
theorem keep_app (a b : List Opt) : keep (a ++ b) = keep a ++ keep b := List.filter_append ..
theorem keep_len (os : List Opt) : (keep os).length ≤ os.length := List.length_filter_le _ _
theorem del_keep {os ys : List Opt} {i j : Int} {v : Opt} (h0 : 0 ≤ i) (hij : i < j) (hj : j < os.length) (hl : ys.length = os.length) (ht : ys.take i.toNat = keep (os.take j.toNat)) (hd : ys.drop j.toNat = os.drop j.toNat) (hv : v = os.getD j.toNat dO) (h5 : is52 v = false) :
    (ys.set i.toNat v).take (i + 1).toNat = keep (os.take (j + 1).toNat) ∧ (ys.set i.toNat v).drop (j + 1).toNat = os.drop (j + 1).toNat := by
  constructor
  · rw [take_at' dO (by omega) hj, keep_app, ← ht, take_at' dO h0 (by rw [List.length_set]; omega)]
    congr 1
    · rw [List.take_set_of_le (by omega)]
    · rw [List.getD_eq_getElem?_getD, List.getElem?_set_self (by omega)]
      simp only [keep, List.filter_cons, ← hv, h5]; rfl
  · rw [List.drop_set_of_lt (by omega), show (j + 1).toNat = j.toNat + 1 by omega, ← List.drop_drop, hd, List.drop_drop]
theorem del_skip {os ys : List Opt} {i j : Int} (h0 : 0 ≤ j) (hj : j < os.length) (ht : ys.take i.toNat = keep (os.take j.toNat)) (hd : ys.drop j.toNat = os.drop j.toNat) (h5 : is52 (os.getD j.toNat dO) = true) :
    ys.take i.toNat = keep (os.take (j + 1).toNat) ∧ ys.drop (j + 1).toNat = os.drop (j + 1).toNat := by
  constructor
  · rw [take_at' dO h0 hj, keep_app, ← ht]
    simp only [keep, List.filter_cons, h5]; simp
  · rw [show (j + 1).toNat = j.toNat + 1 by omega, ← List.drop_drop, hd, List.drop_drop]
theorem drop_getD {os ys : List Opt} {j : Int} (h0 : 0 ≤ j) (hj : j < os.length) (hd : ys.drop j.toNat = os.drop j.toNat) : ys.getD j.toNat dO = os.getD j.toNat dO := by
  have := congrArg (fun l => l[0]?) hd
  simp only [List.getElem?_drop, Nat.add_zero] at this
  rw [List.getD_eq_getElem?_getD, List.getD_eq_getElem?_getD, this]
set_option maxRecDepth 100000 in
theorem del_Opts (os : List Opt) (o : Option Nat) (c : Nat) (sp : List Value) (w : World) (ok : OwnOk o c 2 os.length sp.length) (hL : Holds (rowL o 42 (flat encO os sp)) w) (hn : os.length ≤ 1000000000) :
    Fn Try.prog 161 [.slice (oa o) os.length c, (.func (.func 162) #[] #[])] w (rowL o 42 (flat encO os sp)) fun v L' => ∃ sp' : List Value, v = .slice (oa o) (keep os).length c ∧ OwnOk o c 2 (keep os).length sp'.length ∧ L' = rowL o 42 (flat encO (keep os) sp') := by
  have nk := ok.nk (α := Opt) (xs := os)
  have hcap := ok.2.2.1
  refine Fn.enter Try.func161 rfl rfl rfl rfl hL ?_
  refine CW.seq ?_
  refine CW.region ?_
  refine W.p O.as ?_
  refine WL.nil (Q.tn ?_)
  refine CW.seq ?_
  refine CW.region ?_
  refine W.p O.mv ?_
  refine W.p O.mv ?_
  refine W.callN (first := []) (cap := []) rfl (vt rfl) (AV.cons (vt rfl) (AV.cons (vt rfl) (AV.nil))) (fun w hu => ix_Opt os _ _ w (RowL.h _ hu) hn) ?_; rintro _ _ ⟨k, rfl, rfl, hk⟩
  refine W.p O.as ?_
  refine WL.nil (Q.tn ?_)
  refine CW.seq ?_
  refine CW.seq ?_
  refine CW.region ?_
  refine W.p O.mv ?_
  refine W.p O.eqI ?_
  refine WL.nil (Q.tn ?_)
  refine CW.cond (vt rfl) (fun hc1 => ?_) (fun hc1 => ?_)
  · try simp only [Bool.cond_true_left, Bool.cond_false_right, Bool.or_eq_true, Bool.or_eq_false_iff, Bool.and_eq_true, Bool.and_eq_false_iff, decide_eq_true_eq, decide_eq_false_iff_not, Bool.not_eq_true', Bool.not_eq_false'] at hc1
    refine CW.seq ?_
    refine CW.region ?_
    refine W.p O.mv ?_
    refine W.p O.as ?_
    refine WL.nil (Q.tn ?_)
    refine CW.ret (Q.tr ?_)
    refine ⟨_, rowL o 42 (flat encO os sp), (RVs.tmp rfl RVs.nil), (by repeat (first | exact List.Sublist.refl _ | exact hSub _ | exact List.sublist_append_left _ _ | exact List.nil_sublist _ | refine List.Sublist.append (List.Sublist.refl _) ?_ | apply List.Sublist.cons_cons | apply List.Sublist.cons | exact List.sublist_append_left _ _ | refine List.Sublist.trans ?_ (List.sublist_append_right _ _))), ?_⟩
    have hk0 : os.any is52 = false := by rcases hk with h | h; exact h.2; omega
    rw [keep_none hk0]; exact ⟨sp, rfl, ok, rfl⟩
  try simp only [Bool.cond_true_left, Bool.cond_false_right, Bool.or_eq_true, Bool.or_eq_false_iff, Bool.and_eq_true, Bool.and_eq_false_iff, decide_eq_true_eq, decide_eq_false_iff_not, Bool.not_eq_true', Bool.not_eq_false'] at hc1
  have hk := hk.resolve_left (fun h => hc1 h.1)
  obtain ⟨b, rfl⟩ := own_some ok (by omega)
  refine CW.skip (Q.tn ?_)
  refine CW.seq ?_
  refine CW.seq ?_
  refine CW.region ?_
  refine W.p O.mv ?_
  first | refine W.p O.addN ?_ | refine W.p O.add ?_
  refine W.p O.as ?_
  refine WL.nil (Q.tn ?_)
  refine CW.block ?_
  refine CW.loop (X := Int × Int × (List Opt)) (fun ⟨i, j, ys⟩ => [(0, true, .slice (oa (some b)) os.length c), (1, true, (.func (.func 162) #[] #[])), (5, true, .int .i64 i), (6, true, .int .i64 j)]) (fun ⟨i, j, ys⟩ => rowL (some b) 42 (flat encO ys sp)) (fun ⟨i, j, ys⟩ => 0 ≤ i ∧ i < j ∧ j ≤ os.length ∧ ys.length = os.length ∧ ys.take i.toNat = keep (os.take j.toNat) ∧ ys.drop j.toNat = os.drop j.toNat) (fun ⟨i, j, ys⟩ => (os.length - j).toNat) (k, k + 1, os) ?_ (by repeat (first | exact trivial | refine ⟨rfl, ?_⟩ | refine ⟨by (simp only [List.length_set]; rfl), ?_⟩)) (by repeat (first | exact List.Sublist.refl _ | exact List.sublist_append_left _ _ | exact List.nil_sublist _ | refine List.Sublist.append (List.Sublist.refl _) ?_ | apply List.Sublist.cons_cons | apply List.Sublist.cons | refine List.Sublist.trans ?_ (List.sublist_append_right _ _))) ?_
  · refine ⟨by omega, by omega, by omega, rfl, ?_, rfl⟩
    rw [take_at' dO hk.1 hk.2.1, keep_app, keep_none hk.2.2.2]; simp only [keep, List.filter_cons, hk.2.2.1]; simp
  rintro ⟨i, j, ys⟩ hI
  try dsimp only at hI ⊢
  obtain ⟨h0, h1, h2, hl, ht, hd⟩ := hI
  have hg := fun h => drop_getD (os := os) (ys := ys) (j := j) (by omega) h hd
  refine CW.seq ?_
  refine CW.seq ?_
  refine CW.region ?_
  refine W.p O.mv ?_
  refine W.p O.mv ?_
  refine W.p O.lenL ?_
  refine W.p O.lss ?_
  refine WL.nil (Q.tn ?_)
  refine CW.cond (vt rfl) (fun hc2 => ?_) (fun hc2 => ?_)
  · try simp only [Bool.cond_true_left, Bool.cond_false_right, Bool.or_eq_true, Bool.or_eq_false_iff, Bool.and_eq_true, Bool.and_eq_false_iff, decide_eq_true_eq, decide_eq_false_iff_not, Bool.not_eq_true', Bool.not_eq_false'] at hc2
    refine CW.skip (Q.tn ?_)
    refine CW.seq ?_
    refine CW.block ?_
    refine CW.seq ?_
    refine CW.region ?_
    refine W.p O.mv ?_
    refine W.p O.mv ?_
    refine W.p O.ixA ?_
    refine W.p O.ldsE ?_
    refine W.al rfl rfl fun b1 => ?_
    refine W.st (vt rfl) (vt rfl) rfl ?_
    refine WL.nil (Q.tn ?_)
    refine CW.seq ?_
    refine CW.region ?_
    refine W.p O.mv ?_
    refine W.p O.lds ?_
    refine W.callN (first := []) (cap := []) rfl (vt rfl) (AV.cons (vt rfl) (AV.nil)) (fun w hu => pk_drop (ys.getD j.toNat dO) w) ?_; rintro _ _ ⟨rfl, rfl⟩
    refine W.p O.nt ?_
    refine WL.nil (Q.tn ?_)
    refine CW.cond (vt rfl) (fun hc3 => ?_) (fun hc3 => ?_)
    · try simp only [Bool.cond_true_left, Bool.cond_false_right, Bool.or_eq_true, Bool.or_eq_false_iff, Bool.and_eq_true, Bool.and_eq_false_iff, decide_eq_true_eq, decide_eq_false_iff_not, Bool.not_eq_true', Bool.not_eq_false'] at hc3
      refine CW.seq ?_
      refine CW.region ?_
      refine W.p O.mv ?_
      refine W.p O.mv ?_
      refine W.p O.lds ?_
      refine W.p O.ixA ?_
      refine W.stW (ys.getD j.toNat dO) (vt rfl) (vt rfl) rfl (by omega) ?_
      refine WL.nil (Q.tn ?_)
      refine CW.region ?_
      refine W.p O.mv ?_
      first | refine W.p O.addN ?_ | refine W.p O.add ?_
      refine W.p O.as ?_
      refine WL.nil (Q.bn (Q.tn ?_))
      refine CW.region ?_
      refine W.p O.mv ?_
      first | refine W.p O.addN ?_ | refine W.p O.add ?_
      refine W.p O.as ?_
      refine WL.nil (Q.tn ?_)
      refine ⟨(i + 1, j + 1, ys.set i.toNat (ys.getD j.toNat dO)), ?_, ?_, (by repeat (first | exact trivial | refine ⟨rfl, ?_⟩ | refine ⟨by (simp only [List.length_set]; rfl), ?_⟩)), (by repeat (first | exact List.Sublist.refl _ | exact List.sublist_append_left _ _ | exact List.nil_sublist _ | refine List.Sublist.append (List.Sublist.refl _) ?_ | apply List.Sublist.cons_cons | apply List.Sublist.cons | refine List.Sublist.trans ?_ (List.sublist_append_right _ _)))⟩
      · try dsimp only
        have hs := del_keep h0 h1 hc2 hl ht hd (hg hc2) hc3
        exact ⟨by omega, by omega, by omega, by rw [List.length_set]; exact hl, hs.1, hs.2⟩
      · try dsimp only
        omega
    try simp only [Bool.cond_true_left, Bool.cond_false_right, Bool.or_eq_true, Bool.or_eq_false_iff, Bool.and_eq_true, Bool.and_eq_false_iff, decide_eq_true_eq, decide_eq_false_iff_not, Bool.not_eq_true', Bool.not_eq_false'] at hc3
    refine CW.skip (Q.bn (Q.tn ?_))
    refine CW.region ?_
    refine W.p O.mv ?_
    first | refine W.p O.addN ?_ | refine W.p O.add ?_
    refine W.p O.as ?_
    refine WL.nil (Q.tn ?_)
    refine ⟨(i, j + 1, ys), ?_, ?_, (by repeat (first | exact trivial | refine ⟨rfl, ?_⟩ | refine ⟨by (simp only [List.length_set]; rfl), ?_⟩)), (by repeat (first | exact List.Sublist.refl _ | exact List.sublist_append_left _ _ | exact List.nil_sublist _ | refine List.Sublist.append (List.Sublist.refl _) ?_ | apply List.Sublist.cons_cons | apply List.Sublist.cons | refine List.Sublist.trans ?_ (List.sublist_append_right _ _)))⟩
    · try dsimp only
      have hs := del_skip (by omega) hc2 ht hd (by rw [← hg hc2]; exact hc3)
      exact ⟨by omega, by omega, by omega, hl, hs.1, hs.2⟩
    · try dsimp only
      omega
  try simp only [Bool.cond_true_left, Bool.cond_false_right, Bool.or_eq_true, Bool.or_eq_false_iff, Bool.and_eq_true, Bool.and_eq_false_iff, decide_eq_true_eq, decide_eq_false_iff_not, Bool.not_eq_true', Bool.not_eq_false'] at hc2
  have hne : ys ≠ [] := by intro e; rw [e] at hl; simp only [List.length_nil] at hl; omega
  have hkp : keep os = ys.take i.toNat := by rw [ht, List.take_of_length_le (by omega)]
  have hkl : (keep os).length = i.toNat := by rw [hkp, List.length_take]; omega
  refine CW.exit (Q.te (Q.te (Q.bx (Q.tn ?_))))
  refine CW.seq ?_
  refine CW.region ?_
  refine W.p O.mv ?_
  refine W.p O.mv ?_
  refine W.p O.slL ?_
  refine W.clr (vt rfl) rfl (by decide) (by omega) fun sp2 le2 => ?_
  refine WL.nil (Q.tn ?_)
  refine CW.seq ?_
  refine CW.region ?_
  refine W.p O.mv ?_
  refine W.p O.mv ?_
  refine W.p O.slH ?_
  refine W.p O.as ?_
  refine WL.nil (Q.tn ?_)
  refine CW.ret ?_
  refine ⟨_, rowL (some b) 42 (flat encO (ys.take i.toNat) sp2), (RVs.tmp rfl RVs.nil), (by repeat (first | exact List.Sublist.refl _ | exact hSub _ | exact List.sublist_append_left _ _ | exact List.nil_sublist _ | refine List.Sublist.append (List.Sublist.refl _) ?_ | apply List.Sublist.cons_cons | apply List.Sublist.cons | exact List.sublist_append_left _ _ | refine List.Sublist.trans ?_ (List.sublist_append_right _ _))), ?_⟩
  rw [hkl, hkp]
  refine ⟨sp2, rfl, ?_, rfl⟩
  obtain ⟨q1, q2, q3, q4⟩ := ok
  exact ⟨(fun h => by cases h), by rw [le2]; omega, by omega, q4⟩
end Go.Proofs.Ytkjcmdgideddnaa
