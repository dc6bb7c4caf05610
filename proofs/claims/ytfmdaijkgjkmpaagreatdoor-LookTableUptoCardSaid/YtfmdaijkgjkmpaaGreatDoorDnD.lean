/- Several texts in one (DnD). Their conditions are their own. -/
import Derived.Test.YtfmdaijkgjkmpaaGreatDoorDnA
import Derived.Test.YtfmdaijkgjkmpaaGreatDoorRrTak
set_option linter.unusedVariables false
set_option linter.unusedSimpArgs false
namespace Go.Proofs.YtfmdaijkgjkmpaaGreatDoor
open Go Go.RowKit
abbrev QdO (b : Nat) (s : List UInt8) (t : TS) : Nat × Obj := (b, .cells #[.string (S s), .int .i64 t.at_, .bool t.bad] 118 (0, 0))
abbrev QdH (b : Nat) (s : List UInt8) (t : TS) : Heap := [QdO b s t]
theorem Fn.perm {P : Program} {f : FuncId} {args : List Value} {w : World} {Lf : Heap} {R R' : Value → Heap → Prop} (h : Fn P f args w Lf R) (hp : ∀ v L, R v L → ∃ L', L.Perm L' ∧ R' v L') : Fn P f args w Lf R' :=
 Calls.mono h fun e w' ⟨v, L', h1, h2, h3⟩ => by
  obtain ⟨L2, h4, h5⟩ := hp v L' h2
  exact ⟨v, L2, h1, h5, h3.perm h4.symm⟩
set_option maxRecDepth 100000 in
theorem rd_rec {b : Nat} {s : List UInt8} {t : TS} (w : World) (hL : Holds (QdH b s t) w) (hs : s.length ≤ 140737488355328) :
  Fn Tryz.prog 106 [.pointer (some ⟨b, 0, none⟩)] w (QdH b s t) fun v L' => v = vR (dRec s t).1 ∧ L' = QdH b s (dRec s t).2 := by
 refine Fn.enter Tryz.func106 rfl rfl rfl rfl hL ?_
 refine W.go ?_
 refine W.al rfl rfl fun b1 => ?_
 refine W.go ?_
 refine CW.drawHL rfl ?_
 refine RH.qa 0 rfl (O.mv) ?_
 refine RH.qa 1 rfl (O.nc) ?_
 first | refine RH.qa 2 rfl (O.fb) ?_ | refine RH.qa 2 rfl (O.fa) ?_
 first | refine RH.qa 3 rfl (O.fb) ?_ | refine RH.qa 3 rfl (O.fa) ?_
 refine RH.qa 4 rfl (O.ld) ?_
 refine RH.qa 5 rfl (O.mv) ?_
 refine RH.qa 6 rfl (O.nc) ?_
 first | refine RH.qa 7 rfl (O.fb) ?_ | refine RH.qa 7 rfl (O.fa) ?_
 first | refine RH.qa 8 rfl (O.fb) ?_ | refine RH.qa 8 rfl (O.fa) ?_
 refine RH.qa 9 rfl (O.ld) ?_
 refine RH.two (i := 10) (j := 15) (fun _ _ h => h) (by kernel_rfl) rfl rfl ?_ ?_
 ·refine W.q (O.call ⟨rfl, rfl⟩ (AV.cons (vt rfl) (AV.cons (vt rfl) (AV.nil))) (fun _ w hw => rr_Get _ _ w hs)) ?_
  refine WL.nilQa ?_
  refine RH.qa 11 rfl (O.mv) ?_
  first | refine RH.qa 12 rfl (O.extL) ?_ | refine RH.qa 12 rfl (O.ext) ?_
  first | refine RH.qa 13 rfl (O.extL) ?_ | refine RH.qa 13 rfl (O.ext) ?_
  first | refine RH.qa 14 rfl (O.extL) ?_ | refine RH.qa 14 rfl (O.ext) ?_
  refine RH.one (i := 15) (fun _ _ h => h) (by kernel_rfl) rfl ?_
  refine W.al rfl rfl fun b2 => ?_
  refine WL.nilQa ?_
  refine RH.one (i := 16) (fun _ _ h => h) (by kernel_rfl) rfl ?_
  refine W.st (vt rfl) (vt rfl) rfl ?_
  refine WL.nilQa ?_
  refine RH.qa 17 rfl (O.as) ?_
  refine RH.qa 18 rfl (O.as) ?_
  refine RH.done (by kernel_rfl) (Q.tn ?_)
  refine W.go ?_
  refine W.st (vt rfl) (vt rfl) rfl ?_
  refine W.go ?_
  refine CW.cond (vt rfl) (fun hc1 => ?_) (fun hc1 => ?_)
  ·try simp only [sk] at hc1
   refine W.go ?_
   first | refine W.st (vt rfl) (vt rfl) rfl ?_ | refine W.st (u := .int _ _) (vt rfl) (vt rfl) rfl ?_
   refine W.go ?_
   refine W.st (vt rfl) (vt rfl) rfl ?_
   refine W.go ?_
   refine ⟨_, QdH b s ⟨(rrGet s t.at_).2.1, (bif t.bad then true else !decide ((rrGet s t.at_).2.2 = 0))⟩, (RVs.cell rfl RVs.nil), (by repeat (first | exact List.Sublist.refl _ | exact hSub _ | exact List.sublist_append_left _ _ | exact List.nil_sublist _ | refine List.Sublist.append (List.Sublist.refl _) ?_ | apply List.Sublist.cons_cons | apply List.Sublist.cons | exact List.sublist_append_left _ _ | refine List.Sublist.trans ?_ (List.sublist_append_right _ _))), ?_⟩
   refine ⟨rfl, ?_⟩
   have hno : ¬ (t.bad = true ∨ (rrGet s t.at_).2.2 ≠ 0) := by rintro (h | h); rw [hc1.1] at h; cases h; exact h hc1.2
   have hv : (bif t.bad then true else !decide ((rrGet s t.at_).2.2 = 0)) = false := by rw [hc1.1, decide_eq_true hc1.2]; rfl
   rw [dRec, if_neg hno, hv]
  try simp only [sk] at hc1
  refine W.go ?_
  refine W.st (vt rfl) (vt rfl) rfl ?_
  refine W.go ?_
  refine ⟨_, QdH b s ⟨t.at_, (bif t.bad then true else !decide ((rrGet s t.at_).2.2 = 0))⟩, (RVs.cell rfl RVs.nil), (by repeat (first | exact List.Sublist.refl _ | exact hSub _ | exact List.sublist_append_left _ _ | exact List.nil_sublist _ | refine List.Sublist.append (List.Sublist.refl _) ?_ | apply List.Sublist.cons_cons | apply List.Sublist.cons | exact List.sublist_append_left _ _ | refine List.Sublist.trans ?_ (List.sublist_append_right _ _))), ?_⟩
  refine ⟨rfl, ?_⟩
  have hyes : t.bad = true ∨ (rrGet s t.at_).2.2 ≠ 0 := hc1
  have hv : (bif t.bad then true else !decide ((rrGet s t.at_).2.2 = 0)) = true := by rcases hyes with h | h; rw [h]; rfl; rw [decide_eq_false h]; cases t.bad <;> rfl
  rw [dRec, if_pos hyes, hv]
 ·refine W.al rfl rfl fun b3 => ?_
  refine WL.nilQa ?_
  refine RH.one (i := 10) (fun _ _ h => h) (by kernel_rfl) rfl ?_
  refine W.q (O.call ⟨rfl, rfl⟩ (AV.cons (vt rfl) (AV.cons (vt rfl) (AV.nil))) (fun _ w hw => rr_Get _ _ w hs)) ?_
  refine WL.nilQa ?_
  refine RH.qa 11 rfl (O.mv) ?_
  first | refine RH.qa 12 rfl (O.extL) ?_ | refine RH.qa 12 rfl (O.ext) ?_
  first | refine RH.qa 13 rfl (O.extL) ?_ | refine RH.qa 13 rfl (O.ext) ?_
  first | refine RH.qa 14 rfl (O.extL) ?_ | refine RH.qa 14 rfl (O.ext) ?_
  refine RH.one (i := 16) (fun _ _ h => h) (by kernel_rfl) rfl ?_
  refine W.st (vt rfl) (vt rfl) rfl ?_
  refine WL.nilQa ?_
  refine RH.qa 17 rfl (O.as) ?_
  refine RH.qa 18 rfl (O.as) ?_
  refine RH.done (by kernel_rfl) (Q.tn ?_)
  refine W.go ?_
  refine W.st (vt rfl) (vt rfl) rfl ?_
  refine W.go ?_
  refine CW.cond (vt rfl) (fun hc2 => ?_) (fun hc2 => ?_)
  ·try simp only [sk] at hc2
   refine W.go ?_
   first | refine W.st (vt rfl) (vt rfl) rfl ?_ | refine W.st (u := .int _ _) (vt rfl) (vt rfl) rfl ?_
   refine W.go ?_
   refine W.st (vt rfl) (vt rfl) rfl ?_
   refine W.go ?_
   refine ⟨_, QdH b s ⟨(rrGet s t.at_).2.1, (bif t.bad then true else !decide ((rrGet s t.at_).2.2 = 0))⟩, (RVs.cell rfl RVs.nil), (by repeat (first | exact List.Sublist.refl _ | exact hSub _ | exact List.sublist_append_left _ _ | exact List.nil_sublist _ | refine List.Sublist.append (List.Sublist.refl _) ?_ | apply List.Sublist.cons_cons | apply List.Sublist.cons | exact List.sublist_append_left _ _ | refine List.Sublist.trans ?_ (List.sublist_append_right _ _))), ?_⟩
   refine ⟨rfl, ?_⟩
   have hno : ¬ (t.bad = true ∨ (rrGet s t.at_).2.2 ≠ 0) := by rintro (h | h); rw [hc2.1] at h; cases h; exact h hc2.2
   have hv : (bif t.bad then true else !decide ((rrGet s t.at_).2.2 = 0)) = false := by rw [hc2.1, decide_eq_true hc2.2]; rfl
   rw [dRec, if_neg hno, hv]
  try simp only [sk] at hc2
  refine W.go ?_
  refine W.st (vt rfl) (vt rfl) rfl ?_
  refine W.go ?_
  refine ⟨_, QdH b s ⟨t.at_, (bif t.bad then true else !decide ((rrGet s t.at_).2.2 = 0))⟩, (RVs.cell rfl RVs.nil), (by repeat (first | exact List.Sublist.refl _ | exact hSub _ | exact List.sublist_append_left _ _ | exact List.nil_sublist _ | refine List.Sublist.append (List.Sublist.refl _) ?_ | apply List.Sublist.cons_cons | apply List.Sublist.cons | exact List.sublist_append_left _ _ | refine List.Sublist.trans ?_ (List.sublist_append_right _ _))), ?_⟩
  refine ⟨rfl, ?_⟩
  have hyes : t.bad = true ∨ (rrGet s t.at_).2.2 ≠ 0 := hc2
  have hv : (bif t.bad then true else !decide ((rrGet s t.at_).2.2 = 0)) = true := by rcases hyes with h | h; rw [h]; rfl; rw [decide_eq_false h]; cases t.bad <;> rfl
  rw [dRec, if_pos hyes, hv]
theorem tName_rng {s : List UInt8} {t : TS} (h : (tName s t).2.bad = false) : 0 ≤ (tName s t).2.at_ := by
 rcases tName_ok (s := s) (t := t) with ⟨h1, _⟩ | ⟨_, h0, h1⟩
 ·rw [h1] at h; cases h
 ·rw [h1]
  have := getName_rng (gr_ok h0)
  dsimp only; omega
set_option maxRecDepth 100000 in
theorem rd_opt_a {b : Nat} {s : List UInt8} {t : TS} (w : World) (hL : Holds (QdH b s t) w) (hs : s.length ≤ 140737488355328) (hn : (tName s t).1 ≠ []) :
  Fn Tryz.prog 105 [.pointer (some ⟨b, 0, none⟩)] w (QdH b s t) fun v L' => v = .tuple #[.int .i64 0, .bool false] ∧ L' = QdH b s t := by
 refine Fn.enter Tryz.func105 rfl rfl rfl rfl hL ?_
 refine W.go ?_
 refine W.al rfl rfl fun b1 => ?_
 refine W.st (vt rfl) (vt rfl) rfl ?_
 refine W.go ?_
 refine W.callS (first := []) (cap := []) (TkU 118 b1 s t) rfl (vt rfl) (AV.cons (vt rfl) (AV.nil)) (fun w hu hh => tk_Name w hh hs) ?_; rintro _ _ ⟨rfl, rfl⟩
 refine W.p O.as ?_
 refine WL.nil (Q.tn ?_)
 refine CW.seq ?_
 refine CW.region ?_
 refine W.p O.mv ?_
 refine W.p O.neS ?_
 first | (refine WL.kn (v := true) (by rfl) ?_ ?_; focus (exact (by rw [decide_eq_false hn]; rfl))) | (refine WL.kn (v := false) (by rfl) ?_ ?_; focus (exact (by rw [decide_eq_false hn]; rfl)))
 refine W.p O.mv ?_
 first | refine W.p O.fb ?_ | refine W.p O.fa ?_
 refine (W.offc (.int .i64 0) rfl rfl rfl ?_)
 refine W.go ?_
 refine CW.cond (vt rfl) (fun hc1 => ?_) (fun hc1 => ?_)
 ·try simp only [sk] at hc1
  refine W.go ?_
  refine ⟨_, QdH b s t, (RVs.tmp rfl (RVs.tmp rfl RVs.nil)), (by repeat (first | exact List.Sublist.refl _ | exact hSub _ | exact List.sublist_append_left _ _ | exact List.nil_sublist _ | refine List.Sublist.append (List.Sublist.refl _) ?_ | apply List.Sublist.cons_cons | apply List.Sublist.cons | exact List.sublist_append_left _ _ | refine List.Sublist.trans ?_ (List.sublist_append_right _ _))), ?_⟩
  exact ⟨rfl, rfl⟩
 exact absurd hc1 (by simp)
set_option maxRecDepth 100000 in
theorem rd_opt_b {b : Nat} {s : List UInt8} {t : TS} (w : World) (hL : Holds (QdH b s t) w) (hs : s.length ≤ 140737488355328) (hn : (tName s t).1 = []) :
  Fn Tryz.prog 105 [.pointer (some ⟨b, 0, none⟩)] w (QdH b s t) fun v L' => v = .tuple #[.int .i64 (tOptC IntKind.i64.wrap s t).1, .bool (tOptC IntKind.i64.wrap s t).2.1] ∧ L' = QdH b s (tOptC IntKind.i64.wrap s t).2.2 := by
 have r2 : (2 : Int) = 1 ∨ (2 : Int) = 2 ∨ (2 : Int) = 4 := .inr (.inl rfl)
 have r4 : (4 : Int) = 1 ∨ (4 : Int) = 2 ∨ (4 : Int) = 4 := .inr (.inr rfl)
 have hB := tNum_rng hs r2 (t := (tName s t).2) tName_rng
 have hC := tNum_rng hs r2 (t := (tNum IntKind.i64.wrap s 2 (tName s t).2).2) (fun h => (hB h).1)
 have hD := tNum_rng hs r4 (t := (tNum IntKind.i64.wrap s 2 (tNum IntKind.i64.wrap s 2 (tName s t).2).2).2) (fun h => (hC h).1)
 have hE := tNum_rng hs r2 (t := (tNum IntKind.i64.wrap s 4 (tNum IntKind.i64.wrap s 2 (tNum IntKind.i64.wrap s 2 (tName s t).2).2).2).2) (fun h => (hD h).1)
 have hk : 0 ≤ (tNum IntKind.i64.wrap s 2 (tNum IntKind.i64.wrap s 4 (tNum IntKind.i64.wrap s 2 (tNum IntKind.i64.wrap s 2 (tName s t).2).2).2).2).1 ∧ (tNum IntKind.i64.wrap s 2 (tNum IntKind.i64.wrap s 4 (tNum IntKind.i64.wrap s 2 (tNum IntKind.i64.wrap s 2 (tName s t).2).2).2).2).1 ≤ 65536 := by have := beG_rng s (tNum IntKind.i64.wrap s 4 (tNum IntKind.i64.wrap s 2 (tNum IntKind.i64.wrap s 2 (tName s t).2).2).2).2.at_; exact ⟨this.1, Int.le_of_lt this.2⟩
 refine Fn.enter Tryz.func105 rfl rfl rfl rfl hL ?_
 refine W.go ?_
 refine W.al rfl rfl fun b1 => ?_
 refine W.st (vt rfl) (vt rfl) rfl ?_
 refine W.go ?_
 refine W.callS (first := []) (cap := []) (TkU 118 b1 s t) rfl (vt rfl) (AV.cons (vt rfl) (AV.nil)) (fun w hu hh => tk_Name w hh hs) ?_; rintro _ _ ⟨rfl, rfl⟩
 refine W.p O.as ?_
 refine WL.nil (Q.tn ?_)
 refine CW.seq ?_
 refine CW.region ?_
 refine W.p O.mv ?_
 refine W.p O.neS ?_
 first | (refine WL.kn (v := true) (by rfl) ?_ ?_; focus (exact (by rw [decide_eq_true hn]; rfl))) | (refine WL.kn (v := false) (by rfl) ?_ ?_; focus (exact (by rw [decide_eq_true hn]; rfl)))
 refine W.p O.mv ?_
 first | refine W.p O.fb ?_ | refine W.p O.fa ?_
 refine W.ug rfl ?_
 refine W.callS (first := []) (cap := []) (TkU 118 b1 s (tName s t).2) rfl (vt rfl) (AV.cons (vs rfl) (AV.cons (vt rfl) (AV.nil))) (fun w hu hh => tk_Num 2 w hh hs) ?_; rintro _ _ ⟨rfl, rfl⟩
 refine W.go ?_
 refine CW.cond (vt rfl) (fun hc1 => ?_) (fun hc1 => ?_)
 ·try simp only [sk] at hc1
  refine W.go ?_
  refine ⟨_, QdH b s t, (RVs.tmp rfl (RVs.tmp rfl RVs.nil)), (by repeat (first | exact List.Sublist.refl _ | exact hSub _ | exact List.sublist_append_left _ _ | exact List.nil_sublist _ | refine List.Sublist.append (List.Sublist.refl _) ?_ | apply List.Sublist.cons_cons | apply List.Sublist.cons | exact List.sublist_append_left _ _ | refine List.Sublist.trans ?_ (List.sublist_append_right _ _))), ?_⟩
  have e : tOptC IntKind.i64.wrap s t = (0, false, t) := by unfold tOptC; dsimp only; rw [if_pos (.inr (by rcases hc1 with (h | h) | h; cases h; exact .inl h; exact .inr h))]
  rw [e]; exact ⟨rfl, rfl⟩
 try simp only [sk] at hc1
 refine W.go ?_
 refine W.callS (first := []) (cap := []) (TkU 118 b1 s (tNum IntKind.i64.wrap s 2 (tName s t).2).2) rfl (vt rfl) (AV.cons (vt rfl) (AV.cons (vt rfl) (AV.nil))) (fun w hu hh => tk_Num 2 w hh hs) ?_; rintro _ _ ⟨rfl, rfl⟩
 refine W.go ?_
 refine W.callS (first := []) (cap := []) (TkU 118 b1 s (tNum IntKind.i64.wrap s 2 (tNum IntKind.i64.wrap s 2 (tName s t).2).2).2) rfl (vt rfl) (AV.cons (vt rfl) (AV.cons (vt rfl) (AV.nil))) (fun w hu hh => tk_Num 4 w hh hs) ?_; rintro _ _ ⟨rfl, rfl⟩
 refine W.go ?_
 refine W.callS (first := []) (cap := []) (TkU 118 b1 s (tNum IntKind.i64.wrap s 4 (tNum IntKind.i64.wrap s 2 (tNum IntKind.i64.wrap s 2 (tName s t).2).2).2).2) rfl (vt rfl) (AV.cons (vt rfl) (AV.cons (vt rfl) (AV.nil))) (fun w hu hh => tk_Num 2 w hh hs) ?_; rintro _ _ ⟨rfl, rfl⟩
 refine W.callS (first := []) (cap := []) (TkU 118 b1 s (tNum IntKind.i64.wrap s 2 (tNum IntKind.i64.wrap s 4 (tNum IntKind.i64.wrap s 2 (tNum IntKind.i64.wrap s 2 (tName s t).2).2).2).2).2) rfl (vt rfl) (AV.cons (vt rfl) (AV.cons (vt rfl) (AV.nil))) (fun w hu hh => tk_Some (tNum IntKind.i64.wrap s 2 (tNum IntKind.i64.wrap s 4 (tNum IntKind.i64.wrap s 2 (tNum IntKind.i64.wrap s 2 (tName s t).2).2).2).2).1 w hh hs hE hk) ?_; rintro _ _ ⟨rfl, rfl⟩
 refine W.go ?_
 refine W.st (vt rfl) (vt rfl) rfl ?_
 refine W.go ?_
 refine W.p O.max ?_
 refine W.go ?_
 refine ⟨_, QdH b s (tSome s (tNum IntKind.i64.wrap s 2 (tNum IntKind.i64.wrap s 4 (tNum IntKind.i64.wrap s 2 (tNum IntKind.i64.wrap s 2 (tName s t).2).2).2).2).1 (tNum IntKind.i64.wrap s 2 (tNum IntKind.i64.wrap s 4 (tNum IntKind.i64.wrap s 2 (tNum IntKind.i64.wrap s 2 (tName s t).2).2).2).2).2).2, (RVs.tmp rfl (RVs.tmp rfl RVs.nil)), (by repeat (first | exact List.Sublist.refl _ | exact hSub _ | exact List.sublist_append_left _ _ | exact List.nil_sublist _ | refine List.Sublist.append (List.Sublist.refl _) ?_ | apply List.Sublist.cons_cons | apply List.Sublist.cons | exact List.sublist_append_left _ _ | refine List.Sublist.trans ?_ (List.sublist_append_right _ _))), ?_⟩
 have e : tOptC IntKind.i64.wrap s t = (max (tNum IntKind.i64.wrap s 2 (tNum IntKind.i64.wrap s 2 (tName s t).2).2).1 512, true, (tSome s (tNum IntKind.i64.wrap s 2 (tNum IntKind.i64.wrap s 4 (tNum IntKind.i64.wrap s 2 (tNum IntKind.i64.wrap s 2 (tName s t).2).2).2).2).1 (tNum IntKind.i64.wrap s 2 (tNum IntKind.i64.wrap s 4 (tNum IntKind.i64.wrap s 2 (tNum IntKind.i64.wrap s 2 (tName s t).2).2).2).2).2).2) := by unfold tOptC; dsimp only; rw [if_neg (by rintro (h | h | h); exact h hn; exact h hc1.1.2; rw [hc1.2] at h; cases h)]
 rw [e]; exact ⟨rfl, rfl⟩
theorem tOptC_a {s : List UInt8} {t : TS} (hn : (tName s t).1 ≠ []) : tOptC IntKind.i64.wrap s t = (0, false, t) := by unfold tOptC; dsimp only; rw [if_pos (.inl hn)]
theorem rd_opt {b : Nat} {s : List UInt8} {t : TS} (w : World) (hL : Holds (QdH b s t) w) (hs : s.length ≤ 140737488355328) :
  Fn Tryz.prog 105 [.pointer (some ⟨b, 0, none⟩)] w (QdH b s t) fun v L' => v = .tuple #[.int .i64 (tOptC IntKind.i64.wrap s t).1, .bool (tOptC IntKind.i64.wrap s t).2.1] ∧ L' = QdH b s (tOptC IntKind.i64.wrap s t).2.2 := by
 by_cases hn : (tName s t).1 = []
 ·exact rd_opt_b w hL hs hn
 ·rw [tOptC_a hn]; exact rd_opt_a w hL hs hn
end Go.Proofs.YtfmdaijkgjkmpaaGreatDoor

set_option linter.unusedVariables false
set_option linter.unusedSimpArgs false
namespace Go.Proofs.YtfmdaijkgjkmpaaGreatDoor
open Go Go.RowKit
section
variable {α : Type} {f : TS → α × TS} {cap : Nat} {k : Int} {out : List α} {t : TS}
theorem lp_step (h0 : 0 < k) (hb : t.bad = false) (hl : out.length ≤ cap) : lpM f cap k.toNat out t = lpM f cap (k - 1).toNat (out ++ [(f t).1]) (f t).2 := by
 rw [show k.toNat = (k - 1).toNat + 1 by omega, lpM, if_neg (by rintro (h | h); rw [hb] at h; cases h; omega)]
theorem lp_stop (h : k ≤ 0 ∨ t.bad = true ∨ cap < out.length) : lpM f cap k.toNat out t = (out, t) := by
 rcases h with h | h | h
 ·rw [show k.toNat = 0 by omega, lpM]
 ·exact lp_bad h
 ·exact lp_full h
end
theorem own_perm {x : Nat × Obj} {R : Heap} : (R ++ [x]).Perm (x :: R) := List.perm_append_singleton x R
set_option maxRecDepth 100000 in
theorem rd_asked0 {b : Nat} {s : List UInt8} {t : TS} (k : Int) (w : World) (hL : Holds (QdH b s t) w) (hs : s.length ≤ 140737488355328) (hk : k ≤ 5) :
  Fn Tryz.prog 72 [.pointer (some ⟨b, 0, none⟩), .int .i64 k] w (QdH b s t) fun v L' => ∃ o c sp, v = .slice (oa o) (lpM (dAsk IntKind.i64.wrap s) bigC k.toNat [] t).1.length c ∧ OwnOk o c 2 (lpM (dAsk IntKind.i64.wrap s) bigC k.toNat [] t).1.length (List.length sp) ∧ L' = rowL o 29 (flat encQ (lpM (dAsk IntKind.i64.wrap s) bigC k.toNat [] t).1 sp) ++ QdH b s (lpM (dAsk IntKind.i64.wrap s) bigC k.toNat [] t).2 := by
 refine Fn.enter Tryz.func72 rfl rfl rfl rfl hL ?_
 refine W.go ?_
 refine CW.loopA (X := Int × (List Qn') × TS × (Option Nat) × Nat × (List Value)) (fun ⟨j, out, u, o, cc, sp⟩ => [(0, true, .pointer (some ⟨b, 0, none⟩)), (1, true, .int .i64 j), (5, true, .slice (oa o) out.length cc)]) (fun ⟨j, out, u, o, cc, sp⟩ => rowL o 29 (flat encQ out sp) ++ QdH b s u) (fun ⟨j, out, u, o, cc, sp⟩ => j ≤ 5 ∧ OwnOk o cc 2 out.length sp.length ∧ lpM (dAsk IntKind.i64.wrap s) bigC j.toNat out u = (lpM (dAsk IntKind.i64.wrap s) bigC k.toNat [] t) ∧ out.length ≤ 5 - j) (fun ⟨j, out, u, o, cc, sp⟩ => j.toNat) (k, [], t, none, 0, []) ?_ ?_
 ·exact ⟨hk, OwnOk.nil, rfl, by simp; omega⟩
 rintro ⟨j, out, u, o, cc, sp⟩ hI
 try dsimp only at hI ⊢
 obtain ⟨h1, ok9, hr, hl⟩ := hI
 have nk9 := ok9.nk (α := Qn') (xs := out)
 refine W.go ?_
 refine CW.cond (vt rfl) (fun hc1 => ?_) (fun hc1 => ?_)
 ·try simp only [sk] at hc1
  refine W.go ?_
  refine W.callS (first := []) (cap := []) (QdH b s u) rfl (vt rfl) (AV.cons (vt rfl) (AV.nil)) (fun w hu hh => tk_Name w hh hs) ?_; rintro _ _ ⟨rfl, rfl⟩
  refine W.p (O.bd (hv := PV.cons (vt rfl) (PV.nil))) ?_
  refine W.al rfl rfl fun b1 => ?_
  refine W.st (vt rfl) (vt rfl) rfl ?_
  refine W.go ?_
  refine W.callS (first := []) (cap := []) (QdH b s (tName s u).2) rfl (vt rfl) (AV.cons (vt rfl) (AV.cons (vt rfl) (AV.nil))) (fun w hu hh => tk_Num 2 w hh hs) ?_; rintro _ _ ⟨rfl, rfl⟩
  refine W.go ?_
  first | refine W.st (vt rfl) (vt rfl) rfl ?_ | refine W.st (u := .int _ _) (vt rfl) (vt rfl) rfl ?_
  refine W.go ?_
  refine W.callS (first := []) (cap := []) (QdH b s (tNum IntKind.i64.wrap s 2 (tName s u).2).2) rfl (vt rfl) (AV.cons (vt rfl) (AV.cons (vt rfl) (AV.nil))) (fun w hu hh => tk_Num 2 w hh hs) ?_; rintro _ _ ⟨rfl, rfl⟩
  refine W.go ?_
  refine W.st (vt rfl) (vt rfl) rfl ?_
  refine WL.nil (Q.tn ?_)
  refine CW.region ?_
  refine W.p O.mv ?_
  refine W.p O.lds ?_
  refine W.bs encQ [(dAsk IntKind.i64.wrap s u).1] rfl (PV.cons (vt rfl) (PV.nil)) rfl rfl rfl (by decide) rfl fun b2 => ?_
  refine W.ap rfl (vt rfl) (vt rfl) (by first | rfl | omega) (by first | rfl | omega) rfl (by first | assumption | exact OwnOk.nil | exact OwnOk.lit) (by first | omega | (simp; omega)) fun o1 c1 sp1 ok1 ne1 gt1 => ?_
  have nk1 := ok1.nk; have le1 := ok1.2.2.1; try simp only [List.length_append, List.length_cons, List.length_nil] at le1
  refine W.go ?_
  refine nextA (j - 1, out ++ [(dAsk IntKind.i64.wrap s u).1], (dAsk IntKind.i64.wrap s u).2, _, _, _) ?_ ?_
  ·try dsimp only
   refine ⟨by omega, by assumption, ?_, by simp only [List.length_append, List.length_cons, List.length_nil]; omega⟩
   rw [← hr, lp_step hc1.1 hc1.2 (by show out.length ≤ 1000000; omega)]
  ·try dsimp only
   omega
 try simp only [sk] at hc1
 refine W.go ?_
 refine ⟨_, rowL o 29 (flat encQ out sp) ++ QdH b s u, (RVs.tmp rfl RVs.nil), (by repeat (first | exact List.Sublist.refl _ | exact hSub _ | exact List.sublist_append_left _ _ | exact List.nil_sublist _ | refine List.Sublist.append (List.Sublist.refl _) ?_ | apply List.Sublist.cons_cons | apply List.Sublist.cons | exact List.sublist_append_left _ _ | refine List.Sublist.trans ?_ (List.sublist_append_right _ _))), ?_⟩
 have e : (lpM (dAsk IntKind.i64.wrap s) bigC k.toNat [] t) = (out, u) := by rw [← hr]; exact lp_stop (by rcases hc1 with h | h; exact .inl (by omega); exact .inr (.inl (by simpa using h)))
 rw [e]; exact ⟨o, cc, sp, rfl, ok9, rfl⟩
theorem rd_asked {b : Nat} {s : List UInt8} {t : TS} (k : Int) (w : World) (hL : Holds (QdH b s t) w) (hs : s.length ≤ 140737488355328) (hk : k ≤ 5) :
  Fn Tryz.prog 72 [.pointer (some ⟨b, 0, none⟩), .int .i64 k] w (QdH b s t) fun v L' => ∃ o c sp, v = .slice (oa o) (lpM (dAsk IntKind.i64.wrap s) bigC k.toNat [] t).1.length c ∧ OwnOk o c 2 (lpM (dAsk IntKind.i64.wrap s) bigC k.toNat [] t).1.length (List.length sp) ∧ L' = QdO b s (lpM (dAsk IntKind.i64.wrap s) bigC k.toNat [] t).2 :: rowL o 29 (flat encQ (lpM (dAsk IntKind.i64.wrap s) bigC k.toNat [] t).1 sp) :=
 Fn.perm (rd_asked0 k w hL hs hk) fun v L ⟨o, c, sp, h1, h2, h3⟩ => ⟨_, h3 ▸ own_perm, o, c, sp, h1, h2, rfl⟩
set_option maxRecDepth 100000 in
theorem rd_recs0 {b : Nat} {s : List UInt8} {t : TS} (k : Int) (w : World) (hL : Holds (QdH b s t) w) (hs : s.length ≤ 140737488355328) (hk : k ≤ 65535) :
  Fn Tryz.prog 73 [.pointer (some ⟨b, 0, none⟩), .int .i64 k, .pointer none] w (QdH b s t) fun v L' => ∃ o c sp, v = .slice (oa o) (lpM (dRec s) 32 k.toNat [] t).1.length c ∧ OwnOk o c 7 (lpM (dRec s) 32 k.toNat [] t).1.length (List.length sp) ∧ L' = rowL o 58 (flat encR (lpM (dRec s) 32 k.toNat [] t).1 sp) ++ QdH b s (lpM (dRec s) 32 k.toNat [] t).2 := by
 refine Fn.enter Tryz.func73 rfl rfl rfl rfl hL ?_
 refine W.go ?_
 refine CW.loopA (X := Int × (List RR) × TS × (Option Nat) × Nat × (List Value)) (fun ⟨j, out, u, o, cc, sp⟩ => [(0, true, .pointer (some ⟨b, 0, none⟩)), (2, true, .pointer none), (1, true, .int .i64 j), (7, true, .slice (oa o) out.length cc)]) (fun ⟨j, out, u, o, cc, sp⟩ => rowL o 58 (flat encR out sp) ++ QdH b s u) (fun ⟨j, out, u, o, cc, sp⟩ => j ≤ 65535 ∧ OwnOk o cc 7 out.length sp.length ∧ lpM (dRec s) 32 j.toNat out u = (lpM (dRec s) 32 k.toNat [] t) ∧ out.length ≤ 33) (fun ⟨j, out, u, o, cc, sp⟩ => j.toNat) (k, [], t, none, 0, []) ?_ ?_
 ·exact ⟨hk, OwnOk.nil, rfl, by simp⟩
 rintro ⟨j, out, u, o, cc, sp⟩ hI
 try dsimp only at hI ⊢
 obtain ⟨h1, ok9, hr, hl⟩ := hI
 have nk9 := ok9.nk (α := RR) (xs := out)
 refine W.go ?_
 refine CW.cond (vt rfl) (fun hc1 => ?_) (fun hc1 => ?_)
 ·try simp only [sk] at hc1
  refine W.go ?_
  refine W.p (O.neP ⟨rfl, rfl⟩ (vt rfl) (vt rfl) (by decide) (fun _ => by first | exact .inr (.inl rfl) | exact .inl rfl | exact .inr (.inr rfl) | (simp_all; done))) ?_
  refine W.go ?_
  refine CW.cond (vt rfl) (fun hc2 => ?_) (fun hc2 => ?_)
  ·exact absurd hc2 (by simp)
  try simp only [sk] at hc2
  refine W.go ?_
  refine W.callS (first := []) (cap := []) (QdH b s u) rfl (vt rfl) (AV.cons (vt rfl) (AV.nil)) (fun w hu hh => rd_rec w hh hs) ?_; rintro _ _ ⟨rfl, rfl⟩
  refine W.bs encR [(dRec s u).1] rfl (PV.cons (vt rfl) (PV.nil)) rfl rfl rfl (by decide) rfl fun b1 => ?_
  refine W.ap rfl (vt rfl) (vt rfl) (by first | rfl | omega) (by first | rfl | omega) rfl (by first | assumption | exact OwnOk.nil | exact OwnOk.lit) (by first | omega | (simp; omega)) fun o1 c1 sp1 ok1 ne1 gt1 => ?_
  have nk1 := ok1.nk; have le1 := ok1.2.2.1; try simp only [List.length_append, List.length_cons, List.length_nil] at le1
  refine W.go ?_
  refine nextA (j - 1, out ++ [(dRec s u).1], (dRec s u).2, _, _, _) ?_ ?_
  ·try dsimp only
   refine ⟨by omega, by assumption, ?_, by simp only [List.length_append, List.length_cons, List.length_nil]; omega⟩
   rw [← hr, lp_step hc1.1.1 hc1.1.2 (by omega)]
  ·try dsimp only
   omega
 try simp only [sk] at hc1
 refine W.go ?_
 refine ⟨_, rowL o 58 (flat encR out sp) ++ QdH b s u, (RVs.tmp rfl RVs.nil), (by repeat (first | exact List.Sublist.refl _ | exact hSub _ | exact List.sublist_append_left _ _ | exact List.nil_sublist _ | refine List.Sublist.append (List.Sublist.refl _) ?_ | apply List.Sublist.cons_cons | apply List.Sublist.cons | exact List.sublist_append_left _ _ | refine List.Sublist.trans ?_ (List.sublist_append_right _ _))), ?_⟩
 have e : (lpM (dRec s) 32 k.toNat [] t) = (out, u) := by rw [← hr]; exact lp_stop (by rcases hc1 with (h | h) | h; exact .inl (by omega); exact .inr (.inl (by simpa using h)); exact .inr (.inr (by omega)))
 rw [e]; exact ⟨o, cc, sp, rfl, ok9, rfl⟩
theorem rd_recs {b : Nat} {s : List UInt8} {t : TS} (k : Int) (w : World) (hL : Holds (QdH b s t) w) (hs : s.length ≤ 140737488355328) (hk : k ≤ 65535) :
  Fn Tryz.prog 73 [.pointer (some ⟨b, 0, none⟩), .int .i64 k, .pointer none] w (QdH b s t) fun v L' => ∃ o c sp, v = .slice (oa o) (lpM (dRec s) 32 k.toNat [] t).1.length c ∧ OwnOk o c 7 (lpM (dRec s) 32 k.toNat [] t).1.length (List.length sp) ∧ L' = QdO b s (lpM (dRec s) 32 k.toNat [] t).2 :: rowL o 58 (flat encR (lpM (dRec s) 32 k.toNat [] t).1 sp) :=
 Fn.perm (rd_recs0 k w hL hs hk) fun v L ⟨o, c, sp, h1, h2, h3⟩ => ⟨_, h3 ▸ own_perm, o, c, sp, h1, h2, rfl⟩
theorem tOptC_no {s : List UInt8} {t : TS} (h : (tOptC IntKind.i64.wrap s t).2.1 = false) : (tOptC IntKind.i64.wrap s t).2.2 = t := by
 unfold tOptC at h ⊢
 dsimp only at h ⊢
 split at h
 ·rename_i hc; rw [if_pos hc]
 ·cases h
section
variable {s : List UInt8} {k z : Int} {out : List RR} {t : TS}
theorem adC_opt (h0 : 0 < k) (hb : t.bad = false) (hl : out.length ≤ 32) (hi : (tOptC IntKind.i64.wrap s t).2.1 = true) : adC IntKind.i64.wrap s k.toNat out z t = adC IntKind.i64.wrap s (k - 1).toNat out (tOptC IntKind.i64.wrap s t).1 ⟨(tOptC IntKind.i64.wrap s t).2.2.at_, bif (tOptC IntKind.i64.wrap s t).2.2.bad then true else !decide (z = 0)⟩ := by
 rw [show k.toNat = (k - 1).toNat + 1 by omega, adC, if_neg (by rintro (h | h); rw [hb] at h; cases h; omega), if_pos hi]
theorem adC_rec (h0 : 0 < k) (hb : t.bad = false) (hl : out.length ≤ 32) (hi : (tOptC IntKind.i64.wrap s t).2.1 = false) : adC IntKind.i64.wrap s k.toNat out z t = adC IntKind.i64.wrap s (k - 1).toNat (out ++ [(dRec s t).1]) z (dRec s t).2 := by
 rw [show k.toNat = (k - 1).toNat + 1 by omega, adC, if_neg (by rintro (h | h); rw [hb] at h; cases h; omega), if_neg (by rw [hi]; decide)]
theorem adC_end (h : k ≤ 0 ∨ t.bad = true ∨ 32 < out.length) : adC IntKind.i64.wrap s k.toNat out z t = (out, z, t) := by
 rcases h with h | h
 ·rw [show k.toNat = 0 by omega, adC]
 ·exact adC_stop h
end
abbrev szD (m : Dn) (z : Int) : Dn := ⟨m.id, m.resp, m.op, m.auth, m.trunc, m.recu, m.code, m.qs, m.an, m.se, m.ad, z⟩
abbrev DnO (b : Nat) (m : Dn) (q a s d : Sl) : Nat × Obj := (b, .cells (encDn m q a s d).toArray 53 (0, 0))
set_option maxRecDepth 100000 in
theorem rd_recsZ0 {b bm : Nat} {s : List UInt8} {t : TS} {m : Dn} {q a e d : Sl} (k : Int) (w : World) (hL : Holds (DnO bm m q a e d :: QdH b s t) w) (hs : s.length ≤ 140737488355328) (hk : k ≤ 65535) :
  Fn Tryz.prog 73 [.pointer (some ⟨b, 0, none⟩), .int .i64 k, .pointer (some ⟨bm, 11, none⟩)] w (DnO bm m q a e d :: QdH b s t) fun v L' => ∃ o c sp, v = .slice (oa o) (adC IntKind.i64.wrap s k.toNat [] m.size t).1.length c ∧ OwnOk o c 7 (adC IntKind.i64.wrap s k.toNat [] m.size t).1.length (List.length sp) ∧ L' = rowL o 58 (flat encR (adC IntKind.i64.wrap s k.toNat [] m.size t).1 sp) ++ (DnO bm (szD m (adC IntKind.i64.wrap s k.toNat [] m.size t).2.1) q a e d :: QdH b s (adC IntKind.i64.wrap s k.toNat [] m.size t).2.2) := by
 refine Fn.enter Tryz.func73 rfl rfl rfl rfl hL ?_
 refine W.go ?_
 refine CW.loopA (X := Int × (List RR) × Int × TS × (Option Nat) × Nat × (List Value)) (fun ⟨j, out, z, u, o, cc, sp⟩ => [(0, true, .pointer (some ⟨b, 0, none⟩)), (2, true, .pointer (some ⟨bm, 11, none⟩)), (1, true, .int .i64 j), (7, true, .slice (oa o) out.length cc)]) (fun ⟨j, out, z, u, o, cc, sp⟩ => rowL o 58 (flat encR out sp) ++ (DnO bm (szD m z) q a e d :: QdH b s u)) (fun ⟨j, out, z, u, o, cc, sp⟩ => j ≤ 65535 ∧ OwnOk o cc 7 out.length sp.length ∧ adC IntKind.i64.wrap s j.toNat out z u = (adC IntKind.i64.wrap s k.toNat [] m.size t) ∧ out.length ≤ 33) (fun ⟨j, out, z, u, o, cc, sp⟩ => j.toNat) (k, [], m.size, t, none, 0, []) ?_ ?_
 ·exact ⟨hk, OwnOk.nil, rfl, by simp⟩
 rintro ⟨j, out, z, u, o, cc, sp⟩ hI
 try dsimp only at hI ⊢
 obtain ⟨h1, ok9, hr, hl⟩ := hI
 have nk9 := ok9.nk (α := RR) (xs := out)
 refine W.go ?_
 refine CW.cond (vt rfl) (fun hc1 => ?_) (fun hc1 => ?_)
 ·try simp only [sk] at hc1
  refine W.go ?_
  refine W.p (O.neP ⟨rfl, rfl⟩ (vt rfl) (vt rfl) (by decide) (fun _ => by first | exact .inr (.inl rfl) | exact .inl rfl | exact .inr (.inr rfl) | (simp_all; done))) ?_
  refine W.go ?_
  refine CW.cond (vt rfl) (fun hc2 => ?_) (fun hc2 => ?_)
  ·try simp only [sk] at hc2
   refine W.go ?_
   refine W.callS (first := []) (cap := []) (QdH b s u) rfl (vt rfl) (AV.cons (vt rfl) (AV.nil)) (fun w hu hh => rd_opt w hh hs) ?_; rintro _ _ ⟨rfl, rfl⟩
   refine W.go ?_
   refine CW.cond (vt rfl) (fun hc3 => ?_) (fun hc3 => ?_)
   ·try simp only [sk] at hc3
    refine W.go ?_
    refine W.st (vt rfl) (vt rfl) rfl ?_
    refine W.go ?_
    first | refine W.st (vt rfl) (vt rfl) rfl ?_ | refine W.st (u := .int _ _) (vt rfl) (vt rfl) rfl ?_
    refine W.go ?_
    refine nextA (j - 1, out, (tOptC IntKind.i64.wrap s u).1, ⟨(tOptC IntKind.i64.wrap s u).2.2.at_, bif (tOptC IntKind.i64.wrap s u).2.2.bad then true else !decide (z = 0)⟩, o, cc, sp) ?_ ?_
    ·try dsimp only
     refine ⟨by omega, ok9, ?_, by omega⟩
     rw [← hr, adC_opt hc1.1.1 hc1.1.2 (by omega) hc3]
    ·try dsimp only
     omega
   try simp only [sk] at hc3
   rw [tOptC_no hc3]
   refine W.go ?_
   refine W.callS (first := []) (cap := []) (QdH b s u) rfl (vt rfl) (AV.cons (vt rfl) (AV.nil)) (fun w hu hh => rd_rec w hh hs) ?_; rintro _ _ ⟨rfl, rfl⟩
   refine W.bs encR [(dRec s u).1] rfl (PV.cons (vt rfl) (PV.nil)) rfl rfl rfl (by decide) rfl fun b1 => ?_
   refine W.ap rfl (vt rfl) (vt rfl) (by first | rfl | omega) (by first | rfl | omega) rfl (by first | assumption | exact OwnOk.nil | exact OwnOk.lit) (by first | omega | (simp; omega)) fun o1 c1 sp1 ok1 ne1 gt1 => ?_
   have nk1 := ok1.nk; have le1 := ok1.2.2.1; try simp only [List.length_append, List.length_cons, List.length_nil] at le1
   refine W.go ?_
   refine nextA (j - 1, out ++ [(dRec s u).1], z, (dRec s u).2, _, _, _) ?_ ?_
   ·try dsimp only
    refine ⟨by omega, by assumption, ?_, by simp only [List.length_append, List.length_cons, List.length_nil]; omega⟩
    rw [← hr, adC_rec hc1.1.1 hc1.1.2 (by omega) hc3]
   ·try dsimp only
    omega
  exact absurd hc2 (by simp)
 try simp only [sk] at hc1
 refine W.go ?_
 refine ⟨_, rowL o 58 (flat encR out sp) ++ (DnO bm (szD m z) q a e d :: QdH b s u), (RVs.tmp rfl RVs.nil), (by repeat (first | exact List.Sublist.refl _ | exact hSub _ | exact List.sublist_append_left _ _ | exact List.nil_sublist _ | refine List.Sublist.append (List.Sublist.refl _) ?_ | apply List.Sublist.cons_cons | apply List.Sublist.cons | exact List.sublist_append_left _ _ | refine List.Sublist.trans ?_ (List.sublist_append_right _ _))), ?_⟩
 have e : (adC IntKind.i64.wrap s k.toNat [] m.size t) = (out, z, u) := by rw [← hr]; exact adC_end (by rcases hc1 with (h | h) | h; exact .inl (by omega); exact .inr (.inl (by simpa using h)); exact .inr (.inr (by omega)))
 rw [e]; exact ⟨o, cc, sp, rfl, ok9, rfl⟩
theorem rd_recsZ {b bm : Nat} {s : List UInt8} {t : TS} {m : Dn} {q a e d : Sl} (k : Int) (w : World) (hL : Holds (DnO bm m q a e d :: QdH b s t) w) (hs : s.length ≤ 140737488355328) (hk : k ≤ 65535) :
  Fn Tryz.prog 73 [.pointer (some ⟨b, 0, none⟩), .int .i64 k, .pointer (some ⟨bm, 11, none⟩)] w (DnO bm m q a e d :: QdH b s t) fun v L' => ∃ o c sp, v = .slice (oa o) (adC IntKind.i64.wrap s k.toNat [] m.size t).1.length c ∧ OwnOk o c 7 (adC IntKind.i64.wrap s k.toNat [] m.size t).1.length (List.length sp) ∧ L' = DnO bm (szD m (adC IntKind.i64.wrap s k.toNat [] m.size t).2.1) q a e d :: (QdO b s (adC IntKind.i64.wrap s k.toNat [] m.size t).2.2 :: rowL o 58 (flat encR (adC IntKind.i64.wrap s k.toNat [] m.size t).1 sp)) :=
 Fn.perm (rd_recsZ0 k w hL hs hk) fun v L ⟨o, c, sp, h1, h2, h3⟩ => ⟨_, h3 ▸ (List.perm_append_comm (l₂ := [_, _])), o, c, sp, h1, h2, rfl⟩
end Go.Proofs.YtfmdaijkgjkmpaaGreatDoor

set_option linter.unusedVariables false
set_option linter.unusedSimpArgs false
namespace Go.Proofs.YtfmdaijkgjkmpaaGreatDoor
open Go Go.RowKit
section
variable {α : Type} {f : TS → α × TS} {cap : Nat} {P : α → Prop}
theorem lp_all (hf : ∀ t, P (f t).1) : ∀ (k : Nat) {out : List α} {t : TS}, (∀ x ∈ out, P x) → ∀ x ∈ (lpM f cap k out t).1, P x
 | 0, out, t, h => h
 | k + 1, out, t, h => by
  rw [lpM]
  split
  ·exact h
  ·exact lp_all hf k (fun x hx => by
    rcases List.mem_append.1 hx with hx | hx
    ·exact h x hx
    ·rw [List.mem_singleton] at hx; subst hx; exact hf t)
theorem lp_len : ∀ (k : Nat) {out : List α} {t : TS}, (lpM f cap k out t).1.length ≤ out.length + k
 | 0, out, t => by simp [lpM]
 | k + 1, out, t => by
  rw [lpM]
  split
  ·dsimp only; omega
  ·have := lp_len k (out := out ++ [(f t).1]) (t := (f t).2)
   simp only [List.length_append, List.length_cons, List.length_nil] at this; omega
end
theorem adC_all {W : Int → Int} {s : List UInt8} {P : RR → Prop} (hf : ∀ t, P (dRec s t).1) : ∀ (k : Nat) {out : List RR} {z : Int} {t : TS}, (∀ x ∈ out, P x) → ∀ x ∈ (adC W s k out z t).1, P x
 | 0, out, z, t, h => h
 | k + 1, out, z, t, h => by
  rw [adC]
  split
  ·exact h
  ·split
   ·exact adC_all hf k h
   ·exact adC_all hf k (fun x hx => by
     rcases List.mem_append.1 hx with hx | hx
     ·exact h x hx
     ·rw [List.mem_singleton] at hx; subst hx; exact hf t)
theorem adC_len {W : Int → Int} {s : List UInt8} : ∀ (k : Nat) {out : List RR} {z : Int} {t : TS}, (adC W s k out z t).1.length ≤ out.length + k
 | 0, out, z, t => by simp [adC]
 | k + 1, out, z, t => by
  rw [adC]
  split
  ·dsimp only; omega
  ·split
   ·have := adC_len (W := W) (s := s) k (out := out) (z := (tOptC W s t).1) (t := ⟨(tOptC W s t).2.2.at_, bif (tOptC W s t).2.2.bad then true else !decide (z = 0)⟩)
    omega
   ·have := adC_len (W := W) (s := s) k (out := out ++ [(dRec s t).1]) (z := z) (t := (dRec s t).2)
    simp only [List.length_append, List.length_cons, List.length_nil] at this; omega
theorem gR_may {s : List UInt8} {p : Int} {r : RR} {to : Int} (h : gR s p = some (r, to)) : rrMay r = true := by
 unfold gR at h
 split at h
 ·cases h
 ·split at h
  ·rename_i nm t0 _ _
   cases hd : dataG s (headG s t0 nm) (t0 + 10) (sizeG s t0) with
   | none => rw [hd] at h; cases h
   | some r' =>
    rw [hd, Option.bind_some] at h
    split at h
    ·rename_i hm; simp only [Option.some.injEq, Prod.mk.injEq] at h; rw [← h.1]; exact hm
    ·cases h
  ·cases h
theorem rrGet_nm (s : List UInt8) (p : Int) : (rrGet s p).1.name.length ≤ 140737488355328 ∧ (rrGet s p).1.target.length ≤ 140737488355328 := by
 cases h : gR s p with
 | none => rw [gR_non h]; simp [noR]
 | some x => obtain ⟨r, to⟩ := x; rw [rrGet_some h]; exact may_nm (gR_may h)
theorem WL.permH {P : Program} {n : Nat} {w0 : World} {L0 L L' : Heap} {all rest : List Oper} {E : Env} {Q : Post} (hp : L.Perm L') (h : WL P n w0 L0 all rest E L' Q) : WL P n w0 L0 all rest E L Q := fun a w ha hw => h a w ha (hw.perm hp.symm)
theorem dn_sz {s : List UInt8} {x id z zz : Int} {k1 k2 k3 k4 : Nat} {t1 t2 t3 t4 : TS} (h1 : k1 ≤ 1000000) (h2 : k2 ≤ 1000000) (h3 : k3 ≤ 1000000) (h4 : k4 ≤ 1000000) : DnSz (hdD x id (lpM (dAsk IntKind.i64.wrap s) bigC k1 [] t1).1 (lpM (dRec s) 32 k2 [] t2).1 (lpM (dRec s) 32 k3 [] t3).1 (adC IntKind.i64.wrap s k4 [] z t4).1 zz) 140737488355328 := by
 have l1 := lp_len (f := dAsk IntKind.i64.wrap s) (cap := bigC) k1 (out := []) (t := t1)
 have l2 := lp_len (f := dRec s) (cap := 32) k2 (out := []) (t := t2)
 have l3 := lp_len (f := dRec s) (cap := 32) k3 (out := []) (t := t3)
 have l4 := adC_len (W := IntKind.i64.wrap) (s := s) k4 (out := []) (z := z) (t := t4)
 simp only [List.length_nil, Nat.zero_add] at l1 l2 l3 l4
 have hq : ∀ t : TS, (dAsk IntKind.i64.wrap s t).1.name.length ≤ 140737488355328 := fun t => Nat.le_trans (grN_len s t.at_) (by decide)
 have hr : ∀ t : TS, (dRec s t).1.name.length ≤ 140737488355328 ∧ (dRec s t).1.target.length ≤ 140737488355328 := fun t => rrGet_nm s t.at_
 exact ⟨⟨by show (lpM (dAsk IntKind.i64.wrap s) bigC k1 [] t1).1.length ≤ _; omega, lp_all hq k1 (by simp)⟩, ⟨by show (lpM (dRec s) 32 k2 [] t2).1.length ≤ _; omega, lp_all hr k2 (by simp)⟩, ⟨by show (lpM (dRec s) 32 k3 [] t3).1.length ≤ _; omega, lp_all hr k3 (by simp)⟩, ⟨by show (adC IntKind.i64.wrap s k4 [] z t4).1.length ≤ _; omega, adC_all hr k4 (by simp)⟩⟩
theorem n_rng (s : List UInt8) (t : TS) : 0 ≤ (tNum IntKind.i64.wrap s 2 t).1 ∧ (tNum IntKind.i64.wrap s 2 t).1 < 65536 := beG_rng s t.at_
set_option maxRecDepth 100000 in
set_option maxHeartbeats 2000000 in
theorem dn_Get (s : List UInt8) (w : World) (hs : s.length ≤ 140737488355328) : Fn Tryz.prog 35 [.string (S s)] w [] fun v L' => ∃ o1 c1 p1 o2 c2 p2 o3 c3 p3 o4 c4 p4, v = .tuple #[vDn (dnGet s).1 (oa o1, c1) (oa o2, c2) (oa o3, c3) (oa o4, c4), .int .i64 (dnGet s).2] ∧ OwnOk o1 c1 2 (dnGet s).1.qs.length (List.length p1) ∧ OwnOk o2 c2 7 (dnGet s).1.an.length (List.length p2) ∧ OwnOk o3 c3 7 (dnGet s).1.se.length (List.length p3) ∧ OwnOk o4 c4 7 (dnGet s).1.ad.length (List.length p4) ∧ L' = rowL o4 58 (flat encR (dnGet s).1.ad p4) ++ (rowL o3 58 (flat encR (dnGet s).1.se p3) ++ (rowL o2 58 (flat encR (dnGet s).1.an p2) ++ rowL o1 29 (flat encQ (dnGet s).1.qs p1))) := by
 refine Fn.enter Tryz.func35 rfl rfl rfl rfl (Holds.nil w) ?_
 refine W.go ?_
 refine W.al rfl rfl fun b1 => ?_
 refine W.go ?_
 refine W.p (O.bd (hv := PV.cons (vt rfl) (PV.nil))) ?_
 refine W.p (O.bd (hv := PV.cons (vt rfl) (PV.nil))) ?_
 refine W.bx rfl (vt rfl) rfl fun b2 => ?_
 refine W.go ?_
 refine W.callS (first := []) (cap := []) (QdH b2 s ⟨0, false⟩) rfl (vt rfl) (AV.cons (vt rfl) (AV.cons (vt rfl) (AV.nil))) (fun w hu hh => tk_Num 2 w hh hs) ?_; rintro _ _ ⟨rfl, rfl⟩
 refine W.go ?_
 refine W.callS (first := []) (cap := []) (QdH b2 s (tNum IntKind.i64.wrap s 2 ⟨0, false⟩).2) rfl (vt rfl) (AV.cons (vt rfl) (AV.cons (vt rfl) (AV.nil))) (fun w hu hh => tk_Num 2 w hh hs) ?_; rintro _ _ ⟨rfl, rfl⟩
 refine W.q (O.call ⟨rfl, rfl⟩ (AV.cons (vt rfl) (AV.nil)) (fun _ w hw => dn_head _ w)) ?_
 refine W.go ?_
 refine W.al rfl rfl fun b3 => ?_
 refine W.st (vt rfl) (vt rfl) rfl ?_
 refine W.go ?_
 first | refine W.st (vt rfl) (vt rfl) rfl ?_ | refine W.st (u := .int _ _) (vt rfl) (vt rfl) rfl ?_
 refine W.go ?_
 refine W.al (cs := (List.replicate 4 (0 : Int)).map kI) rfl rfl fun b4 => ?_
 refine W.go ?_
 refine CW.loopA (X := Int × (List Int) × TS) (fun ⟨i, l, u⟩ => [(0, true, .string (S s)), (2, true, .pointer (some ⟨b1, 0, none⟩)), (4, true, .pointer (some ⟨b2, 0, none⟩)), (6, true, .pointer (some ⟨b3, 0, none⟩)), (7, true, .bool (decide (bits .and .i64 (tNum IntKind.i64.wrap s 2 (tSt IntKind.i64.wrap s 1)).1 240 = 0))), (8, true, .pointer (some ⟨b4, 0, none⟩)), (28, true, .int .i64 i)]) (fun ⟨i, l, u⟩ => [(b4, .cells (l.map kI).toArray 121 (0, 0)), DnO b3 (hdD (tNum IntKind.i64.wrap s 2 (tSt IntKind.i64.wrap s 1)).1 (tNum IntKind.i64.wrap s 2 (tSt IntKind.i64.wrap s 0)).1 [] [] [] [] 0) nS nS nS nS, QdO b2 s u, DnO b1 noD nS nS nS nS]) (fun ⟨i, l, u⟩ => 0 ≤ i ∧ i ≤ 4 ∧ l.length = 4 ∧ u = tSt IntKind.i64.wrap s (2 + i.toNat) ∧ ∀ j : Nat, j < i.toNat → l.getD j 0 = (tNum IntKind.i64.wrap s 2 (tSt IntKind.i64.wrap s (2 + j))).1) (fun ⟨i, l, u⟩ => (4 - i).toNat) (0, [0, 0, 0, 0], tSt IntKind.i64.wrap s 2) ?_ ?_
 ·exact ⟨by omega, by omega, rfl, rfl, fun j hj => absurd hj (by simp)⟩
 rintro ⟨i, l, u⟩ hI
 try dsimp only at hI ⊢
 obtain ⟨h0, h1, hl, hu, hn⟩ := hI
 refine W.go ?_
 refine CW.cond (vt rfl) (fun hc1 => ?_) (fun hc1 => ?_)
 ·try simp only [sk] at hc1
  refine W.go ?_
  refine W.callS (first := []) (cap := []) (QdH b2 s u) rfl (vt rfl) (AV.cons (vt rfl) (AV.cons (vt rfl) (AV.nil))) (fun w hu hh => tk_Num 2 w hh hs) ?_; rintro _ _ ⟨rfl, rfl⟩
  refine W.p O.ixR ?_
  refine W.stA (tNum IntKind.i64.wrap s 2 u).1 (vt rfl) (vt rfl) rfl rfl (by omega) ?_
  refine W.go ?_
  refine nextA (i + 1, _, (tNum IntKind.i64.wrap s 2 u).2) ?_ ?_
  ·try dsimp only
   refine ⟨by omega, by omega, by simpa using hl, by rw [hu, show (i + 1).toNat = i.toNat + 1 by omega]; rfl, fun j hj => ?_⟩
   rw [Nat.mul_one, List.getD_eq_getElem?_getD, List.getElem?_set]
   by_cases e : i.toNat = j
   ·subst e; rw [if_pos rfl, if_pos (by omega), hu]; rfl
   ·rw [if_neg e, ← List.getD_eq_getElem?_getD]; exact hn j (by omega)
  ·try dsimp only
   omega
 try simp only [sk] at hc1
 have hi4 : i = 4 := by omega
 subst hi4
 have n0 : l.getD 0 0 = (tNum IntKind.i64.wrap s 2 (tSt IntKind.i64.wrap s 2)).1 := hn 0 (by decide)
 have n1 : l.getD 1 0 = (tNum IntKind.i64.wrap s 2 (tSt IntKind.i64.wrap s 3)).1 := hn 1 (by decide)
 have n2' : l.getD 2 0 = (tNum IntKind.i64.wrap s 2 (tSt IntKind.i64.wrap s 4)).1 := hn 2 (by decide)
 have n3 : l.getD 3 0 = (tNum IntKind.i64.wrap s 2 (tSt IntKind.i64.wrap s 5)).1 := hn 3 (by decide)
 have hu6 : u = tSt IntKind.i64.wrap s 6 := hu
 subst hu6
 have g0 := n_rng s (tSt IntKind.i64.wrap s 2)
 have g1 := n_rng s (tSt IntKind.i64.wrap s 3)
 have g2 := n_rng s (tSt IntKind.i64.wrap s 4)
 have g3 := n_rng s (tSt IntKind.i64.wrap s 5)
 have hfin : dnGet s = if (adC IntKind.i64.wrap s (l.getD 3 0).toNat [] 0 (lpM (dRec s) 32 (l.getD 2 0).toNat [] (lpM (dRec s) 32 (l.getD 1 0).toNat [] (lpM (dAsk IntKind.i64.wrap s) bigC (min (l.getD 0 0) 5).toNat [] (tSt IntKind.i64.wrap s 6)).2).2).2).2.2.bad = true ∨ bits .and .i64 (tNum IntKind.i64.wrap s 2 (tSt IntKind.i64.wrap s 1)).1 240 ≠ 0 ∨ (adC IntKind.i64.wrap s (l.getD 3 0).toNat [] 0 (lpM (dRec s) 32 (l.getD 2 0).toNat [] (lpM (dRec s) 32 (l.getD 1 0).toNat [] (lpM (dAsk IntKind.i64.wrap s) bigC (min (l.getD 0 0) 5).toNat [] (tSt IntKind.i64.wrap s 6)).2).2).2).2.2.at_ ≠ s.length ∨ dnMay (hdD (tNum IntKind.i64.wrap s 2 (tSt IntKind.i64.wrap s 1)).1 (tNum IntKind.i64.wrap s 2 (tSt IntKind.i64.wrap s 0)).1 (lpM (dAsk IntKind.i64.wrap s) bigC (min (l.getD 0 0) 5).toNat [] (tSt IntKind.i64.wrap s 6)).1 (lpM (dRec s) 32 (l.getD 1 0).toNat [] (lpM (dAsk IntKind.i64.wrap s) bigC (min (l.getD 0 0) 5).toNat [] (tSt IntKind.i64.wrap s 6)).2).1 (lpM (dRec s) 32 (l.getD 2 0).toNat [] (lpM (dRec s) 32 (l.getD 1 0).toNat [] (lpM (dAsk IntKind.i64.wrap s) bigC (min (l.getD 0 0) 5).toNat [] (tSt IntKind.i64.wrap s 6)).2).2).1 (adC IntKind.i64.wrap s (l.getD 3 0).toNat [] 0 (lpM (dRec s) 32 (l.getD 2 0).toNat [] (lpM (dRec s) 32 (l.getD 1 0).toNat [] (lpM (dAsk IntKind.i64.wrap s) bigC (min (l.getD 0 0) 5).toNat [] (tSt IntKind.i64.wrap s 6)).2).2).2).1 (adC IntKind.i64.wrap s (l.getD 3 0).toNat [] 0 (lpM (dRec s) 32 (l.getD 2 0).toNat [] (lpM (dRec s) 32 (l.getD 1 0).toNat [] (lpM (dAsk IntKind.i64.wrap s) bigC (min (l.getD 0 0) 5).toNat [] (tSt IntKind.i64.wrap s 6)).2).2).2).2.1) = false then (noD, 500) else ((hdD (tNum IntKind.i64.wrap s 2 (tSt IntKind.i64.wrap s 1)).1 (tNum IntKind.i64.wrap s 2 (tSt IntKind.i64.wrap s 0)).1 (lpM (dAsk IntKind.i64.wrap s) bigC (min (l.getD 0 0) 5).toNat [] (tSt IntKind.i64.wrap s 6)).1 (lpM (dRec s) 32 (l.getD 1 0).toNat [] (lpM (dAsk IntKind.i64.wrap s) bigC (min (l.getD 0 0) 5).toNat [] (tSt IntKind.i64.wrap s 6)).2).1 (lpM (dRec s) 32 (l.getD 2 0).toNat [] (lpM (dRec s) 32 (l.getD 1 0).toNat [] (lpM (dAsk IntKind.i64.wrap s) bigC (min (l.getD 0 0) 5).toNat [] (tSt IntKind.i64.wrap s 6)).2).2).1 (adC IntKind.i64.wrap s (l.getD 3 0).toNat [] 0 (lpM (dRec s) 32 (l.getD 2 0).toNat [] (lpM (dRec s) 32 (l.getD 1 0).toNat [] (lpM (dAsk IntKind.i64.wrap s) bigC (min (l.getD 0 0) 5).toNat [] (tSt IntKind.i64.wrap s 6)).2).2).2).1 (adC IntKind.i64.wrap s (l.getD 3 0).toNat [] 0 (lpM (dRec s) 32 (l.getD 2 0).toNat [] (lpM (dRec s) 32 (l.getD 1 0).toNat [] (lpM (dAsk IntKind.i64.wrap s) bigC (min (l.getD 0 0) 5).toNat [] (tSt IntKind.i64.wrap s 6)).2).2).2).2.1), 0) := by rw [← dnGetC_eq wr_in hs]; unfold dnGetC; dsimp only; rw [← n0, ← n1, ← n2', ← n3]
 refine W.go ?_
 refine W.p O.ixR ?_
 refine W.p (O.ldA (0 : Int) (h := fun hg => by first | omega | (simp only [cond_true, cond_false, Bool.true_and, Bool.and_eq_true, Bool.not_eq_true', decide_eq_true_eq, decide_eq_false_iff_not, Bool.or_eq_false_iff, Bool.cond_true_left] at *; omega))) ?_
 refine W.p O.min ?_
 refine W.callS (first := []) (cap := []) (QdH b2 s (tSt IntKind.i64.wrap s 6)) rfl (vt rfl) (AV.cons (vt rfl) (AV.cons (vt rfl) (AV.nil))) (fun w hu hh => rd_asked (min (l.getD 0 0) 5) w hh hs (by omega)) ?_; rintro _ _ ⟨o11, c11, p11, rfl, ok11, rfl⟩; have nk11 := ok11.nk (α := Qn') (xs := (lpM (dAsk IntKind.i64.wrap s) bigC (min (l.getD 0 0) 5).toNat [] (tSt IntKind.i64.wrap s 6)).1)
 refine W.go ?_
 first | refine W.st (vt rfl) (vt rfl) rfl ?_ | refine W.st (u := .slice _ _ _) (vt rfl) (vt rfl) rfl ?_
 refine W.go ?_
 refine W.p O.ixR ?_
 refine W.p (O.ldA (0 : Int) (h := fun hg => by first | omega | (simp only [cond_true, cond_false, Bool.true_and, Bool.and_eq_true, Bool.not_eq_true', decide_eq_true_eq, decide_eq_false_iff_not, Bool.or_eq_false_iff, Bool.cond_true_left] at *; omega))) ?_
 refine W.callS (first := []) (cap := []) (QdH b2 s (lpM (dAsk IntKind.i64.wrap s) bigC (min (l.getD 0 0) 5).toNat [] (tSt IntKind.i64.wrap s 6)).2) rfl (vt rfl) (AV.cons (vt rfl) (AV.cons (vt rfl) (AV.cons (vt rfl) (AV.nil)))) (fun w hu hh => rd_recs (l.getD 1 0) w hh hs (by omega)) ?_; rintro _ _ ⟨o12, c12, p12, rfl, ok12, rfl⟩; have nk12 := ok12.nk (α := RR) (xs := (lpM (dRec s) 32 (l.getD 1 0).toNat [] (lpM (dAsk IntKind.i64.wrap s) bigC (min (l.getD 0 0) 5).toNat [] (tSt IntKind.i64.wrap s 6)).2).1)
 refine W.go ?_
 first | refine W.st (vt rfl) (vt rfl) rfl ?_ | refine W.st (u := .slice _ _ _) (vt rfl) (vt rfl) rfl ?_
 refine W.go ?_
 refine W.p O.ixR ?_
 refine W.p (O.ldA (0 : Int) (h := fun hg => by first | omega | (simp only [cond_true, cond_false, Bool.true_and, Bool.and_eq_true, Bool.not_eq_true', decide_eq_true_eq, decide_eq_false_iff_not, Bool.or_eq_false_iff, Bool.cond_true_left] at *; omega))) ?_
 refine W.callS (first := []) (cap := []) (QdH b2 s (lpM (dRec s) 32 (l.getD 1 0).toNat [] (lpM (dAsk IntKind.i64.wrap s) bigC (min (l.getD 0 0) 5).toNat [] (tSt IntKind.i64.wrap s 6)).2).2) rfl (vt rfl) (AV.cons (vt rfl) (AV.cons (vt rfl) (AV.cons (vt rfl) (AV.nil)))) (fun w hu hh => rd_recs (l.getD 2 0) w hh hs (by omega)) ?_; rintro _ _ ⟨o13, c13, p13, rfl, ok13, rfl⟩; have nk13 := ok13.nk (α := RR) (xs := (lpM (dRec s) 32 (l.getD 2 0).toNat [] (lpM (dRec s) 32 (l.getD 1 0).toNat [] (lpM (dAsk IntKind.i64.wrap s) bigC (min (l.getD 0 0) 5).toNat [] (tSt IntKind.i64.wrap s 6)).2).2).1)
 refine W.go ?_
 first | refine W.st (vt rfl) (vt rfl) rfl ?_ | refine W.st (u := .slice _ _ _) (vt rfl) (vt rfl) rfl ?_
 refine W.go ?_
 refine W.p O.ixR ?_
 refine W.p (O.ldA (0 : Int) (h := fun hg => by first | omega | (simp only [cond_true, cond_false, Bool.true_and, Bool.and_eq_true, Bool.not_eq_true', decide_eq_true_eq, decide_eq_false_iff_not, Bool.or_eq_false_iff, Bool.cond_true_left] at *; omega))) ?_
 first | refine W.p O.fb ?_ | refine W.p O.fa ?_
 refine WL.permH (L' := (b4, Obj.cells (l.map kI).toArray 121 (0, 0)) :: (DnO b3 (hdD (tNum IntKind.i64.wrap s 2 (tSt IntKind.i64.wrap s 1)).1 (tNum IntKind.i64.wrap s 2 (tSt IntKind.i64.wrap s 0)).1 (lpM (dAsk IntKind.i64.wrap s) bigC (min (l.getD 0 0) 5).toNat [] (tSt IntKind.i64.wrap s 6)).1 (lpM (dRec s) 32 (l.getD 1 0).toNat [] (lpM (dAsk IntKind.i64.wrap s) bigC (min (l.getD 0 0) 5).toNat [] (tSt IntKind.i64.wrap s 6)).2).1 (lpM (dRec s) 32 (l.getD 2 0).toNat [] (lpM (dRec s) 32 (l.getD 1 0).toNat [] (lpM (dAsk IntKind.i64.wrap s) bigC (min (l.getD 0 0) 5).toNat [] (tSt IntKind.i64.wrap s 6)).2).2).1 [] 0) (oa o11, c11) (oa o12, c12) (oa o13, c13) nS :: (QdH b2 s (lpM (dRec s) 32 (l.getD 2 0).toNat [] (lpM (dRec s) 32 (l.getD 1 0).toNat [] (lpM (dAsk IntKind.i64.wrap s) bigC (min (l.getD 0 0) 5).toNat [] (tSt IntKind.i64.wrap s 6)).2).2).2 ++ (rowL o13 58 (flat encR (lpM (dRec s) 32 (l.getD 2 0).toNat [] (lpM (dRec s) 32 (l.getD 1 0).toNat [] (lpM (dAsk IntKind.i64.wrap s) bigC (min (l.getD 0 0) 5).toNat [] (tSt IntKind.i64.wrap s 6)).2).2).1 p13) ++ (rowL o12 58 (flat encR (lpM (dRec s) 32 (l.getD 1 0).toNat [] (lpM (dAsk IntKind.i64.wrap s) bigC (min (l.getD 0 0) 5).toNat [] (tSt IntKind.i64.wrap s 6)).2).1 p12) ++ (rowL o11 29 (flat encQ (lpM (dAsk IntKind.i64.wrap s) bigC (min (l.getD 0 0) 5).toNat [] (tSt IntKind.i64.wrap s 6)).1 p11) ++ [DnO b1 noD nS nS nS nS])))))) (by simp only [List.append_assoc, List.cons_append, List.nil_append]; exact List.Perm.refl _) ?_; refine W.callS (first := []) (cap := []) (DnO b3 (hdD (tNum IntKind.i64.wrap s 2 (tSt IntKind.i64.wrap s 1)).1 (tNum IntKind.i64.wrap s 2 (tSt IntKind.i64.wrap s 0)).1 (lpM (dAsk IntKind.i64.wrap s) bigC (min (l.getD 0 0) 5).toNat [] (tSt IntKind.i64.wrap s 6)).1 (lpM (dRec s) 32 (l.getD 1 0).toNat [] (lpM (dAsk IntKind.i64.wrap s) bigC (min (l.getD 0 0) 5).toNat [] (tSt IntKind.i64.wrap s 6)).2).1 (lpM (dRec s) 32 (l.getD 2 0).toNat [] (lpM (dRec s) 32 (l.getD 1 0).toNat [] (lpM (dAsk IntKind.i64.wrap s) bigC (min (l.getD 0 0) 5).toNat [] (tSt IntKind.i64.wrap s 6)).2).2).1 [] 0) (oa o11, c11) (oa o12, c12) (oa o13, c13) nS :: QdH b2 s (lpM (dRec s) 32 (l.getD 2 0).toNat [] (lpM (dRec s) 32 (l.getD 1 0).toNat [] (lpM (dAsk IntKind.i64.wrap s) bigC (min (l.getD 0 0) 5).toNat [] (tSt IntKind.i64.wrap s 6)).2).2).2) rfl (vt rfl) (AV.cons (vt rfl) (AV.cons (vt rfl) (AV.cons (vt rfl) (AV.nil)))) (fun w hu hh => rd_recsZ (l.getD 3 0) w hh hs (by omega)) ?_; rintro _ _ ⟨o14, c14, p14, rfl, ok14, rfl⟩; have nk14 := ok14.nk (α := RR) (xs := (adC IntKind.i64.wrap s (l.getD 3 0).toNat [] 0 (lpM (dRec s) 32 (l.getD 2 0).toNat [] (lpM (dRec s) 32 (l.getD 1 0).toNat [] (lpM (dAsk IntKind.i64.wrap s) bigC (min (l.getD 0 0) 5).toNat [] (tSt IntKind.i64.wrap s 6)).2).2).2).1); refine WL.permH (L' := (b4, Obj.cells (l.map kI).toArray 121 (0, 0)) :: (DnO b3 (szD (hdD (tNum IntKind.i64.wrap s 2 (tSt IntKind.i64.wrap s 1)).1 (tNum IntKind.i64.wrap s 2 (tSt IntKind.i64.wrap s 0)).1 (lpM (dAsk IntKind.i64.wrap s) bigC (min (l.getD 0 0) 5).toNat [] (tSt IntKind.i64.wrap s 6)).1 (lpM (dRec s) 32 (l.getD 1 0).toNat [] (lpM (dAsk IntKind.i64.wrap s) bigC (min (l.getD 0 0) 5).toNat [] (tSt IntKind.i64.wrap s 6)).2).1 (lpM (dRec s) 32 (l.getD 2 0).toNat [] (lpM (dRec s) 32 (l.getD 1 0).toNat [] (lpM (dAsk IntKind.i64.wrap s) bigC (min (l.getD 0 0) 5).toNat [] (tSt IntKind.i64.wrap s 6)).2).2).1 [] 0) (adC IntKind.i64.wrap s (l.getD 3 0).toNat [] 0 (lpM (dRec s) 32 (l.getD 2 0).toNat [] (lpM (dRec s) 32 (l.getD 1 0).toNat [] (lpM (dAsk IntKind.i64.wrap s) bigC (min (l.getD 0 0) 5).toNat [] (tSt IntKind.i64.wrap s 6)).2).2).2).2.1) (oa o11, c11) (oa o12, c12) (oa o13, c13) nS :: (QdO b2 s (adC IntKind.i64.wrap s (l.getD 3 0).toNat [] 0 (lpM (dRec s) 32 (l.getD 2 0).toNat [] (lpM (dRec s) 32 (l.getD 1 0).toNat [] (lpM (dAsk IntKind.i64.wrap s) bigC (min (l.getD 0 0) 5).toNat [] (tSt IntKind.i64.wrap s 6)).2).2).2).2.2 :: (rowL o14 58 (flat encR (adC IntKind.i64.wrap s (l.getD 3 0).toNat [] 0 (lpM (dRec s) 32 (l.getD 2 0).toNat [] (lpM (dRec s) 32 (l.getD 1 0).toNat [] (lpM (dAsk IntKind.i64.wrap s) bigC (min (l.getD 0 0) 5).toNat [] (tSt IntKind.i64.wrap s 6)).2).2).2).1 p14) ++ (rowL o13 58 (flat encR (lpM (dRec s) 32 (l.getD 2 0).toNat [] (lpM (dRec s) 32 (l.getD 1 0).toNat [] (lpM (dAsk IntKind.i64.wrap s) bigC (min (l.getD 0 0) 5).toNat [] (tSt IntKind.i64.wrap s 6)).2).2).1 p13) ++ (rowL o12 58 (flat encR (lpM (dRec s) 32 (l.getD 1 0).toNat [] (lpM (dAsk IntKind.i64.wrap s) bigC (min (l.getD 0 0) 5).toNat [] (tSt IntKind.i64.wrap s 6)).2).1 p12) ++ (rowL o11 29 (flat encQ (lpM (dAsk IntKind.i64.wrap s) bigC (min (l.getD 0 0) 5).toNat [] (tSt IntKind.i64.wrap s 6)).1 p11) ++ [DnO b1 noD nS nS nS nS]))))))) (by simp only [List.append_assoc, List.cons_append, List.nil_append]; exact List.Perm.refl _) ?_
 refine W.go ?_
 first | refine W.st (vt rfl) (vt rfl) rfl ?_ | refine W.st (u := .slice _ _ _) (vt rfl) (vt rfl) rfl ?_
 refine W.go ?_
 refine W.q (O.call ⟨rfl, rfl⟩ (AV.cons (vs rfl) (AV.nil)) (fun _ w hw => dn_May (hdD (tNum IntKind.i64.wrap s 2 (tSt IntKind.i64.wrap s 1)).1 (tNum IntKind.i64.wrap s 2 (tSt IntKind.i64.wrap s 0)).1 (lpM (dAsk IntKind.i64.wrap s) bigC (min (l.getD 0 0) 5).toNat [] (tSt IntKind.i64.wrap s 6)).1 (lpM (dRec s) 32 (l.getD 1 0).toNat [] (lpM (dAsk IntKind.i64.wrap s) bigC (min (l.getD 0 0) 5).toNat [] (tSt IntKind.i64.wrap s 6)).2).1 (lpM (dRec s) 32 (l.getD 2 0).toNat [] (lpM (dRec s) 32 (l.getD 1 0).toNat [] (lpM (dAsk IntKind.i64.wrap s) bigC (min (l.getD 0 0) 5).toNat [] (tSt IntKind.i64.wrap s 6)).2).2).1 (adC IntKind.i64.wrap s (l.getD 3 0).toNat [] 0 (lpM (dRec s) 32 (l.getD 2 0).toNat [] (lpM (dRec s) 32 (l.getD 1 0).toNat [] (lpM (dAsk IntKind.i64.wrap s) bigC (min (l.getD 0 0) 5).toNat [] (tSt IntKind.i64.wrap s 6)).2).2).2).1 (adC IntKind.i64.wrap s (l.getD 3 0).toNat [] 0 (lpM (dRec s) 32 (l.getD 2 0).toNat [] (lpM (dRec s) 32 (l.getD 1 0).toNat [] (lpM (dAsk IntKind.i64.wrap s) bigC (min (l.getD 0 0) 5).toNat [] (tSt IntKind.i64.wrap s 6)).2).2).2).2.1) (oa o11, c11) (oa o12, c12) (oa o13, c13) (oa o14, c14) w ⟨(show In w (oa o11) ((lpM (dAsk IntKind.i64.wrap s) bigC (min (l.getD 0 0) 5).toNat [] (tSt IntKind.i64.wrap s 6)).1.flatMap encQ) from RowL.h _ hw), (show In w (oa o12) ((lpM (dRec s) 32 (l.getD 1 0).toNat [] (lpM (dAsk IntKind.i64.wrap s) bigC (min (l.getD 0 0) 5).toNat [] (tSt IntKind.i64.wrap s 6)).2).1.flatMap encR) from RowL.h _ hw), (show In w (oa o13) ((lpM (dRec s) 32 (l.getD 2 0).toNat [] (lpM (dRec s) 32 (l.getD 1 0).toNat [] (lpM (dAsk IntKind.i64.wrap s) bigC (min (l.getD 0 0) 5).toNat [] (tSt IntKind.i64.wrap s 6)).2).2).1.flatMap encR) from RowL.h _ hw), (show In w (oa o14) ((adC IntKind.i64.wrap s (l.getD 3 0).toNat [] 0 (lpM (dRec s) 32 (l.getD 2 0).toNat [] (lpM (dRec s) 32 (l.getD 1 0).toNat [] (lpM (dAsk IntKind.i64.wrap s) bigC (min (l.getD 0 0) 5).toNat [] (tSt IntKind.i64.wrap s 6)).2).2).2).1.flatMap encR) from RowL.h _ hw)⟩ (dn_sz (by omega) (by omega) (by omega) (by omega)))) ?_
 refine W.go ?_
 refine CW.cond (vt rfl) (fun hc2 => ?_) (fun hc2 => ?_)
 ·try simp only [sk] at hc2
  refine W.go ?_
  refine W.p (O.bd (hv := PV.nil)) ?_
  refine W.st (vt rfl) (vt rfl) rfl ?_
  refine W.go ?_
  refine ⟨_, [], (RVs.cell rfl (RVs.tmp rfl RVs.nil)), List.nil_sublist _, ?_⟩
  rw [hfin, if_pos (by rcases hc2 with ((h | h) | h) | h; exact .inl h; exact .inr (.inl h); exact .inr (.inr (.inl h)); exact .inr (.inr (.inr h)))]
  exact ⟨none, 0, [], none, 0, [], none, 0, [], none, 0, [], rfl, OwnOk.nil, OwnOk.nil, OwnOk.nil, OwnOk.nil, rfl⟩
 try simp only [sk] at hc2
 refine W.go ?_
 refine W.st (vt rfl) (vt rfl) rfl ?_
 refine W.go ?_
 refine ⟨_, rowL o14 58 (flat encR (adC IntKind.i64.wrap s (l.getD 3 0).toNat [] 0 (lpM (dRec s) 32 (l.getD 2 0).toNat [] (lpM (dRec s) 32 (l.getD 1 0).toNat [] (lpM (dAsk IntKind.i64.wrap s) bigC (min (l.getD 0 0) 5).toNat [] (tSt IntKind.i64.wrap s 6)).2).2).2).1 p14) ++ (rowL o13 58 (flat encR (lpM (dRec s) 32 (l.getD 2 0).toNat [] (lpM (dRec s) 32 (l.getD 1 0).toNat [] (lpM (dAsk IntKind.i64.wrap s) bigC (min (l.getD 0 0) 5).toNat [] (tSt IntKind.i64.wrap s 6)).2).2).1 p13) ++ (rowL o12 58 (flat encR (lpM (dRec s) 32 (l.getD 1 0).toNat [] (lpM (dAsk IntKind.i64.wrap s) bigC (min (l.getD 0 0) 5).toNat [] (tSt IntKind.i64.wrap s 6)).2).1 p12) ++ rowL o11 29 (flat encQ (lpM (dAsk IntKind.i64.wrap s) bigC (min (l.getD 0 0) 5).toNat [] (tSt IntKind.i64.wrap s 6)).1 p11))), (RVs.cell rfl (RVs.tmp rfl RVs.nil)), (by repeat (first | exact List.Sublist.refl _ | exact hSub _ | exact List.sublist_append_left _ _ | exact List.nil_sublist _ | refine List.Sublist.append (List.Sublist.refl _) ?_ | apply List.Sublist.cons_cons | apply List.Sublist.cons | exact List.sublist_append_left _ _ | refine List.Sublist.trans ?_ (List.sublist_append_right _ _))), ?_⟩
 rw [hfin, if_neg (by rintro (h | h | h | h); (rw [hc2.1.1.1] at h; cases h); exact h hc2.1.1.2; exact h hc2.1.2; (rw [hc2.2] at h; cases h))]
 exact ⟨o11, c11, p11, o12, c12, p12, o13, c13, p13, o14, c14, p14, rfl, ok11, ok12, ok13, ok14, rfl⟩
end Go.Proofs.YtfmdaijkgjkmpaaGreatDoor
