/- What the reader of package dns comes to: record, opt, asked, records. Condition: the text is not longer than some 2^47 bytes. -/
import Derived.Test.YtkjcmdgideddnaaDnA
import Derived.Test.YtkjcmdgideddnaaRrTak
set_option linter.unusedVariables false
set_option linter.unusedSimpArgs false
namespace Go.Proofs.Ytkjcmdgideddnaa
open Go Go.RowKit
abbrev QdO (b : Nat) (s : List UInt8) (t : TS) : Nat × Obj := (b, .cells #[.string (S s), .int .i64 t.at_, .bool t.bad] 199 (0, 0))
abbrev QdH (b : Nat) (s : List UInt8) (t : TS) : Heap := [QdO b s t]
theorem Fn.perm {P : Program} {f : FuncId} {args : List Value} {w : World} {Lf : Heap} {R R' : Value → Heap → Prop} (h : Fn P f args w Lf R) (hp : ∀ v L, R v L → ∃ L', L.Perm L' ∧ R' v L') : Fn P f args w Lf R' :=
  Calls.mono h fun e w' ⟨v, L', h1, h2, h3⟩ => by
    obtain ⟨L2, h4, h5⟩ := hp v L' h2
    exact ⟨v, L2, h1, h5, h3.perm h4.symm⟩
set_option maxRecDepth 100000 in
theorem rd_rec {b : Nat} {s : List UInt8} {t : TS} (w : World) (hL : Holds (QdH b s t) w) (hs : s.length ≤ 140737488355328) :
    Fn Try.prog 171 [.pointer (some ⟨b, 0, none⟩)] w (QdH b s t) fun v L' => v = vR (dRec s t).1 ∧ L' = QdH b s (dRec s t).2 := by
  refine Fn.enter Try.func171 rfl rfl rfl rfl hL ?_
  refine CW.seq ?_
  refine CW.region ?_
  refine W.al rfl rfl fun b1 => ?_
  refine WL.nil (Q.tn ?_)
  refine CW.seq ?_
  refine CW.drawHL rfl ?_
  refine RH.qa 0 rfl (O.mv) ?_
  refine RH.qa 1 rfl (O.nc) ?_
  first | refine RH.qa 2 rfl (O.fb) ?_ | refine RH.qa 2 rfl (O.fa) ?_
  first | refine RH.qa 3 rfl (O.fb) ?_ | refine RH.qa 3 rfl (O.fa) ?_
  refine RH.qa 4 rfl (O.ld) ?_
  refine RH.qa 5 rfl (O.mv) ?_
  refine RH.qa 6 rfl (O.nc) ?_
  first | refine RH.qa 7 rfl (O.fb) ?_ | refine RH.qa 7 rfl (O.fa) ?_
  first | refine RH.qa 8 rfl (O.fb) ?_ | refine RH.qa 8 rfl (O.fa) ?_
  refine RH.qa 9 rfl (O.ld) ?_
  refine RH.two (i := 10) (j := 15) (fun _ _ h => h) (by kernel_rfl) rfl rfl ?_ ?_
  · refine W.q (O.call ⟨rfl, rfl⟩ (AV.cons (vt rfl) (AV.cons (vt rfl) (AV.nil))) (fun _ w hw => rr_Get _ _ w hs)) ?_
    refine WL.nilQa ?_
    refine RH.qa 11 rfl (O.mv) ?_
    first | refine RH.qa 12 rfl (O.extL) ?_ | refine RH.qa 12 rfl (O.ext) ?_
    first | refine RH.qa 13 rfl (O.extL) ?_ | refine RH.qa 13 rfl (O.ext) ?_
    first | refine RH.qa 14 rfl (O.extL) ?_ | refine RH.qa 14 rfl (O.ext) ?_
    refine RH.one (i := 15) (fun _ _ h => h) (by kernel_rfl) rfl ?_
    refine W.al rfl rfl fun b2 => ?_
    refine WL.nilQa ?_
    refine RH.one (i := 16) (fun _ _ h => h) (by kernel_rfl) rfl ?_
    refine W.st (vt rfl) (vt rfl) rfl ?_
    refine WL.nilQa ?_
    refine RH.qa 17 rfl (O.as) ?_
    refine RH.qa 18 rfl (O.as) ?_
    refine RH.done (by kernel_rfl) (Q.tn ?_)
    refine CW.seq ?_
    refine CW.seq ?_
    refine CW.region ?_
    refine W.p O.mv ?_
    refine W.p O.mv ?_
    refine W.p O.nc ?_
    first | refine W.p O.fb ?_ | refine W.p O.fa ?_
    first | refine W.p O.fb ?_ | refine W.p O.fa ?_
    refine W.p O.ld ?_
    refine W.p O.mv ?_
    refine W.p O.mv ?_
    refine W.p O.neI ?_
    refine W.p O.pkB ?_
    refine W.p O.nc ?_
    first | refine W.p O.fb ?_ | refine W.p O.fa ?_
    first | refine W.p O.fb ?_ | refine W.p O.fa ?_
    refine W.st (vt rfl) (vt rfl) rfl ?_
    refine WL.nil (Q.tn ?_)
    refine CW.seq ?_
    refine CW.region ?_
    refine W.p O.mv ?_
    refine W.p O.nc ?_
    first | refine W.p O.fb ?_ | refine W.p O.fa ?_
    first | refine W.p O.fb ?_ | refine W.p O.fa ?_
    refine W.p O.ld ?_
    refine W.p O.nt ?_
    refine WL.nil (Q.tn ?_)
    refine CW.cond (vt rfl) (fun hc1 => ?_) (fun hc1 => ?_)
    · try simp only [sk] at hc1
      refine CW.region ?_
      refine W.p O.mv ?_
      refine W.p O.mv ?_
      refine W.p O.nc ?_
      first | refine W.p O.fb ?_ | refine W.p O.fa ?_
      first | refine W.p O.fb ?_ | refine W.p O.fa ?_
      first | refine W.st (vt rfl) (vt rfl) rfl ?_ | refine W.st (u := .int _ _) (vt rfl) (vt rfl) rfl ?_
      refine WL.nil (Q.tn ?_)
      refine CW.seq ?_
      refine CW.region ?_
      refine W.p O.lds ?_
      refine W.st (vt rfl) (vt rfl) rfl ?_
      refine WL.nil (Q.tn ?_)
      refine CW.ret ?_
      refine ⟨_, QdH b s ⟨(rrGet s t.at_).2.1, (bif t.bad then true else !decide ((rrGet s t.at_).2.2 = 0))⟩, (RVs.cell rfl RVs.nil), (by repeat (first | exact List.Sublist.refl _ | exact hSub _ | exact List.sublist_append_left _ _ | exact List.nil_sublist _ | refine List.Sublist.append (List.Sublist.refl _) ?_ | apply List.Sublist.cons_cons | apply List.Sublist.cons | exact List.sublist_append_left _ _ | refine List.Sublist.trans ?_ (List.sublist_append_right _ _))), ?_⟩
      refine ⟨rfl, ?_⟩
      have hno : ¬ (t.bad = true ∨ (rrGet s t.at_).2.2 ≠ 0) := by rintro (h | h); rw [hc1.1] at h; cases h; exact h hc1.2
      have hv : (bif t.bad then true else !decide ((rrGet s t.at_).2.2 = 0)) = false := by rw [hc1.1, decide_eq_true hc1.2]; rfl
      rw [dRec, if_neg hno, hv]
    try simp only [sk] at hc1
    refine CW.skip (Q.tn ?_)
    refine CW.seq ?_
    refine CW.region ?_
    refine W.p O.lds ?_
    refine W.st (vt rfl) (vt rfl) rfl ?_
    refine WL.nil (Q.tn ?_)
    refine CW.ret ?_
    refine ⟨_, QdH b s ⟨t.at_, (bif t.bad then true else !decide ((rrGet s t.at_).2.2 = 0))⟩, (RVs.cell rfl RVs.nil), (by repeat (first | exact List.Sublist.refl _ | exact hSub _ | exact List.sublist_append_left _ _ | exact List.nil_sublist _ | refine List.Sublist.append (List.Sublist.refl _) ?_ | apply List.Sublist.cons_cons | apply List.Sublist.cons | exact List.sublist_append_left _ _ | refine List.Sublist.trans ?_ (List.sublist_append_right _ _))), ?_⟩
    refine ⟨rfl, ?_⟩
    have hyes : t.bad = true ∨ (rrGet s t.at_).2.2 ≠ 0 := hc1
    have hv : (bif t.bad then true else !decide ((rrGet s t.at_).2.2 = 0)) = true := by rcases hyes with h | h; rw [h]; rfl; rw [decide_eq_false h]; cases t.bad <;> rfl
    rw [dRec, if_pos hyes, hv]
  · refine W.al rfl rfl fun b3 => ?_
    refine WL.nilQa ?_
    refine RH.one (i := 10) (fun _ _ h => h) (by kernel_rfl) rfl ?_
    refine W.q (O.call ⟨rfl, rfl⟩ (AV.cons (vt rfl) (AV.cons (vt rfl) (AV.nil))) (fun _ w hw => rr_Get _ _ w hs)) ?_
    refine WL.nilQa ?_
    refine RH.qa 11 rfl (O.mv) ?_
    first | refine RH.qa 12 rfl (O.extL) ?_ | refine RH.qa 12 rfl (O.ext) ?_
    first | refine RH.qa 13 rfl (O.extL) ?_ | refine RH.qa 13 rfl (O.ext) ?_
    first | refine RH.qa 14 rfl (O.extL) ?_ | refine RH.qa 14 rfl (O.ext) ?_
    refine RH.one (i := 16) (fun _ _ h => h) (by kernel_rfl) rfl ?_
    refine W.st (vt rfl) (vt rfl) rfl ?_
    refine WL.nilQa ?_
    refine RH.qa 17 rfl (O.as) ?_
    refine RH.qa 18 rfl (O.as) ?_
    refine RH.done (by kernel_rfl) (Q.tn ?_)
    refine CW.seq ?_
    refine CW.seq ?_
    refine CW.region ?_
    refine W.p O.mv ?_
    refine W.p O.mv ?_
    refine W.p O.nc ?_
    first | refine W.p O.fb ?_ | refine W.p O.fa ?_
    first | refine W.p O.fb ?_ | refine W.p O.fa ?_
    refine W.p O.ld ?_
    refine W.p O.mv ?_
    refine W.p O.mv ?_
    refine W.p O.neI ?_
    refine W.p O.pkB ?_
    refine W.p O.nc ?_
    first | refine W.p O.fb ?_ | refine W.p O.fa ?_
    first | refine W.p O.fb ?_ | refine W.p O.fa ?_
    refine W.st (vt rfl) (vt rfl) rfl ?_
    refine WL.nil (Q.tn ?_)
    refine CW.seq ?_
    refine CW.region ?_
    refine W.p O.mv ?_
    refine W.p O.nc ?_
    first | refine W.p O.fb ?_ | refine W.p O.fa ?_
    first | refine W.p O.fb ?_ | refine W.p O.fa ?_
    refine W.p O.ld ?_
    refine W.p O.nt ?_
    refine WL.nil (Q.tn ?_)
    refine CW.cond (vt rfl) (fun hc2 => ?_) (fun hc2 => ?_)
    · try simp only [sk] at hc2
      refine CW.region ?_
      refine W.p O.mv ?_
      refine W.p O.mv ?_
      refine W.p O.nc ?_
      first | refine W.p O.fb ?_ | refine W.p O.fa ?_
      first | refine W.p O.fb ?_ | refine W.p O.fa ?_
      first | refine W.st (vt rfl) (vt rfl) rfl ?_ | refine W.st (u := .int _ _) (vt rfl) (vt rfl) rfl ?_
      refine WL.nil (Q.tn ?_)
      refine CW.seq ?_
      refine CW.region ?_
      refine W.p O.lds ?_
      refine W.st (vt rfl) (vt rfl) rfl ?_
      refine WL.nil (Q.tn ?_)
      refine CW.ret ?_
      refine ⟨_, QdH b s ⟨(rrGet s t.at_).2.1, (bif t.bad then true else !decide ((rrGet s t.at_).2.2 = 0))⟩, (RVs.cell rfl RVs.nil), (by repeat (first | exact List.Sublist.refl _ | exact hSub _ | exact List.sublist_append_left _ _ | exact List.nil_sublist _ | refine List.Sublist.append (List.Sublist.refl _) ?_ | apply List.Sublist.cons_cons | apply List.Sublist.cons | exact List.sublist_append_left _ _ | refine List.Sublist.trans ?_ (List.sublist_append_right _ _))), ?_⟩
      refine ⟨rfl, ?_⟩
      have hno : ¬ (t.bad = true ∨ (rrGet s t.at_).2.2 ≠ 0) := by rintro (h | h); rw [hc2.1] at h; cases h; exact h hc2.2
      have hv : (bif t.bad then true else !decide ((rrGet s t.at_).2.2 = 0)) = false := by rw [hc2.1, decide_eq_true hc2.2]; rfl
      rw [dRec, if_neg hno, hv]
    try simp only [sk] at hc2
    refine CW.skip (Q.tn ?_)
    refine CW.seq ?_
    refine CW.region ?_
    refine W.p O.lds ?_
    refine W.st (vt rfl) (vt rfl) rfl ?_
    refine WL.nil (Q.tn ?_)
    refine CW.ret ?_
    refine ⟨_, QdH b s ⟨t.at_, (bif t.bad then true else !decide ((rrGet s t.at_).2.2 = 0))⟩, (RVs.cell rfl RVs.nil), (by repeat (first | exact List.Sublist.refl _ | exact hSub _ | exact List.sublist_append_left _ _ | exact List.nil_sublist _ | refine List.Sublist.append (List.Sublist.refl _) ?_ | apply List.Sublist.cons_cons | apply List.Sublist.cons | exact List.sublist_append_left _ _ | refine List.Sublist.trans ?_ (List.sublist_append_right _ _))), ?_⟩
    refine ⟨rfl, ?_⟩
    have hyes : t.bad = true ∨ (rrGet s t.at_).2.2 ≠ 0 := hc2
    have hv : (bif t.bad then true else !decide ((rrGet s t.at_).2.2 = 0)) = true := by rcases hyes with h | h; rw [h]; rfl; rw [decide_eq_false h]; cases t.bad <;> rfl
    rw [dRec, if_pos hyes, hv]
theorem tName_rng {s : List UInt8} {t : TS} (h : (tName s t).2.bad = false) : 0 ≤ (tName s t).2.at_ := by
  rcases tName_ok (s := s) (t := t) with ⟨h1, _⟩ | ⟨_, h0, h1⟩
  · rw [h1] at h; cases h
  · rw [h1]
    have := getName_rng (gr_ok h0)
    dsimp only; omega
set_option maxRecDepth 100000 in
theorem rd_opt_a {b : Nat} {s : List UInt8} {t : TS} (w : World) (hL : Holds (QdH b s t) w) (hs : s.length ≤ 140737488355328) (hn : (tName s t).1 ≠ []) :
    Fn Try.prog 170 [.pointer (some ⟨b, 0, none⟩)] w (QdH b s t) fun v L' => v = .tuple #[.int .i64 0, .bool false] ∧ L' = QdH b s t := by
  refine Fn.enter Try.func170 rfl rfl rfl rfl hL ?_
  refine CW.seq ?_
  refine CW.region ?_
  refine W.p O.as ?_
  refine W.p O.as ?_
  refine WL.nil (Q.tn ?_)
  refine CW.seq ?_
  refine CW.region ?_
  refine W.p O.mv ?_
  refine W.p O.nc ?_
  refine W.p O.lds ?_
  refine W.al rfl rfl fun b1 => ?_
  refine W.st (vt rfl) (vt rfl) rfl ?_
  refine WL.nil (Q.tn ?_)
  refine CW.seq ?_
  refine CW.seq ?_
  refine CW.region ?_
  first | refine W.p O.fb ?_ | refine W.p O.fa ?_
  refine W.callS (first := []) (cap := []) (TkU 199 b1 s t) rfl (vt rfl) (AV.cons (vt rfl) (AV.nil)) (fun w hu hh => tk_Name w hh hs) ?_; rintro _ _ ⟨rfl, rfl⟩
  refine W.p O.as ?_
  refine WL.nil (Q.tn ?_)
  refine CW.seq ?_
  refine CW.region ?_
  refine W.p O.mv ?_
  refine W.p O.neS ?_
  first | (refine WL.kn (v := true) (by rfl) ?_ ?_; focus (exact (by rw [decide_eq_false hn]; rfl))) | (refine WL.kn (v := false) (by rfl) ?_ ?_; focus (exact (by rw [decide_eq_false hn]; rfl)))
  refine W.p O.mv ?_
  first | refine W.p O.fb ?_ | refine W.p O.fa ?_
  refine (W.offc (.int .i64 0) rfl rfl rfl ?_)
  refine W.p O.neI ?_
  refine W.p O.pkB ?_
  refine W.p O.mv ?_
  first | refine W.p O.fb ?_ | refine W.p O.fa ?_
  first | refine W.p O.fb ?_ | refine W.p O.fa ?_
  refine W.p O.ld ?_
  refine W.p O.pkB ?_
  refine WL.nil (Q.tn ?_)
  refine CW.cond (vt rfl) (fun hc1 => ?_) (fun hc1 => ?_)
  · try simp only [sk] at hc1
    refine CW.seq ?_
    refine CW.region ?_
    refine W.p O.as ?_
    refine W.p O.as ?_
    refine WL.nil (Q.tn ?_)
    refine CW.ret (Q.tr ?_)
    refine ⟨_, QdH b s t, (RVs.tmp rfl (RVs.tmp rfl RVs.nil)), (by repeat (first | exact List.Sublist.refl _ | exact hSub _ | exact List.sublist_append_left _ _ | exact List.nil_sublist _ | refine List.Sublist.append (List.Sublist.refl _) ?_ | apply List.Sublist.cons_cons | apply List.Sublist.cons | exact List.sublist_append_left _ _ | refine List.Sublist.trans ?_ (List.sublist_append_right _ _))), ?_⟩
    exact ⟨rfl, rfl⟩
  exact absurd hc1 (by simp)
set_option maxRecDepth 100000 in
theorem rd_opt_b {b : Nat} {s : List UInt8} {t : TS} (w : World) (hL : Holds (QdH b s t) w) (hs : s.length ≤ 140737488355328) (hn : (tName s t).1 = []) :
    Fn Try.prog 170 [.pointer (some ⟨b, 0, none⟩)] w (QdH b s t) fun v L' => v = .tuple #[.int .i64 (tOptC IntKind.i64.wrap s t).1, .bool (tOptC IntKind.i64.wrap s t).2.1] ∧ L' = QdH b s (tOptC IntKind.i64.wrap s t).2.2 := by
  have r2 : (2 : Int) = 1 ∨ (2 : Int) = 2 ∨ (2 : Int) = 4 := .inr (.inl rfl)
  have r4 : (4 : Int) = 1 ∨ (4 : Int) = 2 ∨ (4 : Int) = 4 := .inr (.inr rfl)
  have hB := tNum_rng hs r2 (t := (tName s t).2) tName_rng
  have hC := tNum_rng hs r2 (t := (tNum IntKind.i64.wrap s 2 (tName s t).2).2) (fun h => (hB h).1)
  have hD := tNum_rng hs r4 (t := (tNum IntKind.i64.wrap s 2 (tNum IntKind.i64.wrap s 2 (tName s t).2).2).2) (fun h => (hC h).1)
  have hE := tNum_rng hs r2 (t := (tNum IntKind.i64.wrap s 4 (tNum IntKind.i64.wrap s 2 (tNum IntKind.i64.wrap s 2 (tName s t).2).2).2).2) (fun h => (hD h).1)
  have hk : 0 ≤ (tNum IntKind.i64.wrap s 2 (tNum IntKind.i64.wrap s 4 (tNum IntKind.i64.wrap s 2 (tNum IntKind.i64.wrap s 2 (tName s t).2).2).2).2).1 ∧ (tNum IntKind.i64.wrap s 2 (tNum IntKind.i64.wrap s 4 (tNum IntKind.i64.wrap s 2 (tNum IntKind.i64.wrap s 2 (tName s t).2).2).2).2).1 ≤ 65536 := by have := beG_rng s (tNum IntKind.i64.wrap s 4 (tNum IntKind.i64.wrap s 2 (tNum IntKind.i64.wrap s 2 (tName s t).2).2).2).2.at_; exact ⟨this.1, Int.le_of_lt this.2⟩
  refine Fn.enter Try.func170 rfl rfl rfl rfl hL ?_
  refine CW.seq ?_
  refine CW.region ?_
  refine W.p O.as ?_
  refine W.p O.as ?_
  refine WL.nil (Q.tn ?_)
  refine CW.seq ?_
  refine CW.region ?_
  refine W.p O.mv ?_
  refine W.p O.nc ?_
  refine W.p O.lds ?_
  refine W.al rfl rfl fun b1 => ?_
  refine W.st (vt rfl) (vt rfl) rfl ?_
  refine WL.nil (Q.tn ?_)
  refine CW.seq ?_
  refine CW.seq ?_
  refine CW.region ?_
  first | refine W.p O.fb ?_ | refine W.p O.fa ?_
  refine W.callS (first := []) (cap := []) (TkU 199 b1 s t) rfl (vt rfl) (AV.cons (vt rfl) (AV.nil)) (fun w hu hh => tk_Name w hh hs) ?_; rintro _ _ ⟨rfl, rfl⟩
  refine W.p O.as ?_
  refine WL.nil (Q.tn ?_)
  refine CW.seq ?_
  refine CW.region ?_
  refine W.p O.mv ?_
  refine W.p O.neS ?_
  first | (refine WL.kn (v := true) (by rfl) ?_ ?_; focus (exact (by rw [decide_eq_true hn]; rfl))) | (refine WL.kn (v := false) (by rfl) ?_ ?_; focus (exact (by rw [decide_eq_true hn]; rfl)))
  refine W.p O.mv ?_
  first | refine W.p O.fb ?_ | refine W.p O.fa ?_
  refine W.ug rfl ?_
  refine W.callS (first := []) (cap := []) (TkU 199 b1 s (tName s t).2) rfl (vt rfl) (AV.cons (vs rfl) (AV.cons (vt rfl) (AV.nil))) (fun w hu hh => tk_Num 2 w hh hs) ?_; rintro _ _ ⟨rfl, rfl⟩
  refine W.p O.neI ?_
  refine W.p O.pkB ?_
  refine W.p O.mv ?_
  first | refine W.p O.fb ?_ | refine W.p O.fa ?_
  first | refine W.p O.fb ?_ | refine W.p O.fa ?_
  refine W.p O.ld ?_
  refine W.p O.pkB ?_
  refine WL.nil (Q.tn ?_)
  refine CW.cond (vt rfl) (fun hc1 => ?_) (fun hc1 => ?_)
  · try simp only [sk] at hc1
    refine CW.seq ?_
    refine CW.region ?_
    refine W.p O.as ?_
    refine W.p O.as ?_
    refine WL.nil (Q.tn ?_)
    refine CW.ret (Q.tr ?_)
    refine ⟨_, QdH b s t, (RVs.tmp rfl (RVs.tmp rfl RVs.nil)), (by repeat (first | exact List.Sublist.refl _ | exact hSub _ | exact List.sublist_append_left _ _ | exact List.nil_sublist _ | refine List.Sublist.append (List.Sublist.refl _) ?_ | apply List.Sublist.cons_cons | apply List.Sublist.cons | exact List.sublist_append_left _ _ | refine List.Sublist.trans ?_ (List.sublist_append_right _ _))), ?_⟩
    have e : tOptC IntKind.i64.wrap s t = (0, false, t) := by unfold tOptC; dsimp only; rw [if_pos (.inr (by rcases hc1 with (h | h) | h; cases h; exact .inl h; exact .inr h))]
    rw [e]; exact ⟨rfl, rfl⟩
  try simp only [sk] at hc1
  refine CW.skip (Q.tn ?_)
  refine CW.seq ?_
  refine CW.region ?_
  first | refine W.p O.fb ?_ | refine W.p O.fa ?_
  refine W.callS (first := []) (cap := []) (TkU 199 b1 s (tNum IntKind.i64.wrap s 2 (tName s t).2).2) rfl (vt rfl) (AV.cons (vt rfl) (AV.cons (vt rfl) (AV.nil))) (fun w hu hh => tk_Num 2 w hh hs) ?_; rintro _ _ ⟨rfl, rfl⟩
  refine W.p O.as ?_
  refine WL.nil (Q.tn ?_)
  refine CW.seq ?_
  refine CW.region ?_
  first | refine W.p O.fb ?_ | refine W.p O.fa ?_
  refine W.callS (first := []) (cap := []) (TkU 199 b1 s (tNum IntKind.i64.wrap s 2 (tNum IntKind.i64.wrap s 2 (tName s t).2).2).2) rfl (vt rfl) (AV.cons (vt rfl) (AV.cons (vt rfl) (AV.nil))) (fun w hu hh => tk_Num 4 w hh hs) ?_; rintro _ _ ⟨rfl, rfl⟩
  refine WL.nil (Q.tn ?_)
  refine CW.seq ?_
  refine CW.region ?_
  first | refine W.p O.fb ?_ | refine W.p O.fa ?_
  first | refine W.p O.fb ?_ | refine W.p O.fa ?_
  refine W.callS (first := []) (cap := []) (TkU 199 b1 s (tNum IntKind.i64.wrap s 4 (tNum IntKind.i64.wrap s 2 (tNum IntKind.i64.wrap s 2 (tName s t).2).2).2).2) rfl (vt rfl) (AV.cons (vt rfl) (AV.cons (vt rfl) (AV.nil))) (fun w hu hh => tk_Num 2 w hh hs) ?_; rintro _ _ ⟨rfl, rfl⟩
  refine W.callS (first := []) (cap := []) (TkU 199 b1 s (tNum IntKind.i64.wrap s 2 (tNum IntKind.i64.wrap s 4 (tNum IntKind.i64.wrap s 2 (tNum IntKind.i64.wrap s 2 (tName s t).2).2).2).2).2) rfl (vt rfl) (AV.cons (vt rfl) (AV.cons (vt rfl) (AV.nil))) (fun w hu hh => tk_Some (tNum IntKind.i64.wrap s 2 (tNum IntKind.i64.wrap s 4 (tNum IntKind.i64.wrap s 2 (tNum IntKind.i64.wrap s 2 (tName s t).2).2).2).2).1 w hh hs hE hk) ?_; rintro _ _ ⟨rfl, rfl⟩
  refine WL.nil (Q.tn ?_)
  refine CW.seq ?_
  refine CW.region ?_
  refine W.p O.mv ?_
  refine W.p O.lds ?_
  refine W.p O.nc ?_
  refine W.st (vt rfl) (vt rfl) rfl ?_
  refine WL.nil (Q.tn ?_)
  refine CW.seq ?_
  refine CW.region ?_
  refine W.p O.mv ?_
  refine W.p O.max ?_
  refine W.p O.as ?_
  refine W.p O.as ?_
  refine WL.nil (Q.tn ?_)
  refine CW.ret ?_
  refine ⟨_, QdH b s (tSome s (tNum IntKind.i64.wrap s 2 (tNum IntKind.i64.wrap s 4 (tNum IntKind.i64.wrap s 2 (tNum IntKind.i64.wrap s 2 (tName s t).2).2).2).2).1 (tNum IntKind.i64.wrap s 2 (tNum IntKind.i64.wrap s 4 (tNum IntKind.i64.wrap s 2 (tNum IntKind.i64.wrap s 2 (tName s t).2).2).2).2).2).2, (RVs.tmp rfl (RVs.tmp rfl RVs.nil)), (by repeat (first | exact List.Sublist.refl _ | exact hSub _ | exact List.sublist_append_left _ _ | exact List.nil_sublist _ | refine List.Sublist.append (List.Sublist.refl _) ?_ | apply List.Sublist.cons_cons | apply List.Sublist.cons | exact List.sublist_append_left _ _ | refine List.Sublist.trans ?_ (List.sublist_append_right _ _))), ?_⟩
  have e : tOptC IntKind.i64.wrap s t = (max (tNum IntKind.i64.wrap s 2 (tNum IntKind.i64.wrap s 2 (tName s t).2).2).1 512, true, (tSome s (tNum IntKind.i64.wrap s 2 (tNum IntKind.i64.wrap s 4 (tNum IntKind.i64.wrap s 2 (tNum IntKind.i64.wrap s 2 (tName s t).2).2).2).2).1 (tNum IntKind.i64.wrap s 2 (tNum IntKind.i64.wrap s 4 (tNum IntKind.i64.wrap s 2 (tNum IntKind.i64.wrap s 2 (tName s t).2).2).2).2).2).2) := by unfold tOptC; dsimp only; rw [if_neg (by rintro (h | h | h); exact h hn; exact h hc1.1.2; rw [hc1.2] at h; cases h)]
  rw [e]; exact ⟨rfl, rfl⟩
theorem tOptC_a {s : List UInt8} {t : TS} (hn : (tName s t).1 ≠ []) : tOptC IntKind.i64.wrap s t = (0, false, t) := by unfold tOptC; dsimp only; rw [if_pos (.inl hn)]
theorem rd_opt {b : Nat} {s : List UInt8} {t : TS} (w : World) (hL : Holds (QdH b s t) w) (hs : s.length ≤ 140737488355328) :
    Fn Try.prog 170 [.pointer (some ⟨b, 0, none⟩)] w (QdH b s t) fun v L' => v = .tuple #[.int .i64 (tOptC IntKind.i64.wrap s t).1, .bool (tOptC IntKind.i64.wrap s t).2.1] ∧ L' = QdH b s (tOptC IntKind.i64.wrap s t).2.2 := by
  by_cases hn : (tName s t).1 = []
  · exact rd_opt_b w hL hs hn
  · rw [tOptC_a hn]; exact rd_opt_a w hL hs hn
end Go.Proofs.Ytkjcmdgideddnaa
