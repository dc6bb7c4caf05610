/- What pieces, Get and Find of package opts come to. Conditions: the texts and rows are not longer than a thousand millions. -/
import Derived.Test.YtkjcmdgideddnaaOpts
set_option linter.unusedVariables false
set_option linter.unusedSimpArgs false
namespace Go.Proofs.Ytkjcmdgideddnaa
open Go Go.RowKit
theorem head_cons {s : List UInt8} (h : s ≠ []) : ∃ c r, s = c :: r := by cases s with | nil => exact absurd rfl h | cons c r => exact ⟨c, r, rfl⟩
def psR (s : List UInt8) : List Opt × Bool := match pieces s with | some ps => (ps, true) | none => ([], false)
theorem pieces_len : ∀ (n : Nat) (s : List UInt8) (ps : List Opt), s.length ≤ n → pieces s = some ps → ps.length + dsum ps ≤ s.length
  | 0, s, ps, h, hp => by
    have : s = [] := List.eq_nil_of_length_eq_zero (by omega)
    subst this; rw [pieces_nil] at hp; cases hp; simp [dsum]
  | n + 1, s, ps, h, hp => by
    cases s with
    | nil => rw [pieces_nil] at hp; cases hp; simp [dsum]
    | cons c r =>
      by_cases h1 : c = 255
      · subst h1; rw [pieces_end] at hp; cases hp; simp [dsum]
      · by_cases h2 : c = 0
        · subst h2; rw [pieces_pad] at hp; have := pieces_len n r ps (by simpa using h) hp; simp; omega
        · cases r with
          | nil => rw [pieces_one h1 h2] at hp; cases hp
          | cons k t =>
            rw [pieces_cons h1 h2] at hp
            split at hp
            · rename_i hk
              cases hq : pieces (t.drop k.toNat) with
              | none => simp [hq] at hp
              | some q =>
                simp only [hq, Option.map_some, Option.some.injEq] at hp
                subst hp
                have := pieces_len n (t.drop k.toNat) q (by simp at h ⊢; omega) hq
                simp [dsum] at this ⊢; omega
            · cases hp
theorem psR_len (s : List UInt8) : (psR s).1.length + dsum (psR s).1 ≤ s.length := by
  unfold psR
  cases h : pieces s with
  | none => simp [dsum]
  | some ps => exact pieces_len s.length s ps (Nat.le_refl _) h
theorem toNat_eq {a : UInt8} {n : Nat} (h : n < 256) : ((a.toNat : Int) = n) ↔ a = UInt8.ofNat n := by
  constructor
  · intro e; apply UInt8.toNat_inj.1; simp; omega
  · intro e; subst e; simp; omega
theorem cons_len {α : Type} (d : α) {xs : List α} (h : 0 < xs.length) : xs = xs.getD 0 d :: xs.drop 1 := by
  cases xs with | nil => simp at h | cons x r => rfl
set_option maxRecDepth 100000 in
theorem opts_pieces (s : List UInt8) (w : World) (hn : s.length ≤ 1000000000) : Fn Try.prog 98 [.string (S s)] w [] fun v L' => ∃ u, v = .tuple #[u, .bool (psR s).2] ∧ Fresh encO 42 2 (psR s).1 u L' := by
  refine Fn.enter Try.func98 rfl rfl rfl rfl (Holds.nil w) ?_
  refine CW.seq ?_
  refine CW.region ?_
  refine W.p O.as ?_
  refine W.p O.as ?_
  refine WL.nil (Q.tn ?_)
  refine CW.seq ?_
  refine CW.region ?_
  refine W.p O.as ?_
  refine WL.nil (Q.tn ?_)
  refine CW.seq ?_
  refine CW.block ?_
  refine CW.loop (X := (List UInt8) × (List Opt) × (Option Nat) × Nat × (List Value)) (fun ⟨t, out, o, cc, sp⟩ => [(0, true, .string (S t)), (4, true, .slice (oa o) out.length cc)]) (fun ⟨t, out, o, cc, sp⟩ => rowL o 42 (flat encO out sp)) (fun ⟨t, out, o, cc, sp⟩ => pieces s = (pieces t).map (out ++ ·) ∧ OwnOk o cc 2 out.length sp.length ∧ out.length + t.length ≤ s.length) (fun ⟨t, out, o, cc, sp⟩ => t.length) (s, [], none, 0, []) ?_ (by repeat (first | exact trivial | refine ⟨rfl, ?_⟩ | refine ⟨by (simp only [List.length_set]; rfl), ?_⟩)) (by repeat (first | exact List.Sublist.refl _ | exact List.sublist_append_left _ _ | exact List.nil_sublist _ | refine List.Sublist.append (List.Sublist.refl _) ?_ | apply List.Sublist.cons_cons | apply List.Sublist.cons | refine List.Sublist.trans ?_ (List.sublist_append_right _ _))) ?_
  · exact ⟨by cases pieces s <;> simp, OwnOk.nil, by simp⟩
  rintro ⟨t, out, o, cc, sp⟩ hI
  try dsimp only at hI ⊢
  obtain ⟨hp, ok, hl⟩ := hI
  have nk := ok.nk
  refine CW.seq ?_
  refine CW.seq ?_
  refine CW.region ?_
  refine W.p O.mv ?_
  refine W.p O.neS ?_
  refine W.p O.mv ?_
  refine W.p O.mv ?_
  first | refine W.p O.idxS ?_ | refine W.p (O.idxS (h := fun hg => by simp only [cond_true, cond_false, Bool.true_and, Bool.cond_false_right, Bool.cond_true_left, Bool.and_eq_true, Bool.or_eq_true, Bool.or_eq_false_iff, Bool.and_eq_false_iff, Bool.not_eq_true', Bool.not_eq_false', decide_eq_true_eq, decide_eq_false_iff_not, Int.reduceToNat] at *; omega)) ?_
  refine W.p O.neI ?_
  refine W.p O.pkB ?_
  refine WL.nil (Q.tn ?_)
  refine CW.cond (vt rfl) (fun hc1 => ?_) (fun hc1 => ?_)
  · try simp only [Bool.cond_true_left, Bool.cond_false_right, Bool.or_eq_true, Bool.or_eq_false_iff, Bool.and_eq_true, Bool.and_eq_false_iff, decide_eq_true_eq, decide_eq_false_iff_not, Bool.not_eq_true', Bool.not_eq_false'] at hc1
    obtain ⟨c, r, rfl⟩ := head_cons hc1.1
    have h255 : c ≠ 255 := fun e => hc1.2 (by subst e; rfl)
    refine CW.skip (Q.tn ?_)
    refine CW.block ?_
    refine CW.seq ?_
    refine CW.seq ?_
    refine CW.region ?_
    refine W.p O.mv ?_
    first | refine W.p O.idxS ?_ | refine W.p (O.idxS (h := fun hg => by simp only [cond_true, cond_false, Bool.true_and, Bool.cond_false_right, Bool.cond_true_left, Bool.and_eq_true, Bool.or_eq_true, Bool.or_eq_false_iff, Bool.and_eq_false_iff, Bool.not_eq_true', Bool.not_eq_false', decide_eq_true_eq, decide_eq_false_iff_not, Int.reduceToNat] at *; omega)) ?_
    refine W.p O.eqI ?_
    refine WL.nil (Q.tn ?_)
    refine CW.cond (vt rfl) (fun hc2 => ?_) (fun hc2 => ?_)
    · try simp only [Bool.cond_true_left, Bool.cond_false_right, Bool.or_eq_true, Bool.or_eq_false_iff, Bool.and_eq_true, Bool.and_eq_false_iff, decide_eq_true_eq, decide_eq_false_iff_not, Bool.not_eq_true', Bool.not_eq_false'] at hc2
      obtain rfl : c = 0 := (toNat_eq (n := 0) (by decide)).1 hc2
      refine CW.seq ?_
      refine CW.region ?_
      refine W.p O.mv ?_
      refine W.p O.slcL ?_
      refine W.p O.as ?_
      refine WL.nil (Q.tn ?_)
      refine CW.exit (Q.te (Q.bx (Q.tn ?_)))
      refine ⟨(List.drop (Int.toNat 1) (0 :: r), _, _, _, _), ?_, ?_, (by repeat (first | exact trivial | refine ⟨rfl, ?_⟩ | refine ⟨by (simp only [List.length_set]; rfl), ?_⟩)), (by repeat (first | exact List.Sublist.refl _ | exact List.sublist_append_left _ _ | exact List.nil_sublist _ | refine List.Sublist.append (List.Sublist.refl _) ?_ | apply List.Sublist.cons_cons | apply List.Sublist.cons | refine List.Sublist.trans ?_ (List.sublist_append_right _ _)))⟩
      · try dsimp only
        refine ⟨?_, ok, by simp at hl ⊢; omega⟩
        rw [hp, pieces_pad]; rfl
      · try dsimp only
        simp [show (Int.toNat 1) = 1 from rfl]
    try simp only [Bool.cond_true_left, Bool.cond_false_right, Bool.or_eq_true, Bool.or_eq_false_iff, Bool.and_eq_true, Bool.and_eq_false_iff, decide_eq_true_eq, decide_eq_false_iff_not, Bool.not_eq_true', Bool.not_eq_false'] at hc2
    have h0 : c ≠ 0 := fun e => hc2 (by subst e; rfl)
    refine CW.skip (Q.tn ?_)
    refine CW.seq ?_
    refine CW.seq ?_
    refine CW.region ?_
    refine W.p O.mv ?_
    refine W.p O.len ?_
    refine W.p O.lss ?_
    refine W.p O.mv ?_
    refine W.p O.mv ?_
    refine W.p O.len ?_
    first | refine W.p O.subN ?_ | refine W.p O.sub ?_
    refine W.p O.mv ?_
    first | refine W.p O.idxS ?_ | refine W.p (O.idxS (h := fun hg => by simp only [cond_true, cond_false, Bool.true_and, Bool.cond_false_right, Bool.cond_true_left, Bool.and_eq_true, Bool.or_eq_true, Bool.or_eq_false_iff, Bool.and_eq_false_iff, Bool.not_eq_true', Bool.not_eq_false', decide_eq_true_eq, decide_eq_false_iff_not, Int.reduceToNat] at *; omega)) ?_
    first | refine W.p O.cvB ?_ | refine W.p O.cv ?_
    refine W.p O.lss ?_
    refine W.p O.pkB ?_
    refine WL.nil (Q.tn ?_)
    refine CW.cond (vt rfl) (fun hc3 => ?_) (fun hc3 => ?_)
    · try simp only [Bool.cond_true_left, Bool.cond_false_right, Bool.or_eq_true, Bool.or_eq_false_iff, Bool.and_eq_true, Bool.and_eq_false_iff, decide_eq_true_eq, decide_eq_false_iff_not, Bool.not_eq_true', Bool.not_eq_false'] at hc3
      refine CW.seq ?_
      refine CW.region ?_
      refine W.p O.as ?_
      refine W.p O.as ?_
      refine WL.nil (Q.tn ?_)
      refine CW.ret (Q.tr (Q.br (Q.tr (Q.br (Q.tr ?_)))))
      refine ⟨_, [], (RVs.tmp rfl (RVs.tmp rfl RVs.nil)), List.nil_sublist _, ?_⟩
      unfold psR
      have hn' : pieces (c :: r) = none := by
        cases r with | nil => exact pieces_one h255 h0 | cons k t2 => (rw [pieces_cons h255 h0, if_neg]; simp at hc3; omega)
      rw [hp, hn']
      exact ⟨_, rfl, none, 0, [], rfl, OwnOk.nil, rfl⟩
    try simp only [Bool.cond_true_left, Bool.cond_false_right, Bool.or_eq_true, Bool.or_eq_false_iff, Bool.and_eq_true, Bool.and_eq_false_iff, decide_eq_true_eq, decide_eq_false_iff_not, Bool.not_eq_true', Bool.not_eq_false'] at hc3
    obtain ⟨k, t2, rfl⟩ : ∃ k t2, r = k :: t2 := head_cons (fun e => hc3.1 (by rw [e]; simp))
    refine CW.skip (Q.tn ?_)
    refine CW.seq ?_
    refine CW.region ?_
    refine W.p O.mv ?_
    first | refine W.p O.idxS ?_ | refine W.p (O.idxS (h := fun hg => by simp only [cond_true, cond_false, Bool.true_and, Bool.cond_false_right, Bool.cond_true_left, Bool.and_eq_true, Bool.or_eq_true, Bool.or_eq_false_iff, Bool.and_eq_false_iff, Bool.not_eq_true', Bool.not_eq_false', decide_eq_true_eq, decide_eq_false_iff_not, Int.reduceToNat] at *; omega)) ?_
    first | refine W.p O.cvB ?_ | refine W.p O.cv ?_
    first | refine W.p O.addN ?_ | refine W.p O.add ?_
    refine W.p O.as ?_
    refine WL.nil (Q.tn ?_)
    refine CW.seq ?_
    refine CW.drawH [] rfl ?_
    refine RH.q 0 (fun _ _ _ h => h) rfl (by kernel_rfl) (by repeat (first | exact List.nil_sublist _ | exact List.Sublist.refl _ | exact List.sublist_append_left _ _ | exact List.sublist_append_right _ _ | apply List.Sublist.cons_cons | apply List.Sublist.cons | refine List.Sublist.trans ?_ (List.sublist_append_right _ _))) (O.mv) ?_
    refine RH.q 1 (fun _ _ _ h => h) rfl (by kernel_rfl) (by repeat (first | exact List.nil_sublist _ | exact List.Sublist.refl _ | exact List.sublist_append_left _ _ | exact List.sublist_append_right _ _ | apply List.Sublist.cons_cons | apply List.Sublist.cons | refine List.Sublist.trans ?_ (List.sublist_append_right _ _))) (O.mv) ?_
    first | refine RH.q 2 (fun _ _ _ h => h) rfl (by kernel_rfl) (by repeat (first | exact List.nil_sublist _ | exact List.Sublist.refl _ | exact List.sublist_append_left _ _ | exact List.sublist_append_right _ _ | apply List.Sublist.cons_cons | apply List.Sublist.cons | refine List.Sublist.trans ?_ (List.sublist_append_right _ _))) (O.idxS) ?_ | refine RH.q 2 (fun _ _ _ h => h) rfl (by kernel_rfl) (by repeat (first | exact List.nil_sublist _ | exact List.Sublist.refl _ | exact List.sublist_append_left _ _ | exact List.sublist_append_right _ _ | apply List.Sublist.cons_cons | apply List.Sublist.cons | refine List.Sublist.trans ?_ (List.sublist_append_right _ _))) (O.idxS (h := fun hg => by simp only [cond_true, cond_false, Bool.true_and, Bool.cond_false_right, Bool.cond_true_left, Bool.and_eq_true, Bool.or_eq_true, Bool.or_eq_false_iff, Bool.and_eq_false_iff, Bool.not_eq_true', Bool.not_eq_false', decide_eq_true_eq, decide_eq_false_iff_not, Int.reduceToNat] at *; omega)) ?_
    first | refine RH.q 3 (fun _ _ _ h => h) rfl (by kernel_rfl) (by repeat (first | exact List.nil_sublist _ | exact List.Sublist.refl _ | exact List.sublist_append_left _ _ | exact List.sublist_append_right _ _ | apply List.Sublist.cons_cons | apply List.Sublist.cons | refine List.Sublist.trans ?_ (List.sublist_append_right _ _))) (O.cvB) ?_ | refine RH.q 3 (fun _ _ _ h => h) rfl (by kernel_rfl) (by repeat (first | exact List.nil_sublist _ | exact List.Sublist.refl _ | exact List.sublist_append_left _ _ | exact List.sublist_append_right _ _ | apply List.Sublist.cons_cons | apply List.Sublist.cons | refine List.Sublist.trans ?_ (List.sublist_append_right _ _))) (O.cv) ?_
    refine RH.q 4 (fun _ _ _ h => h) rfl (by kernel_rfl) (by repeat (first | exact List.nil_sublist _ | exact List.Sublist.refl _ | exact List.sublist_append_left _ _ | exact List.sublist_append_right _ _ | apply List.Sublist.cons_cons | apply List.Sublist.cons | refine List.Sublist.trans ?_ (List.sublist_append_right _ _))) (O.mv) ?_
    refine RH.q 5 (fun _ _ _ h => h) rfl (by kernel_rfl) (by repeat (first | exact List.nil_sublist _ | exact List.Sublist.refl _ | exact List.sublist_append_left _ _ | exact List.sublist_append_right _ _ | apply List.Sublist.cons_cons | apply List.Sublist.cons | refine List.Sublist.trans ?_ (List.sublist_append_right _ _))) (O.mv) ?_
    refine RH.q 6 (fun _ _ _ h => h) rfl (by kernel_rfl) (by repeat (first | exact List.nil_sublist _ | exact List.Sublist.refl _ | exact List.sublist_append_left _ _ | exact List.sublist_append_right _ _ | apply List.Sublist.cons_cons | apply List.Sublist.cons | refine List.Sublist.trans ?_ (List.sublist_append_right _ _))) (O.slc) ?_
    refine RH.q 7 (fun _ _ _ h => h) rfl (by kernel_rfl) (by repeat (first | exact List.nil_sublist _ | exact List.Sublist.refl _ | exact List.sublist_append_left _ _ | exact List.sublist_append_right _ _ | apply List.Sublist.cons_cons | apply List.Sublist.cons | refine List.Sublist.trans ?_ (List.sublist_append_right _ _))) (O.bd (hv := PV.cons (vt rfl) (PV.cons (vt rfl) (PV.nil)))) ?_
    refine RH.one (i := 8) (fun _ _ h => h) (by kernel_rfl) rfl ?_
    refine W.bs encO [⟨_, _⟩] rfl (PV.cons (vt rfl) (PV.nil)) rfl rfl rfl (by decide) rfl fun b1 => ?_
    refine WL.nilQn ⟨(by repeat (first | exact List.nil_sublist _ | exact List.Sublist.refl _ | exact List.sublist_append_left _ _ | exact List.sublist_append_right _ _ | apply List.Sublist.cons_cons | apply List.Sublist.cons | refine List.Sublist.trans ?_ (List.sublist_append_right _ _))), ?_⟩
    refine RH.one (i := 9) (fun _ _ h => h) (by kernel_rfl) rfl ?_
    refine W.ap rfl (vt rfl) (vt rfl) (by first | rfl | omega) (by first | rfl | omega) rfl (by first | assumption | exact OwnOk.nil | exact OwnOk.lit) (by first | omega | (simp; omega)) fun o1 c1 sp1 ok1 ne1 gt1 => ?_
    have nk1 := ok1.nk; have le1 := ok1.2.2.1; try simp only [List.length_append, List.length_cons, List.length_nil] at le1
    refine WL.nilQn ⟨(by repeat (first | exact List.nil_sublist _ | exact List.Sublist.refl _ | exact List.sublist_append_left _ _ | exact List.sublist_append_right _ _ | apply List.Sublist.cons_cons | apply List.Sublist.cons | refine List.Sublist.trans ?_ (List.sublist_append_right _ _))), ?_⟩
    refine RH.q 10 (fun _ _ _ h => h) rfl (by kernel_rfl) (by repeat (first | exact List.nil_sublist _ | exact List.Sublist.refl _ | exact List.sublist_append_left _ _ | exact List.sublist_append_right _ _ | apply List.Sublist.cons_cons | apply List.Sublist.cons | refine List.Sublist.trans ?_ (List.sublist_append_right _ _))) (O.as) ?_
    refine RH.done (by kernel_rfl) (Q.tn ?_)
    refine CW.region ?_
    refine W.p O.mv ?_
    refine W.p O.mv ?_
    refine W.p O.slcL ?_
    refine W.p O.as ?_
    refine WL.nil (Q.bn (Q.tn ?_))
    refine ⟨(_, _, _, _, _), ?_, ?_, (by repeat (first | exact trivial | refine ⟨rfl, ?_⟩ | refine ⟨by (simp only [List.length_set]; rfl), ?_⟩)), (by repeat (first | exact List.Sublist.refl _ | exact List.sublist_append_left _ _ | exact List.nil_sublist _ | refine List.Sublist.append (List.Sublist.refl _) ?_ | apply List.Sublist.cons_cons | apply List.Sublist.cons | refine List.Sublist.trans ?_ (List.sublist_append_right _ _)))⟩
    · try dsimp only
      refine ⟨?_, by assumption, ?_⟩
      · have e : pieces (c :: k :: t2) = (pieces (t2.drop k.toNat)).map (⟨(c.toNat : Int), t2.take k.toNat⟩ :: ·) := by
          rw [pieces_cons h255 h0, if_pos]; simp at hc3; omega
        rw [hp, e]
        have e2 : List.drop (2 + (((c :: k :: t2).getD (Int.toNat 1) 0).toNat : Int)).toNat (c :: k :: t2) = t2.drop k.toNat := by
          rw [show (2 + (((c :: k :: t2).getD (Int.toNat 1) 0).toNat : Int)).toNat = k.toNat + 1 + 1 from (by simp; omega)]; rfl
        have e3 : List.drop (Int.toNat 2) (List.take (2 + (((c :: k :: t2).getD (Int.toNat 1) 0).toNat : Int)).toNat (c :: k :: t2)) = t2.take k.toNat := by
          rw [show (2 + (((c :: k :: t2).getD (Int.toNat 1) 0).toNat : Int)).toNat = k.toNat + 1 + 1 from (by simp; omega)]; rfl
        rw [e2, e3, Option.map_map]; congr 1; funext q; simp
      · simp at hl ⊢; omega
    · try dsimp only
      simp; omega
  try simp only [Bool.cond_true_left, Bool.cond_false_right, Bool.or_eq_true, Bool.or_eq_false_iff, Bool.and_eq_true, Bool.and_eq_false_iff, decide_eq_true_eq, decide_eq_false_iff_not, Bool.not_eq_true', Bool.not_eq_false'] at hc1
  refine CW.exit (Q.te (Q.te (Q.bx (Q.tn ?_))))
  refine CW.seq ?_
  refine CW.region ?_
  refine W.p O.mv ?_
  refine W.p O.as ?_
  refine W.p O.as ?_
  refine WL.nil (Q.tn ?_)
  refine CW.ret ?_
  refine ⟨_, rowL o 42 (flat encO out sp), (RVs.tmp rfl (RVs.tmp rfl RVs.nil)), (by repeat (first | exact List.Sublist.refl _ | exact hSub _ | exact List.sublist_append_left _ _ | exact List.nil_sublist _ | refine List.Sublist.append (List.Sublist.refl _) ?_ | apply List.Sublist.cons_cons | apply List.Sublist.cons | exact List.sublist_append_left _ _ | refine List.Sublist.trans ?_ (List.sublist_append_right _ _))), ?_⟩
  unfold psR
  have e : pieces t = some [] := by
    rcases hc1 with rfl | h
    · rfl
    · cases t with | nil => rfl | cons c r => (have h2 : c = 255 := (toNat_eq (n := 255) (by decide)).1 h; subst h2; exact pieces_end r)
  simp only [hp, e, Option.map_some, List.append_nil]
  exact ⟨_, rfl, o, cc, sp, rfl, ok, rfl⟩
def getR (s : List UInt8) : List Opt × Int := match getOpts s with | some os => (os, 0) | none => ([], 600)
theorem joinAll_len : ∀ (ps os : List Opt), (joinAll os ps).length ≤ os.length + ps.length ∧ dsum (joinAll os ps) = dsum os + dsum ps
  | [], os => by simp [joinAll, dsum]
  | p :: r, os => by
    have ih := joinAll_len r (join1 os p)
    have h1 := join1_len os p
    have h2 := dsum_join1 os p
    have e : joinAll os (p :: r) = joinAll (join1 os p) r := rfl
    rw [e]
    have e2 : dsum (p :: r) = p.data.length + dsum r := by simp [dsum]
    simp only [List.length_cons, e2]; omega
set_option maxRecDepth 100000 in
theorem opts_Get (s : List UInt8) (w : World) (hn : s.length ≤ 1000000000) : Fn Try.prog 38 [.string (S s)] w [] fun v L' => ∃ u, v = .tuple #[u, .int .i64 (getR s).2] ∧ Fresh encO 42 2 (getR s).1 u L' := by
  have hp := psR_len s
  have hj := joinAll_len (psR s).1 []
  refine Fn.enter Try.func38 rfl rfl rfl rfl (Holds.nil w) ?_
  refine CW.seq ?_
  refine CW.region ?_
  refine W.p O.as ?_
  refine W.p O.as ?_
  refine WL.nil (Q.tn ?_)
  refine CW.seq ?_
  refine CW.region ?_
  refine W.p O.mv ?_
  refine W.callN (first := []) (cap := []) rfl (vt rfl) (AV.cons (vt rfl) (AV.nil)) (fun w hu => opts_pieces s w hn) ?_; rintro _ _ ⟨_, rfl, o1, c1, sp1, rfl, ok1, rfl⟩; have nk1 := ok1.nk
  refine W.p O.mv ?_
  first | refine W.p O.extL ?_ | refine W.p O.ext ?_
  first | refine W.p O.extL ?_ | refine W.p O.ext ?_
  refine W.p O.as ?_
  refine W.p O.as ?_
  refine WL.nil (Q.tn ?_)
  refine CW.seq ?_
  refine CW.seq ?_
  refine CW.region ?_
  refine W.p O.mv ?_
  refine W.callN (first := []) (cap := []) rfl (vt rfl) (AV.cons (vt rfl) (AV.cons (vt rfl) (AV.nil))) (fun w hu => opts_Join [] (psR s).1 none (oa o1) 0 c1 w In.nil (In.cut hu) (by simp) (by omega) (by simp [dsum] at hp ⊢; omega) rfl) ?_; rintro _ _ ⟨o2, c2, sp2, rfl, ok2, rfl⟩; have nk2 := ok2.nk
  refine W.p O.as ?_
  refine WL.nil (Q.tn ?_)
  refine CW.seq ?_
  refine CW.region ?_
  refine W.p O.mv ?_
  refine W.p O.mv ?_
  refine W.p O.mv ?_
  refine W.q (O.call ⟨rfl, rfl⟩ (AV.cons (vs rfl) (AV.nil)) (fun _ w hw => opts_May (joinAll [] (psR s).1) (oa o2) c2 w (In.cut hw) (by simp at hj; omega))) ?_
  refine W.p O.pkB ?_
  refine WL.nil (Q.tn ?_)
  refine CW.cond (vt rfl) (fun hc1 => ?_) (fun hc1 => ?_)
  · try simp only [Bool.cond_true_left, Bool.cond_false_right, Bool.or_eq_true, Bool.or_eq_false_iff, Bool.and_eq_true, Bool.and_eq_false_iff, decide_eq_true_eq, decide_eq_false_iff_not, Bool.not_eq_true', Bool.not_eq_false'] at hc1
    refine CW.seq ?_
    refine CW.region ?_
    refine W.p O.mv ?_
    refine W.p O.as ?_
    refine W.p O.as ?_
    refine WL.nil (Q.tn ?_)
    refine CW.ret (Q.tr ?_)
    refine ⟨_, rowL o2 42 (flat encO (joinAll [] (psR s).1) sp2), (RVs.tmp rfl (RVs.tmp rfl RVs.nil)), (by repeat (first | exact List.Sublist.refl _ | exact hSub _ | exact List.sublist_append_left _ _ | exact List.nil_sublist _ | refine List.Sublist.append (List.Sublist.refl _) ?_ | apply List.Sublist.cons_cons | apply List.Sublist.cons | exact List.sublist_append_left _ _ | refine List.Sublist.trans ?_ (List.sublist_append_right _ _))), ?_⟩
    unfold getR getOpts
    unfold psR at hc1 ok2 ⊢
    cases hq : pieces s with
    | none => simp [hq] at hc1
    | some ps => (simp only [hq] at hc1 ok2 ⊢; simp only [hc1.2, if_true]; exact ⟨_, rfl, o2, c2, sp2, rfl, ok2, rfl⟩)
  try simp only [Bool.cond_true_left, Bool.cond_false_right, Bool.or_eq_true, Bool.or_eq_false_iff, Bool.and_eq_true, Bool.and_eq_false_iff, decide_eq_true_eq, decide_eq_false_iff_not, Bool.not_eq_true', Bool.not_eq_false'] at hc1
  refine CW.skip (Q.tn ?_)
  refine CW.seq ?_
  refine CW.region ?_
  refine W.p O.as ?_
  refine W.p O.as ?_
  refine WL.nil (Q.tn ?_)
  refine CW.ret ?_
  refine ⟨_, [], (RVs.tmp rfl (RVs.tmp rfl RVs.nil)), List.nil_sublist _, ?_⟩
  unfold getR getOpts
  unfold psR at hc1
  cases hq : pieces s with
  | none => exact ⟨_, rfl, none, 0, [], rfl, OwnOk.nil, rfl⟩
  | some ps => (simp only [hq] at hc1 ⊢; rw [if_neg (by simpa using hc1)]; exact ⟨_, rfl, none, 0, [], rfl, OwnOk.nil, rfl⟩)
def fdF (c : Int) : List Opt → List UInt8 × Bool
  | [] => ([], false)
  | o :: r => if o.code = c then (o.data, true) else fdF c r
set_option maxRecDepth 100000 in
theorem opts_Find (os : List Opt) (a : Option Addr) (c : Nat) (k : Int) (w : World) (h : In w a (os.flatMap encO)) (hn : os.length ≤ 1000000000) : Fn Try.prog 40 [.slice a os.length c, .int .i64 k] w [] fun v L' => v = .tuple #[.string (S (fdF k os).1), .bool (fdF k os).2] ∧ L' = [] := by
  have row := Row.ofE h
  refine Fn.enter Try.func40 rfl rfl rfl rfl (Holds.nil w) ?_
  refine CW.seq ?_
  refine CW.region ?_
  refine W.p O.as ?_
  refine W.p O.as ?_
  refine WL.nil (Q.tn ?_)
  refine CW.seq ?_
  refine CW.seq ?_
  refine CW.region ?_
  refine W.p O.mv ?_
  refine W.p O.lenL ?_
  refine W.p O.mv ?_
  refine WL.nil (Q.tn ?_)
  refine CW.block ?_
  refine CW.loop (X := Int) (fun i => [(1, true, .int .i64 k), (8, true, .slice a os.length c), (9, true, .int .i64 os.length), (10, true, .int .i64 i)]) (fun i => []) (fun i => 0 ≤ i ∧ i ≤ os.length ∧ fdF k os = fdF k (os.drop i.toNat)) (fun i => (os.length - i).toNat) (0) ?_ (by repeat (first | exact trivial | refine ⟨rfl, ?_⟩ | refine ⟨by (simp only [List.length_set]; rfl), ?_⟩)) (by repeat (first | exact List.Sublist.refl _ | exact List.sublist_append_left _ _ | exact List.nil_sublist _ | refine List.Sublist.append (List.Sublist.refl _) ?_ | apply List.Sublist.cons_cons | apply List.Sublist.cons | refine List.Sublist.trans ?_ (List.sublist_append_right _ _))) ?_
  · exact ⟨by omega, by omega, rfl⟩
  rintro i hI
  try dsimp only at hI ⊢
  obtain ⟨h0, h1, hr⟩ := hI
  refine CW.seq ?_
  refine CW.region ?_
  refine W.p O.lss ?_
  refine WL.nil (Q.tn ?_)
  refine CW.seq ?_
  refine CW.cond (vt rfl) (fun hc1 => ?_) (fun hc1 => ?_)
  · try simp only [Bool.cond_true_left, Bool.cond_false_right, Bool.or_eq_true, Bool.or_eq_false_iff, Bool.and_eq_true, Bool.and_eq_false_iff, decide_eq_true_eq, decide_eq_false_iff_not, Bool.not_eq_true', Bool.not_eq_false'] at hc1
    refine CW.skip (Q.tn ?_)
    refine CW.seq ?_
    refine CW.block ?_
    refine CW.seq ?_
    refine CW.region ?_
    refine W.p O.ixA ?_
    refine W.p O.ldsE ?_
    refine W.al rfl rfl fun b1 => ?_
    refine W.st (vt rfl) (vt rfl) rfl ?_
    refine WL.nil (Q.tn ?_)
    refine CW.seq ?_
    refine CW.region ?_
    first | refine W.p O.fb ?_ | refine W.p O.fa ?_
    refine W.p O.ld ?_
    refine W.p O.mv ?_
    refine W.p O.eqI ?_
    refine WL.nil (Q.tn ?_)
    refine CW.cond (vt rfl) (fun hc2 => ?_) (fun hc2 => ?_)
    · try simp only [Bool.cond_true_left, Bool.cond_false_right, Bool.or_eq_true, Bool.or_eq_false_iff, Bool.and_eq_true, Bool.and_eq_false_iff, decide_eq_true_eq, decide_eq_false_iff_not, Bool.not_eq_true', Bool.not_eq_false'] at hc2
      refine CW.seq ?_
      refine CW.region ?_
      first | refine W.p O.fb ?_ | refine W.p O.fa ?_
      refine W.p O.ld ?_
      refine W.p O.as ?_
      refine W.p O.as ?_
      refine WL.nil (Q.tn ?_)
      refine CW.ret (Q.br (Q.tr (Q.tr (Q.br (Q.tr ?_)))))
      refine ⟨_, [], (RVs.tmp rfl (RVs.tmp rfl RVs.nil)), List.nil_sublist _, ?_⟩
      refine ⟨?_, rfl⟩
      rw [hr, drop_at dO h0 hc1, fdF, if_pos hc2]; rfl
    try simp only [Bool.cond_true_left, Bool.cond_false_right, Bool.or_eq_true, Bool.or_eq_false_iff, Bool.and_eq_true, Bool.and_eq_false_iff, decide_eq_true_eq, decide_eq_false_iff_not, Bool.not_eq_true', Bool.not_eq_false'] at hc2
    refine CW.skip (Q.bn (Q.tn ?_))
    refine CW.region ?_
    first | refine W.p O.addN ?_ | refine W.p O.add ?_
    refine W.p O.mv ?_
    refine WL.nil (Q.tn ?_)
    refine ⟨(_), ?_, ?_, (by repeat (first | exact trivial | refine ⟨rfl, ?_⟩ | refine ⟨by (simp only [List.length_set]; rfl), ?_⟩)), (by repeat (first | exact List.Sublist.refl _ | exact List.sublist_append_left _ _ | exact List.nil_sublist _ | refine List.Sublist.append (List.Sublist.refl _) ?_ | apply List.Sublist.cons_cons | apply List.Sublist.cons | refine List.Sublist.trans ?_ (List.sublist_append_right _ _)))⟩
    · try dsimp only
      exact ⟨by omega, by omega, by rw [hr, drop_at dO h0 hc1, fdF, if_neg hc2]⟩
    · try dsimp only
      omega
  try simp only [Bool.cond_true_left, Bool.cond_false_right, Bool.or_eq_true, Bool.or_eq_false_iff, Bool.and_eq_true, Bool.and_eq_false_iff, decide_eq_true_eq, decide_eq_false_iff_not, Bool.not_eq_true', Bool.not_eq_false'] at hc1
  refine CW.exit (Q.te (Q.te (Q.bx (Q.tn ?_))))
  refine CW.seq ?_
  refine CW.region ?_
  refine W.p O.as ?_
  refine W.p O.as ?_
  refine WL.nil (Q.tn ?_)
  refine CW.ret ?_
  refine ⟨_, [], (RVs.tmp rfl (RVs.tmp rfl RVs.nil)), List.nil_sublist _, ?_⟩
  refine ⟨?_, rfl⟩
  rw [hr, drop_end hc1]; rfl
end Go.Proofs.Ytkjcmdgideddnaa
