/- What the reference's functions of numbers and options come to. Conditions: the texts and rows are not longer than a thousand millions. -/
import Derived.Test.YtkjcmdgideddnaaOpts2
import Derived.Test.YtkjcmdgideddnaaCall
set_option linter.unusedVariables false
set_option linter.unusedSimpArgs false
namespace Go.Proofs.Ytkjcmdgideddnaa
open Go Go.RowKit
theorem rep_getD (n k : Nat) : (List.replicate n false).getD k false = false := by
  rw [List.getD_eq_getElem?_getD, List.getElem?_replicate]; split <;> rfl
set_option maxRecDepth 100000 in
theorem ref_OptsMay (os : List Opt) (a : Option Addr) (c : Nat) (w : World) (h : In w a (os.flatMap encO)) (hn : os.length ≤ 140737488355328) : Fn Try.prog 96 [.slice a os.length c] w [] fun v L' => v = .bool (optsMay os) ∧ L' = [] := by
  have row := Row.ofE h
  refine Fn.enter Try.func96 rfl rfl rfl rfl (Holds.nil w) ?_
  refine CW.seq ?_
  refine CW.region ?_
  refine W.p O.as ?_
  refine WL.nil (Q.tn ?_)
  refine CW.seq ?_
  refine CW.region ?_
  refine W.al (cs := (List.replicate 256 false).map vB) rfl rfl fun b1 => ?_
  refine WL.nil (Q.tn ?_)
  refine CW.seq ?_
  refine CW.seq ?_
  refine CW.region ?_
  refine W.p O.as ?_
  refine WL.nil (Q.tn ?_)
  refine CW.block ?_
  refine CW.loop (X := Int × (List Bool)) (fun ⟨i, m⟩ => [(0, true, .slice a os.length c), (3, true, .pointer (some ⟨b1, 0, none⟩)), (4, true, .int .i64 i)]) (fun ⟨i, m⟩ => [(b1, .cells (m.map vB).toArray 217 (0, 0))]) (fun ⟨i, m⟩ => 0 ≤ i ∧ i ≤ os.length ∧ m.length = 256 ∧ mayF (fun _ => false) os = mayF (fun k => decide (0 ≤ k) && m.getD k.toNat false) (os.drop i.toNat)) (fun ⟨i, m⟩ => (os.length - i).toNat) (0, List.replicate 256 false) ?_ (by repeat (first | exact trivial | refine ⟨rfl, ?_⟩ | refine ⟨by (simp only [List.length_set]; rfl), ?_⟩)) (by repeat (first | exact List.Sublist.refl _ | exact List.sublist_append_left _ _ | exact List.nil_sublist _ | refine List.Sublist.append (List.Sublist.refl _) ?_ | apply List.Sublist.cons_cons | apply List.Sublist.cons | refine List.Sublist.trans ?_ (List.sublist_append_right _ _))) ?_
  · exact ⟨by omega, by omega, rfl, by congr 1; funext k; rw [rep_getD]; simp⟩
  rintro ⟨i, m⟩ hI
  try dsimp only at hI ⊢
  obtain ⟨h0, h1, hm, hr⟩ := hI
  refine CW.seq ?_
  refine CW.seq ?_
  refine CW.region ?_
  refine W.p O.mv ?_
  refine W.p O.mv ?_
  refine W.p O.lenL ?_
  refine W.p O.lss ?_
  refine WL.nil (Q.tn ?_)
  refine CW.cond (vt rfl) (fun hc1 => ?_) (fun hc1 => ?_)
  · try simp only [Bool.cond_true_left, Bool.cond_false_right, Bool.or_eq_true, Bool.or_eq_false_iff, Bool.and_eq_true, Bool.and_eq_false_iff, decide_eq_true_eq, decide_eq_false_iff_not, Bool.not_eq_true', Bool.not_eq_false'] at hc1
    refine CW.skip (Q.tn ?_)
    refine CW.seq ?_
    refine CW.block ?_
    refine CW.seq ?_
    refine CW.region ?_
    refine W.p O.mv ?_
    refine W.p O.mv ?_
    refine W.p O.ixA ?_
    first | refine W.p O.fe ?_ | refine W.p O.feR ?_
    refine W.p O.ldE ?_
    refine W.p O.as ?_
    refine WL.nil (Q.tn ?_)
    refine CW.seq ?_
    refine CW.seq ?_
    refine CW.region ?_
    refine W.p O.mv ?_
    refine W.p O.lss ?_
    refine W.p O.mv ?_
    refine W.p O.mv ?_
    refine W.p O.gtr ?_
    refine W.p O.pkB ?_
    refine W.p O.mv ?_
    refine W.p O.mv ?_
    refine W.p O.ixR ?_
    refine W.p (O.ldA false (h := fun hg => by first | omega | (simp only [cond_true, cond_false, Bool.true_and, Bool.and_eq_true, Bool.not_eq_true', decide_eq_true_eq, decide_eq_false_iff_not, Bool.or_eq_false_iff, Bool.cond_true_left] at *; omega))) ?_
    refine W.p O.pkB ?_
    refine W.p O.mv ?_
    refine W.p O.mv ?_
    refine W.p O.mv ?_
    refine W.p O.ixA ?_
    first | refine W.p O.fe ?_ | refine W.p O.feR ?_
    refine W.p O.ldE ?_
    refine W.p O.len ?_
    refine W.p O.gtr ?_
    refine W.p O.pkB ?_
    refine WL.nil (Q.tn ?_)
    refine CW.cond (vt rfl) (fun hc2 => ?_) (fun hc2 => ?_)
    · try simp only [Bool.cond_true_left, Bool.cond_false_right, Bool.or_eq_true, Bool.or_eq_false_iff, Bool.and_eq_true, Bool.and_eq_false_iff, decide_eq_true_eq, decide_eq_false_iff_not, Bool.not_eq_true', Bool.not_eq_false'] at hc2
      refine CW.seq ?_
      refine CW.region ?_
      refine W.p O.as ?_
      refine WL.nil (Q.tn ?_)
      refine CW.ret (Q.tr (Q.br (Q.tr (Q.tr (Q.br (Q.tr ?_))))))
      refine ⟨_, [], (RVs.tmp rfl RVs.nil), List.nil_sublist _, ?_⟩
      refine ⟨congrArg Value.bool ?_, rfl⟩
      rw [optsMay_F, hr]
      rw [drop_at dO h0 hc1]
      generalize os.getD i.toNat dO = o at *
      rw [mayF, if_pos]; rfl
      simp only [Nat.mul_one] at hc2; rcases hc2 with ((h2 | h2) | h2) | h2
      · left; simp [optOk]; omega
      · left; simp [optOk]; omega
      · by_cases h3 : 0 ≤ o.code
        · right; simp [h3]; simpa using h2
        · left; simp [optOk]; omega
      · left; simp [optOk]; omega
    try simp only [Bool.cond_true_left, Bool.cond_false_right, Bool.or_eq_true, Bool.or_eq_false_iff, Bool.and_eq_true, Bool.and_eq_false_iff, decide_eq_true_eq, decide_eq_false_iff_not, Bool.not_eq_true', Bool.not_eq_false'] at hc2
    refine CW.skip (Q.tn ?_)
    refine CW.region ?_
    refine W.p O.mv ?_
    refine W.p O.ixR ?_
    refine W.stA _ (vt rfl) (vt rfl) rfl rfl (by omega) ?_
    refine WL.nil (Q.bn (Q.tn ?_))
    refine CW.region ?_
    refine W.p O.mv ?_
    first | refine W.p O.addN ?_ | refine W.p O.add ?_
    refine W.p O.as ?_
    refine WL.nil (Q.tn ?_)
    refine ⟨(_, _), ?_, ?_, (by repeat (first | exact trivial | refine ⟨rfl, ?_⟩ | refine ⟨by (simp only [List.length_set]; rfl), ?_⟩)), (by repeat (first | exact List.Sublist.refl _ | exact List.sublist_append_left _ _ | exact List.nil_sublist _ | refine List.Sublist.append (List.Sublist.refl _) ?_ | apply List.Sublist.cons_cons | apply List.Sublist.cons | refine List.Sublist.trans ?_ (List.sublist_append_right _ _)))⟩
    · try dsimp only
      refine ⟨by omega, by omega, by simpa using hm, ?_⟩
      rw [hr, drop_at dO h0 hc1]
      generalize os.getD i.toNat dO = o at *
      rw [mayF, if_neg]
      · congr 1; funext k; by_cases hk : k = o.code
        · subst hk; rw [show (m.set (o.code.toNat * 1) true).getD o.code.toNat false = true from by rw [Nat.mul_one, List.getD_eq_getElem?_getD, List.getElem?_set_self (by omega)]; rfl]; simp; omega
        · simp only [hk, decide_false, Bool.false_or]; by_cases h3 : 0 ≤ k
          · simp only [h3, decide_true, Bool.true_and, List.getD_eq_getElem?_getD]; rw [List.getElem?_set_ne (by omega)]
          · simp [h3]
      · simp only [optOk, hm, not_or, Bool.not_eq_false, Bool.and_eq_true, decide_eq_true_eq]; refine ⟨by omega, ?_⟩; have h5 := hc2.1.2; simp only [Nat.mul_one] at h5; rw [h5]; simp
    · try dsimp only
      omega
  try simp only [Bool.cond_true_left, Bool.cond_false_right, Bool.or_eq_true, Bool.or_eq_false_iff, Bool.and_eq_true, Bool.and_eq_false_iff, decide_eq_true_eq, decide_eq_false_iff_not, Bool.not_eq_true', Bool.not_eq_false'] at hc1
  refine CW.exit (Q.te (Q.te (Q.bx (Q.tn ?_))))
  refine CW.seq ?_
  refine CW.region ?_
  refine W.p O.mv ?_
  refine W.p O.lenL ?_
  refine W.p O.leq ?_
  refine W.p O.as ?_
  refine WL.nil (Q.tn ?_)
  refine CW.ret ?_
  refine ⟨_, [], (RVs.tmp rfl RVs.nil), List.nil_sublist _, ?_⟩
  refine ⟨congrArg Value.bool ?_, rfl⟩
  rw [optsMay_F, hr]
  rw [drop_end hc1, mayF, Bool.true_and]; exact decide_eq_decide.2 (by omega)
set_option maxRecDepth 100000 in
theorem ref_PutOpts (os : List Opt) (a : Option Addr) (c : Nat) (w : World) (h : In w a (os.flatMap encO)) (hn : os.length ≤ 140737488355328) : Fn Try.prog 37 [.slice a os.length c] w [] fun v L' => v = .tuple #[.string (S (putR os).1), .int .i64 (putR os).2] ∧ L' = [] := by
  have row := Row.ofE h
  refine Fn.enter Try.func37 rfl rfl rfl rfl (Holds.nil w) ?_
  refine CW.seq ?_
  refine CW.region ?_
  refine W.p O.as ?_
  refine W.p O.as ?_
  refine WL.nil (Q.tn ?_)
  refine CW.seq ?_
  refine CW.seq ?_
  refine CW.region ?_
  refine W.p O.mv ?_
  refine W.q (O.call ⟨rfl, rfl⟩ (AV.cons (vt rfl) (AV.nil)) (fun _ w hw => ref_OptsMay os a c w (row.h _ w hw) (by omega))) ?_
  refine W.p O.nt ?_
  refine WL.nil (Q.tn ?_)
  refine CW.cond (vt rfl) (fun hc1 => ?_) (fun hc1 => ?_)
  · try simp only [Bool.cond_true_left, Bool.cond_false_right, Bool.or_eq_true, Bool.or_eq_false_iff, Bool.and_eq_true, Bool.and_eq_false_iff, decide_eq_true_eq, decide_eq_false_iff_not, Bool.not_eq_true', Bool.not_eq_false'] at hc1
    refine CW.seq ?_
    refine CW.region ?_
    refine W.p O.as ?_
    refine W.p O.as ?_
    refine WL.nil (Q.tn ?_)
    refine CW.ret (Q.tr ?_)
    refine ⟨_, [], (RVs.tmp rfl (RVs.tmp rfl RVs.nil)), List.nil_sublist _, ?_⟩
    refine ⟨?_, rfl⟩
    simp [putR, hc1, oneOr]
  try simp only [Bool.cond_true_left, Bool.cond_false_right, Bool.or_eq_true, Bool.or_eq_false_iff, Bool.and_eq_true, Bool.and_eq_false_iff, decide_eq_true_eq, decide_eq_false_iff_not, Bool.not_eq_true', Bool.not_eq_false'] at hc1
  refine CW.skip (Q.tn ?_)
  refine CW.seq ?_
  refine CW.region ?_
  refine W.p O.as ?_
  refine WL.nil (Q.tn ?_)
  refine CW.seq ?_
  refine CW.seq ?_
  refine CW.region ?_
  refine W.p O.as ?_
  refine WL.nil (Q.tn ?_)
  refine CW.block ?_
  refine CW.loop (X := Int × (List UInt8)) (fun ⟨i, out⟩ => [(0, true, .slice a os.length c), (4, true, .string (S out)), (5, true, .int .i64 i)]) (fun ⟨i, out⟩ => []) (fun ⟨i, out⟩ => 0 ≤ i ∧ i ≤ os.length ∧ os.flatMap chO = out ++ (os.drop i.toNat).flatMap chO ∧ out.length ≤ 1600 * i) (fun ⟨i, out⟩ => (os.length - i).toNat) (0, []) ?_ (by repeat (first | exact trivial | refine ⟨rfl, ?_⟩ | refine ⟨by (simp only [List.length_set]; rfl), ?_⟩)) (by repeat (first | exact List.Sublist.refl _ | exact List.sublist_append_left _ _ | exact List.nil_sublist _ | refine List.Sublist.append (List.Sublist.refl _) ?_ | apply List.Sublist.cons_cons | apply List.Sublist.cons | refine List.Sublist.trans ?_ (List.sublist_append_right _ _))) ?_
  · exact ⟨by omega, by omega, rfl, by simp⟩
  rintro ⟨i, out⟩ hI
  try dsimp only at hI ⊢
  obtain ⟨h0, h1, hr, hl⟩ := hI
  have h32 := may_32 hc1
  refine CW.seq ?_
  refine CW.seq ?_
  refine CW.region ?_
  refine W.p O.mv ?_
  refine W.p O.mv ?_
  refine W.p O.lenL ?_
  refine W.p O.lss ?_
  refine WL.nil (Q.tn ?_)
  refine CW.cond (vt rfl) (fun hc2 => ?_) (fun hc2 => ?_)
  · try simp only [Bool.cond_true_left, Bool.cond_false_right, Bool.or_eq_true, Bool.or_eq_false_iff, Bool.and_eq_true, Bool.and_eq_false_iff, decide_eq_true_eq, decide_eq_false_iff_not, Bool.not_eq_true', Bool.not_eq_false'] at hc2
    refine CW.skip (Q.tn ?_)
    refine CW.seq ?_
    refine CW.block ?_
    refine CW.seq ?_
    refine CW.region ?_
    refine W.p O.mv ?_
    refine W.p O.mv ?_
    refine W.p O.ixA ?_
    first | refine W.p O.fe ?_ | refine W.p O.feR ?_
    refine W.p O.ldE ?_
    refine W.p O.as ?_
    refine WL.nil (Q.tn ?_)
    refine CW.seq ?_
    refine CW.block ?_
    refine CW.loop (X := (List UInt8) × (List UInt8)) (fun ⟨d, out2⟩ => [(0, true, .slice a os.length c), (4, true, .string (S out2)), (5, true, .int .i64 i), (6, true, .string (S d))]) (fun ⟨d, out2⟩ => []) (fun ⟨d, out2⟩ => out ++ chO (os.getD i.toNat dO) = out2 ++ chunks (byteOf (os.getD i.toNat dO).code) d ∧ out2.length ≤ 1600 * i + 1600 ∧ d.length ≤ 512) (fun ⟨d, out2⟩ => d.length) ((os.getD i.toNat dO).data, out) ?_ (by repeat (first | exact trivial | refine ⟨rfl, ?_⟩ | refine ⟨by (simp only [List.length_set]; rfl), ?_⟩)) (by repeat (first | exact List.Sublist.refl _ | exact List.sublist_append_left _ _ | exact List.nil_sublist _ | refine List.Sublist.append (List.Sublist.refl _) ?_ | apply List.Sublist.cons_cons | apply List.Sublist.cons | refine List.Sublist.trans ?_ (List.sublist_append_right _ _))) ?_
    · have hm := may_at hc1 h0 hc2
      simp only [optOk, Bool.and_eq_true, decide_eq_true_eq] at hm
      exact ⟨by rw [byteOf_code (by omega)]; rfl, by omega, hm.2⟩
    rintro ⟨d, out2⟩ hI
    try dsimp only at hI ⊢
    obtain ⟨he, hl2, hl3⟩ := hI
    refine CW.seq ?_
    refine CW.seq ?_
    refine CW.region ?_
    refine W.p O.mv ?_
    refine W.p O.len ?_
    refine W.p O.gtr ?_
    refine WL.nil (Q.tn ?_)
    refine CW.cond (vt rfl) (fun hc3 => ?_) (fun hc3 => ?_)
    · try simp only [Bool.cond_true_left, Bool.cond_false_right, Bool.or_eq_true, Bool.or_eq_false_iff, Bool.and_eq_true, Bool.and_eq_false_iff, decide_eq_true_eq, decide_eq_false_iff_not, Bool.not_eq_true', Bool.not_eq_false'] at hc3
      refine CW.skip (Q.tn ?_)
      refine CW.block ?_
      refine CW.seq ?_
      refine CW.draw 12 rfl (by kernel_rfl) ?_
      refine WQ.p O.mv ?_
      refine WQ.p O.mv ?_
      refine WQ.p O.mv ?_
      refine WQ.p O.ixA ?_
      first | refine WQ.p O.fe ?_ | refine WQ.p O.feR ?_
      refine WQ.p O.ldE ?_
      refine WQ.q (O.call ⟨rfl, rfl⟩ (AV.cons (vt rfl) (AV.cons (vt rfl) (AV.nil))) (fun _ w hw => ref_Num _ 1 _ (by decide) (by decide))) ?_
      refine WQ.p O.addS ?_
      refine WQ.p O.addS ?_
      refine WQ.p O.mv ?_
      refine WQ.p O.slcH ?_
      refine WQ.p O.addS ?_
      refine WQ.nil ?_
      refine W.p O.as ?_
      refine WL.nil (Q.tn ?_)
      refine CW.region ?_
      refine W.p O.mv ?_
      refine W.p O.slcL ?_
      refine W.p O.as ?_
      refine WL.nil (Q.bn (Q.tn ?_))
      refine ⟨(List.drop (Int.toNat 255) d, out2 ++ beb (os.getD i.toNat dO).code 1 ++ [255] ++ List.take (Int.toNat 255) d), ?_, ?_, (by repeat (first | exact trivial | refine ⟨rfl, ?_⟩ | refine ⟨by (simp only [List.length_set]; rfl), ?_⟩)), (by repeat (first | exact List.Sublist.refl _ | exact List.sublist_append_left _ _ | exact List.nil_sublist _ | refine List.Sublist.append (List.Sublist.refl _) ?_ | apply List.Sublist.cons_cons | apply List.Sublist.cons | refine List.Sublist.trans ?_ (List.sublist_append_right _ _)))⟩
      · try dsimp only
        have e := chunks_long (c := byteOf (os.getD i.toNat dO).code) (d := d) (by omega)
        have e2 : out ++ chO (os.getD i.toNat dO) = out2 ++ beb (os.getD i.toNat dO).code 1 ++ [255] ++ List.take (Int.toNat 255) d ++ chunks (byteOf (os.getD i.toNat dO).code) (List.drop (Int.toNat 255) d) := by rw [he, e]; simp [beb_one]
        refine ⟨e2, ?_, by simp; omega⟩
        have := congrArg List.length e2; have h4 := chunks_len (UInt8.ofNat (os.getD i.toNat dO).code.toNat) _ (os.getD i.toNat dO).data (Nat.le_refl _); have h5 := may_at hc1 h0 hc2; simp only [optOk, Bool.and_eq_true, decide_eq_true_eq] at h5; simp only [List.length_append, chO] at this h4 ⊢; omega
      · try dsimp only
        simp; omega
    try simp only [Bool.cond_true_left, Bool.cond_false_right, Bool.or_eq_true, Bool.or_eq_false_iff, Bool.and_eq_true, Bool.and_eq_false_iff, decide_eq_true_eq, decide_eq_false_iff_not, Bool.not_eq_true', Bool.not_eq_false'] at hc3
    refine CW.exit (Q.te (Q.te (Q.bx (Q.tn ?_))))
    refine CW.region ?_
    refine W.p O.mv ?_
    refine W.p O.mv ?_
    refine W.p O.mv ?_
    refine W.p O.ixA ?_
    first | refine W.p O.fe ?_ | refine W.p O.feR ?_
    refine W.p O.ldE ?_
    refine W.q (O.call ⟨rfl, rfl⟩ (AV.cons (vt rfl) (AV.cons (vt rfl) (AV.nil))) (fun _ w hw => ref_Num _ 1 _ (by decide) (by decide))) ?_
    refine W.p O.addS ?_
    refine W.p O.mv ?_
    refine W.p O.len ?_
    refine W.q (O.call ⟨rfl, rfl⟩ (AV.cons (vt rfl) (AV.cons (vt rfl) (AV.nil))) (fun _ w hw => ref_Num _ 1 _ (by decide) (by decide))) ?_
    refine W.p O.addS ?_
    refine W.p O.mv ?_
    refine W.p O.addS ?_
    refine W.p O.as ?_
    refine WL.nil (Q.bn (Q.tn ?_))
    refine CW.region ?_
    refine W.p O.mv ?_
    first | refine W.p O.addN ?_ | refine W.p O.add ?_
    refine W.p O.as ?_
    refine WL.nil (Q.tn ?_)
    refine ⟨(_, out2 ++ beb (os.getD i.toNat dO).code 1 ++ beb d.length 1 ++ d), ?_, ?_, (by repeat (first | exact trivial | refine ⟨rfl, ?_⟩ | refine ⟨by (simp only [List.length_set]; rfl), ?_⟩)), (by repeat (first | exact List.Sublist.refl _ | exact List.sublist_append_left _ _ | exact List.nil_sublist _ | refine List.Sublist.append (List.Sublist.refl _) ?_ | apply List.Sublist.cons_cons | apply List.Sublist.cons | refine List.Sublist.trans ?_ (List.sublist_append_right _ _)))⟩
    · try dsimp only
      have hs : d.length ≤ 255 := by omega
      have e := chunks_short (c := byteOf (os.getD i.toNat dO).code) hs
      have e2 : out ++ chO (os.getD i.toNat dO) = out2 ++ beb (os.getD i.toNat dO).code 1 ++ beb d.length 1 ++ d := by rw [he, e, ← byteOf_cast]; simp [beb_one]
      refine ⟨by omega, by omega, ?_, ?_⟩
      · rw [hr, drop_at dO h0 hc2, List.flatMap_cons, ← List.append_assoc, e2]
      · have := congrArg List.length e2; have h4 := chunks_len (UInt8.ofNat (os.getD i.toNat dO).code.toNat) _ (os.getD i.toNat dO).data (Nat.le_refl _); have h5 := may_at hc1 h0 hc2; simp only [optOk, Bool.and_eq_true, decide_eq_true_eq] at h5; simp only [List.length_append, chO] at this h4 ⊢; omega
    · try dsimp only
      omega
  try simp only [Bool.cond_true_left, Bool.cond_false_right, Bool.or_eq_true, Bool.or_eq_false_iff, Bool.and_eq_true, Bool.and_eq_false_iff, decide_eq_true_eq, decide_eq_false_iff_not, Bool.not_eq_true', Bool.not_eq_false'] at hc2
  refine CW.exit (Q.te (Q.te (Q.bx (Q.tn ?_))))
  refine CW.seq ?_
  refine CW.region ?_
  refine W.p O.mv ?_
  refine W.p O.addS ?_
  refine W.p O.as ?_
  refine WL.nil (Q.tn ?_)
  refine CW.seq ?_
  refine CW.seq ?_
  refine CW.region ?_
  refine W.p O.mv ?_
  refine W.p O.len ?_
  refine W.p O.gtr ?_
  refine WL.nil (Q.tn ?_)
  refine CW.cond (vt rfl) (fun hc4 => ?_) (fun hc4 => ?_)
  · try simp only [Bool.cond_true_left, Bool.cond_false_right, Bool.or_eq_true, Bool.or_eq_false_iff, Bool.and_eq_true, Bool.and_eq_false_iff, decide_eq_true_eq, decide_eq_false_iff_not, Bool.not_eq_true', Bool.not_eq_false'] at hc4
    refine CW.seq ?_
    refine CW.region ?_
    refine W.p O.as ?_
    refine W.p O.as ?_
    refine WL.nil (Q.tn ?_)
    refine CW.ret (Q.tr ?_)
    refine ⟨_, [], (RVs.tmp rfl (RVs.tmp rfl RVs.nil)), List.nil_sublist _, ?_⟩
    refine ⟨?_, rfl⟩
    have e : putOpts os = out ++ [255] := by show os.flatMap chO ++ [255] = _; rw [hr, drop_end hc2]; simp
    simp only [putR, hc1, if_true, e]; rw [if_neg (by omega)]; rfl
  try simp only [Bool.cond_true_left, Bool.cond_false_right, Bool.or_eq_true, Bool.or_eq_false_iff, Bool.and_eq_true, Bool.and_eq_false_iff, decide_eq_true_eq, decide_eq_false_iff_not, Bool.not_eq_true', Bool.not_eq_false'] at hc4
  refine CW.skip (Q.tn ?_)
  refine CW.seq ?_
  refine CW.region ?_
  refine W.p O.mv ?_
  refine W.p O.as ?_
  refine W.p O.as ?_
  refine WL.nil (Q.tn ?_)
  refine CW.ret ?_
  refine ⟨_, [], (RVs.tmp rfl (RVs.tmp rfl RVs.nil)), List.nil_sublist _, ?_⟩
  refine ⟨?_, rfl⟩
  have e : putOpts os = out ++ [255] := by show os.flatMap chO ++ [255] = _; rw [hr, drop_end hc2]; simp
  simp only [putR, hc1, if_true, e]; rw [if_pos (by omega)]; rfl
theorem cidx_more : ∀ {xs ys : List Opt} {k : Int} {j : Nat}, cidx xs k = some j → cidx (xs ++ ys) k = some j
  | [], _, _, _, h => by simp [cidx] at h
  | p :: r, ys, k, j, h => by
    simp only [List.cons_append, cidx] at h ⊢
    split at h
    · rename_i e; rw [if_pos e]; exact h
    · rename_i e
      rw [if_neg e]
      cases hr : cidx r k with
      | none => simp [hr] at h
      | some q => rw [cidx_more hr]; rw [hr] at h; exact h
set_option maxRecDepth 100000 in
theorem ref_join (os : List Opt) (a : Option Addr) (c : Nat) (k : Int) (dd : List UInt8) (w : World) (h : In w a (os.flatMap encO)) (hn : os.length ≤ 1000000000) (hd : dsum os + dd.length ≤ 1000000000) :
    Fn Try.prog 100 [.slice a os.length c, .int .i64 k, .string (S dd)] w [] (Fresh encO 42 2 (join1 os ⟨k, dd⟩)) := by
  have row := Row.ofE h
  refine Fn.enter Try.func100 rfl rfl rfl rfl (Holds.nil w) ?_
  refine CW.seq ?_
  refine CW.region ?_
  refine W.p O.as ?_
  refine WL.nil (Q.tn ?_)
  refine CW.seq ?_
  refine CW.region ?_
  refine W.bs0 encO rfl fun b1 => ?_
  refine W.p O.mv ?_
  refine W.ap rfl (vt rfl) (vt rfl) (by first | rfl | omega) (by first | rfl | omega) rfl (by first | assumption | exact OwnOk.nil | exact OwnOk.lit) (by first | omega | (simp; omega)) fun o1 c1 sp1 ok1 ne1 gt1 => ?_
  have nk1 := ok1.nk; have le1 := ok1.2.2.1; try simp only [List.length_append, List.length_cons, List.length_nil] at le1
  refine W.p O.as ?_
  refine WL.nil (Q.tn ?_)
  refine CW.seq ?_
  refine CW.seq ?_
  refine CW.region ?_
  refine W.p O.as ?_
  refine WL.nil (Q.tn ?_)
  refine CW.block ?_
  refine CW.loop (X := Int) (fun i => [(1, true, .int .i64 k), (2, true, .string (S dd)), (7, true, .slice (oa o1) os.length c1), (8, true, .int .i64 i)]) (fun i => rowL o1 42 (flat encO os sp1)) (fun i => 0 ≤ i ∧ i ≤ os.length ∧ cidx (os.take i.toNat) k = none) (fun i => (os.length - i).toNat) (0) ?_ (by repeat (first | exact trivial | refine ⟨rfl, ?_⟩ | refine ⟨by (simp only [List.length_set]; rfl), ?_⟩)) (by repeat (first | exact List.Sublist.refl _ | exact List.sublist_append_left _ _ | exact List.nil_sublist _ | refine List.Sublist.append (List.Sublist.refl _) ?_ | apply List.Sublist.cons_cons | apply List.Sublist.cons | refine List.Sublist.trans ?_ (List.sublist_append_right _ _))) ?_
  · exact ⟨by omega, by omega, rfl⟩
  rintro i hI
  try dsimp only at hI ⊢
  obtain ⟨h0, h1, hr⟩ := hI
  have hdg := dsum_getD os i.toNat
  have nk : NilOk o1 os := nk1
  have ok : OwnOk o1 c1 2 os.length sp1.length := ok1
  refine CW.seq ?_
  refine CW.seq ?_
  refine CW.region ?_
  refine W.p O.mv ?_
  refine W.p O.mv ?_
  refine W.p O.lenL ?_
  refine W.p O.lss ?_
  refine WL.nil (Q.tn ?_)
  refine CW.cond (vt rfl) (fun hc1 => ?_) (fun hc1 => ?_)
  · try simp only [Bool.cond_true_left, Bool.cond_false_right, Bool.or_eq_true, Bool.or_eq_false_iff, Bool.and_eq_true, Bool.and_eq_false_iff, decide_eq_true_eq, decide_eq_false_iff_not, Bool.not_eq_true', Bool.not_eq_false'] at hc1
    refine CW.skip (Q.tn ?_)
    refine CW.seq ?_
    refine CW.block ?_
    refine CW.seq ?_
    refine CW.region ?_
    refine W.p O.mv ?_
    refine W.p O.mv ?_
    refine W.p O.ixA ?_
    first | refine W.p O.fe ?_ | refine W.p O.feR ?_
    refine W.p O.ldE ?_
    refine W.p O.mv ?_
    refine W.p O.eqI ?_
    refine WL.nil (Q.tn ?_)
    refine CW.cond (vt rfl) (fun hc2 => ?_) (fun hc2 => ?_)
    · try simp only [Bool.cond_true_left, Bool.cond_false_right, Bool.or_eq_true, Bool.or_eq_false_iff, Bool.and_eq_true, Bool.and_eq_false_iff, decide_eq_true_eq, decide_eq_false_iff_not, Bool.not_eq_true', Bool.not_eq_false'] at hc2
      refine CW.seq ?_
      refine CW.region ?_
      refine W.p O.mv ?_
      refine W.p O.mv ?_
      refine W.p O.mv ?_
      refine W.p O.mv ?_
      refine W.p O.mv ?_
      refine W.p O.ixA ?_
      first | refine W.p O.fe ?_ | refine W.p O.feR ?_
      refine W.p O.ldE ?_
      refine W.p O.mv ?_
      refine W.p O.addS ?_
      refine W.p (O.bd (hv := PV.cons (vt rfl) (PV.cons (vt rfl) (PV.nil)))) ?_
      refine W.p O.ixA ?_
      refine W.stW ⟨k, (os.getD i.toNat dO).data ++ dd⟩ (vt rfl) (vt rfl) rfl (by omega) ?_
      refine WL.nil (Q.tn ?_)
      refine CW.seq ?_
      refine CW.region ?_
      refine W.p O.mv ?_
      refine W.p O.as ?_
      refine WL.nil (Q.tn ?_)
      refine CW.ret (Q.br (Q.tr (Q.tr (Q.br (Q.tr ?_)))))
      refine ⟨_, rowL o1 42 (flat encO (os.set i.toNat ⟨k, (os.getD i.toNat dO).data ++ dd⟩) sp1), (RVs.tmp rfl RVs.nil), (by repeat (first | exact List.Sublist.refl _ | exact hSub _ | exact List.sublist_append_left _ _ | exact List.nil_sublist _ | refine List.Sublist.append (List.Sublist.refl _) ?_ | apply List.Sublist.cons_cons | apply List.Sublist.cons | exact List.sublist_append_left _ _ | refine List.Sublist.trans ?_ (List.sublist_append_right _ _))), ?_⟩
      have hj : cidx os k = some i.toNat := by
        have e1 := take_at h0 hc1
        have e2 : os = (os.take i.toNat ++ [os.getD i.toNat dO]) ++ os.drop (i + 1).toNat := by rw [← e1, List.take_append_drop]
        rw [e2]; exact cidx_more (by rw [cidx_app, hr]; simp only; rw [if_pos hc2, List.length_take, Nat.min_eq_left (by omega)])
      have e := join1_some (o := ⟨k, dd⟩) hj
      simp only [hc2] at e
      rw [e]; exact ⟨o1, c1, sp1, by rw [List.length_set]; rfl, by rw [List.length_set]; exact ok, rfl⟩
    try simp only [Bool.cond_true_left, Bool.cond_false_right, Bool.or_eq_true, Bool.or_eq_false_iff, Bool.and_eq_true, Bool.and_eq_false_iff, decide_eq_true_eq, decide_eq_false_iff_not, Bool.not_eq_true', Bool.not_eq_false'] at hc2
    refine CW.skip (Q.bn (Q.tn ?_))
    refine CW.region ?_
    refine W.p O.mv ?_
    first | refine W.p O.addN ?_ | refine W.p O.add ?_
    refine W.p O.as ?_
    refine WL.nil (Q.tn ?_)
    refine ⟨(_), ?_, ?_, (by repeat (first | exact trivial | refine ⟨rfl, ?_⟩ | refine ⟨by (simp only [List.length_set]; rfl), ?_⟩)), (by repeat (first | exact List.Sublist.refl _ | exact List.sublist_append_left _ _ | exact List.nil_sublist _ | refine List.Sublist.append (List.Sublist.refl _) ?_ | apply List.Sublist.cons_cons | apply List.Sublist.cons | refine List.Sublist.trans ?_ (List.sublist_append_right _ _)))⟩
    · try dsimp only
      refine ⟨by omega, by omega, ?_⟩
      rw [take_at h0 hc1, cidx_app, hr]; simp only; rw [if_neg hc2]
    · try dsimp only
      omega
  try simp only [Bool.cond_true_left, Bool.cond_false_right, Bool.or_eq_true, Bool.or_eq_false_iff, Bool.and_eq_true, Bool.and_eq_false_iff, decide_eq_true_eq, decide_eq_false_iff_not, Bool.not_eq_true', Bool.not_eq_false'] at hc1
  refine CW.exit (Q.te (Q.te (Q.bx (Q.tn ?_))))
  refine CW.seq ?_
  refine CW.region ?_
  refine W.p O.mv ?_
  refine W.p O.mv ?_
  refine W.p O.mv ?_
  refine W.p (O.bd (hv := PV.cons (vt rfl) (PV.cons (vt rfl) (PV.nil)))) ?_
  refine W.bs encO [⟨k, dd⟩] rfl (PV.cons (vt rfl) (PV.nil)) rfl rfl rfl (by decide) rfl fun b2 => ?_
  refine W.ap rfl (vt rfl) (vt rfl) (by first | rfl | omega) (by first | rfl | omega) rfl (by first | assumption | exact OwnOk.nil | exact OwnOk.lit) (by first | omega | (simp; omega)) fun o2 c2 sp2 ok2 ne2 gt2 => ?_
  have nk2 := ok2.nk; have le2 := ok2.2.2.1; try simp only [List.length_append, List.length_cons, List.length_nil] at le2
  refine W.p O.as ?_
  refine WL.nil (Q.tn ?_)
  refine CW.ret ?_
  refine ⟨_, rowL o2 42 (flat encO (os ++ [⟨k, dd⟩]) sp2), (RVs.tmp rfl RVs.nil), (by repeat (first | exact List.Sublist.refl _ | exact hSub _ | exact List.sublist_append_left _ _ | exact List.nil_sublist _ | refine List.Sublist.append (List.Sublist.refl _) ?_ | apply List.Sublist.cons_cons | apply List.Sublist.cons | exact List.sublist_append_left _ _ | refine List.Sublist.trans ?_ (List.sublist_append_right _ _))), ?_⟩
  have hj : cidx os k = none := by rw [List.take_of_length_le (by omega)] at hr; exact hr
  rw [join1_none (o := ⟨k, dd⟩) hj]; exact ⟨o2, c2, sp2, rfl, ok2, rfl⟩
theorem slc_at {s : List UInt8} {at_ : Int} {k : Nat} (h0 : 0 ≤ at_) : List.drop (at_ + 2).toNat (List.take (at_ + 2 + k).toNat s) = (s.drop (at_ + 1 + 1).toNat).take k := by
  rw [show (at_ + 2 + (k : Int)).toNat = (at_ + 2).toNat + k by omega, List.drop_take, show (at_ + 2).toNat + k - (at_ + 2).toNat = k by omega, show (at_ + 1 + 1).toNat = (at_ + 2).toNat by omega]
theorem joinAll_snoc (os ps : List Opt) (p : Opt) : joinAll os (ps ++ [p]) = join1 (joinAll os ps) p := by simp [joinAll]
set_option maxRecDepth 100000 in
theorem ref_GetOpts (s : List UInt8) (w : World) (hn : s.length ≤ 100000000) : Fn Try.prog 39 [.string (S s)] w [] fun v L' => ∃ u, v = .tuple #[u, .int .i64 (getR s).2] ∧ Fresh encO 42 2 (getR s).1 u L' := by
  refine Fn.enter Try.func39 rfl rfl rfl rfl (Holds.nil w) ?_
  refine CW.seq ?_
  refine CW.region ?_
  refine W.p O.as ?_
  refine W.p O.as ?_
  refine WL.nil (Q.tn ?_)
  refine CW.seq ?_
  refine CW.region ?_
  refine W.p O.as ?_
  refine WL.nil (Q.tn ?_)
  refine CW.seq ?_
  refine CW.seq ?_
  refine CW.region ?_
  refine W.p O.as ?_
  refine WL.nil (Q.tn ?_)
  refine CW.block ?_
  refine CW.loop (X := Int × (List Opt) × (List Opt) × (Option Nat) × Nat × (List Value)) (fun ⟨at_, pre, os, o, cc, sp⟩ => [(0, true, .string (S s)), (4, true, .slice (oa o) os.length cc), (5, true, .int .i64 at_)]) (fun ⟨at_, pre, os, o, cc, sp⟩ => rowL o 42 (flat encO os sp)) (fun ⟨at_, pre, os, o, cc, sp⟩ => 0 ≤ at_ ∧ at_ ≤ s.length ∧ pieces s = (pieces (s.drop at_.toNat)).map (pre ++ ·) ∧ OwnOk o cc 2 os.length sp.length ∧ os = joinAll [] pre ∧ pre.length + dsum pre ≤ at_) (fun ⟨at_, pre, os, o, cc, sp⟩ => (s.length - at_).toNat) (0, [], [], none, 0, []) ?_ (by repeat (first | exact trivial | refine ⟨rfl, ?_⟩ | refine ⟨by (simp only [List.length_set]; rfl), ?_⟩)) (by repeat (first | exact List.Sublist.refl _ | exact List.sublist_append_left _ _ | exact List.nil_sublist _ | refine List.Sublist.append (List.Sublist.refl _) ?_ | apply List.Sublist.cons_cons | apply List.Sublist.cons | refine List.Sublist.trans ?_ (List.sublist_append_right _ _))) ?_
  · exact ⟨by omega, by omega, by cases h : pieces s <;> simp [h], OwnOk.nil, rfl, by simp [dsum]⟩
  rintro ⟨at_, pre, os, o, cc, sp⟩ hI
  try dsimp only at hI ⊢
  obtain ⟨h0, h1, hp, ok, he, hl⟩ := hI
  have nk := ok.nk
  have hj := joinAll_len pre []
  rw [← he] at hj
  have hb1 := (s.getD (at_ + 1).toNat 0).toNat_lt
  have hz : dsum ([] : List Opt) = 0 := rfl
  refine CW.seq ?_
  refine CW.seq ?_
  refine CW.region ?_
  refine W.p O.mv ?_
  refine W.p O.mv ?_
  refine W.p O.len ?_
  refine W.p O.lss ?_
  refine W.p O.mv ?_
  refine W.p O.mv ?_
  refine W.p O.mv ?_
  first | refine W.p O.idxS ?_ | refine W.p (O.idxS (h := fun hg => by simp only [cond_true, cond_false, Bool.true_and, Bool.cond_false_right, Bool.cond_true_left, Bool.and_eq_true, Bool.or_eq_true, Bool.or_eq_false_iff, Bool.and_eq_false_iff, Bool.not_eq_true', Bool.not_eq_false', decide_eq_true_eq, decide_eq_false_iff_not, Int.reduceToNat] at *; omega)) ?_
  refine W.p O.neI ?_
  refine W.p O.pkB ?_
  refine WL.nil (Q.tn ?_)
  refine CW.cond (vt rfl) (fun hc1 => ?_) (fun hc1 => ?_)
  · try simp only [Bool.cond_true_left, Bool.cond_false_right, Bool.or_eq_true, Bool.or_eq_false_iff, Bool.and_eq_true, Bool.and_eq_false_iff, decide_eq_true_eq, decide_eq_false_iff_not, Bool.not_eq_true', Bool.not_eq_false'] at hc1
    have hd := drop_at (0 : UInt8) h0 hc1.1
    refine CW.skip (Q.tn ?_)
    refine CW.block ?_
    refine CW.seq ?_
    refine CW.seq ?_
    refine CW.region ?_
    refine W.p O.mv ?_
    refine W.p O.mv ?_
    first | refine W.p O.idxS ?_ | refine W.p (O.idxS (h := fun hg => by simp only [cond_true, cond_false, Bool.true_and, Bool.cond_false_right, Bool.cond_true_left, Bool.and_eq_true, Bool.or_eq_true, Bool.or_eq_false_iff, Bool.and_eq_false_iff, Bool.not_eq_true', Bool.not_eq_false', decide_eq_true_eq, decide_eq_false_iff_not, Int.reduceToNat] at *; omega)) ?_
    refine W.p O.eqI ?_
    refine WL.nil (Q.tn ?_)
    refine CW.cond (vt rfl) (fun hc2 => ?_) (fun hc2 => ?_)
    · try simp only [Bool.cond_true_left, Bool.cond_false_right, Bool.or_eq_true, Bool.or_eq_false_iff, Bool.and_eq_true, Bool.and_eq_false_iff, decide_eq_true_eq, decide_eq_false_iff_not, Bool.not_eq_true', Bool.not_eq_false'] at hc2
      have e0 : s.getD at_.toNat 0 = 0 := (toNat_eq (n := 0) (by decide)).1 hc2
      refine CW.seq ?_
      refine CW.region ?_
      refine W.p O.mv ?_
      first | refine W.p O.addN ?_ | refine W.p O.add ?_
      refine W.p O.as ?_
      refine WL.nil (Q.tn ?_)
      refine CW.exit (Q.te (Q.bx (Q.tn ?_)))
      refine ⟨(_, pre, _, _, _, _), ?_, ?_, (by repeat (first | exact trivial | refine ⟨rfl, ?_⟩ | refine ⟨by (simp only [List.length_set]; rfl), ?_⟩)), (by repeat (first | exact List.Sublist.refl _ | exact List.sublist_append_left _ _ | exact List.nil_sublist _ | refine List.Sublist.append (List.Sublist.refl _) ?_ | apply List.Sublist.cons_cons | apply List.Sublist.cons | refine List.Sublist.trans ?_ (List.sublist_append_right _ _)))⟩
      · try dsimp only
        refine ⟨by omega, by omega, ?_, ok, he, by omega⟩
        rw [hp, hd, e0, pieces_pad]
      · try dsimp only
        omega
    try simp only [Bool.cond_true_left, Bool.cond_false_right, Bool.or_eq_true, Bool.or_eq_false_iff, Bool.and_eq_true, Bool.and_eq_false_iff, decide_eq_true_eq, decide_eq_false_iff_not, Bool.not_eq_true', Bool.not_eq_false'] at hc2
    have h2 : s.getD at_.toNat 0 ≠ 0 := fun e => hc2 (by rw [e]; rfl)
    have h255 : s.getD at_.toNat 0 ≠ 255 := fun e => hc1.2 (by rw [e]; rfl)
    refine CW.skip (Q.tn ?_)
    refine CW.seq ?_
    refine CW.seq ?_
    refine CW.region ?_
    refine W.p O.mv ?_
    first | refine W.p O.addN ?_ | refine W.p O.add ?_
    refine W.p O.mv ?_
    refine W.p O.len ?_
    refine W.p O.geq ?_
    refine W.p O.mv ?_
    refine W.p O.mv ?_
    first | refine W.p O.addN ?_ | refine W.p O.add ?_
    refine W.p O.mv ?_
    refine W.p O.mv ?_
    first | refine W.p O.addN ?_ | refine W.p O.add ?_
    first | refine W.p O.idxS ?_ | refine W.p (O.idxS (h := fun hg => by simp only [cond_true, cond_false, Bool.true_and, Bool.cond_false_right, Bool.cond_true_left, Bool.and_eq_true, Bool.or_eq_true, Bool.or_eq_false_iff, Bool.and_eq_false_iff, Bool.not_eq_true', Bool.not_eq_false', decide_eq_true_eq, decide_eq_false_iff_not, Int.reduceToNat] at *; omega)) ?_
    first | refine W.p O.cvB ?_ | refine W.p O.cv ?_
    first | refine W.p O.addN ?_ | refine W.p O.add ?_
    refine W.p O.mv ?_
    refine W.p O.len ?_
    refine W.p O.gtr ?_
    refine W.p O.pkB ?_
    refine WL.nil (Q.tn ?_)
    refine CW.cond (vt rfl) (fun hc3 => ?_) (fun hc3 => ?_)
    · try simp only [Bool.cond_true_left, Bool.cond_false_right, Bool.or_eq_true, Bool.or_eq_false_iff, Bool.and_eq_true, Bool.and_eq_false_iff, decide_eq_true_eq, decide_eq_false_iff_not, Bool.not_eq_true', Bool.not_eq_false'] at hc3
      refine CW.seq ?_
      refine CW.region ?_
      refine W.p O.as ?_
      refine W.p O.as ?_
      refine WL.nil (Q.tn ?_)
      refine CW.ret (Q.tr (Q.br (Q.tr (Q.br (Q.tr ?_)))))
      refine ⟨_, [], (RVs.tmp rfl (RVs.tmp rfl RVs.nil)), List.nil_sublist _, ?_⟩
      unfold getR getOpts
      have hn' : pieces (s.drop at_.toNat) = none := by
        rw [hd]; by_cases h5 : s.length ≤ at_ + 1
        · rw [drop_end (by omega), pieces_one h255 h2]
        · rw [drop_at (0 : UInt8) (xs := s) (i := at_ + 1) (by omega) (by omega), pieces_cons h255 h2, if_neg]; simp only [List.length_drop]; omega
      rw [hp, hn']; exact ⟨_, rfl, none, 0, [], rfl, OwnOk.nil, rfl⟩
    try simp only [Bool.cond_true_left, Bool.cond_false_right, Bool.or_eq_true, Bool.or_eq_false_iff, Bool.and_eq_true, Bool.and_eq_false_iff, decide_eq_true_eq, decide_eq_false_iff_not, Bool.not_eq_true', Bool.not_eq_false'] at hc3
    have hd2 := drop_at (0 : UInt8) (xs := s) (i := at_ + 1) (by omega) (by omega)
    refine CW.skip (Q.tn ?_)
    refine CW.seq ?_
    refine CW.region ?_
    refine W.p O.mv ?_
    refine W.p O.mv ?_
    first | refine W.p O.addN ?_ | refine W.p O.add ?_
    first | refine W.p O.idxS ?_ | refine W.p (O.idxS (h := fun hg => by simp only [cond_true, cond_false, Bool.true_and, Bool.cond_false_right, Bool.cond_true_left, Bool.and_eq_true, Bool.or_eq_true, Bool.or_eq_false_iff, Bool.and_eq_false_iff, Bool.not_eq_true', Bool.not_eq_false', decide_eq_true_eq, decide_eq_false_iff_not, Int.reduceToNat] at *; omega)) ?_
    first | refine W.p O.cvB ?_ | refine W.p O.cv ?_
    refine W.p O.as ?_
    refine WL.nil (Q.tn ?_)
    refine CW.seq ?_
    refine CW.draw 13 rfl (by kernel_rfl) ?_
    refine WQ.p O.mv ?_
    refine WQ.p O.mv ?_
    refine WQ.p O.mv ?_
    first | refine WQ.p O.idxS ?_ | refine WQ.p (O.idxS (h := fun hg => by simp only [cond_true, cond_false, Bool.true_and, Bool.cond_false_right, Bool.cond_true_left, Bool.and_eq_true, Bool.or_eq_true, Bool.or_eq_false_iff, Bool.and_eq_false_iff, Bool.not_eq_true', Bool.not_eq_false', decide_eq_true_eq, decide_eq_false_iff_not, Int.reduceToNat] at *; omega)) ?_
    first | refine WQ.p O.cvB ?_ | refine WQ.p O.cv ?_
    refine WQ.p O.mv ?_
    refine WQ.p O.mv ?_
    first | refine WQ.p O.addN ?_ | refine WQ.p O.add ?_
    refine WQ.p O.mv ?_
    first | refine WQ.p O.addN ?_ | refine WQ.p O.add ?_
    refine WQ.p O.mv ?_
    first | refine WQ.p O.addN ?_ | refine WQ.p O.add ?_
    refine WQ.p O.slc ?_
    refine WQ.nil ?_
    refine W.callN (first := []) (cap := []) rfl (vt rfl) (AV.cons (vt rfl) (AV.cons (vt rfl) (AV.cons (vt rfl) (AV.nil)))) (fun w hu => ref_join os (oa o) cc _ _ w (In.cut hu) (by simp at hj; omega) (by rw [hj.2, hz, slc_at h0, List.length_take]; omega)) ?_; rintro _ _ ⟨o2, c2, sp2, rfl, ok2, rfl⟩
    refine W.p O.as ?_
    refine WL.nil (Q.tn ?_)
    refine CW.region ?_
    refine W.p O.mv ?_
    first | refine W.p O.addN ?_ | refine W.p O.add ?_
    refine W.p O.mv ?_
    first | refine W.p O.addN ?_ | refine W.p O.add ?_
    refine W.p O.as ?_
    refine WL.nil (Q.bn (Q.tn ?_))
    refine ⟨(_, pre ++ [⟨((s.getD at_.toNat 0).toNat : Int), (s.drop (at_ + 1 + 1).toNat).take (s.getD (at_ + 1).toNat 0).toNat⟩], _, o2, c2, sp2), ?_, ?_, (by repeat (first | exact trivial | refine ⟨rfl, ?_⟩ | refine ⟨by (simp only [List.length_set]; rfl), ?_⟩)), (by repeat (first | exact List.Sublist.refl _ | exact List.sublist_append_left _ _ | exact List.nil_sublist _ | refine List.Sublist.append (List.Sublist.refl _) ?_ | apply List.Sublist.cons_cons | apply List.Sublist.cons | refine List.Sublist.trans ?_ (List.sublist_append_right _ _)))⟩
    · try dsimp only
      have hk : (s.getD (at_ + 1).toNat 0).toNat ≤ (s.drop (at_ + 1 + 1).toNat).length := by simp only [List.length_drop]; omega
      have e : pieces (s.drop at_.toNat) = (pieces (s.drop (at_ + 2 + (s.getD (at_ + 1).toNat 0).toNat).toNat)).map (⟨((s.getD at_.toNat 0).toNat : Int), (s.drop (at_ + 1 + 1).toNat).take (s.getD (at_ + 1).toNat 0).toNat⟩ :: ·) := by
        rw [hd, hd2, pieces_cons h255 h2, if_pos hk, List.drop_drop]; congr 3; omega
      refine ⟨by omega, by omega, ?_, ok2, ?_, ?_⟩
      · rw [hp, e, Option.map_map]; congr 1; funext q; simp
      · rw [joinAll_snoc, ← he, slc_at h0]
      · rw [List.length_append, dsum_app]; simp [dsum]; simp [dsum] at hl; omega
    · try dsimp only
      omega
  try simp only [Bool.cond_true_left, Bool.cond_false_right, Bool.or_eq_true, Bool.or_eq_false_iff, Bool.and_eq_true, Bool.and_eq_false_iff, decide_eq_true_eq, decide_eq_false_iff_not, Bool.not_eq_true', Bool.not_eq_false'] at hc1
  refine CW.exit (Q.te (Q.te (Q.bx (Q.tn ?_))))
  refine CW.seq ?_
  refine CW.seq ?_
  refine CW.region ?_
  refine W.p O.mv ?_
  refine W.q (O.call ⟨rfl, rfl⟩ (AV.cons (vt rfl) (AV.nil)) (fun _ w hw => ref_OptsMay os (oa o) cc w (In.cut hw) (by simp at hj; omega))) ?_
  refine W.p O.nt ?_
  refine WL.nil (Q.tn ?_)
  refine CW.cond (vt rfl) (fun hc4 => ?_) (fun hc4 => ?_)
  · try simp only [Bool.cond_true_left, Bool.cond_false_right, Bool.or_eq_true, Bool.or_eq_false_iff, Bool.and_eq_true, Bool.and_eq_false_iff, decide_eq_true_eq, decide_eq_false_iff_not, Bool.not_eq_true', Bool.not_eq_false'] at hc4
    refine CW.seq ?_
    refine CW.region ?_
    refine W.p O.as ?_
    refine W.p O.as ?_
    refine WL.nil (Q.tn ?_)
    refine CW.ret (Q.tr ?_)
    refine ⟨_, [], (RVs.tmp rfl (RVs.tmp rfl RVs.nil)), List.nil_sublist _, ?_⟩
    unfold getR getOpts
    have hn' : pieces (s.drop at_.toNat) = some [] := by
      rcases hc1 with h5 | h5
      · rw [drop_end (by omega)]; rfl
      · by_cases h6 : at_ < s.length
        · rw [drop_at (0 : UInt8) h0 h6, (toNat_eq (n := 255) (by decide)).1 h5]; exact pieces_end _
        · rw [drop_end h6]; rfl
    rw [hp, hn']; simp only [Option.map_some, List.append_nil]
    rw [← he, hc4, if_neg (by simp)]; exact ⟨_, rfl, none, 0, [], rfl, OwnOk.nil, rfl⟩
  try simp only [Bool.cond_true_left, Bool.cond_false_right, Bool.or_eq_true, Bool.or_eq_false_iff, Bool.and_eq_true, Bool.and_eq_false_iff, decide_eq_true_eq, decide_eq_false_iff_not, Bool.not_eq_true', Bool.not_eq_false'] at hc4
  refine CW.skip (Q.tn ?_)
  refine CW.seq ?_
  refine CW.region ?_
  refine W.p O.mv ?_
  refine W.p O.as ?_
  refine W.p O.as ?_
  refine WL.nil (Q.tn ?_)
  refine CW.ret ?_
  refine ⟨_, rowL o 42 (flat encO os sp), (RVs.tmp rfl (RVs.tmp rfl RVs.nil)), (by repeat (first | exact List.Sublist.refl _ | exact hSub _ | exact List.sublist_append_left _ _ | exact List.nil_sublist _ | refine List.Sublist.append (List.Sublist.refl _) ?_ | apply List.Sublist.cons_cons | apply List.Sublist.cons | exact List.sublist_append_left _ _ | refine List.Sublist.trans ?_ (List.sublist_append_right _ _))), ?_⟩
  unfold getR getOpts
  have hn' : pieces (s.drop at_.toNat) = some [] := by
    rcases hc1 with h5 | h5
    · rw [drop_end (by omega)]; rfl
    · by_cases h6 : at_ < s.length
      · rw [drop_at (0 : UInt8) h0 h6, (toNat_eq (n := 255) (by decide)).1 h5]; exact pieces_end _
      · rw [drop_end h6]; rfl
  rw [hp, hn']; simp only [Option.map_some, List.append_nil]
  rw [← he, hc4, if_pos rfl]; exact ⟨_, rfl, o, cc, sp, rfl, ok, rfl⟩
set_option maxRecDepth 100000 in
theorem ref_FindOpt (os : List Opt) (a : Option Addr) (c : Nat) (k : Int) (w : World) (h : In w a (os.flatMap encO)) (hn : os.length ≤ 1000000000) : Fn Try.prog 41 [.slice a os.length c, .int .i64 k] w [] fun v L' => v = .tuple #[.string (S (fdF k os).1), .bool (fdF k os).2] ∧ L' = [] := by
  have row := Row.ofE h
  refine Fn.enter Try.func41 rfl rfl rfl rfl (Holds.nil w) ?_
  refine CW.seq ?_
  refine CW.region ?_
  refine W.p O.as ?_
  refine W.p O.as ?_
  refine WL.nil (Q.tn ?_)
  refine CW.seq ?_
  refine CW.seq ?_
  refine CW.region ?_
  refine W.p O.as ?_
  refine WL.nil (Q.tn ?_)
  refine CW.block ?_
  refine CW.loop (X := Int) (fun i => [(0, true, .slice a os.length c), (1, true, .int .i64 k), (6, true, .int .i64 i)]) (fun i => []) (fun i => 0 ≤ i ∧ i ≤ os.length ∧ fdF k os = fdF k (os.drop i.toNat)) (fun i => (os.length - i).toNat) (0) ?_ (by repeat (first | exact trivial | refine ⟨rfl, ?_⟩ | refine ⟨by (simp only [List.length_set]; rfl), ?_⟩)) (by repeat (first | exact List.Sublist.refl _ | exact List.sublist_append_left _ _ | exact List.nil_sublist _ | refine List.Sublist.append (List.Sublist.refl _) ?_ | apply List.Sublist.cons_cons | apply List.Sublist.cons | refine List.Sublist.trans ?_ (List.sublist_append_right _ _))) ?_
  · exact ⟨by omega, by omega, rfl⟩
  rintro i hI
  try dsimp only at hI ⊢
  obtain ⟨h0, h1, hr⟩ := hI
  refine CW.seq ?_
  refine CW.seq ?_
  refine CW.region ?_
  refine W.p O.mv ?_
  refine W.p O.mv ?_
  refine W.p O.lenL ?_
  refine W.p O.lss ?_
  refine WL.nil (Q.tn ?_)
  refine CW.cond (vt rfl) (fun hc1 => ?_) (fun hc1 => ?_)
  · try simp only [Bool.cond_true_left, Bool.cond_false_right, Bool.or_eq_true, Bool.or_eq_false_iff, Bool.and_eq_true, Bool.and_eq_false_iff, decide_eq_true_eq, decide_eq_false_iff_not, Bool.not_eq_true', Bool.not_eq_false'] at hc1
    refine CW.skip (Q.tn ?_)
    refine CW.seq ?_
    refine CW.block ?_
    refine CW.seq ?_
    refine CW.region ?_
    refine W.p O.mv ?_
    refine W.p O.mv ?_
    refine W.p O.ixA ?_
    first | refine W.p O.fe ?_ | refine W.p O.feR ?_
    refine W.p O.ldE ?_
    refine W.p O.mv ?_
    refine W.p O.eqI ?_
    refine WL.nil (Q.tn ?_)
    refine CW.cond (vt rfl) (fun hc2 => ?_) (fun hc2 => ?_)
    · try simp only [Bool.cond_true_left, Bool.cond_false_right, Bool.or_eq_true, Bool.or_eq_false_iff, Bool.and_eq_true, Bool.and_eq_false_iff, decide_eq_true_eq, decide_eq_false_iff_not, Bool.not_eq_true', Bool.not_eq_false'] at hc2
      refine CW.seq ?_
      refine CW.region ?_
      refine W.p O.mv ?_
      refine W.p O.mv ?_
      refine W.p O.ixA ?_
      first | refine W.p O.fe ?_ | refine W.p O.feR ?_
      refine W.p O.ldE ?_
      refine W.p O.as ?_
      refine W.p O.as ?_
      refine WL.nil (Q.tn ?_)
      refine CW.ret (Q.br (Q.tr (Q.tr (Q.br (Q.tr ?_)))))
      refine ⟨_, [], (RVs.tmp rfl (RVs.tmp rfl RVs.nil)), List.nil_sublist _, ?_⟩
      refine ⟨?_, rfl⟩
      rw [hr, drop_at dO h0 hc1, fdF, if_pos hc2]; rfl
    try simp only [Bool.cond_true_left, Bool.cond_false_right, Bool.or_eq_true, Bool.or_eq_false_iff, Bool.and_eq_true, Bool.and_eq_false_iff, decide_eq_true_eq, decide_eq_false_iff_not, Bool.not_eq_true', Bool.not_eq_false'] at hc2
    refine CW.skip (Q.bn (Q.tn ?_))
    refine CW.region ?_
    refine W.p O.mv ?_
    first | refine W.p O.addN ?_ | refine W.p O.add ?_
    refine W.p O.as ?_
    refine WL.nil (Q.tn ?_)
    refine ⟨(_), ?_, ?_, (by repeat (first | exact trivial | refine ⟨rfl, ?_⟩ | refine ⟨by (simp only [List.length_set]; rfl), ?_⟩)), (by repeat (first | exact List.Sublist.refl _ | exact List.sublist_append_left _ _ | exact List.nil_sublist _ | refine List.Sublist.append (List.Sublist.refl _) ?_ | apply List.Sublist.cons_cons | apply List.Sublist.cons | refine List.Sublist.trans ?_ (List.sublist_append_right _ _)))⟩
    · try dsimp only
      exact ⟨by omega, by omega, by rw [hr, drop_at dO h0 hc1, fdF, if_neg hc2]⟩
    · try dsimp only
      omega
  try simp only [Bool.cond_true_left, Bool.cond_false_right, Bool.or_eq_true, Bool.or_eq_false_iff, Bool.and_eq_true, Bool.and_eq_false_iff, decide_eq_true_eq, decide_eq_false_iff_not, Bool.not_eq_true', Bool.not_eq_false'] at hc1
  refine CW.exit (Q.te (Q.te (Q.bx (Q.tn ?_))))
  refine CW.seq ?_
  refine CW.region ?_
  refine W.p O.as ?_
  refine W.p O.as ?_
  refine WL.nil (Q.tn ?_)
  refine CW.ret ?_
  refine ⟨_, [], (RVs.tmp rfl (RVs.tmp rfl RVs.nil)), List.nil_sublist _, ?_⟩
  refine ⟨?_, rfl⟩
  rw [hr, drop_end hc1]; rfl
end Go.Proofs.Ytkjcmdgideddnaa
