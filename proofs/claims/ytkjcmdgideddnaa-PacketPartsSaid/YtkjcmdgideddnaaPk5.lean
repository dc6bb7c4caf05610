/- What packet.Get comes to. Condition: the text is not longer than a hundred millions. -/
import Derived.Test.YtkjcmdgideddnaaPk4
import Derived.Test.YtkjcmdgideddnaaRrTak
set_option linter.unusedVariables false
set_option linter.unusedSimpArgs false
namespace Go.Proofs.Ytkjcmdgideddnaa
open Go Go.RowKit
abbrev pkC (vs : List Int) : List Value := [.int .i64 (vs.getD 0 0), .int .i64 (vs.getD 1 0), .int .i64 (vs.getD 3 0), .int .i64 (vs.getD 4 0), .int .i64 (vs.getD 5 0), .int .i64 (vs.getD 6 0), .int .i64 (vs.getD 7 0), .int .i64 (vs.getD 8 0), .int .i64 (vs.getD 9 0), .int .i64 (vs.getD 10 0), .string (S []), .slice none 0 0]
abbrev pkH (b l : Nat) (vs : List Int) (M : Heap) : Heap := (l, .cells [.int .i64 (vs.getD 2 0)].toArray 3 (0, 0)) :: (b, .cells (pkC vs).toArray 72 (0, 0)) :: M
theorem W.stF {P : Program} {n : Nat} {w0 : World} {L0 : Heap} {all rest : List Oper} {E : Env} {Q : Post} {x y : Operand} {T ty : TypeId} {pos : String} {aft : Array Edge} {b l : Nat} {vs : List Int} {y1 y2 : Nat × Obj} {A M : Heap} {i u : Int} [ht : TSize P T 1] (hv : vs.length = 11) (h0 : 0 ≤ i) (h1 : i < 11)
    (hx : Val true E x (.pointer (some ((fieldsL b l).getD i.toNat dF).1))) (hy : Val true E y (.int .i64 u)) (k : WL P n w0 L0 all rest E (y1 :: (A ++ (y2 :: pkH b l (vs.set i.toNat u) M))) Q) : WL P n w0 L0 all (⟨none, .store T x y, ty, pos, aft, none⟩ :: rest) E (y1 :: (A ++ (y2 :: pkH b l vs M))) Q := by
  obtain ⟨v0, v1, v2, v3, v4, v5, v6, v7, v8, v9, v10, rfl⟩ : ∃ v0 v1 v2 v3 v4 v5 v6 v7 v8 v9 v10, vs = [v0, v1, v2, v3, v4, v5, v6, v7, v8, v9, v10] := by
    match vs, hv with
    | [v0, v1, v2, v3, v4, v5, v6, v7, v8, v9, v10], _ => exact ⟨v0, v1, v2, v3, v4, v5, v6, v7, v8, v9, v10, rfl⟩
  rcases (by omega : i = 0 ∨ i = 1 ∨ i = 2 ∨ i = 3 ∨ i = 4 ∨ i = 5 ∨ i = 6 ∨ i = 7 ∨ i = 8 ∨ i = 9 ∨ i = 10) with rfl | rfl | rfl | rfl | rfl | rfl | rfl | rfl | rfl | rfl | rfl
  all_goals exact W.st hx hy rfl k
abbrev OFF : List Int := [0, 1, 2, 3, 4, 8, 10, 12, 16, 20, 24, 28]
abbrev nmS (s : List UInt8) (i j : Int) : Int := numI (slc s i j)
def vsG (s : List UInt8) : List Int := [nmS s 0 1, nmS s 1 2, nmS s 2 3, nmS s 3 4, nmS s 4 8, nmS s 8 10, nmS s 10 12, nmS s 12 16, nmS s 16 20, nmS s 20 24, nmS s 24 28]
theorem off_at (s : List UInt8) {i : Int} (h0 : 0 ≤ i) (h1 : i < 11) : (PFK.getD i.toNat 0 = 1 ∨ PFK.getD i.toNat 0 = 2 ∨ PFK.getD i.toNat 0 = 4) ∧ OFF.getD (i + 1).toNat 0 = OFF.getD i.toNat 0 + PFK.getD i.toNat 0 ∧ 0 ≤ OFF.getD i.toNat 0 ∧ OFF.getD i.toNat 0 + PFK.getD i.toNat 0 ≤ 28 ∧ (vsG s).getD i.toNat 0 = numI (slc s (OFF.getD i.toNat 0) (OFF.getD i.toNat 0 + PFK.getD i.toNat 0)) := by
  rcases (by omega : i = 0 ∨ i = 1 ∨ i = 2 ∨ i = 3 ∨ i = 4 ∨ i = 5 ∨ i = 6 ∨ i = 7 ∨ i = 8 ∨ i = 9 ∨ i = 10) with rfl | rfl | rfl | rfl | rfl | rfl | rfl | rfl | rfl | rfl | rfl <;> exact ⟨by decide, by decide, by decide, by decide, rfl⟩
theorem vs_set {L vs : List Int} {i : Int} {m : Nat} (h0 : 0 ≤ i) (h1 : i < L.length) (hm : L.length = m) (hv : vs = L.take i.toNat ++ List.replicate (m - i.toNat) 0) : vs.set i.toNat (L.getD i.toNat 0) = L.take (i + 1).toNat ++ List.replicate (m - (i + 1).toNat) 0 := by
  have e1 : (L.take i.toNat).length = i.toNat := by rw [List.length_take]; omega
  have e2 : m - i.toNat = (m - (i + 1).toNat) + 1 := by omega
  rw [hv, take_at' 0 h0 h1, e2, List.replicate_succ, List.set_append_right _ _ (by omega), e1, Nat.sub_self, List.set_cons_zero, List.append_assoc]; rfl
abbrev noPk : Pkt := ⟨0, 0, 0, 0, 0, 0, 0, 0, 0, 0, [], []⟩
def pkOf (s : List UInt8) : Pkt := ⟨nmS s 0 1, nmS s 1 2, nmS s 3 4, nmS s 4 8, nmS s 8 10, nmS s 10 12, nmS s 12 16, nmS s 16 20, nmS s 20 24, nmS s 24 28, slc s 28 (28 + nmS s 2 3), (ptR s).1⟩
def pkGet (s : List UInt8) : Pkt × Int := if s.length < 240 ∨ slc s 236 240 ≠ cookieB then (noPk, 700) else if 16 < nmS s 2 3 ∨ (ptR s).2 = false then (noPk, 700) else (pkOf s, 0)
theorem nm3 (s : List UInt8) : 0 ≤ nmS s 2 3 ∧ nmS s 2 3 ≤ 255 := numI_1 (by simp only [slc, List.length_drop, List.length_take]; omega)
set_option maxRecDepth 100000 in
theorem pk_Get (s : List UInt8) (w : World) (hs : s.length ≤ 100000000) : Fn Try.prog 59 [.string (S s)] w [] fun v L' => ∃ o c sp, v = .tuple #[vPk (pkGet s).1 (oa o) c, .int .i64 (pkGet s).2] ∧ OwnOk o c 2 (pkGet s).1.opts.length (List.length sp) ∧ L' = rowL o 42 (flat encO (pkGet s).1.opts sp) := by
  have hn3 := nm3 s
  have hs47 : s.length ≤ 140737488355328 := by omega
  refine Fn.enter Try.func59 rfl rfl rfl rfl (Holds.nil w) ?_
  refine CW.seq ?_
  refine CW.region ?_
  refine W.al rfl rfl fun b1 => ?_
  refine W.p O.as ?_
  refine WL.nil (Q.tn ?_)
  refine CW.seq ?_
  refine CW.seq ?_
  refine CW.draw 9 rfl (by kernel_rfl) ?_
  refine WQ.p O.mv ?_
  refine WQ.p O.len ?_
  refine WQ.p O.lss ?_
  refine WQ.p O.mv ?_
  refine WQ.p O.mv ?_
  refine WQ.p O.slc ?_
  refine WQ.q (O.call ⟨rfl, rfl⟩ (AV.cons (vt rfl) (AV.cons (vt rfl) (AV.nil))) (fun _ w hw => be_Bytes _ 4 w (by decide))) ?_
  refine WQ.p O.neS ?_
  refine WQ.p O.pkB ?_
  refine WQ.nil ?_
  refine WL.nil (Q.tn ?_)
  refine CW.cond (vt rfl) (fun hc1 => ?_) (fun hc1 => ?_)
  · try simp only [Bool.cond_true_left, Bool.cond_false_right, Bool.or_eq_true, Bool.or_eq_false_iff, Bool.and_eq_true, Bool.and_eq_false_iff, decide_eq_true_eq, decide_eq_false_iff_not, Bool.not_eq_true', Bool.not_eq_false'] at hc1
    refine CW.seq ?_
    refine CW.region ?_
    refine W.p (O.bd (hv := PV.nil)) ?_
    refine W.st (vt rfl) (vt rfl) rfl ?_
    refine W.p O.as ?_
    refine WL.nil (Q.tn ?_)
    refine CW.ret (Q.tr ?_)
    refine ⟨_, [], (RVs.cell rfl (RVs.tmp rfl RVs.nil)), List.nil_sublist _, ?_⟩
    rw [pkGet, if_pos (show s.length < 240 ∨ slc s 236 240 ≠ cookieB by rcases hc1 with h | h; exact .inl (by omega); exact .inr h)]
    exact ⟨none, 0, [], rfl, OwnOk.nil, rfl⟩
  try simp only [Bool.cond_true_left, Bool.cond_false_right, Bool.or_eq_true, Bool.or_eq_false_iff, Bool.and_eq_true, Bool.and_eq_false_iff, decide_eq_true_eq, decide_eq_false_iff_not, Bool.not_eq_true', Bool.not_eq_false'] at hc1
  have h240 : 240 ≤ s.length := by omega
  refine CW.skip (Q.tn ?_)
  refine CW.seq ?_
  refine CW.region ?_
  refine W.al rfl rfl fun b2 => ?_
  refine WL.nil (Q.tn ?_)
  refine CW.seq ?_
  refine CW.region ?_
  refine W.al rfl rfl fun b3 => ?_
  first | refine W.st (vt rfl) (vt rfl) rfl ?_ | refine W.st (u := .int _ _) (vt rfl) (vt rfl) rfl ?_
  refine WL.nil (Q.tn ?_)
  refine CW.seq ?_
  refine CW.region ?_
  refine W.p O.mv ?_
  refine W.p (O.bd (hv := PV.cons (vt rfl) (PV.nil))) ?_
  refine W.bx rfl (vt rfl) rfl fun b4 => ?_
  refine W.p O.as ?_
  refine WL.nil (Q.tn ?_)
  refine CW.seq ?_
  refine CW.seq ?_
  refine CW.region ?_
  refine W.callN (first := []) (cap := []) rfl (vt rfl) (AV.cons (vt rfl) (AV.cons (vt rfl) (AV.nil))) (fun w hu => pk_fields _ _ w) ?_; rintro _ _ ⟨o11, c11, sp11, rfl, ok11, rfl⟩; have nk11 := ok11.nk
  refine W.p O.lenL ?_
  refine W.p O.mv ?_
  refine WL.nil (Q.tn ?_)
  refine CW.block ?_
  refine CW.loop (X := Int × (List Int) × TS) (fun ⟨i, vs, t⟩ => [(0, true, .string (S s)), (2, true, .pointer (some ⟨b1, 0, none⟩)), (4, true, .pointer (some ⟨b2, 0, none⟩)), (5, true, .pointer (some ⟨b3, 0, none⟩)), (6, true, .pointer (some ⟨b4, 0, none⟩)), (24, true, .slice (oa o11) 11 c11), (25, true, .int .i64 11), (26, true, .int .i64 i)]) (fun ⟨i, vs, t⟩ => rowL o11 168 (flat encF (fieldsL b2 b3) sp11) ++ (TkO b4 s t :: pkH b2 b3 vs [(b1, .cells (pkC [0, 0, 0, 0, 0, 0, 0, 0, 0, 0, 0]).toArray 72 (0, 0))])) (fun ⟨i, vs, t⟩ => 0 ≤ i ∧ i ≤ 11 ∧ vs.length = 11 ∧ vs = (vsG s).take i.toNat ++ List.replicate (11 - i.toNat) 0 ∧ t = ⟨OFF.getD i.toNat 0, false⟩) (fun ⟨i, vs, t⟩ => (11 - i).toNat) (0, [0, 0, 0, 0, 0, 0, 0, 0, 0, 0, 0], ⟨0, false⟩) ?_ (by repeat (first | exact trivial | refine ⟨rfl, ?_⟩ | refine ⟨by (simp only [List.length_set]; rfl), ?_⟩)) (by repeat (first | exact List.Sublist.refl _ | exact List.sublist_append_left _ _ | exact List.nil_sublist _ | refine List.Sublist.append (List.Sublist.refl _) ?_ | apply List.Sublist.cons_cons | apply List.Sublist.cons | refine List.Sublist.trans ?_ (List.sublist_append_right _ _))) ?_
  · exact ⟨by omega, by omega, rfl, rfl, rfl⟩
  rintro ⟨i, vs, t⟩ hI
  try dsimp only at hI ⊢
  obtain ⟨h0, h1, hvl, hvs, ht⟩ := hI
  refine CW.seq ?_
  refine CW.region ?_
  refine W.p O.lss ?_
  refine WL.nil (Q.tn ?_)
  refine CW.seq ?_
  refine CW.cond (vt rfl) (fun hc2 => ?_) (fun hc2 => ?_)
  · try simp only [Bool.cond_true_left, Bool.cond_false_right, Bool.or_eq_true, Bool.or_eq_false_iff, Bool.and_eq_true, Bool.and_eq_false_iff, decide_eq_true_eq, decide_eq_false_iff_not, Bool.not_eq_true', Bool.not_eq_false'] at hc2
    have hf := fields_at b2 b3 h0 hc2
    have hoff := off_at s h0 hc2
    have hkk : tNum IntKind.i64.wrap s ((fieldsL b2 b3).getD i.toNat dF).2 t = ((vsG s).getD i.toNat 0, ⟨OFF.getD (i + 1).toNat 0, false⟩) := by rw [hf.1, hoff.2.1, hoff.2.2.2.2]; rcases tNum_ok wr_in hs47 (s := s) hoff.1 (t := t) (fun _ => by rw [ht]; exact hoff.2.2.1) with ⟨_, b⟩ | ⟨_, _, c⟩; (exfalso; rw [ht] at b; rcases b with b | b; cases b; dsimp only at b; omega); (rw [c, ht])
    refine CW.skip (Q.tn ?_)
    refine CW.seq ?_
    refine CW.block ?_
    refine CW.seq ?_
    refine CW.region ?_
    refine W.p O.ixA ?_
    refine W.p O.ldsE ?_
    refine W.al rfl rfl fun b5 => ?_
    refine W.st (vt rfl) (vt rfl) rfl ?_
    refine WL.nil (Q.tn ?_)
    refine CW.drawH [(b5, .cells (encF ((fieldsL b2 b3).getD i.toNat dF)).toArray 168 (0, 0))] rfl ?_
    first | refine RH.q 0 (fun _ _ _ h => h) rfl (by kernel_rfl) (by repeat (first | exact List.nil_sublist _ | exact List.Sublist.refl _ | exact List.sublist_append_left _ _ | exact List.sublist_append_right _ _ | apply List.Sublist.cons_cons | apply List.Sublist.cons | refine List.Sublist.trans ?_ (List.sublist_append_right _ _))) (O.fb) ?_ | refine RH.q 0 (fun _ _ _ h => h) rfl (by kernel_rfl) (by repeat (first | exact List.nil_sublist _ | exact List.Sublist.refl _ | exact List.sublist_append_left _ _ | exact List.sublist_append_right _ _ | apply List.Sublist.cons_cons | apply List.Sublist.cons | refine List.Sublist.trans ?_ (List.sublist_append_right _ _))) (O.fa) ?_
    refine RH.q 1 (fun _ _ _ h => h) rfl (by kernel_rfl) (by repeat (first | exact List.nil_sublist _ | exact List.Sublist.refl _ | exact List.sublist_append_left _ _ | exact List.sublist_append_right _ _ | apply List.Sublist.cons_cons | apply List.Sublist.cons | refine List.Sublist.trans ?_ (List.sublist_append_right _ _))) (O.ld) ?_
    refine RH.q 2 (fun _ _ _ h => h) rfl (by kernel_rfl) (by repeat (first | exact List.nil_sublist _ | exact List.Sublist.refl _ | exact List.sublist_append_left _ _ | exact List.sublist_append_right _ _ | apply List.Sublist.cons_cons | apply List.Sublist.cons | refine List.Sublist.trans ?_ (List.sublist_append_right _ _))) (O.mv) ?_
    first | refine RH.q 3 (fun _ _ _ h => h) rfl (by kernel_rfl) (by repeat (first | exact List.nil_sublist _ | exact List.Sublist.refl _ | exact List.sublist_append_left _ _ | exact List.sublist_append_right _ _ | apply List.Sublist.cons_cons | apply List.Sublist.cons | refine List.Sublist.trans ?_ (List.sublist_append_right _ _))) (O.fb) ?_ | refine RH.q 3 (fun _ _ _ h => h) rfl (by kernel_rfl) (by repeat (first | exact List.nil_sublist _ | exact List.Sublist.refl _ | exact List.sublist_append_left _ _ | exact List.sublist_append_right _ _ | apply List.Sublist.cons_cons | apply List.Sublist.cons | refine List.Sublist.trans ?_ (List.sublist_append_right _ _))) (O.fa) ?_
    refine RH.q 4 (fun _ _ _ h => h) rfl (by kernel_rfl) (by repeat (first | exact List.nil_sublist _ | exact List.Sublist.refl _ | exact List.sublist_append_left _ _ | exact List.sublist_append_right _ _ | apply List.Sublist.cons_cons | apply List.Sublist.cons | refine List.Sublist.trans ?_ (List.sublist_append_right _ _))) (O.ld) ?_
    refine RH.one (i := 5) (fun _ _ h => h) (by kernel_rfl) rfl ?_
    refine W.callS (first := []) (cap := []) (TkH b4 s t) rfl (vt rfl) (AV.cons (vt rfl) (AV.cons (vt rfl) (AV.nil))) (fun w hu hh => tk_Num ((fieldsL b2 b3).getD i.toNat dF).2 w hh hs47) ?_; rintro _ _ ⟨rfl, rfl⟩
    refine WL.nilQn ⟨(by repeat (first | exact List.nil_sublist _ | exact List.Sublist.refl _ | exact List.sublist_append_left _ _ | exact List.sublist_append_right _ _ | apply List.Sublist.cons_cons | apply List.Sublist.cons | refine List.Sublist.trans ?_ (List.sublist_append_right _ _))), ?_⟩
    refine RH.q 6 (fun _ _ _ h => h) rfl (by kernel_rfl) (by repeat (first | exact List.nil_sublist _ | exact List.Sublist.refl _ | exact List.sublist_append_left _ _ | exact List.sublist_append_right _ _ | apply List.Sublist.cons_cons | apply List.Sublist.cons | refine List.Sublist.trans ?_ (List.sublist_append_right _ _))) (O.nc) ?_
    refine RH.one (i := 7) (fun _ _ h => h) (by kernel_rfl) rfl ?_
    refine W.stF (b := b2) (l := b3) hvl h0 hc2 (vt rfl) (vt rfl) ?_
    refine WL.nilQn ⟨(by repeat (first | exact List.nil_sublist _ | exact List.Sublist.refl _ | exact List.sublist_append_left _ _ | exact List.sublist_append_right _ _ | apply List.Sublist.cons_cons | apply List.Sublist.cons | refine List.Sublist.trans ?_ (List.sublist_append_right _ _))), ?_⟩
    refine RH.done (by kernel_rfl) (Q.bn (Q.tn ?_))
    refine CW.region ?_
    first | refine W.p O.addN ?_ | refine W.p O.add ?_
    refine W.p O.mv ?_
    refine WL.nil (Q.tn ?_)
    refine ⟨(i + 1, vs.set i.toNat (tNum IntKind.i64.wrap s ((fieldsL b2 b3).getD i.toNat dF).2 t).1, (tNum IntKind.i64.wrap s ((fieldsL b2 b3).getD i.toNat dF).2 t).2), ?_, ?_, (by repeat (first | exact trivial | refine ⟨rfl, ?_⟩ | refine ⟨by (simp only [List.length_set]; rfl), ?_⟩)), (by repeat (first | exact List.Sublist.refl _ | exact List.sublist_append_left _ _ | exact List.nil_sublist _ | refine List.Sublist.append (List.Sublist.refl _) ?_ | apply List.Sublist.cons_cons | apply List.Sublist.cons | refine List.Sublist.trans ?_ (List.sublist_append_right _ _)))⟩
    · try dsimp only
      rw [hkk]
      exact ⟨by omega, by omega, by rw [List.length_set]; exact hvl, vs_set h0 (by simpa [vsG] using hc2) rfl hvs, rfl⟩
    · try dsimp only
      omega
  try simp only [Bool.cond_true_left, Bool.cond_false_right, Bool.or_eq_true, Bool.or_eq_false_iff, Bool.and_eq_true, Bool.and_eq_false_iff, decide_eq_true_eq, decide_eq_false_iff_not, Bool.not_eq_true', Bool.not_eq_false'] at hc2
  obtain rfl : i = 11 := by omega
  obtain rfl : vs = vsG s := by rw [hvs]; rfl
  obtain rfl : t = ⟨28, false⟩ := ht
  refine CW.exit (Q.te (Q.te (Q.bx (Q.tn ?_))))
  refine CW.seq ?_
  refine CW.region ?_
  refine W.p O.mv ?_
  refine W.callN (first := []) (cap := []) rfl (vt rfl) (AV.cons (vt rfl) (AV.nil)) (fun w hu => pk_parts s w h240 hs) ?_; rintro _ _ ⟨o12, c12, sp12, rfl, ok12, rfl⟩; have nk12 := ok12.nk
  refine W.p O.mv ?_
  first | refine W.p O.extL ?_ | refine W.p O.ext ?_
  first | refine W.p O.extL ?_ | refine W.p O.ext ?_
  refine W.p O.as ?_
  refine W.p O.as ?_
  refine WL.nil (Q.tn ?_)
  refine CW.seq ?_
  refine CW.seq ?_
  refine CW.region ?_
  refine W.p O.ld ?_
  refine W.p O.gtr ?_
  refine W.p O.mv ?_
  refine W.p O.mv ?_
  refine W.p O.nt ?_
  refine W.p O.pkB ?_
  refine WL.nil (Q.tn ?_)
  refine CW.cond (vt rfl) (fun hc3 => ?_) (fun hc3 => ?_)
  · try simp only [Bool.cond_true_left, Bool.cond_false_right, Bool.or_eq_true, Bool.or_eq_false_iff, Bool.and_eq_true, Bool.and_eq_false_iff, decide_eq_true_eq, decide_eq_false_iff_not, Bool.not_eq_true', Bool.not_eq_false'] at hc3
    refine CW.seq ?_
    refine CW.region ?_
    refine W.p (O.bd (hv := PV.nil)) ?_
    refine W.st (vt rfl) (vt rfl) rfl ?_
    refine W.p O.as ?_
    refine WL.nil (Q.tn ?_)
    refine CW.ret (Q.tr ?_)
    refine ⟨_, [], (RVs.cell rfl (RVs.tmp rfl RVs.nil)), List.nil_sublist _, ?_⟩
    rw [pkGet, if_neg (show ¬ (s.length < 240 ∨ slc s 236 240 ≠ cookieB) by rintro (h | h); omega; exact h hc1.2), if_pos (show 16 < nmS s 2 3 ∨ (ptR s).2 = false from hc3)]
    exact ⟨none, 0, [], rfl, OwnOk.nil, rfl⟩
  try simp only [Bool.cond_true_left, Bool.cond_false_right, Bool.or_eq_true, Bool.or_eq_false_iff, Bool.and_eq_true, Bool.and_eq_false_iff, decide_eq_true_eq, decide_eq_false_iff_not, Bool.not_eq_true', Bool.not_eq_false'] at hc3
  refine CW.skip (Q.tn ?_)
  refine CW.seq ?_
  refine CW.region ?_
  refine W.p O.mv ?_
  refine W.p O.ld ?_
  refine W.callS (first := []) (cap := []) (TkH b4 s ⟨28, false⟩) rfl (vt rfl) (AV.cons (vt rfl) (AV.cons (vt rfl) (AV.nil))) (fun w hu hh => tk_Some (nmS s 2 3) w hh hs47 (fun _ => by dsimp only; omega) (by omega)) ?_; rintro _ _ ⟨rfl, rfl⟩
  refine W.p O.mv ?_
  first | refine W.p O.fb ?_ | refine W.p O.fa ?_
  first | refine W.st (vt rfl) (vt rfl) rfl ?_ | refine W.st (u := .string _) (vt rfl) (vt rfl) rfl ?_
  first | refine W.p O.fb ?_ | refine W.p O.fa ?_
  first | refine W.st (vt rfl) (vt rfl) rfl ?_ | refine W.st (u := .slice _ _ _) (vt rfl) (vt rfl) rfl ?_
  refine WL.nil (Q.tn ?_)
  refine CW.seq ?_
  refine CW.region ?_
  refine W.p O.lds ?_
  refine W.st (vt rfl) (vt rfl) rfl ?_
  refine W.p O.as ?_
  refine WL.nil (Q.tn ?_)
  refine CW.ret ?_
  refine ⟨_, rowL o12 42 (flat encO (ptR s).1 sp12), (RVs.cell rfl (RVs.tmp rfl RVs.nil)), (by repeat (first | exact List.Sublist.refl _ | exact hSub _ | exact List.sublist_append_left _ _ | exact List.nil_sublist _ | refine List.Sublist.append (List.Sublist.refl _) ?_ | apply List.Sublist.cons_cons | apply List.Sublist.cons | exact List.sublist_append_left _ _ | refine List.Sublist.trans ?_ (List.sublist_append_right _ _))), ?_⟩
  have hS : tSome s (nmS s 2 3) ⟨28, false⟩ = (slc s 28 (28 + nmS s 2 3), ⟨28 + nmS s 2 3, false⟩) := by rw [tSome, if_neg (by rintro (h | h); cases h; dsimp only at h; have := hc3.1; change ¬ 16 < nmS s 2 3 at this; omega)]
  rw [pkGet, if_neg (show ¬ (s.length < 240 ∨ slc s 236 240 ≠ cookieB) by rintro (h | h); omega; exact h hc1.2), if_neg (show ¬ (16 < nmS s 2 3 ∨ (ptR s).2 = false) by rintro (h | h); exact hc3.1 h; rw [hc3.2] at h; cases h), hS]
  exact ⟨o12, c12, sp12, rfl, ok12, rfl⟩
end Go.Proofs.Ytkjcmdgideddnaa
