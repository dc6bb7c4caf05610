/- What the reader's asked and records come to. Condition: the text is not longer than some 2^47 bytes. -/
import Derived.Test.YtkjcmdgideddnaaDnD
set_option linter.unusedVariables false
set_option linter.unusedSimpArgs false
namespace Go.Proofs.Ytkjcmdgideddnaa
open Go Go.RowKit
section
variable {α : Type} {f : TS → α × TS} {cap : Nat} {k : Int} {out : List α} {t : TS}
theorem lp_step (h0 : 0 < k) (hb : t.bad = false) (hl : out.length ≤ cap) : lpM f cap k.toNat out t = lpM f cap (k - 1).toNat (out ++ [(f t).1]) (f t).2 := by
  rw [show k.toNat = (k - 1).toNat + 1 by omega, lpM, if_neg (by rintro (h | h); rw [hb] at h; cases h; omega)]
theorem lp_stop (h : k ≤ 0 ∨ t.bad = true ∨ cap < out.length) : lpM f cap k.toNat out t = (out, t) := by
  rcases h with h | h | h
  · rw [show k.toNat = 0 by omega, lpM]
  · exact lp_bad h
  · exact lp_full h
end
theorem own_perm {x : Nat × Obj} {R : Heap} : (R ++ [x]).Perm (x :: R) := List.perm_append_singleton x R
set_option maxRecDepth 100000 in
theorem rd_asked0 {b : Nat} {s : List UInt8} {t : TS} (k : Int) (w : World) (hL : Holds (QdH b s t) w) (hs : s.length ≤ 140737488355328) (hk : k ≤ 5) :
    Fn Try.prog 138 [.pointer (some ⟨b, 0, none⟩), .int .i64 k] w (QdH b s t) fun v L' => ∃ o c sp, v = .slice (oa o) (lpM (dAsk IntKind.i64.wrap s) bigC k.toNat [] t).1.length c ∧ OwnOk o c 2 (lpM (dAsk IntKind.i64.wrap s) bigC k.toNat [] t).1.length (List.length sp) ∧ L' = rowL o 126 (flat encQ (lpM (dAsk IntKind.i64.wrap s) bigC k.toNat [] t).1 sp) ++ QdH b s (lpM (dAsk IntKind.i64.wrap s) bigC k.toNat [] t).2 := by
  refine Fn.enter Try.func138 rfl rfl rfl rfl hL ?_
  refine CW.seq ?_
  refine CW.region ?_
  refine W.p O.as ?_
  refine WL.nil (Q.tn ?_)
  refine CW.seq ?_
  refine CW.region ?_
  refine W.p O.as ?_
  refine WL.nil (Q.tn ?_)
  refine CW.seq ?_
  refine CW.block ?_
  refine CW.loopA (X := Int × (List Qn') × TS × (Option Nat) × Nat × (List Value)) (fun ⟨j, out, u, o, cc, sp⟩ => [(0, true, .pointer (some ⟨b, 0, none⟩)), (1, true, .int .i64 j), (5, true, .slice (oa o) out.length cc)]) (fun ⟨j, out, u, o, cc, sp⟩ => rowL o 126 (flat encQ out sp) ++ QdH b s u) (fun ⟨j, out, u, o, cc, sp⟩ => j ≤ 5 ∧ OwnOk o cc 2 out.length sp.length ∧ lpM (dAsk IntKind.i64.wrap s) bigC j.toNat out u = (lpM (dAsk IntKind.i64.wrap s) bigC k.toNat [] t) ∧ out.length ≤ 5 - j) (fun ⟨j, out, u, o, cc, sp⟩ => j.toNat) (k, [], t, none, 0, []) ?_ ?_
  · exact ⟨hk, OwnOk.nil, rfl, by simp; omega⟩
  rintro ⟨j, out, u, o, cc, sp⟩ hI
  try dsimp only at hI ⊢
  obtain ⟨h1, ok9, hr, hl⟩ := hI
  have nk9 := ok9.nk (α := Qn') (xs := out)
  refine CW.seq ?_
  refine CW.seq ?_
  refine CW.region ?_
  refine W.p O.mv ?_
  refine W.p O.gtr ?_
  refine W.p O.mv ?_
  refine W.p O.mv ?_
  refine W.p O.nc ?_
  first | refine W.p O.fb ?_ | refine W.p O.fa ?_
  first | refine W.p O.fb ?_ | refine W.p O.fa ?_
  refine W.p O.ld ?_
  refine W.p O.nt ?_
  refine W.p O.pkB ?_
  refine WL.nil (Q.tn ?_)
  refine CW.cond (vt rfl) (fun hc1 => ?_) (fun hc1 => ?_)
  · try simp only [sk] at hc1
    refine CW.skip (Q.tn ?_)
    refine CW.seq ?_
    refine CW.block ?_
    refine CW.seq ?_
    refine CW.region ?_
    refine W.p O.mv ?_
    refine W.p O.nc ?_
    first | refine W.p O.fb ?_ | refine W.p O.fa ?_
    refine W.callS (first := []) (cap := []) (QdH b s u) rfl (vt rfl) (AV.cons (vt rfl) (AV.nil)) (fun w hu hh => tk_Name w hh hs) ?_; rintro _ _ ⟨rfl, rfl⟩
    refine W.p (O.bd (hv := PV.cons (vt rfl) (PV.nil))) ?_
    refine W.al rfl rfl fun b1 => ?_
    refine W.st (vt rfl) (vt rfl) rfl ?_
    refine WL.nil (Q.tn ?_)
    refine CW.seq ?_
    refine CW.region ?_
    refine W.p O.mv ?_
    refine W.p O.nc ?_
    first | refine W.p O.fb ?_ | refine W.p O.fa ?_
    refine W.callS (first := []) (cap := []) (QdH b s (tName s u).2) rfl (vt rfl) (AV.cons (vt rfl) (AV.cons (vt rfl) (AV.nil))) (fun w hu hh => tk_Num 2 w hh hs) ?_; rintro _ _ ⟨rfl, rfl⟩
    first | refine W.p O.fb ?_ | refine W.p O.fa ?_
    first | refine W.st (vt rfl) (vt rfl) rfl ?_ | refine W.st (u := .int _ _) (vt rfl) (vt rfl) rfl ?_
    refine WL.nil (Q.tn ?_)
    refine CW.seq ?_
    refine CW.region ?_
    refine W.p O.mv ?_
    refine W.p O.mv ?_
    refine W.p O.nc ?_
    first | refine W.p O.fb ?_ | refine W.p O.fa ?_
    refine W.callS (first := []) (cap := []) (QdH b s (tNum IntKind.i64.wrap s 2 (tName s u).2).2) rfl (vt rfl) (AV.cons (vt rfl) (AV.cons (vt rfl) (AV.nil))) (fun w hu hh => tk_Num 2 w hh hs) ?_; rintro _ _ ⟨rfl, rfl⟩
    refine W.p O.neI ?_
    refine W.p O.mv ?_
    refine W.p O.mv ?_
    refine W.p O.nc ?_
    first | refine W.p O.fb ?_ | refine W.p O.fa ?_
    first | refine W.p O.fb ?_ | refine W.p O.fa ?_
    refine W.p O.ld ?_
    refine W.p O.pkB ?_
    refine W.p O.nc ?_
    first | refine W.p O.fb ?_ | refine W.p O.fa ?_
    first | refine W.p O.fb ?_ | refine W.p O.fa ?_
    refine W.st (vt rfl) (vt rfl) rfl ?_
    refine WL.nil (Q.tn ?_)
    refine CW.region ?_
    refine W.p O.mv ?_
    refine W.p O.lds ?_
    refine W.bs encQ [(dAsk IntKind.i64.wrap s u).1] rfl (PV.cons (vt rfl) (PV.nil)) rfl rfl rfl (by decide) rfl fun b2 => ?_
    refine W.ap rfl (vt rfl) (vt rfl) (by first | rfl | omega) (by first | rfl | omega) rfl (by first | assumption | exact OwnOk.nil | exact OwnOk.lit) (by first | omega | (simp; omega)) fun o1 c1 sp1 ok1 ne1 gt1 => ?_
    have nk1 := ok1.nk; have le1 := ok1.2.2.1; try simp only [List.length_append, List.length_cons, List.length_nil] at le1
    refine W.p O.as ?_
    refine WL.nil (Q.bn (Q.tn ?_))
    refine CW.region ?_
    refine W.p O.mv ?_
    first | refine W.p O.subN ?_ | refine W.p O.sub ?_
    refine W.p O.as ?_
    refine WL.nil (Q.tn ?_)
    refine nextA (j - 1, out ++ [(dAsk IntKind.i64.wrap s u).1], (dAsk IntKind.i64.wrap s u).2, _, _, _) ?_ ?_
    · try dsimp only
      refine ⟨by omega, by assumption, ?_, by simp only [List.length_append, List.length_cons, List.length_nil]; omega⟩
      rw [← hr, lp_step hc1.1 hc1.2 (by show out.length ≤ 1000000; omega)]
    · try dsimp only
      omega
  try simp only [sk] at hc1
  refine CW.exit (Q.te (Q.te (Q.bx (Q.tn ?_))))
  refine CW.seq ?_
  refine CW.region ?_
  refine W.p O.mv ?_
  refine W.p O.as ?_
  refine WL.nil (Q.tn ?_)
  refine CW.ret ?_
  refine ⟨_, rowL o 126 (flat encQ out sp) ++ QdH b s u, (RVs.tmp rfl RVs.nil), (by repeat (first | exact List.Sublist.refl _ | exact hSub _ | exact List.sublist_append_left _ _ | exact List.nil_sublist _ | refine List.Sublist.append (List.Sublist.refl _) ?_ | apply List.Sublist.cons_cons | apply List.Sublist.cons | exact List.sublist_append_left _ _ | refine List.Sublist.trans ?_ (List.sublist_append_right _ _))), ?_⟩
  have e : (lpM (dAsk IntKind.i64.wrap s) bigC k.toNat [] t) = (out, u) := by rw [← hr]; exact lp_stop (by rcases hc1 with h | h; exact .inl (by omega); exact .inr (.inl (by simpa using h)))
  rw [e]; exact ⟨o, cc, sp, rfl, ok9, rfl⟩
theorem rd_asked {b : Nat} {s : List UInt8} {t : TS} (k : Int) (w : World) (hL : Holds (QdH b s t) w) (hs : s.length ≤ 140737488355328) (hk : k ≤ 5) :
    Fn Try.prog 138 [.pointer (some ⟨b, 0, none⟩), .int .i64 k] w (QdH b s t) fun v L' => ∃ o c sp, v = .slice (oa o) (lpM (dAsk IntKind.i64.wrap s) bigC k.toNat [] t).1.length c ∧ OwnOk o c 2 (lpM (dAsk IntKind.i64.wrap s) bigC k.toNat [] t).1.length (List.length sp) ∧ L' = QdO b s (lpM (dAsk IntKind.i64.wrap s) bigC k.toNat [] t).2 :: rowL o 126 (flat encQ (lpM (dAsk IntKind.i64.wrap s) bigC k.toNat [] t).1 sp) :=
  Fn.perm (rd_asked0 k w hL hs hk) fun v L ⟨o, c, sp, h1, h2, h3⟩ => ⟨_, h3 ▸ own_perm, o, c, sp, h1, h2, rfl⟩
set_option maxRecDepth 100000 in
theorem rd_recs0 {b : Nat} {s : List UInt8} {t : TS} (k : Int) (w : World) (hL : Holds (QdH b s t) w) (hs : s.length ≤ 140737488355328) (hk : k ≤ 65535) :
    Fn Try.prog 139 [.pointer (some ⟨b, 0, none⟩), .int .i64 k, .pointer none] w (QdH b s t) fun v L' => ∃ o c sp, v = .slice (oa o) (lpM (dRec s) 32 k.toNat [] t).1.length c ∧ OwnOk o c 7 (lpM (dRec s) 32 k.toNat [] t).1.length (List.length sp) ∧ L' = rowL o 96 (flat encR (lpM (dRec s) 32 k.toNat [] t).1 sp) ++ QdH b s (lpM (dRec s) 32 k.toNat [] t).2 := by
  refine Fn.enter Try.func139 rfl rfl rfl rfl hL ?_
  refine CW.seq ?_
  refine CW.region ?_
  refine W.p O.as ?_
  refine WL.nil (Q.tn ?_)
  refine CW.seq ?_
  refine CW.region ?_
  refine W.p O.as ?_
  refine WL.nil (Q.tn ?_)
  refine CW.seq ?_
  refine CW.block ?_
  refine CW.loopA (X := Int × (List RR) × TS × (Option Nat) × Nat × (List Value)) (fun ⟨j, out, u, o, cc, sp⟩ => [(0, true, .pointer (some ⟨b, 0, none⟩)), (2, true, .pointer none), (1, true, .int .i64 j), (7, true, .slice (oa o) out.length cc)]) (fun ⟨j, out, u, o, cc, sp⟩ => rowL o 96 (flat encR out sp) ++ QdH b s u) (fun ⟨j, out, u, o, cc, sp⟩ => j ≤ 65535 ∧ OwnOk o cc 7 out.length sp.length ∧ lpM (dRec s) 32 j.toNat out u = (lpM (dRec s) 32 k.toNat [] t) ∧ out.length ≤ 33) (fun ⟨j, out, u, o, cc, sp⟩ => j.toNat) (k, [], t, none, 0, []) ?_ ?_
  · exact ⟨hk, OwnOk.nil, rfl, by simp⟩
  rintro ⟨j, out, u, o, cc, sp⟩ hI
  try dsimp only at hI ⊢
  obtain ⟨h1, ok9, hr, hl⟩ := hI
  have nk9 := ok9.nk (α := RR) (xs := out)
  refine CW.seq ?_
  refine CW.seq ?_
  refine CW.region ?_
  refine W.p O.mv ?_
  refine W.p O.gtr ?_
  refine W.p O.mv ?_
  refine W.p O.mv ?_
  refine W.p O.nc ?_
  first | refine W.p O.fb ?_ | refine W.p O.fa ?_
  first | refine W.p O.fb ?_ | refine W.p O.fa ?_
  refine W.p O.ld ?_
  refine W.p O.nt ?_
  refine W.p O.pkB ?_
  refine W.p O.mv ?_
  refine W.p O.mv ?_
  refine W.p O.lenL ?_
  refine W.p O.leq ?_
  refine W.p O.pkB ?_
  refine WL.nil (Q.tn ?_)
  refine CW.cond (vt rfl) (fun hc1 => ?_) (fun hc1 => ?_)
  · try simp only [sk] at hc1
    refine CW.skip (Q.tn ?_)
    refine CW.seq ?_
    refine CW.block ?_
    refine CW.seq ?_
    refine CW.seq ?_
    refine CW.region ?_
    refine W.p O.mv ?_
    refine W.p (O.neP ⟨rfl, rfl⟩ (vt rfl) (vt rfl) (by decide) (fun _ => by first | exact .inr (.inl rfl) | exact .inl rfl | exact .inr (.inr rfl) | (simp_all; done))) ?_
    refine WL.nil (Q.tn ?_)
    refine CW.cond (vt rfl) (fun hc2 => ?_) (fun hc2 => ?_)
    · exact absurd hc2 (by simp)
    try simp only [sk] at hc2
    refine CW.skip (Q.tn ?_)
    refine CW.region ?_
    refine W.p O.mv ?_
    refine W.p O.mv ?_
    refine W.callS (first := []) (cap := []) (QdH b s u) rfl (vt rfl) (AV.cons (vt rfl) (AV.nil)) (fun w hu hh => rd_rec w hh hs) ?_; rintro _ _ ⟨rfl, rfl⟩
    refine W.bs encR [(dRec s u).1] rfl (PV.cons (vt rfl) (PV.nil)) rfl rfl rfl (by decide) rfl fun b1 => ?_
    refine W.ap rfl (vt rfl) (vt rfl) (by first | rfl | omega) (by first | rfl | omega) rfl (by first | assumption | exact OwnOk.nil | exact OwnOk.lit) (by first | omega | (simp; omega)) fun o1 c1 sp1 ok1 ne1 gt1 => ?_
    have nk1 := ok1.nk; have le1 := ok1.2.2.1; try simp only [List.length_append, List.length_cons, List.length_nil] at le1
    refine W.p O.as ?_
    refine WL.nil (Q.bn (Q.tn ?_))
    refine CW.region ?_
    refine W.p O.mv ?_
    first | refine W.p O.subN ?_ | refine W.p O.sub ?_
    refine W.p O.as ?_
    refine WL.nil (Q.tn ?_)
    refine nextA (j - 1, out ++ [(dRec s u).1], (dRec s u).2, _, _, _) ?_ ?_
    · try dsimp only
      refine ⟨by omega, by assumption, ?_, by simp only [List.length_append, List.length_cons, List.length_nil]; omega⟩
      rw [← hr, lp_step hc1.1.1 hc1.1.2 (by omega)]
    · try dsimp only
      omega
  try simp only [sk] at hc1
  refine CW.exit (Q.te (Q.te (Q.bx (Q.tn ?_))))
  refine CW.seq ?_
  refine CW.region ?_
  refine W.p O.mv ?_
  refine W.p O.as ?_
  refine WL.nil (Q.tn ?_)
  refine CW.ret ?_
  refine ⟨_, rowL o 96 (flat encR out sp) ++ QdH b s u, (RVs.tmp rfl RVs.nil), (by repeat (first | exact List.Sublist.refl _ | exact hSub _ | exact List.sublist_append_left _ _ | exact List.nil_sublist _ | refine List.Sublist.append (List.Sublist.refl _) ?_ | apply List.Sublist.cons_cons | apply List.Sublist.cons | exact List.sublist_append_left _ _ | refine List.Sublist.trans ?_ (List.sublist_append_right _ _))), ?_⟩
  have e : (lpM (dRec s) 32 k.toNat [] t) = (out, u) := by rw [← hr]; exact lp_stop (by rcases hc1 with (h | h) | h; exact .inl (by omega); exact .inr (.inl (by simpa using h)); exact .inr (.inr (by omega)))
  rw [e]; exact ⟨o, cc, sp, rfl, ok9, rfl⟩
theorem rd_recs {b : Nat} {s : List UInt8} {t : TS} (k : Int) (w : World) (hL : Holds (QdH b s t) w) (hs : s.length ≤ 140737488355328) (hk : k ≤ 65535) :
    Fn Try.prog 139 [.pointer (some ⟨b, 0, none⟩), .int .i64 k, .pointer none] w (QdH b s t) fun v L' => ∃ o c sp, v = .slice (oa o) (lpM (dRec s) 32 k.toNat [] t).1.length c ∧ OwnOk o c 7 (lpM (dRec s) 32 k.toNat [] t).1.length (List.length sp) ∧ L' = QdO b s (lpM (dRec s) 32 k.toNat [] t).2 :: rowL o 96 (flat encR (lpM (dRec s) 32 k.toNat [] t).1 sp) :=
  Fn.perm (rd_recs0 k w hL hs hk) fun v L ⟨o, c, sp, h1, h2, h3⟩ => ⟨_, h3 ▸ own_perm, o, c, sp, h1, h2, rfl⟩
theorem tOptC_no {s : List UInt8} {t : TS} (h : (tOptC IntKind.i64.wrap s t).2.1 = false) : (tOptC IntKind.i64.wrap s t).2.2 = t := by
  unfold tOptC at h ⊢
  dsimp only at h ⊢
  split at h
  · rename_i hc; rw [if_pos hc]
  · cases h
section
variable {s : List UInt8} {k z : Int} {out : List RR} {t : TS}
theorem adC_opt (h0 : 0 < k) (hb : t.bad = false) (hl : out.length ≤ 32) (hi : (tOptC IntKind.i64.wrap s t).2.1 = true) : adC IntKind.i64.wrap s k.toNat out z t = adC IntKind.i64.wrap s (k - 1).toNat out (tOptC IntKind.i64.wrap s t).1 ⟨(tOptC IntKind.i64.wrap s t).2.2.at_, bif (tOptC IntKind.i64.wrap s t).2.2.bad then true else !decide (z = 0)⟩ := by
  rw [show k.toNat = (k - 1).toNat + 1 by omega, adC, if_neg (by rintro (h | h); rw [hb] at h; cases h; omega), if_pos hi]
theorem adC_rec (h0 : 0 < k) (hb : t.bad = false) (hl : out.length ≤ 32) (hi : (tOptC IntKind.i64.wrap s t).2.1 = false) : adC IntKind.i64.wrap s k.toNat out z t = adC IntKind.i64.wrap s (k - 1).toNat (out ++ [(dRec s t).1]) z (dRec s t).2 := by
  rw [show k.toNat = (k - 1).toNat + 1 by omega, adC, if_neg (by rintro (h | h); rw [hb] at h; cases h; omega), if_neg (by rw [hi]; decide)]
theorem adC_end (h : k ≤ 0 ∨ t.bad = true ∨ 32 < out.length) : adC IntKind.i64.wrap s k.toNat out z t = (out, z, t) := by
  rcases h with h | h
  · rw [show k.toNat = 0 by omega, adC]
  · exact adC_stop h
end
abbrev szD (m : Dn) (z : Int) : Dn := ⟨m.id, m.resp, m.op, m.auth, m.trunc, m.recu, m.code, m.qs, m.an, m.se, m.ad, z⟩
abbrev DnO (b : Nat) (m : Dn) (q a s d : Sl) : Nat × Obj := (b, .cells (encDn m q a s d).toArray 111 (0, 0))
set_option maxRecDepth 100000 in
theorem rd_recsZ0 {b bm : Nat} {s : List UInt8} {t : TS} {m : Dn} {q a e d : Sl} (k : Int) (w : World) (hL : Holds (DnO bm m q a e d :: QdH b s t) w) (hs : s.length ≤ 140737488355328) (hk : k ≤ 65535) :
    Fn Try.prog 139 [.pointer (some ⟨b, 0, none⟩), .int .i64 k, .pointer (some ⟨bm, 11, none⟩)] w (DnO bm m q a e d :: QdH b s t) fun v L' => ∃ o c sp, v = .slice (oa o) (adC IntKind.i64.wrap s k.toNat [] m.size t).1.length c ∧ OwnOk o c 7 (adC IntKind.i64.wrap s k.toNat [] m.size t).1.length (List.length sp) ∧ L' = rowL o 96 (flat encR (adC IntKind.i64.wrap s k.toNat [] m.size t).1 sp) ++ (DnO bm (szD m (adC IntKind.i64.wrap s k.toNat [] m.size t).2.1) q a e d :: QdH b s (adC IntKind.i64.wrap s k.toNat [] m.size t).2.2) := by
  refine Fn.enter Try.func139 rfl rfl rfl rfl hL ?_
  refine CW.seq ?_
  refine CW.region ?_
  refine W.p O.as ?_
  refine WL.nil (Q.tn ?_)
  refine CW.seq ?_
  refine CW.region ?_
  refine W.p O.as ?_
  refine WL.nil (Q.tn ?_)
  refine CW.seq ?_
  refine CW.block ?_
  refine CW.loopA (X := Int × (List RR) × Int × TS × (Option Nat) × Nat × (List Value)) (fun ⟨j, out, z, u, o, cc, sp⟩ => [(0, true, .pointer (some ⟨b, 0, none⟩)), (2, true, .pointer (some ⟨bm, 11, none⟩)), (1, true, .int .i64 j), (7, true, .slice (oa o) out.length cc)]) (fun ⟨j, out, z, u, o, cc, sp⟩ => rowL o 96 (flat encR out sp) ++ (DnO bm (szD m z) q a e d :: QdH b s u)) (fun ⟨j, out, z, u, o, cc, sp⟩ => j ≤ 65535 ∧ OwnOk o cc 7 out.length sp.length ∧ adC IntKind.i64.wrap s j.toNat out z u = (adC IntKind.i64.wrap s k.toNat [] m.size t) ∧ out.length ≤ 33) (fun ⟨j, out, z, u, o, cc, sp⟩ => j.toNat) (k, [], m.size, t, none, 0, []) ?_ ?_
  · exact ⟨hk, OwnOk.nil, rfl, by simp⟩
  rintro ⟨j, out, z, u, o, cc, sp⟩ hI
  try dsimp only at hI ⊢
  obtain ⟨h1, ok9, hr, hl⟩ := hI
  have nk9 := ok9.nk (α := RR) (xs := out)
  refine CW.seq ?_
  refine CW.seq ?_
  refine CW.region ?_
  refine W.p O.mv ?_
  refine W.p O.gtr ?_
  refine W.p O.mv ?_
  refine W.p O.mv ?_
  refine W.p O.nc ?_
  first | refine W.p O.fb ?_ | refine W.p O.fa ?_
  first | refine W.p O.fb ?_ | refine W.p O.fa ?_
  refine W.p O.ld ?_
  refine W.p O.nt ?_
  refine W.p O.pkB ?_
  refine W.p O.mv ?_
  refine W.p O.mv ?_
  refine W.p O.lenL ?_
  refine W.p O.leq ?_
  refine W.p O.pkB ?_
  refine WL.nil (Q.tn ?_)
  refine CW.cond (vt rfl) (fun hc1 => ?_) (fun hc1 => ?_)
  · try simp only [sk] at hc1
    refine CW.skip (Q.tn ?_)
    refine CW.seq ?_
    refine CW.block ?_
    refine CW.seq ?_
    refine CW.seq ?_
    refine CW.region ?_
    refine W.p O.mv ?_
    refine W.p (O.neP ⟨rfl, rfl⟩ (vt rfl) (vt rfl) (by decide) (fun _ => by first | exact .inr (.inl rfl) | exact .inl rfl | exact .inr (.inr rfl) | (simp_all; done))) ?_
    refine WL.nil (Q.tn ?_)
    refine CW.cond (vt rfl) (fun hc2 => ?_) (fun hc2 => ?_)
    · try simp only [sk] at hc2
      refine CW.seq ?_
      refine CW.region ?_
      refine W.p O.mv ?_
      refine W.callS (first := []) (cap := []) (QdH b s u) rfl (vt rfl) (AV.cons (vt rfl) (AV.nil)) (fun w hu hh => rd_opt w hh hs) ?_; rintro _ _ ⟨rfl, rfl⟩
      refine W.p O.mv ?_
      first | refine W.p O.extL ?_ | refine W.p O.ext ?_
      first | refine W.p O.extL ?_ | refine W.p O.ext ?_
      refine W.p O.as ?_
      refine W.p O.as ?_
      refine WL.nil (Q.tn ?_)
      refine CW.seq ?_
      refine CW.region ?_
      refine W.p O.mv ?_
      refine WL.nil (Q.tn ?_)
      refine CW.cond (vt rfl) (fun hc3 => ?_) (fun hc3 => ?_)
      · try simp only [sk] at hc3
        refine CW.seq ?_
        refine CW.region ?_
        refine W.p O.mv ?_
        refine W.p O.mv ?_
        refine W.p O.nc ?_
        first | refine W.p O.fb ?_ | refine W.p O.fa ?_
        first | refine W.p O.fb ?_ | refine W.p O.fa ?_
        refine W.p O.ld ?_
        refine W.p O.mv ?_
        refine W.p O.mv ?_
        refine W.p O.nc ?_
        refine W.p O.ld ?_
        refine W.p O.neI ?_
        refine W.p O.pkB ?_
        refine W.p O.nc ?_
        first | refine W.p O.fb ?_ | refine W.p O.fa ?_
        first | refine W.p O.fb ?_ | refine W.p O.fa ?_
        refine W.st (vt rfl) (vt rfl) rfl ?_
        refine WL.nil (Q.tn ?_)
        refine CW.seq ?_
        refine CW.region ?_
        refine W.p O.mv ?_
        refine W.p O.mv ?_
        refine W.p O.nc ?_
        first | refine W.st (vt rfl) (vt rfl) rfl ?_ | refine W.st (u := .int _ _) (vt rfl) (vt rfl) rfl ?_
        refine WL.nil (Q.tn ?_)
        refine CW.exit (Q.te (Q.bx (Q.tn ?_)))
        refine CW.region ?_
        refine W.p O.mv ?_
        first | refine W.p O.subN ?_ | refine W.p O.sub ?_
        refine W.p O.as ?_
        refine WL.nil (Q.tn ?_)
        refine nextA (j - 1, out, (tOptC IntKind.i64.wrap s u).1, ⟨(tOptC IntKind.i64.wrap s u).2.2.at_, bif (tOptC IntKind.i64.wrap s u).2.2.bad then true else !decide (z = 0)⟩, o, cc, sp) ?_ ?_
        · try dsimp only
          refine ⟨by omega, ok9, ?_, by omega⟩
          rw [← hr, adC_opt hc1.1.1 hc1.1.2 (by omega) hc3]
        · try dsimp only
          omega
      try simp only [sk] at hc3
      rw [tOptC_no hc3]
      refine CW.skip (Q.tn ?_)
      refine CW.region ?_
      refine W.p O.mv ?_
      refine W.p O.mv ?_
      refine W.callS (first := []) (cap := []) (QdH b s u) rfl (vt rfl) (AV.cons (vt rfl) (AV.nil)) (fun w hu hh => rd_rec w hh hs) ?_; rintro _ _ ⟨rfl, rfl⟩
      refine W.bs encR [(dRec s u).1] rfl (PV.cons (vt rfl) (PV.nil)) rfl rfl rfl (by decide) rfl fun b1 => ?_
      refine W.ap rfl (vt rfl) (vt rfl) (by first | rfl | omega) (by first | rfl | omega) rfl (by first | assumption | exact OwnOk.nil | exact OwnOk.lit) (by first | omega | (simp; omega)) fun o1 c1 sp1 ok1 ne1 gt1 => ?_
      have nk1 := ok1.nk; have le1 := ok1.2.2.1; try simp only [List.length_append, List.length_cons, List.length_nil] at le1
      refine W.p O.as ?_
      refine WL.nil (Q.bn (Q.tn ?_))
      refine CW.region ?_
      refine W.p O.mv ?_
      first | refine W.p O.subN ?_ | refine W.p O.sub ?_
      refine W.p O.as ?_
      refine WL.nil (Q.tn ?_)
      refine nextA (j - 1, out ++ [(dRec s u).1], z, (dRec s u).2, _, _, _) ?_ ?_
      · try dsimp only
        refine ⟨by omega, by assumption, ?_, by simp only [List.length_append, List.length_cons, List.length_nil]; omega⟩
        rw [← hr, adC_rec hc1.1.1 hc1.1.2 (by omega) hc3]
      · try dsimp only
        omega
    exact absurd hc2 (by simp)
  try simp only [sk] at hc1
  refine CW.exit (Q.te (Q.te (Q.bx (Q.tn ?_))))
  refine CW.seq ?_
  refine CW.region ?_
  refine W.p O.mv ?_
  refine W.p O.as ?_
  refine WL.nil (Q.tn ?_)
  refine CW.ret ?_
  refine ⟨_, rowL o 96 (flat encR out sp) ++ (DnO bm (szD m z) q a e d :: QdH b s u), (RVs.tmp rfl RVs.nil), (by repeat (first | exact List.Sublist.refl _ | exact hSub _ | exact List.sublist_append_left _ _ | exact List.nil_sublist _ | refine List.Sublist.append (List.Sublist.refl _) ?_ | apply List.Sublist.cons_cons | apply List.Sublist.cons | exact List.sublist_append_left _ _ | refine List.Sublist.trans ?_ (List.sublist_append_right _ _))), ?_⟩
  have e : (adC IntKind.i64.wrap s k.toNat [] m.size t) = (out, z, u) := by rw [← hr]; exact adC_end (by rcases hc1 with (h | h) | h; exact .inl (by omega); exact .inr (.inl (by simpa using h)); exact .inr (.inr (by omega)))
  rw [e]; exact ⟨o, cc, sp, rfl, ok9, rfl⟩
theorem rd_recsZ {b bm : Nat} {s : List UInt8} {t : TS} {m : Dn} {q a e d : Sl} (k : Int) (w : World) (hL : Holds (DnO bm m q a e d :: QdH b s t) w) (hs : s.length ≤ 140737488355328) (hk : k ≤ 65535) :
    Fn Try.prog 139 [.pointer (some ⟨b, 0, none⟩), .int .i64 k, .pointer (some ⟨bm, 11, none⟩)] w (DnO bm m q a e d :: QdH b s t) fun v L' => ∃ o c sp, v = .slice (oa o) (adC IntKind.i64.wrap s k.toNat [] m.size t).1.length c ∧ OwnOk o c 7 (adC IntKind.i64.wrap s k.toNat [] m.size t).1.length (List.length sp) ∧ L' = DnO bm (szD m (adC IntKind.i64.wrap s k.toNat [] m.size t).2.1) q a e d :: (QdO b s (adC IntKind.i64.wrap s k.toNat [] m.size t).2.2 :: rowL o 96 (flat encR (adC IntKind.i64.wrap s k.toNat [] m.size t).1 sp)) :=
  Fn.perm (rd_recsZ0 k w hL hs hk) fun v L ⟨o, c, sp, h1, h2, h3⟩ => ⟨_, h3 ▸ (List.perm_append_comm (l₂ := [_, _])), o, c, sp, h1, h2, rfl⟩
end Go.Proofs.Ytkjcmdgideddnaa
