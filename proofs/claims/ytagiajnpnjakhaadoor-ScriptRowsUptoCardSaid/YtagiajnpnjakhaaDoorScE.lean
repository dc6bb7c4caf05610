/- What script.Parse comes to. Conditions: the text is not longer than a million; the library's table of powers of ten is as its text lays it, its two variables for errors hold errors. -/
import Derived.Test.YtagiajnpnjakhaaDoorScD
set_option linter.unusedVariables false
set_option linter.unusedSimpArgs false
namespace Go.Proofs.YtagiajnpnjakhaaDoor
open Go Go.RowKit
theorem read_len (s : List UInt8) : (readP s).1.text.length ≤ s.length := by
  have hcl := cut_len2 58 (s.drop 1)
  rw [List.length_drop] at hcl
  unfold readP
  dsimp only
  split
  · simp [dAc]
  · split
    · simp [dAc]
    · dsimp only; rw [List.length_take]; omega
def PRes (s : List UInt8) (v : Value) (L' : Heap) : Prop := ∃ o c' sp, v = .tuple #[.slice (oa o) (parseP s).1.length c', .int .i64 (parseP s).2] ∧ OwnOk o c' 5 (parseP s).1.length (List.length sp) ∧ L' = rowL o 73 (flat encA (parseP s).1 sp)
set_option maxRecDepth 100000 in
theorem sc_Parse (s : List UInt8) (w : World) (hn : s.length ≤ 1048576) (ht : Tab10 w) (he : ErrV w) : Fn Tryd.prog 33 [.string (S s)] w [] (PRes s) := by
  refine Fn.enter Tryd.func33 rfl rfl rfl rfl (Holds.nil w) ?_
  refine CW.seq ?_
  refine CW.region ?_
  refine W.p O.as ?_
  refine W.p O.as ?_
  refine WL.nil (Q.tn ?_)
  refine CW.seq ?_
  refine CW.region ?_
  refine W.p O.as ?_
  refine WL.nil (Q.tn ?_)
  refine CW.seq ?_
  refine CW.seq ?_
  refine CW.region ?_
  refine W.p O.mv ?_
  refine W.p O.as ?_
  refine WL.nil (Q.tn ?_)
  refine CW.block ?_
  refine CW.loopA (X := (List Ac) × (List UInt8) × (Option Nat) × Nat × (List Value)) (fun ⟨out, left, o, ca, sp⟩ => [(4, true, .slice (oa o) out.length ca), (5, true, .string (S left))]) (fun ⟨out, left, o, ca, sp⟩ => rowL o 73 (flat encA out sp)) (fun ⟨out, left, o, ca, sp⟩ => left.length ≤ s.length ∧ OwnOk o ca 5 out.length sp.length ∧ PrsI s out left) (fun ⟨out, left, o, ca, sp⟩ => left.length) ([], s, none, 0, []) ?_ ?_
  · exact ⟨by omega, OwnOk.nil, ⟨rfl, by simp, by simp [shows]⟩⟩
  rintro ⟨out, left, o, ca, sp⟩ hI
  try dsimp only at hI ⊢
  obtain ⟨h0, hok, hI⟩ := hI
  have nk := hok.nk
  have hol := hI.ln
  refine CW.seq ?_
  refine CW.seq ?_
  refine CW.region ?_
  refine W.p O.mv ?_
  refine W.p O.neS ?_
  refine WL.nil (Q.tn ?_)
  refine CW.cond (vt rfl) (fun hc1 => ?_) (fun hc1 => ?_)
  · try simp only [sk] at hc1
    have hne : 1 ≤ left.length := by cases left with | nil => exact absurd rfl hc1 | cons _ _ => simp
    have hrl := read_len left
    refine CW.skip (Q.tn ?_)
    refine CW.block ?_
    refine CW.seq ?_
    refine CW.region ?_
    refine W.p O.mv ?_
    refine W.q (O.call ⟨rfl, rfl⟩ (AV.cons (vt rfl) (AV.nil)) (fun _ w hw => sc_read left w (by omega) (by omega) (ht.upd hw) (he.upd hw))) ?_
    refine W.p O.mv ?_
    first | refine W.p O.extL ?_ | refine W.p O.ext ?_
    first | refine W.p O.extL ?_ | refine W.p O.ext ?_
    first | refine W.p O.extL ?_ | refine W.p O.ext ?_
    refine W.al rfl rfl fun b1 => ?_
    refine W.st (vt rfl) (vt rfl) rfl ?_
    refine W.p O.as ?_
    refine W.p O.as ?_
    refine WL.nil (Q.tn ?_)
    refine CW.seq ?_
    refine CW.seq ?_
    refine CW.region ?_
    refine W.p O.mv ?_
    refine W.p O.nt ?_
    refine W.p O.mv ?_
    refine W.p O.lds ?_
    refine W.q (O.call ⟨rfl, rfl⟩ (AV.cons (vs rfl) (AV.nil)) (fun _ w hw => sc_May _ w (by omega))) ?_
    refine W.p O.nt ?_
    refine W.p O.pkB ?_
    refine W.p O.mv ?_
    refine W.p O.mv ?_
    refine W.p O.lenL ?_
    refine W.p O.eqI ?_
    refine W.p O.pkB ?_
    refine WL.nil (Q.tn ?_)
    refine CW.cond (vt rfl) (fun hc2 => ?_) (fun hc2 => ?_)
    · try simp only [sk] at hc2
      refine CW.seq ?_
      refine CW.region ?_
      refine W.p O.as ?_
      refine W.p O.as ?_
      refine WL.nil (Q.tn ?_)
      refine CW.ret (Q.tr (Q.br (Q.tr (Q.br (Q.tr ?_)))))
      refine ⟨_, [], (RVs.tmp rfl (RVs.tmp rfl RVs.nil)), List.nil_sublist _, ?_⟩
      have hno := hI.bad hc1 (by rcases hc2 with (h | h) | h; (exact .inl h); (exact .inr (.inl h)); (exact .inr (.inr (by omega))))
      rw [PRes, hno]; exact ⟨none, 0, [], rfl, OwnOk.nil, rfl⟩
    try simp only [sk] at hc2
    have hst := hI.step hc2.1.1 hc2.1.2 (by omega)
    refine CW.skip (Q.tn ?_)
    refine CW.region ?_
    refine W.p O.mv ?_
    refine W.p O.lds ?_
    refine W.bs encA [⟨_, _, _, _, _⟩] rfl (PV.cons (vt rfl) (PV.nil)) rfl rfl rfl (by decide) rfl fun b2 => ?_
    refine W.ap rfl (vt rfl) (vt rfl) (by first | rfl | omega) (by first | rfl | omega) rfl (by first | assumption | exact OwnOk.nil | exact OwnOk.lit) (by first | omega | (simp; omega)) fun o1 c1 sp1 ok1 ne1 gt1 => ?_
    have nk1 := ok1.nk; have le1 := ok1.2.2.1; try simp only [List.length_append, List.length_cons, List.length_nil] at le1
    refine W.p O.mv ?_
    refine W.p O.as ?_
    refine W.p O.as ?_
    refine WL.nil (Q.bn (Q.tn ?_))
    refine nextA (out ++ [(readP left).1], (readP left).2.1, _, _, _) ?_ ?_
    · try dsimp only
      exact ⟨by omega, by assumption, hst.1⟩
    · try dsimp only
      exact hst.2
  try simp only [sk] at hc1
  refine CW.exit (Q.te (Q.te (Q.bx (Q.tn ?_))))
  refine CW.seq ?_
  refine CW.region ?_
  refine W.p O.mv ?_
  refine W.p O.as ?_
  refine W.p O.as ?_
  refine WL.nil (Q.tn ?_)
  refine CW.ret ?_
  refine ⟨_, rowL o 73 (flat encA out sp), (RVs.tmp rfl (RVs.tmp rfl RVs.nil)), (by repeat (first | exact List.Sublist.refl _ | exact hSub _ | exact List.sublist_append_left _ _ | exact List.nil_sublist _ | refine List.Sublist.append (List.Sublist.refl _) ?_ | apply List.Sublist.cons_cons | apply List.Sublist.cons | exact List.sublist_append_left _ _ | refine List.Sublist.trans ?_ (List.sublist_append_right _ _))), ?_⟩
  have hq : left = [] := by simpa using hc1
  subst hq
  rw [PRes, hI.end]; exact ⟨o, ca, sp, rfl, hok, rfl⟩
end Go.Proofs.YtagiajnpnjakhaaDoor
