/- The row of the statement Rrs, in its narrower form: what comes in is of bulk at most 1048576. No condition beyond the row's own. -/
import Derived.Test.YtkjcmdgideddnaaL4
import Derived.Test.YtkjcmdgideddnaaIo
import Derived.WalkKit
import Derived.OpenShut
namespace Go.Proofs.Ytkjcmdgideddnaa.RowRrs
open Go Go.ChangeShapes Go.WideShapes Go.ChangeAt Go.RowKit Go.Deep
open Go.ChangeMaps (open_string shut_string)
set_option linter.unusedVariables false
def dec66 {H : Type} (x : Kn) : DataW H := .agg [.lit (.string x.name), .lit (.int .i64 x.pos)]
theorem el66 {H : Type} {enc : TypeId × Value → H} {w : World} {base : Nat} {spare : Nat → Bool} {held : Bool} (n : Nat) (cs : List Value) (y : DataW H) (q : List MemPlace) (hl : cs.length = 2) (h : DataW.trod enc Try.prog w base spare held n 66 cs = some (y, q)) : ∃ x : Kn, cs = encK x ∧ y = dec66 x ∧ True := by
  obtain ⟨ys, n2, rfl, hm, hf⟩ := el_struct Try.underlying66 (by kernel_rfl) (show cs.length = 2 from hl) h
  obtain ⟨c0, c1, rfl⟩ := len2 hl
  obtain ⟨y0, y1, rfl⟩ := len2 (show ys.length = 2 from hm)
  obtain ⟨_, _, e1, e2, g0⟩ := hf 0 _ rfl
  cases e1; cases e2
  obtain ⟨a0, e1, e2, z0⟩ := DataW.trod_string Try.underlying9 g0
  cases e1; cases e2
  obtain ⟨_, _, e1, e2, g1⟩ := hf 1 _ rfl
  cases e1; cases e2
  obtain ⟨a1, e1, e2, z1⟩ := DataW.trod_int Try.underlying3 g1
  cases e1; cases e2
  exact ⟨⟨a0.data.toList, a1⟩, rfl, rfl, trivial⟩
theorem own : ownKnob Try.prog.godebug = none := by kernel_rfl
theorem laidOut : laidOutB Try.prog = true := by kernel_rfl
set_option maxRecDepth 100000 in
set_option maxHeartbeats 4000000 in
theorem lifted (os : Os) (started : os.Started) (H : Type) (enc : TypeId × Value → H) (F : Stop.Interp) :
    ReturnsInHanded {} Try.checked os 24 .any ((Rows.OpenSpec.upto Rows.rrsSpec).pre6 enc Try.prog Try.f24 Rows.rrsUptoRow.domain false) (((Rows.OpenSpec.upto Rows.rrsSpec).at F).post enc Try.prog Try.f24 false true false false) := by
  refine returnsInHanded_of_cond (C := Try.checked) (s := Rows.OpenSpec.upto Rows.rrsSpec) (k := Rows.uptoSmall) rfl own started (by kernel_rfl) Try.func24
    (OpenSpec.witness (enc := enc) (C := Try.checked) (s := Rows.OpenSpec.upto Rows.rrsSpec) (k := Rows.uptoSmall) rfl false ⟨#[], #[.int .i64 0, .slice none 0 0, .agg #[.string (S []), .int .i64 0, .int .i64 0, .int .i64 0, .string (S []), .string (S []), .int .i64 0], .string (S [])], []⟩ 8 (by kernel_rfl) (by kernel_rfl) (by kernel_rfl)
      (x := ([.lit (.int .i64 0), .nil, .agg [.lit (.string []), .lit (.int .i64 0), .lit (.int .i64 0), .lit (.int .i64 0), .lit (.string []), .lit (.string []), .lit (.int .i64 0)], .lit (.string [])], [], [])) (by kernel_rfl) rfl (by kernel_rfl)) ?_
  intro W base args ds gs before hval0 hW _ hk _
  have hval : ∀ (j : Nat) t v, Try.f24.params[j]? = some t → args[j]? = some v → Value.okWide Try.prog W .any base t v := hval0
  have hW' := hW
  obtain ⟨p, q, hA0, hV, rfl, hfz, hnd⟩ := hW
  have hA : DataW.TrodAll enc Try.prog W 0 (fun _ => true) true Try.f24.params.toList args.toList ds p := hA0
  rw [Try.params24] at hA hval
  obtain ⟨v0, vs0, d0, ds0, p0, q0, hargs, rfl, rfl, h0, r0⟩ := trodAll_cons hA
  obtain ⟨v1, vs1, d1, ds1, p1, q1, rfl, rfl, rfl, h1, r1⟩ := trodAll_cons r0
  obtain ⟨v2, vs2, d2, ds2, p2, q2, rfl, rfl, rfl, h2, r2⟩ := trodAll_cons r1
  obtain ⟨v3, vs3, d3, ds3, p3, q3, rfl, rfl, rfl, h3, r3⟩ := trodAll_cons r2
  obtain ⟨rfl, rfl, rfl⟩ := trodAll_nil r3
  obtain rfl : args = #[v0, v1, v2, v3] := by cases args; simp_all
  obtain ⟨rfl, rfl⟩ := trodVars_none hV
  have hb := bulk_all hk
  have b0 : Rows.uptoBulk d0 ≤ 1048576 := Nat.le_trans (bulk_part (by simp)) hb
  have b1 : Rows.uptoBulk d1 ≤ 1048576 := Nat.le_trans (bulk_part (by simp)) hb
  have b2 : Rows.uptoBulk d2 ≤ 1048576 := Nat.le_trans (bulk_part (by simp)) hb
  have b3 : Rows.uptoBulk d3 ≤ 1048576 := Nat.le_trans (bulk_part (by simp)) hb
  clear hb
  have k0 := h0
  have lt0 : ∀ x ∈ p0, x.block < W.heap.size := by obtain ⟨m, hm⟩ := k0; exact DataW.trod_lt m _ _ _ hm
  obtain ⟨a0, rfl, rfl, rfl, w0⟩ := open_int Try.underlying3 (hval 0 3 v0 rfl rfl) h0
  have k1 := h1
  have lt1 : ∀ x ∈ p1, x.block < W.heap.size := by obtain ⟨m, hm⟩ := k1; exact DataW.trod_lt m _ _ _ hm
  obtain ⟨a1, c1, x1, rfl, i1, y1, D1, m1⟩ := open_rows (ec := encK) (dec := dec66) (φ := fun _ => True) (m := 2) Try.underlying51 (fun _ => rfl) (by decide) (by kernel_rfl) el66 (hval 1 51 v1 rfl rfl) h1
  obtain ⟨s1, t1, u1⟩ := bulk_rows D1
  replace s1 := Nat.le_trans s1 b1
  replace t1 := fun x hx => Nat.le_trans (t1 x hx) b1
  replace u1 := Nat.le_trans u1 b1
  have n1_0 : ∀ x ∈ x1, x.name.length ≤ 1048576 := fun x hx => by have h := t1 x hx; simp only [dec66, Rows.uptoBulk, Rows.uptoBulkAll, List.map_cons, List.map_nil] at h; omega
  have k2 := h2
  have lt2 : ∀ x ∈ p2, x.block < W.heap.size := by obtain ⟨m, hm⟩ := k2; exact DataW.trod_lt m _ _ _ hm
  obtain ⟨cs2, ys2, n2, rfl, hl2, rfl, hm2, hf2⟩ := open_struct Try.underlying96 (by kernel_rfl) (by kernel_rfl) (hval 2 96 v2 rfl rfl) h2
  obtain ⟨c2_0, c2_1, c2_2, c2_3, c2_4, c2_5, c2_6, rfl⟩ := len7 (show cs2.length = 7 from hl2)
  obtain ⟨y2_0, y2_1, y2_2, y2_3, y2_4, y2_5, y2_6, rfl⟩ := len7 (show ys2.length = 7 from hm2)
  obtain ⟨_, _, e1, e2, g2_0⟩ := hf2 0 _ rfl
  cases e1; cases e2
  obtain ⟨a2_0, e1, e2, z2_0⟩ := DataW.trod_string Try.underlying9 g2_0
  cases e1; cases e2; clear g2_0
  obtain ⟨_, _, e1, e2, g2_1⟩ := hf2 1 _ rfl
  cases e1; cases e2
  obtain ⟨a2_1, e1, e2, z2_1⟩ := DataW.trod_int Try.underlying3 g2_1
  cases e1; cases e2; clear g2_1
  obtain ⟨_, _, e1, e2, g2_2⟩ := hf2 2 _ rfl
  cases e1; cases e2
  obtain ⟨a2_2, e1, e2, z2_2⟩ := DataW.trod_int Try.underlying3 g2_2
  cases e1; cases e2; clear g2_2
  obtain ⟨_, _, e1, e2, g2_3⟩ := hf2 3 _ rfl
  cases e1; cases e2
  obtain ⟨a2_3, e1, e2, z2_3⟩ := DataW.trod_int Try.underlying3 g2_3
  cases e1; cases e2; clear g2_3
  obtain ⟨_, _, e1, e2, g2_4⟩ := hf2 4 _ rfl
  cases e1; cases e2
  obtain ⟨a2_4, e1, e2, z2_4⟩ := DataW.trod_string Try.underlying9 g2_4
  cases e1; cases e2; clear g2_4
  obtain ⟨_, _, e1, e2, g2_5⟩ := hf2 5 _ rfl
  cases e1; cases e2
  obtain ⟨a2_5, e1, e2, z2_5⟩ := DataW.trod_string Try.underlying9 g2_5
  cases e1; cases e2; clear g2_5
  obtain ⟨_, _, e1, e2, g2_6⟩ := hf2 6 _ rfl
  cases e1; cases e2
  obtain ⟨a2_6, e1, e2, z2_6⟩ := DataW.trod_int Try.underlying3 g2_6
  cases e1; cases e2; clear g2_6
  simp only [Rows.uptoBulk, Rows.uptoBulkAll, List.map_cons, List.map_nil] at b2
  have k3 := h3
  have lt3 : ∀ x ∈ p3, x.block < W.heap.size := by obtain ⟨m, hm⟩ := k3; exact DataW.trod_lt m _ _ _ hm
  obtain ⟨a3, rfl, rfl, rfl, y3⟩ := open_string Try.underlying9 (hval 3 9 v3 rfl rfl) h3
  rw [bulk_str] at b3
  have l3 : a3.data.toList.length ≤ 1048576 := by omega
  clear hA0 hval0
  refine (Fn.below (law4_Rrs a0 x1 a1 c1 ⟨a2_0.data.toList, a2_1, a2_2, a2_3, a2_4.data.toList, a2_5.data.toList, a2_6⟩ a3.data.toList W i1 (by have q := w0; simp only [Lit.wf, Bool.and_eq_true, decide_eq_true_eq] at q; exact q) s1 n1_0 (by dsimp only; omega) (by dsimp only; omega) l3)).mono fun e W' ⟨he, bel⟩ => ?_
  subst he
  exact ⟨_, rfl, _, _, _, [], _, [], hW', trodAll_mk1 (shut_bool Try.underlying4 _), (trodAll_cons_mk (Below.trod laidOut (by kernel_rfl) (of_decide_eq_true (by kernel_rfl)) k0 bel lt0) (trodAll_cons_mk (Below.trod laidOut (by kernel_rfl) (of_decide_eq_true (by kernel_rfl)) k1 bel lt1) (trodAll_cons_mk (Below.trod laidOut (by kernel_rfl) (of_decide_eq_true (by kernel_rfl)) k2 bel lt2) (trodAll_cons_mk (Below.trod laidOut (by kernel_rfl) (of_decide_eq_true (by kernel_rfl)) k3 bel lt3) trodAll_mk0)))), rfl, bel.frame _, fun h => by cases h⟩
set_option maxRecDepth 100000 in
theorem closed : joinedFacts Try.pinned.checked.prog 24 Try.f24 (Rows.OpenSpec.upto Rows.rrsSpec).bare Rows.rrsUptoRow = true := by
  show joinedFacts Try.prog 24 Try.f24 (Rows.OpenSpec.upto Rows.rrsSpec).bare Rows.rrsUptoRow = true
  unfold joinedFacts
  refine andI (andI (andI (andI (andI (andI (andI (andI (andI (andI (andI (andI (andI (andI (andI (andI (andI (andI (andI (andI (andI (andI (andI (andI (andI (andI (andI (andI (andI (andI (andI ?_ ?_) ?_) ?_) ?_) ?_) ?_) ?_) ?_) ?_) ?_) ?_) ?_) ?_) ?_) ?_) ?_) ?_) ?_) ?_) ?_) ?_) ?_) ?_) ?_) ?_) ?_) ?_) ?_) ?_) ?_) ?_
  · kernel_rfl
  · kernel_rfl
  · kernel_rfl
  · kernel_rfl
  · kernel_rfl
  · kernel_rfl
  · kernel_rfl
  · kernel_rfl
  · kernel_rfl
  · kernel_rfl
  · kernel_rfl
  · kernel_rfl
  · kernel_rfl
  · kernel_rfl
  · kernel_rfl
  · kernel_rfl
  · kernel_rfl
  · kernel_rfl
  · kernel_rfl
  · kernel_rfl
  · kernel_rfl
  · kernel_rfl
  · kernel_rfl
  · kernel_rfl
  · kernel_rfl
  · exact seat_enter
  · rw [seat_lifts]; rfl
  · rw [seat_make]; rfl
  · kernel_rfl
  · kernel_rfl
  · kernel_rfl
  · kernel_rfl
theorem over : Rows.RrsUptoSaid :=
  OpenClaim.holds_of_cond 24 Try.f24 rfl rfl rfl rfl rfl rfl rfl ⟨rfl, rfl, rfl, rfl, rfl⟩ rfl rfl rfl rfl rfl (by kernel_rfl) Try.func24 closed
    (of_decide_eq_true (by kernel_rfl)) (by unfold Func.isWrapper; first | (rw [if_pos (by decide +kernel)]; kernel_rfl) | (rw [if_neg (by decide +kernel)]; exact ⟨rfl, rfl⟩))
    (fun os started H enc _ F => lifted os started H enc F)
end Go.Proofs.Ytkjcmdgideddnaa.RowRrs
namespace Go.Proofs.Ytkjcmdgideddnaa
/-- The statement. -/
theorem rrsUpto_holds : Rows.RrsUptoSaid := RowRrs.over
#print axioms rrsUpto_holds
end Go.Proofs.Ytkjcmdgideddnaa
