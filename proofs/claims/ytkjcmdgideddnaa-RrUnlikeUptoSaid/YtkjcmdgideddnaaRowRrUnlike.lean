/- The row of the statement RrUnlike, in its narrower form: what comes in is of bulk at most 1048576. No condition beyond the row's own. -/
import Derived.Test.YtkjcmdgideddnaaL4
import Derived.Test.YtkjcmdgideddnaaIo
import Derived.WalkKit
import Derived.OpenShut
namespace Go.Proofs.Ytkjcmdgideddnaa.RowRrUnlike
open Go Go.ChangeShapes Go.WideShapes Go.ChangeAt Go.RowKit Go.Deep
open Go.ChangeMaps (open_string shut_string)
set_option linter.unusedVariables false
theorem own : ownKnob Try.prog.godebug = none := by kernel_rfl
theorem laidOut : laidOutB Try.prog = true := by kernel_rfl
set_option maxRecDepth 100000 in
set_option maxHeartbeats 4000000 in
theorem lifted (os : Os) (started : os.Started) (H : Type) (enc : TypeId × Value → H) (F : Stop.Interp) :
    ReturnsInHanded {} Try.checked os 28 .any ((Rows.OpenSpec.upto Rows.rrUnlikeSpec).pre6 enc Try.prog Try.f28 Rows.rrUnlikeUptoRow.domain false) (((Rows.OpenSpec.upto Rows.rrUnlikeSpec).at F).post enc Try.prog Try.f28 false true false false) := by
  refine returnsInHanded_of_cond (C := Try.checked) (s := Rows.OpenSpec.upto Rows.rrUnlikeSpec) (k := Rows.uptoSmall) rfl own started (by kernel_rfl) Try.func28
    (OpenSpec.witness (enc := enc) (C := Try.checked) (s := Rows.OpenSpec.upto Rows.rrUnlikeSpec) (k := Rows.uptoSmall) rfl false ⟨#[], #[.agg #[.string (S []), .int .i64 0, .int .i64 0, .int .i64 0, .string (S []), .string (S []), .int .i64 0], .agg #[.string (S []), .int .i64 0, .int .i64 0, .int .i64 0, .string (S []), .string (S []), .int .i64 0]], []⟩ 8 (by kernel_rfl) (by kernel_rfl) (by kernel_rfl)
      (x := ([.agg [.lit (.string []), .lit (.int .i64 0), .lit (.int .i64 0), .lit (.int .i64 0), .lit (.string []), .lit (.string []), .lit (.int .i64 0)], .agg [.lit (.string []), .lit (.int .i64 0), .lit (.int .i64 0), .lit (.int .i64 0), .lit (.string []), .lit (.string []), .lit (.int .i64 0)]], [], [])) (by kernel_rfl) rfl (by kernel_rfl)) ?_
  intro W base args ds gs before hval0 hW _ hk _
  have hval : ∀ (j : Nat) t v, Try.f28.params[j]? = some t → args[j]? = some v → Value.okWide Try.prog W .any base t v := hval0
  have hW' := hW
  obtain ⟨p, q, hA0, hV, rfl, hfz, hnd⟩ := hW
  have hA : DataW.TrodAll enc Try.prog W 0 (fun _ => true) true Try.f28.params.toList args.toList ds p := hA0
  rw [Try.params28] at hA hval
  obtain ⟨v0, vs0, d0, ds0, p0, q0, hargs, rfl, rfl, h0, r0⟩ := trodAll_cons hA
  obtain ⟨v1, vs1, d1, ds1, p1, q1, rfl, rfl, rfl, h1, r1⟩ := trodAll_cons r0
  obtain ⟨rfl, rfl, rfl⟩ := trodAll_nil r1
  obtain rfl : args = #[v0, v1] := by cases args; simp_all
  obtain ⟨rfl, rfl⟩ := trodVars_none hV
  have hb := bulk_all hk
  have b0 : Rows.uptoBulk d0 ≤ 1048576 := Nat.le_trans (bulk_part (by simp)) hb
  have b1 : Rows.uptoBulk d1 ≤ 1048576 := Nat.le_trans (bulk_part (by simp)) hb
  clear hb
  have k0 := h0
  have lt0 : ∀ x ∈ p0, x.block < W.heap.size := by obtain ⟨m, hm⟩ := k0; exact DataW.trod_lt m _ _ _ hm
  obtain ⟨cs0, ys0, n0, rfl, hl0, rfl, hm0, hf0⟩ := open_struct Try.underlying96 (by kernel_rfl) (by kernel_rfl) (hval 0 96 v0 rfl rfl) h0
  obtain ⟨c0_0, c0_1, c0_2, c0_3, c0_4, c0_5, c0_6, rfl⟩ := len7 (show cs0.length = 7 from hl0)
  obtain ⟨y0_0, y0_1, y0_2, y0_3, y0_4, y0_5, y0_6, rfl⟩ := len7 (show ys0.length = 7 from hm0)
  obtain ⟨_, _, e1, e2, g0_0⟩ := hf0 0 _ rfl
  cases e1; cases e2
  obtain ⟨a0_0, e1, e2, z0_0⟩ := DataW.trod_string Try.underlying9 g0_0
  cases e1; cases e2; clear g0_0
  obtain ⟨_, _, e1, e2, g0_1⟩ := hf0 1 _ rfl
  cases e1; cases e2
  obtain ⟨a0_1, e1, e2, z0_1⟩ := DataW.trod_int Try.underlying3 g0_1
  cases e1; cases e2; clear g0_1
  obtain ⟨_, _, e1, e2, g0_2⟩ := hf0 2 _ rfl
  cases e1; cases e2
  obtain ⟨a0_2, e1, e2, z0_2⟩ := DataW.trod_int Try.underlying3 g0_2
  cases e1; cases e2; clear g0_2
  obtain ⟨_, _, e1, e2, g0_3⟩ := hf0 3 _ rfl
  cases e1; cases e2
  obtain ⟨a0_3, e1, e2, z0_3⟩ := DataW.trod_int Try.underlying3 g0_3
  cases e1; cases e2; clear g0_3
  obtain ⟨_, _, e1, e2, g0_4⟩ := hf0 4 _ rfl
  cases e1; cases e2
  obtain ⟨a0_4, e1, e2, z0_4⟩ := DataW.trod_string Try.underlying9 g0_4
  cases e1; cases e2; clear g0_4
  obtain ⟨_, _, e1, e2, g0_5⟩ := hf0 5 _ rfl
  cases e1; cases e2
  obtain ⟨a0_5, e1, e2, z0_5⟩ := DataW.trod_string Try.underlying9 g0_5
  cases e1; cases e2; clear g0_5
  obtain ⟨_, _, e1, e2, g0_6⟩ := hf0 6 _ rfl
  cases e1; cases e2
  obtain ⟨a0_6, e1, e2, z0_6⟩ := DataW.trod_int Try.underlying3 g0_6
  cases e1; cases e2; clear g0_6
  simp only [Rows.uptoBulk, Rows.uptoBulkAll, List.map_cons, List.map_nil] at b0
  have k1 := h1
  have lt1 : ∀ x ∈ p1, x.block < W.heap.size := by obtain ⟨m, hm⟩ := k1; exact DataW.trod_lt m _ _ _ hm
  obtain ⟨cs1, ys1, n1, rfl, hl1, rfl, hm1, hf1⟩ := open_struct Try.underlying96 (by kernel_rfl) (by kernel_rfl) (hval 1 96 v1 rfl rfl) h1
  obtain ⟨c1_0, c1_1, c1_2, c1_3, c1_4, c1_5, c1_6, rfl⟩ := len7 (show cs1.length = 7 from hl1)
  obtain ⟨y1_0, y1_1, y1_2, y1_3, y1_4, y1_5, y1_6, rfl⟩ := len7 (show ys1.length = 7 from hm1)
  obtain ⟨_, _, e1, e2, g1_0⟩ := hf1 0 _ rfl
  cases e1; cases e2
  obtain ⟨a1_0, e1, e2, z1_0⟩ := DataW.trod_string Try.underlying9 g1_0
  cases e1; cases e2; clear g1_0
  obtain ⟨_, _, e1, e2, g1_1⟩ := hf1 1 _ rfl
  cases e1; cases e2
  obtain ⟨a1_1, e1, e2, z1_1⟩ := DataW.trod_int Try.underlying3 g1_1
  cases e1; cases e2; clear g1_1
  obtain ⟨_, _, e1, e2, g1_2⟩ := hf1 2 _ rfl
  cases e1; cases e2
  obtain ⟨a1_2, e1, e2, z1_2⟩ := DataW.trod_int Try.underlying3 g1_2
  cases e1; cases e2; clear g1_2
  obtain ⟨_, _, e1, e2, g1_3⟩ := hf1 3 _ rfl
  cases e1; cases e2
  obtain ⟨a1_3, e1, e2, z1_3⟩ := DataW.trod_int Try.underlying3 g1_3
  cases e1; cases e2; clear g1_3
  obtain ⟨_, _, e1, e2, g1_4⟩ := hf1 4 _ rfl
  cases e1; cases e2
  obtain ⟨a1_4, e1, e2, z1_4⟩ := DataW.trod_string Try.underlying9 g1_4
  cases e1; cases e2; clear g1_4
  obtain ⟨_, _, e1, e2, g1_5⟩ := hf1 5 _ rfl
  cases e1; cases e2
  obtain ⟨a1_5, e1, e2, z1_5⟩ := DataW.trod_string Try.underlying9 g1_5
  cases e1; cases e2; clear g1_5
  obtain ⟨_, _, e1, e2, g1_6⟩ := hf1 6 _ rfl
  cases e1; cases e2
  obtain ⟨a1_6, e1, e2, z1_6⟩ := DataW.trod_int Try.underlying3 g1_6
  cases e1; cases e2; clear g1_6
  simp only [Rows.uptoBulk, Rows.uptoBulkAll, List.map_cons, List.map_nil] at b1
  clear hA0 hval0
  refine (Fn.below (law4_RrUnlike ⟨a0_0.data.toList, a0_1, a0_2, a0_3, a0_4.data.toList, a0_5.data.toList, a0_6⟩ ⟨a1_0.data.toList, a1_1, a1_2, a1_3, a1_4.data.toList, a1_5.data.toList, a1_6⟩ W (by dsimp only; omega) (by dsimp only; omega) (by dsimp only; omega) (by dsimp only; omega))).mono fun e W' ⟨he, bel⟩ => ?_
  subst he
  exact ⟨_, rfl, _, _, _, [], _, [], hW', trodAll_mk1 (shut_bool Try.underlying4 _), (trodAll_cons_mk (Below.trod laidOut (by kernel_rfl) (of_decide_eq_true (by kernel_rfl)) k0 bel lt0) (trodAll_cons_mk (Below.trod laidOut (by kernel_rfl) (of_decide_eq_true (by kernel_rfl)) k1 bel lt1) trodAll_mk0)), rfl, bel.frame _, fun h => by cases h⟩
set_option maxRecDepth 100000 in
theorem closed : joinedFacts Try.pinned.checked.prog 28 Try.f28 (Rows.OpenSpec.upto Rows.rrUnlikeSpec).bare Rows.rrUnlikeUptoRow = true := by
  show joinedFacts Try.prog 28 Try.f28 (Rows.OpenSpec.upto Rows.rrUnlikeSpec).bare Rows.rrUnlikeUptoRow = true
  unfold joinedFacts
  refine andI (andI (andI (andI (andI (andI (andI (andI (andI (andI (andI (andI (andI (andI (andI (andI (andI (andI (andI (andI (andI (andI (andI (andI (andI (andI (andI (andI (andI (andI (andI ?_ ?_) ?_) ?_) ?_) ?_) ?_) ?_) ?_) ?_) ?_) ?_) ?_) ?_) ?_) ?_) ?_) ?_) ?_) ?_) ?_) ?_) ?_) ?_) ?_) ?_) ?_) ?_) ?_) ?_) ?_) ?_
  · kernel_rfl
  · kernel_rfl
  · kernel_rfl
  · kernel_rfl
  · kernel_rfl
  · kernel_rfl
  · kernel_rfl
  · kernel_rfl
  · kernel_rfl
  · kernel_rfl
  · kernel_rfl
  · kernel_rfl
  · kernel_rfl
  · kernel_rfl
  · kernel_rfl
  · kernel_rfl
  · kernel_rfl
  · kernel_rfl
  · kernel_rfl
  · kernel_rfl
  · kernel_rfl
  · kernel_rfl
  · kernel_rfl
  · kernel_rfl
  · kernel_rfl
  · exact seat_enter
  · rw [seat_lifts]; rfl
  · rw [seat_make]; rfl
  · kernel_rfl
  · kernel_rfl
  · kernel_rfl
  · kernel_rfl
theorem over : Rows.RrUnlikeUptoSaid :=
  OpenClaim.holds_of_cond 28 Try.f28 rfl rfl rfl rfl rfl rfl rfl ⟨rfl, rfl, rfl, rfl, rfl⟩ rfl rfl rfl rfl rfl (by kernel_rfl) Try.func28 closed
    (of_decide_eq_true (by kernel_rfl)) (by unfold Func.isWrapper; first | (rw [if_pos (by decide +kernel)]; kernel_rfl) | (rw [if_neg (by decide +kernel)]; exact ⟨rfl, rfl⟩))
    (fun os started H enc _ F => lifted os started H enc F)
end Go.Proofs.Ytkjcmdgideddnaa.RowRrUnlike
namespace Go.Proofs.Ytkjcmdgideddnaa
/-- The statement. -/
theorem rrUnlikeUpto_holds : Rows.RrUnlikeUptoSaid := RowRrUnlike.over
#print axioms rrUnlikeUpto_holds
end Go.Proofs.Ytkjcmdgideddnaa
