/- The row of the statement DiskTwice: its walk, and how the arguments are read. No condition beyond the row's own. -/
import Derived.Test.YtmhjcmpokjhhcaaRows
import Derived.Test.YtmhjcmpokjhhcaaDiskTwice
import Derived.Test.YtmhjcmpokjhhcaaOpen
import Derived.WalkKit
namespace Go.Proofs.Ytmhjcmpokjhhcaa.RowDiskTwice
open Go Go.ChangeShapes Go.WideShapes Go.ChangeAt Go.RowKit Go.Deep
open Go.ChangeMaps (open_string shut_string)
set_option linter.unusedVariables false
theorem own : ownKnob Try.prog.godebug = none := by kernel_rfl
theorem laidOut : laidOutB Try.prog = true := by kernel_rfl
set_option maxRecDepth 100000 in
set_option maxHeartbeats 4000000 in
theorem lifted (os : Os) (started : os.Started) (H : Type) (enc : TypeId × Value → H) :
    ReturnsInHanded {} Try.checked os 7 .any (Rows.diskTwiceSpec.pre6 enc Try.prog Try.f7 Rows.diskTwiceRow.domain false) (Rows.diskTwiceSpec.post enc Try.prog Try.f7 false true false false) := by
  refine returnsInHanded_of_change_sized (C := Try.checked) own started (by kernel_rfl) Try.func7
    (ChangeSpec.witness6 (enc := enc) (C := Try.checked) false ⟨#[], #[.agg #[.string (S []), .int .i64 0, .bool false, .string (S []), .int .i64 0], .int .i64 0, .int .i64 0], []⟩ 8 (by kernel_rfl) (by kernel_rfl) (by kernel_rfl) (by kernel_rfl)) ?_
  intro W base args ds gs before hval0 hW hcnd hsz0 _
  have hsz : (DataW.weightsEach Try.prog (Try.f7.params.toList ++ Rows.diskTwiceSpec.plain.varTypes Try.prog) (ds ++ gs)).all (· ≤ reachBytes) = true := hsz0
  have hval : ∀ (j : Nat) t v, Try.f7.params[j]? = some t → args[j]? = some v → Value.okWide Try.prog W .any base t v := hval0
  have hW' := hW
  obtain ⟨p, q, hA0, hV, rfl, hfz, hnd⟩ := hW
  have hA : DataW.TrodAll enc Try.prog W 0 (fun _ => true) true Try.f7.params.toList args.toList ds p := hA0
  rw [Try.params7] at hA hval hsz
  obtain ⟨v0, vs0, d0, ds0, p0, q0, hargs, rfl, rfl, h0, r0⟩ := trodAll_cons hA
  obtain ⟨v1, vs1, d1, ds1, p1, q1, rfl, rfl, rfl, h1, r1⟩ := trodAll_cons r0
  obtain ⟨v2, vs2, d2, ds2, p2, q2, rfl, rfl, rfl, h2, r2⟩ := trodAll_cons r1
  obtain ⟨rfl, rfl, rfl⟩ := trodAll_nil r2
  obtain rfl : args = #[v0, v1, v2] := by cases args; simp_all
  obtain ⟨rfl, rfl⟩ := trodVars_none hV
  have k0 := h0
  have lt0 : ∀ x ∈ p0, x.block < W.heap.size := by obtain ⟨m, hm⟩ := k0; exact DataW.trod_lt m _ _ _ hm
  obtain ⟨cs0, ys0, n0, rfl, hl0, rfl, hm0, hf0⟩ := open_struct Try.underlying23 (by kernel_rfl) (by kernel_rfl) (hval 0 23 v0 rfl rfl) h0
  obtain ⟨c0_0, c0_1, c0_2, c0_3, c0_4, rfl⟩ := len5 (show cs0.length = 5 from hl0)
  obtain ⟨y0_0, y0_1, y0_2, y0_3, y0_4, rfl⟩ := len5 (show ys0.length = 5 from hm0)
  obtain ⟨_, _, e1, e2, g0_0⟩ := hf0 0 _ rfl
  cases e1; cases e2
  obtain ⟨a0_0, e1, e2, z0_0⟩ := DataW.trod_string Try.underlying9 g0_0
  cases e1; cases e2; clear g0_0
  obtain ⟨_, _, e1, e2, g0_1⟩ := hf0 1 _ rfl
  cases e1; cases e2
  obtain ⟨a0_1, e1, e2, z0_1⟩ := DataW.trod_int Try.underlying3 g0_1
  cases e1; cases e2; clear g0_1
  obtain ⟨_, _, e1, e2, g0_2⟩ := hf0 2 _ rfl
  cases e1; cases e2
  obtain ⟨a0_2, e1, e2⟩ := DataW.trod_bool Try.underlying4 g0_2
  cases e1; cases e2; clear g0_2
  obtain ⟨_, _, e1, e2, g0_3⟩ := hf0 3 _ rfl
  cases e1; cases e2
  obtain ⟨a0_3, e1, e2, z0_3⟩ := DataW.trod_string Try.underlying9 g0_3
  cases e1; cases e2; clear g0_3
  obtain ⟨_, _, e1, e2, g0_4⟩ := hf0 4 _ rfl
  cases e1; cases e2
  obtain ⟨a0_4, e1, e2, z0_4⟩ := DataW.trod_int Try.underlying3 g0_4
  cases e1; cases e2; clear g0_4
  have k1 := h1
  have lt1 : ∀ x ∈ p1, x.block < W.heap.size := by obtain ⟨m, hm⟩ := k1; exact DataW.trod_lt m _ _ _ hm
  obtain ⟨a1, rfl, rfl, rfl, w1⟩ := open_int Try.underlying3 (hval 1 3 v1 rfl rfl) h1
  have k2 := h2
  have lt2 : ∀ x ∈ p2, x.block < W.heap.size := by obtain ⟨m, hm⟩ := k2; exact DataW.trod_lt m _ _ _ hm
  obtain ⟨a2, rfl, rfl, rfl, w2⟩ := open_int Try.underlying3 (hval 2 3 v2 rfl rfl) h2
  have l0_0 := sz_str (sz_field (sz_of hsz 0 rfl rfl) Try.underlying23 0 rfl rfl)
  have l0_3 := sz_str (sz_field (sz_of hsz 0 rfl rfl) Try.underlying23 3 rfl rfl)
  clear hA0 hval0 hsz0
  refine (Fn.below (law22_DiskTwice a0_0.data.toList a0_1 a0_2 a0_3.data.toList a0_4 a1 a2 W (by simp only [top]; omega) (by simp only [top]; omega))).mono fun e W' ⟨he, bel⟩ => ?_
  subst he
  exact ⟨_, rfl, _, _, _, [], _, [], hW', trodAll_mk1 (shut_bool Try.underlying4 _), (trodAll_cons_mk (Below.trod laidOut (by kernel_rfl) (of_decide_eq_true (by kernel_rfl)) k0 bel lt0) (trodAll_cons_mk (Below.trod laidOut (by kernel_rfl) (of_decide_eq_true (by kernel_rfl)) k1 bel lt1) (trodAll_cons_mk (Below.trod laidOut (by kernel_rfl) (of_decide_eq_true (by kernel_rfl)) k2 bel lt2) trodAll_mk0))), rfl, bel.frame _, fun h => by cases h⟩
theorem over : Rows.diskTwiceRow.holds Try.pinned (OpenSpec.ofChange Rows.diskTwiceSpec) :=
  OpenClaim.holds_of_wide 7 Try.f7 rfl rfl rfl rfl rfl rfl rfl ⟨rfl, rfl, rfl, rfl, rfl⟩ rfl rfl rfl rfl rfl (by kernel_rfl) Try.func7 (by kernel_rfl)
    (of_decide_eq_true (by kernel_rfl)) (by unfold Func.isWrapper; first | (rw [if_pos (by decide +kernel)]; kernel_rfl) | (rw [if_neg (by decide +kernel)]; exact ⟨rfl, rfl⟩))
    (fun os started H enc _ => lifted os started H enc)
end Go.Proofs.Ytmhjcmpokjhhcaa.RowDiskTwice
namespace Go.Proofs.Ytmhjcmpokjhhcaa
/-- The statement. -/
theorem diskTwice_holds : Rows.DiskTwiceSaid := RowDiskTwice.over
#print axioms diskTwice_holds
end Go.Proofs.Ytmhjcmpokjhhcaa
