/- The row of the statement PacketHeads, in its narrower form: what comes in is of bulk at most 1048576. No condition beyond the row's own. -/
import Derived.Test.YtkjcmdgideddnaaL7h
import Derived.Test.YtkjcmdgideddnaaIo
import Derived.Test.YtkjcmdgideddnaaOpenF
import Derived.WalkKit
import Derived.OpenShut
namespace Go.Proofs.Ytkjcmdgideddnaa.RowPacketHeads
open Go Go.ChangeShapes Go.WideShapes Go.ChangeAt Go.RowKit Go.Deep
open Go.ChangeMaps (open_string shut_string)
set_option linter.unusedVariables false
def dec42 {H : Type} (x : Opt) : DataW H := .agg [.lit (.int .i64 x.code), .lit (.string x.data)]
theorem el42 {H : Type} {enc : TypeId × Value → H} {w : World} {base : Nat} {spare : Nat → Bool} {held : Bool} (n : Nat) (cs : List Value) (y : DataW H) (q : List MemPlace) (hl : cs.length = 2) (h : DataW.trod enc Try.prog w base spare held n 42 cs = some (y, q)) : ∃ x : Opt, cs = encO x ∧ y = dec42 x ∧ True := by
  obtain ⟨ys, n2, rfl, hm, hf⟩ := el_struct Try.underlying42 (by kernel_rfl) (show cs.length = 2 from hl) h
  obtain ⟨c0, c1, rfl⟩ := len2 hl
  obtain ⟨y0, y1, rfl⟩ := len2 (show ys.length = 2 from hm)
  obtain ⟨_, _, e1, e2, g0⟩ := hf 0 _ rfl
  cases e1; cases e2
  obtain ⟨a0, e1, e2, z0⟩ := DataW.trod_int Try.underlying3 g0
  cases e1; cases e2
  obtain ⟨_, _, e1, e2, g1⟩ := hf 1 _ rfl
  cases e1; cases e2
  obtain ⟨a1, e1, e2, z1⟩ := DataW.trod_string Try.underlying9 g1
  cases e1; cases e2
  exact ⟨⟨a0, a1.data.toList⟩, rfl, rfl, trivial⟩
theorem own : ownKnob Try.prog.godebug = none := by kernel_rfl
theorem laidOut : laidOutB Try.prog = true := by kernel_rfl
set_option maxRecDepth 100000 in
set_option maxHeartbeats 4000000 in
theorem lifted (os : Os) (started : os.Started) (H : Type) (enc : TypeId × Value → H) (F : Stop.Interp) :
    ReturnsInHanded {} Try.checked os 19 .any ((Rows.OpenSpec.upto Rows.packetHeadsSpec).pre6 enc Try.prog Try.f19 Rows.packetHeadsUptoRow.domain false) (((Rows.OpenSpec.upto Rows.packetHeadsSpec).at F).post enc Try.prog Try.f19 false true false false) := by
  refine returnsInHanded_of_cond (C := Try.checked) (s := Rows.OpenSpec.upto Rows.packetHeadsSpec) (k := Rows.uptoSmall) rfl own started (by kernel_rfl) Try.func19
    (OpenSpec.witness (enc := enc) (C := Try.checked) (s := Rows.OpenSpec.upto Rows.packetHeadsSpec) (k := Rows.uptoSmall) rfl false ⟨#[], #[.agg #[.int .i64 0, .int .i64 0, .int .i64 0, .int .i64 0, .int .i64 0, .int .i64 0, .int .i64 0, .int .i64 0, .int .i64 0, .int .i64 0, .string (S []), .slice none 0 0]], []⟩ 8 (by kernel_rfl) (by kernel_rfl) (by kernel_rfl)
      (x := ([.agg [.lit (.int .i64 0), .lit (.int .i64 0), .lit (.int .i64 0), .lit (.int .i64 0), .lit (.int .i64 0), .lit (.int .i64 0), .lit (.int .i64 0), .lit (.int .i64 0), .lit (.int .i64 0), .lit (.int .i64 0), .lit (.string []), .nil]], [], [])) (by kernel_rfl) rfl (by kernel_rfl)) ?_
  intro W base args ds gs before hval0 hW _ hk _
  have hval : ∀ (j : Nat) t v, Try.f19.params[j]? = some t → args[j]? = some v → Value.okWide Try.prog W .any base t v := hval0
  have hW' := hW
  obtain ⟨p, q, hA0, hV, rfl, hfz, hnd⟩ := hW
  have hA : DataW.TrodAll enc Try.prog W 0 (fun _ => true) true Try.f19.params.toList args.toList ds p := hA0
  rw [Try.params19] at hA hval
  obtain ⟨v0, vs0, d0, ds0, p0, q0, hargs, rfl, rfl, h0, r0⟩ := trodAll_cons hA
  obtain ⟨rfl, rfl, rfl⟩ := trodAll_nil r0
  obtain rfl : args = #[v0] := by cases args; simp_all
  obtain ⟨rfl, rfl⟩ := trodVars_none hV
  have hb := bulk_all hk
  have b0 : Rows.uptoBulk d0 ≤ 1048576 := Nat.le_trans (bulk_part (by simp)) hb
  clear hb
  have k0 := h0
  have lt0 : ∀ x ∈ p0, x.block < W.heap.size := by obtain ⟨m, hm⟩ := k0; exact DataW.trod_lt m _ _ _ hm
  obtain ⟨cs0, ys0, n0, rfl, hl0, rfl, hm0, hf0⟩ := open_struct Try.underlying72 (by kernel_rfl) (by kernel_rfl) (hval 0 72 v0 rfl rfl) h0
  obtain ⟨c0_0, c0_1, c0_2, c0_3, c0_4, c0_5, c0_6, c0_7, c0_8, c0_9, c0_10, c0_11, rfl⟩ := len12 (show cs0.length = 12 from hl0)
  obtain ⟨y0_0, y0_1, y0_2, y0_3, y0_4, y0_5, y0_6, y0_7, y0_8, y0_9, y0_10, y0_11, rfl⟩ := len12 (show ys0.length = 12 from hm0)
  obtain ⟨_, _, e1, e2, g0_0⟩ := hf0 0 _ rfl
  cases e1; cases e2
  obtain ⟨a0_0, e1, e2, z0_0⟩ := DataW.trod_int Try.underlying3 g0_0
  cases e1; cases e2; clear g0_0
  obtain ⟨_, _, e1, e2, g0_1⟩ := hf0 1 _ rfl
  cases e1; cases e2
  obtain ⟨a0_1, e1, e2, z0_1⟩ := DataW.trod_int Try.underlying3 g0_1
  cases e1; cases e2; clear g0_1
  obtain ⟨_, _, e1, e2, g0_2⟩ := hf0 2 _ rfl
  cases e1; cases e2
  obtain ⟨a0_2, e1, e2, z0_2⟩ := DataW.trod_int Try.underlying3 g0_2
  cases e1; cases e2; clear g0_2
  obtain ⟨_, _, e1, e2, g0_3⟩ := hf0 3 _ rfl
  cases e1; cases e2
  obtain ⟨a0_3, e1, e2, z0_3⟩ := DataW.trod_int Try.underlying3 g0_3
  cases e1; cases e2; clear g0_3
  obtain ⟨_, _, e1, e2, g0_4⟩ := hf0 4 _ rfl
  cases e1; cases e2
  obtain ⟨a0_4, e1, e2, z0_4⟩ := DataW.trod_int Try.underlying3 g0_4
  cases e1; cases e2; clear g0_4
  obtain ⟨_, _, e1, e2, g0_5⟩ := hf0 5 _ rfl
  cases e1; cases e2
  obtain ⟨a0_5, e1, e2, z0_5⟩ := DataW.trod_int Try.underlying3 g0_5
  cases e1; cases e2; clear g0_5
  obtain ⟨_, _, e1, e2, g0_6⟩ := hf0 6 _ rfl
  cases e1; cases e2
  obtain ⟨a0_6, e1, e2, z0_6⟩ := DataW.trod_int Try.underlying3 g0_6
  cases e1; cases e2; clear g0_6
  obtain ⟨_, _, e1, e2, g0_7⟩ := hf0 7 _ rfl
  cases e1; cases e2
  obtain ⟨a0_7, e1, e2, z0_7⟩ := DataW.trod_int Try.underlying3 g0_7
  cases e1; cases e2; clear g0_7
  obtain ⟨_, _, e1, e2, g0_8⟩ := hf0 8 _ rfl
  cases e1; cases e2
  obtain ⟨a0_8, e1, e2, z0_8⟩ := DataW.trod_int Try.underlying3 g0_8
  cases e1; cases e2; clear g0_8
  obtain ⟨_, _, e1, e2, g0_9⟩ := hf0 9 _ rfl
  cases e1; cases e2
  obtain ⟨a0_9, e1, e2, z0_9⟩ := DataW.trod_int Try.underlying3 g0_9
  cases e1; cases e2; clear g0_9
  obtain ⟨_, _, e1, e2, g0_10⟩ := hf0 10 _ rfl
  cases e1; cases e2
  obtain ⟨a0_10, e1, e2, z0_10⟩ := DataW.trod_string Try.underlying9 g0_10
  cases e1; cases e2; clear g0_10
  obtain ⟨_, _, e1, e2, g0_11⟩ := hf0 11 _ rfl
  cases e1; cases e2
  obtain ⟨a0_11, k0_11, x0_11, rfl, i0_11, z0_11, D0_11, m0_11⟩ := open_rowsF (ec := encO) (dec := dec42) (φ := fun _ => True) (m := 2) Try.underlying22 (fun _ => rfl) (by decide) (by kernel_rfl) el42 g0_11
  obtain ⟨s0_11, t0_11, u0_11⟩ := bulk_rows D0_11
  simp only [Rows.uptoBulk, Rows.uptoBulkAll, List.map_cons, List.map_nil] at b0
  have bb0_11 : Rows.uptoBulk y0_11.1 ≤ 1048576 := by omega
  replace s0_11 := Nat.le_trans s0_11 bb0_11
  replace t0_11 := fun x hx => Nat.le_trans (t0_11 x hx) bb0_11
  replace u0_11 := Nat.le_trans u0_11 bb0_11
  clear hA0 hval0
  refine (Fn.below (law7_PacketHeads ⟨a0_0, a0_1, a0_2, a0_3, a0_4, a0_5, a0_6, a0_7, a0_8, a0_9, a0_10.data.toList, x0_11⟩ a0_11 k0_11 W i0_11 s0_11)).mono fun e W' ⟨he, bel⟩ => ?_
  subst he
  exact ⟨_, rfl, _, _, _, [], _, [], hW', trodAll_mk1 (shut_bool Try.underlying4 _), (trodAll_cons_mk (Below.trod laidOut (by kernel_rfl) (of_decide_eq_true (by kernel_rfl)) k0 bel lt0) trodAll_mk0), rfl, bel.frame _, fun h => by cases h⟩
set_option maxRecDepth 100000 in
theorem closed : joinedFacts Try.pinned.checked.prog 19 Try.f19 (Rows.OpenSpec.upto Rows.packetHeadsSpec).bare Rows.packetHeadsUptoRow = true := by
  show joinedFacts Try.prog 19 Try.f19 (Rows.OpenSpec.upto Rows.packetHeadsSpec).bare Rows.packetHeadsUptoRow = true
  unfold joinedFacts
  refine andI (andI (andI (andI (andI (andI (andI (andI (andI (andI (andI (andI (andI (andI (andI (andI (andI (andI (andI (andI (andI (andI (andI (andI (andI (andI (andI (andI (andI (andI (andI ?_ ?_) ?_) ?_) ?_) ?_) ?_) ?_) ?_) ?_) ?_) ?_) ?_) ?_) ?_) ?_) ?_) ?_) ?_) ?_) ?_) ?_) ?_) ?_) ?_) ?_) ?_) ?_) ?_) ?_) ?_) ?_
  · kernel_rfl
  · kernel_rfl
  · kernel_rfl
  · kernel_rfl
  · kernel_rfl
  · kernel_rfl
  · kernel_rfl
  · kernel_rfl
  · kernel_rfl
  · kernel_rfl
  · kernel_rfl
  · kernel_rfl
  · kernel_rfl
  · kernel_rfl
  · kernel_rfl
  · kernel_rfl
  · kernel_rfl
  · kernel_rfl
  · kernel_rfl
  · kernel_rfl
  · kernel_rfl
  · kernel_rfl
  · kernel_rfl
  · kernel_rfl
  · kernel_rfl
  · exact seat_enter
  · rw [seat_lifts]; rfl
  · rw [seat_make]; rfl
  · kernel_rfl
  · kernel_rfl
  · kernel_rfl
  · kernel_rfl
theorem over : Rows.PacketHeadsUptoSaid :=
  OpenClaim.holds_of_cond 19 Try.f19 rfl rfl rfl rfl rfl rfl rfl ⟨rfl, rfl, rfl, rfl, rfl⟩ rfl rfl rfl rfl rfl (by kernel_rfl) Try.func19 closed
    (of_decide_eq_true (by kernel_rfl)) (by unfold Func.isWrapper; first | (rw [if_pos (by decide +kernel)]; kernel_rfl) | (rw [if_neg (by decide +kernel)]; exact ⟨rfl, rfl⟩))
    (fun os started H enc _ F => lifted os started H enc F)
end Go.Proofs.Ytkjcmdgideddnaa.RowPacketHeads
namespace Go.Proofs.Ytkjcmdgideddnaa
/-- The statement. -/
theorem packetHeadsUpto_holds : Rows.PacketHeadsUptoSaid := RowPacketHeads.over
#print axioms packetHeadsUpto_holds
end Go.Proofs.Ytkjcmdgideddnaa
