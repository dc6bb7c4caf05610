/- The row of the statement RrBack, in its narrower form: what comes in is of bulk at most 1048576. No condition beyond the row's own. -/
import Derived.Test.YtkjcmdgideddnaaL4b
import Derived.Test.YtkjcmdgideddnaaIo
import Derived.WalkKit
import Derived.OpenShut
namespace Go.Proofs.Ytkjcmdgideddnaa.RowRrBack
open Go Go.ChangeShapes Go.WideShapes Go.ChangeAt Go.RowKit Go.Deep
open Go.ChangeMaps (open_string shut_string)
set_option linter.unusedVariables false
def dec96 {H : Type} (x : RR) : DataW H := .agg [.lit (.string x.name), .lit (.int .i64 x.type), .lit (.int .i64 x.ttl), .lit (.int .i64 x.addr), .lit (.string x.target), .lit (.string x.text), .lit (.int .i64 x.serial)]
theorem el96 {H : Type} {enc : TypeId × Value → H} {w : World} {base : Nat} {spare : Nat → Bool} {held : Bool} (n : Nat) (cs : List Value) (y : DataW H) (q : List MemPlace) (hl : cs.length = 7) (h : DataW.trod enc Try.prog w base spare held n 96 cs = some (y, q)) : ∃ x : RR, cs = encR x ∧ y = dec96 x ∧ True := by
  obtain ⟨ys, n2, rfl, hm, hf⟩ := el_struct Try.underlying96 (by kernel_rfl) (show cs.length = 7 from hl) h
  obtain ⟨c0, c1, c2, c3, c4, c5, c6, rfl⟩ := len7 hl
  obtain ⟨y0, y1, y2, y3, y4, y5, y6, rfl⟩ := len7 (show ys.length = 7 from hm)
  obtain ⟨_, _, e1, e2, g0⟩ := hf 0 _ rfl
  cases e1; cases e2
  obtain ⟨a0, e1, e2, z0⟩ := DataW.trod_string Try.underlying9 g0
  cases e1; cases e2
  obtain ⟨_, _, e1, e2, g1⟩ := hf 1 _ rfl
  cases e1; cases e2
  obtain ⟨a1, e1, e2, z1⟩ := DataW.trod_int Try.underlying3 g1
  cases e1; cases e2
  obtain ⟨_, _, e1, e2, g2⟩ := hf 2 _ rfl
  cases e1; cases e2
  obtain ⟨a2, e1, e2, z2⟩ := DataW.trod_int Try.underlying3 g2
  cases e1; cases e2
  obtain ⟨_, _, e1, e2, g3⟩ := hf 3 _ rfl
  cases e1; cases e2
  obtain ⟨a3, e1, e2, z3⟩ := DataW.trod_int Try.underlying3 g3
  cases e1; cases e2
  obtain ⟨_, _, e1, e2, g4⟩ := hf 4 _ rfl
  cases e1; cases e2
  obtain ⟨a4, e1, e2, z4⟩ := DataW.trod_string Try.underlying9 g4
  cases e1; cases e2
  obtain ⟨_, _, e1, e2, g5⟩ := hf 5 _ rfl
  cases e1; cases e2
  obtain ⟨a5, e1, e2, z5⟩ := DataW.trod_string Try.underlying9 g5
  cases e1; cases e2
  obtain ⟨_, _, e1, e2, g6⟩ := hf 6 _ rfl
  cases e1; cases e2
  obtain ⟨a6, e1, e2, z6⟩ := DataW.trod_int Try.underlying3 g6
  cases e1; cases e2
  exact ⟨⟨a0.data.toList, a1, a2, a3, a4.data.toList, a5.data.toList, a6⟩, rfl, rfl, trivial⟩
theorem own : ownKnob Try.prog.godebug = none := by kernel_rfl
theorem laidOut : laidOutB Try.prog = true := by kernel_rfl
set_option maxRecDepth 100000 in
set_option maxHeartbeats 4000000 in
theorem lifted (os : Os) (started : os.Started) (H : Type) (enc : TypeId × Value → H) (F : Stop.Interp) :
    ReturnsInHanded {} Try.checked os 25 .any ((Rows.OpenSpec.upto Rows.rrBackSpec).pre6 enc Try.prog Try.f25 Rows.rrBackUptoRow.domain false) (((Rows.OpenSpec.upto Rows.rrBackSpec).at F).post enc Try.prog Try.f25 false true false false) := by
  refine returnsInHanded_of_cond (C := Try.checked) (s := Rows.OpenSpec.upto Rows.rrBackSpec) (k := Rows.uptoSmall) rfl own started (by kernel_rfl) Try.func25
    (OpenSpec.witness (enc := enc) (C := Try.checked) (s := Rows.OpenSpec.upto Rows.rrBackSpec) (k := Rows.uptoSmall) rfl false ⟨#[], #[.slice none 0 0], []⟩ 8 (by kernel_rfl) (by kernel_rfl) (by kernel_rfl)
      (x := ([.nil], [], [])) (by kernel_rfl) rfl (by kernel_rfl)) ?_
  intro W base args ds gs before hval0 hW _ hk _
  have hval : ∀ (j : Nat) t v, Try.f25.params[j]? = some t → args[j]? = some v → Value.okWide Try.prog W .any base t v := hval0
  have hW' := hW
  obtain ⟨p, q, hA0, hV, rfl, hfz, hnd⟩ := hW
  have hA : DataW.TrodAll enc Try.prog W 0 (fun _ => true) true Try.f25.params.toList args.toList ds p := hA0
  rw [Try.params25] at hA hval
  obtain ⟨v0, vs0, d0, ds0, p0, q0, hargs, rfl, rfl, h0, r0⟩ := trodAll_cons hA
  obtain ⟨rfl, rfl, rfl⟩ := trodAll_nil r0
  obtain rfl : args = #[v0] := by cases args; simp_all
  obtain ⟨rfl, rfl⟩ := trodVars_none hV
  have hb := bulk_all hk
  have b0 : Rows.uptoBulk d0 ≤ 1048576 := Nat.le_trans (bulk_part (by simp)) hb
  clear hb
  have k0 := h0
  have lt0 : ∀ x ∈ p0, x.block < W.heap.size := by obtain ⟨m, hm⟩ := k0; exact DataW.trod_lt m _ _ _ hm
  obtain ⟨a0, c0, x0, rfl, i0, y0, D0, m0⟩ := open_rows (ec := encR) (dec := dec96) (φ := fun _ => True) (m := 7) Try.underlying105 (fun _ => rfl) (by decide) (by kernel_rfl) el96 (hval 0 105 v0 rfl rfl) h0
  obtain ⟨s0, t0, u0⟩ := bulk_rows D0
  replace s0 := Nat.le_trans s0 b0
  replace t0 := fun x hx => Nat.le_trans (t0 x hx) b0
  replace u0 := Nat.le_trans u0 b0
  have n0_0 : ∀ x ∈ x0, x.name.length ≤ 1048576 := fun x hx => by have h := t0 x hx; simp only [dec96, Rows.uptoBulk, Rows.uptoBulkAll, List.map_cons, List.map_nil] at h; omega
  have n0_4 : ∀ x ∈ x0, x.target.length ≤ 1048576 := fun x hx => by have h := t0 x hx; simp only [dec96, Rows.uptoBulk, Rows.uptoBulkAll, List.map_cons, List.map_nil] at h; omega
  have n0_5 : ∀ x ∈ x0, x.text.length ≤ 1048576 := fun x hx => by have h := t0 x hx; simp only [dec96, Rows.uptoBulk, Rows.uptoBulkAll, List.map_cons, List.map_nil] at h; omega
  clear hA0 hval0
  refine (Fn.below (law4_RrBack x0 a0 c0 W i0 s0 n0_0 n0_4)).mono fun e W' ⟨he, bel⟩ => ?_
  subst he
  exact ⟨_, rfl, _, _, _, [], _, [], hW', trodAll_mk1 (shut_bool Try.underlying4 _), (trodAll_cons_mk (Below.trod laidOut (by kernel_rfl) (of_decide_eq_true (by kernel_rfl)) k0 bel lt0) trodAll_mk0), rfl, bel.frame _, fun h => by cases h⟩
set_option maxRecDepth 100000 in
theorem closed : joinedFacts Try.pinned.checked.prog 25 Try.f25 (Rows.OpenSpec.upto Rows.rrBackSpec).bare Rows.rrBackUptoRow = true := by
  show joinedFacts Try.prog 25 Try.f25 (Rows.OpenSpec.upto Rows.rrBackSpec).bare Rows.rrBackUptoRow = true
  unfold joinedFacts
  refine andI (andI (andI (andI (andI (andI (andI (andI (andI (andI (andI (andI (andI (andI (andI (andI (andI (andI (andI (andI (andI (andI (andI (andI (andI (andI (andI (andI (andI (andI (andI ?_ ?_) ?_) ?_) ?_) ?_) ?_) ?_) ?_) ?_) ?_) ?_) ?_) ?_) ?_) ?_) ?_) ?_) ?_) ?_) ?_) ?_) ?_) ?_) ?_) ?_) ?_) ?_) ?_) ?_) ?_) ?_
  · kernel_rfl
  · kernel_rfl
  · kernel_rfl
  · kernel_rfl
  · kernel_rfl
  · kernel_rfl
  · kernel_rfl
  · kernel_rfl
  · kernel_rfl
  · kernel_rfl
  · kernel_rfl
  · kernel_rfl
  · kernel_rfl
  · kernel_rfl
  · kernel_rfl
  · kernel_rfl
  · kernel_rfl
  · kernel_rfl
  · kernel_rfl
  · kernel_rfl
  · kernel_rfl
  · kernel_rfl
  · kernel_rfl
  · kernel_rfl
  · kernel_rfl
  · exact seat_enter
  · rw [seat_lifts]; rfl
  · rw [seat_make]; rfl
  · kernel_rfl
  · kernel_rfl
  · kernel_rfl
  · kernel_rfl
theorem over : Rows.RrBackUptoSaid :=
  OpenClaim.holds_of_cond 25 Try.f25 rfl rfl rfl rfl rfl rfl rfl ⟨rfl, rfl, rfl, rfl, rfl⟩ rfl rfl rfl rfl rfl (by kernel_rfl) Try.func25 closed
    (of_decide_eq_true (by kernel_rfl)) (by unfold Func.isWrapper; first | (rw [if_pos (by decide +kernel)]; kernel_rfl) | (rw [if_neg (by decide +kernel)]; exact ⟨rfl, rfl⟩))
    (fun os started H enc _ F => lifted os started H enc F)
end Go.Proofs.Ytkjcmdgideddnaa.RowRrBack
namespace Go.Proofs.Ytkjcmdgideddnaa
/-- The statement. -/
theorem rrBackUpto_holds : Rows.RrBackUptoSaid := RowRrBack.over
#print axioms rrBackUpto_holds
end Go.Proofs.Ytkjcmdgideddnaa
