/- The row of the statement DnsHeads, in its narrower form: what comes in is of bulk at most 1048576. No condition beyond the row's own. -/
import Derived.Test.YtkjcmdgideddnaaL5h
import Derived.Test.YtkjcmdgideddnaaIo
import Derived.Test.YtkjcmdgideddnaaOpenF
import Derived.WalkKit
import Derived.OpenShut
namespace Go.Proofs.Ytkjcmdgideddnaa.RowDnsHeads
open Go Go.ChangeShapes Go.WideShapes Go.ChangeAt Go.RowKit Go.Deep
open Go.ChangeMaps (open_string shut_string)
set_option linter.unusedVariables false
set_option linter.unusedSimpArgs false
def dec126 {H : Type} (x : Qn') : DataW H := .agg [.lit (.string x.name), .lit (.int .i64 x.type)]
theorem el126 {H : Type} {enc : TypeId × Value → H} {w : World} {base : Nat} {spare : Nat → Bool} {held : Bool} (n : Nat) (cs : List Value) (y : DataW H) (q : List MemPlace) (hl : cs.length = 2) (h : DataW.trod enc Try.prog w base spare held n 126 cs = some (y, q)) : ∃ x : Qn', cs = encQ x ∧ y = dec126 x ∧ True := by
  obtain ⟨ys, n2, rfl, hm, hf⟩ := el_struct Try.underlying126 (by kernel_rfl) (show cs.length = 2 from hl) h
  obtain ⟨c0, c1, rfl⟩ := len2 hl
  obtain ⟨y0, y1, rfl⟩ := len2 (show ys.length = 2 from hm)
  obtain ⟨_, _, e1, e2, g0⟩ := hf 0 _ rfl
  cases e1; cases e2
  obtain ⟨a0, e1, e2, z0⟩ := DataW.trod_string Try.underlying9 g0
  cases e1; cases e2
  obtain ⟨_, _, e1, e2, g1⟩ := hf 1 _ rfl
  cases e1; cases e2
  obtain ⟨a1, e1, e2, z1⟩ := DataW.trod_int Try.underlying3 g1
  cases e1; cases e2
  exact ⟨⟨a0.data.toList, a1⟩, rfl, rfl, trivial⟩
def dec96 {H : Type} (x : RR) : DataW H := .agg [.lit (.string x.name), .lit (.int .i64 x.type), .lit (.int .i64 x.ttl), .lit (.int .i64 x.addr), .lit (.string x.target), .lit (.string x.text), .lit (.int .i64 x.serial)]
theorem el96 {H : Type} {enc : TypeId × Value → H} {w : World} {base : Nat} {spare : Nat → Bool} {held : Bool} (n : Nat) (cs : List Value) (y : DataW H) (q : List MemPlace) (hl : cs.length = 7) (h : DataW.trod enc Try.prog w base spare held n 96 cs = some (y, q)) : ∃ x : RR, cs = encR x ∧ y = dec96 x ∧ True := by
  obtain ⟨ys, n2, rfl, hm, hf⟩ := el_struct Try.underlying96 (by kernel_rfl) (show cs.length = 7 from hl) h
  obtain ⟨c0, c1, c2, c3, c4, c5, c6, rfl⟩ := len7 hl
  obtain ⟨y0, y1, y2, y3, y4, y5, y6, rfl⟩ := len7 (show ys.length = 7 from hm)
  obtain ⟨_, _, e1, e2, g0⟩ := hf 0 _ rfl
  cases e1; cases e2
  obtain ⟨a0, e1, e2, z0⟩ := DataW.trod_string Try.underlying9 g0
  cases e1; cases e2
  obtain ⟨_, _, e1, e2, g1⟩ := hf 1 _ rfl
  cases e1; cases e2
  obtain ⟨a1, e1, e2, z1⟩ := DataW.trod_int Try.underlying3 g1
  cases e1; cases e2
  obtain ⟨_, _, e1, e2, g2⟩ := hf 2 _ rfl
  cases e1; cases e2
  obtain ⟨a2, e1, e2, z2⟩ := DataW.trod_int Try.underlying3 g2
  cases e1; cases e2
  obtain ⟨_, _, e1, e2, g3⟩ := hf 3 _ rfl
  cases e1; cases e2
  obtain ⟨a3, e1, e2, z3⟩ := DataW.trod_int Try.underlying3 g3
  cases e1; cases e2
  obtain ⟨_, _, e1, e2, g4⟩ := hf 4 _ rfl
  cases e1; cases e2
  obtain ⟨a4, e1, e2, z4⟩ := DataW.trod_string Try.underlying9 g4
  cases e1; cases e2
  obtain ⟨_, _, e1, e2, g5⟩ := hf 5 _ rfl
  cases e1; cases e2
  obtain ⟨a5, e1, e2, z5⟩ := DataW.trod_string Try.underlying9 g5
  cases e1; cases e2
  obtain ⟨_, _, e1, e2, g6⟩ := hf 6 _ rfl
  cases e1; cases e2
  obtain ⟨a6, e1, e2, z6⟩ := DataW.trod_int Try.underlying3 g6
  cases e1; cases e2
  exact ⟨⟨a0.data.toList, a1, a2, a3, a4.data.toList, a5.data.toList, a6⟩, rfl, rfl, trivial⟩
theorem own : ownKnob Try.prog.godebug = none := by kernel_rfl
theorem laidOut : laidOutB Try.prog = true := by kernel_rfl
set_option maxRecDepth 100000 in
set_option maxHeartbeats 4000000 in
theorem lifted (os : Os) (started : os.Started) (H : Type) (enc : TypeId × Value → H) (F : Stop.Interp) :
    ReturnsInHanded {} Try.checked os 32 .any ((Rows.OpenSpec.upto Rows.dnsHeadsSpec).pre6 enc Try.prog Try.f32 Rows.dnsHeadsUptoRow.domain false) (((Rows.OpenSpec.upto Rows.dnsHeadsSpec).at F).post enc Try.prog Try.f32 false true false false) := by
  refine returnsInHanded_of_cond (C := Try.checked) (s := Rows.OpenSpec.upto Rows.dnsHeadsSpec) (k := Rows.uptoSmall) rfl own started (by kernel_rfl) Try.func32
    (OpenSpec.witness (enc := enc) (C := Try.checked) (s := Rows.OpenSpec.upto Rows.dnsHeadsSpec) (k := Rows.uptoSmall) rfl false ⟨#[], #[.agg #[.int .i64 0, .bool false, .int .i64 0, .bool false, .bool false, .bool false, .int .i64 0, .slice none 0 0, .slice none 0 0, .slice none 0 0, .slice none 0 0, .int .i64 0]], []⟩ 8 (by kernel_rfl) (by kernel_rfl) (by kernel_rfl)
      (x := ([.agg [.lit (.int .i64 0), .lit (.bool false), .lit (.int .i64 0), .lit (.bool false), .lit (.bool false), .lit (.bool false), .lit (.int .i64 0), .nil, .nil, .nil, .nil, .lit (.int .i64 0)]], [], [])) (by kernel_rfl) rfl (by kernel_rfl)) ?_
  intro W base args ds gs before hval0 hW _ hk _
  have hval : ∀ (j : Nat) t v, Try.f32.params[j]? = some t → args[j]? = some v → Value.okWide Try.prog W .any base t v := hval0
  have hW' := hW
  obtain ⟨p, q, hA0, hV, rfl, hfz, hnd⟩ := hW
  have hA : DataW.TrodAll enc Try.prog W 0 (fun _ => true) true Try.f32.params.toList args.toList ds p := hA0
  rw [Try.params32] at hA hval
  obtain ⟨v0, vs0, d0, ds0, p0, q0, hargs, rfl, rfl, h0, r0⟩ := trodAll_cons hA
  obtain ⟨rfl, rfl, rfl⟩ := trodAll_nil r0
  obtain rfl : args = #[v0] := by cases args; simp_all
  obtain ⟨rfl, rfl⟩ := trodVars_none hV
  have hb := bulk_all hk
  have b0 : Rows.uptoBulk d0 ≤ 1048576 := Nat.le_trans (bulk_part (by simp)) hb
  clear hb
  have k0 := h0
  have lt0 : ∀ x ∈ p0, x.block < W.heap.size := by obtain ⟨m, hm⟩ := k0; exact DataW.trod_lt m _ _ _ hm
  obtain ⟨cs0, ys0, n0, rfl, hl0, rfl, hm0, hf0⟩ := open_struct Try.underlying111 (by kernel_rfl) (by kernel_rfl) (hval 0 111 v0 rfl rfl) h0
  obtain ⟨c0_0, c0_1, c0_2, c0_3, c0_4, c0_5, c0_6, c0_7, c0_8, c0_9, c0_10, c0_11, rfl⟩ := len12 (show cs0.length = 12 from hl0)
  obtain ⟨y0_0, y0_1, y0_2, y0_3, y0_4, y0_5, y0_6, y0_7, y0_8, y0_9, y0_10, y0_11, rfl⟩ := len12 (show ys0.length = 12 from hm0)
  obtain ⟨_, _, e1, e2, g0_0⟩ := hf0 0 _ rfl
  cases e1; cases e2
  obtain ⟨a0_0, e1, e2, z0_0⟩ := DataW.trod_int Try.underlying3 g0_0
  cases e1; cases e2; clear g0_0
  obtain ⟨_, _, e1, e2, g0_1⟩ := hf0 1 _ rfl
  cases e1; cases e2
  obtain ⟨a0_1, e1, e2⟩ := DataW.trod_bool Try.underlying4 g0_1
  cases e1; cases e2; clear g0_1
  obtain ⟨_, _, e1, e2, g0_2⟩ := hf0 2 _ rfl
  cases e1; cases e2
  obtain ⟨a0_2, e1, e2, z0_2⟩ := DataW.trod_int Try.underlying3 g0_2
  cases e1; cases e2; clear g0_2
  obtain ⟨_, _, e1, e2, g0_3⟩ := hf0 3 _ rfl
  cases e1; cases e2
  obtain ⟨a0_3, e1, e2⟩ := DataW.trod_bool Try.underlying4 g0_3
  cases e1; cases e2; clear g0_3
  obtain ⟨_, _, e1, e2, g0_4⟩ := hf0 4 _ rfl
  cases e1; cases e2
  obtain ⟨a0_4, e1, e2⟩ := DataW.trod_bool Try.underlying4 g0_4
  cases e1; cases e2; clear g0_4
  obtain ⟨_, _, e1, e2, g0_5⟩ := hf0 5 _ rfl
  cases e1; cases e2
  obtain ⟨a0_5, e1, e2⟩ := DataW.trod_bool Try.underlying4 g0_5
  cases e1; cases e2; clear g0_5
  obtain ⟨_, _, e1, e2, g0_6⟩ := hf0 6 _ rfl
  cases e1; cases e2
  obtain ⟨a0_6, e1, e2, z0_6⟩ := DataW.trod_int Try.underlying3 g0_6
  cases e1; cases e2; clear g0_6
  obtain ⟨_, _, e1, e2, g0_7⟩ := hf0 7 _ rfl
  cases e1; cases e2
  obtain ⟨a0_7, k0_7, x0_7, rfl, i0_7, z0_7, D0_7, m0_7⟩ := open_rowsF (ec := encQ) (dec := dec126) (φ := fun _ => True) (m := 2) Try.underlying109 (fun _ => rfl) (by decide) (by kernel_rfl) el126 g0_7
  obtain ⟨s0_7, t0_7, u0_7⟩ := bulk_rows D0_7
  obtain ⟨_, _, e1, e2, g0_8⟩ := hf0 8 _ rfl
  cases e1; cases e2
  obtain ⟨a0_8, k0_8, x0_8, rfl, i0_8, z0_8, D0_8, m0_8⟩ := open_rowsF (ec := encR) (dec := dec96) (φ := fun _ => True) (m := 7) Try.underlying105 (fun _ => rfl) (by decide) (by kernel_rfl) el96 g0_8
  obtain ⟨s0_8, t0_8, u0_8⟩ := bulk_rows D0_8
  obtain ⟨_, _, e1, e2, g0_9⟩ := hf0 9 _ rfl
  cases e1; cases e2
  obtain ⟨a0_9, k0_9, x0_9, rfl, i0_9, z0_9, D0_9, m0_9⟩ := open_rowsF (ec := encR) (dec := dec96) (φ := fun _ => True) (m := 7) Try.underlying105 (fun _ => rfl) (by decide) (by kernel_rfl) el96 g0_9
  obtain ⟨s0_9, t0_9, u0_9⟩ := bulk_rows D0_9
  obtain ⟨_, _, e1, e2, g0_10⟩ := hf0 10 _ rfl
  cases e1; cases e2
  obtain ⟨a0_10, k0_10, x0_10, rfl, i0_10, z0_10, D0_10, m0_10⟩ := open_rowsF (ec := encR) (dec := dec96) (φ := fun _ => True) (m := 7) Try.underlying105 (fun _ => rfl) (by decide) (by kernel_rfl) el96 g0_10
  obtain ⟨s0_10, t0_10, u0_10⟩ := bulk_rows D0_10
  obtain ⟨_, _, e1, e2, g0_11⟩ := hf0 11 _ rfl
  cases e1; cases e2
  obtain ⟨a0_11, e1, e2, z0_11⟩ := DataW.trod_int Try.underlying3 g0_11
  cases e1; cases e2; clear g0_11
  simp only [Rows.uptoBulk, Rows.uptoBulkAll, List.map_cons, List.map_nil] at b0
  have bb0_7 : Rows.uptoBulk y0_7.1 ≤ 1048576 := by omega
  replace s0_7 := Nat.le_trans s0_7 bb0_7
  replace t0_7 := fun x hx => Nat.le_trans (t0_7 x hx) bb0_7
  replace u0_7 := Nat.le_trans u0_7 bb0_7
  have n0_7_0 : ∀ x ∈ x0_7, x.name.length ≤ 1048576 := fun x hx => by have h := t0_7 x hx; simp only [dec126, Rows.uptoBulk, Rows.uptoBulkAll, List.map_cons, List.map_nil] at h; omega
  have bb0_8 : Rows.uptoBulk y0_8.1 ≤ 1048576 := by omega
  replace s0_8 := Nat.le_trans s0_8 bb0_8
  replace t0_8 := fun x hx => Nat.le_trans (t0_8 x hx) bb0_8
  replace u0_8 := Nat.le_trans u0_8 bb0_8
  have n0_8_0 : ∀ x ∈ x0_8, x.name.length ≤ 1048576 := fun x hx => by have h := t0_8 x hx; simp only [dec96, Rows.uptoBulk, Rows.uptoBulkAll, List.map_cons, List.map_nil] at h; omega
  have n0_8_4 : ∀ x ∈ x0_8, x.target.length ≤ 1048576 := fun x hx => by have h := t0_8 x hx; simp only [dec96, Rows.uptoBulk, Rows.uptoBulkAll, List.map_cons, List.map_nil] at h; omega
  have n0_8_5 : ∀ x ∈ x0_8, x.text.length ≤ 1048576 := fun x hx => by have h := t0_8 x hx; simp only [dec96, Rows.uptoBulk, Rows.uptoBulkAll, List.map_cons, List.map_nil] at h; omega
  have bb0_9 : Rows.uptoBulk y0_9.1 ≤ 1048576 := by omega
  replace s0_9 := Nat.le_trans s0_9 bb0_9
  replace t0_9 := fun x hx => Nat.le_trans (t0_9 x hx) bb0_9
  replace u0_9 := Nat.le_trans u0_9 bb0_9
  have n0_9_0 : ∀ x ∈ x0_9, x.name.length ≤ 1048576 := fun x hx => by have h := t0_9 x hx; simp only [dec96, Rows.uptoBulk, Rows.uptoBulkAll, List.map_cons, List.map_nil] at h; omega
  have n0_9_4 : ∀ x ∈ x0_9, x.target.length ≤ 1048576 := fun x hx => by have h := t0_9 x hx; simp only [dec96, Rows.uptoBulk, Rows.uptoBulkAll, List.map_cons, List.map_nil] at h; omega
  have n0_9_5 : ∀ x ∈ x0_9, x.text.length ≤ 1048576 := fun x hx => by have h := t0_9 x hx; simp only [dec96, Rows.uptoBulk, Rows.uptoBulkAll, List.map_cons, List.map_nil] at h; omega
  have bb0_10 : Rows.uptoBulk y0_10.1 ≤ 1048576 := by omega
  replace s0_10 := Nat.le_trans s0_10 bb0_10
  replace t0_10 := fun x hx => Nat.le_trans (t0_10 x hx) bb0_10
  replace u0_10 := Nat.le_trans u0_10 bb0_10
  have n0_10_0 : ∀ x ∈ x0_10, x.name.length ≤ 1048576 := fun x hx => by have h := t0_10 x hx; simp only [dec96, Rows.uptoBulk, Rows.uptoBulkAll, List.map_cons, List.map_nil] at h; omega
  have n0_10_4 : ∀ x ∈ x0_10, x.target.length ≤ 1048576 := fun x hx => by have h := t0_10 x hx; simp only [dec96, Rows.uptoBulk, Rows.uptoBulkAll, List.map_cons, List.map_nil] at h; omega
  have n0_10_5 : ∀ x ∈ x0_10, x.text.length ≤ 1048576 := fun x hx => by have h := t0_10 x hx; simp only [dec96, Rows.uptoBulk, Rows.uptoBulkAll, List.map_cons, List.map_nil] at h; omega
  clear hA0 hval0
  refine (Fn.below (law5_DnsHeads ⟨a0_0, a0_1, a0_2, a0_3, a0_4, a0_5, a0_6, x0_7, x0_8, x0_9, x0_10, a0_11⟩ a0_7 k0_7 a0_8 k0_8 a0_9 k0_9 a0_10 k0_10 W i0_7 i0_8 i0_9 i0_10 s0_7 n0_7_0 s0_8 n0_8_0 n0_8_4 s0_9 n0_9_0 n0_9_4 s0_10 n0_10_0 n0_10_4)).mono fun e W' ⟨he, bel⟩ => ?_
  subst he
  exact ⟨_, rfl, _, _, _, [], _, [], hW', trodAll_mk1 (shut_bool Try.underlying4 _), (trodAll_cons_mk (Below.trod laidOut (by kernel_rfl) (of_decide_eq_true (by kernel_rfl)) k0 bel lt0) trodAll_mk0), rfl, bel.frame _, fun h => by cases h⟩
set_option maxRecDepth 100000 in
theorem closed : joinedFacts Try.pinned.checked.prog 32 Try.f32 (Rows.OpenSpec.upto Rows.dnsHeadsSpec).bare Rows.dnsHeadsUptoRow = true := by
  show joinedFacts Try.prog 32 Try.f32 (Rows.OpenSpec.upto Rows.dnsHeadsSpec).bare Rows.dnsHeadsUptoRow = true
  unfold joinedFacts
  refine andI (andI (andI (andI (andI (andI (andI (andI (andI (andI (andI (andI (andI (andI (andI (andI (andI (andI (andI (andI (andI (andI (andI (andI (andI (andI (andI (andI (andI (andI (andI ?_ ?_) ?_) ?_) ?_) ?_) ?_) ?_) ?_) ?_) ?_) ?_) ?_) ?_) ?_) ?_) ?_) ?_) ?_) ?_) ?_) ?_) ?_) ?_) ?_) ?_) ?_) ?_) ?_) ?_) ?_) ?_
  · kernel_rfl
  · kernel_rfl
  · kernel_rfl
  · kernel_rfl
  · kernel_rfl
  · kernel_rfl
  · kernel_rfl
  · kernel_rfl
  · kernel_rfl
  · kernel_rfl
  · kernel_rfl
  · kernel_rfl
  · kernel_rfl
  · kernel_rfl
  · kernel_rfl
  · kernel_rfl
  · kernel_rfl
  · kernel_rfl
  · kernel_rfl
  · kernel_rfl
  · kernel_rfl
  · kernel_rfl
  · kernel_rfl
  · kernel_rfl
  · kernel_rfl
  · exact seat_enter
  · rw [seat_lifts]; rfl
  · rw [seat_make]; rfl
  · kernel_rfl
  · kernel_rfl
  · kernel_rfl
  · kernel_rfl
theorem over : Rows.DnsHeadsUptoSaid :=
  OpenClaim.holds_of_cond 32 Try.f32 rfl rfl rfl rfl rfl rfl rfl ⟨rfl, rfl, rfl, rfl, rfl⟩ rfl rfl rfl rfl rfl (by kernel_rfl) Try.func32 closed
    (of_decide_eq_true (by kernel_rfl)) (by unfold Func.isWrapper; first | (rw [if_pos (by decide +kernel)]; kernel_rfl) | (rw [if_neg (by decide +kernel)]; exact ⟨rfl, rfl⟩))
    (fun os started H enc _ F => lifted os started H enc F)
end Go.Proofs.Ytkjcmdgideddnaa.RowDnsHeads
namespace Go.Proofs.Ytkjcmdgideddnaa
/-- The statement. -/
theorem dnsHeadsUpto_holds : Rows.DnsHeadsUptoSaid := RowDnsHeads.over
#print axioms dnsHeadsUpto_holds
end Go.Proofs.Ytkjcmdgideddnaa
