/- The row of the statement AnswerNever, in its narrower form: what comes in is of bulk at most 1048576. No condition beyond the row's own. -/
import Derived.Test.YtfmdaijkgjkmpaaGreatDoorL21n
import Derived.Test.YtfmdaijkgjkmpaaGreatDoorIo
import Derived.Test.YtfmdaijkgjkmpaaGreatDoorOpenF
import Derived.Test.YtfmdaijkgjkmpaaGreatDoorCards
import Derived.Test.YtfmdaijkgjkmpaaGreatDoorTie
import Derived.WalkKit
import Derived.OpenShut
import Derived.Deep.DeepHandedRow
import Derived.Lib.LaidTab
import Derived.LaidSub
import Derived.Stop.LaidErr
import Derived.Lay
import Derived.SevenTiedAt
namespace Go.Proofs.YtfmdaijkgjkmpaaGreatDoor.RowAnswerNever
open Go Go.ChangeShapes Go.WideShapes Go.ChangeAt Go.RowKit Go.Deep
open Go.ChangeMaps (open_string shut_string)
set_option linter.unusedVariables false
set_option linter.unusedSimpArgs false
def dec107 {H : Type} (x : Rs) : DataW H := .agg [.lit (.string x.client), .lit (.int .i64 x.host)]
theorem el107 {H : Type} {enc : TypeId × Value → H} {w : World} {base : Nat} {spare : Nat → Bool} {held : Bool} (n : Nat) (cs : List Value) (y : DataW H) (q : List MemPlace) (hl : cs.length = 2) (h : DataW.trod enc Tryz.prog w base spare held n 107 cs = some (y, q)) : ∃ x : Rs, cs = encRs x ∧ y = dec107 x ∧ True := by
  obtain ⟨ys, n2, rfl, hm, hf⟩ := el_struct Tryz.underlying107 (by kernel_rfl) (show cs.length = 2 from hl) h
  obtain ⟨c0, c1, rfl⟩ := len2 hl
  obtain ⟨y0, y1, rfl⟩ := len2 (show ys.length = 2 from hm)
  obtain ⟨_, _, e1, e2, g0⟩ := hf 0 _ rfl
  cases e1; cases e2
  obtain ⟨a0, e1, e2, z0⟩ := DataW.trod_string Tryz.underlying9 g0
  cases e1; cases e2
  obtain ⟨_, _, e1, e2, g1⟩ := hf 1 _ rfl
  cases e1; cases e2
  obtain ⟨a1, e1, e2, z1⟩ := DataW.trod_int Tryz.underlying3 g1
  cases e1; cases e2
  exact ⟨⟨a0.data.toList, a1⟩, rfl, rfl, trivial⟩
def dec58 {H : Type} (x : RR) : DataW H := .agg [.lit (.string x.name), .lit (.int .i64 x.type), .lit (.int .i64 x.ttl), .lit (.int .i64 x.addr), .lit (.string x.target), .lit (.string x.text), .lit (.int .i64 x.serial)]
theorem el58 {H : Type} {enc : TypeId × Value → H} {w : World} {base : Nat} {spare : Nat → Bool} {held : Bool} (n : Nat) (cs : List Value) (y : DataW H) (q : List MemPlace) (hl : cs.length = 7) (h : DataW.trod enc Tryz.prog w base spare held n 58 cs = some (y, q)) : ∃ x : RR, cs = encR x ∧ y = dec58 x ∧ True := by
  obtain ⟨ys, n2, rfl, hm, hf⟩ := el_struct Tryz.underlying58 (by kernel_rfl) (show cs.length = 7 from hl) h
  obtain ⟨c0, c1, c2, c3, c4, c5, c6, rfl⟩ := len7 hl
  obtain ⟨y0, y1, y2, y3, y4, y5, y6, rfl⟩ := len7 (show ys.length = 7 from hm)
  obtain ⟨_, _, e1, e2, g0⟩ := hf 0 _ rfl
  cases e1; cases e2
  obtain ⟨a0, e1, e2, z0⟩ := DataW.trod_string Tryz.underlying9 g0
  cases e1; cases e2
  obtain ⟨_, _, e1, e2, g1⟩ := hf 1 _ rfl
  cases e1; cases e2
  obtain ⟨a1, e1, e2, z1⟩ := DataW.trod_int Tryz.underlying3 g1
  cases e1; cases e2
  obtain ⟨_, _, e1, e2, g2⟩ := hf 2 _ rfl
  cases e1; cases e2
  obtain ⟨a2, e1, e2, z2⟩ := DataW.trod_int Tryz.underlying3 g2
  cases e1; cases e2
  obtain ⟨_, _, e1, e2, g3⟩ := hf 3 _ rfl
  cases e1; cases e2
  obtain ⟨a3, e1, e2, z3⟩ := DataW.trod_int Tryz.underlying3 g3
  cases e1; cases e2
  obtain ⟨_, _, e1, e2, g4⟩ := hf 4 _ rfl
  cases e1; cases e2
  obtain ⟨a4, e1, e2, z4⟩ := DataW.trod_string Tryz.underlying9 g4
  cases e1; cases e2
  obtain ⟨_, _, e1, e2, g5⟩ := hf 5 _ rfl
  cases e1; cases e2
  obtain ⟨a5, e1, e2, z5⟩ := DataW.trod_string Tryz.underlying9 g5
  cases e1; cases e2
  obtain ⟨_, _, e1, e2, g6⟩ := hf 6 _ rfl
  cases e1; cases e2
  obtain ⟨a6, e1, e2, z6⟩ := DataW.trod_int Tryz.underlying3 g6
  cases e1; cases e2
  exact ⟨⟨a0.data.toList, a1, a2, a3, a4.data.toList, a5.data.toList, a6⟩, rfl, rfl, trivial⟩
def dec71 {H : Type} (x : Lz) : DataW H := .agg [.lit (.int .i64 x.host), .lit (.int .i64 x.state), .lit (.string x.client), .lit (.int .i64 x.til), .lit (.string x.name), .lit (.bool x.won)]
theorem el71 {H : Type} {enc : TypeId × Value → H} {w : World} {base : Nat} {spare : Nat → Bool} {held : Bool} (n : Nat) (cs : List Value) (y : DataW H) (q : List MemPlace) (hl : cs.length = 6) (h : DataW.trod enc Tryz.prog w base spare held n 71 cs = some (y, q)) : ∃ x : Lz, cs = encL x ∧ y = dec71 x ∧ True := by
  obtain ⟨ys, n2, rfl, hm, hf⟩ := el_struct Tryz.underlying71 (by kernel_rfl) (show cs.length = 6 from hl) h
  obtain ⟨c0, c1, c2, c3, c4, c5, rfl⟩ := len6 hl
  obtain ⟨y0, y1, y2, y3, y4, y5, rfl⟩ := len6 (show ys.length = 6 from hm)
  obtain ⟨_, _, e1, e2, g0⟩ := hf 0 _ rfl
  cases e1; cases e2
  obtain ⟨a0, e1, e2, z0⟩ := DataW.trod_int Tryz.underlying3 g0
  cases e1; cases e2
  obtain ⟨_, _, e1, e2, g1⟩ := hf 1 _ rfl
  cases e1; cases e2
  obtain ⟨a1, e1, e2, z1⟩ := DataW.trod_int Tryz.underlying3 g1
  cases e1; cases e2
  obtain ⟨_, _, e1, e2, g2⟩ := hf 2 _ rfl
  cases e1; cases e2
  obtain ⟨a2, e1, e2, z2⟩ := DataW.trod_string Tryz.underlying9 g2
  cases e1; cases e2
  obtain ⟨_, _, e1, e2, g3⟩ := hf 3 _ rfl
  cases e1; cases e2
  obtain ⟨a3, e1, e2, z3⟩ := DataW.trod_int Tryz.underlying3 g3
  cases e1; cases e2
  obtain ⟨_, _, e1, e2, g4⟩ := hf 4 _ rfl
  cases e1; cases e2
  obtain ⟨a4, e1, e2, z4⟩ := DataW.trod_string Tryz.underlying9 g4
  cases e1; cases e2
  obtain ⟨_, _, e1, e2, g5⟩ := hf 5 _ rfl
  cases e1; cases e2
  obtain ⟨a5, e1, e2⟩ := DataW.trod_bool Tryz.underlying4 g5
  cases e1; cases e2
  exact ⟨⟨a0, a1, a2.data.toList, a3, a4.data.toList, a5⟩, rfl, rfl, trivial⟩
theorem own : ownKnob Tryz.prog.godebug = none := by kernel_rfl
theorem laidOut : laidOutB Tryz.prog = true := by kernel_rfl
theorem tab {W : World} (h : laidMetH Tryz.prog Rows.answerNeverUptoRow.laid W) : Tab10 W := by
  rw [MakeChecks.laidMetH_plain _ _ _ (by kernel_rfl)] at h
  have h2 := laidMet.filter (fun x => x.1 == "internal/strconv.uint64pow10") h
  rw [show (Rows.answerNeverUptoRow.laid.filter fun x => x.1 == "internal/strconv.uint64pow10") = [("internal/strconv.uint64pow10", Lib.tabData .u64 Lib.pow10Tab)] by kernel_rfl] at h2
  exact Lib.tabIs_of_head (rest := []) (g := 1) (by kernel_rfl) (by kernel_rfl) Tryz.underlying224 Tryz.underlying163 (by kernel_rfl) (by kernel_rfl) h2
theorem reads (os : Os) {H : Type} (enc : TypeId × Value → H) : DataW.whole enc Tryz.prog ((World.laidAll Tryz.prog os Rows.answerNeverUptoRow.laid).forCall (fun _ _ => 0) ⟨#[], #[.agg #[.int .i64 0, .int .i64 0, .slice none 0 0, .slice none 0 0, .int .i64 0, .string (S []), .slice none 0 0], .slice none 0 0, .int .i64 0, .string (S [])], []⟩).memory Tryz.f8.params.toList Rows.answerNeverSpec.vars false #[.agg #[.int .i64 0, .int .i64 0, .slice none 0 0, .slice none 0 0, .int .i64 0, .string (S []), .slice none 0 0], .slice none 0 0, .int .i64 0, .string (S [])].toList 8 = some ([.agg [.lit (.int .i64 0), .lit (.int .i64 0), .nil, .nil, .lit (.int .i64 0), .lit (.string []), .nil], .nil, .lit (.int .i64 0), .lit (.string [])], [], []) := by kernel_rfl
theorem inOk (os : Os) : Input.okWideB Tryz.prog ((World.laidAll Tryz.prog os Rows.answerNeverUptoRow.laid).forCall (fun _ _ => 0) ⟨#[], #[.agg #[.int .i64 0, .int .i64 0, .slice none 0 0, .slice none 0 0, .int .i64 0, .string (S []), .slice none 0 0], .slice none 0 0, .int .i64 0, .string (S [])], []⟩) 8 ⟨#[], #[.agg #[.int .i64 0, .int .i64 0, .slice none 0 0, .slice none 0 0, .int .i64 0, .string (S []), .slice none 0 0], .slice none 0 0, .int .i64 0, .string (S [])], []⟩ = true := by kernel_rfl
set_option maxRecDepth 100000 in
set_option maxHeartbeats 4000000 in
theorem lifted (os : Os) (started : os.Started) (H : Type) (enc : TypeId × Value → H) (F : Stop.Interp) :
    ReturnsInHanded {} Tryz.checked os 8 .any ((Rows.OpenSpec.upto Rows.answerNeverSpec).preRow enc Tryz.prog Tryz.f8 Rows.answerNeverUptoRow.domain false Rows.answerNeverUptoRow.laid) (((Rows.OpenSpec.upto Rows.answerNeverSpec).at F).post enc Tryz.prog Tryz.f8 false true false false) := by
  have hok := inOk os
  refine returnsInHanded_of_row (C := Tryz.checked) (s := Rows.OpenSpec.upto Rows.answerNeverSpec) own started (by kernel_rfl) Tryz.func8
    ⟨World.laidAll Tryz.prog os Rows.answerNeverUptoRow.laid, fun _ _ => 0, ⟨#[], #[.agg #[.int .i64 0, .int .i64 0, .slice none 0 0, .slice none 0 0, .int .i64 0, .string (S []), .slice none 0 0], .slice none 0 0, .int .i64 0, .string (S [])], []⟩, World.laidAll_os _ _ _, World.shaped_of_ZipB (by kernel_rfl) (by kernel_rfl), (Input.okWide_of_okWideB (base := 0) hok).1, (Input.okWide_of_okWideB hok).2,
      OpenSpec.preRow_of_cond 8 (reads os enc) (by kernel_rfl) (fun k hk => by cases hk; kernel_rfl) (by kernel_rfl) (by rw [MakeChecks.laidMetH_plain _ _ _ (by kernel_rfl)]; exact laidMet_laidAll _ (by kernel_rfl) (by kernel_rfl)),
      by simp only [Assume.holds]; exact ⟨by simp, by simp, fun _ => Modest.zero, by simp, by simp⟩⟩ ?_
  intro W base args ds gs before hval0 hW _ hcond _ hL _ _
  have hk := hcond _ rfl
  have ht := tab hL
  have hval : ∀ (j : Nat) t v, Tryz.f8.params[j]? = some t → args[j]? = some v → Value.okWide Tryz.prog W .any base t v := hval0
  have hW' := hW
  obtain ⟨p, q, hA0, hV, rfl, hfz, hnd⟩ := hW
  have hA : DataW.TrodAll enc Tryz.prog W 0 (fun _ => true) true Tryz.f8.params.toList args.toList ds p := hA0
  rw [Tryz.params8] at hA hval
  obtain ⟨v0, vs0, d0, ds0, p0, q0, hargs, rfl, rfl, h0, r0⟩ := trodAll_cons hA
  obtain ⟨v1, vs1, d1, ds1, p1, q1, rfl, rfl, rfl, h1, r1⟩ := trodAll_cons r0
  obtain ⟨v2, vs2, d2, ds2, p2, q2, rfl, rfl, rfl, h2, r2⟩ := trodAll_cons r1
  obtain ⟨v3, vs3, d3, ds3, p3, q3, rfl, rfl, rfl, h3, r3⟩ := trodAll_cons r2
  obtain ⟨rfl, rfl, rfl⟩ := trodAll_nil r3
  obtain rfl : args = #[v0, v1, v2, v3] := by cases args; simp_all
  obtain ⟨rfl, rfl⟩ := trodVars_none hV
  have hb := bulk_all hk
  have b0 : Rows.uptoBulk d0 ≤ 1048576 := Nat.le_trans (bulk_part (by simp)) hb
  have b1 : Rows.uptoBulk d1 ≤ 1048576 := Nat.le_trans (bulk_part (by simp)) hb
  have b2 : Rows.uptoBulk d2 ≤ 1048576 := Nat.le_trans (bulk_part (by simp)) hb
  have b3 : Rows.uptoBulk d3 ≤ 1048576 := Nat.le_trans (bulk_part (by simp)) hb
  clear hb
  have k0 := h0
  have lt0 : ∀ x ∈ p0, x.block < W.heap.size := by obtain ⟨m, hm⟩ := k0; exact DataW.trod_lt m _ _ _ hm
  obtain ⟨cs0, ys0, n0, rfl, hl0, rfl, hm0, hf0⟩ := open_struct Tryz.underlying26 (by kernel_rfl) (by kernel_rfl) (hval 0 26 v0 rfl rfl) h0
  obtain ⟨c0_0, c0_1, c0_2, c0_3, c0_4, c0_5, c0_6, rfl⟩ := len7 (show cs0.length = 7 from hl0)
  obtain ⟨y0_0, y0_1, y0_2, y0_3, y0_4, y0_5, y0_6, rfl⟩ := len7 (show ys0.length = 7 from hm0)
  obtain ⟨_, _, e1, e2, g0_0⟩ := hf0 0 _ rfl
  cases e1; cases e2
  obtain ⟨a0_0, e1, e2, z0_0⟩ := DataW.trod_int Tryz.underlying3 g0_0
  cases e1; cases e2; clear g0_0
  obtain ⟨_, _, e1, e2, g0_1⟩ := hf0 1 _ rfl
  cases e1; cases e2
  obtain ⟨a0_1, e1, e2, z0_1⟩ := DataW.trod_int Tryz.underlying3 g0_1
  cases e1; cases e2; clear g0_1
  obtain ⟨_, _, e1, e2, g0_2⟩ := hf0 2 _ rfl
  cases e1; cases e2
  obtain ⟨a0_2, k0_2, x0_2, rfl, i0_2, z0_2, D0_2, m0_2⟩ := open_rowsF (ec := encI) (dec := fun x => .lit (.int .i64 x)) (φ := fun x => (Lit.int .i64 x).wf = true) (m := 1) Tryz.underlying22 (fun _ => rfl) (by decide) (by kernel_rfl) (fun n cs y q hl h => el_int Tryz.underlying3 hl h) g0_2
  obtain ⟨s0_2, t0_2, u0_2⟩ := bulk_rows D0_2
  obtain ⟨_, _, e1, e2, g0_3⟩ := hf0 3 _ rfl
  cases e1; cases e2
  obtain ⟨a0_3, k0_3, x0_3, rfl, i0_3, z0_3, D0_3, m0_3⟩ := open_rowsF (ec := encRs) (dec := dec107) (φ := fun _ => True) (m := 2) Tryz.underlying23 (fun _ => rfl) (by decide) (by kernel_rfl) el107 g0_3
  obtain ⟨s0_3, t0_3, u0_3⟩ := bulk_rows D0_3
  obtain ⟨_, _, e1, e2, g0_4⟩ := hf0 4 _ rfl
  cases e1; cases e2
  obtain ⟨a0_4, e1, e2, z0_4⟩ := DataW.trod_int Tryz.underlying3 g0_4
  cases e1; cases e2; clear g0_4
  obtain ⟨_, _, e1, e2, g0_5⟩ := hf0 5 _ rfl
  cases e1; cases e2
  obtain ⟨a0_5, e1, e2, z0_5⟩ := DataW.trod_string Tryz.underlying9 g0_5
  cases e1; cases e2; clear g0_5
  obtain ⟨_, _, e1, e2, g0_6⟩ := hf0 6 _ rfl
  cases e1; cases e2
  obtain ⟨a0_6, k0_6, x0_6, rfl, i0_6, z0_6, D0_6, m0_6⟩ := open_rowsF (ec := encR) (dec := dec58) (φ := fun _ => True) (m := 7) Tryz.underlying24 (fun _ => rfl) (by decide) (by kernel_rfl) el58 g0_6
  obtain ⟨s0_6, t0_6, u0_6⟩ := bulk_rows D0_6
  simp only [Rows.uptoBulk, Rows.uptoBulkAll, List.map_cons, List.map_nil] at b0
  have bb0_2 : Rows.uptoBulk y0_2.1 ≤ 1048576 := by omega
  replace s0_2 := Nat.le_trans s0_2 bb0_2
  replace t0_2 := fun x hx => Nat.le_trans (t0_2 x hx) bb0_2
  replace u0_2 := Nat.le_trans u0_2 bb0_2
  have bb0_3 : Rows.uptoBulk y0_3.1 ≤ 1048576 := by omega
  replace s0_3 := Nat.le_trans s0_3 bb0_3
  replace t0_3 := fun x hx => Nat.le_trans (t0_3 x hx) bb0_3
  replace u0_3 := Nat.le_trans u0_3 bb0_3
  have n0_3_0 : ∀ x ∈ x0_3, x.client.length ≤ 1048576 := fun x hx => by have h := t0_3 x hx; simp only [dec107, Rows.uptoBulk, Rows.uptoBulkAll, List.map_cons, List.map_nil] at h; omega
  have bb0_6 : Rows.uptoBulk y0_6.1 ≤ 1048576 := by omega
  replace s0_6 := Nat.le_trans s0_6 bb0_6
  replace t0_6 := fun x hx => Nat.le_trans (t0_6 x hx) bb0_6
  replace u0_6 := Nat.le_trans u0_6 bb0_6
  have n0_6_0 : ∀ x ∈ x0_6, x.name.length ≤ 1048576 := fun x hx => by have h := t0_6 x hx; simp only [dec58, Rows.uptoBulk, Rows.uptoBulkAll, List.map_cons, List.map_nil] at h; omega
  have n0_6_4 : ∀ x ∈ x0_6, x.target.length ≤ 1048576 := fun x hx => by have h := t0_6 x hx; simp only [dec58, Rows.uptoBulk, Rows.uptoBulkAll, List.map_cons, List.map_nil] at h; omega
  have n0_6_5 : ∀ x ∈ x0_6, x.text.length ≤ 1048576 := fun x hx => by have h := t0_6 x hx; simp only [dec58, Rows.uptoBulk, Rows.uptoBulkAll, List.map_cons, List.map_nil] at h; omega
  have k1 := h1
  have lt1 : ∀ x ∈ p1, x.block < W.heap.size := by obtain ⟨m, hm⟩ := k1; exact DataW.trod_lt m _ _ _ hm
  obtain ⟨a1, c1, x1, rfl, i1, y1, D1, m1⟩ := open_rows (ec := encL) (dec := dec71) (φ := fun _ => True) (m := 6) Tryz.underlying27 (fun _ => rfl) (by decide) (by kernel_rfl) el71 (hval 1 27 v1 rfl rfl) h1
  obtain ⟨s1, t1, u1⟩ := bulk_rows D1
  replace s1 := Nat.le_trans s1 b1
  replace t1 := fun x hx => Nat.le_trans (t1 x hx) b1
  replace u1 := Nat.le_trans u1 b1
  have n1_2 : ∀ x ∈ x1, x.client.length ≤ 1048576 := fun x hx => by have h := t1 x hx; simp only [dec71, Rows.uptoBulk, Rows.uptoBulkAll, List.map_cons, List.map_nil] at h; omega
  have n1_4 : ∀ x ∈ x1, x.name.length ≤ 1048576 := fun x hx => by have h := t1 x hx; simp only [dec71, Rows.uptoBulk, Rows.uptoBulkAll, List.map_cons, List.map_nil] at h; omega
  have k2 := h2
  have lt2 : ∀ x ∈ p2, x.block < W.heap.size := by obtain ⟨m, hm⟩ := k2; exact DataW.trod_lt m _ _ _ hm
  obtain ⟨a2, rfl, rfl, rfl, w2⟩ := open_int Tryz.underlying3 (hval 2 3 v2 rfl rfl) h2
  have k3 := h3
  have lt3 : ∀ x ∈ p3, x.block < W.heap.size := by obtain ⟨m, hm⟩ := k3; exact DataW.trod_lt m _ _ _ hm
  obtain ⟨a3, rfl, rfl, rfl, y3⟩ := open_string Tryz.underlying9 (hval 3 9 v3 rfl rfl) h3
  rw [bulk_str] at b3
  have l3 : a3.data.toList.length ≤ 1048576 := by omega
  clear hA0 hval0
  refine (Fn.below (law21_AnswerNever ⟨a0_0, a0_1, x0_2, x0_3, a0_4, a0_5.data.toList, x0_6⟩ (a0_2, k0_2) (a0_3, k0_3) (a0_6, k0_6) x1 a1 c1 a2 a3.data.toList W ⟨i0_2, i0_3, i0_6⟩ i1 ⟨s0_2, s0_3, s0_6, (by dsimp only; omega), n0_3_0, fun r hr => ⟨n0_6_0 r hr, n0_6_4 r hr⟩⟩ ⟨s1, n1_4, n1_2⟩ l3 ht)).mono fun e W' ⟨he, bel⟩ => ?_
  subst he
  exact ⟨_, rfl, _, _, _, [], _, [], hW', trodAll_mk1 (shut_bool Tryz.underlying4 _), (trodAll_cons_mk (Below.trod laidOut (by kernel_rfl) (of_decide_eq_true (by kernel_rfl)) k0 bel lt0) (trodAll_cons_mk (Below.trod laidOut (by kernel_rfl) (of_decide_eq_true (by kernel_rfl)) k1 bel lt1) (trodAll_cons_mk (Below.trod laidOut (by kernel_rfl) (of_decide_eq_true (by kernel_rfl)) k2 bel lt2) (trodAll_cons_mk (Below.trod laidOut (by kernel_rfl) (of_decide_eq_true (by kernel_rfl)) k3 bel lt3) trodAll_mk0)))), rfl, bel.frame _, fun h => by cases h⟩
set_option maxRecDepth 100000 in
theorem closed : joinedFacts Tryz.pinned.checked.prog 8 Tryz.f8 (Rows.OpenSpec.upto Rows.answerNeverSpec).bare Rows.answerNeverUptoRow = true := by
  show joinedFacts Tryz.prog 8 Tryz.f8 (Rows.OpenSpec.upto Rows.answerNeverSpec).bare Rows.answerNeverUptoRow = true
  unfold joinedFacts
  refine andI (andI (andI (andI (andI (andI (andI (andI (andI (andI (andI (andI (andI (andI (andI (andI (andI (andI (andI (andI (andI (andI (andI (andI (andI (andI (andI (andI (andI (andI (andI ?_ ?_) ?_) ?_) ?_) ?_) ?_) ?_) ?_) ?_) ?_) ?_) ?_) ?_) ?_) ?_) ?_) ?_) ?_) ?_) ?_) ?_) ?_) ?_) ?_) ?_) ?_) ?_) ?_) ?_) ?_) ?_
  · kernel_rfl
  · kernel_rfl
  · kernel_rfl
  · kernel_rfl
  · kernel_rfl
  · kernel_rfl
  · kernel_rfl
  · kernel_rfl
  · kernel_rfl
  · kernel_rfl
  · kernel_rfl
  · kernel_rfl
  · kernel_rfl
  · kernel_rfl
  · kernel_rfl
  · kernel_rfl
  · kernel_rfl
  · kernel_rfl
  · kernel_rfl
  · kernel_rfl
  · kernel_rfl
  · kernel_rfl
  · kernel_rfl
  · kernel_rfl
  · kernel_rfl
  · exact seat_enter
  · rw [seat_lifts]; rfl
  · rw [seat_make]; rfl
  · kernel_rfl
  · kernel_rfl
  · kernel_rfl
  · kernel_rfl
theorem over : Rows.AnswerNeverUptoSaid :=
  OpenClaim.holds_of_cond 8 Tryz.f8 rfl rfl rfl rfl rfl rfl rfl ⟨rfl, rfl, rfl, rfl, rfl⟩ rfl rfl rfl rfl rfl (by kernel_rfl) Tryz.func8 closed
    (of_decide_eq_true (by kernel_rfl)) (by unfold Func.isWrapper; first | (rw [if_pos (by decide +kernel)]; kernel_rfl) | (rw [if_neg (by decide +kernel)]; exact ⟨rfl, rfl⟩))
    (fun os started H enc _ F => by rw [OpenClaim.pre_eq_preRow]; exact lifted os started H enc F)
theorem plain (f : FuncId) (fn : Func) (hf : Tryz.pinned.checked.prog.funcNamed "pinfold/pinfoldlaw21.AnswerNever" = some f) (hfn : Tryz.pinned.checked.prog.funcs[f]? = some fn) :
    false = Tryz.pinned.checked.prog.looks [] ∧ ∀ (j : Nat) t, fn.params[j]? = some t → Tryz.pinned.checked.prog.wantsStandIn t = false := by
  obtain rfl : f = 8 := Option.some.inj ((show Tryz.prog.funcNamed "pinfold/pinfoldlaw21.AnswerNever" = some 8 by kernel_rfl).symm.trans hf) |>.symm
  obtain rfl : fn = Tryz.f8 := (Option.some.inj (Tryz.func8.symm.trans hfn)).symm
  refine ⟨by kernel_rfl, fun j t ht => ?_⟩
  rw [Tryz.params8] at ht
  have hm : t ∈ [26, 27, 3, 9] := by simpa using Array.mem_of_getElem? ht
  have hall : ([26, 27, 3, 9].all fun u => !Tryz.prog.wantsStandIn u) = true := by kernel_rfl
  exact (show Tryz.prog.wantsStandIn t = false by simpa using List.all_eq_true.1 hall t hm)
theorem card : Rows.AnswerNeverUptoCardSaid :=
  Claim7.holds_tied_plain_at .later [] _ _ _ _ over (fun _ h => by cases h) (by kernel_rfl) (fun _ h => by cases h) answerNeverUpto_row_tie rfl ⟨rfl, rfl⟩ (by kernel_rfl) rfl plain (by kernel_rfl)
end Go.Proofs.YtfmdaijkgjkmpaaGreatDoor.RowAnswerNever
namespace Go.Proofs.YtfmdaijkgjkmpaaGreatDoor
/-- The statement. -/
theorem answerNeverUptoCard_holds : Rows.AnswerNeverUptoCardSaid := RowAnswerNever.card
#print axioms answerNeverUptoCard_holds
end Go.Proofs.YtfmdaijkgjkmpaaGreatDoor
