/- The row of the statement ScriptRows, in its narrower form: what comes in is of bulk at most 1048576. No condition beyond the row's own. -/
import Derived.Test.YtagiajnpnjakhaaDoorL24b
import Derived.Test.YtagiajnpnjakhaaDoorIo
import Derived.Test.YtagiajnpnjakhaaDoorCards
import Derived.Test.YtagiajnpnjakhaaDoorTie
import Derived.WalkKit
import Derived.OpenShut
import Derived.Deep.DeepHandedRow
import Derived.Lib.LaidTab
import Derived.LaidSub
import Derived.Stop.LaidErr
import Derived.Lay
import Derived.SevenTiedAt
namespace Go.Proofs.YtagiajnpnjakhaaDoor.RowScriptRows
open Go Go.ChangeShapes Go.WideShapes Go.ChangeAt Go.RowKit Go.Deep
open Go.ChangeMaps (open_string shut_string)
set_option linter.unusedVariables false
set_option linter.unusedSimpArgs false
def dec73 {H : Type} (x : Ac) : DataW H := .agg [.lit (.int .i64 x.kind), .lit (.string x.text), .lit (.int .i64 x.by_), .lit (.int .i64 x.cut), .lit (.int .i64 x.keep)]
theorem el73 {H : Type} {enc : TypeId × Value → H} {w : World} {base : Nat} {spare : Nat → Bool} {held : Bool} (n : Nat) (cs : List Value) (y : DataW H) (q : List MemPlace) (hl : cs.length = 5) (h : DataW.trod enc Tryd.prog w base spare held n 73 cs = some (y, q)) : ∃ x : Ac, cs = encA x ∧ y = dec73 x ∧ True := by
  obtain ⟨ys, n2, rfl, hm, hf⟩ := el_struct Tryd.underlying73 (by kernel_rfl) (show cs.length = 5 from hl) h
  obtain ⟨c0, c1, c2, c3, c4, rfl⟩ := len5 hl
  obtain ⟨y0, y1, y2, y3, y4, rfl⟩ := len5 (show ys.length = 5 from hm)
  obtain ⟨_, _, e1, e2, g0⟩ := hf 0 _ rfl
  cases e1; cases e2
  obtain ⟨a0, e1, e2, z0⟩ := DataW.trod_int Tryd.underlying3 g0
  cases e1; cases e2
  obtain ⟨_, _, e1, e2, g1⟩ := hf 1 _ rfl
  cases e1; cases e2
  obtain ⟨a1, e1, e2, z1⟩ := DataW.trod_string Tryd.underlying9 g1
  cases e1; cases e2
  obtain ⟨_, _, e1, e2, g2⟩ := hf 2 _ rfl
  cases e1; cases e2
  obtain ⟨a2, e1, e2, z2⟩ := DataW.trod_int Tryd.underlying3 g2
  cases e1; cases e2
  obtain ⟨_, _, e1, e2, g3⟩ := hf 3 _ rfl
  cases e1; cases e2
  obtain ⟨a3, e1, e2, z3⟩ := DataW.trod_int Tryd.underlying3 g3
  cases e1; cases e2
  obtain ⟨_, _, e1, e2, g4⟩ := hf 4 _ rfl
  cases e1; cases e2
  obtain ⟨a4, e1, e2, z4⟩ := DataW.trod_int Tryd.underlying3 g4
  cases e1; cases e2
  exact ⟨⟨a0, a1.data.toList, a2, a3, a4⟩, rfl, rfl, trivial⟩
theorem rows_cap {H : Type} {enc : TypeId × Value → H} {P : Program} {w : World} {base : Nat} {spare : Nat → Bool} {held : Bool} {t e : TypeId} {a : Option Addr} {len cap : Nat} {d : DataW H} {p : List MemPlace} (ht : P.underlying t = some (.slice e)) (h : DataW.Trod enc P w base spare held t (.slice a len cap) d p) : len ≤ cap ∧ cap ≤ 9223372036854775807 := by
  obtain ⟨fuel, hf⟩ := h
  rcases open_slice ht hf with ⟨h1, _⟩ | ⟨q, len', cap', m', n, D, Pl, h1, _, hl, hm, _⟩
  · simp only [Value.cells, List.cons.injEq, Value.slice.injEq, and_true] at h1
    obtain ⟨_, h2, h3⟩ := h1
    omega
  · simp only [Value.cells, List.cons.injEq, Value.slice.injEq, and_true] at h1
    obtain ⟨_, h2, h3⟩ := h1
    unfold maxLen at hm; omega
theorem own : ownKnob Tryd.prog.godebug = none := by kernel_rfl
theorem laidOut : laidOutB Tryd.prog = true := by kernel_rfl
theorem tab {W : World} (h : laidMetH Tryd.prog Rows.scriptRowsUptoRow.laid W) : Tab10 W := by
  rw [MakeChecks.laidMetH_plain _ _ _ (by kernel_rfl)] at h
  have h2 := laidMet.filter (fun x => x.1 == "internal/strconv.uint64pow10") h
  rw [show (Rows.scriptRowsUptoRow.laid.filter fun x => x.1 == "internal/strconv.uint64pow10") = [("internal/strconv.uint64pow10", Lib.tabData .u64 Lib.pow10Tab)] by kernel_rfl] at h2
  exact Lib.tabIs_of_head (rest := []) (g := 3) (by kernel_rfl) (by kernel_rfl) Tryd.underlying169 Tryd.underlying95 (by kernel_rfl) (by kernel_rfl) h2
theorem star : "*" ++ "errors.errorString" = "*errors.errorString" := by decide
theorem rowErr (u : TypeId) (h : Tryd.prog.typeName? 3 u = some "*errors.errorString") : u = 175 :=
  typeName_ptr_named (nm := "errors.errorString") (by rw [star]; kernel_rfl) (by kernel_rfl) (by decide) u (by rw [star]; exact h)
theorem errv {W : World} (h : laidMetH Tryd.prog Rows.scriptRowsUptoRow.laid W) : ErrV W := by
  rw [MakeChecks.laidMetH_plain _ _ _ (by kernel_rfl)] at h
  have h1 := laidMet.filter (fun x => x.1 == "strconv.ErrSyntax") h
  have h2 := laidMet.filter (fun x => x.1 == "strconv.ErrRange") h
  rw [show (Rows.scriptRowsUptoRow.laid.filter fun x => x.1 == "strconv.ErrSyntax") = [("strconv.ErrSyntax", Rows.laid_strconv_ErrSyntax)] by kernel_rfl] at h1
  rw [show (Rows.scriptRowsUptoRow.laid.filter fun x => x.1 == "strconv.ErrRange") = [("strconv.ErrRange", Rows.laid_strconv_ErrRange)] by kernel_rfl] at h2
  obtain ⟨a1, s1, v1, -⟩ := laid_sentinel (g := 1) (r := []) (ti := 123) (ts := 9) h1 (by kernel_rfl) (by kernel_rfl) Tryd.underlying123 rowErr Tryd.underlying175 Tryd.underlying177 rfl rfl Tryd.underlying9 (by kernel_rfl) (by kernel_rfl)
  obtain ⟨a2, s2, v2, -⟩ := laid_sentinel (g := 2) (r := []) (ti := 123) (ts := 9) h2 (by kernel_rfl) (by kernel_rfl) Tryd.underlying123 rowErr Tryd.underlying175 Tryd.underlying177 rfl rfl Tryd.underlying9 (by kernel_rfl) (by kernel_rfl)
  have e1 : W.cell? ⟨1, 0, none⟩ = some (.iface 175 (.pointer (some a1))) := by have h0 := World.var?_cell (show Tryd.prog.globalNamed "strconv.ErrSyntax" = some 1 by kernel_rfl) v1 0; simpa using h0
  have e2 : W.cell? ⟨2, 0, none⟩ = some (.iface 175 (.pointer (some a2))) := by have h0 := World.var?_cell (show Tryd.prog.globalNamed "strconv.ErrRange" = some 2 by kernel_rfl) v2 0; simpa using h0
  exact ⟨⟨_, _, e1⟩, ⟨_, _, e2⟩⟩
theorem reads (os : Os) {H : Type} (enc : TypeId × Value → H) : DataW.whole enc Tryd.prog ((World.laidAll Tryd.prog os Rows.scriptRowsUptoRow.laid).forCall (fun _ _ => 0) ⟨#[], #[.slice none 0 0, .int .i64 0], []⟩).memory Tryd.f11.params.toList Rows.scriptRowsSpec.vars false #[.slice none 0 0, .int .i64 0].toList 8 = some ([.nil, .lit (.int .i64 0)], [], []) := by kernel_rfl
theorem inOk (os : Os) : Input.okWideB Tryd.prog ((World.laidAll Tryd.prog os Rows.scriptRowsUptoRow.laid).forCall (fun _ _ => 0) ⟨#[], #[.slice none 0 0, .int .i64 0], []⟩) 11 ⟨#[], #[.slice none 0 0, .int .i64 0], []⟩ = true := by kernel_rfl
set_option maxRecDepth 100000 in
set_option maxHeartbeats 4000000 in
theorem lifted (os : Os) (started : os.Started) (H : Type) (enc : TypeId × Value → H) (F : Stop.Interp) :
    ReturnsInHanded {} Tryd.checked os 11 .any ((Rows.OpenSpec.upto Rows.scriptRowsSpec).preRow enc Tryd.prog Tryd.f11 Rows.scriptRowsUptoRow.domain false Rows.scriptRowsUptoRow.laid) (((Rows.OpenSpec.upto Rows.scriptRowsSpec).at F).post enc Tryd.prog Tryd.f11 false true false false) := by
  have hok := inOk os
  refine returnsInHanded_of_row (C := Tryd.checked) (s := Rows.OpenSpec.upto Rows.scriptRowsSpec) own started (by kernel_rfl) Tryd.func11
    ⟨World.laidAll Tryd.prog os Rows.scriptRowsUptoRow.laid, fun _ _ => 0, ⟨#[], #[.slice none 0 0, .int .i64 0], []⟩, World.laidAll_os _ _ _, World.shaped_of_ZipB (by kernel_rfl) (by kernel_rfl), (Input.okWide_of_okWideB (base := 0) hok).1, (Input.okWide_of_okWideB hok).2,
      OpenSpec.preRow_of_cond 8 (reads os enc) (by kernel_rfl) (fun k hk => by cases hk; kernel_rfl) (by kernel_rfl) (by rw [MakeChecks.laidMetH_plain _ _ _ (by kernel_rfl)]; exact laidMet_laidAll _ (by kernel_rfl) (by kernel_rfl)),
      by simp only [Assume.holds]; exact ⟨by simp, by simp, fun _ => Modest.zero, by simp, by simp⟩⟩ ?_
  intro W base args ds gs before hval0 hW _ hcond _ hL _ _
  have hk := hcond _ rfl
  have ht := tab hL
  have he := errv hL
  have hval : ∀ (j : Nat) t v, Tryd.f11.params[j]? = some t → args[j]? = some v → Value.okWide Tryd.prog W .any base t v := hval0
  have hW' := hW
  obtain ⟨p, q, hA0, hV, rfl, hfz, hnd⟩ := hW
  have hA : DataW.TrodAll enc Tryd.prog W 0 (fun _ => true) true Tryd.f11.params.toList args.toList ds p := hA0
  rw [Tryd.params11] at hA hval
  obtain ⟨v0, vs0, d0, ds0, p0, q0, hargs, rfl, rfl, h0, r0⟩ := trodAll_cons hA
  obtain ⟨v1, vs1, d1, ds1, p1, q1, rfl, rfl, rfl, h1, r1⟩ := trodAll_cons r0
  obtain ⟨rfl, rfl, rfl⟩ := trodAll_nil r1
  obtain rfl : args = #[v0, v1] := by cases args; simp_all
  obtain ⟨rfl, rfl⟩ := trodVars_none hV
  have hb := bulk_all hk
  have b0 : Rows.uptoBulk d0 ≤ 1048576 := Nat.le_trans (bulk_part (by simp)) hb
  have b1 : Rows.uptoBulk d1 ≤ 1048576 := Nat.le_trans (bulk_part (by simp)) hb
  clear hb
  have k0 := h0
  have lt0 : ∀ x ∈ p0, x.block < W.heap.size := by obtain ⟨m, hm⟩ := k0; exact DataW.trod_lt m _ _ _ hm
  obtain ⟨a0, c0, x0, rfl, i0, y0, D0, m0⟩ := open_rows (ec := encA) (dec := dec73) (φ := fun _ => True) (m := 5) Tryd.underlying60 (fun _ => rfl) (by decide) (by kernel_rfl) el73 (hval 0 60 v0 rfl rfl) h0
  obtain ⟨s0, t0, u0⟩ := bulk_rows D0
  replace s0 := Nat.le_trans s0 b0
  replace t0 := fun x hx => Nat.le_trans (t0 x hx) b0
  replace u0 := Nat.le_trans u0 b0
  have n0_1 : ∀ x ∈ x0, x.text.length ≤ 1048576 := fun x hx => by have h := t0 x hx; simp only [dec73, Rows.uptoBulk, Rows.uptoBulkAll, List.map_cons, List.map_nil] at h; omega
  have k1 := h1
  have lt1 : ∀ x ∈ p1, x.block < W.heap.size := by obtain ⟨m, hm⟩ := k1; exact DataW.trod_lt m _ _ _ hm
  obtain ⟨a1, rfl, rfl, rfl, w1⟩ := open_int Tryd.underlying3 (hval 1 3 v1 rfl rfl) h1
  clear hA0 hval0
  refine (Fn.below (law24_ScriptRows x0 a0 c0 a1 W i0 ⟨s0, n0_1⟩ (rows_cap Tryd.underlying60 k0).1 (rows_cap Tryd.underlying60 k0).2 ht he)).mono fun e W' ⟨he, bel⟩ => ?_
  subst he
  exact ⟨_, rfl, _, _, _, [], _, [], hW', trodAll_mk1 (shut_bool Tryd.underlying4 _), (trodAll_cons_mk (Below.trod laidOut (by kernel_rfl) (of_decide_eq_true (by kernel_rfl)) k0 bel lt0) (trodAll_cons_mk (Below.trod laidOut (by kernel_rfl) (of_decide_eq_true (by kernel_rfl)) k1 bel lt1) trodAll_mk0)), rfl, bel.frame _, fun h => by cases h⟩
set_option maxRecDepth 100000 in
theorem closed : joinedFacts Tryd.pinned.checked.prog 11 Tryd.f11 (Rows.OpenSpec.upto Rows.scriptRowsSpec).bare Rows.scriptRowsUptoRow = true := by
  show joinedFacts Tryd.prog 11 Tryd.f11 (Rows.OpenSpec.upto Rows.scriptRowsSpec).bare Rows.scriptRowsUptoRow = true
  unfold joinedFacts
  refine andI (andI (andI (andI (andI (andI (andI (andI (andI (andI (andI (andI (andI (andI (andI (andI (andI (andI (andI (andI (andI (andI (andI (andI (andI (andI (andI (andI (andI (andI (andI ?_ ?_) ?_) ?_) ?_) ?_) ?_) ?_) ?_) ?_) ?_) ?_) ?_) ?_) ?_) ?_) ?_) ?_) ?_) ?_) ?_) ?_) ?_) ?_) ?_) ?_) ?_) ?_) ?_) ?_) ?_) ?_
  · kernel_rfl
  · kernel_rfl
  · kernel_rfl
  · kernel_rfl
  · kernel_rfl
  · kernel_rfl
  · kernel_rfl
  · kernel_rfl
  · kernel_rfl
  · kernel_rfl
  · kernel_rfl
  · kernel_rfl
  · kernel_rfl
  · kernel_rfl
  · kernel_rfl
  · kernel_rfl
  · kernel_rfl
  · kernel_rfl
  · kernel_rfl
  · kernel_rfl
  · kernel_rfl
  · kernel_rfl
  · kernel_rfl
  · kernel_rfl
  · kernel_rfl
  · exact seat_enter
  · rw [seat_lifts]; rfl
  · rw [seat_make]; rfl
  · kernel_rfl
  · kernel_rfl
  · kernel_rfl
  · kernel_rfl
theorem over : Rows.ScriptRowsUptoSaid :=
  OpenClaim.holds_of_cond 11 Tryd.f11 rfl rfl rfl rfl rfl rfl rfl ⟨rfl, rfl, rfl, rfl, rfl⟩ rfl rfl rfl rfl rfl (by kernel_rfl) Tryd.func11 closed
    (of_decide_eq_true (by kernel_rfl)) (by unfold Func.isWrapper; first | (rw [if_pos (by decide +kernel)]; kernel_rfl) | (rw [if_neg (by decide +kernel)]; exact ⟨rfl, rfl⟩))
    (fun os started H enc _ F => by rw [OpenClaim.pre_eq_preRow]; exact lifted os started H enc F)
theorem plain (f : FuncId) (fn : Func) (hf : Tryd.pinned.checked.prog.funcNamed "pinfold/pinfoldlaw24.ScriptRows" = some f) (hfn : Tryd.pinned.checked.prog.funcs[f]? = some fn) :
    true = Tryd.pinned.checked.prog.looks [] ∧ ∀ (j : Nat) t, fn.params[j]? = some t → Tryd.pinned.checked.prog.wantsStandIn t = false := by
  obtain rfl : f = 11 := Option.some.inj ((show Tryd.prog.funcNamed "pinfold/pinfoldlaw24.ScriptRows" = some 11 by kernel_rfl).symm.trans hf) |>.symm
  obtain rfl : fn = Tryd.f11 := (Option.some.inj (Tryd.func11.symm.trans hfn)).symm
  refine ⟨by kernel_rfl, fun j t ht => ?_⟩
  rw [Tryd.params11] at ht
  have hm : t ∈ [60, 3] := by simpa using Array.mem_of_getElem? ht
  have hall : ([60, 3].all fun u => !Tryd.prog.wantsStandIn u) = true := by kernel_rfl
  exact (show Tryd.prog.wantsStandIn t = false by simpa using List.all_eq_true.1 hall t hm)
theorem card : Rows.ScriptRowsUptoCardSaid :=
  Claim7.holds_tied_plain_at .later [] _ _ _ _ over (fun _ h => by cases h) (by kernel_rfl) (fun _ h => by cases h) scriptRowsUpto_row_tie rfl ⟨rfl, rfl⟩ (by kernel_rfl) rfl plain (by kernel_rfl)
end Go.Proofs.YtagiajnpnjakhaaDoor.RowScriptRows
namespace Go.Proofs.YtagiajnpnjakhaaDoor
/-- The statement. -/
theorem scriptRowsUptoCard_holds : Rows.ScriptRowsUptoCardSaid := RowScriptRows.card
#print axioms scriptRowsUptoCard_holds
end Go.Proofs.YtagiajnpnjakhaaDoor
