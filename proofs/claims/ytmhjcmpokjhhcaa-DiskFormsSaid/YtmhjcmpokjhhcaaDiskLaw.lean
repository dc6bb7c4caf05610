/- The statements over package disk, each by a walk over the contracts of the calls. Condition: the arguments are not longer than some 2^20 letters. -/
import Derived.Test.YtmhjcmpokjhhcaaDisk
set_option linter.unusedVariables false
set_option linter.unusedSimpArgs false
namespace Go.Proofs.Ytmhjcmpokjhhcaa
open Go Go.RowKit
theorem Dk.turned_len (d d' : Dk) (m : Bool) : (d.turned m d').1.log.length ≤ 2048 ∧ (d.turned m d').1.nxt.length ≤ 2048 := by
  unfold Dk.turned; split
  · split
    · simp; omega
    · simp [Dk.zero]
  · simp [Dk.zero]
abbrev top : Nat := 140737488351232
section
variable (log nxt s : List UInt8) (syn kep k : Int) (bes : Bool) (w : World)
theorem x_May (h1 : log.length ≤ top) (h2 : nxt.length ≤ top) : Fn Try.prog 26 [.agg #[.string (S log), .int .i64 syn, .bool bes, .string (S nxt), .int .i64 kep]] w [] fun v L' => v = .bool (Dk.may ⟨log, syn, bes, nxt, kep⟩) ∧ L' = [] :=
  disk_May ⟨log, syn, bes, nxt, kep⟩ w ⟨by simp [top, big] at * <;> omega, by simp [top, big] at * <;> omega⟩
theorem x_Append (h1 : log.length ≤ top) (h2 : nxt.length ≤ top) (h3 : s.length ≤ top) : Fn Try.prog 13 [.agg #[.string (S log), .int .i64 syn, .bool bes, .string (S nxt), .int .i64 kep], .string (S s)] w [] fun v L' => v = .tuple #[.agg (Dk.turned ⟨log, syn, bes, nxt, kep⟩ true (Dk.app ⟨log, syn, bes, nxt, kep⟩ s)).1.cells.toArray, .int .i64 (Dk.turned ⟨log, syn, bes, nxt, kep⟩ true (Dk.app ⟨log, syn, bes, nxt, kep⟩ s)).2] ∧ L' = [] :=
  disk_Append ⟨log, syn, bes, nxt, kep⟩ s w ⟨by simp [top, big] at * <;> omega, by simp [top, big] at * <;> omega⟩ ⟨by simp [Dk.app, Dk.syncd, Dk.beg, Dk.set, Dk.swp, Dk.cut, Dk.zero, top, big] at * <;> omega, by simp [Dk.app, Dk.syncd, Dk.beg, Dk.set, Dk.swp, Dk.cut, Dk.zero, top, big] at * <;> omega⟩ (by simp [top, big] at * <;> omega) (by simp [top, big] at * <;> omega)
theorem x_Sync (h1 : log.length ≤ top) (h2 : nxt.length ≤ top) : Fn Try.prog 15 [.agg #[.string (S log), .int .i64 syn, .bool bes, .string (S nxt), .int .i64 kep]] w [] fun v L' => v = .tuple #[.agg (Dk.turned ⟨log, syn, bes, nxt, kep⟩ true (Dk.syncd ⟨log, syn, bes, nxt, kep⟩)).1.cells.toArray, .int .i64 (Dk.turned ⟨log, syn, bes, nxt, kep⟩ true (Dk.syncd ⟨log, syn, bes, nxt, kep⟩)).2] ∧ L' = [] :=
  disk_Sync ⟨log, syn, bes, nxt, kep⟩  w ⟨by simp [top, big] at * <;> omega, by simp [top, big] at * <;> omega⟩ ⟨by simp [Dk.app, Dk.syncd, Dk.beg, Dk.set, Dk.swp, Dk.cut, Dk.zero, top, big] at * <;> omega, by simp [Dk.app, Dk.syncd, Dk.beg, Dk.set, Dk.swp, Dk.cut, Dk.zero, top, big] at * <;> omega⟩
theorem x_Begin (h1 : log.length ≤ top) (h2 : nxt.length ≤ top) (h3 : s.length ≤ top) : Fn Try.prog 17 [.agg #[.string (S log), .int .i64 syn, .bool bes, .string (S nxt), .int .i64 kep], .string (S s)] w [] fun v L' => v = .tuple #[.agg (Dk.turned ⟨log, syn, bes, nxt, kep⟩ true (Dk.beg ⟨log, syn, bes, nxt, kep⟩ s)).1.cells.toArray, .int .i64 (Dk.turned ⟨log, syn, bes, nxt, kep⟩ true (Dk.beg ⟨log, syn, bes, nxt, kep⟩ s)).2] ∧ L' = [] :=
  disk_Begin ⟨log, syn, bes, nxt, kep⟩ s w ⟨by simp [top, big] at * <;> omega, by simp [top, big] at * <;> omega⟩ ⟨by simp [Dk.app, Dk.syncd, Dk.beg, Dk.set, Dk.swp, Dk.cut, Dk.zero, top, big] at * <;> omega, by simp [Dk.app, Dk.syncd, Dk.beg, Dk.set, Dk.swp, Dk.cut, Dk.zero, top, big] at * <;> omega⟩ (by simp [top, big] at * <;> omega)
theorem x_Settle (h1 : log.length ≤ top) (h2 : nxt.length ≤ top) : Fn Try.prog 19 [.agg #[.string (S log), .int .i64 syn, .bool bes, .string (S nxt), .int .i64 kep]] w [] fun v L' => v = .tuple #[.agg (Dk.turned ⟨log, syn, bes, nxt, kep⟩ bes (Dk.set ⟨log, syn, bes, nxt, kep⟩)).1.cells.toArray, .int .i64 (Dk.turned ⟨log, syn, bes, nxt, kep⟩ bes (Dk.set ⟨log, syn, bes, nxt, kep⟩)).2] ∧ L' = [] :=
  disk_Settle ⟨log, syn, bes, nxt, kep⟩  w ⟨by simp [top, big] at * <;> omega, by simp [top, big] at * <;> omega⟩ ⟨by simp [Dk.app, Dk.syncd, Dk.beg, Dk.set, Dk.swp, Dk.cut, Dk.zero, top, big] at * <;> omega, by simp [Dk.app, Dk.syncd, Dk.beg, Dk.set, Dk.swp, Dk.cut, Dk.zero, top, big] at * <;> omega⟩
theorem x_Swap (h1 : log.length ≤ top) (h2 : nxt.length ≤ top) : Fn Try.prog 21 [.agg #[.string (S log), .int .i64 syn, .bool bes, .string (S nxt), .int .i64 kep]] w [] fun v L' => v = .tuple #[.agg (Dk.turned ⟨log, syn, bes, nxt, kep⟩ bes (Dk.swp ⟨log, syn, bes, nxt, kep⟩)).1.cells.toArray, .int .i64 (Dk.turned ⟨log, syn, bes, nxt, kep⟩ bes (Dk.swp ⟨log, syn, bes, nxt, kep⟩)).2] ∧ L' = [] :=
  disk_Swap ⟨log, syn, bes, nxt, kep⟩  w ⟨by simp [top, big] at * <;> omega, by simp [top, big] at * <;> omega⟩ ⟨by simp [Dk.app, Dk.syncd, Dk.beg, Dk.set, Dk.swp, Dk.cut, Dk.zero, top, big] at * <;> omega, by simp [Dk.app, Dk.syncd, Dk.beg, Dk.set, Dk.swp, Dk.cut, Dk.zero, top, big] at * <;> omega⟩
theorem x_Crash (h1 : log.length ≤ top) (h2 : nxt.length ≤ top) : Fn Try.prog 23 [.agg #[.string (S log), .int .i64 syn, .bool bes, .string (S nxt), .int .i64 kep], .int .i64 k] w [] fun v L' => v = .tuple #[.agg (Dk.turned ⟨log, syn, bes, nxt, kep⟩ (decide (0 ≤ k)) (Dk.cut ⟨log, syn, bes, nxt, kep⟩ k)).1.cells.toArray, .int .i64 (Dk.turned ⟨log, syn, bes, nxt, kep⟩ (decide (0 ≤ k)) (Dk.cut ⟨log, syn, bes, nxt, kep⟩ k)).2] ∧ L' = [] :=
  disk_Crash ⟨log, syn, bes, nxt, kep⟩ k w ⟨by simp [top, big] at * <;> omega, by simp [top, big] at * <;> omega⟩ ⟨by simp [Dk.app, Dk.syncd, Dk.beg, Dk.set, Dk.swp, Dk.cut, Dk.zero, top, big] at * <;> omega, by simp [Dk.app, Dk.syncd, Dk.beg, Dk.set, Dk.swp, Dk.cut, Dk.zero, top, big] at * <;> omega⟩
theorem xr_Append (h1 : log.length ≤ top) (h2 : nxt.length ≤ top) (h3 : s.length ≤ top) : Fn Try.prog 14 [.agg #[.string (S log), .int .i64 syn, .bool bes, .string (S nxt), .int .i64 kep], .string (S s)] w [] fun v L' => v = .tuple #[.agg (Dk.turned ⟨log, syn, bes, nxt, kep⟩ true (Dk.app ⟨log, syn, bes, nxt, kep⟩ s)).1.cells.toArray, .int .i64 (Dk.turned ⟨log, syn, bes, nxt, kep⟩ true (Dk.app ⟨log, syn, bes, nxt, kep⟩ s)).2] ∧ L' = [] :=
  ref_Append ⟨log, syn, bes, nxt, kep⟩ s w ⟨by simp [top, big] at * <;> omega, by simp [top, big] at * <;> omega⟩ (by simp [top, big] at * <;> omega)
theorem xr_Sync (h1 : log.length ≤ top) (h2 : nxt.length ≤ top) : Fn Try.prog 16 [.agg #[.string (S log), .int .i64 syn, .bool bes, .string (S nxt), .int .i64 kep]] w [] fun v L' => v = .tuple #[.agg (Dk.turned ⟨log, syn, bes, nxt, kep⟩ true (Dk.syncd ⟨log, syn, bes, nxt, kep⟩)).1.cells.toArray, .int .i64 (Dk.turned ⟨log, syn, bes, nxt, kep⟩ true (Dk.syncd ⟨log, syn, bes, nxt, kep⟩)).2] ∧ L' = [] :=
  ref_Sync ⟨log, syn, bes, nxt, kep⟩  w ⟨by simp [top, big] at * <;> omega, by simp [top, big] at * <;> omega⟩
theorem xr_Begin (h1 : log.length ≤ top) (h2 : nxt.length ≤ top) (h3 : s.length ≤ top) : Fn Try.prog 18 [.agg #[.string (S log), .int .i64 syn, .bool bes, .string (S nxt), .int .i64 kep], .string (S s)] w [] fun v L' => v = .tuple #[.agg (Dk.turned ⟨log, syn, bes, nxt, kep⟩ true (Dk.beg ⟨log, syn, bes, nxt, kep⟩ s)).1.cells.toArray, .int .i64 (Dk.turned ⟨log, syn, bes, nxt, kep⟩ true (Dk.beg ⟨log, syn, bes, nxt, kep⟩ s)).2] ∧ L' = [] :=
  ref_Begin ⟨log, syn, bes, nxt, kep⟩ s w ⟨by simp [top, big] at * <;> omega, by simp [top, big] at * <;> omega⟩ (by simp [top, big] at * <;> omega)
theorem xr_Settle (h1 : log.length ≤ top) (h2 : nxt.length ≤ top) : Fn Try.prog 20 [.agg #[.string (S log), .int .i64 syn, .bool bes, .string (S nxt), .int .i64 kep]] w [] fun v L' => v = .tuple #[.agg (Dk.turned ⟨log, syn, bes, nxt, kep⟩ bes (Dk.set ⟨log, syn, bes, nxt, kep⟩)).1.cells.toArray, .int .i64 (Dk.turned ⟨log, syn, bes, nxt, kep⟩ bes (Dk.set ⟨log, syn, bes, nxt, kep⟩)).2] ∧ L' = [] :=
  ref_Settle ⟨log, syn, bes, nxt, kep⟩  w ⟨by simp [top, big] at * <;> omega, by simp [top, big] at * <;> omega⟩
theorem xr_Swap (h1 : log.length ≤ top) (h2 : nxt.length ≤ top) : Fn Try.prog 22 [.agg #[.string (S log), .int .i64 syn, .bool bes, .string (S nxt), .int .i64 kep]] w [] fun v L' => v = .tuple #[.agg (Dk.turned ⟨log, syn, bes, nxt, kep⟩ bes (Dk.swp ⟨log, syn, bes, nxt, kep⟩)).1.cells.toArray, .int .i64 (Dk.turned ⟨log, syn, bes, nxt, kep⟩ bes (Dk.swp ⟨log, syn, bes, nxt, kep⟩)).2] ∧ L' = [] :=
  ref_Swap ⟨log, syn, bes, nxt, kep⟩  w ⟨by simp [top, big] at * <;> omega, by simp [top, big] at * <;> omega⟩
theorem xr_Crash (h1 : log.length ≤ top) (h2 : nxt.length ≤ top) : Fn Try.prog 24 [.agg #[.string (S log), .int .i64 syn, .bool bes, .string (S nxt), .int .i64 kep], .int .i64 k] w [] fun v L' => v = .tuple #[.agg (Dk.turned ⟨log, syn, bes, nxt, kep⟩ (decide (0 ≤ k)) (Dk.cut ⟨log, syn, bes, nxt, kep⟩ k)).1.cells.toArray, .int .i64 (Dk.turned ⟨log, syn, bes, nxt, kep⟩ (decide (0 ≤ k)) (Dk.cut ⟨log, syn, bes, nxt, kep⟩ k)).2] ∧ L' = [] :=
  ref_Crash ⟨log, syn, bes, nxt, kep⟩ k w ⟨by simp [top, big] at * <;> omega, by simp [top, big] at * <;> omega⟩
theorem xr_May (h1 : log.length ≤ top) (h2 : nxt.length ≤ top) : Fn Try.prog 27 [.agg #[.string (S log), .int .i64 syn, .bool bes, .string (S nxt), .int .i64 kep]] w [] fun v L' => v = .bool (Dk.may ⟨log, syn, bes, nxt, kep⟩) ∧ L' = [] :=
  ref_DiskMay ⟨log, syn, bes, nxt, kep⟩ w ⟨by simp [top, big] at * <;> omega, by simp [top, big] at * <;> omega⟩
end
set_option maxRecDepth 100000 in
theorem law0_Num (e : Int) (w : World) : Fn Try.prog 25 [.int .i64 e] w [] fun v L' => v = .int .i64 e ∧ L' = [] := by
  refine Fn.enter Try.func25 rfl rfl rfl rfl (Holds.nil w) ?_
  refine CW.seq ?_
  refine CW.region ?_
  refine W.q (QV.q (O.as ⟨rfl, rfl⟩ (vt rfl))) ?_
  refine WL.nil (Q.tn ?_)
  refine CW.seq ?_
  refine CW.region ?_
  refine W.q (QV.q (O.mv ⟨rfl, rfl⟩ (vt rfl))) ?_
  refine W.q (QV.q (O.as ⟨rfl, rfl⟩ (vt rfl))) ?_
  refine WL.nil (Q.tn ?_)
  refine CW.ret ?_
  refine ⟨_, [], (RVs.tmp rfl RVs.nil), List.nil_sublist _, ?_⟩
  exact ⟨rfl, rfl⟩
set_option maxRecDepth 100000 in
theorem law22_awake (w : World) : Fn Try.prog 28 [] w [] fun v L' => v = .bool true ∧ L' = [] := by
  refine Fn.enter Try.func28 rfl rfl rfl rfl (Holds.nil w) ?_
  refine CW.seq ?_
  refine CW.region ?_
  refine W.q (QV.q (O.as ⟨rfl, rfl⟩ (vt rfl))) ?_
  refine WL.nil (Q.tn ?_)
  refine CW.seq ?_
  refine CW.region ?_
  refine W.q (QV.q (O.bd ⟨rfl, rfl⟩ (PV.nil))) ?_
  refine W.q (O.call ⟨rfl, rfl⟩ (AV.cons (vt rfl) (AV.cons (vt rfl) (AV.nil))) (fun _ w hw => x_Append _ _ _ _ _ _ w (by first | exact Nat.le_trans (Dk.turned_len _ _ _).1 (by decide) | exact Nat.le_trans (Dk.turned_len _ _ _).2 (by decide) | assumption | decide | (simp [top]; done) | omega) (by first | exact Nat.le_trans (Dk.turned_len _ _ _).1 (by decide) | exact Nat.le_trans (Dk.turned_len _ _ _).2 (by decide) | assumption | decide | (simp [top]; done) | omega) (by first | exact Nat.le_trans (Dk.turned_len _ _ _).1 (by decide) | exact Nat.le_trans (Dk.turned_len _ _ _).2 (by decide) | assumption | decide | (simp [top]; done) | omega))) ?_
  refine W.q (QV.q (O.mv ⟨rfl, rfl⟩ (vt rfl))) ?_
  refine W.q (QV.q (O.ext ⟨rfl, rfl⟩ (vt rfl) rfl)) ?_
  refine W.q (QV.q (O.ext ⟨rfl, rfl⟩ (vt rfl) rfl)) ?_
  refine W.al rfl rfl fun b1 => ?_
  refine W.st (vt rfl) (vt rfl) rfl ?_
  refine W.q (QV.q (O.as ⟨rfl, rfl⟩ (vt rfl))) ?_
  refine WL.nil (Q.tn ?_)
  refine CW.seq ?_
  refine CW.region ?_
  refine W.q (QV.q (O.lds ⟨rfl, rfl⟩ (vt rfl))) ?_
  refine W.q (O.call ⟨rfl, rfl⟩ (AV.cons (vt rfl) (AV.nil)) (fun _ w hw => x_Sync _ _ _ _ _ w (by first | exact Nat.le_trans (Dk.turned_len _ _ _).1 (by decide) | exact Nat.le_trans (Dk.turned_len _ _ _).2 (by decide) | assumption | decide | (simp [top]; done) | omega) (by first | exact Nat.le_trans (Dk.turned_len _ _ _).1 (by decide) | exact Nat.le_trans (Dk.turned_len _ _ _).2 (by decide) | assumption | decide | (simp [top]; done) | omega))) ?_
  refine W.q (QV.q (O.mv ⟨rfl, rfl⟩ (vt rfl))) ?_
  refine W.q (QV.q (O.ext ⟨rfl, rfl⟩ (vt rfl) rfl)) ?_
  refine W.q (QV.q (O.ext ⟨rfl, rfl⟩ (vt rfl) rfl)) ?_
  refine W.al rfl rfl fun b2 => ?_
  refine W.st (vt rfl) (vt rfl) rfl ?_
  refine W.q (QV.q (O.as ⟨rfl, rfl⟩ (vt rfl))) ?_
  refine WL.nil (Q.tn ?_)
  refine CW.seq ?_
  refine CW.region ?_
  refine W.q (QV.q (O.lds ⟨rfl, rfl⟩ (vt rfl))) ?_
  refine W.q (O.call ⟨rfl, rfl⟩ (AV.cons (vt rfl) (AV.cons (vt rfl) (AV.nil))) (fun _ w hw => x_Append _ _ _ _ _ _ w (by first | exact Nat.le_trans (Dk.turned_len _ _ _).1 (by decide) | exact Nat.le_trans (Dk.turned_len _ _ _).2 (by decide) | assumption | decide | (simp [top]; done) | omega) (by first | exact Nat.le_trans (Dk.turned_len _ _ _).1 (by decide) | exact Nat.le_trans (Dk.turned_len _ _ _).2 (by decide) | assumption | decide | (simp [top]; done) | omega) (by first | exact Nat.le_trans (Dk.turned_len _ _ _).1 (by decide) | exact Nat.le_trans (Dk.turned_len _ _ _).2 (by decide) | assumption | decide | (simp [top]; done) | omega))) ?_
  refine W.q (QV.q (O.mv ⟨rfl, rfl⟩ (vt rfl))) ?_
  refine W.q (QV.q (O.ext ⟨rfl, rfl⟩ (vt rfl) rfl)) ?_
  refine W.q (QV.q (O.ext ⟨rfl, rfl⟩ (vt rfl) rfl)) ?_
  refine W.al rfl rfl fun b3 => ?_
  refine W.st (vt rfl) (vt rfl) rfl ?_
  refine W.q (QV.q (O.as ⟨rfl, rfl⟩ (vt rfl))) ?_
  refine WL.nil (Q.tn ?_)
  refine CW.seq ?_
  refine CW.region ?_
  refine W.q (QV.q (O.lds ⟨rfl, rfl⟩ (vt rfl))) ?_
  refine W.q (O.call ⟨rfl, rfl⟩ (AV.cons (vt rfl) (AV.cons (vt rfl) (AV.nil))) (fun _ w hw => x_Crash _ _ _ _ _ _ w (by first | exact Nat.le_trans (Dk.turned_len _ _ _).1 (by decide) | exact Nat.le_trans (Dk.turned_len _ _ _).2 (by decide) | assumption | decide | (simp [top]; done) | omega) (by first | exact Nat.le_trans (Dk.turned_len _ _ _).1 (by decide) | exact Nat.le_trans (Dk.turned_len _ _ _).2 (by decide) | assumption | decide | (simp [top]; done) | omega))) ?_
  refine W.q (QV.q (O.mv ⟨rfl, rfl⟩ (vt rfl))) ?_
  refine W.q (QV.q (O.ext ⟨rfl, rfl⟩ (vt rfl) rfl)) ?_
  refine W.q (QV.q (O.ext ⟨rfl, rfl⟩ (vt rfl) rfl)) ?_
  refine W.al rfl rfl fun b4 => ?_
  refine W.st (vt rfl) (vt rfl) rfl ?_
  refine W.q (QV.q (O.as ⟨rfl, rfl⟩ (vt rfl))) ?_
  refine WL.nil (Q.tn ?_)
  refine CW.seq ?_
  refine CW.region ?_
  refine W.q (QV.q (O.lds ⟨rfl, rfl⟩ (vt rfl))) ?_
  refine W.q (O.call ⟨rfl, rfl⟩ (AV.cons (vt rfl) (AV.cons (vt rfl) (AV.nil))) (fun _ w hw => x_Begin _ _ _ _ _ _ w (by first | exact Nat.le_trans (Dk.turned_len _ _ _).1 (by decide) | exact Nat.le_trans (Dk.turned_len _ _ _).2 (by decide) | assumption | decide | (simp [top]; done) | omega) (by first | exact Nat.le_trans (Dk.turned_len _ _ _).1 (by decide) | exact Nat.le_trans (Dk.turned_len _ _ _).2 (by decide) | assumption | decide | (simp [top]; done) | omega) (by first | exact Nat.le_trans (Dk.turned_len _ _ _).1 (by decide) | exact Nat.le_trans (Dk.turned_len _ _ _).2 (by decide) | assumption | decide | (simp [top]; done) | omega))) ?_
  refine W.q (QV.q (O.mv ⟨rfl, rfl⟩ (vt rfl))) ?_
  refine W.q (QV.q (O.ext ⟨rfl, rfl⟩ (vt rfl) rfl)) ?_
  refine W.q (QV.q (O.ext ⟨rfl, rfl⟩ (vt rfl) rfl)) ?_
  refine W.al rfl rfl fun b5 => ?_
  refine W.st (vt rfl) (vt rfl) rfl ?_
  refine W.q (QV.q (O.as ⟨rfl, rfl⟩ (vt rfl))) ?_
  refine WL.nil (Q.tn ?_)
  refine CW.seq ?_
  refine CW.region ?_
  refine W.q (QV.q (O.lds ⟨rfl, rfl⟩ (vt rfl))) ?_
  refine W.q (O.call ⟨rfl, rfl⟩ (AV.cons (vt rfl) (AV.nil)) (fun _ w hw => x_Swap _ _ _ _ _ w (by first | exact Nat.le_trans (Dk.turned_len _ _ _).1 (by decide) | exact Nat.le_trans (Dk.turned_len _ _ _).2 (by decide) | assumption | decide | (simp [top]; done) | omega) (by first | exact Nat.le_trans (Dk.turned_len _ _ _).1 (by decide) | exact Nat.le_trans (Dk.turned_len _ _ _).2 (by decide) | assumption | decide | (simp [top]; done) | omega))) ?_
  refine W.q (QV.q (O.mv ⟨rfl, rfl⟩ (vt rfl))) ?_
  refine W.q (QV.q (O.ext ⟨rfl, rfl⟩ (vt rfl) rfl)) ?_
  refine W.q (QV.q (O.ext ⟨rfl, rfl⟩ (vt rfl) rfl)) ?_
  refine W.al rfl rfl fun b6 => ?_
  refine W.st (vt rfl) (vt rfl) rfl ?_
  refine W.q (QV.q (O.as ⟨rfl, rfl⟩ (vt rfl))) ?_
  refine WL.nil (Q.tn ?_)
  refine CW.seq ?_
  refine CW.region ?_
  refine W.q (QV.q (O.lds ⟨rfl, rfl⟩ (vt rfl))) ?_
  refine W.q (O.call ⟨rfl, rfl⟩ (AV.cons (vt rfl) (AV.nil)) (fun _ w hw => x_Settle _ _ _ _ _ w (by first | exact Nat.le_trans (Dk.turned_len _ _ _).1 (by decide) | exact Nat.le_trans (Dk.turned_len _ _ _).2 (by decide) | assumption | decide | (simp [top]; done) | omega) (by first | exact Nat.le_trans (Dk.turned_len _ _ _).1 (by decide) | exact Nat.le_trans (Dk.turned_len _ _ _).2 (by decide) | assumption | decide | (simp [top]; done) | omega))) ?_
  refine W.q (QV.q (O.mv ⟨rfl, rfl⟩ (vt rfl))) ?_
  refine W.q (QV.q (O.ext ⟨rfl, rfl⟩ (vt rfl) rfl)) ?_
  refine W.q (QV.q (O.ext ⟨rfl, rfl⟩ (vt rfl) rfl)) ?_
  refine W.st (vt rfl) (vt rfl) rfl ?_
  refine W.q (QV.q (O.as ⟨rfl, rfl⟩ (vt rfl))) ?_
  refine WL.nil (Q.tn ?_)
  refine CW.seq ?_
  refine CW.region ?_
  refine W.q (QV.q (O.lds ⟨rfl, rfl⟩ (vt rfl))) ?_
  refine W.q (O.call ⟨rfl, rfl⟩ (AV.cons (vt rfl) (AV.nil)) (fun _ w hw => x_Swap _ _ _ _ _ w (by first | exact Nat.le_trans (Dk.turned_len _ _ _).1 (by decide) | exact Nat.le_trans (Dk.turned_len _ _ _).2 (by decide) | assumption | decide | (simp [top]; done) | omega) (by first | exact Nat.le_trans (Dk.turned_len _ _ _).1 (by decide) | exact Nat.le_trans (Dk.turned_len _ _ _).2 (by decide) | assumption | decide | (simp [top]; done) | omega))) ?_
  refine W.q (QV.q (O.mv ⟨rfl, rfl⟩ (vt rfl))) ?_
  refine W.q (QV.q (O.ext ⟨rfl, rfl⟩ (vt rfl) rfl)) ?_
  refine W.q (QV.q (O.ext ⟨rfl, rfl⟩ (vt rfl) rfl)) ?_
  refine W.al rfl rfl fun b7 => ?_
  refine W.st (vt rfl) (vt rfl) rfl ?_
  refine W.q (QV.q (O.as ⟨rfl, rfl⟩ (vt rfl))) ?_
  refine WL.nil (Q.tn ?_)
  refine CW.seq ?_
  refine CW.region ?_
  refine W.q (QV.q (O.lds ⟨rfl, rfl⟩ (vt rfl))) ?_
  refine W.q (O.call ⟨rfl, rfl⟩ (AV.cons (vt rfl) (AV.nil)) (fun _ w hw => x_Swap _ _ _ _ _ w (by first | exact Nat.le_trans (Dk.turned_len _ _ _).1 (by decide) | exact Nat.le_trans (Dk.turned_len _ _ _).2 (by decide) | assumption | decide | (simp [top]; done) | omega) (by first | exact Nat.le_trans (Dk.turned_len _ _ _).1 (by decide) | exact Nat.le_trans (Dk.turned_len _ _ _).2 (by decide) | assumption | decide | (simp [top]; done) | omega))) ?_
  refine W.q (QV.q (O.mv ⟨rfl, rfl⟩ (vt rfl))) ?_
  refine W.q (QV.q (O.ext ⟨rfl, rfl⟩ (vt rfl) rfl)) ?_
  refine W.q (QV.q (O.ext ⟨rfl, rfl⟩ (vt rfl) rfl)) ?_
  refine W.al rfl rfl fun b8 => ?_
  refine W.st (vt rfl) (vt rfl) rfl ?_
  refine W.q (QV.q (O.as ⟨rfl, rfl⟩ (vt rfl))) ?_
  refine WL.nil (Q.tn ?_)
  refine CW.seq ?_
  refine CW.drawHL rfl ?_
  refine RH.q 0 (fun _ _ _ h => h) rfl (by kernel_rfl) (by repeat (first | exact List.nil_sublist _ | exact List.Sublist.refl _ | apply List.Sublist.cons₂ | apply List.Sublist.cons)) (O.lds ⟨rfl, rfl⟩ (vt rfl)) ?_
  refine RH.two (i := 1) (j := 7) (fun _ _ h => h) (by kernel_rfl) rfl rfl ?_ ?_
  · refine W.mkB rfl (vt rfl) (vt rfl) (by first | omega | decide) fun b9 => ?_
    refine WL.nilQn ⟨(by repeat (first | exact List.nil_sublist _ | exact List.Sublist.refl _ | apply List.Sublist.cons₂ | apply List.Sublist.cons)), ?_⟩
    refine RH.two (i := 2) (j := 7) (fun _ _ h => h) (by kernel_rfl) rfl rfl ?_ ?_
    · first | refine W.q (QV.q (O.cvBZ ⟨rfl, rfl⟩ (vt rfl) (by first | exact Nat.le_refl _ | omega))) ?_ | refine W.q (QV.q (O.cvBA ⟨rfl, rfl⟩ (vt rfl))) ?_ | refine W.q (QV.q (O.cvBS ⟨rfl, rfl⟩ (vt rfl) (fun _ => by omega))) ?_
      refine WL.nilQn ⟨(by repeat (first | exact List.nil_sublist _ | exact List.Sublist.refl _ | apply List.Sublist.cons₂ | apply List.Sublist.cons)), ?_⟩
      refine RH.two (i := 3) (j := 7) (fun _ _ h => h) (by kernel_rfl) rfl rfl ?_ ?_
      · refine W.q (O.call ⟨rfl, rfl⟩ (AV.cons (vt rfl) (AV.cons (vt rfl) (AV.nil))) (fun _ w hw => x_Append _ _ _ _ _ _ w (by first | exact Nat.le_trans (Dk.turned_len _ _ _).1 (by decide) | exact Nat.le_trans (Dk.turned_len _ _ _).2 (by decide) | assumption | decide | (simp [top]; done) | omega) (by first | exact Nat.le_trans (Dk.turned_len _ _ _).1 (by decide) | exact Nat.le_trans (Dk.turned_len _ _ _).2 (by decide) | assumption | decide | (simp [top]; done) | omega) (by first | exact Nat.le_trans (Dk.turned_len _ _ _).1 (by decide) | exact Nat.le_trans (Dk.turned_len _ _ _).2 (by decide) | assumption | decide | (simp [top]; done) | omega))) ?_
        refine WL.nilQn ⟨(by repeat (first | exact List.nil_sublist _ | exact List.Sublist.refl _ | apply List.Sublist.cons₂ | apply List.Sublist.cons)), ?_⟩
        refine RH.q 4 (fun _ _ _ h => h) rfl (by kernel_rfl) (by repeat (first | exact List.nil_sublist _ | exact List.Sublist.refl _ | apply List.Sublist.cons₂ | apply List.Sublist.cons)) (O.mv ⟨rfl, rfl⟩ (vt rfl)) ?_
        refine RH.q 5 (fun _ _ _ h => h) rfl (by kernel_rfl) (by repeat (first | exact List.nil_sublist _ | exact List.Sublist.refl _ | apply List.Sublist.cons₂ | apply List.Sublist.cons)) (O.ext ⟨rfl, rfl⟩ (vt rfl) rfl) ?_
        refine RH.q 6 (fun _ _ _ h => h) rfl (by kernel_rfl) (by repeat (first | exact List.nil_sublist _ | exact List.Sublist.refl _ | apply List.Sublist.cons₂ | apply List.Sublist.cons)) (O.ext ⟨rfl, rfl⟩ (vt rfl) rfl) ?_
        refine RH.one (i := 7) (fun _ _ h => h) (by kernel_rfl) rfl ?_
        refine W.al rfl rfl fun b10 => ?_
        refine WL.nilQn ⟨(by repeat (first | exact List.nil_sublist _ | exact List.Sublist.refl _ | apply List.Sublist.cons₂ | apply List.Sublist.cons)), ?_⟩
        refine RH.one (i := 8) (fun _ _ h => h) (by kernel_rfl) rfl ?_
        refine W.st (vt rfl) (vt rfl) rfl ?_
        refine WL.nilQn ⟨(by repeat (first | exact List.nil_sublist _ | exact List.Sublist.refl _ | apply List.Sublist.cons₂ | apply List.Sublist.cons)), ?_⟩
        refine RH.q 9 (fun _ _ _ h => h) rfl (by kernel_rfl) (by repeat (first | exact List.nil_sublist _ | exact List.Sublist.refl _ | apply List.Sublist.cons₂ | apply List.Sublist.cons)) (O.as ⟨rfl, rfl⟩ (vt rfl)) ?_
        refine RH.done (by kernel_rfl) (Q.tn ?_)
        refine CW.seq ?_
        refine CW.region ?_
        refine W.q (QV.q (O.bd ⟨rfl, rfl⟩ (PV.cons (vt rfl) (PV.nil)))) ?_
        refine W.q (O.call ⟨rfl, rfl⟩ (AV.cons (vt rfl) (AV.nil)) (fun _ w hw => x_Sync _ _ _ _ _ w (by first | exact Nat.le_trans (Dk.turned_len _ _ _).1 (by decide) | exact Nat.le_trans (Dk.turned_len _ _ _).2 (by decide) | assumption | decide | (simp [top]; done) | omega) (by first | exact Nat.le_trans (Dk.turned_len _ _ _).1 (by decide) | exact Nat.le_trans (Dk.turned_len _ _ _).2 (by decide) | assumption | decide | (simp [top]; done) | omega))) ?_
        refine W.q (QV.q (O.mv ⟨rfl, rfl⟩ (vt rfl))) ?_
        refine W.q (QV.q (O.ext ⟨rfl, rfl⟩ (vt rfl) rfl)) ?_
        refine W.q (QV.q (O.ext ⟨rfl, rfl⟩ (vt rfl) rfl)) ?_
        refine W.al rfl rfl fun b11 => ?_
        refine W.st (vt rfl) (vt rfl) rfl ?_
        refine W.q (QV.q (O.as ⟨rfl, rfl⟩ (vt rfl))) ?_
        refine WL.nil (Q.tn ?_)
        refine CW.seq ?_
        refine CW.region ?_
        refine W.q (QV.q (O.lds ⟨rfl, rfl⟩ (vt rfl))) ?_
        refine W.q (QV.q (O.bd ⟨rfl, rfl⟩ (PV.cons (vt rfl) (PV.nil)))) ?_
        refine W.q (QV.q (O.eqT ⟨rfl, rfl⟩ (vt rfl) (vt rfl) rfl)) ?_
        refine W.q (QV.q (O.mv ⟨rfl, rfl⟩ (vt rfl))) ?_
        refine W.q (QV.q (O.mv ⟨rfl, rfl⟩ (vt rfl))) ?_
        refine W.q (O.call ⟨rfl, rfl⟩ (AV.cons (vs rfl) (AV.nil)) (fun _ w hw => law0_Num _ w)) ?_
        refine W.q (QV.q (O.eqI ⟨rfl, rfl⟩ (vs rfl) (vt rfl))) ?_
        refine W.q (QV.q (O.pkB ⟨rfl, rfl⟩ (vt rfl) (vs rfl) (vt rfl))) ?_
        refine W.q (QV.q (O.mv ⟨rfl, rfl⟩ (vt rfl))) ?_
        refine W.q (QV.q (O.lds ⟨rfl, rfl⟩ (vt rfl))) ?_
        refine W.q (QV.q (O.bd ⟨rfl, rfl⟩ (PV.cons (vt rfl) (PV.cons (vt rfl) (PV.nil))))) ?_
        refine W.q (QV.q (O.eqT ⟨rfl, rfl⟩ (vs rfl) (vs rfl) rfl)) ?_
        refine W.q (QV.q (O.pkB ⟨rfl, rfl⟩ (vt rfl) (vs rfl) (vt rfl))) ?_
        refine W.q (QV.q (O.mv ⟨rfl, rfl⟩ (vt rfl))) ?_
        refine W.q (QV.q (O.mv ⟨rfl, rfl⟩ (vt rfl))) ?_
        refine W.q (O.call ⟨rfl, rfl⟩ (AV.cons (vs rfl) (AV.nil)) (fun _ w hw => law0_Num _ w)) ?_
        refine W.q (QV.q (O.eqI ⟨rfl, rfl⟩ (vs rfl) (vt rfl))) ?_
        refine W.q (QV.q (O.pkB ⟨rfl, rfl⟩ (vt rfl) (vs rfl) (vt rfl))) ?_
        refine W.q (QV.q (O.mv ⟨rfl, rfl⟩ (vt rfl))) ?_
        refine W.q (QV.q (O.lds ⟨rfl, rfl⟩ (vt rfl))) ?_
        refine W.q (QV.q (O.bd ⟨rfl, rfl⟩ (PV.cons (vt rfl) (PV.cons (vt rfl) (PV.nil))))) ?_
        refine W.q (QV.q (O.eqT ⟨rfl, rfl⟩ (vs rfl) (vs rfl) rfl)) ?_
        refine W.q (QV.q (O.pkB ⟨rfl, rfl⟩ (vt rfl) (vs rfl) (vt rfl))) ?_
        refine W.q (QV.q (O.mv ⟨rfl, rfl⟩ (vt rfl))) ?_
        refine W.q (QV.q (O.mv ⟨rfl, rfl⟩ (vt rfl))) ?_
        refine W.q (O.call ⟨rfl, rfl⟩ (AV.cons (vs rfl) (AV.nil)) (fun _ w hw => law0_Num _ w)) ?_
        refine W.q (QV.q (O.eqI ⟨rfl, rfl⟩ (vs rfl) (vt rfl))) ?_
        refine W.q (QV.q (O.pkB ⟨rfl, rfl⟩ (vt rfl) (vs rfl) (vt rfl))) ?_
        refine W.q (QV.q (O.mv ⟨rfl, rfl⟩ (vt rfl))) ?_
        refine W.q (QV.q (O.lds ⟨rfl, rfl⟩ (vt rfl))) ?_
        refine W.q (QV.q (O.bd ⟨rfl, rfl⟩ (PV.cons (vt rfl) (PV.cons (vt rfl) (PV.nil))))) ?_
        refine W.q (QV.q (O.eqT ⟨rfl, rfl⟩ (vs rfl) (vs rfl) rfl)) ?_
        refine W.q (QV.q (O.pkB ⟨rfl, rfl⟩ (vt rfl) (vs rfl) (vt rfl))) ?_
        refine W.q (QV.q (O.mv ⟨rfl, rfl⟩ (vt rfl))) ?_
        refine W.q (QV.q (O.mv ⟨rfl, rfl⟩ (vt rfl))) ?_
        refine W.q (O.call ⟨rfl, rfl⟩ (AV.cons (vs rfl) (AV.nil)) (fun _ w hw => law0_Num _ w)) ?_
        refine W.q (QV.q (O.eqI ⟨rfl, rfl⟩ (vs rfl) (vt rfl))) ?_
        refine W.q (QV.q (O.pkB ⟨rfl, rfl⟩ (vt rfl) (vs rfl) (vt rfl))) ?_
        refine W.q (QV.q (O.mv ⟨rfl, rfl⟩ (vt rfl))) ?_
        refine W.q (QV.q (O.mv ⟨rfl, rfl⟩ (vt rfl))) ?_
        refine W.q (O.call ⟨rfl, rfl⟩ (AV.cons (vs rfl) (AV.nil)) (fun _ w hw => law0_Num _ w)) ?_
        refine W.q (QV.q (O.eqI ⟨rfl, rfl⟩ (vs rfl) (vt rfl))) ?_
        refine W.q (QV.q (O.pkB ⟨rfl, rfl⟩ (vt rfl) (vs rfl) (vt rfl))) ?_
        refine W.q (QV.q (O.mv ⟨rfl, rfl⟩ (vt rfl))) ?_
        refine W.q (QV.q (O.lds ⟨rfl, rfl⟩ (vt rfl))) ?_
        refine W.q (QV.q (O.bd ⟨rfl, rfl⟩ (PV.cons (vt rfl) (PV.nil)))) ?_
        refine W.q (QV.q (O.eqT ⟨rfl, rfl⟩ (vs rfl) (vs rfl) rfl)) ?_
        refine W.q (QV.q (O.pkB ⟨rfl, rfl⟩ (vt rfl) (vs rfl) (vt rfl))) ?_
        refine W.q (QV.q (O.mv ⟨rfl, rfl⟩ (vt rfl))) ?_
        refine W.q (QV.q (O.mv ⟨rfl, rfl⟩ (vt rfl))) ?_
        refine W.q (O.call ⟨rfl, rfl⟩ (AV.cons (vs rfl) (AV.nil)) (fun _ w hw => law0_Num _ w)) ?_
        refine W.q (QV.q (O.eqI ⟨rfl, rfl⟩ (vs rfl) (vt rfl))) ?_
        refine W.q (QV.q (O.pkB ⟨rfl, rfl⟩ (vt rfl) (vs rfl) (vt rfl))) ?_
        refine W.q (QV.q (O.mv ⟨rfl, rfl⟩ (vt rfl))) ?_
        refine W.q (QV.q (O.mv ⟨rfl, rfl⟩ (vt rfl))) ?_
        refine W.q (O.call ⟨rfl, rfl⟩ (AV.cons (vs rfl) (AV.nil)) (fun _ w hw => law0_Num _ w)) ?_
        refine W.q (QV.q (O.eqI ⟨rfl, rfl⟩ (vs rfl) (vt rfl))) ?_
        refine W.q (QV.q (O.pkB ⟨rfl, rfl⟩ (vt rfl) (vs rfl) (vt rfl))) ?_
        refine W.q (QV.q (O.mv ⟨rfl, rfl⟩ (vt rfl))) ?_
        refine W.q (QV.q (O.lds ⟨rfl, rfl⟩ (vt rfl))) ?_
        refine W.q (QV.q (O.bd ⟨rfl, rfl⟩ (PV.cons (vt rfl) (PV.cons (vt rfl) (PV.nil))))) ?_
        refine W.q (QV.q (O.eqT ⟨rfl, rfl⟩ (vs rfl) (vs rfl) rfl)) ?_
        refine W.q (QV.q (O.pkB ⟨rfl, rfl⟩ (vt rfl) (vs rfl) (vt rfl))) ?_
        refine W.q (QV.q (O.mv ⟨rfl, rfl⟩ (vt rfl))) ?_
        refine W.q (QV.q (O.mv ⟨rfl, rfl⟩ (vt rfl))) ?_
        refine W.q (O.call ⟨rfl, rfl⟩ (AV.cons (vs rfl) (AV.nil)) (fun _ w hw => law0_Num _ w)) ?_
        refine W.q (QV.q (O.eqI ⟨rfl, rfl⟩ (vs rfl) (vt rfl))) ?_
        refine W.q (QV.q (O.pkB ⟨rfl, rfl⟩ (vt rfl) (vs rfl) (vt rfl))) ?_
        refine W.q (QV.q (O.mv ⟨rfl, rfl⟩ (vt rfl))) ?_
        refine W.q (QV.q (O.mv ⟨rfl, rfl⟩ (vt rfl))) ?_
        refine W.q (O.call ⟨rfl, rfl⟩ (AV.cons (vs rfl) (AV.nil)) (fun _ w hw => law0_Num _ w)) ?_
        refine W.q (QV.q (O.eqI ⟨rfl, rfl⟩ (vs rfl) (vt rfl))) ?_
        refine W.q (QV.q (O.pkB ⟨rfl, rfl⟩ (vt rfl) (vs rfl) (vt rfl))) ?_
        refine W.q (QV.q (O.mv ⟨rfl, rfl⟩ (vt rfl))) ?_
        refine W.q (QV.q (O.mv ⟨rfl, rfl⟩ (vt rfl))) ?_
        refine W.q (O.call ⟨rfl, rfl⟩ (AV.cons (vs rfl) (AV.nil)) (fun _ w hw => law0_Num _ w)) ?_
        refine W.q (QV.q (O.eqI ⟨rfl, rfl⟩ (vs rfl) (vt rfl))) ?_
        refine W.q (QV.q (O.pkB ⟨rfl, rfl⟩ (vt rfl) (vs rfl) (vt rfl))) ?_
        refine W.q (QV.q (O.mv ⟨rfl, rfl⟩ (vt rfl))) ?_
        refine W.q (QV.q (O.mv ⟨rfl, rfl⟩ (vt rfl))) ?_
        refine W.q (O.call ⟨rfl, rfl⟩ (AV.cons (vs rfl) (AV.nil)) (fun _ w hw => law0_Num _ w)) ?_
        refine W.q (QV.q (O.eqI ⟨rfl, rfl⟩ (vs rfl) (vt rfl))) ?_
        refine W.q (QV.q (O.pkB ⟨rfl, rfl⟩ (vt rfl) (vs rfl) (vt rfl))) ?_
        refine W.q (QV.q (O.mv ⟨rfl, rfl⟩ (vt rfl))) ?_
        refine W.q (QV.q (O.lds ⟨rfl, rfl⟩ (vt rfl))) ?_
        refine W.q (O.call ⟨rfl, rfl⟩ (AV.cons (vs rfl) (AV.nil)) (fun _ w hw => x_May _ _ _ _ _ w (by first | exact Nat.le_trans (Dk.turned_len _ _ _).1 (by decide) | exact Nat.le_trans (Dk.turned_len _ _ _).2 (by decide) | assumption | decide | (simp [top]; done) | omega) (by first | exact Nat.le_trans (Dk.turned_len _ _ _).1 (by decide) | exact Nat.le_trans (Dk.turned_len _ _ _).2 (by decide) | assumption | decide | (simp [top]; done) | omega))) ?_
        refine W.q (QV.q (O.pkB ⟨rfl, rfl⟩ (vt rfl) (vs rfl) (vt rfl))) ?_
        refine W.q (QV.q (O.as ⟨rfl, rfl⟩ (vt rfl))) ?_
        refine WL.nil (Q.tn ?_)
        refine CW.ret ?_
        refine ⟨_, [], (RVs.tmp rfl RVs.nil), List.nil_sublist _, ?_⟩
        refine ⟨congrArg Value.bool ?_, rfl⟩
        kernel_rfl
      · refine W.al rfl rfl fun b12 => ?_
        refine WL.nilQn ⟨(by repeat (first | exact List.nil_sublist _ | exact List.Sublist.refl _ | apply List.Sublist.cons₂ | apply List.Sublist.cons)), ?_⟩
        refine RH.one (i := 3) (fun _ _ h => h) (by kernel_rfl) rfl ?_
        refine W.q (O.call ⟨rfl, rfl⟩ (AV.cons (vt rfl) (AV.cons (vt rfl) (AV.nil))) (fun _ w hw => x_Append _ _ _ _ _ _ w (by first | exact Nat.le_trans (Dk.turned_len _ _ _).1 (by decide) | exact Nat.le_trans (Dk.turned_len _ _ _).2 (by decide) | assumption | decide | (simp [top]; done) | omega) (by first | exact Nat.le_trans (Dk.turned_len _ _ _).1 (by decide) | exact Nat.le_trans (Dk.turned_len _ _ _).2 (by decide) | assumption | decide | (simp [top]; done) | omega) (by first | exact Nat.le_trans (Dk.turned_len _ _ _).1 (by decide) | exact Nat.le_trans (Dk.turned_len _ _ _).2 (by decide) | assumption | decide | (simp [top]; done) | omega))) ?_
        refine WL.nilQn ⟨(by repeat (first | exact List.nil_sublist _ | exact List.Sublist.refl _ | apply List.Sublist.cons₂ | apply List.Sublist.cons)), ?_⟩
        refine RH.q 4 (fun _ _ _ h => h) rfl (by kernel_rfl) (by repeat (first | exact List.nil_sublist _ | exact List.Sublist.refl _ | apply List.Sublist.cons₂ | apply List.Sublist.cons)) (O.mv ⟨rfl, rfl⟩ (vt rfl)) ?_
        refine RH.q 5 (fun _ _ _ h => h) rfl (by kernel_rfl) (by repeat (first | exact List.nil_sublist _ | exact List.Sublist.refl _ | apply List.Sublist.cons₂ | apply List.Sublist.cons)) (O.ext ⟨rfl, rfl⟩ (vt rfl) rfl) ?_
        refine RH.q 6 (fun _ _ _ h => h) rfl (by kernel_rfl) (by repeat (first | exact List.nil_sublist _ | exact List.Sublist.refl _ | apply List.Sublist.cons₂ | apply List.Sublist.cons)) (O.ext ⟨rfl, rfl⟩ (vt rfl) rfl) ?_
        refine RH.one (i := 8) (fun _ _ h => h) (by kernel_rfl) rfl ?_
        refine W.st (vt rfl) (vt rfl) rfl ?_
        refine WL.nilQn ⟨(by repeat (first | exact List.nil_sublist _ | exact List.Sublist.refl _ | apply List.Sublist.cons₂ | apply List.Sublist.cons)), ?_⟩
        refine RH.q 9 (fun _ _ _ h => h) rfl (by kernel_rfl) (by repeat (first | exact List.nil_sublist _ | exact List.Sublist.refl _ | apply List.Sublist.cons₂ | apply List.Sublist.cons)) (O.as ⟨rfl, rfl⟩ (vt rfl)) ?_
        refine RH.done (by kernel_rfl) (Q.tn ?_)
        refine CW.seq ?_
        refine CW.region ?_
        refine W.q (QV.q (O.bd ⟨rfl, rfl⟩ (PV.cons (vt rfl) (PV.nil)))) ?_
        refine W.q (O.call ⟨rfl, rfl⟩ (AV.cons (vt rfl) (AV.nil)) (fun _ w hw => x_Sync _ _ _ _ _ w (by first | exact Nat.le_trans (Dk.turned_len _ _ _).1 (by decide) | exact Nat.le_trans (Dk.turned_len _ _ _).2 (by decide) | assumption | decide | (simp [top]; done) | omega) (by first | exact Nat.le_trans (Dk.turned_len _ _ _).1 (by decide) | exact Nat.le_trans (Dk.turned_len _ _ _).2 (by decide) | assumption | decide | (simp [top]; done) | omega))) ?_
        refine W.q (QV.q (O.mv ⟨rfl, rfl⟩ (vt rfl))) ?_
        refine W.q (QV.q (O.ext ⟨rfl, rfl⟩ (vt rfl) rfl)) ?_
        refine W.q (QV.q (O.ext ⟨rfl, rfl⟩ (vt rfl) rfl)) ?_
        refine W.al rfl rfl fun b13 => ?_
        refine W.st (vt rfl) (vt rfl) rfl ?_
        refine W.q (QV.q (O.as ⟨rfl, rfl⟩ (vt rfl))) ?_
        refine WL.nil (Q.tn ?_)
        refine CW.seq ?_
        refine CW.region ?_
        refine W.q (QV.q (O.lds ⟨rfl, rfl⟩ (vt rfl))) ?_
        refine W.q (QV.q (O.bd ⟨rfl, rfl⟩ (PV.cons (vt rfl) (PV.nil)))) ?_
        refine W.q (QV.q (O.eqT ⟨rfl, rfl⟩ (vt rfl) (vt rfl) rfl)) ?_
        refine W.q (QV.q (O.mv ⟨rfl, rfl⟩ (vt rfl))) ?_
        refine W.q (QV.q (O.mv ⟨rfl, rfl⟩ (vt rfl))) ?_
        refine W.q (O.call ⟨rfl, rfl⟩ (AV.cons (vs rfl) (AV.nil)) (fun _ w hw => law0_Num _ w)) ?_
        refine W.q (QV.q (O.eqI ⟨rfl, rfl⟩ (vs rfl) (vt rfl))) ?_
        refine W.q (QV.q (O.pkB ⟨rfl, rfl⟩ (vt rfl) (vs rfl) (vt rfl))) ?_
        refine W.q (QV.q (O.mv ⟨rfl, rfl⟩ (vt rfl))) ?_
        refine W.q (QV.q (O.lds ⟨rfl, rfl⟩ (vt rfl))) ?_
        refine W.q (QV.q (O.bd ⟨rfl, rfl⟩ (PV.cons (vt rfl) (PV.cons (vt rfl) (PV.nil))))) ?_
        refine W.q (QV.q (O.eqT ⟨rfl, rfl⟩ (vs rfl) (vs rfl) rfl)) ?_
        refine W.q (QV.q (O.pkB ⟨rfl, rfl⟩ (vt rfl) (vs rfl) (vt rfl))) ?_
        refine W.q (QV.q (O.mv ⟨rfl, rfl⟩ (vt rfl))) ?_
        refine W.q (QV.q (O.mv ⟨rfl, rfl⟩ (vt rfl))) ?_
        refine W.q (O.call ⟨rfl, rfl⟩ (AV.cons (vs rfl) (AV.nil)) (fun _ w hw => law0_Num _ w)) ?_
        refine W.q (QV.q (O.eqI ⟨rfl, rfl⟩ (vs rfl) (vt rfl))) ?_
        refine W.q (QV.q (O.pkB ⟨rfl, rfl⟩ (vt rfl) (vs rfl) (vt rfl))) ?_
        refine W.q (QV.q (O.mv ⟨rfl, rfl⟩ (vt rfl))) ?_
        refine W.q (QV.q (O.lds ⟨rfl, rfl⟩ (vt rfl))) ?_
        refine W.q (QV.q (O.bd ⟨rfl, rfl⟩ (PV.cons (vt rfl) (PV.cons (vt rfl) (PV.nil))))) ?_
        refine W.q (QV.q (O.eqT ⟨rfl, rfl⟩ (vs rfl) (vs rfl) rfl)) ?_
        refine W.q (QV.q (O.pkB ⟨rfl, rfl⟩ (vt rfl) (vs rfl) (vt rfl))) ?_
        refine W.q (QV.q (O.mv ⟨rfl, rfl⟩ (vt rfl))) ?_
        refine W.q (QV.q (O.mv ⟨rfl, rfl⟩ (vt rfl))) ?_
        refine W.q (O.call ⟨rfl, rfl⟩ (AV.cons (vs rfl) (AV.nil)) (fun _ w hw => law0_Num _ w)) ?_
        refine W.q (QV.q (O.eqI ⟨rfl, rfl⟩ (vs rfl) (vt rfl))) ?_
        refine W.q (QV.q (O.pkB ⟨rfl, rfl⟩ (vt rfl) (vs rfl) (vt rfl))) ?_
        refine W.q (QV.q (O.mv ⟨rfl, rfl⟩ (vt rfl))) ?_
        refine W.q (QV.q (O.lds ⟨rfl, rfl⟩ (vt rfl))) ?_
        refine W.q (QV.q (O.bd ⟨rfl, rfl⟩ (PV.cons (vt rfl) (PV.cons (vt rfl) (PV.nil))))) ?_
        refine W.q (QV.q (O.eqT ⟨rfl, rfl⟩ (vs rfl) (vs rfl) rfl)) ?_
        refine W.q (QV.q (O.pkB ⟨rfl, rfl⟩ (vt rfl) (vs rfl) (vt rfl))) ?_
        refine W.q (QV.q (O.mv ⟨rfl, rfl⟩ (vt rfl))) ?_
        refine W.q (QV.q (O.mv ⟨rfl, rfl⟩ (vt rfl))) ?_
        refine W.q (O.call ⟨rfl, rfl⟩ (AV.cons (vs rfl) (AV.nil)) (fun _ w hw => law0_Num _ w)) ?_
        refine W.q (QV.q (O.eqI ⟨rfl, rfl⟩ (vs rfl) (vt rfl))) ?_
        refine W.q (QV.q (O.pkB ⟨rfl, rfl⟩ (vt rfl) (vs rfl) (vt rfl))) ?_
        refine W.q (QV.q (O.mv ⟨rfl, rfl⟩ (vt rfl))) ?_
        refine W.q (QV.q (O.mv ⟨rfl, rfl⟩ (vt rfl))) ?_
        refine W.q (O.call ⟨rfl, rfl⟩ (AV.cons (vs rfl) (AV.nil)) (fun _ w hw => law0_Num _ w)) ?_
        refine W.q (QV.q (O.eqI ⟨rfl, rfl⟩ (vs rfl) (vt rfl))) ?_
        refine W.q (QV.q (O.pkB ⟨rfl, rfl⟩ (vt rfl) (vs rfl) (vt rfl))) ?_
        refine W.q (QV.q (O.mv ⟨rfl, rfl⟩ (vt rfl))) ?_
        refine W.q (QV.q (O.lds ⟨rfl, rfl⟩ (vt rfl))) ?_
        refine W.q (QV.q (O.bd ⟨rfl, rfl⟩ (PV.cons (vt rfl) (PV.nil)))) ?_
        refine W.q (QV.q (O.eqT ⟨rfl, rfl⟩ (vs rfl) (vs rfl) rfl)) ?_
        refine W.q (QV.q (O.pkB ⟨rfl, rfl⟩ (vt rfl) (vs rfl) (vt rfl))) ?_
        refine W.q (QV.q (O.mv ⟨rfl, rfl⟩ (vt rfl))) ?_
        refine W.q (QV.q (O.mv ⟨rfl, rfl⟩ (vt rfl))) ?_
        refine W.q (O.call ⟨rfl, rfl⟩ (AV.cons (vs rfl) (AV.nil)) (fun _ w hw => law0_Num _ w)) ?_
        refine W.q (QV.q (O.eqI ⟨rfl, rfl⟩ (vs rfl) (vt rfl))) ?_
        refine W.q (QV.q (O.pkB ⟨rfl, rfl⟩ (vt rfl) (vs rfl) (vt rfl))) ?_
        refine W.q (QV.q (O.mv ⟨rfl, rfl⟩ (vt rfl))) ?_
        refine W.q (QV.q (O.mv ⟨rfl, rfl⟩ (vt rfl))) ?_
        refine W.q (O.call ⟨rfl, rfl⟩ (AV.cons (vs rfl) (AV.nil)) (fun _ w hw => law0_Num _ w)) ?_
        refine W.q (QV.q (O.eqI ⟨rfl, rfl⟩ (vs rfl) (vt rfl))) ?_
        refine W.q (QV.q (O.pkB ⟨rfl, rfl⟩ (vt rfl) (vs rfl) (vt rfl))) ?_
        refine W.q (QV.q (O.mv ⟨rfl, rfl⟩ (vt rfl))) ?_
        refine W.q (QV.q (O.lds ⟨rfl, rfl⟩ (vt rfl))) ?_
        refine W.q (QV.q (O.bd ⟨rfl, rfl⟩ (PV.cons (vt rfl) (PV.cons (vt rfl) (PV.nil))))) ?_
        refine W.q (QV.q (O.eqT ⟨rfl, rfl⟩ (vs rfl) (vs rfl) rfl)) ?_
        refine W.q (QV.q (O.pkB ⟨rfl, rfl⟩ (vt rfl) (vs rfl) (vt rfl))) ?_
        refine W.q (QV.q (O.mv ⟨rfl, rfl⟩ (vt rfl))) ?_
        refine W.q (QV.q (O.mv ⟨rfl, rfl⟩ (vt rfl))) ?_
        refine W.q (O.call ⟨rfl, rfl⟩ (AV.cons (vs rfl) (AV.nil)) (fun _ w hw => law0_Num _ w)) ?_
        refine W.q (QV.q (O.eqI ⟨rfl, rfl⟩ (vs rfl) (vt rfl))) ?_
        refine W.q (QV.q (O.pkB ⟨rfl, rfl⟩ (vt rfl) (vs rfl) (vt rfl))) ?_
        refine W.q (QV.q (O.mv ⟨rfl, rfl⟩ (vt rfl))) ?_
        refine W.q (QV.q (O.mv ⟨rfl, rfl⟩ (vt rfl))) ?_
        refine W.q (O.call ⟨rfl, rfl⟩ (AV.cons (vs rfl) (AV.nil)) (fun _ w hw => law0_Num _ w)) ?_
        refine W.q (QV.q (O.eqI ⟨rfl, rfl⟩ (vs rfl) (vt rfl))) ?_
        refine W.q (QV.q (O.pkB ⟨rfl, rfl⟩ (vt rfl) (vs rfl) (vt rfl))) ?_
        refine W.q (QV.q (O.mv ⟨rfl, rfl⟩ (vt rfl))) ?_
        refine W.q (QV.q (O.mv ⟨rfl, rfl⟩ (vt rfl))) ?_
        refine W.q (O.call ⟨rfl, rfl⟩ (AV.cons (vs rfl) (AV.nil)) (fun _ w hw => law0_Num _ w)) ?_
        refine W.q (QV.q (O.eqI ⟨rfl, rfl⟩ (vs rfl) (vt rfl))) ?_
        refine W.q (QV.q (O.pkB ⟨rfl, rfl⟩ (vt rfl) (vs rfl) (vt rfl))) ?_
        refine W.q (QV.q (O.mv ⟨rfl, rfl⟩ (vt rfl))) ?_
        refine W.q (QV.q (O.mv ⟨rfl, rfl⟩ (vt rfl))) ?_
        refine W.q (O.call ⟨rfl, rfl⟩ (AV.cons (vs rfl) (AV.nil)) (fun _ w hw => law0_Num _ w)) ?_
        refine W.q (QV.q (O.eqI ⟨rfl, rfl⟩ (vs rfl) (vt rfl))) ?_
        refine W.q (QV.q (O.pkB ⟨rfl, rfl⟩ (vt rfl) (vs rfl) (vt rfl))) ?_
        refine W.q (QV.q (O.mv ⟨rfl, rfl⟩ (vt rfl))) ?_
        refine W.q (QV.q (O.lds ⟨rfl, rfl⟩ (vt rfl))) ?_
        refine W.q (O.call ⟨rfl, rfl⟩ (AV.cons (vs rfl) (AV.nil)) (fun _ w hw => x_May _ _ _ _ _ w (by first | exact Nat.le_trans (Dk.turned_len _ _ _).1 (by decide) | exact Nat.le_trans (Dk.turned_len _ _ _).2 (by decide) | assumption | decide | (simp [top]; done) | omega) (by first | exact Nat.le_trans (Dk.turned_len _ _ _).1 (by decide) | exact Nat.le_trans (Dk.turned_len _ _ _).2 (by decide) | assumption | decide | (simp [top]; done) | omega))) ?_
        refine W.q (QV.q (O.pkB ⟨rfl, rfl⟩ (vt rfl) (vs rfl) (vt rfl))) ?_
        refine W.q (QV.q (O.as ⟨rfl, rfl⟩ (vt rfl))) ?_
        refine WL.nil (Q.tn ?_)
        refine CW.ret ?_
        refine ⟨_, [], (RVs.tmp rfl RVs.nil), List.nil_sublist _, ?_⟩
        refine ⟨congrArg Value.bool ?_, rfl⟩
        kernel_rfl
    · refine W.al rfl rfl fun b14 => ?_
      refine WL.nilQn ⟨(by repeat (first | exact List.nil_sublist _ | exact List.Sublist.refl _ | apply List.Sublist.cons₂ | apply List.Sublist.cons)), ?_⟩
      refine RH.one (i := 2) (fun _ _ h => h) (by kernel_rfl) rfl ?_
      first | refine W.q (QV.q (O.cvBZ ⟨rfl, rfl⟩ (vt rfl) (by first | exact Nat.le_refl _ | omega))) ?_ | refine W.q (QV.q (O.cvBA ⟨rfl, rfl⟩ (vt rfl))) ?_ | refine W.q (QV.q (O.cvBS ⟨rfl, rfl⟩ (vt rfl) (fun _ => by omega))) ?_
      refine WL.nilQn ⟨(by repeat (first | exact List.nil_sublist _ | exact List.Sublist.refl _ | apply List.Sublist.cons₂ | apply List.Sublist.cons)), ?_⟩
      refine RH.one (i := 3) (fun _ _ h => h) (by kernel_rfl) rfl ?_
      refine W.q (O.call ⟨rfl, rfl⟩ (AV.cons (vt rfl) (AV.cons (vt rfl) (AV.nil))) (fun _ w hw => x_Append _ _ _ _ _ _ w (by first | exact Nat.le_trans (Dk.turned_len _ _ _).1 (by decide) | exact Nat.le_trans (Dk.turned_len _ _ _).2 (by decide) | assumption | decide | (simp [top]; done) | omega) (by first | exact Nat.le_trans (Dk.turned_len _ _ _).1 (by decide) | exact Nat.le_trans (Dk.turned_len _ _ _).2 (by decide) | assumption | decide | (simp [top]; done) | omega) (by first | exact Nat.le_trans (Dk.turned_len _ _ _).1 (by decide) | exact Nat.le_trans (Dk.turned_len _ _ _).2 (by decide) | assumption | decide | (simp [top]; done) | omega))) ?_
      refine WL.nilQn ⟨(by repeat (first | exact List.nil_sublist _ | exact List.Sublist.refl _ | apply List.Sublist.cons₂ | apply List.Sublist.cons)), ?_⟩
      refine RH.q 4 (fun _ _ _ h => h) rfl (by kernel_rfl) (by repeat (first | exact List.nil_sublist _ | exact List.Sublist.refl _ | apply List.Sublist.cons₂ | apply List.Sublist.cons)) (O.mv ⟨rfl, rfl⟩ (vt rfl)) ?_
      refine RH.q 5 (fun _ _ _ h => h) rfl (by kernel_rfl) (by repeat (first | exact List.nil_sublist _ | exact List.Sublist.refl _ | apply List.Sublist.cons₂ | apply List.Sublist.cons)) (O.ext ⟨rfl, rfl⟩ (vt rfl) rfl) ?_
      refine RH.q 6 (fun _ _ _ h => h) rfl (by kernel_rfl) (by repeat (first | exact List.nil_sublist _ | exact List.Sublist.refl _ | apply List.Sublist.cons₂ | apply List.Sublist.cons)) (O.ext ⟨rfl, rfl⟩ (vt rfl) rfl) ?_
      refine RH.one (i := 8) (fun _ _ h => h) (by kernel_rfl) rfl ?_
      refine W.st (vt rfl) (vt rfl) rfl ?_
      refine WL.nilQn ⟨(by repeat (first | exact List.nil_sublist _ | exact List.Sublist.refl _ | apply List.Sublist.cons₂ | apply List.Sublist.cons)), ?_⟩
      refine RH.q 9 (fun _ _ _ h => h) rfl (by kernel_rfl) (by repeat (first | exact List.nil_sublist _ | exact List.Sublist.refl _ | apply List.Sublist.cons₂ | apply List.Sublist.cons)) (O.as ⟨rfl, rfl⟩ (vt rfl)) ?_
      refine RH.done (by kernel_rfl) (Q.tn ?_)
      refine CW.seq ?_
      refine CW.region ?_
      refine W.q (QV.q (O.bd ⟨rfl, rfl⟩ (PV.cons (vt rfl) (PV.nil)))) ?_
      refine W.q (O.call ⟨rfl, rfl⟩ (AV.cons (vt rfl) (AV.nil)) (fun _ w hw => x_Sync _ _ _ _ _ w (by first | exact Nat.le_trans (Dk.turned_len _ _ _).1 (by decide) | exact Nat.le_trans (Dk.turned_len _ _ _).2 (by decide) | assumption | decide | (simp [top]; done) | omega) (by first | exact Nat.le_trans (Dk.turned_len _ _ _).1 (by decide) | exact Nat.le_trans (Dk.turned_len _ _ _).2 (by decide) | assumption | decide | (simp [top]; done) | omega))) ?_
      refine W.q (QV.q (O.mv ⟨rfl, rfl⟩ (vt rfl))) ?_
      refine W.q (QV.q (O.ext ⟨rfl, rfl⟩ (vt rfl) rfl)) ?_
      refine W.q (QV.q (O.ext ⟨rfl, rfl⟩ (vt rfl) rfl)) ?_
      refine W.al rfl rfl fun b15 => ?_
      refine W.st (vt rfl) (vt rfl) rfl ?_
      refine W.q (QV.q (O.as ⟨rfl, rfl⟩ (vt rfl))) ?_
      refine WL.nil (Q.tn ?_)
      refine CW.seq ?_
      refine CW.region ?_
      refine W.q (QV.q (O.lds ⟨rfl, rfl⟩ (vt rfl))) ?_
      refine W.q (QV.q (O.bd ⟨rfl, rfl⟩ (PV.cons (vt rfl) (PV.nil)))) ?_
      refine W.q (QV.q (O.eqT ⟨rfl, rfl⟩ (vt rfl) (vt rfl) rfl)) ?_
      refine W.q (QV.q (O.mv ⟨rfl, rfl⟩ (vt rfl))) ?_
      refine W.q (QV.q (O.mv ⟨rfl, rfl⟩ (vt rfl))) ?_
      refine W.q (O.call ⟨rfl, rfl⟩ (AV.cons (vs rfl) (AV.nil)) (fun _ w hw => law0_Num _ w)) ?_
      refine W.q (QV.q (O.eqI ⟨rfl, rfl⟩ (vs rfl) (vt rfl))) ?_
      refine W.q (QV.q (O.pkB ⟨rfl, rfl⟩ (vt rfl) (vs rfl) (vt rfl))) ?_
      refine W.q (QV.q (O.mv ⟨rfl, rfl⟩ (vt rfl))) ?_
      refine W.q (QV.q (O.lds ⟨rfl, rfl⟩ (vt rfl))) ?_
      refine W.q (QV.q (O.bd ⟨rfl, rfl⟩ (PV.cons (vt rfl) (PV.cons (vt rfl) (PV.nil))))) ?_
      refine W.q (QV.q (O.eqT ⟨rfl, rfl⟩ (vs rfl) (vs rfl) rfl)) ?_
      refine W.q (QV.q (O.pkB ⟨rfl, rfl⟩ (vt rfl) (vs rfl) (vt rfl))) ?_
      refine W.q (QV.q (O.mv ⟨rfl, rfl⟩ (vt rfl))) ?_
      refine W.q (QV.q (O.mv ⟨rfl, rfl⟩ (vt rfl))) ?_
      refine W.q (O.call ⟨rfl, rfl⟩ (AV.cons (vs rfl) (AV.nil)) (fun _ w hw => law0_Num _ w)) ?_
      refine W.q (QV.q (O.eqI ⟨rfl, rfl⟩ (vs rfl) (vt rfl))) ?_
      refine W.q (QV.q (O.pkB ⟨rfl, rfl⟩ (vt rfl) (vs rfl) (vt rfl))) ?_
      refine W.q (QV.q (O.mv ⟨rfl, rfl⟩ (vt rfl))) ?_
      refine W.q (QV.q (O.lds ⟨rfl, rfl⟩ (vt rfl))) ?_
      refine W.q (QV.q (O.bd ⟨rfl, rfl⟩ (PV.cons (vt rfl) (PV.cons (vt rfl) (PV.nil))))) ?_
      refine W.q (QV.q (O.eqT ⟨rfl, rfl⟩ (vs rfl) (vs rfl) rfl)) ?_
      refine W.q (QV.q (O.pkB ⟨rfl, rfl⟩ (vt rfl) (vs rfl) (vt rfl))) ?_
      refine W.q (QV.q (O.mv ⟨rfl, rfl⟩ (vt rfl))) ?_
      refine W.q (QV.q (O.mv ⟨rfl, rfl⟩ (vt rfl))) ?_
      refine W.q (O.call ⟨rfl, rfl⟩ (AV.cons (vs rfl) (AV.nil)) (fun _ w hw => law0_Num _ w)) ?_
      refine W.q (QV.q (O.eqI ⟨rfl, rfl⟩ (vs rfl) (vt rfl))) ?_
      refine W.q (QV.q (O.pkB ⟨rfl, rfl⟩ (vt rfl) (vs rfl) (vt rfl))) ?_
      refine W.q (QV.q (O.mv ⟨rfl, rfl⟩ (vt rfl))) ?_
      refine W.q (QV.q (O.lds ⟨rfl, rfl⟩ (vt rfl))) ?_
      refine W.q (QV.q (O.bd ⟨rfl, rfl⟩ (PV.cons (vt rfl) (PV.cons (vt rfl) (PV.nil))))) ?_
      refine W.q (QV.q (O.eqT ⟨rfl, rfl⟩ (vs rfl) (vs rfl) rfl)) ?_
      refine W.q (QV.q (O.pkB ⟨rfl, rfl⟩ (vt rfl) (vs rfl) (vt rfl))) ?_
      refine W.q (QV.q (O.mv ⟨rfl, rfl⟩ (vt rfl))) ?_
      refine W.q (QV.q (O.mv ⟨rfl, rfl⟩ (vt rfl))) ?_
      refine W.q (O.call ⟨rfl, rfl⟩ (AV.cons (vs rfl) (AV.nil)) (fun _ w hw => law0_Num _ w)) ?_
      refine W.q (QV.q (O.eqI ⟨rfl, rfl⟩ (vs rfl) (vt rfl))) ?_
      refine W.q (QV.q (O.pkB ⟨rfl, rfl⟩ (vt rfl) (vs rfl) (vt rfl))) ?_
      refine W.q (QV.q (O.mv ⟨rfl, rfl⟩ (vt rfl))) ?_
      refine W.q (QV.q (O.mv ⟨rfl, rfl⟩ (vt rfl))) ?_
      refine W.q (O.call ⟨rfl, rfl⟩ (AV.cons (vs rfl) (AV.nil)) (fun _ w hw => law0_Num _ w)) ?_
      refine W.q (QV.q (O.eqI ⟨rfl, rfl⟩ (vs rfl) (vt rfl))) ?_
      refine W.q (QV.q (O.pkB ⟨rfl, rfl⟩ (vt rfl) (vs rfl) (vt rfl))) ?_
      refine W.q (QV.q (O.mv ⟨rfl, rfl⟩ (vt rfl))) ?_
      refine W.q (QV.q (O.lds ⟨rfl, rfl⟩ (vt rfl))) ?_
      refine W.q (QV.q (O.bd ⟨rfl, rfl⟩ (PV.cons (vt rfl) (PV.nil)))) ?_
      refine W.q (QV.q (O.eqT ⟨rfl, rfl⟩ (vs rfl) (vs rfl) rfl)) ?_
      refine W.q (QV.q (O.pkB ⟨rfl, rfl⟩ (vt rfl) (vs rfl) (vt rfl))) ?_
      refine W.q (QV.q (O.mv ⟨rfl, rfl⟩ (vt rfl))) ?_
      refine W.q (QV.q (O.mv ⟨rfl, rfl⟩ (vt rfl))) ?_
      refine W.q (O.call ⟨rfl, rfl⟩ (AV.cons (vs rfl) (AV.nil)) (fun _ w hw => law0_Num _ w)) ?_
      refine W.q (QV.q (O.eqI ⟨rfl, rfl⟩ (vs rfl) (vt rfl))) ?_
      refine W.q (QV.q (O.pkB ⟨rfl, rfl⟩ (vt rfl) (vs rfl) (vt rfl))) ?_
      refine W.q (QV.q (O.mv ⟨rfl, rfl⟩ (vt rfl))) ?_
      refine W.q (QV.q (O.mv ⟨rfl, rfl⟩ (vt rfl))) ?_
      refine W.q (O.call ⟨rfl, rfl⟩ (AV.cons (vs rfl) (AV.nil)) (fun _ w hw => law0_Num _ w)) ?_
      refine W.q (QV.q (O.eqI ⟨rfl, rfl⟩ (vs rfl) (vt rfl))) ?_
      refine W.q (QV.q (O.pkB ⟨rfl, rfl⟩ (vt rfl) (vs rfl) (vt rfl))) ?_
      refine W.q (QV.q (O.mv ⟨rfl, rfl⟩ (vt rfl))) ?_
      refine W.q (QV.q (O.lds ⟨rfl, rfl⟩ (vt rfl))) ?_
      refine W.q (QV.q (O.bd ⟨rfl, rfl⟩ (PV.cons (vt rfl) (PV.cons (vt rfl) (PV.nil))))) ?_
      refine W.q (QV.q (O.eqT ⟨rfl, rfl⟩ (vs rfl) (vs rfl) rfl)) ?_
      refine W.q (QV.q (O.pkB ⟨rfl, rfl⟩ (vt rfl) (vs rfl) (vt rfl))) ?_
      refine W.q (QV.q (O.mv ⟨rfl, rfl⟩ (vt rfl))) ?_
      refine W.q (QV.q (O.mv ⟨rfl, rfl⟩ (vt rfl))) ?_
      refine W.q (O.call ⟨rfl, rfl⟩ (AV.cons (vs rfl) (AV.nil)) (fun _ w hw => law0_Num _ w)) ?_
      refine W.q (QV.q (O.eqI ⟨rfl, rfl⟩ (vs rfl) (vt rfl))) ?_
      refine W.q (QV.q (O.pkB ⟨rfl, rfl⟩ (vt rfl) (vs rfl) (vt rfl))) ?_
      refine W.q (QV.q (O.mv ⟨rfl, rfl⟩ (vt rfl))) ?_
      refine W.q (QV.q (O.mv ⟨rfl, rfl⟩ (vt rfl))) ?_
      refine W.q (O.call ⟨rfl, rfl⟩ (AV.cons (vs rfl) (AV.nil)) (fun _ w hw => law0_Num _ w)) ?_
      refine W.q (QV.q (O.eqI ⟨rfl, rfl⟩ (vs rfl) (vt rfl))) ?_
      refine W.q (QV.q (O.pkB ⟨rfl, rfl⟩ (vt rfl) (vs rfl) (vt rfl))) ?_
      refine W.q (QV.q (O.mv ⟨rfl, rfl⟩ (vt rfl))) ?_
      refine W.q (QV.q (O.mv ⟨rfl, rfl⟩ (vt rfl))) ?_
      refine W.q (O.call ⟨rfl, rfl⟩ (AV.cons (vs rfl) (AV.nil)) (fun _ w hw => law0_Num _ w)) ?_
      refine W.q (QV.q (O.eqI ⟨rfl, rfl⟩ (vs rfl) (vt rfl))) ?_
      refine W.q (QV.q (O.pkB ⟨rfl, rfl⟩ (vt rfl) (vs rfl) (vt rfl))) ?_
      refine W.q (QV.q (O.mv ⟨rfl, rfl⟩ (vt rfl))) ?_
      refine W.q (QV.q (O.mv ⟨rfl, rfl⟩ (vt rfl))) ?_
      refine W.q (O.call ⟨rfl, rfl⟩ (AV.cons (vs rfl) (AV.nil)) (fun _ w hw => law0_Num _ w)) ?_
      refine W.q (QV.q (O.eqI ⟨rfl, rfl⟩ (vs rfl) (vt rfl))) ?_
      refine W.q (QV.q (O.pkB ⟨rfl, rfl⟩ (vt rfl) (vs rfl) (vt rfl))) ?_
      refine W.q (QV.q (O.mv ⟨rfl, rfl⟩ (vt rfl))) ?_
      refine W.q (QV.q (O.lds ⟨rfl, rfl⟩ (vt rfl))) ?_
      refine W.q (O.call ⟨rfl, rfl⟩ (AV.cons (vs rfl) (AV.nil)) (fun _ w hw => x_May _ _ _ _ _ w (by first | exact Nat.le_trans (Dk.turned_len _ _ _).1 (by decide) | exact Nat.le_trans (Dk.turned_len _ _ _).2 (by decide) | assumption | decide | (simp [top]; done) | omega) (by first | exact Nat.le_trans (Dk.turned_len _ _ _).1 (by decide) | exact Nat.le_trans (Dk.turned_len _ _ _).2 (by decide) | assumption | decide | (simp [top]; done) | omega))) ?_
      refine W.q (QV.q (O.pkB ⟨rfl, rfl⟩ (vt rfl) (vs rfl) (vt rfl))) ?_
      refine W.q (QV.q (O.as ⟨rfl, rfl⟩ (vt rfl))) ?_
      refine WL.nil (Q.tn ?_)
      refine CW.ret ?_
      refine ⟨_, [], (RVs.tmp rfl RVs.nil), List.nil_sublist _, ?_⟩
      refine ⟨congrArg Value.bool ?_, rfl⟩
      kernel_rfl
  · refine W.al rfl rfl fun b16 => ?_
    refine WL.nilQn ⟨(by repeat (first | exact List.nil_sublist _ | exact List.Sublist.refl _ | apply List.Sublist.cons₂ | apply List.Sublist.cons)), ?_⟩
    refine RH.one (i := 1) (fun _ _ h => h) (by kernel_rfl) rfl ?_
    refine W.mkB rfl (vt rfl) (vt rfl) (by first | omega | decide) fun b17 => ?_
    refine WL.nilQn ⟨(by repeat (first | exact List.nil_sublist _ | exact List.Sublist.refl _ | apply List.Sublist.cons₂ | apply List.Sublist.cons)), ?_⟩
    refine RH.one (i := 2) (fun _ _ h => h) (by kernel_rfl) rfl ?_
    first | refine W.q (QV.q (O.cvBZ ⟨rfl, rfl⟩ (vt rfl) (by first | exact Nat.le_refl _ | omega))) ?_ | refine W.q (QV.q (O.cvBA ⟨rfl, rfl⟩ (vt rfl))) ?_ | refine W.q (QV.q (O.cvBS ⟨rfl, rfl⟩ (vt rfl) (fun _ => by omega))) ?_
    refine WL.nilQn ⟨(by repeat (first | exact List.nil_sublist _ | exact List.Sublist.refl _ | apply List.Sublist.cons₂ | apply List.Sublist.cons)), ?_⟩
    refine RH.one (i := 3) (fun _ _ h => h) (by kernel_rfl) rfl ?_
    refine W.q (O.call ⟨rfl, rfl⟩ (AV.cons (vt rfl) (AV.cons (vt rfl) (AV.nil))) (fun _ w hw => x_Append _ _ _ _ _ _ w (by first | exact Nat.le_trans (Dk.turned_len _ _ _).1 (by decide) | exact Nat.le_trans (Dk.turned_len _ _ _).2 (by decide) | assumption | decide | (simp [top]; done) | omega) (by first | exact Nat.le_trans (Dk.turned_len _ _ _).1 (by decide) | exact Nat.le_trans (Dk.turned_len _ _ _).2 (by decide) | assumption | decide | (simp [top]; done) | omega) (by first | exact Nat.le_trans (Dk.turned_len _ _ _).1 (by decide) | exact Nat.le_trans (Dk.turned_len _ _ _).2 (by decide) | assumption | decide | (simp [top]; done) | omega))) ?_
    refine WL.nilQn ⟨(by repeat (first | exact List.nil_sublist _ | exact List.Sublist.refl _ | apply List.Sublist.cons₂ | apply List.Sublist.cons)), ?_⟩
    refine RH.q 4 (fun _ _ _ h => h) rfl (by kernel_rfl) (by repeat (first | exact List.nil_sublist _ | exact List.Sublist.refl _ | apply List.Sublist.cons₂ | apply List.Sublist.cons)) (O.mv ⟨rfl, rfl⟩ (vt rfl)) ?_
    refine RH.q 5 (fun _ _ _ h => h) rfl (by kernel_rfl) (by repeat (first | exact List.nil_sublist _ | exact List.Sublist.refl _ | apply List.Sublist.cons₂ | apply List.Sublist.cons)) (O.ext ⟨rfl, rfl⟩ (vt rfl) rfl) ?_
    refine RH.q 6 (fun _ _ _ h => h) rfl (by kernel_rfl) (by repeat (first | exact List.nil_sublist _ | exact List.Sublist.refl _ | apply List.Sublist.cons₂ | apply List.Sublist.cons)) (O.ext ⟨rfl, rfl⟩ (vt rfl) rfl) ?_
    refine RH.one (i := 8) (fun _ _ h => h) (by kernel_rfl) rfl ?_
    refine W.st (vt rfl) (vt rfl) rfl ?_
    refine WL.nilQn ⟨(by repeat (first | exact List.nil_sublist _ | exact List.Sublist.refl _ | apply List.Sublist.cons₂ | apply List.Sublist.cons)), ?_⟩
    refine RH.q 9 (fun _ _ _ h => h) rfl (by kernel_rfl) (by repeat (first | exact List.nil_sublist _ | exact List.Sublist.refl _ | apply List.Sublist.cons₂ | apply List.Sublist.cons)) (O.as ⟨rfl, rfl⟩ (vt rfl)) ?_
    refine RH.done (by kernel_rfl) (Q.tn ?_)
    refine CW.seq ?_
    refine CW.region ?_
    refine W.q (QV.q (O.bd ⟨rfl, rfl⟩ (PV.cons (vt rfl) (PV.nil)))) ?_
    refine W.q (O.call ⟨rfl, rfl⟩ (AV.cons (vt rfl) (AV.nil)) (fun _ w hw => x_Sync _ _ _ _ _ w (by first | exact Nat.le_trans (Dk.turned_len _ _ _).1 (by decide) | exact Nat.le_trans (Dk.turned_len _ _ _).2 (by decide) | assumption | decide | (simp [top]; done) | omega) (by first | exact Nat.le_trans (Dk.turned_len _ _ _).1 (by decide) | exact Nat.le_trans (Dk.turned_len _ _ _).2 (by decide) | assumption | decide | (simp [top]; done) | omega))) ?_
    refine W.q (QV.q (O.mv ⟨rfl, rfl⟩ (vt rfl))) ?_
    refine W.q (QV.q (O.ext ⟨rfl, rfl⟩ (vt rfl) rfl)) ?_
    refine W.q (QV.q (O.ext ⟨rfl, rfl⟩ (vt rfl) rfl)) ?_
    refine W.al rfl rfl fun b18 => ?_
    refine W.st (vt rfl) (vt rfl) rfl ?_
    refine W.q (QV.q (O.as ⟨rfl, rfl⟩ (vt rfl))) ?_
    refine WL.nil (Q.tn ?_)
    refine CW.seq ?_
    refine CW.region ?_
    refine W.q (QV.q (O.lds ⟨rfl, rfl⟩ (vt rfl))) ?_
    refine W.q (QV.q (O.bd ⟨rfl, rfl⟩ (PV.cons (vt rfl) (PV.nil)))) ?_
    refine W.q (QV.q (O.eqT ⟨rfl, rfl⟩ (vt rfl) (vt rfl) rfl)) ?_
    refine W.q (QV.q (O.mv ⟨rfl, rfl⟩ (vt rfl))) ?_
    refine W.q (QV.q (O.mv ⟨rfl, rfl⟩ (vt rfl))) ?_
    refine W.q (O.call ⟨rfl, rfl⟩ (AV.cons (vs rfl) (AV.nil)) (fun _ w hw => law0_Num _ w)) ?_
    refine W.q (QV.q (O.eqI ⟨rfl, rfl⟩ (vs rfl) (vt rfl))) ?_
    refine W.q (QV.q (O.pkB ⟨rfl, rfl⟩ (vt rfl) (vs rfl) (vt rfl))) ?_
    refine W.q (QV.q (O.mv ⟨rfl, rfl⟩ (vt rfl))) ?_
    refine W.q (QV.q (O.lds ⟨rfl, rfl⟩ (vt rfl))) ?_
    refine W.q (QV.q (O.bd ⟨rfl, rfl⟩ (PV.cons (vt rfl) (PV.cons (vt rfl) (PV.nil))))) ?_
    refine W.q (QV.q (O.eqT ⟨rfl, rfl⟩ (vs rfl) (vs rfl) rfl)) ?_
    refine W.q (QV.q (O.pkB ⟨rfl, rfl⟩ (vt rfl) (vs rfl) (vt rfl))) ?_
    refine W.q (QV.q (O.mv ⟨rfl, rfl⟩ (vt rfl))) ?_
    refine W.q (QV.q (O.mv ⟨rfl, rfl⟩ (vt rfl))) ?_
    refine W.q (O.call ⟨rfl, rfl⟩ (AV.cons (vs rfl) (AV.nil)) (fun _ w hw => law0_Num _ w)) ?_
    refine W.q (QV.q (O.eqI ⟨rfl, rfl⟩ (vs rfl) (vt rfl))) ?_
    refine W.q (QV.q (O.pkB ⟨rfl, rfl⟩ (vt rfl) (vs rfl) (vt rfl))) ?_
    refine W.q (QV.q (O.mv ⟨rfl, rfl⟩ (vt rfl))) ?_
    refine W.q (QV.q (O.lds ⟨rfl, rfl⟩ (vt rfl))) ?_
    refine W.q (QV.q (O.bd ⟨rfl, rfl⟩ (PV.cons (vt rfl) (PV.cons (vt rfl) (PV.nil))))) ?_
    refine W.q (QV.q (O.eqT ⟨rfl, rfl⟩ (vs rfl) (vs rfl) rfl)) ?_
    refine W.q (QV.q (O.pkB ⟨rfl, rfl⟩ (vt rfl) (vs rfl) (vt rfl))) ?_
    refine W.q (QV.q (O.mv ⟨rfl, rfl⟩ (vt rfl))) ?_
    refine W.q (QV.q (O.mv ⟨rfl, rfl⟩ (vt rfl))) ?_
    refine W.q (O.call ⟨rfl, rfl⟩ (AV.cons (vs rfl) (AV.nil)) (fun _ w hw => law0_Num _ w)) ?_
    refine W.q (QV.q (O.eqI ⟨rfl, rfl⟩ (vs rfl) (vt rfl))) ?_
    refine W.q (QV.q (O.pkB ⟨rfl, rfl⟩ (vt rfl) (vs rfl) (vt rfl))) ?_
    refine W.q (QV.q (O.mv ⟨rfl, rfl⟩ (vt rfl))) ?_
    refine W.q (QV.q (O.lds ⟨rfl, rfl⟩ (vt rfl))) ?_
    refine W.q (QV.q (O.bd ⟨rfl, rfl⟩ (PV.cons (vt rfl) (PV.cons (vt rfl) (PV.nil))))) ?_
    refine W.q (QV.q (O.eqT ⟨rfl, rfl⟩ (vs rfl) (vs rfl) rfl)) ?_
    refine W.q (QV.q (O.pkB ⟨rfl, rfl⟩ (vt rfl) (vs rfl) (vt rfl))) ?_
    refine W.q (QV.q (O.mv ⟨rfl, rfl⟩ (vt rfl))) ?_
    refine W.q (QV.q (O.mv ⟨rfl, rfl⟩ (vt rfl))) ?_
    refine W.q (O.call ⟨rfl, rfl⟩ (AV.cons (vs rfl) (AV.nil)) (fun _ w hw => law0_Num _ w)) ?_
    refine W.q (QV.q (O.eqI ⟨rfl, rfl⟩ (vs rfl) (vt rfl))) ?_
    refine W.q (QV.q (O.pkB ⟨rfl, rfl⟩ (vt rfl) (vs rfl) (vt rfl))) ?_
    refine W.q (QV.q (O.mv ⟨rfl, rfl⟩ (vt rfl))) ?_
    refine W.q (QV.q (O.mv ⟨rfl, rfl⟩ (vt rfl))) ?_
    refine W.q (O.call ⟨rfl, rfl⟩ (AV.cons (vs rfl) (AV.nil)) (fun _ w hw => law0_Num _ w)) ?_
    refine W.q (QV.q (O.eqI ⟨rfl, rfl⟩ (vs rfl) (vt rfl))) ?_
    refine W.q (QV.q (O.pkB ⟨rfl, rfl⟩ (vt rfl) (vs rfl) (vt rfl))) ?_
    refine W.q (QV.q (O.mv ⟨rfl, rfl⟩ (vt rfl))) ?_
    refine W.q (QV.q (O.lds ⟨rfl, rfl⟩ (vt rfl))) ?_
    refine W.q (QV.q (O.bd ⟨rfl, rfl⟩ (PV.cons (vt rfl) (PV.nil)))) ?_
    refine W.q (QV.q (O.eqT ⟨rfl, rfl⟩ (vs rfl) (vs rfl) rfl)) ?_
    refine W.q (QV.q (O.pkB ⟨rfl, rfl⟩ (vt rfl) (vs rfl) (vt rfl))) ?_
    refine W.q (QV.q (O.mv ⟨rfl, rfl⟩ (vt rfl))) ?_
    refine W.q (QV.q (O.mv ⟨rfl, rfl⟩ (vt rfl))) ?_
    refine W.q (O.call ⟨rfl, rfl⟩ (AV.cons (vs rfl) (AV.nil)) (fun _ w hw => law0_Num _ w)) ?_
    refine W.q (QV.q (O.eqI ⟨rfl, rfl⟩ (vs rfl) (vt rfl))) ?_
    refine W.q (QV.q (O.pkB ⟨rfl, rfl⟩ (vt rfl) (vs rfl) (vt rfl))) ?_
    refine W.q (QV.q (O.mv ⟨rfl, rfl⟩ (vt rfl))) ?_
    refine W.q (QV.q (O.mv ⟨rfl, rfl⟩ (vt rfl))) ?_
    refine W.q (O.call ⟨rfl, rfl⟩ (AV.cons (vs rfl) (AV.nil)) (fun _ w hw => law0_Num _ w)) ?_
    refine W.q (QV.q (O.eqI ⟨rfl, rfl⟩ (vs rfl) (vt rfl))) ?_
    refine W.q (QV.q (O.pkB ⟨rfl, rfl⟩ (vt rfl) (vs rfl) (vt rfl))) ?_
    refine W.q (QV.q (O.mv ⟨rfl, rfl⟩ (vt rfl))) ?_
    refine W.q (QV.q (O.lds ⟨rfl, rfl⟩ (vt rfl))) ?_
    refine W.q (QV.q (O.bd ⟨rfl, rfl⟩ (PV.cons (vt rfl) (PV.cons (vt rfl) (PV.nil))))) ?_
    refine W.q (QV.q (O.eqT ⟨rfl, rfl⟩ (vs rfl) (vs rfl) rfl)) ?_
    refine W.q (QV.q (O.pkB ⟨rfl, rfl⟩ (vt rfl) (vs rfl) (vt rfl))) ?_
    refine W.q (QV.q (O.mv ⟨rfl, rfl⟩ (vt rfl))) ?_
    refine W.q (QV.q (O.mv ⟨rfl, rfl⟩ (vt rfl))) ?_
    refine W.q (O.call ⟨rfl, rfl⟩ (AV.cons (vs rfl) (AV.nil)) (fun _ w hw => law0_Num _ w)) ?_
    refine W.q (QV.q (O.eqI ⟨rfl, rfl⟩ (vs rfl) (vt rfl))) ?_
    refine W.q (QV.q (O.pkB ⟨rfl, rfl⟩ (vt rfl) (vs rfl) (vt rfl))) ?_
    refine W.q (QV.q (O.mv ⟨rfl, rfl⟩ (vt rfl))) ?_
    refine W.q (QV.q (O.mv ⟨rfl, rfl⟩ (vt rfl))) ?_
    refine W.q (O.call ⟨rfl, rfl⟩ (AV.cons (vs rfl) (AV.nil)) (fun _ w hw => law0_Num _ w)) ?_
    refine W.q (QV.q (O.eqI ⟨rfl, rfl⟩ (vs rfl) (vt rfl))) ?_
    refine W.q (QV.q (O.pkB ⟨rfl, rfl⟩ (vt rfl) (vs rfl) (vt rfl))) ?_
    refine W.q (QV.q (O.mv ⟨rfl, rfl⟩ (vt rfl))) ?_
    refine W.q (QV.q (O.mv ⟨rfl, rfl⟩ (vt rfl))) ?_
    refine W.q (O.call ⟨rfl, rfl⟩ (AV.cons (vs rfl) (AV.nil)) (fun _ w hw => law0_Num _ w)) ?_
    refine W.q (QV.q (O.eqI ⟨rfl, rfl⟩ (vs rfl) (vt rfl))) ?_
    refine W.q (QV.q (O.pkB ⟨rfl, rfl⟩ (vt rfl) (vs rfl) (vt rfl))) ?_
    refine W.q (QV.q (O.mv ⟨rfl, rfl⟩ (vt rfl))) ?_
    refine W.q (QV.q (O.mv ⟨rfl, rfl⟩ (vt rfl))) ?_
    refine W.q (O.call ⟨rfl, rfl⟩ (AV.cons (vs rfl) (AV.nil)) (fun _ w hw => law0_Num _ w)) ?_
    refine W.q (QV.q (O.eqI ⟨rfl, rfl⟩ (vs rfl) (vt rfl))) ?_
    refine W.q (QV.q (O.pkB ⟨rfl, rfl⟩ (vt rfl) (vs rfl) (vt rfl))) ?_
    refine W.q (QV.q (O.mv ⟨rfl, rfl⟩ (vt rfl))) ?_
    refine W.q (QV.q (O.lds ⟨rfl, rfl⟩ (vt rfl))) ?_
    refine W.q (O.call ⟨rfl, rfl⟩ (AV.cons (vs rfl) (AV.nil)) (fun _ w hw => x_May _ _ _ _ _ w (by first | exact Nat.le_trans (Dk.turned_len _ _ _).1 (by decide) | exact Nat.le_trans (Dk.turned_len _ _ _).2 (by decide) | assumption | decide | (simp [top]; done) | omega) (by first | exact Nat.le_trans (Dk.turned_len _ _ _).1 (by decide) | exact Nat.le_trans (Dk.turned_len _ _ _).2 (by decide) | assumption | decide | (simp [top]; done) | omega))) ?_
    refine W.q (QV.q (O.pkB ⟨rfl, rfl⟩ (vt rfl) (vs rfl) (vt rfl))) ?_
    refine W.q (QV.q (O.as ⟨rfl, rfl⟩ (vt rfl))) ?_
    refine WL.nil (Q.tn ?_)
    refine CW.ret ?_
    refine ⟨_, [], (RVs.tmp rfl RVs.nil), List.nil_sublist _, ?_⟩
    refine ⟨congrArg Value.bool ?_, rfl⟩
    kernel_rfl
set_option maxRecDepth 100000 in
theorem law22_Disks (log : List UInt8) (syn : Int) (bes : Bool) (nxt : List UInt8) (kep : Int) (s : List UInt8) (keep : Int) (w : World) (h1 : log.length ≤ top) (h2 : nxt.length ≤ top) (h3 : s.length ≤ top) :
    Fn Try.prog 3 [.agg #[.string (S log), .int .i64 syn, .bool bes, .string (S nxt), .int .i64 kep], .string (S s), .int .i64 keep] w [] fun v L' => v = .bool true ∧ L' = [] := by
  refine Fn.enter Try.func3 rfl rfl rfl rfl (Holds.nil w) ?_
  refine CW.seq ?_
  refine CW.region ?_
  refine W.bx rfl (vt rfl) rfl fun b1 => ?_
  refine W.q (QV.q (O.as ⟨rfl, rfl⟩ (vt rfl))) ?_
  refine WL.nil (Q.tn ?_)
  refine CW.seq ?_
  refine CW.region ?_
  refine W.q (QV.q (O.lds ⟨rfl, rfl⟩ (vt rfl))) ?_
  refine W.q (QV.q (O.mv ⟨rfl, rfl⟩ (vt rfl))) ?_
  refine W.q (O.call ⟨rfl, rfl⟩ (AV.cons (vt rfl) (AV.cons (vt rfl) (AV.nil))) (fun _ w hw => x_Append _ _ _ _ _ _ w (by first | exact Nat.le_trans (Dk.turned_len _ _ _).1 (by decide) | exact Nat.le_trans (Dk.turned_len _ _ _).2 (by decide) | assumption | decide | (simp [top]; done) | omega) (by first | exact Nat.le_trans (Dk.turned_len _ _ _).1 (by decide) | exact Nat.le_trans (Dk.turned_len _ _ _).2 (by decide) | assumption | decide | (simp [top]; done) | omega) (by first | exact Nat.le_trans (Dk.turned_len _ _ _).1 (by decide) | exact Nat.le_trans (Dk.turned_len _ _ _).2 (by decide) | assumption | decide | (simp [top]; done) | omega))) ?_
  refine W.q (QV.q (O.mv ⟨rfl, rfl⟩ (vt rfl))) ?_
  refine W.q (QV.q (O.ext ⟨rfl, rfl⟩ (vt rfl) rfl)) ?_
  refine W.q (QV.q (O.ext ⟨rfl, rfl⟩ (vt rfl) rfl)) ?_
  refine W.al rfl rfl fun b2 => ?_
  refine W.st (vt rfl) (vt rfl) rfl ?_
  refine W.q (QV.q (O.as ⟨rfl, rfl⟩ (vt rfl))) ?_
  refine WL.nil (Q.tn ?_)
  refine CW.seq ?_
  refine CW.region ?_
  refine W.q (QV.q (O.lds ⟨rfl, rfl⟩ (vt rfl))) ?_
  refine W.q (QV.q (O.mv ⟨rfl, rfl⟩ (vt rfl))) ?_
  refine W.q (O.call ⟨rfl, rfl⟩ (AV.cons (vt rfl) (AV.cons (vt rfl) (AV.nil))) (fun _ w hw => xr_Append _ _ _ _ _ _ w (by first | exact Nat.le_trans (Dk.turned_len _ _ _).1 (by decide) | exact Nat.le_trans (Dk.turned_len _ _ _).2 (by decide) | assumption | decide | (simp [top]; done) | omega) (by first | exact Nat.le_trans (Dk.turned_len _ _ _).1 (by decide) | exact Nat.le_trans (Dk.turned_len _ _ _).2 (by decide) | assumption | decide | (simp [top]; done) | omega) (by first | exact Nat.le_trans (Dk.turned_len _ _ _).1 (by decide) | exact Nat.le_trans (Dk.turned_len _ _ _).2 (by decide) | assumption | decide | (simp [top]; done) | omega))) ?_
  refine W.q (QV.q (O.mv ⟨rfl, rfl⟩ (vt rfl))) ?_
  refine W.q (QV.q (O.ext ⟨rfl, rfl⟩ (vt rfl) rfl)) ?_
  refine W.q (QV.q (O.ext ⟨rfl, rfl⟩ (vt rfl) rfl)) ?_
  refine W.al rfl rfl fun b3 => ?_
  refine W.st (vt rfl) (vt rfl) rfl ?_
  refine W.q (QV.q (O.as ⟨rfl, rfl⟩ (vt rfl))) ?_
  refine WL.nil (Q.tn ?_)
  refine CW.seq ?_
  refine CW.region ?_
  refine W.q (QV.q (O.lds ⟨rfl, rfl⟩ (vt rfl))) ?_
  refine W.q (O.call ⟨rfl, rfl⟩ (AV.cons (vt rfl) (AV.nil)) (fun _ w hw => x_Sync _ _ _ _ _ w (by first | exact Nat.le_trans (Dk.turned_len _ _ _).1 (by decide) | exact Nat.le_trans (Dk.turned_len _ _ _).2 (by decide) | assumption | decide | (simp [top]; done) | omega) (by first | exact Nat.le_trans (Dk.turned_len _ _ _).1 (by decide) | exact Nat.le_trans (Dk.turned_len _ _ _).2 (by decide) | assumption | decide | (simp [top]; done) | omega))) ?_
  refine W.q (QV.q (O.mv ⟨rfl, rfl⟩ (vt rfl))) ?_
  refine W.q (QV.q (O.ext ⟨rfl, rfl⟩ (vt rfl) rfl)) ?_
  refine W.q (QV.q (O.ext ⟨rfl, rfl⟩ (vt rfl) rfl)) ?_
  refine W.al rfl rfl fun b4 => ?_
  refine W.st (vt rfl) (vt rfl) rfl ?_
  refine W.q (QV.q (O.as ⟨rfl, rfl⟩ (vt rfl))) ?_
  refine WL.nil (Q.tn ?_)
  refine CW.seq ?_
  refine CW.region ?_
  refine W.q (QV.q (O.lds ⟨rfl, rfl⟩ (vt rfl))) ?_
  refine W.q (O.call ⟨rfl, rfl⟩ (AV.cons (vt rfl) (AV.nil)) (fun _ w hw => xr_Sync _ _ _ _ _ w (by first | exact Nat.le_trans (Dk.turned_len _ _ _).1 (by decide) | exact Nat.le_trans (Dk.turned_len _ _ _).2 (by decide) | assumption | decide | (simp [top]; done) | omega) (by first | exact Nat.le_trans (Dk.turned_len _ _ _).1 (by decide) | exact Nat.le_trans (Dk.turned_len _ _ _).2 (by decide) | assumption | decide | (simp [top]; done) | omega))) ?_
  refine W.q (QV.q (O.mv ⟨rfl, rfl⟩ (vt rfl))) ?_
  refine W.q (QV.q (O.ext ⟨rfl, rfl⟩ (vt rfl) rfl)) ?_
  refine W.q (QV.q (O.ext ⟨rfl, rfl⟩ (vt rfl) rfl)) ?_
  refine W.al rfl rfl fun b5 => ?_
  refine W.st (vt rfl) (vt rfl) rfl ?_
  refine W.q (QV.q (O.as ⟨rfl, rfl⟩ (vt rfl))) ?_
  refine WL.nil (Q.tn ?_)
  refine CW.seq ?_
  refine CW.region ?_
  refine W.q (QV.q (O.lds ⟨rfl, rfl⟩ (vt rfl))) ?_
  refine W.q (QV.q (O.mv ⟨rfl, rfl⟩ (vt rfl))) ?_
  refine W.q (O.call ⟨rfl, rfl⟩ (AV.cons (vt rfl) (AV.cons (vt rfl) (AV.nil))) (fun _ w hw => x_Begin _ _ _ _ _ _ w (by first | exact Nat.le_trans (Dk.turned_len _ _ _).1 (by decide) | exact Nat.le_trans (Dk.turned_len _ _ _).2 (by decide) | assumption | decide | (simp [top]; done) | omega) (by first | exact Nat.le_trans (Dk.turned_len _ _ _).1 (by decide) | exact Nat.le_trans (Dk.turned_len _ _ _).2 (by decide) | assumption | decide | (simp [top]; done) | omega) (by first | exact Nat.le_trans (Dk.turned_len _ _ _).1 (by decide) | exact Nat.le_trans (Dk.turned_len _ _ _).2 (by decide) | assumption | decide | (simp [top]; done) | omega))) ?_
  refine W.q (QV.q (O.mv ⟨rfl, rfl⟩ (vt rfl))) ?_
  refine W.q (QV.q (O.ext ⟨rfl, rfl⟩ (vt rfl) rfl)) ?_
  refine W.q (QV.q (O.ext ⟨rfl, rfl⟩ (vt rfl) rfl)) ?_
  refine W.al rfl rfl fun b6 => ?_
  refine W.st (vt rfl) (vt rfl) rfl ?_
  refine W.q (QV.q (O.as ⟨rfl, rfl⟩ (vt rfl))) ?_
  refine WL.nil (Q.tn ?_)
  refine CW.seq ?_
  refine CW.region ?_
  refine W.q (QV.q (O.lds ⟨rfl, rfl⟩ (vt rfl))) ?_
  refine W.q (QV.q (O.mv ⟨rfl, rfl⟩ (vt rfl))) ?_
  refine W.q (O.call ⟨rfl, rfl⟩ (AV.cons (vt rfl) (AV.cons (vt rfl) (AV.nil))) (fun _ w hw => xr_Begin _ _ _ _ _ _ w (by first | exact Nat.le_trans (Dk.turned_len _ _ _).1 (by decide) | exact Nat.le_trans (Dk.turned_len _ _ _).2 (by decide) | assumption | decide | (simp [top]; done) | omega) (by first | exact Nat.le_trans (Dk.turned_len _ _ _).1 (by decide) | exact Nat.le_trans (Dk.turned_len _ _ _).2 (by decide) | assumption | decide | (simp [top]; done) | omega) (by first | exact Nat.le_trans (Dk.turned_len _ _ _).1 (by decide) | exact Nat.le_trans (Dk.turned_len _ _ _).2 (by decide) | assumption | decide | (simp [top]; done) | omega))) ?_
  refine W.q (QV.q (O.mv ⟨rfl, rfl⟩ (vt rfl))) ?_
  refine W.q (QV.q (O.ext ⟨rfl, rfl⟩ (vt rfl) rfl)) ?_
  refine W.q (QV.q (O.ext ⟨rfl, rfl⟩ (vt rfl) rfl)) ?_
  refine W.al rfl rfl fun b7 => ?_
  refine W.st (vt rfl) (vt rfl) rfl ?_
  refine W.q (QV.q (O.as ⟨rfl, rfl⟩ (vt rfl))) ?_
  refine WL.nil (Q.tn ?_)
  refine CW.seq ?_
  refine CW.region ?_
  refine W.q (QV.q (O.lds ⟨rfl, rfl⟩ (vt rfl))) ?_
  refine W.q (O.call ⟨rfl, rfl⟩ (AV.cons (vt rfl) (AV.nil)) (fun _ w hw => x_Settle _ _ _ _ _ w (by first | exact Nat.le_trans (Dk.turned_len _ _ _).1 (by decide) | exact Nat.le_trans (Dk.turned_len _ _ _).2 (by decide) | assumption | decide | (simp [top]; done) | omega) (by first | exact Nat.le_trans (Dk.turned_len _ _ _).1 (by decide) | exact Nat.le_trans (Dk.turned_len _ _ _).2 (by decide) | assumption | decide | (simp [top]; done) | omega))) ?_
  refine W.q (QV.q (O.mv ⟨rfl, rfl⟩ (vt rfl))) ?_
  refine W.q (QV.q (O.ext ⟨rfl, rfl⟩ (vt rfl) rfl)) ?_
  refine W.q (QV.q (O.ext ⟨rfl, rfl⟩ (vt rfl) rfl)) ?_
  refine W.al rfl rfl fun b8 => ?_
  refine W.st (vt rfl) (vt rfl) rfl ?_
  refine W.q (QV.q (O.as ⟨rfl, rfl⟩ (vt rfl))) ?_
  refine WL.nil (Q.tn ?_)
  refine CW.seq ?_
  refine CW.region ?_
  refine W.q (QV.q (O.lds ⟨rfl, rfl⟩ (vt rfl))) ?_
  refine W.q (O.call ⟨rfl, rfl⟩ (AV.cons (vt rfl) (AV.nil)) (fun _ w hw => xr_Settle _ _ _ _ _ w (by first | exact Nat.le_trans (Dk.turned_len _ _ _).1 (by decide) | exact Nat.le_trans (Dk.turned_len _ _ _).2 (by decide) | assumption | decide | (simp [top]; done) | omega) (by first | exact Nat.le_trans (Dk.turned_len _ _ _).1 (by decide) | exact Nat.le_trans (Dk.turned_len _ _ _).2 (by decide) | assumption | decide | (simp [top]; done) | omega))) ?_
  refine W.q (QV.q (O.mv ⟨rfl, rfl⟩ (vt rfl))) ?_
  refine W.q (QV.q (O.ext ⟨rfl, rfl⟩ (vt rfl) rfl)) ?_
  refine W.q (QV.q (O.ext ⟨rfl, rfl⟩ (vt rfl) rfl)) ?_
  refine W.al rfl rfl fun b9 => ?_
  refine W.st (vt rfl) (vt rfl) rfl ?_
  refine W.q (QV.q (O.as ⟨rfl, rfl⟩ (vt rfl))) ?_
  refine WL.nil (Q.tn ?_)
  refine CW.seq ?_
  refine CW.region ?_
  refine W.q (QV.q (O.lds ⟨rfl, rfl⟩ (vt rfl))) ?_
  refine W.q (O.call ⟨rfl, rfl⟩ (AV.cons (vt rfl) (AV.nil)) (fun _ w hw => x_Swap _ _ _ _ _ w (by first | exact Nat.le_trans (Dk.turned_len _ _ _).1 (by decide) | exact Nat.le_trans (Dk.turned_len _ _ _).2 (by decide) | assumption | decide | (simp [top]; done) | omega) (by first | exact Nat.le_trans (Dk.turned_len _ _ _).1 (by decide) | exact Nat.le_trans (Dk.turned_len _ _ _).2 (by decide) | assumption | decide | (simp [top]; done) | omega))) ?_
  refine W.q (QV.q (O.mv ⟨rfl, rfl⟩ (vt rfl))) ?_
  refine W.q (QV.q (O.ext ⟨rfl, rfl⟩ (vt rfl) rfl)) ?_
  refine W.q (QV.q (O.ext ⟨rfl, rfl⟩ (vt rfl) rfl)) ?_
  refine W.al rfl rfl fun b10 => ?_
  refine W.st (vt rfl) (vt rfl) rfl ?_
  refine W.q (QV.q (O.as ⟨rfl, rfl⟩ (vt rfl))) ?_
  refine WL.nil (Q.tn ?_)
  refine CW.seq ?_
  refine CW.region ?_
  refine W.q (QV.q (O.lds ⟨rfl, rfl⟩ (vt rfl))) ?_
  refine W.q (O.call ⟨rfl, rfl⟩ (AV.cons (vt rfl) (AV.nil)) (fun _ w hw => xr_Swap _ _ _ _ _ w (by first | exact Nat.le_trans (Dk.turned_len _ _ _).1 (by decide) | exact Nat.le_trans (Dk.turned_len _ _ _).2 (by decide) | assumption | decide | (simp [top]; done) | omega) (by first | exact Nat.le_trans (Dk.turned_len _ _ _).1 (by decide) | exact Nat.le_trans (Dk.turned_len _ _ _).2 (by decide) | assumption | decide | (simp [top]; done) | omega))) ?_
  refine W.q (QV.q (O.mv ⟨rfl, rfl⟩ (vt rfl))) ?_
  refine W.q (QV.q (O.ext ⟨rfl, rfl⟩ (vt rfl) rfl)) ?_
  refine W.q (QV.q (O.ext ⟨rfl, rfl⟩ (vt rfl) rfl)) ?_
  refine W.al rfl rfl fun b11 => ?_
  refine W.st (vt rfl) (vt rfl) rfl ?_
  refine W.q (QV.q (O.as ⟨rfl, rfl⟩ (vt rfl))) ?_
  refine WL.nil (Q.tn ?_)
  refine CW.seq ?_
  refine CW.region ?_
  refine W.q (QV.q (O.lds ⟨rfl, rfl⟩ (vt rfl))) ?_
  refine W.q (QV.q (O.mv ⟨rfl, rfl⟩ (vt rfl))) ?_
  refine W.q (O.call ⟨rfl, rfl⟩ (AV.cons (vt rfl) (AV.cons (vt rfl) (AV.nil))) (fun _ w hw => x_Crash _ _ _ _ _ _ w (by first | exact Nat.le_trans (Dk.turned_len _ _ _).1 (by decide) | exact Nat.le_trans (Dk.turned_len _ _ _).2 (by decide) | assumption | decide | (simp [top]; done) | omega) (by first | exact Nat.le_trans (Dk.turned_len _ _ _).1 (by decide) | exact Nat.le_trans (Dk.turned_len _ _ _).2 (by decide) | assumption | decide | (simp [top]; done) | omega))) ?_
  refine W.q (QV.q (O.mv ⟨rfl, rfl⟩ (vt rfl))) ?_
  refine W.q (QV.q (O.ext ⟨rfl, rfl⟩ (vt rfl) rfl)) ?_
  refine W.q (QV.q (O.ext ⟨rfl, rfl⟩ (vt rfl) rfl)) ?_
  refine W.al rfl rfl fun b12 => ?_
  refine W.st (vt rfl) (vt rfl) rfl ?_
  refine W.q (QV.q (O.as ⟨rfl, rfl⟩ (vt rfl))) ?_
  refine WL.nil (Q.tn ?_)
  refine CW.seq ?_
  refine CW.region ?_
  refine W.q (QV.q (O.lds ⟨rfl, rfl⟩ (vt rfl))) ?_
  refine W.q (QV.q (O.mv ⟨rfl, rfl⟩ (vt rfl))) ?_
  refine W.q (O.call ⟨rfl, rfl⟩ (AV.cons (vt rfl) (AV.cons (vt rfl) (AV.nil))) (fun _ w hw => xr_Crash _ _ _ _ _ _ w (by first | exact Nat.le_trans (Dk.turned_len _ _ _).1 (by decide) | exact Nat.le_trans (Dk.turned_len _ _ _).2 (by decide) | assumption | decide | (simp [top]; done) | omega) (by first | exact Nat.le_trans (Dk.turned_len _ _ _).1 (by decide) | exact Nat.le_trans (Dk.turned_len _ _ _).2 (by decide) | assumption | decide | (simp [top]; done) | omega))) ?_
  refine W.q (QV.q (O.mv ⟨rfl, rfl⟩ (vt rfl))) ?_
  refine W.q (QV.q (O.ext ⟨rfl, rfl⟩ (vt rfl) rfl)) ?_
  refine W.q (QV.q (O.ext ⟨rfl, rfl⟩ (vt rfl) rfl)) ?_
  refine W.al rfl rfl fun b13 => ?_
  refine W.st (vt rfl) (vt rfl) rfl ?_
  refine W.q (QV.q (O.as ⟨rfl, rfl⟩ (vt rfl))) ?_
  refine WL.nil (Q.tn ?_)
  refine CW.seq ?_
  refine CW.draw 75 rfl (by kernel_rfl) ?_
  refine WQ.q (QV.q (O.lds ⟨rfl, rfl⟩ (vt rfl))) ?_
  refine WQ.q (QV.q (O.lds ⟨rfl, rfl⟩ (vt rfl))) ?_
  refine WQ.q (QV.q (O.eqT ⟨rfl, rfl⟩ (vt rfl) (vt rfl) rfl)) ?_
  refine WQ.q (QV.q (O.mv ⟨rfl, rfl⟩ (vt rfl))) ?_
  refine WQ.q (QV.q (O.mv ⟨rfl, rfl⟩ (vt rfl))) ?_
  refine WQ.q (O.call ⟨rfl, rfl⟩ (AV.cons (vs rfl) (AV.nil)) (fun _ w hw => law0_Num _ w)) ?_
  refine WQ.q (QV.q (O.mv ⟨rfl, rfl⟩ (vt rfl))) ?_
  refine WQ.q (QV.q (O.eqI ⟨rfl, rfl⟩ (vs rfl) (vs rfl))) ?_
  refine WQ.q (QV.q (O.pkB ⟨rfl, rfl⟩ (vt rfl) (vs rfl) (vt rfl))) ?_
  refine WQ.q (QV.q (O.mv ⟨rfl, rfl⟩ (vt rfl))) ?_
  refine WQ.q (QV.q (O.lds ⟨rfl, rfl⟩ (vt rfl))) ?_
  refine WQ.q (QV.q (O.lds ⟨rfl, rfl⟩ (vt rfl))) ?_
  refine WQ.q (QV.q (O.eqT ⟨rfl, rfl⟩ (vs rfl) (vs rfl) rfl)) ?_
  refine WQ.q (QV.q (O.pkB ⟨rfl, rfl⟩ (vt rfl) (vs rfl) (vt rfl))) ?_
  refine WQ.q (QV.q (O.mv ⟨rfl, rfl⟩ (vt rfl))) ?_
  refine WQ.q (QV.q (O.mv ⟨rfl, rfl⟩ (vt rfl))) ?_
  refine WQ.q (O.call ⟨rfl, rfl⟩ (AV.cons (vs rfl) (AV.nil)) (fun _ w hw => law0_Num _ w)) ?_
  refine WQ.q (QV.q (O.mv ⟨rfl, rfl⟩ (vt rfl))) ?_
  refine WQ.q (QV.q (O.eqI ⟨rfl, rfl⟩ (vs rfl) (vs rfl))) ?_
  refine WQ.q (QV.q (O.pkB ⟨rfl, rfl⟩ (vt rfl) (vs rfl) (vt rfl))) ?_
  refine WQ.q (QV.q (O.mv ⟨rfl, rfl⟩ (vt rfl))) ?_
  refine WQ.q (QV.q (O.lds ⟨rfl, rfl⟩ (vt rfl))) ?_
  refine WQ.q (QV.q (O.lds ⟨rfl, rfl⟩ (vt rfl))) ?_
  refine WQ.q (QV.q (O.eqT ⟨rfl, rfl⟩ (vs rfl) (vs rfl) rfl)) ?_
  refine WQ.q (QV.q (O.pkB ⟨rfl, rfl⟩ (vt rfl) (vs rfl) (vt rfl))) ?_
  refine WQ.q (QV.q (O.mv ⟨rfl, rfl⟩ (vt rfl))) ?_
  refine WQ.q (QV.q (O.mv ⟨rfl, rfl⟩ (vt rfl))) ?_
  refine WQ.q (O.call ⟨rfl, rfl⟩ (AV.cons (vs rfl) (AV.nil)) (fun _ w hw => law0_Num _ w)) ?_
  refine WQ.q (QV.q (O.mv ⟨rfl, rfl⟩ (vt rfl))) ?_
  refine WQ.q (QV.q (O.eqI ⟨rfl, rfl⟩ (vs rfl) (vs rfl))) ?_
  refine WQ.q (QV.q (O.pkB ⟨rfl, rfl⟩ (vt rfl) (vs rfl) (vt rfl))) ?_
  refine WQ.q (QV.q (O.mv ⟨rfl, rfl⟩ (vt rfl))) ?_
  refine WQ.q (QV.q (O.lds ⟨rfl, rfl⟩ (vt rfl))) ?_
  refine WQ.q (QV.q (O.lds ⟨rfl, rfl⟩ (vt rfl))) ?_
  refine WQ.q (QV.q (O.eqT ⟨rfl, rfl⟩ (vs rfl) (vs rfl) rfl)) ?_
  refine WQ.q (QV.q (O.pkB ⟨rfl, rfl⟩ (vt rfl) (vs rfl) (vt rfl))) ?_
  refine WQ.q (QV.q (O.mv ⟨rfl, rfl⟩ (vt rfl))) ?_
  refine WQ.q (QV.q (O.mv ⟨rfl, rfl⟩ (vt rfl))) ?_
  refine WQ.q (O.call ⟨rfl, rfl⟩ (AV.cons (vs rfl) (AV.nil)) (fun _ w hw => law0_Num _ w)) ?_
  refine WQ.q (QV.q (O.mv ⟨rfl, rfl⟩ (vt rfl))) ?_
  refine WQ.q (QV.q (O.eqI ⟨rfl, rfl⟩ (vs rfl) (vs rfl))) ?_
  refine WQ.q (QV.q (O.pkB ⟨rfl, rfl⟩ (vt rfl) (vs rfl) (vt rfl))) ?_
  refine WQ.q (QV.q (O.mv ⟨rfl, rfl⟩ (vt rfl))) ?_
  refine WQ.q (QV.q (O.lds ⟨rfl, rfl⟩ (vt rfl))) ?_
  refine WQ.q (QV.q (O.lds ⟨rfl, rfl⟩ (vt rfl))) ?_
  refine WQ.q (QV.q (O.eqT ⟨rfl, rfl⟩ (vs rfl) (vs rfl) rfl)) ?_
  refine WQ.q (QV.q (O.pkB ⟨rfl, rfl⟩ (vt rfl) (vs rfl) (vt rfl))) ?_
  refine WQ.q (QV.q (O.mv ⟨rfl, rfl⟩ (vt rfl))) ?_
  refine WQ.q (QV.q (O.mv ⟨rfl, rfl⟩ (vt rfl))) ?_
  refine WQ.q (O.call ⟨rfl, rfl⟩ (AV.cons (vs rfl) (AV.nil)) (fun _ w hw => law0_Num _ w)) ?_
  refine WQ.q (QV.q (O.mv ⟨rfl, rfl⟩ (vt rfl))) ?_
  refine WQ.q (QV.q (O.eqI ⟨rfl, rfl⟩ (vs rfl) (vs rfl))) ?_
  refine WQ.q (QV.q (O.pkB ⟨rfl, rfl⟩ (vt rfl) (vs rfl) (vt rfl))) ?_
  refine WQ.q (QV.q (O.mv ⟨rfl, rfl⟩ (vt rfl))) ?_
  refine WQ.q (QV.q (O.lds ⟨rfl, rfl⟩ (vt rfl))) ?_
  refine WQ.q (QV.q (O.lds ⟨rfl, rfl⟩ (vt rfl))) ?_
  refine WQ.q (QV.q (O.eqT ⟨rfl, rfl⟩ (vs rfl) (vs rfl) rfl)) ?_
  refine WQ.q (QV.q (O.pkB ⟨rfl, rfl⟩ (vt rfl) (vs rfl) (vt rfl))) ?_
  refine WQ.q (QV.q (O.mv ⟨rfl, rfl⟩ (vt rfl))) ?_
  refine WQ.q (QV.q (O.mv ⟨rfl, rfl⟩ (vt rfl))) ?_
  refine WQ.q (O.call ⟨rfl, rfl⟩ (AV.cons (vs rfl) (AV.nil)) (fun _ w hw => law0_Num _ w)) ?_
  refine WQ.q (QV.q (O.mv ⟨rfl, rfl⟩ (vt rfl))) ?_
  refine WQ.q (QV.q (O.eqI ⟨rfl, rfl⟩ (vs rfl) (vs rfl))) ?_
  refine WQ.q (QV.q (O.pkB ⟨rfl, rfl⟩ (vt rfl) (vs rfl) (vt rfl))) ?_
  refine WQ.q (QV.q (O.mv ⟨rfl, rfl⟩ (vt rfl))) ?_
  refine WQ.q (QV.q (O.lds ⟨rfl, rfl⟩ (vt rfl))) ?_
  refine WQ.q (O.call ⟨rfl, rfl⟩ (AV.cons (vs rfl) (AV.nil)) (fun _ w hw => x_May _ _ _ _ _ w (by first | exact Nat.le_trans (Dk.turned_len _ _ _).1 (by decide) | exact Nat.le_trans (Dk.turned_len _ _ _).2 (by decide) | assumption | decide | (simp [top]; done) | omega) (by first | exact Nat.le_trans (Dk.turned_len _ _ _).1 (by decide) | exact Nat.le_trans (Dk.turned_len _ _ _).2 (by decide) | assumption | decide | (simp [top]; done) | omega))) ?_
  refine WQ.q (QV.q (O.lds ⟨rfl, rfl⟩ (vt rfl))) ?_
  refine WQ.q (O.call ⟨rfl, rfl⟩ (AV.cons (vs rfl) (AV.nil)) (fun _ w hw => xr_May _ _ _ _ _ w (by first | exact Nat.le_trans (Dk.turned_len _ _ _).1 (by decide) | exact Nat.le_trans (Dk.turned_len _ _ _).2 (by decide) | assumption | decide | (simp [top]; done) | omega) (by first | exact Nat.le_trans (Dk.turned_len _ _ _).1 (by decide) | exact Nat.le_trans (Dk.turned_len _ _ _).2 (by decide) | assumption | decide | (simp [top]; done) | omega))) ?_
  refine WQ.q (QV.q (O.eqB ⟨rfl, rfl⟩ (vs rfl) (vs rfl))) ?_
  refine WQ.q (QV.q (O.pkB ⟨rfl, rfl⟩ (vt rfl) (vs rfl) (vt rfl))) ?_
  refine WQ.q (QV.q (O.mv ⟨rfl, rfl⟩ (vt rfl))) ?_
  refine WQ.q (O.call ⟨rfl, rfl⟩ (AV.nil) (fun _ w hw => law22_awake w)) ?_
  refine WQ.q (QV.q (O.pkB ⟨rfl, rfl⟩ (vt rfl) (vs rfl) (vt rfl))) ?_
  refine WQ.q (QV.q (O.as ⟨rfl, rfl⟩ (vt rfl))) ?_
  refine WQ.nil ?_
  refine WL.nil (Q.tn ?_)
  refine CW.ret ?_
  refine ⟨_, [], (RVs.tmp rfl RVs.nil), List.nil_sublist _, ?_⟩
  refine ⟨congrArg Value.bool ?_, rfl⟩
  simp
end Go.Proofs.Ytmhjcmpokjhhcaa
