/- Arguments opened: elements that are structs; what the bound of the narrower form gives. No condition. -/
import Derived.Test.YtkjcmdgideddnaaRows
import Derived.Test.YtkjcmdgideddnaaOpenS
import Derived.JoinedCond
import Derived.ProofKit
set_option linter.unusedVariables false
namespace Go.Proofs.Ytkjcmdgideddnaa
open Go Go.ChangeShapes Go.WideShapes Go.RowKit Go.Deep
theorem make_cut {P : Program} {W r : List (List Char)} (h : wordsSigns P.initOrder.toList = W) (hb : behindMainWord W = "cut".toList :: r) : P.make = some .cut := by
  unfold Program.make; rw [h, hb]; rfl
theorem lifts_cut {P : Program} {W r : List (List Char)} (h : wordsSigns P.initOrder.toList = W) (hb : behindMainWord W = "cut".toList :: r) (hs : stripLifts liftWords ("cut".toList :: r) = ([], "cut".toList :: r)) : P.liftsFinal = false := by
  unfold Program.liftsFinal Program.headLifts; simp only [h, hb, hs]; rfl
theorem enter_cut {P : Program} {W r : List (List Char)} (h : wordsSigns P.initOrder.toList = W) (hb : behindMainWord W = "cut".toList :: r) (hs : stripLifts liftWords ("cut".toList :: r) = ([], "cut".toList :: r))
    (h1 : P.laysLater = false) (h2 : P.bearsReflect = false) (h3 : P.doorFits [] = true) : P.mayEnter = true := by
  unfold Program.mayEnter; rw [h, hb]; simp only [hs, h1, h2, h3]; rfl
theorem andI {a b : Bool} (h1 : a = true) (h2 : b = true) : (a && b) = true := by rw [h1, h2]; rfl
section
variable {H : Type} {enc : TypeId × Value → H} {P : Program} {w : World} {base : Nat} {spare : Nat → Bool} {held : Bool}
theorem el_struct {t : TypeId} {fs : Array Field} {k : Nat} {cs : List Value} {d : DataW H} {p : List MemPlace} (hs : P.underlying t = some (.struct fs)) (hone : oneCellFields P fs = true) (hl : cs.length = fs.size)
    (h : DataW.trod enc P w base spare held k t cs = some (d, p)) :
    ∃ (ys : List (DataW H × List MemPlace)) (n : Nat), d = .agg (ys.map (·.1)) ∧ ys.length = fs.size ∧
      ∀ (j : Nat) (f : Field), fs[j]? = some f → ∃ c y, cs[j]? = some c ∧ ys[j]? = some y ∧ DataW.trod enc P w base spare held n f.type [c] = some y := by
  obtain ⟨xs, n, _, hx, _, hlen, hg⟩ := DataW.trod_struct hs h
  simp only [Prod.mk.injEq] at hx
  refine ⟨xs, n, hx.1, hlen, fun j f hj => ?_⟩
  have hjl : j < fs.size := (Array.getElem?_eq_some_iff.1 hj).1
  obtain ⟨o, k⟩ := hone_of hone j f hj
  have h1 := hg j f hj
  rw [o, k] at h1
  have hjl' : j < cs.length := by omega
  have hone' : (cs.drop j).take 1 = [cs[j]] := by rw [List.drop_eq_getElem_cons hjl']; rfl
  rw [hone'] at h1
  have hys : xs[j]? = some (xs[j]'(by omega)) := List.getElem?_eq_getElem (by omega)
  exact ⟨_, _, List.getElem?_eq_getElem hjl', hys, h1.trans hys⟩
theorem bulk_all {l : List (DataW H)} (hk : Rows.uptoSmall H l = true) : Rows.uptoBulkAll l ≤ 1048576 := of_decide_eq_true hk
theorem bulk_one (d : DataW H) : 1 ≤ Rows.uptoBulk d := by
  cases d with
  | lit l => cases l <;> simp [Rows.uptoBulk]
  | _ => simp [Rows.uptoBulk]
theorem bulk_part {d : DataW H} {l : List (DataW H)} (h : d ∈ l) : Rows.uptoBulk d ≤ Rows.uptoBulkAll l := by
  induction l with
  | nil => cases h
  | cons x r ih =>
    simp only [Rows.uptoBulkAll]
    rcases List.mem_cons.1 h with rfl | e
    · omega
    · have := ih e; omega
theorem bulk_app (l r : List (DataW H)) : Rows.uptoBulkAll (l ++ r) = Rows.uptoBulkAll l + Rows.uptoBulkAll r := by
  induction l with
  | nil => simp [Rows.uptoBulkAll]
  | cons x l ih => simp only [List.cons_append, Rows.uptoBulkAll, ih]; omega
theorem bulk_len (l : List (DataW H)) : l.length ≤ Rows.uptoBulkAll l := by
  induction l with
  | nil => simp [Rows.uptoBulkAll]
  | cons x r ih => have := bulk_one x; simp only [Rows.uptoBulkAll, List.length_cons]; omega
theorem bulk_str (b : List UInt8) : Rows.uptoBulk (DataW.lit (H := H) (.string b)) = b.length + 1 := by simp [Rows.uptoBulk]
/-- a slice's bulk: so many elements, each at most so great; all of them -/
theorem bulk_rows {α : Type} {dec : α → DataW H} {xs : List α} {d : DataW H} (hd : (d = .nil ∧ xs = []) ∨ ∃ sp, d = .slice (xs.map dec) sp) :
    xs.length ≤ Rows.uptoBulk d ∧ (∀ x ∈ xs, Rows.uptoBulk (dec x) ≤ Rows.uptoBulk d) ∧ Rows.uptoBulkAll (xs.map dec) ≤ Rows.uptoBulk d := by
  rcases hd with ⟨rfl, rfl⟩ | ⟨sp, rfl⟩
  · exact ⟨by simp, by simp, by simp [Rows.uptoBulkAll]⟩
  · have h1 := bulk_len (xs.map dec)
    simp only [List.length_map] at h1
    simp only [Rows.uptoBulk]
    refine ⟨by omega, fun x hx => ?_, by omega⟩
    have := bulk_part (List.mem_map_of_mem (f := dec) hx)
    omega
end
end Go.Proofs.Ytkjcmdgideddnaa
