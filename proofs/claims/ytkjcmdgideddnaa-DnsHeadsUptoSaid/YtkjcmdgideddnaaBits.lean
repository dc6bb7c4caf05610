/- Bytes that are joined to a number. No condition. -/
import Derived.Test.YtkjcmdgideddnaaLogic
import Derived.Test.YtkjcmdgideddnaaPRL
import Derived.Laws.BitsLemmas
set_option linter.unusedVariables false
set_option linter.unusedSimpArgs false
namespace Go.Proofs.Ytkjcmdgideddnaa
open Go Go.RowKit
theorem or_n (i : Nat) (hi : (2 : Int) ^ i ≤ 4611686018427387904) {x y : Int} (x0 : 0 ≤ x) (x1 : x < 4611686018427387904) (hx : x % 2 ^ i = 0) (y0 : 0 ≤ y) (y1 : y < 2 ^ i) : bits .or .i64 x y = x + y :=
  bits_join .i64 62 (by decide) (fun n h0 h1 => wrap_in n (by omega)) i x y x0 hx (by omega) y0 y1 (by omega)
theorem by_rng (a : UInt8) : 0 ≤ (a.toNat : Int) ∧ (a.toNat : Int) < 256 := by have := a.toNat_lt; omega
theorem be4 (a b c d : UInt8) : bits .or .i64 (bits .or .i64 (bits .or .i64 (IntKind.i64.wrap ((a.toNat : Int) * 2 ^ (24 : Int).toNat)) (IntKind.i64.wrap ((b.toNat : Int) * 2 ^ (16 : Int).toNat))) (IntKind.i64.wrap ((c.toNat : Int) * 2 ^ (8 : Int).toNat))) (d.toNat : Int) = numI [a, b, c, d] := by
  have ha := by_rng a
  have hb := by_rng b
  have hc := by_rng c
  have hd := by_rng d
  have e1 : (2 : Int) ^ (24 : Int).toNat = 16777216 := by decide
  have e2 : (2 : Int) ^ (16 : Int).toNat = 65536 := by decide
  have e3 : (2 : Int) ^ (8 : Int).toNat = 256 := by decide
  rw [e1, e2, e3, wrap_in _ (by omega), wrap_in _ (by omega), wrap_in _ (by omega)]
  rw [or_n (x := (a.toNat : Int) * 16777216) (y := (b.toNat : Int) * 65536) 24 (by decide) (by omega) (by omega) (by omega) (by omega) (by omega), or_n (y := (c.toNat : Int) * 256) 16 (by decide) (by omega) (by omega) (by omega) (by omega) (by omega), or_n (y := (d.toNat : Int)) 8 (by decide) (by omega) (by omega) (by omega) (by omega) (by omega)]
  simp only [numI, List.foldl_cons, List.foldl_nil]; omega
theorem be2 (c d : UInt8) : bits .or .i64 (IntKind.i64.wrap ((c.toNat : Int) * 2 ^ (8 : Int).toNat)) (d.toNat : Int) = numI [c, d] := by
  have hc := by_rng c
  have hd := by_rng d
  have e3 : (2 : Int) ^ (8 : Int).toNat = 256 := by decide
  rw [e3, wrap_in _ (by omega), or_n 8 (by decide) (by omega) (by omega) (by omega) (by omega) (by omega)]
  simp only [numI, List.foldl_cons, List.foldl_nil]; omega
theorem slc_2 {s : List UInt8} {k : Int} (h0 : 0 ≤ k) (h : k + 2 ≤ s.length) : slc s k (k + 2) = [s.getD k.toNat 0, s.getD (k + 1).toNat 0] := by
  rw [show k + 2 = k + 1 + 1 by omega, slc_more h0 (by omega) (by omega), slc_one h0 (by omega)]; rfl
theorem slc_4 {s : List UInt8} {k : Int} (h0 : 0 ≤ k) (h : k + 4 ≤ s.length) : slc s k (k + 4) = [s.getD k.toNat 0, s.getD (k + 1).toNat 0, s.getD (k + 2).toNat 0, s.getD (k + 3).toNat 0] := by
  rw [show k + 4 = k + 3 + 1 by omega, slc_more h0 (by omega) (by omega), show k + 3 = k + 2 + 1 by omega, slc_more h0 (by omega) (by omega), slc_2 h0 (by omega)]; rfl
abbrev BE4 (s : List UInt8) (k : Int) : Int := bits .or .i64 (bits .or .i64 (bits .or .i64 (IntKind.i64.wrap (((s.getD k.toNat 0).toNat : Int) * 2 ^ (24 : Int).toNat)) (IntKind.i64.wrap (((s.getD (k + 1).toNat 0).toNat : Int) * 2 ^ (16 : Int).toNat))) (IntKind.i64.wrap (((s.getD (k + 2).toNat 0).toNat : Int) * 2 ^ (8 : Int).toNat))) ((s.getD (k + 3).toNat 0).toNat : Int)
abbrev BE2 (s : List UInt8) (k : Int) : Int := bits .or .i64 (IntKind.i64.wrap (((s.getD k.toNat 0).toNat : Int) * 2 ^ (8 : Int).toNat)) ((s.getD (k + 1).toNat 0).toNat : Int)
theorem BE4_num {s : List UInt8} {k : Int} (h0 : 0 ≤ k) (h : k + 4 ≤ s.length) : BE4 s k = numI (slc s k (k + 4)) := by rw [slc_4 h0 h]; exact be4 _ _ _ _
theorem BE2_num {s : List UInt8} {k : Int} (h0 : 0 ≤ k) (h : k + 2 ≤ s.length) : BE2 s k = numI (slc s k (k + 2)) := by rw [slc_2 h0 h]; exact be2 _ _
theorem BE1_num {s : List UInt8} {k : Int} (h0 : 0 ≤ k) (h : k + 1 ≤ s.length) : ((s.getD k.toNat 0).toNat : Int) = numI (slc s k (k + 1)) := by rw [slc_one h0 (by omega)]; exact (numI_one _).symm
end Go.Proofs.Ytkjcmdgideddnaa
