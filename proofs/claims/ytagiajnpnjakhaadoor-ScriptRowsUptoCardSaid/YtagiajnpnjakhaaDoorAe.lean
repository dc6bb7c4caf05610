/- How acts lie in memory. No condition. -/
import Derived.Test.YtagiajnpnjakhaaDoorPScr2
import Derived.Test.YtagiajnpnjakhaaDoorCell
set_option linter.unusedVariables false
set_option linter.unusedSimpArgs false
namespace Go.Proofs.YtagiajnpnjakhaaDoor
open Go Go.RowKit
abbrev encA : Ac → List Value := fun a => [.int .i64 a.kind, .string (S a.text), .int .i64 a.by_, .int .i64 a.cut, .int .i64 a.keep]
abbrev dA : Ac := ⟨0, [], 0, 0, 0⟩
instance : Enc encA 5 dA := ⟨fun _ => rfl, by decide⟩
instance : EncOne encA := ⟨fun x u hu => by simp at hu; rcases hu with rfl | rfl | rfl | rfl | rfl <;> rfl⟩
abbrev vA (a : Ac) : Value := .agg (encA a).toArray
theorem acT_len {a : Ac} (h : acMay a = true) : (acT a).length ≤ 1240 := by
  obtain ⟨hk, ht, hb, hc, hp⟩ := may_ac h
  have e0 := (kind_lett hk).2
  have e1 := itoa_len8 hb.1 (by omega)
  have e2 := itoa_len8 hc.1 (by omega)
  have e3 := itoa_len8 hp.1 (by omega)
  have e4 := itoa_len8 (y := (a.text.length : Int)) (by omega) (by omega)
  simp only [acT, acH, List.length_append, List.length_cons]; omega
theorem shows_len : ∀ {us : List Ac}, us.all acMay = true → (shows us).length ≤ 1240 * us.length
  | [], _ => by simp [shows]
  | a :: us, h => by
    simp only [List.all_cons, Bool.and_eq_true] at h
    have h1 := acT_len h.1
    have h2 := shows_len h.2
    simp only [shows, List.flatMap_cons, List.length_append, List.length_cons] at h2 ⊢; omega
theorem showP_len (us : List Ac) : (showP us).1.length ≤ 317440 := by
  unfold showP
  split
  · rename_i h
    simp only [showOk, Bool.and_eq_true, decide_eq_true_eq] at h
    have := shows_len h.1; dsimp only; omega
  · simp
theorem parseP_len (s : List UInt8) : (parseP s).1.length ≤ 256 := by
  by_cases h : (parseP s).2 = 0
  · have := (parse_ok h).1
    simp only [showOk, Bool.and_eq_true, decide_eq_true_eq] at this; exact this.2
  · unfold parseP at h ⊢
    split
    · rename_i hx; rw [dif_pos hx] at h; exact absurd rfl h
    · simp
end Go.Proofs.YtagiajnpnjakhaaDoor
