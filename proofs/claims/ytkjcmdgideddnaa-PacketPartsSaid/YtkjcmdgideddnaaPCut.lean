/- Plain laws (PCut): lists and numbers alone. No condition. -/
import Derived.Test.YtkjcmdgideddnaaPL3
set_option linter.unusedVariables false
set_option linter.unusedSimpArgs false
namespace Go.Proofs.Ytkjcmdgideddnaa
/-! a name that is read in a text cut where the name ends, or in a longer text -/
theorem inv_ok {s : List UInt8} {g : GS} {nm : List UInt8} {e : Int} (h : stepG s g = .inl (.ok nm e)) :
    g.at_ < s.length ∧ (s.getD g.at_.toNat 0).toNat = 0 ∧ nm = joinD g.ls ∧ e = if g.fin < 0 then g.at_ + 1 else g.fin := by
  obtain ⟨p, r, f, ls⟩ := g
  dsimp only
  by_cases h1 : (s.length : Int) ≤ p
  · rw [sG1 h1] at h; cases h
  by_cases hk : ((s.getD p.toNat 0).toNat : Int) = 0
  · rw [sG2 h1 hk] at h
    simp only [Sum.inl.injEq, GR.ok.injEq] at h
    exact ⟨by omega, by omega, h.1.symm, h.2.symm⟩
  by_cases h8 : ((s.getD p.toNat 0).toNat : Int) ≤ 8
  · by_cases hq : (s.length : Int) - p - 1 < ((s.getD p.toNat 0).toNat : Int)
    · rw [sG3 h1 hk h8 hq] at h; cases h
    · by_cases hl : labOk (fold (slc s (p + 1) (p + 1 + ((s.getD p.toNat 0).toNat : Int)))) = false ∨ ls.length = 8
      · rw [sG4 h1 hk h8 hq hl] at h; cases h
      · rw [sG5 h1 hk h8 hq hl] at h; cases h
  · by_cases h9 : 192 ≤ ((s.getD p.toNat 0).toNat : Int)
    · by_cases hq : (s.length : Int) - p < 2
      · rw [sG6 h1 hk h8 h9 hq] at h; cases h
      · by_cases ht : r ≤ ((s.getD p.toNat 0).toNat : Int) * 256 + ((s.getD (p + 1).toNat 0).toNat : Int) - 49152
        · rw [sG7 h1 hk h8 h9 hq ht] at h; cases h
        · rw [sG8 h1 hk h8 h9 hq ht] at h; cases h
    · rw [sG9 h1 hk h8 h9] at h; cases h
theorem inv_step {s : List UInt8} {g g' : GS} (h : stepG s g = .inr g') : g.at_ < s.length ∧
    ((((s.getD g.at_.toNat 0).toNat : Int) ≠ 0 ∧ ((s.getD g.at_.toNat 0).toNat : Int) ≤ 8 ∧ g.at_ + 1 + ((s.getD g.at_.toNat 0).toNat : Int) ≤ s.length ∧ labOk (fold (slc s (g.at_ + 1) (g.at_ + 1 + ((s.getD g.at_.toNat 0).toNat : Int)))) = true ∧ g.ls.length ≠ 8 ∧
        g' = ⟨g.at_ + 1 + ((s.getD g.at_.toNat 0).toNat : Int), g.row, g.fin, g.ls ++ [fold (slc s (g.at_ + 1) (g.at_ + 1 + ((s.getD g.at_.toNat 0).toNat : Int)))]⟩) ∨
     (192 ≤ ((s.getD g.at_.toNat 0).toNat : Int) ∧ g.at_ + 1 < s.length ∧ ((s.getD g.at_.toNat 0).toNat : Int) * 256 + ((s.getD (g.at_ + 1).toNat 0).toNat : Int) - 49152 < g.row ∧
        g' = ⟨((s.getD g.at_.toNat 0).toNat : Int) * 256 + ((s.getD (g.at_ + 1).toNat 0).toNat : Int) - 49152, ((s.getD g.at_.toNat 0).toNat : Int) * 256 + ((s.getD (g.at_ + 1).toNat 0).toNat : Int) - 49152, if g.fin < 0 then g.at_ + 2 else g.fin, g.ls⟩)) := by
  obtain ⟨p, r, f, ls⟩ := g
  dsimp only
  by_cases h1 : (s.length : Int) ≤ p
  · rw [sG1 h1] at h; cases h
  refine ⟨by omega, ?_⟩
  by_cases hk : ((s.getD p.toNat 0).toNat : Int) = 0
  · rw [sG2 h1 hk] at h; cases h
  by_cases h8 : ((s.getD p.toNat 0).toNat : Int) ≤ 8
  · by_cases hq : (s.length : Int) - p - 1 < ((s.getD p.toNat 0).toNat : Int)
    · rw [sG3 h1 hk h8 hq] at h; cases h
    · by_cases hl : labOk (fold (slc s (p + 1) (p + 1 + ((s.getD p.toNat 0).toNat : Int)))) = false ∨ ls.length = 8
      · rw [sG4 h1 hk h8 hq hl] at h; cases h
      · rw [sG5 h1 hk h8 hq hl] at h
        simp only [Sum.inr.injEq] at h
        simp only [not_or, Bool.not_eq_false] at hl
        exact .inl ⟨hk, h8, by omega, hl.1, hl.2, h.symm⟩
  · by_cases h9 : 192 ≤ ((s.getD p.toNat 0).toNat : Int)
    · by_cases hq : (s.length : Int) - p < 2
      · rw [sG6 h1 hk h8 h9 hq] at h; cases h
      · by_cases ht : r ≤ ((s.getD p.toNat 0).toNat : Int) * 256 + ((s.getD (p + 1).toNat 0).toNat : Int) - 49152
        · rw [sG7 h1 hk h8 h9 hq ht] at h; cases h
        · rw [sG8 h1 hk h8 h9 hq ht] at h
          simp only [Sum.inr.injEq] at h
          exact .inr ⟨h9, by omega, by omega, h.symm⟩
    · rw [sG9 h1 hk h8 h9] at h; cases h
/-- two texts that begin alike -/
structure Alike (s t : List UInt8) (E : Int) : Prop where
  h : s.take E.toNat = t.take E.toNat
  l : E ≤ t.length
theorem Alike.byte {s t : List UInt8} {E i : Int} (h : Alike s t E) (h0 : 0 ≤ i) (hi : i < E) : t.getD i.toNat 0 = s.getD i.toNat 0 := by
  have e : ∀ u : List UInt8, u.getD i.toNat 0 = (u.take E.toNat).getD i.toNat 0 := fun u => by
    rw [List.getD_eq_getElem?_getD, List.getD_eq_getElem?_getD, List.getElem?_take, if_pos (by omega)]
  rw [e t, e s, h.h]
theorem Alike.sl {s t : List UInt8} {E i j : Int} (h : Alike s t E) (hj : j ≤ E) : slc t i j = slc s i j := by
  have e : ∀ u : List UInt8, u.take j.toNat = (u.take E.toNat).take j.toNat := fun u => by
    rw [List.take_take, Nat.min_eq_left (by omega)]
  unfold slc
  rw [e t, e s, h.h]
theorem Alike.ok {s t : List UInt8} {E : Int} (ha : Alike s t E) {g : GS} {nm : List UInt8} {e : Int} (h : stepG s g = .inl (.ok nm e)) (h0 : 0 ≤ g.at_) (hE : g.at_ < E) : stepG t g = .inl (.ok nm e) := by
  obtain ⟨h1, h2, rfl, rfl⟩ := inv_ok h
  have hb := ha.byte h0 hE
  have hl := ha.l
  obtain ⟨p, r, f, ls⟩ := g
  dsimp only at *
  exact sG2 (by omega) (by rw [hb]; omega)
theorem Alike.step {s t : List UInt8} {E : Int} (ha : Alike s t E) {g g' : GS} (h : stepG s g = .inr g') (h0 : 0 ≤ g.at_)
    (hE : (((s.getD g.at_.toNat 0).toNat : Int) ≤ 8 → g.at_ + 1 + ((s.getD g.at_.toNat 0).toNat : Int) ≤ E) ∧ (192 ≤ ((s.getD g.at_.toNat 0).toNat : Int) → g.at_ + 1 < E)) : stepG t g = .inr g' := by
  have hl := ha.l
  obtain ⟨p, r, f, ls⟩ := g
  rcases inv_step h with ⟨h1, ⟨a1, a2, a3, a4, a5, rfl⟩ | ⟨a1, a2, a3, rfl⟩⟩
  · dsimp only at *
    have hE := hE.1 a2
    have hb := ha.byte h0 (show p < E by omega)
    have hs := ha.sl (i := p + 1) hE
    have := sG5 (s := t) (p := p) (r := r) (f := f) (ls := ls) (by omega) (by rw [hb]; exact a1) (by rw [hb]; exact a2) (by rw [hb]; omega) (by rw [hb, hs]; rintro (h | h); (rw [a4] at h; cases h); exact a5 h)
    rw [hb, hs] at this; exact this
  · dsimp only at *
    have hE := hE.2 a1
    have hb := ha.byte h0 (show p < E by omega)
    have hb2 := ha.byte (i := p + 1) (by omega) hE
    have := sG8 (s := t) (p := p) (r := r) (f := f) (ls := ls) (by omega) (by rw [hb]; omega) (by rw [hb]; omega) (by rw [hb]; exact a1) (by omega) (by rw [hb, hb2]; omega)
    rw [hb, hb2] at this; exact this
theorem getF_step {s : List UInt8} {n : Nat} {g : GS} {r : GR} (h : getF (n + 1) s g = some r) : stepG s g = .inl r ∨ ∃ g', stepG s g = .inr g' ∧ getF n s g' = some r := by
  simp only [getF] at h
  cases hs : stepG s g with
  | inl x => rw [hs] at h; simp only [Option.some.injEq] at h; subst h; exact .inl rfl
  | inr g' => rw [hs] at h; exact .inr ⟨g', rfl, h⟩
theorem step_at {s : List UInt8} {g g' : GS} (h : stepG s g = .inr g') (h0 : 0 ≤ g.at_) : 0 ≤ g'.at_ := by
  rcases inv_step h with ⟨h1, ⟨a1, a2, a3, a4, a5, rfl⟩ | ⟨a1, a2, a3, rfl⟩⟩ <;> dsimp only <;> omega
/-- in a longer text -/
theorem got_more {s t : List UInt8} (ha : Alike s t s.length) : ∀ (n : Nat) (g : GS) (nm : List UInt8) (e : Int), getF n s g = some (.ok nm e) → 0 ≤ g.at_ → Got t g (.ok nm e)
  | 0, _, _, _, h, _ => by simp [getF] at h
  | n + 1, g, nm, e, h, h0 => by
    rcases getF_step h with h | ⟨g', h, h'⟩
    · exact Got.stop (ha.ok h h0 (inv_ok h).1)
    · refine Got.step (ha.step h h0 ?_) (got_more ha n g' nm e h' (step_at h h0))
      rcases inv_step h with ⟨h1, ⟨a1, a2, a3, a4, a5, rfl⟩ | ⟨a1, a2, a3, rfl⟩⟩
      · exact ⟨fun _ => a3, fun h => by omega⟩
      · exact ⟨fun h => by omega, fun _ => a2⟩
/-- where it ends -/
theorem got_rng {s : List UInt8} : ∀ (n : Nat) (g : GS) (nm : List UInt8) (e : Int), getF n s g = some (.ok nm e) → 0 ≤ g.at_ → (g.fin < 0 → g.at_ < e ∧ e ≤ s.length) ∧ (0 ≤ g.fin → e = g.fin)
  | 0, _, _, _, h, _ => by simp [getF] at h
  | n + 1, g, nm, e, h, h0 => by
    rcases getF_step h with h | ⟨g', h, h'⟩
    · obtain ⟨h1, h2, _, rfl⟩ := inv_ok h
      refine ⟨fun hf => ?_, fun hf => ?_⟩
      · rw [if_pos hf]; omega
      · rw [if_neg (by omega)]
    · have ih := got_rng n g' nm e h' (step_at h h0)
      rcases inv_step h with ⟨h1, ⟨a1, a2, a3, a4, a5, rfl⟩ | ⟨a1, a2, a3, rfl⟩⟩
      · dsimp only at ih
        exact ⟨fun hf => by have := ih.1 hf; omega, ih.2⟩
      · dsimp only at ih
        refine ⟨fun hf => ?_, fun hf => ?_⟩
        · rw [if_pos hf] at ih; have := ih.2 (by omega); omega
        · rw [if_neg (by omega)] at ih; exact ih.2 hf
theorem lower_hi {b : UInt8} (h : 192 ≤ b.toNat) : lower b = b := by
  unfold lower; rw [if_neg (by omega)]
theorem lab_hi {l : List UInt8} (h : labOk (fold l) = true) {b : UInt8} (hb : b ∈ l) : b.toNat < 192 := by
  by_cases h2 : b.toNat < 192
  · exact h2
  · simp only [labOk, Bool.and_eq_true] at h
    have := List.all_eq_true.1 h.1.1 (lower b) (List.mem_map_of_mem hb)
    rw [lower_hi (by omega), isL_iff] at this
    omega
theorem slc_mem {s : List UInt8} {i j q : Int} (h0 : 0 ≤ i) (h1 : i ≤ q) (h2 : q < j) (h3 : j ≤ s.length) : s.getD q.toNat 0 ∈ slc s i j := by
  have e : (slc s i j)[q.toNat - i.toNat]? = s[q.toNat]? := by
    unfold slc
    rw [List.getElem?_drop, List.getElem?_take, if_pos (by omega)]
    congr 1; omega
  rw [List.getElem?_eq_getElem (by omega : q.toNat < s.length)] at e
  rw [List.getD_eq_getElem?_getD, List.getElem?_eq_getElem (by omega : q.toNat < s.length)]
  exact List.mem_of_getElem? e
theorem alike_take {s : List UInt8} {E : Int} (hE : E ≤ s.length) : Alike s (s.take E.toNat) E :=
  ⟨by rw [List.take_take, Nat.min_self], by rw [List.length_take]; omega⟩
/-- behind a pointer nothing at it or behind it is read -/
theorem cutA {s : List UInt8} {E : Int} (hE : E ≤ s.length) : ∀ (n : Nat) (g : GS) (nm : List UInt8) (e q : Int), getF n s g = some (.ok nm e) → 0 ≤ g.row → g.row ≤ g.at_ → g.at_ ≤ q → q < E →
    192 ≤ ((s.getD q.toNat 0).toNat : Int) → g.row ≤ ((s.getD q.toNat 0).toNat : Int) * 256 + ((s.getD (q + 1).toNat 0).toNat : Int) - 49152 → Got (s.take E.toNat) g (.ok nm e) := by
  intro n
  induction n with
  | zero => intro g nm e q h; simp [getF] at h
  | succ n ih =>
    intro g nm e q h h0 hr hq hqE hb ht
    have ha := alike_take hE
    rcases getF_step h with h | ⟨g', h, h'⟩
    · exact Got.stop (ha.ok h (by omega) (by omega))
    · have hne : g.at_ ≠ q := by
        intro e; subst e
        rcases inv_step h with ⟨h1, ⟨a1, a2, a3, a4, a5, _⟩ | ⟨a1, a2, a3, _⟩⟩ <;> omega
      have h2 := h
      rcases inv_step h2 with ⟨h1, ⟨a1, a2, a3, a4, a5, e5⟩ | ⟨a1, a2, a3, e5⟩⟩
      · have hw : g.at_ + 1 + ((s.getD g.at_.toNat 0).toNat : Int) ≤ q := by
          by_cases hw : g.at_ + 1 + ((s.getD g.at_.toNat 0).toNat : Int) ≤ q
          · exact hw
          · have := lab_hi a4 (slc_mem (s := s) (q := q) (by omega) (by omega) (by omega) a3)
            omega
        refine Got.step (ha.step h (by omega) ⟨fun _ => by omega, fun h => by omega⟩) ?_
        subst e5
        exact ih _ nm e q h' h0 (by dsimp only; omega) (by dsimp only; exact hw) hqE hb ht
      · refine Got.step (ha.step h (by omega) ⟨fun h => by omega, fun _ => by omega⟩) ?_
        subst e5
        exact ih _ nm e g.at_ h' (by dsimp only; omega) (by dsimp only; omega) (by dsimp only; omega) (by omega) a1 (by dsimp only; omega)
theorem cutB' {s : List UInt8} : ∀ (n : Nat) (g : GS) (nm : List UInt8) (e : Int), getF n s g = some (.ok nm e) → g.fin < 0 → 0 ≤ g.row → g.row ≤ g.at_ → Got (s.take e.toNat) g (.ok nm e)
  | 0, _, _, _, h, _, _, _ => by simp [getF] at h
  | n + 1, g, nm, e, h, hf, h0, hr => by
    have hrng := (got_rng _ _ _ _ h (by omega)).1 hf
    have ha := alike_take hrng.2
    rcases getF_step h with h | ⟨g', h, h'⟩
    · exact Got.stop (ha.ok h (by omega) (by omega))
    · have hrng2 := got_rng _ _ _ _ h' (step_at h (by omega))
      have h2 := h
      rcases inv_step h2 with ⟨h1, ⟨a1, a2, a3, a4, a5, e5⟩ | ⟨a1, a2, a3, e5⟩⟩
      · subst e5
        dsimp only at hrng2
        have := (hrng2.1 hf).1
        exact Got.step (ha.step h (by omega) ⟨fun _ => by omega, fun h => by omega⟩) (cutB' n _ nm e h' hf h0 (by dsimp only; omega))
      · subst e5
        dsimp only at hrng2
        rw [if_pos hf] at hrng2
        have := hrng2.2 (by omega)
        refine Got.step (ha.step h (by omega) ⟨fun h => by omega, fun _ => by omega⟩) ?_
        exact cutA hrng.2 n _ nm e g.at_ h' (by dsimp only; omega) (by dsimp only; omega) (by dsimp only; omega) (by omega) a1 (by dsimp only; omega)
theorem getName_nn {s : List UInt8} {p : Int} {nm : List UInt8} {to : Int} (h : getName s p = .ok nm to) : 0 ≤ p := by
  by_cases hp : p < 0
  · rw [getName_neg s hp] at h; cases h
  · omega
theorem getName_gotF {s : List UInt8} {p : Int} {nm : List UInt8} {to : Int} (h : getName s p = .ok nm to) : ∃ n, getF n s (GS.of p) = some (.ok nm to) := by
  have := getName_got s (getName_nn h); rw [h] at this; exact this
theorem getName_rng {s : List UInt8} {p : Int} {nm : List UInt8} {to : Int} (h : getName s p = .ok nm to) : 0 ≤ p ∧ p < to ∧ to ≤ s.length := by
  have h0 := getName_nn h
  obtain ⟨n, hn⟩ := getName_gotF h
  have := (got_rng n _ _ _ hn h0).1 (by show (-1 : Int) < 0; decide)
  exact ⟨h0, this.1, this.2⟩
theorem getName_more {s : List UInt8} {p : Int} {nm : List UInt8} {to : Int} (h : getName s p = .ok nm to) (z : List UInt8) : getName (s ++ z) p = .ok nm to := by
  have h0 := getName_nn h
  obtain ⟨n, hn⟩ := getName_gotF h
  refine getName_eq h0 (got_more ⟨?_, ?_⟩ n _ _ _ hn h0)
  · rw [Int.toNat_natCast, List.take_left, List.take_length]
  · rw [List.length_append]; omega
theorem getName_cut {s : List UInt8} {p : Int} {nm : List UInt8} {to : Int} (h : getName s p = .ok nm to) : getName (s.take to.toNat) p = .ok nm to := by
  have h0 := getName_nn h
  obtain ⟨n, hn⟩ := getName_gotF h
  exact getName_eq h0 (cutB' n _ _ _ hn (by show (-1 : Int) < 0; decide) h0 (Int.le_refl _))
theorem getName_take {s : List UInt8} {p E : Int} {nm : List UInt8} {to : Int} (hE : E ≤ s.length) : getName (s.take E.toNat) p = .ok nm to ↔ getName s p = .ok nm to ∧ to ≤ E := by
  constructor
  · intro h
    have hr := getName_rng h
    rw [List.length_take] at hr
    have := getName_more h (s.drop E.toNat)
    rw [List.take_append_drop] at this
    exact ⟨this, by omega⟩
  · rintro ⟨h, hle⟩
    have hr := getName_rng h
    have := getName_more (getName_cut h) ((s.take E.toNat).drop to.toNat)
    have e : s.take to.toNat = (s.take E.toNat).take to.toNat := by rw [List.take_take, Nat.min_eq_left (by omega)]
    rw [e, List.take_append_drop] at this
    exact this

end Go.Proofs.Ytkjcmdgideddnaa
