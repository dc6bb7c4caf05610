/- Plain laws (PSp): lists and numbers alone. No condition. -/
import Derived.Test.YtkjcmdgideddnaaPOpts
import Derived.Test.YtkjcmdgideddnaaPBe
set_option linter.unusedVariables false
set_option linter.unusedSimpArgs false
namespace Go.Proofs.Ytkjcmdgideddnaa
/-! options whose data stand in parts, wherever -/
def spF (want : List (List UInt8)) (k : Int) : Opt := ⟨20 + k, want.getD k.toNat []⟩
def spB (k : Int) (t : List UInt8) : List UInt8 := [byteOf (20 + k), byteOf t.length] ++ t
structure SP (s : List UInt8) (row : List Int) (seen : List Bool) (want : List (List UInt8)) (n : Int) : Prop where
  ps : ∃ ps : List Opt, (∀ rest, pieces (s ++ rest) = (pieces rest).map (ps ++ ·)) ∧ joinAll [] ps = row.map (spF want)
  ls : seen.length = 4
  lw : want.length = 4
  sn : ∀ k : Int, 0 ≤ k → k < 4 → (seen.getD k.toNat false = true ↔ k ∈ row)
  em : ∀ k : Int, 0 ≤ k → k < 4 → k ∉ row → want.getD k.toNat [] = []
  rg : ∀ k ∈ row, 0 ≤ k ∧ k < 4
  nd : row.Nodup
  le : ∀ k : Int, 0 ≤ k → k < 4 → ((want.getD k.toNat []).length : Int) ≤ 40 * n
  rl : (row.length : Int) ≤ n
theorem sp_new : SP [] [] (List.replicate 4 false) (List.replicate 4 []) 0 := by
  refine ⟨⟨[], fun rest => ?_, rfl⟩, rfl, rfl, ?_, ?_, by simp, by simp, ?_, by simp⟩
  · rw [List.nil_append]; cases pieces rest <;> simp
  · intro k h0 h1; rcases (by omega : k = 0 ∨ k = 1 ∨ k = 2 ∨ k = 3) with rfl | rfl | rfl | rfl <;> decide
  · intro k h0 h1 _; rcases (by omega : k = 0 ∨ k = 1 ∨ k = 2 ∨ k = 3) with rfl | rfl | rfl | rfl <;> rfl
  · intro k h0 h1; rcases (by omega : k = 0 ∨ k = 1 ∨ k = 2 ∨ k = 3) with rfl | rfl | rfl | rfl <;> decide
theorem getD_set2 {α : Type} (d : α) {l : List α} {i j : Nat} {v : α} (hi : i < l.length) : (l.set i v).getD j d = if j = i then v else l.getD j d := by
  rw [List.getD_eq_getElem?_getD, List.getD_eq_getElem?_getD]
  by_cases h : j = i
  · subst h; rw [List.getElem?_set_self hi, if_pos rfl]; rfl
  · rw [List.getElem?_set_ne (fun e => h e.symm), if_neg h]
theorem join_row {want : List (List UInt8)} {k : Int} {t : List UInt8} (hk : 0 ≤ k ∧ k < 4) (hw : want.length = 4) : ∀ (row : List Int), row.Nodup → (∀ j ∈ row, 0 ≤ j ∧ j < 4) →
    (k ∈ row → join1 (row.map (spF want)) ⟨20 + k, t⟩ = row.map (spF (want.set k.toNat (want.getD k.toNat [] ++ t)))) ∧
    (k ∉ row → join1 (row.map (spF want)) ⟨20 + k, t⟩ = row.map (spF (want.set k.toNat (want.getD k.toNat [] ++ t))) ++ [⟨20 + k, t⟩])
  | [], _, _ => ⟨by simp, fun _ => rfl⟩
  | j :: r, hn, hr => by
    have hj := hr j (by simp)
    have ih := join_row hk hw (t := t) r (List.nodup_cons.1 hn).2 (fun x hx => hr x (by simp [hx]))
    have hs : ∀ x : Int, 0 ≤ x → x < 4 → x ≠ k → spF (want.set k.toNat (want.getD k.toNat [] ++ t)) x = spF want x := fun x h0 h1 h => by
      rw [spF, spF, getD_set2 [] (by omega), if_neg (by omega)]
    by_cases e : j = k
    · subst e
      have hnr : j ∉ r := (List.nodup_cons.1 hn).1
      refine ⟨fun _ => ?_, fun h => absurd (by simp) h⟩
      have h1 : spF (want.set j.toNat (want.getD j.toNat [] ++ t)) j = ⟨20 + j, want.getD j.toNat [] ++ t⟩ := by rw [spF, getD_set2 [] (by omega), if_pos rfl]
      have h2 : r.map (spF (want.set j.toNat (want.getD j.toNat [] ++ t))) = r.map (spF want) := List.map_congr_left fun x hx => hs x (hr x (by simp [hx])).1 (hr x (by simp [hx])).2 (fun e => hnr (e ▸ hx))
      simp only [List.map_cons, join1, spF, if_true] at h1 ⊢
      rw [h2, h1]
    · have hc : ¬ (spF want j).code = 20 + k := by simp only [spF]; omega
      constructor
      · intro h
        have h : k ∈ r := by rcases List.mem_cons.1 h with h | h; exact absurd h.symm e; exact h
        simp only [List.map_cons, join1]
        rw [if_neg hc, ih.1 h, hs j hj.1 hj.2 e]
      · intro h
        have h : k ∉ r := fun x => h (by simp [x])
        simp only [List.map_cons, join1]
        rw [if_neg hc, ih.2 h, hs j hj.1 hj.2 e]; rfl
theorem pieces_sp {k : Int} {t rest : List UInt8} (hk : 0 ≤ k ∧ k < 4) (ht : t.length ≤ 40) : pieces (spB k t ++ rest) = (pieces rest).map (⟨20 + k, t⟩ :: ·) := by
  have b1 := byteOf_toNat (20 + k)
  have b2 := byteOf_toNat (t.length : Int)
  have n1 : byteOf (20 + k) ≠ 255 := fun e => by rw [e] at b1; simp at b1; omega
  have n2 : byteOf (20 + k) ≠ 0 := fun e => by rw [e] at b1; simp at b1; omega
  have e2 : (byteOf (t.length : Int)).toNat = t.length := by omega
  have e1 : ((byteOf (20 + k)).toNat : Int) = 20 + k := by omega
  show pieces (byteOf (20 + k) :: byteOf t.length :: (t ++ rest)) = _
  rw [pieces_cons n1 n2, e2, if_pos (by simp), List.take_left, List.drop_left, e1]
theorem sp_step {s : List UInt8} {row : List Int} {seen : List Bool} {want : List (List UInt8)} {n k : Int} {t : List UInt8} (h : SP s row seen want n) (hk : 0 ≤ k ∧ k < 4) (ht : t.length ≤ 40) :
    SP (s ++ spB k t) (if seen.getD k.toNat false = true then row else row ++ [k]) (seen.set k.toNat true) (want.set k.toNat (want.getD k.toNat [] ++ t)) (n + 1) := by
  obtain ⟨⟨ps, hp, hj⟩, hls, hlw, hsn, hem, hrg, hnd, hle, hrl⟩ := h
  have hkn : k.toNat < 4 := by omega
  have jr := join_row hk hlw (t := t) row hnd hrg
  have hin := hsn k hk.1 hk.2
  refine ⟨⟨ps ++ [⟨20 + k, t⟩], fun rest => ?_, ?_⟩, by simpa using hls, by simpa using hlw, ?_, ?_, ?_, ?_, ?_, ?_⟩
  · rw [List.append_assoc, hp, pieces_sp hk ht]; cases pieces rest <;> simp
  · rw [joinAll, List.foldl_append]
    show join1 (joinAll [] ps) ⟨20 + k, t⟩ = _
    rw [hj]
    by_cases hs : seen.getD k.toNat false = true
    · rw [if_pos hs, jr.1 (hin.1 hs)]
    · rw [if_neg hs, jr.2 (fun x => hs (hin.2 x)), List.map_append]
      congr 1
      simp only [List.map_cons, List.map_nil, spF]
      rw [getD_set2 [] (by omega), if_pos rfl, hem k hk.1 hk.2 (fun x => hs (hin.2 x)), List.nil_append]
  · intro j h0 h1
    rw [getD_set2 false (by omega)]
    by_cases e : j = k
    · subst e; rw [if_pos rfl]
      by_cases hs : seen.getD j.toNat false = true
      · rw [if_pos hs]; exact ⟨fun _ => hin.1 hs, fun _ => rfl⟩
      · rw [if_neg hs]; exact ⟨fun _ => by simp, fun _ => rfl⟩
    · rw [if_neg (by omega), hsn j h0 h1]
      by_cases hs : seen.getD k.toNat false = true
      · rw [if_pos hs]
      · rw [if_neg hs]; simp [e]
  · intro j h0 h1 hj
    rw [getD_set2 [] (by omega)]
    by_cases e : j = k
    · subst e
      exfalso; apply hj
      by_cases hs : seen.getD j.toNat false = true
      · rw [if_pos hs]; exact hin.1 hs
      · rw [if_neg hs]; simp
    · rw [if_neg (by omega)]
      refine hem j h0 h1 (fun x => hj ?_)
      split <;> simp [x]
  · intro j hj
    split at hj
    · exact hrg j hj
    · rcases List.mem_append.1 hj with hj | hj
      · exact hrg j hj
      · simp only [List.mem_singleton] at hj; subst hj; exact hk
  · by_cases hs : seen.getD k.toNat false = true
    · rw [if_pos hs]; exact hnd
    · rw [if_neg hs, List.nodup_append]
      refine ⟨hnd, by simp, ?_⟩
      intro a ha b hb
      simp only [List.mem_singleton] at hb
      subst hb
      intro e; subst e
      exact hs (hin.2 ha)
  · intro j h0 h1
    rw [getD_set2 [] (by omega)]
    have := hle j h0 h1
    by_cases e : j.toNat = k.toNat
    · rw [if_pos e, List.length_append, ← e]; omega
    · rw [if_neg e]; omega
  · split
    · omega
    · rw [List.length_append]; simp; omega
theorem nodupC_row (want : List (List UInt8)) : ∀ (row : List Int), row.Nodup → nodupC (row.map (spF want)) = true
  | [], _ => rfl
  | j :: r, h => by
    have h := List.nodup_cons.1 h
    simp only [List.map_cons, nodupC, nodupC_row want r h.2, Bool.and_true, Bool.not_eq_true']
    rw [List.any_eq_false]
    intro o ho
    obtain ⟨x, hx, rfl⟩ := List.mem_map.1 ho
    intro e
    have e := of_decide_eq_true e
    simp only [spF] at e
    have : x = j := by omega
    exact h.1 (this ▸ hx)
theorem sp_fin {s : List UInt8} {row : List Int} {seen : List Bool} {want : List (List UInt8)} {n : Int} (h : SP s row seen want n) (hn : n ≤ 12) (rest : List UInt8) (hr : pieces rest = some []) : getOpts (s ++ rest) = some (row.map (spF want)) := by
  obtain ⟨⟨ps, hp, hj⟩, hls, hlw, hsn, hem, hrg, hnd, hle, hrl⟩ := h
  have hm : optsMay (row.map (spF want)) = true := by
    simp only [optsMay, Bool.and_eq_true, decide_eq_true_eq, List.length_map]
    refine ⟨⟨?_, nodupC_row want row hnd⟩, by omega⟩
    rw [List.all_eq_true]
    intro o ho
    obtain ⟨x, hx, rfl⟩ := List.mem_map.1 ho
    have hx2 := hrg x hx
    have hx3 := hle x hx2.1 hx2.2
    show (decide (1 ≤ 20 + x) && decide (20 + x ≤ 254) && decide ((want.getD x.toNat []).length ≤ 512)) = true
    rw [decide_eq_true (by omega : 1 ≤ 20 + x), decide_eq_true (by omega : 20 + x ≤ 254), decide_eq_true (by omega : (want.getD x.toNat []).length ≤ 512)]; rfl
  unfold getOpts
  rw [hp rest, hr]
  simp only [Option.map_some, List.append_nil]
  rw [hj, hm]; rfl

end Go.Proofs.Ytkjcmdgideddnaa
