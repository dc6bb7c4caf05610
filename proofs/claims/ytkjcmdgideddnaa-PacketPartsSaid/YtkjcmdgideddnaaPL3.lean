/- Plain laws (PL3): lists and numbers alone. No condition. -/
import Derived.Test.YtkjcmdgideddnaaPGet
set_option linter.unusedVariables false
set_option linter.unusedSimpArgs false
namespace Go.Proofs.Ytkjcmdgideddnaa
theorem nmPut_zero {at_ : Int} {ks : List Kn} {nm : List UInt8} (h : (nmPut at_ ks nm).2.2 = 0) : (ks.all knOk && decide (0 ≤ at_) && decide (at_ ≤ 65535) && nmMay nm) = true ∧ putName at_ ks nm = some ((nmPut at_ ks nm).1, (nmPut at_ ks nm).2.1) := by
  unfold nmPut at h ⊢
  cases hp : putName at_ ks nm with
  | none => rw [hp] at h; cases h
  | some x =>
    refine ⟨?_, rfl⟩
    unfold putName at hp
    split at hp
    · assumption
    · cases hp
theorem nmPut_non {at_ : Int} {ks : List Kn} {nm : List UInt8} (h : (nmPut at_ ks nm).2.2 ≠ 0) : (ks.all knOk && decide (0 ≤ at_) && decide (at_ ≤ 65535) && nmMay nm) = false ∧ nmPut at_ ks nm = ([], [], 300) := by
  by_cases hc : (ks.all knOk && decide (0 ≤ at_) && decide (at_ ≤ 65535) && nmMay nm) = true
  · rw [nmPut_ok hc] at h; exact absurd rfl h
  · have hc := Bool.eq_false_iff.2 hc
    exact ⟨hc, nmPut_bad hc⟩
theorem Good.nil (s : List UInt8) : Good s [] := fun k hk => by cases hk
theorem Good.all {s : List UInt8} {ks : List Kn} (h : Good s ks) : ks.all knOk = true := List.all_eq_true.2 fun k hk => (h k hk).1
/-- what is written comes back -/
theorem name_back {s : List UInt8} {ks : List Kn} {nm : List UInt8} (hg : Good s ks) (h : (nmPut s.length ks nm).2.2 = 0) (z : List UInt8) :
    getName (s ++ (nmPut s.length ks nm).1 ++ z) s.length = .ok nm ((s.length + (nmPut s.length ks nm).1.length : Nat) : Int) ∧ Good (s ++ (nmPut s.length ks nm).1) (nmPut s.length ks nm).2.1 ∧ ∃ added, (nmPut s.length ks nm).2.1 = ks ++ added := by
  obtain ⟨hc, hp⟩ := nmPut_zero h
  obtain ⟨added, e1, e2, e3⟩ := putName_good hg hp
  simp only [Bool.and_eq_true] at hc
  have hl := nmMay_labs hc.2
  have hgot := (e3 z).got (-1) [] (by simpa using hl.2)
  simp only [List.nil_append, joinD_labs] at hgot
  refine ⟨getName_eq (by omega) hgot, e2, added, e1⟩
theorem putL_min (ks : List Kn) (at_ : Int) : ∀ (ls : List (List UInt8)) (out : List UInt8) (all : List Kn), out.length + 1 ≤ (putL ks at_ ls out all).1.length
  | [], out, all => by simp [putL]
  | l :: r, out, all => by
    cases hk : kfind ks (joinD (l :: r)) with
    | some t => rw [putL_hit hk]; have : (beb (49152 + t) 2).length = 2 := rfl; simp only [List.length_append, this]; omega
    | none => rw [putL_miss hk]; have := putL_min ks at_ r (out ++ UInt8.ofNat l.length :: l) (if at_ + out.length < 16384 then all ++ [⟨joinD (l :: r), at_ + out.length⟩] else all); simp only [List.length_append, List.length_cons] at this; omega
/-- with what is known it is not longer -/
theorem putL_short (ks : List Kn) (at_ : Int) : ∀ (ls : List (List UInt8)) (out : List UInt8) (all all' : List Kn), ls.all labOk = true → (putL ks at_ ls out all).1.length ≤ (putL [] at_ ls out all').1.length
  | [], out, all, all', _ => by simp [putL]
  | l :: r, out, all, all', h => by
    simp only [List.all_cons, Bool.and_eq_true] at h
    have hl := labOk_len h.1
    rw [putL_miss (ks := []) (rfl : kfind [] (joinD (l :: r)) = none)]
    cases hk : kfind ks (joinD (l :: r)) with
    | some t =>
      rw [putL_hit hk]
      have h2 := putL_min [] at_ r (out ++ UInt8.ofNat l.length :: l) (if at_ + out.length < 16384 then all' ++ [⟨joinD (l :: r), at_ + out.length⟩] else all')
      have : (beb (49152 + t) 2).length = 2 := rfl
      simp only [List.length_append, List.length_cons, this] at h2 ⊢; omega
    | none => rw [putL_miss hk]; exact putL_short ks at_ r _ _ _ h.2
theorem short_err {a b : List UInt8} (h : ((nmPut 0 [] a).2.2 ≠ 0 ∨ (nmPut (nmPut 0 [] a).1.length (nmPut 0 [] a).2.1 b).2.2 ≠ 0) ∨ (nmPut (nmPut 0 [] a).1.length [] b).2.2 ≠ 0) :
    (nmPut 0 [] a).1 = [] ∨ ((nmPut (nmPut 0 [] a).1.length (nmPut 0 [] a).2.1 b).1 = [] ∧ (nmPut (nmPut 0 [] a).1.length [] b).1 = []) := by
  by_cases ha : (nmPut 0 [] a).2.2 = 0
  · have hg := name_back (s := []) (Good.nil _) ha []
    have hk := hg.2.1.all
    have h74 := (nmPut_more 0 [] a).1
    simp only [List.length_nil, Int.natCast_zero] at hk
    refine .inr ?_
    have key : nmMay b = false := by
      rcases h with (h | h) | h
      · exact absurd ha h
      · have := (nmPut_non h).1
        have h2 : (decide (((nmPut 0 [] a).1.length : Int) ≤ 65535)) = true := decide_eq_true (by omega)
        have h3 : (decide (0 ≤ ((nmPut 0 [] a).1.length : Int))) = true := decide_eq_true (by omega)
        rw [hk, h2, h3] at this; simpa using this
      · have := (nmPut_non h).1
        have h2 : (decide (((nmPut 0 [] a).1.length : Int) ≤ 65535)) = true := decide_eq_true (by omega)
        have h3 : (decide (0 ≤ ((nmPut 0 [] a).1.length : Int))) = true := decide_eq_true (by omega)
        rw [h2, h3] at this; simpa using this
    constructor <;> (rw [nmPut_bad]; rw [key]; simp)
  · exact .inl (by rw [(nmPut_non ha).2])
theorem short_ok {a b : List UInt8} (ha : (nmPut 0 [] a).2.2 = 0) (hb : (nmPut (nmPut 0 [] a).1.length (nmPut 0 [] a).2.1 b).2.2 = 0) (hc : (nmPut (nmPut 0 [] a).1.length [] b).2.2 = 0) :
    (nmPut (nmPut 0 [] a).1.length (nmPut 0 [] a).2.1 b).1.length ≤ (nmPut (nmPut 0 [] a).1.length [] b).1.length ∧
    getName ((nmPut 0 [] a).1 ++ (nmPut (nmPut 0 [] a).1.length (nmPut 0 [] a).2.1 b).1) (nmPut 0 [] a).1.length = .ok b (((nmPut 0 [] a).1 ++ (nmPut (nmPut 0 [] a).1.length (nmPut 0 [] a).2.1 b).1).length : Int) ∧
    (∃ to, getName ((nmPut 0 [] a).1 ++ (nmPut (nmPut 0 [] a).1.length [] b).1) (nmPut 0 [] a).1.length = .ok b to) ∧
    (nmPut 0 [] a).2.1.length ≤ (nmPut (nmPut 0 [] a).1.length (nmPut 0 [] a).2.1 b).2.1.length := by
  have h1 := name_back (s := []) (Good.nil _) ha []
  have hg : Good (nmPut 0 [] a).1 (nmPut 0 [] a).2.1 := h1.2.1
  have h2 := name_back hg hb []
  have h3 := name_back (Good.nil (nmPut 0 [] a).1) hc []
  simp only [List.append_nil] at h2 h3
  obtain ⟨added, e⟩ := h2.2.2
  refine ⟨?_, ?_, ⟨_, h3.1⟩, by rw [e, List.length_append]; omega⟩
  · rw [nmPut_ok (nmPut_zero hb).1, nmPut_ok (nmPut_zero hc).1]
    have hm := (nmPut_zero hb).1
    simp only [Bool.and_eq_true] at hm
    exact putL_short _ _ _ _ _ _ (nmMay_labs hm.2).1
  · rw [h2.1, List.length_append]
/-! WirePlain -/
theorem putL_plain (at_ : Int) : ∀ (ls : List (List UInt8)) (out : List UInt8) (all : List Kn), ls.all labOk = true → at_ + out.length + 9 * ls.length < 16384 →
    (putL [] at_ ls out all).1 = out ++ (ls.flatMap fun (l : List UInt8) => UInt8.ofNat l.length :: l) ++ [0] ∧ (putL [] at_ ls out all).2.length = all.length + ls.length
  | [], out, all, _, _ => by simp [putL]
  | l :: r, out, all, h, hb => by
    simp only [List.all_cons, Bool.and_eq_true] at h
    have hl := labOk_len h.1
    simp only [List.length_cons] at hb
    rw [putL_miss (ks := []) (rfl : kfind [] (joinD (l :: r)) = none), if_pos (by omega)]
    have ih := putL_plain at_ r (out ++ UInt8.ofNat l.length :: l) (all ++ [⟨joinD (l :: r), at_ + out.length⟩]) h.2 (by simp only [List.length_append, List.length_cons]; omega)
    rw [ih.1, ih.2]
    simp; omega
theorem plain_law {at_ : Int} {ls : List (List UInt8)} (h0 : 0 ≤ at_) (h1 : at_ ≤ 4095) (hl : ls.all labOk = true) (h8 : ls.length ≤ 8) :
    nmPut at_ [] (joinD ls) = ((ls.flatMap fun (l : List UInt8) => UInt8.ofNat l.length :: l) ++ [0], (nmPut at_ [] (joinD ls)).2.1, 0) ∧ (nmPut at_ [] (joinD ls)).2.1.length = ls.length ∧
    getName ((ls.flatMap fun (l : List UInt8) => UInt8.ofNat l.length :: l) ++ [0]) 0 = .ok (joinD ls) (((ls.flatMap fun (l : List UInt8) => UInt8.ofNat l.length :: l) ++ [0]).length : Int) := by
  have hm := nmMay_join hl h8
  have hj := labs_join hl
  have hc : ∀ p : Int, 0 ≤ p → p ≤ 4095 → (([] : List Kn).all knOk && decide (0 ≤ p) && decide (p ≤ 65535) && nmMay (joinD ls)) = true := fun p a b => by
    rw [hm, decide_eq_true a, decide_eq_true (by omega : p ≤ 65535)]; rfl
  have hp := putL_plain at_ ls [] [] hl (by simp only [List.length_nil]; omega)
  have hq := putL_plain 0 ls [] [] hl (by simp only [List.length_nil]; omega)
  simp only [List.nil_append, List.length_nil, Nat.zero_add] at hp hq
  have e0 : nmPut 0 [] (joinD ls) = ((ls.flatMap fun (l : List UInt8) => UInt8.ofNat l.length :: l) ++ [0], (putL [] 0 ls [] []).2, 0) := by rw [nmPut_ok (hc 0 (by omega) (by omega)), hj, hq.1]
  have hb := name_back (s := []) (nm := joinD ls) (Good.nil []) (by simp only [List.length_nil, Int.natCast_zero]; rw [e0]) []
  simp only [List.length_nil, Int.natCast_zero, List.nil_append, List.append_nil, Nat.zero_add] at hb
  rw [nmPut_ok (hc at_ h0 h1), hj]
  refine ⟨by rw [hp.1], hp.2, ?_⟩
  have := hb.1
  rw [e0] at this
  exact this
/-! WirePoints -/
def ptB (at_ : Int) : List UInt8 := [1, 97, 192, byteOf at_]
theorem ptr_more {s : List UInt8} {p : Nat} {ls : List (List UInt8)} {e : Nat} (h : Rd s p p ls e) (hp : p < s.length) (h2 : s.length < 256) (z : List UInt8) : Rd (s ++ ptB p ++ z) s.length s.length ([97] :: ls) (s.length + 4) := by
  have g : ∀ i, (s ++ ptB p ++ z)[s.length + i]? = (ptB p ++ z)[i]? := fun i => get_at
  have hk : Rd (s ++ ptB p ++ z) p p ls e := by rw [List.append_assoc]; exact h.more _
  have e1 : byteOf ((49152 + (p : Int)) / 256) = 192 := by apply UInt8.toNat_inj.1; have := byteOf_toNat ((49152 + (p : Int)) / 256); simp; omega
  have e2 : byteOf (49152 + (p : Int)) = byteOf p := by apply UInt8.toNat_inj.1; have := byteOf_toNat (49152 + (p : Int)); have := byteOf_toNat (p : Int); omega
  have hr : Rd (s ++ ptB p ++ z) s.length (s.length + 2) ls (s.length + 2 + 2) := by
    refine Rd.ptr (t := p) ?_ ?_ hp (by omega) hk
    · rw [g 2, e1]; rfl
    · rw [Nat.add_assoc, g 3, e2]; rfl
  refine Rd.lab (l := [97]) ?_ ?_ (by decide) hr
  · have := g 0; rw [Nat.add_zero] at this; rw [this]; rfl
  · intro i hi
    simp only [List.length_cons, List.length_nil] at hi
    have : i = 0 := by omega
    subst this
    rw [Nat.add_zero, g 1]; rfl
theorem rep_join (k : Nat) : joinD (List.replicate k [97] ++ [[108, 97, 110]]) = (List.replicate k [97, 46]).flatten ++ [108, 97, 110] := by
  induction k with
  | zero => rfl
  | succ k ih =>
    rw [List.replicate_succ, List.cons_append, joinD_cons _ (by simp), ih, List.replicate_succ, List.flatten_cons]; rfl
/-- a pointer that points at or behind its own name -/
theorem ptr_bad {s : List UInt8} {p t : Nat} (h0 : s[p]? = some 1) (h1 : s[p + 1]? = some 97) (h2 : s[p + 2]? = some 192) (h3 : s[p + 3]? = some (byteOf t)) (ht : p ≤ t) (hb : t < 256) : getName s p = .err 300 := by
  have hl : p + 3 < s.length := (List.getElem?_eq_some_iff.1 h3).1
  have d : ∀ {i : Nat} {b : UInt8}, s[i]? = some b → s.getD i 0 = b := fun h => getD_of h
  have k0 : ((s.getD ((p : Int)).toNat 0).toNat : Int) = 1 := by rw [Int.toNat_natCast, d h0]; rfl
  have sl : slc s ((p : Int) + 1) ((p : Int) + 1 + 1) = [97] := by
    rw [slc_one (by omega) (by omega), show ((p : Int) + 1).toNat = p + 1 by omega, d h1]
  refine getName_eq (by omega) (Got.step (sG5 (by omega) (by rw [k0]; decide) (by rw [k0]; decide) (by rw [k0]; omega) (by rw [k0, sl]; decide)) ?_)
  rw [k0, sl]
  have e2 : ((p : Int) + 1 + 1).toNat = p + 2 := by omega
  have e3 : ((p : Int) + 1 + 1 + 1).toNat = p + 3 := by omega
  have k2 : ((s.getD ((p : Int) + 1 + 1).toNat 0).toNat : Int) = 192 := by rw [e2, d h2]; rfl
  have k3 : ((s.getD ((p : Int) + 1 + 1 + 1).toNat 0).toNat : Int) = t := by rw [e3, d h3, byteOf_toNat]; omega
  refine Got.stop (sG7 (by omega) (by rw [k2]; decide) (by rw [k2]; decide) (by rw [k2]; decide) (by omega) (by rw [k2, k3]; omega))
/-! WireFolds -/
theorem folds_got {s z : List UInt8} : ∀ (cs : List UInt8) (pre : List UInt8) (acc : List (List UInt8)) (row : Int), (∀ c ∈ cs, labOk [lower c] = true) → acc.length + cs.length ≤ 8 →
    s = pre ++ (cs.flatMap fun c => [1, c]) ++ [0] ++ z → Got s ⟨pre.length, row, -1, acc⟩ (.ok (joinD (acc ++ cs.map fun c => [lower c])) ((pre.length : Int) + 2 * cs.length + 1))
  | [], pre, acc, row, _, _, hs => by
    have h0 : s.getD ((pre.length : Int)).toNat 0 = 0 := by rw [hs]; simp [List.getD_eq_getElem?_getD]
    have hl : pre.length < s.length := by rw [hs]; simp
    have := Got.stop (sG2 (s := s) (p := pre.length) (r := row) (f := -1) (ls := acc) (by omega) (by rw [h0]; rfl))
    simpa using this
  | c :: r, pre, acc, row, h, ha, hs => by
    simp only [List.length_cons] at ha
    have hs2 : s = (pre ++ [1, c]) ++ (r.flatMap fun c => [1, c]) ++ [0] ++ z := by rw [hs]; simp
    have hl : pre.length + 2 < s.length := by rw [hs2]; simp; omega
    have h1 : s.getD ((pre.length : Int)).toNat 0 = 1 := by rw [hs]; simp [List.getD_eq_getElem?_getD]
    have h2 : s.getD ((pre.length : Int) + 1).toNat 0 = c := by
      rw [show ((pre.length : Int) + 1).toNat = pre.length + 1 by omega, hs]; simp [List.getD_eq_getElem?_getD]
    have k0 : ((s.getD ((pre.length : Int)).toNat 0).toNat : Int) = 1 := by rw [h1]; rfl
    have sl : slc s ((pre.length : Int) + 1) ((pre.length : Int) + 1 + 1) = [c] := by rw [slc_one (by omega) (by omega), h2]
    have hc := h c (by simp)
    refine Got.step (sG5 (by omega) (by rw [k0]; decide) (by rw [k0]; decide) (by rw [k0]; omega) (by rw [k0, sl]; rintro (h | h); (rw [show fold [c] = [lower c] from rfl, hc] at h; cases h); omega)) ?_
    rw [k0, sl]
    have ih := folds_got r (pre ++ [1, c]) (acc ++ [[lower c]]) row (fun x hx => h x (by simp [hx])) (by simp; omega) hs2
    have e1 : (((pre ++ [1, c]).length : Nat) : Int) = (pre.length : Int) + 1 + 1 := by simp; omega
    rw [e1] at ih
    have e2 : (pre.length : Int) + 1 + 1 + 2 * (r.length : Nat) + 1 = (pre.length : Int) + 2 * ((c :: r).length : Nat) + 1 := by simp; omega
    rw [e2] at ih
    simpa [fold] using ih
def pl (x : Int) : List UInt8 := ([97, 98, 99, 100, 101, 102, 103, 104] : List UInt8).take (1 + x % 8).toNat
theorem pl_ok (x : Int) : labOk (pl x) = true ∧ (pl x).length = (1 + x % 8).toNat := by
  have key : ∀ n : Nat, n < 8 → labOk (([97, 98, 99, 100, 101, 102, 103, 104] : List UInt8).take (1 + n)) = true ∧ (([97, 98, 99, 100, 101, 102, 103, 104] : List UInt8).take (1 + n)).length = 1 + n := by decide
  have h := key (x % 8).toNat (by omega)
  have e : (1 + x % 8).toNat = 1 + (x % 8).toNat := by omega
  rw [pl, e]; exact h
theorem byteOf_nat (n : Nat) : byteOf n = UInt8.ofNat n := by
  apply UInt8.toNat_inj.1
  have := byteOf_toNat (n : Int)
  simp; omega
theorem pl_byte (x : Int) : byteOf (1 + x % 8) = UInt8.ofNat (pl x).length := by
  rw [(pl_ok x).2, ← byteOf_nat]; congr 1; omega
theorem pls_ok (xs : List Int) : (xs.map pl).all labOk = true := by
  rw [List.all_eq_true]; intro l hl
  obtain ⟨x, _, rfl⟩ := List.mem_map.1 hl
  exact (pl_ok x).1
def fb (x : Int) : UInt8 := byteOf (97 + x % 256 % 26)
theorem fb_ok (x : Int) : 97 ≤ (fb x).toNat ∧ (fb x).toNat ≤ 122 := by
  have := byteOf_toNat (97 + x % 256 % 26)
  unfold fb; omega
def fc (x : Int) : UInt8 := if (x / 2 ^ 8) % 2 = 1 then fb x - 32 else fb x
theorem fc_lower (x : Int) : lower (fc x) = fb x := by
  have h := fb_ok x
  unfold fc lower
  by_cases hx : (x / 2 ^ 8) % 2 = 1
  · simp only [hx, if_true]
    have e : (fb x - 32).toNat = (fb x).toNat - 32 := by
      rw [UInt8.toNat_sub_of_le]; rfl
      rw [UInt8.le_iff_toNat_le]; show 32 ≤ _; omega
    rw [if_pos (by omega)]
    apply UInt8.toNat_inj.1
    rw [UInt8.toNat_add, e]
    show ((fb x).toNat - 32 + 32) % 256 = _
    omega
  · simp only [hx, if_false]
    rw [if_neg (by omega)]
theorem fb_lab (x : Int) : labOk [fb x] = true := by
  have h := fb_ok x
  have : isL (fb x) = true := by rw [isL_iff]; omega
  simp [labOk, this]
theorem folds_law (xs : List Int) (h8 : xs.length ≤ 8) (pre : List UInt8) : getName (pre ++ ((xs.map fc).flatMap fun c => [1, c]) ++ [0]) pre.length = .ok (joinD (xs.map fun x => [fb x])) ((pre.length : Int) + 2 * xs.length + 1) := by
  have h := folds_got (s := pre ++ ((xs.map fc).flatMap fun c => [1, c]) ++ [0]) (z := []) (xs.map fc) pre [] pre.length (fun c hc => by obtain ⟨x, _, rfl⟩ := List.mem_map.1 hc; rw [fc_lower]; exact fb_lab x) (by simpa using h8) (by simp)
  have e : (xs.map fc).map (fun c => [lower c]) = xs.map fun x => [fb x] := by rw [List.map_map]; apply List.map_congr_left; intro x _; simp [fc_lower]
  rw [e] at h
  have := getName_eq (p := pre.length) (by omega) h
  simpa using this
theorem fold_len (xs : List Int) : ((xs.map fc).flatMap fun c => [1, c]).length = 2 * xs.length := by
  induction xs with
  | nil => rfl
  | cons x r ih => simp only [List.map_cons, List.flatMap_cons, List.length_append, ih, List.length_cons, List.length_nil]; omega
/-- the points' state -/
def PtI (s : List UInt8) (p : Int) (i : Nat) : Prop := s.length = 5 + 4 * i ∧ ∃ q : Nat, p = q ∧ q < s.length ∧ Rd s q q (List.replicate i [97] ++ [[108, 97, 110]]) s.length ∧ (0 < i → ∃ s0 b, s = s0 ++ [1, 97, 192, b] ∧ q = s0.length)
theorem ptI_new : PtI [3, 108, 97, 110, 0] 0 0 := by
  refine ⟨rfl, 0, rfl, by decide, ?_, fun h => absurd h (by decide)⟩
  refine Rd.lab (l := [108, 97, 110]) rfl (fun i hi => ?_) (by decide) (Rd.nil rfl)
  have : i = 0 ∨ i = 1 ∨ i = 2 := by simp at hi; omega
  rcases this with rfl | rfl | rfl <;> rfl
theorem ptI_step {s : List UInt8} {p : Int} {i : Nat} (h : PtI s p i) (hi : i ≤ 7) : PtI (s ++ ptB p) s.length (i + 1) := by
  obtain ⟨hl, q, rfl, hq, hr, _⟩ := h
  refine ⟨by simp [ptB]; omega, s.length, rfl, by simp [ptB], ?_, fun _ => ⟨s, byteOf q, rfl, rfl⟩⟩
  have := ptr_more hr hq (by omega) []
  simp only [List.append_nil] at this
  rw [List.replicate_succ, List.cons_append]
  have e : (s ++ ptB (q : Int)).length = s.length + 4 := by simp [ptB]
  rw [e]; exact this
theorem ptI_get {s : List UInt8} {p : Int} {i : Nat} (h : PtI s p i) (hi : i ≤ 7) : getName s p = .ok ((List.replicate i [97, 46]).flatten ++ [108, 97, 110]) s.length := by
  obtain ⟨hl, q, rfl, hq, hr, _⟩ := h
  have := hr.got (-1) [] (by simp; omega)
  simp only [List.nil_append] at this
  rw [getName_eq (by omega) this, rep_join]; simp
theorem ptI_bad {s : List UInt8} {p : Int} {i : Nat} (h : PtI s p i) (hi : i ≤ 7) (h0 : 0 < i) (c : Int) : getName (s.set ((s.length : Int) - 1).toNat (byteOf (p + c % 4))) p = .err 300 := by
  obtain ⟨hl, q, rfl, hq, hr, hs⟩ := h
  obtain ⟨s0, b, rfl, rfl⟩ := hs h0
  have e : (((s0 ++ [1, 97, 192, b]).length : Int) - 1).toNat = s0.length + 3 := by simp; omega
  simp only [List.length_append, List.length_cons, List.length_nil] at hl
  rw [e, List.set_append_right _ _ (by omega)]
  have e2 : s0.length + 3 - s0.length = 3 := by omega
  rw [e2]
  have g : ∀ j, (s0 ++ [1, 97, 192, b].set 3 (byteOf ((s0.length : Int) + c % 4)))[s0.length + j]? = ([1, 97, 192, byteOf ((s0.length : Int) + c % 4)] : List UInt8)[j]? := fun j => by
    rw [List.getElem?_append_right (by omega)]; congr 1; omega
  have et : ((s0.length : Int) + c % 4) = ((s0.length + (c % 4).toNat : Nat) : Int) := by omega
  refine ptr_bad (t := s0.length + (c % 4).toNat) ?_ ?_ ?_ ?_ (by omega) (by omega)
  · have := g 0; rw [Nat.add_zero] at this; rw [this]; rfl
  · rw [g 1]; rfl
  · rw [g 2]; rfl
  · rw [g 3, et]; rfl

end Go.Proofs.Ytkjcmdgideddnaa
