/- Plain laws (PTak): lists and numbers alone. No condition. -/
import Derived.Test.YtkjcmdgideddnaaPRec
set_option linter.unusedVariables false
set_option linter.unusedSimpArgs false
namespace Go.Proofs.Ytkjcmdgideddnaa
/-! records: what is taken -/
structure TS where
  at_ : Int
  bad : Bool
def beG (s : List UInt8) (p k : Int) : Int × Int := if ¬ (k = 1 ∨ k = 2 ∨ k = 4) ∨ p < 0 then (0, 100) else if (s.length : Int) - k < p then (0, 101) else (numI (slc s p (p + k)), 0)
def tNum (W : Int → Int) (s : List UInt8) (k : Int) (t : TS) : Int × TS := ((beG s t.at_ k).1, ⟨W (t.at_ + k), bif t.bad then true else !decide ((beG s t.at_ k).2 = 0)⟩)
def tName (s : List UInt8) (t : TS) : List UInt8 × TS := (grN (getName s t.at_), if t.bad = true ∨ grE (getName s t.at_) ≠ 0 then ⟨t.at_, true⟩ else ⟨grT (getName s t.at_), false⟩)
def tSome (s : List UInt8) (k : Int) (t : TS) : List UInt8 × TS := if t.bad = true ∨ (s.length : Int) - t.at_ < k then ([], ⟨t.at_, true⟩) else (slc s t.at_ (t.at_ + k), ⟨t.at_ + k, false⟩)
def tTime (W : Int → Int) (s : List UInt8) (t : TS) (x : Int) : TS := ⟨(tNum W s 4 t).2.at_, bif !decide ((tNum W s 4 t).1 = x) then true else (tNum W s 4 t).2.bad⟩
def tSoa (W : Int → Int) (s : List UInt8) (r : RR) (t : TS) : RR × TS :=
  let x := tName s t
  let y := tName s x.2
  let n := tNum W s 4 ⟨y.2.at_, bif !decide (y.1 = x.1) then true else y.2.bad⟩
  (⟨r.name, r.type, r.ttl, r.addr, x.1, r.text, n.1⟩, ([60, 60, 600, 60] : List Int).foldl (tTime W s) n.2)
def tType (W : Int → Int) (s : List UInt8) (size : Int) (r : RR) (t : TS) : RR × TS :=
  if r.type = 1 then (⟨r.name, r.type, r.ttl, (tNum W s 4 t).1, r.target, r.text, r.serial⟩, (tNum W s 4 t).2)
  else if isName r.type = true then (⟨r.name, r.type, r.ttl, r.addr, (tName s t).1, r.text, r.serial⟩, (tName s t).2)
  else if r.type = 6 then tSoa W s r t
  else if r.type = 16 then (⟨r.name, r.type, r.ttl, r.addr, r.target, (tSome s (tNum W s 1 t).1 (tNum W s 1 t).2).1, r.serial⟩, (tSome s (tNum W s 1 t).1 (tNum W s 1 t).2).2)
  else (⟨r.name, r.type, r.ttl, r.addr, r.target, (tSome s size t).1, r.serial⟩, (tSome s size t).2)
def tData (W : Int → Int) (s : List UInt8) (size : Int) (r : RR) (t : TS) : RR × TS :=
  ((tType W s size r t).1, ⟨(tType W s size r t).2.at_, bif (tType W s size r t).2.bad then true else !decide ((tType W s size r t).2.at_ = W (t.at_ + size))⟩)
/-- the head of a record: what it tells, how many bytes there are behind it, and where they are -/
def tHead (W : Int → Int) (s : List UInt8) (p : Int) : RR × Int × TS :=
  let a := tName s ⟨p, false⟩
  let b := tNum W s 2 a.2
  let c := tNum W s 2 b.2
  let l := tNum W s 4 ⟨c.2.at_, bif !decide (c.1 = 1) then true else c.2.bad⟩
  let z := tNum W s 2 l.2
  (⟨a.1, b.1, l.1, 0, [], [], 0⟩, z.1, z.2)
def tAll (W : Int → Int) (s : List UInt8) (p : Int) : RR × TS := if (tHead W s p).2.2.bad = true then ((tHead W s p).1, (tHead W s p).2.2) else tData W s (tHead W s p).2.1 (tHead W s p).1 (tHead W s p).2.2
abbrev noR : RR := ⟨[], 0, 0, 0, [], [], 0⟩
def fin (x : RR × TS) : RR × Int × Int := if x.2.bad = true ∨ rrMay x.1 = false then (noR, 0, 400) else (x.1, x.2.at_, 0)
/-! the same, as the document has it -/
def dataG (s : List UInt8) (r : RR) (p k : Int) : Option RR :=
  if r.type = 1 then (if k = 4 then some ⟨r.name, r.type, r.ttl, numI (slc s p (p + 4)), r.target, r.text, r.serial⟩ else none)
  else if isName r.type = true then (if grE (getName s p) = 0 ∧ grT (getName s p) = p + k then some ⟨r.name, r.type, r.ttl, r.addr, grN (getName s p), r.text, r.serial⟩ else none)
  else if r.type = 6 then (if grE (getName s p) = 0 ∧ grE (getName s (grT (getName s p))) = 0 ∧ grN (getName s (grT (getName s p))) = grN (getName s p) ∧ grT (getName s (grT (getName s p))) + 20 = p + k ∧
      slc s (grT (getName s (grT (getName s p))) + 4) (p + k) = soaTail then some ⟨r.name, r.type, r.ttl, r.addr, grN (getName s p), r.text, numI (slc s (grT (getName s (grT (getName s p)))) (grT (getName s (grT (getName s p))) + 4))⟩ else none)
  else if r.type = 16 then (if 0 < k ∧ numI (slc s p (p + 1)) = k - 1 then some ⟨r.name, r.type, r.ttl, r.addr, r.target, slc s (p + 1) (p + k), r.serial⟩ else none)
  else some ⟨r.name, r.type, r.ttl, r.addr, r.target, slc s p (p + k), r.serial⟩
def headG (s : List UInt8) (to : Int) (nm : List UInt8) : RR := ⟨nm, numI (slc s to (to + 2)), numI (slc s (to + 4) (to + 8)), 0, [], [], 0⟩
def sizeG (s : List UInt8) (to : Int) : Int := numI (slc s (to + 8) (to + 10))
def gR (s : List UInt8) (p : Int) : Option (RR × Int) := match getName s p with
  | .err _ => none
  | .ok nm to => if to + 10 ≤ s.length ∧ numI (slc s (to + 2) (to + 4)) = 1 ∧ to + 10 + sizeG s to ≤ s.length then
      (dataG s (headG s to nm) (to + 10) (sizeG s to)).bind fun r => if rrMay r = true then some (r, to + 10 + sizeG s to) else none
    else none
def rrGet (s : List UInt8) (p : Int) : RR × Int × Int := match gR s p with
  | none => (noR, 0, 400)
  | some x => (x.1, x.2, 0)
theorem GR.err_ne {s : List UInt8} {p e : Int} (h : getName s p = .err e) : e ≠ 0 := by
  intro h0; subst h0
  by_cases hp : p < 0
  · rw [getName_neg s hp] at h; cases h
  · obtain ⟨n, hn⟩ := getName_got s (show 0 ≤ p by omega)
    rw [h] at hn
    have key : ∀ (n : Nat) (g : GS), getF n s g ≠ some (.err 0) := by
      intro n
      induction n with
      | zero => intro g; simp [getF]
      | succ n ih =>
        intro g hg
        rcases getF_step hg with h | ⟨g', _, h⟩
        · obtain ⟨q, r, f, ls⟩ := g
          revert h
          unfold stepG
          dsimp only
          repeat' split
          all_goals simp
        · exact ih g' h
    exact key n _ hn
theorem gr_ok {s : List UInt8} {p : Int} (h : grE (getName s p) = 0) : getName s p = .ok (grN (getName s p)) (grT (getName s p)) := by
  cases hg : getName s p with
  | err e => rw [hg] at h; exact absurd h (GR.err_ne hg)
  | ok nm to => rfl
theorem slc_len {s : List UInt8} {i j : Int} (h0 : 0 ≤ i) (h1 : i ≤ j) (h2 : j ≤ s.length) : (slc s i j).length = (j - i).toNat := by
  unfold slc; rw [List.length_drop, List.length_take]; omega
theorem beG_rng (s : List UInt8) (p : Int) : 0 ≤ (beG s p 2).1 ∧ (beG s p 2).1 < 65536 := by
  unfold beG
  split; · simp
  split; · simp
  rename_i h1 h2
  have := numI_bd (slc s p (p + 2))
  rw [slc_len (by omega) (by omega) (by omega)] at this
  have e : (p + 2 - p).toNat = 2 := by omega
  rw [e] at this
  have e2 : (256 : Int) ^ 2 = 65536 := by decide
  rw [e2] at this; exact this
/-- a number is taken: there it is, or all is bad -/
theorem tNum_ok {W : Int → Int} (hW : ∀ x : Int, 0 ≤ x → x ≤ 4611686018427387904 → W x = x) {s : List UInt8} (hs : s.length ≤ 140737488355328) {k : Int} (hk : k = 1 ∨ k = 2 ∨ k = 4) {t : TS} (ht : t.bad = false → 0 ≤ t.at_) :
    ((tNum W s k t).2.bad = true ∧ (t.bad = true ∨ (s.length : Int) < t.at_ + k)) ∨ (t.bad = false ∧ t.at_ + k ≤ s.length ∧ tNum W s k t = (numI (slc s t.at_ (t.at_ + k)), ⟨t.at_ + k, false⟩)) := by
  obtain ⟨p, b⟩ := t
  cases b with
  | true => left; exact ⟨by simp [tNum], .inl rfl⟩
  | false =>
    have h0 := ht rfl
    dsimp only at h0 ⊢
    by_cases h : (s.length : Int) - k < p
    · left; refine ⟨?_, .inr (by omega)⟩
      simp only [tNum, beG]
      rw [if_neg (by omega), if_pos h]; rfl
    · right
      refine ⟨rfl, by omega, ?_⟩
      simp only [tNum, beG]
      rw [if_neg (by omega), if_neg h, hW _ (by omega) (by omega)]; rfl
theorem tNum_bad {W : Int → Int} {s : List UInt8} {k : Int} {t : TS} (h : t.bad = true) : (tNum W s k t).2.bad = true := by simp [tNum, h]
theorem tName_ok {s : List UInt8} {t : TS} : ((tName s t).2.bad = true ∧ (t.bad = true ∨ grE (getName s t.at_) ≠ 0)) ∨ (t.bad = false ∧ grE (getName s t.at_) = 0 ∧ tName s t = (grN (getName s t.at_), ⟨grT (getName s t.at_), false⟩)) := by
  unfold tName
  by_cases h : t.bad = true ∨ grE (getName s t.at_) ≠ 0
  · left; rw [if_pos h]; exact ⟨rfl, h⟩
  · right; rw [if_neg h]
    simp only [not_or, Decidable.not_not, Bool.not_eq_true] at h
    exact ⟨h.1, h.2, rfl⟩
theorem tName_bad {s : List UInt8} {t : TS} (h : t.bad = true) : (tName s t).2.bad = true := by simp [tName, h]
theorem times_bad {W : Int → Int} {s : List UInt8} : ∀ (l : List Int) {t : TS}, t.bad = true → (l.foldl (tTime W s) t).bad = true
  | [], _, h => h
  | x :: l, t, h => times_bad l (by simp [tTime, tNum, h])
/-- numbers that should stand there -/
def tims (l : List Int) : List UInt8 := l.flatMap fun x => beb x 4
theorem slc_app {s : List UInt8} {i j k : Int} (h0 : 0 ≤ i) (h1 : i ≤ j) (h2 : j ≤ k) (h3 : k ≤ s.length) : slc s i k = slc s i j ++ slc s j k := by
  unfold slc
  apply List.ext_getElem?
  intro n
  rw [List.getElem?_drop, List.getElem?_take, List.getElem?_append]
  simp only [List.length_drop, List.length_take, List.getElem?_drop, List.getElem?_take]
  by_cases hn : n < min j.toNat s.length - i.toNat
  · rw [if_pos hn, if_pos (by omega), if_pos (by omega)]
  · rw [if_neg hn]
    have e : j.toNat + (n - (min j.toNat s.length - i.toNat)) = i.toNat + n := by omega
    rw [e]
theorem times_ok {W : Int → Int} (hW : ∀ x : Int, 0 ≤ x → x ≤ 4611686018427387904 → W x = x) {s : List UInt8} (hs : s.length ≤ 140737488355328) : ∀ (l : List Int) (t : TS), l.length ≤ 1000 → (∀ x ∈ l, 0 ≤ x ∧ x < 4294967296) → (t.bad = false → 0 ≤ t.at_ ∧ t.at_ ≤ s.length) →
    ((l.foldl (tTime W s) t).bad = true ∧ (t.bad = true ∨ (s.length : Int) < t.at_ + 4 * l.length ∨ slc s t.at_ (t.at_ + 4 * l.length) ≠ tims l)) ∨
    (t.bad = false ∧ t.at_ + 4 * l.length ≤ s.length ∧ slc s t.at_ (t.at_ + 4 * l.length) = tims l ∧ l.foldl (tTime W s) t = ⟨t.at_ + 4 * l.length, false⟩)
  | [], t, _, _, ht => by
    cases hb : t.bad with
    | true => exact .inl ⟨hb, .inl rfl⟩
    | false =>
      have := ht hb
      right
      refine ⟨rfl, by simp; omega, ?_, ?_⟩
      · simp [slc, tims]
      · obtain ⟨p, b⟩ := t; simp only at hb; subst hb; simp
  | x :: l, t, hl, hx, ht => by
    simp only [List.length_cons] at hl
    rcases tNum_ok hW hs (k := 4) (by simp) (t := t) (fun h => (ht h).1) with ⟨h1, h2⟩ | ⟨h1, h2, h3⟩
    · left
      refine ⟨times_bad l (by simp [tTime, h1]), ?_⟩
      rcases h2 with h2 | h2
      · exact .inl h2
      · exact .inr (.inl (by simp only [List.length_cons]; omega))
    · have h0 := ht h1
      have hsl : (slc s t.at_ (t.at_ + 4)).length = 4 := by rw [slc_len h0.1 (by omega) h2]; omega
      by_cases he : numI (slc s t.at_ (t.at_ + 4)) = x
      · have hT : tTime W s t x = ⟨t.at_ + 4, false⟩ := by simp [tTime, h3, he]
        have hb4 : slc s t.at_ (t.at_ + 4) = beb x 4 := by rw [← he, beb_numI 4 _ hsl]
        have ih := times_ok hW hs l ⟨t.at_ + 4, false⟩ (by omega) (fun y hy => hx y (by simp [hy])) (fun _ => ⟨by dsimp only; omega, h2⟩)
        dsimp only at ih
        have e : t.at_ + 4 + 4 * (l.length : Int) = t.at_ + 4 * ((x :: l).length : Int) := by simp only [List.length_cons]; omega
        rw [e] at ih
        simp only [List.foldl_cons, hT]
        rcases ih with ⟨i1, i2⟩ | ⟨_, i2, i3, i4⟩
        · left
          refine ⟨i1, ?_⟩
          rcases i2 with i2 | i2 | i2
          · cases i2
          · exact .inr (.inl i2)
          · by_cases hlen : (s.length : Int) < t.at_ + 4 * ((x :: l).length : Int)
            · exact .inr (.inl hlen)
            · refine .inr (.inr ?_)
              rw [slc_app h0.1 (by omega : t.at_ ≤ t.at_ + 4) (by simp only [List.length_cons]; omega) (by omega), hb4]
              intro h7
              exact i2 (List.append_cancel_left (h7.trans (by simp [tims] : tims (x :: l) = beb x 4 ++ tims l)))
        · right
          refine ⟨h1, i2, ?_, i4⟩
          rw [slc_app h0.1 (by omega : t.at_ ≤ t.at_ + 4) (by simp only [List.length_cons]; omega) (by omega), hb4, i3]
          simp [tims]
      · left
        have hT : (tTime W s t x).bad = true := by simp [tTime, h3, he]
        simp only [List.foldl_cons]
        refine ⟨times_bad l hT, ?_⟩
        by_cases hlen : (s.length : Int) < t.at_ + 4 * ((x :: l).length : Int)
        · exact .inr (.inl hlen)
        · refine .inr (.inr ?_)
          rw [slc_app h0.1 (by omega : t.at_ ≤ t.at_ + 4) (by simp only [List.length_cons]; omega) (by omega)]
          intro h7
          apply he
          have h8 : slc s t.at_ (t.at_ + 4) = beb x 4 := by
            have := congrArg (List.take 4) h7
            rw [List.take_left' hsl] at this
            rw [this]
            simp only [tims, List.flatMap_cons]
            exact List.take_left' (beb_len 4 x)
          rw [h8]
          have := hx x (by simp)
          exact numI_beb 4 x this.1 (by have : (256 : Int) ^ 4 = 4294967296 := by decide
                                        omega)
theorem soaTail_tims : soaTail = tims [60, 60, 600, 60] := by simp [soaTail, tims]
theorem tData_ok {W : Int → Int} (hW : ∀ x : Int, 0 ≤ x → x ≤ 4611686018427387904 → W x = x) {s : List UInt8} (hs : s.length ≤ 140737488355328) {k q : Int} {r : RR} (h0 : 0 ≤ q) (h1 : q ≤ s.length) (hk : 0 ≤ k ∧ k < 65536) :
    ((tData W s k r ⟨q, false⟩).2.bad = true ∧ ((s.length : Int) < q + k ∨ dataG s r q k = none)) ∨ (q + k ≤ s.length ∧ ∃ r', dataG s r q k = some r' ∧ tData W s k r ⟨q, false⟩ = (r', ⟨q + k, false⟩)) := by
  have hWk : W (q + k) = q + k := hW _ (by omega) (by omega)
  have bad : (tType W s k r ⟨q, false⟩).2.bad = true → ((s.length : Int) < q + k ∨ dataG s r q k = none) → ((tData W s k r ⟨q, false⟩).2.bad = true ∧ ((s.length : Int) < q + k ∨ dataG s r q k = none)) ∨ (q + k ≤ s.length ∧ ∃ r', dataG s r q k = some r' ∧ tData W s k r ⟨q, false⟩ = (r', ⟨q + k, false⟩)) := fun a b => .inl ⟨by simp [tData, a], b⟩
  have good : ∀ r' e, tType W s k r ⟨q, false⟩ = (r', ⟨e, false⟩) → e ≤ s.length → (e = q + k → dataG s r q k = some r') → (e ≠ q + k → (s.length : Int) < q + k ∨ dataG s r q k = none) → ((tData W s k r ⟨q, false⟩).2.bad = true ∧ ((s.length : Int) < q + k ∨ dataG s r q k = none)) ∨ (q + k ≤ s.length ∧ ∃ r', dataG s r q k = some r' ∧ tData W s k r ⟨q, false⟩ = (r', ⟨q + k, false⟩)) := fun r' e a b c d => by
    by_cases he : e = q + k
    · right
      refine ⟨by omega, r', c he, ?_⟩
      simp [tData, a, hWk, he]
    · left
      refine ⟨?_, d he⟩
      simp [tData, a, hWk, he]
  by_cases t1 : r.type = 1
  · have hd : dataG s r q k = if k = 4 then some ⟨r.name, r.type, r.ttl, numI (slc s q (q + 4)), r.target, r.text, r.serial⟩ else none := by rw [dataG, if_pos t1]
    have ht : tType W s k r ⟨q, false⟩ = (⟨r.name, r.type, r.ttl, (tNum W s 4 ⟨q, false⟩).1, r.target, r.text, r.serial⟩, (tNum W s 4 ⟨q, false⟩).2) := by rw [tType, if_pos t1]
    rcases tNum_ok hW hs (k := 4) (by simp) (t := ⟨q, false⟩) (fun _ => h0) with ⟨a, b⟩ | ⟨_, b, c⟩
    · refine bad (by rw [ht]; exact a) ?_
      rw [hd]
      rcases b with b | b
      · cases b
      · dsimp only at b
        by_cases hk4 : k = 4
        · left; omega
        · right; rw [if_neg hk4]
    · refine good _ (q + 4) (by rw [ht, c]) b (fun he => ?_) (fun he => ?_)
      · rw [hd, if_pos (by omega)]
      · rw [hd, if_neg (by omega)]; exact .inr rfl
  by_cases t2 : isName r.type = true
  · have hd : dataG s r q k = if grE (getName s q) = 0 ∧ grT (getName s q) = q + k then some ⟨r.name, r.type, r.ttl, r.addr, grN (getName s q), r.text, r.serial⟩ else none := by rw [dataG, if_neg t1, if_pos t2]
    have ht : tType W s k r ⟨q, false⟩ = (⟨r.name, r.type, r.ttl, r.addr, (tName s ⟨q, false⟩).1, r.text, r.serial⟩, (tName s ⟨q, false⟩).2) := by rw [tType, if_neg t1, if_pos t2]
    rcases tName_ok (s := s) (t := ⟨q, false⟩) with ⟨a, b⟩ | ⟨_, b, c⟩
    · refine bad (by rw [ht]; exact a) ?_
      rw [hd]
      rcases b with b | b
      · cases b
      · right; rw [if_neg (fun h => b h.1)]
    · dsimp only at b c
      have hr := getName_rng (gr_ok b)
      refine good _ (grT (getName s q)) (by rw [ht, c]) hr.2.2 (fun he => ?_) (fun he => ?_)
      · rw [hd, if_pos ⟨b, he⟩]
      · rw [hd, if_neg (fun h => he h.2)]; exact .inr rfl
  by_cases t6 : r.type = 6
  · have hd : dataG s r q k = if grE (getName s q) = 0 ∧ grE (getName s (grT (getName s q))) = 0 ∧ grN (getName s (grT (getName s q))) = grN (getName s q) ∧ grT (getName s (grT (getName s q))) + 20 = q + k ∧
        slc s (grT (getName s (grT (getName s q))) + 4) (q + k) = soaTail then some ⟨r.name, r.type, r.ttl, r.addr, grN (getName s q), r.text, numI (slc s (grT (getName s (grT (getName s q)))) (grT (getName s (grT (getName s q))) + 4))⟩ else none := by rw [dataG, if_neg t1, if_neg t2, if_pos t6]
    have ht : tType W s k r ⟨q, false⟩ = tSoa W s r ⟨q, false⟩ := by rw [tType, if_neg t1, if_neg t2, if_pos t6]
    rcases tName_ok (s := s) (t := ⟨q, false⟩) with ⟨a, b⟩ | ⟨_, b, c⟩
    · refine bad ?_ ?_
      · rw [ht]; exact times_bad _ (tNum_bad (by simp [tName_bad a]))
      · rw [hd]
        rcases b with b | b
        · cases b
        · right; rw [if_neg (fun h => b h.1)]
    dsimp only at b c
    have hr := getName_rng (gr_ok b)
    rcases tName_ok (s := s) (t := ⟨grT (getName s q), false⟩) with ⟨a', b'⟩ | ⟨_, b', c'⟩
    · refine bad ?_ ?_
      · rw [ht, tSoa]; dsimp only; rw [c]; exact times_bad _ (tNum_bad (by simp [a']))
      · rw [hd]
        rcases b' with b' | b'
        · cases b'
        · right; rw [if_neg (fun h => b' h.2.1)]
    dsimp only at b' c'
    have hr' := getName_rng (gr_ok b')
    generalize hx : getName s q = x at *
    generalize hy : getName s (grT x) = y at *
    by_cases hne : grN y = grN x
    · have hS : tSoa W s r ⟨q, false⟩ = (⟨r.name, r.type, r.ttl, r.addr, grN x, r.text, (tNum W s 4 ⟨grT y, false⟩).1⟩, ([60, 60, 600, 60] : List Int).foldl (tTime W s) (tNum W s 4 ⟨grT y, false⟩).2) := by
        simp [tSoa, c, c', hne]
      rcases tNum_ok hW hs (k := 4) (by simp) (t := ⟨grT y, false⟩) (fun _ => by dsimp only; omega) with ⟨a2, b2⟩ | ⟨_, b2, c2⟩
      · refine bad ?_ ?_
        · rw [ht, hS]; exact times_bad _ a2
        · rw [hd]
          rcases b2 with b2 | b2
          · cases b2
          · dsimp only at b2
            by_cases hl : (s.length : Int) < q + k
            · exact .inl hl
            · right; rw [if_neg (fun h => by omega)]
      · dsimp only at b2 c2
        rw [c2] at hS
        rcases times_ok hW hs [60, 60, 600, 60] ⟨grT y + 4, false⟩ (by simp) (by simp) (fun _ => ⟨by dsimp only; omega, b2⟩) with ⟨a3, b3⟩ | ⟨_, b3, b4, c3⟩
        · refine bad ?_ ?_
          · rw [ht, hS]; exact a3
          · rw [hd]
            by_cases hl : (s.length : Int) < q + k
            · exact .inl hl
            · right
              rw [if_neg]
              rintro ⟨_, _, _, g1, g2⟩
              have e : grT y + 4 + 4 * (([60, 60, 600, 60] : List Int).length : Int) = q + k := by simp only [List.length_cons, List.length_nil]; omega
              rcases b3 with b3 | b3 | b3
              · cases b3
              · dsimp only at b3; omega
              · dsimp only at b3
                rw [e] at b3
                exact b3 (g2.trans soaTail_tims)
        · dsimp only at b3 b4 c3
          have e16 : grT y + 4 + 4 * (([60, 60, 600, 60] : List Int).length : Int) = grT y + 20 := by simp only [List.length_cons, List.length_nil]; omega
          rw [e16] at b3 b4 c3
          refine good _ (grT y + 20) (by rw [ht, hS]; dsimp only; rw [c3]) b3 (fun he => ?_) (fun he => ?_)
          · rw [hd, if_pos ⟨b, b', hne, he, by rw [← he, b4, soaTail_tims]⟩]
          · rw [hd, if_neg (fun h => he h.2.2.2.1)]; exact .inr rfl
    · refine bad ?_ ?_
      · rw [ht, tSoa]; dsimp only; rw [c]; dsimp only; rw [c']; exact times_bad _ (tNum_bad (by simp [hne]))
      · rw [hd]; right; rw [if_neg (fun h => hne h.2.2.1)]
  by_cases t16 : r.type = 16
  · have hd : dataG s r q k = if 0 < k ∧ numI (slc s q (q + 1)) = k - 1 then some ⟨r.name, r.type, r.ttl, r.addr, r.target, slc s (q + 1) (q + k), r.serial⟩ else none := by rw [dataG, if_neg t1, if_neg t2, if_neg t6, if_pos t16]
    have ht : tType W s k r ⟨q, false⟩ = (⟨r.name, r.type, r.ttl, r.addr, r.target, (tSome s (tNum W s 1 ⟨q, false⟩).1 (tNum W s 1 ⟨q, false⟩).2).1, r.serial⟩, (tSome s (tNum W s 1 ⟨q, false⟩).1 (tNum W s 1 ⟨q, false⟩).2).2) := by rw [tType, if_neg t1, if_neg t2, if_neg t6, if_pos t16]
    rcases tNum_ok hW hs (k := 1) (by simp) (t := ⟨q, false⟩) (fun _ => h0) with ⟨a, b⟩ | ⟨_, b, c⟩
    · refine bad (by rw [ht]; dsimp only; rw [tSome, if_pos (.inl a)]) ?_
      rw [hd]
      rcases b with b | b
      · cases b
      · dsimp only at b
        by_cases hk0 : 0 < k
        · left; omega
        · right; rw [if_neg (fun h => hk0 h.1)]
    · dsimp only at b c
      rw [c] at ht
      dsimp only at ht
      by_cases hlen : (s.length : Int) - (q + 1) < numI (slc s q (q + 1))
      · refine bad (by rw [ht]; dsimp only; rw [tSome, if_pos (.inr hlen)]) ?_
        rw [hd]
        by_cases hk0 : 0 < k ∧ numI (slc s q (q + 1)) = k - 1
        · left; omega
        · right; rw [if_neg hk0]
      · have hno : ¬ ((⟨q + 1, false⟩ : TS).bad = true ∨ (s.length : Int) - (⟨q + 1, false⟩ : TS).at_ < numI (slc s q (q + 1))) := by rintro (h | h); cases h; exact hlen h
        rw [tSome, if_neg hno] at ht
        dsimp only at ht
        refine good _ (q + 1 + numI (slc s q (q + 1))) ht (by omega) (fun he => ?_) (fun he => ?_)
        · have := (numI_bd (slc s q (q + 1))).1
          rw [hd, if_pos ⟨by omega, by omega⟩, he]
        · rw [hd, if_neg (fun h => he (by omega))]; exact .inr rfl
  · have hd : dataG s r q k = some ⟨r.name, r.type, r.ttl, r.addr, r.target, slc s q (q + k), r.serial⟩ := by rw [dataG, if_neg t1, if_neg t2, if_neg t6, if_neg t16]
    have ht : tType W s k r ⟨q, false⟩ = (⟨r.name, r.type, r.ttl, r.addr, r.target, (tSome s k ⟨q, false⟩).1, r.serial⟩, (tSome s k ⟨q, false⟩).2) := by rw [tType, if_neg t1, if_neg t2, if_neg t6, if_neg t16]
    by_cases hlen : (s.length : Int) - q < k
    · exact bad (by rw [ht]; dsimp only; rw [tSome, if_pos (.inr hlen)]) (.inl (by omega))
    · have hno : ¬ ((⟨q, false⟩ : TS).bad = true ∨ (s.length : Int) - (⟨q, false⟩ : TS).at_ < k) := by rintro (h | h); cases h; exact hlen h
      rw [tSome, if_neg hno] at ht
      dsimp only at ht
      exact good _ (q + k) ht (by omega) (fun _ => hd) (fun he => absurd rfl he)
theorem tHead_ok {W : Int → Int} (hW : ∀ x : Int, 0 ≤ x → x ≤ 4611686018427387904 → W x = x) {s : List UInt8} (hs : s.length ≤ 140737488355328) (p : Int) :
    ((tHead W s p).2.2.bad = true ∧ gR s p = none) ∨ (∃ nm to, getName s p = .ok nm to ∧ to + 10 ≤ s.length ∧ numI (slc s (to + 2) (to + 4)) = 1 ∧ tHead W s p = (headG s to nm, sizeG s to, ⟨to + 10, false⟩)) := by
  rcases tName_ok (s := s) (t := ⟨p, false⟩) with ⟨a, b⟩ | ⟨_, b, c⟩
  · left
    refine ⟨tNum_bad (tNum_bad (by simp [tNum_bad (W := W) (s := s) (k := 2) (tNum_bad (W := W) (s := s) (k := 2) a)])), ?_⟩
    rcases b with b | b
    · cases b
    · unfold gR
      cases hg : getName s p with
      | err e => rfl
      | ok nm to => dsimp only at b; rw [hg] at b; exact absurd rfl b
  dsimp only at b c
  have hok := gr_ok b
  have hr := getName_rng hok
  generalize hnm : grN (getName s p) = nm at *
  generalize hto : grT (getName s p) = to at *
  have gno : ¬ (to + 10 ≤ s.length ∧ numI (slc s (to + 2) (to + 4)) = 1 ∧ to + 10 + sizeG s to ≤ s.length) → gR s p = none := fun h => by
    unfold gR; rw [hok]; dsimp only; rw [if_neg h]
  have shape : tHead W s p = (⟨nm, (tNum W s 2 ⟨to, false⟩).1, (tNum W s 4 ⟨(tNum W s 2 (tNum W s 2 ⟨to, false⟩).2).2.at_, bif !decide ((tNum W s 2 (tNum W s 2 ⟨to, false⟩).2).1 = 1) then true else (tNum W s 2 (tNum W s 2 ⟨to, false⟩).2).2.bad⟩).1, 0, [], [], 0⟩,
      (tNum W s 2 (tNum W s 4 ⟨(tNum W s 2 (tNum W s 2 ⟨to, false⟩).2).2.at_, bif !decide ((tNum W s 2 (tNum W s 2 ⟨to, false⟩).2).1 = 1) then true else (tNum W s 2 (tNum W s 2 ⟨to, false⟩).2).2.bad⟩).2)) := by
    simp only [tHead, c]
  rcases tNum_ok hW hs (k := 2) (by simp) (t := ⟨to, false⟩) (fun _ => by dsimp only; omega) with ⟨a1, b1⟩ | ⟨_, b1, c1⟩
  · left
    refine ⟨by rw [shape]; exact tNum_bad (tNum_bad (by simp [tNum_bad (W := W) (s := s) (k := 2) a1])), gno (fun h => ?_)⟩
    rcases b1 with b1 | b1
    · cases b1
    · dsimp only at b1; omega
  dsimp only at b1 c1
  rw [c1] at shape
  dsimp only at shape
  rcases tNum_ok hW hs (k := 2) (by simp) (t := ⟨to + 2, false⟩) (fun _ => by dsimp only; omega) with ⟨a2, b2⟩ | ⟨_, b2, c2⟩
  · left
    refine ⟨by rw [shape]; exact tNum_bad (tNum_bad (by simp [a2])), gno (fun h => ?_)⟩
    rcases b2 with b2 | b2
    · cases b2
    · dsimp only at b2; omega
  dsimp only at b2 c2
  rw [c2] at shape
  dsimp only at shape
  have e4 : to + 2 + 2 = to + 4 := by omega
  rw [e4] at shape
  by_cases hcl : numI (slc s (to + 2) (to + 4)) = 1
  · simp only [hcl, decide_true, Bool.not_true, cond_false] at shape
    rcases tNum_ok hW hs (k := 4) (by simp) (t := ⟨to + 4, false⟩) (fun _ => by dsimp only; omega) with ⟨a3, b3⟩ | ⟨_, b3, c3⟩
    · left
      refine ⟨by rw [shape]; exact tNum_bad a3, gno (fun h => ?_)⟩
      rcases b3 with b3 | b3
      · cases b3
      · dsimp only at b3; omega
    dsimp only at b3 c3
    rw [c3] at shape
    dsimp only at shape
    have e8 : to + 4 + 4 = to + 8 := by omega
    rw [e8] at shape
    rcases tNum_ok hW hs (k := 2) (by simp) (t := ⟨to + 8, false⟩) (fun _ => by dsimp only; omega) with ⟨a5, b5⟩ | ⟨_, b5, c5⟩
    · left
      refine ⟨by rw [shape]; exact a5, gno (fun h => ?_)⟩
      rcases b5 with b5 | b5
      · cases b5
      · dsimp only at b5; omega
    dsimp only at b5 c5
    have e10 : to + 8 + 2 = to + 10 := by omega
    rw [e10] at b5 c5
    right
    refine ⟨nm, to, hok, b5, hcl, ?_⟩
    rw [shape, c5]; rfl
  · left
    refine ⟨by rw [shape]; exact tNum_bad (tNum_bad (by simp [hcl])), gno (fun h => hcl h.2.1)⟩
theorem sizeG_rng {s : List UInt8} {to : Int} (h0 : 0 ≤ to) (h : to + 10 ≤ s.length) : 0 ≤ sizeG s to ∧ sizeG s to < 65536 := by
  have := numI_bd (slc s (to + 8) (to + 10))
  rw [slc_len (by omega) (by omega) (by omega), show (to + 10 - (to + 8)).toNat = 2 by omega] at this
  have e2 : (256 : Int) ^ 2 = 65536 := by decide
  rw [e2] at this; exact this
/-- what is taken is what the document takes -/
theorem tAll_eq {W : Int → Int} (hW : ∀ x : Int, 0 ≤ x → x ≤ 4611686018427387904 → W x = x) {s : List UInt8} (hs : s.length ≤ 140737488355328) (p : Int) : fin (tAll W s p) = rrGet s p := by
  rcases tHead_ok hW hs p with ⟨a, b⟩ | ⟨nm, to, a, b, c, d⟩
  · rw [rrGet, b, tAll, if_pos a, fin, if_pos (.inl a)]
  · have hr := getName_rng a
    have hsz := sizeG_rng (s := s) (to := to) (by omega) b
    have hg : gR s p = if to + 10 ≤ s.length ∧ numI (slc s (to + 2) (to + 4)) = 1 ∧ to + 10 + sizeG s to ≤ s.length then
      (dataG s (headG s to nm) (to + 10) (sizeG s to)).bind fun r => if rrMay r = true then some (r, to + 10 + sizeG s to) else none else none := by unfold gR; rw [a]
    have hA : tAll W s p = tData W s (sizeG s to) (headG s to nm) ⟨to + 10, false⟩ := by rw [tAll, d]; rfl
    rw [hA]
    rcases tData_ok hW hs (k := sizeG s to) (q := to + 10) (r := headG s to nm) (by omega) b hsz with ⟨e, f⟩ | ⟨e, r', f, g⟩
    · have : gR s p = none := by
        rw [hg]
        rcases f with f | f
        · rw [if_neg (fun h => by omega)]
        · rw [f]; split <;> rfl
      rw [rrGet, this, fin, if_pos (.inl e)]
    · rw [g, rrGet, hg, if_pos ⟨b, c, e⟩, f, Option.bind_some]
      cases hm : rrMay r' with
      | true => rw [fin, if_neg (by simp [hm])]; simp
      | false => rw [fin, if_pos (.inr hm)]; simp
theorem got_len {s : List UInt8} : ∀ (n : Nat) (g : GS) (nm : List UInt8) (e : Int), getF n s g = some (.ok nm e) → 0 ≤ g.at_ → g.ls.all labOk = true → g.ls.length ≤ 8 → nm.length ≤ 72
  | 0, _, _, _, h, _, _, _ => by simp [getF] at h
  | n + 1, g, nm, e, h, h0, hl, h8 => by
    rcases getF_step h with h | ⟨g', h, h'⟩
    · obtain ⟨_, _, rfl, _⟩ := inv_ok h
      have := joinD_len hl
      omega
    · obtain ⟨_, b, c, d⟩ := stepG_lt h h0 hl h8
      exact got_len n g' nm e h' b c d
theorem grN_len (s : List UInt8) (p : Int) : (grN (getName s p)).length ≤ 72 := by
  cases h : getName s p with
  | err e => simp [grN]
  | ok nm to =>
    obtain ⟨n, hn⟩ := getName_gotF h
    exact got_len n _ nm to hn (getName_nn h) rfl (by simp)
theorem tHead_rng {W : Int → Int} (hW : ∀ x : Int, 0 ≤ x → x ≤ 4611686018427387904 → W x = x) {s : List UInt8} (hs : s.length ≤ 140737488355328) {p : Int} (h : (tHead W s p).2.2.bad = false) :
    (0 ≤ (tHead W s p).2.2.at_ ∧ (tHead W s p).2.2.at_ ≤ s.length) ∧ (0 ≤ (tHead W s p).2.1 ∧ (tHead W s p).2.1 < 65536) := by
  rcases tHead_ok hW hs p with ⟨a, b⟩ | ⟨nm, to, a, b, c, d⟩
  · rw [a] at h; cases h
  · have hr := getName_rng a
    have hz := sizeG_rng (s := s) (to := to) (by omega) b
    rw [d]; dsimp only
    exact ⟨⟨by omega, b⟩, hz⟩
theorem tData_len {W : Int → Int} {s : List UInt8} {k : Int} {r : RR} {t : TS} : (tData W s k r t).1.name = r.name ∧ (tData W s k r t).1.target.length ≤ max r.target.length 72 := by
  have h := grN_len s t.at_
  unfold tData tType
  repeat' split
  all_goals first | exact ⟨rfl, Nat.le_max_left _ _⟩ | (refine ⟨rfl, ?_⟩; simp only [tSoa, tName]; omega)

end Go.Proofs.Ytkjcmdgideddnaa
