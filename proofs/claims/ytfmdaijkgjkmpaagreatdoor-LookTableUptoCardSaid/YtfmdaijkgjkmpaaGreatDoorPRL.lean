/- Several texts in one (PRL). Their conditions are their own. -/

set_option linter.unusedVariables false
set_option linter.unusedSimpArgs false
namespace Go.Proofs.YtfmdaijkgjkmpaaGreatDoor
def byteOf (x : Int) : UInt8 := UInt8.ofNat (x % 256).toNat
theorem byteOf_toNat (x : Int) : ((byteOf x).toNat : Int) = x % 256 := by
  have h : (x % 256).toNat < 256 := by omega
  simp [byteOf, Nat.mod_eq_of_lt h]; omega
def beb : Int → Nat → List UInt8
  | _, 0 => []
  | x, n + 1 => beb (x / 256) n ++ [byteOf x]
@[simp] theorem beb_len : ∀ (n : Nat) (x : Int), (beb x n).length = n
  | 0, _ => rfl
  | n + 1, x => by simp [beb, beb_len n]

end Go.Proofs.YtfmdaijkgjkmpaaGreatDoor

set_option linter.unusedVariables false
set_option linter.unusedSimpArgs false
namespace Go.Proofs.YtfmdaijkgjkmpaaGreatDoor
def isL (b : UInt8) : Bool := (decide (97 ≤ b.toNat) && decide (b.toNat ≤ 122)) || (decide (48 ≤ b.toNat) && decide (b.toNat ≤ 57)) || decide (b.toNat = 45)
def labOk (l : List UInt8) : Bool := l.all isL && decide (1 ≤ l.length) && decide (l.length ≤ 8)
def split : List UInt8 → List (List UInt8)
  | [] => [[]]
  | c :: r => if c = 46 then [] :: split r else match split r with
    | [] => [[c]]
    | l :: ls => (c :: l) :: ls
def joinD : List (List UInt8) → List UInt8
  | [] => []
  | [l] => l
  | l :: m :: r => l ++ 46 :: joinD (m :: r)
def nmMay (s : List UInt8) : Bool := decide (s = []) || ((split s).all labOk && decide ((split s).length ≤ 8))
def lower (b : UInt8) : UInt8 := if 65 ≤ b.toNat ∧ b.toNat ≤ 90 then b + 32 else b
def fold (s : List UInt8) : List UInt8 := s.map lower
theorem split_ne (s : List UInt8) : split s ≠ [] := by
  cases s with
  | nil => simp [split]
  | cons c r =>
    simp only [split]
    split
    · simp
    · split <;> simp
theorem split_none : ∀ (s : List UInt8), (46 : UInt8) ∉ s → split s = [s]
  | [], _ => rfl
  | c :: r, h => by
    simp only [List.mem_cons, not_or] at h
    simp only [split, if_neg (Ne.symm h.1), split_none r h.2]
theorem split_cons : ∀ (a r : List UInt8), (46 : UInt8) ∉ a → split (a ++ 46 :: r) = a :: split r
  | [], r, _ => by simp [split]
  | c :: a, r, h => by
    simp only [List.mem_cons, not_or] at h
    simp only [List.cons_append, split, if_neg (Ne.symm h.1), split_cons a r h.2]
theorem joinD_cons (l : List UInt8) {r : List (List UInt8)} (h : r ≠ []) : joinD (l :: r) = l ++ 46 :: joinD r := by
  cases r with
  | nil => exact absurd rfl h
  | cons m r => rfl
theorem split_join : ∀ (ls : List (List UInt8)), ls ≠ [] → (∀ l ∈ ls, (46 : UInt8) ∉ l) → split (joinD ls) = ls
  | [], h, _ => absurd rfl h
  | [l], _, h => split_none l (h l (by simp))
  | l :: m :: r, _, h => by
    rw [joinD_cons l (by simp), split_cons _ _ (h l (by simp)), split_join (m :: r) (by simp) (fun x hx => h x (by simp only [List.mem_cons] at hx ⊢; exact .inr hx))]
theorem join_split : ∀ (s : List UInt8), joinD (split s) = s
  | [] => rfl
  | c :: r => by
    have ih := join_split r
    simp only [split]
    split
    · rename_i h; subst h; rw [joinD_cons [] (split_ne r), ih]; rfl
    · split
      · rename_i e; exact absurd e (split_ne r)
      · rename_i l ls e
        rw [e] at ih
        cases ls with
        | nil => simp only [joinD] at ih ⊢; rw [ih]
        | cons m ms => rw [joinD_cons _ (by simp)] at ih ⊢; rw [← ih]; rfl
theorem isL_dot : isL 46 = false := by decide
theorem labOk_dot {l : List UInt8} (h : labOk l = true) : (46 : UInt8) ∉ l := by
  simp only [labOk, Bool.and_eq_true, List.all_eq_true] at h
  intro hm
  have := h.1.1 _ hm
  rw [isL_dot] at this; cases this
theorem labOk_ne {l : List UInt8} (h : labOk l = true) : l ≠ [] := by
  simp only [labOk, Bool.and_eq_true, decide_eq_true_eq] at h
  intro e; subst e; simp at h
theorem labOk_len {l : List UInt8} (h : labOk l = true) : 1 ≤ l.length ∧ l.length ≤ 8 := by
  simp only [labOk, Bool.and_eq_true, decide_eq_true_eq] at h
  exact ⟨h.1.2, h.2⟩
theorem lower_isL {b : UInt8} (h : isL b = true) : lower b = b := by
  unfold lower
  rw [if_neg]
  simp only [isL, Bool.or_eq_true, Bool.and_eq_true, decide_eq_true_eq] at h
  omega
theorem fold_ok {l : List UInt8} (h : labOk l = true) : fold l = l := by
  simp only [labOk, Bool.and_eq_true, List.all_eq_true] at h
  unfold fold
  conv => rhs; rw [← List.map_id l]
  exact List.map_congr_left fun b hb => lower_isL (h.1.1 b hb)
/-- a name's labels -/
def labs (s : List UInt8) : List (List UInt8) := if s = [] then [] else split s
theorem joinD_labs (s : List UInt8) : joinD (labs s) = s := by
  unfold labs; split
  · rename_i h; rw [h]; rfl
  · exact join_split s
theorem nmMay_labs {s : List UInt8} (h : nmMay s = true) : (labs s).all labOk = true ∧ (labs s).length ≤ 8 := by
  unfold labs
  simp only [nmMay, Bool.or_eq_true, decide_eq_true_eq, Bool.and_eq_true] at h
  split
  · simp
  · rename_i hs; exact (h.resolve_left hs)
theorem joinD_ne {ls : List (List UInt8)} (h : ls ≠ []) (h1 : ls.all labOk = true) : joinD ls ≠ [] := by
  cases ls with
  | nil => exact absurd rfl h
  | cons l r =>
    simp only [List.all_cons, Bool.and_eq_true] at h1
    have hl := labOk_ne h1.1
    cases r with
    | nil => exact hl
    | cons m r => simp [joinD, hl]
theorem labs_join {ls : List (List UInt8)} (h1 : ls.all labOk = true) : labs (joinD ls) = ls := by
  cases ls with
  | nil => rfl
  | cons l r =>
    unfold labs
    rw [if_neg (joinD_ne (by simp) h1), split_join _ (by simp)]
    intro x hx
    exact labOk_dot (List.all_eq_true.1 h1 x hx)
theorem nmMay_join {ls : List (List UInt8)} (h1 : ls.all labOk = true) (h2 : ls.length ≤ 8) : nmMay (joinD ls) = true := by
  cases ls with
  | nil => rfl
  | cons l r =>
    have := labs_join h1
    unfold labs at this
    rw [if_neg (joinD_ne (by simp) h1)] at this
    simp only [nmMay, this, h1, h2, decide_true, Bool.and_true, Bool.or_true]
theorem joinD_len : ∀ {ls : List (List UInt8)}, ls.all labOk = true → ls.length ≤ (joinD ls).length ∧ (joinD ls).length ≤ 9 * ls.length
  | [], _ => by simp [joinD]
  | [l], h => by
    simp only [List.all_cons, Bool.and_eq_true] at h
    have := labOk_len h.1
    simp [joinD]; omega
  | l :: m :: r, h => by
    have h' := h
    simp only [List.all_cons, Bool.and_eq_true] at h
    have := labOk_len h.1
    have ih := joinD_len (ls := m :: r) (by simp only [List.all_cons, Bool.and_eq_true]; exact h.2)
    rw [joinD_cons l (by simp)]
    simp only [List.length_append, List.length_cons] at *
    omega
theorem nmMay_len {s : List UInt8} (h : nmMay s = true) : s.length ≤ 72 := by
  have h1 := nmMay_labs h
  have := (joinD_len h1.1).2
  rw [joinD_labs] at this
  omega

/-- the first place of a byte, -1 where there is none -/
def ixb : List UInt8 → UInt8 → Int
  | [], _ => -1
  | b :: l, c => if b = c then 0 else if ixb l c = -1 then -1 else ixb l c + 1
theorem ixb_lo (c : UInt8) : ∀ (s : List UInt8), -1 ≤ ixb s c
  | [] => by simp [ixb]
  | b :: l => by simp only [ixb]; have := ixb_lo c l; split <;> (try split) <;> omega
theorem ixb_hi (c : UInt8) : ∀ (s : List UInt8), ixb s c < s.length
  | [] => by simp [ixb]
  | b :: l => by simp only [ixb, List.length_cons]; have := ixb_hi c l; split <;> (try split) <;> omega
/-- what stands ahead of the first such byte, what behind it, was there one -/
def cutB (c : UInt8) (s : List UInt8) : List UInt8 × List UInt8 × Bool :=
  if 0 ≤ ixb s c then (s.take (ixb s c).toNat, s.drop ((ixb s c) + 1).toNat, true) else (s, [], false)
theorem ixb_none (c : UInt8) : ∀ {s : List UInt8}, ixb s c < 0 → c ∉ s
  | [], _ => by simp
  | b :: l, h => by
    simp only [ixb] at h
    have := ixb_lo c l
    by_cases hb : b = c
    · simp [hb] at h
    · simp only [hb, if_false] at h
      have h2 : ixb l c < 0 := by split at h <;> omega
      have := ixb_none c h2
      simp only [List.mem_cons, not_or]
      exact ⟨fun e => hb e.symm, this⟩
theorem ixb_some (c : UInt8) : ∀ {s : List UInt8}, 0 ≤ ixb s c → s = s.take (ixb s c).toNat ++ c :: s.drop (ixb s c + 1).toNat ∧ c ∉ s.take (ixb s c).toNat
  | [], h => by simp [ixb] at h
  | b :: l, h => by
    simp only [ixb] at h ⊢
    have := ixb_lo c l
    by_cases hb : b = c
    · simp [hb]
    · simp only [hb, if_false] at h ⊢
      by_cases h2 : ixb l c = -1
      · simp [h2] at h
      · simp only [h2, if_false] at h ⊢
        have hi : 0 ≤ ixb l c := by omega
        obtain ⟨e1, e2⟩ := ixb_some c hi
        have n1 : (ixb l c + 1).toNat = (ixb l c).toNat + 1 := by omega
        have n2 : (ixb l c + 1 + 1).toNat = (ixb l c + 1).toNat + 1 := by omega
        rw [n2, n1, List.take_succ_cons, List.drop_succ_cons, ← n1]
        refine ⟨by rw [List.cons_append]; exact congrArg _ e1, ?_⟩
        simp only [List.mem_cons, not_or]
        exact ⟨fun e => hb e.symm, e2⟩
theorem split_cut (s : List UInt8) : split s = if (cutB 46 s).2.2 = true then (cutB 46 s).1 :: split (cutB 46 s).2.1 else [s] := by
  unfold cutB
  by_cases h : 0 ≤ ixb s 46
  · obtain ⟨e1, e2⟩ := ixb_some 46 h
    simp only [h, if_true]
    conv => lhs; rw [e1]
    exact split_cons _ _ e2
  · simp only [h, if_false]
    exact split_none s (ixb_none 46 (by omega))
theorem cut_len (c : UInt8) (s : List UInt8) : (cutB c s).1.length + (cutB c s).2.1.length + (if (cutB c s).2.2 = true then 1 else 0) = s.length := by
  unfold cutB
  by_cases h : 0 ≤ ixb s c
  · have := ixb_hi c s
    simp only [h, if_true, List.length_take, List.length_drop]; omega
  · simp [h]
/-- is the rest of a name as it should be, behind so many labels? -/
def nmF (k : Int) (s : List UInt8) (more : Bool) : Bool := !more || ((split s).all labOk && decide (k + (split s).length ≤ 8))
theorem nmMay_F (s : List UInt8) : nmMay s = nmF 0 s (!decide (s = [])) := by
  unfold nmMay nmF
  have : ((0 : Int) + ((split s).length : Nat) ≤ 8) ↔ (split s).length ≤ 8 := by omega
  simp only [this]
  cases decide (s = []) <;> simp
theorem nmF_step (k : Int) (s : List UInt8) : nmF k s true = (labOk (cutB 46 s).1 && decide (k + 1 ≤ 8) && nmF (k + 1) (cutB 46 s).2.1 (cutB 46 s).2.2) := by
  simp only [nmF]
  rw [split_cut s]
  have hc : (cutB 46 s).2.2 = false → (cutB 46 s).1 = s := by unfold cutB; split <;> simp
  cases h : (cutB 46 s).2.2
  · simp [hc h]
  · simp only [if_true, List.all_cons, List.length_cons, Bool.not_true, Bool.false_or]
    have : (split (cutB 46 s).2.1).length ≠ 0 := by simpa using split_ne (cutB 46 s).2.1
    rw [Bool.eq_iff_iff]
    simp only [Bool.and_eq_true, decide_eq_true_eq]
    constructor
    · rintro ⟨⟨a, b⟩, c⟩; exact ⟨⟨a, by omega⟩, b, by omega⟩
    · rintro ⟨⟨a, _⟩, b, c⟩; exact ⟨⟨a, b⟩, by omega⟩

theorem fold_step {s xs : List UInt8} {i : Int} (h0 : 0 ≤ i) (h1 : i < s.length) (hl : xs.length = s.length) (hx : xs = (s.take i.toNat).map lower ++ s.drop i.toNat) :
    xs.set i.toNat (lower (xs.getD i.toNat 0)) = (s.take (i + 1).toNat).map lower ++ s.drop (i + 1).toNat := by
  obtain ⟨k, rfl⟩ := Int.eq_ofNat_of_zero_le h0
  have hk : k < s.length := by omega
  have e1 : ((k : Int) + 1).toNat = k + 1 := by omega
  rw [e1, Int.toNat_natCast]
  rw [Int.toNat_natCast] at hx
  have hlen : ((s.take k).map lower).length = k := by simp; omega
  have hg : xs.getD k 0 = s[k] := by
    rw [hx, List.getD_eq_getElem?_getD, List.getElem?_append_right (by omega), hlen, Nat.sub_self, List.drop_eq_getElem_cons hk]; rfl
  rw [hg, hx, List.set_append_right _ _ (by omega), hlen, Nat.sub_self, List.drop_eq_getElem_cons hk, List.set_cons_zero, List.take_succ_eq_append_getElem hk, List.map_append, List.append_assoc]
  rfl

/-- texts, one byte between each two -/
def joinB (c : UInt8) : List (List UInt8) → List UInt8
  | [] => []
  | l :: r => l ++ r.flatMap fun x => c :: x
theorem joinB_dot : ∀ ls : List (List UInt8), joinB 46 ls = joinD ls
  | [] => rfl
  | [l] => by simp [joinB, joinD]
  | l :: m :: r => by
    have := joinB_dot (m :: r)
    simp only [joinB] at this
    simp only [joinB, joinD, ← this, List.flatMap_cons]
    simp
theorem joinB_app (c : UInt8) {ls : List (List UInt8)} (h : ls ≠ []) (x : List UInt8) : joinB c (ls ++ [x]) = joinB c ls ++ [c] ++ x := by
  cases ls with
  | nil => exact absurd rfl h
  | cons l r => simp [joinB]
theorem joinB_step (c : UInt8) {ls : List (List UInt8)} {k : Nat} (h : k + 1 < ls.length) : joinB c (ls.take (k + 2)) = joinB c (ls.take (k + 1)) ++ [c] ++ (ls.drop 1).getD k [] := by
  rw [List.take_succ_eq_append_getElem h, joinB_app c (by intro e; have := congrArg List.length e; rw [List.length_take, List.length_nil] at this; omega)]
  congr 1
  rw [List.getD_eq_getElem?_getD, List.getElem?_drop, Nat.add_comm 1 k, List.getElem?_eq_getElem h]; rfl
theorem joinB_len (c : UInt8) : ∀ ls : List (List UInt8), (joinB c ls).length ≤ ls.flatten.length + ls.length
  | [] => by simp [joinB]
  | l :: r => by
    have : ∀ r : List (List UInt8), (r.flatMap fun x => c :: x).length = r.flatten.length + r.length := fun r => by
      induction r with
      | nil => rfl
      | cons x r ih => simp only [List.flatMap_cons, List.length_append, List.length_cons, ih, List.flatten_cons]; omega
    simp only [joinB, List.length_append, this, List.flatten_cons, List.length_cons]; omega
theorem flat_take (ls : List (List UInt8)) (k : Nat) : (ls.take k).flatten.length ≤ ls.flatten.length := by
  have : ls.flatten = (ls.take k).flatten ++ (ls.drop k).flatten := by rw [← List.flatten_append, List.take_append_drop]
  rw [this, List.length_append]; omega
theorem flat_getD (ls : List (List UInt8)) (k : Nat) : (ls.getD k []).length ≤ ls.flatten.length := by
  by_cases h : k < ls.length
  · have : ls.flatten = (ls.take k).flatten ++ (ls.getD k [] ++ (ls.drop (k + 1)).flatten) := by
      rw [List.getD_eq_getElem?_getD, List.getElem?_eq_getElem h, Option.getD_some, ← List.flatten_cons, ← List.drop_eq_getElem_cons h, ← List.flatten_append, List.take_append_drop]
    rw [this, List.length_append, List.length_append]; omega
  · rw [List.getD_eq_getElem?_getD, List.getElem?_eq_none (by omega)]; simp
theorem flat_step {ls : List (List UInt8)} {i : Int} (h0 : 0 ≤ i) (h1 : i < ls.length) : (ls.take (i + 1).toNat).flatten.length = (ls.take i.toNat).flatten.length + (ls.getD i.toNat []).length := by
  have e : (i + 1).toNat = i.toNat + 1 := by omega
  have h : i.toNat < ls.length := by omega
  rw [e, List.take_succ_eq_append_getElem h, List.flatten_append, List.length_append, List.getD_eq_getElem?_getD, List.getElem?_eq_getElem h]; simp

end Go.Proofs.YtfmdaijkgjkmpaaGreatDoor

set_option linter.unusedVariables false
set_option linter.unusedSimpArgs false
namespace Go.Proofs.YtfmdaijkgjkmpaaGreatDoor
structure Kn where
  name : List UInt8
  pos : Int
deriving DecidableEq
def kfind : List Kn → List UInt8 → Option Int
  | [], _ => none
  | k :: r, s => if k.name = s then some k.pos else kfind r s
def knOk (k : Kn) : Bool := !decide (k.name = []) && nmMay k.name && decide (0 ≤ k.pos) && decide (k.pos < 16384)
def putL (known : List Kn) (at_ : Int) : List (List UInt8) → List UInt8 → List Kn → List UInt8 × List Kn
  | [], out, all => (out ++ [0], all)
  | l :: r, out, all => match kfind known (joinD (l :: r)) with
    | some t => (out ++ beb (49152 + t) 2, all)
    | none => putL known at_ r (out ++ UInt8.ofNat l.length :: l) (if at_ + out.length < 16384 then all ++ [⟨joinD (l :: r), at_ + out.length⟩] else all)
def putName (at_ : Int) (ks : List Kn) (nm : List UInt8) : Option (List UInt8 × List Kn) :=
  if (ks.all knOk && decide (0 ≤ at_) && decide (at_ ≤ 65535) && nmMay nm) = true then some (putL ks at_ (labs nm) [] ks) else none
/-- how a name that is read comes out -/
inductive GR where
  | err (e : Int)
  | ok (name : List UInt8) (to : Int)
deriving DecidableEq
structure GS where
  at_ : Int
  row : Int
  fin : Int
  ls : List (List UInt8)
def slc (s : List UInt8) (i j : Int) : List UInt8 := (s.take j.toNat).drop i.toNat
def stepG (s : List UInt8) (g : GS) : GR ⊕ GS :=
  if (s.length : Int) ≤ g.at_ then .inl (.err 301) else
  let k : Int := (s.getD g.at_.toNat 0).toNat
  if k = 0 then .inl (.ok (joinD g.ls) (if g.fin < 0 then g.at_ + 1 else g.fin)) else
  if k ≤ 8 then
    if (s.length : Int) - k < g.at_ + 1 then .inl (.err 301) else
    let t := fold (slc s (g.at_ + 1) (g.at_ + 1 + k))
    if labOk t = false ∨ g.ls.length = 8 then .inl (.err 300) else .inr ⟨g.at_ + 1 + k, g.row, g.fin, g.ls ++ [t]⟩
  else if 192 ≤ k then
    if (s.length : Int) ≤ g.at_ + 1 then .inl (.err 301) else
    let to := k * 256 + (s.getD (g.at_ + 1).toNat 0).toNat - 49152
    if g.row ≤ to then .inl (.err 300) else .inr ⟨to, to, if g.fin < 0 then g.at_ + 2 else g.fin, g.ls⟩
  else .inl (.err 300)
def getF : Nat → List UInt8 → GS → Option GR
  | 0, _, _ => none
  | n + 1, s, g => match stepG s g with
    | .inl r => some r
    | .inr g' => getF n s g'
def Got (s : List UInt8) (g : GS) (r : GR) : Prop := ∃ n, getF n s g = some r
theorem getF_more {s : List UInt8} {r : GR} : ∀ {n : Nat} {g : GS} (m : Nat), getF n s g = some r → n ≤ m → getF m s g = some r
  | 0, _, _, h, _ => by simp [getF] at h
  | n + 1, g, 0, _, h => by omega
  | n + 1, g, m + 1, h, hl => by
    simp only [getF] at h ⊢
    cases hs : stepG s g with
    | inl r => rw [hs] at h; exact h
    | inr g' => rw [hs] at h; exact getF_more m h (by omega)
theorem Got.det {s : List UInt8} {g : GS} {r r' : GR} (h : Got s g r) (h' : Got s g r') : r = r' := by
  obtain ⟨n, h⟩ := h; obtain ⟨m, h'⟩ := h'
  have a := getF_more (max n m) h (by omega)
  have b := getF_more (max n m) h' (by omega)
  rw [a] at b; exact Option.some.inj b
theorem Got.stop {s : List UInt8} {g : GS} {r : GR} (h : stepG s g = .inl r) : Got s g r := ⟨1, by simp [getF, h]⟩
theorem Got.step {s : List UInt8} {g g' : GS} {r : GR} (h : stepG s g = .inr g') (k : Got s g' r) : Got s g r := by
  obtain ⟨n, k⟩ := k; exact ⟨n + 1, by simp [getF, h, k]⟩
abbrev GS.of (p : Int) : GS := ⟨p, p, -1, []⟩
/-- what stands at a place: labels, and where they end -/
inductive Rd (s : List UInt8) : Nat → Nat → List (List UInt8) → Nat → Prop where
  | nil {row p : Nat} (h : s[p]? = some 0) : Rd s row p [] (p + 1)
  | lab {row p e : Nat} {l : List UInt8} {r : List (List UInt8)} (hk : s[p]? = some (UInt8.ofNat l.length)) (hl : ∀ i, i < l.length → s[p + 1 + i]? = l[i]?) (hs : labOk l = true) (k : Rd s row (p + 1 + l.length) r e) : Rd s row p (l :: r) e
  | ptr {row p t e : Nat} {ls : List (List UInt8)} (h1 : s[p]? = some (byteOf ((49152 + t) / 256))) (h2 : s[p + 1]? = some (byteOf (49152 + t))) (ht : t < row) (hb : t < 16384) (k : Rd s t t ls e) : Rd s row p ls (p + 2)
theorem Rd.more {s : List UInt8} (x : List UInt8) {row p e : Nat} {ls : List (List UInt8)} (h : Rd s row p ls e) : Rd (s ++ x) row p ls e := by
  have get : ∀ {i : Nat} {b : UInt8}, s[i]? = some b → (s ++ x)[i]? = some b := fun {i b} h => by
    rw [List.getElem?_append_left (List.getElem?_eq_some_iff.1 h).1]; exact h
  induction h with
  | nil h => exact .nil (get h)
  | lab hk hl hs _ ih => exact .lab (get hk) (fun i hi => by have := hl i hi; rw [List.getElem?_eq_getElem hi] at this ⊢; exact get this) hs ih
  | ptr h1 h2 ht hb _ ih => exact .ptr (get h1) (get h2) ht hb ih
theorem Rd.row {s : List UInt8} {row row' p e : Nat} {ls : List (List UInt8)} (h : Rd s row p ls e) (hr : row ≤ row') : Rd s row' p ls e := by
  induction h generalizing row' with
  | nil h => exact .nil h
  | lab hk hl hs _ ih => exact .lab hk hl hs (ih hr)
  | ptr h1 h2 ht hb k _ => exact .ptr h1 h2 (Nat.lt_of_lt_of_le ht hr) hb k
theorem Rd.lt {s : List UInt8} {row p e : Nat} {ls : List (List UInt8)} (h : Rd s row p ls e) : p < s.length := by
  cases h with
  | nil h => exact (List.getElem?_eq_some_iff.1 h).1
  | lab hk _ _ _ => exact (List.getElem?_eq_some_iff.1 hk).1
  | ptr h1 _ _ _ _ => exact (List.getElem?_eq_some_iff.1 h1).1
theorem getD_of {s : List UInt8} {p : Nat} {b : UInt8} (h : s[p]? = some b) : s.getD p 0 = b := by rw [List.getD_eq_getElem?_getD, h]; rfl
theorem slc_of {s l : List UInt8} {p : Nat} (hl : ∀ i, i < l.length → s[p + i]? = l[i]?) (_ : p + l.length ≤ s.length) : slc s p (p + l.length : Nat) = l := by
  unfold slc
  apply List.ext_getElem?
  intro i
  simp only [Int.toNat_natCast]
  rw [List.getElem?_drop, List.getElem?_take]
  split
  · exact hl i (by omega)
  · exact (List.getElem?_eq_none (by omega)).symm
theorem Rd.got {s : List UInt8} {row p e : Nat} {ls : List (List UInt8)} (h : Rd s row p ls e) : ∀ (fin : Int) (acc : List (List UInt8)), acc.length + ls.length ≤ 8 →
    Got s ⟨p, row, fin, acc⟩ (.ok (joinD (acc ++ ls)) (if fin < 0 then (e : Int) else fin)) := by
  induction h with
  | @nil row p h =>
    intro fin acc ha
    have hp : p < s.length := (List.getElem?_eq_some_iff.1 h).1
    refine .stop ?_
    unfold stepG
    simp only [Int.toNat_natCast, getD_of h]
    rw [if_neg (by omega), if_pos (by rfl)]
    simp
  | @lab row p e l r hk hl hs k ih =>
    intro fin acc ha
    have hp : p < s.length := (List.getElem?_eq_some_iff.1 hk).1
    have hlen := labOk_len hs
    have hk2 : ((UInt8.ofNat l.length).toNat : Int) = l.length := by simp; omega
    have hend : p + 1 + l.length ≤ s.length := by
      have := hl (l.length - 1) (by omega)
      rw [List.getElem?_eq_getElem (l := l) (by omega)] at this
      have := (List.getElem?_eq_some_iff.1 this).1
      omega
    have hsl : fold (slc s ((p : Int) + 1) ((p : Int) + 1 + (l.length : Int))) = l := by
      have e1 : ((p : Int) + 1) = ((p + 1 : Nat) : Int) := by omega
      have e2 : ((p : Int) + 1 + (l.length : Int)) = ((p + 1 + l.length : Nat) : Int) := by omega
      rw [e1, show ((p + 1 : Nat) : Int) + (l.length : Int) = ((p + 1 + l.length : Nat) : Int) by omega, slc_of hl hend, fold_ok hs]
    simp only [List.length_cons] at ha
    refine .step (g' := ⟨((p + 1 + l.length : Nat) : Int), row, fin, acc ++ [l]⟩) ?_ ?_
    · unfold stepG
      simp only [Int.toNat_natCast, getD_of hk, hk2, hsl]
      rw [if_neg (by omega), if_neg (by omega), if_pos (by omega), if_neg (by omega), if_neg (fun h => by rcases h with h | h; (rw [hs] at h; cases h); omega)]
      simp
    · have := ih fin (acc ++ [l]) (by simp; omega)
      simpa using this
  | @ptr row p t e ls h1 h2 ht hb k ih =>
    intro fin acc ha
    have hp : p + 1 < s.length := (List.getElem?_eq_some_iff.1 h2).1
    have e1 : (((byteOf ((49152 + t) / 256)).toNat : Nat) : Int) = (49152 + t) / 256 := by rw [byteOf_toNat]; omega
    have e2 : (((byteOf (49152 + t)).toNat : Nat) : Int) = (49152 + t) % 256 := byteOf_toNat _
    refine .step (g' := ⟨(t : Int), (t : Int), if fin < 0 then (p : Int) + 2 else fin, acc⟩) ?_ ?_
    · unfold stepG
      simp only [Int.toNat_natCast, getD_of h1, show ((p : Int) + 1).toNat = p + 1 by omega, getD_of h2, e1, e2]
      rw [if_neg (by omega), if_neg (by omega), if_neg (by omega), if_pos (by omega), if_neg (by omega)]
      have e3 : ((49152 + (t : Int)) / 256 * 256 + (49152 + (t : Int)) % 256 - 49152) = t := by omega
      rw [e3, if_neg (by omega)]
    · have := ih (if fin < 0 then (p : Int) + 2 else fin) acc ha
      have h3 : (if (if fin < 0 then (p : Int) + 2 else fin) < 0 then (e : Int) else (if fin < 0 then (p : Int) + 2 else fin)) = (if fin < 0 then ((p + 2 : Nat) : Int) else fin) := by
        split
        · rw [if_neg (by omega)]; omega
        · rfl
      rw [h3] at this
      exact this
/-- what is known is there -/
def Good (s : List UInt8) (ks : List Kn) : Prop := ∀ k ∈ ks, knOk k = true ∧ ∃ e, Rd s k.pos.toNat k.pos.toNat (labs k.name) e
theorem Good.more {s : List UInt8} {ks : List Kn} (h : Good s ks) (x : List UInt8) : Good (s ++ x) ks := fun k hk => by
  obtain ⟨h1, e, h2⟩ := h k hk; exact ⟨h1, e, h2.more x⟩
theorem kfind_mem {ks : List Kn} {s : List UInt8} {t : Int} (h : kfind ks s = some t) : ⟨s, t⟩ ∈ ks := by
  induction ks with
  | nil => simp [kfind] at h
  | cons k r ih =>
    simp only [kfind] at h
    split at h
    · rename_i e; subst e; simp only [Option.some.injEq] at h; subst h; exact List.mem_cons_self
    · exact List.mem_cons_of_mem _ (ih h)
/-- a name that is written behind a text can be read there, and all that is known then -/
theorem putL_good (s : List UInt8) (ks : List Kn) (hg : Good s ks) : ∀ (ls : List (List UInt8)) (out : List UInt8) (all : List Kn) (acc : List Kn), ls.all labOk = true → ls.length ≤ 8 →
    (∀ s', Good (s ++ out ++ s') all ∨ True) →
    ∃ w added, putL ks s.length ls out all = (out ++ w, all ++ added) ∧ (∀ z, Rd (s ++ out ++ w ++ z) s.length (s.length + out.length) ls (s.length + out.length + w.length)) ∧
      (∀ k ∈ added, knOk k = true ∧ s.length ≤ k.pos.toNat ∧ ∀ z, ∃ e, Rd (s ++ out ++ w ++ z) s.length k.pos.toNat (labs k.name) e)
  | [], out, all, acc, _, _, _ => by
    refine ⟨[0], [], by simp [putL], fun z => ?_, by simp⟩
    have : (s ++ out ++ [0] ++ z)[s.length + out.length]? = some 0 := by
      rw [List.append_assoc, List.getElem?_append_right (by simp)]; simp
    exact .nil this
  | l :: r, out, all, acc, h1, h2, h3 => by
    have h1' := h1
    simp only [List.all_cons, Bool.and_eq_true] at h1
    simp only [List.length_cons] at h2
    have hlen := labOk_len h1.1
    simp only [putL]
    cases hf : kfind ks (joinD (l :: r)) with
    | some t =>
      obtain ⟨g1, e, g2⟩ := hg _ (kfind_mem hf)
      simp only [labs_join h1'] at g2
      simp only [knOk, Bool.and_eq_true, decide_eq_true_eq] at g1
      have hlt := g2.lt
      refine ⟨beb (49152 + t) 2, [], by simp, fun z => ?_, by simp⟩
      have hb : beb (49152 + t) 2 = [byteOf ((49152 + t) / 256), byteOf (49152 + t)] := by simp [beb]
      have ht : ((t.toNat : Nat) : Int) = t := by omega
      have a1 : (s ++ out ++ beb (49152 + t) 2 ++ z)[s.length + out.length]? = some (byteOf ((49152 + (t.toNat : Nat)) / 256)) := by
        rw [List.append_assoc, List.getElem?_append_right (by simp), hb, ht]; simp
      have a2 : (s ++ out ++ beb (49152 + t) 2 ++ z)[s.length + out.length + 1]? = some (byteOf (49152 + (t.toNat : Nat))) := by
        rw [List.append_assoc, List.getElem?_append_right (by simp), hb, ht]; simp
      rw [beb_len]
      refine .ptr (e := e) a1 a2 hlt (by omega) ?_
      · have := (g2.more (out ++ beb (49152 + t) 2 ++ z))
        simpa [List.append_assoc] using this
    | none =>
      simp only
      obtain ⟨w, added, e1, e2, e3⟩ := putL_good s ks hg r (out ++ UInt8.ofNat l.length :: l) (if (s.length : Int) + out.length < 16384 then all ++ [⟨joinD (l :: r), (s.length : Int) + out.length⟩] else all) acc h1.2 (by omega) (fun _ => .inr trivial)
      have base : ∀ z, Rd (s ++ out ++ (UInt8.ofNat l.length :: l ++ w) ++ z) s.length (s.length + out.length) (l :: r) (s.length + out.length + (UInt8.ofNat l.length :: l ++ w).length) := fun z => by
        have k := e2 z
        have ea : s ++ (out ++ UInt8.ofNat l.length :: l) ++ w ++ z = s ++ out ++ (UInt8.ofNat l.length :: l ++ w) ++ z := by simp
        have eb : s.length + (out ++ UInt8.ofNat l.length :: l).length = s.length + out.length + 1 + l.length := by simp; omega
        have ec : s.length + out.length + 1 + l.length + w.length = s.length + out.length + (UInt8.ofNat l.length :: l ++ w).length := by simp; omega
        rw [ea, eb, ec] at k
        refine .lab ?_ ?_ h1.1 k
        · rw [List.append_assoc, List.getElem?_append_right (by simp)]; simp
        · intro i hi
          rw [List.append_assoc, List.getElem?_append_right (by simp; omega)]
          have : s.length + out.length + 1 + i - (s ++ out).length = i + 1 := by simp; omega
          rw [this]
          simp only [List.cons_append, List.getElem?_cons_succ, List.append_assoc]
          rw [List.getElem?_append_left hi]
      by_cases hp : (s.length : Int) + out.length < 16384
      · rw [if_pos hp] at e1
        refine ⟨UInt8.ofNat l.length :: l ++ w, ⟨joinD (l :: r), (s.length : Int) + out.length⟩ :: added, ?_, base, ?_⟩
        · rw [if_pos hp, e1]; simp
        · intro k hk
          rcases List.mem_cons.1 hk with rfl | hk
          · refine ⟨?_, by simp only; omega, fun z => ?_⟩
            · simp only [knOk, nmMay_join h1' (by simp; omega), joinD_ne (by simp) h1', Bool.and_eq_true, decide_eq_true_eq]
              refine ⟨⟨by simp, by omega⟩, hp⟩
            · simp only [labs_join h1']
              have := base z
              rw [show ((s.length : Int) + out.length).toNat = s.length + out.length by omega]
              exact ⟨_, this⟩
          · obtain ⟨f1, f2, f3⟩ := e3 k hk
            refine ⟨f1, f2, fun z => ?_⟩
            have := f3 z
            have ea : s ++ (out ++ UInt8.ofNat l.length :: l) ++ w ++ z = s ++ out ++ (UInt8.ofNat l.length :: l ++ w) ++ z := by simp
            rw [ea] at this; exact this
      · rw [if_neg hp] at e1
        refine ⟨UInt8.ofNat l.length :: l ++ w, added, ?_, base, ?_⟩
        · rw [if_neg hp, e1]; simp
        · intro k hk
          obtain ⟨f1, f2, f3⟩ := e3 k hk
          refine ⟨f1, f2, fun z => ?_⟩
          have := f3 z
          have ea : s ++ (out ++ UInt8.ofNat l.length :: l) ++ w ++ z = s ++ out ++ (UInt8.ofNat l.length :: l ++ w) ++ z := by simp
          rw [ea] at this; exact this
/-- a name behind a text: it comes back, and all that is known is there -/
theorem putName_good {s : List UInt8} {ks ks' : List Kn} {nm t : List UInt8} (hg : Good s ks) (h : putName s.length ks nm = some (t, ks')) :
    ∃ added, ks' = ks ++ added ∧ Good (s ++ t) ks' ∧ ∀ z, Rd (s ++ t ++ z) s.length s.length (labs nm) (s.length + t.length) := by
  unfold putName at h
  split at h
  · rename_i hc
    simp only [Bool.and_eq_true] at hc
    have hl := nmMay_labs hc.2
    obtain ⟨w, added, e1, e2, e3⟩ := putL_good s ks hg (labs nm) [] ks [] hl.1 hl.2 (fun _ => .inr trivial)
    simp only [Option.some.injEq] at h
    rw [e1] at h
    simp only [List.nil_append, Prod.mk.injEq] at h
    obtain ⟨rfl, rfl⟩ := h
    refine ⟨added, rfl, ?_, fun z => by have := e2 z; simpa using this⟩
    intro k hk
    rcases List.mem_append.1 hk with hk | hk
    · exact hg.more w k hk
    · obtain ⟨f1, f2, f3⟩ := e3 k hk
      refine ⟨f1, ?_⟩
      obtain ⟨e, f3⟩ := f3 []
      exact ⟨e, by have := f3.row f2; simpa using this⟩
  · cases h

end Go.Proofs.YtfmdaijkgjkmpaaGreatDoor

set_option linter.unusedVariables false
set_option linter.unusedSimpArgs false
namespace Go.Proofs.YtfmdaijkgjkmpaaGreatDoor
structure RR where
  name : List UInt8
  type : Int
  ttl : Int
  addr : Int
  target : List UInt8
  text : List UInt8
  serial : Int
deriving DecidableEq
def word (x : Int) : Bool := decide (0 ≤ x) && decide (x ≤ 4294967295)
def isName (t : Int) : Bool := decide (t = 2) || decide (t = 5) || decide (t = 12)
def rrBody (r : RR) : Bool :=
  if r.type = 1 then decide (r.target = []) && decide (r.text = []) && decide (r.serial = 0) && word r.addr
  else if isName r.type then decide (r.addr = 0) && decide (r.text = []) && decide (r.serial = 0) && nmMay r.target
  else if r.type = 6 then decide (r.addr = 0) && decide (r.text = []) && nmMay r.target && word r.serial
  else if r.type = 16 ∨ r.type = 49 then decide (r.addr = 0) && decide (r.target = []) && decide (r.serial = 0) && decide (r.text.length ≤ 64)
  else false
def rrMay (r : RR) : Bool := rrBody r && nmMay r.name && decide (0 ≤ r.ttl) && decide (r.ttl ≤ 1048576)
def soaTail : List UInt8 := beb 60 4 ++ beb 60 4 ++ beb 600 4 ++ beb 60 4
def dataPut (fr : Int) (ks : List Kn) (r : RR) : Option (List UInt8 × List Kn) :=
  if r.type = 1 then some (beb r.addr 4, ks)
  else if r.type = 6 then (putName fr ks r.target).bind fun x => (putName (fr + x.1.length) x.2 r.target).map fun y => (x.1 ++ y.1 ++ beb r.serial 4 ++ soaTail, y.2)
  else if r.type = 16 then some (UInt8.ofNat r.text.length :: r.text, ks)
  else if r.type = 49 then some (r.text, ks)
  else putName fr ks r.target
def putRr (at_ : Int) (ks : List Kn) (r : RR) : Option (List UInt8 × List Kn) :=
  if rrMay r then (putName at_ ks r.name).bind fun x => (dataPut (at_ + x.1.length + 10) x.2 r).map fun y =>
    (x.1 ++ beb r.type 2 ++ beb 1 2 ++ beb r.ttl 4 ++ beb y.1.length 2 ++ y.1, y.2)
  else none
def numI (l : List UInt8) : Int := l.foldl (fun x b => x * 256 + (b.toNat : Int)) 0
/-! a name cut off behind a pointer is the same -/
theorem numI_app (a b : List UInt8) : numI (a ++ b) = numI a * 256 ^ b.length + numI b := by
  unfold numI
  rw [List.foldl_append]
  generalize List.foldl (fun x b => x * 256 + ((b : UInt8).toNat : Int)) 0 a = v
  have key : ∀ (b : List UInt8) (v : Int), List.foldl (fun x b => x * 256 + ((b : UInt8).toNat : Int)) v b = v * 256 ^ b.length + List.foldl (fun x b => x * 256 + ((b : UInt8).toNat : Int)) 0 b := by
    intro b
    induction b with
    | nil => intro v; simp
    | cons x r ih =>
      intro v
      simp only [List.foldl_cons, List.length_cons]
      rw [ih (v * 256 + x.toNat), ih (0 * 256 + x.toNat)]
      rw [Int.pow_succ, Int.add_mul, Int.zero_mul, Int.zero_add, Int.add_assoc]
      congr 1
      rw [Int.mul_assoc, Int.mul_comm 256]
  exact key b v
theorem numI_beb : ∀ (n : Nat) (x : Int), 0 ≤ x → x < 256 ^ n → numI (beb x n) = x
  | 0, x, h0, h1 => by simp at h1; have : x = 0 := by omega
                       subst this; rfl
  | n + 1, x, h0, h1 => by
    rw [beb, numI_app, numI_beb n (x / 256) (by omega) (by rw [Int.pow_succ] at h1; omega)]
    simp only [List.length_cons, List.length_nil, Nat.zero_add, Int.pow_one, numI, List.foldl_cons, List.foldl_nil]
    rw [byteOf_toNat]; omega
theorem beb_numI : ∀ (n : Nat) (l : List UInt8), l.length = n → beb (numI l) n = l
  | 0, l, h => by rw [List.eq_nil_of_length_eq_zero h]; rfl
  | n + 1, l, h => by
    rcases List.eq_nil_or_concat l with rfl | ⟨m, x, rfl⟩
    · simp at h
    · simp only [List.concat_eq_append, List.length_append, List.length_singleton] at h ⊢
      have e : numI (m ++ [x]) = numI m * 256 + x.toNat := by simp [numI]
      have hx := x.toNat_lt
      have e1 : (numI m * 256 + (x.toNat : Int)) / 256 = numI m := by omega
      have e2 : (numI m * 256 + (x.toNat : Int)) % 256 = x.toNat := by omega
      rw [beb, e, e1, beb_numI n m (by omega)]
      congr 1
      simp [byteOf, e2]

end Go.Proofs.YtfmdaijkgjkmpaaGreatDoor

set_option linter.unusedVariables false
set_option linter.unusedSimpArgs false
namespace Go.Proofs.YtfmdaijkgjkmpaaGreatDoor
/-- how far a reading is from its end -/
def measG (s : List UInt8) (g : GS) : Nat := g.row.toNat * (s.length + 2) + (s.length + 1 - g.at_).toNat
theorem measG_row {s : List UInt8} {g g' : GS} (h : g'.row < g.row) (h0 : 0 ≤ g'.row) (h1 : 0 ≤ g'.at_) : measG s g' < measG s g := by
  unfold measG
  have e : g.row.toNat = g'.row.toNat + 1 + (g.row.toNat - g'.row.toNat - 1) := by omega
  have h2 : (s.length + 1 - g'.at_).toNat < s.length + 2 := by omega
  rw [e, Nat.add_mul, Nat.add_mul, Nat.one_mul]
  omega
theorem measG_at {s : List UInt8} {g g' : GS} (h : g'.row = g.row) (h0 : g.at_ < g'.at_) (h1 : g.at_ ≤ s.length) : measG s g' < measG s g := by
  unfold measG; rw [h]; omega
theorem numI_bd : ∀ l : List UInt8, 0 ≤ numI l ∧ numI l < 256 ^ l.length := by
  intro l
  have : ∀ (l : List UInt8) (x : Int), 0 ≤ x → x * 256 ^ l.length ≤ l.foldl (fun x b => x * 256 + (b.toNat : Int)) x ∧ l.foldl (fun x b => x * 256 + (b.toNat : Int)) x < (x + 1) * 256 ^ l.length := by
    intro l
    induction l with
    | nil => intro x h; simp; omega
    | cons b r ih =>
      intro x h
      have hb := b.toNat_lt
      have h2 := ih (x * 256 + (b.toNat : Int)) (by omega)
      have hp : (0 : Int) ≤ 256 ^ r.length := Int.pow_nonneg (by decide)
      simp only [List.foldl_cons, List.length_cons, Int.pow_succ]
      constructor
      · refine Int.le_trans ?_ h2.1
        rw [Int.mul_comm (256 ^ r.length) 256, ← Int.mul_assoc]
        exact Int.mul_le_mul_of_nonneg_right (by omega) hp
      · refine Int.lt_of_lt_of_le h2.2 ?_
        rw [Int.mul_comm (256 ^ r.length) 256, ← Int.mul_assoc]
        exact Int.mul_le_mul_of_nonneg_right (by omega) hp
  have h := this l 0 (by omega)
  simp only [Int.zero_mul, Int.zero_add, Int.one_mul] at h
  exact h
theorem p256 {m n : Nat} (h : m ≤ n) : (256 : Int) ^ m ≤ 256 ^ n := by
  induction h with
  | refl => exact Int.le_refl _
  | @step k _ ih =>
    rw [Int.pow_succ]
    have : (0 : Int) ≤ 256 ^ k := Int.pow_nonneg (by decide)
    omega
theorem numI_1 {l : List UInt8} (h : l.length ≤ 1) : 0 ≤ numI l ∧ numI l ≤ 255 := by
  have := numI_bd l
  have h2 : (256 : Int) ^ l.length ≤ 256 ^ 1 := p256 h
  have e : (256 : Int) ^ 1 = 256 := by decide
  omega
theorem numI_one (b : UInt8) : numI [b] = b.toNat := by simp [numI]
def takeR (s : List UInt8) (g : GS) (k : Int) : List UInt8 × Bool × GS := if (s.length : Int) - k < g.at_ then ([], false, g) else (slc s g.at_ (g.at_ + k), true, ⟨g.at_ + k, g.row, g.fin, g.ls⟩)
theorem takeR_len {s : List UInt8} {g : GS} {k : Int} (h0 : 0 ≤ g.at_) (hk : 0 ≤ k) : (takeR s g k).1.length ≤ k.toNat := by
  unfold takeR; split
  · simp
  · simp only [slc, List.length_drop, List.length_take]; omega
theorem takeR_ls (s : List UInt8) (g : GS) (k : Int) : (takeR s g k).2.2.ls = g.ls ∧ (takeR s g k).2.2.row = g.row ∧ (takeR s g k).2.2.fin = g.fin := by
  unfold takeR; split <;> simp
theorem takeR_at {s : List UInt8} {g : GS} {k : Int} (h0 : 0 ≤ g.at_) (hk : 0 ≤ k) : 0 ≤ (takeR s g k).2.2.at_ ∧ g.at_ ≤ (takeR s g k).2.2.at_ := by
  unfold takeR; split <;> simp only <;> omega
def labR (s : List UInt8) (g : GS) (k : Int) : Int × GS :=
  if (takeR s g k).2.1 = false then (301, (takeR s g k).2.2) else
  if labOk (fold (takeR s g k).1) = false ∨ (takeR s g k).2.2.ls.length = 8 then (300, (takeR s g k).2.2) else
  (0, ⟨(takeR s g k).2.2.at_, (takeR s g k).2.2.row, (takeR s g k).2.2.fin, (takeR s g k).2.2.ls ++ [fold (takeR s g k).1]⟩)
def jumR (s : List UInt8) (g : GS) (k : Int) : Int × GS :=
  if (takeR s g 1).2.1 = false then (301, (takeR s g 1).2.2) else
  if (takeR s g 1).2.2.row ≤ k * 256 + numI (takeR s g 1).1 - 49152 then (300, (takeR s g 1).2.2) else
  (0, ⟨k * 256 + numI (takeR s g 1).1 - 49152, k * 256 + numI (takeR s g 1).1 - 49152, if (takeR s g 1).2.2.fin < 0 then (takeR s g 1).2.2.at_ else (takeR s g 1).2.2.fin, (takeR s g 1).2.2.ls⟩)
def stepR (s : List UInt8) (g : GS) : Bool × Int × GS :=
  if (takeR s g 1).2.1 = false then (false, 301, (takeR s g 1).2.2) else
  if numI (takeR s g 1).1 = 0 then (false, 0, (takeR s g 1).2.2) else
  if numI (takeR s g 1).1 ≤ 8 then (true, labR s (takeR s g 1).2.2 (numI (takeR s g 1).1)) else
  if 192 ≤ numI (takeR s g 1).1 then (true, jumR s (takeR s g 1).2.2 (numI (takeR s g 1).1)) else (false, 300, (takeR s g 1).2.2)
theorem slc_one {s : List UInt8} {p : Int} (h0 : 0 ≤ p) (h1 : p < s.length) : slc s p (p + 1) = [s.getD p.toNat 0] := by
  obtain ⟨k, rfl⟩ := Int.eq_ofNat_of_zero_le h0
  have hk : k < s.length := by omega
  have e : ((k : Int) + 1).toNat = k + 1 := by omega
  rw [slc, e, Int.toNat_natCast, List.take_succ_eq_append_getElem hk, List.drop_append, List.drop_eq_nil_of_le (by simp; omega), List.length_take, List.getD_eq_getElem?_getD, List.getElem?_eq_getElem hk]
  simp [Nat.min_eq_left (Nat.le_of_lt hk)]
theorem takeR_1 {s : List UInt8} {g : GS} (h0 : 0 ≤ g.at_) (h1 : g.at_ < s.length) : takeR s g 1 = ([s.getD g.at_.toNat 0], true, ⟨g.at_ + 1, g.row, g.fin, g.ls⟩) := by
  rw [takeR, if_neg (by omega), slc_one h0 h1]
/-- a step of the reading, told both ways -/
theorem stepR_G {s : List UInt8} {g : GS} (h0 : 0 ≤ g.at_) : stepG s g = if (stepR s g).2.1 ≠ 0 then .inl (.err (stepR s g).2.1) else if (stepR s g).1 = true then .inr (stepR s g).2.2 else .inl (.ok (joinD g.ls) (if g.fin < 0 then (stepR s g).2.2.at_ else g.fin)) := by
  by_cases h1 : (s.length : Int) ≤ g.at_
  · have e : takeR s g 1 = ([], false, g) := by rw [takeR, if_pos (by omega)]
    simp [stepG, stepR, h1, e]
  · have e := takeR_1 h0 (show g.at_ < s.length by omega)
    have hb := (s.getD g.at_.toNat 0).toNat_lt
    simp only [stepG, stepR, h1, e, numI_one, if_false, Bool.true_eq_false]
    generalize hk : (s.getD g.at_.toNat 0).toNat = k at *
    by_cases hz : (k : Int) = 0
    · simp [hz]
    · simp only [hz, if_false]
      by_cases h8 : (k : Int) ≤ 8
      · simp only [h8, if_true, labR]
        by_cases hq : (s.length : Int) - k < g.at_ + 1
        · have e2 : takeR s ⟨g.at_ + 1, g.row, g.fin, g.ls⟩ k = ([], false, ⟨g.at_ + 1, g.row, g.fin, g.ls⟩) := by rw [takeR, if_pos hq]
          simp [hq, e2]
        · have e2 : takeR s ⟨g.at_ + 1, g.row, g.fin, g.ls⟩ k = (slc s (g.at_ + 1) (g.at_ + 1 + k), true, ⟨g.at_ + 1 + k, g.row, g.fin, g.ls⟩) := by rw [takeR, if_neg hq]
          simp only [hq, e2, if_false, Bool.true_eq_false]
          by_cases hl : labOk (fold (slc s (g.at_ + 1) (g.at_ + 1 + k))) = false ∨ g.ls.length = 8
          · simp [hl]
          · simp [hl]
      · simp only [h8, if_false]
        by_cases h192 : 192 ≤ (k : Int)
        · simp only [h192, if_true, jumR]
          by_cases hq : (s.length : Int) ≤ g.at_ + 1
          · have e2 : takeR s ⟨g.at_ + 1, g.row, g.fin, g.ls⟩ 1 = ([], false, ⟨g.at_ + 1, g.row, g.fin, g.ls⟩) := by rw [takeR, if_pos (by simp only; omega)]
            simp [hq, e2]
          · have e2 := takeR_1 (s := s) (g := ⟨g.at_ + 1, g.row, g.fin, g.ls⟩) (by simp only; omega) (by simp only; omega)
            simp only [hq, e2, if_false, Bool.true_eq_false, numI_one]
            generalize (s.getD (g.at_ + 1).toNat 0).toNat = m
            by_cases hr : g.row ≤ (k : Int) * 256 + m - 49152
            · simp [hr]
            · simp only [hr, if_false, ne_eq, not_true, if_true]
              rw [show g.at_ + 1 + 1 = g.at_ + 2 by omega]
        · simp [h192]
theorem stepR_at {s : List UInt8} {g : GS} (h0 : 0 ≤ g.at_) : 0 ≤ (stepR s g).2.2.at_ ∧ (stepR s g).2.2.fin = g.fin ∧ (stepR s g).2.2.ls = g.ls ∨ (stepR s g).1 = true ∨ (stepR s g).2.1 ≠ 0 := by
  unfold stepR
  have h := takeR_at (s := s) (k := 1) h0 (by decide)
  have h2 := takeR_ls s g 1
  split
  · simp
  · split
    · exact .inl ⟨h.1, h2.2.2, h2.1⟩
    · split
      · simp
      · split <;> simp
theorem stepG_lt {s : List UInt8} {g g' : GS} (h : stepG s g = .inr g') (h0 : 0 ≤ g.at_) (hl : g.ls.all labOk = true) (h8 : g.ls.length ≤ 8) : measG s g' < measG s g ∧ 0 ≤ g'.at_ ∧ g'.ls.all labOk = true ∧ g'.ls.length ≤ 8 := by
  by_cases h1 : (s.length : Int) ≤ g.at_
  · simp [stepG, h1] at h
  · simp only [stepG, h1, if_false] at h
    generalize (s.getD g.at_.toNat 0).toNat = k at h
    by_cases hz : (k : Int) = 0
    · simp [hz] at h
    · simp only [hz, if_false] at h
      by_cases hk : (k : Int) ≤ 8
      · simp only [hk, if_true] at h
        by_cases hq : (s.length : Int) - k < g.at_ + 1
        · simp [hq] at h
        · simp only [hq, if_false] at h
          by_cases hlab : labOk (fold (slc s (g.at_ + 1) (g.at_ + 1 + k))) = false ∨ g.ls.length = 8
          · simp [hlab] at h
          · simp only [hlab, if_false, Sum.inr.injEq] at h
            subst h
            simp only [not_or, Bool.not_eq_false] at hlab
            refine ⟨measG_at rfl (by simp only; omega) (by omega), by simp only; omega, ?_, ?_⟩
            · simp only [List.all_append, hl, List.all_cons, List.all_nil, Bool.and_true, Bool.true_and]
              exact hlab.1
            · simp only [List.length_append, List.length_cons, List.length_nil]; omega
      · simp only [hk, if_false] at h
        by_cases h192 : 192 ≤ (k : Int)
        · simp only [h192, if_true] at h
          by_cases hq : (s.length : Int) ≤ g.at_ + 1
          · simp [hq] at h
          · simp only [hq, if_false] at h
            generalize (s.getD (g.at_ + 1).toNat 0).toNat = m at h
            by_cases hr : g.row ≤ (k : Int) * 256 + m - 49152
            · simp [hr] at h
            · simp only [hr, if_false, Sum.inr.injEq] at h
              subst h
              exact ⟨measG_row (by simp only; omega) (by simp only; omega) (by simp only; omega), by simp only; omega, hl, h8⟩
        · simp [h192] at h
theorem getF_ok {s : List UInt8} : ∀ (n : Nat) (g : GS), 0 ≤ g.at_ → g.ls.all labOk = true → g.ls.length ≤ 8 → measG s g < n → ∃ r, getF n s g = some r
  | 0, _, _, _, _, h => by omega
  | n + 1, g, h0, hl, h8, h => by
    simp only [getF]
    cases hs : stepG s g with
    | inl r => exact ⟨r, rfl⟩
    | inr g' =>
      obtain ⟨a, b, c, d⟩ := stepG_lt hs h0 hl h8
      exact getF_ok n g' b c d (by omega)
/-- the name at a place -/
def getName (s : List UInt8) (p : Int) : GR := if p < 0 then .err 300 else (getF (measG s (GS.of p) + 1) s (GS.of p)).getD (.err 0)
theorem getName_got (s : List UInt8) {p : Int} (h : 0 ≤ p) : Got s (GS.of p) (getName s p) := by
  obtain ⟨r, hr⟩ := getF_ok (s := s) (measG s (GS.of p) + 1) (GS.of p) h rfl (by simp) (by omega)
  rw [getName, if_neg (by omega), hr]
  exact ⟨_, hr⟩
theorem getName_eq {s : List UInt8} {p : Int} {r : GR} (h : 0 ≤ p) (k : Got s (GS.of p) r) : getName s p = r := (getName_got s h).det k
theorem getName_neg (s : List UInt8) {p : Int} (h : p < 0) : getName s p = .err 300 := if_pos h

theorem ixb_at (c : UInt8) : ∀ (l x : List UInt8), c ∉ l → ixb (l ++ c :: x) c = l.length
  | [], x, _ => by simp [ixb]
  | b :: l, x, h => by
    simp only [List.mem_cons, not_or] at h
    have ih := ixb_at c l x h.2
    simp only [List.cons_append, ixb, ih, List.length_cons]
    rw [if_neg (fun e => h.1 e.symm), if_neg (by omega)]; omega
theorem ixb_no (c : UInt8) : ∀ (l : List UInt8), c ∉ l → ixb l c = -1
  | [], _ => rfl
  | b :: l, h => by
    simp only [List.mem_cons, not_or] at h
    rw [ixb, ixb_no c l h.2, if_neg (fun e => h.1 e.symm), if_pos rfl]
/-- the first label of a name, and the rest -/
theorem cut_join {l : List UInt8} {r : List (List UInt8)} (h : labOk l = true) : (cutB 46 (joinD (l :: r))).1 = l ∧ (cutB 46 (joinD (l :: r))).2.1 = joinD r := by
  have hd := labOk_dot h
  cases r with
  | nil => simp only [joinD, cutB, ixb_no 46 l hd]; exact ⟨rfl, rfl⟩
  | cons m r =>
    rw [joinD_cons l (by simp : m :: r ≠ [])]
    simp only [cutB, ixb_at 46 l _ hd]
    rw [if_pos (by omega)]
    have e : ((l.length : Int) + 1).toNat = l.length + 1 := by omega
    simp only [Int.toNat_natCast, e]
    refine ⟨List.take_left, ?_⟩
    rw [List.drop_append, List.drop_eq_nil_of_le (by omega)]
    simp
def nmPut (at_ : Int) (ks : List Kn) (nm : List UInt8) : List UInt8 × List Kn × Int := match putName at_ ks nm with
  | none => ([], [], 300)
  | some x => (x.1, x.2, 0)
theorem nmPut_bad {at_ : Int} {ks : List Kn} {nm : List UInt8} (h : (ks.all knOk && decide (0 ≤ at_) && decide (at_ ≤ 65535) && nmMay nm) = false) : nmPut at_ ks nm = ([], [], 300) := by
  simp [nmPut, putName, h]
theorem nmPut_ok {at_ : Int} {ks : List Kn} {nm : List UInt8} (h : (ks.all knOk && decide (0 ≤ at_) && decide (at_ ≤ 65535) && nmMay nm) = true) : nmPut at_ ks nm = ((putL ks at_ (labs nm) [] ks).1, (putL ks at_ (labs nm) [] ks).2, 0) := by
  simp only [nmPut, putName, h, if_true]
theorem kfind_ok {ks : List Kn} (h : ks.all knOk = true) {s : List UInt8} {t : Int} (hk : kfind ks s = some t) : 0 ≤ t ∧ t < 16384 := by
  have := List.all_eq_true.1 h _ (kfind_mem hk)
  simp only [knOk, Bool.and_eq_true, decide_eq_true_eq] at this
  exact ⟨this.1.2, this.2⟩
theorem putL_end (ks : List Kn) (at_ : Int) (out : List UInt8) (all : List Kn) : putL ks at_ [] out all = (out ++ [0], all) := rfl
theorem putL_hit {ks : List Kn} {at_ : Int} {l : List UInt8} {r : List (List UInt8)} {out : List UInt8} {all : List Kn} {t : Int} (h : kfind ks (joinD (l :: r)) = some t) : putL ks at_ (l :: r) out all = (out ++ beb (49152 + t) 2, all) := by
  simp only [putL, h]
theorem putL_miss {ks : List Kn} {at_ : Int} {l : List UInt8} {r : List (List UInt8)} {out : List UInt8} {all : List Kn} (h : kfind ks (joinD (l :: r)) = none) : putL ks at_ (l :: r) out all = putL ks at_ r (out ++ UInt8.ofNat l.length :: l) (if at_ + out.length < 16384 then all ++ [⟨joinD (l :: r), at_ + out.length⟩] else all) := by
  simp only [putL, h]

section
variable {s : List UInt8} {p r f : Int} {ls : List (List UInt8)}
theorem sG1 (h : (s.length : Int) ≤ p) : stepG s ⟨p, r, f, ls⟩ = .inl (.err 301) := by simp [stepG, h]
theorem sG2 (h : ¬ (s.length : Int) ≤ p) (hk : ((s.getD p.toNat 0).toNat : Int) = 0) : stepG s ⟨p, r, f, ls⟩ = .inl (.ok (joinD ls) (if f < 0 then p + 1 else f)) := by
  simp only [stepG, h, if_false, hk, if_true]
theorem sG3 (h : ¬ (s.length : Int) ≤ p) (hk : ¬ ((s.getD p.toNat 0).toNat : Int) = 0) (h8 : ((s.getD p.toNat 0).toNat : Int) ≤ 8) (hq : (s.length : Int) - p - 1 < ((s.getD p.toNat 0).toNat : Int)) : stepG s ⟨p, r, f, ls⟩ = .inl (.err 301) := by
  simp only [stepG, h, if_false, hk, h8, if_true]
  rw [if_pos (by omega)]
theorem sG4 (h : ¬ (s.length : Int) ≤ p) (hk : ¬ ((s.getD p.toNat 0).toNat : Int) = 0) (h8 : ((s.getD p.toNat 0).toNat : Int) ≤ 8) (hq : ¬ (s.length : Int) - p - 1 < ((s.getD p.toNat 0).toNat : Int)) (hl : labOk (fold (slc s (p + 1) (p + 1 + ((s.getD p.toNat 0).toNat : Int)))) = false ∨ ls.length = 8) : stepG s ⟨p, r, f, ls⟩ = .inl (.err 300) := by
  simp only [stepG, h, if_false, hk, h8, if_true]
  rw [if_neg (by omega), if_pos hl]
theorem sG5 (h : ¬ (s.length : Int) ≤ p) (hk : ¬ ((s.getD p.toNat 0).toNat : Int) = 0) (h8 : ((s.getD p.toNat 0).toNat : Int) ≤ 8) (hq : ¬ (s.length : Int) - p - 1 < ((s.getD p.toNat 0).toNat : Int)) (hl : ¬ (labOk (fold (slc s (p + 1) (p + 1 + ((s.getD p.toNat 0).toNat : Int)))) = false ∨ ls.length = 8)) : stepG s ⟨p, r, f, ls⟩ = .inr ⟨p + 1 + ((s.getD p.toNat 0).toNat : Int), r, f, ls ++ [fold (slc s (p + 1) (p + 1 + ((s.getD p.toNat 0).toNat : Int)))]⟩ := by
  simp only [stepG, h, if_false, hk, h8, if_true]
  rw [if_neg (by omega), if_neg hl]
theorem sG6 (h : ¬ (s.length : Int) ≤ p) (hk : ¬ ((s.getD p.toNat 0).toNat : Int) = 0) (h8 : ¬ ((s.getD p.toNat 0).toNat : Int) ≤ 8) (h9 : 192 ≤ ((s.getD p.toNat 0).toNat : Int)) (hq : (s.length : Int) - p < 2) : stepG s ⟨p, r, f, ls⟩ = .inl (.err 301) := by
  simp only [stepG, h, if_false, hk, h8, h9, if_true]
  rw [if_pos (by omega)]
theorem sG7 (h : ¬ (s.length : Int) ≤ p) (hk : ¬ ((s.getD p.toNat 0).toNat : Int) = 0) (h8 : ¬ ((s.getD p.toNat 0).toNat : Int) ≤ 8) (h9 : 192 ≤ ((s.getD p.toNat 0).toNat : Int)) (hq : ¬ (s.length : Int) - p < 2) (ht : r ≤ ((s.getD p.toNat 0).toNat : Int) * 256 + ((s.getD (p + 1).toNat 0).toNat : Int) - 49152) : stepG s ⟨p, r, f, ls⟩ = .inl (.err 300) := by
  simp only [stepG, h, if_false, hk, h8, h9, if_true]
  rw [if_neg (by omega), if_pos ht]
theorem sG8 (h : ¬ (s.length : Int) ≤ p) (hk : ¬ ((s.getD p.toNat 0).toNat : Int) = 0) (h8 : ¬ ((s.getD p.toNat 0).toNat : Int) ≤ 8) (h9 : 192 ≤ ((s.getD p.toNat 0).toNat : Int)) (hq : ¬ (s.length : Int) - p < 2) (ht : ¬ r ≤ ((s.getD p.toNat 0).toNat : Int) * 256 + ((s.getD (p + 1).toNat 0).toNat : Int) - 49152) : stepG s ⟨p, r, f, ls⟩ = .inr ⟨((s.getD p.toNat 0).toNat : Int) * 256 + ((s.getD (p + 1).toNat 0).toNat : Int) - 49152, ((s.getD p.toNat 0).toNat : Int) * 256 + ((s.getD (p + 1).toNat 0).toNat : Int) - 49152, if f < 0 then p + 2 else f, ls⟩ := by
  simp only [stepG, h, if_false, hk, h8, h9, if_true]
  rw [if_neg (by omega), if_neg ht]
theorem sG9 (h : ¬ (s.length : Int) ≤ p) (hk : ¬ ((s.getD p.toNat 0).toNat : Int) = 0) (h8 : ¬ ((s.getD p.toNat 0).toNat : Int) ≤ 8) (h9 : ¬ 192 ≤ ((s.getD p.toNat 0).toNat : Int)) : stepG s ⟨p, r, f, ls⟩ = .inl (.err 300) := by
  simp only [stepG, h, if_false, hk, h8, h9]
end
theorem isL_iff (b : UInt8) : isL b = true ↔ (97 ≤ b.toNat ∧ b.toNat ≤ 122) ∨ (48 ≤ b.toNat ∧ b.toNat ≤ 57) ∨ b.toNat = 45 := by
  simp [isL, or_assoc]
theorem split_mem_len : ∀ {s l : List UInt8}, l ∈ split s → l.length ≤ s.length := by
  intro s l h
  have : ∀ {ls : List (List UInt8)}, l ∈ ls → l.length ≤ (joinD ls).length := by
    intro ls
    induction ls with
    | nil => intro h; simp at h
    | cons x r ih =>
      intro h
      cases r with
      | nil => simp at h; subst h; simp [joinD]
      | cons y r =>
        rw [joinD_cons x (by simp), List.length_append, List.length_cons]
        rcases List.mem_cons.1 h with rfl | h
        · omega
        · have := ih h; omega
  have h2 := this h
  rwa [join_split] at h2
theorem split_len (s : List UInt8) : (split s).length ≤ s.length + 1 := by
  induction s with
  | nil => simp [split]
  | cons c r ih =>
    simp only [split]
    split
    · simp; omega
    · split
      · simp
      · rename_i h; rw [h] at ih; simp at ih ⊢; omega
/-- a text, cut: the parts ahead of a place -/
def PartsI (s : List UInt8) (i fr : Int) (out : List (List UInt8)) : Prop :=
  (i ≤ s.length ∧ (46 : UInt8) ∉ slc s fr i ∧ split s = out ++ split (s.drop fr.toNat)) ∨ (i = s.length + 1 ∧ split s = out)
theorem partsI_new (s : List UInt8) : PartsI s 0 0 [] := .inl ⟨by omega, by simp [slc], by simp⟩
theorem partsI_end {s : List UInt8} {i fr : Int} {out : List (List UInt8)} (h : PartsI s i fr out) (hi : ¬ i ≤ s.length) : split s = out := by
  rcases h with h | h
  · omega
  · exact h.2
theorem drop_slc {s : List UInt8} {i fr : Int} (h0 : 0 ≤ fr) (h1 : fr ≤ i) (h2 : i < s.length) : s.drop fr.toNat = slc s fr i ++ s.getD i.toNat 0 :: s.drop (i + 1).toNat := by
  have e : (i + 1).toNat = i.toNat + 1 := by omega
  have hi : i.toNat < s.length := by omega
  rw [slc, e, List.getD_eq_getElem?_getD, List.getElem?_eq_getElem hi, Option.getD_some, ← List.drop_eq_getElem_cons hi]
  conv => lhs; rw [← List.take_append_drop i.toNat s, List.drop_append_of_le_length (by rw [List.length_take]; omega)]
theorem slc_end {s : List UInt8} {fr : Int} (_ : 0 ≤ fr) : slc s fr s.length = s.drop fr.toNat := by rw [slc, Int.toNat_natCast, List.take_length]
theorem slc_more {s : List UInt8} {i fr : Int} (h0 : 0 ≤ fr) (h1 : fr ≤ i) (h2 : i < s.length) : slc s fr (i + 1) = slc s fr i ++ [s.getD i.toNat 0] := by
  have e : (i + 1).toNat = i.toNat + 1 := by omega
  have hi : i.toNat < s.length := by omega
  rw [slc, slc, e, List.take_succ_eq_append_getElem hi, List.drop_append_of_le_length (by rw [List.length_take]; omega), List.getD_eq_getElem?_getD, List.getElem?_eq_getElem hi]; rfl
theorem partsI_cut {s : List UInt8} {i fr : Int} {out : List (List UInt8)} (h : PartsI s i fr out) (h0 : 0 ≤ fr) (h1 : fr ≤ i) (h2 : i ≤ s.length) (hc : i = s.length ∨ s.getD i.toNat 0 = 46) : PartsI s (i + 1) (i + 1) (out ++ [slc s fr i]) := by
  rcases h with ⟨_, a, b⟩ | h
  · by_cases hi : i = s.length
    · refine .inr ⟨by omega, ?_⟩
      subst hi
      rw [slc_end h0] at a ⊢
      rw [b, split_none _ a]
    · have hd : s.getD i.toNat 0 = 46 := by rcases hc with h | h; exact absurd h hi; exact h
      refine .inl ⟨by omega, by simp [slc, List.drop_eq_nil_of_le], ?_⟩
      rw [b, drop_slc h0 h1 (by omega), hd, split_cons _ _ a]; simp
  · omega
theorem partsI_go {s : List UInt8} {i fr : Int} {out : List (List UInt8)} (h : PartsI s i fr out) (h0 : 0 ≤ fr) (h1 : fr ≤ i) (h2 : i < s.length) (hc : s.getD i.toNat 0 ≠ 46) : PartsI s (i + 1) fr out := by
  rcases h with ⟨_, a, b⟩ | h
  · refine .inl ⟨by omega, ?_, b⟩
    rw [slc_more h0 h1 h2]
    simp only [List.mem_append, List.mem_singleton, not_or]
    exact ⟨a, fun e => hc e.symm⟩
  · omega
/-- names added to the known ones are longer than what is looked for -/
theorem kfind_long {s : List UInt8} : ∀ (ks : List Kn) {added : List Kn}, (∀ k ∈ added, s.length < k.name.length) → kfind (ks ++ added) s = kfind ks s
  | [], added, h => by
    induction added with
    | nil => rfl
    | cons k r ih =>
      have h1 := h k (by simp)
      have : k.name ≠ s := fun e => by rw [e] at h1; omega
      simp only [List.nil_append, kfind, this, if_false]
      simpa [kfind] using ih (fun k hk => h k (by simp [hk]))
  | k :: r, added, h => by simp only [List.cons_append, kfind, kfind_long r h]

theorem joinD_app {ls : List (List UInt8)} (h : ls ≠ []) (x : List UInt8) : joinD (ls ++ [x]) = joinD ls ++ [46] ++ x := by
  rw [← joinB_dot, ← joinB_dot, joinB_app 46 h]
theorem joinD_nil {ls : List (List UInt8)} (h : ls.all labOk = true) (e : joinD ls = []) : ls = [] := by
  by_cases hn : ls = []
  · exact hn
  · exact absurd e (joinD_ne hn h)
theorem rest_join {l : List UInt8} {r : List (List UInt8)} {left : List UInt8} (h : left = joinD (l :: r)) : left.drop (min ((l.length : Int) + 1) (left.length : Int)).toNat = joinD r := by
  subst h
  cases r with
  | nil =>
    simp only [joinD]
    rw [show (min ((l.length : Int) + 1) (l.length : Int)).toNat = l.length by omega, List.drop_length]
  | cons m r =>
    rw [joinD_cons l (by simp : m :: r ≠ [])]
    have e : (min ((l.length : Int) + 1) ((l ++ 46 :: joinD (m :: r)).length : Int)).toNat = l.length + 1 := by simp only [List.length_append, List.length_cons]; omega
    rw [e, List.drop_append, List.drop_eq_nil_of_le (by omega)]
    simp
theorem join_lt {l : List UInt8} {r : List (List UInt8)} (h : labOk l = true) : (joinD r).length < (joinD (l :: r)).length := by
  have := (labOk_len h).1
  cases r with
  | nil => simp only [joinD, List.length_nil]; omega
  | cons m r => rw [joinD_cons l (by simp : m :: r ≠ []), List.length_append, List.length_cons]; omega

def grN : GR → List UInt8
  | .err _ => []
  | .ok nm _ => nm
def grT : GR → Int
  | .err _ => 0
  | .ok _ to => to
def grE : GR → Int
  | .err e => e
  | .ok _ _ => 0
theorem putL_more (ks : List Kn) (at_ : Int) : ∀ (ls : List (List UInt8)) (out : List UInt8) (all : List Kn), ls.all labOk = true →
    ∃ added, (putL ks at_ ls out all).2 = all ++ added ∧ added.length ≤ ls.length ∧ (∀ k ∈ added, k.name.length ≤ 9 * ls.length) ∧ (putL ks at_ ls out all).1.length ≤ out.length + 9 * ls.length + 2
  | [], out, all, _ => ⟨[], by simp [putL]⟩
  | l :: r, out, all, h => by
    have hj := joinD_len h
    have h2 := h
    simp only [List.all_cons, Bool.and_eq_true] at h
    have hl := labOk_len h.1
    cases hk : kfind ks (joinD (l :: r)) with
    | some t =>
      rw [putL_hit hk]
      refine ⟨[], by simp, by simp, by simp, ?_⟩
      have : (beb (49152 + t) 2).length = 2 := rfl
      simp only [List.length_append, this, List.length_cons]; omega
    | none =>
      rw [putL_miss hk]
      obtain ⟨added, e1, e2, e3, e4⟩ := putL_more ks at_ r (out ++ UInt8.ofNat l.length :: l) (if at_ + out.length < 16384 then all ++ [⟨joinD (l :: r), at_ + out.length⟩] else all) h.2
      simp only [List.length_append, List.length_cons] at e4 hj ⊢
      by_cases hp : at_ + out.length < 16384
      · rw [if_pos hp] at e1 ⊢
        refine ⟨⟨joinD (l :: r), at_ + out.length⟩ :: added, by rw [e1]; simp, by simp only [List.length_cons]; omega, ?_, ?_⟩
        · intro k hk2
          rcases List.mem_cons.1 hk2 with rfl | hk2
          · simp only; omega
          · have := e3 k hk2; omega
        · rw [if_pos hp] at e4; omega
      · rw [if_neg hp] at e1 ⊢
        refine ⟨added, e1, by omega, fun k hk2 => by have := e3 k hk2; omega, ?_⟩
        rw [if_neg hp] at e4; omega
theorem nmPut_more (at_ : Int) (ks : List Kn) (nm : List UInt8) : (nmPut at_ ks nm).1.length ≤ 74 ∧ (nmPut at_ ks nm).2.1.length ≤ ks.length + 8 ∧ ∀ k ∈ (nmPut at_ ks nm).2.1, k ∈ ks ∨ k.name.length ≤ 72 := by
  by_cases h : (ks.all knOk && decide (0 ≤ at_) && decide (at_ ≤ 65535) && nmMay nm) = true
  · rw [nmPut_ok h]
    simp only [Bool.and_eq_true] at h
    obtain ⟨hl, h8⟩ := nmMay_labs h.2
    obtain ⟨added, e1, e2, e3, e4⟩ := putL_more ks at_ (labs nm) [] ks hl
    simp only [List.length_nil] at e4
    refine ⟨by simp only; omega, by simp only [e1, List.length_append]; omega, ?_⟩
    simp only [e1]
    intro k hk
    rcases List.mem_append.1 hk with hk | hk
    · exact .inl hk
    · have := e3 k hk; exact .inr (by omega)
  · rw [nmPut_bad (by simpa using h)]
    exact ⟨by simp, by simp, by simp⟩

end Go.Proofs.YtfmdaijkgjkmpaaGreatDoor

set_option linter.unusedVariables false
set_option linter.unusedSimpArgs false
namespace Go.Proofs.YtfmdaijkgjkmpaaGreatDoor
theorem nmPut_zero {at_ : Int} {ks : List Kn} {nm : List UInt8} (h : (nmPut at_ ks nm).2.2 = 0) : (ks.all knOk && decide (0 ≤ at_) && decide (at_ ≤ 65535) && nmMay nm) = true ∧ putName at_ ks nm = some ((nmPut at_ ks nm).1, (nmPut at_ ks nm).2.1) := by
  unfold nmPut at h ⊢
  cases hp : putName at_ ks nm with
  | none => rw [hp] at h; cases h
  | some x =>
    refine ⟨?_, rfl⟩
    unfold putName at hp
    split at hp
    · assumption
    · cases hp
theorem Good.nil (s : List UInt8) : Good s [] := fun k hk => by cases hk
theorem Good.all {s : List UInt8} {ks : List Kn} (h : Good s ks) : ks.all knOk = true := List.all_eq_true.2 fun k hk => (h k hk).1
/-- what is written comes back -/
theorem name_back {s : List UInt8} {ks : List Kn} {nm : List UInt8} (hg : Good s ks) (h : (nmPut s.length ks nm).2.2 = 0) (z : List UInt8) :
    getName (s ++ (nmPut s.length ks nm).1 ++ z) s.length = .ok nm ((s.length + (nmPut s.length ks nm).1.length : Nat) : Int) ∧ Good (s ++ (nmPut s.length ks nm).1) (nmPut s.length ks nm).2.1 ∧ ∃ added, (nmPut s.length ks nm).2.1 = ks ++ added := by
  obtain ⟨hc, hp⟩ := nmPut_zero h
  obtain ⟨added, e1, e2, e3⟩ := putName_good hg hp
  simp only [Bool.and_eq_true] at hc
  have hl := nmMay_labs hc.2
  have hgot := (e3 z).got (-1) [] (by simpa using hl.2)
  simp only [List.nil_append, joinD_labs] at hgot
  refine ⟨getName_eq (by omega) hgot, e2, added, e1⟩
/-! WirePlain -/
/-! WirePoints -/
/-! WireFolds -/
theorem byteOf_nat (n : Nat) : byteOf n = UInt8.ofNat n := by
  apply UInt8.toNat_inj.1
  have := byteOf_toNat (n : Int)
  simp; omega
end Go.Proofs.YtfmdaijkgjkmpaaGreatDoor

set_option linter.unusedVariables false
set_option linter.unusedSimpArgs false
namespace Go.Proofs.YtfmdaijkgjkmpaaGreatDoor
/-! a name that is read in a text cut where the name ends, or in a longer text -/
theorem inv_ok {s : List UInt8} {g : GS} {nm : List UInt8} {e : Int} (h : stepG s g = .inl (.ok nm e)) :
    g.at_ < s.length ∧ (s.getD g.at_.toNat 0).toNat = 0 ∧ nm = joinD g.ls ∧ e = if g.fin < 0 then g.at_ + 1 else g.fin := by
  obtain ⟨p, r, f, ls⟩ := g
  dsimp only
  by_cases h1 : (s.length : Int) ≤ p
  · rw [sG1 h1] at h; cases h
  by_cases hk : ((s.getD p.toNat 0).toNat : Int) = 0
  · rw [sG2 h1 hk] at h
    simp only [Sum.inl.injEq, GR.ok.injEq] at h
    exact ⟨by omega, by omega, h.1.symm, h.2.symm⟩
  by_cases h8 : ((s.getD p.toNat 0).toNat : Int) ≤ 8
  · by_cases hq : (s.length : Int) - p - 1 < ((s.getD p.toNat 0).toNat : Int)
    · rw [sG3 h1 hk h8 hq] at h; cases h
    · by_cases hl : labOk (fold (slc s (p + 1) (p + 1 + ((s.getD p.toNat 0).toNat : Int)))) = false ∨ ls.length = 8
      · rw [sG4 h1 hk h8 hq hl] at h; cases h
      · rw [sG5 h1 hk h8 hq hl] at h; cases h
  · by_cases h9 : 192 ≤ ((s.getD p.toNat 0).toNat : Int)
    · by_cases hq : (s.length : Int) - p < 2
      · rw [sG6 h1 hk h8 h9 hq] at h; cases h
      · by_cases ht : r ≤ ((s.getD p.toNat 0).toNat : Int) * 256 + ((s.getD (p + 1).toNat 0).toNat : Int) - 49152
        · rw [sG7 h1 hk h8 h9 hq ht] at h; cases h
        · rw [sG8 h1 hk h8 h9 hq ht] at h; cases h
    · rw [sG9 h1 hk h8 h9] at h; cases h
theorem inv_step {s : List UInt8} {g g' : GS} (h : stepG s g = .inr g') : g.at_ < s.length ∧
    ((((s.getD g.at_.toNat 0).toNat : Int) ≠ 0 ∧ ((s.getD g.at_.toNat 0).toNat : Int) ≤ 8 ∧ g.at_ + 1 + ((s.getD g.at_.toNat 0).toNat : Int) ≤ s.length ∧ labOk (fold (slc s (g.at_ + 1) (g.at_ + 1 + ((s.getD g.at_.toNat 0).toNat : Int)))) = true ∧ g.ls.length ≠ 8 ∧
        g' = ⟨g.at_ + 1 + ((s.getD g.at_.toNat 0).toNat : Int), g.row, g.fin, g.ls ++ [fold (slc s (g.at_ + 1) (g.at_ + 1 + ((s.getD g.at_.toNat 0).toNat : Int)))]⟩) ∨
     (192 ≤ ((s.getD g.at_.toNat 0).toNat : Int) ∧ g.at_ + 1 < s.length ∧ ((s.getD g.at_.toNat 0).toNat : Int) * 256 + ((s.getD (g.at_ + 1).toNat 0).toNat : Int) - 49152 < g.row ∧
        g' = ⟨((s.getD g.at_.toNat 0).toNat : Int) * 256 + ((s.getD (g.at_ + 1).toNat 0).toNat : Int) - 49152, ((s.getD g.at_.toNat 0).toNat : Int) * 256 + ((s.getD (g.at_ + 1).toNat 0).toNat : Int) - 49152, if g.fin < 0 then g.at_ + 2 else g.fin, g.ls⟩)) := by
  obtain ⟨p, r, f, ls⟩ := g
  dsimp only
  by_cases h1 : (s.length : Int) ≤ p
  · rw [sG1 h1] at h; cases h
  refine ⟨by omega, ?_⟩
  by_cases hk : ((s.getD p.toNat 0).toNat : Int) = 0
  · rw [sG2 h1 hk] at h; cases h
  by_cases h8 : ((s.getD p.toNat 0).toNat : Int) ≤ 8
  · by_cases hq : (s.length : Int) - p - 1 < ((s.getD p.toNat 0).toNat : Int)
    · rw [sG3 h1 hk h8 hq] at h; cases h
    · by_cases hl : labOk (fold (slc s (p + 1) (p + 1 + ((s.getD p.toNat 0).toNat : Int)))) = false ∨ ls.length = 8
      · rw [sG4 h1 hk h8 hq hl] at h; cases h
      · rw [sG5 h1 hk h8 hq hl] at h
        simp only [Sum.inr.injEq] at h
        simp only [not_or, Bool.not_eq_false] at hl
        exact .inl ⟨hk, h8, by omega, hl.1, hl.2, h.symm⟩
  · by_cases h9 : 192 ≤ ((s.getD p.toNat 0).toNat : Int)
    · by_cases hq : (s.length : Int) - p < 2
      · rw [sG6 h1 hk h8 h9 hq] at h; cases h
      · by_cases ht : r ≤ ((s.getD p.toNat 0).toNat : Int) * 256 + ((s.getD (p + 1).toNat 0).toNat : Int) - 49152
        · rw [sG7 h1 hk h8 h9 hq ht] at h; cases h
        · rw [sG8 h1 hk h8 h9 hq ht] at h
          simp only [Sum.inr.injEq] at h
          exact .inr ⟨h9, by omega, by omega, h.symm⟩
    · rw [sG9 h1 hk h8 h9] at h; cases h
/-- two texts that begin alike -/
structure Alike (s t : List UInt8) (E : Int) : Prop where
  h : s.take E.toNat = t.take E.toNat
  l : E ≤ t.length
theorem Alike.byte {s t : List UInt8} {E i : Int} (h : Alike s t E) (h0 : 0 ≤ i) (hi : i < E) : t.getD i.toNat 0 = s.getD i.toNat 0 := by
  have e : ∀ u : List UInt8, u.getD i.toNat 0 = (u.take E.toNat).getD i.toNat 0 := fun u => by
    rw [List.getD_eq_getElem?_getD, List.getD_eq_getElem?_getD, List.getElem?_take, if_pos (by omega)]
  rw [e t, e s, h.h]
theorem Alike.sl {s t : List UInt8} {E i j : Int} (h : Alike s t E) (hj : j ≤ E) : slc t i j = slc s i j := by
  have e : ∀ u : List UInt8, u.take j.toNat = (u.take E.toNat).take j.toNat := fun u => by
    rw [List.take_take, Nat.min_eq_left (by omega)]
  unfold slc
  rw [e t, e s, h.h]
theorem Alike.ok {s t : List UInt8} {E : Int} (ha : Alike s t E) {g : GS} {nm : List UInt8} {e : Int} (h : stepG s g = .inl (.ok nm e)) (h0 : 0 ≤ g.at_) (hE : g.at_ < E) : stepG t g = .inl (.ok nm e) := by
  obtain ⟨h1, h2, rfl, rfl⟩ := inv_ok h
  have hb := ha.byte h0 hE
  have hl := ha.l
  obtain ⟨p, r, f, ls⟩ := g
  dsimp only at *
  exact sG2 (by omega) (by rw [hb]; omega)
theorem Alike.step {s t : List UInt8} {E : Int} (ha : Alike s t E) {g g' : GS} (h : stepG s g = .inr g') (h0 : 0 ≤ g.at_)
    (hE : (((s.getD g.at_.toNat 0).toNat : Int) ≤ 8 → g.at_ + 1 + ((s.getD g.at_.toNat 0).toNat : Int) ≤ E) ∧ (192 ≤ ((s.getD g.at_.toNat 0).toNat : Int) → g.at_ + 1 < E)) : stepG t g = .inr g' := by
  have hl := ha.l
  obtain ⟨p, r, f, ls⟩ := g
  rcases inv_step h with ⟨h1, ⟨a1, a2, a3, a4, a5, rfl⟩ | ⟨a1, a2, a3, rfl⟩⟩
  · dsimp only at *
    have hE := hE.1 a2
    have hb := ha.byte h0 (show p < E by omega)
    have hs := ha.sl (i := p + 1) hE
    have := sG5 (s := t) (p := p) (r := r) (f := f) (ls := ls) (by omega) (by rw [hb]; exact a1) (by rw [hb]; exact a2) (by rw [hb]; omega) (by rw [hb, hs]; rintro (h | h); (rw [a4] at h; cases h); exact a5 h)
    rw [hb, hs] at this; exact this
  · dsimp only at *
    have hE := hE.2 a1
    have hb := ha.byte h0 (show p < E by omega)
    have hb2 := ha.byte (i := p + 1) (by omega) hE
    have := sG8 (s := t) (p := p) (r := r) (f := f) (ls := ls) (by omega) (by rw [hb]; omega) (by rw [hb]; omega) (by rw [hb]; exact a1) (by omega) (by rw [hb, hb2]; omega)
    rw [hb, hb2] at this; exact this
theorem getF_step {s : List UInt8} {n : Nat} {g : GS} {r : GR} (h : getF (n + 1) s g = some r) : stepG s g = .inl r ∨ ∃ g', stepG s g = .inr g' ∧ getF n s g' = some r := by
  simp only [getF] at h
  cases hs : stepG s g with
  | inl x => rw [hs] at h; simp only [Option.some.injEq] at h; subst h; exact .inl rfl
  | inr g' => rw [hs] at h; exact .inr ⟨g', rfl, h⟩
theorem step_at {s : List UInt8} {g g' : GS} (h : stepG s g = .inr g') (h0 : 0 ≤ g.at_) : 0 ≤ g'.at_ := by
  rcases inv_step h with ⟨h1, ⟨a1, a2, a3, a4, a5, rfl⟩ | ⟨a1, a2, a3, rfl⟩⟩ <;> dsimp only <;> omega
/-- in a longer text -/
theorem got_more {s t : List UInt8} (ha : Alike s t s.length) : ∀ (n : Nat) (g : GS) (nm : List UInt8) (e : Int), getF n s g = some (.ok nm e) → 0 ≤ g.at_ → Got t g (.ok nm e)
  | 0, _, _, _, h, _ => by simp [getF] at h
  | n + 1, g, nm, e, h, h0 => by
    rcases getF_step h with h | ⟨g', h, h'⟩
    · exact Got.stop (ha.ok h h0 (inv_ok h).1)
    · refine Got.step (ha.step h h0 ?_) (got_more ha n g' nm e h' (step_at h h0))
      rcases inv_step h with ⟨h1, ⟨a1, a2, a3, a4, a5, rfl⟩ | ⟨a1, a2, a3, rfl⟩⟩
      · exact ⟨fun _ => a3, fun h => by omega⟩
      · exact ⟨fun h => by omega, fun _ => a2⟩
/-- where it ends -/
theorem got_rng {s : List UInt8} : ∀ (n : Nat) (g : GS) (nm : List UInt8) (e : Int), getF n s g = some (.ok nm e) → 0 ≤ g.at_ → (g.fin < 0 → g.at_ < e ∧ e ≤ s.length) ∧ (0 ≤ g.fin → e = g.fin)
  | 0, _, _, _, h, _ => by simp [getF] at h
  | n + 1, g, nm, e, h, h0 => by
    rcases getF_step h with h | ⟨g', h, h'⟩
    · obtain ⟨h1, h2, _, rfl⟩ := inv_ok h
      refine ⟨fun hf => ?_, fun hf => ?_⟩
      · rw [if_pos hf]; omega
      · rw [if_neg (by omega)]
    · have ih := got_rng n g' nm e h' (step_at h h0)
      rcases inv_step h with ⟨h1, ⟨a1, a2, a3, a4, a5, rfl⟩ | ⟨a1, a2, a3, rfl⟩⟩
      · dsimp only at ih
        exact ⟨fun hf => by have := ih.1 hf; omega, ih.2⟩
      · dsimp only at ih
        refine ⟨fun hf => ?_, fun hf => ?_⟩
        · rw [if_pos hf] at ih; have := ih.2 (by omega); omega
        · rw [if_neg (by omega)] at ih; exact ih.2 hf
theorem lower_hi {b : UInt8} (h : 192 ≤ b.toNat) : lower b = b := by
  unfold lower; rw [if_neg (by omega)]
theorem lab_hi {l : List UInt8} (h : labOk (fold l) = true) {b : UInt8} (hb : b ∈ l) : b.toNat < 192 := by
  by_cases h2 : b.toNat < 192
  · exact h2
  · simp only [labOk, Bool.and_eq_true] at h
    have := List.all_eq_true.1 h.1.1 (lower b) (List.mem_map_of_mem hb)
    rw [lower_hi (by omega), isL_iff] at this
    omega
theorem slc_mem {s : List UInt8} {i j q : Int} (h0 : 0 ≤ i) (h1 : i ≤ q) (h2 : q < j) (h3 : j ≤ s.length) : s.getD q.toNat 0 ∈ slc s i j := by
  have e : (slc s i j)[q.toNat - i.toNat]? = s[q.toNat]? := by
    unfold slc
    rw [List.getElem?_drop, List.getElem?_take, if_pos (by omega)]
    congr 1; omega
  rw [List.getElem?_eq_getElem (by omega : q.toNat < s.length)] at e
  rw [List.getD_eq_getElem?_getD, List.getElem?_eq_getElem (by omega : q.toNat < s.length)]
  exact List.mem_of_getElem? e
theorem alike_take {s : List UInt8} {E : Int} (hE : E ≤ s.length) : Alike s (s.take E.toNat) E :=
  ⟨by rw [List.take_take, Nat.min_self], by rw [List.length_take]; omega⟩
/-- behind a pointer nothing at it or behind it is read -/
theorem cutA {s : List UInt8} {E : Int} (hE : E ≤ s.length) : ∀ (n : Nat) (g : GS) (nm : List UInt8) (e q : Int), getF n s g = some (.ok nm e) → 0 ≤ g.row → g.row ≤ g.at_ → g.at_ ≤ q → q < E →
    192 ≤ ((s.getD q.toNat 0).toNat : Int) → g.row ≤ ((s.getD q.toNat 0).toNat : Int) * 256 + ((s.getD (q + 1).toNat 0).toNat : Int) - 49152 → Got (s.take E.toNat) g (.ok nm e) := by
  intro n
  induction n with
  | zero => intro g nm e q h; simp [getF] at h
  | succ n ih =>
    intro g nm e q h h0 hr hq hqE hb ht
    have ha := alike_take hE
    rcases getF_step h with h | ⟨g', h, h'⟩
    · exact Got.stop (ha.ok h (by omega) (by omega))
    · have hne : g.at_ ≠ q := by
        intro e; subst e
        rcases inv_step h with ⟨h1, ⟨a1, a2, a3, a4, a5, _⟩ | ⟨a1, a2, a3, _⟩⟩ <;> omega
      have h2 := h
      rcases inv_step h2 with ⟨h1, ⟨a1, a2, a3, a4, a5, e5⟩ | ⟨a1, a2, a3, e5⟩⟩
      · have hw : g.at_ + 1 + ((s.getD g.at_.toNat 0).toNat : Int) ≤ q := by
          by_cases hw : g.at_ + 1 + ((s.getD g.at_.toNat 0).toNat : Int) ≤ q
          · exact hw
          · have := lab_hi a4 (slc_mem (s := s) (q := q) (by omega) (by omega) (by omega) a3)
            omega
        refine Got.step (ha.step h (by omega) ⟨fun _ => by omega, fun h => by omega⟩) ?_
        subst e5
        exact ih _ nm e q h' h0 (by dsimp only; omega) (by dsimp only; exact hw) hqE hb ht
      · refine Got.step (ha.step h (by omega) ⟨fun h => by omega, fun _ => by omega⟩) ?_
        subst e5
        exact ih _ nm e g.at_ h' (by dsimp only; omega) (by dsimp only; omega) (by dsimp only; omega) (by omega) a1 (by dsimp only; omega)
theorem cutB' {s : List UInt8} : ∀ (n : Nat) (g : GS) (nm : List UInt8) (e : Int), getF n s g = some (.ok nm e) → g.fin < 0 → 0 ≤ g.row → g.row ≤ g.at_ → Got (s.take e.toNat) g (.ok nm e)
  | 0, _, _, _, h, _, _, _ => by simp [getF] at h
  | n + 1, g, nm, e, h, hf, h0, hr => by
    have hrng := (got_rng _ _ _ _ h (by omega)).1 hf
    have ha := alike_take hrng.2
    rcases getF_step h with h | ⟨g', h, h'⟩
    · exact Got.stop (ha.ok h (by omega) (by omega))
    · have hrng2 := got_rng _ _ _ _ h' (step_at h (by omega))
      have h2 := h
      rcases inv_step h2 with ⟨h1, ⟨a1, a2, a3, a4, a5, e5⟩ | ⟨a1, a2, a3, e5⟩⟩
      · subst e5
        dsimp only at hrng2
        have := (hrng2.1 hf).1
        exact Got.step (ha.step h (by omega) ⟨fun _ => by omega, fun h => by omega⟩) (cutB' n _ nm e h' hf h0 (by dsimp only; omega))
      · subst e5
        dsimp only at hrng2
        rw [if_pos hf] at hrng2
        have := hrng2.2 (by omega)
        refine Got.step (ha.step h (by omega) ⟨fun h => by omega, fun _ => by omega⟩) ?_
        exact cutA hrng.2 n _ nm e g.at_ h' (by dsimp only; omega) (by dsimp only; omega) (by dsimp only; omega) (by omega) a1 (by dsimp only; omega)
theorem getName_nn {s : List UInt8} {p : Int} {nm : List UInt8} {to : Int} (h : getName s p = .ok nm to) : 0 ≤ p := by
  by_cases hp : p < 0
  · rw [getName_neg s hp] at h; cases h
  · omega
theorem getName_gotF {s : List UInt8} {p : Int} {nm : List UInt8} {to : Int} (h : getName s p = .ok nm to) : ∃ n, getF n s (GS.of p) = some (.ok nm to) := by
  have := getName_got s (getName_nn h); rw [h] at this; exact this
theorem getName_rng {s : List UInt8} {p : Int} {nm : List UInt8} {to : Int} (h : getName s p = .ok nm to) : 0 ≤ p ∧ p < to ∧ to ≤ s.length := by
  have h0 := getName_nn h
  obtain ⟨n, hn⟩ := getName_gotF h
  have := (got_rng n _ _ _ hn h0).1 (by show (-1 : Int) < 0; decide)
  exact ⟨h0, this.1, this.2⟩
theorem getName_more {s : List UInt8} {p : Int} {nm : List UInt8} {to : Int} (h : getName s p = .ok nm to) (z : List UInt8) : getName (s ++ z) p = .ok nm to := by
  have h0 := getName_nn h
  obtain ⟨n, hn⟩ := getName_gotF h
  refine getName_eq h0 (got_more ⟨?_, ?_⟩ n _ _ _ hn h0)
  · rw [Int.toNat_natCast, List.take_left, List.take_length]
  · rw [List.length_append]; omega
theorem getName_cut {s : List UInt8} {p : Int} {nm : List UInt8} {to : Int} (h : getName s p = .ok nm to) : getName (s.take to.toNat) p = .ok nm to := by
  have h0 := getName_nn h
  obtain ⟨n, hn⟩ := getName_gotF h
  exact getName_eq h0 (cutB' n _ _ _ hn (by show (-1 : Int) < 0; decide) h0 (Int.le_refl _))
theorem getName_take {s : List UInt8} {p E : Int} {nm : List UInt8} {to : Int} (hE : E ≤ s.length) : getName (s.take E.toNat) p = .ok nm to ↔ getName s p = .ok nm to ∧ to ≤ E := by
  constructor
  · intro h
    have hr := getName_rng h
    rw [List.length_take] at hr
    have := getName_more h (s.drop E.toNat)
    rw [List.take_append_drop] at this
    exact ⟨this, by omega⟩
  · rintro ⟨h, hle⟩
    have hr := getName_rng h
    have := getName_more (getName_cut h) ((s.take E.toNat).drop to.toNat)
    have e : s.take to.toNat = (s.take E.toNat).take to.toNat := by rw [List.take_take, Nat.min_eq_left (by omega)]
    rw [e, List.take_append_drop] at this
    exact this

end Go.Proofs.YtfmdaijkgjkmpaaGreatDoor

set_option linter.unusedVariables false
set_option linter.unusedSimpArgs false
namespace Go.Proofs.YtfmdaijkgjkmpaaGreatDoor
/-! records: what the pen writes, what the taker takes -/
structure PS where
  out : List UInt8
  ks : List Kn
  bad : Bool
def pName (W : Int → Int) (fr : Int) (s : List UInt8) (p : PS) : PS :=
  if p.bad = true ∨ (nmPut (W (fr + p.out.length)) p.ks s).2.2 ≠ 0 then ⟨p.out, p.ks, true⟩ else ⟨p.out ++ (nmPut (W (fr + p.out.length)) p.ks s).1, (nmPut (W (fr + p.out.length)) p.ks s).2.1, false⟩
def pNum (x : Int) (k : Nat) (p : PS) : PS := ⟨p.out ++ beb x k, p.ks, p.bad⟩
def pRaw (t : List UInt8) (p : PS) : PS := ⟨p.out ++ t, p.ks, p.bad⟩
def pData (W : Int → Int) (fr : Int) (r : RR) (p : PS) : PS :=
  if r.type = 1 then pNum r.addr 4 p
  else if r.type = 6 then pRaw soaTail (pNum r.serial 4 (pName W fr r.target (pName W fr r.target p)))
  else if r.type = 16 then pRaw r.text (pNum r.text.length 1 p)
  else if r.type = 49 then pRaw r.text p
  else pName W fr r.target p
def pHead (W : Int → Int) (at_ : Int) (ks : List Kn) (r : RR) : PS := pNum r.ttl 4 (pNum 1 2 (pNum r.type 2 (pName W at_ r.name ⟨[], ks, false⟩)))
def pAll (W : Int → Int) (at_ : Int) (ks : List Kn) (r : RR) : PS := pData W at_ r (pNum 0 2 (pHead W at_ ks r))
def rrPut (at_ : Int) (ks : List Kn) (r : RR) : List UInt8 × List Kn × Int := match putRr at_ ks r with
  | none => ([], [], 400)
  | some x => (x.1, x.2, 0)
theorem pName_ok {W : Int → Int} {fr : Int} {s : List UInt8} {p : PS} (h : (pName W fr s p).bad = false) : p.bad = false ∧ (nmPut (W (fr + p.out.length)) p.ks s).2.2 = 0 ∧ pName W fr s p = ⟨p.out ++ (nmPut (W (fr + p.out.length)) p.ks s).1, (nmPut (W (fr + p.out.length)) p.ks s).2.1, false⟩ := by
  unfold pName at h ⊢
  split at h
  · cases h
  · rename_i hc
    rw [if_neg hc]
    simp only [not_or, Decidable.not_not, Bool.not_eq_true] at hc
    exact ⟨hc.1, hc.2, rfl⟩
theorem pName_bad {W : Int → Int} {fr : Int} {s : List UInt8} {p : PS} (h : (pName W fr s p).bad = true) : (p.bad = true ∨ (nmPut (W (fr + p.out.length)) p.ks s).2.2 ≠ 0) ∧ pName W fr s p = ⟨p.out, p.ks, true⟩ := by
  unfold pName at h ⊢
  split at h
  · rename_i hc; rw [if_pos hc]; exact ⟨hc, rfl⟩
  · cases h
theorem pData_good {W : Int → Int} {fr : Int} {r : RR} {p : PS} (h : (pData W fr r p).bad = false) : p.bad = false := by
  unfold pData at h
  split at h
  · exact h
  split at h
  · exact (pName_ok (pName_ok h).1).1
  split at h
  · exact h
  split at h
  · exact h
  · exact (pName_ok h).1
theorem nmPut_putName {at_ : Int} {ks : List Kn} {nm : List UInt8} : putName at_ ks nm = if (nmPut at_ ks nm).2.2 = 0 then some ((nmPut at_ ks nm).1, (nmPut at_ ks nm).2.1) else none := by
  unfold nmPut
  cases putName at_ ks nm <;> rfl
theorem nmPut_rng {at_ : Int} {ks : List Kn} {nm : List UInt8} (h : (nmPut at_ ks nm).2.2 = 0) : 0 ≤ at_ ∧ at_ ≤ 65535 := by
  have := (nmPut_zero h).1
  simp only [Bool.and_eq_true, decide_eq_true_eq] at this
  exact ⟨this.1.1.2, this.1.2⟩
theorem beb_1 (x : Int) : beb x 1 = [byteOf x] := rfl
theorem pAll_head {W : Int → Int} {at_ : Int} {ks : List Kn} {r : RR} (h : (pAll W at_ ks r).bad = false) : (pName W at_ r.name ⟨[], ks, false⟩).bad = false := by
  have := pData_good h
  simpa only [pNum, pHead] using this
/-- what all of it comes to -/
theorem pAll_eq {W : Int → Int} (hW : ∀ x : Int, -4611686018427387904 ≤ x → x ≤ 4611686018427387904 → W x = x) {at_ : Int} (hW1 : W at_ = at_) {ks : List Kn} {r : RR} (hm : rrMay r = true) :
    ((pAll W at_ ks r).bad = true ∧ putRr at_ ks r = none) ∨
    ((pAll W at_ ks r).bad = false ∧ putRr at_ ks r = some ((pHead W at_ ks r).out ++ beb ((pAll W at_ ks r).out.drop ((pHead W at_ ks r).out.length + 2)).length 2 ++ (pAll W at_ ks r).out.drop ((pHead W at_ ks r).out.length + 2), (pAll W at_ ks r).ks)) := by
  have hn : putRr at_ ks r = (putName at_ ks r.name).bind fun x => (dataPut (at_ + x.1.length + 10) x.2 r).map fun y => (x.1 ++ beb r.type 2 ++ beb 1 2 ++ beb r.ttl 4 ++ beb y.1.length 2 ++ y.1, y.2) := by rw [putRr, if_pos hm]
  cases hb : (pName W at_ r.name ⟨[], ks, false⟩).bad with
  | true =>
    have h1 := (pName_bad hb).1
    simp only [List.length_nil, Int.natCast_zero, Int.add_zero, hW1, Bool.false_eq_true, false_or] at h1
    refine .inl ⟨?_, by rw [hn, nmPut_putName, if_neg h1]; rfl⟩
    cases hq : (pAll W at_ ks r).bad with
    | true => rfl
    | false => have h3 := pAll_head hq; rw [hb] at h3; cases h3
  | false =>
    obtain ⟨_, h1, h2⟩ := pName_ok hb
    simp only [List.length_nil, Int.natCast_zero, Int.add_zero, hW1, List.nil_append] at h1 h2
    have hr := nmPut_rng h1
    have h74 := (nmPut_more at_ ks r.name).1
    generalize hx : nmPut at_ ks r.name = x at *
    have hH : pHead W at_ ks r = ⟨x.1 ++ beb r.type 2 ++ beb 1 2 ++ beb r.ttl 4, x.2.1, false⟩ := by rw [pHead, h2]; rfl
    have hP : pNum 0 2 (pHead W at_ ks r) = ⟨x.1 ++ beb r.type 2 ++ beb 1 2 ++ beb r.ttl 4 ++ beb 0 2, x.2.1, false⟩ := by rw [hH]; rfl
    have hl : (x.1 ++ beb r.type 2 ++ beb 1 2 ++ beb r.ttl 4 ++ beb 0 2).length = x.1.length + 10 := by simp only [List.length_append, beb_len]
    have hl0 : (x.1 ++ beb r.type 2 ++ beb 1 2 ++ beb r.ttl 4).length + 2 = x.1.length + 10 := by simp only [List.length_append, beb_len]
    rw [hn, nmPut_putName, hx, if_pos h1, Option.bind_some]
    dsimp only
    have key : ∀ (d : List UInt8) (k2 : List Kn), pAll W at_ ks r = ⟨x.1 ++ beb r.type 2 ++ beb 1 2 ++ beb r.ttl 4 ++ beb 0 2 ++ d, k2, false⟩ → dataPut (at_ + x.1.length + 10) x.2.1 r = some (d, k2) →
      ((pAll W at_ ks r).bad = true ∧ ((dataPut (at_ + x.1.length + 10) x.2.1 r).map fun y => (x.1 ++ beb r.type 2 ++ beb 1 2 ++ beb r.ttl 4 ++ beb y.1.length 2 ++ y.1, y.2)) = none) ∨
      ((pAll W at_ ks r).bad = false ∧ ((dataPut (at_ + x.1.length + 10) x.2.1 r).map fun y => (x.1 ++ beb r.type 2 ++ beb 1 2 ++ beb r.ttl 4 ++ beb y.1.length 2 ++ y.1, y.2)) = some ((pHead W at_ ks r).out ++ beb ((pAll W at_ ks r).out.drop ((pHead W at_ ks r).out.length + 2)).length 2 ++ (pAll W at_ ks r).out.drop ((pHead W at_ ks r).out.length + 2), (pAll W at_ ks r).ks)) := by
      intro d k2 e1 e2
      refine .inr ?_
      rw [e1, e2, hH]
      refine ⟨rfl, ?_⟩
      dsimp only
      rw [hl0, ← hl, List.drop_left]; rfl
    have hW2 : ∀ k : Nat, k ≤ 1000000 → W (at_ + ((x.1 ++ beb r.type 2 ++ beb 1 2 ++ beb r.ttl 4 ++ beb 0 2).length : Int) + k) = at_ + x.1.length + 10 + k := fun k hk => by
      rw [hl, hW _ (by omega) (by omega)]; omega
    have bad : (pAll W at_ ks r).bad = true → dataPut (at_ + x.1.length + 10) x.2.1 r = none → ((pAll W at_ ks r).bad = true ∧ ((dataPut (at_ + x.1.length + 10) x.2.1 r).map fun y => (x.1 ++ beb r.type 2 ++ beb 1 2 ++ beb r.ttl 4 ++ beb y.1.length 2 ++ y.1, y.2)) = none) ∨
      ((pAll W at_ ks r).bad = false ∧ ((dataPut (at_ + x.1.length + 10) x.2.1 r).map fun y => (x.1 ++ beb r.type 2 ++ beb 1 2 ++ beb r.ttl 4 ++ beb y.1.length 2 ++ y.1, y.2)) = some ((pHead W at_ ks r).out ++ beb ((pAll W at_ ks r).out.drop ((pHead W at_ ks r).out.length + 2)).length 2 ++ (pAll W at_ ks r).out.drop ((pHead W at_ ks r).out.length + 2), (pAll W at_ ks r).ks)) := fun a b => by
      rw [b]; exact .inl ⟨a, rfl⟩
    have hA : pAll W at_ ks r = pData W at_ r ⟨x.1 ++ beb r.type 2 ++ beb 1 2 ++ beb r.ttl 4 ++ beb 0 2, x.2.1, false⟩ := by rw [pAll, hP]
    by_cases t1 : r.type = 1
    · exact key (beb r.addr 4) x.2.1 (by rw [hA, pData, if_pos t1]; rfl) (by rw [dataPut, if_pos t1])
    by_cases t6 : r.type = 6
    · generalize hy : nmPut (at_ + x.1.length + 10) x.2.1 r.target = y at *
      have w0 : W (at_ + ((x.1 ++ beb r.type 2 ++ beb 1 2 ++ beb r.ttl 4 ++ beb 0 2).length : Int)) = at_ + x.1.length + 10 := by have := hW2 0 (by omega); simpa using this
      cases hb2 : (pName W at_ r.target ⟨x.1 ++ beb r.type 2 ++ beb 1 2 ++ beb r.ttl 4 ++ beb 0 2, x.2.1, false⟩).bad with
      | true =>
        have h3 := (pName_bad hb2).1
        simp only [w0, hy, Bool.false_eq_true, false_or] at h3
        refine bad ?_ ?_
        · rw [hA, pData, if_neg t1, if_pos t6]
          show (pName W at_ r.target _).bad = true
          rw [pName, if_pos (.inl hb2)]
        · rw [dataPut, if_neg t1, if_pos t6, nmPut_putName, hy, if_neg h3]; rfl
      | false =>
        obtain ⟨_, h3, h4⟩ := pName_ok hb2
        simp only [w0, hy] at h3 h4
        have hy74 := (nmPut_more (at_ + x.1.length + 10) x.2.1 r.target).1
        rw [hy] at hy74
        have w1 : W (at_ + ((x.1 ++ beb r.type 2 ++ beb 1 2 ++ beb r.ttl 4 ++ beb 0 2 ++ y.1).length : Int)) = at_ + x.1.length + 10 + y.1.length := by
          rw [List.length_append, hl, hW _ (by omega) (by omega)]; omega
        generalize hz : nmPut (at_ + x.1.length + 10 + y.1.length) y.2.1 r.target = z at *
        cases hb3 : (pName W at_ r.target ⟨x.1 ++ beb r.type 2 ++ beb 1 2 ++ beb r.ttl 4 ++ beb 0 2 ++ y.1, y.2.1, false⟩).bad with
        | true =>
          have h5 := (pName_bad hb3).1
          simp only [w1, hz, Bool.false_eq_true, false_or] at h5
          refine bad ?_ ?_
          · rw [hA, pData, if_neg t1, if_pos t6, h4]
            exact hb3
          · rw [dataPut, if_neg t1, if_pos t6, nmPut_putName, hy, if_pos h3, Option.bind_some]
            dsimp only
            rw [nmPut_putName, hz, if_neg h5]; rfl
        | false =>
          obtain ⟨_, h5, h6⟩ := pName_ok hb3
          simp only [w1, hz] at h5 h6
          refine key (y.1 ++ z.1 ++ beb r.serial 4 ++ soaTail) z.2.1 ?_ ?_
          · rw [hA, pData, if_neg t1, if_pos t6, h4, h6]
            simp only [pNum, pRaw, List.append_assoc]
          · rw [dataPut, if_neg t1, if_pos t6, nmPut_putName, hy, if_pos h3, Option.bind_some]
            dsimp only
            rw [nmPut_putName, hz, if_pos h5]; rfl
    by_cases t16 : r.type = 16
    · refine key (UInt8.ofNat r.text.length :: r.text) x.2.1 ?_ (by rw [dataPut, if_neg t1, if_neg t6, if_pos t16])
      rw [hA, pData, if_neg t1, if_neg t6, if_pos t16]
      simp only [pNum, pRaw, beb_1, byteOf_nat, List.append_assoc, List.cons_append, List.nil_append]
    by_cases t49 : r.type = 49
    · exact key r.text x.2.1 (by rw [hA, pData, if_neg t1, if_neg t6, if_neg t16, if_pos t49]; rfl) (by rw [dataPut, if_neg t1, if_neg t6, if_neg t16, if_pos t49])
    · have w0 : W (at_ + ((x.1 ++ beb r.type 2 ++ beb 1 2 ++ beb r.ttl 4 ++ beb 0 2).length : Int)) = at_ + x.1.length + 10 := by have := hW2 0 (by omega); simpa using this
      generalize hy : nmPut (at_ + x.1.length + 10) x.2.1 r.target = y at *
      cases hb2 : (pName W at_ r.target ⟨x.1 ++ beb r.type 2 ++ beb 1 2 ++ beb r.ttl 4 ++ beb 0 2, x.2.1, false⟩).bad with
      | true =>
        have h3 := (pName_bad hb2).1
        simp only [w0, hy, Bool.false_eq_true, false_or] at h3
        refine bad ?_ ?_
        · rw [hA, pData, if_neg t1, if_neg t6, if_neg t16, if_neg t49]; exact hb2
        · rw [dataPut, if_neg t1, if_neg t6, if_neg t16, if_neg t49, nmPut_putName, hy, if_neg h3]
      | false =>
        obtain ⟨_, h3, h4⟩ := pName_ok hb2
        simp only [w0, hy] at h3 h4
        refine key y.1 y.2.1 ?_ ?_
        · rw [hA, pData, if_neg t1, if_neg t6, if_neg t16, if_neg t49, h4]
        · rw [dataPut, if_neg t1, if_neg t6, if_neg t16, if_neg t49, nmPut_putName, hy, if_pos h3]

end Go.Proofs.YtfmdaijkgjkmpaaGreatDoor

set_option linter.unusedVariables false
set_option linter.unusedSimpArgs false
namespace Go.Proofs.YtfmdaijkgjkmpaaGreatDoor
/-! records: what is taken -/
structure TS where
  at_ : Int
  bad : Bool
def beG (s : List UInt8) (p k : Int) : Int × Int := if ¬ (k = 1 ∨ k = 2 ∨ k = 4) ∨ p < 0 then (0, 100) else if (s.length : Int) - k < p then (0, 101) else (numI (slc s p (p + k)), 0)
def tNum (W : Int → Int) (s : List UInt8) (k : Int) (t : TS) : Int × TS := ((beG s t.at_ k).1, ⟨W (t.at_ + k), bif t.bad then true else !decide ((beG s t.at_ k).2 = 0)⟩)
def tName (s : List UInt8) (t : TS) : List UInt8 × TS := (grN (getName s t.at_), if t.bad = true ∨ grE (getName s t.at_) ≠ 0 then ⟨t.at_, true⟩ else ⟨grT (getName s t.at_), false⟩)
def tSome (s : List UInt8) (k : Int) (t : TS) : List UInt8 × TS := if t.bad = true ∨ (s.length : Int) - t.at_ < k then ([], ⟨t.at_, true⟩) else (slc s t.at_ (t.at_ + k), ⟨t.at_ + k, false⟩)
def tTime (W : Int → Int) (s : List UInt8) (t : TS) (x : Int) : TS := ⟨(tNum W s 4 t).2.at_, bif !decide ((tNum W s 4 t).1 = x) then true else (tNum W s 4 t).2.bad⟩
def tSoa (W : Int → Int) (s : List UInt8) (r : RR) (t : TS) : RR × TS :=
  let x := tName s t
  let y := tName s x.2
  let n := tNum W s 4 ⟨y.2.at_, bif !decide (y.1 = x.1) then true else y.2.bad⟩
  (⟨r.name, r.type, r.ttl, r.addr, x.1, r.text, n.1⟩, ([60, 60, 600, 60] : List Int).foldl (tTime W s) n.2)
def tType (W : Int → Int) (s : List UInt8) (size : Int) (r : RR) (t : TS) : RR × TS :=
  if r.type = 1 then (⟨r.name, r.type, r.ttl, (tNum W s 4 t).1, r.target, r.text, r.serial⟩, (tNum W s 4 t).2)
  else if isName r.type = true then (⟨r.name, r.type, r.ttl, r.addr, (tName s t).1, r.text, r.serial⟩, (tName s t).2)
  else if r.type = 6 then tSoa W s r t
  else if r.type = 16 then (⟨r.name, r.type, r.ttl, r.addr, r.target, (tSome s (tNum W s 1 t).1 (tNum W s 1 t).2).1, r.serial⟩, (tSome s (tNum W s 1 t).1 (tNum W s 1 t).2).2)
  else (⟨r.name, r.type, r.ttl, r.addr, r.target, (tSome s size t).1, r.serial⟩, (tSome s size t).2)
def tData (W : Int → Int) (s : List UInt8) (size : Int) (r : RR) (t : TS) : RR × TS :=
  ((tType W s size r t).1, ⟨(tType W s size r t).2.at_, bif (tType W s size r t).2.bad then true else !decide ((tType W s size r t).2.at_ = W (t.at_ + size))⟩)
/-- the head of a record: what it tells, how many bytes there are behind it, and where they are -/
def tHead (W : Int → Int) (s : List UInt8) (p : Int) : RR × Int × TS :=
  let a := tName s ⟨p, false⟩
  let b := tNum W s 2 a.2
  let c := tNum W s 2 b.2
  let l := tNum W s 4 ⟨c.2.at_, bif !decide (c.1 = 1) then true else c.2.bad⟩
  let z := tNum W s 2 l.2
  (⟨a.1, b.1, l.1, 0, [], [], 0⟩, z.1, z.2)
def tAll (W : Int → Int) (s : List UInt8) (p : Int) : RR × TS := if (tHead W s p).2.2.bad = true then ((tHead W s p).1, (tHead W s p).2.2) else tData W s (tHead W s p).2.1 (tHead W s p).1 (tHead W s p).2.2
abbrev noR : RR := ⟨[], 0, 0, 0, [], [], 0⟩
def fin (x : RR × TS) : RR × Int × Int := if x.2.bad = true ∨ rrMay x.1 = false then (noR, 0, 400) else (x.1, x.2.at_, 0)
/-! the same, as the document has it -/
def dataG (s : List UInt8) (r : RR) (p k : Int) : Option RR :=
  if r.type = 1 then (if k = 4 then some ⟨r.name, r.type, r.ttl, numI (slc s p (p + 4)), r.target, r.text, r.serial⟩ else none)
  else if isName r.type = true then (if grE (getName s p) = 0 ∧ grT (getName s p) = p + k then some ⟨r.name, r.type, r.ttl, r.addr, grN (getName s p), r.text, r.serial⟩ else none)
  else if r.type = 6 then (if grE (getName s p) = 0 ∧ grE (getName s (grT (getName s p))) = 0 ∧ grN (getName s (grT (getName s p))) = grN (getName s p) ∧ grT (getName s (grT (getName s p))) + 20 = p + k ∧
      slc s (grT (getName s (grT (getName s p))) + 4) (p + k) = soaTail then some ⟨r.name, r.type, r.ttl, r.addr, grN (getName s p), r.text, numI (slc s (grT (getName s (grT (getName s p)))) (grT (getName s (grT (getName s p))) + 4))⟩ else none)
  else if r.type = 16 then (if 0 < k ∧ numI (slc s p (p + 1)) = k - 1 then some ⟨r.name, r.type, r.ttl, r.addr, r.target, slc s (p + 1) (p + k), r.serial⟩ else none)
  else some ⟨r.name, r.type, r.ttl, r.addr, r.target, slc s p (p + k), r.serial⟩
def headG (s : List UInt8) (to : Int) (nm : List UInt8) : RR := ⟨nm, numI (slc s to (to + 2)), numI (slc s (to + 4) (to + 8)), 0, [], [], 0⟩
def sizeG (s : List UInt8) (to : Int) : Int := numI (slc s (to + 8) (to + 10))
def gR (s : List UInt8) (p : Int) : Option (RR × Int) := match getName s p with
  | .err _ => none
  | .ok nm to => if to + 10 ≤ s.length ∧ numI (slc s (to + 2) (to + 4)) = 1 ∧ to + 10 + sizeG s to ≤ s.length then
      (dataG s (headG s to nm) (to + 10) (sizeG s to)).bind fun r => if rrMay r = true then some (r, to + 10 + sizeG s to) else none
    else none
def rrGet (s : List UInt8) (p : Int) : RR × Int × Int := match gR s p with
  | none => (noR, 0, 400)
  | some x => (x.1, x.2, 0)
theorem GR.err_ne {s : List UInt8} {p e : Int} (h : getName s p = .err e) : e ≠ 0 := by
  intro h0; subst h0
  by_cases hp : p < 0
  · rw [getName_neg s hp] at h; cases h
  · obtain ⟨n, hn⟩ := getName_got s (show 0 ≤ p by omega)
    rw [h] at hn
    have key : ∀ (n : Nat) (g : GS), getF n s g ≠ some (.err 0) := by
      intro n
      induction n with
      | zero => intro g; simp [getF]
      | succ n ih =>
        intro g hg
        rcases getF_step hg with h | ⟨g', _, h⟩
        · obtain ⟨q, r, f, ls⟩ := g
          revert h
          unfold stepG
          dsimp only
          repeat' split
          all_goals simp
        · exact ih g' h
    exact key n _ hn
theorem gr_ok {s : List UInt8} {p : Int} (h : grE (getName s p) = 0) : getName s p = .ok (grN (getName s p)) (grT (getName s p)) := by
  cases hg : getName s p with
  | err e => rw [hg] at h; exact absurd h (GR.err_ne hg)
  | ok nm to => rfl
theorem slc_len {s : List UInt8} {i j : Int} (h0 : 0 ≤ i) (h1 : i ≤ j) (h2 : j ≤ s.length) : (slc s i j).length = (j - i).toNat := by
  unfold slc; rw [List.length_drop, List.length_take]; omega
theorem beG_rng (s : List UInt8) (p : Int) : 0 ≤ (beG s p 2).1 ∧ (beG s p 2).1 < 65536 := by
  unfold beG
  split; · simp
  split; · simp
  rename_i h1 h2
  have := numI_bd (slc s p (p + 2))
  rw [slc_len (by omega) (by omega) (by omega)] at this
  have e : (p + 2 - p).toNat = 2 := by omega
  rw [e] at this
  have e2 : (256 : Int) ^ 2 = 65536 := by decide
  rw [e2] at this; exact this
/-- a number is taken: there it is, or all is bad -/
theorem tNum_ok {W : Int → Int} (hW : ∀ x : Int, 0 ≤ x → x ≤ 4611686018427387904 → W x = x) {s : List UInt8} (hs : s.length ≤ 140737488355328) {k : Int} (hk : k = 1 ∨ k = 2 ∨ k = 4) {t : TS} (ht : t.bad = false → 0 ≤ t.at_) :
    ((tNum W s k t).2.bad = true ∧ (t.bad = true ∨ (s.length : Int) < t.at_ + k)) ∨ (t.bad = false ∧ t.at_ + k ≤ s.length ∧ tNum W s k t = (numI (slc s t.at_ (t.at_ + k)), ⟨t.at_ + k, false⟩)) := by
  obtain ⟨p, b⟩ := t
  cases b with
  | true => left; exact ⟨by simp [tNum], .inl rfl⟩
  | false =>
    have h0 := ht rfl
    dsimp only at h0 ⊢
    by_cases h : (s.length : Int) - k < p
    · left; refine ⟨?_, .inr (by omega)⟩
      simp only [tNum, beG]
      rw [if_neg (by omega), if_pos h]; rfl
    · right
      refine ⟨rfl, by omega, ?_⟩
      simp only [tNum, beG]
      rw [if_neg (by omega), if_neg h, hW _ (by omega) (by omega)]; rfl
theorem tNum_bad {W : Int → Int} {s : List UInt8} {k : Int} {t : TS} (h : t.bad = true) : (tNum W s k t).2.bad = true := by simp [tNum, h]
theorem tName_ok {s : List UInt8} {t : TS} : ((tName s t).2.bad = true ∧ (t.bad = true ∨ grE (getName s t.at_) ≠ 0)) ∨ (t.bad = false ∧ grE (getName s t.at_) = 0 ∧ tName s t = (grN (getName s t.at_), ⟨grT (getName s t.at_), false⟩)) := by
  unfold tName
  by_cases h : t.bad = true ∨ grE (getName s t.at_) ≠ 0
  · left; rw [if_pos h]; exact ⟨rfl, h⟩
  · right; rw [if_neg h]
    simp only [not_or, Decidable.not_not, Bool.not_eq_true] at h
    exact ⟨h.1, h.2, rfl⟩
theorem tName_bad {s : List UInt8} {t : TS} (h : t.bad = true) : (tName s t).2.bad = true := by simp [tName, h]
theorem times_bad {W : Int → Int} {s : List UInt8} : ∀ (l : List Int) {t : TS}, t.bad = true → (l.foldl (tTime W s) t).bad = true
  | [], _, h => h
  | x :: l, t, h => times_bad l (by simp [tTime, tNum, h])
/-- numbers that should stand there -/
def tims (l : List Int) : List UInt8 := l.flatMap fun x => beb x 4
theorem slc_app {s : List UInt8} {i j k : Int} (h0 : 0 ≤ i) (h1 : i ≤ j) (h2 : j ≤ k) (h3 : k ≤ s.length) : slc s i k = slc s i j ++ slc s j k := by
  unfold slc
  apply List.ext_getElem?
  intro n
  rw [List.getElem?_drop, List.getElem?_take, List.getElem?_append]
  simp only [List.length_drop, List.length_take, List.getElem?_drop, List.getElem?_take]
  by_cases hn : n < min j.toNat s.length - i.toNat
  · rw [if_pos hn, if_pos (by omega), if_pos (by omega)]
  · rw [if_neg hn]
    have e : j.toNat + (n - (min j.toNat s.length - i.toNat)) = i.toNat + n := by omega
    rw [e]
theorem times_ok {W : Int → Int} (hW : ∀ x : Int, 0 ≤ x → x ≤ 4611686018427387904 → W x = x) {s : List UInt8} (hs : s.length ≤ 140737488355328) : ∀ (l : List Int) (t : TS), l.length ≤ 1000 → (∀ x ∈ l, 0 ≤ x ∧ x < 4294967296) → (t.bad = false → 0 ≤ t.at_ ∧ t.at_ ≤ s.length) →
    ((l.foldl (tTime W s) t).bad = true ∧ (t.bad = true ∨ (s.length : Int) < t.at_ + 4 * l.length ∨ slc s t.at_ (t.at_ + 4 * l.length) ≠ tims l)) ∨
    (t.bad = false ∧ t.at_ + 4 * l.length ≤ s.length ∧ slc s t.at_ (t.at_ + 4 * l.length) = tims l ∧ l.foldl (tTime W s) t = ⟨t.at_ + 4 * l.length, false⟩)
  | [], t, _, _, ht => by
    cases hb : t.bad with
    | true => exact .inl ⟨hb, .inl rfl⟩
    | false =>
      have := ht hb
      right
      refine ⟨rfl, by simp; omega, ?_, ?_⟩
      · simp [slc, tims]
      · obtain ⟨p, b⟩ := t; simp only at hb; subst hb; simp
  | x :: l, t, hl, hx, ht => by
    simp only [List.length_cons] at hl
    rcases tNum_ok hW hs (k := 4) (by simp) (t := t) (fun h => (ht h).1) with ⟨h1, h2⟩ | ⟨h1, h2, h3⟩
    · left
      refine ⟨times_bad l (by simp [tTime, h1]), ?_⟩
      rcases h2 with h2 | h2
      · exact .inl h2
      · exact .inr (.inl (by simp only [List.length_cons]; omega))
    · have h0 := ht h1
      have hsl : (slc s t.at_ (t.at_ + 4)).length = 4 := by rw [slc_len h0.1 (by omega) h2]; omega
      by_cases he : numI (slc s t.at_ (t.at_ + 4)) = x
      · have hT : tTime W s t x = ⟨t.at_ + 4, false⟩ := by simp [tTime, h3, he]
        have hb4 : slc s t.at_ (t.at_ + 4) = beb x 4 := by rw [← he, beb_numI 4 _ hsl]
        have ih := times_ok hW hs l ⟨t.at_ + 4, false⟩ (by omega) (fun y hy => hx y (by simp [hy])) (fun _ => ⟨by dsimp only; omega, h2⟩)
        dsimp only at ih
        have e : t.at_ + 4 + 4 * (l.length : Int) = t.at_ + 4 * ((x :: l).length : Int) := by simp only [List.length_cons]; omega
        rw [e] at ih
        simp only [List.foldl_cons, hT]
        rcases ih with ⟨i1, i2⟩ | ⟨_, i2, i3, i4⟩
        · left
          refine ⟨i1, ?_⟩
          rcases i2 with i2 | i2 | i2
          · cases i2
          · exact .inr (.inl i2)
          · by_cases hlen : (s.length : Int) < t.at_ + 4 * ((x :: l).length : Int)
            · exact .inr (.inl hlen)
            · refine .inr (.inr ?_)
              rw [slc_app h0.1 (by omega : t.at_ ≤ t.at_ + 4) (by simp only [List.length_cons]; omega) (by omega), hb4]
              intro h7
              exact i2 (List.append_cancel_left (h7.trans (by simp [tims] : tims (x :: l) = beb x 4 ++ tims l)))
        · right
          refine ⟨h1, i2, ?_, i4⟩
          rw [slc_app h0.1 (by omega : t.at_ ≤ t.at_ + 4) (by simp only [List.length_cons]; omega) (by omega), hb4, i3]
          simp [tims]
      · left
        have hT : (tTime W s t x).bad = true := by simp [tTime, h3, he]
        simp only [List.foldl_cons]
        refine ⟨times_bad l hT, ?_⟩
        by_cases hlen : (s.length : Int) < t.at_ + 4 * ((x :: l).length : Int)
        · exact .inr (.inl hlen)
        · refine .inr (.inr ?_)
          rw [slc_app h0.1 (by omega : t.at_ ≤ t.at_ + 4) (by simp only [List.length_cons]; omega) (by omega)]
          intro h7
          apply he
          have h8 : slc s t.at_ (t.at_ + 4) = beb x 4 := by
            have := congrArg (List.take 4) h7
            rw [List.take_left' hsl] at this
            rw [this]
            simp only [tims, List.flatMap_cons]
            exact List.take_left' (beb_len 4 x)
          rw [h8]
          have := hx x (by simp)
          exact numI_beb 4 x this.1 (by have : (256 : Int) ^ 4 = 4294967296 := by decide
                                        omega)
theorem soaTail_tims : soaTail = tims [60, 60, 600, 60] := by simp [soaTail, tims]
theorem tData_ok {W : Int → Int} (hW : ∀ x : Int, 0 ≤ x → x ≤ 4611686018427387904 → W x = x) {s : List UInt8} (hs : s.length ≤ 140737488355328) {k q : Int} {r : RR} (h0 : 0 ≤ q) (h1 : q ≤ s.length) (hk : 0 ≤ k ∧ k < 65536) :
    ((tData W s k r ⟨q, false⟩).2.bad = true ∧ ((s.length : Int) < q + k ∨ dataG s r q k = none)) ∨ (q + k ≤ s.length ∧ ∃ r', dataG s r q k = some r' ∧ tData W s k r ⟨q, false⟩ = (r', ⟨q + k, false⟩)) := by
  have hWk : W (q + k) = q + k := hW _ (by omega) (by omega)
  have bad : (tType W s k r ⟨q, false⟩).2.bad = true → ((s.length : Int) < q + k ∨ dataG s r q k = none) → ((tData W s k r ⟨q, false⟩).2.bad = true ∧ ((s.length : Int) < q + k ∨ dataG s r q k = none)) ∨ (q + k ≤ s.length ∧ ∃ r', dataG s r q k = some r' ∧ tData W s k r ⟨q, false⟩ = (r', ⟨q + k, false⟩)) := fun a b => .inl ⟨by simp [tData, a], b⟩
  have good : ∀ r' e, tType W s k r ⟨q, false⟩ = (r', ⟨e, false⟩) → e ≤ s.length → (e = q + k → dataG s r q k = some r') → (e ≠ q + k → (s.length : Int) < q + k ∨ dataG s r q k = none) → ((tData W s k r ⟨q, false⟩).2.bad = true ∧ ((s.length : Int) < q + k ∨ dataG s r q k = none)) ∨ (q + k ≤ s.length ∧ ∃ r', dataG s r q k = some r' ∧ tData W s k r ⟨q, false⟩ = (r', ⟨q + k, false⟩)) := fun r' e a b c d => by
    by_cases he : e = q + k
    · right
      refine ⟨by omega, r', c he, ?_⟩
      simp [tData, a, hWk, he]
    · left
      refine ⟨?_, d he⟩
      simp [tData, a, hWk, he]
  by_cases t1 : r.type = 1
  · have hd : dataG s r q k = if k = 4 then some ⟨r.name, r.type, r.ttl, numI (slc s q (q + 4)), r.target, r.text, r.serial⟩ else none := by rw [dataG, if_pos t1]
    have ht : tType W s k r ⟨q, false⟩ = (⟨r.name, r.type, r.ttl, (tNum W s 4 ⟨q, false⟩).1, r.target, r.text, r.serial⟩, (tNum W s 4 ⟨q, false⟩).2) := by rw [tType, if_pos t1]
    rcases tNum_ok hW hs (k := 4) (by simp) (t := ⟨q, false⟩) (fun _ => h0) with ⟨a, b⟩ | ⟨_, b, c⟩
    · refine bad (by rw [ht]; exact a) ?_
      rw [hd]
      rcases b with b | b
      · cases b
      · dsimp only at b
        by_cases hk4 : k = 4
        · left; omega
        · right; rw [if_neg hk4]
    · refine good _ (q + 4) (by rw [ht, c]) b (fun he => ?_) (fun he => ?_)
      · rw [hd, if_pos (by omega)]
      · rw [hd, if_neg (by omega)]; exact .inr rfl
  by_cases t2 : isName r.type = true
  · have hd : dataG s r q k = if grE (getName s q) = 0 ∧ grT (getName s q) = q + k then some ⟨r.name, r.type, r.ttl, r.addr, grN (getName s q), r.text, r.serial⟩ else none := by rw [dataG, if_neg t1, if_pos t2]
    have ht : tType W s k r ⟨q, false⟩ = (⟨r.name, r.type, r.ttl, r.addr, (tName s ⟨q, false⟩).1, r.text, r.serial⟩, (tName s ⟨q, false⟩).2) := by rw [tType, if_neg t1, if_pos t2]
    rcases tName_ok (s := s) (t := ⟨q, false⟩) with ⟨a, b⟩ | ⟨_, b, c⟩
    · refine bad (by rw [ht]; exact a) ?_
      rw [hd]
      rcases b with b | b
      · cases b
      · right; rw [if_neg (fun h => b h.1)]
    · dsimp only at b c
      have hr := getName_rng (gr_ok b)
      refine good _ (grT (getName s q)) (by rw [ht, c]) hr.2.2 (fun he => ?_) (fun he => ?_)
      · rw [hd, if_pos ⟨b, he⟩]
      · rw [hd, if_neg (fun h => he h.2)]; exact .inr rfl
  by_cases t6 : r.type = 6
  · have hd : dataG s r q k = if grE (getName s q) = 0 ∧ grE (getName s (grT (getName s q))) = 0 ∧ grN (getName s (grT (getName s q))) = grN (getName s q) ∧ grT (getName s (grT (getName s q))) + 20 = q + k ∧
        slc s (grT (getName s (grT (getName s q))) + 4) (q + k) = soaTail then some ⟨r.name, r.type, r.ttl, r.addr, grN (getName s q), r.text, numI (slc s (grT (getName s (grT (getName s q)))) (grT (getName s (grT (getName s q))) + 4))⟩ else none := by rw [dataG, if_neg t1, if_neg t2, if_pos t6]
    have ht : tType W s k r ⟨q, false⟩ = tSoa W s r ⟨q, false⟩ := by rw [tType, if_neg t1, if_neg t2, if_pos t6]
    rcases tName_ok (s := s) (t := ⟨q, false⟩) with ⟨a, b⟩ | ⟨_, b, c⟩
    · refine bad ?_ ?_
      · rw [ht]; exact times_bad _ (tNum_bad (by simp [tName_bad a]))
      · rw [hd]
        rcases b with b | b
        · cases b
        · right; rw [if_neg (fun h => b h.1)]
    dsimp only at b c
    have hr := getName_rng (gr_ok b)
    rcases tName_ok (s := s) (t := ⟨grT (getName s q), false⟩) with ⟨a', b'⟩ | ⟨_, b', c'⟩
    · refine bad ?_ ?_
      · rw [ht, tSoa]; dsimp only; rw [c]; exact times_bad _ (tNum_bad (by simp [a']))
      · rw [hd]
        rcases b' with b' | b'
        · cases b'
        · right; rw [if_neg (fun h => b' h.2.1)]
    dsimp only at b' c'
    have hr' := getName_rng (gr_ok b')
    generalize hx : getName s q = x at *
    generalize hy : getName s (grT x) = y at *
    by_cases hne : grN y = grN x
    · have hS : tSoa W s r ⟨q, false⟩ = (⟨r.name, r.type, r.ttl, r.addr, grN x, r.text, (tNum W s 4 ⟨grT y, false⟩).1⟩, ([60, 60, 600, 60] : List Int).foldl (tTime W s) (tNum W s 4 ⟨grT y, false⟩).2) := by
        simp [tSoa, c, c', hne]
      rcases tNum_ok hW hs (k := 4) (by simp) (t := ⟨grT y, false⟩) (fun _ => by dsimp only; omega) with ⟨a2, b2⟩ | ⟨_, b2, c2⟩
      · refine bad ?_ ?_
        · rw [ht, hS]; exact times_bad _ a2
        · rw [hd]
          rcases b2 with b2 | b2
          · cases b2
          · dsimp only at b2
            by_cases hl : (s.length : Int) < q + k
            · exact .inl hl
            · right; rw [if_neg (fun h => by omega)]
      · dsimp only at b2 c2
        rw [c2] at hS
        rcases times_ok hW hs [60, 60, 600, 60] ⟨grT y + 4, false⟩ (by simp) (by simp) (fun _ => ⟨by dsimp only; omega, b2⟩) with ⟨a3, b3⟩ | ⟨_, b3, b4, c3⟩
        · refine bad ?_ ?_
          · rw [ht, hS]; exact a3
          · rw [hd]
            by_cases hl : (s.length : Int) < q + k
            · exact .inl hl
            · right
              rw [if_neg]
              rintro ⟨_, _, _, g1, g2⟩
              have e : grT y + 4 + 4 * (([60, 60, 600, 60] : List Int).length : Int) = q + k := by simp only [List.length_cons, List.length_nil]; omega
              rcases b3 with b3 | b3 | b3
              · cases b3
              · dsimp only at b3; omega
              · dsimp only at b3
                rw [e] at b3
                exact b3 (g2.trans soaTail_tims)
        · dsimp only at b3 b4 c3
          have e16 : grT y + 4 + 4 * (([60, 60, 600, 60] : List Int).length : Int) = grT y + 20 := by simp only [List.length_cons, List.length_nil]; omega
          rw [e16] at b3 b4 c3
          refine good _ (grT y + 20) (by rw [ht, hS]; dsimp only; rw [c3]) b3 (fun he => ?_) (fun he => ?_)
          · rw [hd, if_pos ⟨b, b', hne, he, by rw [← he, b4, soaTail_tims]⟩]
          · rw [hd, if_neg (fun h => he h.2.2.2.1)]; exact .inr rfl
    · refine bad ?_ ?_
      · rw [ht, tSoa]; dsimp only; rw [c]; dsimp only; rw [c']; exact times_bad _ (tNum_bad (by simp [hne]))
      · rw [hd]; right; rw [if_neg (fun h => hne h.2.2.1)]
  by_cases t16 : r.type = 16
  · have hd : dataG s r q k = if 0 < k ∧ numI (slc s q (q + 1)) = k - 1 then some ⟨r.name, r.type, r.ttl, r.addr, r.target, slc s (q + 1) (q + k), r.serial⟩ else none := by rw [dataG, if_neg t1, if_neg t2, if_neg t6, if_pos t16]
    have ht : tType W s k r ⟨q, false⟩ = (⟨r.name, r.type, r.ttl, r.addr, r.target, (tSome s (tNum W s 1 ⟨q, false⟩).1 (tNum W s 1 ⟨q, false⟩).2).1, r.serial⟩, (tSome s (tNum W s 1 ⟨q, false⟩).1 (tNum W s 1 ⟨q, false⟩).2).2) := by rw [tType, if_neg t1, if_neg t2, if_neg t6, if_pos t16]
    rcases tNum_ok hW hs (k := 1) (by simp) (t := ⟨q, false⟩) (fun _ => h0) with ⟨a, b⟩ | ⟨_, b, c⟩
    · refine bad (by rw [ht]; dsimp only; rw [tSome, if_pos (.inl a)]) ?_
      rw [hd]
      rcases b with b | b
      · cases b
      · dsimp only at b
        by_cases hk0 : 0 < k
        · left; omega
        · right; rw [if_neg (fun h => hk0 h.1)]
    · dsimp only at b c
      rw [c] at ht
      dsimp only at ht
      by_cases hlen : (s.length : Int) - (q + 1) < numI (slc s q (q + 1))
      · refine bad (by rw [ht]; dsimp only; rw [tSome, if_pos (.inr hlen)]) ?_
        rw [hd]
        by_cases hk0 : 0 < k ∧ numI (slc s q (q + 1)) = k - 1
        · left; omega
        · right; rw [if_neg hk0]
      · have hno : ¬ ((⟨q + 1, false⟩ : TS).bad = true ∨ (s.length : Int) - (⟨q + 1, false⟩ : TS).at_ < numI (slc s q (q + 1))) := by rintro (h | h); cases h; exact hlen h
        rw [tSome, if_neg hno] at ht
        dsimp only at ht
        refine good _ (q + 1 + numI (slc s q (q + 1))) ht (by omega) (fun he => ?_) (fun he => ?_)
        · have := (numI_bd (slc s q (q + 1))).1
          rw [hd, if_pos ⟨by omega, by omega⟩, he]
        · rw [hd, if_neg (fun h => he (by omega))]; exact .inr rfl
  · have hd : dataG s r q k = some ⟨r.name, r.type, r.ttl, r.addr, r.target, slc s q (q + k), r.serial⟩ := by rw [dataG, if_neg t1, if_neg t2, if_neg t6, if_neg t16]
    have ht : tType W s k r ⟨q, false⟩ = (⟨r.name, r.type, r.ttl, r.addr, r.target, (tSome s k ⟨q, false⟩).1, r.serial⟩, (tSome s k ⟨q, false⟩).2) := by rw [tType, if_neg t1, if_neg t2, if_neg t6, if_neg t16]
    by_cases hlen : (s.length : Int) - q < k
    · exact bad (by rw [ht]; dsimp only; rw [tSome, if_pos (.inr hlen)]) (.inl (by omega))
    · have hno : ¬ ((⟨q, false⟩ : TS).bad = true ∨ (s.length : Int) - (⟨q, false⟩ : TS).at_ < k) := by rintro (h | h); cases h; exact hlen h
      rw [tSome, if_neg hno] at ht
      dsimp only at ht
      exact good _ (q + k) ht (by omega) (fun _ => hd) (fun he => absurd rfl he)
theorem tHead_ok {W : Int → Int} (hW : ∀ x : Int, 0 ≤ x → x ≤ 4611686018427387904 → W x = x) {s : List UInt8} (hs : s.length ≤ 140737488355328) (p : Int) :
    ((tHead W s p).2.2.bad = true ∧ gR s p = none) ∨ (∃ nm to, getName s p = .ok nm to ∧ to + 10 ≤ s.length ∧ numI (slc s (to + 2) (to + 4)) = 1 ∧ tHead W s p = (headG s to nm, sizeG s to, ⟨to + 10, false⟩)) := by
  rcases tName_ok (s := s) (t := ⟨p, false⟩) with ⟨a, b⟩ | ⟨_, b, c⟩
  · left
    refine ⟨tNum_bad (tNum_bad (by simp [tNum_bad (W := W) (s := s) (k := 2) (tNum_bad (W := W) (s := s) (k := 2) a)])), ?_⟩
    rcases b with b | b
    · cases b
    · unfold gR
      cases hg : getName s p with
      | err e => rfl
      | ok nm to => dsimp only at b; rw [hg] at b; exact absurd rfl b
  dsimp only at b c
  have hok := gr_ok b
  have hr := getName_rng hok
  generalize hnm : grN (getName s p) = nm at *
  generalize hto : grT (getName s p) = to at *
  have gno : ¬ (to + 10 ≤ s.length ∧ numI (slc s (to + 2) (to + 4)) = 1 ∧ to + 10 + sizeG s to ≤ s.length) → gR s p = none := fun h => by
    unfold gR; rw [hok]; dsimp only; rw [if_neg h]
  have shape : tHead W s p = (⟨nm, (tNum W s 2 ⟨to, false⟩).1, (tNum W s 4 ⟨(tNum W s 2 (tNum W s 2 ⟨to, false⟩).2).2.at_, bif !decide ((tNum W s 2 (tNum W s 2 ⟨to, false⟩).2).1 = 1) then true else (tNum W s 2 (tNum W s 2 ⟨to, false⟩).2).2.bad⟩).1, 0, [], [], 0⟩,
      (tNum W s 2 (tNum W s 4 ⟨(tNum W s 2 (tNum W s 2 ⟨to, false⟩).2).2.at_, bif !decide ((tNum W s 2 (tNum W s 2 ⟨to, false⟩).2).1 = 1) then true else (tNum W s 2 (tNum W s 2 ⟨to, false⟩).2).2.bad⟩).2)) := by
    simp only [tHead, c]
  rcases tNum_ok hW hs (k := 2) (by simp) (t := ⟨to, false⟩) (fun _ => by dsimp only; omega) with ⟨a1, b1⟩ | ⟨_, b1, c1⟩
  · left
    refine ⟨by rw [shape]; exact tNum_bad (tNum_bad (by simp [tNum_bad (W := W) (s := s) (k := 2) a1])), gno (fun h => ?_)⟩
    rcases b1 with b1 | b1
    · cases b1
    · dsimp only at b1; omega
  dsimp only at b1 c1
  rw [c1] at shape
  dsimp only at shape
  rcases tNum_ok hW hs (k := 2) (by simp) (t := ⟨to + 2, false⟩) (fun _ => by dsimp only; omega) with ⟨a2, b2⟩ | ⟨_, b2, c2⟩
  · left
    refine ⟨by rw [shape]; exact tNum_bad (tNum_bad (by simp [a2])), gno (fun h => ?_)⟩
    rcases b2 with b2 | b2
    · cases b2
    · dsimp only at b2; omega
  dsimp only at b2 c2
  rw [c2] at shape
  dsimp only at shape
  have e4 : to + 2 + 2 = to + 4 := by omega
  rw [e4] at shape
  by_cases hcl : numI (slc s (to + 2) (to + 4)) = 1
  · simp only [hcl, decide_true, Bool.not_true, cond_false] at shape
    rcases tNum_ok hW hs (k := 4) (by simp) (t := ⟨to + 4, false⟩) (fun _ => by dsimp only; omega) with ⟨a3, b3⟩ | ⟨_, b3, c3⟩
    · left
      refine ⟨by rw [shape]; exact tNum_bad a3, gno (fun h => ?_)⟩
      rcases b3 with b3 | b3
      · cases b3
      · dsimp only at b3; omega
    dsimp only at b3 c3
    rw [c3] at shape
    dsimp only at shape
    have e8 : to + 4 + 4 = to + 8 := by omega
    rw [e8] at shape
    rcases tNum_ok hW hs (k := 2) (by simp) (t := ⟨to + 8, false⟩) (fun _ => by dsimp only; omega) with ⟨a5, b5⟩ | ⟨_, b5, c5⟩
    · left
      refine ⟨by rw [shape]; exact a5, gno (fun h => ?_)⟩
      rcases b5 with b5 | b5
      · cases b5
      · dsimp only at b5; omega
    dsimp only at b5 c5
    have e10 : to + 8 + 2 = to + 10 := by omega
    rw [e10] at b5 c5
    right
    refine ⟨nm, to, hok, b5, hcl, ?_⟩
    rw [shape, c5]; rfl
  · left
    refine ⟨by rw [shape]; exact tNum_bad (tNum_bad (by simp [hcl])), gno (fun h => hcl h.2.1)⟩
theorem sizeG_rng {s : List UInt8} {to : Int} (h0 : 0 ≤ to) (h : to + 10 ≤ s.length) : 0 ≤ sizeG s to ∧ sizeG s to < 65536 := by
  have := numI_bd (slc s (to + 8) (to + 10))
  rw [slc_len (by omega) (by omega) (by omega), show (to + 10 - (to + 8)).toNat = 2 by omega] at this
  have e2 : (256 : Int) ^ 2 = 65536 := by decide
  rw [e2] at this; exact this
/-- what is taken is what the document takes -/
theorem tAll_eq {W : Int → Int} (hW : ∀ x : Int, 0 ≤ x → x ≤ 4611686018427387904 → W x = x) {s : List UInt8} (hs : s.length ≤ 140737488355328) (p : Int) : fin (tAll W s p) = rrGet s p := by
  rcases tHead_ok hW hs p with ⟨a, b⟩ | ⟨nm, to, a, b, c, d⟩
  · rw [rrGet, b, tAll, if_pos a, fin, if_pos (.inl a)]
  · have hr := getName_rng a
    have hsz := sizeG_rng (s := s) (to := to) (by omega) b
    have hg : gR s p = if to + 10 ≤ s.length ∧ numI (slc s (to + 2) (to + 4)) = 1 ∧ to + 10 + sizeG s to ≤ s.length then
      (dataG s (headG s to nm) (to + 10) (sizeG s to)).bind fun r => if rrMay r = true then some (r, to + 10 + sizeG s to) else none else none := by unfold gR; rw [a]
    have hA : tAll W s p = tData W s (sizeG s to) (headG s to nm) ⟨to + 10, false⟩ := by rw [tAll, d]; rfl
    rw [hA]
    rcases tData_ok hW hs (k := sizeG s to) (q := to + 10) (r := headG s to nm) (by omega) b hsz with ⟨e, f⟩ | ⟨e, r', f, g⟩
    · have : gR s p = none := by
        rw [hg]
        rcases f with f | f
        · rw [if_neg (fun h => by omega)]
        · rw [f]; split <;> rfl
      rw [rrGet, this, fin, if_pos (.inl e)]
    · rw [g, rrGet, hg, if_pos ⟨b, c, e⟩, f, Option.bind_some]
      cases hm : rrMay r' with
      | true => rw [fin, if_neg (by simp [hm])]; simp
      | false => rw [fin, if_pos (.inr hm)]; simp
theorem got_len {s : List UInt8} : ∀ (n : Nat) (g : GS) (nm : List UInt8) (e : Int), getF n s g = some (.ok nm e) → 0 ≤ g.at_ → g.ls.all labOk = true → g.ls.length ≤ 8 → nm.length ≤ 72
  | 0, _, _, _, h, _, _, _ => by simp [getF] at h
  | n + 1, g, nm, e, h, h0, hl, h8 => by
    rcases getF_step h with h | ⟨g', h, h'⟩
    · obtain ⟨_, _, rfl, _⟩ := inv_ok h
      have := joinD_len hl
      omega
    · obtain ⟨_, b, c, d⟩ := stepG_lt h h0 hl h8
      exact got_len n g' nm e h' b c d
theorem grN_len (s : List UInt8) (p : Int) : (grN (getName s p)).length ≤ 72 := by
  cases h : getName s p with
  | err e => simp [grN]
  | ok nm to =>
    obtain ⟨n, hn⟩ := getName_gotF h
    exact got_len n _ nm to hn (getName_nn h) rfl (by simp)
theorem tHead_rng {W : Int → Int} (hW : ∀ x : Int, 0 ≤ x → x ≤ 4611686018427387904 → W x = x) {s : List UInt8} (hs : s.length ≤ 140737488355328) {p : Int} (h : (tHead W s p).2.2.bad = false) :
    (0 ≤ (tHead W s p).2.2.at_ ∧ (tHead W s p).2.2.at_ ≤ s.length) ∧ (0 ≤ (tHead W s p).2.1 ∧ (tHead W s p).2.1 < 65536) := by
  rcases tHead_ok hW hs p with ⟨a, b⟩ | ⟨nm, to, a, b, c, d⟩
  · rw [a] at h; cases h
  · have hr := getName_rng a
    have hz := sizeG_rng (s := s) (to := to) (by omega) b
    rw [d]; dsimp only
    exact ⟨⟨by omega, b⟩, hz⟩
theorem tData_len {W : Int → Int} {s : List UInt8} {k : Int} {r : RR} {t : TS} : (tData W s k r t).1.name = r.name ∧ (tData W s k r t).1.target.length ≤ max r.target.length 72 := by
  have h := grN_len s t.at_
  unfold tData tType
  repeat' split
  all_goals first | exact ⟨rfl, Nat.le_max_left _ _⟩ | (refine ⟨rfl, ?_⟩; simp only [tSoa, tName]; omega)

end Go.Proofs.YtfmdaijkgjkmpaaGreatDoor

set_option linter.unusedVariables false
set_option linter.unusedSimpArgs false
namespace Go.Proofs.YtfmdaijkgjkmpaaGreatDoor
set_option linter.unusedSimpArgs false
/-! records: what is written comes back -/
theorem slc_mid (a b c : List UInt8) {i j : Int} (hi : i = a.length) (hj : j = (a.length : Int) + b.length) : slc (a ++ b ++ c) i j = b := by
  have e1 : i.toNat = a.length := by omega
  have e2 : j.toNat = (a ++ b).length := by rw [List.length_append]; omega
  rw [slc, e2, List.take_left, e1, List.drop_left]
theorem may_parts {r : RR} (h : rrMay r = true) : rrBody r = true ∧ nmMay r.name = true ∧ 0 ≤ r.ttl ∧ r.ttl ≤ 1048576 := by
  simp only [rrMay, Bool.and_eq_true, decide_eq_true_eq] at h
  exact ⟨h.1.1.1, h.1.1.2, h.1.2, h.2⟩
theorem body_type {r : RR} (h : rrBody r = true) : 0 ≤ r.type ∧ r.type < 50 := by
  unfold rrBody isName at h
  split at h
  · omega
  split at h
  · rename_i h2; simp only [Bool.or_eq_true, decide_eq_true_eq] at h2; omega
  split at h
  · omega
  split at h
  · omega
  · cases h
theorem putName_zero {at_ : Int} {ks : List Kn} {nm t : List UInt8} {ks' : List Kn} (h : putName at_ ks nm = some (t, ks')) : (nmPut at_ ks nm).2.2 = 0 ∧ (nmPut at_ ks nm).1 = t ∧ (nmPut at_ ks nm).2.1 = ks' := by
  unfold nmPut; rw [h]; exact ⟨rfl, rfl, rfl⟩
theorem put_back {s : List UInt8} {ks ks' : List Kn} {nm t : List UInt8} {p : Int} (hp : p = s.length) (hg : Good s ks) (h : putName p ks nm = some (t, ks')) :
    (∀ z, getName (s ++ t ++ z) p = .ok nm ((s.length : Int) + t.length)) ∧ Good (s ++ t) ks' ∧ (∃ added, ks' = ks ++ added) ∧ t.length ≤ 74 := by
  subst hp
  obtain ⟨h0, rfl, rfl⟩ := putName_zero h
  have hb := name_back hg h0
  refine ⟨fun z => ?_, (hb []).2.1, (hb []).2.2, (nmPut_more _ _ _).1⟩
  rw [(hb z).1]; simp
theorem word_iff {x : Int} (h : word x = true) : 0 ≤ x ∧ x < 256 ^ 4 := by
  simp only [word, Bool.and_eq_true, decide_eq_true_eq] at h
  have : (256 : Int) ^ 4 = 4294967296 := by decide
  omega
theorem data_back {u : List UInt8} {ks k2 : List Kn} {r : RR} {d : List UInt8} {p : Int} (hp : p = u.length) (hg : Good u ks) (hm : rrBody r = true) (h : dataPut p ks r = some (d, k2)) :
    d.length ≤ 1000 ∧ (∀ z, dataG (u ++ d ++ z) ⟨r.name, r.type, r.ttl, 0, [], [], 0⟩ p d.length = some r) ∧ Good (u ++ d) k2 ∧ ∃ added, k2 = ks ++ added := by
  subst hp
  have keep : ∀ x : List UInt8, Good (u ++ x) ks ∧ ∃ added, ks = ks ++ added := fun x => ⟨hg.more x, [], by simp⟩
  obtain ⟨nm, ty, ttl, ad, tg, tx, se⟩ := r
  dsimp only at *
  by_cases t1 : ty = 1
  · rw [dataPut, if_pos t1] at h
    simp only [Option.some.injEq, Prod.mk.injEq] at h
    obtain ⟨rfl, rfl⟩ := h
    simp only [rrBody, t1, if_true, Bool.and_eq_true, decide_eq_true_eq] at hm
    obtain ⟨⟨⟨rfl, rfl⟩, rfl⟩, hw⟩ := hm
    have hw := word_iff hw
    refine ⟨by simp, fun z => ?_, keep _⟩
    rw [dataG, if_pos t1]
    dsimp only
    rw [if_pos (by simp), slc_mid u (beb ad 4) z rfl (by simp), numI_beb 4 ad hw.1 hw.2]
  by_cases t2 : isName ty = true
  · have t6 : ty ≠ 6 := by rintro rfl; exact absurd t2 (by decide)
    have t16 : ty ≠ 16 := by rintro rfl; exact absurd t2 (by decide)
    have t49 : ty ≠ 49 := by rintro rfl; exact absurd t2 (by decide)
    rw [dataPut, if_neg t1, if_neg t6, if_neg t16, if_neg t49] at h
    simp only [rrBody, t1, t2, if_true, if_false, Bool.and_eq_true, decide_eq_true_eq] at hm
    obtain ⟨⟨⟨rfl, rfl⟩, rfl⟩, hw⟩ := hm
    obtain ⟨b1, b2, b3, b4⟩ := put_back rfl hg h
    refine ⟨by omega, fun z => ?_, b2, b3⟩
    rw [dataG, if_neg t1, if_pos t2, b1 z]
    simp [grE, grT, grN]
  by_cases t6 : ty = 6
  · rw [dataPut, if_neg t1, if_pos t6] at h
    simp only [rrBody, t1, t2, t6, if_true, if_false, Bool.and_eq_true, decide_eq_true_eq, Bool.false_eq_true] at hm
    simp only [show ¬ ((6 : Int) = 1) by decide, show isName 6 = false by decide, if_false, Bool.false_eq_true, Bool.and_eq_true, decide_eq_true_eq] at hm
    obtain ⟨⟨⟨rfl, rfl⟩, hw⟩, hs⟩ := hm
    have hs := word_iff hs
    dsimp only at h
    cases hy : putName u.length ks tg with
    | none => rw [hy] at h; cases h
    | some y =>
      rw [hy, Option.bind_some] at h
      obtain ⟨y1, y2⟩ := y
      dsimp only at h
      cases hz : putName ((u.length : Int) + y1.length) y2 tg with
      | none => rw [hz] at h; cases h
      | some q =>
        rw [hz] at h
        obtain ⟨q1, q2⟩ := q
        simp only [Option.map_some, Option.some.injEq, Prod.mk.injEq] at h
        obtain ⟨rfl, rfl⟩ := h
        obtain ⟨b1, b2, ⟨ad1, b3⟩, b4⟩ := put_back rfl hg hy
        obtain ⟨c1, c2, ⟨ad2, c3⟩, c4⟩ := put_back (s := u ++ y1) (by rw [List.length_append]; omega) b2 hz
        have hst : soaTail.length = 16 := by rw [soaTail_tims]; rfl
        refine ⟨by simp only [List.length_append, beb_len, hst]; omega, fun z => ?_, ?_, ?_⟩
        · have e1 : u ++ (y1 ++ q1 ++ beb se 4 ++ soaTail) ++ z = u ++ y1 ++ (q1 ++ beb se 4 ++ soaTail ++ z) := by simp
          have e2 : u ++ (y1 ++ q1 ++ beb se 4 ++ soaTail) ++ z = (u ++ y1) ++ q1 ++ (beb se 4 ++ soaTail ++ z) := by simp
          have e3 : u ++ (y1 ++ q1 ++ beb se 4 ++ soaTail) ++ z = (u ++ y1 ++ q1) ++ beb se 4 ++ (soaTail ++ z) := by simp
          have e4 : u ++ (y1 ++ q1 ++ beb se 4 ++ soaTail) ++ z = (u ++ y1 ++ q1 ++ beb se 4) ++ soaTail ++ z := by simp
          have g1 := b1 (q1 ++ beb se 4 ++ soaTail ++ z)
          rw [← e1] at g1
          have g2 := c1 (beb se 4 ++ soaTail ++ z)
          rw [← e2] at g2
          have el : ((u ++ y1).length : Int) + q1.length = (u.length : Int) + y1.length + q1.length := by rw [List.length_append]; omega
          rw [el] at g2
          rw [dataG, if_neg t1, if_neg t2, if_pos t6]
          simp only [g1, g2, grE, grT, grN]
          have s1 : slc (u ++ (y1 ++ q1 ++ beb se 4 ++ soaTail) ++ z) ((u.length : Int) + y1.length + q1.length) ((u.length : Int) + y1.length + q1.length + 4) = beb se 4 := by
            rw [e3]; exact slc_mid _ _ _ (by simp only [List.length_append]; omega) (by simp only [List.length_append, beb_len]; omega)
          have s2 : slc (u ++ (y1 ++ q1 ++ beb se 4 ++ soaTail) ++ z) ((u.length : Int) + y1.length + q1.length + 4) ((u.length : Int) + ((y1 ++ q1 ++ beb se 4 ++ soaTail).length : Int)) = soaTail := by
            rw [e4]; exact slc_mid _ _ _ (by simp only [List.length_append, beb_len]; omega) (by simp only [List.length_append, beb_len]; omega)
          rw [s1, s2, if_pos ⟨trivial, trivial, trivial, by simp only [List.length_append, beb_len, hst]; omega, rfl⟩, numI_beb 4 se hs.1 hs.2]
        · have := c2.more (beb se 4 ++ soaTail)
          have e : u ++ (y1 ++ q1 ++ beb se 4 ++ soaTail) = u ++ y1 ++ q1 ++ (beb se 4 ++ soaTail) := by simp
          rw [e]; exact this
        · exact ⟨ad1 ++ ad2, by rw [c3, b3, List.append_assoc]⟩
  by_cases t16 : ty = 16
  · rw [dataPut, if_neg t1, if_neg t6, if_pos t16] at h
    simp only [Option.some.injEq, Prod.mk.injEq] at h
    obtain ⟨rfl, rfl⟩ := h
    simp only [rrBody, t1, t2, t6, t16, if_true, if_false, Bool.and_eq_true, decide_eq_true_eq, Bool.false_eq_true, true_or] at hm
    simp only [show ¬ ((16 : Int) = 1) by decide, show ¬ ((16 : Int) = 6) by decide, show isName 16 = false by decide, if_false, Bool.false_eq_true, Bool.and_eq_true, decide_eq_true_eq] at hm
    obtain ⟨⟨⟨rfl, rfl⟩, rfl⟩, hw⟩ := hm
    refine ⟨by simp only [List.length_cons]; omega, fun z => ?_, keep _⟩
    have e1 : u ++ UInt8.ofNat tx.length :: tx ++ z = u ++ [UInt8.ofNat tx.length] ++ (tx ++ z) := by simp
    have e2 : u ++ UInt8.ofNat tx.length :: tx ++ z = (u ++ [UInt8.ofNat tx.length]) ++ tx ++ z := by simp
    have s1 : slc (u ++ UInt8.ofNat tx.length :: tx ++ z) u.length ((u.length : Int) + 1) = [UInt8.ofNat tx.length] := by
      rw [e1]; exact slc_mid _ _ _ rfl (by simp)
    have s2 : slc (u ++ UInt8.ofNat tx.length :: tx ++ z) ((u.length : Int) + 1) ((u.length : Int) + ((UInt8.ofNat tx.length :: tx).length : Int)) = tx := by
      rw [e2]; exact slc_mid _ _ _ (by simp) (by simp only [List.length_append, List.length_cons, List.length_nil]; omega)
    have hb : ((UInt8.ofNat tx.length).toNat : Int) = tx.length := by simp; omega
    rw [dataG, if_neg t1, if_neg t2, if_neg t6, if_pos t16, s1, s2, numI_one, hb, if_pos (by simp only [List.length_cons]; omega)]
  by_cases t49 : ty = 49
  · rw [dataPut, if_neg t1, if_neg t6, if_neg t16, if_pos t49] at h
    simp only [Option.some.injEq, Prod.mk.injEq] at h
    obtain ⟨rfl, rfl⟩ := h
    simp only [rrBody, t1, t2, t6, t49, if_true, if_false, Bool.and_eq_true, decide_eq_true_eq, Bool.false_eq_true, or_true] at hm
    simp only [show ¬ ((49 : Int) = 1) by decide, show ¬ ((49 : Int) = 6) by decide, show isName 49 = false by decide, if_false, Bool.false_eq_true, Bool.and_eq_true, decide_eq_true_eq] at hm
    obtain ⟨⟨⟨rfl, rfl⟩, rfl⟩, hw⟩ := hm
    refine ⟨by omega, fun z => ?_, keep _⟩
    rw [dataG, if_neg t1, if_neg t2, if_neg t6, if_neg t16, slc_mid u tx z rfl rfl]
  · simp only [rrBody, t1, t2, t6, t16, t49, if_false, Bool.false_eq_true, or_self] at hm
theorem put_more' {p : Int} {ks : List Kn} {r : RR} {t : List UInt8} {ks' : List Kn} (h : putRr p ks r = some (t, ks')) :
    rrMay r = true ∧ ∃ x1 x2 d, putName p ks r.name = some (x1, x2) ∧ dataPut (p + x1.length + 10) x2 r = some (d, ks') ∧ t = x1 ++ beb r.type 2 ++ beb 1 2 ++ beb r.ttl 4 ++ beb d.length 2 ++ d := by
  unfold putRr at h
  split at h
  · rename_i hm
    refine ⟨hm, ?_⟩
    cases hx : putName p ks r.name with
    | none => rw [hx] at h; cases h
    | some x =>
      rw [hx, Option.bind_some] at h
      cases hd : dataPut (p + x.1.length + 10) x.2 r with
      | none => rw [hd] at h; cases h
      | some d =>
        rw [hd] at h
        simp only [Option.map_some, Option.some.injEq, Prod.mk.injEq] at h
        obtain ⟨rfl, rfl⟩ := h
        exact ⟨x.1, x.2, d.1, rfl, by rw [hd], rfl⟩
  · cases h
/-- a record comes back -/
theorem rr_back {s : List UInt8} {ks ks' : List Kn} {r : RR} {t : List UInt8} (hg : Good s ks) (h : putRr s.length ks r = some (t, ks')) :
    (∀ z, gR (s ++ t ++ z) s.length = some (r, (s.length : Int) + t.length)) ∧ Good (s ++ t) ks' ∧ (∃ added, ks' = ks ++ added) ∧ t.length ≤ 1084 ∧ 0 < t.length := by
  obtain ⟨hm, x1, x2, d, hx, hd, rfl⟩ := put_more' h
  obtain ⟨hbo, hnm, hl0, hl1⟩ := may_parts hm
  have hty := body_type hbo
  obtain ⟨b1, b2, ⟨ad1, b3⟩, b4⟩ := put_back rfl hg hx
  have hu : ((s ++ x1 ++ (beb r.type 2 ++ beb 1 2 ++ beb r.ttl 4 ++ beb d.length 2)).length : Int) = (s.length : Int) + x1.length + 10 := by simp only [List.length_append, beb_len]; omega
  obtain ⟨c1, c2, c3, ⟨ad2, c4⟩⟩ := data_back (u := s ++ x1 ++ (beb r.type 2 ++ beb 1 2 ++ beb r.ttl 4 ++ beb d.length 2)) hu.symm (b2.more _) hbo hd
  have htl : (x1 ++ beb r.type 2 ++ beb 1 2 ++ beb r.ttl 4 ++ beb d.length 2 ++ d).length = x1.length + 10 + d.length := by simp only [List.length_append, beb_len]
  refine ⟨fun z => ?_, ?_, ⟨ad1 ++ ad2, by rw [c4, b3, List.append_assoc]⟩, by rw [htl]; omega, by rw [htl]; omega⟩
  · have e0 : s ++ (x1 ++ beb r.type 2 ++ beb 1 2 ++ beb r.ttl 4 ++ beb d.length 2 ++ d) ++ z = s ++ x1 ++ (beb r.type 2 ++ beb 1 2 ++ beb r.ttl 4 ++ beb d.length 2 ++ d ++ z) := by simp
    have e1 : s ++ (x1 ++ beb r.type 2 ++ beb 1 2 ++ beb r.ttl 4 ++ beb d.length 2 ++ d) ++ z = (s ++ x1) ++ beb r.type 2 ++ (beb 1 2 ++ beb r.ttl 4 ++ beb d.length 2 ++ d ++ z) := by simp
    have e2 : s ++ (x1 ++ beb r.type 2 ++ beb 1 2 ++ beb r.ttl 4 ++ beb d.length 2 ++ d) ++ z = (s ++ x1 ++ beb r.type 2) ++ beb 1 2 ++ (beb r.ttl 4 ++ beb d.length 2 ++ d ++ z) := by simp
    have e3 : s ++ (x1 ++ beb r.type 2 ++ beb 1 2 ++ beb r.ttl 4 ++ beb d.length 2 ++ d) ++ z = (s ++ x1 ++ beb r.type 2 ++ beb 1 2) ++ beb r.ttl 4 ++ (beb d.length 2 ++ d ++ z) := by simp
    have e4 : s ++ (x1 ++ beb r.type 2 ++ beb 1 2 ++ beb r.ttl 4 ++ beb d.length 2 ++ d) ++ z = (s ++ x1 ++ beb r.type 2 ++ beb 1 2 ++ beb r.ttl 4) ++ beb d.length 2 ++ (d ++ z) := by simp
    have e5 : s ++ (x1 ++ beb r.type 2 ++ beb 1 2 ++ beb r.ttl 4 ++ beb d.length 2 ++ d) ++ z = (s ++ x1 ++ (beb r.type 2 ++ beb 1 2 ++ beb r.ttl 4 ++ beb d.length 2)) ++ d ++ z := by simp
    have g0 := b1 (beb r.type 2 ++ beb 1 2 ++ beb r.ttl 4 ++ beb d.length 2 ++ d ++ z)
    rw [← e0] at g0
    have g5 := c2 z
    rw [← e5] at g5
    generalize hT : s ++ (x1 ++ beb r.type 2 ++ beb 1 2 ++ beb r.ttl 4 ++ beb d.length 2 ++ d) ++ z = T at *
    have hTl : (s.length : Int) + x1.length + 10 + d.length ≤ T.length := by rw [← hT]; simp only [List.length_append, beb_len]; omega
    have p2 : (256 : Int) ^ 2 = 65536 := by decide
    have p4 : (256 : Int) ^ 4 = 4294967296 := by decide
    have s1 : slc T ((s.length : Int) + x1.length) ((s.length : Int) + x1.length + 2) = beb r.type 2 := by rw [e1]; exact slc_mid _ _ _ (by simp only [List.length_append]; omega) (by simp only [List.length_append, beb_len]; omega)
    have s2 : slc T ((s.length : Int) + x1.length + 2) ((s.length : Int) + x1.length + 4) = beb 1 2 := by rw [e2]; exact slc_mid _ _ _ (by simp only [List.length_append, beb_len]; omega) (by simp only [List.length_append, beb_len]; omega)
    have s3 : slc T ((s.length : Int) + x1.length + 4) ((s.length : Int) + x1.length + 8) = beb r.ttl 4 := by rw [e3]; exact slc_mid _ _ _ (by simp only [List.length_append, beb_len]; omega) (by simp only [List.length_append, beb_len]; omega)
    have s4 : slc T ((s.length : Int) + x1.length + 8) ((s.length : Int) + x1.length + 10) = beb d.length 2 := by rw [e4]; exact slc_mid _ _ _ (by simp only [List.length_append, beb_len]; omega) (by simp only [List.length_append, beb_len]; omega)
    have hsz : sizeG T ((s.length : Int) + x1.length) = d.length := by rw [sizeG, s4]; exact numI_beb 2 _ (by omega) (by omega)
    have hhd : headG T ((s.length : Int) + x1.length) r.name = ⟨r.name, r.type, r.ttl, 0, [], [], 0⟩ := by
      rw [headG, s1, s3, numI_beb 2 _ hty.1 (by omega), numI_beb 4 _ hl0 (by omega)]
    unfold gR
    rw [g0]
    dsimp only
    rw [hsz, s2, hhd, g5, if_pos ⟨by omega, numI_beb 2 1 (by decide) (by decide), hTl⟩, Option.bind_some, if_pos hm, htl]
    congr 2; omega
  · have e : s ++ (x1 ++ beb r.type 2 ++ beb 1 2 ++ beb r.ttl 4 ++ beb d.length 2 ++ d) = s ++ x1 ++ (beb r.type 2 ++ beb 1 2 ++ beb r.ttl 4 ++ beb d.length 2) ++ d := by simp
    rw [e]; exact c3
theorem rrGet_some {s : List UInt8} {p : Int} {r : RR} {to : Int} (h : gR s p = some (r, to)) : rrGet s p = (r, to, 0) := by rw [rrGet, h]
theorem putName_some {p : Int} {ks : List Kn} {nm : List UInt8} (h1 : ks.all knOk = true) (h2 : 0 ≤ p) (h3 : p ≤ 65535) (h4 : nmMay nm = true) : ∃ x, putName p ks nm = some x := by
  unfold putName
  rw [if_pos (by rw [h1, h4, decide_eq_true h2, decide_eq_true h3]; rfl)]
  exact ⟨_, rfl⟩
/-- a record that may be is written -/
theorem rr_puts {s : List UInt8} {ks : List Kn} {r : RR} (hg : Good s ks) (hs : s.length ≤ 60000) (hm : rrMay r = true) : ∃ x, putRr s.length ks r = some x := by
  obtain ⟨hbo, hnm, hl0, hl1⟩ := may_parts hm
  obtain ⟨⟨x1, x2⟩, hx⟩ := putName_some hg.all (show 0 ≤ (s.length : Int) by omega) (by omega) hnm
  obtain ⟨b1, b2, ⟨ad1, b3⟩, b4⟩ := put_back rfl hg hx
  unfold putRr
  rw [if_pos hm, hx, Option.bind_some]
  suffices ∃ y, dataPut ((s.length : Int) + x1.length + 10) x2 r = some y by
    obtain ⟨y, hy⟩ := this
    exact ⟨_, by dsimp only; rw [hy]; rfl⟩
  by_cases t1 : r.type = 1
  · exact ⟨_, by rw [dataPut, if_pos t1]⟩
  by_cases t2 : isName r.type = true
  · have t6 : r.type ≠ 6 := by intro h; rw [h] at t2; exact absurd t2 (by decide)
    have t16 : r.type ≠ 16 := by intro h; rw [h] at t2; exact absurd t2 (by decide)
    have t49 : r.type ≠ 49 := by intro h; rw [h] at t2; exact absurd t2 (by decide)
    have hw : nmMay r.target = true := by
      simp only [rrBody, t1, t2, if_true, if_false, Bool.and_eq_true, decide_eq_true_eq] at hbo; exact hbo.2
    rw [dataPut, if_neg t1, if_neg t6, if_neg t16, if_neg t49]
    exact putName_some b2.all (by omega) (by omega) hw
  by_cases t6 : r.type = 6
  · have hw : nmMay r.target = true := by
      simp only [rrBody, t1, t2, t6, if_true, if_false, Bool.false_eq_true, Bool.and_eq_true, decide_eq_true_eq] at hbo
      simp only [show ¬ ((6 : Int) = 1) by decide, show isName 6 = false by decide, if_false, Bool.false_eq_true, Bool.and_eq_true, decide_eq_true_eq] at hbo
      exact hbo.1.2
    obtain ⟨⟨y1, y2⟩, hy⟩ := putName_some b2.all (show 0 ≤ (s.length : Int) + x1.length + 10 by omega) (by omega) hw
    have hu : (s.length : Int) + x1.length + 10 = (s ++ x1 ++ List.replicate 10 0).length := by simp only [List.length_append, List.length_replicate]; omega
    obtain ⟨c1, c2, _, c4⟩ := put_back (s := s ++ x1 ++ List.replicate 10 0) hu (b2.more _) hy
    obtain ⟨⟨z1, z2⟩, hz⟩ := putName_some c2.all (show 0 ≤ (s.length : Int) + x1.length + 10 + y1.length by omega) (by omega) hw
    exact ⟨_, by rw [dataPut, if_neg t1, if_pos t6, hy, Option.bind_some]; dsimp only; rw [hz]; rfl⟩
  by_cases t16 : r.type = 16
  · exact ⟨_, by rw [dataPut, if_neg t1, if_neg t6, if_pos t16]⟩
  by_cases t49 : r.type = 49
  · exact ⟨_, by rw [dataPut, if_neg t1, if_neg t6, if_neg t16, if_pos t49]⟩
  · simp only [rrBody, t1, t2, t6, t16, t49, if_false, Bool.false_eq_true, or_self] at hbo
section
variable {at_ : Int} {ks k2 : List Kn} {r : RR} {d : List UInt8}
theorem rrPut_no (h : rrMay r = false) : rrPut at_ ks r = ([], [], 400) := by
  rw [rrPut, putRr, if_neg (by simp [h])]
theorem rrPut_bad (hx : (nmPut at_ ks r.name).2.2 ≠ 0) : rrPut at_ ks r = ([], [], 400) := by
  by_cases hm : rrMay r = true
  · rw [rrPut, putRr, if_pos hm, nmPut_putName, if_neg hx]; rfl
  · exact rrPut_no (Bool.eq_false_iff.2 hm)
theorem rrPut_d (hm : rrMay r = true) (hx : (nmPut at_ ks r.name).2.2 = 0) (hd : dataPut (at_ + (nmPut at_ ks r.name).1.length + 10) (nmPut at_ ks r.name).2.1 r = some (d, k2)) :
    rrPut at_ ks r = ((nmPut at_ ks r.name).1 ++ beb r.type 2 ++ beb 1 2 ++ beb r.ttl 4 ++ beb d.length 2 ++ d, k2, 0) := by
  rw [rrPut, putRr, if_pos hm, nmPut_putName, if_pos hx, Option.bind_some]
  dsimp only
  rw [hd]; rfl
theorem rrPut_n (hm : rrMay r = true) (hx : (nmPut at_ ks r.name).2.2 = 0) (hd : dataPut (at_ + (nmPut at_ ks r.name).1.length + 10) (nmPut at_ ks r.name).2.1 r = none) : rrPut at_ ks r = ([], [], 400) := by
  rw [rrPut, putRr, if_pos hm, nmPut_putName, if_pos hx, Option.bind_some]
  dsimp only
  rw [hd]; rfl
theorem dP_1 (h : r.type = 1) : dataPut at_ ks r = some (beb r.addr 4, ks) := by rw [dataPut, if_pos h]
theorem dP_n (h : r.type = 2 ∨ r.type = 5 ∨ r.type = 12) : dataPut at_ ks r = if (nmPut at_ ks r.target).2.2 = 0 then some ((nmPut at_ ks r.target).1, (nmPut at_ ks r.target).2.1) else none := by
  rw [dataPut, if_neg (by omega), if_neg (by omega), if_neg (by omega), if_neg (by omega), nmPut_putName]
theorem dP_16 (h : r.type = 16) : dataPut at_ ks r = some (UInt8.ofNat r.text.length :: r.text, ks) := by rw [dataPut, if_neg (by omega), if_neg (by omega), if_pos h]
theorem dP_49 (h : r.type = 49) : dataPut at_ ks r = some (r.text, ks) := by rw [dataPut, if_neg (by omega), if_neg (by omega), if_neg (by omega), if_pos h]
theorem dP_6 (h : r.type = 6) (h1 : (nmPut at_ ks r.target).2.2 = 0) (h2 : (nmPut (at_ + (nmPut at_ ks r.target).1.length) (nmPut at_ ks r.target).2.1 r.target).2.2 = 0) :
    dataPut at_ ks r = some ((nmPut at_ ks r.target).1 ++ (nmPut (at_ + (nmPut at_ ks r.target).1.length) (nmPut at_ ks r.target).2.1 r.target).1 ++ beb r.serial 4 ++ soaTail, (nmPut (at_ + (nmPut at_ ks r.target).1.length) (nmPut at_ ks r.target).2.1 r.target).2.1) := by
  rw [dataPut, if_neg (by omega), if_pos h, nmPut_putName, if_pos h1, Option.bind_some]
  dsimp only
  rw [nmPut_putName, if_pos h2]; rfl
theorem dP_6a (h : r.type = 6) (h1 : (nmPut at_ ks r.target).2.2 ≠ 0) : dataPut at_ ks r = none := by
  rw [dataPut, if_neg (by omega), if_pos h, nmPut_putName, if_neg h1]; rfl
theorem dP_6b (h : r.type = 6) (h1 : (nmPut at_ ks r.target).2.2 = 0) (h2 : (nmPut (at_ + (nmPut at_ ks r.target).1.length) (nmPut at_ ks r.target).2.1 r.target).2.2 ≠ 0) : dataPut at_ ks r = none := by
  rw [dataPut, if_neg (by omega), if_pos h, nmPut_putName, if_pos h1, Option.bind_some]
  dsimp only
  rw [nmPut_putName, if_neg h2]; rfl
theorem may_type (h : rrMay r = true) : r.type = 1 ∨ r.type = 2 ∨ r.type = 5 ∨ r.type = 12 ∨ r.type = 6 ∨ r.type = 16 ∨ r.type = 49 := by
  have hb := (may_parts h).1
  unfold rrBody isName at hb
  split at hb
  · omega
  split at hb
  · rename_i h2; simp only [Bool.or_eq_true, decide_eq_true_eq] at h2; omega
  split at hb
  · omega
  split at hb
  · omega
  · cases hb
end
theorem may_text {r : RR} (h : rrMay r = true) : r.text.length ≤ 64 := by
  have hb := (may_parts h).1
  simp only [rrBody] at hb
  split at hb
  · simp only [Bool.and_eq_true, decide_eq_true_eq] at hb; rw [hb.1.1.2]; simp
  split at hb
  · simp only [Bool.and_eq_true, decide_eq_true_eq] at hb; rw [hb.1.1.2]; simp
  split at hb
  · simp only [Bool.and_eq_true, decide_eq_true_eq] at hb; rw [hb.1.1.2]; simp
  split at hb
  · simp only [Bool.and_eq_true, decide_eq_true_eq] at hb; exact hb.2
  · cases hb
/-! the document's reading, way by way -/
section
variable {s : List UInt8} {p : Int}
theorem beG_in {k q : Int} (hk : k = 1 ∨ k = 2 ∨ k = 4) (h0 : 0 ≤ p) (hq : p + k = q) (hl : q ≤ s.length) : beG s p k = (numI (slc s p q), 0) := by
  subst hq; rw [beG, if_neg (by omega), if_neg (by omega)]
theorem rrGet_bad1 (h : grE (getName s p) ≠ 0) : rrGet s p = (noR, 0, 400) := by
  rw [rrGet, gR]
  cases hg : getName s p with
  | err e => rfl
  | ok nm to => rw [hg] at h; exact absurd rfl h
theorem gR_ok (h : grE (getName s p) = 0) : gR s p = if grT (getName s p) + 10 ≤ s.length ∧ numI (slc s (grT (getName s p) + 2) (grT (getName s p) + 4)) = 1 ∧ grT (getName s p) + 10 + sizeG s (grT (getName s p)) ≤ s.length then
      (dataG s (headG s (grT (getName s p)) (grN (getName s p))) (grT (getName s p) + 10) (sizeG s (grT (getName s p)))).bind fun r => if rrMay r = true then some (r, grT (getName s p) + 10 + sizeG s (grT (getName s p))) else none
    else none := by
  unfold gR; rw [gr_ok h]; rfl
theorem rrGet_bad2 (h : ¬ (grT (getName s p) + 10 ≤ s.length ∧ numI (slc s (grT (getName s p) + 2) (grT (getName s p) + 4)) = 1 ∧ grT (getName s p) + 10 + sizeG s (grT (getName s p)) ≤ s.length)) : rrGet s p = (noR, 0, 400) := by
  by_cases h0 : grE (getName s p) = 0
  · rw [rrGet, gR_ok h0, if_neg h]
  · exact rrGet_bad1 h0
theorem rrGet_two {C : Prop} [Decidable C] {r' : RR} {k to fr en : Int} {r0 : RR} (h0 : grE (getName s p) = 0) (hto : grT (getName s p) = to) (h1 : to + 10 ≤ s.length) (h2 : numI (slc s (to + 2) (to + 4)) = 1) (hk : sizeG s to = k) (hf : to + 10 = fr) (he : fr + k = en) (h3 : en ≤ s.length)
    (hr : headG s to (grN (getName s p)) = r0) (hd : dataG s r0 fr k = if C then some r' else none) : (¬ C ∨ rrMay r' = false → rrGet s p = (noR, 0, 400)) ∧ (C ∧ rrMay r' = true → rrGet s p = (r', en, 0)) := by
  subst hto; subst hk; subst hf; subst he; subst hr
  have hg := gR_ok h0
  rw [if_pos ⟨h1, h2, h3⟩, hd] at hg
  constructor
  · intro h
    rw [rrGet, hg]
    by_cases hc : C
    · rw [if_pos hc, Option.bind_some, if_neg (by rcases h with h | h; exact absurd hc h; simp [h])]
    · rw [if_neg hc]; rfl
  · rintro ⟨h, hm⟩
    rw [rrGet, hg, if_pos h, Option.bind_some, if_pos hm]
variable {r : RR} {k en : Int}
theorem dG_1 (ht : r.type = 1) (h0 : 0 ≤ p) (he : p + k = en) (hl : en ≤ s.length) : dataG s r p k = if k = 4 then some ⟨r.name, r.type, r.ttl, (beG s p 4).1, r.target, r.text, r.serial⟩ else none := by
  rw [dataG, if_pos ht]
  by_cases h : k = 4
  · rw [if_pos h, if_pos h, beG_in (by simp) h0 rfl (by omega)]
  · rw [if_neg h, if_neg h]
theorem gt_iff {E q : Int} (hE : E ≤ s.length) (h : grE (getName (s.take E.toNat) q) = 0) : getName s q = getName (s.take E.toNat) q ∧ grT (getName (s.take E.toNat) q) ≤ E := by
  have := (getName_take hE).1 (gr_ok h)
  exact ⟨this.1.trans (gr_ok h).symm, this.2⟩
theorem gt_to {E q : Int} (hE : E ≤ s.length) (h : grE (getName s q) = 0) (ht : grT (getName s q) ≤ E) : getName (s.take E.toNat) q = getName s q :=
  ((getName_take hE).2 ⟨gr_ok h, ht⟩).trans (gr_ok h).symm
theorem dG_n (ht : r.type = 2 ∨ r.type = 5 ∨ r.type = 12) (he : p + k = en) (hl : en ≤ s.length) : dataG s r p k = if grE (getName (s.take en.toNat) p) = 0 ∧ grT (getName (s.take en.toNat) p) = en then some ⟨r.name, r.type, r.ttl, r.addr, grN (getName (s.take en.toNat) p), r.text, r.serial⟩ else none := by
  subst he
  rw [dataG, if_neg (by omega), if_pos (by simp only [isName, Bool.or_eq_true, decide_eq_true_eq]; omega)]
  by_cases h : grE (getName (s.take (p + k).toNat) p) = 0 ∧ grT (getName (s.take (p + k).toNat) p) = p + k
  · rw [if_pos h, (gt_iff hl h.1).1, if_pos h]
  · rw [if_neg h, if_neg]
    rintro ⟨a, b⟩
    rw [gt_to hl a (by omega)] at h
    exact h ⟨a, b⟩
theorem dG_6 (ht : r.type = 6) (h0 : 0 ≤ p) (he : p + k = en) (hl : en ≤ s.length) : dataG s r p k =
    if (((grE (getName (s.take en.toNat) p) = 0 ∧ grE (getName (s.take en.toNat) (grT (getName (s.take en.toNat) p))) = 0) ∧ grN (getName (s.take en.toNat) p) = grN (getName (s.take en.toNat) (grT (getName (s.take en.toNat) p)))) ∧ grT (getName (s.take en.toNat) (grT (getName (s.take en.toNat) p))) + 20 = en) ∧
      slc s (grT (getName (s.take en.toNat) (grT (getName (s.take en.toNat) p))) + 4) en = soaTail then some ⟨r.name, r.type, r.ttl, r.addr, grN (getName (s.take en.toNat) p), r.text, (beG s (grT (getName (s.take en.toNat) (grT (getName (s.take en.toNat) p)))) 4).1⟩ else none := by
  subst he
  rw [dataG, if_neg (by omega), if_neg (by rw [ht]; decide), if_pos ht]
  by_cases h : (((grE (getName (s.take (p + k).toNat) p) = 0 ∧ grE (getName (s.take (p + k).toNat) (grT (getName (s.take (p + k).toNat) p))) = 0) ∧ grN (getName (s.take (p + k).toNat) p) = grN (getName (s.take (p + k).toNat) (grT (getName (s.take (p + k).toNat) p)))) ∧ grT (getName (s.take (p + k).toNat) (grT (getName (s.take (p + k).toNat) p))) + 20 = p + k) ∧
      slc s (grT (getName (s.take (p + k).toNat) (grT (getName (s.take (p + k).toNat) p))) + 4) (p + k) = soaTail
  · rw [if_pos h]
    obtain ⟨⟨⟨⟨a, b⟩, c⟩, d⟩, e⟩ := h
    have e1 := (gt_iff hl a).1
    have e2 := (gt_iff hl b).1
    rw [← e1] at a b c d e ⊢
    rw [← e1] at e2
    rw [← e2] at b c d e ⊢
    have hr := getName_rng (gr_ok a)
    have hr2 := getName_rng (gr_ok b)
    rw [if_pos ⟨a, b, c.symm, d, e⟩, beG_in (by simp) (by omega) rfl (by omega)]
  · rw [if_neg h, if_neg]
    rintro ⟨a, b, c, d, e⟩
    have hr2 := getName_rng (gr_ok b)
    have e1 := gt_to hl a (by omega)
    have e2 := gt_to hl b (by omega)
    rw [e1, e2] at h
    exact h ⟨⟨⟨⟨a, b⟩, c.symm⟩, d⟩, e⟩
theorem dG_16 (ht : r.type = 16) (h0 : 0 ≤ p) (he : p + k = en) (hl : en ≤ s.length) (hk : 0 ≤ k) : dataG s r p k = if 0 < k ∧ ((s.getD (min p ((s.length : Int) - 1)).toNat 0).toNat : Int) = k - 1 then some ⟨r.name, r.type, r.ttl, r.addr, r.target, slc s (min (p + 1) en) en, r.serial⟩ else none := by
  subst he
  rw [dataG, if_neg (by omega), if_neg (by rw [ht]; decide), if_neg (by omega), if_pos ht]
  by_cases h : 0 < k
  · rw [Int.min_eq_left (by omega : p ≤ (s.length : Int) - 1), Int.min_eq_left (by omega : p + 1 ≤ p + k), slc_one h0 (by omega), numI_one]
  · rw [if_neg (fun x => h x.1), if_neg (fun x => h x.1)]
theorem dG_49 (ht : r.type = 49) (he : p + k = en) : dataG s r p k = if True then some ⟨r.name, r.type, r.ttl, r.addr, r.target, slc s p en, r.serial⟩ else none := by
  subst he
  rw [dataG, if_neg (by omega), if_neg (by rw [ht]; decide), if_neg (by omega), if_neg (by omega)]; rfl
theorem rrGet_other {to : Int} (hto : grT (getName s p) = to) (ht : numI (slc s to (to + 2)) = k) (hn : ¬ (k = 1 ∨ k = 2 ∨ k = 5 ∨ k = 12 ∨ k = 6 ∨ k = 16 ∨ k = 49)) : rrGet s p = (noR, 0, 400) := by
  subst hto; subst ht
  by_cases h0 : grE (getName s p) = 0
  · have hn2 : ¬ isName (numI (slc s (grT (getName s p)) (grT (getName s p) + 2))) = true := by
      simp only [isName, Bool.or_eq_true, decide_eq_true_eq]; omega
    have hd : dataG s (headG s (grT (getName s p)) (grN (getName s p))) (grT (getName s p) + 10) (sizeG s (grT (getName s p))) = some ⟨grN (getName s p), numI (slc s (grT (getName s p)) (grT (getName s p) + 2)), numI (slc s (grT (getName s p) + 4) (grT (getName s p) + 8)), 0, [], slc s (grT (getName s p) + 10) (grT (getName s p) + 10 + sizeG s (grT (getName s p))), 0⟩ := by
      rw [dataG, if_neg (by simp only [headG]; omega), if_neg (by simp only [headG]; exact hn2), if_neg (by simp only [headG]; omega), if_neg (by simp only [headG]; omega)]; rfl
    rw [rrGet, gR_ok h0, hd]
    by_cases hc : grT (getName s p) + 10 ≤ s.length ∧ numI (slc s (grT (getName s p) + 2) (grT (getName s p) + 4)) = 1 ∧ grT (getName s p) + 10 + sizeG s (grT (getName s p)) ≤ s.length
    · rw [if_pos hc, Option.bind_some, if_neg (fun hm => by have := may_type hm; dsimp only at this; omega)]
    · rw [if_neg hc]
  · exact rrGet_bad1 h0
end
theorem dataPut_ks {at_ : Int} {ks : List Kn} {r : RR} {d : List UInt8} {k2 : List Kn} (h : dataPut at_ ks r = some (d, k2)) : k2.length ≤ ks.length + 16 := by
  have hn : ∀ {p : Int} {ks k2 : List Kn} {nm t : List UInt8}, putName p ks nm = some (t, k2) → k2.length ≤ ks.length + 8 := fun {p ks k2 nm t} h => by
    obtain ⟨_, _, rfl⟩ := putName_zero h
    exact (nmPut_more _ _ _).2.1
  unfold dataPut at h
  split at h
  · simp only [Option.some.injEq, Prod.mk.injEq] at h; rw [h.2]; omega
  split at h
  · cases hy : putName at_ ks r.target with
    | none => rw [hy] at h; cases h
    | some y =>
      rw [hy, Option.bind_some] at h
      cases hz : putName (at_ + y.1.length) y.2 r.target with
      | none => rw [hz] at h; cases h
      | some z =>
        rw [hz] at h
        simp only [Option.map_some, Option.some.injEq, Prod.mk.injEq] at h
        have h1 := hn (t := y.1) (k2 := y.2) hy
        have h2 := hn (t := z.1) (k2 := z.2) hz
        rw [← h.2]; omega
  split at h
  · simp only [Option.some.injEq, Prod.mk.injEq] at h; rw [h.2]; omega
  split at h
  · simp only [Option.some.injEq, Prod.mk.injEq] at h; rw [h.2]; omega
  · have := hn h; omega
theorem rrPut_ks (at_ : Int) (ks : List Kn) (r : RR) : (rrPut at_ ks r).2.1.length ≤ ks.length + 1000 := by
  unfold rrPut
  cases h : putRr at_ ks r with
  | none => simp
  | some x =>
    obtain ⟨t, k2⟩ := x
    obtain ⟨_, x1, x2, d, hx, hd, _⟩ := put_more' h
    obtain ⟨_, _, rfl⟩ := putName_zero hx
    have h1 := (nmPut_more at_ ks r.name).2.1
    have h2 := dataPut_ks hd
    dsimp only; omega
end Go.Proofs.YtfmdaijkgjkmpaaGreatDoor
