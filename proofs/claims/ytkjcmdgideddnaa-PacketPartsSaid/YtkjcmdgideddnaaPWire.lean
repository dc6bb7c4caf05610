/- Plain laws (PWire): lists and numbers alone. No condition. -/
import Derived.Test.YtkjcmdgideddnaaPName
import Derived.Test.YtkjcmdgideddnaaPBe
set_option linter.unusedVariables false
set_option linter.unusedSimpArgs false
namespace Go.Proofs.Ytkjcmdgideddnaa
structure Kn where
  name : List UInt8
  pos : Int
deriving DecidableEq
def kfind : List Kn → List UInt8 → Option Int
  | [], _ => none
  | k :: r, s => if k.name = s then some k.pos else kfind r s
def knOk (k : Kn) : Bool := !decide (k.name = []) && nmMay k.name && decide (0 ≤ k.pos) && decide (k.pos < 16384)
def putL (known : List Kn) (at_ : Int) : List (List UInt8) → List UInt8 → List Kn → List UInt8 × List Kn
  | [], out, all => (out ++ [0], all)
  | l :: r, out, all => match kfind known (joinD (l :: r)) with
    | some t => (out ++ beb (49152 + t) 2, all)
    | none => putL known at_ r (out ++ UInt8.ofNat l.length :: l) (if at_ + out.length < 16384 then all ++ [⟨joinD (l :: r), at_ + out.length⟩] else all)
def putName (at_ : Int) (ks : List Kn) (nm : List UInt8) : Option (List UInt8 × List Kn) :=
  if (ks.all knOk && decide (0 ≤ at_) && decide (at_ ≤ 65535) && nmMay nm) = true then some (putL ks at_ (labs nm) [] ks) else none
/-- how a name that is read comes out -/
inductive GR where
  | err (e : Int)
  | ok (name : List UInt8) (to : Int)
deriving DecidableEq
structure GS where
  at_ : Int
  row : Int
  fin : Int
  ls : List (List UInt8)
def slc (s : List UInt8) (i j : Int) : List UInt8 := (s.take j.toNat).drop i.toNat
def stepG (s : List UInt8) (g : GS) : GR ⊕ GS :=
  if (s.length : Int) ≤ g.at_ then .inl (.err 301) else
  let k : Int := (s.getD g.at_.toNat 0).toNat
  if k = 0 then .inl (.ok (joinD g.ls) (if g.fin < 0 then g.at_ + 1 else g.fin)) else
  if k ≤ 8 then
    if (s.length : Int) - k < g.at_ + 1 then .inl (.err 301) else
    let t := fold (slc s (g.at_ + 1) (g.at_ + 1 + k))
    if labOk t = false ∨ g.ls.length = 8 then .inl (.err 300) else .inr ⟨g.at_ + 1 + k, g.row, g.fin, g.ls ++ [t]⟩
  else if 192 ≤ k then
    if (s.length : Int) ≤ g.at_ + 1 then .inl (.err 301) else
    let to := k * 256 + (s.getD (g.at_ + 1).toNat 0).toNat - 49152
    if g.row ≤ to then .inl (.err 300) else .inr ⟨to, to, if g.fin < 0 then g.at_ + 2 else g.fin, g.ls⟩
  else .inl (.err 300)
def getF : Nat → List UInt8 → GS → Option GR
  | 0, _, _ => none
  | n + 1, s, g => match stepG s g with
    | .inl r => some r
    | .inr g' => getF n s g'
def Got (s : List UInt8) (g : GS) (r : GR) : Prop := ∃ n, getF n s g = some r
theorem getF_more {s : List UInt8} {r : GR} : ∀ {n : Nat} {g : GS} (m : Nat), getF n s g = some r → n ≤ m → getF m s g = some r
  | 0, _, _, h, _ => by simp [getF] at h
  | n + 1, g, 0, _, h => by omega
  | n + 1, g, m + 1, h, hl => by
    simp only [getF] at h ⊢
    cases hs : stepG s g with
    | inl r => rw [hs] at h; exact h
    | inr g' => rw [hs] at h; exact getF_more m h (by omega)
theorem Got.det {s : List UInt8} {g : GS} {r r' : GR} (h : Got s g r) (h' : Got s g r') : r = r' := by
  obtain ⟨n, h⟩ := h; obtain ⟨m, h'⟩ := h'
  have a := getF_more (max n m) h (by omega)
  have b := getF_more (max n m) h' (by omega)
  rw [a] at b; exact Option.some.inj b
theorem Got.stop {s : List UInt8} {g : GS} {r : GR} (h : stepG s g = .inl r) : Got s g r := ⟨1, by simp [getF, h]⟩
theorem Got.step {s : List UInt8} {g g' : GS} {r : GR} (h : stepG s g = .inr g') (k : Got s g' r) : Got s g r := by
  obtain ⟨n, k⟩ := k; exact ⟨n + 1, by simp [getF, h, k]⟩
abbrev GS.of (p : Int) : GS := ⟨p, p, -1, []⟩
/-- what stands at a place: labels, and where they end -/
inductive Rd (s : List UInt8) : Nat → Nat → List (List UInt8) → Nat → Prop where
  | nil {row p : Nat} (h : s[p]? = some 0) : Rd s row p [] (p + 1)
  | lab {row p e : Nat} {l : List UInt8} {r : List (List UInt8)} (hk : s[p]? = some (UInt8.ofNat l.length)) (hl : ∀ i, i < l.length → s[p + 1 + i]? = l[i]?) (hs : labOk l = true) (k : Rd s row (p + 1 + l.length) r e) : Rd s row p (l :: r) e
  | ptr {row p t e : Nat} {ls : List (List UInt8)} (h1 : s[p]? = some (byteOf ((49152 + t) / 256))) (h2 : s[p + 1]? = some (byteOf (49152 + t))) (ht : t < row) (hb : t < 16384) (k : Rd s t t ls e) : Rd s row p ls (p + 2)
theorem Rd.more {s : List UInt8} (x : List UInt8) {row p e : Nat} {ls : List (List UInt8)} (h : Rd s row p ls e) : Rd (s ++ x) row p ls e := by
  have get : ∀ {i : Nat} {b : UInt8}, s[i]? = some b → (s ++ x)[i]? = some b := fun {i b} h => by
    rw [List.getElem?_append_left (List.getElem?_eq_some_iff.1 h).1]; exact h
  induction h with
  | nil h => exact .nil (get h)
  | lab hk hl hs _ ih => exact .lab (get hk) (fun i hi => by have := hl i hi; rw [List.getElem?_eq_getElem hi] at this ⊢; exact get this) hs ih
  | ptr h1 h2 ht hb _ ih => exact .ptr (get h1) (get h2) ht hb ih
theorem Rd.row {s : List UInt8} {row row' p e : Nat} {ls : List (List UInt8)} (h : Rd s row p ls e) (hr : row ≤ row') : Rd s row' p ls e := by
  induction h generalizing row' with
  | nil h => exact .nil h
  | lab hk hl hs _ ih => exact .lab hk hl hs (ih hr)
  | ptr h1 h2 ht hb k _ => exact .ptr h1 h2 (Nat.lt_of_lt_of_le ht hr) hb k
theorem Rd.lt {s : List UInt8} {row p e : Nat} {ls : List (List UInt8)} (h : Rd s row p ls e) : p < s.length := by
  cases h with
  | nil h => exact (List.getElem?_eq_some_iff.1 h).1
  | lab hk _ _ _ => exact (List.getElem?_eq_some_iff.1 hk).1
  | ptr h1 _ _ _ _ => exact (List.getElem?_eq_some_iff.1 h1).1
theorem getD_of {s : List UInt8} {p : Nat} {b : UInt8} (h : s[p]? = some b) : s.getD p 0 = b := by rw [List.getD_eq_getElem?_getD, h]; rfl
theorem slc_of {s l : List UInt8} {p : Nat} (hl : ∀ i, i < l.length → s[p + i]? = l[i]?) (_ : p + l.length ≤ s.length) : slc s p (p + l.length : Nat) = l := by
  unfold slc
  apply List.ext_getElem?
  intro i
  simp only [Int.toNat_natCast]
  rw [List.getElem?_drop, List.getElem?_take]
  split
  · exact hl i (by omega)
  · exact (List.getElem?_eq_none (by omega)).symm
theorem Rd.got {s : List UInt8} {row p e : Nat} {ls : List (List UInt8)} (h : Rd s row p ls e) : ∀ (fin : Int) (acc : List (List UInt8)), acc.length + ls.length ≤ 8 →
    Got s ⟨p, row, fin, acc⟩ (.ok (joinD (acc ++ ls)) (if fin < 0 then (e : Int) else fin)) := by
  induction h with
  | @nil row p h =>
    intro fin acc ha
    have hp : p < s.length := (List.getElem?_eq_some_iff.1 h).1
    refine .stop ?_
    unfold stepG
    simp only [Int.toNat_natCast, getD_of h]
    rw [if_neg (by omega), if_pos (by rfl)]
    simp
  | @lab row p e l r hk hl hs k ih =>
    intro fin acc ha
    have hp : p < s.length := (List.getElem?_eq_some_iff.1 hk).1
    have hlen := labOk_len hs
    have hk2 : ((UInt8.ofNat l.length).toNat : Int) = l.length := by simp; omega
    have hend : p + 1 + l.length ≤ s.length := by
      have := hl (l.length - 1) (by omega)
      rw [List.getElem?_eq_getElem (l := l) (by omega)] at this
      have := (List.getElem?_eq_some_iff.1 this).1
      omega
    have hsl : fold (slc s ((p : Int) + 1) ((p : Int) + 1 + (l.length : Int))) = l := by
      have e1 : ((p : Int) + 1) = ((p + 1 : Nat) : Int) := by omega
      have e2 : ((p : Int) + 1 + (l.length : Int)) = ((p + 1 + l.length : Nat) : Int) := by omega
      rw [e1, show ((p + 1 : Nat) : Int) + (l.length : Int) = ((p + 1 + l.length : Nat) : Int) by omega, slc_of hl hend, fold_ok hs]
    simp only [List.length_cons] at ha
    refine .step (g' := ⟨((p + 1 + l.length : Nat) : Int), row, fin, acc ++ [l]⟩) ?_ ?_
    · unfold stepG
      simp only [Int.toNat_natCast, getD_of hk, hk2, hsl]
      rw [if_neg (by omega), if_neg (by omega), if_pos (by omega), if_neg (by omega), if_neg (fun h => by rcases h with h | h; (rw [hs] at h; cases h); omega)]
      simp
    · have := ih fin (acc ++ [l]) (by simp; omega)
      simpa using this
  | @ptr row p t e ls h1 h2 ht hb k ih =>
    intro fin acc ha
    have hp : p + 1 < s.length := (List.getElem?_eq_some_iff.1 h2).1
    have e1 : (((byteOf ((49152 + t) / 256)).toNat : Nat) : Int) = (49152 + t) / 256 := by rw [byteOf_toNat]; omega
    have e2 : (((byteOf (49152 + t)).toNat : Nat) : Int) = (49152 + t) % 256 := byteOf_toNat _
    refine .step (g' := ⟨(t : Int), (t : Int), if fin < 0 then (p : Int) + 2 else fin, acc⟩) ?_ ?_
    · unfold stepG
      simp only [Int.toNat_natCast, getD_of h1, show ((p : Int) + 1).toNat = p + 1 by omega, getD_of h2, e1, e2]
      rw [if_neg (by omega), if_neg (by omega), if_neg (by omega), if_pos (by omega), if_neg (by omega)]
      have e3 : ((49152 + (t : Int)) / 256 * 256 + (49152 + (t : Int)) % 256 - 49152) = t := by omega
      rw [e3, if_neg (by omega)]
    · have := ih (if fin < 0 then (p : Int) + 2 else fin) acc ha
      have h3 : (if (if fin < 0 then (p : Int) + 2 else fin) < 0 then (e : Int) else (if fin < 0 then (p : Int) + 2 else fin)) = (if fin < 0 then ((p + 2 : Nat) : Int) else fin) := by
        split
        · rw [if_neg (by omega)]; omega
        · rfl
      rw [h3] at this
      exact this
/-- what is known is there -/
def Good (s : List UInt8) (ks : List Kn) : Prop := ∀ k ∈ ks, knOk k = true ∧ ∃ e, Rd s k.pos.toNat k.pos.toNat (labs k.name) e
theorem Good.more {s : List UInt8} {ks : List Kn} (h : Good s ks) (x : List UInt8) : Good (s ++ x) ks := fun k hk => by
  obtain ⟨h1, e, h2⟩ := h k hk; exact ⟨h1, e, h2.more x⟩
theorem kfind_mem {ks : List Kn} {s : List UInt8} {t : Int} (h : kfind ks s = some t) : ⟨s, t⟩ ∈ ks := by
  induction ks with
  | nil => simp [kfind] at h
  | cons k r ih =>
    simp only [kfind] at h
    split at h
    · rename_i e; subst e; simp only [Option.some.injEq] at h; subst h; exact List.mem_cons_self
    · exact List.mem_cons_of_mem _ (ih h)
theorem get_at {s x y : List UInt8} {i : Nat} : (s ++ x ++ y)[s.length + i]? = (x ++ y)[i]? := by
  rw [List.append_assoc, List.getElem?_append_right (by omega)]; congr 1; omega
/-- a name that is written behind a text can be read there, and all that is known then -/
theorem putL_good (s : List UInt8) (ks : List Kn) (hg : Good s ks) : ∀ (ls : List (List UInt8)) (out : List UInt8) (all : List Kn) (acc : List Kn), ls.all labOk = true → ls.length ≤ 8 →
    (∀ s', Good (s ++ out ++ s') all ∨ True) →
    ∃ w added, putL ks s.length ls out all = (out ++ w, all ++ added) ∧ (∀ z, Rd (s ++ out ++ w ++ z) s.length (s.length + out.length) ls (s.length + out.length + w.length)) ∧
      (∀ k ∈ added, knOk k = true ∧ s.length ≤ k.pos.toNat ∧ ∀ z, ∃ e, Rd (s ++ out ++ w ++ z) s.length k.pos.toNat (labs k.name) e)
  | [], out, all, acc, _, _, _ => by
    refine ⟨[0], [], by simp [putL], fun z => ?_, by simp⟩
    have : (s ++ out ++ [0] ++ z)[s.length + out.length]? = some 0 := by
      rw [List.append_assoc, List.getElem?_append_right (by simp)]; simp
    exact .nil this
  | l :: r, out, all, acc, h1, h2, h3 => by
    have h1' := h1
    simp only [List.all_cons, Bool.and_eq_true] at h1
    simp only [List.length_cons] at h2
    have hlen := labOk_len h1.1
    simp only [putL]
    cases hf : kfind ks (joinD (l :: r)) with
    | some t =>
      obtain ⟨g1, e, g2⟩ := hg _ (kfind_mem hf)
      simp only [labs_join h1'] at g2
      simp only [knOk, Bool.and_eq_true, decide_eq_true_eq] at g1
      have hlt := g2.lt
      refine ⟨beb (49152 + t) 2, [], by simp, fun z => ?_, by simp⟩
      have hb : beb (49152 + t) 2 = [byteOf ((49152 + t) / 256), byteOf (49152 + t)] := by simp [beb]
      have ht : ((t.toNat : Nat) : Int) = t := by omega
      have a1 : (s ++ out ++ beb (49152 + t) 2 ++ z)[s.length + out.length]? = some (byteOf ((49152 + (t.toNat : Nat)) / 256)) := by
        rw [List.append_assoc, List.getElem?_append_right (by simp), hb, ht]; simp
      have a2 : (s ++ out ++ beb (49152 + t) 2 ++ z)[s.length + out.length + 1]? = some (byteOf (49152 + (t.toNat : Nat))) := by
        rw [List.append_assoc, List.getElem?_append_right (by simp), hb, ht]; simp
      rw [beb_len]
      refine .ptr (e := e) a1 a2 hlt (by omega) ?_
      · have := (g2.more (out ++ beb (49152 + t) 2 ++ z))
        simpa [List.append_assoc] using this
    | none =>
      simp only
      obtain ⟨w, added, e1, e2, e3⟩ := putL_good s ks hg r (out ++ UInt8.ofNat l.length :: l) (if (s.length : Int) + out.length < 16384 then all ++ [⟨joinD (l :: r), (s.length : Int) + out.length⟩] else all) acc h1.2 (by omega) (fun _ => .inr trivial)
      have base : ∀ z, Rd (s ++ out ++ (UInt8.ofNat l.length :: l ++ w) ++ z) s.length (s.length + out.length) (l :: r) (s.length + out.length + (UInt8.ofNat l.length :: l ++ w).length) := fun z => by
        have k := e2 z
        have ea : s ++ (out ++ UInt8.ofNat l.length :: l) ++ w ++ z = s ++ out ++ (UInt8.ofNat l.length :: l ++ w) ++ z := by simp
        have eb : s.length + (out ++ UInt8.ofNat l.length :: l).length = s.length + out.length + 1 + l.length := by simp; omega
        have ec : s.length + out.length + 1 + l.length + w.length = s.length + out.length + (UInt8.ofNat l.length :: l ++ w).length := by simp; omega
        rw [ea, eb, ec] at k
        refine .lab ?_ ?_ h1.1 k
        · rw [List.append_assoc, List.getElem?_append_right (by simp)]; simp
        · intro i hi
          rw [List.append_assoc, List.getElem?_append_right (by simp; omega)]
          have : s.length + out.length + 1 + i - (s ++ out).length = i + 1 := by simp; omega
          rw [this]
          simp only [List.cons_append, List.getElem?_cons_succ, List.append_assoc]
          rw [List.getElem?_append_left hi]
      by_cases hp : (s.length : Int) + out.length < 16384
      · rw [if_pos hp] at e1
        refine ⟨UInt8.ofNat l.length :: l ++ w, ⟨joinD (l :: r), (s.length : Int) + out.length⟩ :: added, ?_, base, ?_⟩
        · rw [if_pos hp, e1]; simp
        · intro k hk
          rcases List.mem_cons.1 hk with rfl | hk
          · refine ⟨?_, by simp only; omega, fun z => ?_⟩
            · simp only [knOk, nmMay_join h1' (by simp; omega), joinD_ne (by simp) h1', Bool.and_eq_true, decide_eq_true_eq]
              refine ⟨⟨by simp, by omega⟩, hp⟩
            · simp only [labs_join h1']
              have := base z
              rw [show ((s.length : Int) + out.length).toNat = s.length + out.length by omega]
              exact ⟨_, this⟩
          · obtain ⟨f1, f2, f3⟩ := e3 k hk
            refine ⟨f1, f2, fun z => ?_⟩
            have := f3 z
            have ea : s ++ (out ++ UInt8.ofNat l.length :: l) ++ w ++ z = s ++ out ++ (UInt8.ofNat l.length :: l ++ w) ++ z := by simp
            rw [ea] at this; exact this
      · rw [if_neg hp] at e1
        refine ⟨UInt8.ofNat l.length :: l ++ w, added, ?_, base, ?_⟩
        · rw [if_neg hp, e1]; simp
        · intro k hk
          obtain ⟨f1, f2, f3⟩ := e3 k hk
          refine ⟨f1, f2, fun z => ?_⟩
          have := f3 z
          have ea : s ++ (out ++ UInt8.ofNat l.length :: l) ++ w ++ z = s ++ out ++ (UInt8.ofNat l.length :: l ++ w) ++ z := by simp
          rw [ea] at this; exact this
/-- a name behind a text: it comes back, and all that is known is there -/
theorem putName_good {s : List UInt8} {ks ks' : List Kn} {nm t : List UInt8} (hg : Good s ks) (h : putName s.length ks nm = some (t, ks')) :
    ∃ added, ks' = ks ++ added ∧ Good (s ++ t) ks' ∧ ∀ z, Rd (s ++ t ++ z) s.length s.length (labs nm) (s.length + t.length) := by
  unfold putName at h
  split at h
  · rename_i hc
    simp only [Bool.and_eq_true] at hc
    have hl := nmMay_labs hc.2
    obtain ⟨w, added, e1, e2, e3⟩ := putL_good s ks hg (labs nm) [] ks [] hl.1 hl.2 (fun _ => .inr trivial)
    simp only [Option.some.injEq] at h
    rw [e1] at h
    simp only [List.nil_append, Prod.mk.injEq] at h
    obtain ⟨rfl, rfl⟩ := h
    refine ⟨added, rfl, ?_, fun z => by have := e2 z; simpa using this⟩
    intro k hk
    rcases List.mem_append.1 hk with hk | hk
    · exact hg.more w k hk
    · obtain ⟨f1, f2, f3⟩ := e3 k hk
      refine ⟨f1, ?_⟩
      obtain ⟨e, f3⟩ := f3 []
      exact ⟨e, by have := f3.row f2; simpa using this⟩
  · cases h

end Go.Proofs.Ytkjcmdgideddnaa
