/- Plain laws (PRr): lists and numbers alone. No condition. -/
import Derived.Test.YtkjcmdgideddnaaPWire
set_option linter.unusedVariables false
set_option linter.unusedSimpArgs false
namespace Go.Proofs.Ytkjcmdgideddnaa
structure RR where
  name : List UInt8
  type : Int
  ttl : Int
  addr : Int
  target : List UInt8
  text : List UInt8
  serial : Int
deriving DecidableEq
def word (x : Int) : Bool := decide (0 ≤ x) && decide (x ≤ 4294967295)
def isName (t : Int) : Bool := decide (t = 2) || decide (t = 5) || decide (t = 12)
def rrBody (r : RR) : Bool :=
  if r.type = 1 then decide (r.target = []) && decide (r.text = []) && decide (r.serial = 0) && word r.addr
  else if isName r.type then decide (r.addr = 0) && decide (r.text = []) && decide (r.serial = 0) && nmMay r.target
  else if r.type = 6 then decide (r.addr = 0) && decide (r.text = []) && nmMay r.target && word r.serial
  else if r.type = 16 ∨ r.type = 49 then decide (r.addr = 0) && decide (r.target = []) && decide (r.serial = 0) && decide (r.text.length ≤ 64)
  else false
def rrMay (r : RR) : Bool := rrBody r && nmMay r.name && decide (0 ≤ r.ttl) && decide (r.ttl ≤ 1048576)
def soaTail : List UInt8 := beb 60 4 ++ beb 60 4 ++ beb 600 4 ++ beb 60 4
def dataPut (fr : Int) (ks : List Kn) (r : RR) : Option (List UInt8 × List Kn) :=
  if r.type = 1 then some (beb r.addr 4, ks)
  else if r.type = 6 then (putName fr ks r.target).bind fun x => (putName (fr + x.1.length) x.2 r.target).map fun y => (x.1 ++ y.1 ++ beb r.serial 4 ++ soaTail, y.2)
  else if r.type = 16 then some (UInt8.ofNat r.text.length :: r.text, ks)
  else if r.type = 49 then some (r.text, ks)
  else putName fr ks r.target
def putRr (at_ : Int) (ks : List Kn) (r : RR) : Option (List UInt8 × List Kn) :=
  if rrMay r then (putName at_ ks r.name).bind fun x => (dataPut (at_ + x.1.length + 10) x.2 r).map fun y =>
    (x.1 ++ beb r.type 2 ++ beb 1 2 ++ beb r.ttl 4 ++ beb y.1.length 2 ++ y.1, y.2)
  else none
def numI (l : List UInt8) : Int := l.foldl (fun x b => x * 256 + (b.toNat : Int)) 0
def num (s : List UInt8) (p k : Nat) : Option Int := if p + k ≤ s.length then some (numI ((s.drop p).take k)) else none
/-! a name cut off behind a pointer is the same -/
theorem numI_app (a b : List UInt8) : numI (a ++ b) = numI a * 256 ^ b.length + numI b := by
  unfold numI
  rw [List.foldl_append]
  generalize List.foldl (fun x b => x * 256 + ((b : UInt8).toNat : Int)) 0 a = v
  have key : ∀ (b : List UInt8) (v : Int), List.foldl (fun x b => x * 256 + ((b : UInt8).toNat : Int)) v b = v * 256 ^ b.length + List.foldl (fun x b => x * 256 + ((b : UInt8).toNat : Int)) 0 b := by
    intro b
    induction b with
    | nil => intro v; simp
    | cons x r ih =>
      intro v
      simp only [List.foldl_cons, List.length_cons]
      rw [ih (v * 256 + x.toNat), ih (0 * 256 + x.toNat)]
      rw [Int.pow_succ, Int.add_mul, Int.zero_mul, Int.zero_add, Int.add_assoc]
      congr 1
      rw [Int.mul_assoc, Int.mul_comm 256]
  exact key b v
theorem numI_beb : ∀ (n : Nat) (x : Int), 0 ≤ x → x < 256 ^ n → numI (beb x n) = x
  | 0, x, h0, h1 => by simp at h1; have : x = 0 := by omega
                       subst this; rfl
  | n + 1, x, h0, h1 => by
    rw [beb, numI_app, numI_beb n (x / 256) (by omega) (by rw [Int.pow_succ] at h1; omega)]
    simp only [List.length_cons, List.length_nil, Nat.zero_add, Int.pow_one, numI, List.foldl_cons, List.foldl_nil]
    rw [byteOf_toNat]; omega
theorem beb_numI : ∀ (n : Nat) (l : List UInt8), l.length = n → beb (numI l) n = l
  | 0, l, h => by rw [List.eq_nil_of_length_eq_zero h]; rfl
  | n + 1, l, h => by
    rcases List.eq_nil_or_concat l with rfl | ⟨m, x, rfl⟩
    · simp at h
    · simp only [List.concat_eq_append, List.length_append, List.length_singleton] at h ⊢
      have e : numI (m ++ [x]) = numI m * 256 + x.toNat := by simp [numI]
      have hx := x.toNat_lt
      have e1 : (numI m * 256 + (x.toNat : Int)) / 256 = numI m := by omega
      have e2 : (numI m * 256 + (x.toNat : Int)) % 256 = x.toNat := by omega
      rw [beb, e, e1, beb_numI n m (by omega)]
      congr 1
      simp [byteOf, e2]

end Go.Proofs.Ytkjcmdgideddnaa
