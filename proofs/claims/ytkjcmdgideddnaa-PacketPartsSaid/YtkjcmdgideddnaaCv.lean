/- Texts and rows of bytes: the conversion of a text into a row, a byte that is written there, the search for a byte, numbers put together. Conditions: as each says. -/
import Derived.Test.YtkjcmdgideddnaaArr
import Derived.Lib.Bytealg
import Derived.Test.YtkjcmdgideddnaaPName
set_option linter.unusedVariables false
set_option linter.unusedSimpArgs false
namespace Go.Proofs.Ytkjcmdgideddnaa
open Go Go.RowKit
theorem or_add (m : Nat) (hm : m < 63) {p q : Int} (hp : 0 ≤ p) (hq : 0 ≤ q) (hq2 : q < ((2 ^ m : Nat) : Int)) (hd : p % ((2 ^ m : Nat) : Int) = 0) (hs : p + q < 9223372036854775808) : bits .or .i64 p q = p + q := by
  obtain ⟨a, rfl⟩ := Int.eq_ofNat_of_zero_le hp
  obtain ⟨b, rfl⟩ := Int.eq_ofNat_of_zero_le hq
  have hb : b < 2 ^ m := by exact_mod_cast hq2
  have hd2 : a % 2 ^ m = 0 := by exact_mod_cast hd
  have hab : a + b < 9223372036854775808 := by omega
  have e : (BitVec.ofInt 64 (a : Int) ||| BitVec.ofInt 64 (b : Int)).toNat = a + b := by
    rw [BitVec.toNat_or, BitVec.ofInt_natCast, BitVec.ofInt_natCast, BitVec.toNat_ofNat, BitVec.toNat_ofNat, Nat.mod_eq_of_lt (by omega), Nat.mod_eq_of_lt (by omega)]
    have h1 : (a / 2 ^ m) <<< m = a := by rw [Nat.shiftLeft_eq]; have := Nat.div_add_mod a (2 ^ m); rw [Nat.mul_comm]; omega
    have h2 := Nat.shiftLeft_add_eq_or_of_lt hb (a / 2 ^ m)
    rw [h1] at h2
    exact h2.symm
  show IntKind.i64.wrap ((BitVec.ofInt 64 (a : Int) ||| BitVec.ofInt 64 (b : Int)).toNat : Int) = _
  rw [e, wrap_in _ (by omega)]
  omega
theorem ixb_lib (c : UInt8) : ∀ (s : List UInt8), Lib.indexByte s c = ixb s c
  | [] => rfl
  | b :: l => by
    simp only [Lib.indexByte, ixb, ixb_lib c l]
    by_cases h : b = c <;> simp [h]
section
variable {P : Program} {ρ : Operand → Value} {D : Option Tmp} {d n : Nat} {w0 w : World} {L0 L L' : Heap} {all rest : List Oper} {E : Env} {Q : Post} {x y : Operand} {T T' U ty : TypeId} {pos : String} {aft : Array Edge} {g : Option (Nat × Bool)} {G : Bool}
theorem r_ixB {f : FuncId} {fn : Func} {v : Value} {p q : Value} {Ts : Array TypeId} {z : Operand} (hz : ρ z = .func (.func f) #[] #[]) (hx : ρ x = p) (hy : ρ y = q) (hc : (callFunc f #[p, q]).run P w = .ok (.value v) w) : (execOp ρ ⟨D, .call ⟨.value z, #[x, y], Ts⟩, ty, pos, aft, g⟩).run P w = .ok (.value v) w := by
  simp [execOp, hz, hx, hy, go_sem, hc]
/-- the first place of a byte -/
theorem O.ixB {f : FuncId} {fn : Func} {s : List UInt8} {c : UInt8} {Ts : Array TypeId} {z : Operand} (hp : Pre n all E g d G := by exact ⟨rfl, rfl⟩) (hz : Val G E z (.func (.func f) #[] #[])) (hx : Val G E x (.string (S s))) (hy : Val G E y (.int .u8 c.toNat)) (hf : P.funcs[f]? = some fn) (hname : (fn.name == "runtime.NumGoroutine") = false)
    (hb : fn.body.isNone = true) (hn : Extern.findNext fn = none) (he : Extern.find fn = some Extern.BytealgIndexByte.indexByte) : QV P n w0 L0 all ⟨some d, .call ⟨.value z, #[x, y], Ts⟩, ty, pos, aft, g⟩ E L d G (.int .i64 (ixb s c)) :=
  O.val rfl hp (fun hG a w ha hw => by
    have h := run_callFunc_extern hf hname hb hn he #[.string (S s), .int .u8 c.toNat] w
    rw [Lib.run_indexByteString] at h
    have e : ((c.toNat : Int).toNat).toUInt8 = c := by simp
    simp only [e] at h
    rw [ixb_lib] at h
    exact r_ixB (fn := fn) (hz.eval hG ha) (hx.eval hG ha) (hy.eval hG ha) h)
/-- '[]byte(s)' -/
theorem W.cvSB {s : List UInt8} [ts : TStr P T] [td : TSlice P T' U] [tb : TInt P U .u8] (hn : Nat.blt d n = true) (hx : Val true E x (.string (S s)))
    (k : ∀ b c sp, s.length ≤ c → WL P n w0 L0 all rest ((d, true, .slice (some ⟨b, 0, none⟩) s.length c) :: E) ((b, .cells (flat encB s sp).toArray U (c, c + 1)) :: L) Q) : WL P n w0 L0 all (⟨some d, .convert T T' x, ty, pos, aft, none⟩ :: rest) E L Q :=
  W.loud rfl rfl hn (R := fun v L2 => ∃ b c sp, s.length ≤ c ∧ v = .slice (some ⟨b, 0, none⟩) s.length c ∧ L2 = (b, .cells (flat encB s sp).toArray U (c, c + 1)) :: L) (fun A w ha hw => by
    have hr := run_bytes_of_string (P := P) w T T' U (S s) ts.h td.h tb.h
    have hge := grownCap_ge w (S s).size 0 U
    rw [size_S] at hge
    have hsz : (bytesRow (S s) (grownCap w (S s).size 0 U)).size = grownCap w s.length 0 U := by
      simp [bytesRow, size_S]; omega
    have e : bytesRow (S s) (grownCap w (S s).size 0 U) = (flat encB s (List.replicate (grownCap w s.length 0 U - s.length) (.int .u8 0))).toArray := by
      apply Array.ext'
      simp [bytesRow, flat, flat_bytes, S, size_S]
    rw [hsz, e, size_S] at hr
    refine ⟨_, w.drew.alloc (.cells (flat encB s (List.replicate (grownCap w s.length 0 U - s.length) (.int .u8 0))).toArray U (grownCap w s.length 0 U, grownCap w s.length 0 U + 1)), _, ?_, (hw.same (w' := w.drew) rfl rfl rfl rfl).alloc _, w.heap.size, grownCap w s.length 0 U, List.replicate (grownCap w s.length 0 U - s.length) (.int .u8 0), hge, rfl, rfl⟩
    simp only [execOp, hx.eval rfl ha]
    rw [Sem.run_bind, hr]; rfl) (by
    rintro v L2 ⟨b, c, sp, h1, rfl, rfl⟩
    exact k b c sp h1)
/-- a byte of such a row is written -/
theorem W.stZ {b j c : Nat} {v : Int} {xs : List UInt8} {sp : List Value} (u : UInt8) (hx : Val true E x (.pointer (elt (some ⟨b, 0, none⟩) 1 j 0))) (hy : Val true E y (.int .u8 v)) (hv : v = u.toNat) [ht : TSize P T 1] [hb : Blk L b (.cells (flat encB xs sp).toArray U (c, c + 1))] (hj : j < xs.length) (hc : xs.length ≤ c)
    [hr : Rep L b (.cells (flat encB xs sp).toArray U (c, c + 1)) (.cells (flat encB (xs.set j u) sp).toArray U (c, c + 1)) L']
    (k : WL P n w0 L0 all rest E L' Q) : WL P n w0 L0 all (⟨none, .store T x y, ty, pos, aft, none⟩ :: rest) E L Q := by
  subst hv
  refine W.skp (w' := fun w => w.setRow b (flat encB (xs.set j u) sp).toArray) rfl rfl (fun a w ha hw => ?_) k
  have hbw := hw.has _ hb.h
  have hlen : j < (flat encB xs sp).toArray.size := by
    rw [List.size_toArray, flat, List.length_append, flat_bytes, List.length_map]; omega
  have hset : (flat encB xs sp).toArray.setIfInBounds j (.int .u8 u.toNat) = (flat encB (xs.set j u) sp).toArray := by
    have := flat_set (enc := encB) (m := 1) (fun _ => rfl) (u := .int .u8 u.toNat) xs sp j 0 u hj (by decide) (fun x hx => rfl)
    simp only [Nat.mul_one, Nat.add_zero] at this
    rw [← this]; simp
  have hst : (store ⟨b, j, none⟩ (.int .u8 u.toNat)).run P w = .ok () (w.setRow b (flat encB (xs.set j u) sp).toArray) := by
    have hcell : w.cell? ⟨b, j, none⟩ = some ((flat encB xs sp).toArray[j]'hlen) := by simp only [World.cell?, hbw]; simp [hlen]
    rw [run_store P w _ _ _ rfl, hcell]
    have hfz : w.frozen? ⟨b, j, none⟩ = false := by simp [World.frozen?, hbw]; omega
    simp only [hfz]
    rw [setCell_eq_setRow w b j _ U (c, c + 1) _ hbw, hset]; rfl
  have hsv : (storeVar T ⟨b, j, none⟩ (.int .u8 u.toNat)).run P w = .ok () (w.setRow b (flat encB (xs.set j u) sp).toArray) := by
    have hc1 : (Value.int .u8 (u.toNat : Int)).cells = #[Value.int .u8 u.toNat] := rfl
    have ha : (⟨b, j, none⟩ : Addr).add 0 = ⟨b, j, none⟩ := by simp [Addr.add_at]
    simp [storeVar, hc1, Sem.run_bind, TSize.run (T := T) w, storeCells, ha, hst]
  have hx' := hx.eval rfl ha
  simp only [elt, Option.map_some, Nat.zero_add, Nat.mul_one, Nat.add_zero] at hx'
  exact ⟨by simp [execOp, Instr.storeAt, Instr.sureAddr, hx', hy.eval rfl ha, Sem.run_bind, hsv], hw.setRow hr⟩
end
end Go.Proofs.Ytkjcmdgideddnaa
