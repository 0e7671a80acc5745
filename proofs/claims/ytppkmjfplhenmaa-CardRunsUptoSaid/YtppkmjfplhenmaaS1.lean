/-
  Contracts: the spool of numbers.
-/
import Derived.Test.YtppkmjfplhenmaaD18
import Derived.Test.YtppkmjfplhenmaaAm35
set_option linter.unusedSimpArgs false
set_option linter.unusedVariables false
namespace Go.AM
open Go.Proofs.Try

/-! ### Plain numbers -/
def spMid (silk : List Int) (k st : Nat) : Nat := if 0 < silk.length then (st + (silk.getD (k % silk.length) 0).toNat * 977) % 18446744073709551616 else st
/-- The state of a spool behind k turns. -/
def wd (silk : List Int) : Nat → Nat
  | 0 => silk.length
  | k + 1 => if silk.length < k + 1 then (spMid silk k (wd silk k) * 1103515245 + 12345) % 18446744073709551616 else spMid silk k (wd silk k)
/-- What the k-th turn gives. -/
def tv (silk : List Int) (k : Nat) : Nat := (wd silk (k + 1) / 8 ^^^ wd silk (k + 1) / 524288) % 65536
def up (silk : List Int) (k : Nat) (n : Int) : Int := (tv silk k : Int) % max 1 (n + 1)
theorem tv_lt {silk : List Int} {k : Nat} : tv silk k < 65536 := Nat.mod_lt _ (by decide)
theorem up_bd {silk : List Int} {k : Nat} {n : Int} (h : 0 ≤ n) : 0 ≤ up silk k n ∧ up silk k n ≤ n ∧ up silk k n < 65536 := by
  have h1 := tv_lt (silk := silk) (k := k)
  unfold up
  have e : max 1 (n + 1) = n + 1 := by omega
  rw [e]
  have h2 := Int.emod_nonneg (tv silk k : Int) (show n + 1 ≠ 0 by omega)
  have h3 := Int.emod_lt_of_pos (tv silk k : Int) (show 0 < n + 1 by omega)
  have h4 : (tv silk k : Int) % (n + 1) ≤ tv silk k := by
    by_cases hh : (tv silk k : Int) < n + 1
    · rw [Int.emod_eq_of_lt (by omega) hh]; exact Int.le_refl _
    · omega
  omega
theorem spMid_lt {silk : List Int} {k st : Nat} (h : st < 18446744073709551616) : spMid silk k st < 18446744073709551616 := by
  unfold spMid; split <;> omega
theorem wd_lt {silk : List Int} (h : silk.length < 18446744073709551616) : ∀ k, wd silk k < 18446744073709551616
  | 0 => h
  | k + 1 => by
    have := spMid_lt (silk := silk) (k := k) (wd_lt h k)
    simp only [wd]
    split <;> omega

/-! ### The spool -/
def spB (v : AVal) (silk : List Int) (k : Nat) : ABlk := ⟨.cells [v, .int .i64 (k : Int), .int .u64 (wd silk k : Int)] 131 false false, 0⟩
def SpAt (H : Heap) (id : Nat) (v : AVal) (silk : List Int) (k : Nat) : Prop := H[id]? = some (spB v silk k) ∧ Bytes H v silk ∧ ∀ r n c, v = .slice (some r) n c → r.id ≠ id
theorem asSp {H : Heap} {id : Nat} {v : AVal} {silk : List Int} {k : Nat} (x : SpAt H id v silk k) : SpAt H id v silk k := x
theorem SpAt.app {H T : Heap} {id : Nat} {v : AVal} {silk : List Int} {k : Nat} (x : SpAt H id v silk k) : SpAt (H ++ T) id v silk k := ⟨get_app x.1, x.2.1.app, x.2.2⟩
theorem SpAt.set {H : Heap} {id : Nat} {v : AVal} {silk : List Int} {k m : Nat} (x : SpAt H id v silk k) : SpAt (H.set id (spB v silk m)) id v silk m := by
  refine ⟨by rw [List.getElem?_set_self (lt_of_get x.1)], x.2.1.set x.2.2, x.2.2⟩
theorem SpAt.set_ne {H : Heap} {id j : Nat} {v : AVal} {silk : List Int} {k : Nat} {b : ABlk} (x : SpAt H id v silk k) (hj : j ≠ id) (hv : ∀ r n c, v = .slice (some r) n c → r.id ≠ j) : SpAt (H.set j b) id v silk k :=
  ⟨by rw [List.getElem?_set_ne hj]; exact x.1, x.2.1.set hv, x.2.2⟩
theorem Bytes.low {H : Heap} {v : AVal} {l : List Int} (h : Bytes H v l) : ∀ r n c, v = .slice (some r) n c → r.id < H.length := by
  intro r n c e
  rcases h.2 with ⟨rfl, _⟩ | ⟨rfl, _⟩ | ⟨r', k', c', e', row, ro, h1, h2, _⟩
  · cases e
  · cases e
  · rw [h1] at e
    cases e
    exact lt_of_get h2
theorem SpAt.new {H : Heap} {id : Nat} {v : AVal} {silk : List Int} {k : Nat} (h : Bytes H v silk) (hid : id = H.length) : SpAt (H ++ [spB v silk k]) id v silk k := by
  refine ⟨by rw [get_eq hid], h.app, fun r n c e => ?_⟩
  have := h.low r n c e
  omega

theorem wrapU {n : Nat} : IntKind.u64.wrap (n : Int) = ((n % 18446744073709551616 : Nat) : Int) := by
  simp [IntKind.wrap, IntKind.signed, IntKind.bits]
theorem addU {t : TypeId} {a b : Nat} : binA prog .add t (.int .u64 (a : Int)) (.int .u64 (b : Int)) = some (.int .u64 (((a + b) % 18446744073709551616 : Nat) : Int)) := by
  rw [bin_add, ← Int.natCast_add, wrapU]
theorem mulU {t : TypeId} {a b : Nat} : binA prog .mul t (.int .u64 (a : Int)) (.int .u64 (b : Int)) = some (.int .u64 (((a * b) % 18446744073709551616 : Nat) : Int)) := by
  rw [bin_mul, ← Int.natCast_mul, wrapU]
theorem shrU {t : TypeId} {a b : Nat} (hb : b ≤ 60) : binA prog .shr t (.int .u64 (a : Int)) (.int .u64 (b : Int)) = some (.int .u64 ((a / 2 ^ b : Nat) : Int)) := by
  rw [bin_shr (by omega)]
  have e : min (b : Int).toNat IntKind.u64.bits = b := by simp [IntKind.bits]; omega
  rw [e]
  have e2 : ((2 : Int) ^ b) = ((2 ^ b : Nat) : Int) := by simp
  rw [e2, Int.fdiv_eq_ediv_of_nonneg _ (Int.natCast_nonneg _)]
  rfl
theorem xorU {t : TypeId} {a b : Nat} (ha : a < 18446744073709551616) (hb : b < 18446744073709551616) : binA prog .xor t (.int .u64 (a : Int)) (.int .u64 (b : Int)) = some (.int .u64 ((a ^^^ b : Nat) : Int)) := by
  have hx : a ^^^ b < 2 ^ 64 := Nat.xor_lt_two_pow (by omega) (by omega)
  have e : BitVec.ofInt 64 (a : Int) ^^^ BitVec.ofInt 64 (b : Int) = BitVec.ofNat 64 (a ^^^ b) := by
    apply BitVec.eq_of_toNat_eq
    simp [BitVec.toNat_xor, BitVec.toNat_ofInt]
  have h1 : (BitVec.ofNat 64 (a ^^^ b)).toNat = a ^^^ b := by rw [BitVec.toNat_ofNat, Nat.mod_eq_of_lt (by omega)]
  show some (AVal.int .u64 (IntKind.u64.wrap ((BitVec.ofInt 64 (a : Int) ^^^ BitVec.ofInt 64 (b : Int)).toNat : Int))) = _
  rw [e, h1, wrapU, Nat.mod_eq_of_lt (by omega)]
theorem and16 {t : TypeId} {a : Nat} (ha : a < 9223372036854775808) : binA prog .and t (.int .i64 (a : Int)) (.int .i64 65535) = some (.int .i64 ((a % 65536 : Nat) : Int)) := by
  have e : BitVec.ofInt 64 (a : Int) &&& BitVec.ofInt 64 65535 = BitVec.ofNat 64 (a % 65536) := by
    apply BitVec.eq_of_toNat_eq
    have h2 : a &&& 65535 = a % 65536 := Nat.and_two_pow_sub_one_eq_mod a 16
    have h3 : a % 18446744073709551616 = a := Nat.mod_eq_of_lt (by omega)
    simp [BitVec.toNat_and, BitVec.toNat_ofInt]
    have h4 : (a : Int) % 18446744073709551616 = a := Int.emod_eq_of_lt (by omega) (by omega)
    rw [h3, h2]
    omega
  show some (AVal.int .i64 (IntKind.i64.wrap ((BitVec.ofInt 64 (a : Int) &&& BitVec.ofInt 64 65535).toNat : Int))) = _
  rw [e, BitVec.toNat_ofNat]
  have : a % 65536 < 65536 := Nat.mod_lt _ (by decide)
  rw [Nat.mod_eq_of_lt (by omega), wrap64 (by omega) (by omega)]
theorem cvtB {x : Nat} (hx : x ≤ 255) : convA prog 129 5 (.int .u8 (x : Int)) = some (.int .u64 (x : Int)) := by
  simp only [convA, underlying5, Fc.ik129, wrapU]
  rw [Nat.mod_eq_of_lt (by omega)]
theorem cvtI {x : Nat} (hx : x < 9223372036854775808) : convA prog 3 129 (.int .u64 (x : Int)) = some (.int .i64 (x : Int)) := by
  simp only [convA, underlying129, Fc.ik3]
  rw [wrap64 (by omega) (by omega)]
theorem cvtL {x : Nat} (hx : x < 9223372036854775808) : convA prog 129 3 (.int .i64 (x : Int)) = some (.int .u64 (x : Int)) := by
  simp only [convA, underlying3, Fc.ik129, wrapU]
  rw [Nat.mod_eq_of_lt (by omega)]
end Go.AM
