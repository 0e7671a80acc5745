/-
  Contracts of package card in this seat: chains that are Round.
-/
import Derived.Test.YtlhmeoeamcgcmaaGreatE86
set_option linter.unusedSimpArgs false
set_option linter.unusedVariables false
namespace Go.AM
open Go.Proofs.Tryz
theorem dschE90 {p : Prop} (h : p := by first | exact Nat.ne_of_beq_eq_false rfl | assumption | (apply asOne; (first | exact One.int | exact One.bool | assumption | exact Ints.one (by assumption) | exact Rows.one (by assumption) | exact Own.one (by assumption) | exact One.lit ⟨rfl, rfl, rfl⟩)) | (apply asInts; (repeat first | assumption | exact ints_nil | apply Ints.app); done) | (apply asRows; (repeat first | assumption | exact Rows.nil | apply Rows.app); done) | (apply asScal; (first | apply allS1 | apply allS2 | apply allS3 | apply allS4) <;> (first | exact One.int | exact One.bool | assumption | exact Ints.one (by assumption) | exact Rows.one (by assumption) | exact Own.one (by assumption) | exact One.lit ⟨rfl, rfl, rfl⟩)) | exact litT rfl | exact litF rfl | omega | (simp only [List.length_append, List.length_cons, List.length_nil, List.length_set, List.length_reverse]; first | done | omega) | fail) : p := h
attribute [-go_sem] put_ne put_same
attribute [local go_sem ↓] put_if
abbrev chV (W : Int) (v : AVal) (k s : Int) : AVal := .agg [.int .i64 W, v, .int .i64 k, .int .i64 s]
abbrev chB (W : Int) (v : AVal) (k s : Int) : ABlk := ⟨.cells [.int .i64 W, v, .int .i64 k, .int .i64 s] 87 false false, 0⟩
/-! ### Bits -/
theorem pow_lt {w : Nat} (hw : w ≤ 60) : 1 ≤ 2 ^ w ∧ 2 ^ w ≤ 1152921504606846976 := ⟨Nat.one_le_two_pow, by have := Nat.pow_le_pow_right (show 0 < 2 by decide) hw; simpa using this⟩
theorem shl_bit {t : TypeId} {w : Nat} (hw : w ≤ 60) : binA prog .shl t (.int .i64 1) (.int .i64 (w : Int)) = some (.int .i64 ((2 ^ w : Nat) : Int)) := by
  have := pow_lt hw
  rw [bin_shl (by omega)]
  have e : min (w : Int).toNat IntKind.i64.bits = w := by simp [IntKind.bits]; omega
  rw [e, Int.one_mul, show ((2 : Int) ^ w) = ((2 ^ w : Nat) : Int) by simp, wrap64 (by omega) (by omega)]
theorem and_mask {t : TypeId} {a w : Nat} (ha : a < 1152921504606846976) (hw : w ≤ 60) : binA prog .and t (.int .i64 (a : Int)) (.int .i64 (((2 ^ w : Nat) : Int) - 1)) = some (.int .i64 ((a % 2 ^ w : Nat) : Int)) := by
  have hp := pow_lt hw
  have e0 : ((2 ^ w : Nat) : Int) - 1 = ((2 ^ w - 1 : Nat) : Int) := by omega
  rw [e0]
  have e : BitVec.ofInt 64 (a : Int) &&& BitVec.ofInt 64 ((2 ^ w - 1 : Nat) : Int) = BitVec.ofNat 64 (a % 2 ^ w) := by
    apply BitVec.eq_of_toNat_eq
    rw [BitVec.toNat_and, BitVec.ofInt_natCast, BitVec.ofInt_natCast, BitVec.toNat_ofNat, BitVec.toNat_ofNat, BitVec.toNat_ofNat, Nat.mod_eq_of_lt (a := a) (by omega), Nat.mod_eq_of_lt (a := 2 ^ w - 1) (by omega), Nat.and_two_pow_sub_one_eq_mod]
    have := Nat.mod_le a (2 ^ w)
    rw [Nat.mod_eq_of_lt (a := a % 2 ^ w) (by omega)]
  have := Nat.mod_le a (2 ^ w)
  show some (AVal.int .i64 (IntKind.i64.wrap ((BitVec.ofInt 64 (a : Int) &&& BitVec.ofInt 64 ((2 ^ w - 1 : Nat) : Int)).toNat : Int))) = _
  rw [e, BitVec.toNat_ofNat, Nat.mod_eq_of_lt (by omega), wrap64 (by omega) (by omega)]
theorem or_zero {t : TypeId} {a : Nat} (ha : a < 1152921504606846976) : binA prog .or t (.int .i64 (a : Int)) (.int .i64 0) = some (.int .i64 (a : Int)) := by
  have e : BitVec.ofInt 64 (a : Int) ||| BitVec.ofInt 64 0 = BitVec.ofNat 64 a := by
    apply BitVec.eq_of_toNat_eq
    rw [BitVec.toNat_or, BitVec.ofInt_natCast]
    simp
  show some (AVal.int .i64 (IntKind.i64.wrap ((BitVec.ofInt 64 (a : Int) ||| BitVec.ofInt 64 0).toNat : Int))) = _
  rw [e, BitVec.toNat_ofNat, Nat.mod_eq_of_lt (by omega), wrap64 (by omega) (by omega)]
theorem xor_bits {t : TypeId} {a b : Nat} (ha : a < 1152921504606846976) (hb : b < 1152921504606846976) : binA prog .xor t (.int .i64 (a : Int)) (.int .i64 (b : Int)) = some (.int .i64 ((a ^^^ b : Nat) : Int)) := by
  have hx : a ^^^ b < 2 ^ 60 := Nat.xor_lt_two_pow (by omega) (by omega)
  have e : BitVec.ofInt 64 (a : Int) ^^^ BitVec.ofInt 64 (b : Int) = BitVec.ofNat 64 (a ^^^ b) := by
    apply BitVec.eq_of_toNat_eq
    rw [BitVec.toNat_xor, BitVec.ofInt_natCast, BitVec.ofInt_natCast, BitVec.toNat_ofNat, BitVec.toNat_ofNat, BitVec.toNat_ofNat, Nat.mod_eq_of_lt (a := a) (by omega), Nat.mod_eq_of_lt (a := b) (by omega), Nat.mod_eq_of_lt (by omega)]
  show some (AVal.int .i64 (IntKind.i64.wrap ((BitVec.ofInt 64 (a : Int) ^^^ BitVec.ofInt 64 (b : Int)).toNat : Int))) = _
  rw [e, BitVec.toNat_ofNat, Nat.mod_eq_of_lt (by omega), wrap64 (by omega) (by omega)]
/-! ### Bounds, plans, takers -/
theorem run_inC {base : Nat} {h : Heap} {n lo hi : Int} : callL prog raw base (.fn 110 [] []) [.int .i64 n, .int .i64 lo, .int .i64 hi] h = some (.bool (decide (lo ≤ n ∧ n ≤ hi)), h) := by
  refine callL_run func110 rfl rfl ?_
  by_cases h1 : lo ≤ n
  · have t1 : (n ≥ lo) = True := eq_true h1
    have hsp := @Nat.succ_ne_zero; repeat' (first | simp (disch := first | exact dschE90 | fail) only [go_sem, ↓reduceIte, hsp, t1] | refine WP_drw ?_ | refine cnd_intro (fun hsp => ?_) fun hsp => ?_)
    refine fB ?_
    simp [h1]
  · have t1 : (n ≥ lo) = False := eq_false h1
    have hsp := @Nat.succ_ne_zero; repeat' (first | simp (disch := first | exact dschE90 | fail) only [go_sem, ↓reduceIte, hsp, t1] | refine WP_drw ?_ | refine cnd_intro (fun hsp => ?_) fun hsp => ?_)
    refine fB ?_
    simp [h1]
attribute [go_sem] run_inC
theorem run_known0 {base : Nat} {h : Heap} : callL prog raw base (.fn 148 [] []) [.int .i64 0] h = some (.bool true, h) := by
  refine callL_run func148 rfl rfl ?_
  have hsp := @Nat.succ_ne_zero; repeat' (first | simp (disch := first | exact dschE90 | fail) only [go_sem, ↓reduceIte, hsp] | refine WP_drw ?_ | refine cnd_intro (fun hsp => ?_) fun hsp => ?_)
  exact fB rfl
theorem run_planC {base : Nat} {h : Heap} {v : AVal} {l : List Int} {W k s : Int} (hI : Ints h v l) : callL prog raw base (.fn 151 [] []) [chV W v k s] h = some (.agg [.int .i64 k, .int .i64 (l.length : Int), .int .i64 s], h) := by
  have o := hI.one
  refine callL_run func151 rfl rfl ?_
  have hsp := @Nat.succ_ne_zero; repeat' (first | simp (disch := first | exact dschE90 | fail) only [go_sem, ↓reduceIte, hsp] | refine WP_drw ?_ | refine cnd_intro (fun hsp => ?_) fun hsp => ?_)
  exact fin_pl rfl rfl (.app (.app .refl))
theorem run_stepped0 {base : Nat} {h : Heap} {n W : Int} : callL prog raw base (.fn 152 [] []) [.agg [.int .i64 0, .int .i64 n, .int .i64 0], .int .i64 W] h = some (.bool true, h) := by
  refine callL_run func152 rfl rfl ?_
  have hsp := @Nat.succ_ne_zero; repeat' (first | simp (disch := first | exact dschE90 | fail) only [go_sem, ↓reduceIte, hsp] | refine WP_drw ?_ | refine cnd_intro (fun hsp => ?_) fun hsp => ?_)
  exact fB (by simp) (.app .refl)
theorem run_takerC {base : Nat} {h : Heap} {n W : Int} : callL prog raw base (.fn 153 [] []) [.agg [.int .i64 0, .int .i64 n, .int .i64 0], .int .i64 W] h = some (.agg [.fn 180 [] [.ptr (some ⟨h.length, 0, 0⟩)]], h ++ [⟨.cells [.int .i64 n] 3 false false, 0⟩]) := by
  have of : ∀ {f : FuncId} {c : List AVal}, One (.fn f [] c) := fun {f c} => ⟨rfl, rfl, rfl⟩
  have n3 : ∀ {js : List Nat} {u : Nat}, newId h.length (js.map fun j => h.length + j) (h.length + 1 + 1 + 1) u = (h.length + js.idxOf 3, 0) := fun {js u} => newId_map (j := 3)
  refine callL_run func153 rfl rfl ?_
  have hsp := @Nat.succ_ne_zero; repeat' (first | simp (disch := first | exact dschE90 | fail) only [go_sem, ↓reduceIte, hsp, of] | refine WP_drw ?_ | refine cnd_intro (fun hsp => ?_) fun hsp => ?_)
  rw [List.append_assoc, List.append_assoc, List.append_assoc]
  rw [compact_many (js := [3]) (by simp [AVal.refs, refsL]) (by decide) (by decide) (by
    intro j hj
    simp only [List.mem_singleton] at hj
    subst hj
    exact ⟨_, _, _, _, rfl, rfl⟩)]
  simp only [AVal.ren, renL, n3]
  rfl
theorem run_taken {base i : Nat} {H : Heap} {n t : Nat} (hg : H[i]? = some ⟨.cells [.int .i64 (n : Int)] 3 false false, 0⟩) (hn : 0 < n) : callL prog raw base (.fn 180 [] [.ptr (some ⟨i, 0, 0⟩)]) [.int .i64 (t : Int)] H = some (.tuple [.int .i64 ((t % n : Nat) : Int), .int .i64 0], H) := by
  have r : binA prog .rem 3 (.int .i64 (t : Int)) (.int .i64 (n : Int)) = some (.int .i64 ((t % n : Nat) : Int)) := by rw [bin_rem (by omega), tmodN]
  refine callL_run func180 rfl rfl ?_
  have hsp := @Nat.succ_ne_zero; repeat' (first | simp (disch := first | exact dschE90 | fail) only [go_sem, ↓reduceIte, hsp, hg, r] | refine WP_drw ?_ | refine cnd_intro (fun hsp => ?_) fun hsp => ?_)
  exact fII rfl rfl .refl
theorem run_moved0 {base : Nat} {h : Heap} {a w : Nat} (hw : w ≤ 8) (ha : a < 2 ^ w) : callL prog raw base (.fn 154 [] []) [.int .i64 (a : Int), .int .i64 0, .int .i64 (w : Int)] h = some (.int .i64 (a : Int), h) := by
  have hp : 2 ^ w ≤ 256 := by have := Nat.pow_le_pow_right (show 0 < 2 by decide) hw; simpa using this
  have e1 : binA prog .shl 3 (.int .i64 (a : Int)) (.int .i64 0) = some (.int .i64 (a : Int)) := by
    rw [bin_shl (by omega)]
    simp only [Int.toNat_zero, Nat.zero_min, Int.pow_zero, Int.mul_one]
    rw [wrap64 (by omega) (by omega)]
  have e2 : binA prog .shr 3 (.int .i64 (a : Int)) (.int .i64 (w : Int)) = some (.int .i64 0) := by
    rw [bin_shr (by omega)]
    have e : min (w : Int).toNat IntKind.i64.bits = w := by simp [IntKind.bits]; omega
    rw [e, show ((2 : Int) ^ w) = ((2 ^ w : Nat) : Int) by simp, Int.fdiv_eq_ediv_of_nonneg _ (by omega), Int.ediv_eq_zero_of_lt (by omega) (by omega)]
  have e3 := fun t => or_zero (t := t) (a := a) (by omega)
  have e4 := fun t => shl_bit (t := t) (w := w) (by omega)
  have e5 := fun t => and_mask (t := t) (a := a) (w := w) (by omega) (by omega)
  have e6 : a % 2 ^ w = a := Nat.mod_eq_of_lt ha
  rw [e6] at e5
  refine callL_run func154 rfl rfl ?_
  have hsp := @Nat.succ_ne_zero; repeat' (first | simp (disch := first | exact dschE90 | fail) only [go_sem, ↓reduceIte, hsp, e1, e2, e3, e4, e5, Int.sub_zero] | refine WP_drw ?_ | refine cnd_intro (fun hsp => ?_) fun hsp => ?_)
  exact fI rfl
/-- Cards of so many threads. -/
def Crds (w : Nat) (l : List Int) : Prop := ∀ x ∈ l, 0 ≤ x ∧ x < ((2 ^ w : Nat) : Int)
theorem run_liftC {base : Nat} {h : Heap} {v : AVal} {l : List Int} {w t : Nat} (hI : Ints h v l) (hl : 0 < l.length) (hw : w ≤ 8) (hC : Crds w l) : callL prog raw base (.fn 111 [] []) [chV (w : Int) v 0 0, .int .i64 (t : Int)] h = some (.int .i64 (l.getD (t % l.length) 0), h) := by
  have o := hI.one
  have hm := Nat.mod_lt t hl
  have hx := hC _ (getD_mem (l := l) (i := t % l.length) hm)
  obtain ⟨x, ex⟩ : ∃ x : Nat, l.getD (t % l.length) 0 = (x : Int) := ⟨(l.getD (t % l.length) 0).toNat, by omega⟩
  have rp := fun base H (e : Ext h H) => run_planC (base := base) (W := (w : Int)) (k := 0) (s := 0) (hI.ext e)
  have rp1 : ∀ {base : Nat} {a : ABlk}, callL prog raw base (.fn 151 [] []) [chV (w : Int) v 0 0] (h ++ [a]) = some (.agg [.int .i64 0, .int .i64 (l.length : Int), .int .i64 0], h ++ [a]) := fun {base a} => rp base _ (.app .refl)
  have rt2 : ∀ {base : Nat} {a : ABlk}, callL prog raw base (.fn 180 [] [.ptr (some ⟨h.length + 1, 0, 0⟩)]) [.int .i64 (t : Int)] (h ++ [a] ++ [⟨.cells [.int .i64 (l.length : Int)] 3 false false, 0⟩]) = some (.tuple [.int .i64 ((t % l.length : Nat) : Int), .int .i64 0], h ++ [a] ++ [⟨.cells [.int .i64 (l.length : Int)] 3 false false, 0⟩]) := fun {base a} => run_taken (get_eq (by simp)) hl
  have mv := fun base H => run_moved0 (base := base) (h := H) (a := x) (w := w) hw (by omega)
  refine callL_run func111 rfl rfl ?_
  have hsp := @Nat.succ_ne_zero; repeat' (first | simp (disch := first | exact dschE90 | fail) only [go_sem, ↓reduceIte, hsp, rp1, run_takerC, rt2, ex, mv] | refine WP_drw ?_ | refine cnd_intro (fun hsp => ?_) fun hsp => ?_)
  exact fI rfl (.app (.app .refl))
end Go.AM
