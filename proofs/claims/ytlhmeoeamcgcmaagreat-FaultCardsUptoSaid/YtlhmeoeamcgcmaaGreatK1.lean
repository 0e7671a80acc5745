/-
  Contracts: the spool of numbers. SpAt
-/
import Derived.Test.YtlhmeoeamcgcmaaGreatKJ
set_option linter.unusedSimpArgs false
set_option linter.unusedVariables false
namespace Go.AM
open Go.Proofs.Tryz
theorem dschK1 {p : Prop} (h : p := by first | exact Nat.ne_of_beq_eq_false rfl | assumption | (apply asOne; (first | exact One.int | exact One.bool | assumption | exact Ints.one (by assumption) | exact Rows.one (by assumption) | exact Own.one (by assumption) | exact One.lit ⟨rfl, rfl, rfl⟩ | exact Bytes.one (by assumption))) | (apply asSp; (repeat first | assumption | apply SpAt.set | (refine SpAt.new ?_ (by (first | rfl | (simp only [List.length_append, List.length_cons, List.length_nil, List.length_set]; done) | (simp only [List.length_append, List.length_cons, List.length_nil, List.length_set]; omega)))) | apply SpAt.app | apply Bytes.app); done) | (apply asBytes; (repeat first | assumption | apply Bytes.app); done) | (apply asInts; (repeat first | assumption | exact ints_nil | apply Ints.app); done) | (apply asRows; (repeat first | assumption | exact Rows.nil | apply Rows.app); done) | (apply asScal; (first | apply allS1 | apply allS2 | apply allS3 | apply allS4) <;> (first | exact One.int | exact One.bool | assumption | exact Ints.one (by assumption) | exact Rows.one (by assumption) | exact Own.one (by assumption) | exact One.lit ⟨rfl, rfl, rfl⟩ | exact Bytes.one (by assumption))) | exact litT rfl | exact litF rfl | omega | (simp only [List.length_append, List.length_cons, List.length_nil, List.length_set, List.length_reverse]; first | done | omega) | fail) : p := h
/-! ### Plain numbers -/
def spMid (silk : List Int) (k st : Nat) : Nat := if 0 < silk.length then (st + (silk.getD (k % silk.length) 0).toNat * 977) % 18446744073709551616 else st
/-- The state of a spool behind k turns. -/
def wd (silk : List Int) : Nat → Nat
  | 0 => silk.length
  | k + 1 => if silk.length < k + 1 then (spMid silk k (wd silk k) * 1103515245 + 12345) % 18446744073709551616 else spMid silk k (wd silk k)
/-- What the k-th turn gives. -/
def tv (silk : List Int) (k : Nat) : Nat := (wd silk (k + 1) / 8 ^^^ wd silk (k + 1) / 524288) % 65536
def up (silk : List Int) (k : Nat) (n : Int) : Int := (tv silk k : Int) % max 1 (n + 1)
theorem tv_lt {silk : List Int} {k : Nat} : tv silk k < 65536 := Nat.mod_lt _ (by decide)
theorem up_bd {silk : List Int} {k : Nat} {n : Int} (h : 0 ≤ n) : 0 ≤ up silk k n ∧ up silk k n ≤ n ∧ up silk k n < 65536 := by
  have h1 := tv_lt (silk := silk) (k := k)
  unfold up
  have e : max 1 (n + 1) = n + 1 := by omega
  rw [e]
  have h2 := Int.emod_nonneg (tv silk k : Int) (show n + 1 ≠ 0 by omega)
  have h3 := Int.emod_lt_of_pos (tv silk k : Int) (show 0 < n + 1 by omega)
  have h4 : (tv silk k : Int) % (n + 1) ≤ tv silk k := by
    by_cases hh : (tv silk k : Int) < n + 1
    · rw [Int.emod_eq_of_lt (by omega) hh]; exact Int.le_refl _
    · omega
  omega
theorem spMid_lt {silk : List Int} {k st : Nat} (h : st < 18446744073709551616) : spMid silk k st < 18446744073709551616 := by
  unfold spMid; split <;> omega
theorem wd_lt {silk : List Int} (h : silk.length < 18446744073709551616) : ∀ k, wd silk k < 18446744073709551616
  | 0 => h
  | k + 1 => by
    have := spMid_lt (silk := silk) (k := k) (wd_lt h k)
    simp only [wd]
    split <;> omega
/-! ### The spool -/
def spB (v : AVal) (silk : List Int) (k : Nat) : ABlk := ⟨.cells [v, .int .i64 (k : Int), .int .u64 (wd silk k : Int)] 174 false false, 0⟩
def SpAt (H : Heap) (id : Nat) (v : AVal) (silk : List Int) (k : Nat) : Prop := H[id]? = some (spB v silk k) ∧ Bytes H v silk ∧ ∀ r n c, v = .slice (some r) n c → r.id ≠ id
theorem asSp {H : Heap} {id : Nat} {v : AVal} {silk : List Int} {k : Nat} (x : SpAt H id v silk k) : SpAt H id v silk k := x
theorem SpAt.app {H T : Heap} {id : Nat} {v : AVal} {silk : List Int} {k : Nat} (x : SpAt H id v silk k) : SpAt (H ++ T) id v silk k := ⟨get_app x.1, x.2.1.app, x.2.2⟩
theorem SpAt.set {H : Heap} {id : Nat} {v : AVal} {silk : List Int} {k m : Nat} (x : SpAt H id v silk k) : SpAt (H.set id (spB v silk m)) id v silk m := by
  refine ⟨by rw [List.getElem?_set_self (lt_of_get x.1)], x.2.1.set x.2.2, x.2.2⟩
theorem Bytes.low {H : Heap} {v : AVal} {l : List Int} (h : Bytes H v l) : ∀ r n c, v = .slice (some r) n c → r.id < H.length := by
  intro r n c e
  rcases h.2 with ⟨rfl, _⟩ | ⟨rfl, _⟩ | ⟨r', k', c', e', row, ro, h1, h2, _⟩
  · cases e
  · cases e
  · rw [h1] at e
    cases e
    exact lt_of_get h2
theorem SpAt.new {H : Heap} {id : Nat} {v : AVal} {silk : List Int} {k : Nat} (h : Bytes H v silk) (hid : id = H.length) : SpAt (H ++ [spB v silk k]) id v silk k := by
  refine ⟨by rw [get_eq hid], h.app, fun r n c e => ?_⟩
  have := h.low r n c e
  omega
theorem wrapU {n : Nat} : IntKind.u64.wrap (n : Int) = ((n % 18446744073709551616 : Nat) : Int) := by
  simp [IntKind.wrap, IntKind.signed, IntKind.bits]
theorem addU {t : TypeId} {a b : Nat} : binA prog .add t (.int .u64 (a : Int)) (.int .u64 (b : Int)) = some (.int .u64 (((a + b) % 18446744073709551616 : Nat) : Int)) := by
  rw [bin_add, ← Int.natCast_add, wrapU]
theorem mulU {t : TypeId} {a b : Nat} : binA prog .mul t (.int .u64 (a : Int)) (.int .u64 (b : Int)) = some (.int .u64 (((a * b) % 18446744073709551616 : Nat) : Int)) := by
  rw [bin_mul, ← Int.natCast_mul, wrapU]
theorem shrU {t : TypeId} {a b : Nat} (hb : b ≤ 60) : binA prog .shr t (.int .u64 (a : Int)) (.int .u64 (b : Int)) = some (.int .u64 ((a / 2 ^ b : Nat) : Int)) := by
  rw [bin_shr (by omega)]
  have e : min (b : Int).toNat IntKind.u64.bits = b := by simp [IntKind.bits]; omega
  rw [e]
  have e2 : ((2 : Int) ^ b) = ((2 ^ b : Nat) : Int) := by simp
  rw [e2, Int.fdiv_eq_ediv_of_nonneg _ (Int.natCast_nonneg _)]
  rfl
theorem xorU {t : TypeId} {a b : Nat} (ha : a < 18446744073709551616) (hb : b < 18446744073709551616) : binA prog .xor t (.int .u64 (a : Int)) (.int .u64 (b : Int)) = some (.int .u64 ((a ^^^ b : Nat) : Int)) := by
  have hx : a ^^^ b < 2 ^ 64 := Nat.xor_lt_two_pow (by omega) (by omega)
  have e : BitVec.ofInt 64 (a : Int) ^^^ BitVec.ofInt 64 (b : Int) = BitVec.ofNat 64 (a ^^^ b) := by
    apply BitVec.eq_of_toNat_eq
    simp [BitVec.toNat_xor, BitVec.toNat_ofInt]
  have h1 : (BitVec.ofNat 64 (a ^^^ b)).toNat = a ^^^ b := by rw [BitVec.toNat_ofNat, Nat.mod_eq_of_lt (by omega)]
  show some (AVal.int .u64 (IntKind.u64.wrap ((BitVec.ofInt 64 (a : Int) ^^^ BitVec.ofInt 64 (b : Int)).toNat : Int))) = _
  rw [e, h1, wrapU, Nat.mod_eq_of_lt (by omega)]
theorem and16 {t : TypeId} {a : Nat} (ha : a < 9223372036854775808) : binA prog .and t (.int .i64 (a : Int)) (.int .i64 65535) = some (.int .i64 ((a % 65536 : Nat) : Int)) := by
  have e : BitVec.ofInt 64 (a : Int) &&& BitVec.ofInt 64 65535 = BitVec.ofNat 64 (a % 65536) := by
    apply BitVec.eq_of_toNat_eq
    have h2 : a &&& 65535 = a % 65536 := Nat.and_two_pow_sub_one_eq_mod a 16
    have h3 : a % 18446744073709551616 = a := Nat.mod_eq_of_lt (by omega)
    simp [BitVec.toNat_and, BitVec.toNat_ofInt]
    have h4 : (a : Int) % 18446744073709551616 = a := Int.emod_eq_of_lt (by omega) (by omega)
    rw [h3, h2]
    omega
  show some (AVal.int .i64 (IntKind.i64.wrap ((BitVec.ofInt 64 (a : Int) &&& BitVec.ofInt 64 65535).toNat : Int))) = _
  rw [e, BitVec.toNat_ofNat]
  have : a % 65536 < 65536 := Nat.mod_lt _ (by decide)
  rw [Nat.mod_eq_of_lt (by omega), wrap64 (by omega) (by omega)]
theorem cvtB {x : Nat} (hx : x ≤ 255) : convA prog 172 5 (.int .u8 (x : Int)) = some (.int .u64 (x : Int)) := by
  simp only [convA, underlying5, Fc.ik172, wrapU]
  rw [Nat.mod_eq_of_lt (by omega)]
theorem cvtI {x : Nat} (hx : x < 9223372036854775808) : convA prog 3 172 (.int .u64 (x : Int)) = some (.int .i64 (x : Int)) := by
  simp only [convA, underlying172, Fc.ik3]
  rw [wrap64 (by omega) (by omega)]
theorem cvtL {x : Nat} (hx : x < 9223372036854775808) : convA prog 172 3 (.int .i64 (x : Int)) = some (.int .u64 (x : Int)) := by
  simp only [convA, underlying3, Fc.ik172, wrapU]
  rw [Nat.mod_eq_of_lt (by omega)]
theorem lenB {h : Heap} {v : AVal} {l : List Int} (hI : Bytes h v l) : lenOpA prog h 84 v = some (.int .i64 (l.length : Int)) := hI.len Fc.el84
theorem adrB {h : Heap} {v : AVal} {l : List Int} {i : Int} (h0 : 0 ≤ i) (hI : Bytes h v l) (h1 : i < l.length) : indexAddrA prog 84 v (.int .i64 i) = some (elAddr v i.toNat) := hI.addr Fc.el84 Fc.ar84 h0 h1
theorem loadB {h : Heap} {v : AVal} {l : List Int} {i : Nat} (hI : Bytes h v l) (h1 : i < l.length) : loadP prog h 5 (elAddr v i) = some (.int .u8 (l.getD i 0)) :=
  hI.load Fc.ty5 (by rw [List.getD_eq_getElem?_getD, List.getElem?_eq_getElem h1]; rfl)
attribute [go_sem] lenB adrB loadB
theorem set_set' {H : Heap} {i : Nat} {a b : ABlk} : (H.set i a).set i b = H.set i b := List.set_set ..
theorem nck {r : ARef} : nilCheckA (.ptr (some r)) = some (.ptr (some r)) := rfl
attribute [go_sem] set_set' nck
theorem stQ_k {base id ver off : Nat} {c : List AVal} {e : TypeId} {row : Bool} {q : IntKind} {x : Int} {k : ABlk → Heap} (h : off < c.length) :
    stQ base id (some ⟨.cells c e row false, ver⟩) ver off [.int q x] k = some (k ⟨.cells (c.set off (.int q x)) e row false, ver⟩) := by
  simp only [stQ]
  rw [if_pos ⟨trivial, by simp only [List.length_cons, List.length_nil]; omega, by simp [AVal.scalar], .inr (by simp [AVal.bare])⟩]
  rfl
/-- One turn. -/
theorem run_turn {base id k : Nat} {h : Heap} {v : AVal} {silk : List Int} (hS : SpAt h id v silk k) (hk : k ≤ 1000000) :
    callL prog raw base (.fn 147 [] []) [.ptr (some ⟨id, 0, 0⟩)] h = some (.int .i64 (tv silk k : Int), h.set id (spB v silk (k + 1))) := by
  obtain ⟨hg, hB, hv⟩ := hS
  have hid := lt_of_get hg
  have hl : silk.length < 2 ^ 60 := hB.1.1
  have hw := wd_lt (silk := silk) (by omega) k
  have hw1 := wd_lt (silk := silk) (by omega) (k + 1)
  have hB2 : ∀ {b : ABlk}, Bytes (h.set id b) v silk := fun {b} => hB.set hv
  have hln : ∀ {b : ABlk}, lenOpA prog (h.set id b) 84 v = some (.int .i64 (silk.length : Int)) := fun {b} => lenB hB2
  unfold spB at hg ⊢
  have e3 : ∀ {t : TypeId} {a : Nat}, binA prog .shr t (.int .u64 (a : Int)) (.int .u64 3) = some (.int .u64 ((a / 8 : Nat) : Int)) := fun {t a} => shrU (b := 3) (by omega)
  have e19 : ∀ {t : TypeId} {a : Nat}, binA prog .shr t (.int .u64 (a : Int)) (.int .u64 19) = some (.int .u64 ((a / 524288 : Nat) : Int)) := fun {t a} => shrU (b := 19) (by omega)
  have e977 : ∀ {t : TypeId} {a : Nat}, binA prog .mul t (.int .u64 (a : Int)) (.int .u64 977) = some (.int .u64 (((a * 977) % 18446744073709551616 : Nat) : Int)) := fun {t a} => mulU (b := 977)
  have e11 : ∀ {t : TypeId} {a : Nat}, binA prog .mul t (.int .u64 (a : Int)) (.int .u64 1103515245) = some (.int .u64 (((a * 1103515245) % 18446744073709551616 : Nat) : Int)) := fun {t a} => mulU (b := 1103515245)
  have e12 : ∀ {t : TypeId} {a : Nat}, binA prog .add t (.int .u64 (a : Int)) (.int .u64 12345) = some (.int .u64 (((a + 12345) % 18446744073709551616 : Nat) : Int)) := fun {t a} => addU (b := 12345)
  have hwa : wd silk (k + 1) / 8 < 2 ^ 61 := by omega
  have hwb : wd silk (k + 1) / 524288 < 2 ^ 61 := by omega
  have hx : wd silk (k + 1) / 8 ^^^ wd silk (k + 1) / 524288 < 2 ^ 61 := Nat.xor_lt_two_pow hwa hwb
  have hx' : binA prog .xor 172 (.int .u64 ((wd silk (k + 1) / 8 : Nat) : Int)) (.int .u64 ((wd silk (k + 1) / 524288 : Nat) : Int)) = some (.int .u64 ((wd silk (k + 1) / 8 ^^^ wd silk (k + 1) / 524288 : Nat) : Int)) := xorU (by omega) (by omega)
  have hc' : convA prog 3 172 (.int .u64 ((wd silk (k + 1) / 8 ^^^ wd silk (k + 1) / 524288 : Nat) : Int)) = some (.int .i64 ((wd silk (k + 1) / 8 ^^^ wd silk (k + 1) / 524288 : Nat) : Int)) := cvtI (by omega)
  have ha' : binA prog .and 3 (.int .i64 ((wd silk (k + 1) / 8 ^^^ wd silk (k + 1) / 524288 : Nat) : Int)) (.int .i64 65535) = some (.int .i64 (tv silk k : Int)) := and16 (by omega)
  have ek : ((k : Int) + 1) = ((k + 1 : Nat) : Int) := by omega
  -- the end
  have hend : ∀ {H : Heap}, H = h.set id ⟨.cells [v, .int .i64 ((k + 1 : Nat) : Int), .int .u64 (wd silk (k + 1) : Int)] 174 false false, 0⟩ →
      compact h.length (.int .i64 (tv silk k : Int)) H = some (.int .i64 (tv silk k : Int), h.set id ⟨.cells [v, .int .i64 ((k + 1 : Nat) : Int), .int .u64 (wd silk (k + 1) : Int)] 174 false false, 0⟩) := by
    rintro _ rfl
    have e : h.length = (h.set id ⟨.cells [v, .int .i64 ((k + 1 : Nat) : Int), .int .u64 (wd silk (k + 1) : Int)] 174 false false, 0⟩).length := by simp
    rw [e]
    exact compact_plain' rfl
  refine callL_run func147 rfl rfl ?_
  by_cases hp : 0 < silk.length
  · have hp' : ((silk.length : Int) > 0) = True := eq_true (by omega)
    have hm := Nat.mod_lt k hp
    have hd := hB.1.2 _ (getD_mem (l := silk) (i := k % silk.length) hm)
    obtain ⟨x, ex⟩ : ∃ x : Nat, silk.getD (k % silk.length) 0 = (x : Int) := ⟨(silk.getD (k % silk.length) 0).toNat, by omega⟩
    have ex2 : loadP prog h 5 (elAddr v (k % silk.length)) = some (.int .u8 (x : Int)) := by rw [loadB hB hm, ex]
    have er : binA prog .rem 3 (.int .i64 (k : Int)) (.int .i64 (silk.length : Int)) = some (.int .i64 ((k % silk.length : Nat) : Int)) := by rw [bin_rem (by omega), tmodN]
    have emid : spMid silk k (wd silk k) = (wd silk k + x * 977 % 18446744073709551616) % 18446744073709551616 := by
      unfold spMid
      rw [if_pos hp, ex, Int.toNat_natCast]
      omega
    by_cases hq : silk.length < k + 1
    · have hq' : (((k + 1 : Nat) : Int) > (silk.length : Int)) = True := eq_true (by omega)
      have ew : ((((wd silk k + x * 977 % 18446744073709551616) % 18446744073709551616) * 1103515245) % 18446744073709551616 + 12345) % 18446744073709551616 = wd silk (k + 1) := by
        simp only [wd]; rw [if_pos hq, emid]; omega
      have hsp := @Nat.succ_ne_zero; repeat' (first | simp (disch := first | exact dschK1 | fail) only [go_sem, hsp, hp', hg, er, ex2, cvtB, e977, addU, ek, hq', e11, e12, stQ_k, hln, ew, e3, e19, hx', hc', ha'] | refine WP_drw ?_ | refine cnd_intro (fun hsp => ?_) fun hsp => ?_)
      exact hend rfl
    · have hq' : (((k + 1 : Nat) : Int) > (silk.length : Int)) = False := eq_false (by omega)
      have ew : (wd silk k + x * 977 % 18446744073709551616) % 18446744073709551616 = wd silk (k + 1) := by
        simp only [wd]; rw [if_neg hq, emid]
      have hsp := @Nat.succ_ne_zero; repeat' (first | simp (disch := first | exact dschK1 | fail) only [go_sem, hsp, hp', hg, er, ex2, cvtB, e977, addU, ek, hq', stQ_k, hln, ew, e3, e19, hx', hc', ha'] | refine WP_drw ?_ | refine cnd_intro (fun hsp => ?_) fun hsp => ?_)
      exact hend rfl
  · have hp' : ((silk.length : Int) > 0) = False := eq_false (by omega)
    have hq' : (((k + 1 : Nat) : Int) > (silk.length : Int)) = True := eq_true (by omega)
    have ew : ((wd silk k * 1103515245) % 18446744073709551616 + 12345) % 18446744073709551616 = wd silk (k + 1) := by
      simp only [wd]; rw [if_pos (by omega)]; unfold spMid; rw [if_neg hp]; omega
    have hsp := @Nat.succ_ne_zero; repeat' (first | simp (disch := first | exact dschK1 | fail) only [go_sem, hsp, hp', hg, e11, e12, ek, hq', stQ_k, hln, ew, e3, e19, hx', hc', ha'] | refine WP_drw ?_ | refine cnd_intro (fun hsp => ?_) fun hsp => ?_)
    exact hend rfl
attribute [go_sem] run_turn
theorem set_fin {h H : Heap} {id : Nat} {b : ABlk} {v : AVal} (hv : v.plain = true) (hE : Ext (h.set id b) H) : compact h.length v H = some (v, h.set id b) := by
  obtain ⟨T, rfl⟩ := hE
  have e : h.length = (h.set id b).length := by simp
  rw [e]
  exact compact_plain hv
theorem run_upto {base id k : Nat} {h : Heap} {v : AVal} {silk : List Int} {n : Int} (hS : SpAt h id v silk k) (hk : k ≤ 1000000) (hn : -1000000000 ≤ n ∧ n ≤ 1000000000) :
    callL prog raw base (.fn 108 [] []) [.ptr (some ⟨id, 0, 0⟩), .int .i64 n] h = some (.int .i64 (up silk k n), h.set id (spB v silk (k + 1))) := by
  have ht := tv_lt (silk := silk) (k := k)
  have hm : max 1 (n + 1) ≠ 0 := by omega
  have hr : (tv silk k : Int).tmod (max 1 (n + 1)) = up silk k n := by
    unfold up
    rw [Int.tmod_eq_emod_of_nonneg (by omega)]
  refine callL_run func108 rfl rfl ?_
  have hsp := @Nat.succ_ne_zero; repeat' (first | simp (disch := first | exact dschK1 | fail) only [go_sem, hsp, hr] | refine WP_drw ?_ | refine cnd_intro (fun hsp => ?_) fun hsp => ?_)
  exact set_fin rfl .refl
theorem run_from {base id k : Nat} {h : Heap} {v : AVal} {silk : List Int} {lo hi : Int} (hS : SpAt h id v silk k) (hk : k ≤ 1000000) (hl : -100000000 ≤ lo ∧ lo ≤ 100000000) (hh : -100000000 ≤ hi ∧ hi ≤ 100000000) :
    callL prog raw base (.fn 107 [] []) [.ptr (some ⟨id, 0, 0⟩), .int .i64 lo, .int .i64 hi] h = some (.int .i64 (lo + up silk k (hi - lo)), h.set id (spB v silk (k + 1))) := by
  have hb : -70000 ≤ up silk k (hi - lo) ∧ up silk k (hi - lo) ≤ 70000 := by
    by_cases h0 : 0 ≤ hi - lo
    · have := up_bd (silk := silk) (k := k) h0
      omega
    · have e : max 1 (hi - lo + 1) = 1 := by omega
      unfold up
      rw [e]
      omega
  refine callL_run func107 rfl rfl ?_
  have hsp := @Nat.succ_ne_zero; repeat' (first | simp (disch := first | exact dschK1 | fail) only [go_sem, hsp, run_upto] | refine WP_drw ?_ | refine cnd_intro (fun hsp => ?_) fun hsp => ?_)
  exact set_fin rfl .refl
theorem Bytes.refs_lt {h : Heap} {v : AVal} {l : List Int} (hI : Bytes h v l) : ∀ r ∈ v.refs, r.1 < h.length := by
  intro q hq
  rcases hI.2 with ⟨rfl, rfl⟩ | ⟨rfl, rfl⟩ | ⟨r, k, c, e, row, ro, rfl, h2, _⟩
  · simp [AVal.refs] at hq
  · simp [AVal.refs] at hq
  · simp only [AVal.refs] at hq
    split at hq
    · cases hq
    · simp at hq; subst hq; exact lt_of_get h2
theorem Bytes.refs_len {h : Heap} {v : AVal} {l : List Int} (hI : Bytes h v l) : v.refs.length ≤ 1 := by
  rcases hI.2 with ⟨rfl, rfl⟩ | ⟨rfl, rfl⟩ | ⟨r, k, c, e, row, ro, rfl, h2, _⟩
  · simp [AVal.refs]
  · simp [AVal.refs]
  · simp only [AVal.refs]; split <;> simp
theorem Bytes.ren_low {h : Heap} {v : AVal} {l : List Int} {ids : List Nat} (hI : Bytes h v l) : v.ren (newId h.length ids) = v := by
  rcases hI.2 with ⟨rfl, rfl⟩ | ⟨rfl, rfl⟩ | ⟨r, k, c, e, row, ro, rfl, h2, _⟩
  · rfl
  · rfl
  · simp only [AVal.ren, newId_lt (lt_of_get h2)]
theorem run_wound {base : Nat} {h : Heap} {v : AVal} {silk : List Int} (hB : Bytes h v silk) :
    callL prog raw base (.fn 49 [] []) [v] h = some (.ptr (some ⟨h.length, 0, 0⟩), h ++ [spB v silk 0]) := by
  have hl : silk.length < 2 ^ 60 := hB.1.1
  refine callL_run func49 rfl rfl ?_
  have hsp := @Nat.succ_ne_zero; repeat' (first | simp (disch := first | exact dschK1 | fail) only [go_sem, hsp, cvtL] | refine WP_drw ?_ | refine cnd_intro (fun hsp => ?_) fun hsp => ?_)
  have hlow := hB.refs_lt
  have hlen := hB.refs_len
  have hr : refsL [v, .int .i64 0, .int .u64 (silk.length : Int)] = v.refs := by simp [refsL, AVal.refs]
  rw [compact_gen (js := [0]) (bs := [spB v silk 0]) (by simp [AVal.refs]) (by decide) ?_ ?_ rfl]
  · have n0 : ∀ {u : Nat}, newId h.length ([0].map fun j => h.length + j) h.length u = (h.length, 0) := fun {u} => newId_map (js := [0]) (j := 0)
    simp only [AVal.ren, n0]
  · intro j hj
    simp only [List.mem_cons, List.not_mem_nil, or_false] at hj
    subst hj
    refine ⟨_, _, _, _, rfl, by rw [hr]; exact hlow, ?_⟩
    simp only [renL, AVal.ren, hB.ren_low]
  · simp [rcost, blkRefs, ABody.refs, refsL, AVal.refs]
    omega
end Go.AM
