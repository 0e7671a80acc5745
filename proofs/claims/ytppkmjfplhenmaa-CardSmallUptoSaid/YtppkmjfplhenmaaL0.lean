/-
  What all laws use.
-/
import Derived.Test.YtppkmjfplhenmaaR4
set_option linter.unusedSimpArgs false
set_option linter.unusedVariables false
namespace Go.AM
open Go.Proofs.Try

/-- What awake says. -/
def Awake : Prop := ∀ {base : Nat} {h : Heap}, callL prog raw base (.fn 20 [] []) [] h = some (.bool true, h)

theorem small_ints {h : Heap} {v : AVal} {l : List Int} (hI : Ints h v l) (hl : l.length ≤ 1048576) : Small l := ⟨by omega, hI.1.2⟩
theorem clr_eq {base id n k : Nat} {H : Heap} (hn : 0 < n) : clearA prog base H 22 (.slice (some ⟨id, 0, 0⟩) n k) = (stQ base id (H[id]?) 0 0 (ints (lst (fun _ => 0) n)) (fun b => H.set id b)).map fun h' => (.tuple [], h') := by
  have hrep : ∀ m, repCells [AVal.int .i64 0] m = ints (lst (fun _ => 0) m) := fun m => by
    induction m with
    | zero => rfl
    | succ m ih =>
      rw [repCells, ih]
      simp [ints, lst, List.range_succ_eq_map, List.map_map]
  cases n with
  | zero => omega
  | succ n =>
    simp only [clearA, Fc.el22, hrep, store_eq]
    cases stQ base id (H[id]?) 0 0 (ints (lst (fun _ => 0) (n + 1))) (fun b => H.set id b) <;> rfl
theorem stQ_all {base id : Nat} {L m : List Int} {k : ABlk → Heap} (hb : base ≤ id) (hm : m.length = L.length) : stQ base id (some (rowB L 0)) 0 0 (ints m) k = some (k (rowB m 0)) := by
  have hsp := splice_all (ints m) (ints L) [] (by simp [ints_length, hm])
  simp only [List.nil_append, List.length_nil] at hsp
  simp only [rowB, stQ]
  rw [if_pos ⟨trivial, by simp [ints_length, hm], ints_scalar m, .inl hb⟩, hsp]
theorem ints_nil {H : Heap} : Ints H (.slice none 0 0) [] := ⟨⟨by simp, by simp⟩, .inl ⟨rfl, rfl⟩⟩
theorem clr_nil {base : Nat} {H : Heap} : clearA prog base H 22 (.slice none 0 0) = some (.tuple [], H) := by simp [clearA, Fc.el22]
theorem nlV_ne {n : Nat} {l : List Int} (h : l ≠ []) : nlV n l = .slice (some ⟨n, 0, 0⟩) l.length l.length := by rw [nlV, if_neg h, newV_ne h]
theorem slice_row {A : Heap} {l : List Int} {n k : Nat} (hn : n = A.length) (hk : k = l.length) (hs : Small l) : Ints (A ++ [rowB l 0]) (.slice (some ⟨n, 0, 0⟩) k k) l := by
  subst hn hk
  exact Ints.fresh_row hs (by simp [rowB]) (Nat.le_refl _)

theorem eqB4 {a b : Bool} : binA prog .eql 4 (.bool a) (.bool b) = some (.bool (decide (a = b))) := by cases a <;> cases b <;> kernel_rfl
end Go.AM
