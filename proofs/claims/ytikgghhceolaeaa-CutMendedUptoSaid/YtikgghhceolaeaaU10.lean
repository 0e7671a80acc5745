/-
  Facts of the types of one translation, by program (wip/tools/facts.py).
-/
import Derived.Test.YtikgghhceolaeaaU7
import Derived.Test.YtikgghhceolaeaaProg
import Derived.KernelRfl
import Derived.Test.YtikgghhceolaeaaU9
import Derived.Test.YtikgghhceolaeaaRows
import Derived.WalkKit
import Derived.ProofKit
import Derived.OpenShut
import Derived.JoinedCond
set_option linter.unusedSimpArgs false
set_option linter.unusedVariables false
namespace Go.AM.Fc
open Go.Proofs.Try
section
variable {id ver o : Nat} {h : Heap} {base : Nat}
theorem ty3 : tyA prog 3 = some (false, 1) := by kernel_rfl
theorem zc3 : zc prog 3 = some [.int .i64 0] := by kernel_rfl
theorem ik3 : ikT prog 3 = some .i64 := by kernel_rfl
theorem st3 {x : AVal} (hx : One x) : stP prog base h 3 (.ptr (some ⟨id, ver, o⟩)) x = (stQ base id (h[id]?) ver o [x] (fun b => h.set id b)).map fun h' => (undefA, h') := stP_one ty3 hx
theorem ty4 : tyA prog 4 = some (false, 1) := by kernel_rfl
theorem st4 {x : AVal} (hx : One x) : stP prog base h 4 (.ptr (some ⟨id, ver, o⟩)) x = (stQ base id (h[id]?) ver o [x] (fun b => h.set id b)).map fun h' => (undefA, h') := stP_one ty4 hx
theorem ty5 : tyA prog 5 = some (false, 1) := by kernel_rfl
theorem ik5 : ikT prog 5 = some .u8 := by kernel_rfl
theorem ar9 : arT prog 9 = none := by kernel_rfl
theorem ty22 : tyA prog 22 = some (false, 1) := by kernel_rfl
theorem zc22 : zc prog 22 = some [.slice none 0 0] := by kernel_rfl
theorem ar22 : arT prog 22 = none := by kernel_rfl
theorem el22 : elS prog 22 = some (3, 1, [.int .i64 0]) := by kernel_rfl
theorem ln22 {r : ARef} {m k : Nat} : lenOpA prog h 22 (.slice (some r) m k) = some (.int .i64 (m : Int)) := len_sl el22
theorem as22 {v f m k : Nat} {i : Int} (h0 : 0 ≤ i) (h1 : i < m) : indexAddrA prog 22 (.slice (some ⟨id, v, f⟩) m k) (.int .i64 i) = some (.ptr (some ⟨id, v, f + i.toNat * 1⟩)) := adr_sl el22 ar22 h0 h1
theorem un22 : prog.underlying 22 = some (.slice 3) := by kernel_rfl
theorem st22 {x : AVal} (hx : One x) : stP prog base h 22 (.ptr (some ⟨id, ver, o⟩)) x = (stQ base id (h[id]?) ver o [x] (fun b => h.set id b)).map fun h' => (undefA, h') := stP_one ty22 hx
theorem ty23 : tyA prog 23 = some (false, 1) := by kernel_rfl
theorem ar23 : arT prog 23 = none := by kernel_rfl
theorem el23 : elS prog 23 = some (49, 5, [.int .i64 0, .int .i64 0, .int .i64 0, .int .i64 0, .int .i64 0]) := by kernel_rfl
theorem as23 {v f m k : Nat} {i : Int} (h0 : 0 ≤ i) (h1 : i < m) : indexAddrA prog 23 (.slice (some ⟨id, v, f⟩) m k) (.int .i64 i) = some (.ptr (some ⟨id, v, f + i.toNat * 5⟩)) := adr_sl el23 ar23 h0 h1
theorem st23 {x : AVal} (hx : One x) : stP prog base h 23 (.ptr (some ⟨id, ver, o⟩)) x = (stQ base id (h[id]?) ver o [x] (fun b => h.set id b)).map fun h' => (undefA, h') := stP_one ty23 hx
theorem ty25 : tyA prog 25 = some (true, 3) := by kernel_rfl
theorem zc25 : zc prog 25 = some [.int .i64 0, .slice none 0 0, .slice none 0 0] := by kernel_rfl
theorem pl25 : plcS prog 25 = some [(0, 1), (1, 1), (2, 1)] := by kernel_rfl
theorem fa25_0 : fieldAddrA prog 25 (.ptr (some ⟨id, ver, o⟩)) 0 = some (.ptr (some ⟨id, ver, o + 0⟩)) := fieldAddr_eq (q := false) (z := 1) (by kernel_rfl) (by decide)
theorem fa25_1 : fieldAddrA prog 25 (.ptr (some ⟨id, ver, o⟩)) 1 = some (.ptr (some ⟨id, ver, o + 1⟩)) := fieldAddr_eq (q := false) (z := 1) (by kernel_rfl) (by decide)
theorem fa25_2 : fieldAddrA prog 25 (.ptr (some ⟨id, ver, o⟩)) 2 = some (.ptr (some ⟨id, ver, o + 2⟩)) := fieldAddr_eq (q := false) (z := 1) (by kernel_rfl) (by decide)
theorem st25 {x0 x1 x2 : AVal} : stP prog base h 25 (.ptr (some ⟨id, ver, o⟩)) (.agg [x0, x1, x2]) = (stQ base id (h[id]?) ver o [x0, x1, x2] (fun b => h.set id b)).map fun h' => (undefA, h') := stP_ptr ty25 rfl
theorem ty39 : tyA prog 39 = some (false, 1) := by kernel_rfl
theorem ar39 : arT prog 39 = none := by kernel_rfl
theorem el39 : elS prog 39 = some (5, 1, [.int .u8 0]) := by kernel_rfl
theorem ty43 : tyA prog 43 = some (false, 1) := by kernel_rfl
theorem zc43 : zc prog 43 = some [.slice none 0 0] := by kernel_rfl
theorem ar43 : arT prog 43 = none := by kernel_rfl
theorem el43 : elS prog 43 = some (58, 3, [.int .i64 0, .int .i64 0, .bool false]) := by kernel_rfl
theorem as43 {v f m k : Nat} {i : Int} (h0 : 0 ≤ i) (h1 : i < m) : indexAddrA prog 43 (.slice (some ⟨id, v, f⟩) m k) (.int .i64 i) = some (.ptr (some ⟨id, v, f + i.toNat * 3⟩)) := adr_sl el43 ar43 h0 h1
theorem st43 {x : AVal} (hx : One x) : stP prog base h 43 (.ptr (some ⟨id, ver, o⟩)) x = (stQ base id (h[id]?) ver o [x] (fun b => h.set id b)).map fun h' => (undefA, h') := stP_one ty43 hx
theorem ty49 : tyA prog 49 = some (true, 5) := by kernel_rfl
theorem zc49 : zc prog 49 = some [.int .i64 0, .int .i64 0, .int .i64 0, .int .i64 0, .int .i64 0] := by kernel_rfl
theorem pl49 : plcS prog 49 = some [(0, 1), (1, 1), (2, 1), (3, 1), (4, 1)] := by kernel_rfl
theorem fa49_0 : fieldAddrA prog 49 (.ptr (some ⟨id, ver, o⟩)) 0 = some (.ptr (some ⟨id, ver, o + 0⟩)) := fieldAddr_eq (q := false) (z := 1) (by kernel_rfl) (by decide)
theorem fa49_1 : fieldAddrA prog 49 (.ptr (some ⟨id, ver, o⟩)) 1 = some (.ptr (some ⟨id, ver, o + 1⟩)) := fieldAddr_eq (q := false) (z := 1) (by kernel_rfl) (by decide)
theorem fa49_2 : fieldAddrA prog 49 (.ptr (some ⟨id, ver, o⟩)) 2 = some (.ptr (some ⟨id, ver, o + 2⟩)) := fieldAddr_eq (q := false) (z := 1) (by kernel_rfl) (by decide)
theorem fa49_3 : fieldAddrA prog 49 (.ptr (some ⟨id, ver, o⟩)) 3 = some (.ptr (some ⟨id, ver, o + 3⟩)) := fieldAddr_eq (q := false) (z := 1) (by kernel_rfl) (by decide)
theorem fa49_4 : fieldAddrA prog 49 (.ptr (some ⟨id, ver, o⟩)) 4 = some (.ptr (some ⟨id, ver, o + 4⟩)) := fieldAddr_eq (q := false) (z := 1) (by kernel_rfl) (by decide)
theorem st49 {x0 x1 x2 x3 x4 : AVal} : stP prog base h 49 (.ptr (some ⟨id, ver, o⟩)) (.agg [x0, x1, x2, x3, x4]) = (stQ base id (h[id]?) ver o [x0, x1, x2, x3, x4] (fun b => h.set id b)).map fun h' => (undefA, h') := stP_ptr ty49 rfl
theorem ty58 : tyA prog 58 = some (true, 3) := by kernel_rfl
theorem zc58 : zc prog 58 = some [.int .i64 0, .int .i64 0, .bool false] := by kernel_rfl
theorem pl58 : plcS prog 58 = some [(0, 1), (1, 1), (2, 1)] := by kernel_rfl
theorem fa58_0 : fieldAddrA prog 58 (.ptr (some ⟨id, ver, o⟩)) 0 = some (.ptr (some ⟨id, ver, o + 0⟩)) := fieldAddr_eq (q := false) (z := 1) (by kernel_rfl) (by decide)
theorem fa58_1 : fieldAddrA prog 58 (.ptr (some ⟨id, ver, o⟩)) 1 = some (.ptr (some ⟨id, ver, o + 1⟩)) := fieldAddr_eq (q := false) (z := 1) (by kernel_rfl) (by decide)
theorem fa58_2 : fieldAddrA prog 58 (.ptr (some ⟨id, ver, o⟩)) 2 = some (.ptr (some ⟨id, ver, o + 2⟩)) := fieldAddr_eq (q := false) (z := 1) (by kernel_rfl) (by decide)
theorem st58 {x0 x1 x2 : AVal} : stP prog base h 58 (.ptr (some ⟨id, ver, o⟩)) (.agg [x0, x1, x2]) = (stQ base id (h[id]?) ver o [x0, x1, x2] (fun b => h.set id b)).map fun h' => (undefA, h') := stP_ptr ty58 rfl
theorem ar59 : arT prog 59 = none := by kernel_rfl
theorem el59 : elS prog 59 = some (69, 2, [.int .i64 0, .int .i64 0]) := by kernel_rfl
theorem as59 {v f m k : Nat} {i : Int} (h0 : 0 ≤ i) (h1 : i < m) : indexAddrA prog 59 (.slice (some ⟨id, v, f⟩) m k) (.int .i64 i) = some (.ptr (some ⟨id, v, f + i.toNat * 2⟩)) := adr_sl el59 ar59 h0 h1
theorem ty69 : tyA prog 69 = some (true, 2) := by kernel_rfl
theorem zc69 : zc prog 69 = some [.int .i64 0, .int .i64 0] := by kernel_rfl
theorem pl69 : plcS prog 69 = some [(0, 1), (1, 1)] := by kernel_rfl
theorem fa69_1 : fieldAddrA prog 69 (.ptr (some ⟨id, ver, o⟩)) 1 = some (.ptr (some ⟨id, ver, o + 1⟩)) := fieldAddr_eq (q := false) (z := 1) (by kernel_rfl) (by decide)
theorem ty101 : tyA prog 101 = some (false, 1) := by kernel_rfl
theorem ty123 : tyA prog 123 = some (false, 1) := by kernel_rfl
theorem ik123 : ikT prog 123 = some .u64 := by kernel_rfl
theorem st123 {x : AVal} (hx : One x) : stP prog base h 123 (.ptr (some ⟨id, ver, o⟩)) x = (stQ base id (h[id]?) ver o [x] (fun b => h.set id b)).map fun h' => (undefA, h') := stP_one ty123 hx
theorem zc125 : zc prog 125 = some [.slice none 0 0, .int .i64 0, .int .u64 0] := by kernel_rfl
theorem pl125 : plcS prog 125 = some [(0, 1), (1, 1), (2, 1)] := by kernel_rfl
theorem fa125_0 : fieldAddrA prog 125 (.ptr (some ⟨id, ver, o⟩)) 0 = some (.ptr (some ⟨id, ver, o + 0⟩)) := fieldAddr_eq (q := false) (z := 1) (by kernel_rfl) (by decide)
theorem fa125_1 : fieldAddrA prog 125 (.ptr (some ⟨id, ver, o⟩)) 1 = some (.ptr (some ⟨id, ver, o + 1⟩)) := fieldAddr_eq (q := false) (z := 1) (by kernel_rfl) (by decide)
theorem fa125_2 : fieldAddrA prog 125 (.ptr (some ⟨id, ver, o⟩)) 2 = some (.ptr (some ⟨id, ver, o + 2⟩)) := fieldAddr_eq (q := false) (z := 1) (by kernel_rfl) (by decide)
theorem ty126 : tyA prog 126 = some (false, 1) := by kernel_rfl
theorem ty131 : tyA prog 131 = some (true, 2) := by kernel_rfl
theorem zc131 : zc prog 131 = some [.int .i64 0, .int .i64 0] := by kernel_rfl
theorem pl131 : plcS prog 131 = some [(0, 1), (1, 1)] := by kernel_rfl
theorem fa131_0 : fieldAddrA prog 131 (.ptr (some ⟨id, ver, o⟩)) 0 = some (.ptr (some ⟨id, ver, o + 0⟩)) := fieldAddr_eq (q := false) (z := 1) (by kernel_rfl) (by decide)
theorem fa131_1 : fieldAddrA prog 131 (.ptr (some ⟨id, ver, o⟩)) 1 = some (.ptr (some ⟨id, ver, o + 1⟩)) := fieldAddr_eq (q := false) (z := 1) (by kernel_rfl) (by decide)
theorem st131 {x0 x1 : AVal} : stP prog base h 131 (.ptr (some ⟨id, ver, o⟩)) (.agg [x0, x1]) = (stQ base id (h[id]?) ver o [x0, x1] (fun b => h.set id b)).map fun h' => (undefA, h') := stP_ptr ty131 rfl
theorem ty132 : tyA prog 132 = some (false, 1) := by kernel_rfl
theorem zc134 : zc prog 134 = some [.nilFn] := by kernel_rfl
theorem pl134 : plcS prog 134 = some [(0, 1)] := by kernel_rfl
theorem fa134_0 : fieldAddrA prog 134 (.ptr (some ⟨id, ver, o⟩)) 0 = some (.ptr (some ⟨id, ver, o + 0⟩)) := fieldAddr_eq (q := false) (z := 1) (by kernel_rfl) (by decide)
theorem ty136 : tyA prog 136 = some (true, 61) := by kernel_rfl
theorem zc136 : zc prog 136 = some (ints (lst (fun _ => 0) 61)) := by kernel_rfl
theorem ar136 : arT prog 136 = some (61, false, 1) := by kernel_rfl
theorem ad136 {i : Int} (h0 : 0 ≤ i) (h1 : i < 61) : indexAddrA prog 136 (.ptr (some ⟨id, ver, o⟩)) (.int .i64 i) = some (.ptr (some ⟨id, ver, o + i.toNat * 1⟩)) := adr_arr ar136 h0 h1
theorem ar138 : arT prog 138 = none := by kernel_rfl
theorem el138 : elS prog 138 = some (4, 1, [.bool false]) := by kernel_rfl
theorem ln138 {r : ARef} {m k : Nat} : lenOpA prog h 138 (.slice (some r) m k) = some (.int .i64 (m : Int)) := len_sl el138
theorem as138 {v f m k : Nat} {i : Int} (h0 : 0 ≤ i) (h1 : i < m) : indexAddrA prog 138 (.slice (some ⟨id, v, f⟩) m k) (.int .i64 i) = some (.ptr (some ⟨id, v, f + i.toNat * 1⟩)) := adr_sl el138 ar138 h0 h1
theorem mp142 : mpT prog 142 = some (3, 4) := by kernel_rfl
theorem ty148 : tyA prog 148 = some (false, 1) := by kernel_rfl
theorem ty150 : tyA prog 150 = some (true, 2) := by kernel_rfl
theorem zc150 : zc prog 150 = some [.int .i64 0, .int .i64 0] := by kernel_rfl
theorem pl150 : plcS prog 150 = some [(0, 1), (1, 1)] := by kernel_rfl
theorem fa150_0 : fieldAddrA prog 150 (.ptr (some ⟨id, ver, o⟩)) 0 = some (.ptr (some ⟨id, ver, o + 0⟩)) := fieldAddr_eq (q := false) (z := 1) (by kernel_rfl) (by decide)
theorem fa150_1 : fieldAddrA prog 150 (.ptr (some ⟨id, ver, o⟩)) 1 = some (.ptr (some ⟨id, ver, o + 1⟩)) := fieldAddr_eq (q := false) (z := 1) (by kernel_rfl) (by decide)
theorem st150 {x0 x1 : AVal} : stP prog base h 150 (.ptr (some ⟨id, ver, o⟩)) (.agg [x0, x1]) = (stQ base id (h[id]?) ver o [x0, x1] (fun b => h.set id b)).map fun h' => (undefA, h') := stP_ptr ty150 rfl
theorem ik168 : ikT prog 168 = some .u64 := by kernel_rfl
theorem zc171 : zc prog 171 = some (ints (lst (fun _ => 0) 122)) := by kernel_rfl
theorem ar171 : arT prog 171 = some (61, true, 2) := by kernel_rfl
theorem ad171 {i : Int} (h0 : 0 ≤ i) (h1 : i < 61) : indexAddrA prog 171 (.ptr (some ⟨id, ver, o⟩)) (.int .i64 i) = some (.ptr (some ⟨id, ver, o + i.toNat * 2⟩)) := adr_arr ar171 h0 h1
theorem ar173 : arT prog 173 = some (60, false, 1) := by kernel_rfl
theorem ad173 {i : Int} (h0 : 0 ≤ i) (h1 : i < 60) : indexAddrA prog 173 (.ptr (some ⟨id, ver, o⟩)) (.int .i64 i) = some (.ptr (some ⟨id, ver, o + i.toNat * 1⟩)) := adr_arr ar173 h0 h1
theorem zc175 : zc prog 175 = some [.int .i64 0, .slice none 0 0, .slice none 0 0, .bool false, .bool false, .bool false, .bool false, .bool false, .bool false, .bool false, .bool false, .bool false, .bool false, .bool false, .bool false, .bool false, .bool false, .bool false, .bool false, .bool false, .bool false, .bool false, .bool false, .bool false, .bool false, .bool false, .bool false, .bool false, .bool false, .bool false, .bool false, .bool false, .bool false, .bool false, .bool false, .bool false, .bool false, .bool false, .bool false, .bool false, .bool false, .bool false, .bool false, .bool false, .bool false, .bool false, .bool false, .bool false, .bool false, .bool false, .bool false, .bool false, .bool false, .bool false, .bool false, .bool false, .bool false, .bool false, .bool false, .bool false, .bool false, .bool false, .bool false] := by kernel_rfl
theorem pl175 : plcS prog 175 = some [(0, 3), (3, 60)] := by kernel_rfl
theorem fa175_0 : fieldAddrA prog 175 (.ptr (some ⟨id, ver, o⟩)) 0 = some (.ptr (some ⟨id, ver, o + 0⟩)) := fieldAddr_eq (q := true) (z := 3) (by kernel_rfl) (by decide)
theorem fa175_1 : fieldAddrA prog 175 (.ptr (some ⟨id, ver, o⟩)) 1 = some (.ptr (some ⟨id, ver, o + 3⟩)) := fieldAddr_eq (q := true) (z := 60) (by kernel_rfl) (by decide)
theorem ty176 : tyA prog 176 = some (false, 1) := by kernel_rfl
theorem zc176 : zc prog 176 = some [.nilFn] := by kernel_rfl
theorem st176 {x : AVal} (hx : One x) : stP prog base h 176 (.ptr (some ⟨id, ver, o⟩)) x = (stQ base id (h[id]?) ver o [x] (fun b => h.set id b)).map fun h' => (undefA, h') := stP_one ty176 hx
theorem bd25_0 {y0 : AVal} (h0 : One y0) : buildA prog 25 [(0, y0)] = some (.agg [y0, .slice none 0 0, .slice none 0 0]) := by
  simp [buildA, zc25, pl25, fillA, splice, isN_agg, cells_agg, h0.1, h0.2.1]
theorem bd25_012 {y0 y1 y2 : AVal} (h0 : One y0) (h1 : One y1) (h2 : One y2) : buildA prog 25 [(0, y0), (1, y1), (2, y2)] = some (.agg [y0, y1, y2]) := by
  simp [buildA, zc25, pl25, fillA, splice, isN_agg, cells_agg, h0.1, h0.2.1, h1.1, h1.2.1, h2.1, h2.2.1]
theorem bd49_01234 {y0 y1 y2 y3 y4 : AVal} (h0 : One y0) (h1 : One y1) (h2 : One y2) (h3 : One y3) (h4 : One y4) : buildA prog 49 [(0, y0), (1, y1), (2, y2), (3, y3), (4, y4)] = some (.agg [y0, y1, y2, y3, y4]) := by
  simp [buildA, zc49, pl49, fillA, splice, isN_agg, cells_agg, h0.1, h0.2.1, h1.1, h1.2.1, h2.1, h2.2.1, h3.1, h3.2.1, h4.1, h4.2.1]
theorem bd49_0124 {y0 y1 y2 y4 : AVal} (h0 : One y0) (h1 : One y1) (h2 : One y2) (h4 : One y4) : buildA prog 49 [(0, y0), (1, y1), (2, y2), (4, y4)] = some (.agg [y0, y1, y2, .int .i64 0, y4]) := by
  simp [buildA, zc49, pl49, fillA, splice, isN_agg, cells_agg, h0.1, h0.2.1, h1.1, h1.2.1, h2.1, h2.2.1, h4.1, h4.2.1]
theorem bd58_0 {y0 : AVal} (h0 : One y0) : buildA prog 58 [(0, y0)] = some (.agg [y0, .int .i64 0, .bool false]) := by
  simp [buildA, zc58, pl58, fillA, splice, isN_agg, cells_agg, h0.1, h0.2.1]
theorem bd58_012 {y0 y1 y2 : AVal} (h0 : One y0) (h1 : One y1) (h2 : One y2) : buildA prog 58 [(0, y0), (1, y1), (2, y2)] = some (.agg [y0, y1, y2]) := by
  simp [buildA, zc58, pl58, fillA, splice, isN_agg, cells_agg, h0.1, h0.2.1, h1.1, h1.2.1, h2.1, h2.2.1]
theorem bd58_1 {y1 : AVal} (h1 : One y1) : buildA prog 58 [(1, y1)] = some (.agg [.int .i64 0, y1, .bool false]) := by
  simp [buildA, zc58, pl58, fillA, splice, isN_agg, cells_agg, h1.1, h1.2.1]
theorem bd58_2 {y2 : AVal} (h2 : One y2) : buildA prog 58 [(2, y2)] = some (.agg [.int .i64 0, .int .i64 0, y2]) := by
  simp [buildA, zc58, pl58, fillA, splice, isN_agg, cells_agg, h2.1, h2.2.1]
theorem bd69_01 {y0 y1 : AVal} (h0 : One y0) (h1 : One y1) : buildA prog 69 [(0, y0), (1, y1)] = some (.agg [y0, y1]) := by
  simp [buildA, zc69, pl69, fillA, splice, isN_agg, cells_agg, h0.1, h0.2.1, h1.1, h1.2.1]
theorem bd125_02 {y0 y2 : AVal} (h0 : One y0) (h2 : One y2) : buildA prog 125 [(0, y0), (2, y2)] = some (.agg [y0, .int .i64 0, y2]) := by
  simp [buildA, zc125, pl125, fillA, splice, isN_agg, cells_agg, h0.1, h0.2.1, h2.1, h2.2.1]
theorem bd131_01 {y0 y1 : AVal} (h0 : One y0) (h1 : One y1) : buildA prog 131 [(0, y0), (1, y1)] = some (.agg [y0, y1]) := by
  simp [buildA, zc131, pl131, fillA, splice, isN_agg, cells_agg, h0.1, h0.2.1, h1.1, h1.2.1]
theorem bd134_0 {y0 : AVal} (h0 : One y0) : buildA prog 134 [(0, y0)] = some (.agg [y0]) := by
  simp [buildA, zc134, pl134, fillA, splice, isN_agg, cells_agg, h0.1, h0.2.1]
theorem bd150_  : buildA prog 150 [] = some (.agg [.int .i64 0, .int .i64 0]) := by
  simp [buildA, zc150, pl150, fillA, splice, isN_agg, cells_agg]
theorem bd150_01 {y0 y1 : AVal} (h0 : One y0) (h1 : One y1) : buildA prog 150 [(0, y0), (1, y1)] = some (.agg [y0, y1]) := by
  simp [buildA, zc150, pl150, fillA, splice, isN_agg, cells_agg, h0.1, h0.2.1, h1.1, h1.2.1]
theorem bd175_0 {y0_0 y0_1 y0_2 : AVal}  : buildA prog 175 [(0, .agg [y0_0, y0_1, y0_2])] = some (.agg [y0_0, y0_1, y0_2, .bool false, .bool false, .bool false, .bool false, .bool false, .bool false, .bool false, .bool false, .bool false, .bool false, .bool false, .bool false, .bool false, .bool false, .bool false, .bool false, .bool false, .bool false, .bool false, .bool false, .bool false, .bool false, .bool false, .bool false, .bool false, .bool false, .bool false, .bool false, .bool false, .bool false, .bool false, .bool false, .bool false, .bool false, .bool false, .bool false, .bool false, .bool false, .bool false, .bool false, .bool false, .bool false, .bool false, .bool false, .bool false, .bool false, .bool false, .bool false, .bool false, .bool false, .bool false, .bool false, .bool false, .bool false, .bool false, .bool false, .bool false, .bool false, .bool false, .bool false]) := by
  simp [buildA, zc175, pl175, fillA, splice, isN_agg, cells_agg]
theorem eq49 {a0 : Int} {a1 : Int} {a2 : Int} {a3 : Int} {a4 : Int} {b0 : Int} {b1 : Int} {b2 : Int} {b3 : Int} {b4 : Int} : binA prog .eql 49 (.agg [.int .i64 a0, .int .i64 a1, .int .i64 a2, .int .i64 a3, .int .i64 a4]) (.agg [.int .i64 b0, .int .i64 b1, .int .i64 b2, .int .i64 b3, .int .i64 b4]) = some (.bool (decide (a0 = b0 ∧ a1 = b1 ∧ a2 = b2 ∧ a3 = b3 ∧ a4 = b4))) := by
  have h1 : prog.eqGuardType prog.depth 49 = false := by kernel_rfl
  have s49 : prog.stoodInHeld 49 = false := by kernel_rfl
  simp [binA, eqDepth, eqT, partA, partQ, h1, s49, underlying3, ty3, underlying49, ty49]
  by_cases e0 : a0 = b0 <;> by_cases e1 : a1 = b1 <;> by_cases e2 : a2 = b2 <;> by_cases e3 : a3 = b3 <;> by_cases e4 : a4 = b4 <;> simp [e0, e1, e2, e3, e4]
theorem ne49 {a0 : Int} {a1 : Int} {a2 : Int} {a3 : Int} {a4 : Int} {b0 : Int} {b1 : Int} {b2 : Int} {b3 : Int} {b4 : Int} : binA prog .neq 49 (.agg [.int .i64 a0, .int .i64 a1, .int .i64 a2, .int .i64 a3, .int .i64 a4]) (.agg [.int .i64 b0, .int .i64 b1, .int .i64 b2, .int .i64 b3, .int .i64 b4]) = some (.bool (decide (¬ (a0 = b0 ∧ a1 = b1 ∧ a2 = b2 ∧ a3 = b3 ∧ a4 = b4)))) := by
  have h := eq49 (a0 := a0) (a1 := a1) (a2 := a2) (a3 := a3) (a4 := a4) (b0 := b0) (b1 := b1) (b2 := b2) (b3 := b3) (b4 := b4)
  simp only [binA, isShift] at h ⊢
  split at h
  · cases h
  · rename_i hg
    rw [if_neg hg]
    cases hq : eqT prog eqDepth 49 (.agg [.int .i64 a0, .int .i64 a1, .int .i64 a2, .int .i64 a3, .int .i64 a4]) (.agg [.int .i64 b0, .int .i64 b1, .int .i64 b2, .int .i64 b3, .int .i64 b4]) with
    | none => rw [hq] at h; cases h
    | some r => rw [hq] at h; simp only [Option.map_some, Option.some.injEq, AVal.bool.injEq] at h ⊢; rw [h]; simp
theorem eq58 {a0 : Int} {a1 : Int} {a2 : Bool} {b0 : Int} {b1 : Int} {b2 : Bool} : binA prog .eql 58 (.agg [.int .i64 a0, .int .i64 a1, .bool a2]) (.agg [.int .i64 b0, .int .i64 b1, .bool b2]) = some (.bool (decide (a0 = b0 ∧ a1 = b1 ∧ a2 = b2))) := by
  have h1 : prog.eqGuardType prog.depth 58 = false := by kernel_rfl
  have s58 : prog.stoodInHeld 58 = false := by kernel_rfl
  simp [binA, eqDepth, eqT, partA, partQ, h1, s58, underlying3, ty3, underlying4, ty4, underlying58, ty58]
  by_cases e0 : a0 = b0 <;> by_cases e1 : a1 = b1 <;> by_cases e2 : a2 = b2 <;> simp [e0, e1, e2]
theorem ne58 {a0 : Int} {a1 : Int} {a2 : Bool} {b0 : Int} {b1 : Int} {b2 : Bool} : binA prog .neq 58 (.agg [.int .i64 a0, .int .i64 a1, .bool a2]) (.agg [.int .i64 b0, .int .i64 b1, .bool b2]) = some (.bool (decide (¬ (a0 = b0 ∧ a1 = b1 ∧ a2 = b2)))) := by
  have h := eq58 (a0 := a0) (a1 := a1) (a2 := a2) (b0 := b0) (b1 := b1) (b2 := b2)
  simp only [binA, isShift] at h ⊢
  split at h
  · cases h
  · rename_i hg
    rw [if_neg hg]
    cases hq : eqT prog eqDepth 58 (.agg [.int .i64 a0, .int .i64 a1, .bool a2]) (.agg [.int .i64 b0, .int .i64 b1, .bool b2]) with
    | none => rw [hq] at h; cases h
    | some r => rw [hq] at h; simp only [Option.map_some, Option.some.injEq, AVal.bool.injEq] at h ⊢; rw [h]; simp
theorem eq69 {a0 : Int} {a1 : Int} {b0 : Int} {b1 : Int} : binA prog .eql 69 (.agg [.int .i64 a0, .int .i64 a1]) (.agg [.int .i64 b0, .int .i64 b1]) = some (.bool (decide (a0 = b0 ∧ a1 = b1))) := by
  have h1 : prog.eqGuardType prog.depth 69 = false := by kernel_rfl
  have s69 : prog.stoodInHeld 69 = false := by kernel_rfl
  simp [binA, eqDepth, eqT, partA, partQ, h1, s69, underlying3, ty3, underlying69, ty69]
  by_cases e0 : a0 = b0 <;> by_cases e1 : a1 = b1 <;> simp [e0, e1]
theorem ne69 {a0 : Int} {a1 : Int} {b0 : Int} {b1 : Int} : binA prog .neq 69 (.agg [.int .i64 a0, .int .i64 a1]) (.agg [.int .i64 b0, .int .i64 b1]) = some (.bool (decide (¬ (a0 = b0 ∧ a1 = b1)))) := by
  have h := eq69 (a0 := a0) (a1 := a1) (b0 := b0) (b1 := b1)
  simp only [binA, isShift] at h ⊢
  split at h
  · cases h
  · rename_i hg
    rw [if_neg hg]
    cases hq : eqT prog eqDepth 69 (.agg [.int .i64 a0, .int .i64 a1]) (.agg [.int .i64 b0, .int .i64 b1]) with
    | none => rw [hq] at h; cases h
    | some r => rw [hq] at h; simp only [Option.map_some, Option.some.injEq, AVal.bool.injEq] at h ⊢; rw [h]; simp
end
attribute [go_sem] ty3 zc3 st3 ty4 st4 ty5 ar9 ty22 zc22 ar22 el22 ln22 as22 st22 ty23 ar23 el23 as23 st23 ty25 zc25 fa25_0 fa25_1 fa25_2 st25 ty39 ar39 el39 ty43 zc43 ar43 el43 as43 st43 ty49 zc49 fa49_0 fa49_1 fa49_2 fa49_3 fa49_4 st49 ty58 zc58 fa58_0 fa58_1 fa58_2 st58 ar59 el59 as59 ty69 zc69 fa69_1 ty101 ty123 st123 zc125 fa125_0 fa125_1 fa125_2 ty126 ty131 zc131 fa131_0 fa131_1 st131 ty132 zc134 fa134_0 ty136 zc136 ar136 ad136 ar138 el138 ln138 as138 mp142 ty148 ty150 zc150 fa150_0 fa150_1 st150 zc171 ar171 ad171 ar173 ad173 zc175 fa175_0 fa175_1 ty176 zc176 st176 bd25_0 bd25_012 bd49_01234 bd49_0124 bd58_0 bd58_012 bd58_1 bd58_2 bd69_01 bd125_02 bd131_01 bd134_0 bd150_ bd150_01 bd175_0 eq49 ne49 eq58 ne58 eq69 ne69
attribute [go_sem] results3 results4 results5 results6 results7 results8 results9 results10 results11 results12 results13 results14 results15 results16 results17 results18 results19 results20 results21 results22 results23 results24 results25 results26 results27 results28 results29 results30 results31 results32 results33 results34 results35 results36 results37 results38 results39 results40 results41 results42 results43 results44 results45 results46 results47 results48 results49 results50 results51 results52 results53 results54 results55 results56 results57 results58 results59 results60 results61 results62 results63 results64 results65 results66 results67 results68 results69 results70 results71 results72 results73 results74 results75 results76 results77 results78 results79 results80 results81 results82 results83 results84 results85 results86 results87 results88 results89 results90 results91 results92 results93 results94 results95 results96 results97 results98 results99 results100 results101 results102 results103 results104 results105 results106 results107 results108 results109 results110 results111 results112 results113 results114 results115 results116 results117 results118 results119 results120 results121 results122 results123 results125 results126 results127 results128 results129 results130 results131 results132 results133 results134 results135 results136 results137 results138 results139 results140 results141 results142 results143 results144 results145 results146 results147 results148 results149 results150 results151 results152 results153 results154 results155 results156 results157 results158 results159 results160 results161
end Go.AM.Fc
/-
  Ranges over functions whose values lie in memory.
-/
namespace Go.AM
section
variable {P : Program} {raw : FuncId → Bool} {base : Nat}
/-- What an iterator owes: it yields N values, of which X tells, one behind the other, until it is told to stop; what the loop's body does leaves the blocks of the iterator that pr tells of. -/
def YieldsX (P : Program) (raw : FuncId → Bool) (base L : Nat) (g : AVal) (N : Nat) (X : Nat → List AVal → Heap → Prop) (pr : ABlk → Prop) (I : Nat → Heap → Prop) : Prop :=
  ∀ (J : Nat → Heap → Prop) (S : Heap → Prop) (H0 : Heap), L + 1 = H0.length → (∀ j H, J j H → I j H ∧ L + 1 ≤ H.length) → (∀ j H T, J j H → J j (H ++ T)) →
    (∀ j a H, j < N → X j a H → J j H → ∃ b H', callL P raw base (.yld L) a H = some (.bool b, H') ∧ (∀ i x, L + 1 ≤ i → pr x → H[i]? = some x → H'[i]? = some x) ∧ H.length ≤ H'.length ∧ (b = true → J (j + 1) H') ∧ (b = false → S H')) →
    J 0 H0 → ∃ v H', callL P raw base g [.yld L] H0 = some (v, H') ∧ (J N H' ∨ S H')
/-- **A range over a function.** I j: what holds before the j-th round; E: what holds where the loop is left. -/
theorem WP_rangeX {g : Operand} {ps : List Tmp} {assign body : Code} {fr : AFrame} {h : Heap} {Q : AExit → St → Prop} {f : FuncId} {a c : List AVal} (hg : ev fr g = .fn f a c) {N : Nat} {X : Nat → List AVal → Heap → Prop} {pr : ABlk → Prop} (I : Nat → Heap → Prop) (E : AExit → Heap → Prop)
    (hit : YieldsX P raw base h.length (.fn f a c) N X pr I) (hxs : ∀ j a H, X j a H → a.length = ps.length) (happ : ∀ j H T, I j H → I j (H ++ T)) (hset : ∀ j H b, I j H → I j (H.set h.length b)) (hsetE : ∀ e H b, E e H → E e (H.set h.length b))
    (h0 : I 0 (h ++ [loopB fr ps assign body .ready none]))
    (hbody : ∀ j a H B1 B2, j < N → X j a H → I j H → h.length + 1 ≤ H.length → H[h.length]? = some B1 → WP P raw base assign ⟨putAll fr ps a, H⟩ (fun e s1 => e = .normal ∧ s1.h[h.length]? = some B1 ∧
      WP P raw base body ⟨s1.fr, s1.h.set h.length B2⟩ (fun e s2 => s2.h[h.length]? = some B2 ∧ (∀ i x, h.length + 1 ≤ i → pr x → H[i]? = some x → s2.h[i]? = some x) ∧ H.length ≤ s2.h.length ∧
        ((e = .normal ∧ I (j + 1) s2.h) ∨ (e ≠ .normal ∧ E e s2.h)))))
    (hQ : ∀ H, I N H → Q .normal ⟨fr, H⟩) (hQE : ∀ e H, e ≠ .normal → E e H → Q e ⟨fr, H⟩) : WP P raw base (.rangeFunc g ps.toArray assign body) ⟨fr, h⟩ Q := by
  obtain ⟨v, H', hc, hend⟩ := hit (fun j H => I j H ∧ h.length + 1 ≤ H.length ∧ H[h.length]? = some (loopB fr ps assign body .ready none))
    (fun H => ∃ e, e ≠ .normal ∧ E e H ∧ H[h.length]? = some (loopB fr ps assign body .done (jumpOf e))) (h ++ [loopB fr ps assign body .ready none]) (by simp) (fun j H hJ => ⟨hJ.1, hJ.2.1⟩)
    (fun j H T hJ => ⟨happ j H T hJ.1, by simp; omega, get_app hJ.2.2⟩)
    (fun j a H hj hX hJ => by
      obtain ⟨e, H2, hK, hcall⟩ := callL_yldW (K := fun e H2 => H2[h.length]? = some (loopB fr ps assign body .busy none) ∧ (∀ i x, h.length + 1 ≤ i → pr x → H[i]? = some x → H2[i]? = some x) ∧ H.length ≤ H2.length ∧ ((e = .normal ∧ I (j + 1) H2) ∨ (e ≠ .normal ∧ E e H2)))
        hJ.2.2 (hxs j a H hX) (by
          obtain ⟨e1, s1, h1, rfl, h2, e2, s2, h3, h4⟩ := hbody j a H _ (loopB fr ps assign body .busy none) hj hX hJ.1 hJ.2.1 hJ.2.2
          exact ⟨.normal, s1, h1, rfl, h2, e2, s2, h3, h4.1, h4⟩)
      refine ⟨_, _, hcall, fun i x hi hp hx => ?_, by rw [List.length_set]; exact hK.2.2.1, fun hb => ?_, fun hb => ?_⟩
      · have := hK.2.1 i x hi hp hx
        rw [get_set this, if_neg (by omega)]
      · have he : e = .normal := isNone_jump.1 hb
        subst he
        have hI2 : I (j + 1) H2 := by
          rcases hK.2.2.2 with h5 | h5
          · exact h5.2
          · exact absurd rfl h5.1
        have hlt := lt_of_get hK.1
        refine ⟨hset _ _ _ hI2, by simp; omega, ?_⟩
        rw [get_set hK.1, if_pos rfl]
        rfl
      · have he : e ≠ .normal := fun h5 => by rw [isNone_jump.2 h5] at hb; cases hb
        have hE2 : E e H2 := by
          rcases hK.2.2.2 with h5 | h5
          · exact absurd h5.1 he
          · exact h5.2
        refine ⟨e, he, hsetE _ _ _ hE2, ?_⟩
        rw [get_set hK.1, if_pos rfl, hb]
        rfl)
    ⟨h0, by simp, by simp⟩
  rcases hend with ⟨h1, _, h2⟩ | ⟨e, he, h1, h2⟩
  · exact WP_rangeFunc hg hc h2 (by intro hh; cases hh) (hQ _ (hset _ _ _ h1))
  · refine WP_rangeFunc hg hc h2 (by intro hh; cases hh) ?_
    have := hQE e _ he (hsetE e _ (loopB fr ps assign body .exhausted (jumpOf e)) h1)
    cases e with
    | normal => exact absurd rfl he
    | exit id => exact this
    | ret => exact this
end
end Go.AM
/-
  The builtin cap, the library's slices.overlaps.
-/
namespace Go.AM
section
variable {P : Program} {raw : FuncId → Bool} {base : Nat} {ops : Array Oper} {chk : Bool} {d : Option Tmp} {ty : TypeId} {pos : String} {af : Array Edge} {fr : AFrame} {h : Heap} {K : St → Prop}
/-- slices.Insert of one number into a full row of one's own. -/
theorem callL_ins {f : FuncId} {fn : Func} {id v n m2 id2 v2 : Nat} {i : Int} {c : List AVal} {e e2 : TypeId} {row2 : Bool} {x : AVal} (hf : P.funcs[f]? = some fn) (hfn : (fn.params.size == 3 && fn.ntmps == 95) = true) (hb : fn.body.isSome = true) (hI : InsF P f e)
    (g1 : h[id]? = some ⟨.cells c e true false, v⟩) (g2 : h[id2]? = some ⟨.cells [x] e2 row2 false, v2⟩) (hn : n = c.length) (hi : 0 ≤ i) (hin : i < (n : Int)) (hne : id ≠ id2) (hbase : base ≤ id) (hs : n < 2147483647) (hsc : (x :: c).all AVal.scalar = true) :
    callL P raw base (.fn f [] []) [.slice (some ⟨id, v, 0⟩) n n, .int .i64 i, .slice (some ⟨id2, v2, 0⟩) 1 m2] h = some (.slice (some ⟨id, v + 1, 0⟩) (n + 1) (n + 1), h.set id ⟨.cells (c.take i.toNat ++ x :: c.drop i.toNat) e true false, v + 1⟩) := by
  have hq : insQ fn [.slice (some ⟨id, v, 0⟩) n n, .int .i64 i, .slice (some ⟨id2, v2, 0⟩) 1 m2] = true := by
    unfold insQ
    rw [hfn]
    simp only [Bool.true_and, decide_true, decide_eq_true hi, decide_eq_true hin]
  have hbA : bodyA fn [.slice (some ⟨id, v, 0⟩) n n, .int .i64 i, .slice (some ⟨id2, v2, 0⟩) 1 m2] = none := by unfold bodyA; rw [if_pos hq]
  have hx : extA P base f fn [.slice (some ⟨id, v, 0⟩) n n, .int .i64 i, .slice (some ⟨id2, v2, 0⟩) 1 m2] h = some (.slice (some ⟨id, v + 1, 0⟩) (n + 1) (n + 1), h.set id ⟨.cells (c.take i.toNat ++ x :: c.drop i.toNat) e true false, v + 1⟩) := by
    unfold extA
    rw [if_pos hq]
    unfold insA
    simp only [g1, g2]
    rw [if_pos ⟨hI, hb, rfl, hn, rfl, hne, hbase, hs, hsc⟩]
  unfold callL callWith
  simp only [hf, hbA]
  exact hx
end
end Go.AM
/-
  Which functions keep their garbage: those that return references.
-/
namespace Go.AM
def raw : FuncId → Bool := fun f => [17, 18, 26, 27, 32, 34, 35, 37, 41, 45, 47, 49, 60, 61, 67, 68, 69, 72, 78, 79, 80, 81, 89, 90, 94, 95, 96, 99, 105, 108, 114, 115, 116, 117, 121, 126, 128, 129, 134].contains f
end Go.AM
/-
  What all texts of a seat use.
-/
namespace Go.AM
open Go.Proofs.Try
section
variable {h A : Heap} {v : AVal} {l : List Int} {base n : Nat} {lit : Bool} {x : Int}
theorem lenI (hI : Ints h v l) : lenOpA prog h 22 v = some (.int .i64 (l.length : Int)) := hI.len Fc.el22
theorem adrI {i : Int} (h0 : 0 ≤ i) (hI : Ints h v l) (h1 : i < l.length) : indexAddrA prog 22 v (.int .i64 i) = some (elAddr v i.toNat) := hI.addr Fc.el22 Fc.ar22 h0 h1
theorem loadI {i : Nat} (hI : Ints h v l) (h1 : i < l.length) : loadP prog h 3 (elAddr v i) = some (.int .i64 (l.getD i 0)) :=
  hI.load Fc.ty3 (by rw [List.getD_eq_getElem?_getD, List.getElem?_eq_getElem h1]; rfl)
theorem bslI (hl : lit = true) : bsA prog lit h 22 1 [(0, .int .i64 x)] = some (.vals [.int .i64 x], h) := bs_lit hl Fc.el22
theorem bsrI (hl : lit = false) : bsA prog lit h 22 1 [(0, .int .i64 x)] = some (.slice (some ⟨h.length, 0, 0⟩) 1 1, h ++ [rowB [x] 0]) := bs_row hl Fc.el22
theorem ints_nil {H : Heap} : Ints H (.slice none 0 0) [] := ⟨⟨by simp, by simp⟩, .inl ⟨rfl, rfl⟩⟩
theorem slice_row {k : Nat} (hn : n = A.length) (hk : k = l.length) (hs : Small l) : Ints (A ++ [rowB l 0]) (.slice (some ⟨n, 0, 0⟩) k k) l := by
  subst hn hk
  exact Ints.fresh_row hs (by simp [rowB]) (Nat.le_refl _)
end
attribute [go_sem] lenI adrI loadI bslI bsrI
theorem extQ_ext {h H : Heap} {A : Prop} (e : Ext h H) : extQ true h H A = A := by
  simp only [extQ, true_imp_iff, and_iff_right_iff_imp, eq_iff_iff]
  exact fun _ => e
attribute [go_sem] extQ_ext
theorem getD_mem {l : List Int} {i : Nat} (hi : i < l.length) : l.getD i 0 ∈ l := by
  rw [List.getD_eq_getElem?_getD, List.getElem?_eq_getElem hi]; exact List.getElem_mem hi
theorem tmodN (a b : Nat) : (a : Int).tmod b = ((a % b : Nat) : Int) := rfl
end Go.AM
/-
  Calls that the abstract machine answers; slices of numbers that came in.
-/
namespace Go.AM
open Go.Proofs.Try Go.RowKit Go.ChangeShapes
theorem own : ownKnob Go.Proofs.Try.prog.godebug = none := by kernel_rfl
theorem laid : laidOutB Go.Proofs.Try.prog = true := by kernel_rfl
/-- A call that the abstract machine answers with true. -/
theorem calls_true {f : FuncId} {args : List AVal} {A : Array Value} {R : List Rw} {W : World} {h' : Heap} (hR : ∀ r ∈ R, r.ok W) (hargs : VRs (muR R) args A.toList) (hv : callL prog raw 0 (.fn f [] []) args (heapR R) = some (.bool true, h')) :
    Calls prog f A W fun e W' => e = .returned (.bool true) ∧ Below W.heap.size W W' := by
  have h0 := callL_sound (raw := raw) allOk (Nat.zero_le _) (hrelR (P := prog) hR) hargs (by intro q; cases q) hv
  refine (callsIn_wide.1 h0).mono fun e W' ⟨X, he, μ', _, hX, _, hE, _⟩ => ?_
  have : X = .bool true := by cases hX; rfl
  subst this
  exact ⟨he, below_of_evo hE⟩
theorem bulk_slice {H : Type} {k : IntKind} {us vs : List Int} : Go.Proofs.Ytikgghhceolaeaa.Rows.uptoBulk (.slice (lits (H := H) k us) (lits k vs)) = us.length + vs.length + 1 := by
  have h : ∀ l : List Int, Go.Proofs.Ytikgghhceolaeaa.Rows.uptoBulkAll (lits (H := H) k l) = l.length := fun l => by
    induction l with
    | nil => rfl
    | cons x xs ih =>
      simp only [lits, List.map_cons, Go.Proofs.Ytikgghhceolaeaa.Rows.uptoBulkAll, Go.Proofs.Ytikgghhceolaeaa.Rows.uptoBulk, List.length_cons] at ih ⊢
      rw [ih]; omega
  simp only [Go.Proofs.Ytikgghhceolaeaa.Rows.uptoBulk, h]
end Go.AM
/-
  Arguments that came in: slices of numbers, as rows of memory.
-/
namespace Go.AM
open Go.Proofs.Try Go.RowKit Go.ChangeShapes Go.WideShapes Go.ChangeAt
open Go.Proofs.Ytikgghhceolaeaa (Rows.uptoSmall Rows.uptoBulkAll Rows.uptoBulk)
set_option maxRecDepth 100000
/-- A slice of numbers that came in: its row, its numbers. -/
structure SlA (W : World) (k : IntKind) (V : Value) (r : Rw) (zs : List Int) (len cap : Nat) : Prop where
  ok : r.cs = [] ∨ r.ok W
  cs : r.cs = zs.map (AVal.int k)
  zl : zs.length = cap
  le : len ≤ cap
  wf : ∀ z ∈ zs, (Lit.int k z).wf = true
  rd : ∀ (i : Nat) (μ : Mu), (0 < cap → μ.loc i 0 = some ⟨r.blk, r.off, r.cs.length, 0⟩) → ∃ v, VR μ v V ∧ ((v = .slice none 0 0 ∧ cap = 0) ∨ (v = .emp ∧ cap = 0) ∨ (v = .slice (some ⟨i, 0, 0⟩) len cap ∧ 0 < cap))
/-- One row more. -/
theorem SlA.add {W : World} {k : IntKind} {V : Value} {r : Rw} {zs : List Int} {len cap : Nat} (h : SlA W k V r zs len cap) {R : List Rw} (hR : ∀ x ∈ R, x.ok W) :
    ∃ R' : List Rw, (∀ x ∈ R', x.ok W) ∧ (∀ (j : Nat) (x : Rw), R[j]? = some x → R'[j]? = some x) ∧ (0 < cap → R'[R.length]? = some r) := by
  rcases h.ok with h1 | h1
  · refine ⟨R, hR, fun _ _ h => h, fun hc => ?_⟩
    have := congrArg List.length (h.cs.symm.trans h1)
    simp only [List.length_map, List.length_nil] at this
    have := h.zl
    omega
  · refine ⟨R ++ [r], fun x hx => ?_, fun j x hj => ?_, fun _ => by simp⟩
    · rcases List.mem_append.1 hx with h2 | h2
      · exact hR x h2
      · rw [List.mem_singleton] at h2; subst h2; exact h1
    · rw [List.getElem?_append_left (List.getElem?_eq_some_iff.1 hj).1]; exact hj
/-- A slice of numbers, and its bulk. -/
theorem open_row {H : Type} {enc : TypeId × Value → H} {W : World} {t e : TypeId} {k : IntKind} {n : Nat} {V : Value} {x : DataW H × List MemPlace} (ht : prog.underlying t = some (.slice e)) (he : prog.underlying e = some (.int k)) (hc : prog.cellsOf e = 1)
    (h : DataW.trod enc prog W 0 (fun _ => true) true n t [V] = some x) : ∃ (r : Rw) (zs : List Int) (len cap : Nat), SlA W k V r zs len cap ∧ cap ≤ Rows.uptoBulk x.1 := by
  obtain ⟨r, zs, len, cap, a1, a2, a3, a4, a5, a6, a7⟩ := arg_slice ht he hc h
  refine ⟨r, zs, len, cap, ⟨a1, a2, a3, a4, a5, a7⟩, ?_⟩
  rcases a6 with e6 | e6
  · by_cases hc0 : cap = 0
    · omega
    · exfalso
      obtain ⟨v, hv, h3⟩ := a7 0 (muR [r]) (fun _ => by rw [muR_loc (r := r) rfl])
      rcases h3 with ⟨_, h4⟩ | ⟨_, h4⟩ | ⟨h4, _⟩
      · exact hc0 h4
      · exact hc0 h4
      · subst h4
        cases hv with
        | slice r' L n' kcap C h5 =>
          have hx := h
          rcases Go.ChangeShapes.open_ints ht he hc hx with ⟨h6, _⟩ | ⟨_, _, _, _, _, _, _, _, _, h6, _⟩
          · simp at h6
          · rw [h6] at e6; cases e6
        | slice0 => omega
  · rw [e6, bulk_slice]
    simp only [List.length_take, List.length_drop]
    omega
end Go.AM
/-
  Arguments that came in: slices of bytes, as rows of memory.
-/
namespace Go.AM
open Go.Proofs.Try Go.RowKit Go.ChangeShapes Go.WideShapes Go.ChangeAt
open Go.Proofs.Ytikgghhceolaeaa (Rows.uptoSmall Rows.uptoBulkAll Rows.uptoBulk)
set_option maxRecDepth 100000
/-- A slice of bytes as the abstract machine reads it. -/
theorem SlA.bytes {W : World} {V : Value} {r : Rw} {zs : List Int} {len cap i : Nat} {R : List Rw} (h : SlA W .u8 V r zs len cap) (hr : 0 < cap → R[i]? = some r) (hb : cap < 2 ^ 60) :
    ∃ v, VR (muR R) v V ∧ Bytes (heapR R) v (zs.take len) := by
  obtain ⟨v, h1, hv⟩ := h.rd i (muR R) (fun hc => muR_loc (hr hc))
  have hz := h.zl
  have hl := h.le
  refine ⟨v, h1, ⟨by simp; omega, fun x hx => ?_⟩, ?_⟩
  · have := h.wf x (List.mem_of_mem_take hx)
    simp [Lit.wf, IntKind.min, IntKind.max, IntKind.signed, IntKind.bits] at this
    omega
  · rcases hv with ⟨rfl, h0⟩ | ⟨rfl, h0⟩ | ⟨rfl, h0⟩
    · exact .inl ⟨rfl, by simp; exact .inr (List.eq_nil_of_length_eq_zero (by omega))⟩
    · exact .inr (.inl ⟨rfl, by simp; exact .inr (List.eq_nil_of_length_eq_zero (by omega))⟩)
    · have hlen : (zs.take len).length = len := by rw [List.length_take]; omega
      refine .inr (.inr ⟨⟨i, 0, 0⟩, cap, r.cs, 3, false, true, by rw [hlen], heapR_get (hr h0), ?_, ?_, by rw [hlen]; exact hl⟩)
      · rw [hlen, h.cs, List.drop_zero, List.map_take]
      · rw [hlen, h.cs]; simp; omega
theorem openByt {H : Type} {enc : TypeId × Value → H} {W : World} {base : Nat} {V : Value} {d : DataW H} {p : List MemPlace} (hval : Value.okWide prog W .any base 39 V) (h : DataW.Trod enc prog W 0 (fun _ => true) true 39 V d p) :
    ∃ (r : Rw) (zs : List Int) (len cap : Nat), SlA W .u8 V r zs len cap ∧ cap ≤ Rows.uptoBulk d := by
  obtain ⟨a0, n, k, rfl⟩ := okWide_slice underlying39 hval
  obtain ⟨fuel, hf⟩ := h
  exact open_row underlying39 underlying5 (by kernel_rfl) hf
end Go.AM
