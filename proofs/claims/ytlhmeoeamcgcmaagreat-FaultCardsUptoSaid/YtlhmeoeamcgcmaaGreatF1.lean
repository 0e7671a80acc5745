/-
  Facts of the types of one translation, by program (wip/tools/facts.py).
-/
import Derived.Test.YtlhmeoeamcgcmaaGreatA6
import Derived.Test.YtlhmeoeamcgcmaaGreatProg
import Derived.KernelRfl
import Derived.Test.YtlhmeoeamcgcmaaGreatA8
set_option linter.unusedSimpArgs false
set_option linter.unusedVariables false
namespace Go.AM.Fc
open Go.Proofs.Tryz
section
variable {id ver o : Nat} {h : Heap} {base : Nat}
theorem ty3 : tyA prog 3 = some (false, 1) := by kernel_rfl
theorem zc3 : zc prog 3 = some [.int .i64 0] := by kernel_rfl
theorem el3 : elS prog 3 = none := by kernel_rfl
theorem ik3 : ikT prog 3 = some .i64 := by kernel_rfl
theorem st3 {x : AVal} (hx : One x) : stP prog base h 3 (.ptr (some ⟨id, ver, o⟩)) x = (stQ base id (h[id]?) ver o [x] (fun b => h.set id b)).map fun h' => (undefA, h') := stP_one ty3 hx
theorem ty4 : tyA prog 4 = some (false, 1) := by kernel_rfl
theorem zc4 : zc prog 4 = some [.bool false] := by kernel_rfl
theorem st4 {x : AVal} (hx : One x) : stP prog base h 4 (.ptr (some ⟨id, ver, o⟩)) x = (stQ base id (h[id]?) ver o [x] (fun b => h.set id b)).map fun h' => (undefA, h') := stP_one ty4 hx
theorem ty5 : tyA prog 5 = some (false, 1) := by kernel_rfl
theorem ty22 : tyA prog 22 = some (false, 1) := by kernel_rfl
theorem ar22 : arT prog 22 = none := by kernel_rfl
theorem el22 : elS prog 22 = some (81, 4, [.slice none 0 0, .int .i64 0, .int .i64 0, .bool false]) := by kernel_rfl
theorem st22 {x : AVal} (hx : One x) : stP prog base h 22 (.ptr (some ⟨id, ver, o⟩)) x = (stQ base id (h[id]?) ver o [x] (fun b => h.set id b)).map fun h' => (undefA, h') := stP_one ty22 hx
theorem ty23 : tyA prog 23 = some (false, 1) := by kernel_rfl
theorem ar23 : arT prog 23 = none := by kernel_rfl
theorem el23 : elS prog 23 = some (56, 4, [.int .i64 0, .int .i64 0, .int .i64 0, .bool false]) := by kernel_rfl
theorem st23 {x : AVal} (hx : One x) : stP prog base h 23 (.ptr (some ⟨id, ver, o⟩)) x = (stQ base id (h[id]?) ver o [x] (fun b => h.set id b)).map fun h' => (undefA, h') := stP_one ty23 hx
theorem ty25 : tyA prog 25 = some (true, 4) := by kernel_rfl
theorem zc25 : zc prog 25 = some [.int .i64 0, .int .i64 0, .slice none 0 0, .slice none 0 0] := by kernel_rfl
theorem pl25 : plcS prog 25 = some [(0, 1), (1, 1), (2, 1), (3, 1)] := by kernel_rfl
theorem fa25_0 : fieldAddrA prog 25 (.ptr (some ⟨id, ver, o⟩)) 0 = some (.ptr (some ⟨id, ver, o + 0⟩)) := fieldAddr_eq (q := false) (z := 1) (by kernel_rfl) (by decide)
theorem fa25_1 : fieldAddrA prog 25 (.ptr (some ⟨id, ver, o⟩)) 1 = some (.ptr (some ⟨id, ver, o + 1⟩)) := fieldAddr_eq (q := false) (z := 1) (by kernel_rfl) (by decide)
theorem fa25_2 : fieldAddrA prog 25 (.ptr (some ⟨id, ver, o⟩)) 2 = some (.ptr (some ⟨id, ver, o + 2⟩)) := fieldAddr_eq (q := false) (z := 1) (by kernel_rfl) (by decide)
theorem fa25_3 : fieldAddrA prog 25 (.ptr (some ⟨id, ver, o⟩)) 3 = some (.ptr (some ⟨id, ver, o + 3⟩)) := fieldAddr_eq (q := false) (z := 1) (by kernel_rfl) (by decide)
theorem st25 {x0 x1 x2 x3 : AVal} : stP prog base h 25 (.ptr (some ⟨id, ver, o⟩)) (.agg [x0, x1, x2, x3]) = (stQ base id (h[id]?) ver o [x0, x1, x2, x3] (fun b => h.set id b)).map fun h' => (undefA, h') := stP_ptr ty25 rfl
theorem ty36 : tyA prog 36 = some (false, 1) := by kernel_rfl
theorem zc36 : zc prog 36 = some [.slice none 0 0] := by kernel_rfl
theorem ar36 : arT prog 36 = none := by kernel_rfl
theorem el36 : elS prog 36 = some (3, 1, [.int .i64 0]) := by kernel_rfl
theorem ln36 {r : ARef} {m k : Nat} : lenOpA prog h 36 (.slice (some r) m k) = some (.int .i64 (m : Int)) := len_sl el36
theorem as36 {v f m k : Nat} {i : Int} (h0 : 0 ≤ i) (h1 : i < m) : indexAddrA prog 36 (.slice (some ⟨id, v, f⟩) m k) (.int .i64 i) = some (.ptr (some ⟨id, v, f + i.toNat * 1⟩)) := adr_sl el36 ar36 h0 h1
theorem un36 : prog.underlying 36 = some (.slice 3) := by kernel_rfl
theorem st36 {x : AVal} (hx : One x) : stP prog base h 36 (.ptr (some ⟨id, ver, o⟩)) x = (stQ base id (h[id]?) ver o [x] (fun b => h.set id b)).map fun h' => (undefA, h') := stP_one ty36 hx
theorem zc54 : zc prog 54 = some [.int .i64 0, .int .i64 0] := by kernel_rfl
theorem pl54 : plcS prog 54 = some [(0, 1), (1, 1)] := by kernel_rfl
theorem fa54_0 : fieldAddrA prog 54 (.ptr (some ⟨id, ver, o⟩)) 0 = some (.ptr (some ⟨id, ver, o + 0⟩)) := fieldAddr_eq (q := false) (z := 1) (by kernel_rfl) (by decide)
theorem fa54_1 : fieldAddrA prog 54 (.ptr (some ⟨id, ver, o⟩)) 1 = some (.ptr (some ⟨id, ver, o + 1⟩)) := fieldAddr_eq (q := false) (z := 1) (by kernel_rfl) (by decide)
theorem ty56 : tyA prog 56 = some (true, 4) := by kernel_rfl
theorem zc56 : zc prog 56 = some [.int .i64 0, .int .i64 0, .int .i64 0, .bool false] := by kernel_rfl
theorem pl56 : plcS prog 56 = some [(0, 1), (1, 2), (3, 1)] := by kernel_rfl
theorem fa56_0 : fieldAddrA prog 56 (.ptr (some ⟨id, ver, o⟩)) 0 = some (.ptr (some ⟨id, ver, o + 0⟩)) := fieldAddr_eq (q := false) (z := 1) (by kernel_rfl) (by decide)
theorem fa56_1 : fieldAddrA prog 56 (.ptr (some ⟨id, ver, o⟩)) 1 = some (.ptr (some ⟨id, ver, o + 1⟩)) := fieldAddr_eq (q := true) (z := 2) (by kernel_rfl) (by decide)
theorem fa56_2 : fieldAddrA prog 56 (.ptr (some ⟨id, ver, o⟩)) 2 = some (.ptr (some ⟨id, ver, o + 3⟩)) := fieldAddr_eq (q := false) (z := 1) (by kernel_rfl) (by decide)
theorem st56 {x0 x1 x2 x3 : AVal} : stP prog base h 56 (.ptr (some ⟨id, ver, o⟩)) (.agg [x0, x1, x2, x3]) = (stQ base id (h[id]?) ver o [x0, x1, x2, x3] (fun b => h.set id b)).map fun h' => (undefA, h') := stP_ptr ty56 rfl
theorem ty60 : tyA prog 60 = some (false, 1) := by kernel_rfl
theorem ar60 : arT prog 60 = none := by kernel_rfl
theorem el60 : elS prog 60 = some (75, 3, [.int .i64 0, .int .i64 0, .int .i64 0]) := by kernel_rfl
theorem un60 : prog.underlying 60 = some (.slice 75) := by kernel_rfl
theorem st60 {x : AVal} (hx : One x) : stP prog base h 60 (.ptr (some ⟨id, ver, o⟩)) x = (stQ base id (h[id]?) ver o [x] (fun b => h.set id b)).map fun h' => (undefA, h') := stP_one ty60 hx
theorem ty75 : tyA prog 75 = some (true, 3) := by kernel_rfl
theorem zc75 : zc prog 75 = some [.int .i64 0, .int .i64 0, .int .i64 0] := by kernel_rfl
theorem pl75 : plcS prog 75 = some [(0, 1), (1, 1), (2, 1)] := by kernel_rfl
theorem fa75_0 : fieldAddrA prog 75 (.ptr (some ⟨id, ver, o⟩)) 0 = some (.ptr (some ⟨id, ver, o + 0⟩)) := fieldAddr_eq (q := false) (z := 1) (by kernel_rfl) (by decide)
theorem fa75_1 : fieldAddrA prog 75 (.ptr (some ⟨id, ver, o⟩)) 1 = some (.ptr (some ⟨id, ver, o + 1⟩)) := fieldAddr_eq (q := false) (z := 1) (by kernel_rfl) (by decide)
theorem fa75_2 : fieldAddrA prog 75 (.ptr (some ⟨id, ver, o⟩)) 2 = some (.ptr (some ⟨id, ver, o + 2⟩)) := fieldAddr_eq (q := false) (z := 1) (by kernel_rfl) (by decide)
theorem ty81 : tyA prog 81 = some (true, 4) := by kernel_rfl
theorem zc81 : zc prog 81 = some [.slice none 0 0, .int .i64 0, .int .i64 0, .bool false] := by kernel_rfl
theorem pl81 : plcS prog 81 = some [(0, 1), (1, 1), (2, 1), (3, 1)] := by kernel_rfl
theorem fa81_0 : fieldAddrA prog 81 (.ptr (some ⟨id, ver, o⟩)) 0 = some (.ptr (some ⟨id, ver, o + 0⟩)) := fieldAddr_eq (q := false) (z := 1) (by kernel_rfl) (by decide)
theorem fa81_1 : fieldAddrA prog 81 (.ptr (some ⟨id, ver, o⟩)) 1 = some (.ptr (some ⟨id, ver, o + 1⟩)) := fieldAddr_eq (q := false) (z := 1) (by kernel_rfl) (by decide)
theorem fa81_2 : fieldAddrA prog 81 (.ptr (some ⟨id, ver, o⟩)) 2 = some (.ptr (some ⟨id, ver, o + 2⟩)) := fieldAddr_eq (q := false) (z := 1) (by kernel_rfl) (by decide)
theorem st81 {x0 x1 x2 x3 : AVal} : stP prog base h 81 (.ptr (some ⟨id, ver, o⟩)) (.agg [x0, x1, x2, x3]) = (stQ base id (h[id]?) ver o [x0, x1, x2, x3] (fun b => h.set id b)).map fun h' => (undefA, h') := stP_ptr ty81 rfl
theorem ty84 : tyA prog 84 = some (false, 1) := by kernel_rfl
theorem ar84 : arT prog 84 = none := by kernel_rfl
theorem el84 : elS prog 84 = some (5, 1, [.int .u8 0]) := by kernel_rfl
theorem ty85 : tyA prog 85 = some (false, 1) := by kernel_rfl
theorem st85 {x : AVal} (hx : One x) : stP prog base h 85 (.ptr (some ⟨id, ver, o⟩)) x = (stQ base id (h[id]?) ver o [x] (fun b => h.set id b)).map fun h' => (undefA, h') := stP_one ty85 hx
theorem ty87 : tyA prog 87 = some (true, 4) := by kernel_rfl
theorem zc87 : zc prog 87 = some [.int .i64 0, .slice none 0 0, .int .i64 0, .int .i64 0] := by kernel_rfl
theorem pl87 : plcS prog 87 = some [(0, 1), (1, 1), (2, 1), (3, 1)] := by kernel_rfl
theorem fa87_0 : fieldAddrA prog 87 (.ptr (some ⟨id, ver, o⟩)) 0 = some (.ptr (some ⟨id, ver, o + 0⟩)) := fieldAddr_eq (q := false) (z := 1) (by kernel_rfl) (by decide)
theorem fa87_1 : fieldAddrA prog 87 (.ptr (some ⟨id, ver, o⟩)) 1 = some (.ptr (some ⟨id, ver, o + 1⟩)) := fieldAddr_eq (q := false) (z := 1) (by kernel_rfl) (by decide)
theorem fa87_2 : fieldAddrA prog 87 (.ptr (some ⟨id, ver, o⟩)) 2 = some (.ptr (some ⟨id, ver, o + 2⟩)) := fieldAddr_eq (q := false) (z := 1) (by kernel_rfl) (by decide)
theorem fa87_3 : fieldAddrA prog 87 (.ptr (some ⟨id, ver, o⟩)) 3 = some (.ptr (some ⟨id, ver, o + 3⟩)) := fieldAddr_eq (q := false) (z := 1) (by kernel_rfl) (by decide)
theorem st87 {x0 x1 x2 x3 : AVal} : stP prog base h 87 (.ptr (some ⟨id, ver, o⟩)) (.agg [x0, x1, x2, x3]) = (stQ base id (h[id]?) ver o [x0, x1, x2, x3] (fun b => h.set id b)).map fun h' => (undefA, h') := stP_ptr ty87 rfl
theorem ty93 : tyA prog 93 = some (true, 2) := by kernel_rfl
theorem zc93 : zc prog 93 = some [.int .i64 0, .slice none 0 0] := by kernel_rfl
theorem pl93 : plcS prog 93 = some [(0, 1), (1, 1)] := by kernel_rfl
theorem fa93_1 : fieldAddrA prog 93 (.ptr (some ⟨id, ver, o⟩)) 1 = some (.ptr (some ⟨id, ver, o + 1⟩)) := fieldAddr_eq (q := false) (z := 1) (by kernel_rfl) (by decide)
theorem st93 {x0 x1 : AVal} : stP prog base h 93 (.ptr (some ⟨id, ver, o⟩)) (.agg [x0, x1]) = (stQ base id (h[id]?) ver o [x0, x1] (fun b => h.set id b)).map fun h' => (undefA, h') := stP_ptr ty93 rfl
theorem ar96 : arT prog 96 = none := by kernel_rfl
theorem el96 : elS prog 96 = some (101, 2, [.int .i64 0, .int .i64 0]) := by kernel_rfl
theorem ty101 : tyA prog 101 = some (true, 2) := by kernel_rfl
theorem zc101 : zc prog 101 = some [.int .i64 0, .int .i64 0] := by kernel_rfl
theorem pl101 : plcS prog 101 = some [(0, 1), (1, 1)] := by kernel_rfl
theorem fa101_1 : fieldAddrA prog 101 (.ptr (some ⟨id, ver, o⟩)) 1 = some (.ptr (some ⟨id, ver, o + 1⟩)) := fieldAddr_eq (q := false) (z := 1) (by kernel_rfl) (by decide)
theorem ty121 : tyA prog 121 = some (false, 1) := by kernel_rfl
theorem zc121 : zc prog 121 = some [.nilFn] := by kernel_rfl
theorem st121 {x : AVal} (hx : One x) : stP prog base h 121 (.ptr (some ⟨id, ver, o⟩)) x = (stQ base id (h[id]?) ver o [x] (fun b => h.set id b)).map fun h' => (undefA, h') := stP_one ty121 hx
theorem ty131 : tyA prog 131 = some (false, 1) := by kernel_rfl
theorem ty134 : tyA prog 134 = some (false, 1) := by kernel_rfl
theorem zc134 : zc prog 134 = some [.nilFn] := by kernel_rfl
theorem st134 {x : AVal} (hx : One x) : stP prog base h 134 (.ptr (some ⟨id, ver, o⟩)) x = (stQ base id (h[id]?) ver o [x] (fun b => h.set id b)).map fun h' => (undefA, h') := stP_one ty134 hx
theorem ty135 : tyA prog 135 = some (false, 1) := by kernel_rfl
theorem zc135 : zc prog 135 = some [.slice none 0 0] := by kernel_rfl
theorem ar135 : arT prog 135 = none := by kernel_rfl
theorem el135 : elS prog 135 = some (148, 2, [.int .i64 0, .slice none 0 0]) := by kernel_rfl
theorem ln135 {r : ARef} {m k : Nat} : lenOpA prog h 135 (.slice (some r) m k) = some (.int .i64 (m : Int)) := len_sl el135
theorem as135 {v f m k : Nat} {i : Int} (h0 : 0 ≤ i) (h1 : i < m) : indexAddrA prog 135 (.slice (some ⟨id, v, f⟩) m k) (.int .i64 i) = some (.ptr (some ⟨id, v, f + i.toNat * 2⟩)) := adr_sl el135 ar135 h0 h1
theorem un135 : prog.underlying 135 = some (.slice 148) := by kernel_rfl
theorem st135 {x : AVal} (hx : One x) : stP prog base h 135 (.ptr (some ⟨id, ver, o⟩)) x = (stQ base id (h[id]?) ver o [x] (fun b => h.set id b)).map fun h' => (undefA, h') := stP_one ty135 hx
theorem ty138 : tyA prog 138 = some (true, 4) := by kernel_rfl
theorem zc138 : zc prog 138 = some [.int .i64 0, .int .i64 0, .int .i64 0, .int .i64 0] := by kernel_rfl
theorem pl138 : plcS prog 138 = some [(0, 3), (3, 1)] := by kernel_rfl
theorem fa138_0 : fieldAddrA prog 138 (.ptr (some ⟨id, ver, o⟩)) 0 = some (.ptr (some ⟨id, ver, o + 0⟩)) := fieldAddr_eq (q := true) (z := 3) (by kernel_rfl) (by decide)
theorem fa138_1 : fieldAddrA prog 138 (.ptr (some ⟨id, ver, o⟩)) 1 = some (.ptr (some ⟨id, ver, o + 3⟩)) := fieldAddr_eq (q := false) (z := 1) (by kernel_rfl) (by decide)
theorem st138 {x0 x1 x2 x3 : AVal} : stP prog base h 138 (.ptr (some ⟨id, ver, o⟩)) (.agg [x0, x1, x2, x3]) = (stQ base id (h[id]?) ver o [x0, x1, x2, x3] (fun b => h.set id b)).map fun h' => (undefA, h') := stP_ptr ty138 rfl
theorem ty139 : tyA prog 139 = some (false, 1) := by kernel_rfl
theorem ty141 : tyA prog 141 = some (true, 1) := by kernel_rfl
theorem zc141 : zc prog 141 = some [.nilFn] := by kernel_rfl
theorem pl141 : plcS prog 141 = some [(0, 1)] := by kernel_rfl
theorem fa141_0 : fieldAddrA prog 141 (.ptr (some ⟨id, ver, o⟩)) 0 = some (.ptr (some ⟨id, ver, o + 0⟩)) := fieldAddr_eq (q := false) (z := 1) (by kernel_rfl) (by decide)
theorem st141 {x0 : AVal} : stP prog base h 141 (.ptr (some ⟨id, ver, o⟩)) (.agg [x0]) = (stQ base id (h[id]?) ver o [x0] (fun b => h.set id b)).map fun h' => (undefA, h') := stP_ptr ty141 rfl
theorem ty143 : tyA prog 143 = some (true, 12) := by kernel_rfl
theorem zc143 : zc prog 143 = some [.bool false, .bool false, .bool false, .bool false, .bool false, .bool false, .bool false, .bool false, .bool false, .bool false, .bool false, .bool false] := by kernel_rfl
theorem ar143 : arT prog 143 = some (12, false, 1) := by kernel_rfl
theorem ad143 {i : Int} (h0 : 0 ≤ i) (h1 : i < 12) : indexAddrA prog 143 (.ptr (some ⟨id, ver, o⟩)) (.int .i64 i) = some (.ptr (some ⟨id, ver, o + i.toNat * 1⟩)) := adr_arr ar143 h0 h1
theorem ty148 : tyA prog 148 = some (true, 2) := by kernel_rfl
theorem zc148 : zc prog 148 = some [.int .i64 0, .slice none 0 0] := by kernel_rfl
theorem fa148_0 : fieldAddrA prog 148 (.ptr (some ⟨id, ver, o⟩)) 0 = some (.ptr (some ⟨id, ver, o + 0⟩)) := fieldAddr_eq (q := false) (z := 1) (by kernel_rfl) (by decide)
theorem fi148_0 {x0 x1 : AVal} : fieldA prog 148 (.agg [x0, x1]) 0 = some (x0) := by
  have h : fld prog 148 0 = some (0, false, 1) := by kernel_rfl
  simp [fieldA, h, partQ]
theorem fa148_1 : fieldAddrA prog 148 (.ptr (some ⟨id, ver, o⟩)) 1 = some (.ptr (some ⟨id, ver, o + 1⟩)) := fieldAddr_eq (q := false) (z := 1) (by kernel_rfl) (by decide)
theorem fi148_1 {x0 x1 : AVal} : fieldA prog 148 (.agg [x0, x1]) 1 = some (x1) := by
  have h : fld prog 148 1 = some (1, false, 1) := by kernel_rfl
  simp [fieldA, h, partQ]
theorem st148 {x0 x1 : AVal} : stP prog base h 148 (.ptr (some ⟨id, ver, o⟩)) (.agg [x0, x1]) = (stQ base id (h[id]?) ver o [x0, x1] (fun b => h.set id b)).map fun h' => (undefA, h') := stP_ptr ty148 rfl
theorem ty154 : tyA prog 154 = some (false, 1) := by kernel_rfl
theorem ar159 : arT prog 159 = some (10, false, 1) := by kernel_rfl
theorem zc160 : zc prog 160 = some (repCells [.bool false] 100) := by kernel_rfl
theorem ar160 : arT prog 160 = some (10, true, 10) := by kernel_rfl
theorem ty161 : tyA prog 161 = some (false, 1) := by kernel_rfl
theorem ar161 : arT prog 161 = none := by kernel_rfl
theorem el161 : elS prog 161 = some (143, 12, [.bool false, .bool false, .bool false, .bool false, .bool false, .bool false, .bool false, .bool false, .bool false, .bool false, .bool false, .bool false]) := by kernel_rfl
theorem zc163 : zc prog 163 = some [.int .i64 0, .int .i64 0, .slice none 0 0, .slice none 0 0, .slice none 0 0, .slice none 0 0] := by kernel_rfl
theorem pl163 : plcS prog 163 = some [(0, 4), (4, 1), (5, 1)] := by kernel_rfl
theorem fa163_0 : fieldAddrA prog 163 (.ptr (some ⟨id, ver, o⟩)) 0 = some (.ptr (some ⟨id, ver, o + 0⟩)) := fieldAddr_eq (q := true) (z := 4) (by kernel_rfl) (by decide)
theorem fa163_1 : fieldAddrA prog 163 (.ptr (some ⟨id, ver, o⟩)) 1 = some (.ptr (some ⟨id, ver, o + 4⟩)) := fieldAddr_eq (q := false) (z := 1) (by kernel_rfl) (by decide)
theorem fa163_2 : fieldAddrA prog 163 (.ptr (some ⟨id, ver, o⟩)) 2 = some (.ptr (some ⟨id, ver, o + 5⟩)) := fieldAddr_eq (q := false) (z := 1) (by kernel_rfl) (by decide)
theorem ty172 : tyA prog 172 = some (false, 1) := by kernel_rfl
theorem ik172 : ikT prog 172 = some .u64 := by kernel_rfl
theorem st172 {x : AVal} (hx : One x) : stP prog base h 172 (.ptr (some ⟨id, ver, o⟩)) x = (stQ base id (h[id]?) ver o [x] (fun b => h.set id b)).map fun h' => (undefA, h') := stP_one ty172 hx
theorem zc174 : zc prog 174 = some [.slice none 0 0, .int .i64 0, .int .u64 0] := by kernel_rfl
theorem pl174 : plcS prog 174 = some [(0, 1), (1, 1), (2, 1)] := by kernel_rfl
theorem fa174_0 : fieldAddrA prog 174 (.ptr (some ⟨id, ver, o⟩)) 0 = some (.ptr (some ⟨id, ver, o + 0⟩)) := fieldAddr_eq (q := false) (z := 1) (by kernel_rfl) (by decide)
theorem fa174_1 : fieldAddrA prog 174 (.ptr (some ⟨id, ver, o⟩)) 1 = some (.ptr (some ⟨id, ver, o + 1⟩)) := fieldAddr_eq (q := false) (z := 1) (by kernel_rfl) (by decide)
theorem fa174_2 : fieldAddrA prog 174 (.ptr (some ⟨id, ver, o⟩)) 2 = some (.ptr (some ⟨id, ver, o + 2⟩)) := fieldAddr_eq (q := false) (z := 1) (by kernel_rfl) (by decide)
theorem ty185 : tyA prog 185 = some (false, 1) := by kernel_rfl
theorem ty187 : tyA prog 187 = some (false, 1) := by kernel_rfl
theorem ty200 : tyA prog 200 = some (true, 3) := by kernel_rfl
theorem zc200 : zc prog 200 = some [.int .i64 0, .int .i64 0, .int .i64 0] := by kernel_rfl
theorem pl200 : plcS prog 200 = some [(0, 1), (1, 1), (2, 1)] := by kernel_rfl
theorem fa200_0 : fieldAddrA prog 200 (.ptr (some ⟨id, ver, o⟩)) 0 = some (.ptr (some ⟨id, ver, o + 0⟩)) := fieldAddr_eq (q := false) (z := 1) (by kernel_rfl) (by decide)
theorem fa200_1 : fieldAddrA prog 200 (.ptr (some ⟨id, ver, o⟩)) 1 = some (.ptr (some ⟨id, ver, o + 1⟩)) := fieldAddr_eq (q := false) (z := 1) (by kernel_rfl) (by decide)
theorem fa200_2 : fieldAddrA prog 200 (.ptr (some ⟨id, ver, o⟩)) 2 = some (.ptr (some ⟨id, ver, o + 2⟩)) := fieldAddr_eq (q := false) (z := 1) (by kernel_rfl) (by decide)
theorem st200 {x0 x1 x2 : AVal} : stP prog base h 200 (.ptr (some ⟨id, ver, o⟩)) (.agg [x0, x1, x2]) = (stQ base id (h[id]?) ver o [x0, x1, x2] (fun b => h.set id b)).map fun h' => (undefA, h') := stP_ptr ty200 rfl
theorem ty205 : tyA prog 205 = some (true, 1) := by kernel_rfl
theorem zc205 : zc prog 205 = some [.nilFn] := by kernel_rfl
theorem pl205 : plcS prog 205 = some [(0, 1)] := by kernel_rfl
theorem fi205_0 {x0 : AVal} : fieldA prog 205 (.agg [x0]) 0 = some (x0) := by
  have h : fld prog 205 0 = some (0, false, 1) := by kernel_rfl
  simp [fieldA, h, partQ]
theorem st205 {x0 : AVal} : stP prog base h 205 (.ptr (some ⟨id, ver, o⟩)) (.agg [x0]) = (stQ base id (h[id]?) ver o [x0] (fun b => h.set id b)).map fun h' => (undefA, h') := stP_ptr ty205 rfl
theorem bd25_01 {y0 y1 : AVal} (h0 : One y0) (h1 : One y1) : buildA prog 25 [(0, y0), (1, y1)] = some (.agg [y0, y1, .slice none 0 0, .slice none 0 0]) := by
  simp [buildA, zc25, pl25, fillA, splice, isN_agg, cells_agg, h0.1, h0.2.1, h1.1, h1.2.1]
theorem bd25_0123 {y0 y1 y2 y3 : AVal} (h0 : One y0) (h1 : One y1) (h2 : One y2) (h3 : One y3) : buildA prog 25 [(0, y0), (1, y1), (2, y2), (3, y3)] = some (.agg [y0, y1, y2, y3]) := by
  simp [buildA, zc25, pl25, fillA, splice, isN_agg, cells_agg, h0.1, h0.2.1, h1.1, h1.2.1, h2.1, h2.2.1, h3.1, h3.2.1]
theorem bd54_01 {y0 y1 : AVal} (h0 : One y0) (h1 : One y1) : buildA prog 54 [(0, y0), (1, y1)] = some (.agg [y0, y1]) := by
  simp [buildA, zc54, pl54, fillA, splice, isN_agg, cells_agg, h0.1, h0.2.1, h1.1, h1.2.1]
theorem bd56_012 {y0 y1_0 y1_1 y2 : AVal} (h0 : One y0) (h2 : One y2) : buildA prog 56 [(0, y0), (1, .agg [y1_0, y1_1]), (2, y2)] = some (.agg [y0, y1_0, y1_1, y2]) := by
  simp [buildA, zc56, pl56, fillA, splice, isN_agg, cells_agg, h0.1, h0.2.1, h2.1, h2.2.1]
theorem bd75_012 {y0 y1 y2 : AVal} (h0 : One y0) (h1 : One y1) (h2 : One y2) : buildA prog 75 [(0, y0), (1, y1), (2, y2)] = some (.agg [y0, y1, y2]) := by
  simp [buildA, zc75, pl75, fillA, splice, isN_agg, cells_agg, h0.1, h0.2.1, h1.1, h1.2.1, h2.1, h2.2.1]
theorem bd75_02 {y0 y2 : AVal} (h0 : One y0) (h2 : One y2) : buildA prog 75 [(0, y0), (2, y2)] = some (.agg [y0, .int .i64 0, y2]) := by
  simp [buildA, zc75, pl75, fillA, splice, isN_agg, cells_agg, h0.1, h0.2.1, h2.1, h2.2.1]
theorem bd81_012 {y0 y1 y2 : AVal} (h0 : One y0) (h1 : One y1) (h2 : One y2) : buildA prog 81 [(0, y0), (1, y1), (2, y2)] = some (.agg [y0, y1, y2, .bool false]) := by
  simp [buildA, zc81, pl81, fillA, splice, isN_agg, cells_agg, h0.1, h0.2.1, h1.1, h1.2.1, h2.1, h2.2.1]
theorem bd81_013 {y0 y1 y3 : AVal} (h0 : One y0) (h1 : One y1) (h3 : One y3) : buildA prog 81 [(0, y0), (1, y1), (3, y3)] = some (.agg [y0, y1, .int .i64 0, y3]) := by
  simp [buildA, zc81, pl81, fillA, splice, isN_agg, cells_agg, h0.1, h0.2.1, h1.1, h1.2.1, h3.1, h3.2.1]
theorem bd87_02 {y0 y2 : AVal} (h0 : One y0) (h2 : One y2) : buildA prog 87 [(0, y0), (2, y2)] = some (.agg [y0, .slice none 0 0, y2, .int .i64 0]) := by
  simp [buildA, zc87, pl87, fillA, splice, isN_agg, cells_agg, h0.1, h0.2.1, h2.1, h2.2.1]
theorem bd93_0 {y0 : AVal} (h0 : One y0) : buildA prog 93 [(0, y0)] = some (.agg [y0, .slice none 0 0]) := by
  simp [buildA, zc93, pl93, fillA, splice, isN_agg, cells_agg, h0.1, h0.2.1]
theorem bd101_01 {y0 y1 : AVal} (h0 : One y0) (h1 : One y1) : buildA prog 101 [(0, y0), (1, y1)] = some (.agg [y0, y1]) := by
  simp [buildA, zc101, pl101, fillA, splice, isN_agg, cells_agg, h0.1, h0.2.1, h1.1, h1.2.1]
theorem bd101_1 {y1 : AVal} (h1 : One y1) : buildA prog 101 [(1, y1)] = some (.agg [.int .i64 0, y1]) := by
  simp [buildA, zc101, pl101, fillA, splice, isN_agg, cells_agg, h1.1, h1.2.1]
theorem bd138_0 {y0_0 y0_1 y0_2 : AVal}  : buildA prog 138 [(0, .agg [y0_0, y0_1, y0_2])] = some (.agg [y0_0, y0_1, y0_2, .int .i64 0]) := by
  simp [buildA, zc138, pl138, fillA, splice, isN_agg, cells_agg]
theorem bd141_0 {y0 : AVal} (h0 : One y0) : buildA prog 141 [(0, y0)] = some (.agg [y0]) := by
  simp [buildA, zc141, pl141, fillA, splice, isN_agg, cells_agg, h0.1, h0.2.1]
theorem bd163_02 {y0_0 y0_1 y0_2 y0_3 y2 : AVal} (h2 : One y2) : buildA prog 163 [(0, .agg [y0_0, y0_1, y0_2, y0_3]), (2, y2)] = some (.agg [y0_0, y0_1, y0_2, y0_3, .slice none 0 0, y2]) := by
  simp [buildA, zc163, pl163, fillA, splice, isN_agg, cells_agg, h2.1, h2.2.1]
theorem bd174_02 {y0 y2 : AVal} (h0 : One y0) (h2 : One y2) : buildA prog 174 [(0, y0), (2, y2)] = some (.agg [y0, .int .i64 0, y2]) := by
  simp [buildA, zc174, pl174, fillA, splice, isN_agg, cells_agg, h0.1, h0.2.1, h2.1, h2.2.1]
theorem bd200_012 {y0 y1 y2 : AVal} (h0 : One y0) (h1 : One y1) (h2 : One y2) : buildA prog 200 [(0, y0), (1, y1), (2, y2)] = some (.agg [y0, y1, y2]) := by
  simp [buildA, zc200, pl200, fillA, splice, isN_agg, cells_agg, h0.1, h0.2.1, h1.1, h1.2.1, h2.1, h2.2.1]
theorem bd205_0 {y0 : AVal} (h0 : One y0) : buildA prog 205 [(0, y0)] = some (.agg [y0]) := by
  simp [buildA, zc205, pl205, fillA, splice, isN_agg, cells_agg, h0.1, h0.2.1]
theorem eq101 {a0 : Int} {a1 : Int} {b0 : Int} {b1 : Int} : binA prog .eql 101 (.agg [.int .i64 a0, .int .i64 a1]) (.agg [.int .i64 b0, .int .i64 b1]) = some (.bool (decide (a0 = b0 ∧ a1 = b1))) := by
  have h1 : prog.eqGuardType prog.depth 101 = false := by kernel_rfl
  have s101 : prog.stoodInHeld 101 = false := by kernel_rfl
  simp [binA, eqDepth, eqT, partA, partQ, h1, s101, underlying3, ty3, underlying101, ty101]
  by_cases e0 : a0 = b0 <;> by_cases e1 : a1 = b1 <;> simp [e0, e1]
end
attribute [go_sem] ty3 zc3 el3 st3 ty4 zc4 st4 ty5 ty22 ar22 el22 st22 ty23 ar23 el23 st23 ty25 zc25 fa25_0 fa25_1 fa25_2 fa25_3 st25 ty36 zc36 ar36 el36 ln36 as36 st36 zc54 fa54_0 fa54_1 ty56 zc56 fa56_0 fa56_1 fa56_2 st56 ty60 ar60 el60 st60 ty75 zc75 fa75_0 fa75_1 fa75_2 ty81 zc81 fa81_0 fa81_1 fa81_2 st81 ty84 ar84 el84 ty85 st85 ty87 zc87 fa87_0 fa87_1 fa87_2 fa87_3 st87 ty93 zc93 fa93_1 st93 ar96 el96 ty101 zc101 fa101_1 ty121 zc121 st121 ty131 ty134 zc134 st134 ty135 zc135 ar135 el135 ln135 as135 st135 ty138 zc138 fa138_0 fa138_1 st138 ty139 ty141 zc141 fa141_0 st141 ty143 zc143 ar143 ad143 ty148 zc148 fa148_0 fi148_0 fa148_1 fi148_1 st148 ty154 ar159 zc160 ar160 ty161 ar161 el161 zc163 fa163_0 fa163_1 fa163_2 ty172 st172 zc174 fa174_0 fa174_1 fa174_2 ty185 ty187 ty200 zc200 fa200_0 fa200_1 fa200_2 st200 ty205 zc205 fi205_0 st205 bd25_01 bd25_0123 bd54_01 bd56_012 bd75_012 bd75_02 bd81_012 bd81_013 bd87_02 bd93_0 bd101_01 bd101_1 bd138_0 bd141_0 bd163_02 bd174_02 bd200_012 bd205_0 eq101
attribute [go_sem] results3 results4 results5 results6 results7 results8 results9 results10 results11 results12 results13 results14 results15 results16 results17 results18 results19 results20 results21 results22 results23 results24 results25 results26 results27 results28 results29 results30 results31 results32 results33 results34 results35 results36 results37 results38 results39 results40 results41 results42 results43 results44 results45 results46 results47 results48 results49 results50 results51 results52 results53 results54 results55 results56 results57 results58 results59 results60 results61 results62 results63 results64 results65 results66 results67 results68 results69 results70 results71 results72 results73 results74 results75 results76 results77 results78 results79 results80 results81 results82 results83 results84 results85 results86 results87 results88 results89 results90 results91 results92 results93 results94 results95 results96 results97 results98 results99 results100 results101 results102 results103 results104 results105 results106 results107 results108 results109 results110 results111 results112 results113 results114 results115 results116 results117 results118 results119 results120 results121 results122 results123 results124 results125 results126 results127 results128 results129 results130 results131 results132 results133 results134 results135 results136 results137 results138 results139 results140 results141 results142 results143 results144 results145 results146 results147 results148 results149 results150 results151 results152 results153 results154 results155 results156 results157 results158 results159 results160 results161 results162 results163 results164 results165 results166 results167 results168 results169 results170 results171 results172 results173 results174 results175 results176 results177 results178 results179 results180 results181 results182 results183 results184 results185 results186 results187 results188 results189 results190
end Go.AM.Fc
/-
  Which functions keep their garbage: those that return references.
-/
namespace Go.AM
def raw : FuncId → Bool := fun f => [60, 24, 13, 131, 31, 23, 21, 22, 118, 32, 46, 38, 14, 116, 117, 52, 45, 39, 74, 84, 85, 87, 80, 88, 92, 65, 66, 67, 76, 78, 79, 103, 113, 104, 140, 95, 86, 57, 115, 135, 136, 137, 161, 16, 17, 18, 19, 20, 28, 35, 36, 37, 43, 48, 50, 51, 55, 63, 70].contains f
end Go.AM
