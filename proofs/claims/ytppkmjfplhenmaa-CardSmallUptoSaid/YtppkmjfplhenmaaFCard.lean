/-
  Facts of the types of one translation, by program (wip/tools/facts.py).
-/
import Derived.Test.YtppkmjfplhenmaaA6
import Derived.Test.YtppkmjfplhenmaaProg
import Derived.KernelRfl
set_option linter.unusedSimpArgs false
set_option linter.unusedVariables false
namespace Go.AM.Fc
open Go.Proofs.Try
section
variable {id ver o : Nat} {h : Heap} {base : Nat}
theorem ty1 : tyA prog 1 = some (false, 1) := by kernel_rfl
theorem zc1 : zc prog 1 = some [.nilFn] := by kernel_rfl
theorem ar1 : arT prog 1 = none := by kernel_rfl
theorem el1 : elS prog 1 = none := by kernel_rfl
theorem st1 {x : AVal} (hx : One x) : stP prog base h 1 (.ptr (some ⟨id, ver, o⟩)) x = (stQ base id (h[id]?) ver o [x] (fun b => h.set id b)).map fun h' => (undefA, h') := stP_one ty1 hx
theorem ty3 : tyA prog 3 = some (false, 1) := by kernel_rfl
theorem zc3 : zc prog 3 = some [.int .i64 0] := by kernel_rfl
theorem ar3 : arT prog 3 = none := by kernel_rfl
theorem el3 : elS prog 3 = none := by kernel_rfl
theorem ik3 : ikT prog 3 = some .i64 := by kernel_rfl
theorem st3 {x : AVal} (hx : One x) : stP prog base h 3 (.ptr (some ⟨id, ver, o⟩)) x = (stQ base id (h[id]?) ver o [x] (fun b => h.set id b)).map fun h' => (undefA, h') := stP_one ty3 hx
theorem ty4 : tyA prog 4 = some (false, 1) := by kernel_rfl
theorem zc4 : zc prog 4 = some [.bool false] := by kernel_rfl
theorem ar4 : arT prog 4 = none := by kernel_rfl
theorem el4 : elS prog 4 = none := by kernel_rfl
theorem st4 {x : AVal} (hx : One x) : stP prog base h 4 (.ptr (some ⟨id, ver, o⟩)) x = (stQ base id (h[id]?) ver o [x] (fun b => h.set id b)).map fun h' => (undefA, h') := stP_one ty4 hx
theorem ty5 : tyA prog 5 = some (false, 1) := by kernel_rfl
theorem zc5 : zc prog 5 = some [.int .u8 0] := by kernel_rfl
theorem ar5 : arT prog 5 = none := by kernel_rfl
theorem el5 : elS prog 5 = none := by kernel_rfl
theorem ik5 : ikT prog 5 = some .u8 := by kernel_rfl
theorem st5 {x : AVal} (hx : One x) : stP prog base h 5 (.ptr (some ⟨id, ver, o⟩)) x = (stQ base id (h[id]?) ver o [x] (fun b => h.set id b)).map fun h' => (undefA, h') := stP_one ty5 hx
theorem ty22 : tyA prog 22 = some (false, 1) := by kernel_rfl
theorem zc22 : zc prog 22 = some [.slice none 0 0] := by kernel_rfl
theorem ar22 : arT prog 22 = none := by kernel_rfl
theorem el22 : elS prog 22 = some (3, 1, [.int .i64 0]) := by kernel_rfl
theorem ln22 {r : ARef} {m k : Nat} : lenOpA prog h 22 (.slice (some r) m k) = some (.int .i64 (m : Int)) := len_sl el22
theorem as22 {v f m k : Nat} {i : Int} (h0 : 0 ≤ i) (h1 : i < m) : indexAddrA prog 22 (.slice (some ⟨id, v, f⟩) m k) (.int .i64 i) = some (.ptr (some ⟨id, v, f + i.toNat * 1⟩)) := adr_sl el22 ar22 h0 h1
theorem un22 : prog.underlying 22 = some (.slice 3) := by kernel_rfl
theorem st22 {x : AVal} (hx : One x) : stP prog base h 22 (.ptr (some ⟨id, ver, o⟩)) x = (stQ base id (h[id]?) ver o [x] (fun b => h.set id b)).map fun h' => (undefA, h') := stP_one ty22 hx
theorem ty24 : tyA prog 24 = some (true, 2) := by kernel_rfl
theorem zc24 : zc prog 24 = some [.int .i64 0, .slice none 0 0] := by kernel_rfl
theorem ar24 : arT prog 24 = none := by kernel_rfl
theorem el24 : elS prog 24 = none := by kernel_rfl
theorem pl24 : plcS prog 24 = some [(0, 1), (1, 1)] := by kernel_rfl
theorem fa24_0 : fieldAddrA prog 24 (.ptr (some ⟨id, ver, o⟩)) 0 = some (.ptr (some ⟨id, ver, o + 0⟩)) := fieldAddr_eq (q := false) (z := 1) (by kernel_rfl) (by decide)
theorem fi24_0 {x0 x1 : AVal} : fieldA prog 24 (.agg [x0, x1]) 0 = some (x0) := by
  have h : fld prog 24 0 = some (0, false, 1) := by kernel_rfl
  simp [fieldA, h, partQ]
theorem fa24_1 : fieldAddrA prog 24 (.ptr (some ⟨id, ver, o⟩)) 1 = some (.ptr (some ⟨id, ver, o + 1⟩)) := fieldAddr_eq (q := false) (z := 1) (by kernel_rfl) (by decide)
theorem fi24_1 {x0 x1 : AVal} : fieldA prog 24 (.agg [x0, x1]) 1 = some (x1) := by
  have h : fld prog 24 1 = some (1, false, 1) := by kernel_rfl
  simp [fieldA, h, partQ]
theorem st24 {x0 x1 : AVal} : stP prog base h 24 (.ptr (some ⟨id, ver, o⟩)) (.agg [x0, x1]) = (stQ base id (h[id]?) ver o [x0, x1] (fun b => h.set id b)).map fun h' => (undefA, h') := stP_ptr ty24 rfl
theorem ty25 : tyA prog 25 = some (false, 1) := by kernel_rfl
theorem zc25 : zc prog 25 = some [.int .i64 0] := by kernel_rfl
theorem ar25 : arT prog 25 = none := by kernel_rfl
theorem el25 : elS prog 25 = none := by kernel_rfl
theorem ik25 : ikT prog 25 = some .i64 := by kernel_rfl
theorem st25 {x : AVal} (hx : One x) : stP prog base h 25 (.ptr (some ⟨id, ver, o⟩)) x = (stQ base id (h[id]?) ver o [x] (fun b => h.set id b)).map fun h' => (undefA, h') := stP_one ty25 hx
theorem ty29 : tyA prog 29 = some (true, 2) := by kernel_rfl
theorem zc29 : zc prog 29 = some [.int .i64 0, .slice none 0 0] := by kernel_rfl
theorem ar29 : arT prog 29 = none := by kernel_rfl
theorem el29 : elS prog 29 = none := by kernel_rfl
theorem pl29 : plcS prog 29 = some [(0, 1), (1, 1)] := by kernel_rfl
theorem fa29_0 : fieldAddrA prog 29 (.ptr (some ⟨id, ver, o⟩)) 0 = some (.ptr (some ⟨id, ver, o + 0⟩)) := fieldAddr_eq (q := false) (z := 1) (by kernel_rfl) (by decide)
theorem fi29_0 {x0 x1 : AVal} : fieldA prog 29 (.agg [x0, x1]) 0 = some (x0) := by
  have h : fld prog 29 0 = some (0, false, 1) := by kernel_rfl
  simp [fieldA, h, partQ]
theorem fa29_1 : fieldAddrA prog 29 (.ptr (some ⟨id, ver, o⟩)) 1 = some (.ptr (some ⟨id, ver, o + 1⟩)) := fieldAddr_eq (q := false) (z := 1) (by kernel_rfl) (by decide)
theorem fi29_1 {x0 x1 : AVal} : fieldA prog 29 (.agg [x0, x1]) 1 = some (x1) := by
  have h : fld prog 29 1 = some (1, false, 1) := by kernel_rfl
  simp [fieldA, h, partQ]
theorem st29 {x0 x1 : AVal} : stP prog base h 29 (.ptr (some ⟨id, ver, o⟩)) (.agg [x0, x1]) = (stQ base id (h[id]?) ver o [x0, x1] (fun b => h.set id b)).map fun h' => (undefA, h') := stP_ptr ty29 rfl
theorem ty31 : tyA prog 31 = some (false, 1) := by kernel_rfl
theorem zc31 : zc prog 31 = some [.int .i64 0] := by kernel_rfl
theorem ar31 : arT prog 31 = none := by kernel_rfl
theorem el31 : elS prog 31 = none := by kernel_rfl
theorem ik31 : ikT prog 31 = some .i64 := by kernel_rfl
theorem st31 {x : AVal} (hx : One x) : stP prog base h 31 (.ptr (some ⟨id, ver, o⟩)) x = (stQ base id (h[id]?) ver o [x] (fun b => h.set id b)).map fun h' => (undefA, h') := stP_one ty31 hx
theorem ty34 : tyA prog 34 = some (true, 4) := by kernel_rfl
theorem zc34 : zc prog 34 = some [.int .i64 0, .slice none 0 0, .int .i64 0, .int .i64 0] := by kernel_rfl
theorem ar34 : arT prog 34 = none := by kernel_rfl
theorem el34 : elS prog 34 = none := by kernel_rfl
theorem pl34 : plcS prog 34 = some [(0, 1), (1, 1), (2, 1), (3, 1)] := by kernel_rfl
theorem fa34_0 : fieldAddrA prog 34 (.ptr (some ⟨id, ver, o⟩)) 0 = some (.ptr (some ⟨id, ver, o + 0⟩)) := fieldAddr_eq (q := false) (z := 1) (by kernel_rfl) (by decide)
theorem fi34_0 {x0 x1 x2 x3 : AVal} : fieldA prog 34 (.agg [x0, x1, x2, x3]) 0 = some (x0) := by
  have h : fld prog 34 0 = some (0, false, 1) := by kernel_rfl
  simp [fieldA, h, partQ]
theorem fa34_1 : fieldAddrA prog 34 (.ptr (some ⟨id, ver, o⟩)) 1 = some (.ptr (some ⟨id, ver, o + 1⟩)) := fieldAddr_eq (q := false) (z := 1) (by kernel_rfl) (by decide)
theorem fi34_1 {x0 x1 x2 x3 : AVal} : fieldA prog 34 (.agg [x0, x1, x2, x3]) 1 = some (x1) := by
  have h : fld prog 34 1 = some (1, false, 1) := by kernel_rfl
  simp [fieldA, h, partQ]
theorem fa34_2 : fieldAddrA prog 34 (.ptr (some ⟨id, ver, o⟩)) 2 = some (.ptr (some ⟨id, ver, o + 2⟩)) := fieldAddr_eq (q := false) (z := 1) (by kernel_rfl) (by decide)
theorem fi34_2 {x0 x1 x2 x3 : AVal} : fieldA prog 34 (.agg [x0, x1, x2, x3]) 2 = some (x2) := by
  have h : fld prog 34 2 = some (2, false, 1) := by kernel_rfl
  simp [fieldA, h, partQ]
theorem fa34_3 : fieldAddrA prog 34 (.ptr (some ⟨id, ver, o⟩)) 3 = some (.ptr (some ⟨id, ver, o + 3⟩)) := fieldAddr_eq (q := false) (z := 1) (by kernel_rfl) (by decide)
theorem fi34_3 {x0 x1 x2 x3 : AVal} : fieldA prog 34 (.agg [x0, x1, x2, x3]) 3 = some (x3) := by
  have h : fld prog 34 3 = some (3, false, 1) := by kernel_rfl
  simp [fieldA, h, partQ]
theorem st34 {x0 x1 x2 x3 : AVal} : stP prog base h 34 (.ptr (some ⟨id, ver, o⟩)) (.agg [x0, x1, x2, x3]) = (stQ base id (h[id]?) ver o [x0, x1, x2, x3] (fun b => h.set id b)).map fun h' => (undefA, h') := stP_ptr ty34 rfl
theorem ty40 : tyA prog 40 = some (true, 4) := by kernel_rfl
theorem zc40 : zc prog 40 = some [.int .i64 0, .slice none 0 0, .int .i64 0, .int .i64 0] := by kernel_rfl
theorem ar40 : arT prog 40 = none := by kernel_rfl
theorem el40 : elS prog 40 = none := by kernel_rfl
theorem pl40 : plcS prog 40 = some [(0, 1), (1, 1), (2, 1), (3, 1)] := by kernel_rfl
theorem fa40_0 : fieldAddrA prog 40 (.ptr (some ⟨id, ver, o⟩)) 0 = some (.ptr (some ⟨id, ver, o + 0⟩)) := fieldAddr_eq (q := false) (z := 1) (by kernel_rfl) (by decide)
theorem fi40_0 {x0 x1 x2 x3 : AVal} : fieldA prog 40 (.agg [x0, x1, x2, x3]) 0 = some (x0) := by
  have h : fld prog 40 0 = some (0, false, 1) := by kernel_rfl
  simp [fieldA, h, partQ]
theorem fa40_1 : fieldAddrA prog 40 (.ptr (some ⟨id, ver, o⟩)) 1 = some (.ptr (some ⟨id, ver, o + 1⟩)) := fieldAddr_eq (q := false) (z := 1) (by kernel_rfl) (by decide)
theorem fi40_1 {x0 x1 x2 x3 : AVal} : fieldA prog 40 (.agg [x0, x1, x2, x3]) 1 = some (x1) := by
  have h : fld prog 40 1 = some (1, false, 1) := by kernel_rfl
  simp [fieldA, h, partQ]
theorem fa40_2 : fieldAddrA prog 40 (.ptr (some ⟨id, ver, o⟩)) 2 = some (.ptr (some ⟨id, ver, o + 2⟩)) := fieldAddr_eq (q := false) (z := 1) (by kernel_rfl) (by decide)
theorem fi40_2 {x0 x1 x2 x3 : AVal} : fieldA prog 40 (.agg [x0, x1, x2, x3]) 2 = some (x2) := by
  have h : fld prog 40 2 = some (2, false, 1) := by kernel_rfl
  simp [fieldA, h, partQ]
theorem fa40_3 : fieldAddrA prog 40 (.ptr (some ⟨id, ver, o⟩)) 3 = some (.ptr (some ⟨id, ver, o + 3⟩)) := fieldAddr_eq (q := false) (z := 1) (by kernel_rfl) (by decide)
theorem fi40_3 {x0 x1 x2 x3 : AVal} : fieldA prog 40 (.agg [x0, x1, x2, x3]) 3 = some (x3) := by
  have h : fld prog 40 3 = some (3, false, 1) := by kernel_rfl
  simp [fieldA, h, partQ]
theorem st40 {x0 x1 x2 x3 : AVal} : stP prog base h 40 (.ptr (some ⟨id, ver, o⟩)) (.agg [x0, x1, x2, x3]) = (stQ base id (h[id]?) ver o [x0, x1, x2, x3] (fun b => h.set id b)).map fun h' => (undefA, h') := stP_ptr ty40 rfl
theorem ty47 : tyA prog 47 = some (false, 1) := by kernel_rfl
theorem zc47 : zc prog 47 = some [.slice none 0 0] := by kernel_rfl
theorem ar47 : arT prog 47 = none := by kernel_rfl
theorem el47 : elS prog 47 = some (5, 1, [.int .u8 0]) := by kernel_rfl
theorem ln47 {r : ARef} {m k : Nat} : lenOpA prog h 47 (.slice (some r) m k) = some (.int .i64 (m : Int)) := len_sl el47
theorem as47 {v f m k : Nat} {i : Int} (h0 : 0 ≤ i) (h1 : i < m) : indexAddrA prog 47 (.slice (some ⟨id, v, f⟩) m k) (.int .i64 i) = some (.ptr (some ⟨id, v, f + i.toNat * 1⟩)) := adr_sl el47 ar47 h0 h1
theorem un47 : prog.underlying 47 = some (.slice 5) := by kernel_rfl
theorem st47 {x : AVal} (hx : One x) : stP prog base h 47 (.ptr (some ⟨id, ver, o⟩)) x = (stQ base id (h[id]?) ver o [x] (fun b => h.set id b)).map fun h' => (undefA, h') := stP_one ty47 hx
theorem ty82 : tyA prog 82 = some (true, 4) := by kernel_rfl
theorem zc82 : zc prog 82 = some [.int .i64 0, .int .i64 0, .int .i64 0, .bool false] := by kernel_rfl
theorem ar82 : arT prog 82 = none := by kernel_rfl
theorem el82 : elS prog 82 = none := by kernel_rfl
theorem pl82 : plcS prog 82 = some [(0, 1), (1, 1), (2, 1), (3, 1)] := by kernel_rfl
theorem fa82_0 : fieldAddrA prog 82 (.ptr (some ⟨id, ver, o⟩)) 0 = some (.ptr (some ⟨id, ver, o + 0⟩)) := fieldAddr_eq (q := false) (z := 1) (by kernel_rfl) (by decide)
theorem fi82_0 {x0 x1 x2 x3 : AVal} : fieldA prog 82 (.agg [x0, x1, x2, x3]) 0 = some (x0) := by
  have h : fld prog 82 0 = some (0, false, 1) := by kernel_rfl
  simp [fieldA, h, partQ]
theorem fa82_1 : fieldAddrA prog 82 (.ptr (some ⟨id, ver, o⟩)) 1 = some (.ptr (some ⟨id, ver, o + 1⟩)) := fieldAddr_eq (q := false) (z := 1) (by kernel_rfl) (by decide)
theorem fi82_1 {x0 x1 x2 x3 : AVal} : fieldA prog 82 (.agg [x0, x1, x2, x3]) 1 = some (x1) := by
  have h : fld prog 82 1 = some (1, false, 1) := by kernel_rfl
  simp [fieldA, h, partQ]
theorem fa82_2 : fieldAddrA prog 82 (.ptr (some ⟨id, ver, o⟩)) 2 = some (.ptr (some ⟨id, ver, o + 2⟩)) := fieldAddr_eq (q := false) (z := 1) (by kernel_rfl) (by decide)
theorem fi82_2 {x0 x1 x2 x3 : AVal} : fieldA prog 82 (.agg [x0, x1, x2, x3]) 2 = some (x2) := by
  have h : fld prog 82 2 = some (2, false, 1) := by kernel_rfl
  simp [fieldA, h, partQ]
theorem fa82_3 : fieldAddrA prog 82 (.ptr (some ⟨id, ver, o⟩)) 3 = some (.ptr (some ⟨id, ver, o + 3⟩)) := fieldAddr_eq (q := false) (z := 1) (by kernel_rfl) (by decide)
theorem fi82_3 {x0 x1 x2 x3 : AVal} : fieldA prog 82 (.agg [x0, x1, x2, x3]) 3 = some (x3) := by
  have h : fld prog 82 3 = some (3, false, 1) := by kernel_rfl
  simp [fieldA, h, partQ]
theorem st82 {x0 x1 x2 x3 : AVal} : stP prog base h 82 (.ptr (some ⟨id, ver, o⟩)) (.agg [x0, x1, x2, x3]) = (stQ base id (h[id]?) ver o [x0, x1, x2, x3] (fun b => h.set id b)).map fun h' => (undefA, h') := stP_ptr ty82 rfl
theorem ty84 : tyA prog 84 = some (true, 4) := by kernel_rfl
theorem zc84 : zc prog 84 = some [.int .i64 0, .int .i64 0, .int .i64 0, .bool false] := by kernel_rfl
theorem ar84 : arT prog 84 = none := by kernel_rfl
theorem el84 : elS prog 84 = none := by kernel_rfl
theorem pl84 : plcS prog 84 = some [(0, 1), (1, 1), (2, 1), (3, 1)] := by kernel_rfl
theorem fa84_0 : fieldAddrA prog 84 (.ptr (some ⟨id, ver, o⟩)) 0 = some (.ptr (some ⟨id, ver, o + 0⟩)) := fieldAddr_eq (q := false) (z := 1) (by kernel_rfl) (by decide)
theorem fi84_0 {x0 x1 x2 x3 : AVal} : fieldA prog 84 (.agg [x0, x1, x2, x3]) 0 = some (x0) := by
  have h : fld prog 84 0 = some (0, false, 1) := by kernel_rfl
  simp [fieldA, h, partQ]
theorem fa84_1 : fieldAddrA prog 84 (.ptr (some ⟨id, ver, o⟩)) 1 = some (.ptr (some ⟨id, ver, o + 1⟩)) := fieldAddr_eq (q := false) (z := 1) (by kernel_rfl) (by decide)
theorem fi84_1 {x0 x1 x2 x3 : AVal} : fieldA prog 84 (.agg [x0, x1, x2, x3]) 1 = some (x1) := by
  have h : fld prog 84 1 = some (1, false, 1) := by kernel_rfl
  simp [fieldA, h, partQ]
theorem fa84_2 : fieldAddrA prog 84 (.ptr (some ⟨id, ver, o⟩)) 2 = some (.ptr (some ⟨id, ver, o + 2⟩)) := fieldAddr_eq (q := false) (z := 1) (by kernel_rfl) (by decide)
theorem fi84_2 {x0 x1 x2 x3 : AVal} : fieldA prog 84 (.agg [x0, x1, x2, x3]) 2 = some (x2) := by
  have h : fld prog 84 2 = some (2, false, 1) := by kernel_rfl
  simp [fieldA, h, partQ]
theorem fa84_3 : fieldAddrA prog 84 (.ptr (some ⟨id, ver, o⟩)) 3 = some (.ptr (some ⟨id, ver, o + 3⟩)) := fieldAddr_eq (q := false) (z := 1) (by kernel_rfl) (by decide)
theorem fi84_3 {x0 x1 x2 x3 : AVal} : fieldA prog 84 (.agg [x0, x1, x2, x3]) 3 = some (x3) := by
  have h : fld prog 84 3 = some (3, false, 1) := by kernel_rfl
  simp [fieldA, h, partQ]
theorem st84 {x0 x1 x2 x3 : AVal} : stP prog base h 84 (.ptr (some ⟨id, ver, o⟩)) (.agg [x0, x1, x2, x3]) = (stQ base id (h[id]?) ver o [x0, x1, x2, x3] (fun b => h.set id b)).map fun h' => (undefA, h') := stP_ptr ty84 rfl
theorem ty107 : tyA prog 107 = some (false, 1) := by kernel_rfl
theorem zc107 : zc prog 107 = some [.nilFn] := by kernel_rfl
theorem ar107 : arT prog 107 = none := by kernel_rfl
theorem el107 : elS prog 107 = none := by kernel_rfl
theorem st107 {x : AVal} (hx : One x) : stP prog base h 107 (.ptr (some ⟨id, ver, o⟩)) x = (stQ base id (h[id]?) ver o [x] (fun b => h.set id b)).map fun h' => (undefA, h') := stP_one ty107 hx
theorem ty115 : tyA prog 115 = some (false, 1) := by kernel_rfl
theorem zc115 : zc prog 115 = some [.slice none 0 0] := by kernel_rfl
theorem ar115 : arT prog 115 = none := by kernel_rfl
theorem el115 : elS prog 115 = some (22, 1, [.slice none 0 0]) := by kernel_rfl
theorem ln115 {r : ARef} {m k : Nat} : lenOpA prog h 115 (.slice (some r) m k) = some (.int .i64 (m : Int)) := len_sl el115
theorem as115 {v f m k : Nat} {i : Int} (h0 : 0 ≤ i) (h1 : i < m) : indexAddrA prog 115 (.slice (some ⟨id, v, f⟩) m k) (.int .i64 i) = some (.ptr (some ⟨id, v, f + i.toNat * 1⟩)) := adr_sl el115 ar115 h0 h1
theorem un115 : prog.underlying 115 = some (.slice 22) := by kernel_rfl
theorem st115 {x : AVal} (hx : One x) : stP prog base h 115 (.ptr (some ⟨id, ver, o⟩)) x = (stQ base id (h[id]?) ver o [x] (fun b => h.set id b)).map fun h' => (undefA, h') := stP_one ty115 hx
theorem ty118 : tyA prog 118 = some (false, 1) := by kernel_rfl
theorem zc118 : zc prog 118 = some [.ptr none] := by kernel_rfl
theorem ar118 : arT prog 118 = none := by kernel_rfl
theorem el118 : elS prog 118 = none := by kernel_rfl
theorem st118 {x : AVal} (hx : One x) : stP prog base h 118 (.ptr (some ⟨id, ver, o⟩)) x = (stQ base id (h[id]?) ver o [x] (fun b => h.set id b)).map fun h' => (undefA, h') := stP_one ty118 hx
theorem ty119 : tyA prog 119 = some (false, 1) := by kernel_rfl
theorem zc119 : zc prog 119 = some [.slice none 0 0] := by kernel_rfl
theorem ar119 : arT prog 119 = none := by kernel_rfl
theorem el119 : elS prog 119 = some (118, 1, [.ptr none]) := by kernel_rfl
theorem ln119 {r : ARef} {m k : Nat} : lenOpA prog h 119 (.slice (some r) m k) = some (.int .i64 (m : Int)) := len_sl el119
theorem as119 {v f m k : Nat} {i : Int} (h0 : 0 ≤ i) (h1 : i < m) : indexAddrA prog 119 (.slice (some ⟨id, v, f⟩) m k) (.int .i64 i) = some (.ptr (some ⟨id, v, f + i.toNat * 1⟩)) := adr_sl el119 ar119 h0 h1
theorem un119 : prog.underlying 119 = some (.slice 118) := by kernel_rfl
theorem st119 {x : AVal} (hx : One x) : stP prog base h 119 (.ptr (some ⟨id, ver, o⟩)) x = (stQ base id (h[id]?) ver o [x] (fun b => h.set id b)).map fun h' => (undefA, h') := stP_one ty119 hx
theorem ty120 : tyA prog 120 = some (false, 1) := by kernel_rfl
theorem zc120 : zc prog 120 = some [.slice none 0 0] := by kernel_rfl
theorem ar120 : arT prog 120 = none := by kernel_rfl
theorem el120 : elS prog 120 = some (4, 1, [.bool false]) := by kernel_rfl
theorem ln120 {r : ARef} {m k : Nat} : lenOpA prog h 120 (.slice (some r) m k) = some (.int .i64 (m : Int)) := len_sl el120
theorem as120 {v f m k : Nat} {i : Int} (h0 : 0 ≤ i) (h1 : i < m) : indexAddrA prog 120 (.slice (some ⟨id, v, f⟩) m k) (.int .i64 i) = some (.ptr (some ⟨id, v, f + i.toNat * 1⟩)) := adr_sl el120 ar120 h0 h1
theorem un120 : prog.underlying 120 = some (.slice 4) := by kernel_rfl
theorem st120 {x : AVal} (hx : One x) : stP prog base h 120 (.ptr (some ⟨id, ver, o⟩)) x = (stQ base id (h[id]?) ver o [x] (fun b => h.set id b)).map fun h' => (undefA, h') := stP_one ty120 hx
theorem ty124 : tyA prog 124 = some (true, 3) := by kernel_rfl
theorem zc124 : zc prog 124 = some [.int .i64 0, .int .i64 0, .int .i64 0] := by kernel_rfl
theorem ar124 : arT prog 124 = none := by kernel_rfl
theorem el124 : elS prog 124 = none := by kernel_rfl
theorem pl124 : plcS prog 124 = some [(0, 1), (1, 1), (2, 1)] := by kernel_rfl
theorem fa124_0 : fieldAddrA prog 124 (.ptr (some ⟨id, ver, o⟩)) 0 = some (.ptr (some ⟨id, ver, o + 0⟩)) := fieldAddr_eq (q := false) (z := 1) (by kernel_rfl) (by decide)
theorem fi124_0 {x0 x1 x2 : AVal} : fieldA prog 124 (.agg [x0, x1, x2]) 0 = some (x0) := by
  have h : fld prog 124 0 = some (0, false, 1) := by kernel_rfl
  simp [fieldA, h, partQ]
theorem fa124_1 : fieldAddrA prog 124 (.ptr (some ⟨id, ver, o⟩)) 1 = some (.ptr (some ⟨id, ver, o + 1⟩)) := fieldAddr_eq (q := false) (z := 1) (by kernel_rfl) (by decide)
theorem fi124_1 {x0 x1 x2 : AVal} : fieldA prog 124 (.agg [x0, x1, x2]) 1 = some (x1) := by
  have h : fld prog 124 1 = some (1, false, 1) := by kernel_rfl
  simp [fieldA, h, partQ]
theorem fa124_2 : fieldAddrA prog 124 (.ptr (some ⟨id, ver, o⟩)) 2 = some (.ptr (some ⟨id, ver, o + 2⟩)) := fieldAddr_eq (q := false) (z := 1) (by kernel_rfl) (by decide)
theorem fi124_2 {x0 x1 x2 : AVal} : fieldA prog 124 (.agg [x0, x1, x2]) 2 = some (x2) := by
  have h : fld prog 124 2 = some (2, false, 1) := by kernel_rfl
  simp [fieldA, h, partQ]
theorem st124 {x0 x1 x2 : AVal} : stP prog base h 124 (.ptr (some ⟨id, ver, o⟩)) (.agg [x0, x1, x2]) = (stQ base id (h[id]?) ver o [x0, x1, x2] (fun b => h.set id b)).map fun h' => (undefA, h') := stP_ptr ty124 rfl
theorem ty126 : tyA prog 126 = some (true, 2) := by kernel_rfl
theorem zc126 : zc prog 126 = some [.int .i64 0, .slice none 0 0] := by kernel_rfl
theorem ar126 : arT prog 126 = none := by kernel_rfl
theorem el126 : elS prog 126 = none := by kernel_rfl
theorem pl126 : plcS prog 126 = some [(0, 2)] := by kernel_rfl
theorem fa126_0 : fieldAddrA prog 126 (.ptr (some ⟨id, ver, o⟩)) 0 = some (.ptr (some ⟨id, ver, o + 0⟩)) := fieldAddr_eq (q := true) (z := 2) (by kernel_rfl) (by decide)
theorem fi126_0 {x0 x1 : AVal} : fieldA prog 126 (.agg [x0, x1]) 0 = some (.agg [x0, x1]) := by
  have h : fld prog 126 0 = some (0, true, 2) := by kernel_rfl
  simp [fieldA, h, partQ]
theorem st126 {x0 x1 : AVal} : stP prog base h 126 (.ptr (some ⟨id, ver, o⟩)) (.agg [x0, x1]) = (stQ base id (h[id]?) ver o [x0, x1] (fun b => h.set id b)).map fun h' => (undefA, h') := stP_ptr ty126 rfl
theorem ty129 : tyA prog 129 = some (false, 1) := by kernel_rfl
theorem zc129 : zc prog 129 = some [.int .u64 0] := by kernel_rfl
theorem ar129 : arT prog 129 = none := by kernel_rfl
theorem el129 : elS prog 129 = none := by kernel_rfl
theorem ik129 : ikT prog 129 = some .u64 := by kernel_rfl
theorem st129 {x : AVal} (hx : One x) : stP prog base h 129 (.ptr (some ⟨id, ver, o⟩)) x = (stQ base id (h[id]?) ver o [x] (fun b => h.set id b)).map fun h' => (undefA, h') := stP_one ty129 hx
theorem ty131 : tyA prog 131 = some (true, 3) := by kernel_rfl
theorem zc131 : zc prog 131 = some [.slice none 0 0, .int .i64 0, .int .u64 0] := by kernel_rfl
theorem ar131 : arT prog 131 = none := by kernel_rfl
theorem el131 : elS prog 131 = none := by kernel_rfl
theorem pl131 : plcS prog 131 = some [(0, 1), (1, 1), (2, 1)] := by kernel_rfl
theorem fa131_0 : fieldAddrA prog 131 (.ptr (some ⟨id, ver, o⟩)) 0 = some (.ptr (some ⟨id, ver, o + 0⟩)) := fieldAddr_eq (q := false) (z := 1) (by kernel_rfl) (by decide)
theorem fi131_0 {x0 x1 x2 : AVal} : fieldA prog 131 (.agg [x0, x1, x2]) 0 = some (x0) := by
  have h : fld prog 131 0 = some (0, false, 1) := by kernel_rfl
  simp [fieldA, h, partQ]
theorem fa131_1 : fieldAddrA prog 131 (.ptr (some ⟨id, ver, o⟩)) 1 = some (.ptr (some ⟨id, ver, o + 1⟩)) := fieldAddr_eq (q := false) (z := 1) (by kernel_rfl) (by decide)
theorem fi131_1 {x0 x1 x2 : AVal} : fieldA prog 131 (.agg [x0, x1, x2]) 1 = some (x1) := by
  have h : fld prog 131 1 = some (1, false, 1) := by kernel_rfl
  simp [fieldA, h, partQ]
theorem fa131_2 : fieldAddrA prog 131 (.ptr (some ⟨id, ver, o⟩)) 2 = some (.ptr (some ⟨id, ver, o + 2⟩)) := fieldAddr_eq (q := false) (z := 1) (by kernel_rfl) (by decide)
theorem fi131_2 {x0 x1 x2 : AVal} : fieldA prog 131 (.agg [x0, x1, x2]) 2 = some (x2) := by
  have h : fld prog 131 2 = some (2, false, 1) := by kernel_rfl
  simp [fieldA, h, partQ]
theorem st131 {x0 x1 x2 : AVal} : stP prog base h 131 (.ptr (some ⟨id, ver, o⟩)) (.agg [x0, x1, x2]) = (stQ base id (h[id]?) ver o [x0, x1, x2] (fun b => h.set id b)).map fun h' => (undefA, h') := stP_ptr ty131 rfl
theorem ty135 : tyA prog 135 = some (false, 1) := by kernel_rfl
theorem zc135 : zc prog 135 = some [.nilFn] := by kernel_rfl
theorem ar135 : arT prog 135 = none := by kernel_rfl
theorem el135 : elS prog 135 = none := by kernel_rfl
theorem st135 {x : AVal} (hx : One x) : stP prog base h 135 (.ptr (some ⟨id, ver, o⟩)) x = (stQ base id (h[id]?) ver o [x] (fun b => h.set id b)).map fun h' => (undefA, h') := stP_one ty135 hx
theorem ty137 : tyA prog 137 = some (true, 1) := by kernel_rfl
theorem zc137 : zc prog 137 = some [.nilFn] := by kernel_rfl
theorem ar137 : arT prog 137 = none := by kernel_rfl
theorem el137 : elS prog 137 = none := by kernel_rfl
theorem pl137 : plcS prog 137 = some [(0, 1)] := by kernel_rfl
theorem fa137_0 : fieldAddrA prog 137 (.ptr (some ⟨id, ver, o⟩)) 0 = some (.ptr (some ⟨id, ver, o + 0⟩)) := fieldAddr_eq (q := false) (z := 1) (by kernel_rfl) (by decide)
theorem fi137_0 {x0 : AVal} : fieldA prog 137 (.agg [x0]) 0 = some (x0) := by
  have h : fld prog 137 0 = some (0, false, 1) := by kernel_rfl
  simp [fieldA, h, partQ]
theorem st137 {x0 : AVal} : stP prog base h 137 (.ptr (some ⟨id, ver, o⟩)) (.agg [x0]) = (stQ base id (h[id]?) ver o [x0] (fun b => h.set id b)).map fun h' => (undefA, h') := stP_ptr ty137 rfl
theorem ty139 : tyA prog 139 = some (false, 1) := by kernel_rfl
theorem zc139 : zc prog 139 = some [.slice none 0 0] := by kernel_rfl
theorem ar139 : arT prog 139 = none := by kernel_rfl
theorem el139 : elS prog 139 = some (34, 4, [.int .i64 0, .slice none 0 0, .int .i64 0, .int .i64 0]) := by kernel_rfl
theorem ln139 {r : ARef} {m k : Nat} : lenOpA prog h 139 (.slice (some r) m k) = some (.int .i64 (m : Int)) := len_sl el139
theorem as139 {v f m k : Nat} {i : Int} (h0 : 0 ≤ i) (h1 : i < m) : indexAddrA prog 139 (.slice (some ⟨id, v, f⟩) m k) (.int .i64 i) = some (.ptr (some ⟨id, v, f + i.toNat * 4⟩)) := adr_sl el139 ar139 h0 h1
theorem un139 : prog.underlying 139 = some (.slice 34) := by kernel_rfl
theorem st139 {x : AVal} (hx : One x) : stP prog base h 139 (.ptr (some ⟨id, ver, o⟩)) x = (stQ base id (h[id]?) ver o [x] (fun b => h.set id b)).map fun h' => (undefA, h') := stP_one ty139 hx
theorem ty141 : tyA prog 141 = some (false, 1) := by kernel_rfl
theorem zc141 : zc prog 141 = some [.map none] := by kernel_rfl
theorem ar141 : arT prog 141 = none := by kernel_rfl
theorem el141 : elS prog 141 = none := by kernel_rfl
theorem mp141 : mpT prog 141 = some (3, 22) := by kernel_rfl
theorem st141 {x : AVal} (hx : One x) : stP prog base h 141 (.ptr (some ⟨id, ver, o⟩)) x = (stQ base id (h[id]?) ver o [x] (fun b => h.set id b)).map fun h' => (undefA, h') := stP_one ty141 hx
theorem ty149 : tyA prog 149 = some (true, 48) := by kernel_rfl
theorem zc149 : zc prog 149 = some (ints (lst (fun _ => 0) 48)) := by kernel_rfl
theorem ar149 : arT prog 149 = some (48, false, 1) := by kernel_rfl
theorem ad149 {i : Int} (h0 : 0 ≤ i) (h1 : i < 48) : indexAddrA prog 149 (.ptr (some ⟨id, ver, o⟩)) (.int .i64 i) = some (.ptr (some ⟨id, ver, o + i.toNat * 1⟩)) := adr_arr ar149 h0 h1
theorem el149 : elS prog 149 = none := by kernel_rfl
theorem ty150 : tyA prog 150 = some (false, 1) := by kernel_rfl
theorem zc150 : zc prog 150 = some [.slice none 0 0] := by kernel_rfl
theorem ar150 : arT prog 150 = none := by kernel_rfl
theorem el150 : elS prog 150 = some (24, 2, [.int .i64 0, .slice none 0 0]) := by kernel_rfl
theorem ln150 {r : ARef} {m k : Nat} : lenOpA prog h 150 (.slice (some r) m k) = some (.int .i64 (m : Int)) := len_sl el150
theorem as150 {v f m k : Nat} {i : Int} (h0 : 0 ≤ i) (h1 : i < m) : indexAddrA prog 150 (.slice (some ⟨id, v, f⟩) m k) (.int .i64 i) = some (.ptr (some ⟨id, v, f + i.toNat * 2⟩)) := adr_sl el150 ar150 h0 h1
theorem un150 : prog.underlying 150 = some (.slice 24) := by kernel_rfl
theorem st150 {x : AVal} (hx : One x) : stP prog base h 150 (.ptr (some ⟨id, ver, o⟩)) x = (stQ base id (h[id]?) ver o [x] (fun b => h.set id b)).map fun h' => (undefA, h') := stP_one ty150 hx
theorem ty153 : tyA prog 153 = some (false, 1) := by kernel_rfl
theorem zc153 : zc prog 153 = some [.slice none 0 0] := by kernel_rfl
theorem ar153 : arT prog 153 = none := by kernel_rfl
theorem el153 : elS prog 153 = some (25, 1, [.int .i64 0]) := by kernel_rfl
theorem ln153 {r : ARef} {m k : Nat} : lenOpA prog h 153 (.slice (some r) m k) = some (.int .i64 (m : Int)) := len_sl el153
theorem as153 {v f m k : Nat} {i : Int} (h0 : 0 ≤ i) (h1 : i < m) : indexAddrA prog 153 (.slice (some ⟨id, v, f⟩) m k) (.int .i64 i) = some (.ptr (some ⟨id, v, f + i.toNat * 1⟩)) := adr_sl el153 ar153 h0 h1
theorem un153 : prog.underlying 153 = some (.slice 25) := by kernel_rfl
theorem st153 {x : AVal} (hx : One x) : stP prog base h 153 (.ptr (some ⟨id, ver, o⟩)) x = (stQ base id (h[id]?) ver o [x] (fun b => h.set id b)).map fun h' => (undefA, h') := stP_one ty153 hx
theorem bd24_  : buildA prog 24 [] = some (.agg [.int .i64 0, .slice none 0 0]) := by
  simp [buildA, zc24, pl24, fillA, splice, isN_agg, cells_agg]
theorem bd24_0 {y0 : AVal} (h0 : One y0) : buildA prog 24 [(0, y0)] = some (.agg [y0, .slice none 0 0]) := by
  simp [buildA, zc24, pl24, fillA, splice, isN_agg, cells_agg, h0.1, h0.2.1]
theorem bd24_01 {y0 y1 : AVal} (h0 : One y0) (h1 : One y1) : buildA prog 24 [(0, y0), (1, y1)] = some (.agg [y0, y1]) := by
  simp [buildA, zc24, pl24, fillA, splice, isN_agg, cells_agg, h0.1, h0.2.1, h1.1, h1.2.1]
theorem bd29_01 {y0 y1 : AVal} (h0 : One y0) (h1 : One y1) : buildA prog 29 [(0, y0), (1, y1)] = some (.agg [y0, y1]) := by
  simp [buildA, zc29, pl29, fillA, splice, isN_agg, cells_agg, h0.1, h0.2.1, h1.1, h1.2.1]
theorem bd34_  : buildA prog 34 [] = some (.agg [.int .i64 0, .slice none 0 0, .int .i64 0, .int .i64 0]) := by
  simp [buildA, zc34, pl34, fillA, splice, isN_agg, cells_agg]
theorem bd34_0 {y0 : AVal} (h0 : One y0) : buildA prog 34 [(0, y0)] = some (.agg [y0, .slice none 0 0, .int .i64 0, .int .i64 0]) := by
  simp [buildA, zc34, pl34, fillA, splice, isN_agg, cells_agg, h0.1, h0.2.1]
theorem bd34_0123 {y0 y1 y2 y3 : AVal} (h0 : One y0) (h1 : One y1) (h2 : One y2) (h3 : One y3) : buildA prog 34 [(0, y0), (1, y1), (2, y2), (3, y3)] = some (.agg [y0, y1, y2, y3]) := by
  simp [buildA, zc34, pl34, fillA, splice, isN_agg, cells_agg, h0.1, h0.2.1, h1.1, h1.2.1, h2.1, h2.2.1, h3.1, h3.2.1]
theorem bd34_02 {y0 y2 : AVal} (h0 : One y0) (h2 : One y2) : buildA prog 34 [(0, y0), (2, y2)] = some (.agg [y0, .slice none 0 0, y2, .int .i64 0]) := by
  simp [buildA, zc34, pl34, fillA, splice, isN_agg, cells_agg, h0.1, h0.2.1, h2.1, h2.2.1]
theorem bd40_0123 {y0 y1 y2 y3 : AVal} (h0 : One y0) (h1 : One y1) (h2 : One y2) (h3 : One y3) : buildA prog 40 [(0, y0), (1, y1), (2, y2), (3, y3)] = some (.agg [y0, y1, y2, y3]) := by
  simp [buildA, zc40, pl40, fillA, splice, isN_agg, cells_agg, h0.1, h0.2.1, h1.1, h1.2.1, h2.1, h2.2.1, h3.1, h3.2.1]
theorem bd82_  : buildA prog 82 [] = some (.agg [.int .i64 0, .int .i64 0, .int .i64 0, .bool false]) := by
  simp [buildA, zc82, pl82, fillA, splice, isN_agg, cells_agg]
theorem bd82_012 {y0 y1 y2 : AVal} (h0 : One y0) (h1 : One y1) (h2 : One y2) : buildA prog 82 [(0, y0), (1, y1), (2, y2)] = some (.agg [y0, y1, y2, .bool false]) := by
  simp [buildA, zc82, pl82, fillA, splice, isN_agg, cells_agg, h0.1, h0.2.1, h1.1, h1.2.1, h2.1, h2.2.1]
theorem bd82_0123 {y0 y1 y2 y3 : AVal} (h0 : One y0) (h1 : One y1) (h2 : One y2) (h3 : One y3) : buildA prog 82 [(0, y0), (1, y1), (2, y2), (3, y3)] = some (.agg [y0, y1, y2, y3]) := by
  simp [buildA, zc82, pl82, fillA, splice, isN_agg, cells_agg, h0.1, h0.2.1, h1.1, h1.2.1, h2.1, h2.2.1, h3.1, h3.2.1]
theorem bd82_2 {y2 : AVal} (h2 : One y2) : buildA prog 82 [(2, y2)] = some (.agg [.int .i64 0, .int .i64 0, y2, .bool false]) := by
  simp [buildA, zc82, pl82, fillA, splice, isN_agg, cells_agg, h2.1, h2.2.1]
theorem bd84_  : buildA prog 84 [] = some (.agg [.int .i64 0, .int .i64 0, .int .i64 0, .bool false]) := by
  simp [buildA, zc84, pl84, fillA, splice, isN_agg, cells_agg]
theorem bd84_0123 {y0 y1 y2 y3 : AVal} (h0 : One y0) (h1 : One y1) (h2 : One y2) (h3 : One y3) : buildA prog 84 [(0, y0), (1, y1), (2, y2), (3, y3)] = some (.agg [y0, y1, y2, y3]) := by
  simp [buildA, zc84, pl84, fillA, splice, isN_agg, cells_agg, h0.1, h0.2.1, h1.1, h1.2.1, h2.1, h2.2.1, h3.1, h3.2.1]
theorem bd124_  : buildA prog 124 [] = some (.agg [.int .i64 0, .int .i64 0, .int .i64 0]) := by
  simp [buildA, zc124, pl124, fillA, splice, isN_agg, cells_agg]
theorem bd124_012 {y0 y1 y2 : AVal} (h0 : One y0) (h1 : One y1) (h2 : One y2) : buildA prog 124 [(0, y0), (1, y1), (2, y2)] = some (.agg [y0, y1, y2]) := by
  simp [buildA, zc124, pl124, fillA, splice, isN_agg, cells_agg, h0.1, h0.2.1, h1.1, h1.2.1, h2.1, h2.2.1]
theorem bd126_0 {y0_0 y0_1 : AVal}  : buildA prog 126 [(0, .agg [y0_0, y0_1])] = some (.agg [y0_0, y0_1]) := by
  simp [buildA, zc126, pl126, fillA, splice, isN_agg, cells_agg]
theorem bd131_02 {y0 y2 : AVal} (h0 : One y0) (h2 : One y2) : buildA prog 131 [(0, y0), (2, y2)] = some (.agg [y0, .int .i64 0, y2]) := by
  simp [buildA, zc131, pl131, fillA, splice, isN_agg, cells_agg, h0.1, h0.2.1, h2.1, h2.2.1]
theorem bd137_0 {y0 : AVal} (h0 : One y0) : buildA prog 137 [(0, y0)] = some (.agg [y0]) := by
  simp [buildA, zc137, pl137, fillA, splice, isN_agg, cells_agg, h0.1, h0.2.1]
theorem eq82 {a0 : Int} {a1 : Int} {a2 : Int} {a3 : Bool} {b0 : Int} {b1 : Int} {b2 : Int} {b3 : Bool} : binA prog .eql 82 (.agg [.int .i64 a0, .int .i64 a1, .int .i64 a2, .bool a3]) (.agg [.int .i64 b0, .int .i64 b1, .int .i64 b2, .bool b3]) = some (.bool (decide (a0 = b0 ∧ a1 = b1 ∧ a2 = b2 ∧ a3 = b3))) := by
  have h1 : prog.eqGuardType prog.depth 82 = false := by kernel_rfl
  have s82 : prog.stoodInHeld 82 = false := by kernel_rfl
  simp [binA, eqDepth, eqT, partA, partQ, h1, s82, underlying3, ty3, underlying4, ty4, underlying82, ty82]
  by_cases e0 : a0 = b0 <;> by_cases e1 : a1 = b1 <;> by_cases e2 : a2 = b2 <;> by_cases e3 : a3 = b3 <;> simp [e0, e1, e2, e3]
theorem ne82 {a0 : Int} {a1 : Int} {a2 : Int} {a3 : Bool} {b0 : Int} {b1 : Int} {b2 : Int} {b3 : Bool} : binA prog .neq 82 (.agg [.int .i64 a0, .int .i64 a1, .int .i64 a2, .bool a3]) (.agg [.int .i64 b0, .int .i64 b1, .int .i64 b2, .bool b3]) = some (.bool (decide (¬ (a0 = b0 ∧ a1 = b1 ∧ a2 = b2 ∧ a3 = b3)))) := by
  have h := eq82 (a0 := a0) (a1 := a1) (a2 := a2) (a3 := a3) (b0 := b0) (b1 := b1) (b2 := b2) (b3 := b3)
  simp only [binA, isShift] at h ⊢
  split at h
  · cases h
  · rename_i hg
    rw [if_neg hg]
    cases hq : eqT prog eqDepth 82 (.agg [.int .i64 a0, .int .i64 a1, .int .i64 a2, .bool a3]) (.agg [.int .i64 b0, .int .i64 b1, .int .i64 b2, .bool b3]) with
    | none => rw [hq] at h; cases h
    | some r => rw [hq] at h; simp only [Option.map_some, Option.some.injEq, AVal.bool.injEq] at h ⊢; rw [h]; simp
theorem eq84 {a0 : Int} {a1 : Int} {a2 : Int} {a3 : Bool} {b0 : Int} {b1 : Int} {b2 : Int} {b3 : Bool} : binA prog .eql 84 (.agg [.int .i64 a0, .int .i64 a1, .int .i64 a2, .bool a3]) (.agg [.int .i64 b0, .int .i64 b1, .int .i64 b2, .bool b3]) = some (.bool (decide (a0 = b0 ∧ a1 = b1 ∧ a2 = b2 ∧ a3 = b3))) := by
  have h1 : prog.eqGuardType prog.depth 84 = false := by kernel_rfl
  have s84 : prog.stoodInHeld 84 = false := by kernel_rfl
  simp [binA, eqDepth, eqT, partA, partQ, h1, s84, underlying3, ty3, underlying4, ty4, underlying84, ty84]
  by_cases e0 : a0 = b0 <;> by_cases e1 : a1 = b1 <;> by_cases e2 : a2 = b2 <;> by_cases e3 : a3 = b3 <;> simp [e0, e1, e2, e3]
theorem ne84 {a0 : Int} {a1 : Int} {a2 : Int} {a3 : Bool} {b0 : Int} {b1 : Int} {b2 : Int} {b3 : Bool} : binA prog .neq 84 (.agg [.int .i64 a0, .int .i64 a1, .int .i64 a2, .bool a3]) (.agg [.int .i64 b0, .int .i64 b1, .int .i64 b2, .bool b3]) = some (.bool (decide (¬ (a0 = b0 ∧ a1 = b1 ∧ a2 = b2 ∧ a3 = b3)))) := by
  have h := eq84 (a0 := a0) (a1 := a1) (a2 := a2) (a3 := a3) (b0 := b0) (b1 := b1) (b2 := b2) (b3 := b3)
  simp only [binA, isShift] at h ⊢
  split at h
  · cases h
  · rename_i hg
    rw [if_neg hg]
    cases hq : eqT prog eqDepth 84 (.agg [.int .i64 a0, .int .i64 a1, .int .i64 a2, .bool a3]) (.agg [.int .i64 b0, .int .i64 b1, .int .i64 b2, .bool b3]) with
    | none => rw [hq] at h; cases h
    | some r => rw [hq] at h; simp only [Option.map_some, Option.some.injEq, AVal.bool.injEq] at h ⊢; rw [h]; simp
theorem eq124 {a0 : Int} {a1 : Int} {a2 : Int} {b0 : Int} {b1 : Int} {b2 : Int} : binA prog .eql 124 (.agg [.int .i64 a0, .int .i64 a1, .int .i64 a2]) (.agg [.int .i64 b0, .int .i64 b1, .int .i64 b2]) = some (.bool (decide (a0 = b0 ∧ a1 = b1 ∧ a2 = b2))) := by
  have h1 : prog.eqGuardType prog.depth 124 = false := by kernel_rfl
  have s124 : prog.stoodInHeld 124 = false := by kernel_rfl
  simp [binA, eqDepth, eqT, partA, partQ, h1, s124, underlying3, ty3, underlying25, ty25, underlying124, ty124]
  by_cases e0 : a0 = b0 <;> by_cases e1 : a1 = b1 <;> by_cases e2 : a2 = b2 <;> simp [e0, e1, e2]
theorem ne124 {a0 : Int} {a1 : Int} {a2 : Int} {b0 : Int} {b1 : Int} {b2 : Int} : binA prog .neq 124 (.agg [.int .i64 a0, .int .i64 a1, .int .i64 a2]) (.agg [.int .i64 b0, .int .i64 b1, .int .i64 b2]) = some (.bool (decide (¬ (a0 = b0 ∧ a1 = b1 ∧ a2 = b2)))) := by
  have h := eq124 (a0 := a0) (a1 := a1) (a2 := a2) (b0 := b0) (b1 := b1) (b2 := b2)
  simp only [binA, isShift] at h ⊢
  split at h
  · cases h
  · rename_i hg
    rw [if_neg hg]
    cases hq : eqT prog eqDepth 124 (.agg [.int .i64 a0, .int .i64 a1, .int .i64 a2]) (.agg [.int .i64 b0, .int .i64 b1, .int .i64 b2]) with
    | none => rw [hq] at h; cases h
    | some r => rw [hq] at h; simp only [Option.map_some, Option.some.injEq, AVal.bool.injEq] at h ⊢; rw [h]; simp
end
attribute [go_sem] ty1 zc1 ar1 el1 st1 ty3 zc3 ar3 el3 st3 ty4 zc4 ar4 el4 st4 ty5 zc5 ar5 el5 st5 ty22 zc22 ar22 el22 st22 ty24 zc24 ar24 el24 fa24_0 fi24_0 fa24_1 fi24_1 st24 ty25 zc25 ar25 el25 st25 ty29 zc29 ar29 el29 fa29_0 fi29_0 fa29_1 fi29_1 st29 ty31 zc31 ar31 el31 st31 ty34 zc34 ar34 el34 fa34_0 fi34_0 fa34_1 fi34_1 fa34_2 fi34_2 fa34_3 fi34_3 st34 ty40 zc40 ar40 el40 fa40_0 fi40_0 fa40_1 fi40_1 fa40_2 fi40_2 fa40_3 fi40_3 st40 ty47 zc47 ar47 el47 ln47 as47 st47 ty82 zc82 ar82 el82 fa82_0 fi82_0 fa82_1 fi82_1 fa82_2 fi82_2 fa82_3 fi82_3 st82 ty84 zc84 ar84 el84 fa84_0 fi84_0 fa84_1 fi84_1 fa84_2 fi84_2 fa84_3 fi84_3 st84 ty107 zc107 ar107 el107 st107 ty115 zc115 ar115 el115 ln115 as115 st115 ty118 zc118 ar118 el118 st118 ty119 zc119 ar119 el119 ln119 as119 st119 ty120 zc120 ar120 el120 ln120 as120 st120 ty124 zc124 ar124 el124 fa124_0 fi124_0 fa124_1 fi124_1 fa124_2 fi124_2 st124 ty126 zc126 ar126 el126 fa126_0 fi126_0 st126 ty129 zc129 ar129 el129 st129 ty131 zc131 ar131 el131 fa131_0 fi131_0 fa131_1 fi131_1 fa131_2 fi131_2 st131 ty135 zc135 ar135 el135 st135 ty137 zc137 ar137 el137 fa137_0 fi137_0 st137 ty139 zc139 ar139 el139 ln139 as139 st139 ty141 zc141 ar141 el141 mp141 st141 ty149 zc149 ar149 ad149 el149 ty150 zc150 ar150 el150 ln150 as150 st150 ty153 zc153 ar153 el153 ln153 as153 st153 bd24_ bd24_0 bd24_01 bd29_01 bd34_ bd34_0 bd34_0123 bd34_02 bd40_0123 bd82_ bd82_012 bd82_0123 bd82_2 bd84_ bd84_0123 bd124_ bd124_012 bd126_0 bd131_02 bd137_0 eq82 ne82 eq84 ne84 eq124 ne124
attribute [go_sem] results3 results4 results5 results6 results7 results8 results9 results10 results11 results12 results13 results14 results15 results16 results17 results18 results19 results20 results21 results22 results23 results24 results25 results26 results27 results28 results29 results30 results31 results32 results33 results34 results35 results36 results37 results38 results39 results40 results41 results42 results43 results44 results45 results46 results47 results48 results49 results50 results51 results52 results53 results54 results55 results56 results57 results58 results59 results60 results61 results62 results63 results64 results65 results66 results67 results68 results69 results70 results71 results72 results73 results74 results75 results76 results77 results78 results79 results80 results81 results82 results83 results84 results85 results86 results87 results88 results89 results90 results91 results92 results93 results94 results95 results96 results97 results98 results99 results100 results101 results102 results103 results104 results105 results106 results107 results108 results109 results110 results111 results112 results113 results114 results115 results116 results117 results118 results119
end Go.AM.Fc
