/-
  Facts of the types of one translation, by program (wip/tools/facts.py).
-/
import Derived.Test.YtlhmeoeamcgcmaaA6
import Derived.Test.YtlhmeoeamcgcmaaProg
import Derived.KernelRfl
import Derived.Test.YtlhmeoeamcgcmaaA8
set_option linter.unusedSimpArgs false
set_option linter.unusedVariables false
namespace Go.AM.Fc
open Go.Proofs.Try
section
variable {id ver o : Nat} {h : Heap} {base : Nat}
theorem ty3 : tyA prog 3 = some (false, 1) := by kernel_rfl
theorem zc3 : zc prog 3 = some [.int .i64 0] := by kernel_rfl
theorem ar3 : arT prog 3 = none := by kernel_rfl
theorem el3 : elS prog 3 = none := by kernel_rfl
theorem ik3 : ikT prog 3 = some .i64 := by kernel_rfl
theorem st3 {x : AVal} (hx : One x) : stP prog base h 3 (.ptr (some ⟨id, ver, o⟩)) x = (stQ base id (h[id]?) ver o [x] (fun b => h.set id b)).map fun h' => (undefA, h') := stP_one ty3 hx
theorem ty4 : tyA prog 4 = some (false, 1) := by kernel_rfl
theorem zc4 : zc prog 4 = some [.bool false] := by kernel_rfl
theorem ar4 : arT prog 4 = none := by kernel_rfl
theorem el4 : elS prog 4 = none := by kernel_rfl
theorem st4 {x : AVal} (hx : One x) : stP prog base h 4 (.ptr (some ⟨id, ver, o⟩)) x = (stQ base id (h[id]?) ver o [x] (fun b => h.set id b)).map fun h' => (undefA, h') := stP_one ty4 hx
theorem ty5 : tyA prog 5 = some (false, 1) := by kernel_rfl
theorem zc5 : zc prog 5 = some [.int .u8 0] := by kernel_rfl
theorem ar5 : arT prog 5 = none := by kernel_rfl
theorem el5 : elS prog 5 = none := by kernel_rfl
theorem ik5 : ikT prog 5 = some .u8 := by kernel_rfl
theorem st5 {x : AVal} (hx : One x) : stP prog base h 5 (.ptr (some ⟨id, ver, o⟩)) x = (stQ base id (h[id]?) ver o [x] (fun b => h.set id b)).map fun h' => (undefA, h') := stP_one ty5 hx
theorem ty22 : tyA prog 22 = some (false, 1) := by kernel_rfl
theorem zc22 : zc prog 22 = some [.slice none 0 0] := by kernel_rfl
theorem ar22 : arT prog 22 = none := by kernel_rfl
theorem el22 : elS prog 22 = some (5, 1, [.int .u8 0]) := by kernel_rfl
theorem ln22 {r : ARef} {m k : Nat} : lenOpA prog h 22 (.slice (some r) m k) = some (.int .i64 (m : Int)) := len_sl el22
theorem as22 {v f m k : Nat} {i : Int} (h0 : 0 ≤ i) (h1 : i < m) : indexAddrA prog 22 (.slice (some ⟨id, v, f⟩) m k) (.int .i64 i) = some (.ptr (some ⟨id, v, f + i.toNat * 1⟩)) := adr_sl el22 ar22 h0 h1
theorem un22 : prog.underlying 22 = some (.slice 5) := by kernel_rfl
theorem st22 {x : AVal} (hx : One x) : stP prog base h 22 (.ptr (some ⟨id, ver, o⟩)) x = (stQ base id (h[id]?) ver o [x] (fun b => h.set id b)).map fun h' => (undefA, h') := stP_one ty22 hx
theorem ty23 : tyA prog 23 = some (false, 1) := by kernel_rfl
theorem zc23 : zc prog 23 = some [.slice none 0 0] := by kernel_rfl
theorem ar23 : arT prog 23 = none := by kernel_rfl
theorem el23 : elS prog 23 = some (55, 4, [.slice none 0 0, .int .i64 0, .int .i64 0, .bool false]) := by kernel_rfl
theorem ln23 {r : ARef} {m k : Nat} : lenOpA prog h 23 (.slice (some r) m k) = some (.int .i64 (m : Int)) := len_sl el23
theorem as23 {v f m k : Nat} {i : Int} (h0 : 0 ≤ i) (h1 : i < m) : indexAddrA prog 23 (.slice (some ⟨id, v, f⟩) m k) (.int .i64 i) = some (.ptr (some ⟨id, v, f + i.toNat * 4⟩)) := adr_sl el23 ar23 h0 h1
theorem un23 : prog.underlying 23 = some (.slice 55) := by kernel_rfl
theorem st23 {x : AVal} (hx : One x) : stP prog base h 23 (.ptr (some ⟨id, ver, o⟩)) x = (stQ base id (h[id]?) ver o [x] (fun b => h.set id b)).map fun h' => (undefA, h') := stP_one ty23 hx
theorem ty24 : tyA prog 24 = some (false, 1) := by kernel_rfl
theorem zc24 : zc prog 24 = some [.slice none 0 0] := by kernel_rfl
theorem ar24 : arT prog 24 = none := by kernel_rfl
theorem el24 : elS prog 24 = some (39, 4, [.int .i64 0, .int .i64 0, .int .i64 0, .bool false]) := by kernel_rfl
theorem ln24 {r : ARef} {m k : Nat} : lenOpA prog h 24 (.slice (some r) m k) = some (.int .i64 (m : Int)) := len_sl el24
theorem as24 {v f m k : Nat} {i : Int} (h0 : 0 ≤ i) (h1 : i < m) : indexAddrA prog 24 (.slice (some ⟨id, v, f⟩) m k) (.int .i64 i) = some (.ptr (some ⟨id, v, f + i.toNat * 4⟩)) := adr_sl el24 ar24 h0 h1
theorem un24 : prog.underlying 24 = some (.slice 39) := by kernel_rfl
theorem st24 {x : AVal} (hx : One x) : stP prog base h 24 (.ptr (some ⟨id, ver, o⟩)) x = (stQ base id (h[id]?) ver o [x] (fun b => h.set id b)).map fun h' => (undefA, h') := stP_one ty24 hx
theorem ty26 : tyA prog 26 = some (true, 4) := by kernel_rfl
theorem zc26 : zc prog 26 = some [.int .i64 0, .int .i64 0, .slice none 0 0, .slice none 0 0] := by kernel_rfl
theorem ar26 : arT prog 26 = none := by kernel_rfl
theorem el26 : elS prog 26 = none := by kernel_rfl
theorem pl26 : plcS prog 26 = some [(0, 1), (1, 1), (2, 1), (3, 1)] := by kernel_rfl
theorem fa26_0 : fieldAddrA prog 26 (.ptr (some ⟨id, ver, o⟩)) 0 = some (.ptr (some ⟨id, ver, o + 0⟩)) := fieldAddr_eq (q := false) (z := 1) (by kernel_rfl) (by decide)
theorem fi26_0 {x0 x1 x2 x3 : AVal} : fieldA prog 26 (.agg [x0, x1, x2, x3]) 0 = some (x0) := by
  have h : fld prog 26 0 = some (0, false, 1) := by kernel_rfl
  simp [fieldA, h, partQ]
theorem fa26_1 : fieldAddrA prog 26 (.ptr (some ⟨id, ver, o⟩)) 1 = some (.ptr (some ⟨id, ver, o + 1⟩)) := fieldAddr_eq (q := false) (z := 1) (by kernel_rfl) (by decide)
theorem fi26_1 {x0 x1 x2 x3 : AVal} : fieldA prog 26 (.agg [x0, x1, x2, x3]) 1 = some (x1) := by
  have h : fld prog 26 1 = some (1, false, 1) := by kernel_rfl
  simp [fieldA, h, partQ]
theorem fa26_2 : fieldAddrA prog 26 (.ptr (some ⟨id, ver, o⟩)) 2 = some (.ptr (some ⟨id, ver, o + 2⟩)) := fieldAddr_eq (q := false) (z := 1) (by kernel_rfl) (by decide)
theorem fi26_2 {x0 x1 x2 x3 : AVal} : fieldA prog 26 (.agg [x0, x1, x2, x3]) 2 = some (x2) := by
  have h : fld prog 26 2 = some (2, false, 1) := by kernel_rfl
  simp [fieldA, h, partQ]
theorem fa26_3 : fieldAddrA prog 26 (.ptr (some ⟨id, ver, o⟩)) 3 = some (.ptr (some ⟨id, ver, o + 3⟩)) := fieldAddr_eq (q := false) (z := 1) (by kernel_rfl) (by decide)
theorem fi26_3 {x0 x1 x2 x3 : AVal} : fieldA prog 26 (.agg [x0, x1, x2, x3]) 3 = some (x3) := by
  have h : fld prog 26 3 = some (3, false, 1) := by kernel_rfl
  simp [fieldA, h, partQ]
theorem st26 {x0 x1 x2 x3 : AVal} : stP prog base h 26 (.ptr (some ⟨id, ver, o⟩)) (.agg [x0, x1, x2, x3]) = (stQ base id (h[id]?) ver o [x0, x1, x2, x3] (fun b => h.set id b)).map fun h' => (undefA, h') := stP_ptr ty26 rfl
theorem ty27 : tyA prog 27 = some (false, 1) := by kernel_rfl
theorem zc27 : zc prog 27 = some [.slice none 0 0] := by kernel_rfl
theorem ar27 : arT prog 27 = none := by kernel_rfl
theorem el27 : elS prog 27 = some (61, 3, [.int .i64 0, .int .i64 0, .int .i64 0]) := by kernel_rfl
theorem ln27 {r : ARef} {m k : Nat} : lenOpA prog h 27 (.slice (some r) m k) = some (.int .i64 (m : Int)) := len_sl el27
theorem as27 {v f m k : Nat} {i : Int} (h0 : 0 ≤ i) (h1 : i < m) : indexAddrA prog 27 (.slice (some ⟨id, v, f⟩) m k) (.int .i64 i) = some (.ptr (some ⟨id, v, f + i.toNat * 3⟩)) := adr_sl el27 ar27 h0 h1
theorem un27 : prog.underlying 27 = some (.slice 61) := by kernel_rfl
theorem st27 {x : AVal} (hx : One x) : stP prog base h 27 (.ptr (some ⟨id, ver, o⟩)) x = (stQ base id (h[id]?) ver o [x] (fun b => h.set id b)).map fun h' => (undefA, h') := stP_one ty27 hx
theorem ty32 : tyA prog 32 = some (false, 1) := by kernel_rfl
theorem zc32 : zc prog 32 = some [.slice none 0 0] := by kernel_rfl
theorem ar32 : arT prog 32 = none := by kernel_rfl
theorem el32 : elS prog 32 = some (3, 1, [.int .i64 0]) := by kernel_rfl
theorem ln32 {r : ARef} {m k : Nat} : lenOpA prog h 32 (.slice (some r) m k) = some (.int .i64 (m : Int)) := len_sl el32
theorem as32 {v f m k : Nat} {i : Int} (h0 : 0 ≤ i) (h1 : i < m) : indexAddrA prog 32 (.slice (some ⟨id, v, f⟩) m k) (.int .i64 i) = some (.ptr (some ⟨id, v, f + i.toNat * 1⟩)) := adr_sl el32 ar32 h0 h1
theorem un32 : prog.underlying 32 = some (.slice 3) := by kernel_rfl
theorem st32 {x : AVal} (hx : One x) : stP prog base h 32 (.ptr (some ⟨id, ver, o⟩)) x = (stQ base id (h[id]?) ver o [x] (fun b => h.set id b)).map fun h' => (undefA, h') := stP_one ty32 hx
theorem ty33 : tyA prog 33 = some (false, 1) := by kernel_rfl
theorem zc33 : zc prog 33 = some [.int .i64 0] := by kernel_rfl
theorem ar33 : arT prog 33 = none := by kernel_rfl
theorem el33 : elS prog 33 = none := by kernel_rfl
theorem ik33 : ikT prog 33 = some .i64 := by kernel_rfl
theorem st33 {x : AVal} (hx : One x) : stP prog base h 33 (.ptr (some ⟨id, ver, o⟩)) x = (stQ base id (h[id]?) ver o [x] (fun b => h.set id b)).map fun h' => (undefA, h') := stP_one ty33 hx
theorem ty37 : tyA prog 37 = some (true, 2) := by kernel_rfl
theorem zc37 : zc prog 37 = some [.int .i64 0, .int .i64 0] := by kernel_rfl
theorem ar37 : arT prog 37 = none := by kernel_rfl
theorem el37 : elS prog 37 = none := by kernel_rfl
theorem pl37 : plcS prog 37 = some [(0, 1), (1, 1)] := by kernel_rfl
theorem fa37_0 : fieldAddrA prog 37 (.ptr (some ⟨id, ver, o⟩)) 0 = some (.ptr (some ⟨id, ver, o + 0⟩)) := fieldAddr_eq (q := false) (z := 1) (by kernel_rfl) (by decide)
theorem fi37_0 {x0 x1 : AVal} : fieldA prog 37 (.agg [x0, x1]) 0 = some (x0) := by
  have h : fld prog 37 0 = some (0, false, 1) := by kernel_rfl
  simp [fieldA, h, partQ]
theorem fa37_1 : fieldAddrA prog 37 (.ptr (some ⟨id, ver, o⟩)) 1 = some (.ptr (some ⟨id, ver, o + 1⟩)) := fieldAddr_eq (q := false) (z := 1) (by kernel_rfl) (by decide)
theorem fi37_1 {x0 x1 : AVal} : fieldA prog 37 (.agg [x0, x1]) 1 = some (x1) := by
  have h : fld prog 37 1 = some (1, false, 1) := by kernel_rfl
  simp [fieldA, h, partQ]
theorem st37 {x0 x1 : AVal} : stP prog base h 37 (.ptr (some ⟨id, ver, o⟩)) (.agg [x0, x1]) = (stQ base id (h[id]?) ver o [x0, x1] (fun b => h.set id b)).map fun h' => (undefA, h') := stP_ptr ty37 rfl
theorem ty39 : tyA prog 39 = some (true, 4) := by kernel_rfl
theorem zc39 : zc prog 39 = some [.int .i64 0, .int .i64 0, .int .i64 0, .bool false] := by kernel_rfl
theorem ar39 : arT prog 39 = none := by kernel_rfl
theorem el39 : elS prog 39 = none := by kernel_rfl
theorem pl39 : plcS prog 39 = some [(0, 1), (1, 2), (3, 1)] := by kernel_rfl
theorem fa39_0 : fieldAddrA prog 39 (.ptr (some ⟨id, ver, o⟩)) 0 = some (.ptr (some ⟨id, ver, o + 0⟩)) := fieldAddr_eq (q := false) (z := 1) (by kernel_rfl) (by decide)
theorem fi39_0 {x0 x1 x2 x3 : AVal} : fieldA prog 39 (.agg [x0, x1, x2, x3]) 0 = some (x0) := by
  have h : fld prog 39 0 = some (0, false, 1) := by kernel_rfl
  simp [fieldA, h, partQ]
theorem fa39_1 : fieldAddrA prog 39 (.ptr (some ⟨id, ver, o⟩)) 1 = some (.ptr (some ⟨id, ver, o + 1⟩)) := fieldAddr_eq (q := true) (z := 2) (by kernel_rfl) (by decide)
theorem fi39_1 {x0 x1 x2 x3 : AVal} : fieldA prog 39 (.agg [x0, x1, x2, x3]) 1 = some (.agg [x1, x2]) := by
  have h : fld prog 39 1 = some (1, true, 2) := by kernel_rfl
  simp [fieldA, h, partQ]
theorem fa39_2 : fieldAddrA prog 39 (.ptr (some ⟨id, ver, o⟩)) 2 = some (.ptr (some ⟨id, ver, o + 3⟩)) := fieldAddr_eq (q := false) (z := 1) (by kernel_rfl) (by decide)
theorem fi39_2 {x0 x1 x2 x3 : AVal} : fieldA prog 39 (.agg [x0, x1, x2, x3]) 2 = some (x3) := by
  have h : fld prog 39 2 = some (3, false, 1) := by kernel_rfl
  simp [fieldA, h, partQ]
theorem st39 {x0 x1 x2 x3 : AVal} : stP prog base h 39 (.ptr (some ⟨id, ver, o⟩)) (.agg [x0, x1, x2, x3]) = (stQ base id (h[id]?) ver o [x0, x1, x2, x3] (fun b => h.set id b)).map fun h' => (undefA, h') := stP_ptr ty39 rfl
theorem ty47 : tyA prog 47 = some (false, 1) := by kernel_rfl
theorem zc47 : zc prog 47 = some [.nilFn] := by kernel_rfl
theorem ar47 : arT prog 47 = none := by kernel_rfl
theorem el47 : elS prog 47 = none := by kernel_rfl
theorem st47 {x : AVal} (hx : One x) : stP prog base h 47 (.ptr (some ⟨id, ver, o⟩)) x = (stQ base id (h[id]?) ver o [x] (fun b => h.set id b)).map fun h' => (undefA, h') := stP_one ty47 hx
theorem ty53 : tyA prog 53 = some (false, 1) := by kernel_rfl
theorem zc53 : zc prog 53 = some [.slice none 0 0] := by kernel_rfl
theorem ar53 : arT prog 53 = none := by kernel_rfl
theorem el53 : elS prog 53 = some (27, 1, [.slice none 0 0]) := by kernel_rfl
theorem ln53 {r : ARef} {m k : Nat} : lenOpA prog h 53 (.slice (some r) m k) = some (.int .i64 (m : Int)) := len_sl el53
theorem as53 {v f m k : Nat} {i : Int} (h0 : 0 ≤ i) (h1 : i < m) : indexAddrA prog 53 (.slice (some ⟨id, v, f⟩) m k) (.int .i64 i) = some (.ptr (some ⟨id, v, f + i.toNat * 1⟩)) := adr_sl el53 ar53 h0 h1
theorem un53 : prog.underlying 53 = some (.slice 27) := by kernel_rfl
theorem st53 {x : AVal} (hx : One x) : stP prog base h 53 (.ptr (some ⟨id, ver, o⟩)) x = (stQ base id (h[id]?) ver o [x] (fun b => h.set id b)).map fun h' => (undefA, h') := stP_one ty53 hx
theorem ty55 : tyA prog 55 = some (true, 4) := by kernel_rfl
theorem zc55 : zc prog 55 = some [.slice none 0 0, .int .i64 0, .int .i64 0, .bool false] := by kernel_rfl
theorem ar55 : arT prog 55 = none := by kernel_rfl
theorem el55 : elS prog 55 = none := by kernel_rfl
theorem pl55 : plcS prog 55 = some [(0, 1), (1, 1), (2, 1), (3, 1)] := by kernel_rfl
theorem fa55_0 : fieldAddrA prog 55 (.ptr (some ⟨id, ver, o⟩)) 0 = some (.ptr (some ⟨id, ver, o + 0⟩)) := fieldAddr_eq (q := false) (z := 1) (by kernel_rfl) (by decide)
theorem fi55_0 {x0 x1 x2 x3 : AVal} : fieldA prog 55 (.agg [x0, x1, x2, x3]) 0 = some (x0) := by
  have h : fld prog 55 0 = some (0, false, 1) := by kernel_rfl
  simp [fieldA, h, partQ]
theorem fa55_1 : fieldAddrA prog 55 (.ptr (some ⟨id, ver, o⟩)) 1 = some (.ptr (some ⟨id, ver, o + 1⟩)) := fieldAddr_eq (q := false) (z := 1) (by kernel_rfl) (by decide)
theorem fi55_1 {x0 x1 x2 x3 : AVal} : fieldA prog 55 (.agg [x0, x1, x2, x3]) 1 = some (x1) := by
  have h : fld prog 55 1 = some (1, false, 1) := by kernel_rfl
  simp [fieldA, h, partQ]
theorem fa55_2 : fieldAddrA prog 55 (.ptr (some ⟨id, ver, o⟩)) 2 = some (.ptr (some ⟨id, ver, o + 2⟩)) := fieldAddr_eq (q := false) (z := 1) (by kernel_rfl) (by decide)
theorem fi55_2 {x0 x1 x2 x3 : AVal} : fieldA prog 55 (.agg [x0, x1, x2, x3]) 2 = some (x2) := by
  have h : fld prog 55 2 = some (2, false, 1) := by kernel_rfl
  simp [fieldA, h, partQ]
theorem fa55_3 : fieldAddrA prog 55 (.ptr (some ⟨id, ver, o⟩)) 3 = some (.ptr (some ⟨id, ver, o + 3⟩)) := fieldAddr_eq (q := false) (z := 1) (by kernel_rfl) (by decide)
theorem fi55_3 {x0 x1 x2 x3 : AVal} : fieldA prog 55 (.agg [x0, x1, x2, x3]) 3 = some (x3) := by
  have h : fld prog 55 3 = some (3, false, 1) := by kernel_rfl
  simp [fieldA, h, partQ]
theorem st55 {x0 x1 x2 x3 : AVal} : stP prog base h 55 (.ptr (some ⟨id, ver, o⟩)) (.agg [x0, x1, x2, x3]) = (stQ base id (h[id]?) ver o [x0, x1, x2, x3] (fun b => h.set id b)).map fun h' => (undefA, h') := stP_ptr ty55 rfl
theorem ty57 : tyA prog 57 = some (false, 1) := by kernel_rfl
theorem zc57 : zc prog 57 = some [.nilFn] := by kernel_rfl
theorem ar57 : arT prog 57 = none := by kernel_rfl
theorem el57 : elS prog 57 = none := by kernel_rfl
theorem st57 {x : AVal} (hx : One x) : stP prog base h 57 (.ptr (some ⟨id, ver, o⟩)) x = (stQ base id (h[id]?) ver o [x] (fun b => h.set id b)).map fun h' => (undefA, h') := stP_one ty57 hx
theorem ty61 : tyA prog 61 = some (true, 3) := by kernel_rfl
theorem zc61 : zc prog 61 = some [.int .i64 0, .int .i64 0, .int .i64 0] := by kernel_rfl
theorem ar61 : arT prog 61 = none := by kernel_rfl
theorem el61 : elS prog 61 = none := by kernel_rfl
theorem pl61 : plcS prog 61 = some [(0, 1), (1, 1), (2, 1)] := by kernel_rfl
theorem fa61_0 : fieldAddrA prog 61 (.ptr (some ⟨id, ver, o⟩)) 0 = some (.ptr (some ⟨id, ver, o + 0⟩)) := fieldAddr_eq (q := false) (z := 1) (by kernel_rfl) (by decide)
theorem fi61_0 {x0 x1 x2 : AVal} : fieldA prog 61 (.agg [x0, x1, x2]) 0 = some (x0) := by
  have h : fld prog 61 0 = some (0, false, 1) := by kernel_rfl
  simp [fieldA, h, partQ]
theorem fa61_1 : fieldAddrA prog 61 (.ptr (some ⟨id, ver, o⟩)) 1 = some (.ptr (some ⟨id, ver, o + 1⟩)) := fieldAddr_eq (q := false) (z := 1) (by kernel_rfl) (by decide)
theorem fi61_1 {x0 x1 x2 : AVal} : fieldA prog 61 (.agg [x0, x1, x2]) 1 = some (x1) := by
  have h : fld prog 61 1 = some (1, false, 1) := by kernel_rfl
  simp [fieldA, h, partQ]
theorem fa61_2 : fieldAddrA prog 61 (.ptr (some ⟨id, ver, o⟩)) 2 = some (.ptr (some ⟨id, ver, o + 2⟩)) := fieldAddr_eq (q := false) (z := 1) (by kernel_rfl) (by decide)
theorem fi61_2 {x0 x1 x2 : AVal} : fieldA prog 61 (.agg [x0, x1, x2]) 2 = some (x2) := by
  have h : fld prog 61 2 = some (2, false, 1) := by kernel_rfl
  simp [fieldA, h, partQ]
theorem st61 {x0 x1 x2 : AVal} : stP prog base h 61 (.ptr (some ⟨id, ver, o⟩)) (.agg [x0, x1, x2]) = (stQ base id (h[id]?) ver o [x0, x1, x2] (fun b => h.set id b)).map fun h' => (undefA, h') := stP_ptr ty61 rfl
theorem ty74 : tyA prog 74 = some (false, 1) := by kernel_rfl
theorem zc74 : zc prog 74 = some [.nilFn] := by kernel_rfl
theorem ar74 : arT prog 74 = none := by kernel_rfl
theorem el74 : elS prog 74 = none := by kernel_rfl
theorem st74 {x : AVal} (hx : One x) : stP prog base h 74 (.ptr (some ⟨id, ver, o⟩)) x = (stQ base id (h[id]?) ver o [x] (fun b => h.set id b)).map fun h' => (undefA, h') := stP_one ty74 hx
theorem ty77 : tyA prog 77 = some (false, 1) := by kernel_rfl
theorem zc77 : zc prog 77 = some [.slice none 0 0] := by kernel_rfl
theorem ar77 : arT prog 77 = none := by kernel_rfl
theorem el77 : elS prog 77 = some (146, 4, [.slice none 0 0, .int .i64 0, .int .i64 0, .bool false]) := by kernel_rfl
theorem ln77 {r : ARef} {m k : Nat} : lenOpA prog h 77 (.slice (some r) m k) = some (.int .i64 (m : Int)) := len_sl el77
theorem as77 {v f m k : Nat} {i : Int} (h0 : 0 ≤ i) (h1 : i < m) : indexAddrA prog 77 (.slice (some ⟨id, v, f⟩) m k) (.int .i64 i) = some (.ptr (some ⟨id, v, f + i.toNat * 4⟩)) := adr_sl el77 ar77 h0 h1
theorem un77 : prog.underlying 77 = some (.slice 146) := by kernel_rfl
theorem st77 {x : AVal} (hx : One x) : stP prog base h 77 (.ptr (some ⟨id, ver, o⟩)) x = (stQ base id (h[id]?) ver o [x] (fun b => h.set id b)).map fun h' => (undefA, h') := stP_one ty77 hx
theorem ty78 : tyA prog 78 = some (false, 1) := by kernel_rfl
theorem zc78 : zc prog 78 = some [.slice none 0 0] := by kernel_rfl
theorem ar78 : arT prog 78 = none := by kernel_rfl
theorem el78 : elS prog 78 = some (147, 4, [.int .i64 0, .int .i64 0, .int .i64 0, .bool false]) := by kernel_rfl
theorem ln78 {r : ARef} {m k : Nat} : lenOpA prog h 78 (.slice (some r) m k) = some (.int .i64 (m : Int)) := len_sl el78
theorem as78 {v f m k : Nat} {i : Int} (h0 : 0 ≤ i) (h1 : i < m) : indexAddrA prog 78 (.slice (some ⟨id, v, f⟩) m k) (.int .i64 i) = some (.ptr (some ⟨id, v, f + i.toNat * 4⟩)) := adr_sl el78 ar78 h0 h1
theorem un78 : prog.underlying 78 = some (.slice 147) := by kernel_rfl
theorem st78 {x : AVal} (hx : One x) : stP prog base h 78 (.ptr (some ⟨id, ver, o⟩)) x = (stQ base id (h[id]?) ver o [x] (fun b => h.set id b)).map fun h' => (undefA, h') := stP_one ty78 hx
theorem ty80 : tyA prog 80 = some (true, 4) := by kernel_rfl
theorem zc80 : zc prog 80 = some [.int .i64 0, .int .i64 0, .slice none 0 0, .slice none 0 0] := by kernel_rfl
theorem ar80 : arT prog 80 = none := by kernel_rfl
theorem el80 : elS prog 80 = none := by kernel_rfl
theorem pl80 : plcS prog 80 = some [(0, 1), (1, 1), (2, 1), (3, 1)] := by kernel_rfl
theorem fa80_0 : fieldAddrA prog 80 (.ptr (some ⟨id, ver, o⟩)) 0 = some (.ptr (some ⟨id, ver, o + 0⟩)) := fieldAddr_eq (q := false) (z := 1) (by kernel_rfl) (by decide)
theorem fi80_0 {x0 x1 x2 x3 : AVal} : fieldA prog 80 (.agg [x0, x1, x2, x3]) 0 = some (x0) := by
  have h : fld prog 80 0 = some (0, false, 1) := by kernel_rfl
  simp [fieldA, h, partQ]
theorem fa80_1 : fieldAddrA prog 80 (.ptr (some ⟨id, ver, o⟩)) 1 = some (.ptr (some ⟨id, ver, o + 1⟩)) := fieldAddr_eq (q := false) (z := 1) (by kernel_rfl) (by decide)
theorem fi80_1 {x0 x1 x2 x3 : AVal} : fieldA prog 80 (.agg [x0, x1, x2, x3]) 1 = some (x1) := by
  have h : fld prog 80 1 = some (1, false, 1) := by kernel_rfl
  simp [fieldA, h, partQ]
theorem fa80_2 : fieldAddrA prog 80 (.ptr (some ⟨id, ver, o⟩)) 2 = some (.ptr (some ⟨id, ver, o + 2⟩)) := fieldAddr_eq (q := false) (z := 1) (by kernel_rfl) (by decide)
theorem fi80_2 {x0 x1 x2 x3 : AVal} : fieldA prog 80 (.agg [x0, x1, x2, x3]) 2 = some (x2) := by
  have h : fld prog 80 2 = some (2, false, 1) := by kernel_rfl
  simp [fieldA, h, partQ]
theorem fa80_3 : fieldAddrA prog 80 (.ptr (some ⟨id, ver, o⟩)) 3 = some (.ptr (some ⟨id, ver, o + 3⟩)) := fieldAddr_eq (q := false) (z := 1) (by kernel_rfl) (by decide)
theorem fi80_3 {x0 x1 x2 x3 : AVal} : fieldA prog 80 (.agg [x0, x1, x2, x3]) 3 = some (x3) := by
  have h : fld prog 80 3 = some (3, false, 1) := by kernel_rfl
  simp [fieldA, h, partQ]
theorem st80 {x0 x1 x2 x3 : AVal} : stP prog base h 80 (.ptr (some ⟨id, ver, o⟩)) (.agg [x0, x1, x2, x3]) = (stQ base id (h[id]?) ver o [x0, x1, x2, x3] (fun b => h.set id b)).map fun h' => (undefA, h') := stP_ptr ty80 rfl
theorem ty84 : tyA prog 84 = some (false, 1) := by kernel_rfl
theorem zc84 : zc prog 84 = some [.slice none 0 0] := by kernel_rfl
theorem ar84 : arT prog 84 = none := by kernel_rfl
theorem el84 : elS prog 84 = some (95, 2, [.int .i64 0, .int .i64 0]) := by kernel_rfl
theorem ln84 {r : ARef} {m k : Nat} : lenOpA prog h 84 (.slice (some r) m k) = some (.int .i64 (m : Int)) := len_sl el84
theorem as84 {v f m k : Nat} {i : Int} (h0 : 0 ≤ i) (h1 : i < m) : indexAddrA prog 84 (.slice (some ⟨id, v, f⟩) m k) (.int .i64 i) = some (.ptr (some ⟨id, v, f + i.toNat * 2⟩)) := adr_sl el84 ar84 h0 h1
theorem un84 : prog.underlying 84 = some (.slice 95) := by kernel_rfl
theorem st84 {x : AVal} (hx : One x) : stP prog base h 84 (.ptr (some ⟨id, ver, o⟩)) x = (stQ base id (h[id]?) ver o [x] (fun b => h.set id b)).map fun h' => (undefA, h') := stP_one ty84 hx
theorem ty86 : tyA prog 86 = some (true, 3) := by kernel_rfl
theorem zc86 : zc prog 86 = some [.int .i64 0, .int .i64 0, .int .i64 0] := by kernel_rfl
theorem ar86 : arT prog 86 = none := by kernel_rfl
theorem el86 : elS prog 86 = none := by kernel_rfl
theorem pl86 : plcS prog 86 = some [(0, 1), (1, 1), (2, 1)] := by kernel_rfl
theorem fa86_0 : fieldAddrA prog 86 (.ptr (some ⟨id, ver, o⟩)) 0 = some (.ptr (some ⟨id, ver, o + 0⟩)) := fieldAddr_eq (q := false) (z := 1) (by kernel_rfl) (by decide)
theorem fi86_0 {x0 x1 x2 : AVal} : fieldA prog 86 (.agg [x0, x1, x2]) 0 = some (x0) := by
  have h : fld prog 86 0 = some (0, false, 1) := by kernel_rfl
  simp [fieldA, h, partQ]
theorem fa86_1 : fieldAddrA prog 86 (.ptr (some ⟨id, ver, o⟩)) 1 = some (.ptr (some ⟨id, ver, o + 1⟩)) := fieldAddr_eq (q := false) (z := 1) (by kernel_rfl) (by decide)
theorem fi86_1 {x0 x1 x2 : AVal} : fieldA prog 86 (.agg [x0, x1, x2]) 1 = some (x1) := by
  have h : fld prog 86 1 = some (1, false, 1) := by kernel_rfl
  simp [fieldA, h, partQ]
theorem fa86_2 : fieldAddrA prog 86 (.ptr (some ⟨id, ver, o⟩)) 2 = some (.ptr (some ⟨id, ver, o + 2⟩)) := fieldAddr_eq (q := false) (z := 1) (by kernel_rfl) (by decide)
theorem fi86_2 {x0 x1 x2 : AVal} : fieldA prog 86 (.agg [x0, x1, x2]) 2 = some (x2) := by
  have h : fld prog 86 2 = some (2, false, 1) := by kernel_rfl
  simp [fieldA, h, partQ]
theorem st86 {x0 x1 x2 : AVal} : stP prog base h 86 (.ptr (some ⟨id, ver, o⟩)) (.agg [x0, x1, x2]) = (stQ base id (h[id]?) ver o [x0, x1, x2] (fun b => h.set id b)).map fun h' => (undefA, h') := stP_ptr ty86 rfl
theorem ty89 : tyA prog 89 = some (false, 1) := by kernel_rfl
theorem zc89 : zc prog 89 = some [.slice none 0 0] := by kernel_rfl
theorem ar89 : arT prog 89 = none := by kernel_rfl
theorem el89 : elS prog 89 = some (94, 2, [.int .i64 0, .int .i64 0]) := by kernel_rfl
theorem ln89 {r : ARef} {m k : Nat} : lenOpA prog h 89 (.slice (some r) m k) = some (.int .i64 (m : Int)) := len_sl el89
theorem as89 {v f m k : Nat} {i : Int} (h0 : 0 ≤ i) (h1 : i < m) : indexAddrA prog 89 (.slice (some ⟨id, v, f⟩) m k) (.int .i64 i) = some (.ptr (some ⟨id, v, f + i.toNat * 2⟩)) := adr_sl el89 ar89 h0 h1
theorem un89 : prog.underlying 89 = some (.slice 94) := by kernel_rfl
theorem st89 {x : AVal} (hx : One x) : stP prog base h 89 (.ptr (some ⟨id, ver, o⟩)) x = (stQ base id (h[id]?) ver o [x] (fun b => h.set id b)).map fun h' => (undefA, h') := stP_one ty89 hx
theorem ty94 : tyA prog 94 = some (true, 2) := by kernel_rfl
theorem zc94 : zc prog 94 = some [.int .i64 0, .int .i64 0] := by kernel_rfl
theorem ar94 : arT prog 94 = none := by kernel_rfl
theorem el94 : elS prog 94 = none := by kernel_rfl
theorem pl94 : plcS prog 94 = some [(0, 1), (1, 1)] := by kernel_rfl
theorem fa94_0 : fieldAddrA prog 94 (.ptr (some ⟨id, ver, o⟩)) 0 = some (.ptr (some ⟨id, ver, o + 0⟩)) := fieldAddr_eq (q := false) (z := 1) (by kernel_rfl) (by decide)
theorem fi94_0 {x0 x1 : AVal} : fieldA prog 94 (.agg [x0, x1]) 0 = some (x0) := by
  have h : fld prog 94 0 = some (0, false, 1) := by kernel_rfl
  simp [fieldA, h, partQ]
theorem fa94_1 : fieldAddrA prog 94 (.ptr (some ⟨id, ver, o⟩)) 1 = some (.ptr (some ⟨id, ver, o + 1⟩)) := fieldAddr_eq (q := false) (z := 1) (by kernel_rfl) (by decide)
theorem fi94_1 {x0 x1 : AVal} : fieldA prog 94 (.agg [x0, x1]) 1 = some (x1) := by
  have h : fld prog 94 1 = some (1, false, 1) := by kernel_rfl
  simp [fieldA, h, partQ]
theorem st94 {x0 x1 : AVal} : stP prog base h 94 (.ptr (some ⟨id, ver, o⟩)) (.agg [x0, x1]) = (stQ base id (h[id]?) ver o [x0, x1] (fun b => h.set id b)).map fun h' => (undefA, h') := stP_ptr ty94 rfl
theorem ty95 : tyA prog 95 = some (true, 2) := by kernel_rfl
theorem zc95 : zc prog 95 = some [.int .i64 0, .int .i64 0] := by kernel_rfl
theorem ar95 : arT prog 95 = none := by kernel_rfl
theorem el95 : elS prog 95 = none := by kernel_rfl
theorem pl95 : plcS prog 95 = some [(0, 1), (1, 1)] := by kernel_rfl
theorem fa95_0 : fieldAddrA prog 95 (.ptr (some ⟨id, ver, o⟩)) 0 = some (.ptr (some ⟨id, ver, o + 0⟩)) := fieldAddr_eq (q := false) (z := 1) (by kernel_rfl) (by decide)
theorem fi95_0 {x0 x1 : AVal} : fieldA prog 95 (.agg [x0, x1]) 0 = some (x0) := by
  have h : fld prog 95 0 = some (0, false, 1) := by kernel_rfl
  simp [fieldA, h, partQ]
theorem fa95_1 : fieldAddrA prog 95 (.ptr (some ⟨id, ver, o⟩)) 1 = some (.ptr (some ⟨id, ver, o + 1⟩)) := fieldAddr_eq (q := false) (z := 1) (by kernel_rfl) (by decide)
theorem fi95_1 {x0 x1 : AVal} : fieldA prog 95 (.agg [x0, x1]) 1 = some (x1) := by
  have h : fld prog 95 1 = some (1, false, 1) := by kernel_rfl
  simp [fieldA, h, partQ]
theorem st95 {x0 x1 : AVal} : stP prog base h 95 (.ptr (some ⟨id, ver, o⟩)) (.agg [x0, x1]) = (stQ base id (h[id]?) ver o [x0, x1] (fun b => h.set id b)).map fun h' => (undefA, h') := stP_ptr ty95 rfl
theorem ty101 : tyA prog 101 = some (false, 1) := by kernel_rfl
theorem zc101 : zc prog 101 = some [.int .u64 0] := by kernel_rfl
theorem ar101 : arT prog 101 = none := by kernel_rfl
theorem el101 : elS prog 101 = none := by kernel_rfl
theorem ik101 : ikT prog 101 = some .u64 := by kernel_rfl
theorem st101 {x : AVal} (hx : One x) : stP prog base h 101 (.ptr (some ⟨id, ver, o⟩)) x = (stQ base id (h[id]?) ver o [x] (fun b => h.set id b)).map fun h' => (undefA, h') := stP_one ty101 hx
theorem ty103 : tyA prog 103 = some (true, 3) := by kernel_rfl
theorem zc103 : zc prog 103 = some [.slice none 0 0, .int .i64 0, .int .u64 0] := by kernel_rfl
theorem ar103 : arT prog 103 = none := by kernel_rfl
theorem el103 : elS prog 103 = none := by kernel_rfl
theorem pl103 : plcS prog 103 = some [(0, 1), (1, 1), (2, 1)] := by kernel_rfl
theorem fa103_0 : fieldAddrA prog 103 (.ptr (some ⟨id, ver, o⟩)) 0 = some (.ptr (some ⟨id, ver, o + 0⟩)) := fieldAddr_eq (q := false) (z := 1) (by kernel_rfl) (by decide)
theorem fi103_0 {x0 x1 x2 : AVal} : fieldA prog 103 (.agg [x0, x1, x2]) 0 = some (x0) := by
  have h : fld prog 103 0 = some (0, false, 1) := by kernel_rfl
  simp [fieldA, h, partQ]
theorem fa103_1 : fieldAddrA prog 103 (.ptr (some ⟨id, ver, o⟩)) 1 = some (.ptr (some ⟨id, ver, o + 1⟩)) := fieldAddr_eq (q := false) (z := 1) (by kernel_rfl) (by decide)
theorem fi103_1 {x0 x1 x2 : AVal} : fieldA prog 103 (.agg [x0, x1, x2]) 1 = some (x1) := by
  have h : fld prog 103 1 = some (1, false, 1) := by kernel_rfl
  simp [fieldA, h, partQ]
theorem fa103_2 : fieldAddrA prog 103 (.ptr (some ⟨id, ver, o⟩)) 2 = some (.ptr (some ⟨id, ver, o + 2⟩)) := fieldAddr_eq (q := false) (z := 1) (by kernel_rfl) (by decide)
theorem fi103_2 {x0 x1 x2 : AVal} : fieldA prog 103 (.agg [x0, x1, x2]) 2 = some (x2) := by
  have h : fld prog 103 2 = some (2, false, 1) := by kernel_rfl
  simp [fieldA, h, partQ]
theorem st103 {x0 x1 x2 : AVal} : stP prog base h 103 (.ptr (some ⟨id, ver, o⟩)) (.agg [x0, x1, x2]) = (stQ base id (h[id]?) ver o [x0, x1, x2] (fun b => h.set id b)).map fun h' => (undefA, h') := stP_ptr ty103 rfl
theorem ty104 : tyA prog 104 = some (false, 1) := by kernel_rfl
theorem zc104 : zc prog 104 = some [.ptr none] := by kernel_rfl
theorem ar104 : arT prog 104 = none := by kernel_rfl
theorem el104 : elS prog 104 = none := by kernel_rfl
theorem st104 {x : AVal} (hx : One x) : stP prog base h 104 (.ptr (some ⟨id, ver, o⟩)) x = (stQ base id (h[id]?) ver o [x] (fun b => h.set id b)).map fun h' => (undefA, h') := stP_one ty104 hx
theorem ty110 : tyA prog 110 = some (true, 2) := by kernel_rfl
theorem zc110 : zc prog 110 = some [.int .i64 0, .slice none 0 0] := by kernel_rfl
theorem ar110 : arT prog 110 = none := by kernel_rfl
theorem el110 : elS prog 110 = none := by kernel_rfl
theorem pl110 : plcS prog 110 = some [(0, 1), (1, 1)] := by kernel_rfl
theorem fa110_0 : fieldAddrA prog 110 (.ptr (some ⟨id, ver, o⟩)) 0 = some (.ptr (some ⟨id, ver, o + 0⟩)) := fieldAddr_eq (q := false) (z := 1) (by kernel_rfl) (by decide)
theorem fi110_0 {x0 x1 : AVal} : fieldA prog 110 (.agg [x0, x1]) 0 = some (x0) := by
  have h : fld prog 110 0 = some (0, false, 1) := by kernel_rfl
  simp [fieldA, h, partQ]
theorem fa110_1 : fieldAddrA prog 110 (.ptr (some ⟨id, ver, o⟩)) 1 = some (.ptr (some ⟨id, ver, o + 1⟩)) := fieldAddr_eq (q := false) (z := 1) (by kernel_rfl) (by decide)
theorem fi110_1 {x0 x1 : AVal} : fieldA prog 110 (.agg [x0, x1]) 1 = some (x1) := by
  have h : fld prog 110 1 = some (1, false, 1) := by kernel_rfl
  simp [fieldA, h, partQ]
theorem st110 {x0 x1 : AVal} : stP prog base h 110 (.ptr (some ⟨id, ver, o⟩)) (.agg [x0, x1]) = (stQ base id (h[id]?) ver o [x0, x1] (fun b => h.set id b)).map fun h' => (undefA, h') := stP_ptr ty110 rfl
theorem ty113 : tyA prog 113 = some (false, 1) := by kernel_rfl
theorem zc113 : zc prog 113 = some [.nilFn] := by kernel_rfl
theorem ar113 : arT prog 113 = none := by kernel_rfl
theorem el113 : elS prog 113 = none := by kernel_rfl
theorem st113 {x : AVal} (hx : One x) : stP prog base h 113 (.ptr (some ⟨id, ver, o⟩)) x = (stQ base id (h[id]?) ver o [x] (fun b => h.set id b)).map fun h' => (undefA, h') := stP_one ty113 hx
theorem ty115 : tyA prog 115 = some (true, 1) := by kernel_rfl
theorem zc115 : zc prog 115 = some [.nilFn] := by kernel_rfl
theorem ar115 : arT prog 115 = none := by kernel_rfl
theorem el115 : elS prog 115 = none := by kernel_rfl
theorem pl115 : plcS prog 115 = some [(0, 1)] := by kernel_rfl
theorem fa115_0 : fieldAddrA prog 115 (.ptr (some ⟨id, ver, o⟩)) 0 = some (.ptr (some ⟨id, ver, o + 0⟩)) := fieldAddr_eq (q := false) (z := 1) (by kernel_rfl) (by decide)
theorem fi115_0 {x0 : AVal} : fieldA prog 115 (.agg [x0]) 0 = some (x0) := by
  have h : fld prog 115 0 = some (0, false, 1) := by kernel_rfl
  simp [fieldA, h, partQ]
theorem st115 {x0 : AVal} : stP prog base h 115 (.ptr (some ⟨id, ver, o⟩)) (.agg [x0]) = (stQ base id (h[id]?) ver o [x0] (fun b => h.set id b)).map fun h' => (undefA, h') := stP_ptr ty115 rfl
theorem ty117 : tyA prog 117 = some (false, 1) := by kernel_rfl
theorem zc117 : zc prog 117 = some [.nilFn] := by kernel_rfl
theorem ar117 : arT prog 117 = none := by kernel_rfl
theorem el117 : elS prog 117 = none := by kernel_rfl
theorem st117 {x : AVal} (hx : One x) : stP prog base h 117 (.ptr (some ⟨id, ver, o⟩)) x = (stQ base id (h[id]?) ver o [x] (fun b => h.set id b)).map fun h' => (undefA, h') := stP_one ty117 hx
theorem ty124 : tyA prog 124 = some (true, 4) := by kernel_rfl
theorem zc124 : zc prog 124 = some [.int .i64 0, .int .i64 0, .int .i64 0, .int .i64 0] := by kernel_rfl
theorem ar124 : arT prog 124 = none := by kernel_rfl
theorem el124 : elS prog 124 = none := by kernel_rfl
theorem pl124 : plcS prog 124 = some [(0, 3), (3, 1)] := by kernel_rfl
theorem fa124_0 : fieldAddrA prog 124 (.ptr (some ⟨id, ver, o⟩)) 0 = some (.ptr (some ⟨id, ver, o + 0⟩)) := fieldAddr_eq (q := true) (z := 3) (by kernel_rfl) (by decide)
theorem fi124_0 {x0 x1 x2 x3 : AVal} : fieldA prog 124 (.agg [x0, x1, x2, x3]) 0 = some (.agg [x0, x1, x2]) := by
  have h : fld prog 124 0 = some (0, true, 3) := by kernel_rfl
  simp [fieldA, h, partQ]
theorem fa124_1 : fieldAddrA prog 124 (.ptr (some ⟨id, ver, o⟩)) 1 = some (.ptr (some ⟨id, ver, o + 3⟩)) := fieldAddr_eq (q := false) (z := 1) (by kernel_rfl) (by decide)
theorem fi124_1 {x0 x1 x2 x3 : AVal} : fieldA prog 124 (.agg [x0, x1, x2, x3]) 1 = some (x3) := by
  have h : fld prog 124 1 = some (3, false, 1) := by kernel_rfl
  simp [fieldA, h, partQ]
theorem st124 {x0 x1 x2 x3 : AVal} : stP prog base h 124 (.ptr (some ⟨id, ver, o⟩)) (.agg [x0, x1, x2, x3]) = (stQ base id (h[id]?) ver o [x0, x1, x2, x3] (fun b => h.set id b)).map fun h' => (undefA, h') := stP_ptr ty124 rfl
theorem ty125 : tyA prog 125 = some (false, 1) := by kernel_rfl
theorem zc125 : zc prog 125 = some [.slice none 0 0] := by kernel_rfl
theorem ar125 : arT prog 125 = none := by kernel_rfl
theorem el125 : elS prog 125 = some (110, 2, [.int .i64 0, .slice none 0 0]) := by kernel_rfl
theorem ln125 {r : ARef} {m k : Nat} : lenOpA prog h 125 (.slice (some r) m k) = some (.int .i64 (m : Int)) := len_sl el125
theorem as125 {v f m k : Nat} {i : Int} (h0 : 0 ≤ i) (h1 : i < m) : indexAddrA prog 125 (.slice (some ⟨id, v, f⟩) m k) (.int .i64 i) = some (.ptr (some ⟨id, v, f + i.toNat * 2⟩)) := adr_sl el125 ar125 h0 h1
theorem un125 : prog.underlying 125 = some (.slice 110) := by kernel_rfl
theorem st125 {x : AVal} (hx : One x) : stP prog base h 125 (.ptr (some ⟨id, ver, o⟩)) x = (stQ base id (h[id]?) ver o [x] (fun b => h.set id b)).map fun h' => (undefA, h') := stP_one ty125 hx
theorem ty128 : tyA prog 128 = some (true, 12) := by kernel_rfl
theorem zc128 : zc prog 128 = some [.bool false, .bool false, .bool false, .bool false, .bool false, .bool false, .bool false, .bool false, .bool false, .bool false, .bool false, .bool false] := by kernel_rfl
theorem ar128 : arT prog 128 = some (12, false, 1) := by kernel_rfl
theorem ad128 {i : Int} (h0 : 0 ≤ i) (h1 : i < 12) : indexAddrA prog 128 (.ptr (some ⟨id, ver, o⟩)) (.int .i64 i) = some (.ptr (some ⟨id, ver, o + i.toNat * 1⟩)) := adr_arr ar128 h0 h1
theorem el128 : elS prog 128 = none := by kernel_rfl
theorem ty134 : tyA prog 134 = some (false, 1) := by kernel_rfl
theorem zc134 : zc prog 134 = some [.slice none 0 0] := by kernel_rfl
theorem ar134 : arT prog 134 = none := by kernel_rfl
theorem el134 : elS prog 134 = some (128, 12, [.bool false, .bool false, .bool false, .bool false, .bool false, .bool false, .bool false, .bool false, .bool false, .bool false, .bool false, .bool false]) := by kernel_rfl
theorem ln134 {r : ARef} {m k : Nat} : lenOpA prog h 134 (.slice (some r) m k) = some (.int .i64 (m : Int)) := len_sl el134
theorem as134 {v f m k : Nat} {i : Int} (h0 : 0 ≤ i) (h1 : i < m) : indexAddrA prog 134 (.slice (some ⟨id, v, f⟩) m k) (.int .i64 i) = some (.ptr (some ⟨id, v, f + i.toNat * 12⟩)) := adr_sl el134 ar134 h0 h1
theorem un134 : prog.underlying 134 = some (.slice 128) := by kernel_rfl
theorem st134 {x : AVal} (hx : One x) : stP prog base h 134 (.ptr (some ⟨id, ver, o⟩)) x = (stQ base id (h[id]?) ver o [x] (fun b => h.set id b)).map fun h' => (undefA, h') := stP_one ty134 hx
theorem ty136 : tyA prog 136 = some (true, 6) := by kernel_rfl
theorem zc136 : zc prog 136 = some [.int .i64 0, .int .i64 0, .slice none 0 0, .slice none 0 0, .slice none 0 0, .slice none 0 0] := by kernel_rfl
theorem ar136 : arT prog 136 = none := by kernel_rfl
theorem el136 : elS prog 136 = none := by kernel_rfl
theorem pl136 : plcS prog 136 = some [(0, 4), (4, 1), (5, 1)] := by kernel_rfl
theorem fa136_0 : fieldAddrA prog 136 (.ptr (some ⟨id, ver, o⟩)) 0 = some (.ptr (some ⟨id, ver, o + 0⟩)) := fieldAddr_eq (q := true) (z := 4) (by kernel_rfl) (by decide)
theorem fi136_0 {x0 x1 x2 x3 x4 x5 : AVal} : fieldA prog 136 (.agg [x0, x1, x2, x3, x4, x5]) 0 = some (.agg [x0, x1, x2, x3]) := by
  have h : fld prog 136 0 = some (0, true, 4) := by kernel_rfl
  simp [fieldA, h, partQ]
theorem fa136_1 : fieldAddrA prog 136 (.ptr (some ⟨id, ver, o⟩)) 1 = some (.ptr (some ⟨id, ver, o + 4⟩)) := fieldAddr_eq (q := false) (z := 1) (by kernel_rfl) (by decide)
theorem fi136_1 {x0 x1 x2 x3 x4 x5 : AVal} : fieldA prog 136 (.agg [x0, x1, x2, x3, x4, x5]) 1 = some (x4) := by
  have h : fld prog 136 1 = some (4, false, 1) := by kernel_rfl
  simp [fieldA, h, partQ]
theorem fa136_2 : fieldAddrA prog 136 (.ptr (some ⟨id, ver, o⟩)) 2 = some (.ptr (some ⟨id, ver, o + 5⟩)) := fieldAddr_eq (q := false) (z := 1) (by kernel_rfl) (by decide)
theorem fi136_2 {x0 x1 x2 x3 x4 x5 : AVal} : fieldA prog 136 (.agg [x0, x1, x2, x3, x4, x5]) 2 = some (x5) := by
  have h : fld prog 136 2 = some (5, false, 1) := by kernel_rfl
  simp [fieldA, h, partQ]
theorem st136 {x0 x1 x2 x3 x4 x5 : AVal} : stP prog base h 136 (.ptr (some ⟨id, ver, o⟩)) (.agg [x0, x1, x2, x3, x4, x5]) = (stQ base id (h[id]?) ver o [x0, x1, x2, x3, x4, x5] (fun b => h.set id b)).map fun h' => (undefA, h') := stP_ptr ty136 rfl
theorem ty139 : tyA prog 139 = some (true, 10) := by kernel_rfl
theorem zc139 : zc prog 139 = some [.bool false, .bool false, .bool false, .bool false, .bool false, .bool false, .bool false, .bool false, .bool false, .bool false] := by kernel_rfl
theorem ar139 : arT prog 139 = some (10, false, 1) := by kernel_rfl
theorem ad139 {i : Int} (h0 : 0 ≤ i) (h1 : i < 10) : indexAddrA prog 139 (.ptr (some ⟨id, ver, o⟩)) (.int .i64 i) = some (.ptr (some ⟨id, ver, o + i.toNat * 1⟩)) := adr_arr ar139 h0 h1
theorem el139 : elS prog 139 = none := by kernel_rfl
theorem ty140 : tyA prog 140 = some (true, 100) := by kernel_rfl
theorem zc140 : zc prog 140 = some (repCells [.bool false] 100) := by kernel_rfl
theorem ar140 : arT prog 140 = some (10, true, 10) := by kernel_rfl
theorem ad140 {i : Int} (h0 : 0 ≤ i) (h1 : i < 10) : indexAddrA prog 140 (.ptr (some ⟨id, ver, o⟩)) (.int .i64 i) = some (.ptr (some ⟨id, ver, o + i.toNat * 10⟩)) := adr_arr ar140 h0 h1
theorem el140 : elS prog 140 = none := by kernel_rfl
theorem ty146 : tyA prog 146 = some (true, 4) := by kernel_rfl
theorem zc146 : zc prog 146 = some [.slice none 0 0, .int .i64 0, .int .i64 0, .bool false] := by kernel_rfl
theorem ar146 : arT prog 146 = none := by kernel_rfl
theorem el146 : elS prog 146 = none := by kernel_rfl
theorem pl146 : plcS prog 146 = some [(0, 1), (1, 1), (2, 1), (3, 1)] := by kernel_rfl
theorem fa146_0 : fieldAddrA prog 146 (.ptr (some ⟨id, ver, o⟩)) 0 = some (.ptr (some ⟨id, ver, o + 0⟩)) := fieldAddr_eq (q := false) (z := 1) (by kernel_rfl) (by decide)
theorem fi146_0 {x0 x1 x2 x3 : AVal} : fieldA prog 146 (.agg [x0, x1, x2, x3]) 0 = some (x0) := by
  have h : fld prog 146 0 = some (0, false, 1) := by kernel_rfl
  simp [fieldA, h, partQ]
theorem fa146_1 : fieldAddrA prog 146 (.ptr (some ⟨id, ver, o⟩)) 1 = some (.ptr (some ⟨id, ver, o + 1⟩)) := fieldAddr_eq (q := false) (z := 1) (by kernel_rfl) (by decide)
theorem fi146_1 {x0 x1 x2 x3 : AVal} : fieldA prog 146 (.agg [x0, x1, x2, x3]) 1 = some (x1) := by
  have h : fld prog 146 1 = some (1, false, 1) := by kernel_rfl
  simp [fieldA, h, partQ]
theorem fa146_2 : fieldAddrA prog 146 (.ptr (some ⟨id, ver, o⟩)) 2 = some (.ptr (some ⟨id, ver, o + 2⟩)) := fieldAddr_eq (q := false) (z := 1) (by kernel_rfl) (by decide)
theorem fi146_2 {x0 x1 x2 x3 : AVal} : fieldA prog 146 (.agg [x0, x1, x2, x3]) 2 = some (x2) := by
  have h : fld prog 146 2 = some (2, false, 1) := by kernel_rfl
  simp [fieldA, h, partQ]
theorem fa146_3 : fieldAddrA prog 146 (.ptr (some ⟨id, ver, o⟩)) 3 = some (.ptr (some ⟨id, ver, o + 3⟩)) := fieldAddr_eq (q := false) (z := 1) (by kernel_rfl) (by decide)
theorem fi146_3 {x0 x1 x2 x3 : AVal} : fieldA prog 146 (.agg [x0, x1, x2, x3]) 3 = some (x3) := by
  have h : fld prog 146 3 = some (3, false, 1) := by kernel_rfl
  simp [fieldA, h, partQ]
theorem st146 {x0 x1 x2 x3 : AVal} : stP prog base h 146 (.ptr (some ⟨id, ver, o⟩)) (.agg [x0, x1, x2, x3]) = (stQ base id (h[id]?) ver o [x0, x1, x2, x3] (fun b => h.set id b)).map fun h' => (undefA, h') := stP_ptr ty146 rfl
theorem ty147 : tyA prog 147 = some (true, 4) := by kernel_rfl
theorem zc147 : zc prog 147 = some [.int .i64 0, .int .i64 0, .int .i64 0, .bool false] := by kernel_rfl
theorem ar147 : arT prog 147 = none := by kernel_rfl
theorem el147 : elS prog 147 = none := by kernel_rfl
theorem pl147 : plcS prog 147 = some [(0, 1), (1, 2), (3, 1)] := by kernel_rfl
theorem fa147_0 : fieldAddrA prog 147 (.ptr (some ⟨id, ver, o⟩)) 0 = some (.ptr (some ⟨id, ver, o + 0⟩)) := fieldAddr_eq (q := false) (z := 1) (by kernel_rfl) (by decide)
theorem fi147_0 {x0 x1 x2 x3 : AVal} : fieldA prog 147 (.agg [x0, x1, x2, x3]) 0 = some (x0) := by
  have h : fld prog 147 0 = some (0, false, 1) := by kernel_rfl
  simp [fieldA, h, partQ]
theorem fa147_1 : fieldAddrA prog 147 (.ptr (some ⟨id, ver, o⟩)) 1 = some (.ptr (some ⟨id, ver, o + 1⟩)) := fieldAddr_eq (q := true) (z := 2) (by kernel_rfl) (by decide)
theorem fi147_1 {x0 x1 x2 x3 : AVal} : fieldA prog 147 (.agg [x0, x1, x2, x3]) 1 = some (.agg [x1, x2]) := by
  have h : fld prog 147 1 = some (1, true, 2) := by kernel_rfl
  simp [fieldA, h, partQ]
theorem fa147_2 : fieldAddrA prog 147 (.ptr (some ⟨id, ver, o⟩)) 2 = some (.ptr (some ⟨id, ver, o + 3⟩)) := fieldAddr_eq (q := false) (z := 1) (by kernel_rfl) (by decide)
theorem fi147_2 {x0 x1 x2 x3 : AVal} : fieldA prog 147 (.agg [x0, x1, x2, x3]) 2 = some (x3) := by
  have h : fld prog 147 2 = some (3, false, 1) := by kernel_rfl
  simp [fieldA, h, partQ]
theorem st147 {x0 x1 x2 x3 : AVal} : stP prog base h 147 (.ptr (some ⟨id, ver, o⟩)) (.agg [x0, x1, x2, x3]) = (stQ base id (h[id]?) ver o [x0, x1, x2, x3] (fun b => h.set id b)).map fun h' => (undefA, h') := stP_ptr ty147 rfl
theorem ty149 : tyA prog 149 = some (false, 1) := by kernel_rfl
theorem zc149 : zc prog 149 = some [.nilFn] := by kernel_rfl
theorem ar149 : arT prog 149 = none := by kernel_rfl
theorem el149 : elS prog 149 = none := by kernel_rfl
theorem st149 {x : AVal} (hx : One x) : stP prog base h 149 (.ptr (some ⟨id, ver, o⟩)) x = (stQ base id (h[id]?) ver o [x] (fun b => h.set id b)).map fun h' => (undefA, h') := stP_one ty149 hx
theorem ty162 : tyA prog 162 = some (false, 1) := by kernel_rfl
theorem zc162 : zc prog 162 = some [.map none] := by kernel_rfl
theorem ar162 : arT prog 162 = none := by kernel_rfl
theorem el162 : elS prog 162 = none := by kernel_rfl
theorem mp162 : mpT prog 162 = some (94, 4) := by kernel_rfl
theorem st162 {x : AVal} (hx : One x) : stP prog base h 162 (.ptr (some ⟨id, ver, o⟩)) x = (stQ base id (h[id]?) ver o [x] (fun b => h.set id b)).map fun h' => (undefA, h') := stP_one ty162 hx
theorem bd26_  : buildA prog 26 [] = some (.agg [.int .i64 0, .int .i64 0, .slice none 0 0, .slice none 0 0]) := by
  simp [buildA, zc26, pl26, fillA, splice, isN_agg, cells_agg]
theorem bd26_01 {y0 y1 : AVal} (h0 : One y0) (h1 : One y1) : buildA prog 26 [(0, y0), (1, y1)] = some (.agg [y0, y1, .slice none 0 0, .slice none 0 0]) := by
  simp [buildA, zc26, pl26, fillA, splice, isN_agg, cells_agg, h0.1, h0.2.1, h1.1, h1.2.1]
theorem bd26_0123 {y0 y1 y2 y3 : AVal} (h0 : One y0) (h1 : One y1) (h2 : One y2) (h3 : One y3) : buildA prog 26 [(0, y0), (1, y1), (2, y2), (3, y3)] = some (.agg [y0, y1, y2, y3]) := by
  simp [buildA, zc26, pl26, fillA, splice, isN_agg, cells_agg, h0.1, h0.2.1, h1.1, h1.2.1, h2.1, h2.2.1, h3.1, h3.2.1]
theorem bd26_013 {y0 y1 y3 : AVal} (h0 : One y0) (h1 : One y1) (h3 : One y3) : buildA prog 26 [(0, y0), (1, y1), (3, y3)] = some (.agg [y0, y1, .slice none 0 0, y3]) := by
  simp [buildA, zc26, pl26, fillA, splice, isN_agg, cells_agg, h0.1, h0.2.1, h1.1, h1.2.1, h3.1, h3.2.1]
theorem bd37_01 {y0 y1 : AVal} (h0 : One y0) (h1 : One y1) : buildA prog 37 [(0, y0), (1, y1)] = some (.agg [y0, y1]) := by
  simp [buildA, zc37, pl37, fillA, splice, isN_agg, cells_agg, h0.1, h0.2.1, h1.1, h1.2.1]
theorem bd39_012 {y0 y1_0 y1_1 y2 : AVal} (h0 : One y0) (h2 : One y2) : buildA prog 39 [(0, y0), (1, .agg [y1_0, y1_1]), (2, y2)] = some (.agg [y0, y1_0, y1_1, y2]) := by
  simp [buildA, zc39, pl39, fillA, splice, isN_agg, cells_agg, h0.1, h0.2.1, h2.1, h2.2.1]
theorem bd55_012 {y0 y1 y2 : AVal} (h0 : One y0) (h1 : One y1) (h2 : One y2) : buildA prog 55 [(0, y0), (1, y1), (2, y2)] = some (.agg [y0, y1, y2, .bool false]) := by
  simp [buildA, zc55, pl55, fillA, splice, isN_agg, cells_agg, h0.1, h0.2.1, h1.1, h1.2.1, h2.1, h2.2.1]
theorem bd55_013 {y0 y1 y3 : AVal} (h0 : One y0) (h1 : One y1) (h3 : One y3) : buildA prog 55 [(0, y0), (1, y1), (3, y3)] = some (.agg [y0, y1, .int .i64 0, y3]) := by
  simp [buildA, zc55, pl55, fillA, splice, isN_agg, cells_agg, h0.1, h0.2.1, h1.1, h1.2.1, h3.1, h3.2.1]
theorem bd55_13 {y1 y3 : AVal} (h1 : One y1) (h3 : One y3) : buildA prog 55 [(1, y1), (3, y3)] = some (.agg [.slice none 0 0, y1, .int .i64 0, y3]) := by
  simp [buildA, zc55, pl55, fillA, splice, isN_agg, cells_agg, h1.1, h1.2.1, h3.1, h3.2.1]
theorem bd61_012 {y0 y1 y2 : AVal} (h0 : One y0) (h1 : One y1) (h2 : One y2) : buildA prog 61 [(0, y0), (1, y1), (2, y2)] = some (.agg [y0, y1, y2]) := by
  simp [buildA, zc61, pl61, fillA, splice, isN_agg, cells_agg, h0.1, h0.2.1, h1.1, h1.2.1, h2.1, h2.2.1]
theorem bd80_01 {y0 y1 : AVal} (h0 : One y0) (h1 : One y1) : buildA prog 80 [(0, y0), (1, y1)] = some (.agg [y0, y1, .slice none 0 0, .slice none 0 0]) := by
  simp [buildA, zc80, pl80, fillA, splice, isN_agg, cells_agg, h0.1, h0.2.1, h1.1, h1.2.1]
theorem bd94_01 {y0 y1 : AVal} (h0 : One y0) (h1 : One y1) : buildA prog 94 [(0, y0), (1, y1)] = some (.agg [y0, y1]) := by
  simp [buildA, zc94, pl94, fillA, splice, isN_agg, cells_agg, h0.1, h0.2.1, h1.1, h1.2.1]
theorem bd95_01 {y0 y1 : AVal} (h0 : One y0) (h1 : One y1) : buildA prog 95 [(0, y0), (1, y1)] = some (.agg [y0, y1]) := by
  simp [buildA, zc95, pl95, fillA, splice, isN_agg, cells_agg, h0.1, h0.2.1, h1.1, h1.2.1]
theorem bd103_02 {y0 y2 : AVal} (h0 : One y0) (h2 : One y2) : buildA prog 103 [(0, y0), (2, y2)] = some (.agg [y0, .int .i64 0, y2]) := by
  simp [buildA, zc103, pl103, fillA, splice, isN_agg, cells_agg, h0.1, h0.2.1, h2.1, h2.2.1]
theorem bd115_0 {y0 : AVal} (h0 : One y0) : buildA prog 115 [(0, y0)] = some (.agg [y0]) := by
  simp [buildA, zc115, pl115, fillA, splice, isN_agg, cells_agg, h0.1, h0.2.1]
theorem bd124_0 {y0_0 y0_1 y0_2 : AVal}  : buildA prog 124 [(0, .agg [y0_0, y0_1, y0_2])] = some (.agg [y0_0, y0_1, y0_2, .int .i64 0]) := by
  simp [buildA, zc124, pl124, fillA, splice, isN_agg, cells_agg]
theorem bd136_02 {y0_0 y0_1 y0_2 y0_3 y2 : AVal} (h2 : One y2) : buildA prog 136 [(0, .agg [y0_0, y0_1, y0_2, y0_3]), (2, y2)] = some (.agg [y0_0, y0_1, y0_2, y0_3, .slice none 0 0, y2]) := by
  simp [buildA, zc136, pl136, fillA, splice, isN_agg, cells_agg, h2.1, h2.2.1]
theorem bd146_0123 {y0 y1 y2 y3 : AVal} (h0 : One y0) (h1 : One y1) (h2 : One y2) (h3 : One y3) : buildA prog 146 [(0, y0), (1, y1), (2, y2), (3, y3)] = some (.agg [y0, y1, y2, y3]) := by
  simp [buildA, zc146, pl146, fillA, splice, isN_agg, cells_agg, h0.1, h0.2.1, h1.1, h1.2.1, h2.1, h2.2.1, h3.1, h3.2.1]
theorem eq39 {a0 : Int} {a1 : Int} {a2 : Int} {a3 : Bool} {b0 : Int} {b1 : Int} {b2 : Int} {b3 : Bool} : binA prog .eql 39 (.agg [.int .i64 a0, .int .i64 a1, .int .i64 a2, .bool a3]) (.agg [.int .i64 b0, .int .i64 b1, .int .i64 b2, .bool b3]) = some (.bool (decide (a0 = b0 ∧ a1 = b1 ∧ a2 = b2 ∧ a3 = b3))) := by
  have h1 : prog.eqGuardType prog.depth 39 = false := by kernel_rfl
  have s37 : prog.stoodInHeld 37 = false := by kernel_rfl
  have s39 : prog.stoodInHeld 39 = false := by kernel_rfl
  simp [binA, eqDepth, eqT, partA, partQ, h1, s37, s39, underlying3, ty3, underlying4, ty4, underlying37, ty37, underlying39, ty39]
  by_cases e0 : a0 = b0 <;> by_cases e1 : a1 = b1 <;> by_cases e2 : a2 = b2 <;> by_cases e3 : a3 = b3 <;> simp [e0, e1, e2, e3]
theorem ne39 {a0 : Int} {a1 : Int} {a2 : Int} {a3 : Bool} {b0 : Int} {b1 : Int} {b2 : Int} {b3 : Bool} : binA prog .neq 39 (.agg [.int .i64 a0, .int .i64 a1, .int .i64 a2, .bool a3]) (.agg [.int .i64 b0, .int .i64 b1, .int .i64 b2, .bool b3]) = some (.bool (decide (¬ (a0 = b0 ∧ a1 = b1 ∧ a2 = b2 ∧ a3 = b3)))) := by
  have h := eq39 (a0 := a0) (a1 := a1) (a2 := a2) (a3 := a3) (b0 := b0) (b1 := b1) (b2 := b2) (b3 := b3)
  simp only [binA, isShift] at h ⊢
  split at h
  · cases h
  · rename_i hg
    rw [if_neg hg]
    cases hq : eqT prog eqDepth 39 (.agg [.int .i64 a0, .int .i64 a1, .int .i64 a2, .bool a3]) (.agg [.int .i64 b0, .int .i64 b1, .int .i64 b2, .bool b3]) with
    | none => rw [hq] at h; cases h
    | some r => rw [hq] at h; simp only [Option.map_some, Option.some.injEq, AVal.bool.injEq] at h ⊢; rw [h]; simp
theorem eq94 {a0 : Int} {a1 : Int} {b0 : Int} {b1 : Int} : binA prog .eql 94 (.agg [.int .i64 a0, .int .i64 a1]) (.agg [.int .i64 b0, .int .i64 b1]) = some (.bool (decide (a0 = b0 ∧ a1 = b1))) := by
  have h1 : prog.eqGuardType prog.depth 94 = false := by kernel_rfl
  have s94 : prog.stoodInHeld 94 = false := by kernel_rfl
  simp [binA, eqDepth, eqT, partA, partQ, h1, s94, underlying3, ty3, underlying94, ty94]
  by_cases e0 : a0 = b0 <;> by_cases e1 : a1 = b1 <;> simp [e0, e1]
theorem ne94 {a0 : Int} {a1 : Int} {b0 : Int} {b1 : Int} : binA prog .neq 94 (.agg [.int .i64 a0, .int .i64 a1]) (.agg [.int .i64 b0, .int .i64 b1]) = some (.bool (decide (¬ (a0 = b0 ∧ a1 = b1)))) := by
  have h := eq94 (a0 := a0) (a1 := a1) (b0 := b0) (b1 := b1)
  simp only [binA, isShift] at h ⊢
  split at h
  · cases h
  · rename_i hg
    rw [if_neg hg]
    cases hq : eqT prog eqDepth 94 (.agg [.int .i64 a0, .int .i64 a1]) (.agg [.int .i64 b0, .int .i64 b1]) with
    | none => rw [hq] at h; cases h
    | some r => rw [hq] at h; simp only [Option.map_some, Option.some.injEq, AVal.bool.injEq] at h ⊢; rw [h]; simp
theorem eq95 {a0 : Int} {a1 : Int} {b0 : Int} {b1 : Int} : binA prog .eql 95 (.agg [.int .i64 a0, .int .i64 a1]) (.agg [.int .i64 b0, .int .i64 b1]) = some (.bool (decide (a0 = b0 ∧ a1 = b1))) := by
  have h1 : prog.eqGuardType prog.depth 95 = false := by kernel_rfl
  have s95 : prog.stoodInHeld 95 = false := by kernel_rfl
  simp [binA, eqDepth, eqT, partA, partQ, h1, s95, underlying3, ty3, underlying95, ty95]
  by_cases e0 : a0 = b0 <;> by_cases e1 : a1 = b1 <;> simp [e0, e1]
theorem ne95 {a0 : Int} {a1 : Int} {b0 : Int} {b1 : Int} : binA prog .neq 95 (.agg [.int .i64 a0, .int .i64 a1]) (.agg [.int .i64 b0, .int .i64 b1]) = some (.bool (decide (¬ (a0 = b0 ∧ a1 = b1)))) := by
  have h := eq95 (a0 := a0) (a1 := a1) (b0 := b0) (b1 := b1)
  simp only [binA, isShift] at h ⊢
  split at h
  · cases h
  · rename_i hg
    rw [if_neg hg]
    cases hq : eqT prog eqDepth 95 (.agg [.int .i64 a0, .int .i64 a1]) (.agg [.int .i64 b0, .int .i64 b1]) with
    | none => rw [hq] at h; cases h
    | some r => rw [hq] at h; simp only [Option.map_some, Option.some.injEq, AVal.bool.injEq] at h ⊢; rw [h]; simp
end
attribute [go_sem] ty3 zc3 ar3 el3 st3 ty4 zc4 ar4 el4 st4 ty5 zc5 ar5 el5 st5 ty22 zc22 ar22 el22 ln22 as22 st22 ty23 zc23 ar23 el23 ln23 as23 st23 ty24 zc24 ar24 el24 ln24 as24 st24 ty26 zc26 ar26 el26 fa26_0 fi26_0 fa26_1 fi26_1 fa26_2 fi26_2 fa26_3 fi26_3 st26 ty27 zc27 ar27 el27 ln27 as27 st27 ty32 zc32 ar32 el32 ln32 as32 st32 ty33 zc33 ar33 el33 st33 ty37 zc37 ar37 el37 fa37_0 fi37_0 fa37_1 fi37_1 st37 ty39 zc39 ar39 el39 fa39_0 fi39_0 fa39_1 fi39_1 fa39_2 fi39_2 st39 ty47 zc47 ar47 el47 st47 ty53 zc53 ar53 el53 ln53 as53 st53 ty55 zc55 ar55 el55 fa55_0 fi55_0 fa55_1 fi55_1 fa55_2 fi55_2 fa55_3 fi55_3 st55 ty57 zc57 ar57 el57 st57 ty61 zc61 ar61 el61 fa61_0 fi61_0 fa61_1 fi61_1 fa61_2 fi61_2 st61 ty74 zc74 ar74 el74 st74 ty77 zc77 ar77 el77 ln77 as77 st77 ty78 zc78 ar78 el78 ln78 as78 st78 ty80 zc80 ar80 el80 fa80_0 fi80_0 fa80_1 fi80_1 fa80_2 fi80_2 fa80_3 fi80_3 st80 ty84 zc84 ar84 el84 ln84 as84 st84 ty86 zc86 ar86 el86 fa86_0 fi86_0 fa86_1 fi86_1 fa86_2 fi86_2 st86 ty89 zc89 ar89 el89 ln89 as89 st89 ty94 zc94 ar94 el94 fa94_0 fi94_0 fa94_1 fi94_1 st94 ty95 zc95 ar95 el95 fa95_0 fi95_0 fa95_1 fi95_1 st95 ty101 zc101 ar101 el101 st101 ty103 zc103 ar103 el103 fa103_0 fi103_0 fa103_1 fi103_1 fa103_2 fi103_2 st103 ty104 zc104 ar104 el104 st104 ty110 zc110 ar110 el110 fa110_0 fi110_0 fa110_1 fi110_1 st110 ty113 zc113 ar113 el113 st113 ty115 zc115 ar115 el115 fa115_0 fi115_0 st115 ty117 zc117 ar117 el117 st117 ty124 zc124 ar124 el124 fa124_0 fi124_0 fa124_1 fi124_1 st124 ty125 zc125 ar125 el125 ln125 as125 st125 ty128 zc128 ar128 ad128 el128 ty134 zc134 ar134 el134 ln134 as134 st134 ty136 zc136 ar136 el136 fa136_0 fi136_0 fa136_1 fi136_1 fa136_2 fi136_2 st136 ty139 zc139 ar139 ad139 el139 ty140 zc140 ar140 ad140 el140 ty146 zc146 ar146 el146 fa146_0 fi146_0 fa146_1 fi146_1 fa146_2 fi146_2 fa146_3 fi146_3 st146 ty147 zc147 ar147 el147 fa147_0 fi147_0 fa147_1 fi147_1 fa147_2 fi147_2 st147 ty149 zc149 ar149 el149 st149 ty162 zc162 ar162 el162 mp162 st162 bd26_ bd26_01 bd26_0123 bd26_013 bd37_01 bd39_012 bd55_012 bd55_013 bd55_13 bd61_012 bd80_01 bd94_01 bd95_01 bd103_02 bd115_0 bd124_0 bd136_02 bd146_0123 eq39 ne39 eq94 ne94 eq95 ne95
attribute [go_sem] results3 results4 results5 results6 results7 results8 results9 results10 results11 results12 results13 results14 results15 results16 results17 results18 results19 results20 results21 results22 results23 results24 results25 results26 results27 results28 results29 results30 results31 results32 results33 results34 results35 results36 results37 results38 results39 results40 results41 results42 results43 results44 results45 results46 results47 results48 results49 results50 results51 results52 results53 results54 results55 results56 results57 results58 results59 results60 results61 results62 results63 results64 results65 results66 results67 results68 results69 results70 results71 results72 results73 results74 results75 results76 results77 results78 results79 results80 results81 results82 results83 results84 results85 results86 results87 results88 results89 results90 results91 results92 results93 results94 results95 results96 results97 results98 results99 results100 results101 results102 results103 results104 results105 results106 results107 results108 results109 results110 results111 results112 results113 results114 results115 results116 results117 results118 results119 results120 results121 results122 results123 results124 results125 results126 results127 results128 results129 results130 results131 results132 results133 results134 results135 results136
end Go.AM.Fc
/-
  Which functions keep their garbage: those that return references.
-/
namespace Go.AM
def raw : FuncId → Bool := fun f => [9, 11, 14, 15, 19, 20, 21, 22, 23, 24, 30, 38, 40, 44, 48, 49, 50, 53, 55, 58, 59, 60, 62, 63, 64, 65, 66, 67, 68, 74, 76, 77, 94, 111, 113, 115, 85, 61, 117, 118, 119, 120, 121, 131].contains f
end Go.AM
