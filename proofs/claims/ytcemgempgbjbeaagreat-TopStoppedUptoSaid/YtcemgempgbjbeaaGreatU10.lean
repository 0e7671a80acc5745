/-
  Facts of the types of one translation, by program (wip/tools/facts.py).
-/
import Derived.Test.YtcemgempgbjbeaaGreatU8
import Derived.Test.YtcemgempgbjbeaaGreatProg
import Derived.KernelRfl
import Derived.Test.YtcemgempgbjbeaaGreatU9
import Derived.Test.YtcemgempgbjbeaaGreatRows
import Derived.WalkKit
import Derived.ProofKit
import Derived.OpenShut
import Derived.JoinedCond
set_option linter.unusedSimpArgs false
set_option linter.unusedVariables false
namespace Go.AM.Fc
open Go.Proofs.Tryz
section
variable {id ver o:Nat} {h:Heap} {base:Nat}
theorem ty3:tyA prog 3=some (false,1):=by kernel_rfl
theorem zc3:zc prog 3=some [.int .i64 0]:=by kernel_rfl
theorem el3:elS prog 3=none:=by kernel_rfl
theorem ik3:ikT prog 3=some .i64:=by kernel_rfl
theorem st3 {x:AVal} (hx:One x):stP prog base h 3 (.ptr (some ⟨id,ver,o⟩)) x=(stQ base id (h[id]?) ver o [x] (fun b=>h.set id b)).map fun h'=>(undefA,h'):=stP_one ty3 hx
theorem ty4:tyA prog 4=some (false,1):=by kernel_rfl
theorem zc4:zc prog 4=some [.bool false]:=by kernel_rfl
theorem st4 {x:AVal} (hx:One x):stP prog base h 4 (.ptr (some ⟨id,ver,o⟩)) x=(stQ base id (h[id]?) ver o [x] (fun b=>h.set id b)).map fun h'=>(undefA,h'):=stP_one ty4 hx
theorem ty5:tyA prog 5=some (false,1):=by kernel_rfl
theorem ik5:ikT prog 5=some .u8:=by kernel_rfl
theorem ar9:arT prog 9=none:=by kernel_rfl
theorem ty22:tyA prog 22=some (false,1):=by kernel_rfl
theorem ar22:arT prog 22=none:=by kernel_rfl
theorem el22:elS prog 22=some (5,1,[.int .u8 0]):=by kernel_rfl
theorem ar31:arT prog 31=none:=by kernel_rfl
theorem el31:elS prog 31=some (35,1,[.slice none 0 0]):=by kernel_rfl
theorem ty35:tyA prog 35=some (false,1):=by kernel_rfl
theorem zc35:zc prog 35=some [.slice none 0 0]:=by kernel_rfl
theorem ar35:arT prog 35=none:=by kernel_rfl
theorem el35:elS prog 35=some (3,1,[.int .i64 0]):=by kernel_rfl
theorem ln35 {r:ARef} {m k:Nat}:lenOpA prog h 35 (.slice (some r) m k)=some (.int .i64 (m:Int)):=len_sl el35
theorem as35 {v f m k:Nat} {i:Int} (h0:0≤i) (h1:i<m):indexAddrA prog 35 (.slice (some ⟨id,v,f⟩) m k) (.int .i64 i)=some (.ptr (some ⟨id,v,f+i.toNat * 1⟩)):=adr_sl el35 ar35 h0 h1
theorem un35:prog.underlying 35=some (.slice 3):=by kernel_rfl
theorem st35 {x:AVal} (hx:One x):stP prog base h 35 (.ptr (some ⟨id,ver,o⟩)) x=(stQ base id (h[id]?) ver o [x] (fun b=>h.set id b)).map fun h'=>(undefA,h'):=stP_one ty35 hx
theorem ty36:tyA prog 36=some (false,1):=by kernel_rfl
theorem ar36:arT prog 36=none:=by kernel_rfl
theorem el36:elS prog 36=some (74,5,[.int .i64 0,.int .i64 0,.int .i64 0,.int .i64 0,.int .i64 0]):=by kernel_rfl
theorem ty38:tyA prog 38=some (true,3):=by kernel_rfl
theorem fa38_0:fieldAddrA prog 38 (.ptr (some ⟨id,ver,o⟩)) 0=some (.ptr (some ⟨id,ver,o+0⟩)):=fieldAddr_eq (q:=false) (z:=1) (by kernel_rfl) (by decide)
theorem fa38_1:fieldAddrA prog 38 (.ptr (some ⟨id,ver,o⟩)) 1=some (.ptr (some ⟨id,ver,o+1⟩)):=fieldAddr_eq (q:=false) (z:=1) (by kernel_rfl) (by decide)
theorem fa38_2:fieldAddrA prog 38 (.ptr (some ⟨id,ver,o⟩)) 2=some (.ptr (some ⟨id,ver,o+2⟩)):=fieldAddr_eq (q:=false) (z:=1) (by kernel_rfl) (by decide)
theorem ty58:tyA prog 58=some (true,4):=by kernel_rfl
theorem zc58:zc prog 58=some [.slice none 0 0,.int .i64 0,.int .i64 0,.bool false]:=by kernel_rfl
theorem pl58:plcS prog 58=some [(0,1),(1,1),(2,1),(3,1)]:=by kernel_rfl
theorem fa58_0:fieldAddrA prog 58 (.ptr (some ⟨id,ver,o⟩)) 0=some (.ptr (some ⟨id,ver,o+0⟩)):=fieldAddr_eq (q:=false) (z:=1) (by kernel_rfl) (by decide)
theorem fa58_1:fieldAddrA prog 58 (.ptr (some ⟨id,ver,o⟩)) 1=some (.ptr (some ⟨id,ver,o+1⟩)):=fieldAddr_eq (q:=false) (z:=1) (by kernel_rfl) (by decide)
theorem fa58_2:fieldAddrA prog 58 (.ptr (some ⟨id,ver,o⟩)) 2=some (.ptr (some ⟨id,ver,o+2⟩)):=fieldAddr_eq (q:=false) (z:=1) (by kernel_rfl) (by decide)
theorem st58 {x0 x1 x2 x3:AVal}:stP prog base h 58 (.ptr (some ⟨id,ver,o⟩)) (.agg [x0,x1,x2,x3])=(stQ base id (h[id]?) ver o [x0,x1,x2,x3] (fun b=>h.set id b)).map fun h'=>(undefA,h'):=stP_ptr ty58 rfl
theorem ty59:tyA prog 59=some (false,1):=by kernel_rfl
theorem ar59:arT prog 59=none:=by kernel_rfl
theorem el59:elS prog 59=some (58,4,[.slice none 0 0,.int .i64 0,.int .i64 0,.bool false]):=by kernel_rfl
theorem st59 {x:AVal} (hx:One x):stP prog base h 59 (.ptr (some ⟨id,ver,o⟩)) x=(stQ base id (h[id]?) ver o [x] (fun b=>h.set id b)).map fun h'=>(undefA,h'):=stP_one ty59 hx
theorem ty60:tyA prog 60=some (false,1):=by kernel_rfl
theorem ar60:arT prog 60=none:=by kernel_rfl
theorem el60:elS prog 60=some (113,4,[.int .i64 0,.int .i64 0,.int .i64 0,.bool false]):=by kernel_rfl
theorem st60 {x:AVal} (hx:One x):stP prog base h 60 (.ptr (some ⟨id,ver,o⟩)) x=(stQ base id (h[id]?) ver o [x] (fun b=>h.set id b)).map fun h'=>(undefA,h'):=stP_one ty60 hx
theorem ty62:tyA prog 62=some (true,4):=by kernel_rfl
theorem zc62:zc prog 62=some [.int .i64 0,.int .i64 0,.slice none 0 0,.slice none 0 0]:=by kernel_rfl
theorem pl62:plcS prog 62=some [(0,1),(1,1),(2,1),(3,1)]:=by kernel_rfl
theorem fa62_0:fieldAddrA prog 62 (.ptr (some ⟨id,ver,o⟩)) 0=some (.ptr (some ⟨id,ver,o+0⟩)):=fieldAddr_eq (q:=false) (z:=1) (by kernel_rfl) (by decide)
theorem fa62_1:fieldAddrA prog 62 (.ptr (some ⟨id,ver,o⟩)) 1=some (.ptr (some ⟨id,ver,o+1⟩)):=fieldAddr_eq (q:=false) (z:=1) (by kernel_rfl) (by decide)
theorem fa62_2:fieldAddrA prog 62 (.ptr (some ⟨id,ver,o⟩)) 2=some (.ptr (some ⟨id,ver,o+2⟩)):=fieldAddr_eq (q:=false) (z:=1) (by kernel_rfl) (by decide)
theorem fa62_3:fieldAddrA prog 62 (.ptr (some ⟨id,ver,o⟩)) 3=some (.ptr (some ⟨id,ver,o+3⟩)):=fieldAddr_eq (q:=false) (z:=1) (by kernel_rfl) (by decide)
theorem st62 {x0 x1 x2 x3:AVal}:stP prog base h 62 (.ptr (some ⟨id,ver,o⟩)) (.agg [x0,x1,x2,x3])=(stQ base id (h[id]?) ver o [x0,x1,x2,x3] (fun b=>h.set id b)).map fun h'=>(undefA,h'):=stP_ptr ty62 rfl
theorem ar63:arT prog 63=none:=by kernel_rfl
theorem el63:elS prog 63=some (70,2,[.int .i64 0,.int .i64 0]):=by kernel_rfl
theorem ty67:tyA prog 67=some (true,3):=by kernel_rfl
theorem zc67:zc prog 67=some [.int .i64 0,.int .i64 0,.int .i64 0]:=by kernel_rfl
theorem pl67:plcS prog 67=some [(0,1),(1,1),(2,1)]:=by kernel_rfl
theorem fa67_0:fieldAddrA prog 67 (.ptr (some ⟨id,ver,o⟩)) 0=some (.ptr (some ⟨id,ver,o+0⟩)):=fieldAddr_eq (q:=false) (z:=1) (by kernel_rfl) (by decide)
theorem fa67_1:fieldAddrA prog 67 (.ptr (some ⟨id,ver,o⟩)) 1=some (.ptr (some ⟨id,ver,o+1⟩)):=fieldAddr_eq (q:=false) (z:=1) (by kernel_rfl) (by decide)
theorem fa67_2:fieldAddrA prog 67 (.ptr (some ⟨id,ver,o⟩)) 2=some (.ptr (some ⟨id,ver,o+2⟩)):=fieldAddr_eq (q:=false) (z:=1) (by kernel_rfl) (by decide)
theorem st67 {x0 x1 x2:AVal}:stP prog base h 67 (.ptr (some ⟨id,ver,o⟩)) (.agg [x0,x1,x2])=(stQ base id (h[id]?) ver o [x0,x1,x2] (fun b=>h.set id b)).map fun h'=>(undefA,h'):=stP_ptr ty67 rfl
theorem ty70:tyA prog 70=some (true,2):=by kernel_rfl
theorem zc70:zc prog 70=some [.int .i64 0,.int .i64 0]:=by kernel_rfl
theorem pl70:plcS prog 70=some [(0,1),(1,1)]:=by kernel_rfl
theorem fa70_1:fieldAddrA prog 70 (.ptr (some ⟨id,ver,o⟩)) 1=some (.ptr (some ⟨id,ver,o+1⟩)):=fieldAddr_eq (q:=false) (z:=1) (by kernel_rfl) (by decide)
theorem st70 {x0 x1:AVal}:stP prog base h 70 (.ptr (some ⟨id,ver,o⟩)) (.agg [x0,x1])=(stQ base id (h[id]?) ver o [x0,x1] (fun b=>h.set id b)).map fun h'=>(undefA,h'):=stP_ptr ty70 rfl
theorem ty74:tyA prog 74=some (true,5):=by kernel_rfl
theorem fa74_0:fieldAddrA prog 74 (.ptr (some ⟨id,ver,o⟩)) 0=some (.ptr (some ⟨id,ver,o+0⟩)):=fieldAddr_eq (q:=false) (z:=1) (by kernel_rfl) (by decide)
theorem fa74_1:fieldAddrA prog 74 (.ptr (some ⟨id,ver,o⟩)) 1=some (.ptr (some ⟨id,ver,o+1⟩)):=fieldAddr_eq (q:=false) (z:=1) (by kernel_rfl) (by decide)
theorem fa74_2:fieldAddrA prog 74 (.ptr (some ⟨id,ver,o⟩)) 2=some (.ptr (some ⟨id,ver,o+2⟩)):=fieldAddr_eq (q:=false) (z:=1) (by kernel_rfl) (by decide)
theorem fa74_3:fieldAddrA prog 74 (.ptr (some ⟨id,ver,o⟩)) 3=some (.ptr (some ⟨id,ver,o+3⟩)):=fieldAddr_eq (q:=false) (z:=1) (by kernel_rfl) (by decide)
theorem fa74_4:fieldAddrA prog 74 (.ptr (some ⟨id,ver,o⟩)) 4=some (.ptr (some ⟨id,ver,o+4⟩)):=fieldAddr_eq (q:=false) (z:=1) (by kernel_rfl) (by decide)
theorem fa80_0:fieldAddrA prog 80 (.ptr (some ⟨id,ver,o⟩)) 0=some (.ptr (some ⟨id,ver,o+0⟩)):=fieldAddr_eq (q:=false) (z:=1) (by kernel_rfl) (by decide)
theorem fa80_1:fieldAddrA prog 80 (.ptr (some ⟨id,ver,o⟩)) 1=some (.ptr (some ⟨id,ver,o+1⟩)):=fieldAddr_eq (q:=false) (z:=1) (by kernel_rfl) (by decide)
theorem ty100:tyA prog 100=some (false,1):=by kernel_rfl
theorem ar100:arT prog 100=none:=by kernel_rfl
theorem el100:elS prog 100=some (189,2,[.int .i64 0,.int .i64 0]):=by kernel_rfl
theorem st100 {x:AVal} (hx:One x):stP prog base h 100 (.ptr (some ⟨id,ver,o⟩)) x=(stQ base id (h[id]?) ver o [x] (fun b=>h.set id b)).map fun h'=>(undefA,h'):=stP_one ty100 hx
theorem ty101:tyA prog 101=some (false,1):=by kernel_rfl
theorem ar101:arT prog 101=none:=by kernel_rfl
theorem el101:elS prog 101=some (191,2,[.int .i64 0,.slice none 0 0]):=by kernel_rfl
theorem st101 {x:AVal} (hx:One x):stP prog base h 101 (.ptr (some ⟨id,ver,o⟩)) x=(stQ base id (h[id]?) ver o [x] (fun b=>h.set id b)).map fun h'=>(undefA,h'):=stP_one ty101 hx
theorem ty103:tyA prog 103=some (true,2):=by kernel_rfl
theorem zc103:zc prog 103=some [.slice none 0 0,.slice none 0 0]:=by kernel_rfl
theorem fa103_0:fieldAddrA prog 103 (.ptr (some ⟨id,ver,o⟩)) 0=some (.ptr (some ⟨id,ver,o+0⟩)):=fieldAddr_eq (q:=false) (z:=1) (by kernel_rfl) (by decide)
theorem fa103_1:fieldAddrA prog 103 (.ptr (some ⟨id,ver,o⟩)) 1=some (.ptr (some ⟨id,ver,o+1⟩)):=fieldAddr_eq (q:=false) (z:=1) (by kernel_rfl) (by decide)
theorem st103 {x0 x1:AVal}:stP prog base h 103 (.ptr (some ⟨id,ver,o⟩)) (.agg [x0,x1])=(stQ base id (h[id]?) ver o [x0,x1] (fun b=>h.set id b)).map fun h'=>(undefA,h'):=stP_ptr ty103 rfl
theorem ty105:tyA prog 105=some (false,1):=by kernel_rfl
theorem ar105:arT prog 105=none:=by kernel_rfl
theorem el105:elS prog 105=some (108,1,[.int .i64 0]):=by kernel_rfl
theorem ty108:tyA prog 108=some (false,1):=by kernel_rfl
theorem st108 {x:AVal} (hx:One x):stP prog base h 108 (.ptr (some ⟨id,ver,o⟩)) x=(stQ base id (h[id]?) ver o [x] (fun b=>h.set id b)).map fun h'=>(undefA,h'):=stP_one ty108 hx
theorem ty111:tyA prog 111=some (false,1):=by kernel_rfl
theorem zc111:zc prog 111=some [.nilFn]:=by kernel_rfl
theorem st111 {x:AVal} (hx:One x):stP prog base h 111 (.ptr (some ⟨id,ver,o⟩)) x=(stQ base id (h[id]?) ver o [x] (fun b=>h.set id b)).map fun h'=>(undefA,h'):=stP_one ty111 hx
theorem ty113:tyA prog 113=some (true,4):=by kernel_rfl
theorem zc113:zc prog 113=some [.int .i64 0,.int .i64 0,.int .i64 0,.bool false]:=by kernel_rfl
theorem pl113:plcS prog 113=some [(0,1),(1,2),(3,1)]:=by kernel_rfl
theorem fa113_0:fieldAddrA prog 113 (.ptr (some ⟨id,ver,o⟩)) 0=some (.ptr (some ⟨id,ver,o+0⟩)):=fieldAddr_eq (q:=false) (z:=1) (by kernel_rfl) (by decide)
theorem fa113_1:fieldAddrA prog 113 (.ptr (some ⟨id,ver,o⟩)) 1=some (.ptr (some ⟨id,ver,o+1⟩)):=fieldAddr_eq (q:=true) (z:=2) (by kernel_rfl) (by decide)
theorem fa113_2:fieldAddrA prog 113 (.ptr (some ⟨id,ver,o⟩)) 2=some (.ptr (some ⟨id,ver,o+3⟩)):=fieldAddr_eq (q:=false) (z:=1) (by kernel_rfl) (by decide)
theorem st113 {x0 x1 x2 x3:AVal}:stP prog base h 113 (.ptr (some ⟨id,ver,o⟩)) (.agg [x0,x1,x2,x3])=(stQ base id (h[id]?) ver o [x0,x1,x2,x3] (fun b=>h.set id b)).map fun h'=>(undefA,h'):=stP_ptr ty113 rfl
theorem ty116:tyA prog 116=some (false,1):=by kernel_rfl
theorem ar116:arT prog 116=none:=by kernel_rfl
theorem el116:elS prog 116=some (67,3,[.int .i64 0,.int .i64 0,.int .i64 0]):=by kernel_rfl
theorem un116:prog.underlying 116=some (.slice 67):=by kernel_rfl
theorem st116 {x:AVal} (hx:One x):stP prog base h 116 (.ptr (some ⟨id,ver,o⟩)) x=(stQ base id (h[id]?) ver o [x] (fun b=>h.set id b)).map fun h'=>(undefA,h'):=stP_one ty116 hx
theorem ty132:tyA prog 132=some (false,1):=by kernel_rfl
theorem zc132:zc prog 132=some [.nilFn]:=by kernel_rfl
theorem st132 {x:AVal} (hx:One x):stP prog base h 132 (.ptr (some ⟨id,ver,o⟩)) x=(stQ base id (h[id]?) ver o [x] (fun b=>h.set id b)).map fun h'=>(undefA,h'):=stP_one ty132 hx
theorem ty134:tyA prog 134=some (false,1):=by kernel_rfl
theorem ik134:ikT prog 134=some .u64:=by kernel_rfl
theorem st134 {x:AVal} (hx:One x):stP prog base h 134 (.ptr (some ⟨id,ver,o⟩)) x=(stQ base id (h[id]?) ver o [x] (fun b=>h.set id b)).map fun h'=>(undefA,h'):=stP_one ty134 hx
theorem zc136:zc prog 136=some [.slice none 0 0,.int .i64 0,.int .u64 0]:=by kernel_rfl
theorem pl136:plcS prog 136=some [(0,1),(1,1),(2,1)]:=by kernel_rfl
theorem fa136_0:fieldAddrA prog 136 (.ptr (some ⟨id,ver,o⟩)) 0=some (.ptr (some ⟨id,ver,o+0⟩)):=fieldAddr_eq (q:=false) (z:=1) (by kernel_rfl) (by decide)
theorem fa136_1:fieldAddrA prog 136 (.ptr (some ⟨id,ver,o⟩)) 1=some (.ptr (some ⟨id,ver,o+1⟩)):=fieldAddr_eq (q:=false) (z:=1) (by kernel_rfl) (by decide)
theorem fa136_2:fieldAddrA prog 136 (.ptr (some ⟨id,ver,o⟩)) 2=some (.ptr (some ⟨id,ver,o+2⟩)):=fieldAddr_eq (q:=false) (z:=1) (by kernel_rfl) (by decide)
theorem ty189:tyA prog 189=some (true,2):=by kernel_rfl
theorem zc189:zc prog 189=some [.int .i64 0,.int .i64 0]:=by kernel_rfl
theorem pl189:plcS prog 189=some [(0,1),(1,1)]:=by kernel_rfl
theorem fa189_0:fieldAddrA prog 189 (.ptr (some ⟨id,ver,o⟩)) 0=some (.ptr (some ⟨id,ver,o+0⟩)):=fieldAddr_eq (q:=false) (z:=1) (by kernel_rfl) (by decide)
theorem fa189_1:fieldAddrA prog 189 (.ptr (some ⟨id,ver,o⟩)) 1=some (.ptr (some ⟨id,ver,o+1⟩)):=fieldAddr_eq (q:=false) (z:=1) (by kernel_rfl) (by decide)
theorem st189 {x0 x1:AVal}:stP prog base h 189 (.ptr (some ⟨id,ver,o⟩)) (.agg [x0,x1])=(stQ base id (h[id]?) ver o [x0,x1] (fun b=>h.set id b)).map fun h'=>(undefA,h'):=stP_ptr ty189 rfl
theorem ty191:tyA prog 191=some (true,2):=by kernel_rfl
theorem zc191:zc prog 191=some [.int .i64 0,.slice none 0 0]:=by kernel_rfl
theorem pl191:plcS prog 191=some [(0,1),(1,1)]:=by kernel_rfl
theorem fa191_0:fieldAddrA prog 191 (.ptr (some ⟨id,ver,o⟩)) 0=some (.ptr (some ⟨id,ver,o+0⟩)):=fieldAddr_eq (q:=false) (z:=1) (by kernel_rfl) (by decide)
theorem fa191_1:fieldAddrA prog 191 (.ptr (some ⟨id,ver,o⟩)) 1=some (.ptr (some ⟨id,ver,o+1⟩)):=fieldAddr_eq (q:=false) (z:=1) (by kernel_rfl) (by decide)
theorem st191 {x0 x1:AVal}:stP prog base h 191 (.ptr (some ⟨id,ver,o⟩)) (.agg [x0,x1])=(stQ base id (h[id]?) ver o [x0,x1] (fun b=>h.set id b)).map fun h'=>(undefA,h'):=stP_ptr ty191 rfl
theorem ty194:tyA prog 194=some (false,1):=by kernel_rfl
theorem zc194:zc prog 194=some [.ptr none]:=by kernel_rfl
theorem st194 {x:AVal} (hx:One x):stP prog base h 194 (.ptr (some ⟨id,ver,o⟩)) x=(stQ base id (h[id]?) ver o [x] (fun b=>h.set id b)).map fun h'=>(undefA,h'):=stP_one ty194 hx
theorem ar201:arT prog 201=some (6,false,1):=by kernel_rfl
theorem ad201 {i:Int} (h0:0≤i) (h1:i<6):indexAddrA prog 201 (.ptr (some ⟨id,ver,o⟩)) (.int .i64 i)=some (.ptr (some ⟨id,ver,o+i.toNat * 1⟩)):=adr_arr ar201 h0 h1
theorem ar203:arT prog 203=some (9,true,6):=by kernel_rfl
theorem ad203 {i:Int} (h0:0≤i) (h1:i<9):indexAddrA prog 203 (.ptr (some ⟨id,ver,o⟩)) (.int .i64 i)=some (.ptr (some ⟨id,ver,o+i.toNat * 6⟩)):=adr_arr ar203 h0 h1
theorem zc205:zc prog 205=some [.slice none 0 0,.slice none 0 0,.bool false,.bool false,.bool false,.bool false,.bool false,.bool false,.bool false,.bool false,.bool false,.bool false,.bool false,.bool false,.bool false,.bool false,.bool false,.bool false,.bool false,.bool false,.bool false,.bool false,.bool false,.bool false,.bool false,.bool false,.bool false,.bool false,.bool false,.bool false,.bool false,.bool false,.bool false,.bool false,.bool false,.bool false,.bool false,.bool false,.bool false,.bool false,.bool false,.bool false,.bool false,.bool false,.bool false,.bool false,.bool false,.bool false,.bool false,.bool false,.bool false,.bool false,.bool false,.bool false,.bool false,.bool false]:=by kernel_rfl
theorem pl205:plcS prog 205=some [(0,2),(2,54)]:=by kernel_rfl
theorem fa205_0:fieldAddrA prog 205 (.ptr (some ⟨id,ver,o⟩)) 0=some (.ptr (some ⟨id,ver,o+0⟩)):=fieldAddr_eq (q:=true) (z:=2) (by kernel_rfl) (by decide)
theorem fa205_1:fieldAddrA prog 205 (.ptr (some ⟨id,ver,o⟩)) 1=some (.ptr (some ⟨id,ver,o+2⟩)):=fieldAddr_eq (q:=true) (z:=54) (by kernel_rfl) (by decide)
theorem ty210:tyA prog 210=some (false,1):=by kernel_rfl
theorem zc212:zc prog 212=some [.nilFn]:=by kernel_rfl
theorem pl212:plcS prog 212=some [(0,1)]:=by kernel_rfl
theorem fa212_0:fieldAddrA prog 212 (.ptr (some ⟨id,ver,o⟩)) 0=some (.ptr (some ⟨id,ver,o+0⟩)):=fieldAddr_eq (q:=false) (z:=1) (by kernel_rfl) (by decide)
theorem ty213:tyA prog 213=some (false,1):=by kernel_rfl
theorem ty217:tyA prog 217=some (true,2):=by kernel_rfl
theorem zc217:zc prog 217=some [.int .i64 0,.slice none 0 0]:=by kernel_rfl
theorem fa217_0:fieldAddrA prog 217 (.ptr (some ⟨id,ver,o⟩)) 0=some (.ptr (some ⟨id,ver,o+0⟩)):=fieldAddr_eq (q:=false) (z:=1) (by kernel_rfl) (by decide)
theorem fi217_0 {x0 x1:AVal}:fieldA prog 217 (.agg [x0,x1]) 0=some (x0):=by
 have h:fld prog 217 0=some (0,false,1):=by kernel_rfl
 simp [fieldA,h,partQ]
theorem fa217_1:fieldAddrA prog 217 (.ptr (some ⟨id,ver,o⟩)) 1=some (.ptr (some ⟨id,ver,o+1⟩)):=fieldAddr_eq (q:=false) (z:=1) (by kernel_rfl) (by decide)
theorem fi217_1 {x0 x1:AVal}:fieldA prog 217 (.agg [x0,x1]) 1=some (x1):=by
 have h:fld prog 217 1=some (1,false,1):=by kernel_rfl
 simp [fieldA,h,partQ]
theorem st217 {x0 x1:AVal}:stP prog base h 217 (.ptr (some ⟨id,ver,o⟩)) (.agg [x0,x1])=(stQ base id (h[id]?) ver o [x0,x1] (fun b=>h.set id b)).map fun h'=>(undefA,h'):=stP_ptr ty217 rfl
theorem ty219:tyA prog 219=some (false,1):=by kernel_rfl
theorem ty221:tyA prog 221=some (true,1):=by kernel_rfl
theorem zc221:zc prog 221=some [.nilFn]:=by kernel_rfl
theorem pl221:plcS prog 221=some [(0,1)]:=by kernel_rfl
theorem fa221_0:fieldAddrA prog 221 (.ptr (some ⟨id,ver,o⟩)) 0=some (.ptr (some ⟨id,ver,o+0⟩)):=fieldAddr_eq (q:=false) (z:=1) (by kernel_rfl) (by decide)
theorem st221 {x0:AVal}:stP prog base h 221 (.ptr (some ⟨id,ver,o⟩)) (.agg [x0])=(stQ base id (h[id]?) ver o [x0] (fun b=>h.set id b)).map fun h'=>(undefA,h'):=stP_ptr ty221 rfl
theorem ty227:tyA prog 227=some (true,4):=by kernel_rfl
theorem zc227:zc prog 227=some [.int .i64 0,.int .i64 0,.int .i64 0,.int .i64 0]:=by kernel_rfl
theorem pl227:plcS prog 227=some [(0,3),(3,1)]:=by kernel_rfl
theorem fa227_0:fieldAddrA prog 227 (.ptr (some ⟨id,ver,o⟩)) 0=some (.ptr (some ⟨id,ver,o+0⟩)):=fieldAddr_eq (q:=true) (z:=3) (by kernel_rfl) (by decide)
theorem fa227_1:fieldAddrA prog 227 (.ptr (some ⟨id,ver,o⟩)) 1=some (.ptr (some ⟨id,ver,o+3⟩)):=fieldAddr_eq (q:=false) (z:=1) (by kernel_rfl) (by decide)
theorem st227 {x0 x1 x2 x3:AVal}:stP prog base h 227 (.ptr (some ⟨id,ver,o⟩)) (.agg [x0,x1,x2,x3])=(stQ base id (h[id]?) ver o [x0,x1,x2,x3] (fun b=>h.set id b)).map fun h'=>(undefA,h'):=stP_ptr ty227 rfl
theorem ar228:arT prog 228=some (10,false,1):=by kernel_rfl
theorem zc229:zc prog 229=some (repCells [.bool false] 100):=by kernel_rfl
theorem ar229:arT prog 229=some (10,true,10):=by kernel_rfl
theorem ty230:tyA prog 230=some (false,1):=by kernel_rfl
theorem ar230:arT prog 230=none:=by kernel_rfl
theorem el230:elS prog 230=some (244,12,[.bool false,.bool false,.bool false,.bool false,.bool false,.bool false,.bool false,.bool false,.bool false,.bool false,.bool false,.bool false]):=by kernel_rfl
theorem zc232:zc prog 232=some [.int .i64 0,.int .i64 0,.slice none 0 0,.slice none 0 0,.slice none 0 0,.slice none 0 0]:=by kernel_rfl
theorem pl232:plcS prog 232=some [(0,4),(4,1),(5,1)]:=by kernel_rfl
theorem fa232_0:fieldAddrA prog 232 (.ptr (some ⟨id,ver,o⟩)) 0=some (.ptr (some ⟨id,ver,o+0⟩)):=fieldAddr_eq (q:=true) (z:=4) (by kernel_rfl) (by decide)
theorem fa232_1:fieldAddrA prog 232 (.ptr (some ⟨id,ver,o⟩)) 1=some (.ptr (some ⟨id,ver,o+4⟩)):=fieldAddr_eq (q:=false) (z:=1) (by kernel_rfl) (by decide)
theorem fa232_2:fieldAddrA prog 232 (.ptr (some ⟨id,ver,o⟩)) 2=some (.ptr (some ⟨id,ver,o+5⟩)):=fieldAddr_eq (q:=false) (z:=1) (by kernel_rfl) (by decide)
theorem ty239:tyA prog 239=some (false,1):=by kernel_rfl
theorem ty241:tyA prog 241=some (false,1):=by kernel_rfl
theorem ty244:tyA prog 244=some (true,12):=by kernel_rfl
theorem ar244:arT prog 244=some (12,false,1):=by kernel_rfl
theorem ad244 {i:Int} (h0:0≤i) (h1:i<12):indexAddrA prog 244 (.ptr (some ⟨id,ver,o⟩)) (.int .i64 i)=some (.ptr (some ⟨id,ver,o+i.toNat * 1⟩)):=adr_arr ar244 h0 h1
theorem ar255:arT prog 255=some (60,false,1):=by kernel_rfl
theorem ad255 {i:Int} (h0:0≤i) (h1:i<60):indexAddrA prog 255 (.ptr (some ⟨id,ver,o⟩)) (.int .i64 i)=some (.ptr (some ⟨id,ver,o+i.toNat * 1⟩)):=adr_arr ar255 h0 h1
theorem zc257:zc prog 257=some [.int .i64 0,.slice none 0 0,.slice none 0 0,.bool false,.bool false,.bool false,.bool false,.bool false,.bool false,.bool false,.bool false,.bool false,.bool false,.bool false,.bool false,.bool false,.bool false,.bool false,.bool false,.bool false,.bool false,.bool false,.bool false,.bool false,.bool false,.bool false,.bool false,.bool false,.bool false,.bool false,.bool false,.bool false,.bool false,.bool false,.bool false,.bool false,.bool false,.bool false,.bool false,.bool false,.bool false,.bool false,.bool false,.bool false,.bool false,.bool false,.bool false,.bool false,.bool false,.bool false,.bool false,.bool false,.bool false,.bool false,.bool false,.bool false,.bool false,.bool false,.bool false,.bool false,.bool false,.bool false,.bool false]:=by kernel_rfl
theorem pl257:plcS prog 257=some [(0,3),(3,60)]:=by kernel_rfl
theorem fa257_1:fieldAddrA prog 257 (.ptr (some ⟨id,ver,o⟩)) 1=some (.ptr (some ⟨id,ver,o+3⟩)):=fieldAddr_eq (q:=true) (z:=60) (by kernel_rfl) (by decide)
theorem ik278:ikT prog 278=some .u64:=by kernel_rfl
theorem ty296:tyA prog 296=some (false,1):=by kernel_rfl
theorem ty297:tyA prog 297=some (false,1):=by kernel_rfl
theorem zc297:zc prog 297=some [.slice none 0 0]:=by kernel_rfl
theorem ar297:arT prog 297=none:=by kernel_rfl
theorem el297:elS prog 297=some (217,2,[.int .i64 0,.slice none 0 0]):=by kernel_rfl
theorem ln297 {r:ARef} {m k:Nat}:lenOpA prog h 297 (.slice (some r) m k)=some (.int .i64 (m:Int)):=len_sl el297
theorem as297 {v f m k:Nat} {i:Int} (h0:0≤i) (h1:i<m):indexAddrA prog 297 (.slice (some ⟨id,v,f⟩) m k) (.int .i64 i)=some (.ptr (some ⟨id,v,f+i.toNat * 2⟩)):=adr_sl el297 ar297 h0 h1
theorem un297:prog.underlying 297=some (.slice 217):=by kernel_rfl
theorem st297 {x:AVal} (hx:One x):stP prog base h 297 (.ptr (some ⟨id,ver,o⟩)) x=(stQ base id (h[id]?) ver o [x] (fun b=>h.set id b)).map fun h'=>(undefA,h'):=stP_one ty297 hx
theorem mp304:mpT prog 304=some (70,4):=by kernel_rfl
theorem ty313:tyA prog 313=some (false,1):=by kernel_rfl
theorem ty358:tyA prog 358=some (false,1):=by kernel_rfl
theorem ty360:tyA prog 360=some (false,1):=by kernel_rfl
theorem bd58_1 {y1:AVal} (h1:One y1):buildA prog 58 [(1,y1)]=some (.agg [.slice none 0 0,y1,.int .i64 0,.bool false]):=by
 simp [buildA,zc58,pl58,fillA,splice,isN_agg,cells_agg,h1.1,h1.2.1]
theorem bd62_01 {y0 y1:AVal} (h0:One y0) (h1:One y1):buildA prog 62 [(0,y0),(1,y1)]=some (.agg [y0,y1,.slice none 0 0,.slice none 0 0]):=by
 simp [buildA,zc62,pl62,fillA,splice,isN_agg,cells_agg,h0.1,h0.2.1,h1.1,h1.2.1]
theorem bd67_0 {y0:AVal} (h0:One y0):buildA prog 67 [(0,y0)]=some (.agg [y0,.int .i64 0,.int .i64 0]):=by
 simp [buildA,zc67,pl67,fillA,splice,isN_agg,cells_agg,h0.1,h0.2.1]
theorem bd67_012 {y0 y1 y2:AVal} (h0:One y0) (h1:One y1) (h2:One y2):buildA prog 67 [(0,y0),(1,y1),(2,y2)]=some (.agg [y0,y1,y2]):=by
 simp [buildA,zc67,pl67,fillA,splice,isN_agg,cells_agg,h0.1,h0.2.1,h1.1,h1.2.1,h2.1,h2.2.1]
theorem bd70_01 {y0 y1:AVal} (h0:One y0) (h1:One y1):buildA prog 70 [(0,y0),(1,y1)]=some (.agg [y0,y1]):=by
 simp [buildA,zc70,pl70,fillA,splice,isN_agg,cells_agg,h0.1,h0.2.1,h1.1,h1.2.1]
theorem bd113_02 {y0 y2:AVal} (h0:One y0) (h2:One y2):buildA prog 113 [(0,y0),(2,y2)]=some (.agg [y0,.int .i64 0,.int .i64 0,y2]):=by
 simp [buildA,zc113,pl113,fillA,splice,isN_agg,cells_agg,h0.1,h0.2.1,h2.1,h2.2.1]
theorem bd136_02 {y0 y2:AVal} (h0:One y0) (h2:One y2):buildA prog 136 [(0,y0),(2,y2)]=some (.agg [y0,.int .i64 0,y2]):=by
 simp [buildA,zc136,pl136,fillA,splice,isN_agg,cells_agg,h0.1,h0.2.1,h2.1,h2.2.1]
theorem bd189_01 {y0 y1:AVal} (h0:One y0) (h1:One y1):buildA prog 189 [(0,y0),(1,y1)]=some (.agg [y0,y1]):=by
 simp [buildA,zc189,pl189,fillA,splice,isN_agg,cells_agg,h0.1,h0.2.1,h1.1,h1.2.1]
theorem bd191_0 {y0:AVal} (h0:One y0):buildA prog 191 [(0,y0)]=some (.agg [y0,.slice none 0 0]):=by
 simp [buildA,zc191,pl191,fillA,splice,isN_agg,cells_agg,h0.1,h0.2.1]
theorem bd205_0 {y0_0 y0_1:AVal} :buildA prog 205 [(0,.agg [y0_0,y0_1])]=some (.agg [y0_0,y0_1,.bool false,.bool false,.bool false,.bool false,.bool false,.bool false,.bool false,.bool false,.bool false,.bool false,.bool false,.bool false,.bool false,.bool false,.bool false,.bool false,.bool false,.bool false,.bool false,.bool false,.bool false,.bool false,.bool false,.bool false,.bool false,.bool false,.bool false,.bool false,.bool false,.bool false,.bool false,.bool false,.bool false,.bool false,.bool false,.bool false,.bool false,.bool false,.bool false,.bool false,.bool false,.bool false,.bool false,.bool false,.bool false,.bool false,.bool false,.bool false,.bool false,.bool false,.bool false,.bool false,.bool false,.bool false]):=by
 simp [buildA,zc205,pl205,fillA,splice,isN_agg,cells_agg]
theorem bd212_0 {y0:AVal} (h0:One y0):buildA prog 212 [(0,y0)]=some (.agg [y0]):=by
 simp [buildA,zc212,pl212,fillA,splice,isN_agg,cells_agg,h0.1,h0.2.1]
theorem bd221_0 {y0:AVal} (h0:One y0):buildA prog 221 [(0,y0)]=some (.agg [y0]):=by
 simp [buildA,zc221,pl221,fillA,splice,isN_agg,cells_agg,h0.1,h0.2.1]
theorem bd227_0 {y0_0 y0_1 y0_2:AVal} :buildA prog 227 [(0,.agg [y0_0,y0_1,y0_2])]=some (.agg [y0_0,y0_1,y0_2,.int .i64 0]):=by
 simp [buildA,zc227,pl227,fillA,splice,isN_agg,cells_agg]
theorem bd232_02 {y0_0 y0_1 y0_2 y0_3 y2:AVal} (h2:One y2):buildA prog 232 [(0,.agg [y0_0,y0_1,y0_2,y0_3]),(2,y2)]=some (.agg [y0_0,y0_1,y0_2,y0_3,.slice none 0 0,y2]):=by
 simp [buildA,zc232,pl232,fillA,splice,isN_agg,cells_agg,h2.1,h2.2.1]
theorem bd257_0 {y0_0 y0_1 y0_2:AVal} :buildA prog 257 [(0,.agg [y0_0,y0_1,y0_2])]=some (.agg [y0_0,y0_1,y0_2,.bool false,.bool false,.bool false,.bool false,.bool false,.bool false,.bool false,.bool false,.bool false,.bool false,.bool false,.bool false,.bool false,.bool false,.bool false,.bool false,.bool false,.bool false,.bool false,.bool false,.bool false,.bool false,.bool false,.bool false,.bool false,.bool false,.bool false,.bool false,.bool false,.bool false,.bool false,.bool false,.bool false,.bool false,.bool false,.bool false,.bool false,.bool false,.bool false,.bool false,.bool false,.bool false,.bool false,.bool false,.bool false,.bool false,.bool false,.bool false,.bool false,.bool false,.bool false,.bool false,.bool false,.bool false,.bool false,.bool false,.bool false,.bool false,.bool false,.bool false]):=by
 simp [buildA,zc257,pl257,fillA,splice,isN_agg,cells_agg]
theorem eq70 {a0:Int} {a1:Int} {b0:Int} {b1:Int}:binA prog .eql 70 (.agg [.int .i64 a0,.int .i64 a1]) (.agg [.int .i64 b0,.int .i64 b1])=some (.bool (decide (a0=b0∧a1=b1))):=by
 have h1:prog.eqGuardType prog.depth 70=false:=by kernel_rfl
 have s70:prog.stoodInHeld 70=false:=by kernel_rfl
 simp [binA,eqDepth,eqT,partA,partQ,h1,s70,underlying3,ty3,underlying70,ty70]
 by_cases e0:a0=b0<;>by_cases e1:a1=b1<;>simp [e0,e1]
end
attribute [go_sem] ty3 zc3 el3 st3 ty4 zc4 st4 ty5 ar9 ty22 ar22 el22 ar31 el31 ty35 zc35 ar35 el35 ln35 as35 st35 ty36 ar36 el36 ty38 fa38_0 fa38_1 fa38_2 ty58 zc58 fa58_0 fa58_1 fa58_2 st58 ty59 ar59 el59 st59 ty60 ar60 el60 st60 ty62 zc62 fa62_0 fa62_1 fa62_2 fa62_3 st62 ar63 el63 ty67 zc67 fa67_0 fa67_1 fa67_2 st67 ty70 zc70 fa70_1 st70 ty74 fa74_0 fa74_1 fa74_2 fa74_3 fa74_4 fa80_0 fa80_1 ty100 ar100 el100 st100 ty101 ar101 el101 st101 ty103 zc103 fa103_0 fa103_1 st103 ty105 ar105 el105 ty108 st108 ty111 zc111 st111 ty113 zc113 fa113_0 fa113_1 fa113_2 st113 ty116 ar116 el116 st116 ty132 zc132 st132 ty134 st134 zc136 fa136_0 fa136_1 fa136_2 ty189 zc189 fa189_0 fa189_1 st189 ty191 zc191 fa191_0 fa191_1 st191 ty194 zc194 st194 ar201 ad201 ar203 ad203 zc205 fa205_0 fa205_1 ty210 zc212 fa212_0 ty213 ty217 zc217 fa217_0 fi217_0 fa217_1 fi217_1 st217 ty219 ty221 zc221 fa221_0 st221 ty227 zc227 fa227_0 fa227_1 st227 ar228 zc229 ar229 ty230 ar230 el230 zc232 fa232_0 fa232_1 fa232_2 ty239 ty241 ty244 ar244 ad244 ar255 ad255 zc257 fa257_1 ty296 ty297 zc297 ar297 el297 ln297 as297 st297 mp304 ty313 ty358 ty360 bd58_1 bd62_01 bd67_0 bd67_012 bd70_01 bd113_02 bd136_02 bd189_01 bd191_0 bd205_0 bd212_0 bd221_0 bd227_0 bd232_02 bd257_0 eq70
attribute [go_sem] results3 results4 results5 results6 results7 results8 results9 results10 results11 results12 results13 results14 results15 results16 results17 results18 results19 results20 results21 results22 results23 results24 results25 results26 results27 results28 results29 results30 results31 results32 results33 results34 results35 results36 results37 results38 results39 results40 results41 results42 results43 results44 results45 results46 results47 results48 results49 results50 results51 results52 results53 results54 results55 results56 results57 results58 results59 results60 results61 results62 results63 results64 results65 results66 results67 results68 results69 results70 results71 results72 results73 results74 results75 results76 results77 results78 results79 results80 results81 results82 results83 results84 results85 results86 results87 results88 results89 results90 results91 results92 results93 results94 results95 results96 results97 results98 results99 results100 results101 results102 results103 results104 results105 results106 results107 results108 results109 results110 results111 results112 results113 results114 results115 results116 results117 results118 results119 results120 results121 results122 results123 results124 results125 results126 results127 results128 results129 results130 results131 results132 results133 results134 results135 results136 results137 results138 results139 results140 results141 results142 results143 results144 results145 results146 results147 results148 results149 results150 results151 results152 results153 results154 results155 results156 results157 results158 results159 results160 results161 results162 results163 results164 results165 results166 results167 results168 results169 results170 results171 results172 results173 results174 results175 results176 results177 results178 results179 results180 results181 results182 results183 results184 results185 results186 results187 results188 results189 results190 results191 results192 results193 results194 results195 results196 results197 results198 results199 results200 results201 results202 results203 results204 results205 results206 results207 results208 results209 results210 results211 results212 results213 results214 results215 results216 results217 results218 results219 results220 results221 results222 results223 results224 results225 results226 results227 results228 results229 results230 results231 results232 results233 results234 results235 results236 results237 results238 results239 results240 results241 results242 results243 results244 results245 results246 results247 results248 results249 results250 results251 results252 results253 results254 results255 results256 results257 results258 results259 results260 results261 results262 results263 results264 results265 results266 results267 results268 results269 results270 results271 results272 results273 results274 results275 results276 results277 results278 results279 results280 results281 results282 results283 results284 results285 results286 results287 results288 results289 results290 results291 results292 results293 results294 results295 results296
end Go.AM.Fc
namespace Go.AM
section
variable {P:Program} {raw:FuncId→Bool} {base:Nat}
def YieldsX (P:Program) (raw:FuncId→Bool) (base L:Nat) (g:AVal) (N:Nat) (X:Nat→List AVal→Heap→Prop) (pr:ABlk→Prop) (I:Nat→Heap→Prop):Prop :=
 ∀ (J:Nat→Heap→Prop) (S:Heap→Prop) (H0:Heap),L+1=H0.length→(∀ j H,J j H→I j H∧L+1≤H.length)→(∀ j H T,J j H→J j (H++T)) →
  (∀ j a H,j<N→X j a H→J j H→∃ b H',callL P raw base (.yld L) a H=some (.bool b,H')∧(∀ i x,L+1≤i→pr x→H[i]?=some x→H'[i]?=some x)∧H.length≤H'.length∧(b=true→J (j+1) H')∧(b=false→S H')) →
  J 0 H0→∃ v H',callL P raw base g [.yld L] H0=some (v,H')∧(J N H' ∨ S H')
end
end Go.AM
namespace Go.AM
section
variable {P:Program} {raw:FuncId→Bool} {base:Nat} {ops:Array Oper} {chk:Bool} {d:Option Tmp} {ty:TypeId} {pos:String} {af:Array Edge} {fr:AFrame} {h:Heap} {K:St→Prop}
theorem callL_srt {f:FuncId} {fn:Func} {id v n:Nat} {zs:List Int} {e:TypeId} {row:Bool} (hf:P.funcs[f]?=some fn) (hfn:(fn.params.size == 1 && (fn.ntmps == 11 && fn.results.size == 0))=true) (hb:fn.body.isSome=true) (hI:∃ e,SrtF P f e)
  (g1:h[id]?=some ⟨.cells (zs.map fun z=>AVal.int .i64 z) e row false,v⟩) (hn:n=zs.length) (hs:n<2147483648) (h0:0<n) :
  callL P raw base (.fn f [] []) [.slice (some ⟨id,v,0⟩) n n] h=some (.tuple [],h.set id ⟨.cells ((zs.mergeSort fun x y=>decide (x≤y)).map fun z=>AVal.int .i64 z) e row false,v⟩):=by
 have hq0:insQ fn [.slice (some ⟨id,v,0⟩) n n]=false:=by unfold insQ;simp
 have hq:srtQ fn [.slice (some ⟨id,v,0⟩) n n]=true:=by
  unfold srtQ
  rw [hfn]
  simp only [Bool.true_and,decide_true]
 have hz:∀ zs:List Int,intsOf (zs.map fun z=>AVal.int .i64 z)=some zs:=by
  intro zs
  induction zs with
  | nil=>rfl
  | cons a l ih=>simp [intsOf,ih]
 have hbA:bodyA fn [.slice (some ⟨id,v,0⟩) n n]=none:=by unfold bodyA;rw [if_pos (by rw [hq0,hq];rfl)]
 have hx:extA P base f fn [.slice (some ⟨id,v,0⟩) n n] h=some (.tuple [],h.set id ⟨.cells ((zs.mergeSort fun x y=>decide (x≤y)).map fun z=>AVal.int .i64 z) e row false,v⟩):=by
  unfold extA
  rw [if_neg (by rw [hq0];simp),if_pos hq]
  unfold srtA
  simp only [g1,hz]
  rw [if_pos ⟨hI,hb,rfl,hn,hs,h0⟩]
 unfold callL callWith
 simp only [hf,hbA]
 exact hx
end
end Go.AM
namespace Go.AM
def raw:FuncId→Bool:=fun f=>[17,61,228,12,21,56,54,47,48,64,65,93,132,130,131,133,203,10,16,258,38,32,34,40,36,87,99,105,107,88,89,120,175,180,122,123,181,100,106,227,240,14,15,45,46,52,9,125,138,207,208,252,259,284,293,53,7,22,23,24,66,69,71,151,262,155,28,31,33,35,79,81,83,84,91,37,173,170,167,26,27,30,72,80,169].contains f
end Go.AM
namespace Go.AM
open Go.Proofs.Tryz
section
variable {h A:Heap} {v:AVal} {l:List Int} {base n:Nat} {lit:Bool} {x:Int}
theorem lenI (hI:Ints h v l):lenOpA prog h 35 v=some (.int .i64 (l.length:Int)):=hI.len Fc.el35
theorem adrI {i:Int} (h0:0≤i) (hI:Ints h v l) (h1:i<l.length):indexAddrA prog 35 v (.int .i64 i)=some (elAddr v i.toNat):=hI.addr Fc.el35 Fc.ar35 h0 h1
theorem loadI {i:Nat} (hI:Ints h v l) (h1:i<l.length):loadP prog h 3 (elAddr v i)=some (.int .i64 (l.getD i 0)) :=
 hI.load Fc.ty3 (by rw [List.getD_eq_getElem?_getD,List.getElem?_eq_getElem h1];rfl)
theorem bslI (hl:lit=true):bsA prog lit h 35 1 [(0,.int .i64 x)]=some (.vals [.int .i64 x],h):=bs_lit hl Fc.el35
theorem bsrI (hl:lit=false):bsA prog lit h 35 1 [(0,.int .i64 x)]=some (.slice (some ⟨h.length,0,0⟩) 1 1,h++[rowB [x] 0]):=bs_row hl Fc.el35
theorem ints_nil {H:Heap}:Ints H (.slice none 0 0) []:=⟨⟨by simp,by simp⟩,.inl ⟨rfl,rfl⟩⟩
theorem slice_row {k:Nat} (hn:n=A.length) (hk:k=l.length) (hs:Small l):Ints (A++[rowB l 0]) (.slice (some ⟨n,0,0⟩) k k) l:=by
 subst hn hk
 exact Ints.fresh_row hs (by simp [rowB]) (Nat.le_refl _)
end
attribute [go_sem] lenI adrI loadI bslI bsrI
theorem extQ_ext {h H:Heap} {A:Prop} (e:Ext h H):extQ true h H A=A:=by
 simp only [extQ,true_imp_iff,and_iff_right_iff_imp,eq_iff_iff]
 exact fun _=>e
attribute [go_sem] extQ_ext
theorem getD_mem {l:List Int} {i:Nat} (hi:i<l.length):l.getD i 0 ∈ l:=by
 rw [List.getD_eq_getElem?_getD,List.getElem?_eq_getElem hi];exact List.getElem_mem hi
theorem tmodN (a b:Nat):(a:Int).tmod b=((a % b:Nat):Int):=rfl
theorem neB {a b:Bool}:binA prog .neq 4 (.bool a) (.bool b)=some (.bool (decide (a ≠ b))):=by cases a<;>cases b<;>kernel_rfl
end Go.AM
namespace Go.AM
open Go.Proofs.Tryz Go.RowKit Go.ChangeShapes
theorem own:ownKnob Go.Proofs.Tryz.prog.godebug=none:=by kernel_rfl
theorem laid:laidOutB Go.Proofs.Tryz.prog=true:=by kernel_rfl
theorem calls_true {f:FuncId} {args:List AVal} {A:Array Value} {R:List Rw} {W:World} {h':Heap} (hR:∀ r ∈ R,r.ok W) (hargs:VRs (muR R) args A.toList) (hv:callL prog raw 0 (.fn f [] []) args (heapR R)=some (.bool true,h')) :
  Calls prog f A W fun e W'=>e=.returned (.bool true)∧Below W.heap.size W W':=by
 have h0:=callL_sound (raw:=raw) allOk (Nat.zero_le _) (hrelR (P:=prog) hR) hargs (by intro q;cases q) hv
 refine (callsIn_wide.1 h0).mono fun e W' ⟨X,he,μ',_,hX,_,hE,_⟩=>?_
 have:X=.bool true:=by cases hX;rfl
 subst this
 exact ⟨he,below_of_evo hE⟩
theorem ints_of {R:List Rw} {i len cap:Nat} {zs:List Int} {r:Rw} {v:AVal} (hr:0<cap→R[i]?=some r) (hcs:r.cs=zs.map (AVal.int .i64)) (hz:zs.length=cap) (hl:len≤cap) (hb:cap<2 ^ 60) (hw:∀ z ∈ zs,(Lit.int .i64 z).wf=true)
  (hv:(v=.slice none 0 0∧cap=0) ∨ (v=.emp∧cap=0) ∨ (v=.slice (some ⟨i,0,0⟩) len cap∧0<cap)):Ints (heapR R) v (zs.take len):=by
 refine ⟨⟨by simp;omega,fun x hx=>?_⟩,?_⟩
 ·have:=hw x (List.mem_of_mem_take hx)
  simp [Lit.wf,IntKind.min,IntKind.max,IntKind.signed,IntKind.bits] at this
  omega
 ·rcases hv with ⟨rfl,h0⟩|⟨rfl,h0⟩|⟨rfl,h0⟩
  ·exact .inl ⟨rfl,by simp;exact .inr (List.eq_nil_of_length_eq_zero (by omega))⟩
  ·exact .inr (.inl ⟨rfl,by simp;exact .inr (List.eq_nil_of_length_eq_zero (by omega))⟩)
  ·have hlen:(zs.take len).length=len:=by rw [List.length_take];omega
   refine .inr (.inr ⟨⟨i,0,0⟩,cap,r.cs,3,false,true,by rw [hlen],heapR_get (hr h0),?_,?_,by rw [hlen];exact hl⟩)
   ·rw [hlen,hcs,List.drop_zero]
    simp [ints,List.map_take]
   ·rw [hlen,hcs];simp;omega
theorem bulk_slice {H:Type} {k:IntKind} {us vs:List Int}:Go.Proofs.YtcemgempgbjbeaaGreat.Rows.uptoBulk (.slice (lits (H:=H) k us) (lits k vs))=us.length+vs.length+1:=by
 have h:∀ l:List Int,Go.Proofs.YtcemgempgbjbeaaGreat.Rows.uptoBulkAll (lits (H:=H) k l)=l.length:=fun l=>by
  induction l with
  | nil=>rfl
  | cons x xs ih =>
   simp only [lits,List.map_cons,Go.Proofs.YtcemgempgbjbeaaGreat.Rows.uptoBulkAll,Go.Proofs.YtcemgempgbjbeaaGreat.Rows.uptoBulk,List.length_cons] at ih ⊢
   rw [ih];omega
 simp only [Go.Proofs.YtcemgempgbjbeaaGreat.Rows.uptoBulk,h]
end Go.AM
namespace Go.AM
open Go.Proofs.Tryz Go.RowKit Go.ChangeShapes Go.WideShapes Go.ChangeAt
open Go.Proofs.YtcemgempgbjbeaaGreat (Rows.uptoSmall Rows.uptoBulkAll Rows.uptoBulk)
set_option maxRecDepth 100000
structure SlA (W:World) (k:IntKind) (V:Value) (r:Rw) (zs:List Int) (len cap:Nat):Prop where
 ok:r.cs=[] ∨ r.ok W
 cs:r.cs=zs.map (AVal.int k)
 zl:zs.length=cap
 le:len≤cap
 wf:∀ z ∈ zs,(Lit.int k z).wf=true
 rd:∀ (i:Nat) (μ:Mu),(0<cap→μ.loc i 0=some ⟨r.blk,r.off,r.cs.length,0⟩)→∃ v,VR μ v V∧((v=.slice none 0 0∧cap=0) ∨ (v=.emp∧cap=0) ∨ (v=.slice (some ⟨i,0,0⟩) len cap∧0<cap))
theorem SlA.add {W:World} {k:IntKind} {V:Value} {r:Rw} {zs:List Int} {len cap:Nat} (h:SlA W k V r zs len cap) {R:List Rw} (hR:∀ x ∈ R,x.ok W) :
  ∃ R':List Rw,(∀ x ∈ R',x.ok W)∧(∀ (j:Nat) (x:Rw),R[j]?=some x→R'[j]?=some x)∧(0<cap→R'[R.length]?=some r):=by
 rcases h.ok with h1|h1
 ·refine ⟨R,hR,fun _ _ h=>h,fun hc=>?_⟩
  have:=congrArg List.length (h.cs.symm.trans h1)
  simp only [List.length_map,List.length_nil] at this
  have:=h.zl
  omega
 ·refine ⟨R++[r],fun x hx=>?_,fun j x hj=>?_,fun _=>by simp⟩
  ·rcases List.mem_append.1 hx with h2|h2
   ·exact hR x h2
   ·rw [List.mem_singleton] at h2;subst h2;exact h1
  ·rw [List.getElem?_append_left (List.getElem?_eq_some_iff.1 hj).1];exact hj
theorem SlA.ints {W:World} {V:Value} {r:Rw} {zs:List Int} {len cap i:Nat} {R:List Rw} (h:SlA W .i64 V r zs len cap) (hr:0<cap→R[i]?=some r) (hb:cap<2 ^ 60) :
  ∃ v,VR (muR R) v V∧Ints (heapR R) v (zs.take len):=by
 obtain ⟨v,h1,h2⟩:=h.rd i (muR R) (fun hc=>muR_loc (hr hc))
 exact ⟨v,h1,ints_of hr h.cs h.zl h.le hb h.wf h2⟩
theorem open_row {H:Type} {enc:TypeId × Value→H} {W:World} {t e:TypeId} {k:IntKind} {n:Nat} {V:Value} {x:DataW H × List MemPlace} (ht:prog.underlying t=some (.slice e)) (he:prog.underlying e=some (.int k)) (hc:prog.cellsOf e=1)
  (h:DataW.trod enc prog W 0 (fun _=>true) true n t [V]=some x):∃ (r:Rw) (zs:List Int) (len cap:Nat),SlA W k V r zs len cap∧cap≤Rows.uptoBulk x.1:=by
 obtain ⟨r,zs,len,cap,a1,a2,a3,a4,a5,a6,a7⟩:=arg_slice ht he hc h
 refine ⟨r,zs,len,cap,⟨a1,a2,a3,a4,a5,a7⟩,?_⟩
 rcases a6 with e6|e6
 ·by_cases hc0:cap=0
  ·omega
  ·exfalso
   obtain ⟨v,hv,h3⟩:=a7 0 (muR [r]) (fun _=>by rw [muR_loc (r:=r) rfl])
   rcases h3 with ⟨_,h4⟩|⟨_,h4⟩|⟨h4,_⟩
   ·exact hc0 h4
   ·exact hc0 h4
   ·subst h4
    cases hv with
    | slice r' L n' kcap C h5 =>
     have hx:=h
     rcases Go.ChangeShapes.open_ints ht he hc hx with ⟨h6,_⟩|⟨_,_,_,_,_,_,_,_,_,h6,_⟩
     ·simp at h6
     ·rw [h6] at e6;cases e6
    | slice0=>omega
 ·rw [e6,bulk_slice]
  simp only [List.length_take,List.length_drop]
  omega
end Go.AM
namespace Go.AM
open Go.Proofs.Tryz Go.RowKit Go.ChangeShapes Go.WideShapes Go.ChangeAt
open Go.Proofs.YtcemgempgbjbeaaGreat (Rows.uptoSmall Rows.uptoBulkAll Rows.uptoBulk)
set_option maxRecDepth 100000
theorem SlA.bytes {W:World} {V:Value} {r:Rw} {zs:List Int} {len cap i:Nat} {R:List Rw} (h:SlA W .u8 V r zs len cap) (hr:0<cap→R[i]?=some r) (hb:cap<2 ^ 60) :
  ∃ v,VR (muR R) v V∧Bytes (heapR R) v (zs.take len):=by
 obtain ⟨v,h1,hv⟩:=h.rd i (muR R) (fun hc=>muR_loc (hr hc))
 have hz:=h.zl
 have hl:=h.le
 refine ⟨v,h1,⟨by simp;omega,fun x hx=>?_⟩,?_⟩
 ·have:=h.wf x (List.mem_of_mem_take hx)
  simp [Lit.wf,IntKind.min,IntKind.max,IntKind.signed,IntKind.bits] at this
  omega
 ·rcases hv with ⟨rfl,h0⟩|⟨rfl,h0⟩|⟨rfl,h0⟩
  ·exact .inl ⟨rfl,by simp;exact .inr (List.eq_nil_of_length_eq_zero (by omega))⟩
  ·exact .inr (.inl ⟨rfl,by simp;exact .inr (List.eq_nil_of_length_eq_zero (by omega))⟩)
  ·have hlen:(zs.take len).length=len:=by rw [List.length_take];omega
   refine .inr (.inr ⟨⟨i,0,0⟩,cap,r.cs,3,false,true,by rw [hlen],heapR_get (hr h0),?_,?_,by rw [hlen];exact hl⟩)
   ·rw [hlen,h.cs,List.drop_zero,List.map_take]
   ·rw [hlen,h.cs];simp;omega
theorem openByt {H:Type} {enc:TypeId × Value→H} {W:World} {base:Nat} {V:Value} {d:DataW H} {p:List MemPlace} (hval:Value.okWide prog W .any base 22 V) (h:DataW.Trod enc prog W 0 (fun _=>true) true 22 V d p) :
  ∃ (r:Rw) (zs:List Int) (len cap:Nat),SlA W .u8 V r zs len cap∧cap≤Rows.uptoBulk d:=by
 obtain ⟨a0,n,k,rfl⟩:=okWide_slice underlying22 hval
 obtain ⟨fuel,hf⟩:=h
 exact open_row underlying22 underlying5 (by kernel_rfl) hf
end Go.AM
