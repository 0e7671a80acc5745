/-
  Facts of the types of one translation, by program (wip/tools/facts.py).
-/
import Derived.Test.YtcemgempgbjbeaaGreatU8
import Derived.Test.YtcemgempgbjbeaaGreatProg
import Derived.KernelRfl
import Derived.Test.YtcemgempgbjbeaaGreatU9
import Derived.Test.YtcemgempgbjbeaaGreatRows
import Derived.WalkKit
import Derived.ProofKit
import Derived.OpenShut
import Derived.JoinedCond
set_option linter.unusedSimpArgs false
set_option linter.unusedVariables false
namespace Go.AM.Fc
open Go.Proofs.Tryz
section
variable {id ver o:Nat} {h:Heap} {base:Nat}
theorem ty3:tyA prog 3=some (false,1):=by kernel_rfl
theorem zc3:zc prog 3=some [.int .i64 0]:=by kernel_rfl
theorem ik3:ikT prog 3=some .i64:=by kernel_rfl
theorem st3 {x:AVal} (hx:One x):stP prog base h 3 (.ptr (some ⟨id,ver,o⟩)) x=(stQ base id (h[id]?) ver o [x] (fun b=>h.set id b)).map fun h'=>(undefA,h'):=stP_one ty3 hx
theorem ty4:tyA prog 4=some (false,1):=by kernel_rfl
theorem st4 {x:AVal} (hx:One x):stP prog base h 4 (.ptr (some ⟨id,ver,o⟩)) x=(stQ base id (h[id]?) ver o [x] (fun b=>h.set id b)).map fun h'=>(undefA,h'):=stP_one ty4 hx
theorem ty5:tyA prog 5=some (false,1):=by kernel_rfl
theorem ty22:tyA prog 22=some (false,1):=by kernel_rfl
theorem ar22:arT prog 22=none:=by kernel_rfl
theorem el22:elS prog 22=some (5,1,[.int .u8 0]):=by kernel_rfl
theorem ty23:tyA prog 23=some (false,1):=by kernel_rfl
theorem ar23:arT prog 23=none:=by kernel_rfl
theorem el23:elS prog 23=some (131,4,[.int .i64 0,.int .i64 0,.int .i64 0,.int .i64 0]):=by kernel_rfl
theorem ty24:tyA prog 24=some (false,1):=by kernel_rfl
theorem ar24:arT prog 24=none:=by kernel_rfl
theorem el24:elS prog 24=some (133,3,[.int .i64 0,.int .i64 0,.int .i64 0]):=by kernel_rfl
theorem ty25:tyA prog 25=some (false,1):=by kernel_rfl
theorem ar25:arT prog 25=none:=by kernel_rfl
theorem el25:elS prog 25=some (128,3,[.int .i64 0,.int .i64 0,.int .i64 0]):=by kernel_rfl
theorem ty27:tyA prog 27=some (true,3):=by kernel_rfl
theorem zc27:zc prog 27=some [.slice none 0 0,.slice none 0 0,.slice none 0 0]:=by kernel_rfl
theorem pl27:plcS prog 27=some [(0,1),(1,1),(2,1)]:=by kernel_rfl
theorem fa27_0:fieldAddrA prog 27 (.ptr (some ⟨id,ver,o⟩)) 0=some (.ptr (some ⟨id,ver,o+0⟩)):=fieldAddr_eq (q:=false) (z:=1) (by kernel_rfl) (by decide)
theorem fa27_1:fieldAddrA prog 27 (.ptr (some ⟨id,ver,o⟩)) 1=some (.ptr (some ⟨id,ver,o+1⟩)):=fieldAddr_eq (q:=false) (z:=1) (by kernel_rfl) (by decide)
theorem fa27_2:fieldAddrA prog 27 (.ptr (some ⟨id,ver,o⟩)) 2=some (.ptr (some ⟨id,ver,o+2⟩)):=fieldAddr_eq (q:=false) (z:=1) (by kernel_rfl) (by decide)
theorem st27 {x0 x1 x2:AVal}:stP prog base h 27 (.ptr (some ⟨id,ver,o⟩)) (.agg [x0,x1,x2])=(stQ base id (h[id]?) ver o [x0,x1,x2] (fun b=>h.set id b)).map fun h'=>(undefA,h'):=stP_ptr ty27 rfl
theorem ar31:arT prog 31=none:=by kernel_rfl
theorem el31:elS prog 31=some (35,1,[.slice none 0 0]):=by kernel_rfl
theorem ty35:tyA prog 35=some (false,1):=by kernel_rfl
theorem zc35:zc prog 35=some [.slice none 0 0]:=by kernel_rfl
theorem ar35:arT prog 35=none:=by kernel_rfl
theorem el35:elS prog 35=some (3,1,[.int .i64 0]):=by kernel_rfl
theorem ln35 {r:ARef} {m k:Nat}:lenOpA prog h 35 (.slice (some r) m k)=some (.int .i64 (m:Int)):=len_sl el35
theorem as35 {v f m k:Nat} {i:Int} (h0:0≤i) (h1:i<m):indexAddrA prog 35 (.slice (some ⟨id,v,f⟩) m k) (.int .i64 i)=some (.ptr (some ⟨id,v,f+i.toNat * 1⟩)):=adr_sl el35 ar35 h0 h1
theorem un35:prog.underlying 35=some (.slice 3):=by kernel_rfl
theorem st35 {x:AVal} (hx:One x):stP prog base h 35 (.ptr (some ⟨id,ver,o⟩)) x=(stQ base id (h[id]?) ver o [x] (fun b=>h.set id b)).map fun h'=>(undefA,h'):=stP_one ty35 hx
theorem ty36:tyA prog 36=some (false,1):=by kernel_rfl
theorem ar36:arT prog 36=none:=by kernel_rfl
theorem el36:elS prog 36=some (74,5,[.int .i64 0,.int .i64 0,.int .i64 0,.int .i64 0,.int .i64 0]):=by kernel_rfl
theorem st36 {x:AVal} (hx:One x):stP prog base h 36 (.ptr (some ⟨id,ver,o⟩)) x=(stQ base id (h[id]?) ver o [x] (fun b=>h.set id b)).map fun h'=>(undefA,h'):=stP_one ty36 hx
theorem ty38:tyA prog 38=some (true,3):=by kernel_rfl
theorem zc38:zc prog 38=some [.int .i64 0,.slice none 0 0,.slice none 0 0]:=by kernel_rfl
theorem pl38:plcS prog 38=some [(0,1),(1,1),(2,1)]:=by kernel_rfl
theorem fa38_0:fieldAddrA prog 38 (.ptr (some ⟨id,ver,o⟩)) 0=some (.ptr (some ⟨id,ver,o+0⟩)):=fieldAddr_eq (q:=false) (z:=1) (by kernel_rfl) (by decide)
theorem fa38_1:fieldAddrA prog 38 (.ptr (some ⟨id,ver,o⟩)) 1=some (.ptr (some ⟨id,ver,o+1⟩)):=fieldAddr_eq (q:=false) (z:=1) (by kernel_rfl) (by decide)
theorem fa38_2:fieldAddrA prog 38 (.ptr (some ⟨id,ver,o⟩)) 2=some (.ptr (some ⟨id,ver,o+2⟩)):=fieldAddr_eq (q:=false) (z:=1) (by kernel_rfl) (by decide)
theorem st38 {x0 x1 x2:AVal}:stP prog base h 38 (.ptr (some ⟨id,ver,o⟩)) (.agg [x0,x1,x2])=(stQ base id (h[id]?) ver o [x0,x1,x2] (fun b=>h.set id b)).map fun h'=>(undefA,h'):=stP_ptr ty38 rfl
theorem ty41:tyA prog 41=some (false,1):=by kernel_rfl
theorem zc41:zc prog 41=some [.slice none 0 0]:=by kernel_rfl
theorem ar41:arT prog 41=none:=by kernel_rfl
theorem el41:elS prog 41=some (95,3,[.int .i64 0,.int .i64 0,.bool false]):=by kernel_rfl
theorem as41 {v f m k:Nat} {i:Int} (h0:0≤i) (h1:i<m):indexAddrA prog 41 (.slice (some ⟨id,v,f⟩) m k) (.int .i64 i)=some (.ptr (some ⟨id,v,f+i.toNat * 3⟩)):=adr_sl el41 ar41 h0 h1
theorem st41 {x:AVal} (hx:One x):stP prog base h 41 (.ptr (some ⟨id,ver,o⟩)) x=(stQ base id (h[id]?) ver o [x] (fun b=>h.set id b)).map fun h'=>(undefA,h'):=stP_one ty41 hx
theorem ty48:tyA prog 48=some (false,1):=by kernel_rfl
theorem ty50:tyA prog 50=some (true,4):=by kernel_rfl
theorem zc50:zc prog 50=some [.int .i64 0,.slice none 0 0,.int .i64 0,.int .i64 0]:=by kernel_rfl
theorem pl50:plcS prog 50=some [(0,1),(1,1),(2,1),(3,1)]:=by kernel_rfl
theorem fa50_1:fieldAddrA prog 50 (.ptr (some ⟨id,ver,o⟩)) 1=some (.ptr (some ⟨id,ver,o+1⟩)):=fieldAddr_eq (q:=false) (z:=1) (by kernel_rfl) (by decide)
theorem st50 {x0 x1 x2 x3:AVal}:stP prog base h 50 (.ptr (some ⟨id,ver,o⟩)) (.agg [x0,x1,x2,x3])=(stQ base id (h[id]?) ver o [x0,x1,x2,x3] (fun b=>h.set id b)).map fun h'=>(undefA,h'):=stP_ptr ty50 rfl
theorem ty54:tyA prog 54=some (true,2):=by kernel_rfl
theorem zc54:zc prog 54=some [.int .i64 0,.slice none 0 0]:=by kernel_rfl
theorem pl54:plcS prog 54=some [(0,1),(1,1)]:=by kernel_rfl
theorem fa54_0:fieldAddrA prog 54 (.ptr (some ⟨id,ver,o⟩)) 0=some (.ptr (some ⟨id,ver,o+0⟩)):=fieldAddr_eq (q:=false) (z:=1) (by kernel_rfl) (by decide)
theorem fa54_1:fieldAddrA prog 54 (.ptr (some ⟨id,ver,o⟩)) 1=some (.ptr (some ⟨id,ver,o+1⟩)):=fieldAddr_eq (q:=false) (z:=1) (by kernel_rfl) (by decide)
theorem ty58:tyA prog 58=some (true,4):=by kernel_rfl
theorem ar59:arT prog 59=none:=by kernel_rfl
theorem el59:elS prog 59=some (58,4,[.slice none 0 0,.int .i64 0,.int .i64 0,.bool false]):=by kernel_rfl
theorem ty74:tyA prog 74=some (true,5):=by kernel_rfl
theorem zc74:zc prog 74=some [.int .i64 0,.int .i64 0,.int .i64 0,.int .i64 0,.int .i64 0]:=by kernel_rfl
theorem pl74:plcS prog 74=some [(0,1),(1,1),(2,1),(3,1),(4,1)]:=by kernel_rfl
theorem fa74_0:fieldAddrA prog 74 (.ptr (some ⟨id,ver,o⟩)) 0=some (.ptr (some ⟨id,ver,o+0⟩)):=fieldAddr_eq (q:=false) (z:=1) (by kernel_rfl) (by decide)
theorem fa74_1:fieldAddrA prog 74 (.ptr (some ⟨id,ver,o⟩)) 1=some (.ptr (some ⟨id,ver,o+1⟩)):=fieldAddr_eq (q:=false) (z:=1) (by kernel_rfl) (by decide)
theorem fa74_2:fieldAddrA prog 74 (.ptr (some ⟨id,ver,o⟩)) 2=some (.ptr (some ⟨id,ver,o+2⟩)):=fieldAddr_eq (q:=false) (z:=1) (by kernel_rfl) (by decide)
theorem fa74_3:fieldAddrA prog 74 (.ptr (some ⟨id,ver,o⟩)) 3=some (.ptr (some ⟨id,ver,o+3⟩)):=fieldAddr_eq (q:=false) (z:=1) (by kernel_rfl) (by decide)
theorem fa74_4:fieldAddrA prog 74 (.ptr (some ⟨id,ver,o⟩)) 4=some (.ptr (some ⟨id,ver,o+4⟩)):=fieldAddr_eq (q:=false) (z:=1) (by kernel_rfl) (by decide)
theorem st74 {x0 x1 x2 x3 x4:AVal}:stP prog base h 74 (.ptr (some ⟨id,ver,o⟩)) (.agg [x0,x1,x2,x3,x4])=(stQ base id (h[id]?) ver o [x0,x1,x2,x3,x4] (fun b=>h.set id b)).map fun h'=>(undefA,h'):=stP_ptr ty74 rfl
theorem ar76:arT prog 76=none:=by kernel_rfl
theorem el76:elS prog 76=some (80,2,[.int .i64 0,.int .i64 0]):=by kernel_rfl
theorem as76 {v f m k:Nat} {i:Int} (h0:0≤i) (h1:i<m):indexAddrA prog 76 (.slice (some ⟨id,v,f⟩) m k) (.int .i64 i)=some (.ptr (some ⟨id,v,f+i.toNat * 2⟩)):=adr_sl el76 ar76 h0 h1
theorem un76:prog.underlying 76=some (.slice 80):=by kernel_rfl
theorem ty80:tyA prog 80=some (true,2):=by kernel_rfl
theorem zc80:zc prog 80=some [.int .i64 0,.int .i64 0]:=by kernel_rfl
theorem pl80:plcS prog 80=some [(0,1),(1,1)]:=by kernel_rfl
theorem fa80_0:fieldAddrA prog 80 (.ptr (some ⟨id,ver,o⟩)) 0=some (.ptr (some ⟨id,ver,o+0⟩)):=fieldAddr_eq (q:=false) (z:=1) (by kernel_rfl) (by decide)
theorem fa80_1:fieldAddrA prog 80 (.ptr (some ⟨id,ver,o⟩)) 1=some (.ptr (some ⟨id,ver,o+1⟩)):=fieldAddr_eq (q:=false) (z:=1) (by kernel_rfl) (by decide)
theorem st80 {x0 x1:AVal}:stP prog base h 80 (.ptr (some ⟨id,ver,o⟩)) (.agg [x0,x1])=(stQ base id (h[id]?) ver o [x0,x1] (fun b=>h.set id b)).map fun h'=>(undefA,h'):=stP_ptr ty80 rfl
theorem ty81:tyA prog 81=some (false,1):=by kernel_rfl
theorem ty83:tyA prog 83=some (true,2):=by kernel_rfl
theorem zc83:zc prog 83=some [.int .i64 0,.int .i64 0]:=by kernel_rfl
theorem pl83:plcS prog 83=some [(0,1),(1,1)]:=by kernel_rfl
theorem fa83_0:fieldAddrA prog 83 (.ptr (some ⟨id,ver,o⟩)) 0=some (.ptr (some ⟨id,ver,o+0⟩)):=fieldAddr_eq (q:=false) (z:=1) (by kernel_rfl) (by decide)
theorem fa83_1:fieldAddrA prog 83 (.ptr (some ⟨id,ver,o⟩)) 1=some (.ptr (some ⟨id,ver,o+1⟩)):=fieldAddr_eq (q:=false) (z:=1) (by kernel_rfl) (by decide)
theorem st83 {x0 x1:AVal}:stP prog base h 83 (.ptr (some ⟨id,ver,o⟩)) (.agg [x0,x1])=(stQ base id (h[id]?) ver o [x0,x1] (fun b=>h.set id b)).map fun h'=>(undefA,h'):=stP_ptr ty83 rfl
theorem ty84:tyA prog 84=some (false,1):=by kernel_rfl
theorem ar84:arT prog 84=none:=by kernel_rfl
theorem el84:elS prog 84=some (83,2,[.int .i64 0,.int .i64 0]):=by kernel_rfl
theorem un84:prog.underlying 84=some (.slice 83):=by kernel_rfl
theorem st84 {x:AVal} (hx:One x):stP prog base h 84 (.ptr (some ⟨id,ver,o⟩)) x=(stQ base id (h[id]?) ver o [x] (fun b=>h.set id b)).map fun h'=>(undefA,h'):=stP_one ty84 hx
theorem ty85:tyA prog 85=some (false,1):=by kernel_rfl
theorem ar85:arT prog 85=none:=by kernel_rfl
theorem el85:elS prog 85=some (93,4,[.int .i64 0,.int .i64 0,.int .i64 0,.int .i64 0]):=by kernel_rfl
theorem st85 {x:AVal} (hx:One x):stP prog base h 85 (.ptr (some ⟨id,ver,o⟩)) x=(stQ base id (h[id]?) ver o [x] (fun b=>h.set id b)).map fun h'=>(undefA,h'):=stP_one ty85 hx
theorem ty87:tyA prog 87=some (true,3):=by kernel_rfl
theorem zc87:zc prog 87=some [.int .i64 0,.slice none 0 0,.slice none 0 0]:=by kernel_rfl
theorem pl87:plcS prog 87=some [(0,1),(1,1),(2,1)]:=by kernel_rfl
theorem fa87_0:fieldAddrA prog 87 (.ptr (some ⟨id,ver,o⟩)) 0=some (.ptr (some ⟨id,ver,o+0⟩)):=fieldAddr_eq (q:=false) (z:=1) (by kernel_rfl) (by decide)
theorem fa87_1:fieldAddrA prog 87 (.ptr (some ⟨id,ver,o⟩)) 1=some (.ptr (some ⟨id,ver,o+1⟩)):=fieldAddr_eq (q:=false) (z:=1) (by kernel_rfl) (by decide)
theorem fa87_2:fieldAddrA prog 87 (.ptr (some ⟨id,ver,o⟩)) 2=some (.ptr (some ⟨id,ver,o+2⟩)):=fieldAddr_eq (q:=false) (z:=1) (by kernel_rfl) (by decide)
theorem st87 {x0 x1 x2:AVal}:stP prog base h 87 (.ptr (some ⟨id,ver,o⟩)) (.agg [x0,x1,x2])=(stQ base id (h[id]?) ver o [x0,x1,x2] (fun b=>h.set id b)).map fun h'=>(undefA,h'):=stP_ptr ty87 rfl
theorem ar88:arT prog 88=none:=by kernel_rfl
theorem el88:elS prog 88=some (81,1,[.int .i64 0]):=by kernel_rfl
theorem ty93:tyA prog 93=some (true,4):=by kernel_rfl
theorem zc93:zc prog 93=some [.int .i64 0,.int .i64 0,.int .i64 0,.int .i64 0]:=by kernel_rfl
theorem pl93:plcS prog 93=some [(0,1),(1,1),(2,2)]:=by kernel_rfl
theorem fa93_0:fieldAddrA prog 93 (.ptr (some ⟨id,ver,o⟩)) 0=some (.ptr (some ⟨id,ver,o+0⟩)):=fieldAddr_eq (q:=false) (z:=1) (by kernel_rfl) (by decide)
theorem fa93_1:fieldAddrA prog 93 (.ptr (some ⟨id,ver,o⟩)) 1=some (.ptr (some ⟨id,ver,o+1⟩)):=fieldAddr_eq (q:=false) (z:=1) (by kernel_rfl) (by decide)
theorem fa93_2:fieldAddrA prog 93 (.ptr (some ⟨id,ver,o⟩)) 2=some (.ptr (some ⟨id,ver,o+2⟩)):=fieldAddr_eq (q:=true) (z:=2) (by kernel_rfl) (by decide)
theorem st93 {x0 x1 x2 x3:AVal}:stP prog base h 93 (.ptr (some ⟨id,ver,o⟩)) (.agg [x0,x1,x2,x3])=(stQ base id (h[id]?) ver o [x0,x1,x2,x3] (fun b=>h.set id b)).map fun h'=>(undefA,h'):=stP_ptr ty93 rfl
theorem ty95:tyA prog 95=some (true,3):=by kernel_rfl
theorem zc95:zc prog 95=some [.int .i64 0,.int .i64 0,.bool false]:=by kernel_rfl
theorem pl95:plcS prog 95=some [(0,1),(1,1),(2,1)]:=by kernel_rfl
theorem fa95_0:fieldAddrA prog 95 (.ptr (some ⟨id,ver,o⟩)) 0=some (.ptr (some ⟨id,ver,o+0⟩)):=fieldAddr_eq (q:=false) (z:=1) (by kernel_rfl) (by decide)
theorem fa95_1:fieldAddrA prog 95 (.ptr (some ⟨id,ver,o⟩)) 1=some (.ptr (some ⟨id,ver,o+1⟩)):=fieldAddr_eq (q:=false) (z:=1) (by kernel_rfl) (by decide)
theorem fa95_2:fieldAddrA prog 95 (.ptr (some ⟨id,ver,o⟩)) 2=some (.ptr (some ⟨id,ver,o+2⟩)):=fieldAddr_eq (q:=false) (z:=1) (by kernel_rfl) (by decide)
theorem st95 {x0 x1 x2:AVal}:stP prog base h 95 (.ptr (some ⟨id,ver,o⟩)) (.agg [x0,x1,x2])=(stQ base id (h[id]?) ver o [x0,x1,x2] (fun b=>h.set id b)).map fun h'=>(undefA,h'):=stP_ptr ty95 rfl
theorem ty111:tyA prog 111=some (false,1):=by kernel_rfl
theorem zc111:zc prog 111=some [.nilFn]:=by kernel_rfl
theorem st111 {x:AVal} (hx:One x):stP prog base h 111 (.ptr (some ⟨id,ver,o⟩)) x=(stQ base id (h[id]?) ver o [x] (fun b=>h.set id b)).map fun h'=>(undefA,h'):=stP_one ty111 hx
theorem ty128:tyA prog 128=some (true,3):=by kernel_rfl
theorem ar128:arT prog 128=some (3,false,1):=by kernel_rfl
theorem ad128 {i:Int} (h0:0≤i) (h1:i<3):indexAddrA prog 128 (.ptr (some ⟨id,ver,o⟩)) (.int .i64 i)=some (.ptr (some ⟨id,ver,o+i.toNat * 1⟩)):=adr_arr ar128 h0 h1
theorem ty131:tyA prog 131=some (true,4):=by kernel_rfl
theorem zc131:zc prog 131=some [.int .i64 0,.int .i64 0,.int .i64 0,.int .i64 0]:=by kernel_rfl
theorem pl131:plcS prog 131=some [(0,3),(3,1)]:=by kernel_rfl
theorem fa131_0:fieldAddrA prog 131 (.ptr (some ⟨id,ver,o⟩)) 0=some (.ptr (some ⟨id,ver,o+0⟩)):=fieldAddr_eq (q:=true) (z:=3) (by kernel_rfl) (by decide)
theorem fa131_1:fieldAddrA prog 131 (.ptr (some ⟨id,ver,o⟩)) 1=some (.ptr (some ⟨id,ver,o+3⟩)):=fieldAddr_eq (q:=false) (z:=1) (by kernel_rfl) (by decide)
theorem ty132:tyA prog 132=some (false,1):=by kernel_rfl
theorem zc132:zc prog 132=some [.nilFn]:=by kernel_rfl
theorem st132 {x:AVal} (hx:One x):stP prog base h 132 (.ptr (some ⟨id,ver,o⟩)) x=(stQ base id (h[id]?) ver o [x] (fun b=>h.set id b)).map fun h'=>(undefA,h'):=stP_one ty132 hx
theorem ty133:tyA prog 133=some (true,3):=by kernel_rfl
theorem ar133:arT prog 133=some (3,false,1):=by kernel_rfl
theorem ty134:tyA prog 134=some (false,1):=by kernel_rfl
theorem ik134:ikT prog 134=some .u64:=by kernel_rfl
theorem st134 {x:AVal} (hx:One x):stP prog base h 134 (.ptr (some ⟨id,ver,o⟩)) x=(stQ base id (h[id]?) ver o [x] (fun b=>h.set id b)).map fun h'=>(undefA,h'):=stP_one ty134 hx
theorem zc136:zc prog 136=some [.slice none 0 0,.int .i64 0,.int .u64 0]:=by kernel_rfl
theorem pl136:plcS prog 136=some [(0,1),(1,1),(2,1)]:=by kernel_rfl
theorem fa136_0:fieldAddrA prog 136 (.ptr (some ⟨id,ver,o⟩)) 0=some (.ptr (some ⟨id,ver,o+0⟩)):=fieldAddr_eq (q:=false) (z:=1) (by kernel_rfl) (by decide)
theorem fa136_1:fieldAddrA prog 136 (.ptr (some ⟨id,ver,o⟩)) 1=some (.ptr (some ⟨id,ver,o+1⟩)):=fieldAddr_eq (q:=false) (z:=1) (by kernel_rfl) (by decide)
theorem fa136_2:fieldAddrA prog 136 (.ptr (some ⟨id,ver,o⟩)) 2=some (.ptr (some ⟨id,ver,o+2⟩)):=fieldAddr_eq (q:=false) (z:=1) (by kernel_rfl) (by decide)
theorem ty137:tyA prog 137=some (false,1):=by kernel_rfl
theorem zc137:zc prog 137=some [.ptr none]:=by kernel_rfl
theorem st137 {x:AVal} (hx:One x):stP prog base h 137 (.ptr (some ⟨id,ver,o⟩)) x=(stQ base id (h[id]?) ver o [x] (fun b=>h.set id b)).map fun h'=>(undefA,h'):=stP_one ty137 hx
theorem ty142:tyA prog 142=some (false,1):=by kernel_rfl
theorem ty147:tyA prog 147=some (true,2):=by kernel_rfl
theorem zc147:zc prog 147=some [.int .i64 0,.int .i64 0]:=by kernel_rfl
theorem pl147:plcS prog 147=some [(0,1),(1,1)]:=by kernel_rfl
theorem fa147_0:fieldAddrA prog 147 (.ptr (some ⟨id,ver,o⟩)) 0=some (.ptr (some ⟨id,ver,o+0⟩)):=fieldAddr_eq (q:=false) (z:=1) (by kernel_rfl) (by decide)
theorem fa147_1:fieldAddrA prog 147 (.ptr (some ⟨id,ver,o⟩)) 1=some (.ptr (some ⟨id,ver,o+1⟩)):=fieldAddr_eq (q:=false) (z:=1) (by kernel_rfl) (by decide)
theorem st147 {x0 x1:AVal}:stP prog base h 147 (.ptr (some ⟨id,ver,o⟩)) (.agg [x0,x1])=(stQ base id (h[id]?) ver o [x0,x1] (fun b=>h.set id b)).map fun h'=>(undefA,h'):=stP_ptr ty147 rfl
theorem ty148:tyA prog 148=some (false,1):=by kernel_rfl
theorem zc150:zc prog 150=some [.nilFn]:=by kernel_rfl
theorem pl150:plcS prog 150=some [(0,1)]:=by kernel_rfl
theorem fa150_0:fieldAddrA prog 150 (.ptr (some ⟨id,ver,o⟩)) 0=some (.ptr (some ⟨id,ver,o+0⟩)):=fieldAddr_eq (q:=false) (z:=1) (by kernel_rfl) (by decide)
theorem ty152:tyA prog 152=some (true,61):=by kernel_rfl
theorem zc152:zc prog 152=some (ints (lst (fun _=>0) 61)):=by kernel_rfl
theorem ar152:arT prog 152=some (61,false,1):=by kernel_rfl
theorem ad152 {i:Int} (h0:0≤i) (h1:i<61):indexAddrA prog 152 (.ptr (some ⟨id,ver,o⟩)) (.int .i64 i)=some (.ptr (some ⟨id,ver,o+i.toNat * 1⟩)):=adr_arr ar152 h0 h1
theorem mp168:mpT prog 168=some (3,4):=by kernel_rfl
theorem ty174:tyA prog 174=some (false,1):=by kernel_rfl
theorem mp174:mpT prog 174=some (3,35):=by kernel_rfl
theorem zc176:zc prog 176=some [.int .i64 0,.slice none 0 0,.slice none 0 0,.map none]:=by kernel_rfl
theorem pl176:plcS prog 176=some [(0,3),(3,1)]:=by kernel_rfl
theorem fa176_0:fieldAddrA prog 176 (.ptr (some ⟨id,ver,o⟩)) 0=some (.ptr (some ⟨id,ver,o+0⟩)):=fieldAddr_eq (q:=true) (z:=3) (by kernel_rfl) (by decide)
theorem fa176_1:fieldAddrA prog 176 (.ptr (some ⟨id,ver,o⟩)) 1=some (.ptr (some ⟨id,ver,o+3⟩)):=fieldAddr_eq (q:=false) (z:=1) (by kernel_rfl) (by decide)
theorem ty178:tyA prog 178=some (false,1):=by kernel_rfl
theorem ty182:tyA prog 182=some (true,24):=by kernel_rfl
theorem zc182:zc prog 182=some (ints (lst (fun _=>0) 24)):=by kernel_rfl
theorem ar182:arT prog 182=some (12,true,2):=by kernel_rfl
theorem ad182 {i:Int} (h0:0≤i) (h1:i<12):indexAddrA prog 182 (.ptr (some ⟨id,ver,o⟩)) (.int .i64 i)=some (.ptr (some ⟨id,ver,o+i.toNat * 2⟩)):=adr_arr ar182 h0 h1
theorem ty210:tyA prog 210=some (false,1):=by kernel_rfl
theorem zc249:zc prog 249=some [.slice none 0 0,.slice none 0 0,.slice none 0 0]:=by kernel_rfl
theorem pl249:plcS prog 249=some [(0,3)]:=by kernel_rfl
theorem fa249_0:fieldAddrA prog 249 (.ptr (some ⟨id,ver,o⟩)) 0=some (.ptr (some ⟨id,ver,o+0⟩)):=fieldAddr_eq (q:=true) (z:=3) (by kernel_rfl) (by decide)
theorem ty250:tyA prog 250=some (false,1):=by kernel_rfl
theorem zc253:zc prog 253=some (ints (lst (fun _=>0) 122)):=by kernel_rfl
theorem ar253:arT prog 253=some (61,true,2):=by kernel_rfl
theorem ad253 {i:Int} (h0:0≤i) (h1:i<61):indexAddrA prog 253 (.ptr (some ⟨id,ver,o⟩)) (.int .i64 i)=some (.ptr (some ⟨id,ver,o+i.toNat * 2⟩)):=adr_arr ar253 h0 h1
theorem ar255:arT prog 255=some (60,false,1):=by kernel_rfl
theorem ad255 {i:Int} (h0:0≤i) (h1:i<60):indexAddrA prog 255 (.ptr (some ⟨id,ver,o⟩)) (.int .i64 i)=some (.ptr (some ⟨id,ver,o+i.toNat * 1⟩)):=adr_arr ar255 h0 h1
theorem zc257:zc prog 257=some [.int .i64 0,.slice none 0 0,.slice none 0 0,.bool false,.bool false,.bool false,.bool false,.bool false,.bool false,.bool false,.bool false,.bool false,.bool false,.bool false,.bool false,.bool false,.bool false,.bool false,.bool false,.bool false,.bool false,.bool false,.bool false,.bool false,.bool false,.bool false,.bool false,.bool false,.bool false,.bool false,.bool false,.bool false,.bool false,.bool false,.bool false,.bool false,.bool false,.bool false,.bool false,.bool false,.bool false,.bool false,.bool false,.bool false,.bool false,.bool false,.bool false,.bool false,.bool false,.bool false,.bool false,.bool false,.bool false,.bool false,.bool false,.bool false,.bool false,.bool false,.bool false,.bool false,.bool false,.bool false,.bool false]:=by kernel_rfl
theorem pl257:plcS prog 257=some [(0,3),(3,60)]:=by kernel_rfl
theorem fa257_0:fieldAddrA prog 257 (.ptr (some ⟨id,ver,o⟩)) 0=some (.ptr (some ⟨id,ver,o+0⟩)):=fieldAddr_eq (q:=true) (z:=3) (by kernel_rfl) (by decide)
theorem fa257_1:fieldAddrA prog 257 (.ptr (some ⟨id,ver,o⟩)) 1=some (.ptr (some ⟨id,ver,o+3⟩)):=fieldAddr_eq (q:=true) (z:=60) (by kernel_rfl) (by decide)
theorem ty262:tyA prog 262=some (true,2):=by kernel_rfl
theorem zc262:zc prog 262=some [.int .i64 0,.int .i64 0]:=by kernel_rfl
theorem pl262:plcS prog 262=some [(0,1),(1,1)]:=by kernel_rfl
theorem fa262_0:fieldAddrA prog 262 (.ptr (some ⟨id,ver,o⟩)) 0=some (.ptr (some ⟨id,ver,o+0⟩)):=fieldAddr_eq (q:=false) (z:=1) (by kernel_rfl) (by decide)
theorem fa262_1:fieldAddrA prog 262 (.ptr (some ⟨id,ver,o⟩)) 1=some (.ptr (some ⟨id,ver,o+1⟩)):=fieldAddr_eq (q:=false) (z:=1) (by kernel_rfl) (by decide)
theorem st262 {x0 x1:AVal}:stP prog base h 262 (.ptr (some ⟨id,ver,o⟩)) (.agg [x0,x1])=(stQ base id (h[id]?) ver o [x0,x1] (fun b=>h.set id b)).map fun h'=>(undefA,h'):=stP_ptr ty262 rfl
theorem ty263:tyA prog 263=some (false,1):=by kernel_rfl
theorem zc263:zc prog 263=some [.nilFn]:=by kernel_rfl
theorem st263 {x:AVal} (hx:One x):stP prog base h 263 (.ptr (some ⟨id,ver,o⟩)) x=(stQ base id (h[id]?) ver o [x] (fun b=>h.set id b)).map fun h'=>(undefA,h'):=stP_one ty263 hx
theorem ty266:tyA prog 266=some (true,3):=by kernel_rfl
theorem zc266:zc prog 266=some [.int .i64 0,.int .i64 0,.int .i64 0]:=by kernel_rfl
theorem pl266:plcS prog 266=some [(0,1),(1,1),(2,1)]:=by kernel_rfl
theorem fa266_0:fieldAddrA prog 266 (.ptr (some ⟨id,ver,o⟩)) 0=some (.ptr (some ⟨id,ver,o+0⟩)):=fieldAddr_eq (q:=false) (z:=1) (by kernel_rfl) (by decide)
theorem fa266_1:fieldAddrA prog 266 (.ptr (some ⟨id,ver,o⟩)) 1=some (.ptr (some ⟨id,ver,o+1⟩)):=fieldAddr_eq (q:=false) (z:=1) (by kernel_rfl) (by decide)
theorem fa266_2:fieldAddrA prog 266 (.ptr (some ⟨id,ver,o⟩)) 2=some (.ptr (some ⟨id,ver,o+2⟩)):=fieldAddr_eq (q:=false) (z:=1) (by kernel_rfl) (by decide)
theorem st266 {x0 x1 x2:AVal}:stP prog base h 266 (.ptr (some ⟨id,ver,o⟩)) (.agg [x0,x1,x2])=(stQ base id (h[id]?) ver o [x0,x1,x2] (fun b=>h.set id b)).map fun h'=>(undefA,h'):=stP_ptr ty266 rfl
theorem ty268:tyA prog 268=some (true,2):=by kernel_rfl
theorem zc268:zc prog 268=some [.int .i64 0,.slice none 0 0]:=by kernel_rfl
theorem pl268:plcS prog 268=some [(0,2)]:=by kernel_rfl
theorem fa268_0:fieldAddrA prog 268 (.ptr (some ⟨id,ver,o⟩)) 0=some (.ptr (some ⟨id,ver,o+0⟩)):=fieldAddr_eq (q:=true) (z:=2) (by kernel_rfl) (by decide)
theorem zc272:zc prog 272=some [.nilFn]:=by kernel_rfl
theorem pl272:plcS prog 272=some [(0,1)]:=by kernel_rfl
theorem fa272_0:fieldAddrA prog 272 (.ptr (some ⟨id,ver,o⟩)) 0=some (.ptr (some ⟨id,ver,o+0⟩)):=fieldAddr_eq (q:=false) (z:=1) (by kernel_rfl) (by decide)
theorem ty273:tyA prog 273=some (false,1):=by kernel_rfl
theorem ty275:tyA prog 275=some (true,1):=by kernel_rfl
theorem zc275:zc prog 275=some [.nilFn]:=by kernel_rfl
theorem pl275:plcS prog 275=some [(0,1)]:=by kernel_rfl
theorem fa275_0:fieldAddrA prog 275 (.ptr (some ⟨id,ver,o⟩)) 0=some (.ptr (some ⟨id,ver,o+0⟩)):=fieldAddr_eq (q:=false) (z:=1) (by kernel_rfl) (by decide)
theorem st275 {x0:AVal}:stP prog base h 275 (.ptr (some ⟨id,ver,o⟩)) (.agg [x0])=(stQ base id (h[id]?) ver o [x0] (fun b=>h.set id b)).map fun h'=>(undefA,h'):=stP_ptr ty275 rfl
theorem ik278:ikT prog 278=some .u64:=by kernel_rfl
theorem ty284:tyA prog 284=some (false,1):=by kernel_rfl
theorem ty286:tyA prog 286=some (false,1):=by kernel_rfl
theorem ty290:tyA prog 290=some (true,1):=by kernel_rfl
theorem zc290:zc prog 290=some [.nilFn]:=by kernel_rfl
theorem pl290:plcS prog 290=some [(0,1)]:=by kernel_rfl
theorem fa290_0:fieldAddrA prog 290 (.ptr (some ⟨id,ver,o⟩)) 0=some (.ptr (some ⟨id,ver,o+0⟩)):=fieldAddr_eq (q:=false) (z:=1) (by kernel_rfl) (by decide)
theorem st290 {x0:AVal}:stP prog base h 290 (.ptr (some ⟨id,ver,o⟩)) (.agg [x0])=(stQ base id (h[id]?) ver o [x0] (fun b=>h.set id b)).map fun h'=>(undefA,h'):=stP_ptr ty290 rfl
theorem ty306:tyA prog 306=some (false,1):=by kernel_rfl
theorem ty308:tyA prog 308=some (false,1):=by kernel_rfl
theorem ty310:tyA prog 310=some (false,1):=by kernel_rfl
theorem ty313:tyA prog 313=some (false,1):=by kernel_rfl
theorem ar317:arT prog 317=none:=by kernel_rfl
theorem el317:elS prog 317=some (4,1,[.bool false]):=by kernel_rfl
theorem ln317 {r:ARef} {m k:Nat}:lenOpA prog h 317 (.slice (some r) m k)=some (.int .i64 (m:Int)):=len_sl el317
theorem as317 {v f m k:Nat} {i:Int} (h0:0≤i) (h1:i<m):indexAddrA prog 317 (.slice (some ⟨id,v,f⟩) m k) (.int .i64 i)=some (.ptr (some ⟨id,v,f+i.toNat * 1⟩)):=adr_sl el317 ar317 h0 h1
theorem ty345:tyA prog 345=some (false,1):=by kernel_rfl
theorem zc345:zc prog 345=some [.slice none 0 0]:=by kernel_rfl
theorem el345:elS prog 345=some (376,2,[.int .i64 0,.int .i64 0]):=by kernel_rfl
theorem st345 {x:AVal} (hx:One x):stP prog base h 345 (.ptr (some ⟨id,ver,o⟩)) x=(stQ base id (h[id]?) ver o [x] (fun b=>h.set id b)).map fun h'=>(undefA,h'):=stP_one ty345 hx
theorem ar352:arT prog 352=none:=by kernel_rfl
theorem el352:elS prog 352=some (48,1,[.int .i64 0]):=by kernel_rfl
theorem zc353:zc prog 353=some (ints (lst (fun _=>0) 48)):=by kernel_rfl
theorem ar353:arT prog 353=some (48,false,1):=by kernel_rfl
theorem ad353 {i:Int} (h0:0≤i) (h1:i<48):indexAddrA prog 353 (.ptr (some ⟨id,ver,o⟩)) (.int .i64 i)=some (.ptr (some ⟨id,ver,o+i.toNat * 1⟩)):=adr_arr ar353 h0 h1
theorem ty376:tyA prog 376=some (true,2):=by kernel_rfl
theorem zc376:zc prog 376=some [.int .i64 0,.int .i64 0]:=by kernel_rfl
theorem pl376:plcS prog 376=some [(0,1),(1,1)]:=by kernel_rfl
theorem fa376_0:fieldAddrA prog 376 (.ptr (some ⟨id,ver,o⟩)) 0=some (.ptr (some ⟨id,ver,o+0⟩)):=fieldAddr_eq (q:=false) (z:=1) (by kernel_rfl) (by decide)
theorem fa376_1:fieldAddrA prog 376 (.ptr (some ⟨id,ver,o⟩)) 1=some (.ptr (some ⟨id,ver,o+1⟩)):=fieldAddr_eq (q:=false) (z:=1) (by kernel_rfl) (by decide)
theorem st376 {x0 x1:AVal}:stP prog base h 376 (.ptr (some ⟨id,ver,o⟩)) (.agg [x0,x1])=(stQ base id (h[id]?) ver o [x0,x1] (fun b=>h.set id b)).map fun h'=>(undefA,h'):=stP_ptr ty376 rfl
theorem bd27_012 {y0 y1 y2:AVal} (h0:One y0) (h1:One y1) (h2:One y2):buildA prog 27 [(0,y0),(1,y1),(2,y2)]=some (.agg [y0,y1,y2]):=by
 simp [buildA,zc27,pl27,fillA,splice,isN_agg,cells_agg,h0.1,h0.2.1,h1.1,h1.2.1,h2.1,h2.2.1]
theorem bd38_0 {y0:AVal} (h0:One y0):buildA prog 38 [(0,y0)]=some (.agg [y0,.slice none 0 0,.slice none 0 0]):=by
 simp [buildA,zc38,pl38,fillA,splice,isN_agg,cells_agg,h0.1,h0.2.1]
theorem bd38_012 {y0 y1 y2:AVal} (h0:One y0) (h1:One y1) (h2:One y2):buildA prog 38 [(0,y0),(1,y1),(2,y2)]=some (.agg [y0,y1,y2]):=by
 simp [buildA,zc38,pl38,fillA,splice,isN_agg,cells_agg,h0.1,h0.2.1,h1.1,h1.2.1,h2.1,h2.2.1]
theorem bd50_0123 {y0 y1 y2 y3:AVal} (h0:One y0) (h1:One y1) (h2:One y2) (h3:One y3):buildA prog 50 [(0,y0),(1,y1),(2,y2),(3,y3)]=some (.agg [y0,y1,y2,y3]):=by
 simp [buildA,zc50,pl50,fillA,splice,isN_agg,cells_agg,h0.1,h0.2.1,h1.1,h1.2.1,h2.1,h2.2.1,h3.1,h3.2.1]
theorem bd54_01 {y0 y1:AVal} (h0:One y0) (h1:One y1):buildA prog 54 [(0,y0),(1,y1)]=some (.agg [y0,y1]):=by
 simp [buildA,zc54,pl54,fillA,splice,isN_agg,cells_agg,h0.1,h0.2.1,h1.1,h1.2.1]
theorem bd74_01234 {y0 y1 y2 y3 y4:AVal} (h0:One y0) (h1:One y1) (h2:One y2) (h3:One y3) (h4:One y4):buildA prog 74 [(0,y0),(1,y1),(2,y2),(3,y3),(4,y4)]=some (.agg [y0,y1,y2,y3,y4]):=by
 simp [buildA,zc74,pl74,fillA,splice,isN_agg,cells_agg,h0.1,h0.2.1,h1.1,h1.2.1,h2.1,h2.2.1,h3.1,h3.2.1,h4.1,h4.2.1]
theorem bd74_0124 {y0 y1 y2 y4:AVal} (h0:One y0) (h1:One y1) (h2:One y2) (h4:One y4):buildA prog 74 [(0,y0),(1,y1),(2,y2),(4,y4)]=some (.agg [y0,y1,y2,.int .i64 0,y4]):=by
 simp [buildA,zc74,pl74,fillA,splice,isN_agg,cells_agg,h0.1,h0.2.1,h1.1,h1.2.1,h2.1,h2.2.1,h4.1,h4.2.1]
theorem bd80_01 {y0 y1:AVal} (h0:One y0) (h1:One y1):buildA prog 80 [(0,y0),(1,y1)]=some (.agg [y0,y1]):=by
 simp [buildA,zc80,pl80,fillA,splice,isN_agg,cells_agg,h0.1,h0.2.1,h1.1,h1.2.1]
theorem bd83_0 {y0:AVal} (h0:One y0):buildA prog 83 [(0,y0)]=some (.agg [y0,.int .i64 0]):=by
 simp [buildA,zc83,pl83,fillA,splice,isN_agg,cells_agg,h0.1,h0.2.1]
theorem bd83_01 {y0 y1:AVal} (h0:One y0) (h1:One y1):buildA prog 83 [(0,y0),(1,y1)]=some (.agg [y0,y1]):=by
 simp [buildA,zc83,pl83,fillA,splice,isN_agg,cells_agg,h0.1,h0.2.1,h1.1,h1.2.1]
theorem bd87_012 {y0 y1 y2:AVal} (h0:One y0) (h1:One y1) (h2:One y2):buildA prog 87 [(0,y0),(1,y1),(2,y2)]=some (.agg [y0,y1,y2]):=by
 simp [buildA,zc87,pl87,fillA,splice,isN_agg,cells_agg,h0.1,h0.2.1,h1.1,h1.2.1,h2.1,h2.2.1]
theorem bd87_1 {y1:AVal} (h1:One y1):buildA prog 87 [(1,y1)]=some (.agg [.int .i64 0,y1,.slice none 0 0]):=by
 simp [buildA,zc87,pl87,fillA,splice,isN_agg,cells_agg,h1.1,h1.2.1]
theorem bd93_01 {y0 y1:AVal} (h0:One y0) (h1:One y1):buildA prog 93 [(0,y0),(1,y1)]=some (.agg [y0,y1,.int .i64 0,.int .i64 0]):=by
 simp [buildA,zc93,pl93,fillA,splice,isN_agg,cells_agg,h0.1,h0.2.1,h1.1,h1.2.1]
theorem bd93_1 {y1:AVal} (h1:One y1):buildA prog 93 [(1,y1)]=some (.agg [.int .i64 0,y1,.int .i64 0,.int .i64 0]):=by
 simp [buildA,zc93,pl93,fillA,splice,isN_agg,cells_agg,h1.1,h1.2.1]
theorem bd95_0 {y0:AVal} (h0:One y0):buildA prog 95 [(0,y0)]=some (.agg [y0,.int .i64 0,.bool false]):=by
 simp [buildA,zc95,pl95,fillA,splice,isN_agg,cells_agg,h0.1,h0.2.1]
theorem bd95_012 {y0 y1 y2:AVal} (h0:One y0) (h1:One y1) (h2:One y2):buildA prog 95 [(0,y0),(1,y1),(2,y2)]=some (.agg [y0,y1,y2]):=by
 simp [buildA,zc95,pl95,fillA,splice,isN_agg,cells_agg,h0.1,h0.2.1,h1.1,h1.2.1,h2.1,h2.2.1]
theorem bd131_01 {y0_0 y0_1 y0_2 y1:AVal} (h1:One y1):buildA prog 131 [(0,.agg [y0_0,y0_1,y0_2]),(1,y1)]=some (.agg [y0_0,y0_1,y0_2,y1]):=by
 simp [buildA,zc131,pl131,fillA,splice,isN_agg,cells_agg,h1.1,h1.2.1]
theorem bd136_02 {y0 y2:AVal} (h0:One y0) (h2:One y2):buildA prog 136 [(0,y0),(2,y2)]=some (.agg [y0,.int .i64 0,y2]):=by
 simp [buildA,zc136,pl136,fillA,splice,isN_agg,cells_agg,h0.1,h0.2.1,h2.1,h2.2.1]
theorem bd147_01 {y0 y1:AVal} (h0:One y0) (h1:One y1):buildA prog 147 [(0,y0),(1,y1)]=some (.agg [y0,y1]):=by
 simp [buildA,zc147,pl147,fillA,splice,isN_agg,cells_agg,h0.1,h0.2.1,h1.1,h1.2.1]
theorem bd150_0 {y0:AVal} (h0:One y0):buildA prog 150 [(0,y0)]=some (.agg [y0]):=by
 simp [buildA,zc150,pl150,fillA,splice,isN_agg,cells_agg,h0.1,h0.2.1]
theorem bd176_01 {y0_0 y0_1 y0_2 y1:AVal} (h1:One y1):buildA prog 176 [(0,.agg [y0_0,y0_1,y0_2]),(1,y1)]=some (.agg [y0_0,y0_1,y0_2,y1]):=by
 simp [buildA,zc176,pl176,fillA,splice,isN_agg,cells_agg,h1.1,h1.2.1]
theorem bd249_0 {y0_0 y0_1 y0_2:AVal} :buildA prog 249 [(0,.agg [y0_0,y0_1,y0_2])]=some (.agg [y0_0,y0_1,y0_2]):=by
 simp [buildA,zc249,pl249,fillA,splice,isN_agg,cells_agg]
theorem bd257_0 {y0_0 y0_1 y0_2:AVal} :buildA prog 257 [(0,.agg [y0_0,y0_1,y0_2])]=some (.agg [y0_0,y0_1,y0_2,.bool false,.bool false,.bool false,.bool false,.bool false,.bool false,.bool false,.bool false,.bool false,.bool false,.bool false,.bool false,.bool false,.bool false,.bool false,.bool false,.bool false,.bool false,.bool false,.bool false,.bool false,.bool false,.bool false,.bool false,.bool false,.bool false,.bool false,.bool false,.bool false,.bool false,.bool false,.bool false,.bool false,.bool false,.bool false,.bool false,.bool false,.bool false,.bool false,.bool false,.bool false,.bool false,.bool false,.bool false,.bool false,.bool false,.bool false,.bool false,.bool false,.bool false,.bool false,.bool false,.bool false,.bool false,.bool false,.bool false,.bool false,.bool false,.bool false,.bool false]):=by
 simp [buildA,zc257,pl257,fillA,splice,isN_agg,cells_agg]
theorem bd262_ :buildA prog 262 []=some (.agg [.int .i64 0,.int .i64 0]):=by
 simp [buildA,zc262,pl262,fillA,splice,isN_agg,cells_agg]
theorem bd262_01 {y0 y1:AVal} (h0:One y0) (h1:One y1):buildA prog 262 [(0,y0),(1,y1)]=some (.agg [y0,y1]):=by
 simp [buildA,zc262,pl262,fillA,splice,isN_agg,cells_agg,h0.1,h0.2.1,h1.1,h1.2.1]
theorem bd266_ :buildA prog 266 []=some (.agg [.int .i64 0,.int .i64 0,.int .i64 0]):=by
 simp [buildA,zc266,pl266,fillA,splice,isN_agg,cells_agg]
theorem bd266_012 {y0 y1 y2:AVal} (h0:One y0) (h1:One y1) (h2:One y2):buildA prog 266 [(0,y0),(1,y1),(2,y2)]=some (.agg [y0,y1,y2]):=by
 simp [buildA,zc266,pl266,fillA,splice,isN_agg,cells_agg,h0.1,h0.2.1,h1.1,h1.2.1,h2.1,h2.2.1]
theorem bd268_0 {y0_0 y0_1:AVal} :buildA prog 268 [(0,.agg [y0_0,y0_1])]=some (.agg [y0_0,y0_1]):=by
 simp [buildA,zc268,pl268,fillA,splice,isN_agg,cells_agg]
theorem bd272_0 {y0:AVal} (h0:One y0):buildA prog 272 [(0,y0)]=some (.agg [y0]):=by
 simp [buildA,zc272,pl272,fillA,splice,isN_agg,cells_agg,h0.1,h0.2.1]
theorem bd275_0 {y0:AVal} (h0:One y0):buildA prog 275 [(0,y0)]=some (.agg [y0]):=by
 simp [buildA,zc275,pl275,fillA,splice,isN_agg,cells_agg,h0.1,h0.2.1]
theorem bd290_0 {y0:AVal} (h0:One y0):buildA prog 290 [(0,y0)]=some (.agg [y0]):=by
 simp [buildA,zc290,pl290,fillA,splice,isN_agg,cells_agg,h0.1,h0.2.1]
theorem bd376_01 {y0 y1:AVal} (h0:One y0) (h1:One y1):buildA prog 376 [(0,y0),(1,y1)]=some (.agg [y0,y1]):=by
 simp [buildA,zc376,pl376,fillA,splice,isN_agg,cells_agg,h0.1,h0.2.1,h1.1,h1.2.1]
theorem eq80 {a0:Int} {a1:Int} {b0:Int} {b1:Int}:binA prog .eql 80 (.agg [.int .i64 a0,.int .i64 a1]) (.agg [.int .i64 b0,.int .i64 b1])=some (.bool (decide (a0=b0∧a1=b1))):=by
 have h1:prog.eqGuardType prog.depth 80=false:=by kernel_rfl
 have s80:prog.stoodInHeld 80=false:=by kernel_rfl
 simp [binA,eqDepth,eqT,partA,partQ,h1,s80,underlying3,ty3,underlying80,ty80]
 by_cases e0:a0=b0<;>by_cases e1:a1=b1<;>simp [e0,e1]
theorem ne80 {a0:Int} {a1:Int} {b0:Int} {b1:Int}:binA prog .neq 80 (.agg [.int .i64 a0,.int .i64 a1]) (.agg [.int .i64 b0,.int .i64 b1])=some (.bool (decide (¬ (a0=b0∧a1=b1)))):=by
 have h:=eq80 (a0:=a0) (a1:=a1) (b0:=b0) (b1:=b1)
 simp only [binA,isShift] at h ⊢
 split at h
 ·cases h
 ·rename_i hg
  rw [if_neg hg]
  cases hq:eqT prog eqDepth 80 (.agg [.int .i64 a0,.int .i64 a1]) (.agg [.int .i64 b0,.int .i64 b1]) with
  | none=>rw [hq] at h;cases h
  | some r=>rw [hq] at h;simp only [Option.map_some,Option.some.injEq,AVal.bool.injEq] at h ⊢;rw [h];simp
theorem eq95 {a0:Int} {a1:Int} {a2:Bool} {b0:Int} {b1:Int} {b2:Bool}:binA prog .eql 95 (.agg [.int .i64 a0,.int .i64 a1,.bool a2]) (.agg [.int .i64 b0,.int .i64 b1,.bool b2])=some (.bool (decide (a0=b0∧a1=b1∧a2=b2))):=by
 have h1:prog.eqGuardType prog.depth 95=false:=by kernel_rfl
 have s95:prog.stoodInHeld 95=false:=by kernel_rfl
 simp [binA,eqDepth,eqT,partA,partQ,h1,s95,underlying3,ty3,underlying4,ty4,underlying95,ty95]
 by_cases e0:a0=b0<;>by_cases e1:a1=b1<;>by_cases e2:a2=b2<;>simp [e0,e1,e2]
theorem ne95 {a0:Int} {a1:Int} {a2:Bool} {b0:Int} {b1:Int} {b2:Bool}:binA prog .neq 95 (.agg [.int .i64 a0,.int .i64 a1,.bool a2]) (.agg [.int .i64 b0,.int .i64 b1,.bool b2])=some (.bool (decide (¬ (a0=b0∧a1=b1∧a2=b2)))):=by
 have h:=eq95 (a0:=a0) (a1:=a1) (a2:=a2) (b0:=b0) (b1:=b1) (b2:=b2)
 simp only [binA,isShift] at h ⊢
 split at h
 ·cases h
 ·rename_i hg
  rw [if_neg hg]
  cases hq:eqT prog eqDepth 95 (.agg [.int .i64 a0,.int .i64 a1,.bool a2]) (.agg [.int .i64 b0,.int .i64 b1,.bool b2]) with
  | none=>rw [hq] at h;cases h
  | some r=>rw [hq] at h;simp only [Option.map_some,Option.some.injEq,AVal.bool.injEq] at h ⊢;rw [h];simp
theorem eq266 {a0:Int} {a1:Int} {a2:Int} {b0:Int} {b1:Int} {b2:Int}:binA prog .eql 266 (.agg [.int .i64 a0,.int .i64 a1,.int .i64 a2]) (.agg [.int .i64 b0,.int .i64 b1,.int .i64 b2])=some (.bool (decide (a0=b0∧a1=b1∧a2=b2))):=by
 have h1:prog.eqGuardType prog.depth 266=false:=by kernel_rfl
 have s266:prog.stoodInHeld 266=false:=by kernel_rfl
 simp [binA,eqDepth,eqT,partA,partQ,h1,s266,underlying3,ty3,underlying48,ty48,underlying266,ty266]
 by_cases e0:a0=b0<;>by_cases e1:a1=b1<;>by_cases e2:a2=b2<;>simp [e0,e1,e2]
end
attribute [go_sem] ty3 zc3 st3 ty4 st4 ty5 ty22 ar22 el22 ty23 ar23 el23 ty24 ar24 el24 ty25 ar25 el25 ty27 zc27 fa27_0 fa27_1 fa27_2 st27 ar31 el31 ty35 zc35 ar35 el35 ln35 as35 st35 ty36 ar36 el36 st36 ty38 zc38 fa38_0 fa38_1 fa38_2 st38 ty41 zc41 ar41 el41 as41 st41 ty48 ty50 zc50 fa50_1 st50 ty54 zc54 fa54_0 fa54_1 ty58 ar59 el59 ty74 zc74 fa74_0 fa74_1 fa74_2 fa74_3 fa74_4 st74 ar76 el76 as76 ty80 zc80 fa80_0 fa80_1 st80 ty81 ty83 zc83 fa83_0 fa83_1 st83 ty84 ar84 el84 st84 ty85 ar85 el85 st85 ty87 zc87 fa87_0 fa87_1 fa87_2 st87 ar88 el88 ty93 zc93 fa93_0 fa93_1 fa93_2 st93 ty95 zc95 fa95_0 fa95_1 fa95_2 st95 ty111 zc111 st111 ty128 ar128 ad128 ty131 zc131 fa131_0 fa131_1 ty132 zc132 st132 ty133 ar133 ty134 st134 zc136 fa136_0 fa136_1 fa136_2 ty137 zc137 st137 ty142 ty147 zc147 fa147_0 fa147_1 st147 ty148 zc150 fa150_0 ty152 zc152 ar152 ad152 mp168 ty174 mp174 zc176 fa176_0 fa176_1 ty178 ty182 zc182 ar182 ad182 ty210 zc249 fa249_0 ty250 zc253 ar253 ad253 ar255 ad255 zc257 fa257_0 fa257_1 ty262 zc262 fa262_0 fa262_1 st262 ty263 zc263 st263 ty266 zc266 fa266_0 fa266_1 fa266_2 st266 ty268 zc268 fa268_0 zc272 fa272_0 ty273 ty275 zc275 fa275_0 st275 ty284 ty286 ty290 zc290 fa290_0 st290 ty306 ty308 ty310 ty313 ar317 el317 ln317 as317 ty345 zc345 el345 st345 ar352 el352 zc353 ar353 ad353 ty376 zc376 fa376_0 fa376_1 st376 bd27_012 bd38_0 bd38_012 bd50_0123 bd54_01 bd74_01234 bd74_0124 bd80_01 bd83_0 bd83_01 bd87_012 bd87_1 bd93_01 bd93_1 bd95_0 bd95_012 bd131_01 bd136_02 bd147_01 bd150_0 bd176_01 bd249_0 bd257_0 bd262_ bd262_01 bd266_ bd266_012 bd268_0 bd272_0 bd275_0 bd290_0 bd376_01 eq80 ne80 eq95 ne95 eq266
attribute [go_sem] results3 results4 results5 results6 results7 results8 results9 results10 results11 results12 results13 results14 results15 results16 results17 results18 results19 results20 results21 results22 results23 results24 results25 results26 results27 results28 results29 results30 results31 results32 results33 results34 results35 results36 results37 results38 results39 results40 results41 results42 results43 results44 results45 results46 results47 results48 results49 results50 results51 results52 results53 results54 results55 results56 results57 results58 results59 results60 results61 results62 results63 results64 results65 results66 results67 results68 results69 results70 results71 results72 results73 results74 results75 results76 results77 results78 results79 results80 results81 results82 results83 results84 results85 results86 results87 results88 results89 results90 results91 results92 results93 results94 results95 results96 results97 results98 results99 results100 results101 results102 results103 results104 results105 results106 results107 results108 results109 results110 results111 results112 results113 results114 results115 results116 results117 results118 results119 results120 results121 results122 results123 results124 results125 results126 results127 results128 results129 results130 results131 results132 results133 results134 results135 results136 results137 results138 results139 results140 results141 results142 results143 results144 results145 results146 results147 results148 results149 results150 results151 results152 results153 results154 results155 results156 results157 results158 results159 results160 results161 results162 results163 results164 results165 results166 results167 results168 results169 results170 results171 results172 results173 results174 results175 results176 results177 results178 results179 results180 results181 results182 results183 results184 results185 results186 results187 results188 results189 results190 results191 results192 results193 results194 results195 results196 results197 results198 results199 results200 results201 results202 results203 results204 results205 results206 results207 results208 results209 results210 results211 results212 results213 results214 results215 results216 results217 results218 results219 results220 results221 results222 results223 results224 results225 results226 results227 results228 results229 results230 results231 results232 results233 results234 results235 results236 results237 results238 results239 results240 results241 results242 results243 results244 results245 results246 results247 results248 results249 results250 results251 results252 results253 results254 results255 results256 results257 results258 results259 results260 results261 results262 results263 results264 results265 results266 results267 results268 results269 results270 results271 results272 results273 results274 results275 results276 results277 results278 results279 results280 results281 results282 results283 results284 results285 results286 results287 results288 results289 results290 results291 results292 results293 results294 results295 results296
end Go.AM.Fc
namespace Go.AM
section
variable {P:Program} {raw:FuncId→Bool} {base:Nat}
def YieldsX (P:Program) (raw:FuncId→Bool) (base L:Nat) (g:AVal) (N:Nat) (X:Nat→List AVal→Heap→Prop) (pr:ABlk→Prop) (I:Nat→Heap→Prop):Prop :=
 ∀ (J:Nat→Heap→Prop) (S:Heap→Prop) (H0:Heap),L+1=H0.length→(∀ j H,J j H→I j H∧L+1≤H.length)→(∀ j H T,J j H→J j (H++T)) →
  (∀ j a H,j<N→X j a H→J j H→∃ b H',callL P raw base (.yld L) a H=some (.bool b,H')∧(∀ i x,L+1≤i→pr x→H[i]?=some x→H'[i]?=some x)∧H.length≤H'.length∧(b=true→J (j+1) H')∧(b=false→S H')) →
  J 0 H0→∃ v H',callL P raw base g [.yld L] H0=some (v,H')∧(J N H' ∨ S H')
theorem WP_rangeX {g:Operand} {ps:List Tmp} {assign body:Code} {fr:AFrame} {h:Heap} {Q:AExit→St→Prop} {f:FuncId} {a c:List AVal} (hg:ev fr g=.fn f a c) {N:Nat} {X:Nat→List AVal→Heap→Prop} {pr:ABlk→Prop} (I:Nat→Heap→Prop) (E:AExit→Heap→Prop)
  (hit:YieldsX P raw base h.length (.fn f a c) N X pr I) (hxs:∀ j a H,X j a H→a.length=ps.length) (happ:∀ j H T,I j H→I j (H++T)) (hset:∀ j H b,I j H→I j (H.set h.length b)) (hsetE:∀ e H b,E e H→E e (H.set h.length b))
  (h0:I 0 (h++[loopB fr ps assign body .ready none]))
  (hbody:∀ j a H B1 B2,j<N→X j a H→I j H→h.length+1≤H.length→H[h.length]?=some B1→WP P raw base assign ⟨putAll fr ps a,H⟩ (fun e s1=>e=.normal∧s1.h[h.length]?=some B1 ∧
   WP P raw base body ⟨s1.fr,s1.h.set h.length B2⟩ (fun e s2=>s2.h[h.length]?=some B2∧(∀ i x,h.length+1≤i→pr x→H[i]?=some x→s2.h[i]?=some x)∧H.length≤s2.h.length ∧
    ((e=.normal∧I (j+1) s2.h) ∨ (e ≠ .normal∧E e s2.h)))))
  (hQ:∀ H,I N H→Q .normal ⟨fr,H⟩) (hQE:∀ e H,e ≠ .normal→E e H→Q e ⟨fr,H⟩):WP P raw base (.rangeFunc g ps.toArray assign body) ⟨fr,h⟩ Q:=by
 obtain ⟨v,H',hc,hend⟩:=hit (fun j H=>I j H∧h.length+1≤H.length∧H[h.length]?=some (loopB fr ps assign body .ready none))
  (fun H=>∃ e,e ≠ .normal∧E e H∧H[h.length]?=some (loopB fr ps assign body .done (jumpOf e))) (h++[loopB fr ps assign body .ready none]) (by simp) (fun j H hJ=>⟨hJ.1,hJ.2.1⟩)
  (fun j H T hJ=>⟨happ j H T hJ.1,by simp;omega,get_app hJ.2.2⟩)
  (fun j a H hj hX hJ=>by
   obtain ⟨e,H2,hK,hcall⟩:=callL_yldW (K:=fun e H2=>H2[h.length]?=some (loopB fr ps assign body .busy none)∧(∀ i x,h.length+1≤i→pr x→H[i]?=some x→H2[i]?=some x)∧H.length≤H2.length∧((e=.normal∧I (j+1) H2) ∨ (e ≠ .normal∧E e H2)))
    hJ.2.2 (hxs j a H hX) (by
     obtain ⟨e1,s1,h1,rfl,h2,e2,s2,h3,h4⟩:=hbody j a H _ (loopB fr ps assign body .busy none) hj hX hJ.1 hJ.2.1 hJ.2.2
     exact ⟨.normal,s1,h1,rfl,h2,e2,s2,h3,h4.1,h4⟩)
   refine ⟨_,_,hcall,fun i x hi hp hx=>?_,by rw [List.length_set];exact hK.2.2.1,fun hb=>?_,fun hb=>?_⟩
   ·have:=hK.2.1 i x hi hp hx
    rw [get_set this,if_neg (by omega)]
   ·have he:e=.normal:=isNone_jump.1 hb
    subst he
    have hI2:I (j+1) H2:=by
     rcases hK.2.2.2 with h5|h5
     ·exact h5.2
     ·exact absurd rfl h5.1
    have hlt:=lt_of_get hK.1
    refine ⟨hset _ _ _ hI2,by simp;omega,?_⟩
    rw [get_set hK.1,if_pos rfl]
    rfl
   ·have he:e ≠ .normal:=fun h5=>by rw [isNone_jump.2 h5] at hb;cases hb
    have hE2:E e H2:=by
     rcases hK.2.2.2 with h5|h5
     ·exact absurd h5.1 he
     ·exact h5.2
    refine ⟨e,he,hsetE _ _ _ hE2,?_⟩
    rw [get_set hK.1,if_pos rfl,hb]
    rfl)
  ⟨h0,by simp,by simp⟩
 rcases hend with ⟨h1,_,h2⟩|⟨e,he,h1,h2⟩
 ·exact WP_rangeFunc hg hc h2 (by intro hh;cases hh) (hQ _ (hset _ _ _ h1))
 ·refine WP_rangeFunc hg hc h2 (by intro hh;cases hh) ?_
  have:=hQE e _ he (hsetE e _ (loopB fr ps assign body .exhausted (jumpOf e)) h1)
  cases e with
  | normal=>exact absurd rfl he
  | exit id=>exact this
  | ret=>exact this
end
end Go.AM
namespace Go.AM
section
variable {P:Program} {raw:FuncId→Bool} {base:Nat} {ops:Array Oper} {chk:Bool} {d:Option Tmp} {ty:TypeId} {pos:String} {af:Array Edge} {fr:AFrame} {h:Heap} {K:St→Prop}
end
end Go.AM
namespace Go.AM
def raw:FuncId→Bool:=fun f=>[17,61,228,12,21,56,54,47,48,64,65,93,132,130,131,133,203,10,16,258,38,32,34,40,36,87,99,105,107,88,89,120,175,180,122,123,181,100,106,227,240,14,15,45,46,52,9,125,138,207,208,252,259,284,293,53,7,22,23,24,66,69,71,151,262,155,28,31,33,35,79,81,83,84,91,37,173,170,167,26,27,30,72].contains f
end Go.AM
namespace Go.AM
open Go.Proofs.Tryz
section
variable {h A:Heap} {v:AVal} {l:List Int} {base n:Nat} {lit:Bool} {x:Int}
theorem lenI (hI:Ints h v l):lenOpA prog h 35 v=some (.int .i64 (l.length:Int)):=hI.len Fc.el35
theorem adrI {i:Int} (h0:0≤i) (hI:Ints h v l) (h1:i<l.length):indexAddrA prog 35 v (.int .i64 i)=some (elAddr v i.toNat):=hI.addr Fc.el35 Fc.ar35 h0 h1
theorem loadI {i:Nat} (hI:Ints h v l) (h1:i<l.length):loadP prog h 3 (elAddr v i)=some (.int .i64 (l.getD i 0)) :=
 hI.load Fc.ty3 (by rw [List.getD_eq_getElem?_getD,List.getElem?_eq_getElem h1];rfl)
theorem bslI (hl:lit=true):bsA prog lit h 35 1 [(0,.int .i64 x)]=some (.vals [.int .i64 x],h):=bs_lit hl Fc.el35
theorem bsrI (hl:lit=false):bsA prog lit h 35 1 [(0,.int .i64 x)]=some (.slice (some ⟨h.length,0,0⟩) 1 1,h++[rowB [x] 0]):=bs_row hl Fc.el35
theorem ints_nil {H:Heap}:Ints H (.slice none 0 0) []:=⟨⟨by simp,by simp⟩,.inl ⟨rfl,rfl⟩⟩
theorem slice_row {k:Nat} (hn:n=A.length) (hk:k=l.length) (hs:Small l):Ints (A++[rowB l 0]) (.slice (some ⟨n,0,0⟩) k k) l:=by
 subst hn hk
 exact Ints.fresh_row hs (by simp [rowB]) (Nat.le_refl _)
end
attribute [go_sem] lenI adrI loadI bslI bsrI
theorem extQ_ext {h H:Heap} {A:Prop} (e:Ext h H):extQ true h H A=A:=by
 simp only [extQ,true_imp_iff,and_iff_right_iff_imp,eq_iff_iff]
 exact fun _=>e
attribute [go_sem] extQ_ext
theorem getD_mem {l:List Int} {i:Nat} (hi:i<l.length):l.getD i 0 ∈ l:=by
 rw [List.getD_eq_getElem?_getD,List.getElem?_eq_getElem hi];exact List.getElem_mem hi
theorem tmodN (a b:Nat):(a:Int).tmod b=((a % b:Nat):Int):=rfl
theorem neB {a b:Bool}:binA prog .neq 4 (.bool a) (.bool b)=some (.bool (decide (a ≠ b))):=by cases a<;>cases b<;>kernel_rfl
end Go.AM
namespace Go.AM
open Go.Proofs.Tryz Go.RowKit Go.ChangeShapes
theorem own:ownKnob Go.Proofs.Tryz.prog.godebug=none:=by kernel_rfl
theorem laid:laidOutB Go.Proofs.Tryz.prog=true:=by kernel_rfl
theorem calls_true {f:FuncId} {args:List AVal} {A:Array Value} {R:List Rw} {W:World} {h':Heap} (hR:∀ r ∈ R,r.ok W) (hargs:VRs (muR R) args A.toList) (hv:callL prog raw 0 (.fn f [] []) args (heapR R)=some (.bool true,h')) :
  Calls prog f A W fun e W'=>e=.returned (.bool true)∧Below W.heap.size W W':=by
 have h0:=callL_sound (raw:=raw) allOk (Nat.zero_le _) (hrelR (P:=prog) hR) hargs (by intro q;cases q) hv
 refine (callsIn_wide.1 h0).mono fun e W' ⟨X,he,μ',_,hX,_,hE,_⟩=>?_
 have:X=.bool true:=by cases hX;rfl
 subst this
 exact ⟨he,below_of_evo hE⟩
theorem ints_of {R:List Rw} {i len cap:Nat} {zs:List Int} {r:Rw} {v:AVal} (hr:0<cap→R[i]?=some r) (hcs:r.cs=zs.map (AVal.int .i64)) (hz:zs.length=cap) (hl:len≤cap) (hb:cap<2 ^ 60) (hw:∀ z ∈ zs,(Lit.int .i64 z).wf=true)
  (hv:(v=.slice none 0 0∧cap=0) ∨ (v=.emp∧cap=0) ∨ (v=.slice (some ⟨i,0,0⟩) len cap∧0<cap)):Ints (heapR R) v (zs.take len):=by
 refine ⟨⟨by simp;omega,fun x hx=>?_⟩,?_⟩
 ·have:=hw x (List.mem_of_mem_take hx)
  simp [Lit.wf,IntKind.min,IntKind.max,IntKind.signed,IntKind.bits] at this
  omega
 ·rcases hv with ⟨rfl,h0⟩|⟨rfl,h0⟩|⟨rfl,h0⟩
  ·exact .inl ⟨rfl,by simp;exact .inr (List.eq_nil_of_length_eq_zero (by omega))⟩
  ·exact .inr (.inl ⟨rfl,by simp;exact .inr (List.eq_nil_of_length_eq_zero (by omega))⟩)
  ·have hlen:(zs.take len).length=len:=by rw [List.length_take];omega
   refine .inr (.inr ⟨⟨i,0,0⟩,cap,r.cs,3,false,true,by rw [hlen],heapR_get (hr h0),?_,?_,by rw [hlen];exact hl⟩)
   ·rw [hlen,hcs,List.drop_zero]
    simp [ints,List.map_take]
   ·rw [hlen,hcs];simp;omega
theorem bulk_slice {H:Type} {k:IntKind} {us vs:List Int}:Go.Proofs.YtcemgempgbjbeaaGreat.Rows.uptoBulk (.slice (lits (H:=H) k us) (lits k vs))=us.length+vs.length+1:=by
 have h:∀ l:List Int,Go.Proofs.YtcemgempgbjbeaaGreat.Rows.uptoBulkAll (lits (H:=H) k l)=l.length:=fun l=>by
  induction l with
  | nil=>rfl
  | cons x xs ih =>
   simp only [lits,List.map_cons,Go.Proofs.YtcemgempgbjbeaaGreat.Rows.uptoBulkAll,Go.Proofs.YtcemgempgbjbeaaGreat.Rows.uptoBulk,List.length_cons] at ih ⊢
   rw [ih];omega
 simp only [Go.Proofs.YtcemgempgbjbeaaGreat.Rows.uptoBulk,h]
end Go.AM
namespace Go.AM
open Go.Proofs.Tryz Go.RowKit Go.ChangeShapes Go.WideShapes Go.ChangeAt
open Go.Proofs.YtcemgempgbjbeaaGreat (Rows.uptoSmall Rows.uptoBulkAll Rows.uptoBulk)
set_option maxRecDepth 100000
structure SlA (W:World) (k:IntKind) (V:Value) (r:Rw) (zs:List Int) (len cap:Nat):Prop where
 ok:r.cs=[] ∨ r.ok W
 cs:r.cs=zs.map (AVal.int k)
 zl:zs.length=cap
 le:len≤cap
 wf:∀ z ∈ zs,(Lit.int k z).wf=true
 rd:∀ (i:Nat) (μ:Mu),(0<cap→μ.loc i 0=some ⟨r.blk,r.off,r.cs.length,0⟩)→∃ v,VR μ v V∧((v=.slice none 0 0∧cap=0) ∨ (v=.emp∧cap=0) ∨ (v=.slice (some ⟨i,0,0⟩) len cap∧0<cap))
theorem SlA.add {W:World} {k:IntKind} {V:Value} {r:Rw} {zs:List Int} {len cap:Nat} (h:SlA W k V r zs len cap) {R:List Rw} (hR:∀ x ∈ R,x.ok W) :
  ∃ R':List Rw,(∀ x ∈ R',x.ok W)∧(∀ (j:Nat) (x:Rw),R[j]?=some x→R'[j]?=some x)∧(0<cap→R'[R.length]?=some r):=by
 rcases h.ok with h1|h1
 ·refine ⟨R,hR,fun _ _ h=>h,fun hc=>?_⟩
  have:=congrArg List.length (h.cs.symm.trans h1)
  simp only [List.length_map,List.length_nil] at this
  have:=h.zl
  omega
 ·refine ⟨R++[r],fun x hx=>?_,fun j x hj=>?_,fun _=>by simp⟩
  ·rcases List.mem_append.1 hx with h2|h2
   ·exact hR x h2
   ·rw [List.mem_singleton] at h2;subst h2;exact h1
  ·rw [List.getElem?_append_left (List.getElem?_eq_some_iff.1 hj).1];exact hj
theorem SlA.ints {W:World} {V:Value} {r:Rw} {zs:List Int} {len cap i:Nat} {R:List Rw} (h:SlA W .i64 V r zs len cap) (hr:0<cap→R[i]?=some r) (hb:cap<2 ^ 60) :
  ∃ v,VR (muR R) v V∧Ints (heapR R) v (zs.take len):=by
 obtain ⟨v,h1,h2⟩:=h.rd i (muR R) (fun hc=>muR_loc (hr hc))
 exact ⟨v,h1,ints_of hr h.cs h.zl h.le hb h.wf h2⟩
theorem open_row {H:Type} {enc:TypeId × Value→H} {W:World} {t e:TypeId} {k:IntKind} {n:Nat} {V:Value} {x:DataW H × List MemPlace} (ht:prog.underlying t=some (.slice e)) (he:prog.underlying e=some (.int k)) (hc:prog.cellsOf e=1)
  (h:DataW.trod enc prog W 0 (fun _=>true) true n t [V]=some x):∃ (r:Rw) (zs:List Int) (len cap:Nat),SlA W k V r zs len cap∧cap≤Rows.uptoBulk x.1:=by
 obtain ⟨r,zs,len,cap,a1,a2,a3,a4,a5,a6,a7⟩:=arg_slice ht he hc h
 refine ⟨r,zs,len,cap,⟨a1,a2,a3,a4,a5,a7⟩,?_⟩
 rcases a6 with e6|e6
 ·by_cases hc0:cap=0
  ·omega
  ·exfalso
   obtain ⟨v,hv,h3⟩:=a7 0 (muR [r]) (fun _=>by rw [muR_loc (r:=r) rfl])
   rcases h3 with ⟨_,h4⟩|⟨_,h4⟩|⟨h4,_⟩
   ·exact hc0 h4
   ·exact hc0 h4
   ·subst h4
    cases hv with
    | slice r' L n' kcap C h5 =>
     have hx:=h
     rcases Go.ChangeShapes.open_ints ht he hc hx with ⟨h6,_⟩|⟨_,_,_,_,_,_,_,_,_,h6,_⟩
     ·simp at h6
     ·rw [h6] at e6;cases e6
    | slice0=>omega
 ·rw [e6,bulk_slice]
  simp only [List.length_take,List.length_drop]
  omega
end Go.AM
namespace Go.AM
open Go.Proofs.Tryz Go.RowKit Go.ChangeShapes Go.WideShapes Go.ChangeAt
open Go.Proofs.YtcemgempgbjbeaaGreat (Rows.uptoSmall Rows.uptoBulkAll Rows.uptoBulk)
set_option maxRecDepth 100000
theorem SlA.bytes {W:World} {V:Value} {r:Rw} {zs:List Int} {len cap i:Nat} {R:List Rw} (h:SlA W .u8 V r zs len cap) (hr:0<cap→R[i]?=some r) (hb:cap<2 ^ 60) :
  ∃ v,VR (muR R) v V∧Bytes (heapR R) v (zs.take len):=by
 obtain ⟨v,h1,hv⟩:=h.rd i (muR R) (fun hc=>muR_loc (hr hc))
 have hz:=h.zl
 have hl:=h.le
 refine ⟨v,h1,⟨by simp;omega,fun x hx=>?_⟩,?_⟩
 ·have:=h.wf x (List.mem_of_mem_take hx)
  simp [Lit.wf,IntKind.min,IntKind.max,IntKind.signed,IntKind.bits] at this
  omega
 ·rcases hv with ⟨rfl,h0⟩|⟨rfl,h0⟩|⟨rfl,h0⟩
  ·exact .inl ⟨rfl,by simp;exact .inr (List.eq_nil_of_length_eq_zero (by omega))⟩
  ·exact .inr (.inl ⟨rfl,by simp;exact .inr (List.eq_nil_of_length_eq_zero (by omega))⟩)
  ·have hlen:(zs.take len).length=len:=by rw [List.length_take];omega
   refine .inr (.inr ⟨⟨i,0,0⟩,cap,r.cs,3,false,true,by rw [hlen],heapR_get (hr h0),?_,?_,by rw [hlen];exact hl⟩)
   ·rw [hlen,h.cs,List.drop_zero,List.map_take]
   ·rw [hlen,h.cs];simp;omega
theorem openByt {H:Type} {enc:TypeId × Value→H} {W:World} {base:Nat} {V:Value} {d:DataW H} {p:List MemPlace} (hval:Value.okWide prog W .any base 22 V) (h:DataW.Trod enc prog W 0 (fun _=>true) true 22 V d p) :
  ∃ (r:Rw) (zs:List Int) (len cap:Nat),SlA W .u8 V r zs len cap∧cap≤Rows.uptoBulk d:=by
 obtain ⟨a0,n,k,rfl⟩:=okWide_slice underlying22 hval
 obtain ⟨fuel,hf⟩:=h
 exact open_row underlying22 underlying5 (by kernel_rfl) hf
end Go.AM
