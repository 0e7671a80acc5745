/-
  Facts of the types of one translation, by program (wip/tools/facts.py).
-/
import Derived.Test.YtikgghhceolaeaaGreatU7
import Derived.KernelRfl
import Derived.Test.YtikgghhceolaeaaGreatProg
import Derived.Test.YtikgghhceolaeaaGreatU9
import Derived.Test.YtikgghhceolaeaaGreatRows
import Derived.WalkKit
import Derived.ProofKit
import Derived.OpenShut
import Derived.JoinedCond
set_option linter.unusedSimpArgs false
set_option linter.unusedVariables false
namespace Go.AM.Fc
open Go.Proofs.Tryz
section
variable {id ver o:Nat} {h:Heap} {base:Nat}
theorem ty3:tyA prog 3=some (false,1):=by kernel_rfl
theorem zc3:zc prog 3=some [.int .i64 0]:=by kernel_rfl
theorem ik3:ikT prog 3=some .i64:=by kernel_rfl
theorem st3 {x:AVal} (hx:One x):stP prog base h 3 (.ptr (some ⟨id,ver,o⟩)) x=(stQ base id (h[id]?) ver o [x] (fun b=>h.set id b)).map fun h'=>(undefA,h'):=stP_one ty3 hx
theorem ty4:tyA prog 4=some (false,1):=by kernel_rfl
theorem zc4:zc prog 4=some [.bool false]:=by kernel_rfl
theorem st4 {x:AVal} (hx:One x):stP prog base h 4 (.ptr (some ⟨id,ver,o⟩)) x=(stQ base id (h[id]?) ver o [x] (fun b=>h.set id b)).map fun h'=>(undefA,h'):=stP_one ty4 hx
theorem ty5:tyA prog 5=some (false,1):=by kernel_rfl
theorem ik5:ikT prog 5=some .u8:=by kernel_rfl
theorem st5 {x:AVal} (hx:One x):stP prog base h 5 (.ptr (some ⟨id,ver,o⟩)) x=(stQ base id (h[id]?) ver o [x] (fun b=>h.set id b)).map fun h'=>(undefA,h'):=stP_one ty5 hx
theorem ar9:arT prog 9=none:=by kernel_rfl
theorem ty32:tyA prog 32=some (false,1):=by kernel_rfl
theorem zc32:zc prog 32=some [.slice none 0 0]:=by kernel_rfl
theorem ar32:arT prog 32=none:=by kernel_rfl
theorem el32:elS prog 32=some (3,1,[.int .i64 0]):=by kernel_rfl
theorem ln32 {r:ARef} {m k:Nat}:lenOpA prog h 32 (.slice (some r) m k)=some (.int .i64 (m:Int)):=len_sl el32
theorem as32 {v f m k:Nat} {i:Int} (h0:0≤i) (h1:i<m):indexAddrA prog 32 (.slice (some ⟨id,v,f⟩) m k) (.int .i64 i)=some (.ptr (some ⟨id,v,f+i.toNat * 1⟩)):=adr_sl el32 ar32 h0 h1
theorem un32:prog.underlying 32=some (.slice 3):=by kernel_rfl
theorem st32 {x:AVal} (hx:One x):stP prog base h 32 (.ptr (some ⟨id,ver,o⟩)) x=(stQ base id (h[id]?) ver o [x] (fun b=>h.set id b)).map fun h'=>(undefA,h'):=stP_one ty32 hx
theorem ty33:tyA prog 33=some (false,1):=by kernel_rfl
theorem ar33:arT prog 33=none:=by kernel_rfl
theorem el33:elS prog 33=some (50,5,[.int .i64 0,.int .i64 0,.int .i64 0,.int .i64 0,.int .i64 0]):=by kernel_rfl
theorem ln33 {r:ARef} {m k:Nat}:lenOpA prog h 33 (.slice (some r) m k)=some (.int .i64 (m:Int)):=len_sl el33
theorem as33 {v f m k:Nat} {i:Int} (h0:0≤i) (h1:i<m):indexAddrA prog 33 (.slice (some ⟨id,v,f⟩) m k) (.int .i64 i)=some (.ptr (some ⟨id,v,f+i.toNat * 5⟩)):=adr_sl el33 ar33 h0 h1
theorem st33 {x:AVal} (hx:One x):stP prog base h 33 (.ptr (some ⟨id,ver,o⟩)) x=(stQ base id (h[id]?) ver o [x] (fun b=>h.set id b)).map fun h'=>(undefA,h'):=stP_one ty33 hx
theorem ty35:tyA prog 35=some (true,3):=by kernel_rfl
theorem zc35:zc prog 35=some [.int .i64 0,.slice none 0 0,.slice none 0 0]:=by kernel_rfl
theorem pl35:plcS prog 35=some [(0,1),(1,1),(2,1)]:=by kernel_rfl
theorem fa35_0:fieldAddrA prog 35 (.ptr (some ⟨id,ver,o⟩)) 0=some (.ptr (some ⟨id,ver,o+0⟩)):=fieldAddr_eq (q:=false) (z:=1) (by kernel_rfl) (by decide)
theorem fa35_1:fieldAddrA prog 35 (.ptr (some ⟨id,ver,o⟩)) 1=some (.ptr (some ⟨id,ver,o+1⟩)):=fieldAddr_eq (q:=false) (z:=1) (by kernel_rfl) (by decide)
theorem fa35_2:fieldAddrA prog 35 (.ptr (some ⟨id,ver,o⟩)) 2=some (.ptr (some ⟨id,ver,o+2⟩)):=fieldAddr_eq (q:=false) (z:=1) (by kernel_rfl) (by decide)
theorem st35 {x0 x1 x2:AVal}:stP prog base h 35 (.ptr (some ⟨id,ver,o⟩)) (.agg [x0,x1,x2])=(stQ base id (h[id]?) ver o [x0,x1,x2] (fun b=>h.set id b)).map fun h'=>(undefA,h'):=stP_ptr ty35 rfl
theorem ar36:arT prog 36=none:=by kernel_rfl
theorem el36:elS prog 36=some (4,1,[.bool false]):=by kernel_rfl
theorem ln36 {r:ARef} {m k:Nat}:lenOpA prog h 36 (.slice (some r) m k)=some (.int .i64 (m:Int)):=len_sl el36
theorem as36 {v f m k:Nat} {i:Int} (h0:0≤i) (h1:i<m):indexAddrA prog 36 (.slice (some ⟨id,v,f⟩) m k) (.int .i64 i)=some (.ptr (some ⟨id,v,f+i.toNat * 1⟩)):=adr_sl el36 ar36 h0 h1
theorem ty50:tyA prog 50=some (true,5):=by kernel_rfl
theorem zc50:zc prog 50=some [.int .i64 0,.int .i64 0,.int .i64 0,.int .i64 0,.int .i64 0]:=by kernel_rfl
theorem pl50:plcS prog 50=some [(0,1),(1,1),(2,1),(3,1),(4,1)]:=by kernel_rfl
theorem fa50_0:fieldAddrA prog 50 (.ptr (some ⟨id,ver,o⟩)) 0=some (.ptr (some ⟨id,ver,o+0⟩)):=fieldAddr_eq (q:=false) (z:=1) (by kernel_rfl) (by decide)
theorem fa50_1:fieldAddrA prog 50 (.ptr (some ⟨id,ver,o⟩)) 1=some (.ptr (some ⟨id,ver,o+1⟩)):=fieldAddr_eq (q:=false) (z:=1) (by kernel_rfl) (by decide)
theorem fa50_2:fieldAddrA prog 50 (.ptr (some ⟨id,ver,o⟩)) 2=some (.ptr (some ⟨id,ver,o+2⟩)):=fieldAddr_eq (q:=false) (z:=1) (by kernel_rfl) (by decide)
theorem fa50_3:fieldAddrA prog 50 (.ptr (some ⟨id,ver,o⟩)) 3=some (.ptr (some ⟨id,ver,o+3⟩)):=fieldAddr_eq (q:=false) (z:=1) (by kernel_rfl) (by decide)
theorem fa50_4:fieldAddrA prog 50 (.ptr (some ⟨id,ver,o⟩)) 4=some (.ptr (some ⟨id,ver,o+4⟩)):=fieldAddr_eq (q:=false) (z:=1) (by kernel_rfl) (by decide)
theorem st50 {x0 x1 x2 x3 x4:AVal}:stP prog base h 50 (.ptr (some ⟨id,ver,o⟩)) (.agg [x0,x1,x2,x3,x4])=(stQ base id (h[id]?) ver o [x0,x1,x2,x3,x4] (fun b=>h.set id b)).map fun h'=>(undefA,h'):=stP_ptr ty50 rfl
theorem ty51:tyA prog 51=some (false,1):=by kernel_rfl
theorem zc51:zc prog 51=some [.slice none 0 0]:=by kernel_rfl
theorem ar51:arT prog 51=none:=by kernel_rfl
theorem el51:elS prog 51=some (57,3,[.int .i64 0,.int .i64 0,.bool false]):=by kernel_rfl
theorem as51 {v f m k:Nat} {i:Int} (h0:0≤i) (h1:i<m):indexAddrA prog 51 (.slice (some ⟨id,v,f⟩) m k) (.int .i64 i)=some (.ptr (some ⟨id,v,f+i.toNat * 3⟩)):=adr_sl el51 ar51 h0 h1
theorem st51 {x:AVal} (hx:One x):stP prog base h 51 (.ptr (some ⟨id,ver,o⟩)) x=(stQ base id (h[id]?) ver o [x] (fun b=>h.set id b)).map fun h'=>(undefA,h'):=stP_one ty51 hx
theorem ty57:tyA prog 57=some (true,3):=by kernel_rfl
theorem zc57:zc prog 57=some [.int .i64 0,.int .i64 0,.bool false]:=by kernel_rfl
theorem pl57:plcS prog 57=some [(0,1),(1,1),(2,1)]:=by kernel_rfl
theorem fa57_0:fieldAddrA prog 57 (.ptr (some ⟨id,ver,o⟩)) 0=some (.ptr (some ⟨id,ver,o+0⟩)):=fieldAddr_eq (q:=false) (z:=1) (by kernel_rfl) (by decide)
theorem fa57_1:fieldAddrA prog 57 (.ptr (some ⟨id,ver,o⟩)) 1=some (.ptr (some ⟨id,ver,o+1⟩)):=fieldAddr_eq (q:=false) (z:=1) (by kernel_rfl) (by decide)
theorem fa57_2:fieldAddrA prog 57 (.ptr (some ⟨id,ver,o⟩)) 2=some (.ptr (some ⟨id,ver,o+2⟩)):=fieldAddr_eq (q:=false) (z:=1) (by kernel_rfl) (by decide)
theorem st57 {x0 x1 x2:AVal}:stP prog base h 57 (.ptr (some ⟨id,ver,o⟩)) (.agg [x0,x1,x2])=(stQ base id (h[id]?) ver o [x0,x1,x2] (fun b=>h.set id b)).map fun h'=>(undefA,h'):=stP_ptr ty57 rfl
theorem ty61:tyA prog 61=some (false,1):=by kernel_rfl
theorem ar66:arT prog 66=none:=by kernel_rfl
theorem el66:elS prog 66=some (32,1,[.slice none 0 0]):=by kernel_rfl
theorem ln66 {r:ARef} {m k:Nat}:lenOpA prog h 66 (.slice (some r) m k)=some (.int .i64 (m:Int)):=len_sl el66
theorem ty68:tyA prog 68=some (false,1):=by kernel_rfl
theorem ar69:arT prog 69=none:=by kernel_rfl
theorem el69:elS prog 69=some (68,1,[.ptr none]):=by kernel_rfl
theorem ar73:arT prog 73=none:=by kernel_rfl
theorem el73:elS prog 73=some (35,3,[.int .i64 0,.slice none 0 0,.slice none 0 0]):=by kernel_rfl
theorem ln73 {r:ARef} {m k:Nat}:lenOpA prog h 73 (.slice (some r) m k)=some (.int .i64 (m:Int)):=len_sl el73
theorem ty84:tyA prog 84=some (true,2):=by kernel_rfl
theorem zc84:zc prog 84=some [.int .i64 0,.int .i64 0]:=by kernel_rfl
theorem pl84:plcS prog 84=some [(0,1),(1,1)]:=by kernel_rfl
theorem fa84_1:fieldAddrA prog 84 (.ptr (some ⟨id,ver,o⟩)) 1=some (.ptr (some ⟨id,ver,o+1⟩)):=fieldAddr_eq (q:=false) (z:=1) (by kernel_rfl) (by decide)
theorem ty96:tyA prog 96=some (false,1):=by kernel_rfl
theorem ty101:tyA prog 101=some (true,2):=by kernel_rfl
theorem zc101:zc prog 101=some [.int .i64 0,.int .i64 0]:=by kernel_rfl
theorem pl101:plcS prog 101=some [(0,1),(1,1)]:=by kernel_rfl
theorem fa101_0:fieldAddrA prog 101 (.ptr (some ⟨id,ver,o⟩)) 0=some (.ptr (some ⟨id,ver,o+0⟩)):=fieldAddr_eq (q:=false) (z:=1) (by kernel_rfl) (by decide)
theorem fa101_1:fieldAddrA prog 101 (.ptr (some ⟨id,ver,o⟩)) 1=some (.ptr (some ⟨id,ver,o+1⟩)):=fieldAddr_eq (q:=false) (z:=1) (by kernel_rfl) (by decide)
theorem st101 {x0 x1:AVal}:stP prog base h 101 (.ptr (some ⟨id,ver,o⟩)) (.agg [x0,x1])=(stQ base id (h[id]?) ver o [x0,x1] (fun b=>h.set id b)).map fun h'=>(undefA,h'):=stP_ptr ty101 rfl
theorem ty102:tyA prog 102=some (false,1):=by kernel_rfl
theorem zc104:zc prog 104=some [.nilFn]:=by kernel_rfl
theorem pl104:plcS prog 104=some [(0,1)]:=by kernel_rfl
theorem fa104_0:fieldAddrA prog 104 (.ptr (some ⟨id,ver,o⟩)) 0=some (.ptr (some ⟨id,ver,o+0⟩)):=fieldAddr_eq (q:=false) (z:=1) (by kernel_rfl) (by decide)
theorem ty106:tyA prog 106=some (true,61):=by kernel_rfl
theorem zc106:zc prog 106=some (ints (lst (fun _=>0) 61)):=by kernel_rfl
theorem ar106:arT prog 106=some (61,false,1):=by kernel_rfl
theorem ad106 {i:Int} (h0:0≤i) (h1:i<61):indexAddrA prog 106 (.ptr (some ⟨id,ver,o⟩)) (.int .i64 i)=some (.ptr (some ⟨id,ver,o+i.toNat * 1⟩)):=adr_arr ar106 h0 h1
theorem ar112:arT prog 112=none:=by kernel_rfl
theorem el112:elS prog 112=some (84,2,[.int .i64 0,.int .i64 0]):=by kernel_rfl
theorem as112 {v f m k:Nat} {i:Int} (h0:0≤i) (h1:i<m):indexAddrA prog 112 (.slice (some ⟨id,v,f⟩) m k) (.int .i64 i)=some (.ptr (some ⟨id,v,f+i.toNat * 2⟩)):=adr_sl el112 ar112 h0 h1
theorem ty121:tyA prog 121=some (false,1):=by kernel_rfl
theorem ar121:arT prog 121=none:=by kernel_rfl
theorem el121:elS prog 121=some (189,5,[.int .i64 0,.int .i64 0,.int .i64 0,.int .i64 0,.int .i64 0]):=by kernel_rfl
theorem as121 {v f m k:Nat} {i:Int} (h0:0≤i) (h1:i<m):indexAddrA prog 121 (.slice (some ⟨id,v,f⟩) m k) (.int .i64 i)=some (.ptr (some ⟨id,v,f+i.toNat * 5⟩)):=adr_sl el121 ar121 h0 h1
theorem st121 {x:AVal} (hx:One x):stP prog base h 121 (.ptr (some ⟨id,ver,o⟩)) x=(stQ base id (h[id]?) ver o [x] (fun b=>h.set id b)).map fun h'=>(undefA,h'):=stP_one ty121 hx
theorem ty123:tyA prog 123=some (true,3):=by kernel_rfl
theorem zc123:zc prog 123=some [.int .i64 0,.slice none 0 0,.slice none 0 0]:=by kernel_rfl
theorem pl123:plcS prog 123=some [(0,1),(1,1),(2,1)]:=by kernel_rfl
theorem fa123_0:fieldAddrA prog 123 (.ptr (some ⟨id,ver,o⟩)) 0=some (.ptr (some ⟨id,ver,o+0⟩)):=fieldAddr_eq (q:=false) (z:=1) (by kernel_rfl) (by decide)
theorem fa123_1:fieldAddrA prog 123 (.ptr (some ⟨id,ver,o⟩)) 1=some (.ptr (some ⟨id,ver,o+1⟩)):=fieldAddr_eq (q:=false) (z:=1) (by kernel_rfl) (by decide)
theorem fa123_2:fieldAddrA prog 123 (.ptr (some ⟨id,ver,o⟩)) 2=some (.ptr (some ⟨id,ver,o+2⟩)):=fieldAddr_eq (q:=false) (z:=1) (by kernel_rfl) (by decide)
theorem st123 {x0 x1 x2:AVal}:stP prog base h 123 (.ptr (some ⟨id,ver,o⟩)) (.agg [x0,x1,x2])=(stQ base id (h[id]?) ver o [x0,x1,x2] (fun b=>h.set id b)).map fun h'=>(undefA,h'):=stP_ptr ty123 rfl
theorem ar126:arT prog 126=none:=by kernel_rfl
theorem el126:elS prog 126=some (129,3,[.int .i64 0,.int .i64 0,.bool false]):=by kernel_rfl
theorem ty129:tyA prog 129=some (true,3):=by kernel_rfl
theorem zc129:zc prog 129=some [.int .i64 0,.int .i64 0,.bool false]:=by kernel_rfl
theorem pl129:plcS prog 129=some [(0,1),(1,1),(2,1)]:=by kernel_rfl
theorem fa129_0:fieldAddrA prog 129 (.ptr (some ⟨id,ver,o⟩)) 0=some (.ptr (some ⟨id,ver,o+0⟩)):=fieldAddr_eq (q:=false) (z:=1) (by kernel_rfl) (by decide)
theorem fa129_1:fieldAddrA prog 129 (.ptr (some ⟨id,ver,o⟩)) 1=some (.ptr (some ⟨id,ver,o+1⟩)):=fieldAddr_eq (q:=false) (z:=1) (by kernel_rfl) (by decide)
theorem fa129_2:fieldAddrA prog 129 (.ptr (some ⟨id,ver,o⟩)) 2=some (.ptr (some ⟨id,ver,o+2⟩)):=fieldAddr_eq (q:=false) (z:=1) (by kernel_rfl) (by decide)
theorem ty153:tyA prog 153=some (false,1):=by kernel_rfl
theorem ik163:ikT prog 163=some .u64:=by kernel_rfl
theorem zc165:zc prog 165=some (ints (lst (fun _=>0) 122)):=by kernel_rfl
theorem ar165:arT prog 165=some (61,true,2):=by kernel_rfl
theorem ad165 {i:Int} (h0:0≤i) (h1:i<61):indexAddrA prog 165 (.ptr (some ⟨id,ver,o⟩)) (.int .i64 i)=some (.ptr (some ⟨id,ver,o+i.toNat * 2⟩)):=adr_arr ar165 h0 h1
theorem ar167:arT prog 167=some (60,false,1):=by kernel_rfl
theorem ad167 {i:Int} (h0:0≤i) (h1:i<60):indexAddrA prog 167 (.ptr (some ⟨id,ver,o⟩)) (.int .i64 i)=some (.ptr (some ⟨id,ver,o+i.toNat * 1⟩)):=adr_arr ar167 h0 h1
theorem zc169:zc prog 169=some [.int .i64 0,.slice none 0 0,.slice none 0 0,.bool false,.bool false,.bool false,.bool false,.bool false,.bool false,.bool false,.bool false,.bool false,.bool false,.bool false,.bool false,.bool false,.bool false,.bool false,.bool false,.bool false,.bool false,.bool false,.bool false,.bool false,.bool false,.bool false,.bool false,.bool false,.bool false,.bool false,.bool false,.bool false,.bool false,.bool false,.bool false,.bool false,.bool false,.bool false,.bool false,.bool false,.bool false,.bool false,.bool false,.bool false,.bool false,.bool false,.bool false,.bool false,.bool false,.bool false,.bool false,.bool false,.bool false,.bool false,.bool false,.bool false,.bool false,.bool false,.bool false,.bool false,.bool false,.bool false,.bool false]:=by kernel_rfl
theorem pl169:plcS prog 169=some [(0,3),(3,60)]:=by kernel_rfl
theorem fa169_0:fieldAddrA prog 169 (.ptr (some ⟨id,ver,o⟩)) 0=some (.ptr (some ⟨id,ver,o+0⟩)):=fieldAddr_eq (q:=true) (z:=3) (by kernel_rfl) (by decide)
theorem fa169_1:fieldAddrA prog 169 (.ptr (some ⟨id,ver,o⟩)) 1=some (.ptr (some ⟨id,ver,o+3⟩)):=fieldAddr_eq (q:=true) (z:=60) (by kernel_rfl) (by decide)
theorem ty174:tyA prog 174=some (true,2):=by kernel_rfl
theorem zc174:zc prog 174=some [.int .i64 0,.int .i64 0]:=by kernel_rfl
theorem pl174:plcS prog 174=some [(0,1),(1,1)]:=by kernel_rfl
theorem fa174_0:fieldAddrA prog 174 (.ptr (some ⟨id,ver,o⟩)) 0=some (.ptr (some ⟨id,ver,o+0⟩)):=fieldAddr_eq (q:=false) (z:=1) (by kernel_rfl) (by decide)
theorem fa174_1:fieldAddrA prog 174 (.ptr (some ⟨id,ver,o⟩)) 1=some (.ptr (some ⟨id,ver,o+1⟩)):=fieldAddr_eq (q:=false) (z:=1) (by kernel_rfl) (by decide)
theorem st174 {x0 x1:AVal}:stP prog base h 174 (.ptr (some ⟨id,ver,o⟩)) (.agg [x0,x1])=(stQ base id (h[id]?) ver o [x0,x1] (fun b=>h.set id b)).map fun h'=>(undefA,h'):=stP_ptr ty174 rfl
theorem ty175:tyA prog 175=some (false,1):=by kernel_rfl
theorem zc175:zc prog 175=some [.nilFn]:=by kernel_rfl
theorem st175 {x:AVal} (hx:One x):stP prog base h 175 (.ptr (some ⟨id,ver,o⟩)) x=(stQ base id (h[id]?) ver o [x] (fun b=>h.set id b)).map fun h'=>(undefA,h'):=stP_one ty175 hx
theorem mp182:mpT prog 182=some (3,4):=by kernel_rfl
theorem ty189:tyA prog 189=some (true,5):=by kernel_rfl
theorem zc189:zc prog 189=some [.int .i64 0,.int .i64 0,.int .i64 0,.int .i64 0,.int .i64 0]:=by kernel_rfl
theorem fa189_0:fieldAddrA prog 189 (.ptr (some ⟨id,ver,o⟩)) 0=some (.ptr (some ⟨id,ver,o+0⟩)):=fieldAddr_eq (q:=false) (z:=1) (by kernel_rfl) (by decide)
theorem fa189_1:fieldAddrA prog 189 (.ptr (some ⟨id,ver,o⟩)) 1=some (.ptr (some ⟨id,ver,o+1⟩)):=fieldAddr_eq (q:=false) (z:=1) (by kernel_rfl) (by decide)
theorem fa189_2:fieldAddrA prog 189 (.ptr (some ⟨id,ver,o⟩)) 2=some (.ptr (some ⟨id,ver,o+2⟩)):=fieldAddr_eq (q:=false) (z:=1) (by kernel_rfl) (by decide)
theorem fa189_3:fieldAddrA prog 189 (.ptr (some ⟨id,ver,o⟩)) 3=some (.ptr (some ⟨id,ver,o+3⟩)):=fieldAddr_eq (q:=false) (z:=1) (by kernel_rfl) (by decide)
theorem fa189_4:fieldAddrA prog 189 (.ptr (some ⟨id,ver,o⟩)) 4=some (.ptr (some ⟨id,ver,o+4⟩)):=fieldAddr_eq (q:=false) (z:=1) (by kernel_rfl) (by decide)
theorem st189 {x0 x1 x2 x3 x4:AVal}:stP prog base h 189 (.ptr (some ⟨id,ver,o⟩)) (.agg [x0,x1,x2,x3,x4])=(stQ base id (h[id]?) ver o [x0,x1,x2,x3,x4] (fun b=>h.set id b)).map fun h'=>(undefA,h'):=stP_ptr ty189 rfl
theorem bd35_0 {y0:AVal} (h0:One y0):buildA prog 35 [(0,y0)]=some (.agg [y0,.slice none 0 0,.slice none 0 0]):=by
 simp [buildA,zc35,pl35,fillA,splice,isN_agg,cells_agg,h0.1,h0.2.1]
theorem bd35_01 {y0 y1:AVal} (h0:One y0) (h1:One y1):buildA prog 35 [(0,y0),(1,y1)]=some (.agg [y0,y1,.slice none 0 0]):=by
 simp [buildA,zc35,pl35,fillA,splice,isN_agg,cells_agg,h0.1,h0.2.1,h1.1,h1.2.1]
theorem bd35_012 {y0 y1 y2:AVal} (h0:One y0) (h1:One y1) (h2:One y2):buildA prog 35 [(0,y0),(1,y1),(2,y2)]=some (.agg [y0,y1,y2]):=by
 simp [buildA,zc35,pl35,fillA,splice,isN_agg,cells_agg,h0.1,h0.2.1,h1.1,h1.2.1,h2.1,h2.2.1]
theorem bd50_01234 {y0 y1 y2 y3 y4:AVal} (h0:One y0) (h1:One y1) (h2:One y2) (h3:One y3) (h4:One y4):buildA prog 50 [(0,y0),(1,y1),(2,y2),(3,y3),(4,y4)]=some (.agg [y0,y1,y2,y3,y4]):=by
 simp [buildA,zc50,pl50,fillA,splice,isN_agg,cells_agg,h0.1,h0.2.1,h1.1,h1.2.1,h2.1,h2.2.1,h3.1,h3.2.1,h4.1,h4.2.1]
theorem bd50_0124 {y0 y1 y2 y4:AVal} (h0:One y0) (h1:One y1) (h2:One y2) (h4:One y4):buildA prog 50 [(0,y0),(1,y1),(2,y2),(4,y4)]=some (.agg [y0,y1,y2,.int .i64 0,y4]):=by
 simp [buildA,zc50,pl50,fillA,splice,isN_agg,cells_agg,h0.1,h0.2.1,h1.1,h1.2.1,h2.1,h2.2.1,h4.1,h4.2.1]
theorem bd50_013 {y0 y1 y3:AVal} (h0:One y0) (h1:One y1) (h3:One y3):buildA prog 50 [(0,y0),(1,y1),(3,y3)]=some (.agg [y0,y1,.int .i64 0,y3,.int .i64 0]):=by
 simp [buildA,zc50,pl50,fillA,splice,isN_agg,cells_agg,h0.1,h0.2.1,h1.1,h1.2.1,h3.1,h3.2.1]
theorem bd57_ :buildA prog 57 []=some (.agg [.int .i64 0,.int .i64 0,.bool false]):=by
 simp [buildA,zc57,pl57,fillA,splice,isN_agg,cells_agg]
theorem bd57_0 {y0:AVal} (h0:One y0):buildA prog 57 [(0,y0)]=some (.agg [y0,.int .i64 0,.bool false]):=by
 simp [buildA,zc57,pl57,fillA,splice,isN_agg,cells_agg,h0.1,h0.2.1]
theorem bd57_012 {y0 y1 y2:AVal} (h0:One y0) (h1:One y1) (h2:One y2):buildA prog 57 [(0,y0),(1,y1),(2,y2)]=some (.agg [y0,y1,y2]):=by
 simp [buildA,zc57,pl57,fillA,splice,isN_agg,cells_agg,h0.1,h0.2.1,h1.1,h1.2.1,h2.1,h2.2.1]
theorem bd57_1 {y1:AVal} (h1:One y1):buildA prog 57 [(1,y1)]=some (.agg [.int .i64 0,y1,.bool false]):=by
 simp [buildA,zc57,pl57,fillA,splice,isN_agg,cells_agg,h1.1,h1.2.1]
theorem bd57_12 {y1 y2:AVal} (h1:One y1) (h2:One y2):buildA prog 57 [(1,y1),(2,y2)]=some (.agg [.int .i64 0,y1,y2]):=by
 simp [buildA,zc57,pl57,fillA,splice,isN_agg,cells_agg,h1.1,h1.2.1,h2.1,h2.2.1]
theorem bd57_2 {y2:AVal} (h2:One y2):buildA prog 57 [(2,y2)]=some (.agg [.int .i64 0,.int .i64 0,y2]):=by
 simp [buildA,zc57,pl57,fillA,splice,isN_agg,cells_agg,h2.1,h2.2.1]
theorem bd84_01 {y0 y1:AVal} (h0:One y0) (h1:One y1):buildA prog 84 [(0,y0),(1,y1)]=some (.agg [y0,y1]):=by
 simp [buildA,zc84,pl84,fillA,splice,isN_agg,cells_agg,h0.1,h0.2.1,h1.1,h1.2.1]
theorem bd101_01 {y0 y1:AVal} (h0:One y0) (h1:One y1):buildA prog 101 [(0,y0),(1,y1)]=some (.agg [y0,y1]):=by
 simp [buildA,zc101,pl101,fillA,splice,isN_agg,cells_agg,h0.1,h0.2.1,h1.1,h1.2.1]
theorem bd104_0 {y0:AVal} (h0:One y0):buildA prog 104 [(0,y0)]=some (.agg [y0]):=by
 simp [buildA,zc104,pl104,fillA,splice,isN_agg,cells_agg,h0.1,h0.2.1]
theorem bd123_01 {y0 y1:AVal} (h0:One y0) (h1:One y1):buildA prog 123 [(0,y0),(1,y1)]=some (.agg [y0,y1,.slice none 0 0]):=by
 simp [buildA,zc123,pl123,fillA,splice,isN_agg,cells_agg,h0.1,h0.2.1,h1.1,h1.2.1]
theorem bd123_012 {y0 y1 y2:AVal} (h0:One y0) (h1:One y1) (h2:One y2):buildA prog 123 [(0,y0),(1,y1),(2,y2)]=some (.agg [y0,y1,y2]):=by
 simp [buildA,zc123,pl123,fillA,splice,isN_agg,cells_agg,h0.1,h0.2.1,h1.1,h1.2.1,h2.1,h2.2.1]
theorem bd129_012 {y0 y1 y2:AVal} (h0:One y0) (h1:One y1) (h2:One y2):buildA prog 129 [(0,y0),(1,y1),(2,y2)]=some (.agg [y0,y1,y2]):=by
 simp [buildA,zc129,pl129,fillA,splice,isN_agg,cells_agg,h0.1,h0.2.1,h1.1,h1.2.1,h2.1,h2.2.1]
theorem bd169_0 {y0_0 y0_1 y0_2:AVal} :buildA prog 169 [(0,.agg [y0_0,y0_1,y0_2])]=some (.agg [y0_0,y0_1,y0_2,.bool false,.bool false,.bool false,.bool false,.bool false,.bool false,.bool false,.bool false,.bool false,.bool false,.bool false,.bool false,.bool false,.bool false,.bool false,.bool false,.bool false,.bool false,.bool false,.bool false,.bool false,.bool false,.bool false,.bool false,.bool false,.bool false,.bool false,.bool false,.bool false,.bool false,.bool false,.bool false,.bool false,.bool false,.bool false,.bool false,.bool false,.bool false,.bool false,.bool false,.bool false,.bool false,.bool false,.bool false,.bool false,.bool false,.bool false,.bool false,.bool false,.bool false,.bool false,.bool false,.bool false,.bool false,.bool false,.bool false,.bool false,.bool false,.bool false,.bool false]):=by
 simp [buildA,zc169,pl169,fillA,splice,isN_agg,cells_agg]
theorem bd174_ :buildA prog 174 []=some (.agg [.int .i64 0,.int .i64 0]):=by
 simp [buildA,zc174,pl174,fillA,splice,isN_agg,cells_agg]
theorem bd174_01 {y0 y1:AVal} (h0:One y0) (h1:One y1):buildA prog 174 [(0,y0),(1,y1)]=some (.agg [y0,y1]):=by
 simp [buildA,zc174,pl174,fillA,splice,isN_agg,cells_agg,h0.1,h0.2.1,h1.1,h1.2.1]
theorem eq50 {a0:Int} {a1:Int} {a2:Int} {a3:Int} {a4:Int} {b0:Int} {b1:Int} {b2:Int} {b3:Int} {b4:Int}:binA prog .eql 50 (.agg [.int .i64 a0,.int .i64 a1,.int .i64 a2,.int .i64 a3,.int .i64 a4]) (.agg [.int .i64 b0,.int .i64 b1,.int .i64 b2,.int .i64 b3,.int .i64 b4])=some (.bool (decide (a0=b0∧a1=b1∧a2=b2∧a3=b3∧a4=b4))):=by
 have h1:prog.eqGuardType prog.depth 50=false:=by kernel_rfl
 have s50:prog.stoodInHeld 50=false:=by kernel_rfl
 simp [binA,eqDepth,eqT,partA,partQ,h1,s50,underlying3,ty3,underlying50,ty50]
 by_cases e0:a0=b0<;>by_cases e1:a1=b1<;>by_cases e2:a2=b2<;>by_cases e3:a3=b3<;>by_cases e4:a4=b4<;>simp [e0,e1,e2,e3,e4]
theorem ne50 {a0:Int} {a1:Int} {a2:Int} {a3:Int} {a4:Int} {b0:Int} {b1:Int} {b2:Int} {b3:Int} {b4:Int}:binA prog .neq 50 (.agg [.int .i64 a0,.int .i64 a1,.int .i64 a2,.int .i64 a3,.int .i64 a4]) (.agg [.int .i64 b0,.int .i64 b1,.int .i64 b2,.int .i64 b3,.int .i64 b4])=some (.bool (decide (¬ (a0=b0∧a1=b1∧a2=b2∧a3=b3∧a4=b4)))):=by
 have h:=eq50 (a0:=a0) (a1:=a1) (a2:=a2) (a3:=a3) (a4:=a4) (b0:=b0) (b1:=b1) (b2:=b2) (b3:=b3) (b4:=b4)
 simp only [binA,isShift] at h ⊢
 split at h
 ·cases h
 ·rename_i hg
  rw [if_neg hg]
  cases hq:eqT prog eqDepth 50 (.agg [.int .i64 a0,.int .i64 a1,.int .i64 a2,.int .i64 a3,.int .i64 a4]) (.agg [.int .i64 b0,.int .i64 b1,.int .i64 b2,.int .i64 b3,.int .i64 b4]) with
  | none=>rw [hq] at h;cases h
  | some r=>rw [hq] at h;simp only [Option.map_some,Option.some.injEq,AVal.bool.injEq] at h ⊢;rw [h];simp
theorem eq57 {a0:Int} {a1:Int} {a2:Bool} {b0:Int} {b1:Int} {b2:Bool}:binA prog .eql 57 (.agg [.int .i64 a0,.int .i64 a1,.bool a2]) (.agg [.int .i64 b0,.int .i64 b1,.bool b2])=some (.bool (decide (a0=b0∧a1=b1∧a2=b2))):=by
 have h1:prog.eqGuardType prog.depth 57=false:=by kernel_rfl
 have s57:prog.stoodInHeld 57=false:=by kernel_rfl
 simp [binA,eqDepth,eqT,partA,partQ,h1,s57,underlying3,ty3,underlying4,ty4,underlying57,ty57]
 by_cases e0:a0=b0<;>by_cases e1:a1=b1<;>by_cases e2:a2=b2<;>simp [e0,e1,e2]
theorem ne57 {a0:Int} {a1:Int} {a2:Bool} {b0:Int} {b1:Int} {b2:Bool}:binA prog .neq 57 (.agg [.int .i64 a0,.int .i64 a1,.bool a2]) (.agg [.int .i64 b0,.int .i64 b1,.bool b2])=some (.bool (decide (¬ (a0=b0∧a1=b1∧a2=b2)))):=by
 have h:=eq57 (a0:=a0) (a1:=a1) (a2:=a2) (b0:=b0) (b1:=b1) (b2:=b2)
 simp only [binA,isShift] at h ⊢
 split at h
 ·cases h
 ·rename_i hg
  rw [if_neg hg]
  cases hq:eqT prog eqDepth 57 (.agg [.int .i64 a0,.int .i64 a1,.bool a2]) (.agg [.int .i64 b0,.int .i64 b1,.bool b2]) with
  | none=>rw [hq] at h;cases h
  | some r=>rw [hq] at h;simp only [Option.map_some,Option.some.injEq,AVal.bool.injEq] at h ⊢;rw [h];simp
theorem eq84 {a0:Int} {a1:Int} {b0:Int} {b1:Int}:binA prog .eql 84 (.agg [.int .i64 a0,.int .i64 a1]) (.agg [.int .i64 b0,.int .i64 b1])=some (.bool (decide (a0=b0∧a1=b1))):=by
 have h1:prog.eqGuardType prog.depth 84=false:=by kernel_rfl
 have s84:prog.stoodInHeld 84=false:=by kernel_rfl
 simp [binA,eqDepth,eqT,partA,partQ,h1,s84,underlying3,ty3,underlying84,ty84]
 by_cases e0:a0=b0<;>by_cases e1:a1=b1<;>simp [e0,e1]
theorem ne84 {a0:Int} {a1:Int} {b0:Int} {b1:Int}:binA prog .neq 84 (.agg [.int .i64 a0,.int .i64 a1]) (.agg [.int .i64 b0,.int .i64 b1])=some (.bool (decide (¬ (a0=b0∧a1=b1)))):=by
 have h:=eq84 (a0:=a0) (a1:=a1) (b0:=b0) (b1:=b1)
 simp only [binA,isShift] at h ⊢
 split at h
 ·cases h
 ·rename_i hg
  rw [if_neg hg]
  cases hq:eqT prog eqDepth 84 (.agg [.int .i64 a0,.int .i64 a1]) (.agg [.int .i64 b0,.int .i64 b1]) with
  | none=>rw [hq] at h;cases h
  | some r=>rw [hq] at h;simp only [Option.map_some,Option.some.injEq,AVal.bool.injEq] at h ⊢;rw [h];simp
theorem eq129 {a0:Int} {a1:Int} {a2:Bool} {b0:Int} {b1:Int} {b2:Bool}:binA prog .eql 129 (.agg [.int .i64 a0,.int .i64 a1,.bool a2]) (.agg [.int .i64 b0,.int .i64 b1,.bool b2])=some (.bool (decide (a0=b0∧a1=b1∧a2=b2))):=by
 have h1:prog.eqGuardType prog.depth 129=false:=by kernel_rfl
 have s129:prog.stoodInHeld 129=false:=by kernel_rfl
 simp [binA,eqDepth,eqT,partA,partQ,h1,s129,underlying3,ty3,underlying4,ty4,underlying129,ty129]
 by_cases e0:a0=b0<;>by_cases e1:a1=b1<;>by_cases e2:a2=b2<;>simp [e0,e1,e2]
theorem ne129 {a0:Int} {a1:Int} {a2:Bool} {b0:Int} {b1:Int} {b2:Bool}:binA prog .neq 129 (.agg [.int .i64 a0,.int .i64 a1,.bool a2]) (.agg [.int .i64 b0,.int .i64 b1,.bool b2])=some (.bool (decide (¬ (a0=b0∧a1=b1∧a2=b2)))):=by
 have h:=eq129 (a0:=a0) (a1:=a1) (a2:=a2) (b0:=b0) (b1:=b1) (b2:=b2)
 simp only [binA,isShift] at h ⊢
 split at h
 ·cases h
 ·rename_i hg
  rw [if_neg hg]
  cases hq:eqT prog eqDepth 129 (.agg [.int .i64 a0,.int .i64 a1,.bool a2]) (.agg [.int .i64 b0,.int .i64 b1,.bool b2]) with
  | none=>rw [hq] at h;cases h
  | some r=>rw [hq] at h;simp only [Option.map_some,Option.some.injEq,AVal.bool.injEq] at h ⊢;rw [h];simp
end
attribute [go_sem] ty3 zc3 st3 ty4 zc4 st4 ty5 st5 ar9 ty32 zc32 ar32 el32 ln32 as32 st32 ty33 ar33 el33 ln33 as33 st33 ty35 zc35 fa35_0 fa35_1 fa35_2 st35 ar36 el36 ln36 as36 ty50 zc50 fa50_0 fa50_1 fa50_2 fa50_3 fa50_4 st50 ty51 zc51 ar51 el51 as51 st51 ty57 zc57 fa57_0 fa57_1 fa57_2 st57 ty61 ar66 el66 ln66 ty68 ar69 el69 ar73 el73 ln73 ty84 zc84 fa84_1 ty96 ty101 zc101 fa101_0 fa101_1 st101 ty102 zc104 fa104_0 ty106 zc106 ar106 ad106 ar112 el112 as112 ty121 ar121 el121 as121 st121 ty123 zc123 fa123_0 fa123_1 fa123_2 st123 ar126 el126 ty129 zc129 fa129_0 fa129_1 fa129_2 ty153 zc165 ar165 ad165 ar167 ad167 zc169 fa169_0 fa169_1 ty174 zc174 fa174_0 fa174_1 st174 ty175 zc175 st175 mp182 ty189 zc189 fa189_0 fa189_1 fa189_2 fa189_3 fa189_4 st189 bd35_0 bd35_01 bd35_012 bd50_01234 bd50_0124 bd50_013 bd57_ bd57_0 bd57_012 bd57_1 bd57_12 bd57_2 bd84_01 bd101_01 bd104_0 bd123_01 bd123_012 bd129_012 bd169_0 bd174_ bd174_01 eq50 ne50 eq57 ne57 eq84 ne84 eq129 ne129
attribute [go_sem] results3 results4 results5 results6 results7 results8 results9 results10 results11 results12 results13 results14 results15 results16 results17 results18 results19 results20 results21 results22 results23 results24 results25 results26 results27 results28 results29 results30 results31 results32 results33 results34 results35 results36 results37 results38 results39 results40 results41 results42 results43 results44 results45 results46 results47 results48 results49 results50 results51 results52 results53 results54 results55 results56 results57 results58 results59 results60 results61 results62 results63 results64 results65 results66 results67 results68 results69 results70 results71 results72 results73 results74 results75 results76 results77 results78 results79 results80 results81 results82 results83 results84 results85 results86 results87 results88 results89 results90 results91 results92 results93 results94 results95 results96 results97 results98 results99 results100 results101 results102 results103 results104 results105 results106 results107 results108 results109 results110 results111 results112 results113 results114 results115 results116 results117 results118 results119 results120 results121 results122 results123 results124 results125 results126 results127 results128 results129 results130 results131 results132 results133 results134 results135 results136 results137 results138 results139 results140 results141 results142 results143 results144 results145 results146 results147 results148 results149 results150 results151 results152 results153 results154 results155 results156 results157 results158 results159 results160 results161 results162 results163 results164 results165 results166 results167 results168 results169 results170 results171 results172 results173 results174 results175 results176 results177 results178
end Go.AM.Fc
namespace Go.AM
section
variable {P:Program} {raw:FuncId→Bool} {base:Nat}
def YieldsX (P:Program) (raw:FuncId→Bool) (base L:Nat) (g:AVal) (N:Nat) (X:Nat→List AVal→Heap→Prop) (pr:ABlk→Prop) (I:Nat→Heap→Prop):Prop :=
 ∀ (J:Nat→Heap→Prop) (S:Heap→Prop) (H0:Heap),L+1=H0.length→(∀ j H,J j H→I j H∧L+1≤H.length)→(∀ j H T,J j H→J j (H++T)) →
  (∀ j a H,j<N→X j a H→J j H→∃ b H',callL P raw base (.yld L) a H=some (.bool b,H')∧(∀ i x,L+1≤i→pr x→H[i]?=some x→H'[i]?=some x)∧H.length≤H'.length∧(b=true→J (j+1) H')∧(b=false→S H')) →
  J 0 H0→∃ v H',callL P raw base g [.yld L] H0=some (v,H')∧(J N H' ∨ S H')
theorem WP_rangeX {g:Operand} {ps:List Tmp} {assign body:Code} {fr:AFrame} {h:Heap} {Q:AExit→St→Prop} {f:FuncId} {a c:List AVal} (hg:ev fr g=.fn f a c) {N:Nat} {X:Nat→List AVal→Heap→Prop} {pr:ABlk→Prop} (I:Nat→Heap→Prop) (E:AExit→Heap→Prop)
  (hit:YieldsX P raw base h.length (.fn f a c) N X pr I) (hxs:∀ j a H,X j a H→a.length=ps.length) (happ:∀ j H T,I j H→I j (H++T)) (hset:∀ j H b,I j H→I j (H.set h.length b)) (hsetE:∀ e H b,E e H→E e (H.set h.length b))
  (h0:I 0 (h++[loopB fr ps assign body .ready none]))
  (hbody:∀ j a H B1 B2,j<N→X j a H→I j H→h.length+1≤H.length→H[h.length]?=some B1→WP P raw base assign ⟨putAll fr ps a,H⟩ (fun e s1=>e=.normal∧s1.h[h.length]?=some B1 ∧
   WP P raw base body ⟨s1.fr,s1.h.set h.length B2⟩ (fun e s2=>s2.h[h.length]?=some B2∧(∀ i x,h.length+1≤i→pr x→H[i]?=some x→s2.h[i]?=some x)∧H.length≤s2.h.length ∧
    ((e=.normal∧I (j+1) s2.h) ∨ (e ≠ .normal∧E e s2.h)))))
  (hQ:∀ H,I N H→Q .normal ⟨fr,H⟩) (hQE:∀ e H,e ≠ .normal→E e H→Q e ⟨fr,H⟩):WP P raw base (.rangeFunc g ps.toArray assign body) ⟨fr,h⟩ Q:=by
 obtain ⟨v,H',hc,hend⟩:=hit (fun j H=>I j H∧h.length+1≤H.length∧H[h.length]?=some (loopB fr ps assign body .ready none))
  (fun H=>∃ e,e ≠ .normal∧E e H∧H[h.length]?=some (loopB fr ps assign body .done (jumpOf e))) (h++[loopB fr ps assign body .ready none]) (by simp) (fun j H hJ=>⟨hJ.1,hJ.2.1⟩)
  (fun j H T hJ=>⟨happ j H T hJ.1,by simp;omega,get_app hJ.2.2⟩)
  (fun j a H hj hX hJ=>by
   obtain ⟨e,H2,hK,hcall⟩:=callL_yldW (K:=fun e H2=>H2[h.length]?=some (loopB fr ps assign body .busy none)∧(∀ i x,h.length+1≤i→pr x→H[i]?=some x→H2[i]?=some x)∧H.length≤H2.length∧((e=.normal∧I (j+1) H2) ∨ (e ≠ .normal∧E e H2)))
    hJ.2.2 (hxs j a H hX) (by
     obtain ⟨e1,s1,h1,rfl,h2,e2,s2,h3,h4⟩:=hbody j a H _ (loopB fr ps assign body .busy none) hj hX hJ.1 hJ.2.1 hJ.2.2
     exact ⟨.normal,s1,h1,rfl,h2,e2,s2,h3,h4.1,h4⟩)
   refine ⟨_,_,hcall,fun i x hi hp hx=>?_,by rw [List.length_set];exact hK.2.2.1,fun hb=>?_,fun hb=>?_⟩
   ·have:=hK.2.1 i x hi hp hx
    rw [get_set this,if_neg (by omega)]
   ·have he:e=.normal:=isNone_jump.1 hb
    subst he
    have hI2:I (j+1) H2:=by
     rcases hK.2.2.2 with h5|h5
     ·exact h5.2
     ·exact absurd rfl h5.1
    have hlt:=lt_of_get hK.1
    refine ⟨hset _ _ _ hI2,by simp;omega,?_⟩
    rw [get_set hK.1,if_pos rfl]
    rfl
   ·have he:e ≠ .normal:=fun h5=>by rw [isNone_jump.2 h5] at hb;cases hb
    have hE2:E e H2:=by
     rcases hK.2.2.2 with h5|h5
     ·exact absurd h5.1 he
     ·exact h5.2
    refine ⟨e,he,hsetE _ _ _ hE2,?_⟩
    rw [get_set hK.1,if_pos rfl,hb]
    rfl)
  ⟨h0,by simp,by simp⟩
 rcases hend with ⟨h1,_,h2⟩|⟨e,he,h1,h2⟩
 ·exact WP_rangeFunc hg hc h2 (by intro hh;cases hh) (hQ _ (hset _ _ _ h1))
 ·refine WP_rangeFunc hg hc h2 (by intro hh;cases hh) ?_
  have:=hQE e _ he (hsetE e _ (loopB fr ps assign body .exhausted (jumpOf e)) h1)
  cases e with
  | normal=>exact absurd rfl he
  | exit id=>exact this
  | ret=>exact this
end
end Go.AM
namespace Go.AM
section
variable {P:Program} {raw:FuncId→Bool} {base:Nat} {ops:Array Oper} {chk:Bool} {d:Option Tmp} {ty:TypeId} {pos:String} {af:Array Edge} {fr:AFrame} {h:Heap} {K:St→Prop}
end
end Go.AM
namespace Go.AM
def raw:FuncId→Bool:=fun f=>[5,30,8,35,17,18,7,53,54,11,63,61,65,44,70,58,59,45,89,156,73,74,21,121,19,124,37,38,126,115,116,131,85,109,117,107,140,118,134,152,108,110,148].contains f
end Go.AM
namespace Go.AM
open Go.Proofs.Tryz
section
variable {h A:Heap} {v:AVal} {l:List Int} {base n:Nat} {lit:Bool} {x:Int}
theorem lenI (hI:Ints h v l):lenOpA prog h 32 v=some (.int .i64 (l.length:Int)):=hI.len Fc.el32
theorem adrI {i:Int} (h0:0≤i) (hI:Ints h v l) (h1:i<l.length):indexAddrA prog 32 v (.int .i64 i)=some (elAddr v i.toNat):=hI.addr Fc.el32 Fc.ar32 h0 h1
theorem loadI {i:Nat} (hI:Ints h v l) (h1:i<l.length):loadP prog h 3 (elAddr v i)=some (.int .i64 (l.getD i 0)) :=
 hI.load Fc.ty3 (by rw [List.getD_eq_getElem?_getD,List.getElem?_eq_getElem h1];rfl)
theorem bslI (hl:lit=true):bsA prog lit h 32 1 [(0,.int .i64 x)]=some (.vals [.int .i64 x],h):=bs_lit hl Fc.el32
theorem bsrI (hl:lit=false):bsA prog lit h 32 1 [(0,.int .i64 x)]=some (.slice (some ⟨h.length,0,0⟩) 1 1,h++[rowB [x] 0]):=bs_row hl Fc.el32
theorem ints_nil {H:Heap}:Ints H (.slice none 0 0) []:=⟨⟨by simp,by simp⟩,.inl ⟨rfl,rfl⟩⟩
theorem slice_row {k:Nat} (hn:n=A.length) (hk:k=l.length) (hs:Small l):Ints (A++[rowB l 0]) (.slice (some ⟨n,0,0⟩) k k) l:=by
 subst hn hk
 exact Ints.fresh_row hs (by simp [rowB]) (Nat.le_refl _)
end
attribute [go_sem] lenI adrI loadI bslI bsrI
theorem extQ_ext {h H:Heap} {A:Prop} (e:Ext h H):extQ true h H A=A:=by
 simp only [extQ,true_imp_iff,and_iff_right_iff_imp,eq_iff_iff]
 exact fun _=>e
attribute [go_sem] extQ_ext
theorem tmodN (a b:Nat):(a:Int).tmod b=((a % b:Nat):Int):=rfl
theorem neB {a b:Bool}:binA prog .neq 4 (.bool a) (.bool b)=some (.bool (decide (a ≠ b))):=by cases a<;>cases b<;>kernel_rfl
end Go.AM
namespace Go.AM
open Go.Proofs.Tryz Go.RowKit Go.ChangeShapes
theorem own:ownKnob Go.Proofs.Tryz.prog.godebug=none:=by kernel_rfl
theorem laid:laidOutB Go.Proofs.Tryz.prog=true:=by kernel_rfl
theorem calls_true {f:FuncId} {args:List AVal} {A:Array Value} {R:List Rw} {W:World} {h':Heap} (hR:∀ r ∈ R,r.ok W) (hargs:VRs (muR R) args A.toList) (hv:callL prog raw 0 (.fn f [] []) args (heapR R)=some (.bool true,h')) :
  Calls prog f A W fun e W'=>e=.returned (.bool true)∧Below W.heap.size W W':=by
 have h0:=callL_sound (raw:=raw) allOk (Nat.zero_le _) (hrelR (P:=prog) hR) hargs (by intro q;cases q) hv
 refine (callsIn_wide.1 h0).mono fun e W' ⟨X,he,μ',_,hX,_,hE,_⟩=>?_
 have:X=.bool true:=by cases hX;rfl
 subst this
 exact ⟨he,below_of_evo hE⟩
end Go.AM
namespace Go.AM
open Go.Proofs.Tryz Go.RowKit Go.ChangeShapes Go.WideShapes Go.ChangeAt
open Go.Proofs.YtikgghhceolaeaaGreat (Rows.uptoSmall Rows.uptoBulkAll Rows.uptoBulk)
set_option maxRecDepth 100000
structure SlA (W:World) (k:IntKind) (V:Value) (r:Rw) (zs:List Int) (len cap:Nat):Prop where
 ok:r.cs=[] ∨ r.ok W
 cs:r.cs=zs.map (AVal.int k)
 zl:zs.length=cap
 le:len≤cap
 wf:∀ z ∈ zs,(Lit.int k z).wf=true
 rd:∀ (i:Nat) (μ:Mu),(0<cap→μ.loc i 0=some ⟨r.blk,r.off,r.cs.length,0⟩)→∃ v,VR μ v V∧((v=.slice none 0 0∧cap=0) ∨ (v=.emp∧cap=0) ∨ (v=.slice (some ⟨i,0,0⟩) len cap∧0<cap))
end Go.AM
