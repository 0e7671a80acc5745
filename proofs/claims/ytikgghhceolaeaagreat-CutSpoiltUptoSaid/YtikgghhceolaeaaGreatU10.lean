/-
  Facts of the types of one translation, by program (wip/tools/facts.py).
-/
import Derived.Test.YtikgghhceolaeaaGreatU7
import Derived.KernelRfl
import Derived.Test.YtikgghhceolaeaaGreatProg
import Derived.Test.YtikgghhceolaeaaGreatU9
import Derived.Test.YtikgghhceolaeaaGreatRows
import Derived.WalkKit
import Derived.ProofKit
import Derived.OpenShut
import Derived.JoinedCond
set_option linter.unusedSimpArgs false
set_option linter.unusedVariables false
namespace Go.AM.Fc
open Go.Proofs.Tryz
section
variable {id ver o:Nat} {h:Heap} {base:Nat}
theorem ty3:tyA prog 3=some (false,1):=by kernel_rfl
theorem zc3:zc prog 3=some [.int .i64 0]:=by kernel_rfl
theorem ik3:ikT prog 3=some .i64:=by kernel_rfl
theorem st3 {x:AVal} (hx:One x):stP prog base h 3 (.ptr (some ⟨id,ver,o⟩)) x=(stQ base id (h[id]?) ver o [x] (fun b=>h.set id b)).map fun h'=>(undefA,h'):=stP_one ty3 hx
theorem ty4:tyA prog 4=some (false,1):=by kernel_rfl
theorem st4 {x:AVal} (hx:One x):stP prog base h 4 (.ptr (some ⟨id,ver,o⟩)) x=(stQ base id (h[id]?) ver o [x] (fun b=>h.set id b)).map fun h'=>(undefA,h'):=stP_one ty4 hx
theorem ty5:tyA prog 5=some (false,1):=by kernel_rfl
theorem ik5:ikT prog 5=some .u8:=by kernel_rfl
theorem st5 {x:AVal} (hx:One x):stP prog base h 5 (.ptr (some ⟨id,ver,o⟩)) x=(stQ base id (h[id]?) ver o [x] (fun b=>h.set id b)).map fun h'=>(undefA,h'):=stP_one ty5 hx
theorem ar9:arT prog 9=none:=by kernel_rfl
theorem ty22:tyA prog 22=some (false,1):=by kernel_rfl
theorem ar22:arT prog 22=none:=by kernel_rfl
theorem el22:elS prog 22=some (5,1,[.int .u8 0]):=by kernel_rfl
theorem ty23:tyA prog 23=some (false,1):=by kernel_rfl
theorem ar23:arT prog 23=none:=by kernel_rfl
theorem el23:elS prog 23=some (81,4,[.slice none 0 0,.int .i64 0,.int .i64 0,.bool false]):=by kernel_rfl
theorem st23 {x:AVal} (hx:One x):stP prog base h 23 (.ptr (some ⟨id,ver,o⟩)) x=(stQ base id (h[id]?) ver o [x] (fun b=>h.set id b)).map fun h'=>(undefA,h'):=stP_one ty23 hx
theorem ty24:tyA prog 24=some (false,1):=by kernel_rfl
theorem ar24:arT prog 24=none:=by kernel_rfl
theorem el24:elS prog 24=some (86,4,[.int .i64 0,.int .i64 0,.int .i64 0,.bool false]):=by kernel_rfl
theorem st24 {x:AVal} (hx:One x):stP prog base h 24 (.ptr (some ⟨id,ver,o⟩)) x=(stQ base id (h[id]?) ver o [x] (fun b=>h.set id b)).map fun h'=>(undefA,h'):=stP_one ty24 hx
theorem ty26:tyA prog 26=some (true,4):=by kernel_rfl
theorem zc26:zc prog 26=some [.int .i64 0,.int .i64 0,.slice none 0 0,.slice none 0 0]:=by kernel_rfl
theorem pl26:plcS prog 26=some [(0,1),(1,1),(2,1),(3,1)]:=by kernel_rfl
theorem fa26_0:fieldAddrA prog 26 (.ptr (some ⟨id,ver,o⟩)) 0=some (.ptr (some ⟨id,ver,o+0⟩)):=fieldAddr_eq (q:=false) (z:=1) (by kernel_rfl) (by decide)
theorem fa26_1:fieldAddrA prog 26 (.ptr (some ⟨id,ver,o⟩)) 1=some (.ptr (some ⟨id,ver,o+1⟩)):=fieldAddr_eq (q:=false) (z:=1) (by kernel_rfl) (by decide)
theorem fa26_2:fieldAddrA prog 26 (.ptr (some ⟨id,ver,o⟩)) 2=some (.ptr (some ⟨id,ver,o+2⟩)):=fieldAddr_eq (q:=false) (z:=1) (by kernel_rfl) (by decide)
theorem fa26_3:fieldAddrA prog 26 (.ptr (some ⟨id,ver,o⟩)) 3=some (.ptr (some ⟨id,ver,o+3⟩)):=fieldAddr_eq (q:=false) (z:=1) (by kernel_rfl) (by decide)
theorem st26 {x0 x1 x2 x3:AVal}:stP prog base h 26 (.ptr (some ⟨id,ver,o⟩)) (.agg [x0,x1,x2,x3])=(stQ base id (h[id]?) ver o [x0,x1,x2,x3] (fun b=>h.set id b)).map fun h'=>(undefA,h'):=stP_ptr ty26 rfl
theorem ar27:arT prog 27=none:=by kernel_rfl
theorem el27:elS prog 27=some (38,3,[.int .i64 0,.int .i64 0,.int .i64 0]):=by kernel_rfl
theorem ln27 {r:ARef} {m k:Nat}:lenOpA prog h 27 (.slice (some r) m k)=some (.int .i64 (m:Int)):=len_sl el27
theorem ty32:tyA prog 32=some (false,1):=by kernel_rfl
theorem zc32:zc prog 32=some [.slice none 0 0]:=by kernel_rfl
theorem ar32:arT prog 32=none:=by kernel_rfl
theorem el32:elS prog 32=some (3,1,[.int .i64 0]):=by kernel_rfl
theorem ln32 {r:ARef} {m k:Nat}:lenOpA prog h 32 (.slice (some r) m k)=some (.int .i64 (m:Int)):=len_sl el32
theorem as32 {v f m k:Nat} {i:Int} (h0:0≤i) (h1:i<m):indexAddrA prog 32 (.slice (some ⟨id,v,f⟩) m k) (.int .i64 i)=some (.ptr (some ⟨id,v,f+i.toNat * 1⟩)):=adr_sl el32 ar32 h0 h1
theorem un32:prog.underlying 32=some (.slice 3):=by kernel_rfl
theorem st32 {x:AVal} (hx:One x):stP prog base h 32 (.ptr (some ⟨id,ver,o⟩)) x=(stQ base id (h[id]?) ver o [x] (fun b=>h.set id b)).map fun h'=>(undefA,h'):=stP_one ty32 hx
theorem ty33:tyA prog 33=some (false,1):=by kernel_rfl
theorem ar33:arT prog 33=none:=by kernel_rfl
theorem el33:elS prog 33=some (50,5,[.int .i64 0,.int .i64 0,.int .i64 0,.int .i64 0,.int .i64 0]):=by kernel_rfl
theorem as33 {v f m k:Nat} {i:Int} (h0:0≤i) (h1:i<m):indexAddrA prog 33 (.slice (some ⟨id,v,f⟩) m k) (.int .i64 i)=some (.ptr (some ⟨id,v,f+i.toNat * 5⟩)):=adr_sl el33 ar33 h0 h1
theorem st33 {x:AVal} (hx:One x):stP prog base h 33 (.ptr (some ⟨id,ver,o⟩)) x=(stQ base id (h[id]?) ver o [x] (fun b=>h.set id b)).map fun h'=>(undefA,h'):=stP_one ty33 hx
theorem ty35:tyA prog 35=some (true,3):=by kernel_rfl
theorem zc35:zc prog 35=some [.int .i64 0,.slice none 0 0,.slice none 0 0]:=by kernel_rfl
theorem pl35:plcS prog 35=some [(0,1),(1,1),(2,1)]:=by kernel_rfl
theorem fa35_0:fieldAddrA prog 35 (.ptr (some ⟨id,ver,o⟩)) 0=some (.ptr (some ⟨id,ver,o+0⟩)):=fieldAddr_eq (q:=false) (z:=1) (by kernel_rfl) (by decide)
theorem fa35_1:fieldAddrA prog 35 (.ptr (some ⟨id,ver,o⟩)) 1=some (.ptr (some ⟨id,ver,o+1⟩)):=fieldAddr_eq (q:=false) (z:=1) (by kernel_rfl) (by decide)
theorem fa35_2:fieldAddrA prog 35 (.ptr (some ⟨id,ver,o⟩)) 2=some (.ptr (some ⟨id,ver,o+2⟩)):=fieldAddr_eq (q:=false) (z:=1) (by kernel_rfl) (by decide)
theorem st35 {x0 x1 x2:AVal}:stP prog base h 35 (.ptr (some ⟨id,ver,o⟩)) (.agg [x0,x1,x2])=(stQ base id (h[id]?) ver o [x0,x1,x2] (fun b=>h.set id b)).map fun h'=>(undefA,h'):=stP_ptr ty35 rfl
theorem ar36:arT prog 36=none:=by kernel_rfl
theorem el36:elS prog 36=some (4,1,[.bool false]):=by kernel_rfl
theorem ln36 {r:ARef} {m k:Nat}:lenOpA prog h 36 (.slice (some r) m k)=some (.int .i64 (m:Int)):=len_sl el36
theorem as36 {v f m k:Nat} {i:Int} (h0:0≤i) (h1:i<m):indexAddrA prog 36 (.slice (some ⟨id,v,f⟩) m k) (.int .i64 i)=some (.ptr (some ⟨id,v,f+i.toNat * 1⟩)):=adr_sl el36 ar36 h0 h1
theorem ty38:tyA prog 38=some (true,3):=by kernel_rfl
theorem zc38:zc prog 38=some [.int .i64 0,.int .i64 0,.int .i64 0]:=by kernel_rfl
theorem pl38:plcS prog 38=some [(0,1),(1,1),(2,1)]:=by kernel_rfl
theorem fa38_0:fieldAddrA prog 38 (.ptr (some ⟨id,ver,o⟩)) 0=some (.ptr (some ⟨id,ver,o+0⟩)):=fieldAddr_eq (q:=false) (z:=1) (by kernel_rfl) (by decide)
theorem fa38_1:fieldAddrA prog 38 (.ptr (some ⟨id,ver,o⟩)) 1=some (.ptr (some ⟨id,ver,o+1⟩)):=fieldAddr_eq (q:=false) (z:=1) (by kernel_rfl) (by decide)
theorem fa38_2:fieldAddrA prog 38 (.ptr (some ⟨id,ver,o⟩)) 2=some (.ptr (some ⟨id,ver,o+2⟩)):=fieldAddr_eq (q:=false) (z:=1) (by kernel_rfl) (by decide)
theorem st38 {x0 x1 x2:AVal}:stP prog base h 38 (.ptr (some ⟨id,ver,o⟩)) (.agg [x0,x1,x2])=(stQ base id (h[id]?) ver o [x0,x1,x2] (fun b=>h.set id b)).map fun h'=>(undefA,h'):=stP_ptr ty38 rfl
theorem ar39:arT prog 39=none:=by kernel_rfl
theorem el39:elS prog 39=some (44,2,[.int .i64 0,.int .i64 0]):=by kernel_rfl
theorem ty44:tyA prog 44=some (true,2):=by kernel_rfl
theorem zc44:zc prog 44=some [.int .i64 0,.int .i64 0]:=by kernel_rfl
theorem pl44:plcS prog 44=some [(0,1),(1,1)]:=by kernel_rfl
theorem fa44_0:fieldAddrA prog 44 (.ptr (some ⟨id,ver,o⟩)) 0=some (.ptr (some ⟨id,ver,o+0⟩)):=fieldAddr_eq (q:=false) (z:=1) (by kernel_rfl) (by decide)
theorem fa44_1:fieldAddrA prog 44 (.ptr (some ⟨id,ver,o⟩)) 1=some (.ptr (some ⟨id,ver,o+1⟩)):=fieldAddr_eq (q:=false) (z:=1) (by kernel_rfl) (by decide)
theorem st44 {x0 x1:AVal}:stP prog base h 44 (.ptr (some ⟨id,ver,o⟩)) (.agg [x0,x1])=(stQ base id (h[id]?) ver o [x0,x1] (fun b=>h.set id b)).map fun h'=>(undefA,h'):=stP_ptr ty44 rfl
theorem ty50:tyA prog 50=some (true,5):=by kernel_rfl
theorem zc50:zc prog 50=some [.int .i64 0,.int .i64 0,.int .i64 0,.int .i64 0,.int .i64 0]:=by kernel_rfl
theorem pl50:plcS prog 50=some [(0,1),(1,1),(2,1),(3,1),(4,1)]:=by kernel_rfl
theorem fa50_0:fieldAddrA prog 50 (.ptr (some ⟨id,ver,o⟩)) 0=some (.ptr (some ⟨id,ver,o+0⟩)):=fieldAddr_eq (q:=false) (z:=1) (by kernel_rfl) (by decide)
theorem fa50_1:fieldAddrA prog 50 (.ptr (some ⟨id,ver,o⟩)) 1=some (.ptr (some ⟨id,ver,o+1⟩)):=fieldAddr_eq (q:=false) (z:=1) (by kernel_rfl) (by decide)
theorem fa50_2:fieldAddrA prog 50 (.ptr (some ⟨id,ver,o⟩)) 2=some (.ptr (some ⟨id,ver,o+2⟩)):=fieldAddr_eq (q:=false) (z:=1) (by kernel_rfl) (by decide)
theorem fa50_3:fieldAddrA prog 50 (.ptr (some ⟨id,ver,o⟩)) 3=some (.ptr (some ⟨id,ver,o+3⟩)):=fieldAddr_eq (q:=false) (z:=1) (by kernel_rfl) (by decide)
theorem fa50_4:fieldAddrA prog 50 (.ptr (some ⟨id,ver,o⟩)) 4=some (.ptr (some ⟨id,ver,o+4⟩)):=fieldAddr_eq (q:=false) (z:=1) (by kernel_rfl) (by decide)
theorem st50 {x0 x1 x2 x3 x4:AVal}:stP prog base h 50 (.ptr (some ⟨id,ver,o⟩)) (.agg [x0,x1,x2,x3,x4])=(stQ base id (h[id]?) ver o [x0,x1,x2,x3,x4] (fun b=>h.set id b)).map fun h'=>(undefA,h'):=stP_ptr ty50 rfl
theorem ty51:tyA prog 51=some (false,1):=by kernel_rfl
theorem zc51:zc prog 51=some [.slice none 0 0]:=by kernel_rfl
theorem ar51:arT prog 51=none:=by kernel_rfl
theorem el51:elS prog 51=some (57,3,[.int .i64 0,.int .i64 0,.bool false]):=by kernel_rfl
theorem as51 {v f m k:Nat} {i:Int} (h0:0≤i) (h1:i<m):indexAddrA prog 51 (.slice (some ⟨id,v,f⟩) m k) (.int .i64 i)=some (.ptr (some ⟨id,v,f+i.toNat * 3⟩)):=adr_sl el51 ar51 h0 h1
theorem st51 {x:AVal} (hx:One x):stP prog base h 51 (.ptr (some ⟨id,ver,o⟩)) x=(stQ base id (h[id]?) ver o [x] (fun b=>h.set id b)).map fun h'=>(undefA,h'):=stP_one ty51 hx
theorem ty57:tyA prog 57=some (true,3):=by kernel_rfl
theorem zc57:zc prog 57=some [.int .i64 0,.int .i64 0,.bool false]:=by kernel_rfl
theorem pl57:plcS prog 57=some [(0,1),(1,1),(2,1)]:=by kernel_rfl
theorem fa57_0:fieldAddrA prog 57 (.ptr (some ⟨id,ver,o⟩)) 0=some (.ptr (some ⟨id,ver,o+0⟩)):=fieldAddr_eq (q:=false) (z:=1) (by kernel_rfl) (by decide)
theorem fa57_1:fieldAddrA prog 57 (.ptr (some ⟨id,ver,o⟩)) 1=some (.ptr (some ⟨id,ver,o+1⟩)):=fieldAddr_eq (q:=false) (z:=1) (by kernel_rfl) (by decide)
theorem fa57_2:fieldAddrA prog 57 (.ptr (some ⟨id,ver,o⟩)) 2=some (.ptr (some ⟨id,ver,o+2⟩)):=fieldAddr_eq (q:=false) (z:=1) (by kernel_rfl) (by decide)
theorem st57 {x0 x1 x2:AVal}:stP prog base h 57 (.ptr (some ⟨id,ver,o⟩)) (.agg [x0,x1,x2])=(stQ base id (h[id]?) ver o [x0,x1,x2] (fun b=>h.set id b)).map fun h'=>(undefA,h'):=stP_ptr ty57 rfl
theorem ty61:tyA prog 61=some (false,1):=by kernel_rfl
theorem zc61:zc prog 61=some [.nilFn]:=by kernel_rfl
theorem st61 {x:AVal} (hx:One x):stP prog base h 61 (.ptr (some ⟨id,ver,o⟩)) x=(stQ base id (h[id]?) ver o [x] (fun b=>h.set id b)).map fun h'=>(undefA,h'):=stP_one ty61 hx
theorem ty81:tyA prog 81=some (true,4):=by kernel_rfl
theorem zc81:zc prog 81=some [.slice none 0 0,.int .i64 0,.int .i64 0,.bool false]:=by kernel_rfl
theorem pl81:plcS prog 81=some [(0,1),(1,1),(2,1),(3,1)]:=by kernel_rfl
theorem fa81_0:fieldAddrA prog 81 (.ptr (some ⟨id,ver,o⟩)) 0=some (.ptr (some ⟨id,ver,o+0⟩)):=fieldAddr_eq (q:=false) (z:=1) (by kernel_rfl) (by decide)
theorem fa81_1:fieldAddrA prog 81 (.ptr (some ⟨id,ver,o⟩)) 1=some (.ptr (some ⟨id,ver,o+1⟩)):=fieldAddr_eq (q:=false) (z:=1) (by kernel_rfl) (by decide)
theorem fa81_2:fieldAddrA prog 81 (.ptr (some ⟨id,ver,o⟩)) 2=some (.ptr (some ⟨id,ver,o+2⟩)):=fieldAddr_eq (q:=false) (z:=1) (by kernel_rfl) (by decide)
theorem st81 {x0 x1 x2 x3:AVal}:stP prog base h 81 (.ptr (some ⟨id,ver,o⟩)) (.agg [x0,x1,x2,x3])=(stQ base id (h[id]?) ver o [x0,x1,x2,x3] (fun b=>h.set id b)).map fun h'=>(undefA,h'):=stP_ptr ty81 rfl
theorem ty84:tyA prog 84=some (true,2):=by kernel_rfl
theorem zc84:zc prog 84=some [.int .i64 0,.int .i64 0]:=by kernel_rfl
theorem pl84:plcS prog 84=some [(0,1),(1,1)]:=by kernel_rfl
theorem fa84_0:fieldAddrA prog 84 (.ptr (some ⟨id,ver,o⟩)) 0=some (.ptr (some ⟨id,ver,o+0⟩)):=fieldAddr_eq (q:=false) (z:=1) (by kernel_rfl) (by decide)
theorem fa84_1:fieldAddrA prog 84 (.ptr (some ⟨id,ver,o⟩)) 1=some (.ptr (some ⟨id,ver,o+1⟩)):=fieldAddr_eq (q:=false) (z:=1) (by kernel_rfl) (by decide)
theorem ty86:tyA prog 86=some (true,4):=by kernel_rfl
theorem zc86:zc prog 86=some [.int .i64 0,.int .i64 0,.int .i64 0,.bool false]:=by kernel_rfl
theorem pl86:plcS prog 86=some [(0,1),(1,2),(3,1)]:=by kernel_rfl
theorem fa86_0:fieldAddrA prog 86 (.ptr (some ⟨id,ver,o⟩)) 0=some (.ptr (some ⟨id,ver,o+0⟩)):=fieldAddr_eq (q:=false) (z:=1) (by kernel_rfl) (by decide)
theorem fa86_1:fieldAddrA prog 86 (.ptr (some ⟨id,ver,o⟩)) 1=some (.ptr (some ⟨id,ver,o+1⟩)):=fieldAddr_eq (q:=true) (z:=2) (by kernel_rfl) (by decide)
theorem fa86_2:fieldAddrA prog 86 (.ptr (some ⟨id,ver,o⟩)) 2=some (.ptr (some ⟨id,ver,o+3⟩)):=fieldAddr_eq (q:=false) (z:=1) (by kernel_rfl) (by decide)
theorem st86 {x0 x1 x2 x3:AVal}:stP prog base h 86 (.ptr (some ⟨id,ver,o⟩)) (.agg [x0,x1,x2,x3])=(stQ base id (h[id]?) ver o [x0,x1,x2,x3] (fun b=>h.set id b)).map fun h'=>(undefA,h'):=stP_ptr ty86 rfl
theorem ty89:tyA prog 89=some (false,1):=by kernel_rfl
theorem ik89:ikT prog 89=some .u64:=by kernel_rfl
theorem st89 {x:AVal} (hx:One x):stP prog base h 89 (.ptr (some ⟨id,ver,o⟩)) x=(stQ base id (h[id]?) ver o [x] (fun b=>h.set id b)).map fun h'=>(undefA,h'):=stP_one ty89 hx
theorem zc91:zc prog 91=some [.slice none 0 0,.int .i64 0,.int .u64 0]:=by kernel_rfl
theorem pl91:plcS prog 91=some [(0,1),(1,1),(2,1)]:=by kernel_rfl
theorem fa91_0:fieldAddrA prog 91 (.ptr (some ⟨id,ver,o⟩)) 0=some (.ptr (some ⟨id,ver,o+0⟩)):=fieldAddr_eq (q:=false) (z:=1) (by kernel_rfl) (by decide)
theorem fa91_1:fieldAddrA prog 91 (.ptr (some ⟨id,ver,o⟩)) 1=some (.ptr (some ⟨id,ver,o+1⟩)):=fieldAddr_eq (q:=false) (z:=1) (by kernel_rfl) (by decide)
theorem fa91_2:fieldAddrA prog 91 (.ptr (some ⟨id,ver,o⟩)) 2=some (.ptr (some ⟨id,ver,o+2⟩)):=fieldAddr_eq (q:=false) (z:=1) (by kernel_rfl) (by decide)
theorem ty96:tyA prog 96=some (false,1):=by kernel_rfl
theorem ty101:tyA prog 101=some (true,2):=by kernel_rfl
theorem zc101:zc prog 101=some [.int .i64 0,.int .i64 0]:=by kernel_rfl
theorem pl101:plcS prog 101=some [(0,1),(1,1)]:=by kernel_rfl
theorem fa101_0:fieldAddrA prog 101 (.ptr (some ⟨id,ver,o⟩)) 0=some (.ptr (some ⟨id,ver,o+0⟩)):=fieldAddr_eq (q:=false) (z:=1) (by kernel_rfl) (by decide)
theorem fa101_1:fieldAddrA prog 101 (.ptr (some ⟨id,ver,o⟩)) 1=some (.ptr (some ⟨id,ver,o+1⟩)):=fieldAddr_eq (q:=false) (z:=1) (by kernel_rfl) (by decide)
theorem st101 {x0 x1:AVal}:stP prog base h 101 (.ptr (some ⟨id,ver,o⟩)) (.agg [x0,x1])=(stQ base id (h[id]?) ver o [x0,x1] (fun b=>h.set id b)).map fun h'=>(undefA,h'):=stP_ptr ty101 rfl
theorem ty102:tyA prog 102=some (false,1):=by kernel_rfl
theorem zc104:zc prog 104=some [.nilFn]:=by kernel_rfl
theorem pl104:plcS prog 104=some [(0,1)]:=by kernel_rfl
theorem fa104_0:fieldAddrA prog 104 (.ptr (some ⟨id,ver,o⟩)) 0=some (.ptr (some ⟨id,ver,o+0⟩)):=fieldAddr_eq (q:=false) (z:=1) (by kernel_rfl) (by decide)
theorem ty106:tyA prog 106=some (true,61):=by kernel_rfl
theorem zc106:zc prog 106=some (ints (lst (fun _=>0) 61)):=by kernel_rfl
theorem ar106:arT prog 106=some (61,false,1):=by kernel_rfl
theorem ad106 {i:Int} (h0:0≤i) (h1:i<61):indexAddrA prog 106 (.ptr (some ⟨id,ver,o⟩)) (.int .i64 i)=some (.ptr (some ⟨id,ver,o+i.toNat * 1⟩)):=adr_arr ar106 h0 h1
theorem ar112:arT prog 112=none:=by kernel_rfl
theorem el112:elS prog 112=some (84,2,[.int .i64 0,.int .i64 0]):=by kernel_rfl
theorem as112 {v f m k:Nat} {i:Int} (h0:0≤i) (h1:i<m):indexAddrA prog 112 (.slice (some ⟨id,v,f⟩) m k) (.int .i64 i)=some (.ptr (some ⟨id,v,f+i.toNat * 2⟩)):=adr_sl el112 ar112 h0 h1
theorem ty153:tyA prog 153=some (false,1):=by kernel_rfl
theorem ty160:tyA prog 160=some (false,1):=by kernel_rfl
theorem ty162:tyA prog 162=some (false,1):=by kernel_rfl
theorem ik163:ikT prog 163=some .u64:=by kernel_rfl
theorem zc165:zc prog 165=some (ints (lst (fun _=>0) 122)):=by kernel_rfl
theorem ar165:arT prog 165=some (61,true,2):=by kernel_rfl
theorem ad165 {i:Int} (h0:0≤i) (h1:i<61):indexAddrA prog 165 (.ptr (some ⟨id,ver,o⟩)) (.int .i64 i)=some (.ptr (some ⟨id,ver,o+i.toNat * 2⟩)):=adr_arr ar165 h0 h1
theorem ar167:arT prog 167=some (60,false,1):=by kernel_rfl
theorem ad167 {i:Int} (h0:0≤i) (h1:i<60):indexAddrA prog 167 (.ptr (some ⟨id,ver,o⟩)) (.int .i64 i)=some (.ptr (some ⟨id,ver,o+i.toNat * 1⟩)):=adr_arr ar167 h0 h1
theorem zc169:zc prog 169=some [.int .i64 0,.slice none 0 0,.slice none 0 0,.bool false,.bool false,.bool false,.bool false,.bool false,.bool false,.bool false,.bool false,.bool false,.bool false,.bool false,.bool false,.bool false,.bool false,.bool false,.bool false,.bool false,.bool false,.bool false,.bool false,.bool false,.bool false,.bool false,.bool false,.bool false,.bool false,.bool false,.bool false,.bool false,.bool false,.bool false,.bool false,.bool false,.bool false,.bool false,.bool false,.bool false,.bool false,.bool false,.bool false,.bool false,.bool false,.bool false,.bool false,.bool false,.bool false,.bool false,.bool false,.bool false,.bool false,.bool false,.bool false,.bool false,.bool false,.bool false,.bool false,.bool false,.bool false,.bool false,.bool false]:=by kernel_rfl
theorem pl169:plcS prog 169=some [(0,3),(3,60)]:=by kernel_rfl
theorem fa169_0:fieldAddrA prog 169 (.ptr (some ⟨id,ver,o⟩)) 0=some (.ptr (some ⟨id,ver,o+0⟩)):=fieldAddr_eq (q:=true) (z:=3) (by kernel_rfl) (by decide)
theorem fa169_1:fieldAddrA prog 169 (.ptr (some ⟨id,ver,o⟩)) 1=some (.ptr (some ⟨id,ver,o+3⟩)):=fieldAddr_eq (q:=true) (z:=60) (by kernel_rfl) (by decide)
theorem ty174:tyA prog 174=some (true,2):=by kernel_rfl
theorem zc174:zc prog 174=some [.int .i64 0,.int .i64 0]:=by kernel_rfl
theorem pl174:plcS prog 174=some [(0,1),(1,1)]:=by kernel_rfl
theorem fa174_0:fieldAddrA prog 174 (.ptr (some ⟨id,ver,o⟩)) 0=some (.ptr (some ⟨id,ver,o+0⟩)):=fieldAddr_eq (q:=false) (z:=1) (by kernel_rfl) (by decide)
theorem fa174_1:fieldAddrA prog 174 (.ptr (some ⟨id,ver,o⟩)) 1=some (.ptr (some ⟨id,ver,o+1⟩)):=fieldAddr_eq (q:=false) (z:=1) (by kernel_rfl) (by decide)
theorem st174 {x0 x1:AVal}:stP prog base h 174 (.ptr (some ⟨id,ver,o⟩)) (.agg [x0,x1])=(stQ base id (h[id]?) ver o [x0,x1] (fun b=>h.set id b)).map fun h'=>(undefA,h'):=stP_ptr ty174 rfl
theorem ty175:tyA prog 175=some (false,1):=by kernel_rfl
theorem zc175:zc prog 175=some [.nilFn]:=by kernel_rfl
theorem st175 {x:AVal} (hx:One x):stP prog base h 175 (.ptr (some ⟨id,ver,o⟩)) x=(stQ base id (h[id]?) ver o [x] (fun b=>h.set id b)).map fun h'=>(undefA,h'):=stP_one ty175 hx
theorem mp182:mpT prog 182=some (3,4):=by kernel_rfl
theorem bd26_01 {y0 y1:AVal} (h0:One y0) (h1:One y1):buildA prog 26 [(0,y0),(1,y1)]=some (.agg [y0,y1,.slice none 0 0,.slice none 0 0]):=by
 simp [buildA,zc26,pl26,fillA,splice,isN_agg,cells_agg,h0.1,h0.2.1,h1.1,h1.2.1]
theorem bd35_0 {y0:AVal} (h0:One y0):buildA prog 35 [(0,y0)]=some (.agg [y0,.slice none 0 0,.slice none 0 0]):=by
 simp [buildA,zc35,pl35,fillA,splice,isN_agg,cells_agg,h0.1,h0.2.1]
theorem bd35_012 {y0 y1 y2:AVal} (h0:One y0) (h1:One y1) (h2:One y2):buildA prog 35 [(0,y0),(1,y1),(2,y2)]=some (.agg [y0,y1,y2]):=by
 simp [buildA,zc35,pl35,fillA,splice,isN_agg,cells_agg,h0.1,h0.2.1,h1.1,h1.2.1,h2.1,h2.2.1]
theorem bd38_012 {y0 y1 y2:AVal} (h0:One y0) (h1:One y1) (h2:One y2):buildA prog 38 [(0,y0),(1,y1),(2,y2)]=some (.agg [y0,y1,y2]):=by
 simp [buildA,zc38,pl38,fillA,splice,isN_agg,cells_agg,h0.1,h0.2.1,h1.1,h1.2.1,h2.1,h2.2.1]
theorem bd44_01 {y0 y1:AVal} (h0:One y0) (h1:One y1):buildA prog 44 [(0,y0),(1,y1)]=some (.agg [y0,y1]):=by
 simp [buildA,zc44,pl44,fillA,splice,isN_agg,cells_agg,h0.1,h0.2.1,h1.1,h1.2.1]
theorem bd50_01 {y0 y1:AVal} (h0:One y0) (h1:One y1):buildA prog 50 [(0,y0),(1,y1)]=some (.agg [y0,y1,.int .i64 0,.int .i64 0,.int .i64 0]):=by
 simp [buildA,zc50,pl50,fillA,splice,isN_agg,cells_agg,h0.1,h0.2.1,h1.1,h1.2.1]
theorem bd50_01234 {y0 y1 y2 y3 y4:AVal} (h0:One y0) (h1:One y1) (h2:One y2) (h3:One y3) (h4:One y4):buildA prog 50 [(0,y0),(1,y1),(2,y2),(3,y3),(4,y4)]=some (.agg [y0,y1,y2,y3,y4]):=by
 simp [buildA,zc50,pl50,fillA,splice,isN_agg,cells_agg,h0.1,h0.2.1,h1.1,h1.2.1,h2.1,h2.2.1,h3.1,h3.2.1,h4.1,h4.2.1]
theorem bd50_0124 {y0 y1 y2 y4:AVal} (h0:One y0) (h1:One y1) (h2:One y2) (h4:One y4):buildA prog 50 [(0,y0),(1,y1),(2,y2),(4,y4)]=some (.agg [y0,y1,y2,.int .i64 0,y4]):=by
 simp [buildA,zc50,pl50,fillA,splice,isN_agg,cells_agg,h0.1,h0.2.1,h1.1,h1.2.1,h2.1,h2.2.1,h4.1,h4.2.1]
theorem bd57_0 {y0:AVal} (h0:One y0):buildA prog 57 [(0,y0)]=some (.agg [y0,.int .i64 0,.bool false]):=by
 simp [buildA,zc57,pl57,fillA,splice,isN_agg,cells_agg,h0.1,h0.2.1]
theorem bd57_012 {y0 y1 y2:AVal} (h0:One y0) (h1:One y1) (h2:One y2):buildA prog 57 [(0,y0),(1,y1),(2,y2)]=some (.agg [y0,y1,y2]):=by
 simp [buildA,zc57,pl57,fillA,splice,isN_agg,cells_agg,h0.1,h0.2.1,h1.1,h1.2.1,h2.1,h2.2.1]
theorem bd57_1 {y1:AVal} (h1:One y1):buildA prog 57 [(1,y1)]=some (.agg [.int .i64 0,y1,.bool false]):=by
 simp [buildA,zc57,pl57,fillA,splice,isN_agg,cells_agg,h1.1,h1.2.1]
theorem bd57_2 {y2:AVal} (h2:One y2):buildA prog 57 [(2,y2)]=some (.agg [.int .i64 0,.int .i64 0,y2]):=by
 simp [buildA,zc57,pl57,fillA,splice,isN_agg,cells_agg,h2.1,h2.2.1]
theorem bd81_13 {y1 y3:AVal} (h1:One y1) (h3:One y3):buildA prog 81 [(1,y1),(3,y3)]=some (.agg [.slice none 0 0,y1,.int .i64 0,y3]):=by
 simp [buildA,zc81,pl81,fillA,splice,isN_agg,cells_agg,h1.1,h1.2.1,h3.1,h3.2.1]
theorem bd84_01 {y0 y1:AVal} (h0:One y0) (h1:One y1):buildA prog 84 [(0,y0),(1,y1)]=some (.agg [y0,y1]):=by
 simp [buildA,zc84,pl84,fillA,splice,isN_agg,cells_agg,h0.1,h0.2.1,h1.1,h1.2.1]
theorem bd86_012 {y0 y1_0 y1_1 y2:AVal} (h0:One y0) (h2:One y2):buildA prog 86 [(0,y0),(1,.agg [y1_0,y1_1]),(2,y2)]=some (.agg [y0,y1_0,y1_1,y2]):=by
 simp [buildA,zc86,pl86,fillA,splice,isN_agg,cells_agg,h0.1,h0.2.1,h2.1,h2.2.1]
theorem bd91_02 {y0 y2:AVal} (h0:One y0) (h2:One y2):buildA prog 91 [(0,y0),(2,y2)]=some (.agg [y0,.int .i64 0,y2]):=by
 simp [buildA,zc91,pl91,fillA,splice,isN_agg,cells_agg,h0.1,h0.2.1,h2.1,h2.2.1]
theorem bd101_01 {y0 y1:AVal} (h0:One y0) (h1:One y1):buildA prog 101 [(0,y0),(1,y1)]=some (.agg [y0,y1]):=by
 simp [buildA,zc101,pl101,fillA,splice,isN_agg,cells_agg,h0.1,h0.2.1,h1.1,h1.2.1]
theorem bd104_0 {y0:AVal} (h0:One y0):buildA prog 104 [(0,y0)]=some (.agg [y0]):=by
 simp [buildA,zc104,pl104,fillA,splice,isN_agg,cells_agg,h0.1,h0.2.1]
theorem bd169_0 {y0_0 y0_1 y0_2:AVal} :buildA prog 169 [(0,.agg [y0_0,y0_1,y0_2])]=some (.agg [y0_0,y0_1,y0_2,.bool false,.bool false,.bool false,.bool false,.bool false,.bool false,.bool false,.bool false,.bool false,.bool false,.bool false,.bool false,.bool false,.bool false,.bool false,.bool false,.bool false,.bool false,.bool false,.bool false,.bool false,.bool false,.bool false,.bool false,.bool false,.bool false,.bool false,.bool false,.bool false,.bool false,.bool false,.bool false,.bool false,.bool false,.bool false,.bool false,.bool false,.bool false,.bool false,.bool false,.bool false,.bool false,.bool false,.bool false,.bool false,.bool false,.bool false,.bool false,.bool false,.bool false,.bool false,.bool false,.bool false,.bool false,.bool false,.bool false,.bool false,.bool false,.bool false,.bool false]):=by
 simp [buildA,zc169,pl169,fillA,splice,isN_agg,cells_agg]
theorem bd174_ :buildA prog 174 []=some (.agg [.int .i64 0,.int .i64 0]):=by
 simp [buildA,zc174,pl174,fillA,splice,isN_agg,cells_agg]
theorem bd174_01 {y0 y1:AVal} (h0:One y0) (h1:One y1):buildA prog 174 [(0,y0),(1,y1)]=some (.agg [y0,y1]):=by
 simp [buildA,zc174,pl174,fillA,splice,isN_agg,cells_agg,h0.1,h0.2.1,h1.1,h1.2.1]
theorem eq50 {a0:Int} {a1:Int} {a2:Int} {a3:Int} {a4:Int} {b0:Int} {b1:Int} {b2:Int} {b3:Int} {b4:Int}:binA prog .eql 50 (.agg [.int .i64 a0,.int .i64 a1,.int .i64 a2,.int .i64 a3,.int .i64 a4]) (.agg [.int .i64 b0,.int .i64 b1,.int .i64 b2,.int .i64 b3,.int .i64 b4])=some (.bool (decide (a0=b0∧a1=b1∧a2=b2∧a3=b3∧a4=b4))):=by
 have h1:prog.eqGuardType prog.depth 50=false:=by kernel_rfl
 have s50:prog.stoodInHeld 50=false:=by kernel_rfl
 simp [binA,eqDepth,eqT,partA,partQ,h1,s50,underlying3,ty3,underlying50,ty50]
 by_cases e0:a0=b0<;>by_cases e1:a1=b1<;>by_cases e2:a2=b2<;>by_cases e3:a3=b3<;>by_cases e4:a4=b4<;>simp [e0,e1,e2,e3,e4]
theorem ne50 {a0:Int} {a1:Int} {a2:Int} {a3:Int} {a4:Int} {b0:Int} {b1:Int} {b2:Int} {b3:Int} {b4:Int}:binA prog .neq 50 (.agg [.int .i64 a0,.int .i64 a1,.int .i64 a2,.int .i64 a3,.int .i64 a4]) (.agg [.int .i64 b0,.int .i64 b1,.int .i64 b2,.int .i64 b3,.int .i64 b4])=some (.bool (decide (¬ (a0=b0∧a1=b1∧a2=b2∧a3=b3∧a4=b4)))):=by
 have h:=eq50 (a0:=a0) (a1:=a1) (a2:=a2) (a3:=a3) (a4:=a4) (b0:=b0) (b1:=b1) (b2:=b2) (b3:=b3) (b4:=b4)
 simp only [binA,isShift] at h ⊢
 split at h
 ·cases h
 ·rename_i hg
  rw [if_neg hg]
  cases hq:eqT prog eqDepth 50 (.agg [.int .i64 a0,.int .i64 a1,.int .i64 a2,.int .i64 a3,.int .i64 a4]) (.agg [.int .i64 b0,.int .i64 b1,.int .i64 b2,.int .i64 b3,.int .i64 b4]) with
  | none=>rw [hq] at h;cases h
  | some r=>rw [hq] at h;simp only [Option.map_some,Option.some.injEq,AVal.bool.injEq] at h ⊢;rw [h];simp
theorem eq57 {a0:Int} {a1:Int} {a2:Bool} {b0:Int} {b1:Int} {b2:Bool}:binA prog .eql 57 (.agg [.int .i64 a0,.int .i64 a1,.bool a2]) (.agg [.int .i64 b0,.int .i64 b1,.bool b2])=some (.bool (decide (a0=b0∧a1=b1∧a2=b2))):=by
 have h1:prog.eqGuardType prog.depth 57=false:=by kernel_rfl
 have s57:prog.stoodInHeld 57=false:=by kernel_rfl
 simp [binA,eqDepth,eqT,partA,partQ,h1,s57,underlying3,ty3,underlying4,ty4,underlying57,ty57]
 by_cases e0:a0=b0<;>by_cases e1:a1=b1<;>by_cases e2:a2=b2<;>simp [e0,e1,e2]
theorem ne57 {a0:Int} {a1:Int} {a2:Bool} {b0:Int} {b1:Int} {b2:Bool}:binA prog .neq 57 (.agg [.int .i64 a0,.int .i64 a1,.bool a2]) (.agg [.int .i64 b0,.int .i64 b1,.bool b2])=some (.bool (decide (¬ (a0=b0∧a1=b1∧a2=b2)))):=by
 have h:=eq57 (a0:=a0) (a1:=a1) (a2:=a2) (b0:=b0) (b1:=b1) (b2:=b2)
 simp only [binA,isShift] at h ⊢
 split at h
 ·cases h
 ·rename_i hg
  rw [if_neg hg]
  cases hq:eqT prog eqDepth 57 (.agg [.int .i64 a0,.int .i64 a1,.bool a2]) (.agg [.int .i64 b0,.int .i64 b1,.bool b2]) with
  | none=>rw [hq] at h;cases h
  | some r=>rw [hq] at h;simp only [Option.map_some,Option.some.injEq,AVal.bool.injEq] at h ⊢;rw [h];simp
theorem eq84 {a0:Int} {a1:Int} {b0:Int} {b1:Int}:binA prog .eql 84 (.agg [.int .i64 a0,.int .i64 a1]) (.agg [.int .i64 b0,.int .i64 b1])=some (.bool (decide (a0=b0∧a1=b1))):=by
 have h1:prog.eqGuardType prog.depth 84=false:=by kernel_rfl
 have s84:prog.stoodInHeld 84=false:=by kernel_rfl
 simp [binA,eqDepth,eqT,partA,partQ,h1,s84,underlying3,ty3,underlying84,ty84]
 by_cases e0:a0=b0<;>by_cases e1:a1=b1<;>simp [e0,e1]
theorem ne84 {a0:Int} {a1:Int} {b0:Int} {b1:Int}:binA prog .neq 84 (.agg [.int .i64 a0,.int .i64 a1]) (.agg [.int .i64 b0,.int .i64 b1])=some (.bool (decide (¬ (a0=b0∧a1=b1)))):=by
 have h:=eq84 (a0:=a0) (a1:=a1) (b0:=b0) (b1:=b1)
 simp only [binA,isShift] at h ⊢
 split at h
 ·cases h
 ·rename_i hg
  rw [if_neg hg]
  cases hq:eqT prog eqDepth 84 (.agg [.int .i64 a0,.int .i64 a1]) (.agg [.int .i64 b0,.int .i64 b1]) with
  | none=>rw [hq] at h;cases h
  | some r=>rw [hq] at h;simp only [Option.map_some,Option.some.injEq,AVal.bool.injEq] at h ⊢;rw [h];simp
end
attribute [go_sem] ty3 zc3 st3 ty4 st4 ty5 st5 ar9 ty22 ar22 el22 ty23 ar23 el23 st23 ty24 ar24 el24 st24 ty26 zc26 fa26_0 fa26_1 fa26_2 fa26_3 st26 ar27 el27 ln27 ty32 zc32 ar32 el32 ln32 as32 st32 ty33 ar33 el33 as33 st33 ty35 zc35 fa35_0 fa35_1 fa35_2 st35 ar36 el36 ln36 as36 ty38 zc38 fa38_0 fa38_1 fa38_2 st38 ar39 el39 ty44 zc44 fa44_0 fa44_1 st44 ty50 zc50 fa50_0 fa50_1 fa50_2 fa50_3 fa50_4 st50 ty51 zc51 ar51 el51 as51 st51 ty57 zc57 fa57_0 fa57_1 fa57_2 st57 ty61 zc61 st61 ty81 zc81 fa81_0 fa81_1 fa81_2 st81 ty84 zc84 fa84_0 fa84_1 ty86 zc86 fa86_0 fa86_1 fa86_2 st86 ty89 st89 zc91 fa91_0 fa91_1 fa91_2 ty96 ty101 zc101 fa101_0 fa101_1 st101 ty102 zc104 fa104_0 ty106 zc106 ar106 ad106 ar112 el112 as112 ty153 ty160 ty162 zc165 ar165 ad165 ar167 ad167 zc169 fa169_0 fa169_1 ty174 zc174 fa174_0 fa174_1 st174 ty175 zc175 st175 mp182 bd26_01 bd35_0 bd35_012 bd38_012 bd44_01 bd50_01 bd50_01234 bd50_0124 bd57_0 bd57_012 bd57_1 bd57_2 bd81_13 bd84_01 bd86_012 bd91_02 bd101_01 bd104_0 bd169_0 bd174_ bd174_01 eq50 ne50 eq57 ne57 eq84 ne84
attribute [go_sem] results3 results4 results5 results6 results7 results8 results9 results10 results11 results12 results13 results14 results15 results16 results17 results18 results19 results20 results21 results22 results23 results24 results25 results26 results27 results28 results29 results30 results31 results32 results33 results34 results35 results36 results37 results38 results39 results40 results41 results42 results43 results44 results45 results46 results47 results48 results49 results50 results51 results52 results53 results54 results55 results56 results57 results58 results59 results60 results61 results62 results63 results64 results65 results66 results67 results68 results69 results70 results71 results72 results73 results74 results75 results76 results77 results78 results79 results80 results81 results82 results83 results84 results85 results86 results87 results88 results89 results90 results91 results92 results93 results94 results95 results96 results97 results98 results99 results100 results101 results102 results103 results104 results105 results106 results107 results108 results109 results110 results111 results112 results113 results114 results115 results116 results117 results118 results119 results120 results121 results122 results123 results124 results125 results126 results127 results128 results129 results130 results131 results132 results133 results134 results135 results136 results137 results138 results139 results140 results141 results142 results143 results144 results145 results146 results147 results148 results149 results150 results151 results152 results153 results154 results155 results156 results157 results158 results159 results160 results161 results162 results163 results164 results165 results166 results167 results168 results169 results170 results171 results172 results173 results174 results175 results176 results177 results178
end Go.AM.Fc
namespace Go.AM
section
variable {P:Program} {raw:FuncId→Bool} {base:Nat}
def YieldsX (P:Program) (raw:FuncId→Bool) (base L:Nat) (g:AVal) (N:Nat) (X:Nat→List AVal→Heap→Prop) (pr:ABlk→Prop) (I:Nat→Heap→Prop):Prop :=
 ∀ (J:Nat→Heap→Prop) (S:Heap→Prop) (H0:Heap),L+1=H0.length→(∀ j H,J j H→I j H∧L+1≤H.length)→(∀ j H T,J j H→J j (H++T)) →
  (∀ j a H,j<N→X j a H→J j H→∃ b H',callL P raw base (.yld L) a H=some (.bool b,H')∧(∀ i x,L+1≤i→pr x→H[i]?=some x→H'[i]?=some x)∧H.length≤H'.length∧(b=true→J (j+1) H')∧(b=false→S H')) →
  J 0 H0→∃ v H',callL P raw base g [.yld L] H0=some (v,H')∧(J N H' ∨ S H')
theorem WP_rangeX {g:Operand} {ps:List Tmp} {assign body:Code} {fr:AFrame} {h:Heap} {Q:AExit→St→Prop} {f:FuncId} {a c:List AVal} (hg:ev fr g=.fn f a c) {N:Nat} {X:Nat→List AVal→Heap→Prop} {pr:ABlk→Prop} (I:Nat→Heap→Prop) (E:AExit→Heap→Prop)
  (hit:YieldsX P raw base h.length (.fn f a c) N X pr I) (hxs:∀ j a H,X j a H→a.length=ps.length) (happ:∀ j H T,I j H→I j (H++T)) (hset:∀ j H b,I j H→I j (H.set h.length b)) (hsetE:∀ e H b,E e H→E e (H.set h.length b))
  (h0:I 0 (h++[loopB fr ps assign body .ready none]))
  (hbody:∀ j a H B1 B2,j<N→X j a H→I j H→h.length+1≤H.length→H[h.length]?=some B1→WP P raw base assign ⟨putAll fr ps a,H⟩ (fun e s1=>e=.normal∧s1.h[h.length]?=some B1 ∧
   WP P raw base body ⟨s1.fr,s1.h.set h.length B2⟩ (fun e s2=>s2.h[h.length]?=some B2∧(∀ i x,h.length+1≤i→pr x→H[i]?=some x→s2.h[i]?=some x)∧H.length≤s2.h.length ∧
    ((e=.normal∧I (j+1) s2.h) ∨ (e ≠ .normal∧E e s2.h)))))
  (hQ:∀ H,I N H→Q .normal ⟨fr,H⟩) (hQE:∀ e H,e ≠ .normal→E e H→Q e ⟨fr,H⟩):WP P raw base (.rangeFunc g ps.toArray assign body) ⟨fr,h⟩ Q:=by
 obtain ⟨v,H',hc,hend⟩:=hit (fun j H=>I j H∧h.length+1≤H.length∧H[h.length]?=some (loopB fr ps assign body .ready none))
  (fun H=>∃ e,e ≠ .normal∧E e H∧H[h.length]?=some (loopB fr ps assign body .done (jumpOf e))) (h++[loopB fr ps assign body .ready none]) (by simp) (fun j H hJ=>⟨hJ.1,hJ.2.1⟩)
  (fun j H T hJ=>⟨happ j H T hJ.1,by simp;omega,get_app hJ.2.2⟩)
  (fun j a H hj hX hJ=>by
   obtain ⟨e,H2,hK,hcall⟩:=callL_yldW (K:=fun e H2=>H2[h.length]?=some (loopB fr ps assign body .busy none)∧(∀ i x,h.length+1≤i→pr x→H[i]?=some x→H2[i]?=some x)∧H.length≤H2.length∧((e=.normal∧I (j+1) H2) ∨ (e ≠ .normal∧E e H2)))
    hJ.2.2 (hxs j a H hX) (by
     obtain ⟨e1,s1,h1,rfl,h2,e2,s2,h3,h4⟩:=hbody j a H _ (loopB fr ps assign body .busy none) hj hX hJ.1 hJ.2.1 hJ.2.2
     exact ⟨.normal,s1,h1,rfl,h2,e2,s2,h3,h4.1,h4⟩)
   refine ⟨_,_,hcall,fun i x hi hp hx=>?_,by rw [List.length_set];exact hK.2.2.1,fun hb=>?_,fun hb=>?_⟩
   ·have:=hK.2.1 i x hi hp hx
    rw [get_set this,if_neg (by omega)]
   ·have he:e=.normal:=isNone_jump.1 hb
    subst he
    have hI2:I (j+1) H2:=by
     rcases hK.2.2.2 with h5|h5
     ·exact h5.2
     ·exact absurd rfl h5.1
    have hlt:=lt_of_get hK.1
    refine ⟨hset _ _ _ hI2,by simp;omega,?_⟩
    rw [get_set hK.1,if_pos rfl]
    rfl
   ·have he:e ≠ .normal:=fun h5=>by rw [isNone_jump.2 h5] at hb;cases hb
    have hE2:E e H2:=by
     rcases hK.2.2.2 with h5|h5
     ·exact absurd h5.1 he
     ·exact h5.2
    refine ⟨e,he,hsetE _ _ _ hE2,?_⟩
    rw [get_set hK.1,if_pos rfl,hb]
    rfl)
  ⟨h0,by simp,by simp⟩
 rcases hend with ⟨h1,_,h2⟩|⟨e,he,h1,h2⟩
 ·exact WP_rangeFunc hg hc h2 (by intro hh;cases hh) (hQ _ (hset _ _ _ h1))
 ·refine WP_rangeFunc hg hc h2 (by intro hh;cases hh) ?_
  have:=hQE e _ he (hsetE e _ (loopB fr ps assign body .exhausted (jumpOf e)) h1)
  cases e with
  | normal=>exact absurd rfl he
  | exit id=>exact this
  | ret=>exact this
end
end Go.AM
namespace Go.AM
section
variable {P:Program} {raw:FuncId→Bool} {base:Nat} {ops:Array Oper} {chk:Bool} {d:Option Tmp} {ty:TypeId} {pos:String} {af:Array Edge} {fr:AFrame} {h:Heap} {K:St→Prop}
end
end Go.AM
namespace Go.AM
def raw:FuncId→Bool:=fun f=>[5,30,8,35,17,18,7,53,54,11,63,61,65,44,70,58,59,45,89,156,73,74,21,121,19,124,37,38,126,115,116,131,85,109,117,107,140,118,134,152,108,110,148].contains f
end Go.AM
namespace Go.AM
open Go.Proofs.Tryz
section
variable {h A:Heap} {v:AVal} {l:List Int} {base n:Nat} {lit:Bool} {x:Int}
theorem lenI (hI:Ints h v l):lenOpA prog h 32 v=some (.int .i64 (l.length:Int)):=hI.len Fc.el32
theorem adrI {i:Int} (h0:0≤i) (hI:Ints h v l) (h1:i<l.length):indexAddrA prog 32 v (.int .i64 i)=some (elAddr v i.toNat):=hI.addr Fc.el32 Fc.ar32 h0 h1
theorem loadI {i:Nat} (hI:Ints h v l) (h1:i<l.length):loadP prog h 3 (elAddr v i)=some (.int .i64 (l.getD i 0)) :=
 hI.load Fc.ty3 (by rw [List.getD_eq_getElem?_getD,List.getElem?_eq_getElem h1];rfl)
theorem bslI (hl:lit=true):bsA prog lit h 32 1 [(0,.int .i64 x)]=some (.vals [.int .i64 x],h):=bs_lit hl Fc.el32
theorem bsrI (hl:lit=false):bsA prog lit h 32 1 [(0,.int .i64 x)]=some (.slice (some ⟨h.length,0,0⟩) 1 1,h++[rowB [x] 0]):=bs_row hl Fc.el32
theorem ints_nil {H:Heap}:Ints H (.slice none 0 0) []:=⟨⟨by simp,by simp⟩,.inl ⟨rfl,rfl⟩⟩
theorem slice_row {k:Nat} (hn:n=A.length) (hk:k=l.length) (hs:Small l):Ints (A++[rowB l 0]) (.slice (some ⟨n,0,0⟩) k k) l:=by
 subst hn hk
 exact Ints.fresh_row hs (by simp [rowB]) (Nat.le_refl _)
end
attribute [go_sem] lenI adrI loadI bslI bsrI
theorem extQ_ext {h H:Heap} {A:Prop} (e:Ext h H):extQ true h H A=A:=by
 simp only [extQ,true_imp_iff,and_iff_right_iff_imp,eq_iff_iff]
 exact fun _=>e
attribute [go_sem] extQ_ext
theorem getD_mem {l:List Int} {i:Nat} (hi:i<l.length):l.getD i 0 ∈ l:=by
 rw [List.getD_eq_getElem?_getD,List.getElem?_eq_getElem hi];exact List.getElem_mem hi
theorem tmodN (a b:Nat):(a:Int).tmod b=((a % b:Nat):Int):=rfl
end Go.AM
namespace Go.AM
open Go.Proofs.Tryz Go.RowKit Go.ChangeShapes
theorem own:ownKnob Go.Proofs.Tryz.prog.godebug=none:=by kernel_rfl
theorem laid:laidOutB Go.Proofs.Tryz.prog=true:=by kernel_rfl
theorem calls_true {f:FuncId} {args:List AVal} {A:Array Value} {R:List Rw} {W:World} {h':Heap} (hR:∀ r ∈ R,r.ok W) (hargs:VRs (muR R) args A.toList) (hv:callL prog raw 0 (.fn f [] []) args (heapR R)=some (.bool true,h')) :
  Calls prog f A W fun e W'=>e=.returned (.bool true)∧Below W.heap.size W W':=by
 have h0:=callL_sound (raw:=raw) allOk (Nat.zero_le _) (hrelR (P:=prog) hR) hargs (by intro q;cases q) hv
 refine (callsIn_wide.1 h0).mono fun e W' ⟨X,he,μ',_,hX,_,hE,_⟩=>?_
 have:X=.bool true:=by cases hX;rfl
 subst this
 exact ⟨he,below_of_evo hE⟩
theorem bulk_slice {H:Type} {k:IntKind} {us vs:List Int}:Go.Proofs.YtikgghhceolaeaaGreat.Rows.uptoBulk (.slice (lits (H:=H) k us) (lits k vs))=us.length+vs.length+1:=by
 have h:∀ l:List Int,Go.Proofs.YtikgghhceolaeaaGreat.Rows.uptoBulkAll (lits (H:=H) k l)=l.length:=fun l=>by
  induction l with
  | nil=>rfl
  | cons x xs ih =>
   simp only [lits,List.map_cons,Go.Proofs.YtikgghhceolaeaaGreat.Rows.uptoBulkAll,Go.Proofs.YtikgghhceolaeaaGreat.Rows.uptoBulk,List.length_cons] at ih ⊢
   rw [ih];omega
 simp only [Go.Proofs.YtikgghhceolaeaaGreat.Rows.uptoBulk,h]
end Go.AM
namespace Go.AM
open Go.Proofs.Tryz Go.RowKit Go.ChangeShapes Go.WideShapes Go.ChangeAt
open Go.Proofs.YtikgghhceolaeaaGreat (Rows.uptoSmall Rows.uptoBulkAll Rows.uptoBulk)
set_option maxRecDepth 100000
structure SlA (W:World) (k:IntKind) (V:Value) (r:Rw) (zs:List Int) (len cap:Nat):Prop where
 ok:r.cs=[] ∨ r.ok W
 cs:r.cs=zs.map (AVal.int k)
 zl:zs.length=cap
 le:len≤cap
 wf:∀ z ∈ zs,(Lit.int k z).wf=true
 rd:∀ (i:Nat) (μ:Mu),(0<cap→μ.loc i 0=some ⟨r.blk,r.off,r.cs.length,0⟩)→∃ v,VR μ v V∧((v=.slice none 0 0∧cap=0) ∨ (v=.emp∧cap=0) ∨ (v=.slice (some ⟨i,0,0⟩) len cap∧0<cap))
theorem SlA.add {W:World} {k:IntKind} {V:Value} {r:Rw} {zs:List Int} {len cap:Nat} (h:SlA W k V r zs len cap) {R:List Rw} (hR:∀ x ∈ R,x.ok W) :
  ∃ R':List Rw,(∀ x ∈ R',x.ok W)∧(∀ (j:Nat) (x:Rw),R[j]?=some x→R'[j]?=some x)∧(0<cap→R'[R.length]?=some r):=by
 rcases h.ok with h1|h1
 ·refine ⟨R,hR,fun _ _ h=>h,fun hc=>?_⟩
  have:=congrArg List.length (h.cs.symm.trans h1)
  simp only [List.length_map,List.length_nil] at this
  have:=h.zl
  omega
 ·refine ⟨R++[r],fun x hx=>?_,fun j x hj=>?_,fun _=>by simp⟩
  ·rcases List.mem_append.1 hx with h2|h2
   ·exact hR x h2
   ·rw [List.mem_singleton] at h2;subst h2;exact h1
  ·rw [List.getElem?_append_left (List.getElem?_eq_some_iff.1 hj).1];exact hj
theorem open_row {H:Type} {enc:TypeId × Value→H} {W:World} {t e:TypeId} {k:IntKind} {n:Nat} {V:Value} {x:DataW H × List MemPlace} (ht:prog.underlying t=some (.slice e)) (he:prog.underlying e=some (.int k)) (hc:prog.cellsOf e=1)
  (h:DataW.trod enc prog W 0 (fun _=>true) true n t [V]=some x):∃ (r:Rw) (zs:List Int) (len cap:Nat),SlA W k V r zs len cap∧cap≤Rows.uptoBulk x.1:=by
 obtain ⟨r,zs,len,cap,a1,a2,a3,a4,a5,a6,a7⟩:=arg_slice ht he hc h
 refine ⟨r,zs,len,cap,⟨a1,a2,a3,a4,a5,a7⟩,?_⟩
 rcases a6 with e6|e6
 ·by_cases hc0:cap=0
  ·omega
  ·exfalso
   obtain ⟨v,hv,h3⟩:=a7 0 (muR [r]) (fun _=>by rw [muR_loc (r:=r) rfl])
   rcases h3 with ⟨_,h4⟩|⟨_,h4⟩|⟨h4,_⟩
   ·exact hc0 h4
   ·exact hc0 h4
   ·subst h4
    cases hv with
    | slice r' L n' kcap C h5 =>
     have hx:=h
     rcases Go.ChangeShapes.open_ints ht he hc hx with ⟨h6,_⟩|⟨_,_,_,_,_,_,_,_,_,h6,_⟩
     ·simp at h6
     ·rw [h6] at e6;cases e6
    | slice0=>omega
 ·rw [e6,bulk_slice]
  simp only [List.length_take,List.length_drop]
  omega
end Go.AM
namespace Go.AM
open Go.Proofs.Tryz Go.RowKit Go.ChangeShapes Go.WideShapes Go.ChangeAt
open Go.Proofs.YtikgghhceolaeaaGreat (Rows.uptoSmall Rows.uptoBulkAll Rows.uptoBulk)
set_option maxRecDepth 100000
theorem SlA.bytes {W:World} {V:Value} {r:Rw} {zs:List Int} {len cap i:Nat} {R:List Rw} (h:SlA W .u8 V r zs len cap) (hr:0<cap→R[i]?=some r) (hb:cap<2 ^ 60) :
  ∃ v,VR (muR R) v V∧Bytes (heapR R) v (zs.take len):=by
 obtain ⟨v,h1,hv⟩:=h.rd i (muR R) (fun hc=>muR_loc (hr hc))
 have hz:=h.zl
 have hl:=h.le
 refine ⟨v,h1,⟨by simp;omega,fun x hx=>?_⟩,?_⟩
 ·have:=h.wf x (List.mem_of_mem_take hx)
  simp [Lit.wf,IntKind.min,IntKind.max,IntKind.signed,IntKind.bits] at this
  omega
 ·rcases hv with ⟨rfl,h0⟩|⟨rfl,h0⟩|⟨rfl,h0⟩
  ·exact .inl ⟨rfl,by simp;exact .inr (List.eq_nil_of_length_eq_zero (by omega))⟩
  ·exact .inr (.inl ⟨rfl,by simp;exact .inr (List.eq_nil_of_length_eq_zero (by omega))⟩)
  ·have hlen:(zs.take len).length=len:=by rw [List.length_take];omega
   refine .inr (.inr ⟨⟨i,0,0⟩,cap,r.cs,3,false,true,by rw [hlen],heapR_get (hr h0),?_,?_,by rw [hlen];exact hl⟩)
   ·rw [hlen,h.cs,List.drop_zero,List.map_take]
   ·rw [hlen,h.cs];simp;omega
theorem openByt {H:Type} {enc:TypeId × Value→H} {W:World} {base:Nat} {V:Value} {d:DataW H} {p:List MemPlace} (hval:Value.okWide prog W .any base 22 V) (h:DataW.Trod enc prog W 0 (fun _=>true) true 22 V d p) :
  ∃ (r:Rw) (zs:List Int) (len cap:Nat),SlA W .u8 V r zs len cap∧cap≤Rows.uptoBulk d:=by
 obtain ⟨a0,n,k,rfl⟩:=okWide_slice underlying22 hval
 obtain ⟨fuel,hf⟩:=h
 exact open_row underlying22 underlying5 (by kernel_rfl) hf
end Go.AM
