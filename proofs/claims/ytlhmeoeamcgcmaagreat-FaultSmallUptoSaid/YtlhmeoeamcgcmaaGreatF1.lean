/-
  Facts of the types of one translation, by program (wip/tools/facts.py).
-/
import Derived.Test.YtlhmeoeamcgcmaaGreatA6
import Derived.Test.YtlhmeoeamcgcmaaGreatProg
import Derived.KernelRfl
import Derived.Test.YtlhmeoeamcgcmaaGreatA8
set_option linter.unusedSimpArgs false
set_option linter.unusedVariables false
namespace Go.AM.Fc
open Go.Proofs.Tryz
section
variable {id ver o:Nat} {h:Heap} {base:Nat}
theorem ty3:tyA prog 3=some (false,1):=by kernel_rfl
theorem zc3:zc prog 3=some [.int .i64 0]:=by kernel_rfl
theorem el3:elS prog 3=none:=by kernel_rfl
theorem st3 {x:AVal} (hx:One x):stP prog base h 3 (.ptr (some ⟨id,ver,o⟩)) x=(stQ base id (h[id]?) ver o [x] (fun b=>h.set id b)).map fun h'=>(undefA,h'):=stP_one ty3 hx
theorem ty4:tyA prog 4=some (false,1):=by kernel_rfl
theorem zc4:zc prog 4=some [.bool false]:=by kernel_rfl
theorem st4 {x:AVal} (hx:One x):stP prog base h 4 (.ptr (some ⟨id,ver,o⟩)) x=(stQ base id (h[id]?) ver o [x] (fun b=>h.set id b)).map fun h'=>(undefA,h'):=stP_one ty4 hx
theorem ty22:tyA prog 22=some (false,1):=by kernel_rfl
theorem ar22:arT prog 22=none:=by kernel_rfl
theorem el22:elS prog 22=some (81,4,[.slice none 0 0,.int .i64 0,.int .i64 0,.bool false]):=by kernel_rfl
theorem as22 {v f m k:Nat} {i:Int} (h0:0≤i) (h1:i<m):indexAddrA prog 22 (.slice (some ⟨id,v,f⟩) m k) (.int .i64 i)=some (.ptr (some ⟨id,v,f+i.toNat * 4⟩)):=adr_sl el22 ar22 h0 h1
theorem st22 {x:AVal} (hx:One x):stP prog base h 22 (.ptr (some ⟨id,ver,o⟩)) x=(stQ base id (h[id]?) ver o [x] (fun b=>h.set id b)).map fun h'=>(undefA,h'):=stP_one ty22 hx
theorem ty23:tyA prog 23=some (false,1):=by kernel_rfl
theorem ar23:arT prog 23=none:=by kernel_rfl
theorem el23:elS prog 23=some (56,4,[.int .i64 0,.int .i64 0,.int .i64 0,.bool false]):=by kernel_rfl
theorem as23 {v f m k:Nat} {i:Int} (h0:0≤i) (h1:i<m):indexAddrA prog 23 (.slice (some ⟨id,v,f⟩) m k) (.int .i64 i)=some (.ptr (some ⟨id,v,f+i.toNat * 4⟩)):=adr_sl el23 ar23 h0 h1
theorem st23 {x:AVal} (hx:One x):stP prog base h 23 (.ptr (some ⟨id,ver,o⟩)) x=(stQ base id (h[id]?) ver o [x] (fun b=>h.set id b)).map fun h'=>(undefA,h'):=stP_one ty23 hx
theorem ty25:tyA prog 25=some (true,4):=by kernel_rfl
theorem zc25:zc prog 25=some [.int .i64 0,.int .i64 0,.slice none 0 0,.slice none 0 0]:=by kernel_rfl
theorem pl25:plcS prog 25=some [(0,1),(1,1),(2,1),(3,1)]:=by kernel_rfl
theorem fa25_0:fieldAddrA prog 25 (.ptr (some ⟨id,ver,o⟩)) 0=some (.ptr (some ⟨id,ver,o+0⟩)):=fieldAddr_eq (q:=false) (z:=1) (by kernel_rfl) (by decide)
theorem fa25_1:fieldAddrA prog 25 (.ptr (some ⟨id,ver,o⟩)) 1=some (.ptr (some ⟨id,ver,o+1⟩)):=fieldAddr_eq (q:=false) (z:=1) (by kernel_rfl) (by decide)
theorem fa25_2:fieldAddrA prog 25 (.ptr (some ⟨id,ver,o⟩)) 2=some (.ptr (some ⟨id,ver,o+2⟩)):=fieldAddr_eq (q:=false) (z:=1) (by kernel_rfl) (by decide)
theorem fa25_3:fieldAddrA prog 25 (.ptr (some ⟨id,ver,o⟩)) 3=some (.ptr (some ⟨id,ver,o+3⟩)):=fieldAddr_eq (q:=false) (z:=1) (by kernel_rfl) (by decide)
theorem st25 {x0 x1 x2 x3:AVal}:stP prog base h 25 (.ptr (some ⟨id,ver,o⟩)) (.agg [x0,x1,x2,x3])=(stQ base id (h[id]?) ver o [x0,x1,x2,x3] (fun b=>h.set id b)).map fun h'=>(undefA,h'):=stP_ptr ty25 rfl
theorem ty29:tyA prog 29=some (false,1):=by kernel_rfl
theorem ar29:arT prog 29=none:=by kernel_rfl
theorem el29:elS prog 29=some (125,4,[.slice none 0 0,.int .i64 0,.int .i64 0,.bool false]):=by kernel_rfl
theorem st29 {x:AVal} (hx:One x):stP prog base h 29 (.ptr (some ⟨id,ver,o⟩)) x=(stQ base id (h[id]?) ver o [x] (fun b=>h.set id b)).map fun h'=>(undefA,h'):=stP_one ty29 hx
theorem ty30:tyA prog 30=some (false,1):=by kernel_rfl
theorem ar30:arT prog 30=none:=by kernel_rfl
theorem el30:elS prog 30=some (126,4,[.int .i64 0,.int .i64 0,.int .i64 0,.bool false]):=by kernel_rfl
theorem st30 {x:AVal} (hx:One x):stP prog base h 30 (.ptr (some ⟨id,ver,o⟩)) x=(stQ base id (h[id]?) ver o [x] (fun b=>h.set id b)).map fun h'=>(undefA,h'):=stP_one ty30 hx
theorem ty32:tyA prog 32=some (true,4):=by kernel_rfl
theorem zc32:zc prog 32=some [.int .i64 0,.int .i64 0,.slice none 0 0,.slice none 0 0]:=by kernel_rfl
theorem pl32:plcS prog 32=some [(0,1),(1,1),(2,1),(3,1)]:=by kernel_rfl
theorem fa32_0:fieldAddrA prog 32 (.ptr (some ⟨id,ver,o⟩)) 0=some (.ptr (some ⟨id,ver,o+0⟩)):=fieldAddr_eq (q:=false) (z:=1) (by kernel_rfl) (by decide)
theorem fa32_1:fieldAddrA prog 32 (.ptr (some ⟨id,ver,o⟩)) 1=some (.ptr (some ⟨id,ver,o+1⟩)):=fieldAddr_eq (q:=false) (z:=1) (by kernel_rfl) (by decide)
theorem fa32_2:fieldAddrA prog 32 (.ptr (some ⟨id,ver,o⟩)) 2=some (.ptr (some ⟨id,ver,o+2⟩)):=fieldAddr_eq (q:=false) (z:=1) (by kernel_rfl) (by decide)
theorem fa32_3:fieldAddrA prog 32 (.ptr (some ⟨id,ver,o⟩)) 3=some (.ptr (some ⟨id,ver,o+3⟩)):=fieldAddr_eq (q:=false) (z:=1) (by kernel_rfl) (by decide)
theorem st32 {x0 x1 x2 x3:AVal}:stP prog base h 32 (.ptr (some ⟨id,ver,o⟩)) (.agg [x0,x1,x2,x3])=(stQ base id (h[id]?) ver o [x0,x1,x2,x3] (fun b=>h.set id b)).map fun h'=>(undefA,h'):=stP_ptr ty32 rfl
theorem ty36:tyA prog 36=some (false,1):=by kernel_rfl
theorem zc36:zc prog 36=some [.slice none 0 0]:=by kernel_rfl
theorem ar36:arT prog 36=none:=by kernel_rfl
theorem el36:elS prog 36=some (3,1,[.int .i64 0]):=by kernel_rfl
theorem ln36 {r:ARef} {m k:Nat}:lenOpA prog h 36 (.slice (some r) m k)=some (.int .i64 (m:Int)):=len_sl el36
theorem as36 {v f m k:Nat} {i:Int} (h0:0≤i) (h1:i<m):indexAddrA prog 36 (.slice (some ⟨id,v,f⟩) m k) (.int .i64 i)=some (.ptr (some ⟨id,v,f+i.toNat * 1⟩)):=adr_sl el36 ar36 h0 h1
theorem un36:prog.underlying 36=some (.slice 3):=by kernel_rfl
theorem st36 {x:AVal} (hx:One x):stP prog base h 36 (.ptr (some ⟨id,ver,o⟩)) x=(stQ base id (h[id]?) ver o [x] (fun b=>h.set id b)).map fun h'=>(undefA,h'):=stP_one ty36 hx
theorem ar37:arT prog 37=none:=by kernel_rfl
theorem el37:elS prog 37=some (66,1,[.slice none 0 0]):=by kernel_rfl
theorem ty54:tyA prog 54=some (true,2):=by kernel_rfl
theorem zc54:zc prog 54=some [.int .i64 0,.int .i64 0]:=by kernel_rfl
theorem pl54:plcS prog 54=some [(0,1),(1,1)]:=by kernel_rfl
theorem fa54_0:fieldAddrA prog 54 (.ptr (some ⟨id,ver,o⟩)) 0=some (.ptr (some ⟨id,ver,o+0⟩)):=fieldAddr_eq (q:=false) (z:=1) (by kernel_rfl) (by decide)
theorem fa54_1:fieldAddrA prog 54 (.ptr (some ⟨id,ver,o⟩)) 1=some (.ptr (some ⟨id,ver,o+1⟩)):=fieldAddr_eq (q:=false) (z:=1) (by kernel_rfl) (by decide)
theorem ty56:tyA prog 56=some (true,4):=by kernel_rfl
theorem zc56:zc prog 56=some [.int .i64 0,.int .i64 0,.int .i64 0,.bool false]:=by kernel_rfl
theorem pl56:plcS prog 56=some [(0,1),(1,2),(3,1)]:=by kernel_rfl
theorem fa56_0:fieldAddrA prog 56 (.ptr (some ⟨id,ver,o⟩)) 0=some (.ptr (some ⟨id,ver,o+0⟩)):=fieldAddr_eq (q:=false) (z:=1) (by kernel_rfl) (by decide)
theorem fa56_1:fieldAddrA prog 56 (.ptr (some ⟨id,ver,o⟩)) 1=some (.ptr (some ⟨id,ver,o+1⟩)):=fieldAddr_eq (q:=true) (z:=2) (by kernel_rfl) (by decide)
theorem fa56_2:fieldAddrA prog 56 (.ptr (some ⟨id,ver,o⟩)) 2=some (.ptr (some ⟨id,ver,o+3⟩)):=fieldAddr_eq (q:=false) (z:=1) (by kernel_rfl) (by decide)
theorem st56 {x0 x1 x2 x3:AVal}:stP prog base h 56 (.ptr (some ⟨id,ver,o⟩)) (.agg [x0,x1,x2,x3])=(stQ base id (h[id]?) ver o [x0,x1,x2,x3] (fun b=>h.set id b)).map fun h'=>(undefA,h'):=stP_ptr ty56 rfl
theorem ty60:tyA prog 60=some (false,1):=by kernel_rfl
theorem ar60:arT prog 60=none:=by kernel_rfl
theorem el60:elS prog 60=some (75,3,[.int .i64 0,.int .i64 0,.int .i64 0]):=by kernel_rfl
theorem as60 {v f m k:Nat} {i:Int} (h0:0≤i) (h1:i<m):indexAddrA prog 60 (.slice (some ⟨id,v,f⟩) m k) (.int .i64 i)=some (.ptr (some ⟨id,v,f+i.toNat * 3⟩)):=adr_sl el60 ar60 h0 h1
theorem un60:prog.underlying 60=some (.slice 75):=by kernel_rfl
theorem st60 {x:AVal} (hx:One x):stP prog base h 60 (.ptr (some ⟨id,ver,o⟩)) x=(stQ base id (h[id]?) ver o [x] (fun b=>h.set id b)).map fun h'=>(undefA,h'):=stP_one ty60 hx
theorem ty66:tyA prog 66=some (false,1):=by kernel_rfl
theorem ar66:arT prog 66=none:=by kernel_rfl
theorem el66:elS prog 66=some (128,3,[.int .i64 0,.int .i64 0,.int .i64 0]):=by kernel_rfl
theorem ty75:tyA prog 75=some (true,3):=by kernel_rfl
theorem zc75:zc prog 75=some [.int .i64 0,.int .i64 0,.int .i64 0]:=by kernel_rfl
theorem pl75:plcS prog 75=some [(0,1),(1,1),(2,1)]:=by kernel_rfl
theorem fa75_0:fieldAddrA prog 75 (.ptr (some ⟨id,ver,o⟩)) 0=some (.ptr (some ⟨id,ver,o+0⟩)):=fieldAddr_eq (q:=false) (z:=1) (by kernel_rfl) (by decide)
theorem fa75_1:fieldAddrA prog 75 (.ptr (some ⟨id,ver,o⟩)) 1=some (.ptr (some ⟨id,ver,o+1⟩)):=fieldAddr_eq (q:=false) (z:=1) (by kernel_rfl) (by decide)
theorem fa75_2:fieldAddrA prog 75 (.ptr (some ⟨id,ver,o⟩)) 2=some (.ptr (some ⟨id,ver,o+2⟩)):=fieldAddr_eq (q:=false) (z:=1) (by kernel_rfl) (by decide)
theorem st75 {x0 x1 x2:AVal}:stP prog base h 75 (.ptr (some ⟨id,ver,o⟩)) (.agg [x0,x1,x2])=(stQ base id (h[id]?) ver o [x0,x1,x2] (fun b=>h.set id b)).map fun h'=>(undefA,h'):=stP_ptr ty75 rfl
theorem ty81:tyA prog 81=some (true,4):=by kernel_rfl
theorem zc81:zc prog 81=some [.slice none 0 0,.int .i64 0,.int .i64 0,.bool false]:=by kernel_rfl
theorem pl81:plcS prog 81=some [(0,1),(1,1),(2,1),(3,1)]:=by kernel_rfl
theorem fa81_0:fieldAddrA prog 81 (.ptr (some ⟨id,ver,o⟩)) 0=some (.ptr (some ⟨id,ver,o+0⟩)):=fieldAddr_eq (q:=false) (z:=1) (by kernel_rfl) (by decide)
theorem fa81_1:fieldAddrA prog 81 (.ptr (some ⟨id,ver,o⟩)) 1=some (.ptr (some ⟨id,ver,o+1⟩)):=fieldAddr_eq (q:=false) (z:=1) (by kernel_rfl) (by decide)
theorem fa81_2:fieldAddrA prog 81 (.ptr (some ⟨id,ver,o⟩)) 2=some (.ptr (some ⟨id,ver,o+2⟩)):=fieldAddr_eq (q:=false) (z:=1) (by kernel_rfl) (by decide)
theorem fa81_3:fieldAddrA prog 81 (.ptr (some ⟨id,ver,o⟩)) 3=some (.ptr (some ⟨id,ver,o+3⟩)):=fieldAddr_eq (q:=false) (z:=1) (by kernel_rfl) (by decide)
theorem st81 {x0 x1 x2 x3:AVal}:stP prog base h 81 (.ptr (some ⟨id,ver,o⟩)) (.agg [x0,x1,x2,x3])=(stQ base id (h[id]?) ver o [x0,x1,x2,x3] (fun b=>h.set id b)).map fun h'=>(undefA,h'):=stP_ptr ty81 rfl
theorem ar96:arT prog 96=none:=by kernel_rfl
theorem el96:elS prog 96=some (101,2,[.int .i64 0,.int .i64 0]):=by kernel_rfl
theorem ty101:tyA prog 101=some (true,2):=by kernel_rfl
theorem zc101:zc prog 101=some [.int .i64 0,.int .i64 0]:=by kernel_rfl
theorem pl101:plcS prog 101=some [(0,1),(1,1)]:=by kernel_rfl
theorem fa101_1:fieldAddrA prog 101 (.ptr (some ⟨id,ver,o⟩)) 1=some (.ptr (some ⟨id,ver,o+1⟩)):=fieldAddr_eq (q:=false) (z:=1) (by kernel_rfl) (by decide)
theorem st101 {x0 x1:AVal}:stP prog base h 101 (.ptr (some ⟨id,ver,o⟩)) (.agg [x0,x1])=(stQ base id (h[id]?) ver o [x0,x1] (fun b=>h.set id b)).map fun h'=>(undefA,h'):=stP_ptr ty101 rfl
theorem ar104:arT prog 104=none:=by kernel_rfl
theorem el104:elS prog 104=some (36,1,[.slice none 0 0]):=by kernel_rfl
theorem ln104 {r:ARef} {m k:Nat}:lenOpA prog h 104 (.slice (some r) m k)=some (.int .i64 (m:Int)):=len_sl el104
theorem ty106:tyA prog 106=some (false,1):=by kernel_rfl
theorem ar107:arT prog 107=none:=by kernel_rfl
theorem el107:elS prog 107=some (106,1,[.ptr none]):=by kernel_rfl
theorem ar110:arT prog 110=none:=by kernel_rfl
theorem el110:elS prog 110=some (25,4,[.int .i64 0,.int .i64 0,.slice none 0 0,.slice none 0 0]):=by kernel_rfl
theorem ln110 {r:ARef} {m k:Nat}:lenOpA prog h 110 (.slice (some r) m k)=some (.int .i64 (m:Int)):=len_sl el110
theorem ty113:tyA prog 113=some (false,1):=by kernel_rfl
theorem ar113:arT prog 113=none:=by kernel_rfl
theorem el113:elS prog 113=some (4,1,[.bool false]):=by kernel_rfl
theorem ln113 {r:ARef} {m k:Nat}:lenOpA prog h 113 (.slice (some r) m k)=some (.int .i64 (m:Int)):=len_sl el113
theorem as113 {v f m k:Nat} {i:Int} (h0:0≤i) (h1:i<m):indexAddrA prog 113 (.slice (some ⟨id,v,f⟩) m k) (.int .i64 i)=some (.ptr (some ⟨id,v,f+i.toNat * 1⟩)):=adr_sl el113 ar113 h0 h1
theorem ty121:tyA prog 121=some (false,1):=by kernel_rfl
theorem zc121:zc prog 121=some [.nilFn]:=by kernel_rfl
theorem st121 {x:AVal} (hx:One x):stP prog base h 121 (.ptr (some ⟨id,ver,o⟩)) x=(stQ base id (h[id]?) ver o [x] (fun b=>h.set id b)).map fun h'=>(undefA,h'):=stP_one ty121 hx
theorem ty125:tyA prog 125=some (true,4):=by kernel_rfl
theorem zc125:zc prog 125=some [.slice none 0 0,.int .i64 0,.int .i64 0,.bool false]:=by kernel_rfl
theorem pl125:plcS prog 125=some [(0,1),(1,1),(2,1),(3,1)]:=by kernel_rfl
theorem fa125_0:fieldAddrA prog 125 (.ptr (some ⟨id,ver,o⟩)) 0=some (.ptr (some ⟨id,ver,o+0⟩)):=fieldAddr_eq (q:=false) (z:=1) (by kernel_rfl) (by decide)
theorem fa125_1:fieldAddrA prog 125 (.ptr (some ⟨id,ver,o⟩)) 1=some (.ptr (some ⟨id,ver,o+1⟩)):=fieldAddr_eq (q:=false) (z:=1) (by kernel_rfl) (by decide)
theorem fa125_2:fieldAddrA prog 125 (.ptr (some ⟨id,ver,o⟩)) 2=some (.ptr (some ⟨id,ver,o+2⟩)):=fieldAddr_eq (q:=false) (z:=1) (by kernel_rfl) (by decide)
theorem st125 {x0 x1 x2 x3:AVal}:stP prog base h 125 (.ptr (some ⟨id,ver,o⟩)) (.agg [x0,x1,x2,x3])=(stQ base id (h[id]?) ver o [x0,x1,x2,x3] (fun b=>h.set id b)).map fun h'=>(undefA,h'):=stP_ptr ty125 rfl
theorem ty126:tyA prog 126=some (true,4):=by kernel_rfl
theorem zc126:zc prog 126=some [.int .i64 0,.int .i64 0,.int .i64 0,.bool false]:=by kernel_rfl
theorem fa126_0:fieldAddrA prog 126 (.ptr (some ⟨id,ver,o⟩)) 0=some (.ptr (some ⟨id,ver,o+0⟩)):=fieldAddr_eq (q:=false) (z:=1) (by kernel_rfl) (by decide)
theorem fa126_1:fieldAddrA prog 126 (.ptr (some ⟨id,ver,o⟩)) 1=some (.ptr (some ⟨id,ver,o+1⟩)):=fieldAddr_eq (q:=true) (z:=2) (by kernel_rfl) (by decide)
theorem fa126_2:fieldAddrA prog 126 (.ptr (some ⟨id,ver,o⟩)) 2=some (.ptr (some ⟨id,ver,o+3⟩)):=fieldAddr_eq (q:=false) (z:=1) (by kernel_rfl) (by decide)
theorem st126 {x0 x1 x2 x3:AVal}:stP prog base h 126 (.ptr (some ⟨id,ver,o⟩)) (.agg [x0,x1,x2,x3])=(stQ base id (h[id]?) ver o [x0,x1,x2,x3] (fun b=>h.set id b)).map fun h'=>(undefA,h'):=stP_ptr ty126 rfl
theorem ty128:tyA prog 128=some (true,3):=by kernel_rfl
theorem zc128:zc prog 128=some [.int .i64 0,.int .i64 0,.int .i64 0]:=by kernel_rfl
theorem pl128:plcS prog 128=some [(0,1),(1,1),(2,1)]:=by kernel_rfl
theorem fa128_0:fieldAddrA prog 128 (.ptr (some ⟨id,ver,o⟩)) 0=some (.ptr (some ⟨id,ver,o+0⟩)):=fieldAddr_eq (q:=false) (z:=1) (by kernel_rfl) (by decide)
theorem fa128_1:fieldAddrA prog 128 (.ptr (some ⟨id,ver,o⟩)) 1=some (.ptr (some ⟨id,ver,o+1⟩)):=fieldAddr_eq (q:=false) (z:=1) (by kernel_rfl) (by decide)
theorem fa128_2:fieldAddrA prog 128 (.ptr (some ⟨id,ver,o⟩)) 2=some (.ptr (some ⟨id,ver,o+2⟩)):=fieldAddr_eq (q:=false) (z:=1) (by kernel_rfl) (by decide)
theorem st128 {x0 x1 x2:AVal}:stP prog base h 128 (.ptr (some ⟨id,ver,o⟩)) (.agg [x0,x1,x2])=(stQ base id (h[id]?) ver o [x0,x1,x2] (fun b=>h.set id b)).map fun h'=>(undefA,h'):=stP_ptr ty128 rfl
theorem ty131:tyA prog 131=some (false,1):=by kernel_rfl
theorem ty134:tyA prog 134=some (false,1):=by kernel_rfl
theorem zc134:zc prog 134=some [.nilFn]:=by kernel_rfl
theorem st134 {x:AVal} (hx:One x):stP prog base h 134 (.ptr (some ⟨id,ver,o⟩)) x=(stQ base id (h[id]?) ver o [x] (fun b=>h.set id b)).map fun h'=>(undefA,h'):=stP_one ty134 hx
theorem ty135:tyA prog 135=some (false,1):=by kernel_rfl
theorem zc135:zc prog 135=some [.slice none 0 0]:=by kernel_rfl
theorem ar135:arT prog 135=none:=by kernel_rfl
theorem el135:elS prog 135=some (148,2,[.int .i64 0,.slice none 0 0]):=by kernel_rfl
theorem ln135 {r:ARef} {m k:Nat}:lenOpA prog h 135 (.slice (some r) m k)=some (.int .i64 (m:Int)):=len_sl el135
theorem as135 {v f m k:Nat} {i:Int} (h0:0≤i) (h1:i<m):indexAddrA prog 135 (.slice (some ⟨id,v,f⟩) m k) (.int .i64 i)=some (.ptr (some ⟨id,v,f+i.toNat * 2⟩)):=adr_sl el135 ar135 h0 h1
theorem un135:prog.underlying 135=some (.slice 148):=by kernel_rfl
theorem st135 {x:AVal} (hx:One x):stP prog base h 135 (.ptr (some ⟨id,ver,o⟩)) x=(stQ base id (h[id]?) ver o [x] (fun b=>h.set id b)).map fun h'=>(undefA,h'):=stP_one ty135 hx
theorem ty138:tyA prog 138=some (true,4):=by kernel_rfl
theorem zc138:zc prog 138=some [.int .i64 0,.int .i64 0,.int .i64 0,.int .i64 0]:=by kernel_rfl
theorem pl138:plcS prog 138=some [(0,3),(3,1)]:=by kernel_rfl
theorem fa138_0:fieldAddrA prog 138 (.ptr (some ⟨id,ver,o⟩)) 0=some (.ptr (some ⟨id,ver,o+0⟩)):=fieldAddr_eq (q:=true) (z:=3) (by kernel_rfl) (by decide)
theorem fa138_1:fieldAddrA prog 138 (.ptr (some ⟨id,ver,o⟩)) 1=some (.ptr (some ⟨id,ver,o+3⟩)):=fieldAddr_eq (q:=false) (z:=1) (by kernel_rfl) (by decide)
theorem st138 {x0 x1 x2 x3:AVal}:stP prog base h 138 (.ptr (some ⟨id,ver,o⟩)) (.agg [x0,x1,x2,x3])=(stQ base id (h[id]?) ver o [x0,x1,x2,x3] (fun b=>h.set id b)).map fun h'=>(undefA,h'):=stP_ptr ty138 rfl
theorem ty139:tyA prog 139=some (false,1):=by kernel_rfl
theorem ty141:tyA prog 141=some (true,1):=by kernel_rfl
theorem zc141:zc prog 141=some [.nilFn]:=by kernel_rfl
theorem pl141:plcS prog 141=some [(0,1)]:=by kernel_rfl
theorem fa141_0:fieldAddrA prog 141 (.ptr (some ⟨id,ver,o⟩)) 0=some (.ptr (some ⟨id,ver,o+0⟩)):=fieldAddr_eq (q:=false) (z:=1) (by kernel_rfl) (by decide)
theorem st141 {x0:AVal}:stP prog base h 141 (.ptr (some ⟨id,ver,o⟩)) (.agg [x0])=(stQ base id (h[id]?) ver o [x0] (fun b=>h.set id b)).map fun h'=>(undefA,h'):=stP_ptr ty141 rfl
theorem ty143:tyA prog 143=some (true,12):=by kernel_rfl
theorem zc143:zc prog 143=some [.bool false,.bool false,.bool false,.bool false,.bool false,.bool false,.bool false,.bool false,.bool false,.bool false,.bool false,.bool false]:=by kernel_rfl
theorem ar143:arT prog 143=some (12,false,1):=by kernel_rfl
theorem ad143 {i:Int} (h0:0≤i) (h1:i<12):indexAddrA prog 143 (.ptr (some ⟨id,ver,o⟩)) (.int .i64 i)=some (.ptr (some ⟨id,ver,o+i.toNat * 1⟩)):=adr_arr ar143 h0 h1
theorem ty148:tyA prog 148=some (true,2):=by kernel_rfl
theorem zc148:zc prog 148=some [.int .i64 0,.slice none 0 0]:=by kernel_rfl
theorem fa148_0:fieldAddrA prog 148 (.ptr (some ⟨id,ver,o⟩)) 0=some (.ptr (some ⟨id,ver,o+0⟩)):=fieldAddr_eq (q:=false) (z:=1) (by kernel_rfl) (by decide)
theorem fi148_0 {x0 x1:AVal}:fieldA prog 148 (.agg [x0,x1]) 0=some (x0):=by
 have h:fld prog 148 0=some (0,false,1):=by kernel_rfl
 simp [fieldA,h,partQ]
theorem fa148_1:fieldAddrA prog 148 (.ptr (some ⟨id,ver,o⟩)) 1=some (.ptr (some ⟨id,ver,o+1⟩)):=fieldAddr_eq (q:=false) (z:=1) (by kernel_rfl) (by decide)
theorem fi148_1 {x0 x1:AVal}:fieldA prog 148 (.agg [x0,x1]) 1=some (x1):=by
 have h:fld prog 148 1=some (1,false,1):=by kernel_rfl
 simp [fieldA,h,partQ]
theorem st148 {x0 x1:AVal}:stP prog base h 148 (.ptr (some ⟨id,ver,o⟩)) (.agg [x0,x1])=(stQ base id (h[id]?) ver o [x0,x1] (fun b=>h.set id b)).map fun h'=>(undefA,h'):=stP_ptr ty148 rfl
theorem ty154:tyA prog 154=some (false,1):=by kernel_rfl
theorem ar156:arT prog 156=none:=by kernel_rfl
theorem el156:elS prog 156=some (113,1,[.slice none 0 0]):=by kernel_rfl
theorem ar159:arT prog 159=some (10,false,1):=by kernel_rfl
theorem zc160:zc prog 160=some (repCells [.bool false] 100):=by kernel_rfl
theorem ar160:arT prog 160=some (10,true,10):=by kernel_rfl
theorem ty161:tyA prog 161=some (false,1):=by kernel_rfl
theorem ar161:arT prog 161=none:=by kernel_rfl
theorem el161:elS prog 161=some (143,12,[.bool false,.bool false,.bool false,.bool false,.bool false,.bool false,.bool false,.bool false,.bool false,.bool false,.bool false,.bool false]):=by kernel_rfl
theorem zc163:zc prog 163=some [.int .i64 0,.int .i64 0,.slice none 0 0,.slice none 0 0,.slice none 0 0,.slice none 0 0]:=by kernel_rfl
theorem pl163:plcS prog 163=some [(0,4),(4,1),(5,1)]:=by kernel_rfl
theorem fa163_0:fieldAddrA prog 163 (.ptr (some ⟨id,ver,o⟩)) 0=some (.ptr (some ⟨id,ver,o+0⟩)):=fieldAddr_eq (q:=true) (z:=4) (by kernel_rfl) (by decide)
theorem fa163_1:fieldAddrA prog 163 (.ptr (some ⟨id,ver,o⟩)) 1=some (.ptr (some ⟨id,ver,o+4⟩)):=fieldAddr_eq (q:=false) (z:=1) (by kernel_rfl) (by decide)
theorem fa163_2:fieldAddrA prog 163 (.ptr (some ⟨id,ver,o⟩)) 2=some (.ptr (some ⟨id,ver,o+5⟩)):=fieldAddr_eq (q:=false) (z:=1) (by kernel_rfl) (by decide)
theorem ar180:arT prog 180=none:=by kernel_rfl
theorem el180:elS prog 180=some (183,2,[.int .i64 0,.int .i64 0]):=by kernel_rfl
theorem ty183:tyA prog 183=some (true,2):=by kernel_rfl
theorem zc183:zc prog 183=some [.int .i64 0,.int .i64 0]:=by kernel_rfl
theorem pl183:plcS prog 183=some [(0,1),(1,1)]:=by kernel_rfl
theorem fa183_0:fieldAddrA prog 183 (.ptr (some ⟨id,ver,o⟩)) 0=some (.ptr (some ⟨id,ver,o+0⟩)):=fieldAddr_eq (q:=false) (z:=1) (by kernel_rfl) (by decide)
theorem fa183_1:fieldAddrA prog 183 (.ptr (some ⟨id,ver,o⟩)) 1=some (.ptr (some ⟨id,ver,o+1⟩)):=fieldAddr_eq (q:=false) (z:=1) (by kernel_rfl) (by decide)
theorem ty185:tyA prog 185=some (false,1):=by kernel_rfl
theorem ty187:tyA prog 187=some (false,1):=by kernel_rfl
theorem mp197:mpT prog 197=some (101,4):=by kernel_rfl
theorem bd25_ :buildA prog 25 []=some (.agg [.int .i64 0,.int .i64 0,.slice none 0 0,.slice none 0 0]):=by
 simp [buildA,zc25,pl25,fillA,splice,isN_agg,cells_agg]
theorem bd25_01 {y0 y1:AVal} (h0:One y0) (h1:One y1):buildA prog 25 [(0,y0),(1,y1)]=some (.agg [y0,y1,.slice none 0 0,.slice none 0 0]):=by
 simp [buildA,zc25,pl25,fillA,splice,isN_agg,cells_agg,h0.1,h0.2.1,h1.1,h1.2.1]
theorem bd25_0123 {y0 y1 y2 y3:AVal} (h0:One y0) (h1:One y1) (h2:One y2) (h3:One y3):buildA prog 25 [(0,y0),(1,y1),(2,y2),(3,y3)]=some (.agg [y0,y1,y2,y3]):=by
 simp [buildA,zc25,pl25,fillA,splice,isN_agg,cells_agg,h0.1,h0.2.1,h1.1,h1.2.1,h2.1,h2.2.1,h3.1,h3.2.1]
theorem bd25_013 {y0 y1 y3:AVal} (h0:One y0) (h1:One y1) (h3:One y3):buildA prog 25 [(0,y0),(1,y1),(3,y3)]=some (.agg [y0,y1,.slice none 0 0,y3]):=by
 simp [buildA,zc25,pl25,fillA,splice,isN_agg,cells_agg,h0.1,h0.2.1,h1.1,h1.2.1,h3.1,h3.2.1]
theorem bd32_01 {y0 y1:AVal} (h0:One y0) (h1:One y1):buildA prog 32 [(0,y0),(1,y1)]=some (.agg [y0,y1,.slice none 0 0,.slice none 0 0]):=by
 simp [buildA,zc32,pl32,fillA,splice,isN_agg,cells_agg,h0.1,h0.2.1,h1.1,h1.2.1]
theorem bd54_01 {y0 y1:AVal} (h0:One y0) (h1:One y1):buildA prog 54 [(0,y0),(1,y1)]=some (.agg [y0,y1]):=by
 simp [buildA,zc54,pl54,fillA,splice,isN_agg,cells_agg,h0.1,h0.2.1,h1.1,h1.2.1]
theorem bd56_012 {y0 y1_0 y1_1 y2:AVal} (h0:One y0) (h2:One y2):buildA prog 56 [(0,y0),(1,.agg [y1_0,y1_1]),(2,y2)]=some (.agg [y0,y1_0,y1_1,y2]):=by
 simp [buildA,zc56,pl56,fillA,splice,isN_agg,cells_agg,h0.1,h0.2.1,h2.1,h2.2.1]
theorem bd75_012 {y0 y1 y2:AVal} (h0:One y0) (h1:One y1) (h2:One y2):buildA prog 75 [(0,y0),(1,y1),(2,y2)]=some (.agg [y0,y1,y2]):=by
 simp [buildA,zc75,pl75,fillA,splice,isN_agg,cells_agg,h0.1,h0.2.1,h1.1,h1.2.1,h2.1,h2.2.1]
theorem bd75_02 {y0 y2:AVal} (h0:One y0) (h2:One y2):buildA prog 75 [(0,y0),(2,y2)]=some (.agg [y0,.int .i64 0,y2]):=by
 simp [buildA,zc75,pl75,fillA,splice,isN_agg,cells_agg,h0.1,h0.2.1,h2.1,h2.2.1]
theorem bd81_012 {y0 y1 y2:AVal} (h0:One y0) (h1:One y1) (h2:One y2):buildA prog 81 [(0,y0),(1,y1),(2,y2)]=some (.agg [y0,y1,y2,.bool false]):=by
 simp [buildA,zc81,pl81,fillA,splice,isN_agg,cells_agg,h0.1,h0.2.1,h1.1,h1.2.1,h2.1,h2.2.1]
theorem bd81_013 {y0 y1 y3:AVal} (h0:One y0) (h1:One y1) (h3:One y3):buildA prog 81 [(0,y0),(1,y1),(3,y3)]=some (.agg [y0,y1,.int .i64 0,y3]):=by
 simp [buildA,zc81,pl81,fillA,splice,isN_agg,cells_agg,h0.1,h0.2.1,h1.1,h1.2.1,h3.1,h3.2.1]
theorem bd101_01 {y0 y1:AVal} (h0:One y0) (h1:One y1):buildA prog 101 [(0,y0),(1,y1)]=some (.agg [y0,y1]):=by
 simp [buildA,zc101,pl101,fillA,splice,isN_agg,cells_agg,h0.1,h0.2.1,h1.1,h1.2.1]
theorem bd125_0123 {y0 y1 y2 y3:AVal} (h0:One y0) (h1:One y1) (h2:One y2) (h3:One y3):buildA prog 125 [(0,y0),(1,y1),(2,y2),(3,y3)]=some (.agg [y0,y1,y2,y3]):=by
 simp [buildA,zc125,pl125,fillA,splice,isN_agg,cells_agg,h0.1,h0.2.1,h1.1,h1.2.1,h2.1,h2.2.1,h3.1,h3.2.1]
theorem bd128_012 {y0 y1 y2:AVal} (h0:One y0) (h1:One y1) (h2:One y2):buildA prog 128 [(0,y0),(1,y1),(2,y2)]=some (.agg [y0,y1,y2]):=by
 simp [buildA,zc128,pl128,fillA,splice,isN_agg,cells_agg,h0.1,h0.2.1,h1.1,h1.2.1,h2.1,h2.2.1]
theorem bd138_0 {y0_0 y0_1 y0_2:AVal} :buildA prog 138 [(0,.agg [y0_0,y0_1,y0_2])]=some (.agg [y0_0,y0_1,y0_2,.int .i64 0]):=by
 simp [buildA,zc138,pl138,fillA,splice,isN_agg,cells_agg]
theorem bd141_0 {y0:AVal} (h0:One y0):buildA prog 141 [(0,y0)]=some (.agg [y0]):=by
 simp [buildA,zc141,pl141,fillA,splice,isN_agg,cells_agg,h0.1,h0.2.1]
theorem bd163_02 {y0_0 y0_1 y0_2 y0_3 y2:AVal} (h2:One y2):buildA prog 163 [(0,.agg [y0_0,y0_1,y0_2,y0_3]),(2,y2)]=some (.agg [y0_0,y0_1,y0_2,y0_3,.slice none 0 0,y2]):=by
 simp [buildA,zc163,pl163,fillA,splice,isN_agg,cells_agg,h2.1,h2.2.1]
theorem bd183_01 {y0 y1:AVal} (h0:One y0) (h1:One y1):buildA prog 183 [(0,y0),(1,y1)]=some (.agg [y0,y1]):=by
 simp [buildA,zc183,pl183,fillA,splice,isN_agg,cells_agg,h0.1,h0.2.1,h1.1,h1.2.1]
theorem eq56 {a0:Int} {a1:Int} {a2:Int} {a3:Bool} {b0:Int} {b1:Int} {b2:Int} {b3:Bool}:binA prog .eql 56 (.agg [.int .i64 a0,.int .i64 a1,.int .i64 a2,.bool a3]) (.agg [.int .i64 b0,.int .i64 b1,.int .i64 b2,.bool b3])=some (.bool (decide (a0=b0∧a1=b1∧a2=b2∧a3=b3))):=by
 have h1:prog.eqGuardType prog.depth 56=false:=by kernel_rfl
 have s54:prog.stoodInHeld 54=false:=by kernel_rfl
 have s56:prog.stoodInHeld 56=false:=by kernel_rfl
 simp [binA,eqDepth,eqT,partA,partQ,h1,s54,s56,underlying3,ty3,underlying4,ty4,underlying54,ty54,underlying56,ty56]
 by_cases e0:a0=b0<;>by_cases e1:a1=b1<;>by_cases e2:a2=b2<;>by_cases e3:a3=b3<;>simp [e0,e1,e2,e3]
theorem ne56 {a0:Int} {a1:Int} {a2:Int} {a3:Bool} {b0:Int} {b1:Int} {b2:Int} {b3:Bool}:binA prog .neq 56 (.agg [.int .i64 a0,.int .i64 a1,.int .i64 a2,.bool a3]) (.agg [.int .i64 b0,.int .i64 b1,.int .i64 b2,.bool b3])=some (.bool (decide (¬ (a0=b0∧a1=b1∧a2=b2∧a3=b3)))):=by
 have h:=eq56 (a0:=a0) (a1:=a1) (a2:=a2) (a3:=a3) (b0:=b0) (b1:=b1) (b2:=b2) (b3:=b3)
 simp only [binA,isShift] at h ⊢
 split at h
 ·cases h
 ·rename_i hg
  rw [if_neg hg]
  cases hq:eqT prog eqDepth 56 (.agg [.int .i64 a0,.int .i64 a1,.int .i64 a2,.bool a3]) (.agg [.int .i64 b0,.int .i64 b1,.int .i64 b2,.bool b3]) with
  | none=>rw [hq] at h;cases h
  | some r=>rw [hq] at h;simp only [Option.map_some,Option.some.injEq,AVal.bool.injEq] at h ⊢;rw [h];simp
theorem eq75 {a0:Int} {a1:Int} {a2:Int} {b0:Int} {b1:Int} {b2:Int}:binA prog .eql 75 (.agg [.int .i64 a0,.int .i64 a1,.int .i64 a2]) (.agg [.int .i64 b0,.int .i64 b1,.int .i64 b2])=some (.bool (decide (a0=b0∧a1=b1∧a2=b2))):=by
 have h1:prog.eqGuardType prog.depth 75=false:=by kernel_rfl
 have s75:prog.stoodInHeld 75=false:=by kernel_rfl
 simp [binA,eqDepth,eqT,partA,partQ,h1,s75,underlying3,ty3,underlying75,ty75]
 by_cases e0:a0=b0<;>by_cases e1:a1=b1<;>by_cases e2:a2=b2<;>simp [e0,e1,e2]
theorem ne75 {a0:Int} {a1:Int} {a2:Int} {b0:Int} {b1:Int} {b2:Int}:binA prog .neq 75 (.agg [.int .i64 a0,.int .i64 a1,.int .i64 a2]) (.agg [.int .i64 b0,.int .i64 b1,.int .i64 b2])=some (.bool (decide (¬ (a0=b0∧a1=b1∧a2=b2)))):=by
 have h:=eq75 (a0:=a0) (a1:=a1) (a2:=a2) (b0:=b0) (b1:=b1) (b2:=b2)
 simp only [binA,isShift] at h ⊢
 split at h
 ·cases h
 ·rename_i hg
  rw [if_neg hg]
  cases hq:eqT prog eqDepth 75 (.agg [.int .i64 a0,.int .i64 a1,.int .i64 a2]) (.agg [.int .i64 b0,.int .i64 b1,.int .i64 b2]) with
  | none=>rw [hq] at h;cases h
  | some r=>rw [hq] at h;simp only [Option.map_some,Option.some.injEq,AVal.bool.injEq] at h ⊢;rw [h];simp
theorem eq101 {a0:Int} {a1:Int} {b0:Int} {b1:Int}:binA prog .eql 101 (.agg [.int .i64 a0,.int .i64 a1]) (.agg [.int .i64 b0,.int .i64 b1])=some (.bool (decide (a0=b0∧a1=b1))):=by
 have h1:prog.eqGuardType prog.depth 101=false:=by kernel_rfl
 have s101:prog.stoodInHeld 101=false:=by kernel_rfl
 simp [binA,eqDepth,eqT,partA,partQ,h1,s101,underlying3,ty3,underlying101,ty101]
 by_cases e0:a0=b0<;>by_cases e1:a1=b1<;>simp [e0,e1]
theorem eq183 {a0:Int} {a1:Int} {b0:Int} {b1:Int}:binA prog .eql 183 (.agg [.int .i64 a0,.int .i64 a1]) (.agg [.int .i64 b0,.int .i64 b1])=some (.bool (decide (a0=b0∧a1=b1))):=by
 have h1:prog.eqGuardType prog.depth 183=false:=by kernel_rfl
 have s183:prog.stoodInHeld 183=false:=by kernel_rfl
 simp [binA,eqDepth,eqT,partA,partQ,h1,s183,underlying3,ty3,underlying183,ty183]
 by_cases e0:a0=b0<;>by_cases e1:a1=b1<;>simp [e0,e1]
theorem ne183 {a0:Int} {a1:Int} {b0:Int} {b1:Int}:binA prog .neq 183 (.agg [.int .i64 a0,.int .i64 a1]) (.agg [.int .i64 b0,.int .i64 b1])=some (.bool (decide (¬ (a0=b0∧a1=b1)))):=by
 have h:=eq183 (a0:=a0) (a1:=a1) (b0:=b0) (b1:=b1)
 simp only [binA,isShift] at h ⊢
 split at h
 ·cases h
 ·rename_i hg
  rw [if_neg hg]
  cases hq:eqT prog eqDepth 183 (.agg [.int .i64 a0,.int .i64 a1]) (.agg [.int .i64 b0,.int .i64 b1]) with
  | none=>rw [hq] at h;cases h
  | some r=>rw [hq] at h;simp only [Option.map_some,Option.some.injEq,AVal.bool.injEq] at h ⊢;rw [h];simp
end
attribute [go_sem] ty3 zc3 el3 st3 ty4 zc4 st4 ty22 ar22 el22 as22 st22 ty23 ar23 el23 as23 st23 ty25 zc25 fa25_0 fa25_1 fa25_2 fa25_3 st25 ty29 ar29 el29 st29 ty30 ar30 el30 st30 ty32 zc32 fa32_0 fa32_1 fa32_2 fa32_3 st32 ty36 zc36 ar36 el36 ln36 as36 st36 ar37 el37 ty54 zc54 fa54_0 fa54_1 ty56 zc56 fa56_0 fa56_1 fa56_2 st56 ty60 ar60 el60 as60 st60 ty66 ar66 el66 ty75 zc75 fa75_0 fa75_1 fa75_2 st75 ty81 zc81 fa81_0 fa81_1 fa81_2 fa81_3 st81 ar96 el96 ty101 zc101 fa101_1 st101 ar104 el104 ln104 ty106 ar107 el107 ar110 el110 ln110 ty113 ar113 el113 ln113 as113 ty121 zc121 st121 ty125 zc125 fa125_0 fa125_1 fa125_2 st125 ty126 zc126 fa126_0 fa126_1 fa126_2 st126 ty128 zc128 fa128_0 fa128_1 fa128_2 st128 ty131 ty134 zc134 st134 ty135 zc135 ar135 el135 ln135 as135 st135 ty138 zc138 fa138_0 fa138_1 st138 ty139 ty141 zc141 fa141_0 st141 ty143 zc143 ar143 ad143 ty148 zc148 fa148_0 fi148_0 fa148_1 fi148_1 st148 ty154 ar156 el156 ar159 zc160 ar160 ty161 ar161 el161 zc163 fa163_0 fa163_1 fa163_2 ar180 el180 ty183 zc183 fa183_0 fa183_1 ty185 ty187 mp197 bd25_ bd25_01 bd25_0123 bd25_013 bd32_01 bd54_01 bd56_012 bd75_012 bd75_02 bd81_012 bd81_013 bd101_01 bd125_0123 bd128_012 bd138_0 bd141_0 bd163_02 bd183_01 eq56 ne56 eq75 ne75 eq101 eq183 ne183
attribute [go_sem] results3 results4 results5 results6 results7 results8 results9 results10 results11 results12 results13 results14 results15 results16 results17 results18 results19 results20 results21 results22 results23 results24 results25 results26 results27 results28 results29 results30 results31 results32 results33 results34 results35 results36 results37 results38 results39 results40 results41 results42 results43 results44 results45 results46 results47 results48 results49 results50 results51 results52 results53 results54 results55 results56 results57 results58 results59 results60 results61 results62 results63 results64 results65 results66 results67 results68 results69 results70 results71 results72 results73 results74 results75 results76 results77 results78 results79 results80 results81 results82 results83 results84 results85 results86 results87 results88 results89 results90 results91 results92 results93 results94 results95 results96 results97 results98 results99 results100 results101 results102 results103 results104 results105 results106 results107 results108 results109 results110 results111 results112 results113 results114 results115 results116 results117 results118 results119 results120 results121 results122 results123 results124 results125 results126 results127 results128 results129 results130 results131 results132 results133 results134 results135 results136 results137 results138 results139 results140 results141 results142 results143 results144 results145 results146 results147 results148 results149 results150 results151 results152 results153 results154 results155 results156 results157 results158 results159 results160 results161 results162 results163 results164 results165 results166 results167 results168 results169 results170 results171 results172 results173 results174 results175 results176 results177 results178 results179 results180 results181 results182 results183 results184 results185 results186 results187 results188 results189 results190
end Go.AM.Fc
namespace Go.AM
def raw:FuncId→Bool:=fun f=>[60,24,13,131,31,23,21,22,118,32,46,38,14,116,117,52,45,39,74,84,85,87,80,88,92,65,66,67,76,78,79,103,113,104,140,95,86,57,115,135,136,137,161,16,17,18,19,20,28,35,36,37,43,48,50,51,55,63,70].contains f
end Go.AM
