/-
  The builtin cap, the library's slices.overlaps.
-/
import Derived.Test.YteanoaejoddnbaaGreatU9
import Derived.Test.YteanoaejoddnbaaGreatProg
import Derived.Test.YteanoaejoddnbaaGreatRows
import Derived.WalkKit
import Derived.ProofKit
import Derived.OpenShut
import Derived.JoinedCond
set_option linter.unusedSimpArgs false
set_option linter.unusedVariables false
namespace Go.AM
section
variable {P:Program} {raw:FuncId→Bool} {base:Nat} {ops:Array Oper} {chk:Bool} {d:Option Tmp} {ty:TypeId} {pos:String} {af:Array Edge} {fr:AFrame} {h:Heap} {K:St→Prop}
theorem cap_slice {t e:TypeId} {z:Nat} {zs:List AVal} (ht:elS P t=some (e,z,zs)) {r:Option ARef} {m k:Nat}:capA P t (.slice r m k)=some (.atl k):=by
 simp [capA,ht]
theorem bin_room {t:TypeId} {a:Int} {b:Nat} (h:a≤(b:Int)):binA P .gtr t (.int .i64 a) (.atl b)=some (.bool false):=by simp [binA,h]
theorem callL_ovl {f:FuncId} {fn:Func} (hf:P.funcs[f]?=some fn) (hb:fn.body=none) (ho:OvlF P fn) {a b:ARef} {n ka m kb:Nat} (h1:a.id ≠ b.id) (h2:0<ka) (h3:0<kb) (h4:offOk h a=true) (h5:offOk h b=true) :
  callL P raw base (.fn f [] []) [.slice (some a) n ka,.slice (some b) m kb] h=some (.bool false,h):=by
 have e:ovlA P fn [.slice (some a) n ka,.slice (some b) m kb] h=some (.bool false,h):=by
  unfold ovlA
  simp only
  rw [if_pos ⟨ho,h1,h2,h3,h4,h5⟩]
 have hq:insQ fn [.slice (some a) n ka,.slice (some b) m kb]=false:=by unfold insQ;simp
 have hq2:srtQ fn [.slice (some a) n ka,.slice (some b) m kb]=false:=by unfold srtQ;simp
 have hbA:bodyA fn [.slice (some a) n ka,.slice (some b) m kb]=none:=by unfold bodyA;rw [if_neg (by rw [hq,hq2];simp)];exact hb
 have hx:extA P base f fn [.slice (some a) n ka,.slice (some b) m kb] h=some (.bool false,h):=by unfold extA;rw [if_neg (by rw [hq];simp),if_neg (by rw [hq2];simp)];exact e
 unfold callL callWith
 simp only [hf,hbA]
 exact hx
theorem offOk_of {a:ARef} {c:List AVal} {e:TypeId} {row:Bool} (hg:h[a.id]?=some ⟨.cells c e row false,a.ver⟩) (hl:a.off<c.length):offOk h a=true:=by
 simp [offOk,hg,hl]
theorem STEP_cap {t:TypeId} {ts:List TypeId} {x:Operand}:STEP P raw base ops chk ⟨d,.call ⟨.builtin .cap,[x].toArray,(t :: ts).toArray⟩,ty,pos,af,none⟩ ⟨fr,h⟩ K =
  bindv (capA P t (ev fr x)) (fun v=>K ⟨put fr d v,h⟩):=by
 rw [STEP_eff rfl]
 simp only [effA,List.map_cons,List.map_nil,builtinA]
 cases capA P t (ev fr x) with
 | none=>simp [bindp,bindv]
 | some v =>
  simp only [Option.map_some,bindp_some,bindv_some]
  cases chk<;>simp only [Bool.false_and,Bool.true_and,extQ_false,isD,extQ_same]
end
attribute [go_sem ↓] STEP_cap
attribute [go_sem] bin_room
end Go.AM
namespace Go.AM
def raw:FuncId→Bool:=fun f=>[37,39,49,50,30,59,60,10,63,56,54,11,77,79,74,12,75,7,8,31,32,34,36,24,29,4,96,6,101,43,105,102,44,100,45,86,112,27,83,81,91,125,126,22,93,94,123,66,107,119,121,122,55,115].contains f
end Go.AM
namespace Go.AM
open Go.Proofs.Tryz
section
variable {h A:Heap} {v:AVal} {l:List Int} {base n:Nat} {lit:Bool} {x:Int}
theorem lenI (hI:Ints h v l):lenOpA prog h 22 v=some (.int .i64 (l.length:Int)):=hI.len Fc.el22
theorem adrI {i:Int} (h0:0≤i) (hI:Ints h v l) (h1:i<l.length):indexAddrA prog 22 v (.int .i64 i)=some (elAddr v i.toNat):=hI.addr Fc.el22 Fc.ar22 h0 h1
theorem loadI {i:Nat} (hI:Ints h v l) (h1:i<l.length):loadP prog h 3 (elAddr v i)=some (.int .i64 (l.getD i 0)) :=
 hI.load Fc.ty3 (by rw [List.getD_eq_getElem?_getD,List.getElem?_eq_getElem h1];rfl)
theorem bslI (hl:lit=true):bsA prog lit h 22 1 [(0,.int .i64 x)]=some (.vals [.int .i64 x],h):=bs_lit hl Fc.el22
theorem bsrI (hl:lit=false):bsA prog lit h 22 1 [(0,.int .i64 x)]=some (.slice (some ⟨h.length,0,0⟩) 1 1,h++[rowB [x] 0]):=bs_row hl Fc.el22
theorem small_ints (hI:Ints h v l) (hl:l.length≤1048576):Small l:=⟨by omega,hI.1.2⟩
theorem ints_nil {H:Heap}:Ints H (.slice none 0 0) []:=⟨⟨by simp,by simp⟩,.inl ⟨rfl,rfl⟩⟩
theorem slice_row {k:Nat} (hn:n=A.length) (hk:k=l.length) (hs:Small l):Ints (A++[rowB l 0]) (.slice (some ⟨n,0,0⟩) k k) l:=by
 subst hn hk
 exact Ints.fresh_row hs (by simp [rowB]) (Nat.le_refl _)
end
attribute [go_sem] lenI adrI loadI bslI bsrI
theorem extQ_ext {h H:Heap} {A:Prop} (e:Ext h H):extQ true h H A=A:=by
 simp only [extQ,true_imp_iff,and_iff_right_iff_imp,eq_iff_iff]
 exact fun _=>e
attribute [go_sem] extQ_ext
theorem getD_mem {l:List Int} {i:Nat} (hi:i<l.length):l.getD i 0 ∈ l:=by
 rw [List.getD_eq_getElem?_getD,List.getElem?_eq_getElem hi];exact List.getElem_mem hi
theorem tmodN (a b:Nat):(a:Int).tmod b=((a % b:Nat):Int):=rfl
theorem remN {x:Int} {n:Nat} (h:0≤x) (hn:0<n):binA prog .rem 3 (.int .i64 x) (.int .i64 (n:Int))=some (.int .i64 ((x.toNat % n:Nat):Int)):=by
 obtain ⟨m,rfl⟩:=Int.eq_ofNat_of_zero_le h
 rw [bin_rem (by omega),tmodN]
 rfl
theorem eqB {a b:Bool}:binA prog .eql 4 (.bool a) (.bool b)=some (.bool (decide (a=b))):=by cases a<;>cases b<;>kernel_rfl
theorem neB {a b:Bool}:binA prog .neq 4 (.bool a) (.bool b)=some (.bool (decide (a ≠ b))):=by cases a<;>cases b<;>kernel_rfl
end Go.AM
namespace Go.AM
open Go.Proofs.Tryz Go.RowKit Go.ChangeShapes
theorem own:ownKnob Go.Proofs.Tryz.prog.godebug=none:=by kernel_rfl
theorem laid:laidOutB Go.Proofs.Tryz.prog=true:=by kernel_rfl
theorem calls_true {f:FuncId} {args:List AVal} {A:Array Value} {R:List Rw} {W:World} {h':Heap} (hR:∀ r ∈ R,r.ok W) (hargs:VRs (muR R) args A.toList) (hv:callL prog raw 0 (.fn f [] []) args (heapR R)=some (.bool true,h')) :
  Calls prog f A W fun e W'=>e=.returned (.bool true)∧Below W.heap.size W W':=by
 have h0:=callL_sound (raw:=raw) allOk (Nat.zero_le _) (hrelR (P:=prog) hR) hargs (by intro q;cases q) hv
 refine (callsIn_wide.1 h0).mono fun e W' ⟨X,he,μ',_,hX,_,hE,_⟩=>?_
 have:X=.bool true:=by cases hX;rfl
 subst this
 exact ⟨he,below_of_evo hE⟩
end Go.AM
namespace Go.AM
open Go.Proofs.Tryz Go.RowKit Go.ChangeShapes Go.WideShapes Go.ChangeAt
open Go.Proofs.YteanoaejoddnbaaGreat (Rows.uptoSmall Rows.uptoBulkAll Rows.uptoBulk)
set_option maxRecDepth 100000
structure SlA (W:World) (k:IntKind) (V:Value) (r:Rw) (zs:List Int) (len cap:Nat):Prop where
 ok:r.cs=[] ∨ r.ok W
 cs:r.cs=zs.map (AVal.int k)
 zl:zs.length=cap
 le:len≤cap
 wf:∀ z ∈ zs,(Lit.int k z).wf=true
 rd:∀ (i:Nat) (μ:Mu),(0<cap→μ.loc i 0=some ⟨r.blk,r.off,r.cs.length,0⟩)→∃ v,VR μ v V∧((v=.slice none 0 0∧cap=0) ∨ (v=.emp∧cap=0) ∨ (v=.slice (some ⟨i,0,0⟩) len cap∧0<cap))
end Go.AM
