/-
  What all texts of a seat use.
-/
import Derived.Test.YteanoaejoddnbaaU9
import Derived.Test.YteanoaejoddnbaaRows
import Derived.WalkKit
import Derived.ProofKit
import Derived.OpenShut
import Derived.JoinedCond
set_option linter.unusedSimpArgs false
set_option linter.unusedVariables false
namespace Go.AM
open Go.Proofs.Try
section
variable {h A:Heap} {v:AVal} {l:List Int} {base n:Nat} {lit:Bool} {x:Int}
theorem lenI (hI:Ints h v l):lenOpA prog h 25 v=some (.int .i64 (l.length:Int)):=hI.len Fc.el25
theorem adrI {i:Int} (h0:0≤i) (hI:Ints h v l) (h1:i<l.length):indexAddrA prog 25 v (.int .i64 i)=some (elAddr v i.toNat):=hI.addr Fc.el25 Fc.ar25 h0 h1
theorem loadI {i:Nat} (hI:Ints h v l) (h1:i<l.length):loadP prog h 3 (elAddr v i)=some (.int .i64 (l.getD i 0)) :=
 hI.load Fc.ty3 (by rw [List.getD_eq_getElem?_getD,List.getElem?_eq_getElem h1];rfl)
theorem bslI (hl:lit=true):bsA prog lit h 25 1 [(0,.int .i64 x)]=some (.vals [.int .i64 x],h):=bs_lit hl Fc.el25
theorem bsrI (hl:lit=false):bsA prog lit h 25 1 [(0,.int .i64 x)]=some (.slice (some ⟨h.length,0,0⟩) 1 1,h++[rowB [x] 0]):=bs_row hl Fc.el25
theorem small_ints (hI:Ints h v l) (hl:l.length≤1048576):Small l:=⟨by omega,hI.1.2⟩
theorem ints_nil {H:Heap}:Ints H (.slice none 0 0) []:=⟨⟨by simp,by simp⟩,.inl ⟨rfl,rfl⟩⟩
theorem slice_row {k:Nat} (hn:n=A.length) (hk:k=l.length) (hs:Small l):Ints (A++[rowB l 0]) (.slice (some ⟨n,0,0⟩) k k) l:=by
 subst hn hk
 exact Ints.fresh_row hs (by simp [rowB]) (Nat.le_refl _)
end
attribute [go_sem] lenI adrI loadI bslI bsrI
theorem getD_mem {l:List Int} {i:Nat} (hi:i<l.length):l.getD i 0 ∈ l:=by
 rw [List.getD_eq_getElem?_getD,List.getElem?_eq_getElem hi];exact List.getElem_mem hi
theorem tmodN (a b:Nat):(a:Int).tmod b=((a % b:Nat):Int):=rfl
theorem remN {x:Int} {n:Nat} (h:0≤x) (hn:0<n):binA prog .rem 3 (.int .i64 x) (.int .i64 (n:Int))=some (.int .i64 ((x.toNat % n:Nat):Int)):=by
 obtain ⟨m,rfl⟩:=Int.eq_ofNat_of_zero_le h
 rw [bin_rem (by omega),tmodN]
 rfl
end Go.AM
namespace Go.AM
open Go.Proofs.Try Go.RowKit Go.ChangeShapes
theorem own:ownKnob Go.Proofs.Try.prog.godebug=none:=by kernel_rfl
theorem laid:laidOutB Go.Proofs.Try.prog=true:=by kernel_rfl
theorem calls_true {f:FuncId} {args:List AVal} {A:Array Value} {R:List Rw} {W:World} {h':Heap} (hR:∀ r ∈ R,r.ok W) (hargs:VRs (muR R) args A.toList) (hv:callL prog raw 0 (.fn f [] []) args (heapR R)=some (.bool true,h')) :
  Calls prog f A W fun e W'=>e=.returned (.bool true)∧Below W.heap.size W W':=by
 have h0:=callL_sound (raw:=raw) allOk (Nat.zero_le _) (hrelR (P:=prog) hR) hargs (by intro q;cases q) hv
 refine (callsIn_wide.1 h0).mono fun e W' ⟨X,he,μ',_,hX,_,hE,_⟩=>?_
 have:X=.bool true:=by cases hX;rfl
 subst this
 exact ⟨he,below_of_evo hE⟩
theorem bulk_slice {H:Type} {k:IntKind} {us vs:List Int}:Go.Proofs.Yteanoaejoddnbaa.Rows.uptoBulk (.slice (lits (H:=H) k us) (lits k vs))=us.length+vs.length+1:=by
 have h:∀ l:List Int,Go.Proofs.Yteanoaejoddnbaa.Rows.uptoBulkAll (lits (H:=H) k l)=l.length:=fun l=>by
  induction l with
  | nil=>rfl
  | cons x xs ih =>
   simp only [lits,List.map_cons,Go.Proofs.Yteanoaejoddnbaa.Rows.uptoBulkAll,Go.Proofs.Yteanoaejoddnbaa.Rows.uptoBulk,List.length_cons] at ih ⊢
   rw [ih];omega
 simp only [Go.Proofs.Yteanoaejoddnbaa.Rows.uptoBulk,h]
end Go.AM
namespace Go.AM
open Go.Proofs.Try Go.RowKit Go.ChangeShapes Go.WideShapes Go.ChangeAt
open Go.Proofs.Yteanoaejoddnbaa (Rows.uptoSmall Rows.uptoBulkAll Rows.uptoBulk)
set_option maxRecDepth 100000
structure SlA (W:World) (k:IntKind) (V:Value) (r:Rw) (zs:List Int) (len cap:Nat):Prop where
 ok:r.cs=[] ∨ r.ok W
 cs:r.cs=zs.map (AVal.int k)
 zl:zs.length=cap
 le:len≤cap
 wf:∀ z ∈ zs,(Lit.int k z).wf=true
 rd:∀ (i:Nat) (μ:Mu),(0<cap→μ.loc i 0=some ⟨r.blk,r.off,r.cs.length,0⟩)→∃ v,VR μ v V∧((v=.slice none 0 0∧cap=0) ∨ (v=.emp∧cap=0) ∨ (v=.slice (some ⟨i,0,0⟩) len cap∧0<cap))
theorem SlA.add {W:World} {k:IntKind} {V:Value} {r:Rw} {zs:List Int} {len cap:Nat} (h:SlA W k V r zs len cap) {R:List Rw} (hR:∀ x ∈ R,x.ok W) :
  ∃ R':List Rw,(∀ x ∈ R',x.ok W)∧(∀ (j:Nat) (x:Rw),R[j]?=some x→R'[j]?=some x)∧(0<cap→R'[R.length]?=some r):=by
 rcases h.ok with h1|h1
 ·refine ⟨R,hR,fun _ _ h=>h,fun hc=>?_⟩
  have:=congrArg List.length (h.cs.symm.trans h1)
  simp only [List.length_map,List.length_nil] at this
  have:=h.zl
  omega
 ·refine ⟨R++[r],fun x hx=>?_,fun j x hj=>?_,fun _=>by simp⟩
  ·rcases List.mem_append.1 hx with h2|h2
   ·exact hR x h2
   ·rw [List.mem_singleton] at h2;subst h2;exact h1
  ·rw [List.getElem?_append_left (List.getElem?_eq_some_iff.1 hj).1];exact hj
theorem open_row {H:Type} {enc:TypeId × Value→H} {W:World} {t e:TypeId} {k:IntKind} {n:Nat} {V:Value} {x:DataW H × List MemPlace} (ht:prog.underlying t=some (.slice e)) (he:prog.underlying e=some (.int k)) (hc:prog.cellsOf e=1)
  (h:DataW.trod enc prog W 0 (fun _=>true) true n t [V]=some x):∃ (r:Rw) (zs:List Int) (len cap:Nat),SlA W k V r zs len cap∧cap≤Rows.uptoBulk x.1:=by
 obtain ⟨r,zs,len,cap,a1,a2,a3,a4,a5,a6,a7⟩:=arg_slice ht he hc h
 refine ⟨r,zs,len,cap,⟨a1,a2,a3,a4,a5,a7⟩,?_⟩
 rcases a6 with e6|e6
 ·by_cases hc0:cap=0
  ·omega
  ·exfalso
   obtain ⟨v,hv,h3⟩:=a7 0 (muR [r]) (fun _=>by rw [muR_loc (r:=r) rfl])
   rcases h3 with ⟨_,h4⟩|⟨_,h4⟩|⟨h4,_⟩
   ·exact hc0 h4
   ·exact hc0 h4
   ·subst h4
    cases hv with
    | slice r' L n' kcap C h5 =>
     have hx:=h
     rcases Go.ChangeShapes.open_ints ht he hc hx with ⟨h6,_⟩|⟨_,_,_,_,_,_,_,_,_,h6,_⟩
     ·simp at h6
     ·rw [h6] at e6;cases e6
    | slice0=>omega
 ·rw [e6,bulk_slice]
  simp only [List.length_take,List.length_drop]
  omega
end Go.AM
namespace Go.AM
open Go.Proofs.Try Go.RowKit Go.ChangeShapes Go.WideShapes Go.ChangeAt
open Go.Proofs.Yteanoaejoddnbaa (Rows.uptoSmall Rows.uptoBulkAll Rows.uptoBulk)
set_option maxRecDepth 100000
theorem SlA.bytes {W:World} {V:Value} {r:Rw} {zs:List Int} {len cap i:Nat} {R:List Rw} (h:SlA W .u8 V r zs len cap) (hr:0<cap→R[i]?=some r) (hb:cap<2 ^ 60) :
  ∃ v,VR (muR R) v V∧Bytes (heapR R) v (zs.take len):=by
 obtain ⟨v,h1,hv⟩:=h.rd i (muR R) (fun hc=>muR_loc (hr hc))
 have hz:=h.zl
 have hl:=h.le
 refine ⟨v,h1,⟨by simp;omega,fun x hx=>?_⟩,?_⟩
 ·have:=h.wf x (List.mem_of_mem_take hx)
  simp [Lit.wf,IntKind.min,IntKind.max,IntKind.signed,IntKind.bits] at this
  omega
 ·rcases hv with ⟨rfl,h0⟩|⟨rfl,h0⟩|⟨rfl,h0⟩
  ·exact .inl ⟨rfl,by simp;exact .inr (List.eq_nil_of_length_eq_zero (by omega))⟩
  ·exact .inr (.inl ⟨rfl,by simp;exact .inr (List.eq_nil_of_length_eq_zero (by omega))⟩)
  ·have hlen:(zs.take len).length=len:=by rw [List.length_take];omega
   refine .inr (.inr ⟨⟨i,0,0⟩,cap,r.cs,3,false,true,by rw [hlen],heapR_get (hr h0),?_,?_,by rw [hlen];exact hl⟩)
   ·rw [hlen,h.cs,List.drop_zero,List.map_take]
   ·rw [hlen,h.cs];simp;omega
theorem openByt {H:Type} {enc:TypeId × Value→H} {W:World} {base:Nat} {V:Value} {d:DataW H} {p:List MemPlace} (hval:Value.okWide prog W .any base 22 V) (h:DataW.Trod enc prog W 0 (fun _=>true) true 22 V d p) :
  ∃ (r:Rw) (zs:List Int) (len cap:Nat),SlA W .u8 V r zs len cap∧cap≤Rows.uptoBulk d:=by
 obtain ⟨a0,n,k,rfl⟩:=okWide_slice underlying22 hval
 obtain ⟨fuel,hf⟩:=h
 exact open_row underlying22 underlying5 (by kernel_rfl) hf
end Go.AM
