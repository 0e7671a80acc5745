/-
  Ranges over functions whose values lie in memory.
-/
import Derived.Test.YteanoaejoddnbaaU9
import Derived.Test.YteanoaejoddnbaaProg
import Derived.Test.YteanoaejoddnbaaRows
import Derived.WalkKit
import Derived.ProofKit
import Derived.OpenShut
import Derived.JoinedCond
set_option linter.unusedSimpArgs false
set_option linter.unusedVariables false
namespace Go.AM
section
variable {P:Program} {raw:FuncId→Bool} {base:Nat}
def YieldsX (P:Program) (raw:FuncId→Bool) (base L:Nat) (g:AVal) (N:Nat) (X:Nat→List AVal→Heap→Prop) (pr:ABlk→Prop) (I:Nat→Heap→Prop):Prop :=
 ∀ (J:Nat→Heap→Prop) (S:Heap→Prop) (H0:Heap),L+1=H0.length→(∀ j H,J j H→I j H∧L+1≤H.length)→(∀ j H T,J j H→J j (H++T)) →
  (∀ j a H,j<N→X j a H→J j H→∃ b H',callL P raw base (.yld L) a H=some (.bool b,H')∧(∀ i x,L+1≤i→pr x→H[i]?=some x→H'[i]?=some x)∧H.length≤H'.length∧(b=true→J (j+1) H')∧(b=false→S H')) →
  J 0 H0→∃ v H',callL P raw base g [.yld L] H0=some (v,H')∧(J N H' ∨ S H')
theorem WP_rangeX {g:Operand} {ps:List Tmp} {assign body:Code} {fr:AFrame} {h:Heap} {Q:AExit→St→Prop} {f:FuncId} {a c:List AVal} (hg:ev fr g=.fn f a c) {N:Nat} {X:Nat→List AVal→Heap→Prop} {pr:ABlk→Prop} (I:Nat→Heap→Prop) (E:AExit→Heap→Prop)
  (hit:YieldsX P raw base h.length (.fn f a c) N X pr I) (hxs:∀ j a H,X j a H→a.length=ps.length) (happ:∀ j H T,I j H→I j (H++T)) (hset:∀ j H b,I j H→I j (H.set h.length b)) (hsetE:∀ e H b,E e H→E e (H.set h.length b))
  (h0:I 0 (h++[loopB fr ps assign body .ready none]))
  (hbody:∀ j a H B1 B2,j<N→X j a H→I j H→h.length+1≤H.length→H[h.length]?=some B1→WP P raw base assign ⟨putAll fr ps a,H⟩ (fun e s1=>e=.normal∧s1.h[h.length]?=some B1 ∧
   WP P raw base body ⟨s1.fr,s1.h.set h.length B2⟩ (fun e s2=>s2.h[h.length]?=some B2∧(∀ i x,h.length+1≤i→pr x→H[i]?=some x→s2.h[i]?=some x)∧H.length≤s2.h.length ∧
    ((e=.normal∧I (j+1) s2.h) ∨ (e ≠ .normal∧E e s2.h)))))
  (hQ:∀ H,I N H→Q .normal ⟨fr,H⟩) (hQE:∀ e H,e ≠ .normal→E e H→Q e ⟨fr,H⟩):WP P raw base (.rangeFunc g ps.toArray assign body) ⟨fr,h⟩ Q:=by
 obtain ⟨v,H',hc,hend⟩:=hit (fun j H=>I j H∧h.length+1≤H.length∧H[h.length]?=some (loopB fr ps assign body .ready none))
  (fun H=>∃ e,e ≠ .normal∧E e H∧H[h.length]?=some (loopB fr ps assign body .done (jumpOf e))) (h++[loopB fr ps assign body .ready none]) (by simp) (fun j H hJ=>⟨hJ.1,hJ.2.1⟩)
  (fun j H T hJ=>⟨happ j H T hJ.1,by simp;omega,get_app hJ.2.2⟩)
  (fun j a H hj hX hJ=>by
   obtain ⟨e,H2,hK,hcall⟩:=callL_yldW (K:=fun e H2=>H2[h.length]?=some (loopB fr ps assign body .busy none)∧(∀ i x,h.length+1≤i→pr x→H[i]?=some x→H2[i]?=some x)∧H.length≤H2.length∧((e=.normal∧I (j+1) H2) ∨ (e ≠ .normal∧E e H2)))
    hJ.2.2 (hxs j a H hX) (by
     obtain ⟨e1,s1,h1,rfl,h2,e2,s2,h3,h4⟩:=hbody j a H _ (loopB fr ps assign body .busy none) hj hX hJ.1 hJ.2.1 hJ.2.2
     exact ⟨.normal,s1,h1,rfl,h2,e2,s2,h3,h4.1,h4⟩)
   refine ⟨_,_,hcall,fun i x hi hp hx=>?_,by rw [List.length_set];exact hK.2.2.1,fun hb=>?_,fun hb=>?_⟩
   ·have:=hK.2.1 i x hi hp hx
    rw [get_set this,if_neg (by omega)]
   ·have he:e=.normal:=isNone_jump.1 hb
    subst he
    have hI2:I (j+1) H2:=by
     rcases hK.2.2.2 with h5|h5
     ·exact h5.2
     ·exact absurd rfl h5.1
    have hlt:=lt_of_get hK.1
    refine ⟨hset _ _ _ hI2,by simp;omega,?_⟩
    rw [get_set hK.1,if_pos rfl]
    rfl
   ·have he:e ≠ .normal:=fun h5=>by rw [isNone_jump.2 h5] at hb;cases hb
    have hE2:E e H2:=by
     rcases hK.2.2.2 with h5|h5
     ·exact absurd h5.1 he
     ·exact h5.2
    refine ⟨e,he,hsetE _ _ _ hE2,?_⟩
    rw [get_set hK.1,if_pos rfl,hb]
    rfl)
  ⟨h0,by simp,by simp⟩
 rcases hend with ⟨h1,_,h2⟩|⟨e,he,h1,h2⟩
 ·exact WP_rangeFunc hg hc h2 (by intro hh;cases hh) (hQ _ (hset _ _ _ h1))
 ·refine WP_rangeFunc hg hc h2 (by intro hh;cases hh) ?_
  have:=hQE e _ he (hsetE e _ (loopB fr ps assign body .exhausted (jumpOf e)) h1)
  cases e with
  | normal=>exact absurd rfl he
  | exit id=>exact this
  | ret=>exact this
end
end Go.AM
namespace Go.AM
section
variable {P:Program} {raw:FuncId→Bool} {base:Nat} {ops:Array Oper} {chk:Bool} {d:Option Tmp} {ty:TypeId} {pos:String} {af:Array Edge} {fr:AFrame} {h:Heap} {K:St→Prop}
theorem cap_slice {t e:TypeId} {z:Nat} {zs:List AVal} (ht:elS P t=some (e,z,zs)) {r:Option ARef} {m k:Nat}:capA P t (.slice r m k)=some (.atl k):=by
 simp [capA,ht]
theorem bin_room {t:TypeId} {a:Int} {b:Nat} (h:a≤(b:Int)):binA P .gtr t (.int .i64 a) (.atl b)=some (.bool false):=by simp [binA,h]
theorem callL_ovl {f:FuncId} {fn:Func} (hf:P.funcs[f]?=some fn) (hb:fn.body=none) (ho:OvlF P fn) {a b:ARef} {n ka m kb:Nat} (h1:a.id ≠ b.id) (h2:0<ka) (h3:0<kb) (h4:offOk h a=true) (h5:offOk h b=true) :
  callL P raw base (.fn f [] []) [.slice (some a) n ka,.slice (some b) m kb] h=some (.bool false,h):=by
 have e:ovlA P fn [.slice (some a) n ka,.slice (some b) m kb] h=some (.bool false,h):=by
  unfold ovlA
  simp only
  rw [if_pos ⟨ho,h1,h2,h3,h4,h5⟩]
 have hq:insQ fn [.slice (some a) n ka,.slice (some b) m kb]=false:=by unfold insQ;simp
 have hq2:srtQ fn [.slice (some a) n ka,.slice (some b) m kb]=false:=by unfold srtQ;simp
 have hbA:bodyA fn [.slice (some a) n ka,.slice (some b) m kb]=none:=by unfold bodyA;rw [if_neg (by rw [hq,hq2];simp)];exact hb
 have hx:extA P base f fn [.slice (some a) n ka,.slice (some b) m kb] h=some (.bool false,h):=by unfold extA;rw [if_neg (by rw [hq];simp),if_neg (by rw [hq2];simp)];exact e
 unfold callL callWith
 simp only [hf,hbA]
 exact hx
theorem offOk_of {a:ARef} {c:List AVal} {e:TypeId} {row:Bool} (hg:h[a.id]?=some ⟨.cells c e row false,a.ver⟩) (hl:a.off<c.length):offOk h a=true:=by
 simp [offOk,hg,hl]
theorem STEP_cap {t:TypeId} {ts:List TypeId} {x:Operand}:STEP P raw base ops chk ⟨d,.call ⟨.builtin .cap,[x].toArray,(t :: ts).toArray⟩,ty,pos,af,none⟩ ⟨fr,h⟩ K =
  bindv (capA P t (ev fr x)) (fun v=>K ⟨put fr d v,h⟩):=by
 rw [STEP_eff rfl]
 simp only [effA,List.map_cons,List.map_nil,builtinA]
 cases capA P t (ev fr x) with
 | none=>simp [bindp,bindv]
 | some v =>
  simp only [Option.map_some,bindp_some,bindv_some]
  cases chk<;>simp only [Bool.false_and,Bool.true_and,extQ_false,isD,extQ_same]
end
attribute [go_sem ↓] STEP_cap
attribute [go_sem] bin_room
end Go.AM
namespace Go.AM
def raw:FuncId→Bool:=fun f=>[19,23,26,25,30,31,32,36,37,39,41,44,45,46,49,53,59,62,64,65,66,67,68,70,72,73,75,77,82,83,87,89,94,95,96,102,103,105,106,109,112,114,117,126,133,136,140,152,154,155,156,134,161,162,191,120,164,187,189,190,57,132,197].contains f
end Go.AM
namespace Go.AM
open Go.Proofs.Try
section
variable {h A:Heap} {v:AVal} {l:List Int} {base n:Nat} {lit:Bool} {x:Int}
theorem lenI (hI:Ints h v l):lenOpA prog h 25 v=some (.int .i64 (l.length:Int)):=hI.len Fc.el25
theorem adrI {i:Int} (h0:0≤i) (hI:Ints h v l) (h1:i<l.length):indexAddrA prog 25 v (.int .i64 i)=some (elAddr v i.toNat):=hI.addr Fc.el25 Fc.ar25 h0 h1
theorem loadI {i:Nat} (hI:Ints h v l) (h1:i<l.length):loadP prog h 3 (elAddr v i)=some (.int .i64 (l.getD i 0)) :=
 hI.load Fc.ty3 (by rw [List.getD_eq_getElem?_getD,List.getElem?_eq_getElem h1];rfl)
theorem bslI (hl:lit=true):bsA prog lit h 25 1 [(0,.int .i64 x)]=some (.vals [.int .i64 x],h):=bs_lit hl Fc.el25
theorem bsrI (hl:lit=false):bsA prog lit h 25 1 [(0,.int .i64 x)]=some (.slice (some ⟨h.length,0,0⟩) 1 1,h++[rowB [x] 0]):=bs_row hl Fc.el25
theorem small_ints (hI:Ints h v l) (hl:l.length≤1048576):Small l:=⟨by omega,hI.1.2⟩
theorem ints_nil {H:Heap}:Ints H (.slice none 0 0) []:=⟨⟨by simp,by simp⟩,.inl ⟨rfl,rfl⟩⟩
theorem slice_row {k:Nat} (hn:n=A.length) (hk:k=l.length) (hs:Small l):Ints (A++[rowB l 0]) (.slice (some ⟨n,0,0⟩) k k) l:=by
 subst hn hk
 exact Ints.fresh_row hs (by simp [rowB]) (Nat.le_refl _)
end
attribute [go_sem] lenI adrI loadI bslI bsrI
theorem getD_mem {l:List Int} {i:Nat} (hi:i<l.length):l.getD i 0 ∈ l:=by
 rw [List.getD_eq_getElem?_getD,List.getElem?_eq_getElem hi];exact List.getElem_mem hi
theorem tmodN (a b:Nat):(a:Int).tmod b=((a % b:Nat):Int):=rfl
theorem remN {x:Int} {n:Nat} (h:0≤x) (hn:0<n):binA prog .rem 3 (.int .i64 x) (.int .i64 (n:Int))=some (.int .i64 ((x.toNat % n:Nat):Int)):=by
 obtain ⟨m,rfl⟩:=Int.eq_ofNat_of_zero_le h
 rw [bin_rem (by omega),tmodN]
 rfl
theorem neB {a b:Bool}:binA prog .neq 4 (.bool a) (.bool b)=some (.bool (decide (a ≠ b))):=by cases a<;>cases b<;>kernel_rfl
end Go.AM
namespace Go.AM
open Go.Proofs.Try Go.RowKit Go.ChangeShapes
theorem own:ownKnob Go.Proofs.Try.prog.godebug=none:=by kernel_rfl
theorem laid:laidOutB Go.Proofs.Try.prog=true:=by kernel_rfl
theorem calls_true {f:FuncId} {args:List AVal} {A:Array Value} {R:List Rw} {W:World} {h':Heap} (hR:∀ r ∈ R,r.ok W) (hargs:VRs (muR R) args A.toList) (hv:callL prog raw 0 (.fn f [] []) args (heapR R)=some (.bool true,h')) :
  Calls prog f A W fun e W'=>e=.returned (.bool true)∧Below W.heap.size W W':=by
 have h0:=callL_sound (raw:=raw) allOk (Nat.zero_le _) (hrelR (P:=prog) hR) hargs (by intro q;cases q) hv
 refine (callsIn_wide.1 h0).mono fun e W' ⟨X,he,μ',_,hX,_,hE,_⟩=>?_
 have:X=.bool true:=by cases hX;rfl
 subst this
 exact ⟨he,below_of_evo hE⟩
theorem bulk_slice {H:Type} {k:IntKind} {us vs:List Int}:Go.Proofs.Yteanoaejoddnbaa.Rows.uptoBulk (.slice (lits (H:=H) k us) (lits k vs))=us.length+vs.length+1:=by
 have h:∀ l:List Int,Go.Proofs.Yteanoaejoddnbaa.Rows.uptoBulkAll (lits (H:=H) k l)=l.length:=fun l=>by
  induction l with
  | nil=>rfl
  | cons x xs ih =>
   simp only [lits,List.map_cons,Go.Proofs.Yteanoaejoddnbaa.Rows.uptoBulkAll,Go.Proofs.Yteanoaejoddnbaa.Rows.uptoBulk,List.length_cons] at ih ⊢
   rw [ih];omega
 simp only [Go.Proofs.Yteanoaejoddnbaa.Rows.uptoBulk,h]
end Go.AM
namespace Go.AM
open Go.Proofs.Try Go.RowKit Go.ChangeShapes Go.WideShapes Go.ChangeAt
open Go.Proofs.Yteanoaejoddnbaa (Rows.uptoSmall Rows.uptoBulkAll Rows.uptoBulk)
set_option maxRecDepth 100000
structure SlA (W:World) (k:IntKind) (V:Value) (r:Rw) (zs:List Int) (len cap:Nat):Prop where
 ok:r.cs=[] ∨ r.ok W
 cs:r.cs=zs.map (AVal.int k)
 zl:zs.length=cap
 le:len≤cap
 wf:∀ z ∈ zs,(Lit.int k z).wf=true
 rd:∀ (i:Nat) (μ:Mu),(0<cap→μ.loc i 0=some ⟨r.blk,r.off,r.cs.length,0⟩)→∃ v,VR μ v V∧((v=.slice none 0 0∧cap=0) ∨ (v=.emp∧cap=0) ∨ (v=.slice (some ⟨i,0,0⟩) len cap∧0<cap))
theorem SlA.add {W:World} {k:IntKind} {V:Value} {r:Rw} {zs:List Int} {len cap:Nat} (h:SlA W k V r zs len cap) {R:List Rw} (hR:∀ x ∈ R,x.ok W) :
  ∃ R':List Rw,(∀ x ∈ R',x.ok W)∧(∀ (j:Nat) (x:Rw),R[j]?=some x→R'[j]?=some x)∧(0<cap→R'[R.length]?=some r):=by
 rcases h.ok with h1|h1
 ·refine ⟨R,hR,fun _ _ h=>h,fun hc=>?_⟩
  have:=congrArg List.length (h.cs.symm.trans h1)
  simp only [List.length_map,List.length_nil] at this
  have:=h.zl
  omega
 ·refine ⟨R++[r],fun x hx=>?_,fun j x hj=>?_,fun _=>by simp⟩
  ·rcases List.mem_append.1 hx with h2|h2
   ·exact hR x h2
   ·rw [List.mem_singleton] at h2;subst h2;exact h1
  ·rw [List.getElem?_append_left (List.getElem?_eq_some_iff.1 hj).1];exact hj
theorem open_row {H:Type} {enc:TypeId × Value→H} {W:World} {t e:TypeId} {k:IntKind} {n:Nat} {V:Value} {x:DataW H × List MemPlace} (ht:prog.underlying t=some (.slice e)) (he:prog.underlying e=some (.int k)) (hc:prog.cellsOf e=1)
  (h:DataW.trod enc prog W 0 (fun _=>true) true n t [V]=some x):∃ (r:Rw) (zs:List Int) (len cap:Nat),SlA W k V r zs len cap∧cap≤Rows.uptoBulk x.1:=by
 obtain ⟨r,zs,len,cap,a1,a2,a3,a4,a5,a6,a7⟩:=arg_slice ht he hc h
 refine ⟨r,zs,len,cap,⟨a1,a2,a3,a4,a5,a7⟩,?_⟩
 rcases a6 with e6|e6
 ·by_cases hc0:cap=0
  ·omega
  ·exfalso
   obtain ⟨v,hv,h3⟩:=a7 0 (muR [r]) (fun _=>by rw [muR_loc (r:=r) rfl])
   rcases h3 with ⟨_,h4⟩|⟨_,h4⟩|⟨h4,_⟩
   ·exact hc0 h4
   ·exact hc0 h4
   ·subst h4
    cases hv with
    | slice r' L n' kcap C h5 =>
     have hx:=h
     rcases Go.ChangeShapes.open_ints ht he hc hx with ⟨h6,_⟩|⟨_,_,_,_,_,_,_,_,_,h6,_⟩
     ·simp at h6
     ·rw [h6] at e6;cases e6
    | slice0=>omega
 ·rw [e6,bulk_slice]
  simp only [List.length_take,List.length_drop]
  omega
end Go.AM
namespace Go.AM
open Go.Proofs.Try Go.RowKit Go.ChangeShapes Go.WideShapes Go.ChangeAt
open Go.Proofs.Yteanoaejoddnbaa (Rows.uptoSmall Rows.uptoBulkAll Rows.uptoBulk)
set_option maxRecDepth 100000
theorem SlA.bytes {W:World} {V:Value} {r:Rw} {zs:List Int} {len cap i:Nat} {R:List Rw} (h:SlA W .u8 V r zs len cap) (hr:0<cap→R[i]?=some r) (hb:cap<2 ^ 60) :
  ∃ v,VR (muR R) v V∧Bytes (heapR R) v (zs.take len):=by
 obtain ⟨v,h1,hv⟩:=h.rd i (muR R) (fun hc=>muR_loc (hr hc))
 have hz:=h.zl
 have hl:=h.le
 refine ⟨v,h1,⟨by simp;omega,fun x hx=>?_⟩,?_⟩
 ·have:=h.wf x (List.mem_of_mem_take hx)
  simp [Lit.wf,IntKind.min,IntKind.max,IntKind.signed,IntKind.bits] at this
  omega
 ·rcases hv with ⟨rfl,h0⟩|⟨rfl,h0⟩|⟨rfl,h0⟩
  ·exact .inl ⟨rfl,by simp;exact .inr (List.eq_nil_of_length_eq_zero (by omega))⟩
  ·exact .inr (.inl ⟨rfl,by simp;exact .inr (List.eq_nil_of_length_eq_zero (by omega))⟩)
  ·have hlen:(zs.take len).length=len:=by rw [List.length_take];omega
   refine .inr (.inr ⟨⟨i,0,0⟩,cap,r.cs,3,false,true,by rw [hlen],heapR_get (hr h0),?_,?_,by rw [hlen];exact hl⟩)
   ·rw [hlen,h.cs,List.drop_zero,List.map_take]
   ·rw [hlen,h.cs];simp;omega
theorem openByt {H:Type} {enc:TypeId × Value→H} {W:World} {base:Nat} {V:Value} {d:DataW H} {p:List MemPlace} (hval:Value.okWide prog W .any base 22 V) (h:DataW.Trod enc prog W 0 (fun _=>true) true 22 V d p) :
  ∃ (r:Rw) (zs:List Int) (len cap:Nat),SlA W .u8 V r zs len cap∧cap≤Rows.uptoBulk d:=by
 obtain ⟨a0,n,k,rfl⟩:=okWide_slice underlying22 hval
 obtain ⟨fuel,hf⟩:=h
 exact open_row underlying22 underlying5 (by kernel_rfl) hf
end Go.AM
