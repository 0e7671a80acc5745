/-
  What is found of a chain with any rows; rings and gaps that are returned.
-/
import Derived.Test.YteanoaejoddnbaaU18
import Derived.Test.YteanoaejoddnbaaU0
import Derived.Shelf.Spec.SlicesInsert
import Derived.Shelf.Spec.SlicesInsertGrow
import Derived.Test.YteanoaejoddnbaaU14
import Derived.Test.YteanoaejoddnbaaU12
set_option linter.unusedSimpArgs false
set_option linter.unusedVariables false
namespace Go.AM
open Go.Proofs.Try
attribute [-go_sem] put_ne put_same
attribute [local go_sem ↓] put_if
end Go.AM
namespace Go.AM
open Go.Proofs.Try
attribute [-go_sem] put_ne put_same
attribute [local go_sem ↓] put_if
structure Fnd (h K:Heap) (b:Nat) (v1:AVal) (l1:List Int) (T:Int) (C o:List Int) (cv ov:AVal) (kq:Nat) (rw':AVal) (Ri:List Rw3) (i:Nat):Prop where
 fq:K[h.length+1]?=some (spB v1 l1 kq)
 fk:kq≤10 * i
 ext:Ext h K
 fb:h.length+2≤b∧b<K.length
 fg:K[b]?=some (lacB T cv rw')
 oC:OwnE encI 3 (h.length+2) K cv C
 oO:OwnE encI 3 (h.length+2) K ov o
 oR:OwnE encR 70 (h.length+2) K rw' Ri
 ok:LacOk ⟨T,C,Ri⟩
 rl:Ri.length≤8+i
 first:i=0→o ∈ fnd ⟨T,C,Ri⟩
end Go.AM
namespace Go.AM
open Go.Shelf Go.Lib Go.Proofs
section
variable {w:World} {b:Nat} {T:TypeId} {fz:Nat × Nat}
theorem setCell_heap {C:Array Value} (hb:w.heap[b]?=some (.cells C T fz)) (o:Nat) (v:Value) :
  (w.setCell ⟨b,o,none⟩ v).heap[b]?=some (.cells (C.setIfInBounds o v) T fz)∧(∀ k,k ≠ b→(w.setCell ⟨b,o,none⟩ v).heap[k]?=w.heap[k]?):=by
 unfold World.setCell
 constructor
 ·simp only [Array.getElem?_modify,if_true,hb,Option.map_some];simp
 ·intro k hk
  simp only [Array.getElem?_modify]
  rw [if_neg (fun e=>hk e.symm)]
theorem setCells_heap:∀ (vs:List Value) (o:Nat) (w:World) (C:Array Value),w.heap[b]?=some (.cells C T fz)→o+vs.length≤C.size →
  ∃ C',(w.setCells b o vs).heap[b]?=some (.cells C' T fz)∧C'.size=C.size∧(∀ j,C'[j]?=if o≤j∧j<o+vs.length then vs[j-o]? else C[j]?)∧(∀ k,k ≠ b→(w.setCells b o vs).heap[k]?=w.heap[k]?)∧(w.setCells b o vs).heap.size=w.heap.size∧(w.setCells b o vs).os=w.os∧(w.setCells b o vs).tape=w.tape∧(w.setCells b o vs).output=w.output
 | [],o,w,C,hb,_=>⟨C,hb,rfl,fun j=>by rw [if_neg (by simp only [List.length_nil];omega)],fun _ _=>rfl,rfl,rfl,rfl,rfl⟩
 | v :: vs,o,w,C,hb,hl=>by
  rw [List.length_cons] at hl
  obtain ⟨h1,h2⟩:=setCell_heap hb o v
  obtain ⟨C',g1,g2,g3,g4,g5,g6,g7,g8⟩:=setCells_heap vs (o+1) (w.setCell ⟨b,o,none⟩ v) (C.setIfInBounds o v) h1 (by rw [Array.size_setIfInBounds];omega)
  refine ⟨C',g1,by rw [g2,Array.size_setIfInBounds],fun j=>?_,fun k hk=>(g4 k hk).trans (h2 k hk),by rw [show w.setCells b o (v :: vs)=(w.setCell ⟨b,o,none⟩ v).setCells b (o+1) vs from rfl,g5];simp,g6,g7,g8⟩
  rw [g3 j,List.length_cons]
  by_cases c:j=o
  ·subst c
   rw [if_neg (by omega),if_pos (by omega),Nat.sub_self,List.getElem?_cons_zero,Array.getElem?_setIfInBounds,if_pos rfl,if_pos (by omega)]
  ·by_cases d:o+1≤j∧j<o+1+vs.length
   ·rw [if_pos d,if_pos (by omega),show j-o=(j-(o+1))+1 by omega,List.getElem?_cons_succ]
   ·rw [if_neg d,if_neg (by omega),Array.getElem?_setIfInBounds,if_neg (fun e=>c e.symm)]
end
theorem insF_of {P:Program} {ρ:Ren} (L:Lays2.n21 P ρ):InsF P (ρ.f 21) (ρ.t 3):=by
 refine ⟨?_,?_⟩
 ·have:=L.i3
  cases h:P.info? (ρ.t 3) with
  | none=>rw [h] at this;cases this
  | some q =>
   rw [h] at this
   simp only [Option.map_some,Option.some.injEq,Prod.mk.injEq] at this
   exact ⟨q,rfl,this.2.1⟩
 ·intro b off n c i vb voff vc C VC T TV fz fv v w hi hnc hc hn hvb hb hsz hroom hfz h1c hv hvv h1v hf1 hf2
  obtain ⟨cs,ecs⟩:∃ cs,cs=(C.toList.drop off).take n:=⟨_,rfl⟩
  have hcl:cs.length=n:=by rw [ecs,List.length_take,List.length_drop,Array.length_toList];omega
  have hcs:∀ j u,cs[j]?=some u→C[off+j]?=some u:=fun j u h=>by
   rw [ecs,List.getElem?_take] at h
   split at h
   ·rw [List.getElem?_drop,Array.getElem?_toList] at h;exact h
   ·cases h
  have hjn:∀ j u,cs[j]?=some u→j<n:=fun j u h=>by rw [← hcl];exact (List.getElem?_eq_some_iff.1 h).1
  have hcell:∀ j u,cs[j]?=some u→w.cell? ⟨b,off+j,none⟩=some u:=fun j u h=>by
   simp only [World.cell?,hb];exact hcs j u h
  have h1cs:∀ u ∈ cs,u.oneCell'=true:=fun u hu=>by
   obtain ⟨j,hj⟩:=List.getElem?_of_mem hu
   exact h1c j u (hjn j u hj) (hcs j u hj)
  have hvs:∀ (j:Nat) (u:Value),[v][j]?=some u→w.cell? ⟨vb,voff+j,none⟩=some u:=fun j u h=>by
   cases j with
   | zero=>simp only [List.getElem?_cons_zero] at h;simp only [World.cell?,hv];rw [Nat.add_zero,hvv];simpa using h
   | succ j=>simp at h
  have eM:insV C off n i v=cs.take i++v :: cs.drop i:=by unfold insV;rw [← ecs]
  have hM:∀ j,(cs.take i++v :: cs.drop i)[j]?=if j<i then cs[j]? else if j=i then some v else cs[j-1]?:=fun j=>by
   have hti:(cs.take i).length=i:=by rw [List.length_take];omega
   by_cases c1:j<i
   ·rw [if_pos c1,List.getElem?_append_left (by omega),List.getElem?_take,if_pos c1]
   ·rw [if_neg c1,List.getElem?_append_right (by omega),hti]
    by_cases c2:j=i
    ·rw [if_pos c2,c2,Nat.sub_self];rfl
    ·rw [if_neg c2,show j-i=(j-i-1)+1 by omega,List.getElem?_cons_succ,List.getElem?_drop,show i+(j-i-1)=j-1 by omega]
  rw [eM]
  by_cases hr:n+1≤c
  ·have hsz2:=hroom hr
   have:=Any2.slices_Insert_int_shift L b off n c i vb voff 1 vc cs [v] w hi (by omega) hr hc hvb hcl rfl hcell
    (fun j hj=>by simp only [World.cell?,hb];rw [Array.getElem?_eq_getElem (show off+j<C.size by omega)];rfl)
    (fun j hj=>by
     have:=hfz hr (off+j) (by omega) (by omega)
     simp only [World.frozen?,hb,Bool.and_eq_false_iff,decide_eq_false_iff_not];omega)
    hvs h1cs (fun u hu=>by rw [List.mem_singleton] at hu;rw [hu];exact h1v) TV T VC.size C.size (by simp only [World.shape?,hv]) (by simp only [World.shape?,hb]) (by omega)
    (by simp only [World.frozen?,hv,Bool.and_eq_false_iff,decide_eq_false_iff_not];omega) (by simp only [World.frozen?,hv,Bool.and_eq_false_iff,decide_eq_false_iff_not];omega)
   refine this.mono fun r w' ⟨h1,h2⟩=>?_
   have hbd:w.drew.heap[b]?=some (.cells C T fz):=hb
   have hdl:(cs.drop i).length=n-i:=by rw [List.length_drop,hcl]
   obtain ⟨C1,a1,a2,a3,a4,a5,a6,a7,a8⟩:=setCells_heap (cs.drop i) (off+(i+1)) w.drew C hbd (by omega)
   obtain ⟨C2,b1,b2,b3,b4,b5,b6,b7,b8⟩:=setCells_heap [v] (off+i) (w.drew.setCells b (off+(i+1)) (cs.drop i)) C1 a1 (by simp;omega)
   rw [h2]
   refine ⟨⟨b6.trans a6,b7.trans a7,b8.trans a8⟩,.inl ⟨hr,h1,b5.trans a5,fun k hk=>(b4 k hk).trans (a4 k hk),C2,b1,by rw [b2,a2],fun j hj=>?_⟩⟩
   rw [hM,b3,List.length_singleton]
   by_cases c1:j<i
   ·rw [if_pos c1,if_neg (by omega),a3,if_neg (by omega)]
    rw [List.getElem?_eq_getElem (show j<cs.length by omega)]
    exact hcs j _ (List.getElem?_eq_getElem (by omega))
   ·rw [if_neg c1]
    by_cases c2:j=i
    ·rw [if_pos c2,if_pos (by omega),c2,Nat.sub_self];rfl
    ·rw [if_neg c2,if_neg (by omega),a3,if_pos (by omega),List.getElem?_drop]
     congr 1;omega
  ·have:=Any2.slices_Insert_int_grow L b off n c i vb voff 1 vc cs [v] w hi (by omega) hnc (by omega) (by omega) hcl rfl hcell hvs h1cs (fun u hu=>by rw [List.mem_singleton] at hu;rw [hu];exact h1v)
   refine this.mono fun r w' ⟨h1,h2⟩=>?_
   obtain ⟨G,eG⟩:∃ G,G=grownCap w (n+1) c (ρ.t 3):=⟨_,rfl⟩
   have hG1:n+1≤G:=by rw [eG];exact grownCap_ge w _ _ _
   have hG2:G≤9223372036854775807:=by
    have:=grownCap_le_maxLen w (n+1) c (ρ.t 3) (by unfold maxLen;omega)
    rw [← eG] at this
    unfold maxLen at this
    omega
   rw [← eG] at h1 h2
   obtain ⟨Z,eZ⟩:∃ Z:Array Value,Z=(cs.take i).toArray++Builtin.zeroCells (Value.int .i64 0).cells (n+1-i)++Builtin.zeroCells (Value.int .i64 0).cells (G-(n+1)):=⟨_,rfl⟩
   rw [← eZ] at h2
   have hZs:Z.size=G:=by rw [eZ];simp [Builtin.zeroCells,Value.cells];omega
   have hZt:∀ j,j<i→Z[j]?=cs[j]?:=fun j hj=>by
    rw [eZ,Array.append_assoc,Array.getElem?_append_left (by simp;omega)]
    simp [List.getElem?_take,hj]
   have hb0:(w.alloc (.cells Z (ρ.t 3))).drew.heap[w.heap.size]?=some (.cells Z (ρ.t 3) (0,0)):=by
    show (w.heap.push _)[w.heap.size]?=_
    rw [Array.getElem?_push,if_pos rfl]
   have hdl:(cs.drop i).length=n-i:=by rw [List.length_drop,hcl]
   obtain ⟨C1,a1,a2,a3,a4,a5,a6,a7,a8⟩:=setCells_heap [v] i (w.alloc (.cells Z (ρ.t 3))).drew Z hb0 (by simp;omega)
   obtain ⟨C2,b1,b2,b3,b4,b5,b6,b7,b8⟩:=setCells_heap (cs.drop i) (i+1) ((w.alloc (.cells Z (ρ.t 3))).drew.setCells w.heap.size i [v]).drew C1 a1 (by omega)
   rw [h2]
   refine ⟨⟨b6.trans a6,b7.trans a7,b8.trans a8⟩,.inr ⟨by omega,G,ρ.t 3,hG1,hG2,h1,?_,fun k hk=>?_,C2,b1,by rw [b2,a2,hZs],fun j hj=>?_⟩⟩
   ·refine b5.trans (a5.trans ?_)
    show (w.heap.push _).size=_
    rw [Array.size_push]
   ·refine (b4 k (by omega)).trans ((a4 k (by omega)).trans ?_)
    show (w.heap.push _)[k]?=_
    rw [Array.getElem?_push,if_neg (by omega)]
   ·rw [hM,b3]
    by_cases c1:j<i
    ·rw [if_pos c1,if_neg (by omega),a3,if_neg (by simp;omega),hZt j c1]
    ·rw [if_neg c1]
     by_cases c2:j=i
     ·rw [if_pos c2,if_neg (by omega),a3,if_pos (by simp;omega),c2,Nat.sub_self];rfl
     ·rw [if_neg c2,if_pos (by omega),List.getElem?_drop]
      congr 1;omega
end Go.AM
namespace Go.AM
open Go.Proofs.Try
attribute [-go_sem] put_ne put_same
attribute [local go_sem ↓] put_if
def insRen:Go.Shelf.Ren:=⟨fun x=>match x with
  | 21=>140
  | 27=>166
  | 28=>167
  | 35=>192
  | 39=>22
  | n=>n,
 fun x=>match x with
  | 22=>25
  | 3=>3
  | 4=>4
  | n=>n,
 fun n=>n⟩
theorem insB21:f140=Go.Proofs.Body2.n21 insRen:=by kernel_rfl
theorem insE21:prog.funcs[(140:Nat)]?=some (Go.Proofs.Body2.n21 insRen):=by rw [← insB21];exact func140
theorem insF21:prog.funcs[insRen.f 21]?=some (Go.Proofs.Body2.n21 insRen):=by
 have e:insRen.f 21=140:=rfl
 rw [e];exact insE21
theorem insB27:f166=Go.Proofs.Body2.n27 insRen:=by kernel_rfl
theorem insE27:prog.funcs[(166:Nat)]?=some (Go.Proofs.Body2.n27 insRen):=by rw [← insB27];exact func166
theorem insF27:prog.funcs[insRen.f 27]?=some (Go.Proofs.Body2.n27 insRen):=by
 have e:insRen.f 27=166:=rfl
 rw [e];exact insE27
theorem insB28:f167=Go.Proofs.Body2.n28 insRen:=by kernel_rfl
theorem insE28:prog.funcs[(167:Nat)]?=some (Go.Proofs.Body2.n28 insRen):=by rw [← insB28];exact func167
theorem insF28:prog.funcs[insRen.f 28]?=some (Go.Proofs.Body2.n28 insRen):=by
 have e:insRen.f 28=167:=rfl
 rw [e];exact insE28
theorem insB35:f192=Go.Proofs.Body2.n35 insRen:=by kernel_rfl
theorem insE35:prog.funcs[(192:Nat)]?=some (Go.Proofs.Body2.n35 insRen):=by rw [← insB35];exact func192
theorem insF35:prog.funcs[insRen.f 35]?=some (Go.Proofs.Body2.n35 insRen):=by
 have e:insRen.f 35=192:=rfl
 rw [e];exact insE35
theorem insB39:f22=Go.Proofs.Body2.n39 insRen:=by kernel_rfl
theorem insE39:prog.funcs[(22:Nat)]?=some (Go.Proofs.Body2.n39 insRen):=by rw [← insB39];exact func22
theorem insF39:prog.funcs[insRen.f 39]?=some (Go.Proofs.Body2.n39 insRen):=by
 have e:insRen.f 39=22:=rfl
 rw [e];exact insE39
theorem insT0:insRen.t 0=0:=rfl
theorem insT3:insRen.t 3=3:=rfl
theorem insT4:insRen.t 4=4:=rfl
theorem insT22:insRen.t 22=25:=rfl
theorem insLays:Go.Proofs.Lays2.n21 prog insRen:=by
 refine { mixed:=by kernel_rfl,f21:=insF21,f27:=insF27,f28:=insF28,f35:=insF35,f39:=insF39,t0:=?_,a0:=?_,z0:=?_,v0:=?_,t3:=?_,a3:=?_,z3:=?_,v3:=?_,t4:=?_,a4:=?_,z4:=?_,v4:=?_,t22:=?_,a22:=?_,z22:=?_,v22:=?_,i3:=?_ }
 ·rw [insT0];exact underlying0
 ·intro w;rw [insT0];exact isAgg0 w
 ·intro w;rw [insT0];exact sizeOf0 w
 ·intro w;rw [insT0];exact zeroValue0 w
 ·rw [insT3];exact underlying3
 ·intro w;rw [insT3];exact isAgg3 w
 ·intro w;rw [insT3];exact sizeOf3 w
 ·intro w;rw [insT3];exact zeroValue3 w
 ·rw [insT4];exact underlying4
 ·intro w;rw [insT4];exact isAgg4 w
 ·intro w;rw [insT4];exact sizeOf4 w
 ·intro w;rw [insT4];exact zeroValue4 w
 ·rw [insT22,insT3];exact underlying25
 ·intro w;rw [insT22];exact isAgg25 w
 ·intro w;rw [insT22];exact sizeOf25 w
 ·intro w;rw [insT22];exact zeroValue25 w
 ·rw [insT3];kernel_rfl
theorem insLaw:InsF prog 140 3:=by
 have h:=insF_of insLays
 have e:insRen.f 21=140:=rfl
 rw [e,insT3] at h
 exact h
theorem snocIE {b base:Nat} {A:Heap} {w x:AVal} {l:List Int} {r:Int} (hO:OwnE encI 3 b A w l) (hx:Rows encI A x [r]) (hb:base≤b) (hbh:b≤A.length) (hl:l.length≤1000000) :
  ∃ w' H,appendA prog base A 25 w x=some (w',H)∧OwnE encI 3 b H w' (l++[r])∧A.length≤H.length∧(∀ G,G.length≤b→Ext G A→Ext G H)∧KeepO encI 3 A H:=by
 have hx1:=hx.lenA
 have hx2:=hx.firstN
 have fl:(flat encI [r]).all AVal.scalar=true:=flat_scalar encI_sc _
 simp only [List.length_singleton] at hx1 hx2
 rcases hO with q|⟨rfl,rfl⟩
 ·obtain ⟨w',H,a1,a2,a3,a4,-,a6⟩:=q.appendRX (P:=prog) (base:=base) (t:=25) hx Fc.el25 encI_sc hb hbh (by simp) (by simp;omega)
  exact ⟨w',H,a1,.inl a2,a3,a4,a6⟩
 ·refine ⟨_,_,?_,.inl (.inr ⟨A.length,0,rfl,get_eq rfl,hbh,by simp⟩),by simp,fun G _ g=>g.app,fun i y hi _=>get_app hi⟩
  have hx1':lenA 1 x=some 1:=hx1
  have hx2':firstN A 1 1 x=some (flat encI [r]):=hx2
  simp only [appendA,Fc.el25,hx1',hx2',fl,if_true]
  rfl
theorem run_insU {base b:Nat} {h:Heap} {v:AVal} {F:List Int} {i id2:Nat} {x:Int} (hO:OwnE encI 3 b h v F) (hg2:h[id2]?=some ⟨.cells [.int .i64 x] 3 true false,0⟩) (hv2:∀ r n c,v=.slice (some r) n c→r.id ≠ id2) (hb:base≤b) (hbh:b≤h.length) (hi:i≤F.length) (hl:F.length≤1000) :
  ∃ w H,callL prog raw base (.fn 140 [] []) [v,.int .i64 (i:Int),.slice (some ⟨id2,0,0⟩) 1 1] h=some (w,H)∧OwnE encI 3 b H w (F.take i++x :: F.drop i)∧h.length≤H.length∧(∀ G,G.length≤b→Ext G h→Ext G H)∧KeepO encI 3 h H:=by
 have hx:Rows encI h (.slice (some ⟨id2,0,0⟩) 1 1) [x]:=Rows.own (E:=encI) (e:=3) (by rw [rowE,flat_encI];exact hg2) rfl (by simp)
 have hl2:∀ {H:Heap},lenOpA prog H 25 (.slice (some ⟨id2,0,0⟩) 1 1)=some (.int .i64 1):=fun {H}=>by simp [lenOpA,Fc.el25,lenA]
 by_cases c:i<F.length
 ·obtain ⟨id,ver,rfl,g1,hid,-⟩:∃ id ver,v=.slice (some ⟨id,ver,0⟩) F.length F.length∧h[id]?=some (rowE encI 3 F ver)∧b≤id∧True:=by
   rcases hO with (⟨_,q⟩|⟨i,v,q,gi,hi,_⟩)|⟨_,q⟩
   ·rw [q] at c;simp at c
   ·exact ⟨i,v,q,gi,hi,trivial⟩
   ·rw [q] at c;simp at c
  have g1':=g1
  rw [rowE,flat_encI] at g1'
  have hne:=hv2 _ _ _ rfl
  have hsc:(AVal.int .i64 x :: ints F).all AVal.scalar=true:=by
   rw [List.all_cons,ints_scalar];rfl
  have e:=callL_ins (P:=prog) (raw:=raw) (base:=base) (m2:=1) (i:=(i:Int)) (n:=F.length) func140 (by kernel_rfl) (by kernel_rfl) insLaw g1' hg2 (by simp [ints]) (by omega) (by omega) hne (by omega) (by omega) hsc
  rw [Int.toNat_natCast] at e
  have ec:(ints F).take i++AVal.int .i64 x :: (ints F).drop i=ints (F.take i++x :: F.drop i):=by simp [ints]
  rw [ec] at e
  have hlid:=lt_of_get g1
  have hlen:(F.take i++x :: F.drop i).length=F.length+1:=by rw [List.length_append,List.length_cons,List.length_take,List.length_drop];omega
  refine ⟨_,_,e,.inl (.inr ⟨id,ver+1,by rw [hlen],by rw [List.getElem?_set_self hlid,rowE,flat_encI],hid,by rw [hlen];omega⟩),by rw [List.length_set];exact Nat.le_refl _,fun G hG g=>g.set (by omega),fun j y hj hy=>?_⟩
  rw [List.getElem?_set_ne]
  ·exact hj
  ·rintro rfl
   rw [g1] at hj
   exact hy F ver (Option.some.inj hj).symm
 ·obtain rfl:i=F.length:=by omega
  rw [List.take_length,List.drop_length]
  obtain ⟨w',H,ea,a2,a3,a4,a5⟩:=snocIE (base:=base) hO hx hb hbh (by omega)
  have ov:=hO.one
  have iv:Ints h v F→True:=fun _=>trivial
  have hlv:lenOpA prog h 25 v=some (.int .i64 (F.length:Int)):=(hO.rows (by omega)).len Fc.el25
  have t0:((1:Int)=0)=False:=eq_false (by omega)
  obtain ⟨sv,hsl⟩:∃ sv,sliceA prog 25 v (some (.int .i64 (F.length:Int))) none none=some sv:=by
   rcases hO with (⟨rfl,rfl⟩|⟨j,ver,rfl,gi,hi,_⟩)|⟨rfl,rfl⟩
   ·exact ⟨.slice none 0 0,by simp [sliceA,Fc.ar25,Fc.el25,optB,boundA]⟩
   ·exact ⟨_,sl_from (id:=j) (ver:=ver) (o:=0) (n:=F.length) (k:=F.length) (lo:=(F.length:Int)) (by omega) (by omega) (by omega)⟩
   ·exact ⟨.emp,by simp [sliceA,Fc.ar25,Fc.el25,optB,boundA]⟩
  have hq:(insQ f140 [v,.int .i64 (F.length:Int),.slice (some ⟨id2,0,0⟩) 1 1] || srtQ f140 [v,.int .i64 (F.length:Int),.slice (some ⟨id2,0,0⟩) 1 1])=false:=by
   rw [Bool.or_eq_false_iff]
   refine ⟨?_,by unfold srtQ;simp⟩
   unfold insQ
   rw [Bool.and_eq_false_iff]
   right
   rcases hO with (⟨rfl,rfl⟩|⟨j,ver,rfl,gi,hi,_⟩)|⟨rfl,rfl⟩
   ·rfl
   ·simp
   ·rfl
  have key:Ret prog raw base (.fn 140 [] []) [v,.int .i64 (F.length:Int),.slice (some ⟨id2,0,0⟩) 1 1] h (fun w K=>w=w'∧K=H):=by
   refine ret_rawQ func140 rfl (by kernel_rfl) ?_ hq
   have hsp:=@Nat.succ_ne_zero;repeat' (first|simp (disch:=first|exact dqb|fail) only [go_sem,↓reduceIte,hsp,hsl,hl2,t0,hlv,eq_self,ea]|refine WP_drw ?_|refine cnd_intro (fun hsp=>?_) fun hsp=>?_)
  obtain ⟨w,K,e,rfl,rfl⟩:=key
  exact ⟨w,K,e,a2,a3,a4,a5⟩
end Go.AM
namespace Go.AM
def agrB (L:Lac) (r:Rw3) (k:Nat):Bool:=(List.range L.T.toNat).all fun t=>!r.2.1.toNat.testBit t || ((L.C.getD k 0).toNat.testBit t == r.2.2.toNat.testBit t)
def fitR (L:Lac) (p k:Nat):Bool:=L.R.all fun r=>!decide (r.1.toNat % L.C.length=p) || agrB L r k
def xplB (L:Lac) (o:List Int):Bool:=L.R.all fun r=>agrB L r (o.getD (r.1.toNat % o.length) 0).toNat
def allR (L:Lac):List (List Int):=(ordsF (fun _ _=>true) L.C.length L.C.length []).filter (xplB L)
end Go.AM
namespace Go.AM
open Go.Proofs.Try
attribute [-go_sem] put_ne put_same
attribute [local go_sem ↓] put_if
end Go.AM
namespace Go.AM
open Go.Proofs.Try
attribute [-go_sem] put_ne put_same
attribute [local go_sem ↓] put_if
abbrev rcB (T:Int) (cv rv:AVal):ABlk:=⟨.cells [.int .i64 T,cv,rv] 49 false false,0⟩
abbrev rrB (r:Rw3):ABlk:=⟨.cells [.int .i64 r.1,.int .i64 r.2.1,.int .i64 r.2.2] 79 false false,0⟩
section
variable {h:Heap} {rv:AVal} {R:List Rw3} {i:Nat} {r:Rw3}
end
theorem setB_off {T x:Int}:(!decide (0≤x∧x≤2 ^ T.toNat-1))=!setB T x:=rfl
end Go.AM
namespace Go.AM
open Go.Proofs.Try
attribute [-go_sem] put_ne put_same
attribute [local go_sem ↓] put_if
end Go.AM
namespace Go.AM
open Go.Proofs.Try
attribute [-go_sem] put_ne put_same
attribute [local go_sem ↓] put_if
section
variable {b:Nat} {H H':Heap} {v:AVal} {ts:List (List Int)}
def AllX (b e:Nat) (H:Heap) (v:AVal) (ts:List (List Int)):Prop:=∃ vs:List AVal,Own encZ 25 b H v vs∧vs.length=ts.length∧∀ (i:Nat) x t,vs[i]?=some x→ts[i]?=some t→OwnE encI 3 e H x t
theorem AllX.nil {e:Nat}:AllX b e H (.slice none 0 0) []:=⟨[],Own.nil,rfl,fun i x t q=>by simp at q⟩
theorem AllX.one {e:Nat} (x:AllX b e H v ts):One v:=by obtain ⟨vs,h1,_⟩:=x;exact h1.one
theorem AllX.ext {e:Nat} (x:AllX b e H v ts) (q:Ext H H'):AllX b e H' v ts:=by
 obtain ⟨vs,h1,h2,h3⟩:=x
 exact ⟨vs,h1.ext q,h2,fun i x t a c=>(h3 i x t a c).ext q⟩
theorem AllX.all {e c:Nat} (x:AllX b e H v ts) (h1:c≤b) (h2:c≤e):AllB c H v ts:=by
 obtain ⟨vs,k1,k2,k3⟩:=x
 exact ⟨vs,k1.low h1,k2,fun i x t a d=>(k3 i x t a d).low h2⟩
theorem AllX.snoc {A:Heap} {w x:AVal} {t:List Int} {base e:Nat} (y:AllX b e A w ts) (hx:OwnE encI 3 e A x t) (hb:base≤b) (hbh:b≤A.length) (hl:ts.length≤10000000) :
  ∃ z A',(∀ {lit:Bool},lit=true→bsA prog lit A 54 1 [(0,x)]=some (z,A'))∧Ext A A'∧∃ w' h',appendA prog base A' 54 w z=some (w',h')∧AllX b e h' w' (ts++[t])∧A.length≤h'.length∧(∀ G,G.length≤b→Ext G A→Ext G h')∧One w':=by
 obtain ⟨vs,h1,h2,h3⟩:=y
 obtain ⟨z,A',a1,a2,w',h',a3,a4,a5,a6,a7,a8⟩:=snocZI (base:=base) h1 hx.one hb hbh (by omega)
 refine ⟨z,A',a1,a2,w',h',a3,⟨_,a4,by simp [h2],fun i p q g1 g2=>?_⟩,a5,a6,a7⟩
 by_cases hi:i<vs.length
 ·rw [List.getElem?_append_left hi] at g1
  rw [List.getElem?_append_left (by omega)] at g2
  exact a8.ownE (h3 i p q g1 g2) (by decide)
 ·rw [List.getElem?_append_right (by omega)] at g1
  rw [List.getElem?_append_right (by omega)] at g2
  have e0:i-vs.length=0:=by
   have:=(List.getElem?_eq_some_iff.1 g1).1
   simp at this;omega
  rw [e0] at g1
  rw [show i-ts.length=0 by omega] at g2
  cases g1;cases g2
  exact a8.ownE hx (by decide)
theorem AllB.at {A:Heap} (x:AllB b H v ts) (hl:ts.length<2 ^ 60) {i:Nat} {t:List Int} (ht:ts[i]?=some t) :
  ∃ a w,indexAddrA prog 54 v (.int .i64 (i:Int))=some a∧(∀ K,Ext H K→loadP prog K 25 a=some w)∧OwnE encI 3 b H w t:=by
 obtain ⟨vs,h1,h2,h3⟩:=x
 have hi:i<vs.length:=by rw [h2];exact (List.getElem?_eq_some_iff.1 ht).1
 have hv:vs[i]?=some vs[i]:=List.getElem?_eq_getElem hi
 have ho:=h3 i _ t hv ht
 have hR:=h1.rows (show vs.length<2 ^ 60 by omega)
 have ad:=hR.addr (P:=prog) (i:=(i:Int)) Fc.el54 Fc.ar54 (by omega) (by omega)
 rw [Int.toNat_natCast] at ad
 exact ⟨_,_,ad,fun K e=>(hR.ext e).cell (P:=prog) Fc.ty25 hv (o:=0) (a:=vs[i]) (by simp only [encZ,norm_one ho.one];rfl),ho⟩
end
def allF (n d:Nat) (l:List Int) (k:Int):List (List Int):=if ((fun (_ _:Nat)=>true) l.length k.toNat && decide (k ∉ l))=true then ordsF (fun _ _=>true) n d (l++[k]) else []
theorem ordsF_all {n d:Nat} {l:List Int}:ordsF (fun _ _=>true) n (d+1) l=(upto n).flatMap (allF n d l):=rfl
end Go.AM
namespace Go.AM
def insAt (l:List Int) (i:Nat) (k:Int):List Int:=l.take i++k :: l.drop i
def ordsI:Nat→List (List Int)
 | 0=>[[]]
 | n+1=>(ordsI n).flatMap fun l=>(List.range (l.length+1)).map fun i=>insAt l i (n:Int)
theorem insAt_len {l:List Int} {i:Nat} {k:Int} (hi:i≤l.length):(insAt l i k).length=l.length+1:=by
 unfold insAt
 rw [List.length_append,List.length_cons,List.length_take,List.length_drop]
 omega
theorem insAt_mem {l:List Int} {i:Nat} {k x:Int}:x ∈ insAt l i k ↔ x=k ∨ x ∈ l:=by
 unfold insAt
 rw [List.mem_append,List.mem_cons]
 conv=>rhs;rhs;rw [← List.take_append_drop i l,List.mem_append]
 constructor
 ·rintro (h|h|h)
  ·exact .inr (.inl h)
  ·exact .inl h
  ·exact .inr (.inr h)
 ·rintro (h|h|h)
  ·exact .inr (.inl h)
  ·exact .inl h
  ·exact .inr (.inr h)
theorem insAt_perm {l:List Int} {i:Nat} {k:Int}:(insAt l i k).Perm (k :: l):=by
 unfold insAt
 have:=List.perm_middle (a:=k) (l₁:=l.take i) (l₂:=l.drop i)
 rwa [List.take_append_drop] at this
theorem ordsI_ord:∀ {n:Nat} {o:List Int},o ∈ ordsI n→Ord n o
 | 0,o,h=>by
  rw [ordsI,List.mem_singleton] at h
  subst h
  exact ⟨rfl,by simp,List.nodup_nil⟩
 | n+1,o,h=>by
  rw [ordsI,List.mem_flatMap] at h
  obtain ⟨l,hl,h⟩:=h
  obtain ⟨i,hi,rfl⟩:=List.mem_map.1 h
  have hi:=List.mem_range.1 hi
  obtain ⟨h1,h2,h3⟩:=ordsI_ord hl
  refine ⟨by rw [insAt_len (by omega),h1],fun x hx=>?_,?_⟩
  ·rcases insAt_mem.1 hx with q|q
   ·omega
   ·have:=h2 x q;omega
  ·rw [(insAt_perm (l:=l) (i:=i) (k:=(n:Int))).nodup_iff,List.nodup_cons]
   exact ⟨fun q=>by have:=h2 _ q;omega,h3⟩
theorem ordsI_all:∀ {n:Nat} {o:List Int},Ord n o→o ∈ ordsI n
 | 0,o,h=>by
  rw [ordsI,List.mem_singleton]
  exact List.eq_nil_of_length_eq_zero h.1
 | n+1,o,h=>by
  obtain ⟨i,hi,e⟩:=List.mem_iff_getElem.1 (ord_all h (x:=(n:Int)) ⟨by omega,by omega⟩)
  have eo:o=insAt (o.take i++o.drop (i+1)) i (n:Int):=by
   have hl:(o.take i).length=i:=by rw [List.length_take];omega
   unfold insAt
   rw [List.take_left' hl,List.drop_left' hl,← e,← List.drop_eq_getElem_cons hi,List.take_append_drop]
  have hp:(insAt (o.take i++o.drop (i+1)) i (n:Int)).Perm ((n:Int) :: (o.take i++o.drop (i+1))):=insAt_perm
  rw [← eo] at hp
  have hnd:=hp.nodup_iff.1 h.2.2
  rw [List.nodup_cons] at hnd
  have hlen:=hp.length_eq
  rw [h.1,List.length_cons] at hlen
  have hO:Ord n (o.take i++o.drop (i+1)):=by
   refine ⟨by omega,fun x hx=>?_,hnd.2⟩
   have h1:=h.2.1 x (hp.mem_iff.2 (List.mem_cons_of_mem _ hx))
   have h2:x ≠ (n:Int):=fun q=>hnd.1 (by rw [← q];exact hx)
   omega
  rw [ordsI,List.mem_flatMap]
  exact ⟨_,ordsI_all hO,List.mem_map.2 ⟨i,List.mem_range.2 (by rw [hO.1];have:=h.1;omega),eo.symm⟩⟩
theorem ordsI_len {n:Nat} {o:List Int} (h:o ∈ ordsI n):o.length=n:=(ordsI_ord h).1
theorem dcdP_two {os:List (List Int)} {l:List Int} (hn:os.Nodup) (h:dcdP os l ≠ true):∃ a ∈ os,∃ b ∈ os,a ≠ b∧∀ p ∈ l,a.getD p.toNat 0=b.getD p.toNat 0:=by
 refine Classical.byContradiction fun q=>h ?_
 have q2:∀ a ∈ os,∀ b ∈ os,keyL l a=keyL l b→a=b:=fun a ha b hb e=>Classical.byContradiction fun ne=>q ⟨a,ha,b,hb,ne,List.map_inj_left.1 e⟩
 unfold dcdP
 rw [decide_eq_true_eq,List.nodup_iff_pairwise_ne,List.pairwise_map]
 exact (List.nodup_iff_pairwise_ne.1 hn).imp_of_mem fun {a b} ha hb hab e=>hab (q2 a ha b hb e)
theorem few_two {n:Nat} {os:List (List Int)} {s:List Int} (hn:os.Nodup) (ho:∀ o ∈ os,Ord n o) (hs:s.Sublist (upto n)) (hb:btL s (dcdL n os)=true) :
  ∃ a ∈ os,∃ b ∈ os,a ≠ b∧∀ p ∈ s,a.getD p.toNat 0=b.getD p.toNat 0 :=
 dcdP_two hn fun q=>by
  rcases (dcdL_is hn fun o h=>(ho o h).1).2.2.2.2 s hs q with e|e
  ·rw [e,btL_irr] at hb;cases hb
  ·have:=btL_trans _ _ _ hb e
   rw [btL_irr] at this;cases this
end Go.AM
namespace Go.AM
open Go.Proofs.Try
attribute [-go_sem] put_ne put_same
attribute [local go_sem ↓] put_if
def insN (l:List Int) (k:Int) (m:Nat):List (List Int):=(List.range m).map fun i=>insAt l i k
theorem insN_succ {l:List Int} {k:Int} {m:Nat}:insN l k (m+1)=insN l k m++[insAt l m k]:=by
 unfold insN;rw [List.range_succ,List.map_append];rfl
theorem insN_len {l:List Int} {k:Int} {m:Nat}:(insN l k m).length=m:=by unfold insN;simp
def nxtN (ls:List (List Int)) (k:Int) (m:Nat):List (List Int):=(ls.take m).flatMap fun l=>insN l k (l.length+1)
theorem nxtN_succ {ls:List (List Int)} {k:Int} {m:Nat} {l:List Int} (h:ls[m]?=some l):nxtN ls k (m+1)=nxtN ls k m++insN l k (l.length+1):=by
 unfold nxtN;rw [List.take_add_one,h,List.flatMap_append];simp
theorem nxtN_all {n:Nat}:nxtN (ordsI n) (n:Int) (ordsI n).length=ordsI (n+1):=by
 unfold nxtN;rw [List.take_length];rfl
theorem nxtN_len {ls:List (List Int)} {k:Int} {c:Nat} (hc:∀ l ∈ ls,l.length=c):∀ {m},m≤ls.length→(nxtN ls k m).length=m * (c+1)
 | 0,_=>by simp [nxtN]
 | m+1,h=>by
  have hm:ls[m]?=some ls[m]:=List.getElem?_eq_getElem (by omega)
  rw [nxtN_succ hm,List.length_append,nxtN_len hc (by omega),insN_len,hc _ (List.getElem_mem (by omega)),Nat.succ_mul]
theorem ordsI_few {n:Nat} (hn:n≤5):(ordsI n).length≤120:=by
 have h:∀ n,n<6→(ordsI n).length≤120:=by
  have:((List.range 6).all fun n=>decide ((ordsI n).length≤120))=true:=by kernel_rfl
  intro n hn
  exact of_decide_eq_true (List.all_eq_true.1 this n (List.mem_range.2 hn))
 exact h n (by omega)
set_option maxHeartbeats 2000000 in
theorem run_lords {base:Nat} {h:Heap} {n:Nat} (hb:base≤h.length) (hn:n≤5) :
  Ret prog raw base (.fn 82 [] []) [.int .i64 (n:Int)] h (fun w H=>Ext h H∧AllB h.length H w (ordsI n)):=by
 have of:One (.slice none 0 0):=⟨rfl,rfl,rfl⟩
 have A0:AllX h.length h.length (h++[rowE encZ 25 [.slice none 0 0] 0]) (.slice (some ⟨h.length,0,0⟩) 1 1) (ordsI 0):=by
  refine ⟨[.slice none 0 0],.inr ⟨h.length,0,rfl,get_eq rfl,Nat.le_refl _,by simp⟩,rfl,fun i x t q1 q2=>?_⟩
  have hi:i=0:=by
   have:=(List.getElem?_eq_some_iff.1 q1).1
   simp at this;omega
  subst hi
  simp [ordsI] at q1 q2
  subst q1 q2
  exact .inl Own.nil
 refine ret_raw func82 rfl (by kernel_rfl) ?_
 have hsp:=@Nat.succ_ne_zero;repeat' (first|simp (disch:=first|exact dqb|fail) only [go_sem,↓reduceIte,hsp,bsZI]|refine WP_drw ?_|refine cnd_intro (fun hsp=>?_) fun hsp=>?_)
 refine WP_count [(3,8),(11,38)] 0 n (Nat.zero_le _) (fun _ k fr K=>fr 11=.int .i64 (k:Int)∧Ext h K∧∃ u,fr 3=u∧AllX h.length h.length K u (ordsI k)) ?_ ?_ ?_
 ·exact ⟨by (simp (disch:=first|exact dqb|fail) only [go_sem,↓reduceIte,Int.natCast_zero];first|done|rfl),.app .refl,_,by simp (disch:=first|exact dqb|fail) only [go_sem,↓reduceIte],A0⟩
 ·rintro k fr K hk0 hk hA ⟨r11,xK,u,r3,hU⟩
  have q2:=hA 2 rfl
  have q10:=hA 10 rfl
  try simp (disch:=first|exact dqb|fail) only [go_sem,↓reduceIte] at q2 q10
  have hlt:((k:Int)<(n:Int))=True:=eq_true (by omega)
  have lK:=xK.len
  have ou:=hU.one
  obtain ⟨ls,els⟩:∃ ls,ls=ordsI k:=⟨_,rfl⟩
  have hls:∀ l ∈ ls,l.length=k:=fun l hl=>by rw [els] at hl;exact ordsI_len hl
  have hfew:=ordsI_few (n:=k) (by omega)
  rw [← els] at hU hfew
  have hlen:∀ {X},Ext K X→lenOpA prog X 54 u=some (.int .i64 (ls.length:Int)):=fun {X} e=>((hU.ext e).all (c:=0) (by omega) (by omega)).all.len (by omega)
  have hlK:=hlen .refl
  have hsp:=@Nat.succ_ne_zero;repeat' (first|simp (disch:=first|exact dqb|fail) only [go_sem,↓reduceIte,hsp,r11,r3,q2,q10,hlt,hlK]|refine WP_drw ?_|refine cnd_intro (fun hsp=>?_) fun hsp=>?_)
  refine WP_count [(5,8),(16,36)] 0 ls.length (Nat.zero_le _) (fun _ m fr X=>fr 16=.int .i64 (m:Int)∧Ext K X∧∃ w,fr 5=w∧AllX K.length h.length X w (nxtN ls (k:Int) m)) ?_ ?_ ?_
  ·exact ⟨by (simp (disch:=first|exact dqb|fail) only [go_sem,↓reduceIte,Int.natCast_zero];first|done|rfl),.refl,.slice none 0 0,by simp (disch:=first|exact dqb|fail) only [go_sem,↓reduceIte],by simp [nxtN];exact AllX.nil⟩
  ·rintro m fr2 X hm0 hm hA2 ⟨r16,xX,w,r5,hW⟩
   have d2:=hA2 2 rfl
   have d3:=hA2 3 rfl
   have d4:=hA2 4 rfl
   have d10:=hA2 10 rfl
   have d11:=hA2 11 rfl
   have d14:=hA2 14 rfl
   have d15:=hA2 15 rfl
   try simp (disch:=first|exact dqb|fail) only [go_sem,↓reduceIte,q2,q10] at d2 d3 d4 d10 d11 d14 d15
   have hlt2:((m:Int)<(ls.length:Int))=True:=eq_true (by omega)
   have ow:=hW.one
   have lX:=xX.len
   obtain ⟨l,el⟩:∃ l,l=ls[m]:=⟨_,rfl⟩
   have hl:ls[m]?=some l:=by rw [el];exact List.getElem?_eq_getElem hm
   have hll:l.length=k:=hls l (List.mem_of_getElem? hl)
   have hnl:=nxtN_len (k:=(k:Int)) hls (Nat.le_of_lt hm)
   have hnb:m * (k+1)≤120 * 6:=Nat.mul_le_mul (by omega) (by omega)
   obtain ⟨a,vl,ad,ld,oV⟩:=(hU.all (c:=0) (by omega) (by omega)).at (A:=K) (by omega) hl
   have ovl:=oV.one
   have hsl:Small l:=by
    have ho:l ∈ ordsI k:=by rw [← els];exact List.mem_of_getElem? hl
    exact ord_small (ordsI_ord ho) (by omega)
   have iV:=ownE_ints oV hsl
   have lV:=lenI (iV.ext xX)
   rw [hll] at lV
   have ldX:=ld X xX
   obtain ⟨c,ec⟩:∃ c,c=k+1:=⟨_,rfl⟩
   have hk1:(k:Int)+1=(c:Int):=by omega
   have hsp:=@Nat.succ_ne_zero;repeat' (first|simp (disch:=first|exact dqb|fail) only [go_sem,↓reduceIte,hsp,r16,r5,d2,d3,d4,d10,d11,d14,d15,q2,q10,hlt2,ad,ldX,lV,hk1]|refine WP_drw ?_|refine cnd_intro (fun hsp=>?_) fun hsp=>?_)
   refine WP_count [(5,5),(8,8),(23,35)] 0 c (Nat.zero_le _) (fun _ i fr Y=>fr 23=.int .i64 (i:Int)∧Ext K Y∧∃ w,fr 5=w∧AllX K.length h.length Y w (nxtN ls (k:Int) m++insN l (k:Int) i)) ?_ ?_ ?_
   ·exact ⟨by (simp (disch:=first|exact dqb|fail) only [go_sem,↓reduceIte,Int.natCast_zero];first|done|rfl),xX,w,by simp (disch:=first|exact dqb|fail) only [go_sem,↓reduceIte,r5],by simp [insN];exact hW⟩
   ·rintro i fr3 Y hi0 hi hA3 ⟨r23,xY,w2,r5',hW2⟩
    have z2:=hA3 2 rfl
    have z3:=hA3 3 rfl
    have z4:=hA3 4 rfl
    have z7:=hA3 7 rfl
    have z10:=hA3 10 rfl
    have z11:=hA3 11 rfl
    have z14:=hA3 14 rfl
    have z15:=hA3 15 rfl
    have z16:=hA3 16 rfl
    have z22:=hA3 22 rfl
    try simp (disch:=first|exact dqb|fail) only [go_sem,↓reduceIte,d2,d3,d4,d10,d11,d14,d15] at z2 z3 z4 z7 z10 z11 z14 z15 z16 z22
    have hlt3:((i:Int)<(c:Int))=True:=eq_true (by omega)
    have ow2:=hW2.one
    have lY:=xY.len
    have iY:=iV.ext xY
    obtain ⟨v1,Y1,e1,x1,o1⟩:=run_cloneE (base:=base) iY hsl
    have l1:=x1.len
    obtain ⟨Y2,eY2⟩:∃ Y2,Y2=Y1++[rowB [(k:Int)] 0]:=⟨_,rfl⟩
    have x2:Ext Y1 Y2:=by rw [eY2];exact .app .refl
    have l2:Y2.length=Y1.length+1:=by rw [eY2];simp
    have g2:Y2[Y1.length]?=some ⟨.cells [.int .i64 (k:Int)] 3 true false,0⟩:=by rw [eY2];exact get_eq rfl
    have hlow:∀ r n c,v1=.slice (some r) n c→r.id ≠ Y1.length:=by
     rintro r n c rfl
     rcases o1 with (⟨q,_⟩|⟨i,v,q,gi,_⟩)|⟨q,_⟩
     ·cases q
     ·cases q;have:=lt_of_get gi;simp only;omega
     ·cases q
    have ov1:=o1.one
    obtain ⟨w',Y3,e3,oI,l3,y3,k3⟩:=run_insU (base:=base) (i:=i) (o1.ext x2) g2 hlow (by omega) (by omega) (by omega) (by omega)
    have oiw:=oI.one
    have xY3:Ext Y Y3:=y3 Y (Nat.le_refl _) (x1.trans x2)
    have lY3:=xY3.len
    have ein:l.take i++(k:Int) :: l.drop i=insAt l i (k:Int):=rfl
    rw [ein] at oI
    have hlS:(nxtN ls (k:Int) m++insN l (k:Int) i).length≤1000:=by rw [List.length_append,hnl,insN_len];omega
    obtain ⟨z,Y4,b1,x4,w3,Y5,ea,aW,lW,eW,oneW⟩:=(hW2.ext xY3).snoc (base:=base) (oI.low (by omega)) (by omega) (by omega) (by omega)
    have xY5:Ext K Y5:=eW K (Nat.le_refl _) (xY.trans xY3)
    have hsp:=@Nat.succ_ne_zero;repeat' (first|simp (disch:=first|exact dqb|fail) only [go_sem,↓reduceIte,hsp,r23,r5',z2,z3,z4,z7,z10,z11,z14,z15,z16,z22,d2,d3,d4,d10,d11,d14,d15,q2,q10,hlt3,e1,← eY2,e3,b1,ea]|refine WP_drw ?_|refine cnd_intro (fun hsp=>?_) fun hsp=>?_)
    exact ⟨agq,by omega,xY5,w3,rfl,by rw [insN_succ,← List.append_assoc];exact aW⟩
   ·rintro fr3 Y hA3 ⟨r23,xY,w2,r5',hW2⟩
    have z2:=hA3 2 rfl
    have z3:=hA3 3 rfl
    have z4:=hA3 4 rfl
    have z7:=hA3 7 rfl
    have z10:=hA3 10 rfl
    have z11:=hA3 11 rfl
    have z14:=hA3 14 rfl
    have z15:=hA3 15 rfl
    have z16:=hA3 16 rfl
    have z22:=hA3 22 rfl
    try simp (disch:=first|exact dqb|fail) only [go_sem,↓reduceIte,d2,d3,d4,d10,d11,d14,d15] at z2 z3 z4 z7 z10 z11 z14 z15 z16 z22
    have hlt3:((c:Int)<(c:Int))=False:=eq_false (by omega)
    have ow2:=hW2.one
    have hsp:=@Nat.succ_ne_zero;repeat' (first|simp (disch:=first|exact dqb|fail) only [go_sem,↓reduceIte,hsp,r23,r5',z2,z3,z4,z7,z10,z11,z14,z15,z16,z22,d2,d3,d4,d10,d11,d14,d15,q2,q10,r16,hlt3]|refine WP_drw ?_|refine cnd_intro (fun hsp=>?_) fun hsp=>?_)
    refine ⟨agq,by omega,xY,w2,rfl,?_⟩
    rw [nxtN_succ hl,hll,← ec];exact hW2
  ·rintro fr2 X hA2 ⟨r16,xX,w,r5,hW⟩
   have d2:=hA2 2 rfl
   have d3:=hA2 3 rfl
   have d4:=hA2 4 rfl
   have d10:=hA2 10 rfl
   have d11:=hA2 11 rfl
   have d14:=hA2 14 rfl
   have d15:=hA2 15 rfl
   try simp (disch:=first|exact dqb|fail) only [go_sem,↓reduceIte,q2,q10] at d2 d3 d4 d10 d11 d14 d15
   have hlt2:((ls.length:Int)<(ls.length:Int))=False:=eq_false (by omega)
   have ow:=hW.one
   have hsp:=@Nat.succ_ne_zero;repeat' (first|simp (disch:=first|exact dqb|fail) only [go_sem,↓reduceIte,hsp,r16,r5,d2,d3,d4,d10,d11,d14,d15,q2,q10,r11,hlt2]|refine WP_drw ?_|refine cnd_intro (fun hsp=>?_) fun hsp=>?_)
   refine ⟨agq,by omega,xK.trans xX,w,rfl,?_⟩
   rw [els,nxtN_all] at hW
   obtain ⟨vs,h1,h2,h3⟩:=hW
   exact ⟨vs,h1.low lK,h2,h3⟩
 ·rintro fr K hA ⟨r11,xK,u,r3,hU⟩
  have q2:=hA 2 rfl
  have q10:=hA 10 rfl
  try simp (disch:=first|exact dqb|fail) only [go_sem,↓reduceIte] at q2 q10
  have hlt:((n:Int)<(n:Int))=False:=eq_false (by omega)
  have ou:=hU.one
  have hsp:=@Nat.succ_ne_zero;repeat' (first|simp (disch:=first|exact dqb|fail) only [go_sem,↓reduceIte,hsp,r11,r3,q2,q10,hlt]|refine WP_drw ?_|refine cnd_intro (fun hsp=>?_) fun hsp=>?_)
  exact ⟨xK,hU.all (Nat.le_refl _) (Nat.le_refl _)⟩
def cmpI (a b:Int):Int:=if a<b then -1 else if a > b then 1 else 0
theorem run_cmpC {base:Nat} {h:Heap} {a b:Int}:callL prog raw base (.fn 139 [] []) [.int .i64 a,.int .i64 b] h=some (.int .i64 (cmpI a b),h):=by
 refine callL_run func139 rfl rfl ?_
 have hsp:=@Nat.succ_ne_zero;repeat' (first|simp (disch:=first|exact dqb|fail) only [go_sem,↓reduceIte,hsp]|refine WP_drw ?_|refine cnd_intro (fun hsp=>?_) fun hsp=>?_)
 all_goals (refine fI ?_;unfold cmpI;first|rw [if_pos (by omega)]|rw [if_neg (by omega),if_pos (by omega)]|rw [if_neg (by omega),if_neg (by omega)])
def cmpL:List Int→List Int→Int
 | x :: a,y :: b=>if x=y then cmpL a b else cmpI x y
 | _,_=>0
theorem cmpL_lex:∀ {a b:List Int},a.length=b.length→(cmpL a b ≥ 0 ↔ lexB a b=false)
 | [],[],_=>by simp [cmpL,lexB]
 | x :: a,y :: b,h=>by
  simp only [List.length_cons,Nat.add_right_cancel_iff] at h
  unfold cmpL lexB
  by_cases e:x=y
  ·rw [if_pos e,if_pos e];exact cmpL_lex h
  ·rw [if_neg e,if_neg e]
   unfold cmpI
   by_cases c:x<y
   ·rw [if_pos c,decide_eq_true c];simp
   ·rw [if_neg c,decide_eq_false c,if_pos (by omega)];simp
theorem cmpL_drop {a b:List Int} {i:Nat} (ha:i<a.length) (hb:i<b.length):cmpL (a.drop i) (b.drop i)=if a.getD i 0=b.getD i 0 then cmpL (a.drop (i+1)) (b.drop (i+1)) else cmpI (a.getD i 0) (b.getD i 0):=by
 rw [List.drop_eq_getElem_cons ha,List.drop_eq_getElem_cons hb,getD_at ha,getD_at hb];rfl
theorem run_compare {base:Nat} {h:Heap} {v w:AVal} {a b:List Int} (hA:Ints h v a) (hB:Ints h w b) (hl:a.length=b.length) :
  callL prog raw base (.fn 81 [] []) [v,w] h=some (.int .i64 (cmpL a b),h):=by
 have o1:=hA.one
 have o2:=hB.one
 have l1:=lenI hA
 have l2:=lenI hB
 have hbd:=hA.1.1
 rw [← hl] at l2
 refine callL_run func81 rfl rfl ?_
 have hsp:=@Nat.succ_ne_zero;repeat' (first|simp (disch:=first|exact dqb|fail) only [go_sem,↓reduceIte,hsp,l1,l2]|refine WP_drw ?_|refine cnd_intro (fun hsp=>?_) fun hsp=>?_)
 refine WP_count [(4,8),(11,30)] 0 a.length (Nat.zero_le _) (fun H0 i fr h'=>fr 11=.int .i64 (i:Int)∧h'=H0∧cmpL a b=cmpL (a.drop i) (b.drop i)) ?_ ?_ ?_
 ·exact ⟨by (simp (disch:=first|exact dqb|fail) only [go_sem,↓reduceIte,Int.natCast_zero];first|done|rfl),rfl,by simp⟩
 ·rintro i fr H hi0 hi hF ⟨r11,eH,hP⟩
  subst eH
  have p0:=hF 0 rfl
  have p1:=hF 1 rfl
  have p9:=hF 9 rfl
  have p10:=hF 10 rfl
  try simp (disch:=first|exact dqb|fail) only [go_sem,↓reduceIte] at p0 p1 p9 p10
  have hlt:((i:Int)<(a.length:Int))=True:=eq_true (by omega)
  have t1:((i:Int) ≥ (a.length:Int))=False:=eq_false (by omega)
  have a1:=adrI (i:=(i:Int)) (by omega) hA (by omega)
  have a2:=adrI (i:=(i:Int)) (by omega) hB (by omega)
  rw [Int.toNat_natCast] at a1 a2
  have d1:=loadI hA hi
  have d2:=loadI hB (i:=i) (by omega)
  rw [cmpL_drop hi (by omega)] at hP
  obtain ⟨x,ex⟩:∃ x,x=a.getD i 0:=⟨_,rfl⟩
  obtain ⟨y,ey⟩:∃ y,y=b.getD i 0:=⟨_,rfl⟩
  rw [← ex] at d1 hP
  rw [← ey] at d2 hP
  have hc:=fun base=>run_cmpC (base:=base) (h:=H) (a:=x) (b:=y)
  by_cases c:x=y
  ·rw [if_pos c] at hP
   have e0:cmpI x y=0:=by unfold cmpI;rw [if_neg (by omega),if_neg (by omega)]
   rw [e0] at hc
   have hsp:=@Nat.succ_ne_zero;repeat' (first|simp (disch:=first|exact dqb|fail) only [go_sem,↓reduceIte,hsp,r11,p0,p1,p9,p10,hlt,t1,l2,a1,a2,d1,d2,hc,neB,ne_eq,eq_self,not_true,decide_false]|refine WP_drw ?_|refine cnd_intro (fun hsp=>?_) fun hsp=>?_)
   exact ⟨agq,by omega,hP⟩
  ·rw [if_neg c] at hP
   have e0:(cmpI x y=0)=False:=eq_false (by unfold cmpI;split;omega;split;omega;omega)
   obtain ⟨r,er⟩:∃ r,r=cmpI x y:=⟨_,rfl⟩
   rw [← er] at hc hP e0
   have hsp:=@Nat.succ_ne_zero;repeat' (first|simp (disch:=first|exact dqb|fail) only [go_sem,↓reduceIte,hsp,r11,p0,p1,p9,p10,hlt,t1,l2,a1,a2,d1,d2,hc,neB,ne_eq,e0,not_false_iff,decide_true]|refine WP_drw ?_|refine cnd_intro (fun hsp=>?_) fun hsp=>?_)
   exact fI hP.symm
 ·rintro fr H hF ⟨r11,eH,hP⟩
  subst eH
  have p0:=hF 0 rfl
  have p1:=hF 1 rfl
  have p9:=hF 9 rfl
  have p10:=hF 10 rfl
  try simp (disch:=first|exact dqb|fail) only [go_sem,↓reduceIte] at p0 p1 p9 p10
  have hlt:((a.length:Int)<(a.length:Int))=False:=eq_false (by omega)
  have hsp:=@Nat.succ_ne_zero;repeat' (first|simp (disch:=first|exact dqb|fail) only [go_sem,↓reduceIte,hsp,r11,p0,p1,p9,p10,hlt,l1,l2]|refine WP_drw ?_|refine cnd_intro (fun hsp=>?_) fun hsp=>?_)
  rw [List.drop_length,hl,List.drop_length] at hP
  exact fI hP.symm
end Go.AM
