/-
  slices.Insert at elements of two cells, of one element ahead of all others: the library's own text, walked over the model.
-/
import Derived.Shelf.Spec.SlicesInsert
import Derived.Shelf.Spec.SlicesInsertGrow
import Derived.Test.YteanoaejoddnbaaU0
import Derived.Test.YteanoaejoddnbaaU17
import Derived.Test.YteanoaejoddnbaaU15
import Derived.Test.YteanoaejoddnbaaU12
import Derived.Shelf.Sort.Plain
import Derived.Test.YteanoaejoddnbaaU16
set_option linter.unusedSimpArgs false
set_option linter.unusedVariables false
namespace Go.AM
open Go.Shelf Go.Lib Go.Proofs
structure LayI2 (P:Program) (ρ:Ren):Prop where
 mixed:P.follows .mixedOrders=true
 f22:∃ nm,P.funcs[ρ.f 22]?=some { Body2.n22 ρ with name:=nm }
 t0:P.underlying (ρ.t 0)=some (TypeDesc.tuple #[])
 a0:∀ w,(isAgg (ρ.t 0)).run P w=.ok false w
 z0:∀ w,(Go.sizeOf (ρ.t 0)).run P w=.ok 1 w
 v0:∀ w,(zeroValue (ρ.t 0)).run P w=.ok (Value.tuple #[]) w
 t3:P.underlying (ρ.t 3)=some (TypeDesc.int IntKind.i64)
 a3:∀ w,(isAgg (ρ.t 3)).run P w=.ok false w
 z3:∀ w,(Go.sizeOf (ρ.t 3)).run P w=.ok 1 w
 v3:∀ w,(zeroValue (ρ.t 3)).run P w=.ok (Value.int IntKind.i64 0) w
 t4:P.underlying (ρ.t 4)=some (TypeDesc.bool)
 a4:∀ w,(isAgg (ρ.t 4)).run P w=.ok false w
 z4:∀ w,(Go.sizeOf (ρ.t 4)).run P w=.ok 1 w
 v4:∀ w,(zeroValue (ρ.t 4)).run P w=.ok (Value.bool false) w
 z9:∀ w,(Go.sizeOf (ρ.t 9)).run P w=.ok 2 w
 v9:∀ w,(zeroValue (ρ.t 9)).run P w=.ok (Value.agg #[.int .i64 0,.int .i64 0]) w
 t24:P.underlying (ρ.t 24)=some (TypeDesc.slice (ρ.t 9))
 a24:∀ w,(isAgg (ρ.t 24)).run P w=.ok false w
 z24:∀ w,(Go.sizeOf (ρ.t 24)).run P w=.ok 1 w
 v24:∀ w,(zeroValue (ρ.t 24)).run P w=.ok (Value.slice none 0 0) w
 i9:(P.info? (ρ.t 9)).map (fun i=>(i.zero,i.size,i.bytes))=some (some (Value.agg #[.int .i64 0,.int .i64 0]),2,16)
 ov:∀ (w:World) (vb voff m vc b o lb cb:Nat) (tA tB:TypeId) (kA kB:Nat),vb ≠ b→w.shape? vb=some (tA,kA)→w.shape? b=some (tB,kB)→kB ≠ 0→w.frozen? ⟨vb,voff,none⟩=false→w.frozen? ⟨vb,kA,none⟩=false →
  (callFunc (ρ.f 29) #[.slice (some ⟨vb,voff,none⟩) m vc,.slice (some ⟨b,o,none⟩) lb cb]).run P w=.ok (.value (.bool false)) w
section
variable {P:Program} {ρ:Ren}
theorem run_copy_two (w:World) (dT sT ty elem:TypeId) (b o dLen dCap:Nat) (a:Addr) (sLen sCap k:Nat) (cs:List Value)
  (hu:P.underlying dT=some (.slice elem)) (hs:(P.info? elem).map (·.size)=some 2) (hk:k=Nat.min sLen dLen) (hn:cs.length=k * 2)
  (hsrc:∀ j v,cs[j]?=some v→w.cell? (a.add j)=some v) (hc:∀ j,j<cs.length→(w.cell? ⟨b,o+j,none⟩).isSome=true) (hf:∀ j,j<cs.length→w.frozen? ⟨b,o+j,none⟩=false) (h1:∀ v ∈ cs,v.oneCell'=true) :
  (Builtin.copy_ #[dT,sT] ty #[.slice (some ⟨b,o,none⟩) dLen dCap,.slice (some a) sLen sCap]).run P w=.ok (goInt k) (w.setCells b o cs):=by
 have hl:=run_loadCells_list (P:=P) w a cs hsrc
 have hst:=run_storeCells_cells (P:=P) b o cs 0 w (by simpa using hc) (by simpa using hf) h1
 cases hq:P.info? elem with
 | none=>simp [hq] at hs
 | some i =>
  have hi:i.size=2:=by simpa [hq] using hs
  rw [hn] at hl
  simp [Builtin.copy_,run_underlying hu,Builtin.lenOf,Builtin.firstCells,sizeOf,typeInfo,hq,hi,← hk,hl,hst]
set_option maxHeartbeats 4000000 in
set_option maxRecDepth 100000 in
theorem ins2_shift (L:LayI2 P ρ) (b off n c vb voff vc:Nat) (cs vs:List Value) (w:World) (hi:0<n) (hroom:n+1≤c) (hc63:c≤9223372036854775807) (hvb:vb ≠ b)
  (hcl:cs.length=n * 2) (hvl:vs.length=2)
  (hcs:∀ j v,cs[j]?=some v→w.cell? ⟨b,off+j,none⟩=some v) (hsp:∀ j,j<n * 2+2→(w.cell? ⟨b,off+j,none⟩).isSome=true) (hfz:∀ j,j<n * 2+2→w.frozen? ⟨b,off+j,none⟩=false)
  (hvs:∀ j v,vs[j]?=some v→w.cell? ⟨vb,voff+j,none⟩=some v) (h1c:∀ v ∈ cs,v.oneCell'=true) (h1v:∀ v ∈ vs,v.oneCell'=true)
  (tA tB:TypeId) (kA kB:Nat) (hsa:w.shape? vb=some (tA,kA)) (hsb:w.shape? b=some (tB,kB)) (hkB:kB ≠ 0) (hfa:w.frozen? ⟨vb,voff,none⟩=false) (hfe:w.frozen? ⟨vb,kA,none⟩=false) :
  Calls P (ρ.f 22) #[.slice (some ⟨b,off,none⟩) n c,.int .i64 0,.slice (some ⟨vb,voff,none⟩) 1 vc] w fun e w' =>
   e=.returned (.slice (some ⟨b,off,none⟩) (n+1) c)∧w'=(w.drew.setCells b (off+2) cs).setCells b off vs:=by
 have t0:=L.t0;have a0:=L.a0;have z0:=L.z0;have v0:=L.v0;have t3:=L.t3;have a3:=L.a3;have z3:=L.z3;have v3:=L.v3;have t4:=L.t4;have a4:=L.a4;have z4:=L.z4;have v4:=L.v4;have z9:=L.z9;have v9:=L.v9;have t24:=L.t24;have a24:=L.a24;have z24:=L.z24;have v24:=L.v24
 have u0:=run_underlying L.t0;have u3:=run_underlying L.t3;have u4:=run_underlying L.t4;have u24:=run_underlying L.t24
 have hz2:¬ ((0:Int)=(n:Int)):=by omega
 have hz3:¬ (0=n):=by omega
 have hz4:¬ (n=0):=by omega
 have hsz:(P.info? (ρ.t 9)).map (·.size)=some 2:=by
  have h:=L.i9
  cases q:P.info? (ρ.t 9) with
  | none=>rw [q] at h;cases h
  | some i=>rw [q] at h;simp at h;simp [h.2.1]
 have hov:=fun lb cb=>L.ov w vb voff 1 vc b (off+2) lb cb tA tB kA kB hvb hsa hsb hkB hfa hfe
 have mixed:=L.mixed
 have hcp1:∀ ty dc sc,(Builtin.copy_ #[(ρ.t 24),(ρ.t 24)] ty #[.slice (some ⟨b,off+2,none⟩) n dc,.slice (some ⟨b,off,none⟩) (n+1) sc]).run P w.drew=.ok (goInt n) (w.drew.setCells b (off+2) cs):=fun ty dc sc =>
  run_copy_two w.drew _ _ ty (ρ.t 9) b (off+2) n dc ⟨b,off,none⟩ (n+1) sc n cs L.t24 hsz (by simp only [Nat.min_def];split<;>omega) hcl
   (fun j v hj=>by rw [Addr.add_lit];exact hcs j v hj)
   (fun j hj=>by rw [Nat.add_assoc];exact hsp _ (by omega)) (fun j hj=>by rw [Nat.add_assoc];exact hfz _ (by omega)) h1c
 obtain ⟨W1,hW1⟩:∃ W1,W1=w.drew.setCells b (off+2) cs:=⟨_,rfl⟩
 have hsp1:∀ k,k<n * 2+2→(W1.cell? ⟨b,off+k,none⟩).isSome=true:=fun k hk=>by
  rw [hW1]
  exact isSome_setCells b _ _ _ (fun j hj=>by rw [Nat.add_assoc];exact hsp _ (by omega)) _ (hsp k hk)
 have hcp2:∀ (W:World),(∀ x,W.cell? x=W1.cell? x)→(∀ x,W.frozen? x=W1.frozen? x)→∀ ty dc,(Builtin.copy_ #[(ρ.t 24),(ρ.t 24)] ty #[.slice (some ⟨b,off,none⟩) (n+1) dc,.slice (some ⟨vb,voff,none⟩) 1 vc]).run P W=.ok (goInt (1:Nat)) (W.setCells b off vs):=fun W hWc hWf ty dc =>
  run_copy_two W _ _ ty (ρ.t 9) b off (n+1) dc ⟨vb,voff,none⟩ 1 vc 1 vs L.t24 hsz (by simp only [Nat.min_def];split<;>omega) hvl
   (fun j v hj=>by
    rw [Addr.add_lit,hWc,hW1,World.cell?_setCells_out b _ _ _ _ (fun h _=>absurd h hvb)]
    exact hvs j v hj)
   (fun j hj=>by rw [hWc];exact hsp1 _ (by omega)) (fun j hj=>by rw [hWf,hW1,World.frozen?_setCells];exact hfz _ (by omega)) h1v
 rw [← hW1] at hcp1
 have hw1:IntKind.i64.wrap (1:Int)=1:=by rw [IntKind.wrap_i64];omega
 have hb1:(1:Int)≤(n:Int)+1:=by omega
 have hb2:¬ (c=1):=by omega
 have hb3:(0:Int)≤(n:Int)+1:=by omega
 obtain ⟨nm,F22⟩:=L.f22
 go_enter F22,Body2.n22_ntmps ρ
 go_wp2_with (simp only [hov])
 go_region_law_o (refine step_copy_runI rfl _ _ (ρ.t 24) (ρ.t 24) rfl _ _ (by simp [Act.eval,Act.put]) (by simp [Act.eval,Act.put]) (hcp1 _ _ _) ?_)
 go_wp2_with (at_builtin;refine wpList_copy_runI _ rfl _ _ (ρ.t 24) (ρ.t 24) rfl _ _ rfl rfl (hcp2 _ (fun _=>rfl) (fun _=>rfl) _ _) ?_)
 go_ret
 exact ⟨rfl,rfl⟩
theorem zero2_size (k:Nat):(Builtin.zeroCells (Value.agg #[.int .i64 0,.int .i64 0]).cells k).size=k * 2:=by
 simp [Builtin.zeroCells,Value.cells]
set_option maxHeartbeats 4000000 in
set_option maxRecDepth 100000 in
theorem ins2_grow (L:LayI2 P ρ) (b off n c vb voff vc:Nat) (cs vs:List Value) (w:World) (hi:0<n) (hnc:n≤c) (hroom:c<n+1) (hbig:(n+1) * 16≤140737488355328)
  (hcl:cs.length=n * 2) (hvl:vs.length=2)
  (hcs:∀ j v,cs[j]?=some v→w.cell? ⟨b,off+j,none⟩=some v) (hvs:∀ j v,vs[j]?=some v→w.cell? ⟨vb,voff+j,none⟩=some v) (h1c:∀ v ∈ cs,v.oneCell'=true) (h1v:∀ v ∈ vs,v.oneCell'=true) :
  Calls P (ρ.f 22) #[.slice (some ⟨b,off,none⟩) n c,.int .i64 0,.slice (some ⟨vb,voff,none⟩) 1 vc] w fun e w' =>
   ∃ ROW:Array Value,ROW.size=grownCap w (n+1) c (ρ.t 9) * 2∧e=.returned (.slice (some ⟨w.heap.size,0,none⟩) (n+1) (grownCap w (n+1) c (ρ.t 9))) ∧
   w'=(((w.alloc (.cells ROW (ρ.t 9))).drew.setCells w.heap.size 0 vs).drew).setCells w.heap.size 2 cs:=by
 have t0:=L.t0;have a0:=L.a0;have z0:=L.z0;have v0:=L.v0;have t3:=L.t3;have a3:=L.a3;have z3:=L.z3;have v3:=L.v3;have t4:=L.t4;have a4:=L.a4;have z4:=L.z4;have v4:=L.v4;have z9:=L.z9;have v9:=L.v9;have t24:=L.t24;have a24:=L.a24;have z24:=L.z24;have v24:=L.v24
 have u0:=run_underlying L.t0;have u3:=run_underlying L.t3;have u4:=run_underlying L.t4;have u24:=run_underlying L.t24
 have mixed:=L.mixed
 obtain ⟨i0,hi0,hz0,hzs,hzb⟩:=info_parts L.i9
 have hz2:¬ ((0:Int)=(n:Int)):=by omega
 have hz3:¬ (0=n):=by omega
 have hz4:¬ (n=0):=by omega
 have hz5:(c:Int)<(n:Int)+1:=by omega
 have hsz:(P.info? (ρ.t 9)).map (·.size)=some 2:=by rw [hi0];simp [hzs]
 have hbw:b<w.heap.size:=block_lt_of_cell (hcs 0 _ (List.getElem?_eq_getElem (by omega)))
 have hvw:vb<w.heap.size:=block_lt_of_cell (hvs 0 _ (List.getElem?_eq_getElem (by omega)))
 have hold:(Builtin.firstCells i0.size 0 (.slice (some ⟨b,off,none⟩) 0 c)).run P w.drew=.ok ([]:List Value).toArray w.drew:=by
  have:=run_loadCells_list (P:=P) w.drew ⟨b,off,none⟩ [] (by simp)
  simpa [Builtin.firstCells] using this
 have hrz:∀ ty,(Builtin.append_ #[(ρ.t 24),(ρ.t 3)] ty #[.slice (some ⟨b,off,none⟩) 0 c,.int .i64 ((n:Int)+1)]).run P w =
   .ok (.slice (some ⟨w.heap.size,0,none⟩) (n+1) (grownCap w (n+1) c (ρ.t 9))) (w.drew.alloc (.cells (([]:List Value).toArray++Builtin.zeroCells (Value.agg #[.int .i64 0,.int .i64 0]).cells (n+1)++Builtin.zeroCells (Value.agg #[.int .i64 0,.int .i64 0]).cells (grownCap w (n+1) c (ρ.t 9)-(n+1))) (ρ.t 9))):=fun ty=>by
  have h:=Lib.run_append_grow_zeros w (ρ.t 24) (ρ.t 3) ty (ρ.t 9) i0 _ .i64 .i64 L.t24 L.t3 hi0 hz0 (some ⟨b,off,none⟩) 0 c [] hold (n+1) (by omega) (by omega) (by omega) (by omega) (by rw [hzb];omega) (by rw [hzb,Nat.zero_add];exact growslice_fits hroom hbig)
  rw [Nat.zero_add] at h
  exact h
 obtain ⟨G,hG⟩:∃ G,G=grownCap w (n+1) c (ρ.t 9):=⟨_,rfl⟩
 have hGn:n+1≤G:=by rw [hG];exact grownCap_ge w _ _ _
 have hG63:G≤9223372036854775807:=by
  have:=grownCap_le_maxLen w (n+1) c (ρ.t 9) (by unfold maxLen;omega)
  rw [← hG] at this
  unfold maxLen at this
  omega
 obtain ⟨ROW,hROW⟩:∃ ROW:Array Value,ROW=([]:List Value).toArray++Builtin.zeroCells (Value.agg #[.int .i64 0,.int .i64 0]).cells (n+1)++Builtin.zeroCells (Value.agg #[.int .i64 0,.int .i64 0]).cells (G-(n+1)):=⟨_,rfl⟩
 rw [← hG] at hrz ⊢
 rw [← hROW] at hrz
 have hRl:ROW.size=G * 2:=by
  rw [hROW,Array.size_append,Array.size_append,zero2_size,zero2_size]
  simp
  omega
 obtain ⟨W1,hW1⟩:∃ W1,W1=w.drew.alloc (.cells ROW (ρ.t 9)):=⟨_,rfl⟩
 rw [← hW1] at hrz
 have hN:∀ j,j<n * 2+2→(W1.cell? ⟨w.heap.size,j,none⟩).isSome=true:=fun j hj=>by
  rw [hW1,World.cell?_alloc_at (w:=w.drew) ROW _ w.heap.size j rfl,Array.getElem?_eq_getElem (by omega)];rfl
 have hNf:∀ j,W1.frozen? ⟨w.heap.size,j,none⟩=false:=fun j=>by rw [hW1];exact World.frozen?_alloc_at (w:=w.drew) ROW _ w.heap.size j rfl
 have hOb:∀ j v,w.cell? ⟨b,j,none⟩=some v→W1.cell? ⟨b,j,none⟩=some v:=fun j v h=>by rw [hW1,World.cell?_alloc_past (w:=w.drew) _ b j hbw];exact h
 have hOv:∀ j v,w.cell? ⟨vb,j,none⟩=some v→W1.cell? ⟨vb,j,none⟩=some v:=fun j v h=>by rw [hW1,World.cell?_alloc_past (w:=w.drew) _ vb j hvw];exact h
 have hcpA:∀ (W:World),(∀ x,W.cell? x=W1.cell? x)→(∀ x,W.frozen? x=W1.frozen? x)→∀ ty dc,(Builtin.copy_ #[(ρ.t 24),(ρ.t 24)] ty #[.slice (some ⟨w.heap.size,0,none⟩) (n+1) dc,.slice (some ⟨vb,voff,none⟩) 1 vc]).run P W=.ok (goInt (1:Nat)) (W.setCells w.heap.size 0 vs):=fun W hWc hWf ty dc =>
  run_copy_two W _ _ ty (ρ.t 9) w.heap.size 0 (n+1) dc ⟨vb,voff,none⟩ 1 vc 1 vs L.t24 hsz (by simp only [Nat.min_def];split<;>omega) hvl
   (fun j v hj=>by rw [Addr.add_lit,hWc];exact hOv _ v (hvs j v hj))
   (fun j hj=>by rw [hWc,Nat.zero_add];exact hN _ (by omega)) (fun j hj=>by rw [hWf];exact hNf _) h1v
 have hbN:b ≠ w.heap.size:=by omega
 have hcpB:∀ (W:World),(∀ x,W.cell? x=(W1.setCells w.heap.size 0 vs).cell? x)→(∀ x,W.frozen? x=(W1.setCells w.heap.size 0 vs).frozen? x)→∀ ty dc sc,(Builtin.copy_ #[(ρ.t 24),(ρ.t 24)] ty #[.slice (some ⟨w.heap.size,2,none⟩) n dc,.slice (some ⟨b,off,none⟩) n sc]).run P W=.ok (goInt n) (W.setCells w.heap.size 2 cs):=fun W hWc hWf ty dc sc =>
  run_copy_two W _ _ ty (ρ.t 9) w.heap.size 2 n dc ⟨b,off,none⟩ n sc n cs L.t24 hsz (by simp only [Nat.min_def];split<;>omega) hcl
   (fun j v hj=>by
    rw [Addr.add_lit,hWc,World.cell?_setCells_out _ _ _ _ _ (fun h _=>absurd h hbN)]
    exact hOb _ v (hcs j v hj))
   (fun j hj=>by rw [hWc];exact isSome_setCells _ _ _ _ (fun t ht=>by rw [Nat.zero_add];exact hN _ (by omega)) _ (hN _ (by omega)))
   (fun j hj=>by rw [hWf,World.frozen?_setCells];exact hNf _) h1c
 subst hW1
 have hE1:∀ x,((w.alloc (.cells ROW (ρ.t 9))).drew).cell? x=(w.drew.alloc (.cells ROW (ρ.t 9))).cell? x:=fun x=>rfl
 have hE2:∀ x,((w.alloc (.cells ROW (ρ.t 9))).drew).frozen? x=(w.drew.alloc (.cells ROW (ρ.t 9))).frozen? x:=fun x=>rfl
 have hF1:∀ x,(((w.alloc (.cells ROW (ρ.t 9))).drew.setCells w.heap.size 0 vs).drew).cell? x=((w.drew.alloc (.cells ROW (ρ.t 9))).setCells w.heap.size 0 vs).cell? x:=fun x=>rfl
 have hF2:∀ x,(((w.alloc (.cells ROW (ρ.t 9))).drew.setCells w.heap.size 0 vs).drew).frozen? x=((w.drew.alloc (.cells ROW (ρ.t 9))).setCells w.heap.size 0 vs).frozen? x:=fun x=>rfl
 have hw1:IntKind.i64.wrap (1:Int)=1:=by rw [IntKind.wrap_i64];omega
 have hb1:(1:Int)≤(n:Int)+1:=by omega
 have hb3:(0:Int)≤(n:Int)+1:=by omega
 have hb4:(0:Int)≤(c:Int):=by omega
 have hb5:(0:Int)≤(n:Int):=by omega
 have hGi:¬ (G=0):=by omega
 have hGim:¬ (G=1):=by omega
 have hci:¬ (c=0):=by omega
 clear hold hROW hG
 obtain ⟨nm,F22⟩:=L.f22
 go_enter F22,Body2.n22_ntmps ρ
 go_wp2_with (first
  | (at_builtin;refine Lib.wpList_append_run _ rfl _ _ _ _ rfl _ _ rfl rfl _ _ (hrz _) ?_)
  | (at_builtin;refine wpList_copy_runI _ rfl _ _ (ρ.t 24) (ρ.t 24) rfl _ _ rfl rfl (hcpA _ hE1 hE2 _ _) ?_))
 go_region_law_o (refine step_copy_runI rfl _ _ (ρ.t 24) (ρ.t 24) rfl (.slice (some ⟨w.heap.size,2,none⟩) n (G-1)) (.slice (some ⟨b,off,none⟩) n c) (by simp [Act.eval,Act.put]) (by simp [Act.eval,Act.put]) (hcpB _ hF1 hF2 (ρ.t 3) (G-1) c) ?_)
 go_wp2
 go_ret
 exact ⟨ROW,hRl,rfl,rfl⟩
end
end Go.AM
namespace Go.AM
open Go.Shelf Go.Lib Go.Proofs
theorem insF2_of {P:Program} {ρ:Ren} (L:LayI2 P ρ):InsF2 P (ρ.f 22) (ρ.t 9):=by
 refine ⟨?_,?_⟩
 ·have:=L.i9
  cases h:P.info? (ρ.t 9) with
  | none=>rw [h] at this;cases this
  | some q =>
   rw [h] at this
   simp only [Option.map_some,Option.some.injEq,Prod.mk.injEq] at this
   exact ⟨q,rfl,this.2.1⟩
 ·intro b off n c vb voff vc C VC T TV fz fv v1 v2 w hi hnc hc hn hvb hb hsz hroom hfz h1c hv hv1 hv2 h1v1 h1v2 hf1 hf2
  obtain ⟨cs,ecs⟩:∃ cs,cs=(C.toList.drop off).take (n * 2):=⟨_,rfl⟩
  have hcl:cs.length=n * 2:=by rw [ecs,List.length_take,List.length_drop,Array.length_toList];omega
  have hcs:∀ j u,cs[j]?=some u→C[off+j]?=some u:=fun j u h=>by
   rw [ecs,List.getElem?_take] at h
   split at h
   ·rw [List.getElem?_drop,Array.getElem?_toList] at h;exact h
   ·cases h
  have hjn:∀ j u,cs[j]?=some u→j<n * 2:=fun j u h=>by rw [← hcl];exact (List.getElem?_eq_some_iff.1 h).1
  have hcell:∀ j u,cs[j]?=some u→w.cell? ⟨b,off+j,none⟩=some u:=fun j u h=>by
   simp only [World.cell?,hb];exact hcs j u h
  have h1cs:∀ u ∈ cs,u.oneCell'=true:=fun u hu=>by
   obtain ⟨j,hj⟩:=List.getElem?_of_mem hu
   exact h1c j u (hjn j u hj) (hcs j u hj)
  have hvs:∀ (j:Nat) (u:Value),[v1,v2][j]?=some u→w.cell? ⟨vb,voff+j,none⟩=some u:=fun j u h=>by
   match j,h with
   | 0,h=>cases h;simp only [World.cell?,hv];exact hv1
   | 1,h=>cases h;simp only [World.cell?,hv];exact hv2
  have h1vs:∀ u ∈ [v1,v2],u.oneCell'=true:=fun u hu=>by
   simp only [List.mem_cons,List.not_mem_nil,or_false] at hu
   rcases hu with rfl|rfl
   ·exact h1v1
   ·exact h1v2
  have eM:insV2 C off n v1 v2=[v1,v2]++cs:=by unfold insV2;rw [← ecs];rfl
  have hM:∀ j,(insV2 C off n v1 v2)[j]?=if j<2 then [v1,v2][j]? else cs[j-2]?:=fun j=>by
   rw [eM]
   by_cases q:j<2
   ·rw [if_pos q,List.getElem?_append_left (by simpa using q)]
   ·rw [if_neg q,List.getElem?_append_right (by simp;omega)];rfl
  have hvbs:vb<w.heap.size:=(Array.getElem?_eq_some_iff.1 hv).1
  by_cases hr:n+1≤c
  ·have hsz2:=hroom hr
   have:=ins2_shift L b off n c vb voff vc cs [v1,v2] w hi hr hc hvb hcl rfl hcell
    (fun j hj=>by simp only [World.cell?,hb];rw [Array.getElem?_eq_getElem (show off+j<C.size by omega)];rfl)
    (fun j hj=>by
     have:=hfz hr (off+j) (by omega) (by omega)
     simp only [World.frozen?,hb,Bool.and_eq_false_iff,decide_eq_false_iff_not];omega)
    hvs h1cs h1vs TV T VC.size C.size (by simp only [World.shape?,hv]) (by simp only [World.shape?,hb]) (by omega)
    (by simp only [World.frozen?,hv,Bool.and_eq_false_iff,decide_eq_false_iff_not];omega) (by simp only [World.frozen?,hv,Bool.and_eq_false_iff,decide_eq_false_iff_not];omega)
   refine this.mono fun r w' ⟨h1,h2⟩=>?_
   have hbd:w.drew.heap[b]?=some (.cells C T fz):=hb
   obtain ⟨C1,a1,a2,a3,a4,a5,a6,a7,a8⟩:=setCells_heap cs (off+2) w.drew C hbd (by omega)
   obtain ⟨C2,b1,b2,b3,b4,b5,b6,b7,b8⟩:=setCells_heap [v1,v2] off (w.drew.setCells b (off+2) cs) C1 a1 (by simp;omega)
   rw [h2]
   refine ⟨⟨b6.trans a6,b7.trans a7,b8.trans a8⟩,.inl ⟨hr,h1,b5.trans a5,fun k hk=>(b4 k hk).trans (a4 k hk),C2,b1,by rw [b2,a2],fun j hj=>?_⟩⟩
   rw [hM,b3]
   by_cases c1:j<2
   ·rw [if_pos c1,if_pos (by simp;omega),Nat.add_sub_cancel_left]
   ·rw [if_neg c1,if_neg (by simp;omega),a3,if_pos (by omega)]
    congr 1;omega
  ·have:=ins2_grow L b off n c vb voff vc cs [v1,v2] w hi hnc (by omega) (by omega) hcl rfl hcell hvs h1cs h1vs
   refine this.mono fun r w' ⟨Z,hZs,h1,h2⟩=>?_
   obtain ⟨G,eG⟩:∃ G,G=grownCap w (n+1) c (ρ.t 9):=⟨_,rfl⟩
   have hG1:n+1≤G:=by rw [eG];exact grownCap_ge w _ _ _
   have hG2:G≤9223372036854775807:=by
    have:=grownCap_le_maxLen w (n+1) c (ρ.t 9) (by unfold maxLen;omega)
    rw [← eG] at this
    unfold maxLen at this
    omega
   rw [← eG] at h1 hZs
   have hb0:(w.alloc (.cells Z (ρ.t 9))).drew.heap[w.heap.size]?=some (.cells Z (ρ.t 9) (0,0)):=by
    show (w.heap.push _)[w.heap.size]?=_
    rw [Array.getElem?_push,if_pos rfl]
   obtain ⟨C1,a1,a2,a3,a4,a5,a6,a7,a8⟩:=setCells_heap [v1,v2] 0 (w.alloc (.cells Z (ρ.t 9))).drew Z hb0 (by simp;omega)
   obtain ⟨C2,b1,b2,b3,b4,b5,b6,b7,b8⟩:=setCells_heap cs 2 ((w.alloc (.cells Z (ρ.t 9))).drew.setCells w.heap.size 0 [v1,v2]).drew C1 a1 (by omega)
   rw [h2]
   refine ⟨⟨b6.trans a6,b7.trans a7,b8.trans a8⟩,.inr ⟨by omega,G,ρ.t 9,hG1,hG2,h1,?_,fun k hk=>?_,C2,b1,by rw [b2,a2,hZs],fun j hj=>?_⟩⟩
   ·refine b5.trans (a5.trans ?_)
    show (w.heap.push _).size=_
    rw [Array.size_push]
   ·refine (b4 k (by omega)).trans ((a4 k (by omega)).trans ?_)
    show (w.heap.push _)[k]?=_
    rw [Array.getElem?_push,if_neg (by omega)]
   ·rw [hM,b3]
    by_cases c1:j<2
    ·rw [if_pos c1,if_neg (by omega),a3,if_pos (by simp;omega),Nat.sub_zero]
    ·rw [if_neg c1,if_pos (by omega)]
end Go.AM
namespace Go.AM
open Go.Proofs.Try
attribute [-go_sem] put_ne put_same
attribute [local go_sem ↓] put_if
def inmRen:Go.Shelf.Ren:=⟨fun x=>match x with
  | 22=>25
  | 29=>91
  | 30=>92
  | 36=>153
  | 40=>186
  | n=>n,
 fun x=>match x with
  | 24=>33
  | 9=>36
  | 3=>3
  | 4=>4
  | n=>n,
 fun n=>n⟩
theorem inmB22:f25={ Go.Proofs.Body2.n22 inmRen with name:=f25.name }:=by kernel_rfl
theorem inmF22:∃ nm,prog.funcs[inmRen.f 22]?=some { Go.Proofs.Body2.n22 inmRen with name:=nm }:=by
 have e:inmRen.f 22=25:=rfl
 refine ⟨f25.name,?_⟩
 rw [e,← inmB22];exact func25
theorem inmT0:inmRen.t 0=0:=rfl
theorem inmT3:inmRen.t 3=3:=rfl
theorem inmT4:inmRen.t 4=4:=rfl
theorem inmT9:inmRen.t 9=36:=rfl
theorem inmT24:inmRen.t 24=33:=rfl
theorem inmLays:LayI2 prog inmRen:=by
 refine { mixed:=by kernel_rfl,f22:=inmF22,t0:=?_,a0:=?_,z0:=?_,v0:=?_,t3:=?_,a3:=?_,z3:=?_,v3:=?_,t4:=?_,a4:=?_,z4:=?_,v4:=?_,z9:=?_,v9:=?_,t24:=?_,a24:=?_,z24:=?_,v24:=?_,i9:=?_,ov:=?_ }
 ·rw [inmT0];exact underlying0
 ·intro w;rw [inmT0];exact isAgg0 w
 ·intro w;rw [inmT0];exact sizeOf0 w
 ·intro w;rw [inmT0];exact zeroValue0 w
 ·rw [inmT3];exact underlying3
 ·intro w;rw [inmT3];exact isAgg3 w
 ·intro w;rw [inmT3];exact sizeOf3 w
 ·intro w;rw [inmT3];exact zeroValue3 w
 ·rw [inmT4];exact underlying4
 ·intro w;rw [inmT4];exact isAgg4 w
 ·intro w;rw [inmT4];exact sizeOf4 w
 ·intro w;rw [inmT4];exact zeroValue4 w
 ·intro w;rw [inmT9];exact sizeOf36 w
 ·intro w;rw [inmT9];exact zeroValue36 w
 ·rw [inmT24,inmT9];exact underlying33
 ·intro w;rw [inmT24];exact isAgg33 w
 ·intro w;rw [inmT24];exact sizeOf33 w
 ·intro w;rw [inmT24];exact zeroValue33 w
 ·rw [inmT9];kernel_rfl
 ·intro w vb voff m vc b o lb cb tA tB kA kB hvb hsa hsb hkB hfa hfe
  have e:inmRen.f 29=91:=rfl
  rw [e,Go.run_callFunc_extern func91 (by kernel_rfl) (by kernel_rfl) (by kernel_rfl) (e:=Extern.SlicesOverlaps.overlaps #[33,33] #[4]) (by kernel_rfl),
   Go.Lib.run_overlaps_apart w 33 4 36 underlying33 2 sizeOf36 ⟨vb,voff,none⟩ ⟨b,o,none⟩ m vc lb cb hvb tA tB kA kB hsa hsb hkB hfa hfe]
  rfl
theorem inmLaw:InsF2 prog 25 36:=by
 have h:=insF2_of inmLays
 have e:inmRen.f 22=25:=rfl
 rw [e,inmT9] at h
 exact h
end Go.AM
namespace Go.AM
def cmpK (l:List Int):Nat→Nat
 | 0=>0
 | n+1=>cmpK l n+if n=0 ∨ l.getD n 0 ≠ l.getD (n-1) 0 then 1 else 0
def fitsL (L:Lac) (gap:List Int):List Int:=gap.flatMap fun p=>(upto L.C.length).filter fun k=>fitB L p.toNat k.toNat
end Go.AM
namespace Go.AM
open Go.Shelf Go.Sort Go.Proofs
end Go.AM
namespace Go.AM
open Go.Proofs.Try
end Go.AM
namespace Go.AM
open Go.Proofs.Try
def srtRen:Go.Shelf.Ren:=⟨fun x=>match x with
  | 189=>86
  | 125=>150
  | 257=>149
  | 128=>183
  | 129=>184
  | 294=>175
  | 295=>176
  | 296=>177
  | 297=>178
  | 298=>179
  | 299=>180
  | 216=>116
  | 300=>181
  | 301=>182
  | 328=>198
  | 329=>199
  | 330=>200
  | 331=>201
  | 332=>202
  | 215=>160
  | 343=>204
  | n=>n,
 fun x=>match x with
  | 28=>25
  | 3=>3
  | 46=>175
  | 0=>0
  | 51=>201
  | 53=>120
  | 4=>4
  | 183=>194
  | 182=>193
  | 131=>198
  | 5=>5
  | 9=>9
  | 218=>209
  | 222=>213
  | 228=>216
  | 229=>182
  | n=>n,
 fun n=>n⟩
theorem srtT0:srtRen.t 0=0:=rfl
theorem srtT3:srtRen.t 3=3:=rfl
theorem srtT4:srtRen.t 4=4:=rfl
theorem srtT5:srtRen.t 5=5:=rfl
theorem srtT9:srtRen.t 9=9:=rfl
theorem srtT28:srtRen.t 28=25:=rfl
theorem srtT46:srtRen.t 46=175:=rfl
theorem srtT51:srtRen.t 51=201:=rfl
theorem srtT53:srtRen.t 53=120:=rfl
theorem srtT131:srtRen.t 131=198:=rfl
theorem srtT182:srtRen.t 182=193:=rfl
theorem srtT183:srtRen.t 183=194:=rfl
theorem srtT218:srtRen.t 218=209:=rfl
theorem srtT222:srtRen.t 222=213:=rfl
theorem srtT228:srtRen.t 228=216:=rfl
theorem srtT229:srtRen.t 229=182:=rfl
end Go.AM
namespace Go.AM
open Go.Proofs.Try
attribute [-go_sem] put_ne put_same
attribute [local go_sem ↓] put_if
end Go.AM
namespace Go.AM
def agrB (L:Lac) (r:Rw3) (k:Nat):Bool:=(List.range L.T.toNat).all fun t=>!r.2.1.toNat.testBit t || ((L.C.getD k 0).toNat.testBit t == r.2.2.toNat.testBit t)
def fitR (L:Lac) (p k:Nat):Bool:=L.R.all fun r=>!decide (r.1.toNat % L.C.length=p) || agrB L r k
def xplB (L:Lac) (o:List Int):Bool:=L.R.all fun r=>agrB L r (o.getD (r.1.toNat % o.length) 0).toNat
def allR (L:Lac):List (List Int):=(ordsF (fun _ _=>true) L.C.length L.C.length []).filter (xplB L)
end Go.AM
namespace Go.AM
open Go.Proofs.Try
attribute [-go_sem] put_ne put_same
attribute [local go_sem ↓] put_if
end Go.AM
namespace Go.AM
open Go.Proofs.Try
attribute [-go_sem] put_ne put_same
attribute [local go_sem ↓] put_if
abbrev rcB (T:Int) (cv rv:AVal):ABlk:=⟨.cells [.int .i64 T,cv,rv] 49 false false,0⟩
abbrev rrB (r:Rw3):ABlk:=⟨.cells [.int .i64 r.1,.int .i64 r.2.1,.int .i64 r.2.2] 79 false false,0⟩
section
variable {h:Heap} {rv:AVal} {R:List Rw3} {i:Nat} {r:Rw3}
end
theorem setB_off {T x:Int}:(!decide (0≤x∧x≤2 ^ T.toNat-1))=!setB T x:=rfl
end Go.AM
namespace Go.AM
open Go.Proofs.Try
attribute [-go_sem] put_ne put_same
attribute [local go_sem ↓] put_if
end Go.AM
namespace Go.AM
open Go.Proofs.Try
attribute [-go_sem] put_ne put_same
attribute [local go_sem ↓] put_if
section
variable {b:Nat} {H H':Heap} {v:AVal} {ts:List (List Int)}
def AllX (b e:Nat) (H:Heap) (v:AVal) (ts:List (List Int)):Prop:=∃ vs:List AVal,Own encZ 25 b H v vs∧vs.length=ts.length∧∀ (i:Nat) x t,vs[i]?=some x→ts[i]?=some t→OwnE encI 3 e H x t
end
def allF (n d:Nat) (l:List Int) (k:Int):List (List Int):=if ((fun (_ _:Nat)=>true) l.length k.toNat && decide (k ∉ l))=true then ordsF (fun _ _=>true) n d (l++[k]) else []
theorem ordsF_all {n d:Nat} {l:List Int}:ordsF (fun _ _=>true) n (d+1) l=(upto n).flatMap (allF n d l):=rfl
end Go.AM
namespace Go.AM
def insAt (l:List Int) (i:Nat) (k:Int):List Int:=l.take i++k :: l.drop i
def ordsI:Nat→List (List Int)
 | 0=>[[]]
 | n+1=>(ordsI n).flatMap fun l=>(List.range (l.length+1)).map fun i=>insAt l i (n:Int)
end Go.AM
namespace Go.AM
open Go.Proofs.Try
attribute [-go_sem] put_ne put_same
attribute [local go_sem ↓] put_if
def insN (l:List Int) (k:Int) (m:Nat):List (List Int):=(List.range m).map fun i=>insAt l i k
def nxtN (ls:List (List Int)) (k:Int) (m:Nat):List (List Int):=(ls.take m).flatMap fun l=>insN l k (l.length+1)
def cmpI (a b:Int):Int:=if a<b then -1 else if a > b then 1 else 0
def cmpL:List Int→List Int→Int
 | x :: a,y :: b=>if x=y then cmpL a b else cmpI x y
 | _,_=>0
end Go.AM
namespace Go.AM
open Go.Proofs.Try
attribute [-go_sem] put_ne put_same
attribute [local go_sem ↓] put_if
def lftN (L:Lac) (ps:List Int) (os:List (List Int)):Nat→Nat
 | 0=>0
 | j+1=>if xplD L (os.getD j []) (os.getD j []).length=true then max (lftN L ps os j) (fnd (shwL L (os.getD j []) ps)).length else lftN L ps os j
end Go.AM
namespace Go.AM
open Go.Proofs.Try
attribute [-go_sem] put_ne put_same
attribute [local go_sem ↓] put_if
theorem Own.app0 {α:Type} {E:Enc α} {P:Program} {base b:Nat} {h:Heap} {v x:AVal} {l:List α} {t e:TypeId} {zs:List AVal} (hO:Own E e b h v l) (hR:Rows E h x []) (ht:elS P t=some (e,E.z,zs)):appendA P base h t v x=some (v,h):=by
 have h1:=hR.lenA
 have h2:=hR.firstN
 simp only [flat_nil,List.length_nil] at h1 h2
 rcases hO with ⟨rfl,rfl⟩|⟨id,ver,rfl,g,_,_⟩
 ·simp only [appendA,ht,h1,h2,List.all_nil,if_true]
 ·have hst:storeN base h (ARef.add ⟨id,ver,0⟩ (l.length * E.z)) []=some h:=by
   have hid:=set_id g
   unfold rowE at g hid
   simp only [storeN,ARef.add,g,flat_len,List.length_nil,List.all_nil]
   rw [if_pos ⟨trivial,by omega,trivial,.inr trivial⟩]
   exact congrArg some hid
  simp only [appendA,ht,h1,h2,List.all_nil,if_true]
  rw [if_pos (by omega),hst]
  rfl
structure Gpd (h K:Heap) (b:Nat) (v0 v1:AVal) (l0 l1:List Int) (T:Int) (C o:List Int) (cv ov:AVal) (kq:Nat) (rw':AVal) (Ri:List Rw3) (i:Nat):Prop where
 fs:K[h.length]?=some (spB v0 l0 kq)
 fq:K[h.length+1]?=some (spB v1 l1 0)
 fk:kq≤1000+10 * i
 ext:Ext h K
 fb:h.length+2≤b∧b<K.length
 fg:K[b]?=some (lacB T cv rw')
 oC:OwnE encI 3 (h.length+2) K cv C
 oO:OwnE encI 3 (h.length+2) K ov o
 oR:OwnE encR 70 (h.length+2) K rw' Ri
 ok:LacOk ⟨T,C,Ri⟩
 rl:Ri.length≤i
end Go.AM
namespace Go.AM
open Go.Proofs.Try
attribute [-go_sem] put_ne put_same
attribute [local go_sem ↓] put_if
def OffV (i:Nat) (v:AVal):Prop:=∀ r n c,v=.slice (some r) n c→r.id ≠ i
structure GrownV (h:Heap) (v:AVal) (H:Heap) (w:AVal):Prop where
 len:h.length≤H.length
 keep:∀ i y,h[i]?=some y→OffV i v→H[i]?=some y
 off:∀ i,i<h.length→OffV i v→OffV i w
theorem GrownV.own {α:Type} {E:Enc α} {e b:Nat} {h H:Heap} {v w x:AVal} {l:List α} (g:GrownV h v H w) (hO:Own E e b h x l) (ho:∀ i,i<h.length→OffV i v ∨ OffV i x):Own E e b H x l:=by
 rcases hO with q|⟨id,ver,rfl,g1,g2,g3⟩
 ·exact .inl q
 ·have hid:=lt_of_get g1
  rcases ho id hid with q|q
  ·exact .inr ⟨id,ver,rfl,g.keep id _ g1 q,g2,g3⟩
  ·exact absurd rfl (q _ _ _ rfl)
theorem Own.growR {α:Type} {E:Enc α} {P:Program} {base b:Nat} {h:Heap} {v x:AVal} {l m:List α} {t e:TypeId} {zs:List AVal} (hO:Own E e b h v l) (hR:Rows E h x m) (ht:elS P t=some (e,E.z,zs)) (hs:∀ y,(E.cells y).all AVal.scalar=true) (hb:base≤b) (hbh:b≤h.length) (hm:0<m.length) (hsz:l.length+m.length<2147483648) :
  ∃ v' h',appendA P base h t v x=some (v',h')∧Own E e b h' v' (l++m)∧(∀ G,G.length≤b→Ext G h→Ext G h')∧GrownV h v h' v':=by
 have hx1:=hR.lenA
 have hx2:=hR.firstN
 rcases hO with ⟨rfl,rfl⟩|⟨id,ver,rfl,h1,h2,h3⟩
 ·refine ⟨.slice (some ⟨h.length,0,0⟩) m.length m.length,h++[rowE E e m 0],?_,.inr ⟨h.length,0,rfl,get_eq rfl,hbh,by simpa using hm⟩,fun G _ g=>.app g,by simp,fun i y g _=>get_app g,fun i hi _ r n c q=>?_⟩
  ·simp only [appendA,ht,hx1,hx2,flat_scalar hs,if_true]
   rw [if_neg (by omega),if_pos (show m.length<2 ^ 31 by simp at hsz;omega)]
   rfl
  ·cases q;simp only;omega
 ·refine ⟨.slice (some ⟨id,ver+1,0⟩) (l++m).length (l++m).length,h.set id (rowE E e (l++m) (ver+1)),?_,.inr ⟨id,ver+1,rfl,by rw [List.getElem?_set_self (lt_of_get h1)],h2,by simp;omega⟩,fun G hG g=>g.set (by omega),by simp,fun i y g hy=>?_,fun i _ hq r n c q=>?_⟩
  ·simp only [appendA,ht,hx1,hx2,flat_scalar hs,if_true]
   rw [if_neg (by omega),h1]
   simp only [rowE,flat_len]
   rw [if_pos ⟨trivial,trivial,trivial,trivial,show l.length+m.length<2 ^ 31 from hsz,h3,.inl (by omega)⟩]
   rw [List.take_of_length_le (by rw [flat_len];exact Nat.le_refl _),← flat_app,List.length_append]
  ·rw [List.getElem?_set_ne (hy _ _ _ rfl)]
   exact g
  ·cases q
   exact hq ⟨id,ver,0⟩ _ _ rfl
theorem rev_end {m l:List Int} (hl:m.length=l.length) (h:∀ k,k<l.length→m.getD k 0=l.getD (l.length-1-k) 0):m=l.reverse:=by
 refine List.ext_getElem (by rw [List.length_reverse,hl]) fun k h1 h2=>?_
 have:=h k (by omega)
 rw [List.getD_eq_getElem?_getD,List.getD_eq_getElem?_getD,List.getElem?_eq_getElem h1,List.getElem?_eq_getElem (show l.length-1-k<l.length by omega)] at this
 simp only [Option.getD_some] at this
 rw [this,List.getElem_reverse]
theorem set2_get {m:List Int} {i j k:Nat} {x y:Int} (hi:i<m.length) (hj:j<m.length) (hij:i<j):((m.set i x).set j y).getD k 0=if k=j then y else if k=i then x else m.getD k 0:=by
 simp only [List.getD_eq_getElem?_getD,List.getElem?_set,List.length_set]
 by_cases c1:k=j
 ·rw [if_pos c1.symm,if_pos c1,if_pos hj];rfl
 ·rw [if_neg (fun e=>c1 e.symm),if_neg c1]
  by_cases c2:k=i
  ·rw [if_pos c2.symm,if_pos c2,if_pos hi];rfl
  ·rw [if_neg (fun e=>c2 e.symm),if_neg c2]
theorem run_reverse {base id ver:Nat} {h:Heap} {l:List Int} (hg:h[id]?=some (iB l ver)) (hl:l.length≤1000) :
  callL prog raw base (.fn 22 [] []) [.slice (some ⟨id,ver,0⟩) l.length l.length] h=some (.tuple [],h.set id (iB l.reverse ver)):=by
 have gs:∀ m,(h.set id (iB m ver))[id]?=some (iB m ver):=fun m=>by rw [List.getElem?_set_self (lt_of_get hg)]
 have h0:h.set id (iB l ver)=h:=set_id hg
 have hend:∀ {H:Heap},H=h.set id (iB l.reverse ver)→compact h.length (.tuple []) H=some (.tuple [],h.set id (iB l.reverse ver)):=by
  rintro _ rfl
  have e:h.length=(h.set id (iB l.reverse ver)).length:=by simp
  rw [e]
  exact compact_plain' rfl
 have hid:=lt_of_get hg
 have hlen:∀ (H:Heap),lenOpA prog H 25 (.slice (some ⟨id,ver,0⟩) l.length l.length)=some (.int .i64 (l.length:Int)):=fun H=>by simp [lenOpA,Fc.el25,lenA]
 obtain ⟨n,en⟩:∃ n,n=l.length:=⟨_,rfl⟩
 rw [← en] at hl hlen ⊢
 refine callL_run func22 rfl rfl ?_
 have hsp:=@Nat.succ_ne_zero;repeat' (first|simp (disch:=first|exact dqb|fail) only [go_sem,↓reduceIte,hsp,hlen]|refine WP_drw ?_|refine cnd_intro (fun hsp=>?_) fun hsp=>?_)
 refine WP_count [(2,27)] 0 (n / 2) (Nat.zero_le _) (fun _ i fr h'=>fr 2=.int .i64 (i:Int)∧fr 3=.int .i64 ((n:Int)-1-(i:Int))∧∃ m:List Int,h'=h.set id (iB m ver)∧m.length=n∧∀ k,k<n→m.getD k 0=if k<i ∨ n-i≤k then l.getD (n-1-k) 0 else l.getD k 0) ?_ ?_ ?_
 ·exact ⟨by (simp (disch:=first|exact dqb|fail) only [go_sem,↓reduceIte,Int.natCast_zero];first|done|rfl),by (simp (disch:=first|exact dqb|fail) only [go_sem,↓reduceIte,Int.natCast_zero,Int.sub_zero];first|done|rfl),l,h0.symm,en.symm,fun k hk=>by rw [if_neg (by omega)]⟩
 ·rintro i fr H hi0 hi hA ⟨p2,p3,m,eH,hm,hs⟩
  have p0:=hA 0 rfl
  try simp (disch:=first|exact dqb|fail) only [go_sem,↓reduceIte] at p0
  have hlt:((i:Int)<(n:Int)-1-(i:Int))=True:=eq_true (by omega)
  obtain ⟨j,ej⟩:∃ j:Nat,(n:Int)-1-(i:Int)=(j:Int):=⟨n-1-i,by omega⟩
  have g2:H[id]?=some ⟨.cells (ints m) 3 true false,ver⟩:=by rw [eH];exact gs m
  have adr:∀ x:Nat,x<n→indexAddrA prog 25 (.slice (some ⟨id,ver,0⟩) n n) (.int .i64 (x:Int))=some (.ptr (some ⟨id,ver,x⟩)):=fun x hx=>by
   rw [adr_sl Fc.el25 Fc.ar25 (by omega) (by omega),Int.toNat_natCast,Nat.mul_one,Nat.zero_add]
  have a1:=adr i (by omega)
  have a2:=adr j (by omega)
  have d1:loadP prog H 3 (.ptr (some ⟨id,ver,i⟩))=some (.int .i64 (m.getD i 0)):=by
   rw [load_eq,Fc.ty3,g2];exact ldB_ints (by omega)
  have d2:loadP prog H 3 (.ptr (some ⟨id,ver,j⟩))=some (.int .i64 (m.getD j 0)):=by
   rw [load_eq,Fc.ty3,g2];exact ldB_ints (by omega)
  have st1:∀ {K:ABlk→Heap},stQ h.length id (some ⟨.cells (ints m) 3 true false,ver⟩) ver i [.int .i64 (m.getD j 0)] K=some (K ⟨.cells (ints (m.set i (m.getD j 0))) 3 true false,ver⟩):=fun {K}=>stQ_ints (by omega)
  have st2:∀ {K:ABlk→Heap},stQ h.length id (some ⟨.cells (ints (m.set i (m.getD j 0))) 3 true false,ver⟩) ver j [.int .i64 (m.getD i 0)] K=some (K ⟨.cells (ints ((m.set i (m.getD j 0)).set j (m.getD i 0))) 3 true false,ver⟩):=fun {K}=>stQ_ints (by simp;omega)
  obtain ⟨H3,eH3⟩:∃ H3,H3=H.set id ⟨.cells (ints (m.set i (m.getD j 0))) 3 true false,ver⟩:=⟨_,rfl⟩
  have g3:H3[id]?=some ⟨.cells (ints (m.set i (m.getD j 0))) 3 true false,ver⟩:=by rw [eH3,List.getElem?_set_self (lt_of_get g2)]
  rw [ej] at hlt p3
  have hsp:=@Nat.succ_ne_zero;repeat' (first|simp (disch:=first|exact dqb|fail) only [go_sem,↓reduceIte,hsp,p0,p2,p3,hlt,a1,a2,d1,d2,g2,st1,← eH3,g3,st2]|refine WP_drw ?_|refine cnd_intro (fun hsp=>?_) fun hsp=>?_)
  refine ⟨agq,by omega,by omega,(m.set i (m.getD j 0)).set j (m.getD i 0),by rw [eH3,eH,List.set_set,List.set_set],by simp [hm],fun k hk=>?_⟩
  rw [set2_get (by omega) (by omega) (by omega),hs k hk,hs i (by omega),hs j (by omega)]
  by_cases c1:k=j
  ·rw [if_pos c1,if_neg (by omega),if_pos (by omega),show n-1-k=i by omega]
  ·rw [if_neg c1]
   by_cases c2:k=i
   ·rw [if_pos c2,if_neg (by omega),if_pos (by omega),show n-1-k=j by omega]
   ·rw [if_neg c2]
    by_cases c3:k<i ∨ n-i≤k
    ·rw [if_pos c3,if_pos (by omega)]
    ·rw [if_neg c3,if_neg (by omega)]
 ·rintro fr H hA ⟨p2,p3,m,eH,hm,hs⟩
  have p0:=hA 0 rfl
  try simp (disch:=first|exact dqb|fail) only [go_sem,↓reduceIte] at p0
  have hlt:(((n / 2:Nat):Int)<(n:Int)-1-((n / 2:Nat):Int))=False:=eq_false (by omega)
  have hsp:=@Nat.succ_ne_zero;repeat' (first|simp (disch:=first|exact dqb|fail) only [go_sem,↓reduceIte,hsp,p0,p2,p3,hlt]|refine WP_drw ?_|refine cnd_intro (fun hsp=>?_) fun hsp=>?_)
  have e:m=l.reverse:=rev_end (by omega) fun k hk=>by
   rw [hs k (by omega),← en]
   split
   ·rfl
   ·rw [show n-1-k=k by omega]
  rw [e] at eH
  exact hend eH
theorem encM_flat1 {x:Int × Int} {F:List (Int × Int)}:flat encM (x :: F)=.int .i64 x.1 :: .int .i64 x.2 :: flat encM F:=by rw [flat_cons];rfl
theorem run_insM {base b:Nat} {h:Heap} {v:AVal} {F:List (Int × Int)} {id2:Nat} {x:Int × Int} (hO:Own encM 36 b h v F) (hg2:h[id2]?=some (rowE encM 36 [x] 0)) (hv2:OffV id2 v) (hb:base≤b) (hbh:b≤h.length) (hl:F.length≤1000) :
  ∃ w H,callL prog raw base (.fn 25 [] []) [v,.int .i64 0,.slice (some ⟨id2,0,0⟩) 1 1] h=some (w,H)∧Own encM 36 b H w (x :: F)∧(∀ G,G.length≤b→Ext G h→Ext G H)∧GrownV h v H w:=by
 have hx:Rows encM h (.slice (some ⟨id2,0,0⟩) 1 1) [x]:=Rows.own (E:=encM) (e:=36) hg2 rfl (by simp)
 rcases hO with ⟨rfl,rfl⟩|⟨id,ver,rfl,g1,hid,hsz⟩
 ·obtain ⟨w,H,ea,o1,o2,o3⟩:=(show Own encM 36 b h (.slice none 0 0) [] from .inl ⟨rfl,rfl⟩).growR (P:=prog) (base:=base) (t:=33) hx Fc.el33 encM_sc hb hbh (by simp) (by simp)
  rw [List.nil_append] at o1
  have hl2:∀ {H:Heap},lenOpA prog H 33 (.slice (some ⟨id2,0,0⟩) 1 1)=some (.int .i64 1):=fun {H}=>by simp [lenOpA,Fc.el33,lenA]
  have hlv:∀ {H:Heap},lenOpA prog H 33 (.slice none 0 0)=some (.int .i64 0):=fun {H}=>by simp [lenOpA,Fc.el33,lenA]
  have t0:((1:Int)=0)=False:=eq_false (by omega)
  have hsl:sliceA prog 33 (.slice none 0 0) (some (.int .i64 0)) none none=some (.slice none 0 0):=by simp [sliceA,Fc.ar33,Fc.el33,optB,boundA]
  have hq:(insQ f25 [.slice none 0 0,.int .i64 0,.slice (some ⟨id2,0,0⟩) 1 1] || srtQ f25 [.slice none 0 0,.int .i64 0,.slice (some ⟨id2,0,0⟩) 1 1])=false:=by
   rw [Bool.or_eq_false_iff]
   refine ⟨?_,by unfold srtQ;simp⟩
   unfold insQ
   rw [Bool.and_eq_false_iff]
   right
   rfl
  have key:Ret prog raw base (.fn 25 [] []) [.slice none 0 0,.int .i64 0,.slice (some ⟨id2,0,0⟩) 1 1] h (fun w' K=>w'=w∧K=H):=by
   refine ret_rawQ func25 rfl (by kernel_rfl) ?_ hq
   have hsp:=@Nat.succ_ne_zero;repeat' (first|simp (disch:=first|exact dqb|fail) only [go_sem,↓reduceIte,hsp,hsl,hl2,t0,hlv,eq_self,ea]|refine WP_drw ?_|refine cnd_intro (fun hsp=>?_) fun hsp=>?_)
  obtain ⟨w',K,e,rfl,rfl⟩:=key
  exact ⟨_,_,e,o1,o2,o3⟩
 ·have g1':=g1
  have g2':=hg2
  rw [rowE,encM_flat1,show flat encM []=[] from rfl] at g2'
  rw [rowE] at g1'
  have hne:=hv2 _ _ _ rfl
  have hsc:(AVal.int .i64 x.1 :: AVal.int .i64 x.2 :: flat encM F).all AVal.scalar=true:=by
   rw [← encM_flat1];exact flat_scalar encM_sc _
  have hfl:(flat encM F).length=F.length * 2:=by rw [flat_len];rfl
  have e:=callL_ins2 (P:=prog) (raw:=raw) (base:=base) (m2:=1) (n:=F.length) func25 (by kernel_rfl) (by kernel_rfl) inmLaw g1' g2' hfl (by omega) (by simpa using hne) (by omega) (by omega) hsc
  rw [← encM_flat1] at e
  have hlid:=lt_of_get g1
  refine ⟨_,_,e,.inr ⟨id,ver+1,by rw [List.length_cons],by rw [List.getElem?_set_self hlid,rowE],hid,by rw [List.length_cons];omega⟩,fun G hG g=>g.set (by omega),by rw [List.length_set];exact Nat.le_refl _,fun i y g hy=>?_,fun i _ hq r n c q=>?_⟩
  ·rw [List.getElem?_set_ne (hy _ _ _ rfl)]
   exact g
  ·cases q
   exact hq ⟨id,ver,0⟩ _ _ rfl
end Go.AM
namespace Go.AM
theorem flat_le {n:Nat}:∀ {ps:List (List Int)},(∀ x ∈ ps,x.length≤n)→ps.flatten.length≤ps.length * n
 | [],_=>by simp
 | x :: ps,h=>by
  have h1:=h x (by simp)
  have h2:=flat_le (n:=n) (ps:=ps) fun y hy=>h y (List.mem_cons_of_mem _ hy)
  rw [List.flatten_cons,List.length_append,List.length_cons,Nat.succ_mul]
  omega
theorem fall_rise {o q:List Int} (h:q.Pairwise (PilR o)) (hb:∀ p ∈ q,0≤p∧p<(o.length:Int)):RiseP o.reverse (q.reverse.map fun p=>(o.length:Int)-1-p):=by
 have ho:o.reverse.length=o.length:=List.length_reverse
 have hg:∀ p:Int,0≤p→p<(o.length:Int)→o.reverse.getD ((o.length:Int)-1-p).toNat 0=o.getD p.toNat 0:=fun p h0 h1=>by
  rw [List.getD_eq_getElem?_getD,List.getD_eq_getElem?_getD,List.getElem?_reverse (by omega)]
  congr 2
  omega
 refine ⟨?_,fun p hp=>?_⟩
 ·rw [List.pairwise_map,List.pairwise_reverse]
  refine h.imp_of_mem fun {a b} ha hb' hab=>?_
  have h1:=hb a ha
  have h2:=hb b hb'
  refine ⟨by have:=hab.1;omega,?_⟩
  rw [hg b h2.1 h2.2,hg a h1.1 h1.2]
  exact hab.2
 ·obtain ⟨x,hx,rfl⟩:=List.mem_map.1 hp
  have:=hb x (List.mem_reverse.1 hx)
  rw [ho];omega
theorem rise_turned {o:List Int} (hd:∀ i j,i<j→j<o.length→o.getD i 0 ≠ o.getD j 0):o.length≤(riseL o).length * (riseL o.reverse).length:=by
 have hp:=pilN_ok hd (n:=o.length) (Nat.le_refl _)
 have hr:=piles_rise hp (riseL_is o)
 have hl:=hp.all.length_eq
 rw [upto_len] at hl
 have hq:∀ x ∈ pilN o o.length,x.length≤(riseL o.reverse).length:=fun x hx=>by
  have hb:∀ p ∈ x,0≤p∧p<(o.length:Int):=fun p hp'=>upto_mem.1 (hp.all.mem_iff.1 (List.mem_flatten.2 ⟨x,hx,hp'⟩))
  have hR:=fall_rise (hp.dn x hx) hb
  have hlen:(x.reverse.map fun p=>(o.length:Int)-1-p).length=x.length:=by rw [List.length_map,List.length_reverse]
  rcases (riseL_is o.reverse).2 _ hR with q|⟨q,_⟩<;>omega
 have:=flat_le hq
 rw [hl,hr] at this
 exact this
theorem rise_three {o:List Int} (hd:∀ i j,i<j→j<o.length→o.getD i 0 ≠ o.getD j 0) (h2:1<o.length):3≤(riseL o).length+(riseL o.reverse).length:=by
 have h:=rise_turned hd
 refine Classical.byContradiction fun q=>?_
 have h3:(riseL o).length * (riseL o.reverse).length≤1:=by
  rcases (by omega:(riseL o).length=0 ∨ (riseL o.reverse).length=0 ∨ ((riseL o).length=1∧(riseL o.reverse).length=1)) with e|e|⟨e1,e2⟩
  ·rw [e];simp
  ·rw [e];simp
  ·rw [e1,e2];simp
 omega
def mvI (o:List Int) (m:Nat × Nat):List Int:=(o.eraseIdx m.1).insertIdx m.2 (o.getD m.1 0)
end Go.AM
