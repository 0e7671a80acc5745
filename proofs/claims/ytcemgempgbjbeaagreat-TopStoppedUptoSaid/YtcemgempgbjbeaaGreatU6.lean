/-
  slices.Insert into a full row: what the abstract machine says, the model does.
-/
import Derived.Test.YtcemgempgbjbeaaGreatU5
import Derived.Lib.Overlaps
set_option linter.unusedSimpArgs false
set_option linter.unusedVariables false
namespace Go.AM
section
variable {P:Program} {base:Nat} {μ:Mu} {h:Heap} {w:World}
theorem bodyA_some {fn:Func} {args:List AVal} {c:Code} (h:bodyA fn args=some c):fn.body=some c:=by
 unfold bodyA at h
 split at h
 ·cases h
 ·exact h
theorem callsIn_of {F:Fence} (hF:∀ f,F.fn f) (hd:F.depth=none∧F.alive=false) {f:FuncId} {args:Array Value} {R:Ending→World→Prop} (h:Calls P f args w R):CallsIn F 0 P f args w R:=by
 obtain ⟨fn,depth,alive,round⟩:=F
 obtain ⟨h1,h2⟩:=hd
 simp only at h1 h2 hF
 subst h1 h2
 have e:fn=fun _=>True:=funext fun f=>propext ⟨fun _=>trivial,fun _=>hF f⟩
 subst e
 show CallsIn Fence.wide 0 P f args w R
 exact callsIn_wide.2 h
set_option maxHeartbeats 1000000 in
theorem ins_sound {F:Fence} (hF:∀ f,F.fn f) (hd:F.depth=none∧F.alive=false) (H:HRel P μ h w) {f:FuncId} {fn:Func} {args:List AVal} {A:Array Value} {r:AVal} {h':Heap} (hq:insQ fn args=true) (hC:VRs μ args A.toList) (hv:insA P base f fn args h=some (r,h')) :
  CallsIn F 0 P f A w (fun e w''=>∃ X,e=.returned X∧Fine P base μ h w r h' X w''):=by
 obtain ⟨id,v,n,k,m,k2,i,id2,v2,c,e,e2,row2,x,rfl,g1,g2,⟨⟨q,hqi,hqs⟩,hcall⟩,hbody,hn,hne,hb,hnb,hsc,hr⟩:=insA_inv hv
 simp only [Prod.mk.injEq] at hr
 obtain ⟨rfl,rfl⟩:=hr
 unfold insQ at hq
 simp only [Bool.and_eq_true,decide_eq_true_eq] at hq
 obtain ⟨-,hkn,hi0,hin,hm1⟩:=hq
 have hkn':n=k:=hkn.symm
 subst hkn'
 subst hm1
 obtain ⟨S,XS,hA,hS,hXS⟩:=args_cons hC
 obtain ⟨I,X,rfl,hI,hX⟩:=args_two hXS
 have eA:A=#[S,I,X]:=by rw [← Array.toArray_toList (xs:=A),hA]
 rw [eA]
 cases hI
 cases hS with
 | slice0=>omega
 | slice _ L _ _ C hL hk hn' hcC hl =>
  cases hX with
  | slice _ M _ _ C2 hM hk' hn'' hcc' hl' =>
   obtain ⟨CC,T,fz,a1,a2,a3,a4,a5,a6⟩:=H.blk id _ L g1 hL
   obtain ⟨VC,TV,fv,b1,b2,b3,b4,b5,b6⟩:=H.blk id2 _ M g2 hM
   have hesz:L.esz=1:=by rw [a5];simp [hqi,hqs]
   have hcap:=hl rfl
   rw [hesz,Nat.mul_one] at hcap
   simp only [List.length_singleton] at b2
   have hblk:M.blk ≠ L.blk:=fun q=>H.disj id id2 _ _ L M hne g1 g2 hL hM rfl q.symm
   have hxs:x.scalar=true∧c.all AVal.scalar=true:=by simpa using hsc
   obtain ⟨V,hVx⟩:∃ V,VC[M.base]?=some V:=⟨_,Array.getElem?_eq_getElem (by omega)⟩
   have hVR:VR μ x V:=b4 0 x V rfl (by rw [Nat.add_zero];exact hVx)
   obtain ⟨cs,ecs⟩:∃ cs,cs=(CC.toList.drop (L.base+0)).take n:=⟨_,rfl⟩
   have hcl:cs.length=n:=by rw [ecs,List.length_take,List.length_drop,Array.length_toList];omega
   have hcs:∀ j,j<n→cs[j]?=CC[L.base+j]?:=fun j hj=>by rw [ecs,List.getElem?_take,if_pos hj,List.getElem?_drop,Array.getElem?_toList,Nat.add_zero]
   have hVs:VRs μ c cs:=⟨by omega,fun j a b ha hb'=>by
    have hj:j<n:=by rw [← hcl];exact (List.getElem?_eq_some_iff.1 hb').1
    exact a4 j a b ha (by rw [← hcs j hj];exact hb')⟩
   obtain ⟨it,hit⟩:=Int.eq_ofNat_of_zero_le hi0
   subst hit
   rw [Int.toNat_natCast]
   have hall:VRs μ (c.take it++x :: c.drop it) (insV CC (L.base+0) n it V):=by
    unfold insV
    rw [← ecs]
    exact (hVs.take it).append ((hVs.drop it).cons hVR)
   have hlen:(c.take it++x :: c.drop it).length=n+1:=by rw [List.length_append,List.length_cons,List.length_take,List.length_drop];omega
   refine callsIn_of hF hd ((hcall L.blk (L.base+0) n C it M.blk (M.base+0) C2 CC VC T TV fz fv V w (by omega) hcC (by omega) (by omega) hblk a1 (by omega) (by omega) (fun hr j h1 h2=>a6 rfl j (by omega) (.inl (by omega)))
    (fun j u hj hu=>scalars_one hxs.2 hVs u (List.mem_of_getElem? (by rw [hcs j hj,← hu,Nat.add_zero]))) b1 (by rw [Nat.add_zero];exact hVx) (scalar_one hxs.1 hVR) (b6 rfl _ (by omega) (.inl (by omega))) (b6 rfl _ (by omega) (.inr rfl))).mono fun rr w' hh=>?_)
   obtain ⟨⟨o1,o2,o3⟩,hh⟩:=hh
   have hcalm:Calm w w':=⟨o1,o2,o3⟩
   rcases hh with ⟨hr,rfl,s1,s2,C',s3,s4,s5⟩|⟨hr,G,e0,t1,t2,rfl,t3,t4,C',t5,t6,t7⟩
   ·have hcap2:C≤L.size∧C≤9223372036854775807:=by
     rcases hcap with q|q
     ·omega
     ·exact q
    obtain ⟨p1,p2,p3,p4⟩:=HRel.grow (L:=L) (w':=w') H g1 (b':=⟨.cells (c.take it++x :: c.drop it) e true false,v+1⟩) rfl hcalm (by omega) (by obtain ⟨_,_,_,h3⟩:=H.dom id _ L hL;omega)
     (.inl ⟨hL,rfl,fun k _ hk=>s2 k hk⟩) (by
      refine ⟨C',T,fz,s3,by rw [hlen];omega,by rw [s4];exact a3,fun j a b ha hb'=>?_,a5,fun hro i h1 h2=>a6 hro i h1 (h2.imp _root_.id fun e=>by rw [e,s4])⟩
      have hj:j<n+1:=by rw [← hlen];exact (List.getElem?_eq_some_iff.1 ha).1
      refine (hall.2 j a b ha ?_).mono (Mu.add_le (H.none_of_ver g1 (by simp)))
      rw [← s5 j hj,Nat.add_zero];exact hb') (.inl hb)
    refine ⟨_,rfl,_,p1,?_,p2,p3,p4⟩
    exact VR.slice (μ:=μ.add id (v+1) L) ⟨id,v+1,0⟩ L (n+1) (n+1) C Mu.add_same (by omega) (Nat.le_refl _) hr (fun _=>.inr ⟨by rw [hesz,Nat.mul_one];exact hcap2.1,hcap2.2⟩)
   ·obtain ⟨p1,p2,p3,p4⟩:=HRel.grow (L:=⟨w.heap.size,0,G,1⟩) (w':=w') H g1 (b':=⟨.cells (c.take it++x :: c.drop it) e true false,v+1⟩) rfl hcalm (by omega) (by simp only;omega)
     (.inr ⟨Nat.le_refl _,t4⟩) (by
      refine ⟨C',e0,(0,0),t5,by rw [hlen];simp only;omega,by simp only;omega,fun j a b ha hb'=>?_,by simp [hqi,hqs],fun _ j _ _=>by simp⟩
      have hj:j<n+1:=by rw [← hlen];exact (List.getElem?_eq_some_iff.1 ha).1
      refine (hall.2 j a b ha ?_).mono (Mu.add_le (H.none_of_ver g1 (by simp)))
      rw [← t7 j hj]
      simpa using hb') (.inl hb)
    refine ⟨_,rfl,_,p1,?_,p2,p3,p4⟩
    exact VR.row (r:=⟨id,v+1,0⟩) Mu.add_same rfl (by omega) (Nat.le_refl _) t1 (.inr ⟨by simp,t2⟩)
end
end Go.AM
namespace Go.AM
section
variable {P:Program} {base:Nat} {μ:Mu} {h:Heap} {w w':World}
theorem HRel.updG (H:HRel P μ h w) {id:Nat} {b b':ABlk} {L:Loc} (hb:h[id]?=some b) (hL:μ.loc id b.ver=some L) (hwr:b.body.wr=true) (hv:b'.ver=b.ver) (hc:Calm w w')
  (hw:∀ k,k<w.heap.size→k ≠ L.blk→w'.heap[k]?=w.heap[k]?) (hs:w.heap.size≤w'.heap.size) (hbr:BR P μ b'.body L w') (hbr0:∀ x,x.heap[L.blk]?=w'.heap[L.blk]?→BR P μ b'.body L x):HRel P μ (h.set id b') w'∧Evo μ h w μ (h.set id b') w':=by
 obtain ⟨x,ex⟩:∃ x:World,x={ w' with heap:=w'.heap.extract 0 w.heap.size }:=⟨_,rfl⟩
 have xs:x.heap.size=w.heap.size:=by rw [ex];simp;omega
 have xk:∀ k,k<w.heap.size→x.heap[k]?=w'.heap[k]?:=fun k hk=>by
  rw [ex]
  show (w'.heap.extract 0 w.heap.size)[k]?=_
  rw [Array.getElem?_extract,if_pos (by omega),Nat.zero_add]
 obtain ⟨_,_,_,hLb⟩:=H.dom id _ L hL
 have cx:Calm w x:=by rw [ex];exact ⟨hc.os,hc.tape,hc.output⟩
 obtain ⟨p1,p2⟩:=HRel.upd (w':=x) H hb hL hwr hv cx (fun k hk=>by
  by_cases q:k<w.heap.size
  ·rw [xk k q];exact hw k q hk
  ·rw [Array.getElem?_eq_none (by omega),Array.getElem?_eq_none (by omega)]) xs (hbr0 x (xk _ hLb))
 refine ⟨p1.world (fun k hk=>(xk k (by omega)).symm) (by omega),⟨hs,hc.os,hc.tape,hc.output,fun k hk hn=>?_,p2.anew⟩⟩
 obtain ⟨q1,q2⟩:=p2.keep k hk hn
 exact ⟨by rw [← q1,xk k hk],q2⟩
set_option maxHeartbeats 1000000 in
theorem srt_sound {F:Fence} (hF:∀ f,F.fn f) (hd:F.depth=none∧F.alive=false) (H:HRel P μ h w) {f:FuncId} {fn:Func} {args:List AVal} {A:Array Value} {r:AVal} {h':Heap} (hC:VRs μ args A.toList) (hv:srtA P f fn args h=some (r,h')) :
  CallsIn F 0 P f A w (fun e w''=>∃ X,e=.returned X∧Fine P base μ h w r h' X w''):=by
 obtain ⟨id,v,n,k,zs,e,row,rfl,g1,⟨e0,-,hcall⟩,hbody,hn,hnb,hn0,hr⟩:=srtA_inv hv
 simp only [Prod.mk.injEq] at hr
 obtain ⟨rfl,rfl⟩:=hr
 obtain ⟨X,hA,hX⟩:=args_one hC
 have eA:A=#[X]:=by rw [← Array.toArray_toList (xs:=A),hA]
 rw [eA]
 cases hX with
 | slice0=>omega
 | slice _ L _ _ C hL hk hn' hcC hl =>
  obtain ⟨CC,T,fz,a1,a2,a3,a4,a5,a6⟩:=H.blk id _ L g1 hL
  rw [List.length_map] at a2
  obtain ⟨S,eS⟩:∃ S,S=zs.mergeSort fun x y=>decide (x≤y):=⟨_,rfl⟩
  have hSl:S.length=zs.length:=by rw [eS,List.length_mergeSort]
  rw [← eS]
  have hcell:∀ j,j<zs.length→CC[L.base+j]?=some (.int .i64 (zs.getD j 0)):=fun j hj=>by
   obtain ⟨V,hV⟩:∃ V,CC[L.base+j]?=some V:=⟨_,Array.getElem?_eq_getElem (by omega)⟩
   have:=a4 j (.int .i64 (zs.getD j 0)) V (by rw [List.getElem?_map,List.getElem?_eq_getElem hj,List.getD_eq_getElem?_getD,List.getElem?_eq_getElem hj];rfl) hV
   rw [hV]
   cases this
   rfl
  subst hn
  refine callsIn_of hF hd ((hcall L.blk (L.base+0) C zs CC T fz w hnb a1 (fun j hj=>by rw [Nat.add_zero];exact hcell j hj) (fun j h1 h2=>a6 rfl j (by omega) (.inl (by omega)))).mono fun rr w' hh=>?_)
  obtain ⟨rfl,⟨o1,o2,o3⟩,s1,s2,C',s3,s4,s5⟩:=hh
  rw [← eS] at s5
  have hB:∀ x:World,x.heap[L.blk]?=w'.heap[L.blk]?→BR P μ (ABody.cells (S.map fun z=>AVal.int .i64 z) e row false) L x:=fun x hx=>by
   refine ⟨C',T,fz,hx.trans s3,by rw [List.length_map];omega,by rw [s4];exact a3,fun i a b ha hb=>?_,a5,fun hro i h1 h2=>a6 hro i h1 (h2.imp _root_.id fun e=>by rw [e,s4])⟩
   rw [List.getElem?_map] at ha
   obtain ⟨y,hy,rfl⟩:=Option.map_eq_some_iff.1 ha
   have hi:=(List.getElem?_eq_some_iff.1 hy).1
   rw [s5,if_pos (by omega),Nat.add_zero,Nat.add_sub_cancel_left,List.getD_eq_getElem?_getD,hy] at hb
   cases hb
   exact .int _ _
  obtain ⟨p1,p2⟩:=HRel.updG (w':=w') H g1 (b':=⟨.cells (S.map fun z=>AVal.int .i64 z) e row false,v⟩) hL rfl rfl ⟨o1,o2,o3⟩ s2 s1 (hB w' rfl) hB
  exact ⟨_,rfl,μ,.rfl,VRs.tuple (l:=[]) (A:=#[]) .nil,p1,p2,.rfl⟩
end
end Go.AM
namespace Go.AM
section
variable {P:Program} {base:Nat} {μ:Mu} {h:Heap} {w:World}
set_option maxHeartbeats 1000000 in
theorem ins2_sound {F:Fence} (hF:∀ f,F.fn f) (hd:F.depth=none∧F.alive=false) (H:HRel P μ h w) {f:FuncId} {fn:Func} {args:List AVal} {A:Array Value} {r:AVal} {h':Heap} (hq:insQ fn args=true) (hC:VRs μ args A.toList) (hv:ins2A P base f fn args h=some (r,h')) :
  CallsIn F 0 P f A w (fun e w''=>∃ X,e=.returned X∧Fine P base μ h w r h' X w''):=by
 obtain ⟨id,v,n,k,m,k2,id2,v2,c,e,e2,row2,x,y,rfl,g1,g2,⟨⟨q,hqi,hqs⟩,hcall⟩,hbody,hn,hne,hb,hnb,hsc,hr⟩:=ins2A_inv hv
 simp only [Prod.mk.injEq] at hr
 obtain ⟨rfl,rfl⟩:=hr
 unfold insQ at hq
 simp only [Bool.and_eq_true,decide_eq_true_eq] at hq
 obtain ⟨-,hkn,hi0,hin,hm1⟩:=hq
 have hkn':n=k:=hkn.symm
 subst hkn'
 subst hm1
 obtain ⟨S,XS,hA,hS,hXS⟩:=args_cons hC
 obtain ⟨I,X,rfl,hI,hX⟩:=args_two hXS
 have eA:A=#[S,I,X]:=by rw [← Array.toArray_toList (xs:=A),hA]
 rw [eA]
 cases hI
 cases hS with
 | slice0=>omega
 | slice _ L _ _ C hL hk hn' hcC hl =>
  cases hX with
  | slice _ M _ _ C2 hM hk' hn'' hcc' hl' =>
   obtain ⟨CC,T,fz,a1,a2,a3,a4,a5,a6⟩:=H.blk id _ L g1 hL
   obtain ⟨VC,TV,fv,b1,b2,b3,b4,b5,b6⟩:=H.blk id2 _ M g2 hM
   have hesz:L.esz=2:=by rw [a5];simp [hqi,hqs]
   have hcap:=hl rfl
   rw [hesz] at hcap
   simp only [List.length_cons,List.length_nil] at b2
   have hblk:M.blk ≠ L.blk:=fun q=>H.disj id id2 _ _ L M hne g1 g2 hL hM rfl q.symm
   have hxs:x.scalar=true∧y.scalar=true∧c.all AVal.scalar=true:=by simpa using hsc
   obtain ⟨V,hVx⟩:∃ V,VC[M.base]?=some V:=⟨_,Array.getElem?_eq_getElem (by omega)⟩
   obtain ⟨Y,hVy⟩:∃ V,VC[M.base+1]?=some V:=⟨_,Array.getElem?_eq_getElem (by omega)⟩
   have hVR:VR μ x V:=b4 0 x V rfl (by rw [Nat.add_zero];exact hVx)
   have hVRy:VR μ y Y:=b4 1 y Y rfl hVy
   obtain ⟨cs,ecs⟩:∃ cs,cs=(CC.toList.drop (L.base+0)).take (n * 2):=⟨_,rfl⟩
   have hcl:cs.length=n * 2:=by rw [ecs,List.length_take,List.length_drop,Array.length_toList];omega
   have hcs:∀ j,j<n * 2→cs[j]?=CC[L.base+j]?:=fun j hj=>by rw [ecs,List.getElem?_take,if_pos hj,List.getElem?_drop,Array.getElem?_toList,Nat.add_zero]
   have hVs:VRs μ c cs:=⟨by omega,fun j a b ha hb'=>by
    have hj:j<n * 2:=by rw [← hcl];exact (List.getElem?_eq_some_iff.1 hb').1
    exact a4 j a b ha (by rw [← hcs j hj];exact hb')⟩
   have hall:VRs μ (x :: y :: c) (insV2 CC (L.base+0) n V Y):=by
    unfold insV2
    rw [← ecs]
    exact (hVs.cons hVRy).cons hVR
   have hlen:(x :: y :: c).length=n * 2+2:=by rw [List.length_cons,List.length_cons,hn]
   refine callsIn_of hF hd ((hcall L.blk (L.base+0) n C M.blk (M.base+0) C2 CC VC T TV fz fv V Y w (by omega) hcC (by omega) (by omega) hblk a1 (by omega) (by omega) (fun hr j h1 h2=>a6 rfl j (by omega) (.inl (by omega)))
    (fun j u hj hu=>scalars_one hxs.2.2 hVs u (List.mem_of_getElem? (by rw [hcs j hj,← hu,Nat.add_zero]))) b1 (by rw [Nat.add_zero];exact hVx) (by rw [Nat.add_zero];exact hVy) (scalar_one hxs.1 hVR) (scalar_one hxs.2.1 hVRy) (b6 rfl _ (by omega) (.inl (by omega))) (b6 rfl _ (by omega) (.inr rfl))).mono fun rr w' hh=>?_)
   obtain ⟨⟨o1,o2,o3⟩,hh⟩:=hh
   have hcalm:Calm w w':=⟨o1,o2,o3⟩
   rcases hh with ⟨hr,rfl,s1,s2,C',s3,s4,s5⟩|⟨hr,G,e0,t1,t2,rfl,t3,t4,C',t5,t6,t7⟩
   ·have hcap2:C * 2≤L.size∧C≤9223372036854775807:=by
     rcases hcap with q|q
     ·omega
     ·exact q
    obtain ⟨p1,p2,p3,p4⟩:=HRel.grow (L:=L) (w':=w') H g1 (b':=⟨.cells (x :: y :: c) e true false,v+1⟩) rfl hcalm (by omega) (by obtain ⟨_,_,_,h3⟩:=H.dom id _ L hL;omega)
     (.inl ⟨hL,rfl,fun k _ hk=>s2 k hk⟩) (by
      refine ⟨C',T,fz,s3,by rw [hlen];omega,by rw [s4];exact a3,fun j a b ha hb'=>?_,a5,fun hro i h1 h2=>a6 hro i h1 (h2.imp _root_.id fun e=>by rw [e,s4])⟩
      have hj:j<n * 2+2:=by rw [← hlen];exact (List.getElem?_eq_some_iff.1 ha).1
      refine (hall.2 j a b ha ?_).mono (Mu.add_le (H.none_of_ver g1 (by simp)))
      rw [← s5 j hj,Nat.add_zero];exact hb') (.inl hb)
    refine ⟨_,rfl,_,p1,?_,p2,p3,p4⟩
    exact VR.slice (μ:=μ.add id (v+1) L) ⟨id,v+1,0⟩ L (n+1) (n+1) C Mu.add_same (by omega) (Nat.le_refl _) hr (fun _=>.inr ⟨by rw [hesz];exact hcap2.1,hcap2.2⟩)
   ·obtain ⟨p1,p2,p3,p4⟩:=HRel.grow (L:=⟨w.heap.size,0,G * 2,2⟩) (w':=w') H g1 (b':=⟨.cells (x :: y :: c) e true false,v+1⟩) rfl hcalm (by omega) (by simp only;omega)
     (.inr ⟨Nat.le_refl _,t4⟩) (by
      refine ⟨C',e0,(0,0),t5,by rw [hlen];simp only;omega,by simp only;omega,fun j a b ha hb'=>?_,by simp [hqi,hqs],fun _ j _ _=>by simp⟩
      have hj:j<n * 2+2:=by rw [← hlen];exact (List.getElem?_eq_some_iff.1 ha).1
      refine (hall.2 j a b ha ?_).mono (Mu.add_le (H.none_of_ver g1 (by simp)))
      rw [← t7 j hj]
      simpa using hb') (.inl hb)
    refine ⟨_,rfl,_,p1,?_,p2,p3,p4⟩
    exact VR.row (r:=⟨id,v+1,0⟩) Mu.add_same rfl (by omega) (Nat.le_refl _) t1 (.inr ⟨by simp,t2⟩)
end
end Go.AM
namespace Go.AM
def toExit:AExit→Exit
 | .normal=>.normal
 | .exit id=>.exit id
 | .ret=>.ret
def markOf (r:Nat):Deferred:={ target:=.collected r,args:=#[] }
structure ReachM (P:Program) (base:Nat) (μ:Mu) (h:Heap) (w:World) (a:Act) (s:St) (a':Act) (w':World) (μ':Mu):Prop where
 le:μ.le μ'
 fr:∀ t,VR μ' (s.fr t) (a'.tmps.getD t undef)
 rel:HRel P μ' s.h w'
 evo:Evo μ h w μ' s.h w'
 fresh:Fresh base μ h μ'
 grow:Grow base h s.h
 size:a'.tmps.size=a.tmps.size
 marks:∃ rs:List Nat,a'.defers=rs.map markOf++a.defers∧rs.Nodup∧∀ r ∈ rs,w.heap.size≤r∧w'.heap[r]?=some (.deferred (some []))
section
variable {P:Program} {raw:FuncId→Bool} {base:Nat} {μ μ' μ'':Mu} {h:Heap} {w w' w'':World} {a a' a'':Act} {s s':St}
theorem Reach.m (r:Reach P base μ h w a s a' w' μ'):ReachM P base μ h w a s a' w' μ' :=
 ⟨r.le,r.fr,r.rel,r.evo,r.fresh,r.grow,r.size,[],by simp [r.defers],List.nodup_nil,fun _ h=>by cases h⟩
theorem ReachM.refl (H:HRel P μ s.h w) (hf:∀ t,VR μ (s.fr t) (a.tmps.getD t undef)):ReachM P base μ s.h w a s a w μ:=(Reach.refl H hf).m
theorem lt_of_some {α:Type} {A:Array α} {i:Nat} {x:α} (h:A[i]?=some x):i<A.size:=(Array.getElem?_eq_some_iff.1 h).1
theorem HRel.no_deferred (H:HRel P μ h w) {r:Nat} {d:Option (List Deferred)} (hr:w.heap[r]?=some (.deferred d)):(∀ id b L,h[id]?=some b→μ.loc id b.ver=some L→L.blk ≠ r)∧∀ b l,μ.anon b=some l→b ≠ r:=by
 refine ⟨fun id b L hb hL e=>?_,fun b l hb e=>?_⟩
 ·subst e
  have B:=H.blk id b L hb hL
  cases hbody:b.body<;>rw [hbody] at B
  ·obtain ⟨C,T,fz,h1,_⟩:=B;rw [hr] at h1;cases h1
  ·obtain ⟨E,cl,h1,_⟩:=B;rw [hr] at h1;cases h1
  ·obtain ⟨l,h1,_⟩:=B;rw [hr] at h1;cases h1
 ·subst e
  obtain ⟨⟨C,e,fz,h1,_⟩,_⟩:=H.anon b l hb
  rw [hr] at h1;cases h1
theorem ReachM.trans (H:HRel P μ h w) (x:ReachM P base μ h w a s a' w' μ') (y:ReachM P base μ' s.h w' a' s' a'' w'' μ''):ReachM P base μ h w a s' a'' w'' μ'':=by
 refine ⟨x.le.trans y.le,y.fr,y.rel,x.evo.trans y.evo,x.fresh.trans H x.grow y.fresh,x.grow.trans y.grow,y.size.trans x.size,?_⟩
 obtain ⟨r1,a1,b1,c1⟩:=x.marks
 obtain ⟨r2,a2,b2,c2⟩:=y.marks
 refine ⟨r2++r1,by rw [a2,a1];simp,?_,fun r hr=>?_⟩
 ·refine List.nodup_append.2 ⟨b2,b1,fun p hp q hq e=>?_⟩
  have h1:=(c2 p hp).1
  have h2:=lt_of_some (c1 q hq).2
  omega
 ·rcases List.mem_append.1 hr with hr|hr
  ·exact ⟨Nat.le_trans x.evo.size (c2 r hr).1,(c2 r hr).2⟩
  ·obtain ⟨g1,g2⟩:=c1 r hr
   refine ⟨g1,?_⟩
   rw [(y.evo.keep r (lt_of_some g2) ?_).1];exact g2
   rintro ⟨id,k,L,hk,hL,_,he⟩
   exact (x.rel.no_deferred g2).1 id k L hk hL he
theorem ReachM.upd {id:Nat} {b b':ABlk} {L:Loc} (H:HRel P μ s.h w) (hf:∀ t,VR μ (s.fr t) (a.tmps.getD t undef)) (hb:s.h[id]?=some b) (hL:μ.loc id b.ver=some L) (hwr:b.body.wr=true) (hwr':b'.body.wr=true) (hv:b'.ver=b.ver)
  (hs:id<base→SubB b.body b'.body) {o o':Obj} (ho:w.heap[L.blk]?=some o) (hbr:BR P μ b'.body L { w with heap:=w.heap.setIfInBounds L.blk o' }) :
  ReachM P base μ s.h w a ⟨s.fr,s.h.set id b'⟩ a { w with heap:=w.heap.setIfInBounds L.blk o' } μ:=by
 obtain ⟨_,f2,f3⟩:=setObj_facts (o':=o') ho
 obtain ⟨h1,h2⟩:=HRel.upd H hb hL hwr hv (w':={ w with heap:=w.heap.setIfInBounds L.blk o' }) ⟨rfl,rfl,rfl⟩ f2 f3 hbr
 exact ⟨.rfl,hf,h1,h2,.rfl,.set hb hs (Nat.le_of_eq hv.symm) hwr',rfl,[],by simp,List.nodup_nil,fun _ h=>by cases h⟩
def close (w:World):List Nat→World
 | []=>w
 | r :: rs=>close { w with heap:=w.heap.setIfInBounds r (.deferred none) } rs
theorem close_other:∀ (rs:List Nat) (w:World) (k:Nat),k ∉ rs→(close w rs).heap[k]?=w.heap[k]?
 | [],w,k,_=>rfl
 | r :: rs,w,k,hk=>by
  simp only [List.mem_cons,not_or] at hk
  rw [close,close_other rs _ k hk.2]
  simp only [Array.getElem?_setIfInBounds]
  rw [if_neg (fun e=>hk.1 e.symm)]
theorem close_calm:∀ (rs:List Nat) (w:World),Calm w (close w rs)∧(close w rs).heap.size=w.heap.size
 | [],w=>⟨.rfl,rfl⟩
 | r :: rs,w=>by
  obtain ⟨h1,h2⟩:=close_calm rs { w with heap:=w.heap.setIfInBounds r (.deferred none) }
  exact ⟨⟨h1.os,h1.tape,h1.output⟩,by rw [close,h2];simp⟩
theorem close_rel {rs:List Nat} (H:HRel P μ h w) (hr:∀ r ∈ rs,w.heap[r]?=some (.deferred (some []))):HRel P μ h (close w rs):=by
 obtain ⟨_,hs⟩:=close_calm rs w
 have ne:∀ {id:Nat} {b:ABlk} {L:Loc},h[id]?=some b→μ.loc id b.ver=some L→(close w rs).heap[L.blk]?=w.heap[L.blk]?:=fun hb hL =>
  close_other rs w _ fun hm=>(H.no_deferred (hr _ hm)).1 _ _ _ hb hL rfl
 refine ⟨fun id v L hL=>?_,fun id b L hb hL=>(H.blk id b L hb hL).step .rfl (ne hb hL),H.disj,H.cur,fun b l hb=>?_,H.adom⟩
 ·obtain ⟨b,h1,h2,h3⟩:=H.dom id v L hL
  exact ⟨b,h1,h2,by rw [hs];exact h3⟩
 ·obtain ⟨⟨C,e,fz,h1,h2⟩,h3⟩:=H.anon b l hb
  refine ⟨⟨C,e,fz,?_,h2⟩,h3⟩
  rw [close_other rs w b fun hm=>(H.no_deferred (hr _ hm)).2 _ _ hb rfl];exact h1
theorem leaves_marks {F:Fence} {n:Nat} {fn:Func} {tmps:Array Value} {R:Ending→World→Prop}:∀ (rs:List Nat) (w:World),rs.Nodup→(∀ r ∈ rs,w.heap[r]?=some (.deferred (some []))) →
  (∃ v,(results fn tmps).run P (close w rs)=.ok v (close w rs)∧R (.returned v) (close w rs))→LeavesInM F n P fn tmps R (rs.map markOf++[]) .returning w
 | [],w,_,_,h=>h
 | r :: rs,w,hn,hr,h=>by
  have h0:=hr r (by simp)
  have hn':=List.nodup_cons.1 hn
  refine ⟨by simp,.inl ⟨r,{ w with heap:=w.heap.setIfInBounds r (.deferred none) },rfl,?_,leaves_marks rs _ hn'.2 (fun q hq=>?_) h⟩⟩
  ·unfold Instr.takeDeferred
   rw [Sem.run_bind,run_getObj h0 (by intro c e f h;cases h)]
   simp only [Result.andThen_ok,Sem.run_bind]
   rw [run_setObj h0 (by intro c e f h;cases h)]
   rfl
  ·simp only [Array.getElem?_setIfInBounds]
   rw [if_neg (show ¬ r=q from fun e=>hn'.1 (e ▸ hq))]
   exact hr q (by simp [hq])
structure AllOk (P:Program):Prop where
 body : ∀ (f : Nat) (fn : Func) (c : Code), P.funcs[f]? = some fn → fn.body = some c → okS true fn.ntmps c = true ∧ (fn.name == "runtime.NumGoroutine") = false
 mixed:P.follows .mixedOrders=true
def SC (P:Program) (raw:FuncId→Bool) (n:Nat):Prop :=
 ∀ (F:Fence),(∀ f,F.fn f)→(F.depth=none∧F.alive=false)→∀ (base:Nat) (c:Code) (s s':St) (e:AExit) (a:Act) (w:World) (μ:Mu) (nt:Nat),okS F.round.isNone nt c=true→nt≤a.tmps.size→base≤s.h.length→HRel P μ s.h w →
  (∀ t,VR μ (s.fr t) (a.tmps.getD t undef))→evC P raw n base c s=some (e,s')→∀ (Q:Exit→Act→World→Prop),(∀ a' w' μ',ReachM P base μ s.h w a s' a' w' μ'→Q (toExit e) a' w')→c.wpIn F 0 P Q a w
theorem ovl_sound (H:HRel P μ h w) {f:FuncId} {fn:Func} (hf:P.funcs[f]?=some fn) (hb:fn.body=none) {args:List AVal} {C:Array Value} (hC:VRs μ args C.toList) {r:AVal × Heap} (hv:ovlA P fn args h=some r) :
  r=(.bool false,h)∧(invoke (.fn (.func f) #[]) C).run P w=.ok (.value (.bool false)) w:=by
 refine ⟨ovlA_inv hv,?_⟩
 unfold ovlA at hv
 split at hv
 ·rename_i a n ka b m kb
  split at hv
  ·rename_i hc
   obtain ⟨⟨o1,o2,t,t',e,i,o3,o4,o5⟩,hne,ha,hb',ka1,kb1⟩:=hc
   obtain ⟨VA,VB,hA,hx,hy⟩:=args_two hC
   have eC:C=#[VA,VB]:=by rw [← Array.toArray_toList (xs:=C),hA]
   cases hx with
   | slice0=>omega
   | slice _ L _ _ CA hL hk hn hcc hl =>
    cases hy with
    | slice0=>omega
    | slice _ M _ _ CB hM hk' hn' hcc' hl' =>
     have blk:∀ {x:ARef} {K:Loc},μ.loc x.id x.ver=some K→offOk h x=true→∃ c ee row,h[x.id]?=some ⟨.cells c ee row false,x.ver⟩∧∃ (D:Array Value) (T:TypeId) (fz:Nat × Nat),w.heap[K.blk]?=some (.cells D T fz)∧x.off<K.size∧K.base+K.size≤D.size∧(∀ i,K.base≤i→(i<K.base+K.size ∨ i=D.size)→¬ (fz.1≤i∧i<fz.2)):=by
      intro x K hK hok
      unfold offOk at hok
      split at hok
      ·rename_i c ee row v hx
       simp only [Bool.and_eq_true,beq_iff_eq,decide_eq_true_eq] at hok
       obtain ⟨rfl,hlt⟩:=hok
       obtain ⟨D,T,fz,k1,k2,k3,_,_,k6⟩:=H.blk x.id _ K hx hK
       exact ⟨c,ee,row,hx,D,T,fz,k1,by omega,k3,k6 rfl⟩
      ·cases hok
     obtain ⟨c1,e1,row1,g1,D1,T1,fz1,k1,k2,k3,k4⟩:=blk hL ka1
     obtain ⟨c2,e2,row2,g2,D2,T2,fz2,m1,m2,m3,m4⟩:=blk hM kb1
     have hblk:L.blk ≠ M.blk:=H.disj a.id b.id _ _ L M hne g1 g2 hL hM rfl
     have hfz:∀ i,(L.base≤i∧(i<L.base+L.size ∨ i=D1.size))→w.frozen? ⟨L.blk,i,none⟩=false:=fun i hi=>by
      unfold World.frozen?
      simp only [k1]
      have:=k4 i hi.1 hi.2
      simp only [Bool.and_eq_false_iff,decide_eq_false_iff_not]
      omega
     have hsz:∀ w,(Go.sizeOf e).run P w=.ok i.size w:=fun w=>run_sizeOf' o5
     have hrun:=Lib.run_overlaps_apart (P:=P) w t t' e o4 i.size hsz ⟨L.blk,L.base+a.off,none⟩ ⟨M.blk,M.base+b.off,none⟩ n CA m CB hblk T1 T2 D1.size D2.size (by simp [World.shape?,k1]) (by simp [World.shape?,m1]) (by omega) (hfz _ ⟨by omega,.inl (by omega)⟩) (hfz _ ⟨by omega,.inr rfl⟩)
     show (callFunc f (C++#[])).run P w=_
     rw [Array.append_empty,run_callFunc_extern hf o1 (by rw [hb];rfl) o2 o3,eC,hrun]
     rfl
  ·cases hv
 ·cases hv
theorem fn_sound (hP:AllOk P) {n:Nat} (sc:SC P raw n) {F:Fence} (hF:∀ f,F.fn f) (hd:F.depth=none∧F.alive=false) (H:HRel P μ h w) {f:FuncId} {first captured args:List AVal} {A B C:Array Value} (hA:VRs μ first A.toList)
  (hB:VRs μ captured B.toList) (hC:VRs μ args C.toList) {r:AVal} {h':Heap} (hb:base≤h.length) (hnb:∀ fn,P.funcs[f]?=some fn→bodyA fn args ≠ none) (hv:callWith P raw (evC P raw n) base (.fn f first captured) args h=some (r,h')) :
  (invoke (.fn (.func f) B) (A++C)).run P w=.ok (.enter f (A++C++B)) w∧CallsIn F 0 P f (A++C++B) w (fun e w''=>∃ X,e=.returned X∧Fine P base μ h w r h' X w''):=by
 simp only [callWith] at hv
 split at hv
 ·rename_i fn hfn
  split at hv
  ·rename_i c hcA
   have hc:=bodyA_some hcA
   obtain ⟨ok1,ok2⟩:=hP.body f fn c hfn hc
   refine ⟨?_,?_⟩
   ·show (callFunc f (A++C++B)).run P w=_
    simp only [callFunc,Sem.run_bind,run_program,Result.andThen_ok,hfn,hc,ok2,Option.isNone_some,Bool.false_eq_true,if_false]
    rfl
   have hargs:VRs μ (first++args++captured) (A++C++B).toList:=by
    simp only [Array.toList_append];exact (hA.append hC).append hB
   split at hv
   ·cases hv
   ·rename_i e s' hne hev
    split at hv
    ·rename_i v hres
     show CallsIn F.plain 0 P f (A++C++B) w _
     refine callsIn_of_wp_marks hfn hc (hF f) ?_
     have hbase:(if raw f=true then base else h.length)≤h.length:=by split<;>omega
     refine sc F.plain hF hd (if raw f=true then base else h.length) c ⟨argFr (first++args++captured),h⟩ s' e _ w μ fn.ntmps ok1 (by simp;omega) hbase H (argFr_VR hargs _) hev _ fun a' w' μ' R=>?_
     obtain ⟨rs,g1,g2,g3⟩:=R.marks
     have gl:LeavesInM F.plain 0 P fn a'.tmps (fun e w''=>∃ X,e=.returned X∧Fine P base μ h w r h' X w'') a'.defers .returning w':=by
      rw [g1]
      have hrel:=close_rel R.rel fun q hq=>(g3 q hq).2
      obtain ⟨V,hrun,hV⟩:=resultsA_sound hrel R.fr hres
      refine leaves_marks rs w' g2 (fun q hq=>(g3 q hq).2) ⟨V,hrun,V,rfl,?_⟩
      have hevo:Evo μ h w μ' s'.h (close w' rs):=by
       obtain ⟨k1,k2⟩:=close_calm rs w'
       refine ⟨by rw [k2];exact R.evo.size,k1.os.trans R.evo.os,k1.tape.trans R.evo.tape,k1.output.trans R.evo.output,fun b hb hn=>?_,R.evo.anew⟩
       obtain ⟨m1,m2⟩:=R.evo.keep b hb hn
       refine ⟨?_,m2⟩
       rw [close_other rs w' b fun hm=>?_];exact m1
       have:=(g3 b hm).1;omega
      split at hv
      ·rename_i hr
       simp only [Option.some.injEq,Prod.mk.injEq] at hv
       obtain ⟨rfl,rfl⟩:=hv
       have hfr:=R.fresh
       rw [if_pos hr] at hfr
       exact ⟨μ',R.le,hV,hrel,hevo,hfr⟩
      ·rename_i hr
       have hfr:=R.fresh
       have hgr:=R.grow
       rw [if_neg hr] at hfr hgr
       exact compact_sound H hrel R.le hevo hfr hgr hV hv
     cases e with
     | exit id=>exact absurd rfl (hne id)
     | normal=>exact gl
     | ret=>exact gl
    ·cases hv
   ·cases hv
  ·rename_i hnone
   exact absurd hnone (hnb fn hfn)
 ·cases hv
theorem loop_obj {l:Loop}:∀ c e f,Obj.loop l ≠ .cells c e f:=by intro c e f h;cases h
theorem run_getLoop {r:Nat} {l:Loop} (ho:w.heap[r]?=some (.loop l)):(Instr.getLoop r).run P w=.ok l w:=by
 unfold Instr.getLoop
 rw [Sem.run_bind,run_getObj ho loop_obj]
 rfl
theorem yld_sound {n:Nat} (sc:SC P raw n) {F:Fence} (hF:∀ f,F.fn f) (hd:F.depth=none∧F.alive=false) (H:HRel P μ h w) {l:Nat} {args:List AVal} {C:Array Value} {L:Loc} (hL:μ.loc l 0=some L)
  (hC:VRs μ args C.toList) {r:AVal} {h':Heap} (hb:base≤h.length) (hv:callWith P raw (evC P raw n) base (.yld l) args h=some (r,h')) :
  ∃ nxt,(invoke (.fn (.yield L.blk) #[]) C).run P w=.ok nxt w∧NextOk F P w (fun e w''=>∃ X,e=.returned X∧Fine P base μ h w r h' X w'') nxt:=by
 simp only [callWith] at hv
 split at hv
 ·rename_i Lp hLp
  split at hv
  ·rename_i hst
   obtain ⟨hready,hlen⟩:=hst
   obtain ⟨l',o1,o2,o3,o4,o5,o6,o7,o8,o9,o10⟩:=H.blk l _ L hLp hL
   split at hv
   ·rename_i s1 hassign
    split at hv
    ·rename_i L1 hL1
     split at hv
     ·rename_i hr1
      split at hv
      ·rename_i e s2 hbody
       split at hv
       ·rename_i L2 hL2
        simp only [Option.some.injEq,Prod.mk.injEq] at hv
        obtain ⟨rfl,rfl⟩:=hv
        have hsz:C.size=l'.params.size:=by
         have:=hC.1
         have h3:l'.params.size=Lp.params.length:=by rw [← o4];simp
         simp at this;omega
        have hfold:(l'.params.zip C).foldl (fun tmps (p:Tmp × Value)=>tmps.setIfInBounds p.1 p.2) l'.tmps=(Lp.params.zip C.toList).foldl (fun tmps (p:Tmp × Value)=>tmps.setIfInBounds p.1 p.2) l'.tmps:=by
         rw [← Array.foldl_toList,Array.toList_zip,o4]
        refine ⟨.round L.blk l'.fn ((l'.params.zip C).foldl (fun tmps (p:Tmp × Value)=>tmps.setIfInBounds p.1 p.2) l'.tmps) l'.assign l'.body,?_,?_⟩
        ·simp only [invoke]
         unfold Instr.yield
         rw [Sem.run_bind,run_getLoop o1]
         simp only [Result.andThen_ok]
         rw [if_neg (by simp [hsz])]
         rfl
        ·show RoundIn F 0 P L.blk l'.fn _ l'.assign l'.body w _
         refine roundIn_of_wpIn (hF _) ?_
         rw [hfold,o5,o6]
         have hfr0:=putAll_VR Lp.params args C.toList Lp.fr l'.tmps o7 hC o8
         have hsz0:((Lp.params.zip C.toList).foldl (fun tmps (p:Tmp × Value)=>tmps.setIfInBounds p.1 p.2) l'.tmps).size=l'.tmps.size:=foldl_set_size _ _
         refine sc (F.inRound L.blk) hF hd base Lp.assign ⟨putAll Lp.fr Lp.params args,h⟩ s1 .normal _ w μ l'.tmps.size o9 (by simp [hsz0]) hb H hfr0 hassign _ fun a1 w1 μ1 R1=>?_
         -- the round begins
         have hL1':μ1.loc l 0=some L:=R1.le.loc _ _ _ hL
         obtain ⟨l1,p1,p2,p3,p4,p5,p6,p7,p8⟩:=R1.rel.blk l _ L hL1 hL1'
         have R2:ReachM P base μ1 s1.h w1 a1 ⟨s1.fr,s1.h.set l ⟨.loop { L1 with state:=.busy },0⟩⟩ a1 { w1 with heap:=w1.heap.setIfInBounds L.blk (.loop { l1 with state:=.busy }) } μ1 :=
          ReachM.upd (b':=⟨.loop { L1 with state:=.busy },0⟩) (o':=.loop { l1 with state:=.busy }) R1.rel R1.fr hL1 hL1' rfl rfl rfl (fun _=>rfl) p1 ⟨_,(setObj_facts p1).1,rfl,p3,p4,p5,p6,p7,p8⟩
         refine ⟨{ w1 with heap:=w1.heap.setIfInBounds L.blk (.loop { l1 with state:=.busy }) },?_,?_⟩
         ·unfold Instr.beginRound
          rw [Sem.run_bind,run_getLoop p1]
          simp only [Result.andThen_ok,Sem.run_bind]
          rw [run_setObj p1 loop_obj]
          simp only [Result.andThen_ok,p2,hr1]
          rfl
         have R12:=ReachM.trans H R1 R2
         have hb2:base≤(s1.h.set l ⟨.loop { L1 with state:=.busy },0⟩).length:=Nat.le_trans hb R12.grow.1
         have hsz1:l'.tmps.size≤a1.tmps.size:=by rw [R1.size];exact Nat.le_of_eq hsz0.symm
         refine sc (F.inRound L.blk) hF hd base Lp.body ⟨s1.fr,s1.h.set l ⟨.loop { L1 with state:=.busy },0⟩⟩ s2 e a1 _ μ1 l'.tmps.size o10 hsz1 hb2 R2.rel R2.fr hbody _ fun a2 w3 μ2 R3=>?_
         have R123:=ReachM.trans H R12 R3
         have hL2':μ2.loc l 0=some L:=R123.le.loc _ _ _ hL
         obtain ⟨l2,q1,q2,q3,q4,q5,q6,q7,q8⟩:=R123.rel.blk l _ L hL2 hL2'
         have R4:∀ (st:LoopState) (pd:Option Code),ReachM P base μ2 s2.h w3 a2 ⟨s2.fr,s2.h.set l ⟨.loop { L2 with state:=st,pending:=pd },0⟩⟩ a2 { w3 with heap:=w3.heap.setIfInBounds L.blk (.loop { l2 with state:=st,pending:=pd }) } μ2 :=
          fun st pd=>ReachM.upd (b':=⟨.loop { L2 with state:=st,pending:=pd },0⟩) (o':=.loop { l2 with state:=st,pending:=pd }) R123.rel R123.fr hL2 hL2' rfl rfl rfl (fun _=>rfl) q1 ⟨_,(setObj_facts q1).1,rfl,rfl,q4,q5,q6,q7,q8⟩
         have fin:∀ jump,jump=jumpOf e→∃ v w',(Instr.endRound L.blk jump).run P w3=.ok v w' ∧
           ∃ X,Ending.returned v=.returned X∧Fine P base μ h w (.bool (jumpOf e).isNone) (s2.h.set l ⟨.loop { L2 with state:=if (jumpOf e).isNone=true then .ready else .done,pending:=jumpOf e },0⟩) X w':=by
          intro jump hj
          subst hj
          have R:=ReachM.trans H R123 (R4 (if (jumpOf e).isNone=true then .ready else .done) (jumpOf e))
          refine ⟨.bool (jumpOf e).isNone,{ w3 with heap:=w3.heap.setIfInBounds L.blk (.loop { l2 with state:=if (jumpOf e).isNone=true then .ready else .done,pending:=jumpOf e }) },?_,_,rfl,μ2,R.le,.bool _,R.rel,R.evo,R.fresh⟩
          unfold Instr.endRound
          rw [Sem.run_bind,run_getLoop q1]
          simp only [Result.andThen_ok,Sem.run_bind]
          rw [run_setObj q1 loop_obj]
          rfl
         cases e with
         | normal=>exact fin .none rfl
         | ret=>exact fin (some .ret) rfl
         | exit id=>exact fin (some (.exit id)) rfl
       ·cases hv
      ·cases hv
     ·cases hv
    ·cases hv
   ·cases hv
  ·cases hv
 ·cases hv
theorem VRs.of_arr {l:List AVal} {A:Array Value} (ha:l.length=A.size) (h:∀ (i:Nat) (x:AVal) (y:Value),l[i]?=some x→A[i]?=some y→VR μ x y):VRs μ l A.toList :=
 ⟨by simpa using ha,fun i x y hx hy=>h i x y hx (by simpa using hy)⟩
theorem call_sound (hP:AllOk P) {n:Nat} (sc:SC P raw n) {F:Fence} (hF:∀ f,F.fn f) (hd:F.depth=none∧F.alive=false):CallSound P F (callWith P raw (evC P raw n)):=by
 intro μ h w base v V args A r h' hb H hv hargs hcall
 cases hv with
 | fn f first captured A0 B0 ha hb' h1 h2 =>
  by_cases hnb:∃ fn,P.funcs[f]?=some fn∧bodyA fn args=none
  ·obtain ⟨fn,hf,hbn⟩:=hnb
   simp only [callWith,hf,hbn] at hcall
   split at hcall
   ·rename_i hem
    have e1:A0=#[]:=by
     have:first.length=0:=by have:=hem.1;simp at this;simp [this]
     exact Array.eq_empty_of_size_eq_zero (by omega)
    have e2:B0=#[]:=by
     have:captured.length=0:=by have:=hem.2;simp at this;simp [this]
     exact Array.eq_empty_of_size_eq_zero (by omega)
    subst e1 e2
    unfold extA at hcall
    split at hcall
    ·rename_i hq
     have hbs:fn.body.isSome=true:=by
      rcases insB_or hcall with hcall|hcall
      ·obtain ⟨_,_,_,_,_,_,_,_,_,_,_,_,_,_,-,-,-,-,q,-⟩:=insA_inv hcall
       exact q
      ·obtain ⟨_,_,_,_,_,_,_,_,_,_,_,_,_,_,-,-,-,-,q,-⟩:=ins2A_inv hcall
       exact q
     obtain ⟨c,hc⟩:=Option.isSome_iff_exists.1 hbs
     obtain ⟨ok1,ok2⟩:=hP.body f fn c hf hc
     refine ⟨{ target:=.fn (.func f) #[],args:=#[]++A },.enter f (#[]++A++#[]),w,rfl,?_,?_⟩
     ·show (callFunc f (#[]++A++#[])).run P w=_
      simp only [callFunc,Sem.run_bind,run_program,Result.andThen_ok,hf,hc,ok2,Option.isNone_some,Bool.false_eq_true,if_false]
      rfl
     ·rw [Array.append_empty,Array.empty_append]
      rcases insB_or hcall with hcall|hcall
      ·exact ins_sound hF hd H hq hargs hcall
      ·exact ins2_sound hF hd H hq hargs hcall
    ·rename_i hq
     split at hcall
     ·rename_i hq2
      have hbs:fn.body.isSome=true:=by
       obtain ⟨_,_,_,_,_,_,_,-,-,-,q,-⟩:=srtA_inv hcall
       exact q
      obtain ⟨c,hc⟩:=Option.isSome_iff_exists.1 hbs
      obtain ⟨ok1,ok2⟩:=hP.body f fn c hf hc
      refine ⟨{ target:=.fn (.func f) #[],args:=#[]++A },.enter f (#[]++A++#[]),w,rfl,?_,?_⟩
      ·show (callFunc f (#[]++A++#[])).run P w=_
       simp only [callFunc,Sem.run_bind,run_program,Result.andThen_ok,hf,hc,ok2,Option.isNone_some,Bool.false_eq_true,if_false]
       rfl
      ·rw [Array.append_empty,Array.empty_append]
       exact srt_sound hF hd H hargs hcall
     ·rename_i hq2
      have hbn':fn.body=none:=by
       unfold bodyA at hbn
       rw [if_neg (by rw [Bool.or_eq_true];rintro (q|q);exact hq q;exact hq2 q)] at hbn
       exact hbn
      obtain ⟨k1,k2⟩:=ovl_sound H hf hbn' hargs hcall
      cases k1
      exact ⟨{ target:=.fn (.func f) #[],args:=#[]++A },.value (.bool false),w,rfl,by simpa using k2,⟨_,rfl,Fine.same H (.bool _)⟩⟩
   ·cases hcall
  ·obtain ⟨k1,k2⟩:=fn_sound hP sc hF hd H (VRs.of_arr ha h1) (VRs.of_arr hb' h2) hargs hb (fun fn hf q=>hnb ⟨fn,hf,q⟩) hcall
   exact ⟨_,_,w,rfl,k1,k2⟩
 | yld l L hL =>
  obtain ⟨nxt,k1,k2⟩:=yld_sound sc hF hd H hL hargs hb hcall
  refine ⟨{ target:=.fn (.yield L.blk) #[],args:=#[]++A },nxt,w,rfl,?_,k2⟩
  simpa using k1
 | _=>simp [callWith] at hcall
theorem exists_least {p:Nat→Prop} (h:∃ n,p n):∃ n,p n∧∀ m,p m→n≤m:=by
 obtain ⟨n,hn⟩:=h
 induction n using Nat.strongRecOn with
 | _ n ih =>
  by_cases hc:∃ m,m<n∧p m
  ·obtain ⟨m,h1,h2⟩:=hc;exact ih m h1 h2
  ·exact ⟨n,hn,fun m hm=>Nat.le_of_not_lt fun h=>hc ⟨m,h,hm⟩⟩
theorem sound (hP:AllOk P):∀ (n:Nat),SC P raw n
 | 0=>fun _ _ _ _ _ _ _ _ _ _ _ _ _ _ _ _ _ h=>by simp [evC] at h
 | n+1=>by
  have sc:SC P raw n:=sound hP n
  intro F hF hd base c s s' e a w μ nt hok hnt hb H hf hv Q hQ
  have hcs:CallSound P F (callWith P raw (evC P raw n)):=call_sound hP sc hF hd
  have hcg:CallGrow (callWith P raw (evC P raw n)):=callWith_grow (evC_grow n)
  have IH:=fun base c s s' e a w μ (h1:okS F.round.isNone nt c=true)=>sc F hF hd base c s s' e a w μ nt h1
  cases c with
  | skip =>
   simp only [evC,Option.some.injEq,Prod.mk.injEq] at hv;obtain ⟨rfl,rfl⟩:=hv
   exact wpIn_skip (hQ a w μ (.refl H hf))
  | label l =>
   simp only [evC,Option.some.injEq,Prod.mk.injEq] at hv;obtain ⟨rfl,rfl⟩:=hv
   exact wpIn_label (hQ a w μ (.refl H hf))
  | exit id =>
   simp only [evC,Option.some.injEq,Prod.mk.injEq] at hv;obtain ⟨rfl,rfl⟩:=hv
   exact wpIn_exit (hQ a w μ (.refl H hf))
  | ret =>
   simp only [evC,Option.some.injEq,Prod.mk.injEq] at hv;obtain ⟨rfl,rfl⟩:=hv
   exact wpIn_ret (hQ a w μ (.refl H hf))
  | goto l=>simp [evC] at hv
  | refuse x=>simp [evC] at hv
  | region id ops draw =>
   simp only [okS,Bool.and_eq_true,Bool.or_eq_true,Bool.not_eq_true'] at hok
   have hlt:∀ o ∈ ops,tmpLt a.tmps.size o.dst=true:=fun o ho=>tmpLt_mono hnt (Array.all_eq_true'.1 hok.1 o ho)
   simp only [evC] at hv
   split at hv
   ·cases hv
   ·rename_i hloose
    split at hv
    ·rename_i s1 h1
     simp only [Option.some.injEq,Prod.mk.injEq] at hv;obtain ⟨rfl,rfl⟩:=hv
     cases draw with
     | false =>
      refine wpIn_region ?_
      rw [List.range_eq_range']
      have:=seq_region (Q:=Q) (ops:=ops) (chk:=false) hF hd.1 hcs hcg ops.toList 0 rfl (fun o ho=>hlt o (by simpa using ho)) hb H hf h1 (fun a' w' μ' R=>hQ a' w' μ' R.m)
      simpa using this
     | true =>
      simp only [true_and,Classical.not_not] at hloose
      rcases hloose with ⟨hdn,hl,s2,h2⟩|⟨hdr,hl⟩
      ·have:s2=s1:=by
        have:=evOps_unchk h2
        rw [h1] at this
        exact (Option.some.inj this).symm
       subst this
       exact any_region (wd:=false) hF hd.1 hP.mixed hcs hcg (drawOk_spec hdn) hlt hb H hf hl h2 fun a' w' μ' R=>hQ a' w' μ' R.m
      ·exact any_region (wd:=true) hF hd.1 hP.mixed hcs hcg (drawOk_spec hdr) hlt hb H hf hl h1 fun a' w' μ' R=>hQ a' w' μ' R.m
    ·cases hv
  | seq x y =>
   simp only [okS,Bool.and_eq_true] at hok
   simp only [evC] at hv
   refine wpIn_seq ?_
   split at hv
   ·rename_i s1 h1
    refine IH base x s s1 .normal a w μ hok.1 hnt hb H hf h1 _ fun a1 w1 μ1 R1=>?_
    refine IH base y s1 s' e a1 w1 μ1 hok.2 (by rw [R1.size];exact hnt) (Nat.le_trans hb R1.grow.1) R1.rel R1.fr hv _ fun a2 w2 μ2 R2=>hQ a2 w2 μ2 (R1.trans H R2)
   ·rename_i hne
    refine IH base x s s' e a w μ hok.1 hnt hb H hf hv _ fun a1 w1 μ1 R1=>?_
    have:=hQ a1 w1 μ1 R1
    cases e with
    | normal=>exact absurd hv (hne s')
    | exit id=>exact this
    | ret=>exact this
  | cond g x y =>
   simp only [okS,Bool.and_eq_true] at hok
   simp only [evC] at hv
   split at hv
   ·rename_i t ht
    have hg:=ev_VR hf g
    rw [ht] at hg
    have hg':a.eval g=.bool t:=by
     generalize a.eval g=G at hg
     cases hg;rfl
    refine wpIn_cond hg' ?_
    exact IH base _ s s' e a w μ (by cases t;exact hok.2;exact hok.1) hnt hb H hf hv Q hQ
   ·cases hv
  | block id x =>
   simp only [okS] at hok
   simp only [evC] at hv
   refine wpIn_block ?_
   split at hv
   ·rename_i id' s1 h1
    refine IH base x s s1 (.exit id') a w μ hok hnt hb H hf h1 _ fun a1 w1 μ1 R1=>?_
    simp only [toExit,Exit.inBlock]
    split at hv
    ·rename_i hid
     simp only [Option.some.injEq,Prod.mk.injEq] at hv;obtain ⟨rfl,rfl⟩:=hv
     rw [if_pos hid];exact hQ a1 w1 μ1 R1
    ·rename_i hid
     simp only [Option.some.injEq,Prod.mk.injEq] at hv;obtain ⟨rfl,rfl⟩:=hv
     rw [if_neg hid];exact hQ a1 w1 μ1 R1
   ·rename_i hne
    refine IH base x s s' e a w μ hok hnt hb H hf hv _ fun a1 w1 μ1 R1=>?_
    have:=hQ a1 w1 μ1 R1
    cases e with
    | normal=>exact this
    | exit id'=>exact absurd hv (hne id' s')
    | ret=>exact this
  | scope x =>
   simp only [okS] at hok
   simp only [evC] at hv
   refine wpIn_scope (Q:=fun e' a' w'=>Q e' a' w'∧∀ l,e' ≠ .goto l) ?_ (fun l a w h=>h.2 l rfl) |> fun h=>wpIn_mono h fun e' a' w' h=>h.1
   exact IH base x s s' e a w μ hok hnt hb H hf hv _ fun a1 w1 μ1 R1=>⟨hQ a1 w1 μ1 R1,fun l hl=>by cases e<;>cases hl⟩
  | loop x =>
   simp only [okS] at hok
   -- how much fuel is left
   let J:Nat→Act→World→Prop:=fun m a1 w1=>m≤n+1∧∃ s1 μ1,evC P raw m base (.loop x) s1=some (e,s')∧ReachM P base μ s.h w a s1 a1 w1 μ1
   classical
   have sub:∀ m,m≤n→SC P raw m:=fun m _=>sound hP m
   refine wpIn_loop (fun a1 w1=>∃ m,J m a1 w1) (fun a1 w1=>if hm:∃ m,J m a1 w1 then Classical.choose (exists_least hm) else 0) ⟨n+1,Nat.le_refl _,s,μ,hv,.refl H hf⟩ ?_
   intro a1 w1 hI
   have hJ:=(Classical.choose_spec (exists_least hI)).1
   rw [dif_pos hI]
   generalize hm:Classical.choose (exists_least hI)=m at hJ
   obtain ⟨hle,s1,μ1,hev,R1⟩:=hJ
   cases m with
   | zero=>simp [evC] at hev
   | succ m =>
    simp only [evC] at hev
    have hb1:base≤s1.h.length:=Nat.le_trans hb R1.grow.1
    have hnt1:nt≤a1.tmps.size:=by rw [R1.size];exact hnt
    split at hev
    ·rename_i s2 h2
     refine sub m (by omega) F hF hd base x s1 s2 .normal a1 w1 μ1 nt hok hnt1 hb1 R1.rel R1.fr h2 _ fun a2 w2 μ2 R2=>?_
     have hJ2:J m a2 w2:=⟨by omega,s2,μ2,hev,R1.trans H R2⟩
     refine ⟨⟨m,hJ2⟩,?_⟩
     rw [dif_pos ⟨m,hJ2⟩]
     have:=(Classical.choose_spec (exists_least (⟨m,hJ2⟩:∃ m,J m a2 w2))).2 m hJ2
     omega
    ·rename_i hne
     refine sub m (by omega) F hF hd base x s1 s' e a1 w1 μ1 nt hok hnt1 hb1 R1.rel R1.fr hev _ fun a2 w2 μ2 R2=>?_
     have:=hQ a2 w2 μ2 (R1.trans H R2)
     cases e with
     | normal=>exact absurd hev (hne s')
     | exit id=>exact this
     | ret=>exact this
  | rangeFunc g ps assign body =>
   simp only [okS,Bool.and_eq_true] at hok
   obtain ⟨⟨⟨hrng,hps⟩,hoka⟩,hokb⟩:=hok
   have hro:F.round=none:=by simpa using hrng
   simp only [evC] at hv
   split at hv
   ·rename_i hfn
    split at hv
    ·rename_i r h2 hcall
     -- the function
     have hg:=ev_VR hf g
     generalize hG:ev s.fr g=G at hg hcall hfn
     generalize hGV:a.eval g=GV at hg
     cases hg with
     | fn f first captured A0 B0 ha hb' k1 k2 =>
      refine wpIn_rangeFunc fun fnid hfnid=>?_
      -- the record
      let l0:Loop:={ state:=.ready,pending:=none,fn:=fnid,tmps:=a.tmps,params:=ps,assign,body,defers:=w.heap.size }
      let w1:World:={ w with heap:=(w.heap.push (.deferred (some []))).push (.loop l0) }
      let L0:Loc:=⟨w.heap.size+1,0,0,0⟩
      have hkeep:∀ k,k<w.heap.size→w1.heap[k]?=w.heap[k]?:=by
       intro k hk
       simp only [w1,Array.getElem?_push,Array.size_push]
       rw [if_neg (by omega),if_neg (by omega)]
      have hl0:w1.heap[L0.blk]?=some (.loop l0):=by
       simp only [w1,L0,Array.getElem?_push,Array.size_push]
       rw [if_pos trivial]
      have hd0:w1.heap[w.heap.size]?=some (.deferred (some [])):=by simp [w1,Array.getElem?_push]
      obtain ⟨p1,p2,p3,p4⟩:=HRel.push (base:=base) (P:=P) (b:=⟨.loop { state:=.ready,pending:=.none,fr:=s.fr,params:=ps.toList,assign,body },0⟩) (L:=L0) (w':=w1) H rfl ⟨rfl,rfl,rfl⟩ hkeep (by simp [L0]) (by simp [L0,w1])
       ⟨l0,hl0,rfl,rfl,rfl,rfl,rfl,fun t=>(hf t).mono (Mu.add_le (H.none_of_len (Nat.le_refl _))),by
        simp only [l0]
        exact List.all_eq_true.2 fun t ht=>by
         have:=Array.all_eq_true'.1 hps t (by simpa using ht)
         simp at this ⊢;exact Nat.lt_of_lt_of_le this hnt,okS_mono hnt hoka,okS_mono hnt hokb⟩
      have hargs:VRs (μ.add s.h.length 0 L0) [.yld s.h.length] (#[Value.func (.yield L0.blk) #[] #[]]).toList:=VRs.nil.cons (.yld _ L0 Mu.add_same)
      have hA1:VRs (μ.add s.h.length 0 L0) first A0.toList:=(VRs.of_arr ha k1).mono p1
      have hB1:VRs (μ.add s.h.length 0 L0) captured B0.toList:=(VRs.of_arr hb' k2).mono p1
      have hbase1:base≤(s.h++[(⟨.loop { state:=.ready,pending:=.none,fr:=s.fr,params:=ps.toList,assign,body },0⟩:ABlk)]).length:=by simp;omega
      have hnb:∀ fn,P.funcs[f]?=some fn→bodyA fn [.yld s.h.length] ≠ none:=fun fn hf q=>by
       simp [callWith,hf,q,extA,insQ,srtQ,ovlA] at hcall
      obtain ⟨m1,m2⟩:=fn_sound hP sc hF hd p2 hA1 hB1 hargs hbase1 hnb hcall
      refine ⟨L0.blk,[markOf w.heap.size],w1,{ target:=.fn (.func f) B0,args:=A0++#[Value.func (.yield L0.blk) #[] #[]] },w1,f,_,w1,?_,?_,fun f' _=>hF f',m1,fun hs=>(by rw [hd.1] at hs;cases hs),CallsIn.mono m2 ?_⟩
      ·rw [hro]
       simp only [Instr.enterLoop,Sem.run_bind,run_newObj,Result.andThen_ok,Sem.run_pure,Array.size_push]
       rfl
      ·simp only [resolve,List.map_toArray,List.map_cons,List.map_nil,hGV]
       rfl
      ·rintro e' w3 ⟨X,rfl,μ2,q1,q2,q3,q4,q5⟩
       have hgr:Grow base s.h h2:=(Grow.push hb).trans (callWith_grow (evC_grow n) hbase1 hcall)
       split at hv
       ·rename_i Lz hLz
        have hLoc:μ2.loc s.h.length 0=some L0:=q1.loc _ _ _ Mu.add_same
        obtain ⟨lz,z1,z2,z3,z4⟩:=q3.blk _ _ L0 hLz hLoc
        split at hv
        ·cases hv
        ·rename_i hnb
         have Rcall:ReachM P base μ s.h w a ⟨s.fr,h2⟩ { a with defers:=[markOf w.heap.size]++a.defers } w3 μ2:=by
          refine ⟨p1.trans q1,fun t=>(hf t).mono (p1.trans q1),q3,p3.trans q4,p4.trans H (.push hb) q5,hgr,rfl,[w.heap.size],rfl,by simp,fun r hr=>?_⟩
          simp at hr;subst hr
          refine ⟨Nat.le_refl _,?_⟩
          rw [(q4.keep _ (lt_of_some hd0) ?_).1];exact hd0
          rintro ⟨id,k,L,hk,hL,_,he⟩
          exact (p2.no_deferred hd0).1 id k L hk hL he
         have Rupd:ReachM P base μ2 h2 w3 { a with defers:=[markOf w.heap.size]++a.defers } ⟨s.fr,h2.set s.h.length ⟨.loop { Lz with state:=.exhausted },0⟩⟩ { a with defers:=[markOf w.heap.size]++a.defers }
           { w3 with heap:=w3.heap.setIfInBounds L0.blk (.loop { lz with state:=.exhausted }) } μ2 :=
          ReachM.upd (s:=⟨s.fr,h2⟩) (b':=⟨.loop { Lz with state:=.exhausted },0⟩) (o':=.loop { lz with state:=.exhausted }) q3 Rcall.fr hLz hLoc rfl rfl rfl (fun _=>rfl) z1 ⟨_,(setObj_facts z1).1,rfl,z3,z4⟩
         have R:=ReachM.trans H Rcall Rupd
         refine ⟨lz.pending,{ w3 with heap:=w3.heap.setIfInBounds L0.blk (.loop { lz with state:=.exhausted }) },?_,?_⟩
         ·unfold Instr.endLoop
          rw [Sem.run_bind,run_getLoop z1]
          simp only [Result.andThen_ok]
          have:(lz.state == LoopState.busy)=false:=by
           rw [z2];cases hst:Lz.state<;>first|rfl|exact absurd hst hnb
          simp only [this]
          simp only [Bool.false_eq_true,if_false]
          rw [Sem.run_bind,run_setObj z1 loop_obj]
          rfl
         ·generalize ({ w3 with heap:=w3.heap.setIfInBounds L0.blk (.loop { lz with state:=.exhausted }) }:World)=w4 at R ⊢
          rw [z3]
          split at hv
          ·rename_i hpend
           simp only [Option.some.injEq,Prod.mk.injEq] at hv;obtain ⟨rfl,rfl⟩:=hv
           rw [hpend];exact hQ _ _ _ R
          ·rename_i id hpend
           simp only [Option.some.injEq,Prod.mk.injEq] at hv;obtain ⟨rfl,rfl⟩:=hv
           rw [hpend];exact wpIn_exit (hQ _ _ _ R)
          ·rename_i hpend
           simp only [Option.some.injEq,Prod.mk.injEq] at hv;obtain ⟨rfl,rfl⟩:=hv
           rw [hpend];exact wpIn_ret (hQ _ _ _ R)
          ·cases hv
       ·cases hv
     | _=>simp [AVal.isFn] at hfn
    ·cases hv
   ·cases hv
end
end Go.AM
