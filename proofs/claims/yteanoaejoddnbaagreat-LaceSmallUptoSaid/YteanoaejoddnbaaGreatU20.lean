/-
  Contracts: as few piles as can be (Piles).
-/
import Derived.Test.YteanoaejoddnbaaGreatU19
import Derived.Test.YteanoaejoddnbaaGreatU17
import Derived.Test.YteanoaejoddnbaaGreatU12
import Derived.Test.YteanoaejoddnbaaGreatU18
import Derived.Test.YteanoaejoddnbaaGreatU15
import Derived.Test.YteanoaejoddnbaaGreatU16
import Derived.Test.YteanoaejoddnbaaGreatU11
set_option linter.unusedSimpArgs false
set_option linter.unusedVariables false
namespace Go.AM
open Go.Proofs.Tryz
attribute [-go_sem] put_ne put_same
attribute [local go_sem ↓] put_if
structure PilAt (b:Nat) (H:Heap) (u:AVal) (vs:List AVal) (ps:List (List Int)):Prop where
 own:Own encZ 22 b H u vs
 len:vs.length=ps.length
 el:∀ (i:Nat) x t,vs[i]?=some x→ps[i]?=some t→Own encI 3 b H x t
 apart:∀ (i j:Nat) x y,i ≠ j→vs[i]?=some x→vs[j]?=some y→Asun x y
theorem PilAt.all {b:Nat} {H:Heap} {u:AVal} {vs:List AVal} {ps:List (List Int)} (x:PilAt b H u vs ps):AllI b H u ps:=⟨vs,x.own,x.len,fun i y t h1 h2=>.inl ((x.el i y t h1 h2).low (Nat.zero_le _))⟩
theorem PilAt.ext {b:Nat} {H H':Heap} {u:AVal} {vs:List AVal} {ps:List (List Int)} (x:PilAt b H u vs ps) (e:Ext H H'):PilAt b H' u vs ps:=⟨x.own.ext e,x.len,fun i y t h1 h2=>(x.el i y t h1 h2).ext e,x.apart⟩
theorem PilAt.put {base b i:Nat} {H:Heap} {u w:AVal} {vs:List AVal} {ps:List (List Int)} {t:List Int} {p:Int} (x:PilAt b H u vs ps) (hb:base≤b) (hbh:b≤H.length) (hw:vs[i]?=some w) (ht:ps[i]?=some t) (hl:t.length≤1000) :
  ∃ w' H2 id ver,One w'∧appendA prog base H 22 w (.vals [.int .i64 p])=some (w',H2)∧u=.slice (some ⟨id,ver,0⟩) vs.length vs.length∧H2[id]?=some (rowE encZ 22 vs ver)∧b≤id∧H.length≤H2.length∧(∀ G,G.length≤b→Ext G H→Ext G H2) ∧
   PilAt b (H2.set id (rowE encZ 22 (vs.set i w') ver)) u (vs.set i w') (ps.set i (t++[p])):=by
 have hi:=(List.getElem?_eq_some_iff.1 hw).1
 have hO:=x.el i w t hw ht
 have ea:=app_sn1 (P:=prog) (base:=base) (y:=p) (a:=.int .i64 p) (t:=22) hO rfl rfl Fc.el22 encI_sc hb (by omega)
 obtain ⟨H2,eH2⟩:∃ H2,H2=snH encI 3 H w t [p]:=⟨_,rfl⟩
 obtain ⟨w',ew'⟩:∃ w',w'=snV H w 1:=⟨_,rfl⟩
 rw [← eH2,← ew'] at ea
 have l2:H.length≤H2.length:=by rw [eH2];exact snH_len
 have hu2:Own encZ 22 b H2 u vs:=by rw [eH2];exact x.own.sn_oth (asun_ne hO x.own (by decide))
 have hw2:Own encI 3 b H2 w' (t++[p]):=by rw [eH2,ew'];exact hO.sn (m:=[p]) hbh (by simp)
 have ow':One w':=by rw [ew'];exact snV_one
 obtain ⟨id,ver,eu,gu,hid⟩:=(Or.inl hu2:OwnE encZ 22 b H2 u vs) |> fun z=>OwnE.pos z (by omega)
 have lid:=lt_of_get gu
 refine ⟨w',H2,id,ver,ow',ea,eu,gu,hid,l2,fun G hG e=>by rw [eH2];exact hO.sn_ext hG e,?_,by rw [List.length_set,List.length_set];exact x.len,fun j y s h1 h2=>?_,fun j j' y y' hne h1 h2=>?_⟩
 ·exact .inr ⟨id,ver,by rw [List.length_set];exact eu,List.getElem?_set_self lid,hid,by rw [List.length_set];omega⟩
 ·have key:Own encI 3 b H2 y s:=by
   rw [List.getElem?_set] at h1 h2
   by_cases e:i=j
   ·rw [if_pos e,if_pos (by omega)] at h1
    rw [if_pos e,if_pos (by have:=x.len;omega)] at h2
    cases h1;cases h2;exact hw2
   ·rw [if_neg e] at h1 h2
    rw [eH2]
    exact (x.el j y s h1 h2).sn_oth (x.apart i j w y e hw h1)
  exact key.setRow gu (by decide)
 ·rw [List.getElem?_set] at h1 h2
  by_cases e:i=j
  ·rw [if_pos e,if_pos (by omega)] at h1
   rw [if_neg (fun z=>hne (e.symm.trans z))] at h2
   cases h1
   have hj:=(List.getElem?_eq_some_iff.1 h2).1
   have oy:=x.el j' y' _ h2 (List.getElem?_eq_getElem (by have:=x.len;omega))
   rw [ew']
   exact oy.sn_asun (x.apart i j' w y' (fun z=>hne (e.symm.trans z)) hw h2)
  ·rw [if_neg e] at h1
   by_cases e2:i=j'
   ·rw [if_pos e2,if_pos (by omega)] at h2
    cases h2
    have oy:=x.el j y _ h1 (List.getElem?_eq_getElem (by have:=(List.getElem?_eq_some_iff.1 h1).1;have:=x.len;omega))
    rw [ew']
    exact (oy.sn_asun (x.apart i j w y e hw h1)).symm
   ·rw [if_neg e2] at h2
    exact x.apart j j' y y' hne h1 h2
end Go.AM
namespace Go.AM
open Go.Proofs.Tryz
attribute [-go_sem] put_ne put_same
attribute [local go_sem ↓] put_if
def pilE (o:List Int):List (List Int) × Int:=if aloL o=0 then (pilN o o.length,0) else ([],aloL o)
theorem PilAt.snoc {base b:Nat} {H:Heap} {u:AVal} {vs:List AVal} {ps:List (List Int)} (x:PilAt b H u vs ps) (hb:base≤b) (hbh:b≤H.length) (hl:ps.length≤1000) :
  ∃ z A u' H',(∀ {lit:Bool},lit=true→bsA prog lit H 32 1 [(0,.slice none 0 0)]=some (z,A))∧appendA prog base A 32 u z=some (u',H')∧One u'∧H.length≤H'.length∧(∀ G,G.length≤b→Ext G H→Ext G H')∧KeepO encZ 22 H H'∧PilAt b H' u' (vs++[.slice none 0 0]) (ps++[[]]):=by
 obtain ⟨z,A,h1,xA,u',H',h2,h3,h4,h5,h6,h7⟩:=snocZI (base:=base) x.own (⟨rfl,rfl,rfl⟩:One (.slice none 0 0)) hb hbh (by have:=x.len;omega)
 have hlen:=x.len
 refine ⟨z,A,u',H',h1,h2,h6,h4,h5,h7,h3,by simp [hlen],fun i y t g1 g2=>?_,fun i j y y' hne g1 g2=>?_⟩
 ·by_cases hi:i<vs.length
  ·rw [List.getElem?_append_left hi] at g1
   rw [List.getElem?_append_left (by omega)] at g2
   exact h7.own (x.el i y t g1 g2) (by decide)
  ·rw [List.getElem?_append_right (by omega)] at g1
   rw [List.getElem?_append_right (by omega)] at g2
   have e0:i-vs.length=0:=by
    have:=(List.getElem?_eq_some_iff.1 g1).1
    simp at this;omega
   rw [e0] at g1
   rw [show i-ps.length=0 by omega] at g2
   cases g1;cases g2
   exact Own.nil
 ·by_cases hi:i<vs.length
  ·rw [List.getElem?_append_left hi] at g1
   by_cases hj:j<vs.length
   ·rw [List.getElem?_append_left hj] at g2
    exact x.apart i j y y' hne g1 g2
   ·rw [List.getElem?_append_right (by omega)] at g2
    have e0:j-vs.length=0:=by
     have:=(List.getElem?_eq_some_iff.1 g2).1
     simp at this;omega
    rw [e0] at g2
    cases g2
    exact Asun.nil
  ·rw [List.getElem?_append_right (by omega)] at g1
   have e0:i-vs.length=0:=by
    have:=(List.getElem?_eq_some_iff.1 g1).1
    simp at this;omega
   rw [e0] at g1
   cases g1
   exact Asun.nil'
theorem put_facts {base b i:Nat} {H:Heap} {u w:AVal} {vs:List AVal} {ps:List (List Int)} {t:List Int} {p:Int} (x:PilAt b H u vs ps) (hb:base≤b) (hbh:b≤H.length) (hw:vs[i]?=some w) (ht:ps[i]?=some t) (hl:t.length≤1000) (hps:ps.length≤1000) :
  ∃ w' H2 H3 id ver,One w'∧u=.slice (some ⟨id,ver,0⟩) vs.length vs.length∧loadP prog H 22 (.ptr (some ⟨id,ver,i⟩))=some w∧appendA prog base H 22 w (.vals [.int .i64 p])=some (w',H2)∧H2[id]?=some (rowE encZ 22 vs ver) ∧
   (∀ {F:ABlk→Heap},stQ base id (some (rowE encZ 22 vs ver)) ver i [w'] F=some (F (rowE encZ 22 (vs.set i w') ver)))∧H2.set id (rowE encZ 22 (vs.set i w') ver)=H3∧H.length≤H3.length∧(∀ G,G.length≤b→Ext G H→Ext G H3)∧PilAt b H3 u (vs.set i w') (ps.set i (t++[p])):=by
 have hi:=(List.getElem?_eq_some_iff.1 hw).1
 have hlen:=x.len
 obtain ⟨w',H2,id,ver,h1,h2,h3,h4,h5,h6,h7,h8⟩:=x.put (base:=base) (p:=p) hb hbh hw ht hl
 have ow:=(x.el i w t hw ht).one
 refine ⟨w',H2,_,id,ver,h1,h3,?_,h2,h4,fun {F}=>?_,rfl,by rw [List.length_set];exact h6,fun G hG e=>(h7 G hG e).set (by omega),h8⟩
 ·have hR:=x.own.rows (show vs.length<2 ^ 60 by omega)
  have:=hR.cell (P:=prog) Fc.ty22 hw (o:=0) (a:=w) (by simp only [encZ,norm_one ow];rfl)
  rw [h3] at this
  simpa [elAdr,ARef.add,encZ] using this
 ·have:=stQ_rowE (base:=base) (ver:=ver) (e:=22) (id:=id) (x:=w') (K:=F) hi (encZ_sc w') (by omega)
  have e1:encZ.cells w'=[w']:=by simp only [encZ,norm_one h1]
  rw [e1,show i * encZ.z=i from Nat.mul_one i] at this
  exact this
end Go.AM
namespace Go.AM
open Go.Proofs.Tryz
attribute [-go_sem] put_ne put_same
attribute [local go_sem ↓] put_if
theorem few_flat:∀ {ps:List (List Int)},(∀ x ∈ ps,x ≠ [])→ps.length≤ps.flatten.length
 | [],_=>by simp
 | a :: l,hne=>by
  have h1:=few_flat (ps:=l) fun x hx=>hne x (by simp [hx])
  have h2:=hne a (by simp)
  have h3:0<a.length:=by cases z:a with|nil=>exact absurd z h2|cons b c=>simp
  simp only [List.flatten_cons,List.length_append,List.length_cons]
  omega
theorem idx_lt {α:Type} {p:α→Bool} {l:List α} (h:¬ idx p l<0):∃ i:Nat,idx p l=(i:Int)∧i<l.length:=by
 obtain ⟨i,h1,⟨h2,_⟩,_⟩:=idx_at (p:=p) (l:=l) (by omega)
 exact ⟨i,h1,h2⟩
set_option maxRecDepth 100000 in
set_option maxHeartbeats 4000000 in
theorem run_Piles {base:Nat} {h:Heap} {v:AVal} {o:List Int} (hb:base≤h.length) (hI:Ints h v o) :
  Ret prog raw base (.fn 7 [] []) [v] h (fun w H=>Ext h H∧∃ x vs,w=.tuple [x,.int .i64 (pilE o).2]∧PilAt h.length H x vs (pilE o).1):=by
 have ov:=hI.one
 obtain ⟨G,eG⟩:∃ G,G=h++[(⟨.cells [v] 22 false false,0⟩:ABlk)]:=⟨_,rfl⟩
 have xG:Ext h G:=by rw [eG];exact .app .refl
 have gv:G[h.length]?=some ⟨.cells [v] 22 false false,0⟩:=by rw [eG];exact get_eq rfl
 have lG:G.length=h.length+1:=by rw [eG];simp
 have ha:=fun base=>run_alone (base:=base) (hI.ext xG)
 by_cases c:aloL o=0
 ·obtain ⟨c1,c2,c3⟩:=aloL_iff.1 c
  rw [c] at ha
  have r:pilE o=(pilN o o.length,0):=by unfold pilE;rw [if_pos c]
  rw [r]
  have hlo:=lenI (hI.ext xG)
  have hdist:∀ i j,i<j→j<o.length→o.getD i 0 ≠ o.getD j 0:=fun i j hij hj e=>by
   have:=ord_inj c3 (by omega) hj e;omega
  refine ret_raw func7 rfl (by kernel_rfl) ?_
  have hsp:=@Nat.succ_ne_zero;repeat' (first|simp (disch:=first|exact dq|fail) only [go_sem,↓reduceIte,hsp,← eG,gv,ha,eq_self,hlo]|refine WP_drw ?_|refine cnd_intro (fun hsp=>?_) fun hsp=>?_)
  refine WP_count [(5,8),(16,41)] 0 o.length (Nat.zero_le _) (fun _ p fr K=>fr 16=.int .i64 (p:Int)∧Ext G K∧∃ u vs,fr 5=u∧PilAt G.length K u vs (pilN o p)) ?_ ?_ ?_
  ·exact ⟨by (simp (disch:=first|exact dq|fail) only [go_sem,↓reduceIte,Int.natCast_zero];first|done|rfl),.refl,.slice none 0 0,[],by simp (disch:=first|exact dq|fail) only [go_sem,↓reduceIte],Own.nil,rfl,fun i x t q=>by simp at q,fun i j x y _ q=>by simp at q⟩
  ·rintro p fr K hp0 hp hA ⟨r16,xK,u,vs,r5,hP⟩
   have q1:=hA 1 rfl
   have q2:=hA 2 rfl
   have q3:=hA 3 rfl
   have q14:=hA 14 rfl
   have q15:=hA 15 rfl
   try simp (disch:=first|exact dq|fail) only [go_sem,↓reduceIte] at q1 q2 q3 q14 q15
   have hlt:((p:Int)<(o.length:Int))=True:=eq_true (by omega)
   have hIK:=hI.ext (xG.trans xK)
   have ap:=adrI (i:=(p:Int)) (by omega) hIK (by omega)
   rw [Int.toNat_natCast] at ap
   have lp:=loadI hIK hp
   obtain ⟨k,ek⟩:∃ k,k=o.getD p 0:=⟨_,rfl⟩
   rw [← ek] at lp
   have ou:=hP.own.one
   have lK:=xK.len
   obtain ⟨ps,eps⟩:∃ ps,ps=pilN o p:=⟨_,rfl⟩
   rw [← eps] at hP
   have hok:=pilN_ok (o:=o) hdist (n:=p) (by omega)
   rw [← eps] at hok
   have hmem:∀ x ∈ ps,∀ y ∈ x,0≤y∧y<(p:Int):=fun x hx y hy=>upto_mem.1 (hok.all.mem_iff.1 (List.mem_flatten.2 ⟨x,hx,hy⟩))
   have hxl:∀ x ∈ ps,x.length≤p:=fun x hx=>by
    have h1:x.Sublist ps.flatten:=List.sublist_flatten_of_mem hx
    have h2:=h1.length_le
    rw [hok.all.length_eq,upto_len] at h2;exact h2
   have hpl:ps.length≤p:=by
    have h1:=few_flat hok.ne
    rw [hok.all.length_eq,upto_len] at h1;exact h1
   obtain ⟨K1,eK1⟩:∃ K1,K1=K++[nB k]:=⟨_,rfl⟩
   have x1:Ext K K1:=by rw [eK1];exact .app .refl
   have gk:K1[K.length]?=some (nB k):=by rw [eK1];exact get_eq rfl
   have l1:K1.length=K.length+1:=by rw [eK1];simp
   have gv1:=(xK.trans x1).get gv
   have hP1:=hP.ext x1
   have hix:=idx_Z (base:=base) (h:=K1) (v:=u) (g:=.fn 23 [] [.ptr (some ⟨h.length,0,0⟩),.ptr (some ⟨K.length,0,0⟩)]) (ts:=ps) (fun pile=>decide (topV o pile > k)) (by omega) ⟨rfl,rfl,rfl⟩ hP1.all (by omega)
    (fun x t ht hx=>run_pil1 gv1 gk (hI.ext ((xG.trans xK).trans x1)) (ownE_ints hx ⟨by have:=hxl t ht;omega,fun y hy=>by have:=hmem t ht y hy;omega⟩) (hok.ne t ht) (fun y hy=>by have:=hmem t ht y hy;omega))
   obtain ⟨z,ez⟩:∃ z,z=idx (fun pile=>decide (topV o pile > k)) ps:=⟨_,rfl⟩
   rw [← ez] at hix
   have hstep:pilN o (p+1)=if z<0 then ps++[[(p:Int)]] else ps.set z.toNat (ps.getD z.toNat []++[(p:Int)]):=by
    rw [pilN,← eps,pilS,pilI,← ek,← ez]
   unfold nB at eK1
   by_cases hz:z<0
   ·have t1:(z<0)=True:=eq_true hz
    rw [if_pos hz] at hstep
    have hlu:=hP1.all.len (by omega)
    obtain ⟨zz,A,u2,K2,b1,b2,b3,b4,b5,b6,hP2⟩:=hP1.snoc (base:=base) (by omega) (by omega) (by omega)
    obtain ⟨w',K3,K4,id,ver,f1,f2,f3,f4,f5,f6,f7,f8,f9,f10⟩:=put_facts (base:=base) (i:=ps.length) (w:=.slice none 0 0) (t:=[]) (p:=(p:Int)) hP2 (by omega) (by omega) (by rw [List.getElem?_append_right (by have:=hP1.len;omega),show ps.length-vs.length=0 by have:=hP1.len;omega];rfl) (by simp) (by simp) (by simp;omega)
    have hps:(ps++[[]]).set ps.length ([]++[(p:Int)])=ps++[[(p:Int)]]:=by simp
    rw [hps,← hstep] at f10
    have hvl:vs.length=ps.length:=hP1.len
    subst f2
    have ai:indexAddrA prog 32 (.slice (some ⟨id,ver,0⟩) (vs++[AVal.slice none 0 0]).length (vs++[AVal.slice none 0 0]).length) (.int .i64 (ps.length:Int))=some (.ptr (some ⟨id,ver,ps.length⟩)):=by
     rw [adr_sl Fc.el32 Fc.ar32 (by omega) (by simp;omega),Int.toNat_natCast,Nat.mul_one,Nat.zero_add]
    have hsp:=@Nat.succ_ne_zero;repeat' (first|simp (disch:=first|exact dq|fail) only [go_sem,↓reduceIte,hsp,r16,r5,q1,q2,q3,q14,q15,hlt,ap,lp,← eK1,hix,t1,hlu,b1,b2,ai,f3,f4,f5,f6,f7]|refine WP_drw ?_|refine cnd_intro (fun hsp=>?_) fun hsp=>?_)
    exact ⟨agq,by omega,f9 _ (Nat.le_refl _) (b5 _ (Nat.le_refl _) (xK.trans x1)),_,_,rfl,by simpa using f10⟩
   ·have t1:(z<0)=False:=eq_false hz
    rw [if_neg hz] at hstep
    obtain ⟨i,ei,hi⟩:=idx_lt (by rw [← ez];exact hz)
    rw [← ez] at ei
    rw [ei] at hix t1 hstep
    rw [Int.toNat_natCast] at hstep
    have hvl:vs.length=ps.length:=hP1.len
    have hti:ps[i]?=some (ps.getD i []):=getD_some hi
    obtain ⟨w',K3,K4,id,ver,f1,f2,f3,f4,f5,f6,f7,f8,f9,f10⟩:=put_facts (base:=base) (i:=i) (w:=vs[i]) (t:=ps.getD i []) (p:=(p:Int)) hP1 (by omega) (by omega) (List.getElem?_eq_getElem (by omega)) hti (by have:=hxl _ (List.mem_of_getElem? hti);omega) (by omega)
    rw [← hstep] at f10
    subst f2
    have ai:indexAddrA prog 32 (.slice (some ⟨id,ver,0⟩) vs.length vs.length) (.int .i64 (i:Int))=some (.ptr (some ⟨id,ver,i⟩)):=by
     rw [adr_sl Fc.el32 Fc.ar32 (by omega) (by omega),Int.toNat_natCast,Nat.mul_one,Nat.zero_add]
    have hsp:=@Nat.succ_ne_zero;repeat' (first|simp (disch:=first|exact dq|fail) only [go_sem,↓reduceIte,hsp,r16,r5,q1,q2,q3,q14,q15,hlt,ap,lp,← eK1,hix,t1,ai,f3,f4,f5,f6,f7]|refine WP_drw ?_|refine cnd_intro (fun hsp=>?_) fun hsp=>?_)
    exact ⟨agq,by omega,f9 _ (Nat.le_refl _) (xK.trans x1),_,_,rfl,f10⟩
  ·rintro fr K hA ⟨r16,xK,u,vs,r5,hP⟩
   have q1:=hA 1 rfl
   have q2:=hA 2 rfl
   have q3:=hA 3 rfl
   have q14:=hA 14 rfl
   have q15:=hA 15 rfl
   try simp (disch:=first|exact dq|fail) only [go_sem,↓reduceIte] at q1 q2 q3 q14 q15
   have hlt:((o.length:Int)<(o.length:Int))=False:=eq_false (by omega)
   have ou:=hP.own.one
   have hsp:=@Nat.succ_ne_zero;repeat' (first|simp (disch:=first|exact dq|fail) only [go_sem,↓reduceIte,hsp,r16,r5,q1,q2,q3,q14,q15,hlt]|refine WP_drw ?_|refine cnd_intro (fun hsp=>?_) fun hsp=>?_)
   exact ⟨xG.trans xK,_,vs,rfl,hP.own.low (by omega),hP.len,fun i x t h1 h2=>(hP.el i x t h1 h2).low (by omega),hP.apart⟩
 ·have t1:(aloL o=0)=False:=eq_false c
  have r:pilE o=([],aloL o):=by unfold pilE;rw [if_neg c]
  rw [r]
  refine ret_raw func7 rfl (by kernel_rfl) ?_
  have hsp:=@Nat.succ_ne_zero;repeat' (first|simp (disch:=first|exact dq|fail) only [go_sem,↓reduceIte,hsp,← eG,gv,ha,t1]|refine WP_drw ?_|refine cnd_intro (fun hsp=>?_) fun hsp=>?_)
  exact ⟨xG,_,[],rfl,Own.nil,rfl,fun i x t q=>by simp at q,fun i j x y _ q=>by simp at q⟩
end Go.AM
namespace Go.AM
open Go.Proofs.Tryz
attribute [-go_sem] put_ne put_same
attribute [local go_sem ↓] put_if
def badAt (o pile:List Int) (i:Nat):Bool :=
 !decide (0≤pile.getD i 0∧pile.getD i 0≤(o.length:Int)-1) || (decide (0<i) && (decide (pile.getD i 0≤pile.getD (i-1) 0) || decide (o.getD (pile.getD i 0).toNat 0 ≥ o.getD (pile.getD (i-1) 0).toNat 0)))
def pilB (o pile:List Int):Bool:=decide (pile ≠ []) && (List.range pile.length).all fun i=>!badAt o pile i
theorem badAt_in {o pile:List Int} {i:Nat} (h:badAt o pile i=false):0≤pile.getD i 0∧pile.getD i 0<(o.length:Int):=by
 unfold badAt at h
 rw [Bool.or_eq_false_iff] at h
 have:=h.1
 simp only [Bool.not_eq_false',decide_eq_true_eq] at this
 omega
theorem pilB_bad {o pile:List Int} {i:Nat} (hi:i<pile.length) (h:badAt o pile i=true):pilB o pile=false:=by
 unfold pilB
 rw [show (List.range pile.length).all (fun i=>!badAt o pile i)=false from all_no (x:=i) (n:=i) (List.getElem?_range hi) (by rw [h];rfl),Bool.and_false]
theorem pilB_ok {o pile:List Int} (h0:pile ≠ []) (h:∀ i,i<pile.length→badAt o pile i=false):pilB o pile=true:=by
 unfold pilB
 rw [decide_eq_true h0,Bool.true_and,List.all_eq_true]
 intro i hi
 rw [h i (List.mem_range.1 hi)];rfl
def shwE (o:List Int) (ps:List (List Int)):Int × Int :=
 if aloL o ≠ 0 then (0,aloL o) else if ps.all (pilB o)=false then (0,8) else if ps.flatten.length ≠ o.length ∨ twB ps.flatten=true then (0,8) else ((ps.length:Int),0)
end Go.AM
namespace Go.AM
theorem pair_at {α:Type} {R:α→α→Prop} {l:List α} (h:l.Pairwise R) {i j:Nat} (hij:i<j) (hj:j<l.length):R (l[i]'(by omega)) l[j]:=List.pairwise_iff_getElem.1 h i j (by omega) hj hij
theorem pils_ok {o:List Int} {ps:List (List Int)} (h:Pils o o.length ps):ps.all (pilB o)=true:=by
 rw [List.all_eq_true]
 intro x hx
 have hmem:∀ y ∈ x,0≤y∧y<(o.length:Int):=fun y hy=>upto_mem.1 (h.all.mem_iff.1 (List.mem_flatten.2 ⟨x,hx,hy⟩))
 refine pilB_ok (h.ne x hx) fun i hi=>?_
 have h1:=hmem _ (getD_mem hi)
 unfold badAt
 rw [decide_eq_true (by omega:0≤x.getD i 0∧x.getD i 0≤(o.length:Int)-1)]
 by_cases hp:0<i
 ·have h2:=pair_at (h.dn x hx) (i:=i-1) (j:=i) (by omega) hi
  unfold PilR at h2
  rw [← getD_at (d:=0) hi,← getD_at (d:=0) (show i-1<x.length by omega)] at h2
  rw [decide_eq_true hp,decide_eq_false (by omega),decide_eq_false (by omega)]
  rfl
 ·rw [decide_eq_false hp];rfl
theorem upto_nd (n:Nat):(upto n).Nodup:=(upto_sorted n).imp fun h=>by omega
theorem shwE_pils {o:List Int} {ps:List (List Int)} (hc:aloL o=0) (h:Pils o o.length ps):shwE o ps=((ps.length:Int),0):=by
 unfold shwE
 rw [if_neg (by simp [hc]),if_neg (by rw [pils_ok h];simp),if_neg]
 intro q
 rcases q with q|q
 ·exact q (by rw [h.all.length_eq,upto_len])
 ·have:=of_decide_eq_true (show decide (¬ ps.flatten.Nodup)=true from q)
  exact this (h.all.nodup_iff.2 (upto_nd _))
theorem ord_dist {n:Nat} {o:List Int} (h:Ord n o):∀ i j,i<j→j<o.length→o.getD i 0 ≠ o.getD j 0:=fun i j hij hj e=>by
 have:=ord_inj h (by have:=h.1;omega) (by have:=h.1;omega) e
 omega
theorem ord_all5 {n:Nat} {o:List Int} (hn:1≤n∧n≤7) (h:Ord n o) :
  aloL o=0∧risE o=(riseL o,0)∧pilE o=(pilN o o.length,0)∧shwE o (pilN o o.length)=(((riseL o).length:Int),0)∧(pilN o o.length).length=(riseL o).length∧mndE o=(mndL o,0)∧makE o (mndL o)=(upto n,0)∧(mndL o).length+(riseL o).length=n:=by
 have ha:aloL o=0:=aloL_iff.2 ⟨by have:=h.1;omega,by have:=h.1;omega,by rw [h.1];exact h⟩
 have hp:=pilN_ok (ord_dist h) (Nat.le_refl _)
 have hl:=piles_rise hp (riseL_is o)
 obtain ⟨m1,m2,m3⟩:=mndL_ok h
 refine ⟨ha,by unfold risE;rw [if_pos ha],by unfold pilE;rw [if_pos ha],by rw [shwE_pils ha hp,hl],hl,by unfold mndE;rw [if_pos ha],by unfold makE;rw [if_pos ha,h.1,m1],m3⟩
end Go.AM
namespace Go.AM
open Go.Proofs.Tryz
attribute [-go_sem] put_ne put_same
attribute [local go_sem ↓] put_if
def looks (L:Lac) (real ps:List Int):List Rw3:=ps.map fun p=>(p,2 ^ L.T.toNat-1,L.C.getD (real.getD p.toNat 0).toNat 0)
def shwL (L:Lac) (real ps:List Int):Lac:=⟨L.T,L.C,L.R++looks L real ps⟩
theorem snocR {b base:Nat} {A:Heap} {w:AVal} {l:List Rw3} {r:Rw3} (hO:OwnE encR 28 b A w l) (hb:base≤b) (hbh:b≤A.length) (hl:l.length≤1000000) :
  ∃ w' H,appendA prog base (A++[rowE encR 28 [r] 0]) 23 w (.slice (some ⟨A.length,0,0⟩) 1 1)=some (w',H)∧Own encR 28 b H w' (l++[r])∧A.length≤H.length∧(∀ G,G.length≤b→Ext G A→Ext G H)∧One w'∧KeepO encR 28 A H:=by
 obtain ⟨B,eB⟩:∃ B,B=A++[rowE encR 28 [r] 0]:=⟨_,rfl⟩
 have xB:Ext A B:=by rw [eB];exact .app .refl
 have lB':B.length=A.length+1:=by rw [eB];simp
 have hx:Rows encR B (.slice (some ⟨A.length,0,0⟩) 1 1) [r]:=Rows.own (by rw [eB];exact get_eq rfl) rfl (by simp)
 rw [← eB]
 rcases hO with hO|⟨rfl,rfl⟩
 ·obtain ⟨w',H,a1,a2,a3,a4,a5,a6⟩:=(hO.ext xB).appendRX (P:=prog) (base:=base) (t:=23) hx Fc.el23 encR_sc hb (by omega) (by simp) (by simp;omega)
  have a6:KeepO encR 28 B H:=a6
  exact ⟨w',H,a1,a2,by omega,fun G h1 h2=>a4 G h1 (h2.trans xB),a5,fun i y hi hy=>a6 i y (xB.get hi) hy⟩
 ·have:=app_empE (base:=base) hx (by simp) encR_sc (by simp) Fc.el23
  exact ⟨_,_,this,.inr ⟨B.length,0,rfl,get_eq rfl,by omega,by simp⟩,by simp;omega,fun G _ q=>(q.trans xB).trans (.app .refl),⟨rfl,rfl,rfl⟩,fun i y hi _=>get_app (xB.get hi)⟩
end Go.AM
namespace Go.AM
open Go.Proofs.Tryz
end Go.AM
namespace Go.AM
open Go.Proofs.Tryz
attribute [-go_sem] put_ne put_same
attribute [local go_sem ↓] put_if
structure SeenOk (T:Int) (C o:List Int) (r:Rw3):Prop where
 t:0≤r.1∧r.1≤60
 m:0≤r.2.1∧r.2.1≤2 ^ T.toNat-1
 s:0≤r.2.2
 is:(C.getD (o.getD (r.1.toNat % C.length) 0).toNat 0).toNat &&& r.2.1.toNat=r.2.2.toNat
theorem pow_le8 {T:Int} (h:1≤T∧T≤8):(1:Int)≤2 ^ T.toNat∧(2:Int) ^ T.toNat≤256:=by
 refine ⟨by exact_mod_cast Nat.one_le_two_pow,?_⟩
 have h2:(2:Int) ^ T.toNat≤2 ^ 8:=by exact_mod_cast Nat.pow_le_pow_right (by decide) (show T.toNat≤8 by omega)
 simpa using h2
end Go.AM
namespace Go.AM
theorem sortB_pair {m:List Int} (h:sortB m=true):m.Pairwise (·≤·):=by
 have h1:=of_decide_eq_true (show decide (∀ i,i<m.length→0<i→m.getD (i-1) 0≤m.getD i 0)=true from h)
 have h2:∀ d a,a+d<m.length→m.getD a 0≤m.getD (a+d) 0:=by
  intro d
  induction d with
  | zero=>intro a _;exact Int.le_refl _
  | succ d ih =>
   intro a ha
   have q1:=ih a (by omega)
   have q2:=h1 (a+d+1) (by omega) (by omega)
   rw [show a+d+1-1=a+d by omega] at q2
   rw [show a+(d+1)=a+d+1 by omega]
   omega
 refine List.pairwise_iff_getElem.2 fun i j hi hj hij=>?_
 have:=h2 (j-i) i (by omega)
 rw [show i+(j-i)=j by omega,getD_at hi,getD_at hj] at this
 exact this
theorem pair_sortB {m:List Int} (h:m.Pairwise (·≤·)):sortB m=true:=by
 unfold sortB
 refine decide_eq_true fun i hi h0=>?_
 have:=pair_at h (i:=i-1) (j:=i) (by omega) hi
 rw [getD_at hi,getD_at (show i-1<m.length by omega)]
 exact this
end Go.AM
namespace Go.AM
open Go.Proofs.Tryz
attribute [-go_sem] put_ne put_same
attribute [local go_sem ↓] put_if
def cntK (os:List (List Int)) (p n i:Nat):List Int:=lst (fun k=>(((os.take i).countP fun o=>decide (o.getD p 0=(k:Int)):Nat):Int)) n
theorem cntK_len {os:List (List Int)} {p n i:Nat}:(cntK os p n i).length=n:=lst_len
theorem cntK_step {os:List (List Int)} {p n i c:Nat} {o:List Int} (ho:os[i]?=some o) (hc:o.getD p 0=(c:Int)) (hn:c<n):(cntK os p n i).set c ((cntK os p n i).getD c 0+1)=cntK os p n (i+1):=by
 unfold cntK
 rw [lst_get hn,lst_set hn]
 refine lst_congr fun k hk=>?_
 rw [List.take_add_one,ho,List.countP_append]
 by_cases e:k=c
 ·subst e
  rw [if_pos rfl,show List.countP (fun o=>decide (o.getD p 0=(k:Int))) (some o).toList=1 from List.countP_cons_of_pos (decide_eq_true hc)]
  omega
 ·rw [if_neg e,show List.countP (fun o=>decide (o.getD p 0=(k:Int))) (some o).toList=0 from List.countP_cons_of_neg (by rw [decide_eq_true_eq,hc];omega)]
  omega
theorem cntK_bd {os:List (List Int)} {p n i k:Nat} (hk:k<n):0≤(cntK os p n i).getD k 0∧(cntK os p n i).getD k 0≤(os.length:Int):=by
 unfold cntK
 rw [lst_get hk]
 have h1:(os.take i).countP (fun o=>decide (o.getD p 0=(k:Int)))≤(os.take i).length:=List.countP_le_length
 have h2:(os.take i).length≤os.length:=List.length_take_le' ..
 omega
theorem cntK_zero {os:List (List Int)} {p n:Nat}:cntK os p n 0=List.replicate n 0:=by
 refine lst_ext (by rw [cntK_len,List.length_replicate]) fun i hi=>?_
 rw [cntK_len] at hi
 unfold cntK
 rw [lst_get hi,List.take_zero,List.getD_eq_getElem?_getD,List.getElem?_replicate,if_pos hi]
 rfl
theorem cntK_all {os:List (List Int)} {p n:Nat}:grt (cntK os p n os.length)=lvsN n os p:=by
 unfold cntK lvsN
 rw [List.take_length]
set_option maxHeartbeats 1000000 in
theorem run_lvs {base a b id p bb:Nat} {h:Heap} {x:AVal} {L:Lac} {os:List (List Int)} (ga:h[a]?=some (pB id)) (gb:h[b]?=some (lsB x)) (hD:DskAt h id L) (hn:1≤L.C.length∧L.C.length≤7) (hA:AllI bb h x os) (hl:os.length≤823543) (ho:∀ o ∈ os,Ord L.C.length o) (hp:p<L.C.length) :
  callL prog raw base (.fn 110 [] [.ptr (some ⟨a,0,0⟩),.ptr (some ⟨b,0,0⟩)]) [.int .i64 (p:Int)] h=some (.int .i64 (lvsN L.C.length os p),h):=by
 obtain ⟨cv,rv,hg,hC,-⟩:=hD
 have la:=lt_of_get ga
 have lb:=lt_of_get gb
 have lid:=lt_of_get hg
 have ox:=hA.one
 have lc:=ld_cards hg
 have hlc:=lenI hC
 obtain ⟨G,eG⟩:∃ G,G=h++[srB (cntK os p L.C.length 0) 3 0]:=⟨_,rfl⟩
 have mk:makeSliceA prog h 22 (.int .i64 (L.C.length:Int)) (.int .i64 (L.C.length:Int))=some (.slice (some ⟨h.length,0,0⟩) L.C.length L.C.length,G):=by
  rw [make_full Fc.el22 (by omega) (by omega),rep_zero,eG,cntK_zero]
 have xG:Ext h G:=by rw [eG];exact .app .refl
 have gbG:=xG.get gb
 have hlx:=(hA.ext xG).len (by omega)
 unfold pB at ga
 unfold lsB at gb gbG
 refine callL_run func110 rfl rfl ?_
 have hsp:=@Nat.succ_ne_zero;repeat' (first|simp (disch:=first|exact dq|fail) only [go_sem,↓reduceIte,hsp,ga,lc,hlc,mk,gbG,hlx]|refine WP_drw ?_|refine cnd_intro (fun hsp=>?_) fun hsp=>?_)
 refine WP_count [(7,7),(17,30)] 0 os.length (Nat.zero_le _) (fun _ i fr H=>fr 17=.int .i64 (i:Int)∧H=h++[srB (cntK os p L.C.length i) 3 0]) ?_ ?_ ?_
 ·exact ⟨by (simp (disch:=first|exact dq|fail) only [go_sem,↓reduceIte,Int.natCast_zero];first|done|rfl),eG⟩
 ·rintro i fr H hi0 hi hA2 ⟨r17,eH⟩
  have q0:=hA2 0 rfl
  have q4:=hA2 4 rfl
  have q5:=hA2 5 rfl
  have q15:=hA2 15 rfl
  have q16:=hA2 16 rfl
  try simp (disch:=first|exact dq|fail) only [go_sem,↓reduceIte] at q0 q4 q5 q15 q16
  have hlt:((i:Int)<(os.length:Int))=True:=eq_true (by omega)
  obtain ⟨o,eo⟩:∃ o,o=os[i]:=⟨_,rfl⟩
  have hoi:os[i]?=some o:=by rw [eo];exact List.getElem?_eq_getElem hi
  have hoo:=ho o (List.mem_of_getElem? hoi)
  have xH:Ext h H:=by rw [eH];exact .app .refl
  have gH:H[h.length]?=some (srB (cntK os p L.C.length i) 3 0):=by rw [eH];exact get_eq rfl
  obtain ⟨ea,w,ad,ld,ow⟩:=hA.at (by omega) hoi
  have ld0:=ld H xH
  have oww:=ow.one
  have iw:=ownE_ints (ow.ext xH) (ord_small hoo (by omega))
  have hpo:p<o.length:=by rw [hoo.1];exact hp
  have ap:=adrI (i:=(p:Int)) (by omega) iw (by omega)
  rw [Int.toNat_natCast] at ap
  have lp:=loadI iw hpo
  have hr:=hoo.2.1 _ (getD_mem hpo)
  obtain ⟨c,ec⟩:=Int.eq_ofNat_of_zero_le hr.1
  rw [ec] at lp
  have hcn:c<L.C.length:=by omega
  have hcl:=cntK_len (os:=os) (p:=p) (n:=L.C.length) (i:=i)
  have hbd:=cntK_bd (os:=os) (p:=p) (i:=i) hcn
  have ac:indexAddrA prog 22 (.slice (some ⟨h.length,0,0⟩) L.C.length L.C.length) (.int .i64 (c:Int))=some (.ptr (some ⟨h.length,0,c⟩)):=by
   rw [adr_sl Fc.el22 Fc.ar22 (by omega) (by omega),Int.toNat_natCast,Nat.mul_one,Nat.zero_add]
  obtain ⟨m,em⟩:∃ m,m=(cntK os p L.C.length i).getD c 0:=⟨_,rfl⟩
  have d1:loadP prog H 3 (.ptr (some ⟨h.length,0,c⟩))=some (.int .i64 m):=by
   rw [load_eq,Fc.ty3,gH,em];exact ldB_ints (by omega)
  have hst:∀ {F:ABlk→Heap},stQ base h.length (some (srB (cntK os p L.C.length i) 3 0)) 0 c [.int .i64 (m+1)] F=some (F (srB (cntK os p L.C.length (i+1)) 3 0)):=fun {F}=>by
   rw [stQ_ints (by omega),em,cntK_step hoi ec hcn]
  have hst2:∀ {F:ABlk→Heap},stQ h.length h.length (some (srB (cntK os p L.C.length i) 3 0)) 0 c [.int .i64 (m+1)] F=some (F (srB (cntK os p L.C.length (i+1)) 3 0)):=fun {F}=>by
   rw [stQ_ints (by omega),em,cntK_step hoi ec hcn]
  have hset:H.set h.length (srB (cntK os p L.C.length (i+1)) 3 0)=h++[srB (cntK os p L.C.length (i+1)) 3 0]:=by
   rw [eH,List.set_append_right _ _ (Nat.le_refl _),Nat.sub_self];rfl
  have hmb:0≤m∧m≤823543:=by omega
  have hsp:=@Nat.succ_ne_zero;repeat' (first|simp (disch:=first|exact dq|fail) only [go_sem,↓reduceIte,hsp,r17,q0,q4,q5,q15,q16,hlt,ad,ld0,ap,lp,ac,d1,gH,hst2]|refine WP_drw ?_|refine cnd_intro (fun hsp=>?_) fun hsp=>?_)
  exact ⟨agq,by omega,hset⟩
 ·rintro fr H hA2 ⟨r17,eH⟩
  have q0:=hA2 0 rfl
  have q4:=hA2 4 rfl
  have q5:=hA2 5 rfl
  have q15:=hA2 15 rfl
  have q16:=hA2 16 rfl
  try simp (disch:=first|exact dq|fail) only [go_sem,↓reduceIte] at q0 q4 q5 q15 q16
  have hlt:((os.length:Int)<(os.length:Int))=False:=eq_false (by omega)
  have gH:H[h.length]?=some (srB (cntK os p L.C.length os.length) 3 0):=by rw [eH];exact get_eq rfl
  have hs:Small (cntK os p L.C.length os.length):=⟨by rw [cntK_len];omega,fun y hy=>by
   obtain ⟨k,hk,e⟩:=List.mem_iff_getElem.1 hy
   rw [cntK_len] at hk
   have:=cntK_bd (os:=os) (p:=p) (i:=os.length) hk
   rw [getD_at (by rw [cntK_len];exact hk),e] at this
   omega⟩
  have hI:Ints H (.slice (some ⟨h.length,0,0⟩) L.C.length L.C.length) (cntK os p L.C.length os.length):=by
   rw [eH];exact slice_row rfl (by rw [cntK_len]) hs
  have hgr:=fun base=>run_greatest (base:=base) hI
  rw [cntK_all] at hgr
  have hsp:=@Nat.succ_ne_zero;repeat' (first|simp (disch:=first|exact dq|fail) only [go_sem,↓reduceIte,hsp,r17,q0,q4,q5,q15,q16,hlt,hgr]|refine WP_drw ?_|refine cnd_intro (fun hsp=>?_) fun hsp=>?_)
  exact fI rfl (by rw [eH];exact .app .refl)
def askE (L:Lac):Int × Int × Int:=if (fndE L).2=0 then ((askN L.C.length (fnd L) L.C.length).1,(askN L.C.length (fnd L) L.C.length).2,0) else (0,0,(fndE L).2)
end Go.AM
namespace Go.AM
open Go.Proofs.Tryz
attribute [-go_sem] put_ne put_same
attribute [local go_sem ↓] put_if
theorem grt_le {l:List Int} {B:Int} (hB:0≤B) (h:∀ x ∈ l,x≤B):0≤grt l∧grt l≤B:=by
 refine ⟨grt_ge.1,?_⟩
 unfold grt
 rcases grt_is (l:=l) (a:=0) with q|q
 ·omega
 ·exact h _ q
theorem lvsN_bd {n:Nat} {os:List (List Int)} {p:Nat} (hl:os.length≤823543):0≤lvsN n os p∧lvsN n os p≤1000000:=by
 unfold lvsN
 refine grt_le (by omega) fun x hx=>?_
 obtain ⟨k,hk,e⟩:=List.mem_iff_getElem.1 hx
 rw [lst_len] at hk
 have:(lst (fun k=>((os.countP fun o=>decide (o.getD p 0=(k:Int)):Nat):Int)) n).getD k 0=x:=by rw [getD_at (by rw [lst_len];exact hk),e]
 rw [lst_get hk] at this
 have h2:os.countP (fun o=>decide (o.getD p 0=(k:Int)))≤os.length:=List.countP_le_length
 omega
abbrev lkB (g:AVal):ABlk:=⟨.cells [g] 134 false false,0⟩
set_option maxRecDepth 100000 in
set_option maxHeartbeats 2000000 in
theorem run_Ask {base:Nat} {h:Heap} {v:AVal} {L:Lac} (hL:LacAt h v L) :
  callL prog raw base (.fn 71 [] []) [v] h=some (.tuple [.int .i64 (askE L).1,.int .i64 (askE L).2.1,.int .i64 (askE L).2.2],h):=by
 have hL0:=hL
 obtain ⟨cv,rv,rfl,hC,hR⟩:=hL
 have o1:=hC.one
 have o2:=hR.one
 obtain ⟨G0,eG0⟩:∃ G0,G0=h++[lacB L.T cv rv]:=⟨_,rfl⟩
 have x0:Ext h G0:=by rw [eG0];exact .app .refl
 have g0:G0[h.length]?=some (lacB L.T cv rv):=by rw [eG0];exact get_eq rfl
 have l0:G0.length=h.length+1:=by rw [eG0];simp
 obtain ⟨w1,H1,e1,x1,a,x,rfl,oa,hA,hD⟩:=run_found (base:=h.length) (h:=G0) (by omega) (hL0.ext x0)
 have ox:=hA.one
 have l1:=x1.len
 obtain ⟨H2,eH2⟩:∃ H2,H2=H1++[(⟨.cells [a] 70 false false,0⟩:ABlk)]:=⟨_,rfl⟩
 obtain ⟨H3,eH3⟩:∃ H3,H3=H2++[lsB x]:=⟨_,rfl⟩
 have x2:Ext H1 H2:=by rw [eH2];exact .app .refl
 have x3:Ext H2 H3:=by rw [eH3];exact .app .refl
 have l2:H2.length=H1.length+1:=by rw [eH2];simp
 have l3:H3.length=H1.length+2:=by rw [eH3];simp [l2]
 have ga:H3[H1.length]?=some ⟨.cells [a] 70 false false,0⟩:=x3.get (by rw [eH2];exact get_eq rfl)
 have gb:H3[H1.length+1]?=some (lsB x):=by rw [eH3];exact get_eq l2.symm
 have xh3:=((x0.trans x1).trans x2).trans x3
 unfold lacB at eG0 g0
 have eH3':=eH3
 unfold lsB at eH3'
 refine callL_run func71 rfl rfl ?_
 by_cases c:(fndE L).2=0
 ·obtain ⟨c1,c2,c3⟩:=fndE_ok c
  have kn:=(chkL_iff.1 c1).n
  have r:askE L=((askN L.C.length (fnd L) L.C.length).1,(askN L.C.length (fnd L) L.C.length).2,0):=by unfold askE;rw [if_pos c]
  obtain ⟨id,rfl,hDk⟩:=hD c
  rw [r]
  rw [c3] at hA e1
  have hAI:AllI G0.length H1 x (fnd L):=hA.all
  have hfew:=fnd_few (L:=L) kn.2
  obtain ⟨H4,eH4⟩:∃ H4,H4=H3++[lkB (.fn 110 [] [.ptr (some ⟨H1.length,0,0⟩),.ptr (some ⟨H1.length+1,0,0⟩)])]:=⟨_,rfl⟩
  have x4:Ext H3 H4:=by rw [eH4];exact .app .refl
  have l4:H4.length=H1.length+3:=by rw [eH4];simp [l3]
  have g4:H4[H3.length]?=some (lkB (.fn 110 [] [.ptr (some ⟨H1.length,0,0⟩),.ptr (some ⟨H1.length+1,0,0⟩)])):=by rw [eH4];exact get_eq rfl
  have ga4:=x4.get ga
  have gb4:=x4.get gb
  have x14:=(x2.trans x3).trans x4
  have hD4:=hDk.ext x14
  have hlv:=fun base p (hp:p<L.C.length)=>run_lvs (base:=base) (p:=p) ga4 gb4 hD4 kn (hAI.ext x14) hfew (fun o ho=>fnd_ord ho) hp
  obtain ⟨cv',rv',hg,hC',-⟩:=hD4
  have lc:=ld_cards hg
  have hlc:=lenI hC'
  have hlb:=fun p=>lvsN_bd (n:=L.C.length) (p:=p) hfew
  unfold lkB at eH4 g4
  have hsp:=@Nat.succ_ne_zero;repeat' (first|simp (disch:=first|exact dq|fail) only [go_sem,↓reduceIte,hsp,← eG0,g0,e1,eq_self,← eH2,← eH3',ga,gb,← eH4,ga4,lc,hlc]|refine WP_drw ?_|refine cnd_intro (fun hsp=>?_) fun hsp=>?_)
  obtain ⟨A,eA⟩:∃ A,A=askN L.C.length (fnd L):=⟨_,rfl⟩
  rw [← eA]
  refine WP_count [(2,3),(8,9),(27,43)] 0 L.C.length (Nat.zero_le _) (fun _ i fr H=>fr 27=.int .i64 (i:Int)∧H=H4∧fr 2=.int .i64 (A i).1∧fr 3=.int .i64 (A i).2) ?_ ?_ ?_
  ·exact ⟨by (simp (disch:=first|exact dq|fail) only [go_sem,↓reduceIte,Int.natCast_zero];first|done|rfl),rfl,by rw [eA];simp (disch:=first|exact dq|fail) only [go_sem,↓reduceIte];rfl,by rw [eA];simp (disch:=first|exact dq|fail) only [go_sem,↓reduceIte];rfl⟩
  ·rintro i fr H hi0 hi hA2 ⟨r27,rfl,r2,r3⟩
   have q4:=hA2 4 rfl
   have q7:=hA2 7 rfl
   have q26:=hA2 26 rfl
   try simp (disch:=first|exact dq|fail) only [go_sem,↓reduceIte] at q4 q7 q26
   have hlt:((i:Int)<(L.C.length:Int))=True:=eq_true (by omega)
   have hlv0:=fun base=>hlv base i hi
   obtain ⟨m,em⟩:∃ m,m=lvsN L.C.length (fnd L) i:=⟨_,rfl⟩
   rw [← em] at hlv0
   have hs:A (i+1)=if i=0 ∨ m<(A i).2 then ((i:Int),m) else A i:=by rw [eA,askN,em]
   by_cases q1:i=0
   ·have t1:((i:Int)=0)=True:=eq_true (by omega)
    rw [if_pos (.inl q1)] at hs
    have hsp:=@Nat.succ_ne_zero;repeat' (first|simp (disch:=first|exact dq|fail) only [go_sem,↓reduceIte,hsp,r27,r2,r3,q4,q7,q26,hlt,g4,hlv0,t1]|refine WP_drw ?_|refine cnd_intro (fun hsp=>?_) fun hsp=>?_)
    exact ⟨agq,by omega,by rw [hs],by rw [hs]⟩
   ·have t1:((i:Int)=0)=False:=eq_false (by omega)
    by_cases q2:m<(A i).2
    ·have t2:(m<(A i).2)=True:=eq_true q2
     rw [if_pos (.inr q2)] at hs
     have hsp:=@Nat.succ_ne_zero;repeat' (first|simp (disch:=first|exact dq|fail) only [go_sem,↓reduceIte,hsp,r27,r2,r3,q4,q7,q26,hlt,g4,hlv0,t1,t2]|refine WP_drw ?_|refine cnd_intro (fun hsp=>?_) fun hsp=>?_)
     exact ⟨agq,by omega,by rw [hs],by rw [hs]⟩
    ·have t2:(m<(A i).2)=False:=eq_false q2
     rw [if_neg (fun z=>z.elim q1 q2)] at hs
     have hsp:=@Nat.succ_ne_zero;repeat' (first|simp (disch:=first|exact dq|fail) only [go_sem,↓reduceIte,hsp,r27,r2,r3,q4,q7,q26,hlt,g4,hlv0,t1,t2]|refine WP_drw ?_|refine cnd_intro (fun hsp=>?_) fun hsp=>?_)
     exact ⟨agq,by omega,by rw [hs],by rw [hs]⟩
  ·rintro fr H hA2 ⟨r27,rfl,r2,r3⟩
   have q4:=hA2 4 rfl
   have q7:=hA2 7 rfl
   have q26:=hA2 26 rfl
   try simp (disch:=first|exact dq|fail) only [go_sem,↓reduceIte] at q4 q7 q26
   have hlt:((L.C.length:Int)<(L.C.length:Int))=False:=eq_false (by omega)
   have hsp:=@Nat.succ_ne_zero;repeat' (first|simp (disch:=first|exact dq|fail) only [go_sem,↓reduceIte,hsp,r27,r2,r3,q4,q7,q26,hlt]|refine WP_drw ?_|refine cnd_intro (fun hsp=>?_) fun hsp=>?_)
   exact fIII rfl rfl rfl (xh3.trans x4)
 ·have t0:((fndE L).2=0)=False:=eq_false c
  have r:askE L=(0,0,(fndE L).2):=by unfold askE;rw [if_neg c]
  rw [r]
  have hsp:=@Nat.succ_ne_zero;repeat' (first|simp (disch:=first|exact dq|fail) only [go_sem,↓reduceIte,hsp,← eG0,g0,e1,t0,← eH2,← eH3']|refine WP_drw ?_|refine cnd_intro (fun hsp=>?_) fun hsp=>?_)
  exact fIII rfl rfl rfl xh3
end Go.AM
namespace Go.AM
open Go.Proofs.Tryz
attribute [-go_sem] put_ne put_same
attribute [local go_sem ↓] put_if
def rws4:List Rw3:=[(0,1,1),(5,6,0),(2,4,4),(3,4,4)]
def lac4 (r:Nat):Lac:=⟨3,[1,2,3,4],rws4.take r⟩
theorem bs4 {lit:Bool} {H:Heap} {a b c d:Int}:lit=false→bsA prog lit H 22 4 [(0,.int .i64 a),(1,.int .i64 b),(2,.int .i64 c),(3,.int .i64 d)]=some (.slice (some ⟨H.length,0,0⟩) 4 4,H++[rowB [a,b,c,d] 0]):=by
 intro hl;subst hl;simp [bsA,rowOf,Fc.el22,fillA,repCells,AVal.isN,AVal.cells,splice,rowB,ints]
theorem bs3 {lit:Bool} {H:Heap} {a b c:Int}:lit=false→bsA prog lit H 22 3 [(0,.int .i64 a),(1,.int .i64 b),(2,.int .i64 c)]=some (.slice (some ⟨H.length,0,0⟩) 3 3,H++[rowB [a,b,c] 0]):=by
 intro hl;subst hl;simp [bsA,rowOf,Fc.el22,fillA,repCells,AVal.isN,AVal.cells,splice,rowB,ints]
theorem bs5 {lit:Bool} {H:Heap} {a b c d e:Int}:lit=false→bsA prog lit H 22 5 [(0,.int .i64 a),(1,.int .i64 b),(2,.int .i64 c),(3,.int .i64 d),(4,.int .i64 e)]=some (.slice (some ⟨H.length,0,0⟩) 5 5,H++[rowB [a,b,c,d,e] 0]):=by
 intro hl;subst hl;simp [bsA,rowOf,Fc.el22,fillA,repCells,AVal.isN,AVal.cells,splice,rowB,ints]
theorem bsR4 {lit:Bool} {H:Heap}:bsA prog lit H 23 4 [(0,.agg [.int .i64 0,.int .i64 1,.int .i64 1]),(1,.agg [.int .i64 5,.int .i64 6,.int .i64 0]),(2,.agg [.int .i64 2,.int .i64 4,.int .i64 4]),(3,.agg [.int .i64 3,.int .i64 4,.int .i64 4])]=some (.slice (some ⟨H.length,0,0⟩) 4 4,H++[rowE encR 28 rws4 0]):=by
 simp [bsA,rowOf,Fc.el23,fillA,repCells,AVal.isN,AVal.cells,splice,rowE,flat,encR,rws4]
theorem bsM2 {lit:Bool} {H:Heap}:bsA prog lit H 37 2 [(0,.agg [.int .i64 1,.int .i64 0]),(1,.agg [.int .i64 3,.int .i64 1])]=some (.slice (some ⟨H.length,0,0⟩) 2 2,H++[rowE encM 41 [(1,0),(3,1)] 0]):=by
 simp [bsA,rowOf,Fc.el37,fillA,repCells,AVal.isN,AVal.cells,splice,rowE,flat,encM]
theorem run_Four {base r:Nat} {h:Heap} (hb:base≤h.length) (hr:r≤4):Ret prog raw base (.fn 4 [] []) [.int .i64 (r:Int)] h (fun w H=>Ext h H∧LacAt H w (lac4 r)):=by
 obtain ⟨H1,e1⟩:∃ H1,H1=h++[lacB 0 (.slice none 0 0) (.slice none 0 0)]:=⟨_,rfl⟩
 obtain ⟨H2,e2⟩:∃ H2,H2=H1++[rowE encR 28 rws4 0]:=⟨_,rfl⟩
 obtain ⟨H3,e3⟩:∃ H3,H3=H2++[rowB [1,2,3,4] 0]:=⟨_,rfl⟩
 have l1:H1.length=h.length+1:=by rw [e1];simp
 have l2:H2.length=h.length+2:=by rw [e2];simp [l1]
 have l3:H3.length=h.length+3:=by rw [e3];simp [l2]
 have x1:Ext h H1:=by rw [e1];exact .app .refl
 have x2:Ext H1 H2:=by rw [e2];exact .app .refl
 have x3:Ext H2 H3:=by rw [e3];exact .app .refl
 have g1:H3[h.length]?=some (lacB 0 (.slice none 0 0) (.slice none 0 0)):=x3.get (x2.get (by rw [e1];exact get_eq rfl))
 have g2:H3[H1.length]?=some (rowE encR 28 rws4 0):=x3.get (by rw [e2];exact get_eq rfl)
 have g3:H3[H2.length]?=some (rowB [1,2,3,4] 0):=by rw [e3];exact get_eq rfl
 have ln:∀ {H:Heap},lenOpA prog H 23 (.slice (some ⟨H1.length,0,0⟩) 4 4)=some (.int .i64 4):=fun {H}=>by simp [lenOpA,Fc.el23,lenA]
 have mn:min (r:Int) 4=(r:Int):=by omega
 have mx:max 0 (r:Int)=(r:Int):=by omega
 have sl:sliceA prog 23 (.slice (some ⟨H1.length,0,0⟩) 4 4) none (some (.int .i64 (r:Int))) none=some (.slice (some ⟨H1.length,0,0⟩) r 4):=by
  simp only [sliceA,Fc.ar23,Fc.el23,optB,boundI (show (0:Int)≤(r:Int) by omega) (show (r:Int)≤((4:Nat):Int) by omega)]
  simp [ARef.add]
 have hfin:Ext h (H3.set h.length (lacB 3 (.slice (some ⟨H2.length,0,0⟩) 4 4) (.slice (some ⟨H1.length,0,0⟩) r 4)))∧LacAt (H3.set h.length (lacB 3 (.slice (some ⟨H2.length,0,0⟩) 4 4) (.slice (some ⟨H1.length,0,0⟩) r 4))) (.agg [.int .i64 3,.slice (some ⟨H2.length,0,0⟩) 4 4,.slice (some ⟨H1.length,0,0⟩) r 4]) (lac4 r):=by
  refine ⟨((x1.trans x2).trans x3).set (Nat.le_refl _),_,_,rfl,?_,?_⟩
  ·refine ⟨⟨by show ([1,2,3,4]:List Int).length<2 ^ 60;decide,by show ∀ x ∈ ([1,2,3,4]:List Int),_;decide⟩,.inr (.inr ⟨⟨H2.length,0,0⟩,4,ints [1,2,3,4],3,true,false,rfl,?_,rfl,by show 0+([1,2,3,4]:List Int).length≤4;decide,by show ([1,2,3,4]:List Int).length≤4;decide⟩)⟩
   rw [List.getElem?_set_ne (by show h.length ≠ H2.length;omega)];exact g3
  ·have hlen:(rws4.take r).length=r:=by rw [List.length_take];exact Nat.min_eq_left hr
   refine ⟨by show (rws4.take r).length<_;omega,.inr (.inr ⟨⟨H1.length,0,0⟩,4,flat encR rws4,28,true,false,by show _=AVal.slice _ (rws4.take r).length _;rw [hlen],?_,?_,?_,by show (rws4.take r).length≤4;omega⟩)⟩
   ·rw [List.getElem?_set_ne (by show h.length ≠ H1.length;omega)];exact g2
   ·show ((flat encR rws4).drop 0).take ((rws4.take r).length * 3)=flat encR (rws4.take r)
    rw [hlen]
    have:r=0 ∨ r=1 ∨ r=2 ∨ r=3 ∨ r=4:=by omega
    rcases this with rfl|rfl|rfl|rfl|rfl<;>rfl
   ·show 0+(rws4.take r).length * 3≤12
    omega
 unfold lacB at e1 g1 hfin
 refine ret_raw func4 rfl (by kernel_rfl) ?_
 have hsp:=@Nat.succ_ne_zero;repeat' (first|simp (disch:=first|exact dq|fail) only [go_sem,↓reduceIte,hsp,← e1,bsR4,← e2,bs4,← e3,ln,mn,mx,sl,g1]|refine WP_drw ?_|refine cnd_intro (fun hsp=>?_) fun hsp=>?_)
 exact hfin
theorem kw4:kwnE (lac4 2)=([2,0,-1,-1],0):=by kernel_rfl
theorem cn4:cntE (lac4 2)=(2,0):=by kernel_rfl
theorem as4:askE (lac4 2)=(2,1,0):=by kernel_rfl
theorem gp4:gpsE (lac4 4) [2,3]=(1,0):=by kernel_rfl
theorem ri5:risE [2,0,3,1,4]=([0,2,4],0):=by kernel_rfl
theorem mk5:makE [2,0,3,1,4] [(1,0),(3,1)]=([0,1,2,3,4],0):=by kernel_rfl
end Go.AM
namespace Go.AM
open Go.Proofs.Tryz
attribute [-go_sem] put_ne put_same
attribute [local go_sem ↓] put_if
theorem small5:Small [2,0,3,1,4]:=⟨by decide,by decide⟩
set_option maxRecDepth 100000 in
set_option maxHeartbeats 4000000 in
theorem run_awake {base:Nat} {h:Heap}:callL prog raw base (.fn 16 [] []) [] h=some (.bool true,h):=by
 obtain ⟨b,eb⟩:∃ b,b=h.length:=⟨_,rfl⟩
 obtain ⟨v1,H1,e1,x1,c1⟩:=run_Four (base:=h.length) (r:=2) (h:=h) (Nat.le_refl _) (by omega)
 have n1:=x1.len
 obtain ⟨_,H2,e2,x2,k1,rfl,o2⟩:=run_Known (base:=h.length) (h:=H1) (by omega) c1
 rw [kw4] at e2 o2
 have n2:=x2.len
 obtain ⟨v3,H3,e3,x3,c3⟩:=run_Four (base:=h.length) (r:=2) (h:=H2) (by omega) (by omega)
 have n3:=x3.len
 have e4:=run_Count (base:=h.length) c3
 rw [cn4] at e4
 obtain ⟨v5,H5,e5,x5,c5⟩:=run_Four (base:=h.length) (r:=2) (h:=H3) (by omega) (by omega)
 have n5:=x5.len
 have e6:=run_Ask (base:=h.length) c5
 rw [as4] at e6
 obtain ⟨v7,H7,e7,x7,c7⟩:=run_Four (base:=h.length) (r:=4) (h:=H5) (by omega) (by omega)
 have n7:=x7.len
 obtain ⟨H8,eH8⟩:∃ H8,H8=H7++[rowB [2,3] 0]:=⟨_,rfl⟩
 have x8:Ext H7 H8:=by rw [eH8];exact .app .refl
 have n8:=x8.len
 have e8:=run_Gapes (base:=h.length) (gap:=[2,3]) (gv:=.slice (some ⟨H7.length,0,0⟩) 2 2) (c7.ext x8) (by rw [eH8];exact slice_row rfl rfl ⟨by decide,by decide⟩)
 rw [gp4] at e8
 obtain ⟨H9,eH9⟩:∃ H9,H9=H8++[rowB [2,0,3,1,4] 0]:=⟨_,rfl⟩
 have x9:Ext H8 H9:=by rw [eH9];exact .app .refl
 have n9:=x9.len
 obtain ⟨_,H10,e10,x10,k2,rfl,o10⟩:=run_Rise (base:=h.length) (h:=H9) (v:=.slice (some ⟨H8.length,0,0⟩) 5 5) (o:=[2,0,3,1,4]) (by omega) (by rw [eH9];exact slice_row rfl rfl small5)
 rw [ri5] at e10 o10
 have n10:=x10.len
 obtain ⟨H11,eH11⟩:∃ H11,H11=H10++[rowB [2,0,3,1,4] 0]:=⟨_,rfl⟩
 have x11:Ext H10 H11:=by rw [eH11];exact .app .refl
 have n11:=x11.len
 obtain ⟨H12,eH12⟩:∃ H12,H12=H11++[rowE encM 41 [(1,0),(3,1)] 0]:=⟨_,rfl⟩
 have x12:Ext H11 H12:=by rw [eH12];exact .app .refl
 have n12:=x12.len
 obtain ⟨_,H13,e13,x13,k3,rfl,o13⟩:=run_Make (base:=h.length) (h:=H12) (v:=.slice (some ⟨H10.length,0,0⟩) 5 5) (mv:=.slice (some ⟨H11.length,0,0⟩) 2 2) (o:=[2,0,3,1,4]) (ms:=[(1,0),(3,1)]) (by omega)
  (Ints.ext (by rw [eH11];exact slice_row rfl rfl small5) x12) (Rows.own (by rw [eH12];exact get_eq rfl) rfl (by decide)) (by decide)
 rw [mk5] at e13 o13
 have n13:=x13.len
 have ok1:=o2.one
 have ok2:=o10.one
 have ok3:=o13.one
 have i1:Ints H2 k1 [2,0,-1,-1]:=ownE_ints o2 ⟨by decide,by decide⟩
 have i2:Ints H10 k2 [0,2,4]:=own_ints o10 ⟨by decide,by decide⟩
 have i3:Ints H13 k3 [0,1,2,3,4]:=ownE_ints o13 ⟨by decide,by decide⟩
 have y10:=(x11.trans x12).trans x13
 have y2:=(((((x3.trans x5).trans x7).trans x8).trans x9).trans x10).trans y10
 obtain ⟨K1,eK1⟩:∃ K1,K1=H13++[rowB [2,0,-1,-1] 0]:=⟨_,rfl⟩
 have z1:Ext H13 K1:=by rw [eK1];exact .app .refl
 obtain ⟨K2,eK2⟩:∃ K2,K2=K1++[rowB [0,2,4] 0]:=⟨_,rfl⟩
 have z2:Ext K1 K2:=by rw [eK2];exact .app .refl
 obtain ⟨K3,eK3⟩:∃ K3,K3=K2++[rowB [0,1,2,3,4] 0]:=⟨_,rfl⟩
 have z3:Ext K2 K3:=by rw [eK3];exact .app .refl
 have q1:=run_eqI (base:=h.length) (h:=K1) (b:=.slice (some ⟨H13.length,0,0⟩) 4 4) (m:=[2,0,-1,-1]) (i1.ext (y2.trans z1)) (by rw [eK1];exact slice_row rfl rfl ⟨by decide,by decide⟩)
 have q2:=run_eqI (base:=h.length) (h:=K2) (b:=.slice (some ⟨K1.length,0,0⟩) 3 3) (m:=[0,2,4]) (i2.ext ((y10.trans z1).trans z2)) (by rw [eK2];exact slice_row rfl rfl ⟨by decide,by decide⟩)
 have q3:=run_eqI (base:=h.length) (h:=K3) (b:=.slice (some ⟨K2.length,0,0⟩) 5 5) (m:=[0,1,2,3,4]) (i3.ext ((z1.trans z2).trans z3)) (by rw [eK3];exact slice_row rfl rfl ⟨by decide,by decide⟩)
 rw [decide_eq_true rfl] at q1 q2 q3
 have xf:Ext h K3:=((((x1.trans x2).trans y2).trans z1).trans z2).trans z3
 rw [show ((2:Nat):Int)=2 from rfl] at e1 e3 e5
 rw [show ((4:Nat):Int)=4 from rfl] at e7
 refine callL_run func16 rfl rfl ?_
 have hsp:=@Nat.succ_ne_zero;repeat' (first|simp (disch:=first|exact dq|fail) only [go_sem,↓reduceIte,hsp,e1,e2,e3,e4,e5,e6,e7,bs2,← eH8,e8,bs5,← eH9,e10,← eH11,bsM2,← eH12,e13,eq_self,decide_true,bs4,← eK1,q1,bs3,← eK2,q2,← eK3,q3]|refine WP_drw ?_|refine cnd_intro (fun hsp=>?_) fun hsp=>?_)
 exact fB rfl xf
end Go.AM
namespace Go.AM
open Go.Proofs.Tryz
attribute [-go_sem] put_ne put_same
attribute [local go_sem ↓] put_if
end Go.AM
namespace Go.AM
open Go.Proofs.Tryz
attribute [-go_sem] put_ne put_same
attribute [local go_sem ↓] put_if
structure MadeOk (T:Int) (C:List Int) (N:Nat):Prop where
 tb:1≤T∧T≤8
 n:1≤C.length∧C.length≤N
 c:∀ x ∈ C,0≤x∧x≤2 ^ T.toNat-1
 d:C.Nodup
end Go.AM
namespace Go.AM
open Go.Proofs.Tryz
attribute [-go_sem] put_ne put_same
attribute [local go_sem ↓] put_if
end Go.AM
namespace Go.AM
open Go.Proofs.Tryz
attribute [-go_sem] put_ne put_same
attribute [local go_sem ↓] put_if
section
variable {G H:Heap} {id:Nat} {v:AVal} {silk:List Int} {b:Nat} {T:Int} {C:List Int} {R:List Rw3} {o:List Int} {cv rv ov:AVal} {k N most:Nat}
end
theorem fndE_in {L:Lac} {o:List Int} (hc:chkL L=0) (h:o ∈ fnd L):fndE L=(fnd L,0)∧fnd L ≠ []:=by
 have hne:fnd L ≠ []:=fun q=>by rw [q] at h;cases h
 exact ⟨by unfold fndE;rw [if_neg (by simp [hc]),if_neg hne],hne⟩
theorem found_all {L:Lac} {o:List Int} (hc:chkL L=0) (h:o ∈ fnd L):cntE L=(((fnd L).length:Int),0)∧kwnE L=(knwL L.C.length (fnd L),0)∧frsE L=((fnd L).headD [],0)∧(fnd L).headD [] ∈ fnd L∧askE L=((askN L.C.length (fnd L) L.C.length).1,(askN L.C.length (fnd L) L.C.length).2,0)∧dcdE L=(dcdL L.C.length (fnd L),0)∧1≤(fnd L).length:=by
 obtain ⟨e,hne⟩:=fndE_in hc h
 refine ⟨?_,?_,?_,?_,?_,?_,List.length_pos_of_mem h⟩
 ·unfold cntE;rw [e];simp
 ·unfold kwnE;rw [e];simp
 ·unfold frsE;rw [e];simp
 ·cases q:fnd L with
  | nil=>exact absurd q hne
  | cons a l=>simp
 ·unfold askE;rw [e];simp
 ·unfold dcdE;rw [e];simp
theorem knwL_len {n:Nat} {os:List (List Int)}:(knwL n os).length=n:=lst_len
theorem knwL_at {n p:Nat} {os:List (List Int)} (hp:p<n):(knwL n os).getD p 0=if (os.all fun x=>decide (x.getD p 0=(os.headD []).getD p 0))=true then (os.headD []).getD p 0 else -1:=lst_get hp
theorem knwL_sure {n p:Nat} {os:List (List Int)} (hp:p<n) (h:(knwL n os).getD p 0 ≠ -1):∀ x ∈ os,x.getD p 0=(knwL n os).getD p 0:=by
 rw [knwL_at hp] at h ⊢
 split
 ·rename_i q
  exact fun x hx=>of_decide_eq_true (List.all_eq_true.1 q x hx)
 ·rename_i q
  rw [if_neg q] at h
  exact absurd rfl h
theorem fnd_bd {L:Lac} {o:List Int} {p:Nat} (ho:o ∈ fnd L) (hp:p<L.C.length):0≤o.getD p 0∧o.getD p 0<(L.C.length:Int):=(ord_at (fnd_ord ho) hp).2
theorem knwL_bd {L:Lac} {p:Nat} {o:List Int} (ho:o ∈ fnd L) (hp:p<L.C.length):-1≤(knwL L.C.length (fnd L)).getD p 0∧(knwL L.C.length (fnd L)).getD p 0<(L.C.length:Int):=by
 by_cases h:(knwL L.C.length (fnd L)).getD p 0=-1
 ·omega
 ·have:=knwL_sure hp h o ho
  have h2:=fnd_bd ho hp
  omega
theorem knwL_small {L:Lac} {o:List Int} (ho:o ∈ fnd L) (hn:L.C.length≤7):Small (knwL L.C.length (fnd L)):=by
 refine ⟨by rw [knwL_len];omega,fun x hx=>?_⟩
 obtain ⟨p,hp,e⟩:=List.mem_iff_getElem.1 hx
 rw [knwL_len] at hp
 have:=knwL_bd ho hp
 rw [getD_at (by rw [knwL_len];exact hp),e] at this
 omega
end Go.AM
namespace Go.AM
section
variable {n:Nat} {os:List (List Int)} (hn:os.Nodup) (ho:∀ o ∈ os,Ord n o)
include hn ho
end
def lookR (L:Lac) (p k:Nat):Rw3:=((p:Int),2 ^ L.T.toNat-1,L.C.getD k 0)
def lvsK (os:List (List Int)) (p k:Nat):Int:=grt (lst (fun k=>(os.countP fun o=>decide (o.getD p 0=(k:Int)):Nat)) k)
theorem lvsK_all {n:Nat} {os:List (List Int)} {p:Nat}:lvsK os p n=lvsN n os p:=rfl
end Go.AM
namespace Go.AM
open Go.Proofs.Tryz
attribute [-go_sem] put_ne put_same
attribute [local go_sem ↓] put_if
end Go.AM
namespace Go.AM
open Go.Proofs.Tryz
attribute [-go_sem] put_ne put_same
attribute [local go_sem ↓] put_if
end Go.AM
namespace Go.AM
open Go.Proofs.Tryz
attribute [-go_sem] put_ne put_same
attribute [local go_sem ↓] put_if
theorem found_none {L:Lac} (hc:chkL L=0) (h:fnd L=[]):frsE L=([],7)∧kwnE L=([],7)∧cntE L=(0,0)∧rngE L=7∧gapE L=0:=by
 have e:fndE L=([],7):=by unfold fndE;rw [if_neg (by simp [hc]),if_pos h]
 refine ⟨by unfold frsE;rw [e];simp,by unfold kwnE;rw [e];simp,by unfold cntE;rw [e];simp,by unfold rngE;rw [e];simp,?_⟩
 unfold gapE
 rw [if_pos hc,if_neg (fun q=>gap_none q h)]
theorem found_some {L:Lac} (hc:chkL L=0) (h:fnd L ≠ []):gapE L=6∧rngE L=if (fnd L).length=1 then 6 else 0:=by
 have e:fndE L=(fnd L,0):=by unfold fndE;rw [if_neg (by simp [hc]),if_neg h]
 refine ⟨?_,by unfold rngE;rw [e];simp⟩
 unfold gapE
 rw [if_pos hc,if_pos]
 cases q:gapO L with
 | none=>rfl
 | some l=>exact absurd (gap_some q).2.2 h
theorem gap_is {L:Lac} {l:List Int} (hc:chkL L=0) (h:gapO L=some l):gpsE L l=((l.length:Int)-fittN L l,0)∧1≤(l.length:Int)-fittN L l∧l.length≤L.C.length∧Small l:=by
 obtain ⟨h1,h2,_⟩:=gap_some h
 obtain ⟨s1,s2⟩:=sub_upto.1 h1
 have hl:=sub_len h1
 have hn:=(chkL_iff.1 hc).n
 have hnd:l.Nodup:=s1.imp fun q=>by omega
 have u1:¬ (¬ (l.all fun x=>decide (0≤x∧x≤(L.C.length:Int)-1))=true):=fun q=>q (List.all_eq_true.2 fun x hx=>decide_eq_true (by have:=s2 x hx;omega))
 have u2:¬ (l=[] ∨ sortB l=false ∨ twB l=true):=by
  rintro (q|q|q)
  ·rw [q] at h2;simp at h2
  ·rw [pair_sortB (s1.imp fun q=>by omega)] at q;cases q
  ·exact (of_decide_eq_true q) hnd
 refine ⟨?_,by omega,hl,⟨by omega,fun x hx=>by have:=s2 x hx;omega⟩⟩
 unfold gpsE
 rw [if_neg (by simp [hc]),if_neg u1,if_neg u2,if_neg (by omega)]
theorem ring_is {L:Lac} {l:List Int} (hc:chkL L=0) (h:IsRing L l):trdE L ((fnd L).headD []) l=(trnL ((fnd L).headD []) l,0)∧trnL ((fnd L).headD []) l ∈ fnd L∧trnL ((fnd L).headD []) l ≠ (fnd L).headD []∧Small l:=by
 obtain ⟨o1,o2,a,r,f1,f2,ha,had,hr0,hrb,hrm,rfl⟩:=h
 have hd:(fnd L).headD []=o1:=by
  cases q:fnd L with
  | nil=>rw [q] at f1;simp at f1
  | cons x y=>rw [q] at f1;simpa using f1
 have m1:=List.mem_of_getElem? f1
 have m2:=List.mem_of_getElem? f2
 have h1:=fnd_ord m1
 have h2:=fnd_ord m2
 rw [hd]
 have hn:=(chkL_iff.1 hc).n
 have r2:=ring_two h1 h2 ha hr0 hrb hrm had
 have hr7:=itr_few h1 h2 ha hrm
 have hT:=trnL_ord h1 h2 ha hr0 hrb hrm
 have hX:=trnL_xpl h1 h2 ha hr0 hrb hrm rfl (fnd_mem.1 m1).2 (fnd_mem.1 m2).2
 have hin:∀ x ∈ rngL o1 o2 a r,0≤x∧x<(L.C.length:Int):=fun x hx=>by
  obtain ⟨i,hi,e⟩:=List.mem_iff_getElem.1 hx
  rw [rngL_len] at hi
  have:=itr_lt h1 h2 ha i
  rw [← getD_at (d:=0) (by rw [rngL_len];exact hi),rngL_at hi] at e
  omega
 have hlc:lcdE L o1=0:=by unfold lcdE;rw [if_pos hc];exact ordL_iff.2 h1
 refine ⟨?_,fnd_mem.2 ⟨hT,hX⟩,trnL_ne h1 h2 ha hr0 hrb hrm had,⟨by rw [rngL_len];omega,fun x hx=>by have:=hin x hx;omega⟩⟩
 unfold trdE
 rw [if_neg (by simp [hlc]),if_neg (by rw [rngL_len];omega),if_neg (fun q=>q (List.all_eq_true.2 fun x hx=>decide_eq_true (by have:=hin x hx;omega))),if_neg (fun q=>(of_decide_eq_true q) (ring_nodup h1 h2 ha hr0 hrb hrm)),if_pos]
 rw [xplD_iff.2 (fnd_mem.1 m1).2,h1.1,← hT.1,xplD_iff.2 hX];rfl
end Go.AM
